/- A part of the proof: a verified generator of conditions, and what each function of the program does. -/
import Derived.Test.YtfinipknacaojaaGreatR8
set_option maxRecDepth 100000
set_option maxHeartbeats 4000000
set_option linter.unusedSimpArgs false
set_option linter.unusedVariables false

namespace Go.Vc.T
open Go Go.Vc Go.Proofs
attribute [local simp] eL eI Qm Q1x Q3h Fn.cells Tra.cells
noncomputable def QE (t_:Tra):Option Int :=
 (QH (σ:=Int) (ε:=Unit ⊕ Int) (fun s6 =>
  if s6<(t_.s.ar.length:Int) then
   (Q24 t_.s t_.t t_.p s6).bind fun v8 =>
   if ¬ (v8=true) then
    some (Ctl.ret (Sum.inr s6))
   else
    ass (B64 (s6+1)) <|
    some (Ctl.next (s6+1))
  else
   some (Ctl.ret (Sum.inl ()))) fuel 0).bind fun e1 =>
 match e1 with
 | .inl b1 =>
  some (-1)
 | .inr p1 =>
  some p1
theorem wkQ9 {F : Fx} {st st' : St} (m : List (Nat × Nat)) (h : (m.map Prod.fst).Nodup ∧ (m.map Prod.snd).Nodup ∧ (∀ id, id < F.pins → look id m = some id) ∧ (∀ p ∈ m, p.2 < st'.n) ∧ (∀ p ∈ st'.h, p.1 < st'.n) ∧ (∀ p ∈ st'.s, p.2 = rl m (st.get p.1) ∨ p.2 = .bot) ∧ ∀ p ∈ st'.h, hhOk m st.h p.1 p.2 := by simp [hP, hhOk, back, Fn.cells, Tra.cells, UA, U1, IA, I1, LA, L1, BA, B1, EA, E1, E2, eB, eI, eL, Cat.cells, Adj.cells, Mnd.cells]) : Wk F st st' := Wk.r1 m h
theorem Q2L (t_:Tra) (r:Int) (h:QE t_=some r):Contract Tryz.prog 135 [.rptr (t_.cells true),.fn 136 []] (iV r):=by
 refine Qd (rvs:=[.tmp 4]) (rs:=[iV r]) Tryz.func135 rfl rfl rfl rfl (by simp [Tryz.f135]) fun F hN hP=>?_;unfold QE at h;refine Q4 ?_;refine runQ hN fun K hK=>?_;simp [-Q0,-Q5,-Q1,-Q6,-Q2];repeat refine sdQ ?_
 refine hK _ ?_;clear hK K;refine tn ?_;refine Q9 (st':=⟨[(0,.rptr (Tra.cells true t_)),(1,.fn 136 [])],[],0⟩) (wkQ9 []) ?_;refine Q4 ?_;refine Q4 ?_;refine runQ hN fun K hK=>?_;simp [-Q0,-Q5,-Q1,-Q6,-Q2];repeat refine sdQ ?_
 refine hK _ ?_;clear hK K;refine tn ?_;refine Q9 (st':=⟨[(0,.rptr (Tra.cells true t_)),(1,.fn 136 []),(11,iV (t_.s.ar.length:Int)),(12,iV 0)],[],0⟩) (wkQ9 []) ?_;replace h:=bind_some h;obtain ⟨e1,h,h1⟩:=h;refine Qk (fun b1:Unit=>⟨[],[],0⟩) (fun b1=>Sum.inl b1=e1) ?_ ?_
 ·refine Qc ?_;refine Qw h (fun s6:Int=>⟨[(0,.rptr (Tra.cells true t_)),(1,.fn 136 []),(11,iV (t_.s.ar.length:Int)),(12,iV s6)],[],0⟩) (wkQ9 []) ?_;clear h;intro k6 s6 c6 h hk6;refine Q4 ?_;refine runQ hN fun K hK=>?_;simp [-Q0,-Q5,-Q1,-Q6,-Q2];repeat refine sdQ ?_
  refine hK _ ?_;clear hK K;refine tn ?_;refine Q9 (st':=⟨[(0,.rptr (Tra.cells true t_)),(1,.fn 136 []),(11,iV (t_.s.ar.length:Int)),(12,iV s6),(13,.val (.bool (decide (s6<(t_.s.ar.length:Int)))))],[],0⟩) (wkQ9 []) ?_;refine Q4 ?_;refine Qe rfl (fun g=>?_) fun g=>?_
  ·have g7:s6<(t_.s.ar.length:Int):=gQ;clear g;replace h:=if_l g7 h;refine Qf ?_;refine tn ?_;refine Q4 ?_;refine Qc ?_;refine Q4 ?_;refine runQ hN fun K hK=>?_;simp [-Q0,-Q5,-Q1,-Q6,-Q2];(repeat refine sdQ ?_);refine hK _ ?_;clear hK K;refine tn ?_;refine Q9 (st':=⟨[(0,.rptr (Tra.cells true t_)),(1,.fn 136 []),(5,iV s6),(11,iV (t_.s.ar.length:Int)),(12,iV s6)],[],0⟩) (wkQ9 []) ?_;refine Q4 ?_;refine runQ hN fun K hK=>?_;simp [-Q0,-Q5,-Q1,-Q6,-Q2];(repeat with_reducible refine sdQ ?_);replace h:=bind_some h;obtain ⟨v8,hv8,h⟩:=h;refine Q3 (Q7Y _ _ _ _ v8 hv8) (.cons (.preT (by simp [Fn.cells,Tra.cells])) (.cons (.preT (by simp [Fn.cells,Tra.cells])) (.cons .lst (.cons .val .nil)))) ?_;simp [-Q0,-Q5,-Q1,-Q6,-Q2,unk,unA,unE,unT,unC,flat];(repeat refine sdQ ?_);refine hK _ ?_;clear hK K;refine tn ?_;refine Q9 (st':=⟨[(0,.rptr (Tra.cells true t_)),(1,.fn 136 []),(5,iV s6),(11,iV (t_.s.ar.length:Int)),(12,iV s6),(28,.val (.bool (!v8)))],[],0⟩) (wkQ9 []) ?_;refine Qe rfl (fun g=>?_) fun g=>?_
   ·have g9:¬ (v8=true):=gQ;clear g;replace h:=if_l g9 h;refine Q4 ?_;refine runQ hN fun K hK=>?_;simp [-Q0,-Q5,-Q1,-Q6,-Q2];(repeat refine sdQ ?_);refine hK _ ?_;clear hK K;refine tn ?_;refine Q9 (st':=⟨[(4,iV s6)],[],0⟩) (wkQ9 []) ?_;refine Qi ?_;refine br ?_;refine tr ?_;refine lr ?_;refine br ?_;refine tr ?_;cases h;have q:_=e1:=hk6;have h:=h1;rw [← q] at h;clear q;(try dsimp only at h);have hr:=Option.some.inj h;rw [← hr];refine ⟨_,(.tmp .nil),?_⟩;refine ⟨(.one rfl rfl .nil),[iV s6],[],by simp [Fn.cells,Tra.cells,UA,U1,IA,I1,LA,L1,BA,B1,EA,E1,E2,eB,eI,eL],by simp,(UpL.refl _)⟩
   have g9:¬ (¬ (v8=true)):=gQ;clear g;replace h:=if_r g9 h;refine Qf ?_;refine bn ?_;refine tn ?_;refine runQ hN fun K hK=>?_;replace h:=Q8 h;obtain ⟨a10,h⟩:=h;simp [-Q0,-Q5,-Q1,-Q6,-Q2,Qs a10];(repeat refine sdQ ?_);refine hK _ ?_;clear hK K;cases h;exact rn (s':=s6+1) hk6 (wkQ9 [])
  have g7:¬ (s6<(t_.s.ar.length:Int)):=gQ;clear g;replace h:=if_r g7 h;refine Qp ?_;refine tx ?_;refine lx ?_;refine bh ?_;cases h;exact jn (b:=()) hk6 (wkQ9 [])
 intro b1 hb1;have h:=h1;try rw [← hb1] at h
 clear h1;try dsimp only at h
 refine Q4 ?_;refine runQ hN fun K hK=>?_;simp [-Q0,-Q5,-Q1,-Q6,-Q2];repeat refine sdQ ?_
 refine hK _ ?_;clear hK K;refine tn ?_;refine Q9 (st':=⟨[(4,iV (-1))],[],0⟩) (wkQ9 []) ?_;refine Qi ?_;have hr:=Option.some.inj h;rw [← hr];refine ⟨_,(.tmp .nil),?_⟩;refine ⟨(.one rfl rfl .nil),[iV (-1)],[],by simp [Fn.cells,Tra.cells,UA,U1,IA,I1,LA,L1,BA,B1,EA,E1,E2,eB,eI,eL],by simp,(UpL.refl _)⟩
attribute [local simp] eL eI Qm Q3h Tra.cells
noncomputable def QK (t_:Tra):Option Bool :=
 (
  (QN t_).bind fun v2 =>
  if v2=true then
   (QE t_).bind fun v4 =>
   some (decide (v4<0))
  else
   some false:Option (Bool)).bind fun b1 =>
 some b1
theorem Q2K (t_:Tra) (r:Bool) (h:QK t_=some r):Contract Tryz.prog 100 [.rptr (t_.cells true)] (.val (.bool r)):=by
 refine Qd (rvs:=[.tmp 2]) (rs:=[.val (.bool r)]) Tryz.func100 rfl rfl rfl rfl (by simp [Tryz.f100]) fun F hN hP=>?_;unfold QK at h;refine Q4 ?_;refine runQ hN fun K hK=>?_;simp [-Q0,-Q5,-Q1,-Q6,-Q2];repeat refine sdQ ?_
 refine hK _ ?_;clear hK K;refine tn ?_;refine Q9 (st':=⟨[(0,.rptr (Tra.cells true t_))],[],0⟩) (wkQ9 []) ?_;refine Q4 ?_;replace h:=bind_some h;obtain ⟨e1,h,h1⟩:=h;refine Qk (fun b1:Bool=>⟨[(2,.val (.bool b1))],[],0⟩) (fun b1=>b1=e1) ?_ ?_
 ·refine runQ hN fun K hK=>?_;simp [-Q0,-Q5,-Q1,-Q6,-Q2];repeat with_reducible refine sdQ ?_
  replace h:=bind_some h;obtain ⟨v2,hv2,h⟩:=h;refine Q3 (Q32 _ v2 hv2) (.cons (.preT (by simp [Tra.cells])) .nil) ?_;simp [-Q0,-Q5,-Q1,-Q6,-Q2,unk,unA,unE,unT,unC,flat];repeat with_reducible refine sdQ ?_
  refine Qo (fun g=>?_) (fun g=>?_)
  ·have g3:v2=true:=gQ;clear g;replace h:=if_l g3 h;simp [-Q0,-Q5,-Q1,-Q6,-Q2];(repeat with_reducible refine sdQ ?_);replace h:=bind_some h;obtain ⟨v4,hv4,h⟩:=h;refine Q3 (Q2L _ v4 hv4) (.cons (.preT (by simp [Tra.cells])) (.cons (.fnL (by simp) .nil) .nil)) ?_;simp [-Q0,-Q5,-Q1,-Q6,-Q2,unk,unA,unE,unT,unC,flat];(repeat refine sdQ ?_);refine hK _ ?_;exact jn (b:=decide (v4<0)) (Option.some.inj h) (wkQ9 [])
  have g3:¬ (v2=true):=gQ;clear g;replace h:=if_r g3 h;simp [-Q0,-Q5,-Q1,-Q6,-Q2];repeat refine sdQ ?_
  refine hK _ ?_;exact jn (b:=false) (Option.some.inj h) (wkQ9 [])
 intro b1 hb1;have h:=h1;try rw [← hb1] at h
 clear h1;try dsimp only at h
 refine Qi ?_;have hr:=Option.some.inj h;rw [← hr];refine ⟨_,(.tmp .nil),?_⟩;refine ⟨(.one rfl rfl .nil),[.val (.bool b1)],[],by simp [Tra.cells,UA,U1,IA,I1,LA,L1,BA,B1,EA,E1,E2,eB,eI,eL],by simp,(UpL.refl _)⟩
attribute [local simp] eL eI Qm Q3h Tra.cells
noncomputable def Q1S (list_:List Tra):Option Bool :=
 (QH (σ:=Int) (ε:=Unit ⊕ Bool) (fun s7 =>
  if s7<(list_.length:Int) then
   ass (0≤s7∧s7<(list_.length:Int)) <|
   (QK (gx list_ s7)).bind fun v10 =>
   if ¬ (v10=true) then
    some (Ctl.ret (Sum.inr false))
   else
    ass (B64 (s7+1)) <|
    some (Ctl.next (s7+1))
  else
   some (Ctl.ret (Sum.inl ()))) fuel 0).bind fun e1 =>
 match e1 with
 | .inl b1 =>
  some true
 | .inr p1 =>
  some p1
theorem Q6v (list_:List Tra) (r:Bool) (h:Q1S list_=some r):Contract Tryz.prog 116 [.lst true 1 (Es Q3h list_)] (.val (.bool r)):=by
 refine Qd (rvs:=[.tmp 2]) (rs:=[.val (.bool r)]) Tryz.func116 rfl rfl rfl rfl (by simp [Tryz.f116]) fun F hN hP=>?_;unfold Q1S at h;refine Q4 ?_;refine runQ hN fun K hK=>?_;simp [-Q0,-Q5,-Q1,-Q6,-Q2];repeat refine sdQ ?_
 refine hK _ ?_;clear hK K;refine tn ?_;refine Q9 (st':=⟨[(0,.lst true 1 (Es Q3h list_))],[],0⟩) (wkQ9 []) ?_;refine Q4 ?_;refine Q4 ?_;refine runQ hN fun K hK=>?_;simp [-Q0,-Q5,-Q1,-Q6,-Q2];repeat refine sdQ ?_
 refine hK _ ?_;clear hK K;refine tn ?_;refine Q9 (st':=⟨[(5,.lst true 1 (Es Q3h list_)),(6,iV (list_.length:Int)),(7,iV 0)],[],0⟩) (wkQ9 []) ?_;replace h:=bind_some h;obtain ⟨e1,h,h1⟩:=h;refine Qk (fun b1:Unit=>⟨[],[],0⟩) (fun b1=>Sum.inl b1=e1) ?_ ?_
 ·refine Qc ?_;refine Qw h (fun s7:Int=>⟨[(5,.lst true 1 (Es Q3h list_)),(6,iV (list_.length:Int)),(7,iV s7)],[],0⟩) (wkQ9 []) ?_;clear h;intro k7 s7 c7 h hk7;refine Q4 ?_;refine runQ hN fun K hK=>?_;simp [-Q0,-Q5,-Q1,-Q6,-Q2];repeat refine sdQ ?_
  refine hK _ ?_;clear hK K;refine tn ?_;refine Q9 (st':=⟨[(5,.lst true 1 (Es Q3h list_)),(6,iV (list_.length:Int)),(7,iV s7),(8,.val (.bool (decide (s7<(list_.length:Int)))))],[],0⟩) (wkQ9 []) ?_;refine Q4 ?_;refine Qe rfl (fun g=>?_) fun g=>?_
  ·have g8:s7<(list_.length:Int):=gQ;clear g;replace h:=if_l g8 h;refine Qf ?_;refine tn ?_;refine Q4 ?_;refine Qc ?_;refine Q4 ?_;refine runQ hN fun K hK=>?_;replace h:=Q8 h;obtain ⟨a9,h⟩:=h;simp [-Q0,-Q5,-Q1,-Q6,-Q2,at_E (c:=Q3h) a9];(repeat refine sdQ ?_);refine hK _ ?_;clear hK K;refine tn ?_;refine Q9 (st':=⟨[(4,.rptr (Tra.cells true (gx list_ s7))),(5,.lst true 1 (Es Q3h list_)),(6,iV (list_.length:Int)),(7,iV s7)],[],0⟩) (wkQ9 []) ?_;refine Q4 ?_;refine runQ hN fun K hK=>?_;simp [-Q0,-Q5,-Q1,-Q6,-Q2];(repeat with_reducible refine sdQ ?_);replace h:=bind_some h;obtain ⟨v10,hv10,h⟩:=h;refine Q3 (Q2K _ v10 hv10) (.cons (.preT (by simp [Tra.cells])) .nil) ?_;simp [-Q0,-Q5,-Q1,-Q6,-Q2,unk,unA,unE,unT,unC,flat];(repeat refine sdQ ?_);refine hK _ ?_;clear hK K;refine tn ?_;refine Q9 (st':=⟨[(5,.lst true 1 (Es Q3h list_)),(6,iV (list_.length:Int)),(7,iV s7),(13,.val (.bool (!v10)))],[],0⟩) (wkQ9 []) ?_;refine Qe rfl (fun g=>?_) fun g=>?_
   ·have g11:¬ (v10=true):=gQ;clear g;replace h:=if_l g11 h;refine Q4 ?_;refine runQ hN fun K hK=>?_;simp [-Q0,-Q5,-Q1,-Q6,-Q2];(repeat refine sdQ ?_);refine hK _ ?_;clear hK K;refine tn ?_;refine Q9 (st':=⟨[(2,.val (.bool false))],[],0⟩) (wkQ9 []) ?_;refine Qi ?_;refine br ?_;refine tr ?_;refine lr ?_;refine br ?_;refine tr ?_;cases h;have q:_=e1:=hk7;have h:=h1;rw [← q] at h;clear q;(try dsimp only at h);have hr:=Option.some.inj h;rw [← hr];refine ⟨_,(.tmp .nil),?_⟩;refine ⟨(.one rfl rfl .nil),[.val (.bool false)],[],by simp [Tra.cells,UA,U1,IA,I1,LA,L1,BA,B1,EA,E1,E2,eB,eI,eL],by simp,(UpL.refl _)⟩
   have g11:¬ (¬ (v10=true)):=gQ;clear g;replace h:=if_r g11 h;refine Qf ?_;refine bn ?_;refine tn ?_;refine runQ hN fun K hK=>?_;replace h:=Q8 h;obtain ⟨a12,h⟩:=h;simp [-Q0,-Q5,-Q1,-Q6,-Q2,Qs a12];(repeat refine sdQ ?_);refine hK _ ?_;clear hK K;cases h;exact rn (s':=s7+1) hk7 (wkQ9 [])
  have g8:¬ (s7<(list_.length:Int)):=gQ;clear g;replace h:=if_r g8 h;refine Qp ?_;refine tx ?_;refine lx ?_;refine bh ?_;cases h;exact jn (b:=()) hk7 (wkQ9 [])
 intro b1 hb1;have h:=h1;try rw [← hb1] at h
 clear h1;try dsimp only at h
 refine Q4 ?_;refine runQ hN fun K hK=>?_;simp [-Q0,-Q5,-Q1,-Q6,-Q2];repeat refine sdQ ?_
 refine hK _ ?_;clear hK K;refine tn ?_;refine Q9 (st':=⟨[(2,.val (.bool true))],[],0⟩) (wkQ9 []) ?_;refine Qi ?_;have hr:=Option.some.inj h;rw [← hr];refine ⟨_,(.tmp .nil),?_⟩;refine ⟨(.one rfl rfl .nil),[.val (.bool true)],[],by simp [Tra.cells,UA,U1,IA,I1,LA,L1,BA,B1,EA,E1,E2,eB,eI,eL],by simp,(UpL.refl _)⟩
noncomputable def QF (c_:Cat) (f_:Int) (g_:Int):Option Int :=
 ass (0≤f_∧f_<(c_.cs.length:Int)) <|
 ass (0≤g_∧g_<((rx c_.cs f_).length:Int)) <|
 some (ix (rx c_.cs f_) g_)
theorem QU (c_:Cat) (f_:Int) (g_:Int) (r:Int) (h:QF c_ f_ g_=some r):Contract Tryz.prog 46 [.agg (c_.cells true),iV f_,iV g_] (iV r):=by
 refine Qd (rvs:=[.tmp 6]) (rs:=[iV r]) Tryz.func46 rfl rfl rfl rfl (by simp [Tryz.f46]) fun F hN hP=>?_;unfold QF at h;refine Q4 ?_;refine runQ hN fun K hK=>?_;simp [-Q0,-Q5,-Q1,-Q6,-Q2,eL,eI,Qm,QI,Cat.cells];repeat refine sdQ ?_
 refine hK _ ?_;clear hK K;refine tn ?_;refine Q9 (st':=⟨[(1,iV f_),(2,iV g_),(3,.adr 0 0 0)],[(0,.mix 5 [(Cat.cells true c_)])],1⟩) (wkQ9 [(0,0)]) ?_;refine Q4 ?_;refine runQ hN fun K hK=>?_;replace h:=Q8 h;obtain ⟨a1,h⟩:=h;replace h:=Q8 h;obtain ⟨a2,h⟩:=h;simp [-Q0,-Q5,-Q1,-Q6,-Q2,eL,eI,Qm,QI,Cat.cells,at_L a1,at_I a2];repeat refine sdQ ?_
 refine hK _ ?_;clear hK K;refine tn ?_;refine Q9 (st':=⟨[(6,iV (ix (rx c_.cs f_) g_))],[],0⟩) (wkQ9 []) ?_;refine Qi ?_;have hr:=Option.some.inj h;rw [← hr];refine ⟨_,(.tmp .nil),?_⟩;refine ⟨(.one rfl rfl .nil),[iV (ix (rx c_.cs f_) g_)],[],by simp [Cat.cells,UA,U1,IA,I1,LA,L1,BA,B1,EA,E1,E2,eB,eI,eL],by simp,(UpL.refl _)⟩
attribute [local simp] eL eI Qm QI Q1x Cat.cells Fn.cells
noncomputable def Q17 (f_:Fn) (g_:Fn) (parts_:List Int):Option Bool :=
 (
  if ¬ ((parts_.length:Int)=(f_.ob.length:Int)) then
   some true
  else
   (Q1E (f_.t.fr.length:Int) parts_).bind fun v3 =>
   some (!v3):Option (Bool)).bind fun b1 =>
 if b1=true then
  some false
 else
  (QH (σ:=Int) (ε:=Unit ⊕ Bool) (fun s17 =>
   if s17<(parts_.length:Int) then
    (
     ass (0≤s17∧s17<(parts_.length:Int)) <|
     ass (0≤ix parts_ s17∧ix parts_ s17<(f_.t.fr.length:Int)) <|
     ass (0≤s17∧s17<(f_.ob.length:Int)) <|
     if ¬ ((ix f_.t.fr (ix parts_ s17))=(ix f_.ob s17)) then
      some true
     else
      ass (0≤s17∧s17<(parts_.length:Int)) <|
      ass (0≤ix parts_ s17∧ix parts_ s17<(f_.t.to.length:Int)) <|
      ass (0≤s17∧s17<(g_.ob.length:Int)) <|
      some ((ix f_.t.to (ix parts_ s17)) != (ix g_.ob s17)):Option (Bool)).bind fun b19 =>
    if b19=true then
     some (Ctl.ret (Sum.inr false))
    else
     ass (B64 (s17+1)) <|
     some (Ctl.next (s17+1))
   else
    some (Ctl.ret (Sum.inl ()))) fuel 0).bind fun e5 =>
  match e5 with
  | .inl b5 =>
   (QH (σ:=Int) (ε:=Unit ⊕ Bool) (fun s41 =>
    if s41<(f_.s.fr.length:Int) then
     ass (0≤s41∧s41<(f_.ar.length:Int)) <|
     ass (0≤s41∧s41<(f_.s.to.length:Int)) <|
     ass (0≤ix f_.s.to s41∧ix f_.s.to s41<(parts_.length:Int)) <|
     (QF f_.t (ix f_.ar s41) (ix parts_ (ix f_.s.to s41))).bind fun v46 =>
     ass (0≤s41∧s41<(f_.s.fr.length:Int)) <|
     ass (0≤ix f_.s.fr s41∧ix f_.s.fr s41<(parts_.length:Int)) <|
     ass (0≤s41∧s41<(g_.ar.length:Int)) <|
     (QF f_.t (ix parts_ (ix f_.s.fr s41)) (ix g_.ar s41)).bind fun v50 =>
     if ¬ (v46=v50) then
      some (Ctl.ret (Sum.inr false))
     else
      ass (B64 (s41+1)) <|
      some (Ctl.next (s41+1))
    else
     some (Ctl.ret (Sum.inl ()))) fuel 0).bind fun e29 =>
   match e29 with
   | .inl b29 =>
    some true
   | .inr p29 =>
    some p29
  | .inr p5 =>
   some p5
theorem Q2r (f_:Fn) (g_:Fn) (parts_:List Int) (r:Bool) (h:Q17 f_ g_ parts_=some r):Contract Tryz.prog 98 [.agg (f_.cells true),.agg (g_.cells true),lI parts_] (.val (.bool r)):=by
 refine Qd (rvs:=[.tmp 6]) (rs:=[.val (.bool r)]) Tryz.func98 rfl rfl rfl rfl (by simp [Tryz.f98]) fun F hN hP=>?_;unfold Q17 at h;refine Q4 ?_;refine runQ hN fun K hK=>?_;simp [-Q0,-Q5,-Q1,-Q6,-Q2];repeat refine sdQ ?_
 refine hK _ ?_;clear hK K;refine tn ?_;refine Q9 (st':=⟨[(2,lI parts_),(3,.adr 0 0 0),(4,.adr 1 0 0)],[(0,.mix 12 [(Fn.cells true f_)]),(1,.mix 12 [(Fn.cells true g_)])],2⟩) (wkQ9 [(0,0),(1,1)]) ?_;refine Q4 ?_;refine Q9p mo (by rw [hN];decide) fun K hK=>?_;simp [-Q0,-Q5,-Q1,-Q6,-Q2];repeat refine sdQ ?_
 refine hK _ ?_;clear hK K;refine tn ?_;refine Q9 (st':=⟨[(2,lI parts_),(3,.adr 0 0 0),(4,.adr 1 0 0),(7,.adr 2 0 0),(8,.adr 3 0 0)],[(0,.mix 12 [(Fn.cells true f_)]),(1,.mix 12 [(Fn.cells true g_)]),(2,.mix 5 [(Cat.cells true f_.s)]),(3,.mix 5 [(Cat.cells true f_.t)])],4⟩) (wkQ9 [(0,0),(1,1),(2,2),(3,3)]) ?_;refine Q4 ?_;refine Q4 ?_;replace h:=bind_some h;obtain ⟨e1,h,h1⟩:=h;refine Qk (fun b1:Bool=>⟨[(2,lI parts_),(3,.adr 0 0 0),(4,.adr 1 0 0),(7,.adr 2 0 0),(8,.adr 3 0 0),(28,.val (.bool b1))],[(0,.mix 12 [(Fn.cells true f_)]),(1,.mix 12 [(Fn.cells true g_)]),(2,.mix 5 [(Cat.cells true f_.s)]),(3,.mix 5 [(Cat.cells true f_.t)])],4⟩) (fun b1=>b1=e1) ?_ ?_
 ·refine runQ hN fun K hK=>?_;simp [-Q0,-Q5,-Q1,-Q6,-Q2];repeat with_reducible refine sdQ ?_
  refine Qo (fun g=>?_) (fun g=>?_)
  ·have g2:¬ (¬ ((parts_.length:Int)=(f_.ob.length:Int))):=gQ;clear g;replace h:=if_r g2 h;simp [-Q0,-Q5,-Q1,-Q6,-Q2];(repeat with_reducible refine sdQ ?_);replace h:=bind_some h;obtain ⟨v3,hv3,h⟩:=h;refine Q3 (Q5q _ _ v3 hv3) (.cons .val (.cons .lst .nil)) ?_;simp [-Q0,-Q5,-Q1,-Q6,-Q2,unk,unA,unE,unT,unC,flat];(repeat refine sdQ ?_);refine hK _ ?_;exact jn (b:=!v3) (Option.some.inj h) (wkQ9 [(0,0),(1,1),(2,2),(3,3)])
  have g2:¬ ((parts_.length:Int)=(f_.ob.length:Int)):=gQ;clear g;replace h:=if_l g2 h;simp [-Q0,-Q5,-Q1,-Q6,-Q2];repeat refine sdQ ?_
  refine hK _ ?_;exact jn (b:=true) (Option.some.inj h) (wkQ9 [(0,0),(1,1),(2,2),(3,3)])
 intro b1 hb1;have h:=h1;try rw [← hb1] at h
 clear h1;try dsimp only at h
 refine Qe rfl (fun g=>?_) fun g=>?_
 ·have g4:b1=true:=gQ;clear g;replace h:=if_l g4 h;refine Q4 ?_;refine runQ hN fun K hK=>?_;simp [-Q0,-Q5,-Q1,-Q6,-Q2];repeat refine sdQ ?_
  refine hK _ ?_;clear hK K;refine tn ?_;refine Q9 (st':=⟨[(6,.val (.bool false))],[],0⟩) (wkQ9 []) ?_;refine Qi ?_;refine tr ?_;have hr:=Option.some.inj h;rw [← hr];refine ⟨_,(.tmp .nil),?_⟩;refine ⟨(.one rfl rfl .nil),[.val (.bool false)],[],by simp [Cat.cells,Fn.cells,UA,U1,IA,I1,LA,L1,BA,B1,EA,E1,E2,eB,eI,eL],by simp,(UpL.refl _)⟩
 have g4:¬ (b1=true):=gQ;clear g;replace h:=if_r g4 h;refine Qf ?_;refine tn ?_;refine Q4 ?_;refine Q4 ?_;refine runQ hN fun K hK=>?_;simp [-Q0,-Q5,-Q1,-Q6,-Q2];repeat refine sdQ ?_
 refine hK _ ?_;clear hK K;refine tn ?_;refine Q9 (st':=⟨[(2,lI parts_),(3,.adr 0 0 0),(4,.adr 1 0 0),(7,.adr 2 0 0),(8,.adr 3 0 0),(9,iV 0)],[(0,.mix 12 [(Fn.cells true f_)]),(1,.mix 12 [(Fn.cells true g_)]),(2,.mix 5 [(Cat.cells true f_.s)]),(3,.mix 5 [(Cat.cells true f_.t)])],4⟩) (wkQ9 [(0,0),(1,1),(2,2),(3,3)]) ?_;replace h:=bind_some h;obtain ⟨e5,h,h5⟩:=h;refine Qk (fun b5:Unit=>⟨[(2,lI parts_),(3,.adr 0 0 0),(4,.adr 1 0 0),(7,.adr 2 0 0),(8,.adr 3 0 0)],[(0,.mix 12 [(Fn.cells true f_)]),(1,.mix 12 [(Fn.cells true g_)]),(2,.mix 5 [(Cat.cells true f_.s)]),(3,.mix 5 [(Cat.cells true f_.t)])],4⟩) (fun b5=>Sum.inl b5=e5) ?_ ?_
 ·refine Qc ?_;refine Qw h (fun s17:Int=>⟨[(2,lI parts_),(3,.adr 0 0 0),(4,.adr 1 0 0),(7,.adr 2 0 0),(8,.adr 3 0 0),(9,iV s17)],[(0,.mix 12 [(Fn.cells true f_)]),(1,.mix 12 [(Fn.cells true g_)]),(2,.mix 5 [(Cat.cells true f_.s)]),(3,.mix 5 [(Cat.cells true f_.t)])],4⟩) (wkQ9 [(0,0),(1,1),(2,2),(3,3)]) ?_;clear h;intro k17 s17 c17 h hk17;refine Q4 ?_;refine Q4 ?_;refine runQ hN fun K hK=>?_;simp [-Q0,-Q5,-Q1,-Q6,-Q2];repeat refine sdQ ?_
  refine hK _ ?_;clear hK K;refine tn ?_;refine Q9 (st':=⟨[(2,lI parts_),(3,.adr 0 0 0),(4,.adr 1 0 0),(7,.adr 2 0 0),(8,.adr 3 0 0),(9,iV s17),(32,.val (.bool (decide (s17<(parts_.length:Int)))))],[(0,.mix 12 [(Fn.cells true f_)]),(1,.mix 12 [(Fn.cells true g_)]),(2,.mix 5 [(Cat.cells true f_.s)]),(3,.mix 5 [(Cat.cells true f_.t)])],4⟩) (wkQ9 [(0,0),(1,1),(2,2),(3,3)]) ?_;refine Qe rfl (fun g=>?_) fun g=>?_
  ·have g18:s17<(parts_.length:Int):=gQ;clear g;replace h:=if_l g18 h;refine Qf ?_;refine tn ?_;refine Q4 ?_;refine Qc ?_;refine Q4 ?_;replace h:=bind_some h;obtain ⟨e19,h,h19⟩:=h;refine Qk (fun b19:Bool=>⟨[(2,lI parts_),(3,.adr 0 0 0),(4,.adr 1 0 0),(7,.adr 2 0 0),(8,.adr 3 0 0),(9,iV s17),(64,.val (.bool b19))],[(0,.mix 12 [(Fn.cells true f_)]),(1,.mix 12 [(Fn.cells true g_)]),(2,.mix 5 [(Cat.cells true f_.s)]),(3,.mix 5 [(Cat.cells true f_.t)])],4⟩) (fun b19=>b19=e19) ?_ ?_
   ·refine runQ hN fun K hK=>?_;replace h:=Q8 h;obtain ⟨a20,h⟩:=h;replace h:=Q8 h;obtain ⟨a21,h⟩:=h;replace h:=Q8 h;obtain ⟨a22,h⟩:=h;simp [-Q0,-Q5,-Q1,-Q6,-Q2,at_I a20,at_I a21,at_I a22];(repeat with_reducible refine sdQ ?_);refine Qo (fun g=>?_) (fun g=>?_)
    ·have g23:¬ (¬ ((ix f_.t.fr (ix parts_ s17))=(ix f_.ob s17))):=gQ;clear g;replace h:=if_r g23 h;replace h:=Q8 h;obtain ⟨a24,h⟩:=h;replace h:=Q8 h;obtain ⟨a25,h⟩:=h;replace h:=Q8 h;obtain ⟨a26,h⟩:=h;simp [-Q0,-Q5,-Q1,-Q6,-Q2,at_I a20,at_I a21,at_I a22,at_I a24,at_I a25,at_I a26];(repeat refine sdQ ?_);refine hK _ ?_;exact jn (b:=(ix f_.t.to (ix parts_ s17)) != (ix g_.ob s17)) (Option.some.inj h) (wkQ9 [(0,0),(1,1),(2,2),(3,3)])
    have g23:¬ ((ix f_.t.fr (ix parts_ s17))=(ix f_.ob s17)):=gQ;clear g;replace h:=if_l g23 h;simp [-Q0,-Q5,-Q1,-Q6,-Q2,at_I a20,at_I a21,at_I a22];(repeat refine sdQ ?_);refine hK _ ?_;exact jn (b:=true) (Option.some.inj h) (wkQ9 [(0,0),(1,1),(2,2),(3,3)])
   intro b19 hb19;have h:=h19;(try rw [← hb19] at h);clear h19;(try dsimp only at h);refine Qe rfl (fun g=>?_) fun g=>?_
   ·have g27:b19=true:=gQ;clear g;replace h:=if_l g27 h;refine Q4 ?_;refine runQ hN fun K hK=>?_;simp [-Q0,-Q5,-Q1,-Q6,-Q2];(repeat refine sdQ ?_);refine hK _ ?_;clear hK K;refine tn ?_;refine Q9 (st':=⟨[(6,.val (.bool false))],[],0⟩) (wkQ9 []) ?_;refine Qi ?_;refine br ?_;refine tr ?_;refine lr ?_;refine br ?_;refine tr ?_;cases h;have q:_=e5:=hk17;have h:=h5;rw [← q] at h;clear q;(try dsimp only at h);have hr:=Option.some.inj h;rw [← hr];refine ⟨_,(.tmp .nil),?_⟩;refine ⟨(.one rfl rfl .nil),[.val (.bool false)],[],by simp [Cat.cells,Fn.cells,UA,U1,IA,I1,LA,L1,BA,B1,EA,E1,E2,eB,eI,eL],by simp,(UpL.refl _)⟩
   have g27:¬ (b19=true):=gQ;clear g;replace h:=if_r g27 h;refine Qf ?_;refine bn ?_;refine tn ?_;refine runQ hN fun K hK=>?_;replace h:=Q8 h;obtain ⟨a28,h⟩:=h;simp [-Q0,-Q5,-Q1,-Q6,-Q2,Qs a28];(repeat refine sdQ ?_);refine hK _ ?_;clear hK K;cases h;exact rn (s':=s17+1) hk17 (wkQ9 [(0,0),(1,1),(2,2),(3,3)])
  have g18:¬ (s17<(parts_.length:Int)):=gQ;clear g;replace h:=if_r g18 h;refine Qp ?_;refine tx ?_;refine lx ?_;refine bh ?_;cases h;exact jn (b:=()) hk17 (wkQ9 [(0,0),(1,1),(2,2),(3,3)])
 intro b5 hb5;have h:=h5;try rw [← hb5] at h
 clear h5;try dsimp only at h
 refine Q4 ?_;refine Q4 ?_;refine runQ hN fun K hK=>?_;simp [-Q0,-Q5,-Q1,-Q6,-Q2];repeat refine sdQ ?_
 refine hK _ ?_;clear hK K;refine tn ?_;refine Q9 (st':=⟨[(2,lI parts_),(3,.adr 0 0 0),(4,.adr 1 0 0),(7,.adr 2 0 0),(8,.adr 3 0 0),(10,iV 0)],[(0,.mix 12 [(Fn.cells true f_)]),(1,.mix 12 [(Fn.cells true g_)]),(2,.mix 5 [(Cat.cells true f_.s)]),(3,.mix 5 [(Cat.cells true f_.t)])],4⟩) (wkQ9 [(0,0),(1,1),(2,2),(3,3)]) ?_;replace h:=bind_some h;obtain ⟨e29,h,h29⟩:=h;refine Qk (fun b29:Unit=>⟨[],[],0⟩) (fun b29=>Sum.inl b29=e29) ?_ ?_
 ·refine Qc ?_;refine Qw h (fun s41:Int=>⟨[(2,lI parts_),(3,.adr 0 0 0),(4,.adr 1 0 0),(7,.adr 2 0 0),(8,.adr 3 0 0),(10,iV s41)],[(0,.mix 12 [(Fn.cells true f_)]),(1,.mix 12 [(Fn.cells true g_)]),(2,.mix 5 [(Cat.cells true f_.s)]),(3,.mix 5 [(Cat.cells true f_.t)])],4⟩) (wkQ9 [(0,0),(1,1),(2,2),(3,3)]) ?_;clear h;intro k41 s41 c41 h hk41;refine Q4 ?_;refine Q4 ?_;refine runQ hN fun K hK=>?_;simp [-Q0,-Q5,-Q1,-Q6,-Q2];repeat refine sdQ ?_
  refine hK _ ?_;clear hK K;refine tn ?_;refine Q9 (st':=⟨[(2,lI parts_),(3,.adr 0 0 0),(4,.adr 1 0 0),(7,.adr 2 0 0),(8,.adr 3 0 0),(10,iV s41),(69,.val (.bool (decide (s41<(f_.s.fr.length:Int)))))],[(0,.mix 12 [(Fn.cells true f_)]),(1,.mix 12 [(Fn.cells true g_)]),(2,.mix 5 [(Cat.cells true f_.s)]),(3,.mix 5 [(Cat.cells true f_.t)])],4⟩) (wkQ9 [(0,0),(1,1),(2,2),(3,3)]) ?_;refine Qe rfl (fun g=>?_) fun g=>?_
  ·have g42:s41<(f_.s.fr.length:Int):=gQ;clear g;replace h:=if_l g42 h;refine Qf ?_;refine tn ?_;refine Q4 ?_;refine Qc ?_;refine Q4 ?_;refine runQ hN fun K hK=>?_;replace h:=Q8 h;obtain ⟨a43,h⟩:=h;replace h:=Q8 h;obtain ⟨a44,h⟩:=h;replace h:=Q8 h;obtain ⟨a45,h⟩:=h;simp [-Q0,-Q5,-Q1,-Q6,-Q2,at_I a43,at_I a44,at_I a45];(repeat with_reducible refine sdQ ?_);replace h:=bind_some h;obtain ⟨v46,hv46,h⟩:=h;refine Q3 (QU _ _ _ v46 hv46) (.cons (.aggL (.cons .val (.cons .lst (.cons .lst (.cons .lst (.cons .lst .nil)))))) (.cons .val (.cons .val .nil))) ?_;replace h:=Q8 h;obtain ⟨a47,h⟩:=h;replace h:=Q8 h;obtain ⟨a48,h⟩:=h;replace h:=Q8 h;obtain ⟨a49,h⟩:=h;simp [-Q0,-Q5,-Q1,-Q6,-Q2,unk,unA,unE,unT,unC,flat,at_I a43,at_I a44,at_I a45,at_I a47,at_I a48,at_I a49];(repeat with_reducible refine sdQ ?_);replace h:=bind_some h;obtain ⟨v50,hv50,h⟩:=h;refine Q3 (QU _ _ _ v50 hv50) (.cons (.aggL (.cons .val (.cons .lst (.cons .lst (.cons .lst (.cons .lst .nil)))))) (.cons .val (.cons .val .nil))) ?_;simp [-Q0,-Q5,-Q1,-Q6,-Q2,unk,unA,unE,unT,unC,flat,at_I a43,at_I a44,at_I a45,at_I a47,at_I a48,at_I a49];(repeat refine sdQ ?_);refine hK _ ?_;clear hK K;refine tn ?_;refine Q9 (st':=⟨[(2,lI parts_),(3,.adr 0 0 0),(4,.adr 1 0 0),(7,.adr 2 0 0),(8,.adr 3 0 0),(10,iV s41),(102,.val (.bool (v46 != v50)))],[(0,.mix 12 [(Fn.cells true f_)]),(1,.mix 12 [(Fn.cells true g_)]),(2,.mix 5 [(Cat.cells true f_.s)]),(3,.mix 5 [(Cat.cells true f_.t)])],4⟩) (wkQ9 [(0,0),(1,1),(2,2),(3,3)]) ?_;refine Qe rfl (fun g=>?_) fun g=>?_
   ·have g51:¬ (v46=v50):=gQ;clear g;replace h:=if_l g51 h;refine Q4 ?_;refine runQ hN fun K hK=>?_;simp [-Q0,-Q5,-Q1,-Q6,-Q2];(repeat refine sdQ ?_);refine hK _ ?_;clear hK K;refine tn ?_;refine Q9 (st':=⟨[(6,.val (.bool false))],[],0⟩) (wkQ9 []) ?_;refine Qi ?_;refine br ?_;refine tr ?_;refine lr ?_;refine br ?_;refine tr ?_;cases h;have q:_=e29:=hk41;have h:=h29;rw [← q] at h;clear q;(try dsimp only at h);have hr:=Option.some.inj h;rw [← hr];refine ⟨_,(.tmp .nil),?_⟩;refine ⟨(.one rfl rfl .nil),[.val (.bool false)],[],by simp [Cat.cells,Fn.cells,UA,U1,IA,I1,LA,L1,BA,B1,EA,E1,E2,eB,eI,eL],by simp,(UpL.refl _)⟩
   have g51:¬ (¬ (v46=v50)):=gQ;clear g;replace h:=if_r g51 h;refine Qf ?_;refine bn ?_;refine tn ?_;refine runQ hN fun K hK=>?_;replace h:=Q8 h;obtain ⟨a52,h⟩:=h;simp [-Q0,-Q5,-Q1,-Q6,-Q2,Qs a52];(repeat refine sdQ ?_);refine hK _ ?_;clear hK K;cases h;exact rn (s':=s41+1) hk41 (wkQ9 [(0,0),(1,1),(2,2),(3,3)])
  have g42:¬ (s41<(f_.s.fr.length:Int)):=gQ;clear g;replace h:=if_r g42 h;refine Qp ?_;refine tx ?_;refine lx ?_;refine bh ?_;cases h;exact jn (b:=()) hk41 (wkQ9 [])
 intro b29 hb29;have h:=h29;try rw [← hb29] at h
 clear h29;try dsimp only at h
 refine Q4 ?_;refine runQ hN fun K hK=>?_;simp [-Q0,-Q5,-Q1,-Q6,-Q2];repeat refine sdQ ?_
 refine hK _ ?_;clear hK K;refine tn ?_;refine Q9 (st':=⟨[(6,.val (.bool true))],[],0⟩) (wkQ9 []) ?_;refine Qi ?_;have hr:=Option.some.inj h;rw [← hr];refine ⟨_,(.tmp .nil),?_⟩;refine ⟨(.one rfl rfl .nil),[.val (.bool true)],[],by simp [Cat.cells,Fn.cells,UA,U1,IA,I1,LA,L1,BA,B1,EA,E1,E2,eB,eI,eL],by simp,(UpL.refl _)⟩
structure NatT (f g:Fn) (p:List Int):Prop where
 lp:p.length=f.ob.length
 bd:∀ j:Nat,j<p.length→0≤ix p j∧ix p j<f.t.fr.length
 ends:∀ x:Nat,x<p.length→ix f.t.fr (ix p x)=ix f.ob x∧ix f.t.to (ix p x)=ix g.ob x
 sq:∀ a:Nat,a<f.s.fr.length→ix (rx f.t.cs (ix f.ar a)) (ix p (ix f.s.to a))=ix (rx f.t.cs (ix p (ix f.s.fr a))) (ix g.ar a)
structure Para (f g:Fn):Prop where
 hf:f.Is
 hg:g.Is
 s:f.s=g.s
 t:f.t=g.t
theorem Para.fact {f g:Fn} (h:Para f g):f.ob.length=g.ob.length∧f.ar.length=g.ar.length∧f.ar.length=f.s.fr.length∧f.s.to.length=f.s.fr.length∧f.t.to.length=f.t.fr.length∧f.t.cs.length=f.t.fr.length∧f.ob.length=f.s.id.length∧f.ob.length≤8∧f.s.fr.length≤40∧f.t.fr.length≤40:=by
 have h1:=h.hf.lo;have h2:=h.hg.lo;have h3:=h.hf.la;have h4:=h.hg.la;rw [← h.s] at h2 h4;have h5:=h.hf.s.1.li;exact ⟨by omega,by omega,h3,h.hf.s.1.lt,h.hf.t.1.lt,h.hf.t.1.lc,by omega,h.hf.lob,h.hf.s.1.m40,h.hf.t.1.m40⟩
theorem Para.sqok {f g:Fn} (h:Para f g) {p:List Int} (lp:p.length=f.ob.length) (bd:∀ j:Nat,j<p.length→0≤ix p j∧ix p j<f.t.fr.length) {a:Nat} (ha:a<f.s.fr.length) :
  (0≤ix f.ar a∧ix f.ar a<f.t.fr.length)∧(0≤ix g.ar a∧ix g.ar a<f.t.fr.length)∧(0≤ix f.s.to a∧ix f.s.to a<p.length)∧(0≤ix f.s.fr a∧ix f.s.fr a<p.length) ∧
  (0≤ix p (ix f.s.to a)∧ix p (ix f.s.to a)<f.t.fr.length)∧(0≤ix p (ix f.s.fr a)∧ix p (ix f.s.fr a)<f.t.fr.length)∧(rx f.t.cs (ix f.ar a)).length=f.t.fr.length∧(rx f.t.cs (ix p (ix f.s.fr a))).length=f.t.fr.length:=by
 obtain ⟨k1,k2,k3,k4,k5,k6,k7,k8,k9,k10⟩:=h.fact;have h1:=h.hf.ar a (by omega);have h2:=h.hg.ar a (by omega);rw [← h.t] at h2;have h3:=h.hf.s.1.frn ha;have h4:=Q64 bd (j:=ix f.s.to a) (by omega) (by omega);have h5:=Q64 bd (j:=ix f.s.fr a) (by omega) (by omega);exact ⟨h1,h2,by omega,by omega,h4,h5,h.hf.t.1.row' (by omega) (by omega),h.hf.t.1.row' (by omega) (by omega)⟩
theorem Q3P {c:Cat} {f g:Int} (h0:0≤f∧f<(c.cs.length:Int)) (h1:0≤g∧g<((rx c.cs f).length:Int)):QF c f g=some (ix (rx c.cs f) g):=by
 unfold QF;rw [Qa h0,Qa h1]
theorem Q5g {c:Cat} {f g:Int} (h0:0≤f∧f<(c.cs.length:Int)) (h1:0≤g∧g<((rx c.cs f).length:Int)):Qu c f g=some (ix (rx c.cs f) g):=by
 unfold Qu;rw [Qa h0.1,Qa h0.2,Qa h1.1,Qa h1.2]
theorem Q35 {f g:Fn} (h:Para f g) (p:List Int):Q17 f g p=some (bo (NatT f g p)):=by
 obtain ⟨k1,k2,k3,k4,k5,k6,k7,k8,k9,k10⟩:=h.fact;unfold Q17
 by_cases h1:(p.length:Int)=f.ob.length
 case neg=>rw [Qv (show ¬ NatT f g p from fun q=>h1 (by rw [q.lp]))];simp [h1]
 by_cases h2:p.all (inR f.t.fr.length)=true
 case neg=>rw [Qv (show ¬ NatT f g p from fun q=>h2 (all_inR.2 q.bd))];simp [Q1E,h1,h2]
 have bd:=all_inR.1 h2;simp only [Q1E,h1,h2,not_true_eq_false,if_false,Option.bind_some,Bool.not_true,Bool.false_eq_true];refine Q15 p.length (fun x:Nat=>ix f.t.fr (ix p x)=ix f.ob x∧ix f.t.to (ix p x)=ix g.ob x) (eb:=Sum.inr false) (eg:=Sum.inl ()) (by omega) (fun a hi hp=>?_) (fun a hi hp=>?_) (by simp;omega) (fun hx=>?_) fun q1=>?_
 ·have:=bd a hi;simp (disch:=omega) [Qa,B64,hp.1,hp.2];omega
 ·have:=bd a hi
  by_cases hp1:ix f.t.fr (ix p a)=ix f.ob a
  ·have hp2:¬ ix f.t.to (ix p a)=ix g.ob a:=fun q=>hp ⟨hp1,q⟩;simp (disch:=omega) [Qa,B64,hp1,hp2];omega
  simp (disch:=omega) [Qa,B64,hp1];omega
 ·rw [Qv (show ¬ NatT f g p from fun q=>hx q.ends)]
 simp only;refine Q15 f.s.fr.length (fun a:Nat=>ix (rx f.t.cs (ix f.ar a)) (ix p (ix f.s.to a))=ix (rx f.t.cs (ix p (ix f.s.fr a))) (ix g.ar a)) (eb:=Sum.inr false) (eg:=Sum.inl ()) (by omega) (fun a hi hp=>?_) (fun a hi hp=>?_) (by simp) (fun hx=>?_) fun q2=>?_
 ·obtain ⟨m1,m2,m3,m4,m5,m6,m7,m8⟩:=h.sqok (by omega) bd hi;simp (disch:=omega) [Qa,B64,Q3P,hp,hi]
 ·obtain ⟨m1,m2,m3,m4,m5,m6,m7,m8⟩:=h.sqok (by omega) bd hi;simp (disch:=omega) [Qa,B64,Q3P,hp,hi]
 ·rw [Qv (show ¬ NatT f g p from fun q=>hx q.sq)]
 rw [QJ (show NatT f g p from ⟨by omega,bd,q1,q2⟩)]
structure Tra.Is (t:Tra):Prop where
 p:Para t.s t.t
 n:NatT t.s t.t t.p
theorem e_fits {f:Fn} (h1:f.s.Is) (h2:f.t.Is):Q1A f=some (bo f.Is):=by
 have hs:=h1.1;have ht:=h2.1;have k0:=hs.n0;have k1:=hs.n8;have k2:=hs.m40;have k3:=hs.li;have k4:=hs.lt;have k5:=hs.lc;have k6:=ht.li;have k7:=ht.lt;have k8:=ht.lc;have k9:=ht.m40;have k10:=ht.n0;have k11:=ht.n8;have b1:B64 (f.t.n - 1):=⟨by omega,by omega⟩;have b2:B64 ((f.t.fr.length:Int) - 1):=⟨by omega,by omega⟩;unfold Q1A
 by_cases h3:(f.ob.length:Int)=f.s.n
 case neg=>rw [Qv (show ¬ f.Is from fun q=>h3 q.lo)];simp [h3]
 by_cases h4:(f.ar.length:Int)=f.s.fr.length
 case neg=>rw [Qv (show ¬ f.Is from fun q=>h4 (by rw [q.la]))];simp [Qr,h3,h4]
 by_cases h5:f.ob.all (inR f.t.n)=true
 case neg=>rw [Qv (show ¬ f.Is from fun q=>h5 (all_inR.2 q.ob))];simp [Qr,Q1D,Qa b1,h3,h4,h5]
 by_cases h6:f.ar.all (inR f.t.fr.length)=true
 case neg=>rw [Qv (show ¬ f.Is from fun q=>h6 (all_inR.2 q.ar))];simp [Qr,Q1D,Qa b1,Qa b2,h3,h4,h5,h6]
 have ho:=all_inR.1 h5;have ha:=all_inR.1 h6;simp only [Qr,Q1D,Qa b1,Qa b2,h3,h4,h5,h6,Option.bind_some,if_true,if_false,not_true_eq_false,Bool.not_true,Bool.false_eq_true];refine Q15 f.s.fr.length (fun a:Nat=>ix f.t.fr (ix f.ar a)=ix f.ob (ix f.s.fr a)∧ix f.t.to (ix f.ar a)=ix f.ob (ix f.s.to a)) (eb:=Sum.inr false) (eg:=Sum.inl ()) (by omega) (fun a hi hp=>?_) (fun a hi hp=>?_) (by simp) (fun hx=>?_) fun q1=>?_
 ·have:=hs.frn hi;have:=ha a (by omega);simp (disch:=omega) [Qa,B64,hp.1,hp.2,hi]
 ·have:=hs.frn hi;have:=ha a (by omega)
  by_cases hp1:ix f.t.fr (ix f.ar a)=ix f.ob (ix f.s.fr a)
  ·have hp2:¬ ix f.t.to (ix f.ar a)=ix f.ob (ix f.s.to a):=fun h=>hp ⟨hp1,h⟩;simp (disch:=omega) [Qa,B64,hp1,hp2,hi]
  simp (disch:=omega) [Qa,B64,hp1,hi]
 ·rw [Qv (show ¬ f.Is from fun q=>hx q.ends)]
 simp only;refine Q15 f.s.id.length (fun x:Nat=>ix f.ar (ix f.s.id x)=ix f.t.id (ix f.ob x)) (eb:=Sum.inr false) (eg:=Sum.inl ()) (by omega) (fun a hi hp=>?_) (fun a hi hp=>?_) (by simp) (fun hx=>?_) fun q2=>?_
 ·have:=hs.idn hi;have:=ho a (by omega);simp (disch:=omega) [Qa,B64,hp,hi]
 ·have:=hs.idn hi;have:=ho a (by omega);simp (disch:=omega) [Qa,B64,hp,hi]
 ·rw [Qv (show ¬ f.Is from fun q=>hx q.ids)]
 simp only;refine Q15 f.s.fr.length (fun a:Nat=>∀ b:Nat,b<f.s.fr.length→ix f.s.to a=ix f.s.fr b→ix f.ar (ix (rx f.s.cs a) b)=ix (rx f.t.cs (ix f.ar a)) (ix f.ar b)) (eb:=Sum.inr false) (eg:=Sum.inl ()) (by omega) (fun a hi hp=>?_) (fun a hi hp=>?_) (by simp;omega) (fun hx=>?_) fun q3=>?_;rotate_left 2
 ·rw [Qv (show ¬ f.Is from fun q=>hx q.comp)]
 ·rw [QJ (show f.Is from ⟨h1,h2,h3,by omega,ho,ha,q1,q2,q3⟩)]
 all_goals
  have h8:=ha a (by omega);have h11:=hs.row' (j:=a) (by omega) (by omega);have h12:=ht.row' (j:=ix f.ar a) (by omega) (by omega);rw [if_pos (by omega),Qa (by omega),Option.bind_assoc];refine Q15 f.s.fr.length (fun b:Nat=>ix f.s.to a=ix f.s.fr b→ix f.ar (ix (rx f.s.cs a) b)=ix (rx f.t.cs (ix f.ar a)) (ix f.ar b)) (eb:=Sum.inl false) (eg:=Sum.inr ()) (by omega) (fun b hb hq=>?_) (fun b hb hq=>?_) ?_ (fun hn=>?_) fun hn=>?_
 all_goals first
  | exact absurd hp hn
  | exact absurd hn hp
  | (simp (disch:=omega) [Qa,B64,h11];done)
  | skip
 all_goals
  have h13:=ha b (by omega);have h16:=hs.cell' (f:=a) (g:=b) (by omega) (by omega) (by omega) (by omega)
  by_cases h14:ix f.s.to a=ix f.s.fr b
  ·have h15:=hs.cmp (f:=a) (g:=b) (by omega) (by omega) (by omega) (by omega) h14;have h17:ix (rx f.s.cs a) b ≥ 0:=h15.1;first
    | (have hq1:=hq h14;simp (disch:=omega) [Qa,B64,Q5g,h14,hq1,hb,h11,h17];done)
    | (have hq1:=fun e=>hq (fun _=>e);simp (disch:=omega) [Qa,B64,Q5g,h14,hq1,hb,h11,h17];exact hq1)
  have h17:=h16.1 h14;first
   | (simp (disch:=omega) [Qa,B64,h14,hb,h11,h17];done)
   | exact absurd (fun e=>absurd e h14) hq
theorem Q6F {α:Type} [Inhabited α] (xs:List α) {i:Nat} (h:i<xs.length):gx xs i=xs[i]:=by simp [gx,List.getD_eq_getElem?_getD,h]
theorem e_areCats (cs:List Cat) (hl:cs.length≤1048576):Q1v cs=some (bo (∀ c∈cs,c.Is)):=by
 unfold Q1v;refine Q15 cs.length (fun i:Nat=>(gx cs i).Is) (eb:=Sum.inr false) (eg:=Sum.inl ()) (by omega) (fun a hi hp=>?_) (fun a hi hp=>?_) (by simp) (fun hx=>?_) fun q1=>?_
 ·simp (disch:=omega) [Qa,B64,QS,QJ hp,hi]
 ·simp (disch:=omega) [Qa,B64,QS,Qv hp,hi]
 ·rw [Qv (show ¬ ∀ c∈cs,c.Is from fun q=>hx fun i hi=>q _ (by rw [Q6F _ hi];exact List.getElem_mem hi))]
 rw [QJ (show ∀ c∈cs,c.Is from fun c hc=>by obtain ⟨i,hi,rfl⟩:=List.getElem_of_mem hc;have:=q1 i hi;rwa [Q6F _ hi] at this)]
theorem Q5U (f:Fn):Q10 f=some (bo f.Is):=by
 unfold Q10;rw [e_areCats _ (by simp)]
 by_cases h:f.s.Is∧f.t.Is
 ·rw [QJ (show ∀ c∈[f.s,f.t],c.Is by simpa using h)];simp [e_fits h.1 h.2]
 rw [Qv (show ¬ ∀ c∈[f.s,f.t],c.Is by simpa using h),Qv (show ¬ f.Is from fun q=>h ⟨q.s,q.t⟩)];simp
theorem Q4Q (fs:List Fn) (hl:fs.length≤1048576):Q1w fs=some (bo (∀ f∈fs,f.Is)):=by
 unfold Q1w;refine Q15 fs.length (fun i:Nat=>(gx fs i).Is) (eb:=Sum.inr false) (eg:=Sum.inl ()) (by omega) (fun a hi hp=>?_) (fun a hi hp=>?_) (by simp) (fun hx=>?_) fun q1=>?_
 ·simp (disch:=omega) [Qa,B64,Q5U,QJ hp,hi]
 ·simp (disch:=omega) [Qa,B64,Q5U,Qv hp,hi]
 ·rw [Qv (show ¬ ∀ c∈fs,c.Is from fun q=>hx fun i hi=>q _ (by rw [Q6F _ hi];exact List.getElem_mem hi))]
 rw [QJ (show ∀ c∈fs,c.Is from fun c hc=>by obtain ⟨i,hi,rfl⟩:=List.getElem_of_mem hc;have:=q1 i hi;rwa [Q6F _ hi] at this)]
theorem Cat.Is.lcs {c:Cat} (h:c.Is):c.cs.length≤1048576:=by have:=h.1.lc;have:=h.1.m40;omega
theorem Q4T {c d:Cat} (h:c.Is):QW c d=some (bo (c=d)):=by
 unfold QW;rw [Qa h.lcs]
theorem Q9v {f g:Fn} (hf:f.Is):Q14 f g=some (bo (f.s=g.s∧f.t=g.t)):=by
 unfold Q14;rw [Q4T hf.s,Q4T hf.t]
 by_cases h1:f.s=g.s<;>by_cases h2:f.t=g.t<;>simp [bo,h1,h2]
theorem Q6C {f g:Fn} (h:Para f g) {p:List Int} (lp:p.length=f.ob.length) (bd:∀ j:Nat,j<p.length→0≤ix p j∧ix p j<f.t.fr.length) {a:Nat} (ha:a<f.s.fr.length) :
  Q24 f g p a=some (bo (ix (rx f.t.cs (ix f.ar a)) (ix p (ix f.s.to a))=ix (rx f.t.cs (ix p (ix f.s.fr a))) (ix g.ar a))):=by
 obtain ⟨k1,k2,k3,k4,k5,k6,k7,k8,k9,k10⟩:=h.fact;obtain ⟨m1,m2,m3,m4,m5,m6,m7,m8⟩:=h.sqok lp bd ha;unfold Q24
 by_cases hq:ix (rx f.t.cs (ix f.ar a)) (ix p (ix f.s.to a))=ix (rx f.t.cs (ix p (ix f.s.fr a))) (ix g.ar a)<;>simp (disch:=omega) [Qa,Q5g,hq,bo]
theorem Q8g {f g:Fn} (h:Para f g) {p:List Int} (lp:p.length=f.ob.length) (bd:∀ j:Nat,j<p.length→0≤ix p j∧ix p j<f.t.fr.length) :
  ∃ v,QE ⟨f,g,p⟩=some v∧(v<0↔∀ a:Nat,a<f.s.fr.length→ix (rx f.t.cs (ix f.ar a)) (ix p (ix f.s.to a))=ix (rx f.t.cs (ix p (ix f.s.fr a))) (ix g.ar a)):=by
 obtain ⟨k1,k2,k3,k4,k5,k6,k7,k8,k9,k10⟩:=h.fact;unfold QE;rcases Q97 (body:=fun s6:Int=>if s6<(f.ar.length:Int) then (Q24 f g p s6).bind fun v8=>if ¬ (v8=true) then some (Ctl.ret (Sum.inr s6)) else ass (B64 (s6+1)) <| some (Ctl.next (s6+1)) else some (Ctl.ret (Sum.inl ()))) (ε:=Unit ⊕ Int)
   f.s.fr.length (fun a:Nat=>ix (rx f.t.cs (ix f.ar a)) (ix p (ix f.s.to a))=ix (rx f.t.cs (ix p (ix f.s.fr a))) (ix g.ar a)) (eb:=fun i=>Sum.inr (i:Int)) (eg:=Sum.inl ()) (by omega)
   (fun a hi hp=>by simp (disch:=omega) [Qa,B64,Q6C h lp bd hi,hp,bo];omega) (fun a hi hp=>by simp (disch:=omega) [Qa,B64,Q6C h lp bd hi,hp,bo];omega) (by simp;omega) with ⟨h1,h2⟩|⟨m,h1,h2,h3,h4⟩
 ·refine ⟨-1,?_,by simpa using h1⟩;simp only;rw [h2];rfl
 refine ⟨m,?_,⟨fun q=>by omega,fun q=>absurd (q m h1) h2⟩⟩;simp only;rw [h4];rfl
theorem e_Tshape (t:Tra):QN t=some (bo (Para t.s t.t∧t.p.length=t.s.ob.length∧(∀ j:Nat,j<t.p.length→0≤ix t.p j∧ix t.p j<t.s.t.fr.length)∧∀ x:Nat,x<t.p.length→ix t.s.t.fr (ix t.p x)=ix t.s.ob x∧ix t.s.t.to (ix t.p x)=ix t.t.ob x)):=by
 unfold QN;rw [Q4Q _ (by simp)]
 by_cases h:t.s.Is∧t.t.Is
 case neg=>rw [Qv (show ¬ ∀ c∈[t.s,t.t],c.Is by simpa using h),Qv (fun q=>h ⟨q.1.hf,q.1.hg⟩)];simp
 rw [QJ (show ∀ c∈[t.s,t.t],c.Is by simpa using h)];obtain ⟨hf,hg⟩:=h;rw [Q9v hf]
 by_cases h:t.s.s=t.t.s∧t.s.t=t.t.t
 case neg=>rw [Qv h,Qv (fun q=>h ⟨q.1.s,q.1.t⟩)];simp
 rw [QJ h];have hP:Para t.s t.t:=⟨hf,hg,h.1,h.2⟩;obtain ⟨k1,k2,k3,k4,k5,k6,k7,k8,k9,k10⟩:=hP.fact;have lo:=hf.lo;have b2:B64 ((t.s.t.fr.length:Int) - 1):=⟨by omega,by omega⟩
 by_cases h1:(t.p.length:Int)=t.s.s.n
 case neg=>rw [Qv (fun q=>h1 (by rw [q.2.1,lo]))];simp [h1]
 by_cases h2:t.p.all (inR t.s.t.fr.length)=true
 case neg=>rw [Qv (fun q=>h2 (all_inR.2 q.2.2.1))];simp [Qr,Q1D,Qa b2,h1,h2]
 have bd:=all_inR.1 h2;simp only [Qr,Q1D,Qa b2,h1,h2,not_true_eq_false,if_false,Option.bind_some,Bool.not_true,Bool.false_eq_true];refine Q15 t.p.length (fun x:Nat=>ix t.s.t.fr (ix t.p x)=ix t.s.ob x∧ix t.s.t.to (ix t.p x)=ix t.t.ob x) (eb:=Sum.inr false) (eg:=Sum.inl ()) (by omega) (fun a hi hp=>?_) (fun a hi hp=>?_) (by simp;try omega) (fun hx=>?_) fun q1=>?_
 ·have:=bd a hi;simp (disch:=omega) [Qa,B64,QO,hp.1,hp.2];omega
 ·have:=bd a hi
  by_cases hp1:ix t.s.t.fr (ix t.p a)=ix t.s.ob a
  ·have hp2:¬ ix t.s.t.to (ix t.p a)=ix t.t.ob a:=fun q=>hp ⟨hp1,q⟩;simp (disch:=omega) [Qa,B64,QO,hp1,hp2];try omega
  simp (disch:=omega) [Qa,B64,QO,hp1];try omega
 ·rw [Qv (fun q=>hx q.2.2.2)]
 rw [QJ ⟨hP,by omega,bd,q1⟩]
theorem Q5V (t:Tra):QK t=some (bo t.Is):=by
 unfold QK;rw [e_Tshape]
 by_cases h:Para t.s t.t∧t.p.length=t.s.ob.length∧(∀ j:Nat,j<t.p.length→0≤ix t.p j∧ix t.p j<t.s.t.fr.length)∧∀ x:Nat,x<t.p.length→ix t.s.t.fr (ix t.p x)=ix t.s.ob x∧ix t.s.t.to (ix t.p x)=ix t.t.ob x
 case neg=>rw [Qv h,Qv (show ¬ t.Is from fun q=>h ⟨q.p,q.n.lp,q.n.bd,q.n.ends⟩)];simp
 rw [QJ h];obtain ⟨hP,lp,bd,en⟩:=h;obtain ⟨v,hv,hiff⟩:=Q8g hP lp bd;have hv':QE t=some v:=hv
 by_cases hn:v<0
 ·rw [QJ (show t.Is from ⟨hP,lp,bd,en,hiff.1 hn⟩)];simp [hv',hn]
 rw [Qv (show ¬ t.Is from fun q=>hn (hiff.2 q.n.sq))];simp [hv',hn]
theorem Q7p (ts:List Tra) (hl:ts.length≤1048576):Q1S ts=some (bo (∀ t∈ts,t.Is)):=by
 unfold Q1S;refine Q15 ts.length (fun i:Nat=>(gx ts i).Is) (eb:=Sum.inr false) (eg:=Sum.inl ()) (by omega) (fun a hi hp=>?_) (fun a hi hp=>?_) (by simp) (fun hx=>?_) fun q1=>?_
 ·simp (disch:=omega) [Qa,B64,Q5V,QJ hp,hi]
 ·simp (disch:=omega) [Qa,B64,Q5V,Qv hp,hi]
 ·rw [Qv (show ¬ ∀ c∈ts,c.Is from fun q=>hx fun i hi=>q _ (by rw [Q6F _ hi];exact List.getElem_mem hi))]
 rw [QJ (show ∀ c∈ts,c.Is from fun c hc=>by obtain ⟨i,hi,rfl⟩:=List.getElem_of_mem hc;have:=q1 i hi;rwa [Q6F _ hi] at this)]
attribute [local simp] eL eI Qm Q34 QI Q1x Q3h Adj.cells Cat.cells Fn.cells Tra.cells
noncomputable def Q18 (a_:Adj):Option Bool :=
 (Q13 a_.l a_.r).bind fun v1 =>
 (Q13 a_.r a_.l).bind fun v2 =>
 (Q25 a_.l.s).bind fun v3 =>
 (Q25 a_.l.t).bind fun v4 =>
 (Q1S [(⟨v3,v1,a_.u⟩:Tra),(⟨v2,v4,a_.k⟩:Tra)]).bind fun v5 =>
 if ¬ (v5=true) then
  some false
 else
  (QH (σ:=Int) (ε:=Unit ⊕ Bool) (fun s17 =>
   if s17<(a_.l.ob.length:Int) then
    ass (0≤s17∧s17<(a_.l.ob.length:Int)) <|
    ass (0≤s17∧s17<(a_.u.length:Int)) <|
    ass (0≤ix a_.u s17∧ix a_.u s17<(a_.l.ar.length:Int)) <|
    ass (0≤ix a_.l.ob s17∧ix a_.l.ob s17<(a_.k.length:Int)) <|
    (Qu a_.l.t (ix a_.l.ar (ix a_.u s17)) (ix a_.k (ix a_.l.ob s17))).bind fun v23 =>
    ass (0≤ix a_.l.ob s17∧ix a_.l.ob s17<(a_.l.t.id.length:Int)) <|
    if ¬ (v23=(ix a_.l.t.id (ix a_.l.ob s17))) then
     some (Ctl.ret (Sum.inr false))
    else
     ass (B64 (s17+1)) <|
     some (Ctl.next (s17+1))
   else
    some (Ctl.ret (Sum.inl ()))) fuel 0).bind fun e7 =>
  match e7 with
  | .inl b7 =>
   (QH (σ:=Int) (ε:=Unit ⊕ Bool) (fun s37 =>
    if s37<(a_.r.ob.length:Int) then
     ass (0≤s37∧s37<(a_.r.ob.length:Int)) <|
     ass (0≤ix a_.r.ob s37∧ix a_.r.ob s37<(a_.u.length:Int)) <|
     ass (0≤s37∧s37<(a_.k.length:Int)) <|
     ass (0≤ix a_.k s37∧ix a_.k s37<(a_.r.ar.length:Int)) <|
     (Qu a_.l.s (ix a_.u (ix a_.r.ob s37)) (ix a_.r.ar (ix a_.k s37))).bind fun v43 =>
     ass (0≤ix a_.r.ob s37∧ix a_.r.ob s37<(a_.l.s.id.length:Int)) <|
     if ¬ (v43=(ix a_.l.s.id (ix a_.r.ob s37))) then
      some (Ctl.ret (Sum.inr false))
     else
      ass (B64 (s37+1)) <|
      some (Ctl.next (s37+1))
    else
     some (Ctl.ret (Sum.inl ()))) fuel 0).bind fun e27 =>
   match e27 with
   | .inl b27 =>
    some true
   | .inr p27 =>
    some p27
  | .inr p7 =>
   some p7
theorem Q4H (a_:Adj) (r:Bool) (h:Q18 a_=some r):Contract Tryz.prog 129 [.rptr (a_.cells true)] (.val (.bool r)):=by
 refine Qd (rvs:=[.tmp 2]) (rs:=[.val (.bool r)]) Tryz.func129 rfl rfl rfl rfl (by simp [Tryz.f129]) fun F hN hP=>?_;unfold Q18 at h;refine Q4 ?_;refine runQ hN fun K hK=>?_;simp [-Q0,-Q5,-Q1,-Q6,-Q2];repeat refine sdQ ?_
 refine hK _ ?_;clear hK K;refine tn ?_;refine Q9 (st':=⟨[(0,.rptr (Adj.cells true a_))],[],0⟩) (wkQ9 []) ?_;refine Q4 ?_;refine runQ hN fun K hK=>?_;simp [-Q0,-Q5,-Q1,-Q6,-Q2];repeat refine sdQ ?_
 refine hK _ ?_;clear hK K;refine tn ?_;refine Q9 (st':=⟨[(0,.rptr (Adj.cells true a_)),(3,.rptr (Adj.cells true a_)),(4,.rptr [iV a_.l.t.n,lI a_.l.t.fr,lI a_.l.t.to,lI a_.l.t.id,.lst true 1 (Ls a_.l.t.cs),lI a_.l.ob,lI a_.l.ar,iV a_.r.s.n,lI a_.r.s.fr,lI a_.r.s.to,lI a_.r.s.id,.lst true 1 (Ls a_.r.s.cs),iV a_.r.t.n,lI a_.r.t.fr,lI a_.r.t.to,lI a_.r.t.id,.lst true 1 (Ls a_.r.t.cs),lI a_.r.ob,lI a_.r.ar,lI a_.u,lI a_.k])],[],0⟩) (wkQ9 []) ?_;refine Q4 ?_;refine runQ hN fun K hK=>?_;simp [-Q0,-Q5,-Q1,-Q6,-Q2];repeat with_reducible refine sdQ ?_
 replace h:=bind_some h;obtain ⟨v1,hv1,h⟩:=h;refine Q3 (Q2C _ _ v1 hv1) (.cons (.preT (by simp [Adj.cells,Fn.cells])) (.cons (.preT (by simp [Adj.cells,Fn.cells])) .nil)) ?_;simp [-Q0,-Q5,-Q1,-Q6,-Q2,unk,unA,unE,unT,unC,flat];repeat with_reducible refine sdQ ?_
 replace h:=bind_some h;obtain ⟨v2,hv2,h⟩:=h;refine Q3 (Q2C _ _ v2 hv2) (.cons (.preT (by simp [Adj.cells,Fn.cells])) (.cons (.preT (by simp [Adj.cells,Fn.cells])) .nil)) ?_;simp [-Q0,-Q5,-Q1,-Q6,-Q2,unk,unA,unE,unT,unC,flat];repeat refine sdQ ?_
 refine hK _ ?_;clear hK K;refine tn ?_;refine Q9 (st':=⟨[(0,.rptr (Adj.cells true a_)),(3,.rptr (Adj.cells true a_)),(4,.rptr [iV a_.l.t.n,lI a_.l.t.fr,lI a_.l.t.to,lI a_.l.t.id,.lst true 1 (Ls a_.l.t.cs),lI a_.l.ob,lI a_.l.ar,iV a_.r.s.n,lI a_.r.s.fr,lI a_.r.s.to,lI a_.r.s.id,.lst true 1 (Ls a_.r.s.cs),iV a_.r.t.n,lI a_.r.t.fr,lI a_.r.t.to,lI a_.r.t.id,.lst true 1 (Ls a_.r.t.cs),lI a_.r.ob,lI a_.r.ar,lI a_.u,lI a_.k]),(5,.adr 0 0 0),(6,.adr 11 0 0)],[(0,.mix 12 [[iV v1.s.n,.own 1 0 v1.s.fr.length,.own 2 0 v1.s.to.length,.own 3 0 v1.s.id.length,.own 4 0 v1.s.cs.length,iV v1.t.n,.own 5 0 v1.t.fr.length,.own 6 0 v1.t.to.length,.own 7 0 v1.t.id.length,.own 8 0 v1.t.cs.length,.own 9 0 v1.ob.length,.own 10 0 v1.ar.length]]),(1,rI v1.s.fr),(2,rI v1.s.to),(3,rI v1.s.id),(4,.row 1 (Ls v1.s.cs)),(5,rI v1.t.fr),(6,rI v1.t.to),(7,rI v1.t.id),(8,.row 1 (Ls v1.t.cs)),(9,rI v1.ob),(10,rI v1.ar),(11,.mix 12 [[iV v2.s.n,.own 12 0 v2.s.fr.length,.own 13 0 v2.s.to.length,.own 14 0 v2.s.id.length,.own 15 0 v2.s.cs.length,iV v2.t.n,.own 16 0 v2.t.fr.length,.own 17 0 v2.t.to.length,.own 18 0 v2.t.id.length,.own 19 0 v2.t.cs.length,.own 20 0 v2.ob.length,.own 21 0 v2.ar.length]]),(12,rI v2.s.fr),(13,rI v2.s.to),(14,rI v2.s.id),(15,.row 1 (Ls v2.s.cs)),(16,rI v2.t.fr),(17,rI v2.t.to),(18,rI v2.t.id),(19,.row 1 (Ls v2.t.cs)),(20,rI v2.ob),(21,rI v2.ar)],22⟩) (wkQ9 [(24,0),(1,1),(2,2),(3,3),(4,4),(6,5),(7,6),(8,7),(9,8),(10,9),(11,10),(25,11),(13,12),(14,13),(15,14),(16,15),(18,16),(19,17),(20,18),(21,19),(22,20),(23,21)]) ?_;refine Q4 ?_;refine runQ hN fun K hK=>?_;simp [-Q0,-Q5,-Q1,-Q6,-Q2];repeat with_reducible refine sdQ ?_
 replace h:=bind_some h;obtain ⟨v3,hv3,h⟩:=h;refine Q3 (Q5B _ v3 hv3) (.cons (.preT (by simp [Adj.cells,Cat.cells,Fn.cells])) .nil) ?_;simp [-Q0,-Q5,-Q1,-Q6,-Q2,unk,unA,unE,unT,unC,flat];repeat with_reducible refine sdQ ?_
 replace h:=bind_some h;obtain ⟨v4,hv4,h⟩:=h;refine Q3 (Q5B _ v4 hv4) (.cons (.preT (by simp [Adj.cells,Cat.cells,Fn.cells])) .nil) ?_;simp [-Q0,-Q5,-Q1,-Q6,-Q2,unk,unA,unE,unT,unC,flat];repeat refine sdQ ?_
 refine hK _ ?_;clear hK K;refine tn ?_;refine Q9 (st':=⟨[(0,.rptr (Adj.cells true a_)),(3,.rptr (Adj.cells true a_)),(4,.rptr [iV a_.l.t.n,lI a_.l.t.fr,lI a_.l.t.to,lI a_.l.t.id,.lst true 1 (Ls a_.l.t.cs),lI a_.l.ob,lI a_.l.ar,iV a_.r.s.n,lI a_.r.s.fr,lI a_.r.s.to,lI a_.r.s.id,.lst true 1 (Ls a_.r.s.cs),iV a_.r.t.n,lI a_.r.t.fr,lI a_.r.t.to,lI a_.r.t.id,.lst true 1 (Ls a_.r.t.cs),lI a_.r.ob,lI a_.r.ar,lI a_.u,lI a_.k]),(5,.adr 0 0 0),(6,.adr 11 0 0),(7,.adr 22 0 0),(8,.adr 33 0 0)],[(0,.mix 12 [[iV v1.s.n,.own 1 0 v1.s.fr.length,.own 2 0 v1.s.to.length,.own 3 0 v1.s.id.length,.own 4 0 v1.s.cs.length,iV v1.t.n,.own 5 0 v1.t.fr.length,.own 6 0 v1.t.to.length,.own 7 0 v1.t.id.length,.own 8 0 v1.t.cs.length,.own 9 0 v1.ob.length,.own 10 0 v1.ar.length]]),(1,rI v1.s.fr),(2,rI v1.s.to),(3,rI v1.s.id),(4,.row 1 (Ls v1.s.cs)),(5,rI v1.t.fr),(6,rI v1.t.to),(7,rI v1.t.id),(8,.row 1 (Ls v1.t.cs)),(9,rI v1.ob),(10,rI v1.ar),(11,.mix 12 [[iV v2.s.n,.own 12 0 v2.s.fr.length,.own 13 0 v2.s.to.length,.own 14 0 v2.s.id.length,.own 15 0 v2.s.cs.length,iV v2.t.n,.own 16 0 v2.t.fr.length,.own 17 0 v2.t.to.length,.own 18 0 v2.t.id.length,.own 19 0 v2.t.cs.length,.own 20 0 v2.ob.length,.own 21 0 v2.ar.length]]),(12,rI v2.s.fr),(13,rI v2.s.to),(14,rI v2.s.id),(15,.row 1 (Ls v2.s.cs)),(16,rI v2.t.fr),(17,rI v2.t.to),(18,rI v2.t.id),(19,.row 1 (Ls v2.t.cs)),(20,rI v2.ob),(21,rI v2.ar),(22,.mix 12 [[iV v3.s.n,.own 23 0 v3.s.fr.length,.own 24 0 v3.s.to.length,.own 25 0 v3.s.id.length,.own 26 0 v3.s.cs.length,iV v3.t.n,.own 27 0 v3.t.fr.length,.own 28 0 v3.t.to.length,.own 29 0 v3.t.id.length,.own 30 0 v3.t.cs.length,.own 31 0 v3.ob.length,.own 32 0 v3.ar.length]]),(23,rI v3.s.fr),(24,rI v3.s.to),(25,rI v3.s.id),(26,.row 1 (Ls v3.s.cs)),(27,rI v3.t.fr),(28,rI v3.t.to),(29,rI v3.t.id),(30,.row 1 (Ls v3.t.cs)),(31,rI v3.ob),(32,rI v3.ar),(33,.mix 12 [[iV v4.s.n,.own 34 0 v4.s.fr.length,.own 35 0 v4.s.to.length,.own 36 0 v4.s.id.length,.own 37 0 v4.s.cs.length,iV v4.t.n,.own 38 0 v4.t.fr.length,.own 39 0 v4.t.to.length,.own 40 0 v4.t.id.length,.own 41 0 v4.t.cs.length,.own 42 0 v4.ob.length,.own 43 0 v4.ar.length]]),(34,rI v4.s.fr),(35,rI v4.s.to),(36,rI v4.s.id),(37,.row 1 (Ls v4.s.cs)),(38,rI v4.t.fr),(39,rI v4.t.to),(40,rI v4.t.id),(41,.row 1 (Ls v4.t.cs)),(42,rI v4.ob),(43,rI v4.ar)],44⟩) (wkQ9 [(0,0),(1,1),(2,2),(3,3),(4,4),(5,5),(6,6),(7,7),(8,8),(9,9),(10,10),(11,11),(12,12),(13,13),(14,14),(15,15),(16,16),(17,17),(18,18),(19,19),(20,20),(21,21),(46,22),(23,23),(24,24),(25,25),(26,26),(28,27),(29,28),(30,29),(31,30),(32,31),(33,32),(47,33),(35,34),(36,35),(37,36),(38,37),(40,38),(41,39),(42,40),(43,41),(44,42),(45,43)]) ?_;refine Q4 ?_;refine runQ hN fun K hK=>?_;simp [-Q0,-Q5,-Q1,-Q6,-Q2];repeat refine sdQ ?_
 refine hK _ ?_;clear hK K;refine tn ?_;refine Q9 (st':=⟨[(0,.rptr (Adj.cells true a_)),(3,.rptr (Adj.cells true a_)),(4,.rptr [iV a_.l.t.n,lI a_.l.t.fr,lI a_.l.t.to,lI a_.l.t.id,.lst true 1 (Ls a_.l.t.cs),lI a_.l.ob,lI a_.l.ar,iV a_.r.s.n,lI a_.r.s.fr,lI a_.r.s.to,lI a_.r.s.id,.lst true 1 (Ls a_.r.s.cs),iV a_.r.t.n,lI a_.r.t.fr,lI a_.r.t.to,lI a_.r.t.id,.lst true 1 (Ls a_.r.t.cs),lI a_.r.ob,lI a_.r.ar,lI a_.u,lI a_.k]),(6,.adr 0 0 0),(8,.adr 11 0 0),(9,.adr 22 0 0)],[(0,.mix 12 [[iV v2.s.n,.own 1 0 v2.s.fr.length,.own 2 0 v2.s.to.length,.own 3 0 v2.s.id.length,.own 4 0 v2.s.cs.length,iV v2.t.n,.own 5 0 v2.t.fr.length,.own 6 0 v2.t.to.length,.own 7 0 v2.t.id.length,.own 8 0 v2.t.cs.length,.own 9 0 v2.ob.length,.own 10 0 v2.ar.length]]),(1,rI v2.s.fr),(2,rI v2.s.to),(3,rI v2.s.id),(4,.row 1 (Ls v2.s.cs)),(5,rI v2.t.fr),(6,rI v2.t.to),(7,rI v2.t.id),(8,.row 1 (Ls v2.t.cs)),(9,rI v2.ob),(10,rI v2.ar),(11,.mix 12 [[iV v4.s.n,.own 12 0 v4.s.fr.length,.own 13 0 v4.s.to.length,.own 14 0 v4.s.id.length,.own 15 0 v4.s.cs.length,iV v4.t.n,.own 16 0 v4.t.fr.length,.own 17 0 v4.t.to.length,.own 18 0 v4.t.id.length,.own 19 0 v4.t.cs.length,.own 20 0 v4.ob.length,.own 21 0 v4.ar.length]]),(12,rI v4.s.fr),(13,rI v4.s.to),(14,rI v4.s.id),(15,.row 1 (Ls v4.s.cs)),(16,rI v4.t.fr),(17,rI v4.t.to),(18,rI v4.t.id),(19,.row 1 (Ls v4.t.cs)),(20,rI v4.ob),(21,rI v4.ar),(22,.mix 25 [[iV v3.s.n,.own 23 0 v3.s.fr.length,.own 24 0 v3.s.to.length,.own 25 0 v3.s.id.length,.own 26 0 v3.s.cs.length,iV v3.t.n,.own 27 0 v3.t.fr.length,.own 28 0 v3.t.to.length,.own 29 0 v3.t.id.length,.own 30 0 v3.t.cs.length,.own 31 0 v3.ob.length,.own 32 0 v3.ar.length,iV v1.s.n,.own 33 0 v1.s.fr.length,.own 34 0 v1.s.to.length,.own 35 0 v1.s.id.length,.own 36 0 v1.s.cs.length,iV v1.t.n,.own 37 0 v1.t.fr.length,.own 38 0 v1.t.to.length,.own 39 0 v1.t.id.length,.own 40 0 v1.t.cs.length,.own 41 0 v1.ob.length,.own 42 0 v1.ar.length,lI a_.u]]),(23,rI v3.s.fr),(24,rI v3.s.to),(25,rI v3.s.id),(26,.row 1 (Ls v3.s.cs)),(27,rI v3.t.fr),(28,rI v3.t.to),(29,rI v3.t.id),(30,.row 1 (Ls v3.t.cs)),(31,rI v3.ob),(32,rI v3.ar),(33,rI v1.s.fr),(34,rI v1.s.to),(35,rI v1.s.id),(36,.row 1 (Ls v1.s.cs)),(37,rI v1.t.fr),(38,rI v1.t.to),(39,rI v1.t.id),(40,.row 1 (Ls v1.t.cs)),(41,rI v1.ob),(42,rI v1.ar)],43⟩) (wkQ9 [(11,0),(12,1),(13,2),(14,3),(15,4),(16,5),(17,6),(18,7),(19,8),(20,9),(21,10),(33,11),(34,12),(35,13),(36,14),(37,15),(38,16),(39,17),(40,18),(41,19),(42,20),(43,21),(44,22),(23,23),(24,24),(25,25),(26,26),(27,27),(28,28),(29,29),(30,30),(31,31),(32,32),(1,33),(2,34),(3,35),(4,36),(5,37),(6,38),(7,39),(8,40),(9,41),(10,42)]) ?_;refine Q4 ?_;refine runQ hN fun K hK=>?_;simp [-Q0,-Q5,-Q1,-Q6,-Q2];repeat refine sdQ ?_
 refine hK _ ?_;clear hK K;refine tn ?_;refine Q9 (st':=⟨[(0,.rptr (Adj.cells true a_)),(3,.rptr (Adj.cells true a_)),(4,.rptr [iV a_.l.t.n,lI a_.l.t.fr,lI a_.l.t.to,lI a_.l.t.id,.lst true 1 (Ls a_.l.t.cs),lI a_.l.ob,lI a_.l.ar,iV a_.r.s.n,lI a_.r.s.fr,lI a_.r.s.to,lI a_.r.s.id,.lst true 1 (Ls a_.r.s.cs),iV a_.r.t.n,lI a_.r.t.fr,lI a_.r.t.to,lI a_.r.t.id,.lst true 1 (Ls a_.r.t.cs),lI a_.r.ob,lI a_.r.ar,lI a_.u,lI a_.k]),(9,.adr 0 0 0),(10,.adr 21 0 0)],[(0,.mix 25 [[iV v3.s.n,.own 1 0 v3.s.fr.length,.own 2 0 v3.s.to.length,.own 3 0 v3.s.id.length,.own 4 0 v3.s.cs.length,iV v3.t.n,.own 5 0 v3.t.fr.length,.own 6 0 v3.t.to.length,.own 7 0 v3.t.id.length,.own 8 0 v3.t.cs.length,.own 9 0 v3.ob.length,.own 10 0 v3.ar.length,iV v1.s.n,.own 11 0 v1.s.fr.length,.own 12 0 v1.s.to.length,.own 13 0 v1.s.id.length,.own 14 0 v1.s.cs.length,iV v1.t.n,.own 15 0 v1.t.fr.length,.own 16 0 v1.t.to.length,.own 17 0 v1.t.id.length,.own 18 0 v1.t.cs.length,.own 19 0 v1.ob.length,.own 20 0 v1.ar.length,lI a_.u]]),(1,rI v3.s.fr),(2,rI v3.s.to),(3,rI v3.s.id),(4,.row 1 (Ls v3.s.cs)),(5,rI v3.t.fr),(6,rI v3.t.to),(7,rI v3.t.id),(8,.row 1 (Ls v3.t.cs)),(9,rI v3.ob),(10,rI v3.ar),(11,rI v1.s.fr),(12,rI v1.s.to),(13,rI v1.s.id),(14,.row 1 (Ls v1.s.cs)),(15,rI v1.t.fr),(16,rI v1.t.to),(17,rI v1.t.id),(18,.row 1 (Ls v1.t.cs)),(19,rI v1.ob),(20,rI v1.ar),(21,.mix 25 [[iV v2.s.n,.own 22 0 v2.s.fr.length,.own 23 0 v2.s.to.length,.own 24 0 v2.s.id.length,.own 25 0 v2.s.cs.length,iV v2.t.n,.own 26 0 v2.t.fr.length,.own 27 0 v2.t.to.length,.own 28 0 v2.t.id.length,.own 29 0 v2.t.cs.length,.own 30 0 v2.ob.length,.own 31 0 v2.ar.length,iV v4.s.n,.own 32 0 v4.s.fr.length,.own 33 0 v4.s.to.length,.own 34 0 v4.s.id.length,.own 35 0 v4.s.cs.length,iV v4.t.n,.own 36 0 v4.t.fr.length,.own 37 0 v4.t.to.length,.own 38 0 v4.t.id.length,.own 39 0 v4.t.cs.length,.own 40 0 v4.ob.length,.own 41 0 v4.ar.length,lI a_.k]]),(22,rI v2.s.fr),(23,rI v2.s.to),(24,rI v2.s.id),(25,.row 1 (Ls v2.s.cs)),(26,rI v2.t.fr),(27,rI v2.t.to),(28,rI v2.t.id),(29,.row 1 (Ls v2.t.cs)),(30,rI v2.ob),(31,rI v2.ar),(32,rI v4.s.fr),(33,rI v4.s.to),(34,rI v4.s.id),(35,.row 1 (Ls v4.s.cs)),(36,rI v4.t.fr),(37,rI v4.t.to),(38,rI v4.t.id),(39,.row 1 (Ls v4.t.cs)),(40,rI v4.ob),(41,rI v4.ar)],42⟩) (wkQ9 [(22,0),(23,1),(24,2),(25,3),(26,4),(27,5),(28,6),(29,7),(30,8),(31,9),(32,10),(33,11),(34,12),(35,13),(36,14),(37,15),(38,16),(39,17),(40,18),(41,19),(42,20),(43,21),(1,22),(2,23),(3,24),(4,25),(5,26),(6,27),(7,28),(8,29),(9,30),(10,31),(12,32),(13,33),(14,34),(15,35),(16,36),(17,37),(18,38),(19,39),(20,40),(21,41)]) ?_;refine Q4 ?_;refine Q4 ?_;refine runQ hN fun K hK=>?_;simp [-Q0,-Q5,-Q1,-Q6,-Q2];repeat with_reducible refine sdQ ?_
 replace h:=bind_some h;obtain ⟨v5,hv5,h⟩:=h;refine Q3 (Q6v _ v5 hv5) (.cons (.lits (es:=_) rfl (.cons rfl (.cons (.field rfl (by simp [Adj.cells,Cat.cells,Fn.cells,Tra.cells]) (.cons .val (.cons (.whole (by simp) (by simp) (by simp)) (.cons (.whole (by simp) (by simp) (by simp)) (.cons (.whole (by simp) (by simp) (by simp)) (.cons (.whole (by simp) (by simp) (by simp)) (.cons .val (.cons (.whole (by simp) (by simp) (by simp)) (.cons (.whole (by simp) (by simp) (by simp)) (.cons (.whole (by simp) (by simp) (by simp)) (.cons (.whole (by simp) (by simp) (by simp)) (.cons (.whole (by simp) (by simp) (by simp)) (.cons (.whole (by simp) (by simp) (by simp)) (.cons .val (.cons (.whole (by simp) (by simp) (by simp)) (.cons (.whole (by simp) (by simp) (by simp)) (.cons (.whole (by simp) (by simp) (by simp)) (.cons (.whole (by simp) (by simp) (by simp)) (.cons .val (.cons (.whole (by simp) (by simp) (by simp)) (.cons (.whole (by simp) (by simp) (by simp)) (.cons (.whole (by simp) (by simp) (by simp)) (.cons (.whole (by simp) (by simp) (by simp)) (.cons (.whole (by simp) (by simp) (by simp)) (.cons (.whole (by simp) (by simp) (by simp)) (.cons .lst .nil)))))))))))))))))))))))))) .nil) (.cons rfl (.cons (.field rfl (by simp [Adj.cells,Cat.cells,Fn.cells,Tra.cells]) (.cons .val (.cons (.whole (by simp) (by simp) (by simp)) (.cons (.whole (by simp) (by simp) (by simp)) (.cons (.whole (by simp) (by simp) (by simp)) (.cons (.whole (by simp) (by simp) (by simp)) (.cons .val (.cons (.whole (by simp) (by simp) (by simp)) (.cons (.whole (by simp) (by simp) (by simp)) (.cons (.whole (by simp) (by simp) (by simp)) (.cons (.whole (by simp) (by simp) (by simp)) (.cons (.whole (by simp) (by simp) (by simp)) (.cons (.whole (by simp) (by simp) (by simp)) (.cons .val (.cons (.whole (by simp) (by simp) (by simp)) (.cons (.whole (by simp) (by simp) (by simp)) (.cons (.whole (by simp) (by simp) (by simp)) (.cons (.whole (by simp) (by simp) (by simp)) (.cons .val (.cons (.whole (by simp) (by simp) (by simp)) (.cons (.whole (by simp) (by simp) (by simp)) (.cons (.whole (by simp) (by simp) (by simp)) (.cons (.whole (by simp) (by simp) (by simp)) (.cons (.whole (by simp) (by simp) (by simp)) (.cons (.whole (by simp) (by simp) (by simp)) (.cons .lst .nil)))))))))))))))))))))))))) .nil) .nil)) rfl) .nil) ?_;simp [-Q0,-Q5,-Q1,-Q6,-Q2,unk,unA,unE,unT,unC,flat];repeat refine sdQ ?_
 refine hK _ ?_;clear hK K;refine tn ?_;refine Q9 (st':=⟨[(0,.rptr (Adj.cells true a_)),(3,.rptr (Adj.cells true a_)),(4,.rptr [iV a_.l.t.n,lI a_.l.t.fr,lI a_.l.t.to,lI a_.l.t.id,.lst true 1 (Ls a_.l.t.cs),lI a_.l.ob,lI a_.l.ar,iV a_.r.s.n,lI a_.r.s.fr,lI a_.r.s.to,lI a_.r.s.id,.lst true 1 (Ls a_.r.s.cs),iV a_.r.t.n,lI a_.r.t.fr,lI a_.r.t.to,lI a_.r.t.id,.lst true 1 (Ls a_.r.t.cs),lI a_.r.ob,lI a_.r.ar,lI a_.u,lI a_.k]),(57,.val (.bool (!v5)))],[],0⟩) (wkQ9 []) ?_;refine Qe rfl (fun g=>?_) fun g=>?_
 ·have g6:¬ (v5=true):=gQ;clear g;replace h:=if_l g6 h;refine Q4 ?_;refine runQ hN fun K hK=>?_;simp [-Q0,-Q5,-Q1,-Q6,-Q2];repeat refine sdQ ?_
  refine hK _ ?_;clear hK K;refine tn ?_;refine Q9 (st':=⟨[(2,.val (.bool false))],[],0⟩) (wkQ9 []) ?_;refine Qi ?_;refine tr ?_;have hr:=Option.some.inj h;rw [← hr];refine ⟨_,(.tmp .nil),?_⟩;refine ⟨(.one rfl rfl .nil),[.val (.bool false)],[],by simp [Adj.cells,Cat.cells,Fn.cells,Tra.cells,UA,U1,IA,I1,LA,L1,BA,B1,EA,E1,E2,eB,eI,eL],by simp,(UpL.refl _)⟩
 have g6:¬ (¬ (v5=true)):=gQ;clear g;replace h:=if_r g6 h;refine Qf ?_;refine tn ?_;refine Q4 ?_;refine Q4 ?_;refine runQ hN fun K hK=>?_;simp [-Q0,-Q5,-Q1,-Q6,-Q2];repeat refine sdQ ?_
 refine hK _ ?_;clear hK K;refine tn ?_;refine Q9 (st':=⟨[(0,.rptr (Adj.cells true a_)),(3,.rptr (Adj.cells true a_)),(4,.rptr [iV a_.l.t.n,lI a_.l.t.fr,lI a_.l.t.to,lI a_.l.t.id,.lst true 1 (Ls a_.l.t.cs),lI a_.l.ob,lI a_.l.ar,iV a_.r.s.n,lI a_.r.s.fr,lI a_.r.s.to,lI a_.r.s.id,.lst true 1 (Ls a_.r.s.cs),iV a_.r.t.n,lI a_.r.t.fr,lI a_.r.t.to,lI a_.r.t.id,.lst true 1 (Ls a_.r.t.cs),lI a_.r.ob,lI a_.r.ar,lI a_.u,lI a_.k]),(62,lI a_.l.ob),(63,iV (a_.l.ob.length:Int)),(64,iV 0)],[],0⟩) (wkQ9 []) ?_;replace h:=bind_some h;obtain ⟨e7,h,h7⟩:=h;refine Qk (fun b7:Unit=>⟨[(0,.rptr (Adj.cells true a_)),(3,.rptr (Adj.cells true a_))],[],0⟩) (fun b7=>Sum.inl b7=e7) ?_ ?_
 ·refine Qc ?_;refine Qw h (fun s17:Int=>⟨[(0,.rptr (Adj.cells true a_)),(3,.rptr (Adj.cells true a_)),(4,.rptr [iV a_.l.t.n,lI a_.l.t.fr,lI a_.l.t.to,lI a_.l.t.id,.lst true 1 (Ls a_.l.t.cs),lI a_.l.ob,lI a_.l.ar,iV a_.r.s.n,lI a_.r.s.fr,lI a_.r.s.to,lI a_.r.s.id,.lst true 1 (Ls a_.r.s.cs),iV a_.r.t.n,lI a_.r.t.fr,lI a_.r.t.to,lI a_.r.t.id,.lst true 1 (Ls a_.r.t.cs),lI a_.r.ob,lI a_.r.ar,lI a_.u,lI a_.k]),(62,lI a_.l.ob),(63,iV (a_.l.ob.length:Int)),(64,iV s17)],[],0⟩) (wkQ9 []) ?_;clear h;intro k17 s17 c17 h hk17;refine Q4 ?_;refine runQ hN fun K hK=>?_;simp [-Q0,-Q5,-Q1,-Q6,-Q2];repeat refine sdQ ?_
  refine hK _ ?_;clear hK K;refine tn ?_;refine Q9 (st':=⟨[(0,.rptr (Adj.cells true a_)),(3,.rptr (Adj.cells true a_)),(4,.rptr [iV a_.l.t.n,lI a_.l.t.fr,lI a_.l.t.to,lI a_.l.t.id,.lst true 1 (Ls a_.l.t.cs),lI a_.l.ob,lI a_.l.ar,iV a_.r.s.n,lI a_.r.s.fr,lI a_.r.s.to,lI a_.r.s.id,.lst true 1 (Ls a_.r.s.cs),iV a_.r.t.n,lI a_.r.t.fr,lI a_.r.t.to,lI a_.r.t.id,.lst true 1 (Ls a_.r.t.cs),lI a_.r.ob,lI a_.r.ar,lI a_.u,lI a_.k]),(62,lI a_.l.ob),(63,iV (a_.l.ob.length:Int)),(64,iV s17),(65,.val (.bool (decide (s17<(a_.l.ob.length:Int)))))],[],0⟩) (wkQ9 []) ?_;refine Q4 ?_;refine Qe rfl (fun g=>?_) fun g=>?_
  ·have g18:s17<(a_.l.ob.length:Int):=gQ;clear g;replace h:=if_l g18 h;refine Qf ?_;refine tn ?_;refine Q4 ?_;refine Qc ?_;refine Q4 ?_;refine runQ hN fun K hK=>?_;replace h:=Q8 h;obtain ⟨a19,h⟩:=h;simp [-Q0,-Q5,-Q1,-Q6,-Q2,at_I a19];(repeat refine sdQ ?_);refine hK _ ?_;clear hK K;refine tn ?_;refine Q9 (st':=⟨[(0,.rptr (Adj.cells true a_)),(3,.rptr (Adj.cells true a_)),(4,.rptr [iV a_.l.t.n,lI a_.l.t.fr,lI a_.l.t.to,lI a_.l.t.id,.lst true 1 (Ls a_.l.t.cs),lI a_.l.ob,lI a_.l.ar,iV a_.r.s.n,lI a_.r.s.fr,lI a_.r.s.to,lI a_.r.s.id,.lst true 1 (Ls a_.r.s.cs),iV a_.r.t.n,lI a_.r.t.fr,lI a_.r.t.to,lI a_.r.t.id,.lst true 1 (Ls a_.r.t.cs),lI a_.r.ob,lI a_.r.ar,lI a_.u,lI a_.k]),(11,iV s17),(12,iV (ix a_.l.ob s17)),(62,lI a_.l.ob),(63,iV (a_.l.ob.length:Int)),(64,iV s17)],[],0⟩) (wkQ9 []) ?_;refine Q4 ?_;refine runQ hN fun K hK=>?_;replace h:=Q8 h;obtain ⟨a20,h⟩:=h;replace h:=Q8 h;obtain ⟨a21,h⟩:=h;replace h:=Q8 h;obtain ⟨a22,h⟩:=h;simp [-Q0,-Q5,-Q1,-Q6,-Q2,at_I a20,at_I a21,at_I a22];(repeat with_reducible refine sdQ ?_);replace h:=bind_some h;obtain ⟨v23,hv23,h⟩:=h;refine Q3 (QG _ _ _ v23 hv23) (.cons (.preT (by simp [Adj.cells,Cat.cells,Fn.cells,Tra.cells])) (.cons .val (.cons .val .nil))) ?_;replace h:=Q8 h;obtain ⟨a24,h⟩:=h;simp [-Q0,-Q5,-Q1,-Q6,-Q2,unk,unA,unE,unT,unC,flat,at_I a20,at_I a21,at_I a22,at_I a24];(repeat refine sdQ ?_);refine hK _ ?_;clear hK K;refine tn ?_;refine Q9 (st':=⟨[(0,.rptr (Adj.cells true a_)),(3,.rptr (Adj.cells true a_)),(4,.rptr [iV a_.l.t.n,lI a_.l.t.fr,lI a_.l.t.to,lI a_.l.t.id,.lst true 1 (Ls a_.l.t.cs),lI a_.l.ob,lI a_.l.ar,iV a_.r.s.n,lI a_.r.s.fr,lI a_.r.s.to,lI a_.r.s.id,.lst true 1 (Ls a_.r.s.cs),iV a_.r.t.n,lI a_.r.t.fr,lI a_.r.t.to,lI a_.r.t.id,.lst true 1 (Ls a_.r.t.cs),lI a_.r.ob,lI a_.r.ar,lI a_.u,lI a_.k]),(62,lI a_.l.ob),(63,iV (a_.l.ob.length:Int)),(64,iV s17),(99,.val (.bool (v23 != (ix a_.l.t.id (ix a_.l.ob s17)))))],[],0⟩) (wkQ9 []) ?_;refine Qe rfl (fun g=>?_) fun g=>?_
   ·have g25:¬ (v23=(ix a_.l.t.id (ix a_.l.ob s17))):=gQ;clear g;replace h:=if_l g25 h;refine Q4 ?_;refine runQ hN fun K hK=>?_;simp [-Q0,-Q5,-Q1,-Q6,-Q2];(repeat refine sdQ ?_);refine hK _ ?_;clear hK K;refine tn ?_;refine Q9 (st':=⟨[(2,.val (.bool false))],[],0⟩) (wkQ9 []) ?_;refine Qi ?_;refine br ?_;refine tr ?_;refine lr ?_;refine br ?_;refine tr ?_;cases h;have q:_=e7:=hk17;have h:=h7;rw [← q] at h;clear q;(try dsimp only at h);have hr:=Option.some.inj h;rw [← hr];refine ⟨_,(.tmp .nil),?_⟩;refine ⟨(.one rfl rfl .nil),[.val (.bool false)],[],by simp [Adj.cells,Cat.cells,Fn.cells,Tra.cells,UA,U1,IA,I1,LA,L1,BA,B1,EA,E1,E2,eB,eI,eL],by simp,(UpL.refl _)⟩
   have g25:¬ (¬ (v23=(ix a_.l.t.id (ix a_.l.ob s17)))):=gQ;clear g;replace h:=if_r g25 h;refine Qf ?_;refine bn ?_;refine tn ?_;refine runQ hN fun K hK=>?_;replace h:=Q8 h;obtain ⟨a26,h⟩:=h;simp [-Q0,-Q5,-Q1,-Q6,-Q2,Qs a26];(repeat refine sdQ ?_);refine hK _ ?_;clear hK K;cases h;exact rn (s':=s17+1) hk17 (wkQ9 [])
  have g18:¬ (s17<(a_.l.ob.length:Int)):=gQ;clear g;replace h:=if_r g18 h;refine Qp ?_;refine tx ?_;refine lx ?_;refine bh ?_;cases h;exact jn (b:=()) hk17 (wkQ9 [])
 intro b7 hb7;have h:=h7;try rw [← hb7] at h
 clear h7;try dsimp only at h
 refine Q4 ?_;refine Q4 ?_;refine runQ hN fun K hK=>?_;simp [-Q0,-Q5,-Q1,-Q6,-Q2];repeat refine sdQ ?_
 refine hK _ ?_;clear hK K;refine tn ?_;refine Q9 (st':=⟨[(0,.rptr (Adj.cells true a_)),(3,.rptr (Adj.cells true a_)),(105,lI a_.r.ob),(106,iV (a_.r.ob.length:Int)),(107,iV 0)],[],0⟩) (wkQ9 []) ?_;replace h:=bind_some h;obtain ⟨e27,h,h27⟩:=h;refine Qk (fun b27:Unit=>⟨[],[],0⟩) (fun b27=>Sum.inl b27=e27) ?_ ?_
 ·refine Qc ?_;refine Qw h (fun s37:Int=>⟨[(0,.rptr (Adj.cells true a_)),(3,.rptr (Adj.cells true a_)),(105,lI a_.r.ob),(106,iV (a_.r.ob.length:Int)),(107,iV s37)],[],0⟩) (wkQ9 []) ?_;clear h;intro k37 s37 c37 h hk37;refine Q4 ?_;refine runQ hN fun K hK=>?_;simp [-Q0,-Q5,-Q1,-Q6,-Q2];repeat refine sdQ ?_
  refine hK _ ?_;clear hK K;refine tn ?_;refine Q9 (st':=⟨[(0,.rptr (Adj.cells true a_)),(3,.rptr (Adj.cells true a_)),(105,lI a_.r.ob),(106,iV (a_.r.ob.length:Int)),(107,iV s37),(108,.val (.bool (decide (s37<(a_.r.ob.length:Int)))))],[],0⟩) (wkQ9 []) ?_;refine Q4 ?_;refine Qe rfl (fun g=>?_) fun g=>?_
  ·have g38:s37<(a_.r.ob.length:Int):=gQ;clear g;replace h:=if_l g38 h;refine Qf ?_;refine tn ?_;refine Q4 ?_;refine Qc ?_;refine Q4 ?_;refine runQ hN fun K hK=>?_;replace h:=Q8 h;obtain ⟨a39,h⟩:=h;simp [-Q0,-Q5,-Q1,-Q6,-Q2,at_I a39];(repeat refine sdQ ?_);refine hK _ ?_;clear hK K;refine tn ?_;refine Q9 (st':=⟨[(0,.rptr (Adj.cells true a_)),(3,.rptr (Adj.cells true a_)),(13,iV s37),(14,iV (ix a_.r.ob s37)),(105,lI a_.r.ob),(106,iV (a_.r.ob.length:Int)),(107,iV s37)],[],0⟩) (wkQ9 []) ?_;refine Q4 ?_;refine runQ hN fun K hK=>?_;replace h:=Q8 h;obtain ⟨a40,h⟩:=h;replace h:=Q8 h;obtain ⟨a41,h⟩:=h;replace h:=Q8 h;obtain ⟨a42,h⟩:=h;simp [-Q0,-Q5,-Q1,-Q6,-Q2,at_I a40,at_I a41,at_I a42];(repeat with_reducible refine sdQ ?_);replace h:=bind_some h;obtain ⟨v43,hv43,h⟩:=h;refine Q3 (QG _ _ _ v43 hv43) (.cons (.preT (by simp [Adj.cells,Cat.cells,Fn.cells,Tra.cells])) (.cons .val (.cons .val .nil))) ?_;replace h:=Q8 h;obtain ⟨a44,h⟩:=h;simp [-Q0,-Q5,-Q1,-Q6,-Q2,unk,unA,unE,unT,unC,flat,at_I a40,at_I a41,at_I a42,at_I a44];(repeat refine sdQ ?_);refine hK _ ?_;clear hK K;refine tn ?_;refine Q9 (st':=⟨[(0,.rptr (Adj.cells true a_)),(3,.rptr (Adj.cells true a_)),(105,lI a_.r.ob),(106,iV (a_.r.ob.length:Int)),(107,iV s37),(142,.val (.bool (v43 != (ix a_.l.s.id (ix a_.r.ob s37)))))],[],0⟩) (wkQ9 []) ?_;refine Qe rfl (fun g=>?_) fun g=>?_
   ·have g45:¬ (v43=(ix a_.l.s.id (ix a_.r.ob s37))):=gQ;clear g;replace h:=if_l g45 h;refine Q4 ?_;refine runQ hN fun K hK=>?_;simp [-Q0,-Q5,-Q1,-Q6,-Q2];(repeat refine sdQ ?_);refine hK _ ?_;clear hK K;refine tn ?_;refine Q9 (st':=⟨[(2,.val (.bool false))],[],0⟩) (wkQ9 []) ?_;refine Qi ?_;refine br ?_;refine tr ?_;refine lr ?_;refine br ?_;refine tr ?_;cases h;have q:_=e27:=hk37;have h:=h27;rw [← q] at h;clear q;(try dsimp only at h);have hr:=Option.some.inj h;rw [← hr];refine ⟨_,(.tmp .nil),?_⟩;refine ⟨(.one rfl rfl .nil),[.val (.bool false)],[],by simp [Adj.cells,Cat.cells,Fn.cells,Tra.cells,UA,U1,IA,I1,LA,L1,BA,B1,EA,E1,E2,eB,eI,eL],by simp,(UpL.refl _)⟩
   have g45:¬ (¬ (v43=(ix a_.l.s.id (ix a_.r.ob s37)))):=gQ;clear g;replace h:=if_r g45 h;refine Qf ?_;refine bn ?_;refine tn ?_;refine runQ hN fun K hK=>?_;replace h:=Q8 h;obtain ⟨a46,h⟩:=h;simp [-Q0,-Q5,-Q1,-Q6,-Q2,Qs a46];(repeat refine sdQ ?_);refine hK _ ?_;clear hK K;cases h;exact rn (s':=s37+1) hk37 (wkQ9 [])
  have g38:¬ (s37<(a_.r.ob.length:Int)):=gQ;clear g;replace h:=if_r g38 h;refine Qp ?_;refine tx ?_;refine lx ?_;refine bh ?_;cases h;exact jn (b:=()) hk37 (wkQ9 [])
 intro b27 hb27;have h:=h27;try rw [← hb27] at h
 clear h27;try dsimp only at h
 refine Q4 ?_;refine runQ hN fun K hK=>?_;simp [-Q0,-Q5,-Q1,-Q6,-Q2];repeat refine sdQ ?_
 refine hK _ ?_;clear hK K;refine tn ?_;refine Q9 (st':=⟨[(2,.val (.bool true))],[],0⟩) (wkQ9 []) ?_;refine Qi ?_;have hr:=Option.some.inj h;rw [← hr];refine ⟨_,(.tmp .nil),?_⟩;refine ⟨(.one rfl rfl .nil),[.val (.bool true)],[],by simp [Adj.cells,Cat.cells,Fn.cells,Tra.cells,UA,U1,IA,I1,LA,L1,BA,B1,EA,E1,E2,eB,eI,eL],by simp,(UpL.refl _)⟩
attribute [local simp] eL eI Qm QI Q1x Cat.cells Fn.cells
noncomputable def Q2x (f_:Fn) (g_:Fn):Option Bool :=
 (
  (QW f_.s g_.t).bind fun v2 =>
  if v2=true then
   (QW f_.t g_.s).bind fun v4 =>
   some v4
  else
   some false:Option (Bool)).bind fun b1 =>
 some b1
theorem Q7Z (f_:Fn) (g_:Fn) (r:Bool) (h:Q2x f_ g_=some r):Contract Tryz.prog 128 [.rptr (f_.cells true),.rptr (g_.cells true)] (.val (.bool r)):=by
 refine Qd (rvs:=[.tmp 4]) (rs:=[.val (.bool r)]) Tryz.func128 rfl rfl rfl rfl (by simp [Tryz.f128]) fun F hN hP=>?_;unfold Q2x at h;refine Q4 ?_;refine runQ hN fun K hK=>?_;simp [-Q0,-Q5,-Q1,-Q6,-Q2];repeat refine sdQ ?_
 refine hK _ ?_;clear hK K;refine tn ?_;refine Q9 (st':=⟨[(0,.rptr (Fn.cells true f_)),(1,.rptr (Fn.cells true g_))],[],0⟩) (wkQ9 []) ?_;refine Q4 ?_;replace h:=bind_some h;obtain ⟨e1,h,h1⟩:=h;refine Qk (fun b1:Bool=>⟨[(4,.val (.bool b1))],[],0⟩) (fun b1=>b1=e1) ?_ ?_
 ·refine runQ hN fun K hK=>?_;simp [-Q0,-Q5,-Q1,-Q6,-Q2];repeat with_reducible refine sdQ ?_
  replace h:=bind_some h;obtain ⟨v2,hv2,h⟩:=h;refine Q3 (Q1V _ _ v2 hv2) (.cons (.preT (by simp [Cat.cells,Fn.cells])) (.cons (.preT (by simp [Cat.cells,Fn.cells])) .nil)) ?_;simp [-Q0,-Q5,-Q1,-Q6,-Q2,unk,unA,unE,unT,unC,flat];repeat with_reducible refine sdQ ?_
  refine Qo (fun g=>?_) (fun g=>?_)
  ·have g3:v2=true:=gQ;clear g;replace h:=if_l g3 h;simp [-Q0,-Q5,-Q1,-Q6,-Q2];(repeat with_reducible refine sdQ ?_);replace h:=bind_some h;obtain ⟨v4,hv4,h⟩:=h;refine Q3 (Q1V _ _ v4 hv4) (.cons (.preT (by simp [Cat.cells,Fn.cells])) (.cons (.preT (by simp [Cat.cells,Fn.cells])) .nil)) ?_;simp [-Q0,-Q5,-Q1,-Q6,-Q2,unk,unA,unE,unT,unC,flat];(repeat refine sdQ ?_);refine hK _ ?_;exact jn (b:=v4) (Option.some.inj h) (wkQ9 [])
  have g3:¬ (v2=true):=gQ;clear g;replace h:=if_r g3 h;simp [-Q0,-Q5,-Q1,-Q6,-Q2];repeat refine sdQ ?_
  refine hK _ ?_;exact jn (b:=false) (Option.some.inj h) (wkQ9 [])
 intro b1 hb1;have h:=h1;try rw [← hb1] at h
 clear h1;try dsimp only at h
 refine Qi ?_;have hr:=Option.some.inj h;rw [← hr];refine ⟨_,(.tmp .nil),?_⟩;refine ⟨(.one rfl rfl .nil),[.val (.bool b1)],[],by simp [Cat.cells,Fn.cells,UA,U1,IA,I1,LA,L1,BA,B1,EA,E1,E2,eB,eI,eL],by simp,(UpL.refl _)⟩
attribute [local simp] eL eI Qm Q34 Q1x Adj.cells Fn.cells
noncomputable def QL (a_:Adj):Option Bool :=
 (
  (Q1w [a_.l,a_.r]).bind fun v2 =>
  if v2=true then
   (Q2x a_.l a_.r).bind fun v4 =>
   if v4=true then
    (Q18 a_).bind fun v6 =>
    some v6
   else
    some false
  else
   some false:Option (Bool)).bind fun b1 =>
 some b1
theorem Q30 (a_:Adj) (r:Bool) (h:QL a_=some r):Contract Tryz.prog 93 [.rptr (a_.cells true)] (.val (.bool r)):=by
 refine Qd (rvs:=[.tmp 2]) (rs:=[.val (.bool r)]) Tryz.func93 rfl rfl rfl rfl (by simp [Tryz.f93]) fun F hN hP=>?_;unfold QL at h;refine Q4 ?_;refine runQ hN fun K hK=>?_;simp [-Q0,-Q5,-Q1,-Q6,-Q2];repeat refine sdQ ?_
 refine hK _ ?_;clear hK K;refine tn ?_;refine Q9 (st':=⟨[(0,.rptr (Adj.cells true a_))],[],0⟩) (wkQ9 []) ?_;refine Q4 ?_;replace h:=bind_some h;obtain ⟨e1,h,h1⟩:=h;refine Qk (fun b1:Bool=>⟨[(2,.val (.bool b1))],[],0⟩) (fun b1=>b1=e1) ?_ ?_
 ·refine runQ hN fun K hK=>?_;simp [-Q0,-Q5,-Q1,-Q6,-Q2];repeat with_reducible refine sdQ ?_
  replace h:=bind_some h;obtain ⟨v2,hv2,h⟩:=h;refine Q3 (Q4a _ v2 hv2) (.cons (.lits (es:=_) rfl (.cons rfl (.cons (.preT (by simp [Adj.cells,Fn.cells])) .nil) (.cons rfl (.cons (.preT (by simp [Adj.cells,Fn.cells])) .nil) .nil)) rfl) .nil) ?_;simp [-Q0,-Q5,-Q1,-Q6,-Q2,unk,unA,unE,unT,unC,flat];repeat with_reducible refine sdQ ?_
  refine Qo (fun g=>?_) (fun g=>?_)
  ·have g3:v2=true:=gQ;clear g;replace h:=if_l g3 h;simp [-Q0,-Q5,-Q1,-Q6,-Q2];(repeat with_reducible refine sdQ ?_);replace h:=bind_some h;obtain ⟨v4,hv4,h⟩:=h;refine Q3 (Q7Z _ _ v4 hv4) (.cons (.preT (by simp [Adj.cells,Fn.cells])) (.cons (.preT (by simp [Adj.cells,Fn.cells])) .nil)) ?_;simp [-Q0,-Q5,-Q1,-Q6,-Q2,unk,unA,unE,unT,unC,flat];(repeat with_reducible refine sdQ ?_);refine Qo (fun g=>?_) (fun g=>?_)
   ·have g5:v4=true:=gQ;clear g;replace h:=if_l g5 h;simp [-Q0,-Q5,-Q1,-Q6,-Q2];(repeat with_reducible refine sdQ ?_);replace h:=bind_some h;obtain ⟨v6,hv6,h⟩:=h;refine Q3 (Q4H _ v6 hv6) (.cons (.preT (by simp [Adj.cells,Fn.cells])) .nil) ?_;simp [-Q0,-Q5,-Q1,-Q6,-Q2,unk,unA,unE,unT,unC,flat];(repeat refine sdQ ?_);refine hK _ ?_;exact jn (b:=v6) (Option.some.inj h) (wkQ9 [])
   have g5:¬ (v4=true):=gQ;clear g;replace h:=if_r g5 h;simp [-Q0,-Q5,-Q1,-Q6,-Q2];(repeat refine sdQ ?_);refine hK _ ?_;exact jn (b:=false) (Option.some.inj h) (wkQ9 [])
  have g3:¬ (v2=true):=gQ;clear g;replace h:=if_r g3 h;simp [-Q0,-Q5,-Q1,-Q6,-Q2];repeat refine sdQ ?_
  refine hK _ ?_;exact jn (b:=false) (Option.some.inj h) (wkQ9 [])
 intro b1 hb1;have h:=h1;try rw [← hb1] at h
 clear h1;try dsimp only at h
 refine Qi ?_;have hr:=Option.some.inj h;rw [← hr];refine ⟨_,(.tmp .nil),?_⟩;refine ⟨(.one rfl rfl .nil),[.val (.bool b1)],[],by simp [Adj.cells,Fn.cells,UA,U1,IA,I1,LA,L1,BA,B1,EA,E1,E2,eB,eI,eL],by simp,(UpL.refl _)⟩
noncomputable def Q1q (c_:Cat) (f_:Int):Option Bool :=
 ass (0≤f_∧f_<(c_.fr.length:Int)) <|
 ass (0≤ix c_.fr f_∧ix c_.fr f_<(c_.id.length:Int)) <|
 some ((ix c_.id (ix c_.fr f_)) == f_)
theorem Q31 (c_:Cat) (f_:Int) (r:Bool) (h:Q1q c_ f_=some r):Contract Tryz.prog 126 [.agg (c_.cells true),iV f_] (.val (.bool r)):=by
 refine Qd (rvs:=[.tmp 4]) (rs:=[.val (.bool r)]) Tryz.func126 rfl rfl rfl rfl (by simp [Tryz.f126]) fun F hN hP=>?_;unfold Q1q at h;refine Q4 ?_;refine runQ hN fun K hK=>?_;simp [-Q0,-Q5,-Q1,-Q6,-Q2,eL,eI,Qm,QI,Cat.cells];repeat refine sdQ ?_
 refine hK _ ?_;clear hK K;refine tn ?_;refine Q9 (st':=⟨[(1,iV f_),(2,.adr 0 0 0)],[(0,.mix 5 [(Cat.cells true c_)])],1⟩) (wkQ9 [(0,0)]) ?_;refine Q4 ?_;refine runQ hN fun K hK=>?_;replace h:=Q8 h;obtain ⟨a1,h⟩:=h;replace h:=Q8 h;obtain ⟨a2,h⟩:=h;simp [-Q0,-Q5,-Q1,-Q6,-Q2,eL,eI,Qm,QI,Cat.cells,at_I a1,at_I a2];repeat refine sdQ ?_
 refine hK _ ?_;clear hK K;refine tn ?_;refine Q9 (st':=⟨[(4,.val (.bool ((ix c_.id (ix c_.fr f_)) == f_)))],[],0⟩) (wkQ9 []) ?_;refine Qi ?_;have hr:=Option.some.inj h;rw [← hr];refine ⟨_,(.tmp .nil),?_⟩;refine ⟨(.one rfl rfl .nil),[.val (.bool ((ix c_.id (ix c_.fr f_)) == f_))],[],by simp [Cat.cells,UA,U1,IA,I1,LA,L1,BA,B1,EA,E1,E2,eB,eI,eL],by simp,(UpL.refl _)⟩
attribute [local simp] eL eI Qm QI Q1x Cat.cells Fn.cells
noncomputable def Q2y (f_:Fn) (g_:Fn):Option Bool :=
 (
  (Q1Y f_.t g_.s).bind fun v2 =>
  if v2=true then
   (Q1Y g_.t f_.s).bind fun v4 =>
   some v4
  else
   some false:Option (Bool)).bind fun b1 =>
 some b1
theorem Q81 (f_:Fn) (g_:Fn) (r:Bool) (h:Q2y f_ g_=some r):Contract Tryz.prog 124 [.agg (f_.cells true),.agg (g_.cells true)] (.val (.bool r)):=by
 refine Qd (rvs:=[.tmp 4]) (rs:=[.val (.bool r)]) Tryz.func124 rfl rfl rfl rfl (by simp [Tryz.f124]) fun F hN hP=>?_;unfold Q2y at h;refine Q4 ?_;refine runQ hN fun K hK=>?_;simp [-Q0,-Q5,-Q1,-Q6,-Q2];repeat refine sdQ ?_
 refine hK _ ?_;clear hK K;refine tn ?_;refine Q9 (st':=⟨[(2,.adr 0 0 0),(3,.adr 1 0 0)],[(0,.mix 12 [(Fn.cells true f_)]),(1,.mix 12 [(Fn.cells true g_)])],2⟩) (wkQ9 [(0,0),(1,1)]) ?_;refine Q4 ?_;replace h:=bind_some h;obtain ⟨e1,h,h1⟩:=h;refine Qk (fun b1:Bool=>⟨[(4,.val (.bool b1))],[],0⟩) (fun b1=>b1=e1) ?_ ?_
 ·refine runQ hN fun K hK=>?_;simp [-Q0,-Q5,-Q1,-Q6,-Q2];repeat with_reducible refine sdQ ?_
  replace h:=bind_some h;obtain ⟨v2,hv2,h⟩:=h;refine Q3 (Q4K _ _ v2 hv2) (.cons (.aggL (.cons .val (.cons .lst (.cons .lst (.cons .lst (.cons .lst .nil)))))) (.cons (.aggL (.cons .val (.cons .lst (.cons .lst (.cons .lst (.cons .lst .nil)))))) .nil)) ?_;simp [-Q0,-Q5,-Q1,-Q6,-Q2,unk,unA,unE,unT,unC,flat];repeat with_reducible refine sdQ ?_
  refine Qo (fun g=>?_) (fun g=>?_)
  ·have g3:v2=true:=gQ;clear g;replace h:=if_l g3 h;simp [-Q0,-Q5,-Q1,-Q6,-Q2];(repeat with_reducible refine sdQ ?_);replace h:=bind_some h;obtain ⟨v4,hv4,h⟩:=h;refine Q3 (Q4K _ _ v4 hv4) (.cons (.aggL (.cons .val (.cons .lst (.cons .lst (.cons .lst (.cons .lst .nil)))))) (.cons (.aggL (.cons .val (.cons .lst (.cons .lst (.cons .lst (.cons .lst .nil)))))) .nil)) ?_;simp [-Q0,-Q5,-Q1,-Q6,-Q2,unk,unA,unE,unT,unC,flat];(repeat refine sdQ ?_);refine hK _ ?_;exact jn (b:=v4) (Option.some.inj h) (wkQ9 [])
  have g3:¬ (v2=true):=gQ;clear g;replace h:=if_r g3 h;simp [-Q0,-Q5,-Q1,-Q6,-Q2];repeat refine sdQ ?_
  refine hK _ ?_;exact jn (b:=false) (Option.some.inj h) (wkQ9 [])
 intro b1 hb1;have h:=h1;try rw [← hb1] at h
 clear h1;try dsimp only at h
 refine Qi ?_;have hr:=Option.some.inj h;rw [← hr];refine ⟨_,(.tmp .nil),?_⟩;refine ⟨(.one rfl rfl .nil),[.val (.bool b1)],[],by simp [Cat.cells,Fn.cells,UA,U1,IA,I1,LA,L1,BA,B1,EA,E1,E2,eB,eI,eL],by simp,(UpL.refl _)⟩
attribute [local simp] eL eI Qm Q34 QI Q1x Adj.cells Cat.cells Fn.cells
noncomputable def Q3Z (a_:Adj):Option Bool :=
 (
  (Q2X a_.l).bind fun v2 =>
  if ¬ (v2=true) then
   some true
  else
   (Q2X a_.r).bind fun v4 =>
   if ¬ (v4=true) then
    some true
   else
    (Q2y a_.l a_.r).bind fun v6 =>
    some (!v6):Option (Bool)).bind fun b1 =>
 if b1=true then
  some false
 else
  (
   (Q20 a_.l.s).bind fun v9 =>
   (Q1N a_.l a_.r).bind fun v10 =>
   (Q17 v9 v10 a_.u).bind fun v11 =>
   if ¬ (v11=true) then
    some true
   else
    (Q1N a_.r a_.l).bind fun v13 =>
    (Q20 a_.l.t).bind fun v14 =>
    (Q17 v13 v14 a_.k).bind fun v15 =>
    some (!v15):Option (Bool)).bind fun b8 =>
  if b8=true then
   some false
  else
   (QH (σ:=Int) (ε:=Unit ⊕ Bool) (fun s27 =>
    if s27<a_.l.s.n then
     ass (0≤s27∧s27<(a_.u.length:Int)) <|
     ass (0≤ix a_.u s27∧ix a_.u s27<(a_.l.ar.length:Int)) <|
     ass (0≤s27∧s27<(a_.l.ob.length:Int)) <|
     ass (0≤ix a_.l.ob s27∧ix a_.l.ob s27<(a_.k.length:Int)) <|
     (QF a_.l.t (ix a_.l.ar (ix a_.u s27)) (ix a_.k (ix a_.l.ob s27))).bind fun v33 =>
     (Q1q a_.l.t v33).bind fun v34 =>
     if ¬ (v34=true) then
      some (Ctl.ret (Sum.inr false))
     else
      ass (B64 (s27+1)) <|
      some (Ctl.next (s27+1))
    else
     some (Ctl.ret (Sum.inl ()))) fuel 0).bind fun e17 =>
   match e17 with
   | .inl b17 =>
    (QH (σ:=Int) (ε:=Unit ⊕ Bool) (fun s47 =>
     if s47<a_.l.t.n then
      ass (0≤s47∧s47<(a_.r.ob.length:Int)) <|
      ass (0≤ix a_.r.ob s47∧ix a_.r.ob s47<(a_.u.length:Int)) <|
      ass (0≤s47∧s47<(a_.k.length:Int)) <|
      ass (0≤ix a_.k s47∧ix a_.k s47<(a_.r.ar.length:Int)) <|
      (QF a_.l.s (ix a_.u (ix a_.r.ob s47)) (ix a_.r.ar (ix a_.k s47))).bind fun v53 =>
      (Q1q a_.l.s v53).bind fun v54 =>
      if ¬ (v54=true) then
       some (Ctl.ret (Sum.inr false))
      else
       ass (B64 (s47+1)) <|
       some (Ctl.next (s47+1))
     else
      some (Ctl.ret (Sum.inl ()))) fuel 0).bind fun e37 =>
    match e37 with
    | .inl b37 =>
     some true
    | .inr p37 =>
     some p37
   | .inr p17 =>
    some p17
theorem w_s_l15Is (a_:Adj) (r:Bool) (h:Q3Z a_=some r):Contract Tryz.prog 91 [.agg (a_.cells true)] (.val (.bool r)):=by
 refine Qd (rvs:=[.tmp 2]) (rs:=[.val (.bool r)]) Tryz.func91 rfl rfl rfl rfl (by simp [Tryz.f91]) fun F hN hP=>?_;unfold Q3Z at h;refine Q4 ?_;refine runQ hN fun K hK=>?_;simp [-Q0,-Q5,-Q1,-Q6,-Q2];repeat refine sdQ ?_
 refine hK _ ?_;clear hK K;refine tn ?_;refine Q9 (st':=⟨[(1,.adr 0 0 0)],[(0,.mix 26 [(Adj.cells true a_)])],1⟩) (wkQ9 [(0,0)]) ?_;refine Q4 ?_;refine Q9p mo (by rw [hN];decide) fun K hK=>?_;simp [-Q0,-Q5,-Q1,-Q6,-Q2];repeat refine sdQ ?_
 refine hK _ ?_;clear hK K;refine tn ?_;refine Q9 (st':=⟨[(1,.adr 0 0 0),(3,.adr 1 0 0),(4,.adr 2 0 0)],[(0,.mix 26 [(Adj.cells true a_)]),(1,.mix 12 [(Fn.cells true a_.l)]),(2,.mix 12 [(Fn.cells true a_.r)])],3⟩) (wkQ9 [(0,0),(1,1),(2,2)]) ?_;refine Q4 ?_;refine Q4 ?_;replace h:=bind_some h;obtain ⟨e1,h,h1⟩:=h;refine Qk (fun b1:Bool=>⟨[(1,.adr 0 0 0),(3,.adr 1 0 0),(4,.adr 2 0 0),(26,.val (.bool b1))],[(0,.mix 26 [(Adj.cells true a_)]),(1,.mix 12 [(Fn.cells true a_.l)]),(2,.mix 12 [(Fn.cells true a_.r)])],3⟩) (fun b1=>b1=e1) ?_ ?_
 ·refine runQ hN fun K hK=>?_;simp [-Q0,-Q5,-Q1,-Q6,-Q2];repeat with_reducible refine sdQ ?_
  replace h:=bind_some h;obtain ⟨v2,hv2,h⟩:=h;refine Q3 (Q6n _ v2 hv2) (.cons (.aggL (.cons .val (.cons .lst (.cons .lst (.cons .lst (.cons .lst (.cons .val (.cons .lst (.cons .lst (.cons .lst (.cons .lst (.cons .lst (.cons .lst .nil))))))))))))) .nil) ?_;simp [-Q0,-Q5,-Q1,-Q6,-Q2,unk,unA,unE,unT,unC,flat];repeat with_reducible refine sdQ ?_
  refine Qo (fun g=>?_) (fun g=>?_)
  ·have g3:¬ (¬ (v2=true)):=gQ;clear g;replace h:=if_r g3 h;simp [-Q0,-Q5,-Q1,-Q6,-Q2];(repeat with_reducible refine sdQ ?_);replace h:=bind_some h;obtain ⟨v4,hv4,h⟩:=h;refine Q3 (Q6n _ v4 hv4) (.cons (.aggL (.cons .val (.cons .lst (.cons .lst (.cons .lst (.cons .lst (.cons .val (.cons .lst (.cons .lst (.cons .lst (.cons .lst (.cons .lst (.cons .lst .nil))))))))))))) .nil) ?_;simp [-Q0,-Q5,-Q1,-Q6,-Q2,unk,unA,unE,unT,unC,flat];(repeat with_reducible refine sdQ ?_);refine Qo (fun g=>?_) (fun g=>?_)
   ·have g5:¬ (¬ (v4=true)):=gQ;clear g;replace h:=if_r g5 h;simp [-Q0,-Q5,-Q1,-Q6,-Q2];(repeat with_reducible refine sdQ ?_);replace h:=bind_some h;obtain ⟨v6,hv6,h⟩:=h;refine Q3 (Q81 _ _ v6 hv6) (.cons (.aggL (.cons .val (.cons .lst (.cons .lst (.cons .lst (.cons .lst (.cons .val (.cons .lst (.cons .lst (.cons .lst (.cons .lst (.cons .lst (.cons .lst .nil))))))))))))) (.cons (.aggL (.cons .val (.cons .lst (.cons .lst (.cons .lst (.cons .lst (.cons .val (.cons .lst (.cons .lst (.cons .lst (.cons .lst (.cons .lst (.cons .lst .nil))))))))))))) .nil)) ?_;simp [-Q0,-Q5,-Q1,-Q6,-Q2,unk,unA,unE,unT,unC,flat];(repeat refine sdQ ?_);refine hK _ ?_;exact jn (b:=!v6) (Option.some.inj h) (wkQ9 [(0,0),(1,1),(2,2)])
   have g5:¬ (v4=true):=gQ;clear g;replace h:=if_l g5 h;simp [-Q0,-Q5,-Q1,-Q6,-Q2];(repeat refine sdQ ?_);refine hK _ ?_;exact jn (b:=true) (Option.some.inj h) (wkQ9 [(0,0),(1,1),(2,2)])
  have g3:¬ (v2=true):=gQ;clear g;replace h:=if_l g3 h;simp [-Q0,-Q5,-Q1,-Q6,-Q2];repeat refine sdQ ?_
  refine hK _ ?_;exact jn (b:=true) (Option.some.inj h) (wkQ9 [(0,0),(1,1),(2,2)])
 intro b1 hb1;have h:=h1;try rw [← hb1] at h
 clear h1;try dsimp only at h
 refine Qe rfl (fun g=>?_) fun g=>?_
 ·have g7:b1=true:=gQ;clear g;replace h:=if_l g7 h;refine Q4 ?_;refine runQ hN fun K hK=>?_;simp [-Q0,-Q5,-Q1,-Q6,-Q2];repeat refine sdQ ?_
  refine hK _ ?_;clear hK K;refine tn ?_;refine Q9 (st':=⟨[(2,.val (.bool false))],[],0⟩) (wkQ9 []) ?_;refine Qi ?_;refine tr ?_;have hr:=Option.some.inj h;rw [← hr];refine ⟨_,(.tmp .nil),?_⟩;refine ⟨(.one rfl rfl .nil),[.val (.bool false)],[],by simp [Adj.cells,Cat.cells,Fn.cells,UA,U1,IA,I1,LA,L1,BA,B1,EA,E1,E2,eB,eI,eL],by simp,(UpL.refl _)⟩
 have g7:¬ (b1=true):=gQ;clear g;replace h:=if_r g7 h;refine Qf ?_;refine tn ?_;refine Q4 ?_;refine Q9p mo (by rw [hN];decide) fun K hK=>?_;simp [-Q0,-Q5,-Q1,-Q6,-Q2];repeat refine sdQ ?_
 refine hK _ ?_;clear hK K;refine tn ?_;refine Q9 (st':=⟨[(1,.adr 0 0 0),(3,.adr 1 0 0),(4,.adr 2 0 0),(5,.adr 3 0 0),(6,.adr 4 0 0)],[(0,.mix 26 [(Adj.cells true a_)]),(1,.mix 12 [(Fn.cells true a_.l)]),(2,.mix 12 [(Fn.cells true a_.r)]),(3,.mix 5 [(Cat.cells true a_.l.s)]),(4,.mix 5 [(Cat.cells true a_.l.t)])],5⟩) (wkQ9 [(0,0),(1,1),(2,2),(3,3),(4,4)]) ?_;refine Q4 ?_;refine Q4 ?_;replace h:=bind_some h;obtain ⟨e8,h,h8⟩:=h;refine Qk (fun b8:Bool=>⟨[(1,.adr 0 0 0),(3,.adr 1 0 0),(4,.adr 2 0 0),(5,.adr 3 0 0),(6,.adr 4 0 0),(50,.val (.bool b8))],[(0,.mix 26 [(Adj.cells true a_)]),(1,.mix 12 [(Fn.cells true a_.l)]),(2,.mix 12 [(Fn.cells true a_.r)]),(3,.mix 5 [(Cat.cells true a_.l.s)]),(4,.mix 5 [(Cat.cells true a_.l.t)])],5⟩) (fun b8=>b8=e8) ?_ ?_
 ·refine runQ hN fun K hK=>?_;simp [-Q0,-Q5,-Q1,-Q6,-Q2];repeat with_reducible refine sdQ ?_
  replace h:=bind_some h;obtain ⟨v9,hv9,h⟩:=h;refine Q3 (Q4M _ v9 hv9) (.cons (.aggL (.cons .val (.cons .lst (.cons .lst (.cons .lst (.cons .lst .nil)))))) .nil) ?_;simp [-Q0,-Q5,-Q1,-Q6,-Q2,unk,unA,unE,unT,unC,flat];repeat with_reducible refine sdQ ?_
  replace h:=bind_some h;obtain ⟨v10,hv10,h⟩:=h;refine Q3 (Q3D _ _ v10 hv10) (.cons (.aggL (.cons .val (.cons .lst (.cons .lst (.cons .lst (.cons .lst (.cons .val (.cons .lst (.cons .lst (.cons .lst (.cons .lst (.cons .lst (.cons .lst .nil))))))))))))) (.cons (.aggL (.cons .val (.cons .lst (.cons .lst (.cons .lst (.cons .lst (.cons .val (.cons .lst (.cons .lst (.cons .lst (.cons .lst (.cons .lst (.cons .lst .nil))))))))))))) .nil)) ?_;simp [-Q0,-Q5,-Q1,-Q6,-Q2,unk,unA,unE,unT,unC,flat];repeat with_reducible refine sdQ ?_
  replace h:=bind_some h;obtain ⟨v11,hv11,h⟩:=h;refine Q3 (Q2r _ _ _ v11 hv11) (.cons (.aggL (.cons .val (.cons (.whole (by simp) (by simp) (by simp)) (.cons (.whole (by simp) (by simp) (by simp)) (.cons (.whole (by simp) (by simp) (by simp)) (.cons (.whole (by simp) (by simp) (by simp)) (.cons .val (.cons (.whole (by simp) (by simp) (by simp)) (.cons (.whole (by simp) (by simp) (by simp)) (.cons (.whole (by simp) (by simp) (by simp)) (.cons (.whole (by simp) (by simp) (by simp)) (.cons (.whole (by simp) (by simp) (by simp)) (.cons (.whole (by simp) (by simp) (by simp)) .nil))))))))))))) (.cons (.aggL (.cons .val (.cons (.whole (by simp) (by simp) (by simp)) (.cons (.whole (by simp) (by simp) (by simp)) (.cons (.whole (by simp) (by simp) (by simp)) (.cons (.whole (by simp) (by simp) (by simp)) (.cons .val (.cons (.whole (by simp) (by simp) (by simp)) (.cons (.whole (by simp) (by simp) (by simp)) (.cons (.whole (by simp) (by simp) (by simp)) (.cons (.whole (by simp) (by simp) (by simp)) (.cons (.whole (by simp) (by simp) (by simp)) (.cons (.whole (by simp) (by simp) (by simp)) .nil))))))))))))) (.cons .lst .nil))) ?_;simp [-Q0,-Q5,-Q1,-Q6,-Q2,unk,unA,unE,unT,unC,flat];repeat with_reducible refine sdQ ?_
  refine Qo (fun g=>?_) (fun g=>?_)
  ·have g12:¬ (¬ (v11=true)):=gQ;clear g;replace h:=if_r g12 h;simp [-Q0,-Q5,-Q1,-Q6,-Q2];(repeat with_reducible refine sdQ ?_);replace h:=bind_some h;obtain ⟨v13,hv13,h⟩:=h;refine Q3 (Q3D _ _ v13 hv13) (.cons (.aggL (.cons .val (.cons .lst (.cons .lst (.cons .lst (.cons .lst (.cons .val (.cons .lst (.cons .lst (.cons .lst (.cons .lst (.cons .lst (.cons .lst .nil))))))))))))) (.cons (.aggL (.cons .val (.cons .lst (.cons .lst (.cons .lst (.cons .lst (.cons .val (.cons .lst (.cons .lst (.cons .lst (.cons .lst (.cons .lst (.cons .lst .nil))))))))))))) .nil)) ?_;simp [-Q0,-Q5,-Q1,-Q6,-Q2,unk,unA,unE,unT,unC,flat];(repeat with_reducible refine sdQ ?_);replace h:=bind_some h;obtain ⟨v14,hv14,h⟩:=h;refine Q3 (Q4M _ v14 hv14) (.cons (.aggL (.cons .val (.cons .lst (.cons .lst (.cons .lst (.cons .lst .nil)))))) .nil) ?_;simp [-Q0,-Q5,-Q1,-Q6,-Q2,unk,unA,unE,unT,unC,flat];(repeat with_reducible refine sdQ ?_);replace h:=bind_some h;obtain ⟨v15,hv15,h⟩:=h;refine Q3 (Q2r _ _ _ v15 hv15) (.cons (.aggL (.cons .val (.cons (.whole (by simp) (by simp) (by simp)) (.cons (.whole (by simp) (by simp) (by simp)) (.cons (.whole (by simp) (by simp) (by simp)) (.cons (.whole (by simp) (by simp) (by simp)) (.cons .val (.cons (.whole (by simp) (by simp) (by simp)) (.cons (.whole (by simp) (by simp) (by simp)) (.cons (.whole (by simp) (by simp) (by simp)) (.cons (.whole (by simp) (by simp) (by simp)) (.cons (.whole (by simp) (by simp) (by simp)) (.cons (.whole (by simp) (by simp) (by simp)) .nil))))))))))))) (.cons (.aggL (.cons .val (.cons (.whole (by simp) (by simp) (by simp)) (.cons (.whole (by simp) (by simp) (by simp)) (.cons (.whole (by simp) (by simp) (by simp)) (.cons (.whole (by simp) (by simp) (by simp)) (.cons .val (.cons (.whole (by simp) (by simp) (by simp)) (.cons (.whole (by simp) (by simp) (by simp)) (.cons (.whole (by simp) (by simp) (by simp)) (.cons (.whole (by simp) (by simp) (by simp)) (.cons (.whole (by simp) (by simp) (by simp)) (.cons (.whole (by simp) (by simp) (by simp)) .nil))))))))))))) (.cons .lst .nil))) ?_;simp [-Q0,-Q5,-Q1,-Q6,-Q2,unk,unA,unE,unT,unC,flat];(repeat refine sdQ ?_);refine hK _ ?_;exact jn (b:=!v15) (Option.some.inj h) (wkQ9 [(0,0),(1,1),(2,2),(3,3),(4,4)])
  have g12:¬ (v11=true):=gQ;clear g;replace h:=if_l g12 h;simp [-Q0,-Q5,-Q1,-Q6,-Q2];repeat refine sdQ ?_
  refine hK _ ?_;exact jn (b:=true) (Option.some.inj h) (wkQ9 [(0,0),(1,1),(2,2),(3,3),(4,4)])
 intro b8 hb8;have h:=h8;try rw [← hb8] at h
 clear h8;try dsimp only at h
 refine Qe rfl (fun g=>?_) fun g=>?_
 ·have g16:b8=true:=gQ;clear g;replace h:=if_l g16 h;refine Q4 ?_;refine runQ hN fun K hK=>?_;simp [-Q0,-Q5,-Q1,-Q6,-Q2];repeat refine sdQ ?_
  refine hK _ ?_;clear hK K;refine tn ?_;refine Q9 (st':=⟨[(2,.val (.bool false))],[],0⟩) (wkQ9 []) ?_;refine Qi ?_;refine tr ?_;have hr:=Option.some.inj h;rw [← hr];refine ⟨_,(.tmp .nil),?_⟩;refine ⟨(.one rfl rfl .nil),[.val (.bool false)],[],by simp [Adj.cells,Cat.cells,Fn.cells,UA,U1,IA,I1,LA,L1,BA,B1,EA,E1,E2,eB,eI,eL],by simp,(UpL.refl _)⟩
 have g16:¬ (b8=true):=gQ;clear g;replace h:=if_r g16 h;refine Qf ?_;refine tn ?_;refine Q4 ?_;refine Q4 ?_;refine runQ hN fun K hK=>?_;simp [-Q0,-Q5,-Q1,-Q6,-Q2];repeat refine sdQ ?_
 refine hK _ ?_;clear hK K;refine tn ?_;refine Q9 (st':=⟨[(1,.adr 0 0 0),(3,.adr 1 0 0),(4,.adr 2 0 0),(5,.adr 3 0 0),(6,.adr 4 0 0),(7,iV 0)],[(0,.mix 26 [(Adj.cells true a_)]),(1,.mix 12 [(Fn.cells true a_.l)]),(2,.mix 12 [(Fn.cells true a_.r)]),(3,.mix 5 [(Cat.cells true a_.l.s)]),(4,.mix 5 [(Cat.cells true a_.l.t)])],5⟩) (wkQ9 [(0,0),(1,1),(2,2),(3,3),(4,4)]) ?_;replace h:=bind_some h;obtain ⟨e17,h,h17⟩:=h;refine Qk (fun b17:Unit=>⟨[(1,.adr 0 0 0),(4,.adr 1 0 0),(5,.adr 2 0 0),(6,.adr 3 0 0)],[(0,.mix 26 [(Adj.cells true a_)]),(1,.mix 12 [(Fn.cells true a_.r)]),(2,.mix 5 [(Cat.cells true a_.l.s)]),(3,.mix 5 [(Cat.cells true a_.l.t)])],4⟩) (fun b17=>Sum.inl b17=e17) ?_ ?_
 ·refine Qc ?_;refine Qw h (fun s27:Int=>⟨[(1,.adr 0 0 0),(3,.adr 1 0 0),(4,.adr 2 0 0),(5,.adr 3 0 0),(6,.adr 4 0 0),(7,iV s27)],[(0,.mix 26 [(Adj.cells true a_)]),(1,.mix 12 [(Fn.cells true a_.l)]),(2,.mix 12 [(Fn.cells true a_.r)]),(3,.mix 5 [(Cat.cells true a_.l.s)]),(4,.mix 5 [(Cat.cells true a_.l.t)])],5⟩) (wkQ9 [(0,0),(1,1),(2,2),(3,3),(4,4)]) ?_;clear h;intro k27 s27 c27 h hk27;refine Q4 ?_;refine Q4 ?_;refine runQ hN fun K hK=>?_;simp [-Q0,-Q5,-Q1,-Q6,-Q2];repeat refine sdQ ?_
  refine hK _ ?_;clear hK K;refine tn ?_;refine Q9 (st':=⟨[(1,.adr 0 0 0),(3,.adr 1 0 0),(4,.adr 2 0 0),(5,.adr 3 0 0),(6,.adr 4 0 0),(7,iV s27),(54,.val (.bool (decide (s27<a_.l.s.n))))],[(0,.mix 26 [(Adj.cells true a_)]),(1,.mix 12 [(Fn.cells true a_.l)]),(2,.mix 12 [(Fn.cells true a_.r)]),(3,.mix 5 [(Cat.cells true a_.l.s)]),(4,.mix 5 [(Cat.cells true a_.l.t)])],5⟩) (wkQ9 [(0,0),(1,1),(2,2),(3,3),(4,4)]) ?_;refine Qe rfl (fun g=>?_) fun g=>?_
  ·have g28:s27<a_.l.s.n:=gQ;clear g;replace h:=if_l g28 h;refine Qf ?_;refine tn ?_;refine Q4 ?_;refine Qc ?_;refine Q4 ?_;refine runQ hN fun K hK=>?_;replace h:=Q8 h;obtain ⟨a29,h⟩:=h;replace h:=Q8 h;obtain ⟨a30,h⟩:=h;replace h:=Q8 h;obtain ⟨a31,h⟩:=h;replace h:=Q8 h;obtain ⟨a32,h⟩:=h;simp [-Q0,-Q5,-Q1,-Q6,-Q2,at_I a29,at_I a30,at_I a31,at_I a32];(repeat with_reducible refine sdQ ?_);replace h:=bind_some h;obtain ⟨v33,hv33,h⟩:=h;refine Q3 (QU _ _ _ v33 hv33) (.cons (.aggL (.cons .val (.cons .lst (.cons .lst (.cons .lst (.cons .lst .nil)))))) (.cons .val (.cons .val .nil))) ?_;simp [-Q0,-Q5,-Q1,-Q6,-Q2,unk,unA,unE,unT,unC,flat,at_I a29,at_I a30,at_I a31,at_I a32];(repeat with_reducible refine sdQ ?_);replace h:=bind_some h;obtain ⟨v34,hv34,h⟩:=h;refine Q3 (Q31 _ _ v34 hv34) (.cons (.aggL (.cons .val (.cons .lst (.cons .lst (.cons .lst (.cons .lst .nil)))))) (.cons .val .nil)) ?_;simp [-Q0,-Q5,-Q1,-Q6,-Q2,unk,unA,unE,unT,unC,flat,at_I a29,at_I a30,at_I a31,at_I a32];(repeat refine sdQ ?_);refine hK _ ?_;clear hK K;refine tn ?_;refine Q9 (st':=⟨[(1,.adr 0 0 0),(3,.adr 1 0 0),(4,.adr 2 0 0),(5,.adr 3 0 0),(6,.adr 4 0 0),(7,iV s27),(79,.val (.bool (!v34)))],[(0,.mix 26 [(Adj.cells true a_)]),(1,.mix 12 [(Fn.cells true a_.l)]),(2,.mix 12 [(Fn.cells true a_.r)]),(3,.mix 5 [(Cat.cells true a_.l.s)]),(4,.mix 5 [(Cat.cells true a_.l.t)])],5⟩) (wkQ9 [(0,0),(1,1),(2,2),(3,3),(4,4)]) ?_;refine Qe rfl (fun g=>?_) fun g=>?_
   ·have g35:¬ (v34=true):=gQ;clear g;replace h:=if_l g35 h;refine Q4 ?_;refine runQ hN fun K hK=>?_;simp [-Q0,-Q5,-Q1,-Q6,-Q2];(repeat refine sdQ ?_);refine hK _ ?_;clear hK K;refine tn ?_;refine Q9 (st':=⟨[(2,.val (.bool false))],[],0⟩) (wkQ9 []) ?_;refine Qi ?_;refine br ?_;refine tr ?_;refine lr ?_;refine br ?_;refine tr ?_;cases h;have q:_=e17:=hk27;have h:=h17;rw [← q] at h;clear q;(try dsimp only at h);have hr:=Option.some.inj h;rw [← hr];refine ⟨_,(.tmp .nil),?_⟩;refine ⟨(.one rfl rfl .nil),[.val (.bool false)],[],by simp [Adj.cells,Cat.cells,Fn.cells,UA,U1,IA,I1,LA,L1,BA,B1,EA,E1,E2,eB,eI,eL],by simp,(UpL.refl _)⟩
   have g35:¬ (¬ (v34=true)):=gQ;clear g;replace h:=if_r g35 h;refine Qf ?_;refine bn ?_;refine tn ?_;refine runQ hN fun K hK=>?_;replace h:=Q8 h;obtain ⟨a36,h⟩:=h;simp [-Q0,-Q5,-Q1,-Q6,-Q2,Qs a36];(repeat refine sdQ ?_);refine hK _ ?_;clear hK K;cases h;exact rn (s':=s27+1) hk27 (wkQ9 [(0,0),(1,1),(2,2),(3,3),(4,4)])
  have g28:¬ (s27<a_.l.s.n):=gQ;clear g;replace h:=if_r g28 h;refine Qp ?_;refine tx ?_;refine lx ?_;refine bh ?_;cases h;exact jn (b:=()) hk27 (wkQ9 [(0,0),(2,1),(3,2),(4,3)])
 intro b17 hb17;have h:=h17;try rw [← hb17] at h
 clear h17;try dsimp only at h
 refine Q4 ?_;refine Q4 ?_;refine runQ hN fun K hK=>?_;simp [-Q0,-Q5,-Q1,-Q6,-Q2];repeat refine sdQ ?_
 refine hK _ ?_;clear hK K;refine tn ?_;refine Q9 (st':=⟨[(1,.adr 0 0 0),(4,.adr 1 0 0),(5,.adr 2 0 0),(6,.adr 3 0 0),(8,iV 0)],[(0,.mix 26 [(Adj.cells true a_)]),(1,.mix 12 [(Fn.cells true a_.r)]),(2,.mix 5 [(Cat.cells true a_.l.s)]),(3,.mix 5 [(Cat.cells true a_.l.t)])],4⟩) (wkQ9 [(0,0),(1,1),(2,2),(3,3)]) ?_;replace h:=bind_some h;obtain ⟨e37,h,h37⟩:=h;refine Qk (fun b37:Unit=>⟨[],[],0⟩) (fun b37=>Sum.inl b37=e37) ?_ ?_
 ·refine Qc ?_;refine Qw h (fun s47:Int=>⟨[(1,.adr 0 0 0),(4,.adr 1 0 0),(5,.adr 2 0 0),(6,.adr 3 0 0),(8,iV s47)],[(0,.mix 26 [(Adj.cells true a_)]),(1,.mix 12 [(Fn.cells true a_.r)]),(2,.mix 5 [(Cat.cells true a_.l.s)]),(3,.mix 5 [(Cat.cells true a_.l.t)])],4⟩) (wkQ9 [(0,0),(1,1),(2,2),(3,3)]) ?_;clear h;intro k47 s47 c47 h hk47;refine Q4 ?_;refine Q4 ?_;refine runQ hN fun K hK=>?_;simp [-Q0,-Q5,-Q1,-Q6,-Q2];repeat refine sdQ ?_
  refine hK _ ?_;clear hK K;refine tn ?_;refine Q9 (st':=⟨[(1,.adr 0 0 0),(4,.adr 1 0 0),(5,.adr 2 0 0),(6,.adr 3 0 0),(8,iV s47),(83,.val (.bool (decide (s47<a_.l.t.n))))],[(0,.mix 26 [(Adj.cells true a_)]),(1,.mix 12 [(Fn.cells true a_.r)]),(2,.mix 5 [(Cat.cells true a_.l.s)]),(3,.mix 5 [(Cat.cells true a_.l.t)])],4⟩) (wkQ9 [(0,0),(1,1),(2,2),(3,3)]) ?_;refine Qe rfl (fun g=>?_) fun g=>?_
  ·have g48:s47<a_.l.t.n:=gQ;clear g;replace h:=if_l g48 h;refine Qf ?_;refine tn ?_;refine Q4 ?_;refine Qc ?_;refine Q4 ?_;refine runQ hN fun K hK=>?_;replace h:=Q8 h;obtain ⟨a49,h⟩:=h;replace h:=Q8 h;obtain ⟨a50,h⟩:=h;replace h:=Q8 h;obtain ⟨a51,h⟩:=h;replace h:=Q8 h;obtain ⟨a52,h⟩:=h;simp [-Q0,-Q5,-Q1,-Q6,-Q2,at_I a49,at_I a50,at_I a51,at_I a52];(repeat with_reducible refine sdQ ?_);replace h:=bind_some h;obtain ⟨v53,hv53,h⟩:=h;refine Q3 (QU _ _ _ v53 hv53) (.cons (.aggL (.cons .val (.cons .lst (.cons .lst (.cons .lst (.cons .lst .nil)))))) (.cons .val (.cons .val .nil))) ?_;simp [-Q0,-Q5,-Q1,-Q6,-Q2,unk,unA,unE,unT,unC,flat,at_I a49,at_I a50,at_I a51,at_I a52];(repeat with_reducible refine sdQ ?_);replace h:=bind_some h;obtain ⟨v54,hv54,h⟩:=h;refine Q3 (Q31 _ _ v54 hv54) (.cons (.aggL (.cons .val (.cons .lst (.cons .lst (.cons .lst (.cons .lst .nil)))))) (.cons .val .nil)) ?_;simp [-Q0,-Q5,-Q1,-Q6,-Q2,unk,unA,unE,unT,unC,flat,at_I a49,at_I a50,at_I a51,at_I a52];(repeat refine sdQ ?_);refine hK _ ?_;clear hK K;refine tn ?_;refine Q9 (st':=⟨[(1,.adr 0 0 0),(4,.adr 1 0 0),(5,.adr 2 0 0),(6,.adr 3 0 0),(8,iV s47),(108,.val (.bool (!v54)))],[(0,.mix 26 [(Adj.cells true a_)]),(1,.mix 12 [(Fn.cells true a_.r)]),(2,.mix 5 [(Cat.cells true a_.l.s)]),(3,.mix 5 [(Cat.cells true a_.l.t)])],4⟩) (wkQ9 [(0,0),(1,1),(2,2),(3,3)]) ?_;refine Qe rfl (fun g=>?_) fun g=>?_
   ·have g55:¬ (v54=true):=gQ;clear g;replace h:=if_l g55 h;refine Q4 ?_;refine runQ hN fun K hK=>?_;simp [-Q0,-Q5,-Q1,-Q6,-Q2];(repeat refine sdQ ?_);refine hK _ ?_;clear hK K;refine tn ?_;refine Q9 (st':=⟨[(2,.val (.bool false))],[],0⟩) (wkQ9 []) ?_;refine Qi ?_;refine br ?_;refine tr ?_;refine lr ?_;refine br ?_;refine tr ?_;cases h;have q:_=e37:=hk47;have h:=h37;rw [← q] at h;clear q;(try dsimp only at h);have hr:=Option.some.inj h;rw [← hr];refine ⟨_,(.tmp .nil),?_⟩;refine ⟨(.one rfl rfl .nil),[.val (.bool false)],[],by simp [Adj.cells,Cat.cells,Fn.cells,UA,U1,IA,I1,LA,L1,BA,B1,EA,E1,E2,eB,eI,eL],by simp,(UpL.refl _)⟩
   have g55:¬ (¬ (v54=true)):=gQ;clear g;replace h:=if_r g55 h;refine Qf ?_;refine bn ?_;refine tn ?_;refine runQ hN fun K hK=>?_;replace h:=Q8 h;obtain ⟨a56,h⟩:=h;simp [-Q0,-Q5,-Q1,-Q6,-Q2,Qs a56];(repeat refine sdQ ?_);refine hK _ ?_;clear hK K;cases h;exact rn (s':=s47+1) hk47 (wkQ9 [(0,0),(1,1),(2,2),(3,3)])
  have g48:¬ (s47<a_.l.t.n):=gQ;clear g;replace h:=if_r g48 h;refine Qp ?_;refine tx ?_;refine lx ?_;refine bh ?_;cases h;exact jn (b:=()) hk47 (wkQ9 [])
 intro b37 hb37;have h:=h37;try rw [← hb37] at h
 clear h37;try dsimp only at h
 refine Q4 ?_;refine runQ hN fun K hK=>?_;simp [-Q0,-Q5,-Q1,-Q6,-Q2];repeat refine sdQ ?_
 refine hK _ ?_;clear hK K;refine tn ?_;refine Q9 (st':=⟨[(2,.val (.bool true))],[],0⟩) (wkQ9 []) ?_;refine Qi ?_;have hr:=Option.some.inj h;rw [← hr];refine ⟨_,(.tmp .nil),?_⟩;refine ⟨(.one rfl rfl .nil),[.val (.bool true)],[],by simp [Adj.cells,Cat.cells,Fn.cells,UA,U1,IA,I1,LA,L1,BA,B1,EA,E1,E2,eB,eI,eL],by simp,(UpL.refl _)⟩
structure Adj.Pre (a:Adj):Prop where
 hl:a.l.Is
 hr:a.r.Is
 e1:a.l.t=a.r.s
 e2:a.r.t=a.l.s
 n1:NatT (Q1P a.l.s) (Q1c a.l a.r) a.u
 n2:NatT (Q1c a.r a.l) (Q1P a.l.t) a.k
structure Adj.Is (a:Adj):Prop where
 pre:a.Pre
 t1:∀ x:Nat,x<a.l.ob.length→ix (rx a.l.t.cs (ix a.l.ar (ix a.u x))) (ix a.k (ix a.l.ob x))=ix a.l.t.id (ix a.l.ob x)
 t2:∀ y:Nat,y<a.r.ob.length→ix (rx a.l.s.cs (ix a.u (ix a.r.ob y))) (ix a.r.ar (ix a.k y))=ix a.l.s.id (ix a.r.ob y)
theorem Adj.Pre.len {a:Adj} (h:a.Pre):a.u.length=a.l.ob.length∧a.k.length=a.r.ob.length∧(a.l.ob.length:Int)=a.l.s.n∧(a.r.ob.length:Int)=a.l.t.n∧a.l.ar.length=a.l.s.fr.length∧a.r.ar.length=a.l.t.fr.length∧(a.l.s.id.length:Int)=a.l.s.n∧(a.l.t.id.length:Int)=a.l.t.n∧a.l.s.cs.length=a.l.s.fr.length∧a.l.t.cs.length=a.l.t.fr.length∧a.l.s.fr.length≤40∧a.l.t.fr.length≤40∧a.l.ob.length≤8∧a.r.ob.length≤8:=by
 have h1:=h.n1.lp;have h2:=h.n2.lp;have h3:=h.hl.lo;have h4:=h.hr.lo;have h5:=h.hl.la;have h6:=h.hr.la;rw [← h.e1] at h4 h6;simp only [Q1P,Q1c,Q62,Q44] at h1 h2;exact ⟨by omega,by omega,h3,h4,h5,h6,h.hl.s.1.li,h.hl.t.1.li,h.hl.s.1.lc,h.hl.t.1.lc,h.hl.s.1.m40,h.hl.t.1.m40,h.hl.lob,h.hr.lob⟩
theorem Adj.Pre.unit {a:Adj} (h:a.Pre) {x:Int} (h0:0≤x) (h1:x<a.l.ob.length):(0≤ix a.u x∧ix a.u x<a.l.s.fr.length)∧ix a.l.s.fr (ix a.u x)=x∧ix a.l.s.to (ix a.u x)=ix a.r.ob (ix a.l.ob x):=by
 obtain ⟨l1,l2,l3,l4,l5,l6,l7,l8,l9,l10,l11,l12,l13,l14⟩:=h.len;obtain ⟨i,rfl⟩:∃ i:Nat,x=i:=⟨x.toNat,by omega⟩;have q1:=h.n1.bd i (by omega);have q2:=h.n1.ends i (by omega);simp only [Q1P,Q1c] at q1 q2;rw [Q2a _ (by omega) (by omega),Q1f _ _ (by omega) (by omega)] at q2;exact ⟨q1,q2⟩
theorem Adj.Pre.co {a:Adj} (h:a.Pre) {y:Int} (h0:0≤y) (h1:y<a.r.ob.length):(0≤ix a.k y∧ix a.k y<a.l.t.fr.length)∧ix a.l.t.fr (ix a.k y)=ix a.l.ob (ix a.r.ob y)∧ix a.l.t.to (ix a.k y)=y:=by
 obtain ⟨l1,l2,l3,l4,l5,l6,l7,l8,l9,l10,l11,l12,l13,l14⟩:=h.len;obtain ⟨i,rfl⟩:∃ i:Nat,y=i:=⟨y.toNat,by omega⟩;have q1:=h.n2.bd i (by omega);have q2:=h.n2.ends i (by omega);simp only [Q1P,Q1c] at q1 q2;rw [Q2a _ (by omega) (by omega),Q1f _ _ (by omega) (by omega)] at q2;exact ⟨q1,q2⟩
theorem Adj.Pre.lob {a:Adj} (h:a.Pre) {x:Int} (h0:0≤x) (h1:x<a.l.ob.length):0≤ix a.l.ob x∧ix a.l.ob x<a.r.ob.length:=by
 obtain ⟨l1,l2,l3,l4,_⟩:=h.len;have:=Q64 h.hl.ob h0 h1;omega
theorem Adj.Pre.rob {a:Adj} (h:a.Pre) {y:Int} (h0:0≤y) (h1:y<a.r.ob.length):0≤ix a.r.ob y∧ix a.r.ob y<a.l.ob.length:=by
 obtain ⟨l1,l2,l3,l4,_⟩:=h.len;have:=Q64 h.hr.ob h0 h1;rw [h.e2] at this;omega
theorem Adj.Pre.lar {a:Adj} (h:a.Pre) {f:Int} (h0:0≤f) (h1:f<a.l.s.fr.length):(0≤ix a.l.ar f∧ix a.l.ar f<a.l.t.fr.length)∧ix a.l.t.fr (ix a.l.ar f)=ix a.l.ob (ix a.l.s.fr f)∧ix a.l.t.to (ix a.l.ar f)=ix a.l.ob (ix a.l.s.to f):=by
 have hla:=h.hl.la;obtain ⟨i,rfl⟩:∃ i:Nat,f=i:=⟨f.toNat,by omega⟩;exact ⟨h.hl.ar i (by omega),h.hl.ends i (by omega)⟩
theorem Adj.Pre.rar {a:Adj} (h:a.Pre) {f:Int} (h0:0≤f) (h1:f<a.l.t.fr.length):(0≤ix a.r.ar f∧ix a.r.ar f<a.l.s.fr.length)∧ix a.l.s.fr (ix a.r.ar f)=ix a.r.ob (ix a.l.t.fr f)∧ix a.l.s.to (ix a.r.ar f)=ix a.r.ob (ix a.l.t.to f):=by
 have hra:=h.hr.la;have q1:=h.hr.ar;have q2:=h.hr.ends;rw [← h.e1] at hra q2;rw [h.e2] at q1 q2;obtain ⟨i,rfl⟩:∃ i:Nat,f=i:=⟨f.toNat,by omega⟩;exact ⟨q1 i (by omega),q2 i (by omega)⟩
theorem Adj.Pre.tri1 {a:Adj} (h:a.Pre) {x:Int} (h0:0≤x) (h1:x<a.l.ob.length):(0≤ix (rx a.l.t.cs (ix a.l.ar (ix a.u x))) (ix a.k (ix a.l.ob x))∧ix (rx a.l.t.cs (ix a.l.ar (ix a.u x))) (ix a.k (ix a.l.ob x))<a.l.t.fr.length)∧ix a.l.t.fr (ix (rx a.l.t.cs (ix a.l.ar (ix a.u x))) (ix a.k (ix a.l.ob x)))=ix a.l.ob x:=by
 obtain ⟨u1,u2,u3⟩:=h.unit h0 h1;have o1:=h.lob h0 h1;obtain ⟨k1,k2,k3⟩:=h.co o1.1 o1.2;obtain ⟨a1,a2,a3⟩:=h.lar u1.1 u1.2;have:=(h.hl.t.1.cell' a1.1 a1.2 k1.1 k1.2).2 (by rw [a3,u3,k2]);rw [a2,u2] at this;exact ⟨⟨this.1,this.2.1⟩,this.2.2.1⟩
theorem Adj.Pre.tri2 {a:Adj} (h:a.Pre) {y:Int} (h0:0≤y) (h1:y<a.r.ob.length):(0≤ix (rx a.l.s.cs (ix a.u (ix a.r.ob y))) (ix a.r.ar (ix a.k y))∧ix (rx a.l.s.cs (ix a.u (ix a.r.ob y))) (ix a.r.ar (ix a.k y))<a.l.s.fr.length)∧ix a.l.s.fr (ix (rx a.l.s.cs (ix a.u (ix a.r.ob y))) (ix a.r.ar (ix a.k y)))=ix a.r.ob y:=by
 have o1:=h.rob h0 h1;obtain ⟨u1,u2,u3⟩:=h.unit o1.1 o1.2;obtain ⟨k1,k2,k3⟩:=h.co h0 h1;obtain ⟨a1,a2,a3⟩:=h.rar k1.1 k1.2;have:=(h.hl.s.1.cell' u1.1 u1.2 a1.1 a1.2).2 (by rw [u3,a2,k2]);rw [u2] at this;exact ⟨⟨this.1,this.2.1⟩,this.2.2.1⟩
theorem Q5W {c:Cat} (hc:c.Is) {f:Int} (h0:0≤f) (h1:f<c.fr.length):Q1q c f=some (bo (f=ix c.id (ix c.fr f))):=by
 have:=hc.1.fr' h0 h1;unfold Q1q;rw [Qa ⟨h0,h1⟩,Qa this]
 by_cases h:ix c.id (ix c.fr f)=f
 ·rw [QJ h.symm];simp [h]
 rw [Qv (fun q=>h q.symm)];simp [h]
theorem Q6E {f g:Fn}:Q2y f g=some (bo (f.t=g.s∧g.t=f.s)):=by
 unfold Q2y Q1Y
 by_cases h1:f.t=g.s<;>by_cases h2:g.t=f.s<;>simp [bo,h1,h2]
theorem Q9u {f g:Fn} (hf:f.Is):Q2x f g=some (bo (f.t=g.s∧g.t=f.s)):=by
 unfold Q2x;rw [Q4T hf.s,Q4T hf.t];have e:(f.s=g.t)=(g.t=f.s):=propext ⟨Eq.symm,Eq.symm⟩
 by_cases h1:f.t=g.s<;>by_cases h2:g.t=f.s<;>simp [bo,e,h1,h2]
theorem para1 {l r:Fn} (hl:l.Is) (hr:r.Is) (e1:l.t=r.s) (e2:r.t=l.s):Para (Q1P l.s) (Q1c l r):=⟨Q8y hl.s,Q6j hl hr e1,rfl,by simp [Q1P,Q1c,e2]⟩
theorem para2 {l r:Fn} (hl:l.Is) (hr:r.Is) (e1:l.t=r.s) (e2:r.t=l.s):Para (Q1c r l) (Q1P l.t):=⟨Q6j hr hl e2,Q8y hl.t,by simp [Q1P,Q1c,e1],rfl⟩
theorem e_l15Is (a:Adj):Q3Z a=some (bo a.Is):=by
 unfold Q3Z
 by_cases h1:a.l.Is
 case neg=>rw [Qv (show ¬ a.Is from fun q=>h1 q.pre.hl)];simp [Q5X,bo,h1]
 by_cases h2:a.r.Is
 case neg=>rw [Qv (show ¬ a.Is from fun q=>h2 q.pre.hr)];simp [Q5X,bo,h1,h2]
 by_cases h3:a.l.t=a.r.s∧a.r.t=a.l.s
 case neg=>rw [Qv (show ¬ a.Is from fun q=>h3 ⟨q.pre.e1,q.pre.e2⟩)];simp [Q5X,Q6E,QJ h1,QJ h2,Qv h3]
 obtain ⟨e1,e2⟩:=h3;simp only [Q5X,Q6E,QJ h1,QJ h2,QJ (And.intro e1 e2),Option.bind_some,not_true_eq_false,if_false,Bool.not_true,Bool.false_eq_true,Q5Z h1.s,Q5Z h1.t,Q4S h1 h2 e1,Q4S h2 h1 e2,Q35 (para1 h1 h2 e1 e2),Q35 (para2 h1 h2 e1 e2)]
 by_cases n1:NatT (Q1P a.l.s) (Q1c a.l a.r) a.u
 case neg=>rw [Qv (show ¬ a.Is from fun q=>n1 q.pre.n1),Qv n1];simp
 by_cases n2:NatT (Q1c a.r a.l) (Q1P a.l.t) a.k
 case neg=>rw [Qv (show ¬ a.Is from fun q=>n2 q.pre.n2),Qv n2];simp [QJ n1]
 have hp:a.Pre:=⟨h1,h2,e1,e2,n1,n2⟩;obtain ⟨l1,l2,l3,l4,l5,l6,l7,l8,l9,l10,l11,l12,l13,l14⟩:=hp.len;simp only [QJ n1,QJ n2,Option.bind_some,not_true_eq_false,if_false,Bool.not_true,Bool.false_eq_true];refine Q15 a.l.ob.length (fun x:Nat=>ix (rx a.l.t.cs (ix a.l.ar (ix a.u x))) (ix a.k (ix a.l.ob x))=ix a.l.t.id (ix a.l.ob x)) (eb:=Sum.inr false) (eg:=Sum.inl ()) (by omega) (fun x hi hq=>?_) (fun x hi hq=>?_) (by simp;try omega) (fun hx=>?_) fun q1=>?_;iterate 2
  obtain ⟨u1,u2,u3⟩:=hp.unit (x:=x) (by omega) (by omega);have o1:=hp.lob (x:=x) (by omega) (by omega);obtain ⟨k1,k2,k3⟩:=hp.co o1.1 o1.2;obtain ⟨a1,a2,a3⟩:=hp.lar u1.1 u1.2;have t1:=hp.tri1 (x:=x) (by omega) (by omega);have r1:=h1.t.1.row' a1.1 a1.2;have hu:=Q5W h1.t t1.1.1 t1.1.2;rw [t1.2] at hu;try rw [hq] at hu
  simp (disch:=omega) [Qa,B64,Q3P,hu,hq,bo];try omega
 ·rw [Qv (show ¬ a.Is from fun q=>hx q.t1)]
 simp only;refine Q15 a.r.ob.length (fun y:Nat=>ix (rx a.l.s.cs (ix a.u (ix a.r.ob y))) (ix a.r.ar (ix a.k y))=ix a.l.s.id (ix a.r.ob y)) (eb:=Sum.inr false) (eg:=Sum.inl ()) (by omega) (fun x hi hq=>?_) (fun x hi hq=>?_) (by simp;try omega) (fun hx=>?_) fun q2=>?_;iterate 2
  have o1:=hp.rob (y:=x) (by omega) (by omega);obtain ⟨u1,u2,u3⟩:=hp.unit o1.1 o1.2;obtain ⟨k1,k2,k3⟩:=hp.co (y:=x) (by omega) (by omega);obtain ⟨a1,a2,a3⟩:=hp.rar k1.1 k1.2;have t1:=hp.tri2 (y:=x) (by omega) (by omega);have r1:=h1.s.1.row' u1.1 u1.2;have hu:=Q5W h1.s t1.1.1 t1.1.2;rw [t1.2] at hu;try rw [hq] at hu
  simp (disch:=omega) [Qa,B64,Q3P,hu,hq,bo];try omega
 ·rw [Qv (show ¬ a.Is from fun q=>hx q.t2)]
 rw [QJ (show a.Is from ⟨hp,q1,q2⟩)]
theorem Q9n {f g:Fn} {p:List Int} (h:Para f g):(⟨f,g,p⟩:Tra).Is↔NatT f g p:=⟨fun q=>q.n,fun q=>⟨h,q⟩⟩
theorem e_isAdj (a:Adj):QL a=some (bo a.Is):=by
 unfold QL;rw [Q4Q _ (by simp)]
 by_cases h:a.l.Is∧a.r.Is
 case neg=>rw [Qv (show ¬ ∀ c∈[a.l,a.r],c.Is by simpa using h),Qv (show ¬ a.Is from fun q=>h ⟨q.pre.hl,q.pre.hr⟩)];simp
 rw [QJ (show ∀ c∈[a.l,a.r],c.Is by simpa using h)];obtain ⟨h1,h2⟩:=h;rw [Q9u h1]
 by_cases h3:a.l.t=a.r.s∧a.r.t=a.l.s
 case neg=>rw [Qv h3,Qv (show ¬ a.Is from fun q=>h3 ⟨q.pre.e1,q.pre.e2⟩)];simp
 rw [QJ h3];obtain ⟨e1,e2⟩:=h3;have key:Q18 a=some (bo a.Is):=by
  unfold Q18;simp only [Q8e h1 h2 e1,Q8e h2 h1 e2,Q6D h1.s,Q6D h1.t,Option.bind_some];rw [Q7p _ (by simp)]
  by_cases hn:NatT (Q1P a.l.s) (Q1c a.l a.r) a.u∧NatT (Q1c a.r a.l) (Q1P a.l.t) a.k
  case neg =>
   rw [Qv (show ¬ a.Is from fun q=>hn ⟨q.pre.n1,q.pre.n2⟩),Qv (show ¬ ∀ t∈[(⟨Q1P a.l.s,Q1c a.l a.r,a.u⟩:Tra),⟨Q1c a.r a.l,Q1P a.l.t,a.k⟩],t.Is from fun q=>hn ⟨(Q9n (para1 h1 h2 e1 e2)).1 (q _ (by simp)),(Q9n (para2 h1 h2 e1 e2)).1 (q _ (by simp))⟩)];simp
  obtain ⟨n1,n2⟩:=hn;rw [QJ (show ∀ t∈[(⟨Q1P a.l.s,Q1c a.l a.r,a.u⟩:Tra),⟨Q1c a.r a.l,Q1P a.l.t,a.k⟩],t.Is by
   intro t ht;simp only [List.mem_cons,List.not_mem_nil,or_false] at ht;rcases ht with rfl|rfl
   ·exact (Q9n (para1 h1 h2 e1 e2)).2 n1
   exact (Q9n (para2 h1 h2 e1 e2)).2 n2)]
  have hp:a.Pre:=⟨h1,h2,e1,e2,n1,n2⟩;obtain ⟨l1,l2,l3,l4,l5,l6,l7,l8,l9,l10,l11,l12,l13,l14⟩:=hp.len;simp only [Option.bind_some,not_true_eq_false,if_false];refine Q15 a.l.ob.length (fun x:Nat=>ix (rx a.l.t.cs (ix a.l.ar (ix a.u x))) (ix a.k (ix a.l.ob x))=ix a.l.t.id (ix a.l.ob x)) (eb:=Sum.inr false) (eg:=Sum.inl ()) (by omega) (fun x hi hq=>?_) (fun x hi hq=>?_) (by simp;try omega) (fun hx=>?_) fun q1=>?_;iterate 2
   obtain ⟨u1,u2,u3⟩:=hp.unit (x:=x) (by omega) (by omega);have o1:=hp.lob (x:=x) (by omega) (by omega);obtain ⟨k1,k2,k3⟩:=hp.co o1.1 o1.2;obtain ⟨a1,a2,a3⟩:=hp.lar u1.1 u1.2;have r1:=h1.t.1.row' a1.1 a1.2;simp (disch:=omega) [Qa,B64,Q5g,hq,hi];try omega
  ·rw [Qv (show ¬ a.Is from fun q=>hx q.t1)]
  simp only;refine Q15 a.r.ob.length (fun y:Nat=>ix (rx a.l.s.cs (ix a.u (ix a.r.ob y))) (ix a.r.ar (ix a.k y))=ix a.l.s.id (ix a.r.ob y)) (eb:=Sum.inr false) (eg:=Sum.inl ()) (by omega) (fun x hi hq=>?_) (fun x hi hq=>?_) (by simp;try omega) (fun hx=>?_) fun q2=>?_;iterate 2
   have o1:=hp.rob (y:=x) (by omega) (by omega);obtain ⟨u1,u2,u3⟩:=hp.unit o1.1 o1.2;obtain ⟨k1,k2,k3⟩:=hp.co (y:=x) (by omega) (by omega);obtain ⟨a1,a2,a3⟩:=hp.rar k1.1 k1.2;have r1:=h1.s.1.row' u1.1 u1.2;simp (disch:=omega) [Qa,B64,Q5g,hq,hi];try omega
  ·rw [Qv (show ¬ a.Is from fun q=>hx q.t2)]
  rw [QJ (show a.Is from ⟨hp,q1,q2⟩)]
 simp [key]
attribute [local simp] eL eI Qm Q1x Q1H Fn.cells Mnd.cells
noncomputable def Q52 (on_:Fn) (unit_:List Int) (join_:List Int):Option Mnd :=
 (Q1z on_).bind fun v1 =>
 (Q2w unit_).bind fun v2 =>
 (Q2w join_).bind fun v3 =>
 some (⟨v1,v2,v3⟩:Mnd)
theorem w_i_monad (on_:Fn) (unit_:List Int) (join_:List Int) (r:Mnd) (h:Q52 on_ unit_ join_=some r):Contract Tryz.prog 130 [.rptr (on_.cells true),lI unit_,lI join_] (.agg (r.cells true)):=by
 refine Qd (rvs:=[.cell 6 39]) (rs:=[.agg (r.cells true)]) Tryz.func130 rfl rfl rfl rfl (by simp [Tryz.f130]) fun F hN hP=>?_;unfold Q52 at h;refine Q4 ?_;refine runQ hN fun K hK=>?_;simp [-Q0,-Q5,-Q1,-Q6,-Q2];repeat refine sdQ ?_
 refine hK _ ?_;clear hK K;refine tn ?_;refine Q9 (st':=⟨[(0,.rptr (Fn.cells true on_)),(1,lI unit_),(2,lI join_),(6,.adr 0 0 0)],[(0,.mix 14 [[iV 0,.val (.slice none 0 0),.val (.slice none 0 0),.val (.slice none 0 0),.val (.slice none 0 0),iV 0,.val (.slice none 0 0),.val (.slice none 0 0),.val (.slice none 0 0),.val (.slice none 0 0),.val (.slice none 0 0),.val (.slice none 0 0),.val (.slice none 0 0),.val (.slice none 0 0)]])],1⟩) (wkQ9 [(0,0)]) ?_;refine Q4 ?_;refine runQ hN fun K hK=>?_;simp [-Q0,-Q5,-Q1,-Q6,-Q2];repeat with_reducible refine sdQ ?_
 replace h:=bind_some h;obtain ⟨v1,hv1,h⟩:=h;refine Q3 (Q5J _ v1 hv1) (.cons (.preT (by simp [Fn.cells])) .nil) ?_;simp [-Q0,-Q5,-Q1,-Q6,-Q2,unk,unA,unE,unT,unC,flat];repeat with_reducible refine sdQ ?_
 replace h:=bind_some h;obtain ⟨v2,hv2,h⟩:=h;refine Q3 (Q5a _ v2 hv2) (.cons .lst .nil) ?_;simp [-Q0,-Q5,-Q1,-Q6,-Q2,unk,unA,unE,unT,unC,flat];repeat with_reducible refine sdQ ?_
 replace h:=bind_some h;obtain ⟨v3,hv3,h⟩:=h;refine Q3 (Q5a _ v3 hv3) (.cons .lst .nil) ?_;simp [-Q0,-Q5,-Q1,-Q6,-Q2,unk,unA,unE,unT,unC,flat];repeat refine sdQ ?_
 refine hK _ ?_;clear hK K;refine tn ?_;refine Q9 (st':=⟨[(6,.adr 0 0 0)],[(0,.mix 14 [[iV v1.s.n,.own 1 0 v1.s.fr.length,.own 2 0 v1.s.to.length,.own 3 0 v1.s.id.length,.own 4 0 v1.s.cs.length,iV v1.t.n,.own 5 0 v1.t.fr.length,.own 6 0 v1.t.to.length,.own 7 0 v1.t.id.length,.own 8 0 v1.t.cs.length,.own 9 0 v1.ob.length,.own 10 0 v1.ar.length,.own 11 0 v2.length,.own 12 0 v3.length]]),(1,rI v1.s.fr),(2,rI v1.s.to),(3,rI v1.s.id),(4,.row 1 (Ls v1.s.cs)),(5,rI v1.t.fr),(6,rI v1.t.to),(7,rI v1.t.id),(8,.row 1 (Ls v1.t.cs)),(9,rI v1.ob),(10,rI v1.ar),(11,rI v2),(12,rI v3)],13⟩) (wkQ9 [(0,0),(2,1),(3,2),(4,3),(5,4),(7,5),(8,6),(9,7),(10,8),(11,9),(12,10),(13,11),(14,12)]) ?_;refine Qi ?_;have hr:=Option.some.inj h;rw [← hr];refine ⟨_,(.cell tf_39 rfl rfl rfl (by simp) (by simp) .nil),?_⟩;refine ⟨(.agg rfl .nil),[iV v1.s.n,lI v1.s.fr,lI v1.s.to,lI v1.s.id,.lst true 1 (Ls v1.s.cs),iV v1.t.n,lI v1.t.fr,lI v1.t.to,lI v1.t.id,.lst true 1 (Ls v1.t.cs),lI v1.ob,lI v1.ar,lI v2,lI v3],[1,2,3,4,5,6,7,8,9,10,11,12],by simp [Fn.cells,Mnd.cells,UA,U1,IA,I1,LA,L1,BA,B1,EA,E1,E2,eB,eI,eL],by simp,(UpL.refl _)⟩
attribute [local simp] eL eI Qm Q34 Q1x Q1H Adj.cells Fn.cells Mnd.cells
noncomputable def Q2V (a_:Adj):Option Mnd :=
 (Q13 a_.l a_.r).bind fun v1 =>
 (QH (σ:=List Int × Int) (ε:=List Int) (fun s9 =>
  if s9.2<(a_.l.ob.length:Int) then
   ass (0≤s9.2∧s9.2<(a_.l.ob.length:Int)) <|
   ass (0≤ix a_.l.ob s9.2∧ix a_.l.ob s9.2<(a_.k.length:Int)) <|
   ass (0≤ix a_.k (ix a_.l.ob s9.2)∧ix a_.k (ix a_.l.ob s9.2)<(a_.r.ar.length:Int)) <|
   ass ((s9.1++[ix a_.r.ar (ix a_.k (ix a_.l.ob s9.2))]).length≤1073741824) <|
   ass (B64 (s9.2+1)) <|
   some (Ctl.next (s9.1++[ix a_.r.ar (ix a_.k (ix a_.l.ob s9.2))],s9.2+1))
  else
   some (Ctl.ret s9.1)) fuel ([],0)).bind fun b2 =>
 (Q52 v1 a_.u b2).bind fun v16 =>
 some v16
theorem Q8H (a_:Adj) (r:Mnd) (h:Q2V a_=some r):Contract Tryz.prog 94 [.rptr (a_.cells true)] (.agg (r.cells true)):=by
 refine Qd (rvs:=[.cell 2 39]) (rs:=[.agg (r.cells true)]) Tryz.func94 rfl rfl rfl rfl (by simp [Tryz.f94]) fun F hN hP=>?_;unfold Q2V at h;refine Q4 ?_;refine runQ hN fun K hK=>?_;simp [-Q0,-Q5,-Q1,-Q6,-Q2];repeat refine sdQ ?_
 refine hK _ ?_;clear hK K;refine tn ?_;refine Q9 (st':=⟨[(0,.rptr (Adj.cells true a_)),(2,.adr 0 0 0)],[(0,.mix 14 [[iV 0,.val (.slice none 0 0),.val (.slice none 0 0),.val (.slice none 0 0),.val (.slice none 0 0),iV 0,.val (.slice none 0 0),.val (.slice none 0 0),.val (.slice none 0 0),.val (.slice none 0 0),.val (.slice none 0 0),.val (.slice none 0 0),.val (.slice none 0 0),.val (.slice none 0 0)]])],1⟩) (wkQ9 [(0,0)]) ?_;refine Q4 ?_;refine runQ hN fun K hK=>?_;simp [-Q0,-Q5,-Q1,-Q6,-Q2];repeat with_reducible refine sdQ ?_
 replace h:=bind_some h;obtain ⟨v1,hv1,h⟩:=h;refine Q3 (Q2C _ _ v1 hv1) (.cons (.preT (by simp [Adj.cells,Fn.cells])) (.cons (.preT (by simp [Adj.cells,Fn.cells])) .nil)) ?_;simp [-Q0,-Q5,-Q1,-Q6,-Q2,unk,unA,unE,unT,unC,flat];repeat refine sdQ ?_
 refine hK _ ?_;clear hK K;refine tn ?_;refine Q9 (st':=⟨[(0,.rptr (Adj.cells true a_)),(2,.adr 0 0 0),(3,.adr 1 0 0)],[(0,.mix 14 [[iV 0,.val (.slice none 0 0),.val (.slice none 0 0),.val (.slice none 0 0),.val (.slice none 0 0),iV 0,.val (.slice none 0 0),.val (.slice none 0 0),.val (.slice none 0 0),.val (.slice none 0 0),.val (.slice none 0 0),.val (.slice none 0 0),.val (.slice none 0 0),.val (.slice none 0 0)]]),(1,.mix 12 [[iV v1.s.n,.own 2 0 v1.s.fr.length,.own 3 0 v1.s.to.length,.own 4 0 v1.s.id.length,.own 5 0 v1.s.cs.length,iV v1.t.n,.own 6 0 v1.t.fr.length,.own 7 0 v1.t.to.length,.own 8 0 v1.t.id.length,.own 9 0 v1.t.cs.length,.own 10 0 v1.ob.length,.own 11 0 v1.ar.length]]),(2,rI v1.s.fr),(3,rI v1.s.to),(4,rI v1.s.id),(5,.row 1 (Ls v1.s.cs)),(6,rI v1.t.fr),(7,rI v1.t.to),(8,rI v1.t.id),(9,.row 1 (Ls v1.t.cs)),(10,rI v1.ob),(11,rI v1.ar)],12⟩) (wkQ9 [(0,0),(13,1),(2,2),(3,3),(4,4),(5,5),(7,6),(8,7),(9,8),(10,9),(11,10),(12,11)]) ?_;refine Q4 ?_;refine runQ hN fun K hK=>?_;simp [-Q0,-Q5,-Q1,-Q6,-Q2];repeat refine sdQ ?_
 refine hK _ ?_;clear hK K;refine tn ?_;refine Q9 (st':=⟨[(0,.rptr (Adj.cells true a_)),(2,.adr 0 0 0),(3,.adr 1 0 0),(4,.own 12 0 0)],[(0,.mix 14 [[iV 0,.val (.slice none 0 0),.val (.slice none 0 0),.val (.slice none 0 0),.val (.slice none 0 0),iV 0,.val (.slice none 0 0),.val (.slice none 0 0),.val (.slice none 0 0),.val (.slice none 0 0),.val (.slice none 0 0),.val (.slice none 0 0),.val (.slice none 0 0),.val (.slice none 0 0)]]),(1,.mix 12 [[iV v1.s.n,.own 2 0 v1.s.fr.length,.own 3 0 v1.s.to.length,.own 4 0 v1.s.id.length,.own 5 0 v1.s.cs.length,iV v1.t.n,.own 6 0 v1.t.fr.length,.own 7 0 v1.t.to.length,.own 8 0 v1.t.id.length,.own 9 0 v1.t.cs.length,.own 10 0 v1.ob.length,.own 11 0 v1.ar.length]]),(2,rI v1.s.fr),(3,rI v1.s.to),(4,rI v1.s.id),(5,.row 1 (Ls v1.s.cs)),(6,rI v1.t.fr),(7,rI v1.t.to),(8,rI v1.t.id),(9,.row 1 (Ls v1.t.cs)),(10,rI v1.ob),(11,rI v1.ar),(12,.mix 1 [])],13⟩) (wkQ9 [(0,0),(1,1),(2,2),(3,3),(4,4),(5,5),(6,6),(7,7),(8,8),(9,9),(10,10),(11,11),(12,12)]) ?_;refine Q4 ?_;refine Q4 ?_;refine runQ hN fun K hK=>?_;simp [-Q0,-Q5,-Q1,-Q6,-Q2];repeat refine sdQ ?_
 refine hK _ ?_;clear hK K;refine tn ?_;refine Q9 (st':=⟨[(0,.rptr (Adj.cells true a_)),(2,.adr 0 0 0),(3,.adr 1 0 0),(4,.own 12 0 0),(19,lI a_.l.ob),(20,iV (a_.l.ob.length:Int)),(21,iV 0)],[(0,.mix 14 [[iV 0,.val (.slice none 0 0),.val (.slice none 0 0),.val (.slice none 0 0),.val (.slice none 0 0),iV 0,.val (.slice none 0 0),.val (.slice none 0 0),.val (.slice none 0 0),.val (.slice none 0 0),.val (.slice none 0 0),.val (.slice none 0 0),.val (.slice none 0 0),.val (.slice none 0 0)]]),(1,.mix 12 [[iV v1.s.n,.own 2 0 v1.s.fr.length,.own 3 0 v1.s.to.length,.own 4 0 v1.s.id.length,.own 5 0 v1.s.cs.length,iV v1.t.n,.own 6 0 v1.t.fr.length,.own 7 0 v1.t.to.length,.own 8 0 v1.t.id.length,.own 9 0 v1.t.cs.length,.own 10 0 v1.ob.length,.own 11 0 v1.ar.length]]),(2,rI v1.s.fr),(3,rI v1.s.to),(4,rI v1.s.id),(5,.row 1 (Ls v1.s.cs)),(6,rI v1.t.fr),(7,rI v1.t.to),(8,rI v1.t.id),(9,.row 1 (Ls v1.t.cs)),(10,rI v1.ob),(11,rI v1.ar),(12,.mix 1 [])],13⟩) (wkQ9 [(0,0),(1,1),(2,2),(3,3),(4,4),(5,5),(6,6),(7,7),(8,8),(9,9),(10,10),(11,11),(12,12)]) ?_;replace h:=bind_some h;obtain ⟨e2,h,h2⟩:=h;refine Qk (fun b2:List Int=>⟨[(0,.rptr (Adj.cells true a_)),(2,.adr 0 0 0),(3,.adr 1 0 0),(4,.own 12 0 b2.length)],[(0,.mix 14 [[iV 0,.val (.slice none 0 0),.val (.slice none 0 0),.val (.slice none 0 0),.val (.slice none 0 0),iV 0,.val (.slice none 0 0),.val (.slice none 0 0),.val (.slice none 0 0),.val (.slice none 0 0),.val (.slice none 0 0),.val (.slice none 0 0),.val (.slice none 0 0),.val (.slice none 0 0)]]),(1,.mix 12 [[iV v1.s.n,.own 2 0 v1.s.fr.length,.own 3 0 v1.s.to.length,.own 4 0 v1.s.id.length,.own 5 0 v1.s.cs.length,iV v1.t.n,.own 6 0 v1.t.fr.length,.own 7 0 v1.t.to.length,.own 8 0 v1.t.id.length,.own 9 0 v1.t.cs.length,.own 10 0 v1.ob.length,.own 11 0 v1.ar.length]]),(2,rI v1.s.fr),(3,rI v1.s.to),(4,rI v1.s.id),(5,.row 1 (Ls v1.s.cs)),(6,rI v1.t.fr),(7,rI v1.t.to),(8,rI v1.t.id),(9,.row 1 (Ls v1.t.cs)),(10,rI v1.ob),(11,rI v1.ar),(12,rI b2)],13⟩) (fun b2=>b2=e2) ?_ ?_
 ·refine Qc ?_;refine Qw h (fun s9:List Int × Int=>⟨[(0,.rptr (Adj.cells true a_)),(2,.adr 0 0 0),(3,.adr 1 0 0),(4,.own 12 0 s9.1.length),(19,lI a_.l.ob),(20,iV (a_.l.ob.length:Int)),(21,iV s9.2)],[(0,.mix 14 [[iV 0,.val (.slice none 0 0),.val (.slice none 0 0),.val (.slice none 0 0),.val (.slice none 0 0),iV 0,.val (.slice none 0 0),.val (.slice none 0 0),.val (.slice none 0 0),.val (.slice none 0 0),.val (.slice none 0 0),.val (.slice none 0 0),.val (.slice none 0 0),.val (.slice none 0 0)]]),(1,.mix 12 [[iV v1.s.n,.own 2 0 v1.s.fr.length,.own 3 0 v1.s.to.length,.own 4 0 v1.s.id.length,.own 5 0 v1.s.cs.length,iV v1.t.n,.own 6 0 v1.t.fr.length,.own 7 0 v1.t.to.length,.own 8 0 v1.t.id.length,.own 9 0 v1.t.cs.length,.own 10 0 v1.ob.length,.own 11 0 v1.ar.length]]),(2,rI v1.s.fr),(3,rI v1.s.to),(4,rI v1.s.id),(5,.row 1 (Ls v1.s.cs)),(6,rI v1.t.fr),(7,rI v1.t.to),(8,rI v1.t.id),(9,.row 1 (Ls v1.t.cs)),(10,rI v1.ob),(11,rI v1.ar),(12,rI s9.1)],13⟩) (Q33 ⟨[(0,.rptr (Adj.cells true a_)),(2,.adr 0 0 0),(3,.adr 1 0 0),(4,.own 12 0 0),(19,lI a_.l.ob),(20,iV (a_.l.ob.length:Int)),(21,iV 0)],[(0,.mix 14 [[iV 0,.val (.slice none 0 0),.val (.slice none 0 0),.val (.slice none 0 0),.val (.slice none 0 0),iV 0,.val (.slice none 0 0),.val (.slice none 0 0),.val (.slice none 0 0),.val (.slice none 0 0),.val (.slice none 0 0),.val (.slice none 0 0),.val (.slice none 0 0),.val (.slice none 0 0)]]),(1,.mix 12 [[iV v1.s.n,.own 2 0 v1.s.fr.length,.own 3 0 v1.s.to.length,.own 4 0 v1.s.id.length,.own 5 0 v1.s.cs.length,iV v1.t.n,.own 6 0 v1.t.fr.length,.own 7 0 v1.t.to.length,.own 8 0 v1.t.id.length,.own 9 0 v1.t.cs.length,.own 10 0 v1.ob.length,.own 11 0 v1.ar.length]]),(2,rI v1.s.fr),(3,rI v1.s.to),(4,rI v1.s.id),(5,.row 1 (Ls v1.s.cs)),(6,rI v1.t.fr),(7,rI v1.t.to),(8,rI v1.t.id),(9,.row 1 (Ls v1.t.cs)),(10,rI v1.ob),(11,rI v1.ar),(12,rI [])],13⟩ (Wk.nils [] (by simp) (by simp) (by simp [nlA]) (by simp [entN,nlL,nlA,Adj.cells,Fn.cells,Mnd.cells,UA,U1,IA,I1,LA,L1,BA,B1,EA,E1,E2,eB,eI,eL]) (by simp)) (wkQ9 [(0,0),(1,1),(2,2),(3,3),(4,4),(5,5),(6,6),(7,7),(8,8),(9,9),(10,10),(11,11),(12,12)])) ?_;clear h;intro k9 s9 c9 h hk9;refine Q4 ?_;refine runQ hN fun K hK=>?_;simp [-Q0,-Q5,-Q1,-Q6,-Q2];repeat refine sdQ ?_
  refine hK _ ?_;clear hK K;refine tn ?_;refine Q9 (st':=⟨[(0,.rptr (Adj.cells true a_)),(2,.adr 0 0 0),(3,.adr 1 0 0),(4,.own 12 0 s9.1.length),(19,lI a_.l.ob),(20,iV (a_.l.ob.length:Int)),(21,iV s9.2),(22,.val (.bool (decide (s9.2<(a_.l.ob.length:Int)))))],[(0,.mix 14 [[iV 0,.val (.slice none 0 0),.val (.slice none 0 0),.val (.slice none 0 0),.val (.slice none 0 0),iV 0,.val (.slice none 0 0),.val (.slice none 0 0),.val (.slice none 0 0),.val (.slice none 0 0),.val (.slice none 0 0),.val (.slice none 0 0),.val (.slice none 0 0),.val (.slice none 0 0)]]),(1,.mix 12 [[iV v1.s.n,.own 2 0 v1.s.fr.length,.own 3 0 v1.s.to.length,.own 4 0 v1.s.id.length,.own 5 0 v1.s.cs.length,iV v1.t.n,.own 6 0 v1.t.fr.length,.own 7 0 v1.t.to.length,.own 8 0 v1.t.id.length,.own 9 0 v1.t.cs.length,.own 10 0 v1.ob.length,.own 11 0 v1.ar.length]]),(2,rI v1.s.fr),(3,rI v1.s.to),(4,rI v1.s.id),(5,.row 1 (Ls v1.s.cs)),(6,rI v1.t.fr),(7,rI v1.t.to),(8,rI v1.t.id),(9,.row 1 (Ls v1.t.cs)),(10,rI v1.ob),(11,rI v1.ar),(12,rI s9.1)],13⟩) (wkQ9 [(0,0),(1,1),(2,2),(3,3),(4,4),(5,5),(6,6),(7,7),(8,8),(9,9),(10,10),(11,11),(12,12)]) ?_;refine Q4 ?_;refine Qe rfl (fun g=>?_) fun g=>?_
  ·have g10:s9.2<(a_.l.ob.length:Int):=gQ;clear g;replace h:=if_l g10 h;refine Qf ?_;refine tn ?_;refine Q4 ?_;refine Qc ?_;refine Q4 ?_;refine runQ hN fun K hK=>?_;replace h:=Q8 h;obtain ⟨a11,h⟩:=h;simp [-Q0,-Q5,-Q1,-Q6,-Q2,at_I a11];(repeat refine sdQ ?_);refine hK _ ?_;clear hK K;refine tn ?_;refine Q9 (st':=⟨[(0,.rptr (Adj.cells true a_)),(2,.adr 0 0 0),(3,.adr 1 0 0),(4,.own 12 0 s9.1.length),(6,iV (ix a_.l.ob s9.2)),(19,lI a_.l.ob),(20,iV (a_.l.ob.length:Int)),(21,iV s9.2)],[(0,.mix 14 [[iV 0,.val (.slice none 0 0),.val (.slice none 0 0),.val (.slice none 0 0),.val (.slice none 0 0),iV 0,.val (.slice none 0 0),.val (.slice none 0 0),.val (.slice none 0 0),.val (.slice none 0 0),.val (.slice none 0 0),.val (.slice none 0 0),.val (.slice none 0 0),.val (.slice none 0 0)]]),(1,.mix 12 [[iV v1.s.n,.own 2 0 v1.s.fr.length,.own 3 0 v1.s.to.length,.own 4 0 v1.s.id.length,.own 5 0 v1.s.cs.length,iV v1.t.n,.own 6 0 v1.t.fr.length,.own 7 0 v1.t.to.length,.own 8 0 v1.t.id.length,.own 9 0 v1.t.cs.length,.own 10 0 v1.ob.length,.own 11 0 v1.ar.length]]),(2,rI v1.s.fr),(3,rI v1.s.to),(4,rI v1.s.id),(5,.row 1 (Ls v1.s.cs)),(6,rI v1.t.fr),(7,rI v1.t.to),(8,rI v1.t.id),(9,.row 1 (Ls v1.t.cs)),(10,rI v1.ob),(11,rI v1.ar),(12,rI s9.1)],13⟩) (wkQ9 [(0,0),(1,1),(2,2),(3,3),(4,4),(5,5),(6,6),(7,7),(8,8),(9,9),(10,10),(11,11),(12,12)]) ?_;refine runQ hN fun K hK=>?_;replace h:=Q8 h;obtain ⟨a12,h⟩:=h;replace h:=Q8 h;obtain ⟨a13,h⟩:=h;replace h:=Q8 h;obtain ⟨a14,h⟩:=h;(try simp only [List.length_append,List.length_cons,List.length_nil] at a14);simp [-Q0,-Q5,-Q1,-Q6,-Q2,at_I a12,at_I a13,a14];(repeat refine sdQ ?_);refine hK _ ?_;clear hK K;refine bn ?_;refine tn ?_;refine Q9 (st':=⟨[(0,.rptr (Adj.cells true a_)),(2,.adr 0 0 0),(3,.adr 1 0 0),(4,.own 12 0 ((s9.1++[ix a_.r.ar (ix a_.k (ix a_.l.ob s9.2))]).length)),(19,lI a_.l.ob),(20,iV (a_.l.ob.length:Int)),(21,iV s9.2)],[(0,.mix 14 [[iV 0,.val (.slice none 0 0),.val (.slice none 0 0),.val (.slice none 0 0),.val (.slice none 0 0),iV 0,.val (.slice none 0 0),.val (.slice none 0 0),.val (.slice none 0 0),.val (.slice none 0 0),.val (.slice none 0 0),.val (.slice none 0 0),.val (.slice none 0 0),.val (.slice none 0 0)]]),(1,.mix 12 [[iV v1.s.n,.own 2 0 v1.s.fr.length,.own 3 0 v1.s.to.length,.own 4 0 v1.s.id.length,.own 5 0 v1.s.cs.length,iV v1.t.n,.own 6 0 v1.t.fr.length,.own 7 0 v1.t.to.length,.own 8 0 v1.t.id.length,.own 9 0 v1.t.cs.length,.own 10 0 v1.ob.length,.own 11 0 v1.ar.length]]),(2,rI v1.s.fr),(3,rI v1.s.to),(4,rI v1.s.id),(5,.row 1 (Ls v1.s.cs)),(6,rI v1.t.fr),(7,rI v1.t.to),(8,rI v1.t.id),(9,.row 1 (Ls v1.t.cs)),(10,rI v1.ob),(11,rI v1.ar),(12,rI (s9.1++[ix a_.r.ar (ix a_.k (ix a_.l.ob s9.2))]))],13⟩) (wkQ9 [(0,0),(1,1),(2,2),(3,3),(4,4),(5,5),(6,6),(7,7),(8,8),(9,9),(10,10),(11,11),(14,12)]) ?_;refine runQ hN fun K hK=>?_;replace h:=Q8 h;obtain ⟨a15,h⟩:=h;simp [-Q0,-Q5,-Q1,-Q6,-Q2,Qs a15]
   (repeat refine sdQ ?_);refine hK _ ?_;clear hK K;cases h;exact rn (s':=(s9.1++[ix a_.r.ar (ix a_.k (ix a_.l.ob s9.2))],s9.2+1)) hk9 (wkQ9 [(0,0),(1,1),(2,2),(3,3),(4,4),(5,5),(6,6),(7,7),(8,8),(9,9),(10,10),(11,11),(12,12)])
  have g10:¬ (s9.2<(a_.l.ob.length:Int)):=gQ;clear g;replace h:=if_r g10 h;refine Qp ?_;refine tx ?_;refine lx ?_;refine bh ?_;cases h;exact jn (b:=s9.1) hk9 (wkQ9 [(0,0),(1,1),(2,2),(3,3),(4,4),(5,5),(6,6),(7,7),(8,8),(9,9),(10,10),(11,11),(12,12)])
 intro b2 hb2;have h:=h2;try rw [← hb2] at h
 clear h2;try dsimp only at h
 refine Q4 ?_;refine runQ hN fun K hK=>?_;simp [-Q0,-Q5,-Q1,-Q6,-Q2];repeat with_reducible refine sdQ ?_
 replace h:=bind_some h;obtain ⟨v16,hv16,h⟩:=h;refine Q3 (w_i_monad _ _ _ v16 hv16) (.cons (.field rfl (by simp [Adj.cells,Fn.cells]) (.cons .val (.cons (.whole (by simp) (by simp) (by simp)) (.cons (.whole (by simp) (by simp) (by simp)) (.cons (.whole (by simp) (by simp) (by simp)) (.cons (.whole (by simp) (by simp) (by simp)) (.cons .val (.cons (.whole (by simp) (by simp) (by simp)) (.cons (.whole (by simp) (by simp) (by simp)) (.cons (.whole (by simp) (by simp) (by simp)) (.cons (.whole (by simp) (by simp) (by simp)) (.cons (.whole (by simp) (by simp) (by simp)) (.cons (.whole (by simp) (by simp) (by simp)) .nil))))))))))))) (.cons .lst (.cons (.whole (by simp) (by simp) (by simp)) .nil))) ?_;simp [-Q0,-Q5,-Q1,-Q6,-Q2,unk,unA,unE,unT,unC,flat];repeat refine sdQ ?_
 refine hK _ ?_;clear hK K;refine tn ?_;refine Q9 (st':=⟨[(2,.adr 0 0 0)],[(0,.mix 14 [[iV v16.f.s.n,.own 1 0 v16.f.s.fr.length,.own 2 0 v16.f.s.to.length,.own 3 0 v16.f.s.id.length,.own 4 0 v16.f.s.cs.length,iV v16.f.t.n,.own 5 0 v16.f.t.fr.length,.own 6 0 v16.f.t.to.length,.own 7 0 v16.f.t.id.length,.own 8 0 v16.f.t.cs.length,.own 9 0 v16.f.ob.length,.own 10 0 v16.f.ar.length,.own 11 0 v16.u.length,.own 12 0 v16.j.length]]),(1,rI v16.f.s.fr),(2,rI v16.f.s.to),(3,rI v16.f.s.id),(4,.row 1 (Ls v16.f.s.cs)),(5,rI v16.f.t.fr),(6,rI v16.f.t.to),(7,rI v16.f.t.id),(8,.row 1 (Ls v16.f.t.cs)),(9,rI v16.f.ob),(10,rI v16.f.ar),(11,rI v16.u),(12,rI v16.j)],13⟩) (wkQ9 [(0,0),(14,1),(15,2),(16,3),(17,4),(19,5),(20,6),(21,7),(22,8),(23,9),(24,10),(25,11),(26,12)]) ?_;refine Qi ?_;have hr:=Option.some.inj h;rw [← hr];refine ⟨_,(.cell tf_39 rfl rfl rfl (by simp) (by simp) .nil),?_⟩;refine ⟨(.agg rfl .nil),[iV v16.f.s.n,lI v16.f.s.fr,lI v16.f.s.to,lI v16.f.s.id,.lst true 1 (Ls v16.f.s.cs),iV v16.f.t.n,lI v16.f.t.fr,lI v16.f.t.to,lI v16.f.t.id,.lst true 1 (Ls v16.f.t.cs),lI v16.f.ob,lI v16.f.ar,lI v16.u,lI v16.j],[1,2,3,4,5,6,7,8,9,10,11,12],by simp [Adj.cells,Fn.cells,Mnd.cells,UA,U1,IA,I1,LA,L1,BA,B1,EA,E1,E2,eB,eI,eL],by simp,(UpL.refl _)⟩
attribute [local simp] eL eI Qm Q34 Q1x Q1H Adj.cells Fn.cells Mnd.cells
noncomputable def Q41 (a_:Adj):Option Mnd :=
 (QH (σ:=List Int × Int) (ε:=List Int) (fun s8 =>
  if s8.2<(a_.u.length:Int) then
   ass (0≤s8.2∧s8.2<(a_.l.ob.length:Int)) <|
   ass (0≤ix a_.l.ob s8.2∧ix a_.l.ob s8.2<(a_.k.length:Int)) <|
   ass (0≤ix a_.k (ix a_.l.ob s8.2)∧ix a_.k (ix a_.l.ob s8.2)<(a_.r.ar.length:Int)) <|
   ass ((s8.1++[ix a_.r.ar (ix a_.k (ix a_.l.ob s8.2))]).length≤1073741824) <|
   ass (B64 (s8.2+1)) <|
   some (Ctl.next (s8.1++[ix a_.r.ar (ix a_.k (ix a_.l.ob s8.2))],s8.2+1))
  else
   some (Ctl.ret s8.1)) fuel ([],0)).bind fun b1 =>
 (Q1N a_.l a_.r).bind fun v15 =>
 (Q2k a_.u).bind fun v16 =>
 some (⟨v15,v16,b1⟩:Mnd)
theorem w_s_l16Of (a_:Adj) (r:Mnd) (h:Q41 a_=some r):Contract Tryz.prog 92 [.agg (a_.cells true)] (.agg (r.cells true)):=by
 refine Qd (rvs:=[.cell 2 39]) (rs:=[.agg (r.cells true)]) Tryz.func92 rfl rfl rfl rfl (by simp [Tryz.f92]) fun F hN hP=>?_;unfold Q41 at h;refine Q4 ?_;refine runQ hN fun K hK=>?_;simp [-Q0,-Q5,-Q1,-Q6,-Q2];repeat refine sdQ ?_
 refine hK _ ?_;clear hK K;refine tn ?_;refine Q9 (st':=⟨[(1,.adr 0 0 0),(2,.adr 1 0 0)],[(0,.mix 26 [(Adj.cells true a_)]),(1,.mix 14 [[iV 0,.val (.slice none 0 0),.val (.slice none 0 0),.val (.slice none 0 0),.val (.slice none 0 0),iV 0,.val (.slice none 0 0),.val (.slice none 0 0),.val (.slice none 0 0),.val (.slice none 0 0),.val (.slice none 0 0),.val (.slice none 0 0),.val (.slice none 0 0),.val (.slice none 0 0)]])],2⟩) (wkQ9 [(0,0),(1,1)]) ?_;refine Q4 ?_;refine runQ hN fun K hK=>?_;simp [-Q0,-Q5,-Q1,-Q6,-Q2];repeat refine sdQ ?_
 refine hK _ ?_;clear hK K;refine tn ?_;refine Q9 (st':=⟨[(1,.adr 0 0 0),(2,.adr 1 0 0),(3,.own 2 0 0)],[(0,.mix 26 [(Adj.cells true a_)]),(1,.mix 14 [[iV 0,.val (.slice none 0 0),.val (.slice none 0 0),.val (.slice none 0 0),.val (.slice none 0 0),iV 0,.val (.slice none 0 0),.val (.slice none 0 0),.val (.slice none 0 0),.val (.slice none 0 0),.val (.slice none 0 0),.val (.slice none 0 0),.val (.slice none 0 0),.val (.slice none 0 0)]]),(2,.mix 1 [])],3⟩) (wkQ9 [(0,0),(1,1),(2,2)]) ?_;refine Q4 ?_;refine Q4 ?_;refine runQ hN fun K hK=>?_;simp [-Q0,-Q5,-Q1,-Q6,-Q2];repeat refine sdQ ?_
 refine hK _ ?_;clear hK K;refine tn ?_;refine Q9 (st':=⟨[(1,.adr 0 0 0),(2,.adr 1 0 0),(3,.own 2 0 0),(4,iV 0)],[(0,.mix 26 [(Adj.cells true a_)]),(1,.mix 14 [[iV 0,.val (.slice none 0 0),.val (.slice none 0 0),.val (.slice none 0 0),.val (.slice none 0 0),iV 0,.val (.slice none 0 0),.val (.slice none 0 0),.val (.slice none 0 0),.val (.slice none 0 0),.val (.slice none 0 0),.val (.slice none 0 0),.val (.slice none 0 0),.val (.slice none 0 0)]]),(2,.mix 1 [])],3⟩) (wkQ9 [(0,0),(1,1),(2,2)]) ?_;replace h:=bind_some h;obtain ⟨e1,h,h1⟩:=h;refine Qk (fun b1:List Int=>⟨[(1,.adr 0 0 0),(2,.adr 1 0 0),(3,.own 2 0 b1.length)],[(0,.mix 26 [(Adj.cells true a_)]),(1,.mix 14 [[iV 0,.val (.slice none 0 0),.val (.slice none 0 0),.val (.slice none 0 0),.val (.slice none 0 0),iV 0,.val (.slice none 0 0),.val (.slice none 0 0),.val (.slice none 0 0),.val (.slice none 0 0),.val (.slice none 0 0),.val (.slice none 0 0),.val (.slice none 0 0),.val (.slice none 0 0)]]),(2,rI b1)],3⟩) (fun b1=>b1=e1) ?_ ?_
 ·refine Qc ?_;refine Qw h (fun s8:List Int × Int=>⟨[(1,.adr 0 0 0),(2,.adr 1 0 0),(3,.own 2 0 s8.1.length),(4,iV s8.2)],[(0,.mix 26 [(Adj.cells true a_)]),(1,.mix 14 [[iV 0,.val (.slice none 0 0),.val (.slice none 0 0),.val (.slice none 0 0),.val (.slice none 0 0),iV 0,.val (.slice none 0 0),.val (.slice none 0 0),.val (.slice none 0 0),.val (.slice none 0 0),.val (.slice none 0 0),.val (.slice none 0 0),.val (.slice none 0 0),.val (.slice none 0 0)]]),(2,rI s8.1)],3⟩) (Q33 ⟨[(1,.adr 0 0 0),(2,.adr 1 0 0),(3,.own 2 0 0),(4,iV 0)],[(0,.mix 26 [(Adj.cells true a_)]),(1,.mix 14 [[iV 0,.val (.slice none 0 0),.val (.slice none 0 0),.val (.slice none 0 0),.val (.slice none 0 0),iV 0,.val (.slice none 0 0),.val (.slice none 0 0),.val (.slice none 0 0),.val (.slice none 0 0),.val (.slice none 0 0),.val (.slice none 0 0),.val (.slice none 0 0),.val (.slice none 0 0)]]),(2,rI [])],3⟩ (Wk.nils [] (by simp) (by simp) (by simp [nlA]) (by simp [entN,nlL,nlA,Adj.cells,Fn.cells,Mnd.cells,UA,U1,IA,I1,LA,L1,BA,B1,EA,E1,E2,eB,eI,eL]) (by simp)) (wkQ9 [(0,0),(1,1),(2,2)])) ?_;clear h;intro k8 s8 c8 h hk8;refine Q4 ?_;refine Q4 ?_;refine runQ hN fun K hK=>?_;simp [-Q0,-Q5,-Q1,-Q6,-Q2];repeat refine sdQ ?_
  refine hK _ ?_;clear hK K;refine tn ?_;refine Q9 (st':=⟨[(1,.adr 0 0 0),(2,.adr 1 0 0),(3,.own 2 0 s8.1.length),(4,iV s8.2),(10,.val (.bool (decide (s8.2<(a_.u.length:Int)))))],[(0,.mix 26 [(Adj.cells true a_)]),(1,.mix 14 [[iV 0,.val (.slice none 0 0),.val (.slice none 0 0),.val (.slice none 0 0),.val (.slice none 0 0),iV 0,.val (.slice none 0 0),.val (.slice none 0 0),.val (.slice none 0 0),.val (.slice none 0 0),.val (.slice none 0 0),.val (.slice none 0 0),.val (.slice none 0 0),.val (.slice none 0 0)]]),(2,rI s8.1)],3⟩) (wkQ9 [(0,0),(1,1),(2,2)]) ?_;refine Qe rfl (fun g=>?_) fun g=>?_
  ·have g9:s8.2<(a_.u.length:Int):=gQ;clear g;replace h:=if_l g9 h;refine Qf ?_;refine tn ?_;refine Q4 ?_;refine Qc ?_;refine runQ hN fun K hK=>?_;replace h:=Q8 h;obtain ⟨a10,h⟩:=h;replace h:=Q8 h;obtain ⟨a11,h⟩:=h;replace h:=Q8 h;obtain ⟨a12,h⟩:=h;replace h:=Q8 h;obtain ⟨a13,h⟩:=h;(try simp only [List.length_append,List.length_cons,List.length_nil] at a13);simp [-Q0,-Q5,-Q1,-Q6,-Q2,at_I a10,at_I a11,at_I a12,a13];(repeat refine sdQ ?_);refine hK _ ?_;clear hK K;refine bn ?_;refine tn ?_;refine Q9 (st':=⟨[(1,.adr 0 0 0),(2,.adr 1 0 0),(3,.own 2 0 ((s8.1++[ix a_.r.ar (ix a_.k (ix a_.l.ob s8.2))]).length)),(4,iV s8.2)],[(0,.mix 26 [(Adj.cells true a_)]),(1,.mix 14 [[iV 0,.val (.slice none 0 0),.val (.slice none 0 0),.val (.slice none 0 0),.val (.slice none 0 0),iV 0,.val (.slice none 0 0),.val (.slice none 0 0),.val (.slice none 0 0),.val (.slice none 0 0),.val (.slice none 0 0),.val (.slice none 0 0),.val (.slice none 0 0),.val (.slice none 0 0)]]),(2,rI (s8.1++[ix a_.r.ar (ix a_.k (ix a_.l.ob s8.2))]))],3⟩) (wkQ9 [(0,0),(1,1),(4,2)]) ?_;refine runQ hN fun K hK=>?_;replace h:=Q8 h;obtain ⟨a14,h⟩:=h;simp [-Q0,-Q5,-Q1,-Q6,-Q2,Qs a14];(repeat refine sdQ ?_);refine hK _ ?_;clear hK K;cases h;exact rn (s':=(s8.1++[ix a_.r.ar (ix a_.k (ix a_.l.ob s8.2))],s8.2+1)) hk8 (wkQ9 [(0,0),(1,1),(2,2)])
  have g9:¬ (s8.2<(a_.u.length:Int)):=gQ;clear g;replace h:=if_r g9 h;refine Qp ?_;refine tx ?_;refine lx ?_;refine bh ?_;cases h;exact jn (b:=s8.1) hk8 (wkQ9 [(0,0),(1,1),(2,2)])
 intro b1 hb1;have h:=h1;try rw [← hb1] at h
 clear h1;try dsimp only at h
 refine Q4 ?_;refine runQ hN fun K hK=>?_;simp [-Q0,-Q5,-Q1,-Q6,-Q2];repeat with_reducible refine sdQ ?_
 replace h:=bind_some h;obtain ⟨v15,hv15,h⟩:=h;refine Q3 (Q3D _ _ v15 hv15) (.cons (.aggL (.cons .val (.cons .lst (.cons .lst (.cons .lst (.cons .lst (.cons .val (.cons .lst (.cons .lst (.cons .lst (.cons .lst (.cons .lst (.cons .lst .nil))))))))))))) (.cons (.aggL (.cons .val (.cons .lst (.cons .lst (.cons .lst (.cons .lst (.cons .val (.cons .lst (.cons .lst (.cons .lst (.cons .lst (.cons .lst (.cons .lst .nil))))))))))))) .nil)) ?_;simp [-Q0,-Q5,-Q1,-Q6,-Q2,unk,unA,unE,unT,unC,flat];repeat with_reducible refine sdQ ?_
 replace h:=bind_some h;obtain ⟨v16,hv16,h⟩:=h;refine Q3 (Q5r _ v16 hv16) (.cons .lst .nil) ?_;simp [-Q0,-Q5,-Q1,-Q6,-Q2,unk,unA,unE,unT,unC,flat];repeat refine sdQ ?_
 refine hK _ ?_;clear hK K;refine tn ?_;refine Q9 (st':=⟨[(2,.adr 0 0 0)],[(0,.mix 14 [[iV v15.s.n,.own 1 0 v15.s.fr.length,.own 2 0 v15.s.to.length,.own 3 0 v15.s.id.length,.own 4 0 v15.s.cs.length,iV v15.t.n,.own 5 0 v15.t.fr.length,.own 6 0 v15.t.to.length,.own 7 0 v15.t.id.length,.own 8 0 v15.t.cs.length,.own 9 0 v15.ob.length,.own 10 0 v15.ar.length,.own 11 0 v16.length,.own 12 0 b1.length]]),(1,rI v15.s.fr),(2,rI v15.s.to),(3,rI v15.s.id),(4,.row 1 (Ls v15.s.cs)),(5,rI v15.t.fr),(6,rI v15.t.to),(7,rI v15.t.id),(8,.row 1 (Ls v15.t.cs)),(9,rI v15.ob),(10,rI v15.ar),(11,rI v16),(12,rI b1)],13⟩) (wkQ9 [(1,0),(4,1),(5,2),(6,3),(7,4),(9,5),(10,6),(11,7),(12,8),(13,9),(14,10),(15,11),(2,12)]) ?_;refine Qi ?_;have hr:=Option.some.inj h;rw [← hr];refine ⟨_,(.cell tf_39 rfl rfl rfl (by simp) (by simp) .nil),?_⟩;refine ⟨(.agg rfl .nil),[iV v15.s.n,lI v15.s.fr,lI v15.s.to,lI v15.s.id,.lst true 1 (Ls v15.s.cs),iV v15.t.n,lI v15.t.fr,lI v15.t.to,lI v15.t.id,.lst true 1 (Ls v15.t.cs),lI v15.ob,lI v15.ar,lI v16,lI b1],[1,2,3,4,5,6,7,8,9,10,11,12],by simp [Adj.cells,Fn.cells,Mnd.cells,UA,U1,IA,I1,LA,L1,BA,B1,EA,E1,E2,eB,eI,eL],by simp,(UpL.refl _)⟩
def tab {α:Type} (n:Nat) (g:Nat→α):List α:=(List.range n).map g
@[simp] theorem Q9Y {α:Type} (n:Nat) (g:Nat→α):(tab n g).length=n:=by simp [tab]
theorem Q57 {α:Type} (n:Nat) (g:Nat→α):tab (n+1) g=tab n g++[g n]:=by simp [tab,List.range_succ]
theorem ix_tab (n:Nat) (g:Nat→Int) {i:Nat} (h:i<n):ix (tab n g) i=g i:=by
 rw [← Q1J _ _ (show i<(tab n g).length by simpa using h)];simp [tab]
theorem Cat.Is.size {c:Cat} (h:c.Is):c.size≤2000:=h.1.size2.2
def zeroF:Fn:=⟨⟨0,[],[],[],[]⟩,⟨0,[],[],[],[]⟩,[],[]⟩
def QA (a:Adj):Mnd:=⟨Q1c a.l a.r,a.u,tab a.l.ob.length fun x=>ix a.r.ar (ix a.k (ix a.l.ob x))⟩
theorem Adj.Pre.step {a:Adj} (h:a.Pre) {x:Nat} (hx:x<a.l.ob.length):(0≤ix a.l.ob x∧ix a.l.ob x<a.k.length)∧(0≤ix a.k (ix a.l.ob x)∧ix a.k (ix a.l.ob x)<a.r.ar.length):=by
 obtain ⟨l1,l2,l3,l4,l5,l6,_⟩:=h.len;have o1:=h.lob (x:=x) (by omega) (by omega);have k1:=(h.co o1.1 o1.2).1;omega
theorem e_l16Of {a:Adj} (h:a.Is):Q41 a=some (QA a):=by
 obtain ⟨l1,l2,l3,l4,l5,l6,l7,l8,l9,l10,l11,l12,l13,l14⟩:=h.pre.len;unfold Q41;refine QM a.l.ob.length (fun i=>tab i fun x=>ix a.r.ar (ix a.k (ix a.l.ob x))) (e:=tab a.l.ob.length fun x=>ix a.r.ar (ix a.k (ix a.l.ob x))) rfl (by omega) (fun i hi=>?_) (by simp;try omega) ?_
 ·have:=h.pre.step hi;simp (disch:=omega) [Qa,B64,Q57];try omega
 rw [Q4S h.pre.hl h.pre.hr h.pre.e1];unfold Q2k;simp (disch:=omega) [Qa,QA]
theorem e_monadOf {a:Adj} (h:a.Is):Q2V a=some (QA a):=by
 obtain ⟨l1,l2,l3,l4,l5,l6,l7,l8,l9,l10,l11,l12,l13,l14⟩:=h.pre.len;unfold Q2V;rw [Q8e h.pre.hl h.pre.hr h.pre.e1];simp only [Option.bind_some];refine QM a.l.ob.length (fun i=>tab i fun x=>ix a.r.ar (ix a.k (ix a.l.ob x))) (e:=tab a.l.ob.length fun x=>ix a.r.ar (ix a.k (ix a.l.ob x))) rfl (by omega) (fun i hi=>?_) (by simp;try omega) ?_
 ·have:=h.pre.step hi;simp (disch:=omega) [Qa,B64,Q57];try omega
 unfold Q52 Q2w;rw [e_Fcopy (Q6j h.pre.hl h.pre.hr h.pre.e1)];rw [Qa (by omega),Qa (by simp;omega)];rfl
structure Adj.Two (a b:Adj):Prop where
 ha:a.Is
 hb:b.Is
 e:a.l.t=b.l.s
attribute [local simp] eL eI Qm QI Cat.cells
noncomputable def QV (c_:Cat) (x_:Int) (y_:Int):Option (List Int) :=
 (QH (σ:=List Int × Int) (ε:=List Int) (fun s11 =>
  if s11.2<(c_.fr.length:Int) then
   (
    (
     ass (0≤s11.2∧s11.2<(c_.fr.length:Int)) <|
     if (ix c_.fr s11.2)=x_ then
      ass (0≤s11.2∧s11.2<(c_.to.length:Int)) <|
      some ((ix c_.to s11.2) == y_)
     else
      some false:Option (Bool)).bind fun b14 =>
    if b14=true then
     ass ((s11.1++[s11.2]).length≤1073741824) <|
     some (s11.1++[s11.2])
    else
     some s11.1:Option (List Int)).bind fun b13 =>
   ass (B64 (s11.2+1)) <|
   some (Ctl.next (b13,s11.2+1))
  else
   some (Ctl.ret s11.1)) fuel ([],0)).bind fun b1 =>
 some b1
theorem Q3I (c_:Cat) (x_:Int) (y_:Int) (r:List Int) (h:QV c_ x_ y_=some r):Contract Tryz.prog 137 [.rptr (c_.cells true),iV x_,iV y_] (lI r):=by
 refine Qd (rvs:=[.tmp 6]) (rs:=[lI r]) Tryz.func137 rfl rfl rfl rfl (by simp [Tryz.f137]) fun F hN hP=>?_;unfold QV at h;refine Q4 ?_;refine runQ hN fun K hK=>?_;simp [-Q0,-Q5,-Q1,-Q6,-Q2];repeat refine sdQ ?_
 refine hK _ ?_;clear hK K;refine tn ?_;refine Q9 (st':=⟨[(0,.rptr (Cat.cells true c_)),(1,iV x_),(2,iV y_)],[],0⟩) (wkQ9 []) ?_;refine Q4 ?_;refine runQ hN fun K hK=>?_;simp [-Q0,-Q5,-Q1,-Q6,-Q2];repeat refine sdQ ?_
 refine hK _ ?_;clear hK K;refine tn ?_;refine Q9 (st':=⟨[(0,.rptr (Cat.cells true c_)),(1,iV x_),(2,iV y_),(7,.own 0 0 0)],[(0,.mix 1 [])],1⟩) (wkQ9 [(0,0)]) ?_;refine Q4 ?_;refine Q4 ?_;refine runQ hN fun K hK=>?_;simp [-Q0,-Q5,-Q1,-Q6,-Q2];repeat refine sdQ ?_
 refine hK _ ?_;clear hK K;refine tn ?_;refine Q9 (st':=⟨[(0,.rptr (Cat.cells true c_)),(1,iV x_),(2,iV y_),(7,.own 0 0 0),(14,iV (c_.fr.length:Int)),(15,iV 0)],[(0,.mix 1 [])],1⟩) (wkQ9 [(0,0)]) ?_;replace h:=bind_some h;obtain ⟨e1,h,h1⟩:=h;refine Qk (fun b1:List Int=>⟨[(7,.own 0 0 b1.length)],[(0,rI b1)],1⟩) (fun b1=>b1=e1) ?_ ?_
 ·refine Qc ?_;refine Qw h (fun s11:List Int × Int=>⟨[(0,.rptr (Cat.cells true c_)),(1,iV x_),(2,iV y_),(7,.own 0 0 s11.1.length),(14,iV (c_.fr.length:Int)),(15,iV s11.2)],[(0,rI s11.1)],1⟩) (Q33 ⟨[(0,.rptr (Cat.cells true c_)),(1,iV x_),(2,iV y_),(7,.own 0 0 0),(14,iV (c_.fr.length:Int)),(15,iV 0)],[(0,rI [])],1⟩ (Wk.nils [] (by simp) (by simp) (by simp [nlA]) (by simp [entN,nlL,nlA,Cat.cells,UA,U1,IA,I1,LA,L1,BA,B1,EA,E1,E2,eB,eI,eL]) (by simp)) (wkQ9 [(0,0)])) ?_;clear h;intro k11 s11 c11 h hk11;refine Q4 ?_;refine runQ hN fun K hK=>?_;simp [-Q0,-Q5,-Q1,-Q6,-Q2];repeat refine sdQ ?_
  refine hK _ ?_;clear hK K;refine tn ?_;refine Q9 (st':=⟨[(0,.rptr (Cat.cells true c_)),(1,iV x_),(2,iV y_),(7,.own 0 0 s11.1.length),(14,iV (c_.fr.length:Int)),(15,iV s11.2),(16,.val (.bool (decide (s11.2<(c_.fr.length:Int)))))],[(0,rI s11.1)],1⟩) (wkQ9 [(0,0)]) ?_;refine Q4 ?_;refine Qe rfl (fun g=>?_) fun g=>?_
  ·have g12:s11.2<(c_.fr.length:Int):=gQ;clear g;replace h:=if_l g12 h;refine Qf ?_;refine tn ?_;refine Q4 ?_;replace h:=bind_some h;obtain ⟨e13,h,h13⟩:=h;refine Qk (fun b13:List Int=>⟨[(0,.rptr (Cat.cells true c_)),(1,iV x_),(2,iV y_),(7,.own 0 0 b13.length),(14,iV (c_.fr.length:Int)),(15,iV s11.2)],[(0,rI b13)],1⟩) (fun b13=>b13=e13) ?_ ?_
   ·refine Qc ?_;refine Q4 ?_;refine runQ hN fun K hK=>?_;simp [-Q0,-Q5,-Q1,-Q6,-Q2];(repeat refine sdQ ?_);refine hK _ ?_;clear hK K;refine tn ?_;refine Q9 (st':=⟨[(0,.rptr (Cat.cells true c_)),(1,iV x_),(2,iV y_),(7,.own 0 0 s11.1.length),(8,iV s11.2),(14,iV (c_.fr.length:Int)),(15,iV s11.2)],[(0,rI s11.1)],1⟩) (wkQ9 [(0,0)]) ?_;refine Q4 ?_;replace h:=bind_some h;obtain ⟨e14,h,h14⟩:=h;refine Qk (fun b14:Bool=>⟨[(0,.rptr (Cat.cells true c_)),(1,iV x_),(2,iV y_),(7,.own 0 0 s11.1.length),(8,iV s11.2),(14,iV (c_.fr.length:Int)),(15,iV s11.2),(37,.val (.bool b14))],[(0,rI s11.1)],1⟩) (fun b14=>b14=e14) ?_ ?_
    ·refine runQ hN fun K hK=>?_;replace h:=Q8 h;obtain ⟨a15,h⟩:=h;simp [-Q0,-Q5,-Q1,-Q6,-Q2,at_I a15];(repeat with_reducible refine sdQ ?_);refine Qo (fun g=>?_) (fun g=>?_)
     ·have g16:(ix c_.fr s11.2)=x_:=gQ;clear g;replace h:=if_l g16 h;replace h:=Q8 h;obtain ⟨a17,h⟩:=h;simp [-Q0,-Q5,-Q1,-Q6,-Q2,at_I a15,at_I a17];(repeat refine sdQ ?_);refine hK _ ?_;exact jn (b:=(ix c_.to s11.2) == y_) (Option.some.inj h) (wkQ9 [(0,0)])
     have g16:¬ ((ix c_.fr s11.2)=x_):=gQ;clear g;replace h:=if_r g16 h;simp [-Q0,-Q5,-Q1,-Q6,-Q2,at_I a15];(repeat refine sdQ ?_);refine hK _ ?_;exact jn (b:=false) (Option.some.inj h) (wkQ9 [(0,0)])
    intro b14 hb14;have h:=h14;(try rw [← hb14] at h);clear h14;(try dsimp only at h);refine Qe rfl (fun g=>?_) fun g=>?_
    ·have g18:b14=true:=gQ;clear g;replace h:=if_l g18 h;refine runQ hN fun K hK=>?_;replace h:=Q8 h;obtain ⟨a19,h⟩:=h;(try simp only [List.length_append,List.length_cons,List.length_nil] at a19);simp [-Q0,-Q5,-Q1,-Q6,-Q2,a19];(repeat refine sdQ ?_);refine hK _ ?_;clear hK K;refine bn ?_;exact jn (b:=s11.1++[s11.2]) (Option.some.inj h) (wkQ9 [(2,0)])
    have g18:¬ (b14=true):=gQ;clear g;replace h:=if_r g18 h;refine Qf ?_;refine bn ?_;exact jn (b:=s11.1) (Option.some.inj h) (wkQ9 [(0,0)])
   intro b13 hb13;have h:=h13;(try rw [← hb13] at h);clear h13;(try dsimp only at h);refine runQ hN fun K hK=>?_;replace h:=Q8 h;obtain ⟨a20,h⟩:=h;simp [-Q0,-Q5,-Q1,-Q6,-Q2,Qs a20];(repeat refine sdQ ?_);refine hK _ ?_;clear hK K;cases h;exact rn (s':=(b13,s11.2+1)) hk11 (wkQ9 [(0,0)])
  have g12:¬ (s11.2<(c_.fr.length:Int)):=gQ;clear g;replace h:=if_r g12 h;refine Qp ?_;refine tx ?_;refine lx ?_;refine bh ?_;cases h;exact jn (b:=s11.1) hk11 (wkQ9 [(0,0)])
 intro b1 hb1;have h:=h1;try rw [← hb1] at h
 clear h1;try dsimp only at h
 refine Q4 ?_;refine runQ hN fun K hK=>?_;simp [-Q0,-Q5,-Q1,-Q6,-Q2];repeat refine sdQ ?_
 refine hK _ ?_;clear hK K;refine tn ?_;refine Q9 (st':=⟨[(6,.own 0 0 b1.length)],[(0,rI b1)],1⟩) (wkQ9 [(0,0)]) ?_;refine Qi ?_;have hr:=Option.some.inj h;rw [← hr];refine ⟨_,(.tmp .nil),?_⟩;refine ⟨(.one rfl rfl .nil),[lI b1],[0],by simp [Cat.cells,UA,U1,IA,I1,LA,L1,BA,B1,EA,E1,E2,eB,eI,eL],by simp,(UpL.refl _)⟩
attribute [local simp] eL eI Qm QI Cat.cells
noncomputable def Q2O (c_:Cat) (x_:Int) (y_:Int):Option (List Int) :=
 (QH (σ:=List Int × Int) (ε:=List Int) (fun s11 =>
  if s11.2<(c_.fr.length:Int) then
   (
    (
     ass (0≤s11.2∧s11.2<(c_.fr.length:Int)) <|
     if (ix c_.fr s11.2)=x_ then
      ass (0≤s11.2∧s11.2<(c_.to.length:Int)) <|
      some ((ix c_.to s11.2) == y_)
     else
      some false:Option (Bool)).bind fun b14 =>
    if b14=true then
     ass ((s11.1++[s11.2]).length≤1073741824) <|
     some (s11.1++[s11.2])
    else
     some s11.1:Option (List Int)).bind fun b13 =>
   ass (B64 (s11.2+1)) <|
   some (Ctl.next (b13,s11.2+1))
  else
   some (Ctl.ret s11.1)) fuel ([],0)).bind fun b1 =>
 some b1
theorem Q6T (c_:Cat) (x_:Int) (y_:Int) (r:List Int) (h:Q2O c_ x_ y_=some r):Contract Tryz.prog 109 [.agg (c_.cells true),iV x_,iV y_] (lI r):=by
 refine Qd (rvs:=[.tmp 6]) (rs:=[lI r]) Tryz.func109 rfl rfl rfl rfl (by simp [Tryz.f109]) fun F hN hP=>?_;unfold Q2O at h;refine Q4 ?_;refine runQ hN fun K hK=>?_;simp [-Q0,-Q5,-Q1,-Q6,-Q2];repeat refine sdQ ?_
 refine hK _ ?_;clear hK K;refine tn ?_;refine Q9 (st':=⟨[(1,iV x_),(2,iV y_),(3,.adr 0 0 0)],[(0,.mix 5 [(Cat.cells true c_)])],1⟩) (wkQ9 [(0,0)]) ?_;refine Q4 ?_;refine runQ hN fun K hK=>?_;simp [-Q0,-Q5,-Q1,-Q6,-Q2];repeat refine sdQ ?_
 refine hK _ ?_;clear hK K;refine tn ?_;refine Q9 (st':=⟨[(1,iV x_),(2,iV y_),(3,.adr 0 0 0),(7,.own 1 0 0)],[(0,.mix 5 [(Cat.cells true c_)]),(1,.mix 1 [])],2⟩) (wkQ9 [(0,0),(1,1)]) ?_;refine Q4 ?_;refine Q4 ?_;refine runQ hN fun K hK=>?_;simp [-Q0,-Q5,-Q1,-Q6,-Q2];repeat refine sdQ ?_
 refine hK _ ?_;clear hK K;refine tn ?_;refine Q9 (st':=⟨[(1,iV x_),(2,iV y_),(3,.adr 0 0 0),(7,.own 1 0 0),(8,iV 0)],[(0,.mix 5 [(Cat.cells true c_)]),(1,.mix 1 [])],2⟩) (wkQ9 [(0,0),(1,1)]) ?_;replace h:=bind_some h;obtain ⟨e1,h,h1⟩:=h;refine Qk (fun b1:List Int=>⟨[(7,.own 0 0 b1.length)],[(0,rI b1)],1⟩) (fun b1=>b1=e1) ?_ ?_
 ·refine Qc ?_;refine Qw h (fun s11:List Int × Int=>⟨[(1,iV x_),(2,iV y_),(3,.adr 0 0 0),(7,.own 1 0 s11.1.length),(8,iV s11.2)],[(0,.mix 5 [(Cat.cells true c_)]),(1,rI s11.1)],2⟩) (Q33 ⟨[(1,iV x_),(2,iV y_),(3,.adr 0 0 0),(7,.own 1 0 0),(8,iV 0)],[(0,.mix 5 [(Cat.cells true c_)]),(1,rI [])],2⟩ (Wk.nils [] (by simp) (by simp) (by simp [nlA]) (by simp [entN,nlL,nlA,Cat.cells,UA,U1,IA,I1,LA,L1,BA,B1,EA,E1,E2,eB,eI,eL]) (by simp)) (wkQ9 [(0,0),(1,1)])) ?_;clear h;intro k11 s11 c11 h hk11;refine Q4 ?_;refine Q4 ?_;refine runQ hN fun K hK=>?_;simp [-Q0,-Q5,-Q1,-Q6,-Q2];repeat refine sdQ ?_
  refine hK _ ?_;clear hK K;refine tn ?_;refine Q9 (st':=⟨[(1,iV x_),(2,iV y_),(3,.adr 0 0 0),(7,.own 1 0 s11.1.length),(8,iV s11.2),(14,.val (.bool (decide (s11.2<(c_.fr.length:Int)))))],[(0,.mix 5 [(Cat.cells true c_)]),(1,rI s11.1)],2⟩) (wkQ9 [(0,0),(1,1)]) ?_;refine Qe rfl (fun g=>?_) fun g=>?_
  ·have g12:s11.2<(c_.fr.length:Int):=gQ;clear g;replace h:=if_l g12 h;refine Qf ?_;refine tn ?_;refine Q4 ?_;replace h:=bind_some h;obtain ⟨e13,h,h13⟩:=h;refine Qk (fun b13:List Int=>⟨[(1,iV x_),(2,iV y_),(3,.adr 0 0 0),(7,.own 1 0 b13.length),(8,iV s11.2)],[(0,.mix 5 [(Cat.cells true c_)]),(1,rI b13)],2⟩) (fun b13=>b13=e13) ?_ ?_
   ·refine Qc ?_;refine Q4 ?_;replace h:=bind_some h;obtain ⟨e14,h,h14⟩:=h;refine Qk (fun b14:Bool=>⟨[(1,iV x_),(2,iV y_),(3,.adr 0 0 0),(7,.own 1 0 s11.1.length),(8,iV s11.2),(32,.val (.bool b14))],[(0,.mix 5 [(Cat.cells true c_)]),(1,rI s11.1)],2⟩) (fun b14=>b14=e14) ?_ ?_
    ·refine runQ hN fun K hK=>?_;replace h:=Q8 h;obtain ⟨a15,h⟩:=h;simp [-Q0,-Q5,-Q1,-Q6,-Q2,at_I a15];(repeat with_reducible refine sdQ ?_);refine Qo (fun g=>?_) (fun g=>?_)
     ·have g16:(ix c_.fr s11.2)=x_:=gQ;clear g;replace h:=if_l g16 h;replace h:=Q8 h;obtain ⟨a17,h⟩:=h;simp [-Q0,-Q5,-Q1,-Q6,-Q2,at_I a15,at_I a17];(repeat refine sdQ ?_);refine hK _ ?_;exact jn (b:=(ix c_.to s11.2) == y_) (Option.some.inj h) (wkQ9 [(0,0),(1,1)])
     have g16:¬ ((ix c_.fr s11.2)=x_):=gQ;clear g;replace h:=if_r g16 h;simp [-Q0,-Q5,-Q1,-Q6,-Q2,at_I a15];(repeat refine sdQ ?_);refine hK _ ?_;exact jn (b:=false) (Option.some.inj h) (wkQ9 [(0,0),(1,1)])
    intro b14 hb14;have h:=h14;(try rw [← hb14] at h);clear h14;(try dsimp only at h);refine Qe rfl (fun g=>?_) fun g=>?_
    ·have g18:b14=true:=gQ;clear g;replace h:=if_l g18 h;refine runQ hN fun K hK=>?_;replace h:=Q8 h;obtain ⟨a19,h⟩:=h;(try simp only [List.length_append,List.length_cons,List.length_nil] at a19);simp [-Q0,-Q5,-Q1,-Q6,-Q2,a19];(repeat refine sdQ ?_);refine hK _ ?_;clear hK K;refine bn ?_;exact jn (b:=s11.1++[s11.2]) (Option.some.inj h) (wkQ9 [(0,0),(3,1)])
    have g18:¬ (b14=true):=gQ;clear g;replace h:=if_r g18 h;refine Qf ?_;refine bn ?_;exact jn (b:=s11.1) (Option.some.inj h) (wkQ9 [(0,0),(1,1)])
   intro b13 hb13;have h:=h13;(try rw [← hb13] at h);clear h13;(try dsimp only at h);refine runQ hN fun K hK=>?_;replace h:=Q8 h;obtain ⟨a20,h⟩:=h;simp [-Q0,-Q5,-Q1,-Q6,-Q2,Qs a20];(repeat refine sdQ ?_);refine hK _ ?_;clear hK K;cases h;exact rn (s':=(b13,s11.2+1)) hk11 (wkQ9 [(0,0),(1,1)])
  have g12:¬ (s11.2<(c_.fr.length:Int)):=gQ;clear g;replace h:=if_r g12 h;refine Qp ?_;refine tx ?_;refine lx ?_;refine bh ?_;cases h;exact jn (b:=s11.1) hk11 (wkQ9 [(1,0)])
 intro b1 hb1;have h:=h1;try rw [← hb1] at h
 clear h1;try dsimp only at h
 refine Q4 ?_;refine runQ hN fun K hK=>?_;simp [-Q0,-Q5,-Q1,-Q6,-Q2];repeat refine sdQ ?_
 refine hK _ ?_;clear hK K;refine tn ?_;refine Q9 (st':=⟨[(6,.own 0 0 b1.length)],[(0,rI b1)],1⟩) (wkQ9 [(0,0)]) ?_;refine Qi ?_;have hr:=Option.some.inj h;rw [← hr];refine ⟨_,(.tmp .nil),?_⟩;refine ⟨(.one rfl rfl .nil),[lI b1],[0],by simp [Cat.cells,UA,U1,IA,I1,LA,L1,BA,B1,EA,E1,E2,eB,eI,eL],by simp,(UpL.refl _)⟩
noncomputable def flt (n:Nat) (p:Nat→Prop):List Int:=((List.range n).filter fun i=>bo (p i)).map Int.ofNat
noncomputable def fstN (n:Nat) (p:Nat→Prop):Int:=(((List.range n).find? fun i=>bo (p i)).map Int.ofNat).getD (-1)
theorem flt_pos {n:Nat} {p:Nat→Prop} (h:p n):flt (n+1) p=flt n p++[(n:Int)]:=by simp [flt,List.range_succ,QJ h]
theorem flt_neg {n:Nat} {p:Nat→Prop} (h:¬ p n):flt (n+1) p=flt n p:=by simp [flt,List.range_succ,Qv h]
theorem flt_len (n:Nat) (p:Nat→Prop):(flt n p).length≤n:=by
 unfold flt;rw [List.length_map];exact Nat.le_trans (List.length_filter_le _ _) (by simp)
theorem mem_flt {n:Nat} {p:Nat→Prop} {x:Int}:x∈flt n p↔∃ i:Nat,i<n∧p i∧x=(i:Int):=by
 simp only [flt,List.mem_map,List.mem_filter,List.mem_range,Q7k];constructor
 ·rintro ⟨i,⟨h1,h2⟩,rfl⟩;exact ⟨i,h1,h2,rfl⟩
 rintro ⟨i,h1,h2,rfl⟩;exact ⟨i,⟨h1,h2⟩,rfl⟩
theorem Q73 (n:Nat) (p:Nat→Prop):(fstN n p = -1∧∀ i,i<n→¬ p i)∨∃ k:Nat,k<n∧p k∧fstN n p=(k:Int):=by
 unfold fstN;cases h:(List.range n).find? fun i=>bo (p i) with
 | none =>
  refine .inl ⟨rfl,fun i hi=>?_⟩;have:=List.find?_eq_none.1 h i (by simpa using hi);simpa [Q7k] using this
 | some k =>
  have h1:=List.find?_some h;have h2:=List.mem_of_find?_eq_some h;exact .inr ⟨k,by simpa using h2,by simpa [Q7k] using h1,rfl⟩
theorem e_hom {c:Cat} (h:c.Is) (x y:Int):QV c x y=some (flt c.fr.length fun a=>ix c.fr a=x∧ix c.to a=y):=by
 have k1:=h.1.lt;have k2:=h.1.m40;unfold QV;refine QM c.fr.length (fun i=>flt i fun a=>ix c.fr a=x∧ix c.to a=y) (e:=flt c.fr.length fun a=>ix c.fr a=x∧ix c.to a=y) rfl (by omega) (fun i hi=>?_) (by simp) rfl;have hl:=flt_len i fun a=>ix c.fr a=x∧ix c.to a=y
 by_cases h1:ix c.fr i=x
 ·by_cases h2:ix c.to i=y
  ·rw [flt_pos ⟨h1,h2⟩];simp (disch:=omega) [Qa,B64,h1,h2];try omega
  rw [flt_neg fun q=>h2 q.2];simp (disch:=omega) [Qa,B64,h1,h2];try omega
 rw [flt_neg fun q=>h1 q.1];simp (disch:=omega) [Qa,B64,h1];try omega
theorem e_l02Hom (c:Cat) (x y:Int):Q2O c x y=QV c x y:=rfl
noncomputable def Q1u (m_:Mnd) (f_:Int):Option Int :=
 ass (0≤f_∧f_<(m_.f.ar.length:Int)) <|
 some (ix m_.f.ar f_)
theorem Q49 (m_:Mnd) (f_:Int) (r:Int) (h:Q1u m_ f_=some r):Contract Tryz.prog 55 [.rptr (m_.cells true),iV f_] (iV r):=by
 refine Qd (rvs:=[.tmp 4]) (rs:=[iV r]) Tryz.func55 rfl rfl rfl rfl (by simp [Tryz.f55]) fun F hN hP=>?_;unfold Q1u at h;refine Q4 ?_;refine runQ hN fun K hK=>?_;simp [-Q0,-Q5,-Q1,-Q6,-Q2,eL,eI,Qm,Q1H,Mnd.cells];repeat refine sdQ ?_
 refine hK _ ?_;clear hK K;refine tn ?_;refine Q9 (st':=⟨[(0,.rptr (Mnd.cells true m_)),(1,iV f_)],[],0⟩) (wkQ9 []) ?_;refine Q4 ?_;refine runQ hN fun K hK=>?_;replace h:=Q8 h;obtain ⟨a1,h⟩:=h;simp [-Q0,-Q5,-Q1,-Q6,-Q2,eL,eI,Qm,Q1H,Mnd.cells,at_I a1];repeat refine sdQ ?_
 refine hK _ ?_;clear hK K;refine tn ?_;refine Q9 (st':=⟨[(4,iV (ix m_.f.ar f_))],[],0⟩) (wkQ9 []) ?_;refine Qi ?_;have hr:=Option.some.inj h;rw [← hr];refine ⟨_,(.tmp .nil),?_⟩;refine ⟨(.one rfl rfl .nil),[iV (ix m_.f.ar f_)],[],by simp [Mnd.cells,UA,U1,IA,I1,LA,L1,BA,B1,EA,E1,E2,eB,eI,eL],by simp,(UpL.refl _)⟩
noncomputable def Q1i (m_:Mnd) (x_:Int):Option Int :=
 ass (0≤x_∧x_<(m_.f.ob.length:Int)) <|
 some (ix m_.f.ob x_)
theorem Q3J (m_:Mnd) (x_:Int) (r:Int) (h:Q1i m_ x_=some r):Contract Tryz.prog 90 [.rptr (m_.cells true),iV x_] (iV r):=by
 refine Qd (rvs:=[.tmp 4]) (rs:=[iV r]) Tryz.func90 rfl rfl rfl rfl (by simp [Tryz.f90]) fun F hN hP=>?_;unfold Q1i at h;refine Q4 ?_;refine runQ hN fun K hK=>?_;simp [-Q0,-Q5,-Q1,-Q6,-Q2,eL,eI,Qm,Q1H,Mnd.cells];repeat refine sdQ ?_
 refine hK _ ?_;clear hK K;refine tn ?_;refine Q9 (st':=⟨[(0,.rptr (Mnd.cells true m_)),(1,iV x_)],[],0⟩) (wkQ9 []) ?_;refine Q4 ?_;refine runQ hN fun K hK=>?_;replace h:=Q8 h;obtain ⟨a1,h⟩:=h;simp [-Q0,-Q5,-Q1,-Q6,-Q2,eL,eI,Qm,Q1H,Mnd.cells,at_I a1];repeat refine sdQ ?_
 refine hK _ ?_;clear hK K;refine tn ?_;refine Q9 (st':=⟨[(4,iV (ix m_.f.ob x_))],[],0⟩) (wkQ9 []) ?_;refine Qi ?_;have hr:=Option.some.inj h;rw [← hr];refine ⟨_,(.tmp .nil),?_⟩;refine ⟨(.one rfl rfl .nil),[iV (ix m_.f.ob x_)],[],by simp [Mnd.cells,UA,U1,IA,I1,LA,L1,BA,B1,EA,E1,E2,eB,eI,eL],by simp,(UpL.refl _)⟩
attribute [local simp] eL eI Qm QI Q1x Cat.cells Fn.cells
noncomputable def Q2Y (t_:Fn) (unit_:List Int) (join_:List Int):Option Bool :=
 (QH (σ:=Int) (ε:=Unit ⊕ Bool) (fun s25 =>
  if s25<t_.s.n then
   ass (0≤s25∧s25<(t_.ob.length:Int)) <|
   (
    ass (0≤s25∧s25<(unit_.length:Int)) <|
    ass (0≤ix unit_ s25∧ix unit_ s25<(t_.ar.length:Int)) <|
    ass (0≤s25∧s25<(join_.length:Int)) <|
    (QF t_.s (ix t_.ar (ix unit_ s25)) (ix join_ s25)).bind fun v32 =>
    (Q1q t_.s v32).bind fun v33 =>
    if ¬ (v33=true) then
     some true
    else
     ass (0≤ix t_.ob s25∧ix t_.ob s25<(unit_.length:Int)) <|
     ass (0≤s25∧s25<(join_.length:Int)) <|
     (QF t_.s (ix unit_ (ix t_.ob s25)) (ix join_ s25)).bind fun v37 =>
     (Q1q t_.s v37).bind fun v38 =>
     some (!v38):Option (Bool)).bind fun b28 =>
   if b28=true then
    some (Ctl.ret (Sum.inr false))
   else
    ass (0≤s25∧s25<(join_.length:Int)) <|
    ass (0≤ix join_ s25∧ix join_ s25<(t_.ar.length:Int)) <|
    ass (0≤s25∧s25<(join_.length:Int)) <|
    (QF t_.s (ix t_.ar (ix join_ s25)) (ix join_ s25)).bind fun v43 =>
    ass (0≤ix t_.ob s25∧ix t_.ob s25<(join_.length:Int)) <|
    ass (0≤s25∧s25<(join_.length:Int)) <|
    (QF t_.s (ix join_ (ix t_.ob s25)) (ix join_ s25)).bind fun v46 =>
    if ¬ (v43=v46) then
     some (Ctl.ret (Sum.inr false))
    else
     ass (B64 (s25+1)) <|
     some (Ctl.next (s25+1))
  else
   some (Ctl.ret (Sum.inl ()))) fuel 0).bind fun e1 =>
 match e1 with
 | .inl b1 =>
  some true
 | .inr p1 =>
  some p1
theorem Q8J (t_:Fn) (unit_:List Int) (join_:List Int) (r:Bool) (h:Q2Y t_ unit_ join_=some r):Contract Tryz.prog 108 [.agg (t_.cells true),lI unit_,lI join_] (.val (.bool r)):=by
 refine Qd (rvs:=[.tmp 6]) (rs:=[.val (.bool r)]) Tryz.func108 rfl rfl rfl rfl (by simp [Tryz.f108]) fun F hN hP=>?_;unfold Q2Y at h;refine Q4 ?_;refine runQ hN fun K hK=>?_;simp [-Q0,-Q5,-Q1,-Q6,-Q2];repeat refine sdQ ?_
 refine hK _ ?_;clear hK K;refine tn ?_;refine Q9 (st':=⟨[(1,lI unit_),(2,lI join_),(3,.adr 0 0 0)],[(0,.mix 12 [(Fn.cells true t_)])],1⟩) (wkQ9 [(0,0)]) ?_;refine Q4 ?_;refine runQ hN fun K hK=>?_;simp [-Q0,-Q5,-Q1,-Q6,-Q2];repeat refine sdQ ?_
 refine hK _ ?_;clear hK K;refine tn ?_;refine Q9 (st':=⟨[(1,lI unit_),(2,lI join_),(3,.adr 0 0 0),(7,.adr 1 0 0)],[(0,.mix 12 [(Fn.cells true t_)]),(1,.mix 5 [(Cat.cells true t_.s)])],2⟩) (wkQ9 [(0,0),(1,1)]) ?_;refine Q4 ?_;refine Q4 ?_;refine runQ hN fun K hK=>?_;simp [-Q0,-Q5,-Q1,-Q6,-Q2];repeat refine sdQ ?_
 refine hK _ ?_;clear hK K;refine tn ?_;refine Q9 (st':=⟨[(1,lI unit_),(2,lI join_),(3,.adr 0 0 0),(7,.adr 1 0 0),(8,iV 0)],[(0,.mix 12 [(Fn.cells true t_)]),(1,.mix 5 [(Cat.cells true t_.s)])],2⟩) (wkQ9 [(0,0),(1,1)]) ?_;replace h:=bind_some h;obtain ⟨e1,h,h1⟩:=h;refine Qk (fun b1:Unit=>⟨[],[],0⟩) (fun b1=>Sum.inl b1=e1) ?_ ?_
 ·refine Qc ?_;refine Qw h (fun s25:Int=>⟨[(1,lI unit_),(2,lI join_),(3,.adr 0 0 0),(7,.adr 1 0 0),(8,iV s25)],[(0,.mix 12 [(Fn.cells true t_)]),(1,.mix 5 [(Cat.cells true t_.s)])],2⟩) (wkQ9 [(0,0),(1,1)]) ?_;clear h;intro k25 s25 c25 h hk25;refine Q4 ?_;refine Q4 ?_;refine runQ hN fun K hK=>?_;simp [-Q0,-Q5,-Q1,-Q6,-Q2];repeat refine sdQ ?_
  refine hK _ ?_;clear hK K;refine tn ?_;refine Q9 (st':=⟨[(1,lI unit_),(2,lI join_),(3,.adr 0 0 0),(7,.adr 1 0 0),(8,iV s25),(15,.val (.bool (decide (s25<t_.s.n))))],[(0,.mix 12 [(Fn.cells true t_)]),(1,.mix 5 [(Cat.cells true t_.s)])],2⟩) (wkQ9 [(0,0),(1,1)]) ?_;refine Qe rfl (fun g=>?_) fun g=>?_
  ·have g26:s25<t_.s.n:=gQ;clear g;replace h:=if_l g26 h;refine Qf ?_;refine tn ?_;refine Q4 ?_;refine Qc ?_;refine Q4 ?_;refine runQ hN fun K hK=>?_;replace h:=Q8 h;obtain ⟨a27,h⟩:=h;simp [-Q0,-Q5,-Q1,-Q6,-Q2,at_I a27];(repeat refine sdQ ?_);refine hK _ ?_;clear hK K;refine tn ?_;refine Q9 (st':=⟨[(1,lI unit_),(2,lI join_),(3,.adr 0 0 0),(7,.adr 1 0 0),(8,iV s25),(9,iV (ix t_.ob s25))],[(0,.mix 12 [(Fn.cells true t_)]),(1,.mix 5 [(Cat.cells true t_.s)])],2⟩) (wkQ9 [(0,0),(1,1)]) ?_;refine Q4 ?_;refine Q4 ?_;replace h:=bind_some h;obtain ⟨e28,h,h28⟩:=h;refine Qk (fun b28:Bool=>⟨[(1,lI unit_),(2,lI join_),(3,.adr 0 0 0),(7,.adr 1 0 0),(8,iV s25),(9,iV (ix t_.ob s25)),(54,.val (.bool b28))],[(0,.mix 12 [(Fn.cells true t_)]),(1,.mix 5 [(Cat.cells true t_.s)])],2⟩) (fun b28=>b28=e28) ?_ ?_
   ·refine runQ hN fun K hK=>?_;replace h:=Q8 h;obtain ⟨a29,h⟩:=h;replace h:=Q8 h;obtain ⟨a30,h⟩:=h;replace h:=Q8 h;obtain ⟨a31,h⟩:=h;simp [-Q0,-Q5,-Q1,-Q6,-Q2,at_I a29,at_I a30,at_I a31];(repeat with_reducible refine sdQ ?_);replace h:=bind_some h;obtain ⟨v32,hv32,h⟩:=h;refine Q3 (QU _ _ _ v32 hv32) (.cons (.aggL (.cons .val (.cons .lst (.cons .lst (.cons .lst (.cons .lst .nil)))))) (.cons .val (.cons .val .nil))) ?_;simp [-Q0,-Q5,-Q1,-Q6,-Q2,unk,unA,unE,unT,unC,flat,at_I a29,at_I a30,at_I a31];(repeat with_reducible refine sdQ ?_);replace h:=bind_some h;obtain ⟨v33,hv33,h⟩:=h;refine Q3 (Q31 _ _ v33 hv33) (.cons (.aggL (.cons .val (.cons .lst (.cons .lst (.cons .lst (.cons .lst .nil)))))) (.cons .val .nil)) ?_;simp [-Q0,-Q5,-Q1,-Q6,-Q2,unk,unA,unE,unT,unC,flat,at_I a29,at_I a30,at_I a31];(repeat with_reducible refine sdQ ?_);refine Qo (fun g=>?_) (fun g=>?_)
    ·have g34:¬ (¬ (v33=true)):=gQ;clear g;replace h:=if_r g34 h;replace h:=Q8 h;obtain ⟨a35,h⟩:=h;replace h:=Q8 h;obtain ⟨a36,h⟩:=h;simp [-Q0,-Q5,-Q1,-Q6,-Q2,at_I a29,at_I a30,at_I a31,at_I a35,at_I a36];(repeat with_reducible refine sdQ ?_);replace h:=bind_some h;obtain ⟨v37,hv37,h⟩:=h;refine Q3 (QU _ _ _ v37 hv37) (.cons (.aggL (.cons .val (.cons .lst (.cons .lst (.cons .lst (.cons .lst .nil)))))) (.cons .val (.cons .val .nil))) ?_;simp [-Q0,-Q5,-Q1,-Q6,-Q2,unk,unA,unE,unT,unC,flat,at_I a29,at_I a30,at_I a31,at_I a35,at_I a36];(repeat with_reducible refine sdQ ?_);replace h:=bind_some h;obtain ⟨v38,hv38,h⟩:=h;refine Q3 (Q31 _ _ v38 hv38) (.cons (.aggL (.cons .val (.cons .lst (.cons .lst (.cons .lst (.cons .lst .nil)))))) (.cons .val .nil)) ?_;simp [-Q0,-Q5,-Q1,-Q6,-Q2,unk,unA,unE,unT,unC,flat,at_I a29,at_I a30,at_I a31,at_I a35,at_I a36];(repeat refine sdQ ?_);refine hK _ ?_;exact jn (b:=!v38) (Option.some.inj h) (wkQ9 [(0,0),(1,1)])
    have g34:¬ (v33=true):=gQ;clear g;replace h:=if_l g34 h;simp [-Q0,-Q5,-Q1,-Q6,-Q2,at_I a29,at_I a30,at_I a31];(repeat refine sdQ ?_);refine hK _ ?_;exact jn (b:=true) (Option.some.inj h) (wkQ9 [(0,0),(1,1)])
   intro b28 hb28;have h:=h28;(try rw [← hb28] at h);clear h28;(try dsimp only at h);refine Qe rfl (fun g=>?_) fun g=>?_
   ·have g39:b28=true:=gQ;clear g;replace h:=if_l g39 h;refine Q4 ?_;refine runQ hN fun K hK=>?_;simp [-Q0,-Q5,-Q1,-Q6,-Q2];(repeat refine sdQ ?_);refine hK _ ?_;clear hK K;refine tn ?_;refine Q9 (st':=⟨[(6,.val (.bool false))],[],0⟩) (wkQ9 []) ?_;refine Qi ?_;refine tr ?_;refine br ?_;refine tr ?_;refine lr ?_;refine br ?_;refine tr ?_;cases h;have q:_=e1:=hk25;have h:=h1;rw [← q] at h;clear q;(try dsimp only at h);have hr:=Option.some.inj h;rw [← hr];refine ⟨_,(.tmp .nil),?_⟩;refine ⟨(.one rfl rfl .nil),[.val (.bool false)],[],by simp [Cat.cells,Fn.cells,UA,U1,IA,I1,LA,L1,BA,B1,EA,E1,E2,eB,eI,eL],by simp,(UpL.refl _)⟩
   have g39:¬ (b28=true):=gQ;clear g;replace h:=if_r g39 h;refine Qf ?_;refine tn ?_;refine Q4 ?_;refine runQ hN fun K hK=>?_;replace h:=Q8 h;obtain ⟨a40,h⟩:=h;replace h:=Q8 h;obtain ⟨a41,h⟩:=h;replace h:=Q8 h;obtain ⟨a42,h⟩:=h;simp [-Q0,-Q5,-Q1,-Q6,-Q2,at_I a40,at_I a41,at_I a42];(repeat with_reducible refine sdQ ?_);replace h:=bind_some h;obtain ⟨v43,hv43,h⟩:=h;refine Q3 (QU _ _ _ v43 hv43) (.cons (.aggL (.cons .val (.cons .lst (.cons .lst (.cons .lst (.cons .lst .nil)))))) (.cons .val (.cons .val .nil))) ?_;replace h:=Q8 h;obtain ⟨a44,h⟩:=h;replace h:=Q8 h;obtain ⟨a45,h⟩:=h;simp [-Q0,-Q5,-Q1,-Q6,-Q2,unk,unA,unE,unT,unC,flat,at_I a40,at_I a41,at_I a42,at_I a44,at_I a45];(repeat with_reducible refine sdQ ?_);replace h:=bind_some h;obtain ⟨v46,hv46,h⟩:=h;refine Q3 (QU _ _ _ v46 hv46) (.cons (.aggL (.cons .val (.cons .lst (.cons .lst (.cons .lst (.cons .lst .nil)))))) (.cons .val (.cons .val .nil))) ?_;simp [-Q0,-Q5,-Q1,-Q6,-Q2,unk,unA,unE,unT,unC,flat,at_I a40,at_I a41,at_I a42,at_I a44,at_I a45];(repeat refine sdQ ?_);refine hK _ ?_;clear hK K;refine tn ?_;refine Q9 (st':=⟨[(1,lI unit_),(2,lI join_),(3,.adr 0 0 0),(7,.adr 1 0 0),(8,iV s25),(79,.val (.bool (v43 != v46)))],[(0,.mix 12 [(Fn.cells true t_)]),(1,.mix 5 [(Cat.cells true t_.s)])],2⟩) (wkQ9 [(0,0),(1,1)]) ?_;refine Qe rfl (fun g=>?_) fun g=>?_
   ·have g47:¬ (v43=v46):=gQ;clear g;replace h:=if_l g47 h;refine Q4 ?_;refine runQ hN fun K hK=>?_;simp [-Q0,-Q5,-Q1,-Q6,-Q2];(repeat refine sdQ ?_);refine hK _ ?_;clear hK K;refine tn ?_;refine Q9 (st':=⟨[(6,.val (.bool false))],[],0⟩) (wkQ9 []) ?_;refine Qi ?_;refine br ?_;refine tr ?_;refine lr ?_;refine br ?_;refine tr ?_;cases h;have q:_=e1:=hk25;have h:=h1;rw [← q] at h;clear q;(try dsimp only at h);have hr:=Option.some.inj h;rw [← hr];refine ⟨_,(.tmp .nil),?_⟩;refine ⟨(.one rfl rfl .nil),[.val (.bool false)],[],by simp [Cat.cells,Fn.cells,UA,U1,IA,I1,LA,L1,BA,B1,EA,E1,E2,eB,eI,eL],by simp,(UpL.refl _)⟩
   have g47:¬ (¬ (v43=v46)):=gQ;clear g;replace h:=if_r g47 h;refine Qf ?_;refine bn ?_;refine tn ?_;refine runQ hN fun K hK=>?_;replace h:=Q8 h;obtain ⟨a48,h⟩:=h;simp [-Q0,-Q5,-Q1,-Q6,-Q2,Qs a48];(repeat refine sdQ ?_);refine hK _ ?_;clear hK K;cases h;exact rn (s':=s25+1) hk25 (wkQ9 [(0,0),(1,1)])
  have g26:¬ (s25<t_.s.n):=gQ;clear g;replace h:=if_r g26 h;refine Qp ?_;refine tx ?_;refine lx ?_;refine bh ?_;cases h;exact jn (b:=()) hk25 (wkQ9 [])
 intro b1 hb1;have h:=h1;try rw [← hb1] at h
 clear h1;try dsimp only at h
 refine Q4 ?_;refine runQ hN fun K hK=>?_;simp [-Q0,-Q5,-Q1,-Q6,-Q2];repeat refine sdQ ?_
 refine hK _ ?_;clear hK K;refine tn ?_;refine Q9 (st':=⟨[(6,.val (.bool true))],[],0⟩) (wkQ9 []) ?_;refine Qi ?_;have hr:=Option.some.inj h;rw [← hr];refine ⟨_,(.tmp .nil),?_⟩;refine ⟨(.one rfl rfl .nil),[.val (.bool true)],[],by simp [Cat.cells,Fn.cells,UA,U1,IA,I1,LA,L1,BA,B1,EA,E1,E2,eB,eI,eL],by simp,(UpL.refl _)⟩
attribute [local simp] eL eI Qm Q1x Fn.cells
noncomputable def Q39 (f_:Fn):Option Fn :=
 (Q1N f_ f_).bind fun v1 =>
 some v1
theorem Q82 (f_:Fn) (r:Fn) (h:Q39 f_=some r):Contract Tryz.prog 107 [.agg (f_.cells true)] (.agg (r.cells true)):=by
 refine Qd (rvs:=[.cell 2 33]) (rs:=[.agg (r.cells true)]) Tryz.func107 rfl rfl rfl rfl (by simp [Tryz.f107]) fun F hN hP=>?_;unfold Q39 at h;refine Q4 ?_;refine runQ hN fun K hK=>?_;simp [-Q0,-Q5,-Q1,-Q6,-Q2];repeat refine sdQ ?_
 refine hK _ ?_;clear hK K;refine tn ?_;refine Q9 (st':=⟨[(1,.adr 0 0 0),(2,.adr 1 0 0)],[(0,.mix 12 [(Fn.cells true f_)]),(1,.mix 12 [[iV 0,.val (.slice none 0 0),.val (.slice none 0 0),.val (.slice none 0 0),.val (.slice none 0 0),iV 0,.val (.slice none 0 0),.val (.slice none 0 0),.val (.slice none 0 0),.val (.slice none 0 0),.val (.slice none 0 0),.val (.slice none 0 0)]])],2⟩) (wkQ9 [(0,0),(1,1)]) ?_;refine Q4 ?_;refine runQ hN fun K hK=>?_;simp [-Q0,-Q5,-Q1,-Q6,-Q2];repeat with_reducible refine sdQ ?_
 replace h:=bind_some h;obtain ⟨v1,hv1,h⟩:=h;refine Q3 (Q3D _ _ v1 hv1) (.cons (.aggL (.cons .val (.cons .lst (.cons .lst (.cons .lst (.cons .lst (.cons .val (.cons .lst (.cons .lst (.cons .lst (.cons .lst (.cons .lst (.cons .lst .nil))))))))))))) (.cons (.aggL (.cons .val (.cons .lst (.cons .lst (.cons .lst (.cons .lst (.cons .val (.cons .lst (.cons .lst (.cons .lst (.cons .lst (.cons .lst (.cons .lst .nil))))))))))))) .nil)) ?_;simp [-Q0,-Q5,-Q1,-Q6,-Q2,unk,unA,unE,unT,unC,flat];repeat refine sdQ ?_
 refine hK _ ?_;clear hK K;refine tn ?_;refine Q9 (st':=⟨[(2,.adr 0 0 0)],[(0,.mix 12 [[iV v1.s.n,.own 1 0 v1.s.fr.length,.own 2 0 v1.s.to.length,.own 3 0 v1.s.id.length,.own 4 0 v1.s.cs.length,iV v1.t.n,.own 5 0 v1.t.fr.length,.own 6 0 v1.t.to.length,.own 7 0 v1.t.id.length,.own 8 0 v1.t.cs.length,.own 9 0 v1.ob.length,.own 10 0 v1.ar.length]]),(1,rI v1.s.fr),(2,rI v1.s.to),(3,rI v1.s.id),(4,.row 1 (Ls v1.s.cs)),(5,rI v1.t.fr),(6,rI v1.t.to),(7,rI v1.t.id),(8,.row 1 (Ls v1.t.cs)),(9,rI v1.ob),(10,rI v1.ar)],11⟩) (wkQ9 [(1,0),(3,1),(4,2),(5,3),(6,4),(8,5),(9,6),(10,7),(11,8),(12,9),(13,10)]) ?_;refine Qi ?_;have hr:=Option.some.inj h;rw [← hr];refine ⟨_,(.cell Q3K rfl rfl rfl (by simp) (by simp) .nil),?_⟩;refine ⟨(.agg rfl .nil),[iV v1.s.n,lI v1.s.fr,lI v1.s.to,lI v1.s.id,.lst true 1 (Ls v1.s.cs),iV v1.t.n,lI v1.t.fr,lI v1.t.to,lI v1.t.id,.lst true 1 (Ls v1.t.cs),lI v1.ob,lI v1.ar],[1,2,3,4,5,6,7,8,9,10],by simp [Fn.cells,UA,U1,IA,I1,LA,L1,BA,B1,EA,E1,E2,eB,eI,eL],by simp,(UpL.refl _)⟩
end Go.Vc.T
