/- A part of the proof: a verified generator of conditions, and what each function of the program does. -/
import Derived.Test.YtjfnifbgmcjjkaaS9
set_option maxRecDepth 100000
set_option maxHeartbeats 4000000
set_option linter.unusedSimpArgs false
set_option linter.unusedVariables false

namespace Go.Vc.T
open Go Go.Vc Go.Proofs
attribute [local simp] eL eI Qs Q1B Ql Fn.cells XL07State.cells
noncomputable def QP (k:Nat) (q0_:Fn) (q1_:Fn) (q2_:Bool) (q3_:Int) (q4_:List (List Int)) (q5_:List Int):Option (List (List Int)):=match k with
 | 0=>none
 | k+1 =>
  ass (B64 ((q5_.length:Int) - 1)) <|
  (QA (σ:=Int × Int) (ε:=Int ⊕ (List (List Int))) (fun s12 =>
   if s12.2 ≥ 0 then
    (
     ass (0≤s12.2∧s12.2<(q5_.length:Int)) <|
     if (ix q5_ s12.2)=(-1) then
      (Q19 (⟨q0_,q1_,q2_,q3_,q4_⟩:XL07State) q5_ s12.2).bind fun v17 =>
      if (v17.length:Int)=0 then
       some (Sum.inr q4_)
      else
       some (Sum.inl s12.2)
     else
      some (Sum.inl s12.1):Option (Int ⊕ (List (List Int)))).bind fun e14 =>
    match e14 with
    | .inl b14 =>
     ass (B64 (s12.2 - 1)) <|
     some (Ctl.next (b14,s12.2 - 1))
    | .inr p14 =>
     some (Ctl.ret (Sum.inr p14))
   else
    some (Ctl.ret (Sum.inl s12.1))) fuel ((-1),(q5_.length:Int) - 1)).bind fun e3 =>
  match e3 with
  | .inl b3 =>
   if b3<0 then
    (QG q5_).bind fun v21 =>
    ass ((q4_++[v21]).length≤1073741824) <|
    some (q4_++[v21])
   else
    (Q19 (⟨q0_,q1_,q2_,q3_,q4_⟩:XL07State) q5_ b3).bind fun v23 =>
    (QA (σ:=List (List Int) × Int) (ε:=List (List Int)) (fun s32 =>
     (
      if s32.2<(v23.length:Int) then
       some (decide ((s32.1.length:Int)<q3_))
      else
       some false:Option (Bool)).bind fun b33 =>
     if b33=true then
      (QG q5_).bind fun v36 =>
      ass (0≤s32.2∧s32.2<(v23.length:Int)) <|
      ass (0≤b3∧b3<(v36.length:Int)) <|
      (QP k q0_ q1_ q2_ q3_ s32.1 (v36.set b3.toNat (ix v23 s32.2))).bind fun v39 =>
      ass (B64 (s32.2+1)) <|
      some (Ctl.next (v39,s32.2+1))
     else
      some (Ctl.ret s32.1)) fuel (q4_,0)).bind fun p32 =>
    some p32
  | .inr p3 =>
   some p3
theorem Q3B:∀ (k:Nat) (q0_:Fn) (q1_:Fn) (q2_:Bool) (q3_:Int) (q4_:List (List Int)) (q5_:List Int) (vR:List (List Int)) (h:QP k q0_ q1_ q2_ q3_ q4_ q5_=some vR),ICon Try.prog 146 [.adr 0 0 0,.own 2 0 q5_.length] (fun id=>look id [(0,.mix 27 [[iV q0_.s.n,lI q0_.s.fr,lI q0_.s.to,lI q0_.s.id,.lst true 1 (Ls q0_.s.cs),iV q0_.t.n,lI q0_.t.fr,lI q0_.t.to,lI q0_.t.id,.lst true 1 (Ls q0_.t.cs),lI q0_.ob,lI q0_.ar,iV q1_.s.n,lI q1_.s.fr,lI q1_.s.to,lI q1_.s.id,.lst true 1 (Ls q1_.s.cs),iV q1_.t.n,lI q1_.t.fr,lI q1_.t.to,lI q1_.t.id,.lst true 1 (Ls q1_.t.cs),lI q1_.ob,lI q1_.ar,.val (.bool q2_),iV q3_,.own 1 0 q4_.length]]),(1,.row 1 (Ls q4_)),(2,rI q5_)]) 3 { v:=.tup [],set:=[(0,.mix 27 [[iV q0_.s.n,lI q0_.s.fr,lI q0_.s.to,lI q0_.s.id,.lst true 1 (Ls q0_.s.cs),iV q0_.t.n,lI q0_.t.fr,lI q0_.t.to,lI q0_.t.id,.lst true 1 (Ls q0_.t.cs),lI q0_.ob,lI q0_.ar,iV q1_.s.n,lI q1_.s.fr,lI q1_.s.to,lI q1_.s.id,.lst true 1 (Ls q1_.s.cs),iV q1_.t.n,lI q1_.t.fr,lI q1_.t.to,lI q1_.t.id,.lst true 1 (Ls q1_.t.cs),lI q1_.ob,lI q1_.ar,.val (.bool q2_),iV q3_,.own 3 0 vR.length]])],del:=[1],new:=[(3,.row 1 (Ls vR))],cnt:=1 }:=by
 intro k
 induction k with
 | zero =>
  intro q0_ q1_ q2_ q3_ q4_ q5_ vR h;simp [QP] at h
 | succ k ih =>
  intro q0_ q1_ q2_ q3_ q4_ q5_ vR h;refine Q2h (ts:=[]) (H:=[(0,.mix 27 [[iV q0_.s.n,lI q0_.s.fr,lI q0_.s.to,lI q0_.s.id,.lst true 1 (Ls q0_.s.cs),iV q0_.t.n,lI q0_.t.fr,lI q0_.t.to,lI q0_.t.id,.lst true 1 (Ls q0_.t.cs),lI q0_.ob,lI q0_.ar,iV q1_.s.n,lI q1_.s.fr,lI q1_.s.to,lI q1_.s.id,.lst true 1 (Ls q1_.s.cs),iV q1_.t.n,lI q1_.t.fr,lI q1_.t.to,lI q1_.t.id,.lst true 1 (Ls q1_.t.cs),lI q1_.ob,lI q1_.ar,.val (.bool q2_),iV q3_,.own 1 0 q4_.length]]),(1,.row 1 (Ls q4_)),(2,rI q5_)]) Try.func146 rfl rfl rfl (by simp [Try.f146]) (by simp) (Q5c (by simp)) (newI (by rfl)) fun F hN hP=>?_;unfold QP at h;try dsimp only at h
  refine Q3 ?_;refine Qm [] mo (by rw [hN];decide) fun K hK=>?_;simp [-Q0,-Q5,-Q1,-Q6,-Q2];repeat refine sdQ ?_
  refine hK _ ?_;clear hK K;refine tn ?_;refine Q8 (st':=⟨[(0,.adr 0 0 0),(1,.own 2 0 q5_.length),(4,iV (-1))],[(0,.mix 27 [[iV q0_.s.n,lI q0_.s.fr,lI q0_.s.to,lI q0_.s.id,.lst true 1 (Ls q0_.s.cs),iV q0_.t.n,lI q0_.t.fr,lI q0_.t.to,lI q0_.t.id,.lst true 1 (Ls q0_.t.cs),lI q0_.ob,lI q0_.ar,iV q1_.s.n,lI q1_.s.fr,lI q1_.s.to,lI q1_.s.id,.lst true 1 (Ls q1_.s.cs),iV q1_.t.n,lI q1_.t.fr,lI q1_.t.to,lI q1_.t.id,.lst true 1 (Ls q1_.t.cs),lI q1_.ob,lI q1_.ar,.val (.bool q2_),iV q3_,.own 1 0 q4_.length]]),(1,.row 1 (Ls q4_)),(2,rI q5_)],3⟩) (Wk.rP _ [(0,0),(1,1),(2,2)] hP (by rfl) (by simp [hhOk,back,Fn.cells,XL07State.cells,UA,U1,IA,I1,LA,L1,BA,B1,EA,E1,E2,eB,eI,eL,Qh _ Ql _ (fun _=>rfl)])) ?_;refine Q3 ?_;refine Q3 ?_;refine Qm [] mo (by rw [hN];decide) fun K hK=>?_;replace h:=Q4 h;obtain ⟨a2,h⟩:=h;simp [-Q0,-Q5,-Q1,-Q6,-Q2,Qt a2];repeat refine sdQ ?_
  refine hK _ ?_;clear hK K;refine tn ?_;refine Q8 (st':=⟨[(0,.adr 0 0 0),(1,.own 2 0 q5_.length),(4,iV (-1)),(5,iV ((q5_.length:Int) - 1))],[(0,.mix 27 [[iV q0_.s.n,lI q0_.s.fr,lI q0_.s.to,lI q0_.s.id,.lst true 1 (Ls q0_.s.cs),iV q0_.t.n,lI q0_.t.fr,lI q0_.t.to,lI q0_.t.id,.lst true 1 (Ls q0_.t.cs),lI q0_.ob,lI q0_.ar,iV q1_.s.n,lI q1_.s.fr,lI q1_.s.to,lI q1_.s.id,.lst true 1 (Ls q1_.s.cs),iV q1_.t.n,lI q1_.t.fr,lI q1_.t.to,lI q1_.t.id,.lst true 1 (Ls q1_.t.cs),lI q1_.ob,lI q1_.ar,.val (.bool q2_),iV q3_,.own 1 0 q4_.length]]),(1,.row 1 (Ls q4_)),(2,rI q5_)],3⟩) (Wk.rP _ [(0,0),(1,1),(2,2)] hP (by rfl) (by simp [hhOk,back,Fn.cells,XL07State.cells,UA,U1,IA,I1,LA,L1,BA,B1,EA,E1,E2,eB,eI,eL,Qh _ Ql _ (fun _=>rfl)])) ?_;replace h:=bind_some h;obtain ⟨e3,h,h3⟩:=h;refine Qj (fun b3:Int=>⟨[(0,.adr 0 0 0),(1,.own 2 0 q5_.length),(4,iV b3)],[(0,.mix 27 [[iV q0_.s.n,lI q0_.s.fr,lI q0_.s.to,lI q0_.s.id,.lst true 1 (Ls q0_.s.cs),iV q0_.t.n,lI q0_.t.fr,lI q0_.t.to,lI q0_.t.id,.lst true 1 (Ls q0_.t.cs),lI q0_.ob,lI q0_.ar,iV q1_.s.n,lI q1_.s.fr,lI q1_.s.to,lI q1_.s.id,.lst true 1 (Ls q1_.s.cs),iV q1_.t.n,lI q1_.t.fr,lI q1_.t.to,lI q1_.t.id,.lst true 1 (Ls q1_.t.cs),lI q1_.ob,lI q1_.ar,.val (.bool q2_),iV q3_,.own 1 0 q4_.length]]),(1,.row 1 (Ls q4_)),(2,rI q5_)],3⟩) (fun b3=>Sum.inl b3=e3) ?_ ?_
  ·refine Qa ?_;refine Qx h (fun s12:Int × Int=>⟨[(0,.adr 0 0 0),(1,.own 2 0 q5_.length),(4,iV s12.1),(5,iV s12.2)],[(0,.mix 27 [[iV q0_.s.n,lI q0_.s.fr,lI q0_.s.to,lI q0_.s.id,.lst true 1 (Ls q0_.s.cs),iV q0_.t.n,lI q0_.t.fr,lI q0_.t.to,lI q0_.t.id,.lst true 1 (Ls q0_.t.cs),lI q0_.ob,lI q0_.ar,iV q1_.s.n,lI q1_.s.fr,lI q1_.s.to,lI q1_.s.id,.lst true 1 (Ls q1_.s.cs),iV q1_.t.n,lI q1_.t.fr,lI q1_.t.to,lI q1_.t.id,.lst true 1 (Ls q1_.t.cs),lI q1_.ob,lI q1_.ar,.val (.bool q2_),iV q3_,.own 1 0 q4_.length]]),(1,.row 1 (Ls q4_)),(2,rI q5_)],3⟩) (Wk.rP _ [(0,0),(1,1),(2,2)] hP (by rfl) (by simp [hhOk,back,Fn.cells,XL07State.cells,UA,U1,IA,I1,LA,L1,BA,B1,EA,E1,E2,eB,eI,eL,Qh _ Ql _ (fun _=>rfl)])) ?_;clear h;intro k12 s12 c12 h hk12;refine Q3 ?_;refine Q3 ?_;refine Qm [] mo (by rw [hN];decide) fun K hK=>?_;simp [-Q0,-Q5,-Q1,-Q6,-Q2];(repeat refine sdQ ?_);refine hK _ ?_;clear hK K;refine tn ?_;refine Q8 (st':=⟨[(0,.adr 0 0 0),(1,.own 2 0 q5_.length),(4,iV s12.1),(5,iV s12.2),(13,.val (.bool (decide (s12.2 ≥ 0))))],[(0,.mix 27 [[iV q0_.s.n,lI q0_.s.fr,lI q0_.s.to,lI q0_.s.id,.lst true 1 (Ls q0_.s.cs),iV q0_.t.n,lI q0_.t.fr,lI q0_.t.to,lI q0_.t.id,.lst true 1 (Ls q0_.t.cs),lI q0_.ob,lI q0_.ar,iV q1_.s.n,lI q1_.s.fr,lI q1_.s.to,lI q1_.s.id,.lst true 1 (Ls q1_.s.cs),iV q1_.t.n,lI q1_.t.fr,lI q1_.t.to,lI q1_.t.id,.lst true 1 (Ls q1_.t.cs),lI q1_.ob,lI q1_.ar,.val (.bool q2_),iV q3_,.own 1 0 q4_.length]]),(1,.row 1 (Ls q4_)),(2,rI q5_)],3⟩) (Wk.rP _ [(0,0),(1,1),(2,2)] hP (by rfl) (by simp [hhOk,back,Fn.cells,XL07State.cells,UA,U1,IA,I1,LA,L1,BA,B1,EA,E1,E2,eB,eI,eL,Qh _ Ql _ (fun _=>rfl)])) ?_;refine Qc rfl (fun g=>?_) fun g=>?_
   ·have g13:s12.2 ≥ 0:=gQ;clear g;replace h:=if_l g13 h;refine Qd ?_;refine tn ?_;refine Q3 ?_;replace h:=bind_some h;obtain ⟨e14,h,h14⟩:=h;refine Qj (fun b14:Int=>⟨[(0,.adr 0 0 0),(1,.own 2 0 q5_.length),(4,iV b14),(5,iV s12.2)],[(0,.mix 27 [[iV q0_.s.n,lI q0_.s.fr,lI q0_.s.to,lI q0_.s.id,.lst true 1 (Ls q0_.s.cs),iV q0_.t.n,lI q0_.t.fr,lI q0_.t.to,lI q0_.t.id,.lst true 1 (Ls q0_.t.cs),lI q0_.ob,lI q0_.ar,iV q1_.s.n,lI q1_.s.fr,lI q1_.s.to,lI q1_.s.id,.lst true 1 (Ls q1_.s.cs),iV q1_.t.n,lI q1_.t.fr,lI q1_.t.to,lI q1_.t.id,.lst true 1 (Ls q1_.t.cs),lI q1_.ob,lI q1_.ar,.val (.bool q2_),iV q3_,.own 1 0 q4_.length]]),(1,.row 1 (Ls q4_)),(2,rI q5_)],3⟩) (fun b14=>Sum.inl b14=e14) ?_ ?_
    ·refine Qa ?_;refine Q3 ?_;refine Qm [] mo (by rw [hN];decide) fun K hK=>?_;replace h:=Q4 h;obtain ⟨a15,h⟩:=h;simp [-Q0,-Q5,-Q1,-Q6,-Q2,at_I a15];(repeat refine sdQ ?_);refine hK _ ?_;clear hK K;refine tn ?_;refine Q8 (st':=⟨[(0,.adr 0 0 0),(1,.own 2 0 q5_.length),(4,iV s12.1),(5,iV s12.2),(20,.val (.bool ((ix q5_ s12.2) == (-1))))],[(0,.mix 27 [[iV q0_.s.n,lI q0_.s.fr,lI q0_.s.to,lI q0_.s.id,.lst true 1 (Ls q0_.s.cs),iV q0_.t.n,lI q0_.t.fr,lI q0_.t.to,lI q0_.t.id,.lst true 1 (Ls q0_.t.cs),lI q0_.ob,lI q0_.ar,iV q1_.s.n,lI q1_.s.fr,lI q1_.s.to,lI q1_.s.id,.lst true 1 (Ls q1_.s.cs),iV q1_.t.n,lI q1_.t.fr,lI q1_.t.to,lI q1_.t.id,.lst true 1 (Ls q1_.t.cs),lI q1_.ob,lI q1_.ar,.val (.bool q2_),iV q3_,.own 1 0 q4_.length]]),(1,.row 1 (Ls q4_)),(2,rI q5_)],3⟩) (Wk.rP _ [(0,0),(1,1),(2,2)] hP (by rfl) (by simp [hhOk,back,Fn.cells,XL07State.cells,UA,U1,IA,I1,LA,L1,BA,B1,EA,E1,E2,eB,eI,eL,Qh _ Ql _ (fun _=>rfl)])) ?_;refine Qc rfl (fun g=>?_) fun g=>?_
     ·have g16:(ix q5_ s12.2)=(-1):=gQ;clear g;replace h:=if_l g16 h;refine Q3 ?_;refine Qm [] mo (by rw [hN];decide) fun K hK=>?_;simp [-Q0,-Q5,-Q1,-Q6,-Q2];(repeat refine sdQ ?_);refine hK _ ?_;clear hK K;refine tn ?_;refine Q8 (st':=⟨[(0,.adr 0 0 0),(1,.own 2 0 q5_.length),(4,iV s12.2),(5,iV s12.2)],[(0,.mix 27 [[iV q0_.s.n,lI q0_.s.fr,lI q0_.s.to,lI q0_.s.id,.lst true 1 (Ls q0_.s.cs),iV q0_.t.n,lI q0_.t.fr,lI q0_.t.to,lI q0_.t.id,.lst true 1 (Ls q0_.t.cs),lI q0_.ob,lI q0_.ar,iV q1_.s.n,lI q1_.s.fr,lI q1_.s.to,lI q1_.s.id,.lst true 1 (Ls q1_.s.cs),iV q1_.t.n,lI q1_.t.fr,lI q1_.t.to,lI q1_.t.id,.lst true 1 (Ls q1_.t.cs),lI q1_.ob,lI q1_.ar,.val (.bool q2_),iV q3_,.own 1 0 q4_.length]]),(1,.row 1 (Ls q4_)),(2,rI q5_)],3⟩) (Wk.rP _ [(0,0),(1,1),(2,2)] hP (by rfl) (by simp [hhOk,back,Fn.cells,XL07State.cells,UA,U1,IA,I1,LA,L1,BA,B1,EA,E1,E2,eB,eI,eL,Qh _ Ql _ (fun _=>rfl)])) ?_;refine Q3 ?_;refine Qm [] mo (by rw [hN];decide) fun K hK=>?_;simp [-Q0,-Q5,-Q1,-Q6,-Q2];(repeat with_reducible refine sdQ ?_);replace h:=bind_some h;obtain ⟨v17,hv17,h⟩:=h;refine QE (fz:=[]) (Q3A _ _ _ v17 hv17) (.cons (.field rfl (by simp [XL07State.cells]) (.cons .val (.cons .lst (.cons .lst (.cons .lst (.cons .lst (.cons .val (.cons .lst (.cons .lst (.cons .lst (.cons .lst (.cons .lst (.cons .lst (.cons .val (.cons .lst (.cons .lst (.cons .lst (.cons .lst (.cons .val (.cons .lst (.cons .lst (.cons .lst (.cons .lst (.cons .lst (.cons .lst (.cons .val (.cons .val (.cons (.whole (by simp) (by simp) (by simp)) .nil)))))))))))))))))))))))))))) (.cons (.whole (by simp) (by simp) (by simp)) (.cons .val .nil))) ?_;simp [-Q0,-Q5,-Q1,-Q6,-Q2,unk,unA,unE,unT,unC,flat];(repeat refine sdQ ?_);refine hK _ ?_;clear hK K;refine tn ?_;refine Q8 (st':=⟨[(0,.adr 0 0 0),(1,.own 2 0 q5_.length),(4,iV s12.2),(5,iV s12.2),(27,.val (.bool ((v17.length:Int) == 0)))],[(0,.mix 27 [[iV q0_.s.n,lI q0_.s.fr,lI q0_.s.to,lI q0_.s.id,.lst true 1 (Ls q0_.s.cs),iV q0_.t.n,lI q0_.t.fr,lI q0_.t.to,lI q0_.t.id,.lst true 1 (Ls q0_.t.cs),lI q0_.ob,lI q0_.ar,iV q1_.s.n,lI q1_.s.fr,lI q1_.s.to,lI q1_.s.id,.lst true 1 (Ls q1_.s.cs),iV q1_.t.n,lI q1_.t.fr,lI q1_.t.to,lI q1_.t.id,.lst true 1 (Ls q1_.t.cs),lI q1_.ob,lI q1_.ar,.val (.bool q2_),iV q3_,.own 1 0 q4_.length]]),(1,.row 1 (Ls q4_)),(2,rI q5_)],3⟩) (Wk.rP _ [(0,0),(1,1),(2,2)] hP (by rfl) (by simp [hhOk,back,Fn.cells,XL07State.cells,UA,U1,IA,I1,LA,L1,BA,B1,EA,E1,E2,eB,eI,eL,Qh _ Ql _ (fun _=>rfl)])) ?_;refine Qc rfl (fun g=>?_) fun g=>?_
      ·have g18:(v17.length:Int)=0:=gQ;clear g;replace h:=if_l g18 h;refine Qk ?_;refine br ?_;refine tr ?_;refine lr ?_;refine br ?_;refine tr ?_;cases h;have h:=h14;(try dsimp only at h);cases h;have q:_=e3:=hk12;have h:=h3;rw [← q] at h;clear q;(try dsimp only at h);cases h;first|refine iw_r (st':=⟨[],[(0,.mix 27 [[iV q0_.s.n,lI q0_.s.fr,lI q0_.s.to,lI q0_.s.id,.lst true 1 (Ls q0_.s.cs),iV q0_.t.n,lI q0_.t.fr,lI q0_.t.to,lI q0_.t.id,.lst true 1 (Ls q0_.t.cs),lI q0_.ob,lI q0_.ar,iV q1_.s.n,lI q1_.s.fr,lI q1_.s.to,lI q1_.s.id,.lst true 1 (Ls q1_.s.cs),iV q1_.t.n,lI q1_.t.fr,lI q1_.t.to,lI q1_.t.id,.lst true 1 (Ls q1_.t.cs),lI q1_.ob,lI q1_.ar,.val (.bool q2_),iV q3_,.own 3 0 q4_.length]]),(2,rI q5_),(3,.row 1 (Ls q4_))],4⟩) ?_ ?_|refine iw_n (st':=⟨[],[(0,.mix 27 [[iV q0_.s.n,lI q0_.s.fr,lI q0_.s.to,lI q0_.s.id,.lst true 1 (Ls q0_.s.cs),iV q0_.t.n,lI q0_.t.fr,lI q0_.t.to,lI q0_.t.id,.lst true 1 (Ls q0_.t.cs),lI q0_.ob,lI q0_.ar,iV q1_.s.n,lI q1_.s.fr,lI q1_.s.to,lI q1_.s.id,.lst true 1 (Ls q1_.s.cs),iV q1_.t.n,lI q1_.t.fr,lI q1_.t.to,lI q1_.t.id,.lst true 1 (Ls q1_.t.cs),lI q1_.ob,lI q1_.ar,.val (.bool q2_),iV q3_,.own 3 0 q4_.length]]),(2,rI q5_),(3,.row 1 (Ls q4_))],4⟩) ?_ ?_
       ·exact Wk.rQ _ [(0,0),(1,3),(2,2)] hP (by rfl) (by simp [hhOk,back,Fn.cells,XL07State.cells,UA,U1,IA,I1,LA,L1,BA,B1,EA,E1,E2,eB,eI,eL,Qh _ Ql _ (fun _=>rfl)])
       exact ⟨by simp [Qw],by simp,by simp [Fn.cells,XL07State.cells]⟩
      have g18:¬ ((v17.length:Int)=0):=gQ;clear g;replace h:=if_r g18 h;refine Qd ?_;refine bn ?_;exact jn (b:=s12.2) (Option.some.inj h) (Wk.rP _ [(0,0),(1,1),(2,2)] hP (by rfl) (by simp [hhOk,back,Fn.cells,XL07State.cells,UA,U1,IA,I1,LA,L1,BA,B1,EA,E1,E2,eB,eI,eL,Qh _ Ql _ (fun _=>rfl)]))
     have g16:¬ ((ix q5_ s12.2)=(-1)):=gQ;clear g;replace h:=if_r g16 h;refine Qd ?_;refine bn ?_;exact jn (b:=s12.1) (Option.some.inj h) (Wk.rP _ [(0,0),(1,1),(2,2)] hP (by rfl) (by simp [hhOk,back,Fn.cells,XL07State.cells,UA,U1,IA,I1,LA,L1,BA,B1,EA,E1,E2,eB,eI,eL,Qh _ Ql _ (fun _=>rfl)]))
    intro b14 hb14;have h:=h14;(try rw [← hb14] at h);clear h14;(try dsimp only at h);refine Qm [] mo (by rw [hN];decide) fun K hK=>?_;replace h:=Q4 h;obtain ⟨a19,h⟩:=h;simp [-Q0,-Q5,-Q1,-Q6,-Q2,Qt a19];(repeat refine sdQ ?_);refine hK _ ?_;clear hK K;cases h;exact rn (s':=(b14,s12.2 - 1)) hk12 (Wk.rP _ [(0,0),(1,1),(2,2)] hP (by rfl) (by simp [hhOk,back,Fn.cells,XL07State.cells,UA,U1,IA,I1,LA,L1,BA,B1,EA,E1,E2,eB,eI,eL,Qh _ Ql _ (fun _=>rfl)]))
   have g13:¬ (s12.2 ≥ 0):=gQ;clear g;replace h:=if_r g13 h;refine Qq ?_;refine tx ?_;refine lx ?_;refine bh ?_;cases h;exact jn (b:=s12.1) hk12 (Wk.rP _ [(0,0),(1,1),(2,2)] hP (by rfl) (by simp [hhOk,back,Fn.cells,XL07State.cells,UA,U1,IA,I1,LA,L1,BA,B1,EA,E1,E2,eB,eI,eL,Qh _ Ql _ (fun _=>rfl)]))
  intro b3 hb3;have h:=h3;try rw [← hb3] at h
  clear h3;try dsimp only at h
  refine Q3 ?_;refine Q3 ?_;refine Qm [] mo (by rw [hN];decide) fun K hK=>?_;simp [-Q0,-Q5,-Q1,-Q6,-Q2];repeat refine sdQ ?_
  refine hK _ ?_;clear hK K;refine tn ?_;refine Q8 (st':=⟨[(0,.adr 0 0 0),(1,.own 2 0 q5_.length),(4,iV b3),(29,.val (.bool (decide (b3<0))))],[(0,.mix 27 [[iV q0_.s.n,lI q0_.s.fr,lI q0_.s.to,lI q0_.s.id,.lst true 1 (Ls q0_.s.cs),iV q0_.t.n,lI q0_.t.fr,lI q0_.t.to,lI q0_.t.id,.lst true 1 (Ls q0_.t.cs),lI q0_.ob,lI q0_.ar,iV q1_.s.n,lI q1_.s.fr,lI q1_.s.to,lI q1_.s.id,.lst true 1 (Ls q1_.s.cs),iV q1_.t.n,lI q1_.t.fr,lI q1_.t.to,lI q1_.t.id,.lst true 1 (Ls q1_.t.cs),lI q1_.ob,lI q1_.ar,.val (.bool q2_),iV q3_,.own 1 0 q4_.length]]),(1,.row 1 (Ls q4_)),(2,rI q5_)],3⟩) (Wk.rP _ [(0,0),(1,1),(2,2)] hP (by rfl) (by simp [hhOk,back,Fn.cells,XL07State.cells,UA,U1,IA,I1,LA,L1,BA,B1,EA,E1,E2,eB,eI,eL,Qh _ Ql _ (fun _=>rfl)])) ?_;refine Qc rfl (fun g=>?_) fun g=>?_
  ·have g20:b3<0:=gQ;clear g;replace h:=if_l g20 h;refine Q3 ?_;refine Qm [] mo (by rw [hN];decide) fun K hK=>?_;simp [-Q0,-Q5,-Q1,-Q6,-Q2];(repeat with_reducible refine sdQ ?_);replace h:=bind_some h;obtain ⟨v21,hv21,h⟩:=h;refine QE (fz:=[]) (Q1x _ v21 hv21) (.cons (.whole (by simp) (by simp) (by simp)) .nil) ?_;replace h:=Q4 h;obtain ⟨a22,h⟩:=h;(try simp only [List.length_append,List.length_cons,List.length_nil] at a22);simp [-Q0,-Q5,-Q1,-Q6,-Q2,unk,unA,unE,unT,unC,flat,a22];(repeat refine sdQ ?_);refine hK _ ?_;clear hK K;refine tn ?_;refine Q8 (st':=⟨[],[(0,.mix 27 [[iV q0_.s.n,lI q0_.s.fr,lI q0_.s.to,lI q0_.s.id,.lst true 1 (Ls q0_.s.cs),iV q0_.t.n,lI q0_.t.fr,lI q0_.t.to,lI q0_.t.id,.lst true 1 (Ls q0_.t.cs),lI q0_.ob,lI q0_.ar,iV q1_.s.n,lI q1_.s.fr,lI q1_.s.to,lI q1_.s.id,.lst true 1 (Ls q1_.s.cs),iV q1_.t.n,lI q1_.t.fr,lI q1_.t.to,lI q1_.t.id,.lst true 1 (Ls q1_.t.cs),lI q1_.ob,lI q1_.ar,.val (.bool q2_),iV q3_,.own 3 0 ((q4_++[v21]).length)]]),(2,rI q5_),(3,.row 1 (Ls (q4_++[v21])))],4⟩) (Wk.rP _ [(0,0),(5,3),(2,2),(1,1)] hP (by rfl) (by simp [hhOk,back,Fn.cells,XL07State.cells,UA,U1,IA,I1,LA,L1,BA,B1,EA,E1,E2,eB,eI,eL,Qh _ Ql _ (fun _=>rfl)])) ?_;refine Qk ?_;refine tr ?_;cases h;first|refine iw_r (st':=⟨[],[(0,.mix 27 [[iV q0_.s.n,lI q0_.s.fr,lI q0_.s.to,lI q0_.s.id,.lst true 1 (Ls q0_.s.cs),iV q0_.t.n,lI q0_.t.fr,lI q0_.t.to,lI q0_.t.id,.lst true 1 (Ls q0_.t.cs),lI q0_.ob,lI q0_.ar,iV q1_.s.n,lI q1_.s.fr,lI q1_.s.to,lI q1_.s.id,.lst true 1 (Ls q1_.s.cs),iV q1_.t.n,lI q1_.t.fr,lI q1_.t.to,lI q1_.t.id,.lst true 1 (Ls q1_.t.cs),lI q1_.ob,lI q1_.ar,.val (.bool q2_),iV q3_,.own 3 0 ((q4_++[v21]).length)]]),(2,rI q5_),(3,.row 1 (Ls (q4_++[v21])))],4⟩) ?_ ?_|refine iw_n (st':=⟨[],[(0,.mix 27 [[iV q0_.s.n,lI q0_.s.fr,lI q0_.s.to,lI q0_.s.id,.lst true 1 (Ls q0_.s.cs),iV q0_.t.n,lI q0_.t.fr,lI q0_.t.to,lI q0_.t.id,.lst true 1 (Ls q0_.t.cs),lI q0_.ob,lI q0_.ar,iV q1_.s.n,lI q1_.s.fr,lI q1_.s.to,lI q1_.s.id,.lst true 1 (Ls q1_.s.cs),iV q1_.t.n,lI q1_.t.fr,lI q1_.t.to,lI q1_.t.id,.lst true 1 (Ls q1_.t.cs),lI q1_.ob,lI q1_.ar,.val (.bool q2_),iV q3_,.own 3 0 ((q4_++[v21]).length)]]),(2,rI q5_),(3,.row 1 (Ls (q4_++[v21])))],4⟩) ?_ ?_
   ·exact Wk.rP _ [(0,0),(3,3),(2,2),(1,1)] hP (by rfl) (by simp [hhOk,back,Fn.cells,XL07State.cells,UA,U1,IA,I1,LA,L1,BA,B1,EA,E1,E2,eB,eI,eL,Qh _ Ql _ (fun _=>rfl)])
   exact ⟨by simp [Qw],by simp,by simp [Fn.cells,XL07State.cells]⟩
  have g20:¬ (b3<0):=gQ;clear g;replace h:=if_r g20 h;refine Qd ?_;refine tn ?_;refine Q3 ?_;refine Qm [] mo (by rw [hN];decide) fun K hK=>?_;simp [-Q0,-Q5,-Q1,-Q6,-Q2];repeat with_reducible refine sdQ ?_
  replace h:=bind_some h;obtain ⟨v23,hv23,h⟩:=h;refine QE (fz:=[]) (Q3A _ _ _ v23 hv23) (.cons (.field rfl (by simp [XL07State.cells]) (.cons .val (.cons .lst (.cons .lst (.cons .lst (.cons .lst (.cons .val (.cons .lst (.cons .lst (.cons .lst (.cons .lst (.cons .lst (.cons .lst (.cons .val (.cons .lst (.cons .lst (.cons .lst (.cons .lst (.cons .val (.cons .lst (.cons .lst (.cons .lst (.cons .lst (.cons .lst (.cons .lst (.cons .val (.cons .val (.cons (.whole (by simp) (by simp) (by simp)) .nil)))))))))))))))))))))))))))) (.cons (.whole (by simp) (by simp) (by simp)) (.cons .val .nil))) ?_;simp [-Q0,-Q5,-Q1,-Q6,-Q2,unk,unA,unE,unT,unC,flat];repeat refine sdQ ?_
  refine hK _ ?_;clear hK K;refine tn ?_;refine Q8 (st':=⟨[(0,.adr 0 0 0),(1,.own 2 0 q5_.length),(4,iV b3),(6,.own 3 0 v23.length)],[(0,.mix 27 [[iV q0_.s.n,lI q0_.s.fr,lI q0_.s.to,lI q0_.s.id,.lst true 1 (Ls q0_.s.cs),iV q0_.t.n,lI q0_.t.fr,lI q0_.t.to,lI q0_.t.id,.lst true 1 (Ls q0_.t.cs),lI q0_.ob,lI q0_.ar,iV q1_.s.n,lI q1_.s.fr,lI q1_.s.to,lI q1_.s.id,.lst true 1 (Ls q1_.s.cs),iV q1_.t.n,lI q1_.t.fr,lI q1_.t.to,lI q1_.t.id,.lst true 1 (Ls q1_.t.cs),lI q1_.ob,lI q1_.ar,.val (.bool q2_),iV q3_,.own 1 0 q4_.length]]),(1,.row 1 (Ls q4_)),(2,rI q5_),(3,rI v23)],4⟩) (Wk.rP _ [(0,0),(1,1),(2,2),(3,3)] hP (by rfl) (by simp [hhOk,back,Fn.cells,XL07State.cells,UA,U1,IA,I1,LA,L1,BA,B1,EA,E1,E2,eB,eI,eL,Qh _ Ql _ (fun _=>rfl)])) ?_;refine Q3 ?_;refine Qm [] mo (by rw [hN];decide) fun K hK=>?_;simp [-Q0,-Q5,-Q1,-Q6,-Q2];repeat refine sdQ ?_
  refine hK _ ?_;clear hK K;refine tn ?_;refine Q8 (st':=⟨[(0,.adr 0 0 0),(1,.own 2 0 q5_.length),(4,iV b3),(6,.own 3 0 v23.length),(7,iV 0)],[(0,.mix 27 [[iV q0_.s.n,lI q0_.s.fr,lI q0_.s.to,lI q0_.s.id,.lst true 1 (Ls q0_.s.cs),iV q0_.t.n,lI q0_.t.fr,lI q0_.t.to,lI q0_.t.id,.lst true 1 (Ls q0_.t.cs),lI q0_.ob,lI q0_.ar,iV q1_.s.n,lI q1_.s.fr,lI q1_.s.to,lI q1_.s.id,.lst true 1 (Ls q1_.s.cs),iV q1_.t.n,lI q1_.t.fr,lI q1_.t.to,lI q1_.t.id,.lst true 1 (Ls q1_.t.cs),lI q1_.ob,lI q1_.ar,.val (.bool q2_),iV q3_,.own 1 0 q4_.length]]),(1,.row 1 (Ls q4_)),(2,rI q5_),(3,rI v23)],4⟩) (Wk.rP _ [(0,0),(1,1),(2,2),(3,3)] hP (by rfl) (by simp [hhOk,back,Fn.cells,XL07State.cells,UA,U1,IA,I1,LA,L1,BA,B1,EA,E1,E2,eB,eI,eL,Qh _ Ql _ (fun _=>rfl)])) ?_;refine Qa ?_;replace h:=bind_some h;obtain ⟨e32,he32,h32⟩:=h;refine Qx he32 (fun s32:List (List Int) × Int=>⟨[(0,.adr 0 0 0),(1,.own 2 0 q5_.length),(4,iV b3),(6,.own 4 0 v23.length),(7,iV s32.2)],[(0,.mix 27 [[iV q0_.s.n,lI q0_.s.fr,lI q0_.s.to,lI q0_.s.id,.lst true 1 (Ls q0_.s.cs),iV q0_.t.n,lI q0_.t.fr,lI q0_.t.to,lI q0_.t.id,.lst true 1 (Ls q0_.t.cs),lI q0_.ob,lI q0_.ar,iV q1_.s.n,lI q1_.s.fr,lI q1_.s.to,lI q1_.s.id,.lst true 1 (Ls q1_.s.cs),iV q1_.t.n,lI q1_.t.fr,lI q1_.t.to,lI q1_.t.id,.lst true 1 (Ls q1_.t.cs),lI q1_.ob,lI q1_.ar,.val (.bool q2_),iV q3_,.own 3 0 s32.1.length]]),(2,rI q5_),(3,.row 1 (Ls s32.1)),(4,rI v23)],5⟩) (Wk.rQ _ [(0,0),(1,3),(2,2),(3,4)] hP (by rfl) (by simp [hhOk,back,Fn.cells,XL07State.cells,UA,U1,IA,I1,LA,L1,BA,B1,EA,E1,E2,eB,eI,eL,Qh _ Ql _ (fun _=>rfl)])) ?_;intro k32 s32 c32 h hk32;refine Q3 ?_;refine Q3 ?_;replace h:=bind_some h;obtain ⟨e33,h,h33⟩:=h;refine Qj (fun b33:Bool=>⟨[(0,.adr 0 0 0),(1,.own 2 0 q5_.length),(4,iV b3),(6,.own 4 0 v23.length),(7,iV s32.2),(60,.val (.bool b33))],[(0,.mix 27 [[iV q0_.s.n,lI q0_.s.fr,lI q0_.s.to,lI q0_.s.id,.lst true 1 (Ls q0_.s.cs),iV q0_.t.n,lI q0_.t.fr,lI q0_.t.to,lI q0_.t.id,.lst true 1 (Ls q0_.t.cs),lI q0_.ob,lI q0_.ar,iV q1_.s.n,lI q1_.s.fr,lI q1_.s.to,lI q1_.s.id,.lst true 1 (Ls q1_.s.cs),iV q1_.t.n,lI q1_.t.fr,lI q1_.t.to,lI q1_.t.id,.lst true 1 (Ls q1_.t.cs),lI q1_.ob,lI q1_.ar,.val (.bool q2_),iV q3_,.own 3 0 s32.1.length]]),(2,rI q5_),(3,.row 1 (Ls s32.1)),(4,rI v23)],5⟩) (fun b33=>b33=e33) ?_ ?_
  ·refine Qm [] mo (by rw [hN];decide) fun K hK=>?_;simp [-Q0,-Q5,-Q1,-Q6,-Q2];(repeat with_reducible refine sdQ ?_);refine Q3b (fun g=>?_) (fun g=>?_)
   ·have g34:s32.2<(v23.length:Int):=gQ;clear g;replace h:=if_l g34 h;simp [-Q0,-Q5,-Q1,-Q6,-Q2];(repeat refine sdQ ?_);refine hK _ ?_;exact jn (b:=decide ((s32.1.length:Int)<q3_)) (Option.some.inj h) (Wk.rP _ [(0,0),(3,3),(2,2),(4,4),(1,1)] hP (by rfl) (by simp [hhOk,back,Fn.cells,XL07State.cells,UA,U1,IA,I1,LA,L1,BA,B1,EA,E1,E2,eB,eI,eL,Qh _ Ql _ (fun _=>rfl)]))
   have g34:¬ (s32.2<(v23.length:Int)):=gQ;clear g;replace h:=if_r g34 h;simp [-Q0,-Q5,-Q1,-Q6,-Q2];(repeat refine sdQ ?_);refine hK _ ?_;exact jn (b:=false) (Option.some.inj h) (Wk.rP _ [(0,0),(3,3),(2,2),(4,4),(1,1)] hP (by rfl) (by simp [hhOk,back,Fn.cells,XL07State.cells,UA,U1,IA,I1,LA,L1,BA,B1,EA,E1,E2,eB,eI,eL,Qh _ Ql _ (fun _=>rfl)]))
  intro b33 hb33;have h:=h33;try rw [← hb33] at h
  clear h33;try dsimp only at h
  refine Qc rfl (fun g=>?_) fun g=>?_
  ·have g35:b33=true:=gQ;clear g;replace h:=if_l g35 h;refine Qd ?_;refine tn ?_;refine Q3 ?_;refine Qa ?_;refine Q3 ?_;refine Qm [] mo (by rw [hN];decide) fun K hK=>?_;simp [-Q0,-Q5,-Q1,-Q6,-Q2];(repeat with_reducible refine sdQ ?_);replace h:=bind_some h;obtain ⟨v36,hv36,h⟩:=h;refine QE (fz:=[]) (Q1x _ v36 hv36) (.cons (.whole (by simp) (by simp) (by simp)) .nil) ?_;simp [-Q0,-Q5,-Q1,-Q6,-Q2,unk,unA,unE,unT,unC,flat];(repeat refine sdQ ?_);refine hK _ ?_;clear hK K;refine tn ?_;refine Q8 (st':=⟨[(0,.adr 0 0 0),(1,.own 2 0 q5_.length),(4,iV b3),(6,.own 4 0 v23.length),(7,iV s32.2),(8,.own 5 0 v36.length)],[(0,.mix 27 [[iV q0_.s.n,lI q0_.s.fr,lI q0_.s.to,lI q0_.s.id,.lst true 1 (Ls q0_.s.cs),iV q0_.t.n,lI q0_.t.fr,lI q0_.t.to,lI q0_.t.id,.lst true 1 (Ls q0_.t.cs),lI q0_.ob,lI q0_.ar,iV q1_.s.n,lI q1_.s.fr,lI q1_.s.to,lI q1_.s.id,.lst true 1 (Ls q1_.s.cs),iV q1_.t.n,lI q1_.t.fr,lI q1_.t.to,lI q1_.t.id,.lst true 1 (Ls q1_.t.cs),lI q1_.ob,lI q1_.ar,.val (.bool q2_),iV q3_,.own 3 0 s32.1.length]]),(2,rI q5_),(3,.row 1 (Ls s32.1)),(4,rI v23),(5,rI v36)],6⟩) (Wk.rP _ [(0,0),(3,3),(2,2),(4,4),(5,5),(1,1)] hP (by rfl) (by simp [hhOk,back,Fn.cells,XL07State.cells,UA,U1,IA,I1,LA,L1,BA,B1,EA,E1,E2,eB,eI,eL,Qh _ Ql _ (fun _=>rfl)])) ?_;refine Q3 ?_;refine Qm [] mo (by rw [hN];decide) fun K hK=>?_;replace h:=Q4 h;obtain ⟨a37,h⟩:=h;replace h:=Q4 h;obtain ⟨a38,h⟩:=h;simp [-Q0,-Q5,-Q1,-Q6,-Q2,at_I a37,at_I a38];(repeat refine sdQ ?_);refine hK _ ?_;clear hK K;refine tn ?_;refine Q8 (st':=⟨[(0,.adr 0 0 0),(1,.own 2 0 q5_.length),(4,iV b3),(6,.own 4 0 v23.length),(7,iV s32.2),(8,.own 5 0 ((v36.set b3.toNat (ix v23 s32.2)).length))],[(0,.mix 27 [[iV q0_.s.n,lI q0_.s.fr,lI q0_.s.to,lI q0_.s.id,.lst true 1 (Ls q0_.s.cs),iV q0_.t.n,lI q0_.t.fr,lI q0_.t.to,lI q0_.t.id,.lst true 1 (Ls q0_.t.cs),lI q0_.ob,lI q0_.ar,iV q1_.s.n,lI q1_.s.fr,lI q1_.s.to,lI q1_.s.id,.lst true 1 (Ls q1_.s.cs),iV q1_.t.n,lI q1_.t.fr,lI q1_.t.to,lI q1_.t.id,.lst true 1 (Ls q1_.t.cs),lI q1_.ob,lI q1_.ar,.val (.bool q2_),iV q3_,.own 3 0 s32.1.length]]),(2,rI q5_),(3,.row 1 (Ls s32.1)),(4,rI v23),(5,rI (v36.set b3.toNat (ix v23 s32.2)))],6⟩) (Wk.rP _ [(0,0),(3,3),(2,2),(4,4),(5,5),(1,1)] hP (by rfl) (by simp [hhOk,back,Fn.cells,XL07State.cells,UA,U1,IA,I1,LA,L1,BA,B1,EA,E1,E2,eB,eI,eL,Qh _ Ql _ (fun _=>rfl)])) ?_;refine Q3n [] mo (by rw [hN];decide) fun K hK=>?_;simp [-Q0,-Q5,-Q1,-Q6,-Q2];(repeat with_reducible refine sdQ ?_);replace h:=bind_some h;obtain ⟨v39,hv39,h⟩:=h
   refine Q2s (fz:=[]) (ICon.frameL (e:={ v:=.tup [],set:=[(0,.mix 27 [[iV q0_.s.n,lI q0_.s.fr,lI q0_.s.to,lI q0_.s.id,.lst true 1 (Ls q0_.s.cs),iV q0_.t.n,lI q0_.t.fr,lI q0_.t.to,lI q0_.t.id,.lst true 1 (Ls q0_.t.cs),lI q0_.ob,lI q0_.ar,iV q1_.s.n,lI q1_.s.fr,lI q1_.s.to,lI q1_.s.id,.lst true 1 (Ls q1_.s.cs),iV q1_.t.n,lI q1_.t.fr,lI q1_.t.to,lI q1_.t.id,.lst true 1 (Ls q1_.t.cs),lI q1_.ob,lI q1_.ar,.val (.bool q2_),iV q3_,.own 6 0 v39.length]])],del:=[3],new:=[(6,.row 1 (Ls v39))],cnt:=1 }) (ih _ _ _ _ _ _ v39 hv39) [(0,0),(1,3),(2,5)] (by rfl) (by simp) (by simp [rl,rlL,rlLL,rlE,rlE',back,mxt,look,trm,List.range,List.range.loop,Qw,Fn.cells,XL07State.cells]) (by simp [rl,rlL,rlLL,rlE,rlE',back,mxt,look,trm,List.range,List.range.loop,Qw,Fn.cells,XL07State.cells]) (by simp [Q3f]) (by rfl) (by simp [rl,rlL,rlLL,rlE,rlE',back,mxt,look,trm,List.range,List.range.loop,Qw,Fn.cells,XL07State.cells]) (by simp [rl,rlL,rlLL,rlE,rlE',back,mxt,look,trm,List.range,List.range.loop,Qw,Fn.cells,XL07State.cells]) (by simp [rl,rlL,rlLL,rlE,rlE',back,mxt,look,trm,List.range,List.range.loop,Qw,Fn.cells,XL07State.cells]) (by simp [rl,rlL,rlLL,rlE,rlE',back,mxt,look,trm,List.range,List.range.loop,Qw,Fn.cells,XL07State.cells]) (by simp [Q3f]) (by rfl) (Q5c (by simp))) ?_;simp [-Q0,-Q5,-Q1,-Q6,-Q2,unk,unA,unE,unT,unC,flat];(repeat refine sdQ ?_);refine hK _ ?_;clear hK K;refine bn ?_;refine tn ?_;refine Q8 (st':=⟨[(0,.adr 0 0 0),(1,.own 2 0 q5_.length),(4,iV b3),(6,.own 4 0 v23.length),(7,iV s32.2)],[(0,.mix 27 [[iV q0_.s.n,lI q0_.s.fr,lI q0_.s.to,lI q0_.s.id,.lst true 1 (Ls q0_.s.cs),iV q0_.t.n,lI q0_.t.fr,lI q0_.t.to,lI q0_.t.id,.lst true 1 (Ls q0_.t.cs),lI q0_.ob,lI q0_.ar,iV q1_.s.n,lI q1_.s.fr,lI q1_.s.to,lI q1_.s.id,.lst true 1 (Ls q1_.s.cs),iV q1_.t.n,lI q1_.t.fr,lI q1_.t.to,lI q1_.t.id,.lst true 1 (Ls q1_.t.cs),lI q1_.ob,lI q1_.ar,.val (.bool q2_),iV q3_,.own 3 0 v39.length]]),(2,rI q5_),(3,.row 1 (Ls v39)),(4,rI v23)],5⟩) (Wk.rP _ [(0,0),(6,3),(2,2),(4,4),(1,1)] hP (by rfl) (by simp [hhOk,back,Fn.cells,XL07State.cells,UA,U1,IA,I1,LA,L1,BA,B1,EA,E1,E2,eB,eI,eL,Qh _ Ql _ (fun _=>rfl)])) ?_;refine Qm [] mo (by rw [hN];decide) fun K hK=>?_;replace h:=Q4 h;obtain ⟨a40,h⟩:=h;simp [-Q0,-Q5,-Q1,-Q6,-Q2,Qt a40];(repeat refine sdQ ?_);refine hK _ ?_;clear hK K;cases h;exact rn (s':=(v39,s32.2+1)) hk32 (Wk.rP _ [(0,0),(3,3),(2,2),(4,4),(1,1)] hP (by rfl) (by simp [hhOk,back,Fn.cells,XL07State.cells,UA,U1,IA,I1,LA,L1,BA,B1,EA,E1,E2,eB,eI,eL,Qh _ Ql _ (fun _=>rfl)]))
  have g35:¬ (b33=true):=gQ;clear g;replace h:=if_r g35 h;refine Qq ?_;refine tx ?_;refine lx ?_;refine bh ?_;cases h;have q:_=e32:=hk32;have h:=h32;rw [← q] at h;clear q;try dsimp only at h
  cases h;first|refine iw_r (st':=⟨[],[(0,.mix 27 [[iV q0_.s.n,lI q0_.s.fr,lI q0_.s.to,lI q0_.s.id,.lst true 1 (Ls q0_.s.cs),iV q0_.t.n,lI q0_.t.fr,lI q0_.t.to,lI q0_.t.id,.lst true 1 (Ls q0_.t.cs),lI q0_.ob,lI q0_.ar,iV q1_.s.n,lI q1_.s.fr,lI q1_.s.to,lI q1_.s.id,.lst true 1 (Ls q1_.s.cs),iV q1_.t.n,lI q1_.t.fr,lI q1_.t.to,lI q1_.t.id,.lst true 1 (Ls q1_.t.cs),lI q1_.ob,lI q1_.ar,.val (.bool q2_),iV q3_,.own 3 0 s32.1.length]]),(2,rI q5_),(3,.row 1 (Ls s32.1))],4⟩) ?_ ?_|refine iw_n (st':=⟨[],[(0,.mix 27 [[iV q0_.s.n,lI q0_.s.fr,lI q0_.s.to,lI q0_.s.id,.lst true 1 (Ls q0_.s.cs),iV q0_.t.n,lI q0_.t.fr,lI q0_.t.to,lI q0_.t.id,.lst true 1 (Ls q0_.t.cs),lI q0_.ob,lI q0_.ar,iV q1_.s.n,lI q1_.s.fr,lI q1_.s.to,lI q1_.s.id,.lst true 1 (Ls q1_.s.cs),iV q1_.t.n,lI q1_.t.fr,lI q1_.t.to,lI q1_.t.id,.lst true 1 (Ls q1_.t.cs),lI q1_.ob,lI q1_.ar,.val (.bool q2_),iV q3_,.own 3 0 s32.1.length]]),(2,rI q5_),(3,.row 1 (Ls s32.1))],4⟩) ?_ ?_
  ·exact Wk.rP _ [(0,0),(3,3),(2,2),(1,1)] hP (by rfl) (by simp [hhOk,back,Fn.cells,XL07State.cells,UA,U1,IA,I1,LA,L1,BA,B1,EA,E1,E2,eB,eI,eL,Qh _ Ql _ (fun _=>rfl)])
  exact ⟨by simp [Qw],by simp,by simp [Fn.cells,XL07State.cells]⟩
def cdead (d:Fn) (x:Int) (c:List Int):Prop:=∃ i:Nat,i<d.ob.length∧ix c i = -1∧Ch d x c i=[]
noncomputable def cnx (d:Fn) (c:List Int):Int:=fstN d.ob.length fun i=>ix c i = -1
noncomputable def cG (d:Fn) (x:Int):Nat→List Int→List (List Int)
 | 0,_=>[]
 | k+1,c=>@ite _ (cdead d x c) (Classical.propDecidable _) [] (if cnx d c<0 then [c] else (Ch d x c (cnx d c).toNat).flatMap fun f=>cG d x k (c.set (cnx d c).toNat f))
theorem cnx_or (d:Fn) (c:List Int):(cnx d c = -1∧∀ i,i<d.ob.length→¬ ix c i = -1)∨∃ i:Nat,i<d.ob.length∧ix c i = -1∧cnx d c=(i:Int):=Q7L _ _
theorem Q5n {d:Fn} {c:List Int} (hl:c.length=d.ob.length) {i:Nat} (hi:i<d.ob.length) (h:ix c i = -1) {f:Int} (hf:0≤f) {k:Nat} (hk:c.count (-1)<k+1):(c.set i f).count (-1)<k:=by
 have hi2:i<c.length:=by omega
 have e:c[i] = -1:=by rw [Q1r _ _ hi2];exact h
 have h1:0<c.count (-1):=List.count_pos_iff.2 (by rw [← e];exact List.getElem_mem hi2);have hf2:¬ f = -1:=by omega
 rw [List.count_set hi2];simp [e,hf2];omega
theorem take_step {α:Type} (A Y Z:List α) (r:Nat):(A++Y.take r)++Z.take (r - (Y.take r).length)=A++(Y++Z).take r:=by
 rw [List.append_assoc,List.take_append]
 congr 2
 simp only [List.length_take]
 by_cases h:r≤Y.length
 ·rw [show r - min r Y.length=0 by omega,show r - Y.length=0 by omega]
 rw [show min r Y.length=Y.length by omega]
set_option maxHeartbeats 2000000 in
theorem e_go {d:Fn} (hd:d.Is) {x:Int} (hx:0≤x∧x<d.t.n) {most:Nat} (hm:most≤401):∀ (k:Nat) (c:List Int) (found:List (List Int)),CV d x c→c.count (-1)<k→found.length<most →
  QP k (cstF d x) d false most found c=some (found++(cG d x k c).take (most - found.length)):=by
 obtain ⟨l1,l2,l3,l4,l5,l6,l7,l8⟩:=hd.fact;intro k
 induction k with
 | zero=>intro c found _ h;omega
 | succ k ih =>
  intro c found hc hk hf;have hl:=hc.1;unfold QP;try simp only
  rw [Q9 (by unfold B64;omega)];refine QT (σ:=Int × Int) (Q:=fun z=>z=some (found++(cG d x (k+1) c).take (most - found.length))) d.ob.length
   (fun i s=>s.2=(d.ob.length:Int) - 1 - (i:Int)∧((s.1 = -1∧∀ j:Nat,d.ob.length - i≤j→j<d.ob.length→¬ ix c j = -1)∨∃ b:Nat,s.1=(b:Int)∧d.ob.length - i≤b∧b<d.ob.length∧ix c b = -1∧∀ j:Nat,d.ob.length - i≤j→j<b→¬ ix c j = -1)∧∀ j:Nat,d.ob.length - i≤j→j<d.ob.length→ix c j = -1→¬ Ch d x c j=[])
   (fun e:Int ⊕ List (List Int)=>match e with
    | .inl b=>b=cnx d c∧¬ cdead d x c
    | .inr p=>p=found∧cdead d x c) (by omega) ⟨by simp only;omega,.inl ⟨rfl,fun j h1 h2=>by omega⟩,fun j h1 h2=>by omega⟩ ?_ ?_ ?_
  ·intro i s hi ⟨h1,h2,h3⟩;obtain ⟨b,y⟩:=s;simp only at h1 h2 h3 ⊢;have hy:y=((d.ob.length - 1 - i:Nat):Int):=(by omega);subst hy;have hn:d.ob.length - (i+1)=d.ob.length - 1 - i:=(by omega);rw [hn];generalize hyy:d.ob.length - 1 - i=y at *;have hB:B64 ((y:Int) - 1):=(by unfold B64;omega);rw [if_pos (by omega),Q9 (by omega)]
   by_cases ho:ix c y = -1
   ·rw [if_pos ho,Q6e hd hx hc (by omega)];simp only [Option.bind_some]
    by_cases he:Ch d x c y=[]
    ·right;refine ⟨.inr found,by simp [he],rfl,y,by omega,ho,he⟩
    left;have hne:¬ ((Ch d x c y).length:Int)=0:=fun q=>he (List.length_eq_zero_iff.1 (by omega));rw [if_neg hne];simp only [Option.bind_some];rw [Q9 hB];refine ⟨_,rfl,by simp only;omega,.inr ⟨y,rfl,by omega,by omega,ho,fun j g1 g2=>by omega⟩,fun j g1 g2 g3=>?_⟩
    by_cases hj:j=y
    ·subst hj;exact he
    exact h3 j (by omega) g2 g3
   left;rw [if_neg ho];simp only [Option.bind_some];rw [Q9 hB];refine ⟨_,rfl,by simp only;omega,?_,fun j g1 g2 g3=>?_⟩
   ·rcases h2 with ⟨q1,q2⟩|⟨b',q1,q2,q3,q4,q5⟩
    ·refine .inl ⟨q1,fun j g1 g2=>?_⟩
     by_cases hj:j=y
     ·subst hj;exact ho
     exact q2 j (by omega) g2
    refine .inr ⟨b',q1,by omega,q3,q4,fun j g1 g2=>?_⟩
    by_cases hj:j=y
    ·subst hj;exact ho
    exact q5 j (by omega) g2
   by_cases hj:j=y
   ·subst hj;exact absurd g3 ho
   exact h3 j (by omega) g2 g3
  ·intro s ⟨h1,h2,h3⟩;obtain ⟨b,y⟩:=s;simp only at h1 h2 h3 ⊢;refine ⟨.inl b,by rw [if_neg (by omega)],?_,fun ⟨i,g1,g2,g3⟩=>h3 i (by omega) g1 g2 g3⟩;rcases h2 with ⟨q1,q2⟩|⟨b',q1,q2,q3,q4,q5⟩
   ·rw [q1];exact (fstN_no fun i hi=>q2 i (by omega) hi).symm
   rw [q1];exact (fstN_at q3 q4 fun j hj=>q5 j (by omega) hj).symm
  intro e he;cases e with
  | inr p =>
   simp only at he ⊢;rw [he.1,cG,if_pos he.2];simp
  | inl b =>
   simp only at he ⊢;obtain ⟨hb,hnd⟩:=he;rw [cG,if_neg hnd,← hb]
   by_cases hb0:b<0
   ·rw [if_pos hb0,if_pos hb0];unfold QG;rw [Q9 (by omega)];simp only [Option.bind_some];rw [Q9 (by simp;omega),List.take_of_length_le (by simp;omega)]
   rw [if_neg hb0,if_neg hb0];rcases cnx_or d c with ⟨q1,q2⟩|⟨i,q1,q2,q3⟩
   ·omega
   rw [q3] at hb;subst hb;rw [Q6e hd hx hc q1];simp only [Option.bind_some,Int.toNat_natCast];have hC:=Ch_len hd x c i;generalize hCe:Ch d x c i=C at hC;have hCm:∀ f∈C,Ar d.t f x (ix d.ob i):=fun f hf=>by rw [← hCe] at hf;exact mem_Ch hf
   let Y:Nat→List (List Int):=fun q=>(C.take q).flatMap fun f=>cG d x k (c.set i f)
   have hY:∀ q,q<C.length→Y (q+1)=Y q++cG d x k (c.set i (ix C q)):=by
    intro q hq;simp only [Y];rw [List.take_succ_eq_append_getElem hq,Q1r _ _ hq];simp
   refine QT (σ:=List (List Int) × Int) (Q:=fun z=>z=some (found++(C.flatMap fun f=>cG d x k (c.set i f)).take (most - found.length))) C.length
    (fun q s=>s=(found++(Y q).take (most - found.length),(q:Int)))
    (fun e=>e=found++(C.flatMap fun f=>cG d x k (c.set i f)).take (most - found.length)) (by omega) (by simp [Y]) ?_ ?_ (fun e he=>by rw [he])
   ·intro q s hq hs;subst hs;have hqC:(q:Int)<(C.length:Int):=(by omega);simp only;rw [if_pos hqC];simp only [Option.bind_some]
    by_cases hfull:(((found++(Y q).take (most - found.length)).length:Nat):Int)<(most:Int)
    ·left;rw [if_pos (by simpa using hfull)];unfold QG;rw [Q9 (by omega)];simp only [Option.bind_some];rw [Q9 (by omega),Q9 (by omega)];have hA:=Q7U (P:=fun f=>Ar d.t f x (ix d.ob i)) hCm hq;rw [ih _ _ (hc.set hA) (Q5n hl q1 q2 hA.1.1 hk) (by omega)];simp only [Option.bind_some];rw [Q9 (by unfold B64;omega)];refine ⟨_,rfl,?_⟩;rw [hY q hq,← take_step]
     congr 3
     simp only [List.length_append];omega
    right;rw [if_neg (by simpa using hfull)];refine ⟨_,rfl,?_⟩;have hlen:most - found.length≤(Y q).length:=by
     simp only [List.length_append,List.length_take] at hfull;omega
    have:(C.flatMap fun f=>cG d x k (c.set i f))=Y q++(C.drop q).flatMap fun f=>cG d x k (c.set i f):=by
     simp only [Y];rw [← List.flatMap_append,List.take_append_drop]
    rw [this,List.take_append_of_le_length hlen]
   intro s hs;subst hs;simp only;rw [if_neg (by omega)];refine ⟨_,by simp;rfl,?_⟩;simp [Y]
theorem fm_filter {β:Type} {xs:List Int} {q:Int→Prop} {g h:Int→List β} (H:∀ f∈xs,(q f→g f=h f)∧(¬ q f→h f=[])):(xs.filter fun f=>bo (q f)).flatMap g=xs.flatMap h:=by
 induction xs with
 | nil=>rfl
 | cons a xs ih =>
  have h1:=H a (by simp);have h2:=ih fun f hf=>H f (by simp [hf])
  by_cases hq:q a
  ·simp only [List.filter_cons,QY hq,if_true,List.flatMap_cons,h2,h1.1 hq]
  simp only [List.filter_cons,QD hq,Bool.false_eq_true,if_false,List.flatMap_cons,h2,h1.2 hq,List.nil_append]
theorem Q7V {d:Fn} (hd:d.Is) {x:Int}:∀ (m:Nat) (p q:List Int),m+p.length=d.ob.length→LP d x p→q∈lext d x m p→q.length=d.ob.length∧LP d x q∧(∀ i:Nat,i<p.length→ix q i=ix p i)∧∀ j:Nat,p.length≤j→j<d.ob.length→lok d q j:=by
 intro m
 induction m with
 | zero =>
  intro p q hm hp hq;simp only [lext,List.mem_singleton] at hq;subst hq;exact ⟨by omega,hp,fun _ _=>rfl,fun j h1 h2=>by omega⟩
 | succ m ih =>
  intro p q hm hp hq;simp only [lext,List.mem_flatMap] at hq;obtain ⟨f,hf,hq⟩:=hq;unfold lnx at hq
  by_cases hl:lok d (p++[f]) p.length
  ·rw [if_pos hl] at hq;obtain ⟨q1,q2,q3,q4⟩:=ih (p++[f]) q (by simp;omega) (hp.snoc (Q3r f hf)) hq;simp only [List.length_append,List.length_singleton] at q3 q4;refine ⟨q1,q2,fun i hi=>by rw [q3 i (by omega),Q2D hi],fun j h1 h2=>?_⟩
   by_cases hj:j=p.length
   ·subst hj;intro a ha hma;refine (Q7R hd ha hma fun i hi=>?_).2 (hl a ha hma);exact q3 i (by omega)
   exact q4 j (by omega) h2
  rw [if_neg hl] at hq;cases hq
theorem Q5U {d:Fn} {p q:List Int} {a:Nat} (h1:ix p (ix d.s.fr a)=ix q (ix d.s.fr a)) (h2:ix p (ix d.s.to a)=ix q (ix d.s.to a)):leq d p a↔leq d q a:=by
 unfold leq;rw [h1,h2]
theorem Q5S {c:List Int} {i:Nat} {y:Int} (h0:0≤y) (f:Int) (hi:i<c.length):ix (c.set i f) y=if y=(i:Int) then f else ix c y:=by
 obtain ⟨j,rfl⟩:=Int.eq_ofNat_of_zero_le h0
 by_cases h:i=j
 ·subst h;rw [Q4N hi];simp
 rw [Q4O h,if_neg (by omega)]
theorem Ch_mem {d:Fn} (hd:d.Is) {x:Int} {c q:List Int} {i:Nat} (hi:i<d.ob.length) (hl:c.length=d.ob.length) (hq:LP d x q) (ql:q.length=d.ob.length) (hag:∀ j:Int,0≤j→j<(d.ob.length:Int)→0≤ix c j→ix c j=ix q j)
  (H:∀ a:Nat,a<d.ar.length→(ix d.s.fr a=(i:Int)∨ix d.s.to a=(i:Int))→0≤ix (c.set i (ix q i)) (ix d.s.fr a)→0≤ix (c.set i (ix q i)) (ix d.s.to a)→leq d q a):ix q i∈Ch d x c i:=by
 obtain ⟨l1,l2,l3,l4,l5,l6,l7,l8⟩:=hd.fact;have A:=hq i (by omega);have hag2:∀ j:Int,0≤j→j<(d.ob.length:Int)→0≤ix (c.set i (ix q i)) j→ix (c.set i (ix q i)) j=ix q j:=by
  intro j h0 h1 h2;rw [Q5S h0 _ (by omega)] at h2 ⊢
  by_cases e:j=(i:Int)
  ·rw [if_pos e,e]
  rw [if_neg e] at h2 ⊢;exact hag j h0 h1 h2
 refine List.mem_filter.2 ⟨?_,?_⟩
 ·obtain ⟨f,hf⟩:=Int.eq_ofNat_of_zero_le A.1.1;have:=A.1.2;refine mem_flt.2 ⟨f,by omega,by rw [← hf];exact A.2,hf⟩
 refine QY fun a ha ht h1 h2=>?_;obtain ⟨f1,f2,f3⟩:=l8 a ha;exact (Q5U (hag2 _ f1.1 f1.2 h1) (hag2 _ f2.1 f2.2 h2)).2 (H a ha ht h1 h2)
theorem set_pad {p:List Int} {f:Int} {m:Nat}:(p++List.replicate (m+1) (-1)).set p.length f=(p++[f])++List.replicate m (-1):=set_fill p m f (-1) rfl
theorem Q4M {p:List Int} {m i:Nat} (h:i<p.length):ix (p++List.replicate m (-1)) i=ix p i:=by simp [ix,List.getD_eq_getElem?_getD,List.getElem?_append,h]
theorem Q5R {p:List Int} {m i:Nat} (h:p.length≤i) (h2:i<p.length+m):ix (p++List.replicate m (-1)) i = -1:=by
 simp [ix,List.getD_eq_getElem?_getD,List.getElem?_append,show ¬ i<p.length by omega,List.getElem?_replicate,show i - p.length<m by omega]
theorem pad_CV {d:Fn} {x:Int} {p:List Int} {m:Nat} (hm:m+p.length=d.ob.length) (hp:LP d x p):CV d x (p++List.replicate m (-1)):=by
 refine ⟨by simp;omega,fun i hi=>?_⟩
 by_cases h:i<p.length
 ·rw [Q4M h];exact .inr (.inr (hp i h))
 rw [Q5R (by omega) (by omega)];exact .inl rfl
theorem cG_lext {d:Fn} (hd:d.Is) {x:Int}:∀ (m k:Nat) (p:List Int),m+p.length=d.ob.length→m<k→LP d x p→cG d x k (p++List.replicate m (-1))=lext d x m p:=by
 obtain ⟨l1,l2,l3,l4,l5,l6,l7,l8⟩:=hd.fact;intro m
 induction m with
 | zero =>
  intro k p hm hk hp;obtain ⟨k,rfl⟩:∃ k',k=k' + 1:=⟨k - 1,by omega⟩;have hno:∀ i:Nat,i<d.ob.length→¬ ix p i = -1:=fun i hi q=>by have:=(hp i (by omega)).1;omega
  simp only [List.replicate_zero,List.append_nil];rw [cG,if_neg (fun ⟨i,h1,h2,h3⟩=>hno i h1 h2),if_pos (by unfold cnx;rw [fstN_no hno];omega)];rfl
 | succ m ih =>
  intro k p hm hk hp;obtain ⟨k,rfl⟩:∃ k',k=k' + 1:=⟨k - 1,by omega⟩;have hnx:cnx d (p++List.replicate (m+1) (-1))=(p.length:Int):=by
   refine fstN_at (by omega) (Q5R (by omega) (by omega)) fun j hj=>?_;rw [Q4M hj];have:=(hp j hj).1;omega
  have hlen:(p++List.replicate (m+1) (-1)).length=d.ob.length:=by simp;omega
  have hset:∀ f:Int,(p++List.replicate (m+1) (-1)).set p.length f=(p++[f])++List.replicate m (-1):=fun f=>set_pad;rw [cG]
  by_cases hdd:cdead d x (p++List.replicate (m+1) (-1))
  ·rw [if_pos hdd];obtain ⟨i,h1,h2,h3⟩:=hdd;have hip:p.length≤i:=by
    rcases Nat.lt_or_ge i p.length with h|h
    ·rw [Q4M h] at h2;have:=(hp i h).1;omega
    exact h
   symm;rw [List.eq_nil_iff_forall_not_mem];intro q hq;obtain ⟨q1,q2,q3,q4⟩:=Q7V hd (m+1) p q hm hp hq;have:ix q i∈Ch d x (p++List.replicate (m+1) (-1)) i:=by
    have hcut:∀ y:Int,0≤y→y<(d.ob.length:Int)→0≤ix (p++List.replicate (m+1) (-1)) y→y<(p.length:Int):=by
     intro y h0 h1' h2';obtain ⟨j,rfl⟩:=Int.eq_ofNat_of_zero_le h0;rcases Nat.lt_or_ge j p.length with h|h
     ·omega
     rw [Q5R h (by omega)] at h2';omega
    refine Ch_mem hd h1 hlen q2 q1 (fun j j0 j1 j2=>?_) fun a ha ht g1 g2=>?_
    ·have:=hcut j j0 j1 j2;obtain ⟨j,rfl⟩:=Int.eq_ofNat_of_zero_le j0;rw [Q4M (by omega),q3 j (by omega)]
    obtain ⟨f1,f2,f3⟩:=l8 a ha;refine q4 i hip h1 a ha ?_;rw [Q5S f1.1 _ (by omega)] at g1;rw [Q5S f2.1 _ (by omega)] at g2;have b1:ix d.s.fr a≤(i:Int):=by
     split at g1
     ·omega
     have:=hcut _ f1.1 f1.2 g1;omega
    have b2:ix d.s.to a≤(i:Int):=by
     split at g2
     ·omega
     have:=hcut _ f2.1 f2.2 g2;omega
    unfold lmax;split<;>omega
   rw [h3] at this;cases this
  rw [if_neg hdd,hnx,if_neg (by omega)];simp only [Int.toNat_natCast,lext];refine fm_filter fun f hf=>?_;have Af:Ar d.t f x (ix d.ob p.length):=Q3r f hf;have hiff:chP d (p++List.replicate (m+1) (-1)) p.length f↔lok d (p++[f]) p.length:=by
   unfold chP lok;rw [hset f];have c1:∀ y:Int,0≤y→y<(d.ob.length:Int)→(0≤ix (p++[f]++List.replicate m (-1)) y↔y≤(p.length:Int))∧(y≤(p.length:Int)→ix (p++[f]++List.replicate m (-1)) y=ix (p++[f]) y):=by
    intro y h0 h1;obtain ⟨j,rfl⟩:=Int.eq_ofNat_of_zero_le h0;have hl1:(p++[f]).length=p.length+1:=(by simp);rcases Nat.lt_or_ge j (p.length+1) with h|h
    ·rw [Q4M (by omega)];refine ⟨⟨fun _=>by omega,fun _=>?_⟩,fun _=>rfl⟩;exact (hp.snoc Af j (by omega)).1.1
    rw [Q5R (by omega) (by omega)];exact ⟨⟨fun _=>by omega,fun _=>by omega⟩,fun _=>by omega⟩
   constructor
   ·intro h a ha hma;obtain ⟨f1,f2,f3⟩:=l8 a ha;unfold lmax at hma;have b1:ix d.s.fr a≤(p.length:Int):=(by split at hma<;>omega);have b2:ix d.s.to a≤(p.length:Int):=(by split at hma<;>omega);have:=h a ha (by split at hma<;>omega) (((c1 _ f1.1 f1.2).1).2 b1) (((c1 _ f2.1 f2.2).1).2 b2);exact (Q5U ((c1 _ f1.1 f1.2).2 b1) ((c1 _ f2.1 f2.2).2 b2)).1 this
   intro h a ha ht g1 g2;obtain ⟨f1,f2,f3⟩:=l8 a ha;have b1:=((c1 _ f1.1 f1.2).1).1 g1;have b2:=((c1 _ f2.1 f2.2).1).1 g2;refine (Q5U ((c1 _ f1.1 f1.2).2 b1) ((c1 _ f2.1 f2.2).2 b2)).2 (h a ha ?_);unfold lmax;split<;>omega
  refine ⟨fun hq=>?_,fun hq=>?_⟩
  ·show cG d x k _=lnx _ _ _ _;unfold lnx;rw [if_pos (hiff.1 hq),hset f];exact ih k (p++[f]) (by simp;omega) (by omega) (hp.snoc Af)
  unfold lnx;rw [if_neg fun g=>hq (hiff.2 g)]
theorem cG_some {d:Fn} (hd:d.Is) {x:Int} {q:List Int} (hq:LP d x q) (ql:q.length=d.ob.length) (H:∀ a:Nat,a<d.ar.length→leq d q a):∀ (k:Nat) (c:List Int),CV d x c→c.count (-1)<k→(∀ j:Int,0≤j→j<(d.ob.length:Int)→0≤ix c j→ix c j=ix q j)→cG d x k c ≠ []:=by
 intro k
 induction k with
 | zero=>intro c _ h;omega
 | succ k ih =>
  intro c hc hk hag;have hl:=hc.1;have hm:∀ i:Nat,i<d.ob.length→ix q i∈Ch d x c i:=fun i hi=>Ch_mem hd hi hl hq ql hag fun a ha _ _ _=>H a ha;rw [cG,if_neg (fun ⟨i,h1,h2,h3⟩=>by have:=hm i h1;rw [h3] at this;cases this)];rcases cnx_or d c with ⟨q1,q2⟩|⟨i,q1,q2,q3⟩
  ·rw [q1,if_pos (by omega)];simp
  rw [q3,if_neg (by omega)];simp only [Int.toNat_natCast];have hmi:=hm i q1;have:=ih (c.set i (ix q i)) (hc.set (mem_Ch hmi)) (Q5n hl q1 q2 (mem_Ch hmi).1.1 hk) (fun j h0 h1 h2=>by
   rw [Q5S h0 _ (by omega)] at h2 ⊢
   by_cases e:j=(i:Int)
   ·rw [if_pos e,e]
   rw [if_neg e] at h2 ⊢;exact hag j h0 h1 h2)
  intro he;rw [List.flatMap_eq_nil_iff] at he;exact this (he _ hmi)
theorem Q6A {d:Fn} (hd:d.Is) {x:Int} {q:List Int} (h:q∈lext d x d.ob.length []):q.length=d.ob.length∧LP d x q∧∀ a:Nat,a<d.ar.length→leq d q a:=by
 obtain ⟨q1,q2,q3,q4⟩:=Q7V hd d.ob.length [] q (by simp) (fun i hi=>by simp at hi) h;refine ⟨q1,q2,fun a ha=>?_⟩;obtain ⟨l1,l2,l3,l4,l5,l6,l7,l8⟩:=hd.fact;obtain ⟨f1,f2,f3⟩:=l8 a ha;have:0≤lmax d a∧lmax d a<(d.ob.length:Int):=by unfold lmax;split<;>omega
 obtain ⟨j,hj⟩:=Int.eq_ofNat_of_zero_le this.1;exact q4 j (by simp) (by omega) a ha hj
attribute [local simp] eL eI Qs
noncomputable def Q20 (list_:List Int) (n_:Int):Option Int :=
 (QA (σ:=Int) (ε:=Unit ⊕ Int) (fun s6 =>
  if s6<(list_.length:Int) then
   ass (0≤s6∧s6<(list_.length:Int)) <|
   if (ix list_ s6)=n_ then
    some (Ctl.ret (Sum.inr s6))
   else
    ass (B64 (s6+1)) <|
    some (Ctl.next (s6+1))
  else
   some (Ctl.ret (Sum.inl ()))) fuel 0).bind fun e1 =>
 match e1 with
 | .inl b1 =>
  some (-1)
 | .inr p1 =>
  some p1
theorem Qi {F : Fx} {st st' : St} (m : List (Nat × Nat)) (h : (m.map Prod.fst).Nodup ∧ (m.map Prod.snd).Nodup ∧ (∀ id, id < F.pins → look id m = some id) ∧ (∀ p ∈ m, p.2 < st'.n) ∧ (∀ p ∈ st'.h, p.1 < st'.n) ∧ (∀ p ∈ st'.s, p.2 = rl m (st.get p.1) ∨ p.2 = .bot) ∧ ∀ p ∈ st'.h, hhOk m st.h p.1 p.2 := by simp [hP, hhOk, back, UA, U1, IA, I1, LA, L1, BA, B1, EA, E1, E2, eB, eI, eL, Cat.cells, Fn.cells, Cone.cells, Qh _ (Cone.cells true) _ (fun _=>rfl), XCocones.cells, Qh _ QZ _ (fun _=>rfl)]) : Wk F st st' := Wk.r1 m h
theorem Q6O (list_:List Int) (n_:Int) (r:Int) (h:Q20 list_ n_=some r):Contract Try.prog 70 [lI list_,iV n_] (iV r):=by
 refine Qe (rvs:=[.tmp 4]) (rs:=[iV r]) Try.func70 rfl rfl rfl rfl (by simp [Try.f70]) fun F hN hP=>?_;unfold Q20 at h;refine Q3 ?_;refine runQ hN fun K hK=>?_;simp [-Q0,-Q5,-Q1,-Q6,-Q2];repeat refine sdQ ?_
 refine hK _ ?_;clear hK K;refine tn ?_;refine Q8 (st':=⟨[(0,lI list_),(1,iV n_)],[],0⟩) (Qi []) ?_;refine Q3 ?_;refine Q3 ?_;refine runQ hN fun K hK=>?_;simp [-Q0,-Q5,-Q1,-Q6,-Q2];repeat refine sdQ ?_
 refine hK _ ?_;clear hK K;refine tn ?_;refine Q8 (st':=⟨[(0,lI list_),(1,iV n_),(5,iV 0)],[],0⟩) (Qi []) ?_;replace h:=bind_some h;obtain ⟨e1,h,h1⟩:=h;refine Qj (fun b1:Unit=>⟨[],[],0⟩) (fun b1=>Sum.inl b1=e1) ?_ ?_
 ·refine Qa ?_;refine Qx h (fun s6:Int=>⟨[(0,lI list_),(1,iV n_),(5,iV s6)],[],0⟩) (Qi []) ?_;clear h;intro k6 s6 c6 h hk6;refine Q3 ?_;refine Q3 ?_;refine runQ hN fun K hK=>?_;simp [-Q0,-Q5,-Q1,-Q6,-Q2];repeat refine sdQ ?_
  refine hK _ ?_;clear hK K;refine tn ?_;refine Q8 (st':=⟨[(0,lI list_),(1,iV n_),(5,iV s6),(9,.val (.bool (decide (s6<(list_.length:Int)))))],[],0⟩) (Qi []) ?_;refine Qc rfl (fun g=>?_) fun g=>?_
  ·have g7:s6<(list_.length:Int):=gQ;clear g;replace h:=if_l g7 h;refine Qd ?_;refine tn ?_;refine Q3 ?_;refine Qa ?_;refine Q3 ?_;refine runQ hN fun K hK=>?_;replace h:=Q4 h;obtain ⟨a8,h⟩:=h;simp [-Q0,-Q5,-Q1,-Q6,-Q2,at_I a8];(repeat refine sdQ ?_);refine hK _ ?_;clear hK K;refine tn ?_;refine Q8 (st':=⟨[(0,lI list_),(1,iV n_),(5,iV s6),(17,.val (.bool ((ix list_ s6) == n_)))],[],0⟩) (Qi []) ?_;refine Qc rfl (fun g=>?_) fun g=>?_
   ·have g9:(ix list_ s6)=n_:=gQ;clear g;replace h:=if_l g9 h;refine Q3 ?_;refine runQ hN fun K hK=>?_;simp [-Q0,-Q5,-Q1,-Q6,-Q2];(repeat refine sdQ ?_);refine hK _ ?_;clear hK K;refine tn ?_;refine Q8 (st':=⟨[(4,iV s6)],[],0⟩) (Qi []) ?_;refine Qk ?_;refine br ?_;refine tr ?_;refine lr ?_;refine br ?_;refine tr ?_;cases h;have q:_=e1:=hk6;have h:=h1;rw [← q] at h;clear q;(try dsimp only at h);have hr:=Option.some.inj h;rw [← hr];refine ⟨_,(.tmp .nil),?_⟩;refine ⟨(.one rfl rfl .nil),[iV s6],[],by simp [UA,U1,IA,I1,LA,L1,BA,B1,EA,E1,E2,eB,eI,eL],by simp,(UpL.refl _)⟩
   have g9:¬ ((ix list_ s6)=n_):=gQ;clear g;replace h:=if_r g9 h;refine Qd ?_;refine bn ?_;refine tn ?_;refine runQ hN fun K hK=>?_;replace h:=Q4 h;obtain ⟨a10,h⟩:=h;simp [-Q0,-Q5,-Q1,-Q6,-Q2,Qt a10];(repeat refine sdQ ?_);refine hK _ ?_;clear hK K;cases h;exact rn (s':=s6+1) hk6 (Qi [])
  have g7:¬ (s6<(list_.length:Int)):=gQ;clear g;replace h:=if_r g7 h;refine Qq ?_;refine tx ?_;refine lx ?_;refine bh ?_;cases h;exact jn (b:=()) hk6 (Qi [])
 intro b1 hb1;have h:=h1;try rw [← hb1] at h
 clear h1;try dsimp only at h
 refine Q3 ?_;refine runQ hN fun K hK=>?_;simp [-Q0,-Q5,-Q1,-Q6,-Q2];repeat refine sdQ ?_
 refine hK _ ?_;clear hK K;refine tn ?_;refine Q8 (st':=⟨[(4,iV (-1))],[],0⟩) (Qi []) ?_;refine Qk ?_;have hr:=Option.some.inj h;rw [← hr];refine ⟨_,(.tmp .nil),?_⟩;refine ⟨(.one rfl rfl .nil),[iV (-1)],[],by simp [UA,U1,IA,I1,LA,L1,BA,B1,EA,E1,E2,eB,eI,eL],by simp,(UpL.refl _)⟩
attribute [local simp] eL eI Qs
noncomputable def Q1n (labels_:List Int):Option (List Int) :=
 (QA (σ:=List Int × List Int × Int) (ε:=List Int) (fun s11 =>
  if s11.2.2<(labels_.length:Int) then
   ass (0≤s11.2.2∧s11.2.2<(labels_.length:Int)) <|
   (Q20 s11.2.1 (ix labels_ s11.2.2)).bind fun v14 =>
   (
    if v14<0 then
     ass (0≤s11.2.2∧s11.2.2<(labels_.length:Int)) <|
     ass ((s11.2.1++[ix labels_ s11.2.2]).length≤1073741824) <|
     some (s11.2.1++[ix labels_ s11.2.2],(s11.2.1.length:Int))
    else
     some (s11.2.1,v14):Option (List Int × Int)).bind fun b15 =>
   ass ((s11.1++[b15.2]).length≤1073741824) <|
   ass (B64 (s11.2.2+1)) <|
   some (Ctl.next (s11.1++[b15.2],b15.1,s11.2.2+1))
  else
   some (Ctl.ret s11.1)) fuel ([],[],0)).bind fun b1 =>
 some b1
theorem Q5h (labels_:List Int) (r:List Int) (h:Q1n labels_=some r):Contract Try.prog 114 [lI labels_] (lI r):=by
 refine Qe (rvs:=[.tmp 2]) (rs:=[lI r]) Try.func114 rfl rfl rfl rfl (by simp [Try.f114]) fun F hN hP=>?_;unfold Q1n at h;refine Q3 ?_;refine runQ hN fun K hK=>?_;simp [-Q0,-Q5,-Q1,-Q6,-Q2];repeat refine sdQ ?_
 refine hK _ ?_;clear hK K;refine tn ?_;refine Q8 (st':=⟨[(0,lI labels_)],[],0⟩) (Qi []) ?_;refine Q3 ?_;refine runQ hN fun K hK=>?_;simp [-Q0,-Q5,-Q1,-Q6,-Q2];repeat refine sdQ ?_
 refine hK _ ?_;clear hK K;refine tn ?_;refine Q8 (st':=⟨[(0,lI labels_),(3,.own 0 0 0),(4,.own 1 0 0)],[(0,.mix 1 []),(1,.mix 1 [])],2⟩) (Qi [(0,0),(1,1)]) ?_;refine Q3 ?_;refine Q3 ?_;refine runQ hN fun K hK=>?_;simp [-Q0,-Q5,-Q1,-Q6,-Q2];repeat refine sdQ ?_
 refine hK _ ?_;clear hK K;refine tn ?_;refine Q8 (st':=⟨[(0,lI labels_),(3,.own 0 0 0),(4,.own 1 0 0),(5,iV 0)],[(0,.mix 1 []),(1,.mix 1 [])],2⟩) (Qi [(0,0),(1,1)]) ?_;replace h:=bind_some h;obtain ⟨e1,h,h1⟩:=h;refine Qj (fun b1:List Int=>⟨[(3,.own 0 0 b1.length)],[(0,rI b1)],1⟩) (fun b1=>b1=e1) ?_ ?_
 ·refine Qa ?_;refine Qx h (fun s11:List Int × List Int × Int=>⟨[(0,lI labels_),(3,.own 0 0 s11.1.length),(4,.own 1 0 s11.2.1.length),(5,iV s11.2.2)],[(0,rI s11.1),(1,rI s11.2.1)],2⟩) (Q2N ⟨[(0,lI labels_),(3,.own 0 0 0),(4,.own 1 0 0),(5,iV 0)],[(0,rI []),(1,rI [])],2⟩ (Wk.nils [] (by simp) (by simp) (by simp [nlA]) (by simp [entN,nlL,nlA,UA,U1,IA,I1,LA,L1,BA,B1,EA,E1,E2,eB,eI,eL]) (by simp)) (Qi [(0,0),(1,1)])) ?_;clear h;intro k11 s11 c11 h hk11;refine Q3 ?_;refine Q3 ?_;refine runQ hN fun K hK=>?_;simp [-Q0,-Q5,-Q1,-Q6,-Q2];repeat refine sdQ ?_
  refine hK _ ?_;clear hK K;refine tn ?_;refine Q8 (st':=⟨[(0,lI labels_),(3,.own 0 0 s11.1.length),(4,.own 1 0 s11.2.1.length),(5,iV s11.2.2),(12,.val (.bool (decide (s11.2.2<(labels_.length:Int)))))],[(0,rI s11.1),(1,rI s11.2.1)],2⟩) (Qi [(0,0),(1,1)]) ?_;refine Qc rfl (fun g=>?_) fun g=>?_
  ·have g12:s11.2.2<(labels_.length:Int):=gQ;clear g;replace h:=if_l g12 h;refine Qd ?_;refine tn ?_;refine Q3 ?_;refine Qa ?_;refine Q3 ?_;refine runQ hN fun K hK=>?_;replace h:=Q4 h;obtain ⟨a13,h⟩:=h;simp [-Q0,-Q5,-Q1,-Q6,-Q2,at_I a13];(repeat with_reducible refine sdQ ?_);replace h:=bind_some h;obtain ⟨v14,hv14,h⟩:=h;refine Q7 (Q6O _ _ v14 hv14) (.cons (.whole (by simp) (by simp) (by simp)) (.cons .val .nil)) ?_;simp [-Q0,-Q5,-Q1,-Q6,-Q2,unk,unA,unE,unT,unC,flat,at_I a13];(repeat refine sdQ ?_);refine hK _ ?_;clear hK K;refine tn ?_;refine Q8 (st':=⟨[(0,lI labels_),(3,.own 0 0 s11.1.length),(4,.own 1 0 s11.2.1.length),(5,iV s11.2.2),(6,iV v14)],[(0,rI s11.1),(1,rI s11.2.1)],2⟩) (Qi [(0,0),(1,1)]) ?_;refine Q3 ?_;refine Q3 ?_;refine runQ hN fun K hK=>?_;simp [-Q0,-Q5,-Q1,-Q6,-Q2];(repeat refine sdQ ?_);refine hK _ ?_;clear hK K;refine tn ?_;refine Q8 (st':=⟨[(0,lI labels_),(3,.own 0 0 s11.1.length),(4,.own 1 0 s11.2.1.length),(5,iV s11.2.2),(6,iV v14),(22,.val (.bool (decide (v14<0))))],[(0,rI s11.1),(1,rI s11.2.1)],2⟩) (Qi [(0,0),(1,1)]) ?_;replace h:=bind_some h;obtain ⟨e15,h,h15⟩:=h;refine Qj (fun b15:List Int × Int=>⟨[(0,lI labels_),(3,.own 0 0 s11.1.length),(4,.own 1 0 b15.1.length),(5,iV s11.2.2),(6,iV b15.2)],[(0,rI s11.1),(1,rI b15.1)],2⟩) (fun b15=>b15=e15) ?_ ?_
   ·refine Qc rfl (fun g=>?_) fun g=>?_
    ·have g16:v14<0:=gQ;clear g;replace h:=if_l g16 h;refine Q3 ?_;refine runQ hN fun K hK=>?_;simp [-Q0,-Q5,-Q1,-Q6,-Q2];(repeat refine sdQ ?_);refine hK _ ?_;clear hK K;refine tn ?_;refine Q8 (st':=⟨[(0,lI labels_),(3,.own 0 0 s11.1.length),(4,.own 1 0 s11.2.1.length),(5,iV s11.2.2),(6,iV (s11.2.1.length:Int))],[(0,rI s11.1),(1,rI s11.2.1)],2⟩) (Qi [(0,0),(1,1)]) ?_;refine runQ hN fun K hK=>?_;replace h:=Q4 h;obtain ⟨a17,h⟩:=h;replace h:=Q4 h;obtain ⟨a18,h⟩:=h;(try simp only [List.length_append,List.length_cons,List.length_nil] at a18);simp [-Q0,-Q5,-Q1,-Q6,-Q2,at_I a17,a18];(repeat refine sdQ ?_);refine hK _ ?_;clear hK K;exact jn (b:=(s11.2.1++[ix labels_ s11.2.2],(s11.2.1.length:Int))) (Option.some.inj h) (Qi [(0,0),(3,1)])
    have g16:¬ (v14<0):=gQ;clear g;replace h:=if_r g16 h;refine Qd ?_;exact jn (b:=(s11.2.1,v14)) (Option.some.inj h) (Qi [(0,0),(1,1)])
   intro b15 hb15;have h:=h15;(try rw [← hb15] at h);clear h15;(try dsimp only at h);refine runQ hN fun K hK=>?_;replace h:=Q4 h;obtain ⟨a19,h⟩:=h;(try simp only [List.length_append,List.length_cons,List.length_nil] at a19);simp [-Q0,-Q5,-Q1,-Q6,-Q2,a19];(repeat refine sdQ ?_);refine hK _ ?_;clear hK K;refine bn ?_;refine tn ?_;refine Q8 (st':=⟨[(0,lI labels_),(3,.own 0 0 ((s11.1++[b15.2]).length)),(4,.own 1 0 b15.1.length),(5,iV s11.2.2)],[(0,rI (s11.1++[b15.2])),(1,rI b15.1)],2⟩) (Qi [(3,0),(1,1)]) ?_;refine runQ hN fun K hK=>?_;replace h:=Q4 h;obtain ⟨a20,h⟩:=h;simp [-Q0,-Q5,-Q1,-Q6,-Q2,Qt a20];(repeat refine sdQ ?_);refine hK _ ?_;clear hK K;cases h;exact rn (s':=(s11.1++[b15.2],b15.1,s11.2.2+1)) hk11 (Qi [(0,0),(1,1)])
  have g12:¬ (s11.2.2<(labels_.length:Int)):=gQ;clear g;replace h:=if_r g12 h;refine Qq ?_;refine tx ?_;refine lx ?_;refine bh ?_;cases h;exact jn (b:=s11.1) hk11 (Qi [(0,0)])
 intro b1 hb1;have h:=h1;try rw [← hb1] at h
 clear h1;try dsimp only at h
 refine Q3 ?_;refine runQ hN fun K hK=>?_;simp [-Q0,-Q5,-Q1,-Q6,-Q2];repeat refine sdQ ?_
 refine hK _ ?_;clear hK K;refine tn ?_;refine Q8 (st':=⟨[(2,.own 0 0 b1.length)],[(0,rI b1)],1⟩) (Qi [(0,0)]) ?_;refine Qk ?_;have hr:=Option.some.inj h;rw [← hr];refine ⟨_,(.tmp .nil),?_⟩;refine ⟨(.one rfl rfl .nil),[lI b1],[0],by simp [UA,U1,IA,I1,LA,L1,BA,B1,EA,E1,E2,eB,eI,eL],by simp,(UpL.refl _)⟩
attribute [local simp] eL eI Qs
noncomputable def Q2m (n_:Int) (pairs_:List (List Int)):Option (List Int) :=
 (QA (σ:=List Int × Int) (ε:=List Int) (fun s5 =>
  if s5.2<n_ then
   ass ((s5.1++[s5.2]).length≤1073741824) <|
   ass (B64 (s5.2+1)) <|
   some (Ctl.next (s5.1++[s5.2],s5.2+1))
  else
   some (Ctl.ret s5.1)) fuel ([],0)).bind fun b1 =>
 (QA (σ:=List Int × Int) (ε:=List Int) (fun s36 =>
  if s36.2<(pairs_.length:Int) then
   (
    ass (0≤s36.2∧s36.2<(pairs_.length:Int)) <|
    ass ((0:Int)≤0∧0<((rx pairs_ s36.2).length:Int)) <|
    ass (0≤ix (rx pairs_ s36.2) 0∧ix (rx pairs_ s36.2) 0<(s36.1.length:Int)) <|
    ass (0≤s36.2∧s36.2<(pairs_.length:Int)) <|
    ass ((0:Int)≤1∧1<((rx pairs_ s36.2).length:Int)) <|
    ass (0≤ix (rx pairs_ s36.2) 1∧ix (rx pairs_ s36.2) 1<(s36.1.length:Int)) <|
    (QA (σ:=List Int × Int) (ε:=List Int) (fun s53 =>
     (
      if s53.2<(s53.1.length:Int) then
       some ((ix s36.1 (ix (rx pairs_ s36.2) 0)) != (ix s36.1 (ix (rx pairs_ s36.2) 1)))
      else
       some false:Option (Bool)).bind fun b54 =>
     if b54=true then
      (
       ass (0≤s53.2∧s53.2<(s53.1.length:Int)) <|
       if (ix s53.1 s53.2)=(ix s36.1 (ix (rx pairs_ s36.2) 1)) then
        ass (0≤s53.2∧s53.2<(s53.1.length:Int)) <|
        some (s53.1.set s53.2.toNat (ix s36.1 (ix (rx pairs_ s36.2) 0)))
       else
        some s53.1:Option (List Int)).bind fun b57 =>
      ass (B64 (s53.2+1)) <|
      some (Ctl.next (b57,s53.2+1))
     else
      some (Ctl.ret s53.1)) fuel (s36.1,0)).bind fun p53 =>
    some p53:Option (List Int)).bind fun b38 =>
   ass (B64 (s36.2+1)) <|
   some (Ctl.next (b38,s36.2+1))
  else
   some (Ctl.ret s36.1)) fuel (b1,0)).bind fun b9 =>
 (Q1n b9).bind fun v63 =>
 some v63
theorem Q7t (n_:Int) (pairs_:List (List Int)) (r:List Int) (h:Q2m n_ pairs_=some r):Contract Try.prog 69 [iV n_,.lst true 1 (Ls pairs_)] (lI r):=by
 refine Qe (rvs:=[.tmp 4]) (rs:=[lI r]) Try.func69 rfl rfl rfl rfl (by simp [Try.f69]) fun F hN hP=>?_;unfold Q2m at h;refine Q3 ?_;refine runQ hN fun K hK=>?_;simp [-Q0,-Q5,-Q1,-Q6,-Q2];repeat refine sdQ ?_
 refine hK _ ?_;clear hK K;refine tn ?_;refine Q8 (st':=⟨[(0,iV n_),(1,.lst true 1 (Ls pairs_))],[],0⟩) (Qi []) ?_;refine Q3 ?_;refine runQ hN fun K hK=>?_;simp [-Q0,-Q5,-Q1,-Q6,-Q2];repeat refine sdQ ?_
 refine hK _ ?_;clear hK K;refine tn ?_;refine Q8 (st':=⟨[(0,iV n_),(1,.lst true 1 (Ls pairs_)),(5,.own 0 0 0)],[(0,.mix 1 [])],1⟩) (Qi [(0,0)]) ?_;refine Q3 ?_;refine Q3 ?_;refine runQ hN fun K hK=>?_;simp [-Q0,-Q5,-Q1,-Q6,-Q2];repeat refine sdQ ?_
 refine hK _ ?_;clear hK K;refine tn ?_;refine Q8 (st':=⟨[(0,iV n_),(1,.lst true 1 (Ls pairs_)),(5,.own 0 0 0),(6,iV 0)],[(0,.mix 1 [])],1⟩) (Qi [(0,0)]) ?_;replace h:=bind_some h;obtain ⟨e1,h,h1⟩:=h;refine Qj (fun b1:List Int=>⟨[(1,.lst true 1 (Ls pairs_)),(5,.own 0 0 b1.length)],[(0,rI b1)],1⟩) (fun b1=>b1=e1) ?_ ?_
 ·refine Qa ?_;refine Qx h (fun s5:List Int × Int=>⟨[(0,iV n_),(1,.lst true 1 (Ls pairs_)),(5,.own 0 0 s5.1.length),(6,iV s5.2)],[(0,rI s5.1)],1⟩) (Q2N ⟨[(0,iV n_),(1,.lst true 1 (Ls pairs_)),(5,.own 0 0 0),(6,iV 0)],[(0,rI [])],1⟩ (Wk.nils [] (by simp) (by simp) (by simp [nlA]) (by simp [entN,nlL,nlA,UA,U1,IA,I1,LA,L1,BA,B1,EA,E1,E2,eB,eI,eL]) (by simp)) (Qi [(0,0)])) ?_;clear h;intro k5 s5 c5 h hk5;refine Q3 ?_;refine Q3 ?_;refine runQ hN fun K hK=>?_;simp [-Q0,-Q5,-Q1,-Q6,-Q2];repeat refine sdQ ?_
  refine hK _ ?_;clear hK K;refine tn ?_;refine Q8 (st':=⟨[(0,iV n_),(1,.lst true 1 (Ls pairs_)),(5,.own 0 0 s5.1.length),(6,iV s5.2),(14,.val (.bool (decide (s5.2<n_))))],[(0,rI s5.1)],1⟩) (Qi [(0,0)]) ?_;refine Qc rfl (fun g=>?_) fun g=>?_
  ·have g6:s5.2<n_:=gQ;clear g;replace h:=if_l g6 h;refine Qd ?_;refine tn ?_;refine Q3 ?_;refine Qa ?_;refine runQ hN fun K hK=>?_;replace h:=Q4 h;obtain ⟨a7,h⟩:=h;(try simp only [List.length_append,List.length_cons,List.length_nil] at a7);simp [-Q0,-Q5,-Q1,-Q6,-Q2,a7];(repeat refine sdQ ?_);refine hK _ ?_;clear hK K;refine bn ?_;refine tn ?_;refine Q8 (st':=⟨[(0,iV n_),(1,.lst true 1 (Ls pairs_)),(5,.own 0 0 ((s5.1++[s5.2]).length)),(6,iV s5.2)],[(0,rI (s5.1++[s5.2]))],1⟩) (Qi [(2,0)]) ?_;refine runQ hN fun K hK=>?_;replace h:=Q4 h;obtain ⟨a8,h⟩:=h;simp [-Q0,-Q5,-Q1,-Q6,-Q2,Qt a8];(repeat refine sdQ ?_);refine hK _ ?_;clear hK K;cases h;exact rn (s':=(s5.1++[s5.2],s5.2+1)) hk5 (Qi [(0,0)])
  have g6:¬ (s5.2<n_):=gQ;clear g;replace h:=if_r g6 h;refine Qq ?_;refine tx ?_;refine lx ?_;refine bh ?_;cases h;exact jn (b:=s5.1) hk5 (Qi [(0,0)])
 intro b1 hb1;have h:=h1;try rw [← hb1] at h
 clear h1;try dsimp only at h
 refine Q3 ?_;refine Q3 ?_;refine runQ hN fun K hK=>?_;simp [-Q0,-Q5,-Q1,-Q6,-Q2];repeat refine sdQ ?_
 refine hK _ ?_;clear hK K;refine tn ?_;refine Q8 (st':=⟨[(1,.lst true 1 (Ls pairs_)),(5,.own 0 0 b1.length),(7,iV 0)],[(0,rI b1)],1⟩) (Qi [(0,0)]) ?_;replace h:=bind_some h;obtain ⟨e9,h,h9⟩:=h;refine Qj (fun b9:List Int=>⟨[(5,.own 0 0 b9.length)],[(0,rI b9)],1⟩) (fun b9=>b9=e9) ?_ ?_
 ·refine Qa ?_;refine Qx h (fun s36:List Int × Int=>⟨[(1,.lst true 1 (Ls pairs_)),(5,.own 0 0 s36.1.length),(7,iV s36.2)],[(0,rI s36.1)],1⟩) (Qi [(0,0)]) ?_;clear h;intro k36 s36 c36 h hk36;refine Q3 ?_;refine Q3 ?_;refine runQ hN fun K hK=>?_;simp [-Q0,-Q5,-Q1,-Q6,-Q2];repeat refine sdQ ?_
  refine hK _ ?_;clear hK K;refine tn ?_;refine Q8 (st':=⟨[(1,.lst true 1 (Ls pairs_)),(5,.own 0 0 s36.1.length),(7,iV s36.2),(24,.val (.bool (decide (s36.2<(pairs_.length:Int)))))],[(0,rI s36.1)],1⟩) (Qi [(0,0)]) ?_;refine Qc rfl (fun g=>?_) fun g=>?_
  ·have g37:s36.2<(pairs_.length:Int):=gQ;clear g;replace h:=if_l g37 h;refine Qd ?_;refine tn ?_;refine Q3 ?_;replace h:=bind_some h;obtain ⟨e38,h,h38⟩:=h;refine Qj (fun b38:List Int=>⟨[(1,.lst true 1 (Ls pairs_)),(5,.own 0 0 b38.length),(7,iV s36.2)],[(0,rI b38)],1⟩) (fun b38=>b38=e38) ?_ ?_
   ·refine Qa ?_;refine Q3 ?_;refine runQ hN fun K hK=>?_;replace h:=Q4 h;obtain ⟨a39,h⟩:=h;replace h:=Q4 h;obtain ⟨a40,h⟩:=h;replace h:=Q4 h;obtain ⟨a41,h⟩:=h;replace h:=Q4 h;obtain ⟨a42,h⟩:=h;replace h:=Q4 h;obtain ⟨a43,h⟩:=h;replace h:=Q4 h;obtain ⟨a44,h⟩:=h;simp [-Q0,-Q5,-Q1,-Q6,-Q2,at_L a39,(show (Is (rx pairs_ s36.2))[0]? = some [iV (ix (rx pairs_ s36.2) 0)] from at_I (j:=0) a40),at_I a41,at_L a42,(show (Is (rx pairs_ s36.2))[1]? = some [iV (ix (rx pairs_ s36.2) 1)] from at_I (j:=1) a43),at_I a44];(repeat refine sdQ ?_);refine hK _ ?_;clear hK K;refine tn ?_;refine Q8 (st':=⟨[(1,.lst true 1 (Ls pairs_)),(5,.own 0 0 s36.1.length),(7,iV s36.2),(8,iV (ix s36.1 (ix (rx pairs_ s36.2) 0))),(9,iV (ix s36.1 (ix (rx pairs_ s36.2) 1)))],[(0,rI s36.1)],1⟩) (Qi [(0,0)]) ?_;refine Q3 ?_;refine runQ hN fun K hK=>?_;simp [-Q0,-Q5,-Q1,-Q6,-Q2];(repeat refine sdQ ?_);refine hK _ ?_;clear hK K;refine tn ?_;refine Q8 (st':=⟨[(1,.lst true 1 (Ls pairs_)),(5,.own 0 0 s36.1.length),(7,iV s36.2),(8,iV (ix s36.1 (ix (rx pairs_ s36.2) 0))),(9,iV (ix s36.1 (ix (rx pairs_ s36.2) 1))),(10,iV 0)],[(0,rI s36.1)],1⟩) (Qi [(0,0)]) ?_;refine Qa ?_;replace h:=bind_some h;obtain ⟨e53,he53,h53⟩:=h;refine Qx he53 (fun s53:List Int × Int=>⟨[(1,.lst true 1 (Ls pairs_)),(5,.own 0 0 s53.1.length),(7,iV s36.2),(8,iV (ix s36.1 (ix (rx pairs_ s36.2) 0))),(9,iV (ix s36.1 (ix (rx pairs_ s36.2) 1))),(10,iV s53.2)],[(0,rI s53.1)],1⟩) (Qi [(0,0)]) ?_;intro k53 s53 c53 h hk53;refine Q3 ?_;refine Q3 ?_;replace h:=bind_some h;obtain ⟨e54,h,h54⟩:=h;refine Qj (fun b54:Bool=>⟨[(1,.lst true 1 (Ls pairs_)),(5,.own 0 0 s53.1.length),(7,iV s36.2),(8,iV (ix s36.1 (ix (rx pairs_ s36.2) 0))),(9,iV (ix s36.1 (ix (rx pairs_ s36.2) 1))),(10,iV s53.2),(53,.val (.bool b54))],[(0,rI s53.1)],1⟩) (fun b54=>b54=e54) ?_ ?_
    ·refine runQ hN fun K hK=>?_;simp [-Q0,-Q5,-Q1,-Q6,-Q2];(repeat with_reducible refine sdQ ?_);refine Qn (fun g=>?_) (fun g=>?_)
     ·have g55:s53.2<(s53.1.length:Int):=gQ;clear g;replace h:=if_l g55 h;simp [-Q0,-Q5,-Q1,-Q6,-Q2];(repeat refine sdQ ?_);refine hK _ ?_;exact jn (b:=(ix s36.1 (ix (rx pairs_ s36.2) 0)) != (ix s36.1 (ix (rx pairs_ s36.2) 1))) (Option.some.inj h) (Qi [(0,0)])
     have g55:¬ (s53.2<(s53.1.length:Int)):=gQ;clear g;replace h:=if_r g55 h;simp [-Q0,-Q5,-Q1,-Q6,-Q2];(repeat refine sdQ ?_);refine hK _ ?_;exact jn (b:=false) (Option.some.inj h) (Qi [(0,0)])
    intro b54 hb54;have h:=h54;(try rw [← hb54] at h);clear h54;(try dsimp only at h);refine Qc rfl (fun g=>?_) fun g=>?_
    ·have g56:b54=true:=gQ;clear g;replace h:=if_l g56 h;refine Qd ?_;refine tn ?_;refine Q3 ?_;replace h:=bind_some h;obtain ⟨e57,h,h57⟩:=h;refine Qj (fun b57:List Int=>⟨[(1,.lst true 1 (Ls pairs_)),(5,.own 0 0 b57.length),(7,iV s36.2),(8,iV (ix s36.1 (ix (rx pairs_ s36.2) 0))),(9,iV (ix s36.1 (ix (rx pairs_ s36.2) 1))),(10,iV s53.2)],[(0,rI b57)],1⟩) (fun b57=>b57=e57) ?_ ?_
     ·refine Qa ?_;refine Q3 ?_;refine runQ hN fun K hK=>?_;replace h:=Q4 h;obtain ⟨a58,h⟩:=h;simp [-Q0,-Q5,-Q1,-Q6,-Q2,at_I a58];(repeat refine sdQ ?_);refine hK _ ?_;clear hK K;refine tn ?_;refine Q8 (st':=⟨[(1,.lst true 1 (Ls pairs_)),(5,.own 0 0 s53.1.length),(7,iV s36.2),(8,iV (ix s36.1 (ix (rx pairs_ s36.2) 0))),(9,iV (ix s36.1 (ix (rx pairs_ s36.2) 1))),(10,iV s53.2),(61,.val (.bool ((ix s53.1 s53.2) == (ix s36.1 (ix (rx pairs_ s36.2) 1)))))],[(0,rI s53.1)],1⟩) (Qi [(0,0)]) ?_;refine Qc rfl (fun g=>?_) fun g=>?_
      ·have g59:(ix s53.1 s53.2)=(ix s36.1 (ix (rx pairs_ s36.2) 1)):=gQ;clear g;replace h:=if_l g59 h;refine runQ hN fun K hK=>?_;replace h:=Q4 h;obtain ⟨a60,h⟩:=h;simp [-Q0,-Q5,-Q1,-Q6,-Q2,at_I a60];(repeat refine sdQ ?_);refine hK _ ?_;clear hK K;refine bn ?_;exact jn (b:=s53.1.set s53.2.toNat (ix s36.1 (ix (rx pairs_ s36.2) 0))) (Option.some.inj h) (Qi [(0,0)])
      have g59:¬ ((ix s53.1 s53.2)=(ix s36.1 (ix (rx pairs_ s36.2) 1))):=gQ;clear g;replace h:=if_r g59 h;refine Qd ?_;refine bn ?_;exact jn (b:=s53.1) (Option.some.inj h) (Qi [(0,0)])
     intro b57 hb57;have h:=h57;(try rw [← hb57] at h);clear h57;(try dsimp only at h);refine runQ hN fun K hK=>?_;replace h:=Q4 h;obtain ⟨a61,h⟩:=h;simp [-Q0,-Q5,-Q1,-Q6,-Q2,Qt a61];(repeat refine sdQ ?_);refine hK _ ?_;clear hK K;cases h;exact rn (s':=(b57,s53.2+1)) hk53 (Qi [(0,0)])
    have g56:¬ (b54=true):=gQ;clear g;replace h:=if_r g56 h;refine Qq ?_;refine tx ?_;refine lx ?_;refine bh ?_;refine bn ?_;cases h;have q:_=e53:=hk53;have h:=h53;rw [← q] at h;clear q;(try dsimp only at h);exact jn (b:=s53.1) (Option.some.inj h) (Qi [(0,0)])
   intro b38 hb38;have h:=h38;(try rw [← hb38] at h);clear h38;(try dsimp only at h);refine runQ hN fun K hK=>?_;replace h:=Q4 h;obtain ⟨a62,h⟩:=h;simp [-Q0,-Q5,-Q1,-Q6,-Q2,Qt a62];(repeat refine sdQ ?_);refine hK _ ?_;clear hK K;cases h;exact rn (s':=(b38,s36.2+1)) hk36 (Qi [(0,0)])
  have g37:¬ (s36.2<(pairs_.length:Int)):=gQ;clear g;replace h:=if_r g37 h;refine Qq ?_;refine tx ?_;refine lx ?_;refine bh ?_;cases h;exact jn (b:=s36.1) hk36 (Qi [(0,0)])
 intro b9 hb9;have h:=h9;try rw [← hb9] at h
 clear h9;try dsimp only at h
 refine Q3 ?_;refine runQ hN fun K hK=>?_;simp [-Q0,-Q5,-Q1,-Q6,-Q2];repeat with_reducible refine sdQ ?_
 replace h:=bind_some h;obtain ⟨v63,hv63,h⟩:=h;refine Q7 (Q5h _ v63 hv63) (.cons (.whole (by simp) (by simp) (by simp)) .nil) ?_;simp [-Q0,-Q5,-Q1,-Q6,-Q2,unk,unA,unE,unT,unC,flat];repeat refine sdQ ?_
 refine hK _ ?_;clear hK K;refine tn ?_;refine Q8 (st':=⟨[(4,.own 0 0 v63.length)],[(0,rI v63)],1⟩) (Qi [(1,0)]) ?_;refine Qk ?_;have hr:=Option.some.inj h;rw [← hr];refine ⟨_,(.tmp .nil),?_⟩;refine ⟨(.one rfl rfl .nil),[lI v63],[0],by simp [UA,U1,IA,I1,LA,L1,BA,B1,EA,E1,E2,eB,eI,eL],by simp,(UpL.refl _)⟩
attribute [local simp] eL eI Qs QH Q1B Cat.cells Fn.cells
noncomputable def Q2o (f_:Fn) (g_:Fn) (iso_:Bool) (most_:Int):Option (List (List Int)) :=
 (QA (σ:=List (List Int) × Int) (ε:=List (List Int)) (fun s7 =>
  if s7.2<(f_.s.fr.length:Int) then
   ass (0≤s7.2∧s7.2<(f_.s.fr.length:Int)) <|
   ass (0≤s7.2∧s7.2<(f_.s.to.length:Int)) <|
   ass ((s7.1++[[ix f_.s.fr s7.2,ix f_.s.to s7.2]]).length≤1073741824) <|
   ass (B64 (s7.2+1)) <|
   some (Ctl.next (s7.1++[[ix f_.s.fr s7.2,ix f_.s.to s7.2]],s7.2+1))
  else
   some (Ctl.ret s7.1)) fuel ([],0)).bind fun b1 =>
 (Q2m f_.s.n b1).bind fun v13 =>
 (QA (σ:=List Int × Int) (ε:=(List Int) ⊕ (List (List Int))) (fun s36 =>
  if s36.2<(v13.length:Int) then
   ass ((s36.1++[(-1)]).length≤1073741824) <|
   (QA (σ:=List Int × Int) (ε:=List Int) (fun s47 =>
    if s47.2<(v13.length:Int) then
     (
      ass (0≤s47.2∧s47.2<(v13.length:Int)) <|
      if (ix v13 s47.2)=s36.2 then
       ass ((s47.1++[(-1)]).length≤1073741824) <|
       some (s47.1++[(-1)])
      else
       ass ((s47.1++[(-2)]).length≤1073741824) <|
       some (s47.1++[(-2)]):Option (List Int)).bind fun b49 =>
     ass (B64 (s47.2+1)) <|
     some (Ctl.next (b49,s47.2+1))
    else
     some (Ctl.ret s47.1)) fuel ([],0)).bind fun b39 =>
   (QP 100 f_ g_ iso_ 1 [] b39).bind fun v55 =>
   if (v55.length:Int)=0 then
    some (Ctl.ret (Sum.inr []))
   else
    ass (B64 (s36.2+1)) <|
    some (Ctl.next (s36.1++[(-1)],s36.2+1))
  else
   some (Ctl.ret (Sum.inl s36.1))) fuel ([],0)).bind fun e14 =>
 match e14 with
 | .inl b14 =>
  (QP 100 f_ g_ iso_ most_ [] b14).bind fun v58 =>
  some v58
 | .inr p14 =>
  some p14
theorem Q7v (f_:Fn) (g_:Fn) (iso_:Bool) (most_:Int) (r:List (List Int)) (h:Q2o f_ g_ iso_ most_=some r):Contract Try.prog 138 [.agg (f_.cells true),.agg (g_.cells true),.val (.bool iso_),iV most_] (.lst true 1 (Ls r)):=by
 refine Qe (rvs:=[.tmp 8]) (rs:=[.lst true 1 (Ls r)]) Try.func138 rfl rfl rfl rfl (by simp [Try.f138]) fun F hN hP=>?_;unfold Q2o at h;refine Q3 ?_;refine runQ hN fun K hK=>?_;simp [-Q0,-Q5,-Q1,-Q6,-Q2];repeat refine sdQ ?_
 refine hK _ ?_;clear hK K;refine tn ?_;refine Q8 (st':=⟨[(2,.val (.bool iso_)),(3,iV most_),(4,.adr 0 0 0),(5,.adr 1 0 0)],[(0,.mix 12 [(Fn.cells true f_)]),(1,.mix 12 [(Fn.cells true g_)])],2⟩) (Qi [(0,0),(1,1)]) ?_;refine Q3 ?_;refine runQ hN fun K hK=>?_;simp [-Q0,-Q5,-Q1,-Q6,-Q2];repeat refine sdQ ?_
 refine hK _ ?_;clear hK K;refine tn ?_;refine Q8 (st':=⟨[(2,.val (.bool iso_)),(3,iV most_),(4,.adr 0 0 0),(5,.adr 1 0 0),(9,.adr 2 0 0)],[(0,.mix 12 [(Fn.cells true f_)]),(1,.mix 12 [(Fn.cells true g_)]),(2,.mix 5 [(Cat.cells true f_.s)])],3⟩) (Qi [(0,0),(1,1),(2,2)]) ?_;refine Q3 ?_;refine runQ hN fun K hK=>?_;simp [-Q0,-Q5,-Q1,-Q6,-Q2];repeat refine sdQ ?_
 refine hK _ ?_;clear hK K;refine tn ?_;refine Q8 (st':=⟨[(2,.val (.bool iso_)),(3,iV most_),(4,.adr 0 0 0),(5,.adr 1 0 0),(9,.adr 2 0 0),(10,.own 3 0 0)],[(0,.mix 12 [(Fn.cells true f_)]),(1,.mix 12 [(Fn.cells true g_)]),(2,.mix 5 [(Cat.cells true f_.s)]),(3,.mix 1 [])],4⟩) (Qi [(0,0),(1,1),(2,2),(3,3)]) ?_;refine Q3 ?_;refine Q3 ?_;refine runQ hN fun K hK=>?_;simp [-Q0,-Q5,-Q1,-Q6,-Q2];repeat refine sdQ ?_
 refine hK _ ?_;clear hK K;refine tn ?_;refine Q8 (st':=⟨[(2,.val (.bool iso_)),(3,iV most_),(4,.adr 0 0 0),(5,.adr 1 0 0),(9,.adr 2 0 0),(10,.own 3 0 0),(11,iV 0)],[(0,.mix 12 [(Fn.cells true f_)]),(1,.mix 12 [(Fn.cells true g_)]),(2,.mix 5 [(Cat.cells true f_.s)]),(3,.mix 1 [])],4⟩) (Qi [(0,0),(1,1),(2,2),(3,3)]) ?_;replace h:=bind_some h;obtain ⟨e1,h,h1⟩:=h;refine Qj (fun b1:List (List Int)=>⟨[(2,.val (.bool iso_)),(3,iV most_),(4,.adr 0 0 0),(5,.adr 1 0 0),(9,.adr 2 0 0),(10,.own 3 0 b1.length)],[(0,.mix 12 [(Fn.cells true f_)]),(1,.mix 12 [(Fn.cells true g_)]),(2,.mix 5 [(Cat.cells true f_.s)]),(3,.row 1 (Ls b1))],4⟩) (fun b1=>b1=e1) ?_ ?_
 ·refine Qa ?_;refine Qx h (fun s7:List (List Int) × Int=>⟨[(2,.val (.bool iso_)),(3,iV most_),(4,.adr 0 0 0),(5,.adr 1 0 0),(9,.adr 2 0 0),(10,.own 3 0 s7.1.length),(11,iV s7.2)],[(0,.mix 12 [(Fn.cells true f_)]),(1,.mix 12 [(Fn.cells true g_)]),(2,.mix 5 [(Cat.cells true f_.s)]),(3,.row 1 (Ls s7.1))],4⟩) (Q2N ⟨[(2,.val (.bool iso_)),(3,iV most_),(4,.adr 0 0 0),(5,.adr 1 0 0),(9,.adr 2 0 0),(10,.own 3 0 0),(11,iV 0)],[(0,.mix 12 [(Fn.cells true f_)]),(1,.mix 12 [(Fn.cells true g_)]),(2,.mix 5 [(Cat.cells true f_.s)]),(3,.row 1 (Ls []))],4⟩ (Wk.nils [] (by simp) (by simp) (by simp [nlA]) (by simp [entN,nlL,nlA,Cat.cells,Fn.cells,UA,U1,IA,I1,LA,L1,BA,B1,EA,E1,E2,eB,eI,eL]) (by simp)) (Qi [(0,0),(1,1),(2,2),(3,3)])) ?_;clear h;intro k7 s7 c7 h hk7;refine Q3 ?_;refine Q3 ?_;refine runQ hN fun K hK=>?_;simp [-Q0,-Q5,-Q1,-Q6,-Q2];repeat refine sdQ ?_
  refine hK _ ?_;clear hK K;refine tn ?_;refine Q8 (st':=⟨[(2,.val (.bool iso_)),(3,iV most_),(4,.adr 0 0 0),(5,.adr 1 0 0),(9,.adr 2 0 0),(10,.own 3 0 s7.1.length),(11,iV s7.2),(26,.val (.bool (decide (s7.2<(f_.s.fr.length:Int)))))],[(0,.mix 12 [(Fn.cells true f_)]),(1,.mix 12 [(Fn.cells true g_)]),(2,.mix 5 [(Cat.cells true f_.s)]),(3,.row 1 (Ls s7.1))],4⟩) (Qi [(0,0),(1,1),(2,2),(3,3)]) ?_;refine Qc rfl (fun g=>?_) fun g=>?_
  ·have g8:s7.2<(f_.s.fr.length:Int):=gQ;clear g;replace h:=if_l g8 h;refine Qd ?_;refine tn ?_;refine Q3 ?_;refine Qa ?_;refine runQ hN fun K hK=>?_;replace h:=Q4 h;obtain ⟨a9,h⟩:=h;replace h:=Q4 h;obtain ⟨a10,h⟩:=h;replace h:=Q4 h;obtain ⟨a11,h⟩:=h;(try simp only [List.length_append,List.length_cons,List.length_nil] at a11);simp [-Q0,-Q5,-Q1,-Q6,-Q2,at_I a9,at_I a10,a11];(repeat refine sdQ ?_);refine hK _ ?_;clear hK K;refine bn ?_;refine tn ?_;refine Q8 (st':=⟨[(2,.val (.bool iso_)),(3,iV most_),(4,.adr 0 0 0),(5,.adr 1 0 0),(9,.adr 2 0 0),(10,.own 3 0 ((s7.1++[[ix f_.s.fr s7.2,ix f_.s.to s7.2]]).length)),(11,iV s7.2)],[(0,.mix 12 [(Fn.cells true f_)]),(1,.mix 12 [(Fn.cells true g_)]),(2,.mix 5 [(Cat.cells true f_.s)]),(3,.row 1 (Ls (s7.1++[[ix f_.s.fr s7.2,ix f_.s.to s7.2]])))],4⟩) (Qi [(0,0),(1,1),(2,2),(6,3)]) ?_;refine runQ hN fun K hK=>?_;replace h:=Q4 h;obtain ⟨a12,h⟩:=h;simp [-Q0,-Q5,-Q1,-Q6,-Q2,Qt a12];(repeat refine sdQ ?_);refine hK _ ?_;clear hK K;cases h;exact rn (s':=(s7.1++[[ix f_.s.fr s7.2,ix f_.s.to s7.2]],s7.2+1)) hk7 (Qi [(0,0),(1,1),(2,2),(3,3)])
  have g8:¬ (s7.2<(f_.s.fr.length:Int)):=gQ;clear g;replace h:=if_r g8 h;refine Qq ?_;refine tx ?_;refine lx ?_;refine bh ?_;cases h;exact jn (b:=s7.1) hk7 (Qi [(0,0),(1,1),(2,2),(3,3)])
 intro b1 hb1;have h:=h1;try rw [← hb1] at h
 clear h1;try dsimp only at h
 refine Q3 ?_;refine runQ hN fun K hK=>?_;simp [-Q0,-Q5,-Q1,-Q6,-Q2];repeat with_reducible refine sdQ ?_
 replace h:=bind_some h;obtain ⟨v13,hv13,h⟩:=h;refine Q7 (Q7t _ _ v13 hv13) (.cons .val (.cons (.whole (by simp) (by simp) (by simp)) .nil)) ?_;simp [-Q0,-Q5,-Q1,-Q6,-Q2,unk,unA,unE,unT,unC,flat];repeat refine sdQ ?_
 refine hK _ ?_;clear hK K;refine tn ?_;refine Q8 (st':=⟨[(2,.val (.bool iso_)),(3,iV most_),(4,.adr 0 0 0),(5,.adr 1 0 0),(12,.own 2 0 v13.length)],[(0,.mix 12 [(Fn.cells true f_)]),(1,.mix 12 [(Fn.cells true g_)]),(2,rI v13)],3⟩) (Qi [(0,0),(1,1),(4,2)]) ?_;refine Q3 ?_;refine runQ hN fun K hK=>?_;simp [-Q0,-Q5,-Q1,-Q6,-Q2];repeat refine sdQ ?_
 refine hK _ ?_;clear hK K;refine tn ?_;refine Q8 (st':=⟨[(2,.val (.bool iso_)),(3,iV most_),(4,.adr 0 0 0),(5,.adr 1 0 0),(12,.own 2 0 v13.length),(13,.own 3 0 0)],[(0,.mix 12 [(Fn.cells true f_)]),(1,.mix 12 [(Fn.cells true g_)]),(2,rI v13),(3,.mix 1 [])],4⟩) (Qi [(0,0),(1,1),(2,2),(3,3)]) ?_;refine Q3 ?_;refine Q3 ?_;refine runQ hN fun K hK=>?_;simp [-Q0,-Q5,-Q1,-Q6,-Q2];repeat refine sdQ ?_
 refine hK _ ?_;clear hK K;refine tn ?_;refine Q8 (st':=⟨[(2,.val (.bool iso_)),(3,iV most_),(4,.adr 0 0 0),(5,.adr 1 0 0),(12,.own 2 0 v13.length),(13,.own 3 0 0),(14,iV 0)],[(0,.mix 12 [(Fn.cells true f_)]),(1,.mix 12 [(Fn.cells true g_)]),(2,rI v13),(3,.mix 1 [])],4⟩) (Qi [(0,0),(1,1),(2,2),(3,3)]) ?_;replace h:=bind_some h;obtain ⟨e14,h,h14⟩:=h;refine Qj (fun b14:List Int=>⟨[(2,.val (.bool iso_)),(3,iV most_),(4,.adr 0 0 0),(5,.adr 1 0 0),(13,.own 2 0 b14.length)],[(0,.mix 12 [(Fn.cells true f_)]),(1,.mix 12 [(Fn.cells true g_)]),(2,rI b14)],3⟩) (fun b14=>Sum.inl b14=e14) ?_ ?_
 ·refine Qa ?_;refine Qx h (fun s36:List Int × Int=>⟨[(2,.val (.bool iso_)),(3,iV most_),(4,.adr 0 0 0),(5,.adr 1 0 0),(12,.own 2 0 v13.length),(13,.own 3 0 s36.1.length),(14,iV s36.2)],[(0,.mix 12 [(Fn.cells true f_)]),(1,.mix 12 [(Fn.cells true g_)]),(2,rI v13),(3,rI s36.1)],4⟩) (Q2N ⟨[(2,.val (.bool iso_)),(3,iV most_),(4,.adr 0 0 0),(5,.adr 1 0 0),(12,.own 2 0 v13.length),(13,.own 3 0 0),(14,iV 0)],[(0,.mix 12 [(Fn.cells true f_)]),(1,.mix 12 [(Fn.cells true g_)]),(2,rI v13),(3,rI [])],4⟩ (Wk.nils [] (by simp) (by simp) (by simp [nlA]) (by simp [entN,nlL,nlA,Cat.cells,Fn.cells,UA,U1,IA,I1,LA,L1,BA,B1,EA,E1,E2,eB,eI,eL]) (by simp)) (Qi [(0,0),(1,1),(2,2),(3,3)])) ?_;clear h;intro k36 s36 c36 h hk36;refine Q3 ?_;refine Q3 ?_;refine runQ hN fun K hK=>?_;simp [-Q0,-Q5,-Q1,-Q6,-Q2];repeat refine sdQ ?_
  refine hK _ ?_;clear hK K;refine tn ?_;refine Q8 (st':=⟨[(2,.val (.bool iso_)),(3,iV most_),(4,.adr 0 0 0),(5,.adr 1 0 0),(12,.own 2 0 v13.length),(13,.own 3 0 s36.1.length),(14,iV s36.2),(51,.val (.bool (decide (s36.2<(v13.length:Int)))))],[(0,.mix 12 [(Fn.cells true f_)]),(1,.mix 12 [(Fn.cells true g_)]),(2,rI v13),(3,rI s36.1)],4⟩) (Qi [(0,0),(1,1),(2,2),(3,3)]) ?_;refine Qc rfl (fun g=>?_) fun g=>?_
  ·have g37:s36.2<(v13.length:Int):=gQ;clear g;replace h:=if_l g37 h;refine Qd ?_;refine tn ?_;refine Q3 ?_;refine Qa ?_;refine Q3 ?_;refine runQ hN fun K hK=>?_;replace h:=Q4 h;obtain ⟨a38,h⟩:=h;(try simp only [List.length_append,List.length_cons,List.length_nil] at a38);simp [-Q0,-Q5,-Q1,-Q6,-Q2,a38];(repeat refine sdQ ?_);refine hK _ ?_;clear hK K;refine tn ?_;refine Q8 (st':=⟨[(2,.val (.bool iso_)),(3,iV most_),(4,.adr 0 0 0),(5,.adr 1 0 0),(12,.own 2 0 v13.length),(13,.own 3 0 ((s36.1++[(-1)]).length)),(14,iV s36.2)],[(0,.mix 12 [(Fn.cells true f_)]),(1,.mix 12 [(Fn.cells true g_)]),(2,rI v13),(3,rI (s36.1++[(-1)]))],4⟩) (Qi [(0,0),(1,1),(2,2),(5,3)]) ?_;refine Q3 ?_;refine runQ hN fun K hK=>?_;simp [-Q0,-Q5,-Q1,-Q6,-Q2];(repeat refine sdQ ?_);refine hK _ ?_;clear hK K;refine tn ?_;refine Q8 (st':=⟨[(2,.val (.bool iso_)),(3,iV most_),(4,.adr 0 0 0),(5,.adr 1 0 0),(12,.own 2 0 v13.length),(13,.own 3 0 ((s36.1++[(-1)]).length)),(14,iV s36.2),(15,.own 4 0 0)],[(0,.mix 12 [(Fn.cells true f_)]),(1,.mix 12 [(Fn.cells true g_)]),(2,rI v13),(3,rI (s36.1++[(-1)])),(4,.mix 1 [])],5⟩) (Qi [(0,0),(1,1),(2,2),(3,3),(4,4)]) ?_;refine Q3 ?_;refine Q3 ?_;refine runQ hN fun K hK=>?_;simp [-Q0,-Q5,-Q1,-Q6,-Q2];(repeat refine sdQ ?_);refine hK _ ?_;clear hK K;refine tn ?_;refine Q8 (st':=⟨[(2,.val (.bool iso_)),(3,iV most_),(4,.adr 0 0 0),(5,.adr 1 0 0),(12,.own 2 0 v13.length),(13,.own 3 0 ((s36.1++[(-1)]).length)),(14,iV s36.2),(15,.own 4 0 0),(16,iV 0)],[(0,.mix 12 [(Fn.cells true f_)]),(1,.mix 12 [(Fn.cells true g_)]),(2,rI v13),(3,rI (s36.1++[(-1)])),(4,.mix 1 [])],5⟩) (Qi [(0,0),(1,1),(2,2),(3,3),(4,4)]) ?_;replace h:=bind_some h;obtain ⟨e39,h,h39⟩:=h;refine Qj (fun b39:List Int=>⟨[(2,.val (.bool iso_)),(3,iV most_),(4,.adr 0 0 0),(5,.adr 1 0 0),(12,.own 2 0 v13.length),(13,.own 3 0 ((s36.1++[(-1)]).length)),(14,iV s36.2),(15,.own 4 0 b39.length)],[(0,.mix 12 [(Fn.cells true f_)]),(1,.mix 12 [(Fn.cells true g_)]),(2,rI v13),(3,rI (s36.1++[(-1)])),(4,rI b39)],5⟩) (fun b39=>b39=e39) ?_ ?_
   ·refine Qa ?_;refine Qx h (fun s47:List Int × Int=>⟨[(2,.val (.bool iso_)),(3,iV most_),(4,.adr 0 0 0),(5,.adr 1 0 0),(12,.own 2 0 v13.length),(13,.own 3 0 ((s36.1++[(-1)]).length)),(14,iV s36.2),(15,.own 4 0 s47.1.length),(16,iV s47.2)],[(0,.mix 12 [(Fn.cells true f_)]),(1,.mix 12 [(Fn.cells true g_)]),(2,rI v13),(3,rI (s36.1++[(-1)])),(4,rI s47.1)],5⟩) (Q2N ⟨[(2,.val (.bool iso_)),(3,iV most_),(4,.adr 0 0 0),(5,.adr 1 0 0),(12,.own 2 0 v13.length),(13,.own 3 0 ((s36.1++[(-1)]).length)),(14,iV s36.2),(15,.own 4 0 0),(16,iV 0)],[(0,.mix 12 [(Fn.cells true f_)]),(1,.mix 12 [(Fn.cells true g_)]),(2,rI v13),(3,rI (s36.1++[(-1)])),(4,rI [])],5⟩ (Wk.nils [] (by simp) (by simp) (by simp [nlA]) (by simp [entN,nlL,nlA,Cat.cells,Fn.cells,UA,U1,IA,I1,LA,L1,BA,B1,EA,E1,E2,eB,eI,eL]) (by simp)) (Qi [(0,0),(1,1),(2,2),(3,3),(4,4)])) ?_;clear h;intro k47 s47 c47 h hk47;refine Q3 ?_;refine Q3 ?_;refine runQ hN fun K hK=>?_;simp [-Q0,-Q5,-Q1,-Q6,-Q2];(repeat refine sdQ ?_);refine hK _ ?_;clear hK K;refine tn ?_;refine Q8 (st':=⟨[(2,.val (.bool iso_)),(3,iV most_),(4,.adr 0 0 0),(5,.adr 1 0 0),(12,.own 2 0 v13.length),(13,.own 3 0 ((s36.1++[(-1)]).length)),(14,iV s36.2),(15,.own 4 0 s47.1.length),(16,iV s47.2),(61,.val (.bool (decide (s47.2<(v13.length:Int)))))],[(0,.mix 12 [(Fn.cells true f_)]),(1,.mix 12 [(Fn.cells true g_)]),(2,rI v13),(3,rI (s36.1++[(-1)])),(4,rI s47.1)],5⟩) (Qi [(0,0),(1,1),(2,2),(3,3),(4,4)]) ?_;refine Qc rfl (fun g=>?_) fun g=>?_
    ·have g48:s47.2<(v13.length:Int):=gQ;clear g;replace h:=if_l g48 h;refine Qd ?_;refine tn ?_;refine Q3 ?_;replace h:=bind_some h;obtain ⟨e49,h,h49⟩:=h;refine Qj (fun b49:List Int=>⟨[(2,.val (.bool iso_)),(3,iV most_),(4,.adr 0 0 0),(5,.adr 1 0 0),(12,.own 2 0 v13.length),(13,.own 3 0 ((s36.1++[(-1)]).length)),(14,iV s36.2),(15,.own 4 0 b49.length),(16,iV s47.2)],[(0,.mix 12 [(Fn.cells true f_)]),(1,.mix 12 [(Fn.cells true g_)]),(2,rI v13),(3,rI (s36.1++[(-1)])),(4,rI b49)],5⟩) (fun b49=>b49=e49) ?_ ?_
     ·refine Qa ?_;refine Q3 ?_;refine runQ hN fun K hK=>?_;replace h:=Q4 h;obtain ⟨a50,h⟩:=h;simp [-Q0,-Q5,-Q1,-Q6,-Q2,at_I a50];(repeat refine sdQ ?_);refine hK _ ?_;clear hK K;refine tn ?_;refine Q8 (st':=⟨[(2,.val (.bool iso_)),(3,iV most_),(4,.adr 0 0 0),(5,.adr 1 0 0),(12,.own 2 0 v13.length),(13,.own 3 0 ((s36.1++[(-1)]).length)),(14,iV s36.2),(15,.own 4 0 s47.1.length),(16,iV s47.2),(69,.val (.bool ((ix v13 s47.2) == s36.2)))],[(0,.mix 12 [(Fn.cells true f_)]),(1,.mix 12 [(Fn.cells true g_)]),(2,rI v13),(3,rI (s36.1++[(-1)])),(4,rI s47.1)],5⟩) (Qi [(0,0),(1,1),(2,2),(3,3),(4,4)]) ?_;refine Qc rfl (fun g=>?_) fun g=>?_
      ·have g51:(ix v13 s47.2)=s36.2:=gQ;clear g;replace h:=if_l g51 h;refine runQ hN fun K hK=>?_;replace h:=Q4 h;obtain ⟨a52,h⟩:=h;(try simp only [List.length_append,List.length_cons,List.length_nil] at a52);simp [-Q0,-Q5,-Q1,-Q6,-Q2,a52];(repeat refine sdQ ?_);refine hK _ ?_;clear hK K;refine bn ?_;exact jn (b:=s47.1++[(-1)]) (Option.some.inj h) (Qi [(0,0),(1,1),(2,2),(3,3),(6,4)])
      have g51:¬ ((ix v13 s47.2)=s36.2):=gQ;clear g;replace h:=if_r g51 h;refine runQ hN fun K hK=>?_;replace h:=Q4 h;obtain ⟨a53,h⟩:=h;(try simp only [List.length_append,List.length_cons,List.length_nil] at a53);simp [-Q0,-Q5,-Q1,-Q6,-Q2,a53];(repeat refine sdQ ?_);refine hK _ ?_;clear hK K;refine bn ?_;exact jn (b:=s47.1++[(-2)]) (Option.some.inj h) (Qi [(0,0),(1,1),(2,2),(3,3),(6,4)])
     intro b49 hb49;have h:=h49;(try rw [← hb49] at h);clear h49;(try dsimp only at h);refine runQ hN fun K hK=>?_;replace h:=Q4 h;obtain ⟨a54,h⟩:=h;simp [-Q0,-Q5,-Q1,-Q6,-Q2,Qt a54];(repeat refine sdQ ?_);refine hK _ ?_;clear hK K;cases h;exact rn (s':=(b49,s47.2+1)) hk47 (Qi [(0,0),(1,1),(2,2),(3,3),(4,4)])
    have g48:¬ (s47.2<(v13.length:Int)):=gQ;clear g;replace h:=if_r g48 h;refine Qq ?_;refine tx ?_;refine lx ?_;refine bh ?_;cases h;exact jn (b:=s47.1) hk47 (Qi [(0,0),(1,1),(2,2),(3,3),(4,4)])
   intro b39 hb39;have h:=h39;(try rw [← hb39] at h);clear h39;(try dsimp only at h);refine Q3 ?_;refine runQ hN fun K hK=>?_;simp [-Q0,-Q5,-Q1,-Q6,-Q2];(repeat refine sdQ ?_);refine hK _ ?_;clear hK K;refine tn ?_;refine Q8 (st':=⟨[(2,.val (.bool iso_)),(3,iV most_),(4,.adr 0 0 0),(5,.adr 1 0 0),(12,.own 2 0 v13.length),(13,.own 3 0 ((s36.1++[(-1)]).length)),(14,iV s36.2),(15,.own 4 0 b39.length),(17,.adr 5 0 0)],[(0,.mix 12 [(Fn.cells true f_)]),(1,.mix 12 [(Fn.cells true g_)]),(2,rI v13),(3,rI (s36.1++[(-1)])),(4,rI b39),(5,.mix 27 [[iV f_.s.n,lI f_.s.fr,lI f_.s.to,lI f_.s.id,.lst true 1 (Ls f_.s.cs),iV f_.t.n,lI f_.t.fr,lI f_.t.to,lI f_.t.id,.lst true 1 (Ls f_.t.cs),lI f_.ob,lI f_.ar,iV g_.s.n,lI g_.s.fr,lI g_.s.to,lI g_.s.id,.lst true 1 (Ls g_.s.cs),iV g_.t.n,lI g_.t.fr,lI g_.t.to,lI g_.t.id,.lst true 1 (Ls g_.t.cs),lI g_.ob,lI g_.ar,.val (.bool iso_),iV 1,.own 6 0 0]]),(6,.row 1 (Ls []))],7⟩) (Q2N ⟨[(2,.val (.bool iso_)),(3,iV most_),(4,.adr 0 0 0),(5,.adr 1 0 0),(12,.own 2 0 v13.length),(13,.own 3 0 ((s36.1++[(-1)]).length)),(14,iV s36.2),(15,.own 4 0 b39.length),(17,.adr 5 0 0)],[(0,.mix 12 [(Fn.cells true f_)]),(1,.mix 12 [(Fn.cells true g_)]),(2,rI v13),(3,rI (s36.1++[(-1)])),(4,rI b39),(5,.mix 27 [[iV f_.s.n,lI f_.s.fr,lI f_.s.to,lI f_.s.id,.lst true 1 (Ls f_.s.cs),iV f_.t.n,lI f_.t.fr,lI f_.t.to,lI f_.t.id,.lst true 1 (Ls f_.t.cs),lI f_.ob,lI f_.ar,iV g_.s.n,lI g_.s.fr,lI g_.s.to,lI g_.s.id,.lst true 1 (Ls g_.s.cs),iV g_.t.n,lI g_.t.fr,lI g_.t.to,lI g_.t.id,.lst true 1 (Ls g_.t.cs),lI g_.ob,lI g_.ar,.val (.bool iso_),iV 1,.own 6 0 0]]),(6,.row 1 (Ls []))],7⟩ (Wk.nils [(6,1)] (by simp) (by simp) (by simp [nlA]) (by simp [entN,nlL,nlA,Cat.cells,Fn.cells,UA,U1,IA,I1,LA,L1,BA,B1,EA,E1,E2,eB,eI,eL]) (by simp)) (Qi [(0,0),(1,1),(2,2),(3,3),(4,4),(5,5),(6,6)])) ?_;refine Q3 ?_;refine Q3n [] mo (by rw [hN];decide) fun K hK=>?_;simp [-Q0,-Q5,-Q1,-Q6,-Q2];(repeat with_reducible refine sdQ ?_);replace h:=bind_some h;obtain ⟨v55,hv55,h⟩:=h
   refine Q2s (fz:=[]) (ICon.frameL (e:={ v:=.tup [],set:=[(5,.mix 27 [[iV f_.s.n,lI f_.s.fr,lI f_.s.to,lI f_.s.id,.lst true 1 (Ls f_.s.cs),iV f_.t.n,lI f_.t.fr,lI f_.t.to,lI f_.t.id,.lst true 1 (Ls f_.t.cs),lI f_.ob,lI f_.ar,iV g_.s.n,lI g_.s.fr,lI g_.s.to,lI g_.s.id,.lst true 1 (Ls g_.s.cs),iV g_.t.n,lI g_.t.fr,lI g_.t.to,lI g_.t.id,.lst true 1 (Ls g_.t.cs),lI g_.ob,lI g_.ar,.val (.bool iso_),iV 1,.own 7 0 v55.length]])],del:=[6],new:=[(7,.row 1 (Ls v55))],cnt:=1 }) (Q3B 100 _ _ _ _ _ _ v55 hv55) [(0,5),(1,6),(2,4)] (by rfl) (by simp) (by simp [rl,rlL,rlLL,rlE,rlE',back,mxt,look,trm,List.range,List.range.loop,Qw,Cat.cells,Fn.cells]) (by simp [rl,rlL,rlLL,rlE,rlE',back,mxt,look,trm,List.range,List.range.loop,Qw,Cat.cells,Fn.cells]) (by simp [Q3f]) (by rfl) (by simp [rl,rlL,rlLL,rlE,rlE',back,mxt,look,trm,List.range,List.range.loop,Qw,Cat.cells,Fn.cells]) (by simp [rl,rlL,rlLL,rlE,rlE',back,mxt,look,trm,List.range,List.range.loop,Qw,Cat.cells,Fn.cells]) (by simp [rl,rlL,rlLL,rlE,rlE',back,mxt,look,trm,List.range,List.range.loop,Qw,Cat.cells,Fn.cells]) (by simp [rl,rlL,rlLL,rlE,rlE',back,mxt,look,trm,List.range,List.range.loop,Qw,Cat.cells,Fn.cells]) (by simp [Q3f]) (by rfl) (Q5c (by simp))) ?_;simp [-Q0,-Q5,-Q1,-Q6,-Q2,unk,unA,unE,unT,unC,flat];(repeat refine sdQ ?_);refine hK _ ?_;clear hK K;refine tn ?_;refine Q8 (st':=⟨[(2,.val (.bool iso_)),(3,iV most_),(4,.adr 0 0 0),(5,.adr 1 0 0),(12,.own 2 0 v13.length),(13,.own 3 0 ((s36.1++[(-1)]).length)),(14,iV s36.2),(17,.adr 4 0 0)],[(0,.mix 12 [(Fn.cells true f_)]),(1,.mix 12 [(Fn.cells true g_)]),(2,rI v13),(3,rI (s36.1++[(-1)])),(4,.mix 27 [[iV f_.s.n,lI f_.s.fr,lI f_.s.to,lI f_.s.id,.lst true 1 (Ls f_.s.cs),iV f_.t.n,lI f_.t.fr,lI f_.t.to,lI f_.t.id,.lst true 1 (Ls f_.t.cs),lI f_.ob,lI f_.ar,iV g_.s.n,lI g_.s.fr,lI g_.s.to,lI g_.s.id,.lst true 1 (Ls g_.s.cs),iV g_.t.n,lI g_.t.fr,lI g_.t.to,lI g_.t.id,.lst true 1 (Ls g_.t.cs),lI g_.ob,lI g_.ar,.val (.bool iso_),iV 1,.own 5 0 v55.length]]),(5,.row 1 (Ls v55))],6⟩) (Qi [(0,0),(1,1),(2,2),(3,3),(5,4),(7,5)]) ?_;refine Q3 ?_;refine runQ hN fun K hK=>?_;simp [-Q0,-Q5,-Q1,-Q6,-Q2];(repeat refine sdQ ?_);refine hK _ ?_;clear hK K;refine tn ?_;refine Q8 (st':=⟨[(2,.val (.bool iso_)),(3,iV most_),(4,.adr 0 0 0),(5,.adr 1 0 0),(12,.own 2 0 v13.length),(13,.own 3 0 ((s36.1++[(-1)]).length)),(14,iV s36.2),(89,.val (.bool ((v55.length:Int) == 0)))],[(0,.mix 12 [(Fn.cells true f_)]),(1,.mix 12 [(Fn.cells true g_)]),(2,rI v13),(3,rI (s36.1++[(-1)]))],4⟩) (Qi [(0,0),(1,1),(2,2),(3,3)]) ?_;refine Qc rfl (fun g=>?_) fun g=>?_
   ·have g56:(v55.length:Int)=0:=gQ;clear g;replace h:=if_l g56 h;refine Q3 ?_;refine runQ hN fun K hK=>?_;simp [-Q0,-Q5,-Q1,-Q6,-Q2];(repeat refine sdQ ?_);refine hK _ ?_;clear hK K;refine tn ?_;refine Q8 (st':=⟨[(8,.own 0 0 0)],[(0,.mix 1 [])],1⟩) (Qi [(4,0)]) ?_;refine Qk ?_;refine br ?_;refine tr ?_;refine lr ?_;refine br ?_;refine tr ?_;cases h;have q:_=e14:=hk36;have h:=h14;rw [← q] at h;clear q;(try dsimp only at h);have hr:=Option.some.inj h;rw [← hr];refine ⟨_,(.tmp .nil),?_⟩;refine ⟨(.one rfl rfl .nil),[.lst true 1 (Ls [])],[0],by simp [Cat.cells,Fn.cells,UA,U1,IA,I1,LA,L1,BA,B1,EA,E1,E2,eB,eI,eL],by simp,(UpL.refl _)⟩
   have g56:¬ ((v55.length:Int)=0):=gQ;clear g;replace h:=if_r g56 h;refine Qd ?_;refine bn ?_;refine tn ?_;refine runQ hN fun K hK=>?_;replace h:=Q4 h;obtain ⟨a57,h⟩:=h;simp [-Q0,-Q5,-Q1,-Q6,-Q2,Qt a57];(repeat refine sdQ ?_);refine hK _ ?_;clear hK K;cases h;exact rn (s':=(s36.1++[(-1)],s36.2+1)) hk36 (Qi [(0,0),(1,1),(2,2),(3,3)])
  have g37:¬ (s36.2<(v13.length:Int)):=gQ;clear g;replace h:=if_r g37 h;refine Qq ?_;refine tx ?_;refine lx ?_;refine bh ?_;cases h;exact jn (b:=s36.1) hk36 (Qi [(0,0),(1,1),(3,2)])
 intro b14 hb14;have h:=h14;try rw [← hb14] at h
 clear h14;try dsimp only at h
 refine Q3 ?_;refine runQ hN fun K hK=>?_;simp [-Q0,-Q5,-Q1,-Q6,-Q2];repeat refine sdQ ?_
 refine hK _ ?_;clear hK K;refine tn ?_;refine Q8 (st':=⟨[(13,.own 0 0 b14.length),(18,.adr 1 0 0)],[(0,rI b14),(1,.mix 27 [[iV f_.s.n,lI f_.s.fr,lI f_.s.to,lI f_.s.id,.lst true 1 (Ls f_.s.cs),iV f_.t.n,lI f_.t.fr,lI f_.t.to,lI f_.t.id,.lst true 1 (Ls f_.t.cs),lI f_.ob,lI f_.ar,iV g_.s.n,lI g_.s.fr,lI g_.s.to,lI g_.s.id,.lst true 1 (Ls g_.s.cs),iV g_.t.n,lI g_.t.fr,lI g_.t.to,lI g_.t.id,.lst true 1 (Ls g_.t.cs),lI g_.ob,lI g_.ar,.val (.bool iso_),iV most_,.own 2 0 0]]),(2,.row 1 (Ls []))],3⟩) (Q2N ⟨[(13,.own 2 0 b14.length),(18,.adr 4 0 0)],[(2,rI b14),(3,.row 1 (Ls [])),(4,.mix 27 [[iV f_.s.n,lI f_.s.fr,lI f_.s.to,lI f_.s.id,.lst true 1 (Ls f_.s.cs),iV f_.t.n,lI f_.t.fr,lI f_.t.to,lI f_.t.id,.lst true 1 (Ls f_.t.cs),lI f_.ob,lI f_.ar,iV g_.s.n,lI g_.s.fr,lI g_.s.to,lI g_.s.id,.lst true 1 (Ls g_.s.cs),iV g_.t.n,lI g_.t.fr,lI g_.t.to,lI g_.t.id,.lst true 1 (Ls g_.t.cs),lI g_.ob,lI g_.ar,.val (.bool iso_),iV most_,.own 3 0 0]])],5⟩ (Wk.nils [] (by simp) (by simp) (by simp [nlA]) (by simp [entN,nlL,nlA,Cat.cells,Fn.cells,UA,U1,IA,I1,LA,L1,BA,B1,EA,E1,E2,eB,eI,eL]) (by simp)) (Qi [(2,0),(4,1),(3,2)])) ?_;refine Q3 ?_;refine Q3n [] mo (by rw [hN];decide) fun K hK=>?_;simp [-Q0,-Q5,-Q1,-Q6,-Q2];repeat with_reducible refine sdQ ?_
 replace h:=bind_some h;obtain ⟨v58,hv58,h⟩:=h;refine Q2s (fz:=[]) (ICon.frameL (e:={ v:=.tup [],set:=[(1,.mix 27 [[iV f_.s.n,lI f_.s.fr,lI f_.s.to,lI f_.s.id,.lst true 1 (Ls f_.s.cs),iV f_.t.n,lI f_.t.fr,lI f_.t.to,lI f_.t.id,.lst true 1 (Ls f_.t.cs),lI f_.ob,lI f_.ar,iV g_.s.n,lI g_.s.fr,lI g_.s.to,lI g_.s.id,.lst true 1 (Ls g_.s.cs),iV g_.t.n,lI g_.t.fr,lI g_.t.to,lI g_.t.id,.lst true 1 (Ls g_.t.cs),lI g_.ob,lI g_.ar,.val (.bool iso_),iV most_,.own 3 0 v58.length]])],del:=[2],new:=[(3,.row 1 (Ls v58))],cnt:=1 }) (Q3B 100 _ _ _ _ _ _ v58 hv58) [(0,1),(1,2),(2,0)] (by rfl) (by simp) (by simp [rl,rlL,rlLL,rlE,rlE',back,mxt,look,trm,List.range,List.range.loop,Qw,Cat.cells,Fn.cells]) (by simp [rl,rlL,rlLL,rlE,rlE',back,mxt,look,trm,List.range,List.range.loop,Qw,Cat.cells,Fn.cells]) (by simp [Q3f]) (by rfl) (by simp [rl,rlL,rlLL,rlE,rlE',back,mxt,look,trm,List.range,List.range.loop,Qw,Cat.cells,Fn.cells]) (by simp [rl,rlL,rlLL,rlE,rlE',back,mxt,look,trm,List.range,List.range.loop,Qw,Cat.cells,Fn.cells]) (by simp [rl,rlL,rlLL,rlE,rlE',back,mxt,look,trm,List.range,List.range.loop,Qw,Cat.cells,Fn.cells]) (by simp [rl,rlL,rlLL,rlE,rlE',back,mxt,look,trm,List.range,List.range.loop,Qw,Cat.cells,Fn.cells]) (by simp [Q3f]) (by rfl) (Q5c (by simp))) ?_;simp [-Q0,-Q5,-Q1,-Q6,-Q2,unk,unA,unE,unT,unC,flat];repeat refine sdQ ?_
 refine hK _ ?_;clear hK K;refine tn ?_;refine Q8 (st':=⟨[(18,.adr 0 0 0)],[(0,.mix 27 [[iV f_.s.n,lI f_.s.fr,lI f_.s.to,lI f_.s.id,.lst true 1 (Ls f_.s.cs),iV f_.t.n,lI f_.t.fr,lI f_.t.to,lI f_.t.id,.lst true 1 (Ls f_.t.cs),lI f_.ob,lI f_.ar,iV g_.s.n,lI g_.s.fr,lI g_.s.to,lI g_.s.id,.lst true 1 (Ls g_.s.cs),iV g_.t.n,lI g_.t.fr,lI g_.t.to,lI g_.t.id,.lst true 1 (Ls g_.t.cs),lI g_.ob,lI g_.ar,.val (.bool iso_),iV most_,.own 1 0 v58.length]]),(1,.row 1 (Ls v58))],2⟩) (Qi [(1,0),(3,1)]) ?_;refine Q3 ?_;refine runQ hN fun K hK=>?_;simp [-Q0,-Q5,-Q1,-Q6,-Q2];repeat refine sdQ ?_
 refine hK _ ?_;clear hK K;refine tn ?_;refine Q8 (st':=⟨[(8,.own 0 0 v58.length)],[(0,.row 1 (Ls v58))],1⟩) (Qi [(1,0)]) ?_;refine Qk ?_;have hr:=Option.some.inj h;rw [← hr];refine ⟨_,(.tmp .nil),?_⟩;refine ⟨(.one rfl rfl .nil),[.lst true 1 (Ls v58)],[0],by simp [Cat.cells,Fn.cells,UA,U1,IA,I1,LA,L1,BA,B1,EA,E1,E2,eB,eI,eL],by simp,(UpL.refl _)⟩
attribute [local simp] eL eI Qs QH Q24 Q1B Cat.cells Cone.cells Fn.cells
noncomputable def Q21 (d_:Fn):Option (List Cone) :=
 (QA (σ:=List Cone × Int) (ε:=List Cone) (fun s18 =>
  (
   if s18.2<d_.t.n then
    some (decide ((s18.1.length:Int)≤400))
   else
    some false:Option (Bool)).bind fun b19 =>
  if b19=true then
   (
    (Q1i d_.s d_.t s18.2).bind fun v23 =>
    ass (B64 (401 - (s18.1.length:Int))) <|
    (Q2o v23 d_ false (401 - (s18.1.length:Int))).bind fun v25 =>
    (QA (σ:=List Cone × Int) (ε:=List Cone) (fun s30 =>
     if s30.2<(v25.length:Int) then
      ass (0≤s30.2∧s30.2<(v25.length:Int)) <|
      ass ((s30.1++[(⟨s18.2,rx v25 s30.2⟩:Cone)]).length≤1073741824) <|
      ass (B64 (s30.2+1)) <|
      some (Ctl.next (s30.1++[(⟨s18.2,rx v25 s30.2⟩:Cone)],s30.2+1))
     else
      some (Ctl.ret s30.1)) fuel (s18.1,0)).bind fun p30 =>
    some p30:Option (List Cone)).bind fun b22 =>
   ass (B64 (s18.2+1)) <|
   some (Ctl.next (b22,s18.2+1))
  else
   some (Ctl.ret s18.1)) fuel ([],0)).bind fun b1 =>
 some b1
theorem Q6R (d_:Fn) (r:List Cone) (h:Q21 d_=some r):FContract Try.prog true 122 [.agg (d_.cells true)] (.lst true 2 (Es (Cone.cells true) r)):=by
 refine Q1C true (ts:=[2]) (rs:=[.lst true 2 (Es (Cone.cells true) r)]) Try.func122 rfl rfl rfl rfl (by simp [Try.f122]) fun F hN hP=>?_;unfold Q21 at h;refine Q3 ?_;refine Qm [1] mo (by rw [hN];decide) fun K hK=>?_;simp [-Q0,-Q5,-Q1,-Q6,-Q2];repeat refine sdQ ?_
 refine hK _ ?_;clear hK K;refine tn ?_;refine Q8 (st':=⟨[(1,.rptr (Fn.cells true d_))],[],0⟩) (Qi []) ?_;refine Q3 ?_;refine Qm [] mo (by rw [hN];decide) fun K hK=>?_;simp [-Q0,-Q5,-Q1,-Q6,-Q2];repeat refine sdQ ?_
 refine hK _ ?_;clear hK K;refine tn ?_;refine Q8 (st':=⟨[(1,.rptr (Fn.cells true d_)),(3,.own 0 0 0)],[(0,.mix 2 [])],1⟩) (Qi [(0,0)]) ?_;refine Q3 ?_;refine Q3 ?_;refine Qm [] mo (by rw [hN];decide) fun K hK=>?_;simp [-Q0,-Q5,-Q1,-Q6,-Q2];repeat refine sdQ ?_
 refine hK _ ?_;clear hK K;refine tn ?_;refine Q8 (st':=⟨[(1,.rptr (Fn.cells true d_)),(3,.own 0 0 0),(4,iV 0)],[(0,.mix 2 [])],1⟩) (Qi [(0,0)]) ?_;replace h:=bind_some h;obtain ⟨e1,h,h1⟩:=h;refine Qj (fun b1:List Cone=>⟨[(3,.own 0 0 b1.length)],[(0,.mix 2 (Es (Cone.cells true) b1))],1⟩) (fun b1=>b1=e1) ?_ ?_
 ·refine Qa ?_;refine Qx h (fun s18:List Cone × Int=>⟨[(1,.rptr (Fn.cells true d_)),(3,.own 0 0 s18.1.length),(4,iV s18.2)],[(0,.mix 2 (Es (Cone.cells true) s18.1))],1⟩) (Qi [(0,0)]) ?_;clear h;intro k18 s18 c18 h hk18;refine Q3 ?_;refine Q3 ?_;replace h:=bind_some h;obtain ⟨e19,h,h19⟩:=h;refine Qj (fun b19:Bool=>⟨[(1,.rptr (Fn.cells true d_)),(3,.own 0 0 s18.1.length),(4,iV s18.2),(17,.val (.bool b19))],[(0,.mix 2 (Es (Cone.cells true) s18.1))],1⟩) (fun b19=>b19=e19) ?_ ?_
  ·refine Qm [] mo (by rw [hN];decide) fun K hK=>?_;simp [-Q0,-Q5,-Q1,-Q6,-Q2];(repeat with_reducible refine sdQ ?_);refine Q3b (fun g=>?_) (fun g=>?_)
   ·have g20:s18.2<d_.t.n:=gQ;clear g;replace h:=if_l g20 h;simp [-Q0,-Q5,-Q1,-Q6,-Q2];(repeat refine sdQ ?_);refine hK _ ?_;exact jn (b:=decide ((s18.1.length:Int)≤400)) (Option.some.inj h) (Qi [(0,0)])
   have g20:¬ (s18.2<d_.t.n):=gQ;clear g;replace h:=if_r g20 h;simp [-Q0,-Q5,-Q1,-Q6,-Q2];(repeat refine sdQ ?_);refine hK _ ?_;exact jn (b:=false) (Option.some.inj h) (Qi [(0,0)])
  intro b19 hb19;have h:=h19;try rw [← hb19] at h
  clear h19;try dsimp only at h
  refine Qc rfl (fun g=>?_) fun g=>?_
  ·have g21:b19=true:=gQ;clear g;replace h:=if_l g21 h;refine Qd ?_;refine tn ?_;refine Q3 ?_;replace h:=bind_some h;obtain ⟨e22,h,h22⟩:=h;refine Qj (fun b22:List Cone=>⟨[(1,.rptr (Fn.cells true d_)),(3,.own 0 0 b22.length),(4,iV s18.2)],[(0,.mix 2 (Es (Cone.cells true) b22))],1⟩) (fun b22=>b22=e22) ?_ ?_
   ·refine Qa ?_;refine Q3 ?_;refine Qm [] mo (by rw [hN];decide) fun K hK=>?_;simp [-Q0,-Q5,-Q1,-Q6,-Q2];(repeat with_reducible refine sdQ ?_);replace h:=bind_some h;obtain ⟨v23,hv23,h⟩:=h;refine QE (fz:=[]) (Q56 _ _ _ v23 hv23) (.cons (.aggL (.cons .val (.cons .lst (.cons .lst (.cons .lst (.cons .lst .nil)))))) (.cons (.aggL (.cons .val (.cons .lst (.cons .lst (.cons .lst (.cons .lst .nil)))))) (.cons .val .nil))) ?_;replace h:=Q4 h;obtain ⟨a24,h⟩:=h;simp [-Q0,-Q5,-Q1,-Q6,-Q2,unk,unA,unE,unT,unC,flat,Qt a24];(repeat with_reducible refine sdQ ?_);replace h:=bind_some h;obtain ⟨v25,hv25,h⟩:=h;refine Q1S (fz:=[]) false (Contract.toF1 (Q7v _ _ _ _ v25 hv25)) (PurK.ofL (.cons (.aggL (.cons .val (.cons (.whole (by simp) (by simp) (by simp)) (.cons (.whole (by simp) (by simp) (by simp)) (.cons (.whole (by simp) (by simp) (by simp)) (.cons (.whole (by simp) (by simp) (by simp)) (.cons .val (.cons (.whole (by simp) (by simp) (by simp)) (.cons (.whole (by simp) (by simp) (by simp)) (.cons (.whole (by simp) (by simp) (by simp)) (.cons (.whole (by simp) (by simp) (by simp)) (.cons (.whole (by simp) (by simp) (by simp)) (.cons (.whole (by simp) (by simp) (by simp)) .nil))))))))))))) (.cons (.aggL (.cons .val (.cons .lst (.cons .lst (.cons .lst (.cons .lst (.cons .val (.cons .lst (.cons .lst (.cons .lst (.cons .lst (.cons .lst (.cons .lst .nil))))))))))))) (.cons .val (.cons .val .nil))))) ?_;simp [-Q0,-Q5,-Q1,-Q6,-Q2,unk,unA,unE,unT,unC,flat];(repeat refine sdQ ?_);refine hK _ ?_;clear hK K;refine tn ?_;refine Q8 (st':=⟨[(1,.rptr (Fn.cells true d_)),(3,.own 0 0 s18.1.length),(4,iV s18.2),(5,.lst true 1 (Ls v25))],[(0,.mix 2 (Es (Cone.cells true) s18.1))],1⟩) (Qi [(0,0)]) ?_;refine Q3 ?_;refine Qm [] mo (by rw [hN];decide) fun K hK=>?_;simp [-Q0,-Q5,-Q1,-Q6,-Q2];(repeat refine sdQ ?_);refine hK _ ?_;clear hK K;refine tn ?_;refine Q8 (st':=⟨[(1,.rptr (Fn.cells true d_)),(3,.own 0 0 s18.1.length),(4,iV s18.2),(5,.lst true 1 (Ls v25)),(6,iV 0)],[(0,.mix 2 (Es (Cone.cells true) s18.1))],1⟩) (Qi [(0,0)]) ?_;refine Qa ?_;replace h:=bind_some h;obtain ⟨e30,he30,h30⟩:=h;refine Qx he30 (fun s30:List Cone × Int=>⟨[(1,.rptr (Fn.cells true d_)),(3,.own 0 0 s30.1.length),(4,iV s18.2),(5,.lst true 1 (Ls v25)),(6,iV s30.2)],[(0,.mix 2 (Es (Cone.cells true) s30.1))],1⟩) (Qi [(0,0)]) ?_;intro k30 s30 c30 h hk30;refine Q3 ?_;refine Q3 ?_;refine Qm [] mo (by rw [hN];decide) fun K hK=>?_;simp [-Q0,-Q5,-Q1,-Q6,-Q2];(repeat refine sdQ ?_);refine hK _ ?_;clear hK K;refine tn ?_;refine Q8 (st':=⟨[(1,.rptr (Fn.cells true d_)),(3,.own 0 0 s30.1.length),(4,iV s18.2),(5,.lst true 1 (Ls v25)),(6,iV s30.2),(34,.val (.bool (decide (s30.2<(v25.length:Int)))))],[(0,.mix 2 (Es (Cone.cells true) s30.1))],1⟩) (Qi [(0,0)]) ?_;refine Qc rfl (fun g=>?_) fun g=>?_
    ·have g31:s30.2<(v25.length:Int):=gQ;clear g;replace h:=if_l g31 h;refine Qd ?_;refine tn ?_;refine Q3 ?_;refine Qa ?_;refine Qm [45] mo (by rw [hN];decide) fun K hK=>?_;replace h:=Q4 h;obtain ⟨a32,h⟩:=h;replace h:=Q4 h;obtain ⟨a33,h⟩:=h;(try simp only [List.length_append,List.length_cons,List.length_nil] at a33);simp [-Q0,-Q5,-Q1,-Q6,-Q2,at_L a32,a33];(repeat refine sdQ ?_);refine hK _ ?_;clear hK K;refine bn ?_;refine tn ?_;refine Q8 (st':=⟨[(1,.rptr (Fn.cells true d_)),(3,.own 0 0 ((s30.1++[(⟨s18.2,rx v25 s30.2⟩:Cone)]).length)),(4,iV s18.2),(5,.lst true 1 (Ls v25)),(6,iV s30.2)],[(0,.mix 2 (Es (Cone.cells true) (s30.1++[(⟨s18.2,rx v25 s30.2⟩:Cone)])))],1⟩) (Qi [(2,0)]) ?_;refine Qm [] mo (by rw [hN];decide) fun K hK=>?_;replace h:=Q4 h;obtain ⟨a34,h⟩:=h;simp [-Q0,-Q5,-Q1,-Q6,-Q2,Qt a34];(repeat refine sdQ ?_);refine hK _ ?_;clear hK K;cases h;exact rn (s':=(s30.1++[(⟨s18.2,rx v25 s30.2⟩:Cone)],s30.2+1)) hk30 (Qi [(0,0)])
    have g31:¬ (s30.2<(v25.length:Int)):=gQ;clear g;replace h:=if_r g31 h;refine Qq ?_;refine tx ?_;refine lx ?_;refine bh ?_;refine bn ?_;cases h;have q:_=e30:=hk30;have h:=h30;rw [← q] at h;clear q;(try dsimp only at h);exact jn (b:=s30.1) (Option.some.inj h) (Qi [(0,0)])
   intro b22 hb22;have h:=h22;(try rw [← hb22] at h);clear h22;(try dsimp only at h);refine Qm [] mo (by rw [hN];decide) fun K hK=>?_;replace h:=Q4 h;obtain ⟨a35,h⟩:=h;simp [-Q0,-Q5,-Q1,-Q6,-Q2,Qt a35];(repeat refine sdQ ?_);refine hK _ ?_;clear hK K;cases h;exact rn (s':=(b22,s18.2+1)) hk18 (Qi [(0,0)])
  have g21:¬ (b19=true):=gQ;clear g;replace h:=if_r g21 h;refine Qq ?_;refine tx ?_;refine lx ?_;refine bh ?_;cases h;exact jn (b:=s18.1) hk18 (Qi [(0,0)])
 intro b1 hb1;have h:=h1;try rw [← hb1] at h
 clear h1;try dsimp only at h
 refine Q3 ?_;refine Qm [] mo (by rw [hN];decide) fun K hK=>?_;simp [-Q0,-Q5,-Q1,-Q6,-Q2];repeat refine sdQ ?_
 refine hK _ ?_;clear hK K;refine tn ?_;refine Q8 (st':=⟨[(2,.own 0 0 b1.length)],[(0,.mix 2 (Es (Cone.cells true) b1))],1⟩) (Qi [(0,0)]) ?_;refine Qk ?_;have hr:=Option.some.inj h;rw [← hr];exact (.two (.smix rfl (by simp) (Q8t (by simp [Cat.cells,Cone.cells,Fn.cells,QH,Q24,Q1B]))) .nil)
attribute [local simp] eL eI Qs Q1B Fn.cells
noncomputable def Q2p (d_:Fn):Option (List Cone × Int) :=
 (Q21 d_).bind fun v1 =>
 if (v1.length:Int) > 400 then
  some ([],3)
 else
  some (v1,0)
theorem Q7w (d_:Fn) (r:List Cone × Int) (h:Q2p d_=some r):FContract Try.prog true 88 [.agg (d_.cells true)] (.tup [.lst true 2 (Es (Cone.cells true) r.1),iV r.2]):=by
 refine Q1C true (ts:=[2,3]) (rs:=[.lst true 2 (Es (Cone.cells true) r.1),iV r.2]) Try.func88 rfl rfl rfl rfl (by simp [Try.f88]) fun F hN hP=>?_;unfold Q2p at h;refine Q3 ?_;refine Qm [1] mo (by rw [hN];decide) fun K hK=>?_;simp [-Q0,-Q5,-Q1,-Q6,-Q2];repeat refine sdQ ?_
 refine hK _ ?_;clear hK K;refine tn ?_;refine Q8 (st':=⟨[(1,.rptr (Fn.cells true d_))],[],0⟩) (Qi []) ?_;refine Q3 ?_;refine Qm [] mo (by rw [hN];decide) fun K hK=>?_;simp [-Q0,-Q5,-Q1,-Q6,-Q2];repeat with_reducible refine sdQ ?_
 replace h:=bind_some h;obtain ⟨v1,hv1,h⟩:=h;refine Q1S (fz:=[]) true (Q6R _ v1 hv1) (PurK.ofN (.cons (.aggL (.cons .val (.cons .lst (.cons .lst (.cons .lst (.cons .lst (.cons .val (.cons .lst (.cons .lst (.cons .lst (.cons .lst (.cons .lst (.cons .lst .nil))))))))))))) .nil)) ?_;simp [-Q0,-Q5,-Q1,-Q6,-Q2,unk,unA,unE,unT,unC,flat];repeat refine sdQ ?_
 refine hK _ ?_;clear hK K;refine tn ?_;refine Q8 (st':=⟨[(4,.lst true 2 (Es (Cone.cells true) v1))],[],0⟩) (Qi []) ?_;refine Q3 ?_;refine Q3 ?_;refine Qm [] mo (by rw [hN];decide) fun K hK=>?_;simp [-Q0,-Q5,-Q1,-Q6,-Q2];repeat refine sdQ ?_
 refine hK _ ?_;clear hK K;refine tn ?_;refine Q8 (st':=⟨[(4,.lst true 2 (Es (Cone.cells true) v1)),(9,.val (.bool (decide ((v1.length:Int) > 400))))],[],0⟩) (Qi []) ?_;refine Qc rfl (fun g=>?_) fun g=>?_
 ·have g2:(v1.length:Int) > 400:=gQ;clear g;replace h:=if_l g2 h;refine Q3 ?_;refine Qm [] mo (by rw [hN];decide) fun K hK=>?_;simp [-Q0,-Q5,-Q1,-Q6,-Q2];repeat refine sdQ ?_
  refine hK _ ?_;clear hK K;refine tn ?_;refine Q8 (st':=⟨[(2,.val (.slice none 0 0)),(3,iV 3)],[],0⟩) (Qi []) ?_;refine Qk ?_;refine tr ?_;have hr:=Option.some.inj h;rw [← hr];exact (.two .nil (.two .val .nil))
 have g2:¬ ((v1.length:Int) > 400):=gQ;clear g;replace h:=if_r g2 h;refine Qd ?_;refine tn ?_;refine Q3 ?_;refine Qm [] mo (by rw [hN];decide) fun K hK=>?_;simp [-Q0,-Q5,-Q1,-Q6,-Q2];repeat refine sdQ ?_
 refine hK _ ?_;clear hK K;refine tn ?_;refine Q8 (st':=⟨[(2,.lst true 2 (Es (Cone.cells true) v1)),(3,iV 0)],[],0⟩) (Qi []) ?_;refine Qk ?_;have hr:=Option.some.inj h;rw [← hr];exact (.two .lst (.two .val .nil))
theorem e_index {l:List Int} (hl:l.length≤1000) (v:Int):∃ r,Q20 l v=some r:=by
 unfold Q20;refine QT (σ:=Int) (Q:=fun z=>∃ r:Int,z=some r) l.length (fun i s=>s=(i:Int)) (fun _=>True) (by omega) rfl ?_ ?_ ?_
 ·intro i s hi hs;subst hs;rw [if_pos (by omega),Q9 (by omega)]
  by_cases h:ix l i=v
  ·rw [if_pos h];exact .inr ⟨_,rfl,trivial⟩
  rw [if_neg h,Q9 (by unfold B64;omega)];exact .inl ⟨_,rfl,rfl⟩
 ·intro s hs;subst hs;rw [if_neg (by omega)];exact ⟨_,rfl,trivial⟩
 intro e _;cases e<;>exact ⟨_,rfl⟩
theorem e_classes {l:List Int} (hl:l.length≤100):∃ r,Q1n l=some r∧r.length=l.length:=by
 unfold Q1n;refine QT (σ:=List Int × List Int × Int) (Q:=fun z=>∃ r:List Int,z=some r∧r.length=l.length) l.length (fun i (s:List Int × List Int × Int)=>s.1.length=i∧s.2.1.length≤i∧s.2.2=(i:Int)) (fun e:List Int=>e.length=l.length) (by omega) ⟨rfl,Nat.le_refl _,rfl⟩ ?_ ?_ ?_
 ·intro i s hi ⟨h1,h2,h3⟩;obtain ⟨a,b,y⟩:=s;simp only at h1 h2 h3 ⊢;subst h3;left;obtain ⟨v,hv⟩:=e_index (l:=b) (by omega) (ix l i);rw [if_pos (by omega),Q9 (by omega),hv];simp only [Option.bind_some]
  by_cases hn:v<0
  ·rw [if_pos hn,Q9 (by omega),Q9 (by simp;omega)];simp only [Option.bind_some];rw [Q9 (by simp;omega),Q9 (by unfold B64;omega)];exact ⟨_,rfl,by simp;omega,by simp;omega,rfl⟩
  rw [if_neg hn];simp only [Option.bind_some];rw [Q9 (by simp;omega),Q9 (by unfold B64;omega)];exact ⟨_,rfl,by simp;omega,by simp;omega,rfl⟩
 ·intro s ⟨h1,h2,h3⟩;obtain ⟨a,b,y⟩:=s;simp only at h1 h2 h3 ⊢;rw [if_neg (by omega)];exact ⟨_,rfl,h1⟩
 intro e he;exact ⟨e,rfl,he⟩
theorem e_join {n:Nat} (hn:n≤100) {ps:List (List Int)} (hp:ps.length≤1000) (H:∀ i:Nat,i<ps.length→∃ a b:Int,rx ps i=[a,b]∧(0≤a∧a<(n:Int))∧(0≤b∧b<(n:Int))):∃ r,Q2m (n:Int) ps=some r∧r.length=n:=by
 unfold Q2m;refine QT (σ:=List Int × Int) (Q:=fun z=>∃ r:List Int,z=some r∧r.length=n) n (fun i (s:List Int × Int)=>s.1.length=i∧s.2=(i:Int)) (fun e:List Int=>e.length=n) (by omega) ⟨rfl,rfl⟩ ?_ ?_ ?_
 ·intro i s hi ⟨h1,h2⟩;obtain ⟨a,y⟩:=s;simp only at h1 h2 ⊢;subst h2;rw [if_pos (by omega),Q9 (by simp;omega),Q9 (by unfold B64;omega)];exact .inl ⟨_,rfl,by simp;omega,rfl⟩
 ·intro s ⟨h1,h2⟩;obtain ⟨a,y⟩:=s;simp only at h1 h2 ⊢;rw [if_neg (by omega)];exact ⟨_,rfl,h1⟩
 intro b1 hb1;refine QT (σ:=List Int × Int) (Q:=fun z=>∃ r:List Int,z=some r∧r.length=n) ps.length (fun i (s:List Int × Int)=>s.1.length=n∧s.2=(i:Int)) (fun e:List Int=>e.length=n) (by omega) ⟨hb1,rfl⟩ ?_ ?_ ?_
 ·intro i s hi ⟨h1,h2⟩;obtain ⟨L,y⟩:=s;simp only at h1 h2 ⊢;subst h2;left;obtain ⟨a,b,e,ha,hb⟩:=H i hi;have ea:ix (rx ps i) 0=a:=by rw [e];rfl
  have eb:ix (rx ps i) 1=b:=by rw [e];rfl
  have el:(rx ps i).length=2:=by rw [e];rfl
  rw [if_pos (by omega)];simp only [ea,eb,el];rw [Q9 (by omega),Q9 (by omega),Q9 (by omega),Q9 (by omega),Q9 (by omega),Q9 (by omega)];simp only [Option.bind_assoc];refine QT (σ:=List Int × Int) (Q:=fun z=>∃ s':List Int × Int,z=some (Ctl.next s':Ctl (List Int × Int) (List Int))∧s'.1.length=n∧s'.2=((i+1:Nat):Int)) n (fun q (s:List Int × Int)=>s.1.length=n∧s.2=(q:Int)) (fun e:List Int=>e.length=n) (by omega) ⟨h1,rfl⟩ ?_ ?_ ?_
  ·intro q s hq ⟨g1,g2⟩;obtain ⟨M,z⟩:=s;simp only at g1 g2 ⊢;subst g2;rw [if_pos (by omega)];simp only [Option.bind_some]
   by_cases hne:(ix L a != ix L b)=true
   ·rw [if_pos hne,Q9 (by omega)];left
    by_cases hz:ix M q=ix L b
    ·rw [if_pos hz,Q9 (by omega)];simp only [Option.bind_some];rw [Q9 (by unfold B64;omega)];exact ⟨_,rfl,by simp [g1],rfl⟩
    rw [if_neg hz];simp only [Option.bind_some];rw [Q9 (by unfold B64;omega)];exact ⟨_,rfl,g1,rfl⟩
   rw [if_neg hne];exact .inr ⟨_,rfl,g1⟩
  ·intro s ⟨g1,g2⟩;obtain ⟨M,z⟩:=s;simp only at g1 g2 ⊢;rw [if_neg (by omega)];simp only [Option.bind_some,Bool.false_eq_true,if_false];exact ⟨_,rfl,g1⟩
  intro e he;simp only [Option.bind_some];rw [Q9 (by unfold B64;omega)];exact ⟨_,rfl,he,by simp⟩
 ·intro s ⟨h1,h2⟩;obtain ⟨L,y⟩:=s;simp only at h1 h2 ⊢;rw [if_neg (by omega)];exact ⟨_,rfl,h1⟩
 intro e he;obtain ⟨r,hr,hr2⟩:=e_classes (l:=e) (by omega);rw [hr];exact ⟨r,rfl,by omega⟩
theorem start_CV {d:Fn} {x:Int} {P:Nat→Prop} [DecidablePred P]:CV d x (tab d.ob.length fun y=>if P y then -1 else -2):=by
 refine ⟨by simp [tab],fun i hi=>?_⟩;rw [ix_tab _ _ hi]
 by_cases h:P i<;>simp [h]
set_option maxHeartbeats 1000000 in
theorem e_find7 {d:Fn} (hd:d.Is) {x:Int} (hx:0≤x∧x<d.t.n) {most:Nat} (hm:most≤401) (h1:0<most):Q2o (cstF d x) d false most=some ((lext d x d.ob.length []).take most):=by
 obtain ⟨l1,l2,l3,l4,l5,l6,l7,l8⟩:=hd.fact;have e100:∀ c:List Int,CV d x c→c.count (-1)<100:=fun c hc=>by
  have:=List.count_le_length (a:=(-1:Int)) (l:=c);have:=hc.1;omega
 unfold Q2o;refine Q1y d.ar.length (fun i=>(List.range i).map fun a:Nat=>[ix d.s.fr a,ix d.s.to a]) (e:=(List.range d.ar.length).map fun a:Nat=>[ix d.s.fr a,ix d.s.to a]) rfl (by omega) (fun i hi=>?_) ?_ ?_
 ·simp only;rw [if_pos (by show (i:Int)<(d.s.fr.length:Int);omega),Q9 (by show 0≤(i:Int)∧(i:Int)<(d.s.fr.length:Int);omega),Q9 (by show 0≤(i:Int)∧(i:Int)<(d.s.to.length:Int);omega),Q9 (by simp;omega),Q9 (by unfold B64;omega),List.range_succ];simp [cstF]
 ·simp only;rw [if_neg (by show ¬ (d.ar.length:Int)<(d.s.fr.length:Int);omega)]
 obtain ⟨v,hv,hvl⟩:=e_join (n:=d.ob.length) (by omega) (ps:=(List.range d.ar.length).map fun a:Nat=>[ix d.s.fr a,ix d.s.to a]) (by simp;omega) (fun i hi=>by
  simp only [List.length_map,List.length_range] at hi;obtain ⟨f1,f2,f3⟩:=l8 i hi;exact ⟨ix d.s.fr i,ix d.s.to i,by simp [rx,List.getD_eq_getElem?_getD,hi],f1,f2⟩)
 rw [show (cstF d x).s.n=(d.ob.length:Int) from l1.symm,hv];simp only [Option.bind_some];refine QT (σ:=List Int × Int) (Q:=fun z=>z=some ((lext d x d.ob.length []).take most)) d.ob.length (fun i s=>s=(List.replicate i (-1),(i:Int)))
  (fun e:List Int ⊕ List (List Int)=>match e with
   | .inl e=>e=List.replicate d.ob.length (-1)
   | .inr e=>e=[]∧lext d x d.ob.length []=[]) (by omega) rfl ?_ ?_ ?_
 ·intro i s hi hs;subst hs;simp only;rw [if_pos (by omega),Q9 (by simp;omega)]
  let P:Nat→Prop:=fun y=>ix v (y:Int)=(i:Int)
  have hdec:DecidablePred P:=fun y=>inferInstanceAs (Decidable (ix v (y:Int)=(i:Int)))
  let st:Nat→List Int:=fun j=>tab j fun y=>if P y then -1 else -2
  have hst:CV d x (st d.ob.length):=start_CV;refine QT (σ:=List Int × Int) (Q:=fun z=>(∃ s':List Int × Int,z=some (Ctl.next s':Ctl (List Int × Int) (List Int ⊕ List (List Int)))∧s'=(List.replicate (i+1) (-1),((i+1:Nat):Int)))∨∃ e:List Int ⊕ List (List Int),z=some (.ret e)∧match e with
   | .inl e=>e=List.replicate d.ob.length (-1)
   | .inr e=>e=[]∧lext d x d.ob.length []=[]) d.ob.length (fun j s=>s=(st j,(j:Int))) (fun e=>e=st d.ob.length) (by omega) rfl ?_ ?_ ?_
  ·intro j s hj hs;subst hs;have hl:(st j).length=j:=(by simp [st,tab]);have hs1:st (j+1)=st j++[if P j then -1 else -2]:=Q66 _ _;left;simp only;rw [if_pos (by omega),Q9 (by omega)]
   by_cases h:P j
   ·have h':ix v (j:Int)=(i:Int):=h;rw [if_pos h',Q9 (by simp;omega)];simp only [Option.bind_some];rw [Q9 (by unfold B64;omega)];exact ⟨_,rfl,by rw [hs1,if_pos h];rfl⟩
   have h':¬ ix v (j:Int)=(i:Int):=h;rw [if_neg h',Q9 (by simp;omega)];simp only [Option.bind_some];rw [Q9 (by unfold B64;omega)];exact ⟨_,rfl,by rw [hs1,if_neg h];rfl⟩
  ·intro s hs;subst hs;simp only;rw [if_neg (by omega)];exact ⟨_,rfl,rfl⟩
  intro e he;subst he;have hg:=e_go hd hx (most:=1) (by omega) 100 (st d.ob.length) [] hst (e100 _ hst) (by simp);rw [show ((1:Nat):Int)=1 from rfl] at hg;rw [hg];simp only [Option.bind_some,List.nil_append]
  by_cases hG:cG d x 100 (st d.ob.length)=[]
  ·right;refine ⟨.inr [],by simp [hG],rfl,?_⟩;rw [List.eq_nil_iff_forall_not_mem];intro q hq;obtain ⟨q1,q2,q3⟩:=Q6A hd hq;refine cG_some hd q2 q1 q3 100 _ hst (e100 _ hst) (fun j h0 h1 h2=>?_) hG;obtain ⟨j,rfl⟩:=Int.eq_ofNat_of_zero_le h0;simp only [st] at h2;rw [ix_tab _ _ (by omega)] at h2
   by_cases h:P j
   ·rw [if_pos h] at h2;omega
   rw [if_neg h] at h2;omega
  left;have hne:¬ ((((cG d x 100 (st d.ob.length)).take (1 - ([]:List (List Int)).length)).length:Nat):Int)=0:=by
   have:=List.length_pos_iff.2 hG;simp only [List.length_take,List.length_nil];omega
  rw [if_neg hne,Q9 (by unfold B64;omega)];exact ⟨_,rfl,by rw [← List.replicate_succ'];rfl⟩
 ·intro s hs;subst hs;simp only;rw [if_neg (by omega)];exact ⟨_,rfl,rfl⟩
 intro e he;cases e with
 | inr e=>rw [he.1,he.2];simp
 | inl e =>
  simp only at he ⊢;subst he;have hp:CV d x ([]++List.replicate d.ob.length (-1)):=pad_CV (by simp) (fun i hi=>by simp at hi);have hg:=e_go hd hx hm 100 _ [] hp (e100 _ hp) (by simpa using h1);rw [cG_lext hd d.ob.length 100 [] (by simp) (by omega) (fun i hi=>by simp at hi)] at hg;simp only [List.nil_append,List.length_nil,Nat.sub_zero] at hg;rw [hg];rfl
theorem Q8b (d:Fn) {i n:Nat} (h:i≤n):∃ B,Q1b d n=Q1b d i++B:=by
 obtain ⟨m,rfl⟩:=Nat.le.dest h;clear h
 induction m with
 | zero=>exact ⟨[],by simp⟩
 | succ m ih =>
  obtain ⟨B,hB⟩:=ih;exact ⟨B++Q5a d (i+m:Nat),by rw [← Nat.add_assoc,Q2d,hB,List.append_assoc]⟩
theorem e_cones {d:Fn} (hd:d.Is):Q21 d=some ((Q1a d).take 401):=by
 obtain ⟨l1,l2,l3,l4,l5,l6,l7,l8⟩:=hd.fact;have n8:=hd.t.1.n8;have n0:=hd.t.1.n0;unfold Q21;refine QT (σ:=List Cone × Int) (Q:=fun z=>z=some ((Q1a d).take 401)) d.t.n.toNat (fun i s=>s=((Q1b d i).take 401,(i:Int))) (fun e=>e=(Q1a d).take 401) (by omega) rfl ?_ ?_ (fun e he=>by rw [he])
 ·intro i s hi hs;subst hs;have hin:(i:Int)<d.t.n:=by omega
  simp only;rw [if_pos hin];simp only [Option.bind_some]
  by_cases h:(Q1b d i).length≤400
  ·left;have e1:(Q1b d i).take 401=Q1b d i:=List.take_of_length_le (by omega);rw [e1,if_pos (by simp;omega),e_const hd ⟨by omega,hin⟩];simp only [Option.bind_some];rw [Q9 (by unfold B64;omega),show (401 - ((Q1b d i).length:Int))=((401 - (Q1b d i).length:Nat):Int) by omega,e_find7 hd ⟨by omega,hin⟩ (by omega) (by omega)];simp only [Option.bind_some,Option.bind_assoc]
   let V:=(lext d i d.ob.length []).take (401 - (Q1b d i).length)
   have hV:V.length≤401 - (Q1b d i).length:=(by simp only [V,List.length_take];omega);have hres:Q1b d i++V.map (Cone.mk i)=(Q1b d (i+1)).take 401:=by
    rw [Q2d,List.take_append,e1];simp [V,Q5a,List.map_take]
   show ∃ s',((QA _ _ _).bind _)=_∧_;refine ⟨((Q1b d (i+1)).take 401,(i:Int)+1),?_,rfl⟩;refine Q1y V.length (fun q=>Q1b d i++(V.take q).map (Cone.mk i)) (e:=(Q1b d (i+1)).take 401) (by simp) (by omega) (fun q hq=>?_) ?_ ?_
   ·simp only;rw [if_pos (show (q:Int)<(V.length:Int) by omega),Q9 (show 0≤(q:Int)∧(q:Int)<(V.length:Int) by omega),Q9 (by simp only [List.length_append,List.length_map,List.length_take,List.length_singleton];omega),Q9 (by unfold B64;omega)];rw [List.take_succ_eq_append_getElem hq,Q2Q _ _ hq];simp [V]
   ·simp only [List.take_length];rw [if_neg (show ¬ (V.length:Int)<(V.length:Int) by omega),hres]
   rw [Q9 (by unfold B64;omega)]
  right;have hf:¬ ((((Q1b d i).take 401).length:Nat):Int)≤400:=by simp only [List.length_take];omega
  refine ⟨(Q1b d i).take 401,by simp [hf];omega,?_⟩;obtain ⟨B,hB⟩:=Q8b d (i:=i) (n:=d.t.n.toNat) (by omega);unfold Q1a;rw [hB,List.take_append_of_le_length (by omega)]
 intro s hs;subst hs;simp only;rw [if_neg (by omega)];exact ⟨_,rfl,rfl⟩
theorem e_clist {d:Fn} (hd:d.Is):Q2p d=some (if (Q1a d).length≤400 then (Q1a d,0) else ([],3)):=by
 unfold Q2p;rw [e_cones hd];simp only [Option.bind_some]
 by_cases h:(Q1a d).length≤400
 ·rw [if_pos h,if_neg (by simp only [List.length_take];omega),List.take_of_length_le (by omega)]
 rw [if_neg h,if_pos (by simp only [List.length_take];omega)]
attribute [local simp] eL eI Qs QH Q24 Q1B Cat.cells Cone.cells Fn.cells
noncomputable def Q1Z (d_:Fn) (p_:Cone) (q_:Cone):Option (List Int) :=
 (QB d_.t p_.a q_.a).bind fun v1 =>
 (QA (σ:=List Int × Int) (ε:=List Int) (fun s22 =>
  if s22.2<(v1.length:Int) then
   (
    ass (0≤s22.2∧s22.2<(v1.length:Int)) <|
    (QA (σ:=Int) (ε:=Unit ⊕ (List Int)) (fun s33 =>
     if s33<(q_.l.length:Int) then
      ass (0≤s33∧s33<(q_.l.length:Int)) <|
      (Qu d_.t (ix v1 s22.2) (ix q_.l s33)).bind fun v36 =>
      ass (0≤s33∧s33<(p_.l.length:Int)) <|
      if ¬ (v36=(ix p_.l s33)) then
       some (Ctl.ret (Sum.inr s22.1))
      else
       ass (B64 (s33+1)) <|
       some (Ctl.next (s33+1))
     else
      some (Ctl.ret (Sum.inl ()))) fuel 0).bind fun e26 =>
    match e26 with
    | .inl b26 =>
     ass ((s22.1++[ix v1 s22.2]).length≤1073741824) <|
     some (s22.1++[ix v1 s22.2])
    | .inr p26 =>
     some p26:Option (List Int)).bind fun b24 =>
   ass (B64 (s22.2+1)) <|
   some (Ctl.next (b24,s22.2+1))
  else
   some (Ctl.ret s22.1)) fuel ([],0)).bind fun b2 =>
 some b2
theorem Q6N (d_:Fn) (p_:Cone) (q_:Cone) (r:List Int) (h:Q1Z d_ p_ q_=some r):Contract Try.prog 142 [.rptr (d_.cells true),.agg (p_.cells true),.agg (q_.cells true)] (lI r):=by
 refine Qe (rvs:=[.tmp 6]) (rs:=[lI r]) Try.func142 rfl rfl rfl rfl (by simp [Try.f142]) fun F hN hP=>?_;unfold Q1Z at h;refine Q3 ?_;refine runQ hN fun K hK=>?_;simp [-Q0,-Q5,-Q1,-Q6,-Q2];repeat refine sdQ ?_
 refine hK _ ?_;clear hK K;refine tn ?_;refine Q8 (st':=⟨[(0,.rptr (Fn.cells true d_)),(4,.adr 0 0 0),(5,.adr 1 0 0)],[(0,.mix 2 [(Cone.cells true p_)]),(1,.mix 2 [(Cone.cells true q_)])],2⟩) (Qi [(0,0),(1,1)]) ?_;refine w_scope ?_;refine Q3 ?_;refine runQ hN fun K hK=>?_;simp [-Q0,-Q5,-Q1,-Q6,-Q2];repeat refine sdQ ?_
 refine hK _ ?_;clear hK K;refine tn ?_;refine Q8 (st':=⟨[(4,.adr 0 0 0),(5,.adr 1 0 0),(7,.rptr [iV d_.t.n,lI d_.t.fr,lI d_.t.to,lI d_.t.id,.lst true 1 (Ls d_.t.cs),lI d_.ob,lI d_.ar])],[(0,.mix 2 [(Cone.cells true p_)]),(1,.mix 2 [(Cone.cells true q_)])],2⟩) (Qi [(0,0),(1,1)]) ?_;refine Q3 ?_;refine runQ hN fun K hK=>?_;simp [-Q0,-Q5,-Q1,-Q6,-Q2];repeat refine sdQ ?_
 refine hK _ ?_;clear hK K;refine tn ?_;refine Q8 (st':=⟨[(4,.adr 0 0 0),(5,.adr 1 0 0),(7,.rptr [iV d_.t.n,lI d_.t.fr,lI d_.t.to,lI d_.t.id,.lst true 1 (Ls d_.t.cs),lI d_.ob,lI d_.ar]),(8,.own 2 0 0)],[(0,.mix 2 [(Cone.cells true p_)]),(1,.mix 2 [(Cone.cells true q_)]),(2,.mix 1 [])],3⟩) (Qi [(0,0),(1,1),(2,2)]) ?_;refine Q3 ?_;refine w_label ?_;refine tn ?_;refine Q3 ?_;refine Q3 ?_;refine runQ hN fun K hK=>?_;simp [-Q0,-Q5,-Q1,-Q6,-Q2];repeat with_reducible refine sdQ ?_
 replace h:=bind_some h;obtain ⟨v1,hv1,h⟩:=h;refine Q7 (Q36 _ _ _ v1 hv1) (.cons (.preT (by simp [Cat.cells,Cone.cells,Fn.cells])) (.cons .val (.cons .val .nil))) ?_;simp [-Q0,-Q5,-Q1,-Q6,-Q2,unk,unA,unE,unT,unC,flat];repeat refine sdQ ?_
 refine hK _ ?_;clear hK K;refine tn ?_;refine Q8 (st':=⟨[(4,.adr 0 0 0),(5,.adr 1 0 0),(7,.rptr [iV d_.t.n,lI d_.t.fr,lI d_.t.to,lI d_.t.id,.lst true 1 (Ls d_.t.cs),lI d_.ob,lI d_.ar]),(8,.own 2 0 0),(22,.own 3 0 v1.length),(23,iV (v1.length:Int)),(24,iV 0)],[(0,.mix 2 [(Cone.cells true p_)]),(1,.mix 2 [(Cone.cells true q_)]),(2,.mix 1 []),(3,rI v1)],4⟩) (Qi [(0,0),(1,1),(2,2),(3,3)]) ?_;replace h:=bind_some h;obtain ⟨e2,h,h2⟩:=h;refine Qj (fun b2:List Int=>⟨[(8,.own 0 0 b2.length)],[(0,rI b2)],1⟩) (fun b2=>b2=e2) ?_ ?_
 ·refine Qa ?_;refine Qx h (fun s22:List Int × Int=>⟨[(4,.adr 0 0 0),(5,.adr 1 0 0),(7,.rptr [iV d_.t.n,lI d_.t.fr,lI d_.t.to,lI d_.t.id,.lst true 1 (Ls d_.t.cs),lI d_.ob,lI d_.ar]),(8,.own 2 0 s22.1.length),(22,.own 3 0 v1.length),(23,iV (v1.length:Int)),(24,iV s22.2)],[(0,.mix 2 [(Cone.cells true p_)]),(1,.mix 2 [(Cone.cells true q_)]),(2,rI s22.1),(3,rI v1)],4⟩) (Q2N ⟨[(4,.adr 0 0 0),(5,.adr 1 0 0),(7,.rptr [iV d_.t.n,lI d_.t.fr,lI d_.t.to,lI d_.t.id,.lst true 1 (Ls d_.t.cs),lI d_.ob,lI d_.ar]),(8,.own 2 0 0),(22,.own 3 0 v1.length),(23,iV (v1.length:Int)),(24,iV 0)],[(0,.mix 2 [(Cone.cells true p_)]),(1,.mix 2 [(Cone.cells true q_)]),(2,rI []),(3,rI v1)],4⟩ (Wk.nils [] (by simp) (by simp) (by simp [nlA]) (by simp [entN,nlL,nlA,Cat.cells,Cone.cells,Fn.cells,UA,U1,IA,I1,LA,L1,BA,B1,EA,E1,E2,eB,eI,eL]) (by simp)) (Qi [(0,0),(1,1),(2,2),(3,3)])) ?_;clear h;intro k22 s22 c22 h hk22;refine Q3 ?_;refine runQ hN fun K hK=>?_;simp [-Q0,-Q5,-Q1,-Q6,-Q2];repeat refine sdQ ?_
  refine hK _ ?_;clear hK K;refine tn ?_;refine Q8 (st':=⟨[(4,.adr 0 0 0),(5,.adr 1 0 0),(7,.rptr [iV d_.t.n,lI d_.t.fr,lI d_.t.to,lI d_.t.id,.lst true 1 (Ls d_.t.cs),lI d_.ob,lI d_.ar]),(8,.own 2 0 s22.1.length),(22,.own 3 0 v1.length),(23,iV (v1.length:Int)),(24,iV s22.2),(25,.val (.bool (decide (s22.2<(v1.length:Int)))))],[(0,.mix 2 [(Cone.cells true p_)]),(1,.mix 2 [(Cone.cells true q_)]),(2,rI s22.1),(3,rI v1)],4⟩) (Qi [(0,0),(1,1),(2,2),(3,3)]) ?_;refine Q3 ?_;refine Qc rfl (fun g=>?_) fun g=>?_
  ·have g23:s22.2<(v1.length:Int):=gQ;clear g;replace h:=if_l g23 h;refine Qd ?_;refine tn ?_;refine Q3 ?_;replace h:=bind_some h;obtain ⟨e24,h,h24⟩:=h;refine Qj (fun b24:List Int=>⟨[(4,.adr 0 0 0),(5,.adr 1 0 0),(7,.rptr [iV d_.t.n,lI d_.t.fr,lI d_.t.to,lI d_.t.id,.lst true 1 (Ls d_.t.cs),lI d_.ob,lI d_.ar]),(8,.own 2 0 b24.length),(22,.own 3 0 v1.length),(23,iV (v1.length:Int)),(24,iV s22.2)],[(0,.mix 2 [(Cone.cells true p_)]),(1,.mix 2 [(Cone.cells true q_)]),(2,rI b24),(3,rI v1)],4⟩) (fun b24=>b24=e24) ?_ ?_
   ·refine Qa ?_;refine Q3 ?_;refine runQ hN fun K hK=>?_;replace h:=Q4 h;obtain ⟨a25,h⟩:=h;simp [-Q0,-Q5,-Q1,-Q6,-Q2,at_I a25];(repeat refine sdQ ?_);refine hK _ ?_;clear hK K;refine tn ?_;refine Q8 (st':=⟨[(4,.adr 0 0 0),(5,.adr 1 0 0),(7,.rptr [iV d_.t.n,lI d_.t.fr,lI d_.t.to,lI d_.t.id,.lst true 1 (Ls d_.t.cs),lI d_.ob,lI d_.ar]),(8,.own 2 0 s22.1.length),(10,iV (ix v1 s22.2)),(22,.own 3 0 v1.length),(23,iV (v1.length:Int)),(24,iV s22.2)],[(0,.mix 2 [(Cone.cells true p_)]),(1,.mix 2 [(Cone.cells true q_)]),(2,rI s22.1),(3,rI v1)],4⟩) (Qi [(0,0),(1,1),(2,2),(3,3)]) ?_;refine Q3 ?_;refine Q3 ?_;refine runQ hN fun K hK=>?_;simp [-Q0,-Q5,-Q1,-Q6,-Q2];(repeat refine sdQ ?_);refine hK _ ?_;clear hK K;refine tn ?_;refine Q8 (st':=⟨[(4,.adr 0 0 0),(5,.adr 1 0 0),(7,.rptr [iV d_.t.n,lI d_.t.fr,lI d_.t.to,lI d_.t.id,.lst true 1 (Ls d_.t.cs),lI d_.ob,lI d_.ar]),(8,.own 2 0 s22.1.length),(10,iV (ix v1 s22.2)),(22,.own 3 0 v1.length),(23,iV (v1.length:Int)),(24,iV s22.2),(29,lI q_.l),(30,iV (q_.l.length:Int)),(31,iV 0)],[(0,.mix 2 [(Cone.cells true p_)]),(1,.mix 2 [(Cone.cells true q_)]),(2,rI s22.1),(3,rI v1)],4⟩) (Qi [(0,0),(1,1),(2,2),(3,3)]) ?_;replace h:=bind_some h;obtain ⟨e26,h,h26⟩:=h;refine Qj (fun b26:Unit=>⟨[(4,.adr 0 0 0),(5,.adr 1 0 0),(7,.rptr [iV d_.t.n,lI d_.t.fr,lI d_.t.to,lI d_.t.id,.lst true 1 (Ls d_.t.cs),lI d_.ob,lI d_.ar]),(8,.own 2 0 s22.1.length),(10,iV (ix v1 s22.2)),(22,.own 3 0 v1.length),(23,iV (v1.length:Int)),(24,iV s22.2)],[(0,.mix 2 [(Cone.cells true p_)]),(1,.mix 2 [(Cone.cells true q_)]),(2,rI s22.1),(3,rI v1)],4⟩) (fun b26=>Sum.inl b26=e26) ?_ ?_
    ·refine Qa ?_;refine Qx h (fun s33:Int=>⟨[(4,.adr 0 0 0),(5,.adr 1 0 0),(7,.rptr [iV d_.t.n,lI d_.t.fr,lI d_.t.to,lI d_.t.id,.lst true 1 (Ls d_.t.cs),lI d_.ob,lI d_.ar]),(8,.own 2 0 s22.1.length),(10,iV (ix v1 s22.2)),(22,.own 3 0 v1.length),(23,iV (v1.length:Int)),(24,iV s22.2),(29,lI q_.l),(30,iV (q_.l.length:Int)),(31,iV s33)],[(0,.mix 2 [(Cone.cells true p_)]),(1,.mix 2 [(Cone.cells true q_)]),(2,rI s22.1),(3,rI v1)],4⟩) (Qi [(0,0),(1,1),(2,2),(3,3)]) ?_;clear h;intro k33 s33 c33 h hk33;refine Q3 ?_;refine runQ hN fun K hK=>?_;simp [-Q0,-Q5,-Q1,-Q6,-Q2];(repeat refine sdQ ?_);refine hK _ ?_;clear hK K;refine tn ?_;refine Q8 (st':=⟨[(4,.adr 0 0 0),(5,.adr 1 0 0),(7,.rptr [iV d_.t.n,lI d_.t.fr,lI d_.t.to,lI d_.t.id,.lst true 1 (Ls d_.t.cs),lI d_.ob,lI d_.ar]),(8,.own 2 0 s22.1.length),(10,iV (ix v1 s22.2)),(22,.own 3 0 v1.length),(23,iV (v1.length:Int)),(24,iV s22.2),(29,lI q_.l),(30,iV (q_.l.length:Int)),(31,iV s33),(32,.val (.bool (decide (s33<(q_.l.length:Int)))))],[(0,.mix 2 [(Cone.cells true p_)]),(1,.mix 2 [(Cone.cells true q_)]),(2,rI s22.1),(3,rI v1)],4⟩) (Qi [(0,0),(1,1),(2,2),(3,3)]) ?_;refine Q3 ?_;refine Qc rfl (fun g=>?_) fun g=>?_
     ·have g34:s33<(q_.l.length:Int):=gQ;clear g;replace h:=if_l g34 h;refine Qd ?_;refine tn ?_;refine Q3 ?_;refine Qa ?_;refine Q3 ?_;refine runQ hN fun K hK=>?_;replace h:=Q4 h;obtain ⟨a35,h⟩:=h;simp [-Q0,-Q5,-Q1,-Q6,-Q2,at_I a35];(repeat refine sdQ ?_);refine hK _ ?_;clear hK K;refine tn ?_;refine Q8 (st':=⟨[(4,.adr 0 0 0),(5,.adr 1 0 0),(7,.rptr [iV d_.t.n,lI d_.t.fr,lI d_.t.to,lI d_.t.id,.lst true 1 (Ls d_.t.cs),lI d_.ob,lI d_.ar]),(8,.own 2 0 s22.1.length),(10,iV (ix v1 s22.2)),(11,iV s33),(12,iV (ix q_.l s33)),(22,.own 3 0 v1.length),(23,iV (v1.length:Int)),(24,iV s22.2),(29,lI q_.l),(30,iV (q_.l.length:Int)),(31,iV s33)],[(0,.mix 2 [(Cone.cells true p_)]),(1,.mix 2 [(Cone.cells true q_)]),(2,rI s22.1),(3,rI v1)],4⟩) (Qi [(0,0),(1,1),(2,2),(3,3)]) ?_;refine Q3 ?_;refine runQ hN fun K hK=>?_;simp [-Q0,-Q5,-Q1,-Q6,-Q2];(repeat with_reducible refine sdQ ?_);replace h:=bind_some h;obtain ⟨v36,hv36,h⟩:=h;refine Q7 (Q1l _ _ _ v36 hv36) (.cons (.preT (by simp [Cat.cells,Cone.cells,Fn.cells])) (.cons .val (.cons .val .nil))) ?_;replace h:=Q4 h;obtain ⟨a37,h⟩:=h;simp [-Q0,-Q5,-Q1,-Q6,-Q2,unk,unA,unE,unT,unC,flat,at_I a37];(repeat refine sdQ ?_);refine hK _ ?_;clear hK K;refine tn ?_;refine Q8 (st':=⟨[(4,.adr 0 0 0),(5,.adr 1 0 0),(7,.rptr [iV d_.t.n,lI d_.t.fr,lI d_.t.to,lI d_.t.id,.lst true 1 (Ls d_.t.cs),lI d_.ob,lI d_.ar]),(8,.own 2 0 s22.1.length),(10,iV (ix v1 s22.2)),(22,.own 3 0 v1.length),(23,iV (v1.length:Int)),(24,iV s22.2),(29,lI q_.l),(30,iV (q_.l.length:Int)),(31,iV s33),(45,.val (.bool (v36 != (ix p_.l s33))))],[(0,.mix 2 [(Cone.cells true p_)]),(1,.mix 2 [(Cone.cells true q_)]),(2,rI s22.1),(3,rI v1)],4⟩) (Qi [(0,0),(1,1),(2,2),(3,3)]) ?_;refine Qc rfl (fun g=>?_) fun g=>?_
      ·have g38:¬ (v36=(ix p_.l s33)):=gQ;clear g;replace h:=if_l g38 h;refine Qq ?_;refine bm (by decide) ?_;refine tx ?_;refine lx ?_;refine bm (by decide) ?_;refine tx ?_;refine bh ?_;cases h;have q:_=e26:=hk33;have h:=h26;rw [← q] at h;clear q;(try dsimp only at h);exact jn (b:=s22.1) (Option.some.inj h) (Qi [(0,0),(1,1),(2,2),(3,3)])
      have g38:¬ (¬ (v36=(ix p_.l s33))):=gQ;clear g;replace h:=if_r g38 h;refine Qd ?_;refine bn ?_;refine tn ?_;refine runQ hN fun K hK=>?_;replace h:=Q4 h;obtain ⟨a39,h⟩:=h;simp [-Q0,-Q5,-Q1,-Q6,-Q2,Qt a39];(repeat refine sdQ ?_);refine hK _ ?_;clear hK K;cases h;exact rn (s':=s33+1) hk33 (Qi [(0,0),(1,1),(2,2),(3,3)])
     have g34:¬ (s33<(q_.l.length:Int)):=gQ;clear g;replace h:=if_r g34 h;refine Qq ?_;refine tx ?_;refine lx ?_;refine bh ?_;cases h;exact jn (b:=()) hk33 (Qi [(0,0),(1,1),(2,2),(3,3)])
    intro b26 hb26;have h:=h26;(try rw [← hb26] at h);clear h26;(try dsimp only at h);refine runQ hN fun K hK=>?_;replace h:=Q4 h;obtain ⟨a40,h⟩:=h;(try simp only [List.length_append,List.length_cons,List.length_nil] at a40);simp [-Q0,-Q5,-Q1,-Q6,-Q2,a40];(repeat refine sdQ ?_);refine hK _ ?_;clear hK K;refine bn ?_;exact jn (b:=s22.1++[ix v1 s22.2]) (Option.some.inj h) (Qi [(0,0),(1,1),(5,2),(3,3)])
   intro b24 hb24;have h:=h24;(try rw [← hb24] at h);clear h24;(try dsimp only at h);refine runQ hN fun K hK=>?_;replace h:=Q4 h;obtain ⟨a41,h⟩:=h;simp [-Q0,-Q5,-Q1,-Q6,-Q2,Qt a41];(repeat refine sdQ ?_);refine hK _ ?_;clear hK K;cases h;exact rn (s':=(b24,s22.2+1)) hk22 (Qi [(0,0),(1,1),(2,2),(3,3)])
  have g23:¬ (s22.2<(v1.length:Int)):=gQ;clear g;replace h:=if_r g23 h;refine Qq ?_;refine tx ?_;refine lx ?_;refine bh ?_;cases h;exact jn (b:=s22.1) hk22 (Qi [(2,0)])
 intro b2 hb2;have h:=h2;try rw [← hb2] at h
 clear h2;try dsimp only at h
 refine Q3 ?_;refine runQ hN fun K hK=>?_;simp [-Q0,-Q5,-Q1,-Q6,-Q2];repeat refine sdQ ?_
 refine hK _ ?_;clear hK K;refine tn ?_;refine Q8 (st':=⟨[(6,.own 0 0 b2.length)],[(0,rI b2)],1⟩) (Qi [(0,0)]) ?_;refine Qk ?_;refine pcr ?_;have hr:=Option.some.inj h;rw [← hr];refine ⟨_,(.tmp .nil),?_⟩;refine ⟨(.one rfl rfl .nil),[lI b2],[0],by simp [Cat.cells,Cone.cells,Fn.cells,UA,U1,IA,I1,LA,L1,BA,B1,EA,E1,E2,eB,eI,eL],by simp,(UpL.refl _)⟩
attribute [local simp] eL eI Qs Q24 Q1B Cone.cells Fn.cells
noncomputable def Q1g (d_:Fn) (all_:List Cone) (p_:Cone):Option Bool :=
 (QA (σ:=Int) (ε:=Unit ⊕ Bool) (fun s7 =>
  if s7<(all_.length:Int) then
   ass (0≤s7∧s7<(all_.length:Int)) <|
   (Q1Z d_ (gx all_ s7) p_).bind fun v10 =>
   if ¬ ((v10.length:Int)=1) then
    some (Ctl.ret (Sum.inr false))
   else
    ass (B64 (s7+1)) <|
    some (Ctl.next (s7+1))
  else
   some (Ctl.ret (Sum.inl ()))) fuel 0).bind fun e1 =>
 match e1 with
 | .inl b1 =>
  some true
 | .inr p1 =>
  some p1
theorem Q54 (d_:Fn) (all_:List Cone) (p_:Cone) (r:Bool) (h:Q1g d_ all_ p_=some r):Contract Try.prog 127 [.rptr (d_.cells true),.lst true 2 (Es (Cone.cells true) all_),.agg (p_.cells true)] (.val (.bool r)):=by
 refine Qe (rvs:=[.tmp 6]) (rs:=[.val (.bool r)]) Try.func127 rfl rfl rfl rfl (by simp [Try.f127]) fun F hN hP=>?_;unfold Q1g at h;refine Q3 ?_;refine runQ hN fun K hK=>?_;simp [-Q0,-Q5,-Q1,-Q6,-Q2];repeat refine sdQ ?_
 refine hK _ ?_;clear hK K;refine tn ?_;refine Q8 (st':=⟨[(0,.rptr (Fn.cells true d_)),(1,.lst true 2 (Es (Cone.cells true) all_)),(5,.adr 0 0 0)],[(0,.mix 2 [(Cone.cells true p_)])],1⟩) (Qi [(0,0)]) ?_;refine Q3 ?_;refine Q3 ?_;refine runQ hN fun K hK=>?_;simp [-Q0,-Q5,-Q1,-Q6,-Q2];repeat refine sdQ ?_
 refine hK _ ?_;clear hK K;refine tn ?_;refine Q8 (st':=⟨[(0,.rptr (Fn.cells true d_)),(5,.adr 0 0 0),(9,.lst true 2 (Es (Cone.cells true) all_)),(10,iV (all_.length:Int)),(11,iV 0)],[(0,.mix 2 [(Cone.cells true p_)])],1⟩) (Qi [(0,0)]) ?_;replace h:=bind_some h;obtain ⟨e1,h,h1⟩:=h;refine Qj (fun b1:Unit=>⟨[],[],0⟩) (fun b1=>Sum.inl b1=e1) ?_ ?_
 ·refine Qa ?_;refine Qx h (fun s7:Int=>⟨[(0,.rptr (Fn.cells true d_)),(5,.adr 0 0 0),(9,.lst true 2 (Es (Cone.cells true) all_)),(10,iV (all_.length:Int)),(11,iV s7)],[(0,.mix 2 [(Cone.cells true p_)])],1⟩) (Qi [(0,0)]) ?_;clear h;intro k7 s7 c7 h hk7;refine Q3 ?_;refine runQ hN fun K hK=>?_;simp [-Q0,-Q5,-Q1,-Q6,-Q2];repeat refine sdQ ?_
  refine hK _ ?_;clear hK K;refine tn ?_;refine Q8 (st':=⟨[(0,.rptr (Fn.cells true d_)),(5,.adr 0 0 0),(9,.lst true 2 (Es (Cone.cells true) all_)),(10,iV (all_.length:Int)),(11,iV s7),(12,.val (.bool (decide (s7<(all_.length:Int)))))],[(0,.mix 2 [(Cone.cells true p_)])],1⟩) (Qi [(0,0)]) ?_;refine Q3 ?_;refine Qc rfl (fun g=>?_) fun g=>?_
  ·have g8:s7<(all_.length:Int):=gQ;clear g;replace h:=if_l g8 h;refine Qd ?_;refine tn ?_;refine Q3 ?_;refine Qa ?_;refine Q3 ?_;refine runQ hN fun K hK=>?_;replace h:=Q4 h;obtain ⟨a9,h⟩:=h;simp [-Q0,-Q5,-Q1,-Q6,-Q2,at_E (c:=(Cone.cells true)) a9];(repeat refine sdQ ?_);refine hK _ ?_;clear hK K;refine tn ?_;refine Q8 (st':=⟨[(0,.rptr (Fn.cells true d_)),(5,.adr 0 0 0),(8,.adr 1 0 0),(9,.lst true 2 (Es (Cone.cells true) all_)),(10,iV (all_.length:Int)),(11,iV s7)],[(0,.mix 2 [(Cone.cells true p_)]),(1,.mix 2 [(Cone.cells true (gx all_ s7))])],2⟩) (Qi [(0,0),(1,1)]) ?_;refine Q3 ?_;refine runQ hN fun K hK=>?_;simp [-Q0,-Q5,-Q1,-Q6,-Q2];(repeat with_reducible refine sdQ ?_);replace h:=bind_some h;obtain ⟨v10,hv10,h⟩:=h;refine Q7 (Q6N _ _ _ v10 hv10) (.cons (.preT (by simp [Cone.cells,Fn.cells])) (.cons (.aggL (.cons .val (.cons .lst .nil))) (.cons (.aggL (.cons .val (.cons .lst .nil))) .nil))) ?_;simp [-Q0,-Q5,-Q1,-Q6,-Q2,unk,unA,unE,unT,unC,flat];(repeat refine sdQ ?_);refine hK _ ?_;clear hK K;refine tn ?_;refine Q8 (st':=⟨[(0,.rptr (Fn.cells true d_)),(5,.adr 0 0 0),(9,.lst true 2 (Es (Cone.cells true) all_)),(10,iV (all_.length:Int)),(11,iV s7),(20,.val (.bool ((v10.length:Int) != 1)))],[(0,.mix 2 [(Cone.cells true p_)])],1⟩) (Qi [(0,0)]) ?_;refine Qc rfl (fun g=>?_) fun g=>?_
   ·have g11:¬ ((v10.length:Int)=1):=gQ;clear g;replace h:=if_l g11 h;refine Q3 ?_;refine runQ hN fun K hK=>?_;simp [-Q0,-Q5,-Q1,-Q6,-Q2];(repeat refine sdQ ?_);refine hK _ ?_;clear hK K;refine tn ?_;refine Q8 (st':=⟨[(6,.val (.bool false))],[],0⟩) (Qi []) ?_;refine Qk ?_;refine br ?_;refine tr ?_;refine lr ?_;refine br ?_;refine tr ?_;cases h;have q:_=e1:=hk7;have h:=h1;rw [← q] at h;clear q;(try dsimp only at h);have hr:=Option.some.inj h;rw [← hr];refine ⟨_,(.tmp .nil),?_⟩;refine ⟨(.one rfl rfl .nil),[.val (.bool false)],[],by simp [Cone.cells,Fn.cells,UA,U1,IA,I1,LA,L1,BA,B1,EA,E1,E2,eB,eI,eL,Qh _ (Cone.cells true) _ (fun _=>rfl)],by simp,(UpL.refl _)⟩
   have g11:¬ (¬ ((v10.length:Int)=1)):=gQ;clear g;replace h:=if_r g11 h;refine Qd ?_;refine bn ?_;refine tn ?_;refine runQ hN fun K hK=>?_;replace h:=Q4 h;obtain ⟨a12,h⟩:=h;simp [-Q0,-Q5,-Q1,-Q6,-Q2,Qt a12];(repeat refine sdQ ?_);refine hK _ ?_;clear hK K;cases h;exact rn (s':=s7+1) hk7 (Qi [(0,0)])
  have g8:¬ (s7<(all_.length:Int)):=gQ;clear g;replace h:=if_r g8 h;refine Qq ?_;refine tx ?_;refine lx ?_;refine bh ?_;cases h;exact jn (b:=()) hk7 (Qi [])
 intro b1 hb1;have h:=h1;try rw [← hb1] at h
 clear h1;try dsimp only at h
 refine Q3 ?_;refine runQ hN fun K hK=>?_;simp [-Q0,-Q5,-Q1,-Q6,-Q2];repeat refine sdQ ?_
 refine hK _ ?_;clear hK K;refine tn ?_;refine Q8 (st':=⟨[(6,.val (.bool true))],[],0⟩) (Qi []) ?_;refine Qk ?_;have hr:=Option.some.inj h;rw [← hr];refine ⟨_,(.tmp .nil),?_⟩;refine ⟨(.one rfl rfl .nil),[.val (.bool true)],[],by simp [Cone.cells,Fn.cells,UA,U1,IA,I1,LA,L1,BA,B1,EA,E1,E2,eB,eI,eL,Qh _ (Cone.cells true) _ (fun _=>rfl)],by simp,(UpL.refl _)⟩
attribute [local simp] eL eI Qs QH Q24 Q1B Cat.cells Cone.cells Fn.cells
noncomputable def Q2q (d_:Fn) (p_:Cone) (q_:Cone):Option (List Int) :=
 (Q1P d_.t p_.a q_.a).bind fun v1 =>
 (QA (σ:=List Int × Int) (ε:=List Int) (fun s27 =>
  if s27.2<(v1.length:Int) then
   (
    (QA (σ:=Bool × Int) (ε:=Bool) (fun s39 =>
     (
      if s39.2<(p_.l.length:Int) then
       some s39.1
      else
       some false:Option (Bool)).bind fun b40 =>
     if b40=true then
      ass (0≤s27.2∧s27.2<(v1.length:Int)) <|
      ass (0≤s39.2∧s39.2<(q_.l.length:Int)) <|
      (Q13 d_.t (ix v1 s27.2) (ix q_.l s39.2)).bind fun v45 =>
      ass (0≤s39.2∧s39.2<(p_.l.length:Int)) <|
      ass (B64 (s39.2+1)) <|
      some (Ctl.next (v45 == (ix p_.l s39.2),s39.2+1))
     else
      some (Ctl.ret s39.1)) fuel (true,0)).bind fun b30 =>
    if b30=true then
     ass (0≤s27.2∧s27.2<(v1.length:Int)) <|
     ass ((s27.1++[ix v1 s27.2]).length≤1073741824) <|
     some (s27.1++[ix v1 s27.2])
    else
     some s27.1:Option (List Int)).bind fun b29 =>
   ass (B64 (s27.2+1)) <|
   some (Ctl.next (b29,s27.2+1))
  else
   some (Ctl.ret s27.1)) fuel ([],0)).bind fun b2 =>
 some b2
theorem Q7x (d_:Fn) (p_:Cone) (q_:Cone) (r:List Int) (h:Q2q d_ p_ q_=some r):Contract Try.prog 123 [.agg (d_.cells true),.agg (p_.cells true),.agg (q_.cells true)] (lI r):=by
 refine Qe (rvs:=[.tmp 6]) (rs:=[lI r]) Try.func123 rfl rfl rfl rfl (by simp [Try.f123]) fun F hN hP=>?_;unfold Q2q at h;refine Q3 ?_;refine runQ hN fun K hK=>?_;simp [-Q0,-Q5,-Q1,-Q6,-Q2];repeat refine sdQ ?_
 refine hK _ ?_;clear hK K;refine tn ?_;refine Q8 (st':=⟨[(3,.adr 0 0 0),(4,.adr 1 0 0),(5,.adr 2 0 0)],[(0,.mix 12 [(Fn.cells true d_)]),(1,.mix 2 [(Cone.cells true p_)]),(2,.mix 2 [(Cone.cells true q_)])],3⟩) (Qi [(0,0),(1,1),(2,2)]) ?_;refine Q3 ?_;refine runQ hN fun K hK=>?_;simp [-Q0,-Q5,-Q1,-Q6,-Q2];repeat with_reducible refine sdQ ?_
 replace h:=bind_some h;obtain ⟨v1,hv1,h⟩:=h;refine Q7 (Q5G _ _ _ v1 hv1) (.cons (.aggL (.cons .val (.cons .lst (.cons .lst (.cons .lst (.cons .lst .nil)))))) (.cons .val (.cons .val .nil))) ?_;simp [-Q0,-Q5,-Q1,-Q6,-Q2,unk,unA,unE,unT,unC,flat];repeat refine sdQ ?_
 refine hK _ ?_;clear hK K;refine tn ?_;refine Q8 (st':=⟨[(3,.adr 0 0 0),(4,.adr 1 0 0),(5,.adr 2 0 0),(7,.own 3 0 v1.length)],[(0,.mix 12 [(Fn.cells true d_)]),(1,.mix 2 [(Cone.cells true p_)]),(2,.mix 2 [(Cone.cells true q_)]),(3,rI v1)],4⟩) (Qi [(0,0),(1,1),(2,2),(3,3)]) ?_;refine Q3 ?_;refine runQ hN fun K hK=>?_;simp [-Q0,-Q5,-Q1,-Q6,-Q2];repeat refine sdQ ?_
 refine hK _ ?_;clear hK K;refine tn ?_;refine Q8 (st':=⟨[(3,.adr 0 0 0),(4,.adr 1 0 0),(5,.adr 2 0 0),(7,.own 3 0 v1.length),(8,.own 4 0 0)],[(0,.mix 12 [(Fn.cells true d_)]),(1,.mix 2 [(Cone.cells true p_)]),(2,.mix 2 [(Cone.cells true q_)]),(3,rI v1),(4,.mix 1 [])],5⟩) (Qi [(0,0),(1,1),(2,2),(3,3),(4,4)]) ?_;refine Q3 ?_;refine Q3 ?_;refine runQ hN fun K hK=>?_;simp [-Q0,-Q5,-Q1,-Q6,-Q2];repeat refine sdQ ?_
 refine hK _ ?_;clear hK K;refine tn ?_;refine Q8 (st':=⟨[(3,.adr 0 0 0),(4,.adr 1 0 0),(5,.adr 2 0 0),(7,.own 3 0 v1.length),(8,.own 4 0 0),(9,iV 0)],[(0,.mix 12 [(Fn.cells true d_)]),(1,.mix 2 [(Cone.cells true p_)]),(2,.mix 2 [(Cone.cells true q_)]),(3,rI v1),(4,.mix 1 [])],5⟩) (Qi [(0,0),(1,1),(2,2),(3,3),(4,4)]) ?_;replace h:=bind_some h;obtain ⟨e2,h,h2⟩:=h;refine Qj (fun b2:List Int=>⟨[(8,.own 0 0 b2.length)],[(0,rI b2)],1⟩) (fun b2=>b2=e2) ?_ ?_
 ·refine Qa ?_;refine Qx h (fun s27:List Int × Int=>⟨[(3,.adr 0 0 0),(4,.adr 1 0 0),(5,.adr 2 0 0),(7,.own 3 0 v1.length),(8,.own 4 0 s27.1.length),(9,iV s27.2)],[(0,.mix 12 [(Fn.cells true d_)]),(1,.mix 2 [(Cone.cells true p_)]),(2,.mix 2 [(Cone.cells true q_)]),(3,rI v1),(4,rI s27.1)],5⟩) (Q2N ⟨[(3,.adr 0 0 0),(4,.adr 1 0 0),(5,.adr 2 0 0),(7,.own 3 0 v1.length),(8,.own 4 0 0),(9,iV 0)],[(0,.mix 12 [(Fn.cells true d_)]),(1,.mix 2 [(Cone.cells true p_)]),(2,.mix 2 [(Cone.cells true q_)]),(3,rI v1),(4,rI [])],5⟩ (Wk.nils [] (by simp) (by simp) (by simp [nlA]) (by simp [entN,nlL,nlA,Cat.cells,Cone.cells,Fn.cells,UA,U1,IA,I1,LA,L1,BA,B1,EA,E1,E2,eB,eI,eL]) (by simp)) (Qi [(0,0),(1,1),(2,2),(3,3),(4,4)])) ?_;clear h;intro k27 s27 c27 h hk27;refine Q3 ?_;refine Q3 ?_;refine runQ hN fun K hK=>?_;simp [-Q0,-Q5,-Q1,-Q6,-Q2];repeat refine sdQ ?_
  refine hK _ ?_;clear hK K;refine tn ?_;refine Q8 (st':=⟨[(3,.adr 0 0 0),(4,.adr 1 0 0),(5,.adr 2 0 0),(7,.own 3 0 v1.length),(8,.own 4 0 s27.1.length),(9,iV s27.2),(23,.val (.bool (decide (s27.2<(v1.length:Int)))))],[(0,.mix 12 [(Fn.cells true d_)]),(1,.mix 2 [(Cone.cells true p_)]),(2,.mix 2 [(Cone.cells true q_)]),(3,rI v1),(4,rI s27.1)],5⟩) (Qi [(0,0),(1,1),(2,2),(3,3),(4,4)]) ?_;refine Qc rfl (fun g=>?_) fun g=>?_
  ·have g28:s27.2<(v1.length:Int):=gQ;clear g;replace h:=if_l g28 h;refine Qd ?_;refine tn ?_;refine Q3 ?_;replace h:=bind_some h;obtain ⟨e29,h,h29⟩:=h;refine Qj (fun b29:List Int=>⟨[(3,.adr 0 0 0),(4,.adr 1 0 0),(5,.adr 2 0 0),(7,.own 3 0 v1.length),(8,.own 4 0 b29.length),(9,iV s27.2)],[(0,.mix 12 [(Fn.cells true d_)]),(1,.mix 2 [(Cone.cells true p_)]),(2,.mix 2 [(Cone.cells true q_)]),(3,rI v1),(4,rI b29)],5⟩) (fun b29=>b29=e29) ?_ ?_
   ·refine Qa ?_;refine Q3 ?_;refine runQ hN fun K hK=>?_;simp [-Q0,-Q5,-Q1,-Q6,-Q2];(repeat refine sdQ ?_);refine hK _ ?_;clear hK K;refine tn ?_;refine Q8 (st':=⟨[(3,.adr 0 0 0),(4,.adr 1 0 0),(5,.adr 2 0 0),(7,.own 3 0 v1.length),(8,.own 4 0 s27.1.length),(9,iV s27.2),(10,.val (.bool true))],[(0,.mix 12 [(Fn.cells true d_)]),(1,.mix 2 [(Cone.cells true p_)]),(2,.mix 2 [(Cone.cells true q_)]),(3,rI v1),(4,rI s27.1)],5⟩) (Qi [(0,0),(1,1),(2,2),(3,3),(4,4)]) ?_;refine Q3 ?_;refine Q3 ?_;refine runQ hN fun K hK=>?_;simp [-Q0,-Q5,-Q1,-Q6,-Q2];(repeat refine sdQ ?_);refine hK _ ?_;clear hK K;refine tn ?_;refine Q8 (st':=⟨[(3,.adr 0 0 0),(4,.adr 1 0 0),(5,.adr 2 0 0),(7,.own 3 0 v1.length),(8,.own 4 0 s27.1.length),(9,iV s27.2),(10,.val (.bool true)),(11,iV 0)],[(0,.mix 12 [(Fn.cells true d_)]),(1,.mix 2 [(Cone.cells true p_)]),(2,.mix 2 [(Cone.cells true q_)]),(3,rI v1),(4,rI s27.1)],5⟩) (Qi [(0,0),(1,1),(2,2),(3,3),(4,4)]) ?_;replace h:=bind_some h;obtain ⟨e30,h,h30⟩:=h;refine Qj (fun b30:Bool=>⟨[(3,.adr 0 0 0),(4,.adr 1 0 0),(5,.adr 2 0 0),(7,.own 3 0 v1.length),(8,.own 4 0 s27.1.length),(9,iV s27.2),(10,.val (.bool b30))],[(0,.mix 12 [(Fn.cells true d_)]),(1,.mix 2 [(Cone.cells true p_)]),(2,.mix 2 [(Cone.cells true q_)]),(3,rI v1),(4,rI s27.1)],5⟩) (fun b30=>b30=e30) ?_ ?_
    ·refine Qa ?_;refine Qx h (fun s39:Bool × Int=>⟨[(3,.adr 0 0 0),(4,.adr 1 0 0),(5,.adr 2 0 0),(7,.own 3 0 v1.length),(8,.own 4 0 s27.1.length),(9,iV s27.2),(10,.val (.bool s39.1)),(11,iV s39.2)],[(0,.mix 12 [(Fn.cells true d_)]),(1,.mix 2 [(Cone.cells true p_)]),(2,.mix 2 [(Cone.cells true q_)]),(3,rI v1),(4,rI s27.1)],5⟩) (Qi [(0,0),(1,1),(2,2),(3,3),(4,4)]) ?_;clear h;intro k39 s39 c39 h hk39;refine Q3 ?_;refine Q3 ?_;replace h:=bind_some h;obtain ⟨e40,h,h40⟩:=h;refine Qj (fun b40:Bool=>⟨[(3,.adr 0 0 0),(4,.adr 1 0 0),(5,.adr 2 0 0),(7,.own 3 0 v1.length),(8,.own 4 0 s27.1.length),(9,iV s27.2),(10,.val (.bool s39.1)),(11,iV s39.2),(33,.val (.bool b40))],[(0,.mix 12 [(Fn.cells true d_)]),(1,.mix 2 [(Cone.cells true p_)]),(2,.mix 2 [(Cone.cells true q_)]),(3,rI v1),(4,rI s27.1)],5⟩) (fun b40=>b40=e40) ?_ ?_
     ·refine runQ hN fun K hK=>?_;simp [-Q0,-Q5,-Q1,-Q6,-Q2];(repeat with_reducible refine sdQ ?_);refine Qn (fun g=>?_) (fun g=>?_)
      ·have g41:s39.2<(p_.l.length:Int):=gQ;clear g;replace h:=if_l g41 h;simp [-Q0,-Q5,-Q1,-Q6,-Q2];(repeat refine sdQ ?_);refine hK _ ?_;exact jn (b:=s39.1) (Option.some.inj h) (Qi [(0,0),(1,1),(2,2),(3,3),(4,4)])
      have g41:¬ (s39.2<(p_.l.length:Int)):=gQ;clear g;replace h:=if_r g41 h;simp [-Q0,-Q5,-Q1,-Q6,-Q2];(repeat refine sdQ ?_);refine hK _ ?_;exact jn (b:=false) (Option.some.inj h) (Qi [(0,0),(1,1),(2,2),(3,3),(4,4)])
     intro b40 hb40;have h:=h40;(try rw [← hb40] at h);clear h40;(try dsimp only at h);refine Qc rfl (fun g=>?_) fun g=>?_
     ·have g42:b40=true:=gQ;clear g;replace h:=if_l g42 h;refine Qd ?_;refine tn ?_;refine Q3 ?_;refine Qa ?_;refine runQ hN fun K hK=>?_;replace h:=Q4 h;obtain ⟨a43,h⟩:=h;replace h:=Q4 h;obtain ⟨a44,h⟩:=h;simp [-Q0,-Q5,-Q1,-Q6,-Q2,at_I a43,at_I a44];(repeat with_reducible refine sdQ ?_);replace h:=bind_some h;obtain ⟨v45,hv45,h⟩:=h;refine Q7 (Q7u _ _ _ v45 hv45) (.cons (.aggL (.cons .val (.cons .lst (.cons .lst (.cons .lst (.cons .lst .nil)))))) (.cons .val (.cons .val .nil))) ?_;replace h:=Q4 h;obtain ⟨a46,h⟩:=h;simp [-Q0,-Q5,-Q1,-Q6,-Q2,unk,unA,unE,unT,unC,flat,at_I a43,at_I a44,at_I a46];(repeat refine sdQ ?_);refine hK _ ?_;clear hK K;refine bn ?_;refine tn ?_;refine Q8 (st':=⟨[(3,.adr 0 0 0),(4,.adr 1 0 0),(5,.adr 2 0 0),(7,.own 3 0 v1.length),(8,.own 4 0 s27.1.length),(9,iV s27.2),(10,.val (.bool (v45 == (ix p_.l s39.2)))),(11,iV s39.2)],[(0,.mix 12 [(Fn.cells true d_)]),(1,.mix 2 [(Cone.cells true p_)]),(2,.mix 2 [(Cone.cells true q_)]),(3,rI v1),(4,rI s27.1)],5⟩) (Qi [(0,0),(1,1),(2,2),(3,3),(4,4)]) ?_;refine runQ hN fun K hK=>?_;replace h:=Q4 h;obtain ⟨a47,h⟩:=h;simp [-Q0,-Q5,-Q1,-Q6,-Q2,Qt a47];(repeat refine sdQ ?_);refine hK _ ?_;clear hK K;cases h;exact rn (s':=(v45 == (ix p_.l s39.2),s39.2+1)) hk39 (Qi [(0,0),(1,1),(2,2),(3,3),(4,4)])
     have g42:¬ (b40=true):=gQ;clear g;replace h:=if_r g42 h;refine Qq ?_;refine tx ?_;refine lx ?_;refine bh ?_;cases h;exact jn (b:=s39.1) hk39 (Qi [(0,0),(1,1),(2,2),(3,3),(4,4)])
    intro b30 hb30;have h:=h30;(try rw [← hb30] at h);clear h30;(try dsimp only at h);refine Q3 ?_;refine runQ hN fun K hK=>?_;simp [-Q0,-Q5,-Q1,-Q6,-Q2];(repeat refine sdQ ?_);refine hK _ ?_;clear hK K;refine tn ?_;refine Q8 (st':=⟨[(3,.adr 0 0 0),(4,.adr 1 0 0),(5,.adr 2 0 0),(7,.own 3 0 v1.length),(8,.own 4 0 s27.1.length),(9,iV s27.2),(54,.val (.bool b30))],[(0,.mix 12 [(Fn.cells true d_)]),(1,.mix 2 [(Cone.cells true p_)]),(2,.mix 2 [(Cone.cells true q_)]),(3,rI v1),(4,rI s27.1)],5⟩) (Qi [(0,0),(1,1),(2,2),(3,3),(4,4)]) ?_;refine Qc rfl (fun g=>?_) fun g=>?_
    ·have g48:b30=true:=gQ;clear g;replace h:=if_l g48 h;refine runQ hN fun K hK=>?_;replace h:=Q4 h;obtain ⟨a49,h⟩:=h;replace h:=Q4 h;obtain ⟨a50,h⟩:=h;(try simp only [List.length_append,List.length_cons,List.length_nil] at a50);simp [-Q0,-Q5,-Q1,-Q6,-Q2,at_I a49,a50];(repeat refine sdQ ?_);refine hK _ ?_;clear hK K;refine bn ?_;exact jn (b:=s27.1++[ix v1 s27.2]) (Option.some.inj h) (Qi [(0,0),(1,1),(2,2),(3,3),(7,4)])
    have g48:¬ (b30=true):=gQ;clear g;replace h:=if_r g48 h;refine Qd ?_;refine bn ?_;exact jn (b:=s27.1) (Option.some.inj h) (Qi [(0,0),(1,1),(2,2),(3,3),(4,4)])
   intro b29 hb29;have h:=h29;(try rw [← hb29] at h);clear h29;(try dsimp only at h);refine runQ hN fun K hK=>?_;replace h:=Q4 h;obtain ⟨a51,h⟩:=h;simp [-Q0,-Q5,-Q1,-Q6,-Q2,Qt a51];(repeat refine sdQ ?_);refine hK _ ?_;clear hK K;cases h;exact rn (s':=(b29,s27.2+1)) hk27 (Qi [(0,0),(1,1),(2,2),(3,3),(4,4)])
  have g28:¬ (s27.2<(v1.length:Int)):=gQ;clear g;replace h:=if_r g28 h;refine Qq ?_;refine tx ?_;refine lx ?_;refine bh ?_;cases h;exact jn (b:=s27.1) hk27 (Qi [(4,0)])
 intro b2 hb2;have h:=h2;try rw [← hb2] at h
 clear h2;try dsimp only at h
 refine Q3 ?_;refine runQ hN fun K hK=>?_;simp [-Q0,-Q5,-Q1,-Q6,-Q2];repeat refine sdQ ?_
 refine hK _ ?_;clear hK K;refine tn ?_;refine Q8 (st':=⟨[(6,.own 0 0 b2.length)],[(0,rI b2)],1⟩) (Qi [(0,0)]) ?_;refine Qk ?_;have hr:=Option.some.inj h;rw [← hr];refine ⟨_,(.tmp .nil),?_⟩;refine ⟨(.one rfl rfl .nil),[lI b2],[0],by simp [Cat.cells,Cone.cells,Fn.cells,UA,U1,IA,I1,LA,L1,BA,B1,EA,E1,E2,eB,eI,eL],by simp,(UpL.refl _)⟩
attribute [local simp] eL eI Qs Q24 Q1B Cone.cells Fn.cells
noncomputable def Q16 (d_:Fn) (list_:List Cone) (p_:Cone):Option Bool :=
 (QA (σ:=Int) (ε:=Unit ⊕ Bool) (fun s7 =>
  if s7<(list_.length:Int) then
   ass (0≤s7∧s7<(list_.length:Int)) <|
   (Q2q d_ (gx list_ s7) p_).bind fun v10 =>
   if ¬ ((v10.length:Int)=1) then
    some (Ctl.ret (Sum.inr false))
   else
    ass (B64 (s7+1)) <|
    some (Ctl.next (s7+1))
  else
   some (Ctl.ret (Sum.inl ()))) fuel 0).bind fun e1 =>
 match e1 with
 | .inl b1 =>
  some true
 | .inr p1 =>
  some p1
theorem Q4y (d_:Fn) (list_:List Cone) (p_:Cone) (r:Bool) (h:Q16 d_ list_ p_=some r):Contract Try.prog 89 [.agg (d_.cells true),.lst true 2 (Es (Cone.cells true) list_),.agg (p_.cells true)] (.val (.bool r)):=by
 refine Qe (rvs:=[.tmp 6]) (rs:=[.val (.bool r)]) Try.func89 rfl rfl rfl rfl (by simp [Try.f89]) fun F hN hP=>?_;unfold Q16 at h;refine Q3 ?_;refine runQ hN fun K hK=>?_;simp [-Q0,-Q5,-Q1,-Q6,-Q2];repeat refine sdQ ?_
 refine hK _ ?_;clear hK K;refine tn ?_;refine Q8 (st':=⟨[(1,.lst true 2 (Es (Cone.cells true) list_)),(3,.adr 0 0 0),(5,.adr 1 0 0)],[(0,.mix 12 [(Fn.cells true d_)]),(1,.mix 2 [(Cone.cells true p_)])],2⟩) (Qi [(0,0),(1,1)]) ?_;refine Q3 ?_;refine Q3 ?_;refine runQ hN fun K hK=>?_;simp [-Q0,-Q5,-Q1,-Q6,-Q2];repeat refine sdQ ?_
 refine hK _ ?_;clear hK K;refine tn ?_;refine Q8 (st':=⟨[(1,.lst true 2 (Es (Cone.cells true) list_)),(3,.adr 0 0 0),(5,.adr 1 0 0),(7,iV 0)],[(0,.mix 12 [(Fn.cells true d_)]),(1,.mix 2 [(Cone.cells true p_)])],2⟩) (Qi [(0,0),(1,1)]) ?_;replace h:=bind_some h;obtain ⟨e1,h,h1⟩:=h;refine Qj (fun b1:Unit=>⟨[],[],0⟩) (fun b1=>Sum.inl b1=e1) ?_ ?_
 ·refine Qa ?_;refine Qx h (fun s7:Int=>⟨[(1,.lst true 2 (Es (Cone.cells true) list_)),(3,.adr 0 0 0),(5,.adr 1 0 0),(7,iV s7)],[(0,.mix 12 [(Fn.cells true d_)]),(1,.mix 2 [(Cone.cells true p_)])],2⟩) (Qi [(0,0),(1,1)]) ?_;clear h;intro k7 s7 c7 h hk7;refine Q3 ?_;refine Q3 ?_;refine runQ hN fun K hK=>?_;simp [-Q0,-Q5,-Q1,-Q6,-Q2];repeat refine sdQ ?_
  refine hK _ ?_;clear hK K;refine tn ?_;refine Q8 (st':=⟨[(1,.lst true 2 (Es (Cone.cells true) list_)),(3,.adr 0 0 0),(5,.adr 1 0 0),(7,iV s7),(11,.val (.bool (decide (s7<(list_.length:Int)))))],[(0,.mix 12 [(Fn.cells true d_)]),(1,.mix 2 [(Cone.cells true p_)])],2⟩) (Qi [(0,0),(1,1)]) ?_;refine Qc rfl (fun g=>?_) fun g=>?_
  ·have g8:s7<(list_.length:Int):=gQ;clear g;replace h:=if_l g8 h;refine Qd ?_;refine tn ?_;refine Q3 ?_;refine Qa ?_;refine Q3 ?_;refine runQ hN fun K hK=>?_;replace h:=Q4 h;obtain ⟨a9,h⟩:=h;simp [-Q0,-Q5,-Q1,-Q6,-Q2,at_E (c:=(Cone.cells true)) a9];(repeat with_reducible refine sdQ ?_);replace h:=bind_some h;obtain ⟨v10,hv10,h⟩:=h;refine Q7 (Q7x _ _ _ v10 hv10) (.cons (.aggL (.cons .val (.cons .lst (.cons .lst (.cons .lst (.cons .lst (.cons .val (.cons .lst (.cons .lst (.cons .lst (.cons .lst (.cons .lst (.cons .lst .nil))))))))))))) (.cons (.aggL (.cons .val (.cons .lst .nil))) (.cons (.aggL (.cons .val (.cons .lst .nil))) .nil))) ?_;simp [-Q0,-Q5,-Q1,-Q6,-Q2,unk,unA,unE,unT,unC,flat,at_E (c:=(Cone.cells true)) a9];(repeat refine sdQ ?_);refine hK _ ?_;clear hK K;refine tn ?_;refine Q8 (st':=⟨[(1,.lst true 2 (Es (Cone.cells true) list_)),(3,.adr 0 0 0),(5,.adr 1 0 0),(7,iV s7),(22,.val (.bool ((v10.length:Int) != 1)))],[(0,.mix 12 [(Fn.cells true d_)]),(1,.mix 2 [(Cone.cells true p_)])],2⟩) (Qi [(0,0),(1,1)]) ?_;refine Qc rfl (fun g=>?_) fun g=>?_
   ·have g11:¬ ((v10.length:Int)=1):=gQ;clear g;replace h:=if_l g11 h;refine Q3 ?_;refine runQ hN fun K hK=>?_;simp [-Q0,-Q5,-Q1,-Q6,-Q2];(repeat refine sdQ ?_);refine hK _ ?_;clear hK K;refine tn ?_;refine Q8 (st':=⟨[(6,.val (.bool false))],[],0⟩) (Qi []) ?_;refine Qk ?_;refine br ?_;refine tr ?_;refine lr ?_;refine br ?_;refine tr ?_;cases h;have q:_=e1:=hk7;have h:=h1;rw [← q] at h;clear q;(try dsimp only at h);have hr:=Option.some.inj h;rw [← hr];refine ⟨_,(.tmp .nil),?_⟩;refine ⟨(.one rfl rfl .nil),[.val (.bool false)],[],by simp [Cone.cells,Fn.cells,UA,U1,IA,I1,LA,L1,BA,B1,EA,E1,E2,eB,eI,eL,Qh _ (Cone.cells true) _ (fun _=>rfl)],by simp,(UpL.refl _)⟩
   have g11:¬ (¬ ((v10.length:Int)=1)):=gQ;clear g;replace h:=if_r g11 h;refine Qd ?_;refine bn ?_;refine tn ?_;refine runQ hN fun K hK=>?_;replace h:=Q4 h;obtain ⟨a12,h⟩:=h;simp [-Q0,-Q5,-Q1,-Q6,-Q2,Qt a12];(repeat refine sdQ ?_);refine hK _ ?_;clear hK K;cases h;exact rn (s':=s7+1) hk7 (Qi [(0,0),(1,1)])
  have g8:¬ (s7<(list_.length:Int)):=gQ;clear g;replace h:=if_r g8 h;refine Qq ?_;refine tx ?_;refine lx ?_;refine bh ?_;cases h;exact jn (b:=()) hk7 (Qi [])
 intro b1 hb1;have h:=h1;try rw [← hb1] at h
 clear h1;try dsimp only at h
 refine Q3 ?_;refine runQ hN fun K hK=>?_;simp [-Q0,-Q5,-Q1,-Q6,-Q2];repeat refine sdQ ?_
 refine hK _ ?_;clear hK K;refine tn ?_;refine Q8 (st':=⟨[(6,.val (.bool true))],[],0⟩) (Qi []) ?_;refine Qk ?_;have hr:=Option.some.inj h;rw [← hr];refine ⟨_,(.tmp .nil),?_⟩;refine ⟨(.one rfl rfl .nil),[.val (.bool true)],[],by simp [Cone.cells,Fn.cells,UA,U1,IA,I1,LA,L1,BA,B1,EA,E1,E2,eB,eI,eL,Qh _ (Cone.cells true) _ (fun _=>rfl)],by simp,(UpL.refl _)⟩
def Cone.G (d:Fn) (p:Cone):Prop:=(0≤p.a∧p.a<d.t.n)∧p.l.length=d.ob.length∧LP d p.a p.l
theorem mem_coneL {d:Fn} (hd:d.Is) {p:Cone} (h:p∈Q1a d):p.G d:=by
 have n0:=hd.t.1.n0;simp only [Q1a,Q1b,Q5a,List.mem_flatMap,List.mem_range,List.mem_map] at h;obtain ⟨x,hx,q,hq,rfl⟩:=h;obtain ⟨q1,q2,q3⟩:=Q6A hd hq;exact ⟨by simp only;omega,q1,q2⟩
noncomputable def cmL (d:Fn) (p q:Cone):List Int:=(homL d.t p.a q.a).filter fun f=>bo (∀ i:Nat,i<p.l.length→ix (rx d.t.cs f) (ix q.l i)=ix p.l i)
theorem Q5L {d:Fn} (hd:d.Is) {p q:Cone} (hp:p.G d) (hq:q.G d):Q2q d p q=some (cmL d p q)∧Q1Z d p q=some (cmL d p q):=by
 obtain ⟨l1,l2,l3,l4,l5,l6,l7,l8⟩:=hd.fact;obtain ⟨p1,p2,p3⟩:=hp;obtain ⟨q1,q2,q3⟩:=hq;have hH:=Q4A d.t p.a q.a;have hthn:∀ k:Nat,k<(homL d.t p.a q.a).length→∀ i:Nat,i<p.l.length→Q13 d.t (ix (homL d.t p.a q.a) k) (ix q.l i)=some (ix (rx d.t.cs (ix (homL d.t p.a q.a) k)) (ix q.l i))∧Qu d.t (ix (homL d.t p.a q.a) k) (ix q.l i)=some (ix (rx d.t.cs (ix (homL d.t p.a q.a) k)) (ix q.l i)):=fun k hk i hi =>
  (Q7U (P:=fun f=>Ar d.t f p.a q.a) Q3r hk).thn hd.t (q3 i (by omega))
 constructor
 ·unfold Q2q;rw [(Q7F hd.t _ _).1];simp only [Option.bind_some];refine Q5N (homL d.t p.a q.a) (fun f=>∀ i:Nat,i<p.l.length→ix (rx d.t.cs f) (ix q.l i)=ix p.l i) (e:=cmL d p q) (by omega) (fun k acc hk hacc=>?_) ?_ rfl
  ·have hk2:(k:Int)<((homL d.t p.a q.a).length:Int):=(by omega);have hB:B64 ((k:Int)+1):=(by unfold B64;omega);have inner:∀ {β:Type} {K:Bool→Option β} {r:β},K (bo (∀ i:Nat,i<p.l.length→ix (rx d.t.cs (ix (homL d.t p.a q.a) k)) (ix q.l i)=ix p.l i))=some r →
     (QA (σ:=Bool × Int) (ε:=Bool) (fun s39 =>
     (
      if s39.2<(p.l.length:Int) then
       some s39.1
      else
       some false:Option (Bool)).bind fun b40 =>
     if b40=true then
      ass (0≤(k:Int)∧(k:Int)<((homL d.t p.a q.a).length:Int)) <|
      ass (0≤s39.2∧s39.2<(q.l.length:Int)) <|
      (Q13 d.t (ix (homL d.t p.a q.a) k) (ix q.l s39.2)).bind fun v45 =>
      ass (0≤s39.2∧s39.2<(p.l.length:Int)) <|
      ass (B64 (s39.2+1)) <|
      some (Ctl.next (v45 == (ix p.l s39.2),s39.2+1))
     else
      some (Ctl.ret s39.1)) fuel (true,0)).bind K=some r:=by
    intro β K r hk';refine wh_bind p.l.length (fun i=>ix (rx d.t.cs (ix (homL d.t p.a q.a) k)) (ix q.l i)=ix p.l i) (by omega) (fun i hi=>?_) (by simp) (fun i=>?_) hk'
    ·have hi2:(i:Int)<(p.l.length:Int):=(by omega);show ((if (i:Int)<(p.l.length:Int) then some true else some false:Option Bool).bind _)=_;rw [if_pos hi2];simp only [Option.bind_some,if_true];rw [Q9 ⟨by omega,hk2⟩,Q9 (by omega),(hthn k hk i hi).1];simp only [Option.bind_some];rw [Q9 ⟨by omega,hi2⟩,Q9 (by unfold B64;omega)]
     by_cases h:ix (rx d.t.cs (ix (homL d.t p.a q.a) k)) (ix q.l i)=ix p.l i
     ·rw [QY h];simp [h]
     rw [QD h];simp [h]
    by_cases h:(i:Int)<(p.l.length:Int)<;>simp [h]
   refine ⟨fun hs=>?_,fun hs=>?_⟩
   ·simp only;rw [if_pos hk2];simp only [Option.bind_assoc];refine inner ?_;rw [QY hs];simp only [if_true];rw [Q9 ⟨by omega,hk2⟩,Q9 (by simp;omega)];simp only [Option.bind_some];rw [Q9 hB]
   simp only;rw [if_pos hk2];simp only [Option.bind_assoc];refine inner ?_;rw [QD hs];simp only [Bool.false_eq_true,if_false,Option.bind_some];rw [Q9 hB]
  simp only;rw [if_neg (by omega)];rfl
 unfold Q1Z;rw [(Q7F hd.t _ _).2];simp only [Option.bind_some];refine Q5N (homL d.t p.a q.a) (fun f=>∀ i:Nat,i<p.l.length→ix (rx d.t.cs f) (ix q.l i)=ix p.l i) (e:=cmL d p q) (by omega) (fun k acc hk hacc=>?_) ?_ rfl
 ·have hk2:(k:Int)<((homL d.t p.a q.a).length:Int):=by omega
  have hB:B64 ((k:Int)+1):=by unfold B64;omega
  have inner:∀ {β:Type} {K:Unit ⊕ List Int→Option β} {r:β},((∀ i:Nat,i<p.l.length→ix (rx d.t.cs (ix (homL d.t p.a q.a) k)) (ix q.l i)=ix p.l i)→K (.inl ())=some r)→(¬ (∀ i:Nat,i<p.l.length→ix (rx d.t.cs (ix (homL d.t p.a q.a) k)) (ix q.l i)=ix p.l i)→K (.inr acc)=some r) →
    (QA (σ:=Int) (ε:=Unit ⊕ (List Int)) (fun s33 =>
    if s33<(q.l.length:Int) then
     ass (0≤s33∧s33<(q.l.length:Int)) <|
     (Qu d.t (ix (homL d.t p.a q.a) k) (ix q.l s33)).bind fun v36 =>
     ass (0≤s33∧s33<(p.l.length:Int)) <|
     if ¬ (v36=(ix p.l s33)) then
      some (Ctl.ret (Sum.inr acc))
     else
      ass (B64 (s33+1)) <|
      some (Ctl.next (s33+1))
    else
     some (Ctl.ret (Sum.inl ()))) fuel 0).bind K=some r:=by
   intro β K r k1 k2;refine Q1j p.l.length (fun i=>ix (rx d.t.cs (ix (homL d.t p.a q.a) k)) (ix q.l i)=ix p.l i) (eb:=Sum.inr acc) (eg:=Sum.inl ()) (by omega) (fun i hi hs=>?_) (fun i hi hs=>?_) (by rw [if_neg (by omega)]) k2 k1
   ·rw [if_pos (by omega),Q9 (by omega),(hthn k hk i hi).2];simp only [Option.bind_some];rw [Q9 (by omega),if_neg (by simp [hs]),Q9 (by unfold B64;omega)]
   rw [if_pos (by omega),Q9 (by omega),(hthn k hk i hi).2];simp only [Option.bind_some];rw [Q9 (by omega),if_pos hs]
  refine ⟨fun hs=>?_,fun hs=>?_⟩
  ·simp only;rw [if_pos hk2,Q9 ⟨by omega,hk2⟩];simp only [Option.bind_assoc];refine inner (fun _=>?_) fun h=>absurd hs h;simp only;rw [Q9 (by simp;omega)];simp only [Option.bind_some];rw [Q9 hB]
  simp only;rw [if_pos hk2,Q9 ⟨by omega,hk2⟩];simp only [Option.bind_assoc];refine inner (fun h=>absurd h hs) fun _=>?_;simp only [Option.bind_some];rw [Q9 hB]
 simp only;rw [if_neg (by omega)];rfl
def unv (d:Fn) (L:List Cone) (p:Cone):Prop:=∀ i:Nat,i<L.length→(cmL d (gx L i) p).length=1
def GL (d:Fn) (L:List Cone):Prop:=L.length≤400∧∀ i:Nat,i<L.length→(gx L i).G d
theorem e_univ {d:Fn} (hd:d.Is) {L:List Cone} (hL:GL d L) {p:Cone} (hp:p.G d):Q16 d L p=some (bo (unv d L p))∧Q1g d L p=some (bo (unv d L p)):=by
 have h4:=hL.1;constructor
 ·unfold Q16;refine Q1j L.length (fun i=>(cmL d (gx L i) p).length=1) (eb:=Sum.inr false) (eg:=Sum.inl ()) (by omega) (fun i hi hs=>?_) (fun i hi hs=>?_) (by rw [if_neg (by omega)]) (fun h=>by rw [QD (p:=unv d L p) h]) fun h=>by rw [QY (p:=unv d L p) h]
  ·rw [if_pos (by omega),Q9 (by omega),(Q5L hd (hL.2 i hi) hp).1];simp only [Option.bind_some];rw [if_neg (by omega),Q9 (by unfold B64;omega)]
  rw [if_pos (by omega),Q9 (by omega),(Q5L hd (hL.2 i hi) hp).1];simp only [Option.bind_some];rw [if_pos (by omega)]
 unfold Q1g;refine Q1j L.length (fun i=>(cmL d (gx L i) p).length=1) (eb:=Sum.inr false) (eg:=Sum.inl ()) (by omega) (fun i hi hs=>?_) (fun i hi hs=>?_) (by rw [if_neg (by omega)]) (fun h=>by rw [QD (p:=unv d L p) h]) fun h=>by rw [QY (p:=unv d L p) h]
 ·rw [if_pos (by omega),Q9 (by omega),(Q5L hd (hL.2 i hi) hp).2];simp only [Option.bind_some];rw [if_neg (by omega),Q9 (by unfold B64;omega)]
 rw [if_pos (by omega),Q9 (by omega),(Q5L hd (hL.2 i hi) hp).2];simp only [Option.bind_some];rw [if_pos (by omega)]
theorem Q6T {d:Fn} (hd:d.Is) (h:(Q1a d).length≤400):GL d (Q1a d):=⟨h,fun i hi=>mem_coneL hd (by rw [Q4f _ hi];exact List.getElem_mem hi)⟩
noncomputable def lims (d:Fn) (L:List Cone):List Cone:=L.filter fun p=>bo (unv d L p)
theorem mem_lims {d:Fn} {L:List Cone} (hL:GL d L) {p:Cone} (h:p∈lims d L):p.G d:=by
 have h1:=(List.mem_filter.1 h).1;obtain ⟨i,hi,rfl⟩:=List.getElem_of_mem h1;have:=hL.2 i hi;rw [Q4f _ hi] at this;exact this
theorem lims_at {d:Fn} {L:List Cone} {i:Nat} (hi:i<L.length) (h1:∀ j:Nat,j<i→¬ unv d L (gx L j)) (h2:unv d L (gx L i)):∃ ps,lims d L=gx L i :: ps:=by
 have e:L=L.take i++(gx L i :: L.drop (i+1)):=by
  rw [Q4f _ hi,← List.drop_eq_getElem_cons hi,List.take_append_drop]
 have e2:(L.take i).filter (fun p=>bo (unv d L p))=[]:=by
  rw [List.filter_eq_nil_iff];intro p hp;obtain ⟨j,hj,rfl⟩:=List.getElem_of_mem hp;simp only [List.length_take] at hj;have:=h1 j (by omega);rw [Q4f _ (by omega)] at this;simp only [List.getElem_take];rw [QD this];simp
 unfold lims;refine ⟨(L.drop (i+1)).filter fun p=>bo (unv d L p),?_⟩;have e3:L.filter (fun p=>bo (unv d L p))=(L.take i++(gx L i :: L.drop (i+1))).filter (fun p=>bo (unv d L p)):=congrArg _ e;rw [e3,List.filter_append,e2,List.nil_append,List.filter_cons,QY h2];simp
theorem lims_no {d:Fn} {L:List Cone} (h:∀ j:Nat,j<L.length→¬ unv d L (gx L j)):lims d L=[]:=by
 unfold lims;rw [List.filter_eq_nil_iff];intro p hp;obtain ⟨j,hj,rfl⟩:=List.getElem_of_mem hp;have:=h j hj;rw [Q4f _ hj] at this;rw [QD this];simp
theorem Q61 {c:Cat} {f g:Int} (hf:0≤f∧f<(c.fr.length:Int)) (hg:0≤g∧g<(c.fr.length:Int)):ix (rx (opC c).cs f) g=ix (rx c.cs g) f:=by
 obtain ⟨i,rfl⟩:=Int.eq_ofNat_of_zero_le hf.1;obtain ⟨j,rfl⟩:=Int.eq_ofNat_of_zero_le hg.1;have hi:i<c.fr.length:=by omega
 have hj:j<c.fr.length:=by omega
 have:rx (opC c).cs i=tab c.fr.length fun g=>ix (rx c.cs g) i:=by simp [rx,opC,tab,List.getD_eq_getElem?_getD,hi]
 rw [this,ix_tab _ _ hj]
theorem opC_is {c:Cat} (h:c.Is):(opC c).Is:=by
 have lt:=h.1.lt;have hA:∀ {a:Nat},a<c.to.length→Ar c a (ix c.fr a) (ix c.to a):=fun {a} ha=>⟨⟨by omega,by omega⟩,rfl,rfl⟩;refine ⟨⟨h.1.n0,h.1.n8,by show c.to.length≤40;have:=h.1.m40;omega,lt.symm,h.1.to,h.1.fr,by show (tab _ _).length=c.to.length;simp [tab,lt],h.1.li,by show ∀ x∈c.id,inR c.to.length x=true;rw [lt];exact h.1.id,fun x hx=>⟨(h.1.ids x hx).2,(h.1.ids x hx).1⟩,fun f hf=>⟨?_,fun g hg=>?_⟩⟩,fun f hf=>?_,fun f hf g hg k hk e1 e2=>?_⟩
 ·have hf':f<c.fr.length:=by have:f<c.to.length:=hf;omega
  have:rx (opC c).cs f=tab c.fr.length fun g=>ix (rx c.cs g) f:=by simp [rx,opC,tab,List.getD_eq_getElem?_getD,hf']
  rw [this];show (tab _ _).length=c.to.length;simp [tab,lt]
 ·have hf':f<c.fr.length:=by have:f<c.to.length:=hf;omega
  have hg':g<c.fr.length:=by have:g<c.to.length:=hg;omega
  have q:=(h.1.rows g hg').2 f hf';unfold Cat.cell at q ⊢;rw [Q61 ⟨by omega,by omega⟩ ⟨by omega,by omega⟩];refine ⟨fun e=>q.1 fun e'=>e e'.symm,fun e=>?_⟩;obtain ⟨q1,q2,q3,q4⟩:=q.2 e.symm;exact ⟨q1,by show _<(c.to.length:Int);omega,q4,q3⟩
 ·have hf':f<c.to.length:=hf;have A:=hA hf';have B:=h.Af A.1;have c1:=h.Ai B.2.1;have c2:=h.Ai B.2.2;unfold Cat.un;show ix (rx (opC c).cs (ix c.id (ix c.to f))) f=f∧ix (rx (opC c).cs f) (ix c.id (ix c.fr f))=f;rw [Q61 c2.1 A.1,Q61 A.1 c1.1];exact ⟨(h.idl A).2,(h.idl A).1⟩
 have Af:=hA (a:=f) hf;have Ag:=hA (a:=g) hg;have Ak:=hA (a:=k) hk;have e1':ix c.fr f=ix c.to g:=e1;have e2':ix c.fr g=ix c.to k:=e2;rw [e1'] at Af;rw [e2'] at Ag;have gf:=Ar.two h Ag Af;have kg:=Ar.two h Ak Ag;rw [Q61 Af.1 Ag.1,Q61 Ag.1 Ak.1,Q61 gf.1 Ak.1,Q61 Af.1 kg.1];exact (h.assoc Ak Ag Af).symm
theorem opF_is {f:Fn} (h:f.Is):(opF f).Is:=by
 have l1:=h.s.1.lt;have l2:=h.t.1.lt;have la:=h.la;refine ⟨opC_is h.s,opC_is h.t,h.lo,by show f.ar.length=f.s.to.length;omega,h.ob,fun j hj=>?_,fun a ha=>?_,h.ids,fun a ha b hb e=>?_⟩
 ·show 0≤ix f.ar j∧ix f.ar j<(f.t.to.length:Int);rw [l2];exact h.ar j hj
 ·have:=h.ends a (by have:a<f.s.to.length:=ha;omega);exact ⟨this.2,this.1⟩
 have ha':a<f.s.fr.length:=by have:a<f.s.to.length:=ha;omega
 have hb':b<f.s.fr.length:=by have:b<f.s.to.length:=hb;omega
 show ix f.ar (ix (rx (opC f.s).cs a) b)=ix (rx (opC f.t).cs (ix f.ar a)) (ix f.ar b);rw [Q61 ⟨by omega,by omega⟩ ⟨by omega,by omega⟩,Q61 (h.ar a (by omega)) (h.ar b (by omega))];have e':ix f.s.fr a=ix f.s.to b:=e;exact h.comp b hb' a ha' e'.symm
attribute [local simp] eL eI Qs Q1B QZ Fn.cells XCocones.cells
noncomputable def Q1F (d_:Fn):Option XCocones :=
 (QM d_).bind fun v1 =>
 some (⟨v1⟩:XCocones)
theorem Q68 (d_:Fn) (r:XCocones) (h:Q1F d_=some r):FContract Try.prog true 55 [.rptr (d_.cells true)] (.ifc 148 (r.cells true)):=by
 refine Q1C true (ts:=[2]) (rs:=[.ifc 148 (r.cells true)]) Try.func55 rfl rfl rfl rfl (by simp [Try.f55]) fun F hN hP=>?_;unfold Q1F at h;refine Q3 ?_;refine Qm [] mo (by rw [hN];decide) fun K hK=>?_;simp [-Q0,-Q5,-Q1,-Q6,-Q2];repeat refine sdQ ?_
 refine hK _ ?_;clear hK K;refine tn ?_;refine Q8 (st':=⟨[(0,.rptr (Fn.cells true d_))],[],0⟩) (Qi []) ?_;refine Q3 ?_;refine Qm [] mo (by rw [hN];decide) fun K hK=>?_;simp [-Q0,-Q5,-Q1,-Q6,-Q2];repeat with_reducible refine sdQ ?_
 replace h:=bind_some h;obtain ⟨v1,hv1,h⟩:=h;refine QE (fz:=[]) (Q3w _ v1 hv1) (.cons (.preT (by simp [Fn.cells,XCocones.cells])) .nil) ?_;simp [-Q0,-Q5,-Q1,-Q6,-Q2,unk,unA,unE,unT,unC,flat];repeat refine sdQ ?_
 refine hK _ ?_;clear hK K;refine tn ?_;refine Q8 (st':=⟨[(3,.adr 0 0 0)],[(0,.mix 12 [[iV v1.s.n,.own 1 0 v1.s.fr.length,.own 2 0 v1.s.to.length,.own 3 0 v1.s.id.length,.own 4 0 v1.s.cs.length,iV v1.t.n,.own 5 0 v1.t.fr.length,.own 6 0 v1.t.to.length,.own 7 0 v1.t.id.length,.own 8 0 v1.t.cs.length,.own 9 0 v1.ob.length,.own 10 0 v1.ar.length]]),(1,rI v1.s.fr),(2,rI v1.s.to),(3,rI v1.s.id),(4,.row 1 (Ls v1.s.cs)),(5,rI v1.t.fr),(6,rI v1.t.to),(7,rI v1.t.id),(8,.row 1 (Ls v1.t.cs)),(9,rI v1.ob),(10,rI v1.ar)],11⟩) (Qi [(12,0),(1,1),(2,2),(3,3),(4,4),(6,5),(7,6),(8,7),(9,8),(10,9),(11,10)]) ?_;refine Q3 ?_;refine Qm [] mo (by rw [hN];decide) fun K hK=>?_;simp [-Q0,-Q5,-Q1,-Q6,-Q2];repeat refine sdQ ?_
 refine hK _ ?_;clear hK K;refine tn ?_;refine Q8 (st':=⟨[(2,.ifc 148 [.adr 0 0 0])],[(0,.mix 12 [[iV v1.s.n,.own 1 0 v1.s.fr.length,.own 2 0 v1.s.to.length,.own 3 0 v1.s.id.length,.own 4 0 v1.s.cs.length,iV v1.t.n,.own 5 0 v1.t.fr.length,.own 6 0 v1.t.to.length,.own 7 0 v1.t.id.length,.own 8 0 v1.t.cs.length,.own 9 0 v1.ob.length,.own 10 0 v1.ar.length]]),(1,rI v1.s.fr),(2,rI v1.s.to),(3,rI v1.s.id),(4,.row 1 (Ls v1.s.cs)),(5,rI v1.t.fr),(6,rI v1.t.to),(7,rI v1.t.id),(8,.row 1 (Ls v1.t.cs)),(9,rI v1.ob),(10,rI v1.ar)],11⟩) (Qi [(0,0),(1,1),(2,2),(3,3),(4,4),(5,5),(6,6),(7,7),(8,8),(9,9),(10,10)]) ?_;refine Qk ?_;have hr:=Option.some.inj h;rw [← hr];exact (.two (.ifcL (by simp [Fn.cells,XCocones.cells]) (.cons (.field rfl (by simp [Fn.cells,XCocones.cells]) (.cons .val (.cons (.whole (by simp) (by simp) (by simp)) (.cons (.whole (by simp) (by simp) (by simp)) (.cons (.whole (by simp) (by simp) (by simp)) (.cons (.whole (by simp) (by simp) (by simp)) (.cons .val (.cons (.whole (by simp) (by simp) (by simp)) (.cons (.whole (by simp) (by simp) (by simp)) (.cons (.whole (by simp) (by simp) (by simp)) (.cons (.whole (by simp) (by simp) (by simp)) (.cons (.whole (by simp) (by simp) (by simp)) (.cons (.whole (by simp) (by simp) (by simp)) .nil))))))))))))) .nil)) .nil)
def isC (d:Fn) (p:Cone):Prop:=(0≤p.a∧p.a<d.t.n)∧p.l.length=d.ob.length∧LP d p.a p.l∧∀ a:Nat,a<d.ar.length→leq d p.l a
theorem isC.g {d:Fn} {p:Cone} (h:isC d p):p.G d:=⟨h.1,h.2.1,h.2.2.1⟩
theorem e_cocones {d:Fn} (h:d.Is):Q1F d=some ⟨opF d⟩:=by
 unfold Q1F;rw [(e_l06Op h).2];rfl
attribute [local simp] QZ XCocones.cells
noncomputable def Q11 (s_:XCocones):Option Fn :=
 some s_.opposite_
theorem Q3H (s_:XCocones) (r:Fn) (h:Q11 s_=some r):FContract Try.prog true 173 [.agg (s_.cells true)] (.rptr (r.cells true)):=by
 refine Q1C true (ts:=[2]) (rs:=[.rptr (r.cells true)]) Try.func173 rfl rfl rfl rfl (by simp [Try.f173]) fun F hN hP=>?_;unfold Q11 at h;refine Q3 ?_;refine Qm [1] mo (by rw [hN];decide) fun K hK=>?_;simp [-Q0,-Q5,-Q1,-Q6,-Q2,eL,eI,Qs,Q1B,QZ,Fn.cells,XCocones.cells];repeat refine sdQ ?_
 refine hK _ ?_;clear hK K;refine tn ?_;refine Q8 (st':=⟨[(1,.rptr [.rptr (Fn.cells true s_.opposite_)])],[],0⟩) (Qi []) ?_;refine Q3 ?_;refine Qm [] mo (by rw [hN];decide) fun K hK=>?_;simp [-Q0,-Q5,-Q1,-Q6,-Q2,eL,eI,Qs,Q1B,QZ,Fn.cells,XCocones.cells];repeat refine sdQ ?_
 refine hK _ ?_;clear hK K;refine tn ?_;refine Q8 (st':=⟨[(2,.rptr (Fn.cells true s_.opposite_))],[],0⟩) (Qi []) ?_;refine Qk ?_;have hr:=Option.some.inj h;rw [← hr];exact (.two (.preT (by simp [Fn.cells,XCocones.cells])) .nil)
end Go.Vc.T
