/- A part of the proof: a verified generator of conditions, and what each function of the program does. -/
import Derived.Test.YtefancoclgkmhaaS9
set_option maxRecDepth 100000
set_option maxHeartbeats 4000000
set_option linter.unusedSimpArgs false
set_option linter.unusedVariables false

namespace Go.Vc.T
open Go Go.Vc Go.Proofs
attribute [local simp] unk unA unE unT unC flat eL eI Qm Q1r Qk Fn.cells XL07State.cells
noncomputable def QS (k:Nat) (q0_:Fn) (q1_:Fn) (q2_:Bool) (q3_:Int) (q4_:List (List Int)) (q5_:List Int):Option (List (List Int)):=match k with
 | 0=>none
 | k+1 =>
  ass (B64 ((q5_.length:Int) - 1)) <|
  (Qx (σ:=Int × Int) (ε:=Int ⊕ (List (List Int))) (fun s12 =>
   if s12.2 ≥ 0 then
    (
     ass (0≤s12.2∧s12.2<(q5_.length:Int)) <|
     if (ix q5_ s12.2)=(-1) then
      (Q1o (⟨q0_,q1_,q2_,q3_,q4_⟩:XL07State) q5_ s12.2).bind fun v17 =>
      if (v17.length:Int)=0 then
       some (Sum.inr q4_)
      else
       some (Sum.inl s12.2)
     else
      some (Sum.inl s12.1):Option (Int ⊕ (List (List Int)))).bind fun e14 =>
    match e14 with
    | .inl b14 =>
     ass (B64 (s12.2 - 1)) <|
     some (Ctl.next (b14,s12.2 - 1))
    | .inr p14 =>
     some (Ctl.ret (Sum.inr p14))
   else
    some (Ctl.ret (Sum.inl s12.1))) fuel ((-1),(q5_.length:Int) - 1)).bind fun e3 =>
  match e3 with
  | .inl b3 =>
   if b3<0 then
    (QJ q5_).bind fun v21 =>
    ass ((q4_++[v21]).length≤1073741824) <|
    some (q4_++[v21])
   else
    (Q1o (⟨q0_,q1_,q2_,q3_,q4_⟩:XL07State) q5_ b3).bind fun v23 =>
    (Qx (σ:=List (List Int) × Int) (ε:=List (List Int)) (fun s32 =>
     (
      if s32.2<(v23.length:Int) then
       some (decide ((s32.1.length:Int)<q3_))
      else
       some false:Option (Bool)).bind fun b33 =>
     if b33=true then
      (QJ q5_).bind fun v36 =>
      ass (0≤s32.2∧s32.2<(v23.length:Int)) <|
      ass (0≤b3∧b3<(v36.length:Int)) <|
      (QS k q0_ q1_ q2_ q3_ s32.1 (v36.set b3.toNat (ix v23 s32.2))).bind fun v39 =>
      ass (B64 (s32.2+1)) <|
      some (Ctl.next (v39,s32.2+1))
     else
      some (Ctl.ret s32.1)) fuel (q4_,0)).bind fun p32 =>
    some p32
  | .inr p3 =>
   some p3
@[simp] abbrev Y0z (a b:Fn) (c:Bool) (d:List (AV)):List (AV):=iV a.s.n::lI a.s.fr::lI a.s.to::lI a.s.id::.lst true 1 (Ls a.s.cs)::iV a.t.n::lI a.t.fr::lI a.t.to::lI a.t.id::.lst true 1 (Ls a.t.cs)::lI a.ob::lI a.ar::iV b.s.n::lI b.s.fr::lI b.s.to::lI b.s.id::.lst true 1 (Ls b.s.cs)::iV b.t.n::lI b.t.fr::lI b.t.to::lI b.t.id::.lst true 1 (Ls b.t.cs)::lI b.ob::lI b.ar::.val (.bool c)::d
@[simp] abbrev Y4 (a b:Fn) (c:Bool) (d:Int) (e:List (List Int)) (f:List Int) (g:List (Nat × Ent)):List (Nat × Ent):=(0,.mix 27 [(Y0z a b c [iV d,.own 1 0 e.length])])::(1,.row 1 (Ls e))::(2,rI f)::g
@[simp] abbrev Yb (a b:Fn) (c:Bool) (d:Int) (e:List (List Int) × Int) (f:List Int) (g:List (Nat × Ent)):List (Nat × Ent):=(0,.mix 27 [(Y0z a b c [iV d,.own 3 0 e.1.length])])::(2,rI f)::(3,.row 1 (Ls e.1))::g
@[simp] abbrev Yt (a b:Fn) (c:Bool) (d:Int) (e:List (List Int)) (f g:List Int) (h:List (Nat × Ent)):List (Nat × Ent):=(0,.mix 27 [(Y0z a b c [iV d,.own 3 0 ((e++[f]).length)])])::(2,rI g)::(3,.row 1 (Ls (e++[f])))::h
@[simp] abbrev YO (a:List Int) (b:List (Nat × AV)):List (Nat × AV):=(0,.adr 0 0 0)::(1,.own 2 0 a.length)::b
@[simp] abbrev YT (a b:Fn) (c:Bool) (d:Int) (e:List (List Int)) (f:List Int) (g:List (Nat × Ent)):List (Nat × Ent):=(0,.mix 27 [(Y0z a b c [iV d,.own 3 0 e.length])])::(2,rI f)::(3,.row 1 (Ls e))::g
theorem Q3Z:∀ (k:Nat) (q0_:Fn) (q1_:Fn) (q2_:Bool) (q3_:Int) (q4_:List (List Int)) (q5_:List Int) (vR:List (List Int)) (h:QS k q0_ q1_ q2_ q3_ q4_ q5_=some vR),ICon Try.prog 82 [.adr 0 0 0,.own 2 0 q5_.length] (fun id=>look id [(0,.mix 27 [(Y0z q0_ q1_ q2_ [iV q3_,.own 1 0 q4_.length])]),(1,.row 1 (Ls q4_)),(2,rI q5_)]) 3 { v:=.tup [],set:=[(0,.mix 27 [(Y0z q0_ q1_ q2_ [iV q3_,.own 3 0 vR.length])])],del:=[1],new:=[(3,.row 1 (Ls vR))],cnt:=1 }:=by
 intro k
 induction k with
 | zero =>
  intro q0_ q1_ q2_ q3_ q4_ q5_ vR h;simp [QS] at h
 | succ k ih =>
  intro q0_ q1_ q2_ q3_ q4_ q5_ vR h;refine Q1u (ts:=[]) (H:=[(0,.mix 27 [(Y0z q0_ q1_ q2_ [iV q3_,.own 1 0 q4_.length])]),(1,.row 1 (Ls q4_)),(2,rI q5_)]) Try.func82 rfl rfl rfl (by simp [Try.f82]) (by simp) (Q4u (by simp)) (newI (by rfl)) fun F hN hP=>?_;unfold QS at h;try dsimp only at h
  refine Q0 (Qg [] mo (by rw [hN];decide) fun K hK=>?_);simp;repeat refine sdQ ?_
  refine hK _ ?_;clear hK K;refine tn (Q4 (st':=⟨YO q5_ [(4,iV (-1))],Y4 q0_ q1_ q2_ q3_ q4_ q5_ [],3⟩) (Wk.rP _ [(0,0),(1,1),(2,2)] hP (by rfl) (by simp [hhOk,back,Fn.cells,XL07State.cells,UA,U1,IA,I1,LA,L1,BA,B1,EA,E1,E2,eB,eI,eL,Q9 _ Qk _ (fun _=>rfl)])) (Q0 (Q0 (Qg [] mo (by rw [hN];decide) fun K hK=>?_))));replace ⟨a2,h⟩:=Q2 h;simp [Qo a2];repeat refine sdQ ?_
  refine hK _ (tn (Q4 (st':=⟨YO q5_ [(4,iV (-1)),(5,iV ((q5_.length:Int) - 1))],Y4 q0_ q1_ q2_ q3_ q4_ q5_ [],3⟩) (Wk.rP _ [(0,0),(1,1),(2,2)] hP (by rfl) (by simp [hhOk,back,Fn.cells,XL07State.cells,UA,U1,IA,I1,LA,L1,BA,B1,EA,E1,E2,eB,eI,eL,Q9 _ Qk _ (fun _=>rfl)])) ?_));clear hK K;replace ⟨e3,h,h3⟩:=bind_some h;refine Qd (fun b3:Int=>⟨YO q5_ [(4,iV b3)],Y4 q0_ q1_ q2_ q3_ q4_ q5_ [],3⟩) (fun b3=>Sum.inl b3=e3) ?_ ?_
  ·refine Q5 (Qs h (fun s12:Int × Int=>⟨YO q5_ [(4,iV s12.1),(5,iV s12.2)],Y4 q0_ q1_ q2_ q3_ q4_ q5_ [],3⟩) (Wk.rP _ [(0,0),(1,1),(2,2)] hP (by rfl) (by simp [hhOk,back,Fn.cells,XL07State.cells,UA,U1,IA,I1,LA,L1,BA,B1,EA,E1,E2,eB,eI,eL,Q9 _ Qk _ (fun _=>rfl)])) ?_);clear h;intro k12 s12 c12 h hk12;refine Q0 (Q0 (Qg [] mo (by rw [hN];decide) fun K hK=>?_));simp;(repeat refine sdQ ?_);refine hK _ ?_;clear hK K;refine tn (Q6 rfl (fun g=>?_) fun g=>?_)
   ·have g13:s12.2 ≥ 0:=gQ;clear g;replace h:=if_l g13 h;refine Q7 (tn (Q0 ?_));replace ⟨e14,h,h14⟩:=bind_some h;refine Qd (fun b14:Int=>⟨YO q5_ [(4,iV b14),(5,iV s12.2)],Y4 q0_ q1_ q2_ q3_ q4_ q5_ [],3⟩) (fun b14=>Sum.inl b14=e14) ?_ ?_
    ·refine Q5 (Q0 (Qg [] mo (by rw [hN];decide) fun K hK=>?_));replace ⟨a15,h⟩:=Q2 h;simp [at_I a15];(repeat refine sdQ ?_);refine hK _ ?_;clear hK K;refine tn (Q6 rfl (fun g=>?_) fun g=>?_)
     ·have g16:(ix q5_ s12.2)=(-1):=gQ;clear g;replace h:=if_l g16 h;refine Q0 (Qg [] mo (by rw [hN];decide) fun K hK=>?_);simp;(repeat refine sdQ ?_);refine hK _ ?_;clear hK K;refine tn (Q4 (st':=⟨YO q5_ [(4,iV s12.2),(5,iV s12.2)],Y4 q0_ q1_ q2_ q3_ q4_ q5_ [],3⟩) (Wk.rP _ [(0,0),(1,1),(2,2)] hP (by rfl) (by simp [hhOk,back,Fn.cells,XL07State.cells,UA,U1,IA,I1,LA,L1,BA,B1,EA,E1,E2,eB,eI,eL,Q9 _ Qk _ (fun _=>rfl)])) (Q0 (Qg [] mo (by rw [hN];decide) fun K hK=>?_)));simp;(repeat with_reducible refine sdQ ?_);replace ⟨v17,hv17,h⟩:=bind_some h;refine Qy (fz:=[]) (Q3Y _ _ _ v17 hv17) (.cons (.field rfl (by simp [XL07State.cells]) (.cons .val (.cons .lst (.cons .lst (.cons .lst (.cons .lst (.cons .val (.cons .lst (.cons .lst (.cons .lst (.cons .lst (.cons .lst (.cons .lst (.cons .val (.cons .lst (.cons .lst (.cons .lst (.cons .lst (.cons .val (.cons .lst (.cons .lst (.cons .lst (.cons .lst (.cons .lst (.cons .lst (.cons .val (.cons .val (.cons .w .nil)))))))))))))))))))))))))))) (.cons .w (.cons .val .nil))) ?_;simp;(repeat refine sdQ ?_);refine hK _ ?_;clear hK K;refine tn (Q4 (st':=⟨YO q5_ [(4,iV s12.2),(5,iV s12.2),(27,.val (.bool ((v17.length:Int) == 0)))],Y4 q0_ q1_ q2_ q3_ q4_ q5_ [],3⟩) (Wk.rP _ [(0,0),(1,1),(2,2)] hP (by rfl) (by simp [hhOk,back,Fn.cells,XL07State.cells,UA,U1,IA,I1,LA,L1,BA,B1,EA,E1,E2,eB,eI,eL,Q9 _ Qk _ (fun _=>rfl)])) (Q6 rfl (fun g=>?_) fun g=>?_))
      ·have g18:(v17.length:Int)=0:=gQ;clear g;replace h:=if_l g18 h;refine Qe (br (tr (lr (br (tr ?_)))));cases h;have h:=h14;(try dsimp only at h);cases h;have q:_=e3:=hk12;have h:=h3;rw [← q] at h;clear q;(try dsimp only at h);cases h;first|refine iw_r (st':=⟨[],YT q0_ q1_ q2_ q3_ q4_ q5_ [],4⟩) ?_ ?_|refine iw_n (st':=⟨[],YT q0_ q1_ q2_ q3_ q4_ q5_ [],4⟩) ?_ ?_
       ·exact Wk.rQ _ [(0,0),(1,3),(2,2)] hP (by rfl) (by simp [hhOk,back,Fn.cells,XL07State.cells,UA,U1,IA,I1,LA,L1,BA,B1,EA,E1,E2,eB,eI,eL,Q9 _ Qk _ (fun _=>rfl)])
       exact ⟨by simp [Qt],by simp,by simp [Fn.cells,XL07State.cells]⟩
      have g18:¬ ((v17.length:Int)=0):=gQ;clear g;replace h:=if_r g18 h;refine Q7 (bn ?_);exact jn (b:=s12.2) (Option.some.inj h) (Wk.rP _ [(0,0),(1,1),(2,2)] hP (by rfl) (by simp [hhOk,back,Fn.cells,XL07State.cells,UA,U1,IA,I1,LA,L1,BA,B1,EA,E1,E2,eB,eI,eL,Q9 _ Qk _ (fun _=>rfl)]))
     have g16:¬ ((ix q5_ s12.2)=(-1)):=gQ;clear g;replace h:=if_r g16 h;refine Q7 (bn ?_);exact jn (b:=s12.1) (Option.some.inj h) (Wk.rP _ [(0,0),(1,1),(2,2)] hP (by rfl) (by simp [hhOk,back,Fn.cells,XL07State.cells,UA,U1,IA,I1,LA,L1,BA,B1,EA,E1,E2,eB,eI,eL,Q9 _ Qk _ (fun _=>rfl)]))
    intro b14 hb14;have h:=h14;(try rw [← hb14] at h);clear h14;(try dsimp only at h);refine Qg [] mo (by rw [hN];decide) fun K hK=>?_;replace ⟨a19,h⟩:=Q2 h;simp [Qo a19];(repeat refine sdQ ?_);refine hK _ ?_;clear hK K;cases h;exact rn (s':=(b14,s12.2 - 1)) hk12 (Wk.rP _ [(0,0),(1,1),(2,2)] hP (by rfl) (by simp [hhOk,back,Fn.cells,XL07State.cells,UA,U1,IA,I1,LA,L1,BA,B1,EA,E1,E2,eB,eI,eL,Q9 _ Qk _ (fun _=>rfl)]))
   have g13:¬ (s12.2 ≥ 0):=gQ;clear g;replace h:=if_r g13 h;refine Qj (tx (lx (bh ?_)));cases h;exact jn (b:=s12.1) hk12 (Wk.rP _ [(0,0),(1,1),(2,2)] hP (by rfl) (by simp [hhOk,back,Fn.cells,XL07State.cells,UA,U1,IA,I1,LA,L1,BA,B1,EA,E1,E2,eB,eI,eL,Q9 _ Qk _ (fun _=>rfl)]))
  intro b3 hb3;have h:=h3;try rw [← hb3] at h
  clear h3;try dsimp only at h
  refine Q0 (Q0 (Qg [] mo (by rw [hN];decide) fun K hK=>?_));simp;repeat refine sdQ ?_
  refine hK _ ?_;clear hK K;refine tn (Q6 rfl (fun g=>?_) fun g=>?_)
  ·have g20:b3<0:=gQ;clear g;replace h:=if_l g20 h;refine Q0 (Qg [] mo (by rw [hN];decide) fun K hK=>?_);simp;(repeat with_reducible refine sdQ ?_);replace ⟨v21,hv21,h⟩:=bind_some h;refine Qy (fz:=[]) (Q1U _ v21 hv21) (.cons .w .nil) ?_;replace ⟨a22,h⟩:=Q2 h;(try simp only [List.length_append,List.length_cons,List.length_nil] at a22);simp [a22];(repeat refine sdQ ?_);refine hK _ (tn (Q4 (st':=⟨[],Yt q0_ q1_ q2_ q3_ q4_ v21 q5_ [],4⟩) (Wk.rP _ [(0,0),(5,3),(2,2),(1,1)] hP (by rfl) (by simp [hhOk,back,Fn.cells,XL07State.cells,UA,U1,IA,I1,LA,L1,BA,B1,EA,E1,E2,eB,eI,eL,Q9 _ Qk _ (fun _=>rfl)])) (Qe (tr ?_))));clear hK K;cases h;first|refine iw_r (st':=⟨[],Yt q0_ q1_ q2_ q3_ q4_ v21 q5_ [],4⟩) ?_ ?_|refine iw_n (st':=⟨[],Yt q0_ q1_ q2_ q3_ q4_ v21 q5_ [],4⟩) ?_ ?_
   ·exact Wk.rP _ [(0,0),(3,3),(2,2),(1,1)] hP (by rfl) (by simp [hhOk,back,Fn.cells,XL07State.cells,UA,U1,IA,I1,LA,L1,BA,B1,EA,E1,E2,eB,eI,eL,Q9 _ Qk _ (fun _=>rfl)])
   exact ⟨by simp [Qt],by simp,by simp [Fn.cells,XL07State.cells]⟩
  have g20:¬ (b3<0):=gQ;clear g;replace h:=if_r g20 h;refine Q7 (tn (Q0 (Qg [] mo (by rw [hN];decide) fun K hK=>?_)));simp;repeat with_reducible refine sdQ ?_
  replace ⟨v23,hv23,h⟩:=bind_some h;refine Qy (fz:=[]) (Q3Y _ _ _ v23 hv23) (.cons (.field rfl (by simp [XL07State.cells]) (.cons .val (.cons .lst (.cons .lst (.cons .lst (.cons .lst (.cons .val (.cons .lst (.cons .lst (.cons .lst (.cons .lst (.cons .lst (.cons .lst (.cons .val (.cons .lst (.cons .lst (.cons .lst (.cons .lst (.cons .val (.cons .lst (.cons .lst (.cons .lst (.cons .lst (.cons .lst (.cons .lst (.cons .val (.cons .val (.cons .w .nil)))))))))))))))))))))))))))) (.cons .w (.cons .val .nil))) ?_;simp;repeat refine sdQ ?_
  refine hK _ ?_;clear hK K;refine tn (Q4 (st':=⟨YO q5_ [(4,iV b3),(6,.own 3 0 v23.length)],Y4 q0_ q1_ q2_ q3_ q4_ q5_ [(3,rI v23)],4⟩) (Wk.rP _ [(0,0),(1,1),(2,2),(3,3)] hP (by rfl) (by simp [hhOk,back,Fn.cells,XL07State.cells,UA,U1,IA,I1,LA,L1,BA,B1,EA,E1,E2,eB,eI,eL,Q9 _ Qk _ (fun _=>rfl)])) (Q0 (Qg [] mo (by rw [hN];decide) fun K hK=>?_)));simp;repeat refine sdQ ?_
  refine hK _ (tn (Q4 (st':=⟨YO q5_ [(4,iV b3),(6,.own 3 0 v23.length),(7,iV 0)],Y4 q0_ q1_ q2_ q3_ q4_ q5_ [(3,rI v23)],4⟩) (Wk.rP _ [(0,0),(1,1),(2,2),(3,3)] hP (by rfl) (by simp [hhOk,back,Fn.cells,XL07State.cells,UA,U1,IA,I1,LA,L1,BA,B1,EA,E1,E2,eB,eI,eL,Q9 _ Qk _ (fun _=>rfl)])) (Q5 ?_)));clear hK K;replace ⟨e32,he32,h32⟩:=bind_some h;refine Qs he32 (fun s32:List (List Int) × Int=>⟨YO q5_ [(4,iV b3),(6,.own 4 0 v23.length),(7,iV s32.2)],Yb q0_ q1_ q2_ q3_ s32 q5_ [(4,rI v23)],5⟩) (Wk.rQ _ [(0,0),(1,3),(2,2),(3,4)] hP (by rfl) (by simp [hhOk,back,Fn.cells,XL07State.cells,UA,U1,IA,I1,LA,L1,BA,B1,EA,E1,E2,eB,eI,eL,Q9 _ Qk _ (fun _=>rfl)])) ?_;intro k32 s32 c32 h hk32;refine Q0 (Q0 ?_);replace ⟨e33,h,h33⟩:=bind_some h;refine Qd (fun b33:Bool=>⟨YO q5_ [(4,iV b3),(6,.own 4 0 v23.length),(7,iV s32.2),(60,.val (.bool b33))],Yb q0_ q1_ q2_ q3_ s32 q5_ [(4,rI v23)],5⟩) (fun b33=>b33=e33) ?_ ?_
  ·refine Qg [] mo (by rw [hN];decide) fun K hK=>?_;simp;(repeat with_reducible refine sdQ ?_);refine Q2f (fun g=>?_) (fun g=>?_)
   ·have g34:s32.2<(v23.length:Int):=gQ;clear g;replace h:=if_l g34 h;simp;(repeat refine sdQ ?_);refine hK _ ?_;exact jn (b:=decide ((s32.1.length:Int)<q3_)) (Option.some.inj h) (Wk.rP _ [(0,0),(3,3),(2,2),(4,4),(1,1)] hP (by rfl) (by simp [hhOk,back,Fn.cells,XL07State.cells,UA,U1,IA,I1,LA,L1,BA,B1,EA,E1,E2,eB,eI,eL,Q9 _ Qk _ (fun _=>rfl)]))
   have g34:¬ (s32.2<(v23.length:Int)):=gQ;clear g;replace h:=if_r g34 h;simp;(repeat refine sdQ ?_);refine hK _ ?_;exact jn (b:=false) (Option.some.inj h) (Wk.rP _ [(0,0),(3,3),(2,2),(4,4),(1,1)] hP (by rfl) (by simp [hhOk,back,Fn.cells,XL07State.cells,UA,U1,IA,I1,LA,L1,BA,B1,EA,E1,E2,eB,eI,eL,Q9 _ Qk _ (fun _=>rfl)]))
  intro b33 hb33;have h:=h33;try rw [← hb33] at h
  clear h33;try dsimp only at h
  refine Q6 rfl (fun g=>?_) fun g=>?_
  ·have g35:b33=true:=gQ;clear g;replace h:=if_l g35 h;refine Q7 (tn (Q0 (Q5 (Q0 (Qg [] mo (by rw [hN];decide) fun K hK=>?_)))));simp;(repeat with_reducible refine sdQ ?_);replace ⟨v36,hv36,h⟩:=bind_some h;refine Qy (fz:=[]) (Q1U _ v36 hv36) (.cons .w .nil) ?_;simp;(repeat refine sdQ ?_);refine hK _ ?_;clear hK K;refine tn (Q4 (st':=⟨YO q5_ [(4,iV b3),(6,.own 4 0 v23.length),(7,iV s32.2),(8,.own 5 0 v36.length)],Yb q0_ q1_ q2_ q3_ s32 q5_ [(4,rI v23),(5,rI v36)],6⟩) (Wk.rP _ [(0,0),(3,3),(2,2),(4,4),(5,5),(1,1)] hP (by rfl) (by simp [hhOk,back,Fn.cells,XL07State.cells,UA,U1,IA,I1,LA,L1,BA,B1,EA,E1,E2,eB,eI,eL,Q9 _ Qk _ (fun _=>rfl)])) (Q0 (Qg [] mo (by rw [hN];decide) fun K hK=>?_)));replace ⟨a37,h⟩:=Q2 h;replace ⟨a38,h⟩:=Q2 h;simp [at_I a37,at_I a38];(repeat refine sdQ ?_);refine hK _ ?_;clear hK K;refine tn (Q4 (st':=⟨YO q5_ [(4,iV b3),(6,.own 4 0 v23.length),(7,iV s32.2),(8,.own 5 0 ((v36.set b3.toNat (ix v23 s32.2)).length))],Yb q0_ q1_ q2_ q3_ s32 q5_ [(4,rI v23),(5,rI (v36.set b3.toNat (ix v23 s32.2)))],6⟩) (Wk.rP _ [(0,0),(3,3),(2,2),(4,4),(5,5),(1,1)] hP (by rfl) (by simp [hhOk,back,Fn.cells,XL07State.cells,UA,U1,IA,I1,LA,L1,BA,B1,EA,E1,E2,eB,eI,eL,Q9 _ Qk _ (fun _=>rfl)])) (Q25 [] mo (by rw [hN];decide) fun K hK=>?_));simp;(repeat with_reducible refine sdQ ?_);replace ⟨v39,hv39,h⟩:=bind_some h
   refine Q1Y (fz:=[]) (ICon.frameL (e:={ v:=.tup [],set:=[(0,.mix 27 [(Y0z q0_ q1_ q2_ [iV q3_,.own 6 0 v39.length])])],del:=[3],new:=[(6,.row 1 (Ls v39))],cnt:=1 }) (ih _ _ _ _ _ _ v39 hv39) [(0,0),(1,3),(2,5)] (by rfl) (by simp) (by simp [rl,rlL,rlLL,rlE,rlE',back,mxt,look,trm,List.range,List.range.loop,Qt,Fn.cells,XL07State.cells]) (by simp [rl,rlL,rlLL,rlE,rlE',back,mxt,look,trm,List.range,List.range.loop,Qt,Fn.cells,XL07State.cells]) (by simp [Q3C]) (by rfl) (by simp [rl,rlL,rlLL,rlE,rlE',back,mxt,look,trm,List.range,List.range.loop,Qt,Fn.cells,XL07State.cells]) (by simp [rl,rlL,rlLL,rlE,rlE',back,mxt,look,trm,List.range,List.range.loop,Qt,Fn.cells,XL07State.cells]) (by simp [rl,rlL,rlLL,rlE,rlE',back,mxt,look,trm,List.range,List.range.loop,Qt,Fn.cells,XL07State.cells]) (by simp [rl,rlL,rlLL,rlE,rlE',back,mxt,look,trm,List.range,List.range.loop,Qt,Fn.cells,XL07State.cells]) (by simp [Q3C]) (by rfl) (Q4u (by simp))) ?_;simp;(repeat refine sdQ ?_);refine hK _ ?_;clear hK K;refine bn (tn (Q4 (st':=⟨YO q5_ [(4,iV b3),(6,.own 4 0 v23.length),(7,iV s32.2)],[(0,.mix 27 [(Y0z q0_ q1_ q2_ [iV q3_,.own 3 0 v39.length])]),(2,rI q5_),(3,.row 1 (Ls v39)),(4,rI v23)],5⟩) (Wk.rP _ [(0,0),(6,3),(2,2),(4,4),(1,1)] hP (by rfl) (by simp [hhOk,back,Fn.cells,XL07State.cells,UA,U1,IA,I1,LA,L1,BA,B1,EA,E1,E2,eB,eI,eL,Q9 _ Qk _ (fun _=>rfl)])) (Qg [] mo (by rw [hN];decide) fun K hK=>?_)));replace ⟨a40,h⟩:=Q2 h;simp [Qo a40];(repeat refine sdQ ?_);refine hK _ ?_;clear hK K;cases h;exact rn (s':=(v39,s32.2+1)) hk32 (Wk.rP _ [(0,0),(3,3),(2,2),(4,4),(1,1)] hP (by rfl) (by simp [hhOk,back,Fn.cells,XL07State.cells,UA,U1,IA,I1,LA,L1,BA,B1,EA,E1,E2,eB,eI,eL,Q9 _ Qk _ (fun _=>rfl)]))
  have g35:¬ (b33=true):=gQ;clear g;replace h:=if_r g35 h;refine Qj (tx (lx (bh ?_)));cases h;have q:_=e32:=hk32;have h:=h32;rw [← q] at h;clear q;try dsimp only at h
  cases h;first|refine iw_r (st':=⟨[],Yb q0_ q1_ q2_ q3_ s32 q5_ [],4⟩) ?_ ?_|refine iw_n (st':=⟨[],Yb q0_ q1_ q2_ q3_ s32 q5_ [],4⟩) ?_ ?_
  ·exact Wk.rP _ [(0,0),(3,3),(2,2),(1,1)] hP (by rfl) (by simp [hhOk,back,Fn.cells,XL07State.cells,UA,U1,IA,I1,LA,L1,BA,B1,EA,E1,E2,eB,eI,eL,Q9 _ Qk _ (fun _=>rfl)])
  exact ⟨by simp [Qt],by simp,by simp [Fn.cells,XL07State.cells]⟩
section
attribute [local simp] Qf QG Qu Q15 QD
def cdead (d:Fn) (x:Int) (c:List Int):Prop:=∃ i:Nat,i<d.ob.length∧ix c i = -1∧Ch d x c i=[]
noncomputable def cnx (d:Fn) (c:List Int):Int:=fstN d.ob.length fun i=>ix c i = -1
noncomputable def cG (d:Fn) (x:Int):Nat→List Int→List (List Int)
 | 0,_=>[]
 | k+1,c=>@ite _ (cdead d x c) (Classical.propDecidable _) [] (if cnx d c<0 then [c] else (Ch d x c (cnx d c).toNat).flatMap fun f=>cG d x k (c.set (cnx d c).toNat f))
theorem cnx_or (d:Fn) (c:List Int):(cnx d c = -1∧∀ i,i<d.ob.length→¬ ix c i = -1)∨∃ i:Nat,i<d.ob.length∧ix c i = -1∧cnx d c=(i:Int):=Q8y _ _
theorem Q5R {d:Fn} {c:List Int} (hl:c.length=d.ob.length) {i:Nat} (hi:i<d.ob.length) (h:ix c i = -1) {f:Int} (hf:0≤f) {k:Nat} (hk:c.count (-1)<k+1):(c.set i f).count (-1)<k:=by
 have hi2:i<c.length:=by omega
 have e:c[i] = -1:=by rw [Q16 _ _ hi2];exact h
 have h1:0<c.count (-1):=List.count_pos_iff.2 (by rw [← e];exact List.getElem_mem hi2);have hf2:¬ f = -1:=by omega
 rw [List.count_set hi2];simp [e,hf2];omega
theorem take_step {α:Type} (A Y Z:List α) (r:Nat):(A++Y.take r)++Z.take (r - (Y.take r).length)=A++(Y++Z).take r:=by
 rw [List.append_assoc,List.take_append]
 congr 2
 simp only [List.length_take]
 by_cases h:r≤Y.length
 ·rw [show r - min r Y.length=0 by omega,show r - Y.length=0 by omega]
 rw [show min r Y.length=Y.length by omega]
set_option maxHeartbeats 2000000 in
theorem e_go {d:Fn} (hd:d.Is) {x:Int} (hx:0≤x∧x<d.t.n) {most:Nat} (hm:most≤401):∀ (k:Nat) (c:List Int) (found:List (List Int)),CV d x c→c.count (-1)<k→found.length<most →
  QS k (cstF d x) d false most found c=some (found++(cG d x k c).take (most - found.length)):=by
 obtain ⟨l1,l2,l3,l4,l5,l6,l7,l8⟩:=hd.fact;intro k
 induction k with
 | zero=>intro c found _ h;omega
 | succ k ih =>
  intro c found hc hk hf;have hl:=hc.1;unfold QS;try simp only
  rw [Q3 (by unfold B64;omega)];refine Q13 (σ:=Int × Int) (Q:=fun z=>z=some (found++(cG d x (k+1) c).take (most - found.length))) d.ob.length
   (fun i s=>s.2=(d.ob.length:Int) - 1 - (i:Int)∧((s.1 = -1∧∀ j:Nat,d.ob.length - i≤j→j<d.ob.length→¬ ix c j = -1)∨∃ b:Nat,s.1=(b:Int)∧d.ob.length - i≤b∧b<d.ob.length∧ix c b = -1∧∀ j:Nat,d.ob.length - i≤j→j<b→¬ ix c j = -1)∧∀ j:Nat,d.ob.length - i≤j→j<d.ob.length→ix c j = -1→¬ Ch d x c j=[])
   (fun e:Int ⊕ List (List Int)=>match e with
    | .inl b=>b=cnx d c∧¬ cdead d x c
    | .inr p=>p=found∧cdead d x c) (by omega) ⟨by simp only;omega,.inl ⟨rfl,fun j h1 h2=>by omega⟩,fun j h1 h2=>by omega⟩ ?_ ?_ ?_
  ·intro i s hi ⟨h1,h2,h3⟩;obtain ⟨b,y⟩:=s;simp only at h1 h2 h3 ⊢;have hy:y=((d.ob.length - 1 - i:Nat):Int):=(by omega);subst hy;have hn:d.ob.length - (i+1)=d.ob.length - 1 - i:=(by omega);rw [hn];generalize hyy:d.ob.length - 1 - i=y at *;have hB:B64 ((y:Int) - 1):=(by unfold B64;omega);rw [if_pos (by omega),Q3 (by omega)]
   by_cases ho:ix c y = -1
   ·rw [if_pos ho,Q6R hd hx hc (by omega)];simp only [Option.bind_some]
    by_cases he:Ch d x c y=[]
    ·right;refine ⟨.inr found,by simp [he],rfl,y,by omega,ho,he⟩
    left;have hne:¬ ((Ch d x c y).length:Int)=0:=fun q=>he (List.length_eq_zero_iff.1 (by omega));rw [if_neg hne];simp only [Option.bind_some];rw [Q3 hB];refine ⟨_,rfl,by simp only;omega,.inr ⟨y,rfl,by omega,by omega,ho,fun j g1 g2=>by omega⟩,fun j g1 g2 g3=>?_⟩
    by_cases hj:j=y
    ·subst hj;exact he
    exact h3 j (by omega) g2 g3
   left;rw [if_neg ho];simp only [Option.bind_some];rw [Q3 hB];refine ⟨_,rfl,by simp only;omega,?_,fun j g1 g2 g3=>?_⟩
   ·rcases h2 with ⟨q1,q2⟩|⟨b',q1,q2,q3,q4,q5⟩
    ·refine .inl ⟨q1,fun j g1 g2=>?_⟩
     by_cases hj:j=y
     ·subst hj;exact ho
     exact q2 j (by omega) g2
    refine .inr ⟨b',q1,by omega,q3,q4,fun j g1 g2=>?_⟩
    by_cases hj:j=y
    ·subst hj;exact ho
    exact q5 j (by omega) g2
   by_cases hj:j=y
   ·subst hj;exact absurd g3 ho
   exact h3 j (by omega) g2 g3
  ·intro s ⟨h1,h2,h3⟩;obtain ⟨b,y⟩:=s;simp only at h1 h2 h3 ⊢;refine ⟨.inl b,by rw [if_neg (by omega)],?_,fun ⟨i,g1,g2,g3⟩=>h3 i (by omega) g1 g2 g3⟩;rcases h2 with ⟨q1,q2⟩|⟨b',q1,q2,q3,q4,q5⟩
   ·rw [q1];exact (fstN_no fun i hi=>q2 i (by omega) hi).symm
   rw [q1];exact (fstN_at q3 q4 fun j hj=>q5 j (by omega) hj).symm
  intro e he;cases e with
  | inr p =>
   simp only at he ⊢;rw [he.1,cG,if_pos he.2];simp
  | inl b =>
   simp only at he ⊢;obtain ⟨hb,hnd⟩:=he;rw [cG,if_neg hnd,← hb]
   by_cases hb0:b<0
   ·rw [if_pos hb0,if_pos hb0];unfold QJ;rw [Q3 (by omega)];simp only [Option.bind_some];rw [Q3 (by simp;omega),List.take_of_length_le (by simp;omega)]
   rw [if_neg hb0,if_neg hb0];rcases cnx_or d c with ⟨q1,q2⟩|⟨i,q1,q2,q3⟩
   ·omega
   rw [q3] at hb;subst hb;rw [Q6R hd hx hc q1];simp only [Option.bind_some,Int.toNat_natCast];have hC:=Ch_len hd x c i;generalize hCe:Ch d x c i=C at hC;have hCm:∀ f∈C,Ar d.t f x (ix d.ob i):=fun f hf=>by rw [← hCe] at hf;exact mem_Ch hf
   let Y:Nat→List (List Int):=fun q=>(C.take q).flatMap fun f=>cG d x k (c.set i f)
   have hY:∀ q,q<C.length→Y (q+1)=Y q++cG d x k (c.set i (ix C q)):=by
    intro q hq;simp only [Y];rw [List.take_succ_eq_append_getElem hq,Q16 _ _ hq];simp
   refine Q13 (σ:=List (List Int) × Int) (Q:=fun z=>z=some (found++(C.flatMap fun f=>cG d x k (c.set i f)).take (most - found.length))) C.length
    (fun q s=>s=(found++(Y q).take (most - found.length),(q:Int)))
    (fun e=>e=found++(C.flatMap fun f=>cG d x k (c.set i f)).take (most - found.length)) (by omega) (by simp [Y]) ?_ ?_ (fun e he=>by rw [he])
   ·intro q s hq hs;subst hs;have hqC:(q:Int)<(C.length:Int):=(by omega);simp only;rw [if_pos hqC];simp only [Option.bind_some]
    by_cases hfull:(((found++(Y q).take (most - found.length)).length:Nat):Int)<(most:Int)
    ·left;rw [if_pos (by simpa using hfull)];unfold QJ;rw [Q3 (by omega)];simp only [Option.bind_some];rw [Q3 (by omega),Q3 (by omega)];have hA:=Q8F (P:=fun f=>Ar d.t f x (ix d.ob i)) hCm hq;rw [ih _ _ (hc.set hA) (Q5R hl q1 q2 hA.1.1 hk) (by omega)];simp only [Option.bind_some];rw [Q3 (by unfold B64;omega)];refine ⟨_,rfl,?_⟩;rw [hY q hq,← take_step]
     congr 3
     simp only [List.length_append];omega
    right;rw [if_neg (by simpa using hfull)];refine ⟨_,rfl,?_⟩;have hlen:most - found.length≤(Y q).length:=by
     simp only [List.length_append,List.length_take] at hfull;omega
    have:(C.flatMap fun f=>cG d x k (c.set i f))=Y q++(C.drop q).flatMap fun f=>cG d x k (c.set i f):=by
     simp only [Y];rw [← List.flatMap_append,List.take_append_drop]
    rw [this,List.take_append_of_le_length hlen]
   intro s hs;subst hs;simp only;rw [if_neg (by omega)];refine ⟨_,by simp;rfl,?_⟩;simp [Y]
end
section
attribute [local simp] Qf QG Qu Q15 QD
theorem fm_filter {β:Type} {xs:List Int} {q:Int→Prop} {g h:Int→List β} (H:∀ f∈xs,(q f→g f=h f)∧(¬ q f→h f=[])):(xs.filter fun f=>bo (q f)).flatMap g=xs.flatMap h:=by
 induction xs with
 | nil=>rfl
 | cons a xs ih =>
  have h1:=H a (by simp);have h2:=ih fun f hf=>H f (by simp [hf])
  by_cases hq:q a
  ·simp only [List.filter_cons,QE hq,if_true,List.flatMap_cons,h2,h1.1 hq]
  simp only [List.filter_cons,Qw hq,Bool.false_eq_true,if_false,List.flatMap_cons,h2,h1.2 hq,List.nil_append]
theorem Q8G {d:Fn} (hd:d.Is) {x:Int}:∀ (m:Nat) (p q:List Int),m+p.length=d.ob.length→LP d x p→q∈lext d x m p→q.length=d.ob.length∧LP d x q∧(∀ i:Nat,i<p.length→ix q i=ix p i)∧∀ j:Nat,p.length≤j→j<d.ob.length→lok d q j:=by
 intro m
 induction m with
 | zero =>
  intro p q hm hp hq;simp only [lext,List.mem_singleton] at hq;subst hq;exact ⟨by omega,hp,fun _ _=>rfl,fun j h1 h2=>by omega⟩
 | succ m ih =>
  intro p q hm hp hq;simp only [lext,List.mem_flatMap] at hq;obtain ⟨f,hf,hq⟩:=hq;unfold lnx at hq
  by_cases hl:lok d (p++[f]) p.length
  ·rw [if_pos hl] at hq;obtain ⟨q1,q2,q3,q4⟩:=ih (p++[f]) q (by simp;omega) (hp.snoc (Q3N f hf)) hq;simp only [List.length_append,List.length_singleton] at q3 q4;refine ⟨q1,q2,fun i hi=>by rw [q3 i (by omega),Q2Y hi],fun j h1 h2=>?_⟩
   by_cases hj:j=p.length
   ·subst hj;intro a ha hma;refine (Q8C hd ha hma fun i hi=>?_).2 (hl a ha hma);exact q3 i (by omega)
   exact q4 j (by omega) h2
  rw [if_neg hl] at hq;cases hq
theorem Q6u {d:Fn} {p q:List Int} {a:Nat} (h1:ix p (ix d.s.fr a)=ix q (ix d.s.fr a)) (h2:ix p (ix d.s.to a)=ix q (ix d.s.to a)):leq d p a↔leq d q a:=by
 unfold leq;rw [h1,h2]
theorem Q6r {c:List Int} {i:Nat} {y:Int} (h0:0≤y) (f:Int) (hi:i<c.length):ix (c.set i f) y=if y=(i:Int) then f else ix c y:=by
 obtain ⟨j,rfl⟩:=Int.eq_ofNat_of_zero_le h0
 by_cases h:i=j
 ·subst h;rw [Q5f hi];simp
 rw [Q5g h,if_neg (by omega)]
theorem Ch_mem {d:Fn} (hd:d.Is) {x:Int} {c q:List Int} {i:Nat} (hi:i<d.ob.length) (hl:c.length=d.ob.length) (hq:LP d x q) (ql:q.length=d.ob.length) (hag:∀ j:Int,0≤j→j<(d.ob.length:Int)→0≤ix c j→ix c j=ix q j)
  (H:∀ a:Nat,a<d.ar.length→(ix d.s.fr a=(i:Int)∨ix d.s.to a=(i:Int))→0≤ix (c.set i (ix q i)) (ix d.s.fr a)→0≤ix (c.set i (ix q i)) (ix d.s.to a)→leq d q a):ix q i∈Ch d x c i:=by
 obtain ⟨l1,l2,l3,l4,l5,l6,l7,l8⟩:=hd.fact;have A:=hq i (by omega);have hag2:∀ j:Int,0≤j→j<(d.ob.length:Int)→0≤ix (c.set i (ix q i)) j→ix (c.set i (ix q i)) j=ix q j:=by
  intro j h0 h1 h2;rw [Q6r h0 _ (by omega)] at h2 ⊢
  by_cases e:j=(i:Int)
  ·rw [if_pos e,e]
  rw [if_neg e] at h2 ⊢;exact hag j h0 h1 h2
 refine List.mem_filter.2 ⟨?_,?_⟩
 ·obtain ⟨f,hf⟩:=Int.eq_ofNat_of_zero_le A.1.1;have:=A.1.2;refine mem_flt.2 ⟨f,by omega,by rw [← hf];exact A.2,hf⟩
 refine QE fun a ha ht h1 h2=>?_;obtain ⟨f1,f2,f3⟩:=l8 a ha;exact (Q6u (hag2 _ f1.1 f1.2 h1) (hag2 _ f2.1 f2.2 h2)).2 (H a ha ht h1 h2)
theorem set_pad {p:List Int} {f:Int} {m:Nat}:(p++List.replicate (m+1) (-1)).set p.length f=(p++[f])++List.replicate m (-1):=set_fill p m f (-1) rfl
theorem Q5e {p:List Int} {m i:Nat} (h:i<p.length):ix (p++List.replicate m (-1)) i=ix p i:=by simp [ix,List.getD_eq_getElem?_getD,List.getElem?_append,h]
theorem Q6q {p:List Int} {m i:Nat} (h:p.length≤i) (h2:i<p.length+m):ix (p++List.replicate m (-1)) i = -1:=by
 simp [ix,List.getD_eq_getElem?_getD,List.getElem?_append,show ¬ i<p.length by omega,List.getElem?_replicate,show i - p.length<m by omega]
theorem pad_CV {d:Fn} {x:Int} {p:List Int} {m:Nat} (hm:m+p.length=d.ob.length) (hp:LP d x p):CV d x (p++List.replicate m (-1)):=by
 refine ⟨by simp;omega,fun i hi=>?_⟩
 by_cases h:i<p.length
 ·rw [Q5e h];exact .inr (.inr (hp i h))
 rw [Q6q (by omega) (by omega)];exact .inl rfl
theorem cG_lext {d:Fn} (hd:d.Is) {x:Int}:∀ (m k:Nat) (p:List Int),m+p.length=d.ob.length→m<k→LP d x p→cG d x k (p++List.replicate m (-1))=lext d x m p:=by
 obtain ⟨l1,l2,l3,l4,l5,l6,l7,l8⟩:=hd.fact;intro m
 induction m with
 | zero =>
  intro k p hm hk hp;obtain ⟨k,rfl⟩:∃ k',k=k' + 1:=⟨k - 1,by omega⟩;have hno:∀ i:Nat,i<d.ob.length→¬ ix p i = -1:=fun i hi q=>by have:=(hp i (by omega)).1;omega
  simp only [List.replicate_zero,List.append_nil];rw [cG,if_neg (fun ⟨i,h1,h2,h3⟩=>hno i h1 h2),if_pos (by unfold cnx;rw [fstN_no hno];omega)];rfl
 | succ m ih =>
  intro k p hm hk hp;obtain ⟨k,rfl⟩:∃ k',k=k' + 1:=⟨k - 1,by omega⟩;have hnx:cnx d (p++List.replicate (m+1) (-1))=(p.length:Int):=by
   refine fstN_at (by omega) (Q6q (by omega) (by omega)) fun j hj=>?_;rw [Q5e hj];have:=(hp j hj).1;omega
  have hlen:(p++List.replicate (m+1) (-1)).length=d.ob.length:=by simp;omega
  have hset:∀ f:Int,(p++List.replicate (m+1) (-1)).set p.length f=(p++[f])++List.replicate m (-1):=fun f=>set_pad;rw [cG]
  by_cases hdd:cdead d x (p++List.replicate (m+1) (-1))
  ·rw [if_pos hdd];obtain ⟨i,h1,h2,h3⟩:=hdd;have hip:p.length≤i:=by
    rcases Nat.lt_or_ge i p.length with h|h
    ·rw [Q5e h] at h2;have:=(hp i h).1;omega
    exact h
   symm;rw [List.eq_nil_iff_forall_not_mem];intro q hq;obtain ⟨q1,q2,q3,q4⟩:=Q8G hd (m+1) p q hm hp hq;have:ix q i∈Ch d x (p++List.replicate (m+1) (-1)) i:=by
    have hcut:∀ y:Int,0≤y→y<(d.ob.length:Int)→0≤ix (p++List.replicate (m+1) (-1)) y→y<(p.length:Int):=by
     intro y h0 h1' h2';obtain ⟨j,rfl⟩:=Int.eq_ofNat_of_zero_le h0;rcases Nat.lt_or_ge j p.length with h|h
     ·omega
     rw [Q6q h (by omega)] at h2';omega
    refine Ch_mem hd h1 hlen q2 q1 (fun j j0 j1 j2=>?_) fun a ha ht g1 g2=>?_
    ·have:=hcut j j0 j1 j2;obtain ⟨j,rfl⟩:=Int.eq_ofNat_of_zero_le j0;rw [Q5e (by omega),q3 j (by omega)]
    obtain ⟨f1,f2,f3⟩:=l8 a ha;refine q4 i hip h1 a ha ?_;rw [Q6r f1.1 _ (by omega)] at g1;rw [Q6r f2.1 _ (by omega)] at g2;have b1:ix d.s.fr a≤(i:Int):=by
     split at g1
     ·omega
     have:=hcut _ f1.1 f1.2 g1;omega
    have b2:ix d.s.to a≤(i:Int):=by
     split at g2
     ·omega
     have:=hcut _ f2.1 f2.2 g2;omega
    unfold lmax;split<;>omega
   rw [h3] at this;cases this
  rw [if_neg hdd,hnx,if_neg (by omega)];simp only [Int.toNat_natCast,lext];refine fm_filter fun f hf=>?_;have Af:Ar d.t f x (ix d.ob p.length):=Q3N f hf;have hiff:chP d (p++List.replicate (m+1) (-1)) p.length f↔lok d (p++[f]) p.length:=by
   unfold chP lok;rw [hset f];have c1:∀ y:Int,0≤y→y<(d.ob.length:Int)→(0≤ix (p++[f]++List.replicate m (-1)) y↔y≤(p.length:Int))∧(y≤(p.length:Int)→ix (p++[f]++List.replicate m (-1)) y=ix (p++[f]) y):=by
    intro y h0 h1;obtain ⟨j,rfl⟩:=Int.eq_ofNat_of_zero_le h0;have hl1:(p++[f]).length=p.length+1:=(by simp);rcases Nat.lt_or_ge j (p.length+1) with h|h
    ·rw [Q5e (by omega)];refine ⟨⟨fun _=>by omega,fun _=>?_⟩,fun _=>rfl⟩;exact (hp.snoc Af j (by omega)).1.1
    rw [Q6q (by omega) (by omega)];exact ⟨⟨fun _=>by omega,fun _=>by omega⟩,fun _=>by omega⟩
   constructor
   ·intro h a ha hma;obtain ⟨f1,f2,f3⟩:=l8 a ha;unfold lmax at hma;have b1:ix d.s.fr a≤(p.length:Int):=(by split at hma<;>omega);have b2:ix d.s.to a≤(p.length:Int):=(by split at hma<;>omega);have:=h a ha (by split at hma<;>omega) (((c1 _ f1.1 f1.2).1).2 b1) (((c1 _ f2.1 f2.2).1).2 b2);exact (Q6u ((c1 _ f1.1 f1.2).2 b1) ((c1 _ f2.1 f2.2).2 b2)).1 this
   intro h a ha ht g1 g2;obtain ⟨f1,f2,f3⟩:=l8 a ha;have b1:=((c1 _ f1.1 f1.2).1).1 g1;have b2:=((c1 _ f2.1 f2.2).1).1 g2;refine (Q6u ((c1 _ f1.1 f1.2).2 b1) ((c1 _ f2.1 f2.2).2 b2)).2 (h a ha ?_);unfold lmax;split<;>omega
  refine ⟨fun hq=>?_,fun hq=>?_⟩
  ·show cG d x k _=lnx _ _ _ _;unfold lnx;rw [if_pos (hiff.1 hq),hset f];exact ih k (p++[f]) (by simp;omega) (by omega) (hp.snoc Af)
  unfold lnx;rw [if_neg fun g=>hq (hiff.2 g)]
theorem cG_some {d:Fn} (hd:d.Is) {x:Int} {q:List Int} (hq:LP d x q) (ql:q.length=d.ob.length) (H:∀ a:Nat,a<d.ar.length→leq d q a):∀ (k:Nat) (c:List Int),CV d x c→c.count (-1)<k→(∀ j:Int,0≤j→j<(d.ob.length:Int)→0≤ix c j→ix c j=ix q j)→cG d x k c ≠ []:=by
 intro k
 induction k with
 | zero=>intro c _ h;omega
 | succ k ih =>
  intro c hc hk hag;have hl:=hc.1;have hm:∀ i:Nat,i<d.ob.length→ix q i∈Ch d x c i:=fun i hi=>Ch_mem hd hi hl hq ql hag fun a ha _ _ _=>H a ha;rw [cG,if_neg (fun ⟨i,h1,h2,h3⟩=>by have:=hm i h1;rw [h3] at this;cases this)];rcases cnx_or d c with ⟨q1,q2⟩|⟨i,q1,q2,q3⟩
  ·rw [q1,if_pos (by omega)];simp
  rw [q3,if_neg (by omega)];simp only [Int.toNat_natCast];have hmi:=hm i q1;have:=ih (c.set i (ix q i)) (hc.set (mem_Ch hmi)) (Q5R hl q1 q2 (mem_Ch hmi).1.1 hk) (fun j h0 h1 h2=>by
   rw [Q6r h0 _ (by omega)] at h2 ⊢
   by_cases e:j=(i:Int)
   ·rw [if_pos e,e]
   rw [if_neg e] at h2 ⊢;exact hag j h0 h1 h2)
  intro he;rw [List.flatMap_eq_nil_iff] at he;exact this (he _ hmi)
theorem Q7h {d:Fn} (hd:d.Is) {x:Int} {q:List Int} (h:q∈lext d x d.ob.length []):q.length=d.ob.length∧LP d x q∧∀ a:Nat,a<d.ar.length→leq d q a:=by
 obtain ⟨q1,q2,q3,q4⟩:=Q8G hd d.ob.length [] q (by simp) (fun i hi=>by simp at hi) h;refine ⟨q1,q2,fun a ha=>?_⟩;obtain ⟨l1,l2,l3,l4,l5,l6,l7,l8⟩:=hd.fact;obtain ⟨f1,f2,f3⟩:=l8 a ha;have:0≤lmax d a∧lmax d a<(d.ob.length:Int):=by unfold lmax;split<;>omega
 obtain ⟨j,hj⟩:=Int.eq_ofNat_of_zero_le this.1;exact q4 j (by simp) (by omega) a ha hj
end
attribute [local simp] unk unA unE unT unC flat eL eI Qm
noncomputable def Q2k (list_:List Int) (n_:Int):Option Int :=
 (Qx (σ:=Int) (ε:=Unit ⊕ Int) (fun s6 =>
  if s6<(list_.length:Int) then
   ass (0≤s6∧s6<(list_.length:Int)) <|
   if (ix list_ s6)=n_ then
    some (Ctl.ret (Sum.inr s6))
   else
    ass (B64 (s6+1)) <|
    some (Ctl.next (s6+1))
  else
   some (Ctl.ret (Sum.inl ()))) fuel 0).bind fun e1 =>
 match e1 with
 | .inl b1 =>
  some (-1)
 | .inr p1 =>
  some p1
theorem Qq {F : Fx} {st st' : St} (m : List (Nat × Nat)) (h : (m.map Prod.fst).Nodup ∧ (m.map Prod.snd).Nodup ∧ (∀ id, id < F.pins → look id m = some id) ∧ (∀ p ∈ m, p.2 < st'.n) ∧ (∀ p ∈ st'.h, p.1 < st'.n) ∧ (∀ p ∈ st'.s, p.2 = rl m (st.get p.1) ∨ p.2 = .bot) ∧ ∀ p ∈ st'.h, hhOk m st.h p.1 p.2 := by simp [hP, hhOk, back, idQ, UA, U1, IA, I1, LA, L1, BA, B1, EA, E1, E2, eB, eI, eL, Cat.cells, Fn.cells, Cone.cells, Q9 _ (Cone.cells true) _ (fun _=>rfl)]) : Wk F st st' := Wk.r1 m h
theorem QV {F : Fx} {st st' : St} (m : Nat) (h : ((idQ m).map Prod.fst).Nodup ∧ ((idQ m).map Prod.snd).Nodup ∧ (∀ id, id < F.pins → look id (idQ m) = some id) ∧ (∀ p ∈ (idQ m), p.2 < st'.n) ∧ (∀ p ∈ st'.h, p.1 < st'.n) ∧ (∀ p ∈ st'.s, p.2 = rl (idQ m) (st.get p.1) ∨ p.2 = .bot) ∧ ∀ p ∈ st'.h, hhOk (idQ m) st.h p.1 p.2 := by simp [hP, hhOk, back, idQ, UA, U1, IA, I1, LA, L1, BA, B1, EA, E1, E2, eB, eI, eL, Cat.cells, Fn.cells, Cone.cells, Q9 _ (Cone.cells true) _ (fun _=>rfl)]) : Wk F st st' := Wk.r1 (idQ m) h
theorem Q7x (list_:List Int) (n_:Int) (r:Int) (h:Q2k list_ n_=some r):Contract Try.prog 93 [lI list_,iV n_] (iV r):=by
 refine Q8 (rvs:=[.tmp 4]) (rs:=[iV r]) Try.func93 rfl rfl rfl rfl (by simp [Try.f93]) fun F hN hP=>?_;unfold Q2k at h;refine Q0 (runQ hN fun K hK=>?_);simp;repeat refine sdQ ?_
 refine hK _ ?_;clear hK K;refine tn (Q4 (st':=⟨[(0,lI list_),(1,iV n_)],[],0⟩) (Qq []) (Q0 (Q0 (runQ hN fun K hK=>?_))));simp;repeat refine sdQ ?_
 refine hK _ (tn (Q4 (st':=⟨[(0,lI list_),(1,iV n_),(5,iV 0)],[],0⟩) (Qq []) ?_));clear hK K;replace ⟨e1,h,h1⟩:=bind_some h;refine Qd (fun b1:Unit=>⟨[],[],0⟩) (fun b1=>Sum.inl b1=e1) ?_ ?_
 ·refine Q5 (Qs h (fun s6:Int=>⟨[(0,lI list_),(1,iV n_),(5,iV s6)],[],0⟩) (Qq []) ?_);clear h;intro k6 s6 c6 h hk6;refine Q0 (Q0 (runQ hN fun K hK=>?_));simp;repeat refine sdQ ?_
  refine hK _ ?_;clear hK K;refine tn (Q6 rfl (fun g=>?_) fun g=>?_)
  ·have g7:s6<(list_.length:Int):=gQ;clear g;replace h:=if_l g7 h;refine Q7 (tn (Q0 (Q5 (Q0 (runQ hN fun K hK=>?_)))));replace ⟨a8,h⟩:=Q2 h;simp [at_I a8];(repeat refine sdQ ?_);refine hK _ ?_;clear hK K;refine tn (Q6 rfl (fun g=>?_) fun g=>?_)
   ·have g9:(ix list_ s6)=n_:=gQ;clear g;replace h:=if_l g9 h;refine Q0 (runQ hN fun K hK=>?_);simp;(repeat refine sdQ ?_);refine hK _ (tn (Q4 (st':=⟨[(4,iV s6)],[],0⟩) (Qq []) (Qe (br (tr (lr (br (tr ?_))))))));clear hK K;cases h;have q:_=e1:=hk6;have h:=h1;rw [← q] at h;clear q;(try dsimp only at h);have hr:=Option.some.inj h;rw [← hr];refine ⟨_,(.tmp .nil),?_⟩;refine ⟨(.one rfl rfl .nil),[iV s6],[],by simp [UA,U1,IA,I1,LA,L1,BA,B1,EA,E1,E2,eB,eI,eL],by simp,(UpL.refl _)⟩
   have g9:¬ ((ix list_ s6)=n_):=gQ;clear g;replace h:=if_r g9 h;refine Q7 (bn (tn (runQ hN fun K hK=>?_)));replace ⟨a10,h⟩:=Q2 h;simp [Qo a10];(repeat refine sdQ ?_);refine hK _ ?_;clear hK K;cases h;exact rn (s':=s6+1) hk6 (Qq [])
  have g7:¬ (s6<(list_.length:Int)):=gQ;clear g;replace h:=if_r g7 h;refine Qj (tx (lx (bh ?_)));cases h;exact jn (b:=()) hk6 (Qq [])
 intro b1 hb1;have h:=h1;try rw [← hb1] at h
 clear h1;try dsimp only at h
 refine Q0 (runQ hN fun K hK=>?_);simp;repeat refine sdQ ?_
 refine hK _ (tn (Q4 (st':=⟨[(4,iV (-1))],[],0⟩) (Qq []) (Qe ?_)));clear hK K;have hr:=Option.some.inj h;rw [← hr];refine ⟨_,(.tmp .nil),?_⟩;refine ⟨(.one rfl rfl .nil),[iV (-1)],[],by simp [UA,U1,IA,I1,LA,L1,BA,B1,EA,E1,E2,eB,eI,eL],by simp,(UpL.refl _)⟩
attribute [local simp] unk unA unE unT unC flat eL eI Qm
noncomputable def Q1F (labels_:List Int):Option (List Int) :=
 (Qx (σ:=List Int × List Int × Int) (ε:=List Int) (fun s11 =>
  if s11.2.2<(labels_.length:Int) then
   ass (0≤s11.2.2∧s11.2.2<(labels_.length:Int)) <|
   (Q2k s11.2.1 (ix labels_ s11.2.2)).bind fun v14 =>
   (
    if v14<0 then
     ass (0≤s11.2.2∧s11.2.2<(labels_.length:Int)) <|
     ass ((s11.2.1++[ix labels_ s11.2.2]).length≤1073741824) <|
     some (s11.2.1++[ix labels_ s11.2.2],(s11.2.1.length:Int))
    else
     some (s11.2.1,v14):Option (List Int × Int)).bind fun b15 =>
   ass ((s11.1++[b15.2]).length≤1073741824) <|
   ass (B64 (s11.2.2+1)) <|
   some (Ctl.next (s11.1++[b15.2],b15.1,s11.2.2+1))
  else
   some (Ctl.ret s11.1)) fuel ([],[],0)).bind fun b1 =>
 some b1
theorem Q5L (labels_:List Int) (r:List Int) (h:Q1F labels_=some r):Contract Try.prog 88 [lI labels_] (lI r):=by
 refine Q8 (rvs:=[.tmp 2]) (rs:=[lI r]) Try.func88 rfl rfl rfl rfl (by simp [Try.f88]) fun F hN hP=>?_;unfold Q1F at h;refine Q0 (runQ hN fun K hK=>?_);simp;repeat refine sdQ ?_
 refine hK _ ?_;clear hK K;refine tn (Q4 (st':=⟨[(0,lI labels_)],[],0⟩) (Qq []) (Q0 (runQ hN fun K hK=>?_)));simp;repeat refine sdQ ?_
 refine hK _ ?_;clear hK K;refine tn (Q4 (st':=⟨[(0,lI labels_),(3,.own 0 0 0),(4,.own 1 0 0)],[(0,.mix 1 []),(1,.mix 1 [])],2⟩) (Qq [(0,0),(1,1)]) (Q0 (Q0 (runQ hN fun K hK=>?_))));simp;repeat refine sdQ ?_
 refine hK _ (tn (Q4 (st':=⟨[(0,lI labels_),(3,.own 0 0 0),(4,.own 1 0 0),(5,iV 0)],[(0,.mix 1 []),(1,.mix 1 [])],2⟩) (Qq [(0,0),(1,1)]) ?_));clear hK K;replace ⟨e1,h,h1⟩:=bind_some h;refine Qd (fun b1:List Int=>⟨[(3,.own 0 0 b1.length)],[(0,rI b1)],1⟩) (fun b1=>b1=e1) ?_ ?_
 ·refine Q5 (Qs h (fun s11:List Int × List Int × Int=>⟨[(0,lI labels_),(3,.own 0 0 s11.1.length),(4,.own 1 0 s11.2.1.length),(5,iV s11.2.2)],[(0,rI s11.1),(1,rI s11.2.1)],2⟩) (Q3a ⟨[(0,lI labels_),(3,.own 0 0 0),(4,.own 1 0 0),(5,iV 0)],[(0,rI []),(1,rI [])],2⟩ (Wk.nils [] (by simp) (by simp) (by simp [nlA]) (by simp [entN,nlL,nlA,UA,U1,IA,I1,LA,L1,BA,B1,EA,E1,E2,eB,eI,eL]) (by simp)) (Qq [(0,0),(1,1)])) ?_);clear h;intro k11 s11 c11 h hk11;refine Q0 (Q0 (runQ hN fun K hK=>?_));simp;repeat refine sdQ ?_
  refine hK _ ?_;clear hK K;refine tn (Q6 rfl (fun g=>?_) fun g=>?_)
  ·have g12:s11.2.2<(labels_.length:Int):=gQ;clear g;replace h:=if_l g12 h;refine Q7 (tn (Q0 (Q5 (Q0 (runQ hN fun K hK=>?_)))));replace ⟨a13,h⟩:=Q2 h;simp [at_I a13];(repeat with_reducible refine sdQ ?_);replace ⟨v14,hv14,h⟩:=bind_some h;refine Q1 (Q7x _ _ v14 hv14) (.cons .w (.cons .val .nil)) ?_;simp [at_I a13];(repeat refine sdQ ?_);refine hK _ ?_;clear hK K;refine tn (Q4 (st':=⟨[(0,lI labels_),(3,.own 0 0 s11.1.length),(4,.own 1 0 s11.2.1.length),(5,iV s11.2.2),(6,iV v14)],[(0,rI s11.1),(1,rI s11.2.1)],2⟩) (Qq [(0,0),(1,1)]) (Q0 (Q0 (runQ hN fun K hK=>?_))));simp;(repeat refine sdQ ?_);refine hK _ (tn ?_);clear hK K;replace ⟨e15,h,h15⟩:=bind_some h;refine Qd (fun b15:List Int × Int=>⟨[(0,lI labels_),(3,.own 0 0 s11.1.length),(4,.own 1 0 b15.1.length),(5,iV s11.2.2),(6,iV b15.2)],[(0,rI s11.1),(1,rI b15.1)],2⟩) (fun b15=>b15=e15) ?_ ?_
   ·refine Q6 rfl (fun g=>?_) fun g=>?_
    ·have g16:v14<0:=gQ;clear g;replace h:=if_l g16 h;refine Q0 (runQ hN fun K hK=>?_);simp;(repeat refine sdQ ?_);refine hK _ ?_;clear hK K;refine tn (Q4 (st':=⟨[(0,lI labels_),(3,.own 0 0 s11.1.length),(4,.own 1 0 s11.2.1.length),(5,iV s11.2.2),(6,iV (s11.2.1.length:Int))],[(0,rI s11.1),(1,rI s11.2.1)],2⟩) (Qq [(0,0),(1,1)]) (runQ hN fun K hK=>?_));replace ⟨a17,h⟩:=Q2 h;replace ⟨a18,h⟩:=Q2 h;(try simp only [List.length_append,List.length_cons,List.length_nil] at a18);simp [at_I a17,a18];(repeat refine sdQ ?_);refine hK _ ?_;clear hK K;exact jn (b:=(s11.2.1++[ix labels_ s11.2.2],(s11.2.1.length:Int))) (Option.some.inj h) (Qq [(0,0),(3,1)])
    have g16:¬ (v14<0):=gQ;clear g;replace h:=if_r g16 h;refine Q7 ?_;exact jn (b:=(s11.2.1,v14)) (Option.some.inj h) (Qq [(0,0),(1,1)])
   intro b15 hb15;have h:=h15;(try rw [← hb15] at h);clear h15;(try dsimp only at h);refine runQ hN fun K hK=>?_;replace ⟨a19,h⟩:=Q2 h;(try simp only [List.length_append,List.length_cons,List.length_nil] at a19);simp [a19];(repeat refine sdQ ?_);refine hK _ ?_;clear hK K;refine bn (tn (Q4 (st':=⟨[(0,lI labels_),(3,.own 0 0 ((s11.1++[b15.2]).length)),(4,.own 1 0 b15.1.length),(5,iV s11.2.2)],[(0,rI (s11.1++[b15.2])),(1,rI b15.1)],2⟩) (Qq [(3,0),(1,1)]) (runQ hN fun K hK=>?_)));replace ⟨a20,h⟩:=Q2 h;simp [Qo a20];(repeat refine sdQ ?_);refine hK _ ?_;clear hK K;cases h;exact rn (s':=(s11.1++[b15.2],b15.1,s11.2.2+1)) hk11 (Qq [(0,0),(1,1)])
  have g12:¬ (s11.2.2<(labels_.length:Int)):=gQ;clear g;replace h:=if_r g12 h;refine Qj (tx (lx (bh ?_)));cases h;exact jn (b:=s11.1) hk11 (Qq [(0,0)])
 intro b1 hb1;have h:=h1;try rw [← hb1] at h
 clear h1;try dsimp only at h
 refine Q0 (runQ hN fun K hK=>?_);simp;repeat refine sdQ ?_
 refine hK _ (tn (Q4 (st':=⟨[(2,.own 0 0 b1.length)],[(0,rI b1)],1⟩) (Qq [(0,0)]) (Qe ?_)));clear hK K;have hr:=Option.some.inj h;rw [← hr];refine ⟨_,(.tmp .nil),?_⟩;refine ⟨(.one rfl rfl .nil),[lI b1],[0],by simp [UA,U1,IA,I1,LA,L1,BA,B1,EA,E1,E2,eB,eI,eL],by simp,(UpL.refl _)⟩
attribute [local simp] unk unA unE unT unC flat eL eI Qm
noncomputable def Q2G (n_:Int) (pairs_:List (List Int)):Option (List Int) :=
 (Qx (σ:=List Int × Int) (ε:=List Int) (fun s5 =>
  if s5.2<n_ then
   ass ((s5.1++[s5.2]).length≤1073741824) <|
   ass (B64 (s5.2+1)) <|
   some (Ctl.next (s5.1++[s5.2],s5.2+1))
  else
   some (Ctl.ret s5.1)) fuel ([],0)).bind fun b1 =>
 (Qx (σ:=List Int × Int) (ε:=List Int) (fun s36 =>
  if s36.2<(pairs_.length:Int) then
   (
    ass (0≤s36.2∧s36.2<(pairs_.length:Int)) <|
    ass ((0:Int)≤0∧0<((rx pairs_ s36.2).length:Int)) <|
    ass (0≤ix (rx pairs_ s36.2) 0∧ix (rx pairs_ s36.2) 0<(s36.1.length:Int)) <|
    ass (0≤s36.2∧s36.2<(pairs_.length:Int)) <|
    ass ((0:Int)≤1∧1<((rx pairs_ s36.2).length:Int)) <|
    ass (0≤ix (rx pairs_ s36.2) 1∧ix (rx pairs_ s36.2) 1<(s36.1.length:Int)) <|
    (Qx (σ:=List Int × Int) (ε:=List Int) (fun s53 =>
     (
      if s53.2<(s53.1.length:Int) then
       some ((ix s36.1 (ix (rx pairs_ s36.2) 0)) != (ix s36.1 (ix (rx pairs_ s36.2) 1)))
      else
       some false:Option (Bool)).bind fun b54 =>
     if b54=true then
      (
       ass (0≤s53.2∧s53.2<(s53.1.length:Int)) <|
       if (ix s53.1 s53.2)=(ix s36.1 (ix (rx pairs_ s36.2) 1)) then
        ass (0≤s53.2∧s53.2<(s53.1.length:Int)) <|
        some (s53.1.set s53.2.toNat (ix s36.1 (ix (rx pairs_ s36.2) 0)))
       else
        some s53.1:Option (List Int)).bind fun b57 =>
      ass (B64 (s53.2+1)) <|
      some (Ctl.next (b57,s53.2+1))
     else
      some (Ctl.ret s53.1)) fuel (s36.1,0)).bind fun p53 =>
    some p53:Option (List Int)).bind fun b38 =>
   ass (B64 (s36.2+1)) <|
   some (Ctl.next (b38,s36.2+1))
  else
   some (Ctl.ret s36.1)) fuel (b1,0)).bind fun b9 =>
 (Q1F b9).bind fun v63 =>
 some v63
@[simp] abbrev YZ (a:List Int × Int) (b:List (List Int)) (c:List (Nat × AV)):List (Nat × AV):=(7,iV a.2)::(8,iV (ix a.1 (ix (rx b a.2) 0)))::(9,iV (ix a.1 (ix (rx b a.2) 1)))::c
@[simp] abbrev Y0t (a:List (List Int)) (b:List Int × Int) (c:List (Nat × AV)):List (Nat × AV):=(1,.lst true 1 (Ls a))::(5,.own 0 0 b.1.length)::c
theorem Q8b (n_:Int) (pairs_:List (List Int)) (r:List Int) (h:Q2G n_ pairs_=some r):Contract Try.prog 81 [iV n_,.lst true 1 (Ls pairs_)] (lI r):=by
 refine Q8 (rvs:=[.tmp 4]) (rs:=[lI r]) Try.func81 rfl rfl rfl rfl (by simp [Try.f81]) fun F hN hP=>?_;unfold Q2G at h;refine Q0 (runQ hN fun K hK=>?_);simp;repeat refine sdQ ?_
 refine hK _ ?_;clear hK K;refine tn (Q4 (st':=⟨[(0,iV n_),(1,.lst true 1 (Ls pairs_))],[],0⟩) (Qq []) (Q0 (runQ hN fun K hK=>?_)));simp;repeat refine sdQ ?_
 refine hK _ ?_;clear hK K;refine tn (Q4 (st':=⟨[(0,iV n_),(1,.lst true 1 (Ls pairs_)),(5,.own 0 0 0)],[(0,.mix 1 [])],1⟩) (Qq [(0,0)]) (Q0 (Q0 (runQ hN fun K hK=>?_))));simp;repeat refine sdQ ?_
 refine hK _ (tn (Q4 (st':=⟨[(0,iV n_),(1,.lst true 1 (Ls pairs_)),(5,.own 0 0 0),(6,iV 0)],[(0,.mix 1 [])],1⟩) (Qq [(0,0)]) ?_));clear hK K;replace ⟨e1,h,h1⟩:=bind_some h;refine Qd (fun b1:List Int=>⟨(1,.lst true 1 (Ls pairs_))::Y0m b1 [],[(0,rI b1)],1⟩) (fun b1=>b1=e1) ?_ ?_
 ·refine Q5 (Qs h (fun s5:List Int × Int=>⟨(0,iV n_)::Y0t pairs_ s5 [(6,iV s5.2)],[(0,rI s5.1)],1⟩) (Q3a ⟨[(0,iV n_),(1,.lst true 1 (Ls pairs_)),(5,.own 0 0 0),(6,iV 0)],[(0,rI [])],1⟩ (Wk.nils [] (by simp) (by simp) (by simp [nlA]) (by simp [entN,nlL,nlA,UA,U1,IA,I1,LA,L1,BA,B1,EA,E1,E2,eB,eI,eL]) (by simp)) (Qq [(0,0)])) ?_);clear h;intro k5 s5 c5 h hk5;refine Q0 (Q0 (runQ hN fun K hK=>?_));simp;repeat refine sdQ ?_
  refine hK _ ?_;clear hK K;refine tn (Q6 rfl (fun g=>?_) fun g=>?_)
  ·have g6:s5.2<n_:=gQ;clear g;replace h:=if_l g6 h;refine Q7 (tn (Q0 (Q5 (runQ hN fun K hK=>?_))));replace ⟨a7,h⟩:=Q2 h;(try simp only [List.length_append,List.length_cons,List.length_nil] at a7);simp [a7];(repeat refine sdQ ?_);refine hK _ ?_;clear hK K;refine bn (tn (Q4 (st':=⟨[(0,iV n_),(1,.lst true 1 (Ls pairs_)),(5,.own 0 0 ((s5.1++[s5.2]).length)),(6,iV s5.2)],[(0,rI (s5.1++[s5.2]))],1⟩) (Qq [(2,0)]) (runQ hN fun K hK=>?_)));replace ⟨a8,h⟩:=Q2 h;simp [Qo a8];(repeat refine sdQ ?_);refine hK _ ?_;clear hK K;cases h;exact rn (s':=(s5.1++[s5.2],s5.2+1)) hk5 (Qq [(0,0)])
  have g6:¬ (s5.2<n_):=gQ;clear g;replace h:=if_r g6 h;refine Qj (tx (lx (bh ?_)));cases h;exact jn (b:=s5.1) hk5 (Qq [(0,0)])
 intro b1 hb1;have h:=h1;try rw [← hb1] at h
 clear h1;try dsimp only at h
 refine Q0 (Q0 (runQ hN fun K hK=>?_));simp;repeat refine sdQ ?_
 refine hK _ (tn (Q4 (st':=⟨(1,.lst true 1 (Ls pairs_))::Y0m b1 [(7,iV 0)],[(0,rI b1)],1⟩) (Qq [(0,0)]) ?_));clear hK K;replace ⟨e9,h,h9⟩:=bind_some h;refine Qd (fun b9:List Int=>⟨Y0m b9 [],[(0,rI b9)],1⟩) (fun b9=>b9=e9) ?_ ?_
 ·refine Q5 (Qs h (fun s36:List Int × Int=>⟨Y0t pairs_ s36 [(7,iV s36.2)],[(0,rI s36.1)],1⟩) (Qq [(0,0)]) ?_);clear h;intro k36 s36 c36 h hk36;refine Q0 (Q0 (runQ hN fun K hK=>?_));simp;repeat refine sdQ ?_
  refine hK _ ?_;clear hK K;refine tn (Q6 rfl (fun g=>?_) fun g=>?_)
  ·have g37:s36.2<(pairs_.length:Int):=gQ;clear g;replace h:=if_l g37 h;refine Q7 (tn (Q0 ?_));replace ⟨e38,h,h38⟩:=bind_some h;refine Qd (fun b38:List Int=>⟨(1,.lst true 1 (Ls pairs_))::Y0m b38 [(7,iV s36.2)],[(0,rI b38)],1⟩) (fun b38=>b38=e38) ?_ ?_
   ·refine Q5 (Q0 (runQ hN fun K hK=>?_));replace ⟨a39,h⟩:=Q2 h;replace ⟨a40,h⟩:=Q2 h;replace ⟨a41,h⟩:=Q2 h;replace ⟨a42,h⟩:=Q2 h;replace ⟨a43,h⟩:=Q2 h;replace ⟨a44,h⟩:=Q2 h;simp [at_L a39,(show (Is (rx pairs_ s36.2))[0]? = some [iV (ix (rx pairs_ s36.2) 0)] from at_I (j:=0) a40),at_I a41,at_L a42,(show (Is (rx pairs_ s36.2))[1]? = some [iV (ix (rx pairs_ s36.2) 1)] from at_I (j:=1) a43),at_I a44];(repeat refine sdQ ?_);refine hK _ ?_;clear hK K;refine tn (Q4 (st':=⟨Y0t pairs_ s36 (YZ s36 pairs_ []),[(0,rI s36.1)],1⟩) (Qq [(0,0)]) (Q0 (runQ hN fun K hK=>?_)));simp;(repeat refine sdQ ?_);refine hK _ (tn (Q4 (st':=⟨Y0t pairs_ s36 (YZ s36 pairs_ [(10,iV 0)]),[(0,rI s36.1)],1⟩) (Qq [(0,0)]) (Q5 ?_)));clear hK K;replace ⟨e53,he53,h53⟩:=bind_some h;refine Qs he53 (fun s53:List Int × Int=>⟨Y0t pairs_ s53 (YZ s36 pairs_ [(10,iV s53.2)]),[(0,rI s53.1)],1⟩) (Qq [(0,0)]) ?_;intro k53 s53 c53 h hk53;refine Q0 (Q0 ?_);replace ⟨e54,h,h54⟩:=bind_some h;refine Qd (fun b54:Bool=>⟨Y0t pairs_ s53 (YZ s36 pairs_ [(10,iV s53.2),(53,.val (.bool b54))]),[(0,rI s53.1)],1⟩) (fun b54=>b54=e54) ?_ ?_
    ·refine runQ hN fun K hK=>?_;simp;(repeat with_reducible refine sdQ ?_);refine Qi (fun g=>?_) (fun g=>?_)
     ·have g55:s53.2<(s53.1.length:Int):=gQ;clear g;replace h:=if_l g55 h;simp;(repeat refine sdQ ?_);refine hK _ ?_;exact jn (b:=(ix s36.1 (ix (rx pairs_ s36.2) 0)) != (ix s36.1 (ix (rx pairs_ s36.2) 1))) (Option.some.inj h) (Qq [(0,0)])
     have g55:¬ (s53.2<(s53.1.length:Int)):=gQ;clear g;replace h:=if_r g55 h;simp;(repeat refine sdQ ?_);refine hK _ ?_;exact jn (b:=false) (Option.some.inj h) (Qq [(0,0)])
    intro b54 hb54;have h:=h54;(try rw [← hb54] at h);clear h54;(try dsimp only at h);refine Q6 rfl (fun g=>?_) fun g=>?_
    ·have g56:b54=true:=gQ;clear g;replace h:=if_l g56 h;refine Q7 (tn (Q0 ?_));replace ⟨e57,h,h57⟩:=bind_some h;refine Qd (fun b57:List Int=>⟨(1,.lst true 1 (Ls pairs_))::Y0m b57 (YZ s36 pairs_ [(10,iV s53.2)]),[(0,rI b57)],1⟩) (fun b57=>b57=e57) ?_ ?_
     ·refine Q5 (Q0 (runQ hN fun K hK=>?_));replace ⟨a58,h⟩:=Q2 h;simp [at_I a58];(repeat refine sdQ ?_);refine hK _ ?_;clear hK K;refine tn (Q6 rfl (fun g=>?_) fun g=>?_)
      ·have g59:(ix s53.1 s53.2)=(ix s36.1 (ix (rx pairs_ s36.2) 1)):=gQ;clear g;replace h:=if_l g59 h;refine runQ hN fun K hK=>?_;replace ⟨a60,h⟩:=Q2 h;simp [at_I a60];(repeat refine sdQ ?_);refine hK _ (bn ?_);clear hK K;exact jn (b:=s53.1.set s53.2.toNat (ix s36.1 (ix (rx pairs_ s36.2) 0))) (Option.some.inj h) (Qq [(0,0)])
      have g59:¬ ((ix s53.1 s53.2)=(ix s36.1 (ix (rx pairs_ s36.2) 1))):=gQ;clear g;replace h:=if_r g59 h;refine Q7 (bn ?_);exact jn (b:=s53.1) (Option.some.inj h) (Qq [(0,0)])
     intro b57 hb57;have h:=h57;(try rw [← hb57] at h);clear h57;(try dsimp only at h);refine runQ hN fun K hK=>?_;replace ⟨a61,h⟩:=Q2 h;simp [Qo a61];(repeat refine sdQ ?_);refine hK _ ?_;clear hK K;cases h;exact rn (s':=(b57,s53.2+1)) hk53 (Qq [(0,0)])
    have g56:¬ (b54=true):=gQ;clear g;replace h:=if_r g56 h;refine Qj (tx (lx (bh (bn ?_))));cases h;have q:_=e53:=hk53;have h:=h53;rw [← q] at h;clear q;(try dsimp only at h);exact jn (b:=s53.1) (Option.some.inj h) (Qq [(0,0)])
   intro b38 hb38;have h:=h38;(try rw [← hb38] at h);clear h38;(try dsimp only at h);refine runQ hN fun K hK=>?_;replace ⟨a62,h⟩:=Q2 h;simp [Qo a62];(repeat refine sdQ ?_);refine hK _ ?_;clear hK K;cases h;exact rn (s':=(b38,s36.2+1)) hk36 (Qq [(0,0)])
  have g37:¬ (s36.2<(pairs_.length:Int)):=gQ;clear g;replace h:=if_r g37 h;refine Qj (tx (lx (bh ?_)));cases h;exact jn (b:=s36.1) hk36 (Qq [(0,0)])
 intro b9 hb9;have h:=h9;try rw [← hb9] at h
 clear h9;try dsimp only at h
 refine Q0 (runQ hN fun K hK=>?_);simp;repeat with_reducible refine sdQ ?_
 replace ⟨v63,hv63,h⟩:=bind_some h;refine Q1 (Q5L _ v63 hv63) (.cons .w .nil) ?_;simp;repeat refine sdQ ?_
 refine hK _ (tn (Q4 (st':=⟨[(4,.own 0 0 v63.length)],[(0,rI v63)],1⟩) (Qq [(1,0)]) (Qe ?_)));clear hK K;have hr:=Option.some.inj h;rw [← hr];refine ⟨_,(.tmp .nil),?_⟩;refine ⟨(.one rfl rfl .nil),[lI v63],[0],by simp [UA,U1,IA,I1,LA,L1,BA,B1,EA,E1,E2,eB,eI,eL],by simp,(UpL.refl _)⟩
attribute [local simp] unk unA unE unT unC flat eL eI Qm QK Q1r Cat.cells Fn.cells
noncomputable def Q2K (f_:Fn) (g_:Fn) (iso_:Bool) (most_:Int):Option (List (List Int)) :=
 (Qx (σ:=List (List Int) × Int) (ε:=List (List Int)) (fun s7 =>
  if s7.2<(f_.s.fr.length:Int) then
   ass (0≤s7.2∧s7.2<(f_.s.fr.length:Int)) <|
   ass (0≤s7.2∧s7.2<(f_.s.to.length:Int)) <|
   ass ((s7.1++[[ix f_.s.fr s7.2,ix f_.s.to s7.2]]).length≤1073741824) <|
   ass (B64 (s7.2+1)) <|
   some (Ctl.next (s7.1++[[ix f_.s.fr s7.2,ix f_.s.to s7.2]],s7.2+1))
  else
   some (Ctl.ret s7.1)) fuel ([],0)).bind fun b1 =>
 (Q2G f_.s.n b1).bind fun v13 =>
 (Qx (σ:=List Int × Int) (ε:=(List Int) ⊕ (List (List Int))) (fun s36 =>
  if s36.2<(v13.length:Int) then
   ass ((s36.1++[(-1)]).length≤1073741824) <|
   (Qx (σ:=List Int × Int) (ε:=List Int) (fun s47 =>
    if s47.2<(v13.length:Int) then
     (
      ass (0≤s47.2∧s47.2<(v13.length:Int)) <|
      if (ix v13 s47.2)=s36.2 then
       ass ((s47.1++[(-1)]).length≤1073741824) <|
       some (s47.1++[(-1)])
      else
       ass ((s47.1++[(-2)]).length≤1073741824) <|
       some (s47.1++[(-2)]):Option (List Int)).bind fun b49 =>
     ass (B64 (s47.2+1)) <|
     some (Ctl.next (b49,s47.2+1))
    else
     some (Ctl.ret s47.1)) fuel ([],0)).bind fun b39 =>
   (QS 100 f_ g_ iso_ 1 [] b39).bind fun v55 =>
   if (v55.length:Int)=0 then
    some (Ctl.ret (Sum.inr []))
   else
    ass (B64 (s36.2+1)) <|
    some (Ctl.next (s36.1++[(-1)],s36.2+1))
  else
   some (Ctl.ret (Sum.inl s36.1))) fuel ([],0)).bind fun e14 =>
 match e14 with
 | .inl b14 =>
  (QS 100 f_ g_ iso_ most_ [] b14).bind fun v58 =>
  some v58
 | .inr p14 =>
  some p14
@[simp] abbrev Ym (a:Bool) (b:Int) (c:List (Nat × AV)):List (Nat × AV):=(2,.val (.bool a))::(3,iV b)::(4,.adr 0 0 0)::(5,.adr 1 0 0)::c
@[simp] abbrev YA (a:List Int) (b:List Int × Int) (c:List (Nat × AV)):List (Nat × AV):=(12,.own 2 0 a.length)::(13,.own 3 0 ((b.1++[(-1)]).length))::(14,iV b.2)::c
@[simp] abbrev YN (a b:Fn) (c:Bool) (d:List (Nat × Ent)):List (Nat × Ent):=(5,.mix 27 [(Y0z a b c [iV 1,.own 6 0 0])])::(6,.row 1 (Ls []))::d
@[simp] abbrev Y0v (a:List Int) (b:List Int × Int) (c:List (Nat × Ent)):List (Nat × Ent):=(2,rI a)::(3,rI (b.1++[(-1)]))::c
theorem Q8g (f_:Fn) (g_:Fn) (iso_:Bool) (most_:Int) (r:List (List Int)) (h:Q2K f_ g_ iso_ most_=some r):Contract Try.prog 70 (Y0H f_ g_ [.val (.bool iso_),iV most_]) (.lst true 1 (Ls r)):=by
 refine Q8 (rvs:=[.tmp 8]) (rs:=[.lst true 1 (Ls r)]) Try.func70 rfl rfl rfl rfl (by simp [Try.f70]) fun F hN hP=>?_;unfold Q2K at h;refine Q0 (runQ hN fun K hK=>?_);simp;repeat refine sdQ ?_
 refine hK _ ?_;clear hK K;refine tn (Q4 (st':=⟨Ym iso_ most_ [],Y8 f_ g_ [],2⟩) (Qq [(0,0),(1,1)]) (Q0 (runQ hN fun K hK=>?_)));simp;repeat refine sdQ ?_
 refine hK _ ?_;clear hK K;refine tn (Q4 (st':=⟨Ym iso_ most_ [(9,.adr 2 0 0)],Y8 f_ g_ (Y06 f_ []),3⟩) (QV 3) (Q0 (runQ hN fun K hK=>?_)));simp;repeat refine sdQ ?_
 refine hK _ ?_;clear hK K;refine tn (Q4 (st':=⟨Ym iso_ most_ [(9,.adr 2 0 0),(10,.own 3 0 0)],Y8 f_ g_ (Y06 f_ [(3,.mix 1 [])]),4⟩) (QV 4) (Q0 (Q0 (runQ hN fun K hK=>?_))));simp;repeat refine sdQ ?_
 refine hK _ (tn (Q4 (st':=⟨Ym iso_ most_ [(9,.adr 2 0 0),(10,.own 3 0 0),(11,iV 0)],Y8 f_ g_ (Y06 f_ [(3,.mix 1 [])]),4⟩) (QV 4) ?_));clear hK K;replace ⟨e1,h,h1⟩:=bind_some h;refine Qd (fun b1:List (List Int)=>⟨Ym iso_ most_ [(9,.adr 2 0 0),(10,.own 3 0 b1.length)],Y8 f_ g_ (Y06 f_ [(3,.row 1 (Ls b1))]),4⟩) (fun b1=>b1=e1) ?_ ?_
 ·refine Q5 (Qs h (fun s7:List (List Int) × Int=>⟨Ym iso_ most_ [(9,.adr 2 0 0),(10,.own 3 0 s7.1.length),(11,iV s7.2)],Y8 f_ g_ (Y06 f_ [(3,.row 1 (Ls s7.1))]),4⟩) (Q3a ⟨Ym iso_ most_ [(9,.adr 2 0 0),(10,.own 3 0 0),(11,iV 0)],Y8 f_ g_ (Y06 f_ [(3,.row 1 (Ls []))]),4⟩ (Wk.nils [] (by simp) (by simp) (by simp [nlA]) (by simp [entN,nlL,nlA,Cat.cells,Fn.cells,UA,U1,IA,I1,LA,L1,BA,B1,EA,E1,E2,eB,eI,eL]) (by simp)) (QV 4)) ?_);clear h;intro k7 s7 c7 h hk7;refine Q0 (Q0 (runQ hN fun K hK=>?_));simp;repeat refine sdQ ?_
  refine hK _ ?_;clear hK K;refine tn (Q6 rfl (fun g=>?_) fun g=>?_)
  ·have g8:s7.2<(f_.s.fr.length:Int):=gQ;clear g;replace h:=if_l g8 h;refine Q7 (tn (Q0 (Q5 (runQ hN fun K hK=>?_))));replace ⟨a9,h⟩:=Q2 h;replace ⟨a10,h⟩:=Q2 h;replace ⟨a11,h⟩:=Q2 h;(try simp only [List.length_append,List.length_cons,List.length_nil] at a11);simp [at_I a9,at_I a10,a11];(repeat refine sdQ ?_);refine hK _ ?_;clear hK K;refine bn (tn (Q4 (st':=⟨Ym iso_ most_ [(9,.adr 2 0 0),(10,.own 3 0 ((s7.1++[[ix f_.s.fr s7.2,ix f_.s.to s7.2]]).length)),(11,iV s7.2)],Y8 f_ g_ (Y06 f_ [(3,.row 1 (Ls (s7.1++[[ix f_.s.fr s7.2,ix f_.s.to s7.2]])))]),4⟩) (Qq [(0,0),(1,1),(2,2),(6,3)]) (runQ hN fun K hK=>?_)));replace ⟨a12,h⟩:=Q2 h;simp [Qo a12];(repeat refine sdQ ?_);refine hK _ ?_;clear hK K;cases h;exact rn (s':=(s7.1++[[ix f_.s.fr s7.2,ix f_.s.to s7.2]],s7.2+1)) hk7 (QV 4)
  have g8:¬ (s7.2<(f_.s.fr.length:Int)):=gQ;clear g;replace h:=if_r g8 h;refine Qj (tx (lx (bh ?_)));cases h;exact jn (b:=s7.1) hk7 (QV 4)
 intro b1 hb1;have h:=h1;try rw [← hb1] at h
 clear h1;try dsimp only at h
 refine Q0 (runQ hN fun K hK=>?_);simp;repeat with_reducible refine sdQ ?_
 replace ⟨v13,hv13,h⟩:=bind_some h;refine Q1 (Q8b _ _ v13 hv13) (.cons .val (.cons .w .nil)) ?_;simp;repeat refine sdQ ?_
 refine hK _ ?_;clear hK K;refine tn (Q4 (st':=⟨Ym iso_ most_ [(12,.own 2 0 v13.length)],Y8 f_ g_ [(2,rI v13)],3⟩) (Qq [(0,0),(1,1),(4,2)]) (Q0 (runQ hN fun K hK=>?_)));simp;repeat refine sdQ ?_
 refine hK _ ?_;clear hK K;refine tn (Q4 (st':=⟨Ym iso_ most_ [(12,.own 2 0 v13.length),(13,.own 3 0 0)],Y8 f_ g_ [(2,rI v13),(3,.mix 1 [])],4⟩) (QV 4) (Q0 (Q0 (runQ hN fun K hK=>?_))));simp;repeat refine sdQ ?_
 refine hK _ (tn (Q4 (st':=⟨Ym iso_ most_ [(12,.own 2 0 v13.length),(13,.own 3 0 0),(14,iV 0)],Y8 f_ g_ [(2,rI v13),(3,.mix 1 [])],4⟩) (QV 4) ?_));clear hK K;replace ⟨e14,h,h14⟩:=bind_some h;refine Qd (fun b14:List Int=>⟨Ym iso_ most_ [(13,.own 2 0 b14.length)],Y8 f_ g_ [(2,rI b14)],3⟩) (fun b14=>Sum.inl b14=e14) ?_ ?_
 ·refine Q5 (Qs h (fun s36:List Int × Int=>⟨Ym iso_ most_ [(12,.own 2 0 v13.length),(13,.own 3 0 s36.1.length),(14,iV s36.2)],Y8 f_ g_ [(2,rI v13),(3,rI s36.1)],4⟩) (Q3a ⟨Ym iso_ most_ [(12,.own 2 0 v13.length),(13,.own 3 0 0),(14,iV 0)],Y8 f_ g_ [(2,rI v13),(3,rI [])],4⟩ (Wk.nils [] (by simp) (by simp) (by simp [nlA]) (by simp [entN,nlL,nlA,Cat.cells,Fn.cells,UA,U1,IA,I1,LA,L1,BA,B1,EA,E1,E2,eB,eI,eL]) (by simp)) (QV 4)) ?_);clear h;intro k36 s36 c36 h hk36;refine Q0 (Q0 (runQ hN fun K hK=>?_));simp;repeat refine sdQ ?_
  refine hK _ ?_;clear hK K;refine tn (Q6 rfl (fun g=>?_) fun g=>?_)
  ·have g37:s36.2<(v13.length:Int):=gQ;clear g;replace h:=if_l g37 h;refine Q7 (tn (Q0 (Q5 (Q0 (runQ hN fun K hK=>?_)))));replace ⟨a38,h⟩:=Q2 h;(try simp only [List.length_append,List.length_cons,List.length_nil] at a38);simp [a38];(repeat refine sdQ ?_);refine hK _ ?_;clear hK K;refine tn (Q4 (st':=⟨Ym iso_ most_ (YA v13 s36 []),Y8 f_ g_ (Y0v v13 s36 []),4⟩) (Qq [(0,0),(1,1),(2,2),(5,3)]) (Q0 (runQ hN fun K hK=>?_)));simp;(repeat refine sdQ ?_);refine hK _ ?_;clear hK K;refine tn (Q4 (st':=⟨Ym iso_ most_ (YA v13 s36 [(15,.own 4 0 0)]),Y8 f_ g_ (Y0v v13 s36 [(4,.mix 1 [])]),5⟩) (QV 5) (Q0 (Q0 (runQ hN fun K hK=>?_))));simp;(repeat refine sdQ ?_);refine hK _ (tn (Q4 (st':=⟨Ym iso_ most_ (YA v13 s36 [(15,.own 4 0 0),(16,iV 0)]),Y8 f_ g_ (Y0v v13 s36 [(4,.mix 1 [])]),5⟩) (QV 5) ?_));clear hK K;replace ⟨e39,h,h39⟩:=bind_some h;refine Qd (fun b39:List Int=>⟨Ym iso_ most_ (YA v13 s36 [(15,.own 4 0 b39.length)]),Y8 f_ g_ (Y0v v13 s36 [(4,rI b39)]),5⟩) (fun b39=>b39=e39) ?_ ?_
   ·refine Q5 (Qs h (fun s47:List Int × Int=>⟨Ym iso_ most_ (YA v13 s36 [(15,.own 4 0 s47.1.length),(16,iV s47.2)]),Y8 f_ g_ (Y0v v13 s36 [(4,rI s47.1)]),5⟩) (Q3a ⟨Ym iso_ most_ (YA v13 s36 [(15,.own 4 0 0),(16,iV 0)]),Y8 f_ g_ (Y0v v13 s36 [(4,rI [])]),5⟩ (Wk.nils [] (by simp) (by simp) (by simp [nlA]) (by simp [entN,nlL,nlA,Cat.cells,Fn.cells,UA,U1,IA,I1,LA,L1,BA,B1,EA,E1,E2,eB,eI,eL]) (by simp)) (QV 5)) ?_);clear h;intro k47 s47 c47 h hk47;refine Q0 (Q0 (runQ hN fun K hK=>?_));simp;(repeat refine sdQ ?_);refine hK _ ?_;clear hK K;refine tn (Q6 rfl (fun g=>?_) fun g=>?_)
    ·have g48:s47.2<(v13.length:Int):=gQ;clear g;replace h:=if_l g48 h;refine Q7 (tn (Q0 ?_));replace ⟨e49,h,h49⟩:=bind_some h;refine Qd (fun b49:List Int=>⟨Ym iso_ most_ (YA v13 s36 [(15,.own 4 0 b49.length),(16,iV s47.2)]),Y8 f_ g_ (Y0v v13 s36 [(4,rI b49)]),5⟩) (fun b49=>b49=e49) ?_ ?_
     ·refine Q5 (Q0 (runQ hN fun K hK=>?_));replace ⟨a50,h⟩:=Q2 h;simp [at_I a50];(repeat refine sdQ ?_);refine hK _ ?_;clear hK K;refine tn (Q6 rfl (fun g=>?_) fun g=>?_)
      ·have g51:(ix v13 s47.2)=s36.2:=gQ;clear g;replace h:=if_l g51 h;refine runQ hN fun K hK=>?_;replace ⟨a52,h⟩:=Q2 h;(try simp only [List.length_append,List.length_cons,List.length_nil] at a52);simp [a52];(repeat refine sdQ ?_);refine hK _ (bn ?_);clear hK K;exact jn (b:=s47.1++[(-1)]) (Option.some.inj h) (Qq [(0,0),(1,1),(2,2),(3,3),(7,4)])
      have g51:¬ ((ix v13 s47.2)=s36.2):=gQ;clear g;replace h:=if_r g51 h;refine runQ hN fun K hK=>?_;replace ⟨a53,h⟩:=Q2 h;(try simp only [List.length_append,List.length_cons,List.length_nil] at a53);simp [a53];(repeat refine sdQ ?_);refine hK _ (bn ?_);clear hK K;exact jn (b:=s47.1++[(-2)]) (Option.some.inj h) (Qq [(0,0),(1,1),(2,2),(3,3),(7,4)])
     intro b49 hb49;have h:=h49;(try rw [← hb49] at h);clear h49;(try dsimp only at h);refine runQ hN fun K hK=>?_;replace ⟨a54,h⟩:=Q2 h;simp [Qo a54];(repeat refine sdQ ?_);refine hK _ ?_;clear hK K;cases h;exact rn (s':=(b49,s47.2+1)) hk47 (QV 5)
    have g48:¬ (s47.2<(v13.length:Int)):=gQ;clear g;replace h:=if_r g48 h;refine Qj (tx (lx (bh ?_)));cases h;exact jn (b:=s47.1) hk47 (QV 5)
   intro b39 hb39;have h:=h39;(try rw [← hb39] at h);clear h39;(try dsimp only at h);refine Q0 (runQ hN fun K hK=>?_);simp;(repeat refine sdQ ?_);refine hK _ ?_;clear hK K;refine tn (Q4 (st':=⟨Ym iso_ most_ (YA v13 s36 [(15,.own 4 0 b39.length),(17,.adr 5 0 0)]),Y8 f_ g_ (Y0v v13 s36 ((4,rI b39)::YN f_ g_ iso_ [])),7⟩) (Q3a ⟨Ym iso_ most_ (YA v13 s36 [(15,.own 4 0 b39.length),(17,.adr 5 0 0)]),Y8 f_ g_ (Y0v v13 s36 ((4,rI b39)::YN f_ g_ iso_ [])),7⟩ (Wk.nils [(6,1)] (by simp) (by simp) (by simp [nlA]) (by simp [entN,nlL,nlA,Cat.cells,Fn.cells,UA,U1,IA,I1,LA,L1,BA,B1,EA,E1,E2,eB,eI,eL]) (by simp)) (QV 7)) (Q0 (Q25 [] mo (by rw [hN];decide) fun K hK=>?_)));simp;(repeat with_reducible refine sdQ ?_);replace ⟨v55,hv55,h⟩:=bind_some h
   refine Q1Y (fz:=[]) (ICon.frameL (e:={ v:=.tup [],set:=[(5,.mix 27 [(Y0z f_ g_ iso_ [iV 1,.own 7 0 v55.length])])],del:=[6],new:=[(7,.row 1 (Ls v55))],cnt:=1 }) (Q3Z 100 _ _ _ _ _ _ v55 hv55) [(0,5),(1,6),(2,4)] (by rfl) (by simp) (by simp [rl,rlL,rlLL,rlE,rlE',back,mxt,look,trm,List.range,List.range.loop,Qt,Cat.cells,Fn.cells]) (by simp [rl,rlL,rlLL,rlE,rlE',back,mxt,look,trm,List.range,List.range.loop,Qt,Cat.cells,Fn.cells]) (by simp [Q3C]) (by rfl) (by simp [rl,rlL,rlLL,rlE,rlE',back,mxt,look,trm,List.range,List.range.loop,Qt,Cat.cells,Fn.cells]) (by simp [rl,rlL,rlLL,rlE,rlE',back,mxt,look,trm,List.range,List.range.loop,Qt,Cat.cells,Fn.cells]) (by simp [rl,rlL,rlLL,rlE,rlE',back,mxt,look,trm,List.range,List.range.loop,Qt,Cat.cells,Fn.cells]) (by simp [rl,rlL,rlLL,rlE,rlE',back,mxt,look,trm,List.range,List.range.loop,Qt,Cat.cells,Fn.cells]) (by simp [Q3C]) (by rfl) (Q4u (by simp))) ?_;simp;(repeat refine sdQ ?_);refine hK _ ?_;clear hK K;refine tn (Q4 (st':=⟨Ym iso_ most_ (YA v13 s36 [(17,.adr 4 0 0)]),Y8 f_ g_ (Y0v v13 s36 [(4,.mix 27 [(Y0z f_ g_ iso_ [iV 1,.own 5 0 v55.length])]),(5,.row 1 (Ls v55))]),6⟩) (Qq [(0,0),(1,1),(2,2),(3,3),(5,4),(7,5)]) (Q0 (runQ hN fun K hK=>?_)));simp;(repeat refine sdQ ?_);refine hK _ ?_;clear hK K;refine tn (Q6 rfl (fun g=>?_) fun g=>?_)
   ·have g56:(v55.length:Int)=0:=gQ;clear g;replace h:=if_l g56 h;refine Q0 (runQ hN fun K hK=>?_);simp;(repeat refine sdQ ?_);refine hK _ (tn (Q4 (st':=⟨[(8,.own 0 0 0)],[(0,.mix 1 [])],1⟩) (Qq [(6,0)]) (Qe (br (tr (lr (br (tr ?_))))))));clear hK K;cases h;have q:_=e14:=hk36;have h:=h14;rw [← q] at h;clear q;(try dsimp only at h);have hr:=Option.some.inj h;rw [← hr];refine ⟨_,(.tmp .nil),?_⟩;refine ⟨(.one rfl rfl .nil),[.lst true 1 (Ls [])],[0],by simp [Cat.cells,Fn.cells,UA,U1,IA,I1,LA,L1,BA,B1,EA,E1,E2,eB,eI,eL],by simp,(UpL.refl _)⟩
   have g56:¬ ((v55.length:Int)=0):=gQ;clear g;replace h:=if_r g56 h;refine Q7 (bn (tn (runQ hN fun K hK=>?_)));replace ⟨a57,h⟩:=Q2 h;simp [Qo a57];(repeat refine sdQ ?_);refine hK _ ?_;clear hK K;cases h;exact rn (s':=(s36.1++[(-1)],s36.2+1)) hk36 (QV 4)
  have g37:¬ (s36.2<(v13.length:Int)):=gQ;clear g;replace h:=if_r g37 h;refine Qj (tx (lx (bh ?_)));cases h;exact jn (b:=s36.1) hk36 (Qq [(0,0),(1,1),(3,2)])
 intro b14 hb14;have h:=h14;try rw [← hb14] at h
 clear h14;try dsimp only at h
 refine Q0 (runQ hN fun K hK=>?_);simp;repeat refine sdQ ?_
 refine hK _ ?_;clear hK K;refine tn (Q4 (st':=⟨[(13,.own 0 0 b14.length),(18,.adr 1 0 0)],[(0,rI b14),(1,.mix 27 [(Y0z f_ g_ iso_ [iV most_,.own 2 0 0])]),(2,.row 1 (Ls []))],3⟩) (Q3a ⟨[(13,.own 2 0 b14.length),(18,.adr 4 0 0)],[(2,rI b14),(3,.row 1 (Ls [])),(4,.mix 27 [(Y0z f_ g_ iso_ [iV most_,.own 3 0 0])])],5⟩ (Wk.nils [] (by simp) (by simp) (by simp [nlA]) (by simp [entN,nlL,nlA,Cat.cells,Fn.cells,UA,U1,IA,I1,LA,L1,BA,B1,EA,E1,E2,eB,eI,eL]) (by simp)) (Qq [(2,0),(4,1),(3,2)])) (Q0 (Q25 [] mo (by rw [hN];decide) fun K hK=>?_)));simp;repeat with_reducible refine sdQ ?_
 replace ⟨v58,hv58,h⟩:=bind_some h;refine Q1Y (fz:=[]) (ICon.frameL (e:={ v:=.tup [],set:=[(1,.mix 27 [(Y0z f_ g_ iso_ [iV most_,.own 3 0 v58.length])])],del:=[2],new:=[(3,.row 1 (Ls v58))],cnt:=1 }) (Q3Z 100 _ _ _ _ _ _ v58 hv58) [(0,1),(1,2),(2,0)] (by rfl) (by simp) (by simp [rl,rlL,rlLL,rlE,rlE',back,mxt,look,trm,List.range,List.range.loop,Qt,Cat.cells,Fn.cells]) (by simp [rl,rlL,rlLL,rlE,rlE',back,mxt,look,trm,List.range,List.range.loop,Qt,Cat.cells,Fn.cells]) (by simp [Q3C]) (by rfl) (by simp [rl,rlL,rlLL,rlE,rlE',back,mxt,look,trm,List.range,List.range.loop,Qt,Cat.cells,Fn.cells]) (by simp [rl,rlL,rlLL,rlE,rlE',back,mxt,look,trm,List.range,List.range.loop,Qt,Cat.cells,Fn.cells]) (by simp [rl,rlL,rlLL,rlE,rlE',back,mxt,look,trm,List.range,List.range.loop,Qt,Cat.cells,Fn.cells]) (by simp [rl,rlL,rlLL,rlE,rlE',back,mxt,look,trm,List.range,List.range.loop,Qt,Cat.cells,Fn.cells]) (by simp [Q3C]) (by rfl) (Q4u (by simp))) ?_;simp;repeat refine sdQ ?_
 refine hK _ ?_;clear hK K;refine tn (Q4 (st':=⟨[(18,.adr 0 0 0)],[(0,.mix 27 [(Y0z f_ g_ iso_ [iV most_,.own 1 0 v58.length])]),(1,.row 1 (Ls v58))],2⟩) (Qq [(1,0),(3,1)]) (Q0 (runQ hN fun K hK=>?_)));simp;repeat refine sdQ ?_
 refine hK _ (tn (Q4 (st':=⟨[(8,.own 0 0 v58.length)],[(0,.row 1 (Ls v58))],1⟩) (Qq [(1,0)]) (Qe ?_)));clear hK K;have hr:=Option.some.inj h;rw [← hr];refine ⟨_,(.tmp .nil),?_⟩;refine ⟨(.one rfl rfl .nil),[.lst true 1 (Ls v58)],[0],by simp [Cat.cells,Fn.cells,UA,U1,IA,I1,LA,L1,BA,B1,EA,E1,E2,eB,eI,eL],by simp,(UpL.refl _)⟩
attribute [local simp] unk unA unE unT unC flat eL eI Qm QK Q2n Q1r Cat.cells Cone.cells Fn.cells
noncomputable def Q2l (d_:Fn):Option (List Cone) :=
 (Qx (σ:=List Cone × Int) (ε:=List Cone) (fun s18 =>
  (
   if s18.2<d_.t.n then
    some (decide ((s18.1.length:Int)≤400))
   else
    some false:Option (Bool)).bind fun b19 =>
  if b19=true then
   (
    (Q1x d_.s d_.t s18.2).bind fun v23 =>
    ass (B64 (401 - (s18.1.length:Int))) <|
    (Q2K v23 d_ false (401 - (s18.1.length:Int))).bind fun v25 =>
    (Qx (σ:=List Cone × Int) (ε:=List Cone) (fun s30 =>
     if s30.2<(v25.length:Int) then
      ass (0≤s30.2∧s30.2<(v25.length:Int)) <|
      ass ((s30.1++[(⟨s18.2,rx v25 s30.2⟩:Cone)]).length≤1073741824) <|
      ass (B64 (s30.2+1)) <|
      some (Ctl.next (s30.1++[(⟨s18.2,rx v25 s30.2⟩:Cone)],s30.2+1))
     else
      some (Ctl.ret s30.1)) fuel (s18.1,0)).bind fun p30 =>
    some p30:Option (List Cone)).bind fun b22 =>
   ass (B64 (s18.2+1)) <|
   some (Ctl.next (b22,s18.2+1))
  else
   some (Ctl.ret s18.1)) fuel ([],0)).bind fun b1 =>
 some b1
@[simp] abbrev Y0r (a:List Cone × Int) (b:List (Nat × Ent)):List (Nat × Ent):=(0,.mix 2 (Es (Cone.cells true) a.1))::b
theorem Q7B (d_:Fn) (r:List Cone) (h:Q2l d_=some r):FContract Try.prog true 56 [.agg (d_.cells true)] (.lst true 2 (Es (Cone.cells true) r)):=by
 refine Q2A true (ts:=[2]) (rs:=[.lst true 2 (Es (Cone.cells true) r)]) Try.func56 rfl rfl rfl rfl (by simp [Try.f56]) fun F hN hP=>?_;unfold Q2l at h;refine Q0 (Qg [1] mo (by rw [hN];decide) fun K hK=>?_);simp;repeat refine sdQ ?_
 refine hK _ ?_;clear hK K;refine tn (Q4 (st':=⟨YR d_ [],[],0⟩) (Qq []) (Q0 (Qg [] mo (by rw [hN];decide) fun K hK=>?_)));simp;repeat refine sdQ ?_
 refine hK _ ?_;clear hK K;refine tn (Q4 (st':=⟨YR d_ [(3,.own 0 0 0)],[(0,.mix 2 [])],1⟩) (Qq [(0,0)]) (Q0 (Q0 (Qg [] mo (by rw [hN];decide) fun K hK=>?_))));simp;repeat refine sdQ ?_
 refine hK _ (tn (Q4 (st':=⟨YR d_ [(3,.own 0 0 0),(4,iV 0)],[(0,.mix 2 [])],1⟩) (Qq [(0,0)]) ?_));clear hK K;replace ⟨e1,h,h1⟩:=bind_some h;refine Qd (fun b1:List Cone=>⟨[(3,.own 0 0 b1.length)],[(0,.mix 2 (Es (Cone.cells true) b1))],1⟩) (fun b1=>b1=e1) ?_ ?_
 ·refine Q5 (Qs h (fun s18:List Cone × Int=>⟨YR d_ [(3,.own 0 0 s18.1.length),(4,iV s18.2)],Y0r s18 [],1⟩) (Qq [(0,0)]) ?_);clear h;intro k18 s18 c18 h hk18;refine Q0 (Q0 ?_);replace ⟨e19,h,h19⟩:=bind_some h;refine Qd (fun b19:Bool=>⟨YR d_ [(3,.own 0 0 s18.1.length),(4,iV s18.2),(17,.val (.bool b19))],Y0r s18 [],1⟩) (fun b19=>b19=e19) ?_ ?_
  ·refine Qg [] mo (by rw [hN];decide) fun K hK=>?_;simp;(repeat with_reducible refine sdQ ?_);refine Q2f (fun g=>?_) (fun g=>?_)
   ·have g20:s18.2<d_.t.n:=gQ;clear g;replace h:=if_l g20 h;simp;(repeat refine sdQ ?_);refine hK _ ?_;exact jn (b:=decide ((s18.1.length:Int)≤400)) (Option.some.inj h) (Qq [(0,0)])
   have g20:¬ (s18.2<d_.t.n):=gQ;clear g;replace h:=if_r g20 h;simp;(repeat refine sdQ ?_);refine hK _ ?_;exact jn (b:=false) (Option.some.inj h) (Qq [(0,0)])
  intro b19 hb19;have h:=h19;try rw [← hb19] at h
  clear h19;try dsimp only at h
  refine Q6 rfl (fun g=>?_) fun g=>?_
  ·have g21:b19=true:=gQ;clear g;replace h:=if_l g21 h;refine Q7 (tn (Q0 ?_));replace ⟨e22,h,h22⟩:=bind_some h;refine Qd (fun b22:List Cone=>⟨YR d_ [(3,.own 0 0 b22.length),(4,iV s18.2)],[(0,.mix 2 (Es (Cone.cells true) b22))],1⟩) (fun b22=>b22=e22) ?_ ?_
   ·refine Q5 (Q0 (Qg [] mo (by rw [hN];decide) fun K hK=>?_));simp;(repeat with_reducible refine sdQ ?_);replace ⟨v23,hv23,h⟩:=bind_some h;refine Qy (fz:=[]) (Q5C _ _ _ v23 hv23) (.cons (.aggL (.cons .val (.cons .lst (.cons .lst (.cons .lst (.cons .lst .nil)))))) (.cons (.aggL (.cons .val (.cons .lst (.cons .lst (.cons .lst (.cons .lst .nil)))))) (.cons .val .nil))) ?_;replace ⟨a24,h⟩:=Q2 h;simp [Qo a24];(repeat with_reducible refine sdQ ?_);replace ⟨v25,hv25,h⟩:=bind_some h;refine Q3v (fz:=[]) false (Contract.toF1 (Q8g _ _ _ _ v25 hv25)) (PurK.ofL (.cons (.aggL (.cons .val (.cons .w (.cons .w (.cons .w (.cons .w (.cons .val (.cons .w (.cons .w (.cons .w (.cons .w (.cons .w (.cons .w .nil))))))))))))) (.cons (.aggL (.cons .val (.cons .lst (.cons .lst (.cons .lst (.cons .lst (.cons .val (.cons .lst (.cons .lst (.cons .lst (.cons .lst (.cons .lst (.cons .lst .nil))))))))))))) (.cons .val (.cons .val .nil))))) ?_;simp;(repeat refine sdQ ?_);refine hK _ ?_;clear hK K;refine tn (Q4 (st':=⟨YR d_ [(3,.own 0 0 s18.1.length),(4,iV s18.2),(5,.lst true 1 (Ls v25))],Y0r s18 [],1⟩) (Qq [(0,0)]) (Q0 (Qg [] mo (by rw [hN];decide) fun K hK=>?_)));simp;(repeat refine sdQ ?_);refine hK _ (tn (Q4 (st':=⟨YR d_ [(3,.own 0 0 s18.1.length),(4,iV s18.2),(5,.lst true 1 (Ls v25)),(6,iV 0)],Y0r s18 [],1⟩) (Qq [(0,0)]) (Q5 ?_)));clear hK K;replace ⟨e30,he30,h30⟩:=bind_some h;refine Qs he30 (fun s30:List Cone × Int=>⟨YR d_ [(3,.own 0 0 s30.1.length),(4,iV s18.2),(5,.lst true 1 (Ls v25)),(6,iV s30.2)],Y0r s30 [],1⟩) (Qq [(0,0)]) ?_;intro k30 s30 c30 h hk30;refine Q0 (Q0 (Qg [] mo (by rw [hN];decide) fun K hK=>?_));simp;(repeat refine sdQ ?_);refine hK _ ?_;clear hK K;refine tn (Q4 (st':=⟨YR d_ [(3,.own 0 0 s30.1.length),(4,iV s18.2),(5,.lst true 1 (Ls v25)),(6,iV s30.2),(34,.val (.bool (decide (s30.2<(v25.length:Int)))))],Y0r s30 [],1⟩) (Qq [(0,0)]) (Q6 rfl (fun g=>?_) fun g=>?_))
    ·have g31:s30.2<(v25.length:Int):=gQ;clear g;replace h:=if_l g31 h;refine Q7 (tn (Q0 (Q5 (Qg [45] mo (by rw [hN];decide) fun K hK=>?_))));replace ⟨a32,h⟩:=Q2 h;replace ⟨a33,h⟩:=Q2 h;(try simp only [List.length_append,List.length_cons,List.length_nil] at a33);simp [at_L a32,a33];(repeat refine sdQ ?_);refine hK _ ?_;clear hK K;refine bn (tn (Q4 (st':=⟨YR d_ [(3,.own 0 0 ((s30.1++[(⟨s18.2,rx v25 s30.2⟩:Cone)]).length)),(4,iV s18.2),(5,.lst true 1 (Ls v25)),(6,iV s30.2)],[(0,.mix 2 (Es (Cone.cells true) (s30.1++[(⟨s18.2,rx v25 s30.2⟩:Cone)])))],1⟩) (Qq [(2,0)]) (Qg [] mo (by rw [hN];decide) fun K hK=>?_)));replace ⟨a34,h⟩:=Q2 h;simp [Qo a34];(repeat refine sdQ ?_);refine hK _ ?_;clear hK K;cases h;exact rn (s':=(s30.1++[(⟨s18.2,rx v25 s30.2⟩:Cone)],s30.2+1)) hk30 (Qq [(0,0)])
    have g31:¬ (s30.2<(v25.length:Int)):=gQ;clear g;replace h:=if_r g31 h;refine Qj (tx (lx (bh (bn ?_))));cases h;have q:_=e30:=hk30;have h:=h30;rw [← q] at h;clear q;(try dsimp only at h);exact jn (b:=s30.1) (Option.some.inj h) (Qq [(0,0)])
   intro b22 hb22;have h:=h22;(try rw [← hb22] at h);clear h22;(try dsimp only at h);refine Qg [] mo (by rw [hN];decide) fun K hK=>?_;replace ⟨a35,h⟩:=Q2 h;simp [Qo a35];(repeat refine sdQ ?_);refine hK _ ?_;clear hK K;cases h;exact rn (s':=(b22,s18.2+1)) hk18 (Qq [(0,0)])
  have g21:¬ (b19=true):=gQ;clear g;replace h:=if_r g21 h;refine Qj (tx (lx (bh ?_)));cases h;exact jn (b:=s18.1) hk18 (Qq [(0,0)])
 intro b1 hb1;have h:=h1;try rw [← hb1] at h
 clear h1;try dsimp only at h
 refine Q0 (Qg [] mo (by rw [hN];decide) fun K hK=>?_);simp;repeat refine sdQ ?_
 refine hK _ (tn (Q4 (st':=⟨[(2,.own 0 0 b1.length)],[(0,.mix 2 (Es (Cone.cells true) b1))],1⟩) (Qq [(0,0)]) (Qe ?_)));clear hK K;have hr:=Option.some.inj h;rw [← hr];exact (.two (.smix rfl (by simp) (Q9c (by simp [Cat.cells,Cone.cells,Fn.cells,QK,Q2n,Q1r]))) .nil)
attribute [local simp] unk unA unE unT unC flat eL eI Qm Q1r Fn.cells
noncomputable def Q2b (d_:Fn):Option (List Cone × Int) :=
 (Q2l d_).bind fun v1 =>
 if (v1.length:Int) > 400 then
  some ([],3)
 else
  some (v1,0)
theorem Q5E (d_:Fn) (r:List Cone × Int) (h:Q2b d_=some r):FContract Try.prog true 43 [.agg (d_.cells true)] (.tup [.lst true 2 (Es (Cone.cells true) r.1),iV r.2]):=by
 refine Q2A true (ts:=[2,3]) (rs:=[.lst true 2 (Es (Cone.cells true) r.1),iV r.2]) Try.func43 rfl rfl rfl rfl (by simp [Try.f43]) fun F hN hP=>?_;unfold Q2b at h;refine Q0 (Qg [1] mo (by rw [hN];decide) fun K hK=>?_);simp;repeat refine sdQ ?_
 refine hK _ ?_;clear hK K;refine tn (Q4 (st':=⟨YR d_ [],[],0⟩) (Qq []) (Q0 (Qg [] mo (by rw [hN];decide) fun K hK=>?_)));simp;repeat with_reducible refine sdQ ?_
 replace ⟨v1,hv1,h⟩:=bind_some h;refine Q3v (fz:=[]) true (Q7B _ v1 hv1) (PurK.ofN (.cons (.aggL (.cons .val (.cons .lst (.cons .lst (.cons .lst (.cons .lst (.cons .val (.cons .lst (.cons .lst (.cons .lst (.cons .lst (.cons .lst (.cons .lst .nil))))))))))))) .nil)) ?_;simp;repeat refine sdQ ?_
 refine hK _ ?_;clear hK K;refine tn (Q4 (st':=⟨[(4,.lst true 2 (Es (Cone.cells true) v1))],[],0⟩) (Qq []) (Q0 (Q0 (Qg [] mo (by rw [hN];decide) fun K hK=>?_))));simp;repeat refine sdQ ?_
 refine hK _ ?_;clear hK K;refine tn (Q6 rfl (fun g=>?_) fun g=>?_)
 ·have g2:(v1.length:Int) > 400:=gQ;clear g;replace h:=if_l g2 h;refine Q0 (Qg [] mo (by rw [hN];decide) fun K hK=>?_);simp;repeat refine sdQ ?_
  refine hK _ (tn (Q4 (st':=⟨[(2,nS),(3,iV 3)],[],0⟩) (Qq []) (Qe (tr ?_))));clear hK K;have hr:=Option.some.inj h;rw [← hr];exact (.two .nil (.two .val .nil))
 have g2:¬ ((v1.length:Int) > 400):=gQ;clear g;replace h:=if_r g2 h;refine Q7 (tn (Q0 (Qg [] mo (by rw [hN];decide) fun K hK=>?_)));simp;repeat refine sdQ ?_
 refine hK _ (tn (Q4 (st':=⟨[(2,.lst true 2 (Es (Cone.cells true) v1)),(3,iV 0)],[],0⟩) (Qq []) (Qe ?_)));clear hK K;have hr:=Option.some.inj h;rw [← hr];exact (.two .lst (.two .val .nil))
section
attribute [local simp] Qf QG Qu Q15 QD
theorem e_index {l:List Int} (hl:l.length≤1000) (v:Int):∃ r,Q2k l v=some r:=by
 unfold Q2k;refine Q13 (σ:=Int) (Q:=fun z=>∃ r:Int,z=some r) l.length (fun i s=>s=(i:Int)) (fun _=>True) (by omega) rfl ?_ ?_ ?_
 ·intro i s hi hs;subst hs;rw [if_pos (by omega),Q3 (by omega)]
  by_cases h:ix l i=v
  ·rw [if_pos h];exact .inr ⟨_,rfl,trivial⟩
  rw [if_neg h,Q3 (by unfold B64;omega)];exact .inl ⟨_,rfl,rfl⟩
 ·intro s hs;subst hs;rw [if_neg (by omega)];exact ⟨_,rfl,trivial⟩
 intro e _;cases e<;>exact ⟨_,rfl⟩
theorem e_classes {l:List Int} (hl:l.length≤100):∃ r,Q1F l=some r∧r.length=l.length:=by
 unfold Q1F;refine Q13 (σ:=List Int × List Int × Int) (Q:=fun z=>∃ r:List Int,z=some r∧r.length=l.length) l.length (fun i (s:List Int × List Int × Int)=>s.1.length=i∧s.2.1.length≤i∧s.2.2=(i:Int)) (fun e:List Int=>e.length=l.length) (by omega) ⟨rfl,Nat.le_refl _,rfl⟩ ?_ ?_ ?_
 ·intro i s hi ⟨h1,h2,h3⟩;obtain ⟨a,b,y⟩:=s;simp only at h1 h2 h3 ⊢;subst h3;left;obtain ⟨v,hv⟩:=e_index (l:=b) (by omega) (ix l i);rw [if_pos (by omega),Q3 (by omega),hv];simp only [Option.bind_some]
  by_cases hn:v<0
  ·rw [if_pos hn,Q3 (by omega),Q3 (by simp;omega)];simp only [Option.bind_some];rw [Q3 (by simp;omega),Q3 (by unfold B64;omega)];exact ⟨_,rfl,by simp;omega,by simp;omega,rfl⟩
  rw [if_neg hn];simp only [Option.bind_some];rw [Q3 (by simp;omega),Q3 (by unfold B64;omega)];exact ⟨_,rfl,by simp;omega,by simp;omega,rfl⟩
 ·intro s ⟨h1,h2,h3⟩;obtain ⟨a,b,y⟩:=s;simp only at h1 h2 h3 ⊢;rw [if_neg (by omega)];exact ⟨_,rfl,h1⟩
 intro e he;exact ⟨e,rfl,he⟩
theorem e_join {n:Nat} (hn:n≤100) {ps:List (List Int)} (hp:ps.length≤1000) (H:∀ i:Nat,i<ps.length→∃ a b:Int,rx ps i=[a,b]∧(0≤a∧a<(n:Int))∧(0≤b∧b<(n:Int))):∃ r,Q2G (n:Int) ps=some r∧r.length=n:=by
 unfold Q2G;refine Q13 (σ:=List Int × Int) (Q:=fun z=>∃ r:List Int,z=some r∧r.length=n) n (fun i (s:List Int × Int)=>s.1.length=i∧s.2=(i:Int)) (fun e:List Int=>e.length=n) (by omega) ⟨rfl,rfl⟩ ?_ ?_ ?_
 ·intro i s hi ⟨h1,h2⟩;obtain ⟨a,y⟩:=s;simp only at h1 h2 ⊢;subst h2;rw [if_pos (by omega),Q3 (by simp;omega),Q3 (by unfold B64;omega)];exact .inl ⟨_,rfl,by simp;omega,rfl⟩
 ·intro s ⟨h1,h2⟩;obtain ⟨a,y⟩:=s;simp only at h1 h2 ⊢;rw [if_neg (by omega)];exact ⟨_,rfl,h1⟩
 intro b1 hb1;refine Q13 (σ:=List Int × Int) (Q:=fun z=>∃ r:List Int,z=some r∧r.length=n) ps.length (fun i (s:List Int × Int)=>s.1.length=n∧s.2=(i:Int)) (fun e:List Int=>e.length=n) (by omega) ⟨hb1,rfl⟩ ?_ ?_ ?_
 ·intro i s hi ⟨h1,h2⟩;obtain ⟨L,y⟩:=s;simp only at h1 h2 ⊢;subst h2;left;obtain ⟨a,b,e,ha,hb⟩:=H i hi;have ea:ix (rx ps i) 0=a:=by rw [e];rfl
  have eb:ix (rx ps i) 1=b:=by rw [e];rfl
  have el:(rx ps i).length=2:=by rw [e];rfl
  rw [if_pos (by omega)];simp only [ea,eb,el];rw [Q3 (by omega),Q3 (by omega),Q3 (by omega),Q3 (by omega),Q3 (by omega),Q3 (by omega)];simp only [Option.bind_assoc];refine Q13 (σ:=List Int × Int) (Q:=fun z=>∃ s':List Int × Int,z=some (Ctl.next s':Ctl (List Int × Int) (List Int))∧s'.1.length=n∧s'.2=((i+1:Nat):Int)) n (fun q (s:List Int × Int)=>s.1.length=n∧s.2=(q:Int)) (fun e:List Int=>e.length=n) (by omega) ⟨h1,rfl⟩ ?_ ?_ ?_
  ·intro q s hq ⟨g1,g2⟩;obtain ⟨M,z⟩:=s;simp only at g1 g2 ⊢;subst g2;rw [if_pos (by omega)];simp only [Option.bind_some]
   by_cases hne:(ix L a != ix L b)=true
   ·rw [if_pos hne,Q3 (by omega)];left
    by_cases hz:ix M q=ix L b
    ·rw [if_pos hz,Q3 (by omega)];simp only [Option.bind_some];rw [Q3 (by unfold B64;omega)];exact ⟨_,rfl,by simp [g1],rfl⟩
    rw [if_neg hz];simp only [Option.bind_some];rw [Q3 (by unfold B64;omega)];exact ⟨_,rfl,g1,rfl⟩
   rw [if_neg hne];exact .inr ⟨_,rfl,g1⟩
  ·intro s ⟨g1,g2⟩;obtain ⟨M,z⟩:=s;simp only at g1 g2 ⊢;rw [if_neg (by omega)];simp only [Option.bind_some,Bool.false_eq_true,if_false];exact ⟨_,rfl,g1⟩
  intro e he;simp only [Option.bind_some];rw [Q3 (by unfold B64;omega)];exact ⟨_,rfl,he,by simp⟩
 ·intro s ⟨h1,h2⟩;obtain ⟨L,y⟩:=s;simp only at h1 h2 ⊢;rw [if_neg (by omega)];exact ⟨_,rfl,h1⟩
 intro e he;obtain ⟨r,hr,hr2⟩:=e_classes (l:=e) (by omega);rw [hr];exact ⟨r,rfl,by omega⟩
theorem start_CV {d:Fn} {x:Int} {P:Nat→Prop} [DecidablePred P]:CV d x (tab d.ob.length fun y=>if P y then -1 else -2):=by
 refine ⟨by simp [tab],fun i hi=>?_⟩;rw [ix_tab _ _ hi]
 by_cases h:P i<;>simp [h]
set_option maxHeartbeats 1000000 in
theorem e_find7 {d:Fn} (hd:d.Is) {x:Int} (hx:0≤x∧x<d.t.n) {most:Nat} (hm:most≤401) (h1:0<most):Q2K (cstF d x) d false most=some ((lext d x d.ob.length []).take most):=by
 obtain ⟨l1,l2,l3,l4,l5,l6,l7,l8⟩:=hd.fact;have e100:∀ c:List Int,CV d x c→c.count (-1)<100:=fun c hc=>by
  have:=List.count_le_length (a:=(-1:Int)) (l:=c);have:=hc.1;omega
 unfold Q2K;refine Q1p d.ar.length (fun i=>(List.range i).map fun a:Nat=>[ix d.s.fr a,ix d.s.to a]) (e:=(List.range d.ar.length).map fun a:Nat=>[ix d.s.fr a,ix d.s.to a]) rfl (by omega) (fun i hi=>?_) ?_ ?_
 ·simp only;rw [if_pos (by show (i:Int)<(d.s.fr.length:Int);omega),Q3 (by show 0≤(i:Int)∧(i:Int)<(d.s.fr.length:Int);omega),Q3 (by show 0≤(i:Int)∧(i:Int)<(d.s.to.length:Int);omega),Q3 (by simp;omega),Q3 (by unfold B64;omega),List.range_succ];simp [cstF]
 ·simp only;rw [if_neg (by show ¬ (d.ar.length:Int)<(d.s.fr.length:Int);omega)]
 obtain ⟨v,hv,hvl⟩:=e_join (n:=d.ob.length) (by omega) (ps:=(List.range d.ar.length).map fun a:Nat=>[ix d.s.fr a,ix d.s.to a]) (by simp;omega) (fun i hi=>by
  simp only [List.length_map,List.length_range] at hi;obtain ⟨f1,f2,f3⟩:=l8 i hi;exact ⟨ix d.s.fr i,ix d.s.to i,by simp [rx,List.getD_eq_getElem?_getD,hi],f1,f2⟩)
 rw [show (cstF d x).s.n=(d.ob.length:Int) from l1.symm,hv];simp only [Option.bind_some];refine Q13 (σ:=List Int × Int) (Q:=fun z=>z=some ((lext d x d.ob.length []).take most)) d.ob.length (fun i s=>s=(List.replicate i (-1),(i:Int)))
  (fun e:List Int ⊕ List (List Int)=>match e with
   | .inl e=>e=List.replicate d.ob.length (-1)
   | .inr e=>e=[]∧lext d x d.ob.length []=[]) (by omega) rfl ?_ ?_ ?_
 ·intro i s hi hs;subst hs;simp only;rw [if_pos (by omega),Q3 (by simp;omega)]
  let P:Nat→Prop:=fun y=>ix v (y:Int)=(i:Int)
  have hdec:DecidablePred P:=fun y=>inferInstanceAs (Decidable (ix v (y:Int)=(i:Int)))
  let st:Nat→List Int:=fun j=>tab j fun y=>if P y then -1 else -2
  have hst:CV d x (st d.ob.length):=start_CV;refine Q13 (σ:=List Int × Int) (Q:=fun z=>(∃ s':List Int × Int,z=some (Ctl.next s':Ctl (List Int × Int) (List Int ⊕ List (List Int)))∧s'=(List.replicate (i+1) (-1),((i+1:Nat):Int)))∨∃ e:List Int ⊕ List (List Int),z=some (.ret e)∧match e with
   | .inl e=>e=List.replicate d.ob.length (-1)
   | .inr e=>e=[]∧lext d x d.ob.length []=[]) d.ob.length (fun j s=>s=(st j,(j:Int))) (fun e=>e=st d.ob.length) (by omega) rfl ?_ ?_ ?_
  ·intro j s hj hs;subst hs;have hl:(st j).length=j:=(by simp [st,tab]);have hs1:st (j+1)=st j++[if P j then -1 else -2]:=Q6G _ _;left;simp only;rw [if_pos (by omega),Q3 (by omega)]
   by_cases h:P j
   ·have h':ix v (j:Int)=(i:Int):=h;rw [if_pos h',Q3 (by simp;omega)];simp only [Option.bind_some];rw [Q3 (by unfold B64;omega)];exact ⟨_,rfl,by rw [hs1,if_pos h];rfl⟩
   have h':¬ ix v (j:Int)=(i:Int):=h;rw [if_neg h',Q3 (by simp;omega)];simp only [Option.bind_some];rw [Q3 (by unfold B64;omega)];exact ⟨_,rfl,by rw [hs1,if_neg h];rfl⟩
  ·intro s hs;subst hs;simp only;rw [if_neg (by omega)];exact ⟨_,rfl,rfl⟩
  intro e he;subst he;have hg:=e_go hd hx (most:=1) (by omega) 100 (st d.ob.length) [] hst (e100 _ hst) (by simp);rw [show ((1:Nat):Int)=1 from rfl] at hg;rw [hg];simp only [Option.bind_some,List.nil_append]
  by_cases hG:cG d x 100 (st d.ob.length)=[]
  ·right;refine ⟨.inr [],by simp [hG],rfl,?_⟩;rw [List.eq_nil_iff_forall_not_mem];intro q hq;obtain ⟨q1,q2,q3⟩:=Q7h hd hq;refine cG_some hd q2 q1 q3 100 _ hst (e100 _ hst) (fun j h0 h1 h2=>?_) hG;obtain ⟨j,rfl⟩:=Int.eq_ofNat_of_zero_le h0;simp only [st] at h2;rw [ix_tab _ _ (by omega)] at h2
   by_cases h:P j
   ·rw [if_pos h] at h2;omega
   rw [if_neg h] at h2;omega
  left;have hne:¬ ((((cG d x 100 (st d.ob.length)).take (1 - ([]:List (List Int)).length)).length:Nat):Int)=0:=by
   have:=List.length_pos_iff.2 hG;simp only [List.length_take,List.length_nil];omega
  rw [if_neg hne,Q3 (by unfold B64;omega)];exact ⟨_,rfl,by rw [← List.replicate_succ'];rfl⟩
 ·intro s hs;subst hs;simp only;rw [if_neg (by omega)];exact ⟨_,rfl,rfl⟩
 intro e he;cases e with
 | inr e=>rw [he.1,he.2];simp
 | inl e =>
  simp only at he ⊢;subst he;have hp:CV d x ([]++List.replicate d.ob.length (-1)):=pad_CV (by simp) (fun i hi=>by simp at hi);have hg:=e_go hd hx hm 100 _ [] hp (e100 _ hp) (by simpa using h1);rw [cG_lext hd d.ob.length 100 [] (by simp) (by omega) (fun i hi=>by simp at hi)] at hg;simp only [List.nil_append,List.length_nil,Nat.sub_zero] at hg;rw [hg];rfl
theorem Q8W (d:Fn) {i n:Nat} (h:i≤n):∃ B,Q1q d n=Q1q d i++B:=by
 obtain ⟨m,rfl⟩:=Nat.le.dest h;clear h
 induction m with
 | zero=>exact ⟨[],by simp⟩
 | succ m ih =>
  obtain ⟨B,hB⟩:=ih;exact ⟨B++Q5G d (i+m:Nat),by rw [← Nat.add_assoc,Q2v,hB,List.append_assoc]⟩
theorem e_cones {d:Fn} (hd:d.Is):Q2l d=some ((Q19 d).take 401):=by
 obtain ⟨l1,l2,l3,l4,l5,l6,l7,l8⟩:=hd.fact;have n8:=hd.t.1.n8;have n0:=hd.t.1.n0;unfold Q2l;refine Q13 (σ:=List Cone × Int) (Q:=fun z=>z=some ((Q19 d).take 401)) d.t.n.toNat (fun i s=>s=((Q1q d i).take 401,(i:Int))) (fun e=>e=(Q19 d).take 401) (by omega) rfl ?_ ?_ (fun e he=>by rw [he])
 ·intro i s hi hs;subst hs;have hin:(i:Int)<d.t.n:=by omega
  simp only;rw [if_pos hin];simp only [Option.bind_some]
  by_cases h:(Q1q d i).length≤400
  ·left;have e1:(Q1q d i).take 401=Q1q d i:=List.take_of_length_le (by omega);rw [e1,if_pos (by simp;omega),e_const hd ⟨by omega,hin⟩];simp only [Option.bind_some];rw [Q3 (by unfold B64;omega),show (401 - ((Q1q d i).length:Int))=((401 - (Q1q d i).length:Nat):Int) by omega,e_find7 hd ⟨by omega,hin⟩ (by omega) (by omega)];simp only [Option.bind_some,Option.bind_assoc]
   let V:=(lext d i d.ob.length []).take (401 - (Q1q d i).length)
   have hV:V.length≤401 - (Q1q d i).length:=(by simp only [V,List.length_take];omega);have hres:Q1q d i++V.map (Cone.mk i)=(Q1q d (i+1)).take 401:=by
    rw [Q2v,List.take_append,e1];simp [V,Q5G,List.map_take]
   show ∃ s',((Qx _ _ _).bind _)=_∧_;refine ⟨((Q1q d (i+1)).take 401,(i:Int)+1),?_,rfl⟩;refine Q1p V.length (fun q=>Q1q d i++(V.take q).map (Cone.mk i)) (e:=(Q1q d (i+1)).take 401) (by simp) (by omega) (fun q hq=>?_) ?_ ?_
   ·simp only;rw [if_pos (show (q:Int)<(V.length:Int) by omega),Q3 (show 0≤(q:Int)∧(q:Int)<(V.length:Int) by omega),Q3 (by simp only [List.length_append,List.length_map,List.length_take,List.length_singleton];omega),Q3 (by unfold B64;omega)];rw [List.take_succ_eq_append_getElem hq,Q2O _ _ hq];simp [V]
   ·simp only [List.take_length];rw [if_neg (show ¬ (V.length:Int)<(V.length:Int) by omega),hres]
   rw [Q3 (by unfold B64;omega)]
  right;have hf:¬ ((((Q1q d i).take 401).length:Nat):Int)≤400:=by simp only [List.length_take];omega
  refine ⟨(Q1q d i).take 401,by simp [hf];omega,?_⟩;obtain ⟨B,hB⟩:=Q8W d (i:=i) (n:=d.t.n.toNat) (by omega);unfold Q19;rw [hB,List.take_append_of_le_length (by omega)]
 intro s hs;subst hs;simp only;rw [if_neg (by omega)];exact ⟨_,rfl,rfl⟩
theorem e_clist {d:Fn} (hd:d.Is):Q2b d=some (if (Q19 d).length≤400 then (Q19 d,0) else ([],3)):=by
 unfold Q2b;rw [e_cones hd];simp only [Option.bind_some]
 by_cases h:(Q19 d).length≤400
 ·rw [if_pos h,if_neg (by simp only [List.length_take];omega),List.take_of_length_le (by omega)]
 rw [if_neg h,if_pos (by simp only [List.length_take];omega)]
end
attribute [local simp] unk unA unE unT unC flat eL eI Qm QK Q2n Q1r Cat.cells Cone.cells Fn.cells
noncomputable def Q2j (d_:Fn) (p_:Cone) (q_:Cone):Option (List Int) :=
 (QA d_.t p_.a q_.a).bind fun v1 =>
 (Qx (σ:=List Int × Int) (ε:=List Int) (fun s22 =>
  if s22.2<(v1.length:Int) then
   (
    ass (0≤s22.2∧s22.2<(v1.length:Int)) <|
    (Qx (σ:=Int) (ε:=Unit ⊕ (List Int)) (fun s33 =>
     if s33<(q_.l.length:Int) then
      ass (0≤s33∧s33<(q_.l.length:Int)) <|
      (Qp d_.t (ix v1 s22.2) (ix q_.l s33)).bind fun v36 =>
      ass (0≤s33∧s33<(p_.l.length:Int)) <|
      if ¬ (v36=(ix p_.l s33)) then
       some (Ctl.ret (Sum.inr s22.1))
      else
       ass (B64 (s33+1)) <|
       some (Ctl.next (s33+1))
     else
      some (Ctl.ret (Sum.inl ()))) fuel 0).bind fun e26 =>
    match e26 with
    | .inl b26 =>
     ass ((s22.1++[ix v1 s22.2]).length≤1073741824) <|
     some (s22.1++[ix v1 s22.2])
    | .inr p26 =>
     some p26:Option (List Int)).bind fun b24 =>
   ass (B64 (s22.2+1)) <|
   some (Ctl.next (b24,s22.2+1))
  else
   some (Ctl.ret s22.1)) fuel ([],0)).bind fun b2 =>
 some b2
@[simp] abbrev Yh (a:Fn) (b:List (Nat × AV)):List (Nat × AV):=(4,.adr 0 0 0)::(5,.adr 1 0 0)::(7,.rptr (Y0G a []))::b
@[simp] abbrev Yv (a b:Cone) (c:List (Nat × Ent)):List (Nat × Ent):=(0,.mix 2 [(Cone.cells true a)])::(1,.mix 2 [(Cone.cells true b)])::c
@[simp] abbrev YK (a:List Int × Int) (b:List Int) (c:List (Nat × AV)):List (Nat × AV):=(8,.own 2 0 a.1.length)::(10,iV (ix b a.2))::(22,.own 3 0 b.length)::(23,iV (b.length:Int))::(24,iV a.2)::c
@[simp] abbrev Y0j (a:List Int) (b:List (Nat × AV)):List (Nat × AV):=(22,.own 3 0 a.length)::(23,iV (a.length:Int))::b
theorem Q7w (d_:Fn) (p_:Cone) (q_:Cone) (r:List Int) (h:Q2j d_ p_ q_=some r):Contract Try.prog 51 [.rptr (d_.cells true),.agg (p_.cells true),.agg (q_.cells true)] (lI r):=by
 refine Q8 (rvs:=[.tmp 6]) (rs:=[lI r]) Try.func51 rfl rfl rfl rfl (by simp [Try.f51]) fun F hN hP=>?_;unfold Q2j at h;refine Q0 (runQ hN fun K hK=>?_);simp;repeat refine sdQ ?_
 refine hK _ ?_;clear hK K;refine tn (Q4 (st':=⟨Yr d_ (Y0n [(5,.adr 1 0 0)]),Yv p_ q_ [],2⟩) (Qq [(0,0),(1,1)]) (w_scope (Q0 (runQ hN fun K hK=>?_))));simp;repeat refine sdQ ?_
 refine hK _ ?_;clear hK K;refine tn (Q4 (st':=⟨Yh d_ [],Yv p_ q_ [],2⟩) (Qq [(0,0),(1,1)]) (Q0 (runQ hN fun K hK=>?_)));simp;repeat refine sdQ ?_
 refine hK _ ?_;clear hK K;refine tn (Q4 (st':=⟨Yh d_ [(8,.own 2 0 0)],Yv p_ q_ [(2,.mix 1 [])],3⟩) (QV 3) (Q0 (w_label (tn (Q0 (Q0 (runQ hN fun K hK=>?_)))))));simp;repeat with_reducible refine sdQ ?_
 replace ⟨v1,hv1,h⟩:=bind_some h;refine Q1 (Q3r _ _ _ v1 hv1) (.cons (.preT (by simp [Cat.cells,Cone.cells,Fn.cells])) (.cons .val (.cons .val .nil))) ?_;simp;repeat refine sdQ ?_
 refine hK _ (tn (Q4 (st':=⟨Yh d_ ((8,.own 2 0 0)::Y0j v1 [(24,iV 0)]),Yv p_ q_ [(2,.mix 1 []),(3,rI v1)],4⟩) (QV 4) ?_));clear hK K;replace ⟨e2,h,h2⟩:=bind_some h;refine Qd (fun b2:List Int=>⟨[(8,.own 0 0 b2.length)],[(0,rI b2)],1⟩) (fun b2=>b2=e2) ?_ ?_
 ·refine Q5 (Qs h (fun s22:List Int × Int=>⟨Yh d_ ((8,.own 2 0 s22.1.length)::Y0j v1 [(24,iV s22.2)]),Yv p_ q_ [(2,rI s22.1),(3,rI v1)],4⟩) (Q3a ⟨Yh d_ ((8,.own 2 0 0)::Y0j v1 [(24,iV 0)]),Yv p_ q_ [(2,rI []),(3,rI v1)],4⟩ (Wk.nils [] (by simp) (by simp) (by simp [nlA]) (by simp [entN,nlL,nlA,Cat.cells,Cone.cells,Fn.cells,UA,U1,IA,I1,LA,L1,BA,B1,EA,E1,E2,eB,eI,eL]) (by simp)) (QV 4)) ?_);clear h;intro k22 s22 c22 h hk22;refine Q0 (runQ hN fun K hK=>?_);simp;repeat refine sdQ ?_
  refine hK _ ?_;clear hK K;refine tn (Q0 (Q6 rfl (fun g=>?_) fun g=>?_))
  ·have g23:s22.2<(v1.length:Int):=gQ;clear g;replace h:=if_l g23 h;refine Q7 (tn (Q0 ?_));replace ⟨e24,h,h24⟩:=bind_some h;refine Qd (fun b24:List Int=>⟨Yh d_ ((8,.own 2 0 b24.length)::Y0j v1 [(24,iV s22.2)]),Yv p_ q_ [(2,rI b24),(3,rI v1)],4⟩) (fun b24=>b24=e24) ?_ ?_
   ·refine Q5 (Q0 (runQ hN fun K hK=>?_));replace ⟨a25,h⟩:=Q2 h;simp [at_I a25];(repeat refine sdQ ?_);refine hK _ ?_;clear hK K;refine tn (Q4 (st':=⟨Yh d_ (YK s22 v1 []),Yv p_ q_ [(2,rI s22.1),(3,rI v1)],4⟩) (QV 4) (Q0 (Q0 (runQ hN fun K hK=>?_))));simp;(repeat refine sdQ ?_);refine hK _ (tn (Q4 (st':=⟨Yh d_ (YK s22 v1 [(29,lI q_.l),(30,iV (q_.l.length:Int)),(31,iV 0)]),Yv p_ q_ [(2,rI s22.1),(3,rI v1)],4⟩) (QV 4) ?_));clear hK K;replace ⟨e26,h,h26⟩:=bind_some h;refine Qd (fun b26:Unit=>⟨Yh d_ (YK s22 v1 []),Yv p_ q_ [(2,rI s22.1),(3,rI v1)],4⟩) (fun b26=>Sum.inl b26=e26) ?_ ?_
    ·refine Q5 (Qs h (fun s33:Int=>⟨Yh d_ (YK s22 v1 [(29,lI q_.l),(30,iV (q_.l.length:Int)),(31,iV s33)]),Yv p_ q_ [(2,rI s22.1),(3,rI v1)],4⟩) (QV 4) ?_);clear h;intro k33 s33 c33 h hk33;refine Q0 (runQ hN fun K hK=>?_);simp;(repeat refine sdQ ?_);refine hK _ ?_;clear hK K;refine tn (Q0 (Q6 rfl (fun g=>?_) fun g=>?_))
     ·have g34:s33<(q_.l.length:Int):=gQ;clear g;replace h:=if_l g34 h;refine Q7 (tn (Q0 (Q5 (Q0 (runQ hN fun K hK=>?_)))));replace ⟨a35,h⟩:=Q2 h;simp [at_I a35];(repeat refine sdQ ?_);refine hK _ ?_;clear hK K;refine tn (Q4 (st':=⟨Yh d_ ((8,.own 2 0 s22.1.length)::(10,iV (ix v1 s22.2))::(11,iV s33)::(12,iV (ix q_.l s33))::Y0j v1 [(24,iV s22.2),(29,lI q_.l),(30,iV (q_.l.length:Int)),(31,iV s33)]),Yv p_ q_ [(2,rI s22.1),(3,rI v1)],4⟩) (QV 4) (Q0 (runQ hN fun K hK=>?_)));simp;(repeat with_reducible refine sdQ ?_);replace ⟨v36,hv36,h⟩:=bind_some h;refine Q1 (Q1B _ _ _ v36 hv36) (.cons (.preT (by simp [Cat.cells,Cone.cells,Fn.cells])) (.cons .val (.cons .val .nil))) ?_;replace ⟨a37,h⟩:=Q2 h;simp [at_I a37];(repeat refine sdQ ?_);refine hK _ ?_;clear hK K;refine tn (Q4 (st':=⟨Yh d_ (YK s22 v1 [(29,lI q_.l),(30,iV (q_.l.length:Int)),(31,iV s33),(45,.val (.bool (v36 != (ix p_.l s33))))]),Yv p_ q_ [(2,rI s22.1),(3,rI v1)],4⟩) (QV 4) (Q6 rfl (fun g=>?_) fun g=>?_))
      ·have g38:¬ (v36=(ix p_.l s33)):=gQ;clear g;replace h:=if_l g38 h;refine Qj (bm (by decide) (tx (lx (bm (by decide) (tx (bh ?_))))));cases h;have q:_=e26:=hk33;have h:=h26;rw [← q] at h;clear q;(try dsimp only at h);exact jn (b:=s22.1) (Option.some.inj h) (QV 4)
      have g38:¬ (¬ (v36=(ix p_.l s33))):=gQ;clear g;replace h:=if_r g38 h;refine Q7 (bn (tn (runQ hN fun K hK=>?_)));replace ⟨a39,h⟩:=Q2 h;simp [Qo a39];(repeat refine sdQ ?_);refine hK _ ?_;clear hK K;cases h;exact rn (s':=s33+1) hk33 (QV 4)
     have g34:¬ (s33<(q_.l.length:Int)):=gQ;clear g;replace h:=if_r g34 h;refine Qj (tx (lx (bh ?_)));cases h;exact jn (b:=()) hk33 (QV 4)
    intro b26 hb26;have h:=h26;(try rw [← hb26] at h);clear h26;(try dsimp only at h);refine runQ hN fun K hK=>?_;replace ⟨a40,h⟩:=Q2 h;(try simp only [List.length_append,List.length_cons,List.length_nil] at a40);simp [a40];(repeat refine sdQ ?_);refine hK _ (bn ?_);clear hK K;exact jn (b:=s22.1++[ix v1 s22.2]) (Option.some.inj h) (Qq [(0,0),(1,1),(5,2),(3,3)])
   intro b24 hb24;have h:=h24;(try rw [← hb24] at h);clear h24;(try dsimp only at h);refine runQ hN fun K hK=>?_;replace ⟨a41,h⟩:=Q2 h;simp [Qo a41];(repeat refine sdQ ?_);refine hK _ ?_;clear hK K;cases h;exact rn (s':=(b24,s22.2+1)) hk22 (QV 4)
  have g23:¬ (s22.2<(v1.length:Int)):=gQ;clear g;replace h:=if_r g23 h;refine Qj (tx (lx (bh ?_)));cases h;exact jn (b:=s22.1) hk22 (Qq [(2,0)])
 intro b2 hb2;have h:=h2;try rw [← hb2] at h
 clear h2;try dsimp only at h
 refine Q0 (runQ hN fun K hK=>?_);simp;repeat refine sdQ ?_
 refine hK _ (tn (Q4 (st':=⟨[(6,.own 0 0 b2.length)],[(0,rI b2)],1⟩) (Qq [(0,0)]) (Qe (pcr ?_))));clear hK K;have hr:=Option.some.inj h;rw [← hr];refine ⟨_,(.tmp .nil),?_⟩;refine ⟨(.one rfl rfl .nil),[lI b2],[0],by simp [Cat.cells,Cone.cells,Fn.cells,UA,U1,IA,I1,LA,L1,BA,B1,EA,E1,E2,eB,eI,eL],by simp,(UpL.refl _)⟩
attribute [local simp] unk unA unE unT unC flat eL eI Qm Q2n Q1r Cone.cells Fn.cells
noncomputable def Q20 (p_:Cone) (f_:Fn):Option Cone :=
 ass (0≤p_.a∧p_.a<(f_.ob.length:Int)) <|
 (Q3k p_.l f_.ar).bind fun v2 =>
 some (⟨ix f_.ob p_.a,v2⟩:Cone)
@[simp] abbrev Y0b (a:Cone) (b:List (Nat × Ent)):List (Nat × Ent):=(0,.mix 2 [(Cone.cells true a)])::b
theorem Q6H (p_:Cone) (f_:Fn) (r:Cone) (h:Q20 p_ f_=some r):Contract Try.prog 34 [.agg (p_.cells true),.rptr (f_.cells true)] (.agg (r.cells true)):=by
 refine Q8 (rvs:=[.cell 4 60]) (rs:=[.agg (r.cells true)]) Try.func34 rfl rfl rfl rfl (by simp [Try.f34]) fun F hN hP=>?_;unfold Q20 at h;refine Q0 (runQ hN fun K hK=>?_);simp;repeat refine sdQ ?_
 refine hK _ ?_;clear hK K;refine tn (Q4 (st':=⟨YR f_ [(2,.adr 0 0 0),(4,.adr 1 0 0)],Y0b p_ [(1,.mix 2 [[iV 0,nS]])],2⟩) (Qq [(0,0),(1,1)]) (Q0 (runQ hN fun K hK=>?_)));replace ⟨a1,h⟩:=Q2 h;simp [at_I a1];repeat with_reducible refine sdQ ?_
 replace ⟨v2,hv2,h⟩:=bind_some h;refine Q1 (Q6I _ _ v2 hv2) (.cons .lst (.cons .lst .nil)) ?_;simp [at_I a1];repeat refine sdQ ?_
 refine hK _ (tn (Q4 (st':=⟨Y0n [],[(0,.mix 2 [[iV (ix f_.ob p_.a),.own 1 0 v2.length]]),(1,rI v2)],2⟩) (Qq [(1,0),(2,1)]) (Qe ?_)));clear hK K;have hr:=Option.some.inj h;rw [← hr];refine ⟨_,(.cell tf_60 rfl rfl rfl (by simp) (by simp) .nil),?_⟩;refine ⟨(.agg rfl .nil),[iV (ix f_.ob p_.a),lI v2],[1],by simp [Cone.cells,Fn.cells,UA,U1,IA,I1,LA,L1,BA,B1,EA,E1,E2,eB,eI,eL],by simp,(UpL.refl _)⟩
attribute [local simp] unk unA unE unT unC flat eL eI Qm Q2n Q1r Cone.cells Fn.cells
noncomputable def Q18 (d_:Fn) (all_:List Cone) (p_:Cone):Option Bool :=
 (Qx (σ:=Int) (ε:=Unit ⊕ Bool) (fun s7 =>
  if s7<(all_.length:Int) then
   ass (0≤s7∧s7<(all_.length:Int)) <|
   (Q2j d_ (gx all_ s7) p_).bind fun v10 =>
   if ¬ ((v10.length:Int)=1) then
    some (Ctl.ret (Sum.inr false))
   else
    ass (B64 (s7+1)) <|
    some (Ctl.next (s7+1))
  else
   some (Ctl.ret (Sum.inl ()))) fuel 0).bind fun e1 =>
 match e1 with
 | .inl b1 =>
  some true
 | .inr p1 =>
  some p1
@[simp] abbrev Y0e (a:List Cone) (b:List (Nat × AV)):List (Nat × AV):=(9,.lst true 2 (Es (Cone.cells true) a))::(10,iV (a.length:Int))::b
theorem Q3J (d_:Fn) (all_:List Cone) (p_:Cone) (r:Bool) (h:Q18 d_ all_ p_=some r):Contract Try.prog 35 [.rptr (d_.cells true),.lst true 2 (Es (Cone.cells true) all_),.agg (p_.cells true)] (.val (.bool r)):=by
 refine Q8 (rvs:=[.tmp 6]) (rs:=[.val (.bool r)]) Try.func35 rfl rfl rfl rfl (by simp [Try.f35]) fun F hN hP=>?_;unfold Q18 at h;refine Q0 (runQ hN fun K hK=>?_);simp;repeat refine sdQ ?_
 refine hK _ ?_;clear hK K;refine tn (Q4 (st':=⟨Yr d_ [(1,.lst true 2 (Es (Cone.cells true) all_)),(5,.adr 0 0 0)],Y0b p_ [],1⟩) (Qq [(0,0)]) (Q0 (Q0 (runQ hN fun K hK=>?_))));simp;repeat refine sdQ ?_
 refine hK _ (tn (Q4 (st':=⟨Yr d_ ((5,.adr 0 0 0)::Y0e all_ [(11,iV 0)]),Y0b p_ [],1⟩) (Qq [(0,0)]) ?_));clear hK K;replace ⟨e1,h,h1⟩:=bind_some h;refine Qd (fun b1:Unit=>⟨[],[],0⟩) (fun b1=>Sum.inl b1=e1) ?_ ?_
 ·refine Q5 (Qs h (fun s7:Int=>⟨Yr d_ ((5,.adr 0 0 0)::Y0e all_ [(11,iV s7)]),Y0b p_ [],1⟩) (Qq [(0,0)]) ?_);clear h;intro k7 s7 c7 h hk7;refine Q0 (runQ hN fun K hK=>?_);simp;repeat refine sdQ ?_
  refine hK _ ?_;clear hK K;refine tn (Q0 (Q6 rfl (fun g=>?_) fun g=>?_))
  ·have g8:s7<(all_.length:Int):=gQ;clear g;replace h:=if_l g8 h;refine Q7 (tn (Q0 (Q5 (Q0 (runQ hN fun K hK=>?_)))));replace ⟨a9,h⟩:=Q2 h;simp [at_E (c:=(Cone.cells true)) a9];(repeat refine sdQ ?_);refine hK _ ?_;clear hK K;refine tn (Q4 (st':=⟨Yr d_ ((5,.adr 0 0 0)::(8,.adr 1 0 0)::Y0e all_ [(11,iV s7)]),Y0b p_ [(1,.mix 2 [(Cone.cells true (gx all_ s7))])],2⟩) (Qq [(0,0),(1,1)]) (Q0 (runQ hN fun K hK=>?_)));simp;(repeat with_reducible refine sdQ ?_);replace ⟨v10,hv10,h⟩:=bind_some h;refine Q1 (Q7w _ _ _ v10 hv10) (.cons (.preT (by simp [Cone.cells,Fn.cells])) (.cons (.aggL (.cons .val (.cons .lst .nil))) (.cons (.aggL (.cons .val (.cons .lst .nil))) .nil))) ?_;simp;(repeat refine sdQ ?_);refine hK _ ?_;clear hK K;refine tn (Q4 (st':=⟨Yr d_ ((5,.adr 0 0 0)::Y0e all_ [(11,iV s7),(20,.val (.bool ((v10.length:Int) != 1)))]),Y0b p_ [],1⟩) (Qq [(0,0)]) (Q6 rfl (fun g=>?_) fun g=>?_))
   ·have g11:¬ ((v10.length:Int)=1):=gQ;clear g;replace h:=if_l g11 h;refine Q0 (runQ hN fun K hK=>?_);simp;(repeat refine sdQ ?_);refine hK _ (tn (Q4 (st':=⟨[(6,.val (.bool false))],[],0⟩) (Qq []) (Qe (br (tr (lr (br (tr ?_))))))));clear hK K;cases h;have q:_=e1:=hk7;have h:=h1;rw [← q] at h;clear q;(try dsimp only at h);have hr:=Option.some.inj h;rw [← hr];refine ⟨_,(.tmp .nil),?_⟩;refine ⟨(.one rfl rfl .nil),[.val (.bool false)],[],by simp [Cone.cells,Fn.cells,UA,U1,IA,I1,LA,L1,BA,B1,EA,E1,E2,eB,eI,eL,Q9 _ (Cone.cells true) _ (fun _=>rfl)],by simp,(UpL.refl _)⟩
   have g11:¬ (¬ ((v10.length:Int)=1)):=gQ;clear g;replace h:=if_r g11 h;refine Q7 (bn (tn (runQ hN fun K hK=>?_)));replace ⟨a12,h⟩:=Q2 h;simp [Qo a12];(repeat refine sdQ ?_);refine hK _ ?_;clear hK K;cases h;exact rn (s':=s7+1) hk7 (Qq [(0,0)])
  have g8:¬ (s7<(all_.length:Int)):=gQ;clear g;replace h:=if_r g8 h;refine Qj (tx (lx (bh ?_)));cases h;exact jn (b:=()) hk7 (Qq [])
 intro b1 hb1;have h:=h1;try rw [← hb1] at h
 clear h1;try dsimp only at h
 refine Q0 (runQ hN fun K hK=>?_);simp;repeat refine sdQ ?_
 refine hK _ (tn (Q4 (st':=⟨[(6,.val (.bool true))],[],0⟩) (Qq []) (Qe ?_)));clear hK K;have hr:=Option.some.inj h;rw [← hr];refine ⟨_,(.tmp .nil),?_⟩;refine ⟨(.one rfl rfl .nil),[.val (.bool true)],[],by simp [Cone.cells,Fn.cells,UA,U1,IA,I1,LA,L1,BA,B1,EA,E1,E2,eB,eI,eL,Q9 _ (Cone.cells true) _ (fun _=>rfl)],by simp,(UpL.refl _)⟩
attribute [local simp] unk unA unE unT unC flat eL eI Qm QK Q2n Q1r Cat.cells Cone.cells Fn.cells
noncomputable def Q2L (d_:Fn) (p_:Cone) (q_:Cone):Option (List Int) :=
 (Q2a d_.t p_.a q_.a).bind fun v1 =>
 (Qx (σ:=List Int × Int) (ε:=List Int) (fun s27 =>
  if s27.2<(v1.length:Int) then
   (
    (Qx (σ:=Bool × Int) (ε:=Bool) (fun s39 =>
     (
      if s39.2<(p_.l.length:Int) then
       some s39.1
      else
       some false:Option (Bool)).bind fun b40 =>
     if b40=true then
      ass (0≤s27.2∧s27.2<(v1.length:Int)) <|
      ass (0≤s39.2∧s39.2<(q_.l.length:Int)) <|
      (Q1h d_.t (ix v1 s27.2) (ix q_.l s39.2)).bind fun v45 =>
      ass (0≤s39.2∧s39.2<(p_.l.length:Int)) <|
      ass (B64 (s39.2+1)) <|
      some (Ctl.next (v45 == (ix p_.l s39.2),s39.2+1))
     else
      some (Ctl.ret s39.1)) fuel (true,0)).bind fun b30 =>
    if b30=true then
     ass (0≤s27.2∧s27.2<(v1.length:Int)) <|
     ass ((s27.1++[ix v1 s27.2]).length≤1073741824) <|
     some (s27.1++[ix v1 s27.2])
    else
     some s27.1:Option (List Int)).bind fun b29 =>
   ass (B64 (s27.2+1)) <|
   some (Ctl.next (b29,s27.2+1))
  else
   some (Ctl.ret s27.1)) fuel ([],0)).bind fun b2 =>
 some b2
@[simp] abbrev Yl (a:Fn) (b c:Cone) (d:List (Nat × Ent)):List (Nat × Ent):=(0,.mix 12 [(Fn.cells true a)])::(1,.mix 2 [(Cone.cells true b)])::(2,.mix 2 [(Cone.cells true c)])::d
@[simp] abbrev Yu (a:List Int) (b:List (Nat × AV)):List (Nat × AV):=(3,.adr 0 0 0)::(4,.adr 1 0 0)::(5,.adr 2 0 0)::(7,.own 3 0 a.length)::b
@[simp] abbrev Y0l (a:List Int × Int) (b:List (Nat × AV)):List (Nat × AV):=(8,.own 4 0 a.1.length)::(9,iV a.2)::b
theorem Q8h (d_:Fn) (p_:Cone) (q_:Cone) (r:List Int) (h:Q2L d_ p_ q_=some r):Contract Try.prog 44 [.agg (d_.cells true),.agg (p_.cells true),.agg (q_.cells true)] (lI r):=by
 refine Q8 (rvs:=[.tmp 6]) (rs:=[lI r]) Try.func44 rfl rfl rfl rfl (by simp [Try.f44]) fun F hN hP=>?_;unfold Q2L at h;refine Q0 (runQ hN fun K hK=>?_);simp;repeat refine sdQ ?_
 refine hK _ ?_;clear hK K;refine tn (Q4 (st':=⟨[(3,.adr 0 0 0),(4,.adr 1 0 0),(5,.adr 2 0 0)],Yl d_ p_ q_ [],3⟩) (QV 3) (Q0 (runQ hN fun K hK=>?_)));simp;repeat with_reducible refine sdQ ?_
 replace ⟨v1,hv1,h⟩:=bind_some h;refine Q1 (Q6c _ _ _ v1 hv1) (.cons (.aggL (.cons .val (.cons .lst (.cons .lst (.cons .lst (.cons .lst .nil)))))) (.cons .val (.cons .val .nil))) ?_;simp;repeat refine sdQ ?_
 refine hK _ ?_;clear hK K;refine tn (Q4 (st':=⟨Yu v1 [],Yl d_ p_ q_ [(3,rI v1)],4⟩) (QV 4) (Q0 (runQ hN fun K hK=>?_)));simp;repeat refine sdQ ?_
 refine hK _ ?_;clear hK K;refine tn (Q4 (st':=⟨Yu v1 [(8,.own 4 0 0)],Yl d_ p_ q_ [(3,rI v1),(4,.mix 1 [])],5⟩) (QV 5) (Q0 (Q0 (runQ hN fun K hK=>?_))));simp;repeat refine sdQ ?_
 refine hK _ (tn (Q4 (st':=⟨Yu v1 [(8,.own 4 0 0),(9,iV 0)],Yl d_ p_ q_ [(3,rI v1),(4,.mix 1 [])],5⟩) (QV 5) ?_));clear hK K;replace ⟨e2,h,h2⟩:=bind_some h;refine Qd (fun b2:List Int=>⟨[(8,.own 0 0 b2.length)],[(0,rI b2)],1⟩) (fun b2=>b2=e2) ?_ ?_
 ·refine Q5 (Qs h (fun s27:List Int × Int=>⟨Yu v1 (Y0l s27 []),Yl d_ p_ q_ [(3,rI v1),(4,rI s27.1)],5⟩) (Q3a ⟨Yu v1 [(8,.own 4 0 0),(9,iV 0)],Yl d_ p_ q_ [(3,rI v1),(4,rI [])],5⟩ (Wk.nils [] (by simp) (by simp) (by simp [nlA]) (by simp [entN,nlL,nlA,Cat.cells,Cone.cells,Fn.cells,UA,U1,IA,I1,LA,L1,BA,B1,EA,E1,E2,eB,eI,eL]) (by simp)) (QV 5)) ?_);clear h;intro k27 s27 c27 h hk27;refine Q0 (Q0 (runQ hN fun K hK=>?_));simp;repeat refine sdQ ?_
  refine hK _ ?_;clear hK K;refine tn (Q6 rfl (fun g=>?_) fun g=>?_)
  ·have g28:s27.2<(v1.length:Int):=gQ;clear g;replace h:=if_l g28 h;refine Q7 (tn (Q0 ?_));replace ⟨e29,h,h29⟩:=bind_some h;refine Qd (fun b29:List Int=>⟨Yu v1 [(8,.own 4 0 b29.length),(9,iV s27.2)],Yl d_ p_ q_ [(3,rI v1),(4,rI b29)],5⟩) (fun b29=>b29=e29) ?_ ?_
   ·refine Q5 (Q0 (runQ hN fun K hK=>?_));simp;(repeat refine sdQ ?_);refine hK _ ?_;clear hK K;refine tn (Q4 (st':=⟨Yu v1 (Y0l s27 [(10,.val (.bool true))]),Yl d_ p_ q_ [(3,rI v1),(4,rI s27.1)],5⟩) (QV 5) (Q0 (Q0 (runQ hN fun K hK=>?_))));simp;(repeat refine sdQ ?_);refine hK _ (tn (Q4 (st':=⟨Yu v1 (Y0l s27 [(10,.val (.bool true)),(11,iV 0)]),Yl d_ p_ q_ [(3,rI v1),(4,rI s27.1)],5⟩) (QV 5) ?_));clear hK K;replace ⟨e30,h,h30⟩:=bind_some h;refine Qd (fun b30:Bool=>⟨Yu v1 (Y0l s27 [(10,.val (.bool b30))]),Yl d_ p_ q_ [(3,rI v1),(4,rI s27.1)],5⟩) (fun b30=>b30=e30) ?_ ?_
    ·refine Q5 (Qs h (fun s39:Bool × Int=>⟨Yu v1 (Y0l s27 [(10,.val (.bool s39.1)),(11,iV s39.2)]),Yl d_ p_ q_ [(3,rI v1),(4,rI s27.1)],5⟩) (QV 5) ?_);clear h;intro k39 s39 c39 h hk39;refine Q0 (Q0 ?_);replace ⟨e40,h,h40⟩:=bind_some h;refine Qd (fun b40:Bool=>⟨Yu v1 (Y0l s27 [(10,.val (.bool s39.1)),(11,iV s39.2),(33,.val (.bool b40))]),Yl d_ p_ q_ [(3,rI v1),(4,rI s27.1)],5⟩) (fun b40=>b40=e40) ?_ ?_
     ·refine runQ hN fun K hK=>?_;simp;(repeat with_reducible refine sdQ ?_);refine Qi (fun g=>?_) (fun g=>?_)
      ·have g41:s39.2<(p_.l.length:Int):=gQ;clear g;replace h:=if_l g41 h;simp;(repeat refine sdQ ?_);refine hK _ ?_;exact jn (b:=s39.1) (Option.some.inj h) (QV 5)
      have g41:¬ (s39.2<(p_.l.length:Int)):=gQ;clear g;replace h:=if_r g41 h;simp;(repeat refine sdQ ?_);refine hK _ ?_;exact jn (b:=false) (Option.some.inj h) (QV 5)
     intro b40 hb40;have h:=h40;(try rw [← hb40] at h);clear h40;(try dsimp only at h);refine Q6 rfl (fun g=>?_) fun g=>?_
     ·have g42:b40=true:=gQ;clear g;replace h:=if_l g42 h;refine Q7 (tn (Q0 (Q5 (runQ hN fun K hK=>?_))));replace ⟨a43,h⟩:=Q2 h;replace ⟨a44,h⟩:=Q2 h;simp [at_I a43,at_I a44];(repeat with_reducible refine sdQ ?_);replace ⟨v45,hv45,h⟩:=bind_some h;refine Q1 (Q8e _ _ _ v45 hv45) (.cons (.aggL (.cons .val (.cons .lst (.cons .lst (.cons .lst (.cons .lst .nil)))))) (.cons .val (.cons .val .nil))) ?_;replace ⟨a46,h⟩:=Q2 h;simp [at_I a43,at_I a44,at_I a46];(repeat refine sdQ ?_);refine hK _ ?_;clear hK K;refine bn (tn (Q4 (st':=⟨Yu v1 (Y0l s27 [(10,.val (.bool (v45 == (ix p_.l s39.2)))),(11,iV s39.2)]),Yl d_ p_ q_ [(3,rI v1),(4,rI s27.1)],5⟩) (QV 5) (runQ hN fun K hK=>?_)));replace ⟨a47,h⟩:=Q2 h;simp [Qo a47];(repeat refine sdQ ?_);refine hK _ ?_;clear hK K;cases h;exact rn (s':=(v45 == (ix p_.l s39.2),s39.2+1)) hk39 (QV 5)
     have g42:¬ (b40=true):=gQ;clear g;replace h:=if_r g42 h;refine Qj (tx (lx (bh ?_)));cases h;exact jn (b:=s39.1) hk39 (QV 5)
    intro b30 hb30;have h:=h30;(try rw [← hb30] at h);clear h30;(try dsimp only at h);refine Q0 (runQ hN fun K hK=>?_);simp;(repeat refine sdQ ?_);refine hK _ ?_;clear hK K;refine tn (Q6 rfl (fun g=>?_) fun g=>?_)
    ·have g48:b30=true:=gQ;clear g;replace h:=if_l g48 h;refine runQ hN fun K hK=>?_;replace ⟨a49,h⟩:=Q2 h;replace ⟨a50,h⟩:=Q2 h;(try simp only [List.length_append,List.length_cons,List.length_nil] at a50);simp [at_I a49,a50];(repeat refine sdQ ?_);refine hK _ (bn ?_);clear hK K;exact jn (b:=s27.1++[ix v1 s27.2]) (Option.some.inj h) (Qq [(0,0),(1,1),(2,2),(3,3),(7,4)])
    have g48:¬ (b30=true):=gQ;clear g;replace h:=if_r g48 h;refine Q7 (bn ?_);exact jn (b:=s27.1) (Option.some.inj h) (QV 5)
   intro b29 hb29;have h:=h29;(try rw [← hb29] at h);clear h29;(try dsimp only at h);refine runQ hN fun K hK=>?_;replace ⟨a51,h⟩:=Q2 h;simp [Qo a51];(repeat refine sdQ ?_);refine hK _ ?_;clear hK K;cases h;exact rn (s':=(b29,s27.2+1)) hk27 (QV 5)
  have g28:¬ (s27.2<(v1.length:Int)):=gQ;clear g;replace h:=if_r g28 h;refine Qj (tx (lx (bh ?_)));cases h;exact jn (b:=s27.1) hk27 (Qq [(4,0)])
 intro b2 hb2;have h:=h2;try rw [← hb2] at h
 clear h2;try dsimp only at h
 refine Q0 (runQ hN fun K hK=>?_);simp;repeat refine sdQ ?_
 refine hK _ (tn (Q4 (st':=⟨[(6,.own 0 0 b2.length)],[(0,rI b2)],1⟩) (Qq [(0,0)]) (Qe ?_)));clear hK K;have hr:=Option.some.inj h;rw [← hr];refine ⟨_,(.tmp .nil),?_⟩;refine ⟨(.one rfl rfl .nil),[lI b2],[0],by simp [Cat.cells,Cone.cells,Fn.cells,UA,U1,IA,I1,LA,L1,BA,B1,EA,E1,E2,eB,eI,eL],by simp,(UpL.refl _)⟩
attribute [local simp] unk unA unE unT unC flat eL eI Qm Q2n Q1r Cone.cells Fn.cells
noncomputable def QC (d_:Fn) (list_:List Cone) (p_:Cone):Option Bool :=
 (Qx (σ:=Int) (ε:=Unit ⊕ Bool) (fun s7 =>
  if s7<(list_.length:Int) then
   ass (0≤s7∧s7<(list_.length:Int)) <|
   (Q2L d_ (gx list_ s7) p_).bind fun v10 =>
   if ¬ ((v10.length:Int)=1) then
    some (Ctl.ret (Sum.inr false))
   else
    ass (B64 (s7+1)) <|
    some (Ctl.next (s7+1))
  else
   some (Ctl.ret (Sum.inl ()))) fuel 0).bind fun e1 =>
 match e1 with
 | .inl b1 =>
  some true
 | .inr p1 =>
  some p1
@[simp] abbrev Y04 (a:List Cone) (b:List (Nat × AV)):List (Nat × AV):=(1,.lst true 2 (Es (Cone.cells true) a))::(3,.adr 0 0 0)::(5,.adr 1 0 0)::b
@[simp] abbrev Y0h (a:Fn) (b:Cone) (c:List (Nat × Ent)):List (Nat × Ent):=(0,.mix 12 [(Fn.cells true a)])::(1,.mix 2 [(Cone.cells true b)])::c
theorem Q3s (d_:Fn) (list_:List Cone) (p_:Cone) (r:Bool) (h:QC d_ list_ p_=some r):Contract Try.prog 28 [.agg (d_.cells true),.lst true 2 (Es (Cone.cells true) list_),.agg (p_.cells true)] (.val (.bool r)):=by
 refine Q8 (rvs:=[.tmp 6]) (rs:=[.val (.bool r)]) Try.func28 rfl rfl rfl rfl (by simp [Try.f28]) fun F hN hP=>?_;unfold QC at h;refine Q0 (runQ hN fun K hK=>?_);simp;repeat refine sdQ ?_
 refine hK _ ?_;clear hK K;refine tn (Q4 (st':=⟨Y04 list_ [],Y0h d_ p_ [],2⟩) (Qq [(0,0),(1,1)]) (Q0 (Q0 (runQ hN fun K hK=>?_))));simp;repeat refine sdQ ?_
 refine hK _ (tn (Q4 (st':=⟨Y04 list_ [(7,iV 0)],Y0h d_ p_ [],2⟩) (Qq [(0,0),(1,1)]) ?_));clear hK K;replace ⟨e1,h,h1⟩:=bind_some h;refine Qd (fun b1:Unit=>⟨[],[],0⟩) (fun b1=>Sum.inl b1=e1) ?_ ?_
 ·refine Q5 (Qs h (fun s7:Int=>⟨Y04 list_ [(7,iV s7)],Y0h d_ p_ [],2⟩) (Qq [(0,0),(1,1)]) ?_);clear h;intro k7 s7 c7 h hk7;refine Q0 (Q0 (runQ hN fun K hK=>?_));simp;repeat refine sdQ ?_
  refine hK _ ?_;clear hK K;refine tn (Q6 rfl (fun g=>?_) fun g=>?_)
  ·have g8:s7<(list_.length:Int):=gQ;clear g;replace h:=if_l g8 h;refine Q7 (tn (Q0 (Q5 (Q0 (runQ hN fun K hK=>?_)))));replace ⟨a9,h⟩:=Q2 h;simp [at_E (c:=(Cone.cells true)) a9];(repeat with_reducible refine sdQ ?_);replace ⟨v10,hv10,h⟩:=bind_some h;refine Q1 (Q8h _ _ _ v10 hv10) (.cons (.aggL (.cons .val (.cons .lst (.cons .lst (.cons .lst (.cons .lst (.cons .val (.cons .lst (.cons .lst (.cons .lst (.cons .lst (.cons .lst (.cons .lst .nil))))))))))))) (.cons (.aggL (.cons .val (.cons .lst .nil))) (.cons (.aggL (.cons .val (.cons .lst .nil))) .nil))) ?_;simp [at_E (c:=(Cone.cells true)) a9];(repeat refine sdQ ?_);refine hK _ ?_;clear hK K;refine tn (Q4 (st':=⟨Y04 list_ [(7,iV s7),(22,.val (.bool ((v10.length:Int) != 1)))],Y0h d_ p_ [],2⟩) (Qq [(0,0),(1,1)]) (Q6 rfl (fun g=>?_) fun g=>?_))
   ·have g11:¬ ((v10.length:Int)=1):=gQ;clear g;replace h:=if_l g11 h;refine Q0 (runQ hN fun K hK=>?_);simp;(repeat refine sdQ ?_);refine hK _ (tn (Q4 (st':=⟨[(6,.val (.bool false))],[],0⟩) (Qq []) (Qe (br (tr (lr (br (tr ?_))))))));clear hK K;cases h;have q:_=e1:=hk7;have h:=h1;rw [← q] at h;clear q;(try dsimp only at h);have hr:=Option.some.inj h;rw [← hr];refine ⟨_,(.tmp .nil),?_⟩;refine ⟨(.one rfl rfl .nil),[.val (.bool false)],[],by simp [Cone.cells,Fn.cells,UA,U1,IA,I1,LA,L1,BA,B1,EA,E1,E2,eB,eI,eL,Q9 _ (Cone.cells true) _ (fun _=>rfl)],by simp,(UpL.refl _)⟩
   have g11:¬ (¬ ((v10.length:Int)=1)):=gQ;clear g;replace h:=if_r g11 h;refine Q7 (bn (tn (runQ hN fun K hK=>?_)));replace ⟨a12,h⟩:=Q2 h;simp [Qo a12];(repeat refine sdQ ?_);refine hK _ ?_;clear hK K;cases h;exact rn (s':=s7+1) hk7 (Qq [(0,0),(1,1)])
  have g8:¬ (s7<(list_.length:Int)):=gQ;clear g;replace h:=if_r g8 h;refine Qj (tx (lx (bh ?_)));cases h;exact jn (b:=()) hk7 (Qq [])
 intro b1 hb1;have h:=h1;try rw [← hb1] at h
 clear h1;try dsimp only at h
 refine Q0 (runQ hN fun K hK=>?_);simp;repeat refine sdQ ?_
 refine hK _ (tn (Q4 (st':=⟨[(6,.val (.bool true))],[],0⟩) (Qq []) (Qe ?_)));clear hK K;have hr:=Option.some.inj h;rw [← hr];refine ⟨_,(.tmp .nil),?_⟩;refine ⟨(.one rfl rfl .nil),[.val (.bool true)],[],by simp [Cone.cells,Fn.cells,UA,U1,IA,I1,LA,L1,BA,B1,EA,E1,E2,eB,eI,eL,Q9 _ (Cone.cells true) _ (fun _=>rfl)],by simp,(UpL.refl _)⟩
attribute [local simp] unk unA unE unT unC flat eL eI Qm Q1r Fn.cells
noncomputable def Q2M (d_:Fn) (e_:Fn):Option (List Cone × List Cone × Int) :=
 (Q2b d_).bind fun v1 =>
 (Q2b e_).bind fun v2 =>
 (
  if ¬ (v1.2=0) then
   some true
  else
   some (v2.2 != 0):Option (Bool)).bind fun b3 =>
 if b3=true then
  some ([],[],3)
 else
  some (v1.1,v2.1,0)
theorem Q8i (d_:Fn) (e_:Fn) (r:List Cone × List Cone × Int) (h:Q2M d_ e_=some r):FContract Try.prog true 27 [.agg (d_.cells true),.agg (e_.cells true)] (.tup [.lst true 2 (Es (Cone.cells true) r.1),.lst true 2 (Es (Cone.cells true) r.2.1),iV r.2.2]):=by
 refine Q2A true (ts:=[4,5,6]) (rs:=[.lst true 2 (Es (Cone.cells true) r.1),.lst true 2 (Es (Cone.cells true) r.2.1),iV r.2.2]) Try.func27 rfl rfl rfl rfl (by simp [Try.f27]) fun F hN hP=>?_;unfold Q2M at h;refine Q0 (Qg [2,3] mo (by rw [hN];decide) fun K hK=>?_);simp;repeat refine sdQ ?_
 refine hK _ ?_;clear hK K;refine tn (Q4 (st':=⟨(2,.rptr (Fn.cells true d_))::Y00 e_ [],[],0⟩) (Qq []) (Q0 (Qg [] mo (by rw [hN];decide) fun K hK=>?_)));simp;repeat with_reducible refine sdQ ?_
 replace ⟨v1,hv1,h⟩:=bind_some h;refine Q3v (fz:=[]) true (Q5E _ v1 hv1) (PurK.ofN (.cons (.aggL (.cons .val (.cons .lst (.cons .lst (.cons .lst (.cons .lst (.cons .val (.cons .lst (.cons .lst (.cons .lst (.cons .lst (.cons .lst (.cons .lst .nil))))))))))))) .nil)) ?_;simp;repeat refine sdQ ?_
 refine hK _ ?_;clear hK K;refine tn (Q4 (st':=⟨Y00 e_ [(7,.lst true 2 (Es (Cone.cells true) v1.1)),(8,iV v1.2)],[],0⟩) (Qq []) (Q0 (Qg [] mo (by rw [hN];decide) fun K hK=>?_)));simp;repeat with_reducible refine sdQ ?_
 replace ⟨v2,hv2,h⟩:=bind_some h;refine Q3v (fz:=[]) true (Q5E _ v2 hv2) (PurK.ofN (.cons (.aggL (.cons .val (.cons .lst (.cons .lst (.cons .lst (.cons .lst (.cons .val (.cons .lst (.cons .lst (.cons .lst (.cons .lst (.cons .lst (.cons .lst .nil))))))))))))) .nil)) ?_;simp;repeat refine sdQ ?_
 refine hK _ (tn (Q4 (st':=⟨[(7,.lst true 2 (Es (Cone.cells true) v1.1)),(8,iV v1.2),(9,.lst true 2 (Es (Cone.cells true) v2.1)),(10,iV v2.2)],[],0⟩) (Qq []) (Q0 (Q0 ?_))));clear hK K;replace ⟨e3,h,h3⟩:=bind_some h;refine Qd (fun b3:Bool=>⟨[(7,.lst true 2 (Es (Cone.cells true) v1.1)),(9,.lst true 2 (Es (Cone.cells true) v2.1)),(26,.val (.bool b3))],[],0⟩) (fun b3=>b3=e3) ?_ ?_
 ·refine Qg [] mo (by rw [hN];decide) fun K hK=>?_;simp;repeat with_reducible refine sdQ ?_
  refine Q2f (fun g=>?_) (fun g=>?_)
  ·have g4:¬ (¬ (v1.2=0)):=gQ;clear g;replace h:=if_r g4 h;simp;(repeat refine sdQ ?_);refine hK _ ?_;exact jn (b:=v2.2 != 0) (Option.some.inj h) (Qq [])
  have g4:¬ (v1.2=0):=gQ;clear g;replace h:=if_l g4 h;simp;repeat refine sdQ ?_
  refine hK _ ?_;exact jn (b:=true) (Option.some.inj h) (Qq [])
 intro b3 hb3;have h:=h3;try rw [← hb3] at h
 clear h3;try dsimp only at h
 refine Q6 rfl (fun g=>?_) fun g=>?_
 ·have g5:b3=true:=gQ;clear g;replace h:=if_l g5 h;refine Q0 (Qg [] mo (by rw [hN];decide) fun K hK=>?_);simp;repeat refine sdQ ?_
  refine hK _ (tn (Q4 (st':=⟨[(4,nS),(5,nS),(6,iV 3)],[],0⟩) (Qq []) (Qe (tr ?_))));clear hK K;have hr:=Option.some.inj h;rw [← hr];exact (.two .nil (.two .nil (.two .val .nil)))
 have g5:¬ (b3=true):=gQ;clear g;replace h:=if_r g5 h;refine Q7 (tn (Q0 (Qg [] mo (by rw [hN];decide) fun K hK=>?_)));simp;repeat refine sdQ ?_
 refine hK _ (tn (Q4 (st':=⟨[(4,.lst true 2 (Es (Cone.cells true) v1.1)),(5,.lst true 2 (Es (Cone.cells true) v2.1)),(6,iV 0)],[],0⟩) (Qq []) (Qe ?_)));clear hK K;have hr:=Option.some.inj h;rw [← hr];exact (.two .lst (.two .lst (.two .val .nil)))
attribute [local simp] unk unA unE unT unC flat eL eI Qm Q2n Q1r Cone.cells Fn.cells
noncomputable def Q1z (p_:Cone) (f_:Fn):Option Cone :=
 ass (0≤p_.a∧p_.a<(f_.ob.length:Int)) <|
 (Q1P p_.l f_.ar).bind fun v2 =>
 some (⟨ix f_.ob p_.a,v2⟩:Cone)
theorem Q7C (p_:Cone) (f_:Fn) (r:Cone) (h:Q1z p_ f_=some r):Contract Try.prog 29 [.agg (p_.cells true),.agg (f_.cells true)] (.agg (r.cells true)):=by
 refine Q8 (rvs:=[.cell 4 60]) (rs:=[.agg (r.cells true)]) Try.func29 rfl rfl rfl rfl (by simp [Try.f29]) fun F hN hP=>?_;unfold Q1z at h;refine Q0 (runQ hN fun K hK=>?_);simp;repeat refine sdQ ?_
 refine hK _ ?_;clear hK K;refine tn (Q4 (st':=⟨YL [(4,.adr 2 0 0)],Y0b p_ [(1,.mix 12 [(Fn.cells true f_)]),(2,.mix 2 [[iV 0,nS]])],3⟩) (QV 3) (Q0 (runQ hN fun K hK=>?_)));replace ⟨a1,h⟩:=Q2 h;simp [at_I a1];repeat with_reducible refine sdQ ?_
 replace ⟨v2,hv2,h⟩:=bind_some h;refine Q1 (Q49 _ _ v2 hv2) (.cons .lst (.cons .lst .nil)) ?_;simp [at_I a1];repeat refine sdQ ?_
 refine hK _ (tn (Q4 (st':=⟨Y0n [],[(0,.mix 2 [[iV (ix f_.ob p_.a),.own 1 0 v2.length]]),(1,rI v2)],2⟩) (Qq [(2,0),(3,1)]) (Qe ?_)));clear hK K;have hr:=Option.some.inj h;rw [← hr];refine ⟨_,(.cell tf_60 rfl rfl rfl (by simp) (by simp) .nil),?_⟩;refine ⟨(.agg rfl .nil),[iV (ix f_.ob p_.a),lI v2],[1],by simp [Cone.cells,Fn.cells,UA,U1,IA,I1,LA,L1,BA,B1,EA,E1,E2,eB,eI,eL],by simp,(UpL.refl _)⟩
section
attribute [local simp] Qf QG Qu Q15 QD
def Cone.G (d:Fn) (p:Cone):Prop:=(0≤p.a∧p.a<d.t.n)∧p.l.length=d.ob.length∧LP d p.a p.l
theorem mem_coneL {d:Fn} (hd:d.Is) {p:Cone} (h:p∈Q19 d):p.G d:=by
 have n0:=hd.t.1.n0;simp only [Q19,Q1q,Q5G,List.mem_flatMap,List.mem_range,List.mem_map] at h;obtain ⟨x,hx,q,hq,rfl⟩:=h;obtain ⟨q1,q2,q3⟩:=Q7h hd hq;exact ⟨by simp only;omega,q1,q2⟩
noncomputable def cmL (d:Fn) (p q:Cone):List Int:=(homL d.t p.a q.a).filter fun f=>bo (∀ i:Nat,i<p.l.length→ix (rx d.t.cs f) (ix q.l i)=ix p.l i)
theorem Q6j {d:Fn} (hd:d.Is) {p q:Cone} (hp:p.G d) (hq:q.G d):Q2L d p q=some (cmL d p q)∧Q2j d p q=some (cmL d p q):=by
 obtain ⟨l1,l2,l3,l4,l5,l6,l7,l8⟩:=hd.fact;obtain ⟨p1,p2,p3⟩:=hp;obtain ⟨q1,q2,q3⟩:=hq;have hH:=Q51 d.t p.a q.a;have hthn:∀ k:Nat,k<(homL d.t p.a q.a).length→∀ i:Nat,i<p.l.length→Q1h d.t (ix (homL d.t p.a q.a) k) (ix q.l i)=some (ix (rx d.t.cs (ix (homL d.t p.a q.a) k)) (ix q.l i))∧Qp d.t (ix (homL d.t p.a q.a) k) (ix q.l i)=some (ix (rx d.t.cs (ix (homL d.t p.a q.a) k)) (ix q.l i)):=fun k hk i hi =>
  (Q8F (P:=fun f=>Ar d.t f p.a q.a) Q3N hk).thn hd.t (q3 i (by omega))
 constructor
 ·unfold Q2L;rw [(Q8r hd.t _ _).1];simp only [Option.bind_some];refine Q6l (homL d.t p.a q.a) (fun f=>∀ i:Nat,i<p.l.length→ix (rx d.t.cs f) (ix q.l i)=ix p.l i) (e:=cmL d p q) (by omega) (fun k acc hk hacc=>?_) ?_ rfl
  ·have hk2:(k:Int)<((homL d.t p.a q.a).length:Int):=(by omega);have hB:B64 ((k:Int)+1):=(by unfold B64;omega);have inner:∀ {β:Type} {K:Bool→Option β} {r:β},K (bo (∀ i:Nat,i<p.l.length→ix (rx d.t.cs (ix (homL d.t p.a q.a) k)) (ix q.l i)=ix p.l i))=some r →
     (Qx (σ:=Bool × Int) (ε:=Bool) (fun s39 =>
     (
      if s39.2<(p.l.length:Int) then
       some s39.1
      else
       some false:Option (Bool)).bind fun b40 =>
     if b40=true then
      ass (0≤(k:Int)∧(k:Int)<((homL d.t p.a q.a).length:Int)) <|
      ass (0≤s39.2∧s39.2<(q.l.length:Int)) <|
      (Q1h d.t (ix (homL d.t p.a q.a) k) (ix q.l s39.2)).bind fun v45 =>
      ass (0≤s39.2∧s39.2<(p.l.length:Int)) <|
      ass (B64 (s39.2+1)) <|
      some (Ctl.next (v45 == (ix p.l s39.2),s39.2+1))
     else
      some (Ctl.ret s39.1)) fuel (true,0)).bind K=some r:=by
    intro β K r hk';refine wh_bind p.l.length (fun i=>ix (rx d.t.cs (ix (homL d.t p.a q.a) k)) (ix q.l i)=ix p.l i) (by omega) (fun i hi=>?_) (by simp) (fun i=>?_) hk'
    ·have hi2:(i:Int)<(p.l.length:Int):=(by omega);show ((if (i:Int)<(p.l.length:Int) then some true else some false:Option Bool).bind _)=_;rw [if_pos hi2];simp only [Option.bind_some,if_true];rw [Q3 ⟨by omega,hk2⟩,Q3 (by omega),(hthn k hk i hi).1];simp only [Option.bind_some];rw [Q3 ⟨by omega,hi2⟩,Q3 (by unfold B64;omega)]
     by_cases h:ix (rx d.t.cs (ix (homL d.t p.a q.a) k)) (ix q.l i)=ix p.l i
     ·rw [QE h];simp [h]
     rw [Qw h];simp [h]
    by_cases h:(i:Int)<(p.l.length:Int)<;>simp [h]
   refine ⟨fun hs=>?_,fun hs=>?_⟩
   ·simp only;rw [if_pos hk2];simp only [Option.bind_assoc];refine inner ?_;rw [QE hs];simp only [if_true];rw [Q3 ⟨by omega,hk2⟩,Q3 (by simp;omega)];simp only [Option.bind_some];rw [Q3 hB]
   simp only;rw [if_pos hk2];simp only [Option.bind_assoc];refine inner ?_;rw [Qw hs];simp only [Bool.false_eq_true,if_false,Option.bind_some];rw [Q3 hB]
  simp only;rw [if_neg (by omega)];rfl
 unfold Q2j;rw [(Q8r hd.t _ _).2];simp only [Option.bind_some];refine Q6l (homL d.t p.a q.a) (fun f=>∀ i:Nat,i<p.l.length→ix (rx d.t.cs f) (ix q.l i)=ix p.l i) (e:=cmL d p q) (by omega) (fun k acc hk hacc=>?_) ?_ rfl
 ·have hk2:(k:Int)<((homL d.t p.a q.a).length:Int):=by omega
  have hB:B64 ((k:Int)+1):=by unfold B64;omega
  have inner:∀ {β:Type} {K:Unit ⊕ List Int→Option β} {r:β},((∀ i:Nat,i<p.l.length→ix (rx d.t.cs (ix (homL d.t p.a q.a) k)) (ix q.l i)=ix p.l i)→K (.inl ())=some r)→(¬ (∀ i:Nat,i<p.l.length→ix (rx d.t.cs (ix (homL d.t p.a q.a) k)) (ix q.l i)=ix p.l i)→K (.inr acc)=some r) →
    (Qx (σ:=Int) (ε:=Unit ⊕ (List Int)) (fun s33 =>
    if s33<(q.l.length:Int) then
     ass (0≤s33∧s33<(q.l.length:Int)) <|
     (Qp d.t (ix (homL d.t p.a q.a) k) (ix q.l s33)).bind fun v36 =>
     ass (0≤s33∧s33<(p.l.length:Int)) <|
     if ¬ (v36=(ix p.l s33)) then
      some (Ctl.ret (Sum.inr acc))
     else
      ass (B64 (s33+1)) <|
      some (Ctl.next (s33+1))
    else
     some (Ctl.ret (Sum.inl ()))) fuel 0).bind K=some r:=by
   intro β K r k1 k2;refine Q1c p.l.length (fun i=>ix (rx d.t.cs (ix (homL d.t p.a q.a) k)) (ix q.l i)=ix p.l i) (eb:=Sum.inr acc) (eg:=Sum.inl ()) (by omega) (fun i hi hs=>?_) (fun i hi hs=>?_) (by rw [if_neg (by omega)]) k2 k1
   ·rw [if_pos (by omega),Q3 (by omega),(hthn k hk i hi).2];simp only [Option.bind_some];rw [Q3 (by omega),if_neg (by simp [hs]),Q3 (by unfold B64;omega)]
   rw [if_pos (by omega),Q3 (by omega),(hthn k hk i hi).2];simp only [Option.bind_some];rw [Q3 (by omega),if_pos hs]
  refine ⟨fun hs=>?_,fun hs=>?_⟩
  ·simp only;rw [if_pos hk2,Q3 ⟨by omega,hk2⟩];simp only [Option.bind_assoc];refine inner (fun _=>?_) fun h=>absurd hs h;simp only;rw [Q3 (by simp;omega)];simp only [Option.bind_some];rw [Q3 hB]
  simp only;rw [if_pos hk2,Q3 ⟨by omega,hk2⟩];simp only [Option.bind_assoc];refine inner (fun h=>absurd h hs) fun _=>?_;simp only [Option.bind_some];rw [Q3 hB]
 simp only;rw [if_neg (by omega)];rfl
def unv (d:Fn) (L:List Cone) (p:Cone):Prop:=∀ i:Nat,i<L.length→(cmL d (gx L i) p).length=1
def GL (d:Fn) (L:List Cone):Prop:=L.length≤400∧∀ i:Nat,i<L.length→(gx L i).G d
theorem Q8s {d:Fn} (hd:d.Is) {L:List Cone} (hL:GL d L) {p:Cone} (hp:p.G d):QC d L p=some (bo (unv d L p))∧Q18 d L p=some (bo (unv d L p)):=by
 have h4:=hL.1;constructor
 ·unfold QC;refine Q1c L.length (fun i=>(cmL d (gx L i) p).length=1) (eb:=Sum.inr false) (eg:=Sum.inl ()) (by omega) (fun i hi hs=>?_) (fun i hi hs=>?_) (by rw [if_neg (by omega)]) (fun h=>by rw [Qw (p:=unv d L p) h]) fun h=>by rw [QE (p:=unv d L p) h]
  ·rw [if_pos (by omega),Q3 (by omega),(Q6j hd (hL.2 i hi) hp).1];simp only [Option.bind_some];rw [if_neg (by omega),Q3 (by unfold B64;omega)]
  rw [if_pos (by omega),Q3 (by omega),(Q6j hd (hL.2 i hi) hp).1];simp only [Option.bind_some];rw [if_pos (by omega)]
 unfold Q18;refine Q1c L.length (fun i=>(cmL d (gx L i) p).length=1) (eb:=Sum.inr false) (eg:=Sum.inl ()) (by omega) (fun i hi hs=>?_) (fun i hi hs=>?_) (by rw [if_neg (by omega)]) (fun h=>by rw [Qw (p:=unv d L p) h]) fun h=>by rw [QE (p:=unv d L p) h]
 ·rw [if_pos (by omega),Q3 (by omega),(Q6j hd (hL.2 i hi) hp).2];simp only [Option.bind_some];rw [if_neg (by omega),Q3 (by unfold B64;omega)]
 rw [if_pos (by omega),Q3 (by omega),(Q6j hd (hL.2 i hi) hp).2];simp only [Option.bind_some];rw [if_pos (by omega)]
theorem Q6e {d:Fn} (hd:d.Is) (h:(Q19 d).length≤400):GL d (Q19 d):=⟨h,fun i hi=>mem_coneL hd (by rw [Q4i _ hi];exact List.getElem_mem hi)⟩
def img (p:Cone) (f:Fn):Cone:=⟨ix f.ob p.a,Q1a p.l f.ar⟩
theorem Fn.Is.arr {f:Fn} (hf:f.Is) {a x y:Int} (h:Ar f.s a x y):Ar f.t (ix f.ar a) (ix f.ob x) (ix f.ob y):=by
 obtain ⟨a',rfl⟩:=Int.eq_ofNat_of_zero_le h.1.1;have h1:=h.1.2;have la:=hf.la;have h2:=hf.ar a' (by omega);have h3:=hf.ends a' (by omega);rw [h.2.1,h.2.2] at h3;exact ⟨h2,h3⟩
theorem Fn.Is.obj {f:Fn} (hf:f.Is) {x:Int} (h:0≤x∧x<f.s.n):0≤ix f.ob x∧ix f.ob x<f.t.n:=by
 obtain ⟨x',rfl⟩:=Int.eq_ofNat_of_zero_le h.1;have lo:=hf.lo;exact hf.ob x' (by omega)
theorem Q7K {d f:Fn} (hd:d.Is) (hf:f.Is) (h:d.t=f.s) {p:Cone} (hp:p.G d):Q1z p f=some (img p f)∧Q20 p f=some (img p f)∧(img p f).G (QO d f):=by
 obtain ⟨l1,l2,l3,l4,l5,l6,l7,l8⟩:=hd.fact;obtain ⟨p1,p2,p3⟩:=hp;have lo:=hf.lo;have la:=hf.la;rw [h] at p1;have hA:∀ i:Nat,i<p.l.length→Ar f.s (ix p.l i) p.a (ix d.ob i):=fun i hi=>by rw [← h];exact p3 i hi
 have hm:∀ y∈p.l,0≤y∧y<(f.ar.length:Int):=Q5k fun j hj=>by
  have:=(hA j hj).1;omega
 refine ⟨?_,?_,⟨hf.obj p1,by simp [img,Q1a,QO];omega,fun i hi=>?_⟩⟩
 ·unfold Q1z Q1P;rw [Q3 (by omega),Q3 (by omega),Q3 hm];rfl
 ·unfold Q20 Q3k;rw [Q3 (by omega),Q3 (by omega),Q3 hm];rfl
 have hi':i<p.l.length:=by simpa [img,Q1a] using hi
 show Ar f.t (ix (Q1a p.l f.ar) i) (ix f.ob p.a) (ix (Q1a d.ob f.ob) i);rw [Q1K _ _ (by omega) (by omega),Q1K _ _ (by omega) (by omega)];exact hf.arr (hA i hi')
theorem e_both {d e:Fn} (hd:d.Is) (he:e.Is):Q2M d e=some (if (Q19 d).length≤400∧(Q19 e).length≤400 then (Q19 d,Q19 e,0) else ([],[],3)):=by
 unfold Q2M;rw [e_clist hd,e_clist he]
 by_cases h1:(Q19 d).length≤400<;>by_cases h2:(Q19 e).length≤400<;>simp [h1,h2]
end
attribute [local simp] unk unA unE unT unC flat eL eI Qm QK Q1r Cat.cells Fn.cells
noncomputable def Q1Q (d_:Fn) (f_:Fn):Option (Fn × Int) :=
 (
  (Q36 d_).bind fun v2 =>
  if ¬ (v2=true) then
   some true
  else
   (Q36 f_).bind fun v4 =>
   some (!v4):Option (Bool)).bind fun b1 =>
 if b1=true then
  some ((⟨(⟨0,[],[],[],[]⟩:Cat),(⟨0,[],[],[],[]⟩:Cat),[],[]⟩:Fn),1)
 else
  (Q3l d_.t f_.s).bind fun v6 =>
  if ¬ (v6=true) then
   some ((⟨(⟨0,[],[],[],[]⟩:Cat),(⟨0,[],[],[],[]⟩:Cat),[],[]⟩:Fn),5)
  else
   (Q2J d_ f_).bind fun v8 =>
   some (v8,0)
theorem Q8j (d_:Fn) (f_:Fn) (r:Fn × Int) (h:Q1Q d_ f_=some r):Contract Try.prog 14 (Y0H d_ f_ []) (.tup [.agg (r.1.cells true),iV r.2]):=by
 refine Q8 (rvs:=[.cell 4 33,.tmp 5]) (rs:=[.agg (r.1.cells true),iV r.2]) Try.func14 rfl rfl rfl rfl (by simp [Try.f14]) fun F hN hP=>?_;unfold Q1Q at h;refine Q0 (runQ hN fun K hK=>?_);simp;repeat refine sdQ ?_
 refine hK _ (tn (Q4 (st':=⟨YL [(4,.adr 2 0 0)],Y8 d_ f_ (Y08 []),3⟩) (QV 3) (Q0 (Q5 (Q0 ?_)))));clear hK K;replace ⟨e1,h,h1⟩:=bind_some h;refine Qd (fun b1:Bool=>⟨YL [(4,.adr 2 0 0),(6,.val (.bool b1))],Y8 d_ f_ (Y08 []),3⟩) (fun b1=>b1=e1) ?_ ?_
 ·refine runQ hN fun K hK=>?_;simp;repeat with_reducible refine sdQ ?_
  replace ⟨v2,hv2,h⟩:=bind_some h;refine Q1 (Q7A _ v2 hv2) (.cons (.aggL (.cons .val (.cons .lst (.cons .lst (.cons .lst (.cons .lst (.cons .val (.cons .lst (.cons .lst (.cons .lst (.cons .lst (.cons .lst (.cons .lst .nil))))))))))))) .nil) ?_;simp;repeat with_reducible refine sdQ ?_
  refine Qi (fun g=>?_) (fun g=>?_)
  ·have g3:¬ (¬ (v2=true)):=gQ;clear g;replace h:=if_r g3 h;simp;(repeat with_reducible refine sdQ ?_);replace ⟨v4,hv4,h⟩:=bind_some h;refine Q1 (Q7A _ v4 hv4) (.cons (.aggL (.cons .val (.cons .lst (.cons .lst (.cons .lst (.cons .lst (.cons .val (.cons .lst (.cons .lst (.cons .lst (.cons .lst (.cons .lst (.cons .lst .nil))))))))))))) .nil) ?_;simp;(repeat refine sdQ ?_);refine hK _ ?_;exact jn (b:=!v4) (Option.some.inj h) (QV 3)
  have g3:¬ (v2=true):=gQ;clear g;replace h:=if_l g3 h;simp;repeat refine sdQ ?_
  refine hK _ ?_;exact jn (b:=true) (Option.some.inj h) (QV 3)
 intro b1 hb1;have h:=h1;try rw [← hb1] at h
 clear h1;try dsimp only at h
 refine Q6 rfl (fun g=>?_) fun g=>?_
 ·have g5:b1=true:=gQ;clear g;replace h:=if_l g5 h;refine Q0 (runQ hN fun K hK=>?_);simp;repeat refine sdQ ?_
  refine hK _ (tn (Q4 (st':=⟨Y0n [(5,iV 1)],YV [],1⟩) (Qq [(2,0)]) (Qe (br (tr ?_)))));clear hK K;have hr:=Option.some.inj h;rw [← hr];refine ⟨_,(.cell Q5x rfl rfl rfl (by simp) (by simp) (.tmp .nil)),?_⟩;refine ⟨(.agg rfl (.one rfl rfl .nil)),[iV 0,nS,nS,nS,nS,iV 0,nS,nS,nS,nS,nS,nS,iV 1],[],by simp [Cat.cells,Fn.cells,UA,U1,IA,I1,LA,L1,BA,B1,EA,E1,E2,eB,eI,eL],by simp,(.cons .refl (.cons .nil (.cons .nil (.cons .nil (.cons .nil (.cons .refl (.cons .nil (.cons .nil (.cons .nil (.cons .nil (.cons .nil (.cons .nil (.cons .refl .nil)))))))))))))⟩
 have g5:¬ (b1=true):=gQ;clear g;replace h:=if_r g5 h;refine Q0 (runQ hN fun K hK=>?_);simp;repeat with_reducible refine sdQ ?_
 replace ⟨v6,hv6,h⟩:=bind_some h;refine Q1 (Q8d _ _ v6 hv6) (.cons (.aggL (.cons .val (.cons .lst (.cons .lst (.cons .lst (.cons .lst .nil)))))) (.cons (.aggL (.cons .val (.cons .lst (.cons .lst (.cons .lst (.cons .lst .nil)))))) .nil)) ?_;simp;repeat refine sdQ ?_
 refine hK _ ?_;clear hK K;refine tn (Q4 (st':=⟨YL [(4,.adr 2 0 0),(16,.val (.bool (!v6)))],Y8 d_ f_ (Y08 []),3⟩) (QV 3) (Q6 rfl (fun g=>?_) fun g=>?_))
 ·have g7:¬ (v6=true):=gQ;clear g;replace h:=if_l g7 h;refine Q0 (runQ hN fun K hK=>?_);simp;repeat refine sdQ ?_
  refine hK _ (tn (Q4 (st':=⟨Y0n [(5,iV 5)],YV [],1⟩) (Qq [(2,0)]) (Qe (br (tr ?_)))));clear hK K;have hr:=Option.some.inj h;rw [← hr];refine ⟨_,(.cell Q5x rfl rfl rfl (by simp) (by simp) (.tmp .nil)),?_⟩;refine ⟨(.agg rfl (.one rfl rfl .nil)),[iV 0,nS,nS,nS,nS,iV 0,nS,nS,nS,nS,nS,nS,iV 5],[],by simp [Cat.cells,Fn.cells,UA,U1,IA,I1,LA,L1,BA,B1,EA,E1,E2,eB,eI,eL],by simp,(.cons .refl (.cons .nil (.cons .nil (.cons .nil (.cons .nil (.cons .refl (.cons .nil (.cons .nil (.cons .nil (.cons .nil (.cons .nil (.cons .nil (.cons .refl .nil)))))))))))))⟩
 have g7:¬ (¬ (v6=true)):=gQ;clear g;replace h:=if_r g7 h;refine Q7 (bn (tn (Q0 (runQ hN fun K hK=>?_))));simp;repeat with_reducible refine sdQ ?_
 replace ⟨v8,hv8,h⟩:=bind_some h;refine Q1 (Q8f _ _ v8 hv8) (.cons (.aggL (.cons .val (.cons .lst (.cons .lst (.cons .lst (.cons .lst (.cons .val (.cons .lst (.cons .lst (.cons .lst (.cons .lst (.cons .lst (.cons .lst .nil))))))))))))) (.cons (.aggL (.cons .val (.cons .lst (.cons .lst (.cons .lst (.cons .lst (.cons .val (.cons .lst (.cons .lst (.cons .lst (.cons .lst (.cons .lst (.cons .lst .nil))))))))))))) .nil)) ?_;simp;repeat refine sdQ ?_
 refine hK _ (tn (Q4 (st':=⟨Y0n [(5,iV 0)],Y5 v8 [],11⟩) (Qq [(2,0),(4,1),(5,2),(6,3),(7,4),(9,5),(10,6),(11,7),(12,8),(13,9),(14,10)]) (Qe ?_)));clear hK K;have hr:=Option.some.inj h;rw [← hr];refine ⟨_,(.cell Q5x rfl rfl rfl (by simp) (by simp) (.tmp .nil)),?_⟩;refine ⟨(.agg rfl (.one rfl rfl .nil)),[iV v8.s.n,lI v8.s.fr,lI v8.s.to,lI v8.s.id,.lst true 1 (Ls v8.s.cs),iV v8.t.n,lI v8.t.fr,lI v8.t.to,lI v8.t.id,.lst true 1 (Ls v8.t.cs),lI v8.ob,lI v8.ar,iV 0],[1,2,3,4,5,6,7,8,9,10],by simp [Cat.cells,Fn.cells,UA,U1,IA,I1,LA,L1,BA,B1,EA,E1,E2,eB,eI,eL],by simp,(UpL.refl _)⟩
section
attribute [local simp] Qf QG Qu Q15 QD
theorem e_code14 (d f:Fn):(¬ (d.Is∧f.Is)→(Q1Q d f=some (zeroF,1)∧QW [d,f]=some false))∧(d.Is∧f.Is→QW [d,f]=some true∧(¬ d.t=f.s→Q1Q d f=some (zeroF,5)∧QN d.t f.s=some false)∧(d.t=f.s→Q1Q d f=some (QO d f,0)∧QN d.t f.s=some true)):=by
 unfold Q1Q Q3l;rw [Q6i [d,f] (by simp),e_l06Is,e_l06Is];have hb:(∀ g∈[d,f],g.Is)↔(d.Is∧f.Is):=by simp
 refine ⟨fun h=>?_,fun h=>?_⟩
 ·rw [Qw fun q=>h (hb.1 q)]
  by_cases h1:d.Is
  ·have h2:¬ f.Is:=fun q=>h ⟨h1,q⟩;rw [QE h1,Qw h2];simp [zeroF]
  rw [Qw h1];simp [zeroF]
 rw [QE (hb.2 h),QE h.1,QE h.2,e_sameCat h.1.t];refine ⟨rfl,fun h3=>?_,fun h3=>?_⟩
 ·rw [Qw h3];simp [zeroF,h3]
 rw [QE h3];simp only [Option.bind_some,not_true_eq_false,if_false,Bool.not_true,Bool.false_eq_true];rw [e_l06Then h.1 h.2 h3];simp [h3]
end
end Go.Vc.T
