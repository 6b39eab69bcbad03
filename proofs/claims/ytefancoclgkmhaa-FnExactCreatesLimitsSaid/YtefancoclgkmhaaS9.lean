/- A part of the proof: a verified generator of conditions, and what each function of the program does. -/
import Derived.Test.YtefancoclgkmhaaS8
set_option maxRecDepth 100000
set_option maxHeartbeats 4000000
set_option linter.unusedSimpArgs false
set_option linter.unusedVariables false

namespace Go.Vc.T
open Go Go.Vc Go.Proofs
attribute [local simp] unk unA unE unT unC flat eL eI Qo QR Q2f Q1l Cat.cells Cone.cells Fn.cells
noncomputable def QA (k:Nat) (q0_:Int) (q1_:Fn) (q2_:List Cone) (q3_:Int) (q4_:List Int) (q5_:Cat) (q6_:List Int) (q7_:List Int) (q8_:Int) (q9_:Fn):Option (List Cone × List Int × Bool):=match k with
 | 0=>none
 | k+1 =>
  if q0_=q1_.s.n then
   (
    (Q2x q4_).bind fun v4 =>
    ass ((q2_++[(⟨q3_,v4⟩:Cone)]).length≤1073741824) <|
    some (q2_++[(⟨q3_,v4⟩:Cone)],decide (((q2_++[(⟨q3_,v4⟩:Cone)]).length:Int)≤400)):Option (List Cone × Bool)).bind fun v6 =>
   some (v6.1,q4_,v6.2)
  else
   ass (0≤q0_∧q0_<(q9_.ob.length:Int)) <|
   (Qz q5_ q8_ (ix q9_.ob q0_)).bind fun v8 =>
   (Qw (σ:=List Cone × List Int × Int) (ε:=(List Cone × List Int) ⊕ (List Cone × List Int × Bool)) (fun s42 =>
    if s42.2.2<(v8.length:Int) then
     (
      ass (0≤s42.2.2∧s42.2.2<(v8.length:Int)) <|
      ass (0≤q0_∧q0_<(s42.2.1.length:Int)) <|
      (Qw (σ:=Int) (ε:=Unit ⊕ (List Cone × List Int)) (fun s59 =>
       if s59<(q9_.ar.length:Int) then
        ass (0≤s59∧s59<(q9_.ar.length:Int)) <|
        ass (0≤s59∧s59<(q1_.s.fr.length:Int)) <|
        ass (0≤s59∧s59<(q1_.s.to.length:Int)) <|
        (
         if (if ix q1_.s.to s59 > ix q1_.s.fr s59 then ix q1_.s.to s59 else ix q1_.s.fr s59)=q0_ then
          ass (0≤ix q1_.s.fr s59∧ix q1_.s.fr s59<((s42.2.1.set q0_.toNat (ix v8 s42.2.2)).length:Int)) <|
          (Qr q5_ (ix (s42.2.1.set q0_.toNat (ix v8 s42.2.2)) (ix q1_.s.fr s59)) (ix q9_.ar s59)).bind fun v67 =>
          ass (0≤ix q1_.s.to s59∧ix q1_.s.to s59<((s42.2.1.set q0_.toNat (ix v8 s42.2.2)).length:Int)) <|
          some (v67 != (ix (s42.2.1.set q0_.toNat (ix v8 s42.2.2)) (ix q1_.s.to s59)))
         else
          some false:Option (Bool)).bind fun b64 =>
        if b64=true then
         some (Ctl.ret (Sum.inr (s42.1,s42.2.1.set q0_.toNat (ix v8 s42.2.2))))
        else
         ass (B64 (s59+1)) <|
         some (Ctl.next (s59+1))
       else
        some (Ctl.ret (Sum.inl ()))) fuel 0).bind fun e47 =>
      match e47 with
      | .inl b47 =>
       ass (B64 (q0_+1)) <|
       (QA k (q0_+1) q1_ s42.1 q3_ (s42.2.1.set q0_.toNat (ix v8 s42.2.2)) q5_ q6_ q7_ q8_ q9_).bind fun v72 =>
       if ¬ (v72.2.2=true) then
        some (Sum.inr (v72.1,v72.2.1,false))
       else
        some (Sum.inl (v72.1,v72.2.1))
      | .inr p47 =>
       some (Sum.inl p47):Option ((List Cone × List Int) ⊕ (List Cone × List Int × Bool))).bind fun e44 =>
     match e44 with
     | .inl b44 =>
      ass (B64 (s42.2.2+1)) <|
      some (Ctl.next (b44.1,b44.2,s42.2.2+1))
     | .inr p44 =>
      some (Ctl.ret (Sum.inr p44))
    else
     some (Ctl.ret (Sum.inl (s42.1,s42.2.1)))) fuel (q2_,q4_,0)).bind fun e9 =>
   match e9 with
   | .inl b9 =>
    some (b9.1,b9.2,true)
   | .inr p9 =>
    some p9
@[simp] abbrev Y0v (a:Fn) (b:List (AV)):List (AV):=.rptr (Fn.cells true a)::b
@[simp] abbrev Y0w (a:List (AV)):List (AV):=.fn 87 [.adr 0 0 0,.adr 1 0 0,.adr 5 0 0,.adr 7 0 0,.adr 8 0 0,.adr 9 0 0,.adr 10 0 0]::a
@[simp] abbrev Y1 (a:Cat) (b c:List Int) (d:Int) (e:Fn) (f:List (Nat × Ent)):List (Nat × Ent):=(7,.mix 1 [[.rptr [iV a.n,lI a.fr,lI a.to,lI a.id,.lst true 1 (Ls a.cs),lI b,lI c]]])::(8,.mix 1 [[iV d]])::(9,.mix 1 [(Y0v e [])])::(10,.mix 1 [(Y0w [])])::f
@[simp] abbrev Y5 (a:Fn) (b:List (Nat × Ent)):List (Nat × Ent):=(0,.mix 1 [(Y0v a [])])::(1,.mix 1 [[.fn 80 [.adr 2 0 0,.adr 4 0 0]]])::b
@[simp] abbrev Yk (a:Int) (b:List Int) (c:List Cone × List Int × Int) (d:List (Nat × AV)):List (Nat × AV):=(0,iV a)::(1,.adr 0 0 0)::(3,.adr 5 0 0)::(4,.adr 7 0 0)::(6,.adr 9 0 0)::(7,.adr 10 0 0)::(34,.own 12 0 b.length)::(35,iV (b.length:Int))::(36,iV c.2.2)::d
@[simp] abbrev Ym (a:List Cone × List Int × Int) (b c:Int) (d:List Int) (e:List (Nat × Ent)):List (Nat × Ent):=(2,.mix 1 [[.own 11 0 a.1.length]])::(4,.mix 1 [[iV b]])::(5,.mix 1 [[.own 6 0 ((a.2.1.set c.toNat (ix d a.2.2)).length)]])::(6,rI (a.2.1.set c.toNat (ix d a.2.2)))::e
@[simp] abbrev Yz (a:Int) (b:List Int) (c:List (Nat × Ent)):List (Nat × Ent):=(4,.mix 1 [[iV a]])::(5,.mix 1 [[.own 6 0 b.length]])::(6,rI b)::c
@[simp] abbrev YF (a:List Cone × List Int) (b:Int) (c:List (Nat × Ent)):List (Nat × Ent):=(2,.mix 1 [[.own 11 0 a.1.length]])::(4,.mix 1 [[iV b]])::(5,.mix 1 [[.own 6 0 a.2.length]])::(6,rI a.2)::c
@[simp] abbrev YP (a:List Cone × List Int × Int) (b:List Int) (c:List (Nat × Ent)):List (Nat × Ent):=(11,.row 2 (Es (Cone.cells true) a.1))::(12,rI b)::c
@[simp] abbrev YQ (a:Int) (b:List (Nat × AV)):List (Nat × AV):=(0,iV a)::(1,.adr 0 0 0)::(3,.adr 5 0 0)::(4,.adr 7 0 0)::(6,.adr 9 0 0)::(7,.adr 10 0 0)::b
@[simp] abbrev Y0h (a:Fn) (b:List (Nat × AV)):List (Nat × AV):=(47,lI a.ar)::(48,iV (a.ar.length:Int))::b
@[simp] abbrev Y0l (a:List Cone) (b:List (Nat × Ent)):List (Nat × Ent):=(2,.mix 1 [[.own 3 0 a.length]])::(3,.row 2 (Es (Cone.cells true) a))::b
theorem Q4M:∀ (k:Nat) (q0_:Int) (q1_:Fn) (q2_:List Cone) (q3_:Int) (q4_:List Int) (q5_:Cat) (q6_:List Int) (q7_:List Int) (q8_:Int) (q9_:Fn) (vR:List Cone × List Int × Bool) (h:QA k q0_ q1_ q2_ q3_ q4_ q5_ q6_ q7_ q8_ q9_=some vR),ICon Try.prog 87 [iV q0_,.adr 0 0 0,.adr 1 0 0,.adr 5 0 0,.adr 7 0 0,.adr 8 0 0,.adr 9 0 0,.adr 10 0 0] (fun id=>look id [(0,.mix 1 [(Y0v q1_ [])]),(1,.mix 1 [[.fn 80 [.adr 2 0 0,.adr 4 0 0]]]),(2,.mix 1 [[.own 3 0 q2_.length]]),(3,.row 2 (Es (Cone.cells true) q2_)),(4,.mix 1 [[iV q3_]]),(5,.mix 1 [[.own 6 0 q4_.length]]),(6,rI q4_),(7,.mix 1 [[.rptr [iV q5_.n,lI q5_.fr,lI q5_.to,lI q5_.id,.lst true 1 (Ls q5_.cs),lI q6_,lI q7_]]]),(8,.mix 1 [[iV q8_]]),(9,.mix 1 [(Y0v q9_ [])]),(10,.mix 1 [(Y0w [])])]) 11 { v:=.val (.bool vR.2.2),set:=[(2,.mix 1 [[.own 11 0 vR.1.length]]),(5,.mix 1 [[.own 6 0 vR.2.1.length]]),(6,rI vR.2.1)],del:=[3],new:=[(11,.row 2 (Es (Cone.cells true) vR.1))],cnt:=1 }:=by
 intro k
 induction k with
 | zero =>
  intro q0_ q1_ q2_ q3_ q4_ q5_ q6_ q7_ q8_ q9_ vR h;simp [QA] at h
 | succ k ih =>
  intro q0_ q1_ q2_ q3_ q4_ q5_ q6_ q7_ q8_ q9_ vR h;refine Q1U (ts:=[9]) (H:=[(0,.mix 1 [(Y0v q1_ [])]),(1,.mix 1 [[.fn 80 [.adr 2 0 0,.adr 4 0 0]]]),(2,.mix 1 [[.own 3 0 q2_.length]]),(3,.row 2 (Es (Cone.cells true) q2_)),(4,.mix 1 [[iV q3_]]),(5,.mix 1 [[.own 6 0 q4_.length]]),(6,rI q4_),(7,.mix 1 [[.rptr [iV q5_.n,lI q5_.fr,lI q5_.to,lI q5_.id,.lst true 1 (Ls q5_.cs),lI q6_,lI q7_]]]),(8,.mix 1 [[iV q8_]]),(9,.mix 1 [(Y0v q9_ [])]),(10,.mix 1 [(Y0w [])])]) Try.func87 rfl rfl rfl (by simp [Try.f87]) (by simp) (Q50 (by simp)) (newI (by rfl)) fun F hN hP=>?_;unfold QA at h;try dsimp only at h
  refine Q0 (Qk [] mo (by rw [hN];decide) fun K hK=>?_);simp;repeat refine sdQ ?_
  refine hK _ ?_;clear hK K;refine tn (Q3 (st':=⟨[(0,iV q0_),(1,.adr 0 0 0),(2,.adr 1 0 0),(3,.adr 5 0 0),(4,.adr 7 0 0),(5,.adr 8 0 0),(6,.adr 9 0 0),(7,.adr 10 0 0)],Y5 q1_ (Y0l q2_ (Yz q3_ q4_ (Y1 q5_ q6_ q7_ q8_ q9_ []))),11⟩) (Wk.rP _ [(0,0),(1,1),(2,2),(3,3),(4,4),(5,5),(6,6),(7,7),(8,8),(9,9),(10,10)] hP (by rfl) (by simp [hhOk,back,Cat.cells,Cone.cells,Fn.cells,UA,U1,IA,I1,LA,L1,BA,B1,EA,E1,E2,eB,eI,eL,Qa _ (Cone.cells true) _ (fun _=>rfl)])) (w_scope (Q0 (Q0 (Qk [] mo (by rw [hN];decide) fun K hK=>?_)))));simp;repeat refine sdQ ?_
  refine hK _ ?_;clear hK K;refine tn (Q6 rfl (fun g=>?_) fun g=>?_)
  ·have g2:q0_=q1_.s.n:=gQ;clear g;replace h:=if_l g2 h;refine Q0 (Q2h [] mo (by rw [hN];decide) fun K hK=>?_);simp;(repeat with_reducible refine sdQ ?_);replace ⟨v6,hv6,h⟩:=bind_some h;refine Q2j (fz:=[]) (Q1U (ts:=[4]) (e:={ v:=.val (.bool v6.2),set:=[(2,.mix 1 [[.own 11 0 v6.1.length]])],del:=[3],new:=[(11,.row 2 (Es (Cone.cells true) v6.1))],cnt:=1 }) Try.func80 rfl rfl rfl (by simp [Try.f80]) (by simp) (Q50 (by simp)) (newI (by rfl)) fun F hN hP=>?_) ?_
   ·clear h;have h:=hv6;clear hv6;refine Q0 (Qk [] mo (by rw [hN];decide) fun K hK=>?_);simp;(repeat refine sdQ ?_);refine hK _ ?_;clear hK K;refine tn (Q3 (st':=⟨[(0,.own 6 0 q4_.length),(1,.adr 2 0 0),(2,.adr 4 0 0)],Y5 q1_ (Y0l q2_ (Yz q3_ q4_ (Y1 q5_ q6_ q7_ q8_ q9_ []))),11⟩) (Wk.rP _ [(0,0),(1,1),(2,2),(3,3),(4,4),(5,5),(6,6),(7,7),(8,8),(9,9),(10,10)] hP (by rfl) (by simp [hhOk,back,Cat.cells,Cone.cells,Fn.cells,UA,U1,IA,I1,LA,L1,BA,B1,EA,E1,E2,eB,eI,eL,Qa _ (Cone.cells true) _ (fun _=>rfl)])) (Q0 (Qk [] mo (by rw [hN];decide) fun K hK=>?_)));simp;(repeat with_reducible refine sdQ ?_);replace ⟨v4,hv4,h⟩:=bind_some h;refine QD (fz:=[]) (Q5o _ v4 hv4) (.cons .w .nil) ?_;replace ⟨a5,h⟩:=Q2 h;(try simp only [List.length_append,List.length_cons,List.length_nil] at a5);simp [a5];(repeat refine sdQ ?_);refine hK _ ?_;clear hK K;refine tn (Q3 (st':=⟨[(1,.adr 2 0 0)],Y5 q1_ ((2,.mix 1 [[.own 11 0 ((q2_++[(⟨q3_,v4⟩:Cone)]).length)]])::Yz q3_ q4_ (Y1 q5_ q6_ q7_ q8_ q9_ [(11,.row 2 (Es (Cone.cells true) (q2_++[(⟨q3_,v4⟩:Cone)])))])),12⟩) (Wk.rP _ [(0,0),(1,1),(2,2),(13,11),(4,4),(5,5),(6,6),(7,7),(8,8),(9,9),(10,10),(3,3)] hP (by rfl) (by simp [hhOk,back,Cat.cells,Cone.cells,Fn.cells,UA,U1,IA,I1,LA,L1,BA,B1,EA,E1,E2,eB,eI,eL,Qa _ (Cone.cells true) _ (fun _=>rfl)])) (Q0 (Qk [] mo (by rw [hN];decide) fun K hK=>?_)));simp;(repeat refine sdQ ?_);refine hK _ (tn ?_);clear hK K
    refine Q3 (st':=⟨[(4,.val (.bool (decide (((q2_++[(⟨q3_,v4⟩:Cone)]).length:Int)≤400))))],Y5 q1_ ((2,.mix 1 [[.own 11 0 ((q2_++[(⟨q3_,v4⟩:Cone)]).length)]])::Yz q3_ q4_ (Y1 q5_ q6_ q7_ q8_ q9_ [(11,.row 2 (Es (Cone.cells true) (q2_++[(⟨q3_,v4⟩:Cone)])))])),12⟩) (Wk.rP _ [(0,0),(1,1),(2,2),(11,11),(4,4),(5,5),(6,6),(7,7),(8,8),(9,9),(10,10),(3,3)] hP (by rfl) (by simp [hhOk,back,Cat.cells,Cone.cells,Fn.cells,UA,U1,IA,I1,LA,L1,BA,B1,EA,E1,E2,eB,eI,eL,Qa _ (Cone.cells true) _ (fun _=>rfl)])) (Qe ?_);cases h;first|refine iw_r (st':=⟨[(4,.val (.bool (decide (((q2_++[(⟨q3_,v4⟩:Cone)]).length:Int)≤400))))],Y5 q1_ ((2,.mix 1 [[.own 11 0 ((q2_++[(⟨q3_,v4⟩:Cone)]).length)]])::Yz q3_ q4_ (Y1 q5_ q6_ q7_ q8_ q9_ [(11,.row 2 (Es (Cone.cells true) (q2_++[(⟨q3_,v4⟩:Cone)])))])),12⟩) ?_ ?_|refine iw_n (st':=⟨[(4,.val (.bool (decide (((q2_++[(⟨q3_,v4⟩:Cone)]).length:Int)≤400))))],Y5 q1_ ((2,.mix 1 [[.own 11 0 ((q2_++[(⟨q3_,v4⟩:Cone)]).length)]])::Yz q3_ q4_ (Y1 q5_ q6_ q7_ q8_ q9_ [(11,.row 2 (Es (Cone.cells true) (q2_++[(⟨q3_,v4⟩:Cone)])))])),12⟩) ?_ ?_
    ·exact Wk.rP _ [(0,0),(1,1),(2,2),(11,11),(4,4),(5,5),(6,6),(7,7),(8,8),(9,9),(10,10),(3,3)] hP (by rfl) (by simp [hhOk,back,Cat.cells,Cone.cells,Fn.cells,UA,U1,IA,I1,LA,L1,BA,B1,EA,E1,E2,eB,eI,eL,Qa _ (Cone.cells true) _ (fun _=>rfl)])
    exact ⟨by simp [Qs],by simp,by simp [Cat.cells,Cone.cells,Fn.cells]⟩
   simp;(repeat refine sdQ ?_);refine hK _ (tn (Q3 (st':=⟨[(9,.val (.bool v6.2))],Y5 q1_ ((2,.mix 1 [[.own 11 0 v6.1.length]])::Yz q3_ q4_ (Y1 q5_ q6_ q7_ q8_ q9_ [(11,.row 2 (Es (Cone.cells true) v6.1))])),12⟩) (Wk.rP _ [(0,0),(1,1),(2,2),(11,11),(4,4),(5,5),(6,6),(7,7),(8,8),(9,9),(10,10),(3,3)] hP (by rfl) (by simp [hhOk,back,Cat.cells,Cone.cells,Fn.cells,UA,U1,IA,I1,LA,L1,BA,B1,EA,E1,E2,eB,eI,eL,Qa _ (Cone.cells true) _ (fun _=>rfl)])) (Qe (tr (pcr ?_)))));clear hK K;cases h;first|refine iw_r (st':=⟨[(9,.val (.bool v6.2))],Y5 q1_ ((2,.mix 1 [[.own 11 0 v6.1.length]])::Yz q3_ q4_ (Y1 q5_ q6_ q7_ q8_ q9_ [(11,.row 2 (Es (Cone.cells true) v6.1))])),12⟩) ?_ ?_|refine iw_n (st':=⟨[(9,.val (.bool v6.2))],Y5 q1_ ((2,.mix 1 [[.own 11 0 v6.1.length]])::Yz q3_ q4_ (Y1 q5_ q6_ q7_ q8_ q9_ [(11,.row 2 (Es (Cone.cells true) v6.1))])),12⟩) ?_ ?_
   ·exact Wk.rP _ [(0,0),(1,1),(2,2),(11,11),(4,4),(5,5),(6,6),(7,7),(8,8),(9,9),(10,10),(3,3)] hP (by rfl) (by simp [hhOk,back,Cat.cells,Cone.cells,Fn.cells,UA,U1,IA,I1,LA,L1,BA,B1,EA,E1,E2,eB,eI,eL,Qa _ (Cone.cells true) _ (fun _=>rfl)])
   exact ⟨by simp [Qs],by simp,by simp [Cat.cells,Cone.cells,Fn.cells]⟩
  have g2:¬ (q0_=q1_.s.n):=gQ;clear g;replace h:=if_r g2 h;refine Q7 (tn (Q0 (w_label (tn (Q0 (Q0 (Qk [] mo (by rw [hN];decide) fun K hK=>?_)))))));replace ⟨a7,h⟩:=Q2 h;simp [at_I a7];repeat with_reducible refine sdQ ?_
  replace ⟨v8,hv8,h⟩:=bind_some h;refine QD (fz:=[]) (Q3j _ _ _ v8 hv8) (.cons (.preT (by simp [Cat.cells,Cone.cells,Fn.cells])) (.cons .val (.cons .val .nil))) ?_;simp [at_I a7];repeat refine sdQ ?_
  refine hK _ (tn (Q3 (st':=⟨YQ q0_ [(34,.own 11 0 v8.length),(35,iV (v8.length:Int)),(36,iV 0)],Y5 q1_ (Y0l q2_ (Yz q3_ q4_ (Y1 q5_ q6_ q7_ q8_ q9_ [(11,rI v8)]))),12⟩) (Wk.rP _ [(0,0),(1,1),(2,2),(3,3),(4,4),(5,5),(6,6),(7,7),(8,8),(9,9),(10,10),(11,11)] hP (by rfl) (by simp [hhOk,back,Cat.cells,Cone.cells,Fn.cells,UA,U1,IA,I1,LA,L1,BA,B1,EA,E1,E2,eB,eI,eL,Qa _ (Cone.cells true) _ (fun _=>rfl)])) ?_));clear hK K;replace ⟨e9,h,h9⟩:=bind_some h;refine Qd (fun b9:List Cone × List Int=>⟨[],Y5 q1_ (YF b9 q3_ (Y1 q5_ q6_ q7_ q8_ q9_ [(11,.row 2 (Es (Cone.cells true) b9.1))])),12⟩) (fun b9=>Sum.inl b9=e9) ?_ ?_
  ·refine Q5 (Qt h (fun s42:List Cone × List Int × Int=>⟨Yk q0_ v8 s42 [],Y5 q1_ ((2,.mix 1 [[.own 11 0 s42.1.length]])::(4,.mix 1 [[iV q3_]])::(5,.mix 1 [[.own 6 0 s42.2.1.length]])::(6,rI s42.2.1)::Y1 q5_ q6_ q7_ q8_ q9_ (YP s42 v8 [])),13⟩) (Wk.rQ _ [(0,0),(1,1),(2,2),(3,11),(4,4),(5,5),(6,6),(7,7),(8,8),(9,9),(10,10),(11,12)] hP (by rfl) (by simp [hhOk,back,Cat.cells,Cone.cells,Fn.cells,UA,U1,IA,I1,LA,L1,BA,B1,EA,E1,E2,eB,eI,eL,Qa _ (Cone.cells true) _ (fun _=>rfl)])) ?_);clear h;intro k42 s42 c42 h hk42;refine Q0 (Qk [] mo (by rw [hN];decide) fun K hK=>?_);simp;(repeat refine sdQ ?_);refine hK _ ?_;clear hK K;refine tn (Q0 (Q6 rfl (fun g=>?_) fun g=>?_))
   ·have g43:s42.2.2<(v8.length:Int):=gQ;clear g;replace h:=if_l g43 h;refine Q7 (tn (Q0 ?_));replace ⟨e44,h,h44⟩:=bind_some h;refine Qd (fun b44:List Cone × List Int=>⟨Yk q0_ v8 s42 [],Y5 q1_ (YF b44 q3_ (Y1 q5_ q6_ q7_ q8_ q9_ [(11,.row 2 (Es (Cone.cells true) b44.1)),(12,rI v8)])),13⟩) (fun b44=>Sum.inl b44=e44) ?_ ?_
    ·refine Q5 (Q0 (Qk [] mo (by rw [hN];decide) fun K hK=>?_));replace ⟨a45,h⟩:=Q2 h;simp [at_I a45];(repeat refine sdQ ?_);refine hK _ ?_;clear hK K;refine tn (Q3 (st':=⟨YQ q0_ [(11,iV (ix v8 s42.2.2)),(34,.own 12 0 v8.length),(35,iV (v8.length:Int)),(36,iV s42.2.2)],Y5 q1_ ((2,.mix 1 [[.own 11 0 s42.1.length]])::(4,.mix 1 [[iV q3_]])::(5,.mix 1 [[.own 6 0 s42.2.1.length]])::(6,rI s42.2.1)::Y1 q5_ q6_ q7_ q8_ q9_ (YP s42 v8 [])),13⟩) (Wk.rP _ [(0,0),(1,1),(2,2),(11,11),(4,4),(5,5),(6,6),(7,7),(8,8),(9,9),(10,10),(12,12),(3,3)] hP (by rfl) (by simp [hhOk,back,Cat.cells,Cone.cells,Fn.cells,UA,U1,IA,I1,LA,L1,BA,B1,EA,E1,E2,eB,eI,eL,Qa _ (Cone.cells true) _ (fun _=>rfl)])) (Q0 (Qk [] mo (by rw [hN];decide) fun K hK=>?_)));replace ⟨a46,h⟩:=Q2 h;simp [at_I a46];(repeat refine sdQ ?_);refine hK _ ?_;clear hK K;refine tn (Q3 (st':=⟨Yk q0_ v8 s42 [],Y5 q1_ (Ym s42 q3_ q0_ v8 (Y1 q5_ q6_ q7_ q8_ q9_ (YP s42 v8 []))),13⟩) (Wk.rP _ [(0,0),(1,1),(2,2),(11,11),(4,4),(5,5),(6,6),(7,7),(8,8),(9,9),(10,10),(12,12),(3,3)] hP (by rfl) (by simp [hhOk,back,Cat.cells,Cone.cells,Fn.cells,UA,U1,IA,I1,LA,L1,BA,B1,EA,E1,E2,eB,eI,eL,Qa _ (Cone.cells true) _ (fun _=>rfl)])) (Q0 (Q0 (Qk [] mo (by rw [hN];decide) fun K hK=>?_))));simp;(repeat refine sdQ ?_);refine hK _ (tn ?_);clear hK K
     refine Q3 (st':=⟨Yk q0_ v8 s42 (Y0h q9_ [(49,iV 0)]),Y5 q1_ (Ym s42 q3_ q0_ v8 (Y1 q5_ q6_ q7_ q8_ q9_ (YP s42 v8 []))),13⟩) (Wk.rP _ [(0,0),(1,1),(2,2),(11,11),(4,4),(5,5),(6,6),(7,7),(8,8),(9,9),(10,10),(12,12),(3,3)] hP (by rfl) (by simp [hhOk,back,Cat.cells,Cone.cells,Fn.cells,UA,U1,IA,I1,LA,L1,BA,B1,EA,E1,E2,eB,eI,eL,Qa _ (Cone.cells true) _ (fun _=>rfl)])) ?_;replace ⟨e47,h,h47⟩:=bind_some h;refine Qd (fun b47:Unit=>⟨Yk q0_ v8 s42 [],Y5 q1_ (Ym s42 q3_ q0_ v8 (Y1 q5_ q6_ q7_ q8_ q9_ (YP s42 v8 []))),13⟩) (fun b47=>Sum.inl b47=e47) ?_ ?_
     ·refine Q5 (Qt h (fun s59:Int=>⟨Yk q0_ v8 s42 (Y0h q9_ [(49,iV s59)]),Y5 q1_ (Ym s42 q3_ q0_ v8 (Y1 q5_ q6_ q7_ q8_ q9_ (YP s42 v8 []))),13⟩) (Wk.rP _ [(0,0),(1,1),(2,2),(11,11),(4,4),(5,5),(6,6),(7,7),(8,8),(9,9),(10,10),(12,12),(3,3)] hP (by rfl) (by simp [hhOk,back,Cat.cells,Cone.cells,Fn.cells,UA,U1,IA,I1,LA,L1,BA,B1,EA,E1,E2,eB,eI,eL,Qa _ (Cone.cells true) _ (fun _=>rfl)])) ?_);clear h;intro k59 s59 c59 h hk59;refine Q0 (Qk [] mo (by rw [hN];decide) fun K hK=>?_);simp;(repeat refine sdQ ?_);refine hK _ ?_;clear hK K;refine tn (Q0 (Q6 rfl (fun g=>?_) fun g=>?_))
      ·have g60:s59<(q9_.ar.length:Int):=gQ;clear g;replace h:=if_l g60 h;refine Q7 (tn (Q0 (Q5 (Q0 (Qk [] mo (by rw [hN];decide) fun K hK=>?_)))));replace ⟨a61,h⟩:=Q2 h;simp [at_I a61];(repeat refine sdQ ?_);refine hK _ ?_;clear hK K;refine tn (Q3 (st':=⟨YQ q0_ ((12,iV s59)::(13,iV (ix q9_.ar s59))::(34,.own 12 0 v8.length)::(35,iV (v8.length:Int))::(36,iV s42.2.2)::Y0h q9_ [(49,iV s59)]),Y5 q1_ (Ym s42 q3_ q0_ v8 (Y1 q5_ q6_ q7_ q8_ q9_ (YP s42 v8 []))),13⟩) (Wk.rP _ [(0,0),(1,1),(2,2),(11,11),(4,4),(5,5),(6,6),(7,7),(8,8),(9,9),(10,10),(12,12),(3,3)] hP (by rfl) (by simp [hhOk,back,Cat.cells,Cone.cells,Fn.cells,UA,U1,IA,I1,LA,L1,BA,B1,EA,E1,E2,eB,eI,eL,Qa _ (Cone.cells true) _ (fun _=>rfl)])) (Q0 (Qk [] mo (by rw [hN];decide) fun K hK=>?_)));replace ⟨a62,h⟩:=Q2 h;replace ⟨a63,h⟩:=Q2 h;simp [at_I a62,at_I a63];(repeat refine sdQ ?_);refine hK _ (tn (Q3 (st':=⟨YQ q0_ ((13,iV (ix q9_.ar s59))::(14,iV (ix q1_.s.fr s59))::(15,iV (ix q1_.s.to s59))::(34,.own 12 0 v8.length)::(35,iV (v8.length:Int))::(36,iV s42.2.2)::Y0h q9_ [(49,iV s59)]),Y5 q1_ (Ym s42 q3_ q0_ v8 (Y1 q5_ q6_ q7_ q8_ q9_ (YP s42 v8 []))),13⟩) (Wk.rP _ [(0,0),(1,1),(2,2),(11,11),(4,4),(5,5),(6,6),(7,7),(8,8),(9,9),(10,10),(12,12),(3,3)] hP (by rfl) (by simp [hhOk,back,Cat.cells,Cone.cells,Fn.cells,UA,U1,IA,I1,LA,L1,BA,B1,EA,E1,E2,eB,eI,eL,Qa _ (Cone.cells true) _ (fun _=>rfl)])) (Q0 ?_)));clear hK K;replace ⟨e64,h,h64⟩:=bind_some h
       refine Qd (fun b64:Bool=>⟨Yk q0_ v8 s42 (Y0h q9_ [(49,iV s59),(86,.val (.bool b64))]),Y5 q1_ (Ym s42 q3_ q0_ v8 (Y1 q5_ q6_ q7_ q8_ q9_ (YP s42 v8 []))),13⟩) (fun b64=>b64=e64) ?_ ?_
       ·refine Qk [] mo (by rw [hN];decide) fun K hK=>?_;simp;(repeat with_reducible refine sdQ ?_);refine Q26 (fun g=>?_) (fun g=>?_)
        ·have g65:(if ix q1_.s.to s59 > ix q1_.s.fr s59 then ix q1_.s.to s59 else ix q1_.s.fr s59)=q0_:=gQ;clear g;replace h:=if_l g65 h;replace ⟨a66,h⟩:=Q2 h;simp [at_I a66];(repeat with_reducible refine sdQ ?_);replace ⟨v67,hv67,h⟩:=bind_some h;refine QD (fz:=[]) (Q21 _ _ _ v67 hv67) (.cons (.preT (by simp [Cat.cells,Cone.cells,Fn.cells])) (.cons .val (.cons .val .nil))) ?_;replace ⟨a68,h⟩:=Q2 h;simp [at_I a66,at_I a68];(repeat refine sdQ ?_);refine hK _ ?_;exact jn (b:=v67 != (ix (s42.2.1.set q0_.toNat (ix v8 s42.2.2)) (ix q1_.s.to s59))) (Option.some.inj h) (Wk.rP _ [(0,0),(1,1),(2,2),(11,11),(4,4),(5,5),(6,6),(7,7),(8,8),(9,9),(10,10),(12,12),(3,3)] hP (by rfl) (by simp [hhOk,back,Cat.cells,Cone.cells,Fn.cells,UA,U1,IA,I1,LA,L1,BA,B1,EA,E1,E2,eB,eI,eL,Qa _ (Cone.cells true) _ (fun _=>rfl)]))
        have g65:¬ ((if ix q1_.s.to s59 > ix q1_.s.fr s59 then ix q1_.s.to s59 else ix q1_.s.fr s59)=q0_):=gQ;clear g;replace h:=if_r g65 h;simp;(repeat refine sdQ ?_);refine hK _ ?_;exact jn (b:=false) (Option.some.inj h) (Wk.rP _ [(0,0),(1,1),(2,2),(11,11),(4,4),(5,5),(6,6),(7,7),(8,8),(9,9),(10,10),(12,12),(3,3)] hP (by rfl) (by simp [hhOk,back,Cat.cells,Cone.cells,Fn.cells,UA,U1,IA,I1,LA,L1,BA,B1,EA,E1,E2,eB,eI,eL,Qa _ (Cone.cells true) _ (fun _=>rfl)]))
       intro b64 hb64;have h:=h64;(try rw [← hb64] at h);clear h64;(try dsimp only at h);refine Q6 rfl (fun g=>?_) fun g=>?_
       ·have g69:b64=true:=gQ;clear g;replace h:=if_l g69 h;refine Qj (bm (by decide) (tx (lx (bm (by decide) (tx (bh ?_))))));cases h;have q:_=e47:=hk59;have h:=h47;rw [← q] at h;clear q;(try dsimp only at h);exact jn (b:=(s42.1,s42.2.1.set q0_.toNat (ix v8 s42.2.2))) (Option.some.inj h) (Wk.rP _ [(0,0),(1,1),(2,2),(11,11),(4,4),(5,5),(6,6),(7,7),(8,8),(9,9),(10,10),(12,12),(3,3)] hP (by rfl) (by simp [hhOk,back,Cat.cells,Cone.cells,Fn.cells,UA,U1,IA,I1,LA,L1,BA,B1,EA,E1,E2,eB,eI,eL,Qa _ (Cone.cells true) _ (fun _=>rfl)]))
       have g69:¬ (b64=true):=gQ;clear g;replace h:=if_r g69 h;refine Q7 (bn (tn (Qk [] mo (by rw [hN];decide) fun K hK=>?_)));replace ⟨a70,h⟩:=Q2 h;simp [Qp a70];(repeat refine sdQ ?_);refine hK _ ?_;clear hK K;cases h;exact rn (s':=s59+1) hk59 (Wk.rP _ [(0,0),(1,1),(2,2),(11,11),(4,4),(5,5),(6,6),(7,7),(8,8),(9,9),(10,10),(12,12),(3,3)] hP (by rfl) (by simp [hhOk,back,Cat.cells,Cone.cells,Fn.cells,UA,U1,IA,I1,LA,L1,BA,B1,EA,E1,E2,eB,eI,eL,Qa _ (Cone.cells true) _ (fun _=>rfl)]))
      have g60:¬ (s59<(q9_.ar.length:Int)):=gQ;clear g;replace h:=if_r g60 h;refine Qj (tx (lx (bh ?_)));cases h;exact jn (b:=()) hk59 (Wk.rP _ [(0,0),(1,1),(2,2),(11,11),(4,4),(5,5),(6,6),(7,7),(8,8),(9,9),(10,10),(12,12),(3,3)] hP (by rfl) (by simp [hhOk,back,Cat.cells,Cone.cells,Fn.cells,UA,U1,IA,I1,LA,L1,BA,B1,EA,E1,E2,eB,eI,eL,Qa _ (Cone.cells true) _ (fun _=>rfl)]))
     intro b47 hb47;have h:=h47;(try rw [← hb47] at h);clear h47;(try dsimp only at h);refine Q0 (Q2h [] mo (by rw [hN];decide) fun K hK=>?_);replace ⟨a71,h⟩:=Q2 h;simp [Qp a71];(repeat with_reducible refine sdQ ?_);replace ⟨v72,hv72,h⟩:=bind_some h;refine Q2j (fz:=[]) (ICon.frameL (e:={ v:=.val (.bool v72.2.2),set:=[(2,.mix 1 [[.own 13 0 v72.1.length]]),(5,.mix 1 [[.own 6 0 v72.2.1.length]]),(6,rI v72.2.1)],del:=[11],new:=[(13,.row 2 (Es (Cone.cells true) v72.1))],cnt:=1 }) (ih _ _ _ _ _ _ _ _ _ _ v72 hv72) [(0,0),(1,1),(2,2),(3,11),(4,4),(5,5),(6,6),(7,7),(8,8),(9,9),(10,10)] (by rfl) (by simp) (by simp [rl,rlL,rlLL,rlE,rlE',back,mxt,look,trm,List.range,List.range.loop,Qs,Cat.cells,Cone.cells,Fn.cells]) (by simp [rl,rlL,rlLL,rlE,rlE',back,mxt,look,trm,List.range,List.range.loop,Qs,Cat.cells,Cone.cells,Fn.cells]) (by simp [Q3u]) (by rfl) (by simp [rl,rlL,rlLL,rlE,rlE',back,mxt,look,trm,List.range,List.range.loop,Qs,Cat.cells,Cone.cells,Fn.cells]) (by simp [rl,rlL,rlLL,rlE,rlE',back,mxt,look,trm,List.range,List.range.loop,Qs,Cat.cells,Cone.cells,Fn.cells]) (by simp [rl,rlL,rlLL,rlE,rlE',back,mxt,look,trm,List.range,List.range.loop,Qs,Cat.cells,Cone.cells,Fn.cells]) (by simp [rl,rlL,rlLL,rlE,rlE',back,mxt,look,trm,List.range,List.range.loop,Qs,Cat.cells,Cone.cells,Fn.cells]) (by simp [Q3u]) (by rfl) (Q50 (by simp))) ?_;simp;(repeat refine sdQ ?_);refine hK _ ?_;clear hK K;refine tn (Q3 (st':=⟨Yk q0_ v8 s42 [(92,.val (.bool (!v72.2.2)))],Y5 q1_ ((2,.mix 1 [[.own 11 0 v72.1.length]])::(4,.mix 1 [[iV q3_]])::(5,.mix 1 [[.own 6 0 v72.2.1.length]])::(6,rI v72.2.1)::Y1 q5_ q6_ q7_ q8_ q9_ [(11,.row 2 (Es (Cone.cells true) v72.1)),(12,rI v8)]),13⟩) (Wk.rP _ [(0,0),(1,1),(2,2),(13,11),(4,4),(5,5),(6,6),(7,7),(8,8),(9,9),(10,10),(12,12),(3,3)] hP (by rfl) (by simp [hhOk,back,Cat.cells,Cone.cells,Fn.cells,UA,U1,IA,I1,LA,L1,BA,B1,EA,E1,E2,eB,eI,eL,Qa _ (Cone.cells true) _ (fun _=>rfl)])) (Q6 rfl (fun g=>?_) fun g=>?_))
     ·have g73:¬ (v72.2.2=true):=gQ;clear g;replace h:=if_l g73 h;refine Q0 (Qk [] mo (by rw [hN];decide) fun K hK=>?_);simp;(repeat refine sdQ ?_);refine hK _ (tn (Q3 (st':=⟨[(9,.val (.bool false))],Y5 q1_ ((2,.mix 1 [[.own 11 0 v72.1.length]])::(4,.mix 1 [[iV q3_]])::(5,.mix 1 [[.own 6 0 v72.2.1.length]])::(6,rI v72.2.1)::Y1 q5_ q6_ q7_ q8_ q9_ [(11,.row 2 (Es (Cone.cells true) v72.1))]),12⟩) (Wk.rP _ [(0,0),(1,1),(2,2),(11,11),(4,4),(5,5),(6,6),(7,7),(8,8),(9,9),(10,10),(3,3)] hP (by rfl) (by simp [hhOk,back,Cat.cells,Cone.cells,Fn.cells,UA,U1,IA,I1,LA,L1,BA,B1,EA,E1,E2,eB,eI,eL,Qa _ (Cone.cells true) _ (fun _=>rfl)])) (Qe (br (tr (lr (br (tr (pcr ?_)))))))));clear hK K;cases h;have h:=h44;(try dsimp only at h);cases h;have q:_=e9:=hk42;have h:=h9;rw [← q] at h;clear q;(try dsimp only at h);cases h;first|refine iw_r (st':=⟨[(9,.val (.bool false))],Y5 q1_ ((2,.mix 1 [[.own 11 0 v72.1.length]])::(4,.mix 1 [[iV q3_]])::(5,.mix 1 [[.own 6 0 v72.2.1.length]])::(6,rI v72.2.1)::Y1 q5_ q6_ q7_ q8_ q9_ [(11,.row 2 (Es (Cone.cells true) v72.1))]),12⟩) ?_ ?_|refine iw_n (st':=⟨[(9,.val (.bool false))],Y5 q1_ ((2,.mix 1 [[.own 11 0 v72.1.length]])::(4,.mix 1 [[iV q3_]])::(5,.mix 1 [[.own 6 0 v72.2.1.length]])::(6,rI v72.2.1)::Y1 q5_ q6_ q7_ q8_ q9_ [(11,.row 2 (Es (Cone.cells true) v72.1))]),12⟩) ?_ ?_
      ·exact Wk.rP _ [(0,0),(1,1),(2,2),(11,11),(4,4),(5,5),(6,6),(7,7),(8,8),(9,9),(10,10),(3,3)] hP (by rfl) (by simp [hhOk,back,Cat.cells,Cone.cells,Fn.cells,UA,U1,IA,I1,LA,L1,BA,B1,EA,E1,E2,eB,eI,eL,Qa _ (Cone.cells true) _ (fun _=>rfl)])
      exact ⟨by simp [Qs],by simp,by simp [Cat.cells,Cone.cells,Fn.cells]⟩
     have g73:¬ (¬ (v72.2.2=true)):=gQ;clear g;replace h:=if_r g73 h;refine Q7 (bn ?_);exact jn (b:=(v72.1,v72.2.1)) (Option.some.inj h) (Wk.rP _ [(0,0),(1,1),(2,2),(11,11),(4,4),(5,5),(6,6),(7,7),(8,8),(9,9),(10,10),(12,12),(3,3)] hP (by rfl) (by simp [hhOk,back,Cat.cells,Cone.cells,Fn.cells,UA,U1,IA,I1,LA,L1,BA,B1,EA,E1,E2,eB,eI,eL,Qa _ (Cone.cells true) _ (fun _=>rfl)]))
    intro b44 hb44;have h:=h44;(try rw [← hb44] at h);clear h44;(try dsimp only at h);refine Qk [] mo (by rw [hN];decide) fun K hK=>?_;replace ⟨a74,h⟩:=Q2 h;simp [Qp a74];(repeat refine sdQ ?_);refine hK _ ?_;clear hK K;cases h;exact rn (s':=(b44.1,b44.2,s42.2.2+1)) hk42 (Wk.rP _ [(0,0),(1,1),(2,2),(11,11),(4,4),(5,5),(6,6),(7,7),(8,8),(9,9),(10,10),(12,12),(3,3)] hP (by rfl) (by simp [hhOk,back,Cat.cells,Cone.cells,Fn.cells,UA,U1,IA,I1,LA,L1,BA,B1,EA,E1,E2,eB,eI,eL,Qa _ (Cone.cells true) _ (fun _=>rfl)]))
   have g43:¬ (s42.2.2<(v8.length:Int)):=gQ;clear g;replace h:=if_r g43 h;refine Qj (tx (lx (bh ?_)));cases h;exact jn (b:=(s42.1,s42.2.1)) hk42 (Wk.rP _ [(0,0),(1,1),(2,2),(11,11),(4,4),(5,5),(6,6),(7,7),(8,8),(9,9),(10,10),(3,3)] hP (by rfl) (by simp [hhOk,back,Cat.cells,Cone.cells,Fn.cells,UA,U1,IA,I1,LA,L1,BA,B1,EA,E1,E2,eB,eI,eL,Qa _ (Cone.cells true) _ (fun _=>rfl)]))
  intro b9 hb9;have h:=h9;try rw [← hb9] at h
  clear h9;try dsimp only at h
  refine Q0 (Qk [] mo (by rw [hN];decide) fun K hK=>?_);simp;repeat refine sdQ ?_
  refine hK _ (tn (Q3 (st':=⟨[(9,.val (.bool true))],Y5 q1_ (YF b9 q3_ (Y1 q5_ q6_ q7_ q8_ q9_ [(11,.row 2 (Es (Cone.cells true) b9.1))])),12⟩) (Wk.rP _ [(0,0),(1,1),(2,2),(11,11),(4,4),(5,5),(6,6),(7,7),(8,8),(9,9),(10,10),(3,3)] hP (by rfl) (by simp [hhOk,back,Cat.cells,Cone.cells,Fn.cells,UA,U1,IA,I1,LA,L1,BA,B1,EA,E1,E2,eB,eI,eL,Qa _ (Cone.cells true) _ (fun _=>rfl)])) (Qe (pcr ?_))));clear hK K;cases h;first|refine iw_r (st':=⟨[(9,.val (.bool true))],Y5 q1_ (YF b9 q3_ (Y1 q5_ q6_ q7_ q8_ q9_ [(11,.row 2 (Es (Cone.cells true) b9.1))])),12⟩) ?_ ?_|refine iw_n (st':=⟨[(9,.val (.bool true))],Y5 q1_ (YF b9 q3_ (Y1 q5_ q6_ q7_ q8_ q9_ [(11,.row 2 (Es (Cone.cells true) b9.1))])),12⟩) ?_ ?_
  ·exact Wk.rP _ [(0,0),(1,1),(2,2),(11,11),(4,4),(5,5),(6,6),(7,7),(8,8),(9,9),(10,10),(3,3)] hP (by rfl) (by simp [hhOk,back,Cat.cells,Cone.cells,Fn.cells,UA,U1,IA,I1,LA,L1,BA,B1,EA,E1,E2,eB,eI,eL,Qa _ (Cone.cells true) _ (fun _=>rfl)])
  exact ⟨by simp [Qs],by simp,by simp [Cat.cells,Cone.cells,Fn.cells]⟩
attribute [local simp] unk unA unE unT unC flat eL eI Qo QR Q1l Cat.cells Fn.cells
noncomputable def Q1I (d_:Fn):Option (List Cone × Bool) :=
 (Qw (σ:=List Cone × Int) (ε:=(List Cone) ⊕ (List Cone × Bool)) (fun s9 =>
  if s9.2<d_.t.n then
   (
    ass (0≤(d_.ob.length:Int)∧(d_.ob.length:Int)≤1073741824) <|
    (QA 100 0 d_ s9.1 s9.2 (List.replicate ((d_.ob.length:Int).toNat) 0) d_.t d_.ob d_.ar s9.2 d_).bind fun v13 =>
    some (v13.1,v13.2.2):Option (List Cone × Bool)).bind fun v14 =>
   if ¬ (v14.2=true) then
    some (Ctl.ret (Sum.inr ([],false)))
   else
    ass (B64 (s9.2+1)) <|
    some (Ctl.next (v14.1,s9.2+1))
  else
   some (Ctl.ret (Sum.inl s9.1))) fuel ([],0)).bind fun e1 =>
 match e1 with
 | .inl b1 =>
  some (b1,true)
 | .inr p1 =>
  some p1
theorem wkQ9 {F : Fx} {st st' : St} (m : List (Nat × Nat)) (h : (m.map Prod.fst).Nodup ∧ (m.map Prod.snd).Nodup ∧ (∀ id, id < F.pins → look id m = some id) ∧ (∀ p ∈ m, p.2 < st'.n) ∧ (∀ p ∈ st'.h, p.1 < st'.n) ∧ (∀ p ∈ st'.s, p.2 = rl m (st.get p.1) ∨ p.2 = .bot) ∧ ∀ p ∈ st'.h, hhOk m st.h p.1 p.2 := by simp [hP, hhOk, back, idQ, Cat.cells, Fn.cells, UA, U1, IA, I1, LA, L1, BA, B1, EA, E1, E2, eB, eI, eL, Qa _ (Cone.cells true) _ (fun _=>rfl), XL07State.cells, Qa _ Qi _ (fun _=>rfl)]) : Wk F st st' := Wk.r1 m h
theorem wkI9 {F : Fx} {st st' : St} (m : Nat) (h : ((idQ m).map Prod.fst).Nodup ∧ ((idQ m).map Prod.snd).Nodup ∧ (∀ id, id < F.pins → look id (idQ m) = some id) ∧ (∀ p ∈ (idQ m), p.2 < st'.n) ∧ (∀ p ∈ st'.h, p.1 < st'.n) ∧ (∀ p ∈ st'.s, p.2 = rl (idQ m) (st.get p.1) ∨ p.2 = .bot) ∧ ∀ p ∈ st'.h, hhOk (idQ m) st.h p.1 p.2 := by simp [hP, hhOk, back, idQ, Cat.cells, Fn.cells, UA, U1, IA, I1, LA, L1, BA, B1, EA, E1, E2, eB, eI, eL, Qa _ (Cone.cells true) _ (fun _=>rfl), XL07State.cells, Qa _ Qi _ (fun _=>rfl)]) : Wk F st st' := Wk.r1 (idQ m) h
@[simp] abbrev Yp (a:List Cone × Int) (b:Fn) (c:List (Nat × Ent)):List (Nat × Ent):=(0,.mix 1 [[.own 1 0 a.1.length]])::(1,.row 2 (Es (Cone.cells true) a.1))::(2,.mix 1 [[iV a.2]])::(3,.mix 1 [(Y0v b [])])::(4,.mix 1 [[iV a.2]])::(5,.mix 1 [[.fn 80 [.adr 0 0 0,.adr 2 0 0]]])::(6,.mix 1 [[.rptr (Y0t b [])]])::(7,.mix 1 [(Y0v b [])])::c
@[simp] abbrev YX (a:List Cone × Int) (b:List (Nat × Ent)):List (Nat × Ent):=(0,.mix 1 [[.own 1 0 a.1.length]])::(1,.row 2 (Es (Cone.cells true) a.1))::(2,.mix 1 [[iV a.2]])::b
@[simp] abbrev Y01 (a:List (Nat × AV)):List (Nat × AV):=(3,.adr 3 0 0)::(4,.adr 4 0 0)::(5,.adr 5 0 0)::(7,.adr 6 0 0)::(8,.adr 7 0 0)::a
@[simp] abbrev Y0e (a:Fn) (b:List (Nat × Ent)):List (Nat × Ent):=(8,.mix 1 [[.own 9 0 ((List.replicate ((a.ob.length:Int).toNat) 0).length)]])::(9,rI (List.replicate ((a.ob.length:Int).toNat) 0))::b
theorem Q4F (d_:Fn) (r:List Cone × Bool) (h:Q1I d_=some r):Contract Try.prog 64 [.rptr (d_.cells true)] (.tup [.lst true 2 (Es (Cone.cells true) r.1),.val (.bool r.2)]):=by
 refine Q8 (rvs:=[.tmp 2,.tmp 3]) (rs:=[.lst true 2 (Es (Cone.cells true) r.1),.val (.bool r.2)]) Try.func64 rfl rfl rfl rfl (by simp [Try.f64]) fun F hN hP=>?_;unfold Q1I at h;refine Q0 (runQ hN fun K hK=>?_);simp;repeat refine sdQ ?_
 refine hK _ ?_;clear hK K;refine tn (Q3 (st':=⟨Yo d_ [],[],0⟩) (wkQ9 []) (Q0 (runQ hN fun K hK=>?_)));simp;repeat refine sdQ ?_
 refine hK _ ?_;clear hK K;refine tn (Q3 (st':=⟨Yo d_ (Y0b []),[(0,.mix 1 [[.own 1 0 0]]),(1,.mix 2 [])],2⟩) (wkQ9 [(1,0),(0,1)]) (Q0 (Q0 (runQ hN fun K hK=>?_))));simp;repeat refine sdQ ?_
 refine hK _ (tn (Q3 (st':=⟨Yo d_ (Y0b [(5,.adr 2 0 0)]),[(0,.mix 1 [[.own 1 0 0]]),(1,.mix 2 []),(2,.mix 1 [[iV 0]])],3⟩) (wkI9 3) ?_));clear hK K;replace ⟨e1,h,h1⟩:=bind_some h;refine Qd (fun b1:List Cone=>⟨Y0b [],[(0,.mix 1 [[.own 1 0 b1.length]]),(1,.row 2 (Es (Cone.cells true) b1))],2⟩) (fun b1=>Sum.inl b1=e1) ?_ ?_
 ·refine Q5 (Qt h (fun s9:List Cone × Int=>⟨Yo d_ (Y0b [(5,.adr 2 0 0)]),YX s9 [],3⟩) (Q3m ⟨Yo d_ (Y0b [(5,.adr 2 0 0)]),[(0,.mix 1 [[.own 1 0 0]]),(1,.row 2 (Es (Cone.cells true) [])),(2,.mix 1 [[iV 0]])],3⟩ (Wk.nils [] (by simp) (by simp) (by simp [nlA]) (by simp [entN,nlL,nlA,Cat.cells,Fn.cells,UA,U1,IA,I1,LA,L1,BA,B1,EA,E1,E2,eB,eI,eL,Qa _ (Cone.cells true) _ (fun _=>rfl)]) (by simp)) (wkI9 3)) ?_);clear h;intro k9 s9 c9 h hk9;refine Q0 (Q0 (runQ hN fun K hK=>?_));simp;repeat refine sdQ ?_
  refine hK _ ?_;clear hK K;refine tn (Q6 rfl (fun g=>?_) fun g=>?_)
  ·have g10:s9.2<d_.t.n:=gQ;clear g;replace h:=if_l g10 h;refine Q7 (tn (Q0 (Q5 (Q0 (Q2h [] mo (by rw [hN];decide) fun K hK=>?_)))));simp;(repeat with_reducible refine sdQ ?_);replace ⟨v14,hv14,h⟩:=bind_some h;refine Q2j (fz:=[]) (Q1U (ts:=[6]) (e:={ v:=.val (.bool v14.2),set:=[(0,.mix 1 [[.own 3 0 v14.1.length]])],del:=[1],new:=[(3,.row 2 (Es (Cone.cells true) v14.1))],cnt:=1 }) Try.func79 rfl rfl rfl (by simp [Try.f79]) (by simp) (Q50 (by simp)) (newI (by rfl)) fun F hN hP=>?_) ?_
   ·clear h;have h:=hv14;clear hv14;refine Q0 (Qk [] mo (by rw [hN];decide) fun K hK=>?_);simp;(repeat refine sdQ ?_);refine hK _ ?_;clear hK K;refine tn (Q3 (st':=⟨[(3,.adr 3 0 0),(4,.adr 4 0 0),(5,.adr 5 0 0)],YX s9 [(3,.mix 1 [(Y0v d_ [])]),(4,.mix 1 [[iV s9.2]]),(5,.mix 1 [[.fn 80 [.adr 0 0 0,.adr 2 0 0]]])],6⟩) (Wk.rP _ [(0,0),(1,1),(2,2),(3,3),(4,4),(5,5)] hP (by rfl) (by simp [hhOk,back,Cat.cells,Fn.cells,UA,U1,IA,I1,LA,L1,BA,B1,EA,E1,E2,eB,eI,eL,Qa _ (Cone.cells true) _ (fun _=>rfl)])) (Q0 (w_runXS [] mo (by rw [hN];decide) fun K hK=>?_)));simp;(repeat refine sdQ ?_);refine hK _ ?_;clear hK K;refine tn (Q3 (st':=⟨Y01 [],Yp s9 d_ [],8⟩) (Wk.rP _ [(0,0),(1,1),(2,2),(3,3),(4,4),(5,5),(6,6),(7,7)] hP (by rfl) (by simp [hhOk,back,Cat.cells,Fn.cells,UA,U1,IA,I1,LA,L1,BA,B1,EA,E1,E2,eB,eI,eL,Qa _ (Cone.cells true) _ (fun _=>rfl)])) (Q0 (Qk [] mo (by rw [hN];decide) fun K hK=>?_)));replace ⟨a12,h⟩:=Q2 h;simp;(repeat refine sdQ ?_);refine hK _ ?_;clear hK K;refine tn (Q3 (st':=⟨Y01 [(9,.adr 8 0 0)],Yp s9 d_ (Y0e d_ []),10⟩) (Wk.rP _ [(0,0),(1,1),(2,2),(3,3),(4,4),(5,5),(6,6),(7,7),(9,8),(8,9)] hP (by rfl) (by simp [hhOk,back,Cat.cells,Fn.cells,UA,U1,IA,I1,LA,L1,BA,B1,EA,E1,E2,eB,eI,eL,Qa _ (Cone.cells true) _ (fun _=>rfl)])) (Q0 (Qk [] mo (by rw [hN];decide) fun K hK=>?_)));simp;(repeat refine sdQ ?_);refine hK _ (tn ?_);clear hK K
    refine Q3 (st':=⟨Y01 [(9,.adr 8 0 0),(10,.adr 10 0 0)],Yp s9 d_ (Y0e d_ [(10,.mix 1 [[.val (.nilFunc)]])]),11⟩) (Wk.rP _ [(0,0),(1,1),(2,2),(3,3),(4,4),(5,5),(6,6),(7,7),(8,8),(9,9),(10,10)] hP (by rfl) (by simp [hhOk,back,Cat.cells,Fn.cells,UA,U1,IA,I1,LA,L1,BA,B1,EA,E1,E2,eB,eI,eL,Qa _ (Cone.cells true) _ (fun _=>rfl)])) (Q0 (Qk [] mo (by rw [hN];decide) fun K hK=>?_));simp;(repeat refine sdQ ?_);refine hK _ ?_;clear hK K;refine tn (Q3 (st':=⟨[(10,.adr 3 0 0)],YX s9 [(3,.mix 1 [[.fn 87 [.adr 4 0 0,.adr 5 0 0,.adr 6 0 0,.adr 8 0 0,.adr 9 0 0,.adr 10 0 0,.adr 3 0 0]]]),(4,.mix 1 [(Y0v d_ [])]),(5,.mix 1 [[.fn 80 [.adr 0 0 0,.adr 2 0 0]]]),(6,.mix 1 [[.own 7 0 ((List.replicate ((d_.ob.length:Int).toNat) 0).length)]]),(7,rI (List.replicate ((d_.ob.length:Int).toNat) 0)),(8,.mix 1 [[.rptr (Y0t d_ [])]]),(9,.mix 1 [[iV s9.2]]),(10,.mix 1 [(Y0v d_ [])])],11⟩) (Wk.rP _ [(0,0),(1,1),(2,2),(10,3),(7,4),(5,5),(8,6),(9,7),(6,8),(4,9),(3,10)] hP (by rfl) (by simp [hhOk,back,Cat.cells,Fn.cells,UA,U1,IA,I1,LA,L1,BA,B1,EA,E1,E2,eB,eI,eL,Qa _ (Cone.cells true) _ (fun _=>rfl)])) (Q0 (Q2h [] mo (by rw [hN];decide) fun K hK=>?_)));simp;(repeat with_reducible refine sdQ ?_);replace ⟨v13,hv13,h⟩:=bind_some h
    refine Q2j (fz:=[]) (ICon.frameL (e:={ v:=.val (.bool v13.2.2),set:=[(0,.mix 1 [[.own 11 0 v13.1.length]]),(6,.mix 1 [[.own 7 0 v13.2.1.length]]),(7,rI v13.2.1)],del:=[1],new:=[(11,.row 2 (Es (Cone.cells true) v13.1))],cnt:=1 }) (Q4M 100 _ _ _ _ _ _ _ _ _ _ v13 hv13) [(0,4),(1,5),(2,0),(3,1),(4,2),(5,6),(6,7),(7,8),(8,9),(9,10),(10,3)] (by rfl) (by simp) (by simp [rl,rlL,rlLL,rlE,rlE',back,mxt,look,trm,List.range,List.range.loop,Qs,Cat.cells,Fn.cells]) (by simp [rl,rlL,rlLL,rlE,rlE',back,mxt,look,trm,List.range,List.range.loop,Qs,Cat.cells,Fn.cells]) (by simp [Q3u]) (by rfl) (by simp [rl,rlL,rlLL,rlE,rlE',back,mxt,look,trm,List.range,List.range.loop,Qs,Cat.cells,Fn.cells]) (by simp [rl,rlL,rlLL,rlE,rlE',back,mxt,look,trm,List.range,List.range.loop,Qs,Cat.cells,Fn.cells]) (by simp [rl,rlL,rlLL,rlE,rlE',back,mxt,look,trm,List.range,List.range.loop,Qs,Cat.cells,Fn.cells]) (by simp [rl,rlL,rlLL,rlE,rlE',back,mxt,look,trm,List.range,List.range.loop,Qs,Cat.cells,Fn.cells]) (by simp [Q3u]) (by rfl) (Q50 (by simp))) ?_;simp;(repeat refine sdQ ?_);refine hK _ (tn (Q3 (st':=⟨[(6,.val (.bool v13.2.2))],[(0,.mix 1 [[.own 3 0 v13.1.length]]),(2,.mix 1 [[iV s9.2]]),(3,.row 2 (Es (Cone.cells true) v13.1))],4⟩) (Wk.rP _ [(0,0),(11,3),(2,2),(1,1)] hP (by rfl) (by simp [hhOk,back,Cat.cells,Fn.cells,UA,U1,IA,I1,LA,L1,BA,B1,EA,E1,E2,eB,eI,eL,Qa _ (Cone.cells true) _ (fun _=>rfl)])) (Qe ?_)));clear hK K;cases h;first|refine iw_r (st':=⟨[(6,.val (.bool v13.2.2))],[(0,.mix 1 [[.own 3 0 v13.1.length]]),(2,.mix 1 [[iV s9.2]]),(3,.row 2 (Es (Cone.cells true) v13.1))],4⟩) ?_ ?_|refine iw_n (st':=⟨[(6,.val (.bool v13.2.2))],[(0,.mix 1 [[.own 3 0 v13.1.length]]),(2,.mix 1 [[iV s9.2]]),(3,.row 2 (Es (Cone.cells true) v13.1))],4⟩) ?_ ?_
    ·exact Wk.rP _ [(0,0),(3,3),(2,2),(1,1)] hP (by rfl) (by simp [hhOk,back,Cat.cells,Fn.cells,UA,U1,IA,I1,LA,L1,BA,B1,EA,E1,E2,eB,eI,eL,Qa _ (Cone.cells true) _ (fun _=>rfl)])
    exact ⟨by simp [Qs],by simp,by simp [Cat.cells,Fn.cells]⟩
   simp;(repeat refine sdQ ?_);refine hK _ ?_;clear hK K;refine tn (Q3 (st':=⟨Yo d_ (Y0b [(5,.adr 2 0 0),(6,.val (.bool v14.2))]),[(0,.mix 1 [[.own 1 0 v14.1.length]]),(1,.row 2 (Es (Cone.cells true) v14.1)),(2,.mix 1 [[iV s9.2]])],3⟩) (wkQ9 [(0,0),(3,1),(2,2)]) (Q0 (runQ hN fun K hK=>?_)));simp;(repeat refine sdQ ?_);refine hK _ ?_;clear hK K;refine tn (Q6 rfl (fun g=>?_) fun g=>?_)
   ·have g15:¬ (v14.2=true):=gQ;clear g;replace h:=if_l g15 h;refine Q0 (runQ hN fun K hK=>?_);simp;(repeat refine sdQ ?_);refine hK _ (tn (Q3 (st':=⟨[(2,nS),(3,.val (.bool false))],[],0⟩) (wkQ9 []) (Qe (br (tr (lr (br (tr ?_))))))));clear hK K;cases h;have q:_=e1:=hk9;have h:=h1;rw [← q] at h;clear q;(try dsimp only at h);have hr:=Option.some.inj h;rw [← hr];refine ⟨_,(.tmp (.tmp .nil)),?_⟩;refine ⟨(.one rfl rfl (.one rfl rfl .nil)),[nS,.val (.bool false)],[],by simp [Cat.cells,Fn.cells,UA,U1,IA,I1,LA,L1,BA,B1,EA,E1,E2,eB,eI,eL,Qa _ (Cone.cells true) _ (fun _=>rfl)],by simp,(.cons .nil (.cons .refl .nil))⟩
   have g15:¬ (¬ (v14.2=true)):=gQ;clear g;replace h:=if_r g15 h;refine Q7 (bn (tn (Q0 (Q0 (runQ hN fun K hK=>?_)))));simp;(repeat refine sdQ ?_);refine hK _ ?_;clear hK K;refine tn (Q3 (st':=⟨Yo d_ (Y0b [(23,iV s9.2)]),[(0,.mix 1 [[.own 1 0 v14.1.length]]),(1,.row 2 (Es (Cone.cells true) v14.1))],2⟩) (wkQ9 [(0,0),(1,1)]) (runQ hN fun K hK=>?_));simp;(repeat refine sdQ ?_);refine hK _ ?_;clear hK K;refine tn (Q3 (st':=⟨Yo d_ (Y0b [(5,.adr 2 0 0)]),[(0,.mix 1 [[.own 1 0 v14.1.length]]),(1,.row 2 (Es (Cone.cells true) v14.1)),(2,.mix 1 [[iV s9.2]])],3⟩) (wkI9 3) (runQ hN fun K hK=>?_));replace ⟨a16,h⟩:=Q2 h;simp [Qp a16];(repeat refine sdQ ?_);refine hK _ ?_;clear hK K;cases h;exact rn (s':=(v14.1,s9.2+1)) hk9 (wkI9 3)
  have g10:¬ (s9.2<d_.t.n):=gQ;clear g;replace h:=if_r g10 h;refine Qj (tx (lx (bh ?_)));cases h;exact jn (b:=s9.1) hk9 (wkQ9 [(0,0),(1,1)])
 intro b1 hb1;have h:=h1;try rw [← hb1] at h
 clear h1;try dsimp only at h
 refine Q0 (runQ hN fun K hK=>?_);simp;repeat refine sdQ ?_
 refine hK _ (tn (Q3 (st':=⟨[(2,.own 0 0 b1.length),(3,.val (.bool true))],[(0,.row 2 (Es (Cone.cells true) b1))],1⟩) (wkQ9 [(1,0)]) (Qe ?_)));clear hK K;have hr:=Option.some.inj h;rw [← hr];refine ⟨_,(.tmp (.tmp .nil)),?_⟩;refine ⟨(.one rfl rfl (.one rfl rfl .nil)),[.lst true 2 (Es (Cone.cells true) b1),.val (.bool true)],[0],by simp [Cat.cells,Fn.cells,UA,U1,IA,I1,LA,L1,BA,B1,EA,E1,E2,eB,eI,eL,Qa _ (Cone.cells true) _ (fun _=>rfl)],by simp,(UpL.refl _)⟩
section
attribute [local simp] Qf QG Qu Q16 QE
theorem loop_rel {σ ε:Type} {body:σ→Option (Ctl σ ε)} {I:Nat→σ→Prop} {J:ε→Prop} {n:Nat} (hs:∀ i s,i<n→I i s→(∃ s',body s=some (.next s')∧I (i+1) s')∨∃ e,body s=some (.ret e)∧J e) (he:∀ s,I n s→∃ e,body s=some (.ret e)∧J e) :
  ∀ (r i:Nat) (s:σ) (F:Nat),i+r=n→r<F→I i s→∃ e,Qw body F s=some e∧J e:=by
 intro r
 induction r with
 | zero =>
  intro i s F hi hF hI;obtain ⟨e,h1,h2⟩:=he s (by rw [show n=i by omega];exact hI);obtain ⟨F',rfl⟩:∃ F',F=F' + 1:=⟨F - 1,by omega⟩;simp only [Qw,h1];exact ⟨e,rfl,h2⟩
 | succ r ih =>
  intro i s F hi hF hI;obtain ⟨F',rfl⟩:∃ F',F=F' + 1:=⟨F - 1,by omega⟩;rcases hs i s (by omega) hI with ⟨s',h1,h2⟩|⟨e,h1,h2⟩
  ·simp only [Qw,h1];exact ih (i+1) s' F' (by omega) (by omega) h2
  simp only [Qw,h1];exact ⟨e,rfl,h2⟩
theorem loop_relF {σ ε:Type} {body:σ→Option (Ctl σ ε)} {s0:σ} (n:Nat) (I:Nat→σ→Prop) (J:ε→Prop) (hn:n<4611686018427387904) (h0:I 0 s0) (hs:∀ i s,i<n→I i s→(∃ s',body s=some (.next s')∧I (i+1) s')∨∃ e,body s=some (.ret e)∧J e)
  (he:∀ s,I n s→∃ e,body s=some (.ret e)∧J e):∃ e,Qw body fuel s0=some e∧J e :=
 loop_rel hs he n 0 s0 fuel (by omega) (by unfold fuel;omega) h0
theorem QZ {σ ε β:Type} {body:σ→Option (Ctl σ ε)} {K:ε→Option β} {s0:σ} {Q:Option β→Prop} (n:Nat) (I:Nat→σ→Prop) (J:ε→Prop) (hn:n<4611686018427387904) (h0:I 0 s0) (hs:∀ i s,i<n→I i s→(∃ s',body s=some (.next s')∧I (i+1) s')∨∃ e,body s=some (.ret e)∧J e)
  (he:∀ s,I n s→∃ e,body s=some (.ret e)∧J e) (hk:∀ e,J e→Q (K e)):Q ((Qw body fuel s0).bind K):=by
 obtain ⟨e,h1,h2⟩:=loop_relF n I J hn h0 hs he;rw [h1];exact hk e h2
theorem Q2S {p:List Int} {f:Int} {i:Nat} (h:i<p.length):ix (p++[f]) i=ix p i:=by simp [ix,List.getD_eq_getElem?_getD,List.getElem?_append,h]
theorem Q5J (p:List Int) (f:Int):ix (p++[f]) (p.length:Nat)=f:=by simp [ix,List.getD_eq_getElem?_getD]
theorem Q53 {p:List Int} {f:Int} {i:Nat} (h:i<p.length):ix (p.set i f) i=f:=by simp [ix,List.getD_eq_getElem?_getD,h]
theorem Q54 {p:List Int} {f:Int} {i j:Nat} (h:i ≠ j):ix (p.set i f) j=ix p j:=by simp [ix,List.getD_eq_getElem?_getD,List.getElem?_set,h]
theorem ix_ext {p q:List Int} (hl:p.length=q.length) (h:∀ i:Nat,i<p.length→ix p i=ix q i):p=q:=by
 refine List.ext_getElem hl fun i h1 h2=>?_;rw [Q11 _ _ h1,Q11 _ _ h2];exact h i h1
def finC (out L:List Cone):List Cone × Bool:=if out.length+L.length≤400 then (out++L,true) else (out++L.take (401 - out.length),false)
theorem Q8h {out A B:List Cone} (h:out.length≤400):finC out (A++B)=if (finC out A).2=true then finC (finC out A).1 B else finC out A:=by
 unfold finC
 by_cases h1:out.length+A.length≤400
 ·rw [if_pos h1];simp only [if_true,List.length_append]
  by_cases h2:out.length+A.length+B.length≤400
  ·rw [if_pos (by omega),if_pos (by omega),List.append_assoc]
  rw [if_neg (by omega),if_neg (by omega),List.append_assoc,List.take_append];rw [List.take_of_length_le (by omega),show 401 - out.length - A.length=401 - (out.length+A.length) by omega]
 rw [if_neg h1];simp only [Bool.false_eq_true,if_false,List.length_append];rw [if_neg (by omega),List.take_append_of_le_length (by omega)]
theorem Q8i {out:List Cone} (h:out.length≤400):finC out []=(out,true):=by unfold finC;rw [if_pos (by simpa using h)];simp
theorem finC_ok {out L:List Cone} (h:(finC out L).2=true):(finC out L).1.length≤400:=by
 unfold finC at *;split at h
 ·rename_i h1;rw [if_pos h1];simpa using h1
 cases h
def lmax (d:Fn) (a:Nat):Int:=if ix d.s.to a > ix d.s.fr a then ix d.s.to a else ix d.s.fr a
def leq (d:Fn) (p:List Int) (a:Nat):Prop:=ix (rx d.t.cs (ix p (ix d.s.fr a))) (ix d.ar a)=ix p (ix d.s.to a)
def lok (d:Fn) (p:List Int) (j:Nat):Prop:=∀ a:Nat,a<d.ar.length→lmax d a=(j:Int)→leq d p a
noncomputable def lnx (d:Fn) (j:Nat) (p:List Int) (X:List (List Int)):List (List Int):=@ite _ (lok d p j) (Classical.propDecidable _) X []
noncomputable def lext (d:Fn) (x:Int):Nat→List Int→List (List Int)
 | 0,p=>[p]
 | m+1,p=>(homL d.t x (ix d.ob p.length)).flatMap fun f=>lnx d p.length (p++[f]) (lext d x m (p++[f]))
def LP (d:Fn) (x:Int) (p:List Int):Prop:=∀ i:Nat,i<p.length→Ar d.t (ix p i) x (ix d.ob i)
theorem LP.snoc {d:Fn} {x:Int} {p:List Int} (h:LP d x p) {f:Int} (hf:Ar d.t f x (ix d.ob p.length)):LP d x (p++[f]):=by
 intro i hi;simp only [List.length_append,List.length_singleton] at hi
 by_cases q:i<p.length
 ·rw [Q2S q];exact h i q
 have:i=p.length:=by omega
 subst this;rw [Q5J];exact hf
theorem Fn.Is.fact {d:Fn} (h:d.Is):(d.ob.length:Int)=d.s.n∧d.ar.length=d.s.fr.length∧d.s.to.length=d.s.fr.length∧d.ob.length≤8∧d.ar.length≤40∧d.t.fr.length≤40∧(d.s.id.length:Int)=d.s.n∧∀ a:Nat,a<d.ar.length→(0≤ix d.s.fr a∧ix d.s.fr a<(d.ob.length:Int))∧(0≤ix d.s.to a∧ix d.s.to a<(d.ob.length:Int))∧Ar d.t (ix d.ar a) (ix d.ob (ix d.s.fr a)) (ix d.ob (ix d.s.to a)):=by
 have h1:=h.lob;have h2:=h.lar;have h3:=h.la;have h4:=h.lo;have hs:=h.s.1;have:=h.t.1.m40;have li:=hs.li;have lt:=hs.lt;refine ⟨h4,h3,lt,h1,h2,this,li,fun a ha=>?_⟩;have c1:=hs.fr' (j:=a) (by omega) (by omega);have c2:=hs.to' (j:=a) (by omega) (by omega);exact ⟨by omega,by omega,h.ar a ha,h.ends a (by omega)⟩
theorem Q8o {d:Fn} (hd:d.Is) {p q:List Int} {j a:Nat} (ha:a<d.ar.length) (hm:lmax d a=(j:Int)) (h:∀ i:Nat,i≤j→ix p i=ix q i):leq d p a↔leq d q a:=by
 obtain ⟨f1,f2,f3⟩:=hd.fact.2.2.2.2.2.2.2 a ha;obtain ⟨r,hr⟩:=Int.eq_ofNat_of_zero_le f1.1;obtain ⟨t,ht⟩:=Int.eq_ofNat_of_zero_le f2.1;unfold lmax at hm;unfold leq;rw [hr,ht] at hm ⊢;have:r≤j∧t≤j:=by split at hm<;>omega
 rw [h r this.1,h t this.2]
theorem e_legs {d:Fn} (hd:d.Is) {x:Int}:∀ (m k:Nat) (p list:List Int) (out:List Cone),m+p.length=d.ob.length→m<k→LP d x p→list.length=d.ob.length→(∀ i:Nat,i<p.length→ix list i=ix p i)→out.length≤400 →
  ∃ list':List Int,(list'.length=d.ob.length∧∀ i:Nat,i<p.length→ix list' i=ix p i)∧QA k p.length d out x list d.t d.ob d.ar x d=some ((finC out ((lext d x m p).map (Cone.mk x))).1,list',(finC out ((lext d x m p).map (Cone.mk x))).2):=by
 obtain ⟨l1,l2,l3,l4,l5,l6,l7,l8⟩:=hd.fact;have hc:=hd.t;intro m
 induction m with
 | zero =>
  intro k p list out hm hk hp hl hpre ho;obtain ⟨k,rfl⟩:∃ k',k=k' + 1:=⟨k - 1,by omega⟩;refine ⟨list,⟨hl,hpre⟩,?_⟩;have hlp:list=p:=ix_ext (by omega) fun i hi=>hpre i (by omega);subst hlp;unfold QA Q2x;try simp only
  rw [if_pos (by omega),Q4 (by omega)];simp only [Option.bind_some];rw [Q4 (by simp;omega)];simp only [Option.bind_some,lext,List.map_cons,List.map_nil];unfold finC
  by_cases h:out.length+1≤400
  ·rw [if_pos (by simpa using h)];simp;omega
  rw [if_neg (by simpa using h)];have:401 - out.length=1:=by omega
  rw [this];simp;omega
 | succ m ih =>
  intro k p list out hm hk hp hl hpre ho;obtain ⟨k,rfl⟩:∃ k',k=k' + 1:=⟨k - 1,by omega⟩;have hH:=Q4P d.t x (ix d.ob p.length);have hob:=hd.ob p.length (by omega)
  let H:=homL d.t x (ix d.ob p.length)
  have hHl:H.length≤d.t.fr.length:=hH
  let X:Nat→List Cone:=fun i=>((H.take i).flatMap fun f=>lnx d p.length (p++[f]) (lext d x m (p++[f]))).map (Cone.mk x)
  have hX:∀ i,i<H.length→X (i+1)=X i++(lnx d p.length (p++[ix H i]) (lext d x m (p++[ix H i]))).map (Cone.mk x):=by
   intro i hi;simp only [X];rw [List.take_succ_eq_append_getElem hi,Q11 _ _ hi];simp
  have hXe:X H.length=(lext d x (m+1) p).map (Cone.mk x):=by simp [X,lext,H]
  have hXs:∀ i,i≤H.length→∃ B,(lext d x (m+1) p).map (Cone.mk x)=X i++B:=by
   intro i hi;refine ⟨((H.drop i).flatMap fun f=>lnx d p.length (p++[f]) (lext d x m (p++[f]))).map (Cone.mk x),?_⟩;rw [← hXe];simp only [X,List.take_length];rw [← List.map_append,← List.flatMap_append,List.take_append_drop]
  let good:List Int→Prop:=fun lst=>lst.length=d.ob.length∧∀ i:Nat,i<p.length→ix lst i=ix p i
  let F:=finC out ((lext d x (m+1) p).map (Cone.mk x))
  unfold QA;try simp only
  rw [if_neg (by omega),Q4 (by omega),show Qz d.t x (ix d.ob p.length)=some H from (Q8d hc _ _).2];simp only [Option.bind_some];refine QZ (σ:=List Cone × List Int × Int) (Q:=fun z=>∃ list':List Int,(list'.length=d.ob.length∧∀ i:Nat,i<p.length→ix list' i=ix p i)∧z=some (F.1,list',F.2)) H.length
   (fun i s=>∃ o lst,s=(o,lst,(i:Int))∧good lst∧finC out (X i)=(o,true))
   (fun e:(List Cone × List Int) ⊕ (List Cone × List Int × Bool)=>match e with
    | .inl e=>good e.2∧F=(e.1,true)
    | .inr e=>good e.2.1∧F=(e.1,false)∧e.2.2=false)
   (by show (homL d.t x (ix d.ob p.length)).length<_;omega) ⟨out,list,rfl,⟨hl,hpre⟩,by simp [X];exact Q8i ho⟩ ?_ ?_ ?_
  ·intro i s hi ⟨o,lst,hse,⟨g1,g2⟩,hF⟩;subst hse;have Af:Ar d.t (ix H i) x (ix d.ob p.length):=Q8r Q3F hi;have ho':o.length≤400:=(by have:=finC_ok (out:=out) (L:=X i) (by rw [hF]);rw [hF] at this;exact this);have hi2:(i:Int)<(H.length:Int):=by omega
   let p2:=p++[ix H i]
   let lst2:=lst.set p.length (ix H i)
   have hl2:lst2.length=d.ob.length:=(by simp [lst2,g1]);have hp2:∀ q:Nat,q<p2.length→ix lst2 q=ix p2 q:=by
    intro q hq;simp only [p2,List.length_append,List.length_singleton] at hq
    by_cases hqp:q<p.length
    ·simp only [lst2,p2];rw [Q54 (by omega),Q2S hqp];exact g2 q hqp
    have:q=p.length:=(by omega);subst this;simp only [lst2,p2];rw [Q53 (by omega),Q5J]
   have hg2:good lst2:=⟨hl2,fun q hq=>by rw [hp2 q (by simp [p2];omega)];exact Q2S hq⟩;have hLP2:LP d x p2:=hp.snoc Af;have hX1:finC out (X (i+1))=finC o ((lnx d p.length p2 (lext d x m p2)).map (Cone.mk x)):=by
    rw [hX i hi,Q8h ho,hF];simp only [if_true];rfl
   have h1:∀ a:Nat,a<d.ar.length→lmax d a=(p.length:Int)→∃ r t:Nat,ix d.s.fr a=r∧ix d.s.to a=t∧r≤p.length∧t≤p.length:=by
    intro a ha hm';obtain ⟨f1,f2,f3⟩:=l8 a ha;obtain ⟨r,hr⟩:=Int.eq_ofNat_of_zero_le f1.1;obtain ⟨t,ht⟩:=Int.eq_ofNat_of_zero_le f2.1;unfold lmax at hm';refine ⟨r,t,hr,ht,?_⟩;rw [hr,ht] at hm';split at hm'<;>omega
   have hlq:∀ a:Nat,a<d.ar.length→lmax d a=(p.length:Int)→(leq d lst2 a↔leq d p2 a):=fun a ha hm'=>Q8o hd ha hm' fun q hq=>hp2 q (by simp [p2];omega);have body:∀ {β:Type} {K:(Unit ⊕ (List Cone × List Int))→Option β} {r:β},(lok d p2 p.length→K (.inl ())=some r)→(¬ lok d p2 p.length→K (.inr (o,lst2))=some r) →
     (Qw (σ:=Int) (ε:=Unit ⊕ (List Cone × List Int)) (fun s59 =>
       if s59<(d.ar.length:Int) then
        ass (0≤s59∧s59<(d.ar.length:Int)) <|
        ass (0≤s59∧s59<(d.s.fr.length:Int)) <|
        ass (0≤s59∧s59<(d.s.to.length:Int)) <|
        (
         if (if ix d.s.to s59 > ix d.s.fr s59 then ix d.s.to s59 else ix d.s.fr s59)=(p.length:Int) then
          ass (0≤ix d.s.fr s59∧ix d.s.fr s59<(lst2.length:Int)) <|
          (Qr d.t (ix lst2 (ix d.s.fr s59)) (ix d.ar s59)).bind fun v67 =>
          ass (0≤ix d.s.to s59∧ix d.s.to s59<(lst2.length:Int)) <|
          some (v67 != (ix lst2 (ix d.s.to s59)))
         else
          some false:Option (Bool)).bind fun b64 =>
        if b64=true then
         some (Ctl.ret (Sum.inr (o,lst2)))
        else
         ass (B64 (s59+1)) <|
         some (Ctl.next (s59+1))
       else
        some (Ctl.ret (Sum.inl ()))) fuel 0).bind K=some r:=by
    intro β K r k1 k2;have hthen:∀ a:Nat,a<d.ar.length→lmax d a=(p.length:Int)→Qr d.t (ix lst2 (ix d.s.fr a)) (ix d.ar a)=some (ix (rx d.t.cs (ix lst2 (ix d.s.fr a))) (ix d.ar a)):=by
     intro a ha hm';obtain ⟨r,t,hr,ht,hr2,ht2⟩:=h1 a ha hm';obtain ⟨f1,f2,f3⟩:=l8 a ha;have A:=hLP2 r (by simp [p2];omega);rw [← hp2 r (by simp [p2];omega),← hr] at A;exact (A.thn hc f3).2
    refine Q19 d.ar.length (fun a=>lmax d a=(p.length:Int)→leq d lst2 a) (eb:=Sum.inr (o,lst2)) (eg:=Sum.inl ()) (by omega) (fun a ha hq=>?_) (fun a ha hq=>?_) (by rw [if_neg (by omega)]) (fun hq=>k2 fun hl=>hq fun a ha hm'=>(hlq a ha hm').2 (hl a ha hm')) fun hq=>k1 fun a ha hm'=>(hlq a ha hm').1 (hq a ha hm')
    ·obtain ⟨f1,f2,f3⟩:=l8 a ha;rw [if_pos (by omega),Q4 (by omega),Q4 (by omega),Q4 (by omega)]
     by_cases hm':lmax d a=(p.length:Int)
     ·have hm2:(if ix d.s.to a > ix d.s.fr a then ix d.s.to a else ix d.s.fr a)=(p.length:Int):=hm';have e:=hq hm';unfold leq at e;rw [if_pos hm2,Q4 (by omega),hthen a ha hm'];simp only [Option.bind_some];rw [Q4 (by omega),e];simp only [bne_self_eq_false,Option.bind_some,Bool.false_eq_true,if_false];rw [Q4 (by unfold B64;omega)]
     have hm2:¬ (if ix d.s.to a > ix d.s.fr a then ix d.s.to a else ix d.s.fr a)=(p.length:Int):=hm';rw [if_neg hm2];simp only [Option.bind_some,Bool.false_eq_true,if_false];rw [Q4 (by unfold B64;omega)]
    obtain ⟨f1,f2,f3⟩:=l8 a ha;have hm':lmax d a=(p.length:Int):=Classical.byContradiction fun h=>hq fun h'=>absurd h' h;have e:¬ leq d lst2 a:=fun h=>hq fun _=>h;have hm2:(if ix d.s.to a > ix d.s.fr a then ix d.s.to a else ix d.s.fr a)=(p.length:Int):=hm';unfold leq at e;rw [if_pos (by omega),Q4 (by omega),Q4 (by omega),Q4 (by omega),if_pos hm2,Q4 (by omega),hthen a ha hm'];simp only [Option.bind_some];rw [Q4 (by omega)];simp [e]
   by_cases hlok:lok d p2 p.length
   ·have hL:lnx d p.length p2 (lext d x m p2)=lext d x m p2:=(by unfold lnx;rw [if_pos hlok]);rw [hL] at hX1;obtain ⟨l',⟨q1,q2⟩,q3⟩:=ih k p2 lst2 o (by simp [p2];omega) (by omega) hLP2 hl2 hp2 ho';have hpl:((p2.length:Nat):Int)=(p.length:Int)+1:=(by simp [p2]);rw [hpl] at q3;have gl':good l':=⟨q1,fun q hq=>by rw [q2 q (by simp [p2];omega)];exact Q2S hq⟩
    by_cases hf:(finC o ((lext d x m p2).map (Cone.mk x))).2=true
    ·left;refine ⟨((finC o ((lext d x m p2).map (Cone.mk x))).1,l',(i:Int)+1),?_,_,l',rfl,gl',?_⟩
     ·simp only;rw [if_pos hi2,Q4 ⟨by omega,hi2⟩,Q4 (by omega)];simp only [Option.bind_assoc,Int.toNat_natCast];refine body (fun _=>?_) fun h=>absurd hlok h;simp only;rw [Q4 (by unfold B64;omega),q3];simp only [Option.bind_some,hf,not_true_eq_false,if_false];rw [Q4 (by unfold B64;omega)]
     rw [hX1];exact Prod.ext rfl hf
    right;have hf':(finC o ((lext d x m p2).map (Cone.mk x))).2=false:=(by simpa using hf);refine ⟨.inr ((finC o ((lext d x m p2).map (Cone.mk x))).1,l',false),?_,gl',?_,rfl⟩
    ·simp only;rw [if_pos hi2,Q4 ⟨by omega,hi2⟩,Q4 (by omega)];simp only [Option.bind_assoc,Int.toNat_natCast];refine body (fun _=>?_) fun h=>absurd hlok h;simp only;rw [Q4 (by unfold B64;omega),q3];simp [hf']
    obtain ⟨B,hB⟩:=hXs (i+1) (by omega);show finC out _=_;rw [hB,Q8h ho,hX1,hf'];simp only [Bool.false_eq_true,if_false];exact Prod.ext rfl hf'
   have hL:lnx d p.length p2 (lext d x m p2)=[]:=(by unfold lnx;rw [if_neg hlok]);rw [hL] at hX1;left;refine ⟨(o,lst2,(i:Int)+1),?_,o,lst2,rfl,hg2,?_⟩
   ·simp only;rw [if_pos hi2,Q4 ⟨by omega,hi2⟩,Q4 (by omega)];simp only [Option.bind_assoc,Int.toNat_natCast];refine body (fun h=>absurd h hlok) fun _=>?_;simp only [Option.bind_some];rw [Q4 (by unfold B64;omega)]
   rw [hX1];exact Q8i ho'
  ·intro s ⟨o,lst,hse,hg,hF⟩;subst hse;refine ⟨.inl (o,lst),?_,hg,?_⟩
   ·simp only;rw [if_neg (by omega)]
   show finC out _=_;rw [← hXe];exact hF
  intro e he;cases e with
  | inl e=>exact ⟨e.2,he.1,by rw [he.2]⟩
  | inr e =>
   obtain ⟨e1,e2,e3⟩:=e;refine ⟨e2,he.1,?_⟩;have q1:=he.2.1;have q2:=he.2.2;simp only at q1 q2;subst q2;rw [q1]
noncomputable def Q5v (d:Fn) (x:Int):List Cone:=(lext d x d.ob.length []).map (Cone.mk x)
noncomputable def Q1j (d:Fn) (k:Nat):List Cone:=(List.range k).flatMap fun x:Nat=>Q5v d x
noncomputable def QP (d:Fn):List Cone:=Q1j d d.t.n.toNat
theorem Q2o (d:Fn) (k:Nat):Q1j d (k+1)=Q1j d k++Q5v d k:=by simp [Q1j,List.range_succ]
theorem Q8G (d:Fn) {i k:Nat} (h:i≤k):(Q1j d i).length≤(Q1j d k).length:=by
 obtain ⟨m,rfl⟩:=Nat.le.dest h;clear h
 induction m with
 | zero=>exact Nat.le_refl _
 | succ m ih =>
  rw [← Nat.add_assoc,Q2o,List.length_append];omega
theorem Q5H {d:Fn} (hd:d.Is):Q1I d=some (if (QP d).length≤400 then (QP d,true) else ([],false)):=by
 obtain ⟨l1,l2,l3,l4,l5,l6,l7,l8⟩:=hd.fact;have n8:=hd.t.1.n8;have n0:=hd.t.1.n0;unfold Q1I;refine QZ (σ:=List Cone × Int) (Q:=fun z=>z=some (if (QP d).length≤400 then (QP d,true) else ([],false))) d.t.n.toNat (fun i s=>s=(Q1j d i,(i:Int))∧(Q1j d i).length≤400)
  (fun e:List Cone ⊕ (List Cone × Bool)=>match e with
   | .inl e=>e=QP d∧(QP d).length≤400
   | .inr e=>e=([],false)∧400<(QP d).length) (by omega) ⟨rfl,by simp [Q1j]⟩ ?_ ?_ ?_
 ·intro i s hi ⟨hse,hl⟩;subst hse;obtain ⟨l',_,q⟩:=e_legs hd (x:=i) d.ob.length 100 [] (List.replicate d.ob.length 0) (Q1j d i) (by simp) (by omega) (fun j hj=>by simp at hj) (by simp) (fun j hj=>by simp at hj) hl;have q':QA 100 0 d (Q1j d i) i (List.replicate ((d.ob.length:Int).toNat) 0) d.t d.ob d.ar i d=some ((finC (Q1j d i) (Q5v d i)).1,l',(finC (Q1j d i) (Q5v d i)).2):=q;have hm:=Q8G d (i:=i+1) (k:=d.t.n.toNat) (by omega)
  by_cases h:(Q1j d i).length+(Q5v d i).length≤400
  ·left;have e:finC (Q1j d i) (Q5v d i)=(Q1j d (i+1),true):=(by unfold finC;rw [if_pos h,Q2o]);refine ⟨(Q1j d (i+1),(i:Int)+1),?_,rfl,by rw [Q2o,List.length_append];exact h⟩;simp only;rw [if_pos (by omega),Q4 (by omega),q',e];simp only [Option.bind_some,not_true_eq_false,if_false];rw [Q4 (by unfold B64;omega)]
  right;have e:(finC (Q1j d i) (Q5v d i)).2=false:=by unfold finC;rw [if_neg h]
  refine ⟨.inr ([],false),?_,rfl,?_⟩
  ·simp only;rw [if_pos (by omega),Q4 (by omega),q'];simp [e]
  rw [Q2o,List.length_append] at hm;unfold QP;omega
 ·intro s ⟨hse,hl⟩;subst hse;refine ⟨.inl (QP d),?_,rfl,hl⟩;simp only;rw [if_neg (by omega)];rfl
 intro e he;cases e with
 | inl e=>rw [if_pos he.2,he.1]
 | inr e=>rw [if_neg (by have:=he.2;omega),he.1]
end
section
attribute [local simp] Qf QG Qu Q16 QE
theorem Cat.Is.Ai {c:Cat} (h:c.Is) {x:Int} (hx:0≤x∧x<c.n):Ar c (ix c.id x) x x:=by
 have h1:=h.1.li;obtain ⟨i,rfl⟩:=Int.eq_ofNat_of_zero_le hx.1;have h2:=h.1.ids i (by omega);exact ⟨h.1.id' (by omega) (by omega),h2.1,h2.2⟩
end
section
attribute [local simp] Qf QG Qu Q16 QE
theorem Cat.Is.idl {c:Cat} (hc:c.Is) {f x y:Int} (a:Ar c f x y):ix (rx c.cs (ix c.id x)) f=f∧ix (rx c.cs f) (ix c.id y)=f:=by
 obtain ⟨i,rfl⟩:=Int.eq_ofNat_of_zero_le a.1.1;have:=hc.2.1 i (by have:=a.1;omega);unfold Cat.un at this;rw [a.2.1,a.2.2] at this;exact this
end
attribute [local simp] unk unA unE unT unC flat eL eI Qo QR Q1l Cat.cells Fn.cells
noncomputable def Q1o (c_:Cat) (d_:Cat) (y_:Int):Option Fn :=
 (Qw (σ:=List Int × Int) (ε:=List Int) (fun s5 =>
  if s5.2<c_.n then
   ass ((s5.1++[y_]).length≤1073741824) <|
   ass (B64 (s5.2+1)) <|
   some (Ctl.next (s5.1++[y_],s5.2+1))
  else
   some (Ctl.ret s5.1)) fuel ([],0)).bind fun b1 =>
 (Qw (σ:=List Int × Int) (ε:=List Int) (fun s14 =>
  if s14.2<(c_.fr.length:Int) then
   ass (0≤y_∧y_<(d_.id.length:Int)) <|
   ass ((s14.1++[ix d_.id y_]).length≤1073741824) <|
   ass (B64 (s14.2+1)) <|
   some (Ctl.next (s14.1++[ix d_.id y_],s14.2+1))
  else
   some (Ctl.ret s14.1)) fuel ([],0)).bind fun b9 =>
 (Q1Z c_ d_ b1 b9).bind fun v19 =>
 some v19
@[simp] abbrev Yw (a:Int) (b:List (Nat × AV)):List (Nat × AV):=(2,iV a)::(3,.adr 0 0 0)::(4,.adr 1 0 0)::(6,.adr 2 0 0)::b
theorem Q5r (c_:Cat) (d_:Cat) (y_:Int) (r:Fn) (h:Q1o c_ d_ y_=some r):Contract Try.prog 71 (Y0x c_ (Y0x d_ [iV y_])) (.agg (r.cells true)):=by
 refine Q8 (rvs:=[.cell 6 33]) (rs:=[.agg (r.cells true)]) Try.func71 rfl rfl rfl rfl (by simp [Try.f71]) fun F hN hP=>?_;unfold Q1o at h;refine Q0 (runQ hN fun K hK=>?_);simp;repeat refine sdQ ?_
 refine hK _ ?_;clear hK K;refine tn (Q3 (st':=⟨Yw y_ [],Yc c_ d_ [],3⟩) (wkI9 3) (Q0 (runQ hN fun K hK=>?_)));simp;repeat refine sdQ ?_
 refine hK _ ?_;clear hK K;refine tn (Q3 (st':=⟨Yw y_ [(7,.own 3 0 0),(8,.own 4 0 0)],Yc c_ d_ [(3,.mix 1 []),(4,.mix 1 [])],5⟩) (wkI9 5) (Q0 (Q0 (runQ hN fun K hK=>?_))));simp;repeat refine sdQ ?_
 refine hK _ (tn (Q3 (st':=⟨Yw y_ [(7,.own 3 0 0),(8,.own 4 0 0),(9,iV 0)],Yc c_ d_ [(3,.mix 1 []),(4,.mix 1 [])],5⟩) (wkI9 5) ?_));clear hK K;replace ⟨e1,h,h1⟩:=bind_some h;refine Qd (fun b1:List Int=>⟨Yw y_ [(7,.own 3 0 b1.length),(8,.own 4 0 0)],Yc c_ d_ [(3,rI b1),(4,.mix 1 [])],5⟩) (fun b1=>b1=e1) ?_ ?_
 ·refine Q5 (Qt h (fun s5:List Int × Int=>⟨Yw y_ [(7,.own 3 0 s5.1.length),(8,.own 4 0 0),(9,iV s5.2)],Yc c_ d_ [(3,rI s5.1),(4,.mix 1 [])],5⟩) (Q3m ⟨Yw y_ [(7,.own 3 0 0),(8,.own 4 0 0),(9,iV 0)],Yc c_ d_ [(3,rI []),(4,.mix 1 [])],5⟩ (Wk.nils [] (by simp) (by simp) (by simp [nlA]) (by simp [entN,nlL,nlA,Cat.cells,Fn.cells,UA,U1,IA,I1,LA,L1,BA,B1,EA,E1,E2,eB,eI,eL]) (by simp)) (wkI9 5)) ?_);clear h;intro k5 s5 c5 h hk5;refine Q0 (Q0 (runQ hN fun K hK=>?_));simp;repeat refine sdQ ?_
  refine hK _ ?_;clear hK K;refine tn (Q6 rfl (fun g=>?_) fun g=>?_)
  ·have g6:s5.2<c_.n:=gQ;clear g;replace h:=if_l g6 h;refine Q7 (tn (Q0 (Q5 (runQ hN fun K hK=>?_))));replace ⟨a7,h⟩:=Q2 h;(try simp only [List.length_append,List.length_cons,List.length_nil] at a7);simp [a7];(repeat refine sdQ ?_);refine hK _ ?_;clear hK K;refine bn (tn (Q3 (st':=⟨Yw y_ [(7,.own 3 0 ((s5.1++[y_]).length)),(8,.own 4 0 0),(9,iV s5.2)],Yc c_ d_ [(3,rI (s5.1++[y_])),(4,.mix 1 [])],5⟩) (wkQ9 [(0,0),(1,1),(2,2),(6,3),(4,4)]) (runQ hN fun K hK=>?_)));replace ⟨a8,h⟩:=Q2 h;simp [Qp a8];(repeat refine sdQ ?_);refine hK _ ?_;clear hK K;cases h;exact rn (s':=(s5.1++[y_],s5.2+1)) hk5 (wkI9 5)
  have g6:¬ (s5.2<c_.n):=gQ;clear g;replace h:=if_r g6 h;refine Qj (tx (lx (bh ?_)));cases h;exact jn (b:=s5.1) hk5 (wkI9 5)
 intro b1 hb1;have h:=h1;try rw [← hb1] at h
 clear h1;try dsimp only at h
 refine Q0 (Q0 (runQ hN fun K hK=>?_));simp;repeat refine sdQ ?_
 refine hK _ (tn (Q3 (st':=⟨Yw y_ [(7,.own 3 0 b1.length),(8,.own 4 0 0),(10,iV 0)],Yc c_ d_ [(3,rI b1),(4,.mix 1 [])],5⟩) (wkI9 5) ?_));clear hK K;replace ⟨e9,h,h9⟩:=bind_some h;refine Qd (fun b9:List Int=>⟨[(3,.adr 0 0 0),(4,.adr 1 0 0),(6,.adr 2 0 0),(7,.own 3 0 b1.length),(8,.own 4 0 b9.length)],Yc c_ d_ [(3,rI b1),(4,rI b9)],5⟩) (fun b9=>b9=e9) ?_ ?_
 ·refine Q5 (Qt h (fun s14:List Int × Int=>⟨Yw y_ [(7,.own 3 0 b1.length),(8,.own 4 0 s14.1.length),(10,iV s14.2)],Yc c_ d_ [(3,rI b1),(4,rI s14.1)],5⟩) (Q3m ⟨Yw y_ [(7,.own 3 0 b1.length),(8,.own 4 0 0),(10,iV 0)],Yc c_ d_ [(3,rI b1),(4,rI [])],5⟩ (Wk.nils [] (by simp) (by simp) (by simp [nlA]) (by simp [entN,nlL,nlA,Cat.cells,Fn.cells,UA,U1,IA,I1,LA,L1,BA,B1,EA,E1,E2,eB,eI,eL]) (by simp)) (wkI9 5)) ?_);clear h;intro k14 s14 c14 h hk14;refine Q0 (Q0 (runQ hN fun K hK=>?_));simp;repeat refine sdQ ?_
  refine hK _ ?_;clear hK K;refine tn (Q6 rfl (fun g=>?_) fun g=>?_)
  ·have g15:s14.2<(c_.fr.length:Int):=gQ;clear g;replace h:=if_l g15 h;refine Q7 (tn (Q0 (Q5 (runQ hN fun K hK=>?_))));replace ⟨a16,h⟩:=Q2 h;replace ⟨a17,h⟩:=Q2 h;(try simp only [List.length_append,List.length_cons,List.length_nil] at a17);simp [at_I a16,a17];(repeat refine sdQ ?_);refine hK _ ?_;clear hK K;refine bn (tn (Q3 (st':=⟨Yw y_ [(7,.own 3 0 b1.length),(8,.own 4 0 ((s14.1++[ix d_.id y_]).length)),(10,iV s14.2)],Yc c_ d_ [(3,rI b1),(4,rI (s14.1++[ix d_.id y_]))],5⟩) (wkQ9 [(0,0),(1,1),(2,2),(3,3),(6,4)]) (runQ hN fun K hK=>?_)));replace ⟨a18,h⟩:=Q2 h;simp [Qp a18];(repeat refine sdQ ?_);refine hK _ ?_;clear hK K;cases h;exact rn (s':=(s14.1++[ix d_.id y_],s14.2+1)) hk14 (wkI9 5)
  have g15:¬ (s14.2<(c_.fr.length:Int)):=gQ;clear g;replace h:=if_r g15 h;refine Qj (tx (lx (bh ?_)));cases h;exact jn (b:=s14.1) hk14 (wkI9 5)
 intro b9 hb9;have h:=h9;try rw [← hb9] at h
 clear h9;try dsimp only at h
 refine Q0 (runQ hN fun K hK=>?_);simp;repeat with_reducible refine sdQ ?_
 replace ⟨v19,hv19,h⟩:=bind_some h;refine Q1 (Q5s _ _ _ _ v19 hv19) (.cons (.aggL (.cons .val (.cons .lst (.cons .lst (.cons .lst (.cons .lst .nil)))))) (.cons (.aggL (.cons .val (.cons .lst (.cons .lst (.cons .lst (.cons .lst .nil)))))) (.cons .w (.cons .w .nil)))) ?_;simp;repeat refine sdQ ?_
 refine hK _ (tn (Q3 (st':=⟨[(6,.adr 0 0 0)],Yn v19 (Y9 v19 []),11⟩) (wkQ9 [(2,0),(6,1),(7,2),(8,3),(9,4),(11,5),(12,6),(13,7),(14,8),(15,9),(16,10)]) (Qe ?_)));clear hK K;have hr:=Option.some.inj h;rw [← hr];refine ⟨_,(.cell Q6s rfl rfl rfl (by simp) (by simp) .nil),?_⟩;refine ⟨(.agg rfl .nil),[iV v19.s.n,lI v19.s.fr,lI v19.s.to,lI v19.s.id,.lst true 1 (Ls v19.s.cs),iV v19.t.n,lI v19.t.fr,lI v19.t.to,lI v19.t.id,.lst true 1 (Ls v19.t.cs),lI v19.ob,lI v19.ar],[1,2,3,4,5,6,7,8,9,10],by simp [Cat.cells,Fn.cells,UA,U1,IA,I1,LA,L1,BA,B1,EA,E1,E2,eB,eI,eL],by simp,(UpL.refl _)⟩
attribute [local simp] unk unA unE unT unC flat eL eI Qo QR Q1l Qi Cat.cells Fn.cells XL07State.cells
noncomputable def Q1i (s_:XL07State) (components_:List Int) (x_:Int):Option (List Int) :=
 ass (0≤x_∧x_<(s_.f_.ob.length:Int)) <|
 ass (0≤x_∧x_<(s_.g_.ob.length:Int)) <|
 (Q1Y s_.f_.t (ix s_.f_.ob x_) (ix s_.g_.ob x_)).bind fun v3 =>
 (Qw (σ:=List Int × Int) (ε:=List Int) (fun s58 =>
  if s58.2<(v3.length:Int) then
   (
    (
     if s_.iso_=true then
      ass (0≤s58.2∧s58.2<(v3.length:Int)) <|
      (Q2M s_.f_.t (ix v3 s58.2)).bind fun v64 =>
      some (decide (v64<0))
     else
      some false:Option (Bool)).bind fun b61 =>
    if b61=true then
     some s58.1
    else
     (Q15 components_).bind fun v66 =>
     ass (0≤s58.2∧s58.2<(v3.length:Int)) <|
     ass (0≤x_∧x_<(v66.length:Int)) <|
     (Qw (σ:=Bool × Int) (ε:=Bool) (fun s88 =>
      (
       if s88.1=true then
        some (decide (s88.2<(s_.f_.ar.length:Int)))
       else
        some false:Option (Bool)).bind fun b89 =>
      if b89=true then
       (
        ass (0≤s88.2∧s88.2<(s_.f_.s.fr.length:Int)) <|
        ass (0≤s88.2∧s88.2<(s_.f_.s.to.length:Int)) <|
        if ¬ ((ix s_.f_.s.fr s88.2)=x_) then
         if ¬ ((ix s_.f_.s.to s88.2)=x_) then
          some true
         else
          ass (0≤ix s_.f_.s.fr s88.2∧ix s_.f_.s.fr s88.2<((v66.set x_.toNat (ix v3 s58.2)).length:Int)) <|
          if (ix (v66.set x_.toNat (ix v3 s58.2)) (ix s_.f_.s.fr s88.2))<0 then
           some true
          else
           ass (0≤ix s_.f_.s.to s88.2∧ix s_.f_.s.to s88.2<((v66.set x_.toNat (ix v3 s58.2)).length:Int)) <|
           if (ix (v66.set x_.toNat (ix v3 s58.2)) (ix s_.f_.s.to s88.2))<0 then
            some true
           else
            (QN s_.f_ s_.g_ (v66.set x_.toNat (ix v3 s58.2)) s88.2).bind fun v101 =>
            some v101
        else
         ass (0≤ix s_.f_.s.fr s88.2∧ix s_.f_.s.fr s88.2<((v66.set x_.toNat (ix v3 s58.2)).length:Int)) <|
         if (ix (v66.set x_.toNat (ix v3 s58.2)) (ix s_.f_.s.fr s88.2))<0 then
          some true
         else
          ass (0≤ix s_.f_.s.to s88.2∧ix s_.f_.s.to s88.2<((v66.set x_.toNat (ix v3 s58.2)).length:Int)) <|
          if (ix (v66.set x_.toNat (ix v3 s58.2)) (ix s_.f_.s.to s88.2))<0 then
           some true
          else
           (QN s_.f_ s_.g_ (v66.set x_.toNat (ix v3 s58.2)) s88.2).bind fun v106 =>
           some v106:Option (Bool)).bind fun b92 =>
       ass (B64 (s88.2+1)) <|
       some (Ctl.next (b92,s88.2+1))
      else
       some (Ctl.ret s88.1)) fuel (true,0)).bind fun b69 =>
     if b69=true then
      ass (0≤s58.2∧s58.2<(v3.length:Int)) <|
      ass ((s58.1++[ix v3 s58.2]).length≤1073741824) <|
      some (s58.1++[ix v3 s58.2])
     else
      some s58.1:Option (List Int)).bind fun b60 =>
   ass (B64 (s58.2+1)) <|
   some (Ctl.next (b60,s58.2+1))
  else
   some (Ctl.ret s58.1)) fuel ([],0)).bind fun b4 =>
 some b4
@[simp] abbrev Ye (a:XL07State) (b:List Int) (c:Int) (d:List Int) (e:List (Nat × AV)):List (Nat × AV):=(0,.rptr (XL07State.cells true a))::(1,lI b)::(2,iV c)::(7,.adr 0 0 0)::(8,.adr 1 0 0)::(9,.own 2 0 d.length)::e
@[simp] abbrev Yh (a:XL07State) (b:List Int) (c:List (Nat × Ent)):List (Nat × Ent):=(0,.mix 5 [(Cat.cells true a.f_.s)])::(1,.mix 5 [(Cat.cells true a.f_.t)])::(2,rI b)::c
@[simp] abbrev YB (a:List Int × Int) (b:List Int) (c:Int) (d:List Int) (e:List (Nat × AV)):List (Nat × AV):=(10,.own 3 0 a.1.length)::(11,iV a.2)::(12,.own 4 0 ((b.set c.toNat (ix d a.2)).length))::e
@[simp] abbrev Y0f (a:List Int × Int) (b:List Int) (c:Int) (d:List Int) (e:List (Nat × Ent)):List (Nat × Ent):=(3,rI a.1)::(4,rI (b.set c.toNat (ix d a.2)))::e
theorem Q3Q (s_:XL07State) (components_:List Int) (x_:Int) (r:List Int) (h:Q1i s_ components_ x_=some r):Contract Try.prog 89 [.rptr (s_.cells true),lI components_,iV x_] (lI r):=by
 refine Q8 (rvs:=[.tmp 6]) (rs:=[lI r]) Try.func89 rfl rfl rfl rfl (by simp [Try.f89]) fun F hN hP=>?_;unfold Q1i at h;refine Q0 (runQ hN fun K hK=>?_);simp;repeat refine sdQ ?_
 refine hK _ ?_;clear hK K;refine tn (Q3 (st':=⟨[(0,.rptr (XL07State.cells true s_)),(1,lI components_),(2,iV x_)],[],0⟩) (wkQ9 []) (Q0 (w_runS mo (by rw [hN];decide) fun K hK=>?_)));simp;repeat refine sdQ ?_
 refine hK _ ?_;clear hK K;refine tn (Q3 (st':=⟨[(0,.rptr (XL07State.cells true s_)),(1,lI components_),(2,iV x_),(7,.adr 0 0 0),(8,.adr 1 0 0)],[(0,.mix 5 [(Cat.cells true s_.f_.s)]),(1,.mix 5 [(Cat.cells true s_.f_.t)])],2⟩) (wkQ9 [(0,0),(1,1)]) (Q0 (runQ hN fun K hK=>?_)));replace ⟨a1,h⟩:=Q2 h;replace ⟨a2,h⟩:=Q2 h;simp [at_I a1,at_I a2];repeat with_reducible refine sdQ ?_
 replace ⟨v3,hv3,h⟩:=bind_some h;refine Q1 (Q60 _ _ _ v3 hv3) (.cons (.aggL (.cons .val (.cons .lst (.cons .lst (.cons .lst (.cons .lst .nil)))))) (.cons .val (.cons .val .nil))) ?_;simp [at_I a1,at_I a2];repeat refine sdQ ?_
 refine hK _ ?_;clear hK K;refine tn (Q3 (st':=⟨Ye s_ components_ x_ v3 [],Yh s_ v3 [],3⟩) (wkI9 3) (Q0 (runQ hN fun K hK=>?_)));simp;repeat refine sdQ ?_
 refine hK _ ?_;clear hK K;refine tn (Q3 (st':=⟨Ye s_ components_ x_ v3 [(10,.own 3 0 0)],Yh s_ v3 [(3,.mix 1 [])],4⟩) (wkI9 4) (Q0 (Q0 (runQ hN fun K hK=>?_))));simp;repeat refine sdQ ?_
 refine hK _ (tn (Q3 (st':=⟨Ye s_ components_ x_ v3 [(10,.own 3 0 0),(11,iV 0)],Yh s_ v3 [(3,.mix 1 [])],4⟩) (wkI9 4) ?_));clear hK K;replace ⟨e4,h,h4⟩:=bind_some h;refine Qd (fun b4:List Int=>⟨[(10,.own 0 0 b4.length)],[(0,rI b4)],1⟩) (fun b4=>b4=e4) ?_ ?_
 ·refine Q5 (Qt h (fun s58:List Int × Int=>⟨Ye s_ components_ x_ v3 [(10,.own 3 0 s58.1.length),(11,iV s58.2)],Yh s_ v3 [(3,rI s58.1)],4⟩) (Q3m ⟨Ye s_ components_ x_ v3 [(10,.own 3 0 0),(11,iV 0)],Yh s_ v3 [(3,rI [])],4⟩ (Wk.nils [] (by simp) (by simp) (by simp [nlA]) (by simp [entN,nlL,nlA,Cat.cells,Fn.cells,XL07State.cells,UA,U1,IA,I1,LA,L1,BA,B1,EA,E1,E2,eB,eI,eL,Qa _ Qi _ (fun _=>rfl)]) (by simp)) (wkI9 4)) ?_);clear h;intro k58 s58 c58 h hk58;refine Q0 (Q0 (runQ hN fun K hK=>?_));simp;repeat refine sdQ ?_
  refine hK _ ?_;clear hK K;refine tn (Q6 rfl (fun g=>?_) fun g=>?_)
  ·have g59:s58.2<(v3.length:Int):=gQ;clear g;replace h:=if_l g59 h;refine Q7 (tn (Q0 ?_));replace ⟨e60,h,h60⟩:=bind_some h;refine Qd (fun b60:List Int=>⟨Ye s_ components_ x_ v3 [(10,.own 3 0 b60.length),(11,iV s58.2)],Yh s_ v3 [(3,rI b60)],4⟩) (fun b60=>b60=e60) ?_ ?_
   ·refine Q5 (Q0 (Q0 ?_));replace ⟨e61,h,h61⟩:=bind_some h;refine Qd (fun b61:Bool=>⟨Ye s_ components_ x_ v3 [(10,.own 3 0 s58.1.length),(11,iV s58.2),(64,.val (.bool b61))],Yh s_ v3 [(3,rI s58.1)],4⟩) (fun b61=>b61=e61) ?_ ?_
    ·refine runQ hN fun K hK=>?_;simp;(repeat with_reducible refine sdQ ?_);refine Qh (fun g=>?_) (fun g=>?_)
     ·have g62:s_.iso_=true:=gQ;clear g;replace h:=if_l g62 h;replace ⟨a63,h⟩:=Q2 h;simp [at_I a63];(repeat with_reducible refine sdQ ?_);replace ⟨v64,hv64,h⟩:=bind_some h;refine Q1 (Q5B _ _ v64 hv64) (.cons (.aggL (.cons .val (.cons .lst (.cons .lst (.cons .lst (.cons .lst .nil)))))) (.cons .val .nil)) ?_;simp [at_I a63];(repeat refine sdQ ?_);refine hK _ ?_;exact jn (b:=decide (v64<0)) (Option.some.inj h) (wkI9 4)
     have g62:¬ (s_.iso_=true):=gQ;clear g;replace h:=if_r g62 h;simp;(repeat refine sdQ ?_);refine hK _ ?_;exact jn (b:=false) (Option.some.inj h) (wkI9 4)
    intro b61 hb61;have h:=h61;(try rw [← hb61] at h);clear h61;(try dsimp only at h);refine Q6 rfl (fun g=>?_) fun g=>?_
    ·have g65:b61=true:=gQ;clear g;replace h:=if_l g65 h;refine Qj (tx (bh ?_));exact jn (b:=s58.1) (Option.some.inj h) (wkI9 4)
    have g65:¬ (b61=true):=gQ;clear g;replace h:=if_r g65 h;refine Q7 (tn (Q0 (runQ hN fun K hK=>?_)));simp;(repeat with_reducible refine sdQ ?_);replace ⟨v66,hv66,h⟩:=bind_some h;refine Q1 (Q33 _ v66 hv66) (.cons .lst .nil) ?_;simp;(repeat refine sdQ ?_);refine hK _ ?_;clear hK K;refine tn (Q3 (st':=⟨Ye s_ components_ x_ v3 [(10,.own 3 0 s58.1.length),(11,iV s58.2),(12,.own 4 0 v66.length)],Yh s_ v3 [(3,rI s58.1),(4,rI v66)],5⟩) (wkI9 5) (Q0 (runQ hN fun K hK=>?_)));replace ⟨a67,h⟩:=Q2 h;replace ⟨a68,h⟩:=Q2 h;simp [at_I a67,at_I a68];(repeat refine sdQ ?_);refine hK _ ?_;clear hK K;refine tn (Q3 (st':=⟨Ye s_ components_ x_ v3 (YB s58 v66 x_ v3 []),Yh s_ v3 (Y0f s58 v66 x_ v3 []),5⟩) (wkI9 5) (Q0 (runQ hN fun K hK=>?_)));simp;(repeat refine sdQ ?_);refine hK _ ?_;clear hK K;refine tn (Q3 (st':=⟨Ye s_ components_ x_ v3 (YB s58 v66 x_ v3 [(13,.val (.bool true))]),Yh s_ v3 (Y0f s58 v66 x_ v3 []),5⟩) (wkI9 5) (Q0 (Q0 (runQ hN fun K hK=>?_))));simp;(repeat refine sdQ ?_);refine hK _ (tn (Q3 (st':=⟨Ye s_ components_ x_ v3 (YB s58 v66 x_ v3 [(13,.val (.bool true)),(14,iV 0)]),Yh s_ v3 (Y0f s58 v66 x_ v3 []),5⟩) (wkI9 5) ?_));clear hK K;replace ⟨e69,h,h69⟩:=bind_some h;refine Qd (fun b69:Bool=>⟨Ye s_ components_ x_ v3 [(10,.own 3 0 s58.1.length),(11,iV s58.2),(13,.val (.bool b69))],Yh s_ v3 [(3,rI s58.1)],4⟩) (fun b69=>b69=e69) ?_ ?_
    ·refine Q5 (Qt h (fun s88:Bool × Int=>⟨Ye s_ components_ x_ v3 (YB s58 v66 x_ v3 [(13,.val (.bool s88.1)),(14,iV s88.2)]),Yh s_ v3 (Y0f s58 v66 x_ v3 []),5⟩) (wkI9 5) ?_);clear h;intro k88 s88 c88 h hk88;refine Q0 (Q0 ?_);replace ⟨e89,h,h89⟩:=bind_some h;refine Qd (fun b89:Bool=>⟨Ye s_ components_ x_ v3 (YB s58 v66 x_ v3 [(13,.val (.bool s88.1)),(14,iV s88.2),(84,.val (.bool b89))]),Yh s_ v3 (Y0f s58 v66 x_ v3 []),5⟩) (fun b89=>b89=e89) ?_ ?_
     ·refine runQ hN fun K hK=>?_;simp;(repeat with_reducible refine sdQ ?_);refine Qh (fun g=>?_) (fun g=>?_)
      ·have g90:s88.1=true:=gQ;clear g;replace h:=if_l g90 h;simp;(repeat refine sdQ ?_);refine hK _ ?_;exact jn (b:=decide (s88.2<(s_.f_.ar.length:Int))) (Option.some.inj h) (wkI9 5)
      have g90:¬ (s88.1=true):=gQ;clear g;replace h:=if_r g90 h;simp;(repeat refine sdQ ?_);refine hK _ ?_;exact jn (b:=false) (Option.some.inj h) (wkI9 5)
     intro b89 hb89;have h:=h89;(try rw [← hb89] at h);clear h89;(try dsimp only at h);refine Q6 rfl (fun g=>?_) fun g=>?_
     ·have g91:b89=true:=gQ;clear g;replace h:=if_l g91 h;refine Q7 (tn (Q0 ?_));replace ⟨e92,h,h92⟩:=bind_some h;refine Qd (fun b92:Bool=>⟨Ye s_ components_ x_ v3 (YB s58 v66 x_ v3 [(13,.val (.bool b92)),(14,iV s88.2)]),Yh s_ v3 (Y0f s58 v66 x_ v3 []),5⟩) (fun b92=>b92=e92) ?_ ?_
      ·refine Q5 (Q0 (runQ hN fun K hK=>?_));replace ⟨a93,h⟩:=Q2 h;replace ⟨a94,h⟩:=Q2 h;simp [at_I a93,at_I a94];(repeat refine sdQ ?_);refine hK _ ?_;clear hK K;refine tn (Q3 (st':=⟨Ye s_ components_ x_ v3 (YB s58 v66 x_ v3 [(14,iV s88.2),(15,iV (ix s_.f_.s.fr s88.2)),(16,iV (ix s_.f_.s.to s88.2))]),Yh s_ v3 (Y0f s58 v66 x_ v3 []),5⟩) (wkI9 5) (runQ hN fun K hK=>?_));simp;(repeat with_reducible refine sdQ ?_);refine Qh (fun g=>?_) (fun g=>?_)
       ·have g95:¬ ((ix s_.f_.s.fr s88.2)=x_):=gQ;clear g;replace h:=if_l g95 h;simp;(repeat with_reducible refine sdQ ?_);refine Qh (fun g=>?_) (fun g=>?_)
        ·have g96:¬ (¬ ((ix s_.f_.s.to s88.2)=x_)):=gQ;clear g;replace h:=if_r g96 h;replace ⟨a97,h⟩:=Q2 h;simp [at_I a97];(repeat with_reducible refine sdQ ?_);refine Qh (fun g=>?_) (fun g=>?_)
         ·have g98:¬ ((ix (v66.set x_.toNat (ix v3 s58.2)) (ix s_.f_.s.fr s88.2))<0):=gQ;clear g;replace h:=if_r g98 h;replace ⟨a99,h⟩:=Q2 h;simp [at_I a97,at_I a99];(repeat with_reducible refine sdQ ?_);refine Qh (fun g=>?_) (fun g=>?_)
          ·have g100:¬ ((ix (v66.set x_.toNat (ix v3 s58.2)) (ix s_.f_.s.to s88.2))<0):=gQ;clear g;replace h:=if_r g100 h;simp [at_I a97,at_I a99];(repeat with_reducible refine sdQ ?_);replace ⟨v101,hv101,h⟩:=bind_some h;refine Q1 (Q4g _ _ _ _ v101 hv101) (.cons (.aggL (.cons .val (.cons .lst (.cons .lst (.cons .lst (.cons .lst (.cons .val (.cons .lst (.cons .lst (.cons .lst (.cons .lst (.cons .lst (.cons .lst .nil))))))))))))) (.cons (.aggL (.cons .val (.cons .lst (.cons .lst (.cons .lst (.cons .lst (.cons .val (.cons .lst (.cons .lst (.cons .lst (.cons .lst (.cons .lst (.cons .lst .nil))))))))))))) (.cons .w (.cons .val .nil)))) ?_;simp [at_I a97,at_I a99];(repeat refine sdQ ?_);refine hK _ (bn ?_);clear hK K;exact jn (b:=v101) (Option.some.inj h) (wkI9 5)
          have g100:(ix (v66.set x_.toNat (ix v3 s58.2)) (ix s_.f_.s.to s88.2))<0:=gQ;clear g;replace h:=if_l g100 h;simp [at_I a97,at_I a99];(repeat refine sdQ ?_);refine hK _ (bn ?_);clear hK K;exact jn (b:=true) (Option.some.inj h) (wkI9 5)
         have g98:(ix (v66.set x_.toNat (ix v3 s58.2)) (ix s_.f_.s.fr s88.2))<0:=gQ;clear g;replace h:=if_l g98 h;simp [at_I a97];(repeat refine sdQ ?_);refine hK _ (bn ?_);clear hK K;exact jn (b:=true) (Option.some.inj h) (wkI9 5)
        have g96:¬ ((ix s_.f_.s.to s88.2)=x_):=gQ;clear g;replace h:=if_l g96 h;simp;(repeat refine sdQ ?_);refine hK _ (bn ?_);clear hK K;exact jn (b:=true) (Option.some.inj h) (wkI9 5)
       have g95:¬ (¬ ((ix s_.f_.s.fr s88.2)=x_)):=gQ;clear g;replace h:=if_r g95 h;replace ⟨a102,h⟩:=Q2 h;simp [at_I a102];(repeat with_reducible refine sdQ ?_);refine Qh (fun g=>?_) (fun g=>?_)
       ·have g103:¬ ((ix (v66.set x_.toNat (ix v3 s58.2)) (ix s_.f_.s.fr s88.2))<0):=gQ;clear g;replace h:=if_r g103 h;replace ⟨a104,h⟩:=Q2 h;simp [at_I a102,at_I a104];(repeat with_reducible refine sdQ ?_);refine Qh (fun g=>?_) (fun g=>?_)
        ·have g105:¬ ((ix (v66.set x_.toNat (ix v3 s58.2)) (ix s_.f_.s.to s88.2))<0):=gQ;clear g;replace h:=if_r g105 h;simp [at_I a102,at_I a104];(repeat with_reducible refine sdQ ?_);replace ⟨v106,hv106,h⟩:=bind_some h;refine Q1 (Q4g _ _ _ _ v106 hv106) (.cons (.aggL (.cons .val (.cons .lst (.cons .lst (.cons .lst (.cons .lst (.cons .val (.cons .lst (.cons .lst (.cons .lst (.cons .lst (.cons .lst (.cons .lst .nil))))))))))))) (.cons (.aggL (.cons .val (.cons .lst (.cons .lst (.cons .lst (.cons .lst (.cons .val (.cons .lst (.cons .lst (.cons .lst (.cons .lst (.cons .lst (.cons .lst .nil))))))))))))) (.cons .w (.cons .val .nil)))) ?_;simp [at_I a102,at_I a104];(repeat refine sdQ ?_);refine hK _ (bn ?_);clear hK K;exact jn (b:=v106) (Option.some.inj h) (wkI9 5)
        have g105:(ix (v66.set x_.toNat (ix v3 s58.2)) (ix s_.f_.s.to s88.2))<0:=gQ;clear g;replace h:=if_l g105 h;simp [at_I a102,at_I a104];(repeat refine sdQ ?_);refine hK _ (bn ?_);clear hK K;exact jn (b:=true) (Option.some.inj h) (wkI9 5)
       have g103:(ix (v66.set x_.toNat (ix v3 s58.2)) (ix s_.f_.s.fr s88.2))<0:=gQ;clear g;replace h:=if_l g103 h;simp [at_I a102];(repeat refine sdQ ?_);refine hK _ (bn ?_);clear hK K;exact jn (b:=true) (Option.some.inj h) (wkI9 5)
      intro b92 hb92;have h:=h92;(try rw [← hb92] at h);clear h92;(try dsimp only at h);refine runQ hN fun K hK=>?_;replace ⟨a107,h⟩:=Q2 h;simp [Qp a107];(repeat refine sdQ ?_);refine hK _ ?_;clear hK K;cases h;exact rn (s':=(b92,s88.2+1)) hk88 (wkI9 5)
     have g91:¬ (b89=true):=gQ;clear g;replace h:=if_r g91 h;refine Qj (tx (lx (bh ?_)));cases h;exact jn (b:=s88.1) hk88 (wkI9 4)
    intro b69 hb69;have h:=h69;(try rw [← hb69] at h);clear h69;(try dsimp only at h);refine Q0 (runQ hN fun K hK=>?_);simp;(repeat refine sdQ ?_);refine hK _ ?_;clear hK K;refine tn (Q6 rfl (fun g=>?_) fun g=>?_)
    ·have g108:b69=true:=gQ;clear g;replace h:=if_l g108 h;refine runQ hN fun K hK=>?_;replace ⟨a109,h⟩:=Q2 h;replace ⟨a110,h⟩:=Q2 h;(try simp only [List.length_append,List.length_cons,List.length_nil] at a110);simp [at_I a109,a110];(repeat refine sdQ ?_);refine hK _ (bn ?_);clear hK K;exact jn (b:=s58.1++[ix v3 s58.2]) (Option.some.inj h) (wkQ9 [(0,0),(1,1),(2,2),(6,3)])
    have g108:¬ (b69=true):=gQ;clear g;replace h:=if_r g108 h;refine Q7 (bn ?_);exact jn (b:=s58.1) (Option.some.inj h) (wkI9 4)
   intro b60 hb60;have h:=h60;(try rw [← hb60] at h);clear h60;(try dsimp only at h);refine runQ hN fun K hK=>?_;replace ⟨a111,h⟩:=Q2 h;simp [Qp a111];(repeat refine sdQ ?_);refine hK _ ?_;clear hK K;cases h;exact rn (s':=(b60,s58.2+1)) hk58 (wkI9 4)
  have g59:¬ (s58.2<(v3.length:Int)):=gQ;clear g;replace h:=if_r g59 h;refine Qj (tx (lx (bh ?_)));cases h;exact jn (b:=s58.1) hk58 (wkQ9 [(3,0)])
 intro b4 hb4;have h:=h4;try rw [← hb4] at h
 clear h4;try dsimp only at h
 refine Q0 (runQ hN fun K hK=>?_);simp;repeat refine sdQ ?_
 refine hK _ (tn (Q3 (st':=⟨[(6,.own 0 0 b4.length)],[(0,rI b4)],1⟩) (wkQ9 [(0,0)]) (Qe ?_)));clear hK K;have hr:=Option.some.inj h;rw [← hr];refine ⟨_,(.tmp .nil),?_⟩;refine ⟨(.one rfl rfl .nil),[lI b4],[0],by simp [Cat.cells,Fn.cells,XL07State.cells,UA,U1,IA,I1,LA,L1,BA,B1,EA,E1,E2,eB,eI,eL,Qa _ Qi _ (fun _=>rfl)],by simp,(UpL.refl _)⟩
section
attribute [local simp] Qf QG Qu Q16 QE
theorem wh_bind {β:Type} {body:Bool × Int→Option (Ctl (Bool × Int) Bool)} {K:Bool→Option β} {r:Option β} (n:Nat) (p:Nat→Prop) (hn:n<4611686018427387904) (h1:∀ i:Nat,i<n→body (true,(i:Int))=some (.next (bo (p i),(i:Int)+1)))
  (h2:body (true,(n:Int))=some (.ret true)) (h3:∀ i:Nat,body (false,(i:Int))=some (.ret false)) (hk:K (bo (∀ i:Nat,i<n→p i))=r):(Qw body fuel (true,0)).bind K=r:=by
 refine QZ (Q:=fun z=>z=r) n (fun i s=>(s=(true,(i:Int))∧∀ j:Nat,j<i→p j)∨(s=(false,(i:Int))∧¬ ∀ j:Nat,j<n→p j)) (fun e=>e=bo (∀ i:Nat,i<n→p i)) hn (.inl ⟨rfl,fun j hj=>by omega⟩) ?_ ?_ (fun e he=>by rw [he];exact hk)
 ·intro i s hi hI;rcases hI with ⟨rfl,hp⟩|⟨rfl,hp⟩
  ·left;refine ⟨_,h1 i hi,?_⟩
   by_cases hq:p i
   ·left;refine ⟨by rw [QC hq];rfl,fun j hj=>?_⟩
    by_cases hji:j<i
    ·exact hp j hji
    have:j=i:=(by omega);subst this;exact hq
   right;exact ⟨by rw [Qv hq];rfl,fun h=>hq (h i hi)⟩
  right;exact ⟨false,h3 i,by rw [Qv hp]⟩
 intro s hI;rcases hI with ⟨rfl,hp⟩|⟨rfl,hp⟩
 ·exact ⟨true,h2,by rw [QC hp]⟩
 exact ⟨false,h3 n,by rw [Qv hp]⟩
theorem ix_rep {n:Nat} {v:Int} {i:Int} (h0:0≤i) (h:i<(n:Int)):ix (List.replicate n v) i=v:=by
 obtain ⟨j,rfl⟩:=Int.eq_ofNat_of_zero_le h0;have hj:j<n:=by omega
 simp [ix,List.getD_eq_getElem?_getD,List.getElem?_replicate,hj]
def cstF (d:Fn) (x:Int):Fn:=⟨d.s,d.t,List.replicate d.ob.length x,List.replicate d.ar.length (ix d.t.id x)⟩
theorem e_const {d:Fn} (hd:d.Is) {x:Int} (hx:0≤x∧x<d.t.n):Q1o d.s d.t x=some (cstF d x):=by
 obtain ⟨l1,l2,l3,l4,l5,l6,l7,l8⟩:=hd.fact;have li:=hd.t.1.li;unfold Q1o;refine Q22 d.ob.length (fun i=>List.replicate i x) (e:=List.replicate d.ob.length x) rfl (by omega) (fun i hi=>?_) ?_ ?_
 ·simp only;rw [if_pos (by omega),Q4 (by simp;omega),Q4 (by unfold B64;omega),← List.replicate_succ']
 ·simp only;rw [if_neg (by omega)]
 refine Q22 d.ar.length (fun i=>List.replicate i (ix d.t.id x)) (e:=List.replicate d.ar.length (ix d.t.id x)) rfl (by omega) (fun i hi=>?_) ?_ ?_
 ·simp only;rw [if_pos (by omega),Q4 (by omega),Q4 (by simp;omega),Q4 (by unfold B64;omega),← List.replicate_succ']
 ·simp only;rw [if_neg (by omega)]
 rw [Q6E hd.s.ok hd.t.ok (by simp;omega) (by simp;omega)];rfl
def CV (d:Fn) (x:Int) (c:List Int):Prop:=c.length=d.ob.length∧∀ i:Nat,i<d.ob.length→ix c i = -1∨ix c i = -2∨Ar d.t (ix c i) x (ix d.ob i)
def cok (d:Fn) (c:List Int) (i:Nat) (a:Nat):Prop:=(ix d.s.fr a=(i:Int)∨ix d.s.to a=(i:Int))→0≤ix c (ix d.s.fr a)→0≤ix c (ix d.s.to a)→leq d c a
def chP (d:Fn) (c:List Int) (i:Nat) (f:Int):Prop:=∀ a:Nat,a<d.ar.length→cok d (c.set i f) i a
noncomputable def Ch (d:Fn) (x:Int) (c:List Int) (i:Nat):List Int:=(homL d.t x (ix d.ob i)).filter fun f=>bo (chP d c i f)
theorem Ch_len {d:Fn} (hd:d.Is) (x:Int) (c:List Int) (i:Nat):(Ch d x c i).length≤40:=by
 have:=Q4P d.t x (ix d.ob i);have h2:(Ch d x c i).length≤_:=List.length_filter_le _ _;have:=hd.t.1.m40;omega
theorem mem_Ch {d:Fn} {x:Int} {c:List Int} {i:Nat} {f:Int} (h:f∈Ch d x c i):Ar d.t f x (ix d.ob i):=Q3F f (List.mem_filter.1 h).1
theorem CV.set {d:Fn} {x:Int} {c:List Int} (h:CV d x c) {i:Nat} {f:Int} (hf:Ar d.t f x (ix d.ob i)):CV d x (c.set i f):=by
 refine ⟨by rw [List.length_set];exact h.1,fun j hj=>?_⟩;have h1:=h.1
 by_cases hji:i=j
 ·subst hji;rw [Q53 (by omega)];exact .inr (.inr hf)
 rw [Q54 hji];exact h.2 j hj
theorem CV.at {d:Fn} (hd:d.Is) {x:Int} {c:List Int} (h:CV d x c) {y:Int} (h0:0≤y) (h1:y<(d.ob.length:Int)) (h2:0≤ix c y):Ar d.t (ix c y) x (ix d.ob y):=by
 obtain ⟨j,rfl⟩:=Int.eq_ofNat_of_zero_le h0;rcases h.2 j (by omega) with e|e|e
 ·omega
 ·omega
 exact e
theorem e_csquare {d:Fn} (hd:d.Is) {x:Int} (hx:0≤x∧x<d.t.n) {c:List Int} (h:CV d x c) {a:Nat} (ha:a<d.ar.length) (h1:0≤ix c (ix d.s.fr a)) (h2:0≤ix c (ix d.s.to a)):QN (cstF d x) d c a=some (bo (leq d c a)):=by
 obtain ⟨l1,l2,l3,l4,l5,l6,l7,l8⟩:=hd.fact;obtain ⟨f1,f2,f3⟩:=l8 a ha;have A1:=h.at hd f1.1 f1.2 h1;have A2:=h.at hd f2.1 f2.2 h2;have Ai:=hd.t.Ai hx;have e1:ix (List.replicate d.ar.length (ix d.t.id x)) (a:Int)=ix d.t.id x:=ix_rep (by omega) (by omega);have r1:=hd.t.1.row' Ai.1.1 Ai.1.2;have r2:=hd.t.1.row' A1.1.1 A1.1.2;have lc:=hd.t.1.lc;have hl:=h.1;have a1:=Ai.1;have a2:=A1.1;have a3:=A2.1;have a4:=f3.1;unfold QN;simp only [cstF,e1,List.length_replicate];rw [Q4 (by omega),Q4 (by omega),Q4 (by omega),Q4 (by omega),Q4 (by omega),Q4 (by omega),Q4 (by omega),Q4 (by omega),Q4 (by omega),Q4 (by omega),(hd.t.idl A2).1];unfold leq
 by_cases hq:ix c (ix d.s.to a)=ix (rx d.t.cs (ix c (ix d.s.fr a))) (ix d.ar a)
 ·rw [QC hq.symm];simp [hq]
 rw [Qv fun q=>hq q.symm];simp [hq]
theorem Q6D {d:Fn} (hd:d.Is) {x:Int} (hx:0≤x∧x<d.t.n) {c:List Int} (h:CV d x c) {i:Nat} (hi:i<d.ob.length) (most:Int) (found:List (List Int)):Q1i (⟨cstF d x,d,false,most,found⟩:XL07State) c i=some (Ch d x c i):=by
 obtain ⟨l1,l2,l3,l4,l5,l6,l7,l8⟩:=hd.fact;have e1:ix (List.replicate d.ob.length x) (i:Int)=x:=ix_rep (by omega) (by omega);have hl:=h.1;have hH:=Q4P d.t x (ix d.ob i);unfold Q1i Q15;simp only [cstF,e1,List.length_replicate];rw [Q4 (by omega),Q4 (by omega),show Q1Y d.t x (ix d.ob i)=some (homL d.t x (ix d.ob i)) from (Q8d hd.t _ _).1];simp only [Option.bind_some,Int.toNat_natCast];have step:∀ (q:Nat) (hq:q<(homL d.t x (ix d.ob i)).length) {β:Type} {K:Bool→Option β} {r:Option β},K (bo (chP d c i (ix (homL d.t x (ix d.ob i)) q)))=r →
   (Qw (σ:=Bool × Int) (ε:=Bool) (fun s88 =>
      (
       if s88.1=true then
        some (decide (s88.2<(d.ar.length:Int)))
       else
        some false:Option (Bool)).bind fun b89 =>
      if b89=true then
       (
        ass (0≤s88.2∧s88.2<(d.s.fr.length:Int)) <|
        ass (0≤s88.2∧s88.2<(d.s.to.length:Int)) <|
        if ¬ ((ix d.s.fr s88.2)=(i:Int)) then
         if ¬ ((ix d.s.to s88.2)=(i:Int)) then
          some true
         else
          ass (0≤ix d.s.fr s88.2∧ix d.s.fr s88.2<((c.set i (ix (homL d.t x (ix d.ob i)) q)).length:Int)) <|
          if (ix (c.set i (ix (homL d.t x (ix d.ob i)) q)) (ix d.s.fr s88.2))<0 then
           some true
          else
           ass (0≤ix d.s.to s88.2∧ix d.s.to s88.2<((c.set i (ix (homL d.t x (ix d.ob i)) q)).length:Int)) <|
           if (ix (c.set i (ix (homL d.t x (ix d.ob i)) q)) (ix d.s.to s88.2))<0 then
            some true
           else
            (QN (cstF d x) d (c.set i (ix (homL d.t x (ix d.ob i)) q)) s88.2).bind fun v101 =>
            some v101
        else
         ass (0≤ix d.s.fr s88.2∧ix d.s.fr s88.2<((c.set i (ix (homL d.t x (ix d.ob i)) q)).length:Int)) <|
         if (ix (c.set i (ix (homL d.t x (ix d.ob i)) q)) (ix d.s.fr s88.2))<0 then
          some true
         else
          ass (0≤ix d.s.to s88.2∧ix d.s.to s88.2<((c.set i (ix (homL d.t x (ix d.ob i)) q)).length:Int)) <|
          if (ix (c.set i (ix (homL d.t x (ix d.ob i)) q)) (ix d.s.to s88.2))<0 then
           some true
          else
           (QN (cstF d x) d (c.set i (ix (homL d.t x (ix d.ob i)) q)) s88.2).bind fun v106 =>
           some v106:Option (Bool)).bind fun b92 =>
       ass (B64 (s88.2+1)) <|
       some (Ctl.next (b92,s88.2+1))
      else
       some (Ctl.ret s88.1)) fuel (true,0)).bind K=r:=by
  intro q hq β K r hk;have hf:=Q8r (P:=fun f=>Ar d.t f x (ix d.ob i)) Q3F hq
  let c2:=c.set i (ix (homL d.t x (ix d.ob i)) q)
  have h2:CV d x c2:=h.set hf;have hl2:c2.length=d.ob.length:=h2.1;refine wh_bind d.ar.length (fun a=>cok d c2 i a) (by omega) (fun a ha=>?_) (by simp) (fun a=>by simp) hk;obtain ⟨f1,f2,f3⟩:=l8 a ha;have hB:B64 ((a:Int)+1):=by unfold B64;omega
  have hal:(a:Int)<(d.ar.length:Int):=by omega
  show ((if true=true then some (decide ((a:Int)<(d.ar.length:Int))) else some false:Option Bool).bind _)=_;simp only [if_true,hal,decide_true,Option.bind_some];rw [Q4 (by omega),Q4 (by omega)];have key:∀ (v:Bool),v=bo (cok d c2 i a)→((some v:Option Bool).bind fun b92=>ass (B64 ((a:Int)+1)) <| some (Ctl.next (b92,(a:Int)+1)):Option (Ctl (Bool × Int) Bool))=some (Ctl.next (bo (cok d c2 i a),(a:Int)+1)):=by
   intro v hv;simp only [Option.bind_some];rw [Q4 hB,hv]
  have sq:(ix d.s.fr a=(i:Int)∨ix d.s.to a=(i:Int))→((ass (0≤ix d.s.fr a∧ix d.s.fr a<(c2.length:Int)) <|
         if (ix c2 (ix d.s.fr a))<0 then
          some true
         else
          ass (0≤ix d.s.to a∧ix d.s.to a<(c2.length:Int)) <|
          if (ix c2 (ix d.s.to a))<0 then
           some true
          else
           (QN (cstF d x) d c2 a).bind fun v106 =>
           some v106:Option (Bool)).bind fun b92=>ass (B64 ((a:Int)+1)) <| some (Ctl.next (b92,(a:Int)+1)):Option (Ctl (Bool × Int) Bool))=some (Ctl.next (bo (cok d c2 i a),(a:Int)+1)):=by
   intro ht;rw [Q4 (by omega)]
   by_cases n1:ix c2 (ix d.s.fr a)<0
   ·rw [if_pos n1];exact key _ (QC (p:=cok d c2 i a) (fun _ g1 _=>by omega)).symm
   rw [if_neg n1,Q4 (by omega)]
   by_cases n2:ix c2 (ix d.s.to a)<0
   ·rw [if_pos n2];exact key _ (QC (p:=cok d c2 i a) (fun _ _ g2=>by omega)).symm
   rw [if_neg n2,e_csquare hd hx h2 ha (by omega) (by omega)];exact key _ (bo_iff2 ⟨fun g _ _ _=>g,fun g=>g ht (by omega) (by omega)⟩)
  by_cases t1:ix d.s.fr a=(i:Int)
  ·rw [if_neg (by simp [t1])];exact sq (.inl t1)
  rw [if_pos t1]
  by_cases t2:ix d.s.to a=(i:Int)
  ·rw [if_neg (by simp [t2])];exact sq (.inr t2)
  rw [if_pos t2];exact key _ (QC (p:=cok d c2 i a) (fun g=>by rcases g with g|g<;>contradiction)).symm
 refine Q69 (homL d.t x (ix d.ob i)) (chP d c i) (e:=Ch d x c i) (by omega) (fun q acc hq hacc=>?_) ?_ rfl
 ·have hqi:(q:Int)<((homL d.t x (ix d.ob i)).length:Int):=by omega
  have hB:B64 ((q:Int)+1):=by unfold B64;omega
  refine ⟨fun hp=>?_,fun hp=>?_⟩
  ·simp only [Bool.false_eq_true,if_false,Option.bind_some];rw [if_pos hqi,Q4 (by omega)];simp only [Option.bind_some];rw [Q4 ⟨by omega,hqi⟩,Q4 (by omega)];simp only [Option.bind_assoc];refine step q hq ?_;rw [QC hp];simp only [if_true];rw [Q4 ⟨by omega,hqi⟩,Q4 (by simp;omega)];simp only [Option.bind_some];rw [Q4 hB]
  simp only [Bool.false_eq_true,if_false,Option.bind_some];rw [if_pos hqi,Q4 (by omega)];simp only [Option.bind_some];rw [Q4 ⟨by omega,hqi⟩,Q4 (by omega)];simp only [Option.bind_assoc];refine step q hq ?_;rw [Qv hp];simp only [Bool.false_eq_true,if_false,Option.bind_some];rw [Q4 hB]
 simp only;rw [if_neg (by omega)];rfl
end
attribute [local simp] unk unA unE unT unC flat eL eI Qo Q1l Qi Fn.cells XL07State.cells
noncomputable def QO (k:Nat) (q0_:Fn) (q1_:Fn) (q2_:Bool) (q3_:Int) (q4_:List (List Int)) (q5_:List Int):Option (List (List Int)):=match k with
 | 0=>none
 | k+1 =>
  ass (B64 ((q5_.length:Int) - 1)) <|
  (Qw (σ:=Int × Int) (ε:=Int ⊕ (List (List Int))) (fun s12 =>
   if s12.2 ≥ 0 then
    (
     ass (0≤s12.2∧s12.2<(q5_.length:Int)) <|
     if (ix q5_ s12.2)=(-1) then
      (Q1i (⟨q0_,q1_,q2_,q3_,q4_⟩:XL07State) q5_ s12.2).bind fun v17 =>
      if (v17.length:Int)=0 then
       some (Sum.inr q4_)
      else
       some (Sum.inl s12.2)
     else
      some (Sum.inl s12.1):Option (Int ⊕ (List (List Int)))).bind fun e14 =>
    match e14 with
    | .inl b14 =>
     ass (B64 (s12.2 - 1)) <|
     some (Ctl.next (b14,s12.2 - 1))
    | .inr p14 =>
     some (Ctl.ret (Sum.inr p14))
   else
    some (Ctl.ret (Sum.inl s12.1))) fuel ((-1),(q5_.length:Int) - 1)).bind fun e3 =>
  match e3 with
  | .inl b3 =>
   if b3<0 then
    (Q15 q5_).bind fun v21 =>
    ass ((q4_++[v21]).length≤1073741824) <|
    some (q4_++[v21])
   else
    (Q1i (⟨q0_,q1_,q2_,q3_,q4_⟩:XL07State) q5_ b3).bind fun v23 =>
    (Qw (σ:=List (List Int) × Int) (ε:=List (List Int)) (fun s32 =>
     (
      if s32.2<(v23.length:Int) then
       some (decide ((s32.1.length:Int)<q3_))
      else
       some false:Option (Bool)).bind fun b33 =>
     if b33=true then
      (Q15 q5_).bind fun v36 =>
      ass (0≤s32.2∧s32.2<(v23.length:Int)) <|
      ass (0≤b3∧b3<(v36.length:Int)) <|
      (QO k q0_ q1_ q2_ q3_ s32.1 (v36.set b3.toNat (ix v23 s32.2))).bind fun v39 =>
      ass (B64 (s32.2+1)) <|
      some (Ctl.next (v39,s32.2+1))
     else
      some (Ctl.ret s32.1)) fuel (q4_,0)).bind fun p32 =>
    some p32
  | .inr p3 =>
   some p3
@[simp] abbrev Y0o (a:Fn) (b:List (AV)):List (AV):=iV a.s.n::lI a.s.fr::lI a.s.to::lI a.s.id::.lst true 1 (Ls a.s.cs)::iV a.t.n::lI a.t.fr::lI a.t.to::lI a.t.id::.lst true 1 (Ls a.t.cs)::lI a.ob::lI a.ar::b
@[simp] abbrev Y0y (a:Bool) (b:Int) (c:List (AV)):List (AV):=.val (.bool a)::iV b::c
@[simp] abbrev Y2 (a b:Fn) (c:Bool) (d:Int) (e:List (List Int)) (f:List Int) (g:List (Nat × Ent)):List (Nat × Ent):=(0,.mix 27 [(Y0o a (Y0o b (Y0y c d [.own 1 0 e.length])))])::(1,.row 1 (Ls e))::(2,rI f)::g
@[simp] abbrev Y6 (a b:Fn) (c:Bool) (d:Int) (e:List (List Int) × Int) (f:List Int) (g:List (Nat × Ent)):List (Nat × Ent):=(0,.mix 27 [(Y0o a (Y0o b (Y0y c d [.own 3 0 e.1.length])))])::(2,rI f)::(3,.row 1 (Ls e.1))::g
@[simp] abbrev Yq (a b:Fn) (c:Bool) (d:Int) (e:List (List Int)) (f g:List Int) (h:List (Nat × Ent)):List (Nat × Ent):=(0,.mix 27 [(Y0o a (Y0o b (Y0y c d [.own 3 0 ((e++[f]).length)])))])::(2,rI g)::(3,.row 1 (Ls (e++[f])))::h
@[simp] abbrev YH (a:List Int) (b:List (Nat × AV)):List (Nat × AV):=(0,.adr 0 0 0)::(1,.own 2 0 a.length)::b
@[simp] abbrev YM (a b:Fn) (c:Bool) (d:Int) (e:List (List Int)) (f:List Int) (g:List (Nat × Ent)):List (Nat × Ent):=(0,.mix 27 [(Y0o a (Y0o b (Y0y c d [.own 3 0 e.length])))])::(2,rI f)::(3,.row 1 (Ls e))::g
theorem Q3R:∀ (k:Nat) (q0_:Fn) (q1_:Fn) (q2_:Bool) (q3_:Int) (q4_:List (List Int)) (q5_:List Int) (vR:List (List Int)) (h:QO k q0_ q1_ q2_ q3_ q4_ q5_=some vR),ICon Try.prog 82 [.adr 0 0 0,.own 2 0 q5_.length] (fun id=>look id [(0,.mix 27 [(Y0o q0_ (Y0o q1_ (Y0y q2_ q3_ [.own 1 0 q4_.length])))]),(1,.row 1 (Ls q4_)),(2,rI q5_)]) 3 { v:=.tup [],set:=[(0,.mix 27 [(Y0o q0_ (Y0o q1_ (Y0y q2_ q3_ [.own 3 0 vR.length])))])],del:=[1],new:=[(3,.row 1 (Ls vR))],cnt:=1 }:=by
 intro k
 induction k with
 | zero =>
  intro q0_ q1_ q2_ q3_ q4_ q5_ vR h;simp [QO] at h
 | succ k ih =>
  intro q0_ q1_ q2_ q3_ q4_ q5_ vR h;refine Q1U (ts:=[]) (H:=[(0,.mix 27 [(Y0o q0_ (Y0o q1_ (Y0y q2_ q3_ [.own 1 0 q4_.length])))]),(1,.row 1 (Ls q4_)),(2,rI q5_)]) Try.func82 rfl rfl rfl (by simp [Try.f82]) (by simp) (Q50 (by simp)) (newI (by rfl)) fun F hN hP=>?_;unfold QO at h;try dsimp only at h
  refine Q0 (Qk [] mo (by rw [hN];decide) fun K hK=>?_);simp;repeat refine sdQ ?_
  refine hK _ ?_;clear hK K;refine tn (Q3 (st':=⟨YH q5_ [(4,iV (-1))],Y2 q0_ q1_ q2_ q3_ q4_ q5_ [],3⟩) (Wk.rP _ [(0,0),(1,1),(2,2)] hP (by rfl) (by simp [hhOk,back,Fn.cells,XL07State.cells,UA,U1,IA,I1,LA,L1,BA,B1,EA,E1,E2,eB,eI,eL,Qa _ Qi _ (fun _=>rfl)])) (Q0 (Q0 (Qk [] mo (by rw [hN];decide) fun K hK=>?_))));replace ⟨a2,h⟩:=Q2 h;simp [Qp a2];repeat refine sdQ ?_
  refine hK _ (tn (Q3 (st':=⟨YH q5_ [(4,iV (-1)),(5,iV ((q5_.length:Int) - 1))],Y2 q0_ q1_ q2_ q3_ q4_ q5_ [],3⟩) (Wk.rP _ [(0,0),(1,1),(2,2)] hP (by rfl) (by simp [hhOk,back,Fn.cells,XL07State.cells,UA,U1,IA,I1,LA,L1,BA,B1,EA,E1,E2,eB,eI,eL,Qa _ Qi _ (fun _=>rfl)])) ?_));clear hK K;replace ⟨e3,h,h3⟩:=bind_some h;refine Qd (fun b3:Int=>⟨YH q5_ [(4,iV b3)],Y2 q0_ q1_ q2_ q3_ q4_ q5_ [],3⟩) (fun b3=>Sum.inl b3=e3) ?_ ?_
  ·refine Q5 (Qt h (fun s12:Int × Int=>⟨YH q5_ [(4,iV s12.1),(5,iV s12.2)],Y2 q0_ q1_ q2_ q3_ q4_ q5_ [],3⟩) (Wk.rP _ [(0,0),(1,1),(2,2)] hP (by rfl) (by simp [hhOk,back,Fn.cells,XL07State.cells,UA,U1,IA,I1,LA,L1,BA,B1,EA,E1,E2,eB,eI,eL,Qa _ Qi _ (fun _=>rfl)])) ?_);clear h;intro k12 s12 c12 h hk12;refine Q0 (Q0 (Qk [] mo (by rw [hN];decide) fun K hK=>?_));simp;(repeat refine sdQ ?_);refine hK _ ?_;clear hK K;refine tn (Q6 rfl (fun g=>?_) fun g=>?_)
   ·have g13:s12.2 ≥ 0:=gQ;clear g;replace h:=if_l g13 h;refine Q7 (tn (Q0 ?_));replace ⟨e14,h,h14⟩:=bind_some h;refine Qd (fun b14:Int=>⟨YH q5_ [(4,iV b14),(5,iV s12.2)],Y2 q0_ q1_ q2_ q3_ q4_ q5_ [],3⟩) (fun b14=>Sum.inl b14=e14) ?_ ?_
    ·refine Q5 (Q0 (Qk [] mo (by rw [hN];decide) fun K hK=>?_));replace ⟨a15,h⟩:=Q2 h;simp [at_I a15];(repeat refine sdQ ?_);refine hK _ ?_;clear hK K;refine tn (Q6 rfl (fun g=>?_) fun g=>?_)
     ·have g16:(ix q5_ s12.2)=(-1):=gQ;clear g;replace h:=if_l g16 h;refine Q0 (Qk [] mo (by rw [hN];decide) fun K hK=>?_);simp;(repeat refine sdQ ?_);refine hK _ ?_;clear hK K;refine tn (Q3 (st':=⟨YH q5_ [(4,iV s12.2),(5,iV s12.2)],Y2 q0_ q1_ q2_ q3_ q4_ q5_ [],3⟩) (Wk.rP _ [(0,0),(1,1),(2,2)] hP (by rfl) (by simp [hhOk,back,Fn.cells,XL07State.cells,UA,U1,IA,I1,LA,L1,BA,B1,EA,E1,E2,eB,eI,eL,Qa _ Qi _ (fun _=>rfl)])) (Q0 (Qk [] mo (by rw [hN];decide) fun K hK=>?_)));simp;(repeat with_reducible refine sdQ ?_);replace ⟨v17,hv17,h⟩:=bind_some h;refine QD (fz:=[]) (Q3Q _ _ _ v17 hv17) (.cons (.field rfl (by simp [XL07State.cells]) (.cons .val (.cons .lst (.cons .lst (.cons .lst (.cons .lst (.cons .val (.cons .lst (.cons .lst (.cons .lst (.cons .lst (.cons .lst (.cons .lst (.cons .val (.cons .lst (.cons .lst (.cons .lst (.cons .lst (.cons .val (.cons .lst (.cons .lst (.cons .lst (.cons .lst (.cons .lst (.cons .lst (.cons .val (.cons .val (.cons .w .nil)))))))))))))))))))))))))))) (.cons .w (.cons .val .nil))) ?_;simp;(repeat refine sdQ ?_);refine hK _ ?_;clear hK K;refine tn (Q3 (st':=⟨YH q5_ [(4,iV s12.2),(5,iV s12.2),(27,.val (.bool ((v17.length:Int) == 0)))],Y2 q0_ q1_ q2_ q3_ q4_ q5_ [],3⟩) (Wk.rP _ [(0,0),(1,1),(2,2)] hP (by rfl) (by simp [hhOk,back,Fn.cells,XL07State.cells,UA,U1,IA,I1,LA,L1,BA,B1,EA,E1,E2,eB,eI,eL,Qa _ Qi _ (fun _=>rfl)])) (Q6 rfl (fun g=>?_) fun g=>?_))
      ·have g18:(v17.length:Int)=0:=gQ;clear g;replace h:=if_l g18 h;refine Qe (br (tr (lr (br (tr ?_)))));cases h;have h:=h14;(try dsimp only at h);cases h;have q:_=e3:=hk12;have h:=h3;rw [← q] at h;clear q;(try dsimp only at h);cases h;first|refine iw_r (st':=⟨[],YM q0_ q1_ q2_ q3_ q4_ q5_ [],4⟩) ?_ ?_|refine iw_n (st':=⟨[],YM q0_ q1_ q2_ q3_ q4_ q5_ [],4⟩) ?_ ?_
       ·exact Wk.rQ _ [(0,0),(1,3),(2,2)] hP (by rfl) (by simp [hhOk,back,Fn.cells,XL07State.cells,UA,U1,IA,I1,LA,L1,BA,B1,EA,E1,E2,eB,eI,eL,Qa _ Qi _ (fun _=>rfl)])
       exact ⟨by simp [Qs],by simp,by simp [Fn.cells,XL07State.cells]⟩
      have g18:¬ ((v17.length:Int)=0):=gQ;clear g;replace h:=if_r g18 h;refine Q7 (bn ?_);exact jn (b:=s12.2) (Option.some.inj h) (Wk.rP _ [(0,0),(1,1),(2,2)] hP (by rfl) (by simp [hhOk,back,Fn.cells,XL07State.cells,UA,U1,IA,I1,LA,L1,BA,B1,EA,E1,E2,eB,eI,eL,Qa _ Qi _ (fun _=>rfl)]))
     have g16:¬ ((ix q5_ s12.2)=(-1)):=gQ;clear g;replace h:=if_r g16 h;refine Q7 (bn ?_);exact jn (b:=s12.1) (Option.some.inj h) (Wk.rP _ [(0,0),(1,1),(2,2)] hP (by rfl) (by simp [hhOk,back,Fn.cells,XL07State.cells,UA,U1,IA,I1,LA,L1,BA,B1,EA,E1,E2,eB,eI,eL,Qa _ Qi _ (fun _=>rfl)]))
    intro b14 hb14;have h:=h14;(try rw [← hb14] at h);clear h14;(try dsimp only at h);refine Qk [] mo (by rw [hN];decide) fun K hK=>?_;replace ⟨a19,h⟩:=Q2 h;simp [Qp a19];(repeat refine sdQ ?_);refine hK _ ?_;clear hK K;cases h;exact rn (s':=(b14,s12.2 - 1)) hk12 (Wk.rP _ [(0,0),(1,1),(2,2)] hP (by rfl) (by simp [hhOk,back,Fn.cells,XL07State.cells,UA,U1,IA,I1,LA,L1,BA,B1,EA,E1,E2,eB,eI,eL,Qa _ Qi _ (fun _=>rfl)]))
   have g13:¬ (s12.2 ≥ 0):=gQ;clear g;replace h:=if_r g13 h;refine Qj (tx (lx (bh ?_)));cases h;exact jn (b:=s12.1) hk12 (Wk.rP _ [(0,0),(1,1),(2,2)] hP (by rfl) (by simp [hhOk,back,Fn.cells,XL07State.cells,UA,U1,IA,I1,LA,L1,BA,B1,EA,E1,E2,eB,eI,eL,Qa _ Qi _ (fun _=>rfl)]))
  intro b3 hb3;have h:=h3;try rw [← hb3] at h
  clear h3;try dsimp only at h
  refine Q0 (Q0 (Qk [] mo (by rw [hN];decide) fun K hK=>?_));simp;repeat refine sdQ ?_
  refine hK _ ?_;clear hK K;refine tn (Q6 rfl (fun g=>?_) fun g=>?_)
  ·have g20:b3<0:=gQ;clear g;replace h:=if_l g20 h;refine Q0 (Qk [] mo (by rw [hN];decide) fun K hK=>?_);simp;(repeat with_reducible refine sdQ ?_);replace ⟨v21,hv21,h⟩:=bind_some h;refine QD (fz:=[]) (Q33 _ v21 hv21) (.cons .w .nil) ?_;replace ⟨a22,h⟩:=Q2 h;(try simp only [List.length_append,List.length_cons,List.length_nil] at a22);simp [a22];(repeat refine sdQ ?_);refine hK _ (tn (Q3 (st':=⟨[],Yq q0_ q1_ q2_ q3_ q4_ v21 q5_ [],4⟩) (Wk.rP _ [(0,0),(5,3),(2,2),(1,1)] hP (by rfl) (by simp [hhOk,back,Fn.cells,XL07State.cells,UA,U1,IA,I1,LA,L1,BA,B1,EA,E1,E2,eB,eI,eL,Qa _ Qi _ (fun _=>rfl)])) (Qe (tr ?_))));clear hK K;cases h;first|refine iw_r (st':=⟨[],Yq q0_ q1_ q2_ q3_ q4_ v21 q5_ [],4⟩) ?_ ?_|refine iw_n (st':=⟨[],Yq q0_ q1_ q2_ q3_ q4_ v21 q5_ [],4⟩) ?_ ?_
   ·exact Wk.rP _ [(0,0),(3,3),(2,2),(1,1)] hP (by rfl) (by simp [hhOk,back,Fn.cells,XL07State.cells,UA,U1,IA,I1,LA,L1,BA,B1,EA,E1,E2,eB,eI,eL,Qa _ Qi _ (fun _=>rfl)])
   exact ⟨by simp [Qs],by simp,by simp [Fn.cells,XL07State.cells]⟩
  have g20:¬ (b3<0):=gQ;clear g;replace h:=if_r g20 h;refine Q7 (tn (Q0 (Qk [] mo (by rw [hN];decide) fun K hK=>?_)));simp;repeat with_reducible refine sdQ ?_
  replace ⟨v23,hv23,h⟩:=bind_some h;refine QD (fz:=[]) (Q3Q _ _ _ v23 hv23) (.cons (.field rfl (by simp [XL07State.cells]) (.cons .val (.cons .lst (.cons .lst (.cons .lst (.cons .lst (.cons .val (.cons .lst (.cons .lst (.cons .lst (.cons .lst (.cons .lst (.cons .lst (.cons .val (.cons .lst (.cons .lst (.cons .lst (.cons .lst (.cons .val (.cons .lst (.cons .lst (.cons .lst (.cons .lst (.cons .lst (.cons .lst (.cons .val (.cons .val (.cons .w .nil)))))))))))))))))))))))))))) (.cons .w (.cons .val .nil))) ?_;simp;repeat refine sdQ ?_
  refine hK _ ?_;clear hK K;refine tn (Q3 (st':=⟨YH q5_ [(4,iV b3),(6,.own 3 0 v23.length)],Y2 q0_ q1_ q2_ q3_ q4_ q5_ [(3,rI v23)],4⟩) (Wk.rP _ [(0,0),(1,1),(2,2),(3,3)] hP (by rfl) (by simp [hhOk,back,Fn.cells,XL07State.cells,UA,U1,IA,I1,LA,L1,BA,B1,EA,E1,E2,eB,eI,eL,Qa _ Qi _ (fun _=>rfl)])) (Q0 (Qk [] mo (by rw [hN];decide) fun K hK=>?_)));simp;repeat refine sdQ ?_
  refine hK _ (tn (Q3 (st':=⟨YH q5_ [(4,iV b3),(6,.own 3 0 v23.length),(7,iV 0)],Y2 q0_ q1_ q2_ q3_ q4_ q5_ [(3,rI v23)],4⟩) (Wk.rP _ [(0,0),(1,1),(2,2),(3,3)] hP (by rfl) (by simp [hhOk,back,Fn.cells,XL07State.cells,UA,U1,IA,I1,LA,L1,BA,B1,EA,E1,E2,eB,eI,eL,Qa _ Qi _ (fun _=>rfl)])) (Q5 ?_)));clear hK K;replace ⟨e32,he32,h32⟩:=bind_some h;refine Qt he32 (fun s32:List (List Int) × Int=>⟨YH q5_ [(4,iV b3),(6,.own 4 0 v23.length),(7,iV s32.2)],Y6 q0_ q1_ q2_ q3_ s32 q5_ [(4,rI v23)],5⟩) (Wk.rQ _ [(0,0),(1,3),(2,2),(3,4)] hP (by rfl) (by simp [hhOk,back,Fn.cells,XL07State.cells,UA,U1,IA,I1,LA,L1,BA,B1,EA,E1,E2,eB,eI,eL,Qa _ Qi _ (fun _=>rfl)])) ?_;intro k32 s32 c32 h hk32;refine Q0 (Q0 ?_);replace ⟨e33,h,h33⟩:=bind_some h;refine Qd (fun b33:Bool=>⟨YH q5_ [(4,iV b3),(6,.own 4 0 v23.length),(7,iV s32.2),(60,.val (.bool b33))],Y6 q0_ q1_ q2_ q3_ s32 q5_ [(4,rI v23)],5⟩) (fun b33=>b33=e33) ?_ ?_
  ·refine Qk [] mo (by rw [hN];decide) fun K hK=>?_;simp;(repeat with_reducible refine sdQ ?_);refine Q26 (fun g=>?_) (fun g=>?_)
   ·have g34:s32.2<(v23.length:Int):=gQ;clear g;replace h:=if_l g34 h;simp;(repeat refine sdQ ?_);refine hK _ ?_;exact jn (b:=decide ((s32.1.length:Int)<q3_)) (Option.some.inj h) (Wk.rP _ [(0,0),(3,3),(2,2),(4,4),(1,1)] hP (by rfl) (by simp [hhOk,back,Fn.cells,XL07State.cells,UA,U1,IA,I1,LA,L1,BA,B1,EA,E1,E2,eB,eI,eL,Qa _ Qi _ (fun _=>rfl)]))
   have g34:¬ (s32.2<(v23.length:Int)):=gQ;clear g;replace h:=if_r g34 h;simp;(repeat refine sdQ ?_);refine hK _ ?_;exact jn (b:=false) (Option.some.inj h) (Wk.rP _ [(0,0),(3,3),(2,2),(4,4),(1,1)] hP (by rfl) (by simp [hhOk,back,Fn.cells,XL07State.cells,UA,U1,IA,I1,LA,L1,BA,B1,EA,E1,E2,eB,eI,eL,Qa _ Qi _ (fun _=>rfl)]))
  intro b33 hb33;have h:=h33;try rw [← hb33] at h
  clear h33;try dsimp only at h
  refine Q6 rfl (fun g=>?_) fun g=>?_
  ·have g35:b33=true:=gQ;clear g;replace h:=if_l g35 h;refine Q7 (tn (Q0 (Q5 (Q0 (Qk [] mo (by rw [hN];decide) fun K hK=>?_)))));simp;(repeat with_reducible refine sdQ ?_);replace ⟨v36,hv36,h⟩:=bind_some h;refine QD (fz:=[]) (Q33 _ v36 hv36) (.cons .w .nil) ?_;simp;(repeat refine sdQ ?_);refine hK _ ?_;clear hK K;refine tn (Q3 (st':=⟨YH q5_ [(4,iV b3),(6,.own 4 0 v23.length),(7,iV s32.2),(8,.own 5 0 v36.length)],Y6 q0_ q1_ q2_ q3_ s32 q5_ [(4,rI v23),(5,rI v36)],6⟩) (Wk.rP _ [(0,0),(3,3),(2,2),(4,4),(5,5),(1,1)] hP (by rfl) (by simp [hhOk,back,Fn.cells,XL07State.cells,UA,U1,IA,I1,LA,L1,BA,B1,EA,E1,E2,eB,eI,eL,Qa _ Qi _ (fun _=>rfl)])) (Q0 (Qk [] mo (by rw [hN];decide) fun K hK=>?_)));replace ⟨a37,h⟩:=Q2 h;replace ⟨a38,h⟩:=Q2 h;simp [at_I a37,at_I a38];(repeat refine sdQ ?_);refine hK _ ?_;clear hK K;refine tn (Q3 (st':=⟨YH q5_ [(4,iV b3),(6,.own 4 0 v23.length),(7,iV s32.2),(8,.own 5 0 ((v36.set b3.toNat (ix v23 s32.2)).length))],Y6 q0_ q1_ q2_ q3_ s32 q5_ [(4,rI v23),(5,rI (v36.set b3.toNat (ix v23 s32.2)))],6⟩) (Wk.rP _ [(0,0),(3,3),(2,2),(4,4),(5,5),(1,1)] hP (by rfl) (by simp [hhOk,back,Fn.cells,XL07State.cells,UA,U1,IA,I1,LA,L1,BA,B1,EA,E1,E2,eB,eI,eL,Qa _ Qi _ (fun _=>rfl)])) (Q2h [] mo (by rw [hN];decide) fun K hK=>?_));simp;(repeat with_reducible refine sdQ ?_);replace ⟨v39,hv39,h⟩:=bind_some h
   refine Q2j (fz:=[]) (ICon.frameL (e:={ v:=.tup [],set:=[(0,.mix 27 [(Y0o q0_ (Y0o q1_ (Y0y q2_ q3_ [.own 6 0 v39.length])))])],del:=[3],new:=[(6,.row 1 (Ls v39))],cnt:=1 }) (ih _ _ _ _ _ _ v39 hv39) [(0,0),(1,3),(2,5)] (by rfl) (by simp) (by simp [rl,rlL,rlLL,rlE,rlE',back,mxt,look,trm,List.range,List.range.loop,Qs,Fn.cells,XL07State.cells]) (by simp [rl,rlL,rlLL,rlE,rlE',back,mxt,look,trm,List.range,List.range.loop,Qs,Fn.cells,XL07State.cells]) (by simp [Q3u]) (by rfl) (by simp [rl,rlL,rlLL,rlE,rlE',back,mxt,look,trm,List.range,List.range.loop,Qs,Fn.cells,XL07State.cells]) (by simp [rl,rlL,rlLL,rlE,rlE',back,mxt,look,trm,List.range,List.range.loop,Qs,Fn.cells,XL07State.cells]) (by simp [rl,rlL,rlLL,rlE,rlE',back,mxt,look,trm,List.range,List.range.loop,Qs,Fn.cells,XL07State.cells]) (by simp [rl,rlL,rlLL,rlE,rlE',back,mxt,look,trm,List.range,List.range.loop,Qs,Fn.cells,XL07State.cells]) (by simp [Q3u]) (by rfl) (Q50 (by simp))) ?_;simp;(repeat refine sdQ ?_);refine hK _ ?_;clear hK K;refine bn (tn (Q3 (st':=⟨YH q5_ [(4,iV b3),(6,.own 4 0 v23.length),(7,iV s32.2)],[(0,.mix 27 [(Y0o q0_ (Y0o q1_ (Y0y q2_ q3_ [.own 3 0 v39.length])))]),(2,rI q5_),(3,.row 1 (Ls v39)),(4,rI v23)],5⟩) (Wk.rP _ [(0,0),(6,3),(2,2),(4,4),(1,1)] hP (by rfl) (by simp [hhOk,back,Fn.cells,XL07State.cells,UA,U1,IA,I1,LA,L1,BA,B1,EA,E1,E2,eB,eI,eL,Qa _ Qi _ (fun _=>rfl)])) (Qk [] mo (by rw [hN];decide) fun K hK=>?_)));replace ⟨a40,h⟩:=Q2 h;simp [Qp a40];(repeat refine sdQ ?_);refine hK _ ?_;clear hK K;cases h;exact rn (s':=(v39,s32.2+1)) hk32 (Wk.rP _ [(0,0),(3,3),(2,2),(4,4),(1,1)] hP (by rfl) (by simp [hhOk,back,Fn.cells,XL07State.cells,UA,U1,IA,I1,LA,L1,BA,B1,EA,E1,E2,eB,eI,eL,Qa _ Qi _ (fun _=>rfl)]))
  have g35:¬ (b33=true):=gQ;clear g;replace h:=if_r g35 h;refine Qj (tx (lx (bh ?_)));cases h;have q:_=e32:=hk32;have h:=h32;rw [← q] at h;clear q;try dsimp only at h
  cases h;first|refine iw_r (st':=⟨[],Y6 q0_ q1_ q2_ q3_ s32 q5_ [],4⟩) ?_ ?_|refine iw_n (st':=⟨[],Y6 q0_ q1_ q2_ q3_ s32 q5_ [],4⟩) ?_ ?_
  ·exact Wk.rP _ [(0,0),(3,3),(2,2),(1,1)] hP (by rfl) (by simp [hhOk,back,Fn.cells,XL07State.cells,UA,U1,IA,I1,LA,L1,BA,B1,EA,E1,E2,eB,eI,eL,Qa _ Qi _ (fun _=>rfl)])
  exact ⟨by simp [Qs],by simp,by simp [Fn.cells,XL07State.cells]⟩
section
attribute [local simp] Qf QG Qu Q16 QE
def cdead (d:Fn) (x:Int) (c:List Int):Prop:=∃ i:Nat,i<d.ob.length∧ix c i = -1∧Ch d x c i=[]
noncomputable def cnx (d:Fn) (c:List Int):Int:=fstN d.ob.length fun i=>ix c i = -1
noncomputable def cG (d:Fn) (x:Int):Nat→List Int→List (List Int)
 | 0,_=>[]
 | k+1,c=>@ite _ (cdead d x c) (Classical.propDecidable _) [] (if cnx d c<0 then [c] else (Ch d x c (cnx d c).toNat).flatMap fun f=>cG d x k (c.set (cnx d c).toNat f))
theorem cnx_or (d:Fn) (c:List Int):(cnx d c = -1∧∀ i,i<d.ob.length→¬ ix c i = -1)∨∃ i:Nat,i<d.ob.length∧ix c i = -1∧cnx d c=(i:Int):=Q8k _ _
theorem Q5G {d:Fn} {c:List Int} (hl:c.length=d.ob.length) {i:Nat} (hi:i<d.ob.length) (h:ix c i = -1) {f:Int} (hf:0≤f) {k:Nat} (hk:c.count (-1)<k+1):(c.set i f).count (-1)<k:=by
 have hi2:i<c.length:=by omega
 have e:c[i] = -1:=by rw [Q11 _ _ hi2];exact h
 have h1:0<c.count (-1):=List.count_pos_iff.2 (by rw [← e];exact List.getElem_mem hi2);have hf2:¬ f = -1:=by omega
 rw [List.count_set hi2];simp [e,hf2];omega
theorem take_step {α:Type} (A Y Z:List α) (r:Nat):(A++Y.take r)++Z.take (r - (Y.take r).length)=A++(Y++Z).take r:=by
 rw [List.append_assoc,List.take_append]
 congr 2
 simp only [List.length_take]
 by_cases h:r≤Y.length
 ·rw [show r - min r Y.length=0 by omega,show r - Y.length=0 by omega]
 rw [show min r Y.length=Y.length by omega]
set_option maxHeartbeats 2000000 in
theorem e_go {d:Fn} (hd:d.Is) {x:Int} (hx:0≤x∧x<d.t.n) {most:Nat} (hm:most≤401):∀ (k:Nat) (c:List Int) (found:List (List Int)),CV d x c→c.count (-1)<k→found.length<most →
  QO k (cstF d x) d false most found c=some (found++(cG d x k c).take (most - found.length)):=by
 obtain ⟨l1,l2,l3,l4,l5,l6,l7,l8⟩:=hd.fact;intro k
 induction k with
 | zero=>intro c found _ h;omega
 | succ k ih =>
  intro c found hc hk hf;have hl:=hc.1;unfold QO;try simp only
  rw [Q4 (by unfold B64;omega)];refine QZ (σ:=Int × Int) (Q:=fun z=>z=some (found++(cG d x (k+1) c).take (most - found.length))) d.ob.length
   (fun i s=>s.2=(d.ob.length:Int) - 1 - (i:Int)∧((s.1 = -1∧∀ j:Nat,d.ob.length - i≤j→j<d.ob.length→¬ ix c j = -1)∨∃ b:Nat,s.1=(b:Int)∧d.ob.length - i≤b∧b<d.ob.length∧ix c b = -1∧∀ j:Nat,d.ob.length - i≤j→j<b→¬ ix c j = -1)∧∀ j:Nat,d.ob.length - i≤j→j<d.ob.length→ix c j = -1→¬ Ch d x c j=[])
   (fun e:Int ⊕ List (List Int)=>match e with
    | .inl b=>b=cnx d c∧¬ cdead d x c
    | .inr p=>p=found∧cdead d x c) (by omega) ⟨by simp only;omega,.inl ⟨rfl,fun j h1 h2=>by omega⟩,fun j h1 h2=>by omega⟩ ?_ ?_ ?_
  ·intro i s hi ⟨h1,h2,h3⟩;obtain ⟨b,y⟩:=s;simp only at h1 h2 h3 ⊢;have hy:y=((d.ob.length - 1 - i:Nat):Int):=(by omega);subst hy;have hn:d.ob.length - (i+1)=d.ob.length - 1 - i:=(by omega);rw [hn];generalize hyy:d.ob.length - 1 - i=y at *;have hB:B64 ((y:Int) - 1):=(by unfold B64;omega);rw [if_pos (by omega),Q4 (by omega)]
   by_cases ho:ix c y = -1
   ·rw [if_pos ho,Q6D hd hx hc (by omega)];simp only [Option.bind_some]
    by_cases he:Ch d x c y=[]
    ·right;refine ⟨.inr found,by simp [he],rfl,y,by omega,ho,he⟩
    left;have hne:¬ ((Ch d x c y).length:Int)=0:=fun q=>he (List.length_eq_zero_iff.1 (by omega));rw [if_neg hne];simp only [Option.bind_some];rw [Q4 hB];refine ⟨_,rfl,by simp only;omega,.inr ⟨y,rfl,by omega,by omega,ho,fun j g1 g2=>by omega⟩,fun j g1 g2 g3=>?_⟩
    by_cases hj:j=y
    ·subst hj;exact he
    exact h3 j (by omega) g2 g3
   left;rw [if_neg ho];simp only [Option.bind_some];rw [Q4 hB];refine ⟨_,rfl,by simp only;omega,?_,fun j g1 g2 g3=>?_⟩
   ·rcases h2 with ⟨q1,q2⟩|⟨b',q1,q2,q3,q4,q5⟩
    ·refine .inl ⟨q1,fun j g1 g2=>?_⟩
     by_cases hj:j=y
     ·subst hj;exact ho
     exact q2 j (by omega) g2
    refine .inr ⟨b',q1,by omega,q3,q4,fun j g1 g2=>?_⟩
    by_cases hj:j=y
    ·subst hj;exact ho
    exact q5 j (by omega) g2
   by_cases hj:j=y
   ·subst hj;exact absurd g3 ho
   exact h3 j (by omega) g2 g3
  ·intro s ⟨h1,h2,h3⟩;obtain ⟨b,y⟩:=s;simp only at h1 h2 h3 ⊢;refine ⟨.inl b,by rw [if_neg (by omega)],?_,fun ⟨i,g1,g2,g3⟩=>h3 i (by omega) g1 g2 g3⟩;rcases h2 with ⟨q1,q2⟩|⟨b',q1,q2,q3,q4,q5⟩
   ·rw [q1];exact (fstN_no fun i hi=>q2 i (by omega) hi).symm
   rw [q1];exact (fstN_at q3 q4 fun j hj=>q5 j (by omega) hj).symm
  intro e he;cases e with
  | inr p =>
   simp only at he ⊢;rw [he.1,cG,if_pos he.2];simp
  | inl b =>
   simp only at he ⊢;obtain ⟨hb,hnd⟩:=he;rw [cG,if_neg hnd,← hb]
   by_cases hb0:b<0
   ·rw [if_pos hb0,if_pos hb0];unfold Q15;rw [Q4 (by omega)];simp only [Option.bind_some];rw [Q4 (by simp;omega),List.take_of_length_le (by simp;omega)]
   rw [if_neg hb0,if_neg hb0];rcases cnx_or d c with ⟨q1,q2⟩|⟨i,q1,q2,q3⟩
   ·omega
   rw [q3] at hb;subst hb;rw [Q6D hd hx hc q1];simp only [Option.bind_some,Int.toNat_natCast];have hC:=Ch_len hd x c i;generalize hCe:Ch d x c i=C at hC;have hCm:∀ f∈C,Ar d.t f x (ix d.ob i):=fun f hf=>by rw [← hCe] at hf;exact mem_Ch hf
   let Y:Nat→List (List Int):=fun q=>(C.take q).flatMap fun f=>cG d x k (c.set i f)
   have hY:∀ q,q<C.length→Y (q+1)=Y q++cG d x k (c.set i (ix C q)):=by
    intro q hq;simp only [Y];rw [List.take_succ_eq_append_getElem hq,Q11 _ _ hq];simp
   refine QZ (σ:=List (List Int) × Int) (Q:=fun z=>z=some (found++(C.flatMap fun f=>cG d x k (c.set i f)).take (most - found.length))) C.length
    (fun q s=>s=(found++(Y q).take (most - found.length),(q:Int)))
    (fun e=>e=found++(C.flatMap fun f=>cG d x k (c.set i f)).take (most - found.length)) (by omega) (by simp [Y]) ?_ ?_ (fun e he=>by rw [he])
   ·intro q s hq hs;subst hs;have hqC:(q:Int)<(C.length:Int):=(by omega);simp only;rw [if_pos hqC];simp only [Option.bind_some]
    by_cases hfull:(((found++(Y q).take (most - found.length)).length:Nat):Int)<(most:Int)
    ·left;rw [if_pos (by simpa using hfull)];unfold Q15;rw [Q4 (by omega)];simp only [Option.bind_some];rw [Q4 (by omega),Q4 (by omega)];have hA:=Q8r (P:=fun f=>Ar d.t f x (ix d.ob i)) hCm hq;rw [ih _ _ (hc.set hA) (Q5G hl q1 q2 hA.1.1 hk) (by omega)];simp only [Option.bind_some];rw [Q4 (by unfold B64;omega)];refine ⟨_,rfl,?_⟩;rw [hY q hq,← take_step]
     congr 3
     simp only [List.length_append];omega
    right;rw [if_neg (by simpa using hfull)];refine ⟨_,rfl,?_⟩;have hlen:most - found.length≤(Y q).length:=by
     simp only [List.length_append,List.length_take] at hfull;omega
    have:(C.flatMap fun f=>cG d x k (c.set i f))=Y q++(C.drop q).flatMap fun f=>cG d x k (c.set i f):=by
     simp only [Y];rw [← List.flatMap_append,List.take_append_drop]
    rw [this,List.take_append_of_le_length hlen]
   intro s hs;subst hs;simp only;rw [if_neg (by omega)];refine ⟨_,by simp;rfl,?_⟩;simp [Y]
end
section
attribute [local simp] Qf QG Qu Q16 QE
theorem fm_filter {β:Type} {xs:List Int} {q:Int→Prop} {g h:Int→List β} (H:∀ f∈xs,(q f→g f=h f)∧(¬ q f→h f=[])):(xs.filter fun f=>bo (q f)).flatMap g=xs.flatMap h:=by
 induction xs with
 | nil=>rfl
 | cons a xs ih =>
  have h1:=H a (by simp);have h2:=ih fun f hf=>H f (by simp [hf])
  by_cases hq:q a
  ·simp only [List.filter_cons,QC hq,if_true,List.flatMap_cons,h2,h1.1 hq]
  simp only [List.filter_cons,Qv hq,Bool.false_eq_true,if_false,List.flatMap_cons,h2,h1.2 hq,List.nil_append]
theorem Q8s {d:Fn} (hd:d.Is) {x:Int}:∀ (m:Nat) (p q:List Int),m+p.length=d.ob.length→LP d x p→q∈lext d x m p→q.length=d.ob.length∧LP d x q∧(∀ i:Nat,i<p.length→ix q i=ix p i)∧∀ j:Nat,p.length≤j→j<d.ob.length→lok d q j:=by
 intro m
 induction m with
 | zero =>
  intro p q hm hp hq;simp only [lext,List.mem_singleton] at hq;subst hq;exact ⟨by omega,hp,fun _ _=>rfl,fun j h1 h2=>by omega⟩
 | succ m ih =>
  intro p q hm hp hq;simp only [lext,List.mem_flatMap] at hq;obtain ⟨f,hf,hq⟩:=hq;unfold lnx at hq
  by_cases hl:lok d (p++[f]) p.length
  ·rw [if_pos hl] at hq;obtain ⟨q1,q2,q3,q4⟩:=ih (p++[f]) q (by simp;omega) (hp.snoc (Q3F f hf)) hq;simp only [List.length_append,List.length_singleton] at q3 q4;refine ⟨q1,q2,fun i hi=>by rw [q3 i (by omega),Q2S hi],fun j h1 h2=>?_⟩
   by_cases hj:j=p.length
   ·subst hj;intro a ha hma;refine (Q8o hd ha hma fun i hi=>?_).2 (hl a ha hma);exact q3 i (by omega)
   exact q4 j (by omega) h2
  rw [if_neg hl] at hq;cases hq
theorem Q6i {d:Fn} {p q:List Int} {a:Nat} (h1:ix p (ix d.s.fr a)=ix q (ix d.s.fr a)) (h2:ix p (ix d.s.to a)=ix q (ix d.s.to a)):leq d p a↔leq d q a:=by
 unfold leq;rw [h1,h2]
theorem Q6f {c:List Int} {i:Nat} {y:Int} (h0:0≤y) (f:Int) (hi:i<c.length):ix (c.set i f) y=if y=(i:Int) then f else ix c y:=by
 obtain ⟨j,rfl⟩:=Int.eq_ofNat_of_zero_le h0
 by_cases h:i=j
 ·subst h;rw [Q53 hi];simp
 rw [Q54 h,if_neg (by omega)]
theorem Ch_mem {d:Fn} (hd:d.Is) {x:Int} {c q:List Int} {i:Nat} (hi:i<d.ob.length) (hl:c.length=d.ob.length) (hq:LP d x q) (ql:q.length=d.ob.length) (hag:∀ j:Int,0≤j→j<(d.ob.length:Int)→0≤ix c j→ix c j=ix q j)
  (H:∀ a:Nat,a<d.ar.length→(ix d.s.fr a=(i:Int)∨ix d.s.to a=(i:Int))→0≤ix (c.set i (ix q i)) (ix d.s.fr a)→0≤ix (c.set i (ix q i)) (ix d.s.to a)→leq d q a):ix q i∈Ch d x c i:=by
 obtain ⟨l1,l2,l3,l4,l5,l6,l7,l8⟩:=hd.fact;have A:=hq i (by omega);have hag2:∀ j:Int,0≤j→j<(d.ob.length:Int)→0≤ix (c.set i (ix q i)) j→ix (c.set i (ix q i)) j=ix q j:=by
  intro j h0 h1 h2;rw [Q6f h0 _ (by omega)] at h2 ⊢
  by_cases e:j=(i:Int)
  ·rw [if_pos e,e]
  rw [if_neg e] at h2 ⊢;exact hag j h0 h1 h2
 refine List.mem_filter.2 ⟨?_,?_⟩
 ·obtain ⟨f,hf⟩:=Int.eq_ofNat_of_zero_le A.1.1;have:=A.1.2;refine mem_flt.2 ⟨f,by omega,by rw [← hf];exact A.2,hf⟩
 refine QC fun a ha ht h1 h2=>?_;obtain ⟨f1,f2,f3⟩:=l8 a ha;exact (Q6i (hag2 _ f1.1 f1.2 h1) (hag2 _ f2.1 f2.2 h2)).2 (H a ha ht h1 h2)
theorem set_pad {p:List Int} {f:Int} {m:Nat}:(p++List.replicate (m+1) (-1)).set p.length f=(p++[f])++List.replicate m (-1):=set_fill p m f (-1) rfl
theorem Q52 {p:List Int} {m i:Nat} (h:i<p.length):ix (p++List.replicate m (-1)) i=ix p i:=by simp [ix,List.getD_eq_getElem?_getD,List.getElem?_append,h]
theorem Q6e {p:List Int} {m i:Nat} (h:p.length≤i) (h2:i<p.length+m):ix (p++List.replicate m (-1)) i = -1:=by
 simp [ix,List.getD_eq_getElem?_getD,List.getElem?_append,show ¬ i<p.length by omega,List.getElem?_replicate,show i - p.length<m by omega]
theorem pad_CV {d:Fn} {x:Int} {p:List Int} {m:Nat} (hm:m+p.length=d.ob.length) (hp:LP d x p):CV d x (p++List.replicate m (-1)):=by
 refine ⟨by simp;omega,fun i hi=>?_⟩
 by_cases h:i<p.length
 ·rw [Q52 h];exact .inr (.inr (hp i h))
 rw [Q6e (by omega) (by omega)];exact .inl rfl
theorem cG_lext {d:Fn} (hd:d.Is) {x:Int}:∀ (m k:Nat) (p:List Int),m+p.length=d.ob.length→m<k→LP d x p→cG d x k (p++List.replicate m (-1))=lext d x m p:=by
 obtain ⟨l1,l2,l3,l4,l5,l6,l7,l8⟩:=hd.fact;intro m
 induction m with
 | zero =>
  intro k p hm hk hp;obtain ⟨k,rfl⟩:∃ k',k=k' + 1:=⟨k - 1,by omega⟩;have hno:∀ i:Nat,i<d.ob.length→¬ ix p i = -1:=fun i hi q=>by have:=(hp i (by omega)).1;omega
  simp only [List.replicate_zero,List.append_nil];rw [cG,if_neg (fun ⟨i,h1,h2,h3⟩=>hno i h1 h2),if_pos (by unfold cnx;rw [fstN_no hno];omega)];rfl
 | succ m ih =>
  intro k p hm hk hp;obtain ⟨k,rfl⟩:∃ k',k=k' + 1:=⟨k - 1,by omega⟩;have hnx:cnx d (p++List.replicate (m+1) (-1))=(p.length:Int):=by
   refine fstN_at (by omega) (Q6e (by omega) (by omega)) fun j hj=>?_;rw [Q52 hj];have:=(hp j hj).1;omega
  have hlen:(p++List.replicate (m+1) (-1)).length=d.ob.length:=by simp;omega
  have hset:∀ f:Int,(p++List.replicate (m+1) (-1)).set p.length f=(p++[f])++List.replicate m (-1):=fun f=>set_pad;rw [cG]
  by_cases hdd:cdead d x (p++List.replicate (m+1) (-1))
  ·rw [if_pos hdd];obtain ⟨i,h1,h2,h3⟩:=hdd;have hip:p.length≤i:=by
    rcases Nat.lt_or_ge i p.length with h|h
    ·rw [Q52 h] at h2;have:=(hp i h).1;omega
    exact h
   symm;rw [List.eq_nil_iff_forall_not_mem];intro q hq;obtain ⟨q1,q2,q3,q4⟩:=Q8s hd (m+1) p q hm hp hq;have:ix q i∈Ch d x (p++List.replicate (m+1) (-1)) i:=by
    have hcut:∀ y:Int,0≤y→y<(d.ob.length:Int)→0≤ix (p++List.replicate (m+1) (-1)) y→y<(p.length:Int):=by
     intro y h0 h1' h2';obtain ⟨j,rfl⟩:=Int.eq_ofNat_of_zero_le h0;rcases Nat.lt_or_ge j p.length with h|h
     ·omega
     rw [Q6e h (by omega)] at h2';omega
    refine Ch_mem hd h1 hlen q2 q1 (fun j j0 j1 j2=>?_) fun a ha ht g1 g2=>?_
    ·have:=hcut j j0 j1 j2;obtain ⟨j,rfl⟩:=Int.eq_ofNat_of_zero_le j0;rw [Q52 (by omega),q3 j (by omega)]
    obtain ⟨f1,f2,f3⟩:=l8 a ha;refine q4 i hip h1 a ha ?_;rw [Q6f f1.1 _ (by omega)] at g1;rw [Q6f f2.1 _ (by omega)] at g2;have b1:ix d.s.fr a≤(i:Int):=by
     split at g1
     ·omega
     have:=hcut _ f1.1 f1.2 g1;omega
    have b2:ix d.s.to a≤(i:Int):=by
     split at g2
     ·omega
     have:=hcut _ f2.1 f2.2 g2;omega
    unfold lmax;split<;>omega
   rw [h3] at this;cases this
  rw [if_neg hdd,hnx,if_neg (by omega)];simp only [Int.toNat_natCast,lext];refine fm_filter fun f hf=>?_;have Af:Ar d.t f x (ix d.ob p.length):=Q3F f hf;have hiff:chP d (p++List.replicate (m+1) (-1)) p.length f↔lok d (p++[f]) p.length:=by
   unfold chP lok;rw [hset f];have c1:∀ y:Int,0≤y→y<(d.ob.length:Int)→(0≤ix (p++[f]++List.replicate m (-1)) y↔y≤(p.length:Int))∧(y≤(p.length:Int)→ix (p++[f]++List.replicate m (-1)) y=ix (p++[f]) y):=by
    intro y h0 h1;obtain ⟨j,rfl⟩:=Int.eq_ofNat_of_zero_le h0;have hl1:(p++[f]).length=p.length+1:=(by simp);rcases Nat.lt_or_ge j (p.length+1) with h|h
    ·rw [Q52 (by omega)];refine ⟨⟨fun _=>by omega,fun _=>?_⟩,fun _=>rfl⟩;exact (hp.snoc Af j (by omega)).1.1
    rw [Q6e (by omega) (by omega)];exact ⟨⟨fun _=>by omega,fun _=>by omega⟩,fun _=>by omega⟩
   constructor
   ·intro h a ha hma;obtain ⟨f1,f2,f3⟩:=l8 a ha;unfold lmax at hma;have b1:ix d.s.fr a≤(p.length:Int):=(by split at hma<;>omega);have b2:ix d.s.to a≤(p.length:Int):=(by split at hma<;>omega);have:=h a ha (by split at hma<;>omega) (((c1 _ f1.1 f1.2).1).2 b1) (((c1 _ f2.1 f2.2).1).2 b2);exact (Q6i ((c1 _ f1.1 f1.2).2 b1) ((c1 _ f2.1 f2.2).2 b2)).1 this
   intro h a ha ht g1 g2;obtain ⟨f1,f2,f3⟩:=l8 a ha;have b1:=((c1 _ f1.1 f1.2).1).1 g1;have b2:=((c1 _ f2.1 f2.2).1).1 g2;refine (Q6i ((c1 _ f1.1 f1.2).2 b1) ((c1 _ f2.1 f2.2).2 b2)).2 (h a ha ?_);unfold lmax;split<;>omega
  refine ⟨fun hq=>?_,fun hq=>?_⟩
  ·show cG d x k _=lnx _ _ _ _;unfold lnx;rw [if_pos (hiff.1 hq),hset f];exact ih k (p++[f]) (by simp;omega) (by omega) (hp.snoc Af)
  unfold lnx;rw [if_neg fun g=>hq (hiff.2 g)]
theorem cG_some {d:Fn} (hd:d.Is) {x:Int} {q:List Int} (hq:LP d x q) (ql:q.length=d.ob.length) (H:∀ a:Nat,a<d.ar.length→leq d q a):∀ (k:Nat) (c:List Int),CV d x c→c.count (-1)<k→(∀ j:Int,0≤j→j<(d.ob.length:Int)→0≤ix c j→ix c j=ix q j)→cG d x k c ≠ []:=by
 intro k
 induction k with
 | zero=>intro c _ h;omega
 | succ k ih =>
  intro c hc hk hag;have hl:=hc.1;have hm:∀ i:Nat,i<d.ob.length→ix q i∈Ch d x c i:=fun i hi=>Ch_mem hd hi hl hq ql hag fun a ha _ _ _=>H a ha;rw [cG,if_neg (fun ⟨i,h1,h2,h3⟩=>by have:=hm i h1;rw [h3] at this;cases this)];rcases cnx_or d c with ⟨q1,q2⟩|⟨i,q1,q2,q3⟩
  ·rw [q1,if_pos (by omega)];simp
  rw [q3,if_neg (by omega)];simp only [Int.toNat_natCast];have hmi:=hm i q1;have:=ih (c.set i (ix q i)) (hc.set (mem_Ch hmi)) (Q5G hl q1 q2 (mem_Ch hmi).1.1 hk) (fun j h0 h1 h2=>by
   rw [Q6f h0 _ (by omega)] at h2 ⊢
   by_cases e:j=(i:Int)
   ·rw [if_pos e,e]
   rw [if_neg e] at h2 ⊢;exact hag j h0 h1 h2)
  intro he;rw [List.flatMap_eq_nil_iff] at he;exact this (he _ hmi)
theorem Q73 {d:Fn} (hd:d.Is) {x:Int} {q:List Int} (h:q∈lext d x d.ob.length []):q.length=d.ob.length∧LP d x q∧∀ a:Nat,a<d.ar.length→leq d q a:=by
 obtain ⟨q1,q2,q3,q4⟩:=Q8s hd d.ob.length [] q (by simp) (fun i hi=>by simp at hi) h;refine ⟨q1,q2,fun a ha=>?_⟩;obtain ⟨l1,l2,l3,l4,l5,l6,l7,l8⟩:=hd.fact;obtain ⟨f1,f2,f3⟩:=l8 a ha;have:0≤lmax d a∧lmax d a<(d.ob.length:Int):=by unfold lmax;split<;>omega
 obtain ⟨j,hj⟩:=Int.eq_ofNat_of_zero_le this.1;exact q4 j (by simp) (by omega) a ha hj
end
attribute [local simp] unk unA unE unT unC flat eL eI Qo
noncomputable def Q2b (list_:List Int) (n_:Int):Option Int :=
 (Qw (σ:=Int) (ε:=Unit ⊕ Int) (fun s6 =>
  if s6<(list_.length:Int) then
   ass (0≤s6∧s6<(list_.length:Int)) <|
   if (ix list_ s6)=n_ then
    some (Ctl.ret (Sum.inr s6))
   else
    ass (B64 (s6+1)) <|
    some (Ctl.next (s6+1))
  else
   some (Ctl.ret (Sum.inl ()))) fuel 0).bind fun e1 =>
 match e1 with
 | .inl b1 =>
  some (-1)
 | .inr p1 =>
  some p1
theorem Q7i (list_:List Int) (n_:Int) (r:Int) (h:Q2b list_ n_=some r):Contract Try.prog 93 [lI list_,iV n_] (iV r):=by
 refine Q8 (rvs:=[.tmp 4]) (rs:=[iV r]) Try.func93 rfl rfl rfl rfl (by simp [Try.f93]) fun F hN hP=>?_;unfold Q2b at h;refine Q0 (runQ hN fun K hK=>?_);simp;repeat refine sdQ ?_
 refine hK _ ?_;clear hK K;refine tn (Q3 (st':=⟨[(0,lI list_),(1,iV n_)],[],0⟩) (wkQ9 []) (Q0 (Q0 (runQ hN fun K hK=>?_))));simp;repeat refine sdQ ?_
 refine hK _ (tn (Q3 (st':=⟨[(0,lI list_),(1,iV n_),(5,iV 0)],[],0⟩) (wkQ9 []) ?_));clear hK K;replace ⟨e1,h,h1⟩:=bind_some h;refine Qd (fun b1:Unit=>⟨[],[],0⟩) (fun b1=>Sum.inl b1=e1) ?_ ?_
 ·refine Q5 (Qt h (fun s6:Int=>⟨[(0,lI list_),(1,iV n_),(5,iV s6)],[],0⟩) (wkQ9 []) ?_);clear h;intro k6 s6 c6 h hk6;refine Q0 (Q0 (runQ hN fun K hK=>?_));simp;repeat refine sdQ ?_
  refine hK _ ?_;clear hK K;refine tn (Q6 rfl (fun g=>?_) fun g=>?_)
  ·have g7:s6<(list_.length:Int):=gQ;clear g;replace h:=if_l g7 h;refine Q7 (tn (Q0 (Q5 (Q0 (runQ hN fun K hK=>?_)))));replace ⟨a8,h⟩:=Q2 h;simp [at_I a8];(repeat refine sdQ ?_);refine hK _ ?_;clear hK K;refine tn (Q6 rfl (fun g=>?_) fun g=>?_)
   ·have g9:(ix list_ s6)=n_:=gQ;clear g;replace h:=if_l g9 h;refine Q0 (runQ hN fun K hK=>?_);simp;(repeat refine sdQ ?_);refine hK _ (tn (Q3 (st':=⟨[(4,iV s6)],[],0⟩) (wkQ9 []) (Qe (br (tr (lr (br (tr ?_))))))));clear hK K;cases h;have q:_=e1:=hk6;have h:=h1;rw [← q] at h;clear q;(try dsimp only at h);have hr:=Option.some.inj h;rw [← hr];refine ⟨_,(.tmp .nil),?_⟩;refine ⟨(.one rfl rfl .nil),[iV s6],[],by simp [UA,U1,IA,I1,LA,L1,BA,B1,EA,E1,E2,eB,eI,eL],by simp,(UpL.refl _)⟩
   have g9:¬ ((ix list_ s6)=n_):=gQ;clear g;replace h:=if_r g9 h;refine Q7 (bn (tn (runQ hN fun K hK=>?_)));replace ⟨a10,h⟩:=Q2 h;simp [Qp a10];(repeat refine sdQ ?_);refine hK _ ?_;clear hK K;cases h;exact rn (s':=s6+1) hk6 (wkQ9 [])
  have g7:¬ (s6<(list_.length:Int)):=gQ;clear g;replace h:=if_r g7 h;refine Qj (tx (lx (bh ?_)));cases h;exact jn (b:=()) hk6 (wkQ9 [])
 intro b1 hb1;have h:=h1;try rw [← hb1] at h
 clear h1;try dsimp only at h
 refine Q0 (runQ hN fun K hK=>?_);simp;repeat refine sdQ ?_
 refine hK _ (tn (Q3 (st':=⟨[(4,iV (-1))],[],0⟩) (wkQ9 []) (Qe ?_)));clear hK K;have hr:=Option.some.inj h;rw [← hr];refine ⟨_,(.tmp .nil),?_⟩;refine ⟨(.one rfl rfl .nil),[iV (-1)],[],by simp [UA,U1,IA,I1,LA,L1,BA,B1,EA,E1,E2,eB,eI,eL],by simp,(UpL.refl _)⟩
attribute [local simp] unk unA unE unT unC flat eL eI Qo
noncomputable def Q1w (labels_:List Int):Option (List Int) :=
 (Qw (σ:=List Int × List Int × Int) (ε:=List Int) (fun s11 =>
  if s11.2.2<(labels_.length:Int) then
   ass (0≤s11.2.2∧s11.2.2<(labels_.length:Int)) <|
   (Q2b s11.2.1 (ix labels_ s11.2.2)).bind fun v14 =>
   (
    if v14<0 then
     ass (0≤s11.2.2∧s11.2.2<(labels_.length:Int)) <|
     ass ((s11.2.1++[ix labels_ s11.2.2]).length≤1073741824) <|
     some (s11.2.1++[ix labels_ s11.2.2],(s11.2.1.length:Int))
    else
     some (s11.2.1,v14):Option (List Int × Int)).bind fun b15 =>
   ass ((s11.1++[b15.2]).length≤1073741824) <|
   ass (B64 (s11.2.2+1)) <|
   some (Ctl.next (s11.1++[b15.2],b15.1,s11.2.2+1))
  else
   some (Ctl.ret s11.1)) fuel ([],[],0)).bind fun b1 =>
 some b1
theorem Q5A (labels_:List Int) (r:List Int) (h:Q1w labels_=some r):Contract Try.prog 88 [lI labels_] (lI r):=by
 refine Q8 (rvs:=[.tmp 2]) (rs:=[lI r]) Try.func88 rfl rfl rfl rfl (by simp [Try.f88]) fun F hN hP=>?_;unfold Q1w at h;refine Q0 (runQ hN fun K hK=>?_);simp;repeat refine sdQ ?_
 refine hK _ ?_;clear hK K;refine tn (Q3 (st':=⟨[(0,lI labels_)],[],0⟩) (wkQ9 []) (Q0 (runQ hN fun K hK=>?_)));simp;repeat refine sdQ ?_
 refine hK _ ?_;clear hK K;refine tn (Q3 (st':=⟨[(0,lI labels_),(3,.own 0 0 0),(4,.own 1 0 0)],[(0,.mix 1 []),(1,.mix 1 [])],2⟩) (wkQ9 [(0,0),(1,1)]) (Q0 (Q0 (runQ hN fun K hK=>?_))));simp;repeat refine sdQ ?_
 refine hK _ (tn (Q3 (st':=⟨[(0,lI labels_),(3,.own 0 0 0),(4,.own 1 0 0),(5,iV 0)],[(0,.mix 1 []),(1,.mix 1 [])],2⟩) (wkQ9 [(0,0),(1,1)]) ?_));clear hK K;replace ⟨e1,h,h1⟩:=bind_some h;refine Qd (fun b1:List Int=>⟨[(3,.own 0 0 b1.length)],[(0,rI b1)],1⟩) (fun b1=>b1=e1) ?_ ?_
 ·refine Q5 (Qt h (fun s11:List Int × List Int × Int=>⟨[(0,lI labels_),(3,.own 0 0 s11.1.length),(4,.own 1 0 s11.2.1.length),(5,iV s11.2.2)],[(0,rI s11.1),(1,rI s11.2.1)],2⟩) (Q3m ⟨[(0,lI labels_),(3,.own 0 0 0),(4,.own 1 0 0),(5,iV 0)],[(0,rI []),(1,rI [])],2⟩ (Wk.nils [] (by simp) (by simp) (by simp [nlA]) (by simp [entN,nlL,nlA,UA,U1,IA,I1,LA,L1,BA,B1,EA,E1,E2,eB,eI,eL]) (by simp)) (wkQ9 [(0,0),(1,1)])) ?_);clear h;intro k11 s11 c11 h hk11;refine Q0 (Q0 (runQ hN fun K hK=>?_));simp;repeat refine sdQ ?_
  refine hK _ ?_;clear hK K;refine tn (Q6 rfl (fun g=>?_) fun g=>?_)
  ·have g12:s11.2.2<(labels_.length:Int):=gQ;clear g;replace h:=if_l g12 h;refine Q7 (tn (Q0 (Q5 (Q0 (runQ hN fun K hK=>?_)))));replace ⟨a13,h⟩:=Q2 h;simp [at_I a13];(repeat with_reducible refine sdQ ?_);replace ⟨v14,hv14,h⟩:=bind_some h;refine Q1 (Q7i _ _ v14 hv14) (.cons .w (.cons .val .nil)) ?_;simp [at_I a13];(repeat refine sdQ ?_);refine hK _ ?_;clear hK K;refine tn (Q3 (st':=⟨[(0,lI labels_),(3,.own 0 0 s11.1.length),(4,.own 1 0 s11.2.1.length),(5,iV s11.2.2),(6,iV v14)],[(0,rI s11.1),(1,rI s11.2.1)],2⟩) (wkQ9 [(0,0),(1,1)]) (Q0 (Q0 (runQ hN fun K hK=>?_))));simp;(repeat refine sdQ ?_);refine hK _ (tn ?_);clear hK K;replace ⟨e15,h,h15⟩:=bind_some h;refine Qd (fun b15:List Int × Int=>⟨[(0,lI labels_),(3,.own 0 0 s11.1.length),(4,.own 1 0 b15.1.length),(5,iV s11.2.2),(6,iV b15.2)],[(0,rI s11.1),(1,rI b15.1)],2⟩) (fun b15=>b15=e15) ?_ ?_
   ·refine Q6 rfl (fun g=>?_) fun g=>?_
    ·have g16:v14<0:=gQ;clear g;replace h:=if_l g16 h;refine Q0 (runQ hN fun K hK=>?_);simp;(repeat refine sdQ ?_);refine hK _ ?_;clear hK K;refine tn (Q3 (st':=⟨[(0,lI labels_),(3,.own 0 0 s11.1.length),(4,.own 1 0 s11.2.1.length),(5,iV s11.2.2),(6,iV (s11.2.1.length:Int))],[(0,rI s11.1),(1,rI s11.2.1)],2⟩) (wkQ9 [(0,0),(1,1)]) (runQ hN fun K hK=>?_));replace ⟨a17,h⟩:=Q2 h;replace ⟨a18,h⟩:=Q2 h;(try simp only [List.length_append,List.length_cons,List.length_nil] at a18);simp [at_I a17,a18];(repeat refine sdQ ?_);refine hK _ ?_;clear hK K;exact jn (b:=(s11.2.1++[ix labels_ s11.2.2],(s11.2.1.length:Int))) (Option.some.inj h) (wkQ9 [(0,0),(3,1)])
    have g16:¬ (v14<0):=gQ;clear g;replace h:=if_r g16 h;refine Q7 ?_;exact jn (b:=(s11.2.1,v14)) (Option.some.inj h) (wkQ9 [(0,0),(1,1)])
   intro b15 hb15;have h:=h15;(try rw [← hb15] at h);clear h15;(try dsimp only at h);refine runQ hN fun K hK=>?_;replace ⟨a19,h⟩:=Q2 h;(try simp only [List.length_append,List.length_cons,List.length_nil] at a19);simp [a19];(repeat refine sdQ ?_);refine hK _ ?_;clear hK K;refine bn (tn (Q3 (st':=⟨[(0,lI labels_),(3,.own 0 0 ((s11.1++[b15.2]).length)),(4,.own 1 0 b15.1.length),(5,iV s11.2.2)],[(0,rI (s11.1++[b15.2])),(1,rI b15.1)],2⟩) (wkQ9 [(3,0),(1,1)]) (runQ hN fun K hK=>?_)));replace ⟨a20,h⟩:=Q2 h;simp [Qp a20];(repeat refine sdQ ?_);refine hK _ ?_;clear hK K;cases h;exact rn (s':=(s11.1++[b15.2],b15.1,s11.2.2+1)) hk11 (wkQ9 [(0,0),(1,1)])
  have g12:¬ (s11.2.2<(labels_.length:Int)):=gQ;clear g;replace h:=if_r g12 h;refine Qj (tx (lx (bh ?_)));cases h;exact jn (b:=s11.1) hk11 (wkQ9 [(0,0)])
 intro b1 hb1;have h:=h1;try rw [← hb1] at h
 clear h1;try dsimp only at h
 refine Q0 (runQ hN fun K hK=>?_);simp;repeat refine sdQ ?_
 refine hK _ (tn (Q3 (st':=⟨[(2,.own 0 0 b1.length)],[(0,rI b1)],1⟩) (wkQ9 [(0,0)]) (Qe ?_)));clear hK K;have hr:=Option.some.inj h;rw [← hr];refine ⟨_,(.tmp .nil),?_⟩;refine ⟨(.one rfl rfl .nil),[lI b1],[0],by simp [UA,U1,IA,I1,LA,L1,BA,B1,EA,E1,E2,eB,eI,eL],by simp,(UpL.refl _)⟩
end Go.Vc.T
