/- A part of the proof: a verified generator of conditions, and what each function of the program does. -/
import Derived.Test.YtefancoclgkmhaaS8
set_option maxRecDepth 100000
set_option maxHeartbeats 4000000
set_option linter.unusedSimpArgs false
set_option linter.unusedVariables false

namespace Go.Vc.T
open Go Go.Vc Go.Proofs
attribute [local simp] unk unA unE unT unC flat eL eI Qm QK Q2n Q1r Cat.cells Cone.cells Fn.cells
noncomputable def QB (k:Nat) (q0_:Int) (q1_:Fn) (q2_:List Cone) (q3_:Int) (q4_:List Int) (q5_:Cat) (q6_:List Int) (q7_:List Int) (q8_:Int) (q9_:Fn):Option (List Cone × List Int × Bool):=match k with
 | 0=>none
 | k+1 =>
  if q0_=q1_.s.n then
   (
    (Q1l q4_).bind fun v4 =>
    ass ((q2_++[(⟨q3_,v4⟩:Cone)]).length≤1073741824) <|
    some (q2_++[(⟨q3_,v4⟩:Cone)],decide (((q2_++[(⟨q3_,v4⟩:Cone)]).length:Int)≤400)):Option (List Cone × Bool)).bind fun v6 =>
   some (v6.1,q4_,v6.2)
  else
   ass (0≤q0_∧q0_<(q9_.ob.length:Int)) <|
   (QA q5_ q8_ (ix q9_.ob q0_)).bind fun v8 =>
   (Qx (σ:=List Cone × List Int × Int) (ε:=(List Cone × List Int) ⊕ (List Cone × List Int × Bool)) (fun s42 =>
    if s42.2.2<(v8.length:Int) then
     (
      ass (0≤s42.2.2∧s42.2.2<(v8.length:Int)) <|
      ass (0≤q0_∧q0_<(s42.2.1.length:Int)) <|
      (Qx (σ:=Int) (ε:=Unit ⊕ (List Cone × List Int)) (fun s59 =>
       if s59<(q9_.ar.length:Int) then
        ass (0≤s59∧s59<(q9_.ar.length:Int)) <|
        ass (0≤s59∧s59<(q1_.s.fr.length:Int)) <|
        ass (0≤s59∧s59<(q1_.s.to.length:Int)) <|
        (
         if (if ix q1_.s.to s59 > ix q1_.s.fr s59 then ix q1_.s.to s59 else ix q1_.s.fr s59)=q0_ then
          ass (0≤ix q1_.s.fr s59∧ix q1_.s.fr s59<((s42.2.1.set q0_.toNat (ix v8 s42.2.2)).length:Int)) <|
          (Qp q5_ (ix (s42.2.1.set q0_.toNat (ix v8 s42.2.2)) (ix q1_.s.fr s59)) (ix q9_.ar s59)).bind fun v67 =>
          ass (0≤ix q1_.s.to s59∧ix q1_.s.to s59<((s42.2.1.set q0_.toNat (ix v8 s42.2.2)).length:Int)) <|
          some (v67 != (ix (s42.2.1.set q0_.toNat (ix v8 s42.2.2)) (ix q1_.s.to s59)))
         else
          some false:Option (Bool)).bind fun b64 =>
        if b64=true then
         some (Ctl.ret (Sum.inr (s42.1,s42.2.1.set q0_.toNat (ix v8 s42.2.2))))
        else
         ass (B64 (s59+1)) <|
         some (Ctl.next (s59+1))
       else
        some (Ctl.ret (Sum.inl ()))) fuel 0).bind fun e47 =>
      match e47 with
      | .inl b47 =>
       ass (B64 (q0_+1)) <|
       (QB k (q0_+1) q1_ s42.1 q3_ (s42.2.1.set q0_.toNat (ix v8 s42.2.2)) q5_ q6_ q7_ q8_ q9_).bind fun v72 =>
       if ¬ (v72.2.2=true) then
        some (Sum.inr (v72.1,v72.2.1,false))
       else
        some (Sum.inl (v72.1,v72.2.1))
      | .inr p47 =>
       some (Sum.inl p47):Option ((List Cone × List Int) ⊕ (List Cone × List Int × Bool))).bind fun e44 =>
     match e44 with
     | .inl b44 =>
      ass (B64 (s42.2.2+1)) <|
      some (Ctl.next (b44.1,b44.2,s42.2.2+1))
     | .inr p44 =>
      some (Ctl.ret (Sum.inr p44))
    else
     some (Ctl.ret (Sum.inl (s42.1,s42.2.1)))) fuel (q2_,q4_,0)).bind fun e9 =>
   match e9 with
   | .inl b9 =>
    some (b9.1,b9.2,true)
   | .inr p9 =>
    some p9
@[simp] abbrev Y0J (a:List (AV)):List (AV):=.fn 87 [.adr 0 0 0,.adr 1 0 0,.adr 5 0 0,.adr 7 0 0,.adr 8 0 0,.adr 9 0 0,.adr 10 0 0]::a
@[simp] abbrev Y0K (a:Fn) (b:List (AV)):List (AV):=.rptr (Fn.cells true a)::b
@[simp] abbrev Y2 (a:Cat) (b c:List Int) (d:Int) (e:Fn) (f:List (Nat × Ent)):List (Nat × Ent):=(7,.mix 1 [[.rptr [iV a.n,lI a.fr,lI a.to,lI a.id,.lst true 1 (Ls a.cs),lI b,lI c]]])::(8,.mix 1 [[iV d]])::(9,.mix 1 [(Y0K e [])])::(10,.mix 1 [(Y0J [])])::f
@[simp] abbrev Y9 (a:Fn) (b:List (Nat × Ent)):List (Nat × Ent):=(0,.mix 1 [(Y0K a [])])::(1,.mix 1 [[.fn 80 [.adr 2 0 0,.adr 4 0 0]]])::b
@[simp] abbrev Yn (a:Int) (b:List Int) (c:List Cone × List Int × Int) (d:List (Nat × AV)):List (Nat × AV):=(0,iV a)::(1,.adr 0 0 0)::(3,.adr 5 0 0)::(4,.adr 7 0 0)::(6,.adr 9 0 0)::(7,.adr 10 0 0)::(34,.own 12 0 b.length)::(35,iV (b.length:Int))::(36,iV c.2.2)::d
@[simp] abbrev Yp (a:List Cone × List Int × Int) (b c:Int) (d:List Int) (e:List (Nat × Ent)):List (Nat × Ent):=(2,.mix 1 [[.own 11 0 a.1.length]])::(4,.mix 1 [[iV b]])::(5,.mix 1 [[.own 6 0 ((a.2.1.set c.toNat (ix d a.2.2)).length)]])::(6,rI (a.2.1.set c.toNat (ix d a.2.2)))::e
@[simp] abbrev YE (a:Int) (b:List Int) (c:List (Nat × Ent)):List (Nat × Ent):=(4,.mix 1 [[iV a]])::(5,.mix 1 [[.own 6 0 b.length]])::(6,rI b)::c
@[simp] abbrev YM (a:List Cone × List Int) (b:Int) (c:List (Nat × Ent)):List (Nat × Ent):=(2,.mix 1 [[.own 11 0 a.1.length]])::(4,.mix 1 [[iV b]])::(5,.mix 1 [[.own 6 0 a.2.length]])::(6,rI a.2)::c
@[simp] abbrev YW (a:List Cone × List Int × Int) (b:List Int) (c:List (Nat × Ent)):List (Nat × Ent):=(11,.row 2 (Es (Cone.cells true) a.1))::(12,rI b)::c
@[simp] abbrev YY (a:Int) (b:List (Nat × AV)):List (Nat × AV):=(0,iV a)::(1,.adr 0 0 0)::(3,.adr 5 0 0)::(4,.adr 7 0 0)::(6,.adr 9 0 0)::(7,.adr 10 0 0)::b
@[simp] abbrev Y0s (a:Fn) (b:List (Nat × AV)):List (Nat × AV):=(47,lI a.ar)::(48,iV (a.ar.length:Int))::b
@[simp] abbrev Y0w (a:List Cone) (b:List (Nat × Ent)):List (Nat × Ent):=(2,.mix 1 [[.own 3 0 a.length]])::(3,.row 2 (Es (Cone.cells true) a))::b
theorem Q4Y:∀ (k:Nat) (q0_:Int) (q1_:Fn) (q2_:List Cone) (q3_:Int) (q4_:List Int) (q5_:Cat) (q6_:List Int) (q7_:List Int) (q8_:Int) (q9_:Fn) (vR:List Cone × List Int × Bool) (h:QB k q0_ q1_ q2_ q3_ q4_ q5_ q6_ q7_ q8_ q9_=some vR),ICon Try.prog 87 [iV q0_,.adr 0 0 0,.adr 1 0 0,.adr 5 0 0,.adr 7 0 0,.adr 8 0 0,.adr 9 0 0,.adr 10 0 0] (fun id=>look id [(0,.mix 1 [(Y0K q1_ [])]),(1,.mix 1 [[.fn 80 [.adr 2 0 0,.adr 4 0 0]]]),(2,.mix 1 [[.own 3 0 q2_.length]]),(3,.row 2 (Es (Cone.cells true) q2_)),(4,.mix 1 [[iV q3_]]),(5,.mix 1 [[.own 6 0 q4_.length]]),(6,rI q4_),(7,.mix 1 [[.rptr [iV q5_.n,lI q5_.fr,lI q5_.to,lI q5_.id,.lst true 1 (Ls q5_.cs),lI q6_,lI q7_]]]),(8,.mix 1 [[iV q8_]]),(9,.mix 1 [(Y0K q9_ [])]),(10,.mix 1 [(Y0J [])])]) 11 { v:=.val (.bool vR.2.2),set:=[(2,.mix 1 [[.own 11 0 vR.1.length]]),(5,.mix 1 [[.own 6 0 vR.2.1.length]]),(6,rI vR.2.1)],del:=[3],new:=[(11,.row 2 (Es (Cone.cells true) vR.1))],cnt:=1 }:=by
 intro k
 induction k with
 | zero =>
  intro q0_ q1_ q2_ q3_ q4_ q5_ q6_ q7_ q8_ q9_ vR h;simp [QB] at h
 | succ k ih =>
  intro q0_ q1_ q2_ q3_ q4_ q5_ q6_ q7_ q8_ q9_ vR h;refine Q1u (ts:=[9]) (H:=[(0,.mix 1 [(Y0K q1_ [])]),(1,.mix 1 [[.fn 80 [.adr 2 0 0,.adr 4 0 0]]]),(2,.mix 1 [[.own 3 0 q2_.length]]),(3,.row 2 (Es (Cone.cells true) q2_)),(4,.mix 1 [[iV q3_]]),(5,.mix 1 [[.own 6 0 q4_.length]]),(6,rI q4_),(7,.mix 1 [[.rptr [iV q5_.n,lI q5_.fr,lI q5_.to,lI q5_.id,.lst true 1 (Ls q5_.cs),lI q6_,lI q7_]]]),(8,.mix 1 [[iV q8_]]),(9,.mix 1 [(Y0K q9_ [])]),(10,.mix 1 [(Y0J [])])]) Try.func87 rfl rfl rfl (by simp [Try.f87]) (by simp) (Q4u (by simp)) (newI (by rfl)) fun F hN hP=>?_;unfold QB at h;try dsimp only at h
  refine Q0 (Qg [] mo (by rw [hN];decide) fun K hK=>?_);simp;repeat refine sdQ ?_
  refine hK _ ?_;clear hK K;refine tn (Q4 (st':=⟨[(0,iV q0_),(1,.adr 0 0 0),(2,.adr 1 0 0),(3,.adr 5 0 0),(4,.adr 7 0 0),(5,.adr 8 0 0),(6,.adr 9 0 0),(7,.adr 10 0 0)],Y9 q1_ (Y0w q2_ (YE q3_ q4_ (Y2 q5_ q6_ q7_ q8_ q9_ []))),11⟩) (Wk.rP _ [(0,0),(1,1),(2,2),(3,3),(4,4),(5,5),(6,6),(7,7),(8,8),(9,9),(10,10)] hP (by rfl) (by simp [hhOk,back,Cat.cells,Cone.cells,Fn.cells,UA,U1,IA,I1,LA,L1,BA,B1,EA,E1,E2,eB,eI,eL,Q9 _ (Cone.cells true) _ (fun _=>rfl)])) (w_scope (Q0 (Q0 (Qg [] mo (by rw [hN];decide) fun K hK=>?_)))));simp;repeat refine sdQ ?_
  refine hK _ ?_;clear hK K;refine tn (Q6 rfl (fun g=>?_) fun g=>?_)
  ·have g2:q0_=q1_.s.n:=gQ;clear g;replace h:=if_l g2 h;refine Q0 (Q25 [] mo (by rw [hN];decide) fun K hK=>?_);simp;(repeat with_reducible refine sdQ ?_);replace ⟨v6,hv6,h⟩:=bind_some h;refine Q1Y (fz:=[]) (Q1u (ts:=[4]) (e:={ v:=.val (.bool v6.2),set:=[(2,.mix 1 [[.own 11 0 v6.1.length]])],del:=[3],new:=[(11,.row 2 (Es (Cone.cells true) v6.1))],cnt:=1 }) Try.func80 rfl rfl rfl (by simp [Try.f80]) (by simp) (Q4u (by simp)) (newI (by rfl)) fun F hN hP=>?_) ?_
   ·clear h;have h:=hv6;clear hv6;refine Q0 (Qg [] mo (by rw [hN];decide) fun K hK=>?_);simp;(repeat refine sdQ ?_);refine hK _ ?_;clear hK K;refine tn (Q4 (st':=⟨[(0,.own 6 0 q4_.length),(1,.adr 2 0 0),(2,.adr 4 0 0)],Y9 q1_ (Y0w q2_ (YE q3_ q4_ (Y2 q5_ q6_ q7_ q8_ q9_ []))),11⟩) (Wk.rP _ [(0,0),(1,1),(2,2),(3,3),(4,4),(5,5),(6,6),(7,7),(8,8),(9,9),(10,10)] hP (by rfl) (by simp [hhOk,back,Cat.cells,Cone.cells,Fn.cells,UA,U1,IA,I1,LA,L1,BA,B1,EA,E1,E2,eB,eI,eL,Q9 _ (Cone.cells true) _ (fun _=>rfl)])) (Q0 (Qg [] mo (by rw [hN];decide) fun K hK=>?_)));simp;(repeat with_reducible refine sdQ ?_);replace ⟨v4,hv4,h⟩:=bind_some h;refine Qy (fz:=[]) (Q39 _ v4 hv4) (.cons .w .nil) ?_;replace ⟨a5,h⟩:=Q2 h;(try simp only [List.length_append,List.length_cons,List.length_nil] at a5);simp [a5];(repeat refine sdQ ?_);refine hK _ ?_;clear hK K;refine tn (Q4 (st':=⟨[(1,.adr 2 0 0)],Y9 q1_ ((2,.mix 1 [[.own 11 0 ((q2_++[(⟨q3_,v4⟩:Cone)]).length)]])::YE q3_ q4_ (Y2 q5_ q6_ q7_ q8_ q9_ [(11,.row 2 (Es (Cone.cells true) (q2_++[(⟨q3_,v4⟩:Cone)])))])),12⟩) (Wk.rP _ [(0,0),(1,1),(2,2),(13,11),(4,4),(5,5),(6,6),(7,7),(8,8),(9,9),(10,10),(3,3)] hP (by rfl) (by simp [hhOk,back,Cat.cells,Cone.cells,Fn.cells,UA,U1,IA,I1,LA,L1,BA,B1,EA,E1,E2,eB,eI,eL,Q9 _ (Cone.cells true) _ (fun _=>rfl)])) (Q0 (Qg [] mo (by rw [hN];decide) fun K hK=>?_)));simp;(repeat refine sdQ ?_);refine hK _ (tn ?_);clear hK K
    refine Q4 (st':=⟨[(4,.val (.bool (decide (((q2_++[(⟨q3_,v4⟩:Cone)]).length:Int)≤400))))],Y9 q1_ ((2,.mix 1 [[.own 11 0 ((q2_++[(⟨q3_,v4⟩:Cone)]).length)]])::YE q3_ q4_ (Y2 q5_ q6_ q7_ q8_ q9_ [(11,.row 2 (Es (Cone.cells true) (q2_++[(⟨q3_,v4⟩:Cone)])))])),12⟩) (Wk.rP _ [(0,0),(1,1),(2,2),(11,11),(4,4),(5,5),(6,6),(7,7),(8,8),(9,9),(10,10),(3,3)] hP (by rfl) (by simp [hhOk,back,Cat.cells,Cone.cells,Fn.cells,UA,U1,IA,I1,LA,L1,BA,B1,EA,E1,E2,eB,eI,eL,Q9 _ (Cone.cells true) _ (fun _=>rfl)])) (Qe ?_);cases h;first|refine iw_r (st':=⟨[(4,.val (.bool (decide (((q2_++[(⟨q3_,v4⟩:Cone)]).length:Int)≤400))))],Y9 q1_ ((2,.mix 1 [[.own 11 0 ((q2_++[(⟨q3_,v4⟩:Cone)]).length)]])::YE q3_ q4_ (Y2 q5_ q6_ q7_ q8_ q9_ [(11,.row 2 (Es (Cone.cells true) (q2_++[(⟨q3_,v4⟩:Cone)])))])),12⟩) ?_ ?_|refine iw_n (st':=⟨[(4,.val (.bool (decide (((q2_++[(⟨q3_,v4⟩:Cone)]).length:Int)≤400))))],Y9 q1_ ((2,.mix 1 [[.own 11 0 ((q2_++[(⟨q3_,v4⟩:Cone)]).length)]])::YE q3_ q4_ (Y2 q5_ q6_ q7_ q8_ q9_ [(11,.row 2 (Es (Cone.cells true) (q2_++[(⟨q3_,v4⟩:Cone)])))])),12⟩) ?_ ?_
    ·exact Wk.rP _ [(0,0),(1,1),(2,2),(11,11),(4,4),(5,5),(6,6),(7,7),(8,8),(9,9),(10,10),(3,3)] hP (by rfl) (by simp [hhOk,back,Cat.cells,Cone.cells,Fn.cells,UA,U1,IA,I1,LA,L1,BA,B1,EA,E1,E2,eB,eI,eL,Q9 _ (Cone.cells true) _ (fun _=>rfl)])
    exact ⟨by simp [Qt],by simp,by simp [Cat.cells,Cone.cells,Fn.cells]⟩
   simp;(repeat refine sdQ ?_);refine hK _ (tn (Q4 (st':=⟨[(9,.val (.bool v6.2))],Y9 q1_ ((2,.mix 1 [[.own 11 0 v6.1.length]])::YE q3_ q4_ (Y2 q5_ q6_ q7_ q8_ q9_ [(11,.row 2 (Es (Cone.cells true) v6.1))])),12⟩) (Wk.rP _ [(0,0),(1,1),(2,2),(11,11),(4,4),(5,5),(6,6),(7,7),(8,8),(9,9),(10,10),(3,3)] hP (by rfl) (by simp [hhOk,back,Cat.cells,Cone.cells,Fn.cells,UA,U1,IA,I1,LA,L1,BA,B1,EA,E1,E2,eB,eI,eL,Q9 _ (Cone.cells true) _ (fun _=>rfl)])) (Qe (tr (pcr ?_)))));clear hK K;cases h;first|refine iw_r (st':=⟨[(9,.val (.bool v6.2))],Y9 q1_ ((2,.mix 1 [[.own 11 0 v6.1.length]])::YE q3_ q4_ (Y2 q5_ q6_ q7_ q8_ q9_ [(11,.row 2 (Es (Cone.cells true) v6.1))])),12⟩) ?_ ?_|refine iw_n (st':=⟨[(9,.val (.bool v6.2))],Y9 q1_ ((2,.mix 1 [[.own 11 0 v6.1.length]])::YE q3_ q4_ (Y2 q5_ q6_ q7_ q8_ q9_ [(11,.row 2 (Es (Cone.cells true) v6.1))])),12⟩) ?_ ?_
   ·exact Wk.rP _ [(0,0),(1,1),(2,2),(11,11),(4,4),(5,5),(6,6),(7,7),(8,8),(9,9),(10,10),(3,3)] hP (by rfl) (by simp [hhOk,back,Cat.cells,Cone.cells,Fn.cells,UA,U1,IA,I1,LA,L1,BA,B1,EA,E1,E2,eB,eI,eL,Q9 _ (Cone.cells true) _ (fun _=>rfl)])
   exact ⟨by simp [Qt],by simp,by simp [Cat.cells,Cone.cells,Fn.cells]⟩
  have g2:¬ (q0_=q1_.s.n):=gQ;clear g;replace h:=if_r g2 h;refine Q7 (tn (Q0 (w_label (tn (Q0 (Q0 (Qg [] mo (by rw [hN];decide) fun K hK=>?_)))))));replace ⟨a7,h⟩:=Q2 h;simp [at_I a7];repeat with_reducible refine sdQ ?_
  replace ⟨v8,hv8,h⟩:=bind_some h;refine Qy (fz:=[]) (Q3r _ _ _ v8 hv8) (.cons (.preT (by simp [Cat.cells,Cone.cells,Fn.cells])) (.cons .val (.cons .val .nil))) ?_;simp [at_I a7];repeat refine sdQ ?_
  refine hK _ (tn (Q4 (st':=⟨YY q0_ [(34,.own 11 0 v8.length),(35,iV (v8.length:Int)),(36,iV 0)],Y9 q1_ (Y0w q2_ (YE q3_ q4_ (Y2 q5_ q6_ q7_ q8_ q9_ [(11,rI v8)]))),12⟩) (Wk.rP _ [(0,0),(1,1),(2,2),(3,3),(4,4),(5,5),(6,6),(7,7),(8,8),(9,9),(10,10),(11,11)] hP (by rfl) (by simp [hhOk,back,Cat.cells,Cone.cells,Fn.cells,UA,U1,IA,I1,LA,L1,BA,B1,EA,E1,E2,eB,eI,eL,Q9 _ (Cone.cells true) _ (fun _=>rfl)])) ?_));clear hK K;replace ⟨e9,h,h9⟩:=bind_some h;refine Qd (fun b9:List Cone × List Int=>⟨[],Y9 q1_ (YM b9 q3_ (Y2 q5_ q6_ q7_ q8_ q9_ [(11,.row 2 (Es (Cone.cells true) b9.1))])),12⟩) (fun b9=>Sum.inl b9=e9) ?_ ?_
  ·refine Q5 (Qs h (fun s42:List Cone × List Int × Int=>⟨Yn q0_ v8 s42 [],Y9 q1_ ((2,.mix 1 [[.own 11 0 s42.1.length]])::(4,.mix 1 [[iV q3_]])::(5,.mix 1 [[.own 6 0 s42.2.1.length]])::(6,rI s42.2.1)::Y2 q5_ q6_ q7_ q8_ q9_ (YW s42 v8 [])),13⟩) (Wk.rQ _ [(0,0),(1,1),(2,2),(3,11),(4,4),(5,5),(6,6),(7,7),(8,8),(9,9),(10,10),(11,12)] hP (by rfl) (by simp [hhOk,back,Cat.cells,Cone.cells,Fn.cells,UA,U1,IA,I1,LA,L1,BA,B1,EA,E1,E2,eB,eI,eL,Q9 _ (Cone.cells true) _ (fun _=>rfl)])) ?_);clear h;intro k42 s42 c42 h hk42;refine Q0 (Qg [] mo (by rw [hN];decide) fun K hK=>?_);simp;(repeat refine sdQ ?_);refine hK _ ?_;clear hK K;refine tn (Q0 (Q6 rfl (fun g=>?_) fun g=>?_))
   ·have g43:s42.2.2<(v8.length:Int):=gQ;clear g;replace h:=if_l g43 h;refine Q7 (tn (Q0 ?_));replace ⟨e44,h,h44⟩:=bind_some h;refine Qd (fun b44:List Cone × List Int=>⟨Yn q0_ v8 s42 [],Y9 q1_ (YM b44 q3_ (Y2 q5_ q6_ q7_ q8_ q9_ [(11,.row 2 (Es (Cone.cells true) b44.1)),(12,rI v8)])),13⟩) (fun b44=>Sum.inl b44=e44) ?_ ?_
    ·refine Q5 (Q0 (Qg [] mo (by rw [hN];decide) fun K hK=>?_));replace ⟨a45,h⟩:=Q2 h;simp [at_I a45];(repeat refine sdQ ?_);refine hK _ ?_;clear hK K;refine tn (Q4 (st':=⟨YY q0_ [(11,iV (ix v8 s42.2.2)),(34,.own 12 0 v8.length),(35,iV (v8.length:Int)),(36,iV s42.2.2)],Y9 q1_ ((2,.mix 1 [[.own 11 0 s42.1.length]])::(4,.mix 1 [[iV q3_]])::(5,.mix 1 [[.own 6 0 s42.2.1.length]])::(6,rI s42.2.1)::Y2 q5_ q6_ q7_ q8_ q9_ (YW s42 v8 [])),13⟩) (Wk.rP _ [(0,0),(1,1),(2,2),(11,11),(4,4),(5,5),(6,6),(7,7),(8,8),(9,9),(10,10),(12,12),(3,3)] hP (by rfl) (by simp [hhOk,back,Cat.cells,Cone.cells,Fn.cells,UA,U1,IA,I1,LA,L1,BA,B1,EA,E1,E2,eB,eI,eL,Q9 _ (Cone.cells true) _ (fun _=>rfl)])) (Q0 (Qg [] mo (by rw [hN];decide) fun K hK=>?_)));replace ⟨a46,h⟩:=Q2 h;simp [at_I a46];(repeat refine sdQ ?_);refine hK _ ?_;clear hK K;refine tn (Q4 (st':=⟨Yn q0_ v8 s42 [],Y9 q1_ (Yp s42 q3_ q0_ v8 (Y2 q5_ q6_ q7_ q8_ q9_ (YW s42 v8 []))),13⟩) (Wk.rP _ [(0,0),(1,1),(2,2),(11,11),(4,4),(5,5),(6,6),(7,7),(8,8),(9,9),(10,10),(12,12),(3,3)] hP (by rfl) (by simp [hhOk,back,Cat.cells,Cone.cells,Fn.cells,UA,U1,IA,I1,LA,L1,BA,B1,EA,E1,E2,eB,eI,eL,Q9 _ (Cone.cells true) _ (fun _=>rfl)])) (Q0 (Q0 (Qg [] mo (by rw [hN];decide) fun K hK=>?_))));simp;(repeat refine sdQ ?_);refine hK _ (tn ?_);clear hK K
     refine Q4 (st':=⟨Yn q0_ v8 s42 (Y0s q9_ [(49,iV 0)]),Y9 q1_ (Yp s42 q3_ q0_ v8 (Y2 q5_ q6_ q7_ q8_ q9_ (YW s42 v8 []))),13⟩) (Wk.rP _ [(0,0),(1,1),(2,2),(11,11),(4,4),(5,5),(6,6),(7,7),(8,8),(9,9),(10,10),(12,12),(3,3)] hP (by rfl) (by simp [hhOk,back,Cat.cells,Cone.cells,Fn.cells,UA,U1,IA,I1,LA,L1,BA,B1,EA,E1,E2,eB,eI,eL,Q9 _ (Cone.cells true) _ (fun _=>rfl)])) ?_;replace ⟨e47,h,h47⟩:=bind_some h;refine Qd (fun b47:Unit=>⟨Yn q0_ v8 s42 [],Y9 q1_ (Yp s42 q3_ q0_ v8 (Y2 q5_ q6_ q7_ q8_ q9_ (YW s42 v8 []))),13⟩) (fun b47=>Sum.inl b47=e47) ?_ ?_
     ·refine Q5 (Qs h (fun s59:Int=>⟨Yn q0_ v8 s42 (Y0s q9_ [(49,iV s59)]),Y9 q1_ (Yp s42 q3_ q0_ v8 (Y2 q5_ q6_ q7_ q8_ q9_ (YW s42 v8 []))),13⟩) (Wk.rP _ [(0,0),(1,1),(2,2),(11,11),(4,4),(5,5),(6,6),(7,7),(8,8),(9,9),(10,10),(12,12),(3,3)] hP (by rfl) (by simp [hhOk,back,Cat.cells,Cone.cells,Fn.cells,UA,U1,IA,I1,LA,L1,BA,B1,EA,E1,E2,eB,eI,eL,Q9 _ (Cone.cells true) _ (fun _=>rfl)])) ?_);clear h;intro k59 s59 c59 h hk59;refine Q0 (Qg [] mo (by rw [hN];decide) fun K hK=>?_);simp;(repeat refine sdQ ?_);refine hK _ ?_;clear hK K;refine tn (Q0 (Q6 rfl (fun g=>?_) fun g=>?_))
      ·have g60:s59<(q9_.ar.length:Int):=gQ;clear g;replace h:=if_l g60 h;refine Q7 (tn (Q0 (Q5 (Q0 (Qg [] mo (by rw [hN];decide) fun K hK=>?_)))));replace ⟨a61,h⟩:=Q2 h;simp [at_I a61];(repeat refine sdQ ?_);refine hK _ ?_;clear hK K;refine tn (Q4 (st':=⟨YY q0_ ((12,iV s59)::(13,iV (ix q9_.ar s59))::(34,.own 12 0 v8.length)::(35,iV (v8.length:Int))::(36,iV s42.2.2)::Y0s q9_ [(49,iV s59)]),Y9 q1_ (Yp s42 q3_ q0_ v8 (Y2 q5_ q6_ q7_ q8_ q9_ (YW s42 v8 []))),13⟩) (Wk.rP _ [(0,0),(1,1),(2,2),(11,11),(4,4),(5,5),(6,6),(7,7),(8,8),(9,9),(10,10),(12,12),(3,3)] hP (by rfl) (by simp [hhOk,back,Cat.cells,Cone.cells,Fn.cells,UA,U1,IA,I1,LA,L1,BA,B1,EA,E1,E2,eB,eI,eL,Q9 _ (Cone.cells true) _ (fun _=>rfl)])) (Q0 (Qg [] mo (by rw [hN];decide) fun K hK=>?_)));replace ⟨a62,h⟩:=Q2 h;replace ⟨a63,h⟩:=Q2 h;simp [at_I a62,at_I a63];(repeat refine sdQ ?_);refine hK _ (tn (Q4 (st':=⟨YY q0_ ((13,iV (ix q9_.ar s59))::(14,iV (ix q1_.s.fr s59))::(15,iV (ix q1_.s.to s59))::(34,.own 12 0 v8.length)::(35,iV (v8.length:Int))::(36,iV s42.2.2)::Y0s q9_ [(49,iV s59)]),Y9 q1_ (Yp s42 q3_ q0_ v8 (Y2 q5_ q6_ q7_ q8_ q9_ (YW s42 v8 []))),13⟩) (Wk.rP _ [(0,0),(1,1),(2,2),(11,11),(4,4),(5,5),(6,6),(7,7),(8,8),(9,9),(10,10),(12,12),(3,3)] hP (by rfl) (by simp [hhOk,back,Cat.cells,Cone.cells,Fn.cells,UA,U1,IA,I1,LA,L1,BA,B1,EA,E1,E2,eB,eI,eL,Q9 _ (Cone.cells true) _ (fun _=>rfl)])) (Q0 ?_)));clear hK K;replace ⟨e64,h,h64⟩:=bind_some h
       refine Qd (fun b64:Bool=>⟨Yn q0_ v8 s42 (Y0s q9_ [(49,iV s59),(86,.val (.bool b64))]),Y9 q1_ (Yp s42 q3_ q0_ v8 (Y2 q5_ q6_ q7_ q8_ q9_ (YW s42 v8 []))),13⟩) (fun b64=>b64=e64) ?_ ?_
       ·refine Qg [] mo (by rw [hN];decide) fun K hK=>?_;simp;(repeat with_reducible refine sdQ ?_);refine Q2f (fun g=>?_) (fun g=>?_)
        ·have g65:(if ix q1_.s.to s59 > ix q1_.s.fr s59 then ix q1_.s.to s59 else ix q1_.s.fr s59)=q0_:=gQ;clear g;replace h:=if_l g65 h;replace ⟨a66,h⟩:=Q2 h;simp [at_I a66];(repeat with_reducible refine sdQ ?_);replace ⟨v67,hv67,h⟩:=bind_some h;refine Qy (fz:=[]) (Q1B _ _ _ v67 hv67) (.cons (.preT (by simp [Cat.cells,Cone.cells,Fn.cells])) (.cons .val (.cons .val .nil))) ?_;replace ⟨a68,h⟩:=Q2 h;simp [at_I a66,at_I a68];(repeat refine sdQ ?_);refine hK _ ?_;exact jn (b:=v67 != (ix (s42.2.1.set q0_.toNat (ix v8 s42.2.2)) (ix q1_.s.to s59))) (Option.some.inj h) (Wk.rP _ [(0,0),(1,1),(2,2),(11,11),(4,4),(5,5),(6,6),(7,7),(8,8),(9,9),(10,10),(12,12),(3,3)] hP (by rfl) (by simp [hhOk,back,Cat.cells,Cone.cells,Fn.cells,UA,U1,IA,I1,LA,L1,BA,B1,EA,E1,E2,eB,eI,eL,Q9 _ (Cone.cells true) _ (fun _=>rfl)]))
        have g65:¬ ((if ix q1_.s.to s59 > ix q1_.s.fr s59 then ix q1_.s.to s59 else ix q1_.s.fr s59)=q0_):=gQ;clear g;replace h:=if_r g65 h;simp;(repeat refine sdQ ?_);refine hK _ ?_;exact jn (b:=false) (Option.some.inj h) (Wk.rP _ [(0,0),(1,1),(2,2),(11,11),(4,4),(5,5),(6,6),(7,7),(8,8),(9,9),(10,10),(12,12),(3,3)] hP (by rfl) (by simp [hhOk,back,Cat.cells,Cone.cells,Fn.cells,UA,U1,IA,I1,LA,L1,BA,B1,EA,E1,E2,eB,eI,eL,Q9 _ (Cone.cells true) _ (fun _=>rfl)]))
       intro b64 hb64;have h:=h64;(try rw [← hb64] at h);clear h64;(try dsimp only at h);refine Q6 rfl (fun g=>?_) fun g=>?_
       ·have g69:b64=true:=gQ;clear g;replace h:=if_l g69 h;refine Qj (bm (by decide) (tx (lx (bm (by decide) (tx (bh ?_))))));cases h;have q:_=e47:=hk59;have h:=h47;rw [← q] at h;clear q;(try dsimp only at h);exact jn (b:=(s42.1,s42.2.1.set q0_.toNat (ix v8 s42.2.2))) (Option.some.inj h) (Wk.rP _ [(0,0),(1,1),(2,2),(11,11),(4,4),(5,5),(6,6),(7,7),(8,8),(9,9),(10,10),(12,12),(3,3)] hP (by rfl) (by simp [hhOk,back,Cat.cells,Cone.cells,Fn.cells,UA,U1,IA,I1,LA,L1,BA,B1,EA,E1,E2,eB,eI,eL,Q9 _ (Cone.cells true) _ (fun _=>rfl)]))
       have g69:¬ (b64=true):=gQ;clear g;replace h:=if_r g69 h;refine Q7 (bn (tn (Qg [] mo (by rw [hN];decide) fun K hK=>?_)));replace ⟨a70,h⟩:=Q2 h;simp [Qo a70];(repeat refine sdQ ?_);refine hK _ ?_;clear hK K;cases h;exact rn (s':=s59+1) hk59 (Wk.rP _ [(0,0),(1,1),(2,2),(11,11),(4,4),(5,5),(6,6),(7,7),(8,8),(9,9),(10,10),(12,12),(3,3)] hP (by rfl) (by simp [hhOk,back,Cat.cells,Cone.cells,Fn.cells,UA,U1,IA,I1,LA,L1,BA,B1,EA,E1,E2,eB,eI,eL,Q9 _ (Cone.cells true) _ (fun _=>rfl)]))
      have g60:¬ (s59<(q9_.ar.length:Int)):=gQ;clear g;replace h:=if_r g60 h;refine Qj (tx (lx (bh ?_)));cases h;exact jn (b:=()) hk59 (Wk.rP _ [(0,0),(1,1),(2,2),(11,11),(4,4),(5,5),(6,6),(7,7),(8,8),(9,9),(10,10),(12,12),(3,3)] hP (by rfl) (by simp [hhOk,back,Cat.cells,Cone.cells,Fn.cells,UA,U1,IA,I1,LA,L1,BA,B1,EA,E1,E2,eB,eI,eL,Q9 _ (Cone.cells true) _ (fun _=>rfl)]))
     intro b47 hb47;have h:=h47;(try rw [← hb47] at h);clear h47;(try dsimp only at h);refine Q0 (Q25 [] mo (by rw [hN];decide) fun K hK=>?_);replace ⟨a71,h⟩:=Q2 h;simp [Qo a71];(repeat with_reducible refine sdQ ?_);replace ⟨v72,hv72,h⟩:=bind_some h;refine Q1Y (fz:=[]) (ICon.frameL (e:={ v:=.val (.bool v72.2.2),set:=[(2,.mix 1 [[.own 13 0 v72.1.length]]),(5,.mix 1 [[.own 6 0 v72.2.1.length]]),(6,rI v72.2.1)],del:=[11],new:=[(13,.row 2 (Es (Cone.cells true) v72.1))],cnt:=1 }) (ih _ _ _ _ _ _ _ _ _ _ v72 hv72) [(0,0),(1,1),(2,2),(3,11),(4,4),(5,5),(6,6),(7,7),(8,8),(9,9),(10,10)] (by rfl) (by simp) (by simp [rl,rlL,rlLL,rlE,rlE',back,mxt,look,trm,List.range,List.range.loop,Qt,Cat.cells,Cone.cells,Fn.cells]) (by simp [rl,rlL,rlLL,rlE,rlE',back,mxt,look,trm,List.range,List.range.loop,Qt,Cat.cells,Cone.cells,Fn.cells]) (by simp [Q3C]) (by rfl) (by simp [rl,rlL,rlLL,rlE,rlE',back,mxt,look,trm,List.range,List.range.loop,Qt,Cat.cells,Cone.cells,Fn.cells]) (by simp [rl,rlL,rlLL,rlE,rlE',back,mxt,look,trm,List.range,List.range.loop,Qt,Cat.cells,Cone.cells,Fn.cells]) (by simp [rl,rlL,rlLL,rlE,rlE',back,mxt,look,trm,List.range,List.range.loop,Qt,Cat.cells,Cone.cells,Fn.cells]) (by simp [rl,rlL,rlLL,rlE,rlE',back,mxt,look,trm,List.range,List.range.loop,Qt,Cat.cells,Cone.cells,Fn.cells]) (by simp [Q3C]) (by rfl) (Q4u (by simp))) ?_;simp;(repeat refine sdQ ?_);refine hK _ ?_;clear hK K;refine tn (Q4 (st':=⟨Yn q0_ v8 s42 [(92,.val (.bool (!v72.2.2)))],Y9 q1_ ((2,.mix 1 [[.own 11 0 v72.1.length]])::(4,.mix 1 [[iV q3_]])::(5,.mix 1 [[.own 6 0 v72.2.1.length]])::(6,rI v72.2.1)::Y2 q5_ q6_ q7_ q8_ q9_ [(11,.row 2 (Es (Cone.cells true) v72.1)),(12,rI v8)]),13⟩) (Wk.rP _ [(0,0),(1,1),(2,2),(13,11),(4,4),(5,5),(6,6),(7,7),(8,8),(9,9),(10,10),(12,12),(3,3)] hP (by rfl) (by simp [hhOk,back,Cat.cells,Cone.cells,Fn.cells,UA,U1,IA,I1,LA,L1,BA,B1,EA,E1,E2,eB,eI,eL,Q9 _ (Cone.cells true) _ (fun _=>rfl)])) (Q6 rfl (fun g=>?_) fun g=>?_))
     ·have g73:¬ (v72.2.2=true):=gQ;clear g;replace h:=if_l g73 h;refine Q0 (Qg [] mo (by rw [hN];decide) fun K hK=>?_);simp;(repeat refine sdQ ?_);refine hK _ (tn (Q4 (st':=⟨[(9,.val (.bool false))],Y9 q1_ ((2,.mix 1 [[.own 11 0 v72.1.length]])::(4,.mix 1 [[iV q3_]])::(5,.mix 1 [[.own 6 0 v72.2.1.length]])::(6,rI v72.2.1)::Y2 q5_ q6_ q7_ q8_ q9_ [(11,.row 2 (Es (Cone.cells true) v72.1))]),12⟩) (Wk.rP _ [(0,0),(1,1),(2,2),(11,11),(4,4),(5,5),(6,6),(7,7),(8,8),(9,9),(10,10),(3,3)] hP (by rfl) (by simp [hhOk,back,Cat.cells,Cone.cells,Fn.cells,UA,U1,IA,I1,LA,L1,BA,B1,EA,E1,E2,eB,eI,eL,Q9 _ (Cone.cells true) _ (fun _=>rfl)])) (Qe (br (tr (lr (br (tr (pcr ?_)))))))));clear hK K;cases h;have h:=h44;(try dsimp only at h);cases h;have q:_=e9:=hk42;have h:=h9;rw [← q] at h;clear q;(try dsimp only at h);cases h;first|refine iw_r (st':=⟨[(9,.val (.bool false))],Y9 q1_ ((2,.mix 1 [[.own 11 0 v72.1.length]])::(4,.mix 1 [[iV q3_]])::(5,.mix 1 [[.own 6 0 v72.2.1.length]])::(6,rI v72.2.1)::Y2 q5_ q6_ q7_ q8_ q9_ [(11,.row 2 (Es (Cone.cells true) v72.1))]),12⟩) ?_ ?_|refine iw_n (st':=⟨[(9,.val (.bool false))],Y9 q1_ ((2,.mix 1 [[.own 11 0 v72.1.length]])::(4,.mix 1 [[iV q3_]])::(5,.mix 1 [[.own 6 0 v72.2.1.length]])::(6,rI v72.2.1)::Y2 q5_ q6_ q7_ q8_ q9_ [(11,.row 2 (Es (Cone.cells true) v72.1))]),12⟩) ?_ ?_
      ·exact Wk.rP _ [(0,0),(1,1),(2,2),(11,11),(4,4),(5,5),(6,6),(7,7),(8,8),(9,9),(10,10),(3,3)] hP (by rfl) (by simp [hhOk,back,Cat.cells,Cone.cells,Fn.cells,UA,U1,IA,I1,LA,L1,BA,B1,EA,E1,E2,eB,eI,eL,Q9 _ (Cone.cells true) _ (fun _=>rfl)])
      exact ⟨by simp [Qt],by simp,by simp [Cat.cells,Cone.cells,Fn.cells]⟩
     have g73:¬ (¬ (v72.2.2=true)):=gQ;clear g;replace h:=if_r g73 h;refine Q7 (bn ?_);exact jn (b:=(v72.1,v72.2.1)) (Option.some.inj h) (Wk.rP _ [(0,0),(1,1),(2,2),(11,11),(4,4),(5,5),(6,6),(7,7),(8,8),(9,9),(10,10),(12,12),(3,3)] hP (by rfl) (by simp [hhOk,back,Cat.cells,Cone.cells,Fn.cells,UA,U1,IA,I1,LA,L1,BA,B1,EA,E1,E2,eB,eI,eL,Q9 _ (Cone.cells true) _ (fun _=>rfl)]))
    intro b44 hb44;have h:=h44;(try rw [← hb44] at h);clear h44;(try dsimp only at h);refine Qg [] mo (by rw [hN];decide) fun K hK=>?_;replace ⟨a74,h⟩:=Q2 h;simp [Qo a74];(repeat refine sdQ ?_);refine hK _ ?_;clear hK K;cases h;exact rn (s':=(b44.1,b44.2,s42.2.2+1)) hk42 (Wk.rP _ [(0,0),(1,1),(2,2),(11,11),(4,4),(5,5),(6,6),(7,7),(8,8),(9,9),(10,10),(12,12),(3,3)] hP (by rfl) (by simp [hhOk,back,Cat.cells,Cone.cells,Fn.cells,UA,U1,IA,I1,LA,L1,BA,B1,EA,E1,E2,eB,eI,eL,Q9 _ (Cone.cells true) _ (fun _=>rfl)]))
   have g43:¬ (s42.2.2<(v8.length:Int)):=gQ;clear g;replace h:=if_r g43 h;refine Qj (tx (lx (bh ?_)));cases h;exact jn (b:=(s42.1,s42.2.1)) hk42 (Wk.rP _ [(0,0),(1,1),(2,2),(11,11),(4,4),(5,5),(6,6),(7,7),(8,8),(9,9),(10,10),(3,3)] hP (by rfl) (by simp [hhOk,back,Cat.cells,Cone.cells,Fn.cells,UA,U1,IA,I1,LA,L1,BA,B1,EA,E1,E2,eB,eI,eL,Q9 _ (Cone.cells true) _ (fun _=>rfl)]))
  intro b9 hb9;have h:=h9;try rw [← hb9] at h
  clear h9;try dsimp only at h
  refine Q0 (Qg [] mo (by rw [hN];decide) fun K hK=>?_);simp;repeat refine sdQ ?_
  refine hK _ (tn (Q4 (st':=⟨[(9,.val (.bool true))],Y9 q1_ (YM b9 q3_ (Y2 q5_ q6_ q7_ q8_ q9_ [(11,.row 2 (Es (Cone.cells true) b9.1))])),12⟩) (Wk.rP _ [(0,0),(1,1),(2,2),(11,11),(4,4),(5,5),(6,6),(7,7),(8,8),(9,9),(10,10),(3,3)] hP (by rfl) (by simp [hhOk,back,Cat.cells,Cone.cells,Fn.cells,UA,U1,IA,I1,LA,L1,BA,B1,EA,E1,E2,eB,eI,eL,Q9 _ (Cone.cells true) _ (fun _=>rfl)])) (Qe (pcr ?_))));clear hK K;cases h;first|refine iw_r (st':=⟨[(9,.val (.bool true))],Y9 q1_ (YM b9 q3_ (Y2 q5_ q6_ q7_ q8_ q9_ [(11,.row 2 (Es (Cone.cells true) b9.1))])),12⟩) ?_ ?_|refine iw_n (st':=⟨[(9,.val (.bool true))],Y9 q1_ (YM b9 q3_ (Y2 q5_ q6_ q7_ q8_ q9_ [(11,.row 2 (Es (Cone.cells true) b9.1))])),12⟩) ?_ ?_
  ·exact Wk.rP _ [(0,0),(1,1),(2,2),(11,11),(4,4),(5,5),(6,6),(7,7),(8,8),(9,9),(10,10),(3,3)] hP (by rfl) (by simp [hhOk,back,Cat.cells,Cone.cells,Fn.cells,UA,U1,IA,I1,LA,L1,BA,B1,EA,E1,E2,eB,eI,eL,Q9 _ (Cone.cells true) _ (fun _=>rfl)])
  exact ⟨by simp [Qt],by simp,by simp [Cat.cells,Cone.cells,Fn.cells]⟩
attribute [local simp] unk unA unE unT unC flat eL eI Qm QK Q1r Cat.cells Fn.cells
noncomputable def Q1v (d_:Fn):Option (List Cone × Bool) :=
 (Qx (σ:=List Cone × Int) (ε:=(List Cone) ⊕ (List Cone × Bool)) (fun s9 =>
  if s9.2<d_.t.n then
   (
    ass (0≤(d_.ob.length:Int)∧(d_.ob.length:Int)≤1073741824) <|
    (QB 100 0 d_ s9.1 s9.2 (List.replicate ((d_.ob.length:Int).toNat) 0) d_.t d_.ob d_.ar s9.2 d_).bind fun v13 =>
    some (v13.1,v13.2.2):Option (List Cone × Bool)).bind fun v14 =>
   if ¬ (v14.2=true) then
    some (Ctl.ret (Sum.inr ([],false)))
   else
    ass (B64 (s9.2+1)) <|
    some (Ctl.next (v14.1,s9.2+1))
  else
   some (Ctl.ret (Sum.inl s9.1))) fuel ([],0)).bind fun e1 =>
 match e1 with
 | .inl b1 =>
  some (b1,true)
 | .inr p1 =>
  some p1
theorem wkQ9 {F : Fx} {st st' : St} (m : List (Nat × Nat)) (h : (m.map Prod.fst).Nodup ∧ (m.map Prod.snd).Nodup ∧ (∀ id, id < F.pins → look id m = some id) ∧ (∀ p ∈ m, p.2 < st'.n) ∧ (∀ p ∈ st'.h, p.1 < st'.n) ∧ (∀ p ∈ st'.s, p.2 = rl m (st.get p.1) ∨ p.2 = .bot) ∧ ∀ p ∈ st'.h, hhOk m st.h p.1 p.2 := by simp [hP, hhOk, back, idQ, Cat.cells, Fn.cells, UA, U1, IA, I1, LA, L1, BA, B1, EA, E1, E2, eB, eI, eL, Q9 _ (Cone.cells true) _ (fun _=>rfl), XL07State.cells, Q9 _ Qk _ (fun _=>rfl)]) : Wk F st st' := Wk.r1 m h
theorem wkI9 {F : Fx} {st st' : St} (m : Nat) (h : ((idQ m).map Prod.fst).Nodup ∧ ((idQ m).map Prod.snd).Nodup ∧ (∀ id, id < F.pins → look id (idQ m) = some id) ∧ (∀ p ∈ (idQ m), p.2 < st'.n) ∧ (∀ p ∈ st'.h, p.1 < st'.n) ∧ (∀ p ∈ st'.s, p.2 = rl (idQ m) (st.get p.1) ∨ p.2 = .bot) ∧ ∀ p ∈ st'.h, hhOk (idQ m) st.h p.1 p.2 := by simp [hP, hhOk, back, idQ, Cat.cells, Fn.cells, UA, U1, IA, I1, LA, L1, BA, B1, EA, E1, E2, eB, eI, eL, Q9 _ (Cone.cells true) _ (fun _=>rfl), XL07State.cells, Q9 _ Qk _ (fun _=>rfl)]) : Wk F st st' := Wk.r1 (idQ m) h
@[simp] abbrev Ys (a:List Cone × Int) (b:Fn) (c:List (Nat × Ent)):List (Nat × Ent):=(0,.mix 1 [[.own 1 0 a.1.length]])::(1,.row 2 (Es (Cone.cells true) a.1))::(2,.mix 1 [[iV a.2]])::(3,.mix 1 [(Y0K b [])])::(4,.mix 1 [[iV a.2]])::(5,.mix 1 [[.fn 80 [.adr 0 0 0,.adr 2 0 0]]])::(6,.mix 1 [[.rptr (Y0G b [])]])::(7,.mix 1 [(Y0K b [])])::c
@[simp] abbrev Y05 (a:List Cone × Int) (b:List (Nat × Ent)):List (Nat × Ent):=(0,.mix 1 [[.own 1 0 a.1.length]])::(1,.row 2 (Es (Cone.cells true) a.1))::(2,.mix 1 [[iV a.2]])::b
@[simp] abbrev Y0a (a:List (Nat × AV)):List (Nat × AV):=(3,.adr 3 0 0)::(4,.adr 4 0 0)::(5,.adr 5 0 0)::(7,.adr 6 0 0)::(8,.adr 7 0 0)::a
@[simp] abbrev Y0p (a:Fn) (b:List (Nat × Ent)):List (Nat × Ent):=(8,.mix 1 [[.own 9 0 ((List.replicate ((a.ob.length:Int).toNat) 0).length)]])::(9,rI (List.replicate ((a.ob.length:Int).toNat) 0))::b
theorem Q4Q (d_:Fn) (r:List Cone × Bool) (h:Q1v d_=some r):Contract Try.prog 64 [.rptr (d_.cells true)] (.tup [.lst true 2 (Es (Cone.cells true) r.1),.val (.bool r.2)]):=by
 refine Q8 (rvs:=[.tmp 2,.tmp 3]) (rs:=[.lst true 2 (Es (Cone.cells true) r.1),.val (.bool r.2)]) Try.func64 rfl rfl rfl rfl (by simp [Try.f64]) fun F hN hP=>?_;unfold Q1v at h;refine Q0 (runQ hN fun K hK=>?_);simp;repeat refine sdQ ?_
 refine hK _ ?_;clear hK K;refine tn (Q4 (st':=⟨Yr d_ [],[],0⟩) (wkQ9 []) (Q0 (runQ hN fun K hK=>?_)));simp;repeat refine sdQ ?_
 refine hK _ ?_;clear hK K;refine tn (Q4 (st':=⟨Yr d_ (Y0n []),[(0,.mix 1 [[.own 1 0 0]]),(1,.mix 2 [])],2⟩) (wkQ9 [(1,0),(0,1)]) (Q0 (Q0 (runQ hN fun K hK=>?_))));simp;repeat refine sdQ ?_
 refine hK _ (tn (Q4 (st':=⟨Yr d_ (Y0n [(5,.adr 2 0 0)]),[(0,.mix 1 [[.own 1 0 0]]),(1,.mix 2 []),(2,.mix 1 [[iV 0]])],3⟩) (wkI9 3) ?_));clear hK K;replace ⟨e1,h,h1⟩:=bind_some h;refine Qd (fun b1:List Cone=>⟨Y0n [],[(0,.mix 1 [[.own 1 0 b1.length]]),(1,.row 2 (Es (Cone.cells true) b1))],2⟩) (fun b1=>Sum.inl b1=e1) ?_ ?_
 ·refine Q5 (Qs h (fun s9:List Cone × Int=>⟨Yr d_ (Y0n [(5,.adr 2 0 0)]),Y05 s9 [],3⟩) (Q3a ⟨Yr d_ (Y0n [(5,.adr 2 0 0)]),[(0,.mix 1 [[.own 1 0 0]]),(1,.row 2 (Es (Cone.cells true) [])),(2,.mix 1 [[iV 0]])],3⟩ (Wk.nils [] (by simp) (by simp) (by simp [nlA]) (by simp [entN,nlL,nlA,Cat.cells,Fn.cells,UA,U1,IA,I1,LA,L1,BA,B1,EA,E1,E2,eB,eI,eL,Q9 _ (Cone.cells true) _ (fun _=>rfl)]) (by simp)) (wkI9 3)) ?_);clear h;intro k9 s9 c9 h hk9;refine Q0 (Q0 (runQ hN fun K hK=>?_));simp;repeat refine sdQ ?_
  refine hK _ ?_;clear hK K;refine tn (Q6 rfl (fun g=>?_) fun g=>?_)
  ·have g10:s9.2<d_.t.n:=gQ;clear g;replace h:=if_l g10 h;refine Q7 (tn (Q0 (Q5 (Q0 (Q25 [] mo (by rw [hN];decide) fun K hK=>?_)))));simp;(repeat with_reducible refine sdQ ?_);replace ⟨v14,hv14,h⟩:=bind_some h;refine Q1Y (fz:=[]) (Q1u (ts:=[6]) (e:={ v:=.val (.bool v14.2),set:=[(0,.mix 1 [[.own 3 0 v14.1.length]])],del:=[1],new:=[(3,.row 2 (Es (Cone.cells true) v14.1))],cnt:=1 }) Try.func79 rfl rfl rfl (by simp [Try.f79]) (by simp) (Q4u (by simp)) (newI (by rfl)) fun F hN hP=>?_) ?_
   ·clear h;have h:=hv14;clear hv14;refine Q0 (Qg [] mo (by rw [hN];decide) fun K hK=>?_);simp;(repeat refine sdQ ?_);refine hK _ ?_;clear hK K;refine tn (Q4 (st':=⟨[(3,.adr 3 0 0),(4,.adr 4 0 0),(5,.adr 5 0 0)],Y05 s9 [(3,.mix 1 [(Y0K d_ [])]),(4,.mix 1 [[iV s9.2]]),(5,.mix 1 [[.fn 80 [.adr 0 0 0,.adr 2 0 0]]])],6⟩) (Wk.rP _ [(0,0),(1,1),(2,2),(3,3),(4,4),(5,5)] hP (by rfl) (by simp [hhOk,back,Cat.cells,Fn.cells,UA,U1,IA,I1,LA,L1,BA,B1,EA,E1,E2,eB,eI,eL,Q9 _ (Cone.cells true) _ (fun _=>rfl)])) (Q0 (w_runXS [] mo (by rw [hN];decide) fun K hK=>?_)));simp;(repeat refine sdQ ?_);refine hK _ ?_;clear hK K;refine tn (Q4 (st':=⟨Y0a [],Ys s9 d_ [],8⟩) (Wk.rP _ [(0,0),(1,1),(2,2),(3,3),(4,4),(5,5),(6,6),(7,7)] hP (by rfl) (by simp [hhOk,back,Cat.cells,Fn.cells,UA,U1,IA,I1,LA,L1,BA,B1,EA,E1,E2,eB,eI,eL,Q9 _ (Cone.cells true) _ (fun _=>rfl)])) (Q0 (Qg [] mo (by rw [hN];decide) fun K hK=>?_)));replace ⟨a12,h⟩:=Q2 h;simp;(repeat refine sdQ ?_);refine hK _ ?_;clear hK K;refine tn (Q4 (st':=⟨Y0a [(9,.adr 8 0 0)],Ys s9 d_ (Y0p d_ []),10⟩) (Wk.rP _ [(0,0),(1,1),(2,2),(3,3),(4,4),(5,5),(6,6),(7,7),(9,8),(8,9)] hP (by rfl) (by simp [hhOk,back,Cat.cells,Fn.cells,UA,U1,IA,I1,LA,L1,BA,B1,EA,E1,E2,eB,eI,eL,Q9 _ (Cone.cells true) _ (fun _=>rfl)])) (Q0 (Qg [] mo (by rw [hN];decide) fun K hK=>?_)));simp;(repeat refine sdQ ?_);refine hK _ (tn ?_);clear hK K
    refine Q4 (st':=⟨Y0a [(9,.adr 8 0 0),(10,.adr 10 0 0)],Ys s9 d_ (Y0p d_ [(10,.mix 1 [[.val (.nilFunc)]])]),11⟩) (Wk.rP _ [(0,0),(1,1),(2,2),(3,3),(4,4),(5,5),(6,6),(7,7),(8,8),(9,9),(10,10)] hP (by rfl) (by simp [hhOk,back,Cat.cells,Fn.cells,UA,U1,IA,I1,LA,L1,BA,B1,EA,E1,E2,eB,eI,eL,Q9 _ (Cone.cells true) _ (fun _=>rfl)])) (Q0 (Qg [] mo (by rw [hN];decide) fun K hK=>?_));simp;(repeat refine sdQ ?_);refine hK _ ?_;clear hK K;refine tn (Q4 (st':=⟨[(10,.adr 3 0 0)],Y05 s9 [(3,.mix 1 [[.fn 87 [.adr 4 0 0,.adr 5 0 0,.adr 6 0 0,.adr 8 0 0,.adr 9 0 0,.adr 10 0 0,.adr 3 0 0]]]),(4,.mix 1 [(Y0K d_ [])]),(5,.mix 1 [[.fn 80 [.adr 0 0 0,.adr 2 0 0]]]),(6,.mix 1 [[.own 7 0 ((List.replicate ((d_.ob.length:Int).toNat) 0).length)]]),(7,rI (List.replicate ((d_.ob.length:Int).toNat) 0)),(8,.mix 1 [[.rptr (Y0G d_ [])]]),(9,.mix 1 [[iV s9.2]]),(10,.mix 1 [(Y0K d_ [])])],11⟩) (Wk.rP _ [(0,0),(1,1),(2,2),(10,3),(7,4),(5,5),(8,6),(9,7),(6,8),(4,9),(3,10)] hP (by rfl) (by simp [hhOk,back,Cat.cells,Fn.cells,UA,U1,IA,I1,LA,L1,BA,B1,EA,E1,E2,eB,eI,eL,Q9 _ (Cone.cells true) _ (fun _=>rfl)])) (Q0 (Q25 [] mo (by rw [hN];decide) fun K hK=>?_)));simp;(repeat with_reducible refine sdQ ?_);replace ⟨v13,hv13,h⟩:=bind_some h
    refine Q1Y (fz:=[]) (ICon.frameL (e:={ v:=.val (.bool v13.2.2),set:=[(0,.mix 1 [[.own 11 0 v13.1.length]]),(6,.mix 1 [[.own 7 0 v13.2.1.length]]),(7,rI v13.2.1)],del:=[1],new:=[(11,.row 2 (Es (Cone.cells true) v13.1))],cnt:=1 }) (Q4Y 100 _ _ _ _ _ _ _ _ _ _ v13 hv13) [(0,4),(1,5),(2,0),(3,1),(4,2),(5,6),(6,7),(7,8),(8,9),(9,10),(10,3)] (by rfl) (by simp) (by simp [rl,rlL,rlLL,rlE,rlE',back,mxt,look,trm,List.range,List.range.loop,Qt,Cat.cells,Fn.cells]) (by simp [rl,rlL,rlLL,rlE,rlE',back,mxt,look,trm,List.range,List.range.loop,Qt,Cat.cells,Fn.cells]) (by simp [Q3C]) (by rfl) (by simp [rl,rlL,rlLL,rlE,rlE',back,mxt,look,trm,List.range,List.range.loop,Qt,Cat.cells,Fn.cells]) (by simp [rl,rlL,rlLL,rlE,rlE',back,mxt,look,trm,List.range,List.range.loop,Qt,Cat.cells,Fn.cells]) (by simp [rl,rlL,rlLL,rlE,rlE',back,mxt,look,trm,List.range,List.range.loop,Qt,Cat.cells,Fn.cells]) (by simp [rl,rlL,rlLL,rlE,rlE',back,mxt,look,trm,List.range,List.range.loop,Qt,Cat.cells,Fn.cells]) (by simp [Q3C]) (by rfl) (Q4u (by simp))) ?_;simp;(repeat refine sdQ ?_);refine hK _ (tn (Q4 (st':=⟨[(6,.val (.bool v13.2.2))],[(0,.mix 1 [[.own 3 0 v13.1.length]]),(2,.mix 1 [[iV s9.2]]),(3,.row 2 (Es (Cone.cells true) v13.1))],4⟩) (Wk.rP _ [(0,0),(11,3),(2,2),(1,1)] hP (by rfl) (by simp [hhOk,back,Cat.cells,Fn.cells,UA,U1,IA,I1,LA,L1,BA,B1,EA,E1,E2,eB,eI,eL,Q9 _ (Cone.cells true) _ (fun _=>rfl)])) (Qe ?_)));clear hK K;cases h;first|refine iw_r (st':=⟨[(6,.val (.bool v13.2.2))],[(0,.mix 1 [[.own 3 0 v13.1.length]]),(2,.mix 1 [[iV s9.2]]),(3,.row 2 (Es (Cone.cells true) v13.1))],4⟩) ?_ ?_|refine iw_n (st':=⟨[(6,.val (.bool v13.2.2))],[(0,.mix 1 [[.own 3 0 v13.1.length]]),(2,.mix 1 [[iV s9.2]]),(3,.row 2 (Es (Cone.cells true) v13.1))],4⟩) ?_ ?_
    ·exact Wk.rP _ [(0,0),(3,3),(2,2),(1,1)] hP (by rfl) (by simp [hhOk,back,Cat.cells,Fn.cells,UA,U1,IA,I1,LA,L1,BA,B1,EA,E1,E2,eB,eI,eL,Q9 _ (Cone.cells true) _ (fun _=>rfl)])
    exact ⟨by simp [Qt],by simp,by simp [Cat.cells,Fn.cells]⟩
   simp;(repeat refine sdQ ?_);refine hK _ ?_;clear hK K;refine tn (Q4 (st':=⟨Yr d_ (Y0n [(5,.adr 2 0 0),(6,.val (.bool v14.2))]),[(0,.mix 1 [[.own 1 0 v14.1.length]]),(1,.row 2 (Es (Cone.cells true) v14.1)),(2,.mix 1 [[iV s9.2]])],3⟩) (wkQ9 [(0,0),(3,1),(2,2)]) (Q0 (runQ hN fun K hK=>?_)));simp;(repeat refine sdQ ?_);refine hK _ ?_;clear hK K;refine tn (Q6 rfl (fun g=>?_) fun g=>?_)
   ·have g15:¬ (v14.2=true):=gQ;clear g;replace h:=if_l g15 h;refine Q0 (runQ hN fun K hK=>?_);simp;(repeat refine sdQ ?_);refine hK _ (tn (Q4 (st':=⟨[(2,nS),(3,.val (.bool false))],[],0⟩) (wkQ9 []) (Qe (br (tr (lr (br (tr ?_))))))));clear hK K;cases h;have q:_=e1:=hk9;have h:=h1;rw [← q] at h;clear q;(try dsimp only at h);have hr:=Option.some.inj h;rw [← hr];refine ⟨_,(.tmp (.tmp .nil)),?_⟩;refine ⟨(.one rfl rfl (.one rfl rfl .nil)),[nS,.val (.bool false)],[],by simp [Cat.cells,Fn.cells,UA,U1,IA,I1,LA,L1,BA,B1,EA,E1,E2,eB,eI,eL,Q9 _ (Cone.cells true) _ (fun _=>rfl)],by simp,(.cons .nil (.cons .refl .nil))⟩
   have g15:¬ (¬ (v14.2=true)):=gQ;clear g;replace h:=if_r g15 h;refine Q7 (bn (tn (Q0 (Q0 (runQ hN fun K hK=>?_)))));simp;(repeat refine sdQ ?_);refine hK _ ?_;clear hK K;refine tn (Q4 (st':=⟨Yr d_ (Y0n [(23,iV s9.2)]),[(0,.mix 1 [[.own 1 0 v14.1.length]]),(1,.row 2 (Es (Cone.cells true) v14.1))],2⟩) (wkQ9 [(0,0),(1,1)]) (runQ hN fun K hK=>?_));simp;(repeat refine sdQ ?_);refine hK _ ?_;clear hK K;refine tn (Q4 (st':=⟨Yr d_ (Y0n [(5,.adr 2 0 0)]),[(0,.mix 1 [[.own 1 0 v14.1.length]]),(1,.row 2 (Es (Cone.cells true) v14.1)),(2,.mix 1 [[iV s9.2]])],3⟩) (wkI9 3) (runQ hN fun K hK=>?_));replace ⟨a16,h⟩:=Q2 h;simp [Qo a16];(repeat refine sdQ ?_);refine hK _ ?_;clear hK K;cases h;exact rn (s':=(v14.1,s9.2+1)) hk9 (wkI9 3)
  have g10:¬ (s9.2<d_.t.n):=gQ;clear g;replace h:=if_r g10 h;refine Qj (tx (lx (bh ?_)));cases h;exact jn (b:=s9.1) hk9 (wkQ9 [(0,0),(1,1)])
 intro b1 hb1;have h:=h1;try rw [← hb1] at h
 clear h1;try dsimp only at h
 refine Q0 (runQ hN fun K hK=>?_);simp;repeat refine sdQ ?_
 refine hK _ (tn (Q4 (st':=⟨[(2,.own 0 0 b1.length),(3,.val (.bool true))],[(0,.row 2 (Es (Cone.cells true) b1))],1⟩) (wkQ9 [(1,0)]) (Qe ?_)));clear hK K;have hr:=Option.some.inj h;rw [← hr];refine ⟨_,(.tmp (.tmp .nil)),?_⟩;refine ⟨(.one rfl rfl (.one rfl rfl .nil)),[.lst true 2 (Es (Cone.cells true) b1),.val (.bool true)],[0],by simp [Cat.cells,Fn.cells,UA,U1,IA,I1,LA,L1,BA,B1,EA,E1,E2,eB,eI,eL,Q9 _ (Cone.cells true) _ (fun _=>rfl)],by simp,(UpL.refl _)⟩
section
attribute [local simp] Qf QG Qu Q15 QD
theorem loop_rel {σ ε:Type} {body:σ→Option (Ctl σ ε)} {I:Nat→σ→Prop} {J:ε→Prop} {n:Nat} (hs:∀ i s,i<n→I i s→(∃ s',body s=some (.next s')∧I (i+1) s')∨∃ e,body s=some (.ret e)∧J e) (he:∀ s,I n s→∃ e,body s=some (.ret e)∧J e) :
  ∀ (r i:Nat) (s:σ) (F:Nat),i+r=n→r<F→I i s→∃ e,Qx body F s=some e∧J e:=by
 intro r
 induction r with
 | zero =>
  intro i s F hi hF hI;obtain ⟨e,h1,h2⟩:=he s (by rw [show n=i by omega];exact hI);obtain ⟨F',rfl⟩:∃ F',F=F' + 1:=⟨F - 1,by omega⟩;simp only [Qx,h1];exact ⟨e,rfl,h2⟩
 | succ r ih =>
  intro i s F hi hF hI;obtain ⟨F',rfl⟩:∃ F',F=F' + 1:=⟨F - 1,by omega⟩;rcases hs i s (by omega) hI with ⟨s',h1,h2⟩|⟨e,h1,h2⟩
  ·simp only [Qx,h1];exact ih (i+1) s' F' (by omega) (by omega) h2
  simp only [Qx,h1];exact ⟨e,rfl,h2⟩
theorem loop_relF {σ ε:Type} {body:σ→Option (Ctl σ ε)} {s0:σ} (n:Nat) (I:Nat→σ→Prop) (J:ε→Prop) (hn:n<4611686018427387904) (h0:I 0 s0) (hs:∀ i s,i<n→I i s→(∃ s',body s=some (.next s')∧I (i+1) s')∨∃ e,body s=some (.ret e)∧J e)
  (he:∀ s,I n s→∃ e,body s=some (.ret e)∧J e):∃ e,Qx body fuel s0=some e∧J e :=
 loop_rel hs he n 0 s0 fuel (by omega) (by unfold fuel;omega) h0
theorem Q13 {σ ε β:Type} {body:σ→Option (Ctl σ ε)} {K:ε→Option β} {s0:σ} {Q:Option β→Prop} (n:Nat) (I:Nat→σ→Prop) (J:ε→Prop) (hn:n<4611686018427387904) (h0:I 0 s0) (hs:∀ i s,i<n→I i s→(∃ s',body s=some (.next s')∧I (i+1) s')∨∃ e,body s=some (.ret e)∧J e)
  (he:∀ s,I n s→∃ e,body s=some (.ret e)∧J e) (hk:∀ e,J e→Q (K e)):Q ((Qx body fuel s0).bind K):=by
 obtain ⟨e,h1,h2⟩:=loop_relF n I J hn h0 hs he;rw [h1];exact hk e h2
theorem Q2Y {p:List Int} {f:Int} {i:Nat} (h:i<p.length):ix (p++[f]) i=ix p i:=by simp [ix,List.getD_eq_getElem?_getD,List.getElem?_append,h]
theorem Q5V (p:List Int) (f:Int):ix (p++[f]) (p.length:Nat)=f:=by simp [ix,List.getD_eq_getElem?_getD]
theorem Q5f {p:List Int} {f:Int} {i:Nat} (h:i<p.length):ix (p.set i f) i=f:=by simp [ix,List.getD_eq_getElem?_getD,h]
theorem Q5g {p:List Int} {f:Int} {i j:Nat} (h:i ≠ j):ix (p.set i f) j=ix p j:=by simp [ix,List.getD_eq_getElem?_getD,List.getElem?_set,h]
theorem ix_ext {p q:List Int} (hl:p.length=q.length) (h:∀ i:Nat,i<p.length→ix p i=ix q i):p=q:=by
 refine List.ext_getElem hl fun i h1 h2=>?_;rw [Q16 _ _ h1,Q16 _ _ h2];exact h i h1
def finC (out L:List Cone):List Cone × Bool:=if out.length+L.length≤400 then (out++L,true) else (out++L.take (401 - out.length),false)
theorem Q8v {out A B:List Cone} (h:out.length≤400):finC out (A++B)=if (finC out A).2=true then finC (finC out A).1 B else finC out A:=by
 unfold finC
 by_cases h1:out.length+A.length≤400
 ·rw [if_pos h1];simp only [if_true,List.length_append]
  by_cases h2:out.length+A.length+B.length≤400
  ·rw [if_pos (by omega),if_pos (by omega),List.append_assoc]
  rw [if_neg (by omega),if_neg (by omega),List.append_assoc,List.take_append];rw [List.take_of_length_le (by omega),show 401 - out.length - A.length=401 - (out.length+A.length) by omega]
 rw [if_neg h1];simp only [Bool.false_eq_true,if_false,List.length_append];rw [if_neg (by omega),List.take_append_of_le_length (by omega)]
theorem Q8w {out:List Cone} (h:out.length≤400):finC out []=(out,true):=by unfold finC;rw [if_pos (by simpa using h)];simp
theorem finC_ok {out L:List Cone} (h:(finC out L).2=true):(finC out L).1.length≤400:=by
 unfold finC at *;split at h
 ·rename_i h1;rw [if_pos h1];simpa using h1
 cases h
def lmax (d:Fn) (a:Nat):Int:=if ix d.s.to a > ix d.s.fr a then ix d.s.to a else ix d.s.fr a
def leq (d:Fn) (p:List Int) (a:Nat):Prop:=ix (rx d.t.cs (ix p (ix d.s.fr a))) (ix d.ar a)=ix p (ix d.s.to a)
def lok (d:Fn) (p:List Int) (j:Nat):Prop:=∀ a:Nat,a<d.ar.length→lmax d a=(j:Int)→leq d p a
noncomputable def lnx (d:Fn) (j:Nat) (p:List Int) (X:List (List Int)):List (List Int):=@ite _ (lok d p j) (Classical.propDecidable _) X []
noncomputable def lext (d:Fn) (x:Int):Nat→List Int→List (List Int)
 | 0,p=>[p]
 | m+1,p=>(homL d.t x (ix d.ob p.length)).flatMap fun f=>lnx d p.length (p++[f]) (lext d x m (p++[f]))
def LP (d:Fn) (x:Int) (p:List Int):Prop:=∀ i:Nat,i<p.length→Ar d.t (ix p i) x (ix d.ob i)
theorem LP.snoc {d:Fn} {x:Int} {p:List Int} (h:LP d x p) {f:Int} (hf:Ar d.t f x (ix d.ob p.length)):LP d x (p++[f]):=by
 intro i hi;simp only [List.length_append,List.length_singleton] at hi
 by_cases q:i<p.length
 ·rw [Q2Y q];exact h i q
 have:i=p.length:=by omega
 subst this;rw [Q5V];exact hf
theorem Fn.Is.fact {d:Fn} (h:d.Is):(d.ob.length:Int)=d.s.n∧d.ar.length=d.s.fr.length∧d.s.to.length=d.s.fr.length∧d.ob.length≤8∧d.ar.length≤40∧d.t.fr.length≤40∧(d.s.id.length:Int)=d.s.n∧∀ a:Nat,a<d.ar.length→(0≤ix d.s.fr a∧ix d.s.fr a<(d.ob.length:Int))∧(0≤ix d.s.to a∧ix d.s.to a<(d.ob.length:Int))∧Ar d.t (ix d.ar a) (ix d.ob (ix d.s.fr a)) (ix d.ob (ix d.s.to a)):=by
 have h1:=h.lob;have h2:=h.lar;have h3:=h.la;have h4:=h.lo;have hs:=h.s.1;have:=h.t.1.m40;have li:=hs.li;have lt:=hs.lt;refine ⟨h4,h3,lt,h1,h2,this,li,fun a ha=>?_⟩;have c1:=hs.fr' (j:=a) (by omega) (by omega);have c2:=hs.to' (j:=a) (by omega) (by omega);exact ⟨by omega,by omega,h.ar a ha,h.ends a (by omega)⟩
theorem Q8C {d:Fn} (hd:d.Is) {p q:List Int} {j a:Nat} (ha:a<d.ar.length) (hm:lmax d a=(j:Int)) (h:∀ i:Nat,i≤j→ix p i=ix q i):leq d p a↔leq d q a:=by
 obtain ⟨f1,f2,f3⟩:=hd.fact.2.2.2.2.2.2.2 a ha;obtain ⟨r,hr⟩:=Int.eq_ofNat_of_zero_le f1.1;obtain ⟨t,ht⟩:=Int.eq_ofNat_of_zero_le f2.1;unfold lmax at hm;unfold leq;rw [hr,ht] at hm ⊢;have:r≤j∧t≤j:=by split at hm<;>omega
 rw [h r this.1,h t this.2]
theorem e_legs {d:Fn} (hd:d.Is) {x:Int}:∀ (m k:Nat) (p list:List Int) (out:List Cone),m+p.length=d.ob.length→m<k→LP d x p→list.length=d.ob.length→(∀ i:Nat,i<p.length→ix list i=ix p i)→out.length≤400 →
  ∃ list':List Int,(list'.length=d.ob.length∧∀ i:Nat,i<p.length→ix list' i=ix p i)∧QB k p.length d out x list d.t d.ob d.ar x d=some ((finC out ((lext d x m p).map (Cone.mk x))).1,list',(finC out ((lext d x m p).map (Cone.mk x))).2):=by
 obtain ⟨l1,l2,l3,l4,l5,l6,l7,l8⟩:=hd.fact;have hc:=hd.t;intro m
 induction m with
 | zero =>
  intro k p list out hm hk hp hl hpre ho;obtain ⟨k,rfl⟩:∃ k',k=k' + 1:=⟨k - 1,by omega⟩;refine ⟨list,⟨hl,hpre⟩,?_⟩;have hlp:list=p:=ix_ext (by omega) fun i hi=>hpre i (by omega);subst hlp;unfold QB Q1l;try simp only
  rw [if_pos (by omega),Q3 (by omega)];simp only [Option.bind_some];rw [Q3 (by simp;omega)];simp only [Option.bind_some,lext,List.map_cons,List.map_nil];unfold finC
  by_cases h:out.length+1≤400
  ·rw [if_pos (by simpa using h)];simp;omega
  rw [if_neg (by simpa using h)];have:401 - out.length=1:=by omega
  rw [this];simp;omega
 | succ m ih =>
  intro k p list out hm hk hp hl hpre ho;obtain ⟨k,rfl⟩:∃ k',k=k' + 1:=⟨k - 1,by omega⟩;have hH:=Q51 d.t x (ix d.ob p.length);have hob:=hd.ob p.length (by omega)
  let H:=homL d.t x (ix d.ob p.length)
  have hHl:H.length≤d.t.fr.length:=hH
  let X:Nat→List Cone:=fun i=>((H.take i).flatMap fun f=>lnx d p.length (p++[f]) (lext d x m (p++[f]))).map (Cone.mk x)
  have hX:∀ i,i<H.length→X (i+1)=X i++(lnx d p.length (p++[ix H i]) (lext d x m (p++[ix H i]))).map (Cone.mk x):=by
   intro i hi;simp only [X];rw [List.take_succ_eq_append_getElem hi,Q16 _ _ hi];simp
  have hXe:X H.length=(lext d x (m+1) p).map (Cone.mk x):=by simp [X,lext,H]
  have hXs:∀ i,i≤H.length→∃ B,(lext d x (m+1) p).map (Cone.mk x)=X i++B:=by
   intro i hi;refine ⟨((H.drop i).flatMap fun f=>lnx d p.length (p++[f]) (lext d x m (p++[f]))).map (Cone.mk x),?_⟩;rw [← hXe];simp only [X,List.take_length];rw [← List.map_append,← List.flatMap_append,List.take_append_drop]
  let good:List Int→Prop:=fun lst=>lst.length=d.ob.length∧∀ i:Nat,i<p.length→ix lst i=ix p i
  let F:=finC out ((lext d x (m+1) p).map (Cone.mk x))
  unfold QB;try simp only
  rw [if_neg (by omega),Q3 (by omega),show QA d.t x (ix d.ob p.length)=some H from (Q8r hc _ _).2];simp only [Option.bind_some];refine Q13 (σ:=List Cone × List Int × Int) (Q:=fun z=>∃ list':List Int,(list'.length=d.ob.length∧∀ i:Nat,i<p.length→ix list' i=ix p i)∧z=some (F.1,list',F.2)) H.length
   (fun i s=>∃ o lst,s=(o,lst,(i:Int))∧good lst∧finC out (X i)=(o,true))
   (fun e:(List Cone × List Int) ⊕ (List Cone × List Int × Bool)=>match e with
    | .inl e=>good e.2∧F=(e.1,true)
    | .inr e=>good e.2.1∧F=(e.1,false)∧e.2.2=false)
   (by show (homL d.t x (ix d.ob p.length)).length<_;omega) ⟨out,list,rfl,⟨hl,hpre⟩,by simp [X];exact Q8w ho⟩ ?_ ?_ ?_
  ·intro i s hi ⟨o,lst,hse,⟨g1,g2⟩,hF⟩;subst hse;have Af:Ar d.t (ix H i) x (ix d.ob p.length):=Q8F Q3N hi;have ho':o.length≤400:=(by have:=finC_ok (out:=out) (L:=X i) (by rw [hF]);rw [hF] at this;exact this);have hi2:(i:Int)<(H.length:Int):=by omega
   let p2:=p++[ix H i]
   let lst2:=lst.set p.length (ix H i)
   have hl2:lst2.length=d.ob.length:=(by simp [lst2,g1]);have hp2:∀ q:Nat,q<p2.length→ix lst2 q=ix p2 q:=by
    intro q hq;simp only [p2,List.length_append,List.length_singleton] at hq
    by_cases hqp:q<p.length
    ·simp only [lst2,p2];rw [Q5g (by omega),Q2Y hqp];exact g2 q hqp
    have:q=p.length:=(by omega);subst this;simp only [lst2,p2];rw [Q5f (by omega),Q5V]
   have hg2:good lst2:=⟨hl2,fun q hq=>by rw [hp2 q (by simp [p2];omega)];exact Q2Y hq⟩;have hLP2:LP d x p2:=hp.snoc Af;have hX1:finC out (X (i+1))=finC o ((lnx d p.length p2 (lext d x m p2)).map (Cone.mk x)):=by
    rw [hX i hi,Q8v ho,hF];simp only [if_true];rfl
   have h1:∀ a:Nat,a<d.ar.length→lmax d a=(p.length:Int)→∃ r t:Nat,ix d.s.fr a=r∧ix d.s.to a=t∧r≤p.length∧t≤p.length:=by
    intro a ha hm';obtain ⟨f1,f2,f3⟩:=l8 a ha;obtain ⟨r,hr⟩:=Int.eq_ofNat_of_zero_le f1.1;obtain ⟨t,ht⟩:=Int.eq_ofNat_of_zero_le f2.1;unfold lmax at hm';refine ⟨r,t,hr,ht,?_⟩;rw [hr,ht] at hm';split at hm'<;>omega
   have hlq:∀ a:Nat,a<d.ar.length→lmax d a=(p.length:Int)→(leq d lst2 a↔leq d p2 a):=fun a ha hm'=>Q8C hd ha hm' fun q hq=>hp2 q (by simp [p2];omega);have body:∀ {β:Type} {K:(Unit ⊕ (List Cone × List Int))→Option β} {r:β},(lok d p2 p.length→K (.inl ())=some r)→(¬ lok d p2 p.length→K (.inr (o,lst2))=some r) →
     (Qx (σ:=Int) (ε:=Unit ⊕ (List Cone × List Int)) (fun s59 =>
       if s59<(d.ar.length:Int) then
        ass (0≤s59∧s59<(d.ar.length:Int)) <|
        ass (0≤s59∧s59<(d.s.fr.length:Int)) <|
        ass (0≤s59∧s59<(d.s.to.length:Int)) <|
        (
         if (if ix d.s.to s59 > ix d.s.fr s59 then ix d.s.to s59 else ix d.s.fr s59)=(p.length:Int) then
          ass (0≤ix d.s.fr s59∧ix d.s.fr s59<(lst2.length:Int)) <|
          (Qp d.t (ix lst2 (ix d.s.fr s59)) (ix d.ar s59)).bind fun v67 =>
          ass (0≤ix d.s.to s59∧ix d.s.to s59<(lst2.length:Int)) <|
          some (v67 != (ix lst2 (ix d.s.to s59)))
         else
          some false:Option (Bool)).bind fun b64 =>
        if b64=true then
         some (Ctl.ret (Sum.inr (o,lst2)))
        else
         ass (B64 (s59+1)) <|
         some (Ctl.next (s59+1))
       else
        some (Ctl.ret (Sum.inl ()))) fuel 0).bind K=some r:=by
    intro β K r k1 k2;have hthen:∀ a:Nat,a<d.ar.length→lmax d a=(p.length:Int)→Qp d.t (ix lst2 (ix d.s.fr a)) (ix d.ar a)=some (ix (rx d.t.cs (ix lst2 (ix d.s.fr a))) (ix d.ar a)):=by
     intro a ha hm';obtain ⟨r,t,hr,ht,hr2,ht2⟩:=h1 a ha hm';obtain ⟨f1,f2,f3⟩:=l8 a ha;have A:=hLP2 r (by simp [p2];omega);rw [← hp2 r (by simp [p2];omega),← hr] at A;exact (A.thn hc f3).2
    refine Q1c d.ar.length (fun a=>lmax d a=(p.length:Int)→leq d lst2 a) (eb:=Sum.inr (o,lst2)) (eg:=Sum.inl ()) (by omega) (fun a ha hq=>?_) (fun a ha hq=>?_) (by rw [if_neg (by omega)]) (fun hq=>k2 fun hl=>hq fun a ha hm'=>(hlq a ha hm').2 (hl a ha hm')) fun hq=>k1 fun a ha hm'=>(hlq a ha hm').1 (hq a ha hm')
    ·obtain ⟨f1,f2,f3⟩:=l8 a ha;rw [if_pos (by omega),Q3 (by omega),Q3 (by omega),Q3 (by omega)]
     by_cases hm':lmax d a=(p.length:Int)
     ·have hm2:(if ix d.s.to a > ix d.s.fr a then ix d.s.to a else ix d.s.fr a)=(p.length:Int):=hm';have e:=hq hm';unfold leq at e;rw [if_pos hm2,Q3 (by omega),hthen a ha hm'];simp only [Option.bind_some];rw [Q3 (by omega),e];simp only [bne_self_eq_false,Option.bind_some,Bool.false_eq_true,if_false];rw [Q3 (by unfold B64;omega)]
     have hm2:¬ (if ix d.s.to a > ix d.s.fr a then ix d.s.to a else ix d.s.fr a)=(p.length:Int):=hm';rw [if_neg hm2];simp only [Option.bind_some,Bool.false_eq_true,if_false];rw [Q3 (by unfold B64;omega)]
    obtain ⟨f1,f2,f3⟩:=l8 a ha;have hm':lmax d a=(p.length:Int):=Classical.byContradiction fun h=>hq fun h'=>absurd h' h;have e:¬ leq d lst2 a:=fun h=>hq fun _=>h;have hm2:(if ix d.s.to a > ix d.s.fr a then ix d.s.to a else ix d.s.fr a)=(p.length:Int):=hm';unfold leq at e;rw [if_pos (by omega),Q3 (by omega),Q3 (by omega),Q3 (by omega),if_pos hm2,Q3 (by omega),hthen a ha hm'];simp only [Option.bind_some];rw [Q3 (by omega)];simp [e]
   by_cases hlok:lok d p2 p.length
   ·have hL:lnx d p.length p2 (lext d x m p2)=lext d x m p2:=(by unfold lnx;rw [if_pos hlok]);rw [hL] at hX1;obtain ⟨l',⟨q1,q2⟩,q3⟩:=ih k p2 lst2 o (by simp [p2];omega) (by omega) hLP2 hl2 hp2 ho';have hpl:((p2.length:Nat):Int)=(p.length:Int)+1:=(by simp [p2]);rw [hpl] at q3;have gl':good l':=⟨q1,fun q hq=>by rw [q2 q (by simp [p2];omega)];exact Q2Y hq⟩
    by_cases hf:(finC o ((lext d x m p2).map (Cone.mk x))).2=true
    ·left;refine ⟨((finC o ((lext d x m p2).map (Cone.mk x))).1,l',(i:Int)+1),?_,_,l',rfl,gl',?_⟩
     ·simp only;rw [if_pos hi2,Q3 ⟨by omega,hi2⟩,Q3 (by omega)];simp only [Option.bind_assoc,Int.toNat_natCast];refine body (fun _=>?_) fun h=>absurd hlok h;simp only;rw [Q3 (by unfold B64;omega),q3];simp only [Option.bind_some,hf,not_true_eq_false,if_false];rw [Q3 (by unfold B64;omega)]
     rw [hX1];exact Prod.ext rfl hf
    right;have hf':(finC o ((lext d x m p2).map (Cone.mk x))).2=false:=(by simpa using hf);refine ⟨.inr ((finC o ((lext d x m p2).map (Cone.mk x))).1,l',false),?_,gl',?_,rfl⟩
    ·simp only;rw [if_pos hi2,Q3 ⟨by omega,hi2⟩,Q3 (by omega)];simp only [Option.bind_assoc,Int.toNat_natCast];refine body (fun _=>?_) fun h=>absurd hlok h;simp only;rw [Q3 (by unfold B64;omega),q3];simp [hf']
    obtain ⟨B,hB⟩:=hXs (i+1) (by omega);show finC out _=_;rw [hB,Q8v ho,hX1,hf'];simp only [Bool.false_eq_true,if_false];exact Prod.ext rfl hf'
   have hL:lnx d p.length p2 (lext d x m p2)=[]:=(by unfold lnx;rw [if_neg hlok]);rw [hL] at hX1;left;refine ⟨(o,lst2,(i:Int)+1),?_,o,lst2,rfl,hg2,?_⟩
   ·simp only;rw [if_pos hi2,Q3 ⟨by omega,hi2⟩,Q3 (by omega)];simp only [Option.bind_assoc,Int.toNat_natCast];refine body (fun h=>absurd h hlok) fun _=>?_;simp only [Option.bind_some];rw [Q3 (by unfold B64;omega)]
   rw [hX1];exact Q8w ho'
  ·intro s ⟨o,lst,hse,hg,hF⟩;subst hse;refine ⟨.inl (o,lst),?_,hg,?_⟩
   ·simp only;rw [if_neg (by omega)]
   show finC out _=_;rw [← hXe];exact hF
  intro e he;cases e with
  | inl e=>exact ⟨e.2,he.1,by rw [he.2]⟩
  | inr e =>
   obtain ⟨e1,e2,e3⟩:=e;refine ⟨e2,he.1,?_⟩;have q1:=he.2.1;have q2:=he.2.2;simp only at q1 q2;subst q2;rw [q1]
noncomputable def Q5G (d:Fn) (x:Int):List Cone:=(lext d x d.ob.length []).map (Cone.mk x)
noncomputable def Q1q (d:Fn) (k:Nat):List Cone:=(List.range k).flatMap fun x:Nat=>Q5G d x
noncomputable def Q19 (d:Fn):List Cone:=Q1q d d.t.n.toNat
theorem Q2v (d:Fn) (k:Nat):Q1q d (k+1)=Q1q d k++Q5G d k:=by simp [Q1q,List.range_succ]
theorem Q8V (d:Fn) {i k:Nat} (h:i≤k):(Q1q d i).length≤(Q1q d k).length:=by
 obtain ⟨m,rfl⟩:=Nat.le.dest h;clear h
 induction m with
 | zero=>exact Nat.le_refl _
 | succ m ih =>
  rw [← Nat.add_assoc,Q2v,List.length_append];omega
theorem Q5S {d:Fn} (hd:d.Is):Q1v d=some (if (Q19 d).length≤400 then (Q19 d,true) else ([],false)):=by
 obtain ⟨l1,l2,l3,l4,l5,l6,l7,l8⟩:=hd.fact;have n8:=hd.t.1.n8;have n0:=hd.t.1.n0;unfold Q1v;refine Q13 (σ:=List Cone × Int) (Q:=fun z=>z=some (if (Q19 d).length≤400 then (Q19 d,true) else ([],false))) d.t.n.toNat (fun i s=>s=(Q1q d i,(i:Int))∧(Q1q d i).length≤400)
  (fun e:List Cone ⊕ (List Cone × Bool)=>match e with
   | .inl e=>e=Q19 d∧(Q19 d).length≤400
   | .inr e=>e=([],false)∧400<(Q19 d).length) (by omega) ⟨rfl,by simp [Q1q]⟩ ?_ ?_ ?_
 ·intro i s hi ⟨hse,hl⟩;subst hse;obtain ⟨l',_,q⟩:=e_legs hd (x:=i) d.ob.length 100 [] (List.replicate d.ob.length 0) (Q1q d i) (by simp) (by omega) (fun j hj=>by simp at hj) (by simp) (fun j hj=>by simp at hj) hl;have q':QB 100 0 d (Q1q d i) i (List.replicate ((d.ob.length:Int).toNat) 0) d.t d.ob d.ar i d=some ((finC (Q1q d i) (Q5G d i)).1,l',(finC (Q1q d i) (Q5G d i)).2):=q;have hm:=Q8V d (i:=i+1) (k:=d.t.n.toNat) (by omega)
  by_cases h:(Q1q d i).length+(Q5G d i).length≤400
  ·left;have e:finC (Q1q d i) (Q5G d i)=(Q1q d (i+1),true):=(by unfold finC;rw [if_pos h,Q2v]);refine ⟨(Q1q d (i+1),(i:Int)+1),?_,rfl,by rw [Q2v,List.length_append];exact h⟩;simp only;rw [if_pos (by omega),Q3 (by omega),q',e];simp only [Option.bind_some,not_true_eq_false,if_false];rw [Q3 (by unfold B64;omega)]
  right;have e:(finC (Q1q d i) (Q5G d i)).2=false:=by unfold finC;rw [if_neg h]
  refine ⟨.inr ([],false),?_,rfl,?_⟩
  ·simp only;rw [if_pos (by omega),Q3 (by omega),q'];simp [e]
  rw [Q2v,List.length_append] at hm;unfold Q19;omega
 ·intro s ⟨hse,hl⟩;subst hse;refine ⟨.inl (Q19 d),?_,rfl,hl⟩;simp only;rw [if_neg (by omega)];rfl
 intro e he;cases e with
 | inl e=>rw [if_pos he.2,he.1]
 | inr e=>rw [if_neg (by have:=he.2;omega),he.1]
end
attribute [local simp] unk unA unE unT unC flat eL eI Qm QK Cat.cells
noncomputable def Q1f (f_:Int) (g_:Int) (c0_:Cat):Option Int :=
 (Qp c0_ g_ f_).bind fun v1 =>
 some v1
theorem Q47 (f_:Int) (g_:Int) (c0_:Cat) (r:Int) (h:Q1f f_ g_ c0_=some r):Contract Try.prog 77 [iV f_,iV g_,.rptr [.rptr (Cat.cells true c0_)]] (iV r):=by
 refine Q8 (rvs:=[.tmp 5]) (rs:=[iV r]) Try.func77 rfl rfl rfl rfl (by simp [Try.f77]) fun F hN hP=>?_;unfold Q1f at h;refine Q0 (runQ hN fun K hK=>?_);simp;repeat refine sdQ ?_
 refine hK _ ?_;clear hK K;refine tn (Q4 (st':=⟨[(0,iV f_),(1,iV g_),(2,.rptr [.rptr (Cat.cells true c0_)])],[],0⟩) (wkQ9 []) (Q0 (runQ hN fun K hK=>?_)));simp;repeat with_reducible refine sdQ ?_
 replace ⟨v1,hv1,h⟩:=bind_some h;refine Q1 (Q1B _ _ _ v1 hv1) (.cons (.preT (by simp [Cat.cells])) (.cons .val (.cons .val .nil))) ?_;simp;repeat refine sdQ ?_
 refine hK _ (tn (Q4 (st':=⟨[(5,iV v1)],[],0⟩) (wkQ9 []) (Qe ?_)));clear hK K;have hr:=Option.some.inj h;rw [← hr];refine ⟨_,(.tmp .nil),?_⟩;refine ⟨(.one rfl rfl .nil),[iV v1],[],by simp [Cat.cells,UA,U1,IA,I1,LA,L1,BA,B1,EA,E1,E2,eB,eI,eL],by simp,(UpL.refl _)⟩
attribute [local simp] unk unA unE unT unC flat eL eI Qm QK Cat.cells
noncomputable def Q1T (c_:Cat):Option Cat :=
 (Q1l c_.to).bind fun v1 =>
 (Q1l c_.fr).bind fun v2 =>
 (Q1l c_.id).bind fun v3 =>
 (
  (Qv (⟨c_.n,v1,v2,v3,[]⟩:Cat)).bind fun v5 =>
  ass (0≤v5∧v5≤1073741824) <|
  (Qx (σ:=List (List Int) × Int) (ε:=List (List Int)) (fun s36 =>
   if s36.2<((List.replicate v5.toNat ([]:List Int)).length:Int) then
    (
     ass (0≤v5∧v5≤1073741824) <|
     ass (0≤s36.2∧s36.2<(s36.1.length:Int)) <|
     ass (0≤s36.2∧s36.2<((s36.1.set s36.2.toNat (List.replicate v5.toNat 0)).length:Int)) <|
     (Qx (σ:=List (List Int) × Int) (ε:=List (List Int)) (fun s53 =>
      if s53.2<((rx (s36.1.set s36.2.toNat (List.replicate v5.toNat 0)) s36.2).length:Int) then
       (
        ass (0≤s36.2∧s36.2<(s53.1.length:Int)) <|
        ass (0≤s53.2∧s53.2<((rx s53.1 s36.2).length:Int)) <|
        ass (0≤s36.2∧s36.2<(v2.length:Int)) <|
        ass (0≤s53.2∧s53.2<(v1.length:Int)) <|
        if (ix v2 s36.2)=(ix v1 s53.2) then
         ass (0≤s36.2∧s36.2<((s53.1.set s36.2.toNat ((rx s53.1 s36.2).set s53.2.toNat (-1))).length:Int)) <|
         (Q1f s36.2 s53.2 c_).bind fun v62 =>
         ass (0≤s53.2∧s53.2<((rx (s53.1.set s36.2.toNat ((rx s53.1 s36.2).set s53.2.toNat (-1))) s36.2).length:Int)) <|
         some ((s53.1.set s36.2.toNat ((rx s53.1 s36.2).set s53.2.toNat (-1))).set s36.2.toNat ((rx (s53.1.set s36.2.toNat ((rx s53.1 s36.2).set s53.2.toNat (-1))) s36.2).set s53.2.toNat v62))
        else
         some (s53.1.set s36.2.toNat ((rx s53.1 s36.2).set s53.2.toNat (-1))):Option (List (List Int))).bind fun b55 =>
       ass (B64 (s53.2+1)) <|
       some (Ctl.next (b55,s53.2+1))
      else
       some (Ctl.ret s53.1)) fuel (s36.1.set s36.2.toNat (List.replicate v5.toNat 0),0)).bind fun p53 =>
     some p53:Option (List (List Int))).bind fun b38 =>
    ass (B64 (s36.2+1)) <|
    some (Ctl.next (b38,s36.2+1))
   else
    some (Ctl.ret s36.1)) fuel (List.replicate v5.toNat ([]:List Int),0)).bind fun p36 =>
  some p36:Option (List (List Int))).bind fun v66 =>
 some (⟨c_.n,v1,v2,v3,v66⟩:Cat)
@[simp] abbrev Y0C (a:Cat) (b c d:List Int) (e:List (AV)):List (AV):=iV a.n::.own 3 0 b.length::.own 4 0 c.length::.own 5 0 d.length::e
@[simp] abbrev Ya (a:Cat) (b c d:List Int) (e:List (List Int) × Int) (f:List (Nat × Ent)):List (Nat × Ent):=(1,.mix 5 [(Y0I [])])::(2,.mix 5 [(Y0C a b c d [.own 6 0 e.1.length])])::(3,rI b)::(4,rI c)::(5,rI d)::(6,.row 1 (Ls e.1))::f
@[simp] abbrev Yx (a:Cat) (b:List (Nat × Ent)):List (Nat × Ent):=(0,.mix 1 [[.rptr (Cat.cells true a)]])::(1,.mix 5 [(Y0I [])])::b
@[simp] abbrev Yz (a:Int) (b:List (List Int) × Int) (c:List (Nat × AV)):List (Nat × AV):=(18,iV ((List.replicate a.toNat ([]:List Int)).length:Int))::(19,iV b.2)::(37,iV ((rx (b.1.set b.2.toNat (List.replicate a.toNat 0)) b.2).length:Int))::c
@[simp] abbrev YD (a:List (Nat × AV)):List (Nat × AV):=(1,.adr 0 0 0)::(2,.adr 1 0 0)::(3,.adr 2 0 0)::a
@[simp] abbrev YF (a:Int) (b:List (Nat × AV)):List (Nat × AV):=(0,.adr 2 0 0)::(1,.fn 77 [.adr 0 0 0])::(4,iV a)::b
@[simp] abbrev Y03 (a:Int) (b:List (Nat × AV)):List (Nat × AV):=(18,iV ((List.replicate a.toNat ([]:List Int)).length:Int))::b
@[simp] abbrev Y07 (a:Cat) (b c d:List Int) (e:Int) (f:List (Nat × Ent)):List (Nat × Ent):=(2,.mix 5 [(Y0C a b c d [.own 6 0 ((List.replicate e.toNat ([]:List Int)).length)])])::(3,rI b)::(4,rI c)::(5,rI d)::(6,.row 1 (Ls (List.replicate e.toNat ([]:List Int))))::f
@[simp] abbrev Y0g (a:Cat) (b:List (Nat × Ent)):List (Nat × Ent):=(0,.mix 1 [[.rptr (Cat.cells true a)]])::b
@[simp] abbrev Y0i (a:Cat) (b c d:List Int) (e:List (List Int) × Int) (f:Int) (g:List (Nat × Ent)):List (Nat × Ent):=(2,.mix 5 [(Y0C a b c d [.own 6 0 ((e.1.set e.2.toNat (List.replicate f.toNat 0)).length)])])::(3,rI b)::(4,rI c)::(5,rI d)::(6,.row 1 (Ls (e.1.set e.2.toNat (List.replicate f.toNat 0))))::g
theorem Q4R (c_:Cat) (r:Cat) (h:Q1T c_=some r):Contract Try.prog 61 [.rptr (c_.cells true)] (.agg (r.cells true)):=by
 refine Q8 (rvs:=[.cell 2 31]) (rs:=[.agg (r.cells true)]) Try.func61 rfl rfl rfl rfl (by simp [Try.f61]) fun F hN hP=>?_;unfold Q1T at h;refine Q0 (runQ hN fun K hK=>?_);simp;repeat refine sdQ ?_
 refine hK _ ?_;clear hK K;refine tn (Q4 (st':=⟨[(1,.adr 0 0 0),(2,.adr 1 0 0)],Yx c_ [],2⟩) (wkQ9 [(0,0),(1,1)]) (Q0 (runQ hN fun K hK=>?_)));simp;repeat with_reducible refine sdQ ?_
 replace ⟨v1,hv1,h⟩:=bind_some h;refine Q1 (Q39 _ v1 hv1) (.cons .lst .nil) ?_;simp;repeat with_reducible refine sdQ ?_
 replace ⟨v2,hv2,h⟩:=bind_some h;refine Q1 (Q39 _ v2 hv2) (.cons .lst .nil) ?_;simp;repeat with_reducible refine sdQ ?_
 replace ⟨v3,hv3,h⟩:=bind_some h;refine Q1 (Q39 _ v3 hv3) (.cons .lst .nil) ?_;simp;repeat refine sdQ ?_
 refine hK _ ?_;clear hK K;refine tn (Q4 (st':=⟨YD [],Yx c_ [(2,.mix 5 [(Y0C c_ v1 v2 v3 [nS])]),(3,rI v1),(4,rI v2),(5,rI v3)],6⟩) (wkQ9 [(0,0),(1,1),(5,2),(2,3),(3,4),(4,5)]) (Q0 (Q25 [] mo (by rw [hN];decide) fun K hK=>?_)));simp;repeat with_reducible refine sdQ ?_
 replace ⟨v66,hv66,h⟩:=bind_some h;refine Q1Y (fz:=[]) (Q1u (ts:=[]) (e:={ v:=.tup [],set:=[(2,.mix 5 [(Y0C c_ v1 v2 v3 [.own 6 0 v66.length])])],del:=[],new:=[(6,.row 1 (Ls v66))],cnt:=1 }) Try.func76 rfl rfl rfl (by simp [Try.f76]) (by simp) (Q4u (by simp)) (newI (by rfl)) fun F hN hP=>?_) ?_
 ·clear h;have h:=hv66;clear hv66;refine Q0 (Qg [] mo (by rw [hN];decide) fun K hK=>?_);simp;repeat with_reducible refine sdQ ?_
  replace ⟨v5,hv5,h⟩:=bind_some h;refine Qy (fz:=[]) (Q1R _ v5 hv5) (.cons (.field rfl (by simp [Cat.cells]) (.cons .val (.cons .w (.cons .w (.cons .w (.cons .nil .nil)))))) .nil) ?_;simp;repeat refine sdQ ?_
  refine hK _ ?_;clear hK K;refine tn (Q4 (st':=⟨YF v5 [],Yx c_ [(2,.mix 5 [(Y0C c_ v1 v2 v3 [nS])]),(3,rI v1),(4,rI v2),(5,rI v3)],6⟩) (Wk.rP _ [(0,0),(1,1),(2,2),(3,3),(4,4),(5,5)] hP (by rfl) (by simp [hhOk,back,Cat.cells,UA,U1,IA,I1,LA,L1,BA,B1,EA,E1,E2,eB,eI,eL])) (Q0 (Qg [11] mo (by rw [hN];decide) fun K hK=>?_)));replace ⟨a6,h⟩:=Q2 h;simp;repeat refine sdQ ?_
  refine hK _ ?_;clear hK K;refine tn (Q4 (st':=⟨YF v5 [],Yx c_ (Y07 c_ v1 v2 v3 v5 []),7⟩) (Wk.rP _ [(0,0),(1,1),(2,2),(3,3),(4,4),(5,5),(6,6)] hP (by rfl) (by simp [hhOk,back,Cat.cells,UA,U1,IA,I1,LA,L1,BA,B1,EA,E1,E2,eB,eI,eL])) (Q0 (Qg [] mo (by rw [hN];decide) fun K hK=>?_)));simp;repeat refine sdQ ?_
  refine hK _ (tn (Q4 (st':=⟨YF v5 (Y03 v5 [(19,iV 0)]),Yx c_ (Y07 c_ v1 v2 v3 v5 []),7⟩) (Wk.rP _ [(0,0),(1,1),(2,2),(3,3),(4,4),(5,5),(6,6)] hP (by rfl) (by simp [hhOk,back,Cat.cells,UA,U1,IA,I1,LA,L1,BA,B1,EA,E1,E2,eB,eI,eL])) (Q5 ?_)));clear hK K;replace ⟨e36,he36,h36⟩:=bind_some h;refine Qs he36 (fun s36:List (List Int) × Int=>⟨YF v5 (Y03 v5 [(19,iV s36.2)]),Y0g c_ (Ya c_ v1 v2 v3 s36 []),7⟩) (Wk.rP _ [(0,0),(1,1),(2,2),(3,3),(4,4),(5,5),(6,6)] hP (by rfl) (by simp [hhOk,back,Cat.cells,UA,U1,IA,I1,LA,L1,BA,B1,EA,E1,E2,eB,eI,eL])) ?_;intro k36 s36 c36 h hk36;refine Q0 (Qg [] mo (by rw [hN];decide) fun K hK=>?_);simp;repeat refine sdQ ?_
  refine hK _ ?_;clear hK K;refine tn (Q0 (Q6 rfl (fun g=>?_) fun g=>?_))
  ·have g37:s36.2<((List.replicate v5.toNat ([]:List Int)).length:Int):=gQ;clear g;replace h:=if_l g37 h;refine Q7 (tn (Q0 ?_));replace ⟨e38,h,h38⟩:=bind_some h;refine Qd (fun b38:List (List Int)=>⟨YF v5 (Y03 v5 [(19,iV s36.2)]),Yx c_ [(2,.mix 5 [(Y0C c_ v1 v2 v3 [.own 6 0 b38.length])]),(3,rI v1),(4,rI v2),(5,rI v3),(6,.row 1 (Ls b38))],7⟩) (fun b38=>b38=e38) ?_ ?_
   ·refine Q5 (Q0 (Qg [] mo (by rw [hN];decide) fun K hK=>?_));simp;(repeat refine sdQ ?_);refine hK _ ?_;clear hK K;refine tn (Q4 (st':=⟨YF v5 ((5,iV s36.2)::Y03 v5 [(19,iV s36.2)]),Y0g c_ (Ya c_ v1 v2 v3 s36 []),7⟩) (Wk.rP _ [(0,0),(1,1),(2,2),(3,3),(4,4),(5,5),(6,6)] hP (by rfl) (by simp [hhOk,back,Cat.cells,UA,U1,IA,I1,LA,L1,BA,B1,EA,E1,E2,eB,eI,eL])) (Q0 (Qg [] mo (by rw [hN];decide) fun K hK=>?_)));replace ⟨a39,h⟩:=Q2 h;replace ⟨a40,h⟩:=Q2 h;simp [at_L a40];(repeat with_reducible refine sdQ ?_);refine stoX_row (fz:=[]) [] tf_22 rfl (b:=.lst true 1 (Is (List.replicate v5.toNat 0))) (ds:=[7]) (es2:=Ls (s36.1.set s36.2.toNat (List.replicate v5.toNat 0))) rfl (by simp) (by first|(simp;done)|(simp;omega)|omega) (by simp) (by simp) (by simp) (by simp) Ls_st ?_;simp [at_L a40];(repeat refine sdQ ?_);refine hK _ ?_;clear hK K;refine tn (Q4 (st':=⟨YF v5 ((5,iV s36.2)::Y03 v5 [(19,iV s36.2)]),Yx c_ (Y0i c_ v1 v2 v3 s36 v5 []),7⟩) (Wk.rP _ [(0,0),(1,1),(2,2),(3,3),(4,4),(5,5),(6,6)] hP (by rfl) (by simp [hhOk,back,Cat.cells,UA,U1,IA,I1,LA,L1,BA,B1,EA,E1,E2,eB,eI,eL])) (Q0 (Qg [] mo (by rw [hN];decide) fun K hK=>?_)));replace ⟨a41,h⟩:=Q2 h;simp [at_L a41];(repeat refine sdQ ?_);refine hK _ (tn (Q4 (st':=⟨YF v5 ((5,iV s36.2)::Yz v5 s36 [(38,iV 0)]),Yx c_ (Y0i c_ v1 v2 v3 s36 v5 []),7⟩) (Wk.rP _ [(0,0),(1,1),(2,2),(3,3),(4,4),(5,5),(6,6)] hP (by rfl) (by simp [hhOk,back,Cat.cells,UA,U1,IA,I1,LA,L1,BA,B1,EA,E1,E2,eB,eI,eL])) (Q5 ?_)));clear hK K;replace ⟨e53,he53,h53⟩:=bind_some h
    refine Qs he53 (fun s53:List (List Int) × Int=>⟨YF v5 ((5,iV s36.2)::Yz v5 s36 [(38,iV s53.2)]),Y0g c_ (Ya c_ v1 v2 v3 s53 []),7⟩) (Wk.rP _ [(0,0),(1,1),(2,2),(3,3),(4,4),(5,5),(6,6)] hP (by rfl) (by simp [hhOk,back,Cat.cells,UA,U1,IA,I1,LA,L1,BA,B1,EA,E1,E2,eB,eI,eL])) ?_;intro k53 s53 c53 h hk53;refine Q0 (Qg [] mo (by rw [hN];decide) fun K hK=>?_);simp;(repeat refine sdQ ?_);refine hK _ ?_;clear hK K;refine tn (Q0 (Q6 rfl (fun g=>?_) fun g=>?_))
    ·have g54:s53.2<((rx (s36.1.set s36.2.toNat (List.replicate v5.toNat 0)) s36.2).length:Int):=gQ;clear g;replace h:=if_l g54 h;refine Q7 (tn (Q0 ?_));replace ⟨e55,h,h55⟩:=bind_some h;refine Qd (fun b55:List (List Int)=>⟨YF v5 ((5,iV s36.2)::Yz v5 s36 [(38,iV s53.2)]),Yx c_ [(2,.mix 5 [(Y0C c_ v1 v2 v3 [.own 6 0 b55.length])]),(3,rI v1),(4,rI v2),(5,rI v3),(6,.row 1 (Ls b55))],7⟩) (fun b55=>b55=e55) ?_ ?_
     ·refine Q5 (Q0 (Qg [] mo (by rw [hN];decide) fun K hK=>?_));simp;(repeat refine sdQ ?_);refine hK _ ?_;clear hK K;refine tn (Q4 (st':=⟨YF v5 ((5,iV s36.2)::(6,iV s53.2)::Yz v5 s36 [(38,iV s53.2)]),Y0g c_ (Ya c_ v1 v2 v3 s53 []),7⟩) (Wk.rP _ [(0,0),(1,1),(2,2),(3,3),(4,4),(5,5),(6,6)] hP (by rfl) (by simp [hhOk,back,Cat.cells,UA,U1,IA,I1,LA,L1,BA,B1,EA,E1,E2,eB,eI,eL])) (Q0 (Qg [] mo (by rw [hN];decide) fun K hK=>?_)));replace ⟨a56,h⟩:=Q2 h;replace ⟨a57,h⟩:=Q2 h;simp [at_L a56,at_I a57];(repeat refine sdQ ?_);refine hK _ ?_;clear hK K;refine tn (Q4 (st':=⟨YF v5 ((5,iV s36.2)::(6,iV s53.2)::Yz v5 s36 [(38,iV s53.2)]),Yx c_ [(2,.mix 5 [(Y0C c_ v1 v2 v3 [.own 6 0 ((s53.1.set s36.2.toNat ((rx s53.1 s36.2).set s53.2.toNat (-1))).length)])]),(3,rI v1),(4,rI v2),(5,rI v3),(6,.row 1 (Ls (s53.1.set s36.2.toNat ((rx s53.1 s36.2).set s53.2.toNat (-1)))))],7⟩) (Wk.rP _ [(0,0),(1,1),(2,2),(3,3),(4,4),(5,5),(6,6)] hP (by rfl) (by simp [hhOk,back,Cat.cells,UA,U1,IA,I1,LA,L1,BA,B1,EA,E1,E2,eB,eI,eL])) (Q0 (Qg [] mo (by rw [hN];decide) fun K hK=>?_)));replace ⟨a58,h⟩:=Q2 h;replace ⟨a59,h⟩:=Q2 h;simp [at_I a58,at_I a59];(repeat refine sdQ ?_);refine hK _ ?_;clear hK K;refine tn (Q6 rfl (fun g=>?_) fun g=>?_)
      ·have g60:(ix v2 s36.2)=(ix v1 s53.2):=gQ;clear g;replace h:=if_l g60 h;refine Qg [] mo (by rw [hN];decide) fun K hK=>?_;replace ⟨a61,h⟩:=Q2 h;simp [at_L a61];(repeat with_reducible refine sdQ ?_);replace ⟨v62,hv62,h⟩:=bind_some h;refine Qy (fz:=[]) (Q47 _ _ _ v62 hv62) (.cons .val (.cons .val (.cons (.field rfl (by simp [Cat.cells]) (.cons (.preT (by simp [Cat.cells])) .nil)) .nil))) ?_;replace ⟨a63,h⟩:=Q2 h;simp [at_L a61,at_I a63];(repeat refine sdQ ?_);refine hK _ (bn ?_);clear hK K;exact jn (b:=(s53.1.set s36.2.toNat ((rx s53.1 s36.2).set s53.2.toNat (-1))).set s36.2.toNat ((rx (s53.1.set s36.2.toNat ((rx s53.1 s36.2).set s53.2.toNat (-1))) s36.2).set s53.2.toNat v62)) (Option.some.inj h) (Wk.rP _ [(0,0),(1,1),(2,2),(3,3),(4,4),(5,5),(6,6)] hP (by rfl) (by simp [hhOk,back,Cat.cells,UA,U1,IA,I1,LA,L1,BA,B1,EA,E1,E2,eB,eI,eL]))
      have g60:¬ ((ix v2 s36.2)=(ix v1 s53.2)):=gQ;clear g;replace h:=if_r g60 h;refine Q7 (bn ?_);exact jn (b:=s53.1.set s36.2.toNat ((rx s53.1 s36.2).set s53.2.toNat (-1))) (Option.some.inj h) (Wk.rP _ [(0,0),(1,1),(2,2),(3,3),(4,4),(5,5),(6,6)] hP (by rfl) (by simp [hhOk,back,Cat.cells,UA,U1,IA,I1,LA,L1,BA,B1,EA,E1,E2,eB,eI,eL]))
     intro b55 hb55;have h:=h55;(try rw [← hb55] at h);clear h55;(try dsimp only at h);refine Qg [] mo (by rw [hN];decide) fun K hK=>?_;replace ⟨a64,h⟩:=Q2 h;simp [Qo a64];(repeat refine sdQ ?_);refine hK _ ?_;clear hK K;cases h;exact rn (s':=(b55,s53.2+1)) hk53 (Wk.rP _ [(0,0),(1,1),(2,2),(3,3),(4,4),(5,5),(6,6)] hP (by rfl) (by simp [hhOk,back,Cat.cells,UA,U1,IA,I1,LA,L1,BA,B1,EA,E1,E2,eB,eI,eL]))
    have g54:¬ (s53.2<((rx (s36.1.set s36.2.toNat (List.replicate v5.toNat 0)) s36.2).length:Int)):=gQ;clear g;replace h:=if_r g54 h;refine Qj (tx (lx (bh (bn ?_))));cases h;have q:_=e53:=hk53;have h:=h53;rw [← q] at h;clear q;(try dsimp only at h);exact jn (b:=s53.1) (Option.some.inj h) (Wk.rP _ [(0,0),(1,1),(2,2),(3,3),(4,4),(5,5),(6,6)] hP (by rfl) (by simp [hhOk,back,Cat.cells,UA,U1,IA,I1,LA,L1,BA,B1,EA,E1,E2,eB,eI,eL]))
   intro b38 hb38;have h:=h38;(try rw [← hb38] at h);clear h38;(try dsimp only at h);refine Qg [] mo (by rw [hN];decide) fun K hK=>?_;replace ⟨a65,h⟩:=Q2 h;simp [Qo a65];(repeat refine sdQ ?_);refine hK _ ?_;clear hK K;cases h;exact rn (s':=(b38,s36.2+1)) hk36 (Wk.rP _ [(0,0),(1,1),(2,2),(3,3),(4,4),(5,5),(6,6)] hP (by rfl) (by simp [hhOk,back,Cat.cells,UA,U1,IA,I1,LA,L1,BA,B1,EA,E1,E2,eB,eI,eL]))
  have g37:¬ (s36.2<((List.replicate v5.toNat ([]:List Int)).length:Int)):=gQ;clear g;replace h:=if_r g37 h;refine Qj (tx (lx (bh ?_)));cases h;have q:_=e36:=hk36;have h:=h36;rw [← q] at h;clear q;try dsimp only at h
  cases h;first|refine iw_r (st':=⟨[],Y0g c_ (Ya c_ v1 v2 v3 s36 []),7⟩) ?_ ?_|refine iw_n (st':=⟨[],Y0g c_ (Ya c_ v1 v2 v3 s36 []),7⟩) ?_ ?_
  ·exact Wk.rP _ [(0,0),(1,1),(2,2),(3,3),(4,4),(5,5),(6,6)] hP (by rfl) (by simp [hhOk,back,Cat.cells,UA,U1,IA,I1,LA,L1,BA,B1,EA,E1,E2,eB,eI,eL])
  exact ⟨by simp [Qt],by simp,by simp [Cat.cells]⟩
 simp;repeat refine sdQ ?_
 refine hK _ ?_;clear hK K;refine tn (Q4 (st':=⟨YL [],[(0,.mix 5 [(Y0I [])]),(1,.mix 5 [[iV c_.n,.own 2 0 v1.length,.own 3 0 v2.length,.own 4 0 v3.length,.own 5 0 v66.length]]),(2,rI v1),(3,rI v2),(4,rI v3),(5,.row 1 (Ls v66))],6⟩) (wkQ9 [(1,0),(2,1),(3,2),(4,3),(5,4),(6,5)]) (Q0 (runQ hN fun K hK=>?_)));simp;repeat refine sdQ ?_
 refine hK _ (tn (Q4 (st':=⟨[(2,.adr 0 0 0)],[(0,.mix 5 [[iV c_.n,.own 1 0 v1.length,.own 2 0 v2.length,.own 3 0 v3.length,.own 4 0 v66.length]]),(1,rI v1),(2,rI v2),(3,rI v3),(4,.row 1 (Ls v66))],5⟩) (wkQ9 [(0,0),(2,1),(3,2),(4,3),(5,4)]) (Qe ?_)));clear hK K;have hr:=Option.some.inj h;rw [← hr];refine ⟨_,(.cell tf_31 rfl rfl rfl (by simp) (by simp) .nil),?_⟩;refine ⟨(.agg rfl .nil),[iV c_.n,lI v1,lI v2,lI v3,.lst true 1 (Ls v66)],[1,2,3,4],by simp [Cat.cells,UA,U1,IA,I1,LA,L1,BA,B1,EA,E1,E2,eB,eI,eL],by simp,(UpL.refl _)⟩
attribute [local simp] unk unA unE unT unC flat eL eI Qm QK Q1r Cat.cells Fn.cells
noncomputable def QI (f_:Fn):Option Fn :=
 (Q1T f_.s).bind fun v1 =>
 (Q1T f_.t).bind fun v2 =>
 (Q1N v1 v2 f_.ob f_.ar).bind fun v3 =>
 some v3
theorem Q2p (f_:Fn) (r:Fn) (h:QI f_=some r):Contract Try.prog 47 [.rptr (f_.cells true)] (.agg (r.cells true)):=by
 refine Q8 (rvs:=[.cell 2 33]) (rs:=[.agg (r.cells true)]) Try.func47 rfl rfl rfl rfl (by simp [Try.f47]) fun F hN hP=>?_;unfold QI at h;refine Q0 (runQ hN fun K hK=>?_);simp;repeat refine sdQ ?_
 refine hK _ ?_;clear hK K;refine tn (Q4 (st':=⟨Yr f_ [(2,.adr 0 0 0)],YV [],1⟩) (wkQ9 [(0,0)]) (Q0 (runQ hN fun K hK=>?_)));simp;repeat with_reducible refine sdQ ?_
 replace ⟨v1,hv1,h⟩:=bind_some h;refine Q1 (Q4R _ v1 hv1) (.cons (.preT (by simp [Cat.cells,Fn.cells])) .nil) ?_;simp;repeat with_reducible refine sdQ ?_
 replace ⟨v2,hv2,h⟩:=bind_some h;refine Q1 (Q4R _ v2 hv2) (.cons (.preT (by simp [Cat.cells,Fn.cells])) .nil) ?_;simp;repeat refine sdQ ?_
 refine hK _ ?_;clear hK K;refine tn (Q4 (st':=⟨Yr f_ (YL [(4,.adr 6 0 0)]),YV [(1,.mix 5 [[iV v1.n,.own 2 0 v1.fr.length,.own 3 0 v1.to.length,.own 4 0 v1.id.length,.own 5 0 v1.cs.length]]),(2,rI v1.fr),(3,rI v1.to),(4,rI v1.id),(5,.row 1 (Ls v1.cs)),(6,.mix 5 [[iV v2.n,.own 7 0 v2.fr.length,.own 8 0 v2.to.length,.own 9 0 v2.id.length,.own 10 0 v2.cs.length]]),(7,rI v2.fr),(8,rI v2.to),(9,rI v2.id),(10,.row 1 (Ls v2.cs))],11⟩) (wkQ9 [(0,0),(11,1),(2,2),(3,3),(4,4),(5,5),(12,6),(7,7),(8,8),(9,9),(10,10)]) (Q0 (runQ hN fun K hK=>?_)));simp;repeat with_reducible refine sdQ ?_
 replace ⟨v3,hv3,h⟩:=bind_some h;refine Q1 (Q5A _ _ _ _ v3 hv3) (.cons (.field rfl (by simp [Cat.cells,Fn.cells]) (.cons .val (.cons .w (.cons .w (.cons .w (.cons .w .nil)))))) (.cons (.field rfl (by simp [Cat.cells,Fn.cells]) (.cons .val (.cons .w (.cons .w (.cons .w (.cons .w .nil)))))) (.cons .lst (.cons .lst .nil)))) ?_;simp;repeat refine sdQ ?_
 refine hK _ (tn (Q4 (st':=⟨[(2,.adr 0 0 0)],Y5 v3 [],11⟩) (wkQ9 [(0,0),(12,1),(13,2),(14,3),(15,4),(17,5),(18,6),(19,7),(20,8),(21,9),(22,10)]) (Qe ?_)));clear hK K;have hr:=Option.some.inj h;rw [← hr];refine ⟨_,(.cell Q5x rfl rfl rfl (by simp) (by simp) .nil),?_⟩;refine ⟨(.agg rfl .nil),[iV v3.s.n,lI v3.s.fr,lI v3.s.to,lI v3.s.id,.lst true 1 (Ls v3.s.cs),iV v3.t.n,lI v3.t.fr,lI v3.t.to,lI v3.t.id,.lst true 1 (Ls v3.t.cs),lI v3.ob,lI v3.ar],[1,2,3,4,5,6,7,8,9,10],by simp [Cat.cells,Fn.cells,UA,U1,IA,I1,LA,L1,BA,B1,EA,E1,E2,eB,eI,eL],by simp,(UpL.refl _)⟩
attribute [local simp] unk unA unE unT unC flat eL eI Qm QK Cat.cells
noncomputable def Q35 (c_:Cat):Option Cat :=
 (QJ c_.to).bind fun v1 =>
 (QJ c_.fr).bind fun v2 =>
 (QJ c_.id).bind fun v3 =>
 (Qx (σ:=List (List Int) × Int) (ε:=List (List Int)) (fun s20 =>
  if s20.2<(c_.fr.length:Int) then
   (Qx (σ:=List Int × Int) (ε:=List Int) (fun s28 =>
    if s28.2<(c_.fr.length:Int) then
     ass (0≤s28.2∧s28.2<(c_.cs.length:Int)) <|
     ass (0≤s20.2∧s20.2<((rx c_.cs s28.2).length:Int)) <|
     ass ((s28.1++[ix (rx c_.cs s28.2) s20.2]).length≤1073741824) <|
     ass (B64 (s28.2+1)) <|
     some (Ctl.next (s28.1++[ix (rx c_.cs s28.2) s20.2],s28.2+1))
    else
     some (Ctl.ret s28.1)) fuel ([],0)).bind fun b22 =>
   ass ((s20.1++[b22]).length≤1073741824) <|
   ass (B64 (s20.2+1)) <|
   some (Ctl.next (s20.1++[b22],s20.2+1))
  else
   some (Ctl.ret s20.1)) fuel ([],0)).bind fun b4 =>
 some (⟨c_.n,v1,v2,v3,b4⟩:Cat)
@[simp] abbrev YX (a:Cat) (b c d:List Int) (e:List (Nat × Ent)):List (Nat × Ent):=(1,.mix 5 [(Y0I [])])::(2,.mix 5 [(Y0C a b c d [.own 6 0 0])])::(3,rI b)::(4,rI c)::(5,rI d)::e
theorem Q7z (c_:Cat) (r:Cat) (h:Q35 c_=some r):Contract Try.prog 38 (Y0L c_ []) (.agg (r.cells true)):=by
 refine Q8 (rvs:=[.cell 2 31]) (rs:=[.agg (r.cells true)]) Try.func38 rfl rfl rfl rfl (by simp [Try.f38]) fun F hN hP=>?_;unfold Q35 at h;refine Q0 (runQ hN fun K hK=>?_);simp;repeat refine sdQ ?_
 refine hK _ ?_;clear hK K;refine tn (Q4 (st':=⟨[(1,.adr 0 0 0),(2,.adr 1 0 0)],Yq c_ [(1,.mix 5 [(Y0I [])])],2⟩) (wkQ9 [(0,0),(1,1)]) (Q0 (runQ hN fun K hK=>?_)));simp;repeat with_reducible refine sdQ ?_
 replace ⟨v1,hv1,h⟩:=bind_some h;refine Q1 (Q1U _ v1 hv1) (.cons .lst .nil) ?_;simp;repeat with_reducible refine sdQ ?_
 replace ⟨v2,hv2,h⟩:=bind_some h;refine Q1 (Q1U _ v2 hv2) (.cons .lst .nil) ?_;simp;repeat with_reducible refine sdQ ?_
 replace ⟨v3,hv3,h⟩:=bind_some h;refine Q1 (Q1U _ v3 hv3) (.cons .lst .nil) ?_;simp;repeat refine sdQ ?_
 refine hK _ ?_;clear hK K;refine tn (Q4 (st':=⟨YD [],Yq c_ (YX c_ v1 v2 v3 [(6,.mix 1 [])]),7⟩) (wkQ9 [(0,0),(1,1),(6,2),(2,3),(3,4),(4,5),(5,6)]) (Q0 (Q0 (runQ hN fun K hK=>?_))));simp;repeat refine sdQ ?_
 refine hK _ (tn (Q4 (st':=⟨YD [(4,iV 0)],Yq c_ (YX c_ v1 v2 v3 [(6,.mix 1 [])]),7⟩) (wkI9 7) ?_));clear hK K;replace ⟨e4,h,h4⟩:=bind_some h;refine Qd (fun b4:List (List Int)=>⟨YL [],[(0,.mix 5 [(Y0I [])]),(1,.mix 5 [[iV c_.n,.own 2 0 v1.length,.own 3 0 v2.length,.own 4 0 v3.length,.own 5 0 b4.length]]),(2,rI v1),(3,rI v2),(4,rI v3),(5,.row 1 (Ls b4))],6⟩) (fun b4=>b4=e4) ?_ ?_
 ·refine Q5 (Qs h (fun s20:List (List Int) × Int=>⟨YD [(4,iV s20.2)],Yq c_ (Ya c_ v1 v2 v3 s20 []),7⟩) (Q3a ⟨YD [(4,iV 0)],Yq c_ (YX c_ v1 v2 v3 [(6,.row 1 (Ls []))]),7⟩ (Wk.nils [] (by simp) (by simp) (by simp [nlA]) (by simp [entN,nlL,nlA,Cat.cells,UA,U1,IA,I1,LA,L1,BA,B1,EA,E1,E2,eB,eI,eL]) (by simp)) (wkI9 7)) ?_);clear h;intro k20 s20 c20 h hk20;refine Q0 (Q0 (runQ hN fun K hK=>?_));simp;repeat refine sdQ ?_
  refine hK _ ?_;clear hK K;refine tn (Q6 rfl (fun g=>?_) fun g=>?_)
  ·have g21:s20.2<(c_.fr.length:Int):=gQ;clear g;replace h:=if_l g21 h;refine Q7 (tn (Q0 (Q5 (Q0 (runQ hN fun K hK=>?_)))));simp;(repeat refine sdQ ?_);refine hK _ ?_;clear hK K;refine tn (Q4 (st':=⟨YD [(4,iV s20.2),(5,.own 7 0 0)],Yq c_ (Ya c_ v1 v2 v3 s20 [(7,.mix 1 [])]),8⟩) (wkI9 8) (Q0 (Q0 (runQ hN fun K hK=>?_))));simp;(repeat refine sdQ ?_);refine hK _ (tn (Q4 (st':=⟨YD [(4,iV s20.2),(5,.own 7 0 0),(6,iV 0)],Yq c_ (Ya c_ v1 v2 v3 s20 [(7,.mix 1 [])]),8⟩) (wkI9 8) ?_));clear hK K;replace ⟨e22,h,h22⟩:=bind_some h;refine Qd (fun b22:List Int=>⟨YD [(4,iV s20.2),(5,.own 7 0 b22.length)],Yq c_ (Ya c_ v1 v2 v3 s20 [(7,rI b22)]),8⟩) (fun b22=>b22=e22) ?_ ?_
   ·refine Q5 (Qs h (fun s28:List Int × Int=>⟨YD [(4,iV s20.2),(5,.own 7 0 s28.1.length),(6,iV s28.2)],Yq c_ (Ya c_ v1 v2 v3 s20 [(7,rI s28.1)]),8⟩) (Q3a ⟨YD [(4,iV s20.2),(5,.own 7 0 0),(6,iV 0)],Yq c_ (Ya c_ v1 v2 v3 s20 [(7,rI [])]),8⟩ (Wk.nils [] (by simp) (by simp) (by simp [nlA]) (by simp [entN,nlL,nlA,Cat.cells,UA,U1,IA,I1,LA,L1,BA,B1,EA,E1,E2,eB,eI,eL]) (by simp)) (wkI9 8)) ?_);clear h;intro k28 s28 c28 h hk28;refine Q0 (Q0 (runQ hN fun K hK=>?_));simp;(repeat refine sdQ ?_);refine hK _ ?_;clear hK K;refine tn (Q6 rfl (fun g=>?_) fun g=>?_)
    ·have g29:s28.2<(c_.fr.length:Int):=gQ;clear g;replace h:=if_l g29 h;refine Q7 (tn (Q0 (Q5 (runQ hN fun K hK=>?_))));replace ⟨a30,h⟩:=Q2 h;replace ⟨a31,h⟩:=Q2 h;replace ⟨a32,h⟩:=Q2 h;(try simp only [List.length_append,List.length_cons,List.length_nil] at a32);simp [at_L a30,at_I a31,a32];(repeat refine sdQ ?_);refine hK _ ?_;clear hK K;refine bn (tn (Q4 (st':=⟨YD [(4,iV s20.2),(5,.own 7 0 ((s28.1++[ix (rx c_.cs s28.2) s20.2]).length)),(6,iV s28.2)],Yq c_ (Ya c_ v1 v2 v3 s20 [(7,rI (s28.1++[ix (rx c_.cs s28.2) s20.2]))]),8⟩) (wkQ9 [(0,0),(1,1),(2,2),(3,3),(4,4),(5,5),(6,6),(9,7)]) (runQ hN fun K hK=>?_)));replace ⟨a33,h⟩:=Q2 h;simp [Qo a33];(repeat refine sdQ ?_);refine hK _ ?_;clear hK K;cases h;exact rn (s':=(s28.1++[ix (rx c_.cs s28.2) s20.2],s28.2+1)) hk28 (wkI9 8)
    have g29:¬ (s28.2<(c_.fr.length:Int)):=gQ;clear g;replace h:=if_r g29 h;refine Qj (tx (lx (bh ?_)));cases h;exact jn (b:=s28.1) hk28 (wkI9 8)
   intro b22 hb22;have h:=h22;(try rw [← hb22] at h);clear h22;(try dsimp only at h);refine runQ hN fun K hK=>?_;replace ⟨a34,h⟩:=Q2 h;(try simp only [List.length_append,List.length_cons,List.length_nil] at a34);simp [a34];(repeat refine sdQ ?_);refine hK _ ?_;clear hK K;refine bn (tn (Q4 (st':=⟨YD [(4,iV s20.2)],Yq c_ [(1,.mix 5 [(Y0I [])]),(2,.mix 5 [(Y0C c_ v1 v2 v3 [.own 6 0 ((s20.1++[b22]).length)])]),(3,rI v1),(4,rI v2),(5,rI v3),(6,.row 1 (Ls (s20.1++[b22])))],7⟩) (wkQ9 [(0,0),(1,1),(2,2),(3,3),(4,4),(5,5),(9,6)]) (runQ hN fun K hK=>?_)));replace ⟨a35,h⟩:=Q2 h;simp [Qo a35];(repeat refine sdQ ?_);refine hK _ ?_;clear hK K;cases h;exact rn (s':=(s20.1++[b22],s20.2+1)) hk20 (wkI9 7)
  have g21:¬ (s20.2<(c_.fr.length:Int)):=gQ;clear g;replace h:=if_r g21 h;refine Qj (tx (lx (bh ?_)));cases h;exact jn (b:=s20.1) hk20 (wkQ9 [(1,0),(2,1),(3,2),(4,3),(5,4),(6,5)])
 intro b4 hb4;have h:=h4;try rw [← hb4] at h
 clear h4;try dsimp only at h
 refine Q0 (runQ hN fun K hK=>?_);simp;repeat refine sdQ ?_
 refine hK _ (tn (Q4 (st':=⟨[(2,.adr 0 0 0)],[(0,.mix 5 [[iV c_.n,.own 1 0 v1.length,.own 2 0 v2.length,.own 3 0 v3.length,.own 4 0 b4.length]]),(1,rI v1),(2,rI v2),(3,rI v3),(4,.row 1 (Ls b4))],5⟩) (wkQ9 [(0,0),(2,1),(3,2),(4,3),(5,4)]) (Qe ?_)));clear hK K;have hr:=Option.some.inj h;rw [← hr];refine ⟨_,(.cell tf_31 rfl rfl rfl (by simp) (by simp) .nil),?_⟩;refine ⟨(.agg rfl .nil),[iV c_.n,lI v1,lI v2,lI v3,.lst true 1 (Ls b4)],[1,2,3,4],by simp [Cat.cells,UA,U1,IA,I1,LA,L1,BA,B1,EA,E1,E2,eB,eI,eL],by simp,(UpL.refl _)⟩
attribute [local simp] unk unA unE unT unC flat eL eI Qm QK Q1r Cat.cells Fn.cells
noncomputable def Q2I (f_:Fn):Option Fn :=
 (Q35 f_.s).bind fun v1 =>
 (Q35 f_.t).bind fun v2 =>
 (Q1y v1 v2 f_.ob f_.ar).bind fun v3 =>
 some v3
theorem Q5D (f_:Fn) (r:Fn) (h:Q2I f_=some r):Contract Try.prog 22 [.agg (f_.cells true)] (.agg (r.cells true)):=by
 refine Q8 (rvs:=[.cell 2 33]) (rs:=[.agg (r.cells true)]) Try.func22 rfl rfl rfl rfl (by simp [Try.f22]) fun F hN hP=>?_;unfold Q2I at h;refine Q0 (runQ hN fun K hK=>?_);simp;repeat refine sdQ ?_
 refine hK _ ?_;clear hK K;refine tn (Q4 (st':=⟨[(1,.adr 0 0 0),(2,.adr 1 0 0)],[(0,.mix 12 [(Fn.cells true f_)]),(1,.mix 12 [(Y0I (Y0I [nS,nS]))])],2⟩) (wkQ9 [(0,0),(1,1)]) (Q0 (runQ hN fun K hK=>?_)));simp;repeat with_reducible refine sdQ ?_
 replace ⟨v1,hv1,h⟩:=bind_some h;refine Q1 (Q7z _ v1 hv1) (.cons (.aggL (.cons .val (.cons .lst (.cons .lst (.cons .lst (.cons .lst .nil)))))) .nil) ?_;simp;repeat with_reducible refine sdQ ?_
 replace ⟨v2,hv2,h⟩:=bind_some h;refine Q1 (Q7z _ v2 hv2) (.cons (.aggL (.cons .val (.cons .lst (.cons .lst (.cons .lst (.cons .lst .nil)))))) .nil) ?_;simp;repeat with_reducible refine sdQ ?_
 replace ⟨v3,hv3,h⟩:=bind_some h;refine Q1 (Q4a _ _ _ _ v3 hv3) (.cons (.aggL (.cons .val (.cons .w (.cons .w (.cons .w (.cons .w .nil)))))) (.cons (.aggL (.cons .val (.cons .w (.cons .w (.cons .w (.cons .w .nil)))))) (.cons .lst (.cons .lst .nil)))) ?_;simp;repeat refine sdQ ?_
 refine hK _ (tn (Q4 (st':=⟨[(2,.adr 0 0 0)],Y5 v3 [],11⟩) (wkQ9 [(1,0),(13,1),(14,2),(15,3),(16,4),(18,5),(19,6),(20,7),(21,8),(22,9),(23,10)]) (Qe ?_)));clear hK K;have hr:=Option.some.inj h;rw [← hr];refine ⟨_,(.cell Q5x rfl rfl rfl (by simp) (by simp) .nil),?_⟩;refine ⟨(.agg rfl .nil),[iV v3.s.n,lI v3.s.fr,lI v3.s.to,lI v3.s.id,.lst true 1 (Ls v3.s.cs),iV v3.t.n,lI v3.t.fr,lI v3.t.to,lI v3.t.id,.lst true 1 (Ls v3.t.cs),lI v3.ob,lI v3.ar],[1,2,3,4,5,6,7,8,9,10],by simp [Cat.cells,Fn.cells,UA,U1,IA,I1,LA,L1,BA,B1,EA,E1,E2,eB,eI,eL],by simp,(UpL.refl _)⟩
section
attribute [local simp] Qf QG Qu Q15 QD
def mixr {α:Type} (m g:Nat) (v:Nat→α) (z:α):List α:=tab m fun j=>if j<g then v j else z
@[simp] theorem mixr_length {α:Type} (m g:Nat) (v:Nat→α) (z:α):(mixr m g v z).length=m:=by simp [mixr]
theorem Q6y {α:Type} {m g:Nat} {v:Nat→α} {z:α}:(mixr m g v z).set g (v g)=mixr m (g+1) v z:=by
 refine List.ext_getElem (by simp) fun j h1 h2=>?_;simp only [mixr,tab,List.getElem_set,List.getElem_map,List.getElem_range]
 by_cases h:g=j
 ·subst h;simp
 have:(j<g)=(j<g+1):=propext ⟨fun _=>by omega,fun _=>by omega⟩;simp [h,this]
theorem Q7i {α:Type} (m:Nat) (v:Nat→α) (z:α):mixr m 0 v z=List.replicate m z:=by
 refine List.ext_getElem (by simp) fun j h1 h2=>?_;simp [mixr,tab]
theorem Q8I {α:Type} (m:Nat) (v:Nat→α) (z:α):mixr m m v z=tab m v:=by
 refine List.ext_getElem (by simp) fun j h1 h2=>?_;have:j<m:=by simpa using h1
 simp [mixr,tab,this]
theorem rx_set {xs:List (List Int)} {i:Nat} (h:i<xs.length) (r:List Int):rx (xs.set i r) (i:Int)=r:=by
 simp [rx,List.getD_eq_getElem?_getD,h]
def opC (c:Cat):Cat:=⟨c.n,c.to,c.fr,c.id,tab c.fr.length fun f=>tab c.fr.length fun g=>ix (rx c.cs g) f⟩
def opF (f:Fn):Fn:=⟨opC f.s,opC f.t,f.ob,f.ar⟩
theorem e_l03Op {c:Cat} (h:c.Sh):Q35 c=some (opC c):=by
 have h1:=h.lt;have h2:=h.m40;have h3:=h.lc;have h4:=h.li;have h5:=h.n8;unfold Q35 QJ;rw [Q3 (by omega),Q3 (by omega),Q3 (by omega)];simp only [Option.bind_some];refine Q1p c.fr.length (fun i=>tab i fun f=>tab c.fr.length fun g=>ix (rx c.cs g) f) (e:=tab c.fr.length fun f=>tab c.fr.length fun g=>ix (rx c.cs g) f) rfl (by omega) (fun i hi=>?_) (by simp) rfl;rw [if_pos (by simp only;omega)];refine Q1p c.fr.length (fun k=>tab k fun g=>ix (rx c.cs g) i) (e:=tab c.fr.length fun g=>ix (rx c.cs g) i) rfl (by omega) (fun k hk=>?_) (by simp) ?_
 ·have h6:=(h.rows k hk).1;simp (disch:=omega) [Q3,B64,Q6G];try omega
 simp (disch:=omega) [Q3,B64,Q6G];try omega
theorem op_cell {c:Cat} (h:c.Sh) {f g:Nat} (hf:f<c.fr.length) (hg:g<c.fr.length):(if ix c.fr f=ix c.to g then ix (rx c.cs g) f else -1)=ix (rx c.cs g) f:=by
 have q:=h.cell' (f:=g) (g:=f) (by omega) (by omega) (by omega) (by omega)
 by_cases e:ix c.to g=ix c.fr f
 ·rw [if_pos e.symm]
 rw [if_neg (fun x=>e x.symm),q.1 e]
theorem Q5T {c:Cat} (h:c.Sh):Q1T c=some (opC c):=by
 have h1:=h.lt;have h2:=h.m40;have h3:=h.lc;have h4:=h.li;have h5:=h.n8;unfold Q1T Q1l Qv;rw [Q3 (by omega),Q3 (by omega),Q3 (by omega)];simp only [Option.bind_some,h1,Int.toNat_natCast];rw [Q3 (by omega),Option.bind_assoc];refine Q1p c.fr.length (fun i=>mixr c.fr.length i (fun f=>tab c.fr.length fun g=>ix (rx c.cs g) f) []) (e:=tab c.fr.length fun f=>tab c.fr.length fun g=>ix (rx c.cs g) f) (Q7i _ _ _).symm (by omega) (fun i hi=>?_) (by simp [Q8I]) rfl;simp only;rw [if_pos (by simp;omega),Q3 (by omega),Q3 (by simp;omega),Q3 (by simp;omega),Option.bind_assoc];simp only [Int.toNat_natCast];rw [rx_set (by simp;omega)];refine Q1p c.fr.length (fun k=>(mixr c.fr.length i (fun f=>tab c.fr.length fun g=>ix (rx c.cs g) f) []).set i (mixr c.fr.length k (fun g=>ix (rx c.cs g) i) 0)) (e:=(mixr c.fr.length i (fun f=>tab c.fr.length fun g=>ix (rx c.cs g) f) []).set i (tab c.fr.length fun g=>ix (rx c.cs g) i)) (by simp [Q7i]) (by omega) (fun k hk=>?_) (by simp [Q8I]) ?_
 ·have h6:=(h.rows k hk).1;have h7:=op_cell h hi hk;have hl:i<(mixr c.fr.length i (fun f=>tab c.fr.length fun g=>ix (rx c.cs g) f) []).length:=by simpa using hi
  simp only;rw [if_pos (by simp;omega)];simp only [Int.toNat_natCast,rx_set hl,List.set_set];rw [Q3 (by simp;omega),Q3 (by simp;omega),Q3 (by omega),Q3 (by omega)]
  by_cases e:ix c.fr i=ix c.to k
  ·rw [if_pos e] at h7;rw [if_pos e,Q3 (by simp;omega)];unfold Q1f Qp;rw [Q3 (by omega),Q3 (by omega),Q3 (by omega),Q3 (by omega)];simp only [Option.bind_some];rw [Q3 (by simp;omega)];simp only [Option.bind_some];rw [Q3 (by unfold B64;omega),← Q6y]
  rw [if_neg e] at h7;rw [if_neg e];simp only [Option.bind_some];rw [Q3 (by unfold B64;omega),← Q6y,← h7]
 simp only [Option.bind_some];rw [Q3 (by unfold B64;omega),← Q6y]
theorem opC_ok {c:Cat} (h:c.Sh):(opC c).ok∧(opC c).size≤2000:=by
 have h1:=h.lt;have h2:=h.m40;have h3:=h.lc;have h4:=h.li;have h5:=h.n8;have hr:∀ xs∈(opC c).cs,xs.length≤40:=by
  intro xs hx;obtain ⟨i,hi,rfl⟩:=List.mem_map.1 hx;simpa using h2
 have h7:=sumL_b hr;have h8:(opC c).cs.length=c.fr.length:=by simp [opC]
 have h9:(opC c).cs.length * 40≤40 * 40:=Nat.mul_le_mul_right _ (by omega);have e1:(opC c).fr=c.to:=rfl;have e2:(opC c).to=c.fr:=rfl;have e3:(opC c).id=c.id:=rfl;refine ⟨⟨by rw [e1];omega,by rw [e2];omega,by rw [e3];omega,by omega,fun xs hx=>by have:=hr xs hx;omega,by omega⟩,?_⟩;simp only [Cat.size,e1,e2,e3];omega
theorem Q5b {f:Fn} (h:f.Is):Q2I f=some (opF f)∧QI f=some (opF f):=by
 have h1:=h.lob;have h2:=h.lar;have h3:=opC_ok h.s.1;have h4:=opC_ok h.t.1;constructor
 ·unfold Q2I Q1y Q2w QJ;rw [e_l03Op h.s.1,e_l03Op h.t.1];simp only [Option.bind_some,Q3 h3.1,Q3 h4.1];rw [Q3 (by omega),Q3 (by omega)];rfl
 unfold QI Q1N QT Q1l;rw [Q5T h.s.1,Q5T h.t.1];simp only [Option.bind_some,Q3 h3.1,Q3 h4.1];rw [Q3 (by omega),Q3 (by omega)];rfl
end
section
attribute [local simp] Qf QG Qu Q15 QD
theorem Cat.Is.Ai {c:Cat} (h:c.Is) {x:Int} (hx:0≤x∧x<c.n):Ar c (ix c.id x) x x:=by
 have h1:=h.1.li;obtain ⟨i,rfl⟩:=Int.eq_ofNat_of_zero_le hx.1;have h2:=h.1.ids i (by omega);exact ⟨h.1.id' (by omega) (by omega),h2.1,h2.2⟩
theorem Cat.Is.Af {c:Cat} (h:c.Is) {f:Int} (hf:0≤f∧f<(c.fr.length:Int)):Ar c f (ix c.fr f) (ix c.to f)∧(0≤ix c.fr f∧ix c.fr f<c.n)∧(0≤ix c.to f∧ix c.to f<c.n):=by
 have h1:=h.1.li;have h2:=h.1.fr' hf.1 hf.2;have h3:=h.1.to' hf.1 (by have:=h.1.lt;omega);exact ⟨⟨hf,rfl,rfl⟩,by omega,by omega⟩
end
section
attribute [local simp] Qf QG Qu Q15 QD
theorem Cat.Is.assoc {c:Cat} (hc:c.Is) {f g h w x y z:Int} (a:Ar c f w x) (b:Ar c g x y) (d:Ar c h y z):ix (rx c.cs (ix (rx c.cs f) g)) h=ix (rx c.cs f) (ix (rx c.cs g) h):=by
 obtain ⟨i,rfl⟩:=Int.eq_ofNat_of_zero_le a.1.1;obtain ⟨j,rfl⟩:=Int.eq_ofNat_of_zero_le b.1.1;obtain ⟨k,rfl⟩:=Int.eq_ofNat_of_zero_le d.1.1;have:=hc.2.2 i (by have:=a.1;omega) j (by have:=b.1;omega) k (by have:=d.1;omega);exact this (by rw [a.2.2,b.2.1]) (by rw [b.2.2,d.2.1])
theorem Cat.Is.idl {c:Cat} (hc:c.Is) {f x y:Int} (a:Ar c f x y):ix (rx c.cs (ix c.id x)) f=f∧ix (rx c.cs f) (ix c.id y)=f:=by
 obtain ⟨i,rfl⟩:=Int.eq_ofNat_of_zero_le a.1.1;have:=hc.2.1 i (by have:=a.1;omega);unfold Cat.un at this;rw [a.2.1,a.2.2] at this;exact this
end
attribute [local simp] unk unA unE unT unC flat eL eI Qm QK Q1r Cat.cells Fn.cells
noncomputable def Q1x (c_:Cat) (d_:Cat) (y_:Int):Option Fn :=
 (Qx (σ:=List Int × Int) (ε:=List Int) (fun s5 =>
  if s5.2<c_.n then
   ass ((s5.1++[y_]).length≤1073741824) <|
   ass (B64 (s5.2+1)) <|
   some (Ctl.next (s5.1++[y_],s5.2+1))
  else
   some (Ctl.ret s5.1)) fuel ([],0)).bind fun b1 =>
 (Qx (σ:=List Int × Int) (ε:=List Int) (fun s14 =>
  if s14.2<(c_.fr.length:Int) then
   ass (0≤y_∧y_<(d_.id.length:Int)) <|
   ass ((s14.1++[ix d_.id y_]).length≤1073741824) <|
   ass (B64 (s14.2+1)) <|
   some (Ctl.next (s14.1++[ix d_.id y_],s14.2+1))
  else
   some (Ctl.ret s14.1)) fuel ([],0)).bind fun b9 =>
 (Q1y c_ d_ b1 b9).bind fun v19 =>
 some v19
@[simp] abbrev YC (a:Int) (b:List (Nat × AV)):List (Nat × AV):=(2,iV a)::(3,.adr 0 0 0)::(4,.adr 1 0 0)::(6,.adr 2 0 0)::b
theorem Q5C (c_:Cat) (d_:Cat) (y_:Int) (r:Fn) (h:Q1x c_ d_ y_=some r):Contract Try.prog 71 (Y0L c_ (Y0L d_ [iV y_])) (.agg (r.cells true)):=by
 refine Q8 (rvs:=[.cell 6 33]) (rs:=[.agg (r.cells true)]) Try.func71 rfl rfl rfl rfl (by simp [Try.f71]) fun F hN hP=>?_;unfold Q1x at h;refine Q0 (runQ hN fun K hK=>?_);simp;repeat refine sdQ ?_
 refine hK _ ?_;clear hK K;refine tn (Q4 (st':=⟨YC y_ [],Yg c_ d_ [],3⟩) (wkI9 3) (Q0 (runQ hN fun K hK=>?_)));simp;repeat refine sdQ ?_
 refine hK _ ?_;clear hK K;refine tn (Q4 (st':=⟨YC y_ [(7,.own 3 0 0),(8,.own 4 0 0)],Yg c_ d_ [(3,.mix 1 []),(4,.mix 1 [])],5⟩) (wkI9 5) (Q0 (Q0 (runQ hN fun K hK=>?_))));simp;repeat refine sdQ ?_
 refine hK _ (tn (Q4 (st':=⟨YC y_ [(7,.own 3 0 0),(8,.own 4 0 0),(9,iV 0)],Yg c_ d_ [(3,.mix 1 []),(4,.mix 1 [])],5⟩) (wkI9 5) ?_));clear hK K;replace ⟨e1,h,h1⟩:=bind_some h;refine Qd (fun b1:List Int=>⟨YC y_ [(7,.own 3 0 b1.length),(8,.own 4 0 0)],Yg c_ d_ [(3,rI b1),(4,.mix 1 [])],5⟩) (fun b1=>b1=e1) ?_ ?_
 ·refine Q5 (Qs h (fun s5:List Int × Int=>⟨YC y_ [(7,.own 3 0 s5.1.length),(8,.own 4 0 0),(9,iV s5.2)],Yg c_ d_ [(3,rI s5.1),(4,.mix 1 [])],5⟩) (Q3a ⟨YC y_ [(7,.own 3 0 0),(8,.own 4 0 0),(9,iV 0)],Yg c_ d_ [(3,rI []),(4,.mix 1 [])],5⟩ (Wk.nils [] (by simp) (by simp) (by simp [nlA]) (by simp [entN,nlL,nlA,Cat.cells,Fn.cells,UA,U1,IA,I1,LA,L1,BA,B1,EA,E1,E2,eB,eI,eL]) (by simp)) (wkI9 5)) ?_);clear h;intro k5 s5 c5 h hk5;refine Q0 (Q0 (runQ hN fun K hK=>?_));simp;repeat refine sdQ ?_
  refine hK _ ?_;clear hK K;refine tn (Q6 rfl (fun g=>?_) fun g=>?_)
  ·have g6:s5.2<c_.n:=gQ;clear g;replace h:=if_l g6 h;refine Q7 (tn (Q0 (Q5 (runQ hN fun K hK=>?_))));replace ⟨a7,h⟩:=Q2 h;(try simp only [List.length_append,List.length_cons,List.length_nil] at a7);simp [a7];(repeat refine sdQ ?_);refine hK _ ?_;clear hK K;refine bn (tn (Q4 (st':=⟨YC y_ [(7,.own 3 0 ((s5.1++[y_]).length)),(8,.own 4 0 0),(9,iV s5.2)],Yg c_ d_ [(3,rI (s5.1++[y_])),(4,.mix 1 [])],5⟩) (wkQ9 [(0,0),(1,1),(2,2),(6,3),(4,4)]) (runQ hN fun K hK=>?_)));replace ⟨a8,h⟩:=Q2 h;simp [Qo a8];(repeat refine sdQ ?_);refine hK _ ?_;clear hK K;cases h;exact rn (s':=(s5.1++[y_],s5.2+1)) hk5 (wkI9 5)
  have g6:¬ (s5.2<c_.n):=gQ;clear g;replace h:=if_r g6 h;refine Qj (tx (lx (bh ?_)));cases h;exact jn (b:=s5.1) hk5 (wkI9 5)
 intro b1 hb1;have h:=h1;try rw [← hb1] at h
 clear h1;try dsimp only at h
 refine Q0 (Q0 (runQ hN fun K hK=>?_));simp;repeat refine sdQ ?_
 refine hK _ (tn (Q4 (st':=⟨YC y_ [(7,.own 3 0 b1.length),(8,.own 4 0 0),(10,iV 0)],Yg c_ d_ [(3,rI b1),(4,.mix 1 [])],5⟩) (wkI9 5) ?_));clear hK K;replace ⟨e9,h,h9⟩:=bind_some h;refine Qd (fun b9:List Int=>⟨[(3,.adr 0 0 0),(4,.adr 1 0 0),(6,.adr 2 0 0),(7,.own 3 0 b1.length),(8,.own 4 0 b9.length)],Yg c_ d_ [(3,rI b1),(4,rI b9)],5⟩) (fun b9=>b9=e9) ?_ ?_
 ·refine Q5 (Qs h (fun s14:List Int × Int=>⟨YC y_ [(7,.own 3 0 b1.length),(8,.own 4 0 s14.1.length),(10,iV s14.2)],Yg c_ d_ [(3,rI b1),(4,rI s14.1)],5⟩) (Q3a ⟨YC y_ [(7,.own 3 0 b1.length),(8,.own 4 0 0),(10,iV 0)],Yg c_ d_ [(3,rI b1),(4,rI [])],5⟩ (Wk.nils [] (by simp) (by simp) (by simp [nlA]) (by simp [entN,nlL,nlA,Cat.cells,Fn.cells,UA,U1,IA,I1,LA,L1,BA,B1,EA,E1,E2,eB,eI,eL]) (by simp)) (wkI9 5)) ?_);clear h;intro k14 s14 c14 h hk14;refine Q0 (Q0 (runQ hN fun K hK=>?_));simp;repeat refine sdQ ?_
  refine hK _ ?_;clear hK K;refine tn (Q6 rfl (fun g=>?_) fun g=>?_)
  ·have g15:s14.2<(c_.fr.length:Int):=gQ;clear g;replace h:=if_l g15 h;refine Q7 (tn (Q0 (Q5 (runQ hN fun K hK=>?_))));replace ⟨a16,h⟩:=Q2 h;replace ⟨a17,h⟩:=Q2 h;(try simp only [List.length_append,List.length_cons,List.length_nil] at a17);simp [at_I a16,a17];(repeat refine sdQ ?_);refine hK _ ?_;clear hK K;refine bn (tn (Q4 (st':=⟨YC y_ [(7,.own 3 0 b1.length),(8,.own 4 0 ((s14.1++[ix d_.id y_]).length)),(10,iV s14.2)],Yg c_ d_ [(3,rI b1),(4,rI (s14.1++[ix d_.id y_]))],5⟩) (wkQ9 [(0,0),(1,1),(2,2),(3,3),(6,4)]) (runQ hN fun K hK=>?_)));replace ⟨a18,h⟩:=Q2 h;simp [Qo a18];(repeat refine sdQ ?_);refine hK _ ?_;clear hK K;cases h;exact rn (s':=(s14.1++[ix d_.id y_],s14.2+1)) hk14 (wkI9 5)
  have g15:¬ (s14.2<(c_.fr.length:Int)):=gQ;clear g;replace h:=if_r g15 h;refine Qj (tx (lx (bh ?_)));cases h;exact jn (b:=s14.1) hk14 (wkI9 5)
 intro b9 hb9;have h:=h9;try rw [← hb9] at h
 clear h9;try dsimp only at h
 refine Q0 (runQ hN fun K hK=>?_);simp;repeat with_reducible refine sdQ ?_
 replace ⟨v19,hv19,h⟩:=bind_some h;refine Q1 (Q4a _ _ _ _ v19 hv19) (.cons (.aggL (.cons .val (.cons .lst (.cons .lst (.cons .lst (.cons .lst .nil)))))) (.cons (.aggL (.cons .val (.cons .lst (.cons .lst (.cons .lst (.cons .lst .nil)))))) (.cons .w (.cons .w .nil)))) ?_;simp;repeat refine sdQ ?_
 refine hK _ (tn (Q4 (st':=⟨[(6,.adr 0 0 0)],Y5 v19 [],11⟩) (wkQ9 [(2,0),(6,1),(7,2),(8,3),(9,4),(11,5),(12,6),(13,7),(14,8),(15,9),(16,10)]) (Qe ?_)));clear hK K;have hr:=Option.some.inj h;rw [← hr];refine ⟨_,(.cell Q5x rfl rfl rfl (by simp) (by simp) .nil),?_⟩;refine ⟨(.agg rfl .nil),[iV v19.s.n,lI v19.s.fr,lI v19.s.to,lI v19.s.id,.lst true 1 (Ls v19.s.cs),iV v19.t.n,lI v19.t.fr,lI v19.t.to,lI v19.t.id,.lst true 1 (Ls v19.t.cs),lI v19.ob,lI v19.ar],[1,2,3,4,5,6,7,8,9,10],by simp [Cat.cells,Fn.cells,UA,U1,IA,I1,LA,L1,BA,B1,EA,E1,E2,eB,eI,eL],by simp,(UpL.refl _)⟩
attribute [local simp] unk unA unE unT unC flat eL eI Qm QK Q1r Qk Cat.cells Fn.cells XL07State.cells
noncomputable def Q1o (s_:XL07State) (components_:List Int) (x_:Int):Option (List Int) :=
 ass (0≤x_∧x_<(s_.f_.ob.length:Int)) <|
 ass (0≤x_∧x_<(s_.g_.ob.length:Int)) <|
 (Q2a s_.f_.t (ix s_.f_.ob x_) (ix s_.g_.ob x_)).bind fun v3 =>
 (Qx (σ:=List Int × Int) (ε:=List Int) (fun s58 =>
  if s58.2<(v3.length:Int) then
   (
    (
     if s_.iso_=true then
      ass (0≤s58.2∧s58.2<(v3.length:Int)) <|
      (Q2T s_.f_.t (ix v3 s58.2)).bind fun v64 =>
      some (decide (v64<0))
     else
      some false:Option (Bool)).bind fun b61 =>
    if b61=true then
     some s58.1
    else
     (QJ components_).bind fun v66 =>
     ass (0≤s58.2∧s58.2<(v3.length:Int)) <|
     ass (0≤x_∧x_<(v66.length:Int)) <|
     (Qx (σ:=Bool × Int) (ε:=Bool) (fun s88 =>
      (
       if s88.1=true then
        some (decide (s88.2<(s_.f_.ar.length:Int)))
       else
        some false:Option (Bool)).bind fun b89 =>
      if b89=true then
       (
        ass (0≤s88.2∧s88.2<(s_.f_.s.fr.length:Int)) <|
        ass (0≤s88.2∧s88.2<(s_.f_.s.to.length:Int)) <|
        if ¬ ((ix s_.f_.s.fr s88.2)=x_) then
         if ¬ ((ix s_.f_.s.to s88.2)=x_) then
          some true
         else
          ass (0≤ix s_.f_.s.fr s88.2∧ix s_.f_.s.fr s88.2<((v66.set x_.toNat (ix v3 s58.2)).length:Int)) <|
          if (ix (v66.set x_.toNat (ix v3 s58.2)) (ix s_.f_.s.fr s88.2))<0 then
           some true
          else
           ass (0≤ix s_.f_.s.to s88.2∧ix s_.f_.s.to s88.2<((v66.set x_.toNat (ix v3 s58.2)).length:Int)) <|
           if (ix (v66.set x_.toNat (ix v3 s58.2)) (ix s_.f_.s.to s88.2))<0 then
            some true
           else
            (QQ s_.f_ s_.g_ (v66.set x_.toNat (ix v3 s58.2)) s88.2).bind fun v101 =>
            some v101
        else
         ass (0≤ix s_.f_.s.fr s88.2∧ix s_.f_.s.fr s88.2<((v66.set x_.toNat (ix v3 s58.2)).length:Int)) <|
         if (ix (v66.set x_.toNat (ix v3 s58.2)) (ix s_.f_.s.fr s88.2))<0 then
          some true
         else
          ass (0≤ix s_.f_.s.to s88.2∧ix s_.f_.s.to s88.2<((v66.set x_.toNat (ix v3 s58.2)).length:Int)) <|
          if (ix (v66.set x_.toNat (ix v3 s58.2)) (ix s_.f_.s.to s88.2))<0 then
           some true
          else
           (QQ s_.f_ s_.g_ (v66.set x_.toNat (ix v3 s58.2)) s88.2).bind fun v106 =>
           some v106:Option (Bool)).bind fun b92 =>
       ass (B64 (s88.2+1)) <|
       some (Ctl.next (b92,s88.2+1))
      else
       some (Ctl.ret s88.1)) fuel (true,0)).bind fun b69 =>
     if b69=true then
      ass (0≤s58.2∧s58.2<(v3.length:Int)) <|
      ass ((s58.1++[ix v3 s58.2]).length≤1073741824) <|
      some (s58.1++[ix v3 s58.2])
     else
      some s58.1:Option (List Int)).bind fun b60 =>
   ass (B64 (s58.2+1)) <|
   some (Ctl.next (b60,s58.2+1))
  else
   some (Ctl.ret s58.1)) fuel ([],0)).bind fun b4 =>
 some b4
@[simp] abbrev Yi (a:XL07State) (b:List Int) (c:Int) (d:List Int) (e:List (Nat × AV)):List (Nat × AV):=(0,.rptr (XL07State.cells true a))::(1,lI b)::(2,iV c)::(7,.adr 0 0 0)::(8,.adr 1 0 0)::(9,.own 2 0 d.length)::e
@[simp] abbrev Yk (a:XL07State) (b:List Int) (c:List (Nat × Ent)):List (Nat × Ent):=(0,.mix 5 [(Cat.cells true a.f_.s)])::(1,.mix 5 [(Cat.cells true a.f_.t)])::(2,rI b)::c
@[simp] abbrev YH (a:List Int × Int) (b:List Int) (c:Int) (d:List Int) (e:List (Nat × AV)):List (Nat × AV):=(10,.own 3 0 a.1.length)::(11,iV a.2)::(12,.own 4 0 ((b.set c.toNat (ix d a.2)).length))::e
@[simp] abbrev Y0q (a:List Int × Int) (b:List Int) (c:Int) (d:List Int) (e:List (Nat × Ent)):List (Nat × Ent):=(3,rI a.1)::(4,rI (b.set c.toNat (ix d a.2)))::e
theorem Q3Y (s_:XL07State) (components_:List Int) (x_:Int) (r:List Int) (h:Q1o s_ components_ x_=some r):Contract Try.prog 89 [.rptr (s_.cells true),lI components_,iV x_] (lI r):=by
 refine Q8 (rvs:=[.tmp 6]) (rs:=[lI r]) Try.func89 rfl rfl rfl rfl (by simp [Try.f89]) fun F hN hP=>?_;unfold Q1o at h;refine Q0 (runQ hN fun K hK=>?_);simp;repeat refine sdQ ?_
 refine hK _ ?_;clear hK K;refine tn (Q4 (st':=⟨[(0,.rptr (XL07State.cells true s_)),(1,lI components_),(2,iV x_)],[],0⟩) (wkQ9 []) (Q0 (w_runS mo (by rw [hN];decide) fun K hK=>?_)));simp;repeat refine sdQ ?_
 refine hK _ ?_;clear hK K;refine tn (Q4 (st':=⟨[(0,.rptr (XL07State.cells true s_)),(1,lI components_),(2,iV x_),(7,.adr 0 0 0),(8,.adr 1 0 0)],[(0,.mix 5 [(Cat.cells true s_.f_.s)]),(1,.mix 5 [(Cat.cells true s_.f_.t)])],2⟩) (wkQ9 [(0,0),(1,1)]) (Q0 (runQ hN fun K hK=>?_)));replace ⟨a1,h⟩:=Q2 h;replace ⟨a2,h⟩:=Q2 h;simp [at_I a1,at_I a2];repeat with_reducible refine sdQ ?_
 replace ⟨v3,hv3,h⟩:=bind_some h;refine Q1 (Q6c _ _ _ v3 hv3) (.cons (.aggL (.cons .val (.cons .lst (.cons .lst (.cons .lst (.cons .lst .nil)))))) (.cons .val (.cons .val .nil))) ?_;simp [at_I a1,at_I a2];repeat refine sdQ ?_
 refine hK _ ?_;clear hK K;refine tn (Q4 (st':=⟨Yi s_ components_ x_ v3 [],Yk s_ v3 [],3⟩) (wkI9 3) (Q0 (runQ hN fun K hK=>?_)));simp;repeat refine sdQ ?_
 refine hK _ ?_;clear hK K;refine tn (Q4 (st':=⟨Yi s_ components_ x_ v3 [(10,.own 3 0 0)],Yk s_ v3 [(3,.mix 1 [])],4⟩) (wkI9 4) (Q0 (Q0 (runQ hN fun K hK=>?_))));simp;repeat refine sdQ ?_
 refine hK _ (tn (Q4 (st':=⟨Yi s_ components_ x_ v3 [(10,.own 3 0 0),(11,iV 0)],Yk s_ v3 [(3,.mix 1 [])],4⟩) (wkI9 4) ?_));clear hK K;replace ⟨e4,h,h4⟩:=bind_some h;refine Qd (fun b4:List Int=>⟨[(10,.own 0 0 b4.length)],[(0,rI b4)],1⟩) (fun b4=>b4=e4) ?_ ?_
 ·refine Q5 (Qs h (fun s58:List Int × Int=>⟨Yi s_ components_ x_ v3 [(10,.own 3 0 s58.1.length),(11,iV s58.2)],Yk s_ v3 [(3,rI s58.1)],4⟩) (Q3a ⟨Yi s_ components_ x_ v3 [(10,.own 3 0 0),(11,iV 0)],Yk s_ v3 [(3,rI [])],4⟩ (Wk.nils [] (by simp) (by simp) (by simp [nlA]) (by simp [entN,nlL,nlA,Cat.cells,Fn.cells,XL07State.cells,UA,U1,IA,I1,LA,L1,BA,B1,EA,E1,E2,eB,eI,eL,Q9 _ Qk _ (fun _=>rfl)]) (by simp)) (wkI9 4)) ?_);clear h;intro k58 s58 c58 h hk58;refine Q0 (Q0 (runQ hN fun K hK=>?_));simp;repeat refine sdQ ?_
  refine hK _ ?_;clear hK K;refine tn (Q6 rfl (fun g=>?_) fun g=>?_)
  ·have g59:s58.2<(v3.length:Int):=gQ;clear g;replace h:=if_l g59 h;refine Q7 (tn (Q0 ?_));replace ⟨e60,h,h60⟩:=bind_some h;refine Qd (fun b60:List Int=>⟨Yi s_ components_ x_ v3 [(10,.own 3 0 b60.length),(11,iV s58.2)],Yk s_ v3 [(3,rI b60)],4⟩) (fun b60=>b60=e60) ?_ ?_
   ·refine Q5 (Q0 (Q0 ?_));replace ⟨e61,h,h61⟩:=bind_some h;refine Qd (fun b61:Bool=>⟨Yi s_ components_ x_ v3 [(10,.own 3 0 s58.1.length),(11,iV s58.2),(64,.val (.bool b61))],Yk s_ v3 [(3,rI s58.1)],4⟩) (fun b61=>b61=e61) ?_ ?_
    ·refine runQ hN fun K hK=>?_;simp;(repeat with_reducible refine sdQ ?_);refine Qi (fun g=>?_) (fun g=>?_)
     ·have g62:s_.iso_=true:=gQ;clear g;replace h:=if_l g62 h;replace ⟨a63,h⟩:=Q2 h;simp [at_I a63];(repeat with_reducible refine sdQ ?_);replace ⟨v64,hv64,h⟩:=bind_some h;refine Q1 (Q5M _ _ v64 hv64) (.cons (.aggL (.cons .val (.cons .lst (.cons .lst (.cons .lst (.cons .lst .nil)))))) (.cons .val .nil)) ?_;simp [at_I a63];(repeat refine sdQ ?_);refine hK _ ?_;exact jn (b:=decide (v64<0)) (Option.some.inj h) (wkI9 4)
     have g62:¬ (s_.iso_=true):=gQ;clear g;replace h:=if_r g62 h;simp;(repeat refine sdQ ?_);refine hK _ ?_;exact jn (b:=false) (Option.some.inj h) (wkI9 4)
    intro b61 hb61;have h:=h61;(try rw [← hb61] at h);clear h61;(try dsimp only at h);refine Q6 rfl (fun g=>?_) fun g=>?_
    ·have g65:b61=true:=gQ;clear g;replace h:=if_l g65 h;refine Qj (tx (bh ?_));exact jn (b:=s58.1) (Option.some.inj h) (wkI9 4)
    have g65:¬ (b61=true):=gQ;clear g;replace h:=if_r g65 h;refine Q7 (tn (Q0 (runQ hN fun K hK=>?_)));simp;(repeat with_reducible refine sdQ ?_);replace ⟨v66,hv66,h⟩:=bind_some h;refine Q1 (Q1U _ v66 hv66) (.cons .lst .nil) ?_;simp;(repeat refine sdQ ?_);refine hK _ ?_;clear hK K;refine tn (Q4 (st':=⟨Yi s_ components_ x_ v3 [(10,.own 3 0 s58.1.length),(11,iV s58.2),(12,.own 4 0 v66.length)],Yk s_ v3 [(3,rI s58.1),(4,rI v66)],5⟩) (wkI9 5) (Q0 (runQ hN fun K hK=>?_)));replace ⟨a67,h⟩:=Q2 h;replace ⟨a68,h⟩:=Q2 h;simp [at_I a67,at_I a68];(repeat refine sdQ ?_);refine hK _ ?_;clear hK K;refine tn (Q4 (st':=⟨Yi s_ components_ x_ v3 (YH s58 v66 x_ v3 []),Yk s_ v3 (Y0q s58 v66 x_ v3 []),5⟩) (wkI9 5) (Q0 (runQ hN fun K hK=>?_)));simp;(repeat refine sdQ ?_);refine hK _ ?_;clear hK K;refine tn (Q4 (st':=⟨Yi s_ components_ x_ v3 (YH s58 v66 x_ v3 [(13,.val (.bool true))]),Yk s_ v3 (Y0q s58 v66 x_ v3 []),5⟩) (wkI9 5) (Q0 (Q0 (runQ hN fun K hK=>?_))));simp;(repeat refine sdQ ?_);refine hK _ (tn (Q4 (st':=⟨Yi s_ components_ x_ v3 (YH s58 v66 x_ v3 [(13,.val (.bool true)),(14,iV 0)]),Yk s_ v3 (Y0q s58 v66 x_ v3 []),5⟩) (wkI9 5) ?_));clear hK K;replace ⟨e69,h,h69⟩:=bind_some h;refine Qd (fun b69:Bool=>⟨Yi s_ components_ x_ v3 [(10,.own 3 0 s58.1.length),(11,iV s58.2),(13,.val (.bool b69))],Yk s_ v3 [(3,rI s58.1)],4⟩) (fun b69=>b69=e69) ?_ ?_
    ·refine Q5 (Qs h (fun s88:Bool × Int=>⟨Yi s_ components_ x_ v3 (YH s58 v66 x_ v3 [(13,.val (.bool s88.1)),(14,iV s88.2)]),Yk s_ v3 (Y0q s58 v66 x_ v3 []),5⟩) (wkI9 5) ?_);clear h;intro k88 s88 c88 h hk88;refine Q0 (Q0 ?_);replace ⟨e89,h,h89⟩:=bind_some h;refine Qd (fun b89:Bool=>⟨Yi s_ components_ x_ v3 (YH s58 v66 x_ v3 [(13,.val (.bool s88.1)),(14,iV s88.2),(84,.val (.bool b89))]),Yk s_ v3 (Y0q s58 v66 x_ v3 []),5⟩) (fun b89=>b89=e89) ?_ ?_
     ·refine runQ hN fun K hK=>?_;simp;(repeat with_reducible refine sdQ ?_);refine Qi (fun g=>?_) (fun g=>?_)
      ·have g90:s88.1=true:=gQ;clear g;replace h:=if_l g90 h;simp;(repeat refine sdQ ?_);refine hK _ ?_;exact jn (b:=decide (s88.2<(s_.f_.ar.length:Int))) (Option.some.inj h) (wkI9 5)
      have g90:¬ (s88.1=true):=gQ;clear g;replace h:=if_r g90 h;simp;(repeat refine sdQ ?_);refine hK _ ?_;exact jn (b:=false) (Option.some.inj h) (wkI9 5)
     intro b89 hb89;have h:=h89;(try rw [← hb89] at h);clear h89;(try dsimp only at h);refine Q6 rfl (fun g=>?_) fun g=>?_
     ·have g91:b89=true:=gQ;clear g;replace h:=if_l g91 h;refine Q7 (tn (Q0 ?_));replace ⟨e92,h,h92⟩:=bind_some h;refine Qd (fun b92:Bool=>⟨Yi s_ components_ x_ v3 (YH s58 v66 x_ v3 [(13,.val (.bool b92)),(14,iV s88.2)]),Yk s_ v3 (Y0q s58 v66 x_ v3 []),5⟩) (fun b92=>b92=e92) ?_ ?_
      ·refine Q5 (Q0 (runQ hN fun K hK=>?_));replace ⟨a93,h⟩:=Q2 h;replace ⟨a94,h⟩:=Q2 h;simp [at_I a93,at_I a94];(repeat refine sdQ ?_);refine hK _ ?_;clear hK K;refine tn (Q4 (st':=⟨Yi s_ components_ x_ v3 (YH s58 v66 x_ v3 [(14,iV s88.2),(15,iV (ix s_.f_.s.fr s88.2)),(16,iV (ix s_.f_.s.to s88.2))]),Yk s_ v3 (Y0q s58 v66 x_ v3 []),5⟩) (wkI9 5) (runQ hN fun K hK=>?_));simp;(repeat with_reducible refine sdQ ?_);refine Qi (fun g=>?_) (fun g=>?_)
       ·have g95:¬ ((ix s_.f_.s.fr s88.2)=x_):=gQ;clear g;replace h:=if_l g95 h;simp;(repeat with_reducible refine sdQ ?_);refine Qi (fun g=>?_) (fun g=>?_)
        ·have g96:¬ (¬ ((ix s_.f_.s.to s88.2)=x_)):=gQ;clear g;replace h:=if_r g96 h;replace ⟨a97,h⟩:=Q2 h;simp [at_I a97];(repeat with_reducible refine sdQ ?_);refine Qi (fun g=>?_) (fun g=>?_)
         ·have g98:¬ ((ix (v66.set x_.toNat (ix v3 s58.2)) (ix s_.f_.s.fr s88.2))<0):=gQ;clear g;replace h:=if_r g98 h;replace ⟨a99,h⟩:=Q2 h;simp [at_I a97,at_I a99];(repeat with_reducible refine sdQ ?_);refine Qi (fun g=>?_) (fun g=>?_)
          ·have g100:¬ ((ix (v66.set x_.toNat (ix v3 s58.2)) (ix s_.f_.s.to s88.2))<0):=gQ;clear g;replace h:=if_r g100 h;simp [at_I a97,at_I a99];(repeat with_reducible refine sdQ ?_);replace ⟨v101,hv101,h⟩:=bind_some h;refine Q1 (Q4q _ _ _ _ v101 hv101) (.cons (.aggL (.cons .val (.cons .lst (.cons .lst (.cons .lst (.cons .lst (.cons .val (.cons .lst (.cons .lst (.cons .lst (.cons .lst (.cons .lst (.cons .lst .nil))))))))))))) (.cons (.aggL (.cons .val (.cons .lst (.cons .lst (.cons .lst (.cons .lst (.cons .val (.cons .lst (.cons .lst (.cons .lst (.cons .lst (.cons .lst (.cons .lst .nil))))))))))))) (.cons .w (.cons .val .nil)))) ?_;simp [at_I a97,at_I a99];(repeat refine sdQ ?_);refine hK _ (bn ?_);clear hK K;exact jn (b:=v101) (Option.some.inj h) (wkI9 5)
          have g100:(ix (v66.set x_.toNat (ix v3 s58.2)) (ix s_.f_.s.to s88.2))<0:=gQ;clear g;replace h:=if_l g100 h;simp [at_I a97,at_I a99];(repeat refine sdQ ?_);refine hK _ (bn ?_);clear hK K;exact jn (b:=true) (Option.some.inj h) (wkI9 5)
         have g98:(ix (v66.set x_.toNat (ix v3 s58.2)) (ix s_.f_.s.fr s88.2))<0:=gQ;clear g;replace h:=if_l g98 h;simp [at_I a97];(repeat refine sdQ ?_);refine hK _ (bn ?_);clear hK K;exact jn (b:=true) (Option.some.inj h) (wkI9 5)
        have g96:¬ ((ix s_.f_.s.to s88.2)=x_):=gQ;clear g;replace h:=if_l g96 h;simp;(repeat refine sdQ ?_);refine hK _ (bn ?_);clear hK K;exact jn (b:=true) (Option.some.inj h) (wkI9 5)
       have g95:¬ (¬ ((ix s_.f_.s.fr s88.2)=x_)):=gQ;clear g;replace h:=if_r g95 h;replace ⟨a102,h⟩:=Q2 h;simp [at_I a102];(repeat with_reducible refine sdQ ?_);refine Qi (fun g=>?_) (fun g=>?_)
       ·have g103:¬ ((ix (v66.set x_.toNat (ix v3 s58.2)) (ix s_.f_.s.fr s88.2))<0):=gQ;clear g;replace h:=if_r g103 h;replace ⟨a104,h⟩:=Q2 h;simp [at_I a102,at_I a104];(repeat with_reducible refine sdQ ?_);refine Qi (fun g=>?_) (fun g=>?_)
        ·have g105:¬ ((ix (v66.set x_.toNat (ix v3 s58.2)) (ix s_.f_.s.to s88.2))<0):=gQ;clear g;replace h:=if_r g105 h;simp [at_I a102,at_I a104];(repeat with_reducible refine sdQ ?_);replace ⟨v106,hv106,h⟩:=bind_some h;refine Q1 (Q4q _ _ _ _ v106 hv106) (.cons (.aggL (.cons .val (.cons .lst (.cons .lst (.cons .lst (.cons .lst (.cons .val (.cons .lst (.cons .lst (.cons .lst (.cons .lst (.cons .lst (.cons .lst .nil))))))))))))) (.cons (.aggL (.cons .val (.cons .lst (.cons .lst (.cons .lst (.cons .lst (.cons .val (.cons .lst (.cons .lst (.cons .lst (.cons .lst (.cons .lst (.cons .lst .nil))))))))))))) (.cons .w (.cons .val .nil)))) ?_;simp [at_I a102,at_I a104];(repeat refine sdQ ?_);refine hK _ (bn ?_);clear hK K;exact jn (b:=v106) (Option.some.inj h) (wkI9 5)
        have g105:(ix (v66.set x_.toNat (ix v3 s58.2)) (ix s_.f_.s.to s88.2))<0:=gQ;clear g;replace h:=if_l g105 h;simp [at_I a102,at_I a104];(repeat refine sdQ ?_);refine hK _ (bn ?_);clear hK K;exact jn (b:=true) (Option.some.inj h) (wkI9 5)
       have g103:(ix (v66.set x_.toNat (ix v3 s58.2)) (ix s_.f_.s.fr s88.2))<0:=gQ;clear g;replace h:=if_l g103 h;simp [at_I a102];(repeat refine sdQ ?_);refine hK _ (bn ?_);clear hK K;exact jn (b:=true) (Option.some.inj h) (wkI9 5)
      intro b92 hb92;have h:=h92;(try rw [← hb92] at h);clear h92;(try dsimp only at h);refine runQ hN fun K hK=>?_;replace ⟨a107,h⟩:=Q2 h;simp [Qo a107];(repeat refine sdQ ?_);refine hK _ ?_;clear hK K;cases h;exact rn (s':=(b92,s88.2+1)) hk88 (wkI9 5)
     have g91:¬ (b89=true):=gQ;clear g;replace h:=if_r g91 h;refine Qj (tx (lx (bh ?_)));cases h;exact jn (b:=s88.1) hk88 (wkI9 4)
    intro b69 hb69;have h:=h69;(try rw [← hb69] at h);clear h69;(try dsimp only at h);refine Q0 (runQ hN fun K hK=>?_);simp;(repeat refine sdQ ?_);refine hK _ ?_;clear hK K;refine tn (Q6 rfl (fun g=>?_) fun g=>?_)
    ·have g108:b69=true:=gQ;clear g;replace h:=if_l g108 h;refine runQ hN fun K hK=>?_;replace ⟨a109,h⟩:=Q2 h;replace ⟨a110,h⟩:=Q2 h;(try simp only [List.length_append,List.length_cons,List.length_nil] at a110);simp [at_I a109,a110];(repeat refine sdQ ?_);refine hK _ (bn ?_);clear hK K;exact jn (b:=s58.1++[ix v3 s58.2]) (Option.some.inj h) (wkQ9 [(0,0),(1,1),(2,2),(6,3)])
    have g108:¬ (b69=true):=gQ;clear g;replace h:=if_r g108 h;refine Q7 (bn ?_);exact jn (b:=s58.1) (Option.some.inj h) (wkI9 4)
   intro b60 hb60;have h:=h60;(try rw [← hb60] at h);clear h60;(try dsimp only at h);refine runQ hN fun K hK=>?_;replace ⟨a111,h⟩:=Q2 h;simp [Qo a111];(repeat refine sdQ ?_);refine hK _ ?_;clear hK K;cases h;exact rn (s':=(b60,s58.2+1)) hk58 (wkI9 4)
  have g59:¬ (s58.2<(v3.length:Int)):=gQ;clear g;replace h:=if_r g59 h;refine Qj (tx (lx (bh ?_)));cases h;exact jn (b:=s58.1) hk58 (wkQ9 [(3,0)])
 intro b4 hb4;have h:=h4;try rw [← hb4] at h
 clear h4;try dsimp only at h
 refine Q0 (runQ hN fun K hK=>?_);simp;repeat refine sdQ ?_
 refine hK _ (tn (Q4 (st':=⟨[(6,.own 0 0 b4.length)],[(0,rI b4)],1⟩) (wkQ9 [(0,0)]) (Qe ?_)));clear hK K;have hr:=Option.some.inj h;rw [← hr];refine ⟨_,(.tmp .nil),?_⟩;refine ⟨(.one rfl rfl .nil),[lI b4],[0],by simp [Cat.cells,Fn.cells,XL07State.cells,UA,U1,IA,I1,LA,L1,BA,B1,EA,E1,E2,eB,eI,eL,Q9 _ Qk _ (fun _=>rfl)],by simp,(UpL.refl _)⟩
section
attribute [local simp] Qf QG Qu Q15 QD
theorem wh_bind {β:Type} {body:Bool × Int→Option (Ctl (Bool × Int) Bool)} {K:Bool→Option β} {r:Option β} (n:Nat) (p:Nat→Prop) (hn:n<4611686018427387904) (h1:∀ i:Nat,i<n→body (true,(i:Int))=some (.next (bo (p i),(i:Int)+1)))
  (h2:body (true,(n:Int))=some (.ret true)) (h3:∀ i:Nat,body (false,(i:Int))=some (.ret false)) (hk:K (bo (∀ i:Nat,i<n→p i))=r):(Qx body fuel (true,0)).bind K=r:=by
 refine Q13 (Q:=fun z=>z=r) n (fun i s=>(s=(true,(i:Int))∧∀ j:Nat,j<i→p j)∨(s=(false,(i:Int))∧¬ ∀ j:Nat,j<n→p j)) (fun e=>e=bo (∀ i:Nat,i<n→p i)) hn (.inl ⟨rfl,fun j hj=>by omega⟩) ?_ ?_ (fun e he=>by rw [he];exact hk)
 ·intro i s hi hI;rcases hI with ⟨rfl,hp⟩|⟨rfl,hp⟩
  ·left;refine ⟨_,h1 i hi,?_⟩
   by_cases hq:p i
   ·left;refine ⟨by rw [QE hq];rfl,fun j hj=>?_⟩
    by_cases hji:j<i
    ·exact hp j hji
    have:j=i:=(by omega);subst this;exact hq
   right;exact ⟨by rw [Qw hq];rfl,fun h=>hq (h i hi)⟩
  right;exact ⟨false,h3 i,by rw [Qw hp]⟩
 intro s hI;rcases hI with ⟨rfl,hp⟩|⟨rfl,hp⟩
 ·exact ⟨true,h2,by rw [QE hp]⟩
 exact ⟨false,h3 n,by rw [Qw hp]⟩
theorem ix_rep {n:Nat} {v:Int} {i:Int} (h0:0≤i) (h:i<(n:Int)):ix (List.replicate n v) i=v:=by
 obtain ⟨j,rfl⟩:=Int.eq_ofNat_of_zero_le h0;have hj:j<n:=by omega
 simp [ix,List.getD_eq_getElem?_getD,List.getElem?_replicate,hj]
def cstF (d:Fn) (x:Int):Fn:=⟨d.s,d.t,List.replicate d.ob.length x,List.replicate d.ar.length (ix d.t.id x)⟩
theorem e_const {d:Fn} (hd:d.Is) {x:Int} (hx:0≤x∧x<d.t.n):Q1x d.s d.t x=some (cstF d x):=by
 obtain ⟨l1,l2,l3,l4,l5,l6,l7,l8⟩:=hd.fact;have li:=hd.t.1.li;unfold Q1x;refine Q1p d.ob.length (fun i=>List.replicate i x) (e:=List.replicate d.ob.length x) rfl (by omega) (fun i hi=>?_) ?_ ?_
 ·simp only;rw [if_pos (by omega),Q3 (by simp;omega),Q3 (by unfold B64;omega),← List.replicate_succ']
 ·simp only;rw [if_neg (by omega)]
 refine Q1p d.ar.length (fun i=>List.replicate i (ix d.t.id x)) (e:=List.replicate d.ar.length (ix d.t.id x)) rfl (by omega) (fun i hi=>?_) ?_ ?_
 ·simp only;rw [if_pos (by omega),Q3 (by omega),Q3 (by simp;omega),Q3 (by unfold B64;omega),← List.replicate_succ']
 ·simp only;rw [if_neg (by omega)]
 rw [Q6S hd.s.ok hd.t.ok (by simp;omega) (by simp;omega)];rfl
def CV (d:Fn) (x:Int) (c:List Int):Prop:=c.length=d.ob.length∧∀ i:Nat,i<d.ob.length→ix c i = -1∨ix c i = -2∨Ar d.t (ix c i) x (ix d.ob i)
def cok (d:Fn) (c:List Int) (i:Nat) (a:Nat):Prop:=(ix d.s.fr a=(i:Int)∨ix d.s.to a=(i:Int))→0≤ix c (ix d.s.fr a)→0≤ix c (ix d.s.to a)→leq d c a
def chP (d:Fn) (c:List Int) (i:Nat) (f:Int):Prop:=∀ a:Nat,a<d.ar.length→cok d (c.set i f) i a
noncomputable def Ch (d:Fn) (x:Int) (c:List Int) (i:Nat):List Int:=(homL d.t x (ix d.ob i)).filter fun f=>bo (chP d c i f)
theorem Ch_len {d:Fn} (hd:d.Is) (x:Int) (c:List Int) (i:Nat):(Ch d x c i).length≤40:=by
 have:=Q51 d.t x (ix d.ob i);have h2:(Ch d x c i).length≤_:=List.length_filter_le _ _;have:=hd.t.1.m40;omega
theorem mem_Ch {d:Fn} {x:Int} {c:List Int} {i:Nat} {f:Int} (h:f∈Ch d x c i):Ar d.t f x (ix d.ob i):=Q3N f (List.mem_filter.1 h).1
theorem CV.set {d:Fn} {x:Int} {c:List Int} (h:CV d x c) {i:Nat} {f:Int} (hf:Ar d.t f x (ix d.ob i)):CV d x (c.set i f):=by
 refine ⟨by rw [List.length_set];exact h.1,fun j hj=>?_⟩;have h1:=h.1
 by_cases hji:i=j
 ·subst hji;rw [Q5f (by omega)];exact .inr (.inr hf)
 rw [Q5g hji];exact h.2 j hj
theorem CV.at {d:Fn} (hd:d.Is) {x:Int} {c:List Int} (h:CV d x c) {y:Int} (h0:0≤y) (h1:y<(d.ob.length:Int)) (h2:0≤ix c y):Ar d.t (ix c y) x (ix d.ob y):=by
 obtain ⟨j,rfl⟩:=Int.eq_ofNat_of_zero_le h0;rcases h.2 j (by omega) with e|e|e
 ·omega
 ·omega
 exact e
theorem e_csquare {d:Fn} (hd:d.Is) {x:Int} (hx:0≤x∧x<d.t.n) {c:List Int} (h:CV d x c) {a:Nat} (ha:a<d.ar.length) (h1:0≤ix c (ix d.s.fr a)) (h2:0≤ix c (ix d.s.to a)):QQ (cstF d x) d c a=some (bo (leq d c a)):=by
 obtain ⟨l1,l2,l3,l4,l5,l6,l7,l8⟩:=hd.fact;obtain ⟨f1,f2,f3⟩:=l8 a ha;have A1:=h.at hd f1.1 f1.2 h1;have A2:=h.at hd f2.1 f2.2 h2;have Ai:=hd.t.Ai hx;have e1:ix (List.replicate d.ar.length (ix d.t.id x)) (a:Int)=ix d.t.id x:=ix_rep (by omega) (by omega);have r1:=hd.t.1.row' Ai.1.1 Ai.1.2;have r2:=hd.t.1.row' A1.1.1 A1.1.2;have lc:=hd.t.1.lc;have hl:=h.1;have a1:=Ai.1;have a2:=A1.1;have a3:=A2.1;have a4:=f3.1;unfold QQ;simp only [cstF,e1,List.length_replicate];rw [Q3 (by omega),Q3 (by omega),Q3 (by omega),Q3 (by omega),Q3 (by omega),Q3 (by omega),Q3 (by omega),Q3 (by omega),Q3 (by omega),Q3 (by omega),(hd.t.idl A2).1];unfold leq
 by_cases hq:ix c (ix d.s.to a)=ix (rx d.t.cs (ix c (ix d.s.fr a))) (ix d.ar a)
 ·rw [QE hq.symm];simp [hq]
 rw [Qw fun q=>hq q.symm];simp [hq]
theorem Q6R {d:Fn} (hd:d.Is) {x:Int} (hx:0≤x∧x<d.t.n) {c:List Int} (h:CV d x c) {i:Nat} (hi:i<d.ob.length) (most:Int) (found:List (List Int)):Q1o (⟨cstF d x,d,false,most,found⟩:XL07State) c i=some (Ch d x c i):=by
 obtain ⟨l1,l2,l3,l4,l5,l6,l7,l8⟩:=hd.fact;have e1:ix (List.replicate d.ob.length x) (i:Int)=x:=ix_rep (by omega) (by omega);have hl:=h.1;have hH:=Q51 d.t x (ix d.ob i);unfold Q1o QJ;simp only [cstF,e1,List.length_replicate];rw [Q3 (by omega),Q3 (by omega),show Q2a d.t x (ix d.ob i)=some (homL d.t x (ix d.ob i)) from (Q8r hd.t _ _).1];simp only [Option.bind_some,Int.toNat_natCast];have step:∀ (q:Nat) (hq:q<(homL d.t x (ix d.ob i)).length) {β:Type} {K:Bool→Option β} {r:Option β},K (bo (chP d c i (ix (homL d.t x (ix d.ob i)) q)))=r →
   (Qx (σ:=Bool × Int) (ε:=Bool) (fun s88 =>
      (
       if s88.1=true then
        some (decide (s88.2<(d.ar.length:Int)))
       else
        some false:Option (Bool)).bind fun b89 =>
      if b89=true then
       (
        ass (0≤s88.2∧s88.2<(d.s.fr.length:Int)) <|
        ass (0≤s88.2∧s88.2<(d.s.to.length:Int)) <|
        if ¬ ((ix d.s.fr s88.2)=(i:Int)) then
         if ¬ ((ix d.s.to s88.2)=(i:Int)) then
          some true
         else
          ass (0≤ix d.s.fr s88.2∧ix d.s.fr s88.2<((c.set i (ix (homL d.t x (ix d.ob i)) q)).length:Int)) <|
          if (ix (c.set i (ix (homL d.t x (ix d.ob i)) q)) (ix d.s.fr s88.2))<0 then
           some true
          else
           ass (0≤ix d.s.to s88.2∧ix d.s.to s88.2<((c.set i (ix (homL d.t x (ix d.ob i)) q)).length:Int)) <|
           if (ix (c.set i (ix (homL d.t x (ix d.ob i)) q)) (ix d.s.to s88.2))<0 then
            some true
           else
            (QQ (cstF d x) d (c.set i (ix (homL d.t x (ix d.ob i)) q)) s88.2).bind fun v101 =>
            some v101
        else
         ass (0≤ix d.s.fr s88.2∧ix d.s.fr s88.2<((c.set i (ix (homL d.t x (ix d.ob i)) q)).length:Int)) <|
         if (ix (c.set i (ix (homL d.t x (ix d.ob i)) q)) (ix d.s.fr s88.2))<0 then
          some true
         else
          ass (0≤ix d.s.to s88.2∧ix d.s.to s88.2<((c.set i (ix (homL d.t x (ix d.ob i)) q)).length:Int)) <|
          if (ix (c.set i (ix (homL d.t x (ix d.ob i)) q)) (ix d.s.to s88.2))<0 then
           some true
          else
           (QQ (cstF d x) d (c.set i (ix (homL d.t x (ix d.ob i)) q)) s88.2).bind fun v106 =>
           some v106:Option (Bool)).bind fun b92 =>
       ass (B64 (s88.2+1)) <|
       some (Ctl.next (b92,s88.2+1))
      else
       some (Ctl.ret s88.1)) fuel (true,0)).bind K=r:=by
  intro q hq β K r hk;have hf:=Q8F (P:=fun f=>Ar d.t f x (ix d.ob i)) Q3N hq
  let c2:=c.set i (ix (homL d.t x (ix d.ob i)) q)
  have h2:CV d x c2:=h.set hf;have hl2:c2.length=d.ob.length:=h2.1;refine wh_bind d.ar.length (fun a=>cok d c2 i a) (by omega) (fun a ha=>?_) (by simp) (fun a=>by simp) hk;obtain ⟨f1,f2,f3⟩:=l8 a ha;have hB:B64 ((a:Int)+1):=by unfold B64;omega
  have hal:(a:Int)<(d.ar.length:Int):=by omega
  show ((if true=true then some (decide ((a:Int)<(d.ar.length:Int))) else some false:Option Bool).bind _)=_;simp only [if_true,hal,decide_true,Option.bind_some];rw [Q3 (by omega),Q3 (by omega)];have key:∀ (v:Bool),v=bo (cok d c2 i a)→((some v:Option Bool).bind fun b92=>ass (B64 ((a:Int)+1)) <| some (Ctl.next (b92,(a:Int)+1)):Option (Ctl (Bool × Int) Bool))=some (Ctl.next (bo (cok d c2 i a),(a:Int)+1)):=by
   intro v hv;simp only [Option.bind_some];rw [Q3 hB,hv]
  have sq:(ix d.s.fr a=(i:Int)∨ix d.s.to a=(i:Int))→((ass (0≤ix d.s.fr a∧ix d.s.fr a<(c2.length:Int)) <|
         if (ix c2 (ix d.s.fr a))<0 then
          some true
         else
          ass (0≤ix d.s.to a∧ix d.s.to a<(c2.length:Int)) <|
          if (ix c2 (ix d.s.to a))<0 then
           some true
          else
           (QQ (cstF d x) d c2 a).bind fun v106 =>
           some v106:Option (Bool)).bind fun b92=>ass (B64 ((a:Int)+1)) <| some (Ctl.next (b92,(a:Int)+1)):Option (Ctl (Bool × Int) Bool))=some (Ctl.next (bo (cok d c2 i a),(a:Int)+1)):=by
   intro ht;rw [Q3 (by omega)]
   by_cases n1:ix c2 (ix d.s.fr a)<0
   ·rw [if_pos n1];exact key _ (QE (p:=cok d c2 i a) (fun _ g1 _=>by omega)).symm
   rw [if_neg n1,Q3 (by omega)]
   by_cases n2:ix c2 (ix d.s.to a)<0
   ·rw [if_pos n2];exact key _ (QE (p:=cok d c2 i a) (fun _ _ g2=>by omega)).symm
   rw [if_neg n2,e_csquare hd hx h2 ha (by omega) (by omega)];exact key _ (bo_iff2 ⟨fun g _ _ _=>g,fun g=>g ht (by omega) (by omega)⟩)
  by_cases t1:ix d.s.fr a=(i:Int)
  ·rw [if_neg (by simp [t1])];exact sq (.inl t1)
  rw [if_pos t1]
  by_cases t2:ix d.s.to a=(i:Int)
  ·rw [if_neg (by simp [t2])];exact sq (.inr t2)
  rw [if_pos t2];exact key _ (QE (p:=cok d c2 i a) (fun g=>by rcases g with g|g<;>contradiction)).symm
 refine Q6l (homL d.t x (ix d.ob i)) (chP d c i) (e:=Ch d x c i) (by omega) (fun q acc hq hacc=>?_) ?_ rfl
 ·have hqi:(q:Int)<((homL d.t x (ix d.ob i)).length:Int):=by omega
  have hB:B64 ((q:Int)+1):=by unfold B64;omega
  refine ⟨fun hp=>?_,fun hp=>?_⟩
  ·simp only [Bool.false_eq_true,if_false,Option.bind_some];rw [if_pos hqi,Q3 (by omega)];simp only [Option.bind_some];rw [Q3 ⟨by omega,hqi⟩,Q3 (by omega)];simp only [Option.bind_assoc];refine step q hq ?_;rw [QE hp];simp only [if_true];rw [Q3 ⟨by omega,hqi⟩,Q3 (by simp;omega)];simp only [Option.bind_some];rw [Q3 hB]
  simp only [Bool.false_eq_true,if_false,Option.bind_some];rw [if_pos hqi,Q3 (by omega)];simp only [Option.bind_some];rw [Q3 ⟨by omega,hqi⟩,Q3 (by omega)];simp only [Option.bind_assoc];refine step q hq ?_;rw [Qw hp];simp only [Bool.false_eq_true,if_false,Option.bind_some];rw [Q3 hB]
 simp only;rw [if_neg (by omega)];rfl
end
end Go.Vc.T
