/- A part of the proof: a verified generator of conditions, and what each function of the program does. -/
import Derived.Test.YtoaahhbohijaiaaS10
set_option maxRecDepth 100000
set_option maxHeartbeats 4000000
set_option linter.unusedSimpArgs false
set_option linter.unusedVariables false

namespace Go.Vc.T
open Go Go.Vc Go.Proofs
attribute [local simp] eL eI Qv QI Q1C eP_Ends Q1t Cat.cells Cone.cells Ends.cells Fn.cells
noncomputable def Q2F (d_:Fn) (p_:Cone):Option Bool :=
 (
  ass (B64 (d_.t.n - 1)) <|
  (Q2R p_.a 0 (d_.t.n - 1)).bind fun v3 =>
  if ¬ (v3=true) then
   some true
  else
   if ¬ ((p_.l.length:Int)=(d_.ob.length:Int)) then
    some true
   else
    (Qu d_.t).bind fun v6 =>
    (Q1f p_.l v6).bind fun v7 =>
    some (!v7):Option (Bool)).bind fun b1 =>
 if b1=true then
  some false
 else
  (QB (σ:=Int) (ε:=Unit ⊕ Bool) (fun s16 =>
   if s16<(p_.l.length:Int) then
    ass (0≤s16∧s16<(p_.l.length:Int)) <|
    (Q13 d_.t (ix p_.l s16)).bind fun v19 =>
    ass (0≤s16∧s16<(d_.ob.length:Int)) <|
    if ¬ (v19.a=p_.a∧v19.b=ix d_.ob s16) then
     some (Ctl.ret (Sum.inr false))
    else
     ass (B64 (s16+1)) <|
     some (Ctl.next (s16+1))
   else
    some (Ctl.ret (Sum.inl ()))) fuel 0).bind fun e9 =>
  match e9 with
  | .inl b9 =>
   (QB (σ:=Int) (ε:=Unit ⊕ Bool) (fun s33 =>
    if s33<(d_.ar.length:Int) then
     ass (0≤s33∧s33<(d_.ar.length:Int)) <|
     ass (0≤s33∧s33<(d_.s.fr.length:Int)) <|
     ass (0≤ix d_.s.fr s33∧ix d_.s.fr s33<(p_.l.length:Int)) <|
     (Qn d_.t (ix p_.l (ix d_.s.fr s33)) (ix d_.ar s33)).bind fun v38 =>
     ass (0≤s33∧s33<(d_.s.to.length:Int)) <|
     ass (0≤ix d_.s.to s33∧ix d_.s.to s33<(p_.l.length:Int)) <|
     if ¬ (v38=(ix p_.l (ix d_.s.to s33))) then
      some (Ctl.ret (Sum.inr false))
     else
      ass (B64 (s33+1)) <|
      some (Ctl.next (s33+1))
    else
     some (Ctl.ret (Sum.inl ()))) fuel 0).bind fun e23 =>
   match e23 with
   | .inl b23 =>
    some true
   | .inr p23 =>
    some p23
  | .inr p9 =>
   some p9
theorem QA {F : Fx} {st st' : St} (m : List (Nat × Nat)) (h : (m.map Prod.fst).Nodup ∧ (m.map Prod.snd).Nodup ∧ (∀ id, id < F.pins → look id m = some id) ∧ (∀ p ∈ m, p.2 < st'.n) ∧ (∀ p ∈ st'.h, p.1 < st'.n) ∧ (∀ p ∈ st'.s, p.2 = rl m (st.get p.1) ∨ p.2 = .bot) ∧ ∀ p ∈ st'.h, hhOk m st.h p.1 p.2 := by simp [hP, hhOk, back, Cat.cells, Cone.cells, Ends.cells, Fn.cells, UA, U1, IA, I1, LA, L1, BA, B1, EA, E1, E2, eB, eI, eL, XCocones.cells, Qf _ QD _ (fun _=>rfl), Qf _ (Cone.cells true) _ (fun _=>rfl)]) : Wk F st st' := Wk.r1 m h
theorem Q8q (d_:Fn) (p_:Cone) (r:Bool) (h:Q2F d_ p_=some r):Contract Try.prog 153 [.rptr (d_.cells true),.agg (p_.cells true)] (.val (.bool r)):=by
 refine Qe (rvs:=[.tmp 4]) (rs:=[.val (.bool r)]) Try.func153 rfl rfl rfl rfl (by simp [Try.f153]) fun F hN hP=>?_;unfold Q2F at h;refine Q3 ?_;refine runQ hN fun K hK=>?_;simp [-Q0,-Q4,-Q1,-Q5,-Q2];repeat refine sdQ ?_
 refine hK _ ?_;clear hK K;refine tn ?_;refine Q8 (st':=⟨[(0,.rptr (Fn.cells true d_)),(3,.adr 0 0 0)],[(0,.mix 2 [(Cone.cells true p_)])],1⟩) (QA [(0,0)]) ?_;refine Q3 ?_;refine runQ hN fun K hK=>?_;simp [-Q0,-Q4,-Q1,-Q5,-Q2];repeat refine sdQ ?_
 refine hK _ ?_;clear hK K;refine tn ?_;refine Q8 (st':=⟨[(0,.rptr (Fn.cells true d_)),(3,.adr 0 0 0),(5,.rptr [iV d_.t.n,lI d_.t.fr,lI d_.t.to,lI d_.t.id,.lst true 1 (Ls d_.t.cs),lI d_.ob,lI d_.ar])],[(0,.mix 2 [(Cone.cells true p_)])],1⟩) (QA [(0,0)]) ?_;refine Q3 ?_;refine Q3 ?_;replace h:=bind_some h;obtain ⟨e1,h,h1⟩:=h;refine Qh (fun b1:Bool=>⟨[(0,.rptr (Fn.cells true d_)),(3,.adr 0 0 0),(5,.rptr [iV d_.t.n,lI d_.t.fr,lI d_.t.to,lI d_.t.id,.lst true 1 (Ls d_.t.cs),lI d_.ob,lI d_.ar]),(40,.val (.bool b1))],[(0,.mix 2 [(Cone.cells true p_)])],1⟩) (fun b1=>b1=e1) ?_ ?_
 ·refine runQ hN fun K hK=>?_;replace h:=Q6 h;obtain ⟨a2,h⟩:=h;simp [-Q0,-Q4,-Q1,-Q5,-Q2,Qs a2];repeat with_reducible refine sdQ ?_
  replace h:=bind_some h;obtain ⟨v3,hv3,h⟩:=h;refine Q7 (Q7h _ _ _ v3 hv3) (.cons .val (.cons .val (.cons .val .nil))) ?_;simp [-Q0,-Q4,-Q1,-Q5,-Q2,unk,unA,unE,unT,unC,flat];repeat with_reducible refine sdQ ?_
  refine Ql (fun g=>?_) (fun g=>?_)
  ·have g4:¬ (¬ (v3=true)):=gQ;clear g;replace h:=if_r g4 h;simp [-Q0,-Q4,-Q1,-Q5,-Q2];(repeat with_reducible refine sdQ ?_);refine Ql (fun g=>?_) (fun g=>?_)
   ·have g5:¬ (¬ ((p_.l.length:Int)=(d_.ob.length:Int))):=gQ;clear g;replace h:=if_r g5 h;simp [-Q0,-Q4,-Q1,-Q5,-Q2];(repeat with_reducible refine sdQ ?_);replace h:=bind_some h;obtain ⟨v6,hv6,h⟩:=h;refine Q7 (Q18 _ v6 hv6) (.cons (.preT (by simp [Cat.cells,Cone.cells,Fn.cells])) .nil) ?_;simp [-Q0,-Q4,-Q1,-Q5,-Q2,unk,unA,unE,unT,unC,flat];(repeat with_reducible refine sdQ ?_);replace h:=bind_some h;obtain ⟨v7,hv7,h⟩:=h;refine Q7 (Q47 _ _ v7 hv7) (.cons .lst (.cons .val .nil)) ?_;simp [-Q0,-Q4,-Q1,-Q5,-Q2,unk,unA,unE,unT,unC,flat];(repeat refine sdQ ?_);refine hK _ ?_;exact jn (b:=!v7) (Option.some.inj h) (QA [(0,0)])
   have g5:¬ ((p_.l.length:Int)=(d_.ob.length:Int)):=gQ;clear g;replace h:=if_l g5 h;simp [-Q0,-Q4,-Q1,-Q5,-Q2];(repeat refine sdQ ?_);refine hK _ ?_;exact jn (b:=true) (Option.some.inj h) (QA [(0,0)])
  have g4:¬ (v3=true):=gQ;clear g;replace h:=if_l g4 h;simp [-Q0,-Q4,-Q1,-Q5,-Q2];repeat refine sdQ ?_
  refine hK _ ?_;exact jn (b:=true) (Option.some.inj h) (QA [(0,0)])
 intro b1 hb1;have h:=h1;try rw [← hb1] at h
 clear h1;try dsimp only at h
 refine Qc rfl (fun g=>?_) fun g=>?_
 ·have g8:b1=true:=gQ;clear g;replace h:=if_l g8 h;refine Q3 ?_;refine runQ hN fun K hK=>?_;simp [-Q0,-Q4,-Q1,-Q5,-Q2];repeat refine sdQ ?_
  refine hK _ ?_;clear hK K;refine tn ?_;refine Q8 (st':=⟨[(4,.val (.bool false))],[],0⟩) (QA []) ?_;refine Qk ?_;refine tr ?_;have hr:=Option.some.inj h;rw [← hr];refine ⟨_,(.tmp .nil),?_⟩;refine ⟨(.one rfl rfl .nil),[.val (.bool false)],[],by simp [Cat.cells,Cone.cells,Ends.cells,Fn.cells,UA,U1,IA,I1,LA,L1,BA,B1,EA,E1,E2,eB,eI,eL],by simp,(UpL.refl _)⟩
 have g8:¬ (b1=true):=gQ;clear g;replace h:=if_r g8 h;refine Qd ?_;refine tn ?_;refine Q3 ?_;refine Q3 ?_;refine runQ hN fun K hK=>?_;simp [-Q0,-Q4,-Q1,-Q5,-Q2];repeat refine sdQ ?_
 refine hK _ ?_;clear hK K;refine tn ?_;refine Q8 (st':=⟨[(0,.rptr (Fn.cells true d_)),(3,.adr 0 0 0),(5,.rptr [iV d_.t.n,lI d_.t.fr,lI d_.t.to,lI d_.t.id,.lst true 1 (Ls d_.t.cs),lI d_.ob,lI d_.ar]),(42,lI p_.l),(43,iV (p_.l.length:Int)),(44,iV 0)],[(0,.mix 2 [(Cone.cells true p_)])],1⟩) (QA [(0,0)]) ?_;replace h:=bind_some h;obtain ⟨e9,h,h9⟩:=h;refine Qh (fun b9:Unit=>⟨[(0,.rptr (Fn.cells true d_)),(3,.adr 0 0 0),(5,.rptr [iV d_.t.n,lI d_.t.fr,lI d_.t.to,lI d_.t.id,.lst true 1 (Ls d_.t.cs),lI d_.ob,lI d_.ar])],[(0,.mix 2 [(Cone.cells true p_)])],1⟩) (fun b9=>Sum.inl b9=e9) ?_ ?_
 ·refine Qa ?_;refine Qw h (fun s16:Int=>⟨[(0,.rptr (Fn.cells true d_)),(3,.adr 0 0 0),(5,.rptr [iV d_.t.n,lI d_.t.fr,lI d_.t.to,lI d_.t.id,.lst true 1 (Ls d_.t.cs),lI d_.ob,lI d_.ar]),(42,lI p_.l),(43,iV (p_.l.length:Int)),(44,iV s16)],[(0,.mix 2 [(Cone.cells true p_)])],1⟩) (QA [(0,0)]) ?_;clear h;intro k16 s16 c16 h hk16;refine Q3 ?_;refine runQ hN fun K hK=>?_;simp [-Q0,-Q4,-Q1,-Q5,-Q2];repeat refine sdQ ?_
  refine hK _ ?_;clear hK K;refine tn ?_;refine Q8 (st':=⟨[(0,.rptr (Fn.cells true d_)),(3,.adr 0 0 0),(5,.rptr [iV d_.t.n,lI d_.t.fr,lI d_.t.to,lI d_.t.id,.lst true 1 (Ls d_.t.cs),lI d_.ob,lI d_.ar]),(42,lI p_.l),(43,iV (p_.l.length:Int)),(44,iV s16),(45,.val (.bool (decide (s16<(p_.l.length:Int)))))],[(0,.mix 2 [(Cone.cells true p_)])],1⟩) (QA [(0,0)]) ?_;refine Q3 ?_;refine Qc rfl (fun g=>?_) fun g=>?_
  ·have g17:s16<(p_.l.length:Int):=gQ;clear g;replace h:=if_l g17 h;refine Qd ?_;refine tn ?_;refine Q3 ?_;refine Qa ?_;refine Q3 ?_;refine runQ hN fun K hK=>?_;replace h:=Q6 h;obtain ⟨a18,h⟩:=h;simp [-Q0,-Q4,-Q1,-Q5,-Q2,at_I a18];(repeat refine sdQ ?_);refine hK _ ?_;clear hK K;refine tn ?_;refine Q8 (st':=⟨[(0,.rptr (Fn.cells true d_)),(3,.adr 0 0 0),(5,.rptr [iV d_.t.n,lI d_.t.fr,lI d_.t.to,lI d_.t.id,.lst true 1 (Ls d_.t.cs),lI d_.ob,lI d_.ar]),(6,iV s16),(7,iV (ix p_.l s16)),(42,lI p_.l),(43,iV (p_.l.length:Int)),(44,iV s16)],[(0,.mix 2 [(Cone.cells true p_)])],1⟩) (QA [(0,0)]) ?_;refine Q3 ?_;refine runQ hN fun K hK=>?_;simp [-Q0,-Q4,-Q1,-Q5,-Q2];(repeat with_reducible refine sdQ ?_);replace h:=bind_some h;obtain ⟨v19,hv19,h⟩:=h;refine Q7 (Q45 _ _ v19 hv19) (.cons (.preT (by simp [Cat.cells,Cone.cells,Ends.cells,Fn.cells])) (.cons .val .nil)) ?_;replace h:=Q6 h;obtain ⟨a20,h⟩:=h;simp [-Q0,-Q4,-Q1,-Q5,-Q2,unk,unA,unE,unT,unC,flat,at_I a20];(repeat refine sdQ ?_);refine hK _ ?_;clear hK K;refine tn ?_;refine Q8 (st':=⟨[(0,.rptr (Fn.cells true d_)),(3,.adr 0 0 0),(5,.rptr [iV d_.t.n,lI d_.t.fr,lI d_.t.to,lI d_.t.id,.lst true 1 (Ls d_.t.cs),lI d_.ob,lI d_.ar]),(42,lI p_.l),(43,iV (p_.l.length:Int)),(44,iV s16),(62,.val (.bool (!([v19.a,v19.b] == [p_.a,ix d_.ob s16]))))],[(0,.mix 2 [(Cone.cells true p_)])],1⟩) (QA [(0,0)]) ?_;refine Qc rfl (fun g=>?_) fun g=>?_
   ·have g21:¬ (v19.a=p_.a∧v19.b=ix d_.ob s16):=gQ;clear g;replace h:=if_l g21 h;refine Q3 ?_;refine runQ hN fun K hK=>?_;simp [-Q0,-Q4,-Q1,-Q5,-Q2];(repeat refine sdQ ?_);refine hK _ ?_;clear hK K;refine tn ?_;refine Q8 (st':=⟨[(4,.val (.bool false))],[],0⟩) (QA []) ?_;refine Qk ?_;refine br ?_;refine tr ?_;refine lr ?_;refine br ?_;refine tr ?_;cases h;have q:_=e9:=hk16;have h:=h9;rw [← q] at h;clear q;(try dsimp only at h);have hr:=Option.some.inj h;rw [← hr];refine ⟨_,(.tmp .nil),?_⟩;refine ⟨(.one rfl rfl .nil),[.val (.bool false)],[],by simp [Cat.cells,Cone.cells,Ends.cells,Fn.cells,UA,U1,IA,I1,LA,L1,BA,B1,EA,E1,E2,eB,eI,eL],by simp,(UpL.refl _)⟩
   have g21:¬ (¬ (v19.a=p_.a∧v19.b=ix d_.ob s16)):=gQ;clear g;replace h:=if_r g21 h;refine Qd ?_;refine bn ?_;refine tn ?_;refine runQ hN fun K hK=>?_;replace h:=Q6 h;obtain ⟨a22,h⟩:=h;simp [-Q0,-Q4,-Q1,-Q5,-Q2,Qs a22];(repeat refine sdQ ?_);refine hK _ ?_;clear hK K;cases h;exact rn (s':=s16+1) hk16 (QA [(0,0)])
  have g17:¬ (s16<(p_.l.length:Int)):=gQ;clear g;replace h:=if_r g17 h;refine Qq ?_;refine tx ?_;refine lx ?_;refine bh ?_;cases h;exact jn (b:=()) hk16 (QA [(0,0)])
 intro b9 hb9;have h:=h9;try rw [← hb9] at h
 clear h9;try dsimp only at h
 refine Q3 ?_;refine Q3 ?_;refine runQ hN fun K hK=>?_;simp [-Q0,-Q4,-Q1,-Q5,-Q2];repeat refine sdQ ?_
 refine hK _ ?_;clear hK K;refine tn ?_;refine Q8 (st':=⟨[(0,.rptr (Fn.cells true d_)),(3,.adr 0 0 0),(5,.rptr [iV d_.t.n,lI d_.t.fr,lI d_.t.to,lI d_.t.id,.lst true 1 (Ls d_.t.cs),lI d_.ob,lI d_.ar]),(67,lI d_.ar),(68,iV (d_.ar.length:Int)),(69,iV 0)],[(0,.mix 2 [(Cone.cells true p_)])],1⟩) (QA [(0,0)]) ?_;replace h:=bind_some h;obtain ⟨e23,h,h23⟩:=h;refine Qh (fun b23:Unit=>⟨[],[],0⟩) (fun b23=>Sum.inl b23=e23) ?_ ?_
 ·refine Qa ?_;refine Qw h (fun s33:Int=>⟨[(0,.rptr (Fn.cells true d_)),(3,.adr 0 0 0),(5,.rptr [iV d_.t.n,lI d_.t.fr,lI d_.t.to,lI d_.t.id,.lst true 1 (Ls d_.t.cs),lI d_.ob,lI d_.ar]),(67,lI d_.ar),(68,iV (d_.ar.length:Int)),(69,iV s33)],[(0,.mix 2 [(Cone.cells true p_)])],1⟩) (QA [(0,0)]) ?_;clear h;intro k33 s33 c33 h hk33;refine Q3 ?_;refine runQ hN fun K hK=>?_;simp [-Q0,-Q4,-Q1,-Q5,-Q2];repeat refine sdQ ?_
  refine hK _ ?_;clear hK K;refine tn ?_;refine Q8 (st':=⟨[(0,.rptr (Fn.cells true d_)),(3,.adr 0 0 0),(5,.rptr [iV d_.t.n,lI d_.t.fr,lI d_.t.to,lI d_.t.id,.lst true 1 (Ls d_.t.cs),lI d_.ob,lI d_.ar]),(67,lI d_.ar),(68,iV (d_.ar.length:Int)),(69,iV s33),(70,.val (.bool (decide (s33<(d_.ar.length:Int)))))],[(0,.mix 2 [(Cone.cells true p_)])],1⟩) (QA [(0,0)]) ?_;refine Q3 ?_;refine Qc rfl (fun g=>?_) fun g=>?_
  ·have g34:s33<(d_.ar.length:Int):=gQ;clear g;replace h:=if_l g34 h;refine Qd ?_;refine tn ?_;refine Q3 ?_;refine Qa ?_;refine Q3 ?_;refine runQ hN fun K hK=>?_;replace h:=Q6 h;obtain ⟨a35,h⟩:=h;simp [-Q0,-Q4,-Q1,-Q5,-Q2,at_I a35];(repeat refine sdQ ?_);refine hK _ ?_;clear hK K;refine tn ?_;refine Q8 (st':=⟨[(0,.rptr (Fn.cells true d_)),(3,.adr 0 0 0),(5,.rptr [iV d_.t.n,lI d_.t.fr,lI d_.t.to,lI d_.t.id,.lst true 1 (Ls d_.t.cs),lI d_.ob,lI d_.ar]),(8,iV s33),(9,iV (ix d_.ar s33)),(67,lI d_.ar),(68,iV (d_.ar.length:Int)),(69,iV s33)],[(0,.mix 2 [(Cone.cells true p_)])],1⟩) (QA [(0,0)]) ?_;refine Q3 ?_;refine runQ hN fun K hK=>?_;replace h:=Q6 h;obtain ⟨a36,h⟩:=h;replace h:=Q6 h;obtain ⟨a37,h⟩:=h;simp [-Q0,-Q4,-Q1,-Q5,-Q2,at_I a36,at_I a37];(repeat with_reducible refine sdQ ?_);replace h:=bind_some h;obtain ⟨v38,hv38,h⟩:=h;refine Q7 (Q15 _ _ _ v38 hv38) (.cons (.preT (by simp [Cat.cells,Cone.cells,Ends.cells,Fn.cells])) (.cons .val (.cons .val .nil))) ?_;replace h:=Q6 h;obtain ⟨a39,h⟩:=h;replace h:=Q6 h;obtain ⟨a40,h⟩:=h;simp [-Q0,-Q4,-Q1,-Q5,-Q2,unk,unA,unE,unT,unC,flat,at_I a36,at_I a37,at_I a39,at_I a40];(repeat refine sdQ ?_);refine hK _ ?_;clear hK K;refine tn ?_;refine Q8 (st':=⟨[(0,.rptr (Fn.cells true d_)),(3,.adr 0 0 0),(5,.rptr [iV d_.t.n,lI d_.t.fr,lI d_.t.to,lI d_.t.id,.lst true 1 (Ls d_.t.cs),lI d_.ob,lI d_.ar]),(67,lI d_.ar),(68,iV (d_.ar.length:Int)),(69,iV s33),(101,.val (.bool (v38 != (ix p_.l (ix d_.s.to s33)))))],[(0,.mix 2 [(Cone.cells true p_)])],1⟩) (QA [(0,0)]) ?_;refine Qc rfl (fun g=>?_) fun g=>?_
   ·have g41:¬ (v38=(ix p_.l (ix d_.s.to s33))):=gQ;clear g;replace h:=if_l g41 h;refine Q3 ?_;refine runQ hN fun K hK=>?_;simp [-Q0,-Q4,-Q1,-Q5,-Q2];(repeat refine sdQ ?_);refine hK _ ?_;clear hK K;refine tn ?_;refine Q8 (st':=⟨[(4,.val (.bool false))],[],0⟩) (QA []) ?_;refine Qk ?_;refine br ?_;refine tr ?_;refine lr ?_;refine br ?_;refine tr ?_;cases h;have q:_=e23:=hk33;have h:=h23;rw [← q] at h;clear q;(try dsimp only at h);have hr:=Option.some.inj h;rw [← hr];refine ⟨_,(.tmp .nil),?_⟩;refine ⟨(.one rfl rfl .nil),[.val (.bool false)],[],by simp [Cat.cells,Cone.cells,Ends.cells,Fn.cells,UA,U1,IA,I1,LA,L1,BA,B1,EA,E1,E2,eB,eI,eL],by simp,(UpL.refl _)⟩
   have g41:¬ (¬ (v38=(ix p_.l (ix d_.s.to s33)))):=gQ;clear g;replace h:=if_r g41 h;refine Qd ?_;refine bn ?_;refine tn ?_;refine runQ hN fun K hK=>?_;replace h:=Q6 h;obtain ⟨a42,h⟩:=h;simp [-Q0,-Q4,-Q1,-Q5,-Q2,Qs a42];(repeat refine sdQ ?_);refine hK _ ?_;clear hK K;cases h;exact rn (s':=s33+1) hk33 (QA [(0,0)])
  have g34:¬ (s33<(d_.ar.length:Int)):=gQ;clear g;replace h:=if_r g34 h;refine Qq ?_;refine tx ?_;refine lx ?_;refine bh ?_;cases h;exact jn (b:=()) hk33 (QA [])
 intro b23 hb23;have h:=h23;try rw [← hb23] at h
 clear h23;try dsimp only at h
 refine Q3 ?_;refine runQ hN fun K hK=>?_;simp [-Q0,-Q4,-Q1,-Q5,-Q2];repeat refine sdQ ?_
 refine hK _ ?_;clear hK K;refine tn ?_;refine Q8 (st':=⟨[(4,.val (.bool true))],[],0⟩) (QA []) ?_;refine Qk ?_;have hr:=Option.some.inj h;rw [← hr];refine ⟨_,(.tmp .nil),?_⟩;refine ⟨(.one rfl rfl .nil),[.val (.bool true)],[],by simp [Cat.cells,Cone.cells,Ends.cells,Fn.cells,UA,U1,IA,I1,LA,L1,BA,B1,EA,E1,E2,eB,eI,eL],by simp,(UpL.refl _)⟩
attribute [local simp] eL eI Qv Q1C Q1t QD Cone.cells Fn.cells XCocones.cells
noncomputable def Q20 (s_:XCocones) (list_:List Cone):Option Int :=
 (QB (σ:=Int) (ε:=Unit ⊕ Int) (fun s8 =>
  if s8<(list_.length:Int) then
   ass (0≤s8∧s8<(list_.length:Int)) <|
   (QH s_).bind fun v11 =>
   (Q2F v11 (gx list_ s8)).bind fun v12 =>
   if ¬ (v12=true) then
    some (Ctl.ret (Sum.inr 5))
   else
    ass (B64 (s8+1)) <|
    some (Ctl.next (s8+1))
  else
   some (Ctl.ret (Sum.inl ()))) fuel 0).bind fun e1 =>
 match e1 with
 | .inl b1 =>
  some 0
 | .inr p1 =>
  some p1
theorem Q6C (s_:XCocones) (list_:List Cone) (r:Int) (h:Q20 s_ list_=some r):Contract Try.prog 127 [.ifc 160 (s_.cells true),.lst true 2 (Es (Cone.cells true) list_)] (iV r):=by
 refine Qe (rvs:=[.tmp 4]) (rs:=[iV r]) Try.func127 rfl rfl rfl rfl (by simp [Try.f127]) fun F hN hP=>?_;unfold Q20 at h;refine Q3 ?_;refine runQ hN fun K hK=>?_;simp [-Q0,-Q4,-Q1,-Q5,-Q2];repeat refine sdQ ?_
 refine hK _ ?_;clear hK K;refine tn ?_;refine Q8 (st':=⟨[(0,.ifc 160 [.rptr (Fn.cells true s_.opposite_)]),(1,.lst true 2 (Es (Cone.cells true) list_))],[],0⟩) (QA []) ?_;refine Q3 ?_;refine Q3 ?_;refine runQ hN fun K hK=>?_;simp [-Q0,-Q4,-Q1,-Q5,-Q2];repeat refine sdQ ?_
 refine hK _ ?_;clear hK K;refine tn ?_;refine Q8 (st':=⟨[(0,.ifc 160 [.rptr (Fn.cells true s_.opposite_)]),(7,.lst true 2 (Es (Cone.cells true) list_)),(8,iV (list_.length:Int)),(9,iV 0)],[],0⟩) (QA []) ?_;replace h:=bind_some h;obtain ⟨e1,h,h1⟩:=h;refine Qh (fun b1:Unit=>⟨[],[],0⟩) (fun b1=>Sum.inl b1=e1) ?_ ?_
 ·refine Qa ?_;refine Qw h (fun s8:Int=>⟨[(0,.ifc 160 [.rptr (Fn.cells true s_.opposite_)]),(7,.lst true 2 (Es (Cone.cells true) list_)),(8,iV (list_.length:Int)),(9,iV s8)],[],0⟩) (QA []) ?_;clear h;intro k8 s8 c8 h hk8;refine Q3 ?_;refine runQ hN fun K hK=>?_;simp [-Q0,-Q4,-Q1,-Q5,-Q2];repeat refine sdQ ?_
  refine hK _ ?_;clear hK K;refine tn ?_;refine Q8 (st':=⟨[(0,.ifc 160 [.rptr (Fn.cells true s_.opposite_)]),(7,.lst true 2 (Es (Cone.cells true) list_)),(8,iV (list_.length:Int)),(9,iV s8),(10,.val (.bool (decide (s8<(list_.length:Int)))))],[],0⟩) (QA []) ?_;refine Q3 ?_;refine Qc rfl (fun g=>?_) fun g=>?_
  ·have g9:s8<(list_.length:Int):=gQ;clear g;replace h:=if_l g9 h;refine Qd ?_;refine tn ?_;refine Q3 ?_;refine Qa ?_;refine Q3 ?_;refine runQ hN fun K hK=>?_;replace h:=Q6 h;obtain ⟨a10,h⟩:=h;simp [-Q0,-Q4,-Q1,-Q5,-Q2,at_E (c:=(Cone.cells true)) a10];(repeat refine sdQ ?_);refine hK _ ?_;clear hK K;refine tn ?_;refine Q8 (st':=⟨[(0,.ifc 160 [.rptr (Fn.cells true s_.opposite_)]),(6,.adr 0 0 0),(7,.lst true 2 (Es (Cone.cells true) list_)),(8,iV (list_.length:Int)),(9,iV s8)],[(0,.mix 2 [(Cone.cells true (gx list_ s8))])],1⟩) (QA [(0,0)]) ?_;refine Q3 ?_;refine Qr [] mo (by rw [hN];decide) fun K hK=>?_;simp [-Q0,-Q4,-Q1,-Q5,-Q2];(repeat with_reducible refine sdQ ?_);replace h:=bind_some h;obtain ⟨v11,hv11,h⟩:=h;refine Q4y (fz:=[]) true (Q1v _ v11 hv11) (PurK.ofN (.cons (.aggL (.cons (.preT (by simp [Cone.cells,Fn.cells,XCocones.cells])) .nil)) .nil)) ?_;simp [-Q0,-Q4,-Q1,-Q5,-Q2,unk,unA,unE,unT,unC,flat];(repeat with_reducible refine sdQ ?_);replace h:=bind_some h;obtain ⟨v12,hv12,h⟩:=h;refine QG (fz:=[]) (Q8q _ _ v12 hv12) (.cons (.preT (by simp [Cone.cells,Fn.cells,XCocones.cells])) (.cons (.aggL (.cons .val (.cons .lst .nil))) .nil)) ?_;simp [-Q0,-Q4,-Q1,-Q5,-Q2,unk,unA,unE,unT,unC,flat];(repeat refine sdQ ?_);refine hK _ ?_;clear hK K;refine tn ?_;refine Q8 (st':=⟨[(0,.ifc 160 [.rptr (Fn.cells true s_.opposite_)]),(7,.lst true 2 (Es (Cone.cells true) list_)),(8,iV (list_.length:Int)),(9,iV s8),(17,.val (.bool (!v12)))],[],0⟩) (QA []) ?_;refine Qc rfl (fun g=>?_) fun g=>?_
   ·have g13:¬ (v12=true):=gQ;clear g;replace h:=if_l g13 h;refine Q3 ?_;refine runQ hN fun K hK=>?_;simp [-Q0,-Q4,-Q1,-Q5,-Q2];(repeat refine sdQ ?_);refine hK _ ?_;clear hK K;refine tn ?_;refine Q8 (st':=⟨[(4,iV 5)],[],0⟩) (QA []) ?_;refine Qk ?_;refine br ?_;refine tr ?_;refine lr ?_;refine br ?_;refine tr ?_;cases h;have q:_=e1:=hk8;have h:=h1;rw [← q] at h;clear q;(try dsimp only at h);have hr:=Option.some.inj h;rw [← hr];refine ⟨_,(.tmp .nil),?_⟩;refine ⟨(.one rfl rfl .nil),[iV 5],[],by simp [Cone.cells,Fn.cells,XCocones.cells,UA,U1,IA,I1,LA,L1,BA,B1,EA,E1,E2,eB,eI,eL,Qf _ QD _ (fun _=>rfl),Qf _ (Cone.cells true) _ (fun _=>rfl)],by simp,(UpL.refl _)⟩
   have g13:¬ (¬ (v12=true)):=gQ;clear g;replace h:=if_r g13 h;refine Qd ?_;refine bn ?_;refine tn ?_;refine runQ hN fun K hK=>?_;replace h:=Q6 h;obtain ⟨a14,h⟩:=h;simp [-Q0,-Q4,-Q1,-Q5,-Q2,Qs a14];(repeat refine sdQ ?_);refine hK _ ?_;clear hK K;cases h;exact rn (s':=s8+1) hk8 (QA [])
  have g9:¬ (s8<(list_.length:Int)):=gQ;clear g;replace h:=if_r g9 h;refine Qq ?_;refine tx ?_;refine lx ?_;refine bh ?_;cases h;exact jn (b:=()) hk8 (QA [])
 intro b1 hb1;have h:=h1;try rw [← hb1] at h
 clear h1;try dsimp only at h
 refine Q3 ?_;refine runQ hN fun K hK=>?_;simp [-Q0,-Q4,-Q1,-Q5,-Q2];repeat refine sdQ ?_
 refine hK _ ?_;clear hK K;refine tn ?_;refine Q8 (st':=⟨[(4,iV 0)],[],0⟩) (QA []) ?_;refine Qk ?_;have hr:=Option.some.inj h;rw [← hr];refine ⟨_,(.tmp .nil),?_⟩;refine ⟨(.one rfl rfl .nil),[iV 0],[],by simp [Cone.cells,Fn.cells,XCocones.cells,UA,U1,IA,I1,LA,L1,BA,B1,EA,E1,E2,eB,eI,eL,Qf _ QD _ (fun _=>rfl),Qf _ (Cone.cells true) _ (fun _=>rfl)],by simp,(UpL.refl _)⟩
attribute [local simp] eL eI Qv Q1C Q1t QD Cone.cells Fn.cells XCocones.cells
noncomputable def Q1G (s_:XCocones) (p_:Cone):Option (Bool × Int) :=
 (Q20 s_ [p_]).bind fun v1 =>
 if ¬ (v1=0) then
  some (false,v1)
 else
  (QH s_).bind fun v3 =>
  (Q1Z v3).bind fun v4 =>
  if ¬ (v4.2=true) then
   some (false,3)
  else
   (QH s_).bind fun v6 =>
   (Q1k v6 v4.1 p_).bind fun v7 =>
   some (v7,0)
theorem Q5U (s_:XCocones) (p_:Cone) (r:Bool × Int) (h:Q1G s_ p_=some r):Contract Try.prog 83 [.ifc 160 (s_.cells true),.agg (p_.cells true)] (.tup [.val (.bool r.1),iV r.2]):=by
 refine Qe (rvs:=[.tmp 4,.tmp 5]) (rs:=[.val (.bool r.1),iV r.2]) Try.func83 rfl rfl rfl rfl (by simp [Try.f83]) fun F hN hP=>?_;unfold Q1G at h;refine Q3 ?_;refine runQ hN fun K hK=>?_;simp [-Q0,-Q4,-Q1,-Q5,-Q2];repeat refine sdQ ?_
 refine hK _ ?_;clear hK K;refine tn ?_;refine Q8 (st':=⟨[(0,.ifc 160 [.rptr (Fn.cells true s_.opposite_)]),(3,.adr 0 0 0)],[(0,.mix 2 [(Cone.cells true p_)])],1⟩) (QA [(0,0)]) ?_;refine Q3 ?_;refine Q3 ?_;refine runQ hN fun K hK=>?_;simp [-Q0,-Q4,-Q1,-Q5,-Q2];repeat with_reducible refine sdQ ?_
 replace h:=bind_some h;obtain ⟨v1,hv1,h⟩:=h;refine Q7 (Q6C _ _ v1 hv1) (.cons (.ifcL (by simp [Cone.cells,Fn.cells,XCocones.cells]) (.cons (.preT (by simp [Cone.cells,Fn.cells,XCocones.cells])) .nil)) (.cons (.lits (es:=_) rfl (.cons rfl (.cons .val (.cons .lst .nil)) .nil) rfl) .nil)) ?_;simp [-Q0,-Q4,-Q1,-Q5,-Q2,unk,unA,unE,unT,unC,flat];repeat refine sdQ ?_
 refine hK _ ?_;clear hK K;refine tn ?_;refine Q8 (st':=⟨[(0,.ifc 160 [.rptr (Fn.cells true s_.opposite_)]),(3,.adr 0 0 0),(6,iV v1)],[(0,.mix 2 [(Cone.cells true p_)])],1⟩) (QA [(0,0)]) ?_;refine Q3 ?_;refine runQ hN fun K hK=>?_;simp [-Q0,-Q4,-Q1,-Q5,-Q2];repeat refine sdQ ?_
 refine hK _ ?_;clear hK K;refine tn ?_;refine Q8 (st':=⟨[(0,.ifc 160 [.rptr (Fn.cells true s_.opposite_)]),(3,.adr 0 0 0),(6,iV v1),(14,.val (.bool (v1 != 0)))],[(0,.mix 2 [(Cone.cells true p_)])],1⟩) (QA [(0,0)]) ?_;refine Qc rfl (fun g=>?_) fun g=>?_
 ·have g2:¬ (v1=0):=gQ;clear g;replace h:=if_l g2 h;refine Q3 ?_;refine runQ hN fun K hK=>?_;simp [-Q0,-Q4,-Q1,-Q5,-Q2];repeat refine sdQ ?_
  refine hK _ ?_;clear hK K;refine tn ?_;refine Q8 (st':=⟨[(4,.val (.bool false)),(5,iV v1)],[],0⟩) (QA []) ?_;refine Qk ?_;refine tr ?_;have hr:=Option.some.inj h;rw [← hr];refine ⟨_,(.tmp (.tmp .nil)),?_⟩;refine ⟨(.one rfl rfl (.one rfl rfl .nil)),[.val (.bool false),iV v1],[],by simp [Cone.cells,Fn.cells,XCocones.cells,UA,U1,IA,I1,LA,L1,BA,B1,EA,E1,E2,eB,eI,eL,Qf _ QD _ (fun _=>rfl),Qf _ (Cone.cells true) _ (fun _=>rfl)],by simp,(UpL.refl _)⟩
 have g2:¬ (¬ (v1=0)):=gQ;clear g;replace h:=if_r g2 h;refine Qd ?_;refine tn ?_;refine Q3 ?_;refine Qr [] mo (by rw [hN];decide) fun K hK=>?_;simp [-Q0,-Q4,-Q1,-Q5,-Q2];repeat with_reducible refine sdQ ?_
 replace h:=bind_some h;obtain ⟨v3,hv3,h⟩:=h;refine Q4y (fz:=[]) true (Q1v _ v3 hv3) (PurK.ofN (.cons (.aggL (.cons (.preT (by simp [Cone.cells,Fn.cells,XCocones.cells])) .nil)) .nil)) ?_;simp [-Q0,-Q4,-Q1,-Q5,-Q2,unk,unA,unE,unT,unC,flat];repeat with_reducible refine sdQ ?_
 replace h:=bind_some h;obtain ⟨v4,hv4,h⟩:=h;refine QG (fz:=[]) (Q6B _ v4 hv4) (.cons (.preT (by simp [Cone.cells,Fn.cells,XCocones.cells])) .nil) ?_;simp [-Q0,-Q4,-Q1,-Q5,-Q2,unk,unA,unE,unT,unC,flat];repeat refine sdQ ?_
 refine hK _ ?_;clear hK K;refine tn ?_;refine Q8 (st':=⟨[(0,.ifc 160 [.rptr (Fn.cells true s_.opposite_)]),(3,.adr 0 0 0),(7,.own 1 0 v4.1.length),(8,.val (.bool v4.2))],[(0,.mix 2 [(Cone.cells true p_)]),(1,.row 2 (Es (Cone.cells true) v4.1))],2⟩) (QA [(0,0),(1,1)]) ?_;refine Q3 ?_;refine Q3 ?_;refine runQ hN fun K hK=>?_;simp [-Q0,-Q4,-Q1,-Q5,-Q2];repeat refine sdQ ?_
 refine hK _ ?_;clear hK K;refine tn ?_;refine Q8 (st':=⟨[(0,.ifc 160 [.rptr (Fn.cells true s_.opposite_)]),(3,.adr 0 0 0),(7,.own 1 0 v4.1.length),(23,.val (.bool (!v4.2)))],[(0,.mix 2 [(Cone.cells true p_)]),(1,.row 2 (Es (Cone.cells true) v4.1))],2⟩) (QA [(0,0),(1,1)]) ?_;refine Qc rfl (fun g=>?_) fun g=>?_
 ·have g5:¬ (v4.2=true):=gQ;clear g;replace h:=if_l g5 h;refine Q3 ?_;refine runQ hN fun K hK=>?_;simp [-Q0,-Q4,-Q1,-Q5,-Q2];repeat refine sdQ ?_
  refine hK _ ?_;clear hK K;refine tn ?_;refine Q8 (st':=⟨[(4,.val (.bool false)),(5,iV 3)],[],0⟩) (QA []) ?_;refine Qk ?_;refine tr ?_;have hr:=Option.some.inj h;rw [← hr];refine ⟨_,(.tmp (.tmp .nil)),?_⟩;refine ⟨(.one rfl rfl (.one rfl rfl .nil)),[.val (.bool false),iV 3],[],by simp [Cone.cells,Fn.cells,XCocones.cells,UA,U1,IA,I1,LA,L1,BA,B1,EA,E1,E2,eB,eI,eL,Qf _ QD _ (fun _=>rfl),Qf _ (Cone.cells true) _ (fun _=>rfl)],by simp,(UpL.refl _)⟩
 have g5:¬ (¬ (v4.2=true)):=gQ;clear g;replace h:=if_r g5 h;refine Qd ?_;refine tn ?_;refine Q3 ?_;refine Qr [] mo (by rw [hN];decide) fun K hK=>?_;simp [-Q0,-Q4,-Q1,-Q5,-Q2];repeat with_reducible refine sdQ ?_
 replace h:=bind_some h;obtain ⟨v6,hv6,h⟩:=h;refine Q4y (fz:=[]) true (Q1v _ v6 hv6) (PurK.ofN (.cons (.aggL (.cons (.preT (by simp [Cone.cells,Fn.cells,XCocones.cells])) .nil)) .nil)) ?_;simp [-Q0,-Q4,-Q1,-Q5,-Q2,unk,unA,unE,unT,unC,flat];repeat with_reducible refine sdQ ?_
 replace h:=bind_some h;obtain ⟨v7,hv7,h⟩:=h;refine QG (fz:=[]) (Q4U _ _ _ v7 hv7) (.cons (.preT (by simp [Cone.cells,Fn.cells,XCocones.cells])) (.cons (.whole (by simp) (by simp) (by simp)) (.cons (.aggL (.cons .val (.cons .lst .nil))) .nil))) ?_;simp [-Q0,-Q4,-Q1,-Q5,-Q2,unk,unA,unE,unT,unC,flat];repeat refine sdQ ?_
 refine hK _ ?_;clear hK K;refine tn ?_;refine Q8 (st':=⟨[(4,.val (.bool v7)),(5,iV 0)],[],0⟩) (QA []) ?_;refine Qk ?_;have hr:=Option.some.inj h;rw [← hr];refine ⟨_,(.tmp (.tmp .nil)),?_⟩;refine ⟨(.one rfl rfl (.one rfl rfl .nil)),[.val (.bool v7),iV 0],[],by simp [Cone.cells,Fn.cells,XCocones.cells,UA,U1,IA,I1,LA,L1,BA,B1,EA,E1,E2,eB,eI,eL,Qf _ QD _ (fun _=>rfl),Qf _ (Cone.cells true) _ (fun _=>rfl)],by simp,(UpL.refl _)⟩
attribute [local simp] eL eI Qv Q1C Q1t QD Cone.cells Fn.cells XCocones.cells
noncomputable def Q29 (d_:Fn) (p_:Cone):Option (Bool × Int) :=
 (QL d_).bind fun v1 =>
 if ¬ (v1=true) then
  some (false,1)
 else
  (Q1F d_).bind fun v3 =>
  (Q1G v3 p_).bind fun v4 =>
  some (v4.1,v4.2)
theorem Q5S (d_:Fn) (p_:Cone) (r:Bool × Int) (h:Q29 d_ p_=some r):Contract Try.prog 34 [.agg (d_.cells true),.agg (p_.cells true)] (.tup [.val (.bool r.1),iV r.2]):=by
 refine Qe (rvs:=[.tmp 4,.tmp 5]) (rs:=[.val (.bool r.1),iV r.2]) Try.func34 rfl rfl rfl rfl (by simp [Try.f34]) fun F hN hP=>?_;unfold Q29 at h;refine Q3 ?_;refine Qr [2,3] mo (by rw [hN];decide) fun K hK=>?_;simp [-Q0,-Q4,-Q1,-Q5,-Q2];repeat refine sdQ ?_
 refine hK _ ?_;clear hK K;refine tn ?_;refine Q8 (st':=⟨[(2,.rptr (Fn.cells true d_)),(3,.rptr (Cone.cells true p_))],[],0⟩) (QA []) ?_;refine Q3 ?_;refine Q3 ?_;refine runQ hN fun K hK=>?_;simp [-Q0,-Q4,-Q1,-Q5,-Q2];repeat with_reducible refine sdQ ?_
 replace h:=bind_some h;obtain ⟨v1,hv1,h⟩:=h;refine Q7 (Q3g _ v1 hv1) (.cons (.preT (by simp [Cone.cells,Fn.cells])) .nil) ?_;simp [-Q0,-Q4,-Q1,-Q5,-Q2,unk,unA,unE,unT,unC,flat];repeat refine sdQ ?_
 refine hK _ ?_;clear hK K;refine tn ?_;refine Q8 (st':=⟨[(2,.rptr (Fn.cells true d_)),(3,.rptr (Cone.cells true p_)),(7,.val (.bool (!v1)))],[],0⟩) (QA []) ?_;refine Qc rfl (fun g=>?_) fun g=>?_
 ·have g2:¬ (v1=true):=gQ;clear g;replace h:=if_l g2 h;refine Q3 ?_;refine runQ hN fun K hK=>?_;simp [-Q0,-Q4,-Q1,-Q5,-Q2];repeat refine sdQ ?_
  refine hK _ ?_;clear hK K;refine tn ?_;refine Q8 (st':=⟨[(4,.val (.bool false)),(5,iV 1)],[],0⟩) (QA []) ?_;refine Qk ?_;refine tr ?_;have hr:=Option.some.inj h;rw [← hr];refine ⟨_,(.tmp (.tmp .nil)),?_⟩;refine ⟨(.one rfl rfl (.one rfl rfl .nil)),[.val (.bool false),iV 1],[],by simp [Cone.cells,Fn.cells,XCocones.cells,UA,U1,IA,I1,LA,L1,BA,B1,EA,E1,E2,eB,eI,eL,Qf _ QD _ (fun _=>rfl)],by simp,(UpL.refl _)⟩
 have g2:¬ (¬ (v1=true)):=gQ;clear g;replace h:=if_r g2 h;refine Qd ?_;refine tn ?_;refine Q3 ?_;refine Qr [] mo (by rw [hN];decide) fun K hK=>?_;simp [-Q0,-Q4,-Q1,-Q5,-Q2];repeat with_reducible refine sdQ ?_
 replace h:=bind_some h;obtain ⟨v3,hv3,h⟩:=h;refine Q3J (fz:=[]) true (Q5T _ v3 hv3) (PurK.ofN (.cons (.preT (by simp [Cone.cells,Fn.cells])) .nil)) ?_;simp [-Q0,-Q4,-Q1,-Q5,-Q2,unk,unA,unE,unT,unC,flat];repeat with_reducible refine sdQ ?_
 replace h:=bind_some h;obtain ⟨v4,hv4,h⟩:=h;refine QG (fz:=[]) (Q5U _ _ v4 hv4) (.cons (.ifcL (by simp [Cone.cells,Fn.cells,XCocones.cells]) (.cons (.preT (by simp [Cone.cells,Fn.cells,XCocones.cells])) .nil)) (.cons (.aggL (.cons .val (.cons .lst .nil))) .nil)) ?_;simp [-Q0,-Q4,-Q1,-Q5,-Q2,unk,unA,unE,unT,unC,flat];repeat refine sdQ ?_
 refine hK _ ?_;clear hK K;refine tn ?_;refine Q8 (st':=⟨[(4,.val (.bool v4.1)),(5,iV v4.2)],[],0⟩) (QA []) ?_;refine Qk ?_;have hr:=Option.some.inj h;rw [← hr];refine ⟨_,(.tmp (.tmp .nil)),?_⟩;refine ⟨(.one rfl rfl (.one rfl rfl .nil)),[.val (.bool v4.1),iV v4.2],[],by simp [Cone.cells,Fn.cells,XCocones.cells,UA,U1,IA,I1,LA,L1,BA,B1,EA,E1,E2,eB,eI,eL,Qf _ QD _ (fun _=>rfl)],by simp,(UpL.refl _)⟩
attribute [local simp] eL eI Qv QI Q1C Q1t Cat.cells Cone.cells Fn.cells
noncomputable def Q2o (d_:Fn) (p_:Cone):Option Bool :=
 (
  (Q1H d_.t p_.a).bind fun v2 =>
  if ¬ (v2=true) then
   some true
  else
   if ¬ ((p_.l.length:Int)=(d_.ob.length:Int)) then
    some true
   else
    (Q1g (d_.t.fr.length:Int) p_.l).bind fun v5 =>
    some (!v5):Option (Bool)).bind fun b1 =>
 if b1=true then
  some false
 else
  (QB (σ:=Int) (ε:=Unit ⊕ Bool) (fun s18 =>
   if s18<(p_.l.length:Int) then
    (
     ass (0≤s18∧s18<(p_.l.length:Int)) <|
     ass (0≤ix p_.l s18∧ix p_.l s18<(d_.t.fr.length:Int)) <|
     if ¬ ((ix d_.t.fr (ix p_.l s18))=p_.a) then
      some true
     else
      ass (0≤s18∧s18<(p_.l.length:Int)) <|
      ass (0≤ix p_.l s18∧ix p_.l s18<(d_.t.to.length:Int)) <|
      ass (0≤s18∧s18<(d_.ob.length:Int)) <|
      some ((ix d_.t.to (ix p_.l s18)) != (ix d_.ob s18)):Option (Bool)).bind fun b20 =>
    if b20=true then
     some (Ctl.ret (Sum.inr false))
    else
     ass (B64 (s18+1)) <|
     some (Ctl.next (s18+1))
   else
    some (Ctl.ret (Sum.inl ()))) fuel 0).bind fun e7 =>
  match e7 with
  | .inl b7 =>
   (QB (σ:=Int) (ε:=Unit ⊕ Bool) (fun s39 =>
    if s39<(d_.ar.length:Int) then
     ass (0≤s39∧s39<(d_.s.fr.length:Int)) <|
     ass (0≤ix d_.s.fr s39∧ix d_.s.fr s39<(p_.l.length:Int)) <|
     ass (0≤s39∧s39<(d_.ar.length:Int)) <|
     (QT d_.t (ix p_.l (ix d_.s.fr s39)) (ix d_.ar s39)).bind fun v44 =>
     ass (0≤s39∧s39<(d_.s.to.length:Int)) <|
     ass (0≤ix d_.s.to s39∧ix d_.s.to s39<(p_.l.length:Int)) <|
     if ¬ (v44=(ix p_.l (ix d_.s.to s39))) then
      some (Ctl.ret (Sum.inr false))
     else
      ass (B64 (s39+1)) <|
      some (Ctl.next (s39+1))
    else
     some (Ctl.ret (Sum.inl ()))) fuel 0).bind fun e29 =>
   match e29 with
   | .inl b29 =>
    some true
   | .inr p29 =>
    some p29
  | .inr p7 =>
   some p7
theorem Q7k (d_:Fn) (p_:Cone) (r:Bool) (h:Q2o d_ p_=some r):Contract Try.prog 124 [.agg (d_.cells true),.agg (p_.cells true)] (.val (.bool r)):=by
 refine Qe (rvs:=[.tmp 4]) (rs:=[.val (.bool r)]) Try.func124 rfl rfl rfl rfl (by simp [Try.f124]) fun F hN hP=>?_;unfold Q2o at h;refine Q3 ?_;refine runQ hN fun K hK=>?_;simp [-Q0,-Q4,-Q1,-Q5,-Q2];repeat refine sdQ ?_
 refine hK _ ?_;clear hK K;refine tn ?_;refine Q8 (st':=⟨[(2,.adr 0 0 0),(3,.adr 1 0 0)],[(0,.mix 12 [(Fn.cells true d_)]),(1,.mix 2 [(Cone.cells true p_)])],2⟩) (QA [(0,0),(1,1)]) ?_;refine Q3 ?_;refine runQ hN fun K hK=>?_;simp [-Q0,-Q4,-Q1,-Q5,-Q2];repeat refine sdQ ?_
 refine hK _ ?_;clear hK K;refine tn ?_;refine Q8 (st':=⟨[(2,.adr 0 0 0),(3,.adr 1 0 0),(5,.adr 2 0 0)],[(0,.mix 12 [(Fn.cells true d_)]),(1,.mix 2 [(Cone.cells true p_)]),(2,.mix 5 [(Cat.cells true d_.t)])],3⟩) (QA [(0,0),(1,1),(2,2)]) ?_;refine Q3 ?_;refine Q3 ?_;replace h:=bind_some h;obtain ⟨e1,h,h1⟩:=h;refine Qh (fun b1:Bool=>⟨[(2,.adr 0 0 0),(3,.adr 1 0 0),(5,.adr 2 0 0),(32,.val (.bool b1))],[(0,.mix 12 [(Fn.cells true d_)]),(1,.mix 2 [(Cone.cells true p_)]),(2,.mix 5 [(Cat.cells true d_.t)])],3⟩) (fun b1=>b1=e1) ?_ ?_
 ·refine runQ hN fun K hK=>?_;simp [-Q0,-Q4,-Q1,-Q5,-Q2];repeat with_reducible refine sdQ ?_
  replace h:=bind_some h;obtain ⟨v2,hv2,h⟩:=h;refine Q7 (Q5X _ _ v2 hv2) (.cons (.aggL (.cons .val (.cons .lst (.cons .lst (.cons .lst (.cons .lst .nil)))))) (.cons .val .nil)) ?_;simp [-Q0,-Q4,-Q1,-Q5,-Q2,unk,unA,unE,unT,unC,flat];repeat with_reducible refine sdQ ?_
  refine Ql (fun g=>?_) (fun g=>?_)
  ·have g3:¬ (¬ (v2=true)):=gQ;clear g;replace h:=if_r g3 h;simp [-Q0,-Q4,-Q1,-Q5,-Q2];(repeat with_reducible refine sdQ ?_);refine Ql (fun g=>?_) (fun g=>?_)
   ·have g4:¬ (¬ ((p_.l.length:Int)=(d_.ob.length:Int))):=gQ;clear g;replace h:=if_r g4 h;simp [-Q0,-Q4,-Q1,-Q5,-Q2];(repeat with_reducible refine sdQ ?_);replace h:=bind_some h;obtain ⟨v5,hv5,h⟩:=h;refine Q7 (Q48 _ _ v5 hv5) (.cons .val (.cons .lst .nil)) ?_;simp [-Q0,-Q4,-Q1,-Q5,-Q2,unk,unA,unE,unT,unC,flat];(repeat refine sdQ ?_);refine hK _ ?_;exact jn (b:=!v5) (Option.some.inj h) (QA [(0,0),(1,1),(2,2)])
   have g4:¬ ((p_.l.length:Int)=(d_.ob.length:Int)):=gQ;clear g;replace h:=if_l g4 h;simp [-Q0,-Q4,-Q1,-Q5,-Q2];(repeat refine sdQ ?_);refine hK _ ?_;exact jn (b:=true) (Option.some.inj h) (QA [(0,0),(1,1),(2,2)])
  have g3:¬ (v2=true):=gQ;clear g;replace h:=if_l g3 h;simp [-Q0,-Q4,-Q1,-Q5,-Q2];repeat refine sdQ ?_
  refine hK _ ?_;exact jn (b:=true) (Option.some.inj h) (QA [(0,0),(1,1),(2,2)])
 intro b1 hb1;have h:=h1;try rw [← hb1] at h
 clear h1;try dsimp only at h
 refine Qc rfl (fun g=>?_) fun g=>?_
 ·have g6:b1=true:=gQ;clear g;replace h:=if_l g6 h;refine Q3 ?_;refine runQ hN fun K hK=>?_;simp [-Q0,-Q4,-Q1,-Q5,-Q2];repeat refine sdQ ?_
  refine hK _ ?_;clear hK K;refine tn ?_;refine Q8 (st':=⟨[(4,.val (.bool false))],[],0⟩) (QA []) ?_;refine Qk ?_;refine tr ?_;have hr:=Option.some.inj h;rw [← hr];refine ⟨_,(.tmp .nil),?_⟩;refine ⟨(.one rfl rfl .nil),[.val (.bool false)],[],by simp [Cat.cells,Cone.cells,Fn.cells,UA,U1,IA,I1,LA,L1,BA,B1,EA,E1,E2,eB,eI,eL],by simp,(UpL.refl _)⟩
 have g6:¬ (b1=true):=gQ;clear g;replace h:=if_r g6 h;refine Qd ?_;refine tn ?_;refine Q3 ?_;refine Q3 ?_;refine runQ hN fun K hK=>?_;simp [-Q0,-Q4,-Q1,-Q5,-Q2];repeat refine sdQ ?_
 refine hK _ ?_;clear hK K;refine tn ?_;refine Q8 (st':=⟨[(2,.adr 0 0 0),(3,.adr 1 0 0),(5,.adr 2 0 0),(6,iV 0)],[(0,.mix 12 [(Fn.cells true d_)]),(1,.mix 2 [(Cone.cells true p_)]),(2,.mix 5 [(Cat.cells true d_.t)])],3⟩) (QA [(0,0),(1,1),(2,2)]) ?_;replace h:=bind_some h;obtain ⟨e7,h,h7⟩:=h;refine Qh (fun b7:Unit=>⟨[(2,.adr 0 0 0),(3,.adr 1 0 0),(5,.adr 2 0 0)],[(0,.mix 12 [(Fn.cells true d_)]),(1,.mix 2 [(Cone.cells true p_)]),(2,.mix 5 [(Cat.cells true d_.t)])],3⟩) (fun b7=>Sum.inl b7=e7) ?_ ?_
 ·refine Qa ?_;refine Qw h (fun s18:Int=>⟨[(2,.adr 0 0 0),(3,.adr 1 0 0),(5,.adr 2 0 0),(6,iV s18)],[(0,.mix 12 [(Fn.cells true d_)]),(1,.mix 2 [(Cone.cells true p_)]),(2,.mix 5 [(Cat.cells true d_.t)])],3⟩) (QA [(0,0),(1,1),(2,2)]) ?_;clear h;intro k18 s18 c18 h hk18;refine Q3 ?_;refine Q3 ?_;refine runQ hN fun K hK=>?_;simp [-Q0,-Q4,-Q1,-Q5,-Q2];repeat refine sdQ ?_
  refine hK _ ?_;clear hK K;refine tn ?_;refine Q8 (st':=⟨[(2,.adr 0 0 0),(3,.adr 1 0 0),(5,.adr 2 0 0),(6,iV s18),(37,.val (.bool (decide (s18<(p_.l.length:Int)))))],[(0,.mix 12 [(Fn.cells true d_)]),(1,.mix 2 [(Cone.cells true p_)]),(2,.mix 5 [(Cat.cells true d_.t)])],3⟩) (QA [(0,0),(1,1),(2,2)]) ?_;refine Qc rfl (fun g=>?_) fun g=>?_
  ·have g19:s18<(p_.l.length:Int):=gQ;clear g;replace h:=if_l g19 h;refine Qd ?_;refine tn ?_;refine Q3 ?_;refine Qa ?_;refine Q3 ?_;replace h:=bind_some h;obtain ⟨e20,h,h20⟩:=h;refine Qh (fun b20:Bool=>⟨[(2,.adr 0 0 0),(3,.adr 1 0 0),(5,.adr 2 0 0),(6,iV s18),(68,.val (.bool b20))],[(0,.mix 12 [(Fn.cells true d_)]),(1,.mix 2 [(Cone.cells true p_)]),(2,.mix 5 [(Cat.cells true d_.t)])],3⟩) (fun b20=>b20=e20) ?_ ?_
   ·refine runQ hN fun K hK=>?_;replace h:=Q6 h;obtain ⟨a21,h⟩:=h;replace h:=Q6 h;obtain ⟨a22,h⟩:=h;simp [-Q0,-Q4,-Q1,-Q5,-Q2,at_I a21,at_I a22];(repeat with_reducible refine sdQ ?_);refine Ql (fun g=>?_) (fun g=>?_)
    ·have g23:¬ (¬ ((ix d_.t.fr (ix p_.l s18))=p_.a)):=gQ;clear g;replace h:=if_r g23 h;replace h:=Q6 h;obtain ⟨a24,h⟩:=h;replace h:=Q6 h;obtain ⟨a25,h⟩:=h;replace h:=Q6 h;obtain ⟨a26,h⟩:=h;simp [-Q0,-Q4,-Q1,-Q5,-Q2,at_I a21,at_I a22,at_I a24,at_I a25,at_I a26];(repeat refine sdQ ?_);refine hK _ ?_;exact jn (b:=(ix d_.t.to (ix p_.l s18)) != (ix d_.ob s18)) (Option.some.inj h) (QA [(0,0),(1,1),(2,2)])
    have g23:¬ ((ix d_.t.fr (ix p_.l s18))=p_.a):=gQ;clear g;replace h:=if_l g23 h;simp [-Q0,-Q4,-Q1,-Q5,-Q2,at_I a21,at_I a22];(repeat refine sdQ ?_);refine hK _ ?_;exact jn (b:=true) (Option.some.inj h) (QA [(0,0),(1,1),(2,2)])
   intro b20 hb20;have h:=h20;(try rw [← hb20] at h);clear h20;(try dsimp only at h);refine Qc rfl (fun g=>?_) fun g=>?_
   ·have g27:b20=true:=gQ;clear g;replace h:=if_l g27 h;refine Q3 ?_;refine runQ hN fun K hK=>?_;simp [-Q0,-Q4,-Q1,-Q5,-Q2];(repeat refine sdQ ?_);refine hK _ ?_;clear hK K;refine tn ?_;refine Q8 (st':=⟨[(4,.val (.bool false))],[],0⟩) (QA []) ?_;refine Qk ?_;refine br ?_;refine tr ?_;refine lr ?_;refine br ?_;refine tr ?_;cases h;have q:_=e7:=hk18;have h:=h7;rw [← q] at h;clear q;(try dsimp only at h);have hr:=Option.some.inj h;rw [← hr];refine ⟨_,(.tmp .nil),?_⟩;refine ⟨(.one rfl rfl .nil),[.val (.bool false)],[],by simp [Cat.cells,Cone.cells,Fn.cells,UA,U1,IA,I1,LA,L1,BA,B1,EA,E1,E2,eB,eI,eL],by simp,(UpL.refl _)⟩
   have g27:¬ (b20=true):=gQ;clear g;replace h:=if_r g27 h;refine Qd ?_;refine bn ?_;refine tn ?_;refine runQ hN fun K hK=>?_;replace h:=Q6 h;obtain ⟨a28,h⟩:=h;simp [-Q0,-Q4,-Q1,-Q5,-Q2,Qs a28];(repeat refine sdQ ?_);refine hK _ ?_;clear hK K;cases h;exact rn (s':=s18+1) hk18 (QA [(0,0),(1,1),(2,2)])
  have g19:¬ (s18<(p_.l.length:Int)):=gQ;clear g;replace h:=if_r g19 h;refine Qq ?_;refine tx ?_;refine lx ?_;refine bh ?_;cases h;exact jn (b:=()) hk18 (QA [(0,0),(1,1),(2,2)])
 intro b7 hb7;have h:=h7;try rw [← hb7] at h
 clear h7;try dsimp only at h
 refine Q3 ?_;refine Q3 ?_;refine runQ hN fun K hK=>?_;simp [-Q0,-Q4,-Q1,-Q5,-Q2];repeat refine sdQ ?_
 refine hK _ ?_;clear hK K;refine tn ?_;refine Q8 (st':=⟨[(2,.adr 0 0 0),(3,.adr 1 0 0),(5,.adr 2 0 0),(7,iV 0)],[(0,.mix 12 [(Fn.cells true d_)]),(1,.mix 2 [(Cone.cells true p_)]),(2,.mix 5 [(Cat.cells true d_.t)])],3⟩) (QA [(0,0),(1,1),(2,2)]) ?_;replace h:=bind_some h;obtain ⟨e29,h,h29⟩:=h;refine Qh (fun b29:Unit=>⟨[],[],0⟩) (fun b29=>Sum.inl b29=e29) ?_ ?_
 ·refine Qa ?_;refine Qw h (fun s39:Int=>⟨[(2,.adr 0 0 0),(3,.adr 1 0 0),(5,.adr 2 0 0),(7,iV s39)],[(0,.mix 12 [(Fn.cells true d_)]),(1,.mix 2 [(Cone.cells true p_)]),(2,.mix 5 [(Cat.cells true d_.t)])],3⟩) (QA [(0,0),(1,1),(2,2)]) ?_;clear h;intro k39 s39 c39 h hk39;refine Q3 ?_;refine Q3 ?_;refine runQ hN fun K hK=>?_;simp [-Q0,-Q4,-Q1,-Q5,-Q2];repeat refine sdQ ?_
  refine hK _ ?_;clear hK K;refine tn ?_;refine Q8 (st':=⟨[(2,.adr 0 0 0),(3,.adr 1 0 0),(5,.adr 2 0 0),(7,iV s39),(73,.val (.bool (decide (s39<(d_.ar.length:Int)))))],[(0,.mix 12 [(Fn.cells true d_)]),(1,.mix 2 [(Cone.cells true p_)]),(2,.mix 5 [(Cat.cells true d_.t)])],3⟩) (QA [(0,0),(1,1),(2,2)]) ?_;refine Qc rfl (fun g=>?_) fun g=>?_
  ·have g40:s39<(d_.ar.length:Int):=gQ;clear g;replace h:=if_l g40 h;refine Qd ?_;refine tn ?_;refine Q3 ?_;refine Qa ?_;refine Q3 ?_;refine runQ hN fun K hK=>?_;replace h:=Q6 h;obtain ⟨a41,h⟩:=h;replace h:=Q6 h;obtain ⟨a42,h⟩:=h;replace h:=Q6 h;obtain ⟨a43,h⟩:=h;simp [-Q0,-Q4,-Q1,-Q5,-Q2,at_I a41,at_I a42,at_I a43];(repeat with_reducible refine sdQ ?_);replace h:=bind_some h;obtain ⟨v44,hv44,h⟩:=h;refine Q7 (Q4V _ _ _ v44 hv44) (.cons (.aggL (.cons .val (.cons .lst (.cons .lst (.cons .lst (.cons .lst .nil)))))) (.cons .val (.cons .val .nil))) ?_;replace h:=Q6 h;obtain ⟨a45,h⟩:=h;replace h:=Q6 h;obtain ⟨a46,h⟩:=h;simp [-Q0,-Q4,-Q1,-Q5,-Q2,unk,unA,unE,unT,unC,flat,at_I a41,at_I a42,at_I a43,at_I a45,at_I a46];(repeat refine sdQ ?_);refine hK _ ?_;clear hK K;refine tn ?_;refine Q8 (st':=⟨[(2,.adr 0 0 0),(3,.adr 1 0 0),(5,.adr 2 0 0),(7,iV s39),(103,.val (.bool (v44 != (ix p_.l (ix d_.s.to s39)))))],[(0,.mix 12 [(Fn.cells true d_)]),(1,.mix 2 [(Cone.cells true p_)]),(2,.mix 5 [(Cat.cells true d_.t)])],3⟩) (QA [(0,0),(1,1),(2,2)]) ?_;refine Qc rfl (fun g=>?_) fun g=>?_
   ·have g47:¬ (v44=(ix p_.l (ix d_.s.to s39))):=gQ;clear g;replace h:=if_l g47 h;refine Q3 ?_;refine runQ hN fun K hK=>?_;simp [-Q0,-Q4,-Q1,-Q5,-Q2];(repeat refine sdQ ?_);refine hK _ ?_;clear hK K;refine tn ?_;refine Q8 (st':=⟨[(4,.val (.bool false))],[],0⟩) (QA []) ?_;refine Qk ?_;refine br ?_;refine tr ?_;refine lr ?_;refine br ?_;refine tr ?_;cases h;have q:_=e29:=hk39;have h:=h29;rw [← q] at h;clear q;(try dsimp only at h);have hr:=Option.some.inj h;rw [← hr];refine ⟨_,(.tmp .nil),?_⟩;refine ⟨(.one rfl rfl .nil),[.val (.bool false)],[],by simp [Cat.cells,Cone.cells,Fn.cells,UA,U1,IA,I1,LA,L1,BA,B1,EA,E1,E2,eB,eI,eL],by simp,(UpL.refl _)⟩
   have g47:¬ (¬ (v44=(ix p_.l (ix d_.s.to s39)))):=gQ;clear g;replace h:=if_r g47 h;refine Qd ?_;refine bn ?_;refine tn ?_;refine runQ hN fun K hK=>?_;replace h:=Q6 h;obtain ⟨a48,h⟩:=h;simp [-Q0,-Q4,-Q1,-Q5,-Q2,Qs a48];(repeat refine sdQ ?_);refine hK _ ?_;clear hK K;cases h;exact rn (s':=s39+1) hk39 (QA [(0,0),(1,1),(2,2)])
  have g40:¬ (s39<(d_.ar.length:Int)):=gQ;clear g;replace h:=if_r g40 h;refine Qq ?_;refine tx ?_;refine lx ?_;refine bh ?_;cases h;exact jn (b:=()) hk39 (QA [])
 intro b29 hb29;have h:=h29;try rw [← hb29] at h
 clear h29;try dsimp only at h
 refine Q3 ?_;refine runQ hN fun K hK=>?_;simp [-Q0,-Q4,-Q1,-Q5,-Q2];repeat refine sdQ ?_
 refine hK _ ?_;clear hK K;refine tn ?_;refine Q8 (st':=⟨[(4,.val (.bool true))],[],0⟩) (QA []) ?_;refine Qk ?_;have hr:=Option.some.inj h;rw [← hr];refine ⟨_,(.tmp .nil),?_⟩;refine ⟨(.one rfl rfl .nil),[.val (.bool true)],[],by simp [Cat.cells,Cone.cells,Fn.cells,UA,U1,IA,I1,LA,L1,BA,B1,EA,E1,E2,eB,eI,eL],by simp,(UpL.refl _)⟩
attribute [local simp] eL eI Qv Q1C Q1t Cone.cells Fn.cells
noncomputable def Q3d (d_:Fn) (p_:Cone):Option (Bool × Int) :=
 (Q2o d_ p_).bind fun v1 =>
 if ¬ (v1=true) then
  some (false,5)
 else
  (Q2p d_).bind fun v3 =>
  (
   (Q1b d_ v3.1 p_).bind fun v5 =>
   if v5=true then
    some (v3.2 == 0)
   else
    some false:Option (Bool)).bind fun b4 =>
  some (b4,v3.2)
theorem w_s_l12Is (d_:Fn) (p_:Cone) (r:Bool × Int) (h:Q3d d_ p_=some r):Contract Try.prog 81 [.agg (d_.cells true),.agg (p_.cells true)] (.tup [.val (.bool r.1),iV r.2]):=by
 refine Qe (rvs:=[.tmp 4,.tmp 5]) (rs:=[.val (.bool r.1),iV r.2]) Try.func81 rfl rfl rfl rfl (by simp [Try.f81]) fun F hN hP=>?_;unfold Q3d at h;refine Q3 ?_;refine runQ hN fun K hK=>?_;simp [-Q0,-Q4,-Q1,-Q5,-Q2];repeat refine sdQ ?_
 refine hK _ ?_;clear hK K;refine tn ?_;refine Q8 (st':=⟨[(2,.adr 0 0 0),(3,.adr 1 0 0)],[(0,.mix 12 [(Fn.cells true d_)]),(1,.mix 2 [(Cone.cells true p_)])],2⟩) (QA [(0,0),(1,1)]) ?_;refine Q3 ?_;refine Q3 ?_;refine runQ hN fun K hK=>?_;simp [-Q0,-Q4,-Q1,-Q5,-Q2];repeat with_reducible refine sdQ ?_
 replace h:=bind_some h;obtain ⟨v1,hv1,h⟩:=h;refine Q7 (Q7k _ _ v1 hv1) (.cons (.aggL (.cons .val (.cons .lst (.cons .lst (.cons .lst (.cons .lst (.cons .val (.cons .lst (.cons .lst (.cons .lst (.cons .lst (.cons .lst (.cons .lst .nil))))))))))))) (.cons (.aggL (.cons .val (.cons .lst .nil))) .nil)) ?_;simp [-Q0,-Q4,-Q1,-Q5,-Q2,unk,unA,unE,unT,unC,flat];repeat refine sdQ ?_
 refine hK _ ?_;clear hK K;refine tn ?_;refine Q8 (st':=⟨[(2,.adr 0 0 0),(3,.adr 1 0 0),(11,.val (.bool (!v1)))],[(0,.mix 12 [(Fn.cells true d_)]),(1,.mix 2 [(Cone.cells true p_)])],2⟩) (QA [(0,0),(1,1)]) ?_;refine Qc rfl (fun g=>?_) fun g=>?_
 ·have g2:¬ (v1=true):=gQ;clear g;replace h:=if_l g2 h;refine Q3 ?_;refine runQ hN fun K hK=>?_;simp [-Q0,-Q4,-Q1,-Q5,-Q2];repeat refine sdQ ?_
  refine hK _ ?_;clear hK K;refine tn ?_;refine Q8 (st':=⟨[(4,.val (.bool false)),(5,iV 5)],[],0⟩) (QA []) ?_;refine Qk ?_;refine tr ?_;have hr:=Option.some.inj h;rw [← hr];refine ⟨_,(.tmp (.tmp .nil)),?_⟩;refine ⟨(.one rfl rfl (.one rfl rfl .nil)),[.val (.bool false),iV 5],[],by simp [Cone.cells,Fn.cells,UA,U1,IA,I1,LA,L1,BA,B1,EA,E1,E2,eB,eI,eL,Qf _ (Cone.cells true) _ (fun _=>rfl)],by simp,(UpL.refl _)⟩
 have g2:¬ (¬ (v1=true)):=gQ;clear g;replace h:=if_r g2 h;refine Qd ?_;refine tn ?_;refine Q3 ?_;refine Qr [] mo (by rw [hN];decide) fun K hK=>?_;simp [-Q0,-Q4,-Q1,-Q5,-Q2];repeat with_reducible refine sdQ ?_
 replace h:=bind_some h;obtain ⟨v3,hv3,h⟩:=h;refine Q3J (fz:=[]) true (Q7l _ v3 hv3) (PurK.ofN (.cons (.aggL (.cons .val (.cons .lst (.cons .lst (.cons .lst (.cons .lst (.cons .val (.cons .lst (.cons .lst (.cons .lst (.cons .lst (.cons .lst (.cons .lst .nil))))))))))))) .nil)) ?_;simp [-Q0,-Q4,-Q1,-Q5,-Q2,unk,unA,unE,unT,unC,flat];repeat refine sdQ ?_
 refine hK _ ?_;clear hK K;refine tn ?_;refine Q8 (st':=⟨[(2,.adr 0 0 0),(3,.adr 1 0 0),(6,.lst true 2 (Es (Cone.cells true) v3.1)),(7,iV v3.2)],[(0,.mix 12 [(Fn.cells true d_)]),(1,.mix 2 [(Cone.cells true p_)])],2⟩) (QA [(0,0),(1,1)]) ?_;refine Q3 ?_;replace h:=bind_some h;obtain ⟨e4,h,h4⟩:=h;refine Qh (fun b4:Bool=>⟨[(4,.val (.bool b4)),(5,iV v3.2)],[],0⟩) (fun b4=>b4=e4) ?_ ?_
 ·refine runQ hN fun K hK=>?_;simp [-Q0,-Q4,-Q1,-Q5,-Q2];repeat with_reducible refine sdQ ?_
  replace h:=bind_some h;obtain ⟨v5,hv5,h⟩:=h;refine Q7 (Q4r _ _ _ v5 hv5) (.cons (.aggL (.cons .val (.cons .lst (.cons .lst (.cons .lst (.cons .lst (.cons .val (.cons .lst (.cons .lst (.cons .lst (.cons .lst (.cons .lst (.cons .lst .nil))))))))))))) (.cons .lst (.cons (.aggL (.cons .val (.cons .lst .nil))) .nil))) ?_;simp [-Q0,-Q4,-Q1,-Q5,-Q2,unk,unA,unE,unT,unC,flat];repeat with_reducible refine sdQ ?_
  refine Ql (fun g=>?_) (fun g=>?_)
  ·have g6:v5=true:=gQ;clear g;replace h:=if_l g6 h;simp [-Q0,-Q4,-Q1,-Q5,-Q2];(repeat refine sdQ ?_);refine hK _ ?_;exact jn (b:=v3.2 == 0) (Option.some.inj h) (QA [])
  have g6:¬ (v5=true):=gQ;clear g;replace h:=if_r g6 h;simp [-Q0,-Q4,-Q1,-Q5,-Q2];repeat refine sdQ ?_
  refine hK _ ?_;exact jn (b:=false) (Option.some.inj h) (QA [])
 intro b4 hb4;have h:=h4;try rw [← hb4] at h
 clear h4;try dsimp only at h
 refine Qk ?_;have hr:=Option.some.inj h;rw [← hr];refine ⟨_,(.tmp (.tmp .nil)),?_⟩;refine ⟨(.one rfl rfl (.one rfl rfl .nil)),[.val (.bool b4),iV v3.2],[],by simp [Cone.cells,Fn.cells,UA,U1,IA,I1,LA,L1,BA,B1,EA,E1,E2,eB,eI,eL,Qf _ (Cone.cells true) _ (fun _=>rfl)],by simp,(UpL.refl _)⟩
attribute [local simp] eL eI Qv Q1C Q1t Cone.cells Fn.cells
noncomputable def Q2a (d_:Fn) (p_:Cone):Option (Bool × Int) :=
 (Q3b d_).bind fun v1 =>
 if ¬ (v1=true) then
  some (false,1)
 else
  (Q3c d_).bind fun v3 =>
  (Q3d v3 p_).bind fun v4 =>
  some (v4.1,v4.2)
theorem Q5W (d_:Fn) (p_:Cone) (r:Bool × Int) (h:Q2a d_ p_=some r):Contract Try.prog 32 [.agg (d_.cells true),.agg (p_.cells true)] (.tup [.val (.bool r.1),iV r.2]):=by
 refine Qe (rvs:=[.tmp 4,.tmp 5]) (rs:=[.val (.bool r.1),iV r.2]) Try.func32 rfl rfl rfl rfl (by simp [Try.f32]) fun F hN hP=>?_;unfold Q2a at h;refine Q3 ?_;refine runQ hN fun K hK=>?_;simp [-Q0,-Q4,-Q1,-Q5,-Q2];repeat refine sdQ ?_
 refine hK _ ?_;clear hK K;refine tn ?_;refine Q8 (st':=⟨[(2,.adr 0 0 0),(3,.adr 1 0 0)],[(0,.mix 12 [(Fn.cells true d_)]),(1,.mix 2 [(Cone.cells true p_)])],2⟩) (QA [(0,0),(1,1)]) ?_;refine Q3 ?_;refine Q3 ?_;refine runQ hN fun K hK=>?_;simp [-Q0,-Q4,-Q1,-Q5,-Q2];repeat with_reducible refine sdQ ?_
 replace h:=bind_some h;obtain ⟨v1,hv1,h⟩:=h;refine Q7 (w_s_l06Is _ v1 hv1) (.cons (.aggL (.cons .val (.cons .lst (.cons .lst (.cons .lst (.cons .lst (.cons .val (.cons .lst (.cons .lst (.cons .lst (.cons .lst (.cons .lst (.cons .lst .nil))))))))))))) .nil) ?_;simp [-Q0,-Q4,-Q1,-Q5,-Q2,unk,unA,unE,unT,unC,flat];repeat refine sdQ ?_
 refine hK _ ?_;clear hK K;refine tn ?_;refine Q8 (st':=⟨[(2,.adr 0 0 0),(3,.adr 1 0 0),(8,.val (.bool (!v1)))],[(0,.mix 12 [(Fn.cells true d_)]),(1,.mix 2 [(Cone.cells true p_)])],2⟩) (QA [(0,0),(1,1)]) ?_;refine Qc rfl (fun g=>?_) fun g=>?_
 ·have g2:¬ (v1=true):=gQ;clear g;replace h:=if_l g2 h;refine Q3 ?_;refine runQ hN fun K hK=>?_;simp [-Q0,-Q4,-Q1,-Q5,-Q2];repeat refine sdQ ?_
  refine hK _ ?_;clear hK K;refine tn ?_;refine Q8 (st':=⟨[(4,.val (.bool false)),(5,iV 1)],[],0⟩) (QA []) ?_;refine Qk ?_;refine tr ?_;have hr:=Option.some.inj h;rw [← hr];refine ⟨_,(.tmp (.tmp .nil)),?_⟩;refine ⟨(.one rfl rfl (.one rfl rfl .nil)),[.val (.bool false),iV 1],[],by simp [Cone.cells,Fn.cells,UA,U1,IA,I1,LA,L1,BA,B1,EA,E1,E2,eB,eI,eL],by simp,(UpL.refl _)⟩
 have g2:¬ (¬ (v1=true)):=gQ;clear g;replace h:=if_r g2 h;refine Qd ?_;refine tn ?_;refine Q3 ?_;refine runQ hN fun K hK=>?_;simp [-Q0,-Q4,-Q1,-Q5,-Q2];repeat with_reducible refine sdQ ?_
 replace h:=bind_some h;obtain ⟨v3,hv3,h⟩:=h;refine Q7 (w_s_l06Op _ v3 hv3) (.cons (.aggL (.cons .val (.cons .lst (.cons .lst (.cons .lst (.cons .lst (.cons .val (.cons .lst (.cons .lst (.cons .lst (.cons .lst (.cons .lst (.cons .lst .nil))))))))))))) .nil) ?_;simp [-Q0,-Q4,-Q1,-Q5,-Q2,unk,unA,unE,unT,unC,flat];repeat with_reducible refine sdQ ?_
 replace h:=bind_some h;obtain ⟨v4,hv4,h⟩:=h;refine Q7 (w_s_l12Is _ _ v4 hv4) (.cons (.aggL (.cons .val (.cons (.whole (by simp) (by simp) (by simp)) (.cons (.whole (by simp) (by simp) (by simp)) (.cons (.whole (by simp) (by simp) (by simp)) (.cons (.whole (by simp) (by simp) (by simp)) (.cons .val (.cons (.whole (by simp) (by simp) (by simp)) (.cons (.whole (by simp) (by simp) (by simp)) (.cons (.whole (by simp) (by simp) (by simp)) (.cons (.whole (by simp) (by simp) (by simp)) (.cons (.whole (by simp) (by simp) (by simp)) (.cons (.whole (by simp) (by simp) (by simp)) .nil))))))))))))) (.cons (.aggL (.cons .val (.cons .lst .nil))) .nil)) ?_;simp [-Q0,-Q4,-Q1,-Q5,-Q2,unk,unA,unE,unT,unC,flat];repeat refine sdQ ?_
 refine hK _ ?_;clear hK K;refine tn ?_;refine Q8 (st':=⟨[(4,.val (.bool v4.1)),(5,iV v4.2)],[],0⟩) (QA []) ?_;refine Qk ?_;have hr:=Option.some.inj h;rw [← hr];refine ⟨_,(.tmp (.tmp .nil)),?_⟩;refine ⟨(.one rfl rfl (.one rfl rfl .nil)),[.val (.bool v4.1),iV v4.2],[],by simp [Cone.cells,Fn.cells,UA,U1,IA,I1,LA,L1,BA,B1,EA,E1,E2,eB,eI,eL],by simp,(UpL.refl _)⟩
def isC (d:Fn) (p:Cone):Prop:=(0≤p.a∧p.a<d.t.n)∧p.l.length=d.ob.length∧LP d p.a p.l∧∀ a:Nat,a<d.ar.length→leq d p.l a
theorem e_isC {d:Fn} (hd:d.Is) (p:Cone):Q2o d p=some (bo (isC d p))∧Q2F d p=some (bo (isC d p)):=by
 obtain ⟨l1,l2,l3,l4,l5,l6,l7,l8⟩:=hd.fact;have n8:=hd.t.1.n8;have n0:=hd.t.1.n0;have lt:=hd.t.1.lt;have b2:B64 ((d.t.fr.length:Int) - 1):=⟨by omega,by omega⟩;unfold Q2o Q2F Q2R;rw [e_obj,Q9 (by unfold B64;omega)]
 by_cases h1:0≤p.a∧p.a<d.t.n
 case neg =>
  rw [Qz h1,Qz (p:=isC d p) (fun q=>h1 q.1)];have:(decide (0≤p.a) && decide (p.a≤d.t.n - 1))=false:=by simp;omega
  rw [this];simp
 have ht:(decide (0≤p.a) && decide (p.a≤d.t.n - 1))=true:=by simp;omega
 rw [QM h1,ht]
 by_cases h2:p.l.length=d.ob.length
 case neg =>
  have h2':¬ (p.l.length:Int)=(d.ob.length:Int):=by omega
  rw [Qz (p:=isC d p) (fun q=>h2 q.2.1)];simp [h2']
 by_cases h3:p.l.all (inR d.t.fr.length)=true
 case neg =>
  rw [Qz (p:=isC d p) (fun q=>h3 (all_inR.2 fun j hj=>(q.2.2.1 j hj).1))];simp [Q1g,Qu,Q1f,Q9 b2,(show (p.l.length:Int)=(d.ob.length:Int) by omega),h3]
 have bd:=all_inR.1 h3;have h2':(p.l.length:Int)=(d.ob.length:Int):=by omega
 simp only [Q1g,Qu,Q1f,Q9 b2,h2',h3,not_true_eq_false,if_false,Option.bind_some,Bool.not_true,Bool.false_eq_true];have second:LP d p.a p.l→((∀ a:Nat,a<d.ar.length→leq d p.l a)↔isC d p):=fun h=>⟨fun q=>⟨h1,h2,h,q⟩,fun q=>q.2.2.2⟩;have hthn:LP d p.a p.l→∀ a:Nat,a<d.ar.length→(0≤ix d.s.fr a∧ix d.s.fr a<(d.ob.length:Int))∧(0≤ix d.s.to a∧ix d.s.to a<(d.ob.length:Int))∧QT d.t (ix p.l (ix d.s.fr a)) (ix d.ar a)=some (ix (rx d.t.cs (ix p.l (ix d.s.fr a))) (ix d.ar a))∧Qn d.t (ix p.l (ix d.s.fr a)) (ix d.ar a)=some (ix (rx d.t.cs (ix p.l (ix d.s.fr a))) (ix d.ar a)):=by
  intro hLP a ha;obtain ⟨f1,f2,f3⟩:=l8 a ha;obtain ⟨r,hr⟩:=Int.eq_ofNat_of_zero_le f1.1;have A:=hLP r (by omega);rw [← hr] at A;exact ⟨f1,f2,(A.thn hd.t f3).1,(A.thn hd.t f3).2⟩
 constructor
 ·refine QV p.l.length (fun i=>ix d.t.fr (ix p.l i)=p.a∧ix d.t.to (ix p.l i)=ix d.ob i) (eb:=Sum.inr false) (eg:=Sum.inl ()) (by omega) (fun i hi hs=>?_) (fun i hi hs=>?_) (by rw [if_neg (by omega)]) (fun q=>?_) fun q=>?_
  ·have:=bd i hi;rw [if_pos (by omega),Q9 (by omega),Q9 (by omega),if_neg (by simp [hs.1]),Q9 (by omega),Q9 (by omega),Q9 (by omega),hs.2];simp only [bne_self_eq_false,Option.bind_some,Bool.false_eq_true,if_false];rw [Q9 (by unfold B64;omega)]
  ·have:=bd i hi;rw [if_pos (by omega),Q9 (by omega),Q9 (by omega)]
   by_cases hs1:ix d.t.fr (ix p.l i)=p.a
   ·have hs2:¬ ix d.t.to (ix p.l i)=ix d.ob i:=fun q=>hs ⟨hs1,q⟩;rw [if_neg (by simp [hs1]),Q9 (by omega),Q9 (by omega),Q9 (by omega)];simp [hs2]
   rw [if_pos hs1];simp
  ·rw [Qz (p:=isC d p) (fun r=>q fun i hi=>(r.2.2.1 i hi).2)]
  have hLP:LP d p.a p.l:=fun i hi=>⟨bd i hi,q i hi⟩;refine QV d.ar.length (leq d p.l) (eb:=Sum.inr false) (eg:=Sum.inl ()) (by omega) (fun a ha hs=>?_) (fun a ha hs=>?_) (by rw [if_neg (by omega)]) (fun r=>?_) fun r=>?_
  ·obtain ⟨f1,f2,f3,f4⟩:=hthn hLP a ha;rw [if_pos (by omega),Q9 (by omega),Q9 (by omega),Q9 (by omega),f3];simp only [Option.bind_some];unfold leq at hs;rw [Q9 (by omega),Q9 (by omega),if_neg (by simp [hs]),Q9 (by unfold B64;omega)]
  ·obtain ⟨f1,f2,f3,f4⟩:=hthn hLP a ha;rw [if_pos (by omega),Q9 (by omega),Q9 (by omega),Q9 (by omega),f3];simp only [Option.bind_some];unfold leq at hs;rw [Q9 (by omega),Q9 (by omega),if_pos hs]
  ·rw [Qz (fun z=>r ((second hLP).2 z))]
  rw [QM ((second hLP).1 r)]
 refine QV p.l.length (fun i=>ix d.t.fr (ix p.l i)=p.a∧ix d.t.to (ix p.l i)=ix d.ob i) (eb:=Sum.inr false) (eg:=Sum.inl ()) (by omega) (fun i hi hs=>?_) (fun i hi hs=>?_) (by rw [if_neg (by omega)]) (fun q=>?_) fun q=>?_
 ·have:=bd i hi;unfold Q13;rw [if_pos (by omega),Q9 (by omega),Q9 (by omega)];simp only [Option.bind_some];rw [Q9 (by omega),if_neg (by simp [hs.1,hs.2]),Q9 (by unfold B64;omega)]
 ·have:=bd i hi;unfold Q13;rw [if_pos (by omega),Q9 (by omega),Q9 (by omega)];simp only [Option.bind_some];rw [Q9 (by omega),if_pos hs]
 ·rw [Qz (p:=isC d p) (fun r=>q fun i hi=>(r.2.2.1 i hi).2)]
 have hLP:LP d p.a p.l:=fun i hi=>⟨bd i hi,q i hi⟩;refine QV d.ar.length (leq d p.l) (eb:=Sum.inr false) (eg:=Sum.inl ()) (by omega) (fun a ha hs=>?_) (fun a ha hs=>?_) (by rw [if_neg (by omega)]) (fun r=>?_) fun r=>?_
 ·obtain ⟨f1,f2,f3,f4⟩:=hthn hLP a ha;rw [if_pos (by omega),Q9 (by omega),Q9 (by omega),Q9 (by omega),f4];simp only [Option.bind_some];unfold leq at hs;rw [Q9 (by omega),Q9 (by omega),if_neg (by simp [hs]),Q9 (by unfold B64;omega)]
 ·obtain ⟨f1,f2,f3,f4⟩:=hthn hLP a ha;rw [if_pos (by omega),Q9 (by omega),Q9 (by omega),Q9 (by omega),f4];simp only [Option.bind_some];unfold leq at hs;rw [Q9 (by omega),Q9 (by omega),if_pos hs]
 ·rw [Qz (fun z=>r ((second hLP).2 z))]
 rw [QM ((second hLP).1 r)]
theorem isC.g {d:Fn} {p:Cone} (h:isC d p):p.G d:=⟨h.1,h.2.1,h.2.2.1⟩
theorem e_cocones {d:Fn} (h:d.Is):Q1F d=some ⟨opF d⟩:=by
 unfold Q1F;rw [(e_l06Op h).2];rfl
noncomputable def uvB (d:Fn) (p:Cone):Bool:=bo (isC d p∧(Q1N d).length≤400∧unv d (Q1N d) p)
noncomputable def uvC (d:Fn) (p:Cone):Int:=@ite _ (isC d p) (Classical.propDecidable _) (if (Q1N d).length≤400 then 0 else 3) 5
theorem e_l12Is {d:Fn} (hd:d.Is) (p:Cone):Q3d d p=some (uvB d p,uvC d p):=by
 unfold Q3d uvB uvC;rw [(e_isC hd p).1]
 by_cases h:isC d p
 case neg=>rw [Qz h,if_neg h,Qz (fun q=>h q.1)];simp
 rw [QM h,if_pos h,e_clist hd]
 by_cases hc:(Q1N d).length≤400
 ·rw [if_pos hc,if_pos hc];simp only [Option.bind_some,not_true_eq_false,if_false];rw [(e_univ hd (GL_cone hd hc) h.g).1]
  by_cases hu:unv d (Q1N d) p
  ·rw [QM hu,QM ⟨h,hc,hu⟩];simp
  rw [Qz hu,Qz (fun q=>hu q.2.2)];simp
 rw [if_neg hc,if_neg hc,Qz (fun q=>hc q.2.1)];simp only [Option.bind_some,not_true_eq_false,if_false];rw [(e_univ hd (L:=[]) ⟨by simp,fun i hi=>by simp at hi⟩ h.g).1,QM (p:=unv d [] p) (fun i hi=>by simp at hi)];simp
theorem Q7X {d:Fn} (hd:d.Is) (L:List Cone) (hl:L.length≤10):Q20 ⟨d⟩ L=some (@ite _ (∀ i:Nat,i<L.length→isC d (gx L i)) (Classical.propDecidable _) 0 5):=by
 unfold Q20 QH;refine QV L.length (fun i=>isC d (gx L i)) (eb:=Sum.inr 5) (eg:=Sum.inl ()) (by omega) (fun i hi hs=>?_) (fun i hi hs=>?_) (by rw [if_neg (by omega)]) (fun q=>by rw [if_neg q]) fun q=>by rw [if_pos q]
 ·rw [if_pos (by omega),Q9 (by omega)];simp only [Option.bind_some];rw [(e_isC hd _).2,QM hs];simp only [Option.bind_some,not_true_eq_false,if_false];rw [Q9 (by unfold B64;omega)]
 rw [if_pos (by omega),Q9 (by omega)];simp only [Option.bind_some];rw [(e_isC hd _).2,Qz hs];simp
theorem Q6P {d:Fn} (hd:d.Is) (p:Cone):Q1G ⟨d⟩ p=some (uvB d p,uvC d p):=by
 unfold Q1G QH uvB uvC;rw [Q7X hd [p] (by simp)]
 by_cases h:isC d p
 case neg=>rw [if_neg (fun q=>h (q 0 (by simp))),if_neg h,Qz (fun q=>h q.1)];simp
 rw [if_pos (fun i hi=>by simp at hi;subst hi;exact h),if_pos h];simp only [Option.bind_some,not_true_eq_false,if_false];rw [Q7W hd]
 by_cases hc:(Q1N d).length≤400
 ·rw [if_pos hc,if_pos hc];simp only [Option.bind_some,not_true_eq_false,if_false];rw [(e_univ hd (GL_cone hd hc) h.g).2]
  by_cases hu:unv d (Q1N d) p
  ·rw [QM hu,QM ⟨h,hc,hu⟩];rfl
  rw [Qz hu,Qz (fun q=>hu q.2.2)];rfl
 rw [if_neg hc,if_neg hc,Qz (fun q=>hc q.2.1)];simp
theorem Q72 (d:Fn) (p:Cone):∃ r,Q2a d p=some r∧Q29 d p=some r:=by
 unfold Q2a Q29;rw [e_l06Is,Q6O]
 by_cases hd:d.Is
 case neg=>exact ⟨(false,1),by simp [Qz hd],by simp [Qz hd]⟩
 rw [QM hd,e_cocones hd,(e_l06Op hd).1];simp only [Option.bind_some,not_true_eq_false,if_false];rw [e_l12Is (opF_is hd),Q6P (opF_is hd)];exact ⟨_,rfl,rfl⟩
end Go.Vc.T
