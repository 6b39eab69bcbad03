/- A part of the proof: a verified generator of conditions, and what each function of the program does. -/
import Derived.Test.YtoaahhbohijaiaaS10
set_option maxRecDepth 100000
set_option maxHeartbeats 4000000
set_option linter.unusedSimpArgs false
set_option linter.unusedVariables false

namespace Go.Vc.T
open Go Go.Vc Go.Proofs
attribute [local simp] eL eI Qs QI Q1m eP_Ends Q1r Cat.cells Cone.cells Ends.cells Fn.cells
noncomputable def Q2J (d_:Fn) (p_:Cone):Option Bool :=
 (
  ass (B64 (d_.t.n - 1)) <|
  (Q2V p_.a 0 (d_.t.n - 1)).bind fun v3 =>
  if ¬ (v3=true) then
   some true
  else
   if ¬ ((p_.l.length:Int)=(d_.ob.length:Int)) then
    some true
   else
    (Qv d_.t).bind fun v6 =>
    (Q1i p_.l v6).bind fun v7 =>
    some (!v7):Option (Bool)).bind fun b1 =>
 if b1=true then
  some false
 else
  (QD (σ:=Int) (ε:=Unit ⊕ Bool) (fun s16 =>
   if s16<(p_.l.length:Int) then
    ass (0≤s16∧s16<(p_.l.length:Int)) <|
    (Q15 d_.t (ix p_.l s16)).bind fun v19 =>
    ass (0≤s16∧s16<(d_.ob.length:Int)) <|
    if ¬ (v19.a=p_.a∧v19.b=ix d_.ob s16) then
     some (Ctl.ret (Sum.inr false))
    else
     ass (B64 (s16+1)) <|
     some (Ctl.next (s16+1))
   else
    some (Ctl.ret (Sum.inl ()))) fuel 0).bind fun e9 =>
  match e9 with
  | .inl b9 =>
   (QD (σ:=Int) (ε:=Unit ⊕ Bool) (fun s33 =>
    if s33<(d_.ar.length:Int) then
     ass (0≤s33∧s33<(d_.ar.length:Int)) <|
     ass (0≤s33∧s33<(d_.s.fr.length:Int)) <|
     ass (0≤ix d_.s.fr s33∧ix d_.s.fr s33<(p_.l.length:Int)) <|
     (Qn d_.t (ix p_.l (ix d_.s.fr s33)) (ix d_.ar s33)).bind fun v38 =>
     ass (0≤s33∧s33<(d_.s.to.length:Int)) <|
     ass (0≤ix d_.s.to s33∧ix d_.s.to s33<(p_.l.length:Int)) <|
     if ¬ (v38=(ix p_.l (ix d_.s.to s33))) then
      some (Ctl.ret (Sum.inr false))
     else
      ass (B64 (s33+1)) <|
      some (Ctl.next (s33+1))
    else
     some (Ctl.ret (Sum.inl ()))) fuel 0).bind fun e23 =>
   match e23 with
   | .inl b23 =>
    some true
   | .inr p23 =>
    some p23
  | .inr p9 =>
   some p9
theorem Qw {F : Fx} {st st' : St} (m : List (Nat × Nat)) (h : (m.map Prod.fst).Nodup ∧ (m.map Prod.snd).Nodup ∧ (∀ id, id < F.pins → look id m = some id) ∧ (∀ p ∈ m, p.2 < st'.n) ∧ (∀ p ∈ st'.h, p.1 < st'.n) ∧ (∀ p ∈ st'.s, p.2 = rl m (st.get p.1) ∨ p.2 = .bot) ∧ ∀ p ∈ st'.h, hhOk m st.h p.1 p.2 := by simp [hP, hhOk, back, Cat.cells, Cone.cells, Ends.cells, Fn.cells, UA, U1, IA, I1, LA, L1, BA, B1, EA, E1, E2, eB, eI, eL, XCocones.cells, Qf _ Qz _ (fun _=>rfl), Qf _ (Cone.cells true) _ (fun _=>rfl)]) : Wk F st st' := Wk.r1 m h
theorem Q8B (d_:Fn) (p_:Cone) (r:Bool) (h:Q2J d_ p_=some r):Contract Try.prog 153 [.rptr (d_.cells true),.agg (p_.cells true)] (.val (.bool r)):=by
 refine Qe (rvs:=[.tmp 4]) (rs:=[.val (.bool r)]) Try.func153 rfl rfl rfl rfl (by simp [Try.f153]) fun F hN hP=>?_;unfold Q2J at h;refine Q3 ?_;refine runQ hN fun K hK=>?_;simp [-Q0,-Q5,-Q1,-Q6,-Q2];repeat refine sdQ ?_
 refine hK _ ?_;clear hK K;refine tn ?_;refine Q8 (st':=⟨[(0,.rptr (Fn.cells true d_)),(3,.adr 0 0 0)],[(0,.mix 2 [(Cone.cells true p_)])],1⟩) (Qw [(0,0)]) ?_;refine Q3 ?_;refine runQ hN fun K hK=>?_;simp [-Q0,-Q5,-Q1,-Q6,-Q2];repeat refine sdQ ?_
 refine hK _ ?_;clear hK K;refine tn ?_;refine Q8 (st':=⟨[(0,.rptr (Fn.cells true d_)),(3,.adr 0 0 0),(5,.rptr [iV d_.t.n,lI d_.t.fr,lI d_.t.to,lI d_.t.id,.lst true 1 (Ls d_.t.cs),lI d_.ob,lI d_.ar])],[(0,.mix 2 [(Cone.cells true p_)])],1⟩) (Qw [(0,0)]) ?_;refine Q3 ?_;refine Q3 ?_;replace h:=bind_some h;obtain ⟨e1,h,h1⟩:=h;refine Qh (fun b1:Bool=>⟨[(0,.rptr (Fn.cells true d_)),(3,.adr 0 0 0),(5,.rptr [iV d_.t.n,lI d_.t.fr,lI d_.t.to,lI d_.t.id,.lst true 1 (Ls d_.t.cs),lI d_.ob,lI d_.ar]),(40,.val (.bool b1))],[(0,.mix 2 [(Cone.cells true p_)])],1⟩) (fun b1=>b1=e1) ?_ ?_
 ·refine runQ hN fun K hK=>?_;replace h:=Q7 h;obtain ⟨a2,h⟩:=h;simp [-Q0,-Q5,-Q1,-Q6,-Q2,Qt a2];repeat with_reducible refine sdQ ?_
  replace h:=bind_some h;obtain ⟨v3,hv3,h⟩:=h;refine Q4 (Q7v _ _ _ v3 hv3) (.cons .val (.cons .val (.cons .val .nil))) ?_;simp [-Q0,-Q5,-Q1,-Q6,-Q2,unk,unA,unE,unT,unC,flat];repeat with_reducible refine sdQ ?_
  refine Ql (fun g=>?_) (fun g=>?_)
  ·have g4:¬ (¬ (v3=true)):=gQ;clear g;replace h:=if_r g4 h;simp [-Q0,-Q5,-Q1,-Q6,-Q2];(repeat with_reducible refine sdQ ?_);refine Ql (fun g=>?_) (fun g=>?_)
   ·have g5:¬ (¬ ((p_.l.length:Int)=(d_.ob.length:Int))):=gQ;clear g;replace h:=if_r g5 h;simp [-Q0,-Q5,-Q1,-Q6,-Q2];(repeat with_reducible refine sdQ ?_);replace h:=bind_some h;obtain ⟨v6,hv6,h⟩:=h;refine Q4 (Q1a _ v6 hv6) (.cons (.preT (by simp [Cat.cells,Cone.cells,Fn.cells])) .nil) ?_;simp [-Q0,-Q5,-Q1,-Q6,-Q2,unk,unA,unE,unT,unC,flat];(repeat with_reducible refine sdQ ?_);replace h:=bind_some h;obtain ⟨v7,hv7,h⟩:=h;refine Q4 (Q4j _ _ v7 hv7) (.cons .lst (.cons .val .nil)) ?_;simp [-Q0,-Q5,-Q1,-Q6,-Q2,unk,unA,unE,unT,unC,flat];(repeat refine sdQ ?_);refine hK _ ?_;exact jn (b:=!v7) (Option.some.inj h) (Qw [(0,0)])
   have g5:¬ ((p_.l.length:Int)=(d_.ob.length:Int)):=gQ;clear g;replace h:=if_l g5 h;simp [-Q0,-Q5,-Q1,-Q6,-Q2];(repeat refine sdQ ?_);refine hK _ ?_;exact jn (b:=true) (Option.some.inj h) (Qw [(0,0)])
  have g4:¬ (v3=true):=gQ;clear g;replace h:=if_l g4 h;simp [-Q0,-Q5,-Q1,-Q6,-Q2];repeat refine sdQ ?_
  refine hK _ ?_;exact jn (b:=true) (Option.some.inj h) (Qw [(0,0)])
 intro b1 hb1;have h:=h1;try rw [← hb1] at h
 clear h1;try dsimp only at h
 refine Qc rfl (fun g=>?_) fun g=>?_
 ·have g8:b1=true:=gQ;clear g;replace h:=if_l g8 h;refine Q3 ?_;refine runQ hN fun K hK=>?_;simp [-Q0,-Q5,-Q1,-Q6,-Q2];repeat refine sdQ ?_
  refine hK _ ?_;clear hK K;refine tn ?_;refine Q8 (st':=⟨[(4,.val (.bool false))],[],0⟩) (Qw []) ?_;refine Qj ?_;refine tr ?_;have hr:=Option.some.inj h;rw [← hr];refine ⟨_,(.tmp .nil),?_⟩;refine ⟨(.one rfl rfl .nil),[.val (.bool false)],[],by simp [Cat.cells,Cone.cells,Ends.cells,Fn.cells,UA,U1,IA,I1,LA,L1,BA,B1,EA,E1,E2,eB,eI,eL],by simp,(UpL.refl _)⟩
 have g8:¬ (b1=true):=gQ;clear g;replace h:=if_r g8 h;refine Qd ?_;refine tn ?_;refine Q3 ?_;refine Q3 ?_;refine runQ hN fun K hK=>?_;simp [-Q0,-Q5,-Q1,-Q6,-Q2];repeat refine sdQ ?_
 refine hK _ ?_;clear hK K;refine tn ?_;refine Q8 (st':=⟨[(0,.rptr (Fn.cells true d_)),(3,.adr 0 0 0),(5,.rptr [iV d_.t.n,lI d_.t.fr,lI d_.t.to,lI d_.t.id,.lst true 1 (Ls d_.t.cs),lI d_.ob,lI d_.ar]),(42,lI p_.l),(43,iV (p_.l.length:Int)),(44,iV 0)],[(0,.mix 2 [(Cone.cells true p_)])],1⟩) (Qw [(0,0)]) ?_;replace h:=bind_some h;obtain ⟨e9,h,h9⟩:=h;refine Qh (fun b9:Unit=>⟨[(0,.rptr (Fn.cells true d_)),(3,.adr 0 0 0),(5,.rptr [iV d_.t.n,lI d_.t.fr,lI d_.t.to,lI d_.t.id,.lst true 1 (Ls d_.t.cs),lI d_.ob,lI d_.ar])],[(0,.mix 2 [(Cone.cells true p_)])],1⟩) (fun b9=>Sum.inl b9=e9) ?_ ?_
 ·refine Qa ?_;refine Qx h (fun s16:Int=>⟨[(0,.rptr (Fn.cells true d_)),(3,.adr 0 0 0),(5,.rptr [iV d_.t.n,lI d_.t.fr,lI d_.t.to,lI d_.t.id,.lst true 1 (Ls d_.t.cs),lI d_.ob,lI d_.ar]),(42,lI p_.l),(43,iV (p_.l.length:Int)),(44,iV s16)],[(0,.mix 2 [(Cone.cells true p_)])],1⟩) (Qw [(0,0)]) ?_;clear h;intro k16 s16 c16 h hk16;refine Q3 ?_;refine runQ hN fun K hK=>?_;simp [-Q0,-Q5,-Q1,-Q6,-Q2];repeat refine sdQ ?_
  refine hK _ ?_;clear hK K;refine tn ?_;refine Q8 (st':=⟨[(0,.rptr (Fn.cells true d_)),(3,.adr 0 0 0),(5,.rptr [iV d_.t.n,lI d_.t.fr,lI d_.t.to,lI d_.t.id,.lst true 1 (Ls d_.t.cs),lI d_.ob,lI d_.ar]),(42,lI p_.l),(43,iV (p_.l.length:Int)),(44,iV s16),(45,.val (.bool (decide (s16<(p_.l.length:Int)))))],[(0,.mix 2 [(Cone.cells true p_)])],1⟩) (Qw [(0,0)]) ?_;refine Q3 ?_;refine Qc rfl (fun g=>?_) fun g=>?_
  ·have g17:s16<(p_.l.length:Int):=gQ;clear g;replace h:=if_l g17 h;refine Qd ?_;refine tn ?_;refine Q3 ?_;refine Qa ?_;refine Q3 ?_;refine runQ hN fun K hK=>?_;replace h:=Q7 h;obtain ⟨a18,h⟩:=h;simp [-Q0,-Q5,-Q1,-Q6,-Q2,at_I a18];(repeat refine sdQ ?_);refine hK _ ?_;clear hK K;refine tn ?_;refine Q8 (st':=⟨[(0,.rptr (Fn.cells true d_)),(3,.adr 0 0 0),(5,.rptr [iV d_.t.n,lI d_.t.fr,lI d_.t.to,lI d_.t.id,.lst true 1 (Ls d_.t.cs),lI d_.ob,lI d_.ar]),(6,iV s16),(7,iV (ix p_.l s16)),(42,lI p_.l),(43,iV (p_.l.length:Int)),(44,iV s16)],[(0,.mix 2 [(Cone.cells true p_)])],1⟩) (Qw [(0,0)]) ?_;refine Q3 ?_;refine runQ hN fun K hK=>?_;simp [-Q0,-Q5,-Q1,-Q6,-Q2];(repeat with_reducible refine sdQ ?_);replace h:=bind_some h;obtain ⟨v19,hv19,h⟩:=h;refine Q4 (Q4h _ _ v19 hv19) (.cons (.preT (by simp [Cat.cells,Cone.cells,Ends.cells,Fn.cells])) (.cons .val .nil)) ?_;replace h:=Q7 h;obtain ⟨a20,h⟩:=h;simp [-Q0,-Q5,-Q1,-Q6,-Q2,unk,unA,unE,unT,unC,flat,at_I a20];(repeat refine sdQ ?_);refine hK _ ?_;clear hK K;refine tn ?_;refine Q8 (st':=⟨[(0,.rptr (Fn.cells true d_)),(3,.adr 0 0 0),(5,.rptr [iV d_.t.n,lI d_.t.fr,lI d_.t.to,lI d_.t.id,.lst true 1 (Ls d_.t.cs),lI d_.ob,lI d_.ar]),(42,lI p_.l),(43,iV (p_.l.length:Int)),(44,iV s16),(62,.val (.bool (!([v19.a,v19.b] == [p_.a,ix d_.ob s16]))))],[(0,.mix 2 [(Cone.cells true p_)])],1⟩) (Qw [(0,0)]) ?_;refine Qc rfl (fun g=>?_) fun g=>?_
   ·have g21:¬ (v19.a=p_.a∧v19.b=ix d_.ob s16):=gQ;clear g;replace h:=if_l g21 h;refine Q3 ?_;refine runQ hN fun K hK=>?_;simp [-Q0,-Q5,-Q1,-Q6,-Q2];(repeat refine sdQ ?_);refine hK _ ?_;clear hK K;refine tn ?_;refine Q8 (st':=⟨[(4,.val (.bool false))],[],0⟩) (Qw []) ?_;refine Qj ?_;refine br ?_;refine tr ?_;refine lr ?_;refine br ?_;refine tr ?_;cases h;have q:_=e9:=hk16;have h:=h9;rw [← q] at h;clear q;(try dsimp only at h);have hr:=Option.some.inj h;rw [← hr];refine ⟨_,(.tmp .nil),?_⟩;refine ⟨(.one rfl rfl .nil),[.val (.bool false)],[],by simp [Cat.cells,Cone.cells,Ends.cells,Fn.cells,UA,U1,IA,I1,LA,L1,BA,B1,EA,E1,E2,eB,eI,eL],by simp,(UpL.refl _)⟩
   have g21:¬ (¬ (v19.a=p_.a∧v19.b=ix d_.ob s16)):=gQ;clear g;replace h:=if_r g21 h;refine Qd ?_;refine bn ?_;refine tn ?_;refine runQ hN fun K hK=>?_;replace h:=Q7 h;obtain ⟨a22,h⟩:=h;simp [-Q0,-Q5,-Q1,-Q6,-Q2,Qt a22];(repeat refine sdQ ?_);refine hK _ ?_;clear hK K;cases h;exact rn (s':=s16+1) hk16 (Qw [(0,0)])
  have g17:¬ (s16<(p_.l.length:Int)):=gQ;clear g;replace h:=if_r g17 h;refine Qq ?_;refine tx ?_;refine lx ?_;refine bh ?_;cases h;exact jn (b:=()) hk16 (Qw [(0,0)])
 intro b9 hb9;have h:=h9;try rw [← hb9] at h
 clear h9;try dsimp only at h
 refine Q3 ?_;refine Q3 ?_;refine runQ hN fun K hK=>?_;simp [-Q0,-Q5,-Q1,-Q6,-Q2];repeat refine sdQ ?_
 refine hK _ ?_;clear hK K;refine tn ?_;refine Q8 (st':=⟨[(0,.rptr (Fn.cells true d_)),(3,.adr 0 0 0),(5,.rptr [iV d_.t.n,lI d_.t.fr,lI d_.t.to,lI d_.t.id,.lst true 1 (Ls d_.t.cs),lI d_.ob,lI d_.ar]),(67,lI d_.ar),(68,iV (d_.ar.length:Int)),(69,iV 0)],[(0,.mix 2 [(Cone.cells true p_)])],1⟩) (Qw [(0,0)]) ?_;replace h:=bind_some h;obtain ⟨e23,h,h23⟩:=h;refine Qh (fun b23:Unit=>⟨[],[],0⟩) (fun b23=>Sum.inl b23=e23) ?_ ?_
 ·refine Qa ?_;refine Qx h (fun s33:Int=>⟨[(0,.rptr (Fn.cells true d_)),(3,.adr 0 0 0),(5,.rptr [iV d_.t.n,lI d_.t.fr,lI d_.t.to,lI d_.t.id,.lst true 1 (Ls d_.t.cs),lI d_.ob,lI d_.ar]),(67,lI d_.ar),(68,iV (d_.ar.length:Int)),(69,iV s33)],[(0,.mix 2 [(Cone.cells true p_)])],1⟩) (Qw [(0,0)]) ?_;clear h;intro k33 s33 c33 h hk33;refine Q3 ?_;refine runQ hN fun K hK=>?_;simp [-Q0,-Q5,-Q1,-Q6,-Q2];repeat refine sdQ ?_
  refine hK _ ?_;clear hK K;refine tn ?_;refine Q8 (st':=⟨[(0,.rptr (Fn.cells true d_)),(3,.adr 0 0 0),(5,.rptr [iV d_.t.n,lI d_.t.fr,lI d_.t.to,lI d_.t.id,.lst true 1 (Ls d_.t.cs),lI d_.ob,lI d_.ar]),(67,lI d_.ar),(68,iV (d_.ar.length:Int)),(69,iV s33),(70,.val (.bool (decide (s33<(d_.ar.length:Int)))))],[(0,.mix 2 [(Cone.cells true p_)])],1⟩) (Qw [(0,0)]) ?_;refine Q3 ?_;refine Qc rfl (fun g=>?_) fun g=>?_
  ·have g34:s33<(d_.ar.length:Int):=gQ;clear g;replace h:=if_l g34 h;refine Qd ?_;refine tn ?_;refine Q3 ?_;refine Qa ?_;refine Q3 ?_;refine runQ hN fun K hK=>?_;replace h:=Q7 h;obtain ⟨a35,h⟩:=h;simp [-Q0,-Q5,-Q1,-Q6,-Q2,at_I a35];(repeat refine sdQ ?_);refine hK _ ?_;clear hK K;refine tn ?_;refine Q8 (st':=⟨[(0,.rptr (Fn.cells true d_)),(3,.adr 0 0 0),(5,.rptr [iV d_.t.n,lI d_.t.fr,lI d_.t.to,lI d_.t.id,.lst true 1 (Ls d_.t.cs),lI d_.ob,lI d_.ar]),(8,iV s33),(9,iV (ix d_.ar s33)),(67,lI d_.ar),(68,iV (d_.ar.length:Int)),(69,iV s33)],[(0,.mix 2 [(Cone.cells true p_)])],1⟩) (Qw [(0,0)]) ?_;refine Q3 ?_;refine runQ hN fun K hK=>?_;replace h:=Q7 h;obtain ⟨a36,h⟩:=h;replace h:=Q7 h;obtain ⟨a37,h⟩:=h;simp [-Q0,-Q5,-Q1,-Q6,-Q2,at_I a36,at_I a37];(repeat with_reducible refine sdQ ?_);replace h:=bind_some h;obtain ⟨v38,hv38,h⟩:=h;refine Q4 (Q17 _ _ _ v38 hv38) (.cons (.preT (by simp [Cat.cells,Cone.cells,Ends.cells,Fn.cells])) (.cons .val (.cons .val .nil))) ?_;replace h:=Q7 h;obtain ⟨a39,h⟩:=h;replace h:=Q7 h;obtain ⟨a40,h⟩:=h;simp [-Q0,-Q5,-Q1,-Q6,-Q2,unk,unA,unE,unT,unC,flat,at_I a36,at_I a37,at_I a39,at_I a40];(repeat refine sdQ ?_);refine hK _ ?_;clear hK K;refine tn ?_;refine Q8 (st':=⟨[(0,.rptr (Fn.cells true d_)),(3,.adr 0 0 0),(5,.rptr [iV d_.t.n,lI d_.t.fr,lI d_.t.to,lI d_.t.id,.lst true 1 (Ls d_.t.cs),lI d_.ob,lI d_.ar]),(67,lI d_.ar),(68,iV (d_.ar.length:Int)),(69,iV s33),(101,.val (.bool (v38 != (ix p_.l (ix d_.s.to s33)))))],[(0,.mix 2 [(Cone.cells true p_)])],1⟩) (Qw [(0,0)]) ?_;refine Qc rfl (fun g=>?_) fun g=>?_
   ·have g41:¬ (v38=(ix p_.l (ix d_.s.to s33))):=gQ;clear g;replace h:=if_l g41 h;refine Q3 ?_;refine runQ hN fun K hK=>?_;simp [-Q0,-Q5,-Q1,-Q6,-Q2];(repeat refine sdQ ?_);refine hK _ ?_;clear hK K;refine tn ?_;refine Q8 (st':=⟨[(4,.val (.bool false))],[],0⟩) (Qw []) ?_;refine Qj ?_;refine br ?_;refine tr ?_;refine lr ?_;refine br ?_;refine tr ?_;cases h;have q:_=e23:=hk33;have h:=h23;rw [← q] at h;clear q;(try dsimp only at h);have hr:=Option.some.inj h;rw [← hr];refine ⟨_,(.tmp .nil),?_⟩;refine ⟨(.one rfl rfl .nil),[.val (.bool false)],[],by simp [Cat.cells,Cone.cells,Ends.cells,Fn.cells,UA,U1,IA,I1,LA,L1,BA,B1,EA,E1,E2,eB,eI,eL],by simp,(UpL.refl _)⟩
   have g41:¬ (¬ (v38=(ix p_.l (ix d_.s.to s33)))):=gQ;clear g;replace h:=if_r g41 h;refine Qd ?_;refine bn ?_;refine tn ?_;refine runQ hN fun K hK=>?_;replace h:=Q7 h;obtain ⟨a42,h⟩:=h;simp [-Q0,-Q5,-Q1,-Q6,-Q2,Qt a42];(repeat refine sdQ ?_);refine hK _ ?_;clear hK K;cases h;exact rn (s':=s33+1) hk33 (Qw [(0,0)])
  have g34:¬ (s33<(d_.ar.length:Int)):=gQ;clear g;replace h:=if_r g34 h;refine Qq ?_;refine tx ?_;refine lx ?_;refine bh ?_;cases h;exact jn (b:=()) hk33 (Qw [])
 intro b23 hb23;have h:=h23;try rw [← hb23] at h
 clear h23;try dsimp only at h
 refine Q3 ?_;refine runQ hN fun K hK=>?_;simp [-Q0,-Q5,-Q1,-Q6,-Q2];repeat refine sdQ ?_
 refine hK _ ?_;clear hK K;refine tn ?_;refine Q8 (st':=⟨[(4,.val (.bool true))],[],0⟩) (Qw []) ?_;refine Qj ?_;have hr:=Option.some.inj h;rw [← hr];refine ⟨_,(.tmp .nil),?_⟩;refine ⟨(.one rfl rfl .nil),[.val (.bool true)],[],by simp [Cat.cells,Cone.cells,Ends.cells,Fn.cells,UA,U1,IA,I1,LA,L1,BA,B1,EA,E1,E2,eB,eI,eL],by simp,(UpL.refl _)⟩
attribute [local simp] eL eI Qs Q1m Q1r Qz Cone.cells Fn.cells XCocones.cells
noncomputable def Q1C (s_:XCocones) (list_:List Cone):Option Int :=
 (QD (σ:=Int) (ε:=Unit ⊕ Int) (fun s8 =>
  if s8<(list_.length:Int) then
   ass (0≤s8∧s8<(list_.length:Int)) <|
   (QA s_).bind fun v11 =>
   (Q2J v11 (gx list_ s8)).bind fun v12 =>
   if ¬ (v12=true) then
    some (Ctl.ret (Sum.inr 5))
   else
    ass (B64 (s8+1)) <|
    some (Ctl.next (s8+1))
  else
   some (Ctl.ret (Sum.inl ()))) fuel 0).bind fun e1 =>
 match e1 with
 | .inl b1 =>
  some 0
 | .inr p1 =>
  some p1
theorem Q4u (s_:XCocones) (list_:List Cone) (r:Int) (h:Q1C s_ list_=some r):Contract Try.prog 127 [.ifc 160 (s_.cells true),.lst true 2 (Es (Cone.cells true) list_)] (iV r):=by
 refine Qe (rvs:=[.tmp 4]) (rs:=[iV r]) Try.func127 rfl rfl rfl rfl (by simp [Try.f127]) fun F hN hP=>?_;unfold Q1C at h;refine Q3 ?_;refine runQ hN fun K hK=>?_;simp [-Q0,-Q5,-Q1,-Q6,-Q2];repeat refine sdQ ?_
 refine hK _ ?_;clear hK K;refine tn ?_;refine Q8 (st':=⟨[(0,.ifc 160 [.rptr (Fn.cells true s_.opposite_)]),(1,.lst true 2 (Es (Cone.cells true) list_))],[],0⟩) (Qw []) ?_;refine Q3 ?_;refine Q3 ?_;refine runQ hN fun K hK=>?_;simp [-Q0,-Q5,-Q1,-Q6,-Q2];repeat refine sdQ ?_
 refine hK _ ?_;clear hK K;refine tn ?_;refine Q8 (st':=⟨[(0,.ifc 160 [.rptr (Fn.cells true s_.opposite_)]),(7,.lst true 2 (Es (Cone.cells true) list_)),(8,iV (list_.length:Int)),(9,iV 0)],[],0⟩) (Qw []) ?_;replace h:=bind_some h;obtain ⟨e1,h,h1⟩:=h;refine Qh (fun b1:Unit=>⟨[],[],0⟩) (fun b1=>Sum.inl b1=e1) ?_ ?_
 ·refine Qa ?_;refine Qx h (fun s8:Int=>⟨[(0,.ifc 160 [.rptr (Fn.cells true s_.opposite_)]),(7,.lst true 2 (Es (Cone.cells true) list_)),(8,iV (list_.length:Int)),(9,iV s8)],[],0⟩) (Qw []) ?_;clear h;intro k8 s8 c8 h hk8;refine Q3 ?_;refine runQ hN fun K hK=>?_;simp [-Q0,-Q5,-Q1,-Q6,-Q2];repeat refine sdQ ?_
  refine hK _ ?_;clear hK K;refine tn ?_;refine Q8 (st':=⟨[(0,.ifc 160 [.rptr (Fn.cells true s_.opposite_)]),(7,.lst true 2 (Es (Cone.cells true) list_)),(8,iV (list_.length:Int)),(9,iV s8),(10,.val (.bool (decide (s8<(list_.length:Int)))))],[],0⟩) (Qw []) ?_;refine Q3 ?_;refine Qc rfl (fun g=>?_) fun g=>?_
  ·have g9:s8<(list_.length:Int):=gQ;clear g;replace h:=if_l g9 h;refine Qd ?_;refine tn ?_;refine Q3 ?_;refine Qa ?_;refine Q3 ?_;refine runQ hN fun K hK=>?_;replace h:=Q7 h;obtain ⟨a10,h⟩:=h;simp [-Q0,-Q5,-Q1,-Q6,-Q2,at_E (c:=(Cone.cells true)) a10];(repeat refine sdQ ?_);refine hK _ ?_;clear hK K;refine tn ?_;refine Q8 (st':=⟨[(0,.ifc 160 [.rptr (Fn.cells true s_.opposite_)]),(6,.adr 0 0 0),(7,.lst true 2 (Es (Cone.cells true) list_)),(8,iV (list_.length:Int)),(9,iV s8)],[(0,.mix 2 [(Cone.cells true (gx list_ s8))])],1⟩) (Qw [(0,0)]) ?_;refine Q3 ?_;refine Qr [] mo (by rw [hN];decide) fun K hK=>?_;simp [-Q0,-Q5,-Q1,-Q6,-Q2];(repeat with_reducible refine sdQ ?_);replace h:=bind_some h;obtain ⟨v11,hv11,h⟩:=h;refine Q3T (fz:=[]) true (Q1b _ v11 hv11) (PurK.ofN (.cons (.aggL (.cons (.preT (by simp [Cone.cells,Fn.cells,XCocones.cells])) .nil)) .nil)) ?_;simp [-Q0,-Q5,-Q1,-Q6,-Q2,unk,unA,unE,unT,unC,flat];(repeat with_reducible refine sdQ ?_);replace h:=bind_some h;obtain ⟨v12,hv12,h⟩:=h;refine QF (fz:=[]) (Q8B _ _ v12 hv12) (.cons (.preT (by simp [Cone.cells,Fn.cells,XCocones.cells])) (.cons (.aggL (.cons .val (.cons .lst .nil))) .nil)) ?_;simp [-Q0,-Q5,-Q1,-Q6,-Q2,unk,unA,unE,unT,unC,flat];(repeat refine sdQ ?_);refine hK _ ?_;clear hK K;refine tn ?_;refine Q8 (st':=⟨[(0,.ifc 160 [.rptr (Fn.cells true s_.opposite_)]),(7,.lst true 2 (Es (Cone.cells true) list_)),(8,iV (list_.length:Int)),(9,iV s8),(17,.val (.bool (!v12)))],[],0⟩) (Qw []) ?_;refine Qc rfl (fun g=>?_) fun g=>?_
   ·have g13:¬ (v12=true):=gQ;clear g;replace h:=if_l g13 h;refine Q3 ?_;refine runQ hN fun K hK=>?_;simp [-Q0,-Q5,-Q1,-Q6,-Q2];(repeat refine sdQ ?_);refine hK _ ?_;clear hK K;refine tn ?_;refine Q8 (st':=⟨[(4,iV 5)],[],0⟩) (Qw []) ?_;refine Qj ?_;refine br ?_;refine tr ?_;refine lr ?_;refine br ?_;refine tr ?_;cases h;have q:_=e1:=hk8;have h:=h1;rw [← q] at h;clear q;(try dsimp only at h);have hr:=Option.some.inj h;rw [← hr];refine ⟨_,(.tmp .nil),?_⟩;refine ⟨(.one rfl rfl .nil),[iV 5],[],by simp [Cone.cells,Fn.cells,XCocones.cells,UA,U1,IA,I1,LA,L1,BA,B1,EA,E1,E2,eB,eI,eL,Qf _ Qz _ (fun _=>rfl),Qf _ (Cone.cells true) _ (fun _=>rfl)],by simp,(UpL.refl _)⟩
   have g13:¬ (¬ (v12=true)):=gQ;clear g;replace h:=if_r g13 h;refine Qd ?_;refine bn ?_;refine tn ?_;refine runQ hN fun K hK=>?_;replace h:=Q7 h;obtain ⟨a14,h⟩:=h;simp [-Q0,-Q5,-Q1,-Q6,-Q2,Qt a14];(repeat refine sdQ ?_);refine hK _ ?_;clear hK K;cases h;exact rn (s':=s8+1) hk8 (Qw [])
  have g9:¬ (s8<(list_.length:Int)):=gQ;clear g;replace h:=if_r g9 h;refine Qq ?_;refine tx ?_;refine lx ?_;refine bh ?_;cases h;exact jn (b:=()) hk8 (Qw [])
 intro b1 hb1;have h:=h1;try rw [← hb1] at h
 clear h1;try dsimp only at h
 refine Q3 ?_;refine runQ hN fun K hK=>?_;simp [-Q0,-Q5,-Q1,-Q6,-Q2];repeat refine sdQ ?_
 refine hK _ ?_;clear hK K;refine tn ?_;refine Q8 (st':=⟨[(4,iV 0)],[],0⟩) (Qw []) ?_;refine Qj ?_;have hr:=Option.some.inj h;rw [← hr];refine ⟨_,(.tmp .nil),?_⟩;refine ⟨(.one rfl rfl .nil),[iV 0],[],by simp [Cone.cells,Fn.cells,XCocones.cells,UA,U1,IA,I1,LA,L1,BA,B1,EA,E1,E2,eB,eI,eL,Qf _ Qz _ (fun _=>rfl),Qf _ (Cone.cells true) _ (fun _=>rfl)],by simp,(UpL.refl _)⟩
attribute [local simp] eL eI Qs Q1m Q1r Qz Cone.cells Fn.cells XCocones.cells
noncomputable def Q1N (s_:XCocones) (p_:Cone):Option (Bool × Int) :=
 (Q1C s_ [p_]).bind fun v1 =>
 if ¬ (v1=0) then
  some (false,v1)
 else
  (QA s_).bind fun v3 =>
  (Q26 v3).bind fun v4 =>
  if ¬ (v4.2=true) then
   some (false,3)
  else
   (QA s_).bind fun v6 =>
   (Q1o v6 v4.1 p_).bind fun v7 =>
   some (v7,0)
theorem Q6a (s_:XCocones) (p_:Cone) (r:Bool × Int) (h:Q1N s_ p_=some r):Contract Try.prog 83 [.ifc 160 (s_.cells true),.agg (p_.cells true)] (.tup [.val (.bool r.1),iV r.2]):=by
 refine Qe (rvs:=[.tmp 4,.tmp 5]) (rs:=[.val (.bool r.1),iV r.2]) Try.func83 rfl rfl rfl rfl (by simp [Try.f83]) fun F hN hP=>?_;unfold Q1N at h;refine Q3 ?_;refine runQ hN fun K hK=>?_;simp [-Q0,-Q5,-Q1,-Q6,-Q2];repeat refine sdQ ?_
 refine hK _ ?_;clear hK K;refine tn ?_;refine Q8 (st':=⟨[(0,.ifc 160 [.rptr (Fn.cells true s_.opposite_)]),(3,.adr 0 0 0)],[(0,.mix 2 [(Cone.cells true p_)])],1⟩) (Qw [(0,0)]) ?_;refine Q3 ?_;refine Q3 ?_;refine runQ hN fun K hK=>?_;simp [-Q0,-Q5,-Q1,-Q6,-Q2];repeat with_reducible refine sdQ ?_
 replace h:=bind_some h;obtain ⟨v1,hv1,h⟩:=h;refine Q4 (Q4u _ _ v1 hv1) (.cons (.ifcL (by simp [Cone.cells,Fn.cells,XCocones.cells]) (.cons (.preT (by simp [Cone.cells,Fn.cells,XCocones.cells])) .nil)) (.cons (.lits (es:=_) rfl (.cons rfl (.cons .val (.cons .lst .nil)) .nil) rfl) .nil)) ?_;simp [-Q0,-Q5,-Q1,-Q6,-Q2,unk,unA,unE,unT,unC,flat];repeat refine sdQ ?_
 refine hK _ ?_;clear hK K;refine tn ?_;refine Q8 (st':=⟨[(0,.ifc 160 [.rptr (Fn.cells true s_.opposite_)]),(3,.adr 0 0 0),(6,iV v1)],[(0,.mix 2 [(Cone.cells true p_)])],1⟩) (Qw [(0,0)]) ?_;refine Q3 ?_;refine runQ hN fun K hK=>?_;simp [-Q0,-Q5,-Q1,-Q6,-Q2];repeat refine sdQ ?_
 refine hK _ ?_;clear hK K;refine tn ?_;refine Q8 (st':=⟨[(0,.ifc 160 [.rptr (Fn.cells true s_.opposite_)]),(3,.adr 0 0 0),(6,iV v1),(14,.val (.bool (v1 != 0)))],[(0,.mix 2 [(Cone.cells true p_)])],1⟩) (Qw [(0,0)]) ?_;refine Qc rfl (fun g=>?_) fun g=>?_
 ·have g2:¬ (v1=0):=gQ;clear g;replace h:=if_l g2 h;refine Q3 ?_;refine runQ hN fun K hK=>?_;simp [-Q0,-Q5,-Q1,-Q6,-Q2];repeat refine sdQ ?_
  refine hK _ ?_;clear hK K;refine tn ?_;refine Q8 (st':=⟨[(4,.val (.bool false)),(5,iV v1)],[],0⟩) (Qw []) ?_;refine Qj ?_;refine tr ?_;have hr:=Option.some.inj h;rw [← hr];refine ⟨_,(.tmp (.tmp .nil)),?_⟩;refine ⟨(.one rfl rfl (.one rfl rfl .nil)),[.val (.bool false),iV v1],[],by simp [Cone.cells,Fn.cells,XCocones.cells,UA,U1,IA,I1,LA,L1,BA,B1,EA,E1,E2,eB,eI,eL,Qf _ Qz _ (fun _=>rfl),Qf _ (Cone.cells true) _ (fun _=>rfl)],by simp,(UpL.refl _)⟩
 have g2:¬ (¬ (v1=0)):=gQ;clear g;replace h:=if_r g2 h;refine Qd ?_;refine tn ?_;refine Q3 ?_;refine Qr [] mo (by rw [hN];decide) fun K hK=>?_;simp [-Q0,-Q5,-Q1,-Q6,-Q2];repeat with_reducible refine sdQ ?_
 replace h:=bind_some h;obtain ⟨v3,hv3,h⟩:=h;refine Q3T (fz:=[]) true (Q1b _ v3 hv3) (PurK.ofN (.cons (.aggL (.cons (.preT (by simp [Cone.cells,Fn.cells,XCocones.cells])) .nil)) .nil)) ?_;simp [-Q0,-Q5,-Q1,-Q6,-Q2,unk,unA,unE,unT,unC,flat];repeat with_reducible refine sdQ ?_
 replace h:=bind_some h;obtain ⟨v4,hv4,h⟩:=h;refine QF (fz:=[]) (Q6R _ v4 hv4) (.cons (.preT (by simp [Cone.cells,Fn.cells,XCocones.cells])) .nil) ?_;simp [-Q0,-Q5,-Q1,-Q6,-Q2,unk,unA,unE,unT,unC,flat];repeat refine sdQ ?_
 refine hK _ ?_;clear hK K;refine tn ?_;refine Q8 (st':=⟨[(0,.ifc 160 [.rptr (Fn.cells true s_.opposite_)]),(3,.adr 0 0 0),(7,.own 1 0 v4.1.length),(8,.val (.bool v4.2))],[(0,.mix 2 [(Cone.cells true p_)]),(1,.row 2 (Es (Cone.cells true) v4.1))],2⟩) (Qw [(0,0),(1,1)]) ?_;refine Q3 ?_;refine Q3 ?_;refine runQ hN fun K hK=>?_;simp [-Q0,-Q5,-Q1,-Q6,-Q2];repeat refine sdQ ?_
 refine hK _ ?_;clear hK K;refine tn ?_;refine Q8 (st':=⟨[(0,.ifc 160 [.rptr (Fn.cells true s_.opposite_)]),(3,.adr 0 0 0),(7,.own 1 0 v4.1.length),(23,.val (.bool (!v4.2)))],[(0,.mix 2 [(Cone.cells true p_)]),(1,.row 2 (Es (Cone.cells true) v4.1))],2⟩) (Qw [(0,0),(1,1)]) ?_;refine Qc rfl (fun g=>?_) fun g=>?_
 ·have g5:¬ (v4.2=true):=gQ;clear g;replace h:=if_l g5 h;refine Q3 ?_;refine runQ hN fun K hK=>?_;simp [-Q0,-Q5,-Q1,-Q6,-Q2];repeat refine sdQ ?_
  refine hK _ ?_;clear hK K;refine tn ?_;refine Q8 (st':=⟨[(4,.val (.bool false)),(5,iV 3)],[],0⟩) (Qw []) ?_;refine Qj ?_;refine tr ?_;have hr:=Option.some.inj h;rw [← hr];refine ⟨_,(.tmp (.tmp .nil)),?_⟩;refine ⟨(.one rfl rfl (.one rfl rfl .nil)),[.val (.bool false),iV 3],[],by simp [Cone.cells,Fn.cells,XCocones.cells,UA,U1,IA,I1,LA,L1,BA,B1,EA,E1,E2,eB,eI,eL,Qf _ Qz _ (fun _=>rfl),Qf _ (Cone.cells true) _ (fun _=>rfl)],by simp,(UpL.refl _)⟩
 have g5:¬ (¬ (v4.2=true)):=gQ;clear g;replace h:=if_r g5 h;refine Qd ?_;refine tn ?_;refine Q3 ?_;refine Qr [] mo (by rw [hN];decide) fun K hK=>?_;simp [-Q0,-Q5,-Q1,-Q6,-Q2];repeat with_reducible refine sdQ ?_
 replace h:=bind_some h;obtain ⟨v6,hv6,h⟩:=h;refine Q3T (fz:=[]) true (Q1b _ v6 hv6) (PurK.ofN (.cons (.aggL (.cons (.preT (by simp [Cone.cells,Fn.cells,XCocones.cells])) .nil)) .nil)) ?_;simp [-Q0,-Q5,-Q1,-Q6,-Q2,unk,unA,unE,unT,unC,flat];repeat with_reducible refine sdQ ?_
 replace h:=bind_some h;obtain ⟨v7,hv7,h⟩:=h;refine QF (fz:=[]) (Q56 _ _ _ v7 hv7) (.cons (.preT (by simp [Cone.cells,Fn.cells,XCocones.cells])) (.cons (.whole (by simp) (by simp) (by simp)) (.cons (.aggL (.cons .val (.cons .lst .nil))) .nil))) ?_;simp [-Q0,-Q5,-Q1,-Q6,-Q2,unk,unA,unE,unT,unC,flat];repeat refine sdQ ?_
 refine hK _ ?_;clear hK K;refine tn ?_;refine Q8 (st':=⟨[(4,.val (.bool v7)),(5,iV 0)],[],0⟩) (Qw []) ?_;refine Qj ?_;have hr:=Option.some.inj h;rw [← hr];refine ⟨_,(.tmp (.tmp .nil)),?_⟩;refine ⟨(.one rfl rfl (.one rfl rfl .nil)),[.val (.bool v7),iV 0],[],by simp [Cone.cells,Fn.cells,XCocones.cells,UA,U1,IA,I1,LA,L1,BA,B1,EA,E1,E2,eB,eI,eL,Qf _ Qz _ (fun _=>rfl),Qf _ (Cone.cells true) _ (fun _=>rfl)],by simp,(UpL.refl _)⟩
attribute [local simp] eL eI Qs Q1m Q1r Qz Cone.cells Fn.cells XCocones.cells
noncomputable def Q2e (s_:XCocones) (best_:Cone) (p_:Cone):Option (Int × Int) :=
 (Q1C s_ [best_,p_]).bind fun v1 =>
 if ¬ (v1=0) then
  some (0,v1)
 else
  (Q1N s_ best_).bind fun v3 =>
  if ¬ (v3.2=0) then
   some (0,v3.2)
  else
   if ¬ (v3.1=true) then
    some (0,5)
   else
    (QA s_).bind fun v6 =>
    (Q1D v6 p_ best_).bind fun v7 =>
    ass ((0:Int)≤0∧0<(v7.length:Int)) <|
    some (ix v7 0,0)
theorem Q69 (s_:XCocones) (best_:Cone) (p_:Cone) (r:Int × Int) (h:Q2e s_ best_ p_=some r):Contract Try.prog 88 [.ifc 160 (s_.cells true),.agg (best_.cells true),.agg (p_.cells true)] (.tup [iV r.1,iV r.2]):=by
 refine Qe (rvs:=[.tmp 6,.tmp 7]) (rs:=[iV r.1,iV r.2]) Try.func88 rfl rfl rfl rfl (by simp [Try.f88]) fun F hN hP=>?_;unfold Q2e at h;refine Q3 ?_;refine runQ hN fun K hK=>?_;simp [-Q0,-Q5,-Q1,-Q6,-Q2];repeat refine sdQ ?_
 refine hK _ ?_;clear hK K;refine tn ?_;refine Q8 (st':=⟨[(0,.ifc 160 [.rptr (Fn.cells true s_.opposite_)]),(4,.adr 0 0 0),(5,.adr 1 0 0)],[(0,.mix 2 [(Cone.cells true best_)]),(1,.mix 2 [(Cone.cells true p_)])],2⟩) (Qw [(0,0),(1,1)]) ?_;refine Q3 ?_;refine Q3 ?_;refine runQ hN fun K hK=>?_;simp [-Q0,-Q5,-Q1,-Q6,-Q2];repeat with_reducible refine sdQ ?_
 replace h:=bind_some h;obtain ⟨v1,hv1,h⟩:=h;refine Q4 (Q4u _ _ v1 hv1) (.cons (.ifcL (by simp [Cone.cells,Fn.cells,XCocones.cells]) (.cons (.preT (by simp [Cone.cells,Fn.cells,XCocones.cells])) .nil)) (.cons (.lits (es:=_) rfl (.cons rfl (.cons .val (.cons .lst .nil)) (.cons rfl (.cons .val (.cons .lst .nil)) .nil)) rfl) .nil)) ?_;simp [-Q0,-Q5,-Q1,-Q6,-Q2,unk,unA,unE,unT,unC,flat];repeat refine sdQ ?_
 refine hK _ ?_;clear hK K;refine tn ?_;refine Q8 (st':=⟨[(0,.ifc 160 [.rptr (Fn.cells true s_.opposite_)]),(4,.adr 0 0 0),(5,.adr 1 0 0),(8,iV v1)],[(0,.mix 2 [(Cone.cells true best_)]),(1,.mix 2 [(Cone.cells true p_)])],2⟩) (Qw [(0,0),(1,1)]) ?_;refine Q3 ?_;refine runQ hN fun K hK=>?_;simp [-Q0,-Q5,-Q1,-Q6,-Q2];repeat refine sdQ ?_
 refine hK _ ?_;clear hK K;refine tn ?_;refine Q8 (st':=⟨[(0,.ifc 160 [.rptr (Fn.cells true s_.opposite_)]),(4,.adr 0 0 0),(5,.adr 1 0 0),(8,iV v1),(17,.val (.bool (v1 != 0)))],[(0,.mix 2 [(Cone.cells true best_)]),(1,.mix 2 [(Cone.cells true p_)])],2⟩) (Qw [(0,0),(1,1)]) ?_;refine Qc rfl (fun g=>?_) fun g=>?_
 ·have g2:¬ (v1=0):=gQ;clear g;replace h:=if_l g2 h;refine Q3 ?_;refine runQ hN fun K hK=>?_;simp [-Q0,-Q5,-Q1,-Q6,-Q2];repeat refine sdQ ?_
  refine hK _ ?_;clear hK K;refine tn ?_;refine Q8 (st':=⟨[(6,iV 0),(7,iV v1)],[],0⟩) (Qw []) ?_;refine Qj ?_;refine tr ?_;have hr:=Option.some.inj h;rw [← hr];refine ⟨_,(.tmp (.tmp .nil)),?_⟩;refine ⟨(.one rfl rfl (.one rfl rfl .nil)),[iV 0,iV v1],[],by simp [Cone.cells,Fn.cells,XCocones.cells,UA,U1,IA,I1,LA,L1,BA,B1,EA,E1,E2,eB,eI,eL,Qf _ Qz _ (fun _=>rfl)],by simp,(UpL.refl _)⟩
 have g2:¬ (¬ (v1=0)):=gQ;clear g;replace h:=if_r g2 h;refine Qd ?_;refine tn ?_;refine Q3 ?_;refine runQ hN fun K hK=>?_;simp [-Q0,-Q5,-Q1,-Q6,-Q2];repeat with_reducible refine sdQ ?_
 replace h:=bind_some h;obtain ⟨v3,hv3,h⟩:=h;refine Q4 (Q6a _ _ v3 hv3) (.cons (.ifcL (by simp [Cone.cells,Fn.cells,XCocones.cells]) (.cons (.preT (by simp [Cone.cells,Fn.cells,XCocones.cells])) .nil)) (.cons (.aggL (.cons .val (.cons .lst .nil))) .nil)) ?_;simp [-Q0,-Q5,-Q1,-Q6,-Q2,unk,unA,unE,unT,unC,flat];repeat refine sdQ ?_
 refine hK _ ?_;clear hK K;refine tn ?_;refine Q8 (st':=⟨[(0,.ifc 160 [.rptr (Fn.cells true s_.opposite_)]),(4,.adr 0 0 0),(5,.adr 1 0 0),(9,.val (.bool v3.1)),(10,iV v3.2)],[(0,.mix 2 [(Cone.cells true best_)]),(1,.mix 2 [(Cone.cells true p_)])],2⟩) (Qw [(0,0),(1,1)]) ?_;refine Q3 ?_;refine Q3 ?_;refine runQ hN fun K hK=>?_;simp [-Q0,-Q5,-Q1,-Q6,-Q2];repeat refine sdQ ?_
 refine hK _ ?_;clear hK K;refine tn ?_;refine Q8 (st':=⟨[(0,.ifc 160 [.rptr (Fn.cells true s_.opposite_)]),(4,.adr 0 0 0),(5,.adr 1 0 0),(9,.val (.bool v3.1)),(10,iV v3.2),(26,.val (.bool (v3.2 != 0)))],[(0,.mix 2 [(Cone.cells true best_)]),(1,.mix 2 [(Cone.cells true p_)])],2⟩) (Qw [(0,0),(1,1)]) ?_;refine Qc rfl (fun g=>?_) fun g=>?_
 ·have g4:¬ (v3.2=0):=gQ;clear g;replace h:=if_l g4 h;refine Q3 ?_;refine runQ hN fun K hK=>?_;simp [-Q0,-Q5,-Q1,-Q6,-Q2];repeat refine sdQ ?_
  refine hK _ ?_;clear hK K;refine tn ?_;refine Q8 (st':=⟨[(6,iV 0),(7,iV v3.2)],[],0⟩) (Qw []) ?_;refine Qj ?_;refine tr ?_;have hr:=Option.some.inj h;rw [← hr];refine ⟨_,(.tmp (.tmp .nil)),?_⟩;refine ⟨(.one rfl rfl (.one rfl rfl .nil)),[iV 0,iV v3.2],[],by simp [Cone.cells,Fn.cells,XCocones.cells,UA,U1,IA,I1,LA,L1,BA,B1,EA,E1,E2,eB,eI,eL,Qf _ Qz _ (fun _=>rfl)],by simp,(UpL.refl _)⟩
 have g4:¬ (¬ (v3.2=0)):=gQ;clear g;replace h:=if_r g4 h;refine Qd ?_;refine tn ?_;refine Q3 ?_;refine Q3 ?_;refine runQ hN fun K hK=>?_;simp [-Q0,-Q5,-Q1,-Q6,-Q2];repeat refine sdQ ?_
 refine hK _ ?_;clear hK K;refine tn ?_;refine Q8 (st':=⟨[(0,.ifc 160 [.rptr (Fn.cells true s_.opposite_)]),(4,.adr 0 0 0),(5,.adr 1 0 0),(29,.val (.bool (!v3.1)))],[(0,.mix 2 [(Cone.cells true best_)]),(1,.mix 2 [(Cone.cells true p_)])],2⟩) (Qw [(0,0),(1,1)]) ?_;refine Qc rfl (fun g=>?_) fun g=>?_
 ·have g5:¬ (v3.1=true):=gQ;clear g;replace h:=if_l g5 h;refine Q3 ?_;refine runQ hN fun K hK=>?_;simp [-Q0,-Q5,-Q1,-Q6,-Q2];repeat refine sdQ ?_
  refine hK _ ?_;clear hK K;refine tn ?_;refine Q8 (st':=⟨[(6,iV 0),(7,iV 5)],[],0⟩) (Qw []) ?_;refine Qj ?_;refine tr ?_;have hr:=Option.some.inj h;rw [← hr];refine ⟨_,(.tmp (.tmp .nil)),?_⟩;refine ⟨(.one rfl rfl (.one rfl rfl .nil)),[iV 0,iV 5],[],by simp [Cone.cells,Fn.cells,XCocones.cells,UA,U1,IA,I1,LA,L1,BA,B1,EA,E1,E2,eB,eI,eL,Qf _ Qz _ (fun _=>rfl)],by simp,(UpL.refl _)⟩
 have g5:¬ (¬ (v3.1=true)):=gQ;clear g;replace h:=if_r g5 h;refine Qd ?_;refine tn ?_;refine Q3 ?_;refine Qr [] mo (by rw [hN];decide) fun K hK=>?_;simp [-Q0,-Q5,-Q1,-Q6,-Q2];repeat with_reducible refine sdQ ?_
 replace h:=bind_some h;obtain ⟨v6,hv6,h⟩:=h;refine Q3T (fz:=[]) true (Q1b _ v6 hv6) (PurK.ofN (.cons (.aggL (.cons (.preT (by simp [Cone.cells,Fn.cells,XCocones.cells])) .nil)) .nil)) ?_;simp [-Q0,-Q5,-Q1,-Q6,-Q2,unk,unA,unE,unT,unC,flat];repeat with_reducible refine sdQ ?_
 replace h:=bind_some h;obtain ⟨v7,hv7,h⟩:=h;refine QF (fz:=[]) (Q4v _ _ _ v7 hv7) (.cons (.preT (by simp [Cone.cells,Fn.cells,XCocones.cells])) (.cons (.aggL (.cons .val (.cons .lst .nil))) (.cons (.aggL (.cons .val (.cons .lst .nil))) .nil))) ?_;replace h:=Q7 h;obtain ⟨a8,h⟩:=h;simp [-Q0,-Q5,-Q1,-Q6,-Q2,unk,unA,unE,unT,unC,flat,(show (Is v7)[0]? = some [iV (ix v7 0)] from at_I (j:=0) a8)];repeat refine sdQ ?_
 refine hK _ ?_;clear hK K;refine tn ?_;refine Q8 (st':=⟨[(6,iV (ix v7 0)),(7,iV 0)],[],0⟩) (Qw []) ?_;refine Qj ?_;have hr:=Option.some.inj h;rw [← hr];refine ⟨_,(.tmp (.tmp .nil)),?_⟩;refine ⟨(.one rfl rfl (.one rfl rfl .nil)),[iV (ix v7 0),iV 0],[],by simp [Cone.cells,Fn.cells,XCocones.cells,UA,U1,IA,I1,LA,L1,BA,B1,EA,E1,E2,eB,eI,eL,Qf _ Qz _ (fun _=>rfl)],by simp,(UpL.refl _)⟩
attribute [local simp] eL eI Qs Q1m Q1r Qz Cone.cells Fn.cells XCocones.cells
noncomputable def Q10 (d_:Fn) (colimit_:Cone) (p_:Cone):Option (Int × Int) :=
 (QM d_).bind fun v1 =>
 if ¬ (v1=true) then
  some (0,1)
 else
  (Q1M d_).bind fun v3 =>
  (Q2e v3 colimit_ p_).bind fun v4 =>
  some (v4.1,v4.2)
theorem Q3y (d_:Fn) (colimit_:Cone) (p_:Cone) (r:Int × Int) (h:Q10 d_ colimit_ p_=some r):Contract Try.prog 41 [.agg (d_.cells true),.agg (colimit_.cells true),.agg (p_.cells true)] (.tup [iV r.1,iV r.2]):=by
 refine Qe (rvs:=[.tmp 6,.tmp 7]) (rs:=[iV r.1,iV r.2]) Try.func41 rfl rfl rfl rfl (by simp [Try.f41]) fun F hN hP=>?_;unfold Q10 at h;refine Q3 ?_;refine Qr [3,4,5] mo (by rw [hN];decide) fun K hK=>?_;simp [-Q0,-Q5,-Q1,-Q6,-Q2];repeat refine sdQ ?_
 refine hK _ ?_;clear hK K;refine tn ?_;refine Q8 (st':=⟨[(3,.rptr (Fn.cells true d_)),(4,.rptr (Cone.cells true colimit_)),(5,.rptr (Cone.cells true p_))],[],0⟩) (Qw []) ?_;refine Q3 ?_;refine Q3 ?_;refine runQ hN fun K hK=>?_;simp [-Q0,-Q5,-Q1,-Q6,-Q2];repeat with_reducible refine sdQ ?_
 replace h:=bind_some h;obtain ⟨v1,hv1,h⟩:=h;refine Q4 (Q3m _ v1 hv1) (.cons (.preT (by simp [Cone.cells,Fn.cells])) .nil) ?_;simp [-Q0,-Q5,-Q1,-Q6,-Q2,unk,unA,unE,unT,unC,flat];repeat refine sdQ ?_
 refine hK _ ?_;clear hK K;refine tn ?_;refine Q8 (st':=⟨[(3,.rptr (Fn.cells true d_)),(4,.rptr (Cone.cells true colimit_)),(5,.rptr (Cone.cells true p_)),(9,.val (.bool (!v1)))],[],0⟩) (Qw []) ?_;refine Qc rfl (fun g=>?_) fun g=>?_
 ·have g2:¬ (v1=true):=gQ;clear g;replace h:=if_l g2 h;refine Q3 ?_;refine runQ hN fun K hK=>?_;simp [-Q0,-Q5,-Q1,-Q6,-Q2];repeat refine sdQ ?_
  refine hK _ ?_;clear hK K;refine tn ?_;refine Q8 (st':=⟨[(6,iV 0),(7,iV 1)],[],0⟩) (Qw []) ?_;refine Qj ?_;refine tr ?_;have hr:=Option.some.inj h;rw [← hr];refine ⟨_,(.tmp (.tmp .nil)),?_⟩;refine ⟨(.one rfl rfl (.one rfl rfl .nil)),[iV 0,iV 1],[],by simp [Cone.cells,Fn.cells,XCocones.cells,UA,U1,IA,I1,LA,L1,BA,B1,EA,E1,E2,eB,eI,eL,Qf _ Qz _ (fun _=>rfl)],by simp,(UpL.refl _)⟩
 have g2:¬ (¬ (v1=true)):=gQ;clear g;replace h:=if_r g2 h;refine Qd ?_;refine tn ?_;refine Q3 ?_;refine Qr [] mo (by rw [hN];decide) fun K hK=>?_;simp [-Q0,-Q5,-Q1,-Q6,-Q2];repeat with_reducible refine sdQ ?_
 replace h:=bind_some h;obtain ⟨v3,hv3,h⟩:=h;refine Q3U (fz:=[]) true (Q68 _ v3 hv3) (PurK.ofN (.cons (.preT (by simp [Cone.cells,Fn.cells])) .nil)) ?_;simp [-Q0,-Q5,-Q1,-Q6,-Q2,unk,unA,unE,unT,unC,flat];repeat with_reducible refine sdQ ?_
 replace h:=bind_some h;obtain ⟨v4,hv4,h⟩:=h;refine QF (fz:=[]) (Q69 _ _ _ v4 hv4) (.cons (.ifcL (by simp [Cone.cells,Fn.cells,XCocones.cells]) (.cons (.preT (by simp [Cone.cells,Fn.cells,XCocones.cells])) .nil)) (.cons (.aggL (.cons .val (.cons .lst .nil))) (.cons (.aggL (.cons .val (.cons .lst .nil))) .nil))) ?_;simp [-Q0,-Q5,-Q1,-Q6,-Q2,unk,unA,unE,unT,unC,flat];repeat refine sdQ ?_
 refine hK _ ?_;clear hK K;refine tn ?_;refine Q8 (st':=⟨[(6,iV v4.1),(7,iV v4.2)],[],0⟩) (Qw []) ?_;refine Qj ?_;have hr:=Option.some.inj h;rw [← hr];refine ⟨_,(.tmp (.tmp .nil)),?_⟩;refine ⟨(.one rfl rfl (.one rfl rfl .nil)),[iV v4.1,iV v4.2],[],by simp [Cone.cells,Fn.cells,XCocones.cells,UA,U1,IA,I1,LA,L1,BA,B1,EA,E1,E2,eB,eI,eL,Qf _ Qz _ (fun _=>rfl)],by simp,(UpL.refl _)⟩
attribute [local simp] eL eI Qs QI Q1m Q1r Cat.cells Cone.cells Fn.cells
noncomputable def Q1A (d_:Fn) (p_:Cone):Option Bool :=
 (
  (Q1O d_.t p_.a).bind fun v2 =>
  if ¬ (v2=true) then
   some true
  else
   if ¬ ((p_.l.length:Int)=(d_.ob.length:Int)) then
    some true
   else
    (Q1j (d_.t.fr.length:Int) p_.l).bind fun v5 =>
    some (!v5):Option (Bool)).bind fun b1 =>
 if b1=true then
  some false
 else
  (QD (σ:=Int) (ε:=Unit ⊕ Bool) (fun s18 =>
   if s18<(p_.l.length:Int) then
    (
     ass (0≤s18∧s18<(p_.l.length:Int)) <|
     ass (0≤ix p_.l s18∧ix p_.l s18<(d_.t.fr.length:Int)) <|
     if ¬ ((ix d_.t.fr (ix p_.l s18))=p_.a) then
      some true
     else
      ass (0≤s18∧s18<(p_.l.length:Int)) <|
      ass (0≤ix p_.l s18∧ix p_.l s18<(d_.t.to.length:Int)) <|
      ass (0≤s18∧s18<(d_.ob.length:Int)) <|
      some ((ix d_.t.to (ix p_.l s18)) != (ix d_.ob s18)):Option (Bool)).bind fun b20 =>
    if b20=true then
     some (Ctl.ret (Sum.inr false))
    else
     ass (B64 (s18+1)) <|
     some (Ctl.next (s18+1))
   else
    some (Ctl.ret (Sum.inl ()))) fuel 0).bind fun e7 =>
  match e7 with
  | .inl b7 =>
   (QD (σ:=Int) (ε:=Unit ⊕ Bool) (fun s39 =>
    if s39<(d_.ar.length:Int) then
     ass (0≤s39∧s39<(d_.s.fr.length:Int)) <|
     ass (0≤ix d_.s.fr s39∧ix d_.s.fr s39<(p_.l.length:Int)) <|
     ass (0≤s39∧s39<(d_.ar.length:Int)) <|
     (QT d_.t (ix p_.l (ix d_.s.fr s39)) (ix d_.ar s39)).bind fun v44 =>
     ass (0≤s39∧s39<(d_.s.to.length:Int)) <|
     ass (0≤ix d_.s.to s39∧ix d_.s.to s39<(p_.l.length:Int)) <|
     if ¬ (v44=(ix p_.l (ix d_.s.to s39))) then
      some (Ctl.ret (Sum.inr false))
     else
      ass (B64 (s39+1)) <|
      some (Ctl.next (s39+1))
    else
     some (Ctl.ret (Sum.inl ()))) fuel 0).bind fun e29 =>
   match e29 with
   | .inl b29 =>
    some true
   | .inr p29 =>
    some p29
  | .inr p7 =>
   some p7
theorem Q3R (d_:Fn) (p_:Cone) (r:Bool) (h:Q1A d_ p_=some r):Contract Try.prog 124 [.agg (d_.cells true),.agg (p_.cells true)] (.val (.bool r)):=by
 refine Qe (rvs:=[.tmp 4]) (rs:=[.val (.bool r)]) Try.func124 rfl rfl rfl rfl (by simp [Try.f124]) fun F hN hP=>?_;unfold Q1A at h;refine Q3 ?_;refine runQ hN fun K hK=>?_;simp [-Q0,-Q5,-Q1,-Q6,-Q2];repeat refine sdQ ?_
 refine hK _ ?_;clear hK K;refine tn ?_;refine Q8 (st':=⟨[(2,.adr 0 0 0),(3,.adr 1 0 0)],[(0,.mix 12 [(Fn.cells true d_)]),(1,.mix 2 [(Cone.cells true p_)])],2⟩) (Qw [(0,0),(1,1)]) ?_;refine Q3 ?_;refine runQ hN fun K hK=>?_;simp [-Q0,-Q5,-Q1,-Q6,-Q2];repeat refine sdQ ?_
 refine hK _ ?_;clear hK K;refine tn ?_;refine Q8 (st':=⟨[(2,.adr 0 0 0),(3,.adr 1 0 0),(5,.adr 2 0 0)],[(0,.mix 12 [(Fn.cells true d_)]),(1,.mix 2 [(Cone.cells true p_)]),(2,.mix 5 [(Cat.cells true d_.t)])],3⟩) (Qw [(0,0),(1,1),(2,2)]) ?_;refine Q3 ?_;refine Q3 ?_;replace h:=bind_some h;obtain ⟨e1,h,h1⟩:=h;refine Qh (fun b1:Bool=>⟨[(2,.adr 0 0 0),(3,.adr 1 0 0),(5,.adr 2 0 0),(32,.val (.bool b1))],[(0,.mix 12 [(Fn.cells true d_)]),(1,.mix 2 [(Cone.cells true p_)]),(2,.mix 5 [(Cat.cells true d_.t)])],3⟩) (fun b1=>b1=e1) ?_ ?_
 ·refine runQ hN fun K hK=>?_;simp [-Q0,-Q5,-Q1,-Q6,-Q2];repeat with_reducible refine sdQ ?_
  replace h:=bind_some h;obtain ⟨v2,hv2,h⟩:=h;refine Q4 (Q6c _ _ v2 hv2) (.cons (.aggL (.cons .val (.cons .lst (.cons .lst (.cons .lst (.cons .lst .nil)))))) (.cons .val .nil)) ?_;simp [-Q0,-Q5,-Q1,-Q6,-Q2,unk,unA,unE,unT,unC,flat];repeat with_reducible refine sdQ ?_
  refine Ql (fun g=>?_) (fun g=>?_)
  ·have g3:¬ (¬ (v2=true)):=gQ;clear g;replace h:=if_r g3 h;simp [-Q0,-Q5,-Q1,-Q6,-Q2];(repeat with_reducible refine sdQ ?_);refine Ql (fun g=>?_) (fun g=>?_)
   ·have g4:¬ (¬ ((p_.l.length:Int)=(d_.ob.length:Int))):=gQ;clear g;replace h:=if_r g4 h;simp [-Q0,-Q5,-Q1,-Q6,-Q2];(repeat with_reducible refine sdQ ?_);replace h:=bind_some h;obtain ⟨v5,hv5,h⟩:=h;refine Q4 (Q4k _ _ v5 hv5) (.cons .val (.cons .lst .nil)) ?_;simp [-Q0,-Q5,-Q1,-Q6,-Q2,unk,unA,unE,unT,unC,flat];(repeat refine sdQ ?_);refine hK _ ?_;exact jn (b:=!v5) (Option.some.inj h) (Qw [(0,0),(1,1),(2,2)])
   have g4:¬ ((p_.l.length:Int)=(d_.ob.length:Int)):=gQ;clear g;replace h:=if_l g4 h;simp [-Q0,-Q5,-Q1,-Q6,-Q2];(repeat refine sdQ ?_);refine hK _ ?_;exact jn (b:=true) (Option.some.inj h) (Qw [(0,0),(1,1),(2,2)])
  have g3:¬ (v2=true):=gQ;clear g;replace h:=if_l g3 h;simp [-Q0,-Q5,-Q1,-Q6,-Q2];repeat refine sdQ ?_
  refine hK _ ?_;exact jn (b:=true) (Option.some.inj h) (Qw [(0,0),(1,1),(2,2)])
 intro b1 hb1;have h:=h1;try rw [← hb1] at h
 clear h1;try dsimp only at h
 refine Qc rfl (fun g=>?_) fun g=>?_
 ·have g6:b1=true:=gQ;clear g;replace h:=if_l g6 h;refine Q3 ?_;refine runQ hN fun K hK=>?_;simp [-Q0,-Q5,-Q1,-Q6,-Q2];repeat refine sdQ ?_
  refine hK _ ?_;clear hK K;refine tn ?_;refine Q8 (st':=⟨[(4,.val (.bool false))],[],0⟩) (Qw []) ?_;refine Qj ?_;refine tr ?_;have hr:=Option.some.inj h;rw [← hr];refine ⟨_,(.tmp .nil),?_⟩;refine ⟨(.one rfl rfl .nil),[.val (.bool false)],[],by simp [Cat.cells,Cone.cells,Fn.cells,UA,U1,IA,I1,LA,L1,BA,B1,EA,E1,E2,eB,eI,eL],by simp,(UpL.refl _)⟩
 have g6:¬ (b1=true):=gQ;clear g;replace h:=if_r g6 h;refine Qd ?_;refine tn ?_;refine Q3 ?_;refine Q3 ?_;refine runQ hN fun K hK=>?_;simp [-Q0,-Q5,-Q1,-Q6,-Q2];repeat refine sdQ ?_
 refine hK _ ?_;clear hK K;refine tn ?_;refine Q8 (st':=⟨[(2,.adr 0 0 0),(3,.adr 1 0 0),(5,.adr 2 0 0),(6,iV 0)],[(0,.mix 12 [(Fn.cells true d_)]),(1,.mix 2 [(Cone.cells true p_)]),(2,.mix 5 [(Cat.cells true d_.t)])],3⟩) (Qw [(0,0),(1,1),(2,2)]) ?_;replace h:=bind_some h;obtain ⟨e7,h,h7⟩:=h;refine Qh (fun b7:Unit=>⟨[(2,.adr 0 0 0),(3,.adr 1 0 0),(5,.adr 2 0 0)],[(0,.mix 12 [(Fn.cells true d_)]),(1,.mix 2 [(Cone.cells true p_)]),(2,.mix 5 [(Cat.cells true d_.t)])],3⟩) (fun b7=>Sum.inl b7=e7) ?_ ?_
 ·refine Qa ?_;refine Qx h (fun s18:Int=>⟨[(2,.adr 0 0 0),(3,.adr 1 0 0),(5,.adr 2 0 0),(6,iV s18)],[(0,.mix 12 [(Fn.cells true d_)]),(1,.mix 2 [(Cone.cells true p_)]),(2,.mix 5 [(Cat.cells true d_.t)])],3⟩) (Qw [(0,0),(1,1),(2,2)]) ?_;clear h;intro k18 s18 c18 h hk18;refine Q3 ?_;refine Q3 ?_;refine runQ hN fun K hK=>?_;simp [-Q0,-Q5,-Q1,-Q6,-Q2];repeat refine sdQ ?_
  refine hK _ ?_;clear hK K;refine tn ?_;refine Q8 (st':=⟨[(2,.adr 0 0 0),(3,.adr 1 0 0),(5,.adr 2 0 0),(6,iV s18),(37,.val (.bool (decide (s18<(p_.l.length:Int)))))],[(0,.mix 12 [(Fn.cells true d_)]),(1,.mix 2 [(Cone.cells true p_)]),(2,.mix 5 [(Cat.cells true d_.t)])],3⟩) (Qw [(0,0),(1,1),(2,2)]) ?_;refine Qc rfl (fun g=>?_) fun g=>?_
  ·have g19:s18<(p_.l.length:Int):=gQ;clear g;replace h:=if_l g19 h;refine Qd ?_;refine tn ?_;refine Q3 ?_;refine Qa ?_;refine Q3 ?_;replace h:=bind_some h;obtain ⟨e20,h,h20⟩:=h;refine Qh (fun b20:Bool=>⟨[(2,.adr 0 0 0),(3,.adr 1 0 0),(5,.adr 2 0 0),(6,iV s18),(68,.val (.bool b20))],[(0,.mix 12 [(Fn.cells true d_)]),(1,.mix 2 [(Cone.cells true p_)]),(2,.mix 5 [(Cat.cells true d_.t)])],3⟩) (fun b20=>b20=e20) ?_ ?_
   ·refine runQ hN fun K hK=>?_;replace h:=Q7 h;obtain ⟨a21,h⟩:=h;replace h:=Q7 h;obtain ⟨a22,h⟩:=h;simp [-Q0,-Q5,-Q1,-Q6,-Q2,at_I a21,at_I a22];(repeat with_reducible refine sdQ ?_);refine Ql (fun g=>?_) (fun g=>?_)
    ·have g23:¬ (¬ ((ix d_.t.fr (ix p_.l s18))=p_.a)):=gQ;clear g;replace h:=if_r g23 h;replace h:=Q7 h;obtain ⟨a24,h⟩:=h;replace h:=Q7 h;obtain ⟨a25,h⟩:=h;replace h:=Q7 h;obtain ⟨a26,h⟩:=h;simp [-Q0,-Q5,-Q1,-Q6,-Q2,at_I a21,at_I a22,at_I a24,at_I a25,at_I a26];(repeat refine sdQ ?_);refine hK _ ?_;exact jn (b:=(ix d_.t.to (ix p_.l s18)) != (ix d_.ob s18)) (Option.some.inj h) (Qw [(0,0),(1,1),(2,2)])
    have g23:¬ ((ix d_.t.fr (ix p_.l s18))=p_.a):=gQ;clear g;replace h:=if_l g23 h;simp [-Q0,-Q5,-Q1,-Q6,-Q2,at_I a21,at_I a22];(repeat refine sdQ ?_);refine hK _ ?_;exact jn (b:=true) (Option.some.inj h) (Qw [(0,0),(1,1),(2,2)])
   intro b20 hb20;have h:=h20;(try rw [← hb20] at h);clear h20;(try dsimp only at h);refine Qc rfl (fun g=>?_) fun g=>?_
   ·have g27:b20=true:=gQ;clear g;replace h:=if_l g27 h;refine Q3 ?_;refine runQ hN fun K hK=>?_;simp [-Q0,-Q5,-Q1,-Q6,-Q2];(repeat refine sdQ ?_);refine hK _ ?_;clear hK K;refine tn ?_;refine Q8 (st':=⟨[(4,.val (.bool false))],[],0⟩) (Qw []) ?_;refine Qj ?_;refine br ?_;refine tr ?_;refine lr ?_;refine br ?_;refine tr ?_;cases h;have q:_=e7:=hk18;have h:=h7;rw [← q] at h;clear q;(try dsimp only at h);have hr:=Option.some.inj h;rw [← hr];refine ⟨_,(.tmp .nil),?_⟩;refine ⟨(.one rfl rfl .nil),[.val (.bool false)],[],by simp [Cat.cells,Cone.cells,Fn.cells,UA,U1,IA,I1,LA,L1,BA,B1,EA,E1,E2,eB,eI,eL],by simp,(UpL.refl _)⟩
   have g27:¬ (b20=true):=gQ;clear g;replace h:=if_r g27 h;refine Qd ?_;refine bn ?_;refine tn ?_;refine runQ hN fun K hK=>?_;replace h:=Q7 h;obtain ⟨a28,h⟩:=h;simp [-Q0,-Q5,-Q1,-Q6,-Q2,Qt a28];(repeat refine sdQ ?_);refine hK _ ?_;clear hK K;cases h;exact rn (s':=s18+1) hk18 (Qw [(0,0),(1,1),(2,2)])
  have g19:¬ (s18<(p_.l.length:Int)):=gQ;clear g;replace h:=if_r g19 h;refine Qq ?_;refine tx ?_;refine lx ?_;refine bh ?_;cases h;exact jn (b:=()) hk18 (Qw [(0,0),(1,1),(2,2)])
 intro b7 hb7;have h:=h7;try rw [← hb7] at h
 clear h7;try dsimp only at h
 refine Q3 ?_;refine Q3 ?_;refine runQ hN fun K hK=>?_;simp [-Q0,-Q5,-Q1,-Q6,-Q2];repeat refine sdQ ?_
 refine hK _ ?_;clear hK K;refine tn ?_;refine Q8 (st':=⟨[(2,.adr 0 0 0),(3,.adr 1 0 0),(5,.adr 2 0 0),(7,iV 0)],[(0,.mix 12 [(Fn.cells true d_)]),(1,.mix 2 [(Cone.cells true p_)]),(2,.mix 5 [(Cat.cells true d_.t)])],3⟩) (Qw [(0,0),(1,1),(2,2)]) ?_;replace h:=bind_some h;obtain ⟨e29,h,h29⟩:=h;refine Qh (fun b29:Unit=>⟨[],[],0⟩) (fun b29=>Sum.inl b29=e29) ?_ ?_
 ·refine Qa ?_;refine Qx h (fun s39:Int=>⟨[(2,.adr 0 0 0),(3,.adr 1 0 0),(5,.adr 2 0 0),(7,iV s39)],[(0,.mix 12 [(Fn.cells true d_)]),(1,.mix 2 [(Cone.cells true p_)]),(2,.mix 5 [(Cat.cells true d_.t)])],3⟩) (Qw [(0,0),(1,1),(2,2)]) ?_;clear h;intro k39 s39 c39 h hk39;refine Q3 ?_;refine Q3 ?_;refine runQ hN fun K hK=>?_;simp [-Q0,-Q5,-Q1,-Q6,-Q2];repeat refine sdQ ?_
  refine hK _ ?_;clear hK K;refine tn ?_;refine Q8 (st':=⟨[(2,.adr 0 0 0),(3,.adr 1 0 0),(5,.adr 2 0 0),(7,iV s39),(73,.val (.bool (decide (s39<(d_.ar.length:Int)))))],[(0,.mix 12 [(Fn.cells true d_)]),(1,.mix 2 [(Cone.cells true p_)]),(2,.mix 5 [(Cat.cells true d_.t)])],3⟩) (Qw [(0,0),(1,1),(2,2)]) ?_;refine Qc rfl (fun g=>?_) fun g=>?_
  ·have g40:s39<(d_.ar.length:Int):=gQ;clear g;replace h:=if_l g40 h;refine Qd ?_;refine tn ?_;refine Q3 ?_;refine Qa ?_;refine Q3 ?_;refine runQ hN fun K hK=>?_;replace h:=Q7 h;obtain ⟨a41,h⟩:=h;replace h:=Q7 h;obtain ⟨a42,h⟩:=h;replace h:=Q7 h;obtain ⟨a43,h⟩:=h;simp [-Q0,-Q5,-Q1,-Q6,-Q2,at_I a41,at_I a42,at_I a43];(repeat with_reducible refine sdQ ?_);replace h:=bind_some h;obtain ⟨v44,hv44,h⟩:=h;refine Q4 (Q57 _ _ _ v44 hv44) (.cons (.aggL (.cons .val (.cons .lst (.cons .lst (.cons .lst (.cons .lst .nil)))))) (.cons .val (.cons .val .nil))) ?_;replace h:=Q7 h;obtain ⟨a45,h⟩:=h;replace h:=Q7 h;obtain ⟨a46,h⟩:=h;simp [-Q0,-Q5,-Q1,-Q6,-Q2,unk,unA,unE,unT,unC,flat,at_I a41,at_I a42,at_I a43,at_I a45,at_I a46];(repeat refine sdQ ?_);refine hK _ ?_;clear hK K;refine tn ?_;refine Q8 (st':=⟨[(2,.adr 0 0 0),(3,.adr 1 0 0),(5,.adr 2 0 0),(7,iV s39),(103,.val (.bool (v44 != (ix p_.l (ix d_.s.to s39)))))],[(0,.mix 12 [(Fn.cells true d_)]),(1,.mix 2 [(Cone.cells true p_)]),(2,.mix 5 [(Cat.cells true d_.t)])],3⟩) (Qw [(0,0),(1,1),(2,2)]) ?_;refine Qc rfl (fun g=>?_) fun g=>?_
   ·have g47:¬ (v44=(ix p_.l (ix d_.s.to s39))):=gQ;clear g;replace h:=if_l g47 h;refine Q3 ?_;refine runQ hN fun K hK=>?_;simp [-Q0,-Q5,-Q1,-Q6,-Q2];(repeat refine sdQ ?_);refine hK _ ?_;clear hK K;refine tn ?_;refine Q8 (st':=⟨[(4,.val (.bool false))],[],0⟩) (Qw []) ?_;refine Qj ?_;refine br ?_;refine tr ?_;refine lr ?_;refine br ?_;refine tr ?_;cases h;have q:_=e29:=hk39;have h:=h29;rw [← q] at h;clear q;(try dsimp only at h);have hr:=Option.some.inj h;rw [← hr];refine ⟨_,(.tmp .nil),?_⟩;refine ⟨(.one rfl rfl .nil),[.val (.bool false)],[],by simp [Cat.cells,Cone.cells,Fn.cells,UA,U1,IA,I1,LA,L1,BA,B1,EA,E1,E2,eB,eI,eL],by simp,(UpL.refl _)⟩
   have g47:¬ (¬ (v44=(ix p_.l (ix d_.s.to s39)))):=gQ;clear g;replace h:=if_r g47 h;refine Qd ?_;refine bn ?_;refine tn ?_;refine runQ hN fun K hK=>?_;replace h:=Q7 h;obtain ⟨a48,h⟩:=h;simp [-Q0,-Q5,-Q1,-Q6,-Q2,Qt a48];(repeat refine sdQ ?_);refine hK _ ?_;clear hK K;cases h;exact rn (s':=s39+1) hk39 (Qw [(0,0),(1,1),(2,2)])
  have g40:¬ (s39<(d_.ar.length:Int)):=gQ;clear g;replace h:=if_r g40 h;refine Qq ?_;refine tx ?_;refine lx ?_;refine bh ?_;cases h;exact jn (b:=()) hk39 (Qw [])
 intro b29 hb29;have h:=h29;try rw [← hb29] at h
 clear h29;try dsimp only at h
 refine Q3 ?_;refine runQ hN fun K hK=>?_;simp [-Q0,-Q5,-Q1,-Q6,-Q2];repeat refine sdQ ?_
 refine hK _ ?_;clear hK K;refine tn ?_;refine Q8 (st':=⟨[(4,.val (.bool true))],[],0⟩) (Qw []) ?_;refine Qj ?_;have hr:=Option.some.inj h;rw [← hr];refine ⟨_,(.tmp .nil),?_⟩;refine ⟨(.one rfl rfl .nil),[.val (.bool true)],[],by simp [Cat.cells,Cone.cells,Fn.cells,UA,U1,IA,I1,LA,L1,BA,B1,EA,E1,E2,eB,eI,eL],by simp,(UpL.refl _)⟩
attribute [local simp] eL eI Qs Q1m Q1r Cone.cells Fn.cells
noncomputable def Q3j (d_:Fn) (p_:Cone):Option (Bool × Int) :=
 (Q1A d_ p_).bind fun v1 =>
 if ¬ (v1=true) then
  some (false,5)
 else
  (Q2t d_).bind fun v3 =>
  (
   (Q1e d_ v3.1 p_).bind fun v5 =>
   if v5=true then
    some (v3.2 == 0)
   else
    some false:Option (Bool)).bind fun b4 =>
  some (b4,v3.2)
theorem w_s_l12Is (d_:Fn) (p_:Cone) (r:Bool × Int) (h:Q3j d_ p_=some r):Contract Try.prog 81 [.agg (d_.cells true),.agg (p_.cells true)] (.tup [.val (.bool r.1),iV r.2]):=by
 refine Qe (rvs:=[.tmp 4,.tmp 5]) (rs:=[.val (.bool r.1),iV r.2]) Try.func81 rfl rfl rfl rfl (by simp [Try.f81]) fun F hN hP=>?_;unfold Q3j at h;refine Q3 ?_;refine runQ hN fun K hK=>?_;simp [-Q0,-Q5,-Q1,-Q6,-Q2];repeat refine sdQ ?_
 refine hK _ ?_;clear hK K;refine tn ?_;refine Q8 (st':=⟨[(2,.adr 0 0 0),(3,.adr 1 0 0)],[(0,.mix 12 [(Fn.cells true d_)]),(1,.mix 2 [(Cone.cells true p_)])],2⟩) (Qw [(0,0),(1,1)]) ?_;refine Q3 ?_;refine Q3 ?_;refine runQ hN fun K hK=>?_;simp [-Q0,-Q5,-Q1,-Q6,-Q2];repeat with_reducible refine sdQ ?_
 replace h:=bind_some h;obtain ⟨v1,hv1,h⟩:=h;refine Q4 (Q3R _ _ v1 hv1) (.cons (.aggL (.cons .val (.cons .lst (.cons .lst (.cons .lst (.cons .lst (.cons .val (.cons .lst (.cons .lst (.cons .lst (.cons .lst (.cons .lst (.cons .lst .nil))))))))))))) (.cons (.aggL (.cons .val (.cons .lst .nil))) .nil)) ?_;simp [-Q0,-Q5,-Q1,-Q6,-Q2,unk,unA,unE,unT,unC,flat];repeat refine sdQ ?_
 refine hK _ ?_;clear hK K;refine tn ?_;refine Q8 (st':=⟨[(2,.adr 0 0 0),(3,.adr 1 0 0),(11,.val (.bool (!v1)))],[(0,.mix 12 [(Fn.cells true d_)]),(1,.mix 2 [(Cone.cells true p_)])],2⟩) (Qw [(0,0),(1,1)]) ?_;refine Qc rfl (fun g=>?_) fun g=>?_
 ·have g2:¬ (v1=true):=gQ;clear g;replace h:=if_l g2 h;refine Q3 ?_;refine runQ hN fun K hK=>?_;simp [-Q0,-Q5,-Q1,-Q6,-Q2];repeat refine sdQ ?_
  refine hK _ ?_;clear hK K;refine tn ?_;refine Q8 (st':=⟨[(4,.val (.bool false)),(5,iV 5)],[],0⟩) (Qw []) ?_;refine Qj ?_;refine tr ?_;have hr:=Option.some.inj h;rw [← hr];refine ⟨_,(.tmp (.tmp .nil)),?_⟩;refine ⟨(.one rfl rfl (.one rfl rfl .nil)),[.val (.bool false),iV 5],[],by simp [Cone.cells,Fn.cells,UA,U1,IA,I1,LA,L1,BA,B1,EA,E1,E2,eB,eI,eL,Qf _ (Cone.cells true) _ (fun _=>rfl)],by simp,(UpL.refl _)⟩
 have g2:¬ (¬ (v1=true)):=gQ;clear g;replace h:=if_r g2 h;refine Qd ?_;refine tn ?_;refine Q3 ?_;refine Qr [] mo (by rw [hN];decide) fun K hK=>?_;simp [-Q0,-Q5,-Q1,-Q6,-Q2];repeat with_reducible refine sdQ ?_
 replace h:=bind_some h;obtain ⟨v3,hv3,h⟩:=h;refine Q3U (fz:=[]) true (Q7y _ v3 hv3) (PurK.ofN (.cons (.aggL (.cons .val (.cons .lst (.cons .lst (.cons .lst (.cons .lst (.cons .val (.cons .lst (.cons .lst (.cons .lst (.cons .lst (.cons .lst (.cons .lst .nil))))))))))))) .nil)) ?_;simp [-Q0,-Q5,-Q1,-Q6,-Q2,unk,unA,unE,unT,unC,flat];repeat refine sdQ ?_
 refine hK _ ?_;clear hK K;refine tn ?_;refine Q8 (st':=⟨[(2,.adr 0 0 0),(3,.adr 1 0 0),(6,.lst true 2 (Es (Cone.cells true) v3.1)),(7,iV v3.2)],[(0,.mix 12 [(Fn.cells true d_)]),(1,.mix 2 [(Cone.cells true p_)])],2⟩) (Qw [(0,0),(1,1)]) ?_;refine Q3 ?_;replace h:=bind_some h;obtain ⟨e4,h,h4⟩:=h;refine Qh (fun b4:Bool=>⟨[(4,.val (.bool b4)),(5,iV v3.2)],[],0⟩) (fun b4=>b4=e4) ?_ ?_
 ·refine runQ hN fun K hK=>?_;simp [-Q0,-Q5,-Q1,-Q6,-Q2];repeat with_reducible refine sdQ ?_
  replace h:=bind_some h;obtain ⟨v5,hv5,h⟩:=h;refine Q4 (Q4F _ _ _ v5 hv5) (.cons (.aggL (.cons .val (.cons .lst (.cons .lst (.cons .lst (.cons .lst (.cons .val (.cons .lst (.cons .lst (.cons .lst (.cons .lst (.cons .lst (.cons .lst .nil))))))))))))) (.cons .lst (.cons (.aggL (.cons .val (.cons .lst .nil))) .nil))) ?_;simp [-Q0,-Q5,-Q1,-Q6,-Q2,unk,unA,unE,unT,unC,flat];repeat with_reducible refine sdQ ?_
  refine Ql (fun g=>?_) (fun g=>?_)
  ·have g6:v5=true:=gQ;clear g;replace h:=if_l g6 h;simp [-Q0,-Q5,-Q1,-Q6,-Q2];(repeat refine sdQ ?_);refine hK _ ?_;exact jn (b:=v3.2 == 0) (Option.some.inj h) (Qw [])
  have g6:¬ (v5=true):=gQ;clear g;replace h:=if_r g6 h;simp [-Q0,-Q5,-Q1,-Q6,-Q2];repeat refine sdQ ?_
  refine hK _ ?_;exact jn (b:=false) (Option.some.inj h) (Qw [])
 intro b4 hb4;have h:=h4;try rw [← hb4] at h
 clear h4;try dsimp only at h
 refine Qj ?_;have hr:=Option.some.inj h;rw [← hr];refine ⟨_,(.tmp (.tmp .nil)),?_⟩;refine ⟨(.one rfl rfl (.one rfl rfl .nil)),[.val (.bool b4),iV v3.2],[],by simp [Cone.cells,Fn.cells,UA,U1,IA,I1,LA,L1,BA,B1,EA,E1,E2,eB,eI,eL,Qf _ (Cone.cells true) _ (fun _=>rfl)],by simp,(UpL.refl _)⟩
attribute [local simp] eL eI Qs Q1m Q1r Cone.cells Fn.cells
noncomputable def Q3v (d_:Fn) (p_:Cone) (q_:Cone):Option Int :=
 (
  (Q1A d_ p_).bind fun v2 =>
  if ¬ (v2=true) then
   some true
  else
   (Q1A d_ q_).bind fun v4 =>
   some (!v4):Option (Bool)).bind fun b1 =>
 if b1=true then
  some 5
 else
  some 0
theorem Q8D (d_:Fn) (p_:Cone) (q_:Cone) (r:Int) (h:Q3v d_ p_ q_=some r):Contract Try.prog 131 [.agg (d_.cells true),.agg (p_.cells true),.agg (q_.cells true)] (iV r):=by
 refine Qe (rvs:=[.tmp 6]) (rs:=[iV r]) Try.func131 rfl rfl rfl rfl (by simp [Try.f131]) fun F hN hP=>?_;unfold Q3v at h;refine Q3 ?_;refine runQ hN fun K hK=>?_;simp [-Q0,-Q5,-Q1,-Q6,-Q2];repeat refine sdQ ?_
 refine hK _ ?_;clear hK K;refine tn ?_;refine Q8 (st':=⟨[(3,.adr 0 0 0),(4,.adr 1 0 0),(5,.adr 2 0 0)],[(0,.mix 12 [(Fn.cells true d_)]),(1,.mix 2 [(Cone.cells true p_)]),(2,.mix 2 [(Cone.cells true q_)])],3⟩) (Qw [(0,0),(1,1),(2,2)]) ?_;refine Q3 ?_;refine Q3 ?_;replace h:=bind_some h;obtain ⟨e1,h,h1⟩:=h;refine Qh (fun b1:Bool=>⟨[(16,.val (.bool b1))],[],0⟩) (fun b1=>b1=e1) ?_ ?_
 ·refine runQ hN fun K hK=>?_;simp [-Q0,-Q5,-Q1,-Q6,-Q2];repeat with_reducible refine sdQ ?_
  replace h:=bind_some h;obtain ⟨v2,hv2,h⟩:=h;refine Q4 (Q3R _ _ v2 hv2) (.cons (.aggL (.cons .val (.cons .lst (.cons .lst (.cons .lst (.cons .lst (.cons .val (.cons .lst (.cons .lst (.cons .lst (.cons .lst (.cons .lst (.cons .lst .nil))))))))))))) (.cons (.aggL (.cons .val (.cons .lst .nil))) .nil)) ?_;simp [-Q0,-Q5,-Q1,-Q6,-Q2,unk,unA,unE,unT,unC,flat];repeat with_reducible refine sdQ ?_
  refine Ql (fun g=>?_) (fun g=>?_)
  ·have g3:¬ (¬ (v2=true)):=gQ;clear g;replace h:=if_r g3 h;simp [-Q0,-Q5,-Q1,-Q6,-Q2];(repeat with_reducible refine sdQ ?_);replace h:=bind_some h;obtain ⟨v4,hv4,h⟩:=h;refine Q4 (Q3R _ _ v4 hv4) (.cons (.aggL (.cons .val (.cons .lst (.cons .lst (.cons .lst (.cons .lst (.cons .val (.cons .lst (.cons .lst (.cons .lst (.cons .lst (.cons .lst (.cons .lst .nil))))))))))))) (.cons (.aggL (.cons .val (.cons .lst .nil))) .nil)) ?_;simp [-Q0,-Q5,-Q1,-Q6,-Q2,unk,unA,unE,unT,unC,flat];(repeat refine sdQ ?_);refine hK _ ?_;exact jn (b:=!v4) (Option.some.inj h) (Qw [])
  have g3:¬ (v2=true):=gQ;clear g;replace h:=if_l g3 h;simp [-Q0,-Q5,-Q1,-Q6,-Q2];repeat refine sdQ ?_
  refine hK _ ?_;exact jn (b:=true) (Option.some.inj h) (Qw [])
 intro b1 hb1;have h:=h1;try rw [← hb1] at h
 clear h1;try dsimp only at h
 refine Qc rfl (fun g=>?_) fun g=>?_
 ·have g5:b1=true:=gQ;clear g;replace h:=if_l g5 h;refine Q3 ?_;refine runQ hN fun K hK=>?_;simp [-Q0,-Q5,-Q1,-Q6,-Q2];repeat refine sdQ ?_
  refine hK _ ?_;clear hK K;refine tn ?_;refine Q8 (st':=⟨[(6,iV 5)],[],0⟩) (Qw []) ?_;refine Qj ?_;refine tr ?_;have hr:=Option.some.inj h;rw [← hr];refine ⟨_,(.tmp .nil),?_⟩;refine ⟨(.one rfl rfl .nil),[iV 5],[],by simp [Cone.cells,Fn.cells,UA,U1,IA,I1,LA,L1,BA,B1,EA,E1,E2,eB,eI,eL],by simp,(UpL.refl _)⟩
 have g5:¬ (b1=true):=gQ;clear g;replace h:=if_r g5 h;refine Qd ?_;refine tn ?_;refine Q3 ?_;refine runQ hN fun K hK=>?_;simp [-Q0,-Q5,-Q1,-Q6,-Q2];repeat refine sdQ ?_
 refine hK _ ?_;clear hK K;refine tn ?_;refine Q8 (st':=⟨[(6,iV 0)],[],0⟩) (Qw []) ?_;refine Qj ?_;have hr:=Option.some.inj h;rw [← hr];refine ⟨_,(.tmp .nil),?_⟩;refine ⟨(.one rfl rfl .nil),[iV 0],[],by simp [Cone.cells,Fn.cells,UA,U1,IA,I1,LA,L1,BA,B1,EA,E1,E2,eB,eI,eL],by simp,(UpL.refl _)⟩
attribute [local simp] eL eI Qs Q1m Q1r Cone.cells Fn.cells
noncomputable def Q21 (d_:Fn) (limit_:Cone) (p_:Cone):Option (Int × Int) :=
 (Q3v d_ limit_ p_).bind fun v1 =>
 if ¬ (v1=0) then
  some (0,v1)
 else
  (Q3j d_ limit_).bind fun v3 =>
  if ¬ (v3.2=0) then
   some (0,v3.2)
  else
   if ¬ (v3.1=true) then
    some (0,5)
   else
    (Q1W d_ p_ limit_).bind fun v6 =>
    ass ((0:Int)≤0∧0<(v6.length:Int)) <|
    some (ix v6 0,0)
theorem Q5l (d_:Fn) (limit_:Cone) (p_:Cone) (r:Int × Int) (h:Q21 d_ limit_ p_=some r):Contract Try.prog 87 [.agg (d_.cells true),.agg (limit_.cells true),.agg (p_.cells true)] (.tup [iV r.1,iV r.2]):=by
 refine Qe (rvs:=[.tmp 6,.tmp 7]) (rs:=[iV r.1,iV r.2]) Try.func87 rfl rfl rfl rfl (by simp [Try.f87]) fun F hN hP=>?_;unfold Q21 at h;refine Q3 ?_;refine runQ hN fun K hK=>?_;simp [-Q0,-Q5,-Q1,-Q6,-Q2];repeat refine sdQ ?_
 refine hK _ ?_;clear hK K;refine tn ?_;refine Q8 (st':=⟨[(3,.adr 0 0 0),(4,.adr 1 0 0),(5,.adr 2 0 0)],[(0,.mix 12 [(Fn.cells true d_)]),(1,.mix 2 [(Cone.cells true limit_)]),(2,.mix 2 [(Cone.cells true p_)])],3⟩) (Qw [(0,0),(1,1),(2,2)]) ?_;refine Q3 ?_;refine Q3 ?_;refine runQ hN fun K hK=>?_;simp [-Q0,-Q5,-Q1,-Q6,-Q2];repeat with_reducible refine sdQ ?_
 replace h:=bind_some h;obtain ⟨v1,hv1,h⟩:=h;refine Q4 (Q8D _ _ _ v1 hv1) (.cons (.aggL (.cons .val (.cons .lst (.cons .lst (.cons .lst (.cons .lst (.cons .val (.cons .lst (.cons .lst (.cons .lst (.cons .lst (.cons .lst (.cons .lst .nil))))))))))))) (.cons (.aggL (.cons .val (.cons .lst .nil))) (.cons (.aggL (.cons .val (.cons .lst .nil))) .nil))) ?_;simp [-Q0,-Q5,-Q1,-Q6,-Q2,unk,unA,unE,unT,unC,flat];repeat refine sdQ ?_
 refine hK _ ?_;clear hK K;refine tn ?_;refine Q8 (st':=⟨[(3,.adr 0 0 0),(4,.adr 1 0 0),(5,.adr 2 0 0),(8,iV v1)],[(0,.mix 12 [(Fn.cells true d_)]),(1,.mix 2 [(Cone.cells true limit_)]),(2,.mix 2 [(Cone.cells true p_)])],3⟩) (Qw [(0,0),(1,1),(2,2)]) ?_;refine Q3 ?_;refine runQ hN fun K hK=>?_;simp [-Q0,-Q5,-Q1,-Q6,-Q2];repeat refine sdQ ?_
 refine hK _ ?_;clear hK K;refine tn ?_;refine Q8 (st':=⟨[(3,.adr 0 0 0),(4,.adr 1 0 0),(5,.adr 2 0 0),(8,iV v1),(16,.val (.bool (v1 != 0)))],[(0,.mix 12 [(Fn.cells true d_)]),(1,.mix 2 [(Cone.cells true limit_)]),(2,.mix 2 [(Cone.cells true p_)])],3⟩) (Qw [(0,0),(1,1),(2,2)]) ?_;refine Qc rfl (fun g=>?_) fun g=>?_
 ·have g2:¬ (v1=0):=gQ;clear g;replace h:=if_l g2 h;refine Q3 ?_;refine runQ hN fun K hK=>?_;simp [-Q0,-Q5,-Q1,-Q6,-Q2];repeat refine sdQ ?_
  refine hK _ ?_;clear hK K;refine tn ?_;refine Q8 (st':=⟨[(6,iV 0),(7,iV v1)],[],0⟩) (Qw []) ?_;refine Qj ?_;refine tr ?_;have hr:=Option.some.inj h;rw [← hr];refine ⟨_,(.tmp (.tmp .nil)),?_⟩;refine ⟨(.one rfl rfl (.one rfl rfl .nil)),[iV 0,iV v1],[],by simp [Cone.cells,Fn.cells,UA,U1,IA,I1,LA,L1,BA,B1,EA,E1,E2,eB,eI,eL],by simp,(UpL.refl _)⟩
 have g2:¬ (¬ (v1=0)):=gQ;clear g;replace h:=if_r g2 h;refine Qd ?_;refine tn ?_;refine Q3 ?_;refine runQ hN fun K hK=>?_;simp [-Q0,-Q5,-Q1,-Q6,-Q2];repeat with_reducible refine sdQ ?_
 replace h:=bind_some h;obtain ⟨v3,hv3,h⟩:=h;refine Q4 (w_s_l12Is _ _ v3 hv3) (.cons (.aggL (.cons .val (.cons .lst (.cons .lst (.cons .lst (.cons .lst (.cons .val (.cons .lst (.cons .lst (.cons .lst (.cons .lst (.cons .lst (.cons .lst .nil))))))))))))) (.cons (.aggL (.cons .val (.cons .lst .nil))) .nil)) ?_;simp [-Q0,-Q5,-Q1,-Q6,-Q2,unk,unA,unE,unT,unC,flat];repeat refine sdQ ?_
 refine hK _ ?_;clear hK K;refine tn ?_;refine Q8 (st':=⟨[(3,.adr 0 0 0),(4,.adr 1 0 0),(5,.adr 2 0 0),(9,.val (.bool v3.1)),(10,iV v3.2)],[(0,.mix 12 [(Fn.cells true d_)]),(1,.mix 2 [(Cone.cells true limit_)]),(2,.mix 2 [(Cone.cells true p_)])],3⟩) (Qw [(0,0),(1,1),(2,2)]) ?_;refine Q3 ?_;refine Q3 ?_;refine runQ hN fun K hK=>?_;simp [-Q0,-Q5,-Q1,-Q6,-Q2];repeat refine sdQ ?_
 refine hK _ ?_;clear hK K;refine tn ?_;refine Q8 (st':=⟨[(3,.adr 0 0 0),(4,.adr 1 0 0),(5,.adr 2 0 0),(9,.val (.bool v3.1)),(10,iV v3.2),(25,.val (.bool (v3.2 != 0)))],[(0,.mix 12 [(Fn.cells true d_)]),(1,.mix 2 [(Cone.cells true limit_)]),(2,.mix 2 [(Cone.cells true p_)])],3⟩) (Qw [(0,0),(1,1),(2,2)]) ?_;refine Qc rfl (fun g=>?_) fun g=>?_
 ·have g4:¬ (v3.2=0):=gQ;clear g;replace h:=if_l g4 h;refine Q3 ?_;refine runQ hN fun K hK=>?_;simp [-Q0,-Q5,-Q1,-Q6,-Q2];repeat refine sdQ ?_
  refine hK _ ?_;clear hK K;refine tn ?_;refine Q8 (st':=⟨[(6,iV 0),(7,iV v3.2)],[],0⟩) (Qw []) ?_;refine Qj ?_;refine tr ?_;have hr:=Option.some.inj h;rw [← hr];refine ⟨_,(.tmp (.tmp .nil)),?_⟩;refine ⟨(.one rfl rfl (.one rfl rfl .nil)),[iV 0,iV v3.2],[],by simp [Cone.cells,Fn.cells,UA,U1,IA,I1,LA,L1,BA,B1,EA,E1,E2,eB,eI,eL],by simp,(UpL.refl _)⟩
 have g4:¬ (¬ (v3.2=0)):=gQ;clear g;replace h:=if_r g4 h;refine Qd ?_;refine tn ?_;refine Q3 ?_;refine Q3 ?_;refine runQ hN fun K hK=>?_;simp [-Q0,-Q5,-Q1,-Q6,-Q2];repeat refine sdQ ?_
 refine hK _ ?_;clear hK K;refine tn ?_;refine Q8 (st':=⟨[(3,.adr 0 0 0),(4,.adr 1 0 0),(5,.adr 2 0 0),(28,.val (.bool (!v3.1)))],[(0,.mix 12 [(Fn.cells true d_)]),(1,.mix 2 [(Cone.cells true limit_)]),(2,.mix 2 [(Cone.cells true p_)])],3⟩) (Qw [(0,0),(1,1),(2,2)]) ?_;refine Qc rfl (fun g=>?_) fun g=>?_
 ·have g5:¬ (v3.1=true):=gQ;clear g;replace h:=if_l g5 h;refine Q3 ?_;refine runQ hN fun K hK=>?_;simp [-Q0,-Q5,-Q1,-Q6,-Q2];repeat refine sdQ ?_
  refine hK _ ?_;clear hK K;refine tn ?_;refine Q8 (st':=⟨[(6,iV 0),(7,iV 5)],[],0⟩) (Qw []) ?_;refine Qj ?_;refine tr ?_;have hr:=Option.some.inj h;rw [← hr];refine ⟨_,(.tmp (.tmp .nil)),?_⟩;refine ⟨(.one rfl rfl (.one rfl rfl .nil)),[iV 0,iV 5],[],by simp [Cone.cells,Fn.cells,UA,U1,IA,I1,LA,L1,BA,B1,EA,E1,E2,eB,eI,eL],by simp,(UpL.refl _)⟩
 have g5:¬ (¬ (v3.1=true)):=gQ;clear g;replace h:=if_r g5 h;refine Qd ?_;refine tn ?_;refine Q3 ?_;refine runQ hN fun K hK=>?_;simp [-Q0,-Q5,-Q1,-Q6,-Q2];repeat with_reducible refine sdQ ?_
 replace h:=bind_some h;obtain ⟨v6,hv6,h⟩:=h;refine Q4 (Q5b _ _ _ v6 hv6) (.cons (.aggL (.cons .val (.cons .lst (.cons .lst (.cons .lst (.cons .lst (.cons .val (.cons .lst (.cons .lst (.cons .lst (.cons .lst (.cons .lst (.cons .lst .nil))))))))))))) (.cons (.aggL (.cons .val (.cons .lst .nil))) (.cons (.aggL (.cons .val (.cons .lst .nil))) .nil))) ?_;replace h:=Q7 h;obtain ⟨a7,h⟩:=h;simp [-Q0,-Q5,-Q1,-Q6,-Q2,unk,unA,unE,unT,unC,flat,(show (Is v6)[0]? = some [iV (ix v6 0)] from at_I (j:=0) a7)];repeat refine sdQ ?_
 refine hK _ ?_;clear hK K;refine tn ?_;refine Q8 (st':=⟨[(6,iV (ix v6 0)),(7,iV 0)],[],0⟩) (Qw []) ?_;refine Qj ?_;have hr:=Option.some.inj h;rw [← hr];refine ⟨_,(.tmp (.tmp .nil)),?_⟩;refine ⟨(.one rfl rfl (.one rfl rfl .nil)),[iV (ix v6 0),iV 0],[],by simp [Cone.cells,Fn.cells,UA,U1,IA,I1,LA,L1,BA,B1,EA,E1,E2,eB,eI,eL],by simp,(UpL.refl _)⟩
attribute [local simp] eL eI Qs Q1m Q1r Cone.cells Fn.cells
noncomputable def Q11 (d_:Fn) (colimit_:Cone) (p_:Cone):Option (Int × Int) :=
 (Q3h d_).bind fun v1 =>
 if ¬ (v1=true) then
  some (0,1)
 else
  (Q3i d_).bind fun v3 =>
  (Q21 v3 colimit_ p_).bind fun v4 =>
  some (v4.1,v4.2)
theorem Q3A (d_:Fn) (colimit_:Cone) (p_:Cone) (r:Int × Int) (h:Q11 d_ colimit_ p_=some r):Contract Try.prog 40 [.agg (d_.cells true),.agg (colimit_.cells true),.agg (p_.cells true)] (.tup [iV r.1,iV r.2]):=by
 refine Qe (rvs:=[.tmp 6,.tmp 7]) (rs:=[iV r.1,iV r.2]) Try.func40 rfl rfl rfl rfl (by simp [Try.f40]) fun F hN hP=>?_;unfold Q11 at h;refine Q3 ?_;refine runQ hN fun K hK=>?_;simp [-Q0,-Q5,-Q1,-Q6,-Q2];repeat refine sdQ ?_
 refine hK _ ?_;clear hK K;refine tn ?_;refine Q8 (st':=⟨[(3,.adr 0 0 0),(4,.adr 1 0 0),(5,.adr 2 0 0)],[(0,.mix 12 [(Fn.cells true d_)]),(1,.mix 2 [(Cone.cells true colimit_)]),(2,.mix 2 [(Cone.cells true p_)])],3⟩) (Qw [(0,0),(1,1),(2,2)]) ?_;refine Q3 ?_;refine Q3 ?_;refine runQ hN fun K hK=>?_;simp [-Q0,-Q5,-Q1,-Q6,-Q2];repeat with_reducible refine sdQ ?_
 replace h:=bind_some h;obtain ⟨v1,hv1,h⟩:=h;refine Q4 (w_s_l06Is _ v1 hv1) (.cons (.aggL (.cons .val (.cons .lst (.cons .lst (.cons .lst (.cons .lst (.cons .val (.cons .lst (.cons .lst (.cons .lst (.cons .lst (.cons .lst (.cons .lst .nil))))))))))))) .nil) ?_;simp [-Q0,-Q5,-Q1,-Q6,-Q2,unk,unA,unE,unT,unC,flat];repeat refine sdQ ?_
 refine hK _ ?_;clear hK K;refine tn ?_;refine Q8 (st':=⟨[(3,.adr 0 0 0),(4,.adr 1 0 0),(5,.adr 2 0 0),(10,.val (.bool (!v1)))],[(0,.mix 12 [(Fn.cells true d_)]),(1,.mix 2 [(Cone.cells true colimit_)]),(2,.mix 2 [(Cone.cells true p_)])],3⟩) (Qw [(0,0),(1,1),(2,2)]) ?_;refine Qc rfl (fun g=>?_) fun g=>?_
 ·have g2:¬ (v1=true):=gQ;clear g;replace h:=if_l g2 h;refine Q3 ?_;refine runQ hN fun K hK=>?_;simp [-Q0,-Q5,-Q1,-Q6,-Q2];repeat refine sdQ ?_
  refine hK _ ?_;clear hK K;refine tn ?_;refine Q8 (st':=⟨[(6,iV 0),(7,iV 1)],[],0⟩) (Qw []) ?_;refine Qj ?_;refine tr ?_;have hr:=Option.some.inj h;rw [← hr];refine ⟨_,(.tmp (.tmp .nil)),?_⟩;refine ⟨(.one rfl rfl (.one rfl rfl .nil)),[iV 0,iV 1],[],by simp [Cone.cells,Fn.cells,UA,U1,IA,I1,LA,L1,BA,B1,EA,E1,E2,eB,eI,eL],by simp,(UpL.refl _)⟩
 have g2:¬ (¬ (v1=true)):=gQ;clear g;replace h:=if_r g2 h;refine Qd ?_;refine tn ?_;refine Q3 ?_;refine runQ hN fun K hK=>?_;simp [-Q0,-Q5,-Q1,-Q6,-Q2];repeat with_reducible refine sdQ ?_
 replace h:=bind_some h;obtain ⟨v3,hv3,h⟩:=h;refine Q4 (w_s_l06Op _ v3 hv3) (.cons (.aggL (.cons .val (.cons .lst (.cons .lst (.cons .lst (.cons .lst (.cons .val (.cons .lst (.cons .lst (.cons .lst (.cons .lst (.cons .lst (.cons .lst .nil))))))))))))) .nil) ?_;simp [-Q0,-Q5,-Q1,-Q6,-Q2,unk,unA,unE,unT,unC,flat];repeat with_reducible refine sdQ ?_
 replace h:=bind_some h;obtain ⟨v4,hv4,h⟩:=h;refine Q4 (Q5l _ _ _ v4 hv4) (.cons (.aggL (.cons .val (.cons (.whole (by simp) (by simp) (by simp)) (.cons (.whole (by simp) (by simp) (by simp)) (.cons (.whole (by simp) (by simp) (by simp)) (.cons (.whole (by simp) (by simp) (by simp)) (.cons .val (.cons (.whole (by simp) (by simp) (by simp)) (.cons (.whole (by simp) (by simp) (by simp)) (.cons (.whole (by simp) (by simp) (by simp)) (.cons (.whole (by simp) (by simp) (by simp)) (.cons (.whole (by simp) (by simp) (by simp)) (.cons (.whole (by simp) (by simp) (by simp)) .nil))))))))))))) (.cons (.aggL (.cons .val (.cons .lst .nil))) (.cons (.aggL (.cons .val (.cons .lst .nil))) .nil))) ?_;simp [-Q0,-Q5,-Q1,-Q6,-Q2,unk,unA,unE,unT,unC,flat];repeat refine sdQ ?_
 refine hK _ ?_;clear hK K;refine tn ?_;refine Q8 (st':=⟨[(6,iV v4.1),(7,iV v4.2)],[],0⟩) (Qw []) ?_;refine Qj ?_;have hr:=Option.some.inj h;rw [← hr];refine ⟨_,(.tmp (.tmp .nil)),?_⟩;refine ⟨(.one rfl rfl (.one rfl rfl .nil)),[iV v4.1,iV v4.2],[],by simp [Cone.cells,Fn.cells,UA,U1,IA,I1,LA,L1,BA,B1,EA,E1,E2,eB,eI,eL],by simp,(UpL.refl _)⟩
def isC (d:Fn) (p:Cone):Prop:=(0≤p.a∧p.a<d.t.n)∧p.l.length=d.ob.length∧LP d p.a p.l∧∀ a:Nat,a<d.ar.length→leq d p.l a
theorem e_isC {d:Fn} (hd:d.Is) (p:Cone):Q1A d p=some (bo (isC d p))∧Q2J d p=some (bo (isC d p)):=by
 obtain ⟨l1,l2,l3,l4,l5,l6,l7,l8⟩:=hd.fact;have n8:=hd.t.1.n8;have n0:=hd.t.1.n0;have lt:=hd.t.1.lt;have b2:B64 ((d.t.fr.length:Int) - 1):=⟨by omega,by omega⟩;unfold Q1A Q2J Q2V;rw [e_obj,Q9 (by unfold B64;omega)]
 by_cases h1:0≤p.a∧p.a<d.t.n
 case neg =>
  rw [QC h1,QC (p:=isC d p) (fun q=>h1 q.1)];have:(decide (0≤p.a) && decide (p.a≤d.t.n - 1))=false:=by simp;omega
  rw [this];simp
 have ht:(decide (0≤p.a) && decide (p.a≤d.t.n - 1))=true:=by simp;omega
 rw [QL h1,ht]
 by_cases h2:p.l.length=d.ob.length
 case neg =>
  have h2':¬ (p.l.length:Int)=(d.ob.length:Int):=by omega
  rw [QC (p:=isC d p) (fun q=>h2 q.2.1)];simp [h2']
 by_cases h3:p.l.all (inR d.t.fr.length)=true
 case neg =>
  rw [QC (p:=isC d p) (fun q=>h3 (all_inR.2 fun j hj=>(q.2.2.1 j hj).1))];simp [Q1j,Qv,Q1i,Q9 b2,(show (p.l.length:Int)=(d.ob.length:Int) by omega),h3]
 have bd:=all_inR.1 h3;have h2':(p.l.length:Int)=(d.ob.length:Int):=by omega
 simp only [Q1j,Qv,Q1i,Q9 b2,h2',h3,not_true_eq_false,if_false,Option.bind_some,Bool.not_true,Bool.false_eq_true];have second:LP d p.a p.l→((∀ a:Nat,a<d.ar.length→leq d p.l a)↔isC d p):=fun h=>⟨fun q=>⟨h1,h2,h,q⟩,fun q=>q.2.2.2⟩;have hthn:LP d p.a p.l→∀ a:Nat,a<d.ar.length→(0≤ix d.s.fr a∧ix d.s.fr a<(d.ob.length:Int))∧(0≤ix d.s.to a∧ix d.s.to a<(d.ob.length:Int))∧QT d.t (ix p.l (ix d.s.fr a)) (ix d.ar a)=some (ix (rx d.t.cs (ix p.l (ix d.s.fr a))) (ix d.ar a))∧Qn d.t (ix p.l (ix d.s.fr a)) (ix d.ar a)=some (ix (rx d.t.cs (ix p.l (ix d.s.fr a))) (ix d.ar a)):=by
  intro hLP a ha;obtain ⟨f1,f2,f3⟩:=l8 a ha;obtain ⟨r,hr⟩:=Int.eq_ofNat_of_zero_le f1.1;have A:=hLP r (by omega);rw [← hr] at A;exact ⟨f1,f2,(A.thn hd.t f3).1,(A.thn hd.t f3).2⟩
 constructor
 ·refine QV p.l.length (fun i=>ix d.t.fr (ix p.l i)=p.a∧ix d.t.to (ix p.l i)=ix d.ob i) (eb:=Sum.inr false) (eg:=Sum.inl ()) (by omega) (fun i hi hs=>?_) (fun i hi hs=>?_) (by rw [if_neg (by omega)]) (fun q=>?_) fun q=>?_
  ·have:=bd i hi;rw [if_pos (by omega),Q9 (by omega),Q9 (by omega),if_neg (by simp [hs.1]),Q9 (by omega),Q9 (by omega),Q9 (by omega),hs.2];simp only [bne_self_eq_false,Option.bind_some,Bool.false_eq_true,if_false];rw [Q9 (by unfold B64;omega)]
  ·have:=bd i hi;rw [if_pos (by omega),Q9 (by omega),Q9 (by omega)]
   by_cases hs1:ix d.t.fr (ix p.l i)=p.a
   ·have hs2:¬ ix d.t.to (ix p.l i)=ix d.ob i:=fun q=>hs ⟨hs1,q⟩;rw [if_neg (by simp [hs1]),Q9 (by omega),Q9 (by omega),Q9 (by omega)];simp [hs2]
   rw [if_pos hs1];simp
  ·rw [QC (p:=isC d p) (fun r=>q fun i hi=>(r.2.2.1 i hi).2)]
  have hLP:LP d p.a p.l:=fun i hi=>⟨bd i hi,q i hi⟩;refine QV d.ar.length (leq d p.l) (eb:=Sum.inr false) (eg:=Sum.inl ()) (by omega) (fun a ha hs=>?_) (fun a ha hs=>?_) (by rw [if_neg (by omega)]) (fun r=>?_) fun r=>?_
  ·obtain ⟨f1,f2,f3,f4⟩:=hthn hLP a ha;rw [if_pos (by omega),Q9 (by omega),Q9 (by omega),Q9 (by omega),f3];simp only [Option.bind_some];unfold leq at hs;rw [Q9 (by omega),Q9 (by omega),if_neg (by simp [hs]),Q9 (by unfold B64;omega)]
  ·obtain ⟨f1,f2,f3,f4⟩:=hthn hLP a ha;rw [if_pos (by omega),Q9 (by omega),Q9 (by omega),Q9 (by omega),f3];simp only [Option.bind_some];unfold leq at hs;rw [Q9 (by omega),Q9 (by omega),if_pos hs]
  ·rw [QC (fun z=>r ((second hLP).2 z))]
  rw [QL ((second hLP).1 r)]
 refine QV p.l.length (fun i=>ix d.t.fr (ix p.l i)=p.a∧ix d.t.to (ix p.l i)=ix d.ob i) (eb:=Sum.inr false) (eg:=Sum.inl ()) (by omega) (fun i hi hs=>?_) (fun i hi hs=>?_) (by rw [if_neg (by omega)]) (fun q=>?_) fun q=>?_
 ·have:=bd i hi;unfold Q15;rw [if_pos (by omega),Q9 (by omega),Q9 (by omega)];simp only [Option.bind_some];rw [Q9 (by omega),if_neg (by simp [hs.1,hs.2]),Q9 (by unfold B64;omega)]
 ·have:=bd i hi;unfold Q15;rw [if_pos (by omega),Q9 (by omega),Q9 (by omega)];simp only [Option.bind_some];rw [Q9 (by omega),if_pos hs]
 ·rw [QC (p:=isC d p) (fun r=>q fun i hi=>(r.2.2.1 i hi).2)]
 have hLP:LP d p.a p.l:=fun i hi=>⟨bd i hi,q i hi⟩;refine QV d.ar.length (leq d p.l) (eb:=Sum.inr false) (eg:=Sum.inl ()) (by omega) (fun a ha hs=>?_) (fun a ha hs=>?_) (by rw [if_neg (by omega)]) (fun r=>?_) fun r=>?_
 ·obtain ⟨f1,f2,f3,f4⟩:=hthn hLP a ha;rw [if_pos (by omega),Q9 (by omega),Q9 (by omega),Q9 (by omega),f4];simp only [Option.bind_some];unfold leq at hs;rw [Q9 (by omega),Q9 (by omega),if_neg (by simp [hs]),Q9 (by unfold B64;omega)]
 ·obtain ⟨f1,f2,f3,f4⟩:=hthn hLP a ha;rw [if_pos (by omega),Q9 (by omega),Q9 (by omega),Q9 (by omega),f4];simp only [Option.bind_some];unfold leq at hs;rw [Q9 (by omega),Q9 (by omega),if_pos hs]
 ·rw [QC (fun z=>r ((second hLP).2 z))]
 rw [QL ((second hLP).1 r)]
theorem lext_mem {d:Fn} (hd:d.Is) {x:Int} {q:List Int} (hq:LP d x q) (ql:q.length=d.ob.length) (H:∀ a:Nat,a<d.ar.length→leq d q a):∀ (m:Nat) (p:List Int),m+p.length=d.ob.length→(∀ i:Nat,i<p.length→ix p i=ix q i)→q∈lext d x m p:=by
 intro m
 induction m with
 | zero =>
  intro p hm hp;have:p=q:=ix_ext (by omega) hp;subst this;simp [lext]
 | succ m ih =>
  intro p hm hp;have A:=hq p.length (by omega);have hp2:∀ i:Nat,i<(p++[ix q p.length]).length→ix (p++[ix q p.length]) i=ix q i:=by
   intro i hi;simp only [List.length_append,List.length_singleton] at hi
   by_cases h:i<p.length
   ·rw [Q2g h];exact hp i h
   have:i=p.length:=(by omega);subst this;rw [Q4d]
  simp only [lext,List.mem_flatMap];refine ⟨ix q p.length,?_,?_⟩
  ·obtain ⟨f,hf⟩:=Int.eq_ofNat_of_zero_le A.1.1;have:=A.1.2;exact mem_flt.2 ⟨f,by omega,by rw [← hf];exact A.2,hf⟩
  have hl:lok d (p++[ix q p.length]) p.length:=fun a ha hma=>(Q5S hd ha hma fun i hi=>hp2 i (by simp;omega)).2 (H a ha);unfold lnx;rw [if_pos hl];exact ih _ (by simp;omega) hp2
theorem isC_mem {d:Fn} (hd:d.Is) {p:Cone} (h:isC d p):p∈Q1y d:=by
 obtain ⟨h1,h2,h3,h4⟩:=h;simp only [Q1y,Q1l,Q4N,List.mem_flatMap,List.mem_range,List.mem_map];refine ⟨p.a.toNat,by omega,p.l,?_,?_⟩
 ·rw [show ((p.a.toNat:Nat):Int)=p.a by omega];exact lext_mem hd h3 h2 h4 _ [] (by simp) (fun i hi=>by simp at hi)
 rw [show ((p.a.toNat:Nat):Int)=p.a by omega]
theorem isC.g {d:Fn} {p:Cone} (h:isC d p):p.G d:=⟨h.1,h.2.1,h.2.2.1⟩
theorem e_cocones {d:Fn} (h:d.Is):Q1M d=some ⟨opF d⟩:=by
 unfold Q1M;rw [(e_l06Op h).2];rfl
noncomputable def uvB (d:Fn) (p:Cone):Bool:=bo (isC d p∧(Q1y d).length≤400∧unv d (Q1y d) p)
noncomputable def uvC (d:Fn) (p:Cone):Int:=@ite _ (isC d p) (Classical.propDecidable _) (if (Q1y d).length≤400 then 0 else 3) 5
theorem e_l12Is {d:Fn} (hd:d.Is) (p:Cone):Q3j d p=some (uvB d p,uvC d p):=by
 unfold Q3j uvB uvC;rw [(e_isC hd p).1]
 by_cases h:isC d p
 case neg=>rw [QC h,if_neg h,QC (fun q=>h q.1)];simp
 rw [QL h,if_pos h,e_clist hd]
 by_cases hc:(Q1y d).length≤400
 ·rw [if_pos hc,if_pos hc];simp only [Option.bind_some,not_true_eq_false,if_false];rw [(e_univ hd (GL_cone hd hc) h.g).1]
  by_cases hu:unv d (Q1y d) p
  ·rw [QL hu,QL ⟨h,hc,hu⟩];simp
  rw [QC hu,QC (fun q=>hu q.2.2)];simp
 rw [if_neg hc,if_neg hc,QC (fun q=>hc q.2.1)];simp only [Option.bind_some,not_true_eq_false,if_false];rw [(e_univ hd (L:=[]) ⟨by simp,fun i hi=>by simp at hi⟩ h.g).1,QL (p:=unv d [] p) (fun i hi=>by simp at hi)];simp
theorem Q5q {d:Fn} (hd:d.Is) (L:List Cone) (hl:L.length≤10):Q1C ⟨d⟩ L=some (@ite _ (∀ i:Nat,i<L.length→isC d (gx L i)) (Classical.propDecidable _) 0 5):=by
 unfold Q1C QA;refine QV L.length (fun i=>isC d (gx L i)) (eb:=Sum.inr 5) (eg:=Sum.inl ()) (by omega) (fun i hi hs=>?_) (fun i hi hs=>?_) (by rw [if_neg (by omega)]) (fun q=>by rw [if_neg q]) fun q=>by rw [if_pos q]
 ·rw [if_pos (by omega),Q9 (by omega)];simp only [Option.bind_some];rw [(e_isC hd _).2,QL hs];simp only [Option.bind_some,not_true_eq_false,if_false];rw [Q9 (by unfold B64;omega)]
 rw [if_pos (by omega),Q9 (by omega)];simp only [Option.bind_some];rw [(e_isC hd _).2,QC hs];simp
theorem Q73 {d:Fn} (hd:d.Is) (p:Cone):Q1N ⟨d⟩ p=some (uvB d p,uvC d p):=by
 unfold Q1N QA uvB uvC;rw [Q5q hd [p] (by simp)]
 by_cases h:isC d p
 case neg=>rw [if_neg (fun q=>h (q 0 (by simp))),if_neg h,QC (fun q=>h q.1)];simp
 rw [if_pos (fun i hi=>by simp at hi;subst hi;exact h),if_pos h];simp only [Option.bind_some,not_true_eq_false,if_false];rw [Q88 hd]
 by_cases hc:(Q1y d).length≤400
 ·rw [if_pos hc,if_pos hc];simp only [Option.bind_some,not_true_eq_false,if_false];rw [(e_univ hd (GL_cone hd hc) h.g).2]
  by_cases hu:unv d (Q1y d) p
  ·rw [QL hu,QL ⟨h,hc,hu⟩];rfl
  rw [QC hu,QC (fun q=>hu q.2.2)];rfl
 rw [if_neg hc,if_neg hc,QC (fun q=>hc q.2.1)];simp
theorem gx_of {L:List Cone} {p:Cone} (h:p∈L):∃ i:Nat,i<L.length∧gx L i=p:=by
 obtain ⟨i,hi,rfl⟩:=List.getElem_of_mem h;exact ⟨i,hi,Q7O _ hi⟩
theorem Q42 (d:Fn) (b p:Cone):∃ r,Q11 d b p=some r∧Q10 d b p=some r:=by
 unfold Q11 Q10;rw [e_l06Is,Q72]
 by_cases hd:d.Is
 case neg=>exact ⟨(0,1),by simp [QC hd],by simp [QC hd]⟩
 rw [QL hd,e_cocones hd,(e_l06Op hd).1];have hd':=opF_is hd;simp only [Option.bind_some,not_true_eq_false,if_false];generalize opF d=d at *;unfold Q21 Q2e Q3v;rw [Q5q hd' [b,p] (by simp),(e_isC hd' b).1]
 by_cases h1:isC d b
 case neg =>
  rw [QC h1,if_neg (fun q=>h1 (q 0 (by simp)))];exact ⟨(0,5),by simp,by simp⟩
 rw [QL h1,(e_isC hd' p).1]
 by_cases h2:isC d p
 case neg =>
  rw [QC h2,if_neg (fun q=>h2 (q 1 (by simp)))];exact ⟨(0,5),by simp,by simp⟩
 rw [QL h2,if_pos (fun i hi=>by
  rcases i with _|_|i
  ·exact h1
  ·exact h2
  simp at hi;omega),e_l12Is hd',Q73 hd']
 simp only [Option.bind_some,not_true_eq_false,if_false,Bool.not_true,Bool.false_eq_true]
 by_cases hc:uvC d b=0
 case neg=>exact ⟨(0,uvC d b),by simp [hc],by simp [hc]⟩
 by_cases hb:uvB d b=true
 case neg=>exact ⟨(0,5),by simp [hc,hb],by simp [hc,hb]⟩
 have hu:isC d b∧(Q1y d).length≤400∧unv d (Q1y d) b:=by
  unfold uvB at hb;rw [bo_tt] at hb;exact hb
 obtain ⟨i,hi,hgi⟩:=gx_of (isC_mem hd' h2);have hone:=hu.2.2 i hi;rw [hgi] at hone;have e1:=(Q4a hd' h2.g h1.g).1;have e2:=(Q4a hd' h2.g h1.g).2;refine ⟨(ix (cmL d p b) 0,0),?_,?_⟩
 ·simp only [hc,hb,not_true_eq_false,if_false];rw [e1];simp only [Option.bind_some];rw [Q9 (by omega)];rfl
 simp only [hc,hb,not_true_eq_false,if_false];show ((QA ⟨d⟩).bind _).bind _=_;unfold QA;simp only [Option.bind_some];rw [e2];simp only [Option.bind_some];rw [Q9 (by omega)];rfl
end Go.Vc.T
