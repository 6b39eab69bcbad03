/- A part of the proof: a verified generator of conditions, and what each function of the program does. -/
import Derived.Test.YtoaahhbohijaiaaR10
set_option maxRecDepth 100000
set_option maxHeartbeats 4000000
set_option linter.unusedSimpArgs false
set_option linter.unusedVariables false

namespace Go.Vc.T
open Go Go.Vc Go.Proofs
attribute [local simp] eL eI Qs QH QZ Cat.cells Fn.cells
noncomputable def Q1x (d_:Fn) (f_:Fn):Option (Fn × Int) :=
 (
  (Q2N d_).bind fun v2 =>
  if ¬ (v2=true) then
   some true
  else
   (Q2N f_).bind fun v4 =>
   some (!v4):Option (Bool)).bind fun b1 =>
 if b1=true then
  some ((⟨(⟨0,[],[],[],[]⟩:Cat),(⟨0,[],[],[],[]⟩:Cat),[],[]⟩:Fn),1)
 else
  (Q2Y d_.t f_.s).bind fun v6 =>
  if ¬ (v6=true) then
   some ((⟨(⟨0,[],[],[],[]⟩:Cat),(⟨0,[],[],[],[]⟩:Cat),[],[]⟩:Fn),5)
  else
   (Q2s d_ f_).bind fun v8 =>
   some (v8,0)
theorem Q28 {F : Fx} {st st' : St} (m : List (Nat × Nat)) (h : (m.map Prod.fst).Nodup ∧ (m.map Prod.snd).Nodup ∧ (∀ id, id < F.pins → look id m = some id) ∧ (∀ p ∈ m, p.2 < st'.n) ∧ (∀ p ∈ st'.h, p.1 < st'.n) ∧ (∀ p ∈ st'.s, p.2 = rl m (st.get p.1) ∨ p.2 = .bot) ∧ ∀ p ∈ st'.h, hhOk m st.h p.1 p.2 := by simp [hP, hhOk, back, Cat.cells, Fn.cells, UA, U1, IA, I1, LA, L1, BA, B1, EA, E1, E2, eB, eI, eL, Cone.cells, Qg _ (Cone.cells true) _ (fun _=>rfl)]) : Wk F st st' := Wk.r1 m h
theorem Q7B (d_:Fn) (f_:Fn) (r:Fn × Int) (h:Q1x d_ f_=some r):Contract Try.prog 71 [.agg (d_.cells true),.agg (f_.cells true)] (.tup [.agg (r.1.cells true),iV r.2]):=by
 refine Qe (rvs:=[.cell 4 33,.tmp 5]) (rs:=[.agg (r.1.cells true),iV r.2]) Try.func71 rfl rfl rfl rfl (by simp [Try.f71]) fun F hN hP=>?_;unfold Q1x at h;refine Q3 ?_;refine runQ hN fun K hK=>?_;simp [-Q0,-Q5,-Q1,-Q6,-Q2];repeat refine sdQ ?_
 refine hK _ ?_;clear hK K;refine tn ?_;refine Q8 (st':=⟨[(2,.adr 0 0 0),(3,.adr 1 0 0),(4,.adr 2 0 0)],[(0,.mix 12 [(Fn.cells true d_)]),(1,.mix 12 [(Fn.cells true f_)]),(2,.mix 12 [[iV 0,.val (.slice none 0 0),.val (.slice none 0 0),.val (.slice none 0 0),.val (.slice none 0 0),iV 0,.val (.slice none 0 0),.val (.slice none 0 0),.val (.slice none 0 0),.val (.slice none 0 0),.val (.slice none 0 0),.val (.slice none 0 0)]])],3⟩) (Q28 [(0,0),(1,1),(2,2)]) ?_;refine Q3 ?_;refine Qa ?_;refine Q3 ?_;replace h:=bind_some h;obtain ⟨e1,h,h1⟩:=h;refine Qk (fun b1:Bool=>⟨[(2,.adr 0 0 0),(3,.adr 1 0 0),(4,.adr 2 0 0),(6,.val (.bool b1))],[(0,.mix 12 [(Fn.cells true d_)]),(1,.mix 12 [(Fn.cells true f_)]),(2,.mix 12 [[iV 0,.val (.slice none 0 0),.val (.slice none 0 0),.val (.slice none 0 0),.val (.slice none 0 0),iV 0,.val (.slice none 0 0),.val (.slice none 0 0),.val (.slice none 0 0),.val (.slice none 0 0),.val (.slice none 0 0),.val (.slice none 0 0)]])],3⟩) (fun b1=>b1=e1) ?_ ?_
 ·refine runQ hN fun K hK=>?_;simp [-Q0,-Q5,-Q1,-Q6,-Q2];repeat with_reducible refine sdQ ?_
  replace h:=bind_some h;obtain ⟨v2,hv2,h⟩:=h;refine Q4 (Q6V _ v2 hv2) (.cons (.aggL (.cons .val (.cons .lst (.cons .lst (.cons .lst (.cons .lst (.cons .val (.cons .lst (.cons .lst (.cons .lst (.cons .lst (.cons .lst (.cons .lst .nil))))))))))))) .nil) ?_;simp [-Q0,-Q5,-Q1,-Q6,-Q2,unk,unA,unE,unT,unC,flat];repeat with_reducible refine sdQ ?_
  refine Qo (fun g=>?_) (fun g=>?_)
  ·have g3:¬ (¬ (v2=true)):=gQ;clear g;replace h:=if_r g3 h;simp [-Q0,-Q5,-Q1,-Q6,-Q2];(repeat with_reducible refine sdQ ?_);replace h:=bind_some h;obtain ⟨v4,hv4,h⟩:=h;refine Q4 (Q6V _ v4 hv4) (.cons (.aggL (.cons .val (.cons .lst (.cons .lst (.cons .lst (.cons .lst (.cons .val (.cons .lst (.cons .lst (.cons .lst (.cons .lst (.cons .lst (.cons .lst .nil))))))))))))) .nil) ?_;simp [-Q0,-Q5,-Q1,-Q6,-Q2,unk,unA,unE,unT,unC,flat];(repeat refine sdQ ?_);refine hK _ ?_;exact jn (b:=!v4) (Option.some.inj h) (Q28 [(0,0),(1,1),(2,2)])
  have g3:¬ (v2=true):=gQ;clear g;replace h:=if_l g3 h;simp [-Q0,-Q5,-Q1,-Q6,-Q2];repeat refine sdQ ?_
  refine hK _ ?_;exact jn (b:=true) (Option.some.inj h) (Q28 [(0,0),(1,1),(2,2)])
 intro b1 hb1;have h:=h1;try rw [← hb1] at h
 clear h1;try dsimp only at h
 refine Qc rfl (fun g=>?_) fun g=>?_
 ·have g5:b1=true:=gQ;clear g;replace h:=if_l g5 h;refine Q3 ?_;refine runQ hN fun K hK=>?_;simp [-Q0,-Q5,-Q1,-Q6,-Q2];repeat refine sdQ ?_
  refine hK _ ?_;clear hK K;refine tn ?_;refine Q8 (st':=⟨[(4,.adr 0 0 0),(5,iV 1)],[(0,.mix 12 [[iV 0,.val (.slice none 0 0),.val (.slice none 0 0),.val (.slice none 0 0),.val (.slice none 0 0),iV 0,.val (.slice none 0 0),.val (.slice none 0 0),.val (.slice none 0 0),.val (.slice none 0 0),.val (.slice none 0 0),.val (.slice none 0 0)]])],1⟩) (Q28 [(2,0)]) ?_;refine Qi ?_;refine br ?_;refine tr ?_;have hr:=Option.some.inj h;rw [← hr];refine ⟨_,(.cell Q64 rfl rfl rfl (by simp) (by simp) (.tmp .nil)),?_⟩;refine ⟨(.agg rfl (.one rfl rfl .nil)),[iV 0,.val (.slice none 0 0),.val (.slice none 0 0),.val (.slice none 0 0),.val (.slice none 0 0),iV 0,.val (.slice none 0 0),.val (.slice none 0 0),.val (.slice none 0 0),.val (.slice none 0 0),.val (.slice none 0 0),.val (.slice none 0 0),iV 1],[],by simp [Cat.cells,Fn.cells,UA,U1,IA,I1,LA,L1,BA,B1,EA,E1,E2,eB,eI,eL],by simp,(.cons .refl (.cons .nil (.cons .nil (.cons .nil (.cons .nil (.cons .refl (.cons .nil (.cons .nil (.cons .nil (.cons .nil (.cons .nil (.cons .nil (.cons .refl .nil)))))))))))))⟩
 have g5:¬ (b1=true):=gQ;clear g;replace h:=if_r g5 h;refine Q3 ?_;refine runQ hN fun K hK=>?_;simp [-Q0,-Q5,-Q1,-Q6,-Q2];repeat with_reducible refine sdQ ?_
 replace h:=bind_some h;obtain ⟨v6,hv6,h⟩:=h;refine Q4 (Q7v _ _ v6 hv6) (.cons (.aggL (.cons .val (.cons .lst (.cons .lst (.cons .lst (.cons .lst .nil)))))) (.cons (.aggL (.cons .val (.cons .lst (.cons .lst (.cons .lst (.cons .lst .nil)))))) .nil)) ?_;simp [-Q0,-Q5,-Q1,-Q6,-Q2,unk,unA,unE,unT,unC,flat];repeat refine sdQ ?_
 refine hK _ ?_;clear hK K;refine tn ?_;refine Q8 (st':=⟨[(2,.adr 0 0 0),(3,.adr 1 0 0),(4,.adr 2 0 0),(16,.val (.bool (!v6)))],[(0,.mix 12 [(Fn.cells true d_)]),(1,.mix 12 [(Fn.cells true f_)]),(2,.mix 12 [[iV 0,.val (.slice none 0 0),.val (.slice none 0 0),.val (.slice none 0 0),.val (.slice none 0 0),iV 0,.val (.slice none 0 0),.val (.slice none 0 0),.val (.slice none 0 0),.val (.slice none 0 0),.val (.slice none 0 0),.val (.slice none 0 0)]])],3⟩) (Q28 [(0,0),(1,1),(2,2)]) ?_;refine Qc rfl (fun g=>?_) fun g=>?_
 ·have g7:¬ (v6=true):=gQ;clear g;replace h:=if_l g7 h;refine Q3 ?_;refine runQ hN fun K hK=>?_;simp [-Q0,-Q5,-Q1,-Q6,-Q2];repeat refine sdQ ?_
  refine hK _ ?_;clear hK K;refine tn ?_;refine Q8 (st':=⟨[(4,.adr 0 0 0),(5,iV 5)],[(0,.mix 12 [[iV 0,.val (.slice none 0 0),.val (.slice none 0 0),.val (.slice none 0 0),.val (.slice none 0 0),iV 0,.val (.slice none 0 0),.val (.slice none 0 0),.val (.slice none 0 0),.val (.slice none 0 0),.val (.slice none 0 0),.val (.slice none 0 0)]])],1⟩) (Q28 [(2,0)]) ?_;refine Qi ?_;refine br ?_;refine tr ?_;have hr:=Option.some.inj h;rw [← hr];refine ⟨_,(.cell Q64 rfl rfl rfl (by simp) (by simp) (.tmp .nil)),?_⟩;refine ⟨(.agg rfl (.one rfl rfl .nil)),[iV 0,.val (.slice none 0 0),.val (.slice none 0 0),.val (.slice none 0 0),.val (.slice none 0 0),iV 0,.val (.slice none 0 0),.val (.slice none 0 0),.val (.slice none 0 0),.val (.slice none 0 0),.val (.slice none 0 0),.val (.slice none 0 0),iV 5],[],by simp [Cat.cells,Fn.cells,UA,U1,IA,I1,LA,L1,BA,B1,EA,E1,E2,eB,eI,eL],by simp,(.cons .refl (.cons .nil (.cons .nil (.cons .nil (.cons .nil (.cons .refl (.cons .nil (.cons .nil (.cons .nil (.cons .nil (.cons .nil (.cons .nil (.cons .refl .nil)))))))))))))⟩
 have g7:¬ (¬ (v6=true)):=gQ;clear g;replace h:=if_r g7 h;refine Qd ?_;refine bn ?_;refine tn ?_;refine Q3 ?_;refine runQ hN fun K hK=>?_;simp [-Q0,-Q5,-Q1,-Q6,-Q2];repeat with_reducible refine sdQ ?_
 replace h:=bind_some h;obtain ⟨v8,hv8,h⟩:=h;refine Q4 (Q7x _ _ v8 hv8) (.cons (.aggL (.cons .val (.cons .lst (.cons .lst (.cons .lst (.cons .lst (.cons .val (.cons .lst (.cons .lst (.cons .lst (.cons .lst (.cons .lst (.cons .lst .nil))))))))))))) (.cons (.aggL (.cons .val (.cons .lst (.cons .lst (.cons .lst (.cons .lst (.cons .val (.cons .lst (.cons .lst (.cons .lst (.cons .lst (.cons .lst (.cons .lst .nil))))))))))))) .nil)) ?_;simp [-Q0,-Q5,-Q1,-Q6,-Q2,unk,unA,unE,unT,unC,flat];repeat refine sdQ ?_
 refine hK _ ?_;clear hK K;refine tn ?_;refine Q8 (st':=⟨[(4,.adr 0 0 0),(5,iV 0)],[(0,.mix 12 [[iV v8.s.n,.own 1 0 v8.s.fr.length,.own 2 0 v8.s.to.length,.own 3 0 v8.s.id.length,.own 4 0 v8.s.cs.length,iV v8.t.n,.own 5 0 v8.t.fr.length,.own 6 0 v8.t.to.length,.own 7 0 v8.t.id.length,.own 8 0 v8.t.cs.length,.own 9 0 v8.ob.length,.own 10 0 v8.ar.length]]),(1,rI v8.s.fr),(2,rI v8.s.to),(3,rI v8.s.id),(4,.row 1 (Ls v8.s.cs)),(5,rI v8.t.fr),(6,rI v8.t.to),(7,rI v8.t.id),(8,.row 1 (Ls v8.t.cs)),(9,rI v8.ob),(10,rI v8.ar)],11⟩) (Q28 [(2,0),(4,1),(5,2),(6,3),(7,4),(9,5),(10,6),(11,7),(12,8),(13,9),(14,10)]) ?_;refine Qi ?_;have hr:=Option.some.inj h;rw [← hr];refine ⟨_,(.cell Q64 rfl rfl rfl (by simp) (by simp) (.tmp .nil)),?_⟩;refine ⟨(.agg rfl (.one rfl rfl .nil)),[iV v8.s.n,lI v8.s.fr,lI v8.s.to,lI v8.s.id,.lst true 1 (Ls v8.s.cs),iV v8.t.n,lI v8.t.fr,lI v8.t.to,lI v8.t.id,.lst true 1 (Ls v8.t.cs),lI v8.ob,lI v8.ar,iV 0],[1,2,3,4,5,6,7,8,9,10],by simp [Cat.cells,Fn.cells,UA,U1,IA,I1,LA,L1,BA,B1,EA,E1,E2,eB,eI,eL],by simp,(UpL.refl _)⟩
attribute [local simp] eL eI Qs Q1D QZ Cone.cells Fn.cells
noncomputable def Q24 (d_:Fn) (e_:Fn) (f_:Fn):Option (Bool × Int) :=
 (Q2v d_ e_).bind fun v1 =>
 if ¬ (v1.2.2=0) then
  some (false,v1.2.2)
 else
  (Qy (σ:=Int) (ε:=Unit ⊕ (Bool × Int)) (fun s12 =>
   if s12<(v1.1.length:Int) then
    ass (0≤s12∧s12<(v1.1.length:Int)) <|
    (QU d_ v1.1 (gx v1.1 s12)).bind fun v15 =>
    if v15=true then
     ass (0≤s12∧s12<(v1.1.length:Int)) <|
     (Q23 (gx v1.1 s12) f_).bind fun v18 =>
     (QU e_ v1.2.1 v18).bind fun v19 =>
     some (Ctl.ret (Sum.inr (v19,0)))
    else
     ass (B64 (s12+1)) <|
     some (Ctl.next (s12+1))
   else
    some (Ctl.ret (Sum.inl ()))) fuel 0).bind fun e3 =>
  match e3 with
  | .inl b3 =>
   some (false,4)
  | .inr p3 =>
   some p3
theorem Q6Y (d_:Fn) (e_:Fn) (f_:Fn) (r:Bool × Int) (h:Q24 d_ e_ f_=some r):Contract Try.prog 77 [.agg (d_.cells true),.agg (e_.cells true),.agg (f_.cells true)] (.tup [.val (.bool r.1),iV r.2]):=by
 refine Qe (rvs:=[.tmp 6,.tmp 7]) (rs:=[.val (.bool r.1),iV r.2]) Try.func77 rfl rfl rfl rfl (by simp [Try.f77]) fun F hN hP=>?_;unfold Q24 at h;refine Q3 ?_;refine runQ hN fun K hK=>?_;simp [-Q0,-Q5,-Q1,-Q6,-Q2];repeat refine sdQ ?_
 refine hK _ ?_;clear hK K;refine tn ?_;refine Q8 (st':=⟨[(3,.adr 0 0 0),(4,.adr 1 0 0),(5,.adr 2 0 0)],[(0,.mix 12 [(Fn.cells true d_)]),(1,.mix 12 [(Fn.cells true e_)]),(2,.mix 12 [(Fn.cells true f_)])],3⟩) (Q28 [(0,0),(1,1),(2,2)]) ?_;refine Q3 ?_;refine Qm [] mo (by rw [hN];decide) fun K hK=>?_;simp [-Q0,-Q5,-Q1,-Q6,-Q2];repeat with_reducible refine sdQ ?_
 replace h:=bind_some h;obtain ⟨v1,hv1,h⟩:=h;refine Q2h (fz:=[]) true (Q7A _ _ v1 hv1) (PurK.ofN (.cons (.aggL (.cons .val (.cons .lst (.cons .lst (.cons .lst (.cons .lst (.cons .val (.cons .lst (.cons .lst (.cons .lst (.cons .lst (.cons .lst (.cons .lst .nil))))))))))))) (.cons (.aggL (.cons .val (.cons .lst (.cons .lst (.cons .lst (.cons .lst (.cons .val (.cons .lst (.cons .lst (.cons .lst (.cons .lst (.cons .lst (.cons .lst .nil))))))))))))) .nil))) ?_;simp [-Q0,-Q5,-Q1,-Q6,-Q2,unk,unA,unE,unT,unC,flat];repeat refine sdQ ?_
 refine hK _ ?_;clear hK K;refine tn ?_;refine Q8 (st':=⟨[(3,.adr 0 0 0),(4,.adr 1 0 0),(5,.adr 2 0 0),(8,.lst true 2 (Es (Cone.cells true) v1.1)),(9,.lst true 2 (Es (Cone.cells true) v1.2.1)),(10,iV v1.2.2)],[(0,.mix 12 [(Fn.cells true d_)]),(1,.mix 12 [(Fn.cells true e_)]),(2,.mix 12 [(Fn.cells true f_)])],3⟩) (Q28 [(0,0),(1,1),(2,2)]) ?_;refine Q3 ?_;refine Q3 ?_;refine runQ hN fun K hK=>?_;simp [-Q0,-Q5,-Q1,-Q6,-Q2];repeat refine sdQ ?_
 refine hK _ ?_;clear hK K;refine tn ?_;refine Q8 (st':=⟨[(3,.adr 0 0 0),(4,.adr 1 0 0),(5,.adr 2 0 0),(8,.lst true 2 (Es (Cone.cells true) v1.1)),(9,.lst true 2 (Es (Cone.cells true) v1.2.1)),(10,iV v1.2.2),(20,.val (.bool (v1.2.2 != 0)))],[(0,.mix 12 [(Fn.cells true d_)]),(1,.mix 12 [(Fn.cells true e_)]),(2,.mix 12 [(Fn.cells true f_)])],3⟩) (Q28 [(0,0),(1,1),(2,2)]) ?_;refine Qc rfl (fun g=>?_) fun g=>?_
 ·have g2:¬ (v1.2.2=0):=gQ;clear g;replace h:=if_l g2 h;refine Q3 ?_;refine runQ hN fun K hK=>?_;simp [-Q0,-Q5,-Q1,-Q6,-Q2];repeat refine sdQ ?_
  refine hK _ ?_;clear hK K;refine tn ?_;refine Q8 (st':=⟨[(6,.val (.bool false)),(7,iV v1.2.2)],[],0⟩) (Q28 []) ?_;refine Qi ?_;refine tr ?_;have hr:=Option.some.inj h;rw [← hr];refine ⟨_,(.tmp (.tmp .nil)),?_⟩;refine ⟨(.one rfl rfl (.one rfl rfl .nil)),[.val (.bool false),iV v1.2.2],[],by simp [Cone.cells,Fn.cells,UA,U1,IA,I1,LA,L1,BA,B1,EA,E1,E2,eB,eI,eL,Qg _ (Cone.cells true) _ (fun _=>rfl)],by simp,(UpL.refl _)⟩
 have g2:¬ (¬ (v1.2.2=0)):=gQ;clear g;replace h:=if_r g2 h;refine Qd ?_;refine tn ?_;refine Q3 ?_;refine Q3 ?_;refine runQ hN fun K hK=>?_;simp [-Q0,-Q5,-Q1,-Q6,-Q2];repeat refine sdQ ?_
 refine hK _ ?_;clear hK K;refine tn ?_;refine Q8 (st':=⟨[(3,.adr 0 0 0),(4,.adr 1 0 0),(5,.adr 2 0 0),(8,.lst true 2 (Es (Cone.cells true) v1.1)),(9,.lst true 2 (Es (Cone.cells true) v1.2.1)),(11,iV 0)],[(0,.mix 12 [(Fn.cells true d_)]),(1,.mix 12 [(Fn.cells true e_)]),(2,.mix 12 [(Fn.cells true f_)])],3⟩) (Q28 [(0,0),(1,1),(2,2)]) ?_;replace h:=bind_some h;obtain ⟨e3,h,h3⟩:=h;refine Qk (fun b3:Unit=>⟨[],[],0⟩) (fun b3=>Sum.inl b3=e3) ?_ ?_
 ·refine Qa ?_;refine Qx h (fun s12:Int=>⟨[(3,.adr 0 0 0),(4,.adr 1 0 0),(5,.adr 2 0 0),(8,.lst true 2 (Es (Cone.cells true) v1.1)),(9,.lst true 2 (Es (Cone.cells true) v1.2.1)),(11,iV s12)],[(0,.mix 12 [(Fn.cells true d_)]),(1,.mix 12 [(Fn.cells true e_)]),(2,.mix 12 [(Fn.cells true f_)])],3⟩) (Q28 [(0,0),(1,1),(2,2)]) ?_;clear h;intro k12 s12 c12 h hk12;refine Q3 ?_;refine Q3 ?_;refine runQ hN fun K hK=>?_;simp [-Q0,-Q5,-Q1,-Q6,-Q2];repeat refine sdQ ?_
  refine hK _ ?_;clear hK K;refine tn ?_;refine Q8 (st':=⟨[(3,.adr 0 0 0),(4,.adr 1 0 0),(5,.adr 2 0 0),(8,.lst true 2 (Es (Cone.cells true) v1.1)),(9,.lst true 2 (Es (Cone.cells true) v1.2.1)),(11,iV s12),(25,.val (.bool (decide (s12<(v1.1.length:Int)))))],[(0,.mix 12 [(Fn.cells true d_)]),(1,.mix 12 [(Fn.cells true e_)]),(2,.mix 12 [(Fn.cells true f_)])],3⟩) (Q28 [(0,0),(1,1),(2,2)]) ?_;refine Qc rfl (fun g=>?_) fun g=>?_
  ·have g13:s12<(v1.1.length:Int):=gQ;clear g;replace h:=if_l g13 h;refine Qd ?_;refine tn ?_;refine Q3 ?_;refine Qa ?_;refine Q3 ?_;refine runQ hN fun K hK=>?_;replace h:=Q7 h;obtain ⟨a14,h⟩:=h;simp [-Q0,-Q5,-Q1,-Q6,-Q2,at_E (c:=(Cone.cells true)) a14];(repeat with_reducible refine sdQ ?_);replace h:=bind_some h;obtain ⟨v15,hv15,h⟩:=h;refine Q4 (Q34 _ _ _ v15 hv15) (.cons (.aggL (.cons .val (.cons .lst (.cons .lst (.cons .lst (.cons .lst (.cons .val (.cons .lst (.cons .lst (.cons .lst (.cons .lst (.cons .lst (.cons .lst .nil))))))))))))) (.cons .lst (.cons (.aggL (.cons .val (.cons .lst .nil))) .nil))) ?_;simp [-Q0,-Q5,-Q1,-Q6,-Q2,unk,unA,unE,unT,unC,flat,at_E (c:=(Cone.cells true)) a14];(repeat refine sdQ ?_);refine hK _ ?_;clear hK K;refine tn ?_;refine Q8 (st':=⟨[(3,.adr 0 0 0),(4,.adr 1 0 0),(5,.adr 2 0 0),(8,.lst true 2 (Es (Cone.cells true) v1.1)),(9,.lst true 2 (Es (Cone.cells true) v1.2.1)),(11,iV s12),(34,.val (.bool v15))],[(0,.mix 12 [(Fn.cells true d_)]),(1,.mix 12 [(Fn.cells true e_)]),(2,.mix 12 [(Fn.cells true f_)])],3⟩) (Q28 [(0,0),(1,1),(2,2)]) ?_;refine Qc rfl (fun g=>?_) fun g=>?_
   ·have g16:v15=true:=gQ;clear g;replace h:=if_l g16 h;refine Q3 ?_;refine runQ hN fun K hK=>?_;replace h:=Q7 h;obtain ⟨a17,h⟩:=h;simp [-Q0,-Q5,-Q1,-Q6,-Q2,at_E (c:=(Cone.cells true)) a17];(repeat with_reducible refine sdQ ?_);replace h:=bind_some h;obtain ⟨v18,hv18,h⟩:=h;refine Q4 (Q6X _ _ v18 hv18) (.cons (.aggL (.cons .val (.cons .lst .nil))) (.cons (.aggL (.cons .val (.cons .lst (.cons .lst (.cons .lst (.cons .lst (.cons .val (.cons .lst (.cons .lst (.cons .lst (.cons .lst (.cons .lst (.cons .lst .nil))))))))))))) .nil)) ?_;simp [-Q0,-Q5,-Q1,-Q6,-Q2,unk,unA,unE,unT,unC,flat,at_E (c:=(Cone.cells true)) a17];(repeat with_reducible refine sdQ ?_);replace h:=bind_some h;obtain ⟨v19,hv19,h⟩:=h;refine Q4 (Q34 _ _ _ v19 hv19) (.cons (.aggL (.cons .val (.cons .lst (.cons .lst (.cons .lst (.cons .lst (.cons .val (.cons .lst (.cons .lst (.cons .lst (.cons .lst (.cons .lst (.cons .lst .nil))))))))))))) (.cons .lst (.cons (.aggL (.cons .val (.cons (.whole (by simp) (by simp) (by simp)) .nil))) .nil))) ?_;simp [-Q0,-Q5,-Q1,-Q6,-Q2,unk,unA,unE,unT,unC,flat,at_E (c:=(Cone.cells true)) a17];(repeat refine sdQ ?_);refine hK _ ?_;clear hK K;refine tn ?_;refine Q8 (st':=⟨[(6,.val (.bool v19)),(7,iV 0)],[],0⟩) (Q28 []) ?_;refine Qi ?_;refine br ?_;refine tr ?_;refine lr ?_;refine br ?_;refine tr ?_;cases h;have q:_=e3:=hk12;have h:=h3;rw [← q] at h;clear q;(try dsimp only at h);have hr:=Option.some.inj h;rw [← hr];refine ⟨_,(.tmp (.tmp .nil)),?_⟩;refine ⟨(.one rfl rfl (.one rfl rfl .nil)),[.val (.bool v19),iV 0],[],by simp [Cone.cells,Fn.cells,UA,U1,IA,I1,LA,L1,BA,B1,EA,E1,E2,eB,eI,eL,Qg _ (Cone.cells true) _ (fun _=>rfl)],by simp,(UpL.refl _)⟩
   have g16:¬ (v15=true):=gQ;clear g;replace h:=if_r g16 h;refine Qd ?_;refine bn ?_;refine tn ?_;refine runQ hN fun K hK=>?_;replace h:=Q7 h;obtain ⟨a20,h⟩:=h;simp [-Q0,-Q5,-Q1,-Q6,-Q2,Qu a20];(repeat refine sdQ ?_);refine hK _ ?_;clear hK K;cases h;exact rn (s':=s12+1) hk12 (Q28 [(0,0),(1,1),(2,2)])
  have g13:¬ (s12<(v1.1.length:Int)):=gQ;clear g;replace h:=if_r g13 h;refine Qp ?_;refine tx ?_;refine lx ?_;refine bh ?_;cases h;exact jn (b:=()) hk12 (Q28 [])
 intro b3 hb3;have h:=h3;try rw [← hb3] at h
 clear h3;try dsimp only at h
 refine Q3 ?_;refine runQ hN fun K hK=>?_;simp [-Q0,-Q5,-Q1,-Q6,-Q2];repeat refine sdQ ?_
 refine hK _ ?_;clear hK K;refine tn ?_;refine Q8 (st':=⟨[(6,.val (.bool false)),(7,iV 4)],[],0⟩) (Q28 []) ?_;refine Qi ?_;have hr:=Option.some.inj h;rw [← hr];refine ⟨_,(.tmp (.tmp .nil)),?_⟩;refine ⟨(.one rfl rfl (.one rfl rfl .nil)),[.val (.bool false),iV 4],[],by simp [Cone.cells,Fn.cells,UA,U1,IA,I1,LA,L1,BA,B1,EA,E1,E2,eB,eI,eL,Qg _ (Cone.cells true) _ (fun _=>rfl)],by simp,(UpL.refl _)⟩
attribute [local simp] eL eI Qs QZ Fn.cells
noncomputable def Q1V (d_:Fn) (f_:Fn):Option (Bool × Int) :=
 (Q1x d_ f_).bind fun v1 =>
 if ¬ (v1.2=0) then
  some (false,v1.2)
 else
  (Q24 d_ v1.1 f_).bind fun v3 =>
  some (v3.1,v3.2)
theorem Q5d (d_:Fn) (f_:Fn) (r:Bool × Int) (h:Q1V d_ f_=some r):Contract Try.prog 25 [.agg (d_.cells true),.agg (f_.cells true)] (.tup [.val (.bool r.1),iV r.2]):=by
 refine Qe (rvs:=[.tmp 4,.tmp 5]) (rs:=[.val (.bool r.1),iV r.2]) Try.func25 rfl rfl rfl rfl (by simp [Try.f25]) fun F hN hP=>?_;unfold Q1V at h;refine Q3 ?_;refine runQ hN fun K hK=>?_;simp [-Q0,-Q5,-Q1,-Q6,-Q2];repeat refine sdQ ?_
 refine hK _ ?_;clear hK K;refine tn ?_;refine Q8 (st':=⟨[(2,.adr 0 0 0),(3,.adr 1 0 0)],[(0,.mix 12 [(Fn.cells true d_)]),(1,.mix 12 [(Fn.cells true f_)])],2⟩) (Q28 [(0,0),(1,1)]) ?_;refine Q3 ?_;refine runQ hN fun K hK=>?_;simp [-Q0,-Q5,-Q1,-Q6,-Q2];repeat with_reducible refine sdQ ?_
 replace h:=bind_some h;obtain ⟨v1,hv1,h⟩:=h;refine Q4 (Q7B _ _ v1 hv1) (.cons (.aggL (.cons .val (.cons .lst (.cons .lst (.cons .lst (.cons .lst (.cons .val (.cons .lst (.cons .lst (.cons .lst (.cons .lst (.cons .lst (.cons .lst .nil))))))))))))) (.cons (.aggL (.cons .val (.cons .lst (.cons .lst (.cons .lst (.cons .lst (.cons .val (.cons .lst (.cons .lst (.cons .lst (.cons .lst (.cons .lst (.cons .lst .nil))))))))))))) .nil)) ?_;simp [-Q0,-Q5,-Q1,-Q6,-Q2,unk,unA,unE,unT,unC,flat];repeat refine sdQ ?_
 refine hK _ ?_;clear hK K;refine tn ?_;refine Q8 (st':=⟨[(2,.adr 0 0 0),(3,.adr 1 0 0),(6,.adr 2 0 0),(7,iV v1.2)],[(0,.mix 12 [(Fn.cells true d_)]),(1,.mix 12 [(Fn.cells true f_)]),(2,.mix 12 [[iV v1.1.s.n,.own 3 0 v1.1.s.fr.length,.own 4 0 v1.1.s.to.length,.own 5 0 v1.1.s.id.length,.own 6 0 v1.1.s.cs.length,iV v1.1.t.n,.own 7 0 v1.1.t.fr.length,.own 8 0 v1.1.t.to.length,.own 9 0 v1.1.t.id.length,.own 10 0 v1.1.t.cs.length,.own 11 0 v1.1.ob.length,.own 12 0 v1.1.ar.length]]),(3,rI v1.1.s.fr),(4,rI v1.1.s.to),(5,rI v1.1.s.id),(6,.row 1 (Ls v1.1.s.cs)),(7,rI v1.1.t.fr),(8,rI v1.1.t.to),(9,rI v1.1.t.id),(10,.row 1 (Ls v1.1.t.cs)),(11,rI v1.1.ob),(12,rI v1.1.ar)],13⟩) (Q28 [(0,0),(1,1),(15,2),(3,3),(4,4),(5,5),(6,6),(8,7),(9,8),(10,9),(11,10),(12,11),(13,12)]) ?_;refine Q3 ?_;refine Q3 ?_;refine runQ hN fun K hK=>?_;simp [-Q0,-Q5,-Q1,-Q6,-Q2];repeat refine sdQ ?_
 refine hK _ ?_;clear hK K;refine tn ?_;refine Q8 (st':=⟨[(2,.adr 0 0 0),(3,.adr 1 0 0),(6,.adr 2 0 0),(7,iV v1.2),(17,.val (.bool (v1.2 != 0)))],[(0,.mix 12 [(Fn.cells true d_)]),(1,.mix 12 [(Fn.cells true f_)]),(2,.mix 12 [[iV v1.1.s.n,.own 3 0 v1.1.s.fr.length,.own 4 0 v1.1.s.to.length,.own 5 0 v1.1.s.id.length,.own 6 0 v1.1.s.cs.length,iV v1.1.t.n,.own 7 0 v1.1.t.fr.length,.own 8 0 v1.1.t.to.length,.own 9 0 v1.1.t.id.length,.own 10 0 v1.1.t.cs.length,.own 11 0 v1.1.ob.length,.own 12 0 v1.1.ar.length]]),(3,rI v1.1.s.fr),(4,rI v1.1.s.to),(5,rI v1.1.s.id),(6,.row 1 (Ls v1.1.s.cs)),(7,rI v1.1.t.fr),(8,rI v1.1.t.to),(9,rI v1.1.t.id),(10,.row 1 (Ls v1.1.t.cs)),(11,rI v1.1.ob),(12,rI v1.1.ar)],13⟩) (Q28 [(0,0),(1,1),(2,2),(3,3),(4,4),(5,5),(6,6),(7,7),(8,8),(9,9),(10,10),(11,11),(12,12)]) ?_;refine Qc rfl (fun g=>?_) fun g=>?_
 ·have g2:¬ (v1.2=0):=gQ;clear g;replace h:=if_l g2 h;refine Q3 ?_;refine runQ hN fun K hK=>?_;simp [-Q0,-Q5,-Q1,-Q6,-Q2];repeat refine sdQ ?_
  refine hK _ ?_;clear hK K;refine tn ?_;refine Q8 (st':=⟨[(4,.val (.bool false)),(5,iV v1.2)],[],0⟩) (Q28 []) ?_;refine Qi ?_;refine tr ?_;have hr:=Option.some.inj h;rw [← hr];refine ⟨_,(.tmp (.tmp .nil)),?_⟩;refine ⟨(.one rfl rfl (.one rfl rfl .nil)),[.val (.bool false),iV v1.2],[],by simp [Fn.cells,UA,U1,IA,I1,LA,L1,BA,B1,EA,E1,E2,eB,eI,eL],by simp,(UpL.refl _)⟩
 have g2:¬ (¬ (v1.2=0)):=gQ;clear g;replace h:=if_r g2 h;refine Qd ?_;refine tn ?_;refine Q3 ?_;refine runQ hN fun K hK=>?_;simp [-Q0,-Q5,-Q1,-Q6,-Q2];repeat with_reducible refine sdQ ?_
 replace h:=bind_some h;obtain ⟨v3,hv3,h⟩:=h;refine Q4 (Q6Y _ _ _ v3 hv3) (.cons (.aggL (.cons .val (.cons .lst (.cons .lst (.cons .lst (.cons .lst (.cons .val (.cons .lst (.cons .lst (.cons .lst (.cons .lst (.cons .lst (.cons .lst .nil))))))))))))) (.cons (.aggL (.cons .val (.cons (.whole (by simp) (by simp) (by simp)) (.cons (.whole (by simp) (by simp) (by simp)) (.cons (.whole (by simp) (by simp) (by simp)) (.cons (.whole (by simp) (by simp) (by simp)) (.cons .val (.cons (.whole (by simp) (by simp) (by simp)) (.cons (.whole (by simp) (by simp) (by simp)) (.cons (.whole (by simp) (by simp) (by simp)) (.cons (.whole (by simp) (by simp) (by simp)) (.cons (.whole (by simp) (by simp) (by simp)) (.cons (.whole (by simp) (by simp) (by simp)) .nil))))))))))))) (.cons (.aggL (.cons .val (.cons .lst (.cons .lst (.cons .lst (.cons .lst (.cons .val (.cons .lst (.cons .lst (.cons .lst (.cons .lst (.cons .lst (.cons .lst .nil))))))))))))) .nil))) ?_;simp [-Q0,-Q5,-Q1,-Q6,-Q2,unk,unA,unE,unT,unC,flat];repeat refine sdQ ?_
 refine hK _ ?_;clear hK K;refine tn ?_;refine Q8 (st':=⟨[(8,.val (.bool v3.1)),(9,iV v3.2)],[],0⟩) (Q28 []) ?_;refine Q3 ?_;refine runQ hN fun K hK=>?_;simp [-Q0,-Q5,-Q1,-Q6,-Q2];repeat refine sdQ ?_
 refine hK _ ?_;clear hK K;refine tn ?_;refine Q8 (st':=⟨[(4,.val (.bool v3.1)),(5,iV v3.2)],[],0⟩) (Q28 []) ?_;refine Qi ?_;have hr:=Option.some.inj h;rw [← hr];refine ⟨_,(.tmp (.tmp .nil)),?_⟩;refine ⟨(.one rfl rfl (.one rfl rfl .nil)),[.val (.bool v3.1),iV v3.2],[],by simp [Fn.cells,UA,U1,IA,I1,LA,L1,BA,B1,EA,E1,E2,eB,eI,eL],by simp,(UpL.refl _)⟩
theorem fltg_bind {α ε β:Type} [Inhabited α] {body:List α × Int→Option (Ctl (List α × Int) ε)} {K:ε→Option β} {r:Option β} (xs:List α) (q:α→Prop) {e:ε} (hn:xs.length<4611686018427387904)
  (h:∀ (i:Nat) (acc:List α),i<xs.length→acc.length≤i→(q (gx xs i)→body (acc,(i:Int))=some (.next (acc++[gx xs i],(i:Int)+1)))∧(¬ q (gx xs i)→body (acc,(i:Int))=some (.next (acc,(i:Int)+1))))
  (he:body (xs.filter (fun f=>bo (q f)),(xs.length:Int))=some (.ret e)) (hk:K e=r):(Qy body fuel ([],0)).bind K=r:=by
 refine Q2R xs.length (fun i=>(xs.take i).filter fun f=>bo (q f)) (e:=e) (by simp) hn (fun i hi=>?_) (by simpa using he) hk;have hl:((xs.take i).filter fun f=>bo (q f)).length≤i:=Nat.le_trans (List.length_filter_le _ _) (by simp;omega);have hg:gx xs i=xs[i]:=by simp [gx,List.getD_eq_getElem?_getD,hi]
 have hs:xs.take (i+1)=xs.take i++[gx xs i]:=by rw [List.take_succ_eq_append_getElem hi,hg]
 have hf:((xs.take (i+1)).filter fun f=>bo (q f))=((xs.take i).filter fun f=>bo (q f))++(if bo (q (gx xs i))=true then [gx xs i] else []):=by rw [hs,List.filter_append];simp [List.filter_cons]
 obtain ⟨h1,h2⟩:=h i _ hi hl
 by_cases hq:q (gx xs i)
 ·rw [h1 hq,hf,QK hq];simp
 rw [h2 hq,hf,QA hq];simp
noncomputable def lims (d:Fn) (L:List Cone):List Cone:=L.filter fun p=>bo (unv d L p)
theorem e_lims {d f:Fn} {e:Fn} {M:List Cone} (hd:d.Is) {L:List Cone} (hL:GL d L):Q1c ⟨d,e,f,L,M⟩=some (lims d L):=by
 have h4:=hL.1;unfold Q1c;refine fltg_bind L (unv d L) (e:=lims d L) (by omega) (fun i acc hi hacc=>?_) ?_ rfl
 ·have hi2:(i:Int)<(L.length:Int):=by omega
  refine ⟨fun hs=>?_,fun hs=>?_⟩
  ·simp only;rw [if_pos hi2,Q9 ⟨by omega,hi2⟩,(Q6h hd hL (hL.2 i hi)).2,QK hs];simp only [Option.bind_some,if_true];rw [Q9 (by simp;omega)];simp only [Option.bind_some];rw [Q9 (by unfold B64;omega)]
  simp only;rw [if_pos hi2,Q9 ⟨by omega,hi2⟩,(Q6h hd hL (hL.2 i hi)).2,QA hs];simp only [Option.bind_some,Bool.false_eq_true,if_false];rw [Q9 (by unfold B64;omega)]
 simp only;rw [if_neg (by omega)];rfl
noncomputable def Q6r (d e f:Fn) (L M:List Cone):Bool:=match lims d L with
 | []=>false
 | p :: _=>bo (unv e M (img p f))
noncomputable def Q5S (d:Fn) (L:List Cone):Int:=match lims d L with
 | []=>4
 | _ :: _=>0
theorem mem_lims {d:Fn} {L:List Cone} (hL:GL d L) {p:Cone} (h:p∈lims d L):p.G d:=by
 have h1:=(List.mem_filter.1 h).1;obtain ⟨i,hi,rfl⟩:=List.getElem_of_mem h1;have:=hL.2 i hi;rw [Q3R _ hi] at this;exact this
theorem e_keep {d f:Fn} (hd:d.Is) (hf:f.Is) (h:d.t=f.s) {L M:List Cone} (hL:GL d L) (hM:GL (Q1o d f) M):Q1l ⟨d,Q1o d f,f,L,M⟩=some (if Q5S d L=0 then (Q6r d (Q1o d f) f L M,true) else (false,false)):=by
 unfold Q1l;rw [e_lims hd hL];simp only [Option.bind_some];cases hl:lims d L with
 | nil=>simp [Q5S,hl]
 | cons p ps =>
  have hp:p.G d:=mem_lims hL (by rw [hl];simp);rw [if_neg (by simp;omega),Q9 (by simp)];show (QQ _ p).bind _=_;rw [e_moved hd hf h hM hp];simp [Q5S,Q6r,hl]
theorem lims_at {d:Fn} {L:List Cone} {i:Nat} (hi:i<L.length) (h1:∀ j:Nat,j<i→¬ unv d L (gx L j)) (h2:unv d L (gx L i)):∃ ps,lims d L=gx L i :: ps:=by
 have e:L=L.take i++(gx L i :: L.drop (i+1)):=by
  rw [Q3R _ hi,← List.drop_eq_getElem_cons hi,List.take_append_drop]
 have e2:(L.take i).filter (fun p=>bo (unv d L p))=[]:=by
  rw [List.filter_eq_nil_iff];intro p hp;obtain ⟨j,hj,rfl⟩:=List.getElem_of_mem hp;simp only [List.length_take] at hj;have:=h1 j (by omega);rw [Q3R _ (by omega)] at this;simp only [List.getElem_take];rw [QA this];simp
 unfold lims;refine ⟨(L.drop (i+1)).filter fun p=>bo (unv d L p),?_⟩;have e3:L.filter (fun p=>bo (unv d L p))=(L.take i++(gx L i :: L.drop (i+1))).filter (fun p=>bo (unv d L p)):=congrArg _ e;rw [e3,List.filter_append,e2,List.nil_append,List.filter_cons,QK h2];simp
theorem lims_no {d:Fn} {L:List Cone} (h:∀ j:Nat,j<L.length→¬ unv d L (gx L j)):lims d L=[]:=by
 unfold lims;rw [List.filter_eq_nil_iff];intro p hp;obtain ⟨j,hj,rfl⟩:=List.getElem_of_mem hp;have:=h j hj;rw [Q3R _ hj] at this;rw [QA this];simp
theorem e_sKeep {d f:Fn} (hd:d.Is) (hf:f.Is) (h:d.t=f.s):Q24 d (Q1o d f) f=some (if (QP d).length≤400∧(QP (Q1o d f)).length≤400 then (Q6r d (Q1o d f) f (QP d) (QP (Q1o d f)),Q5S d (QP d)) else (false,3)):=by
 have he:=Q65 hd hf h;unfold Q24;rw [e_both hd he]
 by_cases h1:(QP d).length≤400∧(QP (Q1o d f)).length≤400
 case neg=>simp [h1]
 have hL:=Q5E hd h1.1;have hM:=Q5E he h1.2;rw [if_pos h1,if_pos h1];simp only [Option.bind_some,not_true_eq_false,if_false];generalize QP d=L at *;generalize QP (Q1o d f)=M at *;have h4:=hL.1;refine QX (σ:=Int) (Q:=fun z=>z=some (Q6r d (Q1o d f) f L M,Q5S d L)) L.length (fun i s=>s=(i:Int)∧∀ j:Nat,j<i→¬ unv d L (gx L j))
  (fun e:Unit ⊕ (Bool × Int)=>match e with
   | .inl _=>lims d L=[]
   | .inr e=>e=(Q6r d (Q1o d f) f L M,Q5S d L)) (by omega) ⟨rfl,fun j hj=>by omega⟩ ?_ ?_ ?_
 ·intro i s hi ⟨hs,hn⟩;subst hs;have hi2:(i:Int)<(L.length:Int):=by omega
  rw [if_pos hi2,Q9 ⟨by omega,hi2⟩,(Q6h hd hL (hL.2 i hi)).1];simp only [Option.bind_some]
  by_cases hu:unv d L (gx L i)
  ·right;obtain ⟨i1,i2,i3⟩:=e_image hd hf h (hL.2 i hi);obtain ⟨ps,hps⟩:=lims_at hi hn hu;rw [QK hu,if_pos rfl,Q9 ⟨by omega,hi2⟩,i1];simp only [Option.bind_some];rw [(Q6h he hM i3).1];exact ⟨_,rfl,by simp [Q6r,Q5S,hps]⟩
  left;rw [QA hu,if_neg (by simp),Q9 (by unfold B64;omega)];refine ⟨_,rfl,rfl,fun j hj=>?_⟩
  by_cases hji:j=i
  ·subst hji;exact hu
  exact hn j (by omega)
 ·intro s ⟨hs,hn⟩;subst hs;rw [if_neg (by omega)];exact ⟨_,rfl,lims_no hn⟩
 intro e hE;cases e with
 | inl e =>
  simp only at hE ⊢;simp [Q6r,Q5S,hE]
 | inr e=>rw [hE]
theorem e_mby {d f:Fn} (hd:d.Is) (hf:f.Is) (h:d.t=f.s):Q2p d f=some (if (QP d).length≤400∧(QP (Q1o d f)).length≤400 then (⟨d,Q1o d f,f,QP d,QP (Q1o d f)⟩,true) else (⟨d,Q1o d f,f,if (QP d).length≤400 then QP d else [],if (QP (Q1o d f)).length≤400 then QP (Q1o d f) else []⟩,false)):=by
 unfold Q2p;rw [e_Fthen hd hf h];simp only [Option.bind_some];rw [Q5k hd];simp only [Option.bind_some];rw [Q5k (Q65 hd hf h)]
 by_cases h1:(QP d).length≤400<;>by_cases h2:(QP (Q1o d f)).length≤400<;>simp [h1,h2]
theorem e_code14 (d f:Fn):(¬ (d.Is∧f.Is)→(Q1x d f=some (zeroF,1)∧QR [d,f]=some false))∧(d.Is∧f.Is→QR [d,f]=some true∧(¬ d.t=f.s→Q1x d f=some (zeroF,5)∧QJ d.t f.s=some false)∧(d.t=f.s→Q1x d f=some (Q1o d f,0)∧QJ d.t f.s=some true)):=by
 unfold Q1x Q2Y;rw [Q5J [d,f] (by simp),e_l06Is,e_l06Is];have hb:(∀ g∈[d,f],g.Is)↔(d.Is∧f.Is):=by simp
 refine ⟨fun h=>?_,fun h=>?_⟩
 ·rw [QA fun q=>h (hb.1 q)]
  by_cases h1:d.Is
  ·have h2:¬ f.Is:=fun q=>h ⟨h1,q⟩;rw [QK h1,QA h2];simp [zeroF]
  rw [QA h1];simp [zeroF]
 rw [QK (hb.2 h),QK h.1,QK h.2,e_sameCat h.1.t];refine ⟨rfl,fun h3=>?_,fun h3=>?_⟩
 ·rw [QA h3];simp [zeroF,h3]
 rw [QK h3];simp only [Option.bind_some,not_true_eq_false,if_false,Bool.not_true,Bool.false_eq_true];rw [e_l06Then h.1 h.2 h3];simp [h3]
set_option maxHeartbeats 1000000 in
theorem Q6x (d f:Fn):∃ r,Q1V d f=some r∧Q1U d f=some r:=by
 obtain ⟨c1,c2⟩:=e_code14 d f;unfold Q1V Q1U
 by_cases h:d.Is∧f.Is
 case neg=>exact ⟨(false,1),by rw [(c1 h).1];simp,by rw [(c1 h).2];simp⟩
 obtain ⟨d1,d2,d3⟩:=c2 h
 by_cases h3:d.t=f.s
 case neg=>exact ⟨(false,5),by rw [(d2 h3).1];simp,by rw [d1,(d2 h3).2];simp⟩
 rw [(d3 h3).1,d1,(d3 h3).2];obtain ⟨hd,hf⟩:=h;simp only [Option.bind_some,not_true_eq_false,if_false];rw [e_sKeep hd hf h3,e_mby hd hf h3]
 by_cases hc:(QP d).length≤400∧(QP (Q1o d f)).length≤400
 case neg =>
  rw [if_neg hc,if_neg hc];exact ⟨(false,3),by simp,by simp⟩
 rw [if_pos hc,if_pos hc];refine ⟨_,rfl,?_⟩;simp only [Option.bind_some,not_true_eq_false,if_false];rw [e_keep hd hf h3 (Q5E hd hc.1) (Q5E (Q65 hd hf h3) hc.2)];cases hl:lims d (QP d)<;>simp [Q5S,Q6r,hl]
end Go.Vc.T
