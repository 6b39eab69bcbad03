/- A part of the proof: a verified generator of conditions, and what each function of the program does. -/
import Derived.Test.YtbpjpnccoeedoaaD8
set_option maxRecDepth 100000
set_option maxHeartbeats 4000000
set_option linter.unusedSimpArgs false
set_option linter.unusedVariables false

namespace Go.Vc.T
open Go Go.Vc Go.Proofs
attribute [local simp] eL eI Qn
noncomputable def Q1v (p0_:List Int) (p1_:Int):Option Int :=
 (QK p0_ p1_).bind fun v1 =>
 some v1
theorem wkQ9 {F : Fx} {st st' : St} (m : List (Nat × Nat)) (h : (m.map Prod.fst).Nodup ∧ (m.map Prod.snd).Nodup ∧ (∀ id, id < F.pins → look id m = some id) ∧ (∀ p ∈ m, p.2 < st'.n) ∧ (∀ p ∈ st'.h, p.1 < st'.n) ∧ (∀ p ∈ st'.s, p.2 = rl m (st.get p.1) ∨ p.2 = .bot) ∧ ∀ p ∈ st'.h, hhOk m st.h p.1 p.2 := by simp [hP, hhOk, back, UA, U1, IA, I1, LA, L1, BA, B1, EA, E1, E2, eB, eI, eL, Cat.cells]) : Wk F st st' := Wk.r1 m h
theorem Q5C (p0_:List Int) (p1_:Int) (r:Int) (h:Q1v p0_ p1_=some r):Contract Try.prog 159 [lI p0_,iV p1_] (iV r):=by
 refine Qe (rvs:=[.tmp 4]) (rs:=[iV r]) Try.func159 rfl rfl rfl rfl (by simp [Try.f159]) fun F hN hP=>?_;unfold Q1v at h;refine Q4 ?_;refine runQ hN fun K hK=>?_;simp [-Q0,-Q6,-Q1,-Q7,-Q2];repeat refine sdQ ?_
 refine hK _ ?_;clear hK K;refine tn ?_;refine Q8 (st':=⟨[(0,lI p0_),(1,iV p1_)],[],0⟩) (wkQ9 []) ?_;refine Q4 ?_;refine runQ hN fun K hK=>?_;simp [-Q0,-Q6,-Q1,-Q7,-Q2];repeat with_reducible refine sdQ ?_
 replace h:=bind_some h;obtain ⟨v1,hv1,h⟩:=h;refine Q3 (Q2L _ _ v1 hv1) (.cons .lst (.cons .val .nil)) ?_;simp [-Q0,-Q6,-Q1,-Q7,-Q2,unk,unA,unE,unT,unC,flat];repeat refine sdQ ?_
 refine hK _ ?_;clear hK K;refine tn ?_;refine Q8 (st':=⟨[(4,iV v1)],[],0⟩) (wkQ9 []) ?_;refine Qi ?_;have hr:=Option.some.inj h;rw [← hr];refine ⟨_,(.tmp .nil),?_⟩;refine ⟨(.one rfl rfl .nil),[iV v1],[],by simp [UA,U1,IA,I1,LA,L1,BA,B1,EA,E1,E2,eB,eI,eL],by simp,(UpL.refl _)⟩
attribute [local simp] eL eI Qn
noncomputable def Q2V (labels_:List Int):Option (List Int) :=
 ass (0≤(labels_.length:Int)∧(labels_.length:Int)≤1073741824) <|
 (Qv (σ:=(List (Int × Int)) × List Int × Int) (ε:=List Int) (fun s10 =>
  if s10.2.2<(labels_.length:Int) then
   ass (0≤s10.2.2∧s10.2.2<(labels_.length:Int)) <|
   (
    if ¬ (((Q29 (ix labels_ s10.2.2) s10.1).isSome)=true) then
     ass (s10.1.length<1099511627776) <|
     some (tset (ix labels_ s10.2.2) (s10.1.length:Int) s10.1,(s10.1.length:Int))
    else
     some (s10.1,(Q29 (ix labels_ s10.2.2) s10.1).getD 0):Option ((List (Int × Int)) × Int)).bind fun b13 =>
   ass (0≤s10.2.2∧s10.2.2<(s10.2.1.length:Int)) <|
   ass (B64 (s10.2.2+1)) <|
   some (Ctl.next (b13.1,s10.2.1.set s10.2.2.toNat b13.2,s10.2.2+1))
  else
   some (Ctl.ret s10.2.1)) fuel ([],List.replicate ((labels_.length:Int).toNat) 0,0)).bind fun b2 =>
 some b2
theorem Q8Z (labels_:List Int) (r:List Int) (h:Q2V labels_=some r):Contract Try.prog 176 [lI labels_] (lI r):=by
 refine Qe (rvs:=[.tmp 2]) (rs:=[lI r]) Try.func176 rfl rfl rfl rfl (by simp [Try.f176]) fun F hN hP=>?_;unfold Q2V at h;refine Q4 ?_;refine runQ hN fun K hK=>?_;simp [-Q0,-Q6,-Q1,-Q7,-Q2];repeat refine sdQ ?_
 refine hK _ ?_;clear hK K;refine tn ?_;refine Q8 (st':=⟨[(0,lI labels_)],[],0⟩) (wkQ9 []) ?_;refine Q4 ?_;refine Q13 [] mo (by rw [hN];decide) fun K hK=>?_;simp [-Q0,-Q6,-Q1,-Q7,-Q2];repeat refine sdQ ?_
 refine hK _ ?_;clear hK K;refine tn ?_;refine Q8 (st':=⟨[(0,lI labels_),(3,.mp 0)],[(0,.mapE (.int .i64) (Mii []))],1⟩) (wkQ9 [(0,0)]) ?_;refine Q4 ?_;refine runQ hN fun K hK=>?_;replace h:=Q5 h;obtain ⟨a1,h⟩:=h;simp [-Q0,-Q6,-Q1,-Q7,-Q2];repeat refine sdQ ?_
 refine hK _ ?_;clear hK K;refine tn ?_;refine Q8 (st':=⟨[(0,lI labels_),(3,.mp 0),(4,.own 1 0 ((List.replicate ((labels_.length:Int).toNat) 0).length))],[(0,.mapE (.int .i64) (Mii [])),(1,rI (List.replicate ((labels_.length:Int).toNat) 0))],2⟩) (wkQ9 [(0,0),(1,1)]) ?_;refine Q4 ?_;refine Q4 ?_;refine runQ hN fun K hK=>?_;simp [-Q0,-Q6,-Q1,-Q7,-Q2];repeat refine sdQ ?_
 refine hK _ ?_;clear hK K;refine tn ?_;refine Q8 (st':=⟨[(3,.mp 0),(4,.own 1 0 ((List.replicate ((labels_.length:Int).toNat) 0).length)),(13,lI labels_),(14,iV (labels_.length:Int)),(15,iV 0)],[(0,.mapE (.int .i64) (Mii [])),(1,rI (List.replicate ((labels_.length:Int).toNat) 0))],2⟩) (wkQ9 [(0,0),(1,1)]) ?_;replace h:=bind_some h;obtain ⟨e2,h,h2⟩:=h;refine Qh (fun b2:List Int=>⟨[(4,.own 0 0 b2.length)],[(0,rI b2)],1⟩) (fun b2=>b2=e2) ?_ ?_
 ·refine Qa ?_;refine Qs h (fun s10:(List (Int × Int)) × List Int × Int=>⟨[(3,.mp 0),(4,.own 1 0 s10.2.1.length),(13,lI labels_),(14,iV (labels_.length:Int)),(15,iV s10.2.2)],[(0,.mapE (.int .i64) (Mii s10.1)),(1,rI s10.2.1)],2⟩) (wkQ9 [(0,0),(1,1)]) ?_;clear h;intro k10 s10 c10 h hk10;refine Q4 ?_;refine runQ hN fun K hK=>?_;simp [-Q0,-Q6,-Q1,-Q7,-Q2];repeat refine sdQ ?_
  refine hK _ ?_;clear hK K;refine tn ?_;refine Q8 (st':=⟨[(3,.mp 0),(4,.own 1 0 s10.2.1.length),(13,lI labels_),(14,iV (labels_.length:Int)),(15,iV s10.2.2),(16,.val (.bool (decide (s10.2.2<(labels_.length:Int)))))],[(0,.mapE (.int .i64) (Mii s10.1)),(1,rI s10.2.1)],2⟩) (wkQ9 [(0,0),(1,1)]) ?_;refine Q4 ?_;refine Qc rfl (fun g=>?_) fun g=>?_
  ·have g11:s10.2.2<(labels_.length:Int):=gQ;clear g;replace h:=if_l g11 h;refine Qd ?_;refine tn ?_;refine Q4 ?_;refine Qa ?_;refine Q4 ?_;refine runQ hN fun K hK=>?_;replace h:=Q5 h;obtain ⟨a12,h⟩:=h;simp [-Q0,-Q6,-Q1,-Q7,-Q2,at_I a12];(repeat refine sdQ ?_);refine hK _ ?_;clear hK K;refine tn ?_;refine Q8 (st':=⟨[(3,.mp 0),(4,.own 1 0 s10.2.1.length),(5,iV s10.2.2),(6,iV (ix labels_ s10.2.2)),(13,lI labels_),(14,iV (labels_.length:Int)),(15,iV s10.2.2)],[(0,.mapE (.int .i64) (Mii s10.1)),(1,rI s10.2.1)],2⟩) (wkQ9 [(0,0),(1,1)]) ?_;refine Q4 ?_;refine Q13 [] mo (by rw [hN];decide) fun K hK=>?_;simp [-Q0,-Q6,-Q1,-Q7,-Q2];(repeat refine sdQ ?_);refine hK _ ?_;clear hK K;refine tn ?_;refine Q8 (st':=⟨[(3,.mp 0),(4,.own 1 0 s10.2.1.length),(5,iV s10.2.2),(6,iV (ix labels_ s10.2.2)),(7,iV ((Q29 (ix labels_ s10.2.2) s10.1).getD 0)),(8,.val (.bool ((Q29 (ix labels_ s10.2.2) s10.1).isSome))),(13,lI labels_),(14,iV (labels_.length:Int)),(15,iV s10.2.2)],[(0,.mapE (.int .i64) (Mii s10.1)),(1,rI s10.2.1)],2⟩) (wkQ9 [(0,0),(1,1)]) ?_;refine Q4 ?_;refine Q4 ?_;refine runQ hN fun K hK=>?_;simp [-Q0,-Q6,-Q1,-Q7,-Q2];(repeat refine sdQ ?_);refine hK _ ?_;clear hK K;refine tn ?_;refine Q8 (st':=⟨[(3,.mp 0),(4,.own 1 0 s10.2.1.length),(5,iV s10.2.2),(6,iV (ix labels_ s10.2.2)),(7,iV ((Q29 (ix labels_ s10.2.2) s10.1).getD 0)),(13,lI labels_),(14,iV (labels_.length:Int)),(15,iV s10.2.2),(27,.val (.bool (!((Q29 (ix labels_ s10.2.2) s10.1).isSome))))],[(0,.mapE (.int .i64) (Mii s10.1)),(1,rI s10.2.1)],2⟩) (wkQ9 [(0,0),(1,1)]) ?_;replace h:=bind_some h;obtain ⟨e13,h,h13⟩:=h;refine Qh (fun b13:(List (Int × Int)) × Int=>⟨[(3,.mp 0),(4,.own 1 0 s10.2.1.length),(5,iV s10.2.2),(7,iV b13.2),(13,lI labels_),(14,iV (labels_.length:Int)),(15,iV s10.2.2)],[(0,.mapE (.int .i64) (Mii b13.1)),(1,rI s10.2.1)],2⟩) (fun b13=>b13=e13) ?_ ?_
   ·refine Qc rfl (fun g=>?_) fun g=>?_
    ·have g14:¬ (((Q29 (ix labels_ s10.2.2) s10.1).isSome)=true):=gQ;clear g;replace h:=if_l g14 h;refine Q4 ?_;refine Q13 [29] mo (by rw [hN];decide) fun K hK=>?_;simp [-Q0,-Q6,-Q1,-Q7,-Q2];(repeat refine sdQ ?_);refine hK _ ?_;clear hK K;refine tn ?_;refine Q8 (st':=⟨[(3,.mp 0),(4,.own 1 0 s10.2.1.length),(5,iV s10.2.2),(6,iV (ix labels_ s10.2.2)),(7,iV (s10.1.length:Int)),(13,lI labels_),(14,iV (labels_.length:Int)),(15,iV s10.2.2)],[(0,.mapE (.int .i64) (Mii s10.1)),(1,rI s10.2.1)],2⟩) (wkQ9 [(0,0),(1,1)]) ?_;refine Q13 [] mo (by rw [hN];decide) fun K hK=>?_;replace h:=Q5 h;obtain ⟨a15,h⟩:=h;simp [-Q0,-Q6,-Q1,-Q7,-Q2,a15];(repeat refine sdQ ?_);refine hK _ ?_;clear hK K;exact jn (b:=(tset (ix labels_ s10.2.2) (s10.1.length:Int) s10.1,(s10.1.length:Int))) (Option.some.inj h) (wkQ9 [(0,0),(1,1)])
    have g14:¬ (¬ (((Q29 (ix labels_ s10.2.2) s10.1).isSome)=true)):=by first|simpa using g|(simp at g;exact g)|(simp at g;omega)|exact fun q=>q (by simpa using g)
    clear g;replace h:=if_r g14 h;refine Qd ?_;exact jn (b:=(s10.1,(Q29 (ix labels_ s10.2.2) s10.1).getD 0)) (Option.some.inj h) (wkQ9 [(0,0),(1,1)])
   intro b13 hb13;have h:=h13;(try rw [← hb13] at h);clear h13;(try dsimp only at h);refine runQ hN fun K hK=>?_;replace h:=Q5 h;obtain ⟨a16,h⟩:=h;simp [-Q0,-Q6,-Q1,-Q7,-Q2,at_I a16];(repeat refine sdQ ?_);refine hK _ ?_;clear hK K;refine bn ?_;refine tn ?_;refine Q8 (st':=⟨[(3,.mp 0),(4,.own 1 0 ((s10.2.1.set s10.2.2.toNat b13.2).length)),(13,lI labels_),(14,iV (labels_.length:Int)),(15,iV s10.2.2)],[(0,.mapE (.int .i64) (Mii b13.1)),(1,rI (s10.2.1.set s10.2.2.toNat b13.2))],2⟩) (wkQ9 [(0,0),(1,1)]) ?_;refine runQ hN fun K hK=>?_;replace h:=Q5 h;obtain ⟨a17,h⟩:=h;simp [-Q0,-Q6,-Q1,-Q7,-Q2,Qp a17];(repeat refine sdQ ?_);refine hK _ ?_;clear hK K;cases h;exact rn (s':=(b13.1,s10.2.1.set s10.2.2.toNat b13.2,s10.2.2+1)) hk10 (wkQ9 [(0,0),(1,1)])
  have g11:¬ (s10.2.2<(labels_.length:Int)):=gQ;clear g;replace h:=if_r g11 h;refine Qj ?_;refine tx ?_;refine lx ?_;refine bh ?_;cases h;exact jn (b:=s10.2.1) hk10 (wkQ9 [(1,0)])
 intro b2 hb2;have h:=h2;try rw [← hb2] at h
 clear h2;try dsimp only at h
 refine Q4 ?_;refine runQ hN fun K hK=>?_;simp [-Q0,-Q6,-Q1,-Q7,-Q2];repeat refine sdQ ?_
 refine hK _ ?_;clear hK K;refine tn ?_;refine Q8 (st':=⟨[(2,.own 0 0 b2.length)],[(0,rI b2)],1⟩) (wkQ9 [(0,0)]) ?_;refine Qi ?_;have hr:=Option.some.inj h;rw [← hr];refine ⟨_,(.tmp .nil),?_⟩;refine ⟨(.one rfl rfl .nil),[lI b2],[0],by simp [UA,U1,IA,I1,LA,L1,BA,B1,EA,E1,E2,eB,eI,eL],by simp,(UpL.refl _)⟩
attribute [local simp] eL eI Qn
noncomputable def Qy (p_:List Int):Option (List Int) :=
 (Qv (σ:=List Int × Int) (ε:=List Int) (fun s8 =>
  if s8.2<(p_.length:Int) then
   (
    ass (0≤s8.2∧s8.2<(p_.length:Int)) <|
    if (ix p_ s8.2)=(s8.1.length:Int) then
     ass ((s8.1++[s8.2]).length≤1073741824) <|
     some (s8.1++[s8.2])
    else
     some s8.1:Option (List Int)).bind fun b10 =>
   ass (B64 (s8.2+1)) <|
   some (Ctl.next (b10,s8.2+1))
  else
   some (Ctl.ret s8.1)) fuel ([],0)).bind fun b1 =>
 some b1
theorem Q25 (p_:List Int) (r:List Int) (h:Qy p_=some r):Contract Try.prog 201 [lI p_] (lI r):=by
 refine Qe (rvs:=[.tmp 2]) (rs:=[lI r]) Try.func201 rfl rfl rfl rfl (by simp [Try.f201]) fun F hN hP=>?_;unfold Qy at h;refine Q4 ?_;refine runQ hN fun K hK=>?_;simp [-Q0,-Q6,-Q1,-Q7,-Q2];repeat refine sdQ ?_
 refine hK _ ?_;clear hK K;refine tn ?_;refine Q8 (st':=⟨[(0,lI p_)],[],0⟩) (wkQ9 []) ?_;refine Q4 ?_;refine runQ hN fun K hK=>?_;simp [-Q0,-Q6,-Q1,-Q7,-Q2];repeat refine sdQ ?_
 refine hK _ ?_;clear hK K;refine tn ?_;refine Q8 (st':=⟨[(0,lI p_),(3,.own 0 0 0)],[(0,.mix 1 [])],1⟩) (wkQ9 [(0,0)]) ?_;refine Q4 ?_;refine Q4 ?_;refine runQ hN fun K hK=>?_;simp [-Q0,-Q6,-Q1,-Q7,-Q2];repeat refine sdQ ?_
 refine hK _ ?_;clear hK K;refine tn ?_;refine Q8 (st':=⟨[(3,.own 0 0 0),(7,lI p_),(8,iV (p_.length:Int)),(9,iV 0)],[(0,.mix 1 [])],1⟩) (wkQ9 [(0,0)]) ?_;replace h:=bind_some h;obtain ⟨e1,h,h1⟩:=h;refine Qh (fun b1:List Int=>⟨[(3,.own 0 0 b1.length)],[(0,rI b1)],1⟩) (fun b1=>b1=e1) ?_ ?_
 ·refine Qa ?_;refine Qs h (fun s8:List Int × Int=>⟨[(3,.own 0 0 s8.1.length),(7,lI p_),(8,iV (p_.length:Int)),(9,iV s8.2)],[(0,rI s8.1)],1⟩) (Q2O ⟨[(3,.own 0 0 0),(7,lI p_),(8,iV (p_.length:Int)),(9,iV 0)],[(0,rI [])],1⟩ (Wk.nils [] (by simp) (by simp) (by simp [nlA]) (by simp [entN,nlL,nlA,UA,U1,IA,I1,LA,L1,BA,B1,EA,E1,E2,eB,eI,eL]) (by simp)) (wkQ9 [(0,0)])) ?_;clear h;intro k8 s8 c8 h hk8;refine Q4 ?_;refine runQ hN fun K hK=>?_;simp [-Q0,-Q6,-Q1,-Q7,-Q2];repeat refine sdQ ?_
  refine hK _ ?_;clear hK K;refine tn ?_;refine Q8 (st':=⟨[(3,.own 0 0 s8.1.length),(7,lI p_),(8,iV (p_.length:Int)),(9,iV s8.2),(10,.val (.bool (decide (s8.2<(p_.length:Int)))))],[(0,rI s8.1)],1⟩) (wkQ9 [(0,0)]) ?_;refine Q4 ?_;refine Qc rfl (fun g=>?_) fun g=>?_
  ·have g9:s8.2<(p_.length:Int):=gQ;clear g;replace h:=if_l g9 h;refine Qd ?_;refine tn ?_;refine Q4 ?_;replace h:=bind_some h;obtain ⟨e10,h,h10⟩:=h;refine Qh (fun b10:List Int=>⟨[(3,.own 0 0 b10.length),(7,lI p_),(8,iV (p_.length:Int)),(9,iV s8.2)],[(0,rI b10)],1⟩) (fun b10=>b10=e10) ?_ ?_
   ·refine Qa ?_;refine Q4 ?_;refine runQ hN fun K hK=>?_;replace h:=Q5 h;obtain ⟨a11,h⟩:=h;simp [-Q0,-Q6,-Q1,-Q7,-Q2,at_I a11];(repeat refine sdQ ?_);refine hK _ ?_;clear hK K;refine tn ?_;refine Q8 (st':=⟨[(3,.own 0 0 s8.1.length),(4,iV s8.2),(5,iV (ix p_ s8.2)),(7,lI p_),(8,iV (p_.length:Int)),(9,iV s8.2)],[(0,rI s8.1)],1⟩) (wkQ9 [(0,0)]) ?_;refine Q4 ?_;refine runQ hN fun K hK=>?_;simp [-Q0,-Q6,-Q1,-Q7,-Q2];(repeat refine sdQ ?_);refine hK _ ?_;clear hK K;refine tn ?_;refine Q8 (st':=⟨[(3,.own 0 0 s8.1.length),(4,iV s8.2),(7,lI p_),(8,iV (p_.length:Int)),(9,iV s8.2),(17,.val (.bool ((ix p_ s8.2) == (s8.1.length:Int))))],[(0,rI s8.1)],1⟩) (wkQ9 [(0,0)]) ?_;refine Qc rfl (fun g=>?_) fun g=>?_
    ·have g12:(ix p_ s8.2)=(s8.1.length:Int):=gQ;clear g;replace h:=if_l g12 h;refine runQ hN fun K hK=>?_;replace h:=Q5 h;obtain ⟨a13,h⟩:=h;(try simp only [List.length_append,List.length_cons,List.length_nil] at a13);simp [-Q0,-Q6,-Q1,-Q7,-Q2,a13];(repeat refine sdQ ?_);refine hK _ ?_;clear hK K;refine bn ?_;exact jn (b:=s8.1++[s8.2]) (Option.some.inj h) (wkQ9 [(2,0)])
    have g12:¬ ((ix p_ s8.2)=(s8.1.length:Int)):=gQ;clear g;replace h:=if_r g12 h;refine Qd ?_;refine bn ?_;exact jn (b:=s8.1) (Option.some.inj h) (wkQ9 [(0,0)])
   intro b10 hb10;have h:=h10;(try rw [← hb10] at h);clear h10;(try dsimp only at h);refine runQ hN fun K hK=>?_;replace h:=Q5 h;obtain ⟨a14,h⟩:=h;simp [-Q0,-Q6,-Q1,-Q7,-Q2,Qp a14];(repeat refine sdQ ?_);refine hK _ ?_;clear hK K;cases h;exact rn (s':=(b10,s8.2+1)) hk8 (wkQ9 [(0,0)])
  have g9:¬ (s8.2<(p_.length:Int)):=gQ;clear g;replace h:=if_r g9 h;refine Qj ?_;refine tx ?_;refine lx ?_;refine bh ?_;cases h;exact jn (b:=s8.1) hk8 (wkQ9 [(0,0)])
 intro b1 hb1;have h:=h1;try rw [← hb1] at h
 clear h1;try dsimp only at h
 refine Q4 ?_;refine runQ hN fun K hK=>?_;simp [-Q0,-Q6,-Q1,-Q7,-Q2];repeat refine sdQ ?_
 refine hK _ ?_;clear hK K;refine tn ?_;refine Q8 (st':=⟨[(2,.own 0 0 b1.length)],[(0,rI b1)],1⟩) (wkQ9 [(0,0)]) ?_;refine Qi ?_;have hr:=Option.some.inj h;rw [← hr];refine ⟨_,(.tmp .nil),?_⟩;refine ⟨(.one rfl rfl .nil),[lI b1],[0],by simp [UA,U1,IA,I1,LA,L1,BA,B1,EA,E1,E2,eB,eI,eL],by simp,(UpL.refl _)⟩
attribute [local simp] eL eI Qn
noncomputable def QE (list_:List Int) (n_:Int):Option Int :=
 (Qv (σ:=Int) (ε:=Unit ⊕ Int) (fun s6 =>
  if s6<(list_.length:Int) then
   ass (0≤s6∧s6<(list_.length:Int)) <|
   if (ix list_ s6)=n_ then
    some (Ctl.ret (Sum.inr s6))
   else
    ass (B64 (s6+1)) <|
    some (Ctl.next (s6+1))
  else
   some (Ctl.ret (Sum.inl ()))) fuel 0).bind fun e1 =>
 match e1 with
 | .inl b1 =>
  some (-1)
 | .inr p1 =>
  some p1
theorem Q14 (list_:List Int) (n_:Int) (r:Int) (h:QE list_ n_=some r):Contract Try.prog 165 [lI list_,iV n_] (iV r):=by
 refine Qe (rvs:=[.tmp 4]) (rs:=[iV r]) Try.func165 rfl rfl rfl rfl (by simp [Try.f165]) fun F hN hP=>?_;unfold QE at h;refine Q4 ?_;refine runQ hN fun K hK=>?_;simp [-Q0,-Q6,-Q1,-Q7,-Q2];repeat refine sdQ ?_
 refine hK _ ?_;clear hK K;refine tn ?_;refine Q8 (st':=⟨[(0,lI list_),(1,iV n_)],[],0⟩) (wkQ9 []) ?_;refine Q4 ?_;refine Q4 ?_;refine runQ hN fun K hK=>?_;simp [-Q0,-Q6,-Q1,-Q7,-Q2];repeat refine sdQ ?_
 refine hK _ ?_;clear hK K;refine tn ?_;refine Q8 (st':=⟨[(0,lI list_),(1,iV n_),(5,iV 0)],[],0⟩) (wkQ9 []) ?_;replace h:=bind_some h;obtain ⟨e1,h,h1⟩:=h;refine Qh (fun b1:Unit=>⟨[],[],0⟩) (fun b1=>Sum.inl b1=e1) ?_ ?_
 ·refine Qa ?_;refine Qs h (fun s6:Int=>⟨[(0,lI list_),(1,iV n_),(5,iV s6)],[],0⟩) (wkQ9 []) ?_;clear h;intro k6 s6 c6 h hk6;refine Q4 ?_;refine Q4 ?_;refine runQ hN fun K hK=>?_;simp [-Q0,-Q6,-Q1,-Q7,-Q2];repeat refine sdQ ?_
  refine hK _ ?_;clear hK K;refine tn ?_;refine Q8 (st':=⟨[(0,lI list_),(1,iV n_),(5,iV s6),(9,.val (.bool (decide (s6<(list_.length:Int)))))],[],0⟩) (wkQ9 []) ?_;refine Qc rfl (fun g=>?_) fun g=>?_
  ·have g7:s6<(list_.length:Int):=gQ;clear g;replace h:=if_l g7 h;refine Qd ?_;refine tn ?_;refine Q4 ?_;refine Qa ?_;refine Q4 ?_;refine runQ hN fun K hK=>?_;replace h:=Q5 h;obtain ⟨a8,h⟩:=h;simp [-Q0,-Q6,-Q1,-Q7,-Q2,at_I a8];(repeat refine sdQ ?_);refine hK _ ?_;clear hK K;refine tn ?_;refine Q8 (st':=⟨[(0,lI list_),(1,iV n_),(5,iV s6),(17,.val (.bool ((ix list_ s6) == n_)))],[],0⟩) (wkQ9 []) ?_;refine Qc rfl (fun g=>?_) fun g=>?_
   ·have g9:(ix list_ s6)=n_:=gQ;clear g;replace h:=if_l g9 h;refine Q4 ?_;refine runQ hN fun K hK=>?_;simp [-Q0,-Q6,-Q1,-Q7,-Q2];(repeat refine sdQ ?_);refine hK _ ?_;clear hK K;refine tn ?_;refine Q8 (st':=⟨[(4,iV s6)],[],0⟩) (wkQ9 []) ?_;refine Qi ?_;refine br ?_;refine tr ?_;refine lr ?_;refine br ?_;refine tr ?_;cases h;have q:_=e1:=hk6;have h:=h1;rw [← q] at h;clear q;(try dsimp only at h);have hr:=Option.some.inj h;rw [← hr];refine ⟨_,(.tmp .nil),?_⟩;refine ⟨(.one rfl rfl .nil),[iV s6],[],by simp [UA,U1,IA,I1,LA,L1,BA,B1,EA,E1,E2,eB,eI,eL],by simp,(UpL.refl _)⟩
   have g9:¬ ((ix list_ s6)=n_):=gQ;clear g;replace h:=if_r g9 h;refine Qd ?_;refine bn ?_;refine tn ?_;refine runQ hN fun K hK=>?_;replace h:=Q5 h;obtain ⟨a10,h⟩:=h;simp [-Q0,-Q6,-Q1,-Q7,-Q2,Qp a10];(repeat refine sdQ ?_);refine hK _ ?_;clear hK K;cases h;exact rn (s':=s6+1) hk6 (wkQ9 [])
  have g7:¬ (s6<(list_.length:Int)):=gQ;clear g;replace h:=if_r g7 h;refine Qj ?_;refine tx ?_;refine lx ?_;refine bh ?_;cases h;exact jn (b:=()) hk6 (wkQ9 [])
 intro b1 hb1;have h:=h1;try rw [← hb1] at h
 clear h1;try dsimp only at h
 refine Q4 ?_;refine runQ hN fun K hK=>?_;simp [-Q0,-Q6,-Q1,-Q7,-Q2];repeat refine sdQ ?_
 refine hK _ ?_;clear hK K;refine tn ?_;refine Q8 (st':=⟨[(4,iV (-1))],[],0⟩) (wkQ9 []) ?_;refine Qi ?_;have hr:=Option.some.inj h;rw [← hr];refine ⟨_,(.tmp .nil),?_⟩;refine ⟨(.one rfl rfl .nil),[iV (-1)],[],by simp [UA,U1,IA,I1,LA,L1,BA,B1,EA,E1,E2,eB,eI,eL],by simp,(UpL.refl _)⟩
attribute [local simp] eL eI Qn
noncomputable def Q1w (labels_:List Int):Option (List Int) :=
 (Qv (σ:=List Int × List Int × Int) (ε:=List Int) (fun s11 =>
  if s11.2.2<(labels_.length:Int) then
   ass (0≤s11.2.2∧s11.2.2<(labels_.length:Int)) <|
   (QE s11.2.1 (ix labels_ s11.2.2)).bind fun v14 =>
   (
    if v14<0 then
     ass (0≤s11.2.2∧s11.2.2<(labels_.length:Int)) <|
     ass ((s11.2.1++[ix labels_ s11.2.2]).length≤1073741824) <|
     some (s11.2.1++[ix labels_ s11.2.2],(s11.2.1.length:Int))
    else
     some (s11.2.1,v14):Option (List Int × Int)).bind fun b15 =>
   ass ((s11.1++[b15.2]).length≤1073741824) <|
   ass (B64 (s11.2.2+1)) <|
   some (Ctl.next (s11.1++[b15.2],b15.1,s11.2.2+1))
  else
   some (Ctl.ret s11.1)) fuel ([],[],0)).bind fun b1 =>
 some b1
theorem Q5D (labels_:List Int) (r:List Int) (h:Q1w labels_=some r):Contract Try.prog 207 [lI labels_] (lI r):=by
 refine Qe (rvs:=[.tmp 2]) (rs:=[lI r]) Try.func207 rfl rfl rfl rfl (by simp [Try.f207]) fun F hN hP=>?_;unfold Q1w at h;refine Q4 ?_;refine runQ hN fun K hK=>?_;simp [-Q0,-Q6,-Q1,-Q7,-Q2];repeat refine sdQ ?_
 refine hK _ ?_;clear hK K;refine tn ?_;refine Q8 (st':=⟨[(0,lI labels_)],[],0⟩) (wkQ9 []) ?_;refine Q4 ?_;refine runQ hN fun K hK=>?_;simp [-Q0,-Q6,-Q1,-Q7,-Q2];repeat refine sdQ ?_
 refine hK _ ?_;clear hK K;refine tn ?_;refine Q8 (st':=⟨[(0,lI labels_),(3,.own 0 0 0),(4,.own 1 0 0)],[(0,.mix 1 []),(1,.mix 1 [])],2⟩) (wkQ9 [(0,0),(1,1)]) ?_;refine Q4 ?_;refine Q4 ?_;refine runQ hN fun K hK=>?_;simp [-Q0,-Q6,-Q1,-Q7,-Q2];repeat refine sdQ ?_
 refine hK _ ?_;clear hK K;refine tn ?_;refine Q8 (st':=⟨[(0,lI labels_),(3,.own 0 0 0),(4,.own 1 0 0),(5,iV 0)],[(0,.mix 1 []),(1,.mix 1 [])],2⟩) (wkQ9 [(0,0),(1,1)]) ?_;replace h:=bind_some h;obtain ⟨e1,h,h1⟩:=h;refine Qh (fun b1:List Int=>⟨[(3,.own 0 0 b1.length)],[(0,rI b1)],1⟩) (fun b1=>b1=e1) ?_ ?_
 ·refine Qa ?_;refine Qs h (fun s11:List Int × List Int × Int=>⟨[(0,lI labels_),(3,.own 0 0 s11.1.length),(4,.own 1 0 s11.2.1.length),(5,iV s11.2.2)],[(0,rI s11.1),(1,rI s11.2.1)],2⟩) (Q2O ⟨[(0,lI labels_),(3,.own 0 0 0),(4,.own 1 0 0),(5,iV 0)],[(0,rI []),(1,rI [])],2⟩ (Wk.nils [] (by simp) (by simp) (by simp [nlA]) (by simp [entN,nlL,nlA,UA,U1,IA,I1,LA,L1,BA,B1,EA,E1,E2,eB,eI,eL]) (by simp)) (wkQ9 [(0,0),(1,1)])) ?_;clear h;intro k11 s11 c11 h hk11;refine Q4 ?_;refine Q4 ?_;refine runQ hN fun K hK=>?_;simp [-Q0,-Q6,-Q1,-Q7,-Q2];repeat refine sdQ ?_
  refine hK _ ?_;clear hK K;refine tn ?_;refine Q8 (st':=⟨[(0,lI labels_),(3,.own 0 0 s11.1.length),(4,.own 1 0 s11.2.1.length),(5,iV s11.2.2),(12,.val (.bool (decide (s11.2.2<(labels_.length:Int)))))],[(0,rI s11.1),(1,rI s11.2.1)],2⟩) (wkQ9 [(0,0),(1,1)]) ?_;refine Qc rfl (fun g=>?_) fun g=>?_
  ·have g12:s11.2.2<(labels_.length:Int):=gQ;clear g;replace h:=if_l g12 h;refine Qd ?_;refine tn ?_;refine Q4 ?_;refine Qa ?_;refine Q4 ?_;refine runQ hN fun K hK=>?_;replace h:=Q5 h;obtain ⟨a13,h⟩:=h;simp [-Q0,-Q6,-Q1,-Q7,-Q2,at_I a13];(repeat with_reducible refine sdQ ?_);replace h:=bind_some h;obtain ⟨v14,hv14,h⟩:=h;refine Q3 (Q14 _ _ v14 hv14) (.cons (.whole (by simp) (by simp) (by simp)) (.cons .val .nil)) ?_;simp [-Q0,-Q6,-Q1,-Q7,-Q2,unk,unA,unE,unT,unC,flat,at_I a13];(repeat refine sdQ ?_);refine hK _ ?_;clear hK K;refine tn ?_;refine Q8 (st':=⟨[(0,lI labels_),(3,.own 0 0 s11.1.length),(4,.own 1 0 s11.2.1.length),(5,iV s11.2.2),(6,iV v14)],[(0,rI s11.1),(1,rI s11.2.1)],2⟩) (wkQ9 [(0,0),(1,1)]) ?_;refine Q4 ?_;refine Q4 ?_;refine runQ hN fun K hK=>?_;simp [-Q0,-Q6,-Q1,-Q7,-Q2];(repeat refine sdQ ?_);refine hK _ ?_;clear hK K;refine tn ?_;refine Q8 (st':=⟨[(0,lI labels_),(3,.own 0 0 s11.1.length),(4,.own 1 0 s11.2.1.length),(5,iV s11.2.2),(6,iV v14),(22,.val (.bool (decide (v14<0))))],[(0,rI s11.1),(1,rI s11.2.1)],2⟩) (wkQ9 [(0,0),(1,1)]) ?_;replace h:=bind_some h;obtain ⟨e15,h,h15⟩:=h;refine Qh (fun b15:List Int × Int=>⟨[(0,lI labels_),(3,.own 0 0 s11.1.length),(4,.own 1 0 b15.1.length),(5,iV s11.2.2),(6,iV b15.2)],[(0,rI s11.1),(1,rI b15.1)],2⟩) (fun b15=>b15=e15) ?_ ?_
   ·refine Qc rfl (fun g=>?_) fun g=>?_
    ·have g16:v14<0:=gQ;clear g;replace h:=if_l g16 h;refine Q4 ?_;refine runQ hN fun K hK=>?_;simp [-Q0,-Q6,-Q1,-Q7,-Q2];(repeat refine sdQ ?_);refine hK _ ?_;clear hK K;refine tn ?_;refine Q8 (st':=⟨[(0,lI labels_),(3,.own 0 0 s11.1.length),(4,.own 1 0 s11.2.1.length),(5,iV s11.2.2),(6,iV (s11.2.1.length:Int))],[(0,rI s11.1),(1,rI s11.2.1)],2⟩) (wkQ9 [(0,0),(1,1)]) ?_;refine runQ hN fun K hK=>?_;replace h:=Q5 h;obtain ⟨a17,h⟩:=h;replace h:=Q5 h;obtain ⟨a18,h⟩:=h;(try simp only [List.length_append,List.length_cons,List.length_nil] at a18);simp [-Q0,-Q6,-Q1,-Q7,-Q2,at_I a17,a18];(repeat refine sdQ ?_);refine hK _ ?_;clear hK K;exact jn (b:=(s11.2.1++[ix labels_ s11.2.2],(s11.2.1.length:Int))) (Option.some.inj h) (wkQ9 [(0,0),(3,1)])
    have g16:¬ (v14<0):=gQ;clear g;replace h:=if_r g16 h;refine Qd ?_;exact jn (b:=(s11.2.1,v14)) (Option.some.inj h) (wkQ9 [(0,0),(1,1)])
   intro b15 hb15;have h:=h15;(try rw [← hb15] at h);clear h15;(try dsimp only at h);refine runQ hN fun K hK=>?_;replace h:=Q5 h;obtain ⟨a19,h⟩:=h;(try simp only [List.length_append,List.length_cons,List.length_nil] at a19);simp [-Q0,-Q6,-Q1,-Q7,-Q2,a19];(repeat refine sdQ ?_);refine hK _ ?_;clear hK K;refine bn ?_;refine tn ?_;refine Q8 (st':=⟨[(0,lI labels_),(3,.own 0 0 ((s11.1++[b15.2]).length)),(4,.own 1 0 b15.1.length),(5,iV s11.2.2)],[(0,rI (s11.1++[b15.2])),(1,rI b15.1)],2⟩) (wkQ9 [(3,0),(1,1)]) ?_;refine runQ hN fun K hK=>?_;replace h:=Q5 h;obtain ⟨a20,h⟩:=h;simp [-Q0,-Q6,-Q1,-Q7,-Q2,Qp a20];(repeat refine sdQ ?_);refine hK _ ?_;clear hK K;cases h;exact rn (s':=(s11.1++[b15.2],b15.1,s11.2.2+1)) hk11 (wkQ9 [(0,0),(1,1)])
  have g12:¬ (s11.2.2<(labels_.length:Int)):=gQ;clear g;replace h:=if_r g12 h;refine Qj ?_;refine tx ?_;refine lx ?_;refine bh ?_;cases h;exact jn (b:=s11.1) hk11 (wkQ9 [(0,0)])
 intro b1 hb1;have h:=h1;try rw [← hb1] at h
 clear h1;try dsimp only at h
 refine Q4 ?_;refine runQ hN fun K hK=>?_;simp [-Q0,-Q6,-Q1,-Q7,-Q2];repeat refine sdQ ?_
 refine hK _ ?_;clear hK K;refine tn ?_;refine Q8 (st':=⟨[(2,.own 0 0 b1.length)],[(0,rI b1)],1⟩) (wkQ9 [(0,0)]) ?_;refine Qi ?_;have hr:=Option.some.inj h;rw [← hr];refine ⟨_,(.tmp .nil),?_⟩;refine ⟨(.one rfl rfl .nil),[lI b1],[0],by simp [UA,U1,IA,I1,LA,L1,BA,B1,EA,E1,E2,eB,eI,eL],by simp,(UpL.refl _)⟩
theorem Q67 {p:Nat→Prop} {y:Nat} (hp:p y):∀ i,y<i→∃ s,flt i p=flt y p++(y:Int) :: s:=by
 intro i
 induction i with
 | zero=>intro h;omega
 | succ i ih =>
  intro h
  by_cases q:y=i
  ·subst q;exact ⟨[],by rw [Q2l hp]⟩
  obtain ⟨s,e⟩:=ih (by omega)
  by_cases hi:p i
  ·exact ⟨s++[(i:Int)],by rw [Q2l hi,e];simp⟩
  exact ⟨s,by rw [Q1Q hi,e]⟩
noncomputable def cn (r:Nat→Nat) (k:Nat):Nat:=(flt k fun y=>r y=y).length
theorem cn_pos {r:Nat→Nat} {k:Nat} (h:r k=k):cn r (k+1)=cn r k+1:=by unfold cn;rw [Q2l (p:=fun y=>r y=y) h];simp
theorem cn_neg {r:Nat→Nat} {k:Nat} (h:¬ r k=k):cn r (k+1)=cn r k:=by unfold cn;rw [Q1Q (p:=fun y=>r y=y) h]
theorem Q8t (r:Nat→Nat) (k:Nat):cn r k≤k:=Q3q _ _
theorem cn_lt {r:Nat→Nat} {y i:Nat} (h:r y=y) (hi:y<i):cn r y<cn r i:=by
 obtain ⟨s,e⟩:=Q67 (p:=fun y=>r y=y) h i hi;unfold cn;rw [e];simp
noncomputable def cls (r:Nat→Nat) (n:Nat):List Int:=tab n fun x=>(cn r (r x):Int)
noncomputable def lds (r:Nat→Nat) (n:Nat):List Int:=flt n fun y=>r y=y
noncomputable def idxL (L:List Int) (v:Int):Int:=fstN L.length fun i=>ix L i=v
theorem Q2c {L:List Int} {v:Int} (hl:L.length≤1000000):QE L v=some (idxL L v):=by
 unfold QE;refine fstI L.length (fun i=>ix L i=v) (fun i=>Sum.inr i) (Sum.inl ()) (by omega) (fun i hi=>?_) (by rw [if_neg (by omega)]) ?_
 ·rw [if_pos (by omega),Q9 (by omega)]
  by_cases q:ix L i=v
  ·rw [if_pos q,QO q];rfl
  rw [if_neg q,QB q,Q9 (by unfold B64;omega)];rfl
 unfold idxL;rcases Q20 L.length (fun i=>ix L i=v) with ⟨e,_⟩|⟨k,_,_,e⟩
 ·rw [e];simp
 rw [e,if_pos (by omega)]
theorem e_index {L:List Int} {v:Int} (hl:L.length≤1000000):Q1v L v=some (idxL L v):=by
 unfold Q1v QK;rw [Option.bind_assoc];refine fstI L.length (fun i=>ix L i=v) (fun i=>Sum.inr i) (Sum.inl ()) (by omega) (fun i hi=>?_) (by rw [if_neg (by omega)]) ?_
 ·rw [if_pos (by omega),Q9 (by omega)]
  by_cases q:ix L i=v
  ·rw [if_pos q.symm,QO q];rfl
  rw [if_neg (fun e=>q e.symm),QB q,Q9 (by unfold B64;omega)];rfl
 unfold idxL;rcases Q20 L.length (fun i=>ix L i=v) with ⟨e,_⟩|⟨k,_,_,e⟩
 ·rw [e];simp
 rw [e,if_pos (by omega)];rfl
theorem idx_no {L:List Int} {v:Int} (h:v ∉ L):idxL L v = -1:=Q81 fun i hi e=>h (by rw [← e,← QN _ _ hi];exact List.getElem_mem hi)
theorem flt_lt {p:Nat→Prop} {n:Nat}:∀ x∈flt n p,0≤x∧x<(n:Int):=by
 intro x hx;obtain ⟨i,hi,_,rfl⟩:=mem_flt.1 hx;omega
theorem idx_flt {p:Nat→Prop} {y i:Nat} (hp:p y) (hi:y<i):idxL (flt i p) y=((flt y p).length:Int):=by
 obtain ⟨s,e⟩:=Q67 hp i hi;unfold idxL;refine Q6B (by rw [e];simp) ?_ fun k hk q=>?_
 ·rw [e];simp [ix,List.getD_eq_getElem?_getD]
 have hm:ix (flt i p) k∈flt y p:=by
  have:ix (flt i p) k=ix (flt y p) k:=by rw [e];simp [ix,List.getD_eq_getElem?_getD,List.getElem?_append_left hk]
  rw [this,← QN _ _ hk];exact List.getElem_mem hk
 have:=flt_lt _ hm;omega
theorem lds_mem {r:Nat→Nat} {n:Nat} {z:Int}:z∈lds r n↔∃ k:Nat,k<n∧r k=k∧z=(k:Int):=mem_flt
theorem seen_idx {L:List Int} {r:Nat→Nat} {n i:Nat} (hr:∀ x,x<n→r x≤x∧r (r x)=r x) (hq:∀ x y:Nat,x<n→y<n→(ix L x=ix L y↔r x=r y)) (hi:i<n):idxL ((lds r i).map (ix L)) (ix L i)=if r i=i then -1 else (cn r (r i):Int):=by
 have h:=hr i hi
 by_cases q:r i=i
 ·rw [if_pos q];refine idx_no fun z=>?_;obtain ⟨w,hw,e⟩:=List.mem_map.1 z;obtain ⟨k,hk,pk,rfl⟩:=lds_mem.1 hw;have:=(hq k i (by omega) hi).1 e;omega
 rw [if_neg q];obtain ⟨s,e⟩:=Q67 (p:=fun y=>r y=y) h.2 i (by omega);have e':lds r i=lds r (r i)++(r i:Int) :: s:=e;have l1:(lds r (r i)).length=cn r (r i):=rfl;unfold idxL;refine Q6B (by rw [e'];simp [l1]) ?_ fun k hk z=>?_
 ·have:ix ((lds r i).map (ix L)) (cn r (r i):Nat)=ix L (r i:Nat):=by
   rw [e',← l1];simp [ix,List.getD_eq_getElem?_getD]
  rw [this];exact (hq (r i) i (by omega) hi).2 h.2
 have hk':k<(lds r (r i)).length:=hk;have e2:ix ((lds r i).map (ix L)) k=ix L (ix (lds r (r i)) k):=by
  rw [e',List.map_append];simp only [ix,List.getD_eq_getElem?_getD,Int.toNat_natCast];rw [List.getElem?_append_left (by simpa using hk')];simp [hk',ix]
 obtain ⟨w,hw,pw,ew⟩:=lds_mem.1 (show ix (lds r (r i)) k∈lds r (r i) by rw [← QN _ _ hk'];exact List.getElem_mem hk');rw [e2,ew] at z;have:=(hq w i (by omega) hi).1 z;omega
theorem e_l01Cls {L:List Int} {r:Nat→Nat} {n:Nat} (hl:L.length=n) (hr:∀ x,x<n→r x≤x∧r (r x)=r x) (hq:∀ x y:Nat,x<n→y<n→(ix L x=ix L y↔r x=r y)) (hn:n≤1000):Q1w L=some (cls r n):=by
 unfold Q1w;refine Q5f (σ:=List Int × List Int × Int) n (fun i=>(cls r i,(lds r i).map (ix L),(i:Int))) rfl (by omega) (fun i hi=>?_) (e:=cls r n) ?_ rfl
 ·have h:=hr i hi;have l1:(lds r i).length=cn r i:=rfl;have l2:=Q8t r i;simp only;rw [if_pos (by omega),Q9 (by omega),Q2c (by simp;omega),seen_idx hr hq hi];simp only [Option.bind_some]
  by_cases q:r i=i
  ·rw [if_pos q,if_pos (by omega),Q9 (by omega),Q9 (by simp;omega)];simp only [Option.bind_some];rw [Q9 (by simp [cls];omega),Q9 (by unfold B64;omega)];have e2:cls r (i+1)=cls r i++[(((lds r i).map (ix L)).length:Int)]:=(by unfold cls;rw [Q19,q,List.length_map,l1]);have e3:(lds r (i+1)).map (ix L)=(lds r i).map (ix L)++[ix L i]:=(by unfold lds;rw [Q2l (p:=fun y=>r y=y) q];simp);rw [e2,e3];rfl
  rw [if_neg q,if_neg (by omega)];simp only [Option.bind_some];rw [Q9 (by simp [cls];omega),Q9 (by unfold B64;omega)];have e2:cls r (i+1)=cls r i++[(cn r (r i):Int)]:=by unfold cls;rw [Q19]
  have e3:lds r (i+1)=lds r i:=by unfold lds;rw [Q1Q (p:=fun y=>r y=y) q]
  rw [e2,e3];rfl
 simp only;rw [if_neg (by omega)]
theorem tset_new {α β:Type} [DecidableEq α] (k:α) (v:β):∀ m:List (α × β),Q29 k m=none→(tset k v m).length=m.length+1:=by
 intro m
 induction m with
 | nil=>intro _;rfl
 | cons p t ih =>
  intro h;obtain ⟨a,x⟩:=p;unfold Q29 at h;split at h
  ·cases h
  rename_i q;unfold tset;rw [if_neg q];simp [ih h]
theorem Q5O {α β:Type} [DecidableEq α] (k k':α) (v:β) (m:List (α × β)):Q29 k (tset k' v m)=if k'=k then some v else Q29 k m:=by
 induction m with
 | nil=>simp [tset,Q29]
 | cons p t ih =>
  obtain ⟨a,x⟩:=p;unfold tset;split
  ·rename_i h1;subst h1
   by_cases h2:a=k<;>simp [Q29,h2]
  rename_i h1;simp only [Q29,ih]
  by_cases h2:a=k
  ·subst h2;rw [if_pos rfl,if_neg (fun e=>h1 e.symm),if_pos rfl]
  rw [if_neg h2,if_neg h2]
theorem e_normal {r:Nat→Nat} {n:Nat} (hr:∀ x,x<n→r x≤x∧r (r x)=r x) (hn:n≤1000):Q2V (tab n fun x=>(r x:Int))=some (cls r n):=by
 unfold Q2V;rw [Q9 (by simp;omega)];refine Q1S (σ:=(List (Int × Int)) × List Int × Int) (Q:=fun z=>z=some (cls r n)) n (fun i s=>s.2=(cls r i++List.replicate (n - i) 0,(i:Int))∧s.1.length=cn r i∧(∀ y:Nat,y<i→r y=y→Q29 (y:Int) s.1=some (cn r y:Int))∧∀ y:Nat,i≤y→Q29 (y:Int) s.1=none) (fun e=>e=cls r n) (by omega) ⟨by simp [cls,Q8p],rfl,fun y hy=>by omega,fun y _=>rfl⟩ ?_ ?_ (fun e he=>by rw [he])
 ·rintro i ⟨m,L,j⟩ hi ⟨e,hm,h1,h2⟩
  simp only [Prod.mk.injEq] at e;obtain ⟨rfl,rfl⟩:=e;simp only at hm h1 h2;have h:=hr i hi;have l2:=Q8t r i;have ek:n - i=(n - (i+1))+1:=by omega
  simp only [Q2k];rw [if_pos (by omega),Q9 (by omega),Q59 _ _ hi]
  by_cases q:r i=i
  ·rw [q,if_pos (by rw [h2 i (Nat.le_refl _)];simp),Q9 (by omega)];simp only [Option.bind_some];rw [Q9 (by simp [cls];omega),Q9 (by unfold B64;omega)];refine .inl ⟨_,rfl,?_,?_,fun y hy hq=>?_,fun y hy=>?_⟩
   ·refine Prod.ext ?_ (by push_cast;rfl);simp only [Int.toNat_natCast];rw [ek,Q5g _ _ _ _ (by simp [cls])]
    congr 1
    unfold cls;rw [Q19,q,hm]
   ·simp only;rw [tset_new _ _ _ (h2 i (Nat.le_refl _)),cn_pos q,hm]
   ·simp only;rw [Q5O]
    by_cases z:i=y
    ·subst z;rw [if_pos rfl,hm]
    rw [if_neg (by omega)];exact h1 y (by omega) hq
   simp only;rw [Q5O,if_neg (by omega)];exact h2 y (by omega)
  have e:=h1 (r i) (by omega) h.2;rw [e,if_neg (by simp)];simp only [Option.bind_some,Option.getD_some];rw [Q9 (by simp [cls];omega),Q9 (by unfold B64;omega)];refine .inl ⟨_,rfl,?_,?_,fun y hy hq=>?_,fun y hy=>h2 y (by omega)⟩
  ·refine Prod.ext ?_ (by push_cast;rfl);simp only [Int.toNat_natCast];rw [ek,Q5g _ _ _ _ (by simp [cls])]
   congr 1
   unfold cls;rw [Q19]
  ·simp only;rw [cn_neg q,hm]
  have:y ≠ i:=fun z=>q (by rw [← z];exact hq);exact h1 y (by omega) hq
 rintro ⟨m,L,j⟩ ⟨e,hm,h1,h2⟩
 simp only [Prod.mk.injEq] at e;obtain ⟨rfl,rfl⟩:=e;simp only [Q2k];rw [if_neg (by omega)];exact ⟨_,rfl,by simp⟩
theorem e_leaders {r:Nat→Nat} {n:Nat} (hr:∀ x,x<n→r x≤x∧r (r x)=r x) (hn:n≤1000):Qy (cls r n)=some (lds r n):=by
 unfold Qy;have l0:(cls r n).length=n:=by simp [cls]
 refine Q1G n (fun i=>lds r i) (e:=lds r n) rfl (by omega) (fun i hi=>?_) (by simp only;rw [if_neg (by omega)]) rfl;have h:=hr i hi;have l1:(lds r i).length=cn r i:=rfl;have l2:=Q8t r i;have e:ix (cls r n) i=(cn r (r i):Int):=Q59 n _ hi;simp only;rw [if_pos (by omega),Q9 (by omega),e]
 by_cases q:r i=i
 ·rw [if_pos (by rw [q,l1]),Q9 (by simp;omega)];simp only [Option.bind_some];rw [Q9 (by unfold B64;omega)];unfold lds;rw [Q2l (p:=fun y=>r y=y) q]
 have:=cn_lt (r:=r) h.2 (show r i<i by omega);rw [if_neg (by omega)];simp only [Option.bind_some];rw [Q9 (by unfold B64;omega)];unfold lds;rw [Q1Q (p:=fun y=>r y=y) q]
attribute [local simp] eL eI Qn
noncomputable def Q2D (n_:Int):Option (List Int) :=
 (Q2t n_).bind fun v1 =>
 some v1
theorem Q77 (n_:Int) (r:List Int) (h:Q2D n_=some r):Contract Try.prog 173 [iV n_] (lI r):=by
 refine Qe (rvs:=[.tmp 2]) (rs:=[lI r]) Try.func173 rfl rfl rfl rfl (by simp [Try.f173]) fun F hN hP=>?_;unfold Q2D at h;refine Q4 ?_;refine runQ hN fun K hK=>?_;simp [-Q0,-Q6,-Q1,-Q7,-Q2];repeat refine sdQ ?_
 refine hK _ ?_;clear hK K;refine tn ?_;refine Q8 (st':=⟨[(0,iV n_)],[],0⟩) (wkQ9 []) ?_;refine Q4 ?_;refine runQ hN fun K hK=>?_;simp [-Q0,-Q6,-Q1,-Q7,-Q2];repeat with_reducible refine sdQ ?_
 replace h:=bind_some h;obtain ⟨v1,hv1,h⟩:=h;refine Q3 (Q7K _ v1 hv1) (.cons .val .nil) ?_;simp [-Q0,-Q6,-Q1,-Q7,-Q2,unk,unA,unE,unT,unC,flat];repeat refine sdQ ?_
 refine hK _ ?_;clear hK K;refine tn ?_;refine Q8 (st':=⟨[(2,.own 0 0 v1.length)],[(0,rI v1)],1⟩) (wkQ9 [(0,0)]) ?_;refine Qi ?_;have hr:=Option.some.inj h;rw [← hr];refine ⟨_,(.tmp .nil),?_⟩;refine ⟨(.one rfl rfl .nil),[lI v1],[0],by simp [UA,U1,IA,I1,LA,L1,BA,B1,EA,E1,E2,eB,eI,eL],by simp,(UpL.refl _)⟩
attribute [local simp] eL eI Qn QC Cat.cells
noncomputable def Qx (c_:Cat):Option (List Int) :=
 (Q2D c_.n).bind fun v1 =>
 (Qv (σ:=List Int × Int) (ε:=List Int) (fun s50 =>
  if s50.2<(c_.fr.length:Int) then
   (
    (QA c_ s50.2).bind fun v53 =>
    if v53 ≥ 0 then
     ass (0≤s50.2∧s50.2<(c_.fr.length:Int)) <|
     ass (0≤s50.2∧s50.2<(c_.to.length:Int)) <|
     (
      (
       (Qv (σ:=List Int × Int) (ε:=List Int × Int) (fun s67 =>
        ass (0≤s67.2∧s67.2<(s67.1.length:Int)) <|
        if ¬ ((ix s67.1 s67.2)=s67.2) then
         ass (0≤s67.2∧s67.2<(s67.1.length:Int)) <|
         ass (0≤ix s67.1 s67.2∧ix s67.1 s67.2<(s67.1.length:Int)) <|
         ass (0≤s67.2∧s67.2<(s67.1.length:Int)) <|
         ass (0≤s67.2∧s67.2<((s67.1.set s67.2.toNat (ix s67.1 (ix s67.1 s67.2))).length:Int)) <|
         some (Ctl.next (s67.1.set s67.2.toNat (ix s67.1 (ix s67.1 s67.2)),ix (s67.1.set s67.2.toNat (ix s67.1 (ix s67.1 s67.2))) s67.2))
        else
         some (Ctl.ret (s67.1,s67.2))) fuel (s50.1,ix c_.fr s50.2)).bind fun b59 =>
       some (b59.1,b59.2):Option (List Int × Int)).bind fun v74 =>
      ass (v74.1.length=s50.1.length) <|
      (
       (Qv (σ:=List Int × Int) (ε:=List Int × Int) (fun s85 =>
        ass (0≤s85.2∧s85.2<(s85.1.length:Int)) <|
        if ¬ ((ix s85.1 s85.2)=s85.2) then
         ass (0≤s85.2∧s85.2<(s85.1.length:Int)) <|
         ass (0≤ix s85.1 s85.2∧ix s85.1 s85.2<(s85.1.length:Int)) <|
         ass (0≤s85.2∧s85.2<(s85.1.length:Int)) <|
         ass (0≤s85.2∧s85.2<((s85.1.set s85.2.toNat (ix s85.1 (ix s85.1 s85.2))).length:Int)) <|
         some (Ctl.next (s85.1.set s85.2.toNat (ix s85.1 (ix s85.1 s85.2)),ix (s85.1.set s85.2.toNat (ix s85.1 (ix s85.1 s85.2))) s85.2))
        else
         some (Ctl.ret (s85.1,s85.2))) fuel (v74.1,ix c_.to s50.2)).bind fun b77 =>
       some (b77.1,b77.2):Option (List Int × Int)).bind fun v92 =>
      ass (v92.1.length=v74.1.length) <|
      ass (0≤(if v92.2 > v74.2 then v92.2 else v74.2)∧(if v92.2 > v74.2 then v92.2 else v74.2)<(v92.1.length:Int)) <|
      some (v92.1.set ((if v92.2 > v74.2 then v92.2 else v74.2).toNat) (if v92.2<v74.2 then v92.2 else v74.2),v74.2 != v92.2):Option (List Int × Bool)).bind fun v95 =>
     ass (v95.1.length=s50.1.length) <|
     some v95.1
    else
     some s50.1:Option (List Int)).bind fun b52 =>
   ass (B64 (s50.2+1)) <|
   some (Ctl.next (b52,s50.2+1))
  else
   some (Ctl.ret s50.1)) fuel (v1,0)).bind fun b2 =>
 (
  ass (0≤(b2.length:Int)∧(b2.length:Int)≤1073741824) <|
  (Qv (σ:=List Int × List Int × Int) (ε:=List Int × List Int) (fun s122 =>
   if s122.2.2<(b2.length:Int) then
    (
     (Qv (σ:=List Int × Int) (ε:=List Int × Int) (fun s133 =>
      ass (0≤s133.2∧s133.2<(s133.1.length:Int)) <|
      if ¬ ((ix s133.1 s133.2)=s133.2) then
       ass (0≤s133.2∧s133.2<(s133.1.length:Int)) <|
       ass (0≤ix s133.1 s133.2∧ix s133.1 s133.2<(s133.1.length:Int)) <|
       ass (0≤s133.2∧s133.2<(s133.1.length:Int)) <|
       ass (0≤s133.2∧s133.2<((s133.1.set s133.2.toNat (ix s133.1 (ix s133.1 s133.2))).length:Int)) <|
       some (Ctl.next (s133.1.set s133.2.toNat (ix s133.1 (ix s133.1 s133.2)),ix (s133.1.set s133.2.toNat (ix s133.1 (ix s133.1 s133.2))) s133.2))
      else
       some (Ctl.ret (s133.1,s133.2))) fuel (s122.1,s122.2.2)).bind fun b125 =>
     some (b125.1,b125.2):Option (List Int × Int)).bind fun v140 =>
    ass (v140.1.length=s122.1.length) <|
    ass (0≤s122.2.2∧s122.2.2<(s122.2.1.length:Int)) <|
    ass (B64 (s122.2.2+1)) <|
    some (Ctl.next (v140.1,s122.2.1.set s122.2.2.toNat v140.2,s122.2.2+1))
   else
    some (Ctl.ret (s122.1,s122.2.1))) fuel (b2,List.replicate ((b2.length:Int).toNat) 0,0)).bind fun b100 =>
  (Q2V b100.2).bind fun v144 =>
  some (b100.1,v144):Option (List Int × List Int)).bind fun v145 =>
 ass (v145.1.length=b2.length) <|
 some v145.2
theorem Q1f (c_:Cat) (r:List Int) (h:Qx c_=some r):Contract Try.prog 160 [.rptr (c_.cells true)] (lI r):=by
 refine Qe (rvs:=[.tmp 2]) (rs:=[lI r]) Try.func160 rfl rfl rfl rfl (by simp [Try.f160]) fun F hN hP=>?_;unfold Qx at h;refine Q4 ?_;refine runQ hN fun K hK=>?_;simp [-Q0,-Q6,-Q1,-Q7,-Q2];repeat refine sdQ ?_
 refine hK _ ?_;clear hK K;refine tn ?_;refine Q8 (st':=⟨[(0,.rptr (Cat.cells true c_))],[],0⟩) (wkQ9 []) ?_;refine Q4 ?_;refine runQ hN fun K hK=>?_;simp [-Q0,-Q6,-Q1,-Q7,-Q2];repeat with_reducible refine sdQ ?_
 replace h:=bind_some h;obtain ⟨v1,hv1,h⟩:=h;refine Q3 (Q77 _ v1 hv1) (.cons .val .nil) ?_;simp [-Q0,-Q6,-Q1,-Q7,-Q2,unk,unA,unE,unT,unC,flat];repeat refine sdQ ?_
 refine hK _ ?_;clear hK K;refine tn ?_;refine Q8 (st':=⟨[(0,.rptr (Cat.cells true c_)),(3,.own 0 0 v1.length)],[(0,rI v1)],1⟩) (wkQ9 [(0,0)]) ?_;refine Q4 ?_;refine Q4 ?_;refine runQ hN fun K hK=>?_;simp [-Q0,-Q6,-Q1,-Q7,-Q2];repeat refine sdQ ?_
 refine hK _ ?_;clear hK K;refine tn ?_;refine Q8 (st':=⟨[(0,.rptr (Cat.cells true c_)),(3,.own 0 0 v1.length),(14,iV (c_.fr.length:Int)),(15,iV 0)],[(0,rI v1)],1⟩) (wkQ9 [(0,0)]) ?_;replace h:=bind_some h;obtain ⟨e2,h,h2⟩:=h;refine Qh (fun b2:List Int=>⟨[(3,.own 0 0 b2.length)],[(0,rI b2)],1⟩) (fun b2=>b2=e2) ?_ ?_
 ·refine Qa ?_;refine Qs h (fun s50:List Int × Int=>⟨[(0,.rptr (Cat.cells true c_)),(3,.own 0 0 s50.1.length),(14,iV (c_.fr.length:Int)),(15,iV s50.2)],[(0,rI s50.1)],1⟩) (wkQ9 [(0,0)]) ?_;clear h;intro k50 s50 c50 h hk50;refine Q4 ?_;refine runQ hN fun K hK=>?_;simp [-Q0,-Q6,-Q1,-Q7,-Q2];repeat refine sdQ ?_
  refine hK _ ?_;clear hK K;refine tn ?_;refine Q8 (st':=⟨[(0,.rptr (Cat.cells true c_)),(3,.own 0 0 s50.1.length),(14,iV (c_.fr.length:Int)),(15,iV s50.2),(16,.val (.bool (decide (s50.2<(c_.fr.length:Int)))))],[(0,rI s50.1)],1⟩) (wkQ9 [(0,0)]) ?_;refine Q4 ?_;refine Qc rfl (fun g=>?_) fun g=>?_
  ·have g51:s50.2<(c_.fr.length:Int):=gQ;clear g;replace h:=if_l g51 h;refine Qd ?_;refine tn ?_;refine Q4 ?_;replace h:=bind_some h;obtain ⟨e52,h,h52⟩:=h;refine Qh (fun b52:List Int=>⟨[(0,.rptr (Cat.cells true c_)),(3,.own 0 0 b52.length),(14,iV (c_.fr.length:Int)),(15,iV s50.2)],[(0,rI b52)],1⟩) (fun b52=>b52=e52) ?_ ?_
   ·refine Qa ?_;refine Q4 ?_;refine runQ hN fun K hK=>?_;simp [-Q0,-Q6,-Q1,-Q7,-Q2];(repeat refine sdQ ?_);refine hK _ ?_;clear hK K;refine tn ?_;refine Q8 (st':=⟨[(0,.rptr (Cat.cells true c_)),(3,.own 0 0 s50.1.length),(4,iV s50.2),(14,iV (c_.fr.length:Int)),(15,iV s50.2)],[(0,rI s50.1)],1⟩) (wkQ9 [(0,0)]) ?_;refine Q4 ?_;refine runQ hN fun K hK=>?_;simp [-Q0,-Q6,-Q1,-Q7,-Q2];(repeat with_reducible refine sdQ ?_);replace h:=bind_some h;obtain ⟨v53,hv53,h⟩:=h;refine Q3 (Q1t _ _ v53 hv53) (.cons (.preT (by simp [Cat.cells])) (.cons .val .nil)) ?_;simp [-Q0,-Q6,-Q1,-Q7,-Q2,unk,unA,unE,unT,unC,flat];(repeat refine sdQ ?_);refine hK _ ?_;clear hK K;refine tn ?_;refine Q8 (st':=⟨[(0,.rptr (Cat.cells true c_)),(3,.own 0 0 s50.1.length),(4,iV s50.2),(14,iV (c_.fr.length:Int)),(15,iV s50.2),(21,.val (.bool (decide (v53 ≥ 0))))],[(0,rI s50.1)],1⟩) (wkQ9 [(0,0)]) ?_;refine Qc rfl (fun g=>?_) fun g=>?_
    ·have g54:v53 ≥ 0:=gQ;clear g;replace h:=if_l g54 h;refine Q6l [] mo (by rw [hN];decide) fun K hK=>?_;replace h:=Q5 h;obtain ⟨a55,h⟩:=h;replace h:=Q5 h;obtain ⟨a56,h⟩:=h;simp [-Q0,-Q6,-Q1,-Q7,-Q2,at_I a55,at_I a56];(repeat with_reducible refine sdQ ?_);replace h:=bind_some h;obtain ⟨v95,hv95,h⟩:=h;refine Q47 (fz:=[]) (Q2o (ts:=[6]) (e:={ v:=.val (.bool v95.2),set:=[(0,rI v95.1)],del:=[],new:=[],cnt:=0 }) Try.func174 rfl rfl rfl (by simp [Try.f174]) (by simp) (fineI (by simp)) (newI (by rfl)) fun F hN hP=>?_) ?_
     ·clear h;have h:=hv95;clear hv95;refine Q4 ?_;refine Q13 [] mo (by rw [hN];decide) fun K hK=>?_;simp [-Q0,-Q6,-Q1,-Q7,-Q2];(repeat refine sdQ ?_);refine hK _ ?_;clear hK K;refine tn ?_;refine Q8 (st':=⟨[(0,.own 0 0 s50.1.length),(1,iV (ix c_.fr s50.2)),(2,iV (ix c_.to s50.2))],[(0,rI s50.1)],1⟩) (Wk.rP _ [(0,0)] hP (by rfl) (by simp [hhOk,back,Cat.cells,UA,U1,IA,I1,LA,L1,BA,B1,EA,E1,E2,eB,eI,eL])) ?_;refine Q4 ?_;refine Q6l [] mo (by rw [hN];decide) fun K hK=>?_;simp [-Q0,-Q6,-Q1,-Q7,-Q2];(repeat with_reducible refine sdQ ?_);replace h:=bind_some h;obtain ⟨v74,hv74,h⟩:=h;refine Q47 (fz:=[]) (Q2o (ts:=[4]) (e:={ v:=.val (.int .i64 v74.2),set:=[(0,rI v74.1)],del:=[],new:=[],cnt:=0 }) Try.func175 rfl rfl rfl (by simp [Try.f175]) (by simp) (fineI (by simp)) (newI (by rfl)) fun F hN hP=>?_) ?_
      ·clear h;have h:=hv74;clear hv74;refine Q4 ?_;refine Q13 [] mo (by rw [hN];decide) fun K hK=>?_;simp [-Q0,-Q6,-Q1,-Q7,-Q2];(repeat refine sdQ ?_);refine hK _ ?_;clear hK K;refine tn ?_;refine Q8 (st':=⟨[(0,.own 0 0 s50.1.length),(1,iV (ix c_.fr s50.2))],[(0,rI s50.1)],1⟩) (Wk.rP _ [(0,0)] hP (by rfl) (by simp [hhOk,back,Cat.cells,UA,U1,IA,I1,LA,L1,BA,B1,EA,E1,E2,eB,eI,eL])) ?_;refine Q4 ?_;replace h:=bind_some h;obtain ⟨e59,h,h59⟩:=h;refine Qh (fun b59:List Int × Int=>⟨[(1,iV b59.2)],[(0,rI b59.1)],1⟩) (fun b59=>b59=e59) ?_ ?_
       ·refine Qa ?_;refine Qs h (fun s67:List Int × Int=>⟨[(0,.own 0 0 s67.1.length),(1,iV s67.2)],[(0,rI s67.1)],1⟩) (Wk.rP _ [(0,0)] hP (by rfl) (by simp [hhOk,back,Cat.cells,UA,U1,IA,I1,LA,L1,BA,B1,EA,E1,E2,eB,eI,eL])) ?_;clear h;intro k67 s67 c67 h hk67;refine Q4 ?_;refine Q4 ?_;refine Q13 [] mo (by rw [hN];decide) fun K hK=>?_;replace h:=Q5 h;obtain ⟨a68,h⟩:=h;simp [-Q0,-Q6,-Q1,-Q7,-Q2,at_I a68];(repeat refine sdQ ?_);refine hK _ ?_;clear hK K;refine tn ?_;refine Q8 (st':=⟨[(0,.own 0 0 s67.1.length),(1,iV s67.2),(10,.val (.bool ((ix s67.1 s67.2) != s67.2)))],[(0,rI s67.1)],1⟩) (Wk.rP _ [(0,0)] hP (by rfl) (by simp [hhOk,back,Cat.cells,UA,U1,IA,I1,LA,L1,BA,B1,EA,E1,E2,eB,eI,eL])) ?_;refine Qc rfl (fun g=>?_) fun g=>?_
        ·have g69:¬ ((ix s67.1 s67.2)=s67.2):=gQ;clear g;replace h:=if_l g69 h;refine Qd ?_;refine tn ?_;refine Qa ?_;refine Q4 ?_;refine Q13 [] mo (by rw [hN];decide) fun K hK=>?_;replace h:=Q5 h;obtain ⟨a70,h⟩:=h;replace h:=Q5 h;obtain ⟨a71,h⟩:=h;replace h:=Q5 h;obtain ⟨a72,h⟩:=h;simp [-Q0,-Q6,-Q1,-Q7,-Q2,at_I a70,at_I a71,at_I a72];(repeat refine sdQ ?_);refine hK _ ?_;clear hK K;refine tn ?_;refine Q8 (st':=⟨[(0,.own 0 0 ((s67.1.set s67.2.toNat (ix s67.1 (ix s67.1 s67.2))).length)),(1,iV s67.2)],[(0,rI (s67.1.set s67.2.toNat (ix s67.1 (ix s67.1 s67.2))))],1⟩) (Wk.rP _ [(0,0)] hP (by rfl) (by simp [hhOk,back,Cat.cells,UA,U1,IA,I1,LA,L1,BA,B1,EA,E1,E2,eB,eI,eL])) ?_;refine Q13 [] mo (by rw [hN];decide) fun K hK=>?_;replace h:=Q5 h;obtain ⟨a73,h⟩:=h;simp [-Q0,-Q6,-Q1,-Q7,-Q2,at_I a73];(repeat refine sdQ ?_);refine hK _ ?_;clear hK K;refine bn ?_;cases h;exact rn (s':=(s67.1.set s67.2.toNat (ix s67.1 (ix s67.1 s67.2)),ix (s67.1.set s67.2.toNat (ix s67.1 (ix s67.1 s67.2))) s67.2)) hk67 (Wk.rP _ [(0,0)] hP (by rfl) (by simp [hhOk,back,Cat.cells,UA,U1,IA,I1,LA,L1,BA,B1,EA,E1,E2,eB,eI,eL]))
        have g69:¬ (¬ ((ix s67.1 s67.2)=s67.2)):=gQ;clear g;replace h:=if_r g69 h;refine Qj ?_;refine tx ?_;refine lx ?_;refine bh ?_;cases h;exact jn (b:=(s67.1,s67.2)) hk67 (Wk.rP _ [(0,0)] hP (by rfl) (by simp [hhOk,back,Cat.cells,UA,U1,IA,I1,LA,L1,BA,B1,EA,E1,E2,eB,eI,eL]))
       intro b59 hb59;have h:=h59;(try rw [← hb59] at h);clear h59;(try dsimp only at h);refine Q4 ?_;refine Q13 [] mo (by rw [hN];decide) fun K hK=>?_;simp [-Q0,-Q6,-Q1,-Q7,-Q2];(repeat refine sdQ ?_);refine hK _ ?_;clear hK K;refine tn ?_;refine Q8 (st':=⟨[(4,iV b59.2)],[(0,rI b59.1)],1⟩) (Wk.rP _ [(0,0)] hP (by rfl) (by simp [hhOk,back,Cat.cells,UA,U1,IA,I1,LA,L1,BA,B1,EA,E1,E2,eB,eI,eL])) ?_;refine Qi ?_;cases h;first|refine iw_r (st':=⟨[(4,iV b59.2)],[(0,rI b59.1)],1⟩) ?_ ?_|refine iw_n (st':=⟨[(4,iV b59.2)],[(0,rI b59.1)],1⟩) ?_ ?_
       ·exact Wk.rP _ [(0,0)] hP (by rfl) (by simp [hhOk,back,Cat.cells,UA,U1,IA,I1,LA,L1,BA,B1,EA,E1,E2,eB,eI,eL])
       exact ⟨by simp [Q1s],by simp,by simp [Cat.cells]⟩
      replace h:=Q5 h;obtain ⟨a75,h⟩:=h;simp [-Q0,-Q6,-Q1,-Q7,-Q2,unk,unA,unE,unT,unC,flat];(repeat with_reducible refine sdQ ?_);replace h:=bind_some h;obtain ⟨v92,hv92,h⟩:=h;refine Q47 (fz:=[]) (Q2o (ts:=[4]) (e:={ v:=.val (.int .i64 v92.2),set:=[(0,rI v92.1)],del:=[],new:=[],cnt:=0 }) Try.func175 rfl rfl rfl (by simp [Try.f175]) (by simp) (fineI (by simp)) (newI (by rfl)) fun F hN hP=>?_) ?_
      ·clear h;have h:=hv92;clear hv92;refine Q4 ?_;refine Q13 [] mo (by rw [hN];decide) fun K hK=>?_;simp [-Q0,-Q6,-Q1,-Q7,-Q2];(repeat refine sdQ ?_);refine hK _ ?_;clear hK K;refine tn ?_;refine Q8 (st':=⟨[(0,.own 0 0 v74.1.length),(1,iV (ix c_.to s50.2))],[(0,rI v74.1)],1⟩) (Wk.rP _ [(0,0)] hP (by rfl) (by simp [hhOk,back,Cat.cells,UA,U1,IA,I1,LA,L1,BA,B1,EA,E1,E2,eB,eI,eL,a75])) ?_;refine Q4 ?_;replace h:=bind_some h;obtain ⟨e77,h,h77⟩:=h;refine Qh (fun b77:List Int × Int=>⟨[(1,iV b77.2)],[(0,rI b77.1)],1⟩) (fun b77=>b77=e77) ?_ ?_
       ·refine Qa ?_;refine Qs h (fun s85:List Int × Int=>⟨[(0,.own 0 0 s85.1.length),(1,iV s85.2)],[(0,rI s85.1)],1⟩) (Wk.rP _ [(0,0)] hP (by rfl) (by simp [hhOk,back,Cat.cells,UA,U1,IA,I1,LA,L1,BA,B1,EA,E1,E2,eB,eI,eL,a75])) ?_;clear h;intro k85 s85 c85 h hk85;refine Q4 ?_;refine Q4 ?_;refine Q13 [] mo (by rw [hN];decide) fun K hK=>?_;replace h:=Q5 h;obtain ⟨a86,h⟩:=h;simp [-Q0,-Q6,-Q1,-Q7,-Q2,at_I a86];(repeat refine sdQ ?_);refine hK _ ?_;clear hK K;refine tn ?_;refine Q8 (st':=⟨[(0,.own 0 0 s85.1.length),(1,iV s85.2),(10,.val (.bool ((ix s85.1 s85.2) != s85.2)))],[(0,rI s85.1)],1⟩) (Wk.rP _ [(0,0)] hP (by rfl) (by simp [hhOk,back,Cat.cells,UA,U1,IA,I1,LA,L1,BA,B1,EA,E1,E2,eB,eI,eL,a75])) ?_;refine Qc rfl (fun g=>?_) fun g=>?_
        ·have g87:¬ ((ix s85.1 s85.2)=s85.2):=gQ;clear g;replace h:=if_l g87 h;refine Qd ?_;refine tn ?_;refine Qa ?_;refine Q4 ?_;refine Q13 [] mo (by rw [hN];decide) fun K hK=>?_;replace h:=Q5 h;obtain ⟨a88,h⟩:=h;replace h:=Q5 h;obtain ⟨a89,h⟩:=h;replace h:=Q5 h;obtain ⟨a90,h⟩:=h;simp [-Q0,-Q6,-Q1,-Q7,-Q2,at_I a88,at_I a89,at_I a90];(repeat refine sdQ ?_);refine hK _ ?_;clear hK K;refine tn ?_;refine Q8 (st':=⟨[(0,.own 0 0 ((s85.1.set s85.2.toNat (ix s85.1 (ix s85.1 s85.2))).length)),(1,iV s85.2)],[(0,rI (s85.1.set s85.2.toNat (ix s85.1 (ix s85.1 s85.2))))],1⟩) (Wk.rP _ [(0,0)] hP (by rfl) (by simp [hhOk,back,Cat.cells,UA,U1,IA,I1,LA,L1,BA,B1,EA,E1,E2,eB,eI,eL,a75])) ?_;refine Q13 [] mo (by rw [hN];decide) fun K hK=>?_;replace h:=Q5 h;obtain ⟨a91,h⟩:=h;simp [-Q0,-Q6,-Q1,-Q7,-Q2,at_I a91];(repeat refine sdQ ?_);refine hK _ ?_;clear hK K;refine bn ?_;cases h;exact rn (s':=(s85.1.set s85.2.toNat (ix s85.1 (ix s85.1 s85.2)),ix (s85.1.set s85.2.toNat (ix s85.1 (ix s85.1 s85.2))) s85.2)) hk85 (Wk.rP _ [(0,0)] hP (by rfl) (by simp [hhOk,back,Cat.cells,UA,U1,IA,I1,LA,L1,BA,B1,EA,E1,E2,eB,eI,eL,a75]))
        have g87:¬ (¬ ((ix s85.1 s85.2)=s85.2)):=gQ;clear g;replace h:=if_r g87 h;refine Qj ?_;refine tx ?_;refine lx ?_;refine bh ?_;cases h;exact jn (b:=(s85.1,s85.2)) hk85 (Wk.rP _ [(0,0)] hP (by rfl) (by simp [hhOk,back,Cat.cells,UA,U1,IA,I1,LA,L1,BA,B1,EA,E1,E2,eB,eI,eL,a75]))
       intro b77 hb77;have h:=h77;(try rw [← hb77] at h);clear h77;(try dsimp only at h);refine Q4 ?_;refine Q13 [] mo (by rw [hN];decide) fun K hK=>?_;simp [-Q0,-Q6,-Q1,-Q7,-Q2];(repeat refine sdQ ?_);refine hK _ ?_;clear hK K;refine tn ?_;refine Q8 (st':=⟨[(4,iV b77.2)],[(0,rI b77.1)],1⟩) (Wk.rP _ [(0,0)] hP (by rfl) (by simp [hhOk,back,Cat.cells,UA,U1,IA,I1,LA,L1,BA,B1,EA,E1,E2,eB,eI,eL,a75])) ?_;refine Qi ?_;cases h;first|refine iw_r (st':=⟨[(4,iV b77.2)],[(0,rI b77.1)],1⟩) ?_ ?_|refine iw_n (st':=⟨[(4,iV b77.2)],[(0,rI b77.1)],1⟩) ?_ ?_
       ·exact Wk.rP _ [(0,0)] hP (by rfl) (by simp [hhOk,back,Cat.cells,UA,U1,IA,I1,LA,L1,BA,B1,EA,E1,E2,eB,eI,eL,a75])
       exact ⟨by simp [Q1s],by simp,by simp [Cat.cells]⟩
      replace h:=Q5 h;obtain ⟨a93,h⟩:=h;simp [-Q0,-Q6,-Q1,-Q7,-Q2,unk,unA,unE,unT,unC,flat];(repeat refine sdQ ?_);refine hK _ ?_;clear hK K;refine tn ?_;refine Q8 (st':=⟨[(0,.own 0 0 v92.1.length),(7,iV v74.2),(8,iV v92.2)],[(0,rI v92.1)],1⟩) (Wk.rP _ [(0,0)] hP (by rfl) (by simp [hhOk,back,Cat.cells,UA,U1,IA,I1,LA,L1,BA,B1,EA,E1,E2,eB,eI,eL,a75,a93])) ?_;refine Q4 ?_;refine Q13 [] mo (by rw [hN];decide) fun K hK=>?_;replace h:=Q5 h;obtain ⟨a94,h⟩:=h;simp [-Q0,-Q6,-Q1,-Q7,-Q2,at_I a94];(repeat refine sdQ ?_);refine hK _ ?_;clear hK K;refine tn ?_;refine Q8 (st':=⟨[(7,iV v74.2),(8,iV v92.2)],[(0,rI (v92.1.set ((if v92.2 > v74.2 then v92.2 else v74.2).toNat) (if v92.2<v74.2 then v92.2 else v74.2)))],1⟩) (Wk.rP _ [(0,0)] hP (by rfl) (by simp [hhOk,back,Cat.cells,UA,U1,IA,I1,LA,L1,BA,B1,EA,E1,E2,eB,eI,eL,a75,a93])) ?_;refine Q4 ?_;refine Q13 [] mo (by rw [hN];decide) fun K hK=>?_;simp [-Q0,-Q6,-Q1,-Q7,-Q2];(repeat refine sdQ ?_);refine hK _ ?_;clear hK K;refine tn ?_;refine Q8 (st':=⟨[(6,.val (.bool (v74.2 != v92.2)))],[(0,rI (v92.1.set ((if v92.2 > v74.2 then v92.2 else v74.2).toNat) (if v92.2<v74.2 then v92.2 else v74.2)))],1⟩) (Wk.rP _ [(0,0)] hP (by rfl) (by simp [hhOk,back,Cat.cells,UA,U1,IA,I1,LA,L1,BA,B1,EA,E1,E2,eB,eI,eL,a75,a93])) ?_;refine Qi ?_;cases h;first|refine iw_r (st':=⟨[(6,.val (.bool (v74.2 != v92.2)))],[(0,rI (v92.1.set ((if v92.2 > v74.2 then v92.2 else v74.2).toNat) (if v92.2<v74.2 then v92.2 else v74.2)))],1⟩) ?_ ?_|refine iw_n (st':=⟨[(6,.val (.bool (v74.2 != v92.2)))],[(0,rI (v92.1.set ((if v92.2 > v74.2 then v92.2 else v74.2).toNat) (if v92.2<v74.2 then v92.2 else v74.2)))],1⟩) ?_ ?_
      ·exact Wk.rP _ [(0,0)] hP (by rfl) (by simp [hhOk,back,Cat.cells,UA,U1,IA,I1,LA,L1,BA,B1,EA,E1,E2,eB,eI,eL,a75,a93])
      exact ⟨by simp [Q1s],by simp,by simp [Cat.cells]⟩
     replace h:=Q5 h;obtain ⟨a96,h⟩:=h;simp [-Q0,-Q6,-Q1,-Q7,-Q2,unk,unA,unE,unT,unC,flat];(repeat refine sdQ ?_);refine hK _ ?_;clear hK K;refine bn ?_;exact jn (b:=v95.1) (Option.some.inj h) (Wk.r1 [(0,0)] (by simp [hP,hhOk,back,Cat.cells,UA,U1,IA,I1,LA,L1,BA,B1,EA,E1,E2,eB,eI,eL,a96]))
    have g54:¬ (v53 ≥ 0):=gQ;clear g;replace h:=if_r g54 h;refine Qd ?_;refine bn ?_;exact jn (b:=s50.1) (Option.some.inj h) (wkQ9 [(0,0)])
   intro b52 hb52;have h:=h52;(try rw [← hb52] at h);clear h52;(try dsimp only at h);refine runQ hN fun K hK=>?_;replace h:=Q5 h;obtain ⟨a97,h⟩:=h;simp [-Q0,-Q6,-Q1,-Q7,-Q2,Qp a97];(repeat refine sdQ ?_);refine hK _ ?_;clear hK K;cases h;exact rn (s':=(b52,s50.2+1)) hk50 (wkQ9 [(0,0)])
  have g51:¬ (s50.2<(c_.fr.length:Int)):=gQ;clear g;replace h:=if_r g51 h;refine Qj ?_;refine tx ?_;refine lx ?_;refine bh ?_;cases h;exact jn (b:=s50.1) hk50 (wkQ9 [(0,0)])
 intro b2 hb2;have h:=h2;try rw [← hb2] at h
 clear h2;try dsimp only at h
 refine Q4 ?_;refine Q6l [] mo (by rw [hN];decide) fun K hK=>?_;simp [-Q0,-Q6,-Q1,-Q7,-Q2];repeat with_reducible refine sdQ ?_
 replace h:=bind_some h;obtain ⟨v145,hv145,h⟩:=h;refine Q47 (fz:=[]) (Q2o (ts:=[2]) (e:={ v:=.own 1 0 v145.2.length,set:=[(0,rI v145.1)],del:=[],new:=[(1,rI v145.2)],cnt:=1 }) Try.func205 rfl rfl rfl (by simp [Try.f205]) (by simp) (fineI (by simp)) (newI (by rfl)) fun F hN hP=>?_) ?_
 ·clear h;have h:=hv145;clear hv145;refine Q4 ?_;refine Q13 [] mo (by rw [hN];decide) fun K hK=>?_;simp [-Q0,-Q6,-Q1,-Q7,-Q2];repeat refine sdQ ?_
  refine hK _ ?_;clear hK K;refine tn ?_;refine Q8 (st':=⟨[(0,.own 0 0 b2.length)],[(0,rI b2)],1⟩) (Wk.rP _ [(0,0)] hP (by rfl) (by simp [hhOk,back,Cat.cells,UA,U1,IA,I1,LA,L1,BA,B1,EA,E1,E2,eB,eI,eL])) ?_;refine Q4 ?_;refine Q13 [] mo (by rw [hN];decide) fun K hK=>?_;replace h:=Q5 h;obtain ⟨a99,h⟩:=h;simp [-Q0,-Q6,-Q1,-Q7,-Q2];repeat refine sdQ ?_
  refine hK _ ?_;clear hK K;refine tn ?_;refine Q8 (st':=⟨[(0,.own 0 0 b2.length),(3,.own 1 0 ((List.replicate ((b2.length:Int).toNat) 0).length))],[(0,rI b2),(1,rI (List.replicate ((b2.length:Int).toNat) 0))],2⟩) (Wk.rP _ [(0,0),(1,1)] hP (by rfl) (by simp [hhOk,back,Cat.cells,UA,U1,IA,I1,LA,L1,BA,B1,EA,E1,E2,eB,eI,eL])) ?_;refine Q4 ?_;refine Q4 ?_;refine Q13 [] mo (by rw [hN];decide) fun K hK=>?_;simp [-Q0,-Q6,-Q1,-Q7,-Q2];repeat refine sdQ ?_
  refine hK _ ?_;clear hK K;refine tn ?_;refine Q8 (st':=⟨[(0,.own 0 0 b2.length),(3,.own 1 0 ((List.replicate ((b2.length:Int).toNat) 0).length)),(9,iV (b2.length:Int)),(10,iV 0)],[(0,rI b2),(1,rI (List.replicate ((b2.length:Int).toNat) 0))],2⟩) (Wk.rP _ [(0,0),(1,1)] hP (by rfl) (by simp [hhOk,back,Cat.cells,UA,U1,IA,I1,LA,L1,BA,B1,EA,E1,E2,eB,eI,eL])) ?_;replace h:=bind_some h;obtain ⟨e100,h,h100⟩:=h;refine Qh (fun b100:List Int × List Int=>⟨[(3,.own 1 0 b100.2.length)],[(0,rI b100.1),(1,rI b100.2)],2⟩) (fun b100=>b100=e100) ?_ ?_
  ·refine Qa ?_;refine Qs h (fun s122:List Int × List Int × Int=>⟨[(0,.own 0 0 s122.1.length),(3,.own 1 0 s122.2.1.length),(9,iV (b2.length:Int)),(10,iV s122.2.2)],[(0,rI s122.1),(1,rI s122.2.1)],2⟩) (Wk.rP _ [(0,0),(1,1)] hP (by rfl) (by simp [hhOk,back,Cat.cells,UA,U1,IA,I1,LA,L1,BA,B1,EA,E1,E2,eB,eI,eL])) ?_;clear h;intro k122 s122 c122 h hk122;refine Q4 ?_;refine Q13 [] mo (by rw [hN];decide) fun K hK=>?_;simp [-Q0,-Q6,-Q1,-Q7,-Q2];(repeat refine sdQ ?_);refine hK _ ?_;clear hK K;refine tn ?_;refine Q8 (st':=⟨[(0,.own 0 0 s122.1.length),(3,.own 1 0 s122.2.1.length),(9,iV (b2.length:Int)),(10,iV s122.2.2),(11,.val (.bool (decide (s122.2.2<(b2.length:Int)))))],[(0,rI s122.1),(1,rI s122.2.1)],2⟩) (Wk.rP _ [(0,0),(1,1)] hP (by rfl) (by simp [hhOk,back,Cat.cells,UA,U1,IA,I1,LA,L1,BA,B1,EA,E1,E2,eB,eI,eL])) ?_;refine Q4 ?_;refine Qc rfl (fun g=>?_) fun g=>?_
   ·have g123:s122.2.2<(b2.length:Int):=gQ;clear g;replace h:=if_l g123 h;refine Qd ?_;refine tn ?_;refine Q4 ?_;refine Qa ?_;refine Q4 ?_;refine Q13 [] mo (by rw [hN];decide) fun K hK=>?_;simp [-Q0,-Q6,-Q1,-Q7,-Q2];(repeat refine sdQ ?_);refine hK _ ?_;clear hK K;refine tn ?_;refine Q8 (st':=⟨[(0,.own 0 0 s122.1.length),(3,.own 1 0 s122.2.1.length),(4,iV s122.2.2),(9,iV (b2.length:Int)),(10,iV s122.2.2)],[(0,rI s122.1),(1,rI s122.2.1)],2⟩) (Wk.rP _ [(0,0),(1,1)] hP (by rfl) (by simp [hhOk,back,Cat.cells,UA,U1,IA,I1,LA,L1,BA,B1,EA,E1,E2,eB,eI,eL])) ?_;refine Q6l [] mo (by rw [hN];decide) fun K hK=>?_;simp [-Q0,-Q6,-Q1,-Q7,-Q2];(repeat with_reducible refine sdQ ?_);replace h:=bind_some h;obtain ⟨v140,hv140,h⟩:=h;refine Q47 (fz:=[]) (Q2o (ts:=[4]) (e:={ v:=.val (.int .i64 v140.2),set:=[(0,rI v140.1)],del:=[],new:=[],cnt:=0 }) Try.func175 rfl rfl rfl (by simp [Try.f175]) (by simp) (fineI (by simp)) (newI (by rfl)) fun F hN hP=>?_) ?_
    ·clear h;have h:=hv140;clear hv140;refine Q4 ?_;refine Q13 [] mo (by rw [hN];decide) fun K hK=>?_;simp [-Q0,-Q6,-Q1,-Q7,-Q2];(repeat refine sdQ ?_);refine hK _ ?_;clear hK K;refine tn ?_;refine Q8 (st':=⟨[(0,.own 0 0 s122.1.length),(1,iV s122.2.2)],[(0,rI s122.1),(1,rI s122.2.1)],2⟩) (Wk.rP _ [(0,0),(1,1)] hP (by rfl) (by simp [hhOk,back,Cat.cells,UA,U1,IA,I1,LA,L1,BA,B1,EA,E1,E2,eB,eI,eL])) ?_;refine Q4 ?_;replace h:=bind_some h;obtain ⟨e125,h,h125⟩:=h;refine Qh (fun b125:List Int × Int=>⟨[(1,iV b125.2)],[(0,rI b125.1),(1,rI s122.2.1)],2⟩) (fun b125=>b125=e125) ?_ ?_
     ·refine Qa ?_;refine Qs h (fun s133:List Int × Int=>⟨[(0,.own 0 0 s133.1.length),(1,iV s133.2)],[(0,rI s133.1),(1,rI s122.2.1)],2⟩) (Wk.rP _ [(0,0),(1,1)] hP (by rfl) (by simp [hhOk,back,Cat.cells,UA,U1,IA,I1,LA,L1,BA,B1,EA,E1,E2,eB,eI,eL])) ?_;clear h;intro k133 s133 c133 h hk133;refine Q4 ?_;refine Q4 ?_;refine Q13 [] mo (by rw [hN];decide) fun K hK=>?_;replace h:=Q5 h;obtain ⟨a134,h⟩:=h;simp [-Q0,-Q6,-Q1,-Q7,-Q2,at_I a134];(repeat refine sdQ ?_);refine hK _ ?_;clear hK K;refine tn ?_;refine Q8 (st':=⟨[(0,.own 0 0 s133.1.length),(1,iV s133.2),(10,.val (.bool ((ix s133.1 s133.2) != s133.2)))],[(0,rI s133.1),(1,rI s122.2.1)],2⟩) (Wk.rP _ [(0,0),(1,1)] hP (by rfl) (by simp [hhOk,back,Cat.cells,UA,U1,IA,I1,LA,L1,BA,B1,EA,E1,E2,eB,eI,eL])) ?_;refine Qc rfl (fun g=>?_) fun g=>?_
      ·have g135:¬ ((ix s133.1 s133.2)=s133.2):=gQ;clear g;replace h:=if_l g135 h;refine Qd ?_;refine tn ?_;refine Qa ?_;refine Q4 ?_;refine Q13 [] mo (by rw [hN];decide) fun K hK=>?_;replace h:=Q5 h;obtain ⟨a136,h⟩:=h;replace h:=Q5 h;obtain ⟨a137,h⟩:=h;replace h:=Q5 h;obtain ⟨a138,h⟩:=h;simp [-Q0,-Q6,-Q1,-Q7,-Q2,at_I a136,at_I a137,at_I a138];(repeat refine sdQ ?_);refine hK _ ?_;clear hK K;refine tn ?_;refine Q8 (st':=⟨[(0,.own 0 0 ((s133.1.set s133.2.toNat (ix s133.1 (ix s133.1 s133.2))).length)),(1,iV s133.2)],[(0,rI (s133.1.set s133.2.toNat (ix s133.1 (ix s133.1 s133.2)))),(1,rI s122.2.1)],2⟩) (Wk.rP _ [(0,0),(1,1)] hP (by rfl) (by simp [hhOk,back,Cat.cells,UA,U1,IA,I1,LA,L1,BA,B1,EA,E1,E2,eB,eI,eL])) ?_;refine Q13 [] mo (by rw [hN];decide) fun K hK=>?_;replace h:=Q5 h;obtain ⟨a139,h⟩:=h;simp [-Q0,-Q6,-Q1,-Q7,-Q2,at_I a139];(repeat refine sdQ ?_);refine hK _ ?_;clear hK K;refine bn ?_;cases h;exact rn (s':=(s133.1.set s133.2.toNat (ix s133.1 (ix s133.1 s133.2)),ix (s133.1.set s133.2.toNat (ix s133.1 (ix s133.1 s133.2))) s133.2)) hk133 (Wk.rP _ [(0,0),(1,1)] hP (by rfl) (by simp [hhOk,back,Cat.cells,UA,U1,IA,I1,LA,L1,BA,B1,EA,E1,E2,eB,eI,eL]))
      have g135:¬ (¬ ((ix s133.1 s133.2)=s133.2)):=gQ;clear g;replace h:=if_r g135 h;refine Qj ?_;refine tx ?_;refine lx ?_;refine bh ?_;cases h;exact jn (b:=(s133.1,s133.2)) hk133 (Wk.rP _ [(0,0),(1,1)] hP (by rfl) (by simp [hhOk,back,Cat.cells,UA,U1,IA,I1,LA,L1,BA,B1,EA,E1,E2,eB,eI,eL]))
     intro b125 hb125;have h:=h125;(try rw [← hb125] at h);clear h125;(try dsimp only at h);refine Q4 ?_;refine Q13 [] mo (by rw [hN];decide) fun K hK=>?_;simp [-Q0,-Q6,-Q1,-Q7,-Q2];(repeat refine sdQ ?_);refine hK _ ?_;clear hK K;refine tn ?_;refine Q8 (st':=⟨[(4,iV b125.2)],[(0,rI b125.1),(1,rI s122.2.1)],2⟩) (Wk.rP _ [(0,0),(1,1)] hP (by rfl) (by simp [hhOk,back,Cat.cells,UA,U1,IA,I1,LA,L1,BA,B1,EA,E1,E2,eB,eI,eL])) ?_;refine Qi ?_;cases h;first|refine iw_r (st':=⟨[(4,iV b125.2)],[(0,rI b125.1),(1,rI s122.2.1)],2⟩) ?_ ?_|refine iw_n (st':=⟨[(4,iV b125.2)],[(0,rI b125.1),(1,rI s122.2.1)],2⟩) ?_ ?_
     ·exact Wk.rP _ [(0,0),(1,1)] hP (by rfl) (by simp [hhOk,back,Cat.cells,UA,U1,IA,I1,LA,L1,BA,B1,EA,E1,E2,eB,eI,eL])
     exact ⟨by simp [Q1s],by simp,by simp [Cat.cells]⟩
    replace h:=Q5 h;obtain ⟨a141,h⟩:=h;replace h:=Q5 h;obtain ⟨a142,h⟩:=h;simp [-Q0,-Q6,-Q1,-Q7,-Q2,unk,unA,unE,unT,unC,flat,at_I a142];(repeat refine sdQ ?_);refine hK _ ?_;clear hK K;refine bn ?_;refine tn ?_;refine Q8 (st':=⟨[(0,.own 0 0 v140.1.length),(3,.own 1 0 ((s122.2.1.set s122.2.2.toNat v140.2).length)),(9,iV (b2.length:Int)),(10,iV s122.2.2)],[(0,rI v140.1),(1,rI (s122.2.1.set s122.2.2.toNat v140.2))],2⟩) (Wk.rP _ [(0,0),(1,1)] hP (by rfl) (by simp [hhOk,back,Cat.cells,UA,U1,IA,I1,LA,L1,BA,B1,EA,E1,E2,eB,eI,eL,a141])) ?_;refine Q13 [] mo (by rw [hN];decide) fun K hK=>?_;replace h:=Q5 h;obtain ⟨a143,h⟩:=h;simp [-Q0,-Q6,-Q1,-Q7,-Q2,Qp a143];(repeat refine sdQ ?_);refine hK _ ?_;clear hK K;cases h;exact rn (s':=(v140.1,s122.2.1.set s122.2.2.toNat v140.2,s122.2.2+1)) hk122 (Wk.rP _ [(0,0),(1,1)] hP (by rfl) (by simp [hhOk,back,Cat.cells,UA,U1,IA,I1,LA,L1,BA,B1,EA,E1,E2,eB,eI,eL,a141]))
   have g123:¬ (s122.2.2<(b2.length:Int)):=gQ;clear g;replace h:=if_r g123 h;refine Qj ?_;refine tx ?_;refine lx ?_;refine bh ?_;cases h;exact jn (b:=(s122.1,s122.2.1)) hk122 (Wk.rP _ [(0,0),(1,1)] hP (by rfl) (by simp [hhOk,back,Cat.cells,UA,U1,IA,I1,LA,L1,BA,B1,EA,E1,E2,eB,eI,eL]))
  intro b100 hb100;have h:=h100;try rw [← hb100] at h
  clear h100;try dsimp only at h
  refine Q4 ?_;refine Q13 [] mo (by rw [hN];decide) fun K hK=>?_;simp [-Q0,-Q6,-Q1,-Q7,-Q2];repeat with_reducible refine sdQ ?_
  replace h:=bind_some h;obtain ⟨v144,hv144,h⟩:=h;refine Q7f (fz:=[]) (Q8Z _ v144 hv144) (.cons (.whole (by simp) (by simp) (by simp)) .nil) ?_;simp [-Q0,-Q6,-Q1,-Q7,-Q2,unk,unA,unE,unT,unC,flat];repeat refine sdQ ?_
  refine hK _ ?_;clear hK K;refine tn ?_;refine Q8 (st':=⟨[(2,.own 1 0 v144.length)],[(0,rI b100.1),(1,rI v144)],2⟩) (Wk.rP _ [(0,0),(2,1)] hP (by rfl) (by simp [hhOk,back,Cat.cells,UA,U1,IA,I1,LA,L1,BA,B1,EA,E1,E2,eB,eI,eL])) ?_;refine Qi ?_;cases h;first|refine iw_r (st':=⟨[(2,.own 1 0 v144.length)],[(0,rI b100.1),(1,rI v144)],2⟩) ?_ ?_|refine iw_n (st':=⟨[(2,.own 1 0 v144.length)],[(0,rI b100.1),(1,rI v144)],2⟩) ?_ ?_
  ·exact Wk.rP _ [(0,0),(1,1)] hP (by rfl) (by simp [hhOk,back,Cat.cells,UA,U1,IA,I1,LA,L1,BA,B1,EA,E1,E2,eB,eI,eL])
  exact ⟨by simp [Q1s],by simp,by simp [Cat.cells]⟩
 replace h:=Q5 h;obtain ⟨a146,h⟩:=h;simp [-Q0,-Q6,-Q1,-Q7,-Q2,unk,unA,unE,unT,unC,flat];repeat refine sdQ ?_
 refine hK _ ?_;clear hK K;refine tn ?_;refine Q8 (st':=⟨[(2,.own 0 0 v145.2.length)],[(0,rI v145.2)],1⟩) (Wk.r1 [(1,0)] (by simp [hP,hhOk,back,Cat.cells,UA,U1,IA,I1,LA,L1,BA,B1,EA,E1,E2,eB,eI,eL,a146])) ?_;refine Qi ?_;have hr:=Option.some.inj h;rw [← hr];refine ⟨_,(.tmp .nil),?_⟩;refine ⟨(.one rfl rfl .nil),[lI v145.2],[0],by simp [Cat.cells,UA,U1,IA,I1,LA,L1,BA,B1,EA,E1,E2,eB,eI,eL],by simp,(UpL.refl _)⟩
theorem Q5j {c:Cat} (hc:c.Is):∀ x,x<c.id.length→rho c x≤x∧rho c (rho c x)=rho c x:=fun x hx=>⟨(Q2C hc hx).1,rho_rho hc hx⟩
theorem rho_iff {c:Cat} (hc:c.Is) {x y:Nat} (hx:x<c.id.length) (hy:y<c.id.length):rho c x=rho c y↔Io c x y:=by
 refine ⟨fun e=>?_,rho_eq hc⟩;have a:=(Q2C hc hx).2.1;have b:=(Q2C hc hy).2.1;rw [e] at a;exact (a.symm hc).trans hc b
noncomputable def icls (c:Cat):List Int:=cls (rho c) c.id.length
structure UI (c:Cat) (j:List Int) (r:Nat→Nat) (i:Nat):Prop where
 u:UF j r c.id.length
 io:∀ x,x<c.id.length→Io c (r x) x
 st:∀ a:Nat,a<i→0≤inv c a→r (ix c.fr a).toNat=r (ix c.to a).toNat
theorem UF.rr {j:List Int} {r:Nat→Nat} {n x:Nat} (h:UF j r n) (hx:x<n):r (r x)=r x:=h.tip (r x) (by have:=h.le x hx;omega) (h.fix x hx)
theorem UI.roots {c:Cat} (hc:c.Is) {j:List Int} {r:Nat→Nat} (h:UI c j r c.fr.length) {x:Nat} (hx:x<c.id.length):r x=rho c x:=by
 have a:=Q2C hc hx;have hr:∀ y,Io c y x→r y=r x:=by
  rintro y ⟨b,hb,hi⟩
  have:=h.st b.toNat (by have:=hb.1;omega) (by rw [Int.toNat_of_nonneg hb.1.1];exact hi);rw [Int.toNat_of_nonneg hb.1.1,hb.2.1,hb.2.2] at this;simpa using this
 have e:=hr _ a.2.1;have l:=h.u.le (rho c x) (by omega);rcases Nat.lt_or_ge (r x) (rho c x) with q|q
 ·exact absurd (h.io x hx) (a.2.2 _ q)
 omega
theorem Q65 {c:Cat} (hc:c.Is):Qx c=some (icls c):=by
 have ns:=hc.nums;have hn8:c.id.length≤8:=by omega
 unfold Qx Q2D;rw [e_numbers ns.1 (by omega)];simp only [Option.bind_some];have en:c.n.toNat=c.id.length:=by omega
 rw [en];refine Q1S (σ:=List Int × Int) (Q:=fun z=>z=some (icls c)) c.fr.length (fun i s=>s.2=(i:Int)∧∃ r,UI c s.1 r i) (fun e=>∃ r,UI c e r c.fr.length) (by omega) ⟨rfl,fun x=>x,⟨⟨by simp,fun x hx=>?_,fun x _=>Nat.le_refl _,fun x hx=>Q58 _ (by omega) (by omega),fun x hx=>by rw [Q58 _ (by omega) (by omega)];simp,fun x _ _=>rfl⟩,fun x hx=>Io.refl hc hx,fun a ha=>by omega⟩⟩ ?_ ?_ ?_
 ·rw [Q58 _ (by omega) (by omega)];omega
 ·rintro i ⟨j,k⟩ hi ⟨hk,r,h⟩
  simp only at hk h;subst hk;simp only;rw [if_pos (by omega),Q52 hc (by omega) (by omega)];simp only [Option.bind_some]
  by_cases q:0≤inv c i
  case neg =>
   rw [if_neg q];simp only [Option.bind_some];rw [Q9 (by unfold B64;omega)];refine .inl ⟨_,rfl,by push_cast;rfl,r,h.u,h.io,fun a ha hq=>?_⟩;have:a ≠ i:=fun e=>q (by rw [← e];exact hq);exact h.st a (by omega) hq
  have ee:=hc.ends (a:=i) (by omega);obtain ⟨x,hx⟩:=Int.eq_ofNat_of_zero_le ee.1.1;obtain ⟨y,hy⟩:=Int.eq_ofNat_of_zero_le ee.2.1;have hxn:x<c.id.length:=by omega
  have hyn:y<c.id.length:=by omega
  obtain ⟨j1,e1,w1⟩:=Q7y x j fuel h.u hxn (by unfold fuel;omega);obtain ⟨j2,e2,w2⟩:=Q7y y j1 fuel w1 hyn (by unfold fuel;omega);have rx1:=w2.le x hxn;have ry1:=w2.le y hyn;have l2:=w2.len;have ixy:Io c x y:=⟨i,⟨by omega,hx,hy⟩,q⟩;have l0:=h.u.len;have l1:=w1.len;rw [if_pos q,Q9 (by omega),Q9 (by omega),hx,hy,e1];simp only [Option.bind_some];rw [Q9 (by omega),e2];simp only [Option.bind_some];have fin:∀ a b:Nat,a<c.id.length→b<c.id.length→r a=a→r b=b→a≤b→((a=r x∧b=r y)∨(a=r y∧b=r x))→∃ r',UI c (j2.set b a) r' (i+1):=by
   intro a b ha hb ra rb hab hc2;have iab:Io c a b:=by
    rcases hc2 with ⟨e3,e4⟩|⟨e3,e4⟩
    ·rw [e3,e4];exact ((h.io x hxn).trans hc ixy).trans hc ((h.io y hyn).symm hc)
    rw [e3,e4];exact ((h.io y hyn).trans hc (ixy.symm hc)).trans hc ((h.io x hxn).symm hc)
   refine ⟨_,w2.join ha hb ra rb hab,fun z hz=>?_,fun d hd hq=>?_⟩
   ·have:=h.io z hz;split
    ·rename_i e3;rw [e3] at this;exact iab.trans hc this
    exact this
   by_cases e3:d=i
   ·subst e3;rw [hx,hy];simp only [Int.toNat_natCast];rcases hc2 with ⟨e4,e5⟩|⟨e4,e5⟩
    ·rw [← e4,← e5,if_pos rfl];split<;>rfl
    rw [← e4,← e5,if_pos rfl];split<;>rfl
   rw [h.st d (by omega) hq]
  by_cases g:(r y:Int) > (r x:Int)
  ·rw [if_pos g,if_neg (show ¬ (r y:Int)<(r x:Int) by omega),Q9 (by omega)];(try simp only [Option.bind_some]);rw [Q9 (by simp;omega)];(try simp only [Option.bind_some]);rw [Q9 (by simp;omega)];(try simp only [Option.bind_some]);rw [Q9 (by unfold B64;omega)];refine .inl ⟨_,rfl,by push_cast;rfl,?_⟩;(try simp only [Int.toNat_natCast]);exact fin (r x) (r y) (by omega) (by omega) (w2.rr hxn) (w2.rr hyn) (by omega) (.inl ⟨rfl,rfl⟩)
  rw [if_neg g,Q9 (by omega)];try simp only [Option.bind_some]
  rw [Q9 (by simp;omega)];try simp only [Option.bind_some]
  rw [Q9 (by simp;omega)];try simp only [Option.bind_some]
  rw [Q9 (by unfold B64;omega)];refine .inl ⟨_,rfl,by push_cast;rfl,?_⟩;try simp only [Int.toNat_natCast]
  have em:(if (r y:Int)<(r x:Int) then (r y:Int) else (r x:Int))=(r y:Int):=by split<;>omega
  rw [em];exact fin (r y) (r x) (by omega) (by omega) (w2.rr hyn) (w2.rr hxn) (by omega) (.inr ⟨rfl,rfl⟩)
 ·rintro ⟨j,k⟩ ⟨hk,r,h⟩
  simp only at hk h;subst hk;simp only;rw [if_neg (by omega)];exact ⟨_,rfl,r,h⟩
 rintro j ⟨r,h⟩
 have hl:=h.u.len;rw [Q9 (by omega),Option.bind_assoc,hl];refine Q1S (σ:=List Int × List Int × Int) (Q:=fun z=>z=some (icls c)) c.id.length (fun i s=>UF s.1 r c.id.length∧s.2=(tab i (fun x=>(rho c x:Int))++List.replicate (c.id.length - i) 0,(i:Int))) (fun e=>UF e.1 r c.id.length∧e.2=tab c.id.length (fun x=>(rho c x:Int))) (by omega) ⟨h.u,by simp [Q8p]⟩ ?_ ?_ ?_
 ·rintro i ⟨j,L,k⟩ hi ⟨u,e⟩
  simp only [Prod.mk.injEq] at e u;obtain ⟨rfl,rfl⟩:=e;obtain ⟨j1,e1,w1⟩:=Q7y i j fuel u hi (by unfold fuel;omega);simp only;have l3:=u.len;have l4:=w1.len;rw [if_pos (by omega),e1];simp only [Option.bind_some];rw [Q9 (by omega),Q9 (by simp;omega),Q9 (by unfold B64;omega)];refine .inl ⟨_,rfl,w1,?_⟩;refine Prod.ext ?_ (by push_cast;rfl);simp only [Int.toNat_natCast];rw [show c.id.length - i=(c.id.length - (i+1))+1 by omega,Q5g _ _ _ _ (by simp),Q19,h.roots hc hi]
 ·rintro ⟨j,L,k⟩ ⟨u,e⟩
  simp only [Prod.mk.injEq] at e;obtain ⟨rfl,rfl⟩:=e;simp only;rw [if_neg (by omega)];exact ⟨_,rfl,u,by simp⟩
 rintro ⟨j,L⟩ ⟨u,e⟩
 simp only at e u ⊢;rw [e,e_normal (Q5j hc) (by omega)];simp only [Option.bind_some];rw [Q9 u.len];rfl
attribute [local simp] eL eI Qn
noncomputable def Q2u (n_:Int) (pairs_:List (List Int)):Option (List Int) :=
 (Qv (σ:=List Int × Int) (ε:=List Int) (fun s5 =>
  if s5.2<n_ then
   ass ((s5.1++[s5.2]).length≤1073741824) <|
   ass (B64 (s5.2+1)) <|
   some (Ctl.next (s5.1++[s5.2],s5.2+1))
  else
   some (Ctl.ret s5.1)) fuel ([],0)).bind fun b1 =>
 (Qv (σ:=List Int × Int) (ε:=List Int) (fun s36 =>
  if s36.2<(pairs_.length:Int) then
   (
    ass (0≤s36.2∧s36.2<(pairs_.length:Int)) <|
    ass ((0:Int)≤0∧0<((rx pairs_ s36.2).length:Int)) <|
    ass (0≤ix (rx pairs_ s36.2) 0∧ix (rx pairs_ s36.2) 0<(s36.1.length:Int)) <|
    ass (0≤s36.2∧s36.2<(pairs_.length:Int)) <|
    ass ((0:Int)≤1∧1<((rx pairs_ s36.2).length:Int)) <|
    ass (0≤ix (rx pairs_ s36.2) 1∧ix (rx pairs_ s36.2) 1<(s36.1.length:Int)) <|
    (Qv (σ:=List Int × Int) (ε:=List Int) (fun s53 =>
     (
      if s53.2<(s53.1.length:Int) then
       some ((ix s36.1 (ix (rx pairs_ s36.2) 0)) != (ix s36.1 (ix (rx pairs_ s36.2) 1)))
      else
       some false:Option (Bool)).bind fun b54 =>
     if b54=true then
      (
       ass (0≤s53.2∧s53.2<(s53.1.length:Int)) <|
       if (ix s53.1 s53.2)=(ix s36.1 (ix (rx pairs_ s36.2) 1)) then
        ass (0≤s53.2∧s53.2<(s53.1.length:Int)) <|
        some (s53.1.set s53.2.toNat (ix s36.1 (ix (rx pairs_ s36.2) 0)))
       else
        some s53.1:Option (List Int)).bind fun b57 =>
      ass (B64 (s53.2+1)) <|
      some (Ctl.next (b57,s53.2+1))
     else
      some (Ctl.ret s53.1)) fuel (s36.1,0)).bind fun p53 =>
    some p53:Option (List Int)).bind fun b38 =>
   ass (B64 (s36.2+1)) <|
   some (Ctl.next (b38,s36.2+1))
  else
   some (Ctl.ret s36.1)) fuel (b1,0)).bind fun b9 =>
 (Q1w b9).bind fun v63 =>
 some v63
theorem Q7L (n_:Int) (pairs_:List (List Int)) (r:List Int) (h:Q2u n_ pairs_=some r):Contract Try.prog 164 [iV n_,.lst true 1 (Ls pairs_)] (lI r):=by
 refine Qe (rvs:=[.tmp 4]) (rs:=[lI r]) Try.func164 rfl rfl rfl rfl (by simp [Try.f164]) fun F hN hP=>?_;unfold Q2u at h;refine Q4 ?_;refine runQ hN fun K hK=>?_;simp [-Q0,-Q6,-Q1,-Q7,-Q2];repeat refine sdQ ?_
 refine hK _ ?_;clear hK K;refine tn ?_;refine Q8 (st':=⟨[(0,iV n_),(1,.lst true 1 (Ls pairs_))],[],0⟩) (wkQ9 []) ?_;refine Q4 ?_;refine runQ hN fun K hK=>?_;simp [-Q0,-Q6,-Q1,-Q7,-Q2];repeat refine sdQ ?_
 refine hK _ ?_;clear hK K;refine tn ?_;refine Q8 (st':=⟨[(0,iV n_),(1,.lst true 1 (Ls pairs_)),(5,.own 0 0 0)],[(0,.mix 1 [])],1⟩) (wkQ9 [(0,0)]) ?_;refine Q4 ?_;refine Q4 ?_;refine runQ hN fun K hK=>?_;simp [-Q0,-Q6,-Q1,-Q7,-Q2];repeat refine sdQ ?_
 refine hK _ ?_;clear hK K;refine tn ?_;refine Q8 (st':=⟨[(0,iV n_),(1,.lst true 1 (Ls pairs_)),(5,.own 0 0 0),(6,iV 0)],[(0,.mix 1 [])],1⟩) (wkQ9 [(0,0)]) ?_;replace h:=bind_some h;obtain ⟨e1,h,h1⟩:=h;refine Qh (fun b1:List Int=>⟨[(1,.lst true 1 (Ls pairs_)),(5,.own 0 0 b1.length)],[(0,rI b1)],1⟩) (fun b1=>b1=e1) ?_ ?_
 ·refine Qa ?_;refine Qs h (fun s5:List Int × Int=>⟨[(0,iV n_),(1,.lst true 1 (Ls pairs_)),(5,.own 0 0 s5.1.length),(6,iV s5.2)],[(0,rI s5.1)],1⟩) (Q2O ⟨[(0,iV n_),(1,.lst true 1 (Ls pairs_)),(5,.own 0 0 0),(6,iV 0)],[(0,rI [])],1⟩ (Wk.nils [] (by simp) (by simp) (by simp [nlA]) (by simp [entN,nlL,nlA,UA,U1,IA,I1,LA,L1,BA,B1,EA,E1,E2,eB,eI,eL]) (by simp)) (wkQ9 [(0,0)])) ?_;clear h;intro k5 s5 c5 h hk5;refine Q4 ?_;refine Q4 ?_;refine runQ hN fun K hK=>?_;simp [-Q0,-Q6,-Q1,-Q7,-Q2];repeat refine sdQ ?_
  refine hK _ ?_;clear hK K;refine tn ?_;refine Q8 (st':=⟨[(0,iV n_),(1,.lst true 1 (Ls pairs_)),(5,.own 0 0 s5.1.length),(6,iV s5.2),(14,.val (.bool (decide (s5.2<n_))))],[(0,rI s5.1)],1⟩) (wkQ9 [(0,0)]) ?_;refine Qc rfl (fun g=>?_) fun g=>?_
  ·have g6:s5.2<n_:=gQ;clear g;replace h:=if_l g6 h;refine Qd ?_;refine tn ?_;refine Q4 ?_;refine Qa ?_;refine runQ hN fun K hK=>?_;replace h:=Q5 h;obtain ⟨a7,h⟩:=h;(try simp only [List.length_append,List.length_cons,List.length_nil] at a7);simp [-Q0,-Q6,-Q1,-Q7,-Q2,a7];(repeat refine sdQ ?_);refine hK _ ?_;clear hK K;refine bn ?_;refine tn ?_;refine Q8 (st':=⟨[(0,iV n_),(1,.lst true 1 (Ls pairs_)),(5,.own 0 0 ((s5.1++[s5.2]).length)),(6,iV s5.2)],[(0,rI (s5.1++[s5.2]))],1⟩) (wkQ9 [(2,0)]) ?_;refine runQ hN fun K hK=>?_;replace h:=Q5 h;obtain ⟨a8,h⟩:=h;simp [-Q0,-Q6,-Q1,-Q7,-Q2,Qp a8];(repeat refine sdQ ?_);refine hK _ ?_;clear hK K;cases h;exact rn (s':=(s5.1++[s5.2],s5.2+1)) hk5 (wkQ9 [(0,0)])
  have g6:¬ (s5.2<n_):=gQ;clear g;replace h:=if_r g6 h;refine Qj ?_;refine tx ?_;refine lx ?_;refine bh ?_;cases h;exact jn (b:=s5.1) hk5 (wkQ9 [(0,0)])
 intro b1 hb1;have h:=h1;try rw [← hb1] at h
 clear h1;try dsimp only at h
 refine Q4 ?_;refine Q4 ?_;refine runQ hN fun K hK=>?_;simp [-Q0,-Q6,-Q1,-Q7,-Q2];repeat refine sdQ ?_
 refine hK _ ?_;clear hK K;refine tn ?_;refine Q8 (st':=⟨[(1,.lst true 1 (Ls pairs_)),(5,.own 0 0 b1.length),(7,iV 0)],[(0,rI b1)],1⟩) (wkQ9 [(0,0)]) ?_;replace h:=bind_some h;obtain ⟨e9,h,h9⟩:=h;refine Qh (fun b9:List Int=>⟨[(5,.own 0 0 b9.length)],[(0,rI b9)],1⟩) (fun b9=>b9=e9) ?_ ?_
 ·refine Qa ?_;refine Qs h (fun s36:List Int × Int=>⟨[(1,.lst true 1 (Ls pairs_)),(5,.own 0 0 s36.1.length),(7,iV s36.2)],[(0,rI s36.1)],1⟩) (wkQ9 [(0,0)]) ?_;clear h;intro k36 s36 c36 h hk36;refine Q4 ?_;refine Q4 ?_;refine runQ hN fun K hK=>?_;simp [-Q0,-Q6,-Q1,-Q7,-Q2];repeat refine sdQ ?_
  refine hK _ ?_;clear hK K;refine tn ?_;refine Q8 (st':=⟨[(1,.lst true 1 (Ls pairs_)),(5,.own 0 0 s36.1.length),(7,iV s36.2),(24,.val (.bool (decide (s36.2<(pairs_.length:Int)))))],[(0,rI s36.1)],1⟩) (wkQ9 [(0,0)]) ?_;refine Qc rfl (fun g=>?_) fun g=>?_
  ·have g37:s36.2<(pairs_.length:Int):=gQ;clear g;replace h:=if_l g37 h;refine Qd ?_;refine tn ?_;refine Q4 ?_;replace h:=bind_some h;obtain ⟨e38,h,h38⟩:=h;refine Qh (fun b38:List Int=>⟨[(1,.lst true 1 (Ls pairs_)),(5,.own 0 0 b38.length),(7,iV s36.2)],[(0,rI b38)],1⟩) (fun b38=>b38=e38) ?_ ?_
   ·refine Qa ?_;refine Q4 ?_;refine runQ hN fun K hK=>?_;replace h:=Q5 h;obtain ⟨a39,h⟩:=h;replace h:=Q5 h;obtain ⟨a40,h⟩:=h;replace h:=Q5 h;obtain ⟨a41,h⟩:=h;replace h:=Q5 h;obtain ⟨a42,h⟩:=h;replace h:=Q5 h;obtain ⟨a43,h⟩:=h;replace h:=Q5 h;obtain ⟨a44,h⟩:=h;simp [-Q0,-Q6,-Q1,-Q7,-Q2,at_L a39,(show (Is (rx pairs_ s36.2))[0]? = some [iV (ix (rx pairs_ s36.2) 0)] from at_I (j:=0) a40),at_I a41,at_L a42,(show (Is (rx pairs_ s36.2))[1]? = some [iV (ix (rx pairs_ s36.2) 1)] from at_I (j:=1) a43),at_I a44];(repeat refine sdQ ?_);refine hK _ ?_;clear hK K;refine tn ?_;refine Q8 (st':=⟨[(1,.lst true 1 (Ls pairs_)),(5,.own 0 0 s36.1.length),(7,iV s36.2),(8,iV (ix s36.1 (ix (rx pairs_ s36.2) 0))),(9,iV (ix s36.1 (ix (rx pairs_ s36.2) 1)))],[(0,rI s36.1)],1⟩) (wkQ9 [(0,0)]) ?_;refine Q4 ?_;refine runQ hN fun K hK=>?_;simp [-Q0,-Q6,-Q1,-Q7,-Q2];(repeat refine sdQ ?_);refine hK _ ?_;clear hK K;refine tn ?_;refine Q8 (st':=⟨[(1,.lst true 1 (Ls pairs_)),(5,.own 0 0 s36.1.length),(7,iV s36.2),(8,iV (ix s36.1 (ix (rx pairs_ s36.2) 0))),(9,iV (ix s36.1 (ix (rx pairs_ s36.2) 1))),(10,iV 0)],[(0,rI s36.1)],1⟩) (wkQ9 [(0,0)]) ?_;refine Qa ?_;replace h:=bind_some h;obtain ⟨e53,he53,h53⟩:=h;refine Qs he53 (fun s53:List Int × Int=>⟨[(1,.lst true 1 (Ls pairs_)),(5,.own 0 0 s53.1.length),(7,iV s36.2),(8,iV (ix s36.1 (ix (rx pairs_ s36.2) 0))),(9,iV (ix s36.1 (ix (rx pairs_ s36.2) 1))),(10,iV s53.2)],[(0,rI s53.1)],1⟩) (wkQ9 [(0,0)]) ?_;intro k53 s53 c53 h hk53;refine Q4 ?_;refine Q4 ?_;replace h:=bind_some h;obtain ⟨e54,h,h54⟩:=h;refine Qh (fun b54:Bool=>⟨[(1,.lst true 1 (Ls pairs_)),(5,.own 0 0 s53.1.length),(7,iV s36.2),(8,iV (ix s36.1 (ix (rx pairs_ s36.2) 0))),(9,iV (ix s36.1 (ix (rx pairs_ s36.2) 1))),(10,iV s53.2),(53,.val (.bool b54))],[(0,rI s53.1)],1⟩) (fun b54=>b54=e54) ?_ ?_
    ·refine runQ hN fun K hK=>?_;simp [-Q0,-Q6,-Q1,-Q7,-Q2];(repeat with_reducible refine sdQ ?_);refine Qw (fun g=>?_) (fun g=>?_)
     ·have g55:s53.2<(s53.1.length:Int):=gQ;clear g;replace h:=if_l g55 h;simp [-Q0,-Q6,-Q1,-Q7,-Q2];(repeat refine sdQ ?_);refine hK _ ?_;exact jn (b:=(ix s36.1 (ix (rx pairs_ s36.2) 0)) != (ix s36.1 (ix (rx pairs_ s36.2) 1))) (Option.some.inj h) (wkQ9 [(0,0)])
     have g55:¬ (s53.2<(s53.1.length:Int)):=gQ;clear g;replace h:=if_r g55 h;simp [-Q0,-Q6,-Q1,-Q7,-Q2];(repeat refine sdQ ?_);refine hK _ ?_;exact jn (b:=false) (Option.some.inj h) (wkQ9 [(0,0)])
    intro b54 hb54;have h:=h54;(try rw [← hb54] at h);clear h54;(try dsimp only at h);refine Qc rfl (fun g=>?_) fun g=>?_
    ·have g56:b54=true:=gQ;clear g;replace h:=if_l g56 h;refine Qd ?_;refine tn ?_;refine Q4 ?_;replace h:=bind_some h;obtain ⟨e57,h,h57⟩:=h;refine Qh (fun b57:List Int=>⟨[(1,.lst true 1 (Ls pairs_)),(5,.own 0 0 b57.length),(7,iV s36.2),(8,iV (ix s36.1 (ix (rx pairs_ s36.2) 0))),(9,iV (ix s36.1 (ix (rx pairs_ s36.2) 1))),(10,iV s53.2)],[(0,rI b57)],1⟩) (fun b57=>b57=e57) ?_ ?_
     ·refine Qa ?_;refine Q4 ?_;refine runQ hN fun K hK=>?_;replace h:=Q5 h;obtain ⟨a58,h⟩:=h;simp [-Q0,-Q6,-Q1,-Q7,-Q2,at_I a58];(repeat refine sdQ ?_);refine hK _ ?_;clear hK K;refine tn ?_;refine Q8 (st':=⟨[(1,.lst true 1 (Ls pairs_)),(5,.own 0 0 s53.1.length),(7,iV s36.2),(8,iV (ix s36.1 (ix (rx pairs_ s36.2) 0))),(9,iV (ix s36.1 (ix (rx pairs_ s36.2) 1))),(10,iV s53.2),(61,.val (.bool ((ix s53.1 s53.2) == (ix s36.1 (ix (rx pairs_ s36.2) 1)))))],[(0,rI s53.1)],1⟩) (wkQ9 [(0,0)]) ?_;refine Qc rfl (fun g=>?_) fun g=>?_
      ·have g59:(ix s53.1 s53.2)=(ix s36.1 (ix (rx pairs_ s36.2) 1)):=gQ;clear g;replace h:=if_l g59 h;refine runQ hN fun K hK=>?_;replace h:=Q5 h;obtain ⟨a60,h⟩:=h;simp [-Q0,-Q6,-Q1,-Q7,-Q2,at_I a60];(repeat refine sdQ ?_);refine hK _ ?_;clear hK K;refine bn ?_;exact jn (b:=s53.1.set s53.2.toNat (ix s36.1 (ix (rx pairs_ s36.2) 0))) (Option.some.inj h) (wkQ9 [(0,0)])
      have g59:¬ ((ix s53.1 s53.2)=(ix s36.1 (ix (rx pairs_ s36.2) 1))):=gQ;clear g;replace h:=if_r g59 h;refine Qd ?_;refine bn ?_;exact jn (b:=s53.1) (Option.some.inj h) (wkQ9 [(0,0)])
     intro b57 hb57;have h:=h57;(try rw [← hb57] at h);clear h57;(try dsimp only at h);refine runQ hN fun K hK=>?_;replace h:=Q5 h;obtain ⟨a61,h⟩:=h;simp [-Q0,-Q6,-Q1,-Q7,-Q2,Qp a61];(repeat refine sdQ ?_);refine hK _ ?_;clear hK K;cases h;exact rn (s':=(b57,s53.2+1)) hk53 (wkQ9 [(0,0)])
    have g56:¬ (b54=true):=gQ;clear g;replace h:=if_r g56 h;refine Qj ?_;refine tx ?_;refine lx ?_;refine bh ?_;refine bn ?_;cases h;have q:_=e53:=hk53;have h:=h53;rw [← q] at h;clear q;(try dsimp only at h);exact jn (b:=s53.1) (Option.some.inj h) (wkQ9 [(0,0)])
   intro b38 hb38;have h:=h38;(try rw [← hb38] at h);clear h38;(try dsimp only at h);refine runQ hN fun K hK=>?_;replace h:=Q5 h;obtain ⟨a62,h⟩:=h;simp [-Q0,-Q6,-Q1,-Q7,-Q2,Qp a62];(repeat refine sdQ ?_);refine hK _ ?_;clear hK K;cases h;exact rn (s':=(b38,s36.2+1)) hk36 (wkQ9 [(0,0)])
  have g37:¬ (s36.2<(pairs_.length:Int)):=gQ;clear g;replace h:=if_r g37 h;refine Qj ?_;refine tx ?_;refine lx ?_;refine bh ?_;cases h;exact jn (b:=s36.1) hk36 (wkQ9 [(0,0)])
 intro b9 hb9;have h:=h9;try rw [← hb9] at h
 clear h9;try dsimp only at h
 refine Q4 ?_;refine runQ hN fun K hK=>?_;simp [-Q0,-Q6,-Q1,-Q7,-Q2];repeat with_reducible refine sdQ ?_
 replace h:=bind_some h;obtain ⟨v63,hv63,h⟩:=h;refine Q3 (Q5D _ v63 hv63) (.cons (.whole (by simp) (by simp) (by simp)) .nil) ?_;simp [-Q0,-Q6,-Q1,-Q7,-Q2,unk,unA,unE,unT,unC,flat];repeat refine sdQ ?_
 refine hK _ ?_;clear hK K;refine tn ?_;refine Q8 (st':=⟨[(4,.own 0 0 v63.length)],[(0,rI v63)],1⟩) (wkQ9 [(1,0)]) ?_;refine Qi ?_;have hr:=Option.some.inj h;rw [← hr];refine ⟨_,(.tmp .nil),?_⟩;refine ⟨(.one rfl rfl .nil),[lI v63],[0],by simp [UA,U1,IA,I1,LA,L1,BA,B1,EA,E1,E2,eB,eI,eL],by simp,(UpL.refl _)⟩
attribute [local simp] eL eI Qn QC Cat.cells
noncomputable def Q1o (c_:Cat) (x_:Int) (y_:Int):Option Bool :=
 (Q1W c_ x_ y_).bind fun v1 =>
 (Qv (σ:=Int) (ε:=Unit ⊕ Bool) (fun s8 =>
  if s8<(v1.length:Int) then
   ass (0≤s8∧s8<(v1.length:Int)) <|
   (Q15 c_ (ix v1 s8)).bind fun v11 =>
   if v11 ≥ 0 then
    some (Ctl.ret (Sum.inr true))
   else
    ass (B64 (s8+1)) <|
    some (Ctl.next (s8+1))
  else
   some (Ctl.ret (Sum.inl ()))) fuel 0).bind fun e2 =>
 match e2 with
 | .inl b2 =>
  some false
 | .inr p2 =>
  some p2
theorem Q78 (c_:Cat) (x_:Int) (y_:Int) (r:Bool) (h:Q1o c_ x_ y_=some r):Contract Try.prog 214 [.agg (c_.cells true),iV x_,iV y_] (.val (.bool r)):=by
 refine Qe (rvs:=[.tmp 6]) (rs:=[.val (.bool r)]) Try.func214 rfl rfl rfl rfl (by simp [Try.f214]) fun F hN hP=>?_;unfold Q1o at h;refine Q4 ?_;refine runQ hN fun K hK=>?_;simp [-Q0,-Q6,-Q1,-Q7,-Q2];repeat refine sdQ ?_
 refine hK _ ?_;clear hK K;refine tn ?_;refine Q8 (st':=⟨[(1,iV x_),(2,iV y_),(3,.adr 0 0 0)],[(0,.mix 5 [(Cat.cells true c_)])],1⟩) (wkQ9 [(0,0)]) ?_;refine Q4 ?_;refine runQ hN fun K hK=>?_;simp [-Q0,-Q6,-Q1,-Q7,-Q2];repeat with_reducible refine sdQ ?_
 replace h:=bind_some h;obtain ⟨v1,hv1,h⟩:=h;refine Q3 (Q4A _ _ _ v1 hv1) (.cons (.aggL (.cons .val (.cons .lst (.cons .lst (.cons .lst (.cons .lst .nil)))))) (.cons .val (.cons .val .nil))) ?_;simp [-Q0,-Q6,-Q1,-Q7,-Q2,unk,unA,unE,unT,unC,flat];repeat refine sdQ ?_
 refine hK _ ?_;clear hK K;refine tn ?_;refine Q8 (st':=⟨[(3,.adr 0 0 0),(7,.own 1 0 v1.length)],[(0,.mix 5 [(Cat.cells true c_)]),(1,rI v1)],2⟩) (wkQ9 [(0,0),(1,1)]) ?_;refine Q4 ?_;refine Q4 ?_;refine runQ hN fun K hK=>?_;simp [-Q0,-Q6,-Q1,-Q7,-Q2];repeat refine sdQ ?_
 refine hK _ ?_;clear hK K;refine tn ?_;refine Q8 (st':=⟨[(3,.adr 0 0 0),(7,.own 1 0 v1.length),(8,iV 0)],[(0,.mix 5 [(Cat.cells true c_)]),(1,rI v1)],2⟩) (wkQ9 [(0,0),(1,1)]) ?_;replace h:=bind_some h;obtain ⟨e2,h,h2⟩:=h;refine Qh (fun b2:Unit=>⟨[],[],0⟩) (fun b2=>Sum.inl b2=e2) ?_ ?_
 ·refine Qa ?_;refine Qs h (fun s8:Int=>⟨[(3,.adr 0 0 0),(7,.own 1 0 v1.length),(8,iV s8)],[(0,.mix 5 [(Cat.cells true c_)]),(1,rI v1)],2⟩) (wkQ9 [(0,0),(1,1)]) ?_;clear h;intro k8 s8 c8 h hk8;refine Q4 ?_;refine Q4 ?_;refine runQ hN fun K hK=>?_;simp [-Q0,-Q6,-Q1,-Q7,-Q2];repeat refine sdQ ?_
  refine hK _ ?_;clear hK K;refine tn ?_;refine Q8 (st':=⟨[(3,.adr 0 0 0),(7,.own 1 0 v1.length),(8,iV s8),(16,.val (.bool (decide (s8<(v1.length:Int)))))],[(0,.mix 5 [(Cat.cells true c_)]),(1,rI v1)],2⟩) (wkQ9 [(0,0),(1,1)]) ?_;refine Qc rfl (fun g=>?_) fun g=>?_
  ·have g9:s8<(v1.length:Int):=gQ;clear g;replace h:=if_l g9 h;refine Qd ?_;refine tn ?_;refine Q4 ?_;refine Qa ?_;refine Q4 ?_;refine runQ hN fun K hK=>?_;replace h:=Q5 h;obtain ⟨a10,h⟩:=h;simp [-Q0,-Q6,-Q1,-Q7,-Q2,at_I a10];(repeat with_reducible refine sdQ ?_);replace h:=bind_some h;obtain ⟨v11,hv11,h⟩:=h;refine Q3 (Q2M _ _ v11 hv11) (.cons (.aggL (.cons .val (.cons .lst (.cons .lst (.cons .lst (.cons .lst .nil)))))) (.cons .val .nil)) ?_;simp [-Q0,-Q6,-Q1,-Q7,-Q2,unk,unA,unE,unT,unC,flat,at_I a10];(repeat refine sdQ ?_);refine hK _ ?_;clear hK K;refine tn ?_;refine Q8 (st':=⟨[(3,.adr 0 0 0),(7,.own 1 0 v1.length),(8,iV s8),(25,.val (.bool (decide (v11 ≥ 0))))],[(0,.mix 5 [(Cat.cells true c_)]),(1,rI v1)],2⟩) (wkQ9 [(0,0),(1,1)]) ?_;refine Qc rfl (fun g=>?_) fun g=>?_
   ·have g12:v11 ≥ 0:=gQ;clear g;replace h:=if_l g12 h;refine Q4 ?_;refine runQ hN fun K hK=>?_;simp [-Q0,-Q6,-Q1,-Q7,-Q2];(repeat refine sdQ ?_);refine hK _ ?_;clear hK K;refine tn ?_;refine Q8 (st':=⟨[(6,.val (.bool true))],[],0⟩) (wkQ9 []) ?_;refine Qi ?_;refine br ?_;refine tr ?_;refine lr ?_;refine br ?_;refine tr ?_;cases h;have q:_=e2:=hk8;have h:=h2;rw [← q] at h;clear q;(try dsimp only at h);have hr:=Option.some.inj h;rw [← hr];refine ⟨_,(.tmp .nil),?_⟩;refine ⟨(.one rfl rfl .nil),[.val (.bool true)],[],by simp [Cat.cells,UA,U1,IA,I1,LA,L1,BA,B1,EA,E1,E2,eB,eI,eL],by simp,(UpL.refl _)⟩
   have g12:¬ (v11 ≥ 0):=gQ;clear g;replace h:=if_r g12 h;refine Qd ?_;refine bn ?_;refine tn ?_;refine runQ hN fun K hK=>?_;replace h:=Q5 h;obtain ⟨a13,h⟩:=h;simp [-Q0,-Q6,-Q1,-Q7,-Q2,Qp a13];(repeat refine sdQ ?_);refine hK _ ?_;clear hK K;cases h;exact rn (s':=s8+1) hk8 (wkQ9 [(0,0),(1,1)])
  have g9:¬ (s8<(v1.length:Int)):=gQ;clear g;replace h:=if_r g9 h;refine Qj ?_;refine tx ?_;refine lx ?_;refine bh ?_;cases h;exact jn (b:=()) hk8 (wkQ9 [])
 intro b2 hb2;have h:=h2;try rw [← hb2] at h
 clear h2;try dsimp only at h
 refine Q4 ?_;refine runQ hN fun K hK=>?_;simp [-Q0,-Q6,-Q1,-Q7,-Q2];repeat refine sdQ ?_
 refine hK _ ?_;clear hK K;refine tn ?_;refine Q8 (st':=⟨[(6,.val (.bool false))],[],0⟩) (wkQ9 []) ?_;refine Qi ?_;have hr:=Option.some.inj h;rw [← hr];refine ⟨_,(.tmp .nil),?_⟩;refine ⟨(.one rfl rfl .nil),[.val (.bool false)],[],by simp [Cat.cells,UA,U1,IA,I1,LA,L1,BA,B1,EA,E1,E2,eB,eI,eL],by simp,(UpL.refl _)⟩
attribute [local simp] eL eI Qn QC Cat.cells
noncomputable def Q1k (c_:Cat):Option (List Int) :=
 (Qv (σ:=List (List Int) × Int) (ε:=List (List Int)) (fun s23 =>
  if s23.2<c_.n then
   (
    (Qv (σ:=List (List Int) × Int) (ε:=List (List Int)) (fun s32 =>
     if s32.2<s23.2 then
      (
       (Q1o c_ s23.2 s32.2).bind fun v35 =>
       if v35=true then
        ass ((s32.1++[[s32.2,s23.2]]).length≤1073741824) <|
        some (s32.1++[[s32.2,s23.2]])
       else
        some s32.1:Option (List (List Int))).bind fun b34 =>
      ass (B64 (s32.2+1)) <|
      some (Ctl.next (b34,s32.2+1))
     else
      some (Ctl.ret s32.1)) fuel (s23.1,0)).bind fun p32 =>
    some p32:Option (List (List Int))).bind fun b25 =>
   ass (B64 (s23.2+1)) <|
   some (Ctl.next (b25,s23.2+1))
  else
   some (Ctl.ret s23.1)) fuel ([],0)).bind fun b1 =>
 (Q2u c_.n b1).bind fun v40 =>
 some v40
theorem Q3T (c_:Cat) (r:List Int) (h:Q1k c_=some r):Contract Try.prog 195 [.agg (c_.cells true)] (lI r):=by
 refine Qe (rvs:=[.tmp 2]) (rs:=[lI r]) Try.func195 rfl rfl rfl rfl (by simp [Try.f195]) fun F hN hP=>?_;unfold Q1k at h;refine Q4 ?_;refine runQ hN fun K hK=>?_;simp [-Q0,-Q6,-Q1,-Q7,-Q2];repeat refine sdQ ?_
 refine hK _ ?_;clear hK K;refine tn ?_;refine Q8 (st':=⟨[(1,.adr 0 0 0)],[(0,.mix 5 [(Cat.cells true c_)])],1⟩) (wkQ9 [(0,0)]) ?_;refine Q4 ?_;refine runQ hN fun K hK=>?_;simp [-Q0,-Q6,-Q1,-Q7,-Q2];repeat refine sdQ ?_
 refine hK _ ?_;clear hK K;refine tn ?_;refine Q8 (st':=⟨[(1,.adr 0 0 0),(3,.own 1 0 0)],[(0,.mix 5 [(Cat.cells true c_)]),(1,.mix 1 [])],2⟩) (wkQ9 [(0,0),(1,1)]) ?_;refine Q4 ?_;refine Q4 ?_;refine runQ hN fun K hK=>?_;simp [-Q0,-Q6,-Q1,-Q7,-Q2];repeat refine sdQ ?_
 refine hK _ ?_;clear hK K;refine tn ?_;refine Q8 (st':=⟨[(1,.adr 0 0 0),(3,.own 1 0 0),(4,iV 0)],[(0,.mix 5 [(Cat.cells true c_)]),(1,.mix 1 [])],2⟩) (wkQ9 [(0,0),(1,1)]) ?_;replace h:=bind_some h;obtain ⟨e1,h,h1⟩:=h;refine Qh (fun b1:List (List Int)=>⟨[(1,.adr 0 0 0),(3,.own 1 0 b1.length)],[(0,.mix 5 [(Cat.cells true c_)]),(1,.row 1 (Ls b1))],2⟩) (fun b1=>b1=e1) ?_ ?_
 ·refine Qa ?_;refine Qs h (fun s23:List (List Int) × Int=>⟨[(1,.adr 0 0 0),(3,.own 1 0 s23.1.length),(4,iV s23.2)],[(0,.mix 5 [(Cat.cells true c_)]),(1,.row 1 (Ls s23.1))],2⟩) (Q2O ⟨[(1,.adr 0 0 0),(3,.own 1 0 0),(4,iV 0)],[(0,.mix 5 [(Cat.cells true c_)]),(1,.row 1 (Ls []))],2⟩ (Wk.nils [] (by simp) (by simp) (by simp [nlA]) (by simp [entN,nlL,nlA,Cat.cells,UA,U1,IA,I1,LA,L1,BA,B1,EA,E1,E2,eB,eI,eL]) (by simp)) (wkQ9 [(0,0),(1,1)])) ?_;clear h;intro k23 s23 c23 h hk23;refine Q4 ?_;refine Q4 ?_;refine runQ hN fun K hK=>?_;simp [-Q0,-Q6,-Q1,-Q7,-Q2];repeat refine sdQ ?_
  refine hK _ ?_;clear hK K;refine tn ?_;refine Q8 (st':=⟨[(1,.adr 0 0 0),(3,.own 1 0 s23.1.length),(4,iV s23.2),(10,.val (.bool (decide (s23.2<c_.n))))],[(0,.mix 5 [(Cat.cells true c_)]),(1,.row 1 (Ls s23.1))],2⟩) (wkQ9 [(0,0),(1,1)]) ?_;refine Qc rfl (fun g=>?_) fun g=>?_
  ·have g24:s23.2<c_.n:=gQ;clear g;replace h:=if_l g24 h;refine Qd ?_;refine tn ?_;refine Q4 ?_;replace h:=bind_some h;obtain ⟨e25,h,h25⟩:=h;refine Qh (fun b25:List (List Int)=>⟨[(1,.adr 0 0 0),(3,.own 1 0 b25.length),(4,iV s23.2)],[(0,.mix 5 [(Cat.cells true c_)]),(1,.row 1 (Ls b25))],2⟩) (fun b25=>b25=e25) ?_ ?_
   ·refine Qa ?_;refine Q4 ?_;refine runQ hN fun K hK=>?_;simp [-Q0,-Q6,-Q1,-Q7,-Q2];(repeat refine sdQ ?_);refine hK _ ?_;clear hK K;refine tn ?_;refine Q8 (st':=⟨[(1,.adr 0 0 0),(3,.own 1 0 s23.1.length),(4,iV s23.2),(5,iV 0)],[(0,.mix 5 [(Cat.cells true c_)]),(1,.row 1 (Ls s23.1))],2⟩) (wkQ9 [(0,0),(1,1)]) ?_;refine Qa ?_;replace h:=bind_some h;obtain ⟨e32,he32,h32⟩:=h;refine Qs he32 (fun s32:List (List Int) × Int=>⟨[(1,.adr 0 0 0),(3,.own 1 0 s32.1.length),(4,iV s23.2),(5,iV s32.2)],[(0,.mix 5 [(Cat.cells true c_)]),(1,.row 1 (Ls s32.1))],2⟩) (wkQ9 [(0,0),(1,1)]) ?_;intro k32 s32 c32 h hk32;refine Q4 ?_;refine Q4 ?_;refine runQ hN fun K hK=>?_;simp [-Q0,-Q6,-Q1,-Q7,-Q2];(repeat refine sdQ ?_);refine hK _ ?_;clear hK K;refine tn ?_;refine Q8 (st':=⟨[(1,.adr 0 0 0),(3,.own 1 0 s32.1.length),(4,iV s23.2),(5,iV s32.2),(15,.val (.bool (decide (s32.2<s23.2))))],[(0,.mix 5 [(Cat.cells true c_)]),(1,.row 1 (Ls s32.1))],2⟩) (wkQ9 [(0,0),(1,1)]) ?_;refine Qc rfl (fun g=>?_) fun g=>?_
    ·have g33:s32.2<s23.2:=gQ;clear g;replace h:=if_l g33 h;refine Qd ?_;refine tn ?_;refine Q4 ?_;replace h:=bind_some h;obtain ⟨e34,h,h34⟩:=h;refine Qh (fun b34:List (List Int)=>⟨[(1,.adr 0 0 0),(3,.own 1 0 b34.length),(4,iV s23.2),(5,iV s32.2)],[(0,.mix 5 [(Cat.cells true c_)]),(1,.row 1 (Ls b34))],2⟩) (fun b34=>b34=e34) ?_ ?_
     ·refine Qa ?_;refine Q4 ?_;refine runQ hN fun K hK=>?_;simp [-Q0,-Q6,-Q1,-Q7,-Q2];(repeat with_reducible refine sdQ ?_);replace h:=bind_some h;obtain ⟨v35,hv35,h⟩:=h;refine Q3 (Q78 _ _ _ v35 hv35) (.cons (.aggL (.cons .val (.cons .lst (.cons .lst (.cons .lst (.cons .lst .nil)))))) (.cons .val (.cons .val .nil))) ?_;simp [-Q0,-Q6,-Q1,-Q7,-Q2,unk,unA,unE,unT,unC,flat];(repeat refine sdQ ?_);refine hK _ ?_;clear hK K;refine tn ?_;refine Q8 (st':=⟨[(1,.adr 0 0 0),(3,.own 1 0 s32.1.length),(4,iV s23.2),(5,iV s32.2),(21,.val (.bool v35))],[(0,.mix 5 [(Cat.cells true c_)]),(1,.row 1 (Ls s32.1))],2⟩) (wkQ9 [(0,0),(1,1)]) ?_;refine Qc rfl (fun g=>?_) fun g=>?_
      ·have g36:v35=true:=gQ;clear g;replace h:=if_l g36 h;refine runQ hN fun K hK=>?_;replace h:=Q5 h;obtain ⟨a37,h⟩:=h;(try simp only [List.length_append,List.length_cons,List.length_nil] at a37);simp [-Q0,-Q6,-Q1,-Q7,-Q2,a37];(repeat refine sdQ ?_);refine hK _ ?_;clear hK K;refine bn ?_;exact jn (b:=s32.1++[[s32.2,s23.2]]) (Option.some.inj h) (wkQ9 [(0,0),(4,1)])
      have g36:¬ (v35=true):=gQ;clear g;replace h:=if_r g36 h;refine Qd ?_;refine bn ?_;exact jn (b:=s32.1) (Option.some.inj h) (wkQ9 [(0,0),(1,1)])
     intro b34 hb34;have h:=h34;(try rw [← hb34] at h);clear h34;(try dsimp only at h);refine runQ hN fun K hK=>?_;replace h:=Q5 h;obtain ⟨a38,h⟩:=h;simp [-Q0,-Q6,-Q1,-Q7,-Q2,Qp a38];(repeat refine sdQ ?_);refine hK _ ?_;clear hK K;cases h;exact rn (s':=(b34,s32.2+1)) hk32 (wkQ9 [(0,0),(1,1)])
    have g33:¬ (s32.2<s23.2):=gQ;clear g;replace h:=if_r g33 h;refine Qj ?_;refine tx ?_;refine lx ?_;refine bh ?_;refine bn ?_;cases h;have q:_=e32:=hk32;have h:=h32;rw [← q] at h;clear q;(try dsimp only at h);exact jn (b:=s32.1) (Option.some.inj h) (wkQ9 [(0,0),(1,1)])
   intro b25 hb25;have h:=h25;(try rw [← hb25] at h);clear h25;(try dsimp only at h);refine runQ hN fun K hK=>?_;replace h:=Q5 h;obtain ⟨a39,h⟩:=h;simp [-Q0,-Q6,-Q1,-Q7,-Q2,Qp a39];(repeat refine sdQ ?_);refine hK _ ?_;clear hK K;cases h;exact rn (s':=(b25,s23.2+1)) hk23 (wkQ9 [(0,0),(1,1)])
  have g24:¬ (s23.2<c_.n):=gQ;clear g;replace h:=if_r g24 h;refine Qj ?_;refine tx ?_;refine lx ?_;refine bh ?_;cases h;exact jn (b:=s23.1) hk23 (wkQ9 [(0,0),(1,1)])
 intro b1 hb1;have h:=h1;try rw [← hb1] at h
 clear h1;try dsimp only at h
 refine Q4 ?_;refine runQ hN fun K hK=>?_;simp [-Q0,-Q6,-Q1,-Q7,-Q2];repeat with_reducible refine sdQ ?_
 replace h:=bind_some h;obtain ⟨v40,hv40,h⟩:=h;refine Q3 (Q7L _ _ v40 hv40) (.cons .val (.cons (.whole (by simp) (by simp) (by simp)) .nil)) ?_;simp [-Q0,-Q6,-Q1,-Q7,-Q2,unk,unA,unE,unT,unC,flat];repeat refine sdQ ?_
 refine hK _ ?_;clear hK K;refine tn ?_;refine Q8 (st':=⟨[(2,.own 0 0 v40.length)],[(0,rI v40)],1⟩) (wkQ9 [(2,0)]) ?_;refine Qi ?_;have hr:=Option.some.inj h;rw [← hr];refine ⟨_,(.tmp .nil),?_⟩;refine ⟨(.one rfl rfl .nil),[lI v40],[0],by simp [Cat.cells,UA,U1,IA,I1,LA,L1,BA,B1,EA,E1,E2,eB,eI,eL],by simp,(UpL.refl _)⟩
theorem e_alike {c:Cat} (hc:c.Is) {x y:Nat}:Q1o c x y=some (bo (Io c x y)):=by
 have ns:=hc.nums;unfold Q1o;rw [(e_homs hc x y).1];simp only [Option.bind_some];have hl:=Q85 c x y;refine fstI (homL c x y).length (fun q=>0≤inv c (ix (homL c x y) q)) (fun _=>Sum.inr true) (Sum.inl ()) (by omega) (fun q hq=>?_) (by rw [if_neg (by omega)]) ?_
 ·have a:=Q6F hq;rw [if_pos (by omega),Q9 (by omega),Q3p hc a.1.1 a.1.2];simp only [Option.bind_some]
  by_cases h:0≤inv c (ix (homL c x y) q)
  ·rw [if_pos h,QO h];rfl
  rw [if_neg h,QB h,Q9 (by unfold B64;omega)];rfl
 by_cases h:Io c x y
 ·obtain ⟨a,ha,hi⟩:=h;have hm:a∈homL c x y:=mem_flt.2 ⟨a.toNat,by have:=ha.1;omega,by rw [Int.toNat_of_nonneg ha.1.1];exact ha.2,(Int.toNat_of_nonneg ha.1.1).symm⟩;obtain ⟨q,hq,e⟩:=List.getElem_of_mem hm;rcases Q20 (homL c x y).length (fun q=>0≤inv c (ix (homL c x y) q)) with ⟨_,z⟩|⟨k,_,_,z⟩
  ·exact absurd (by rw [← QN _ _ hq,e];exact hi) (z q hq)
  rw [z,if_pos (by omega),QO (show Io c x y from ⟨a,ha,hi⟩)]
 rw [Q81 fun q hq z=>h ⟨_,Q6F hq,z⟩,QB h];rfl
structure PP (c:Cat) (L:List (List Int)) (i k:Nat):Prop where
 a:∀ p∈L,∃ y x:Nat,p=[(y:Int),(x:Int)]∧Io c x y
 b:∀ y x:Nat,y<x→x<i→Io c x y→[(y:Int),(x:Int)]∈L
 d:∀ y:Nat,y<k→Io c i y→[(y:Int),(i:Int)]∈L
 len:L.length≤i * 8+k
def rlb (l:List Int) (a b:Int) (i:Nat):List Int:=tab l.length fun z:Nat=>if z<i∧ix l z=b then a else ix l z
theorem tab_ix (l:List Int):tab l.length (fun z:Nat=>ix l z)=l:=by
 refine List.ext_getElem (by simp) fun i h1 h2=>?_;rw [QN l i h2];simp [tab]
theorem rlb_zero (l:List Int) (a b:Int):rlb l a b 0=l:=by
 have:rlb l a b 0=tab l.length (fun z:Nat=>ix l z):=Q5p fun i _=>by simp
 rw [this,tab_ix]
theorem rlb_all (l:List Int) (a b:Int):rlb l a b l.length=tab l.length fun z:Nat=>if ix l z=b then a else ix l z:=Q5p fun i hi=>by simp [hi]
theorem rlb_hit {l:List Int} {a b:Int} {i:Nat} (h:ix l i=b):(rlb l a b i).set i a=rlb l a b (i+1):=by
 refine List.ext_getElem (by simp [rlb]) fun j h1 h2=>?_;simp only [rlb,tab,List.getElem_set,List.getElem_map,List.getElem_range]
 by_cases e:i=j
 ·subst e;simp [h]
 have:(j<i)=(j<i+1):=propext ⟨fun _=>by omega,fun _=>by omega⟩;simp [e,this]
theorem rlb_miss {l:List Int} {a b:Int} {i:Nat} (h:¬ ix l i=b):rlb l a b i=rlb l a b (i+1):=Q5p fun j _=>by
 by_cases e:i=j
 ·subst e;simp [h]
 have:(j<i)=(j<i+1):=propext ⟨fun _=>by omega,fun _=>by omega⟩;simp [this]
structure LB (c:Cat) (l:List Int) (P:List (List Int)) (k:Nat):Prop where
 len:l.length=c.id.length
 io:∀ x y:Nat,x<c.id.length→y<c.id.length→ix l x=ix l y→Io c x y
 st:∀ q:Nat,q<k→∀ y x:Nat,rx P q=[(y:Int),(x:Int)]→ix l y=ix l x
theorem e_join {c:Cat} (hc:c.Is) {P:List (List Int)} (ha:∀ p∈P,∃ y x:Nat,p=[(y:Int),(x:Int)]∧Io c x y) (hb:∀ y x:Nat,y<x→x<c.id.length→Io c x y→[(y:Int),(x:Int)]∈P) (hl:P.length≤1000):Q2u c.n P=some (icls c):=by
 have ns:=hc.nums;unfold Q2u;refine tabg c.id.length (fun i:Nat=>(i:Int)) (e:=iota c.id.length) (by omega) (fun i hi=>by simp only;rw [if_pos (by omega)]) (by simp only;rw [if_neg (by omega)];rfl) ?_;refine Q1S (σ:=List Int × Int) (Q:=fun z=>z=some (icls c)) P.length (fun i s=>s.2=(i:Int)∧LB c s.1 P i) (fun e=>LB c e P P.length) (by omega) ⟨rfl,by simp,fun x y hx hy e=>?_,fun q hq=>by omega⟩ ?_ ?_ ?_
 ·rw [Q58 _ (by omega) (by omega),Q58 _ (by omega) (by omega)] at e;have:x=y:=by omega
  subst this;exact Io.refl hc hx
 ·rintro i ⟨l,k⟩ hi ⟨hk,h⟩
  simp only at hk h;subst hk;have hm:rx P i∈P:=by
   have:rx P i=P[i]:=(by simp [rx,List.getD_eq_getElem?_getD,hi]);rw [this];exact List.getElem_mem hi
  obtain ⟨y,x,ep,io⟩:=ha _ hm;have lt:=io.lt hc;have h0:ix [(y:Int),(x:Int)] 0=y:=rfl;have h1:ix [(y:Int),(x:Int)] 1=x:=rfl;have hll:=h.len;simp only;rw [if_pos (by omega),Q9 (by omega),ep,h0,h1,Q9 (by simp),Q9 (by omega),Q9 (by omega),Q9 (by simp),Q9 (by omega)];have new:∀ l2:List Int,l2.length=c.id.length→(∀ z:Nat,z<c.id.length→ix l2 z=if ix l z=ix l x then ix l y else ix l z)→LB c l2 P (i+1):=by
   intro l2 e1 e2;refine ⟨e1,fun z w hz hw e=>?_,fun q hq a b eq=>?_⟩
   ·rw [e2 z hz,e2 w hw] at e
    by_cases f1:ix l z=ix l x<;>by_cases f2:ix l w=ix l x
    ·exact h.io z w hz hw (by rw [f1,f2])
    ·rw [if_pos f1,if_neg f2] at e;exact ((h.io z x hz lt.1 f1).trans hc io).trans hc (h.io y w lt.2 hw e)
    ·rw [if_neg f1,if_pos f2] at e;exact ((h.io z y hz lt.2 e).trans hc (io.symm hc)).trans hc (h.io x w lt.1 hw f2.symm)
    rw [if_neg f1,if_neg f2] at e;exact h.io z w hz hw e
   by_cases e3:q=i
   ·subst e3;rw [ep] at eq;simp only [List.cons.injEq,and_true,Int.natCast_inj] at eq;obtain ⟨rfl,rfl⟩:=eq;rw [e2 y lt.2,e2 x lt.1];simp
   have:=h.st q (by omega) a b eq;have hq2:q<P.length:=(by omega);have hm2:rx P q∈P:=by
    have:rx P q=P[q]:=(by simp [rx,List.getD_eq_getElem?_getD,hq2]);rw [this];exact List.getElem_mem hq2
   obtain ⟨y',x',ep',io'⟩:=ha _ hm2;rw [ep'] at eq;simp only [List.cons.injEq,and_true,Int.natCast_inj] at eq;obtain ⟨rfl,rfl⟩:=eq;have lt':=io'.lt hc;rw [e2 y' lt'.2,e2 x' lt'.1,this]
  by_cases q:ix l y=ix l x
  ·have e:LB c l P (i+1):=new l hll fun z hz=>by
    split
    ·rename_i f;rw [f,q]
    rfl
   have run:(Qv (σ:=List Int × Int) (ε:=List Int) (fun s53 =>
     (
      if s53.2<(s53.1.length:Int) then
       some ((ix l y) != (ix l x))
      else
       some false:Option (Bool)).bind fun b54 =>
     if b54=true then
      (
       ass (0≤s53.2∧s53.2<(s53.1.length:Int)) <|
       if (ix s53.1 s53.2)=(ix l x) then
        ass (0≤s53.2∧s53.2<(s53.1.length:Int)) <|
        some (s53.1.set s53.2.toNat (ix l y))
       else
        some s53.1:Option (List Int)).bind fun b57 =>
      ass (B64 (s53.2+1)) <|
      some (Ctl.next (b57,s53.2+1))
     else
      some (Ctl.ret s53.1)) fuel (l,0))=some l:=by
    refine Q6c (fun _=>l) 0 rfl (by omega) (fun z hz=>by omega) ?_;simp only [q,bne_self_eq_false];split<;>simp
   rw [run];simp only [Option.bind_some];rw [Q9 (by unfold B64;omega)];exact .inl ⟨_,rfl,by push_cast;rfl,e⟩
  have run:(Qv (σ:=List Int × Int) (ε:=List Int) (fun s53 =>
    (
     if s53.2<(s53.1.length:Int) then
      some ((ix l y) != (ix l x))
     else
      some false:Option (Bool)).bind fun b54 =>
    if b54=true then
     (
      ass (0≤s53.2∧s53.2<(s53.1.length:Int)) <|
      if (ix s53.1 s53.2)=(ix l x) then
       ass (0≤s53.2∧s53.2<(s53.1.length:Int)) <|
       some (s53.1.set s53.2.toNat (ix l y))
      else
       some s53.1:Option (List Int)).bind fun b57 =>
     ass (B64 (s53.2+1)) <|
     some (Ctl.next (b57,s53.2+1))
    else
     some (Ctl.ret s53.1)) fuel (l,0))=some (tab c.id.length fun z:Nat=>if ix l z=ix l x then ix l y else ix l z):=by
   refine Q6c (fun i=>rlb l (ix l y) (ix l x) i) c.id.length (rlb_zero _ _ _).symm (by omega) (fun z hz=>?_) ?_
   ·have gl:(rlb l (ix l y) (ix l x) z).length=l.length:=(by simp [rlb]);have gz:ix (rlb l (ix l y) (ix l x) z) z=ix l z:=by
     unfold rlb;rw [Q59 _ _ (by omega)];simp
    simp only;rw [if_pos (by omega)];simp only [Option.bind_some];rw [if_pos (by simpa using q),Q9 (by omega),gz]
    by_cases f:ix l z=ix l x
    ·rw [if_pos f,Q9 (by omega)];simp only [Option.bind_some,Int.toNat_natCast];rw [Q9 (by unfold B64;omega),rlb_hit f]
    rw [if_neg f];simp only [Option.bind_some];rw [Q9 (by unfold B64;omega),rlb_miss f]
   have gl:(rlb l (ix l y) (ix l x) c.id.length).length=l.length:=(by simp [rlb]);simp only;rw [if_neg (by omega)];simp only [Option.bind_some,Bool.false_eq_true,if_false];rw [← hll,rlb_all]
  rw [run];simp only [Option.bind_some];rw [Q9 (by unfold B64;omega)];exact .inl ⟨_,rfl,by push_cast;rfl,new _ (by simp) fun z hz=>Q59 _ _ hz⟩
 ·rintro ⟨l,k⟩ ⟨hk,h⟩
  simp only at hk h;subst hk;simp only;rw [if_neg (by omega)];exact ⟨_,rfl,h⟩
 intro l h;rw [e_l01Cls h.len (Q5j hc) (fun x y hx hy=>?_) (by omega)]
 ·rfl
 rw [rho_iff hc hx hy];refine ⟨h.io x y hx hy,fun io=>?_⟩;have pr:∀ y x:Nat,y<x→x<c.id.length→Io c x y→ix l y=ix l x:=by
  intro y x hlt hx io;obtain ⟨q,hq,e⟩:=List.getElem_of_mem (hb y x hlt hx io);exact h.st q hq y x (by rw [← e];simp [rx,List.getD_eq_getElem?_getD,hq])
 rcases Nat.lt_trichotomy x y with f|f|f
 ·exact pr x y f hy (io.symm hc)
 ·rw [f]
 exact (pr y x f hx io).symm
theorem Q7X {c:Cat} (hc:c.Is):Q1k c=some (icls c):=by
 have ns:=hc.nums;unfold Q1k;refine Q1S (σ:=List (List Int) × Int) (Q:=fun z=>z=some (icls c)) c.id.length (fun i s=>s.2=(i:Int)∧PP c s.1 i 0) (fun e=>PP c e c.id.length 0) (by omega) ⟨rfl,fun p hp=>by simp at hp,fun y x _ hx=>by omega,fun y hy=>by omega,by simp⟩ ?_ ?_ ?_
 ·rintro i ⟨L,k⟩ hi ⟨hk,h⟩
  simp only at hk h;subst hk;simp only;rw [if_pos (by omega),Option.bind_assoc];have key:∃ L2,PP c L2 (i+1) 0∧(Qv (σ:=List (List Int) × Int) (ε:=List (List Int)) (fun s32 =>
     if s32.2<(i:Int) then
      (
       (Q1o c i s32.2).bind fun v35 =>
       if v35=true then
        ass ((s32.1++[[s32.2,(i:Int)]]).length≤1073741824) <|
        some (s32.1++[[s32.2,(i:Int)]])
       else
        some s32.1:Option (List (List Int))).bind fun b34 =>
      ass (B64 (s32.2+1)) <|
      some (Ctl.next (b34,s32.2+1))
     else
      some (Ctl.ret s32.1)) fuel (L,0))=some L2:=by
   obtain ⟨e,h1,h2⟩:=Q6R (σ:=List (List Int) × Int) (I:=fun q s=>s.2=(q:Int)∧PP c s.1 i q) (J:=fun e=>PP c e i i) (n:=i) (body:=fun s32 =>
     if s32.2<(i:Int) then
      (
       (Q1o c i s32.2).bind fun v35 =>
       if v35=true then
        ass ((s32.1++[[s32.2,(i:Int)]]).length≤1073741824) <|
        some (s32.1++[[s32.2,(i:Int)]])
       else
        some s32.1:Option (List (List Int))).bind fun b34 =>
      ass (B64 (s32.2+1)) <|
      some (Ctl.next (b34,s32.2+1))
     else
      some (Ctl.ret s32.1)) (by
    rintro q ⟨M,k⟩ hq ⟨hk,hM⟩
    simp only at hk hM;subst hk;have ll:=hM.len;simp only;rw [if_pos (by omega),e_alike hc];simp only [Option.bind_some]
    by_cases io:Io c i q
    ·rw [QO io,if_pos rfl,Q9 (by simp;omega)];simp only [Option.bind_some];rw [Q9 (by unfold B64;omega)];refine .inl ⟨_,rfl,by push_cast;rfl,fun p hp=>?_,fun y x hy hx hio=>List.mem_append_left _ (hM.b y x hy hx hio),fun y hy hio=>?_,by simp;omega⟩
     ·rcases List.mem_append.1 hp with hp|hp
      ·exact hM.a p hp
      simp only [List.mem_singleton] at hp;exact ⟨q,i,hp,io⟩
     by_cases z:y=q
     ·subst z;simp
     exact List.mem_append_left _ (hM.d y (by omega) hio)
    ·rw [QB io];simp only [Bool.false_eq_true,if_false,Option.bind_some];rw [Q9 (by unfold B64;omega)];refine .inl ⟨_,rfl,by push_cast;rfl,hM.a,hM.b,fun y hy hio=>?_,by show M.length≤_;omega⟩;have:y ≠ q:=fun z=>io (by rw [← z];exact hio);exact hM.d y (by omega) hio) (by
    rintro ⟨M,k⟩ ⟨hk,hM⟩
    simp only at hk hM;subst hk;simp only;rw [if_neg (by omega)];exact ⟨_,rfl,hM⟩) i 0 (L,0) fuel (by omega) (by unfold fuel;omega) ⟨rfl,h⟩
   refine ⟨e,⟨h2.a,fun y x hy hx hio=>?_,fun y hy=>by omega,by have:=h2.len;omega⟩,h1⟩
   by_cases z:x=i
   ·subst z;exact h2.d y hy hio
   exact h2.b y x hy (by omega) hio
  obtain ⟨L2,h1,h2⟩:=key;rw [h2];simp only [Option.bind_some];rw [Q9 (by unfold B64;omega)];exact .inl ⟨_,rfl,by push_cast;rfl,h1⟩
 ·rintro ⟨L,k⟩ ⟨hk,h⟩
  simp only at hk h;subst hk;simp only;rw [if_neg (by omega)];exact ⟨_,rfl,h⟩
 intro L h;rw [e_join hc h.a (fun y x hy hx io=>h.b y x hy hx io) (by have:=h.len;omega)];rfl
attribute [local simp] eL eI Qn
noncomputable def Q4v (list_:List Int) (n_:Int):Option Bool :=
 (Qv (σ:=Int) (ε:=Unit ⊕ Bool) (fun s6 =>
  if s6<(list_.length:Int) then
   ass (0≤s6∧s6<(list_.length:Int)) <|
   if (ix list_ s6)=n_ then
    some (Ctl.ret (Sum.inr true))
   else
    ass (B64 (s6+1)) <|
    some (Ctl.next (s6+1))
  else
   some (Ctl.ret (Sum.inl ()))) fuel 0).bind fun e1 =>
 match e1 with
 | .inl b1 =>
  some false
 | .inr p1 =>
  some p1
theorem w_i_has (list_:List Int) (n_:Int) (r:Bool) (h:Q4v list_ n_=some r):Contract Try.prog 217 [lI list_,iV n_] (.val (.bool r)):=by
 refine Qe (rvs:=[.tmp 4]) (rs:=[.val (.bool r)]) Try.func217 rfl rfl rfl rfl (by simp [Try.f217]) fun F hN hP=>?_;unfold Q4v at h;refine Q4 ?_;refine runQ hN fun K hK=>?_;simp [-Q0,-Q6,-Q1,-Q7,-Q2];repeat refine sdQ ?_
 refine hK _ ?_;clear hK K;refine tn ?_;refine Q8 (st':=⟨[(0,lI list_),(1,iV n_)],[],0⟩) (wkQ9 []) ?_;refine Q4 ?_;refine Q4 ?_;refine runQ hN fun K hK=>?_;simp [-Q0,-Q6,-Q1,-Q7,-Q2];repeat refine sdQ ?_
 refine hK _ ?_;clear hK K;refine tn ?_;refine Q8 (st':=⟨[(1,iV n_),(7,lI list_),(8,iV (list_.length:Int)),(9,iV 0)],[],0⟩) (wkQ9 []) ?_;replace h:=bind_some h;obtain ⟨e1,h,h1⟩:=h;refine Qh (fun b1:Unit=>⟨[],[],0⟩) (fun b1=>Sum.inl b1=e1) ?_ ?_
 ·refine Qa ?_;refine Qs h (fun s6:Int=>⟨[(1,iV n_),(7,lI list_),(8,iV (list_.length:Int)),(9,iV s6)],[],0⟩) (wkQ9 []) ?_;clear h;intro k6 s6 c6 h hk6;refine Q4 ?_;refine runQ hN fun K hK=>?_;simp [-Q0,-Q6,-Q1,-Q7,-Q2];repeat refine sdQ ?_
  refine hK _ ?_;clear hK K;refine tn ?_;refine Q8 (st':=⟨[(1,iV n_),(7,lI list_),(8,iV (list_.length:Int)),(9,iV s6),(10,.val (.bool (decide (s6<(list_.length:Int)))))],[],0⟩) (wkQ9 []) ?_;refine Q4 ?_;refine Qc rfl (fun g=>?_) fun g=>?_
  ·have g7:s6<(list_.length:Int):=gQ;clear g;replace h:=if_l g7 h;refine Qd ?_;refine tn ?_;refine Q4 ?_;refine Qa ?_;refine Q4 ?_;refine runQ hN fun K hK=>?_;replace h:=Q5 h;obtain ⟨a8,h⟩:=h;simp [-Q0,-Q6,-Q1,-Q7,-Q2,at_I a8];(repeat refine sdQ ?_);refine hK _ ?_;clear hK K;refine tn ?_;refine Q8 (st':=⟨[(1,iV n_),(6,iV (ix list_ s6)),(7,lI list_),(8,iV (list_.length:Int)),(9,iV s6)],[],0⟩) (wkQ9 []) ?_;refine Q4 ?_;refine runQ hN fun K hK=>?_;simp [-Q0,-Q6,-Q1,-Q7,-Q2];(repeat refine sdQ ?_);refine hK _ ?_;clear hK K;refine tn ?_;refine Q8 (st':=⟨[(1,iV n_),(7,lI list_),(8,iV (list_.length:Int)),(9,iV s6),(15,.val (.bool ((ix list_ s6) == n_)))],[],0⟩) (wkQ9 []) ?_;refine Qc rfl (fun g=>?_) fun g=>?_
   ·have g9:(ix list_ s6)=n_:=gQ;clear g;replace h:=if_l g9 h;refine Q4 ?_;refine runQ hN fun K hK=>?_;simp [-Q0,-Q6,-Q1,-Q7,-Q2];(repeat refine sdQ ?_);refine hK _ ?_;clear hK K;refine tn ?_;refine Q8 (st':=⟨[(4,.val (.bool true))],[],0⟩) (wkQ9 []) ?_;refine Qi ?_;refine br ?_;refine tr ?_;refine lr ?_;refine br ?_;refine tr ?_;cases h;have q:_=e1:=hk6;have h:=h1;rw [← q] at h;clear q;(try dsimp only at h);have hr:=Option.some.inj h;rw [← hr];refine ⟨_,(.tmp .nil),?_⟩;refine ⟨(.one rfl rfl .nil),[.val (.bool true)],[],by simp [UA,U1,IA,I1,LA,L1,BA,B1,EA,E1,E2,eB,eI,eL],by simp,(UpL.refl _)⟩
   have g9:¬ ((ix list_ s6)=n_):=gQ;clear g;replace h:=if_r g9 h;refine Qd ?_;refine bn ?_;refine tn ?_;refine runQ hN fun K hK=>?_;replace h:=Q5 h;obtain ⟨a10,h⟩:=h;simp [-Q0,-Q6,-Q1,-Q7,-Q2,Qp a10];(repeat refine sdQ ?_);refine hK _ ?_;clear hK K;cases h;exact rn (s':=s6+1) hk6 (wkQ9 [])
  have g7:¬ (s6<(list_.length:Int)):=gQ;clear g;replace h:=if_r g7 h;refine Qj ?_;refine tx ?_;refine lx ?_;refine bh ?_;cases h;exact jn (b:=()) hk6 (wkQ9 [])
 intro b1 hb1;have h:=h1;try rw [← hb1] at h
 clear h1;try dsimp only at h
 refine Q4 ?_;refine runQ hN fun K hK=>?_;simp [-Q0,-Q6,-Q1,-Q7,-Q2];repeat refine sdQ ?_
 refine hK _ ?_;clear hK K;refine tn ?_;refine Q8 (st':=⟨[(4,.val (.bool false))],[],0⟩) (wkQ9 []) ?_;refine Qi ?_;have hr:=Option.some.inj h;rw [← hr];refine ⟨_,(.tmp .nil),?_⟩;refine ⟨(.one rfl rfl .nil),[.val (.bool false)],[],by simp [UA,U1,IA,I1,LA,L1,BA,B1,EA,E1,E2,eB,eI,eL],by simp,(UpL.refl _)⟩
attribute [local simp] eL eI Qn QC Cat.cells
noncomputable def QP (c_:Cat) (objects_:List Int):Option (List Int) :=
 (Qv (σ:=List Int × Int) (ε:=List Int) (fun s13 =>
  if s13.2<(c_.fr.length:Int) then
   (
    (
     ass (0≤s13.2∧s13.2<(c_.fr.length:Int)) <|
     (Q4v objects_ (ix c_.fr s13.2)).bind fun v18 =>
     if v18=true then
      ass (0≤s13.2∧s13.2<(c_.to.length:Int)) <|
      (Q4v objects_ (ix c_.to s13.2)).bind fun v21 =>
      some v21
     else
      some false:Option (Bool)).bind fun b16 =>
    if b16=true then
     ass ((s13.1++[s13.2]).length≤1073741824) <|
     some (s13.1++[s13.2])
    else
     some s13.1:Option (List Int)).bind fun b15 =>
   ass (B64 (s13.2+1)) <|
   some (Ctl.next (b15,s13.2+1))
  else
   some (Ctl.ret s13.1)) fuel ([],0)).bind fun b1 =>
 some b1
theorem Q3P (c_:Cat) (objects_:List Int) (r:List Int) (h:QP c_ objects_=some r):Contract Try.prog 200 [.rptr (c_.cells true),lI objects_] (lI r):=by
 refine Qe (rvs:=[.tmp 4]) (rs:=[lI r]) Try.func200 rfl rfl rfl rfl (by simp [Try.f200]) fun F hN hP=>?_;unfold QP at h;refine Q4 ?_;refine runQ hN fun K hK=>?_;simp [-Q0,-Q6,-Q1,-Q7,-Q2];repeat refine sdQ ?_
 refine hK _ ?_;clear hK K;refine tn ?_;refine Q8 (st':=⟨[(0,.rptr (Cat.cells true c_)),(1,lI objects_)],[],0⟩) (wkQ9 []) ?_;refine Q4 ?_;refine runQ hN fun K hK=>?_;simp [-Q0,-Q6,-Q1,-Q7,-Q2];repeat refine sdQ ?_
 refine hK _ ?_;clear hK K;refine tn ?_;refine Q8 (st':=⟨[(0,.rptr (Cat.cells true c_)),(1,lI objects_),(5,.own 0 0 0)],[(0,.mix 1 [])],1⟩) (wkQ9 [(0,0)]) ?_;refine Q4 ?_;refine Q4 ?_;refine runQ hN fun K hK=>?_;simp [-Q0,-Q6,-Q1,-Q7,-Q2];repeat refine sdQ ?_
 refine hK _ ?_;clear hK K;refine tn ?_;refine Q8 (st':=⟨[(0,.rptr (Cat.cells true c_)),(1,lI objects_),(5,.own 0 0 0),(12,iV (c_.fr.length:Int)),(13,iV 0)],[(0,.mix 1 [])],1⟩) (wkQ9 [(0,0)]) ?_;replace h:=bind_some h;obtain ⟨e1,h,h1⟩:=h;refine Qh (fun b1:List Int=>⟨[(5,.own 0 0 b1.length)],[(0,rI b1)],1⟩) (fun b1=>b1=e1) ?_ ?_
 ·refine Qa ?_;refine Qs h (fun s13:List Int × Int=>⟨[(0,.rptr (Cat.cells true c_)),(1,lI objects_),(5,.own 0 0 s13.1.length),(12,iV (c_.fr.length:Int)),(13,iV s13.2)],[(0,rI s13.1)],1⟩) (Q2O ⟨[(0,.rptr (Cat.cells true c_)),(1,lI objects_),(5,.own 0 0 0),(12,iV (c_.fr.length:Int)),(13,iV 0)],[(0,rI [])],1⟩ (Wk.nils [] (by simp) (by simp) (by simp [nlA]) (by simp [entN,nlL,nlA,Cat.cells,UA,U1,IA,I1,LA,L1,BA,B1,EA,E1,E2,eB,eI,eL]) (by simp)) (wkQ9 [(0,0)])) ?_;clear h;intro k13 s13 c13 h hk13;refine Q4 ?_;refine runQ hN fun K hK=>?_;simp [-Q0,-Q6,-Q1,-Q7,-Q2];repeat refine sdQ ?_
  refine hK _ ?_;clear hK K;refine tn ?_;refine Q8 (st':=⟨[(0,.rptr (Cat.cells true c_)),(1,lI objects_),(5,.own 0 0 s13.1.length),(12,iV (c_.fr.length:Int)),(13,iV s13.2),(14,.val (.bool (decide (s13.2<(c_.fr.length:Int)))))],[(0,rI s13.1)],1⟩) (wkQ9 [(0,0)]) ?_;refine Q4 ?_;refine Qc rfl (fun g=>?_) fun g=>?_
  ·have g14:s13.2<(c_.fr.length:Int):=gQ;clear g;replace h:=if_l g14 h;refine Qd ?_;refine tn ?_;refine Q4 ?_;replace h:=bind_some h;obtain ⟨e15,h,h15⟩:=h;refine Qh (fun b15:List Int=>⟨[(0,.rptr (Cat.cells true c_)),(1,lI objects_),(5,.own 0 0 b15.length),(12,iV (c_.fr.length:Int)),(13,iV s13.2)],[(0,rI b15)],1⟩) (fun b15=>b15=e15) ?_ ?_
   ·refine Qa ?_;refine Q4 ?_;refine runQ hN fun K hK=>?_;simp [-Q0,-Q6,-Q1,-Q7,-Q2];(repeat refine sdQ ?_);refine hK _ ?_;clear hK K;refine tn ?_;refine Q8 (st':=⟨[(0,.rptr (Cat.cells true c_)),(1,lI objects_),(5,.own 0 0 s13.1.length),(6,iV s13.2),(12,iV (c_.fr.length:Int)),(13,iV s13.2)],[(0,rI s13.1)],1⟩) (wkQ9 [(0,0)]) ?_;refine Q4 ?_;replace h:=bind_some h;obtain ⟨e16,h,h16⟩:=h;refine Qh (fun b16:Bool=>⟨[(0,.rptr (Cat.cells true c_)),(1,lI objects_),(5,.own 0 0 s13.1.length),(6,iV s13.2),(12,iV (c_.fr.length:Int)),(13,iV s13.2),(35,.val (.bool b16))],[(0,rI s13.1)],1⟩) (fun b16=>b16=e16) ?_ ?_
    ·refine runQ hN fun K hK=>?_;replace h:=Q5 h;obtain ⟨a17,h⟩:=h;simp [-Q0,-Q6,-Q1,-Q7,-Q2,at_I a17];(repeat with_reducible refine sdQ ?_);replace h:=bind_some h;obtain ⟨v18,hv18,h⟩:=h;refine Q3 (w_i_has _ _ v18 hv18) (.cons .lst (.cons .val .nil)) ?_;simp [-Q0,-Q6,-Q1,-Q7,-Q2,unk,unA,unE,unT,unC,flat,at_I a17];(repeat with_reducible refine sdQ ?_);refine Qw (fun g=>?_) (fun g=>?_)
     ·have g19:v18=true:=gQ;clear g;replace h:=if_l g19 h;replace h:=Q5 h;obtain ⟨a20,h⟩:=h;simp [-Q0,-Q6,-Q1,-Q7,-Q2,at_I a17,at_I a20];(repeat with_reducible refine sdQ ?_);replace h:=bind_some h;obtain ⟨v21,hv21,h⟩:=h;refine Q3 (w_i_has _ _ v21 hv21) (.cons .lst (.cons .val .nil)) ?_;simp [-Q0,-Q6,-Q1,-Q7,-Q2,unk,unA,unE,unT,unC,flat,at_I a17,at_I a20];(repeat refine sdQ ?_);refine hK _ ?_;exact jn (b:=v21) (Option.some.inj h) (wkQ9 [(0,0)])
     have g19:¬ (v18=true):=gQ;clear g;replace h:=if_r g19 h;simp [-Q0,-Q6,-Q1,-Q7,-Q2,at_I a17];(repeat refine sdQ ?_);refine hK _ ?_;exact jn (b:=false) (Option.some.inj h) (wkQ9 [(0,0)])
    intro b16 hb16;have h:=h16;(try rw [← hb16] at h);clear h16;(try dsimp only at h);refine Qc rfl (fun g=>?_) fun g=>?_
    ·have g22:b16=true:=gQ;clear g;replace h:=if_l g22 h;refine runQ hN fun K hK=>?_;replace h:=Q5 h;obtain ⟨a23,h⟩:=h;(try simp only [List.length_append,List.length_cons,List.length_nil] at a23);simp [-Q0,-Q6,-Q1,-Q7,-Q2,a23];(repeat refine sdQ ?_);refine hK _ ?_;clear hK K;refine bn ?_;exact jn (b:=s13.1++[s13.2]) (Option.some.inj h) (wkQ9 [(2,0)])
    have g22:¬ (b16=true):=gQ;clear g;replace h:=if_r g22 h;refine Qd ?_;refine bn ?_;exact jn (b:=s13.1) (Option.some.inj h) (wkQ9 [(0,0)])
   intro b15 hb15;have h:=h15;(try rw [← hb15] at h);clear h15;(try dsimp only at h);refine runQ hN fun K hK=>?_;replace h:=Q5 h;obtain ⟨a24,h⟩:=h;simp [-Q0,-Q6,-Q1,-Q7,-Q2,Qp a24];(repeat refine sdQ ?_);refine hK _ ?_;clear hK K;cases h;exact rn (s':=(b15,s13.2+1)) hk13 (wkQ9 [(0,0)])
  have g14:¬ (s13.2<(c_.fr.length:Int)):=gQ;clear g;replace h:=if_r g14 h;refine Qj ?_;refine tx ?_;refine lx ?_;refine bh ?_;cases h;exact jn (b:=s13.1) hk13 (wkQ9 [(0,0)])
 intro b1 hb1;have h:=h1;try rw [← hb1] at h
 clear h1;try dsimp only at h
 refine Q4 ?_;refine runQ hN fun K hK=>?_;simp [-Q0,-Q6,-Q1,-Q7,-Q2];repeat refine sdQ ?_
 refine hK _ ?_;clear hK K;refine tn ?_;refine Q8 (st':=⟨[(4,.own 0 0 b1.length)],[(0,rI b1)],1⟩) (wkQ9 [(0,0)]) ?_;refine Qi ?_;have hr:=Option.some.inj h;rw [← hr];refine ⟨_,(.tmp .nil),?_⟩;refine ⟨(.one rfl rfl .nil),[lI b1],[0],by simp [Cat.cells,UA,U1,IA,I1,LA,L1,BA,B1,EA,E1,E2,eB,eI,eL],by simp,(UpL.refl _)⟩
attribute [local simp] eL eI Qn QC Cat.cells
noncomputable def Q1C (c_:Cat) (objects_:List Int):Option (List Int) :=
 (Qv (σ:=List Int × Int) (ε:=List Int) (fun s13 =>
  if s13.2<(c_.fr.length:Int) then
   (
    (
     ass (0≤s13.2∧s13.2<(c_.fr.length:Int)) <|
     (Q1U objects_ (ix c_.fr s13.2)).bind fun v18 =>
     if v18=true then
      ass (0≤s13.2∧s13.2<(c_.to.length:Int)) <|
      (Q1U objects_ (ix c_.to s13.2)).bind fun v21 =>
      some v21
     else
      some false:Option (Bool)).bind fun b16 =>
    if b16=true then
     ass ((s13.1++[s13.2]).length≤1073741824) <|
     some (s13.1++[s13.2])
    else
     some s13.1:Option (List Int)).bind fun b15 =>
   ass (B64 (s13.2+1)) <|
   some (Ctl.next (b15,s13.2+1))
  else
   some (Ctl.ret s13.1)) fuel ([],0)).bind fun b1 =>
 some b1
theorem Q45 (c_:Cat) (objects_:List Int) (r:List Int) (h:Q1C c_ objects_=some r):Contract Try.prog 150 [.agg (c_.cells true),lI objects_] (lI r):=by
 refine Qe (rvs:=[.tmp 4]) (rs:=[lI r]) Try.func150 rfl rfl rfl rfl (by simp [Try.f150]) fun F hN hP=>?_;unfold Q1C at h;refine Q4 ?_;refine runQ hN fun K hK=>?_;simp [-Q0,-Q6,-Q1,-Q7,-Q2];repeat refine sdQ ?_
 refine hK _ ?_;clear hK K;refine tn ?_;refine Q8 (st':=⟨[(1,lI objects_),(2,.adr 0 0 0)],[(0,.mix 5 [(Cat.cells true c_)])],1⟩) (wkQ9 [(0,0)]) ?_;refine Q4 ?_;refine runQ hN fun K hK=>?_;simp [-Q0,-Q6,-Q1,-Q7,-Q2];repeat refine sdQ ?_
 refine hK _ ?_;clear hK K;refine tn ?_;refine Q8 (st':=⟨[(1,lI objects_),(2,.adr 0 0 0),(5,.own 1 0 0)],[(0,.mix 5 [(Cat.cells true c_)]),(1,.mix 1 [])],2⟩) (wkQ9 [(0,0),(1,1)]) ?_;refine Q4 ?_;refine Q4 ?_;refine runQ hN fun K hK=>?_;simp [-Q0,-Q6,-Q1,-Q7,-Q2];repeat refine sdQ ?_
 refine hK _ ?_;clear hK K;refine tn ?_;refine Q8 (st':=⟨[(1,lI objects_),(2,.adr 0 0 0),(5,.own 1 0 0),(6,iV 0)],[(0,.mix 5 [(Cat.cells true c_)]),(1,.mix 1 [])],2⟩) (wkQ9 [(0,0),(1,1)]) ?_;replace h:=bind_some h;obtain ⟨e1,h,h1⟩:=h;refine Qh (fun b1:List Int=>⟨[(5,.own 0 0 b1.length)],[(0,rI b1)],1⟩) (fun b1=>b1=e1) ?_ ?_
 ·refine Qa ?_;refine Qs h (fun s13:List Int × Int=>⟨[(1,lI objects_),(2,.adr 0 0 0),(5,.own 1 0 s13.1.length),(6,iV s13.2)],[(0,.mix 5 [(Cat.cells true c_)]),(1,rI s13.1)],2⟩) (Q2O ⟨[(1,lI objects_),(2,.adr 0 0 0),(5,.own 1 0 0),(6,iV 0)],[(0,.mix 5 [(Cat.cells true c_)]),(1,rI [])],2⟩ (Wk.nils [] (by simp) (by simp) (by simp [nlA]) (by simp [entN,nlL,nlA,Cat.cells,UA,U1,IA,I1,LA,L1,BA,B1,EA,E1,E2,eB,eI,eL]) (by simp)) (wkQ9 [(0,0),(1,1)])) ?_;clear h;intro k13 s13 c13 h hk13;refine Q4 ?_;refine Q4 ?_;refine runQ hN fun K hK=>?_;simp [-Q0,-Q6,-Q1,-Q7,-Q2];repeat refine sdQ ?_
  refine hK _ ?_;clear hK K;refine tn ?_;refine Q8 (st':=⟨[(1,lI objects_),(2,.adr 0 0 0),(5,.own 1 0 s13.1.length),(6,iV s13.2),(12,.val (.bool (decide (s13.2<(c_.fr.length:Int)))))],[(0,.mix 5 [(Cat.cells true c_)]),(1,rI s13.1)],2⟩) (wkQ9 [(0,0),(1,1)]) ?_;refine Qc rfl (fun g=>?_) fun g=>?_
  ·have g14:s13.2<(c_.fr.length:Int):=gQ;clear g;replace h:=if_l g14 h;refine Qd ?_;refine tn ?_;refine Q4 ?_;replace h:=bind_some h;obtain ⟨e15,h,h15⟩:=h;refine Qh (fun b15:List Int=>⟨[(1,lI objects_),(2,.adr 0 0 0),(5,.own 1 0 b15.length),(6,iV s13.2)],[(0,.mix 5 [(Cat.cells true c_)]),(1,rI b15)],2⟩) (fun b15=>b15=e15) ?_ ?_
   ·refine Qa ?_;refine Q4 ?_;replace h:=bind_some h;obtain ⟨e16,h,h16⟩:=h;refine Qh (fun b16:Bool=>⟨[(1,lI objects_),(2,.adr 0 0 0),(5,.own 1 0 s13.1.length),(6,iV s13.2),(30,.val (.bool b16))],[(0,.mix 5 [(Cat.cells true c_)]),(1,rI s13.1)],2⟩) (fun b16=>b16=e16) ?_ ?_
    ·refine runQ hN fun K hK=>?_;replace h:=Q5 h;obtain ⟨a17,h⟩:=h;simp [-Q0,-Q6,-Q1,-Q7,-Q2,at_I a17];(repeat with_reducible refine sdQ ?_);replace h:=bind_some h;obtain ⟨v18,hv18,h⟩:=h;refine Q3 (Q4z _ _ v18 hv18) (.cons .lst (.cons .val .nil)) ?_;simp [-Q0,-Q6,-Q1,-Q7,-Q2,unk,unA,unE,unT,unC,flat,at_I a17];(repeat with_reducible refine sdQ ?_);refine Qw (fun g=>?_) (fun g=>?_)
     ·have g19:v18=true:=gQ;clear g;replace h:=if_l g19 h;replace h:=Q5 h;obtain ⟨a20,h⟩:=h;simp [-Q0,-Q6,-Q1,-Q7,-Q2,at_I a17,at_I a20];(repeat with_reducible refine sdQ ?_);replace h:=bind_some h;obtain ⟨v21,hv21,h⟩:=h;refine Q3 (Q4z _ _ v21 hv21) (.cons .lst (.cons .val .nil)) ?_;simp [-Q0,-Q6,-Q1,-Q7,-Q2,unk,unA,unE,unT,unC,flat,at_I a17,at_I a20];(repeat refine sdQ ?_);refine hK _ ?_;exact jn (b:=v21) (Option.some.inj h) (wkQ9 [(0,0),(1,1)])
     have g19:¬ (v18=true):=gQ;clear g;replace h:=if_r g19 h;simp [-Q0,-Q6,-Q1,-Q7,-Q2,at_I a17];(repeat refine sdQ ?_);refine hK _ ?_;exact jn (b:=false) (Option.some.inj h) (wkQ9 [(0,0),(1,1)])
    intro b16 hb16;have h:=h16;(try rw [← hb16] at h);clear h16;(try dsimp only at h);refine Qc rfl (fun g=>?_) fun g=>?_
    ·have g22:b16=true:=gQ;clear g;replace h:=if_l g22 h;refine runQ hN fun K hK=>?_;replace h:=Q5 h;obtain ⟨a23,h⟩:=h;(try simp only [List.length_append,List.length_cons,List.length_nil] at a23);simp [-Q0,-Q6,-Q1,-Q7,-Q2,a23];(repeat refine sdQ ?_);refine hK _ ?_;clear hK K;refine bn ?_;exact jn (b:=s13.1++[s13.2]) (Option.some.inj h) (wkQ9 [(0,0),(3,1)])
    have g22:¬ (b16=true):=gQ;clear g;replace h:=if_r g22 h;refine Qd ?_;refine bn ?_;exact jn (b:=s13.1) (Option.some.inj h) (wkQ9 [(0,0),(1,1)])
   intro b15 hb15;have h:=h15;(try rw [← hb15] at h);clear h15;(try dsimp only at h);refine runQ hN fun K hK=>?_;replace h:=Q5 h;obtain ⟨a24,h⟩:=h;simp [-Q0,-Q6,-Q1,-Q7,-Q2,Qp a24];(repeat refine sdQ ?_);refine hK _ ?_;clear hK K;cases h;exact rn (s':=(b15,s13.2+1)) hk13 (wkQ9 [(0,0),(1,1)])
  have g14:¬ (s13.2<(c_.fr.length:Int)):=gQ;clear g;replace h:=if_r g14 h;refine Qj ?_;refine tx ?_;refine lx ?_;refine bh ?_;cases h;exact jn (b:=s13.1) hk13 (wkQ9 [(1,0)])
 intro b1 hb1;have h:=h1;try rw [← hb1] at h
 clear h1;try dsimp only at h
 refine Q4 ?_;refine runQ hN fun K hK=>?_;simp [-Q0,-Q6,-Q1,-Q7,-Q2];repeat refine sdQ ?_
 refine hK _ ?_;clear hK K;refine tn ?_;refine Q8 (st':=⟨[(4,.own 0 0 b1.length)],[(0,rI b1)],1⟩) (wkQ9 [(0,0)]) ?_;refine Qi ?_;have hr:=Option.some.inj h;rw [← hr];refine ⟨_,(.tmp .nil),?_⟩;refine ⟨(.one rfl rfl .nil),[lI b1],[0],by simp [Cat.cells,UA,U1,IA,I1,LA,L1,BA,B1,EA,E1,E2,eB,eI,eL],by simp,(UpL.refl _)⟩
attribute [local simp] eL eI Qn QC Cat.cells
noncomputable def Q2w (c_:Cat) (arrows_:List Int):Option Cat :=
 (Qv (σ:=List Int × Int) (ε:=List Int) (fun s9 =>
  if s9.2<c_.n then
   (
    ass (0≤s9.2∧s9.2<(c_.id.length:Int)) <|
    (Q1U arrows_ (ix c_.id s9.2)).bind fun v13 =>
    if v13=true then
     ass ((s9.1++[s9.2]).length≤1073741824) <|
     some (s9.1++[s9.2])
    else
     some s9.1:Option (List Int)).bind fun b11 =>
   ass (B64 (s9.2+1)) <|
   some (Ctl.next (b11,s9.2+1))
  else
   some (Ctl.ret s9.1)) fuel ([],0)).bind fun b1 =>
 (Qv (σ:=List Int × Int) (ε:=List Int) (fun s24 =>
  if s24.2<(b1.length:Int) then
   ass (0≤s24.2∧s24.2<(b1.length:Int)) <|
   ass (0≤ix b1 s24.2∧ix b1 s24.2<(c_.id.length:Int)) <|
   (QE arrows_ (ix c_.id (ix b1 s24.2))).bind fun v28 =>
   ass ((s24.1++[v28]).length≤1073741824) <|
   ass (B64 (s24.2+1)) <|
   some (Ctl.next (s24.1++[v28],s24.2+1))
  else
   some (Ctl.ret s24.1)) fuel ([],0)).bind fun b17 =>
 (Qv (σ:=List Int × List Int × List (List Int) × Int) (ε:=List Int × List Int × List (List Int)) (fun s61 =>
  if s61.2.2.2<(arrows_.length:Int) then
   ass (0≤s61.2.2.2∧s61.2.2.2<(arrows_.length:Int)) <|
   ass (0≤ix arrows_ s61.2.2.2∧ix arrows_ s61.2.2.2<(c_.fr.length:Int)) <|
   (QE b1 (ix c_.fr (ix arrows_ s61.2.2.2))).bind fun v65 =>
   ass ((s61.1++[v65]).length≤1073741824) <|
   ass (0≤s61.2.2.2∧s61.2.2.2<(arrows_.length:Int)) <|
   ass (0≤ix arrows_ s61.2.2.2∧ix arrows_ s61.2.2.2<(c_.to.length:Int)) <|
   (QE b1 (ix c_.to (ix arrows_ s61.2.2.2))).bind fun v69 =>
   ass ((s61.2.1++[v69]).length≤1073741824) <|
   (Qv (σ:=List Int × Int) (ε:=List Int) (fun s80 =>
    if s80.2<(arrows_.length:Int) then
     ass (0≤s61.2.2.2∧s61.2.2.2<(arrows_.length:Int)) <|
     ass (0≤ix arrows_ s61.2.2.2∧ix arrows_ s61.2.2.2<(c_.cs.length:Int)) <|
     ass (0≤s80.2∧s80.2<(arrows_.length:Int)) <|
     ass (0≤ix arrows_ s80.2∧ix arrows_ s80.2<((rx c_.cs (ix arrows_ s61.2.2.2)).length:Int)) <|
     (QE arrows_ (ix (rx c_.cs (ix arrows_ s61.2.2.2)) (ix arrows_ s80.2))).bind fun v86 =>
     ass ((s80.1++[v86]).length≤1073741824) <|
     ass (B64 (s80.2+1)) <|
     some (Ctl.next (s80.1++[v86],s80.2+1))
    else
     some (Ctl.ret s80.1)) fuel ([],0)).bind fun b71 =>
   ass ((s61.2.2.1++[b71]).length≤1073741824) <|
   ass (B64 (s61.2.2.2+1)) <|
   some (Ctl.next (s61.1++[v65],s61.2.1++[v69],s61.2.2.1++[b71],s61.2.2.2+1))
  else
   some (Ctl.ret (s61.1,s61.2.1,s61.2.2.1))) fuel ([],[],[],0)).bind fun b31 =>
 some (⟨(b1.length:Int),b31.1,b31.2.1,b17,b31.2.2⟩:Cat)
theorem Q7M (c_:Cat) (arrows_:List Int) (r:Cat) (h:Q2w c_ arrows_=some r):Contract Try.prog 199 [.agg (c_.cells true),lI arrows_] (.agg (r.cells true)):=by
 refine Qe (rvs:=[.cell 4 30]) (rs:=[.agg (r.cells true)]) Try.func199 rfl rfl rfl rfl (by simp [Try.f199]) fun F hN hP=>?_;unfold Q2w at h;refine Q4 ?_;refine runQ hN fun K hK=>?_;simp [-Q0,-Q6,-Q1,-Q7,-Q2];repeat refine sdQ ?_
 refine hK _ ?_;clear hK K;refine tn ?_;refine Q8 (st':=⟨[(1,lI arrows_),(2,.adr 0 0 0),(4,.adr 1 0 0)],[(0,.mix 5 [(Cat.cells true c_)]),(1,.mix 5 [[iV 0,.val (.slice none 0 0),.val (.slice none 0 0),.val (.slice none 0 0),.val (.slice none 0 0)]])],2⟩) (wkQ9 [(0,0),(1,1)]) ?_;refine Q4 ?_;refine runQ hN fun K hK=>?_;simp [-Q0,-Q6,-Q1,-Q7,-Q2];repeat refine sdQ ?_
 refine hK _ ?_;clear hK K;refine tn ?_;refine Q8 (st':=⟨[(1,lI arrows_),(2,.adr 0 0 0),(4,.adr 1 0 0),(5,.own 2 0 0)],[(0,.mix 5 [(Cat.cells true c_)]),(1,.mix 5 [[iV 0,.val (.slice none 0 0),.val (.slice none 0 0),.val (.slice none 0 0),.val (.slice none 0 0)]]),(2,.mix 1 [])],3⟩) (wkQ9 [(0,0),(1,1),(2,2)]) ?_;refine Q4 ?_;refine Q4 ?_;refine runQ hN fun K hK=>?_;simp [-Q0,-Q6,-Q1,-Q7,-Q2];repeat refine sdQ ?_
 refine hK _ ?_;clear hK K;refine tn ?_;refine Q8 (st':=⟨[(1,lI arrows_),(2,.adr 0 0 0),(4,.adr 1 0 0),(5,.own 2 0 0),(6,iV 0)],[(0,.mix 5 [(Cat.cells true c_)]),(1,.mix 5 [[iV 0,.val (.slice none 0 0),.val (.slice none 0 0),.val (.slice none 0 0),.val (.slice none 0 0)]]),(2,.mix 1 [])],3⟩) (wkQ9 [(0,0),(1,1),(2,2)]) ?_;replace h:=bind_some h;obtain ⟨e1,h,h1⟩:=h;refine Qh (fun b1:List Int=>⟨[(1,lI arrows_),(2,.adr 0 0 0),(4,.adr 1 0 0),(5,.own 2 0 b1.length)],[(0,.mix 5 [(Cat.cells true c_)]),(1,.mix 5 [[iV 0,.val (.slice none 0 0),.val (.slice none 0 0),.val (.slice none 0 0),.val (.slice none 0 0)]]),(2,rI b1)],3⟩) (fun b1=>b1=e1) ?_ ?_
 ·refine Qa ?_;refine Qs h (fun s9:List Int × Int=>⟨[(1,lI arrows_),(2,.adr 0 0 0),(4,.adr 1 0 0),(5,.own 2 0 s9.1.length),(6,iV s9.2)],[(0,.mix 5 [(Cat.cells true c_)]),(1,.mix 5 [[iV 0,.val (.slice none 0 0),.val (.slice none 0 0),.val (.slice none 0 0),.val (.slice none 0 0)]]),(2,rI s9.1)],3⟩) (Q2O ⟨[(1,lI arrows_),(2,.adr 0 0 0),(4,.adr 1 0 0),(5,.own 2 0 0),(6,iV 0)],[(0,.mix 5 [(Cat.cells true c_)]),(1,.mix 5 [[iV 0,.val (.slice none 0 0),.val (.slice none 0 0),.val (.slice none 0 0),.val (.slice none 0 0)]]),(2,rI [])],3⟩ (Wk.nils [] (by simp) (by simp) (by simp [nlA]) (by simp [entN,nlL,nlA,Cat.cells,UA,U1,IA,I1,LA,L1,BA,B1,EA,E1,E2,eB,eI,eL]) (by simp)) (wkQ9 [(0,0),(1,1),(2,2)])) ?_;clear h;intro k9 s9 c9 h hk9;refine Q4 ?_;refine Q4 ?_;refine runQ hN fun K hK=>?_;simp [-Q0,-Q6,-Q1,-Q7,-Q2];repeat refine sdQ ?_
  refine hK _ ?_;clear hK K;refine tn ?_;refine Q8 (st':=⟨[(1,lI arrows_),(2,.adr 0 0 0),(4,.adr 1 0 0),(5,.own 2 0 s9.1.length),(6,iV s9.2),(16,.val (.bool (decide (s9.2<c_.n))))],[(0,.mix 5 [(Cat.cells true c_)]),(1,.mix 5 [[iV 0,.val (.slice none 0 0),.val (.slice none 0 0),.val (.slice none 0 0),.val (.slice none 0 0)]]),(2,rI s9.1)],3⟩) (wkQ9 [(0,0),(1,1),(2,2)]) ?_;refine Qc rfl (fun g=>?_) fun g=>?_
  ·have g10:s9.2<c_.n:=gQ;clear g;replace h:=if_l g10 h;refine Qd ?_;refine tn ?_;refine Q4 ?_;replace h:=bind_some h;obtain ⟨e11,h,h11⟩:=h;refine Qh (fun b11:List Int=>⟨[(1,lI arrows_),(2,.adr 0 0 0),(4,.adr 1 0 0),(5,.own 2 0 b11.length),(6,iV s9.2)],[(0,.mix 5 [(Cat.cells true c_)]),(1,.mix 5 [[iV 0,.val (.slice none 0 0),.val (.slice none 0 0),.val (.slice none 0 0),.val (.slice none 0 0)]]),(2,rI b11)],3⟩) (fun b11=>b11=e11) ?_ ?_
   ·refine Qa ?_;refine Q4 ?_;refine runQ hN fun K hK=>?_;replace h:=Q5 h;obtain ⟨a12,h⟩:=h;simp [-Q0,-Q6,-Q1,-Q7,-Q2,at_I a12];(repeat with_reducible refine sdQ ?_);replace h:=bind_some h;obtain ⟨v13,hv13,h⟩:=h;refine Q3 (Q4z _ _ v13 hv13) (.cons .lst (.cons .val .nil)) ?_;simp [-Q0,-Q6,-Q1,-Q7,-Q2,unk,unA,unE,unT,unC,flat,at_I a12];(repeat refine sdQ ?_);refine hK _ ?_;clear hK K;refine tn ?_;refine Q8 (st':=⟨[(1,lI arrows_),(2,.adr 0 0 0),(4,.adr 1 0 0),(5,.own 2 0 s9.1.length),(6,iV s9.2),(25,.val (.bool v13))],[(0,.mix 5 [(Cat.cells true c_)]),(1,.mix 5 [[iV 0,.val (.slice none 0 0),.val (.slice none 0 0),.val (.slice none 0 0),.val (.slice none 0 0)]]),(2,rI s9.1)],3⟩) (wkQ9 [(0,0),(1,1),(2,2)]) ?_;refine Qc rfl (fun g=>?_) fun g=>?_
    ·have g14:v13=true:=gQ;clear g;replace h:=if_l g14 h;refine runQ hN fun K hK=>?_;replace h:=Q5 h;obtain ⟨a15,h⟩:=h;(try simp only [List.length_append,List.length_cons,List.length_nil] at a15);simp [-Q0,-Q6,-Q1,-Q7,-Q2,a15];(repeat refine sdQ ?_);refine hK _ ?_;clear hK K;refine bn ?_;exact jn (b:=s9.1++[s9.2]) (Option.some.inj h) (wkQ9 [(0,0),(1,1),(4,2)])
    have g14:¬ (v13=true):=gQ;clear g;replace h:=if_r g14 h;refine Qd ?_;refine bn ?_;exact jn (b:=s9.1) (Option.some.inj h) (wkQ9 [(0,0),(1,1),(2,2)])
   intro b11 hb11;have h:=h11;(try rw [← hb11] at h);clear h11;(try dsimp only at h);refine runQ hN fun K hK=>?_;replace h:=Q5 h;obtain ⟨a16,h⟩:=h;simp [-Q0,-Q6,-Q1,-Q7,-Q2,Qp a16];(repeat refine sdQ ?_);refine hK _ ?_;clear hK K;cases h;exact rn (s':=(b11,s9.2+1)) hk9 (wkQ9 [(0,0),(1,1),(2,2)])
  have g10:¬ (s9.2<c_.n):=gQ;clear g;replace h:=if_r g10 h;refine Qj ?_;refine tx ?_;refine lx ?_;refine bh ?_;cases h;exact jn (b:=s9.1) hk9 (wkQ9 [(0,0),(1,1),(2,2)])
 intro b1 hb1;have h:=h1;try rw [← hb1] at h
 clear h1;try dsimp only at h
 refine Q4 ?_;refine runQ hN fun K hK=>?_;simp [-Q0,-Q6,-Q1,-Q7,-Q2];repeat refine sdQ ?_
 refine hK _ ?_;clear hK K;refine tn ?_;refine Q8 (st':=⟨[(1,lI arrows_),(2,.adr 0 0 0),(4,.adr 1 0 0),(5,.own 2 0 b1.length),(7,.adr 3 0 0)],[(0,.mix 5 [(Cat.cells true c_)]),(1,.mix 5 [[iV 0,.val (.slice none 0 0),.val (.slice none 0 0),.val (.slice none 0 0),.val (.slice none 0 0)]]),(2,rI b1),(3,.mix 5 [[iV (b1.length:Int),.own 4 0 0,.own 5 0 0,.own 6 0 0,.own 7 0 0]]),(4,.mix 1 []),(5,.mix 1 []),(6,.mix 1 []),(7,.mix 1 [])],8⟩) (wkQ9 [(0,0),(1,1),(2,2),(7,3),(3,4),(4,5),(5,6),(6,7)]) ?_;refine Q4 ?_;refine Q4 ?_;refine runQ hN fun K hK=>?_;simp [-Q0,-Q6,-Q1,-Q7,-Q2];repeat refine sdQ ?_
 refine hK _ ?_;clear hK K;refine tn ?_;refine Q8 (st':=⟨[(1,lI arrows_),(2,.adr 0 0 0),(4,.adr 1 0 0),(5,.own 2 0 b1.length),(7,.adr 3 0 0),(8,iV 0)],[(0,.mix 5 [(Cat.cells true c_)]),(1,.mix 5 [[iV 0,.val (.slice none 0 0),.val (.slice none 0 0),.val (.slice none 0 0),.val (.slice none 0 0)]]),(2,rI b1),(3,.mix 5 [[iV (b1.length:Int),.own 4 0 0,.own 5 0 0,.own 6 0 0,.own 7 0 0]]),(4,.mix 1 []),(5,.mix 1 []),(6,.mix 1 []),(7,.mix 1 [])],8⟩) (wkQ9 [(0,0),(1,1),(2,2),(3,3),(4,4),(5,5),(6,6),(7,7)]) ?_;replace h:=bind_some h;obtain ⟨e17,h,h17⟩:=h;refine Qh (fun b17:List Int=>⟨[(1,lI arrows_),(2,.adr 0 0 0),(4,.adr 1 0 0),(5,.own 2 0 b1.length),(7,.adr 3 0 0)],[(0,.mix 5 [(Cat.cells true c_)]),(1,.mix 5 [[iV 0,.val (.slice none 0 0),.val (.slice none 0 0),.val (.slice none 0 0),.val (.slice none 0 0)]]),(2,rI b1),(3,.mix 5 [[iV (b1.length:Int),.own 4 0 0,.own 5 0 0,.own 6 0 b17.length,.own 7 0 0]]),(4,.mix 1 []),(5,.mix 1 []),(6,rI b17),(7,.mix 1 [])],8⟩) (fun b17=>b17=e17) ?_ ?_
 ·refine Qa ?_;refine Qs h (fun s24:List Int × Int=>⟨[(1,lI arrows_),(2,.adr 0 0 0),(4,.adr 1 0 0),(5,.own 2 0 b1.length),(7,.adr 3 0 0),(8,iV s24.2)],[(0,.mix 5 [(Cat.cells true c_)]),(1,.mix 5 [[iV 0,.val (.slice none 0 0),.val (.slice none 0 0),.val (.slice none 0 0),.val (.slice none 0 0)]]),(2,rI b1),(3,.mix 5 [[iV (b1.length:Int),.own 4 0 0,.own 5 0 0,.own 6 0 s24.1.length,.own 7 0 0]]),(4,.mix 1 []),(5,.mix 1 []),(6,rI s24.1),(7,.mix 1 [])],8⟩) (Q2O ⟨[(1,lI arrows_),(2,.adr 0 0 0),(4,.adr 1 0 0),(5,.own 2 0 b1.length),(7,.adr 3 0 0),(8,iV 0)],[(0,.mix 5 [(Cat.cells true c_)]),(1,.mix 5 [[iV 0,.val (.slice none 0 0),.val (.slice none 0 0),.val (.slice none 0 0),.val (.slice none 0 0)]]),(2,rI b1),(3,.mix 5 [[iV (b1.length:Int),.own 4 0 0,.own 5 0 0,.own 6 0 0,.own 7 0 0]]),(4,.mix 1 []),(5,.mix 1 []),(6,rI []),(7,.mix 1 [])],8⟩ (Wk.nils [] (by simp) (by simp) (by simp [nlA]) (by simp [entN,nlL,nlA,Cat.cells,UA,U1,IA,I1,LA,L1,BA,B1,EA,E1,E2,eB,eI,eL]) (by simp)) (wkQ9 [(0,0),(1,1),(2,2),(3,3),(4,4),(5,5),(6,6),(7,7)])) ?_;clear h;intro k24 s24 c24 h hk24;refine Q4 ?_;refine Q4 ?_;refine runQ hN fun K hK=>?_;simp [-Q0,-Q6,-Q1,-Q7,-Q2];repeat refine sdQ ?_
  refine hK _ ?_;clear hK K;refine tn ?_;refine Q8 (st':=⟨[(1,lI arrows_),(2,.adr 0 0 0),(4,.adr 1 0 0),(5,.own 2 0 b1.length),(7,.adr 3 0 0),(8,iV s24.2),(40,.val (.bool (decide (s24.2<(b1.length:Int)))))],[(0,.mix 5 [(Cat.cells true c_)]),(1,.mix 5 [[iV 0,.val (.slice none 0 0),.val (.slice none 0 0),.val (.slice none 0 0),.val (.slice none 0 0)]]),(2,rI b1),(3,.mix 5 [[iV (b1.length:Int),.own 4 0 0,.own 5 0 0,.own 6 0 s24.1.length,.own 7 0 0]]),(4,.mix 1 []),(5,.mix 1 []),(6,rI s24.1),(7,.mix 1 [])],8⟩) (wkQ9 [(0,0),(1,1),(2,2),(3,3),(4,4),(5,5),(6,6),(7,7)]) ?_;refine Qc rfl (fun g=>?_) fun g=>?_
  ·have g25:s24.2<(b1.length:Int):=gQ;clear g;replace h:=if_l g25 h;refine Qd ?_;refine tn ?_;refine Q4 ?_;refine Qa ?_;refine runQ hN fun K hK=>?_;replace h:=Q5 h;obtain ⟨a26,h⟩:=h;replace h:=Q5 h;obtain ⟨a27,h⟩:=h;simp [-Q0,-Q6,-Q1,-Q7,-Q2,at_I a26,at_I a27];(repeat with_reducible refine sdQ ?_);replace h:=bind_some h;obtain ⟨v28,hv28,h⟩:=h;refine Q3 (Q14 _ _ v28 hv28) (.cons .lst (.cons .val .nil)) ?_;replace h:=Q5 h;obtain ⟨a29,h⟩:=h;(try simp only [List.length_append,List.length_cons,List.length_nil] at a29);simp [-Q0,-Q6,-Q1,-Q7,-Q2,unk,unA,unE,unT,unC,flat,at_I a26,at_I a27,a29];(repeat refine sdQ ?_);refine hK _ ?_;clear hK K;refine bn ?_;refine tn ?_;refine Q8 (st':=⟨[(1,lI arrows_),(2,.adr 0 0 0),(4,.adr 1 0 0),(5,.own 2 0 b1.length),(7,.adr 3 0 0),(8,iV s24.2)],[(0,.mix 5 [(Cat.cells true c_)]),(1,.mix 5 [[iV 0,.val (.slice none 0 0),.val (.slice none 0 0),.val (.slice none 0 0),.val (.slice none 0 0)]]),(2,rI b1),(3,.mix 5 [[iV (b1.length:Int),.own 4 0 0,.own 5 0 0,.own 6 0 ((s24.1++[v28]).length),.own 7 0 0]]),(4,.mix 1 []),(5,.mix 1 []),(6,rI (s24.1++[v28])),(7,.mix 1 [])],8⟩) (wkQ9 [(0,0),(1,1),(2,2),(3,3),(4,4),(5,5),(11,6),(7,7)]) ?_;refine runQ hN fun K hK=>?_;replace h:=Q5 h;obtain ⟨a30,h⟩:=h;simp [-Q0,-Q6,-Q1,-Q7,-Q2,Qp a30];(repeat refine sdQ ?_);refine hK _ ?_;clear hK K;cases h;exact rn (s':=(s24.1++[v28],s24.2+1)) hk24 (wkQ9 [(0,0),(1,1),(2,2),(3,3),(4,4),(5,5),(6,6),(7,7)])
  have g25:¬ (s24.2<(b1.length:Int)):=gQ;clear g;replace h:=if_r g25 h;refine Qj ?_;refine tx ?_;refine lx ?_;refine bh ?_;cases h;exact jn (b:=s24.1) hk24 (wkQ9 [(0,0),(1,1),(2,2),(3,3),(4,4),(5,5),(6,6),(7,7)])
 intro b17 hb17;have h:=h17;try rw [← hb17] at h
 clear h17;try dsimp only at h
 refine Q4 ?_;refine Q4 ?_;refine runQ hN fun K hK=>?_;simp [-Q0,-Q6,-Q1,-Q7,-Q2];repeat refine sdQ ?_
 refine hK _ ?_;clear hK K;refine tn ?_;refine Q8 (st':=⟨[(1,lI arrows_),(2,.adr 0 0 0),(4,.adr 1 0 0),(5,.own 2 0 b1.length),(7,.adr 3 0 0),(9,iV 0)],[(0,.mix 5 [(Cat.cells true c_)]),(1,.mix 5 [[iV 0,.val (.slice none 0 0),.val (.slice none 0 0),.val (.slice none 0 0),.val (.slice none 0 0)]]),(2,rI b1),(3,.mix 5 [[iV (b1.length:Int),.own 4 0 0,.own 5 0 0,.own 6 0 b17.length,.own 7 0 0]]),(4,.mix 1 []),(5,.mix 1 []),(6,rI b17),(7,.mix 1 [])],8⟩) (wkQ9 [(0,0),(1,1),(2,2),(3,3),(4,4),(5,5),(6,6),(7,7)]) ?_;replace h:=bind_some h;obtain ⟨e31,h,h31⟩:=h;refine Qh (fun b31:List Int × List Int × List (List Int)=>⟨[(4,.adr 0 0 0),(7,.adr 1 0 0)],[(0,.mix 5 [[iV 0,.val (.slice none 0 0),.val (.slice none 0 0),.val (.slice none 0 0),.val (.slice none 0 0)]]),(1,.mix 5 [[iV (b1.length:Int),.own 2 0 b31.1.length,.own 3 0 b31.2.1.length,.own 4 0 b17.length,.own 5 0 b31.2.2.length]]),(2,rI b31.1),(3,rI b31.2.1),(4,rI b17),(5,.row 1 (Ls b31.2.2))],6⟩) (fun b31=>b31=e31) ?_ ?_
 ·refine Qa ?_;refine Qs h (fun s61:List Int × List Int × List (List Int) × Int=>⟨[(1,lI arrows_),(2,.adr 0 0 0),(4,.adr 1 0 0),(5,.own 2 0 b1.length),(7,.adr 3 0 0),(9,iV s61.2.2.2)],[(0,.mix 5 [(Cat.cells true c_)]),(1,.mix 5 [[iV 0,.val (.slice none 0 0),.val (.slice none 0 0),.val (.slice none 0 0),.val (.slice none 0 0)]]),(2,rI b1),(3,.mix 5 [[iV (b1.length:Int),.own 4 0 s61.1.length,.own 5 0 s61.2.1.length,.own 6 0 b17.length,.own 7 0 s61.2.2.1.length]]),(4,rI s61.1),(5,rI s61.2.1),(6,rI b17),(7,.row 1 (Ls s61.2.2.1))],8⟩) (Q2O ⟨[(1,lI arrows_),(2,.adr 0 0 0),(4,.adr 1 0 0),(5,.own 2 0 b1.length),(7,.adr 3 0 0),(9,iV 0)],[(0,.mix 5 [(Cat.cells true c_)]),(1,.mix 5 [[iV 0,.val (.slice none 0 0),.val (.slice none 0 0),.val (.slice none 0 0),.val (.slice none 0 0)]]),(2,rI b1),(3,.mix 5 [[iV (b1.length:Int),.own 4 0 0,.own 5 0 0,.own 6 0 b17.length,.own 7 0 0]]),(4,rI []),(5,rI []),(6,rI b17),(7,.row 1 (Ls []))],8⟩ (Wk.nils [] (by simp) (by simp) (by simp [nlA]) (by simp [entN,nlL,nlA,Cat.cells,UA,U1,IA,I1,LA,L1,BA,B1,EA,E1,E2,eB,eI,eL]) (by simp)) (wkQ9 [(0,0),(1,1),(2,2),(3,3),(4,4),(5,5),(6,6),(7,7)])) ?_;clear h;intro k61 s61 c61 h hk61;refine Q4 ?_;refine Q4 ?_;refine runQ hN fun K hK=>?_;simp [-Q0,-Q6,-Q1,-Q7,-Q2];repeat refine sdQ ?_
  refine hK _ ?_;clear hK K;refine tn ?_;refine Q8 (st':=⟨[(1,lI arrows_),(2,.adr 0 0 0),(4,.adr 1 0 0),(5,.own 2 0 b1.length),(7,.adr 3 0 0),(9,iV s61.2.2.2),(61,.val (.bool (decide (s61.2.2.2<(arrows_.length:Int)))))],[(0,.mix 5 [(Cat.cells true c_)]),(1,.mix 5 [[iV 0,.val (.slice none 0 0),.val (.slice none 0 0),.val (.slice none 0 0),.val (.slice none 0 0)]]),(2,rI b1),(3,.mix 5 [[iV (b1.length:Int),.own 4 0 s61.1.length,.own 5 0 s61.2.1.length,.own 6 0 b17.length,.own 7 0 s61.2.2.1.length]]),(4,rI s61.1),(5,rI s61.2.1),(6,rI b17),(7,.row 1 (Ls s61.2.2.1))],8⟩) (wkQ9 [(0,0),(1,1),(2,2),(3,3),(4,4),(5,5),(6,6),(7,7)]) ?_;refine Qc rfl (fun g=>?_) fun g=>?_
  ·have g62:s61.2.2.2<(arrows_.length:Int):=gQ;clear g;replace h:=if_l g62 h;refine Qd ?_;refine tn ?_;refine Q4 ?_;refine Qa ?_;refine Q4 ?_;refine runQ hN fun K hK=>?_;replace h:=Q5 h;obtain ⟨a63,h⟩:=h;replace h:=Q5 h;obtain ⟨a64,h⟩:=h;simp [-Q0,-Q6,-Q1,-Q7,-Q2,at_I a63,at_I a64];(repeat with_reducible refine sdQ ?_);replace h:=bind_some h;obtain ⟨v65,hv65,h⟩:=h;refine Q3 (Q14 _ _ v65 hv65) (.cons (.whole (by simp) (by simp) (by simp)) (.cons .val .nil)) ?_;replace h:=Q5 h;obtain ⟨a66,h⟩:=h;(try simp only [List.length_append,List.length_cons,List.length_nil] at a66);simp [-Q0,-Q6,-Q1,-Q7,-Q2,unk,unA,unE,unT,unC,flat,at_I a63,at_I a64,a66];(repeat refine sdQ ?_);refine hK _ ?_;clear hK K;refine tn ?_;refine Q8 (st':=⟨[(1,lI arrows_),(2,.adr 0 0 0),(4,.adr 1 0 0),(5,.own 2 0 b1.length),(7,.adr 3 0 0),(9,iV s61.2.2.2)],[(0,.mix 5 [(Cat.cells true c_)]),(1,.mix 5 [[iV 0,.val (.slice none 0 0),.val (.slice none 0 0),.val (.slice none 0 0),.val (.slice none 0 0)]]),(2,rI b1),(3,.mix 5 [[iV (b1.length:Int),.own 4 0 ((s61.1++[v65]).length),.own 5 0 s61.2.1.length,.own 6 0 b17.length,.own 7 0 s61.2.2.1.length]]),(4,rI (s61.1++[v65])),(5,rI s61.2.1),(6,rI b17),(7,.row 1 (Ls s61.2.2.1))],8⟩) (wkQ9 [(0,0),(1,1),(2,2),(3,3),(10,4),(5,5),(6,6),(7,7)]) ?_;refine Q4 ?_;refine runQ hN fun K hK=>?_;replace h:=Q5 h;obtain ⟨a67,h⟩:=h;replace h:=Q5 h;obtain ⟨a68,h⟩:=h;simp [-Q0,-Q6,-Q1,-Q7,-Q2,at_I a67,at_I a68];(repeat with_reducible refine sdQ ?_);replace h:=bind_some h;obtain ⟨v69,hv69,h⟩:=h;refine Q3 (Q14 _ _ v69 hv69) (.cons (.whole (by simp) (by simp) (by simp)) (.cons .val .nil)) ?_;replace h:=Q5 h;obtain ⟨a70,h⟩:=h;(try simp only [List.length_append,List.length_cons,List.length_nil] at a70);simp [-Q0,-Q6,-Q1,-Q7,-Q2,unk,unA,unE,unT,unC,flat,at_I a67,at_I a68,a70];(repeat refine sdQ ?_);refine hK _ ?_;clear hK K;refine tn ?_;refine Q8 (st':=⟨[(1,lI arrows_),(2,.adr 0 0 0),(4,.adr 1 0 0),(5,.own 2 0 b1.length),(7,.adr 3 0 0),(9,iV s61.2.2.2)],[(0,.mix 5 [(Cat.cells true c_)]),(1,.mix 5 [[iV 0,.val (.slice none 0 0),.val (.slice none 0 0),.val (.slice none 0 0),.val (.slice none 0 0)]]),(2,rI b1),(3,.mix 5 [[iV (b1.length:Int),.own 4 0 ((s61.1++[v65]).length),.own 5 0 ((s61.2.1++[v69]).length),.own 6 0 b17.length,.own 7 0 s61.2.2.1.length]]),(4,rI (s61.1++[v65])),(5,rI (s61.2.1++[v69])),(6,rI b17),(7,.row 1 (Ls s61.2.2.1))],8⟩) (wkQ9 [(0,0),(1,1),(2,2),(3,3),(4,4),(10,5),(6,6),(7,7)]) ?_;refine Q4 ?_;refine runQ hN fun K hK=>?_;simp [-Q0,-Q6,-Q1,-Q7,-Q2];(repeat refine sdQ ?_);refine hK _ ?_;clear hK K;refine tn ?_
   refine Q8 (st':=⟨[(1,lI arrows_),(2,.adr 0 0 0),(4,.adr 1 0 0),(5,.own 2 0 b1.length),(7,.adr 3 0 0),(9,iV s61.2.2.2),(10,.own 8 0 0)],[(0,.mix 5 [(Cat.cells true c_)]),(1,.mix 5 [[iV 0,.val (.slice none 0 0),.val (.slice none 0 0),.val (.slice none 0 0),.val (.slice none 0 0)]]),(2,rI b1),(3,.mix 5 [[iV (b1.length:Int),.own 4 0 ((s61.1++[v65]).length),.own 5 0 ((s61.2.1++[v69]).length),.own 6 0 b17.length,.own 7 0 s61.2.2.1.length]]),(4,rI (s61.1++[v65])),(5,rI (s61.2.1++[v69])),(6,rI b17),(7,.row 1 (Ls s61.2.2.1)),(8,.mix 1 [])],9⟩) (wkQ9 [(0,0),(1,1),(2,2),(3,3),(4,4),(5,5),(6,6),(7,7),(8,8)]) ?_;refine Q4 ?_;refine Q4 ?_;refine runQ hN fun K hK=>?_;simp [-Q0,-Q6,-Q1,-Q7,-Q2];(repeat refine sdQ ?_);refine hK _ ?_;clear hK K;refine tn ?_;refine Q8 (st':=⟨[(1,lI arrows_),(2,.adr 0 0 0),(4,.adr 1 0 0),(5,.own 2 0 b1.length),(7,.adr 3 0 0),(9,iV s61.2.2.2),(10,.own 8 0 0),(11,iV 0)],[(0,.mix 5 [(Cat.cells true c_)]),(1,.mix 5 [[iV 0,.val (.slice none 0 0),.val (.slice none 0 0),.val (.slice none 0 0),.val (.slice none 0 0)]]),(2,rI b1),(3,.mix 5 [[iV (b1.length:Int),.own 4 0 ((s61.1++[v65]).length),.own 5 0 ((s61.2.1++[v69]).length),.own 6 0 b17.length,.own 7 0 s61.2.2.1.length]]),(4,rI (s61.1++[v65])),(5,rI (s61.2.1++[v69])),(6,rI b17),(7,.row 1 (Ls s61.2.2.1)),(8,.mix 1 [])],9⟩) (wkQ9 [(0,0),(1,1),(2,2),(3,3),(4,4),(5,5),(6,6),(7,7),(8,8)]) ?_;replace h:=bind_some h;obtain ⟨e71,h,h71⟩:=h;refine Qh (fun b71:List Int=>⟨[(1,lI arrows_),(2,.adr 0 0 0),(4,.adr 1 0 0),(5,.own 2 0 b1.length),(7,.adr 3 0 0),(9,iV s61.2.2.2),(10,.own 8 0 b71.length)],[(0,.mix 5 [(Cat.cells true c_)]),(1,.mix 5 [[iV 0,.val (.slice none 0 0),.val (.slice none 0 0),.val (.slice none 0 0),.val (.slice none 0 0)]]),(2,rI b1),(3,.mix 5 [[iV (b1.length:Int),.own 4 0 ((s61.1++[v65]).length),.own 5 0 ((s61.2.1++[v69]).length),.own 6 0 b17.length,.own 7 0 s61.2.2.1.length]]),(4,rI (s61.1++[v65])),(5,rI (s61.2.1++[v69])),(6,rI b17),(7,.row 1 (Ls s61.2.2.1)),(8,rI b71)],9⟩) (fun b71=>b71=e71) ?_ ?_
   ·refine Qa ?_;refine Qs h (fun s80:List Int × Int=>⟨[(1,lI arrows_),(2,.adr 0 0 0),(4,.adr 1 0 0),(5,.own 2 0 b1.length),(7,.adr 3 0 0),(9,iV s61.2.2.2),(10,.own 8 0 s80.1.length),(11,iV s80.2)],[(0,.mix 5 [(Cat.cells true c_)]),(1,.mix 5 [[iV 0,.val (.slice none 0 0),.val (.slice none 0 0),.val (.slice none 0 0),.val (.slice none 0 0)]]),(2,rI b1),(3,.mix 5 [[iV (b1.length:Int),.own 4 0 ((s61.1++[v65]).length),.own 5 0 ((s61.2.1++[v69]).length),.own 6 0 b17.length,.own 7 0 s61.2.2.1.length]]),(4,rI (s61.1++[v65])),(5,rI (s61.2.1++[v69])),(6,rI b17),(7,.row 1 (Ls s61.2.2.1)),(8,rI s80.1)],9⟩) (Q2O ⟨[(1,lI arrows_),(2,.adr 0 0 0),(4,.adr 1 0 0),(5,.own 2 0 b1.length),(7,.adr 3 0 0),(9,iV s61.2.2.2),(10,.own 8 0 0),(11,iV 0)],[(0,.mix 5 [(Cat.cells true c_)]),(1,.mix 5 [[iV 0,.val (.slice none 0 0),.val (.slice none 0 0),.val (.slice none 0 0),.val (.slice none 0 0)]]),(2,rI b1),(3,.mix 5 [[iV (b1.length:Int),.own 4 0 ((s61.1++[v65]).length),.own 5 0 ((s61.2.1++[v69]).length),.own 6 0 b17.length,.own 7 0 s61.2.2.1.length]]),(4,rI (s61.1++[v65])),(5,rI (s61.2.1++[v69])),(6,rI b17),(7,.row 1 (Ls s61.2.2.1)),(8,rI [])],9⟩ (Wk.nils [] (by simp) (by simp) (by simp [nlA]) (by simp [entN,nlL,nlA,Cat.cells,UA,U1,IA,I1,LA,L1,BA,B1,EA,E1,E2,eB,eI,eL]) (by simp)) (wkQ9 [(0,0),(1,1),(2,2),(3,3),(4,4),(5,5),(6,6),(7,7),(8,8)])) ?_;clear h;intro k80 s80 c80 h hk80;refine Q4 ?_;refine Q4 ?_;refine runQ hN fun K hK=>?_;simp [-Q0,-Q6,-Q1,-Q7,-Q2];(repeat refine sdQ ?_);refine hK _ ?_;clear hK K;refine tn ?_;refine Q8 (st':=⟨[(1,lI arrows_),(2,.adr 0 0 0),(4,.adr 1 0 0),(5,.own 2 0 b1.length),(7,.adr 3 0 0),(9,iV s61.2.2.2),(10,.own 8 0 s80.1.length),(11,iV s80.2),(98,.val (.bool (decide (s80.2<(arrows_.length:Int)))))],[(0,.mix 5 [(Cat.cells true c_)]),(1,.mix 5 [[iV 0,.val (.slice none 0 0),.val (.slice none 0 0),.val (.slice none 0 0),.val (.slice none 0 0)]]),(2,rI b1),(3,.mix 5 [[iV (b1.length:Int),.own 4 0 ((s61.1++[v65]).length),.own 5 0 ((s61.2.1++[v69]).length),.own 6 0 b17.length,.own 7 0 s61.2.2.1.length]]),(4,rI (s61.1++[v65])),(5,rI (s61.2.1++[v69])),(6,rI b17),(7,.row 1 (Ls s61.2.2.1)),(8,rI s80.1)],9⟩) (wkQ9 [(0,0),(1,1),(2,2),(3,3),(4,4),(5,5),(6,6),(7,7),(8,8)]) ?_;refine Qc rfl (fun g=>?_) fun g=>?_
    ·have g81:s80.2<(arrows_.length:Int):=gQ;clear g;replace h:=if_l g81 h;refine Qd ?_;refine tn ?_;refine Q4 ?_;refine Qa ?_;refine runQ hN fun K hK=>?_;replace h:=Q5 h;obtain ⟨a82,h⟩:=h;replace h:=Q5 h;obtain ⟨a83,h⟩:=h;replace h:=Q5 h;obtain ⟨a84,h⟩:=h;replace h:=Q5 h;obtain ⟨a85,h⟩:=h;simp [-Q0,-Q6,-Q1,-Q7,-Q2,at_I a82,at_L a83,at_I a84,at_I a85];(repeat with_reducible refine sdQ ?_);replace h:=bind_some h;obtain ⟨v86,hv86,h⟩:=h;refine Q3 (Q14 _ _ v86 hv86) (.cons .lst (.cons .val .nil)) ?_;replace h:=Q5 h;obtain ⟨a87,h⟩:=h;(try simp only [List.length_append,List.length_cons,List.length_nil] at a87);simp [-Q0,-Q6,-Q1,-Q7,-Q2,unk,unA,unE,unT,unC,flat,at_I a82,at_L a83,at_I a84,at_I a85,a87];(repeat refine sdQ ?_);refine hK _ ?_;clear hK K;refine bn ?_;refine tn ?_;refine Q8 (st':=⟨[(1,lI arrows_),(2,.adr 0 0 0),(4,.adr 1 0 0),(5,.own 2 0 b1.length),(7,.adr 3 0 0),(9,iV s61.2.2.2),(10,.own 8 0 ((s80.1++[v86]).length)),(11,iV s80.2)],[(0,.mix 5 [(Cat.cells true c_)]),(1,.mix 5 [[iV 0,.val (.slice none 0 0),.val (.slice none 0 0),.val (.slice none 0 0),.val (.slice none 0 0)]]),(2,rI b1),(3,.mix 5 [[iV (b1.length:Int),.own 4 0 ((s61.1++[v65]).length),.own 5 0 ((s61.2.1++[v69]).length),.own 6 0 b17.length,.own 7 0 s61.2.2.1.length]]),(4,rI (s61.1++[v65])),(5,rI (s61.2.1++[v69])),(6,rI b17),(7,.row 1 (Ls s61.2.2.1)),(8,rI (s80.1++[v86]))],9⟩) (wkQ9 [(0,0),(1,1),(2,2),(3,3),(4,4),(5,5),(6,6),(7,7),(11,8)]) ?_;refine runQ hN fun K hK=>?_;replace h:=Q5 h;obtain ⟨a88,h⟩:=h;simp [-Q0,-Q6,-Q1,-Q7,-Q2,Qp a88];(repeat refine sdQ ?_);refine hK _ ?_;clear hK K;cases h;exact rn (s':=(s80.1++[v86],s80.2+1)) hk80 (wkQ9 [(0,0),(1,1),(2,2),(3,3),(4,4),(5,5),(6,6),(7,7),(8,8)])
    have g81:¬ (s80.2<(arrows_.length:Int)):=gQ;clear g;replace h:=if_r g81 h;refine Qj ?_;refine tx ?_;refine lx ?_;refine bh ?_;cases h;exact jn (b:=s80.1) hk80 (wkQ9 [(0,0),(1,1),(2,2),(3,3),(4,4),(5,5),(6,6),(7,7),(8,8)])
   intro b71 hb71;have h:=h71;(try rw [← hb71] at h);clear h71;(try dsimp only at h);refine runQ hN fun K hK=>?_;replace h:=Q5 h;obtain ⟨a89,h⟩:=h;(try simp only [List.length_append,List.length_cons,List.length_nil] at a89);simp [-Q0,-Q6,-Q1,-Q7,-Q2,a89];(repeat refine sdQ ?_);refine hK _ ?_;clear hK K;refine bn ?_;refine tn ?_;refine Q8 (st':=⟨[(1,lI arrows_),(2,.adr 0 0 0),(4,.adr 1 0 0),(5,.own 2 0 b1.length),(7,.adr 3 0 0),(9,iV s61.2.2.2)],[(0,.mix 5 [(Cat.cells true c_)]),(1,.mix 5 [[iV 0,.val (.slice none 0 0),.val (.slice none 0 0),.val (.slice none 0 0),.val (.slice none 0 0)]]),(2,rI b1),(3,.mix 5 [[iV (b1.length:Int),.own 4 0 ((s61.1++[v65]).length),.own 5 0 ((s61.2.1++[v69]).length),.own 6 0 b17.length,.own 7 0 ((s61.2.2.1++[b71]).length)]]),(4,rI (s61.1++[v65])),(5,rI (s61.2.1++[v69])),(6,rI b17),(7,.row 1 (Ls (s61.2.2.1++[b71])))],8⟩) (wkQ9 [(0,0),(1,1),(2,2),(3,3),(4,4),(5,5),(6,6),(10,7)]) ?_;refine runQ hN fun K hK=>?_;replace h:=Q5 h;obtain ⟨a90,h⟩:=h;simp [-Q0,-Q6,-Q1,-Q7,-Q2,Qp a90];(repeat refine sdQ ?_);refine hK _ ?_;clear hK K;cases h;exact rn (s':=(s61.1++[v65],s61.2.1++[v69],s61.2.2.1++[b71],s61.2.2.2+1)) hk61 (wkQ9 [(0,0),(1,1),(2,2),(3,3),(4,4),(5,5),(6,6),(7,7)])
  have g62:¬ (s61.2.2.2<(arrows_.length:Int)):=gQ;clear g;replace h:=if_r g62 h;refine Qj ?_;refine tx ?_;refine lx ?_;refine bh ?_;cases h;exact jn (b:=(s61.1,s61.2.1,s61.2.2.1)) hk61 (wkQ9 [(1,0),(3,1),(4,2),(5,3),(6,4),(7,5)])
 intro b31 hb31;have h:=h31;try rw [← hb31] at h
 clear h31;try dsimp only at h
 refine Q4 ?_;refine runQ hN fun K hK=>?_;simp [-Q0,-Q6,-Q1,-Q7,-Q2];repeat refine sdQ ?_
 refine hK _ ?_;clear hK K;refine tn ?_;refine Q8 (st':=⟨[(4,.adr 0 0 0)],[(0,.mix 5 [[iV (b1.length:Int),.own 1 0 b31.1.length,.own 2 0 b31.2.1.length,.own 3 0 b17.length,.own 4 0 b31.2.2.length]]),(1,rI b31.1),(2,rI b31.2.1),(3,rI b17),(4,.row 1 (Ls b31.2.2))],5⟩) (wkQ9 [(0,0),(2,1),(3,2),(4,3),(5,4)]) ?_;refine Qi ?_;have hr:=Option.some.inj h;rw [← hr];refine ⟨_,(.cell tf_30 rfl rfl rfl (by simp) (by simp) .nil),?_⟩;refine ⟨(.agg rfl .nil),[iV (b1.length:Int),lI b31.1,lI b31.2.1,lI b17,.lst true 1 (Ls b31.2.2)],[1,2,3,4],by simp [Cat.cells,UA,U1,IA,I1,LA,L1,BA,B1,EA,E1,E2,eB,eI,eL],by simp,(UpL.refl _)⟩
attribute [local simp] eL eI Qn QC Cat.cells
noncomputable def QU (c_:Cat):Option (List Int) :=
 (Q1k c_).bind fun v1 =>
 (Qv (σ:=List Int × Int) (ε:=List Int) (fun s10 =>
  if s10.2<c_.n then
   (
    ass (0≤s10.2∧s10.2<(v1.length:Int)) <|
    (QE v1 (ix v1 s10.2)).bind fun v14 =>
    if v14=s10.2 then
     ass ((s10.1++[s10.2]).length≤1073741824) <|
     some (s10.1++[s10.2])
    else
     some s10.1:Option (List Int)).bind fun b12 =>
   ass (B64 (s10.2+1)) <|
   some (Ctl.next (b12,s10.2+1))
  else
   some (Ctl.ret s10.1)) fuel ([],0)).bind fun b2 =>
 some b2
theorem Q2y (c_:Cat) (r:List Int) (h:QU c_=some r):Contract Try.prog 149 [.agg (c_.cells true)] (lI r):=by
 refine Qe (rvs:=[.tmp 2]) (rs:=[lI r]) Try.func149 rfl rfl rfl rfl (by simp [Try.f149]) fun F hN hP=>?_;unfold QU at h;refine Q4 ?_;refine runQ hN fun K hK=>?_;simp [-Q0,-Q6,-Q1,-Q7,-Q2];repeat refine sdQ ?_
 refine hK _ ?_;clear hK K;refine tn ?_;refine Q8 (st':=⟨[(1,.adr 0 0 0)],[(0,.mix 5 [(Cat.cells true c_)])],1⟩) (wkQ9 [(0,0)]) ?_;refine Q4 ?_;refine runQ hN fun K hK=>?_;simp [-Q0,-Q6,-Q1,-Q7,-Q2];repeat with_reducible refine sdQ ?_
 replace h:=bind_some h;obtain ⟨v1,hv1,h⟩:=h;refine Q3 (Q3T _ v1 hv1) (.cons (.aggL (.cons .val (.cons .lst (.cons .lst (.cons .lst (.cons .lst .nil)))))) .nil) ?_;simp [-Q0,-Q6,-Q1,-Q7,-Q2,unk,unA,unE,unT,unC,flat];repeat refine sdQ ?_
 refine hK _ ?_;clear hK K;refine tn ?_;refine Q8 (st':=⟨[(1,.adr 0 0 0),(3,.own 1 0 v1.length)],[(0,.mix 5 [(Cat.cells true c_)]),(1,rI v1)],2⟩) (wkQ9 [(0,0),(1,1)]) ?_;refine Q4 ?_;refine runQ hN fun K hK=>?_;simp [-Q0,-Q6,-Q1,-Q7,-Q2];repeat refine sdQ ?_
 refine hK _ ?_;clear hK K;refine tn ?_;refine Q8 (st':=⟨[(1,.adr 0 0 0),(3,.own 1 0 v1.length),(4,.own 2 0 0)],[(0,.mix 5 [(Cat.cells true c_)]),(1,rI v1),(2,.mix 1 [])],3⟩) (wkQ9 [(0,0),(1,1),(2,2)]) ?_;refine Q4 ?_;refine Q4 ?_;refine runQ hN fun K hK=>?_;simp [-Q0,-Q6,-Q1,-Q7,-Q2];repeat refine sdQ ?_
 refine hK _ ?_;clear hK K;refine tn ?_;refine Q8 (st':=⟨[(1,.adr 0 0 0),(3,.own 1 0 v1.length),(4,.own 2 0 0),(5,iV 0)],[(0,.mix 5 [(Cat.cells true c_)]),(1,rI v1),(2,.mix 1 [])],3⟩) (wkQ9 [(0,0),(1,1),(2,2)]) ?_;replace h:=bind_some h;obtain ⟨e2,h,h2⟩:=h;refine Qh (fun b2:List Int=>⟨[(4,.own 0 0 b2.length)],[(0,rI b2)],1⟩) (fun b2=>b2=e2) ?_ ?_
 ·refine Qa ?_;refine Qs h (fun s10:List Int × Int=>⟨[(1,.adr 0 0 0),(3,.own 1 0 v1.length),(4,.own 2 0 s10.1.length),(5,iV s10.2)],[(0,.mix 5 [(Cat.cells true c_)]),(1,rI v1),(2,rI s10.1)],3⟩) (Q2O ⟨[(1,.adr 0 0 0),(3,.own 1 0 v1.length),(4,.own 2 0 0),(5,iV 0)],[(0,.mix 5 [(Cat.cells true c_)]),(1,rI v1),(2,rI [])],3⟩ (Wk.nils [] (by simp) (by simp) (by simp [nlA]) (by simp [entN,nlL,nlA,Cat.cells,UA,U1,IA,I1,LA,L1,BA,B1,EA,E1,E2,eB,eI,eL]) (by simp)) (wkQ9 [(0,0),(1,1),(2,2)])) ?_;clear h;intro k10 s10 c10 h hk10;refine Q4 ?_;refine Q4 ?_;refine runQ hN fun K hK=>?_;simp [-Q0,-Q6,-Q1,-Q7,-Q2];repeat refine sdQ ?_
  refine hK _ ?_;clear hK K;refine tn ?_;refine Q8 (st':=⟨[(1,.adr 0 0 0),(3,.own 1 0 v1.length),(4,.own 2 0 s10.1.length),(5,iV s10.2),(12,.val (.bool (decide (s10.2<c_.n))))],[(0,.mix 5 [(Cat.cells true c_)]),(1,rI v1),(2,rI s10.1)],3⟩) (wkQ9 [(0,0),(1,1),(2,2)]) ?_;refine Qc rfl (fun g=>?_) fun g=>?_
  ·have g11:s10.2<c_.n:=gQ;clear g;replace h:=if_l g11 h;refine Qd ?_;refine tn ?_;refine Q4 ?_;replace h:=bind_some h;obtain ⟨e12,h,h12⟩:=h;refine Qh (fun b12:List Int=>⟨[(1,.adr 0 0 0),(3,.own 1 0 v1.length),(4,.own 2 0 b12.length),(5,iV s10.2)],[(0,.mix 5 [(Cat.cells true c_)]),(1,rI v1),(2,rI b12)],3⟩) (fun b12=>b12=e12) ?_ ?_
   ·refine Qa ?_;refine Q4 ?_;refine runQ hN fun K hK=>?_;replace h:=Q5 h;obtain ⟨a13,h⟩:=h;simp [-Q0,-Q6,-Q1,-Q7,-Q2,at_I a13];(repeat with_reducible refine sdQ ?_);replace h:=bind_some h;obtain ⟨v14,hv14,h⟩:=h;refine Q3 (Q14 _ _ v14 hv14) (.cons (.whole (by simp) (by simp) (by simp)) (.cons .val .nil)) ?_;simp [-Q0,-Q6,-Q1,-Q7,-Q2,unk,unA,unE,unT,unC,flat,at_I a13];(repeat refine sdQ ?_);refine hK _ ?_;clear hK K;refine tn ?_;refine Q8 (st':=⟨[(1,.adr 0 0 0),(3,.own 1 0 v1.length),(4,.own 2 0 s10.1.length),(5,iV s10.2),(22,.val (.bool (v14 == s10.2)))],[(0,.mix 5 [(Cat.cells true c_)]),(1,rI v1),(2,rI s10.1)],3⟩) (wkQ9 [(0,0),(1,1),(2,2)]) ?_;refine Qc rfl (fun g=>?_) fun g=>?_
    ·have g15:v14=s10.2:=gQ;clear g;replace h:=if_l g15 h;refine runQ hN fun K hK=>?_;replace h:=Q5 h;obtain ⟨a16,h⟩:=h;(try simp only [List.length_append,List.length_cons,List.length_nil] at a16);simp [-Q0,-Q6,-Q1,-Q7,-Q2,a16];(repeat refine sdQ ?_);refine hK _ ?_;clear hK K;refine bn ?_;exact jn (b:=s10.1++[s10.2]) (Option.some.inj h) (wkQ9 [(0,0),(1,1),(4,2)])
    have g15:¬ (v14=s10.2):=gQ;clear g;replace h:=if_r g15 h;refine Qd ?_;refine bn ?_;exact jn (b:=s10.1) (Option.some.inj h) (wkQ9 [(0,0),(1,1),(2,2)])
   intro b12 hb12;have h:=h12;(try rw [← hb12] at h);clear h12;(try dsimp only at h);refine runQ hN fun K hK=>?_;replace h:=Q5 h;obtain ⟨a17,h⟩:=h;simp [-Q0,-Q6,-Q1,-Q7,-Q2,Qp a17];(repeat refine sdQ ?_);refine hK _ ?_;clear hK K;cases h;exact rn (s':=(b12,s10.2+1)) hk10 (wkQ9 [(0,0),(1,1),(2,2)])
  have g11:¬ (s10.2<c_.n):=gQ;clear g;replace h:=if_r g11 h;refine Qj ?_;refine tx ?_;refine lx ?_;refine bh ?_;cases h;exact jn (b:=s10.1) hk10 (wkQ9 [(2,0)])
 intro b2 hb2;have h:=h2;try rw [← hb2] at h
 clear h2;try dsimp only at h
 refine Q4 ?_;refine runQ hN fun K hK=>?_;simp [-Q0,-Q6,-Q1,-Q7,-Q2];repeat refine sdQ ?_
 refine hK _ ?_;clear hK K;refine tn ?_;refine Q8 (st':=⟨[(2,.own 0 0 b2.length)],[(0,rI b2)],1⟩) (wkQ9 [(0,0)]) ?_;refine Qi ?_;have hr:=Option.some.inj h;rw [← hr];refine ⟨_,(.tmp .nil),?_⟩;refine ⟨(.one rfl rfl .nil),[lI b2],[0],by simp [Cat.cells,UA,U1,IA,I1,LA,L1,BA,B1,EA,E1,E2,eB,eI,eL],by simp,(UpL.refl _)⟩
theorem cn_inj {r:Nat→Nat} {a b:Nat} (ha:r a=a) (hb:r b=b) (h:cn r a=cn r b):a=b:=by
 rcases Nat.lt_trichotomy a b with q|q|q
 ·have:=cn_lt ha q;omega
 ·exact q
 have:=cn_lt hb q;omega
theorem ix_lds {r:Nat→Nat} {n y:Nat} (h:r y=y) (hy:y<n):ix (lds r n) (cn r y)=(y:Int):=by
 obtain ⟨s,e⟩:=Q67 (p:=fun y=>r y=y) h n hy;unfold lds cn;rw [e];simp [ix,List.getD_eq_getElem?_getD]
theorem Q57 {c:Cat} {x:Nat} (hx:x<c.id.length):ix (icls c) x=(cn (rho c) (rho c x):Int):=Q59 c.id.length _ hx
theorem Q3H (c:Cat):(icls c).length=c.id.length:=by simp [icls,cls]
theorem Q86 {c:Cat} (hc:c.Is) {x:Nat} (hx:x<c.id.length):idxL (icls c) (ix (icls c) x)=(rho c x:Int):=by
 have h:=Q5j hc x hx;unfold idxL;rw [Q3H];refine Q6B (by omega) ?_ fun k hk e=>?_
 ·rw [Q57 (by omega),Q57 hx,h.2]
 rw [Q57 (by omega),Q57 hx] at e;have hk2:=Q5j hc k (by omega);have:=cn_inj hk2.2 h.2 (by omega);omega
noncomputable def skL (c:Cat):List Int:=lds (rho c) c.id.length
theorem skL_mem {c:Cat} {z:Int}:z∈skL c↔∃ k:Nat,k<c.id.length∧rho c k=k∧z=(k:Int):=lds_mem
theorem skL_nat {c:Cat} {k:Nat} (hk:k<c.id.length):(k:Int)∈skL c↔rho c k=k:=by
 rw [skL_mem];exact ⟨fun ⟨j,_,h,e⟩=>by
  have:k=j:=by omega
  subst this;exact h,fun h=>⟨k,hk,h,rfl⟩⟩
theorem Q3B (c:Cat):(skL c).length≤c.id.length:=Q3q _ _
theorem Q4o {c:Cat} (hc:c.Is):Qy (icls c)=some (skL c):=e_leaders (Q5j hc) (by have:=hc.nums;omega)
theorem Q6u {c:Cat} (hc:c.Is):QU c=some (skL c):=by
 have ns:=hc.nums;unfold QU;rw [Q7X hc];simp only [Option.bind_some];have l0:=Q3H c;refine Q1G c.id.length (fun i=>lds (rho c) i) (e:=skL c) rfl (by omega) (fun i hi=>?_) (by simp only;rw [if_neg (by omega)];rfl) rfl;have l2:=Q8t (rho c) i;have l1:(lds (rho c) i).length=cn (rho c) i:=rfl;simp only;rw [if_pos (by omega),Q9 (by omega),Q2c (by omega),Q86 hc hi];simp only [Option.bind_some]
 by_cases q:rho c i=i
 ·rw [if_pos (by omega),Q9 (by simp;omega)];simp only [Option.bind_some];rw [Q9 (by unfold B64;omega)];unfold lds;rw [Q2l (p:=fun y=>rho c y=y) q]
 rw [if_neg (by omega)];simp only [Option.bind_some];rw [Q9 (by unfold B64;omega)];unfold lds;rw [Q1Q (p:=fun y=>rho c y=y) q]
theorem e_hasI {L:List Int} {v:Int} (hl:L.length≤1000000):Q4v L v=some (bo (v∈L)):=by
 unfold Q4v;refine fstI L.length (fun i=>ix L i=v) (fun _=>Sum.inr true) (Sum.inl ()) (by omega) (fun i hi=>?_) (by rw [if_neg (by omega)]) ?_
 ·rw [if_pos (by omega),Q9 (by omega)]
  by_cases q:ix L i=v
  ·rw [if_pos q,QO q];rfl
  rw [if_neg q,QB q,Q9 (by unfold B64;omega)];rfl
 by_cases h:v∈L
 ·obtain ⟨i,hi,e⟩:=List.getElem_of_mem h;rcases Q20 L.length (fun i=>ix L i=v) with ⟨_,q⟩|⟨k,_,_,e2⟩
  ·exact absurd (by rw [← QN _ _ hi,e]) (q i hi)
  rw [e2,if_pos (by omega),QO h]
 rw [Q81 fun i hi e=>h (by rw [← e,← QN _ _ hi];exact List.getElem_mem hi),QB h];rfl
noncomputable def btw (c:Cat) (L:List Int) (n:Nat):List Int:=flt n fun a=>ix c.fr a∈L∧ix c.to a∈L
theorem e_btw {c:Cat} (hc:c.Is) {L:List Int} (hl:L.length≤1000):QP c L=some (btw c L c.fr.length)∧Q1C c L=some (btw c L c.fr.length):=by
 have ns:=hc.nums;unfold QP Q1C Q1U;constructor
 ·refine Q1G c.fr.length (fun i=>btw c L i) (e:=btw c L c.fr.length) rfl (by omega) (fun i hi=>?_) (by simp only;rw [if_neg (by omega)]) rfl;have l1:=Q3q i fun a=>ix c.fr a∈L∧ix c.to a∈L;simp only;rw [if_pos (by omega),Q9 (by omega),e_hasI (by omega)];simp only [Option.bind_some]
  by_cases h1:ix c.fr i∈L
  ·rw [QO h1,if_pos rfl,Q9 (by omega),e_hasI (by omega)];simp only [Option.bind_some]
   by_cases h2:ix c.to i∈L
   ·rw [QO h2,if_pos rfl,Q9 (by simp [btw];omega)];simp only [Option.bind_some];rw [Q9 (by unfold B64;omega)];unfold btw;rw [Q2l (p:=fun a:Nat=>ix c.fr a∈L∧ix c.to a∈L) ⟨h1,h2⟩]
   rw [QB h2];simp only [Bool.false_eq_true,if_false,Option.bind_some];rw [Q9 (by unfold B64;omega)];unfold btw;rw [Q1Q (p:=fun a:Nat=>ix c.fr a∈L∧ix c.to a∈L) fun q=>h2 q.2]
  rw [QB h1];simp only [Bool.false_eq_true,if_false,Option.bind_some];rw [Q9 (by unfold B64;omega)];unfold btw;rw [Q1Q (p:=fun a:Nat=>ix c.fr a∈L∧ix c.to a∈L) fun q=>h1 q.1]
 refine Q1G c.fr.length (fun i=>btw c L i) (e:=btw c L c.fr.length) rfl (by omega) (fun i hi=>?_) (by simp only;rw [if_neg (by omega)]) rfl;have l1:=Q3q i fun a=>ix c.fr a∈L∧ix c.to a∈L;simp only;rw [if_pos (by omega),Q9 (by omega)];simp only [Option.bind_some]
 by_cases h1:ix c.fr i∈L
 ·rw [QO h1,if_pos rfl,Q9 (by omega)];simp only [Option.bind_some]
  by_cases h2:ix c.to i∈L
  ·rw [QO h2,if_pos rfl,Q9 (by simp [btw];omega)];simp only [Option.bind_some];rw [Q9 (by unfold B64;omega)];unfold btw;rw [Q2l (p:=fun a:Nat=>ix c.fr a∈L∧ix c.to a∈L) ⟨h1,h2⟩]
  rw [QB h2];simp only [Bool.false_eq_true,if_false,Option.bind_some];rw [Q9 (by unfold B64;omega)];unfold btw;rw [Q1Q (p:=fun a:Nat=>ix c.fr a∈L∧ix c.to a∈L) fun q=>h2 q.2]
 rw [QB h1];simp only [Bool.false_eq_true,if_false,Option.bind_some];rw [Q9 (by unfold B64;omega)];unfold btw;rw [Q1Q (p:=fun a:Nat=>ix c.fr a∈L∧ix c.to a∈L) fun q=>h1 q.1]
noncomputable def skA (c:Cat):List Int:=btw c (skL c) c.fr.length
theorem Q36 (c:Cat):(skA c).length≤c.fr.length:=Q3q _ _
theorem skA_mem {c:Cat} {a:Int}:a∈skA c↔(0≤a∧a<(c.fr.length:Int))∧ix c.fr a∈skL c∧ix c.to a∈skL c:=by
 unfold skA btw;rw [mem_flt];constructor
 ·rintro ⟨i,hi,h,rfl⟩;exact ⟨by omega,h⟩
 rintro ⟨h1,h2⟩
 obtain ⟨k,rfl⟩:=Int.eq_ofNat_of_zero_le h1.1;exact ⟨k,by omega,h2,rfl⟩
theorem Q5l {c:Cat} {i:Nat} (hi:i<(skA c).length):(0≤ix (skA c) i∧ix (skA c) i<(c.fr.length:Int))∧ix c.fr (ix (skA c) i)∈skL c∧ix c.to (ix (skA c) i)∈skL c:=skA_mem.1 (by rw [← QN _ _ hi];exact List.getElem_mem hi)
theorem skL_at {c:Cat} {i:Nat} (hi:i<(skL c).length):∃ k:Nat,k<c.id.length∧rho c k=k∧ix (skL c) i=(k:Int):=skL_mem.1 (by rw [← QN _ _ hi];exact List.getElem_mem hi)
theorem sk_id {c:Cat} (hc:c.Is) {x:Nat} (hx:x<c.id.length):ix c.id x∈skA c↔rho c x=x:=by
 have a:=q_id hc (x:=x) (by have:=hc.nums;omega);rw [skA_mem,a.2.1,a.2.2,skL_nat hx];exact ⟨fun q=>q.2.1,fun q=>⟨a.1,q,q⟩⟩
noncomputable def skC (c:Cat):Cat:=⟨((skL c).length:Int),tab (skA c).length fun i:Nat=>idxL (skL c) (ix c.fr (ix (skA c) i)),tab (skA c).length fun i:Nat=>idxL (skL c) (ix c.to (ix (skA c) i)),tab (skL c).length fun i:Nat=>idxL (skA c) (ix c.id (ix (skL c) i)),tab (skA c).length fun i:Nat=>tab (skA c).length fun j:Nat=>idxL (skA c) (ix (rx c.cs (ix (skA c) i)) (ix (skA c) j))⟩
set_option maxHeartbeats 2000000 in
theorem Q6t {c:Cat} (hc:c.Is):Q2w c (skA c)=some (skC c):=by
 have ns:=hc.nums;have la:=Q36 c;have ll:=Q3B c;unfold Q2w Q1U;refine Q1G c.id.length (fun i=>lds (rho c) i) (e:=skL c) rfl (by omega) (fun i hi=>?_) (by simp only;rw [if_neg (by omega)];rfl) ?_
 ·have l2:=Q8t (rho c) i;have l1:(lds (rho c) i).length=cn (rho c) i:=rfl;simp only;rw [if_pos (by omega),Q9 (by omega)];simp only [Option.bind_some]
  by_cases q:rho c i=i
  ·rw [QO ((sk_id hc hi).2 q),if_pos rfl,Q9 (by simp;omega)];simp only [Option.bind_some];rw [Q9 (by unfold B64;omega)];unfold lds;rw [Q2l (p:=fun y=>rho c y=y) q]
  rw [QB (fun z=>q ((sk_id hc hi).1 z))];simp only [Bool.false_eq_true,if_false,Option.bind_some];rw [Q9 (by unfold B64;omega)];unfold lds;rw [Q1Q (p:=fun y=>rho c y=y) q]
 refine tabg (skL c).length (fun i:Nat=>idxL (skA c) (ix c.id (ix (skL c) i))) (e:=tab (skL c).length fun i:Nat=>idxL (skA c) (ix c.id (ix (skL c) i))) (by omega) (fun i hi=>?_) (by simp only;rw [if_neg (by omega)]) ?_
 ·obtain ⟨k,hk,_,e⟩:=skL_at hi;simp only;rw [if_pos (by omega),Q9 (by omega),Q9 (by omega),Q2c (by omega)];rfl
 refine Q5f (σ:=List Int × List Int × List (List Int) × Int) (skA c).length (fun i=>(tab i (fun i:Nat=>idxL (skL c) (ix c.fr (ix (skA c) i))),tab i (fun i:Nat=>idxL (skL c) (ix c.to (ix (skA c) i))),tab i (fun i:Nat=>tab (skA c).length fun j:Nat=>idxL (skA c) (ix (rx c.cs (ix (skA c) i)) (ix (skA c) j))),(i:Int))) (e:=(tab (skA c).length (fun i:Nat=>idxL (skL c) (ix c.fr (ix (skA c) i))),tab (skA c).length (fun i:Nat=>idxL (skL c) (ix c.to (ix (skA c) i))),tab (skA c).length (fun i:Nat=>tab (skA c).length fun j:Nat=>idxL (skA c) (ix (rx c.cs (ix (skA c) i)) (ix (skA c) j))))) rfl (by omega) (fun i hi=>?_) (by simp only;rw [if_neg (by omega)]) rfl;have h:=Q5l hi;have hr:=hc.1.row' h.1.1 h.1.2;simp only;rw [if_pos (by omega),Q9 (by omega),Q9 (by omega),Q2c (by omega)];simp only [Option.bind_some];rw [Q9 (by simp;omega),Q9 (by omega),Q9 (by omega),Q2c (by omega)];simp only [Option.bind_some];rw [Q9 (by simp;omega)];refine tabg (skA c).length (fun j:Nat=>idxL (skA c) (ix (rx c.cs (ix (skA c) i)) (ix (skA c) j))) (e:=tab (skA c).length fun j:Nat=>idxL (skA c) (ix (rx c.cs (ix (skA c) i)) (ix (skA c) j))) (by omega) (fun j hj=>?_) (by simp only;rw [if_neg (by omega)]) ?_
 ·have hb:=Q5l hj;simp only;rw [if_pos (by omega),Q9 (by omega),Q9 (by omega),Q9 (by omega),Q9 (by omega),Q2c (by omega)];rfl
 rw [Q9 (by simp;omega),Q9 (by unfold B64;omega),Q19,Q19,Q19];rfl
theorem idx_skL {c:Cat} {y:Nat} (h:rho c y=y) (hy:y<c.id.length):idxL (skL c) y=(cn (rho c) y:Int):=idx_flt (p:=fun y=>rho c y=y) h hy
theorem skA_inj {c:Cat} {i j:Nat} (hi:i<(skA c).length) (hj:j<(skA c).length) (e:ix (skA c) i=ix (skA c) j):i=j:=by
 have key:∀ i j:Nat,i<j→j<(skA c).length→ix (skA c) i ≠ ix (skA c) j:=by
  intro i j hij hj e;have hp:(skA c).Pairwise (· < ·):=by
   unfold skA btw flt;refine List.Pairwise.map _ (fun a b h=>?_) ((List.pairwise_lt_range (n:=c.fr.length)).filter _);exact Int.ofNat_lt.2 h
  have:=List.pairwise_iff_getElem.1 hp i j (by omega) hj hij;rw [QN,QN] at this;omega
 rcases Nat.lt_trichotomy i j with q|q|q
 ·exact absurd e (key i j q hj)
 ·exact q
 exact absurd e.symm (key j i q hi)
theorem idx_skA {c:Cat} {i:Nat} (hi:i<(skA c).length):idxL (skA c) (ix (skA c) i)=(i:Int):=by
 unfold idxL;exact Q6B hi rfl fun k hk e=>by have:=skA_inj (by omega) hi e;omega
end Go.Vc.T
