/- A part of the proof: a verified generator of conditions, and what each function of the program does. -/
import Derived.Test.YtghefemofbipnaaS21
set_option maxRecDepth 100000
set_option maxHeartbeats 4000000
set_option linter.unusedSimpArgs false
set_option linter.unusedVariables false
set_option linter.unusedSectionVars false
set_option linter.unnecessarySimpa false

namespace Go.Vc.T
open Go Go.Vc Go.Proofs
attribute [local simp] unk unA unE unT unC flat
noncomputable def Q1n (f_:SF) (g_:SF):Option (SF × List (List Int) × List (List Int)) :=
 (Q3w f_.s).bind fun v1 =>
 (Q12 (σ:=List Int × List (List Int) × List (List Int) × Int) (ε:=List Int × List (List Int) × List (List Int)) (fun s40 =>
  if s40.2.2.2<(f_.sz.length:Int) then
   (Q12 (σ:=List Int × List Int × Int) (ε:=List Int × List Int) (fun s58 =>
    ass (0≤s40.2.2.2∧s40.2.2.2<(f_.sz.length:Int)) <|
    if s58.2.2<(ix f_.sz s40.2.2.2) then
     (
      (Q12 (σ:=List Int × List Int × Int) (ε:=List Int × List Int) (fun s67 =>
       ass (0≤s40.2.2.2∧s40.2.2.2<(g_.sz.length:Int)) <|
       if s67.2.2<(ix g_.sz s40.2.2.2) then
        ass ((s67.1++[s58.2.2]).length≤1073741824) <|
        ass ((s67.2.1++[s67.2.2]).length≤1073741824) <|
        ass (B64 (s67.2.2+1)) <|
        some (Ctl.next (s67.1++[s58.2.2],s67.2.1++[s67.2.2],s67.2.2+1))
       else
        some (Ctl.ret (s67.1,s67.2.1))) fuel (s58.1,s58.2.1,0)).bind fun p67 =>
      some p67:Option (List Int × List Int)).bind fun b61 =>
     ass (B64 (s58.2.2+1)) <|
     some (Ctl.next (b61.1,b61.2,s58.2.2+1))
    else
     some (Ctl.ret (s58.1,s58.2.1))) fuel ([],[],0)).bind fun b42 =>
   ass ((s40.1++[(b42.1.length:Int)]).length≤1073741824) <|
   ass ((s40.2.1++[b42.1]).length≤1073741824) <|
   ass ((s40.2.2.1++[b42.2]).length≤1073741824) <|
   ass (B64 (s40.2.2.2+1)) <|
   some (Ctl.next (s40.1++[(b42.1.length:Int)],s40.2.1++[b42.1],s40.2.2.1++[b42.2],s40.2.2.2+1))
  else
   some (Ctl.ret (s40.1,s40.2.1,s40.2.2.1))) fuel ([],[],[],0)).bind fun b2 =>
 (Q12 (σ:=List (List Int) × Int) (ε:=List (List Int)) (fun s116 =>
  if s116.2<(f_.ac.length:Int) then
   ass (0≤s116.2∧s116.2<(f_.s.fr.length:Int)) <|
   ass (0≤s116.2∧s116.2<(f_.s.to.length:Int)) <|
   (Q12 (σ:=List Int × Int) (ε:=List Int) (fun s136 =>
    ass (0≤ix f_.s.fr s116.2∧ix f_.s.fr s116.2<(b2.2.1.length:Int)) <|
    if s136.2<((rx b2.2.1 (ix f_.s.fr s116.2)).length:Int) then
     ass (0≤s116.2∧s116.2<(f_.ac.length:Int)) <|
     ass (0≤ix f_.s.fr s116.2∧ix f_.s.fr s116.2<(b2.2.1.length:Int)) <|
     ass (0≤s136.2∧s136.2<((rx b2.2.1 (ix f_.s.fr s116.2)).length:Int)) <|
     ass (0≤ix (rx b2.2.1 (ix f_.s.fr s116.2)) s136.2∧ix (rx b2.2.1 (ix f_.s.fr s116.2)) s136.2<((rx f_.ac s116.2).length:Int)) <|
     ass (0≤ix f_.s.to s116.2∧ix f_.s.to s116.2<(g_.sz.length:Int)) <|
     ass (B64 ((ix (rx f_.ac s116.2) (ix (rx b2.2.1 (ix f_.s.fr s116.2)) s136.2)) * (ix g_.sz (ix f_.s.to s116.2)))) <|
     ass (0≤s116.2∧s116.2<(g_.ac.length:Int)) <|
     ass (0≤ix f_.s.fr s116.2∧ix f_.s.fr s116.2<(b2.2.2.length:Int)) <|
     ass (0≤s136.2∧s136.2<((rx b2.2.2 (ix f_.s.fr s116.2)).length:Int)) <|
     ass (0≤ix (rx b2.2.2 (ix f_.s.fr s116.2)) s136.2∧ix (rx b2.2.2 (ix f_.s.fr s116.2)) s136.2<((rx g_.ac s116.2).length:Int)) <|
     ass (B64 (((ix (rx f_.ac s116.2) (ix (rx b2.2.1 (ix f_.s.fr s116.2)) s136.2)) * (ix g_.sz (ix f_.s.to s116.2)))+(ix (rx g_.ac s116.2) (ix (rx b2.2.2 (ix f_.s.fr s116.2)) s136.2)))) <|
     ass ((s136.1++[((ix (rx f_.ac s116.2) (ix (rx b2.2.1 (ix f_.s.fr s116.2)) s136.2)) * (ix g_.sz (ix f_.s.to s116.2)))+(ix (rx g_.ac s116.2) (ix (rx b2.2.2 (ix f_.s.fr s116.2)) s136.2))]).length≤1073741824) <|
     ass (B64 (s136.2+1)) <|
     some (Ctl.next (s136.1++[((ix (rx f_.ac s116.2) (ix (rx b2.2.1 (ix f_.s.fr s116.2)) s136.2)) * (ix g_.sz (ix f_.s.to s116.2)))+(ix (rx g_.ac s116.2) (ix (rx b2.2.2 (ix f_.s.fr s116.2)) s136.2))],s136.2+1))
    else
     some (Ctl.ret s136.1)) fuel ([],0)).bind fun b120 =>
   ass ((s116.1++[b120]).length≤1073741824) <|
   ass (B64 (s116.2+1)) <|
   some (Ctl.next (s116.1++[b120],s116.2+1))
  else
   some (Ctl.ret s116.1)) fuel ([],0)).bind fun b78 =>
 some ((⟨v1,b2.1,b78⟩:SF),b2.2.1,b2.2.2)
theorem Q1k {F : Fx} {st st' : St} (m : List (Nat × Nat)) (h : (m.map Prod.fst).Nodup ∧ (m.map Prod.snd).Nodup ∧ (∀ id, id < F.pins → look id m = some id) ∧ (∀ p ∈ m, p.2 < st'.n) ∧ (∀ p ∈ st'.h, p.1 < st'.n) ∧ (∀ p ∈ st'.s, p.2 = rl m (st.get p.1) ∨ p.2 = .bot) ∧ ∀ p ∈ st'.h, hhOk m st.h p.1 p.2 := by simp [hP, hhOk, back, idQ, Cat.cells, SF.cells, UA, U1, IA, I1, LA, L1, BA, B1, EA, E1, E2, eB, eI, eL, eM]) : Wk F st st' := Wk.r1 m h
theorem Q22 {F : Fx} {st st' : St} (m : Nat) (h : ((idQ m).map Prod.fst).Nodup ∧ ((idQ m).map Prod.snd).Nodup ∧ (∀ id, id < F.pins → look id (idQ m) = some id) ∧ (∀ p ∈ (idQ m), p.2 < st'.n) ∧ (∀ p ∈ st'.h, p.1 < st'.n) ∧ (∀ p ∈ st'.s, p.2 = rl (idQ m) (st.get p.1) ∨ p.2 = .bot) ∧ ∀ p ∈ st'.h, hhOk (idQ m) st.h p.1 p.2 := by simp [hP, hhOk, back, idQ, Cat.cells, SF.cells, UA, U1, IA, I1, LA, L1, BA, B1, EA, E1, E2, eB, eI, eL, eM]) : Wk F st st' := Wk.r1 (idQ m) h
@[simp] abbrev Y3 (a b:SF) (c:Cat) (d:List Int × List (List Int) × List (List Int) × Int) (e:List (Nat × Ent)):List (Nat × Ent):=(0,.mix 7 [(SF.cells true a)])::(1,.mix 7 [(SF.cells true b)])::(2,.mix 7 [(YN [])])::(3,.mix 7 [(YI c [.own 8 0 d.1.length,nS])])::(4,rI c.fr)::(5,rI c.to)::(6,rI c.id)::(7,.row 1 (Ls c.cs))::(8,rI d.1)::(9,.row 1 (Ls d.2.1))::(10,.row 1 (Ls d.2.2.1))::e
@[simp] abbrev Y5 (a b:SF) (c:Cat) (d:List Int × List (List Int) × List (List Int)) (e:List (List Int) × Int) (f:List (Nat × Ent)):List (Nat × Ent):=(0,.mix 7 [(SF.cells true a)])::(1,.mix 7 [(SF.cells true b)])::(2,.mix 7 [(YN [])])::(3,.mix 7 [(YI c [.own 8 0 d.1.length,.own 9 0 e.1.length])])::(4,rI c.fr)::(5,rI c.to)::(6,rI c.id)::(7,.row 1 (Ls c.cs))::(8,rI d.1)::(9,.row 1 (Ls e.1))::(10,.row 1 (Ls d.2.1))::(11,.row 1 (Ls d.2.2))::f
@[simp] abbrev Y6 (a:List (Nat × AV)):List (Nat × AV):=(2,.adr 0 0 0)::(3,.adr 1 0 0)::(4,.adr 2 0 0)::(7,.adr 3 0 0)::a
@[simp] abbrev Ya (a b:SF) (c:List (Nat × Ent)):List (Nat × Ent):=(0,.mix 7 [(SF.cells true a)])::(1,.mix 7 [(SF.cells true b)])::(2,.mix 7 [(YN [])])::c
@[simp] abbrev Yf (a:List Int × List (List Int) × List (List Int) × Int) (b:List (Nat × AV)):List (Nat × AV):=(8,.own 9 0 a.2.1.length)::(9,.own 10 0 a.2.2.1.length)::(10,iV a.2.2.2)::b
@[simp] abbrev Yl (a:List Int × List (List Int) × List (List Int)) (b:List (List Int) × Int) (c:SF) (d:List (Nat × AV)):List (Nat × AV):=(8,.own 10 0 a.2.1.length)::(9,.own 11 0 a.2.2.length)::(15,iV b.2)::(16,iV (ix c.s.fr b.2))::(17,iV (ix c.s.to b.2))::d
@[simp] abbrev Yv (a:Cat) (b:List Int × List (List Int) × List (List Int) × Int) (c:List Int × List Int) (d:List (Nat × Ent)):List (Nat × Ent):=(3,.mix 7 [(YI a [.own 8 0 ((b.1++[(c.1.length:Int)]).length),nS])])::d
@[simp] abbrev YL (a b:SF) (c:List (AV)):List (AV):=.agg (a.cells true)::.agg (b.cells true)::c
theorem Q65 [Kd Try.prog] (f_:SF) (g_:SF) (r:SF × List (List Int) × List (List Int)) (h:Q1n f_ g_=some r):Contract Try.prog 18 (YL f_ g_ []) (.tup [.agg (r.1.cells true),.lst true 1 (Ls r.2.1),.lst true 1 (Ls r.2.2)]):=by
 refine Qp (rvs:=[.cell 4 31,.tmp 5,.tmp 6]) (rs:=[.agg (r.1.cells true),.lst true 1 (Ls r.2.1),.lst true 1 (Ls r.2.2)]) Try.func18 rfl rfl rfl rfl (by simp [Try.f18]) fun F hN hP=>?_;unfold Q1n at h;refine Q3 (runQ hN fun K hK=>?_);simp [eM,eL,eI,Q2,Qj,Qk,Cat.cells,SF.cells];repeat refine sdQ ?_
 refine hK _ ?_;clear hK K;refine tn (Q9 (st':=⟨Ys [(4,.adr 2 0 0)],Ya f_ g_ [],3⟩) (Q22 3) (Q3 (runQ hN fun K hK=>?_)));simp [eM,eL,eI,Q2,Qj,Qk,Cat.cells,SF.cells];repeat with_reducible refine sdQ ?_
 replace ⟨v1,hv1,h⟩:=bind_some h;refine Q0 (Qaq _ v1 hv1) (.cons (.aggL (.cons .val (.cons .lst (.cons .lst (.cons .lst (.cons .lst .nil)))))) .nil) ?_;simp [eM,eL,eI,Q2,Qj,Qk,Cat.cells,SF.cells];repeat refine sdQ ?_
 refine hK _ ?_;clear hK K;refine tn (Q9 (st':=⟨Y6 [(8,.own 8 0 0),(9,.own 9 0 0)],Ya f_ g_ (Yh v1 (Y7 v1 [(8,.mix 1 []),(9,.mix 1 [])])),10⟩) (Q1k [(0,0),(1,1),(2,2),(10,3),(4,4),(5,5),(6,6),(7,7),(8,8),(9,9)]) (Q3 (Q3 (runQ hN fun K hK=>?_))));simp [eM,eL,eI,Q2,Qj,Qk,Cat.cells,SF.cells];repeat refine sdQ ?_
 refine hK _ (tn (Q9 (st':=⟨Y6 [(8,.own 8 0 0),(9,.own 9 0 0),(10,iV 0)],Ya f_ g_ (Yh v1 (Y7 v1 [(8,.mix 1 []),(9,.mix 1 [])])),10⟩) (Q22 10) ?_));clear hK K;replace ⟨e2,h,h2⟩:=bind_some h;refine Q14 (fun b2:List Int × List (List Int) × List (List Int)=>⟨Y6 [(8,.own 9 0 b2.2.1.length),(9,.own 10 0 b2.2.2.length)],Ya f_ g_ ((3,.mix 7 [(YI v1 [.own 8 0 b2.1.length,nS])])::Y7 v1 [(8,rI b2.1),(9,.row 1 (Ls b2.2.1)),(10,.row 1 (Ls b2.2.2))]),11⟩) (fun b2=>b2=e2) ?_ ?_
 ·refine Q6 (Q1d h (fun s40:List Int × List (List Int) × List (List Int) × Int=>⟨Y6 (Yf s40 []),Y3 f_ g_ v1 s40 [],11⟩) (Q5U ⟨Y6 [(8,.own 8 0 0),(9,.own 9 0 0),(10,iV 0)],Ya f_ g_ (YE v1 (Y7 v1 [(8,.row 1 (Ls [])),(9,.row 1 (Ls [])),(10,rI [])])),11⟩ (Wk.nils [(10,1)] (by simp) (by simp) (by simp [nlA]) (by simp [entN,nlL,nlA,Cat.cells,SF.cells,UA,U1,IA,I1,LA,L1,BA,B1,EA,E1,E2,eB,eI,eL,eM]) (by simp)) (Q1k [(0,0),(1,1),(2,2),(3,3),(4,4),(5,5),(6,6),(7,7),(10,8),(8,9),(9,10)])) ?_);clear h;intro k40 s40 c40 h hk40;refine Q3 (Q3 (runQ hN fun K hK=>?_));simp [eM,eL,eI,Q2,Qj,Qk,Cat.cells,SF.cells];repeat refine sdQ ?_
  refine hK _ ?_;clear hK K;refine tn (Q5 rfl (fun g=>?_) fun g=>?_)
  ·have g41:s40.2.2.2<(f_.sz.length:Int):=gQ;clear g;replace h:=if_l g41 h;refine Q7 (tn (Q3 (Q6 (Q3 (runQ hN fun K hK=>?_)))));simp [eM,eL,eI,Q2,Qj,Qk,Cat.cells,SF.cells];(repeat refine sdQ ?_);refine hK _ ?_;clear hK K;refine tn (Q9 (st':=⟨Y6 (Yf s40 [(11,.own 11 0 0),(12,.own 12 0 0)]),Y3 f_ g_ v1 s40 [(11,.mix 1 []),(12,.mix 1 [])],13⟩) (Q22 13) (Q3 (Q3 (runQ hN fun K hK=>?_))));simp [eM,eL,eI,Q2,Qj,Qk,Cat.cells,SF.cells];(repeat refine sdQ ?_);refine hK _ (tn (Q9 (st':=⟨Y6 (Yf s40 [(11,.own 11 0 0),(12,.own 12 0 0),(13,iV 0)]),Y3 f_ g_ v1 s40 [(11,.mix 1 []),(12,.mix 1 [])],13⟩) (Q22 13) ?_));clear hK K;replace ⟨e42,h,h42⟩:=bind_some h;refine Q14 (fun b42:List Int × List Int=>⟨Y6 (Yf s40 [(11,.own 11 0 b42.1.length),(12,.own 12 0 b42.2.length)]),Y3 f_ g_ v1 s40 [(11,rI b42.1),(12,rI b42.2)],13⟩) (fun b42=>b42=e42) ?_ ?_
   ·refine Q6 (Q1d h (fun s58:List Int × List Int × Int=>⟨Y6 (Yf s40 [(11,.own 11 0 s58.1.length),(12,.own 12 0 s58.2.1.length),(13,iV s58.2.2)]),Y3 f_ g_ v1 s40 [(11,rI s58.1),(12,rI s58.2.1)],13⟩) (Q5U ⟨Y6 (Yf s40 [(11,.own 11 0 0),(12,.own 12 0 0),(13,iV 0)]),Y3 f_ g_ v1 s40 [(11,rI []),(12,rI [])],13⟩ (Wk.nils [] (by simp) (by simp) (by simp [nlA]) (by simp [entN,nlL,nlA,Cat.cells,SF.cells,UA,U1,IA,I1,LA,L1,BA,B1,EA,E1,E2,eB,eI,eL,eM]) (by simp)) (Q22 13)) ?_);clear h;intro k58 s58 c58 h hk58;refine Q3 (Q3 (runQ hN fun K hK=>?_));replace ⟨a59,h⟩:=Q8 h;simp [eM,eL,eI,Q2,Qj,Qk,Cat.cells,SF.cells,at_I a59];(repeat refine sdQ ?_);refine hK _ ?_;clear hK K;refine tn (Q5 rfl (fun g=>?_) fun g=>?_)
    ·have g60:s58.2.2<(ix f_.sz s40.2.2.2):=gQ;clear g;replace h:=if_l g60 h;refine Q7 (tn (Q3 ?_));replace ⟨e61,h,h61⟩:=bind_some h;refine Q14 (fun b61:List Int × List Int=>⟨Y6 (Yf s40 [(11,.own 11 0 b61.1.length),(12,.own 12 0 b61.2.length),(13,iV s58.2.2)]),Y3 f_ g_ v1 s40 [(11,rI b61.1),(12,rI b61.2)],13⟩) (fun b61=>b61=e61) ?_ ?_
     ·refine Q6 (Q3 (runQ hN fun K hK=>?_));simp [eM,eL,eI,Q2,Qj,Qk,Cat.cells,SF.cells];(repeat refine sdQ ?_);refine hK _ (tn (Q9 (st':=⟨Y6 (Yf s40 [(11,.own 11 0 s58.1.length),(12,.own 12 0 s58.2.1.length),(13,iV s58.2.2),(14,iV 0)]),Y3 f_ g_ v1 s40 [(11,rI s58.1),(12,rI s58.2.1)],13⟩) (Q22 13) (Q6 ?_)));clear hK K;replace ⟨e67,he67,h67⟩:=bind_some h;refine Q1d he67 (fun s67:List Int × List Int × Int=>⟨Y6 (Yf s40 [(11,.own 11 0 s67.1.length),(12,.own 12 0 s67.2.1.length),(13,iV s58.2.2),(14,iV s67.2.2)]),Y3 f_ g_ v1 s40 [(11,rI s67.1),(12,rI s67.2.1)],13⟩) (Q22 13) ?_;intro k67 s67 c67 h hk67;refine Q3 (Q3 (runQ hN fun K hK=>?_));replace ⟨a68,h⟩:=Q8 h;simp [eM,eL,eI,Q2,Qj,Qk,Cat.cells,SF.cells,at_I a68];(repeat refine sdQ ?_);refine hK _ ?_;clear hK K;refine tn (Q5 rfl (fun g=>?_) fun g=>?_)
      ·have g69:s67.2.2<(ix g_.sz s40.2.2.2):=gQ;clear g;replace h:=if_l g69 h;refine Q7 (tn (Q3 (Q6 (Q3 (runQ hN fun K hK=>?_)))));replace ⟨a70,h⟩:=Q8 h;(try simp only [List.length_append,List.length_cons,List.length_nil] at a70);simp [eM,eL,eI,Q2,Qj,Qk,Cat.cells,SF.cells,a70];(repeat refine sdQ ?_);refine hK _ ?_;clear hK K;refine tn (Q9 (st':=⟨Y6 (Yf s40 [(11,.own 11 0 ((s67.1++[s58.2.2]).length)),(12,.own 12 0 s67.2.1.length),(13,iV s58.2.2),(14,iV s67.2.2)]),Y3 f_ g_ v1 s40 [(11,rI (s67.1++[s58.2.2])),(12,rI s67.2.1)],13⟩) (Q1k [(0,0),(1,1),(2,2),(3,3),(4,4),(5,5),(6,6),(7,7),(8,8),(9,9),(10,10),(14,11),(12,12)]) (runQ hN fun K hK=>?_));replace ⟨a71,h⟩:=Q8 h;(try simp only [List.length_append,List.length_cons,List.length_nil] at a71);simp [eM,eL,eI,Q2,Qj,Qk,Cat.cells,SF.cells,a71];(repeat refine sdQ ?_);refine hK _ ?_;clear hK K;refine bn (tn (Q9 (st':=⟨Y6 (Yf s40 [(11,.own 11 0 ((s67.1++[s58.2.2]).length)),(12,.own 12 0 ((s67.2.1++[s67.2.2]).length)),(13,iV s58.2.2),(14,iV s67.2.2)]),Y3 f_ g_ v1 s40 [(11,rI (s67.1++[s58.2.2])),(12,rI (s67.2.1++[s67.2.2]))],13⟩) (Q1k [(0,0),(1,1),(2,2),(3,3),(4,4),(5,5),(6,6),(7,7),(8,8),(9,9),(10,10),(11,11),(14,12)]) (runQ hN fun K hK=>?_)));replace ⟨a72,h⟩:=Q8 h;simp [eM,eL,eI,Q2,Qj,Qk,Cat.cells,SF.cells,QG a72];(repeat refine sdQ ?_);refine hK _ ?_;clear hK K;cases h;exact rn (s':=(s67.1++[s58.2.2],s67.2.1++[s67.2.2],s67.2.2+1)) hk67 (Q22 13)
      have g69:¬ (s67.2.2<(ix g_.sz s40.2.2.2)):=gQ;clear g;replace h:=if_r g69 h;refine Qn (tx (lx (bh (bn ?_))));cases h;have q:_=e67:=hk67;have h:=h67;rw [← q] at h;clear q;(try dsimp only at h);exact jn (b:=(s67.1,s67.2.1)) (Option.some.inj h) (Q22 13)
     intro b61 hb61;have h:=h61;(try rw [← hb61] at h);clear h61;(try dsimp only at h);refine runQ hN fun K hK=>?_;replace ⟨a73,h⟩:=Q8 h;simp [eM,eL,eI,Q2,Qj,Qk,Cat.cells,SF.cells,QG a73];(repeat refine sdQ ?_);refine hK _ ?_;clear hK K;cases h;exact rn (s':=(b61.1,b61.2,s58.2.2+1)) hk58 (Q22 13)
    have g60:¬ (s58.2.2<(ix f_.sz s40.2.2.2)):=gQ;clear g;replace h:=if_r g60 h;refine Qn (tx (lx (bh ?_)));cases h;exact jn (b:=(s58.1,s58.2.1)) hk58 (Q22 13)
   intro b42 hb42;have h:=h42;(try rw [← hb42] at h);clear h42;(try dsimp only at h);refine Q3 (runQ hN fun K hK=>?_);replace ⟨a74,h⟩:=Q8 h;(try simp only [List.length_append,List.length_cons,List.length_nil] at a74);simp [eM,eL,eI,Q2,Qj,Qk,Cat.cells,SF.cells,a74];(repeat refine sdQ ?_);refine hK _ ?_;clear hK K;refine tn (Q9 (st':=⟨Y6 (Yf s40 [(11,.own 11 0 b42.1.length),(12,.own 12 0 b42.2.length)]),Ya f_ g_ (Yv v1 s40 b42 (Y7 v1 [(8,rI (s40.1++[(b42.1.length:Int)])),(9,.row 1 (Ls s40.2.1)),(10,.row 1 (Ls s40.2.2.1)),(11,rI b42.1),(12,rI b42.2)])),13⟩) (Q1k [(0,0),(1,1),(2,2),(3,3),(4,4),(5,5),(6,6),(7,7),(14,8),(9,9),(10,10),(11,11),(12,12)]) (Q3 (runQ hN fun K hK=>?_)));replace ⟨a75,h⟩:=Q8 h;(try simp only [List.length_append,List.length_cons,List.length_nil] at a75);simp [eM,eL,eI,Q2,Qj,Qk,Cat.cells,SF.cells,a75];(repeat refine sdQ ?_);refine hK _ ?_;clear hK K;refine tn (Q9 (st':=⟨Y6 [(8,.own 9 0 ((s40.2.1++[b42.1]).length)),(9,.own 10 0 s40.2.2.1.length),(10,iV s40.2.2.2),(12,.own 11 0 b42.2.length)],Ya f_ g_ (Yv v1 s40 b42 (Y7 v1 [(8,rI (s40.1++[(b42.1.length:Int)])),(9,.row 1 (Ls (s40.2.1++[b42.1]))),(10,.row 1 (Ls s40.2.2.1)),(11,rI b42.2)])),12⟩) (Q1k [(0,0),(1,1),(2,2),(3,3),(4,4),(5,5),(6,6),(7,7),(8,8),(14,9),(10,10),(12,11)]) (runQ hN fun K hK=>?_));replace ⟨a76,h⟩:=Q8 h;(try simp only [List.length_append,List.length_cons,List.length_nil] at a76);simp [eM,eL,eI,Q2,Qj,Qk,Cat.cells,SF.cells,a76];(repeat refine sdQ ?_);refine hK _ (bn (tn ?_));clear hK K
   refine Q9 (st':=⟨Y6 [(8,.own 9 0 ((s40.2.1++[b42.1]).length)),(9,.own 10 0 ((s40.2.2.1++[b42.2]).length)),(10,iV s40.2.2.2)],Ya f_ g_ (Yv v1 s40 b42 (Y7 v1 [(8,rI (s40.1++[(b42.1.length:Int)])),(9,.row 1 (Ls (s40.2.1++[b42.1]))),(10,.row 1 (Ls (s40.2.2.1++[b42.2])))])),11⟩) (Q1k [(0,0),(1,1),(2,2),(3,3),(4,4),(5,5),(6,6),(7,7),(8,8),(9,9),(13,10)]) (runQ hN fun K hK=>?_);replace ⟨a77,h⟩:=Q8 h;simp [eM,eL,eI,Q2,Qj,Qk,Cat.cells,SF.cells,QG a77];(repeat refine sdQ ?_);refine hK _ ?_;clear hK K;cases h;exact rn (s':=(s40.1++[(b42.1.length:Int)],s40.2.1++[b42.1],s40.2.2.1++[b42.2],s40.2.2.2+1)) hk40 (Q22 11)
  have g41:¬ (s40.2.2.2<(f_.sz.length:Int)):=gQ;clear g;replace h:=if_r g41 h;refine Qn (tx (lx (bh ?_)));cases h;exact jn (b:=(s40.1,s40.2.1,s40.2.2.1)) hk40 (Q22 11)
 intro b2 hb2;have h:=h2;try rw [← hb2] at h
 clear h2;try dsimp only at h
 refine Q3 (Q3 (runQ hN fun K hK=>?_));simp [eM,eL,eI,Q2,Qj,Qk,Cat.cells,SF.cells];repeat refine sdQ ?_
 refine hK _ (tn (Q9 (st':=⟨Y6 [(8,.own 9 0 b2.2.1.length),(9,.own 10 0 b2.2.2.length),(15,iV 0)],Ya f_ g_ ((3,.mix 7 [(YI v1 [.own 8 0 b2.1.length,nS])])::Y7 v1 [(8,rI b2.1),(9,.row 1 (Ls b2.2.1)),(10,.row 1 (Ls b2.2.2))]),11⟩) (Q22 11) ?_));clear hK K;replace ⟨e78,h,h78⟩:=bind_some h;refine Q14 (fun b78:List (List Int)=>⟨YD [(7,.adr 1 0 0),(8,.own 8 0 b2.2.1.length),(9,.own 9 0 b2.2.2.length)],Y9 [(1,.mix 7 [[iV v1.n,.own 2 0 v1.fr.length,.own 3 0 v1.to.length,.own 4 0 v1.id.length,.own 5 0 v1.cs.length,.own 6 0 b2.1.length,.own 7 0 b78.length]]),(2,rI v1.fr),(3,rI v1.to),(4,rI v1.id),(5,.row 1 (Ls v1.cs)),(6,rI b2.1),(7,.row 1 (Ls b78)),(8,.row 1 (Ls b2.2.1)),(9,.row 1 (Ls b2.2.2))],10⟩) (fun b78=>b78=e78) ?_ ?_
 ·refine Q6 (Q1d h (fun s116:List (List Int) × Int=>⟨Y6 [(8,.own 10 0 b2.2.1.length),(9,.own 11 0 b2.2.2.length),(15,iV s116.2)],Y5 f_ g_ v1 b2 s116 [],12⟩) (Q5U ⟨Y6 [(8,.own 9 0 b2.2.1.length),(9,.own 10 0 b2.2.2.length),(15,iV 0)],Ya f_ g_ ((3,.mix 7 [(YI v1 [.own 8 0 b2.1.length,.own 11 0 0])])::Y7 v1 [(8,rI b2.1),(9,.row 1 (Ls b2.2.1)),(10,.row 1 (Ls b2.2.2)),(11,.row 1 (Ls []))]),12⟩ (Wk.nils [(11,1)] (by simp) (by simp) (by simp [nlA]) (by simp [entN,nlL,nlA,Cat.cells,SF.cells,UA,U1,IA,I1,LA,L1,BA,B1,EA,E1,E2,eB,eI,eL,eM]) (by simp)) (Q1k [(0,0),(1,1),(2,2),(3,3),(4,4),(5,5),(6,6),(7,7),(8,8),(11,9),(9,10),(10,11)])) ?_);clear h;intro k116 s116 c116 h hk116;refine Q3 (Q3 (runQ hN fun K hK=>?_));simp [eM,eL,eI,Q2,Qj,Qk,Cat.cells,SF.cells];repeat refine sdQ ?_
  refine hK _ ?_;clear hK K;refine tn (Q5 rfl (fun g=>?_) fun g=>?_)
  ·have g117:s116.2<(f_.ac.length:Int):=gQ;clear g;replace h:=if_l g117 h;refine Q7 (tn (Q3 (Q6 (Q3 (runQ hN fun K hK=>?_)))));replace ⟨a118,h⟩:=Q8 h;replace ⟨a119,h⟩:=Q8 h;simp [eM,eL,eI,Q2,Qj,Qk,Cat.cells,SF.cells,at_I a118,at_I a119];(repeat refine sdQ ?_);refine hK _ ?_;clear hK K;refine tn (Q9 (st':=⟨Y6 (Yl b2 s116 f_ [(18,.own 12 0 0)]),Y5 f_ g_ v1 b2 s116 [(12,.mix 1 [])],13⟩) (Q22 13) (Q3 (Q3 (runQ hN fun K hK=>?_))));simp [eM,eL,eI,Q2,Qj,Qk,Cat.cells,SF.cells];(repeat refine sdQ ?_);refine hK _ (tn (Q9 (st':=⟨Y6 (Yl b2 s116 f_ [(18,.own 12 0 0),(19,iV 0)]),Y5 f_ g_ v1 b2 s116 [(12,.mix 1 [])],13⟩) (Q22 13) ?_));clear hK K;replace ⟨e120,h,h120⟩:=bind_some h;refine Q14 (fun b120:List Int=>⟨Y6 [(8,.own 10 0 b2.2.1.length),(9,.own 11 0 b2.2.2.length),(15,iV s116.2),(18,.own 12 0 b120.length)],Y5 f_ g_ v1 b2 s116 [(12,rI b120)],13⟩) (fun b120=>b120=e120) ?_ ?_
   ·refine Q6 (Q1d h (fun s136:List Int × Int=>⟨Y6 (Yl b2 s116 f_ [(18,.own 12 0 s136.1.length),(19,iV s136.2)]),Y5 f_ g_ v1 b2 s116 [(12,rI s136.1)],13⟩) (Q5U ⟨Y6 (Yl b2 s116 f_ [(18,.own 12 0 0),(19,iV 0)]),Y5 f_ g_ v1 b2 s116 [(12,rI [])],13⟩ (Wk.nils [] (by simp) (by simp) (by simp [nlA]) (by simp [entN,nlL,nlA,Cat.cells,SF.cells,UA,U1,IA,I1,LA,L1,BA,B1,EA,E1,E2,eB,eI,eL,eM]) (by simp)) (Q22 13)) ?_);clear h;intro k136 s136 c136 h hk136;refine Q3 (Q3 (runQ hN fun K hK=>?_));replace ⟨a137,h⟩:=Q8 h;simp [eM,eL,eI,Q2,Qj,Qk,Cat.cells,SF.cells,at_L a137];(repeat refine sdQ ?_);refine hK _ ?_;clear hK K;refine tn (Q5 rfl (fun g=>?_) fun g=>?_)
    ·have g138:s136.2<((rx b2.2.1 (ix f_.s.fr s116.2)).length:Int):=gQ;clear g;replace h:=if_l g138 h;refine Q7 (tn (Q3 (Q6 (runQ hN fun K hK=>?_))));replace ⟨a139,h⟩:=Q8 h;replace ⟨a140,h⟩:=Q8 h;replace ⟨a141,h⟩:=Q8 h;replace ⟨a142,h⟩:=Q8 h;replace ⟨a143,h⟩:=Q8 h;replace ⟨a144,h⟩:=Q8 h;replace ⟨a145,h⟩:=Q8 h;replace ⟨a146,h⟩:=Q8 h;replace ⟨a147,h⟩:=Q8 h;replace ⟨a148,h⟩:=Q8 h;replace ⟨a149,h⟩:=Q8 h;replace ⟨a150,h⟩:=Q8 h;(try simp only [List.length_append,List.length_cons,List.length_nil] at a150);simp [eM,eL,eI,Q2,Qj,Qk,Cat.cells,SF.cells,at_L a139,at_L a140,at_I a141,at_I a142,at_I a143,QG a144,at_L a145,at_L a146,at_I a147,at_I a148,QG a149,a150];(repeat refine sdQ ?_);refine hK _ ?_;clear hK K;refine bn (tn (Q9 (st':=⟨Y6 (Yl b2 s116 f_ [(18,.own 12 0 ((s136.1++[((ix (rx f_.ac s116.2) (ix (rx b2.2.1 (ix f_.s.fr s116.2)) s136.2)) * (ix g_.sz (ix f_.s.to s116.2)))+(ix (rx g_.ac s116.2) (ix (rx b2.2.2 (ix f_.s.fr s116.2)) s136.2))]).length)),(19,iV s136.2)]),Y5 f_ g_ v1 b2 s116 [(12,rI (s136.1++[((ix (rx f_.ac s116.2) (ix (rx b2.2.1 (ix f_.s.fr s116.2)) s136.2)) * (ix g_.sz (ix f_.s.to s116.2)))+(ix (rx g_.ac s116.2) (ix (rx b2.2.2 (ix f_.s.fr s116.2)) s136.2))]))],13⟩) (Q1k [(0,0),(1,1),(2,2),(3,3),(4,4),(5,5),(6,6),(7,7),(8,8),(9,9),(10,10),(11,11),(19,12)]) (runQ hN fun K hK=>?_)));replace ⟨a151,h⟩:=Q8 h;simp [eM,eL,eI,Q2,Qj,Qk,Cat.cells,SF.cells,QG a151];(repeat refine sdQ ?_);refine hK _ ?_;clear hK K;cases h;exact rn (s':=(s136.1++[((ix (rx f_.ac s116.2) (ix (rx b2.2.1 (ix f_.s.fr s116.2)) s136.2)) * (ix g_.sz (ix f_.s.to s116.2)))+(ix (rx g_.ac s116.2) (ix (rx b2.2.2 (ix f_.s.fr s116.2)) s136.2))],s136.2+1)) hk136 (Q22 13)
    have g138:¬ (s136.2<((rx b2.2.1 (ix f_.s.fr s116.2)).length:Int)):=gQ;clear g;replace h:=if_r g138 h;refine Qn (tx (lx (bh ?_)));cases h;exact jn (b:=s136.1) hk136 (Q22 13)
   intro b120 hb120;have h:=h120;(try rw [← hb120] at h);clear h120;(try dsimp only at h);refine runQ hN fun K hK=>?_;replace ⟨a152,h⟩:=Q8 h;(try simp only [List.length_append,List.length_cons,List.length_nil] at a152);simp [eM,eL,eI,Q2,Qj,Qk,Cat.cells,SF.cells,a152];(repeat refine sdQ ?_);refine hK _ ?_;clear hK K;refine bn (tn (Q9 (st':=⟨Y6 [(8,.own 10 0 b2.2.1.length),(9,.own 11 0 b2.2.2.length),(15,iV s116.2)],Ya f_ g_ ((3,.mix 7 [(YI v1 [.own 8 0 b2.1.length,.own 9 0 ((s116.1++[b120]).length)])])::Y7 v1 [(8,rI b2.1),(9,.row 1 (Ls (s116.1++[b120]))),(10,.row 1 (Ls b2.2.1)),(11,.row 1 (Ls b2.2.2))]),12⟩) (Q1k [(0,0),(1,1),(2,2),(3,3),(4,4),(5,5),(6,6),(7,7),(8,8),(14,9),(10,10),(11,11)]) (runQ hN fun K hK=>?_)));replace ⟨a153,h⟩:=Q8 h;simp [eM,eL,eI,Q2,Qj,Qk,Cat.cells,SF.cells,QG a153];(repeat refine sdQ ?_);refine hK _ ?_;clear hK K;cases h;exact rn (s':=(s116.1++[b120],s116.2+1)) hk116 (Q22 12)
  have g117:¬ (s116.2<(f_.ac.length:Int)):=gQ;clear g;replace h:=if_r g117 h;refine Qn (tx (lx (bh ?_)));cases h;exact jn (b:=s116.1) hk116 (Q1k [(2,0),(3,1),(4,2),(5,3),(6,4),(7,5),(8,6),(9,7),(10,8),(11,9)])
 intro b78 hb78;have h:=h78;try rw [← hb78] at h
 clear h78;try dsimp only at h
 refine Q3 (runQ hN fun K hK=>?_);simp [eM,eL,eI,Q2,Qj,Qk,Cat.cells,SF.cells];repeat refine sdQ ?_
 refine hK _ (tn (Q9 (st':=⟨YD [(5,.own 7 0 b2.2.1.length),(6,.own 8 0 b2.2.2.length)],[(0,.mix 7 [[iV v1.n,.own 1 0 v1.fr.length,.own 2 0 v1.to.length,.own 3 0 v1.id.length,.own 4 0 v1.cs.length,.own 5 0 b2.1.length,.own 6 0 b78.length]]),(1,rI v1.fr),(2,rI v1.to),(3,rI v1.id),(4,.row 1 (Ls v1.cs)),(5,rI b2.1),(6,.row 1 (Ls b78)),(7,.row 1 (Ls b2.2.1)),(8,.row 1 (Ls b2.2.2))],9⟩) (Q1k [(0,0),(2,1),(3,2),(4,3),(5,4),(6,5),(7,6),(8,7),(9,8)]) (Qi ?_)));clear hK K;have hr:=Option.some.inj h;rw [← hr];refine ⟨_,(.cell Q64 rfl rfl rfl (by simp) (by simp) (.tmp (.tmp .nil))),?_⟩;refine ⟨(.agg rfl (.one rfl rfl (.one rfl rfl .nil))),[iV v1.n,lI v1.fr,lI v1.to,lI v1.id,.lst true 1 (Ls v1.cs),lI b2.1,.lst true 1 (Ls b78),.lst true 1 (Ls b2.2.1),.lst true 1 (Ls b2.2.2)],[1,2,3,4,5,6,7,8],by simp [Cat.cells,SF.cells,UA,U1,IA,I1,LA,L1,BA,B1,EA,E1,E2,eB,eI,eL,eM],by simp,(UpL.refl _)⟩
section
attribute [local simp] Qf QD Qq Q1A QR
def prF (M k:Nat):Int:=((k / M:Nat):Int)
def prS (M k:Nat):Int:=((k % M:Nat):Int)
def pr (M k:Nat):List Int:=[prF M k,prS M k]
def prs (n M:Nat):List (List Int):=tab (n * M) (pr M)
theorem pr_at {M e d:Nat} (h:d<M):pr M (e * M+d)=[(e:Int),(d:Int)]:=by
 have h1:(e * M+d) / M=e:=by
  rw [Nat.mul_comm,Nat.mul_add_div (by omega),Nat.div_eq_of_lt h];rfl
 have h2:(e * M+d) % M=d:=by
  rw [Nat.mul_comm,Nat.mul_add_mod,Nat.mod_eq_of_lt h]
 simp only [pr,prF,prS,h1,h2]
theorem prF_at {M e d:Nat} (h:d<M):prF M (e * M+d)=e∧prS M (e * M+d)=d:=by
 have:=pr_at (e:=e) h;simp only [pr,List.cons.injEq,and_true] at this;exact this
theorem pr_lt {n M k:Nat} (h:k<n * M):k / M<n∧k % M<M∧k / M * M+k % M=k:=by
 have hM:0<M:=by
  rcases Nat.eq_zero_or_pos M with e|e
  ·subst e;omega
  exact e
 exact ⟨(Nat.div_lt_iff_lt_mul hM).2 h,Nat.mod_lt _ hM,by rw [Nat.mul_comm];exact Nat.div_add_mod k M⟩
theorem Q6N {n M e d:Nat} (he:e<n) (hd:d<M):e * M+d<n * M:=by
 have h1:(e+1) * M≤n * M:=Nat.mul_le_mul_right _ he;rw [Nat.succ_mul] at h1;omega
theorem prF_bd {n M k:Nat} (h:k<n * M):(0≤prF M k∧prF M k<n)∧0≤prS M k∧prS M k<M:=by
 have q:=pr_lt h;unfold prF prS;generalize k / M=a at *;generalize k % M=b at *;omega
theorem rx_tab (n:Nat) (g:Nat→List Int) {i:Nat} (h:i<n):rx (tab n g) i=g i:=by
 rw [← QP _ _ (show i<(tab n g).length by simpa using h)];simp [tab]
theorem Q7G {n M:Nat} (hn:n≤16) (hM:M≤16):Keyed (prs n M):=by
 refine ⟨?_,fun x hx a ha=>?_⟩
 ·rw [List.Nodup,List.pairwise_iff_getElem];intro i j hi hj hij e;simp only [prs,tab,List.getElem_map,List.getElem_range,pr,prF,prS,List.cons.injEq,and_true] at e;simp only [prs,Q6s] at hi hj;have q1:=pr_lt hi;have q2:=pr_lt hj;have e1:i / M=j / M:=by omega
  have e2:i % M=j % M:=by omega
  rw [e1,e2] at q1;omega
 simp only [prs,tab,List.mem_map,List.mem_range] at hx;obtain ⟨k,hk,rfl⟩:=hx;have q:=prF_bd hk;simp only [pr,List.mem_cons,List.not_mem_nil,or_false] at ha;rcases ha with rfl|rfl<;>omega
theorem prs_mem {n M:Nat} {t:List Int} (h:t∈prs n M):∃ k,k<n * M∧t=pr M k:=by
 simp only [prs,tab,List.mem_map,List.mem_range] at h;obtain ⟨k,hk,rfl⟩:=h;exact ⟨k,hk,rfl⟩
theorem prs_in {n M:Nat} {u v:Int} (hu:0≤u∧u<n) (hv:0≤v∧v<M):[u,v]∈prs n M:=by
 simp only [prs,tab,List.mem_map,List.mem_range];refine ⟨u.toNat * M+v.toNat,Q6N (by omega) (by omega),?_⟩;rw [pr_at (by omega)]
 congr 1<;>simp<;>omega
theorem prs_pos {n M:Nat} (hn:n≤16) (hM:M≤16) {u v:Int} (hu:0≤u∧u<n) (hv:0≤v∧v<M):posL (prs n M) [u,v]=u * M+v:=by
 have hK:=Q7G hn hM;obtain ⟨j,hj,hj2,hj3,_⟩:=hK.at (prs_in hu hv);have hs:u.toNat * M+v.toNat<n * M:=Q6N (by omega) (by omega);have hr:rx (prs n M) ((u.toNat * M+v.toNat:Nat):Int)=[u,v]:=by
  rw [prs,rx_tab _ _ hs,pr_at (by omega)]
  congr 1<;>simp<;>omega
 have:=hK.inj hj (by simpa [prs] using hs) (hj2.trans hr.symm);rw [hj3,this,Int.natCast_add,Int.natCast_mul,Int.toNat_of_nonneg hu.1,Int.toNat_of_nonneg hv.1]
def szN (f:SF) (x:Nat):Nat:=(ix f.sz x).toNat
def prE (f g:SF) (x:Nat):List (List Int):=prs (szN f x) (szN g x)
theorem Two.szn {f g:SF} (h:Two f g) {x:Nat} (hx:(x:Int)<f.s.n):((szN f x:Int)=ix f.sz x∧szN f x≤16)∧(szN g x:Int)=ix g.sz x∧szN g x≤16:=by
 obtain ⟨_,k1,k2,k3,k4,k5,k6,k7⟩:=h.fact;have:=h.sizes (x:=x) (by omega);unfold szN;omega
theorem mul16 {a b:Nat} (ha:a≤16) (hb:b≤16):a * b≤256:=Nat.mul_le_mul ha hb
theorem prE_len (f g:SF) (x:Nat):(prE f g x).length=szN f x * szN g x:=by simp [prE,prs]
theorem mvT_pr (f g:SF) (a:Nat) (M k:Nat):mvT [f,g] a (pr M k)=[ix (rx f.ac a) (prF M k),ix (rx g.ac a) (prS M k)]:=by
 simp [mvT,tab,List.range_succ,pr,gx,ix]
theorem Two.mv {f g:SF} (h:Two f g) {a:Nat} (ha:a<f.s.fr.length) {k:Nat} (hk:k<szN f (ix f.s.fr a).toNat * szN g (ix f.s.fr a).toNat) :
  (0≤ix (rx f.ac a) (prF (szN g (ix f.s.fr a).toNat) k)∧ix (rx f.ac a) (prF (szN g (ix f.s.fr a).toNat) k)<(szN f (ix f.s.to a).toNat:Int))∧0≤ix (rx g.ac a) (prS (szN g (ix f.s.fr a).toNat) k)∧ix (rx g.ac a) (prS (szN g (ix f.s.fr a).toNat) k)<(szN g (ix f.s.to a).toNat:Int) ∧
  (0≤prF (szN g (ix f.s.fr a).toNat) k∧prF (szN g (ix f.s.fr a).toNat) k<((rx f.ac a).length:Int))∧0≤prS (szN g (ix f.s.fr a).toNat) k∧prS (szN g (ix f.s.fr a).toNat) k<((rx g.ac a).length:Int):=by
 obtain ⟨_,k1,k2,k3,k4,k5,k6,k7⟩:=h.fact;have hC:=h.pf.cat.1;have li:=hC.li;obtain ⟨q1,q2⟩:=hC.frn ha;have e1:((ix f.s.fr a).toNat:Int)=ix f.s.fr a:=Int.toNat_of_nonneg q1.1;have e2:((ix f.s.to a).toNat:Int)=ix f.s.to a:=Int.toNat_of_nonneg q2.1;have z1:=h.szn (x:=(ix f.s.fr a).toNat) (by omega);have z2:=h.szn (x:=(ix f.s.to a).toNat) (by omega);rw [e1] at z1;rw [e2] at z2;have p:=prF_bd hk;have w1:=h.pf.len' (j:=a) (by omega) (by omega);have w2:=h.pg.len' (j:=a) (by omega) (by rw [← h.e];omega);rw [← h.e] at w2;have b1:0≤prF (szN g (ix f.s.fr a).toNat) k∧prF (szN g (ix f.s.fr a).toNat) k<((rx f.ac a).length:Int):=by omega
 have b2:0≤prS (szN g (ix f.s.fr a).toNat) k∧prS (szN g (ix f.s.fr a).toNat) k<((rx g.ac a).length:Int):=by omega
 have v1:=h.pf.val' (j:=a) (e:=prF (szN g (ix f.s.fr a).toNat) k) (by omega) (by omega) b1.1 b1.2;have v2:=h.pg.val' (j:=a) (e:=prS (szN g (ix f.s.fr a).toNat) k) (by omega) (by rw [← h.e];omega) b2.1 b2.2;rw [← h.e] at v2;omega
theorem Two.tup {f g:SF} (h:Two f g):TupP [f,g] f.s (prE f g):=by
 obtain ⟨_,k1,k2,k3,k4,k5,k6,k7⟩:=h.fact;refine ⟨by simp,by simp,fun i hi=>?_,fun x hx=>?_,fun x hx=>?_,fun x hx t ht=>?_,fun a ha t ht=>?_⟩
 ·match i,hi with
  | 0,_=>exact ⟨h.pf,rfl⟩
  | 1,_=>exact ⟨h.pg,h.e.symm⟩
 ·have z:=h.szn hx;rw [prE_len];have:=mul16 z.1.2 z.2.2;omega
 ·have z:=h.szn hx;exact Q7G z.1.2 z.2.2
 ·have z:=h.szn hx;obtain ⟨k,hk,rfl⟩:=prs_mem ht;have p:=prF_bd hk;refine ⟨by simp [pr],fun i hi=>?_⟩
  match i,hi with
  | 0,_=>show 0≤prF _ k∧prF _ k<ix f.sz x;omega
  | 1,_=>show 0≤prS _ k∧prS _ k<ix g.sz x;omega
 obtain ⟨k,hk,rfl⟩:=prs_mem ht;obtain ⟨m1,m2,m3,_⟩:=h.mv ha hk;rw [mvT_pr];exact prs_in m1 ⟨m2,m3⟩
def Q3b (f g:SF) (n:Nat):List Int:=tab n fun x=>((szN f x * szN g x:Nat):Int)
def Q4N (f g:SF) (a:Nat) (n:Nat):List Int:=tab n fun k=>ix (rx f.ac a) (prF (szN g (ix f.s.fr a).toNat) k) * ix g.sz (ix f.s.to a)+ix (rx g.ac a) (prS (szN g (ix f.s.fr a).toNat) k)
def Q51 (f g:SF) (n:Nat):List (List Int):=tab n fun a=>Q4N f g a (szN f (ix f.s.fr a).toNat * szN g (ix f.s.fr a).toNat)
def Q2A (f g:SF) (n:Nat):List (List Int):=tab n fun x=>tab (szN f x * szN g x) (prF (szN g x))
def Q33 (f g:SF) (n:Nat):List (List Int):=tab n fun x=>tab (szN f x * szN g x) (prS (szN g x))
def Q49 (f g:SF):SF:=⟨f.s,Q3b f g f.sz.length,Q51 f g f.ac.length⟩
theorem map_tab {α β:Type} (n:Nat) (g:Nat→α) (h:α→β):(tab n g).map h=tab n fun i=>h (g i):=by simp [tab]
theorem prod_tup {f g:SF} (h:Two f g):tupZ f.s (prE f g)=Q3b f g f.sz.length∧tupR [f,g] f.s (prE f g)=[Q2A f g f.sz.length,Q33 f g f.sz.length]∧tupA [f,g] f.s (prE f g)=Q51 f g f.ac.length:=by
 obtain ⟨_,k1,k2,k3,k4,k5,k6,k7⟩:=h.fact;have hn:f.s.n.toNat=f.sz.length:=by omega
 refine ⟨?_,?_,?_⟩
 ·unfold tupZ Q3b;rw [hn];exact Q3m fun i hi=>by rw [prE_len]
 ·unfold tupR Q2A Q33;rw [hn];simp only [List.length_cons,List.length_nil,tab,List.range_succ,List.range_zero,List.nil_append,List.map_append,List.map_cons,List.map_nil,List.cons_append]
  congr 1
  ·exact List.map_congr_left fun x _=>by simp [prE,prs,tab,pr,ix]
  congr 1
  exact List.map_congr_left fun x _=>by simp [prE,prs,tab,pr,ix]
 unfold tupA Q51;rw [k3];refine Q3m fun a ha=>?_;unfold prE Q4N;have e0:prs (szN f (ix f.s.fr a).toNat) (szN g (ix f.s.fr a).toNat)=tab (szN f (ix f.s.fr a).toNat * szN g (ix f.s.fr a).toNat) (pr (szN g (ix f.s.fr a).toNat)):=rfl;rw [e0,map_tab];refine Q3m fun k hk=>?_;obtain ⟨m1,m2,m3,_⟩:=h.mv (by omega) hk;have hC:=h.pf.cat.1;have li:=hC.li;obtain ⟨q1,q2⟩:=hC.frn (a:=a) (by omega);have e2:((ix f.s.to a).toNat:Int)=ix f.s.to a:=Int.toNat_of_nonneg q2.1;have z2:=h.szn (x:=(ix f.s.to a).toNat) (by omega);rw [mvT_pr,prs_pos z2.1.2 z2.2.2 m1 ⟨m2,m3⟩,z2.2.1,e2]
theorem e_pairsT {n m:Int} (hn:0≤n∧n≤16) (hm:0≤m∧m≤16):Qr n m=some (prs n.toNat m.toNat):=by
 have hM:=Int.toNat_of_nonneg hm.1;have hN:=Int.toNat_of_nonneg hn.1;generalize hMe:m.toNat=M at hM;generalize hNe:n.toNat=N at hN;unfold Qr;refine Q1q N (fun e=>tab (e * M) (pr M)) (e:=prs N M) (by simp [tab]) (by omega) (fun e he=>?_) (by simp only;rw [if_neg (by omega)];rfl) rfl;have hNM:N * M≤256:=mul16 (by omega) (by omega);simp only;rw [if_pos (by omega),Option.bind_assoc];refine Q1q M (fun d=>tab (e * M+d) (pr M)) (e:=tab ((e+1) * M) (pr M)) (by simp) (by omega) (fun d hd=>?_) ?_ ?_
 ·have hs:=Q6N he hd;simp only;rw [if_pos (by omega)];unfold QW;simp only [Option.bind_some,if_true];rw [Qe (by simp;omega)];simp only [Option.bind_some];rw [Qe (by unfold B64;omega),← pr_at hd,← Q1g];rfl
 ·simp only;rw [if_neg (by omega),Nat.succ_mul]
 simp only [Option.bind_some];rw [Qe (by unfold B64;omega)]
theorem Q9F {f g:SF} (h:Two f g) {x:Nat} (hx:(x:Int)<f.s.n):Qu x f g=some (prE f g x):=by
 obtain ⟨_,k1,k2,k3,k4,k5,k6,k7⟩:=h.fact;have s:=h.sizes (x:=x) (by omega);unfold Qu;rw [Qe (by omega),Qe (by omega),e_pairsT s.1 s.2];rfl
theorem Q6a {f g:SF} (h:Two f g):Q19 f g=some (if (Q3b f g f.sz.length).all (inR 17)=true then (Q49 f g,[Q2A f g f.sz.length,Q33 f g f.sz.length],true) else (sf0,[],false)):=by
 obtain ⟨e1,e2,e3⟩:=prod_tup h;have ht:Qt [f,g] f g=tupG [f,g] fun k=>Qu k f g:=rfl;unfold Q19;rw [ht,e_tupG h.tup fun x hx=>Q9F h hx,e1,e2,e3];simp only [Option.bind_some];split<;>rfl
theorem Q6b {f g:SF} (h:Two f g):Q1n f g=some (Q49 f g,Q2A f g f.sz.length,Q33 f g f.sz.length):=by
 obtain ⟨k0,k1,k2,k3,k4,k5,k6,k7⟩:=h.fact;unfold Q1n Q3w;rw [Qe h.pf.cat.1.size2.1];simp only [Option.bind_some];refine run_bind f.sz.length (fun i:Nat=>(Q3b f g i,Q2A f g i,Q33 f g i,(i:Int))) (e:=(Q3b f g f.sz.length,Q2A f g f.sz.length,Q33 f g f.sz.length)) rfl (by omega) (fun i hi=>?_) (by simp) ?_
 ·have s:=h.sizes hi;have z:=h.szn (x:=i) (by omega);have hNM:=mul16 z.1.2 z.2.2;generalize hN:szN f i=N at z hNM;generalize hM:szN g i=M at z hNM;simp only;rw [if_pos (by omega)];refine run_bind N (fun e:Nat=>(tab (e * M) (prF M),tab (e * M) (prS M),(e:Int))) (e:=(tab (N * M) (prF M),tab (N * M) (prS M))) (by simp [tab]) (by omega) (fun e he=>?_) (by simp only;rw [Qe (by omega),if_neg (by omega)]) ?_
  ·simp only;rw [Qe (by omega),if_pos (by omega),Option.bind_assoc];refine run_bind M (fun d:Nat=>(tab (e * M+d) (prF M),tab (e * M+d) (prS M),(d:Int))) (e:=(tab ((e+1) * M) (prF M),tab ((e+1) * M) (prS M))) (by simp) (by omega) (fun d hd=>?_) ?_ ?_
   ·have hs:=Q6N he hd;obtain ⟨a1,a2⟩:=prF_at (e:=e) hd;have t1:=Q1g (e * M+d) (prF M);have t2:=Q1g (e * M+d) (prS M);rw [a1] at t1;rw [a2] at t2;simp only;rw [Qe (by omega),if_pos (by omega),Qe (by simp;omega),Qe (by simp;omega),Qe (by unfold B64;omega),← t1,← t2];rfl
   ·simp only;rw [Qe (by omega),if_neg (by omega),Nat.succ_mul]
   simp only [Option.bind_some];rw [Qe (by unfold B64;omega)];rfl
  simp only;rw [Qe (by simp [Q3b];omega),Qe (by simp [Q2A];omega),Qe (by simp [Q33];omega),Qe (by unfold B64;omega)];simp only [Q3b,Q2A,Q33,Q1g,hN,hM,Q6s];rfl
 simp only;refine Q1q f.ac.length (fun i=>Q51 f g i) (e:=Q51 f g f.ac.length) rfl (by omega) (fun a ha=>?_) (by simp) rfl;have hC:=h.pf.cat.1;have li:=hC.li;obtain ⟨q1,q2⟩:=hC.frn (a:=a) (by omega);have e1:((ix f.s.fr a).toNat:Int)=ix f.s.fr a:=Int.toNat_of_nonneg q1.1;have e2:((ix f.s.to a).toNat:Int)=ix f.s.to a:=Int.toNat_of_nonneg q2.1;have z1:=h.szn (x:=(ix f.s.fr a).toNat) (by omega);have z2:=h.szn (x:=(ix f.s.to a).toNat) (by omega);have hNM:=mul16 z1.1.2 z1.2.2;have r1:rx (Q2A f g f.sz.length) (ix f.s.fr a)=tab (szN f (ix f.s.fr a).toNat * szN g (ix f.s.fr a).toNat) (prF (szN g (ix f.s.fr a).toNat)):=by
  rw [← e1,Q2A,rx_tab _ _ (by omega)];rfl
 have r2:rx (Q33 f g f.sz.length) (ix f.s.fr a)=tab (szN f (ix f.s.fr a).toNat * szN g (ix f.s.fr a).toNat) (prS (szN g (ix f.s.fr a).toNat)):=by
  rw [← e1,Q33,rx_tab _ _ (by omega)];rfl
 have mv:=fun k hk=>h.mv (a:=a) (by omega) (k:=k) hk;rw [e2] at z2;simp only [r1,r2];rw [if_pos (by omega),Qe (by omega),Qe (by omega)];have hA:Q51 f g (a+1)=Q51 f g a++[Q4N f g a (szN f (ix f.s.fr a).toNat * szN g (ix f.s.fr a).toNat)]:=Q1g _ _;generalize hL:szN f (ix f.s.fr a).toNat * szN g (ix f.s.fr a).toNat=L at *;refine Q1q L (fun k=>Q4N f g a k) (e:=Q4N f g a L) rfl (by omega) (fun k hk=>?_) ?_ ?_
 ·obtain ⟨m1,m2,m3,m4,m5⟩:=mv k hk;have s2:=h.sizes (x:=(ix f.s.to a).toNat) (by omega);rw [e2] at s2;have i1:ix (tab L (prF (szN g (ix f.s.fr a).toNat))) (k:Int)=prF (szN g (ix f.s.fr a).toNat) k:=ix_tab L _ hk;have i2:ix (tab L (prS (szN g (ix f.s.fr a).toNat))) (k:Int)=prS (szN g (ix f.s.fr a).toNat) k:=ix_tab L _ hk;have hmul:0≤ix (rx f.ac a) (prF (szN g (ix f.s.fr a).toNat) k) * ix g.sz (ix f.s.to a)∧ix (rx f.ac a) (prF (szN g (ix f.s.fr a).toNat) k) * ix g.sz (ix f.s.to a)≤16 * 16:=by
   have u1:ix (rx f.ac a) (prF (szN g (ix f.s.fr a).toNat) k)≤16:=(by omega);exact ⟨Int.mul_nonneg m1.1 s2.2.1,Int.mul_le_mul u1 s2.2.2 s2.2.1 (by omega)⟩
  simp only [i1,i2];rw [Qe (by simp [Q2A];omega),if_pos (by simp;omega),Qe (by omega),Qe (by simp [Q2A];omega),Qe (by simp;omega),Qe (by omega),Qe (by omega),Qe (by unfold B64;omega),Qe (by omega),Qe (by simp [Q33];omega),Qe (by simp;omega),Qe (by omega),Qe (by unfold B64;omega),Qe (by simp [Q4N];omega),Qe (by unfold B64;omega)];have:=Q1g k fun k=>ix (rx f.ac a) (prF (szN g (ix f.s.fr a).toNat) k) * ix g.sz (ix f.s.to a)+ix (rx g.ac a) (prS (szN g (ix f.s.fr a).toNat) k);simp only [Q4N,this]
 ·simp only;rw [Qe (by simp [Q2A];omega),if_neg (by simp)]
 rw [Qe (by simp [Q51];omega),Qe (by unfold B64;omega),hA]
end
attribute [local simp] unk unA unE unT unC flat
noncomputable def Q1a (f_:SF) (g_:SF):Option Int :=
 (QI [f_,g_]).bind fun v1 =>
 if ¬ (v1=true) then
  some 1
 else
  (Q15 f_.s g_.s).bind fun v3 =>
  if ¬ (v3=true) then
   some 5
  else
   some 0
theorem Q7U [Kd Try.prog] (f_:SF) (g_:SF) (r:Int) (h:Q1a f_ g_=some r):Contract Try.prog 23 [.rptr (f_.cells true),.rptr (g_.cells true)] (iV r):=by
 refine Qp (rvs:=[.tmp 4]) (rs:=[iV r]) Try.func23 rfl rfl rfl rfl (by simp [Try.f23]) fun F hN hP=>?_;unfold Q1a at h;refine Q3 (runQ hN fun K hK=>?_);simp [eM,eL,eI,Q2,Qj,Qk,Cat.cells,SF.cells];repeat refine sdQ ?_
 refine hK _ ?_;clear hK K;refine tn (Q9 (st':=⟨[(0,.rptr (SF.cells true f_)),(1,.rptr (SF.cells true g_))],[],0⟩) (Q1k []) (Q3 (Q3 (runQ hN fun K hK=>?_))));simp [eM,eL,eI,Q2,Qj,Qk,Cat.cells,SF.cells];repeat with_reducible refine sdQ ?_
 replace ⟨v1,hv1,h⟩:=bind_some h;refine Q0 (Q4k _ v1 hv1) (.cons (.lits (es:=_) rfl (.cons rfl (.cons (.preT (by simp [SF.cells])) .nil) (.cons rfl (.cons (.preT (by simp [SF.cells])) .nil) .nil)) rfl) .nil) ?_;simp [eM,eL,eI,Q2,Qj,Qk,Cat.cells,SF.cells];repeat refine sdQ ?_
 refine hK _ ?_;clear hK K;refine tn (Q9 (st':=⟨[(0,.rptr (SF.cells true f_)),(1,.rptr (SF.cells true g_)),(9,.val (.bool (!v1)))],[],0⟩) (Q1k []) (Q5 rfl (fun g=>?_) fun g=>?_))
 ·have g2:¬ (v1=true):=gQ;clear g;replace h:=if_l g2 h;refine Q3 (runQ hN fun K hK=>?_);simp [eM,eL,eI,Q2,Qj,Qk,Cat.cells,SF.cells];repeat refine sdQ ?_
  refine hK _ (tn (Q9 (st':=⟨[(4,iV 1)],[],0⟩) (Q1k []) (Qi (tr ?_))));clear hK K;have hr:=Option.some.inj h;rw [← hr];refine ⟨_,(.tmp .nil),?_⟩;refine ⟨(.one rfl rfl .nil),[iV 1],[],by simp [Cat.cells,SF.cells,UA,U1,IA,I1,LA,L1,BA,B1,EA,E1,E2,eB,eI,eL,eM],by simp,(UpL.refl _)⟩
 have g2:¬ (¬ (v1=true)):=gQ;clear g;replace h:=if_r g2 h;refine Q7 (tn (Q3 (Q3 (runQ hN fun K hK=>?_))));simp [eM,eL,eI,Q2,Qj,Qk,Cat.cells,SF.cells];repeat with_reducible refine sdQ ?_
 replace ⟨v3,hv3,h⟩:=bind_some h;refine Q0 (Q56 _ _ v3 hv3) (.cons (.preT (by simp [Cat.cells,SF.cells])) (.cons (.preT (by simp [Cat.cells,SF.cells])) .nil)) ?_;simp [eM,eL,eI,Q2,Qj,Qk,Cat.cells,SF.cells];repeat refine sdQ ?_
 refine hK _ ?_;clear hK K;refine tn (Q9 (st':=⟨[(17,.val (.bool (!v3)))],[],0⟩) (Q1k []) (Q5 rfl (fun g=>?_) fun g=>?_))
 ·have g4:¬ (v3=true):=gQ;clear g;replace h:=if_l g4 h;refine Q3 (runQ hN fun K hK=>?_);simp [eM,eL,eI,Q2,Qj,Qk,Cat.cells,SF.cells];repeat refine sdQ ?_
  refine hK _ (tn (Q9 (st':=⟨[(4,iV 5)],[],0⟩) (Q1k []) (Qi (tr ?_))));clear hK K;have hr:=Option.some.inj h;rw [← hr];refine ⟨_,(.tmp .nil),?_⟩;refine ⟨(.one rfl rfl .nil),[iV 5],[],by simp [Cat.cells,SF.cells,UA,U1,IA,I1,LA,L1,BA,B1,EA,E1,E2,eB,eI,eL,eM],by simp,(UpL.refl _)⟩
 have g4:¬ (¬ (v3=true)):=gQ;clear g;replace h:=if_r g4 h;refine Q7 (tn (Q3 (runQ hN fun K hK=>?_)));simp [eM,eL,eI,Q2,Qj,Qk,Cat.cells,SF.cells];repeat refine sdQ ?_
 refine hK _ (tn (Q9 (st':=⟨[(4,iV 0)],[],0⟩) (Q1k []) (Qi ?_)));clear hK K;have hr:=Option.some.inj h;rw [← hr];refine ⟨_,(.tmp .nil),?_⟩;refine ⟨(.one rfl rfl .nil),[iV 0],[],by simp [Cat.cells,SF.cells,UA,U1,IA,I1,LA,L1,BA,B1,EA,E1,E2,eB,eI,eL,eM],by simp,(UpL.refl _)⟩
attribute [local simp] unk unA unE unT unC flat
noncomputable def QM (f_:SF) (g_:SF):Option (SF × List (List Int) × List (List Int) × Int) :=
 (Q1a f_ g_).bind fun v1 =>
 if ¬ (v1=0) then
  some ((⟨(⟨0,[],[],[],[]⟩:Cat),[],[]⟩:SF),[],[],v1)
 else
  (Q19 f_ g_).bind fun v3 =>
  if ¬ (v3.2.2=true) then
   some ((⟨(⟨0,[],[],[],[]⟩:Cat),[],[]⟩:SF),[],[],3)
  else
   ass ((0:Int)≤0∧0<(v3.2.1.length:Int)) <|
   ass ((0:Int)≤1∧1<(v3.2.1.length:Int)) <|
   some (v3.1,gx v3.2.1 0,gx v3.2.1 1,0)
@[simp] abbrev YM (a:SF × List (List (List Int)) × Bool) (b:List (AV)):List (AV):=iV a.1.s.n::.own 2 0 a.1.s.fr.length::.own 3 0 a.1.s.to.length::.own 4 0 a.1.s.id.length::.own 5 0 a.1.s.cs.length::.own 6 0 a.1.sz.length::.own 7 0 a.1.ac.length::b
@[simp] abbrev Yq (a:SF × List (List (List Int)) × Bool) (b:List (Nat × Ent)):List (Nat × Ent):=(0,.mix 7 [(YM a [])])::(2,rI a.1.s.fr)::(3,rI a.1.s.to)::(4,rI a.1.s.id)::(5,.row 1 (Ls a.1.s.cs))::(6,rI a.1.sz)::(7,.row 1 (Ls a.1.ac))::b
theorem Q5R [Kd Try.prog] [Eo Try.prog] (f_:SF) (g_:SF) (r:SF × List (List Int) × List (List Int) × Int) (h:QM f_ g_=some r):Contract Try.prog 7 (YL f_ g_ []) (.tup [.agg (r.1.cells true),.lst true 1 (Ls r.2.1),.lst true 1 (Ls r.2.2.1),iV r.2.2.2]):=by
 refine Qp (rvs:=[.cell 4 31,.tmp 5,.tmp 6,.tmp 7]) (rs:=[.agg (r.1.cells true),.lst true 1 (Ls r.2.1),.lst true 1 (Ls r.2.2.1),iV r.2.2.2]) Try.func7 rfl rfl rfl rfl (by simp [Try.f7]) fun F hN hP=>?_;unfold QM at h;refine Q3 (runQ hN fun K hK=>?_);simp [eM,eL,eI,Q2,Qk,SF.cells];repeat refine sdQ ?_
 refine hK _ ?_;clear hK K;refine tn (Q9 (st':=⟨Ys [(4,.adr 2 0 0)],Ya f_ g_ [],3⟩) (Q22 3) (Q3 (Q3 (runQ hN fun K hK=>?_))));simp [eM,eL,eI,Q2,Qk,SF.cells];repeat with_reducible refine sdQ ?_
 replace ⟨v1,hv1,h⟩:=bind_some h;refine Q0 (Q7U _ _ v1 hv1) (.cons (.field rfl (by simp [SF.cells]) (.cons .val (.cons .lst (.cons .lst (.cons .lst (.cons .lst (.cons .lst (.cons .lst .nil)))))))) (.cons (.field rfl (by simp [SF.cells]) (.cons .val (.cons .lst (.cons .lst (.cons .lst (.cons .lst (.cons .lst (.cons .lst .nil)))))))) .nil)) ?_;simp [eM,eL,eI,Q2,Qk,SF.cells];repeat refine sdQ ?_
 refine hK _ ?_;clear hK K;refine tn (Q9 (st':=⟨Ys [(4,.adr 2 0 0),(8,iV v1)],Ya f_ g_ [],3⟩) (Q22 3) (Q3 (runQ hN fun K hK=>?_)));simp [eM,eL,eI,Q2,Qk,SF.cells];repeat refine sdQ ?_
 refine hK _ ?_;clear hK K;refine tn (Q5 rfl (fun g=>?_) fun g=>?_)
 ·have g2:¬ (v1=0):=gQ;clear g;replace h:=if_l g2 h;refine Q3 (runQ hN fun K hK=>?_);simp [eM,eL,eI,Q2,Qk,SF.cells];repeat refine sdQ ?_
  refine hK _ (tn (Q9 (st':=⟨YD [(5,nS),(6,nS),(7,iV v1)],Y9 [],1⟩) (Q1k [(2,0)]) (Qi (tr ?_))));clear hK K;have hr:=Option.some.inj h;rw [← hr];refine ⟨_,(.cell Q64 rfl rfl rfl (by simp) (by simp) (.tmp (.tmp (.tmp .nil)))),?_⟩;refine ⟨(.agg rfl (.one rfl rfl (.one rfl rfl (.one rfl rfl .nil)))),[iV 0,nS,nS,nS,nS,nS,nS,nS,nS,iV v1],[],by simp [SF.cells,UA,U1,IA,I1,LA,L1,BA,B1,EA,E1,E2,eB,eI,eL,eM],by simp,(.cons .refl (.cons .nil (.cons .nil (.cons .nil (.cons .nil (.cons .nil (.cons .nil (.cons .nil (.cons .nil (.cons .refl .nil))))))))))⟩
 have g2:¬ (¬ (v1=0)):=gQ;clear g;replace h:=if_r g2 h;refine Q7 (tn (Q3 (runQ hN fun K hK=>?_)));simp [eM,eL,eI,Q2,Qk,SF.cells];repeat with_reducible refine sdQ ?_
 replace ⟨v3,hv3,h⟩:=bind_some h;refine Q0 (Q5S _ _ v3 hv3) (.cons (.field rfl (by simp [SF.cells]) (.cons .val (.cons .lst (.cons .lst (.cons .lst (.cons .lst (.cons .lst (.cons .lst .nil)))))))) (.cons (.field rfl (by simp [SF.cells]) (.cons .val (.cons .lst (.cons .lst (.cons .lst (.cons .lst (.cons .lst (.cons .lst .nil)))))))) .nil)) ?_;simp [eM,eL,eI,Q2,Qk,SF.cells];repeat refine sdQ ?_
 refine hK _ ?_;clear hK K;refine tn (Q9 (st':=⟨YD [(9,.adr 1 0 0),(10,.own 8 0 v3.2.1.length),(11,.val (.bool v3.2.2))],Y9 [(1,.mix 7 [(YM v3 [])]),(2,rI v3.1.s.fr),(3,rI v3.1.s.to),(4,rI v3.1.s.id),(5,.row 1 (Ls v3.1.s.cs)),(6,rI v3.1.sz),(7,.row 1 (Ls v3.1.ac)),(8,.row 1 (Es eL v3.2.1))],9⟩) (Q1k [(2,0),(12,1),(4,2),(5,3),(6,4),(7,5),(8,6),(9,7),(10,8)]) (Q3 (Q3 (runQ hN fun K hK=>?_))));simp [eM,eL,eI,Q2,Qk,SF.cells];repeat refine sdQ ?_
 refine hK _ ?_;clear hK K;refine tn (Q5 rfl (fun g=>?_) fun g=>?_)
 ·have g4:¬ (v3.2.2=true):=gQ;clear g;replace h:=if_l g4 h;refine Q3 (runQ hN fun K hK=>?_);simp [eM,eL,eI,Q2,Qk,SF.cells];repeat refine sdQ ?_
  refine hK _ (tn (Q9 (st':=⟨YD [(5,nS),(6,nS),(7,iV 3)],Y9 [],1⟩) (Q1k [(0,0)]) (Qi (tr ?_))));clear hK K;have hr:=Option.some.inj h;rw [← hr];refine ⟨_,(.cell Q64 rfl rfl rfl (by simp) (by simp) (.tmp (.tmp (.tmp .nil)))),?_⟩;refine ⟨(.agg rfl (.one rfl rfl (.one rfl rfl (.one rfl rfl .nil)))),[iV 0,nS,nS,nS,nS,nS,nS,nS,nS,iV 3],[],by simp [SF.cells,UA,U1,IA,I1,LA,L1,BA,B1,EA,E1,E2,eB,eI,eL,eM],by simp,(.cons .refl (.cons .nil (.cons .nil (.cons .nil (.cons .nil (.cons .nil (.cons .nil (.cons .nil (.cons .nil (.cons .refl .nil))))))))))⟩
 have g4:¬ (¬ (v3.2.2=true)):=gQ;clear g;replace h:=if_r g4 h;refine Q7 (tn (Q3 (w_runXD [] [4] mo (by rw [hN];decide) (by rfl) fun K hK=>?_)));replace ⟨a5,h⟩:=Q8 h;replace ⟨a6,h⟩:=Q8 h;simp [eM,eL,eI,Q2,Qk,SF.cells,(show (Es eL v3.2.1)[0]? = some (eL (gx v3.2.1 0)) from at_E (j:=0) a5),(show (Es eL v3.2.1)[1]? = some (eL (gx v3.2.1 1)) from at_E (j:=1) a6)];repeat refine sdQ ?_
 refine hK _ (tn (Q9 (st':=⟨YD [(5,.own 9 0 ((gx v3.2.1 0).length)),(6,.own 10 0 ((gx v3.2.1 1).length)),(7,iV 0)],Yq v3 [(8,.row 1 (Q2o (Es eL v3.2.1) 0 0)),(9,.row 1 (Ls (gx v3.2.1 0))),(10,.ali 8 1 0 1)],11⟩) (Wk.takeA (p:=8) (j:=9) (i:=0) (k:=0) (es2:=Ls (gx v3.2.1 0)) rfl rfl (by decide) (by first|(simp;done)|(simp;omega)) (by decide) (by simp [Q2o,eL,(show (Es eL v3.2.1)[0]? = some (eL (gx v3.2.1 0)) from at_E (j:=0) a5),SF.cells]) (by simp) rfl (by simp)) (Q9 (st':=⟨YD [(5,.own 9 0 ((gx v3.2.1 0).length)),(6,.own 10 0 ((gx v3.2.1 1).length)),(7,iV 0)],Yq v3 [(9,.row 1 (Ls (gx v3.2.1 0))),(10,.row 1 (Ls (gx v3.2.1 1)))],11⟩) (Wk.takeA (p:=8) (j:=10) (i:=1) (k:=0) (es2:=Ls (gx v3.2.1 1)) rfl rfl (by decide) (by first|(simp;done)|(simp;omega)) (by decide) (by simp [Q2o,eL,(show (Es eL v3.2.1)[1]? = some (eL (gx v3.2.1 1)) from at_E (j:=1) a6),SF.cells]) (by simp) rfl (by simp)) (Q9 (st':=⟨YD [(5,.own 7 0 ((gx v3.2.1 0).length)),(6,.own 8 0 ((gx v3.2.1 1).length)),(7,iV 0)],Yp v3 [(7,.row 1 (Ls (gx v3.2.1 0))),(8,.row 1 (Ls (gx v3.2.1 1)))],9⟩) (Q1k [(0,0),(2,1),(3,2),(4,3),(5,4),(6,5),(7,6),(9,7),(10,8)]) (Qi ?_)))));clear hK K;have hr:=Option.some.inj h;rw [← hr];refine ⟨_,(.cell Q64 rfl rfl rfl (by simp) (by simp) (.tmp (.tmp (.tmp .nil)))),?_⟩;refine ⟨(.agg rfl (.one rfl rfl (.one rfl rfl (.one rfl rfl .nil)))),[iV v3.1.s.n,lI v3.1.s.fr,lI v3.1.s.to,lI v3.1.s.id,.lst true 1 (Ls v3.1.s.cs),lI v3.1.sz,.lst true 1 (Ls v3.1.ac),.lst true 1 (Ls (gx v3.2.1 0)),.lst true 1 (Ls (gx v3.2.1 1)),iV 0],[1,2,3,4,5,6,7,8],by simp [SF.cells,UA,U1,IA,I1,LA,L1,BA,B1,EA,E1,E2,eB,eI,eL,eM],by simp,(UpL.refl _)⟩
attribute [local simp] unk unA unE unT unC flat
noncomputable def Q1Q (f_:SF) (g_:SF):Option Int :=
 (
  (Q1J f_).bind fun v2 =>
  if ¬ (v2=true) then
   some true
  else
   (Q1J g_).bind fun v4 =>
   some (!v4):Option (Bool)).bind fun b1 =>
 if b1=true then
  some 1
 else
  (Q2k f_.s g_.s).bind fun v6 =>
  if ¬ (v6=true) then
   some 5
  else
   some 0
theorem Qar [Kd Try.prog] (f_:SF) (g_:SF) (r:Int) (h:Q1Q f_ g_=some r):Contract Try.prog 17 (YL f_ g_ []) (iV r):=by
 refine Qp (rvs:=[.tmp 4]) (rs:=[iV r]) Try.func17 rfl rfl rfl rfl (by simp [Try.f17]) fun F hN hP=>?_;unfold Q1Q at h;refine Q3 (runQ hN fun K hK=>?_);simp [eM,eL,eI,Q2,Qj,Qk,Cat.cells,SF.cells];repeat refine sdQ ?_
 refine hK _ (tn (Q9 (st':=⟨Ys [],[(0,.mix 7 [(SF.cells true f_)]),(1,.mix 7 [(SF.cells true g_)])],2⟩) (Q1k [(0,0),(1,1)]) (Q3 (Q6 (Q3 ?_)))));clear hK K;replace ⟨e1,h,h1⟩:=bind_some h;refine Q14 (fun b1:Bool=>⟨Ys [(5,.val (.bool b1))],[(0,.mix 7 [(SF.cells true f_)]),(1,.mix 7 [(SF.cells true g_)])],2⟩) (fun b1=>b1=e1) ?_ ?_
 ·refine runQ hN fun K hK=>?_;simp [eM,eL,eI,Q2,Qj,Qk,Cat.cells,SF.cells];repeat with_reducible refine sdQ ?_
  replace ⟨v2,hv2,h⟩:=bind_some h;refine Q0 (Q7V _ v2 hv2) (.cons (.aggL (.cons .val (.cons .lst (.cons .lst (.cons .lst (.cons .lst (.cons .lst (.cons .lst .nil)))))))) .nil) ?_;simp [eM,eL,eI,Q2,Qj,Qk,Cat.cells,SF.cells];repeat with_reducible refine sdQ ?_
  refine Q8c (fun g=>?_) (fun g=>?_)
  ·have g3:¬ (¬ (v2=true)):=gQ;clear g;replace h:=if_r g3 h;simp [eM,eL,eI,Q2,Qj,Qk,Cat.cells,SF.cells];(repeat with_reducible refine sdQ ?_);replace ⟨v4,hv4,h⟩:=bind_some h;refine Q0 (Q7V _ v4 hv4) (.cons (.aggL (.cons .val (.cons .lst (.cons .lst (.cons .lst (.cons .lst (.cons .lst (.cons .lst .nil)))))))) .nil) ?_;simp [eM,eL,eI,Q2,Qj,Qk,Cat.cells,SF.cells];(repeat refine sdQ ?_);refine hK _ ?_;exact jn (b:=!v4) (Option.some.inj h) (Q1k [(0,0),(1,1)])
  have g3:¬ (v2=true):=gQ;clear g;replace h:=if_l g3 h;simp [eM,eL,eI,Q2,Qj,Qk,Cat.cells,SF.cells];repeat refine sdQ ?_
  refine hK _ ?_;exact jn (b:=true) (Option.some.inj h) (Q1k [(0,0),(1,1)])
 intro b1 hb1;have h:=h1;try rw [← hb1] at h
 clear h1;try dsimp only at h
 refine Q5 rfl (fun g=>?_) fun g=>?_
 ·have g5:b1=true:=gQ;clear g;replace h:=if_l g5 h;refine Q3 (runQ hN fun K hK=>?_);simp [eM,eL,eI,Q2,Qj,Qk,Cat.cells,SF.cells];repeat refine sdQ ?_
  refine hK _ (tn (Q9 (st':=⟨[(4,iV 1)],[],0⟩) (Q1k []) (Qi (br (tr ?_)))));clear hK K;have hr:=Option.some.inj h;rw [← hr];refine ⟨_,(.tmp .nil),?_⟩;refine ⟨(.one rfl rfl .nil),[iV 1],[],by simp [Cat.cells,SF.cells,UA,U1,IA,I1,LA,L1,BA,B1,EA,E1,E2,eB,eI,eL,eM],by simp,(UpL.refl _)⟩
 have g5:¬ (b1=true):=gQ;clear g;replace h:=if_r g5 h;refine Q3 (runQ hN fun K hK=>?_);simp [eM,eL,eI,Q2,Qj,Qk,Cat.cells,SF.cells];repeat with_reducible refine sdQ ?_
 replace ⟨v6,hv6,h⟩:=bind_some h;refine Q0 (Q8K _ _ v6 hv6) (.cons (.aggL (.cons .val (.cons .lst (.cons .lst (.cons .lst (.cons .lst .nil)))))) (.cons (.aggL (.cons .val (.cons .lst (.cons .lst (.cons .lst (.cons .lst .nil)))))) .nil)) ?_;simp [eM,eL,eI,Q2,Qj,Qk,Cat.cells,SF.cells];repeat refine sdQ ?_
 refine hK _ ?_;clear hK K;refine tn (Q9 (st':=⟨[(14,.val (.bool (!v6)))],[],0⟩) (Q1k []) (Q5 rfl (fun g=>?_) fun g=>?_))
 ·have g7:¬ (v6=true):=gQ;clear g;replace h:=if_l g7 h;refine Q3 (runQ hN fun K hK=>?_);simp [eM,eL,eI,Q2,Qj,Qk,Cat.cells,SF.cells];repeat refine sdQ ?_
  refine hK _ (tn (Q9 (st':=⟨[(4,iV 5)],[],0⟩) (Q1k []) (Qi (br (tr ?_)))));clear hK K;have hr:=Option.some.inj h;rw [← hr];refine ⟨_,(.tmp .nil),?_⟩;refine ⟨(.one rfl rfl .nil),[iV 5],[],by simp [Cat.cells,SF.cells,UA,U1,IA,I1,LA,L1,BA,B1,EA,E1,E2,eB,eI,eL,eM],by simp,(UpL.refl _)⟩
 have g7:¬ (¬ (v6=true)):=gQ;clear g;replace h:=if_r g7 h;refine Q7 (bn (tn (Q3 (runQ hN fun K hK=>?_))));simp [eM,eL,eI,Q2,Qj,Qk,Cat.cells,SF.cells];repeat refine sdQ ?_
 refine hK _ (tn (Q9 (st':=⟨[(4,iV 0)],[],0⟩) (Q1k []) (Qi ?_)));clear hK K;have hr:=Option.some.inj h;rw [← hr];refine ⟨_,(.tmp .nil),?_⟩;refine ⟨(.one rfl rfl .nil),[iV 0],[],by simp [Cat.cells,SF.cells,UA,U1,IA,I1,LA,L1,BA,B1,EA,E1,E2,eB,eI,eL,eM],by simp,(UpL.refl _)⟩
attribute [local simp] unk unA unE unT unC flat
noncomputable def QN (f_:SF) (g_:SF):Option (SF × List (List Int) × List (List Int) × Int) :=
 (Q1Q f_ g_).bind fun v1 =>
 if ¬ (v1=0) then
  some ((⟨(⟨0,[],[],[],[]⟩:Cat),[],[]⟩:SF),[],[],v1)
 else
  (Q1n f_ g_).bind fun v3 =>
  (Q1P v3.1).bind fun v4 =>
  if ¬ (v4=0) then
   some ((⟨(⟨0,[],[],[],[]⟩:Cat),[],[]⟩:SF),[],[],3)
  else
   some (v3.1,v3.2.1,v3.2.2,0)
@[simp] abbrev Ym (a:SF × List (List Int) × List (List Int)) (b:List (Nat × Ent)):List (Nat × Ent):=(1,.mix 7 [[iV a.1.s.n,.own 2 0 a.1.s.fr.length,.own 3 0 a.1.s.to.length,.own 4 0 a.1.s.id.length,.own 5 0 a.1.s.cs.length,.own 6 0 a.1.sz.length,.own 7 0 a.1.ac.length]])::(2,rI a.1.s.fr)::(3,rI a.1.s.to)::(4,rI a.1.s.id)::(5,.row 1 (Ls a.1.s.cs))::(6,rI a.1.sz)::(7,.row 1 (Ls a.1.ac))::(8,.row 1 (Ls a.2.1))::(9,.row 1 (Ls a.2.2))::b
theorem Q5T [Kd Try.prog] (f_:SF) (g_:SF) (r:SF × List (List Int) × List (List Int) × Int) (h:QN f_ g_=some r):Contract Try.prog 5 (YL f_ g_ []) (.tup [.agg (r.1.cells true),.lst true 1 (Ls r.2.1),.lst true 1 (Ls r.2.2.1),iV r.2.2.2]):=by
 refine Qp (rvs:=[.cell 4 31,.tmp 5,.tmp 6,.tmp 7]) (rs:=[.agg (r.1.cells true),.lst true 1 (Ls r.2.1),.lst true 1 (Ls r.2.2.1),iV r.2.2.2]) Try.func5 rfl rfl rfl rfl (by simp [Try.f5]) fun F hN hP=>?_;unfold QN at h;refine Q3 (runQ hN fun K hK=>?_);simp [eM,eL,eI,Q2,Qk,SF.cells];repeat refine sdQ ?_
 refine hK _ ?_;clear hK K;refine tn (Q9 (st':=⟨Ys [(4,.adr 2 0 0)],Ya f_ g_ [],3⟩) (Q22 3) (Q3 (runQ hN fun K hK=>?_)));simp [eM,eL,eI,Q2,Qk,SF.cells];repeat with_reducible refine sdQ ?_
 replace ⟨v1,hv1,h⟩:=bind_some h;refine Q0 (Qar _ _ v1 hv1) (.cons (.aggL (.cons .val (.cons .lst (.cons .lst (.cons .lst (.cons .lst (.cons .lst (.cons .lst .nil)))))))) (.cons (.aggL (.cons .val (.cons .lst (.cons .lst (.cons .lst (.cons .lst (.cons .lst (.cons .lst .nil)))))))) .nil)) ?_;simp [eM,eL,eI,Q2,Qk,SF.cells];repeat refine sdQ ?_
 refine hK _ ?_;clear hK K;refine tn (Q9 (st':=⟨Ys [(4,.adr 2 0 0),(8,iV v1)],Ya f_ g_ [],3⟩) (Q22 3) (Q3 (Q3 (runQ hN fun K hK=>?_))));simp [eM,eL,eI,Q2,Qk,SF.cells];repeat refine sdQ ?_
 refine hK _ ?_;clear hK K;refine tn (Q5 rfl (fun g=>?_) fun g=>?_)
 ·have g2:¬ (v1=0):=gQ;clear g;replace h:=if_l g2 h;refine Q3 (runQ hN fun K hK=>?_);simp [eM,eL,eI,Q2,Qk,SF.cells];repeat refine sdQ ?_
  refine hK _ (tn (Q9 (st':=⟨YD [(5,nS),(6,nS),(7,iV v1)],Y9 [],1⟩) (Q1k [(2,0)]) (Qi (tr ?_))));clear hK K;have hr:=Option.some.inj h;rw [← hr];refine ⟨_,(.cell Q64 rfl rfl rfl (by simp) (by simp) (.tmp (.tmp (.tmp .nil)))),?_⟩;refine ⟨(.agg rfl (.one rfl rfl (.one rfl rfl (.one rfl rfl .nil)))),[iV 0,nS,nS,nS,nS,nS,nS,nS,nS,iV v1],[],by simp [SF.cells,UA,U1,IA,I1,LA,L1,BA,B1,EA,E1,E2,eB,eI,eL,eM],by simp,(.cons .refl (.cons .nil (.cons .nil (.cons .nil (.cons .nil (.cons .nil (.cons .nil (.cons .nil (.cons .nil (.cons .refl .nil))))))))))⟩
 have g2:¬ (¬ (v1=0)):=gQ;clear g;replace h:=if_r g2 h;refine Q7 (tn (Q3 (runQ hN fun K hK=>?_)));simp [eM,eL,eI,Q2,Qk,SF.cells];repeat with_reducible refine sdQ ?_
 replace ⟨v3,hv3,h⟩:=bind_some h;refine Q0 (Q65 _ _ v3 hv3) (.cons (.aggL (.cons .val (.cons .lst (.cons .lst (.cons .lst (.cons .lst (.cons .lst (.cons .lst .nil)))))))) (.cons (.aggL (.cons .val (.cons .lst (.cons .lst (.cons .lst (.cons .lst (.cons .lst (.cons .lst .nil)))))))) .nil)) ?_;simp [eM,eL,eI,Q2,Qk,SF.cells];repeat refine sdQ ?_
 refine hK _ ?_;clear hK K;refine tn (Q9 (st':=⟨YD [(9,.adr 1 0 0),(10,.own 8 0 v3.2.1.length),(11,.own 9 0 v3.2.2.length)],Y9 (Ym v3 []),10⟩) (Q1k [(2,0),(12,1),(4,2),(5,3),(6,4),(7,5),(8,6),(9,7),(10,8),(11,9)]) (Q3 (Q3 (runQ hN fun K hK=>?_))));simp [eM,eL,eI,Q2,Qk,SF.cells];repeat with_reducible refine sdQ ?_
 replace ⟨v4,hv4,h⟩:=bind_some h;refine Q0 (Q8L _ v4 hv4) (.cons (.aggL (.cons .val (.cons .w (.cons .w (.cons .w (.cons .w (.cons .w (.cons .w .nil)))))))) .nil) ?_;simp [eM,eL,eI,Q2,Qk,SF.cells];repeat refine sdQ ?_
 refine hK _ ?_;clear hK K;refine tn (Q9 (st':=⟨YD [(9,.adr 1 0 0),(10,.own 8 0 v3.2.1.length),(11,.own 9 0 v3.2.2.length),(28,.val (.bool (v4 != 0)))],Y9 (Ym v3 []),10⟩) (Q22 10) (Q5 rfl (fun g=>?_) fun g=>?_))
 ·have g5:¬ (v4=0):=gQ;clear g;replace h:=if_l g5 h;refine Q3 (runQ hN fun K hK=>?_);simp [eM,eL,eI,Q2,Qk,SF.cells];repeat refine sdQ ?_
  refine hK _ (tn (Q9 (st':=⟨YD [(5,nS),(6,nS),(7,iV 3)],Y9 [],1⟩) (Q1k [(0,0)]) (Qi (tr ?_))));clear hK K;have hr:=Option.some.inj h;rw [← hr];refine ⟨_,(.cell Q64 rfl rfl rfl (by simp) (by simp) (.tmp (.tmp (.tmp .nil)))),?_⟩;refine ⟨(.agg rfl (.one rfl rfl (.one rfl rfl (.one rfl rfl .nil)))),[iV 0,nS,nS,nS,nS,nS,nS,nS,nS,iV 3],[],by simp [SF.cells,UA,U1,IA,I1,LA,L1,BA,B1,EA,E1,E2,eB,eI,eL,eM],by simp,(.cons .refl (.cons .nil (.cons .nil (.cons .nil (.cons .nil (.cons .nil (.cons .nil (.cons .nil (.cons .nil (.cons .refl .nil))))))))))⟩
 have g5:¬ (¬ (v4=0)):=gQ;clear g;replace h:=if_r g5 h;refine Q7 (tn (Q3 (runQ hN fun K hK=>?_)));simp [eM,eL,eI,Q2,Qk,SF.cells];repeat refine sdQ ?_
 refine hK _ (tn (Q9 (st':=⟨YD [(5,.own 7 0 v3.2.1.length),(6,.own 8 0 v3.2.2.length),(7,iV 0)],[(0,.mix 7 [[iV v3.1.s.n,.own 1 0 v3.1.s.fr.length,.own 2 0 v3.1.s.to.length,.own 3 0 v3.1.s.id.length,.own 4 0 v3.1.s.cs.length,.own 5 0 v3.1.sz.length,.own 6 0 v3.1.ac.length]]),(1,rI v3.1.s.fr),(2,rI v3.1.s.to),(3,rI v3.1.s.id),(4,.row 1 (Ls v3.1.s.cs)),(5,rI v3.1.sz),(6,.row 1 (Ls v3.1.ac)),(7,.row 1 (Ls v3.2.1)),(8,.row 1 (Ls v3.2.2))],9⟩) (Q1k [(0,0),(2,1),(3,2),(4,3),(5,4),(6,5),(7,6),(8,7),(9,8)]) (Qi ?_)));clear hK K;have hr:=Option.some.inj h;rw [← hr];refine ⟨_,(.cell Q64 rfl rfl rfl (by simp) (by simp) (.tmp (.tmp (.tmp .nil)))),?_⟩;refine ⟨(.agg rfl (.one rfl rfl (.one rfl rfl (.one rfl rfl .nil)))),[iV v3.1.s.n,lI v3.1.s.fr,lI v3.1.s.to,lI v3.1.s.id,.lst true 1 (Ls v3.1.s.cs),lI v3.1.sz,.lst true 1 (Ls v3.1.ac),.lst true 1 (Ls v3.2.1),.lst true 1 (Ls v3.2.2),iV 0],[1,2,3,4,5,6,7,8],by simp [SF.cells,UA,U1,IA,I1,LA,L1,BA,B1,EA,E1,E2,eB,eI,eL,eM],by simp,(UpL.refl _)⟩
section
attribute [local simp] Qf QD Qq Q1A QR
theorem prod_rows {f g:SF} (h:Two f g) (hf:(Q3b f g f.sz.length).all (inR 17)=true):(∀ x:Nat,x<f.sz.length→szN f x * szN g x≤16):=by
 intro x hx;rw [List.all_eq_true] at hf;have:=hf _ (List.getElem_mem (show x<(Q3b f g f.sz.length).length by simpa [Q3b] using hx));simp only [Q3b,tab,List.getElem_map,List.getElem_range,inR,Bool.and_eq_true,decide_eq_true_eq] at this;omega
theorem prod_ok {f g:SF} (h:Two f g) (hf:(Q3b f g f.sz.length).all (inR 17)=true):((Q49 f g).ok∧(Q49 f g).size≤10000)∧(((Q2A f g f.sz.length).length≤1048576∧∀ x∈Q2A f g f.sz.length,x.length≤1048576)∧sumL (Q2A f g f.sz.length)≤10000)∧((Q33 f g f.sz.length).length≤1048576∧∀ x∈Q33 f g f.sz.length,x.length≤1048576)∧sumL (Q33 f g f.sz.length)≤10000:=by
 obtain ⟨k0,k1,k2,k3,k4,k5,k6,k7⟩:=h.fact;have hr:=prod_rows h hf;obtain ⟨h1,h2⟩:=h.pf.cat.1.size2;have hC:=h.pf.cat.1;have li:=hC.li;have b0:∀ xs∈Q51 f g f.ac.length,xs.length≤16:=by
  intro xs hx;simp only [Q51,tab,List.mem_map,List.mem_range] at hx;obtain ⟨a,ha,rfl⟩:=hx;obtain ⟨q1,q2⟩:=hC.frn (a:=a) (by omega);have:=hr (ix f.s.fr a).toNat (by omega);simpa [Q4N] using this
 have b1:∀ xs∈Q2A f g f.sz.length,xs.length≤16:=by
  intro xs hx;simp only [Q2A,tab,List.mem_map,List.mem_range] at hx;obtain ⟨a,ha,rfl⟩:=hx;simpa using hr a ha
 have b2:∀ xs∈Q33 f g f.sz.length,xs.length≤16:=by
  intro xs hx;simp only [Q33,tab,List.mem_map,List.mem_range] at hx;obtain ⟨a,ha,rfl⟩:=hx;simpa using hr a ha
 have s0:=Q9p b0;have s1:=Q9p b1;have s2:=Q9p b2;have l0:(Q51 f g f.ac.length).length=f.ac.length:=by simp [Q51]
 have l1:(Q2A f g f.sz.length).length=f.sz.length:=by simp [Q2A]
 have l2:(Q33 f g f.sz.length).length=f.sz.length:=by simp [Q33]
 have lz:(Q3b f g f.sz.length).length=f.sz.length:=by simp [Q3b]
 rw [l0] at s0;rw [l1] at s1;rw [l2] at s2;refine ⟨⟨⟨h1,by simp only [Q49];omega,by simp only [Q49];omega,fun xs hx=>by have:=b0 xs hx;omega,by simp only [Q49];omega⟩,?_⟩,⟨⟨by omega,fun xs hx=>by have:=b1 xs hx;omega⟩,by omega⟩,⟨by omega,fun xs hx=>by have:=b2 xs hx;omega⟩,by omega⟩;simp only [SF.size,Q49];omega
theorem all_mad {xs:List Int} (h:∀ x∈xs,0≤x):(xs.all (inR 17)=true→mad xs=0)∧(¬ xs.all (inR 17)=true→mad xs=3):=by
 have e:xs.all (inR 17)=xs.all fun x=>decide (x≤16):=by
  rw [Bool.eq_iff_iff,List.all_eq_true,List.all_eq_true];constructor
  ·intro q x hx;have:=q x hx;simp only [inR,Bool.and_eq_true,decide_eq_true_eq] at this ⊢;omega
  intro q x hx;have:=q x hx;have:=h x hx;simp only [inR,Bool.and_eq_true,decide_eq_true_eq] at *;omega
 unfold mad;rw [e];exact ⟨fun q=>if_pos q,fun q=>if_neg q⟩
theorem sf0_ok:(sf0.ok∧sf0.size≤10000):=by simp [sf0,SF.ok,SF.size,Cat.ok,Cat.size,sumL]
theorem Q6j:((([]:List (List Int)).length≤1048576∧∀ x∈([]:List (List Int)),x.length≤1048576)∧sumL ([]:List (List Int))≤10000):=by simp [sumL]
theorem Q6I (f g:SF):∃ r,QN f g=some r∧QM f g=some r∧(r.1.ok∧r.1.size≤10000)∧((r.2.1.length≤1048576∧∀ x∈r.2.1,x.length≤1048576)∧sumL r.2.1≤10000)∧(r.2.2.1.length≤1048576∧∀ x∈r.2.2.1,x.length≤1048576)∧sumL r.2.2.1≤10000:=by
 by_cases h:f.Is∧g.Is
 case neg =>
  refine ⟨(sf0,[],[],1),?_,?_,sf0_ok,Q6j,Q6j⟩
  ·unfold QN Q1Q Q1J
   by_cases h1:f.Is
   ·have h2:¬ g.Is:=fun q=>h ⟨h1,q⟩;simp [Q66 h1,Q74 h2,sf0]
   simp [Q74 h1,sf0]
  unfold QM Q1a QI;have hq:¬ ∀ x∈[f,g],x.Is:=fun q=>h ⟨q f (by simp),q g (by simp)⟩;rw [Qe (by simp),Q74 hq];simp [sf0]
 have hI:Q1J f=some true∧Q1J g=some true:=⟨by unfold Q1J;rw [Q66 h.1],by unfold Q1J;rw [Q66 h.2]⟩;have hA:QI [f,g]=some true:=by
  unfold QI;rw [Qe (by simp),Q66 (by simpa using h)]
 have hlc:f.s.cs.length≤1048576:=by have:=h.1.1.cat.1.lc;have:=h.1.1.cat.1.m40;omega
 by_cases he:f.s=g.s
 case neg =>
  refine ⟨(sf0,[],[],5),?_,?_,sf0_ok,Q6j,Q6j⟩
  ·unfold QN Q1Q Q2k;simp [hI.1,hI.2,Q74 he,sf0]
  unfold QM Q1a Q15;simp only [hA,Option.bind_some];rw [Qe hlc];simp [Q74 he,sf0]
 have hT:Two f g:=⟨h.1.1,h.2.1,he⟩;obtain ⟨k0,k1,k2,k3,k4,k5,k6,k7⟩:=hT.fact;have hz:∀ x∈(Q49 f g).sz,0≤x:=by
  intro x hx;simp only [Q49,Q3b,tab,List.mem_map,List.mem_range] at hx;obtain ⟨a,_,rfl⟩:=hx;omega
 have hs:Q1Q f g=some 0:=by
  unfold Q1Q Q2k;simp [hI.1,hI.2,Q66 he]
 have hi:Q1a f g=some 0:=by
  unfold Q1a Q15;simp only [hA,Option.bind_some];rw [Qe hlc];simp [Q66 he]
 have hm:Q1P (Q49 f g)=some (mad (Q49 f g).sz):=e_l21Made (by simp [Q49,Q3b];omega);obtain ⟨m1,m2⟩:=all_mad hz
 by_cases hf:(Q3b f g f.sz.length).all (inR 17)=true
 case neg =>
  refine ⟨(sf0,[],[],3),?_,?_,sf0_ok,Q6j,Q6j⟩
  ·unfold QN;simp only [hs,Option.bind_some,Q6b hT,hm,m2 hf];simp [sf0]
  unfold QM;simp only [hi,Option.bind_some,Q6a hT,if_neg hf];simp [sf0]
 obtain ⟨o1,o2,o3⟩:=prod_ok hT hf;refine ⟨(Q49 f g,Q2A f g f.sz.length,Q33 f g f.sz.length,0),?_,?_,o1,o2,o3⟩
 ·unfold QN;simp only [hs,Option.bind_some,Q6b hT,hm,m1 hf];simp
 unfold QM;simp only [hi,Option.bind_some,Q6a hT,if_pos hf];simp only [not_true_eq_false,if_false];rw [Qe (by simp),Qe (by simp)];rfl
end
end Go.Vc.T
