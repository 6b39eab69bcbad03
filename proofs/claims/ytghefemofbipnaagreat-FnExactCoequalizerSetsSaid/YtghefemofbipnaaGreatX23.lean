/- A part of the proof. -/
import Derived.Test.YtghefemofbipnaaGreatX22
set_option maxRecDepth 100000
set_option maxHeartbeats 4000000
set_option linter.unusedSimpArgs false
set_option linter.unusedVariables false
set_option linter.unusedSectionVars false
set_option linter.unnecessarySimpa false

open List renaming getD_eq_getElem?_getD→qG
open Nat renaming le_refl→qC
open Option.some renaming inj→zE
open List renaming replicate→qZ
open Option renaming getD_some→qB
open List renaming length_cons→qI
open List renaming take_succ_eq_append_getElem→zH
open List renaming range→zF
open List renaming length_nil→zD
open List renaming length_append→qL
open Option renaming bind_some→zL
open List renaming getD_cons_zero→qT
open List.range renaming loop→zM
namespace Go.Vc.T
open Go Go.Vc Go.Proofs
attribute [local simp] unk unA unE unT unC flat
noncomputable def Q1i (f_:SF) (classes_:List (List Int)):Option SF :=
 (Q3w f_.s).bind fun v1 =>
 (QK (σ:=List Int × Int) (ε:=List Int) (fun s20 =>
  if s20.2<(classes_.length:Int) then
   (QK (σ:=Int × Int) (ε:=Int) (fun s29 =>
    ass (0≤s20.2∧s20.2<(classes_.length:Int)) <|
    if s29.2<((rx classes_ s20.2).length:Int) then
     ass (0≤s20.2∧s20.2<(classes_.length:Int)) <|
     ass (0≤s29.2∧s29.2<((rx classes_ s20.2).length:Int)) <|
     ass (B64 ((ix (rx classes_ s20.2) s29.2)+1)) <|
     ass (B64 (s29.2+1)) <|
     some (Ctl.next ((if (ix (rx classes_ s20.2) s29.2)+1 > s29.1 then (ix (rx classes_ s20.2) s29.2)+1 else s29.1),s29.2+1))
    else
     some (Ctl.ret s29.1)) fuel (0,0)).bind fun b22 =>
   ass ((s20.1++[b22]).length≤1073741824) <|
   ass (B64 (s20.2+1)) <|
   some (Ctl.next (s20.1++[b22],s20.2+1))
  else
   some (Ctl.ret s20.1)) fuel ([],0)).bind fun b2 =>
 (QK (σ:=List (List Int) × Int) (ε:=List (List Int)) (fun s68 =>
  if s68.2<(f_.ac.length:Int) then
   ass (0≤s68.2∧s68.2<(f_.s.fr.length:Int)) <|
   ass (0≤s68.2∧s68.2<(f_.s.to.length:Int)) <|
   ass (0≤ix f_.s.fr s68.2∧ix f_.s.fr s68.2<(b2.length:Int)) <|
   ass (0≤ix b2 (ix f_.s.fr s68.2)∧ix b2 (ix f_.s.fr s68.2)≤1073741824) <|
   (QK (σ:=List Int × Int) (ε:=List Int) (fun s85 =>
    ass (0≤ix f_.s.fr s68.2∧ix f_.s.fr s68.2<(classes_.length:Int)) <|
    if s85.2<((rx classes_ (ix f_.s.fr s68.2)).length:Int) then
     ass (0≤ix f_.s.fr s68.2∧ix f_.s.fr s68.2<(classes_.length:Int)) <|
     ass (0≤s85.2∧s85.2<((rx classes_ (ix f_.s.fr s68.2)).length:Int)) <|
     ass (0≤ix f_.s.to s68.2∧ix f_.s.to s68.2<(classes_.length:Int)) <|
     ass (0≤s68.2∧s68.2<(f_.ac.length:Int)) <|
     ass (0≤s85.2∧s85.2<((rx f_.ac s68.2).length:Int)) <|
     ass (0≤ix (rx f_.ac s68.2) s85.2∧ix (rx f_.ac s68.2) s85.2<((rx classes_ (ix f_.s.to s68.2)).length:Int)) <|
     ass (0≤ix (rx classes_ (ix f_.s.fr s68.2)) s85.2∧ix (rx classes_ (ix f_.s.fr s68.2)) s85.2<(s85.1.length:Int)) <|
     ass (B64 (s85.2+1)) <|
     some (Ctl.next (s85.1.set ((ix (rx classes_ (ix f_.s.fr s68.2)) s85.2).toNat) (ix (rx classes_ (ix f_.s.to s68.2)) (ix (rx f_.ac s68.2) s85.2)),s85.2+1))
    else
     some (Ctl.ret s85.1)) fuel (qZ ((ix b2 (ix f_.s.fr s68.2)).toNat) 0,0)).bind fun b74 =>
   ass ((s68.1++[b74]).length≤1073741824) <|
   ass (B64 (s68.2+1)) <|
   some (Ctl.next (s68.1++[b74],s68.2+1))
  else
   some (Ctl.ret s68.1)) fuel ([],0)).bind fun b38 =>
 some (⟨v1,b2,b38⟩:SF)
theorem Q1f {F : Fx} {st st' : St} (m : List (Nat × Nat)) (h : (m.map Prod.fst).Nodup ∧ (m.map Prod.snd).Nodup ∧ (∀ id, id < F.pins → look id m = some id) ∧ (∀ p ∈ m, p.2 < st'.n) ∧ (∀ p ∈ st'.h, p.1 < st'.n) ∧ (∀ p ∈ st'.s, p.2 = rl m (st.get p.1) ∨ p.2 = .bot) ∧ ∀ p ∈ st'.h, hhOk m st.h p.1 p.2 := by simp [hP, hhOk, back, idQ, Cat.cells, SF.cells, UA, U1, IA, I1, LA, L1, BA, B1, EA, E1, E2, eB, eI, eL, eM, SM.cells]) : Wk F st st' := Wk.r1 m h
theorem Q1x {F : Fx} {st st' : St} (m : Nat) (h : ((idQ m).map Prod.fst).Nodup ∧ ((idQ m).map Prod.snd).Nodup ∧ (∀ id, id < F.pins → look id (idQ m) = some id) ∧ (∀ p ∈ (idQ m), p.2 < st'.n) ∧ (∀ p ∈ st'.h, p.1 < st'.n) ∧ (∀ p ∈ st'.s, p.2 = rl (idQ m) (st.get p.1) ∨ p.2 = .bot) ∧ ∀ p ∈ st'.h, hhOk (idQ m) st.h p.1 p.2 := by simp [hP, hhOk, back, idQ, Cat.cells, SF.cells, UA, U1, IA, I1, LA, L1, BA, B1, EA, E1, E2, eB, eI, eL, eM, SM.cells]) : Wk F st st' := Wk.r1 (idQ m) h
@[simp] abbrev YF (a:Cat) (b:List (AV)):List (AV):=iV a.n::.own 3 0 a.fr.length::.own 4 0 a.to.length::.own 5 0 a.id.length::.own 6 0 a.cs.length::b
@[simp] abbrev Y3 (a:SF) (b:Cat) (c:List Int) (d:List (List Int) × Int) (e:List (Nat × Ent)):List (Nat × Ent):=(0,.mix 7 [(SF.cells true a)])::(1,.mix 7 [(YI [])])::(2,.mix 7 [(YF b [.own 7 0 c.length,.own 8 0 d.1.length])])::(3,rI b.fr)::(4,rI b.to)::(5,rI b.id)::(6,.row 1 (Ls b.cs))::(7,rI c)::(8,.row 1 (Ls d.1))::e
@[simp] abbrev Y7 (a:SF) (b:Cat) (c:List Int × Int) (d:List (Nat × Ent)):List (Nat × Ent):=(0,.mix 7 [(SF.cells true a)])::(1,.mix 7 [(YI [])])::(2,.mix 7 [(YF b [.own 7 0 c.1.length,nS])])::(3,rI b.fr)::(4,rI b.to)::(5,rI b.id)::(6,.row 1 (Ls b.cs))::(7,rI c.1)::d
@[simp] abbrev Yb (a:List (List Int)) (b:List (Nat × AV)):List (Nat × AV):=(1,.lst true 1 (Ls a))::(2,.adr 0 0 0)::(4,.adr 1 0 0)::(5,.adr 2 0 0)::b
@[simp] abbrev Yh (a:SF) (b:List (Nat × Ent)):List (Nat × Ent):=(0,.mix 7 [(SF.cells true a)])::(1,.mix 7 [(YI [])])::b
@[simp] abbrev Yk (a:Cat) (b:List (Nat × Ent)):List (Nat × Ent):=(3,rI a.fr)::(4,rI a.to)::(5,rI a.id)::(6,.row 1 (Ls a.cs))::b
theorem Q5M [Kd Tryz.prog] (f_:SF) (classes_:List (List Int)) (r:SF) (h:Q1i f_ classes_=some r):Contract Tryz.prog 58 [.agg (f_.cells true),.lst true 1 (Ls classes_)] (.agg (r.cells true)):=by
 refine Qm (rvs:=[.cell 4 34]) (rs:=[.agg (r.cells true)]) Tryz.func58 rfl rfl rfl rfl (by simp [Tryz.f58]) fun F hN hP=>?_;unfold Q1i at h;refine Q3 (runQ hN fun K hK=>?_);simp [eM,eL,eI,Q1,Qy,Qo,Cat.cells,SF.cells];repeat refine sdQ ?_
 refine hK _ ?_;clear hK K;refine tn (Qa (st':=⟨Yy classes_ [(2,.adr 0 0 0),(4,.adr 1 0 0)],Yh f_ [],2⟩) (Q1f [(0,0),(1,1)]) (Q3 (runQ hN fun K hK=>?_)));simp [eM,eL,eI,Q1,Qy,Qo,Cat.cells,SF.cells];repeat with_reducible refine sdQ ?_
 replace ⟨v1,hv1,h⟩:=bind_some h;refine Q0 (Qa9 _ v1 hv1) (.cons (.aggL (.cons .val (.cons .lst (.cons .lst (.cons .lst (.cons .lst .nil)))))) .nil) ?_;simp [eM,eL,eI,Q1,Qy,Qo,Cat.cells,SF.cells];repeat refine sdQ ?_
 refine hK _ ?_;clear hK K;refine tn (Qa (st':=⟨Yb classes_ [],Yh f_ ((2,.mix 7 [(YF v1 [nS,nS])])::Yk v1 []),7⟩) (Q1f [(0,0),(1,1),(7,2),(3,3),(4,4),(5,5),(6,6)]) (Q3 (Q3 (runQ hN fun K hK=>?_))));simp [eM,eL,eI,Q1,Qy,Qo,Cat.cells,SF.cells];repeat refine sdQ ?_
 refine hK _ (tn (Qa (st':=⟨Yb classes_ [(6,iV 0)],Yh f_ ((2,.mix 7 [(YF v1 [nS,nS])])::Yk v1 []),7⟩) (Q1x 7) ?_));clear hK K;replace ⟨e2,h,h2⟩:=bind_some h;refine Qz (fun b2:List Int=>⟨Yb classes_ [],Yh f_ ((2,.mix 7 [(YF v1 [.own 7 0 b2.length,nS])])::Yk v1 [(7,rI b2)]),8⟩) (fun b2=>b2=e2) ?_ ?_
 ·refine Q6 (QW h (fun s20:List Int × Int=>⟨Yb classes_ [(6,iV s20.2)],Y7 f_ v1 s20 [],8⟩) (Q65 ⟨Yb classes_ [(6,iV 0)],Yh f_ ((2,.mix 7 [(YF v1 [.own 7 0 0,nS])])::Yk v1 [(7,rI [])]),8⟩ (Wk.nils [(7,1)] (by simp) (by simp) (by simp [nlA]) (by simp [entN,nlL,nlA,Cat.cells,SF.cells,UA,U1,IA,I1,LA,L1,BA,B1,EA,E1,E2,eB,eI,eL,eM]) (by simp)) (Q1x 8)) ?_);clear h;intro k20 s20 c20 h hk20;refine Q3 (Q3 (runQ hN fun K hK=>?_));simp [eM,eL,eI,Q1,Qy,Qo,Cat.cells,SF.cells];repeat refine sdQ ?_
  refine hK _ ?_;clear hK K;refine tn (Q7 rfl (fun g=>?_) fun g=>?_)
  ·have g21:s20.2<(classes_.length:Int):=gQ;clear g;replace h:=if_l g21 h;refine Q8 (tn (Q3 (Q6 (Q3 (runQ hN fun K hK=>?_)))));simp [eM,eL,eI,Q1,Qy,Qo,Cat.cells,SF.cells];(repeat refine sdQ ?_);refine hK _ ?_;clear hK K;refine tn (Qa (st':=⟨Yb classes_ [(6,iV s20.2),(7,iV 0)],Y7 f_ v1 s20 [],8⟩) (Q1x 8) (Q3 (Q3 (runQ hN fun K hK=>?_))));simp [eM,eL,eI,Q1,Qy,Qo,Cat.cells,SF.cells];(repeat refine sdQ ?_);refine hK _ (tn (Qa (st':=⟨Yb classes_ [(6,iV s20.2),(7,iV 0),(8,iV 0)],Y7 f_ v1 s20 [],8⟩) (Q1x 8) ?_));clear hK K;replace ⟨e22,h,h22⟩:=bind_some h;refine Qz (fun b22:Int=>⟨Yb classes_ [(6,iV s20.2),(7,iV b22)],Y7 f_ v1 s20 [],8⟩) (fun b22=>b22=e22) ?_ ?_
   ·refine Q6 (QW h (fun s29:Int × Int=>⟨Yb classes_ [(6,iV s20.2),(7,iV s29.1),(8,iV s29.2)],Y7 f_ v1 s20 [],8⟩) (Q1x 8) ?_);clear h;intro k29 s29 c29 h hk29;refine Q3 (Q3 (runQ hN fun K hK=>?_));replace ⟨a30,h⟩:=Q5 h;simp [eM,eL,eI,Q1,Qy,Qo,Cat.cells,SF.cells,at_L a30];(repeat refine sdQ ?_);refine hK _ ?_;clear hK K;refine tn (Q7 rfl (fun g=>?_) fun g=>?_)
    ·have g31:s29.2<((rx classes_ s20.2).length:Int):=gQ;clear g;replace h:=if_l g31 h;refine Q8 (tn (Q3 (Q6 (runQ hN fun K hK=>?_))));replace ⟨a32,h⟩:=Q5 h;replace ⟨a33,h⟩:=Q5 h;replace ⟨a34,h⟩:=Q5 h;simp [eM,eL,eI,Q1,Qy,Qo,Cat.cells,SF.cells,at_L a32,at_I a33,QF a34];(repeat refine sdQ ?_);refine hK _ ?_;clear hK K;refine bn (tn (Qa (st':=⟨Yb classes_ [(6,iV s20.2),(7,iV (if (ix (rx classes_ s20.2) s29.2)+1 > s29.1 then (ix (rx classes_ s20.2) s29.2)+1 else s29.1)),(8,iV s29.2)],Y7 f_ v1 s20 [],8⟩) (Q1x 8) (runQ hN fun K hK=>?_)));replace ⟨a35,h⟩:=Q5 h;simp [eM,eL,eI,Q1,Qy,Qo,Cat.cells,SF.cells,QF a35];(repeat refine sdQ ?_);refine hK _ ?_;clear hK K;cases h;exact rn (s':=((if (ix (rx classes_ s20.2) s29.2)+1 > s29.1 then (ix (rx classes_ s20.2) s29.2)+1 else s29.1),s29.2+1)) hk29 (Q1x 8)
    have g31:¬ (s29.2<((rx classes_ s20.2).length:Int)):=gQ;clear g;replace h:=if_r g31 h;refine Qk (tx (lx (bh ?_)));cases h;exact jn (b:=s29.1) hk29 (Q1x 8)
   intro b22 hb22;have h:=h22;(try rw [← hb22] at h);clear h22;(try dsimp only at h);refine runQ hN fun K hK=>?_;replace ⟨a36,h⟩:=Q5 h;(try simp only [qL,qI,zD] at a36);simp [eM,eL,eI,Q1,Qy,Qo,Cat.cells,SF.cells,a36];(repeat refine sdQ ?_);refine hK _ ?_;clear hK K;refine bn (tn (Qa (st':=⟨Yb classes_ [(6,iV s20.2)],Yh f_ ((2,.mix 7 [(YF v1 [.own 7 0 ((s20.1++[b22]).length),nS])])::Yk v1 [(7,rI (s20.1++[b22]))]),8⟩) (Q1f [(0,0),(1,1),(2,2),(3,3),(4,4),(5,5),(6,6),(9,7)]) (runQ hN fun K hK=>?_)));replace ⟨a37,h⟩:=Q5 h;simp [eM,eL,eI,Q1,Qy,Qo,Cat.cells,SF.cells,QF a37];(repeat refine sdQ ?_);refine hK _ ?_;clear hK K;cases h;exact rn (s':=(s20.1++[b22],s20.2+1)) hk20 (Q1x 8)
  have g21:¬ (s20.2<(classes_.length:Int)):=gQ;clear g;replace h:=if_r g21 h;refine Qk (tx (lx (bh ?_)));cases h;exact jn (b:=s20.1) hk20 (Q1x 8)
 intro b2 hb2;have h:=h2;try rw [← hb2] at h
 clear h2;try dsimp only at h
 refine Q3 (Q3 (runQ hN fun K hK=>?_));simp [eM,eL,eI,Q1,Qy,Qo,Cat.cells,SF.cells];repeat refine sdQ ?_
 refine hK _ (tn (Qa (st':=⟨Yb classes_ [(9,iV 0)],Yh f_ ((2,.mix 7 [(YF v1 [.own 7 0 b2.length,nS])])::Yk v1 [(7,rI b2)]),8⟩) (Q1x 8) ?_));clear hK K;replace ⟨e38,h,h38⟩:=bind_some h;refine Qz (fun b38:List (List Int)=>⟨[(4,.adr 0 0 0),(5,.adr 1 0 0)],Yi ((1,.mix 7 [(YE v1 [.own 6 0 b2.length,.own 7 0 b38.length])])::Yf v1 [(6,rI b2),(7,.row 1 (Ls b38))]),8⟩) (fun b38=>b38=e38) ?_ ?_
 ·refine Q6 (QW h (fun s68:List (List Int) × Int=>⟨Yb classes_ [(9,iV s68.2)],Y3 f_ v1 b2 s68 [],9⟩) (Q65 ⟨Yb classes_ [(9,iV 0)],Yh f_ ((2,.mix 7 [(YF v1 [.own 7 0 b2.length,.own 8 0 0])])::Yk v1 [(7,rI b2),(8,.row 1 (Ls []))]),9⟩ (Wk.nils [(8,1)] (by simp) (by simp) (by simp [nlA]) (by simp [entN,nlL,nlA,Cat.cells,SF.cells,UA,U1,IA,I1,LA,L1,BA,B1,EA,E1,E2,eB,eI,eL,eM]) (by simp)) (Q1x 9)) ?_);clear h;intro k68 s68 c68 h hk68;refine Q3 (Q3 (runQ hN fun K hK=>?_));simp [eM,eL,eI,Q1,Qy,Qo,Cat.cells,SF.cells];repeat refine sdQ ?_
  refine hK _ ?_;clear hK K;refine tn (Q7 rfl (fun g=>?_) fun g=>?_)
  ·have g69:s68.2<(f_.ac.length:Int):=gQ;clear g;replace h:=if_l g69 h;refine Q8 (tn (Q3 (Q6 (Q3 (runQ hN fun K hK=>?_)))));replace ⟨a70,h⟩:=Q5 h;replace ⟨a71,h⟩:=Q5 h;simp [eM,eL,eI,Q1,Qy,Qo,Cat.cells,SF.cells,at_I a70,at_I a71];(repeat refine sdQ ?_);refine hK _ ?_;clear hK K;refine tn (Qa (st':=⟨Yb classes_ ((9,iV s68.2)::Yl f_ s68 []),Y3 f_ v1 b2 s68 [],9⟩) (Q1x 9) (Q3 (runQ hN fun K hK=>?_)));replace ⟨a72,h⟩:=Q5 h;replace ⟨a73,h⟩:=Q5 h;simp [eM,eL,eI,Q1,Qy,Qo,Cat.cells,SF.cells,at_I a72];(repeat refine sdQ ?_);refine hK _ ?_;clear hK K;refine tn (Qa (st':=⟨Yb classes_ ((9,iV s68.2)::Yl f_ s68 [(12,.own 9 0 ((qZ ((ix b2 (ix f_.s.fr s68.2)).toNat) 0).length))]),Y3 f_ v1 b2 s68 [(9,rI (qZ ((ix b2 (ix f_.s.fr s68.2)).toNat) 0))],10⟩) (Q1f [(0,0),(1,1),(2,2),(3,3),(4,4),(5,5),(6,6),(7,7),(8,8),(10,9)]) (Q3 (Q3 (runQ hN fun K hK=>?_))));simp [eM,eL,eI,Q1,Qy,Qo,Cat.cells,SF.cells];(repeat refine sdQ ?_);refine hK _ (tn (Qa (st':=⟨Yb classes_ ((9,iV s68.2)::Yl f_ s68 [(12,.own 9 0 ((qZ ((ix b2 (ix f_.s.fr s68.2)).toNat) 0).length)),(13,iV 0)]),Y3 f_ v1 b2 s68 [(9,rI (qZ ((ix b2 (ix f_.s.fr s68.2)).toNat) 0))],10⟩) (Q1x 10) ?_));clear hK K;replace ⟨e74,h,h74⟩:=bind_some h
   refine Qz (fun b74:List Int=>⟨Yb classes_ [(9,iV s68.2),(12,.own 9 0 b74.length)],Y3 f_ v1 b2 s68 [(9,rI b74)],10⟩) (fun b74=>b74=e74) ?_ ?_
   ·refine Q6 (QW h (fun s85:List Int × Int=>⟨Yb classes_ ((9,iV s68.2)::Yl f_ s68 [(12,.own 9 0 s85.1.length),(13,iV s85.2)]),Y3 f_ v1 b2 s68 [(9,rI s85.1)],10⟩) (Q1x 10) ?_);clear h;intro k85 s85 c85 h hk85;refine Q3 (Q3 (runQ hN fun K hK=>?_));replace ⟨a86,h⟩:=Q5 h;simp [eM,eL,eI,Q1,Qy,Qo,Cat.cells,SF.cells,at_L a86];(repeat refine sdQ ?_);refine hK _ ?_;clear hK K;refine tn (Q7 rfl (fun g=>?_) fun g=>?_)
    ·have g87:s85.2<((rx classes_ (ix f_.s.fr s68.2)).length:Int):=gQ;clear g;replace h:=if_l g87 h;refine Q8 (tn (Q3 (Q6 (runQ hN fun K hK=>?_))));replace ⟨a88,h⟩:=Q5 h;replace ⟨a89,h⟩:=Q5 h;replace ⟨a90,h⟩:=Q5 h;replace ⟨a91,h⟩:=Q5 h;replace ⟨a92,h⟩:=Q5 h;replace ⟨a93,h⟩:=Q5 h;replace ⟨a94,h⟩:=Q5 h;simp [eM,eL,eI,Q1,Qy,Qo,Cat.cells,SF.cells,at_L a88,at_I a89,at_L a90,at_L a91,at_I a92,at_I a93,at_I a94];(repeat refine sdQ ?_);refine hK _ ?_;clear hK K;refine bn (tn (Qa (st':=⟨Yb classes_ ((9,iV s68.2)::Yl f_ s68 [(12,.own 9 0 ((s85.1.set ((ix (rx classes_ (ix f_.s.fr s68.2)) s85.2).toNat) (ix (rx classes_ (ix f_.s.to s68.2)) (ix (rx f_.ac s68.2) s85.2))).length)),(13,iV s85.2)]),Y3 f_ v1 b2 s68 [(9,rI (s85.1.set ((ix (rx classes_ (ix f_.s.fr s68.2)) s85.2).toNat) (ix (rx classes_ (ix f_.s.to s68.2)) (ix (rx f_.ac s68.2) s85.2))))],10⟩) (Q1x 10) (runQ hN fun K hK=>?_)));replace ⟨a95,h⟩:=Q5 h;simp [eM,eL,eI,Q1,Qy,Qo,Cat.cells,SF.cells,QF a95];(repeat refine sdQ ?_);refine hK _ ?_;clear hK K;cases h;exact rn (s':=(s85.1.set ((ix (rx classes_ (ix f_.s.fr s68.2)) s85.2).toNat) (ix (rx classes_ (ix f_.s.to s68.2)) (ix (rx f_.ac s68.2) s85.2)),s85.2+1)) hk85 (Q1x 10)
    have g87:¬ (s85.2<((rx classes_ (ix f_.s.fr s68.2)).length:Int)):=gQ;clear g;replace h:=if_r g87 h;refine Qk (tx (lx (bh ?_)));cases h;exact jn (b:=s85.1) hk85 (Q1x 10)
   intro b74 hb74;have h:=h74;(try rw [← hb74] at h);clear h74;(try dsimp only at h);refine runQ hN fun K hK=>?_;replace ⟨a96,h⟩:=Q5 h;(try simp only [qL,qI,zD] at a96);simp [eM,eL,eI,Q1,Qy,Qo,Cat.cells,SF.cells,a96];(repeat refine sdQ ?_);refine hK _ ?_;clear hK K;refine bn (tn (Qa (st':=⟨Yb classes_ [(9,iV s68.2)],Yh f_ ((2,.mix 7 [(YF v1 [.own 7 0 b2.length,.own 8 0 ((s68.1++[b74]).length)])])::Yk v1 [(7,rI b2),(8,.row 1 (Ls (s68.1++[b74])))]),9⟩) (Q1f [(0,0),(1,1),(2,2),(3,3),(4,4),(5,5),(6,6),(7,7),(11,8)]) (runQ hN fun K hK=>?_)));replace ⟨a97,h⟩:=Q5 h;simp [eM,eL,eI,Q1,Qy,Qo,Cat.cells,SF.cells,QF a97];(repeat refine sdQ ?_);refine hK _ ?_;clear hK K;cases h;exact rn (s':=(s68.1++[b74],s68.2+1)) hk68 (Q1x 9)
  have g69:¬ (s68.2<(f_.ac.length:Int)):=gQ;clear g;replace h:=if_r g69 h;refine Qk (tx (lx (bh ?_)));cases h;exact jn (b:=s68.1) hk68 (Q1f [(1,0),(2,1),(3,2),(4,3),(5,4),(6,5),(7,6),(8,7)])
 intro b38 hb38;have h:=h38;try rw [← hb38] at h
 clear h38;try dsimp only at h
 refine Q3 (runQ hN fun K hK=>?_);simp [eM,eL,eI,Q1,Qy,Qo,Cat.cells,SF.cells];repeat refine sdQ ?_
 refine hK _ (tn (Qa (st':=⟨[(4,.adr 0 0 0)],Ys v1 b2 b38 [],7⟩) (Q1f [(0,0),(2,1),(3,2),(4,3),(5,4),(6,5),(7,6)]) (Qg ?_)));clear hK K;have hr:=zE h;rw [← hr];refine ⟨_,(.cell Qa5 rfl rfl rfl (by simp) (by simp) .nil),?_⟩;refine ⟨(.agg rfl .nil),[iV v1.n,lI v1.fr,lI v1.to,lI v1.id,.lst true 1 (Ls v1.cs),lI b2,.lst true 1 (Ls b38)],[1,2,3,4,5,6],by simp [Cat.cells,SF.cells,UA,U1,IA,I1,LA,L1,BA,B1,EA,E1,E2,eB,eI,eL,eM],by simp,(UpL.refl _)⟩
end Go.Vc.T
namespace Go.Vc.T
open Go Go.Vc Go.Proofs
section
attribute [local simp] Qd Qt Ql QS Qv
def mxP (L:List Int) (k:Nat):Int:=(L.take k).foldl (fun m v=>if v+1 > m then v+1 else m) 0
theorem Q6H {L:List Int} {k:Nat} (h:k<L.length):mxP L (k+1)=if ix L k+1 > mxP L k then ix L k+1 else mxP L k:=by
 unfold mxP;rw [zH h,List.foldl_append,QP _ _ h];rfl
theorem mxP_bd {L:List Int} {n:Int} (hn:0≤n) (hb:∀ e:Nat,e<L.length→0≤ix L e∧ix L e<n):∀ k,k≤L.length→(0≤mxP L k∧mxP L k≤n)∧∀ e:Nat,e<k→ix L e<mxP L k:=by
 intro k
 induction k with
 | zero=>intro _;exact ⟨by simp [mxP];omega,fun e he=>absurd he (Nat.not_lt_zero e)⟩
 | succ k ih =>
  intro hk;obtain ⟨h1,h2⟩:=ih (by omega);have hb':=hb k (by omega);rw [Q6H (by omega)];refine ⟨by split<;>omega,fun e he=>?_⟩
  by_cases q:e=k
  ·subst q;split<;>omega
  have:=h2 e (by omega);split<;>omega
structure QuoP (f:SF) (p:List (List Int)):Prop where
 sh:f.Sh
 len:p.length=f.sz.length
 row:∀ x:Nat,x<p.length→((rx p x).length:Int)=ix f.sz x∧∀ e:Nat,e<(rx p x).length→0≤ix (rx p x) e∧ix (rx p x) e<ix f.sz x
def quoA (f:SF) (p:List (List Int)) (a k:Nat):List Int:=(zF k).foldl (fun (acc:List Int) (e:Nat)=>acc.set (ix (rx p (ix f.s.fr a)) e).toNat (ix (rx p (ix f.s.to a)) (ix (rx f.ac a) e))) (qZ (mxP (rx p (ix f.s.fr a)) (rx p (ix f.s.fr a)).length).toNat 0)
theorem Q5u (f:SF) (p:List (List Int)) (a k:Nat):quoA f p a (k+1)=(quoA f p a k).set (ix (rx p (ix f.s.fr a)) k).toNat (ix (rx p (ix f.s.to a)) (ix (rx f.ac a) k)):=by
 unfold quoA;rw [List.range_succ,List.foldl_append];rfl
theorem Q6K (f:SF) (p:List (List Int)) (a k:Nat):(quoA f p a k).length=(mxP (rx p (ix f.s.fr a)) (rx p (ix f.s.fr a)).length).toNat:=by
 induction k with
 | zero=>simp [quoA]
 | succ k ih=>rw [Q5u,List.length_set,ih]
def quoZ (p:List (List Int)) (n:Nat):List Int:=tab n fun x:Nat=>mxP (rx p x) (rx p x).length
def quoF (f:SF) (p:List (List Int)):SF:=⟨f.s,quoZ p p.length,tab f.ac.length fun a=>quoA f p a (rx f.ac a).length⟩
theorem QuoP.at {f:SF} {p:List (List Int)} (h:QuoP f p):p.length≤8∧f.ac.length≤40∧(∀ x:Nat,x<p.length→(rx p x).length≤16∧0≤mxP (rx p x) (rx p x).length∧mxP (rx p x) (rx p x).length≤16) ∧
  ∀ a:Nat,a<f.ac.length→(a<f.s.fr.length∧a<f.s.to.length)∧((0≤ix f.s.fr a∧ix f.s.fr a<p.length)∧0≤ix f.s.to a∧ix f.s.to a<p.length)∧(rx p (ix f.s.fr a)).length=(rx f.ac a).length∧(rx f.ac a).length≤16∧ix (quoZ p p.length) (ix f.s.fr a)=mxP (rx p (ix f.s.fr a)) (rx p (ix f.s.fr a)).length ∧
   ((0:Int)≤mxP (rx p (ix f.s.fr a)) (rx p (ix f.s.fr a)).length∧mxP (rx p (ix f.s.fr a)) (rx p (ix f.s.fr a)).length≤16) ∧
   ∀ k:Nat,k<(rx f.ac a).length→(0≤ix (rx f.ac a) k∧ix (rx f.ac a) k<((rx p (ix f.s.to a)).length:Int))∧0≤ix (rx p (ix f.s.fr a)) k∧ix (rx p (ix f.s.fr a)) k<mxP (rx p (ix f.s.fr a)) (rx p (ix f.s.fr a)).length:=by
 have hC:=h.sh.cat.1;have li:=hC.li;have lt:=hC.lt;have n8:=hC.n8;have m40:=hC.m40;have ls:=h.sh.ls;have hla:=h.sh.la;have hl:=h.len;have hz:∀ x:Nat,x<p.length→0≤ix f.sz x∧ix f.sz x≤16:=fun x hx=>by
  have:=Q1o h.sh.sz (j:=x) (by omega) (by omega);omega
 have hm:∀ x:Nat,x<p.length→(rx p x).length≤16∧(0≤mxP (rx p x) (rx p x).length∧mxP (rx p x) (rx p x).length≤16)∧∀ e:Nat,e<(rx p x).length→ix (rx p x) e<mxP (rx p x) (rx p x).length:=fun x hx=>by
  obtain ⟨r1,r2⟩:=h.row x hx;have z:=hz x hx;obtain ⟨m1,m2⟩:=mxP_bd z.1 r2 _ (qC _);exact ⟨by omega,by omega,m2⟩
 refine ⟨by omega,by omega,fun x hx=>⟨(hm x hx).1,(hm x hx).2.1⟩,fun a ha=>?_⟩;obtain ⟨q1,q2⟩:=hC.frn (a:=a) (by omega);have e1:((ix f.s.fr a).toNat:Int)=ix f.s.fr a:=by omega
 have e2:((ix f.s.to a).toNat:Int)=ix f.s.to a:=by omega
 have r1:=h.row (ix f.s.fr a).toNat (by omega);have r2:=h.row (ix f.s.to a).toNat (by omega);have w1:=hm (ix f.s.fr a).toNat (by omega);have hzz:ix (quoZ p p.length) ((ix f.s.fr a).toNat:Int)=mxP (rx p ((ix f.s.fr a).toNat:Int)) (rx p ((ix f.s.fr a).toNat:Int)).length:=Q7k _ _ (by omega);rw [e1] at r1 w1 hzz;rw [e2] at r2;have hac:=h.sh.act a ha;have hal:=hac.1;refine ⟨by omega,by omega,by omega,by omega,hzz,w1.2.1,fun k hk=>?_⟩;have hv:=Q1o hac.2 (j:=k) (by omega) (by omega);have v1:=r1.2 k (by omega);have v2:=w1.2.2 k (by omega);omega
theorem Q7U {f:SF} {p:List (List Int)} (h:QuoP f p):QG f p=some (quoF f p):=by
 obtain ⟨a1,a2,a3,a4⟩:=h.at;unfold QG Q1m;rw [Q9 h.sh.cat.1.size2.1];simp only [zL];refine Q1l p.length (fun i=>quoZ p i) (e:=quoZ p p.length) rfl (by omega) (fun i hi=>?_) (by simp) ?_
 ·obtain ⟨b1,b2,b3⟩:=a3 i hi;obtain ⟨r1,r2⟩:=h.row i hi;have hcl:QQ (rx p i)=some (mxP (rx p i) (rx p i).length):=by
   unfold QQ;refine Q1l (rx p i).length (fun k=>mxP (rx p i) k) (e:=mxP (rx p i) (rx p i).length) rfl (by omega) (fun k hk=>?_) (by simp) rfl;have v:=r2 k hk;simp only;rw [if_pos (by omega),Q9 (by omega),Q9 (by unfold B64;omega),Q9 (by unfold B64;omega),Q6H hk]
  simp only;rw [if_pos (by omega),Q9 (by omega),hcl];simp only [zL];rw [Q9 (by simp [quoZ];omega),Q9 (by unfold B64;omega),quoZ,quoZ,Q1e]
 have hl:(quoZ p p.length).length=p.length:=by simp [quoZ]
 refine Q1l f.ac.length (fun i=>tab i fun a=>quoA f p a (rx f.ac a).length) (e:=tab f.ac.length fun a=>quoA f p a (rx f.ac a).length) rfl (by omega) (fun a ha=>?_) (by simp) rfl;obtain ⟨b1,b2,b3,b4,b5,b6,b7⟩:=a4 a ha;simp only [b5];rw [if_pos (by omega),Q9 (by omega),Q9 (by omega),Q9 (by omega),Q9 (by omega),Q9 (by omega)];refine Q1l (rx f.ac a).length (fun k=>quoA f p a k) (e:=quoA f p a (rx f.ac a).length) rfl (by omega) (fun k hk=>?_) (by simp) ?_
 ·have v:=b7 k hk;have lq:=Q6K f p a k;simp only;rw [if_pos (by omega),Q9 (by omega),Q9 (by omega),Q9 (by omega),Q9 (by omega),Q9 (by omega),Q9 (by omega),Q9 (by unfold B64;omega),Q5u]
 rw [Q9 (by simp;omega),Q9 (by unfold B64;omega),Q1e]
theorem Q7V {f:SF} {p:List (List Int)} (h:QuoP f p):Q1i f p=some (quoF f p):=by
 obtain ⟨a1,a2,a3,a4⟩:=h.at;unfold Q1i Q3w;rw [Q9 h.sh.cat.1.size2.1];simp only [zL];refine Q1l p.length (fun i=>quoZ p i) (e:=quoZ p p.length) rfl (by omega) (fun i hi=>?_) (by simp) ?_
 ·obtain ⟨b1,b2,b3⟩:=a3 i hi;obtain ⟨r1,r2⟩:=h.row i hi;simp only;rw [if_pos (by omega)];refine Q1l (rx p i).length (fun k=>mxP (rx p i) k) (e:=mxP (rx p i) (rx p i).length) rfl (by omega) (fun k hk=>?_) (by simp only;rw [Q9 (by omega),if_neg (by omega)]) ?_
  ·have v:=r2 k hk;simp only;rw [Q9 (by omega),if_pos (by omega),Q9 (by omega),Q9 (by omega),Q9 (by unfold B64;omega),Q9 (by unfold B64;omega),Q6H hk]
  rw [Q9 (by simp [quoZ];omega),Q9 (by unfold B64;omega),quoZ,quoZ,Q1e]
 have hl:(quoZ p p.length).length=p.length:=by simp [quoZ]
 refine Q1l f.ac.length (fun i=>tab i fun a=>quoA f p a (rx f.ac a).length) (e:=tab f.ac.length fun a=>quoA f p a (rx f.ac a).length) rfl (by omega) (fun a ha=>?_) (by simp) rfl;obtain ⟨b1,b2,b3,b4,b5,b6,b7⟩:=a4 a ha;simp only [b5];rw [if_pos (by omega),Q9 (by omega),Q9 (by omega),Q9 (by omega),Q9 (by omega)];refine Q1l (rx f.ac a).length (fun k=>quoA f p a k) (e:=quoA f p a (rx f.ac a).length) rfl (by omega) (fun k hk=>?_) (by simp only;rw [Q9 (by omega),if_neg (by omega)]) ?_
 ·have v:=b7 k hk;have lq:=Q6K f p a k;simp only;rw [Q9 (by omega),if_pos (by omega),Q9 (by omega),Q9 (by omega),Q9 (by omega),Q9 (by omega),Q9 (by omega),Q9 (by omega),Q9 (by omega),Q9 (by unfold B64;omega),Q5u]
 rw [Q9 (by simp;omega),Q9 (by unfold B64;omega),Q1e]
theorem quo_ok {f:SF} {p:List (List Int)} (h:QuoP f p):((quoF f p).ok∧(quoF f p).size≤10000)∧(p.length≤1048576∧∀ x∈p,x.length≤1048576)∧sumL p≤10000:=by
 obtain ⟨a1,a2,a3,a4⟩:=h.at;obtain ⟨c1,c2⟩:=h.sh.cat.1.size2;have b0:∀ xs∈(quoF f p).ac,xs.length≤16:=by
  intro xs hx;simp only [quoF,tab,List.mem_map,List.mem_range] at hx;obtain ⟨a,ha,rfl⟩:=hx;have:=(a4 a ha).2.2.2.2.2.1;rw [Q6K];omega
 have b1:∀ xs∈p,xs.length≤16:=by
  intro xs hx;obtain ⟨i,hi,rfl⟩:=List.getElem_of_mem hx;rw [QX _ _ hi];exact (a3 i hi).1
 have s0:=sumL_b b0;have s1:=sumL_b b1;have l0:(quoF f p).ac.length=f.ac.length:=by simp [quoF]
 have lz:(quoF f p).sz.length=p.length:=by simp [quoF,quoZ]
 rw [l0] at s0;have hs:(quoF f p).s=f.s:=rfl;refine ⟨⟨⟨by rw [hs];exact c1,by omega,by omega,fun xs hx=>by have:=b0 xs hx;omega,by omega⟩,?_⟩,⟨by omega,fun xs hx=>by have:=b1 xs hx;omega⟩,by omega⟩;simp only [SF.size,hs];omega
end
end Go.Vc.T
namespace Go.Vc.T
open Go Go.Vc Go.Proofs
section
attribute [local simp] unk unA unE unT unC flat Qd Qt Ql QS Qv
noncomputable def bodyQ:Code:=Tryz.f61.body.getD .skip
noncomputable def Q8M:Code:=match bodyQ with|.seq x _=>x|_=>.skip
noncomputable def codeQ1:Code:=match bodyQ with|.seq _ x=>x|_=>.skip
theorem bodyQ_eq:bodyQ = .seq Q8M codeQ1:=by simp only [Q8M,codeQ1,bodyQ,Tryz.f61,qB]
theorem coRegion [Kd Tryz.prog] {s t:SM} {x:Int} {r:List Int × Int} (a1:0≤x∧x<(s.t.sz.length:Int)) (a2:0≤x∧x<(s.p.length:Int)) (a3:0≤x∧x<(t.p.length:Int)) (hv:s_i_CoequalizerOf (ix s.t.sz x) (rx s.p x) (rx t.p x)=some r) (F:Fx) (hN:F.N=31) (hP:F.pins=1) :
  Wp Tryz.prog F Q8M (fun e st=>e = .normal∧Wk F st ⟨[(0,iV x),(3,.adr 0 0 0),(5,.own 1 0 r.1.length)],[(1,rI r.1)],2⟩) ⟨[(0,iV x),(1,.rptr (SM.cells true s)),(2,.rptr (SM.cells true t)),(3,.adr 0 0 0)],[],1⟩:=by
 simp only [Q8M,bodyQ,Tryz.f61,qB];refine runQ hN fun K hK=>?_;simp [eM,eL,eI,Q1,QC,SM.cells,at_I a1,at_L a2,at_L a3];repeat with_reducible refine sdQ ?_
 refine Q0 (Q4A _ _ _ r hv) (.cons .val (.cons .lst (.cons .lst .nil))) ?_;simp [eM,eL,eI,Q1,QC,SM.cells,at_I a1,at_L a2,at_L a3];repeat refine sdQ ?_
 refine hK _ ⟨rfl,?_⟩;exact Wk.r1 [(0,0),(1,1)] (by simp [hP,hhOk,back,SM.cells,UA,U1,IA,I1,LA,L1,BA,B1,EA,E1,E2,eB,eI,eL,eM])
end
end Go.Vc.T
namespace Go.Proofs
open Go Go.Conc Go.ConcN Go.RowKit Go.Conc.Lib Go.ConcR.Gen Go.ConcN.Gen Go.Vc Go.Vc.Wg Go.Vc.Ph
section
attribute [local simp] Qd Qt Ql
open Go.ConcR (KK wgBlock WgAt stA smA rd wr mk Payload DC0)
noncomputable def opsQ:Array Oper:=match Go.Vc.T.codeQ1 with|.region _ ops _=>ops|_=>#[]
section
variable [PS] {s0:World} {β k bP C n cap Wg bT bX:Nat} {vs vt f xk:Value} {A:Nat→AV} {s t:Go.Vc.T.SM} {r:List Int × Int}
set_option maxHeartbeats 400000 in
set_option maxRecDepth 100000 in
theorem coWork (a1:0≤(k:Int)∧(k:Int)<(s.t.sz.length:Int)) (a2:0≤(k:Int)∧(k:Int)<(s.p.length:Int)) (a3:0≤(k:Int)∧(k:Int)<(t.p.length:Int)) (hv:Go.Vc.T.s_i_CoequalizerOf (Go.Vc.T.ix s.t.sz k) (Go.Vc.T.rx s.p k) (Go.Vc.T.rx t.p k)=some r) (hAk:A k = .lst true 1 (Go.Vc.Is r.1))
  (hkn:k<n) (hkz:k<PS.z) (hk64:k≤1073741824) (hE:s0.cell? ⟨bP,0,none⟩=some (.slice (some ⟨C,0,none⟩) n cap)) (u:World) (hu:Ext1 s0 u) (hβ:β≤u.heap.size) (R:Nat→Prop) (hR:∀ b,R b→b<u.heap.size) (hs:RRel u R vs (.rptr (Go.Vc.T.SM.cells true s))) (ht:RRel u R vt (.rptr (Go.Vc.T.SM.cells true t))) :
  To Tryz.prog false (Q5P Tryz.prog 123 Wg C n (KA A) β k) (G (Frame.enter Tryz.prog 61 (#[.int .i64 k]++#[vs,vt,.pointer (some ⟨bP,0,none⟩)]) .normal) [frC Wg bT bX f xk,botG]) u:=by
 letI:Kd Tryz.prog:=KdG Tryz.prog false
 have hT:Kd.adm Tryz.prog (To Tryz.prog false (Q5P Tryz.prog 123 Wg C n (KA A) β k)):=⟨_,rfl⟩
 let F:Fx:=⟨⟨u,fun _=>False,fun id=>if id=0 then some ⟨some bP,1,1⟩ else none,1⟩,R,31,1,rfl⟩
 obtain ⟨tm0,hent,z31,g0,g1,g2,g3,g4⟩:∃ tm0:Array Value,Frame.enter Tryz.prog 61 (#[.int .i64 k]++#[vs,vt,.pointer (some ⟨bP,0,none⟩)]) .normal=(base 61).at ⟨tm0,[]⟩ [.code Go.Vc.T.bodyQ]∧tm0.size=31∧tm0.getD 0 undef = .int .i64 k∧tm0.getD 1 undef=vs∧tm0.getD 2 undef=vt∧tm0.getD 3 undef = .pointer (some ⟨bP,0,none⟩)∧∀ j,4≤j→tm0.getD j undef=undef:=by
  have hnt:Tryz.f61.ntmps=31:=rfl;refine ⟨_,enter_at _ Tryz.func61 (c:=Go.Vc.T.bodyQ) (by simp only [Go.Vc.T.bodyQ,Tryz.f61,qB]),?_,?_,?_,?_,?_,fun j hj=>?_⟩
  ·simp [hnt]
  ·simp [hnt]
  ·simp [hnt]
  ·simp [hnt]
  ·simp [hnt]
  simp only [hnt,Array.getD_eq_getD_getElem?,Array.getElem?_append,Array.getElem?_replicate];rw [if_neg (by simp;omega)];split<;>rfl
 rw [hent,Go.Vc.T.bodyQ_eq];refine Kd.ctl hT rfl (fun _=>stepG_seq) ?_;have hw:=Go.Vc.T.coRegion a1 a2 a3 hv F rfl rfl;have x0:XRel u R F.C.ρ0 (.int .i64 k) (.val (.int .i64 k)):=by
  refine .r (.val ?_);show IntKind.i64.min≤(k:Int)∧(k:Int)≤IntKind.i64.max;have e1:IntKind.i64.min = -9223372036854775808:=by decide
  have e2:IntKind.i64.max=9223372036854775807:=by decide
  rw [e1,e2];omega
 have x3:XRel u R F.C.ρ0 (.pointer (some ⟨bP,0,none⟩)) (.adr 0 0 0):=XRel.adr (id:=0) (b:=bP) (i:=0) (k:=0) (sz:=1) (cap:=1) rfl;have hrel:Rel F.C R 31 ⟨tm0,[]⟩ u ⟨[(0,.val (.int .i64 k)),(1,.rptr (Go.Vc.T.SM.cells true s)),(2,.rptr (Go.Vc.T.SM.cells true t)),(3,.adr 0 0 0)],[],1⟩:=by
  refine ⟨z31,rfl,(fun id x h=>by cases h),fun _=>none,F.C.ρ0,⟨fun b hb=>⟨hR b hb,rfl⟩,(fun b L hb=>by cases hb),rfl,⟨rfl,qC _⟩,rfl,qC _,fun b _ _=>rfl⟩,⟨(fun id sz es bk hx hb=>by cases hx),(fun id sz es bk hx hb=>by cases hx),(fun id c i k sz bk hx hb=>by cases hx),(fun id kd es bk hx hb=>by cases hx)⟩,fun j=>?_,(fun id q hq=>?_),(fun id hid=>rfl),qC _⟩
  ·rcases j with _|_|_|_|j
   ·rw [g0];exact x0
   ·rw [g1];exact .r hs
   ·rw [g2];exact .r ht
   ·rw [g3];exact x3
   rw [g4 _ (by omega)];have:(St.get ⟨[(0,.val (.int .i64 k)),(1,.rptr (Go.Vc.T.SM.cells true s)),(2,.rptr (Go.Vc.T.SM.cells true t)),(3,.adr 0 0 0)],[],1⟩ (j+1+1+1+1)) = .bot:=(by simp [St.get,look]);rw [this];exact .bot
  have hq':(if id=0 then some (⟨some bP,1,1⟩:Bk) else none)=some q:=hq;split at hq'
  ·rename_i e;subst e;exact Nat.lt_succ_self 0
  cases hq'
 refine hw _ u (.of hrel) _ [.code Go.Vc.T.codeQ1] _ _ hT (by decide) fun e a' w' hq=>?_;obtain ⟨st,hx,rfl,hwk⟩:=hq;obtain ⟨R',hX,hr⟩:=hwk a' w' hx;obtain ⟨hb,o,ho,hres⟩:=ret_res hr rfl (Q3J (t:=5) (id:=1) (sz:=1) (n:=r.1.length) (fs:=Go.Vc.Is r.1) rfl rfl (by simp) rfl);obtain ⟨tm,df⟩:=a';obtain ⟨h1,h2,_,oo,ρ,W,H,hxr,hρ1,hρ2,_⟩:=hr;simp only at h1 h2;subst h2;have v0:=hxr 0;have v3:=hxr 3;have hρ0:ρ 0=some ⟨some bP,1,1⟩:=hρ2 0 (Nat.lt_succ_self 0);have t0:tm.getD 0 undef = .int .i64 k:=v0.val_eq.1;have t3:tm.getD 3 undef = .pointer (some ⟨bP,0,none⟩):=by
  obtain ⟨b',sz',cap',q1,q2⟩:=XRel.adr_eq (id:=0) (i:=0) (k:=0) v3;rw [hρ0] at q1;cases q1;simpa using q2
 have hK:KA A β k (tm.getD 5 undef) w':=KA.of hAk hβ ho (show Res w' o (tm.getD 5 undef) (.lst true 1 (Go.Vc.Is r.1)) from hres);obtain ⟨xa,xm,xc,t5⟩:=Go.Vc.T.KA_slice hAk hK;rw [t5] at hK;have hE1:=hu.blw hb;have z31':tm.size=31:=h1;clear hres v0 v3 hxr W H hw hrel hwk hx hX h1 x0 x3;show To Tryz.prog false (Q5P Tryz.prog 123 Wg C n (KA A) β k) (G ((base 61).at ⟨tm,[]⟩ [.code Go.Vc.T.codeQ1]) [frC Wg bT bX f xk,botG]) w';simp only [Go.Vc.T.codeQ1,Go.Vc.T.bodyQ,Tryz.f61,qB];refine Kd.ctl hT rfl (fun _=>stepG_region) ?_;simp only [List.size_toArray,qI,zD,Nat.reduceAdd,Nat.zero_add,zF,zM];simp only [Array.getD_eq_getD_getElem?] at t0 t3 t5;refine koper hT rfl rfl (by decide) (fun v₁ r₁=>⟨(Q34 _ _).bind fun _=>.pure _,.slice (some ⟨C,0,none⟩) n cap,v₁,by
  have c1:=(Q2B ((hE1.rly r₁).old bP (Q3p hE))).trans hE;simp [execOp,go_sem,Act.eval,t3,c1],?_⟩)
 refine kvalue hT (.int .i64 k) rfl rfl (by decide) (fun _=>by simp [execOp,go_sem,Act.eval,Act.put,t0]) (fun _=>by simp [execOp,go_sem,Act.eval,Act.put]) ?_;refine kvalue hT (.slice xa xm xc) rfl rfl (by decide) (fun _=>by simp [execOp,go_sem,Act.eval,Act.put,t5]) (fun _=>by simp [execOp,go_sem,Act.eval,Act.put]) ?_;refine koper hT rfl rfl (by decide) (fun v₂ r₂=>⟨(Q4M _ _ _).bind fun _=>.pure _,.pointer (some ⟨C,k,none⟩),v₂,by
  simp [execOp,go_sem,Act.eval,Act.put,z31',hkn],?_⟩)
 walk_nrm
 obtain ⟨tmF,hF⟩:∃ tmF,tmF=(((tm.setIfInBounds 27 (.slice (some ⟨C,0,none⟩) n cap)).setIfInBounds 28 (.int .i64 k)).setIfInBounds 29 (.slice xa xm xc)).setIfInBounds 30 (.pointer (some ⟨C,k,none⟩)):=⟨_,rfl⟩;have f29:tmF[29]?.getD undef = .slice xa xm xc:=by rw [hF];simp [z31']
 have f30:tmF[30]?.getD undef = .pointer (some ⟨C,k,none⟩):=by rw [hF];simp [z31']
 show To Tryz.prog false (Q5P Tryz.prog 123 Wg C n (KA A) β k) (G ((base 61).at ⟨(((tm.setIfInBounds 27 (.slice (some ⟨C,0,none⟩) n cap)).setIfInBounds 28 (.int .i64 k)).setIfInBounds 29 (.slice xa xm xc)).setIfInBounds 30 (.pointer (some ⟨C,k,none⟩)),[]⟩ [.inRegion opsQ [4]]) [frC Wg bT bX f xk,botG]) v₂;rw [← hF];refine To.stop fun v₃ r₃=>⟨rfl,⟨hkn,hkz⟩,.slice xa xm xc,G ((base 61).at ⟨tmF,[]⟩ [.inRegion opsQ []]) [frC Wg bT bX f xk,botG],KA.rly r₃ (KA.rly r₂ (KA.rly r₁ hK)),fun w'' U hp=>?_,fun w'' hl hh=>⟨43,?_⟩⟩
 ·obtain ⟨cs,hc1,hc2⟩:=hp;have hkc:k<cs.size:=by omega
  have h1:w''.cell? ⟨C,k,none⟩=some cs[k]:=by simp [World.cell?,hc1,hkc]
  have h2:w''.frozen? ⟨C,k,none⟩=false:=by simp [World.frozen?,hc1]
  rw [stepG_none (w':=w''.setCell ⟨C,k,none⟩ (.slice xa xm xc)) rfl rfl (by decide) (by simp [opsQ,Go.Vc.T.codeQ1,Go.Vc.T.bodyQ,Tryz.f61,execOp,go_sem,Act.eval,stored,h1,h2,f29,f30])];have hev:=events_store Tryz.prog w'' #[] ⟨C,k,none⟩ (.slice xa xm xc) .plain rfl;simp [opsQ,Go.Vc.T.codeQ1,Go.Vc.T.bodyQ,Tryz.f61,Tryz.func61,Go.Conc.base,listed,execOp,go_sem,Act.eval,seen,stored,hev,storedEv,h1,h2,f29,f30]
 have hK':WgLive 123 Wg w''∧Has C k (.slice xa xm xc) w'':=⟨hl,hh⟩
 u_c stepG_region_end kn_rely hK'
 u_c stepG_end kn_rely hK'
 u_in kn_rely hK'
 refine goes_leave0 rfl rfl Tryz.func61 rfl ⟨by u_nil,?_⟩;exact Qaa _ hK'
end
end
end Go.Proofs
namespace Go.Vc.T
open Go Go.Vc Go.Vc.Wg Go.Vc.Ph Go.Proofs
section
attribute [local simp] Qd Qt Ql QS Qv
open Go.ConcR (Payload)
theorem triple_eq {vals:Array Value} {a b c:Value} (h:vals.size=3) (h0:vals.getD 0 undef=a) (h1:vals.getD 1 undef=b) (h2:vals.getD 2 undef=c):vals = #[a,b,c]:=by
 obtain ⟨l⟩:=vals;rcases l with _|⟨x,_|⟨y,_|⟨z,_|⟨w,l⟩⟩⟩⟩<;>simp_all
theorem nomSM (s:SM):NoM (.rptr (SM.cells true s)):=by simp [SM.cells]
theorem eoCoeq {W0:World} {S0:Nat→Prop} {Post:Value→World→Prop} {H:List (Nat × Ent)} {nn n e Ln:Nat} {c0 c1:AV} {s t:SM} {es0:List (List AV)} {A:Nat→AV}
  (hH:∀ p∈H,p.1<nn) (he:look e H=some (.mix 1 [[.own Ln 0 n]])) (hL:look Ln H=some (.row 1 es0)) (hlen:es0.length=n) (hn:n≤1073741824) (hal:∀ p∈H,Q5W p.2=false)
  (hc:PurTo (fun id=>look id (delH Ln H)) c0 (.rptr (SM.cells true s))) (hc1:PurTo (fun id=>look id (delH Ln H)) c1 (.rptr (SM.cells true t)))
  (hcon:∀ k:Nat,k<n→(0≤(k:Int)∧(k:Int)<(s.t.sz.length:Int))∧(0≤(k:Int)∧(k:Int)<(s.p.length:Int))∧(0≤(k:Int)∧(k:Int)<(t.p.length:Int))∧∃ r,s_i_CoequalizerOf (ix s.t.sz k) (rx s.p k) (rx t.p k)=some r∧A k = .lst true 1 (Is r.1)) :
  @ICon Tryz.prog (KdM Tryz.prog W0 S0 Post) 60 [iV n,.fn 61 [c0,c1,.adr e 0 0]] (fun id=>look id H) nn { v:=.tup [],set:=[(Ln,.row 1 (Q4X n A))] }:=by
 letI:Kd Tryz.prog:=KdM Tryz.prog W0 S0 Post
 have helt:e<nn:=hH _ (Qe he);have hLlt:Ln<nn:=hH _ (Qe hL);have hne:e ≠ Ln:=fun q=>by rw [q,hL] at he;cases he
 refine ⟨⟨_,Tryz.func60,rfl,by simp [Tryz.f60]⟩,fun _=>Q7a ⟨by simp,by simp,by simp,by simp,by simpa using hLlt⟩,fun C v g h' vals hag hnew hlim W HH hsz hargs=>?_⟩;intro cs T hT kk;obtain rfl:T=TM Tryz.prog W0 S0 Post:=hT;have a0:=hargs 0 (by simp);have a1:=hargs 1 (by simp);simp only [qT,List.getD_cons_succ] at a0 a1;obtain ⟨v0,_⟩:=a0.val_eq;obtain ⟨caps,v1,hcs,hcr⟩:=a1.fn_eq;have hvals:=pair_eq (by simpa using hsz) v0 v1;subst hvals;have c0r:=hcr 0 (by simp);have c1r:=hcr 1 (by simp);have c2r:=hcr 2 (by simp);simp only [qT,List.getD_cons_succ] at c0r c1r c2r;have hlk:∀ id x,look id H=some x→h' id=some x:=fun id x hx=>(hag id (hH _ (Qe hx))).trans hx;have hlim':∀ id bk,g.ρ id=some bk→h' id=look id H:=fun id bk hb=>hag id (hlim id bk hb);have hali:∀ id bk,g.ρ id=some bk→∀ c i k s,h' id ≠ some (.ali c i k s):=fun id bk hb c i k s hx=>by
  rw [hlim' id bk hb] at hx;have:=hal _ (Qe hx);cases this
 have HL:HRel v ⟨g.R,Q5T g.o Ln,g.ρ⟩ (fun id=>look id (delH Ln H)):=by
  have hsub:∀ id x,look id (delH Ln H)=some x→id ≠ Ln∧look id H=some x:=fun id x hx=>by
   rw [Q7p] at hx;split at hx
   ·cases hx
   exact ⟨by assumption,hx⟩
  exact HH.less (fun id x hx=>⟨(hsub id x hx).1,hlk id x (hsub id x hx).2⟩) fun id c i k s hx=>by
   have:=hal _ (Qe (hsub id _ hx).2);cases this
 have P0:=(Q5t HL hc c0r).2 (fun _ q=>by cases q);have P1:=(Q5t HL hc1 c1r).2 (fun _ q=>by cases q);obtain ⟨bE,bsz,bcap,hρe,c1v⟩:=c2r.adr_eq;obtain ⟨bE',curE,elE,usE,cpE,hbkE,hoE,hhE,_,_,_,_,hcurE,_,hxrE⟩:=(HH.mix e 1 _ _ (hlk _ _ he) hρe).ex (by simp);simp only [Bk.mk.injEq,Option.some.injEq] at hbkE;obtain ⟨rfl,rfl,_⟩:=hbkE;have hx0:=hxrE 0 0 (by simp) (by simp);have hc0:=hcurE 0 0 (by simp) (by simp);simp only [qT] at hx0;generalize usE 0 0=xE at hx0 hc0;generalize hq2:caps.getD 2 undef=q2 at c1v;subst c1v;generalize hq1:caps.getD 1 undef=q1_ at P1;generalize hq0:caps.getD 0 undef=q0 at P0;clear c0r c1r c2r a0 a1;have hcaps:=triple_eq (by simpa using hcs) hq0 hq1 hq2;subst hcaps;have hRlt:∀ b,RAll ⟨g.R,Q5T g.o Ln,g.ρ⟩ b→b<v.heap.size∧∀ L,g.o b=some L→∀ M,L ≠ Ln :: M:=fun b hb=>by
  rcases hb with hb|⟨L,hb⟩
  ·exact ⟨(W.R b hb).1,fun L hL2=>by rw [(W.R b hb).2] at hL2;cases hL2⟩
  obtain ⟨h1,h2⟩:=Q9s hb;exact ⟨(W.o b L h1).1,fun L' hL' M=>by rw [h1] at hL';cases hL';exact h2 M⟩
 rcases hx0.own_eq with ⟨s0,cp0,hρ0,rfl,_,rfl⟩|⟨C0,szL,cap,cc,x0,hρL,rfl,k1,k2,k3,k4,k5⟩
 ·
  letI:PS:={ ety:=87,z:=1 }
  refine eoCall (C:=fun bT=>bT) (n:=0) (K:=KA A) (fT:=61) (by decide) (fun β k val v v' r h=>KA.rly r h) v (fun v₁ bT XE hb hbT=>⟨⟨_,hbT,rfl⟩,fun h0=>absurd h0 (by decide)⟩) ⟨_,Tryz.func61,rfl,by simp [Tryz.f61]⟩ (fun v₁ bT XE k hk=>absurd hk (Nat.not_lt_zero k)) fun v₁ bT v₂ fr XE hb1 hb2 B hfr hl=>?_;have X2:Ext0 v v₂:=⟨Nat.le_trans XE.size (Nat.le_of_lt B.size),fun b hb=>(B.old b (Nat.lt_of_lt_of_le hb XE.size) (by omega)).trans (XE.old b hb),B.rest.1.trans XE.rest.1,B.rest.2.1.trans XE.rest.2.1,B.rest.2.2.1.trans XE.rest.2.2.1,Nat.le_trans XE.rest.2.2.2 B.rest.2.2.2⟩;obtain ⟨W2,H2⟩:=grown_rel W HH X2;have hes:es0=[]:=List.eq_nil_of_length_eq_zero hlen;have hh2:happ { v:=.tup [],set:=[(Ln,.row 1 (Q4X 0 A))] } h'=h':=by
   funext id
   simp only [happ,look];split
   ·rename_i x hx;split at hx
    ·rename_i e1;cases hx;rw [← e1,hlk Ln _ hL,hes];rfl
    cases hx
   simp
  exact kk (.tuple #[]) v₂ fr ⟨_,g.R,g.o,g.ρ,rfl,RX.refl,W2,by rw [hh2];exact H2,fun _ _ h=>h,fun _ _ h=>.inl h,.tup rfl (fun k hk=>by simp at hk),fun b hb=>X2.old b (W.R b hb).1⟩ hfr hl
 obtain ⟨vL,htL,hhdL⟩:=HH.row Ln 1 es0 _ (hlk _ _ hL) hρL;cases hhdL;cases htL with
 | @own _ _ _ _ _ curC eC usC hoC hhC hszC hleC hcmC _ _ _ _ =>
  obtain rfl:x0=0:=k4 rfl;have hbEC:bE ≠ C0:=fun q=>by rw [q,hoC] at hoE;simp at hoE;exact hne hoE.symm
  have hClt:C0<v.heap.size:=(Array.getElem?_eq_some_iff.1 hhC).1;have hElt:bE<v.heap.size:=(Array.getElem?_eq_some_iff.1 hhE).1
  letI:PS:={ ety:=eC,z:=curC.size }
  refine eoCall (C:=fun _=>C0) (n:=n) (K:=KA A) (fT:=61) (by omega) (fun β k val v v' r h=>KA.rly r h) v (fun v₁ bT XE hb hbT=>⟨⟨curC,(XE.old C0 hClt).trans hhC,rfl⟩,fun _=>by omega⟩) ⟨_,Tryz.func61,rfl,by simp [Tryz.f61]⟩ (fun v₁ bT XE k hk β u bX h1 h2 h3=>?_) fun v₁ bT v₂ fr XE hb1 hb2 B hfr hl=>?_
  ·obtain ⟨q1,q2,q3,r,hv,hAk⟩:=hcon k hk;have hCl1:C0<v₁.heap.size:=Nat.lt_of_lt_of_le hClt XE.size;have hstart:Ext0 (Go.Vc.Ph.start v₁ C0) (Go.Vc.Ph.start v₁ C0):=⟨qC _,fun _ _=>rfl,rfl,rfl,rfl,qC _⟩;obtain ⟨fE,hsE⟩:=Q7I XE hstart hCl1 hElt hbEC _ _ _ hhE;have hvw:∀ b,RAll ⟨g.R,Q5T g.o Ln,g.ρ⟩ b→RAll ⟨g.R,Q5T g.o Ln,g.ρ⟩ b∧SameC v u b:=fun b hb=>⟨hb,Q7I XE h3 hCl1 (hRlt b hb).1 fun q=>(hRlt b hb).2 _ (q ▸ hoC) [] rfl⟩;have hwk:=coWork (s0:=Go.Vc.Ph.start v₁ C0) (A:=A) (β:=β) (k:=k) (bP:=bE) (C:=C0) (n:=n) (cap:=cc) (Wg:=v₁.heap.size) (bT:=bT) (bX:=bX) (f:=.func (.func 61) #[] #[q0,q1_,.pointer (some ⟨bE,0,none⟩)]) (xk:=.int .i64 k) (s:=s) (t:=t) (r:=r) q1 q2 q3 hv hAk hk
    (by show k<curC.size;omega) (by omega) ((Q15 hsE).trans hc0) u h3 h2 (RAll ⟨g.R,Q5T g.o Ln,g.ρ⟩) (fun b hb=>by
     have h5:=(hRlt b hb).1;have h6:=XE.size;have h7:=h3.size;rw [Q2L] at h7;omega) (P0.view hvw (nomSM s)) (P1.view hvw (nomSM t))
   simpa using hwk
  obtain ⟨o',W2,H2,hR2⟩:=Q7O W HH XE B (hlk _ _ hL) hlen hρL hali (by show cap≤curC.size;omega) (by omega) hcmC hoC { v:=.tup [],set:=[(Ln,.row 1 (Q4X n A))] } rfl rfl;exact kk (.tuple #[]) v₂ fr ⟨_,g.R,o',g.ρ,rfl,RX.refl,W2,H2,fun _ _ h=>h,fun _ _ h=>.inl h,.tup rfl (fun k hk=>by simp at hk),hR2⟩ hfr hl
end
end Go.Vc.T
namespace Go.Vc.T
open Go Go.Vc Go.Proofs
section
attribute [local simp] Qd Qt Ql QS Qv
noncomputable def Q3t (x:Int) (s t:SM):Option (List Int) :=
 ass (0≤x∧x<(s.t.sz.length:Int)) <|
 ass (0≤x∧x<(s.p.length:Int)) <|
 ass (0≤x∧x<(t.p.length:Int)) <|
 (s_i_CoequalizerOf (ix s.t.sz x) (rx s.p x) (rx t.p x)).bind fun v =>
 some v.1
theorem Q9r {x:Int} {s t:SM} {y:List Int} (h:Q3t x s t=some y):(0≤x∧x<(s.t.sz.length:Int))∧(0≤x∧x<(s.p.length:Int))∧(0≤x∧x<(t.p.length:Int))∧∃ r,s_i_CoequalizerOf (ix s.t.sz x) (rx s.p x) (rx t.p x)=some r∧y=r.1:=by
 unfold Q3t at h;replace ⟨a1,h⟩:=Q5 h;replace ⟨a2,h⟩:=Q5 h;replace ⟨a3,h⟩:=Q5 h;replace ⟨v,hv,h⟩:=bind_some h;exact ⟨a1,a2,a3,v,hv,(zE h).symm⟩
theorem rows_Ls {r:List (List Int)} {n:Nat} (h:r.length=n):Q4X n (fun k=>.lst true 1 (Is (r.getD k [])))=Ls r:=by
 subst h;apply List.ext_getElem?;intro i;simp only [Q4X,Ls,Es,List.getElem?_map,List.getElem?_range]
 by_cases hi:i<r.length
 ·simp [hi,qG]
 simp [hi]
theorem eoC [Kd Tryz.prog] [Eo Tryz.prog] {H:List (Nat × Ent)} {nn e Ln m:Nat} {n:Int} {c0 c1:AV} {s t:SM} {es0:List (List AV)} {r:List (List Int)} (hr:eoF (fun k=>Q3t k s t) n.toNat=some r) (hn:0≤n∧n≤1073741824)
  (hc:PurTo (fun id=>look id (delH Ln H)) c0 (.rptr (SM.cells true s))) (hc1:PurTo (fun id=>look id (delH Ln H)) c1 (.rptr (SM.cells true t))) (hH:∀ p∈H,p.1<nn) (he:look e H=some (.mix 1 [[.own Ln 0 m]])) (hL:look Ln H=some (.row 1 es0)) (hlen:es0.length=n.toNat) (hmm:m=n.toNat)
  (hal:∀ p∈H,Q5W p.2=false):ICon Tryz.prog 60 [iV n,.fn 61 [c0,c1,.adr e 0 0]] (fun id=>look id H) nn { v:=.tup [],set:=[(Ln,.row 1 (Ls r))] }:=by
 rename_i i1 i2;obtain ⟨W0,S0,Post,hi⟩:=i2.isM;subst hi hmm;obtain ⟨g1,g2⟩:=eoF_get [] hr;have e1:(n.toNat:Int)=n:=Int.toNat_of_nonneg hn.1;have:=eoCoeq (W0:=W0) (S0:=S0) (Post:=Post) (A:=fun k=>.lst true 1 (Is (r.getD k []))) hH he hL hlen (by omega) hal hc hc1 fun k hk=>by
  obtain ⟨q1,q2,q3,v,hv,hy⟩:=Q9r (g2 k hk);exact ⟨q1,q2,q3,v,hv,by rw [hy]⟩
 rw [rows_Ls g1,e1] at this;exact this
end
end Go.Vc.T
namespace Go.Vc.T
open Go Go.Vc Go.Proofs
noncomputable def Q3g (p_:List (List Int)):Option (List (List Int)) :=
 (QK (σ:=List (List Int) × Int) (ε:=List (List Int)) (fun s6 =>
  if s6.2<(p_.length:Int) then
   ass (0≤s6.2∧s6.2<(p_.length:Int)) <|
   ass ((s6.1++[rx p_ s6.2]).length≤1073741824) <|
   ass (B64 (s6.2+1)) <|
   some (Ctl.next (s6.1++[rx p_ s6.2],s6.2+1))
  else
   some (Ctl.ret s6.1)) fuel ([],0)).bind fun b1 =>
 some b1
end Go.Vc.T
namespace Go.Vc.T
open Go Go.Vc Go.Proofs
section
attribute [local simp] unk unA unE unT unC flat Qd Qt Ql QS Qv
def hol (p:List (List Int)) (i:Nat):List (List AV):=(zF p.length).map fun j:Nat=>if j<i then [.bot] else [lI (rx p j)]
@[simp] theorem Q9w (p:List (List Int)) (i:Nat):(hol p i).length=p.length:=by simp [hol]
theorem hol_zero (p:List (List Int)):hol p 0=Ls p:=by
 apply List.ext_getElem (by simp);intro j h1 h2;have hj:j<p.length:=by simpa using h1
 simp [hol,Ls,Es,QX _ _ hj]
theorem hol_get {p:List (List Int)} {i:Nat} (h:i<p.length):(hol p i)[i]? = some [lI (rx p i)]:=by simp [hol,h]
theorem hol_succ {p:List (List Int)} {i:Nat} (h:i<p.length):Q3H (hol p i) i 0=hol p (i+1):=by
 have hg:(hol p i).getD i []=[lI (rx p i)]:=by rw [qG,hol_get h];rfl
 unfold Q3H;rw [hg];apply List.ext_getElem?;intro j;simp only [List.getElem?_set,Q9w,List.set_cons_zero]
 by_cases e:i=j
 ·subst e;simp [hol,h]
 rw [if_neg e]
 by_cases hj:j<p.length
 ·have e2:(j<i)↔(j<i+1):=by omega
  simp [hol,hj,e2]
 simp [hol,hj]
theorem hol_end {p:List (List Int)} {i:Nat} (h:p.length≤i):hol p i=hol p p.length:=by
 unfold hol;refine List.map_congr_left fun j hj=>?_;have:j<p.length:=by simpa using hj
 rw [if_pos (by omega),if_pos this]
@[simp] abbrev Yz (a:List (List Int)) (b:List (Nat × AV)):List (Nat × AV):=(7,.own 0 0 a.length)::(8,iV (a.length:Int))::b
theorem plainI [Kd Tryz.prog] (p_:List (List Int)) (r:List (List Int)) (h:Q3g p_=some r):ICon Tryz.prog 64 [.own 0 0 p_.length] (fun id=>look id [(0,.row 1 (Ls p_))]) 1 { v:=.own 1 0 r.length,cnt:=1,new:=[(1,.row 1 (Ls r))],set:=[(0,.row 1 (hol p_ p_.length))] }:=by
 refine Q69 (H:=[(0,.row 1 (Ls p_))]) (ts:=[2]) Tryz.func64 rfl rfl rfl (by simp [Tryz.f64]) (by simp) (Q7a (by simp)) (newI (by rfl)) fun F hN hP=>?_;unfold Q3g at h;refine Q3 (QI [] mo (by rw [hN];decide) fun K hK=>?_);simp [eM,eL,eI,Q1];repeat refine sdQ ?_
 refine hK _ ?_;clear hK K;refine Q3 (QI [] mo (by rw [hN];decide) fun K hK=>?_);simp [eM,eL,eI,Q1];repeat refine sdQ ?_
 refine hK _ ?_;clear hK K;refine Q3 (Q3 (QI [] mo (by rw [hN];decide) fun K hK=>?_));simp [eM,eL,eI,Q1];repeat refine sdQ ?_
 refine hK _ ?_;clear hK K;replace ⟨e1,h,h1⟩:=bind_some h;refine Qz (fun b1:List (List Int)=>⟨[(3,.own 1 0 b1.length)],[(0,.row 1 (hol p_ p_.length)),(1,.row 1 (Ls b1))],2⟩) (fun b1=>b1=e1) ?_ ?_
 ·refine Q6 (QW h (fun s6:List (List Int) × Int=>⟨(3,.own 1 0 s6.1.length)::Yz p_ [(9,iV s6.2)],[(0,.row 1 (hol p_ s6.2.toNat)),(1,.row 1 (Ls s6.1))],2⟩) ?_ ?_)
  ·simp only [Int.toNat_zero,hol_zero];exact Q65 ⟨(3,.own 1 0 0)::Yz p_ [(9,iV 0)],[(0,.row 1 (Ls p_)),(1,.row 1 (Ls []))],2⟩ (Q65 ⟨(3,.own 1 0 0)::Yz p_ [(9,iV 0)],[(0,.row 1 (Ls p_)),(1,.mix 1 [])],2⟩ (Q1f [(0,0),(1,1)]) (Wk.nils [] (by simp) (by simp) (by simp [nlA]) (by simp [entN,nlL,nlA]) (by simp))) (Q1f [(0,0),(1,1)])
  clear h;intro k6 s6 c6 h hk6;refine Q3 (QI [] mo (by rw [hN];decide) fun K hK=>?_);simp [eM,eL,eI,Q1];repeat refine sdQ ?_
  refine hK _ ?_;clear hK K;refine Q3 (Q7 rfl (fun g=>?_) fun g=>?_)
  ·have g7:s6.2<(p_.length:Int):=gQ;clear g;replace h:=if_l g7 h;refine Q8 (tn (Q3 (Q6 (Q3 (QI [] mo (by rw [hN];decide) fun K hK=>?_)))));replace ⟨a8,h⟩:=Q5 h;have q8:(hol p_ s6.2.toNat)[s6.2.toNat]? = some [lI (rx p_ s6.2)]:=by
    have:=hol_get (p:=p_) (i:=s6.2.toNat) (by omega)
    rwa [Int.toNat_of_nonneg a8.1] at this
   simp [eM,eL,eI,Q1,q8];refine ⟨a8,by omega,?_⟩;refine hK _ ?_;clear hK K;refine tn (Qa (st':=⟨(3,.own 1 0 s6.1.length)::(5,.own 2 0 (rx p_ s6.2).length)::Yz p_ [(9,iV s6.2)],[(0,.row 1 (hol p_ (s6.2.toNat+1))),(1,.row 1 (Ls s6.1)),(2,rI (rx p_ s6.2))],3⟩) (Wk.takeA (p:=0) (j:=2) (i:=s6.2.toNat) (k:=0) (es:=hol p_ s6.2.toNat) (es2:=Is (rx p_ s6.2)) rfl rfl (by decide) (by simp;omega) (by decide) (by simp only [qG,q8];rfl) (by simp) rfl (by rw [hol_succ (by omega)];simp)) ?_);refine runQ hN fun K hK=>?_;replace ⟨a9,h⟩:=Q5 h;(try simp only [qL,qI,zD] at a9);simp [eM,eL,eI,Q1,a9];refine ⟨by omega,?_⟩;refine hK _ ?_;clear hK K;refine bn (tn (Qa (st':=⟨(3,.own 1 0 ((s6.1++[rx p_ s6.2]).length))::Yz p_ [(9,iV s6.2)],[(0,.row 1 (hol p_ (s6.2.toNat+1))),(1,.row 1 (Ls (s6.1++[rx p_ s6.2])))],2⟩) (Q1f [(0,0),(4,1)]) (QI [] mo (by rw [hN];decide) fun K hK=>?_)));replace ⟨a10,h⟩:=Q5 h;simp [eM,eL,eI,Q1,QF a10];(repeat refine sdQ ?_);refine hK _ ?_;clear hK K;cases h;refine rn (s':=(s6.1++[rx p_ s6.2],s6.2+1)) hk6 ?_;simp only [show (s6.2+1).toNat=s6.2.toNat+1 by omega];exact Wk.r1 [(0,0),(1,1)] (by simp [hP,hhOk,back,UA,U1,IA,I1,LA,L1,BA,B1,EA,E1,E2,eB,eI,eL,eM])
  have g7:¬ (s6.2<(p_.length:Int)):=gQ;clear g;replace h:=if_r g7 h;refine Qk (tx (lx (bh ?_)));cases h;refine jn (b:=s6.1) hk6 ?_;rw [hol_end (p:=p_) (i:=s6.2.toNat) (by omega)];exact Wk.r1 [(0,0),(1,1)] (by simp [hP,hhOk,back,UA,U1,IA,I1,LA,L1,BA,B1,EA,E1,E2,eB,eI,eL,eM])
 intro b1 hb1;have h:=h1;try rw [← hb1] at h
 clear h1;try dsimp only at h
 refine Q3 (QI [] mo (by rw [hN];decide) fun K hK=>?_);simp [eM,eL,eI,Q1];repeat refine sdQ ?_
 refine hK _ (tn (Qa (st':=⟨[(2,.own 1 0 b1.length)],[(0,.row 1 (hol p_ p_.length)),(1,.row 1 (Ls b1))],2⟩) (Q1f [(0,0),(1,1)]) (Qg ?_)));clear hK K;have hr:=zE h;rw [← hr];exact ⟨rfl,rfl,rfl⟩
end
end Go.Vc.T
namespace Go.Vc.T
open Go Go.Vc Go.Proofs
attribute [local simp] unk unA unE unT unC flat
noncomputable def QM (s_:SM) (t_:SM):Option Int :=
 (Q1d [s_,t_]).bind fun v1 =>
 if ¬ (v1=true) then
  some 1
 else
  (
   (Q19 s_.s t_.s).bind fun v4 =>
   if ¬ (v4=true) then
    some true
   else
    (Q19 s_.t t_.t).bind fun v6 =>
    some (!v6):Option (Bool)).bind fun b3 =>
  if b3=true then
   some 5
  else
   some 0
theorem Q3U [Kd Tryz.prog] (s_:SM) (t_:SM) (r:Int) (h:QM s_ t_=some r):Contract Tryz.prog 59 [.rptr (s_.cells true),.rptr (t_.cells true)] (iV r):=by
 refine Qm (rvs:=[.tmp 4]) (rs:=[iV r]) Tryz.func59 rfl rfl rfl rfl (by simp [Tryz.f59]) fun F hN hP=>?_;unfold QM at h;refine Q3 (runQ hN fun K hK=>?_);simp [eM,eL,eI,Q1,Qo,QC,SF.cells,SM.cells];repeat refine sdQ ?_
 refine hK _ ?_;clear hK K;refine tn (Qa (st':=⟨[(0,.rptr (SM.cells true s_)),(1,.rptr (SM.cells true t_))],[],0⟩) (Q1f []) (Q3 (Q3 (runQ hN fun K hK=>?_))));simp [eM,eL,eI,Q1,Qo,QC,SF.cells,SM.cells];repeat with_reducible refine sdQ ?_
 replace ⟨v1,hv1,h⟩:=bind_some h;refine Q0 (Q63 _ v1 hv1) (.cons (.lits (es:=_) rfl (.cons rfl (.cons (.preT (by simp [SM.cells])) .nil) (.cons rfl (.cons (.preT (by simp [SM.cells])) .nil) .nil)) rfl) .nil) ?_;simp [eM,eL,eI,Q1,Qo,QC,SF.cells,SM.cells];repeat refine sdQ ?_
 refine hK _ ?_;clear hK K;refine tn (Qa (st':=⟨[(0,.rptr (SM.cells true s_)),(1,.rptr (SM.cells true t_)),(9,.val (.bool (!v1)))],[],0⟩) (Q1f []) (Q7 rfl (fun g=>?_) fun g=>?_))
 ·have g2:¬ (v1=true):=gQ;clear g;replace h:=if_l g2 h;refine Q3 (runQ hN fun K hK=>?_);simp [eM,eL,eI,Q1,Qo,QC,SF.cells,SM.cells];repeat refine sdQ ?_
  refine hK _ (tn (Qa (st':=⟨[(4,iV 1)],[],0⟩) (Q1f []) (Qg (tr ?_))));clear hK K;have hr:=zE h;rw [← hr];refine ⟨_,(.tmp .nil),?_⟩;refine ⟨(.one rfl rfl .nil),[iV 1],[],by simp [SF.cells,SM.cells,UA,U1,IA,I1,LA,L1,BA,B1,EA,E1,E2,eB,eI,eL,eM],by simp,(UpL.refl _)⟩
 have g2:¬ (¬ (v1=true)):=gQ;clear g;replace h:=if_r g2 h;refine Q8 (tn (Q3 (Q3 ?_)));replace ⟨e3,h,h3⟩:=bind_some h;refine Qz (fun b3:Bool=>⟨[(27,.val (.bool b3))],[],0⟩) (fun b3=>b3=e3) ?_ ?_
 ·refine runQ hN fun K hK=>?_;simp [eM,eL,eI,Q1,Qo,QC,SF.cells,SM.cells];repeat with_reducible refine sdQ ?_
  replace ⟨v4,hv4,h⟩:=bind_some h;refine Q0 (Q4Q _ _ v4 hv4) (.cons (.preT (by simp [SF.cells,SM.cells])) (.cons (.preT (by simp [SF.cells,SM.cells])) .nil)) ?_;simp [eM,eL,eI,Q1,Qo,QC,SF.cells,SM.cells];repeat with_reducible refine sdQ ?_
  refine Q1a (fun g=>?_) (fun g=>?_)
  ·have g5:¬ (¬ (v4=true)):=gQ;clear g;replace h:=if_r g5 h;simp [eM,eL,eI,Q1,Qo,QC,SF.cells,SM.cells];(repeat with_reducible refine sdQ ?_);replace ⟨v6,hv6,h⟩:=bind_some h;refine Q0 (Q4Q _ _ v6 hv6) (.cons (.preT (by simp [SF.cells,SM.cells])) (.cons (.preT (by simp [SF.cells,SM.cells])) .nil)) ?_;simp [eM,eL,eI,Q1,Qo,QC,SF.cells,SM.cells];(repeat refine sdQ ?_);refine hK _ ?_;exact jn (b:=!v6) (zE h) (Q1f [])
  have g5:¬ (v4=true):=gQ;clear g;replace h:=if_l g5 h;simp [eM,eL,eI,Q1,Qo,QC,SF.cells,SM.cells];repeat refine sdQ ?_
  refine hK _ ?_;exact jn (b:=true) (zE h) (Q1f [])
 intro b3 hb3;have h:=h3;try rw [← hb3] at h
 clear h3;try dsimp only at h
 refine Q7 rfl (fun g=>?_) fun g=>?_
 ·have g7:b3=true:=gQ;clear g;replace h:=if_l g7 h;refine Q3 (runQ hN fun K hK=>?_);simp [eM,eL,eI,Q1,Qo,QC,SF.cells,SM.cells];repeat refine sdQ ?_
  refine hK _ (tn (Qa (st':=⟨[(4,iV 5)],[],0⟩) (Q1f []) (Qg (tr ?_))));clear hK K;have hr:=zE h;rw [← hr];refine ⟨_,(.tmp .nil),?_⟩;refine ⟨(.one rfl rfl .nil),[iV 5],[],by simp [SF.cells,SM.cells,UA,U1,IA,I1,LA,L1,BA,B1,EA,E1,E2,eB,eI,eL,eM],by simp,(UpL.refl _)⟩
 have g7:¬ (b3=true):=gQ;clear g;replace h:=if_r g7 h;refine Q8 (tn (Q3 (runQ hN fun K hK=>?_)));simp [eM,eL,eI,Q1,Qo,QC,SF.cells,SM.cells];repeat refine sdQ ?_
 refine hK _ (tn (Qa (st':=⟨[(4,iV 0)],[],0⟩) (Q1f []) (Qg ?_)));clear hK K;have hr:=zE h;rw [← hr];refine ⟨_,(.tmp .nil),?_⟩;refine ⟨(.one rfl rfl .nil),[iV 0],[],by simp [SF.cells,SM.cells,UA,U1,IA,I1,LA,L1,BA,B1,EA,E1,E2,eB,eI,eL,eM],by simp,(UpL.refl _)⟩
end Go.Vc.T
namespace Go.Vc.T
open Go Go.Vc Go.Proofs
attribute [local simp] unk unA unE unT unC flat
noncomputable def QL (s_:SM) (t_:SM):Option (SF × List (List Int) × Int) :=
 (QM s_ t_).bind fun v1 =>
 if ¬ (v1=0) then
  some ((⟨(⟨0,[],[],[],[]⟩:Cat),[],[]⟩:SF),[],v1)
 else
  ass (0≤(s_.p.length:Int)∧(s_.p.length:Int)≤1073741824) <|
  ass (0≤((qZ ((s_.p.length:Int).toNat) ([]:List Int)).length:Int)∧((qZ ((s_.p.length:Int).toNat) ([]:List Int)).length:Int)≤1073741824) <|
  ass ((qZ ((s_.p.length:Int).toNat) ([]:List Int)).length=(((qZ ((s_.p.length:Int).toNat) ([]:List Int)).length:Int).toNat)) <|
  (eoF (fun k=>Q3t k s_ t_) (((qZ ((s_.p.length:Int).toNat) ([]:List Int)).length:Int).toNat)).bind fun v4 =>
  ass (v4.length=(qZ ((s_.p.length:Int).toNat) ([]:List Int)).length) <|
  (QG s_.t v4).bind fun v8 =>
  (Q3g v4).bind fun v9 =>
  some (v8,v9,0)
@[simp] abbrev Y5 (a b:SM) (c:List (Nat × Ent)):List (Nat × Ent):=(0,.mix 15 [(SM.cells true a)])::(1,.mix 15 [(SM.cells true b)])::(2,.mix 7 [(YI [])])::c
@[simp] abbrev Yd (a:List (Nat × AV)):List (Nat × AV):=(2,.adr 0 0 0)::(3,.adr 1 0 0)::a
@[simp] abbrev Yp (a:SF) (b:List (Nat × Ent)):List (Nat × Ent):=(0,.mix 7 [[iV a.s.n,.own 1 0 a.s.fr.length,.own 2 0 a.s.to.length,.own 3 0 a.s.id.length,.own 4 0 a.s.cs.length,.own 5 0 a.sz.length,.own 6 0 a.ac.length]])::(1,rI a.s.fr)::(2,rI a.s.to)::(3,rI a.s.id)::(4,.row 1 (Ls a.s.cs))::(5,rI a.sz)::(6,.row 1 (Ls a.ac))::b
@[simp] abbrev YJ (a b:SM) (c:List (AV)):List (AV):=.agg (a.cells true)::.agg (b.cells true)::c
theorem Q3T [Kd Tryz.prog] [Eo Tryz.prog] (s_:SM) (t_:SM) (r:SF × List (List Int) × Int) (h:QL s_ t_=some r):Contract Tryz.prog 26 (YJ s_ t_ []) (.tup [.agg (r.1.cells true),.lst true 1 (Ls r.2.1),iV r.2.2]):=by
 refine Qm (rvs:=[.cell 4 34,.tmp 5,.tmp 6]) (rs:=[.agg (r.1.cells true),.lst true 1 (Ls r.2.1),iV r.2.2]) Tryz.func26 rfl rfl rfl rfl (by simp [Tryz.f26]) fun F hN hP=>?_;unfold QL at h;refine Q3 (runQ hN fun K hK=>?_);simp [eM,eL,eI,Q1,Qo,QC,SF.cells,SM.cells];repeat refine sdQ ?_
 refine hK _ ?_;clear hK K;refine tn (Qa (st':=⟨Yd [(4,.adr 2 0 0)],Y5 s_ t_ [],3⟩) (Q1x 3) (Q3 (Q3 (runQ hN fun K hK=>?_))));simp [eM,eL,eI,Q1,Qo,QC,SF.cells,SM.cells];repeat with_reducible refine sdQ ?_
 replace ⟨v1,hv1,h⟩:=bind_some h;refine Q0 (Q3U _ _ v1 hv1) (.cons (.field rfl (by simp [SM.cells]) (.cons .val (.cons .lst (.cons .lst (.cons .lst (.cons .lst (.cons .lst (.cons .lst (.cons .val (.cons .lst (.cons .lst (.cons .lst (.cons .lst (.cons .lst (.cons .lst (.cons .lst .nil)))))))))))))))) (.cons (.field rfl (by simp [SM.cells]) (.cons .val (.cons .lst (.cons .lst (.cons .lst (.cons .lst (.cons .lst (.cons .lst (.cons .val (.cons .lst (.cons .lst (.cons .lst (.cons .lst (.cons .lst (.cons .lst (.cons .lst .nil)))))))))))))))) .nil)) ?_;simp [eM,eL,eI,Q1,Qo,QC,SF.cells,SM.cells];repeat refine sdQ ?_
 refine hK _ ?_;clear hK K;refine tn (Qa (st':=⟨Yd [(4,.adr 2 0 0),(7,iV v1)],Y5 s_ t_ [],3⟩) (Q1x 3) (Q3 (runQ hN fun K hK=>?_)));simp [eM,eL,eI,Q1,Qo,QC,SF.cells,SM.cells];repeat refine sdQ ?_
 refine hK _ ?_;clear hK K;refine tn (Q7 rfl (fun g=>?_) fun g=>?_)
 ·have g2:¬ (v1=0):=gQ;clear g;replace h:=if_l g2 h;refine Q3 (runQ hN fun K hK=>?_);simp [eM,eL,eI,Q1,Qo,QC,SF.cells,SM.cells];repeat refine sdQ ?_
  refine hK _ (tn (Qa (st':=⟨[(4,.adr 0 0 0),(5,nS),(6,iV v1)],Yi [],1⟩) (Q1f [(2,0)]) (Qg (tr ?_))));clear hK K;have hr:=zE h;rw [← hr];refine ⟨_,(.cell Qa5 rfl rfl rfl (by simp) (by simp) (.tmp (.tmp .nil))),?_⟩;refine ⟨(.agg rfl (.one rfl rfl (.one rfl rfl .nil))),[iV 0,nS,nS,nS,nS,nS,nS,nS,iV v1],[],by simp [SF.cells,SM.cells,UA,U1,IA,I1,LA,L1,BA,B1,EA,E1,E2,eB,eI,eL,eM],by simp,(.cons .refl (.cons .nil (.cons .nil (.cons .nil (.cons .nil (.cons .nil (.cons .nil (.cons .nil (.cons .refl .nil)))))))))⟩
 have g2:¬ (¬ (v1=0)):=gQ;clear g;replace h:=if_r g2 h;refine Q8 (tn (Q3 (QI [17] mo (by rw [hN];decide) fun K hK=>?_)));replace ⟨a3,h⟩:=Q5 h;simp [eM,eL,eI,Q1,Qo,QC,SF.cells,SM.cells];repeat refine sdQ ?_
 refine hK _ ?_;clear hK K;refine tn (Qa (st':=⟨Yd [(4,.adr 2 0 0),(8,.adr 3 0 0)],Y5 s_ t_ [(3,.mix 1 [[.own 4 0 ((qZ ((s_.p.length:Int).toNat) ([]:List Int)).length)]]),(4,.row 1 (Ls (qZ ((s_.p.length:Int).toNat) ([]:List Int))))],5⟩) (Q1f [(0,0),(1,1),(2,2),(4,3),(3,4)]) (Q3 (Q5L [] mo (by rw [hN];decide) fun K hK=>?_)));simp [eM,eL,eI,Q1,Qo,QC,SF.cells,SM.cells];repeat with_reducible refine sdQ ?_
 replace ⟨a5,h⟩:=Q5 h;replace ⟨a6,h⟩:=Q5 h;replace ⟨v4,hv4,h⟩:=bind_some h;replace ⟨a7,h⟩:=Q5 h;refine Q2Q (fz:=[]) (eoC (e:=3) (Ln:=4) (r:=v4) (by simpa using hv4) (by simpa using a5) (.field rfl (by simp [SF.cells,SM.cells]) (.cons .val (.cons .lst (.cons .lst (.cons .lst (.cons .lst (.cons .lst (.cons .lst (.cons .val (.cons .lst (.cons .lst (.cons .lst (.cons .lst (.cons .lst (.cons .lst (.cons .lst .nil)))))))))))))))) (.field rfl (by simp [SF.cells,SM.cells]) (.cons .val (.cons .lst (.cons .lst (.cons .lst (.cons .lst (.cons .lst (.cons .lst (.cons .val (.cons .lst (.cons .lst (.cons .lst (.cons .lst (.cons .lst (.cons .lst (.cons .lst .nil)))))))))))))))) (by simp) rfl rfl (by simpa using a6) (by simpa using a6) (by simp [Q5W])) ?_;simp [eM,eL,eI,Q1,Qo,QC,SF.cells,SM.cells];repeat refine sdQ ?_
 refine hK _ ?_;clear hK K;refine tn (Qa (st':=⟨[(2,.adr 0 0 0),(4,.adr 1 0 0),(8,.adr 2 0 0)],[(0,.mix 15 [(SM.cells true s_)]),(1,.mix 7 [(YI [])]),(2,.mix 1 [[.own 3 0 v4.length]]),(3,.row 1 (Ls v4))],4⟩) (Wk.r1 [(0,0),(2,1),(3,2),(4,3)] (by simp [hP,hhOk,back,SF.cells,SM.cells,UA,U1,IA,I1,LA,L1,BA,B1,EA,E1,E2,eB,eI,eL,eM,a7])) (Q3 (w_runXR false [] [63] mo (by rw [hN];decide) fun K hK=>?_)));simp [eM,eL,eI,Q1,Qo,QC,SF.cells,SM.cells];repeat with_reducible refine sdQ ?_
 replace ⟨v8,hv8,h⟩:=bind_some h;refine Q5d (fz:=[]) (Q36 _ _ v8 hv8) (.cons (.field rfl (by simp [SF.cells,SM.cells]) (.cons .val (.cons .lst (.cons .lst (.cons .lst (.cons .lst (.cons .lst (.cons .lst .nil)))))))) (.cons .w .nil)) ?_;simp [eM,eL,eI,Q1,Qo,QC,SF.cells,SM.cells];repeat with_reducible refine sdQ ?_
 replace ⟨v9,hv9,h⟩:=bind_some h;refine Q2Q (fz:=[]) (ICon.frameL (e:={ v:=.own 11 0 v9.length,cnt:=1,new:=[(11,.row 1 (Ls v9))],set:=[(3,.row 1 (hol v4 v4.length))] }) (plainI _ _ hv9) [(0,3)] (by rfl) (by simp) (by simp [rl,rlL,rlLL,rlE,rlE',back,mxt,look,trm,zF,zM,Q14]) (by simp [rl,rlL,rlLL,rlE,rlE',back,mxt,look,trm,zF,zM,Q14]) (by simp [Q6I]) (by rfl) (by simp [rl,rlL,rlLL,rlE,rlE',back,mxt,look,trm,zF,zM,Q14]) (by simp [rl,rlL,rlLL,rlE,rlE',back,mxt,look,trm,zF,zM,Q14]) (by simp [rl,rlL,rlLL,rlE,rlE',back,mxt,look,trm,zF,zM,Q14]) (by simp [rl,rlL,rlLL,rlE,rlE',back,mxt,look,trm,zF,zM,Q14]) (by simp [Q6I]) (by rfl) (Q7a (by simp))) ?_;simp [eM,eL,eI,Q1,Qo,QC,SF.cells,SM.cells];repeat refine sdQ ?_
 refine hK _ (tn (Qa (st':=⟨[(4,.adr 0 0 0),(5,.own 7 0 v9.length),(6,iV 0)],Yp v8 [(7,.row 1 (Ls v9))],8⟩) (Wk.r1 [(1,0),(5,1),(6,2),(7,3),(8,4),(9,5),(10,6),(11,7)] (by simp [hP,hhOk,back,SF.cells,SM.cells,UA,U1,IA,I1,LA,L1,BA,B1,EA,E1,E2,eB,eI,eL,eM,a7])) (Qg ?_)));clear hK K;have hr:=zE h;rw [← hr];refine ⟨_,(.cell Qa5 rfl rfl rfl (by simp) (by simp) (.tmp (.tmp .nil))),?_⟩;refine ⟨(.agg rfl (.one rfl rfl (.one rfl rfl .nil))),[iV v8.s.n,lI v8.s.fr,lI v8.s.to,lI v8.s.id,.lst true 1 (Ls v8.s.cs),lI v8.sz,.lst true 1 (Ls v8.ac),.lst true 1 (Ls v9),iV 0],[1,2,3,4,5,6,7],by simp [SF.cells,SM.cells,UA,U1,IA,I1,LA,L1,BA,B1,EA,E1,E2,eB,eI,eL,eM],by simp,(UpL.refl _)⟩
end Go.Vc.T
namespace Go.Vc.T
open Go Go.Vc Go.Proofs
attribute [local simp] unk unA unE unT unC flat
noncomputable def Q1R (s_:SM) (t_:SM) (sources_:Bool) (targets_:Bool):Option Int :=
 (
  (Q11 s_).bind fun v2 =>
  if ¬ (v2=true) then
   some true
  else
   (Q11 t_).bind fun v4 =>
   some (!v4):Option (Bool)).bind fun b1 =>
 if b1=true then
  some 1
 else
  (
   if sources_=true then
    (Q1C s_.s t_.s).bind fun v8 =>
    if ¬ (v8=true) then
     some true
    else
     if targets_=true then
      (Q1C s_.t t_.t).bind fun v11 =>
      some (!v11)
     else
      some false
   else
    if targets_=true then
     (Q1C s_.t t_.t).bind fun v13 =>
     some (!v13)
    else
     some false:Option (Bool)).bind fun b6 =>
  if b6=true then
   some 5
  else
   some 0
theorem Q8C [Kd Tryz.prog] (s_:SM) (t_:SM) (sources_:Bool) (targets_:Bool) (r:Int) (h:Q1R s_ t_ sources_ targets_=some r):Contract Tryz.prog 56 (YJ s_ t_ [.val (.bool sources_),.val (.bool targets_)]) (iV r):=by
 refine Qm (rvs:=[.tmp 8]) (rs:=[iV r]) Tryz.func56 rfl rfl rfl rfl (by simp [Tryz.f56]) fun F hN hP=>?_;unfold Q1R at h;refine Q3 (runQ hN fun K hK=>?_);simp [eM,eL,eI,Q1,Qo,QC,SF.cells,SM.cells];repeat refine sdQ ?_
 refine hK _ (tn (Qa (st':=⟨[(2,.val (.bool sources_)),(3,.val (.bool targets_)),(4,.adr 0 0 0),(5,.adr 1 0 0)],[(0,.mix 15 [(SM.cells true s_)]),(1,.mix 15 [(SM.cells true t_)])],2⟩) (Q1f [(0,0),(1,1)]) (Q3 (Q6 (Q3 ?_)))));clear hK K;replace ⟨e1,h,h1⟩:=bind_some h;refine Qz (fun b1:Bool=>⟨[(2,.val (.bool sources_)),(3,.val (.bool targets_)),(4,.adr 0 0 0),(5,.adr 1 0 0),(9,.val (.bool b1))],[(0,.mix 15 [(SM.cells true s_)]),(1,.mix 15 [(SM.cells true t_)])],2⟩) (fun b1=>b1=e1) ?_ ?_
 ·refine runQ hN fun K hK=>?_;simp [eM,eL,eI,Q1,Qo,QC,SF.cells,SM.cells];repeat with_reducible refine sdQ ?_
  replace ⟨v2,hv2,h⟩:=bind_some h;refine Q0 (Q4R _ v2 hv2) (.cons (.aggL (.cons .val (.cons .lst (.cons .lst (.cons .lst (.cons .lst (.cons .lst (.cons .lst (.cons .val (.cons .lst (.cons .lst (.cons .lst (.cons .lst (.cons .lst (.cons .lst (.cons .lst .nil)))))))))))))))) .nil) ?_;simp [eM,eL,eI,Q1,Qo,QC,SF.cells,SM.cells];repeat with_reducible refine sdQ ?_
  refine Q1a (fun g=>?_) (fun g=>?_)
  ·have g3:¬ (¬ (v2=true)):=gQ;clear g;replace h:=if_r g3 h;simp [eM,eL,eI,Q1,Qo,QC,SF.cells,SM.cells];(repeat with_reducible refine sdQ ?_);replace ⟨v4,hv4,h⟩:=bind_some h;refine Q0 (Q4R _ v4 hv4) (.cons (.aggL (.cons .val (.cons .lst (.cons .lst (.cons .lst (.cons .lst (.cons .lst (.cons .lst (.cons .val (.cons .lst (.cons .lst (.cons .lst (.cons .lst (.cons .lst (.cons .lst (.cons .lst .nil)))))))))))))))) .nil) ?_;simp [eM,eL,eI,Q1,Qo,QC,SF.cells,SM.cells];(repeat refine sdQ ?_);refine hK _ ?_;exact jn (b:=!v4) (zE h) (Q1f [(0,0),(1,1)])
  have g3:¬ (v2=true):=gQ;clear g;replace h:=if_l g3 h;simp [eM,eL,eI,Q1,Qo,QC,SF.cells,SM.cells];repeat refine sdQ ?_
  refine hK _ ?_;exact jn (b:=true) (zE h) (Q1f [(0,0),(1,1)])
 intro b1 hb1;have h:=h1;try rw [← hb1] at h
 clear h1;try dsimp only at h
 refine Q7 rfl (fun g=>?_) fun g=>?_
 ·have g5:b1=true:=gQ;clear g;replace h:=if_l g5 h;refine Q3 (runQ hN fun K hK=>?_);simp [eM,eL,eI,Q1,Qo,QC,SF.cells,SM.cells];repeat refine sdQ ?_
  refine hK _ (tn (Qa (st':=⟨[(8,iV 1)],[],0⟩) (Q1f []) (Qg (br (tr ?_)))));clear hK K;have hr:=zE h;rw [← hr];refine ⟨_,(.tmp .nil),?_⟩;refine ⟨(.one rfl rfl .nil),[iV 1],[],by simp [SF.cells,SM.cells,UA,U1,IA,I1,LA,L1,BA,B1,EA,E1,E2,eB,eI,eL,eM],by simp,(UpL.refl _)⟩
 have g5:¬ (b1=true):=gQ;clear g;replace h:=if_r g5 h;refine Q3 ?_;replace ⟨e6,h,h6⟩:=bind_some h;refine Qz (fun b6:Bool=>⟨[(18,.val (.bool b6))],[],0⟩) (fun b6=>b6=e6) ?_ ?_
 ·refine runQ hN fun K hK=>?_;simp [eM,eL,eI,Q1,Qo,QC,SF.cells,SM.cells];repeat with_reducible refine sdQ ?_
  refine Q1a (fun g=>?_) (fun g=>?_)
  ·have g7:sources_=true:=gQ;clear g;replace h:=if_l g7 h;simp [eM,eL,eI,Q1,Qo,QC,SF.cells,SM.cells];(repeat with_reducible refine sdQ ?_);replace ⟨v8,hv8,h⟩:=bind_some h;refine Q0 (Q3W _ _ v8 hv8) (.cons (.aggL (.cons .val (.cons .lst (.cons .lst (.cons .lst (.cons .lst (.cons .lst (.cons .lst .nil)))))))) (.cons (.aggL (.cons .val (.cons .lst (.cons .lst (.cons .lst (.cons .lst (.cons .lst (.cons .lst .nil)))))))) .nil)) ?_;simp [eM,eL,eI,Q1,Qo,QC,SF.cells,SM.cells];(repeat with_reducible refine sdQ ?_);refine Q1a (fun g=>?_) (fun g=>?_)
   ·have g9:¬ (¬ (v8=true)):=gQ;clear g;replace h:=if_r g9 h;simp [eM,eL,eI,Q1,Qo,QC,SF.cells,SM.cells];(repeat with_reducible refine sdQ ?_);refine Q1a (fun g=>?_) (fun g=>?_)
    ·have g10:targets_=true:=gQ;clear g;replace h:=if_l g10 h;simp [eM,eL,eI,Q1,Qo,QC,SF.cells,SM.cells];(repeat with_reducible refine sdQ ?_);replace ⟨v11,hv11,h⟩:=bind_some h;refine Q0 (Q3W _ _ v11 hv11) (.cons (.aggL (.cons .val (.cons .lst (.cons .lst (.cons .lst (.cons .lst (.cons .lst (.cons .lst .nil)))))))) (.cons (.aggL (.cons .val (.cons .lst (.cons .lst (.cons .lst (.cons .lst (.cons .lst (.cons .lst .nil)))))))) .nil)) ?_;simp [eM,eL,eI,Q1,Qo,QC,SF.cells,SM.cells];(repeat refine sdQ ?_);refine hK _ ?_;exact jn (b:=!v11) (zE h) (Q1f [])
    have g10:¬ (targets_=true):=gQ;clear g;replace h:=if_r g10 h;simp [eM,eL,eI,Q1,Qo,QC,SF.cells,SM.cells];(repeat refine sdQ ?_);refine hK _ ?_;exact jn (b:=false) (zE h) (Q1f [])
   have g9:¬ (v8=true):=gQ;clear g;replace h:=if_l g9 h;simp [eM,eL,eI,Q1,Qo,QC,SF.cells,SM.cells];(repeat refine sdQ ?_);refine hK _ ?_;exact jn (b:=true) (zE h) (Q1f [])
  have g7:¬ (sources_=true):=gQ;clear g;replace h:=if_r g7 h;simp [eM,eL,eI,Q1,Qo,QC,SF.cells,SM.cells];repeat with_reducible refine sdQ ?_
  refine Q1a (fun g=>?_) (fun g=>?_)
  ·have g12:targets_=true:=gQ;clear g;replace h:=if_l g12 h;simp [eM,eL,eI,Q1,Qo,QC,SF.cells,SM.cells];(repeat with_reducible refine sdQ ?_);replace ⟨v13,hv13,h⟩:=bind_some h;refine Q0 (Q3W _ _ v13 hv13) (.cons (.aggL (.cons .val (.cons .lst (.cons .lst (.cons .lst (.cons .lst (.cons .lst (.cons .lst .nil)))))))) (.cons (.aggL (.cons .val (.cons .lst (.cons .lst (.cons .lst (.cons .lst (.cons .lst (.cons .lst .nil)))))))) .nil)) ?_;simp [eM,eL,eI,Q1,Qo,QC,SF.cells,SM.cells];(repeat refine sdQ ?_);refine hK _ ?_;exact jn (b:=!v13) (zE h) (Q1f [])
  have g12:¬ (targets_=true):=gQ;clear g;replace h:=if_r g12 h;simp [eM,eL,eI,Q1,Qo,QC,SF.cells,SM.cells];repeat refine sdQ ?_
  refine hK _ ?_;exact jn (b:=false) (zE h) (Q1f [])
 intro b6 hb6;have h:=h6;try rw [← hb6] at h
 clear h6;try dsimp only at h
 refine Q7 rfl (fun g=>?_) fun g=>?_
 ·have g14:b6=true:=gQ;clear g;replace h:=if_l g14 h;refine Q3 (runQ hN fun K hK=>?_);simp [eM,eL,eI,Q1,Qo,QC,SF.cells,SM.cells];repeat refine sdQ ?_
  refine hK _ (tn (Qa (st':=⟨[(8,iV 5)],[],0⟩) (Q1f []) (Qg (br (tr ?_)))));clear hK K;have hr:=zE h;rw [← hr];refine ⟨_,(.tmp .nil),?_⟩;refine ⟨(.one rfl rfl .nil),[iV 5],[],by simp [SF.cells,SM.cells,UA,U1,IA,I1,LA,L1,BA,B1,EA,E1,E2,eB,eI,eL,eM],by simp,(UpL.refl _)⟩
 have g14:¬ (b6=true):=gQ;clear g;replace h:=if_r g14 h;refine Q8 (bn (tn (Q3 (runQ hN fun K hK=>?_))));simp [eM,eL,eI,Q1,Qo,QC,SF.cells,SM.cells];repeat refine sdQ ?_
 refine hK _ (tn (Qa (st':=⟨[(8,iV 0)],[],0⟩) (Q1f []) (Qg ?_)));clear hK K;have hr:=zE h;rw [← hr];refine ⟨_,(.tmp .nil),?_⟩;refine ⟨(.one rfl rfl .nil),[iV 0],[],by simp [SF.cells,SM.cells,UA,U1,IA,I1,LA,L1,BA,B1,EA,E1,E2,eB,eI,eL,eM],by simp,(UpL.refl _)⟩
end Go.Vc.T
namespace Go.Vc.T
open Go Go.Vc Go.Proofs
attribute [local simp] unk unA unE unT unC flat
noncomputable def QN (s_:SM) (t_:SM):Option (SF × List (List Int) × Int) :=
 (Q1R s_ t_ true true).bind fun v1 =>
 if ¬ (v1=0) then
  some ((⟨(⟨0,[],[],[],[]⟩:Cat),[],[]⟩:SF),[],v1)
 else
  (QK (σ:=List (List Int) × Int) (ε:=List (List Int)) (fun s27 =>
   if s27.2<(s_.p.length:Int) then
    (QK (σ:=List (List Int) × Int) (ε:=List (List Int)) (fun s38 =>
     ass (0≤s27.2∧s27.2<(s_.p.length:Int)) <|
     if s38.2<((rx s_.p s27.2).length:Int) then
      ass (0≤s27.2∧s27.2<(s_.p.length:Int)) <|
      ass (0≤s38.2∧s38.2<((rx s_.p s27.2).length:Int)) <|
      ass (0≤s27.2∧s27.2<(t_.p.length:Int)) <|
      ass (0≤s38.2∧s38.2<((rx t_.p s27.2).length:Int)) <|
      ass ((s38.1++[[ix (rx s_.p s27.2) s38.2,ix (rx t_.p s27.2) s38.2]]).length≤1073741824) <|
      ass (B64 (s38.2+1)) <|
      some (Ctl.next (s38.1++[[ix (rx s_.p s27.2) s38.2,ix (rx t_.p s27.2) s38.2]],s38.2+1))
     else
      some (Ctl.ret s38.1)) fuel ([],0)).bind fun b29 =>
    ass (0≤s27.2∧s27.2<(s_.t.sz.length:Int)) <|
    (Q2l (ix s_.t.sz s27.2) b29).bind fun v48 =>
    ass ((s27.1++[v48]).length≤1073741824) <|
    ass (B64 (s27.2+1)) <|
    some (Ctl.next (s27.1++[v48],s27.2+1))
   else
    some (Ctl.ret s27.1)) fuel ([],0)).bind fun b3 =>
  (Q1i s_.t b3).bind fun v51 =>
  some (v51,b3,0)
@[simp] abbrev Yr (a:List (List Int) × Int) (b:List (Nat × AV)):List (Nat × AV):=(4,.adr 2 0 0)::(8,.own 3 0 a.1.length)::(9,iV a.2)::b
theorem Q3V [Kd Tryz.prog] (s_:SM) (t_:SM) (r:SF × List (List Int) × Int) (h:QN s_ t_=some r):Contract Tryz.prog 24 (YJ s_ t_ []) (.tup [.agg (r.1.cells true),.lst true 1 (Ls r.2.1),iV r.2.2]):=by
 refine Qm (rvs:=[.cell 4 34,.tmp 5,.tmp 6]) (rs:=[.agg (r.1.cells true),.lst true 1 (Ls r.2.1),iV r.2.2]) Tryz.func24 rfl rfl rfl rfl (by simp [Tryz.f24]) fun F hN hP=>?_;unfold QN at h;refine Q3 (runQ hN fun K hK=>?_);simp [eM,eL,eI,Q1,Qo,QC,SF.cells,SM.cells];repeat refine sdQ ?_
 refine hK _ ?_;clear hK K;refine tn (Qa (st':=⟨Yd [(4,.adr 2 0 0)],Y5 s_ t_ [],3⟩) (Q1x 3) (Q3 (runQ hN fun K hK=>?_)));simp [eM,eL,eI,Q1,Qo,QC,SF.cells,SM.cells];repeat with_reducible refine sdQ ?_
 replace ⟨v1,hv1,h⟩:=bind_some h;refine Q0 (Q8C _ _ _ _ v1 hv1) (.cons (.aggL (.cons .val (.cons .lst (.cons .lst (.cons .lst (.cons .lst (.cons .lst (.cons .lst (.cons .val (.cons .lst (.cons .lst (.cons .lst (.cons .lst (.cons .lst (.cons .lst (.cons .lst .nil)))))))))))))))) (.cons (.aggL (.cons .val (.cons .lst (.cons .lst (.cons .lst (.cons .lst (.cons .lst (.cons .lst (.cons .val (.cons .lst (.cons .lst (.cons .lst (.cons .lst (.cons .lst (.cons .lst (.cons .lst .nil)))))))))))))))) (.cons .val (.cons .val .nil)))) ?_;simp [eM,eL,eI,Q1,Qo,QC,SF.cells,SM.cells];repeat refine sdQ ?_
 refine hK _ ?_;clear hK K;refine tn (Qa (st':=⟨Yd [(4,.adr 2 0 0),(7,iV v1)],Y5 s_ t_ [],3⟩) (Q1x 3) (Q3 (Q3 (runQ hN fun K hK=>?_))));simp [eM,eL,eI,Q1,Qo,QC,SF.cells,SM.cells];repeat refine sdQ ?_
 refine hK _ ?_;clear hK K;refine tn (Q7 rfl (fun g=>?_) fun g=>?_)
 ·have g2:¬ (v1=0):=gQ;clear g;replace h:=if_l g2 h;refine Q3 (runQ hN fun K hK=>?_);simp [eM,eL,eI,Q1,Qo,QC,SF.cells,SM.cells];repeat refine sdQ ?_
  refine hK _ (tn (Qa (st':=⟨[(4,.adr 0 0 0),(5,nS),(6,iV v1)],Yi [],1⟩) (Q1f [(2,0)]) (Qg (tr ?_))));clear hK K;have hr:=zE h;rw [← hr];refine ⟨_,(.cell Qa5 rfl rfl rfl (by simp) (by simp) (.tmp (.tmp .nil))),?_⟩;refine ⟨(.agg rfl (.one rfl rfl (.one rfl rfl .nil))),[iV 0,nS,nS,nS,nS,nS,nS,nS,iV v1],[],by simp [SF.cells,SM.cells,UA,U1,IA,I1,LA,L1,BA,B1,EA,E1,E2,eB,eI,eL,eM],by simp,(.cons .refl (.cons .nil (.cons .nil (.cons .nil (.cons .nil (.cons .nil (.cons .nil (.cons .nil (.cons .refl .nil)))))))))⟩
 have g2:¬ (¬ (v1=0)):=gQ;clear g;replace h:=if_r g2 h;refine Q8 (tn (Q3 (runQ hN fun K hK=>?_)));simp [eM,eL,eI,Q1,Qo,QC,SF.cells,SM.cells];repeat refine sdQ ?_
 refine hK _ ?_;clear hK K;refine tn (Qa (st':=⟨Yd [(4,.adr 2 0 0),(8,.own 3 0 0)],Y5 s_ t_ [(3,.mix 1 [])],4⟩) (Q1x 4) (Q3 (Q3 (runQ hN fun K hK=>?_))));simp [eM,eL,eI,Q1,Qo,QC,SF.cells,SM.cells];repeat refine sdQ ?_
 refine hK _ (tn (Qa (st':=⟨Yd [(4,.adr 2 0 0),(8,.own 3 0 0),(9,iV 0)],Y5 s_ t_ [(3,.mix 1 [])],4⟩) (Q1x 4) ?_));clear hK K;replace ⟨e3,h,h3⟩:=bind_some h;refine Qz (fun b3:List (List Int)=>⟨[(2,.adr 0 0 0),(4,.adr 1 0 0),(8,.own 2 0 b3.length)],[(0,.mix 15 [(SM.cells true s_)]),(1,.mix 7 [(YI [])]),(2,.row 1 (Ls b3))],3⟩) (fun b3=>b3=e3) ?_ ?_
 ·refine Q6 (QW h (fun s27:List (List Int) × Int=>⟨Yd (Yr s27 []),Y5 s_ t_ [(3,.row 1 (Ls s27.1))],4⟩) (Q65 ⟨Yd [(4,.adr 2 0 0),(8,.own 3 0 0),(9,iV 0)],Y5 s_ t_ [(3,.row 1 (Ls []))],4⟩ (Wk.nils [] (by simp) (by simp) (by simp [nlA]) (by simp [entN,nlL,nlA,SF.cells,SM.cells,UA,U1,IA,I1,LA,L1,BA,B1,EA,E1,E2,eB,eI,eL,eM]) (by simp)) (Q1x 4)) ?_);clear h;intro k27 s27 c27 h hk27;refine Q3 (Q3 (runQ hN fun K hK=>?_));simp [eM,eL,eI,Q1,Qo,QC,SF.cells,SM.cells];repeat refine sdQ ?_
  refine hK _ ?_;clear hK K;refine tn (Q7 rfl (fun g=>?_) fun g=>?_)
  ·have g28:s27.2<(s_.p.length:Int):=gQ;clear g;replace h:=if_l g28 h;refine Q8 (tn (Q3 (Q6 (Q3 (runQ hN fun K hK=>?_)))));simp [eM,eL,eI,Q1,Qo,QC,SF.cells,SM.cells];(repeat refine sdQ ?_);refine hK _ ?_;clear hK K;refine tn (Qa (st':=⟨Yd (Yr s27 [(10,.own 4 0 0)]),Y5 s_ t_ [(3,.row 1 (Ls s27.1)),(4,.mix 1 [])],5⟩) (Q1x 5) (Q3 (Q3 (runQ hN fun K hK=>?_))));simp [eM,eL,eI,Q1,Qo,QC,SF.cells,SM.cells];(repeat refine sdQ ?_);refine hK _ (tn (Qa (st':=⟨Yd (Yr s27 [(10,.own 4 0 0),(11,iV 0)]),Y5 s_ t_ [(3,.row 1 (Ls s27.1)),(4,.mix 1 [])],5⟩) (Q1x 5) ?_));clear hK K;replace ⟨e29,h,h29⟩:=bind_some h;refine Qz (fun b29:List (List Int)=>⟨Yd (Yr s27 [(10,.own 4 0 b29.length)]),Y5 s_ t_ [(3,.row 1 (Ls s27.1)),(4,.row 1 (Ls b29))],5⟩) (fun b29=>b29=e29) ?_ ?_
   ·refine Q6 (QW h (fun s38:List (List Int) × Int=>⟨Yd (Yr s27 [(10,.own 4 0 s38.1.length),(11,iV s38.2)]),Y5 s_ t_ [(3,.row 1 (Ls s27.1)),(4,.row 1 (Ls s38.1))],5⟩) (Q65 ⟨Yd (Yr s27 [(10,.own 4 0 0),(11,iV 0)]),Y5 s_ t_ [(3,.row 1 (Ls s27.1)),(4,.row 1 (Ls []))],5⟩ (Wk.nils [] (by simp) (by simp) (by simp [nlA]) (by simp [entN,nlL,nlA,SF.cells,SM.cells,UA,U1,IA,I1,LA,L1,BA,B1,EA,E1,E2,eB,eI,eL,eM]) (by simp)) (Q1x 5)) ?_);clear h;intro k38 s38 c38 h hk38;refine Q3 (Q3 (runQ hN fun K hK=>?_));replace ⟨a39,h⟩:=Q5 h;simp [eM,eL,eI,Q1,Qo,QC,SF.cells,SM.cells,at_L a39];(repeat refine sdQ ?_);refine hK _ ?_;clear hK K;refine tn (Q7 rfl (fun g=>?_) fun g=>?_)
    ·have g40:s38.2<((rx s_.p s27.2).length:Int):=gQ;clear g;replace h:=if_l g40 h;refine Q8 (tn (Q3 (Q6 (runQ hN fun K hK=>?_))));replace ⟨a41,h⟩:=Q5 h;replace ⟨a42,h⟩:=Q5 h;replace ⟨a43,h⟩:=Q5 h;replace ⟨a44,h⟩:=Q5 h;replace ⟨a45,h⟩:=Q5 h;(try simp only [qL,qI,zD] at a45);simp [eM,eL,eI,Q1,Qo,QC,SF.cells,SM.cells,at_L a41,at_I a42,at_L a43,at_I a44,a45];(repeat refine sdQ ?_);refine hK _ ?_;clear hK K;refine bn (tn (Qa (st':=⟨Yd (Yr s27 [(10,.own 4 0 ((s38.1++[[ix (rx s_.p s27.2) s38.2,ix (rx t_.p s27.2) s38.2]]).length)),(11,iV s38.2)]),Y5 s_ t_ [(3,.row 1 (Ls s27.1)),(4,.row 1 (Ls (s38.1++[[ix (rx s_.p s27.2) s38.2,ix (rx t_.p s27.2) s38.2]])))],5⟩) (Q1f [(0,0),(1,1),(2,2),(3,3),(7,4)]) (runQ hN fun K hK=>?_)));replace ⟨a46,h⟩:=Q5 h;simp [eM,eL,eI,Q1,Qo,QC,SF.cells,SM.cells,QF a46];(repeat refine sdQ ?_);refine hK _ ?_;clear hK K;cases h;exact rn (s':=(s38.1++[[ix (rx s_.p s27.2) s38.2,ix (rx t_.p s27.2) s38.2]],s38.2+1)) hk38 (Q1x 5)
    have g40:¬ (s38.2<((rx s_.p s27.2).length:Int)):=gQ;clear g;replace h:=if_r g40 h;refine Qk (tx (lx (bh ?_)));cases h;exact jn (b:=s38.1) hk38 (Q1x 5)
   intro b29 hb29;have h:=h29;(try rw [← hb29] at h);clear h29;(try dsimp only at h);refine runQ hN fun K hK=>?_;replace ⟨a47,h⟩:=Q5 h;simp [eM,eL,eI,Q1,Qo,QC,SF.cells,SM.cells,at_I a47];(repeat with_reducible refine sdQ ?_);replace ⟨v48,hv48,h⟩:=bind_some h;refine Q0 (Q8B _ _ v48 hv48) (.cons .val (.cons .w .nil)) ?_;replace ⟨a49,h⟩:=Q5 h;(try simp only [qL,qI,zD] at a49);simp [eM,eL,eI,Q1,Qo,QC,SF.cells,SM.cells,at_I a47,a49];(repeat refine sdQ ?_);refine hK _ ?_;clear hK K;refine bn (tn (Qa (st':=⟨Yd [(4,.adr 2 0 0),(8,.own 3 0 ((s27.1++[v48]).length)),(9,iV s27.2)],Y5 s_ t_ [(3,.row 1 (Ls (s27.1++[v48])))],4⟩) (Q1f [(0,0),(1,1),(2,2),(7,3)]) (runQ hN fun K hK=>?_)));replace ⟨a50,h⟩:=Q5 h;simp [eM,eL,eI,Q1,Qo,QC,SF.cells,SM.cells,QF a50];(repeat refine sdQ ?_);refine hK _ ?_;clear hK K;cases h;exact rn (s':=(s27.1++[v48],s27.2+1)) hk27 (Q1x 4)
  have g28:¬ (s27.2<(s_.p.length:Int)):=gQ;clear g;replace h:=if_r g28 h;refine Qk (tx (lx (bh ?_)));cases h;exact jn (b:=s27.1) hk27 (Q1f [(0,0),(2,1),(3,2)])
 intro b3 hb3;have h:=h3;try rw [← hb3] at h
 clear h3;try dsimp only at h
 refine Q3 (runQ hN fun K hK=>?_);simp [eM,eL,eI,Q1,Qo,QC,SF.cells,SM.cells];repeat with_reducible refine sdQ ?_
 replace ⟨v51,hv51,h⟩:=bind_some h;refine Q0 (Q5M _ _ v51 hv51) (.cons (.aggL (.cons .val (.cons .lst (.cons .lst (.cons .lst (.cons .lst (.cons .lst (.cons .lst .nil)))))))) (.cons .w .nil)) ?_;simp [eM,eL,eI,Q1,Qo,QC,SF.cells,SM.cells];repeat refine sdQ ?_
 refine hK _ (tn (Qa (st':=⟨[(4,.adr 0 0 0),(5,.own 7 0 b3.length),(6,iV 0)],Yp v51 [(7,.row 1 (Ls b3))],8⟩) (Q1f [(1,0),(4,1),(5,2),(6,3),(7,4),(8,5),(9,6),(2,7)]) (Qg ?_)));clear hK K;have hr:=zE h;rw [← hr];refine ⟨_,(.cell Qa5 rfl rfl rfl (by simp) (by simp) (.tmp (.tmp .nil))),?_⟩;refine ⟨(.agg rfl (.one rfl rfl (.one rfl rfl .nil))),[iV v51.s.n,lI v51.s.fr,lI v51.s.to,lI v51.s.id,.lst true 1 (Ls v51.s.cs),lI v51.sz,.lst true 1 (Ls v51.ac),.lst true 1 (Ls b3),iV 0],[1,2,3,4,5,6,7],by simp [SF.cells,SM.cells,UA,U1,IA,I1,LA,L1,BA,B1,EA,E1,E2,eB,eI,eL,eM],by simp,(UpL.refl _)⟩
end Go.Vc.T
namespace Go.Vc.T
open Go Go.Vc Go.Proofs
section
attribute [local simp] Qd Qt Ql QS Qv
theorem SM.Is.atQ {s:SM} (h:s.Is):s.p.length=s.s.sz.length∧(s.p.length:Int)=s.s.s.n∧s.p.length≤8∧s.t.sz.length=s.p.length∧s.s.s=s.t.s ∧
  ∀ x:Nat,x<s.p.length→(rx s.p x).length≤16∧((rx s.p x).length:Int)=ix s.s.sz x∧(0≤ix s.t.sz x∧ix s.t.sz x≤16)∧(∀ y∈rx s.p x,inR (ix s.t.sz x) y=true)∧∀ e:Nat,e<(rx s.p x).length→0≤ix (rx s.p x) e∧ix (rx s.p x) e<ix s.t.sz x:=by
 have l1:=h.1.lens;have hl:=h.1.lp;have hp:=h.1.plen;refine ⟨hl,by omega,hp,by omega,h.1.eq,fun x hx=>?_⟩;have r1:=h.1.rows hx;obtain ⟨a1,a2⟩:=h.1.part' (j:=x) (by omega) (by omega);have s2:=Q1o h.1.ht.1.sz (j:=x) (by omega) (by omega);refine ⟨r1,a1,by omega,(h.1.pt x hx).2,fun e he=>?_⟩;have c1:=a2 e (by omega) (by omega);omega
noncomputable def cqCls (s t:SM) (x:Nat):List Int:=cls (RR (cqL (rx s.p x) (rx t.p x) (rx s.p x).length)) (szN s.t x)
noncomputable def cqRows (s t:SM):List (List Int):=tab s.p.length (cqCls s t)
theorem Q7S {s t:SM} (h:s.Is∧t.Is) (hs:s.s=t.s) (ht:s.t=t.t) {x:Nat} (hx:x<s.p.length):x<t.p.length∧(rx t.p x).length=(rx s.p x).length∧(szN s.t x:Int)=ix s.t.sz x∧szN s.t x≤16∧(∀ y∈rx s.p x,inR (szN s.t x:Int) y=true)∧(∀ y∈rx t.p x,inR (szN s.t x:Int) y=true) ∧
  Prs (szN s.t x) (cqL (rx s.p x) (rx t.p x) (rx s.p x).length):=by
 obtain ⟨k1,k2,k3,k4,k5,k6⟩:=h.1.atQ;obtain ⟨j1,j2,j3,j4,j5,j6⟩:=h.2.atQ;rw [← hs] at j1;have a1:=k6 x hx;have a2:=j6 x (by omega);rw [← hs,← ht] at a2;have e:(szN s.t x:Int)=ix s.t.sz x:=by unfold szN;omega
 have hl:(rx t.p x).length=(rx s.p x).length:=by omega
 refine ⟨by omega,hl,e,by omega,by rw [e];exact a1.2.2.2.1,by rw [e];exact a2.2.2.2.1,cqL_prs (fun z hz=>?_) fun z hz=>?_⟩
 ·have:=a1.2.2.2.2 z hz;omega
 have:=a2.2.2.2.2 z (by omega);omega
theorem cq_quo {s t:SM} (h:s.Is∧t.Is) (hs:s.s=t.s) (ht:s.t=t.t):QuoP s.t (cqRows s t):=by
 obtain ⟨k1,k2,k3,k4,k5,k6⟩:=h.1.atQ;have hl:(cqRows s t).length=s.p.length:=by simp [cqRows]
 refine ⟨h.1.1.ht.1,by omega,fun x hx=>?_⟩;rw [hl] at hx;obtain ⟨f1,f2,f3,f4,f5,f6,f7⟩:=Q7S h hs ht hx;have hr:rx (cqRows s t) x=cqCls s t x:=rx_tab _ hx;rw [hr];have hlen:(cqCls s t x).length=szN s.t x:=by simp [cqCls,cls]
 refine ⟨by omega,fun e he=>?_⟩;rw [hlen] at he;have e1:ix (cqCls s t x) e=(cn (RR (cqL (rx s.p x) (rx t.p x) (rx s.p x).length)) (RR (cqL (rx s.p x) (rx t.p x) (rx s.p x).length) e):Int):=Q7k _ _ he;have e2:=(RR_ok f7 e he).1;have e3:=cn_le (RR (cqL (rx s.p x) (rx t.p x) (rx s.p x).length)) (RR (cqL (rx s.p x) (rx t.p x) (rx s.p x).length) e);rw [e1];omega
theorem e_plain {p:List (List Int)} (hl:p.length≤1000):Q3g p=some p:=by
 unfold Q3g;refine Q1l p.length (fun i=>p.take i) (e:=p) (by simp) (by omega) (fun i hi=>?_) (by simp) rfl;simp only;rw [if_pos (by omega),Q9 (by omega),Q9 (by simp;omega),Q9 (by unfold B64;omega),zH hi,QX _ _ hi]
theorem Q4r (s t:SM):∃ r,QN s t=some r∧QL s t=some r∧(r.1.ok∧r.1.size≤10000)∧(r.2.1.length≤1048576∧∀ x∈r.2.1,x.length≤1048576)∧sumL r.2.1≤10000:=by
 by_cases h:s.Is∧t.Is
 case neg =>
  refine ⟨(sf0,[],1),?_,?_,sf0_ok,nil_ok⟩
  ·unfold QN Q1R Q11
   by_cases h1:s.Is
   ·have h2:¬ t.Is:=fun q=>h ⟨h1,q⟩;simp [Q2p h1,Q39 h2,sf0]
   simp [Q39 h1,sf0]
  unfold QL QM Q1d;have hq:¬ ∀ f∈[s,t],f.Is:=fun q=>h ⟨q s (by simp),q t (by simp)⟩;rw [Q9 (by simp),Q39 hq];simp [sf0]
 have hI:Q11 s=some true∧Q11 t=some true:=⟨by unfold Q11;rw [Q2p h.1],by unfold Q11;rw [Q2p h.2]⟩;have hA:Q1d [s,t]=some true:=by
  unfold Q1d;rw [Q9 (by simp),Q2p (by simpa using h)]
 have hS:Q19 s.s t.s=some (bo (s.s=t.s)):=by
  unfold Q19;have hh:=h.1.1.hs.1;rw [Q9 (by have:=hh.cat.1.lc;have:=hh.cat.1.m40;omega),Q9 (by have:=hh.la;have:=hh.cat.1.m40;omega)]
 have hT:Q19 s.t t.t=some (bo (s.t=t.t)):=by
  unfold Q19;have hh:=h.1.1.ht.1;rw [Q9 (by have:=hh.cat.1.lc;have:=hh.cat.1.m40;omega),Q9 (by have:=hh.la;have:=hh.cat.1.m40;omega)]
 by_cases he:s.s=t.s∧s.t=t.t
 case neg =>
  refine ⟨(sf0,[],5),?_,?_,sf0_ok,nil_ok⟩
  ·unfold QN Q1R Q1C
   by_cases h1:s.s=t.s
   ·have h2:¬ s.t=t.t:=fun q=>he ⟨h1,q⟩;simp [hI.1,hI.2,Q2p h1,Q39 h2,sf0]
   simp [hI.1,hI.2,Q39 h1,sf0]
  unfold QL QM
  by_cases h1:s.s=t.s
  ·have h2:¬ s.t=t.t:=fun q=>he ⟨h1,q⟩;simp [hA,hS,hT,Q2p h1,Q39 h2,sf0]
  simp [hA,hS,Q39 h1,sf0]
 obtain ⟨hs,ht⟩:=he;have hQ:=cq_quo h hs ht;have hok:=quo_ok hQ;obtain ⟨k1,k2,k3,k4,k5,k6⟩:=h.1.atQ;have hl:(cqRows s t).length=s.p.length:=by simp [cqRows]
 refine ⟨(quoF s.t (cqRows s t),cqRows s t,0),?_,?_,hok.1,hok.2⟩
 ·unfold QN Q1R Q1C;simp only [hI.1,hI.2,Q2p hs,Q2p ht,zL,not_true_eq_false,if_false,Bool.not_true,Bool.false_eq_true,if_true];refine Q1l s.p.length (fun i=>tab i (cqCls s t)) (e:=cqRows s t) rfl (by omega) (fun i hi=>?_) (by simp [cqRows]) ?_
  ·obtain ⟨f1,f2,f3,f4,f5,f6,f7⟩:=Q7S h hs ht hi;have a1:=k6 i hi;simp only;rw [if_pos (by omega)];refine Q1l (rx s.p i).length (fun k=>cqL (rx s.p i) (rx t.p i) k) (e:=cqL (rx s.p i) (rx t.p i) (rx s.p i).length) rfl (by omega) (fun k hk=>?_) (by simp only;rw [Q9 (by omega),if_neg (by omega)]) ?_
   ·simp only;rw [Q9 (by omega),if_pos (by omega),Q9 (by omega),Q9 (by omega),Q9 (by omega),Q9 (by omega),Q9 (by simp [cqL];omega),Q9 (by unfold B64;omega),cqL,cqL,Q1e]
   rw [Q9 (by omega),← f3,e_joinG f7 (by omega) (by simp [cqL];omega)];simp only [zL];rw [Q9 (by simp;omega),Q9 (by unfold B64;omega),Q1e];rfl
  rw [Q7V hQ];rfl
 unfold QL QM;simp only [hA,hS,hT,Q2p hs,Q2p ht,zL,not_true_eq_false,if_false,Bool.not_true,Bool.false_eq_true];have hF:eoF (fun k=>Q3t k s t) (((qZ ((s.p.length:Int).toNat) ([]:List Int)).length:Int).toNat)=some (cqRows s t):=by
  simp only [List.length_replicate,Int.toNat_natCast];refine eoF_tab s.p.length fun k hk=>?_;obtain ⟨f1,f2,f3,f4,f5,f6,f7⟩:=Q7S h hs ht hk;have a1:=k6 k hk;unfold Q3t;rw [Q9 (by omega),Q9 (by omega),Q9 (by omega),← f3,e_coeqOf f4 f5 f6 a1.1 f2];rfl
 rw [Q9 (by omega),Q9 (by simp;omega),Q9 (by simp),hF];simp only [zL];rw [Q9 (by simp [hl]),Q7U hQ];simp only [zL];rw [e_plain (by omega)];rfl
end
end Go.Vc.T
