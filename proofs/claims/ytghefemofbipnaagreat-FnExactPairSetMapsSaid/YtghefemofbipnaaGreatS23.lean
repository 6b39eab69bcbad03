/- A part of the proof: a verified generator of conditions, and what each function of the program does. -/
import Derived.Test.YtghefemofbipnaaGreatS22
set_option maxRecDepth 100000
set_option maxHeartbeats 4000000
set_option linter.unusedSimpArgs false
set_option linter.unusedVariables false
set_option linter.unusedSectionVars false
set_option linter.unnecessarySimpa false

namespace Go.Vc.T
open Go Go.Vc Go.Proofs
attribute [local simp] unk unA unE unT unC flat
noncomputable def Q1m (f_:SF) (g_:SF):Option (SF × List (List Int) × List (List Int)) :=
 (Q3v f_.s).bind fun v1 =>
 (Q11 (σ:=List Int × List (List Int) × List (List Int) × Int) (ε:=List Int × List (List Int) × List (List Int)) (fun s40 =>
  if s40.2.2.2<(f_.sz.length:Int) then
   (Q11 (σ:=List Int × List Int × Int) (ε:=List Int × List Int) (fun s58 =>
    ass (0≤s40.2.2.2∧s40.2.2.2<(f_.sz.length:Int)) <|
    if s58.2.2<(ix f_.sz s40.2.2.2) then
     (
      (Q11 (σ:=List Int × List Int × Int) (ε:=List Int × List Int) (fun s67 =>
       ass (0≤s40.2.2.2∧s40.2.2.2<(g_.sz.length:Int)) <|
       if s67.2.2<(ix g_.sz s40.2.2.2) then
        ass ((s67.1++[s58.2.2]).length≤1073741824) <|
        ass ((s67.2.1++[s67.2.2]).length≤1073741824) <|
        ass (B64 (s67.2.2+1)) <|
        some (Ctl.next (s67.1++[s58.2.2],s67.2.1++[s67.2.2],s67.2.2+1))
       else
        some (Ctl.ret (s67.1,s67.2.1))) fuel (s58.1,s58.2.1,0)).bind fun p67 =>
      some p67:Option (List Int × List Int)).bind fun b61 =>
     ass (B64 (s58.2.2+1)) <|
     some (Ctl.next (b61.1,b61.2,s58.2.2+1))
    else
     some (Ctl.ret (s58.1,s58.2.1))) fuel ([],[],0)).bind fun b42 =>
   ass ((s40.1++[(b42.1.length:Int)]).length≤1073741824) <|
   ass ((s40.2.1++[b42.1]).length≤1073741824) <|
   ass ((s40.2.2.1++[b42.2]).length≤1073741824) <|
   ass (B64 (s40.2.2.2+1)) <|
   some (Ctl.next (s40.1++[(b42.1.length:Int)],s40.2.1++[b42.1],s40.2.2.1++[b42.2],s40.2.2.2+1))
  else
   some (Ctl.ret (s40.1,s40.2.1,s40.2.2.1))) fuel ([],[],[],0)).bind fun b2 =>
 (Q11 (σ:=List (List Int) × Int) (ε:=List (List Int)) (fun s116 =>
  if s116.2<(f_.ac.length:Int) then
   ass (0≤s116.2∧s116.2<(f_.s.fr.length:Int)) <|
   ass (0≤s116.2∧s116.2<(f_.s.to.length:Int)) <|
   (Q11 (σ:=List Int × Int) (ε:=List Int) (fun s136 =>
    ass (0≤ix f_.s.fr s116.2∧ix f_.s.fr s116.2<(b2.2.1.length:Int)) <|
    if s136.2<((rx b2.2.1 (ix f_.s.fr s116.2)).length:Int) then
     ass (0≤s116.2∧s116.2<(f_.ac.length:Int)) <|
     ass (0≤ix f_.s.fr s116.2∧ix f_.s.fr s116.2<(b2.2.1.length:Int)) <|
     ass (0≤s136.2∧s136.2<((rx b2.2.1 (ix f_.s.fr s116.2)).length:Int)) <|
     ass (0≤ix (rx b2.2.1 (ix f_.s.fr s116.2)) s136.2∧ix (rx b2.2.1 (ix f_.s.fr s116.2)) s136.2<((rx f_.ac s116.2).length:Int)) <|
     ass (0≤ix f_.s.to s116.2∧ix f_.s.to s116.2<(g_.sz.length:Int)) <|
     ass (B64 ((ix (rx f_.ac s116.2) (ix (rx b2.2.1 (ix f_.s.fr s116.2)) s136.2)) * (ix g_.sz (ix f_.s.to s116.2)))) <|
     ass (0≤s116.2∧s116.2<(g_.ac.length:Int)) <|
     ass (0≤ix f_.s.fr s116.2∧ix f_.s.fr s116.2<(b2.2.2.length:Int)) <|
     ass (0≤s136.2∧s136.2<((rx b2.2.2 (ix f_.s.fr s116.2)).length:Int)) <|
     ass (0≤ix (rx b2.2.2 (ix f_.s.fr s116.2)) s136.2∧ix (rx b2.2.2 (ix f_.s.fr s116.2)) s136.2<((rx g_.ac s116.2).length:Int)) <|
     ass (B64 (((ix (rx f_.ac s116.2) (ix (rx b2.2.1 (ix f_.s.fr s116.2)) s136.2)) * (ix g_.sz (ix f_.s.to s116.2)))+(ix (rx g_.ac s116.2) (ix (rx b2.2.2 (ix f_.s.fr s116.2)) s136.2)))) <|
     ass ((s136.1++[((ix (rx f_.ac s116.2) (ix (rx b2.2.1 (ix f_.s.fr s116.2)) s136.2)) * (ix g_.sz (ix f_.s.to s116.2)))+(ix (rx g_.ac s116.2) (ix (rx b2.2.2 (ix f_.s.fr s116.2)) s136.2))]).length≤1073741824) <|
     ass (B64 (s136.2+1)) <|
     some (Ctl.next (s136.1++[((ix (rx f_.ac s116.2) (ix (rx b2.2.1 (ix f_.s.fr s116.2)) s136.2)) * (ix g_.sz (ix f_.s.to s116.2)))+(ix (rx g_.ac s116.2) (ix (rx b2.2.2 (ix f_.s.fr s116.2)) s136.2))],s136.2+1))
    else
     some (Ctl.ret s136.1)) fuel ([],0)).bind fun b120 =>
   ass ((s116.1++[b120]).length≤1073741824) <|
   ass (B64 (s116.2+1)) <|
   some (Ctl.next (s116.1++[b120],s116.2+1))
  else
   some (Ctl.ret s116.1)) fuel ([],0)).bind fun b78 =>
 some ((⟨v1,b2.1,b78⟩:SF),b2.2.1,b2.2.2)
theorem Q14 {F : Fx} {st st' : St} (m : List (Nat × Nat)) (h : (m.map Prod.fst).Nodup ∧ (m.map Prod.snd).Nodup ∧ (∀ id, id < F.pins → look id m = some id) ∧ (∀ p ∈ m, p.2 < st'.n) ∧ (∀ p ∈ st'.h, p.1 < st'.n) ∧ (∀ p ∈ st'.s, p.2 = rl m (st.get p.1) ∨ p.2 = .bot) ∧ ∀ p ∈ st'.h, hhOk m st.h p.1 p.2 := by simp [hP, hhOk, back, idQ, Cat.cells, SF.cells, UA, U1, IA, I1, LA, L1, BA, B1, EA, E1, E2, eB, eI, eL, eM, SM.cells]) : Wk F st st' := Wk.r1 m h
theorem QU {F : Fx} {st st' : St} (m : Nat) (h : ((idQ m).map Prod.fst).Nodup ∧ ((idQ m).map Prod.snd).Nodup ∧ (∀ id, id < F.pins → look id (idQ m) = some id) ∧ (∀ p ∈ (idQ m), p.2 < st'.n) ∧ (∀ p ∈ st'.h, p.1 < st'.n) ∧ (∀ p ∈ st'.s, p.2 = rl (idQ m) (st.get p.1) ∨ p.2 = .bot) ∧ ∀ p ∈ st'.h, hhOk (idQ m) st.h p.1 p.2 := by simp [hP, hhOk, back, idQ, Cat.cells, SF.cells, UA, U1, IA, I1, LA, L1, BA, B1, EA, E1, E2, eB, eI, eL, eM, SM.cells]) : Wk F st st' := Wk.r1 (idQ m) h
@[simp] abbrev Y6 (a b:SF) (c:Cat) (d:List Int × List (List Int) × List (List Int) × Int) (e:List (Nat × Ent)):List (Nat × Ent):=(0,.mix 7 [(SF.cells true a)])::(1,.mix 7 [(SF.cells true b)])::(2,.mix 7 [(YZ [])])::(3,.mix 7 [(YV c [.own 8 0 d.1.length,nS])])::(4,rI c.fr)::(5,rI c.to)::(6,rI c.id)::(7,.row 1 (Ls c.cs))::(8,rI d.1)::(9,.row 1 (Ls d.2.1))::(10,.row 1 (Ls d.2.2.1))::e
@[simp] abbrev Y7 (a b:SF) (c:Cat) (d:List Int × List (List Int) × List (List Int)) (e:List (List Int) × Int) (f:List (Nat × Ent)):List (Nat × Ent):=(0,.mix 7 [(SF.cells true a)])::(1,.mix 7 [(SF.cells true b)])::(2,.mix 7 [(YZ [])])::(3,.mix 7 [(YV c [.own 8 0 d.1.length,.own 9 0 e.1.length])])::(4,rI c.fr)::(5,rI c.to)::(6,rI c.id)::(7,.row 1 (Ls c.cs))::(8,rI d.1)::(9,.row 1 (Ls e.1))::(10,.row 1 (Ls d.2.1))::(11,.row 1 (Ls d.2.2))::f
@[simp] abbrev Y8 (a:List (Nat × AV)):List (Nat × AV):=(2,.adr 0 0 0)::(3,.adr 1 0 0)::(4,.adr 2 0 0)::(7,.adr 3 0 0)::a
@[simp] abbrev Yg (a b:SF) (c:List (Nat × Ent)):List (Nat × Ent):=(0,.mix 7 [(SF.cells true a)])::(1,.mix 7 [(SF.cells true b)])::(2,.mix 7 [(YZ [])])::c
@[simp] abbrev Yk (a:List Int × List (List Int) × List (List Int) × Int) (b:List (Nat × AV)):List (Nat × AV):=(8,.own 9 0 a.2.1.length)::(9,.own 10 0 a.2.2.1.length)::(10,iV a.2.2.2)::b
@[simp] abbrev Yt (a:List Int × List (List Int) × List (List Int)) (b:List (List Int) × Int) (c:SF) (d:List (Nat × AV)):List (Nat × AV):=(8,.own 10 0 a.2.1.length)::(9,.own 11 0 a.2.2.length)::(15,iV b.2)::(16,iV (ix c.s.fr b.2))::(17,iV (ix c.s.to b.2))::d
@[simp] abbrev YE (a:Cat) (b:List Int × List (List Int) × List (List Int) × Int) (c:List Int × List Int) (d:List (Nat × Ent)):List (Nat × Ent):=(3,.mix 7 [(YV a [.own 8 0 ((b.1++[(c.1.length:Int)]).length),nS])])::d
theorem Q63 [Kd Tryz.prog] (f_:SF) (g_:SF) (r:SF × List (List Int) × List (List Int)) (h:Q1m f_ g_=some r):Contract Tryz.prog 74 [.agg (f_.cells true),.agg (g_.cells true)] (.tup [.agg (r.1.cells true),.lst true 1 (Ls r.2.1),.lst true 1 (Ls r.2.2)]):=by
 refine Qq (rvs:=[.cell 4 34,.tmp 5,.tmp 6]) (rs:=[.agg (r.1.cells true),.lst true 1 (Ls r.2.1),.lst true 1 (Ls r.2.2)]) Tryz.func74 rfl rfl rfl rfl (by simp [Tryz.f74]) fun F hN hP=>?_;unfold Q1m at h;refine Q3 (runQ hN fun K hK=>?_);simp [eM,eL,eI,Q2,Qm,Qf,Cat.cells,SF.cells];repeat refine sdQ ?_
 refine hK _ ?_;clear hK K;refine tn (Qc (st':=⟨YG [],Yg f_ g_ [],3⟩) (QU 3) (Q3 (runQ hN fun K hK=>?_)));simp [eM,eL,eI,Q2,Qm,Qf,Cat.cells,SF.cells];repeat with_reducible refine sdQ ?_
 replace ⟨v1,hv1,h⟩:=bind_some h;refine Q0 (Qaf _ v1 hv1) (.cons (.aggL (.cons .val (.cons .lst (.cons .lst (.cons .lst (.cons .lst .nil)))))) .nil) ?_;simp [eM,eL,eI,Q2,Qm,Qf,Cat.cells,SF.cells];repeat refine sdQ ?_
 refine hK _ ?_;clear hK K;refine tn (Qc (st':=⟨Y8 [(8,.own 8 0 0),(9,.own 9 0 0)],Yg f_ g_ (Yn v1 (Y9 v1 [(8,.mix 1 []),(9,.mix 1 [])])),10⟩) (Q14 [(0,0),(1,1),(2,2),(10,3),(4,4),(5,5),(6,6),(7,7),(8,8),(9,9)]) (Q3 (Q3 (runQ hN fun K hK=>?_))));simp [eM,eL,eI,Q2,Qm,Qf,Cat.cells,SF.cells];repeat refine sdQ ?_
 refine hK _ (tn (Qc (st':=⟨Y8 [(8,.own 8 0 0),(9,.own 9 0 0),(10,iV 0)],Yg f_ g_ (Yn v1 (Y9 v1 [(8,.mix 1 []),(9,.mix 1 [])])),10⟩) (QU 10) ?_));clear hK K;replace ⟨e2,h,h2⟩:=bind_some h;refine QQ (fun b2:List Int × List (List Int) × List (List Int)=>⟨Y8 [(8,.own 9 0 b2.2.1.length),(9,.own 10 0 b2.2.2.length)],Yg f_ g_ ((3,.mix 7 [(YV v1 [.own 8 0 b2.1.length,nS])])::Y9 v1 [(8,rI b2.1),(9,.row 1 (Ls b2.2.1)),(10,.row 1 (Ls b2.2.2))]),11⟩) (fun b2=>b2=e2) ?_ ?_
 ·refine Q5 (Q13 h (fun s40:List Int × List (List Int) × List (List Int) × Int=>⟨Y8 (Yk s40 []),Y6 f_ g_ v1 s40 [],11⟩) (Q3W ⟨Y8 [(8,.own 8 0 0),(9,.own 9 0 0),(10,iV 0)],Yg f_ g_ (YR v1 (Y9 v1 [(8,.row 1 (Ls [])),(9,.row 1 (Ls [])),(10,rI [])])),11⟩ (Wk.nils [(10,1)] (by simp) (by simp) (by simp [nlA]) (by simp [entN,nlL,nlA,Cat.cells,SF.cells,UA,U1,IA,I1,LA,L1,BA,B1,EA,E1,E2,eB,eI,eL,eM]) (by simp)) (Q14 [(0,0),(1,1),(2,2),(3,3),(4,4),(5,5),(6,6),(7,7),(10,8),(8,9),(9,10)])) ?_);clear h;intro k40 s40 c40 h hk40;refine Q3 (Q3 (runQ hN fun K hK=>?_));simp [eM,eL,eI,Q2,Qm,Qf,Cat.cells,SF.cells];repeat refine sdQ ?_
  refine hK _ ?_;clear hK K;refine tn (Q6 rfl (fun g=>?_) fun g=>?_)
  ·have g41:s40.2.2.2<(f_.sz.length:Int):=gQ;clear g;replace h:=if_l g41 h;refine Q7 (tn (Q3 (Q5 (Q3 (runQ hN fun K hK=>?_)))));simp [eM,eL,eI,Q2,Qm,Qf,Cat.cells,SF.cells];(repeat refine sdQ ?_);refine hK _ ?_;clear hK K;refine tn (Qc (st':=⟨Y8 (Yk s40 [(11,.own 11 0 0),(12,.own 12 0 0)]),Y6 f_ g_ v1 s40 [(11,.mix 1 []),(12,.mix 1 [])],13⟩) (QU 13) (Q3 (Q3 (runQ hN fun K hK=>?_))));simp [eM,eL,eI,Q2,Qm,Qf,Cat.cells,SF.cells];(repeat refine sdQ ?_);refine hK _ (tn (Qc (st':=⟨Y8 (Yk s40 [(11,.own 11 0 0),(12,.own 12 0 0),(13,iV 0)]),Y6 f_ g_ v1 s40 [(11,.mix 1 []),(12,.mix 1 [])],13⟩) (QU 13) ?_));clear hK K;replace ⟨e42,h,h42⟩:=bind_some h;refine QQ (fun b42:List Int × List Int=>⟨Y8 (Yk s40 [(11,.own 11 0 b42.1.length),(12,.own 12 0 b42.2.length)]),Y6 f_ g_ v1 s40 [(11,rI b42.1),(12,rI b42.2)],13⟩) (fun b42=>b42=e42) ?_ ?_
   ·refine Q5 (Q13 h (fun s58:List Int × List Int × Int=>⟨Y8 (Yk s40 [(11,.own 11 0 s58.1.length),(12,.own 12 0 s58.2.1.length),(13,iV s58.2.2)]),Y6 f_ g_ v1 s40 [(11,rI s58.1),(12,rI s58.2.1)],13⟩) (Q3W ⟨Y8 (Yk s40 [(11,.own 11 0 0),(12,.own 12 0 0),(13,iV 0)]),Y6 f_ g_ v1 s40 [(11,rI []),(12,rI [])],13⟩ (Wk.nils [] (by simp) (by simp) (by simp [nlA]) (by simp [entN,nlL,nlA,Cat.cells,SF.cells,UA,U1,IA,I1,LA,L1,BA,B1,EA,E1,E2,eB,eI,eL,eM]) (by simp)) (QU 13)) ?_);clear h;intro k58 s58 c58 h hk58;refine Q3 (Q3 (runQ hN fun K hK=>?_));replace ⟨a59,h⟩:=Q8 h;simp [eM,eL,eI,Q2,Qm,Qf,Cat.cells,SF.cells,at_I a59];(repeat refine sdQ ?_);refine hK _ ?_;clear hK K;refine tn (Q6 rfl (fun g=>?_) fun g=>?_)
    ·have g60:s58.2.2<(ix f_.sz s40.2.2.2):=gQ;clear g;replace h:=if_l g60 h;refine Q7 (tn (Q3 ?_));replace ⟨e61,h,h61⟩:=bind_some h;refine QQ (fun b61:List Int × List Int=>⟨Y8 (Yk s40 [(11,.own 11 0 b61.1.length),(12,.own 12 0 b61.2.length),(13,iV s58.2.2)]),Y6 f_ g_ v1 s40 [(11,rI b61.1),(12,rI b61.2)],13⟩) (fun b61=>b61=e61) ?_ ?_
     ·refine Q5 (Q3 (runQ hN fun K hK=>?_));simp [eM,eL,eI,Q2,Qm,Qf,Cat.cells,SF.cells];(repeat refine sdQ ?_);refine hK _ (tn (Qc (st':=⟨Y8 (Yk s40 [(11,.own 11 0 s58.1.length),(12,.own 12 0 s58.2.1.length),(13,iV s58.2.2),(14,iV 0)]),Y6 f_ g_ v1 s40 [(11,rI s58.1),(12,rI s58.2.1)],13⟩) (QU 13) (Q5 ?_)));clear hK K;replace ⟨e67,he67,h67⟩:=bind_some h;refine Q13 he67 (fun s67:List Int × List Int × Int=>⟨Y8 (Yk s40 [(11,.own 11 0 s67.1.length),(12,.own 12 0 s67.2.1.length),(13,iV s58.2.2),(14,iV s67.2.2)]),Y6 f_ g_ v1 s40 [(11,rI s67.1),(12,rI s67.2.1)],13⟩) (QU 13) ?_;intro k67 s67 c67 h hk67;refine Q3 (Q3 (runQ hN fun K hK=>?_));replace ⟨a68,h⟩:=Q8 h;simp [eM,eL,eI,Q2,Qm,Qf,Cat.cells,SF.cells,at_I a68];(repeat refine sdQ ?_);refine hK _ ?_;clear hK K;refine tn (Q6 rfl (fun g=>?_) fun g=>?_)
      ·have g69:s67.2.2<(ix g_.sz s40.2.2.2):=gQ;clear g;replace h:=if_l g69 h;refine Q7 (tn (Q3 (Q5 (Q3 (runQ hN fun K hK=>?_)))));replace ⟨a70,h⟩:=Q8 h;(try simp only [List.length_append,List.length_cons,List.length_nil] at a70);simp [eM,eL,eI,Q2,Qm,Qf,Cat.cells,SF.cells,a70];(repeat refine sdQ ?_);refine hK _ ?_;clear hK K;refine tn (Qc (st':=⟨Y8 (Yk s40 [(11,.own 11 0 ((s67.1++[s58.2.2]).length)),(12,.own 12 0 s67.2.1.length),(13,iV s58.2.2),(14,iV s67.2.2)]),Y6 f_ g_ v1 s40 [(11,rI (s67.1++[s58.2.2])),(12,rI s67.2.1)],13⟩) (Q14 [(0,0),(1,1),(2,2),(3,3),(4,4),(5,5),(6,6),(7,7),(8,8),(9,9),(10,10),(14,11),(12,12)]) (runQ hN fun K hK=>?_));replace ⟨a71,h⟩:=Q8 h;(try simp only [List.length_append,List.length_cons,List.length_nil] at a71);simp [eM,eL,eI,Q2,Qm,Qf,Cat.cells,SF.cells,a71];(repeat refine sdQ ?_);refine hK _ ?_;clear hK K;refine bn (tn (Qc (st':=⟨Y8 (Yk s40 [(11,.own 11 0 ((s67.1++[s58.2.2]).length)),(12,.own 12 0 ((s67.2.1++[s67.2.2]).length)),(13,iV s58.2.2),(14,iV s67.2.2)]),Y6 f_ g_ v1 s40 [(11,rI (s67.1++[s58.2.2])),(12,rI (s67.2.1++[s67.2.2]))],13⟩) (Q14 [(0,0),(1,1),(2,2),(3,3),(4,4),(5,5),(6,6),(7,7),(8,8),(9,9),(10,10),(11,11),(14,12)]) (runQ hN fun K hK=>?_)));replace ⟨a72,h⟩:=Q8 h;simp [eM,eL,eI,Q2,Qm,Qf,Cat.cells,SF.cells,QA a72];(repeat refine sdQ ?_);refine hK _ ?_;clear hK K;cases h;exact rn (s':=(s67.1++[s58.2.2],s67.2.1++[s67.2.2],s67.2.2+1)) hk67 (QU 13)
      have g69:¬ (s67.2.2<(ix g_.sz s40.2.2.2)):=gQ;clear g;replace h:=if_r g69 h;refine Qk (tx (lx (bh (bn ?_))));cases h;have q:_=e67:=hk67;have h:=h67;rw [← q] at h;clear q;(try dsimp only at h);exact jn (b:=(s67.1,s67.2.1)) (Option.some.inj h) (QU 13)
     intro b61 hb61;have h:=h61;(try rw [← hb61] at h);clear h61;(try dsimp only at h);refine runQ hN fun K hK=>?_;replace ⟨a73,h⟩:=Q8 h;simp [eM,eL,eI,Q2,Qm,Qf,Cat.cells,SF.cells,QA a73];(repeat refine sdQ ?_);refine hK _ ?_;clear hK K;cases h;exact rn (s':=(b61.1,b61.2,s58.2.2+1)) hk58 (QU 13)
    have g60:¬ (s58.2.2<(ix f_.sz s40.2.2.2)):=gQ;clear g;replace h:=if_r g60 h;refine Qk (tx (lx (bh ?_)));cases h;exact jn (b:=(s58.1,s58.2.1)) hk58 (QU 13)
   intro b42 hb42;have h:=h42;(try rw [← hb42] at h);clear h42;(try dsimp only at h);refine Q3 (runQ hN fun K hK=>?_);replace ⟨a74,h⟩:=Q8 h;(try simp only [List.length_append,List.length_cons,List.length_nil] at a74);simp [eM,eL,eI,Q2,Qm,Qf,Cat.cells,SF.cells,a74];(repeat refine sdQ ?_);refine hK _ ?_;clear hK K;refine tn (Qc (st':=⟨Y8 (Yk s40 [(11,.own 11 0 b42.1.length),(12,.own 12 0 b42.2.length)]),Yg f_ g_ (YE v1 s40 b42 (Y9 v1 [(8,rI (s40.1++[(b42.1.length:Int)])),(9,.row 1 (Ls s40.2.1)),(10,.row 1 (Ls s40.2.2.1)),(11,rI b42.1),(12,rI b42.2)])),13⟩) (Q14 [(0,0),(1,1),(2,2),(3,3),(4,4),(5,5),(6,6),(7,7),(14,8),(9,9),(10,10),(11,11),(12,12)]) (Q3 (runQ hN fun K hK=>?_)));replace ⟨a75,h⟩:=Q8 h;(try simp only [List.length_append,List.length_cons,List.length_nil] at a75);simp [eM,eL,eI,Q2,Qm,Qf,Cat.cells,SF.cells,a75];(repeat refine sdQ ?_);refine hK _ ?_;clear hK K;refine tn (Qc (st':=⟨Y8 [(8,.own 9 0 ((s40.2.1++[b42.1]).length)),(9,.own 10 0 s40.2.2.1.length),(10,iV s40.2.2.2),(12,.own 11 0 b42.2.length)],Yg f_ g_ (YE v1 s40 b42 (Y9 v1 [(8,rI (s40.1++[(b42.1.length:Int)])),(9,.row 1 (Ls (s40.2.1++[b42.1]))),(10,.row 1 (Ls s40.2.2.1)),(11,rI b42.2)])),12⟩) (Q14 [(0,0),(1,1),(2,2),(3,3),(4,4),(5,5),(6,6),(7,7),(8,8),(14,9),(10,10),(12,11)]) (runQ hN fun K hK=>?_));replace ⟨a76,h⟩:=Q8 h;(try simp only [List.length_append,List.length_cons,List.length_nil] at a76);simp [eM,eL,eI,Q2,Qm,Qf,Cat.cells,SF.cells,a76];(repeat refine sdQ ?_);refine hK _ (bn (tn ?_));clear hK K
   refine Qc (st':=⟨Y8 [(8,.own 9 0 ((s40.2.1++[b42.1]).length)),(9,.own 10 0 ((s40.2.2.1++[b42.2]).length)),(10,iV s40.2.2.2)],Yg f_ g_ (YE v1 s40 b42 (Y9 v1 [(8,rI (s40.1++[(b42.1.length:Int)])),(9,.row 1 (Ls (s40.2.1++[b42.1]))),(10,.row 1 (Ls (s40.2.2.1++[b42.2])))])),11⟩) (Q14 [(0,0),(1,1),(2,2),(3,3),(4,4),(5,5),(6,6),(7,7),(8,8),(9,9),(13,10)]) (runQ hN fun K hK=>?_);replace ⟨a77,h⟩:=Q8 h;simp [eM,eL,eI,Q2,Qm,Qf,Cat.cells,SF.cells,QA a77];(repeat refine sdQ ?_);refine hK _ ?_;clear hK K;cases h;exact rn (s':=(s40.1++[(b42.1.length:Int)],s40.2.1++[b42.1],s40.2.2.1++[b42.2],s40.2.2.2+1)) hk40 (QU 11)
  have g41:¬ (s40.2.2.2<(f_.sz.length:Int)):=gQ;clear g;replace h:=if_r g41 h;refine Qk (tx (lx (bh ?_)));cases h;exact jn (b:=(s40.1,s40.2.1,s40.2.2.1)) hk40 (QU 11)
 intro b2 hb2;have h:=h2;try rw [← hb2] at h
 clear h2;try dsimp only at h
 refine Q3 (Q3 (runQ hN fun K hK=>?_));simp [eM,eL,eI,Q2,Qm,Qf,Cat.cells,SF.cells];repeat refine sdQ ?_
 refine hK _ (tn (Qc (st':=⟨Y8 [(8,.own 9 0 b2.2.1.length),(9,.own 10 0 b2.2.2.length),(15,iV 0)],Yg f_ g_ ((3,.mix 7 [(YV v1 [.own 8 0 b2.1.length,nS])])::Y9 v1 [(8,rI b2.1),(9,.row 1 (Ls b2.2.1)),(10,.row 1 (Ls b2.2.2))]),11⟩) (QU 11) ?_));clear hK K;replace ⟨e78,h,h78⟩:=bind_some h;refine QQ (fun b78:List (List Int)=>⟨YP [(7,.adr 1 0 0),(8,.own 8 0 b2.2.1.length),(9,.own 9 0 b2.2.2.length)],Yd [(1,.mix 7 [[iV v1.n,.own 2 0 v1.fr.length,.own 3 0 v1.to.length,.own 4 0 v1.id.length,.own 5 0 v1.cs.length,.own 6 0 b2.1.length,.own 7 0 b78.length]]),(2,rI v1.fr),(3,rI v1.to),(4,rI v1.id),(5,.row 1 (Ls v1.cs)),(6,rI b2.1),(7,.row 1 (Ls b78)),(8,.row 1 (Ls b2.2.1)),(9,.row 1 (Ls b2.2.2))],10⟩) (fun b78=>b78=e78) ?_ ?_
 ·refine Q5 (Q13 h (fun s116:List (List Int) × Int=>⟨Y8 [(8,.own 10 0 b2.2.1.length),(9,.own 11 0 b2.2.2.length),(15,iV s116.2)],Y7 f_ g_ v1 b2 s116 [],12⟩) (Q3W ⟨Y8 [(8,.own 9 0 b2.2.1.length),(9,.own 10 0 b2.2.2.length),(15,iV 0)],Yg f_ g_ ((3,.mix 7 [(YV v1 [.own 8 0 b2.1.length,.own 11 0 0])])::Y9 v1 [(8,rI b2.1),(9,.row 1 (Ls b2.2.1)),(10,.row 1 (Ls b2.2.2)),(11,.row 1 (Ls []))]),12⟩ (Wk.nils [(11,1)] (by simp) (by simp) (by simp [nlA]) (by simp [entN,nlL,nlA,Cat.cells,SF.cells,UA,U1,IA,I1,LA,L1,BA,B1,EA,E1,E2,eB,eI,eL,eM]) (by simp)) (Q14 [(0,0),(1,1),(2,2),(3,3),(4,4),(5,5),(6,6),(7,7),(8,8),(11,9),(9,10),(10,11)])) ?_);clear h;intro k116 s116 c116 h hk116;refine Q3 (Q3 (runQ hN fun K hK=>?_));simp [eM,eL,eI,Q2,Qm,Qf,Cat.cells,SF.cells];repeat refine sdQ ?_
  refine hK _ ?_;clear hK K;refine tn (Q6 rfl (fun g=>?_) fun g=>?_)
  ·have g117:s116.2<(f_.ac.length:Int):=gQ;clear g;replace h:=if_l g117 h;refine Q7 (tn (Q3 (Q5 (Q3 (runQ hN fun K hK=>?_)))));replace ⟨a118,h⟩:=Q8 h;replace ⟨a119,h⟩:=Q8 h;simp [eM,eL,eI,Q2,Qm,Qf,Cat.cells,SF.cells,at_I a118,at_I a119];(repeat refine sdQ ?_);refine hK _ ?_;clear hK K;refine tn (Qc (st':=⟨Y8 (Yt b2 s116 f_ [(18,.own 12 0 0)]),Y7 f_ g_ v1 b2 s116 [(12,.mix 1 [])],13⟩) (QU 13) (Q3 (Q3 (runQ hN fun K hK=>?_))));simp [eM,eL,eI,Q2,Qm,Qf,Cat.cells,SF.cells];(repeat refine sdQ ?_);refine hK _ (tn (Qc (st':=⟨Y8 (Yt b2 s116 f_ [(18,.own 12 0 0),(19,iV 0)]),Y7 f_ g_ v1 b2 s116 [(12,.mix 1 [])],13⟩) (QU 13) ?_));clear hK K;replace ⟨e120,h,h120⟩:=bind_some h;refine QQ (fun b120:List Int=>⟨Y8 [(8,.own 10 0 b2.2.1.length),(9,.own 11 0 b2.2.2.length),(15,iV s116.2),(18,.own 12 0 b120.length)],Y7 f_ g_ v1 b2 s116 [(12,rI b120)],13⟩) (fun b120=>b120=e120) ?_ ?_
   ·refine Q5 (Q13 h (fun s136:List Int × Int=>⟨Y8 (Yt b2 s116 f_ [(18,.own 12 0 s136.1.length),(19,iV s136.2)]),Y7 f_ g_ v1 b2 s116 [(12,rI s136.1)],13⟩) (Q3W ⟨Y8 (Yt b2 s116 f_ [(18,.own 12 0 0),(19,iV 0)]),Y7 f_ g_ v1 b2 s116 [(12,rI [])],13⟩ (Wk.nils [] (by simp) (by simp) (by simp [nlA]) (by simp [entN,nlL,nlA,Cat.cells,SF.cells,UA,U1,IA,I1,LA,L1,BA,B1,EA,E1,E2,eB,eI,eL,eM]) (by simp)) (QU 13)) ?_);clear h;intro k136 s136 c136 h hk136;refine Q3 (Q3 (runQ hN fun K hK=>?_));replace ⟨a137,h⟩:=Q8 h;simp [eM,eL,eI,Q2,Qm,Qf,Cat.cells,SF.cells,at_L a137];(repeat refine sdQ ?_);refine hK _ ?_;clear hK K;refine tn (Q6 rfl (fun g=>?_) fun g=>?_)
    ·have g138:s136.2<((rx b2.2.1 (ix f_.s.fr s116.2)).length:Int):=gQ;clear g;replace h:=if_l g138 h;refine Q7 (tn (Q3 (Q5 (runQ hN fun K hK=>?_))));replace ⟨a139,h⟩:=Q8 h;replace ⟨a140,h⟩:=Q8 h;replace ⟨a141,h⟩:=Q8 h;replace ⟨a142,h⟩:=Q8 h;replace ⟨a143,h⟩:=Q8 h;replace ⟨a144,h⟩:=Q8 h;replace ⟨a145,h⟩:=Q8 h;replace ⟨a146,h⟩:=Q8 h;replace ⟨a147,h⟩:=Q8 h;replace ⟨a148,h⟩:=Q8 h;replace ⟨a149,h⟩:=Q8 h;replace ⟨a150,h⟩:=Q8 h;(try simp only [List.length_append,List.length_cons,List.length_nil] at a150);simp [eM,eL,eI,Q2,Qm,Qf,Cat.cells,SF.cells,at_L a139,at_L a140,at_I a141,at_I a142,at_I a143,QA a144,at_L a145,at_L a146,at_I a147,at_I a148,QA a149,a150];(repeat refine sdQ ?_);refine hK _ ?_;clear hK K;refine bn (tn (Qc (st':=⟨Y8 (Yt b2 s116 f_ [(18,.own 12 0 ((s136.1++[((ix (rx f_.ac s116.2) (ix (rx b2.2.1 (ix f_.s.fr s116.2)) s136.2)) * (ix g_.sz (ix f_.s.to s116.2)))+(ix (rx g_.ac s116.2) (ix (rx b2.2.2 (ix f_.s.fr s116.2)) s136.2))]).length)),(19,iV s136.2)]),Y7 f_ g_ v1 b2 s116 [(12,rI (s136.1++[((ix (rx f_.ac s116.2) (ix (rx b2.2.1 (ix f_.s.fr s116.2)) s136.2)) * (ix g_.sz (ix f_.s.to s116.2)))+(ix (rx g_.ac s116.2) (ix (rx b2.2.2 (ix f_.s.fr s116.2)) s136.2))]))],13⟩) (Q14 [(0,0),(1,1),(2,2),(3,3),(4,4),(5,5),(6,6),(7,7),(8,8),(9,9),(10,10),(11,11),(19,12)]) (runQ hN fun K hK=>?_)));replace ⟨a151,h⟩:=Q8 h;simp [eM,eL,eI,Q2,Qm,Qf,Cat.cells,SF.cells,QA a151];(repeat refine sdQ ?_);refine hK _ ?_;clear hK K;cases h;exact rn (s':=(s136.1++[((ix (rx f_.ac s116.2) (ix (rx b2.2.1 (ix f_.s.fr s116.2)) s136.2)) * (ix g_.sz (ix f_.s.to s116.2)))+(ix (rx g_.ac s116.2) (ix (rx b2.2.2 (ix f_.s.fr s116.2)) s136.2))],s136.2+1)) hk136 (QU 13)
    have g138:¬ (s136.2<((rx b2.2.1 (ix f_.s.fr s116.2)).length:Int)):=gQ;clear g;replace h:=if_r g138 h;refine Qk (tx (lx (bh ?_)));cases h;exact jn (b:=s136.1) hk136 (QU 13)
   intro b120 hb120;have h:=h120;(try rw [← hb120] at h);clear h120;(try dsimp only at h);refine runQ hN fun K hK=>?_;replace ⟨a152,h⟩:=Q8 h;(try simp only [List.length_append,List.length_cons,List.length_nil] at a152);simp [eM,eL,eI,Q2,Qm,Qf,Cat.cells,SF.cells,a152];(repeat refine sdQ ?_);refine hK _ ?_;clear hK K;refine bn (tn (Qc (st':=⟨Y8 [(8,.own 10 0 b2.2.1.length),(9,.own 11 0 b2.2.2.length),(15,iV s116.2)],Yg f_ g_ ((3,.mix 7 [(YV v1 [.own 8 0 b2.1.length,.own 9 0 ((s116.1++[b120]).length)])])::Y9 v1 [(8,rI b2.1),(9,.row 1 (Ls (s116.1++[b120]))),(10,.row 1 (Ls b2.2.1)),(11,.row 1 (Ls b2.2.2))]),12⟩) (Q14 [(0,0),(1,1),(2,2),(3,3),(4,4),(5,5),(6,6),(7,7),(8,8),(14,9),(10,10),(11,11)]) (runQ hN fun K hK=>?_)));replace ⟨a153,h⟩:=Q8 h;simp [eM,eL,eI,Q2,Qm,Qf,Cat.cells,SF.cells,QA a153];(repeat refine sdQ ?_);refine hK _ ?_;clear hK K;cases h;exact rn (s':=(s116.1++[b120],s116.2+1)) hk116 (QU 12)
  have g117:¬ (s116.2<(f_.ac.length:Int)):=gQ;clear g;replace h:=if_r g117 h;refine Qk (tx (lx (bh ?_)));cases h;exact jn (b:=s116.1) hk116 (Q14 [(2,0),(3,1),(4,2),(5,3),(6,4),(7,5),(8,6),(9,7),(10,8),(11,9)])
 intro b78 hb78;have h:=h78;try rw [← hb78] at h
 clear h78;try dsimp only at h
 refine Q3 (runQ hN fun K hK=>?_);simp [eM,eL,eI,Q2,Qm,Qf,Cat.cells,SF.cells];repeat refine sdQ ?_
 refine hK _ (tn (Qc (st':=⟨YP [(5,.own 7 0 b2.2.1.length),(6,.own 8 0 b2.2.2.length)],[(0,.mix 7 [[iV v1.n,.own 1 0 v1.fr.length,.own 2 0 v1.to.length,.own 3 0 v1.id.length,.own 4 0 v1.cs.length,.own 5 0 b2.1.length,.own 6 0 b78.length]]),(1,rI v1.fr),(2,rI v1.to),(3,rI v1.id),(4,.row 1 (Ls v1.cs)),(5,rI b2.1),(6,.row 1 (Ls b78)),(7,.row 1 (Ls b2.2.1)),(8,.row 1 (Ls b2.2.2))],9⟩) (Q14 [(0,0),(2,1),(3,2),(4,3),(5,4),(6,5),(7,6),(8,7),(9,8)]) (Qg ?_)));clear hK K;have hr:=Option.some.inj h;rw [← hr];refine ⟨_,(.cell tf_34 rfl rfl rfl (by simp) (by simp) (.tmp (.tmp .nil))),?_⟩;refine ⟨(.agg rfl (.one rfl rfl (.one rfl rfl .nil))),[iV v1.n,lI v1.fr,lI v1.to,lI v1.id,.lst true 1 (Ls v1.cs),lI b2.1,.lst true 1 (Ls b78),.lst true 1 (Ls b2.2.1),.lst true 1 (Ls b2.2.2)],[1,2,3,4,5,6,7,8],by simp [Cat.cells,SF.cells,UA,U1,IA,I1,LA,L1,BA,B1,EA,E1,E2,eB,eI,eL,eM],by simp,(UpL.refl _)⟩
section
attribute [local simp] Qi QG Qp Q1r QR
def prF (M k:Nat):Int:=((k / M:Nat):Int)
def prS (M k:Nat):Int:=((k % M:Nat):Int)
def pr (M k:Nat):List Int:=[prF M k,prS M k]
def prs (n M:Nat):List (List Int):=tab (n * M) (pr M)
theorem pr_at {M e d:Nat} (h:d<M):pr M (e * M+d)=[(e:Int),(d:Int)]:=by
 have h1:(e * M+d) / M=e:=by
  rw [Nat.mul_comm,Nat.mul_add_div (by omega),Nat.div_eq_of_lt h];rfl
 have h2:(e * M+d) % M=d:=by
  rw [Nat.mul_comm,Nat.mul_add_mod,Nat.mod_eq_of_lt h]
 simp only [pr,prF,prS,h1,h2]
theorem prF_at {M e d:Nat} (h:d<M):prF M (e * M+d)=e∧prS M (e * M+d)=d:=by
 have:=pr_at (e:=e) h;simp only [pr,List.cons.injEq,and_true] at this;exact this
theorem pr_lt {n M k:Nat} (h:k<n * M):k / M<n∧k % M<M∧k / M * M+k % M=k:=by
 have hM:0<M:=by
  rcases Nat.eq_zero_or_pos M with e|e
  ·subst e;omega
  exact e
 exact ⟨(Nat.div_lt_iff_lt_mul hM).2 h,Nat.mod_lt _ hM,by rw [Nat.mul_comm];exact Nat.div_add_mod k M⟩
theorem Q6B {n M e d:Nat} (he:e<n) (hd:d<M):e * M+d<n * M:=by
 have h1:(e+1) * M≤n * M:=Nat.mul_le_mul_right _ he;rw [Nat.succ_mul] at h1;omega
theorem prF_bd {n M k:Nat} (h:k<n * M):(0≤prF M k∧prF M k<n)∧0≤prS M k∧prS M k<M:=by
 have q:=pr_lt h;unfold prF prS;generalize k / M=a at *;generalize k % M=b at *;omega
theorem rx_tab (n:Nat) (g:Nat→List Int) {i:Nat} (h:i<n):rx (tab n g) i=g i:=by
 rw [← QK _ _ (show i<(tab n g).length by simpa using h)];simp [tab]
theorem Q7v {n M:Nat} (hn:n≤16) (hM:M≤16):Keyed (prs n M):=by
 refine ⟨?_,fun x hx a ha=>?_⟩
 ·rw [List.Nodup,List.pairwise_iff_getElem];intro i j hi hj hij e;simp only [prs,tab,List.getElem_map,List.getElem_range,pr,prF,prS,List.cons.injEq,and_true] at e;simp only [prs,Q4z] at hi hj;have q1:=pr_lt hi;have q2:=pr_lt hj;have e1:i / M=j / M:=by omega
  have e2:i % M=j % M:=by omega
  rw [e1,e2] at q1;omega
 simp only [prs,tab,List.mem_map,List.mem_range] at hx;obtain ⟨k,hk,rfl⟩:=hx;have q:=prF_bd hk;simp only [pr,List.mem_cons,List.not_mem_nil,or_false] at ha;rcases ha with rfl|rfl<;>omega
theorem prs_mem {n M:Nat} {t:List Int} (h:t∈prs n M):∃ k,k<n * M∧t=pr M k:=by
 simp only [prs,tab,List.mem_map,List.mem_range] at h;obtain ⟨k,hk,rfl⟩:=h;exact ⟨k,hk,rfl⟩
theorem prs_in {n M:Nat} {u v:Int} (hu:0≤u∧u<n) (hv:0≤v∧v<M):[u,v]∈prs n M:=by
 simp only [prs,tab,List.mem_map,List.mem_range];refine ⟨u.toNat * M+v.toNat,Q6B (by omega) (by omega),?_⟩;rw [pr_at (by omega)]
 congr 1<;>simp<;>omega
theorem prs_pos {n M:Nat} (hn:n≤16) (hM:M≤16) {u v:Int} (hu:0≤u∧u<n) (hv:0≤v∧v<M):posL (prs n M) [u,v]=u * M+v:=by
 have hK:=Q7v hn hM;obtain ⟨j,hj,hj2,hj3,_⟩:=hK.at (prs_in hu hv);have hs:u.toNat * M+v.toNat<n * M:=Q6B (by omega) (by omega);have hr:rx (prs n M) ((u.toNat * M+v.toNat:Nat):Int)=[u,v]:=by
  rw [prs,rx_tab _ _ hs,pr_at (by omega)]
  congr 1<;>simp<;>omega
 have:=hK.inj hj (by simpa [prs] using hs) (hj2.trans hr.symm);rw [hj3,this,Int.natCast_add,Int.natCast_mul,Int.toNat_of_nonneg hu.1,Int.toNat_of_nonneg hv.1]
def szN (f:SF) (x:Nat):Nat:=(ix f.sz x).toNat
def prE (f g:SF) (x:Nat):List (List Int):=prs (szN f x) (szN g x)
theorem Two.szn {f g:SF} (h:Two f g) {x:Nat} (hx:(x:Int)<f.s.n):((szN f x:Int)=ix f.sz x∧szN f x≤16)∧(szN g x:Int)=ix g.sz x∧szN g x≤16:=by
 obtain ⟨_,k1,k2,k3,k4,k5,k6,k7⟩:=h.fact;have:=h.sizes (x:=x) (by omega);unfold szN;omega
theorem mul16 {a b:Nat} (ha:a≤16) (hb:b≤16):a * b≤256:=Nat.mul_le_mul ha hb
theorem prE_len (f g:SF) (x:Nat):(prE f g x).length=szN f x * szN g x:=by simp [prE,prs]
theorem mvT_pr (f g:SF) (a:Nat) (M k:Nat):mvT [f,g] a (pr M k)=[ix (rx f.ac a) (prF M k),ix (rx g.ac a) (prS M k)]:=by
 simp [mvT,tab,List.range_succ,pr,gx,ix]
theorem Two.mv {f g:SF} (h:Two f g) {a:Nat} (ha:a<f.s.fr.length) {k:Nat} (hk:k<szN f (ix f.s.fr a).toNat * szN g (ix f.s.fr a).toNat) :
  (0≤ix (rx f.ac a) (prF (szN g (ix f.s.fr a).toNat) k)∧ix (rx f.ac a) (prF (szN g (ix f.s.fr a).toNat) k)<(szN f (ix f.s.to a).toNat:Int))∧0≤ix (rx g.ac a) (prS (szN g (ix f.s.fr a).toNat) k)∧ix (rx g.ac a) (prS (szN g (ix f.s.fr a).toNat) k)<(szN g (ix f.s.to a).toNat:Int) ∧
  (0≤prF (szN g (ix f.s.fr a).toNat) k∧prF (szN g (ix f.s.fr a).toNat) k<((rx f.ac a).length:Int))∧0≤prS (szN g (ix f.s.fr a).toNat) k∧prS (szN g (ix f.s.fr a).toNat) k<((rx g.ac a).length:Int):=by
 obtain ⟨_,k1,k2,k3,k4,k5,k6,k7⟩:=h.fact;have hC:=h.pf.cat.1;have li:=hC.li;obtain ⟨q1,q2⟩:=hC.frn ha;have e1:((ix f.s.fr a).toNat:Int)=ix f.s.fr a:=Int.toNat_of_nonneg q1.1;have e2:((ix f.s.to a).toNat:Int)=ix f.s.to a:=Int.toNat_of_nonneg q2.1;have z1:=h.szn (x:=(ix f.s.fr a).toNat) (by omega);have z2:=h.szn (x:=(ix f.s.to a).toNat) (by omega);rw [e1] at z1;rw [e2] at z2;have p:=prF_bd hk;have w1:=h.pf.len' (j:=a) (by omega) (by omega);have w2:=h.pg.len' (j:=a) (by omega) (by rw [← h.e];omega);rw [← h.e] at w2;have b1:0≤prF (szN g (ix f.s.fr a).toNat) k∧prF (szN g (ix f.s.fr a).toNat) k<((rx f.ac a).length:Int):=by omega
 have b2:0≤prS (szN g (ix f.s.fr a).toNat) k∧prS (szN g (ix f.s.fr a).toNat) k<((rx g.ac a).length:Int):=by omega
 have v1:=h.pf.val' (j:=a) (e:=prF (szN g (ix f.s.fr a).toNat) k) (by omega) (by omega) b1.1 b1.2;have v2:=h.pg.val' (j:=a) (e:=prS (szN g (ix f.s.fr a).toNat) k) (by omega) (by rw [← h.e];omega) b2.1 b2.2;rw [← h.e] at v2;omega
theorem Two.tup {f g:SF} (h:Two f g):TupP [f,g] f.s (prE f g):=by
 obtain ⟨_,k1,k2,k3,k4,k5,k6,k7⟩:=h.fact;refine ⟨by simp,by simp,fun i hi=>?_,fun x hx=>?_,fun x hx=>?_,fun x hx t ht=>?_,fun a ha t ht=>?_⟩
 ·match i,hi with
  | 0,_=>exact ⟨h.pf,rfl⟩
  | 1,_=>exact ⟨h.pg,h.e.symm⟩
 ·have z:=h.szn hx;rw [prE_len];have:=mul16 z.1.2 z.2.2;omega
 ·have z:=h.szn hx;exact Q7v z.1.2 z.2.2
 ·have z:=h.szn hx;obtain ⟨k,hk,rfl⟩:=prs_mem ht;have p:=prF_bd hk;refine ⟨by simp [pr],fun i hi=>?_⟩
  match i,hi with
  | 0,_=>show 0≤prF _ k∧prF _ k<ix f.sz x;omega
  | 1,_=>show 0≤prS _ k∧prS _ k<ix g.sz x;omega
 obtain ⟨k,hk,rfl⟩:=prs_mem ht;obtain ⟨m1,m2,m3,_⟩:=h.mv ha hk;rw [mvT_pr];exact prs_in m1 ⟨m2,m3⟩
def Q27 (f g:SF) (n:Nat):List Int:=tab n fun x=>((szN f x * szN g x:Nat):Int)
def Q4M (f g:SF) (a:Nat) (n:Nat):List Int:=tab n fun k=>ix (rx f.ac a) (prF (szN g (ix f.s.fr a).toNat) k) * ix g.sz (ix f.s.to a)+ix (rx g.ac a) (prS (szN g (ix f.s.fr a).toNat) k)
def Q50 (f g:SF) (n:Nat):List (List Int):=tab n fun a=>Q4M f g a (szN f (ix f.s.fr a).toNat * szN g (ix f.s.fr a).toNat)
def Q2M (f g:SF) (n:Nat):List (List Int):=tab n fun x=>tab (szN f x * szN g x) (prF (szN g x))
def Q3b (f g:SF) (n:Nat):List (List Int):=tab n fun x=>tab (szN f x * szN g x) (prS (szN g x))
def Q3z (f g:SF):SF:=⟨f.s,Q27 f g f.sz.length,Q50 f g f.ac.length⟩
theorem map_tab {α β:Type} (n:Nat) (g:Nat→α) (h:α→β):(tab n g).map h=tab n fun i=>h (g i):=by simp [tab]
theorem prod_tup {f g:SF} (h:Two f g):tupZ f.s (prE f g)=Q27 f g f.sz.length∧tupR [f,g] f.s (prE f g)=[Q2M f g f.sz.length,Q3b f g f.sz.length]∧tupA [f,g] f.s (prE f g)=Q50 f g f.ac.length:=by
 obtain ⟨_,k1,k2,k3,k4,k5,k6,k7⟩:=h.fact;have hn:f.s.n.toNat=f.sz.length:=by omega
 refine ⟨?_,?_,?_⟩
 ·unfold tupZ Q27;rw [hn];exact Q3l fun i hi=>by rw [prE_len]
 ·unfold tupR Q2M Q3b;rw [hn];simp only [List.length_cons,List.length_nil,tab,List.range_succ,List.range_zero,List.nil_append,List.map_append,List.map_cons,List.map_nil,List.cons_append]
  congr 1
  ·exact List.map_congr_left fun x _=>by simp [prE,prs,tab,pr,ix]
  congr 1
  exact List.map_congr_left fun x _=>by simp [prE,prs,tab,pr,ix]
 unfold tupA Q50;rw [k3];refine Q3l fun a ha=>?_;unfold prE Q4M;have e0:prs (szN f (ix f.s.fr a).toNat) (szN g (ix f.s.fr a).toNat)=tab (szN f (ix f.s.fr a).toNat * szN g (ix f.s.fr a).toNat) (pr (szN g (ix f.s.fr a).toNat)):=rfl;rw [e0,map_tab];refine Q3l fun k hk=>?_;obtain ⟨m1,m2,m3,_⟩:=h.mv (by omega) hk;have hC:=h.pf.cat.1;have li:=hC.li;obtain ⟨q1,q2⟩:=hC.frn (a:=a) (by omega);have e2:((ix f.s.to a).toNat:Int)=ix f.s.to a:=Int.toNat_of_nonneg q2.1;have z2:=h.szn (x:=(ix f.s.to a).toNat) (by omega);rw [mvT_pr,prs_pos z2.1.2 z2.2.2 m1 ⟨m2,m3⟩,z2.2.1,e2]
theorem e_pairsT {n m:Int} (hn:0≤n∧n≤16) (hm:0≤m∧m≤16):Qr n m=some (prs n.toNat m.toNat):=by
 have hM:=Int.toNat_of_nonneg hm.1;have hN:=Int.toNat_of_nonneg hn.1;generalize hMe:m.toNat=M at hM;generalize hNe:n.toNat=N at hN;unfold Qr;refine Q15 N (fun e=>tab (e * M) (pr M)) (e:=prs N M) (by simp [tab]) (by omega) (fun e he=>?_) (by simp only;rw [if_neg (by omega)];rfl) rfl;have hNM:N * M≤256:=mul16 (by omega) (by omega);simp only;rw [if_pos (by omega),Option.bind_assoc];refine Q15 M (fun d=>tab (e * M+d) (pr M)) (e:=tab ((e+1) * M) (pr M)) (by simp) (by omega) (fun d hd=>?_) ?_ ?_
 ·have hs:=Q6B he hd;simp only;rw [if_pos (by omega)];unfold QY;simp only [Option.bind_some,if_true];rw [Q9 (by simp;omega)];simp only [Option.bind_some];rw [Q9 (by unfold B64;omega),← pr_at hd,← QZ];rfl
 ·simp only;rw [if_neg (by omega),Nat.succ_mul]
 simp only [Option.bind_some];rw [Q9 (by unfold B64;omega)]
theorem Q9s {f g:SF} (h:Two f g) {x:Nat} (hx:(x:Int)<f.s.n):Qx x f g=some (prE f g x):=by
 obtain ⟨_,k1,k2,k3,k4,k5,k6,k7⟩:=h.fact;have s:=h.sizes (x:=x) (by omega);unfold Qx;rw [Q9 (by omega),Q9 (by omega),e_pairsT s.1 s.2];rfl
theorem Q9q {f g:SF} (h:Two f g):Q1f f g=some (if (Q27 f g f.sz.length).all (inR 17)=true then (Q3z f g,[Q2M f g f.sz.length,Q3b f g f.sz.length],true) else (sf0,[],false)):=by
 obtain ⟨e1,e2,e3⟩:=prod_tup h;have ht:Qv [f,g] f g=tupG [f,g] fun k=>Qx k f g:=rfl;unfold Q1f;rw [ht,e_tupG h.tup fun x hx=>Q9s h hx,e1,e2,e3];simp only [Option.bind_some];split<;>rfl
theorem Q9r {f g:SF} (h:Two f g):Q1m f g=some (Q3z f g,Q2M f g f.sz.length,Q3b f g f.sz.length):=by
 obtain ⟨k0,k1,k2,k3,k4,k5,k6,k7⟩:=h.fact;unfold Q1m Q3v;rw [Q9 h.pf.cat.1.size2.1];simp only [Option.bind_some];refine run_bind f.sz.length (fun i:Nat=>(Q27 f g i,Q2M f g i,Q3b f g i,(i:Int))) (e:=(Q27 f g f.sz.length,Q2M f g f.sz.length,Q3b f g f.sz.length)) rfl (by omega) (fun i hi=>?_) (by simp) ?_
 ·have s:=h.sizes hi;have z:=h.szn (x:=i) (by omega);have hNM:=mul16 z.1.2 z.2.2;generalize hN:szN f i=N at z hNM;generalize hM:szN g i=M at z hNM;simp only;rw [if_pos (by omega)];refine run_bind N (fun e:Nat=>(tab (e * M) (prF M),tab (e * M) (prS M),(e:Int))) (e:=(tab (N * M) (prF M),tab (N * M) (prS M))) (by simp [tab]) (by omega) (fun e he=>?_) (by simp only;rw [Q9 (by omega),if_neg (by omega)]) ?_
  ·simp only;rw [Q9 (by omega),if_pos (by omega),Option.bind_assoc];refine run_bind M (fun d:Nat=>(tab (e * M+d) (prF M),tab (e * M+d) (prS M),(d:Int))) (e:=(tab ((e+1) * M) (prF M),tab ((e+1) * M) (prS M))) (by simp) (by omega) (fun d hd=>?_) ?_ ?_
   ·have hs:=Q6B he hd;obtain ⟨a1,a2⟩:=prF_at (e:=e) hd;have t1:=QZ (e * M+d) (prF M);have t2:=QZ (e * M+d) (prS M);rw [a1] at t1;rw [a2] at t2;simp only;rw [Q9 (by omega),if_pos (by omega),Q9 (by simp;omega),Q9 (by simp;omega),Q9 (by unfold B64;omega),← t1,← t2];rfl
   ·simp only;rw [Q9 (by omega),if_neg (by omega),Nat.succ_mul]
   simp only [Option.bind_some];rw [Q9 (by unfold B64;omega)];rfl
  simp only;rw [Q9 (by simp [Q27];omega),Q9 (by simp [Q2M];omega),Q9 (by simp [Q3b];omega),Q9 (by unfold B64;omega)];simp only [Q27,Q2M,Q3b,QZ,hN,hM,Q4z];rfl
 simp only;refine Q15 f.ac.length (fun i=>Q50 f g i) (e:=Q50 f g f.ac.length) rfl (by omega) (fun a ha=>?_) (by simp) rfl;have hC:=h.pf.cat.1;have li:=hC.li;obtain ⟨q1,q2⟩:=hC.frn (a:=a) (by omega);have e1:((ix f.s.fr a).toNat:Int)=ix f.s.fr a:=Int.toNat_of_nonneg q1.1;have e2:((ix f.s.to a).toNat:Int)=ix f.s.to a:=Int.toNat_of_nonneg q2.1;have z1:=h.szn (x:=(ix f.s.fr a).toNat) (by omega);have z2:=h.szn (x:=(ix f.s.to a).toNat) (by omega);have hNM:=mul16 z1.1.2 z1.2.2;have r1:rx (Q2M f g f.sz.length) (ix f.s.fr a)=tab (szN f (ix f.s.fr a).toNat * szN g (ix f.s.fr a).toNat) (prF (szN g (ix f.s.fr a).toNat)):=by
  rw [← e1,Q2M,rx_tab _ _ (by omega)];rfl
 have r2:rx (Q3b f g f.sz.length) (ix f.s.fr a)=tab (szN f (ix f.s.fr a).toNat * szN g (ix f.s.fr a).toNat) (prS (szN g (ix f.s.fr a).toNat)):=by
  rw [← e1,Q3b,rx_tab _ _ (by omega)];rfl
 have mv:=fun k hk=>h.mv (a:=a) (by omega) (k:=k) hk;rw [e2] at z2;simp only [r1,r2];rw [if_pos (by omega),Q9 (by omega),Q9 (by omega)];have hA:Q50 f g (a+1)=Q50 f g a++[Q4M f g a (szN f (ix f.s.fr a).toNat * szN g (ix f.s.fr a).toNat)]:=QZ _ _;generalize hL:szN f (ix f.s.fr a).toNat * szN g (ix f.s.fr a).toNat=L at *;refine Q15 L (fun k=>Q4M f g a k) (e:=Q4M f g a L) rfl (by omega) (fun k hk=>?_) ?_ ?_
 ·obtain ⟨m1,m2,m3,m4,m5⟩:=mv k hk;have s2:=h.sizes (x:=(ix f.s.to a).toNat) (by omega);rw [e2] at s2;have i1:ix (tab L (prF (szN g (ix f.s.fr a).toNat))) (k:Int)=prF (szN g (ix f.s.fr a).toNat) k:=ix_tab L _ hk;have i2:ix (tab L (prS (szN g (ix f.s.fr a).toNat))) (k:Int)=prS (szN g (ix f.s.fr a).toNat) k:=ix_tab L _ hk;have hmul:0≤ix (rx f.ac a) (prF (szN g (ix f.s.fr a).toNat) k) * ix g.sz (ix f.s.to a)∧ix (rx f.ac a) (prF (szN g (ix f.s.fr a).toNat) k) * ix g.sz (ix f.s.to a)≤16 * 16:=by
   have u1:ix (rx f.ac a) (prF (szN g (ix f.s.fr a).toNat) k)≤16:=(by omega);exact ⟨Int.mul_nonneg m1.1 s2.2.1,Int.mul_le_mul u1 s2.2.2 s2.2.1 (by omega)⟩
  simp only [i1,i2];rw [Q9 (by simp [Q2M];omega),if_pos (by simp;omega),Q9 (by omega),Q9 (by simp [Q2M];omega),Q9 (by simp;omega),Q9 (by omega),Q9 (by omega),Q9 (by unfold B64;omega),Q9 (by omega),Q9 (by simp [Q3b];omega),Q9 (by simp;omega),Q9 (by omega),Q9 (by unfold B64;omega),Q9 (by simp [Q4M];omega),Q9 (by unfold B64;omega)];have:=QZ k fun k=>ix (rx f.ac a) (prF (szN g (ix f.s.fr a).toNat) k) * ix g.sz (ix f.s.to a)+ix (rx g.ac a) (prS (szN g (ix f.s.fr a).toNat) k);simp only [Q4M,this]
 ·simp only;rw [Q9 (by simp [Q2M];omega),if_neg (by simp)]
 rw [Q9 (by simp [Q50];omega),Q9 (by unfold B64;omega),hA]
end
section
attribute [local simp] Qi QG Qp Q1r QR
theorem prod_rows {f g:SF} (h:Two f g) (hf:(Q27 f g f.sz.length).all (inR 17)=true):(∀ x:Nat,x<f.sz.length→szN f x * szN g x≤16):=by
 intro x hx;rw [List.all_eq_true] at hf;have:=hf _ (List.getElem_mem (show x<(Q27 f g f.sz.length).length by simpa [Q27] using hx));simp only [Q27,tab,List.getElem_map,List.getElem_range,inR,Bool.and_eq_true,decide_eq_true_eq] at this;omega
theorem prod_ok {f g:SF} (h:Two f g) (hf:(Q27 f g f.sz.length).all (inR 17)=true):((Q3z f g).ok∧(Q3z f g).size≤10000)∧(((Q2M f g f.sz.length).length≤1048576∧∀ x∈Q2M f g f.sz.length,x.length≤1048576)∧sumL (Q2M f g f.sz.length)≤10000)∧((Q3b f g f.sz.length).length≤1048576∧∀ x∈Q3b f g f.sz.length,x.length≤1048576)∧sumL (Q3b f g f.sz.length)≤10000:=by
 obtain ⟨k0,k1,k2,k3,k4,k5,k6,k7⟩:=h.fact;have hr:=prod_rows h hf;obtain ⟨h1,h2⟩:=h.pf.cat.1.size2;have hC:=h.pf.cat.1;have li:=hC.li;have b0:∀ xs∈Q50 f g f.ac.length,xs.length≤16:=by
  intro xs hx;simp only [Q50,tab,List.mem_map,List.mem_range] at hx;obtain ⟨a,ha,rfl⟩:=hx;obtain ⟨q1,q2⟩:=hC.frn (a:=a) (by omega);have:=hr (ix f.s.fr a).toNat (by omega);simpa [Q4M] using this
 have b1:∀ xs∈Q2M f g f.sz.length,xs.length≤16:=by
  intro xs hx;simp only [Q2M,tab,List.mem_map,List.mem_range] at hx;obtain ⟨a,ha,rfl⟩:=hx;simpa using hr a ha
 have b2:∀ xs∈Q3b f g f.sz.length,xs.length≤16:=by
  intro xs hx;simp only [Q3b,tab,List.mem_map,List.mem_range] at hx;obtain ⟨a,ha,rfl⟩:=hx;simpa using hr a ha
 have s0:=Q7D b0;have s1:=Q7D b1;have s2:=Q7D b2;have l0:(Q50 f g f.ac.length).length=f.ac.length:=by simp [Q50]
 have l1:(Q2M f g f.sz.length).length=f.sz.length:=by simp [Q2M]
 have l2:(Q3b f g f.sz.length).length=f.sz.length:=by simp [Q3b]
 have lz:(Q27 f g f.sz.length).length=f.sz.length:=by simp [Q27]
 rw [l0] at s0;rw [l1] at s1;rw [l2] at s2;refine ⟨⟨⟨h1,by simp only [Q3z];omega,by simp only [Q3z];omega,fun xs hx=>by have:=b0 xs hx;omega,by simp only [Q3z];omega⟩,?_⟩,⟨⟨by omega,fun xs hx=>by have:=b1 xs hx;omega⟩,by omega⟩,⟨by omega,fun xs hx=>by have:=b2 xs hx;omega⟩,by omega⟩;simp only [SF.size,Q3z];omega
theorem all_mad {xs:List Int} (h:∀ x∈xs,0≤x):(xs.all (inR 17)=true→mad xs=0)∧(¬ xs.all (inR 17)=true→mad xs=3):=by
 have e:xs.all (inR 17)=xs.all fun x=>decide (x≤16):=by
  rw [Bool.eq_iff_iff,List.all_eq_true,List.all_eq_true];constructor
  ·intro q x hx;have:=q x hx;simp only [inR,Bool.and_eq_true,decide_eq_true_eq] at this ⊢;omega
  intro q x hx;have:=q x hx;have:=h x hx;simp only [inR,Bool.and_eq_true,decide_eq_true_eq] at *;omega
 unfold mad;rw [e];exact ⟨fun q=>if_pos q,fun q=>if_neg q⟩
end
attribute [local simp] unk unA unE unT unC flat
noncomputable def Q3t (f_:SF) (g_:SF) (parts_:List (List Int)):Option SM :=
 (QT f_).bind fun v1 =>
 (QT g_).bind fun v2 =>
 (Q3s parts_).bind fun v3 =>
 some (⟨v1,v2,v3⟩:SM)
@[simp] abbrev Ym (a b:SF) (c:List (List Int)) (d:List (Nat × Ent)):List (Nat × Ent):=(0,.mix 15 [[iV a.s.n,.own 1 0 a.s.fr.length,.own 2 0 a.s.to.length,.own 3 0 a.s.id.length,.own 4 0 a.s.cs.length,.own 5 0 a.sz.length,.own 6 0 a.ac.length,iV b.s.n,.own 7 0 b.s.fr.length,.own 8 0 b.s.to.length,.own 9 0 b.s.id.length,.own 10 0 b.s.cs.length,.own 11 0 b.sz.length,.own 12 0 b.ac.length,.own 13 0 c.length]])::(1,rI a.s.fr)::(2,rI a.s.to)::(3,rI a.s.id)::(4,.row 1 (Ls a.s.cs))::(5,rI a.sz)::(6,.row 1 (Ls a.ac))::(7,rI b.s.fr)::(8,rI b.s.to)::(9,rI b.s.id)::(10,.row 1 (Ls b.s.cs))::(11,rI b.sz)::(12,.row 1 (Ls b.ac))::(13,.row 1 (Ls c))::d
@[simp] abbrev Yr (a:List (Nat × Ent)):List (Nat × Ent):=(0,.mix 15 [(YZ (YZ [nS]))])::a
theorem Qad [Kd Tryz.prog] (f_:SF) (g_:SF) (parts_:List (List Int)) (r:SM) (h:Q3t f_ g_ parts_=some r):Contract Tryz.prog 84 [.rptr (f_.cells true),.rptr (g_.cells true),.lst true 1 (Ls parts_)] (.agg (r.cells true)):=by
 refine Qq (rvs:=[.cell 6 52]) (rs:=[.agg (r.cells true)]) Tryz.func84 rfl rfl rfl rfl (by simp [Tryz.f84]) fun F hN hP=>?_;unfold Q3t at h;refine Q3 (runQ hN fun K hK=>?_);simp [eM,eL,eI,Q2,Qf,Qu,SF.cells,SM.cells];repeat refine sdQ ?_
 refine hK _ ?_;clear hK K;refine tn (Qc (st':=⟨[(0,.rptr (SF.cells true f_)),(1,.rptr (SF.cells true g_)),(2,.lst true 1 (Ls parts_)),(6,.adr 0 0 0)],Yr [],1⟩) (Q14 [(0,0)]) (Q3 (runQ hN fun K hK=>?_)));simp [eM,eL,eI,Q2,Qf,Qu,SF.cells,SM.cells];repeat with_reducible refine sdQ ?_
 replace ⟨v1,hv1,h⟩:=bind_some h;refine Q0 (Q2p _ v1 hv1) (.cons (.preT (by simp [SF.cells])) .nil) ?_;simp [eM,eL,eI,Q2,Qf,Qu,SF.cells,SM.cells];repeat with_reducible refine sdQ ?_
 replace ⟨v2,hv2,h⟩:=bind_some h;refine Q0 (Q2p _ v2 hv2) (.cons (.preT (by simp [SF.cells])) .nil) ?_;simp [eM,eL,eI,Q2,Qf,Qu,SF.cells,SM.cells];repeat with_reducible refine sdQ ?_
 replace ⟨v3,hv3,h⟩:=bind_some h;refine Q0 (Qaa _ v3 hv3) (.cons .lst .nil) ?_;simp [eM,eL,eI,Q2,Qf,Qu,SF.cells,SM.cells];repeat refine sdQ ?_
 refine hK _ (tn (Qc (st':=⟨[(6,.adr 0 0 0)],Ym v1 v2 v3 [],14⟩) (Q14 [(0,0),(2,1),(3,2),(4,3),(5,4),(6,5),(7,6),(9,7),(10,8),(11,9),(12,10),(13,11),(14,12),(15,13)]) (Qg ?_)));clear hK K;have hr:=Option.some.inj h;rw [← hr];refine ⟨_,(.cell Q6M rfl rfl rfl (by simp) (by simp) .nil),?_⟩;refine ⟨(.agg rfl .nil),[iV v1.s.n,lI v1.s.fr,lI v1.s.to,lI v1.s.id,.lst true 1 (Ls v1.s.cs),lI v1.sz,.lst true 1 (Ls v1.ac),iV v2.s.n,lI v2.s.fr,lI v2.s.to,lI v2.s.id,.lst true 1 (Ls v2.s.cs),lI v2.sz,.lst true 1 (Ls v2.ac),.lst true 1 (Ls v3)],[1,2,3,4,5,6,7,8,9,10,11,12,13],by simp [SF.cells,SM.cells,UA,U1,IA,I1,LA,L1,BA,B1,EA,E1,E2,eB,eI,eL,eM],by simp,(UpL.refl _)⟩
attribute [local simp] unk unA unE unT unC flat
noncomputable def Q1I (s_:SM) (t_:SM):Option (SM × Int) :=
 (Q1V [s_,t_]).bind fun v1 =>
 if ¬ (v1=true) then
  some ((⟨(⟨(⟨0,[],[],[],[]⟩:Cat),[],[]⟩:SF),(⟨(⟨0,[],[],[],[]⟩:Cat),[],[]⟩:SF),[]⟩:SM),1)
 else
  (Q2v s_.s t_.s).bind fun v3 =>
  if ¬ (v3=true) then
   some ((⟨(⟨(⟨0,[],[],[],[]⟩:Cat),[],[]⟩:SF),(⟨(⟨0,[],[],[],[]⟩:Cat),[],[]⟩:SF),[]⟩:SM),5)
  else
   (Q1f s_.t t_.t).bind fun v5 =>
   if ¬ (v5.2.2=true) then
    some ((⟨(⟨(⟨0,[],[],[],[]⟩:Cat),[],[]⟩:SF),(⟨(⟨0,[],[],[],[]⟩:Cat),[],[]⟩:SF),[]⟩:SM),3)
   else
    (Q11 (σ:=List (List Int) × Int) (ε:=List (List Int)) (fun s32 =>
     if s32.2<(s_.p.length:Int) then
      ass (0≤s32.2∧s32.2<(s_.p.length:Int)) <|
      (Q11 (σ:=List Int × Int) (ε:=List Int) (fun s45 =>
       if s45.2<((rx s_.p s32.2).length:Int) then
        ass (0≤s45.2∧s45.2<((rx s_.p s32.2).length:Int)) <|
        ass (0≤s32.2∧s32.2<(t_.t.sz.length:Int)) <|
        ass (B64 ((ix (rx s_.p s32.2) s45.2) * (ix t_.t.sz s32.2))) <|
        ass (0≤s32.2∧s32.2<(t_.p.length:Int)) <|
        ass (0≤s45.2∧s45.2<((rx t_.p s32.2).length:Int)) <|
        ass (B64 (((ix (rx s_.p s32.2) s45.2) * (ix t_.t.sz s32.2))+(ix (rx t_.p s32.2) s45.2))) <|
        ass ((s45.1++[((ix (rx s_.p s32.2) s45.2) * (ix t_.t.sz s32.2))+(ix (rx t_.p s32.2) s45.2)]).length≤1073741824) <|
        ass (B64 (s45.2+1)) <|
        some (Ctl.next (s45.1++[((ix (rx s_.p s32.2) s45.2) * (ix t_.t.sz s32.2))+(ix (rx t_.p s32.2) s45.2)],s45.2+1))
       else
        some (Ctl.ret s45.1)) fuel ([],0)).bind fun b35 =>
      ass ((s32.1++[b35]).length≤1073741824) <|
      ass (B64 (s32.2+1)) <|
      some (Ctl.next (s32.1++[b35],s32.2+1))
     else
      some (Ctl.ret s32.1)) fuel ([],0)).bind fun b7 =>
    (Q3t s_.s v5.1 b7).bind fun v57 =>
    some (v57,0)
@[simp] abbrev Y3 (a:SF × List (List (List Int)) × Bool) (b:List (Nat × Ent)):List (Nat × Ent):=(0,.mix 15 [(YZ (YZ [nS]))])::(1,.mix 7 [[iV a.1.s.n,.own 2 0 a.1.s.fr.length,.own 3 0 a.1.s.to.length,.own 4 0 a.1.s.id.length,.own 5 0 a.1.s.cs.length,.own 6 0 a.1.sz.length,.own 7 0 a.1.ac.length]])::(2,rI a.1.s.fr)::(3,rI a.1.s.to)::(4,rI a.1.s.id)::(5,.row 1 (Ls a.1.s.cs))::(6,rI a.1.sz)::(7,.row 1 (Ls a.1.ac))::b
@[simp] abbrev Yf (a b:SM) (c:List (Nat × AV)):List (Nat × AV):=(2,.rptr (SM.cells true a))::(3,.rptr (SM.cells true b))::(4,.adr 0 0 0)::(6,.adr 1 0 0)::c
@[simp] abbrev Yl (a:SM) (b:List (Nat × Ent)):List (Nat × Ent):=(0,.mix 15 [[iV a.s.s.n,.own 1 0 a.s.s.fr.length,.own 2 0 a.s.s.to.length,.own 3 0 a.s.s.id.length,.own 4 0 a.s.s.cs.length,.own 5 0 a.s.sz.length,.own 6 0 a.s.ac.length,iV a.t.s.n,.own 7 0 a.t.s.fr.length,.own 8 0 a.t.s.to.length,.own 9 0 a.t.s.id.length,.own 10 0 a.t.s.cs.length,.own 11 0 a.t.sz.length,.own 12 0 a.t.ac.length,.own 13 0 a.p.length]])::(1,rI a.s.s.fr)::(2,rI a.s.s.to)::(3,rI a.s.s.id)::(4,.row 1 (Ls a.s.s.cs))::(5,rI a.s.sz)::(6,.row 1 (Ls a.s.ac))::(7,rI a.t.s.fr)::(8,rI a.t.s.to)::(9,rI a.t.s.id)::(10,.row 1 (Ls a.t.s.cs))::(11,rI a.t.sz)::(12,.row 1 (Ls a.t.ac))::(13,.row 1 (Ls a.p))::b
@[simp] abbrev Yv (a:SM) (b:List (List Int) × Int) (c:List (Nat × AV)):List (Nat × AV):=(36,iV (a.p.length:Int))::(37,iV b.2)::(45,lI (rx a.p b.2))::(46,iV ((rx a.p b.2).length:Int))::c
@[simp] abbrev Yw (a:List (Nat × Ent)):List (Nat × Ent):=(2,.mix 15 [(YZ (YZ [nS]))])::a
@[simp] abbrev YA (a b:SM) (c:List (Nat × Ent)):List (Nat × Ent):=(0,.mix 15 [(SM.cells true a)])::(1,.mix 15 [(SM.cells true b)])::c
@[simp] abbrev YM (a:List (List Int) × Int) (b:List (Nat × AV)):List (Nat × AV):=(9,.own 8 0 a.1.length)::(10,iV a.2)::b
@[simp] abbrev Y01 (a b:SM) (c:List (AV)):List (AV):=.agg (a.cells true)::.agg (b.cells true)::c
theorem Q5M [Kd Tryz.prog] [Eo Tryz.prog] (s_:SM) (t_:SM) (r:SM × Int) (h:Q1I s_ t_=some r):Contract Tryz.prog 36 (Y01 s_ t_ []) (.tup [.agg (r.1.cells true),iV r.2]):=by
 refine Q38 (rvs:=[.cell 4 52,.tmp 5]) (rs:=[.agg (r.1.cells true),iV r.2]) Tryz.func36 rfl rfl rfl rfl (by simp [Tryz.f36]) fun F hN hP hW=>?_;unfold Q1I at h;refine Q3 (runQ hN fun K hK=>?_);simp [eM,eL,eI,Q2,Qf,Qu,SF.cells,SM.cells];repeat refine sdQ ?_
 refine hK _ ?_;clear hK K;refine tn (Qc (st':=⟨YG [],YA s_ t_ (Yw []),3⟩) (QU 3) (Q3 (Q3 (Qc (st':=⟨[(2,.rptr (SM.cells true s_)),(3,.adr 1 0 0),(4,.adr 2 0 0)],(1,.mix 15 [(SM.cells true t_)])::Yw [],3⟩) (Wk.frzD hW [0] (Q9v (.inr (.inr (.adr rfl (by simp) rfl (.cons (.ro rfl) (.cons (.ro rfl) (.cons (.ro rfl) (.cons (.ro rfl) (.cons (.ro rfl) (.cons (.ro rfl) (.cons (.ro rfl) (.cons (.ro rfl) (.cons (.ro rfl) (.cons (.ro rfl) (.cons (.ro rfl) (.cons (.ro rfl) (.cons (.ro rfl) (.cons (.ro rfl) (.cons (.ro rfl) .nil)))))))))))))))))) (Q9v (.inl rfl) (Q9v (.inl rfl) frz_n))) rfl (by simp [look])) (Qc (st':=⟨[(2,.rptr (SM.cells true s_)),(3,.rptr (SM.cells true t_)),(4,.adr 2 0 0)],Yw [],3⟩) (Wk.frzD hW [1] (Q9v (.inl rfl) (Q9v (.inr (.inr (.adr rfl (by simp) rfl (.cons (.ro rfl) (.cons (.ro rfl) (.cons (.ro rfl) (.cons (.ro rfl) (.cons (.ro rfl) (.cons (.ro rfl) (.cons (.ro rfl) (.cons (.ro rfl) (.cons (.ro rfl) (.cons (.ro rfl) (.cons (.ro rfl) (.cons (.ro rfl) (.cons (.ro rfl) (.cons (.ro rfl) (.cons (.ro rfl) .nil)))))))))))))))))) (Q9v (.inl rfl) frz_n))) rfl (by simp [look])) (runQ hN fun K hK=>?_))))));simp [eM,eL,eI,Q2,Qf,Qu,SF.cells,SM.cells];repeat with_reducible refine sdQ ?_
 replace ⟨v1,hv1,h⟩:=bind_some h;refine Q0 (Q62 _ v1 hv1) (.cons (.lits (es:=_) rfl (.cons rfl (.cons (.preT (by simp [SM.cells])) .nil) (.cons rfl (.cons (.preT (by simp [SM.cells])) .nil) .nil)) rfl) .nil) ?_;simp [eM,eL,eI,Q2,Qf,Qu,SF.cells,SM.cells];repeat refine sdQ ?_
 refine hK _ ?_;clear hK K;refine tn (Qc (st':=⟨(2,.rptr (SM.cells true s_))::(3,.rptr (SM.cells true t_))::YP [(16,.val (.bool (!v1)))],Yr [],1⟩) (Q14 [(2,0)]) (Q6 rfl (fun g=>?_) fun g=>?_))
 ·have g2:¬ (v1=true):=gQ;clear g;replace h:=if_l g2 h;refine Q3 (runQ hN fun K hK=>?_);simp [eM,eL,eI,Q2,Qf,Qu,SF.cells,SM.cells];repeat refine sdQ ?_
  refine hK _ (tn (Qc (st':=⟨YP [(5,iV 1)],Yr [],1⟩) (Q14 [(0,0)]) (Qg (tr ?_))));clear hK K;have hr:=Option.some.inj h;rw [← hr];refine ⟨_,(.cell Q6M rfl rfl rfl (by simp) (by simp) (.tmp .nil)),?_⟩;refine ⟨(.agg rfl (.one rfl rfl .nil)),[iV 0,nS,nS,nS,nS,nS,nS,iV 0,nS,nS,nS,nS,nS,nS,nS,iV 1],[],by simp [SF.cells,SM.cells,UA,U1,IA,I1,LA,L1,BA,B1,EA,E1,E2,eB,eI,eL,eM],by simp,(.cons .refl (.cons .nil (.cons .nil (.cons .nil (.cons .nil (.cons .nil (.cons .nil (.cons .refl (.cons .nil (.cons .nil (.cons .nil (.cons .nil (.cons .nil (.cons .nil (.cons .nil (.cons .refl .nil))))))))))))))))⟩
 have g2:¬ (¬ (v1=true)):=gQ;clear g;replace h:=if_r g2 h;refine Q7 (tn (Q3 (Q3 (runQ hN fun K hK=>?_))));simp [eM,eL,eI,Q2,Qf,Qu,SF.cells,SM.cells];repeat with_reducible refine sdQ ?_
 replace ⟨v3,hv3,h⟩:=bind_some h;refine Q0 (Q7I _ _ v3 hv3) (.cons (.preT (by simp [SF.cells,SM.cells])) (.cons (.preT (by simp [SF.cells,SM.cells])) .nil)) ?_;simp [eM,eL,eI,Q2,Qf,Qu,SF.cells,SM.cells];repeat refine sdQ ?_
 refine hK _ ?_;clear hK K;refine tn (Qc (st':=⟨(2,.rptr (SM.cells true s_))::(3,.rptr (SM.cells true t_))::YP [(21,.val (.bool (!v3)))],Yr [],1⟩) (Q14 [(0,0)]) (Q6 rfl (fun g=>?_) fun g=>?_))
 ·have g4:¬ (v3=true):=gQ;clear g;replace h:=if_l g4 h;refine Q3 (runQ hN fun K hK=>?_);simp [eM,eL,eI,Q2,Qf,Qu,SF.cells,SM.cells];repeat refine sdQ ?_
  refine hK _ (tn (Qc (st':=⟨YP [(5,iV 5)],Yr [],1⟩) (Q14 [(0,0)]) (Qg (tr ?_))));clear hK K;have hr:=Option.some.inj h;rw [← hr];refine ⟨_,(.cell Q6M rfl rfl rfl (by simp) (by simp) (.tmp .nil)),?_⟩;refine ⟨(.agg rfl (.one rfl rfl .nil)),[iV 0,nS,nS,nS,nS,nS,nS,iV 0,nS,nS,nS,nS,nS,nS,nS,iV 5],[],by simp [SF.cells,SM.cells,UA,U1,IA,I1,LA,L1,BA,B1,EA,E1,E2,eB,eI,eL,eM],by simp,(.cons .refl (.cons .nil (.cons .nil (.cons .nil (.cons .nil (.cons .nil (.cons .nil (.cons .refl (.cons .nil (.cons .nil (.cons .nil (.cons .nil (.cons .nil (.cons .nil (.cons .nil (.cons .refl .nil))))))))))))))))⟩
 have g4:¬ (¬ (v3=true)):=gQ;clear g;replace h:=if_r g4 h;refine Q7 (tn (Q3 (runQ hN fun K hK=>?_)));simp [eM,eL,eI,Q2,Qf,Qu,SF.cells,SM.cells];repeat with_reducible refine sdQ ?_
 replace ⟨v5,hv5,h⟩:=bind_some h;refine Q0 (Q5N _ _ v5 hv5) (.cons (.preT (by simp [SF.cells,SM.cells])) (.cons (.preT (by simp [SF.cells,SM.cells])) .nil)) ?_;simp [eM,eL,eI,Q2,Qf,Qu,SF.cells,SM.cells];repeat refine sdQ ?_
 refine hK _ ?_;clear hK K;refine tn (Qc (st':=⟨Yf s_ t_ [(8,.val (.bool v5.2.2))],Y3 v5 [],8⟩) (Q14 [(0,0),(10,1),(2,2),(3,3),(4,4),(5,5),(6,6),(7,7)]) (Q3 (Q3 (runQ hN fun K hK=>?_))));simp [eM,eL,eI,Q2,Qf,Qu,SF.cells,SM.cells];repeat refine sdQ ?_
 refine hK _ ?_;clear hK K;refine tn (Q6 rfl (fun g=>?_) fun g=>?_)
 ·have g6:¬ (v5.2.2=true):=gQ;clear g;replace h:=if_l g6 h;refine Q3 (runQ hN fun K hK=>?_);simp [eM,eL,eI,Q2,Qf,Qu,SF.cells,SM.cells];repeat refine sdQ ?_
  refine hK _ (tn (Qc (st':=⟨YP [(5,iV 3)],Yr [],1⟩) (Q14 [(0,0)]) (Qg (tr ?_))));clear hK K;have hr:=Option.some.inj h;rw [← hr];refine ⟨_,(.cell Q6M rfl rfl rfl (by simp) (by simp) (.tmp .nil)),?_⟩;refine ⟨(.agg rfl (.one rfl rfl .nil)),[iV 0,nS,nS,nS,nS,nS,nS,iV 0,nS,nS,nS,nS,nS,nS,nS,iV 3],[],by simp [SF.cells,SM.cells,UA,U1,IA,I1,LA,L1,BA,B1,EA,E1,E2,eB,eI,eL,eM],by simp,(.cons .refl (.cons .nil (.cons .nil (.cons .nil (.cons .nil (.cons .nil (.cons .nil (.cons .refl (.cons .nil (.cons .nil (.cons .nil (.cons .nil (.cons .nil (.cons .nil (.cons .nil (.cons .refl .nil))))))))))))))))⟩
 have g6:¬ (¬ (v5.2.2=true)):=gQ;clear g;replace h:=if_r g6 h;refine Q7 (tn (Q3 (runQ hN fun K hK=>?_)));simp [eM,eL,eI,Q2,Qf,Qu,SF.cells,SM.cells];repeat refine sdQ ?_
 refine hK _ ?_;clear hK K;refine tn (Qc (st':=⟨Yf s_ t_ [(9,.own 8 0 0)],Y3 v5 [(8,.mix 1 [])],9⟩) (QU 9) (Q3 (Q3 (runQ hN fun K hK=>?_))));simp [eM,eL,eI,Q2,Qf,Qu,SF.cells,SM.cells];repeat refine sdQ ?_
 refine hK _ (tn (Qc (st':=⟨Yf s_ t_ [(9,.own 8 0 0),(36,iV (s_.p.length:Int)),(37,iV 0)],Y3 v5 [(8,.mix 1 [])],9⟩) (QU 9) ?_));clear hK K;replace ⟨e7,h,h7⟩:=bind_some h;refine QQ (fun b7:List (List Int)=>⟨(2,.rptr (SM.cells true s_))::YP [(6,.adr 1 0 0),(9,.own 8 0 b7.length)],Y3 v5 [(8,.row 1 (Ls b7))],9⟩) (fun b7=>b7=e7) ?_ ?_
 ·refine Q5 (Q13 h (fun s32:List (List Int) × Int=>⟨Yf s_ t_ [(9,.own 8 0 s32.1.length),(36,iV (s_.p.length:Int)),(37,iV s32.2)],Y3 v5 [(8,.row 1 (Ls s32.1))],9⟩) (Q3W ⟨Yf s_ t_ [(9,.own 8 0 0),(36,iV (s_.p.length:Int)),(37,iV 0)],Y3 v5 [(8,.row 1 (Ls []))],9⟩ (Wk.nils [] (by simp) (by simp) (by simp [nlA]) (by simp [entN,nlL,nlA,SF.cells,SM.cells,UA,U1,IA,I1,LA,L1,BA,B1,EA,E1,E2,eB,eI,eL,eM]) (by simp)) (QU 9)) ?_);clear h;intro k32 s32 c32 h hk32;refine Q3 (runQ hN fun K hK=>?_);simp [eM,eL,eI,Q2,Qf,Qu,SF.cells,SM.cells];repeat refine sdQ ?_
  refine hK _ ?_;clear hK K;refine tn (Q3 (Q6 rfl (fun g=>?_) fun g=>?_))
  ·have g33:s32.2<(s_.p.length:Int):=gQ;clear g;replace h:=if_l g33 h;refine Q7 (tn (Q3 (Q5 (Q3 (runQ hN fun K hK=>?_)))));simp [eM,eL,eI,Q2,Qf,Qu,SF.cells,SM.cells];(repeat refine sdQ ?_);refine hK _ ?_;clear hK K;refine tn (Qc (st':=⟨Yf s_ t_ (YM s32 [(36,iV (s_.p.length:Int)),(37,iV s32.2)]),Y3 v5 [(8,.row 1 (Ls s32.1))],9⟩) (QU 9) (Q3 (runQ hN fun K hK=>?_)));simp [eM,eL,eI,Q2,Qf,Qu,SF.cells,SM.cells];(repeat refine sdQ ?_);refine hK _ ?_;clear hK K;refine tn (Qc (st':=⟨Yf s_ t_ (YM s32 [(11,.own 9 0 0),(36,iV (s_.p.length:Int)),(37,iV s32.2)]),Y3 v5 [(8,.row 1 (Ls s32.1)),(9,.mix 1 [])],10⟩) (QU 10) (Q3 (Q3 (runQ hN fun K hK=>?_))));replace ⟨a34,h⟩:=Q8 h;simp [eM,eL,eI,Q2,Qf,Qu,SF.cells,SM.cells,at_L a34];(repeat refine sdQ ?_);refine hK _ (tn (Qc (st':=⟨Yf s_ t_ (YM s32 ((11,.own 9 0 0)::Yv s_ s32 [(47,iV 0)])),Y3 v5 [(8,.row 1 (Ls s32.1)),(9,.mix 1 [])],10⟩) (QU 10) ?_));clear hK K;replace ⟨e35,h,h35⟩:=bind_some h
   refine QQ (fun b35:List Int=>⟨Yf s_ t_ [(9,.own 8 0 s32.1.length),(11,.own 9 0 b35.length),(36,iV (s_.p.length:Int)),(37,iV s32.2)],Y3 v5 [(8,.row 1 (Ls s32.1)),(9,rI b35)],10⟩) (fun b35=>b35=e35) ?_ ?_
   ·refine Q5 (Q13 h (fun s45:List Int × Int=>⟨Yf s_ t_ (YM s32 ((11,.own 9 0 s45.1.length)::Yv s_ s32 [(47,iV s45.2)])),Y3 v5 [(8,.row 1 (Ls s32.1)),(9,rI s45.1)],10⟩) (Q3W ⟨Yf s_ t_ (YM s32 ((11,.own 9 0 0)::Yv s_ s32 [(47,iV 0)])),Y3 v5 [(8,.row 1 (Ls s32.1)),(9,rI [])],10⟩ (Wk.nils [] (by simp) (by simp) (by simp [nlA]) (by simp [entN,nlL,nlA,SF.cells,SM.cells,UA,U1,IA,I1,LA,L1,BA,B1,EA,E1,E2,eB,eI,eL,eM]) (by simp)) (QU 10)) ?_);clear h;intro k45 s45 c45 h hk45;refine Q3 (runQ hN fun K hK=>?_);simp [eM,eL,eI,Q2,Qf,Qu,SF.cells,SM.cells];(repeat refine sdQ ?_);refine hK _ ?_;clear hK K;refine tn (Q3 (Q6 rfl (fun g=>?_) fun g=>?_))
    ·have g46:s45.2<((rx s_.p s32.2).length:Int):=gQ;clear g;replace h:=if_l g46 h;refine Q7 (tn (Q3 (Q5 (Q3 (runQ hN fun K hK=>?_)))));replace ⟨a47,h⟩:=Q8 h;simp [eM,eL,eI,Q2,Qf,Qu,SF.cells,SM.cells,at_I a47];(repeat refine sdQ ?_);refine hK _ ?_;clear hK K;refine tn (Qc (st':=⟨Yf s_ t_ (YM s32 ((11,.own 9 0 s45.1.length)::(12,iV s45.2)::(13,iV (ix (rx s_.p s32.2) s45.2))::Yv s_ s32 [(47,iV s45.2)])),Y3 v5 [(8,.row 1 (Ls s32.1)),(9,rI s45.1)],10⟩) (QU 10) (runQ hN fun K hK=>?_));replace ⟨a48,h⟩:=Q8 h;replace ⟨a49,h⟩:=Q8 h;replace ⟨a50,h⟩:=Q8 h;replace ⟨a51,h⟩:=Q8 h;replace ⟨a52,h⟩:=Q8 h;replace ⟨a53,h⟩:=Q8 h;(try simp only [List.length_append,List.length_cons,List.length_nil] at a53);simp [eM,eL,eI,Q2,Qf,Qu,SF.cells,SM.cells,at_I a48,QA a49,at_L a50,at_I a51,QA a52,a53];(repeat refine sdQ ?_);refine hK _ ?_;clear hK K;refine bn (tn (Qc (st':=⟨Yf s_ t_ (YM s32 ((11,.own 9 0 ((s45.1++[((ix (rx s_.p s32.2) s45.2) * (ix t_.t.sz s32.2))+(ix (rx t_.p s32.2) s45.2)]).length))::Yv s_ s32 [(47,iV s45.2)])),Y3 v5 [(8,.row 1 (Ls s32.1)),(9,rI (s45.1++[((ix (rx s_.p s32.2) s45.2) * (ix t_.t.sz s32.2))+(ix (rx t_.p s32.2) s45.2)]))],10⟩) (Q14 [(0,0),(1,1),(2,2),(3,3),(4,4),(5,5),(6,6),(7,7),(8,8),(11,9)]) (runQ hN fun K hK=>?_)));replace ⟨a54,h⟩:=Q8 h;simp [eM,eL,eI,Q2,Qf,Qu,SF.cells,SM.cells,QA a54];(repeat refine sdQ ?_);refine hK _ ?_;clear hK K;cases h;exact rn (s':=(s45.1++[((ix (rx s_.p s32.2) s45.2) * (ix t_.t.sz s32.2))+(ix (rx t_.p s32.2) s45.2)],s45.2+1)) hk45 (QU 10)
    have g46:¬ (s45.2<((rx s_.p s32.2).length:Int)):=gQ;clear g;replace h:=if_r g46 h;refine Qk (tx (lx (bh ?_)));cases h;exact jn (b:=s45.1) hk45 (QU 10)
   intro b35 hb35;have h:=h35;(try rw [← hb35] at h);clear h35;(try dsimp only at h);refine runQ hN fun K hK=>?_;replace ⟨a55,h⟩:=Q8 h;(try simp only [List.length_append,List.length_cons,List.length_nil] at a55);simp [eM,eL,eI,Q2,Qf,Qu,SF.cells,SM.cells,a55];(repeat refine sdQ ?_);refine hK _ ?_;clear hK K;refine bn (tn (Qc (st':=⟨Yf s_ t_ [(9,.own 8 0 ((s32.1++[b35]).length)),(36,iV (s_.p.length:Int)),(37,iV s32.2)],Y3 v5 [(8,.row 1 (Ls (s32.1++[b35])))],9⟩) (Q14 [(0,0),(1,1),(2,2),(3,3),(4,4),(5,5),(6,6),(7,7),(11,8)]) (runQ hN fun K hK=>?_)));replace ⟨a56,h⟩:=Q8 h;simp [eM,eL,eI,Q2,Qf,Qu,SF.cells,SM.cells,QA a56];(repeat refine sdQ ?_);refine hK _ ?_;clear hK K;cases h;exact rn (s':=(s32.1++[b35],s32.2+1)) hk32 (QU 9)
  have g33:¬ (s32.2<(s_.p.length:Int)):=gQ;clear g;replace h:=if_r g33 h;refine Qk (tx (lx (bh ?_)));cases h;exact jn (b:=s32.1) hk32 (QU 9)
 intro b7 hb7;have h:=h7;try rw [← hb7] at h
 clear h7;try dsimp only at h
 refine Q3 (runQ hN fun K hK=>?_);simp [eM,eL,eI,Q2,Qf,Qu,SF.cells,SM.cells];repeat with_reducible refine sdQ ?_
 replace ⟨v57,hv57,h⟩:=bind_some h;refine Q0 (Qad _ _ _ v57 hv57) (.cons (.preT (by simp [SF.cells,SM.cells])) (.cons (.field rfl (by simp [SF.cells,SM.cells]) (.cons .val (.cons .w (.cons .w (.cons .w (.cons .w (.cons .w (.cons .w .nil)))))))) (.cons .w .nil))) ?_;simp [eM,eL,eI,Q2,Qf,Qu,SF.cells,SM.cells];repeat refine sdQ ?_
 refine hK _ (tn (Qc (st':=⟨YP [(5,iV 0)],Yl v57 [],14⟩) (Q14 [(0,0),(10,1),(11,2),(12,3),(13,4),(14,5),(15,6),(17,7),(18,8),(19,9),(20,10),(21,11),(22,12),(23,13)]) (Qg ?_)));clear hK K;have hr:=Option.some.inj h;rw [← hr];refine ⟨_,(.cell Q6M rfl rfl rfl (by simp) (by simp) (.tmp .nil)),?_⟩;refine ⟨(.agg rfl (.one rfl rfl .nil)),[iV v57.s.s.n,lI v57.s.s.fr,lI v57.s.s.to,lI v57.s.s.id,.lst true 1 (Ls v57.s.s.cs),lI v57.s.sz,.lst true 1 (Ls v57.s.ac),iV v57.t.s.n,lI v57.t.s.fr,lI v57.t.s.to,lI v57.t.s.id,.lst true 1 (Ls v57.t.s.cs),lI v57.t.sz,.lst true 1 (Ls v57.t.ac),.lst true 1 (Ls v57.p),iV 0],[1,2,3,4,5,6,7,8,9,10,11,12,13],by simp [SF.cells,SM.cells,UA,U1,IA,I1,LA,L1,BA,B1,EA,E1,E2,eB,eI,eL,eM],by simp,(UpL.refl _)⟩
attribute [local simp] unk unA unE unT unC flat
noncomputable def Q34 (f_:SF) (g_:SF) (parts_:List (List Int)):Option SM :=
 (Q2P f_).bind fun v1 =>
 (Q2P g_).bind fun v2 =>
 (Q33 parts_).bind fun v3 =>
 some (⟨v1,v2,v3⟩:SM)
theorem Q8y [Kd Tryz.prog] (f_:SF) (g_:SF) (parts_:List (List Int)) (r:SM) (h:Q34 f_ g_ parts_=some r):Contract Tryz.prog 82 [.agg (f_.cells true),.agg (g_.cells true),.lst true 1 (Ls parts_)] (.agg (r.cells true)):=by
 refine Qq (rvs:=[.cell 6 52]) (rs:=[.agg (r.cells true)]) Tryz.func82 rfl rfl rfl rfl (by simp [Tryz.f82]) fun F hN hP=>?_;unfold Q34 at h;refine Q3 (runQ hN fun K hK=>?_);simp [eM,eL,eI,Q2,Qf,Qu,SF.cells,SM.cells];repeat refine sdQ ?_
 refine hK _ ?_;clear hK K;refine tn (Qc (st':=⟨(2,.lst true 1 (Ls parts_))::YF [(6,.adr 2 0 0)],(0,.mix 7 [(SF.cells true f_)])::(1,.mix 7 [(SF.cells true g_)])::Yw [],3⟩) (QU 3) (Q3 (runQ hN fun K hK=>?_)));simp [eM,eL,eI,Q2,Qf,Qu,SF.cells,SM.cells];repeat with_reducible refine sdQ ?_
 replace ⟨v1,hv1,h⟩:=bind_some h;refine Q0 (Q6m _ v1 hv1) (.cons (.aggL (.cons .val (.cons .lst (.cons .lst (.cons .lst (.cons .lst (.cons .lst (.cons .lst .nil)))))))) .nil) ?_;simp [eM,eL,eI,Q2,Qf,Qu,SF.cells,SM.cells];repeat with_reducible refine sdQ ?_
 replace ⟨v2,hv2,h⟩:=bind_some h;refine Q0 (Q6m _ v2 hv2) (.cons (.aggL (.cons .val (.cons .lst (.cons .lst (.cons .lst (.cons .lst (.cons .lst (.cons .lst .nil)))))))) .nil) ?_;simp [eM,eL,eI,Q2,Qf,Qu,SF.cells,SM.cells];repeat with_reducible refine sdQ ?_
 replace ⟨v3,hv3,h⟩:=bind_some h;refine Q0 (Q8x _ v3 hv3) (.cons .lst .nil) ?_;simp [eM,eL,eI,Q2,Qf,Qu,SF.cells,SM.cells];repeat refine sdQ ?_
 refine hK _ (tn (Qc (st':=⟨[(6,.adr 0 0 0)],Ym v1 v2 v3 [],14⟩) (Q14 [(2,0),(4,1),(5,2),(6,3),(7,4),(8,5),(9,6),(11,7),(12,8),(13,9),(14,10),(15,11),(16,12),(17,13)]) (Qg ?_)));clear hK K;have hr:=Option.some.inj h;rw [← hr];refine ⟨_,(.cell Q6M rfl rfl rfl (by simp) (by simp) .nil),?_⟩;refine ⟨(.agg rfl .nil),[iV v1.s.n,lI v1.s.fr,lI v1.s.to,lI v1.s.id,.lst true 1 (Ls v1.s.cs),lI v1.sz,.lst true 1 (Ls v1.ac),iV v2.s.n,lI v2.s.fr,lI v2.s.to,lI v2.s.id,.lst true 1 (Ls v2.s.cs),lI v2.sz,.lst true 1 (Ls v2.ac),.lst true 1 (Ls v3)],[1,2,3,4,5,6,7,8,9,10,11,12,13],by simp [SF.cells,SM.cells,UA,U1,IA,I1,LA,L1,BA,B1,EA,E1,E2,eB,eI,eL,eM],by simp,(UpL.refl _)⟩
attribute [local simp] unk unA unE unT unC flat
noncomputable def Q35 (s_:SM) (t_:SM) (sources_:Bool) (targets_:Bool):Option Int :=
 (
  (Q21 s_).bind fun v2 =>
  if ¬ (v2=true) then
   some true
  else
   (Q21 t_).bind fun v4 =>
   some (!v4):Option (Bool)).bind fun b1 =>
 if b1=true then
  some 1
 else
  (
   if sources_=true then
    (Q1R s_.s t_.s).bind fun v8 =>
    if ¬ (v8=true) then
     some true
    else
     if targets_=true then
      (Q1R s_.t t_.t).bind fun v11 =>
      some (!v11)
     else
      some false
   else
    if targets_=true then
     (Q1R s_.t t_.t).bind fun v13 =>
     some (!v13)
    else
     some false:Option (Bool)).bind fun b6 =>
  if b6=true then
   some 5
  else
   some 0
theorem Q8A [Kd Tryz.prog] (s_:SM) (t_:SM) (sources_:Bool) (targets_:Bool) (r:Int) (h:Q35 s_ t_ sources_ targets_=some r):Contract Tryz.prog 56 (Y01 s_ t_ [.val (.bool sources_),.val (.bool targets_)]) (iV r):=by
 refine Qq (rvs:=[.tmp 8]) (rs:=[iV r]) Tryz.func56 rfl rfl rfl rfl (by simp [Tryz.f56]) fun F hN hP=>?_;unfold Q35 at h;refine Q3 (runQ hN fun K hK=>?_);simp [eM,eL,eI,Q2,Qf,Qu,SF.cells,SM.cells];repeat refine sdQ ?_
 refine hK _ (tn (Qc (st':=⟨(2,.val (.bool sources_))::(3,.val (.bool targets_))::YP [(5,.adr 1 0 0)],YA s_ t_ [],2⟩) (Q14 [(0,0),(1,1)]) (Q3 (Q5 (Q3 ?_)))));clear hK K;replace ⟨e1,h,h1⟩:=bind_some h;refine QQ (fun b1:Bool=>⟨(2,.val (.bool sources_))::(3,.val (.bool targets_))::YP [(5,.adr 1 0 0),(9,.val (.bool b1))],YA s_ t_ [],2⟩) (fun b1=>b1=e1) ?_ ?_
 ·refine runQ hN fun K hK=>?_;simp [eM,eL,eI,Q2,Qf,Qu,SF.cells,SM.cells];repeat with_reducible refine sdQ ?_
  replace ⟨v2,hv2,h⟩:=bind_some h;refine Q0 (Q4U _ v2 hv2) (.cons (.aggL (.cons .val (.cons .lst (.cons .lst (.cons .lst (.cons .lst (.cons .lst (.cons .lst (.cons .val (.cons .lst (.cons .lst (.cons .lst (.cons .lst (.cons .lst (.cons .lst (.cons .lst .nil)))))))))))))))) .nil) ?_;simp [eM,eL,eI,Q2,Qf,Qu,SF.cells,SM.cells];repeat with_reducible refine sdQ ?_
  refine Q2j (fun g=>?_) (fun g=>?_)
  ·have g3:¬ (¬ (v2=true)):=gQ;clear g;replace h:=if_r g3 h;simp [eM,eL,eI,Q2,Qf,Qu,SF.cells,SM.cells];(repeat with_reducible refine sdQ ?_);replace ⟨v4,hv4,h⟩:=bind_some h;refine Q0 (Q4U _ v4 hv4) (.cons (.aggL (.cons .val (.cons .lst (.cons .lst (.cons .lst (.cons .lst (.cons .lst (.cons .lst (.cons .val (.cons .lst (.cons .lst (.cons .lst (.cons .lst (.cons .lst (.cons .lst (.cons .lst .nil)))))))))))))))) .nil) ?_;simp [eM,eL,eI,Q2,Qf,Qu,SF.cells,SM.cells];(repeat refine sdQ ?_);refine hK _ ?_;exact jn (b:=!v4) (Option.some.inj h) (Q14 [(0,0),(1,1)])
  have g3:¬ (v2=true):=gQ;clear g;replace h:=if_l g3 h;simp [eM,eL,eI,Q2,Qf,Qu,SF.cells,SM.cells];repeat refine sdQ ?_
  refine hK _ ?_;exact jn (b:=true) (Option.some.inj h) (Q14 [(0,0),(1,1)])
 intro b1 hb1;have h:=h1;try rw [← hb1] at h
 clear h1;try dsimp only at h
 refine Q6 rfl (fun g=>?_) fun g=>?_
 ·have g5:b1=true:=gQ;clear g;replace h:=if_l g5 h;refine Q3 (runQ hN fun K hK=>?_);simp [eM,eL,eI,Q2,Qf,Qu,SF.cells,SM.cells];repeat refine sdQ ?_
  refine hK _ (tn (Qc (st':=⟨[(8,iV 1)],[],0⟩) (Q14 []) (Qg (br (tr ?_)))));clear hK K;have hr:=Option.some.inj h;rw [← hr];refine ⟨_,(.tmp .nil),?_⟩;refine ⟨(.one rfl rfl .nil),[iV 1],[],by simp [SF.cells,SM.cells,UA,U1,IA,I1,LA,L1,BA,B1,EA,E1,E2,eB,eI,eL,eM],by simp,(UpL.refl _)⟩
 have g5:¬ (b1=true):=gQ;clear g;replace h:=if_r g5 h;refine Q3 ?_;replace ⟨e6,h,h6⟩:=bind_some h;refine QQ (fun b6:Bool=>⟨[(18,.val (.bool b6))],[],0⟩) (fun b6=>b6=e6) ?_ ?_
 ·refine runQ hN fun K hK=>?_;simp [eM,eL,eI,Q2,Qf,Qu,SF.cells,SM.cells];repeat with_reducible refine sdQ ?_
  refine Q2j (fun g=>?_) (fun g=>?_)
  ·have g7:sources_=true:=gQ;clear g;replace h:=if_l g7 h;simp [eM,eL,eI,Q2,Qf,Qu,SF.cells,SM.cells];(repeat with_reducible refine sdQ ?_);replace ⟨v8,hv8,h⟩:=bind_some h;refine Q0 (Q3V _ _ v8 hv8) (.cons (.aggL (.cons .val (.cons .lst (.cons .lst (.cons .lst (.cons .lst (.cons .lst (.cons .lst .nil)))))))) (.cons (.aggL (.cons .val (.cons .lst (.cons .lst (.cons .lst (.cons .lst (.cons .lst (.cons .lst .nil)))))))) .nil)) ?_;simp [eM,eL,eI,Q2,Qf,Qu,SF.cells,SM.cells];(repeat with_reducible refine sdQ ?_);refine Q2j (fun g=>?_) (fun g=>?_)
   ·have g9:¬ (¬ (v8=true)):=gQ;clear g;replace h:=if_r g9 h;simp [eM,eL,eI,Q2,Qf,Qu,SF.cells,SM.cells];(repeat with_reducible refine sdQ ?_);refine Q2j (fun g=>?_) (fun g=>?_)
    ·have g10:targets_=true:=gQ;clear g;replace h:=if_l g10 h;simp [eM,eL,eI,Q2,Qf,Qu,SF.cells,SM.cells];(repeat with_reducible refine sdQ ?_);replace ⟨v11,hv11,h⟩:=bind_some h;refine Q0 (Q3V _ _ v11 hv11) (.cons (.aggL (.cons .val (.cons .lst (.cons .lst (.cons .lst (.cons .lst (.cons .lst (.cons .lst .nil)))))))) (.cons (.aggL (.cons .val (.cons .lst (.cons .lst (.cons .lst (.cons .lst (.cons .lst (.cons .lst .nil)))))))) .nil)) ?_;simp [eM,eL,eI,Q2,Qf,Qu,SF.cells,SM.cells];(repeat refine sdQ ?_);refine hK _ ?_;exact jn (b:=!v11) (Option.some.inj h) (Q14 [])
    have g10:¬ (targets_=true):=gQ;clear g;replace h:=if_r g10 h;simp [eM,eL,eI,Q2,Qf,Qu,SF.cells,SM.cells];(repeat refine sdQ ?_);refine hK _ ?_;exact jn (b:=false) (Option.some.inj h) (Q14 [])
   have g9:¬ (v8=true):=gQ;clear g;replace h:=if_l g9 h;simp [eM,eL,eI,Q2,Qf,Qu,SF.cells,SM.cells];(repeat refine sdQ ?_);refine hK _ ?_;exact jn (b:=true) (Option.some.inj h) (Q14 [])
  have g7:¬ (sources_=true):=gQ;clear g;replace h:=if_r g7 h;simp [eM,eL,eI,Q2,Qf,Qu,SF.cells,SM.cells];repeat with_reducible refine sdQ ?_
  refine Q2j (fun g=>?_) (fun g=>?_)
  ·have g12:targets_=true:=gQ;clear g;replace h:=if_l g12 h;simp [eM,eL,eI,Q2,Qf,Qu,SF.cells,SM.cells];(repeat with_reducible refine sdQ ?_);replace ⟨v13,hv13,h⟩:=bind_some h;refine Q0 (Q3V _ _ v13 hv13) (.cons (.aggL (.cons .val (.cons .lst (.cons .lst (.cons .lst (.cons .lst (.cons .lst (.cons .lst .nil)))))))) (.cons (.aggL (.cons .val (.cons .lst (.cons .lst (.cons .lst (.cons .lst (.cons .lst (.cons .lst .nil)))))))) .nil)) ?_;simp [eM,eL,eI,Q2,Qf,Qu,SF.cells,SM.cells];(repeat refine sdQ ?_);refine hK _ ?_;exact jn (b:=!v13) (Option.some.inj h) (Q14 [])
  have g12:¬ (targets_=true):=gQ;clear g;replace h:=if_r g12 h;simp [eM,eL,eI,Q2,Qf,Qu,SF.cells,SM.cells];repeat refine sdQ ?_
  refine hK _ ?_;exact jn (b:=false) (Option.some.inj h) (Q14 [])
 intro b6 hb6;have h:=h6;try rw [← hb6] at h
 clear h6;try dsimp only at h
 refine Q6 rfl (fun g=>?_) fun g=>?_
 ·have g14:b6=true:=gQ;clear g;replace h:=if_l g14 h;refine Q3 (runQ hN fun K hK=>?_);simp [eM,eL,eI,Q2,Qf,Qu,SF.cells,SM.cells];repeat refine sdQ ?_
  refine hK _ (tn (Qc (st':=⟨[(8,iV 5)],[],0⟩) (Q14 []) (Qg (br (tr ?_)))));clear hK K;have hr:=Option.some.inj h;rw [← hr];refine ⟨_,(.tmp .nil),?_⟩;refine ⟨(.one rfl rfl .nil),[iV 5],[],by simp [SF.cells,SM.cells,UA,U1,IA,I1,LA,L1,BA,B1,EA,E1,E2,eB,eI,eL,eM],by simp,(UpL.refl _)⟩
 have g14:¬ (b6=true):=gQ;clear g;replace h:=if_r g14 h;refine Q7 (bn (tn (Q3 (runQ hN fun K hK=>?_))));simp [eM,eL,eI,Q2,Qf,Qu,SF.cells,SM.cells];repeat refine sdQ ?_
 refine hK _ (tn (Qc (st':=⟨[(8,iV 0)],[],0⟩) (Q14 []) (Qg ?_)));clear hK K;have hr:=Option.some.inj h;rw [← hr];refine ⟨_,(.tmp .nil),?_⟩;refine ⟨(.one rfl rfl .nil),[iV 0],[],by simp [SF.cells,SM.cells,UA,U1,IA,I1,LA,L1,BA,B1,EA,E1,E2,eB,eI,eL,eM],by simp,(UpL.refl _)⟩
attribute [local simp] unk unA unE unT unC flat
noncomputable def Q1J (s_:SM) (t_:SM):Option (SM × Int) :=
 (Q35 s_ t_ true false).bind fun v1 =>
 if ¬ (v1=0) then
  some ((⟨(⟨(⟨0,[],[],[],[]⟩:Cat),[],[]⟩:SF),(⟨(⟨0,[],[],[],[]⟩:Cat),[],[]⟩:SF),[]⟩:SM),v1)
 else
  (Q1m s_.t t_.t).bind fun v3 =>
  (Q1S v3.1).bind fun v4 =>
  if ¬ (v4=0) then
   some ((⟨(⟨(⟨0,[],[],[],[]⟩:Cat),[],[]⟩:SF),(⟨(⟨0,[],[],[],[]⟩:Cat),[],[]⟩:SF),[]⟩:SM),3)
  else
   (Q11 (σ:=List (List Int) × Int) (ε:=List (List Int)) (fun s34 =>
    if s34.2<(s_.p.length:Int) then
     (Q11 (σ:=List Int × Int) (ε:=List Int) (fun s48 =>
      ass (0≤s34.2∧s34.2<(s_.p.length:Int)) <|
      if s48.2<((rx s_.p s34.2).length:Int) then
       ass (0≤s34.2∧s34.2<(s_.p.length:Int)) <|
       ass (0≤s48.2∧s48.2<((rx s_.p s34.2).length:Int)) <|
       ass (0≤s34.2∧s34.2<(t_.t.sz.length:Int)) <|
       ass (B64 ((ix (rx s_.p s34.2) s48.2) * (ix t_.t.sz s34.2))) <|
       ass (0≤s34.2∧s34.2<(t_.p.length:Int)) <|
       ass (0≤s48.2∧s48.2<((rx t_.p s34.2).length:Int)) <|
       ass (B64 (((ix (rx s_.p s34.2) s48.2) * (ix t_.t.sz s34.2))+(ix (rx t_.p s34.2) s48.2))) <|
       ass ((s48.1++[((ix (rx s_.p s34.2) s48.2) * (ix t_.t.sz s34.2))+(ix (rx t_.p s34.2) s48.2)]).length≤1073741824) <|
       ass (B64 (s48.2+1)) <|
       some (Ctl.next (s48.1++[((ix (rx s_.p s34.2) s48.2) * (ix t_.t.sz s34.2))+(ix (rx t_.p s34.2) s48.2)],s48.2+1))
      else
       some (Ctl.ret s48.1)) fuel ([],0)).bind fun b36 =>
     ass ((s34.1++[b36]).length≤1073741824) <|
     ass (B64 (s34.2+1)) <|
     some (Ctl.next (s34.1++[b36],s34.2+1))
    else
     some (Ctl.ret s34.1)) fuel ([],0)).bind fun b6 =>
   (Q34 s_.s v3.1 b6).bind fun v62 =>
   some (v62,0)
@[simp] abbrev Y2 (a b:SM) (c:SF × List (List Int) × List (List Int)) (d:List (Nat × Ent)):List (Nat × Ent):=(0,.mix 15 [(SM.cells true a)])::(1,.mix 15 [(SM.cells true b)])::(2,.mix 15 [(YZ (YZ [nS]))])::(3,.mix 7 [[iV c.1.s.n,.own 4 0 c.1.s.fr.length,.own 5 0 c.1.s.to.length,.own 6 0 c.1.s.id.length,.own 7 0 c.1.s.cs.length,.own 8 0 c.1.sz.length,.own 9 0 c.1.ac.length]])::(4,rI c.1.s.fr)::(5,rI c.1.s.to)::(6,rI c.1.s.id)::(7,.row 1 (Ls c.1.s.cs))::(8,rI c.1.sz)::(9,.row 1 (Ls c.1.ac))::d
@[simp] abbrev YK (a:List (List Int) × Int) (b:List (Nat × AV)):List (Nat × AV):=(10,.own 10 0 a.1.length)::(11,iV a.2)::b
theorem Q5O [Kd Tryz.prog] (s_:SM) (t_:SM) (r:SM × Int) (h:Q1J s_ t_=some r):Contract Tryz.prog 35 (Y01 s_ t_ []) (.tup [.agg (r.1.cells true),iV r.2]):=by
 refine Qq (rvs:=[.cell 4 52,.tmp 5]) (rs:=[.agg (r.1.cells true),iV r.2]) Tryz.func35 rfl rfl rfl rfl (by simp [Tryz.f35]) fun F hN hP=>?_;unfold Q1J at h;refine Q3 (runQ hN fun K hK=>?_);simp [eM,eL,eI,Q2,Qf,Qu,SF.cells,SM.cells];repeat refine sdQ ?_
 refine hK _ ?_;clear hK K;refine tn (Qc (st':=⟨YG [],YA s_ t_ (Yw []),3⟩) (QU 3) (Q3 (runQ hN fun K hK=>?_)));simp [eM,eL,eI,Q2,Qf,Qu,SF.cells,SM.cells];repeat with_reducible refine sdQ ?_
 replace ⟨v1,hv1,h⟩:=bind_some h;refine Q0 (Q8A _ _ _ _ v1 hv1) (.cons (.aggL (.cons .val (.cons .lst (.cons .lst (.cons .lst (.cons .lst (.cons .lst (.cons .lst (.cons .val (.cons .lst (.cons .lst (.cons .lst (.cons .lst (.cons .lst (.cons .lst (.cons .lst .nil)))))))))))))))) (.cons (.aggL (.cons .val (.cons .lst (.cons .lst (.cons .lst (.cons .lst (.cons .lst (.cons .lst (.cons .val (.cons .lst (.cons .lst (.cons .lst (.cons .lst (.cons .lst (.cons .lst (.cons .lst .nil)))))))))))))))) (.cons .val (.cons .val .nil)))) ?_;simp [eM,eL,eI,Q2,Qf,Qu,SF.cells,SM.cells];repeat refine sdQ ?_
 refine hK _ ?_;clear hK K;refine tn (Qc (st':=⟨YG [(6,iV v1)],YA s_ t_ (Yw []),3⟩) (QU 3) (Q3 (Q3 (runQ hN fun K hK=>?_))));simp [eM,eL,eI,Q2,Qf,Qu,SF.cells,SM.cells];repeat refine sdQ ?_
 refine hK _ ?_;clear hK K;refine tn (Q6 rfl (fun g=>?_) fun g=>?_)
 ·have g2:¬ (v1=0):=gQ;clear g;replace h:=if_l g2 h;refine Q3 (runQ hN fun K hK=>?_);simp [eM,eL,eI,Q2,Qf,Qu,SF.cells,SM.cells];repeat refine sdQ ?_
  refine hK _ (tn (Qc (st':=⟨YP [(5,iV v1)],Yr [],1⟩) (Q14 [(2,0)]) (Qg (tr ?_))));clear hK K;have hr:=Option.some.inj h;rw [← hr];refine ⟨_,(.cell Q6M rfl rfl rfl (by simp) (by simp) (.tmp .nil)),?_⟩;refine ⟨(.agg rfl (.one rfl rfl .nil)),[iV 0,nS,nS,nS,nS,nS,nS,iV 0,nS,nS,nS,nS,nS,nS,nS,iV v1],[],by simp [SF.cells,SM.cells,UA,U1,IA,I1,LA,L1,BA,B1,EA,E1,E2,eB,eI,eL,eM],by simp,(.cons .refl (.cons .nil (.cons .nil (.cons .nil (.cons .nil (.cons .nil (.cons .nil (.cons .refl (.cons .nil (.cons .nil (.cons .nil (.cons .nil (.cons .nil (.cons .nil (.cons .nil (.cons .refl .nil))))))))))))))))⟩
 have g2:¬ (¬ (v1=0)):=gQ;clear g;replace h:=if_r g2 h;refine Q7 (tn (Q3 (runQ hN fun K hK=>?_)));simp [eM,eL,eI,Q2,Qf,Qu,SF.cells,SM.cells];repeat with_reducible refine sdQ ?_
 replace ⟨v3,hv3,h⟩:=bind_some h;refine Q0 (Q63 _ _ v3 hv3) (.cons (.aggL (.cons .val (.cons .lst (.cons .lst (.cons .lst (.cons .lst (.cons .lst (.cons .lst .nil)))))))) (.cons (.aggL (.cons .val (.cons .lst (.cons .lst (.cons .lst (.cons .lst (.cons .lst (.cons .lst .nil)))))))) .nil)) ?_;simp [eM,eL,eI,Q2,Qf,Qu,SF.cells,SM.cells];repeat refine sdQ ?_
 refine hK _ ?_;clear hK K;refine tn (Qc (st':=⟨Y8 [],Y2 s_ t_ v3 [],10⟩) (Q14 [(0,0),(1,1),(2,2),(12,3),(4,4),(5,5),(6,6),(7,7),(8,8),(9,9)]) (Q3 (Q3 (runQ hN fun K hK=>?_))));simp [eM,eL,eI,Q2,Qf,Qu,SF.cells,SM.cells];repeat with_reducible refine sdQ ?_
 replace ⟨v4,hv4,h⟩:=bind_some h;refine Q0 (Q8z _ v4 hv4) (.cons (.aggL (.cons .val (.cons .w (.cons .w (.cons .w (.cons .w (.cons .w (.cons .w .nil)))))))) .nil) ?_;simp [eM,eL,eI,Q2,Qf,Qu,SF.cells,SM.cells];repeat refine sdQ ?_
 refine hK _ ?_;clear hK K;refine tn (Qc (st':=⟨Y8 [(32,.val (.bool (v4 != 0)))],Y2 s_ t_ v3 [],10⟩) (QU 10) (Q6 rfl (fun g=>?_) fun g=>?_))
 ·have g5:¬ (v4=0):=gQ;clear g;replace h:=if_l g5 h;refine Q3 (runQ hN fun K hK=>?_);simp [eM,eL,eI,Q2,Qf,Qu,SF.cells,SM.cells];repeat refine sdQ ?_
  refine hK _ (tn (Qc (st':=⟨YP [(5,iV 3)],Yr [],1⟩) (Q14 [(2,0)]) (Qg (tr ?_))));clear hK K;have hr:=Option.some.inj h;rw [← hr];refine ⟨_,(.cell Q6M rfl rfl rfl (by simp) (by simp) (.tmp .nil)),?_⟩;refine ⟨(.agg rfl (.one rfl rfl .nil)),[iV 0,nS,nS,nS,nS,nS,nS,iV 0,nS,nS,nS,nS,nS,nS,nS,iV 3],[],by simp [SF.cells,SM.cells,UA,U1,IA,I1,LA,L1,BA,B1,EA,E1,E2,eB,eI,eL,eM],by simp,(.cons .refl (.cons .nil (.cons .nil (.cons .nil (.cons .nil (.cons .nil (.cons .nil (.cons .refl (.cons .nil (.cons .nil (.cons .nil (.cons .nil (.cons .nil (.cons .nil (.cons .nil (.cons .refl .nil))))))))))))))))⟩
 have g5:¬ (¬ (v4=0)):=gQ;clear g;replace h:=if_r g5 h;refine Q7 (tn (Q3 (runQ hN fun K hK=>?_)));simp [eM,eL,eI,Q2,Qf,Qu,SF.cells,SM.cells];repeat refine sdQ ?_
 refine hK _ ?_;clear hK K;refine tn (Qc (st':=⟨Y8 [(10,.own 10 0 0)],Y2 s_ t_ v3 [(10,.mix 1 [])],11⟩) (QU 11) (Q3 (Q3 (runQ hN fun K hK=>?_))));simp [eM,eL,eI,Q2,Qf,Qu,SF.cells,SM.cells];repeat refine sdQ ?_
 refine hK _ (tn (Qc (st':=⟨Y8 [(10,.own 10 0 0),(11,iV 0)],Y2 s_ t_ v3 [(10,.mix 1 [])],11⟩) (QU 11) ?_));clear hK K;replace ⟨e6,h,h6⟩:=bind_some h;refine QQ (fun b6:List (List Int)=>⟨[(2,.adr 0 0 0),(4,.adr 1 0 0),(7,.adr 2 0 0),(10,.own 9 0 b6.length)],[(0,.mix 15 [(SM.cells true s_)]),(1,.mix 15 [(YZ (YZ [nS]))]),(2,.mix 7 [[iV v3.1.s.n,.own 3 0 v3.1.s.fr.length,.own 4 0 v3.1.s.to.length,.own 5 0 v3.1.s.id.length,.own 6 0 v3.1.s.cs.length,.own 7 0 v3.1.sz.length,.own 8 0 v3.1.ac.length]]),(3,rI v3.1.s.fr),(4,rI v3.1.s.to),(5,rI v3.1.s.id),(6,.row 1 (Ls v3.1.s.cs)),(7,rI v3.1.sz),(8,.row 1 (Ls v3.1.ac)),(9,.row 1 (Ls b6))],10⟩) (fun b6=>b6=e6) ?_ ?_
 ·refine Q5 (Q13 h (fun s34:List (List Int) × Int=>⟨Y8 (YK s34 []),Y2 s_ t_ v3 [(10,.row 1 (Ls s34.1))],11⟩) (Q3W ⟨Y8 [(10,.own 10 0 0),(11,iV 0)],Y2 s_ t_ v3 [(10,.row 1 (Ls []))],11⟩ (Wk.nils [] (by simp) (by simp) (by simp [nlA]) (by simp [entN,nlL,nlA,SF.cells,SM.cells,UA,U1,IA,I1,LA,L1,BA,B1,EA,E1,E2,eB,eI,eL,eM]) (by simp)) (QU 11)) ?_);clear h;intro k34 s34 c34 h hk34;refine Q3 (Q3 (runQ hN fun K hK=>?_));simp [eM,eL,eI,Q2,Qf,Qu,SF.cells,SM.cells];repeat refine sdQ ?_
  refine hK _ ?_;clear hK K;refine tn (Q6 rfl (fun g=>?_) fun g=>?_)
  ·have g35:s34.2<(s_.p.length:Int):=gQ;clear g;replace h:=if_l g35 h;refine Q7 (tn (Q3 (Q5 (Q3 (runQ hN fun K hK=>?_)))));simp [eM,eL,eI,Q2,Qf,Qu,SF.cells,SM.cells];(repeat refine sdQ ?_);refine hK _ ?_;clear hK K;refine tn (Qc (st':=⟨Y8 (YK s34 [(12,.own 11 0 0)]),Y2 s_ t_ v3 [(10,.row 1 (Ls s34.1)),(11,.mix 1 [])],12⟩) (QU 12) (Q3 (Q3 (runQ hN fun K hK=>?_))));simp [eM,eL,eI,Q2,Qf,Qu,SF.cells,SM.cells];(repeat refine sdQ ?_);refine hK _ (tn (Qc (st':=⟨Y8 (YK s34 [(12,.own 11 0 0),(13,iV 0)]),Y2 s_ t_ v3 [(10,.row 1 (Ls s34.1)),(11,.mix 1 [])],12⟩) (QU 12) ?_));clear hK K;replace ⟨e36,h,h36⟩:=bind_some h;refine QQ (fun b36:List Int=>⟨Y8 (YK s34 [(12,.own 11 0 b36.length)]),Y2 s_ t_ v3 [(10,.row 1 (Ls s34.1)),(11,rI b36)],12⟩) (fun b36=>b36=e36) ?_ ?_
   ·refine Q5 (Q13 h (fun s48:List Int × Int=>⟨Y8 (YK s34 [(12,.own 11 0 s48.1.length),(13,iV s48.2)]),Y2 s_ t_ v3 [(10,.row 1 (Ls s34.1)),(11,rI s48.1)],12⟩) (Q3W ⟨Y8 (YK s34 [(12,.own 11 0 0),(13,iV 0)]),Y2 s_ t_ v3 [(10,.row 1 (Ls s34.1)),(11,rI [])],12⟩ (Wk.nils [] (by simp) (by simp) (by simp [nlA]) (by simp [entN,nlL,nlA,SF.cells,SM.cells,UA,U1,IA,I1,LA,L1,BA,B1,EA,E1,E2,eB,eI,eL,eM]) (by simp)) (QU 12)) ?_);clear h;intro k48 s48 c48 h hk48;refine Q3 (Q3 (runQ hN fun K hK=>?_));replace ⟨a49,h⟩:=Q8 h;simp [eM,eL,eI,Q2,Qf,Qu,SF.cells,SM.cells,at_L a49];(repeat refine sdQ ?_);refine hK _ ?_;clear hK K;refine tn (Q6 rfl (fun g=>?_) fun g=>?_)
    ·have g50:s48.2<((rx s_.p s34.2).length:Int):=gQ;clear g;replace h:=if_l g50 h;refine Q7 (tn (Q3 (Q5 (runQ hN fun K hK=>?_))));replace ⟨a51,h⟩:=Q8 h;replace ⟨a52,h⟩:=Q8 h;replace ⟨a53,h⟩:=Q8 h;replace ⟨a54,h⟩:=Q8 h;replace ⟨a55,h⟩:=Q8 h;replace ⟨a56,h⟩:=Q8 h;replace ⟨a57,h⟩:=Q8 h;replace ⟨a58,h⟩:=Q8 h;(try simp only [List.length_append,List.length_cons,List.length_nil] at a58);simp [eM,eL,eI,Q2,Qf,Qu,SF.cells,SM.cells,at_L a51,at_I a52,at_I a53,QA a54,at_L a55,at_I a56,QA a57,a58];(repeat refine sdQ ?_);refine hK _ ?_;clear hK K;refine bn (tn (Qc (st':=⟨Y8 (YK s34 [(12,.own 11 0 ((s48.1++[((ix (rx s_.p s34.2) s48.2) * (ix t_.t.sz s34.2))+(ix (rx t_.p s34.2) s48.2)]).length)),(13,iV s48.2)]),Y2 s_ t_ v3 [(10,.row 1 (Ls s34.1)),(11,rI (s48.1++[((ix (rx s_.p s34.2) s48.2) * (ix t_.t.sz s34.2))+(ix (rx t_.p s34.2) s48.2)]))],12⟩) (Q14 [(0,0),(1,1),(2,2),(3,3),(4,4),(5,5),(6,6),(7,7),(8,8),(9,9),(10,10),(13,11)]) (runQ hN fun K hK=>?_)));replace ⟨a59,h⟩:=Q8 h;simp [eM,eL,eI,Q2,Qf,Qu,SF.cells,SM.cells,QA a59];(repeat refine sdQ ?_);refine hK _ ?_;clear hK K;cases h;exact rn (s':=(s48.1++[((ix (rx s_.p s34.2) s48.2) * (ix t_.t.sz s34.2))+(ix (rx t_.p s34.2) s48.2)],s48.2+1)) hk48 (QU 12)
    have g50:¬ (s48.2<((rx s_.p s34.2).length:Int)):=gQ;clear g;replace h:=if_r g50 h;refine Qk (tx (lx (bh ?_)));cases h;exact jn (b:=s48.1) hk48 (QU 12)
   intro b36 hb36;have h:=h36;(try rw [← hb36] at h);clear h36;(try dsimp only at h);refine runQ hN fun K hK=>?_;replace ⟨a60,h⟩:=Q8 h;(try simp only [List.length_append,List.length_cons,List.length_nil] at a60);simp [eM,eL,eI,Q2,Qf,Qu,SF.cells,SM.cells,a60];(repeat refine sdQ ?_);refine hK _ ?_;clear hK K;refine bn (tn (Qc (st':=⟨Y8 [(10,.own 10 0 ((s34.1++[b36]).length)),(11,iV s34.2)],Y2 s_ t_ v3 [(10,.row 1 (Ls (s34.1++[b36])))],11⟩) (Q14 [(0,0),(1,1),(2,2),(3,3),(4,4),(5,5),(6,6),(7,7),(8,8),(9,9),(13,10)]) (runQ hN fun K hK=>?_)));replace ⟨a61,h⟩:=Q8 h;simp [eM,eL,eI,Q2,Qf,Qu,SF.cells,SM.cells,QA a61];(repeat refine sdQ ?_);refine hK _ ?_;clear hK K;cases h;exact rn (s':=(s34.1++[b36],s34.2+1)) hk34 (QU 11)
  have g35:¬ (s34.2<(s_.p.length:Int)):=gQ;clear g;replace h:=if_r g35 h;refine Qk (tx (lx (bh ?_)));cases h;exact jn (b:=s34.1) hk34 (Q14 [(0,0),(2,1),(3,2),(4,3),(5,4),(6,5),(7,6),(8,7),(9,8),(10,9)])
 intro b6 hb6;have h:=h6;try rw [← hb6] at h
 clear h6;try dsimp only at h
 refine Q3 (runQ hN fun K hK=>?_);simp [eM,eL,eI,Q2,Qf,Qu,SF.cells,SM.cells];repeat with_reducible refine sdQ ?_
 replace ⟨v62,hv62,h⟩:=bind_some h;refine Q0 (Q8y _ _ _ v62 hv62) (.cons (.aggL (.cons .val (.cons .lst (.cons .lst (.cons .lst (.cons .lst (.cons .lst (.cons .lst .nil)))))))) (.cons (.aggL (.cons .val (.cons .w (.cons .w (.cons .w (.cons .w (.cons .w (.cons .w .nil)))))))) (.cons .w .nil))) ?_;simp [eM,eL,eI,Q2,Qf,Qu,SF.cells,SM.cells];repeat refine sdQ ?_
 refine hK _ (tn (Qc (st':=⟨YP [(5,iV 0)],Yl v62 [],14⟩) (Q14 [(1,0),(11,1),(12,2),(13,3),(14,4),(15,5),(16,6),(18,7),(19,8),(20,9),(21,10),(22,11),(23,12),(24,13)]) (Qg ?_)));clear hK K;have hr:=Option.some.inj h;rw [← hr];refine ⟨_,(.cell Q6M rfl rfl rfl (by simp) (by simp) (.tmp .nil)),?_⟩;refine ⟨(.agg rfl (.one rfl rfl .nil)),[iV v62.s.s.n,lI v62.s.s.fr,lI v62.s.s.to,lI v62.s.s.id,.lst true 1 (Ls v62.s.s.cs),lI v62.s.sz,.lst true 1 (Ls v62.s.ac),iV v62.t.s.n,lI v62.t.s.fr,lI v62.t.s.to,lI v62.t.s.id,.lst true 1 (Ls v62.t.s.cs),lI v62.t.sz,.lst true 1 (Ls v62.t.ac),.lst true 1 (Ls v62.p),iV 0],[1,2,3,4,5,6,7,8,9,10,11,12,13],by simp [SF.cells,SM.cells,UA,U1,IA,I1,LA,L1,BA,B1,EA,E1,E2,eB,eI,eL,eM],by simp,(UpL.refl _)⟩
section
attribute [local simp] Qi QG Qp Q1r QR
def Q4Z (s t:SM) (x:Nat) (n:Nat):List Int:=tab n fun e:Nat=>ix (rx s.p x) e * ix t.t.sz x+ix (rx t.p x) e
def Q2Z (s t:SM) (n:Nat):List (List Int):=tab n fun x:Nat=>Q4Z s t x (rx s.p x).length
def Q8a (s t:SM):SM:=⟨s.s,Q3z s.t t.t,Q2Z s t s.p.length⟩
open Classical in
noncomputable def rres (s t:SM):SM × Int:=if s.Is∧t.Is then (if s.s=t.s then (if (Q27 s.t t.t s.t.sz.length).all (inR 17)=true then (Q8a s t,0) else (sm0,3)) else (sm0,5)) else (sm0,1)
theorem rres1 {s t:SM} (h:¬ (s.Is∧t.Is)):rres s t=(sm0,1):=by unfold rres;rw [if_neg h]
theorem rres2 {s t:SM} (h:s.Is∧t.Is) (h2:¬ s.s=t.s):rres s t=(sm0,5):=by unfold rres;rw [if_pos h,if_neg h2]
theorem rres3 {s t:SM} (h:s.Is∧t.Is) (h2:s.s=t.s) (h3:¬ (Q27 s.t t.t s.t.sz.length).all (inR 17)=true):rres s t=(sm0,3):=by unfold rres;rw [if_pos h,if_pos h2,if_neg h3]
theorem rres4 {s t:SM} (h:s.Is∧t.Is) (h2:s.s=t.s) (h3:(Q27 s.t t.t s.t.sz.length).all (inR 17)=true):rres s t=(Q8a s t,0):=by unfold rres;rw [if_pos h,if_pos h2,if_pos h3]
theorem Q9d {s t:SM} (h:s.Is∧t.Is) (h2:s.s=t.s):Two s.t t.t:=⟨h.1.1.ht.1,h.2.1.ht.1,by rw [← h.1.1.eq,← h.2.1.eq,h2]⟩
theorem Q5t {s t:SM} (h:s.Is∧t.Is) (h2:s.s=t.s):s.p.length=t.p.length∧s.p.length≤8∧s.t.sz.length=s.p.length∧t.t.sz.length=s.p.length ∧
  ∀ x:Nat,x<s.p.length→(rx s.p x).length≤16∧(rx t.p x).length=(rx s.p x).length∧(0≤ix t.t.sz x∧ix t.t.sz x≤16)∧∀ e:Nat,e<(rx s.p x).length→(0≤ix (rx s.p x) e∧ix (rx s.p x) e≤16)∧0≤ix (rx t.p x) e∧ix (rx t.p x) e≤16:=by
 have hT:=Q9d h h2;obtain ⟨k0,k1,k2,k3,k4,k5,k6,k7⟩:=hT.fact;have l1:=h.1.1.lens;have l2:=h.2.1.lens;have hl:=h.1.1.lp;have hl2:=h.2.1.lp;have hp:=h.1.1.plen;have e1:s.s.sz=t.s.sz:=by rw [h2]
 rw [← e1] at hl2;refine ⟨by omega,hp,by omega,by omega,fun x hx=>?_⟩;have r1:=h.1.1.rows hx;obtain ⟨a1,a2⟩:=h.1.1.part' (j:=x) (by omega) (by omega);obtain ⟨b1,b2⟩:=h.2.1.part' (j:=x) (by omega) (by omega);rw [← e1] at b1;have s1:=hT.sizes (x:=x) (by omega);refine ⟨r1,by omega,s1.2,fun e he=>?_⟩;have c1:=a2 e (by omega) (by omega);have c2:=b2 e (by omega) (by omega);omega
theorem Q8b {s t:SM} (h:s.Is∧t.Is) (h2:s.s=t.s) (h3:(Q27 s.t t.t s.t.sz.length).all (inR 17)=true):(Q8a s t).ok∧(Q8a s t).size≤1000000:=by
 have hT:=Q9d h h2;obtain ⟨p1,p2,p3,p4,p5⟩:=Q5t h h2;obtain ⟨⟨a1,a2⟩,_⟩:=prod_ok hT h3;obtain ⟨b1,b2⟩:=h.1.1.hs.1.ok;have hb:∀ xs∈Q2Z s t s.p.length,xs.length≤16:=by
  intro xs hx;simp only [Q2Z,tab,List.mem_map,List.mem_range] at hx;obtain ⟨x,hx,rfl⟩:=hx;have:=p5 x hx;simp only [Q4Z,Q4z];omega
 have s0:=Q7D hb;have l0:(Q2Z s t s.p.length).length=s.p.length:=by simp [Q2Z]
 rw [l0] at s0;refine ⟨⟨b1,a1,by simp only [Q8a];omega,fun xs hx=>by have:=hb xs hx;omega,by simp only [Q8a];omega⟩,?_⟩;simp only [SM.size,Q8a];omega
theorem rres_ok (s t:SM):(rres s t).1.ok∧(rres s t).1.size≤1000000:=by
 by_cases h1:s.Is∧t.Is
 ·by_cases h2:s.s=t.s
  ·by_cases h3:(Q27 s.t t.t s.t.sz.length).all (inR 17)=true
   ·rw [rres4 h1 h2 h3];exact Q8b h1 h2 h3
   rw [rres3 h1 h2 h3];exact sm0_ok
  rw [rres2 h1 h2];exact sm0_ok
 rw [rres1 h1];exact sm0_ok
theorem Q6x (s t:SM):∃ r,Q1J s t=some r∧Q1I s t=some r∧r.1.ok∧r.1.size≤1000000:=by
 refine ⟨rres s t,?_,?_,rres_ok s t⟩
 ·unfold Q1J Q35 Q21 Q1R
  by_cases h:s.Is∧t.Is
  case neg =>
   rw [rres1 h]
   by_cases h1:s.Is
   ·have h2:¬ t.Is:=fun q=>h ⟨h1,q⟩;simp [Q4E h1,Q6V h2];rfl
   simp [Q6V h1];rfl
  by_cases h2:s.s=t.s
  case neg=>rw [rres2 h h2];simp [Q4E h.1,Q4E h.2,Q6V h2];rfl
  have hT:=Q9d h h2;have hl:=hT.fact;have hz:∀ x∈(Q3z s.t t.t).sz,0≤x:=by
   intro x hx;simp only [Q3z,Q27,tab,List.mem_map,List.mem_range] at hx;obtain ⟨a,_,rfl⟩:=hx;omega
  obtain ⟨m1,m2⟩:=all_mad hz;have hm:Q1S (Q3z s.t t.t)=some (mad (Q3z s.t t.t).sz):=e_l21Made (by simp [Q3z,Q27];omega);simp only [Q4E h.1,Q4E h.2,Q4E h2,Option.bind_some,not_true_eq_false,if_false,Bool.not_true,Bool.false_eq_true,if_true,Q9r hT,hm]
  by_cases h3:(Q27 s.t t.t s.t.sz.length).all (inR 17)=true
  case neg=>rw [rres3 h h2 h3,m2 h3];simp;rfl
  rw [rres4 h h2 h3,m1 h3];obtain ⟨o1,o2⟩:=Q8b h h2 h3;obtain ⟨p1,p2,p3,p4,p5⟩:=Q5t h h2;simp only [not_true_eq_false,if_false];unfold Q34 Q2P Q33;refine Q15 s.p.length (fun i=>Q2Z s t i) (e:=Q2Z s t s.p.length) rfl (by omega) (fun i hi=>?_) (by simp) ?_
  ·obtain ⟨q1,q2,q3,q4⟩:=p5 i hi;simp only;rw [if_pos (by omega)];refine Q15 (rx s.p i).length (fun k=>Q4Z s t i k) (e:=Q4Z s t i (rx s.p i).length) rfl (by omega) (fun k hk=>?_) (by simp only;rw [Q9 (by omega),if_neg (by omega)]) ?_
   ·have q5:=q4 k hk;have n1:0≤ix (rx s.p i) k * ix t.t.sz i:=Int.mul_nonneg (by omega) (by omega);have n2:ix (rx s.p i) k * ix t.t.sz i≤16 * 16:=Int.mul_le_mul (by omega) (by omega) (by omega) (by omega);simp only;rw [Q9 (by omega),if_pos (by omega),Q9 (by omega),Q9 (by omega),Q9 (by omega),Q9 (by unfold B64;omega),Q9 (by omega),Q9 (by omega),Q9 (by unfold B64;omega),Q9 (by simp [Q4Z];omega),Q9 (by unfold B64;omega),Q4Z,Q4Z,QZ]
   rw [Q9 (by simp [Q2Z];omega),Q9 (by unfold B64;omega),Q2Z,Q2Z,QZ]
  rw [Q9 (show s.s.ok from o1.1)];simp only [Option.bind_some];rw [Q9 (show (Q3z s.t t.t).ok from o1.2.1),Q9 (by simp [Q2Z];omega),Q9 (show ∀ x∈Q2Z s t s.p.length,x.length≤1048576 from fun x hx=>o1.2.2.2.1 x hx)];rfl
 unfold Q1I Q1V Q2v;rw [Q9 (by simp)];simp only [Option.bind_some];have hq:(∀ f∈[s,t],f.Is)↔(s.Is∧t.Is):=by simp
 by_cases h:s.Is∧t.Is
 case neg=>rw [rres1 h,Q6V (fun q=>h (hq.1 q))];simp;rfl
 rw [Q4E (hq.2 h)];have htF:=h.1.1.hs.1;rw [Q9 (by have:=htF.cat.1.lc;have:=htF.cat.1.m40;omega),Q9 (by have:=htF.la;have:=htF.cat.1.m40;omega)];simp only [Option.bind_some,not_true_eq_false,if_false]
 by_cases h2:s.s=t.s
 case neg=>rw [rres2 h h2,Q6V h2];simp;rfl
 have hT:=Q9d h h2;have hl:=hT.fact;rw [Q4E h2];simp only [not_true_eq_false,if_false,Q9q hT,Option.bind_some]
 by_cases h3:(Q27 s.t t.t s.t.sz.length).all (inR 17)=true
 case neg=>rw [rres3 h h2 h3,if_neg h3];rfl
 rw [rres4 h h2 h3,if_pos h3];obtain ⟨o1,o2⟩:=Q8b h h2 h3;obtain ⟨p1,p2,p3,p4,p5⟩:=Q5t h h2;simp only [not_true_eq_false,if_false];unfold Q3t QT Q3s;refine Q15 s.p.length (fun i=>Q2Z s t i) (e:=Q2Z s t s.p.length) rfl (by omega) (fun i hi=>?_) (by simp) ?_
 ·obtain ⟨q1,q2,q3,q4⟩:=p5 i hi;simp only;rw [if_pos (by omega),Q9 (by omega)];refine Q15 (rx s.p i).length (fun k=>Q4Z s t i k) (e:=Q4Z s t i (rx s.p i).length) rfl (by omega) (fun k hk=>?_) (by simp) ?_
  ·have q5:=q4 k hk;have n1:0≤ix (rx s.p i) k * ix t.t.sz i:=Int.mul_nonneg (by omega) (by omega);have n2:ix (rx s.p i) k * ix t.t.sz i≤16 * 16:=Int.mul_le_mul (by omega) (by omega) (by omega) (by omega);simp only;rw [if_pos (by omega),Q9 (by omega),Q9 (by omega),Q9 (by unfold B64;omega),Q9 (by omega),Q9 (by omega),Q9 (by unfold B64;omega),Q9 (by simp [Q4Z];omega),Q9 (by unfold B64;omega),Q4Z,Q4Z,QZ]
  rw [Q9 (by simp [Q2Z];omega),Q9 (by unfold B64;omega),Q2Z,Q2Z,QZ]
 rw [Q9 (show s.s.ok from o1.1)];simp only [Option.bind_some];rw [Q9 (show (Q3z s.t t.t).ok from o1.2.1),Q9 (by simp [Q2Z];omega),Q9 (show ∀ x∈Q2Z s t s.p.length,x.length≤1048576 from fun x hx=>o1.2.2.2.1 x hx)];rfl
end
end Go.Vc.T
