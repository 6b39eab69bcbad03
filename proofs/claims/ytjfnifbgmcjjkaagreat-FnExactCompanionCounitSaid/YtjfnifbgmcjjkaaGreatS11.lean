/- A part of the proof: a verified generator of conditions, and what each function of the program does. -/
import Derived.Test.YtjfnifbgmcjjkaaGreatS10
set_option maxRecDepth 100000
set_option maxHeartbeats 4000000
set_option linter.unusedSimpArgs false
set_option linter.unusedVariables false

namespace Go.Vc.T
open Go Go.Vc Go.Proofs
attribute [local simp] unk unA unE unT unC flat eL eI Qr Q16 Q3k Q1g Cat.cells Fn.cells Prf.cells
noncomputable def Q21 (f_:Fn) (g_:Fn):Option Prf :=
 (Q1M f_.s).bind fun v1 =>
 (Q1M g_.s).bind fun v2 =>
 (Qy (σ:=List (List Int) × Int) (ε:=List (List Int)) (fun s21 =>
  if s21.2<f_.s.n then
   (Qy (σ:=List Int × Int) (ε:=List Int) (fun s30 =>
    if s30.2<g_.s.n then
     ass (0≤s21.2∧s21.2<(f_.ob.length:Int)) <|
     ass (0≤s30.2∧s30.2<(g_.ob.length:Int)) <|
     (Q1y f_.t (ix f_.ob s21.2) (ix g_.ob s30.2)).bind fun v34 =>
     ass ((s30.1++[(v34.length:Int)]).length≤1073741824) <|
     ass (B64 (s30.2+1)) <|
     some (Ctl.next (s30.1++[(v34.length:Int)],s30.2+1))
    else
     some (Ctl.ret s30.1)) fuel ([],0)).bind fun b23 =>
   ass ((s21.1++[b23]).length≤1073741824) <|
   ass (B64 (s21.2+1)) <|
   some (Ctl.next (s21.1++[b23],s21.2+1))
  else
   some (Ctl.ret s21.1)) fuel ([],0)).bind fun b3 =>
 (Qy (σ:=List (List (List Int)) × Int) (ε:=List (List (List Int))) (fun s99 =>
  if s99.2<(f_.s.fr.length:Int) then
   (Qy (σ:=List (List Int) × Int) (ε:=List (List Int)) (fun s129 =>
    if s129.2<g_.s.n then
     ass (0≤s99.2∧s99.2<(f_.s.to.length:Int)) <|
     ass (0≤ix f_.s.to s99.2∧ix f_.s.to s99.2<(f_.ob.length:Int)) <|
     ass (0≤s129.2∧s129.2<(g_.ob.length:Int)) <|
     (Q1y f_.t (ix f_.ob (ix f_.s.to s99.2)) (ix g_.ob s129.2)).bind fun v134 =>
     ass (0≤s99.2∧s99.2<(f_.s.fr.length:Int)) <|
     ass (0≤ix f_.s.fr s99.2∧ix f_.s.fr s99.2<(f_.ob.length:Int)) <|
     ass (0≤s129.2∧s129.2<(g_.ob.length:Int)) <|
     (Q1y f_.t (ix f_.ob (ix f_.s.fr s99.2)) (ix g_.ob s129.2)).bind fun v138 =>
     (Qy (σ:=List Int × Int) (ε:=List Int) (fun s147 =>
      if s147.2<(v134.length:Int) then
       ass (0≤s99.2∧s99.2<(f_.ar.length:Int)) <|
       ass (0≤s147.2∧s147.2<(v134.length:Int)) <|
       (Q1S f_.t (ix f_.ar s99.2) (ix v134 s147.2)).bind fun v151 =>
       (Q1Q v138 v151).bind fun v152 =>
       ass ((s147.1++[v152]).length≤1073741824) <|
       ass (B64 (s147.2+1)) <|
       some (Ctl.next (s147.1++[v152],s147.2+1))
      else
       some (Ctl.ret s147.1)) fuel ([],0)).bind fun b139 =>
     ass ((s129.1++[b139]).length≤1073741824) <|
     ass (B64 (s129.2+1)) <|
     some (Ctl.next (s129.1++[b139],s129.2+1))
    else
     some (Ctl.ret s129.1)) fuel ([],0)).bind fun b101 =>
   ass ((s99.1++[b101]).length≤1073741824) <|
   ass (B64 (s99.2+1)) <|
   some (Ctl.next (s99.1++[b101],s99.2+1))
  else
   some (Ctl.ret s99.1)) fuel ([],0)).bind fun b39 =>
 (Qy (σ:=List (List (List Int)) × Int) (ε:=List (List (List Int))) (fun s219 =>
  if s219.2<(g_.s.fr.length:Int) then
   (Qy (σ:=List (List Int) × Int) (ε:=List (List Int)) (fun s249 =>
    if s249.2<f_.s.n then
     ass (0≤s249.2∧s249.2<(f_.ob.length:Int)) <|
     ass (0≤s219.2∧s219.2<(g_.s.fr.length:Int)) <|
     ass (0≤ix g_.s.fr s219.2∧ix g_.s.fr s219.2<(g_.ob.length:Int)) <|
     (Q1y f_.t (ix f_.ob s249.2) (ix g_.ob (ix g_.s.fr s219.2))).bind fun v254 =>
     ass (0≤s249.2∧s249.2<(f_.ob.length:Int)) <|
     ass (0≤s219.2∧s219.2<(g_.s.to.length:Int)) <|
     ass (0≤ix g_.s.to s219.2∧ix g_.s.to s219.2<(g_.ob.length:Int)) <|
     (Q1y f_.t (ix f_.ob s249.2) (ix g_.ob (ix g_.s.to s219.2))).bind fun v258 =>
     (Qy (σ:=List Int × Int) (ε:=List Int) (fun s267 =>
      if s267.2<(v254.length:Int) then
       ass (0≤s267.2∧s267.2<(v254.length:Int)) <|
       ass (0≤s219.2∧s219.2<(g_.ar.length:Int)) <|
       (Q1S f_.t (ix v254 s267.2) (ix g_.ar s219.2)).bind fun v271 =>
       (Q1Q v258 v271).bind fun v272 =>
       ass ((s267.1++[v272]).length≤1073741824) <|
       ass (B64 (s267.2+1)) <|
       some (Ctl.next (s267.1++[v272],s267.2+1))
      else
       some (Ctl.ret s267.1)) fuel ([],0)).bind fun b259 =>
     ass ((s249.1++[b259]).length≤1073741824) <|
     ass (B64 (s249.2+1)) <|
     some (Ctl.next (s249.1++[b259],s249.2+1))
    else
     some (Ctl.ret s249.1)) fuel ([],0)).bind fun b221 =>
   ass ((s219.1++[b221]).length≤1073741824) <|
   ass (B64 (s219.2+1)) <|
   some (Ctl.next (s219.1++[b221],s219.2+1))
  else
   some (Ctl.ret s219.1)) fuel ([],0)).bind fun b159 =>
 some (⟨v1,v2,b3,b39,b159⟩:Prf)
theorem Q2l {F : Fx} {st st' : St} (m : List (Nat × Nat)) (h : (m.map Prod.fst).Nodup ∧ (m.map Prod.snd).Nodup ∧ (∀ id, id < F.pins → look id m = some id) ∧ (∀ p ∈ m, p.2 < st'.n) ∧ (∀ p ∈ st'.h, p.1 < st'.n) ∧ (∀ p ∈ st'.s, p.2 = rl m (st.get p.1) ∨ p.2 = .bot) ∧ ∀ p ∈ st'.h, hhOk m st.h p.1 p.2 := by simp [hP, hhOk, back, idQ, Cat.cells, Fn.cells, Prf.cells, UA, U1, IA, I1, LA, L1, BA, B1, EA, E1, E2, eB, eI, eL, XL32Composite.cells, Q8 _ Qs _ (fun _=>rfl)]) : Wk F st st' := Wk.r1 m h
theorem Q1Y {F : Fx} {st st' : St} (m : Nat) (h : ((idQ m).map Prod.fst).Nodup ∧ ((idQ m).map Prod.snd).Nodup ∧ (∀ id, id < F.pins → look id (idQ m) = some id) ∧ (∀ p ∈ (idQ m), p.2 < st'.n) ∧ (∀ p ∈ st'.h, p.1 < st'.n) ∧ (∀ p ∈ st'.s, p.2 = rl (idQ m) (st.get p.1) ∨ p.2 = .bot) ∧ ∀ p ∈ st'.h, hhOk (idQ m) st.h p.1 p.2 := by simp [hP, hhOk, back, idQ, Cat.cells, Fn.cells, Prf.cells, UA, U1, IA, I1, LA, L1, BA, B1, EA, E1, E2, eB, eI, eL, XL32Composite.cells, Q8 _ Qs _ (fun _=>rfl)]) : Wk F st st' := Wk.r1 (idQ m) h
@[simp] abbrev Y2 (a b:Fn) (c:List (Nat × Ent)):List (Nat × Ent):=(0,.mix 12 [(Fn.cells true a)])::(1,.mix 12 [(Fn.cells true b)])::(2,.mix 13 [(Y1i [nS])])::(3,.mix 5 [(Cat.cells true a.s)])::(4,.mix 5 [(Cat.cells true b.s)])::(5,.mix 5 [(Cat.cells true a.t)])::c
@[simp] abbrev Y1g (a b:Cat) (c:List (AV)):List (AV):=iV a.n::.own 7 0 a.fr.length::.own 8 0 a.to.length::.own 9 0 a.id.length::.own 10 0 a.cs.length::iV b.n::.own 11 0 b.fr.length::.own 12 0 b.to.length::.own 13 0 b.id.length::.own 14 0 b.cs.length::c
@[simp] abbrev Yb (a b:Cat) (c:List (List Int)) (d:List (List (List Int))) (e:List (List (List Int)) × Int) (f:List (Nat × Ent)):List (Nat × Ent):=(6,.mix 13 [(Y1g a b [.own 15 0 c.length,.own 16 0 d.length,.own 17 0 e.1.length])])::(7,rI a.fr)::(8,rI a.to)::(9,rI a.id)::(10,.row 1 (Ls a.cs))::(11,rI b.fr)::(12,rI b.to)::(13,rI b.id)::(14,.row 1 (Ls b.cs))::(15,.row 1 (Ls c))::(16,.row 1 (Es eL d))::(17,.row 1 (Es eL e.1))::f
@[simp] abbrev Yc (a b:Cat) (c:List (List Int)) (d:List (List (List Int)) × Int) (e:List (Nat × Ent)):List (Nat × Ent):=(6,.mix 13 [(Y1g a b [.own 15 0 c.length,.own 16 0 d.1.length,.own 17 0 0])])::(7,rI a.fr)::(8,rI a.to)::(9,rI a.id)::(10,.row 1 (Ls a.cs))::(11,rI b.fr)::(12,rI b.to)::(13,rI b.id)::(14,.row 1 (Ls b.cs))::(15,.row 1 (Ls c))::(16,.row 1 (Es eL d.1))::(17,.mix 1 [])::e
@[simp] abbrev Ye (a:List (Nat × AV)):List (Nat × AV):=(2,.adr 0 0 0)::(3,.adr 1 0 0)::(4,.adr 2 0 0)::(5,.adr 3 0 0)::(6,.adr 4 0 0)::(7,.adr 5 0 0)::(8,.adr 6 0 0)::a
@[simp] abbrev Yn (a b:Cat) (c:List (List Int) × Int) (d:List (Nat × Ent)):List (Nat × Ent):=(6,.mix 13 [(Y1g a b [.own 15 0 c.1.length,.own 16 0 0,.own 17 0 0])])::(7,rI a.fr)::(8,rI a.to)::(9,rI a.id)::(10,.row 1 (Ls a.cs))::(11,rI b.fr)::(12,rI b.to)::(13,rI b.id)::(14,.row 1 (Ls b.cs))::(15,.row 1 (Ls c.1))::(16,.mix 1 [])::(17,.mix 1 [])::d
@[simp] abbrev YA (a b:Cat) (c:List (Nat × Ent)):List (Nat × Ent):=(7,rI a.fr)::(8,rI a.to)::(9,rI a.id)::(10,.row 1 (Ls a.cs))::(11,rI b.fr)::(12,rI b.to)::(13,rI b.id)::(14,.row 1 (Ls b.cs))::c
@[simp] abbrev Y1x (a:List (AV)):List (AV):=.own 15 0 0::.own 16 0 0::a
@[simp] abbrev Y02 (a b:Cat) (c:List (Nat × Ent)):List (Nat × Ent):=(6,.mix 13 [(Y1g a b (Y1x [.own 17 0 0]))])::c
@[simp] abbrev Y03 (a b:Cat) (c:List (List Int)) (d:List (Nat × Ent)):List (Nat × Ent):=(6,.mix 13 [(Y1g a b [.own 15 0 c.length,.own 16 0 0,.own 17 0 0])])::d
@[simp] abbrev Y07 (a b:Cat) (c:List (List Int)) (d:List (List (List Int))) (e:List (Nat × Ent)):List (Nat × Ent):=(6,.mix 13 [(Y1g a b [.own 15 0 c.length,.own 16 0 d.length,.own 17 0 0])])::e
@[simp] abbrev Y0l (a:List (List (List Int)) × Int) (b:List (List Int) × Int) (c d:List Int) (e:List (Nat × AV)):List (Nat × AV):=(12,iV a.2)::(13,.own 18 0 b.1.length)::(14,iV b.2)::(15,.own 19 0 c.length)::(16,.own 20 0 d.length)::e
@[simp] abbrev Y0n (a:List (List (List Int)) × Int) (b:List (List Int) × Int) (c d:List Int) (e:List (Nat × AV)):List (Nat × AV):=(19,iV a.2)::(20,.own 18 0 b.1.length)::(21,iV b.2)::(22,.own 19 0 c.length)::(23,.own 20 0 d.length)::e
@[simp] abbrev Y0C (a:List (Nat × Ent)):List (Nat × Ent):=(15,.mix 1 [])::(16,.mix 1 [])::a
@[simp] abbrev Y0H (a:List (List Int) × Int) (b c:List Int) (d:List (Nat × Ent)):List (Nat × Ent):=(18,.row 1 (Ls a.1))::(19,rI b)::(20,rI c)::d
theorem Q4P (f_:Fn) (g_:Fn) (r:Prf) (h:Q21 f_ g_=some r):Contract Tryz.prog 20 [.agg (f_.cells true),.agg (g_.cells true)] (.agg (r.cells true)):=by
 refine Qc (rvs:=[.cell 4 45]) (rs:=[.agg (r.cells true)]) Tryz.func20 rfl rfl rfl rfl (by simp [Tryz.f20]) fun F hN hP=>?_;unfold Q21 at h;refine Q3 (runQ hN fun K hK=>?_);simp;repeat refine sdQ ?_
 refine hK _ ?_;clear hK K;refine tn (Q7 (st':=⟨Y0u [],[(0,.mix 12 [(Fn.cells true f_)]),(1,.mix 12 [(Fn.cells true g_)]),(2,.mix 13 [(Y1i [nS])])],3⟩) (Q1Y 3) (Q3 (w_runS mo (by rw [hN];decide) fun K hK=>?_)));simp;repeat refine sdQ ?_
 refine hK _ ?_;clear hK K;refine tn (Q7 (st':=⟨Y0u [(5,.adr 3 0 0),(6,.adr 4 0 0),(7,.adr 5 0 0)],Y2 f_ g_ [],6⟩) (Q1Y 6) (Q3 (runQ hN fun K hK=>?_)));simp;repeat with_reducible refine sdQ ?_
 replace ⟨v1,hv1,h⟩:=bind_some h;refine Q6 (Q3i _ v1 hv1) (.cons (.aggL (.cons .val (.cons .lst (.cons .lst (.cons .lst (.cons .lst .nil)))))) .nil) ?_;simp;repeat with_reducible refine sdQ ?_
 replace ⟨v2,hv2,h⟩:=bind_some h;refine Q6 (Q3i _ v2 hv2) (.cons (.aggL (.cons .val (.cons .lst (.cons .lst (.cons .lst (.cons .lst .nil)))))) .nil) ?_;simp;repeat refine sdQ ?_
 refine hK _ ?_;clear hK K;refine tn (Q7 (st':=⟨Ye [],Y2 f_ g_ (Y02 v1 v2 (YA v1 v2 (Y0C [(17,.mix 1 [])]))),18⟩) (Q2l [(0,0),(1,1),(2,2),(3,3),(4,4),(5,5),(19,6),(7,7),(8,8),(9,9),(10,10),(12,11),(13,12),(14,13),(15,14),(16,15),(17,16),(18,17)]) (Q3 (Q3 (runQ hN fun K hK=>?_))));simp;repeat refine sdQ ?_
 refine hK _ (tn (Q7 (st':=⟨Ye [(9,iV 0)],Y2 f_ g_ (Y02 v1 v2 (YA v1 v2 (Y0C [(17,.mix 1 [])]))),18⟩) (Q1Y 18) ?_));clear hK K;replace ⟨e3,h,h3⟩:=bind_some h;refine Qg (fun b3:List (List Int)=>⟨Ye [],Y2 f_ g_ (Y03 v1 v2 b3 (YA v1 v2 [(15,.row 1 (Ls b3)),(16,.mix 1 []),(17,.mix 1 [])])),18⟩) (fun b3=>b3=e3) ?_ ?_
 ·refine Qa (Qn h (fun s21:List (List Int) × Int=>⟨Ye [(9,iV s21.2)],Y2 f_ g_ (Yn v1 v2 s21 []),18⟩) (Q1J ⟨Ye [(9,iV 0)],Y2 f_ g_ (Y02 v1 v2 (YA v1 v2 [(15,.row 1 (Ls [])),(16,.mix 1 []),(17,.mix 1 [])])),18⟩ (Wk.nils [] (by simp) (by simp) (by simp [nlA]) (by simp [entN,nlL,nlA,Cat.cells,Fn.cells,Prf.cells,UA,U1,IA,I1,LA,L1,BA,B1,EA,E1,E2,eB,eI,eL]) (by simp)) (Q1Y 18)) ?_);clear h;intro k21 s21 c21 h hk21;refine Q3 (Q3 (runQ hN fun K hK=>?_));simp;repeat refine sdQ ?_
  refine hK _ ?_;clear hK K;refine tn (Qd rfl (fun g=>?_) fun g=>?_)
  ·have g22:s21.2<f_.s.n:=gQ;clear g;replace h:=if_l g22 h;refine Qe (tn (Q3 (Qa (Q3 (runQ hN fun K hK=>?_)))));simp;(repeat refine sdQ ?_);refine hK _ ?_;clear hK K;refine tn (Q7 (st':=⟨Ye [(9,iV s21.2),(10,.own 18 0 0)],Y2 f_ g_ (Yn v1 v2 s21 [(18,.mix 1 [])]),19⟩) (Q1Y 19) (Q3 (Q3 (runQ hN fun K hK=>?_))));simp;(repeat refine sdQ ?_);refine hK _ (tn (Q7 (st':=⟨Ye [(9,iV s21.2),(10,.own 18 0 0),(11,iV 0)],Y2 f_ g_ (Yn v1 v2 s21 [(18,.mix 1 [])]),19⟩) (Q1Y 19) ?_));clear hK K;replace ⟨e23,h,h23⟩:=bind_some h
   refine Qg (fun b23:List Int=>⟨Ye [(9,iV s21.2),(10,.own 18 0 b23.length)],Y2 f_ g_ (Yn v1 v2 s21 [(18,rI b23)]),19⟩) (fun b23=>b23=e23) ?_ ?_
   ·refine Qa (Qn h (fun s30:List Int × Int=>⟨Ye [(9,iV s21.2),(10,.own 18 0 s30.1.length),(11,iV s30.2)],Y2 f_ g_ (Yn v1 v2 s21 [(18,rI s30.1)]),19⟩) (Q1J ⟨Ye [(9,iV s21.2),(10,.own 18 0 0),(11,iV 0)],Y2 f_ g_ (Yn v1 v2 s21 [(18,rI [])]),19⟩ (Wk.nils [] (by simp) (by simp) (by simp [nlA]) (by simp [entN,nlL,nlA,Cat.cells,Fn.cells,Prf.cells,UA,U1,IA,I1,LA,L1,BA,B1,EA,E1,E2,eB,eI,eL]) (by simp)) (Q1Y 19)) ?_);clear h;intro k30 s30 c30 h hk30;refine Q3 (Q3 (runQ hN fun K hK=>?_));simp;(repeat refine sdQ ?_);refine hK _ ?_;clear hK K;refine tn (Qd rfl (fun g=>?_) fun g=>?_)
    ·have g31:s30.2<g_.s.n:=gQ;clear g;replace h:=if_l g31 h;refine Qe (tn (Q3 (Qa (runQ hN fun K hK=>?_))));replace ⟨a32,h⟩:=Q0 h;replace ⟨a33,h⟩:=Q0 h;simp [at_I a32,at_I a33];(repeat with_reducible refine sdQ ?_);replace ⟨v34,hv34,h⟩:=bind_some h;refine Q6 (Q2w _ _ _ v34 hv34) (.cons (.aggL (.cons .val (.cons .lst (.cons .lst (.cons .lst (.cons .lst .nil)))))) (.cons .val (.cons .val .nil))) ?_;replace ⟨a35,h⟩:=Q0 h;(try simp only [List.length_append,List.length_cons,List.length_nil] at a35);simp [at_I a32,at_I a33,a35];(repeat refine sdQ ?_);refine hK _ ?_;clear hK K;refine bn (tn (Q7 (st':=⟨Ye [(9,iV s21.2),(10,.own 18 0 ((s30.1++[(v34.length:Int)]).length)),(11,iV s30.2)],Y2 f_ g_ (Yn v1 v2 s21 [(18,rI (s30.1++[(v34.length:Int)]))]),19⟩) (Q2l [(0,0),(1,1),(2,2),(3,3),(4,4),(5,5),(6,6),(7,7),(8,8),(9,9),(10,10),(11,11),(12,12),(13,13),(14,14),(15,15),(16,16),(17,17),(21,18)]) (runQ hN fun K hK=>?_)));replace ⟨a36,h⟩:=Q0 h;simp [Qh a36];(repeat refine sdQ ?_);refine hK _ ?_;clear hK K;cases h;exact rn (s':=(s30.1++[(v34.length:Int)],s30.2+1)) hk30 (Q1Y 19)
    have g31:¬ (s30.2<g_.s.n):=gQ;clear g;replace h:=if_r g31 h;refine Qm (tx (lx (bh ?_)));cases h;exact jn (b:=s30.1) hk30 (Q1Y 19)
   intro b23 hb23;have h:=h23;(try rw [← hb23] at h);clear h23;(try dsimp only at h);refine runQ hN fun K hK=>?_;replace ⟨a37,h⟩:=Q0 h;(try simp only [List.length_append,List.length_cons,List.length_nil] at a37);simp [a37];(repeat refine sdQ ?_);refine hK _ ?_;clear hK K;refine bn (tn (Q7 (st':=⟨Ye [(9,iV s21.2)],Y2 f_ g_ ((6,.mix 13 [(Y1g v1 v2 [.own 15 0 ((s21.1++[b23]).length),.own 16 0 0,.own 17 0 0])])::YA v1 v2 [(15,.row 1 (Ls (s21.1++[b23]))),(16,.mix 1 []),(17,.mix 1 [])]),18⟩) (Q2l [(0,0),(1,1),(2,2),(3,3),(4,4),(5,5),(6,6),(7,7),(8,8),(9,9),(10,10),(11,11),(12,12),(13,13),(14,14),(20,15),(16,16),(17,17)]) (runQ hN fun K hK=>?_)));replace ⟨a38,h⟩:=Q0 h;simp [Qh a38];(repeat refine sdQ ?_);refine hK _ ?_;clear hK K;cases h;exact rn (s':=(s21.1++[b23],s21.2+1)) hk21 (Q1Y 18)
  have g22:¬ (s21.2<f_.s.n):=gQ;clear g;replace h:=if_r g22 h;refine Qm (tx (lx (bh ?_)));cases h;exact jn (b:=s21.1) hk21 (Q1Y 18)
 intro b3 hb3;have h:=h3;try rw [← hb3] at h
 clear h3;try dsimp only at h
 refine Q3 (Q3 (runQ hN fun K hK=>?_));simp;repeat refine sdQ ?_
 refine hK _ (tn (Q7 (st':=⟨Ye [(12,iV 0)],Y2 f_ g_ (Y03 v1 v2 b3 (YA v1 v2 [(15,.row 1 (Ls b3)),(16,.mix 1 []),(17,.mix 1 [])])),18⟩) (Q1Y 18) ?_));clear hK K;replace ⟨e39,h,h39⟩:=bind_some h;refine Qg (fun b39:List (List (List Int))=>⟨Ye [],Y2 f_ g_ (Y07 v1 v2 b3 b39 (YA v1 v2 [(15,.row 1 (Ls b3)),(16,.row 1 (Es eL b39)),(17,.mix 1 [])])),18⟩) (fun b39=>b39=e39) ?_ ?_
 ·refine Qa (Qn h (fun s99:List (List (List Int)) × Int=>⟨Ye [(12,iV s99.2)],Y2 f_ g_ (Yc v1 v2 b3 s99 []),18⟩) (Q1J ⟨Ye [(12,iV 0)],Y2 f_ g_ (Y03 v1 v2 b3 (YA v1 v2 [(15,.row 1 (Ls b3)),(16,.row 1 (Es eL [])),(17,.mix 1 [])])),18⟩ (Wk.nils [] (by simp) (by simp) (by simp [nlA]) (by simp [entN,nlL,nlA,Cat.cells,Fn.cells,Prf.cells,UA,U1,IA,I1,LA,L1,BA,B1,EA,E1,E2,eB,eI,eL]) (by simp)) (Q1Y 18)) ?_);clear h;intro k99 s99 c99 h hk99;refine Q3 (Q3 (runQ hN fun K hK=>?_));simp;repeat refine sdQ ?_
  refine hK _ ?_;clear hK K;refine tn (Qd rfl (fun g=>?_) fun g=>?_)
  ·have g100:s99.2<(f_.s.fr.length:Int):=gQ;clear g;replace h:=if_l g100 h;refine Qe (tn (Q3 (Qa (Q3 (runQ hN fun K hK=>?_)))));simp;(repeat refine sdQ ?_);refine hK _ ?_;clear hK K;refine tn (Q7 (st':=⟨Ye [(12,iV s99.2),(13,.own 18 0 0)],Y2 f_ g_ (Yc v1 v2 b3 s99 [(18,.mix 1 [])]),19⟩) (Q1Y 19) (Q3 (Q3 (runQ hN fun K hK=>?_))));simp;(repeat refine sdQ ?_);refine hK _ (tn (Q7 (st':=⟨Ye [(12,iV s99.2),(13,.own 18 0 0),(14,iV 0)],Y2 f_ g_ (Yc v1 v2 b3 s99 [(18,.mix 1 [])]),19⟩) (Q1Y 19) ?_));clear hK K;replace ⟨e101,h,h101⟩:=bind_some h
   refine Qg (fun b101:List (List Int)=>⟨Ye [(12,iV s99.2),(13,.own 18 0 b101.length)],Y2 f_ g_ (Yc v1 v2 b3 s99 [(18,.row 1 (Ls b101))]),19⟩) (fun b101=>b101=e101) ?_ ?_
   ·refine Qa (Qn h (fun s129:List (List Int) × Int=>⟨Ye [(12,iV s99.2),(13,.own 18 0 s129.1.length),(14,iV s129.2)],Y2 f_ g_ (Yc v1 v2 b3 s99 [(18,.row 1 (Ls s129.1))]),19⟩) (Q1J ⟨Ye [(12,iV s99.2),(13,.own 18 0 0),(14,iV 0)],Y2 f_ g_ (Yc v1 v2 b3 s99 [(18,.row 1 (Ls []))]),19⟩ (Wk.nils [] (by simp) (by simp) (by simp [nlA]) (by simp [entN,nlL,nlA,Cat.cells,Fn.cells,Prf.cells,UA,U1,IA,I1,LA,L1,BA,B1,EA,E1,E2,eB,eI,eL]) (by simp)) (Q1Y 19)) ?_);clear h;intro k129 s129 c129 h hk129;refine Q3 (Q3 (runQ hN fun K hK=>?_));simp;(repeat refine sdQ ?_);refine hK _ ?_;clear hK K;refine tn (Qd rfl (fun g=>?_) fun g=>?_)
    ·have g130:s129.2<g_.s.n:=gQ;clear g;replace h:=if_l g130 h;refine Qe (tn (Q3 (Qa (Q3 (runQ hN fun K hK=>?_)))));replace ⟨a131,h⟩:=Q0 h;replace ⟨a132,h⟩:=Q0 h;replace ⟨a133,h⟩:=Q0 h;simp [at_I a131,at_I a132,at_I a133];(repeat with_reducible refine sdQ ?_);replace ⟨v134,hv134,h⟩:=bind_some h;refine Q6 (Q2w _ _ _ v134 hv134) (.cons (.aggL (.cons .val (.cons .lst (.cons .lst (.cons .lst (.cons .lst .nil)))))) (.cons .val (.cons .val .nil))) ?_;replace ⟨a135,h⟩:=Q0 h;replace ⟨a136,h⟩:=Q0 h;replace ⟨a137,h⟩:=Q0 h;simp [at_I a131,at_I a132,at_I a133,at_I a135,at_I a136,at_I a137];(repeat with_reducible refine sdQ ?_);replace ⟨v138,hv138,h⟩:=bind_some h;refine Q6 (Q2w _ _ _ v138 hv138) (.cons (.aggL (.cons .val (.cons .lst (.cons .lst (.cons .lst (.cons .lst .nil)))))) (.cons .val (.cons .val .nil))) ?_;simp [at_I a131,at_I a132,at_I a133,at_I a135,at_I a136,at_I a137];(repeat refine sdQ ?_);refine hK _ ?_;clear hK K;refine tn (Q7 (st':=⟨Ye (Y0l s99 s129 v134 v138 []),Y2 f_ g_ (Yc v1 v2 b3 s99 (Y0H s129 v134 v138 [])),21⟩) (Q1Y 21) (Q3 (runQ hN fun K hK=>?_)));simp;(repeat refine sdQ ?_);refine hK _ (tn ?_);clear hK K
     refine Q7 (st':=⟨Ye (Y0l s99 s129 v134 v138 [(17,.own 21 0 0)]),Y2 f_ g_ (Yc v1 v2 b3 s99 (Y0H s129 v134 v138 [(21,.mix 1 [])])),22⟩) (Q1Y 22) (Q3 (Q3 (runQ hN fun K hK=>?_)));simp;(repeat refine sdQ ?_);refine hK _ (tn (Q7 (st':=⟨Ye (Y0l s99 s129 v134 v138 [(17,.own 21 0 0),(18,iV 0)]),Y2 f_ g_ (Yc v1 v2 b3 s99 (Y0H s129 v134 v138 [(21,.mix 1 [])])),22⟩) (Q1Y 22) ?_));clear hK K;replace ⟨e139,h,h139⟩:=bind_some h
     refine Qg (fun b139:List Int=>⟨Ye [(12,iV s99.2),(13,.own 18 0 s129.1.length),(14,iV s129.2),(17,.own 19 0 b139.length)],Y2 f_ g_ (Yc v1 v2 b3 s99 [(18,.row 1 (Ls s129.1)),(19,rI b139)]),20⟩) (fun b139=>b139=e139) ?_ ?_
     ·refine Qa (Qn h (fun s147:List Int × Int=>⟨Ye (Y0l s99 s129 v134 v138 [(17,.own 21 0 s147.1.length),(18,iV s147.2)]),Y2 f_ g_ (Yc v1 v2 b3 s99 (Y0H s129 v134 v138 [(21,rI s147.1)])),22⟩) (Q1J ⟨Ye (Y0l s99 s129 v134 v138 [(17,.own 21 0 0),(18,iV 0)]),Y2 f_ g_ (Yc v1 v2 b3 s99 (Y0H s129 v134 v138 [(21,rI [])])),22⟩ (Wk.nils [] (by simp) (by simp) (by simp [nlA]) (by simp [entN,nlL,nlA,Cat.cells,Fn.cells,Prf.cells,UA,U1,IA,I1,LA,L1,BA,B1,EA,E1,E2,eB,eI,eL]) (by simp)) (Q1Y 22)) ?_);clear h;intro k147 s147 c147 h hk147;refine Q3 (Q3 (runQ hN fun K hK=>?_));simp;(repeat refine sdQ ?_);refine hK _ ?_;clear hK K;refine tn (Qd rfl (fun g=>?_) fun g=>?_)
      ·have g148:s147.2<(v134.length:Int):=gQ;clear g;replace h:=if_l g148 h;refine Qe (tn (Q3 (Qa (runQ hN fun K hK=>?_))));replace ⟨a149,h⟩:=Q0 h;replace ⟨a150,h⟩:=Q0 h;simp [at_I a149,at_I a150];(repeat with_reducible refine sdQ ?_);replace ⟨v151,hv151,h⟩:=bind_some h;refine Q6 (Q51 _ _ _ v151 hv151) (.cons (.aggL (.cons .val (.cons .lst (.cons .lst (.cons .lst (.cons .lst .nil)))))) (.cons .val (.cons .val .nil))) ?_;simp [at_I a149,at_I a150];(repeat with_reducible refine sdQ ?_);replace ⟨v152,hv152,h⟩:=bind_some h;refine Q6 (Q3G _ _ v152 hv152) (.cons .w (.cons .val .nil)) ?_;replace ⟨a153,h⟩:=Q0 h;(try simp only [List.length_append,List.length_cons,List.length_nil] at a153);simp [at_I a149,at_I a150,a153];(repeat refine sdQ ?_);refine hK _ ?_;clear hK K;refine bn (tn (Q7 (st':=⟨Ye (Y0l s99 s129 v134 v138 [(17,.own 21 0 ((s147.1++[v152]).length)),(18,iV s147.2)]),Y2 f_ g_ (Yc v1 v2 b3 s99 (Y0H s129 v134 v138 [(21,rI (s147.1++[v152]))])),22⟩) (Q2l [(0,0),(1,1),(2,2),(3,3),(4,4),(5,5),(6,6),(7,7),(8,8),(9,9),(10,10),(11,11),(12,12),(13,13),(14,14),(15,15),(16,16),(17,17),(18,18),(19,19),(20,20),(26,21)]) (runQ hN fun K hK=>?_)));replace ⟨a154,h⟩:=Q0 h;simp [Qh a154];(repeat refine sdQ ?_);refine hK _ ?_;clear hK K;cases h;exact rn (s':=(s147.1++[v152],s147.2+1)) hk147 (Q1Y 22)
      have g148:¬ (s147.2<(v134.length:Int)):=gQ;clear g;replace h:=if_r g148 h;refine Qm (tx (lx (bh ?_)));cases h;exact jn (b:=s147.1) hk147 (Q2l [(0,0),(1,1),(2,2),(3,3),(4,4),(5,5),(6,6),(7,7),(8,8),(9,9),(10,10),(11,11),(12,12),(13,13),(14,14),(15,15),(16,16),(17,17),(18,18),(21,19)])
     intro b139 hb139;have h:=h139;(try rw [← hb139] at h);clear h139;(try dsimp only at h);refine runQ hN fun K hK=>?_;replace ⟨a155,h⟩:=Q0 h;(try simp only [List.length_append,List.length_cons,List.length_nil] at a155);simp [a155];(repeat refine sdQ ?_);refine hK _ ?_;clear hK K;refine bn (tn (Q7 (st':=⟨Ye [(12,iV s99.2),(13,.own 18 0 ((s129.1++[b139]).length)),(14,iV s129.2)],Y2 f_ g_ (Yc v1 v2 b3 s99 [(18,.row 1 (Ls (s129.1++[b139])))]),19⟩) (Q2l [(0,0),(1,1),(2,2),(3,3),(4,4),(5,5),(6,6),(7,7),(8,8),(9,9),(10,10),(11,11),(12,12),(13,13),(14,14),(15,15),(16,16),(17,17),(21,18)]) (runQ hN fun K hK=>?_)));replace ⟨a156,h⟩:=Q0 h;simp [Qh a156];(repeat refine sdQ ?_);refine hK _ ?_;clear hK K;cases h;exact rn (s':=(s129.1++[b139],s129.2+1)) hk129 (Q1Y 19)
    have g130:¬ (s129.2<g_.s.n):=gQ;clear g;replace h:=if_r g130 h;refine Qm (tx (lx (bh ?_)));cases h;exact jn (b:=s129.1) hk129 (Q1Y 19)
   intro b101 hb101;have h:=h101;(try rw [← hb101] at h);clear h101;(try dsimp only at h);refine runQ hN fun K hK=>?_;replace ⟨a157,h⟩:=Q0 h;(try simp only [List.length_append,List.length_cons,List.length_nil] at a157);simp [a157];(repeat refine sdQ ?_);refine hK _ ?_;clear hK K;refine bn (tn (Q7 (st':=⟨Ye [(12,iV s99.2)],Y2 f_ g_ ((6,.mix 13 [(Y1g v1 v2 [.own 15 0 b3.length,.own 16 0 ((s99.1++[b101]).length),.own 17 0 0])])::YA v1 v2 [(15,.row 1 (Ls b3)),(16,.row 1 (Es eL (s99.1++[b101]))),(17,.mix 1 [])]),18⟩) (Q2l [(0,0),(1,1),(2,2),(3,3),(4,4),(5,5),(6,6),(7,7),(8,8),(9,9),(10,10),(11,11),(12,12),(13,13),(14,14),(15,15),(20,16),(17,17)]) (runQ hN fun K hK=>?_)));replace ⟨a158,h⟩:=Q0 h;simp [Qh a158];(repeat refine sdQ ?_);refine hK _ ?_;clear hK K;cases h;exact rn (s':=(s99.1++[b101],s99.2+1)) hk99 (Q1Y 18)
  have g100:¬ (s99.2<(f_.s.fr.length:Int)):=gQ;clear g;replace h:=if_r g100 h;refine Qm (tx (lx (bh ?_)));cases h;exact jn (b:=s99.1) hk99 (Q1Y 18)
 intro b39 hb39;have h:=h39;try rw [← hb39] at h
 clear h39;try dsimp only at h
 refine Q3 (Q3 (runQ hN fun K hK=>?_));simp;repeat refine sdQ ?_
 refine hK _ (tn (Q7 (st':=⟨Ye [(19,iV 0)],Y2 f_ g_ (Y07 v1 v2 b3 b39 (YA v1 v2 [(15,.row 1 (Ls b3)),(16,.row 1 (Es eL b39)),(17,.mix 1 [])])),18⟩) (Q1Y 18) ?_));clear hK K;replace ⟨e159,h,h159⟩:=bind_some h;refine Qg (fun b159:List (List (List Int))=>⟨[(4,.adr 0 0 0),(8,.adr 1 0 0)],Ys (Y0a v1 v2 b3 b39 b159 (Y7 v1 v2 (YO b3 b39 [(12,.row 1 (Es eL b159))]))),13⟩) (fun b159=>b159=e159) ?_ ?_
 ·refine Qa (Qn h (fun s219:List (List (List Int)) × Int=>⟨Ye [(19,iV s219.2)],Y2 f_ g_ (Yb v1 v2 b3 b39 s219 []),18⟩) (Q1J ⟨Ye [(19,iV 0)],Y2 f_ g_ (Y07 v1 v2 b3 b39 (YA v1 v2 [(15,.row 1 (Ls b3)),(16,.row 1 (Es eL b39)),(17,.row 1 (Es eL []))])),18⟩ (Wk.nils [] (by simp) (by simp) (by simp [nlA]) (by simp [entN,nlL,nlA,Cat.cells,Fn.cells,Prf.cells,UA,U1,IA,I1,LA,L1,BA,B1,EA,E1,E2,eB,eI,eL]) (by simp)) (Q1Y 18)) ?_);clear h;intro k219 s219 c219 h hk219;refine Q3 (Q3 (runQ hN fun K hK=>?_));simp;repeat refine sdQ ?_
  refine hK _ ?_;clear hK K;refine tn (Qd rfl (fun g=>?_) fun g=>?_)
  ·have g220:s219.2<(g_.s.fr.length:Int):=gQ;clear g;replace h:=if_l g220 h;refine Qe (tn (Q3 (Qa (Q3 (runQ hN fun K hK=>?_)))));simp;(repeat refine sdQ ?_);refine hK _ ?_;clear hK K;refine tn (Q7 (st':=⟨Ye [(19,iV s219.2),(20,.own 18 0 0)],Y2 f_ g_ (Yb v1 v2 b3 b39 s219 [(18,.mix 1 [])]),19⟩) (Q1Y 19) (Q3 (Q3 (runQ hN fun K hK=>?_))));simp;(repeat refine sdQ ?_);refine hK _ (tn (Q7 (st':=⟨Ye [(19,iV s219.2),(20,.own 18 0 0),(21,iV 0)],Y2 f_ g_ (Yb v1 v2 b3 b39 s219 [(18,.mix 1 [])]),19⟩) (Q1Y 19) ?_));clear hK K;replace ⟨e221,h,h221⟩:=bind_some h
   refine Qg (fun b221:List (List Int)=>⟨Ye [(19,iV s219.2),(20,.own 18 0 b221.length)],Y2 f_ g_ (Yb v1 v2 b3 b39 s219 [(18,.row 1 (Ls b221))]),19⟩) (fun b221=>b221=e221) ?_ ?_
   ·refine Qa (Qn h (fun s249:List (List Int) × Int=>⟨Ye [(19,iV s219.2),(20,.own 18 0 s249.1.length),(21,iV s249.2)],Y2 f_ g_ (Yb v1 v2 b3 b39 s219 [(18,.row 1 (Ls s249.1))]),19⟩) (Q1J ⟨Ye [(19,iV s219.2),(20,.own 18 0 0),(21,iV 0)],Y2 f_ g_ (Yb v1 v2 b3 b39 s219 [(18,.row 1 (Ls []))]),19⟩ (Wk.nils [] (by simp) (by simp) (by simp [nlA]) (by simp [entN,nlL,nlA,Cat.cells,Fn.cells,Prf.cells,UA,U1,IA,I1,LA,L1,BA,B1,EA,E1,E2,eB,eI,eL]) (by simp)) (Q1Y 19)) ?_);clear h;intro k249 s249 c249 h hk249;refine Q3 (Q3 (runQ hN fun K hK=>?_));simp;(repeat refine sdQ ?_);refine hK _ ?_;clear hK K;refine tn (Qd rfl (fun g=>?_) fun g=>?_)
    ·have g250:s249.2<f_.s.n:=gQ;clear g;replace h:=if_l g250 h;refine Qe (tn (Q3 (Qa (Q3 (runQ hN fun K hK=>?_)))));replace ⟨a251,h⟩:=Q0 h;replace ⟨a252,h⟩:=Q0 h;replace ⟨a253,h⟩:=Q0 h;simp [at_I a251,at_I a252,at_I a253];(repeat with_reducible refine sdQ ?_);replace ⟨v254,hv254,h⟩:=bind_some h;refine Q6 (Q2w _ _ _ v254 hv254) (.cons (.aggL (.cons .val (.cons .lst (.cons .lst (.cons .lst (.cons .lst .nil)))))) (.cons .val (.cons .val .nil))) ?_;replace ⟨a255,h⟩:=Q0 h;replace ⟨a256,h⟩:=Q0 h;replace ⟨a257,h⟩:=Q0 h;simp [at_I a251,at_I a252,at_I a253,at_I a255,at_I a256,at_I a257];(repeat with_reducible refine sdQ ?_);replace ⟨v258,hv258,h⟩:=bind_some h;refine Q6 (Q2w _ _ _ v258 hv258) (.cons (.aggL (.cons .val (.cons .lst (.cons .lst (.cons .lst (.cons .lst .nil)))))) (.cons .val (.cons .val .nil))) ?_;simp [at_I a251,at_I a252,at_I a253,at_I a255,at_I a256,at_I a257];(repeat refine sdQ ?_);refine hK _ ?_;clear hK K;refine tn (Q7 (st':=⟨Ye (Y0n s219 s249 v254 v258 []),Y2 f_ g_ (Yb v1 v2 b3 b39 s219 (Y0H s249 v254 v258 [])),21⟩) (Q1Y 21) (Q3 (runQ hN fun K hK=>?_)));simp;(repeat refine sdQ ?_);refine hK _ (tn ?_);clear hK K
     refine Q7 (st':=⟨Ye (Y0n s219 s249 v254 v258 [(24,.own 21 0 0)]),Y2 f_ g_ (Yb v1 v2 b3 b39 s219 (Y0H s249 v254 v258 [(21,.mix 1 [])])),22⟩) (Q1Y 22) (Q3 (Q3 (runQ hN fun K hK=>?_)));simp;(repeat refine sdQ ?_);refine hK _ (tn (Q7 (st':=⟨Ye (Y0n s219 s249 v254 v258 [(24,.own 21 0 0),(25,iV 0)]),Y2 f_ g_ (Yb v1 v2 b3 b39 s219 (Y0H s249 v254 v258 [(21,.mix 1 [])])),22⟩) (Q1Y 22) ?_));clear hK K;replace ⟨e259,h,h259⟩:=bind_some h
     refine Qg (fun b259:List Int=>⟨Ye [(19,iV s219.2),(20,.own 18 0 s249.1.length),(21,iV s249.2),(24,.own 19 0 b259.length)],Y2 f_ g_ (Yb v1 v2 b3 b39 s219 [(18,.row 1 (Ls s249.1)),(19,rI b259)]),20⟩) (fun b259=>b259=e259) ?_ ?_
     ·refine Qa (Qn h (fun s267:List Int × Int=>⟨Ye (Y0n s219 s249 v254 v258 [(24,.own 21 0 s267.1.length),(25,iV s267.2)]),Y2 f_ g_ (Yb v1 v2 b3 b39 s219 (Y0H s249 v254 v258 [(21,rI s267.1)])),22⟩) (Q1J ⟨Ye (Y0n s219 s249 v254 v258 [(24,.own 21 0 0),(25,iV 0)]),Y2 f_ g_ (Yb v1 v2 b3 b39 s219 (Y0H s249 v254 v258 [(21,rI [])])),22⟩ (Wk.nils [] (by simp) (by simp) (by simp [nlA]) (by simp [entN,nlL,nlA,Cat.cells,Fn.cells,Prf.cells,UA,U1,IA,I1,LA,L1,BA,B1,EA,E1,E2,eB,eI,eL]) (by simp)) (Q1Y 22)) ?_);clear h;intro k267 s267 c267 h hk267;refine Q3 (Q3 (runQ hN fun K hK=>?_));simp;(repeat refine sdQ ?_);refine hK _ ?_;clear hK K;refine tn (Qd rfl (fun g=>?_) fun g=>?_)
      ·have g268:s267.2<(v254.length:Int):=gQ;clear g;replace h:=if_l g268 h;refine Qe (tn (Q3 (Qa (runQ hN fun K hK=>?_))));replace ⟨a269,h⟩:=Q0 h;replace ⟨a270,h⟩:=Q0 h;simp [at_I a269,at_I a270];(repeat with_reducible refine sdQ ?_);replace ⟨v271,hv271,h⟩:=bind_some h;refine Q6 (Q51 _ _ _ v271 hv271) (.cons (.aggL (.cons .val (.cons .lst (.cons .lst (.cons .lst (.cons .lst .nil)))))) (.cons .val (.cons .val .nil))) ?_;simp [at_I a269,at_I a270];(repeat with_reducible refine sdQ ?_);replace ⟨v272,hv272,h⟩:=bind_some h;refine Q6 (Q3G _ _ v272 hv272) (.cons .w (.cons .val .nil)) ?_;replace ⟨a273,h⟩:=Q0 h;(try simp only [List.length_append,List.length_cons,List.length_nil] at a273);simp [at_I a269,at_I a270,a273];(repeat refine sdQ ?_);refine hK _ ?_;clear hK K;refine bn (tn (Q7 (st':=⟨Ye (Y0n s219 s249 v254 v258 [(24,.own 21 0 ((s267.1++[v272]).length)),(25,iV s267.2)]),Y2 f_ g_ (Yb v1 v2 b3 b39 s219 (Y0H s249 v254 v258 [(21,rI (s267.1++[v272]))])),22⟩) (Q2l [(0,0),(1,1),(2,2),(3,3),(4,4),(5,5),(6,6),(7,7),(8,8),(9,9),(10,10),(11,11),(12,12),(13,13),(14,14),(15,15),(16,16),(17,17),(18,18),(19,19),(20,20),(26,21)]) (runQ hN fun K hK=>?_)));replace ⟨a274,h⟩:=Q0 h;simp [Qh a274];(repeat refine sdQ ?_);refine hK _ ?_;clear hK K;cases h;exact rn (s':=(s267.1++[v272],s267.2+1)) hk267 (Q1Y 22)
      have g268:¬ (s267.2<(v254.length:Int)):=gQ;clear g;replace h:=if_r g268 h;refine Qm (tx (lx (bh ?_)));cases h;exact jn (b:=s267.1) hk267 (Q2l [(0,0),(1,1),(2,2),(3,3),(4,4),(5,5),(6,6),(7,7),(8,8),(9,9),(10,10),(11,11),(12,12),(13,13),(14,14),(15,15),(16,16),(17,17),(18,18),(21,19)])
     intro b259 hb259;have h:=h259;(try rw [← hb259] at h);clear h259;(try dsimp only at h);refine runQ hN fun K hK=>?_;replace ⟨a275,h⟩:=Q0 h;(try simp only [List.length_append,List.length_cons,List.length_nil] at a275);simp [a275];(repeat refine sdQ ?_);refine hK _ ?_;clear hK K;refine bn (tn (Q7 (st':=⟨Ye [(19,iV s219.2),(20,.own 18 0 ((s249.1++[b259]).length)),(21,iV s249.2)],Y2 f_ g_ (Yb v1 v2 b3 b39 s219 [(18,.row 1 (Ls (s249.1++[b259])))]),19⟩) (Q2l [(0,0),(1,1),(2,2),(3,3),(4,4),(5,5),(6,6),(7,7),(8,8),(9,9),(10,10),(11,11),(12,12),(13,13),(14,14),(15,15),(16,16),(17,17),(21,18)]) (runQ hN fun K hK=>?_)));replace ⟨a276,h⟩:=Q0 h;simp [Qh a276];(repeat refine sdQ ?_);refine hK _ ?_;clear hK K;cases h;exact rn (s':=(s249.1++[b259],s249.2+1)) hk249 (Q1Y 19)
    have g250:¬ (s249.2<f_.s.n):=gQ;clear g;replace h:=if_r g250 h;refine Qm (tx (lx (bh ?_)));cases h;exact jn (b:=s249.1) hk249 (Q1Y 19)
   intro b221 hb221;have h:=h221;(try rw [← hb221] at h);clear h221;(try dsimp only at h);refine runQ hN fun K hK=>?_;replace ⟨a277,h⟩:=Q0 h;(try simp only [List.length_append,List.length_cons,List.length_nil] at a277);simp [a277];(repeat refine sdQ ?_);refine hK _ ?_;clear hK K;refine bn (tn (Q7 (st':=⟨Ye [(19,iV s219.2)],Y2 f_ g_ ((6,.mix 13 [(Y1g v1 v2 [.own 15 0 b3.length,.own 16 0 b39.length,.own 17 0 ((s219.1++[b221]).length)])])::YA v1 v2 [(15,.row 1 (Ls b3)),(16,.row 1 (Es eL b39)),(17,.row 1 (Es eL (s219.1++[b221])))]),18⟩) (Q2l [(0,0),(1,1),(2,2),(3,3),(4,4),(5,5),(6,6),(7,7),(8,8),(9,9),(10,10),(11,11),(12,12),(13,13),(14,14),(15,15),(16,16),(20,17)]) (runQ hN fun K hK=>?_)));replace ⟨a278,h⟩:=Q0 h;simp [Qh a278];(repeat refine sdQ ?_);refine hK _ ?_;clear hK K;cases h;exact rn (s':=(s219.1++[b221],s219.2+1)) hk219 (Q1Y 18)
  have g220:¬ (s219.2<(g_.s.fr.length:Int)):=gQ;clear g;replace h:=if_r g220 h;refine Qm (tx (lx (bh ?_)));cases h;exact jn (b:=s219.1) hk219 (Q2l [(2,0),(6,1),(7,2),(8,3),(9,4),(10,5),(11,6),(12,7),(13,8),(14,9),(15,10),(16,11),(17,12)])
 intro b159 hb159;have h:=h159;try rw [← hb159] at h
 clear h159;try dsimp only at h
 refine Q3 (runQ hN fun K hK=>?_);simp;repeat refine sdQ ?_
 refine hK _ (tn (Q7 (st':=⟨[(4,.adr 0 0 0)],YM v1 v2 b3 b39 b159 [],12⟩) (Q2l [(0,0),(2,1),(3,2),(4,3),(5,4),(6,5),(7,6),(8,7),(9,8),(10,9),(11,10),(12,11)]) (Qo ?_)));clear hK K;have hr:=Option.some.inj h;rw [← hr];refine ⟨_,(.cell Q8k rfl rfl rfl (by simp) (by simp) .nil),?_⟩;refine ⟨(.agg rfl .nil),[iV v1.n,lI v1.fr,lI v1.to,lI v1.id,.lst true 1 (Ls v1.cs),iV v2.n,lI v2.fr,lI v2.to,lI v2.id,.lst true 1 (Ls v2.cs),.lst true 1 (Ls b3),.lst true 1 (Es eL b39),.lst true 1 (Es eL b159)],[1,2,3,4,5,6,7,8,9,10,11],by simp [Cat.cells,Fn.cells,Prf.cells,UA,U1,IA,I1,LA,L1,BA,B1,EA,E1,E2,eB,eI,eL],by simp,(UpL.refl _)⟩
section
attribute [local simp] Ql Q11 QE Q1j QW
theorem NT.frA {f g:Fn} (h:NT f g) {a:Nat} (ha:a<f.ar.length):(0≤ix f.s.to a∧ix f.s.to a<(f.ob.length:Int))∧(0≤ix f.s.fr a∧ix f.s.fr a<(f.ob.length:Int))∧(a:Int)<(f.s.to.length:Int)∧(a:Int)<(f.s.fr.length:Int):=by
 have o:=h.obn;have e:=h.hf.s.ends (a:=a) (by omega);have n:=h.hf.s.nums;omega
theorem NT.frB {f g:Fn} (h:NT f g) {b:Nat} (hb:b<g.ar.length):(0≤ix g.s.to b∧ix g.s.to b<(g.ob.length:Int))∧(0≤ix g.s.fr b∧ix g.s.fr b<(g.ob.length:Int))∧(b:Int)<(g.s.to.length:Int)∧(b:Int)<(g.s.fr.length:Int):=by
 have o:=h.obn;have e:=h.hg.s.ends (a:=b) (by omega);have n:=h.hg.s.nums;omega
theorem Q9u {f g:Fn} (h:NT f g):Q21 f g=some (natP f g):=by
 obtain ⟨l1,l2,l3,l4,l5,l6,l7,l8,l9⟩:=h.obn;have ht:=h.hf.t;unfold Q21 Q1M;rw [Q4 h.hf.s.ok,Q4 h.hg.s.ok];simp only [Option.bind_some];refine tabg f.ob.length (fun x=>tab g.ob.length fun y=>natS f g x y) (e:=(natP f g).sz) (by omega) (fun x hx=>?_) (by simp only;rw [if_neg (by omega)];rfl) ?_
 ·simp only;rw [if_pos (by omega)];refine tabg g.ob.length (fun y=>natS f g x y) (e:=tab g.ob.length fun y=>natS f g x y) (by omega) (fun y hy=>?_) (by simp only;rw [if_neg (by omega)]) rfl;simp only;rw [if_pos (by omega),Q4 (by omega),Q4 (by omega),(Q4i ht _ _).1];rfl
 refine tabg f.ar.length (fun a=>tab g.ob.length fun y=>natB f g a y) (e:=(natP f g).bf) (by omega) (fun a ha=>?_) (by simp only;rw [if_neg (by omega)];rfl) ?_
 ·simp only;rw [if_pos (by omega)];obtain ⟨o1,o2,o3,o4⟩:=h.frA ha;refine tabg g.ob.length (fun y=>natB f g a y) (e:=tab g.ob.length fun y=>natB f g a y) (by omega) (fun y hy=>?_) (by simp only;rw [if_neg (by omega)]) rfl;simp only;rw [if_pos (by omega),Q4 (by omega),Q4 (by omega),Q4 (by omega),(Q4i ht _ _).1];simp only [Option.bind_some];rw [Q4 (by omega),Q4 (by omega),Q4 (by omega),(Q4i ht _ _).1];simp only [Option.bind_some];have L:=Q2m f.t (ix f.ob (ix f.s.to a)) (ix g.ob y);have L2:=Q2m f.t (ix f.ob (ix f.s.fr a)) (ix g.ob y);refine Q5W (homL f.t (ix f.ob (ix f.s.to a)) (ix g.ob y)) (fun k=>idxL (homL f.t (ix f.ob (ix f.s.fr a)) (ix g.ob y)) (ix (rx f.t.cs (ix f.ar a)) k)) (e:=natB f g a y) (by omega) (fun i acc hi hl=>?_) (by simp only;rw [if_neg (by omega)];rfl) rfl;simp only;rw [if_pos (by omega),Q4 (by omega),Q4 (by omega),(Ar.thn ht (h.hf.arr ha) (Q5E hi)).1];simp only [Option.bind_some];rw [Q5U (by omega)];simp only [Option.bind_some];rw [Q4 (by simp;omega),Q4 (by unfold B64;omega)]
 refine tabg g.ar.length (fun b=>tab f.ob.length fun x=>natH f g b x) (e:=(natP f g).bh) (by omega) (fun b hb=>?_) (by simp only;rw [if_neg (by omega)];rfl) rfl;simp only;rw [if_pos (by omega)];obtain ⟨o1,o2,o3,o4⟩:=h.frB hb;refine tabg f.ob.length (fun x=>natH f g b x) (e:=tab f.ob.length fun x=>natH f g b x) (by omega) (fun x hx=>?_) (by simp only;rw [if_neg (by omega)]) rfl;simp only;rw [if_pos (by omega),Q4 (by omega),Q4 (by omega),Q4 (by omega),(Q4i ht _ _).1];simp only [Option.bind_some];rw [Q4 (by omega),Q4 (by omega),Q4 (by omega),(Q4i ht _ _).1];simp only [Option.bind_some];have L:=Q2m f.t (ix f.ob x) (ix g.ob (ix g.s.fr b));have L2:=Q2m f.t (ix f.ob x) (ix g.ob (ix g.s.to b));have ar:=h.hg.arr hb;rw [← h.e] at ar;refine Q5W (homL f.t (ix f.ob x) (ix g.ob (ix g.s.fr b))) (fun k=>idxL (homL f.t (ix f.ob x) (ix g.ob (ix g.s.to b))) (ix (rx f.t.cs k) (ix g.ar b))) (e:=natH f g b x) (by omega) (fun i acc hi hl=>?_) (by simp only;rw [if_neg (by omega)];rfl) rfl;simp only;rw [if_pos (by omega),Q4 (by omega),Q4 (by omega),(Ar.thn ht (Q5E hi) ar).1];simp only [Option.bind_some];rw [Q5U (by omega)];simp only [Option.bind_some];rw [Q4 (by simp;omega),Q4 (by unfold B64;omega)]
theorem Q69 {f g:Fn} (h:NT f g) {x y:Int} (hx:0≤x∧x<(f.ob.length:Int)) (hy:0≤y∧y<(g.ob.length:Int)):QF x y f.t f g=some (homL f.t (ix f.ob x) (ix g.ob y)):=by
 unfold QF;rw [Q4 hx,Q4 hy,(Q4i h.hf.t _ _).2];rfl
set_option maxHeartbeats 1000000 in
theorem Q7I {f g:Fn} (h:NT f g):Q2Q f g=some (natP f g):=by
 obtain ⟨l1,l2,l3,l4,l5,l6,l7,l8,l9⟩:=h.obn;have ht:=h.hf.t;unfold Q2Q;have run:Qf f.s g.s (f.t,f,g) (f.t,f,g) f f.t (f.t,f,g) g f.t=some (natP f g,true):=by
  unfold Qf QP;rw [Q4 h.hf.s.ok,Q4 h.hg.s.ok];simp only [Option.bind_some];refine tabg f.ob.length (fun x=>tab g.ob.length fun y=>natS f g x y) (e:=Sum.inl (natP f g).sz) (by omega) (fun x hx=>?_) (by simp only;rw [if_neg (by omega)];rfl) ?_
  ·simp only;rw [if_pos (by omega),Q4 (by omega)];refine QY g.ob.length (fun i=>tab i fun y=>natS f g x y) (e:=Sum.inl (tab g.ob.length fun y=>natS f g x y)) rfl (by omega) (fun y hy=>?_) (by simp only;rw [if_neg (by omega)]) rfl;have q2:=Q2m f.t (ix f.ob x) (ix g.ob y);have q3:natS f g x y≤64:=(by unfold natS;omega);unfold Q15;simp only;rw [if_pos (by omega),Q4 (by simp),Q69 h (by omega) (by omega)];simp only [Option.bind_some,Int.toNat_natCast,Qa0]
   change (ass ((tab y (fun y=>natS f g x y)++[natS f g x y]).length≤1073741824) <| _)=_
   rw [Q4 (by simp;omega),Q4 (by simp;omega)]
   change (if ix (tab y (fun y=>natS f g x y)++[natS f g x y]) y > 64 then _ else ass _ (some (Ctl.next (tab y (fun y=>natS f g x y)++[natS f g x y],_))))=_
   rw [← Q1u y fun y=>natS f g x y,Q3R _ _ (by omega),if_neg (by omega),Q4 (by unfold B64;omega)]
  simp only;refine tabg f.ar.length (fun a=>tab g.ob.length fun y=>natB f g a y) (e:=(natP f g).bf) (by omega) (fun a ha=>?_) (by simp only;rw [if_neg (by omega)];rfl) ?_
  ·simp only;rw [if_pos (by omega)];obtain ⟨o1,o2,o3,o4⟩:=h.frA ha;refine tabg g.ob.length (fun y=>natB f g a y) (e:=tab g.ob.length fun y=>natB f g a y) (by omega) (fun y hy=>?_) (by simp only;rw [if_neg (by omega)]) rfl;have L:=Q2m f.t (ix f.ob (ix f.s.to a)) (ix g.ob y);have L2:=Q2m f.t (ix f.ob (ix f.s.fr a)) (ix g.ob y);have one:QK a y (f.t,f,g) f f.t=some (natB f g a y):=by
    unfold QK;simp only;rw [Q4 (by omega),Q69 h o2 (by omega)];simp only [Option.bind_some];rw [Q4 (by omega),Q69 h o1 (by omega)];simp only [Option.bind_some];refine Q5W (homL f.t (ix f.ob (ix f.s.to a)) (ix g.ob y)) (fun k=>idxL (homL f.t (ix f.ob (ix f.s.fr a)) (ix g.ob y)) (ix (rx f.t.cs (ix f.ar a)) k)) (e:=natB f g a y) (by omega) (fun i acc hi hl=>?_) (by simp only;rw [if_neg (by omega)];rfl) rfl;simp only;rw [if_pos (by omega),Q4 (by omega),Q4 (by omega),(Ar.thn ht (h.hf.arr ha) (Q5E hi)).2];simp only [Option.bind_some];rw [Q8D (by omega)];simp only [Option.bind_some];rw [Q4 (by simp;omega),Q4 (by unfold B64;omega)]
   simp only;rw [if_pos (by omega),one];simp only [Option.bind_some]
  refine tabg g.ar.length (fun b=>tab f.ob.length fun x=>natH f g b x) (e:=(natP f g).bh) (by omega) (fun b hb=>?_) (by simp only;rw [if_neg (by omega)];rfl) rfl;simp only;rw [if_pos (by omega)];obtain ⟨o1,o2,o3,o4⟩:=h.frB hb;refine tabg f.ob.length (fun x=>natH f g b x) (e:=tab f.ob.length fun x=>natH f g b x) (by omega) (fun x hx=>?_) (by simp only;rw [if_neg (by omega)]) rfl;have L:=Q2m f.t (ix f.ob x) (ix g.ob (ix g.s.fr b));have L2:=Q2m f.t (ix f.ob x) (ix g.ob (ix g.s.to b));have ar:=h.hg.arr hb;rw [← h.e] at ar;have one:QL b x (f.t,f,g) g f.t=some (natH f g b x):=by
   unfold QL;simp only;rw [Q4 (by omega),Q69 h (by omega) o1];simp only [Option.bind_some];rw [Q4 (by omega),Q69 h (by omega) o2];simp only [Option.bind_some];refine Q5W (homL f.t (ix f.ob x) (ix g.ob (ix g.s.fr b))) (fun k=>idxL (homL f.t (ix f.ob x) (ix g.ob (ix g.s.to b))) (ix (rx f.t.cs k) (ix g.ar b))) (e:=natH f g b x) (by omega) (fun i acc hi hl=>?_) (by simp only;rw [if_neg (by omega)];rfl) rfl;simp only;rw [if_pos (by omega),Q4 (by omega),Q4 (by omega),(Ar.thn ht (Q5E hi) ar).2];simp only [Option.bind_some];rw [Q8D (by omega)];simp only [Option.bind_some];rw [Q4 (by simp;omega),Q4 (by unfold B64;omega)]
  simp only;rw [if_pos (by omega),one];simp only [Option.bind_some]
 rw [run];rfl
end
attribute [local simp] unk unA unE unT unC flat eL eI Qr
noncomputable def QT (p_:List Int):Option Int :=
 (Qy (σ:=Int × Int) (ε:=Int) (fun s6 =>
  if s6.2<(p_.length:Int) then
   ass (0≤s6.2∧s6.2<(p_.length:Int)) <|
   ass (B64 ((ix p_ s6.2)+1)) <|
   ass (B64 (s6.2+1)) <|
   some (Ctl.next ((if (ix p_ s6.2)+1 > s6.1 then (ix p_ s6.2)+1 else s6.1),s6.2+1))
  else
   some (Ctl.ret s6.1)) fuel (0,0)).bind fun b1 =>
 some b1
theorem Q1D (p_:List Int) (r:Int) (h:QT p_=some r):Contract Tryz.prog 69 [lI p_] (iV r):=by
 refine Qc (rvs:=[.tmp 2]) (rs:=[iV r]) Tryz.func69 rfl rfl rfl rfl (by simp [Tryz.f69]) fun F hN hP=>?_;unfold QT at h;refine Q3 (runQ hN fun K hK=>?_);simp;repeat refine sdQ ?_
 refine hK _ ?_;clear hK K;refine tn (Q7 (st':=⟨[(0,lI p_)],[],0⟩) (Q2l []) (Q3 (runQ hN fun K hK=>?_)));simp;repeat refine sdQ ?_
 refine hK _ ?_;clear hK K;refine tn (Q7 (st':=⟨[(0,lI p_),(3,iV 0)],[],0⟩) (Q2l []) (Q3 (Q3 (runQ hN fun K hK=>?_))));simp;repeat refine sdQ ?_
 refine hK _ (tn (Q7 (st':=⟨[(3,iV 0),(6,lI p_),(7,iV (p_.length:Int)),(8,iV 0)],[],0⟩) (Q2l []) ?_));clear hK K;replace ⟨e1,h,h1⟩:=bind_some h;refine Qg (fun b1:Int=>⟨[(3,iV b1)],[],0⟩) (fun b1=>b1=e1) ?_ ?_
 ·refine Qa (Qn h (fun s6:Int × Int=>⟨[(3,iV s6.1),(6,lI p_),(7,iV (p_.length:Int)),(8,iV s6.2)],[],0⟩) (Q2l []) ?_);clear h;intro k6 s6 c6 h hk6;refine Q3 (runQ hN fun K hK=>?_);simp;repeat refine sdQ ?_
  refine hK _ ?_;clear hK K;refine tn (Q3 (Qd rfl (fun g=>?_) fun g=>?_))
  ·have g7:s6.2<(p_.length:Int):=gQ;clear g;replace h:=if_l g7 h;refine Qe (tn (Q3 (Qa (Q3 (runQ hN fun K hK=>?_)))));replace ⟨a8,h⟩:=Q0 h;simp [at_I a8];(repeat refine sdQ ?_);refine hK _ ?_;clear hK K;refine tn (Q7 (st':=⟨[(3,iV s6.1),(5,iV (ix p_ s6.2)),(6,lI p_),(7,iV (p_.length:Int)),(8,iV s6.2)],[],0⟩) (Q2l []) (runQ hN fun K hK=>?_));replace ⟨a9,h⟩:=Q0 h;simp [Qh a9];(repeat refine sdQ ?_);refine hK _ ?_;clear hK K;refine bn (tn (Q7 (st':=⟨[(3,iV (if (ix p_ s6.2)+1 > s6.1 then (ix p_ s6.2)+1 else s6.1)),(6,lI p_),(7,iV (p_.length:Int)),(8,iV s6.2)],[],0⟩) (Q2l []) (runQ hN fun K hK=>?_)));replace ⟨a10,h⟩:=Q0 h;simp [Qh a10];(repeat refine sdQ ?_);refine hK _ ?_;clear hK K;cases h;exact rn (s':=((if (ix p_ s6.2)+1 > s6.1 then (ix p_ s6.2)+1 else s6.1),s6.2+1)) hk6 (Q2l [])
  have g7:¬ (s6.2<(p_.length:Int)):=gQ;clear g;replace h:=if_r g7 h;refine Qm (tx (lx (bh ?_)));cases h;exact jn (b:=s6.1) hk6 (Q2l [])
 intro b1 hb1;have h:=h1;try rw [← hb1] at h
 clear h1;try dsimp only at h
 refine Q3 (runQ hN fun K hK=>?_);simp;repeat refine sdQ ?_
 refine hK _ (tn (Q7 (st':=⟨[(2,iV b1)],[],0⟩) (Q2l []) (Qo ?_)));clear hK K;have hr:=Option.some.inj h;rw [← hr];refine ⟨_,(.tmp .nil),?_⟩;refine ⟨(.one rfl rfl .nil),[iV b1],[],by simp [UA,U1,IA,I1,LA,L1,BA,B1,EA,E1,E2,eB,eI,eL],by simp,(UpL.refl _)⟩
attribute [local simp] unk unA unE unT unC flat eL eI Qr
noncomputable def Q2V (p_:List Int):Option Int :=
 (Qy (σ:=Int × Int) (ε:=Int) (fun s6 =>
  if s6.2<(p_.length:Int) then
   ass (0≤s6.2∧s6.2<(p_.length:Int)) <|
   ass (B64 ((ix p_ s6.2)+1)) <|
   ass (B64 (s6.2+1)) <|
   some (Ctl.next ((if (ix p_ s6.2)+1 > s6.1 then (ix p_ s6.2)+1 else s6.1),s6.2+1))
  else
   some (Ctl.ret s6.1)) fuel (0,0)).bind fun b1 =>
 some b1
theorem Q7b (p_:List Int) (r:Int) (h:Q2V p_=some r):Contract Tryz.prog 56 [lI p_] (iV r):=by
 refine Qc (rvs:=[.tmp 2]) (rs:=[iV r]) Tryz.func56 rfl rfl rfl rfl (by simp [Tryz.f56]) fun F hN hP=>?_;unfold Q2V at h;refine Q3 (runQ hN fun K hK=>?_);simp;repeat refine sdQ ?_
 refine hK _ ?_;clear hK K;refine tn (Q7 (st':=⟨[(0,lI p_)],[],0⟩) (Q2l []) (Q3 (runQ hN fun K hK=>?_)));simp;repeat refine sdQ ?_
 refine hK _ ?_;clear hK K;refine tn (Q7 (st':=⟨[(0,lI p_),(3,iV 0)],[],0⟩) (Q2l []) (Q3 (Q3 (runQ hN fun K hK=>?_))));simp;repeat refine sdQ ?_
 refine hK _ (tn (Q7 (st':=⟨[(0,lI p_),(3,iV 0),(4,iV 0)],[],0⟩) (Q2l []) ?_));clear hK K;replace ⟨e1,h,h1⟩:=bind_some h;refine Qg (fun b1:Int=>⟨[(3,iV b1)],[],0⟩) (fun b1=>b1=e1) ?_ ?_
 ·refine Qa (Qn h (fun s6:Int × Int=>⟨[(0,lI p_),(3,iV s6.1),(4,iV s6.2)],[],0⟩) (Q2l []) ?_);clear h;intro k6 s6 c6 h hk6;refine Q3 (Q3 (runQ hN fun K hK=>?_));simp;repeat refine sdQ ?_
  refine hK _ ?_;clear hK K;refine tn (Qd rfl (fun g=>?_) fun g=>?_)
  ·have g7:s6.2<(p_.length:Int):=gQ;clear g;replace h:=if_l g7 h;refine Qe (tn (Q3 (Qa (runQ hN fun K hK=>?_))));replace ⟨a8,h⟩:=Q0 h;replace ⟨a9,h⟩:=Q0 h;simp [at_I a8,Qh a9];(repeat refine sdQ ?_);refine hK _ ?_;clear hK K;refine bn (tn (Q7 (st':=⟨[(0,lI p_),(3,iV (if (ix p_ s6.2)+1 > s6.1 then (ix p_ s6.2)+1 else s6.1)),(4,iV s6.2)],[],0⟩) (Q2l []) (runQ hN fun K hK=>?_)));replace ⟨a10,h⟩:=Q0 h;simp [Qh a10];(repeat refine sdQ ?_);refine hK _ ?_;clear hK K;cases h;exact rn (s':=((if (ix p_ s6.2)+1 > s6.1 then (ix p_ s6.2)+1 else s6.1),s6.2+1)) hk6 (Q2l [])
  have g7:¬ (s6.2<(p_.length:Int)):=gQ;clear g;replace h:=if_r g7 h;refine Qm (tx (lx (bh ?_)));cases h;exact jn (b:=s6.1) hk6 (Q2l [])
 intro b1 hb1;have h:=h1;try rw [← hb1] at h
 clear h1;try dsimp only at h
 refine Q3 (runQ hN fun K hK=>?_);simp;repeat refine sdQ ?_
 refine hK _ (tn (Q7 (st':=⟨[(2,iV b1)],[],0⟩) (Q2l []) (Qo ?_)));clear hK K;have hr:=Option.some.inj h;rw [← hr];refine ⟨_,(.tmp .nil),?_⟩;refine ⟨(.one rfl rfl .nil),[iV b1],[],by simp [UA,U1,IA,I1,LA,L1,BA,B1,EA,E1,E2,eB,eI,eL],by simp,(UpL.refl _)⟩
attribute [local simp] unk unA unE unT unC flat eL eI Qr Qs XL32Composite.cells
noncomputable def QV (c_:XL32Composite) (x_:Int) (z_:Int) (triple_:List Int):Option Int :=
 ass (0≤x_∧x_<(c_.classes_.length:Int)) <|
 ass (0≤z_∧z_<((gx c_.classes_ x_).length:Int)) <|
 ass (0≤x_∧x_<(c_.triples_.length:Int)) <|
 ass (0≤z_∧z_<((gx c_.triples_ x_).length:Int)) <|
 (Q3u (gx (gx c_.triples_ x_) z_) triple_).bind fun v5 =>
 ass (0≤v5∧v5<((rx (gx c_.classes_ x_) z_).length:Int)) <|
 some (ix (rx (gx c_.classes_ x_) z_) v5)
theorem Q2k (c_:XL32Composite) (x_:Int) (z_:Int) (triple_:List Int) (r:Int) (h:QV c_ x_ z_ triple_=some r):Contract Tryz.prog 47 [.agg (c_.cells true),iV x_,iV z_,lI triple_] (iV r):=by
 refine Qc (rvs:=[.tmp 8]) (rs:=[iV r]) Tryz.func47 rfl rfl rfl rfl (by simp [Tryz.f47]) fun F hN hP=>?_;unfold QV at h;refine Q3 (runQ hN fun K hK=>?_);simp;repeat refine sdQ ?_
 refine hK _ ?_;clear hK K;refine tn (Q7 (st':=⟨[(1,iV x_),(2,iV z_),(3,lI triple_),(4,.adr 0 0 0)],[(0,.mix 15 [(XL32Composite.cells true c_)])],1⟩) (Q2l [(0,0)]) (Q3 (runQ hN fun K hK=>?_)));replace ⟨a1,h⟩:=Q0 h;replace ⟨a2,h⟩:=Q0 h;replace ⟨a3,h⟩:=Q0 h;replace ⟨a4,h⟩:=Q0 h;simp [at_E (c:=eL) a1,at_L a2,at_E (c:=(fun x=>[.lst true 1 (Es eL x)])) a3,at_E (c:=eL) a4];repeat with_reducible refine sdQ ?_
 replace ⟨v5,hv5,h⟩:=bind_some h;refine Q6 (Q9i _ _ v5 hv5) (.cons .lst (.cons .lst .nil)) ?_;replace ⟨a6,h⟩:=Q0 h;simp [at_E (c:=eL) a1,at_L a2,at_E (c:=(fun x=>[.lst true 1 (Es eL x)])) a3,at_E (c:=eL) a4,at_I a6];repeat refine sdQ ?_
 refine hK _ (tn (Q7 (st':=⟨[(8,iV (ix (rx (gx c_.classes_ x_) z_) v5))],[],0⟩) (Q2l []) (Qo ?_)));clear hK K;have hr:=Option.some.inj h;rw [← hr];refine ⟨_,(.tmp .nil),?_⟩;refine ⟨(.one rfl rfl .nil),[iV (ix (rx (gx c_.classes_ x_) z_) v5)],[],by simp [XL32Composite.cells,UA,U1,IA,I1,LA,L1,BA,B1,EA,E1,E2,eB,eI,eL,Q8 _ Qs _ (fun _=>rfl)],by simp,(UpL.refl _)⟩
end Go.Vc.T
