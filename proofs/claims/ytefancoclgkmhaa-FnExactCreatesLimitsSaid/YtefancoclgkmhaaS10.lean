/- A part of the proof: a verified generator of conditions, and what each function of the program does. -/
import Derived.Test.YtefancoclgkmhaaS9
set_option maxRecDepth 100000
set_option maxHeartbeats 4000000
set_option linter.unusedSimpArgs false
set_option linter.unusedVariables false

namespace Go.Vc.T
open Go Go.Vc Go.Proofs
attribute [local simp] unk unA unE unT unC flat eL eI Qo
noncomputable def Q2A (n_:Int) (pairs_:List (List Int)):Option (List Int) :=
 (Qw (σ:=List Int × Int) (ε:=List Int) (fun s5 =>
  if s5.2<n_ then
   ass ((s5.1++[s5.2]).length≤1073741824) <|
   ass (B64 (s5.2+1)) <|
   some (Ctl.next (s5.1++[s5.2],s5.2+1))
  else
   some (Ctl.ret s5.1)) fuel ([],0)).bind fun b1 =>
 (Qw (σ:=List Int × Int) (ε:=List Int) (fun s36 =>
  if s36.2<(pairs_.length:Int) then
   (
    ass (0≤s36.2∧s36.2<(pairs_.length:Int)) <|
    ass ((0:Int)≤0∧0<((rx pairs_ s36.2).length:Int)) <|
    ass (0≤ix (rx pairs_ s36.2) 0∧ix (rx pairs_ s36.2) 0<(s36.1.length:Int)) <|
    ass (0≤s36.2∧s36.2<(pairs_.length:Int)) <|
    ass ((0:Int)≤1∧1<((rx pairs_ s36.2).length:Int)) <|
    ass (0≤ix (rx pairs_ s36.2) 1∧ix (rx pairs_ s36.2) 1<(s36.1.length:Int)) <|
    (Qw (σ:=List Int × Int) (ε:=List Int) (fun s53 =>
     (
      if s53.2<(s53.1.length:Int) then
       some ((ix s36.1 (ix (rx pairs_ s36.2) 0)) != (ix s36.1 (ix (rx pairs_ s36.2) 1)))
      else
       some false:Option (Bool)).bind fun b54 =>
     if b54=true then
      (
       ass (0≤s53.2∧s53.2<(s53.1.length:Int)) <|
       if (ix s53.1 s53.2)=(ix s36.1 (ix (rx pairs_ s36.2) 1)) then
        ass (0≤s53.2∧s53.2<(s53.1.length:Int)) <|
        some (s53.1.set s53.2.toNat (ix s36.1 (ix (rx pairs_ s36.2) 0)))
       else
        some s53.1:Option (List Int)).bind fun b57 =>
      ass (B64 (s53.2+1)) <|
      some (Ctl.next (b57,s53.2+1))
     else
      some (Ctl.ret s53.1)) fuel (s36.1,0)).bind fun p53 =>
    some p53:Option (List Int)).bind fun b38 =>
   ass (B64 (s36.2+1)) <|
   some (Ctl.next (b38,s36.2+1))
  else
   some (Ctl.ret s36.1)) fuel (b1,0)).bind fun b9 =>
 (Q1w b9).bind fun v63 =>
 some v63
theorem Qn {F : Fx} {st st' : St} (m : List (Nat × Nat)) (h : (m.map Prod.fst).Nodup ∧ (m.map Prod.snd).Nodup ∧ (∀ id, id < F.pins → look id m = some id) ∧ (∀ p ∈ m, p.2 < st'.n) ∧ (∀ p ∈ st'.h, p.1 < st'.n) ∧ (∀ p ∈ st'.s, p.2 = rl m (st.get p.1) ∨ p.2 = .bot) ∧ ∀ p ∈ st'.h, hhOk m st.h p.1 p.2 := by simp [hP, hhOk, back, idQ, UA, U1, IA, I1, LA, L1, BA, B1, EA, E1, E2, eB, eI, eL, Cat.cells, Fn.cells, Cone.cells, Qa _ (Cone.cells true) _ (fun _=>rfl), XMoved.cells, Qa _ QS _ (fun _=>rfl)]) : Wk F st st' := Wk.r1 m h
theorem QJ {F : Fx} {st st' : St} (m : Nat) (h : ((idQ m).map Prod.fst).Nodup ∧ ((idQ m).map Prod.snd).Nodup ∧ (∀ id, id < F.pins → look id (idQ m) = some id) ∧ (∀ p ∈ (idQ m), p.2 < st'.n) ∧ (∀ p ∈ st'.h, p.1 < st'.n) ∧ (∀ p ∈ st'.s, p.2 = rl (idQ m) (st.get p.1) ∨ p.2 = .bot) ∧ ∀ p ∈ st'.h, hhOk (idQ m) st.h p.1 p.2 := by simp [hP, hhOk, back, idQ, UA, U1, IA, I1, LA, L1, BA, B1, EA, E1, E2, eB, eI, eL, Cat.cells, Fn.cells, Cone.cells, Qa _ (Cone.cells true) _ (fun _=>rfl), XMoved.cells, Qa _ QS _ (fun _=>rfl)]) : Wk F st st' := Wk.r1 (idQ m) h
@[simp] abbrev YR (a:List Int × Int) (b:List (List Int)) (c:List (Nat × AV)):List (Nat × AV):=(7,iV a.2)::(8,iV (ix a.1 (ix (rx b a.2) 0)))::(9,iV (ix a.1 (ix (rx b a.2) 1)))::c
@[simp] abbrev Y0i (a:List (List Int)) (b:List Int × Int) (c:List (Nat × AV)):List (Nat × AV):=(1,.lst true 1 (Ls a))::(5,.own 0 0 b.1.length)::c
theorem Q7X (n_:Int) (pairs_:List (List Int)) (r:List Int) (h:Q2A n_ pairs_=some r):Contract Try.prog 81 [iV n_,.lst true 1 (Ls pairs_)] (lI r):=by
 refine Q8 (rvs:=[.tmp 4]) (rs:=[lI r]) Try.func81 rfl rfl rfl rfl (by simp [Try.f81]) fun F hN hP=>?_;unfold Q2A at h;refine Q0 (runQ hN fun K hK=>?_);simp;repeat refine sdQ ?_
 refine hK _ ?_;clear hK K;refine tn (Q3 (st':=⟨[(0,iV n_),(1,.lst true 1 (Ls pairs_))],[],0⟩) (Qn []) (Q0 (runQ hN fun K hK=>?_)));simp;repeat refine sdQ ?_
 refine hK _ ?_;clear hK K;refine tn (Q3 (st':=⟨[(0,iV n_),(1,.lst true 1 (Ls pairs_)),(5,.own 0 0 0)],[(0,.mix 1 [])],1⟩) (Qn [(0,0)]) (Q0 (Q0 (runQ hN fun K hK=>?_))));simp;repeat refine sdQ ?_
 refine hK _ (tn (Q3 (st':=⟨[(0,iV n_),(1,.lst true 1 (Ls pairs_)),(5,.own 0 0 0),(6,iV 0)],[(0,.mix 1 [])],1⟩) (Qn [(0,0)]) ?_));clear hK K;replace ⟨e1,h,h1⟩:=bind_some h;refine Qd (fun b1:List Int=>⟨(1,.lst true 1 (Ls pairs_))::Y0c b1 [],[(0,rI b1)],1⟩) (fun b1=>b1=e1) ?_ ?_
 ·refine Q5 (Qt h (fun s5:List Int × Int=>⟨(0,iV n_)::Y0i pairs_ s5 [(6,iV s5.2)],[(0,rI s5.1)],1⟩) (Q3m ⟨[(0,iV n_),(1,.lst true 1 (Ls pairs_)),(5,.own 0 0 0),(6,iV 0)],[(0,rI [])],1⟩ (Wk.nils [] (by simp) (by simp) (by simp [nlA]) (by simp [entN,nlL,nlA,UA,U1,IA,I1,LA,L1,BA,B1,EA,E1,E2,eB,eI,eL]) (by simp)) (Qn [(0,0)])) ?_);clear h;intro k5 s5 c5 h hk5;refine Q0 (Q0 (runQ hN fun K hK=>?_));simp;repeat refine sdQ ?_
  refine hK _ ?_;clear hK K;refine tn (Q6 rfl (fun g=>?_) fun g=>?_)
  ·have g6:s5.2<n_:=gQ;clear g;replace h:=if_l g6 h;refine Q7 (tn (Q0 (Q5 (runQ hN fun K hK=>?_))));replace ⟨a7,h⟩:=Q2 h;(try simp only [List.length_append,List.length_cons,List.length_nil] at a7);simp [a7];(repeat refine sdQ ?_);refine hK _ ?_;clear hK K;refine bn (tn (Q3 (st':=⟨[(0,iV n_),(1,.lst true 1 (Ls pairs_)),(5,.own 0 0 ((s5.1++[s5.2]).length)),(6,iV s5.2)],[(0,rI (s5.1++[s5.2]))],1⟩) (Qn [(2,0)]) (runQ hN fun K hK=>?_)));replace ⟨a8,h⟩:=Q2 h;simp [Qp a8];(repeat refine sdQ ?_);refine hK _ ?_;clear hK K;cases h;exact rn (s':=(s5.1++[s5.2],s5.2+1)) hk5 (Qn [(0,0)])
  have g6:¬ (s5.2<n_):=gQ;clear g;replace h:=if_r g6 h;refine Qj (tx (lx (bh ?_)));cases h;exact jn (b:=s5.1) hk5 (Qn [(0,0)])
 intro b1 hb1;have h:=h1;try rw [← hb1] at h
 clear h1;try dsimp only at h
 refine Q0 (Q0 (runQ hN fun K hK=>?_));simp;repeat refine sdQ ?_
 refine hK _ (tn (Q3 (st':=⟨(1,.lst true 1 (Ls pairs_))::Y0c b1 [(7,iV 0)],[(0,rI b1)],1⟩) (Qn [(0,0)]) ?_));clear hK K;replace ⟨e9,h,h9⟩:=bind_some h;refine Qd (fun b9:List Int=>⟨Y0c b9 [],[(0,rI b9)],1⟩) (fun b9=>b9=e9) ?_ ?_
 ·refine Q5 (Qt h (fun s36:List Int × Int=>⟨Y0i pairs_ s36 [(7,iV s36.2)],[(0,rI s36.1)],1⟩) (Qn [(0,0)]) ?_);clear h;intro k36 s36 c36 h hk36;refine Q0 (Q0 (runQ hN fun K hK=>?_));simp;repeat refine sdQ ?_
  refine hK _ ?_;clear hK K;refine tn (Q6 rfl (fun g=>?_) fun g=>?_)
  ·have g37:s36.2<(pairs_.length:Int):=gQ;clear g;replace h:=if_l g37 h;refine Q7 (tn (Q0 ?_));replace ⟨e38,h,h38⟩:=bind_some h;refine Qd (fun b38:List Int=>⟨(1,.lst true 1 (Ls pairs_))::Y0c b38 [(7,iV s36.2)],[(0,rI b38)],1⟩) (fun b38=>b38=e38) ?_ ?_
   ·refine Q5 (Q0 (runQ hN fun K hK=>?_));replace ⟨a39,h⟩:=Q2 h;replace ⟨a40,h⟩:=Q2 h;replace ⟨a41,h⟩:=Q2 h;replace ⟨a42,h⟩:=Q2 h;replace ⟨a43,h⟩:=Q2 h;replace ⟨a44,h⟩:=Q2 h;simp [at_L a39,(show (Is (rx pairs_ s36.2))[0]? = some [iV (ix (rx pairs_ s36.2) 0)] from at_I (j:=0) a40),at_I a41,at_L a42,(show (Is (rx pairs_ s36.2))[1]? = some [iV (ix (rx pairs_ s36.2) 1)] from at_I (j:=1) a43),at_I a44];(repeat refine sdQ ?_);refine hK _ ?_;clear hK K;refine tn (Q3 (st':=⟨Y0i pairs_ s36 (YR s36 pairs_ []),[(0,rI s36.1)],1⟩) (Qn [(0,0)]) (Q0 (runQ hN fun K hK=>?_)));simp;(repeat refine sdQ ?_);refine hK _ (tn (Q3 (st':=⟨Y0i pairs_ s36 (YR s36 pairs_ [(10,iV 0)]),[(0,rI s36.1)],1⟩) (Qn [(0,0)]) (Q5 ?_)));clear hK K;replace ⟨e53,he53,h53⟩:=bind_some h;refine Qt he53 (fun s53:List Int × Int=>⟨Y0i pairs_ s53 (YR s36 pairs_ [(10,iV s53.2)]),[(0,rI s53.1)],1⟩) (Qn [(0,0)]) ?_;intro k53 s53 c53 h hk53;refine Q0 (Q0 ?_);replace ⟨e54,h,h54⟩:=bind_some h;refine Qd (fun b54:Bool=>⟨Y0i pairs_ s53 (YR s36 pairs_ [(10,iV s53.2),(53,.val (.bool b54))]),[(0,rI s53.1)],1⟩) (fun b54=>b54=e54) ?_ ?_
    ·refine runQ hN fun K hK=>?_;simp;(repeat with_reducible refine sdQ ?_);refine Qh (fun g=>?_) (fun g=>?_)
     ·have g55:s53.2<(s53.1.length:Int):=gQ;clear g;replace h:=if_l g55 h;simp;(repeat refine sdQ ?_);refine hK _ ?_;exact jn (b:=(ix s36.1 (ix (rx pairs_ s36.2) 0)) != (ix s36.1 (ix (rx pairs_ s36.2) 1))) (Option.some.inj h) (Qn [(0,0)])
     have g55:¬ (s53.2<(s53.1.length:Int)):=gQ;clear g;replace h:=if_r g55 h;simp;(repeat refine sdQ ?_);refine hK _ ?_;exact jn (b:=false) (Option.some.inj h) (Qn [(0,0)])
    intro b54 hb54;have h:=h54;(try rw [← hb54] at h);clear h54;(try dsimp only at h);refine Q6 rfl (fun g=>?_) fun g=>?_
    ·have g56:b54=true:=gQ;clear g;replace h:=if_l g56 h;refine Q7 (tn (Q0 ?_));replace ⟨e57,h,h57⟩:=bind_some h;refine Qd (fun b57:List Int=>⟨(1,.lst true 1 (Ls pairs_))::Y0c b57 (YR s36 pairs_ [(10,iV s53.2)]),[(0,rI b57)],1⟩) (fun b57=>b57=e57) ?_ ?_
     ·refine Q5 (Q0 (runQ hN fun K hK=>?_));replace ⟨a58,h⟩:=Q2 h;simp [at_I a58];(repeat refine sdQ ?_);refine hK _ ?_;clear hK K;refine tn (Q6 rfl (fun g=>?_) fun g=>?_)
      ·have g59:(ix s53.1 s53.2)=(ix s36.1 (ix (rx pairs_ s36.2) 1)):=gQ;clear g;replace h:=if_l g59 h;refine runQ hN fun K hK=>?_;replace ⟨a60,h⟩:=Q2 h;simp [at_I a60];(repeat refine sdQ ?_);refine hK _ (bn ?_);clear hK K;exact jn (b:=s53.1.set s53.2.toNat (ix s36.1 (ix (rx pairs_ s36.2) 0))) (Option.some.inj h) (Qn [(0,0)])
      have g59:¬ ((ix s53.1 s53.2)=(ix s36.1 (ix (rx pairs_ s36.2) 1))):=gQ;clear g;replace h:=if_r g59 h;refine Q7 (bn ?_);exact jn (b:=s53.1) (Option.some.inj h) (Qn [(0,0)])
     intro b57 hb57;have h:=h57;(try rw [← hb57] at h);clear h57;(try dsimp only at h);refine runQ hN fun K hK=>?_;replace ⟨a61,h⟩:=Q2 h;simp [Qp a61];(repeat refine sdQ ?_);refine hK _ ?_;clear hK K;cases h;exact rn (s':=(b57,s53.2+1)) hk53 (Qn [(0,0)])
    have g56:¬ (b54=true):=gQ;clear g;replace h:=if_r g56 h;refine Qj (tx (lx (bh (bn ?_))));cases h;have q:_=e53:=hk53;have h:=h53;rw [← q] at h;clear q;(try dsimp only at h);exact jn (b:=s53.1) (Option.some.inj h) (Qn [(0,0)])
   intro b38 hb38;have h:=h38;(try rw [← hb38] at h);clear h38;(try dsimp only at h);refine runQ hN fun K hK=>?_;replace ⟨a62,h⟩:=Q2 h;simp [Qp a62];(repeat refine sdQ ?_);refine hK _ ?_;clear hK K;cases h;exact rn (s':=(b38,s36.2+1)) hk36 (Qn [(0,0)])
  have g37:¬ (s36.2<(pairs_.length:Int)):=gQ;clear g;replace h:=if_r g37 h;refine Qj (tx (lx (bh ?_)));cases h;exact jn (b:=s36.1) hk36 (Qn [(0,0)])
 intro b9 hb9;have h:=h9;try rw [← hb9] at h
 clear h9;try dsimp only at h
 refine Q0 (runQ hN fun K hK=>?_);simp;repeat with_reducible refine sdQ ?_
 replace ⟨v63,hv63,h⟩:=bind_some h;refine Q1 (Q5A _ v63 hv63) (.cons .w .nil) ?_;simp;repeat refine sdQ ?_
 refine hK _ (tn (Q3 (st':=⟨[(4,.own 0 0 v63.length)],[(0,rI v63)],1⟩) (Qn [(1,0)]) (Qe ?_)));clear hK K;have hr:=Option.some.inj h;rw [← hr];refine ⟨_,(.tmp .nil),?_⟩;refine ⟨(.one rfl rfl .nil),[lI v63],[0],by simp [UA,U1,IA,I1,LA,L1,BA,B1,EA,E1,E2,eB,eI,eL],by simp,(UpL.refl _)⟩
attribute [local simp] unk unA unE unT unC flat eL eI Qo QR Q1l Cat.cells Fn.cells
noncomputable def Q2D (f_:Fn) (g_:Fn) (iso_:Bool) (most_:Int):Option (List (List Int)) :=
 (Qw (σ:=List (List Int) × Int) (ε:=List (List Int)) (fun s7 =>
  if s7.2<(f_.s.fr.length:Int) then
   ass (0≤s7.2∧s7.2<(f_.s.fr.length:Int)) <|
   ass (0≤s7.2∧s7.2<(f_.s.to.length:Int)) <|
   ass ((s7.1++[[ix f_.s.fr s7.2,ix f_.s.to s7.2]]).length≤1073741824) <|
   ass (B64 (s7.2+1)) <|
   some (Ctl.next (s7.1++[[ix f_.s.fr s7.2,ix f_.s.to s7.2]],s7.2+1))
  else
   some (Ctl.ret s7.1)) fuel ([],0)).bind fun b1 =>
 (Q2A f_.s.n b1).bind fun v13 =>
 (Qw (σ:=List Int × Int) (ε:=(List Int) ⊕ (List (List Int))) (fun s36 =>
  if s36.2<(v13.length:Int) then
   ass ((s36.1++[(-1)]).length≤1073741824) <|
   (Qw (σ:=List Int × Int) (ε:=List Int) (fun s47 =>
    if s47.2<(v13.length:Int) then
     (
      ass (0≤s47.2∧s47.2<(v13.length:Int)) <|
      if (ix v13 s47.2)=s36.2 then
       ass ((s47.1++[(-1)]).length≤1073741824) <|
       some (s47.1++[(-1)])
      else
       ass ((s47.1++[(-2)]).length≤1073741824) <|
       some (s47.1++[(-2)]):Option (List Int)).bind fun b49 =>
     ass (B64 (s47.2+1)) <|
     some (Ctl.next (b49,s47.2+1))
    else
     some (Ctl.ret s47.1)) fuel ([],0)).bind fun b39 =>
   (QO 100 f_ g_ iso_ 1 [] b39).bind fun v55 =>
   if (v55.length:Int)=0 then
    some (Ctl.ret (Sum.inr []))
   else
    ass (B64 (s36.2+1)) <|
    some (Ctl.next (s36.1++[(-1)],s36.2+1))
  else
   some (Ctl.ret (Sum.inl s36.1))) fuel ([],0)).bind fun e14 =>
 match e14 with
 | .inl b14 =>
  (QO 100 f_ g_ iso_ most_ [] b14).bind fun v58 =>
  some v58
 | .inr p14 =>
  some p14
@[simp] abbrev Yj (a:Bool) (b:Int) (c:List (Nat × AV)):List (Nat × AV):=(2,.val (.bool a))::(3,iV b)::(4,.adr 0 0 0)::(5,.adr 1 0 0)::c
@[simp] abbrev Yu (a:List Int) (b:List Int × Int) (c:List (Nat × AV)):List (Nat × AV):=(12,.own 2 0 a.length)::(13,.own 3 0 ((b.1++[(-1)]).length))::(14,iV b.2)::c
@[simp] abbrev YG (a b:Fn) (c:Bool) (d:List (Nat × Ent)):List (Nat × Ent):=(5,.mix 27 [(Y0o a (Y0o b [.val (.bool c),iV 1,.own 6 0 0]))])::(6,.row 1 (Ls []))::d
@[simp] abbrev Y0k (a:List Int) (b:List Int × Int) (c:List (Nat × Ent)):List (Nat × Ent):=(2,rI a)::(3,rI (b.1++[(-1)]))::c
theorem Q82 (f_:Fn) (g_:Fn) (iso_:Bool) (most_:Int) (r:List (List Int)) (h:Q2D f_ g_ iso_ most_=some r):Contract Try.prog 70 (Y0u f_ g_ (Y0y iso_ most_ [])) (.lst true 1 (Ls r)):=by
 refine Q8 (rvs:=[.tmp 8]) (rs:=[.lst true 1 (Ls r)]) Try.func70 rfl rfl rfl rfl (by simp [Try.f70]) fun F hN hP=>?_;unfold Q2D at h;refine Q0 (runQ hN fun K hK=>?_);simp;repeat refine sdQ ?_
 refine hK _ ?_;clear hK K;refine tn (Q3 (st':=⟨Yj iso_ most_ [],Y4 f_ g_ [],2⟩) (Qn [(0,0),(1,1)]) (Q0 (runQ hN fun K hK=>?_)));simp;repeat refine sdQ ?_
 refine hK _ ?_;clear hK K;refine tn (Q3 (st':=⟨Yj iso_ most_ [(9,.adr 2 0 0)],Y4 f_ g_ (YY f_ []),3⟩) (QJ 3) (Q0 (runQ hN fun K hK=>?_)));simp;repeat refine sdQ ?_
 refine hK _ ?_;clear hK K;refine tn (Q3 (st':=⟨Yj iso_ most_ [(9,.adr 2 0 0),(10,.own 3 0 0)],Y4 f_ g_ (YY f_ [(3,.mix 1 [])]),4⟩) (QJ 4) (Q0 (Q0 (runQ hN fun K hK=>?_))));simp;repeat refine sdQ ?_
 refine hK _ (tn (Q3 (st':=⟨Yj iso_ most_ [(9,.adr 2 0 0),(10,.own 3 0 0),(11,iV 0)],Y4 f_ g_ (YY f_ [(3,.mix 1 [])]),4⟩) (QJ 4) ?_));clear hK K;replace ⟨e1,h,h1⟩:=bind_some h;refine Qd (fun b1:List (List Int)=>⟨Yj iso_ most_ [(9,.adr 2 0 0),(10,.own 3 0 b1.length)],Y4 f_ g_ (YY f_ [(3,.row 1 (Ls b1))]),4⟩) (fun b1=>b1=e1) ?_ ?_
 ·refine Q5 (Qt h (fun s7:List (List Int) × Int=>⟨Yj iso_ most_ [(9,.adr 2 0 0),(10,.own 3 0 s7.1.length),(11,iV s7.2)],Y4 f_ g_ (YY f_ [(3,.row 1 (Ls s7.1))]),4⟩) (Q3m ⟨Yj iso_ most_ [(9,.adr 2 0 0),(10,.own 3 0 0),(11,iV 0)],Y4 f_ g_ (YY f_ [(3,.row 1 (Ls []))]),4⟩ (Wk.nils [] (by simp) (by simp) (by simp [nlA]) (by simp [entN,nlL,nlA,Cat.cells,Fn.cells,UA,U1,IA,I1,LA,L1,BA,B1,EA,E1,E2,eB,eI,eL]) (by simp)) (QJ 4)) ?_);clear h;intro k7 s7 c7 h hk7;refine Q0 (Q0 (runQ hN fun K hK=>?_));simp;repeat refine sdQ ?_
  refine hK _ ?_;clear hK K;refine tn (Q6 rfl (fun g=>?_) fun g=>?_)
  ·have g8:s7.2<(f_.s.fr.length:Int):=gQ;clear g;replace h:=if_l g8 h;refine Q7 (tn (Q0 (Q5 (runQ hN fun K hK=>?_))));replace ⟨a9,h⟩:=Q2 h;replace ⟨a10,h⟩:=Q2 h;replace ⟨a11,h⟩:=Q2 h;(try simp only [List.length_append,List.length_cons,List.length_nil] at a11);simp [at_I a9,at_I a10,a11];(repeat refine sdQ ?_);refine hK _ ?_;clear hK K;refine bn (tn (Q3 (st':=⟨Yj iso_ most_ [(9,.adr 2 0 0),(10,.own 3 0 ((s7.1++[[ix f_.s.fr s7.2,ix f_.s.to s7.2]]).length)),(11,iV s7.2)],Y4 f_ g_ (YY f_ [(3,.row 1 (Ls (s7.1++[[ix f_.s.fr s7.2,ix f_.s.to s7.2]])))]),4⟩) (Qn [(0,0),(1,1),(2,2),(6,3)]) (runQ hN fun K hK=>?_)));replace ⟨a12,h⟩:=Q2 h;simp [Qp a12];(repeat refine sdQ ?_);refine hK _ ?_;clear hK K;cases h;exact rn (s':=(s7.1++[[ix f_.s.fr s7.2,ix f_.s.to s7.2]],s7.2+1)) hk7 (QJ 4)
  have g8:¬ (s7.2<(f_.s.fr.length:Int)):=gQ;clear g;replace h:=if_r g8 h;refine Qj (tx (lx (bh ?_)));cases h;exact jn (b:=s7.1) hk7 (QJ 4)
 intro b1 hb1;have h:=h1;try rw [← hb1] at h
 clear h1;try dsimp only at h
 refine Q0 (runQ hN fun K hK=>?_);simp;repeat with_reducible refine sdQ ?_
 replace ⟨v13,hv13,h⟩:=bind_some h;refine Q1 (Q7X _ _ v13 hv13) (.cons .val (.cons .w .nil)) ?_;simp;repeat refine sdQ ?_
 refine hK _ ?_;clear hK K;refine tn (Q3 (st':=⟨Yj iso_ most_ [(12,.own 2 0 v13.length)],Y4 f_ g_ [(2,rI v13)],3⟩) (Qn [(0,0),(1,1),(4,2)]) (Q0 (runQ hN fun K hK=>?_)));simp;repeat refine sdQ ?_
 refine hK _ ?_;clear hK K;refine tn (Q3 (st':=⟨Yj iso_ most_ [(12,.own 2 0 v13.length),(13,.own 3 0 0)],Y4 f_ g_ [(2,rI v13),(3,.mix 1 [])],4⟩) (QJ 4) (Q0 (Q0 (runQ hN fun K hK=>?_))));simp;repeat refine sdQ ?_
 refine hK _ (tn (Q3 (st':=⟨Yj iso_ most_ [(12,.own 2 0 v13.length),(13,.own 3 0 0),(14,iV 0)],Y4 f_ g_ [(2,rI v13),(3,.mix 1 [])],4⟩) (QJ 4) ?_));clear hK K;replace ⟨e14,h,h14⟩:=bind_some h;refine Qd (fun b14:List Int=>⟨Yj iso_ most_ [(13,.own 2 0 b14.length)],Y4 f_ g_ [(2,rI b14)],3⟩) (fun b14=>Sum.inl b14=e14) ?_ ?_
 ·refine Q5 (Qt h (fun s36:List Int × Int=>⟨Yj iso_ most_ [(12,.own 2 0 v13.length),(13,.own 3 0 s36.1.length),(14,iV s36.2)],Y4 f_ g_ [(2,rI v13),(3,rI s36.1)],4⟩) (Q3m ⟨Yj iso_ most_ [(12,.own 2 0 v13.length),(13,.own 3 0 0),(14,iV 0)],Y4 f_ g_ [(2,rI v13),(3,rI [])],4⟩ (Wk.nils [] (by simp) (by simp) (by simp [nlA]) (by simp [entN,nlL,nlA,Cat.cells,Fn.cells,UA,U1,IA,I1,LA,L1,BA,B1,EA,E1,E2,eB,eI,eL]) (by simp)) (QJ 4)) ?_);clear h;intro k36 s36 c36 h hk36;refine Q0 (Q0 (runQ hN fun K hK=>?_));simp;repeat refine sdQ ?_
  refine hK _ ?_;clear hK K;refine tn (Q6 rfl (fun g=>?_) fun g=>?_)
  ·have g37:s36.2<(v13.length:Int):=gQ;clear g;replace h:=if_l g37 h;refine Q7 (tn (Q0 (Q5 (Q0 (runQ hN fun K hK=>?_)))));replace ⟨a38,h⟩:=Q2 h;(try simp only [List.length_append,List.length_cons,List.length_nil] at a38);simp [a38];(repeat refine sdQ ?_);refine hK _ ?_;clear hK K;refine tn (Q3 (st':=⟨Yj iso_ most_ (Yu v13 s36 []),Y4 f_ g_ (Y0k v13 s36 []),4⟩) (Qn [(0,0),(1,1),(2,2),(5,3)]) (Q0 (runQ hN fun K hK=>?_)));simp;(repeat refine sdQ ?_);refine hK _ ?_;clear hK K;refine tn (Q3 (st':=⟨Yj iso_ most_ (Yu v13 s36 [(15,.own 4 0 0)]),Y4 f_ g_ (Y0k v13 s36 [(4,.mix 1 [])]),5⟩) (QJ 5) (Q0 (Q0 (runQ hN fun K hK=>?_))));simp;(repeat refine sdQ ?_);refine hK _ (tn (Q3 (st':=⟨Yj iso_ most_ (Yu v13 s36 [(15,.own 4 0 0),(16,iV 0)]),Y4 f_ g_ (Y0k v13 s36 [(4,.mix 1 [])]),5⟩) (QJ 5) ?_));clear hK K;replace ⟨e39,h,h39⟩:=bind_some h;refine Qd (fun b39:List Int=>⟨Yj iso_ most_ (Yu v13 s36 [(15,.own 4 0 b39.length)]),Y4 f_ g_ (Y0k v13 s36 [(4,rI b39)]),5⟩) (fun b39=>b39=e39) ?_ ?_
   ·refine Q5 (Qt h (fun s47:List Int × Int=>⟨Yj iso_ most_ (Yu v13 s36 [(15,.own 4 0 s47.1.length),(16,iV s47.2)]),Y4 f_ g_ (Y0k v13 s36 [(4,rI s47.1)]),5⟩) (Q3m ⟨Yj iso_ most_ (Yu v13 s36 [(15,.own 4 0 0),(16,iV 0)]),Y4 f_ g_ (Y0k v13 s36 [(4,rI [])]),5⟩ (Wk.nils [] (by simp) (by simp) (by simp [nlA]) (by simp [entN,nlL,nlA,Cat.cells,Fn.cells,UA,U1,IA,I1,LA,L1,BA,B1,EA,E1,E2,eB,eI,eL]) (by simp)) (QJ 5)) ?_);clear h;intro k47 s47 c47 h hk47;refine Q0 (Q0 (runQ hN fun K hK=>?_));simp;(repeat refine sdQ ?_);refine hK _ ?_;clear hK K;refine tn (Q6 rfl (fun g=>?_) fun g=>?_)
    ·have g48:s47.2<(v13.length:Int):=gQ;clear g;replace h:=if_l g48 h;refine Q7 (tn (Q0 ?_));replace ⟨e49,h,h49⟩:=bind_some h;refine Qd (fun b49:List Int=>⟨Yj iso_ most_ (Yu v13 s36 [(15,.own 4 0 b49.length),(16,iV s47.2)]),Y4 f_ g_ (Y0k v13 s36 [(4,rI b49)]),5⟩) (fun b49=>b49=e49) ?_ ?_
     ·refine Q5 (Q0 (runQ hN fun K hK=>?_));replace ⟨a50,h⟩:=Q2 h;simp [at_I a50];(repeat refine sdQ ?_);refine hK _ ?_;clear hK K;refine tn (Q6 rfl (fun g=>?_) fun g=>?_)
      ·have g51:(ix v13 s47.2)=s36.2:=gQ;clear g;replace h:=if_l g51 h;refine runQ hN fun K hK=>?_;replace ⟨a52,h⟩:=Q2 h;(try simp only [List.length_append,List.length_cons,List.length_nil] at a52);simp [a52];(repeat refine sdQ ?_);refine hK _ (bn ?_);clear hK K;exact jn (b:=s47.1++[(-1)]) (Option.some.inj h) (Qn [(0,0),(1,1),(2,2),(3,3),(7,4)])
      have g51:¬ ((ix v13 s47.2)=s36.2):=gQ;clear g;replace h:=if_r g51 h;refine runQ hN fun K hK=>?_;replace ⟨a53,h⟩:=Q2 h;(try simp only [List.length_append,List.length_cons,List.length_nil] at a53);simp [a53];(repeat refine sdQ ?_);refine hK _ (bn ?_);clear hK K;exact jn (b:=s47.1++[(-2)]) (Option.some.inj h) (Qn [(0,0),(1,1),(2,2),(3,3),(7,4)])
     intro b49 hb49;have h:=h49;(try rw [← hb49] at h);clear h49;(try dsimp only at h);refine runQ hN fun K hK=>?_;replace ⟨a54,h⟩:=Q2 h;simp [Qp a54];(repeat refine sdQ ?_);refine hK _ ?_;clear hK K;cases h;exact rn (s':=(b49,s47.2+1)) hk47 (QJ 5)
    have g48:¬ (s47.2<(v13.length:Int)):=gQ;clear g;replace h:=if_r g48 h;refine Qj (tx (lx (bh ?_)));cases h;exact jn (b:=s47.1) hk47 (QJ 5)
   intro b39 hb39;have h:=h39;(try rw [← hb39] at h);clear h39;(try dsimp only at h);refine Q0 (runQ hN fun K hK=>?_);simp;(repeat refine sdQ ?_);refine hK _ ?_;clear hK K;refine tn (Q3 (st':=⟨Yj iso_ most_ (Yu v13 s36 [(15,.own 4 0 b39.length),(17,.adr 5 0 0)]),Y4 f_ g_ (Y0k v13 s36 ((4,rI b39)::YG f_ g_ iso_ [])),7⟩) (Q3m ⟨Yj iso_ most_ (Yu v13 s36 [(15,.own 4 0 b39.length),(17,.adr 5 0 0)]),Y4 f_ g_ (Y0k v13 s36 ((4,rI b39)::YG f_ g_ iso_ [])),7⟩ (Wk.nils [(6,1)] (by simp) (by simp) (by simp [nlA]) (by simp [entN,nlL,nlA,Cat.cells,Fn.cells,UA,U1,IA,I1,LA,L1,BA,B1,EA,E1,E2,eB,eI,eL]) (by simp)) (QJ 7)) (Q0 (Q2h [] mo (by rw [hN];decide) fun K hK=>?_)));simp;(repeat with_reducible refine sdQ ?_);replace ⟨v55,hv55,h⟩:=bind_some h
   refine Q2j (fz:=[]) (ICon.frameL (e:={ v:=.tup [],set:=[(5,.mix 27 [(Y0o f_ (Y0o g_ [.val (.bool iso_),iV 1,.own 7 0 v55.length]))])],del:=[6],new:=[(7,.row 1 (Ls v55))],cnt:=1 }) (Q3R 100 _ _ _ _ _ _ v55 hv55) [(0,5),(1,6),(2,4)] (by rfl) (by simp) (by simp [rl,rlL,rlLL,rlE,rlE',back,mxt,look,trm,List.range,List.range.loop,Qs,Cat.cells,Fn.cells]) (by simp [rl,rlL,rlLL,rlE,rlE',back,mxt,look,trm,List.range,List.range.loop,Qs,Cat.cells,Fn.cells]) (by simp [Q3u]) (by rfl) (by simp [rl,rlL,rlLL,rlE,rlE',back,mxt,look,trm,List.range,List.range.loop,Qs,Cat.cells,Fn.cells]) (by simp [rl,rlL,rlLL,rlE,rlE',back,mxt,look,trm,List.range,List.range.loop,Qs,Cat.cells,Fn.cells]) (by simp [rl,rlL,rlLL,rlE,rlE',back,mxt,look,trm,List.range,List.range.loop,Qs,Cat.cells,Fn.cells]) (by simp [rl,rlL,rlLL,rlE,rlE',back,mxt,look,trm,List.range,List.range.loop,Qs,Cat.cells,Fn.cells]) (by simp [Q3u]) (by rfl) (Q50 (by simp))) ?_;simp;(repeat refine sdQ ?_);refine hK _ ?_;clear hK K;refine tn (Q3 (st':=⟨Yj iso_ most_ (Yu v13 s36 [(17,.adr 4 0 0)]),Y4 f_ g_ (Y0k v13 s36 [(4,.mix 27 [(Y0o f_ (Y0o g_ [.val (.bool iso_),iV 1,.own 5 0 v55.length]))]),(5,.row 1 (Ls v55))]),6⟩) (Qn [(0,0),(1,1),(2,2),(3,3),(5,4),(7,5)]) (Q0 (runQ hN fun K hK=>?_)));simp;(repeat refine sdQ ?_);refine hK _ ?_;clear hK K;refine tn (Q6 rfl (fun g=>?_) fun g=>?_)
   ·have g56:(v55.length:Int)=0:=gQ;clear g;replace h:=if_l g56 h;refine Q0 (runQ hN fun K hK=>?_);simp;(repeat refine sdQ ?_);refine hK _ (tn (Q3 (st':=⟨[(8,.own 0 0 0)],[(0,.mix 1 [])],1⟩) (Qn [(6,0)]) (Qe (br (tr (lr (br (tr ?_))))))));clear hK K;cases h;have q:_=e14:=hk36;have h:=h14;rw [← q] at h;clear q;(try dsimp only at h);have hr:=Option.some.inj h;rw [← hr];refine ⟨_,(.tmp .nil),?_⟩;refine ⟨(.one rfl rfl .nil),[.lst true 1 (Ls [])],[0],by simp [Cat.cells,Fn.cells,UA,U1,IA,I1,LA,L1,BA,B1,EA,E1,E2,eB,eI,eL],by simp,(UpL.refl _)⟩
   have g56:¬ ((v55.length:Int)=0):=gQ;clear g;replace h:=if_r g56 h;refine Q7 (bn (tn (runQ hN fun K hK=>?_)));replace ⟨a57,h⟩:=Q2 h;simp [Qp a57];(repeat refine sdQ ?_);refine hK _ ?_;clear hK K;cases h;exact rn (s':=(s36.1++[(-1)],s36.2+1)) hk36 (QJ 4)
  have g37:¬ (s36.2<(v13.length:Int)):=gQ;clear g;replace h:=if_r g37 h;refine Qj (tx (lx (bh ?_)));cases h;exact jn (b:=s36.1) hk36 (Qn [(0,0),(1,1),(3,2)])
 intro b14 hb14;have h:=h14;try rw [← hb14] at h
 clear h14;try dsimp only at h
 refine Q0 (runQ hN fun K hK=>?_);simp;repeat refine sdQ ?_
 refine hK _ ?_;clear hK K;refine tn (Q3 (st':=⟨[(13,.own 0 0 b14.length),(18,.adr 1 0 0)],[(0,rI b14),(1,.mix 27 [(Y0o f_ (Y0o g_ (Y0y iso_ most_ [.own 2 0 0])))]),(2,.row 1 (Ls []))],3⟩) (Q3m ⟨[(13,.own 2 0 b14.length),(18,.adr 4 0 0)],[(2,rI b14),(3,.row 1 (Ls [])),(4,.mix 27 [(Y0o f_ (Y0o g_ (Y0y iso_ most_ [.own 3 0 0])))])],5⟩ (Wk.nils [] (by simp) (by simp) (by simp [nlA]) (by simp [entN,nlL,nlA,Cat.cells,Fn.cells,UA,U1,IA,I1,LA,L1,BA,B1,EA,E1,E2,eB,eI,eL]) (by simp)) (Qn [(2,0),(4,1),(3,2)])) (Q0 (Q2h [] mo (by rw [hN];decide) fun K hK=>?_)));simp;repeat with_reducible refine sdQ ?_
 replace ⟨v58,hv58,h⟩:=bind_some h;refine Q2j (fz:=[]) (ICon.frameL (e:={ v:=.tup [],set:=[(1,.mix 27 [(Y0o f_ (Y0o g_ (Y0y iso_ most_ [.own 3 0 v58.length])))])],del:=[2],new:=[(3,.row 1 (Ls v58))],cnt:=1 }) (Q3R 100 _ _ _ _ _ _ v58 hv58) [(0,1),(1,2),(2,0)] (by rfl) (by simp) (by simp [rl,rlL,rlLL,rlE,rlE',back,mxt,look,trm,List.range,List.range.loop,Qs,Cat.cells,Fn.cells]) (by simp [rl,rlL,rlLL,rlE,rlE',back,mxt,look,trm,List.range,List.range.loop,Qs,Cat.cells,Fn.cells]) (by simp [Q3u]) (by rfl) (by simp [rl,rlL,rlLL,rlE,rlE',back,mxt,look,trm,List.range,List.range.loop,Qs,Cat.cells,Fn.cells]) (by simp [rl,rlL,rlLL,rlE,rlE',back,mxt,look,trm,List.range,List.range.loop,Qs,Cat.cells,Fn.cells]) (by simp [rl,rlL,rlLL,rlE,rlE',back,mxt,look,trm,List.range,List.range.loop,Qs,Cat.cells,Fn.cells]) (by simp [rl,rlL,rlLL,rlE,rlE',back,mxt,look,trm,List.range,List.range.loop,Qs,Cat.cells,Fn.cells]) (by simp [Q3u]) (by rfl) (Q50 (by simp))) ?_;simp;repeat refine sdQ ?_
 refine hK _ ?_;clear hK K;refine tn (Q3 (st':=⟨[(18,.adr 0 0 0)],[(0,.mix 27 [(Y0o f_ (Y0o g_ (Y0y iso_ most_ [.own 1 0 v58.length])))]),(1,.row 1 (Ls v58))],2⟩) (Qn [(1,0),(3,1)]) (Q0 (runQ hN fun K hK=>?_)));simp;repeat refine sdQ ?_
 refine hK _ (tn (Q3 (st':=⟨[(8,.own 0 0 v58.length)],[(0,.row 1 (Ls v58))],1⟩) (Qn [(1,0)]) (Qe ?_)));clear hK K;have hr:=Option.some.inj h;rw [← hr];refine ⟨_,(.tmp .nil),?_⟩;refine ⟨(.one rfl rfl .nil),[.lst true 1 (Ls v58)],[0],by simp [Cat.cells,Fn.cells,UA,U1,IA,I1,LA,L1,BA,B1,EA,E1,E2,eB,eI,eL],by simp,(UpL.refl _)⟩
attribute [local simp] unk unA unE unT unC flat eL eI Qo QR Q2f Q1l Cat.cells Cone.cells Fn.cells
noncomputable def Q2c (d_:Fn):Option (List Cone) :=
 (Qw (σ:=List Cone × Int) (ε:=List Cone) (fun s18 =>
  (
   if s18.2<d_.t.n then
    some (decide ((s18.1.length:Int)≤400))
   else
    some false:Option (Bool)).bind fun b19 =>
  if b19=true then
   (
    (Q1o d_.s d_.t s18.2).bind fun v23 =>
    ass (B64 (401 - (s18.1.length:Int))) <|
    (Q2D v23 d_ false (401 - (s18.1.length:Int))).bind fun v25 =>
    (Qw (σ:=List Cone × Int) (ε:=List Cone) (fun s30 =>
     if s30.2<(v25.length:Int) then
      ass (0≤s30.2∧s30.2<(v25.length:Int)) <|
      ass ((s30.1++[(⟨s18.2,rx v25 s30.2⟩:Cone)]).length≤1073741824) <|
      ass (B64 (s30.2+1)) <|
      some (Ctl.next (s30.1++[(⟨s18.2,rx v25 s30.2⟩:Cone)],s30.2+1))
     else
      some (Ctl.ret s30.1)) fuel (s18.1,0)).bind fun p30 =>
    some p30:Option (List Cone)).bind fun b22 =>
   ass (B64 (s18.2+1)) <|
   some (Ctl.next (b22,s18.2+1))
  else
   some (Ctl.ret s18.1)) fuel ([],0)).bind fun b1 =>
 some b1
@[simp] abbrev Y0g (a:List Cone × Int) (b:List (Nat × Ent)):List (Nat × Ent):=(0,.mix 2 (Es (Cone.cells true) a.1))::b
theorem Q7l (d_:Fn) (r:List Cone) (h:Q2c d_=some r):FContract Try.prog true 56 [.agg (d_.cells true)] (.lst true 2 (Es (Cone.cells true) r)):=by
 refine Q1M true (ts:=[2]) (rs:=[.lst true 2 (Es (Cone.cells true) r)]) Try.func56 rfl rfl rfl rfl (by simp [Try.f56]) fun F hN hP=>?_;unfold Q2c at h;refine Q0 (Qk [1] mo (by rw [hN];decide) fun K hK=>?_);simp;repeat refine sdQ ?_
 refine hK _ ?_;clear hK K;refine tn (Q3 (st':=⟨YJ d_ [],[],0⟩) (Qn []) (Q0 (Qk [] mo (by rw [hN];decide) fun K hK=>?_)));simp;repeat refine sdQ ?_
 refine hK _ ?_;clear hK K;refine tn (Q3 (st':=⟨YJ d_ [(3,.own 0 0 0)],[(0,.mix 2 [])],1⟩) (Qn [(0,0)]) (Q0 (Q0 (Qk [] mo (by rw [hN];decide) fun K hK=>?_))));simp;repeat refine sdQ ?_
 refine hK _ (tn (Q3 (st':=⟨YJ d_ [(3,.own 0 0 0),(4,iV 0)],[(0,.mix 2 [])],1⟩) (Qn [(0,0)]) ?_));clear hK K;replace ⟨e1,h,h1⟩:=bind_some h;refine Qd (fun b1:List Cone=>⟨[(3,.own 0 0 b1.length)],[(0,.mix 2 (Es (Cone.cells true) b1))],1⟩) (fun b1=>b1=e1) ?_ ?_
 ·refine Q5 (Qt h (fun s18:List Cone × Int=>⟨YJ d_ [(3,.own 0 0 s18.1.length),(4,iV s18.2)],Y0g s18 [],1⟩) (Qn [(0,0)]) ?_);clear h;intro k18 s18 c18 h hk18;refine Q0 (Q0 ?_);replace ⟨e19,h,h19⟩:=bind_some h;refine Qd (fun b19:Bool=>⟨YJ d_ [(3,.own 0 0 s18.1.length),(4,iV s18.2),(17,.val (.bool b19))],Y0g s18 [],1⟩) (fun b19=>b19=e19) ?_ ?_
  ·refine Qk [] mo (by rw [hN];decide) fun K hK=>?_;simp;(repeat with_reducible refine sdQ ?_);refine Q26 (fun g=>?_) (fun g=>?_)
   ·have g20:s18.2<d_.t.n:=gQ;clear g;replace h:=if_l g20 h;simp;(repeat refine sdQ ?_);refine hK _ ?_;exact jn (b:=decide ((s18.1.length:Int)≤400)) (Option.some.inj h) (Qn [(0,0)])
   have g20:¬ (s18.2<d_.t.n):=gQ;clear g;replace h:=if_r g20 h;simp;(repeat refine sdQ ?_);refine hK _ ?_;exact jn (b:=false) (Option.some.inj h) (Qn [(0,0)])
  intro b19 hb19;have h:=h19;try rw [← hb19] at h
  clear h19;try dsimp only at h
  refine Q6 rfl (fun g=>?_) fun g=>?_
  ·have g21:b19=true:=gQ;clear g;replace h:=if_l g21 h;refine Q7 (tn (Q0 ?_));replace ⟨e22,h,h22⟩:=bind_some h;refine Qd (fun b22:List Cone=>⟨YJ d_ [(3,.own 0 0 b22.length),(4,iV s18.2)],[(0,.mix 2 (Es (Cone.cells true) b22))],1⟩) (fun b22=>b22=e22) ?_ ?_
   ·refine Q5 (Q0 (Qk [] mo (by rw [hN];decide) fun K hK=>?_));simp;(repeat with_reducible refine sdQ ?_);replace ⟨v23,hv23,h⟩:=bind_some h;refine QD (fz:=[]) (Q5r _ _ _ v23 hv23) (.cons (.aggL (.cons .val (.cons .lst (.cons .lst (.cons .lst (.cons .lst .nil)))))) (.cons (.aggL (.cons .val (.cons .lst (.cons .lst (.cons .lst (.cons .lst .nil)))))) (.cons .val .nil))) ?_;replace ⟨a24,h⟩:=Q2 h;simp [Qp a24];(repeat with_reducible refine sdQ ?_);replace ⟨v25,hv25,h⟩:=bind_some h;refine Q2O (fz:=[]) false (Contract.toF1 (Q82 _ _ _ _ v25 hv25)) (PurK.ofL (.cons (.aggL (.cons .val (.cons .w (.cons .w (.cons .w (.cons .w (.cons .val (.cons .w (.cons .w (.cons .w (.cons .w (.cons .w (.cons .w .nil))))))))))))) (.cons (.aggL (.cons .val (.cons .lst (.cons .lst (.cons .lst (.cons .lst (.cons .val (.cons .lst (.cons .lst (.cons .lst (.cons .lst (.cons .lst (.cons .lst .nil))))))))))))) (.cons .val (.cons .val .nil))))) ?_;simp;(repeat refine sdQ ?_);refine hK _ ?_;clear hK K;refine tn (Q3 (st':=⟨YJ d_ [(3,.own 0 0 s18.1.length),(4,iV s18.2),(5,.lst true 1 (Ls v25))],Y0g s18 [],1⟩) (Qn [(0,0)]) (Q0 (Qk [] mo (by rw [hN];decide) fun K hK=>?_)));simp;(repeat refine sdQ ?_);refine hK _ (tn (Q3 (st':=⟨YJ d_ [(3,.own 0 0 s18.1.length),(4,iV s18.2),(5,.lst true 1 (Ls v25)),(6,iV 0)],Y0g s18 [],1⟩) (Qn [(0,0)]) (Q5 ?_)));clear hK K;replace ⟨e30,he30,h30⟩:=bind_some h;refine Qt he30 (fun s30:List Cone × Int=>⟨YJ d_ [(3,.own 0 0 s30.1.length),(4,iV s18.2),(5,.lst true 1 (Ls v25)),(6,iV s30.2)],Y0g s30 [],1⟩) (Qn [(0,0)]) ?_;intro k30 s30 c30 h hk30;refine Q0 (Q0 (Qk [] mo (by rw [hN];decide) fun K hK=>?_));simp;(repeat refine sdQ ?_);refine hK _ ?_;clear hK K;refine tn (Q3 (st':=⟨YJ d_ [(3,.own 0 0 s30.1.length),(4,iV s18.2),(5,.lst true 1 (Ls v25)),(6,iV s30.2),(34,.val (.bool (decide (s30.2<(v25.length:Int)))))],Y0g s30 [],1⟩) (Qn [(0,0)]) (Q6 rfl (fun g=>?_) fun g=>?_))
    ·have g31:s30.2<(v25.length:Int):=gQ;clear g;replace h:=if_l g31 h;refine Q7 (tn (Q0 (Q5 (Qk [45] mo (by rw [hN];decide) fun K hK=>?_))));replace ⟨a32,h⟩:=Q2 h;replace ⟨a33,h⟩:=Q2 h;(try simp only [List.length_append,List.length_cons,List.length_nil] at a33);simp [at_L a32,a33];(repeat refine sdQ ?_);refine hK _ ?_;clear hK K;refine bn (tn (Q3 (st':=⟨YJ d_ [(3,.own 0 0 ((s30.1++[(⟨s18.2,rx v25 s30.2⟩:Cone)]).length)),(4,iV s18.2),(5,.lst true 1 (Ls v25)),(6,iV s30.2)],[(0,.mix 2 (Es (Cone.cells true) (s30.1++[(⟨s18.2,rx v25 s30.2⟩:Cone)])))],1⟩) (Qn [(2,0)]) (Qk [] mo (by rw [hN];decide) fun K hK=>?_)));replace ⟨a34,h⟩:=Q2 h;simp [Qp a34];(repeat refine sdQ ?_);refine hK _ ?_;clear hK K;cases h;exact rn (s':=(s30.1++[(⟨s18.2,rx v25 s30.2⟩:Cone)],s30.2+1)) hk30 (Qn [(0,0)])
    have g31:¬ (s30.2<(v25.length:Int)):=gQ;clear g;replace h:=if_r g31 h;refine Qj (tx (lx (bh (bn ?_))));cases h;have q:_=e30:=hk30;have h:=h30;rw [← q] at h;clear q;(try dsimp only at h);exact jn (b:=s30.1) (Option.some.inj h) (Qn [(0,0)])
   intro b22 hb22;have h:=h22;(try rw [← hb22] at h);clear h22;(try dsimp only at h);refine Qk [] mo (by rw [hN];decide) fun K hK=>?_;replace ⟨a35,h⟩:=Q2 h;simp [Qp a35];(repeat refine sdQ ?_);refine hK _ ?_;clear hK K;cases h;exact rn (s':=(b22,s18.2+1)) hk18 (Qn [(0,0)])
  have g21:¬ (b19=true):=gQ;clear g;replace h:=if_r g21 h;refine Qj (tx (lx (bh ?_)));cases h;exact jn (b:=s18.1) hk18 (Qn [(0,0)])
 intro b1 hb1;have h:=h1;try rw [← hb1] at h
 clear h1;try dsimp only at h
 refine Q0 (Qk [] mo (by rw [hN];decide) fun K hK=>?_);simp;repeat refine sdQ ?_
 refine hK _ (tn (Q3 (st':=⟨[(2,.own 0 0 b1.length)],[(0,.mix 2 (Es (Cone.cells true) b1))],1⟩) (Qn [(0,0)]) (Qe ?_)));clear hK K;have hr:=Option.some.inj h;rw [← hr];exact (.two (.smix rfl (by simp) (Q8X (by simp [Cat.cells,Cone.cells,Fn.cells,QR,Q2f,Q1l]))) .nil)
attribute [local simp] unk unA unE unT unC flat eL eI Qo Q1l Fn.cells
noncomputable def Q20 (d_:Fn):Option (List Cone × Int) :=
 (Q2c d_).bind fun v1 =>
 if (v1.length:Int) > 400 then
  some ([],3)
 else
  some (v1,0)
theorem Q5t (d_:Fn) (r:List Cone × Int) (h:Q20 d_=some r):FContract Try.prog true 43 [.agg (d_.cells true)] (.tup [.lst true 2 (Es (Cone.cells true) r.1),iV r.2]):=by
 refine Q1M true (ts:=[2,3]) (rs:=[.lst true 2 (Es (Cone.cells true) r.1),iV r.2]) Try.func43 rfl rfl rfl rfl (by simp [Try.f43]) fun F hN hP=>?_;unfold Q20 at h;refine Q0 (Qk [1] mo (by rw [hN];decide) fun K hK=>?_);simp;repeat refine sdQ ?_
 refine hK _ ?_;clear hK K;refine tn (Q3 (st':=⟨YJ d_ [],[],0⟩) (Qn []) (Q0 (Qk [] mo (by rw [hN];decide) fun K hK=>?_)));simp;repeat with_reducible refine sdQ ?_
 replace ⟨v1,hv1,h⟩:=bind_some h;refine Q2O (fz:=[]) true (Q7l _ v1 hv1) (PurK.ofN (.cons (.aggL (.cons .val (.cons .lst (.cons .lst (.cons .lst (.cons .lst (.cons .val (.cons .lst (.cons .lst (.cons .lst (.cons .lst (.cons .lst (.cons .lst .nil))))))))))))) .nil)) ?_;simp;repeat refine sdQ ?_
 refine hK _ ?_;clear hK K;refine tn (Q3 (st':=⟨[(4,.lst true 2 (Es (Cone.cells true) v1))],[],0⟩) (Qn []) (Q0 (Q0 (Qk [] mo (by rw [hN];decide) fun K hK=>?_))));simp;repeat refine sdQ ?_
 refine hK _ ?_;clear hK K;refine tn (Q6 rfl (fun g=>?_) fun g=>?_)
 ·have g2:(v1.length:Int) > 400:=gQ;clear g;replace h:=if_l g2 h;refine Q0 (Qk [] mo (by rw [hN];decide) fun K hK=>?_);simp;repeat refine sdQ ?_
  refine hK _ (tn (Q3 (st':=⟨[(2,nS),(3,iV 3)],[],0⟩) (Qn []) (Qe (tr ?_))));clear hK K;have hr:=Option.some.inj h;rw [← hr];exact (.two .nil (.two .val .nil))
 have g2:¬ ((v1.length:Int) > 400):=gQ;clear g;replace h:=if_r g2 h;refine Q7 (tn (Q0 (Qk [] mo (by rw [hN];decide) fun K hK=>?_)));simp;repeat refine sdQ ?_
 refine hK _ (tn (Q3 (st':=⟨[(2,.lst true 2 (Es (Cone.cells true) v1)),(3,iV 0)],[],0⟩) (Qn []) (Qe ?_)));clear hK K;have hr:=Option.some.inj h;rw [← hr];exact (.two .lst (.two .val .nil))
section
attribute [local simp] Qf QG Qu Q16 QE
theorem e_index {l:List Int} (hl:l.length≤1000) (v:Int):∃ r,Q2b l v=some r:=by
 unfold Q2b;refine QZ (σ:=Int) (Q:=fun z=>∃ r:Int,z=some r) l.length (fun i s=>s=(i:Int)) (fun _=>True) (by omega) rfl ?_ ?_ ?_
 ·intro i s hi hs;subst hs;rw [if_pos (by omega),Q4 (by omega)]
  by_cases h:ix l i=v
  ·rw [if_pos h];exact .inr ⟨_,rfl,trivial⟩
  rw [if_neg h,Q4 (by unfold B64;omega)];exact .inl ⟨_,rfl,rfl⟩
 ·intro s hs;subst hs;rw [if_neg (by omega)];exact ⟨_,rfl,trivial⟩
 intro e _;cases e<;>exact ⟨_,rfl⟩
theorem e_classes {l:List Int} (hl:l.length≤100):∃ r,Q1w l=some r∧r.length=l.length:=by
 unfold Q1w;refine QZ (σ:=List Int × List Int × Int) (Q:=fun z=>∃ r:List Int,z=some r∧r.length=l.length) l.length (fun i (s:List Int × List Int × Int)=>s.1.length=i∧s.2.1.length≤i∧s.2.2=(i:Int)) (fun e:List Int=>e.length=l.length) (by omega) ⟨rfl,Nat.le_refl _,rfl⟩ ?_ ?_ ?_
 ·intro i s hi ⟨h1,h2,h3⟩;obtain ⟨a,b,y⟩:=s;simp only at h1 h2 h3 ⊢;subst h3;left;obtain ⟨v,hv⟩:=e_index (l:=b) (by omega) (ix l i);rw [if_pos (by omega),Q4 (by omega),hv];simp only [Option.bind_some]
  by_cases hn:v<0
  ·rw [if_pos hn,Q4 (by omega),Q4 (by simp;omega)];simp only [Option.bind_some];rw [Q4 (by simp;omega),Q4 (by unfold B64;omega)];exact ⟨_,rfl,by simp;omega,by simp;omega,rfl⟩
  rw [if_neg hn];simp only [Option.bind_some];rw [Q4 (by simp;omega),Q4 (by unfold B64;omega)];exact ⟨_,rfl,by simp;omega,by simp;omega,rfl⟩
 ·intro s ⟨h1,h2,h3⟩;obtain ⟨a,b,y⟩:=s;simp only at h1 h2 h3 ⊢;rw [if_neg (by omega)];exact ⟨_,rfl,h1⟩
 intro e he;exact ⟨e,rfl,he⟩
theorem e_join {n:Nat} (hn:n≤100) {ps:List (List Int)} (hp:ps.length≤1000) (H:∀ i:Nat,i<ps.length→∃ a b:Int,rx ps i=[a,b]∧(0≤a∧a<(n:Int))∧(0≤b∧b<(n:Int))):∃ r,Q2A (n:Int) ps=some r∧r.length=n:=by
 unfold Q2A;refine QZ (σ:=List Int × Int) (Q:=fun z=>∃ r:List Int,z=some r∧r.length=n) n (fun i (s:List Int × Int)=>s.1.length=i∧s.2=(i:Int)) (fun e:List Int=>e.length=n) (by omega) ⟨rfl,rfl⟩ ?_ ?_ ?_
 ·intro i s hi ⟨h1,h2⟩;obtain ⟨a,y⟩:=s;simp only at h1 h2 ⊢;subst h2;rw [if_pos (by omega),Q4 (by simp;omega),Q4 (by unfold B64;omega)];exact .inl ⟨_,rfl,by simp;omega,rfl⟩
 ·intro s ⟨h1,h2⟩;obtain ⟨a,y⟩:=s;simp only at h1 h2 ⊢;rw [if_neg (by omega)];exact ⟨_,rfl,h1⟩
 intro b1 hb1;refine QZ (σ:=List Int × Int) (Q:=fun z=>∃ r:List Int,z=some r∧r.length=n) ps.length (fun i (s:List Int × Int)=>s.1.length=n∧s.2=(i:Int)) (fun e:List Int=>e.length=n) (by omega) ⟨hb1,rfl⟩ ?_ ?_ ?_
 ·intro i s hi ⟨h1,h2⟩;obtain ⟨L,y⟩:=s;simp only at h1 h2 ⊢;subst h2;left;obtain ⟨a,b,e,ha,hb⟩:=H i hi;have ea:ix (rx ps i) 0=a:=by rw [e];rfl
  have eb:ix (rx ps i) 1=b:=by rw [e];rfl
  have el:(rx ps i).length=2:=by rw [e];rfl
  rw [if_pos (by omega)];simp only [ea,eb,el];rw [Q4 (by omega),Q4 (by omega),Q4 (by omega),Q4 (by omega),Q4 (by omega),Q4 (by omega)];simp only [Option.bind_assoc];refine QZ (σ:=List Int × Int) (Q:=fun z=>∃ s':List Int × Int,z=some (Ctl.next s':Ctl (List Int × Int) (List Int))∧s'.1.length=n∧s'.2=((i+1:Nat):Int)) n (fun q (s:List Int × Int)=>s.1.length=n∧s.2=(q:Int)) (fun e:List Int=>e.length=n) (by omega) ⟨h1,rfl⟩ ?_ ?_ ?_
  ·intro q s hq ⟨g1,g2⟩;obtain ⟨M,z⟩:=s;simp only at g1 g2 ⊢;subst g2;rw [if_pos (by omega)];simp only [Option.bind_some]
   by_cases hne:(ix L a != ix L b)=true
   ·rw [if_pos hne,Q4 (by omega)];left
    by_cases hz:ix M q=ix L b
    ·rw [if_pos hz,Q4 (by omega)];simp only [Option.bind_some];rw [Q4 (by unfold B64;omega)];exact ⟨_,rfl,by simp [g1],rfl⟩
    rw [if_neg hz];simp only [Option.bind_some];rw [Q4 (by unfold B64;omega)];exact ⟨_,rfl,g1,rfl⟩
   rw [if_neg hne];exact .inr ⟨_,rfl,g1⟩
  ·intro s ⟨g1,g2⟩;obtain ⟨M,z⟩:=s;simp only at g1 g2 ⊢;rw [if_neg (by omega)];simp only [Option.bind_some,Bool.false_eq_true,if_false];exact ⟨_,rfl,g1⟩
  intro e he;simp only [Option.bind_some];rw [Q4 (by unfold B64;omega)];exact ⟨_,rfl,he,by simp⟩
 ·intro s ⟨h1,h2⟩;obtain ⟨L,y⟩:=s;simp only at h1 h2 ⊢;rw [if_neg (by omega)];exact ⟨_,rfl,h1⟩
 intro e he;obtain ⟨r,hr,hr2⟩:=e_classes (l:=e) (by omega);rw [hr];exact ⟨r,rfl,by omega⟩
theorem start_CV {d:Fn} {x:Int} {P:Nat→Prop} [DecidablePred P]:CV d x (tab d.ob.length fun y=>if P y then -1 else -2):=by
 refine ⟨by simp [tab],fun i hi=>?_⟩;rw [ix_tab _ _ hi]
 by_cases h:P i<;>simp [h]
set_option maxHeartbeats 1000000 in
theorem e_find7 {d:Fn} (hd:d.Is) {x:Int} (hx:0≤x∧x<d.t.n) {most:Nat} (hm:most≤401) (h1:0<most):Q2D (cstF d x) d false most=some ((lext d x d.ob.length []).take most):=by
 obtain ⟨l1,l2,l3,l4,l5,l6,l7,l8⟩:=hd.fact;have e100:∀ c:List Int,CV d x c→c.count (-1)<100:=fun c hc=>by
  have:=List.count_le_length (a:=(-1:Int)) (l:=c);have:=hc.1;omega
 unfold Q2D;refine Q22 d.ar.length (fun i=>(List.range i).map fun a:Nat=>[ix d.s.fr a,ix d.s.to a]) (e:=(List.range d.ar.length).map fun a:Nat=>[ix d.s.fr a,ix d.s.to a]) rfl (by omega) (fun i hi=>?_) ?_ ?_
 ·simp only;rw [if_pos (by show (i:Int)<(d.s.fr.length:Int);omega),Q4 (by show 0≤(i:Int)∧(i:Int)<(d.s.fr.length:Int);omega),Q4 (by show 0≤(i:Int)∧(i:Int)<(d.s.to.length:Int);omega),Q4 (by simp;omega),Q4 (by unfold B64;omega),List.range_succ];simp [cstF]
 ·simp only;rw [if_neg (by show ¬ (d.ar.length:Int)<(d.s.fr.length:Int);omega)]
 obtain ⟨v,hv,hvl⟩:=e_join (n:=d.ob.length) (by omega) (ps:=(List.range d.ar.length).map fun a:Nat=>[ix d.s.fr a,ix d.s.to a]) (by simp;omega) (fun i hi=>by
  simp only [List.length_map,List.length_range] at hi;obtain ⟨f1,f2,f3⟩:=l8 i hi;exact ⟨ix d.s.fr i,ix d.s.to i,by simp [rx,List.getD_eq_getElem?_getD,hi],f1,f2⟩)
 rw [show (cstF d x).s.n=(d.ob.length:Int) from l1.symm,hv];simp only [Option.bind_some];refine QZ (σ:=List Int × Int) (Q:=fun z=>z=some ((lext d x d.ob.length []).take most)) d.ob.length (fun i s=>s=(List.replicate i (-1),(i:Int)))
  (fun e:List Int ⊕ List (List Int)=>match e with
   | .inl e=>e=List.replicate d.ob.length (-1)
   | .inr e=>e=[]∧lext d x d.ob.length []=[]) (by omega) rfl ?_ ?_ ?_
 ·intro i s hi hs;subst hs;simp only;rw [if_pos (by omega),Q4 (by simp;omega)]
  let P:Nat→Prop:=fun y=>ix v (y:Int)=(i:Int)
  have hdec:DecidablePred P:=fun y=>inferInstanceAs (Decidable (ix v (y:Int)=(i:Int)))
  let st:Nat→List Int:=fun j=>tab j fun y=>if P y then -1 else -2
  have hst:CV d x (st d.ob.length):=start_CV;refine QZ (σ:=List Int × Int) (Q:=fun z=>(∃ s':List Int × Int,z=some (Ctl.next s':Ctl (List Int × Int) (List Int ⊕ List (List Int)))∧s'=(List.replicate (i+1) (-1),((i+1:Nat):Int)))∨∃ e:List Int ⊕ List (List Int),z=some (.ret e)∧match e with
   | .inl e=>e=List.replicate d.ob.length (-1)
   | .inr e=>e=[]∧lext d x d.ob.length []=[]) d.ob.length (fun j s=>s=(st j,(j:Int))) (fun e=>e=st d.ob.length) (by omega) rfl ?_ ?_ ?_
  ·intro j s hj hs;subst hs;have hl:(st j).length=j:=(by simp [st,tab]);have hs1:st (j+1)=st j++[if P j then -1 else -2]:=tab_succ _ _;left;simp only;rw [if_pos (by omega),Q4 (by omega)]
   by_cases h:P j
   ·have h':ix v (j:Int)=(i:Int):=h;rw [if_pos h',Q4 (by simp;omega)];simp only [Option.bind_some];rw [Q4 (by unfold B64;omega)];exact ⟨_,rfl,by rw [hs1,if_pos h];rfl⟩
   have h':¬ ix v (j:Int)=(i:Int):=h;rw [if_neg h',Q4 (by simp;omega)];simp only [Option.bind_some];rw [Q4 (by unfold B64;omega)];exact ⟨_,rfl,by rw [hs1,if_neg h];rfl⟩
  ·intro s hs;subst hs;simp only;rw [if_neg (by omega)];exact ⟨_,rfl,rfl⟩
  intro e he;subst he;have hg:=e_go hd hx (most:=1) (by omega) 100 (st d.ob.length) [] hst (e100 _ hst) (by simp);rw [show ((1:Nat):Int)=1 from rfl] at hg;rw [hg];simp only [Option.bind_some,List.nil_append]
  by_cases hG:cG d x 100 (st d.ob.length)=[]
  ·right;refine ⟨.inr [],by simp [hG],rfl,?_⟩;rw [List.eq_nil_iff_forall_not_mem];intro q hq;obtain ⟨q1,q2,q3⟩:=Q73 hd hq;refine cG_some hd q2 q1 q3 100 _ hst (e100 _ hst) (fun j h0 h1 h2=>?_) hG;obtain ⟨j,rfl⟩:=Int.eq_ofNat_of_zero_le h0;simp only [st] at h2;rw [ix_tab _ _ (by omega)] at h2
   by_cases h:P j
   ·rw [if_pos h] at h2;omega
   rw [if_neg h] at h2;omega
  left;have hne:¬ ((((cG d x 100 (st d.ob.length)).take (1 - ([]:List (List Int)).length)).length:Nat):Int)=0:=by
   have:=List.length_pos_iff.2 hG;simp only [List.length_take,List.length_nil];omega
  rw [if_neg hne,Q4 (by unfold B64;omega)];exact ⟨_,rfl,by rw [← List.replicate_succ'];rfl⟩
 ·intro s hs;subst hs;simp only;rw [if_neg (by omega)];exact ⟨_,rfl,rfl⟩
 intro e he;cases e with
 | inr e=>rw [he.1,he.2];simp
 | inl e =>
  simp only at he ⊢;subst he;have hp:CV d x ([]++List.replicate d.ob.length (-1)):=pad_CV (by simp) (fun i hi=>by simp at hi);have hg:=e_go hd hx hm 100 _ [] hp (e100 _ hp) (by simpa using h1);rw [cG_lext hd d.ob.length 100 [] (by simp) (by omega) (fun i hi=>by simp at hi)] at hg;simp only [List.nil_append,List.length_nil,Nat.sub_zero] at hg;rw [hg];rfl
theorem Q8H (d:Fn) {i n:Nat} (h:i≤n):∃ B,Q1j d n=Q1j d i++B:=by
 obtain ⟨m,rfl⟩:=Nat.le.dest h;clear h
 induction m with
 | zero=>exact ⟨[],by simp⟩
 | succ m ih =>
  obtain ⟨B,hB⟩:=ih;exact ⟨B++Q5v d (i+m:Nat),by rw [← Nat.add_assoc,Q2o,hB,List.append_assoc]⟩
theorem e_cones {d:Fn} (hd:d.Is):Q2c d=some ((QP d).take 401):=by
 obtain ⟨l1,l2,l3,l4,l5,l6,l7,l8⟩:=hd.fact;have n8:=hd.t.1.n8;have n0:=hd.t.1.n0;unfold Q2c;refine QZ (σ:=List Cone × Int) (Q:=fun z=>z=some ((QP d).take 401)) d.t.n.toNat (fun i s=>s=((Q1j d i).take 401,(i:Int))) (fun e=>e=(QP d).take 401) (by omega) rfl ?_ ?_ (fun e he=>by rw [he])
 ·intro i s hi hs;subst hs;have hin:(i:Int)<d.t.n:=by omega
  simp only;rw [if_pos hin];simp only [Option.bind_some]
  by_cases h:(Q1j d i).length≤400
  ·left;have e1:(Q1j d i).take 401=Q1j d i:=List.take_of_length_le (by omega);rw [e1,if_pos (by simp;omega),e_const hd ⟨by omega,hin⟩];simp only [Option.bind_some];rw [Q4 (by unfold B64;omega),show (401 - ((Q1j d i).length:Int))=((401 - (Q1j d i).length:Nat):Int) by omega,e_find7 hd ⟨by omega,hin⟩ (by omega) (by omega)];simp only [Option.bind_some,Option.bind_assoc]
   let V:=(lext d i d.ob.length []).take (401 - (Q1j d i).length)
   have hV:V.length≤401 - (Q1j d i).length:=(by simp only [V,List.length_take];omega);have hres:Q1j d i++V.map (Cone.mk i)=(Q1j d (i+1)).take 401:=by
    rw [Q2o,List.take_append,e1];simp [V,Q5v,List.map_take]
   show ∃ s',((Qw _ _ _).bind _)=_∧_;refine ⟨((Q1j d (i+1)).take 401,(i:Int)+1),?_,rfl⟩;refine Q22 V.length (fun q=>Q1j d i++(V.take q).map (Cone.mk i)) (e:=(Q1j d (i+1)).take 401) (by simp) (by omega) (fun q hq=>?_) ?_ ?_
   ·simp only;rw [if_pos (show (q:Int)<(V.length:Int) by omega),Q4 (show 0≤(q:Int)∧(q:Int)<(V.length:Int) by omega),Q4 (by simp only [List.length_append,List.length_map,List.length_take,List.length_singleton];omega),Q4 (by unfold B64;omega)];rw [List.take_succ_eq_append_getElem hq,Q2H _ _ hq];simp [V]
   ·simp only [List.take_length];rw [if_neg (show ¬ (V.length:Int)<(V.length:Int) by omega),hres]
   rw [Q4 (by unfold B64;omega)]
  right;have hf:¬ ((((Q1j d i).take 401).length:Nat):Int)≤400:=by simp only [List.length_take];omega
  refine ⟨(Q1j d i).take 401,by simp [hf];omega,?_⟩;obtain ⟨B,hB⟩:=Q8H d (i:=i) (n:=d.t.n.toNat) (by omega);unfold QP;rw [hB,List.take_append_of_le_length (by omega)]
 intro s hs;subst hs;simp only;rw [if_neg (by omega)];exact ⟨_,rfl,rfl⟩
theorem e_clist {d:Fn} (hd:d.Is):Q20 d=some (if (QP d).length≤400 then (QP d,0) else ([],3)):=by
 unfold Q20;rw [e_cones hd];simp only [Option.bind_some]
 by_cases h:(QP d).length≤400
 ·rw [if_pos h,if_neg (by simp only [List.length_take];omega),List.take_of_length_le (by omega)]
 rw [if_neg h,if_pos (by simp only [List.length_take];omega)]
end
attribute [local simp] unk unA unE unT unC flat eL eI Qo QR Q2f Q1l Cat.cells Cone.cells Fn.cells
noncomputable def Q2a (d_:Fn) (p_:Cone) (q_:Cone):Option (List Int) :=
 (Qz d_.t p_.a q_.a).bind fun v1 =>
 (Qw (σ:=List Int × Int) (ε:=List Int) (fun s22 =>
  if s22.2<(v1.length:Int) then
   (
    ass (0≤s22.2∧s22.2<(v1.length:Int)) <|
    (Qw (σ:=Int) (ε:=Unit ⊕ (List Int)) (fun s33 =>
     if s33<(q_.l.length:Int) then
      ass (0≤s33∧s33<(q_.l.length:Int)) <|
      (Qr d_.t (ix v1 s22.2) (ix q_.l s33)).bind fun v36 =>
      ass (0≤s33∧s33<(p_.l.length:Int)) <|
      if ¬ (v36=(ix p_.l s33)) then
       some (Ctl.ret (Sum.inr s22.1))
      else
       ass (B64 (s33+1)) <|
       some (Ctl.next (s33+1))
     else
      some (Ctl.ret (Sum.inl ()))) fuel 0).bind fun e26 =>
    match e26 with
    | .inl b26 =>
     ass ((s22.1++[ix v1 s22.2]).length≤1073741824) <|
     some (s22.1++[ix v1 s22.2])
    | .inr p26 =>
     some p26:Option (List Int)).bind fun b24 =>
   ass (B64 (s22.2+1)) <|
   some (Ctl.next (b24,s22.2+1))
  else
   some (Ctl.ret s22.1)) fuel ([],0)).bind fun b2 =>
 some b2
@[simp] abbrev Yd (a:Fn) (b:List (Nat × AV)):List (Nat × AV):=(4,.adr 0 0 0)::(5,.adr 1 0 0)::(7,.rptr (Y0t a []))::b
@[simp] abbrev Ys (a b:Cone) (c:List (Nat × Ent)):List (Nat × Ent):=(0,.mix 2 [(Cone.cells true a)])::(1,.mix 2 [(Cone.cells true b)])::c
@[simp] abbrev YE (a:List Int × Int) (b:List Int) (c:List (Nat × AV)):List (Nat × AV):=(8,.own 2 0 a.1.length)::(10,iV (ix b a.2))::(22,.own 3 0 b.length)::(23,iV (b.length:Int))::(24,iV a.2)::c
@[simp] abbrev Y08 (a:List Int) (b:List (Nat × AV)):List (Nat × AV):=(22,.own 3 0 a.length)::(23,iV (a.length:Int))::b
theorem Q7h (d_:Fn) (p_:Cone) (q_:Cone) (r:List Int) (h:Q2a d_ p_ q_=some r):Contract Try.prog 51 [.rptr (d_.cells true),.agg (p_.cells true),.agg (q_.cells true)] (lI r):=by
 refine Q8 (rvs:=[.tmp 6]) (rs:=[lI r]) Try.func51 rfl rfl rfl rfl (by simp [Try.f51]) fun F hN hP=>?_;unfold Q2a at h;refine Q0 (runQ hN fun K hK=>?_);simp;repeat refine sdQ ?_
 refine hK _ ?_;clear hK K;refine tn (Q3 (st':=⟨Yo d_ (Y0b [(5,.adr 1 0 0)]),Ys p_ q_ [],2⟩) (Qn [(0,0),(1,1)]) (w_scope (Q0 (runQ hN fun K hK=>?_))));simp;repeat refine sdQ ?_
 refine hK _ ?_;clear hK K;refine tn (Q3 (st':=⟨Yd d_ [],Ys p_ q_ [],2⟩) (Qn [(0,0),(1,1)]) (Q0 (runQ hN fun K hK=>?_)));simp;repeat refine sdQ ?_
 refine hK _ ?_;clear hK K;refine tn (Q3 (st':=⟨Yd d_ [(8,.own 2 0 0)],Ys p_ q_ [(2,.mix 1 [])],3⟩) (QJ 3) (Q0 (w_label (tn (Q0 (Q0 (runQ hN fun K hK=>?_)))))));simp;repeat with_reducible refine sdQ ?_
 replace ⟨v1,hv1,h⟩:=bind_some h;refine Q1 (Q3j _ _ _ v1 hv1) (.cons (.preT (by simp [Cat.cells,Cone.cells,Fn.cells])) (.cons .val (.cons .val .nil))) ?_;simp;repeat refine sdQ ?_
 refine hK _ (tn (Q3 (st':=⟨Yd d_ ((8,.own 2 0 0)::Y08 v1 [(24,iV 0)]),Ys p_ q_ [(2,.mix 1 []),(3,rI v1)],4⟩) (QJ 4) ?_));clear hK K;replace ⟨e2,h,h2⟩:=bind_some h;refine Qd (fun b2:List Int=>⟨[(8,.own 0 0 b2.length)],[(0,rI b2)],1⟩) (fun b2=>b2=e2) ?_ ?_
 ·refine Q5 (Qt h (fun s22:List Int × Int=>⟨Yd d_ ((8,.own 2 0 s22.1.length)::Y08 v1 [(24,iV s22.2)]),Ys p_ q_ [(2,rI s22.1),(3,rI v1)],4⟩) (Q3m ⟨Yd d_ ((8,.own 2 0 0)::Y08 v1 [(24,iV 0)]),Ys p_ q_ [(2,rI []),(3,rI v1)],4⟩ (Wk.nils [] (by simp) (by simp) (by simp [nlA]) (by simp [entN,nlL,nlA,Cat.cells,Cone.cells,Fn.cells,UA,U1,IA,I1,LA,L1,BA,B1,EA,E1,E2,eB,eI,eL]) (by simp)) (QJ 4)) ?_);clear h;intro k22 s22 c22 h hk22;refine Q0 (runQ hN fun K hK=>?_);simp;repeat refine sdQ ?_
  refine hK _ ?_;clear hK K;refine tn (Q0 (Q6 rfl (fun g=>?_) fun g=>?_))
  ·have g23:s22.2<(v1.length:Int):=gQ;clear g;replace h:=if_l g23 h;refine Q7 (tn (Q0 ?_));replace ⟨e24,h,h24⟩:=bind_some h;refine Qd (fun b24:List Int=>⟨Yd d_ ((8,.own 2 0 b24.length)::Y08 v1 [(24,iV s22.2)]),Ys p_ q_ [(2,rI b24),(3,rI v1)],4⟩) (fun b24=>b24=e24) ?_ ?_
   ·refine Q5 (Q0 (runQ hN fun K hK=>?_));replace ⟨a25,h⟩:=Q2 h;simp [at_I a25];(repeat refine sdQ ?_);refine hK _ ?_;clear hK K;refine tn (Q3 (st':=⟨Yd d_ (YE s22 v1 []),Ys p_ q_ [(2,rI s22.1),(3,rI v1)],4⟩) (QJ 4) (Q0 (Q0 (runQ hN fun K hK=>?_))));simp;(repeat refine sdQ ?_);refine hK _ (tn (Q3 (st':=⟨Yd d_ (YE s22 v1 [(29,lI q_.l),(30,iV (q_.l.length:Int)),(31,iV 0)]),Ys p_ q_ [(2,rI s22.1),(3,rI v1)],4⟩) (QJ 4) ?_));clear hK K;replace ⟨e26,h,h26⟩:=bind_some h;refine Qd (fun b26:Unit=>⟨Yd d_ (YE s22 v1 []),Ys p_ q_ [(2,rI s22.1),(3,rI v1)],4⟩) (fun b26=>Sum.inl b26=e26) ?_ ?_
    ·refine Q5 (Qt h (fun s33:Int=>⟨Yd d_ (YE s22 v1 [(29,lI q_.l),(30,iV (q_.l.length:Int)),(31,iV s33)]),Ys p_ q_ [(2,rI s22.1),(3,rI v1)],4⟩) (QJ 4) ?_);clear h;intro k33 s33 c33 h hk33;refine Q0 (runQ hN fun K hK=>?_);simp;(repeat refine sdQ ?_);refine hK _ ?_;clear hK K;refine tn (Q0 (Q6 rfl (fun g=>?_) fun g=>?_))
     ·have g34:s33<(q_.l.length:Int):=gQ;clear g;replace h:=if_l g34 h;refine Q7 (tn (Q0 (Q5 (Q0 (runQ hN fun K hK=>?_)))));replace ⟨a35,h⟩:=Q2 h;simp [at_I a35];(repeat refine sdQ ?_);refine hK _ ?_;clear hK K;refine tn (Q3 (st':=⟨Yd d_ ((8,.own 2 0 s22.1.length)::(10,iV (ix v1 s22.2))::(11,iV s33)::(12,iV (ix q_.l s33))::Y08 v1 [(24,iV s22.2),(29,lI q_.l),(30,iV (q_.l.length:Int)),(31,iV s33)]),Ys p_ q_ [(2,rI s22.1),(3,rI v1)],4⟩) (QJ 4) (Q0 (runQ hN fun K hK=>?_)));simp;(repeat with_reducible refine sdQ ?_);replace ⟨v36,hv36,h⟩:=bind_some h;refine Q1 (Q21 _ _ _ v36 hv36) (.cons (.preT (by simp [Cat.cells,Cone.cells,Fn.cells])) (.cons .val (.cons .val .nil))) ?_;replace ⟨a37,h⟩:=Q2 h;simp [at_I a37];(repeat refine sdQ ?_);refine hK _ ?_;clear hK K;refine tn (Q3 (st':=⟨Yd d_ (YE s22 v1 [(29,lI q_.l),(30,iV (q_.l.length:Int)),(31,iV s33),(45,.val (.bool (v36 != (ix p_.l s33))))]),Ys p_ q_ [(2,rI s22.1),(3,rI v1)],4⟩) (QJ 4) (Q6 rfl (fun g=>?_) fun g=>?_))
      ·have g38:¬ (v36=(ix p_.l s33)):=gQ;clear g;replace h:=if_l g38 h;refine Qj (bm (by decide) (tx (lx (bm (by decide) (tx (bh ?_))))));cases h;have q:_=e26:=hk33;have h:=h26;rw [← q] at h;clear q;(try dsimp only at h);exact jn (b:=s22.1) (Option.some.inj h) (QJ 4)
      have g38:¬ (¬ (v36=(ix p_.l s33))):=gQ;clear g;replace h:=if_r g38 h;refine Q7 (bn (tn (runQ hN fun K hK=>?_)));replace ⟨a39,h⟩:=Q2 h;simp [Qp a39];(repeat refine sdQ ?_);refine hK _ ?_;clear hK K;cases h;exact rn (s':=s33+1) hk33 (QJ 4)
     have g34:¬ (s33<(q_.l.length:Int)):=gQ;clear g;replace h:=if_r g34 h;refine Qj (tx (lx (bh ?_)));cases h;exact jn (b:=()) hk33 (QJ 4)
    intro b26 hb26;have h:=h26;(try rw [← hb26] at h);clear h26;(try dsimp only at h);refine runQ hN fun K hK=>?_;replace ⟨a40,h⟩:=Q2 h;(try simp only [List.length_append,List.length_cons,List.length_nil] at a40);simp [a40];(repeat refine sdQ ?_);refine hK _ (bn ?_);clear hK K;exact jn (b:=s22.1++[ix v1 s22.2]) (Option.some.inj h) (Qn [(0,0),(1,1),(5,2),(3,3)])
   intro b24 hb24;have h:=h24;(try rw [← hb24] at h);clear h24;(try dsimp only at h);refine runQ hN fun K hK=>?_;replace ⟨a41,h⟩:=Q2 h;simp [Qp a41];(repeat refine sdQ ?_);refine hK _ ?_;clear hK K;cases h;exact rn (s':=(b24,s22.2+1)) hk22 (QJ 4)
  have g23:¬ (s22.2<(v1.length:Int)):=gQ;clear g;replace h:=if_r g23 h;refine Qj (tx (lx (bh ?_)));cases h;exact jn (b:=s22.1) hk22 (Qn [(2,0)])
 intro b2 hb2;have h:=h2;try rw [← hb2] at h
 clear h2;try dsimp only at h
 refine Q0 (runQ hN fun K hK=>?_);simp;repeat refine sdQ ?_
 refine hK _ (tn (Q3 (st':=⟨[(6,.own 0 0 b2.length)],[(0,rI b2)],1⟩) (Qn [(0,0)]) (Qe (pcr ?_))));clear hK K;have hr:=Option.some.inj h;rw [← hr];refine ⟨_,(.tmp .nil),?_⟩;refine ⟨(.one rfl rfl .nil),[lI b2],[0],by simp [Cat.cells,Cone.cells,Fn.cells,UA,U1,IA,I1,LA,L1,BA,B1,EA,E1,E2,eB,eI,eL],by simp,(UpL.refl _)⟩
attribute [local simp] unk unA unE unT unC flat eL eI Qo Q2f Q1l Cone.cells Fn.cells
noncomputable def Q1O (p_:Cone) (f_:Fn):Option Cone :=
 ass (0≤p_.a∧p_.a<(f_.ob.length:Int)) <|
 (Q3c p_.l f_.ar).bind fun v2 =>
 some (⟨ix f_.ob p_.a,v2⟩:Cone)
@[simp] abbrev Y02 (a:Cone) (b:List (Nat × Ent)):List (Nat × Ent):=(0,.mix 2 [(Cone.cells true a)])::b
theorem Q6t (p_:Cone) (f_:Fn) (r:Cone) (h:Q1O p_ f_=some r):Contract Try.prog 34 [.agg (p_.cells true),.rptr (f_.cells true)] (.agg (r.cells true)):=by
 refine Q8 (rvs:=[.cell 4 60]) (rs:=[.agg (r.cells true)]) Try.func34 rfl rfl rfl rfl (by simp [Try.f34]) fun F hN hP=>?_;unfold Q1O at h;refine Q0 (runQ hN fun K hK=>?_);simp;repeat refine sdQ ?_
 refine hK _ ?_;clear hK K;refine tn (Q3 (st':=⟨YJ f_ [(2,.adr 0 0 0),(4,.adr 1 0 0)],Y02 p_ [(1,.mix 2 [[iV 0,nS]])],2⟩) (Qn [(0,0),(1,1)]) (Q0 (runQ hN fun K hK=>?_)));replace ⟨a1,h⟩:=Q2 h;simp [at_I a1];repeat with_reducible refine sdQ ?_
 replace ⟨v2,hv2,h⟩:=bind_some h;refine Q1 (Q6u _ _ v2 hv2) (.cons .lst (.cons .lst .nil)) ?_;simp [at_I a1];repeat refine sdQ ?_
 refine hK _ (tn (Q3 (st':=⟨Y0b [],[(0,.mix 2 [[iV (ix f_.ob p_.a),.own 1 0 v2.length]]),(1,rI v2)],2⟩) (Qn [(1,0),(2,1)]) (Qe ?_)));clear hK K;have hr:=Option.some.inj h;rw [← hr];refine ⟨_,(.cell tf_60 rfl rfl rfl (by simp) (by simp) .nil),?_⟩;refine ⟨(.agg rfl .nil),[iV (ix f_.ob p_.a),lI v2],[1],by simp [Cone.cells,Fn.cells,UA,U1,IA,I1,LA,L1,BA,B1,EA,E1,E2,eB,eI,eL],by simp,(UpL.refl _)⟩
attribute [local simp] unk unA unE unT unC flat eL eI Qo Q2f Q1l Cone.cells Fn.cells
noncomputable def Q14 (d_:Fn) (all_:List Cone) (p_:Cone):Option Bool :=
 (Qw (σ:=Int) (ε:=Unit ⊕ Bool) (fun s7 =>
  if s7<(all_.length:Int) then
   ass (0≤s7∧s7<(all_.length:Int)) <|
   (Q2a d_ (gx all_ s7) p_).bind fun v10 =>
   if ¬ ((v10.length:Int)=1) then
    some (Ctl.ret (Sum.inr false))
   else
    ass (B64 (s7+1)) <|
    some (Ctl.next (s7+1))
  else
   some (Ctl.ret (Sum.inl ()))) fuel 0).bind fun e1 =>
 match e1 with
 | .inl b1 =>
  some true
 | .inr p1 =>
  some p1
@[simp] abbrev Y05 (a:List Cone) (b:List (Nat × AV)):List (Nat × AV):=(9,.lst true 2 (Es (Cone.cells true) a))::(10,iV (a.length:Int))::b
theorem Q3B (d_:Fn) (all_:List Cone) (p_:Cone) (r:Bool) (h:Q14 d_ all_ p_=some r):Contract Try.prog 35 [.rptr (d_.cells true),.lst true 2 (Es (Cone.cells true) all_),.agg (p_.cells true)] (.val (.bool r)):=by
 refine Q8 (rvs:=[.tmp 6]) (rs:=[.val (.bool r)]) Try.func35 rfl rfl rfl rfl (by simp [Try.f35]) fun F hN hP=>?_;unfold Q14 at h;refine Q0 (runQ hN fun K hK=>?_);simp;repeat refine sdQ ?_
 refine hK _ ?_;clear hK K;refine tn (Q3 (st':=⟨Yo d_ [(1,.lst true 2 (Es (Cone.cells true) all_)),(5,.adr 0 0 0)],Y02 p_ [],1⟩) (Qn [(0,0)]) (Q0 (Q0 (runQ hN fun K hK=>?_))));simp;repeat refine sdQ ?_
 refine hK _ (tn (Q3 (st':=⟨Yo d_ ((5,.adr 0 0 0)::Y05 all_ [(11,iV 0)]),Y02 p_ [],1⟩) (Qn [(0,0)]) ?_));clear hK K;replace ⟨e1,h,h1⟩:=bind_some h;refine Qd (fun b1:Unit=>⟨[],[],0⟩) (fun b1=>Sum.inl b1=e1) ?_ ?_
 ·refine Q5 (Qt h (fun s7:Int=>⟨Yo d_ ((5,.adr 0 0 0)::Y05 all_ [(11,iV s7)]),Y02 p_ [],1⟩) (Qn [(0,0)]) ?_);clear h;intro k7 s7 c7 h hk7;refine Q0 (runQ hN fun K hK=>?_);simp;repeat refine sdQ ?_
  refine hK _ ?_;clear hK K;refine tn (Q0 (Q6 rfl (fun g=>?_) fun g=>?_))
  ·have g8:s7<(all_.length:Int):=gQ;clear g;replace h:=if_l g8 h;refine Q7 (tn (Q0 (Q5 (Q0 (runQ hN fun K hK=>?_)))));replace ⟨a9,h⟩:=Q2 h;simp [at_E (c:=(Cone.cells true)) a9];(repeat refine sdQ ?_);refine hK _ ?_;clear hK K;refine tn (Q3 (st':=⟨Yo d_ ((5,.adr 0 0 0)::(8,.adr 1 0 0)::Y05 all_ [(11,iV s7)]),Y02 p_ [(1,.mix 2 [(Cone.cells true (gx all_ s7))])],2⟩) (Qn [(0,0),(1,1)]) (Q0 (runQ hN fun K hK=>?_)));simp;(repeat with_reducible refine sdQ ?_);replace ⟨v10,hv10,h⟩:=bind_some h;refine Q1 (Q7h _ _ _ v10 hv10) (.cons (.preT (by simp [Cone.cells,Fn.cells])) (.cons (.aggL (.cons .val (.cons .lst .nil))) (.cons (.aggL (.cons .val (.cons .lst .nil))) .nil))) ?_;simp;(repeat refine sdQ ?_);refine hK _ ?_;clear hK K;refine tn (Q3 (st':=⟨Yo d_ ((5,.adr 0 0 0)::Y05 all_ [(11,iV s7),(20,.val (.bool ((v10.length:Int) != 1)))]),Y02 p_ [],1⟩) (Qn [(0,0)]) (Q6 rfl (fun g=>?_) fun g=>?_))
   ·have g11:¬ ((v10.length:Int)=1):=gQ;clear g;replace h:=if_l g11 h;refine Q0 (runQ hN fun K hK=>?_);simp;(repeat refine sdQ ?_);refine hK _ (tn (Q3 (st':=⟨[(6,.val (.bool false))],[],0⟩) (Qn []) (Qe (br (tr (lr (br (tr ?_))))))));clear hK K;cases h;have q:_=e1:=hk7;have h:=h1;rw [← q] at h;clear q;(try dsimp only at h);have hr:=Option.some.inj h;rw [← hr];refine ⟨_,(.tmp .nil),?_⟩;refine ⟨(.one rfl rfl .nil),[.val (.bool false)],[],by simp [Cone.cells,Fn.cells,UA,U1,IA,I1,LA,L1,BA,B1,EA,E1,E2,eB,eI,eL,Qa _ (Cone.cells true) _ (fun _=>rfl)],by simp,(UpL.refl _)⟩
   have g11:¬ (¬ ((v10.length:Int)=1)):=gQ;clear g;replace h:=if_r g11 h;refine Q7 (bn (tn (runQ hN fun K hK=>?_)));replace ⟨a12,h⟩:=Q2 h;simp [Qp a12];(repeat refine sdQ ?_);refine hK _ ?_;clear hK K;cases h;exact rn (s':=s7+1) hk7 (Qn [(0,0)])
  have g8:¬ (s7<(all_.length:Int)):=gQ;clear g;replace h:=if_r g8 h;refine Qj (tx (lx (bh ?_)));cases h;exact jn (b:=()) hk7 (Qn [])
 intro b1 hb1;have h:=h1;try rw [← hb1] at h
 clear h1;try dsimp only at h
 refine Q0 (runQ hN fun K hK=>?_);simp;repeat refine sdQ ?_
 refine hK _ (tn (Q3 (st':=⟨[(6,.val (.bool true))],[],0⟩) (Qn []) (Qe ?_)));clear hK K;have hr:=Option.some.inj h;rw [← hr];refine ⟨_,(.tmp .nil),?_⟩;refine ⟨(.one rfl rfl .nil),[.val (.bool true)],[],by simp [Cone.cells,Fn.cells,UA,U1,IA,I1,LA,L1,BA,B1,EA,E1,E2,eB,eI,eL,Qa _ (Cone.cells true) _ (fun _=>rfl)],by simp,(UpL.refl _)⟩
attribute [local simp] unk unA unE unT unC flat eL eI Qo QR Q2f Q1l Cat.cells Cone.cells Fn.cells
noncomputable def Q2E (d_:Fn) (p_:Cone) (q_:Cone):Option (List Int) :=
 (Q1Y d_.t p_.a q_.a).bind fun v1 =>
 (Qw (σ:=List Int × Int) (ε:=List Int) (fun s27 =>
  if s27.2<(v1.length:Int) then
   (
    (Qw (σ:=Bool × Int) (ε:=Bool) (fun s39 =>
     (
      if s39.2<(p_.l.length:Int) then
       some s39.1
      else
       some false:Option (Bool)).bind fun b40 =>
     if b40=true then
      ass (0≤s27.2∧s27.2<(v1.length:Int)) <|
      ass (0≤s39.2∧s39.2<(q_.l.length:Int)) <|
      (Q1b d_.t (ix v1 s27.2) (ix q_.l s39.2)).bind fun v45 =>
      ass (0≤s39.2∧s39.2<(p_.l.length:Int)) <|
      ass (B64 (s39.2+1)) <|
      some (Ctl.next (v45 == (ix p_.l s39.2),s39.2+1))
     else
      some (Ctl.ret s39.1)) fuel (true,0)).bind fun b30 =>
    if b30=true then
     ass (0≤s27.2∧s27.2<(v1.length:Int)) <|
     ass ((s27.1++[ix v1 s27.2]).length≤1073741824) <|
     some (s27.1++[ix v1 s27.2])
    else
     some s27.1:Option (List Int)).bind fun b29 =>
   ass (B64 (s27.2+1)) <|
   some (Ctl.next (b29,s27.2+1))
  else
   some (Ctl.ret s27.1)) fuel ([],0)).bind fun b2 =>
 some b2
@[simp] abbrev Yi (a:Fn) (b c:Cone) (d:List (Nat × Ent)):List (Nat × Ent):=(0,.mix 12 [(Fn.cells true a)])::(1,.mix 2 [(Cone.cells true b)])::(2,.mix 2 [(Cone.cells true c)])::d
@[simp] abbrev Yr (a:List Int) (b:List (Nat × AV)):List (Nat × AV):=(3,.adr 0 0 0)::(4,.adr 1 0 0)::(5,.adr 2 0 0)::(7,.own 3 0 a.length)::b
@[simp] abbrev Y0a (a:List Int × Int) (b:List (Nat × AV)):List (Nat × AV):=(8,.own 4 0 a.1.length)::(9,iV a.2)::b
theorem Q83 (d_:Fn) (p_:Cone) (q_:Cone) (r:List Int) (h:Q2E d_ p_ q_=some r):Contract Try.prog 44 [.agg (d_.cells true),.agg (p_.cells true),.agg (q_.cells true)] (lI r):=by
 refine Q8 (rvs:=[.tmp 6]) (rs:=[lI r]) Try.func44 rfl rfl rfl rfl (by simp [Try.f44]) fun F hN hP=>?_;unfold Q2E at h;refine Q0 (runQ hN fun K hK=>?_);simp;repeat refine sdQ ?_
 refine hK _ ?_;clear hK K;refine tn (Q3 (st':=⟨[(3,.adr 0 0 0),(4,.adr 1 0 0),(5,.adr 2 0 0)],Yi d_ p_ q_ [],3⟩) (QJ 3) (Q0 (runQ hN fun K hK=>?_)));simp;repeat with_reducible refine sdQ ?_
 replace ⟨v1,hv1,h⟩:=bind_some h;refine Q1 (Q60 _ _ _ v1 hv1) (.cons (.aggL (.cons .val (.cons .lst (.cons .lst (.cons .lst (.cons .lst .nil)))))) (.cons .val (.cons .val .nil))) ?_;simp;repeat refine sdQ ?_
 refine hK _ ?_;clear hK K;refine tn (Q3 (st':=⟨Yr v1 [],Yi d_ p_ q_ [(3,rI v1)],4⟩) (QJ 4) (Q0 (runQ hN fun K hK=>?_)));simp;repeat refine sdQ ?_
 refine hK _ ?_;clear hK K;refine tn (Q3 (st':=⟨Yr v1 [(8,.own 4 0 0)],Yi d_ p_ q_ [(3,rI v1),(4,.mix 1 [])],5⟩) (QJ 5) (Q0 (Q0 (runQ hN fun K hK=>?_))));simp;repeat refine sdQ ?_
 refine hK _ (tn (Q3 (st':=⟨Yr v1 [(8,.own 4 0 0),(9,iV 0)],Yi d_ p_ q_ [(3,rI v1),(4,.mix 1 [])],5⟩) (QJ 5) ?_));clear hK K;replace ⟨e2,h,h2⟩:=bind_some h;refine Qd (fun b2:List Int=>⟨[(8,.own 0 0 b2.length)],[(0,rI b2)],1⟩) (fun b2=>b2=e2) ?_ ?_
 ·refine Q5 (Qt h (fun s27:List Int × Int=>⟨Yr v1 (Y0a s27 []),Yi d_ p_ q_ [(3,rI v1),(4,rI s27.1)],5⟩) (Q3m ⟨Yr v1 [(8,.own 4 0 0),(9,iV 0)],Yi d_ p_ q_ [(3,rI v1),(4,rI [])],5⟩ (Wk.nils [] (by simp) (by simp) (by simp [nlA]) (by simp [entN,nlL,nlA,Cat.cells,Cone.cells,Fn.cells,UA,U1,IA,I1,LA,L1,BA,B1,EA,E1,E2,eB,eI,eL]) (by simp)) (QJ 5)) ?_);clear h;intro k27 s27 c27 h hk27;refine Q0 (Q0 (runQ hN fun K hK=>?_));simp;repeat refine sdQ ?_
  refine hK _ ?_;clear hK K;refine tn (Q6 rfl (fun g=>?_) fun g=>?_)
  ·have g28:s27.2<(v1.length:Int):=gQ;clear g;replace h:=if_l g28 h;refine Q7 (tn (Q0 ?_));replace ⟨e29,h,h29⟩:=bind_some h;refine Qd (fun b29:List Int=>⟨Yr v1 [(8,.own 4 0 b29.length),(9,iV s27.2)],Yi d_ p_ q_ [(3,rI v1),(4,rI b29)],5⟩) (fun b29=>b29=e29) ?_ ?_
   ·refine Q5 (Q0 (runQ hN fun K hK=>?_));simp;(repeat refine sdQ ?_);refine hK _ ?_;clear hK K;refine tn (Q3 (st':=⟨Yr v1 (Y0a s27 [(10,.val (.bool true))]),Yi d_ p_ q_ [(3,rI v1),(4,rI s27.1)],5⟩) (QJ 5) (Q0 (Q0 (runQ hN fun K hK=>?_))));simp;(repeat refine sdQ ?_);refine hK _ (tn (Q3 (st':=⟨Yr v1 (Y0a s27 [(10,.val (.bool true)),(11,iV 0)]),Yi d_ p_ q_ [(3,rI v1),(4,rI s27.1)],5⟩) (QJ 5) ?_));clear hK K;replace ⟨e30,h,h30⟩:=bind_some h;refine Qd (fun b30:Bool=>⟨Yr v1 (Y0a s27 [(10,.val (.bool b30))]),Yi d_ p_ q_ [(3,rI v1),(4,rI s27.1)],5⟩) (fun b30=>b30=e30) ?_ ?_
    ·refine Q5 (Qt h (fun s39:Bool × Int=>⟨Yr v1 (Y0a s27 [(10,.val (.bool s39.1)),(11,iV s39.2)]),Yi d_ p_ q_ [(3,rI v1),(4,rI s27.1)],5⟩) (QJ 5) ?_);clear h;intro k39 s39 c39 h hk39;refine Q0 (Q0 ?_);replace ⟨e40,h,h40⟩:=bind_some h;refine Qd (fun b40:Bool=>⟨Yr v1 (Y0a s27 [(10,.val (.bool s39.1)),(11,iV s39.2),(33,.val (.bool b40))]),Yi d_ p_ q_ [(3,rI v1),(4,rI s27.1)],5⟩) (fun b40=>b40=e40) ?_ ?_
     ·refine runQ hN fun K hK=>?_;simp;(repeat with_reducible refine sdQ ?_);refine Qh (fun g=>?_) (fun g=>?_)
      ·have g41:s39.2<(p_.l.length:Int):=gQ;clear g;replace h:=if_l g41 h;simp;(repeat refine sdQ ?_);refine hK _ ?_;exact jn (b:=s39.1) (Option.some.inj h) (QJ 5)
      have g41:¬ (s39.2<(p_.l.length:Int)):=gQ;clear g;replace h:=if_r g41 h;simp;(repeat refine sdQ ?_);refine hK _ ?_;exact jn (b:=false) (Option.some.inj h) (QJ 5)
     intro b40 hb40;have h:=h40;(try rw [← hb40] at h);clear h40;(try dsimp only at h);refine Q6 rfl (fun g=>?_) fun g=>?_
     ·have g42:b40=true:=gQ;clear g;replace h:=if_l g42 h;refine Q7 (tn (Q0 (Q5 (runQ hN fun K hK=>?_))));replace ⟨a43,h⟩:=Q2 h;replace ⟨a44,h⟩:=Q2 h;simp [at_I a43,at_I a44];(repeat with_reducible refine sdQ ?_);replace ⟨v45,hv45,h⟩:=bind_some h;refine Q1 (Q80 _ _ _ v45 hv45) (.cons (.aggL (.cons .val (.cons .lst (.cons .lst (.cons .lst (.cons .lst .nil)))))) (.cons .val (.cons .val .nil))) ?_;replace ⟨a46,h⟩:=Q2 h;simp [at_I a43,at_I a44,at_I a46];(repeat refine sdQ ?_);refine hK _ ?_;clear hK K;refine bn (tn (Q3 (st':=⟨Yr v1 (Y0a s27 [(10,.val (.bool (v45 == (ix p_.l s39.2)))),(11,iV s39.2)]),Yi d_ p_ q_ [(3,rI v1),(4,rI s27.1)],5⟩) (QJ 5) (runQ hN fun K hK=>?_)));replace ⟨a47,h⟩:=Q2 h;simp [Qp a47];(repeat refine sdQ ?_);refine hK _ ?_;clear hK K;cases h;exact rn (s':=(v45 == (ix p_.l s39.2),s39.2+1)) hk39 (QJ 5)
     have g42:¬ (b40=true):=gQ;clear g;replace h:=if_r g42 h;refine Qj (tx (lx (bh ?_)));cases h;exact jn (b:=s39.1) hk39 (QJ 5)
    intro b30 hb30;have h:=h30;(try rw [← hb30] at h);clear h30;(try dsimp only at h);refine Q0 (runQ hN fun K hK=>?_);simp;(repeat refine sdQ ?_);refine hK _ ?_;clear hK K;refine tn (Q6 rfl (fun g=>?_) fun g=>?_)
    ·have g48:b30=true:=gQ;clear g;replace h:=if_l g48 h;refine runQ hN fun K hK=>?_;replace ⟨a49,h⟩:=Q2 h;replace ⟨a50,h⟩:=Q2 h;(try simp only [List.length_append,List.length_cons,List.length_nil] at a50);simp [at_I a49,a50];(repeat refine sdQ ?_);refine hK _ (bn ?_);clear hK K;exact jn (b:=s27.1++[ix v1 s27.2]) (Option.some.inj h) (Qn [(0,0),(1,1),(2,2),(3,3),(7,4)])
    have g48:¬ (b30=true):=gQ;clear g;replace h:=if_r g48 h;refine Q7 (bn ?_);exact jn (b:=s27.1) (Option.some.inj h) (QJ 5)
   intro b29 hb29;have h:=h29;(try rw [← hb29] at h);clear h29;(try dsimp only at h);refine runQ hN fun K hK=>?_;replace ⟨a51,h⟩:=Q2 h;simp [Qp a51];(repeat refine sdQ ?_);refine hK _ ?_;clear hK K;cases h;exact rn (s':=(b29,s27.2+1)) hk27 (QJ 5)
  have g28:¬ (s27.2<(v1.length:Int)):=gQ;clear g;replace h:=if_r g28 h;refine Qj (tx (lx (bh ?_)));cases h;exact jn (b:=s27.1) hk27 (Qn [(4,0)])
 intro b2 hb2;have h:=h2;try rw [← hb2] at h
 clear h2;try dsimp only at h
 refine Q0 (runQ hN fun K hK=>?_);simp;repeat refine sdQ ?_
 refine hK _ (tn (Q3 (st':=⟨[(6,.own 0 0 b2.length)],[(0,rI b2)],1⟩) (Qn [(0,0)]) (Qe ?_)));clear hK K;have hr:=Option.some.inj h;rw [← hr];refine ⟨_,(.tmp .nil),?_⟩;refine ⟨(.one rfl rfl .nil),[lI b2],[0],by simp [Cat.cells,Cone.cells,Fn.cells,UA,U1,IA,I1,LA,L1,BA,B1,EA,E1,E2,eB,eI,eL],by simp,(UpL.refl _)⟩
attribute [local simp] unk unA unE unT unC flat eL eI Qo Q2f Q1l Cone.cells Fn.cells
noncomputable def QB (d_:Fn) (list_:List Cone) (p_:Cone):Option Bool :=
 (Qw (σ:=Int) (ε:=Unit ⊕ Bool) (fun s7 =>
  if s7<(list_.length:Int) then
   ass (0≤s7∧s7<(list_.length:Int)) <|
   (Q2E d_ (gx list_ s7) p_).bind fun v10 =>
   if ¬ ((v10.length:Int)=1) then
    some (Ctl.ret (Sum.inr false))
   else
    ass (B64 (s7+1)) <|
    some (Ctl.next (s7+1))
  else
   some (Ctl.ret (Sum.inl ()))) fuel 0).bind fun e1 =>
 match e1 with
 | .inl b1 =>
  some true
 | .inr p1 =>
  some p1
@[simp] abbrev YW (a:List Cone) (b:List (Nat × AV)):List (Nat × AV):=(1,.lst true 2 (Es (Cone.cells true) a))::(3,.adr 0 0 0)::(5,.adr 1 0 0)::b
@[simp] abbrev Y07 (a:Fn) (b:Cone) (c:List (Nat × Ent)):List (Nat × Ent):=(0,.mix 12 [(Fn.cells true a)])::(1,.mix 2 [(Cone.cells true b)])::c
theorem Q3k (d_:Fn) (list_:List Cone) (p_:Cone) (r:Bool) (h:QB d_ list_ p_=some r):Contract Try.prog 28 [.agg (d_.cells true),.lst true 2 (Es (Cone.cells true) list_),.agg (p_.cells true)] (.val (.bool r)):=by
 refine Q8 (rvs:=[.tmp 6]) (rs:=[.val (.bool r)]) Try.func28 rfl rfl rfl rfl (by simp [Try.f28]) fun F hN hP=>?_;unfold QB at h;refine Q0 (runQ hN fun K hK=>?_);simp;repeat refine sdQ ?_
 refine hK _ ?_;clear hK K;refine tn (Q3 (st':=⟨YW list_ [],Y07 d_ p_ [],2⟩) (Qn [(0,0),(1,1)]) (Q0 (Q0 (runQ hN fun K hK=>?_))));simp;repeat refine sdQ ?_
 refine hK _ (tn (Q3 (st':=⟨YW list_ [(7,iV 0)],Y07 d_ p_ [],2⟩) (Qn [(0,0),(1,1)]) ?_));clear hK K;replace ⟨e1,h,h1⟩:=bind_some h;refine Qd (fun b1:Unit=>⟨[],[],0⟩) (fun b1=>Sum.inl b1=e1) ?_ ?_
 ·refine Q5 (Qt h (fun s7:Int=>⟨YW list_ [(7,iV s7)],Y07 d_ p_ [],2⟩) (Qn [(0,0),(1,1)]) ?_);clear h;intro k7 s7 c7 h hk7;refine Q0 (Q0 (runQ hN fun K hK=>?_));simp;repeat refine sdQ ?_
  refine hK _ ?_;clear hK K;refine tn (Q6 rfl (fun g=>?_) fun g=>?_)
  ·have g8:s7<(list_.length:Int):=gQ;clear g;replace h:=if_l g8 h;refine Q7 (tn (Q0 (Q5 (Q0 (runQ hN fun K hK=>?_)))));replace ⟨a9,h⟩:=Q2 h;simp [at_E (c:=(Cone.cells true)) a9];(repeat with_reducible refine sdQ ?_);replace ⟨v10,hv10,h⟩:=bind_some h;refine Q1 (Q83 _ _ _ v10 hv10) (.cons (.aggL (.cons .val (.cons .lst (.cons .lst (.cons .lst (.cons .lst (.cons .val (.cons .lst (.cons .lst (.cons .lst (.cons .lst (.cons .lst (.cons .lst .nil))))))))))))) (.cons (.aggL (.cons .val (.cons .lst .nil))) (.cons (.aggL (.cons .val (.cons .lst .nil))) .nil))) ?_;simp [at_E (c:=(Cone.cells true)) a9];(repeat refine sdQ ?_);refine hK _ ?_;clear hK K;refine tn (Q3 (st':=⟨YW list_ [(7,iV s7),(22,.val (.bool ((v10.length:Int) != 1)))],Y07 d_ p_ [],2⟩) (Qn [(0,0),(1,1)]) (Q6 rfl (fun g=>?_) fun g=>?_))
   ·have g11:¬ ((v10.length:Int)=1):=gQ;clear g;replace h:=if_l g11 h;refine Q0 (runQ hN fun K hK=>?_);simp;(repeat refine sdQ ?_);refine hK _ (tn (Q3 (st':=⟨[(6,.val (.bool false))],[],0⟩) (Qn []) (Qe (br (tr (lr (br (tr ?_))))))));clear hK K;cases h;have q:_=e1:=hk7;have h:=h1;rw [← q] at h;clear q;(try dsimp only at h);have hr:=Option.some.inj h;rw [← hr];refine ⟨_,(.tmp .nil),?_⟩;refine ⟨(.one rfl rfl .nil),[.val (.bool false)],[],by simp [Cone.cells,Fn.cells,UA,U1,IA,I1,LA,L1,BA,B1,EA,E1,E2,eB,eI,eL,Qa _ (Cone.cells true) _ (fun _=>rfl)],by simp,(UpL.refl _)⟩
   have g11:¬ (¬ ((v10.length:Int)=1)):=gQ;clear g;replace h:=if_r g11 h;refine Q7 (bn (tn (runQ hN fun K hK=>?_)));replace ⟨a12,h⟩:=Q2 h;simp [Qp a12];(repeat refine sdQ ?_);refine hK _ ?_;clear hK K;cases h;exact rn (s':=s7+1) hk7 (Qn [(0,0),(1,1)])
  have g8:¬ (s7<(list_.length:Int)):=gQ;clear g;replace h:=if_r g8 h;refine Qj (tx (lx (bh ?_)));cases h;exact jn (b:=()) hk7 (Qn [])
 intro b1 hb1;have h:=h1;try rw [← hb1] at h
 clear h1;try dsimp only at h
 refine Q0 (runQ hN fun K hK=>?_);simp;repeat refine sdQ ?_
 refine hK _ (tn (Q3 (st':=⟨[(6,.val (.bool true))],[],0⟩) (Qn []) (Qe ?_)));clear hK K;have hr:=Option.some.inj h;rw [← hr];refine ⟨_,(.tmp .nil),?_⟩;refine ⟨(.one rfl rfl .nil),[.val (.bool true)],[],by simp [Cone.cells,Fn.cells,UA,U1,IA,I1,LA,L1,BA,B1,EA,E1,E2,eB,eI,eL,Qa _ (Cone.cells true) _ (fun _=>rfl)],by simp,(UpL.refl _)⟩
attribute [local simp] unk unA unE unT unC flat eL eI Qo Q1l Fn.cells
noncomputable def Q2F (d_:Fn) (e_:Fn):Option (List Cone × List Cone × Int) :=
 (Q20 d_).bind fun v1 =>
 (Q20 e_).bind fun v2 =>
 (
  if ¬ (v1.2=0) then
   some true
  else
   some (v2.2 != 0):Option (Bool)).bind fun b3 =>
 if b3=true then
  some ([],[],3)
 else
  some (v1.1,v2.1,0)
theorem Q84 (d_:Fn) (e_:Fn) (r:List Cone × List Cone × Int) (h:Q2F d_ e_=some r):FContract Try.prog true 27 [.agg (d_.cells true),.agg (e_.cells true)] (.tup [.lst true 2 (Es (Cone.cells true) r.1),.lst true 2 (Es (Cone.cells true) r.2.1),iV r.2.2]):=by
 refine Q1M true (ts:=[4,5,6]) (rs:=[.lst true 2 (Es (Cone.cells true) r.1),.lst true 2 (Es (Cone.cells true) r.2.1),iV r.2.2]) Try.func27 rfl rfl rfl rfl (by simp [Try.f27]) fun F hN hP=>?_;unfold Q2F at h;refine Q0 (Qk [2,3] mo (by rw [hN];decide) fun K hK=>?_);simp;repeat refine sdQ ?_
 refine hK _ ?_;clear hK K;refine tn (Q3 (st':=⟨(2,.rptr (Fn.cells true d_))::YS e_ [],[],0⟩) (Qn []) (Q0 (Qk [] mo (by rw [hN];decide) fun K hK=>?_)));simp;repeat with_reducible refine sdQ ?_
 replace ⟨v1,hv1,h⟩:=bind_some h;refine Q2O (fz:=[]) true (Q5t _ v1 hv1) (PurK.ofN (.cons (.aggL (.cons .val (.cons .lst (.cons .lst (.cons .lst (.cons .lst (.cons .val (.cons .lst (.cons .lst (.cons .lst (.cons .lst (.cons .lst (.cons .lst .nil))))))))))))) .nil)) ?_;simp;repeat refine sdQ ?_
 refine hK _ ?_;clear hK K;refine tn (Q3 (st':=⟨YS e_ [(7,.lst true 2 (Es (Cone.cells true) v1.1)),(8,iV v1.2)],[],0⟩) (Qn []) (Q0 (Qk [] mo (by rw [hN];decide) fun K hK=>?_)));simp;repeat with_reducible refine sdQ ?_
 replace ⟨v2,hv2,h⟩:=bind_some h;refine Q2O (fz:=[]) true (Q5t _ v2 hv2) (PurK.ofN (.cons (.aggL (.cons .val (.cons .lst (.cons .lst (.cons .lst (.cons .lst (.cons .val (.cons .lst (.cons .lst (.cons .lst (.cons .lst (.cons .lst (.cons .lst .nil))))))))))))) .nil)) ?_;simp;repeat refine sdQ ?_
 refine hK _ (tn (Q3 (st':=⟨[(7,.lst true 2 (Es (Cone.cells true) v1.1)),(8,iV v1.2),(9,.lst true 2 (Es (Cone.cells true) v2.1)),(10,iV v2.2)],[],0⟩) (Qn []) (Q0 (Q0 ?_))));clear hK K;replace ⟨e3,h,h3⟩:=bind_some h;refine Qd (fun b3:Bool=>⟨[(7,.lst true 2 (Es (Cone.cells true) v1.1)),(9,.lst true 2 (Es (Cone.cells true) v2.1)),(26,.val (.bool b3))],[],0⟩) (fun b3=>b3=e3) ?_ ?_
 ·refine Qk [] mo (by rw [hN];decide) fun K hK=>?_;simp;repeat with_reducible refine sdQ ?_
  refine Q26 (fun g=>?_) (fun g=>?_)
  ·have g4:¬ (¬ (v1.2=0)):=gQ;clear g;replace h:=if_r g4 h;simp;(repeat refine sdQ ?_);refine hK _ ?_;exact jn (b:=v2.2 != 0) (Option.some.inj h) (Qn [])
  have g4:¬ (v1.2=0):=gQ;clear g;replace h:=if_l g4 h;simp;repeat refine sdQ ?_
  refine hK _ ?_;exact jn (b:=true) (Option.some.inj h) (Qn [])
 intro b3 hb3;have h:=h3;try rw [← hb3] at h
 clear h3;try dsimp only at h
 refine Q6 rfl (fun g=>?_) fun g=>?_
 ·have g5:b3=true:=gQ;clear g;replace h:=if_l g5 h;refine Q0 (Qk [] mo (by rw [hN];decide) fun K hK=>?_);simp;repeat refine sdQ ?_
  refine hK _ (tn (Q3 (st':=⟨[(4,nS),(5,nS),(6,iV 3)],[],0⟩) (Qn []) (Qe (tr ?_))));clear hK K;have hr:=Option.some.inj h;rw [← hr];exact (.two .nil (.two .nil (.two .val .nil)))
 have g5:¬ (b3=true):=gQ;clear g;replace h:=if_r g5 h;refine Q7 (tn (Q0 (Qk [] mo (by rw [hN];decide) fun K hK=>?_)));simp;repeat refine sdQ ?_
 refine hK _ (tn (Q3 (st':=⟨[(4,.lst true 2 (Es (Cone.cells true) v1.1)),(5,.lst true 2 (Es (Cone.cells true) v2.1)),(6,iV 0)],[],0⟩) (Qn []) (Qe ?_)));clear hK K;have hr:=Option.some.inj h;rw [← hr];exact (.two .lst (.two .lst (.two .val .nil)))
attribute [local simp] unk unA unE unT unC flat eL eI Qo Q2f Q1l Cone.cells Fn.cells
noncomputable def Q1p (p_:Cone) (f_:Fn):Option Cone :=
 ass (0≤p_.a∧p_.a<(f_.ob.length:Int)) <|
 (Q1F p_.l f_.ar).bind fun v2 =>
 some (⟨ix f_.ob p_.a,v2⟩:Cone)
theorem Q7m (p_:Cone) (f_:Fn) (r:Cone) (h:Q1p p_ f_=some r):Contract Try.prog 29 [.agg (p_.cells true),.agg (f_.cells true)] (.agg (r.cells true)):=by
 refine Q8 (rvs:=[.cell 4 60]) (rs:=[.agg (r.cells true)]) Try.func29 rfl rfl rfl rfl (by simp [Try.f29]) fun F hN hP=>?_;unfold Q1p at h;refine Q0 (runQ hN fun K hK=>?_);simp;repeat refine sdQ ?_
 refine hK _ ?_;clear hK K;refine tn (Q3 (st':=⟨YN [(4,.adr 2 0 0)],Y02 p_ [(1,.mix 12 [(Fn.cells true f_)]),(2,.mix 2 [[iV 0,nS]])],3⟩) (QJ 3) (Q0 (runQ hN fun K hK=>?_)));replace ⟨a1,h⟩:=Q2 h;simp [at_I a1];repeat with_reducible refine sdQ ?_
 replace ⟨v2,hv2,h⟩:=bind_some h;refine Q1 (Q40 _ _ v2 hv2) (.cons .lst (.cons .lst .nil)) ?_;simp [at_I a1];repeat refine sdQ ?_
 refine hK _ (tn (Q3 (st':=⟨Y0b [],[(0,.mix 2 [[iV (ix f_.ob p_.a),.own 1 0 v2.length]]),(1,rI v2)],2⟩) (Qn [(2,0),(3,1)]) (Qe ?_)));clear hK K;have hr:=Option.some.inj h;rw [← hr];refine ⟨_,(.cell tf_60 rfl rfl rfl (by simp) (by simp) .nil),?_⟩;refine ⟨(.agg rfl .nil),[iV (ix f_.ob p_.a),lI v2],[1],by simp [Cone.cells,Fn.cells,UA,U1,IA,I1,LA,L1,BA,B1,EA,E1,E2,eB,eI,eL],by simp,(UpL.refl _)⟩
section
attribute [local simp] Qf QG Qu Q16 QE
def Cone.G (d:Fn) (p:Cone):Prop:=(0≤p.a∧p.a<d.t.n)∧p.l.length=d.ob.length∧LP d p.a p.l
theorem mem_coneL {d:Fn} (hd:d.Is) {p:Cone} (h:p∈QP d):p.G d:=by
 have n0:=hd.t.1.n0;simp only [QP,Q1j,Q5v,List.mem_flatMap,List.mem_range,List.mem_map] at h;obtain ⟨x,hx,q,hq,rfl⟩:=h;obtain ⟨q1,q2,q3⟩:=Q73 hd hq;exact ⟨by simp only;omega,q1,q2⟩
noncomputable def cmL (d:Fn) (p q:Cone):List Int:=(homL d.t p.a q.a).filter fun f=>bo (∀ i:Nat,i<p.l.length→ix (rx d.t.cs f) (ix q.l i)=ix p.l i)
theorem Q67 {d:Fn} (hd:d.Is) {p q:Cone} (hp:p.G d) (hq:q.G d):Q2E d p q=some (cmL d p q)∧Q2a d p q=some (cmL d p q):=by
 obtain ⟨l1,l2,l3,l4,l5,l6,l7,l8⟩:=hd.fact;obtain ⟨p1,p2,p3⟩:=hp;obtain ⟨q1,q2,q3⟩:=hq;have hH:=Q4P d.t p.a q.a;have hthn:∀ k:Nat,k<(homL d.t p.a q.a).length→∀ i:Nat,i<p.l.length→Q1b d.t (ix (homL d.t p.a q.a) k) (ix q.l i)=some (ix (rx d.t.cs (ix (homL d.t p.a q.a) k)) (ix q.l i))∧Qr d.t (ix (homL d.t p.a q.a) k) (ix q.l i)=some (ix (rx d.t.cs (ix (homL d.t p.a q.a) k)) (ix q.l i)):=fun k hk i hi =>
  (Q8r (P:=fun f=>Ar d.t f p.a q.a) Q3F hk).thn hd.t (q3 i (by omega))
 constructor
 ·unfold Q2E;rw [(Q8d hd.t _ _).1];simp only [Option.bind_some];refine Q69 (homL d.t p.a q.a) (fun f=>∀ i:Nat,i<p.l.length→ix (rx d.t.cs f) (ix q.l i)=ix p.l i) (e:=cmL d p q) (by omega) (fun k acc hk hacc=>?_) ?_ rfl
  ·have hk2:(k:Int)<((homL d.t p.a q.a).length:Int):=(by omega);have hB:B64 ((k:Int)+1):=(by unfold B64;omega);have inner:∀ {β:Type} {K:Bool→Option β} {r:β},K (bo (∀ i:Nat,i<p.l.length→ix (rx d.t.cs (ix (homL d.t p.a q.a) k)) (ix q.l i)=ix p.l i))=some r →
     (Qw (σ:=Bool × Int) (ε:=Bool) (fun s39 =>
     (
      if s39.2<(p.l.length:Int) then
       some s39.1
      else
       some false:Option (Bool)).bind fun b40 =>
     if b40=true then
      ass (0≤(k:Int)∧(k:Int)<((homL d.t p.a q.a).length:Int)) <|
      ass (0≤s39.2∧s39.2<(q.l.length:Int)) <|
      (Q1b d.t (ix (homL d.t p.a q.a) k) (ix q.l s39.2)).bind fun v45 =>
      ass (0≤s39.2∧s39.2<(p.l.length:Int)) <|
      ass (B64 (s39.2+1)) <|
      some (Ctl.next (v45 == (ix p.l s39.2),s39.2+1))
     else
      some (Ctl.ret s39.1)) fuel (true,0)).bind K=some r:=by
    intro β K r hk';refine wh_bind p.l.length (fun i=>ix (rx d.t.cs (ix (homL d.t p.a q.a) k)) (ix q.l i)=ix p.l i) (by omega) (fun i hi=>?_) (by simp) (fun i=>?_) hk'
    ·have hi2:(i:Int)<(p.l.length:Int):=(by omega);show ((if (i:Int)<(p.l.length:Int) then some true else some false:Option Bool).bind _)=_;rw [if_pos hi2];simp only [Option.bind_some,if_true];rw [Q4 ⟨by omega,hk2⟩,Q4 (by omega),(hthn k hk i hi).1];simp only [Option.bind_some];rw [Q4 ⟨by omega,hi2⟩,Q4 (by unfold B64;omega)]
     by_cases h:ix (rx d.t.cs (ix (homL d.t p.a q.a) k)) (ix q.l i)=ix p.l i
     ·rw [QC h];simp [h]
     rw [Qv h];simp [h]
    by_cases h:(i:Int)<(p.l.length:Int)<;>simp [h]
   refine ⟨fun hs=>?_,fun hs=>?_⟩
   ·simp only;rw [if_pos hk2];simp only [Option.bind_assoc];refine inner ?_;rw [QC hs];simp only [if_true];rw [Q4 ⟨by omega,hk2⟩,Q4 (by simp;omega)];simp only [Option.bind_some];rw [Q4 hB]
   simp only;rw [if_pos hk2];simp only [Option.bind_assoc];refine inner ?_;rw [Qv hs];simp only [Bool.false_eq_true,if_false,Option.bind_some];rw [Q4 hB]
  simp only;rw [if_neg (by omega)];rfl
 unfold Q2a;rw [(Q8d hd.t _ _).2];simp only [Option.bind_some];refine Q69 (homL d.t p.a q.a) (fun f=>∀ i:Nat,i<p.l.length→ix (rx d.t.cs f) (ix q.l i)=ix p.l i) (e:=cmL d p q) (by omega) (fun k acc hk hacc=>?_) ?_ rfl
 ·have hk2:(k:Int)<((homL d.t p.a q.a).length:Int):=by omega
  have hB:B64 ((k:Int)+1):=by unfold B64;omega
  have inner:∀ {β:Type} {K:Unit ⊕ List Int→Option β} {r:β},((∀ i:Nat,i<p.l.length→ix (rx d.t.cs (ix (homL d.t p.a q.a) k)) (ix q.l i)=ix p.l i)→K (.inl ())=some r)→(¬ (∀ i:Nat,i<p.l.length→ix (rx d.t.cs (ix (homL d.t p.a q.a) k)) (ix q.l i)=ix p.l i)→K (.inr acc)=some r) →
    (Qw (σ:=Int) (ε:=Unit ⊕ (List Int)) (fun s33 =>
    if s33<(q.l.length:Int) then
     ass (0≤s33∧s33<(q.l.length:Int)) <|
     (Qr d.t (ix (homL d.t p.a q.a) k) (ix q.l s33)).bind fun v36 =>
     ass (0≤s33∧s33<(p.l.length:Int)) <|
     if ¬ (v36=(ix p.l s33)) then
      some (Ctl.ret (Sum.inr acc))
     else
      ass (B64 (s33+1)) <|
      some (Ctl.next (s33+1))
    else
     some (Ctl.ret (Sum.inl ()))) fuel 0).bind K=some r:=by
   intro β K r k1 k2;refine Q19 p.l.length (fun i=>ix (rx d.t.cs (ix (homL d.t p.a q.a) k)) (ix q.l i)=ix p.l i) (eb:=Sum.inr acc) (eg:=Sum.inl ()) (by omega) (fun i hi hs=>?_) (fun i hi hs=>?_) (by rw [if_neg (by omega)]) k2 k1
   ·rw [if_pos (by omega),Q4 (by omega),(hthn k hk i hi).2];simp only [Option.bind_some];rw [Q4 (by omega),if_neg (by simp [hs]),Q4 (by unfold B64;omega)]
   rw [if_pos (by omega),Q4 (by omega),(hthn k hk i hi).2];simp only [Option.bind_some];rw [Q4 (by omega),if_pos hs]
  refine ⟨fun hs=>?_,fun hs=>?_⟩
  ·simp only;rw [if_pos hk2,Q4 ⟨by omega,hk2⟩];simp only [Option.bind_assoc];refine inner (fun _=>?_) fun h=>absurd hs h;simp only;rw [Q4 (by simp;omega)];simp only [Option.bind_some];rw [Q4 hB]
  simp only;rw [if_pos hk2,Q4 ⟨by omega,hk2⟩];simp only [Option.bind_assoc];refine inner (fun h=>absurd h hs) fun _=>?_;simp only [Option.bind_some];rw [Q4 hB]
 simp only;rw [if_neg (by omega)];rfl
def unv (d:Fn) (L:List Cone) (p:Cone):Prop:=∀ i:Nat,i<L.length→(cmL d (gx L i) p).length=1
def GL (d:Fn) (L:List Cone):Prop:=L.length≤400∧∀ i:Nat,i<L.length→(gx L i).G d
theorem Q8e {d:Fn} (hd:d.Is) {L:List Cone} (hL:GL d L) {p:Cone} (hp:p.G d):QB d L p=some (bo (unv d L p))∧Q14 d L p=some (bo (unv d L p)):=by
 have h4:=hL.1;constructor
 ·unfold QB;refine Q19 L.length (fun i=>(cmL d (gx L i) p).length=1) (eb:=Sum.inr false) (eg:=Sum.inl ()) (by omega) (fun i hi hs=>?_) (fun i hi hs=>?_) (by rw [if_neg (by omega)]) (fun h=>by rw [Qv (p:=unv d L p) h]) fun h=>by rw [QC (p:=unv d L p) h]
  ·rw [if_pos (by omega),Q4 (by omega),(Q67 hd (hL.2 i hi) hp).1];simp only [Option.bind_some];rw [if_neg (by omega),Q4 (by unfold B64;omega)]
  rw [if_pos (by omega),Q4 (by omega),(Q67 hd (hL.2 i hi) hp).1];simp only [Option.bind_some];rw [if_pos (by omega)]
 unfold Q14;refine Q19 L.length (fun i=>(cmL d (gx L i) p).length=1) (eb:=Sum.inr false) (eg:=Sum.inl ()) (by omega) (fun i hi hs=>?_) (fun i hi hs=>?_) (by rw [if_neg (by omega)]) (fun h=>by rw [Qv (p:=unv d L p) h]) fun h=>by rw [QC (p:=unv d L p) h]
 ·rw [if_pos (by omega),Q4 (by omega),(Q67 hd (hL.2 i hi) hp).2];simp only [Option.bind_some];rw [if_neg (by omega),Q4 (by unfold B64;omega)]
 rw [if_pos (by omega),Q4 (by omega),(Q67 hd (hL.2 i hi) hp).2];simp only [Option.bind_some];rw [if_pos (by omega)]
theorem Q62 {d:Fn} (hd:d.Is) (h:(QP d).length≤400):GL d (QP d):=⟨h,fun i hi=>mem_coneL hd (by rw [Q48 _ hi];exact List.getElem_mem hi)⟩
def img (p:Cone) (f:Fn):Cone:=⟨ix f.ob p.a,Q17 p.l f.ar⟩
theorem Fn.Is.arr {f:Fn} (hf:f.Is) {a x y:Int} (h:Ar f.s a x y):Ar f.t (ix f.ar a) (ix f.ob x) (ix f.ob y):=by
 obtain ⟨a',rfl⟩:=Int.eq_ofNat_of_zero_le h.1.1;have h1:=h.1.2;have la:=hf.la;have h2:=hf.ar a' (by omega);have h3:=hf.ends a' (by omega);rw [h.2.1,h.2.2] at h3;exact ⟨h2,h3⟩
theorem Fn.Is.obj {f:Fn} (hf:f.Is) {x:Int} (h:0≤x∧x<f.s.n):0≤ix f.ob x∧ix f.ob x<f.t.n:=by
 obtain ⟨x',rfl⟩:=Int.eq_ofNat_of_zero_le h.1;have lo:=hf.lo;exact hf.ob x' (by omega)
theorem Q7u {d f:Fn} (hd:d.Is) (hf:f.Is) (h:d.t=f.s) {p:Cone} (hp:p.G d):Q1p p f=some (img p f)∧Q1O p f=some (img p f)∧(img p f).G (QH d f):=by
 obtain ⟨l1,l2,l3,l4,l5,l6,l7,l8⟩:=hd.fact;obtain ⟨p1,p2,p3⟩:=hp;have lo:=hf.lo;have la:=hf.la;rw [h] at p1;have hA:∀ i:Nat,i<p.l.length→Ar f.s (ix p.l i) p.a (ix d.ob i):=fun i hi=>by rw [← h];exact p3 i hi
 have hm:∀ y∈p.l,0≤y∧y<(f.ar.length:Int):=Q59 fun j hj=>by
  have:=(hA j hj).1;omega
 refine ⟨?_,?_,⟨hf.obj p1,by simp [img,Q17,QH];omega,fun i hi=>?_⟩⟩
 ·unfold Q1p Q1F;rw [Q4 (by omega),Q4 (by omega),Q4 hm];rfl
 ·unfold Q1O Q3c;rw [Q4 (by omega),Q4 (by omega),Q4 hm];rfl
 have hi':i<p.l.length:=by simpa [img,Q17] using hi
 show Ar f.t (ix (Q17 p.l f.ar) i) (ix f.ob p.a) (ix (Q17 d.ob f.ob) i);rw [Q1B _ _ (by omega) (by omega),Q1B _ _ (by omega) (by omega)];exact hf.arr (hA i hi')
theorem e_both {d e:Fn} (hd:d.Is) (he:e.Is):Q2F d e=some (if (QP d).length≤400∧(QP e).length≤400 then (QP d,QP e,0) else ([],[],3)):=by
 unfold Q2F;rw [e_clist hd,e_clist he]
 by_cases h1:(QP d).length≤400<;>by_cases h2:(QP e).length≤400<;>simp [h1,h2]
end
attribute [local simp] unk unA unE unT unC flat eL eI Qo Q1l QS Fn.cells XMoved.cells
noncomputable def Q2z (d_:Fn) (f_:Fn):Option (XMoved × Bool) :=
 (Q1f d_ f_).bind fun v1 =>
 (Q1I d_).bind fun v2 =>
 (Q1I v1).bind fun v3 =>
 (
  if v2.2=true then
   some v3.2
  else
   some false:Option (Bool)).bind fun b4 =>
 some ((⟨d_,v1,f_,v2.1,v3.1⟩:XMoved),b4)
@[simp] abbrev Yx (a b c:Fn) (d:List (Nat × Ent)):List (Nat × Ent):=(0,.mix 27 [(Y0o a (Y0p b (Y0v c [nS,nS])))])::d
@[simp] abbrev Yy (a b c:Fn) (d e:List Cone × Bool) (f:List (Nat × Ent)):List (Nat × Ent):=(0,.mix 27 [(Y0o a (Y0p b (Y0v c [.own 11 0 d.1.length,.own 12 0 e.1.length])))])::f
theorem Q7W (d_:Fn) (f_:Fn) (r:XMoved × Bool) (h:Q2z d_ f_=some r):FContract Try.prog true 48 [.rptr (d_.cells true),.rptr (f_.cells true)] (.tup [.rptr (r.1.cells true),.val (.bool r.2)]):=by
 refine Q1M true (ts:=[4,5]) (rs:=[.rptr (r.1.cells true),.val (.bool r.2)]) Try.func48 rfl rfl rfl rfl (by simp [Try.f48]) fun F hN hP=>?_;unfold Q2z at h;refine Q0 (Qk [] mo (by rw [hN];decide) fun K hK=>?_);simp;repeat refine sdQ ?_
 refine hK _ ?_;clear hK K;refine tn (Q3 (st':=⟨Yo d_ (YJ f_ []),[],0⟩) (Qn []) (Q0 (Qk [] mo (by rw [hN];decide) fun K hK=>?_)));simp;repeat with_reducible refine sdQ ?_
 replace ⟨v1,hv1,h⟩:=bind_some h;refine QD (fz:=[]) (Q4L _ _ v1 hv1) (.cons (.preT (by simp [Fn.cells,XMoved.cells])) (.cons (.preT (by simp [Fn.cells,XMoved.cells])) .nil)) ?_;simp;repeat refine sdQ ?_
 refine hK _ ?_;clear hK K;refine tn (Q3 (st':=⟨[(6,.adr 0 0 0)],Yx d_ v1 f_ (Y9 v1 []),11⟩) (Qn [(12,0),(1,1),(2,2),(3,3),(4,4),(6,5),(7,6),(8,7),(9,8),(10,9),(11,10)]) (Q0 (Qk [] mo (by rw [hN];decide) fun K hK=>?_)));simp;repeat refine sdQ ?_
 refine hK _ ?_;clear hK K;refine tn (Q3 (st':=⟨[(6,.adr 0 0 0)],Yx d_ v1 f_ (Y9 v1 []),11⟩) (QJ 11) (Q0 (Qk [] mo (by rw [hN];decide) fun K hK=>?_)));simp;repeat with_reducible refine sdQ ?_
 replace ⟨v2,hv2,h⟩:=bind_some h;refine QD (fz:=[]) (Q4F _ v2 hv2) (.cons (.field rfl (by simp [Fn.cells,XMoved.cells]) (.cons .val (.cons .lst (.cons .lst (.cons .lst (.cons .lst (.cons .val (.cons .lst (.cons .lst (.cons .lst (.cons .lst (.cons .lst (.cons .lst .nil))))))))))))) .nil) ?_;simp;repeat refine sdQ ?_
 refine hK _ ?_;clear hK K;refine tn (Q3 (st':=⟨[(6,.adr 0 0 0),(7,.val (.bool v2.2))],(0,.mix 27 [(Y0o d_ (Y0p v1 (Y0v f_ [.own 11 0 v2.1.length,nS])))])::Y9 v1 [(11,.row 2 (Es (Cone.cells true) v2.1))],12⟩) (QJ 12) (Q0 (Qk [] mo (by rw [hN];decide) fun K hK=>?_)));simp;repeat with_reducible refine sdQ ?_
 replace ⟨v3,hv3,h⟩:=bind_some h;refine QD (fz:=[]) (Q4F _ v3 hv3) (.cons (.field rfl (by simp [Fn.cells,XMoved.cells]) (.cons .val (.cons .w (.cons .w (.cons .w (.cons .w (.cons .val (.cons .w (.cons .w (.cons .w (.cons .w (.cons .w (.cons .w .nil))))))))))))) .nil) ?_;simp;repeat refine sdQ ?_
 refine hK _ (tn (Q3 (st':=⟨[(6,.adr 0 0 0),(7,.val (.bool v2.2)),(8,.val (.bool v3.2))],Yy d_ v1 f_ v2 v3 (Y9 v1 [(11,.row 2 (Es (Cone.cells true) v2.1)),(12,.row 2 (Es (Cone.cells true) v3.1))]),13⟩) (QJ 13) (Q0 ?_)));clear hK K;replace ⟨e4,h,h4⟩:=bind_some h;refine Qd (fun b4:Bool=>⟨Y0b [(5,.val (.bool b4))],Yy d_ v1 f_ v2 v3 (Y9 v1 [(11,.row 2 (Es (Cone.cells true) v2.1)),(12,.row 2 (Es (Cone.cells true) v3.1))]),13⟩) (fun b4=>b4=e4) ?_ ?_
 ·refine Qk [] mo (by rw [hN];decide) fun K hK=>?_;simp;repeat with_reducible refine sdQ ?_
  refine Q26 (fun g=>?_) (fun g=>?_)
  ·have g5:v2.2=true:=gQ;clear g;replace h:=if_l g5 h;simp;(repeat refine sdQ ?_);refine hK _ ?_;exact jn (b:=v3.2) (Option.some.inj h) (QJ 13)
  have g5:¬ (v2.2=true):=gQ;clear g;replace h:=if_r g5 h;simp;repeat refine sdQ ?_
  refine hK _ ?_;exact jn (b:=false) (Option.some.inj h) (QJ 13)
 intro b4 hb4;have h:=h4;try rw [← hb4] at h
 clear h4;try dsimp only at h
 refine Qe ?_;have hr:=Option.some.inj h;rw [← hr];exact (.two (.field rfl (by simp [Fn.cells,XMoved.cells]) (.cons .val (.cons .lst (.cons .lst (.cons .lst (.cons .lst (.cons .val (.cons .lst (.cons .lst (.cons .lst (.cons .lst (.cons .lst (.cons .lst (.cons .val (.cons .w (.cons .w (.cons .w (.cons .w (.cons .val (.cons .w (.cons .w (.cons .w (.cons .w (.cons .w (.cons .w (.cons (.preT (by simp [Fn.cells,XMoved.cells])) (.cons .w (.cons .w .nil)))))))))))))))))))))))))))) (.two .val .nil))
attribute [local simp] unk unA unE unT unC flat eL eI Qo QR Q1l Cat.cells Fn.cells
noncomputable def Q1G (d_:Fn) (f_:Fn):Option (Fn × Int) :=
 (
  (Q30 d_).bind fun v2 =>
  if ¬ (v2=true) then
   some true
  else
   (Q30 f_).bind fun v4 =>
   some (!v4):Option (Bool)).bind fun b1 =>
 if b1=true then
  some ((⟨(⟨0,[],[],[],[]⟩:Cat),(⟨0,[],[],[],[]⟩:Cat),[],[]⟩:Fn),1)
 else
  (Q3d d_.t f_.s).bind fun v6 =>
  if ¬ (v6=true) then
   some ((⟨(⟨0,[],[],[],[]⟩:Cat),(⟨0,[],[],[],[]⟩:Cat),[],[]⟩:Fn),5)
  else
   (Q2C d_ f_).bind fun v8 =>
   some (v8,0)
theorem Q85 (d_:Fn) (f_:Fn) (r:Fn × Int) (h:Q1G d_ f_=some r):Contract Try.prog 14 (Y0u d_ f_ []) (.tup [.agg (r.1.cells true),iV r.2]):=by
 refine Q8 (rvs:=[.cell 4 33,.tmp 5]) (rs:=[.agg (r.1.cells true),iV r.2]) Try.func14 rfl rfl rfl rfl (by simp [Try.f14]) fun F hN hP=>?_;unfold Q1G at h;refine Q0 (runQ hN fun K hK=>?_);simp;repeat refine sdQ ?_
 refine hK _ (tn (Q3 (st':=⟨YN [(4,.adr 2 0 0)],Y4 d_ f_ (Y00 []),3⟩) (QJ 3) (Q0 (Q5 (Q0 ?_)))));clear hK K;replace ⟨e1,h,h1⟩:=bind_some h;refine Qd (fun b1:Bool=>⟨YN [(4,.adr 2 0 0),(6,.val (.bool b1))],Y4 d_ f_ (Y00 []),3⟩) (fun b1=>b1=e1) ?_ ?_
 ·refine runQ hN fun K hK=>?_;simp;repeat with_reducible refine sdQ ?_
  replace ⟨v2,hv2,h⟩:=bind_some h;refine Q1 (Q7k _ v2 hv2) (.cons (.aggL (.cons .val (.cons .lst (.cons .lst (.cons .lst (.cons .lst (.cons .val (.cons .lst (.cons .lst (.cons .lst (.cons .lst (.cons .lst (.cons .lst .nil))))))))))))) .nil) ?_;simp;repeat with_reducible refine sdQ ?_
  refine Qh (fun g=>?_) (fun g=>?_)
  ·have g3:¬ (¬ (v2=true)):=gQ;clear g;replace h:=if_r g3 h;simp;(repeat with_reducible refine sdQ ?_);replace ⟨v4,hv4,h⟩:=bind_some h;refine Q1 (Q7k _ v4 hv4) (.cons (.aggL (.cons .val (.cons .lst (.cons .lst (.cons .lst (.cons .lst (.cons .val (.cons .lst (.cons .lst (.cons .lst (.cons .lst (.cons .lst (.cons .lst .nil))))))))))))) .nil) ?_;simp;(repeat refine sdQ ?_);refine hK _ ?_;exact jn (b:=!v4) (Option.some.inj h) (QJ 3)
  have g3:¬ (v2=true):=gQ;clear g;replace h:=if_l g3 h;simp;repeat refine sdQ ?_
  refine hK _ ?_;exact jn (b:=true) (Option.some.inj h) (QJ 3)
 intro b1 hb1;have h:=h1;try rw [← hb1] at h
 clear h1;try dsimp only at h
 refine Q6 rfl (fun g=>?_) fun g=>?_
 ·have g5:b1=true:=gQ;clear g;replace h:=if_l g5 h;refine Q0 (runQ hN fun K hK=>?_);simp;repeat refine sdQ ?_
  refine hK _ (tn (Q3 (st':=⟨Y0b [(5,iV 1)],YZ [],1⟩) (Qn [(2,0)]) (Qe (br (tr ?_)))));clear hK K;have hr:=Option.some.inj h;rw [← hr];refine ⟨_,(.cell Q6s rfl rfl rfl (by simp) (by simp) (.tmp .nil)),?_⟩;refine ⟨(.agg rfl (.one rfl rfl .nil)),[iV 0,nS,nS,nS,nS,iV 0,nS,nS,nS,nS,nS,nS,iV 1],[],by simp [Cat.cells,Fn.cells,UA,U1,IA,I1,LA,L1,BA,B1,EA,E1,E2,eB,eI,eL],by simp,(.cons .refl (.cons .nil (.cons .nil (.cons .nil (.cons .nil (.cons .refl (.cons .nil (.cons .nil (.cons .nil (.cons .nil (.cons .nil (.cons .nil (.cons .refl .nil)))))))))))))⟩
 have g5:¬ (b1=true):=gQ;clear g;replace h:=if_r g5 h;refine Q0 (runQ hN fun K hK=>?_);simp;repeat with_reducible refine sdQ ?_
 replace ⟨v6,hv6,h⟩:=bind_some h;refine Q1 (Q7Z _ _ v6 hv6) (.cons (.aggL (.cons .val (.cons .lst (.cons .lst (.cons .lst (.cons .lst .nil)))))) (.cons (.aggL (.cons .val (.cons .lst (.cons .lst (.cons .lst (.cons .lst .nil)))))) .nil)) ?_;simp;repeat refine sdQ ?_
 refine hK _ ?_;clear hK K;refine tn (Q3 (st':=⟨YN [(4,.adr 2 0 0),(16,.val (.bool (!v6)))],Y4 d_ f_ (Y00 []),3⟩) (QJ 3) (Q6 rfl (fun g=>?_) fun g=>?_))
 ·have g7:¬ (v6=true):=gQ;clear g;replace h:=if_l g7 h;refine Q0 (runQ hN fun K hK=>?_);simp;repeat refine sdQ ?_
  refine hK _ (tn (Q3 (st':=⟨Y0b [(5,iV 5)],YZ [],1⟩) (Qn [(2,0)]) (Qe (br (tr ?_)))));clear hK K;have hr:=Option.some.inj h;rw [← hr];refine ⟨_,(.cell Q6s rfl rfl rfl (by simp) (by simp) (.tmp .nil)),?_⟩;refine ⟨(.agg rfl (.one rfl rfl .nil)),[iV 0,nS,nS,nS,nS,iV 0,nS,nS,nS,nS,nS,nS,iV 5],[],by simp [Cat.cells,Fn.cells,UA,U1,IA,I1,LA,L1,BA,B1,EA,E1,E2,eB,eI,eL],by simp,(.cons .refl (.cons .nil (.cons .nil (.cons .nil (.cons .nil (.cons .refl (.cons .nil (.cons .nil (.cons .nil (.cons .nil (.cons .nil (.cons .nil (.cons .refl .nil)))))))))))))⟩
 have g7:¬ (¬ (v6=true)):=gQ;clear g;replace h:=if_r g7 h;refine Q7 (bn (tn (Q0 (runQ hN fun K hK=>?_))));simp;repeat with_reducible refine sdQ ?_
 replace ⟨v8,hv8,h⟩:=bind_some h;refine Q1 (Q81 _ _ v8 hv8) (.cons (.aggL (.cons .val (.cons .lst (.cons .lst (.cons .lst (.cons .lst (.cons .val (.cons .lst (.cons .lst (.cons .lst (.cons .lst (.cons .lst (.cons .lst .nil))))))))))))) (.cons (.aggL (.cons .val (.cons .lst (.cons .lst (.cons .lst (.cons .lst (.cons .val (.cons .lst (.cons .lst (.cons .lst (.cons .lst (.cons .lst (.cons .lst .nil))))))))))))) .nil)) ?_;simp;repeat refine sdQ ?_
 refine hK _ (tn (Q3 (st':=⟨Y0b [(5,iV 0)],Yn v8 (Y9 v8 []),11⟩) (Qn [(2,0),(4,1),(5,2),(6,3),(7,4),(9,5),(10,6),(11,7),(12,8),(13,9),(14,10)]) (Qe ?_)));clear hK K;have hr:=Option.some.inj h;rw [← hr];refine ⟨_,(.cell Q6s rfl rfl rfl (by simp) (by simp) (.tmp .nil)),?_⟩;refine ⟨(.agg rfl (.one rfl rfl .nil)),[iV v8.s.n,lI v8.s.fr,lI v8.s.to,lI v8.s.id,.lst true 1 (Ls v8.s.cs),iV v8.t.n,lI v8.t.fr,lI v8.t.to,lI v8.t.id,.lst true 1 (Ls v8.t.cs),lI v8.ob,lI v8.ar,iV 0],[1,2,3,4,5,6,7,8,9,10],by simp [Cat.cells,Fn.cells,UA,U1,IA,I1,LA,L1,BA,B1,EA,E1,E2,eB,eI,eL],by simp,(UpL.refl _)⟩
section
attribute [local simp] Qf QG Qu Q16 QE
theorem e_mby {d f:Fn} (hd:d.Is) (hf:f.Is) (h:d.t=f.s):Q2z d f=some (if (QP d).length≤400∧(QP (QH d f)).length≤400 then (⟨d,QH d f,f,QP d,QP (QH d f)⟩,true) else (⟨d,QH d f,f,if (QP d).length≤400 then QP d else [],if (QP (QH d f)).length≤400 then QP (QH d f) else []⟩,false)):=by
 unfold Q2z;rw [e_Fthen hd hf h];simp only [Option.bind_some];rw [Q5H hd];simp only [Option.bind_some];rw [Q5H (Q5m hd hf h)]
 by_cases h1:(QP d).length≤400<;>by_cases h2:(QP (QH d f)).length≤400<;>simp [h1,h2]
theorem e_code14 (d f:Fn):(¬ (d.Is∧f.Is)→(Q1G d f=some (zeroF,1)∧QT [d,f]=some false))∧(d.Is∧f.Is→QT [d,f]=some true∧(¬ d.t=f.s→Q1G d f=some (zeroF,5)∧QL d.t f.s=some false)∧(d.t=f.s→Q1G d f=some (QH d f,0)∧QL d.t f.s=some true)):=by
 unfold Q1G Q3d;rw [Q66 [d,f] (by simp),e_l06Is,e_l06Is];have hb:(∀ g∈[d,f],g.Is)↔(d.Is∧f.Is):=by simp
 refine ⟨fun h=>?_,fun h=>?_⟩
 ·rw [Qv fun q=>h (hb.1 q)]
  by_cases h1:d.Is
  ·have h2:¬ f.Is:=fun q=>h ⟨h1,q⟩;rw [QC h1,Qv h2];simp [zeroF]
  rw [Qv h1];simp [zeroF]
 rw [QC (hb.2 h),QC h.1,QC h.2,e_sameCat h.1.t];refine ⟨rfl,fun h3=>?_,fun h3=>?_⟩
 ·rw [Qv h3];simp [zeroF,h3]
 rw [QC h3];simp only [Option.bind_some,not_true_eq_false,if_false,Bool.not_true,Bool.false_eq_true];rw [e_l06Then h.1 h.2 h3];simp [h3]
end
attribute [local simp] unk unA unE unT unC flat eL eI Qo Q2f Cone.cells
noncomputable def Q1V (p_:Cone):Option ByteArray :=
 (Q5i [[p_.a],p_.l]).bind fun v1 =>
 some v1
theorem Q5p (p_:Cone) (r:ByteArray) (h:Q1V p_=some r):Contract Try.prog 33 [.agg (p_.cells true)] (.val (.string r)):=by
 refine Q8 (rvs:=[.tmp 2]) (rs:=[.val (.string r)]) Try.func33 rfl rfl rfl rfl (by simp [Try.f33]) fun F hN hP=>?_;unfold Q1V at h;refine Q0 (runQ hN fun K hK=>?_);simp;repeat refine sdQ ?_
 refine hK _ ?_;clear hK K;refine tn (Q3 (st':=⟨[(1,.adr 0 0 0)],Y02 p_ [],1⟩) (Qn [(0,0)]) (Q0 (runQ hN fun K hK=>?_)));simp;repeat with_reducible refine sdQ ?_
 replace ⟨v1,hv1,h⟩:=bind_some h;refine Q1 (w_i_key _ v1 hv1) (.cons (.lits (es:=_) rfl (.cons rfl (.cons (.lits (es:=_) rfl (.cons rfl (.cons .val .nil) .nil) rfl) .nil) (.cons rfl (.cons .lst .nil) .nil)) rfl) .nil) ?_;simp;repeat refine sdQ ?_
 refine hK _ (tn (Q3 (st':=⟨[(2,.val (.string v1))],[],0⟩) (Qn []) (Qe ?_)));clear hK K;have hr:=Option.some.inj h;rw [← hr];refine ⟨_,(.tmp .nil),?_⟩;refine ⟨(.one rfl rfl .nil),[.val (.string v1)],[],by simp [Cone.cells,UA,U1,IA,I1,LA,L1,BA,B1,EA,E1,E2,eB,eI,eL],by simp,(UpL.refl _)⟩
attribute [local simp] unk unA unE unT unC flat eL eI Qo Q2f Q1l QS Cone.cells Fn.cells XMoved.cells
noncomputable def QQ (m_:XMoved):Option Bool :=
 (Qw (σ:=(List (ByteArray × List Cone)) × Int) (ε:=List (ByteArray × List Cone)) (fun s10 =>
  if s10.2<(m_.all_.length:Int) then
   ass (0≤s10.2∧s10.2<(m_.all_.length:Int)) <|
   (Q1O (gx m_.all_ s10.2) m_.f_).bind fun v13 =>
   (Q1V v13).bind fun v14 =>
   ass ((((Q1A v14 s10.1).getD [])++[(gx m_.all_ s10.2)]).length≤1073741824) <|
   ass (s10.1.length<1099511627776) <|
   ass (B64 (s10.2+1)) <|
   some (Ctl.next (tset v14 (((Q1A v14 s10.1).getD [])++[(gx m_.all_ s10.2)]) s10.1,s10.2+1))
  else
   some (Ctl.ret s10.1)) fuel ([],0)).bind fun b1 =>
 (Qw (σ:=Bool × Int) (ε:=Bool) (fun s30 =>
  if s30.2<(m_.more_.length:Int) then
   (
    ass (0≤s30.2∧s30.2<(m_.more_.length:Int)) <|
    (Q14 m_.image_ m_.more_ (gx m_.more_ s30.2)).bind fun v34 =>
    if ¬ (v34=true) then
     some s30.1
    else
     (Q1V (gx m_.more_ s30.2)).bind fun v36 =>
     if s30.1=true then
      if (((Q1A v36 b1).getD []).length:Int)=1 then
       ass ((0:Int)≤0∧0<(((Q1A v36 b1).getD []).length:Int)) <|
       (Q14 m_.d_ m_.all_ (gx ((Q1A v36 b1).getD []) 0)).bind fun v40 =>
       some v40
      else
       some false
     else
      some false:Option (Bool)).bind fun b32 =>
   ass (B64 (s30.2+1)) <|
   some (Ctl.next (b32,s30.2+1))
  else
   some (Ctl.ret s30.1)) fuel (true,0)).bind fun b19 =>
 some b19
@[simp] abbrev Y0 (a:XMoved) (b:List (Nat × AV)):List (Nat × AV):=(0,.rptr [iV a.d_.s.n,lI a.d_.s.fr,lI a.d_.s.to,lI a.d_.s.id,.lst true 1 (Ls a.d_.s.cs),iV a.d_.t.n,lI a.d_.t.fr,lI a.d_.t.to,lI a.d_.t.id,.lst true 1 (Ls a.d_.t.cs),lI a.d_.ob,lI a.d_.ar,iV a.image_.s.n,lI a.image_.s.fr,lI a.image_.s.to,lI a.image_.s.id,.lst true 1 (Ls a.image_.s.cs),iV a.image_.t.n,lI a.image_.t.fr,lI a.image_.t.to,lI a.image_.t.id,.lst true 1 (Ls a.image_.t.cs),lI a.image_.ob,lI a.image_.ar,.rptr (Fn.cells true a.f_),.lst true 2 (Es (Cone.cells true) a.all_),.lst true 2 (Es (Cone.cells true) a.more_)])::b
@[simp] abbrev YA (a:XMoved) (b:List (Nat × AV)):List (Nat × AV):=(40,.lst true 2 (Es (Cone.cells true) a.more_))::(41,iV (a.more_.length:Int))::b
@[simp] abbrev YI (a:XMoved) (b:List (Nat × AV)):List (Nat × AV):=(15,.lst true 2 (Es (Cone.cells true) a.all_))::(16,iV (a.all_.length:Int))::b
@[simp] abbrev YO (a:List (ByteArray × List Cone)) (b:List (Nat × Ent)):List (Nat × Ent):=(0,.mapE (.ext (Q6w .str (EF (Cone.cells true) 2 a))) [])::b
theorem Q4t (m_:XMoved) (r:Bool) (h:QQ m_=some r):Contract Try.prog 19 [.rptr (m_.cells true)] (.val (.bool r)):=by
 refine Q3h (rvs:=[.tmp 2]) (rs:=[.val (.bool r)]) Try.func19 rfl rfl rfl rfl (by simp [Try.f19]) fun F hN hP hW=>?_;unfold QQ at h;refine Q0 (runQ hN fun K hK=>?_);simp;repeat refine sdQ ?_
 refine hK _ ?_;clear hK K;refine tn (Q3 (st':=⟨Y0 m_ [],[],0⟩) (Qn []) (Q0 (Qk [] mo (by rw [hN];decide) fun K hK=>?_)));simp;repeat refine sdQ ?_
 refine hK _ ?_;clear hK K;refine tn (Q3 (st':=⟨Y0 m_ [(3,.mp 0)],[(0,.mapE .str ([]))],1⟩) (Qn [(0,0)]) (Q0 (Q0 (runQ hN fun K hK=>?_))));simp;repeat refine sdQ ?_
 refine hK _ (tn (Q3 (st':=⟨Y0 m_ ((3,.mp 0)::YI m_ [(17,iV 0)]),[(0,.mapE .str ([]))],1⟩) (Qn [(0,0)]) ?_));clear hK K;replace ⟨e1,h,h1⟩:=bind_some h;refine Qd (fun b1:List (ByteArray × List Cone)=>⟨Y0 m_ [(3,.mp 0)],[(0,.mapE (.ext (Q2i .str 2 (EL (Cone.cells true) b1))) [])],1⟩) (fun b1=>b1=e1) ?_ ?_
 ·refine Q3 (st':=⟨Y0 m_ ((3,.mp 0)::YI m_ [(17,iV 0)]),[(0,.mapE (.ext (Q2i .str 2 (EL (Cone.cells true) []))) [])],1⟩) (wk_newL (sz:=2) (Cone.cells true) (j:=0) rfl (by simp [St.get,look]) rfl (by simp [look])) (Q5 (Qt h (fun s10:(List (ByteArray × List Cone)) × Int=>⟨Y0 m_ ((3,.mp 0)::YI m_ [(17,iV s10.2)]),[(0,.mapE (.ext (Q2i .str 2 (EL (Cone.cells true) s10.1))) [])],1⟩) (Qn [(0,0)]) ?_));clear h;intro k10 s10 c10 h hk10;refine Q0 (runQ hN fun K hK=>?_);simp;repeat refine sdQ ?_
  refine hK _ ?_;clear hK K;refine tn (Q0 (Q6 rfl (fun g=>?_) fun g=>?_))
  ·have g11:s10.2<(m_.all_.length:Int):=gQ;clear g;replace h:=if_l g11 h;refine Q7 (tn (Q0 (Q5 (Q0 (runQ hN fun K hK=>?_)))));replace ⟨a12,h⟩:=Q2 h;simp [at_E (c:=(Cone.cells true)) a12];(repeat refine sdQ ?_);refine hK _ ?_;clear hK K;refine tn (Q3 (st':=⟨Y0 m_ ((3,.mp 0)::(5,.adr 1 0 0)::YI m_ [(17,iV s10.2)]),[(0,.mapE (.ext (Q2i .str 2 (EL (Cone.cells true) s10.1))) []),(1,.mix 2 [(Cone.cells true (gx m_.all_ s10.2))])],2⟩) (Qn [(0,0),(1,1)]) (Q0 (runQ hN fun K hK=>?_)));simp;(repeat with_reducible refine sdQ ?_);replace ⟨v13,hv13,h⟩:=bind_some h;refine Q1 (Q6t _ _ v13 hv13) (.cons (.aggL (.cons .val (.cons .lst .nil))) (.cons (.preT (by simp [Cone.cells,Fn.cells,XMoved.cells])) .nil)) ?_;simp;(repeat with_reducible refine sdQ ?_);replace ⟨v14,hv14,h⟩:=bind_some h;refine Q1 (Q5p _ v14 hv14) (.cons (.aggL (.cons .val (.cons .w .nil))) .nil) ?_;simp;(repeat refine sdQ ?_);refine hK _ ?_;clear hK K;refine tn (Q3 (st':=⟨Y0 m_ ((3,.mp 0)::(5,.adr 1 0 0)::(6,.val (.string v14))::YI m_ [(17,iV s10.2)]),[(0,.mapE (.ext (Q2i .str 2 (EL (Cone.cells true) s10.1))) []),(1,.mix 2 [(Cone.cells true (gx m_.all_ s10.2))])],2⟩) (Qn [(0,0),(1,1)]) (Q2h [35] mo (by rw [hN];decide) fun K hK=>?_));simp;(repeat with_reducible refine sdQ ?_);refine Q3K (fz:=[35]) (sem_takeE rfl rfl rfl mf_65 rfl (by simp)) ?_;replace ⟨a15,h⟩:=Q2 h;(try simp only [List.length_append,List.length_cons,List.length_nil] at a15);replace ⟨a17,h⟩:=Q2 h;simp [a15];repeat with_reducible refine sdQ ?_
   refine Q3K (fz:=[35]) (sem_putE (m:=4) (ys:=((Q1A v14 s10.1).getD [])++[(gx m_.all_ s10.2)]) rfl rfl rfl mf_65 rfl (by simp [St.ev,St.get,look]) (by simp [St.hp,look,EA,E1,Cone.cells,Fn.cells,XMoved.cells]) (by simp [Cone.cells,Fn.cells,XMoved.cells]) a17 (by simp) (by simp)) ?_;simp;(repeat refine sdQ ?_);refine hK _ ?_;clear hK K;refine bn (tn (Q3 (st':=⟨Y0 m_ ((3,.mp 0)::YI m_ [(17,iV s10.2)]),[(0,.mapE (.ext (Q2i .str 2 (EL (Cone.cells true) (tset v14 (((Q1A v14 s10.1).getD [])++[(gx m_.all_ s10.2)]) s10.1)))) [])],1⟩) (Qn [(0,0)]) (runQ hN fun K hK=>?_)));replace ⟨a18,h⟩:=Q2 h;simp [Qp a18];(repeat refine sdQ ?_);refine hK _ ?_;clear hK K;cases h;exact rn (s':=(tset v14 (((Q1A v14 s10.1).getD [])++[(gx m_.all_ s10.2)]) s10.1,s10.2+1)) hk10 (Qn [(0,0)])
  have g11:¬ (s10.2<(m_.all_.length:Int)):=gQ;clear g;replace h:=if_r g11 h;refine Qj (tx (lx (bh ?_)));cases h;exact jn (b:=s10.1) hk10 (Qn [(0,0)])
 intro b1 hb1;have h:=h1;try rw [← hb1] at h
 clear h1;try dsimp only at h
 refine Q0 (runQ hN fun K hK=>?_);simp;repeat refine sdQ ?_
 refine hK _ ?_;clear hK K;refine tn (Q3 (st':=⟨Y0 m_ [(3,.mp 0),(7,.val (.bool true))],[(0,.mapE (.ext (Q2i .str 2 (EL (Cone.cells true) b1))) [])],1⟩) (Qn [(0,0)]) (Q0 (Q0 (runQ hN fun K hK=>?_))));simp;repeat refine sdQ ?_
 refine hK _ (tn (Q3 (st':=⟨Y0 m_ ((3,.mp 0)::(7,.val (.bool true))::YA m_ [(42,iV 0)]),[(0,.mapE (.ext (Q2i .str 2 (EL (Cone.cells true) b1))) [])],1⟩) (Qn [(0,0)]) ?_));clear hK K;replace ⟨e19,h,h19⟩:=bind_some h;refine Qd (fun b19:Bool=>⟨[(3,.mp 0),(7,.val (.bool b19))],YO b1 [],1⟩) (fun b19=>b19=e19) ?_ ?_
 ·refine Q3 (st':=⟨Y0 m_ ((3,.mp 0)::(7,.val (.bool true))::YA m_ [(42,iV 0)]),YO b1 [],1⟩) (wk_frzE hW (j:=0) rfl (by simp [St.get,look]) rfl (by simp [look])) (Q5 (Qt h (fun s30:Bool × Int=>⟨Y0 m_ ((3,.mp 0)::(7,.val (.bool s30.1))::YA m_ [(42,iV s30.2)]),YO b1 [],1⟩) (Qn [(0,0)]) ?_));clear h;intro k30 s30 c30 h hk30;refine Q0 (runQ hN fun K hK=>?_);simp;repeat refine sdQ ?_
  refine hK _ ?_;clear hK K;refine tn (Q0 (Q6 rfl (fun g=>?_) fun g=>?_))
  ·have g31:s30.2<(m_.more_.length:Int):=gQ;clear g;replace h:=if_l g31 h;refine Q7 (tn (Q0 ?_));replace ⟨e32,h,h32⟩:=bind_some h;refine Qd (fun b32:Bool=>⟨Y0 m_ ((3,.mp 0)::(7,.val (.bool b32))::YA m_ [(42,iV s30.2)]),YO b1 [],1⟩) (fun b32=>b32=e32) ?_ ?_
   ·refine Q5 (Q0 (runQ hN fun K hK=>?_));replace ⟨a33,h⟩:=Q2 h;simp [at_E (c:=(Cone.cells true)) a33];(repeat refine sdQ ?_);refine hK _ ?_;clear hK K;refine tn (Q3 (st':=⟨Y0 m_ ((3,.mp 0)::(7,.val (.bool s30.1))::(9,.adr 1 0 0)::YA m_ [(42,iV s30.2)]),YO b1 [(1,.mix 2 [(Cone.cells true (gx m_.more_ s30.2))])],2⟩) (Qn [(0,0),(1,1)]) (Q0 (Q0 (runQ hN fun K hK=>?_))));simp;(repeat with_reducible refine sdQ ?_);replace ⟨v34,hv34,h⟩:=bind_some h;refine Q1 (Q3B _ _ _ v34 hv34) (.cons (.preT (by simp [Cone.cells,Fn.cells,XMoved.cells])) (.cons .lst (.cons (.aggL (.cons .val (.cons .lst .nil))) .nil))) ?_;simp;(repeat refine sdQ ?_);refine hK _ ?_;clear hK K;refine tn (Q3 (st':=⟨Y0 m_ ((3,.mp 0)::(7,.val (.bool s30.1))::(9,.adr 1 0 0)::YA m_ [(42,iV s30.2),(55,.val (.bool (!v34)))]),YO b1 [(1,.mix 2 [(Cone.cells true (gx m_.more_ s30.2))])],2⟩) (Qn [(0,0),(1,1)]) (Q6 rfl (fun g=>?_) fun g=>?_))
    ·have g35:¬ (v34=true):=gQ;clear g;replace h:=if_l g35 h;refine Qj (tx (bh ?_));exact jn (b:=s30.1) (Option.some.inj h) (Qn [(0,0)])
    have g35:¬ (¬ (v34=true)):=gQ;clear g;replace h:=if_r g35 h;refine Q7 (tn (Q0 (Q2h [] mo (by rw [hN];decide) fun K hK=>?_)));simp;(repeat with_reducible refine sdQ ?_);replace ⟨v36,hv36,h⟩:=bind_some h;refine QD (fz:=[]) (Q5p _ v36 hv36) (.cons (.aggL (.cons .val (.cons .lst .nil))) .nil) ?_;simp;(repeat with_reducible refine sdQ ?_);refine Q3K (fz:=[]) (Q8Z rfl rfl rfl mf_65 rfl) ?_;simp;(repeat refine sdQ ?_);refine hK _ ?_;clear hK K;refine tn (Q3 (st':=⟨Y0 m_ ((3,.mp 0)::(7,.val (.bool s30.1))::(10,.lst true 2 (Es (Cone.cells true) ((Q1A v36 b1).getD [])))::YA m_ [(42,iV s30.2)]),YO b1 [],1⟩) (Qn [(0,0)]) (runQ hN fun K hK=>?_));simp;(repeat with_reducible refine sdQ ?_);refine Qh (fun g=>?_) (fun g=>?_)
    ·have g37:s30.1=true:=gQ;clear g;replace h:=if_l g37 h;simp;(repeat with_reducible refine sdQ ?_);refine Qh (fun g=>?_) (fun g=>?_)
     ·have g38:(((Q1A v36 b1).getD []).length:Int)=1:=gQ;clear g;replace h:=if_l g38 h;replace ⟨a39,h⟩:=Q2 h;simp [(show (Es (Cone.cells true) ((Q1A v36 b1).getD []))[0]? = some ((Cone.cells true) (gx ((Q1A v36 b1).getD []) 0)) from at_E (j:=0) a39)];(repeat with_reducible refine sdQ ?_);replace ⟨v40,hv40,h⟩:=bind_some h;refine Q1 (Q3B _ _ _ v40 hv40) (.cons (.preT (by simp [Cone.cells,Fn.cells,XMoved.cells])) (.cons .lst (.cons (.aggL (.cons .val (.cons .lst .nil))) .nil))) ?_;simp;(repeat refine sdQ ?_);refine hK _ (bn ?_);clear hK K;exact jn (b:=v40) (Option.some.inj h) (Qn [(0,0)])
     have g38:¬ ((((Q1A v36 b1).getD []).length:Int)=1):=gQ;clear g;replace h:=if_r g38 h;simp;(repeat refine sdQ ?_);refine hK _ (bn ?_);clear hK K;exact jn (b:=false) (Option.some.inj h) (Qn [(0,0)])
    have g37:¬ (s30.1=true):=gQ;clear g;replace h:=if_r g37 h;simp;(repeat refine sdQ ?_);refine hK _ (bn ?_);clear hK K;exact jn (b:=false) (Option.some.inj h) (Qn [(0,0)])
   intro b32 hb32;have h:=h32;(try rw [← hb32] at h);clear h32;(try dsimp only at h);refine runQ hN fun K hK=>?_;replace ⟨a41,h⟩:=Q2 h;simp [Qp a41];(repeat refine sdQ ?_);refine hK _ ?_;clear hK K;cases h;exact rn (s':=(b32,s30.2+1)) hk30 (Qn [(0,0)])
  have g31:¬ (s30.2<(m_.more_.length:Int)):=gQ;clear g;replace h:=if_r g31 h;refine Qj (tx (lx (bh ?_)));cases h;exact jn (b:=s30.1) hk30 (Qn [(0,0)])
 intro b19 hb19;have h:=h19;try rw [← hb19] at h
 clear h19;try dsimp only at h
 refine Q0 (Q2h [] mo (by rw [hN];decide) fun K hK=>?_);simp;repeat with_reducible refine sdQ ?_
 refine Q3K (fz:=[]) (Q8Y rfl rfl rfl un_65 (by simp)) ?_;simp;repeat refine sdQ ?_
 refine hK _ ?_;clear hK K;refine tn (Q3 (st':=⟨[(7,.val (.bool b19))],[],0⟩) (Qn []) (Q0 (runQ hN fun K hK=>?_)));simp;repeat refine sdQ ?_
 refine hK _ (tn (Q3 (st':=⟨[(2,.val (.bool b19))],[],0⟩) (Qn []) (Qe ?_)));clear hK K;have hr:=Option.some.inj h;rw [← hr];refine ⟨_,(.tmp .nil),?_⟩;refine ⟨(.one rfl rfl .nil),[.val (.bool b19)],[],by simp [Cone.cells,Fn.cells,XMoved.cells,UA,U1,IA,I1,LA,L1,BA,B1,EA,E1,E2,eB,eI,eL,Qa _ QS _ (fun _=>rfl),Qa _ (Cone.cells true) _ (fun _=>rfl)],by simp,(UpL.refl _)⟩
end Go.Vc.T
