/- A part of the proof: a verified generator of conditions, and what each function of the program does. -/
import Derived.Test.YtoaahhbohijaiaaR9
set_option maxRecDepth 100000
set_option maxHeartbeats 4000000
set_option linter.unusedSimpArgs false
set_option linter.unusedVariables false

namespace Go.Vc.T
open Go Go.Vc Go.Proofs
attribute [local simp] eL eI Qs
noncomputable def Q2q (n_:Int) (pairs_:List (List Int)):Option (List Int) :=
 (Qy (σ:=List Int × Int) (ε:=List Int) (fun s5 =>
  if s5.2<n_ then
   ass ((s5.1++[s5.2]).length≤1073741824) <|
   ass (B64 (s5.2+1)) <|
   some (Ctl.next (s5.1++[s5.2],s5.2+1))
  else
   some (Ctl.ret s5.1)) fuel ([],0)).bind fun b1 =>
 (Qy (σ:=List Int × Int) (ε:=List Int) (fun s36 =>
  if s36.2<(pairs_.length:Int) then
   (
    ass (0≤s36.2∧s36.2<(pairs_.length:Int)) <|
    ass ((0:Int)≤0∧0<((rx pairs_ s36.2).length:Int)) <|
    ass (0≤ix (rx pairs_ s36.2) 0∧ix (rx pairs_ s36.2) 0<(s36.1.length:Int)) <|
    ass (0≤s36.2∧s36.2<(pairs_.length:Int)) <|
    ass ((0:Int)≤1∧1<((rx pairs_ s36.2).length:Int)) <|
    ass (0≤ix (rx pairs_ s36.2) 1∧ix (rx pairs_ s36.2) 1<(s36.1.length:Int)) <|
    (Qy (σ:=List Int × Int) (ε:=List Int) (fun s53 =>
     (
      if s53.2<(s53.1.length:Int) then
       some ((ix s36.1 (ix (rx pairs_ s36.2) 0)) != (ix s36.1 (ix (rx pairs_ s36.2) 1)))
      else
       some false:Option (Bool)).bind fun b54 =>
     if b54=true then
      (
       ass (0≤s53.2∧s53.2<(s53.1.length:Int)) <|
       if (ix s53.1 s53.2)=(ix s36.1 (ix (rx pairs_ s36.2) 1)) then
        ass (0≤s53.2∧s53.2<(s53.1.length:Int)) <|
        some (s53.1.set s53.2.toNat (ix s36.1 (ix (rx pairs_ s36.2) 0)))
       else
        some s53.1:Option (List Int)).bind fun b57 =>
      ass (B64 (s53.2+1)) <|
      some (Ctl.next (b57,s53.2+1))
     else
      some (Ctl.ret s53.1)) fuel (s36.1,0)).bind fun p53 =>
    some p53:Option (List Int)).bind fun b38 =>
   ass (B64 (s36.2+1)) <|
   some (Ctl.next (b38,s36.2+1))
  else
   some (Ctl.ret s36.1)) fuel (b1,0)).bind fun b9 =>
 (Q1r b9).bind fun v63 =>
 some v63
theorem Qh {F : Fx} {st st' : St} (m : List (Nat × Nat)) (h : (m.map Prod.fst).Nodup ∧ (m.map Prod.snd).Nodup ∧ (∀ id, id < F.pins → look id m = some id) ∧ (∀ p ∈ m, p.2 < st'.n) ∧ (∀ p ∈ st'.h, p.1 < st'.n) ∧ (∀ p ∈ st'.s, p.2 = rl m (st.get p.1) ∨ p.2 = .bot) ∧ ∀ p ∈ st'.h, hhOk m st.h p.1 p.2 := by simp [hP, hhOk, back, UA, U1, IA, I1, LA, L1, BA, B1, EA, E1, E2, eB, eI, eL, Cat.cells, Fn.cells, Cone.cells, Qg _ (Cone.cells true) _ (fun _=>rfl), XMoved.cells, Qg _ QG _ (fun _=>rfl)]) : Wk F st st' := Wk.r1 m h
theorem Q7u (n_:Int) (pairs_:List (List Int)) (r:List Int) (h:Q2q n_ pairs_=some r):Contract Try.prog 174 [iV n_,.lst true 1 (Ls pairs_)] (lI r):=by
 refine Qe (rvs:=[.tmp 4]) (rs:=[lI r]) Try.func174 rfl rfl rfl rfl (by simp [Try.f174]) fun F hN hP=>?_;unfold Q2q at h;refine Q3 ?_;refine runQ hN fun K hK=>?_;simp [-Q0,-Q5,-Q1,-Q6,-Q2];repeat refine sdQ ?_
 refine hK _ ?_;clear hK K;refine tn ?_;refine Q8 (st':=⟨[(0,iV n_),(1,.lst true 1 (Ls pairs_))],[],0⟩) (Qh []) ?_;refine Q3 ?_;refine runQ hN fun K hK=>?_;simp [-Q0,-Q5,-Q1,-Q6,-Q2];repeat refine sdQ ?_
 refine hK _ ?_;clear hK K;refine tn ?_;refine Q8 (st':=⟨[(0,iV n_),(1,.lst true 1 (Ls pairs_)),(5,.own 0 0 0)],[(0,.mix 1 [])],1⟩) (Qh [(0,0)]) ?_;refine Q3 ?_;refine Q3 ?_;refine runQ hN fun K hK=>?_;simp [-Q0,-Q5,-Q1,-Q6,-Q2];repeat refine sdQ ?_
 refine hK _ ?_;clear hK K;refine tn ?_;refine Q8 (st':=⟨[(0,iV n_),(1,.lst true 1 (Ls pairs_)),(5,.own 0 0 0),(6,iV 0)],[(0,.mix 1 [])],1⟩) (Qh [(0,0)]) ?_;replace h:=bind_some h;obtain ⟨e1,h,h1⟩:=h;refine Qk (fun b1:List Int=>⟨[(1,.lst true 1 (Ls pairs_)),(5,.own 0 0 b1.length)],[(0,rI b1)],1⟩) (fun b1=>b1=e1) ?_ ?_
 ·refine Qa ?_;refine Qx h (fun s5:List Int × Int=>⟨[(0,iV n_),(1,.lst true 1 (Ls pairs_)),(5,.own 0 0 s5.1.length),(6,iV s5.2)],[(0,rI s5.1)],1⟩) (Q3m ⟨[(0,iV n_),(1,.lst true 1 (Ls pairs_)),(5,.own 0 0 0),(6,iV 0)],[(0,rI [])],1⟩ (Wk.nils [] (by simp) (by simp) (by simp [nlA]) (by simp [entN,nlL,nlA,UA,U1,IA,I1,LA,L1,BA,B1,EA,E1,E2,eB,eI,eL]) (by simp)) (Qh [(0,0)])) ?_;clear h;intro k5 s5 c5 h hk5;refine Q3 ?_;refine Q3 ?_;refine runQ hN fun K hK=>?_;simp [-Q0,-Q5,-Q1,-Q6,-Q2];repeat refine sdQ ?_
  refine hK _ ?_;clear hK K;refine tn ?_;refine Q8 (st':=⟨[(0,iV n_),(1,.lst true 1 (Ls pairs_)),(5,.own 0 0 s5.1.length),(6,iV s5.2),(14,.val (.bool (decide (s5.2<n_))))],[(0,rI s5.1)],1⟩) (Qh [(0,0)]) ?_;refine Qc rfl (fun g=>?_) fun g=>?_
  ·have g6:s5.2<n_:=gQ;clear g;replace h:=if_l g6 h;refine Qd ?_;refine tn ?_;refine Q3 ?_;refine Qa ?_;refine runQ hN fun K hK=>?_;replace h:=Q7 h;obtain ⟨a7,h⟩:=h;(try simp only [List.length_append,List.length_cons,List.length_nil] at a7);simp [-Q0,-Q5,-Q1,-Q6,-Q2,a7];(repeat refine sdQ ?_);refine hK _ ?_;clear hK K;refine bn ?_;refine tn ?_;refine Q8 (st':=⟨[(0,iV n_),(1,.lst true 1 (Ls pairs_)),(5,.own 0 0 ((s5.1++[s5.2]).length)),(6,iV s5.2)],[(0,rI (s5.1++[s5.2]))],1⟩) (Qh [(2,0)]) ?_;refine runQ hN fun K hK=>?_;replace h:=Q7 h;obtain ⟨a8,h⟩:=h;simp [-Q0,-Q5,-Q1,-Q6,-Q2,Qu a8];(repeat refine sdQ ?_);refine hK _ ?_;clear hK K;cases h;exact rn (s':=(s5.1++[s5.2],s5.2+1)) hk5 (Qh [(0,0)])
  have g6:¬ (s5.2<n_):=gQ;clear g;replace h:=if_r g6 h;refine Qp ?_;refine tx ?_;refine lx ?_;refine bh ?_;cases h;exact jn (b:=s5.1) hk5 (Qh [(0,0)])
 intro b1 hb1;have h:=h1;try rw [← hb1] at h
 clear h1;try dsimp only at h
 refine Q3 ?_;refine Q3 ?_;refine runQ hN fun K hK=>?_;simp [-Q0,-Q5,-Q1,-Q6,-Q2];repeat refine sdQ ?_
 refine hK _ ?_;clear hK K;refine tn ?_;refine Q8 (st':=⟨[(1,.lst true 1 (Ls pairs_)),(5,.own 0 0 b1.length),(7,iV 0)],[(0,rI b1)],1⟩) (Qh [(0,0)]) ?_;replace h:=bind_some h;obtain ⟨e9,h,h9⟩:=h;refine Qk (fun b9:List Int=>⟨[(5,.own 0 0 b9.length)],[(0,rI b9)],1⟩) (fun b9=>b9=e9) ?_ ?_
 ·refine Qa ?_;refine Qx h (fun s36:List Int × Int=>⟨[(1,.lst true 1 (Ls pairs_)),(5,.own 0 0 s36.1.length),(7,iV s36.2)],[(0,rI s36.1)],1⟩) (Qh [(0,0)]) ?_;clear h;intro k36 s36 c36 h hk36;refine Q3 ?_;refine Q3 ?_;refine runQ hN fun K hK=>?_;simp [-Q0,-Q5,-Q1,-Q6,-Q2];repeat refine sdQ ?_
  refine hK _ ?_;clear hK K;refine tn ?_;refine Q8 (st':=⟨[(1,.lst true 1 (Ls pairs_)),(5,.own 0 0 s36.1.length),(7,iV s36.2),(24,.val (.bool (decide (s36.2<(pairs_.length:Int)))))],[(0,rI s36.1)],1⟩) (Qh [(0,0)]) ?_;refine Qc rfl (fun g=>?_) fun g=>?_
  ·have g37:s36.2<(pairs_.length:Int):=gQ;clear g;replace h:=if_l g37 h;refine Qd ?_;refine tn ?_;refine Q3 ?_;replace h:=bind_some h;obtain ⟨e38,h,h38⟩:=h;refine Qk (fun b38:List Int=>⟨[(1,.lst true 1 (Ls pairs_)),(5,.own 0 0 b38.length),(7,iV s36.2)],[(0,rI b38)],1⟩) (fun b38=>b38=e38) ?_ ?_
   ·refine Qa ?_;refine Q3 ?_;refine runQ hN fun K hK=>?_;replace h:=Q7 h;obtain ⟨a39,h⟩:=h;replace h:=Q7 h;obtain ⟨a40,h⟩:=h;replace h:=Q7 h;obtain ⟨a41,h⟩:=h;replace h:=Q7 h;obtain ⟨a42,h⟩:=h;replace h:=Q7 h;obtain ⟨a43,h⟩:=h;replace h:=Q7 h;obtain ⟨a44,h⟩:=h;simp [-Q0,-Q5,-Q1,-Q6,-Q2,at_L a39,(show (Is (rx pairs_ s36.2))[0]? = some [iV (ix (rx pairs_ s36.2) 0)] from at_I (j:=0) a40),at_I a41,at_L a42,(show (Is (rx pairs_ s36.2))[1]? = some [iV (ix (rx pairs_ s36.2) 1)] from at_I (j:=1) a43),at_I a44];(repeat refine sdQ ?_);refine hK _ ?_;clear hK K;refine tn ?_;refine Q8 (st':=⟨[(1,.lst true 1 (Ls pairs_)),(5,.own 0 0 s36.1.length),(7,iV s36.2),(8,iV (ix s36.1 (ix (rx pairs_ s36.2) 0))),(9,iV (ix s36.1 (ix (rx pairs_ s36.2) 1)))],[(0,rI s36.1)],1⟩) (Qh [(0,0)]) ?_;refine Q3 ?_;refine runQ hN fun K hK=>?_;simp [-Q0,-Q5,-Q1,-Q6,-Q2];(repeat refine sdQ ?_);refine hK _ ?_;clear hK K;refine tn ?_;refine Q8 (st':=⟨[(1,.lst true 1 (Ls pairs_)),(5,.own 0 0 s36.1.length),(7,iV s36.2),(8,iV (ix s36.1 (ix (rx pairs_ s36.2) 0))),(9,iV (ix s36.1 (ix (rx pairs_ s36.2) 1))),(10,iV 0)],[(0,rI s36.1)],1⟩) (Qh [(0,0)]) ?_;refine Qa ?_;replace h:=bind_some h;obtain ⟨e53,he53,h53⟩:=h;refine Qx he53 (fun s53:List Int × Int=>⟨[(1,.lst true 1 (Ls pairs_)),(5,.own 0 0 s53.1.length),(7,iV s36.2),(8,iV (ix s36.1 (ix (rx pairs_ s36.2) 0))),(9,iV (ix s36.1 (ix (rx pairs_ s36.2) 1))),(10,iV s53.2)],[(0,rI s53.1)],1⟩) (Qh [(0,0)]) ?_;intro k53 s53 c53 h hk53;refine Q3 ?_;refine Q3 ?_;replace h:=bind_some h;obtain ⟨e54,h,h54⟩:=h;refine Qk (fun b54:Bool=>⟨[(1,.lst true 1 (Ls pairs_)),(5,.own 0 0 s53.1.length),(7,iV s36.2),(8,iV (ix s36.1 (ix (rx pairs_ s36.2) 0))),(9,iV (ix s36.1 (ix (rx pairs_ s36.2) 1))),(10,iV s53.2),(53,.val (.bool b54))],[(0,rI s53.1)],1⟩) (fun b54=>b54=e54) ?_ ?_
    ·refine runQ hN fun K hK=>?_;simp [-Q0,-Q5,-Q1,-Q6,-Q2];(repeat with_reducible refine sdQ ?_);refine Qo (fun g=>?_) (fun g=>?_)
     ·have g55:s53.2<(s53.1.length:Int):=gQ;clear g;replace h:=if_l g55 h;simp [-Q0,-Q5,-Q1,-Q6,-Q2];(repeat refine sdQ ?_);refine hK _ ?_;exact jn (b:=(ix s36.1 (ix (rx pairs_ s36.2) 0)) != (ix s36.1 (ix (rx pairs_ s36.2) 1))) (Option.some.inj h) (Qh [(0,0)])
     have g55:¬ (s53.2<(s53.1.length:Int)):=gQ;clear g;replace h:=if_r g55 h;simp [-Q0,-Q5,-Q1,-Q6,-Q2];(repeat refine sdQ ?_);refine hK _ ?_;exact jn (b:=false) (Option.some.inj h) (Qh [(0,0)])
    intro b54 hb54;have h:=h54;(try rw [← hb54] at h);clear h54;(try dsimp only at h);refine Qc rfl (fun g=>?_) fun g=>?_
    ·have g56:b54=true:=gQ;clear g;replace h:=if_l g56 h;refine Qd ?_;refine tn ?_;refine Q3 ?_;replace h:=bind_some h;obtain ⟨e57,h,h57⟩:=h;refine Qk (fun b57:List Int=>⟨[(1,.lst true 1 (Ls pairs_)),(5,.own 0 0 b57.length),(7,iV s36.2),(8,iV (ix s36.1 (ix (rx pairs_ s36.2) 0))),(9,iV (ix s36.1 (ix (rx pairs_ s36.2) 1))),(10,iV s53.2)],[(0,rI b57)],1⟩) (fun b57=>b57=e57) ?_ ?_
     ·refine Qa ?_;refine Q3 ?_;refine runQ hN fun K hK=>?_;replace h:=Q7 h;obtain ⟨a58,h⟩:=h;simp [-Q0,-Q5,-Q1,-Q6,-Q2,at_I a58];(repeat refine sdQ ?_);refine hK _ ?_;clear hK K;refine tn ?_;refine Q8 (st':=⟨[(1,.lst true 1 (Ls pairs_)),(5,.own 0 0 s53.1.length),(7,iV s36.2),(8,iV (ix s36.1 (ix (rx pairs_ s36.2) 0))),(9,iV (ix s36.1 (ix (rx pairs_ s36.2) 1))),(10,iV s53.2),(61,.val (.bool ((ix s53.1 s53.2) == (ix s36.1 (ix (rx pairs_ s36.2) 1)))))],[(0,rI s53.1)],1⟩) (Qh [(0,0)]) ?_;refine Qc rfl (fun g=>?_) fun g=>?_
      ·have g59:(ix s53.1 s53.2)=(ix s36.1 (ix (rx pairs_ s36.2) 1)):=gQ;clear g;replace h:=if_l g59 h;refine runQ hN fun K hK=>?_;replace h:=Q7 h;obtain ⟨a60,h⟩:=h;simp [-Q0,-Q5,-Q1,-Q6,-Q2,at_I a60];(repeat refine sdQ ?_);refine hK _ ?_;clear hK K;refine bn ?_;exact jn (b:=s53.1.set s53.2.toNat (ix s36.1 (ix (rx pairs_ s36.2) 0))) (Option.some.inj h) (Qh [(0,0)])
      have g59:¬ ((ix s53.1 s53.2)=(ix s36.1 (ix (rx pairs_ s36.2) 1))):=gQ;clear g;replace h:=if_r g59 h;refine Qd ?_;refine bn ?_;exact jn (b:=s53.1) (Option.some.inj h) (Qh [(0,0)])
     intro b57 hb57;have h:=h57;(try rw [← hb57] at h);clear h57;(try dsimp only at h);refine runQ hN fun K hK=>?_;replace h:=Q7 h;obtain ⟨a61,h⟩:=h;simp [-Q0,-Q5,-Q1,-Q6,-Q2,Qu a61];(repeat refine sdQ ?_);refine hK _ ?_;clear hK K;cases h;exact rn (s':=(b57,s53.2+1)) hk53 (Qh [(0,0)])
    have g56:¬ (b54=true):=gQ;clear g;replace h:=if_r g56 h;refine Qp ?_;refine tx ?_;refine lx ?_;refine bh ?_;refine bn ?_;cases h;have q:_=e53:=hk53;have h:=h53;rw [← q] at h;clear q;(try dsimp only at h);exact jn (b:=s53.1) (Option.some.inj h) (Qh [(0,0)])
   intro b38 hb38;have h:=h38;(try rw [← hb38] at h);clear h38;(try dsimp only at h);refine runQ hN fun K hK=>?_;replace h:=Q7 h;obtain ⟨a62,h⟩:=h;simp [-Q0,-Q5,-Q1,-Q6,-Q2,Qu a62];(repeat refine sdQ ?_);refine hK _ ?_;clear hK K;cases h;exact rn (s':=(b38,s36.2+1)) hk36 (Qh [(0,0)])
  have g37:¬ (s36.2<(pairs_.length:Int)):=gQ;clear g;replace h:=if_r g37 h;refine Qp ?_;refine tx ?_;refine lx ?_;refine bh ?_;cases h;exact jn (b:=s36.1) hk36 (Qh [(0,0)])
 intro b9 hb9;have h:=h9;try rw [← hb9] at h
 clear h9;try dsimp only at h
 refine Q3 ?_;refine runQ hN fun K hK=>?_;simp [-Q0,-Q5,-Q1,-Q6,-Q2];repeat with_reducible refine sdQ ?_
 replace h:=bind_some h;obtain ⟨v63,hv63,h⟩:=h;refine Q4 (Q5e _ v63 hv63) (.cons (.whole (by simp) (by simp) (by simp)) .nil) ?_;simp [-Q0,-Q5,-Q1,-Q6,-Q2,unk,unA,unE,unT,unC,flat];repeat refine sdQ ?_
 refine hK _ ?_;clear hK K;refine tn ?_;refine Q8 (st':=⟨[(4,.own 0 0 v63.length)],[(0,rI v63)],1⟩) (Qh [(1,0)]) ?_;refine Qi ?_;have hr:=Option.some.inj h;rw [← hr];refine ⟨_,(.tmp .nil),?_⟩;refine ⟨(.one rfl rfl .nil),[lI v63],[0],by simp [UA,U1,IA,I1,LA,L1,BA,B1,EA,E1,E2,eB,eI,eL],by simp,(UpL.refl _)⟩
attribute [local simp] eL eI Qs QH QZ Cat.cells Fn.cells
noncomputable def Q2t (f_:Fn) (g_:Fn) (iso_:Bool) (most_:Int):Option (List (List Int)) :=
 (Qy (σ:=List (List Int) × Int) (ε:=List (List Int)) (fun s7 =>
  if s7.2<(f_.s.fr.length:Int) then
   ass (0≤s7.2∧s7.2<(f_.s.fr.length:Int)) <|
   ass (0≤s7.2∧s7.2<(f_.s.to.length:Int)) <|
   ass ((s7.1++[[ix f_.s.fr s7.2,ix f_.s.to s7.2]]).length≤1073741824) <|
   ass (B64 (s7.2+1)) <|
   some (Ctl.next (s7.1++[[ix f_.s.fr s7.2,ix f_.s.to s7.2]],s7.2+1))
  else
   some (Ctl.ret s7.1)) fuel ([],0)).bind fun b1 =>
 (Q2q f_.s.n b1).bind fun v13 =>
 (Qy (σ:=List Int × Int) (ε:=(List Int) ⊕ (List (List Int))) (fun s36 =>
  if s36.2<(v13.length:Int) then
   ass ((s36.1++[(-1)]).length≤1073741824) <|
   (Qy (σ:=List Int × Int) (ε:=List Int) (fun s47 =>
    if s47.2<(v13.length:Int) then
     (
      ass (0≤s47.2∧s47.2<(v13.length:Int)) <|
      if (ix v13 s47.2)=s36.2 then
       ass ((s47.1++[(-1)]).length≤1073741824) <|
       some (s47.1++[(-1)])
      else
       ass ((s47.1++[(-2)]).length≤1073741824) <|
       some (s47.1++[(-2)]):Option (List Int)).bind fun b49 =>
     ass (B64 (s47.2+1)) <|
     some (Ctl.next (b49,s47.2+1))
    else
     some (Ctl.ret s47.1)) fuel ([],0)).bind fun b39 =>
   (QO 100 f_ g_ iso_ 1 [] b39).bind fun v55 =>
   if (v55.length:Int)=0 then
    some (Ctl.ret (Sum.inr []))
   else
    ass (B64 (s36.2+1)) <|
    some (Ctl.next (s36.1++[(-1)],s36.2+1))
  else
   some (Ctl.ret (Sum.inl s36.1))) fuel ([],0)).bind fun e14 =>
 match e14 with
 | .inl b14 =>
  (QO 100 f_ g_ iso_ most_ [] b14).bind fun v58 =>
  some v58
 | .inr p14 =>
  some p14
theorem Q7y (f_:Fn) (g_:Fn) (iso_:Bool) (most_:Int) (r:List (List Int)) (h:Q2t f_ g_ iso_ most_=some r):Contract Try.prog 157 [.agg (f_.cells true),.agg (g_.cells true),.val (.bool iso_),iV most_] (.lst true 1 (Ls r)):=by
 refine Qe (rvs:=[.tmp 8]) (rs:=[.lst true 1 (Ls r)]) Try.func157 rfl rfl rfl rfl (by simp [Try.f157]) fun F hN hP=>?_;unfold Q2t at h;refine Q3 ?_;refine runQ hN fun K hK=>?_;simp [-Q0,-Q5,-Q1,-Q6,-Q2];repeat refine sdQ ?_
 refine hK _ ?_;clear hK K;refine tn ?_;refine Q8 (st':=⟨[(2,.val (.bool iso_)),(3,iV most_),(4,.adr 0 0 0),(5,.adr 1 0 0)],[(0,.mix 12 [(Fn.cells true f_)]),(1,.mix 12 [(Fn.cells true g_)])],2⟩) (Qh [(0,0),(1,1)]) ?_;refine Q3 ?_;refine runQ hN fun K hK=>?_;simp [-Q0,-Q5,-Q1,-Q6,-Q2];repeat refine sdQ ?_
 refine hK _ ?_;clear hK K;refine tn ?_;refine Q8 (st':=⟨[(2,.val (.bool iso_)),(3,iV most_),(4,.adr 0 0 0),(5,.adr 1 0 0),(9,.adr 2 0 0)],[(0,.mix 12 [(Fn.cells true f_)]),(1,.mix 12 [(Fn.cells true g_)]),(2,.mix 5 [(Cat.cells true f_.s)])],3⟩) (Qh [(0,0),(1,1),(2,2)]) ?_;refine Q3 ?_;refine runQ hN fun K hK=>?_;simp [-Q0,-Q5,-Q1,-Q6,-Q2];repeat refine sdQ ?_
 refine hK _ ?_;clear hK K;refine tn ?_;refine Q8 (st':=⟨[(2,.val (.bool iso_)),(3,iV most_),(4,.adr 0 0 0),(5,.adr 1 0 0),(9,.adr 2 0 0),(10,.own 3 0 0)],[(0,.mix 12 [(Fn.cells true f_)]),(1,.mix 12 [(Fn.cells true g_)]),(2,.mix 5 [(Cat.cells true f_.s)]),(3,.mix 1 [])],4⟩) (Qh [(0,0),(1,1),(2,2),(3,3)]) ?_;refine Q3 ?_;refine Q3 ?_;refine runQ hN fun K hK=>?_;simp [-Q0,-Q5,-Q1,-Q6,-Q2];repeat refine sdQ ?_
 refine hK _ ?_;clear hK K;refine tn ?_;refine Q8 (st':=⟨[(2,.val (.bool iso_)),(3,iV most_),(4,.adr 0 0 0),(5,.adr 1 0 0),(9,.adr 2 0 0),(10,.own 3 0 0),(11,iV 0)],[(0,.mix 12 [(Fn.cells true f_)]),(1,.mix 12 [(Fn.cells true g_)]),(2,.mix 5 [(Cat.cells true f_.s)]),(3,.mix 1 [])],4⟩) (Qh [(0,0),(1,1),(2,2),(3,3)]) ?_;replace h:=bind_some h;obtain ⟨e1,h,h1⟩:=h;refine Qk (fun b1:List (List Int)=>⟨[(2,.val (.bool iso_)),(3,iV most_),(4,.adr 0 0 0),(5,.adr 1 0 0),(9,.adr 2 0 0),(10,.own 3 0 b1.length)],[(0,.mix 12 [(Fn.cells true f_)]),(1,.mix 12 [(Fn.cells true g_)]),(2,.mix 5 [(Cat.cells true f_.s)]),(3,.row 1 (Ls b1))],4⟩) (fun b1=>b1=e1) ?_ ?_
 ·refine Qa ?_;refine Qx h (fun s7:List (List Int) × Int=>⟨[(2,.val (.bool iso_)),(3,iV most_),(4,.adr 0 0 0),(5,.adr 1 0 0),(9,.adr 2 0 0),(10,.own 3 0 s7.1.length),(11,iV s7.2)],[(0,.mix 12 [(Fn.cells true f_)]),(1,.mix 12 [(Fn.cells true g_)]),(2,.mix 5 [(Cat.cells true f_.s)]),(3,.row 1 (Ls s7.1))],4⟩) (Q3m ⟨[(2,.val (.bool iso_)),(3,iV most_),(4,.adr 0 0 0),(5,.adr 1 0 0),(9,.adr 2 0 0),(10,.own 3 0 0),(11,iV 0)],[(0,.mix 12 [(Fn.cells true f_)]),(1,.mix 12 [(Fn.cells true g_)]),(2,.mix 5 [(Cat.cells true f_.s)]),(3,.row 1 (Ls []))],4⟩ (Wk.nils [] (by simp) (by simp) (by simp [nlA]) (by simp [entN,nlL,nlA,Cat.cells,Fn.cells,UA,U1,IA,I1,LA,L1,BA,B1,EA,E1,E2,eB,eI,eL]) (by simp)) (Qh [(0,0),(1,1),(2,2),(3,3)])) ?_;clear h;intro k7 s7 c7 h hk7;refine Q3 ?_;refine Q3 ?_;refine runQ hN fun K hK=>?_;simp [-Q0,-Q5,-Q1,-Q6,-Q2];repeat refine sdQ ?_
  refine hK _ ?_;clear hK K;refine tn ?_;refine Q8 (st':=⟨[(2,.val (.bool iso_)),(3,iV most_),(4,.adr 0 0 0),(5,.adr 1 0 0),(9,.adr 2 0 0),(10,.own 3 0 s7.1.length),(11,iV s7.2),(26,.val (.bool (decide (s7.2<(f_.s.fr.length:Int)))))],[(0,.mix 12 [(Fn.cells true f_)]),(1,.mix 12 [(Fn.cells true g_)]),(2,.mix 5 [(Cat.cells true f_.s)]),(3,.row 1 (Ls s7.1))],4⟩) (Qh [(0,0),(1,1),(2,2),(3,3)]) ?_;refine Qc rfl (fun g=>?_) fun g=>?_
  ·have g8:s7.2<(f_.s.fr.length:Int):=gQ;clear g;replace h:=if_l g8 h;refine Qd ?_;refine tn ?_;refine Q3 ?_;refine Qa ?_;refine runQ hN fun K hK=>?_;replace h:=Q7 h;obtain ⟨a9,h⟩:=h;replace h:=Q7 h;obtain ⟨a10,h⟩:=h;replace h:=Q7 h;obtain ⟨a11,h⟩:=h;(try simp only [List.length_append,List.length_cons,List.length_nil] at a11);simp [-Q0,-Q5,-Q1,-Q6,-Q2,at_I a9,at_I a10,a11];(repeat refine sdQ ?_);refine hK _ ?_;clear hK K;refine bn ?_;refine tn ?_;refine Q8 (st':=⟨[(2,.val (.bool iso_)),(3,iV most_),(4,.adr 0 0 0),(5,.adr 1 0 0),(9,.adr 2 0 0),(10,.own 3 0 ((s7.1++[[ix f_.s.fr s7.2,ix f_.s.to s7.2]]).length)),(11,iV s7.2)],[(0,.mix 12 [(Fn.cells true f_)]),(1,.mix 12 [(Fn.cells true g_)]),(2,.mix 5 [(Cat.cells true f_.s)]),(3,.row 1 (Ls (s7.1++[[ix f_.s.fr s7.2,ix f_.s.to s7.2]])))],4⟩) (Qh [(0,0),(1,1),(2,2),(6,3)]) ?_;refine runQ hN fun K hK=>?_;replace h:=Q7 h;obtain ⟨a12,h⟩:=h;simp [-Q0,-Q5,-Q1,-Q6,-Q2,Qu a12];(repeat refine sdQ ?_);refine hK _ ?_;clear hK K;cases h;exact rn (s':=(s7.1++[[ix f_.s.fr s7.2,ix f_.s.to s7.2]],s7.2+1)) hk7 (Qh [(0,0),(1,1),(2,2),(3,3)])
  have g8:¬ (s7.2<(f_.s.fr.length:Int)):=gQ;clear g;replace h:=if_r g8 h;refine Qp ?_;refine tx ?_;refine lx ?_;refine bh ?_;cases h;exact jn (b:=s7.1) hk7 (Qh [(0,0),(1,1),(2,2),(3,3)])
 intro b1 hb1;have h:=h1;try rw [← hb1] at h
 clear h1;try dsimp only at h
 refine Q3 ?_;refine runQ hN fun K hK=>?_;simp [-Q0,-Q5,-Q1,-Q6,-Q2];repeat with_reducible refine sdQ ?_
 replace h:=bind_some h;obtain ⟨v13,hv13,h⟩:=h;refine Q4 (Q7u _ _ v13 hv13) (.cons .val (.cons (.whole (by simp) (by simp) (by simp)) .nil)) ?_;simp [-Q0,-Q5,-Q1,-Q6,-Q2,unk,unA,unE,unT,unC,flat];repeat refine sdQ ?_
 refine hK _ ?_;clear hK K;refine tn ?_;refine Q8 (st':=⟨[(2,.val (.bool iso_)),(3,iV most_),(4,.adr 0 0 0),(5,.adr 1 0 0),(12,.own 2 0 v13.length)],[(0,.mix 12 [(Fn.cells true f_)]),(1,.mix 12 [(Fn.cells true g_)]),(2,rI v13)],3⟩) (Qh [(0,0),(1,1),(4,2)]) ?_;refine Q3 ?_;refine runQ hN fun K hK=>?_;simp [-Q0,-Q5,-Q1,-Q6,-Q2];repeat refine sdQ ?_
 refine hK _ ?_;clear hK K;refine tn ?_;refine Q8 (st':=⟨[(2,.val (.bool iso_)),(3,iV most_),(4,.adr 0 0 0),(5,.adr 1 0 0),(12,.own 2 0 v13.length),(13,.own 3 0 0)],[(0,.mix 12 [(Fn.cells true f_)]),(1,.mix 12 [(Fn.cells true g_)]),(2,rI v13),(3,.mix 1 [])],4⟩) (Qh [(0,0),(1,1),(2,2),(3,3)]) ?_;refine Q3 ?_;refine Q3 ?_;refine runQ hN fun K hK=>?_;simp [-Q0,-Q5,-Q1,-Q6,-Q2];repeat refine sdQ ?_
 refine hK _ ?_;clear hK K;refine tn ?_;refine Q8 (st':=⟨[(2,.val (.bool iso_)),(3,iV most_),(4,.adr 0 0 0),(5,.adr 1 0 0),(12,.own 2 0 v13.length),(13,.own 3 0 0),(14,iV 0)],[(0,.mix 12 [(Fn.cells true f_)]),(1,.mix 12 [(Fn.cells true g_)]),(2,rI v13),(3,.mix 1 [])],4⟩) (Qh [(0,0),(1,1),(2,2),(3,3)]) ?_;replace h:=bind_some h;obtain ⟨e14,h,h14⟩:=h;refine Qk (fun b14:List Int=>⟨[(2,.val (.bool iso_)),(3,iV most_),(4,.adr 0 0 0),(5,.adr 1 0 0),(13,.own 2 0 b14.length)],[(0,.mix 12 [(Fn.cells true f_)]),(1,.mix 12 [(Fn.cells true g_)]),(2,rI b14)],3⟩) (fun b14=>Sum.inl b14=e14) ?_ ?_
 ·refine Qa ?_;refine Qx h (fun s36:List Int × Int=>⟨[(2,.val (.bool iso_)),(3,iV most_),(4,.adr 0 0 0),(5,.adr 1 0 0),(12,.own 2 0 v13.length),(13,.own 3 0 s36.1.length),(14,iV s36.2)],[(0,.mix 12 [(Fn.cells true f_)]),(1,.mix 12 [(Fn.cells true g_)]),(2,rI v13),(3,rI s36.1)],4⟩) (Q3m ⟨[(2,.val (.bool iso_)),(3,iV most_),(4,.adr 0 0 0),(5,.adr 1 0 0),(12,.own 2 0 v13.length),(13,.own 3 0 0),(14,iV 0)],[(0,.mix 12 [(Fn.cells true f_)]),(1,.mix 12 [(Fn.cells true g_)]),(2,rI v13),(3,rI [])],4⟩ (Wk.nils [] (by simp) (by simp) (by simp [nlA]) (by simp [entN,nlL,nlA,Cat.cells,Fn.cells,UA,U1,IA,I1,LA,L1,BA,B1,EA,E1,E2,eB,eI,eL]) (by simp)) (Qh [(0,0),(1,1),(2,2),(3,3)])) ?_;clear h;intro k36 s36 c36 h hk36;refine Q3 ?_;refine Q3 ?_;refine runQ hN fun K hK=>?_;simp [-Q0,-Q5,-Q1,-Q6,-Q2];repeat refine sdQ ?_
  refine hK _ ?_;clear hK K;refine tn ?_;refine Q8 (st':=⟨[(2,.val (.bool iso_)),(3,iV most_),(4,.adr 0 0 0),(5,.adr 1 0 0),(12,.own 2 0 v13.length),(13,.own 3 0 s36.1.length),(14,iV s36.2),(51,.val (.bool (decide (s36.2<(v13.length:Int)))))],[(0,.mix 12 [(Fn.cells true f_)]),(1,.mix 12 [(Fn.cells true g_)]),(2,rI v13),(3,rI s36.1)],4⟩) (Qh [(0,0),(1,1),(2,2),(3,3)]) ?_;refine Qc rfl (fun g=>?_) fun g=>?_
  ·have g37:s36.2<(v13.length:Int):=gQ;clear g;replace h:=if_l g37 h;refine Qd ?_;refine tn ?_;refine Q3 ?_;refine Qa ?_;refine Q3 ?_;refine runQ hN fun K hK=>?_;replace h:=Q7 h;obtain ⟨a38,h⟩:=h;(try simp only [List.length_append,List.length_cons,List.length_nil] at a38);simp [-Q0,-Q5,-Q1,-Q6,-Q2,a38];(repeat refine sdQ ?_);refine hK _ ?_;clear hK K;refine tn ?_;refine Q8 (st':=⟨[(2,.val (.bool iso_)),(3,iV most_),(4,.adr 0 0 0),(5,.adr 1 0 0),(12,.own 2 0 v13.length),(13,.own 3 0 ((s36.1++[(-1)]).length)),(14,iV s36.2)],[(0,.mix 12 [(Fn.cells true f_)]),(1,.mix 12 [(Fn.cells true g_)]),(2,rI v13),(3,rI (s36.1++[(-1)]))],4⟩) (Qh [(0,0),(1,1),(2,2),(5,3)]) ?_;refine Q3 ?_;refine runQ hN fun K hK=>?_;simp [-Q0,-Q5,-Q1,-Q6,-Q2];(repeat refine sdQ ?_);refine hK _ ?_;clear hK K;refine tn ?_;refine Q8 (st':=⟨[(2,.val (.bool iso_)),(3,iV most_),(4,.adr 0 0 0),(5,.adr 1 0 0),(12,.own 2 0 v13.length),(13,.own 3 0 ((s36.1++[(-1)]).length)),(14,iV s36.2),(15,.own 4 0 0)],[(0,.mix 12 [(Fn.cells true f_)]),(1,.mix 12 [(Fn.cells true g_)]),(2,rI v13),(3,rI (s36.1++[(-1)])),(4,.mix 1 [])],5⟩) (Qh [(0,0),(1,1),(2,2),(3,3),(4,4)]) ?_;refine Q3 ?_;refine Q3 ?_;refine runQ hN fun K hK=>?_;simp [-Q0,-Q5,-Q1,-Q6,-Q2];(repeat refine sdQ ?_);refine hK _ ?_;clear hK K;refine tn ?_;refine Q8 (st':=⟨[(2,.val (.bool iso_)),(3,iV most_),(4,.adr 0 0 0),(5,.adr 1 0 0),(12,.own 2 0 v13.length),(13,.own 3 0 ((s36.1++[(-1)]).length)),(14,iV s36.2),(15,.own 4 0 0),(16,iV 0)],[(0,.mix 12 [(Fn.cells true f_)]),(1,.mix 12 [(Fn.cells true g_)]),(2,rI v13),(3,rI (s36.1++[(-1)])),(4,.mix 1 [])],5⟩) (Qh [(0,0),(1,1),(2,2),(3,3),(4,4)]) ?_;replace h:=bind_some h;obtain ⟨e39,h,h39⟩:=h;refine Qk (fun b39:List Int=>⟨[(2,.val (.bool iso_)),(3,iV most_),(4,.adr 0 0 0),(5,.adr 1 0 0),(12,.own 2 0 v13.length),(13,.own 3 0 ((s36.1++[(-1)]).length)),(14,iV s36.2),(15,.own 4 0 b39.length)],[(0,.mix 12 [(Fn.cells true f_)]),(1,.mix 12 [(Fn.cells true g_)]),(2,rI v13),(3,rI (s36.1++[(-1)])),(4,rI b39)],5⟩) (fun b39=>b39=e39) ?_ ?_
   ·refine Qa ?_;refine Qx h (fun s47:List Int × Int=>⟨[(2,.val (.bool iso_)),(3,iV most_),(4,.adr 0 0 0),(5,.adr 1 0 0),(12,.own 2 0 v13.length),(13,.own 3 0 ((s36.1++[(-1)]).length)),(14,iV s36.2),(15,.own 4 0 s47.1.length),(16,iV s47.2)],[(0,.mix 12 [(Fn.cells true f_)]),(1,.mix 12 [(Fn.cells true g_)]),(2,rI v13),(3,rI (s36.1++[(-1)])),(4,rI s47.1)],5⟩) (Q3m ⟨[(2,.val (.bool iso_)),(3,iV most_),(4,.adr 0 0 0),(5,.adr 1 0 0),(12,.own 2 0 v13.length),(13,.own 3 0 ((s36.1++[(-1)]).length)),(14,iV s36.2),(15,.own 4 0 0),(16,iV 0)],[(0,.mix 12 [(Fn.cells true f_)]),(1,.mix 12 [(Fn.cells true g_)]),(2,rI v13),(3,rI (s36.1++[(-1)])),(4,rI [])],5⟩ (Wk.nils [] (by simp) (by simp) (by simp [nlA]) (by simp [entN,nlL,nlA,Cat.cells,Fn.cells,UA,U1,IA,I1,LA,L1,BA,B1,EA,E1,E2,eB,eI,eL]) (by simp)) (Qh [(0,0),(1,1),(2,2),(3,3),(4,4)])) ?_;clear h;intro k47 s47 c47 h hk47;refine Q3 ?_;refine Q3 ?_;refine runQ hN fun K hK=>?_;simp [-Q0,-Q5,-Q1,-Q6,-Q2];(repeat refine sdQ ?_);refine hK _ ?_;clear hK K;refine tn ?_;refine Q8 (st':=⟨[(2,.val (.bool iso_)),(3,iV most_),(4,.adr 0 0 0),(5,.adr 1 0 0),(12,.own 2 0 v13.length),(13,.own 3 0 ((s36.1++[(-1)]).length)),(14,iV s36.2),(15,.own 4 0 s47.1.length),(16,iV s47.2),(61,.val (.bool (decide (s47.2<(v13.length:Int)))))],[(0,.mix 12 [(Fn.cells true f_)]),(1,.mix 12 [(Fn.cells true g_)]),(2,rI v13),(3,rI (s36.1++[(-1)])),(4,rI s47.1)],5⟩) (Qh [(0,0),(1,1),(2,2),(3,3),(4,4)]) ?_;refine Qc rfl (fun g=>?_) fun g=>?_
    ·have g48:s47.2<(v13.length:Int):=gQ;clear g;replace h:=if_l g48 h;refine Qd ?_;refine tn ?_;refine Q3 ?_;replace h:=bind_some h;obtain ⟨e49,h,h49⟩:=h;refine Qk (fun b49:List Int=>⟨[(2,.val (.bool iso_)),(3,iV most_),(4,.adr 0 0 0),(5,.adr 1 0 0),(12,.own 2 0 v13.length),(13,.own 3 0 ((s36.1++[(-1)]).length)),(14,iV s36.2),(15,.own 4 0 b49.length),(16,iV s47.2)],[(0,.mix 12 [(Fn.cells true f_)]),(1,.mix 12 [(Fn.cells true g_)]),(2,rI v13),(3,rI (s36.1++[(-1)])),(4,rI b49)],5⟩) (fun b49=>b49=e49) ?_ ?_
     ·refine Qa ?_;refine Q3 ?_;refine runQ hN fun K hK=>?_;replace h:=Q7 h;obtain ⟨a50,h⟩:=h;simp [-Q0,-Q5,-Q1,-Q6,-Q2,at_I a50];(repeat refine sdQ ?_);refine hK _ ?_;clear hK K;refine tn ?_;refine Q8 (st':=⟨[(2,.val (.bool iso_)),(3,iV most_),(4,.adr 0 0 0),(5,.adr 1 0 0),(12,.own 2 0 v13.length),(13,.own 3 0 ((s36.1++[(-1)]).length)),(14,iV s36.2),(15,.own 4 0 s47.1.length),(16,iV s47.2),(69,.val (.bool ((ix v13 s47.2) == s36.2)))],[(0,.mix 12 [(Fn.cells true f_)]),(1,.mix 12 [(Fn.cells true g_)]),(2,rI v13),(3,rI (s36.1++[(-1)])),(4,rI s47.1)],5⟩) (Qh [(0,0),(1,1),(2,2),(3,3),(4,4)]) ?_;refine Qc rfl (fun g=>?_) fun g=>?_
      ·have g51:(ix v13 s47.2)=s36.2:=gQ;clear g;replace h:=if_l g51 h;refine runQ hN fun K hK=>?_;replace h:=Q7 h;obtain ⟨a52,h⟩:=h;(try simp only [List.length_append,List.length_cons,List.length_nil] at a52);simp [-Q0,-Q5,-Q1,-Q6,-Q2,a52];(repeat refine sdQ ?_);refine hK _ ?_;clear hK K;refine bn ?_;exact jn (b:=s47.1++[(-1)]) (Option.some.inj h) (Qh [(0,0),(1,1),(2,2),(3,3),(6,4)])
      have g51:¬ ((ix v13 s47.2)=s36.2):=gQ;clear g;replace h:=if_r g51 h;refine runQ hN fun K hK=>?_;replace h:=Q7 h;obtain ⟨a53,h⟩:=h;(try simp only [List.length_append,List.length_cons,List.length_nil] at a53);simp [-Q0,-Q5,-Q1,-Q6,-Q2,a53];(repeat refine sdQ ?_);refine hK _ ?_;clear hK K;refine bn ?_;exact jn (b:=s47.1++[(-2)]) (Option.some.inj h) (Qh [(0,0),(1,1),(2,2),(3,3),(6,4)])
     intro b49 hb49;have h:=h49;(try rw [← hb49] at h);clear h49;(try dsimp only at h);refine runQ hN fun K hK=>?_;replace h:=Q7 h;obtain ⟨a54,h⟩:=h;simp [-Q0,-Q5,-Q1,-Q6,-Q2,Qu a54];(repeat refine sdQ ?_);refine hK _ ?_;clear hK K;cases h;exact rn (s':=(b49,s47.2+1)) hk47 (Qh [(0,0),(1,1),(2,2),(3,3),(4,4)])
    have g48:¬ (s47.2<(v13.length:Int)):=gQ;clear g;replace h:=if_r g48 h;refine Qp ?_;refine tx ?_;refine lx ?_;refine bh ?_;cases h;exact jn (b:=s47.1) hk47 (Qh [(0,0),(1,1),(2,2),(3,3),(4,4)])
   intro b39 hb39;have h:=h39;(try rw [← hb39] at h);clear h39;(try dsimp only at h);refine Q3 ?_;refine runQ hN fun K hK=>?_;simp [-Q0,-Q5,-Q1,-Q6,-Q2];(repeat refine sdQ ?_);refine hK _ ?_;clear hK K;refine tn ?_;refine Q8 (st':=⟨[(2,.val (.bool iso_)),(3,iV most_),(4,.adr 0 0 0),(5,.adr 1 0 0),(12,.own 2 0 v13.length),(13,.own 3 0 ((s36.1++[(-1)]).length)),(14,iV s36.2),(15,.own 4 0 b39.length),(17,.adr 5 0 0)],[(0,.mix 12 [(Fn.cells true f_)]),(1,.mix 12 [(Fn.cells true g_)]),(2,rI v13),(3,rI (s36.1++[(-1)])),(4,rI b39),(5,.mix 27 [[iV f_.s.n,lI f_.s.fr,lI f_.s.to,lI f_.s.id,.lst true 1 (Ls f_.s.cs),iV f_.t.n,lI f_.t.fr,lI f_.t.to,lI f_.t.id,.lst true 1 (Ls f_.t.cs),lI f_.ob,lI f_.ar,iV g_.s.n,lI g_.s.fr,lI g_.s.to,lI g_.s.id,.lst true 1 (Ls g_.s.cs),iV g_.t.n,lI g_.t.fr,lI g_.t.to,lI g_.t.id,.lst true 1 (Ls g_.t.cs),lI g_.ob,lI g_.ar,.val (.bool iso_),iV 1,.own 6 0 0]]),(6,.row 1 (Ls []))],7⟩) (Q3m ⟨[(2,.val (.bool iso_)),(3,iV most_),(4,.adr 0 0 0),(5,.adr 1 0 0),(12,.own 2 0 v13.length),(13,.own 3 0 ((s36.1++[(-1)]).length)),(14,iV s36.2),(15,.own 4 0 b39.length),(17,.adr 5 0 0)],[(0,.mix 12 [(Fn.cells true f_)]),(1,.mix 12 [(Fn.cells true g_)]),(2,rI v13),(3,rI (s36.1++[(-1)])),(4,rI b39),(5,.mix 27 [[iV f_.s.n,lI f_.s.fr,lI f_.s.to,lI f_.s.id,.lst true 1 (Ls f_.s.cs),iV f_.t.n,lI f_.t.fr,lI f_.t.to,lI f_.t.id,.lst true 1 (Ls f_.t.cs),lI f_.ob,lI f_.ar,iV g_.s.n,lI g_.s.fr,lI g_.s.to,lI g_.s.id,.lst true 1 (Ls g_.s.cs),iV g_.t.n,lI g_.t.fr,lI g_.t.to,lI g_.t.id,.lst true 1 (Ls g_.t.cs),lI g_.ob,lI g_.ar,.val (.bool iso_),iV 1,.own 6 0 0]]),(6,.row 1 (Ls []))],7⟩ (Wk.nils [(6,1)] (by simp) (by simp) (by simp [nlA]) (by simp [entN,nlL,nlA,Cat.cells,Fn.cells,UA,U1,IA,I1,LA,L1,BA,B1,EA,E1,E2,eB,eI,eL]) (by simp)) (Qh [(0,0),(1,1),(2,2),(3,3),(4,4),(5,5),(6,6)])) ?_;refine Q3 ?_;refine Q31 [] mo (by rw [hN];decide) fun K hK=>?_;simp [-Q0,-Q5,-Q1,-Q6,-Q2];(repeat with_reducible refine sdQ ?_);replace h:=bind_some h;obtain ⟨v55,hv55,h⟩:=h
   refine Q2a (fz:=[]) (ICon.frameL (e:={ v:=.tup [],set:=[(5,.mix 27 [[iV f_.s.n,lI f_.s.fr,lI f_.s.to,lI f_.s.id,.lst true 1 (Ls f_.s.cs),iV f_.t.n,lI f_.t.fr,lI f_.t.to,lI f_.t.id,.lst true 1 (Ls f_.t.cs),lI f_.ob,lI f_.ar,iV g_.s.n,lI g_.s.fr,lI g_.s.to,lI g_.s.id,.lst true 1 (Ls g_.s.cs),iV g_.t.n,lI g_.t.fr,lI g_.t.to,lI g_.t.id,.lst true 1 (Ls g_.t.cs),lI g_.ob,lI g_.ar,.val (.bool iso_),iV 1,.own 7 0 v55.length]])],del:=[6],new:=[(7,.row 1 (Ls v55))],cnt:=1 }) (Q3B 100 _ _ _ _ _ _ v55 hv55) [(0,5),(1,6),(2,4)] (by rfl) (by simp) (by simp [rl,rlL,rlLL,rlE,rlE',back,mxt,look,trm,List.range,List.range.loop,Qv,Cat.cells,Fn.cells]) (by simp [rl,rlL,rlLL,rlE,rlE',back,mxt,look,trm,List.range,List.range.loop,Qv,Cat.cells,Fn.cells]) (by simp [Q3d]) (by rfl) (by simp [rl,rlL,rlLL,rlE,rlE',back,mxt,look,trm,List.range,List.range.loop,Qv,Cat.cells,Fn.cells]) (by simp [rl,rlL,rlLL,rlE,rlE',back,mxt,look,trm,List.range,List.range.loop,Qv,Cat.cells,Fn.cells]) (by simp [rl,rlL,rlLL,rlE,rlE',back,mxt,look,trm,List.range,List.range.loop,Qv,Cat.cells,Fn.cells]) (by simp [rl,rlL,rlLL,rlE,rlE',back,mxt,look,trm,List.range,List.range.loop,Qv,Cat.cells,Fn.cells]) (by simp [Q3d]) (by rfl) (Q4H (by simp))) ?_;simp [-Q0,-Q5,-Q1,-Q6,-Q2,unk,unA,unE,unT,unC,flat];(repeat refine sdQ ?_);refine hK _ ?_;clear hK K;refine tn ?_;refine Q8 (st':=⟨[(2,.val (.bool iso_)),(3,iV most_),(4,.adr 0 0 0),(5,.adr 1 0 0),(12,.own 2 0 v13.length),(13,.own 3 0 ((s36.1++[(-1)]).length)),(14,iV s36.2),(17,.adr 4 0 0)],[(0,.mix 12 [(Fn.cells true f_)]),(1,.mix 12 [(Fn.cells true g_)]),(2,rI v13),(3,rI (s36.1++[(-1)])),(4,.mix 27 [[iV f_.s.n,lI f_.s.fr,lI f_.s.to,lI f_.s.id,.lst true 1 (Ls f_.s.cs),iV f_.t.n,lI f_.t.fr,lI f_.t.to,lI f_.t.id,.lst true 1 (Ls f_.t.cs),lI f_.ob,lI f_.ar,iV g_.s.n,lI g_.s.fr,lI g_.s.to,lI g_.s.id,.lst true 1 (Ls g_.s.cs),iV g_.t.n,lI g_.t.fr,lI g_.t.to,lI g_.t.id,.lst true 1 (Ls g_.t.cs),lI g_.ob,lI g_.ar,.val (.bool iso_),iV 1,.own 5 0 v55.length]]),(5,.row 1 (Ls v55))],6⟩) (Qh [(0,0),(1,1),(2,2),(3,3),(5,4),(7,5)]) ?_;refine Q3 ?_;refine runQ hN fun K hK=>?_;simp [-Q0,-Q5,-Q1,-Q6,-Q2];(repeat refine sdQ ?_);refine hK _ ?_;clear hK K;refine tn ?_;refine Q8 (st':=⟨[(2,.val (.bool iso_)),(3,iV most_),(4,.adr 0 0 0),(5,.adr 1 0 0),(12,.own 2 0 v13.length),(13,.own 3 0 ((s36.1++[(-1)]).length)),(14,iV s36.2),(89,.val (.bool ((v55.length:Int) == 0)))],[(0,.mix 12 [(Fn.cells true f_)]),(1,.mix 12 [(Fn.cells true g_)]),(2,rI v13),(3,rI (s36.1++[(-1)]))],4⟩) (Qh [(0,0),(1,1),(2,2),(3,3)]) ?_;refine Qc rfl (fun g=>?_) fun g=>?_
   ·have g56:(v55.length:Int)=0:=gQ;clear g;replace h:=if_l g56 h;refine Q3 ?_;refine runQ hN fun K hK=>?_;simp [-Q0,-Q5,-Q1,-Q6,-Q2];(repeat refine sdQ ?_);refine hK _ ?_;clear hK K;refine tn ?_;refine Q8 (st':=⟨[(8,.own 0 0 0)],[(0,.mix 1 [])],1⟩) (Qh [(4,0)]) ?_;refine Qi ?_;refine br ?_;refine tr ?_;refine lr ?_;refine br ?_;refine tr ?_;cases h;have q:_=e14:=hk36;have h:=h14;rw [← q] at h;clear q;(try dsimp only at h);have hr:=Option.some.inj h;rw [← hr];refine ⟨_,(.tmp .nil),?_⟩;refine ⟨(.one rfl rfl .nil),[.lst true 1 (Ls [])],[0],by simp [Cat.cells,Fn.cells,UA,U1,IA,I1,LA,L1,BA,B1,EA,E1,E2,eB,eI,eL],by simp,(UpL.refl _)⟩
   have g56:¬ ((v55.length:Int)=0):=gQ;clear g;replace h:=if_r g56 h;refine Qd ?_;refine bn ?_;refine tn ?_;refine runQ hN fun K hK=>?_;replace h:=Q7 h;obtain ⟨a57,h⟩:=h;simp [-Q0,-Q5,-Q1,-Q6,-Q2,Qu a57];(repeat refine sdQ ?_);refine hK _ ?_;clear hK K;cases h;exact rn (s':=(s36.1++[(-1)],s36.2+1)) hk36 (Qh [(0,0),(1,1),(2,2),(3,3)])
  have g37:¬ (s36.2<(v13.length:Int)):=gQ;clear g;replace h:=if_r g37 h;refine Qp ?_;refine tx ?_;refine lx ?_;refine bh ?_;cases h;exact jn (b:=s36.1) hk36 (Qh [(0,0),(1,1),(3,2)])
 intro b14 hb14;have h:=h14;try rw [← hb14] at h
 clear h14;try dsimp only at h
 refine Q3 ?_;refine runQ hN fun K hK=>?_;simp [-Q0,-Q5,-Q1,-Q6,-Q2];repeat refine sdQ ?_
 refine hK _ ?_;clear hK K;refine tn ?_;refine Q8 (st':=⟨[(13,.own 0 0 b14.length),(18,.adr 1 0 0)],[(0,rI b14),(1,.mix 27 [[iV f_.s.n,lI f_.s.fr,lI f_.s.to,lI f_.s.id,.lst true 1 (Ls f_.s.cs),iV f_.t.n,lI f_.t.fr,lI f_.t.to,lI f_.t.id,.lst true 1 (Ls f_.t.cs),lI f_.ob,lI f_.ar,iV g_.s.n,lI g_.s.fr,lI g_.s.to,lI g_.s.id,.lst true 1 (Ls g_.s.cs),iV g_.t.n,lI g_.t.fr,lI g_.t.to,lI g_.t.id,.lst true 1 (Ls g_.t.cs),lI g_.ob,lI g_.ar,.val (.bool iso_),iV most_,.own 2 0 0]]),(2,.row 1 (Ls []))],3⟩) (Q3m ⟨[(13,.own 2 0 b14.length),(18,.adr 4 0 0)],[(2,rI b14),(3,.row 1 (Ls [])),(4,.mix 27 [[iV f_.s.n,lI f_.s.fr,lI f_.s.to,lI f_.s.id,.lst true 1 (Ls f_.s.cs),iV f_.t.n,lI f_.t.fr,lI f_.t.to,lI f_.t.id,.lst true 1 (Ls f_.t.cs),lI f_.ob,lI f_.ar,iV g_.s.n,lI g_.s.fr,lI g_.s.to,lI g_.s.id,.lst true 1 (Ls g_.s.cs),iV g_.t.n,lI g_.t.fr,lI g_.t.to,lI g_.t.id,.lst true 1 (Ls g_.t.cs),lI g_.ob,lI g_.ar,.val (.bool iso_),iV most_,.own 3 0 0]])],5⟩ (Wk.nils [] (by simp) (by simp) (by simp [nlA]) (by simp [entN,nlL,nlA,Cat.cells,Fn.cells,UA,U1,IA,I1,LA,L1,BA,B1,EA,E1,E2,eB,eI,eL]) (by simp)) (Qh [(2,0),(4,1),(3,2)])) ?_;refine Q3 ?_;refine Q31 [] mo (by rw [hN];decide) fun K hK=>?_;simp [-Q0,-Q5,-Q1,-Q6,-Q2];repeat with_reducible refine sdQ ?_
 replace h:=bind_some h;obtain ⟨v58,hv58,h⟩:=h;refine Q2a (fz:=[]) (ICon.frameL (e:={ v:=.tup [],set:=[(1,.mix 27 [[iV f_.s.n,lI f_.s.fr,lI f_.s.to,lI f_.s.id,.lst true 1 (Ls f_.s.cs),iV f_.t.n,lI f_.t.fr,lI f_.t.to,lI f_.t.id,.lst true 1 (Ls f_.t.cs),lI f_.ob,lI f_.ar,iV g_.s.n,lI g_.s.fr,lI g_.s.to,lI g_.s.id,.lst true 1 (Ls g_.s.cs),iV g_.t.n,lI g_.t.fr,lI g_.t.to,lI g_.t.id,.lst true 1 (Ls g_.t.cs),lI g_.ob,lI g_.ar,.val (.bool iso_),iV most_,.own 3 0 v58.length]])],del:=[2],new:=[(3,.row 1 (Ls v58))],cnt:=1 }) (Q3B 100 _ _ _ _ _ _ v58 hv58) [(0,1),(1,2),(2,0)] (by rfl) (by simp) (by simp [rl,rlL,rlLL,rlE,rlE',back,mxt,look,trm,List.range,List.range.loop,Qv,Cat.cells,Fn.cells]) (by simp [rl,rlL,rlLL,rlE,rlE',back,mxt,look,trm,List.range,List.range.loop,Qv,Cat.cells,Fn.cells]) (by simp [Q3d]) (by rfl) (by simp [rl,rlL,rlLL,rlE,rlE',back,mxt,look,trm,List.range,List.range.loop,Qv,Cat.cells,Fn.cells]) (by simp [rl,rlL,rlLL,rlE,rlE',back,mxt,look,trm,List.range,List.range.loop,Qv,Cat.cells,Fn.cells]) (by simp [rl,rlL,rlLL,rlE,rlE',back,mxt,look,trm,List.range,List.range.loop,Qv,Cat.cells,Fn.cells]) (by simp [rl,rlL,rlLL,rlE,rlE',back,mxt,look,trm,List.range,List.range.loop,Qv,Cat.cells,Fn.cells]) (by simp [Q3d]) (by rfl) (Q4H (by simp))) ?_;simp [-Q0,-Q5,-Q1,-Q6,-Q2,unk,unA,unE,unT,unC,flat];repeat refine sdQ ?_
 refine hK _ ?_;clear hK K;refine tn ?_;refine Q8 (st':=⟨[(18,.adr 0 0 0)],[(0,.mix 27 [[iV f_.s.n,lI f_.s.fr,lI f_.s.to,lI f_.s.id,.lst true 1 (Ls f_.s.cs),iV f_.t.n,lI f_.t.fr,lI f_.t.to,lI f_.t.id,.lst true 1 (Ls f_.t.cs),lI f_.ob,lI f_.ar,iV g_.s.n,lI g_.s.fr,lI g_.s.to,lI g_.s.id,.lst true 1 (Ls g_.s.cs),iV g_.t.n,lI g_.t.fr,lI g_.t.to,lI g_.t.id,.lst true 1 (Ls g_.t.cs),lI g_.ob,lI g_.ar,.val (.bool iso_),iV most_,.own 1 0 v58.length]]),(1,.row 1 (Ls v58))],2⟩) (Qh [(1,0),(3,1)]) ?_;refine Q3 ?_;refine runQ hN fun K hK=>?_;simp [-Q0,-Q5,-Q1,-Q6,-Q2];repeat refine sdQ ?_
 refine hK _ ?_;clear hK K;refine tn ?_;refine Q8 (st':=⟨[(8,.own 0 0 v58.length)],[(0,.row 1 (Ls v58))],1⟩) (Qh [(1,0)]) ?_;refine Qi ?_;have hr:=Option.some.inj h;rw [← hr];refine ⟨_,(.tmp .nil),?_⟩;refine ⟨(.one rfl rfl .nil),[.lst true 1 (Ls v58)],[0],by simp [Cat.cells,Fn.cells,UA,U1,IA,I1,LA,L1,BA,B1,EA,E1,E2,eB,eI,eL],by simp,(UpL.refl _)⟩
attribute [local simp] eL eI Qs QH Q1D QZ Cat.cells Cone.cells Fn.cells
noncomputable def Q22 (d_:Fn):Option (List Cone) :=
 (Qy (σ:=List Cone × Int) (ε:=List Cone) (fun s18 =>
  (
   if s18.2<d_.t.n then
    some (decide ((s18.1.length:Int)≤400))
   else
    some false:Option (Bool)).bind fun b19 =>
  if b19=true then
   (
    (Q1n d_.s d_.t s18.2).bind fun v23 =>
    ass (B64 (401 - (s18.1.length:Int))) <|
    (Q2t v23 d_ false (401 - (s18.1.length:Int))).bind fun v25 =>
    (Qy (σ:=List Cone × Int) (ε:=List Cone) (fun s30 =>
     if s30.2<(v25.length:Int) then
      ass (0≤s30.2∧s30.2<(v25.length:Int)) <|
      ass ((s30.1++[(⟨s18.2,rx v25 s30.2⟩:Cone)]).length≤1073741824) <|
      ass (B64 (s30.2+1)) <|
      some (Ctl.next (s30.1++[(⟨s18.2,rx v25 s30.2⟩:Cone)],s30.2+1))
     else
      some (Ctl.ret s30.1)) fuel (s18.1,0)).bind fun p30 =>
    some p30:Option (List Cone)).bind fun b22 =>
   ass (B64 (s18.2+1)) <|
   some (Ctl.next (b22,s18.2+1))
  else
   some (Ctl.ret s18.1)) fuel ([],0)).bind fun b1 =>
 some b1
theorem Q6W (d_:Fn) (r:List Cone) (h:Q22 d_=some r):FContract Try.prog true 134 [.agg (d_.cells true)] (.lst true 2 (Es (Cone.cells true) r)):=by
 refine Q1j true (ts:=[2]) (rs:=[.lst true 2 (Es (Cone.cells true) r)]) Try.func134 rfl rfl rfl rfl (by simp [Try.f134]) fun F hN hP=>?_;unfold Q22 at h;refine Q3 ?_;refine Qm [1] mo (by rw [hN];decide) fun K hK=>?_;simp [-Q0,-Q5,-Q1,-Q6,-Q2];repeat refine sdQ ?_
 refine hK _ ?_;clear hK K;refine tn ?_;refine Q8 (st':=⟨[(1,.rptr (Fn.cells true d_))],[],0⟩) (Qh []) ?_;refine Q3 ?_;refine Qm [] mo (by rw [hN];decide) fun K hK=>?_;simp [-Q0,-Q5,-Q1,-Q6,-Q2];repeat refine sdQ ?_
 refine hK _ ?_;clear hK K;refine tn ?_;refine Q8 (st':=⟨[(1,.rptr (Fn.cells true d_)),(3,.own 0 0 0)],[(0,.mix 2 [])],1⟩) (Qh [(0,0)]) ?_;refine Q3 ?_;refine Q3 ?_;refine Qm [] mo (by rw [hN];decide) fun K hK=>?_;simp [-Q0,-Q5,-Q1,-Q6,-Q2];repeat refine sdQ ?_
 refine hK _ ?_;clear hK K;refine tn ?_;refine Q8 (st':=⟨[(1,.rptr (Fn.cells true d_)),(3,.own 0 0 0),(4,iV 0)],[(0,.mix 2 [])],1⟩) (Qh [(0,0)]) ?_;replace h:=bind_some h;obtain ⟨e1,h,h1⟩:=h;refine Qk (fun b1:List Cone=>⟨[(3,.own 0 0 b1.length)],[(0,.mix 2 (Es (Cone.cells true) b1))],1⟩) (fun b1=>b1=e1) ?_ ?_
 ·refine Qa ?_;refine Qx h (fun s18:List Cone × Int=>⟨[(1,.rptr (Fn.cells true d_)),(3,.own 0 0 s18.1.length),(4,iV s18.2)],[(0,.mix 2 (Es (Cone.cells true) s18.1))],1⟩) (Qh [(0,0)]) ?_;clear h;intro k18 s18 c18 h hk18;refine Q3 ?_;refine Q3 ?_;replace h:=bind_some h;obtain ⟨e19,h,h19⟩:=h;refine Qk (fun b19:Bool=>⟨[(1,.rptr (Fn.cells true d_)),(3,.own 0 0 s18.1.length),(4,iV s18.2),(17,.val (.bool b19))],[(0,.mix 2 (Es (Cone.cells true) s18.1))],1⟩) (fun b19=>b19=e19) ?_ ?_
  ·refine Qm [] mo (by rw [hN];decide) fun K hK=>?_;simp [-Q0,-Q5,-Q1,-Q6,-Q2];(repeat with_reducible refine sdQ ?_);refine Q1X (fun g=>?_) (fun g=>?_)
   ·have g20:s18.2<d_.t.n:=gQ;clear g;replace h:=if_l g20 h;simp [-Q0,-Q5,-Q1,-Q6,-Q2];(repeat refine sdQ ?_);refine hK _ ?_;exact jn (b:=decide ((s18.1.length:Int)≤400)) (Option.some.inj h) (Qh [(0,0)])
   have g20:¬ (s18.2<d_.t.n):=gQ;clear g;replace h:=if_r g20 h;simp [-Q0,-Q5,-Q1,-Q6,-Q2];(repeat refine sdQ ?_);refine hK _ ?_;exact jn (b:=false) (Option.some.inj h) (Qh [(0,0)])
  intro b19 hb19;have h:=h19;try rw [← hb19] at h
  clear h19;try dsimp only at h
  refine Qc rfl (fun g=>?_) fun g=>?_
  ·have g21:b19=true:=gQ;clear g;replace h:=if_l g21 h;refine Qd ?_;refine tn ?_;refine Q3 ?_;replace h:=bind_some h;obtain ⟨e22,h,h22⟩:=h;refine Qk (fun b22:List Cone=>⟨[(1,.rptr (Fn.cells true d_)),(3,.own 0 0 b22.length),(4,iV s18.2)],[(0,.mix 2 (Es (Cone.cells true) b22))],1⟩) (fun b22=>b22=e22) ?_ ?_
   ·refine Qa ?_;refine Q3 ?_;refine Qm [] mo (by rw [hN];decide) fun K hK=>?_;simp [-Q0,-Q5,-Q1,-Q6,-Q2];(repeat with_reducible refine sdQ ?_);replace h:=bind_some h;obtain ⟨v23,hv23,h⟩:=h;refine QD (fz:=[]) (Q53 _ _ _ v23 hv23) (.cons (.aggL (.cons .val (.cons .lst (.cons .lst (.cons .lst (.cons .lst .nil)))))) (.cons (.aggL (.cons .val (.cons .lst (.cons .lst (.cons .lst (.cons .lst .nil)))))) (.cons .val .nil))) ?_;replace h:=Q7 h;obtain ⟨a24,h⟩:=h;simp [-Q0,-Q5,-Q1,-Q6,-Q2,unk,unA,unE,unT,unC,flat,Qu a24];(repeat with_reducible refine sdQ ?_);replace h:=bind_some h;obtain ⟨v25,hv25,h⟩:=h;refine Q2h (fz:=[]) false (Contract.toF1 (Q7y _ _ _ _ v25 hv25)) (PurK.ofL (.cons (.aggL (.cons .val (.cons (.whole (by simp) (by simp) (by simp)) (.cons (.whole (by simp) (by simp) (by simp)) (.cons (.whole (by simp) (by simp) (by simp)) (.cons (.whole (by simp) (by simp) (by simp)) (.cons .val (.cons (.whole (by simp) (by simp) (by simp)) (.cons (.whole (by simp) (by simp) (by simp)) (.cons (.whole (by simp) (by simp) (by simp)) (.cons (.whole (by simp) (by simp) (by simp)) (.cons (.whole (by simp) (by simp) (by simp)) (.cons (.whole (by simp) (by simp) (by simp)) .nil))))))))))))) (.cons (.aggL (.cons .val (.cons .lst (.cons .lst (.cons .lst (.cons .lst (.cons .val (.cons .lst (.cons .lst (.cons .lst (.cons .lst (.cons .lst (.cons .lst .nil))))))))))))) (.cons .val (.cons .val .nil))))) ?_;simp [-Q0,-Q5,-Q1,-Q6,-Q2,unk,unA,unE,unT,unC,flat];(repeat refine sdQ ?_);refine hK _ ?_;clear hK K;refine tn ?_;refine Q8 (st':=⟨[(1,.rptr (Fn.cells true d_)),(3,.own 0 0 s18.1.length),(4,iV s18.2),(5,.lst true 1 (Ls v25))],[(0,.mix 2 (Es (Cone.cells true) s18.1))],1⟩) (Qh [(0,0)]) ?_;refine Q3 ?_;refine Qm [] mo (by rw [hN];decide) fun K hK=>?_;simp [-Q0,-Q5,-Q1,-Q6,-Q2];(repeat refine sdQ ?_);refine hK _ ?_;clear hK K;refine tn ?_;refine Q8 (st':=⟨[(1,.rptr (Fn.cells true d_)),(3,.own 0 0 s18.1.length),(4,iV s18.2),(5,.lst true 1 (Ls v25)),(6,iV 0)],[(0,.mix 2 (Es (Cone.cells true) s18.1))],1⟩) (Qh [(0,0)]) ?_;refine Qa ?_;replace h:=bind_some h;obtain ⟨e30,he30,h30⟩:=h;refine Qx he30 (fun s30:List Cone × Int=>⟨[(1,.rptr (Fn.cells true d_)),(3,.own 0 0 s30.1.length),(4,iV s18.2),(5,.lst true 1 (Ls v25)),(6,iV s30.2)],[(0,.mix 2 (Es (Cone.cells true) s30.1))],1⟩) (Qh [(0,0)]) ?_;intro k30 s30 c30 h hk30;refine Q3 ?_;refine Q3 ?_;refine Qm [] mo (by rw [hN];decide) fun K hK=>?_;simp [-Q0,-Q5,-Q1,-Q6,-Q2];(repeat refine sdQ ?_);refine hK _ ?_;clear hK K;refine tn ?_;refine Q8 (st':=⟨[(1,.rptr (Fn.cells true d_)),(3,.own 0 0 s30.1.length),(4,iV s18.2),(5,.lst true 1 (Ls v25)),(6,iV s30.2),(34,.val (.bool (decide (s30.2<(v25.length:Int)))))],[(0,.mix 2 (Es (Cone.cells true) s30.1))],1⟩) (Qh [(0,0)]) ?_;refine Qc rfl (fun g=>?_) fun g=>?_
    ·have g31:s30.2<(v25.length:Int):=gQ;clear g;replace h:=if_l g31 h;refine Qd ?_;refine tn ?_;refine Q3 ?_;refine Qa ?_;refine Qm [45] mo (by rw [hN];decide) fun K hK=>?_;replace h:=Q7 h;obtain ⟨a32,h⟩:=h;replace h:=Q7 h;obtain ⟨a33,h⟩:=h;(try simp only [List.length_append,List.length_cons,List.length_nil] at a33);simp [-Q0,-Q5,-Q1,-Q6,-Q2,at_L a32,a33];(repeat refine sdQ ?_);refine hK _ ?_;clear hK K;refine bn ?_;refine tn ?_;refine Q8 (st':=⟨[(1,.rptr (Fn.cells true d_)),(3,.own 0 0 ((s30.1++[(⟨s18.2,rx v25 s30.2⟩:Cone)]).length)),(4,iV s18.2),(5,.lst true 1 (Ls v25)),(6,iV s30.2)],[(0,.mix 2 (Es (Cone.cells true) (s30.1++[(⟨s18.2,rx v25 s30.2⟩:Cone)])))],1⟩) (Qh [(2,0)]) ?_;refine Qm [] mo (by rw [hN];decide) fun K hK=>?_;replace h:=Q7 h;obtain ⟨a34,h⟩:=h;simp [-Q0,-Q5,-Q1,-Q6,-Q2,Qu a34];(repeat refine sdQ ?_);refine hK _ ?_;clear hK K;cases h;exact rn (s':=(s30.1++[(⟨s18.2,rx v25 s30.2⟩:Cone)],s30.2+1)) hk30 (Qh [(0,0)])
    have g31:¬ (s30.2<(v25.length:Int)):=gQ;clear g;replace h:=if_r g31 h;refine Qp ?_;refine tx ?_;refine lx ?_;refine bh ?_;refine bn ?_;cases h;have q:_=e30:=hk30;have h:=h30;rw [← q] at h;clear q;(try dsimp only at h);exact jn (b:=s30.1) (Option.some.inj h) (Qh [(0,0)])
   intro b22 hb22;have h:=h22;(try rw [← hb22] at h);clear h22;(try dsimp only at h);refine Qm [] mo (by rw [hN];decide) fun K hK=>?_;replace h:=Q7 h;obtain ⟨a35,h⟩:=h;simp [-Q0,-Q5,-Q1,-Q6,-Q2,Qu a35];(repeat refine sdQ ?_);refine hK _ ?_;clear hK K;cases h;exact rn (s':=(b22,s18.2+1)) hk18 (Qh [(0,0)])
  have g21:¬ (b19=true):=gQ;clear g;replace h:=if_r g21 h;refine Qp ?_;refine tx ?_;refine lx ?_;refine bh ?_;cases h;exact jn (b:=s18.1) hk18 (Qh [(0,0)])
 intro b1 hb1;have h:=h1;try rw [← hb1] at h
 clear h1;try dsimp only at h
 refine Q3 ?_;refine Qm [] mo (by rw [hN];decide) fun K hK=>?_;simp [-Q0,-Q5,-Q1,-Q6,-Q2];repeat refine sdQ ?_
 refine hK _ ?_;clear hK K;refine tn ?_;refine Q8 (st':=⟨[(2,.own 0 0 b1.length)],[(0,.mix 2 (Es (Cone.cells true) b1))],1⟩) (Qh [(0,0)]) ?_;refine Qi ?_;have hr:=Option.some.inj h;rw [← hr];exact (.two (.smix rfl (by simp) (Q5s (by simp [Cat.cells,Cone.cells,Fn.cells,QH,Q1D,QZ]))) .nil)
attribute [local simp] eL eI Qs QZ Fn.cells
noncomputable def Q1Q (d_:Fn):Option (List Cone × Int) :=
 (Q22 d_).bind fun v1 =>
 if (v1.length:Int) > 400 then
  some ([],3)
 else
  some (v1,0)
theorem Q55 (d_:Fn) (r:List Cone × Int) (h:Q1Q d_=some r):FContract Try.prog true 89 [.agg (d_.cells true)] (.tup [.lst true 2 (Es (Cone.cells true) r.1),iV r.2]):=by
 refine Q1j true (ts:=[2,3]) (rs:=[.lst true 2 (Es (Cone.cells true) r.1),iV r.2]) Try.func89 rfl rfl rfl rfl (by simp [Try.f89]) fun F hN hP=>?_;unfold Q1Q at h;refine Q3 ?_;refine Qm [1] mo (by rw [hN];decide) fun K hK=>?_;simp [-Q0,-Q5,-Q1,-Q6,-Q2];repeat refine sdQ ?_
 refine hK _ ?_;clear hK K;refine tn ?_;refine Q8 (st':=⟨[(1,.rptr (Fn.cells true d_))],[],0⟩) (Qh []) ?_;refine Q3 ?_;refine Qm [] mo (by rw [hN];decide) fun K hK=>?_;simp [-Q0,-Q5,-Q1,-Q6,-Q2];repeat with_reducible refine sdQ ?_
 replace h:=bind_some h;obtain ⟨v1,hv1,h⟩:=h;refine Q2h (fz:=[]) true (Q6W _ v1 hv1) (PurK.ofN (.cons (.aggL (.cons .val (.cons .lst (.cons .lst (.cons .lst (.cons .lst (.cons .val (.cons .lst (.cons .lst (.cons .lst (.cons .lst (.cons .lst (.cons .lst .nil))))))))))))) .nil)) ?_;simp [-Q0,-Q5,-Q1,-Q6,-Q2,unk,unA,unE,unT,unC,flat];repeat refine sdQ ?_
 refine hK _ ?_;clear hK K;refine tn ?_;refine Q8 (st':=⟨[(4,.lst true 2 (Es (Cone.cells true) v1))],[],0⟩) (Qh []) ?_;refine Q3 ?_;refine Q3 ?_;refine Qm [] mo (by rw [hN];decide) fun K hK=>?_;simp [-Q0,-Q5,-Q1,-Q6,-Q2];repeat refine sdQ ?_
 refine hK _ ?_;clear hK K;refine tn ?_;refine Q8 (st':=⟨[(4,.lst true 2 (Es (Cone.cells true) v1)),(9,.val (.bool (decide ((v1.length:Int) > 400))))],[],0⟩) (Qh []) ?_;refine Qc rfl (fun g=>?_) fun g=>?_
 ·have g2:(v1.length:Int) > 400:=gQ;clear g;replace h:=if_l g2 h;refine Q3 ?_;refine Qm [] mo (by rw [hN];decide) fun K hK=>?_;simp [-Q0,-Q5,-Q1,-Q6,-Q2];repeat refine sdQ ?_
  refine hK _ ?_;clear hK K;refine tn ?_;refine Q8 (st':=⟨[(2,.val (.slice none 0 0)),(3,iV 3)],[],0⟩) (Qh []) ?_;refine Qi ?_;refine tr ?_;have hr:=Option.some.inj h;rw [← hr];exact (.two .nil (.two .val .nil))
 have g2:¬ ((v1.length:Int) > 400):=gQ;clear g;replace h:=if_r g2 h;refine Qd ?_;refine tn ?_;refine Q3 ?_;refine Qm [] mo (by rw [hN];decide) fun K hK=>?_;simp [-Q0,-Q5,-Q1,-Q6,-Q2];repeat refine sdQ ?_
 refine hK _ ?_;clear hK K;refine tn ?_;refine Q8 (st':=⟨[(2,.lst true 2 (Es (Cone.cells true) v1)),(3,iV 0)],[],0⟩) (Qh []) ?_;refine Qi ?_;have hr:=Option.some.inj h;rw [← hr];exact (.two .lst (.two .val .nil))
theorem e_index {l:List Int} (hl:l.length≤1000) (v:Int):∃ r,Q21 l v=some r:=by
 unfold Q21;refine QX (σ:=Int) (Q:=fun z=>∃ r:Int,z=some r) l.length (fun i s=>s=(i:Int)) (fun _=>True) (by omega) rfl ?_ ?_ ?_
 ·intro i s hi hs;subst hs;rw [if_pos (by omega),Q9 (by omega)]
  by_cases h:ix l i=v
  ·rw [if_pos h];exact .inr ⟨_,rfl,trivial⟩
  rw [if_neg h,Q9 (by unfold B64;omega)];exact .inl ⟨_,rfl,rfl⟩
 ·intro s hs;subst hs;rw [if_neg (by omega)];exact ⟨_,rfl,trivial⟩
 intro e _;cases e<;>exact ⟨_,rfl⟩
theorem e_classes {l:List Int} (hl:l.length≤100):∃ r,Q1r l=some r∧r.length=l.length:=by
 unfold Q1r;refine QX (σ:=List Int × List Int × Int) (Q:=fun z=>∃ r:List Int,z=some r∧r.length=l.length) l.length (fun i (s:List Int × List Int × Int)=>s.1.length=i∧s.2.1.length≤i∧s.2.2=(i:Int)) (fun e:List Int=>e.length=l.length) (by omega) ⟨rfl,Nat.le_refl _,rfl⟩ ?_ ?_ ?_
 ·intro i s hi ⟨h1,h2,h3⟩;obtain ⟨a,b,y⟩:=s;simp only at h1 h2 h3 ⊢;subst h3;left;obtain ⟨v,hv⟩:=e_index (l:=b) (by omega) (ix l i);rw [if_pos (by omega),Q9 (by omega),hv];simp only [Option.bind_some]
  by_cases hn:v<0
  ·rw [if_pos hn,Q9 (by omega),Q9 (by simp;omega)];simp only [Option.bind_some];rw [Q9 (by simp;omega),Q9 (by unfold B64;omega)];exact ⟨_,rfl,by simp;omega,by simp;omega,rfl⟩
  rw [if_neg hn];simp only [Option.bind_some];rw [Q9 (by simp;omega),Q9 (by unfold B64;omega)];exact ⟨_,rfl,by simp;omega,by simp;omega,rfl⟩
 ·intro s ⟨h1,h2,h3⟩;obtain ⟨a,b,y⟩:=s;simp only at h1 h2 h3 ⊢;rw [if_neg (by omega)];exact ⟨_,rfl,h1⟩
 intro e he;exact ⟨e,rfl,he⟩
theorem e_join {n:Nat} (hn:n≤100) {ps:List (List Int)} (hp:ps.length≤1000) (H:∀ i:Nat,i<ps.length→∃ a b:Int,rx ps i=[a,b]∧(0≤a∧a<(n:Int))∧(0≤b∧b<(n:Int))):∃ r,Q2q (n:Int) ps=some r∧r.length=n:=by
 unfold Q2q;refine QX (σ:=List Int × Int) (Q:=fun z=>∃ r:List Int,z=some r∧r.length=n) n (fun i (s:List Int × Int)=>s.1.length=i∧s.2=(i:Int)) (fun e:List Int=>e.length=n) (by omega) ⟨rfl,rfl⟩ ?_ ?_ ?_
 ·intro i s hi ⟨h1,h2⟩;obtain ⟨a,y⟩:=s;simp only at h1 h2 ⊢;subst h2;rw [if_pos (by omega),Q9 (by simp;omega),Q9 (by unfold B64;omega)];exact .inl ⟨_,rfl,by simp;omega,rfl⟩
 ·intro s ⟨h1,h2⟩;obtain ⟨a,y⟩:=s;simp only at h1 h2 ⊢;rw [if_neg (by omega)];exact ⟨_,rfl,h1⟩
 intro b1 hb1;refine QX (σ:=List Int × Int) (Q:=fun z=>∃ r:List Int,z=some r∧r.length=n) ps.length (fun i (s:List Int × Int)=>s.1.length=n∧s.2=(i:Int)) (fun e:List Int=>e.length=n) (by omega) ⟨hb1,rfl⟩ ?_ ?_ ?_
 ·intro i s hi ⟨h1,h2⟩;obtain ⟨L,y⟩:=s;simp only at h1 h2 ⊢;subst h2;left;obtain ⟨a,b,e,ha,hb⟩:=H i hi;have ea:ix (rx ps i) 0=a:=by rw [e];rfl
  have eb:ix (rx ps i) 1=b:=by rw [e];rfl
  have el:(rx ps i).length=2:=by rw [e];rfl
  rw [if_pos (by omega)];simp only [ea,eb,el];rw [Q9 (by omega),Q9 (by omega),Q9 (by omega),Q9 (by omega),Q9 (by omega),Q9 (by omega)];simp only [Option.bind_assoc];refine QX (σ:=List Int × Int) (Q:=fun z=>∃ s':List Int × Int,z=some (Ctl.next s':Ctl (List Int × Int) (List Int))∧s'.1.length=n∧s'.2=((i+1:Nat):Int)) n (fun q (s:List Int × Int)=>s.1.length=n∧s.2=(q:Int)) (fun e:List Int=>e.length=n) (by omega) ⟨h1,rfl⟩ ?_ ?_ ?_
  ·intro q s hq ⟨g1,g2⟩;obtain ⟨M,z⟩:=s;simp only at g1 g2 ⊢;subst g2;rw [if_pos (by omega)];simp only [Option.bind_some]
   by_cases hne:(ix L a != ix L b)=true
   ·rw [if_pos hne,Q9 (by omega)];left
    by_cases hz:ix M q=ix L b
    ·rw [if_pos hz,Q9 (by omega)];simp only [Option.bind_some];rw [Q9 (by unfold B64;omega)];exact ⟨_,rfl,by simp [g1],rfl⟩
    rw [if_neg hz];simp only [Option.bind_some];rw [Q9 (by unfold B64;omega)];exact ⟨_,rfl,g1,rfl⟩
   rw [if_neg hne];exact .inr ⟨_,rfl,g1⟩
  ·intro s ⟨g1,g2⟩;obtain ⟨M,z⟩:=s;simp only at g1 g2 ⊢;rw [if_neg (by omega)];simp only [Option.bind_some,Bool.false_eq_true,if_false];exact ⟨_,rfl,g1⟩
  intro e he;simp only [Option.bind_some];rw [Q9 (by unfold B64;omega)];exact ⟨_,rfl,he,by simp⟩
 ·intro s ⟨h1,h2⟩;obtain ⟨L,y⟩:=s;simp only at h1 h2 ⊢;rw [if_neg (by omega)];exact ⟨_,rfl,h1⟩
 intro e he;obtain ⟨r,hr,hr2⟩:=e_classes (l:=e) (by omega);rw [hr];exact ⟨r,rfl,by omega⟩
theorem start_CV {d:Fn} {x:Int} {P:Nat→Prop} [DecidablePred P]:CV d x (tab d.ob.length fun y=>if P y then -1 else -2):=by
 refine ⟨by simp [tab],fun i hi=>?_⟩;rw [ix_tab _ _ hi]
 by_cases h:P i<;>simp [h]
set_option maxHeartbeats 1000000 in
theorem e_find7 {d:Fn} (hd:d.Is) {x:Int} (hx:0≤x∧x<d.t.n) {most:Nat} (hm:most≤401) (h1:0<most):Q2t (cstF d x) d false most=some ((lext d x d.ob.length []).take most):=by
 obtain ⟨l1,l2,l3,l4,l5,l6,l7,l8⟩:=hd.fact;have e100:∀ c:List Int,CV d x c→c.count (-1)<100:=fun c hc=>by
  have:=List.count_le_length (a:=(-1:Int)) (l:=c);have:=hc.1;omega
 unfold Q2t;refine Q2R d.ar.length (fun i=>(List.range i).map fun a:Nat=>[ix d.s.fr a,ix d.s.to a]) (e:=(List.range d.ar.length).map fun a:Nat=>[ix d.s.fr a,ix d.s.to a]) rfl (by omega) (fun i hi=>?_) ?_ ?_
 ·simp only;rw [if_pos (by show (i:Int)<(d.s.fr.length:Int);omega),Q9 (by show 0≤(i:Int)∧(i:Int)<(d.s.fr.length:Int);omega),Q9 (by show 0≤(i:Int)∧(i:Int)<(d.s.to.length:Int);omega),Q9 (by simp;omega),Q9 (by unfold B64;omega),List.range_succ];simp [cstF]
 ·simp only;rw [if_neg (by show ¬ (d.ar.length:Int)<(d.s.fr.length:Int);omega)]
 obtain ⟨v,hv,hvl⟩:=e_join (n:=d.ob.length) (by omega) (ps:=(List.range d.ar.length).map fun a:Nat=>[ix d.s.fr a,ix d.s.to a]) (by simp;omega) (fun i hi=>by
  simp only [List.length_map,List.length_range] at hi;obtain ⟨f1,f2,f3⟩:=l8 i hi;exact ⟨ix d.s.fr i,ix d.s.to i,by simp [rx,List.getD_eq_getElem?_getD,hi],f1,f2⟩)
 rw [show (cstF d x).s.n=(d.ob.length:Int) from l1.symm,hv];simp only [Option.bind_some];refine QX (σ:=List Int × Int) (Q:=fun z=>z=some ((lext d x d.ob.length []).take most)) d.ob.length (fun i s=>s=(List.replicate i (-1),(i:Int)))
  (fun e:List Int ⊕ List (List Int)=>match e with
   | .inl e=>e=List.replicate d.ob.length (-1)
   | .inr e=>e=[]∧lext d x d.ob.length []=[]) (by omega) rfl ?_ ?_ ?_
 ·intro i s hi hs;subst hs;simp only;rw [if_pos (by omega),Q9 (by simp;omega)]
  let P:Nat→Prop:=fun y=>ix v (y:Int)=(i:Int)
  have hdec:DecidablePred P:=fun y=>inferInstanceAs (Decidable (ix v (y:Int)=(i:Int)))
  let st:Nat→List Int:=fun j=>tab j fun y=>if P y then -1 else -2
  have hst:CV d x (st d.ob.length):=start_CV;refine QX (σ:=List Int × Int) (Q:=fun z=>(∃ s':List Int × Int,z=some (Ctl.next s':Ctl (List Int × Int) (List Int ⊕ List (List Int)))∧s'=(List.replicate (i+1) (-1),((i+1:Nat):Int)))∨∃ e:List Int ⊕ List (List Int),z=some (.ret e)∧match e with
   | .inl e=>e=List.replicate d.ob.length (-1)
   | .inr e=>e=[]∧lext d x d.ob.length []=[]) d.ob.length (fun j s=>s=(st j,(j:Int))) (fun e=>e=st d.ob.length) (by omega) rfl ?_ ?_ ?_
  ·intro j s hj hs;subst hs;have hl:(st j).length=j:=(by simp [st,tab]);have hs1:st (j+1)=st j++[if P j then -1 else -2]:=tab_succ _ _;left;simp only;rw [if_pos (by omega),Q9 (by omega)]
   by_cases h:P j
   ·have h':ix v (j:Int)=(i:Int):=h;rw [if_pos h',Q9 (by simp;omega)];simp only [Option.bind_some];rw [Q9 (by unfold B64;omega)];exact ⟨_,rfl,by rw [hs1,if_pos h];rfl⟩
   have h':¬ ix v (j:Int)=(i:Int):=h;rw [if_neg h',Q9 (by simp;omega)];simp only [Option.bind_some];rw [Q9 (by unfold B64;omega)];exact ⟨_,rfl,by rw [hs1,if_neg h];rfl⟩
  ·intro s hs;subst hs;simp only;rw [if_neg (by omega)];exact ⟨_,rfl,rfl⟩
  intro e he;subst he;have hg:=e_go hd hx (most:=1) (by omega) 100 (st d.ob.length) [] hst (e100 _ hst) (by simp);rw [show ((1:Nat):Int)=1 from rfl] at hg;rw [hg];simp only [Option.bind_some,List.nil_append]
  by_cases hG:cG d x 100 (st d.ob.length)=[]
  ·right;refine ⟨.inr [],by simp [hG],rfl,?_⟩;rw [List.eq_nil_iff_forall_not_mem];intro q hq;obtain ⟨q1,q2,q3⟩:=Q6C hd hq;refine cG_some hd q2 q1 q3 100 _ hst (e100 _ hst) (fun j h0 h1 h2=>?_) hG;obtain ⟨j,rfl⟩:=Int.eq_ofNat_of_zero_le h0;simp only [st] at h2;rw [ix_tab _ _ (by omega)] at h2
   by_cases h:P j
   ·rw [if_pos h] at h2;omega
   rw [if_neg h] at h2;omega
  left;have hne:¬ ((((cG d x 100 (st d.ob.length)).take (1 - ([]:List (List Int)).length)).length:Nat):Int)=0:=by
   have:=List.length_pos_iff.2 hG;simp only [List.length_take,List.length_nil];omega
  rw [if_neg hne,Q9 (by unfold B64;omega)];exact ⟨_,rfl,by rw [← List.replicate_succ'];rfl⟩
 ·intro s hs;subst hs;simp only;rw [if_neg (by omega)];exact ⟨_,rfl,rfl⟩
 intro e he;cases e with
 | inr e=>rw [he.1,he.2];simp
 | inl e =>
  simp only at he ⊢;subst he;have hp:CV d x ([]++List.replicate d.ob.length (-1)):=pad_CV (by simp) (fun i hi=>by simp at hi);have hg:=e_go hd hx hm 100 _ [] hp (e100 _ hp) (by simpa using h1);rw [cG_lext hd d.ob.length 100 [] (by simp) (by omega) (fun i hi=>by simp at hi)] at hg;simp only [List.nil_append,List.length_nil,Nat.sub_zero] at hg;rw [hg];rfl
theorem Q87 (d:Fn) {i n:Nat} (h:i≤n):∃ B,Q1h d n=Q1h d i++B:=by
 obtain ⟨m,rfl⟩:=Nat.le.dest h;clear h
 induction m with
 | zero=>exact ⟨[],by simp⟩
 | succ m ih =>
  obtain ⟨B,hB⟩:=ih;exact ⟨B++Q57 d (i+m:Nat),by rw [← Nat.add_assoc,Q2e,hB,List.append_assoc]⟩
theorem e_cones {d:Fn} (hd:d.Is):Q22 d=some ((QP d).take 401):=by
 obtain ⟨l1,l2,l3,l4,l5,l6,l7,l8⟩:=hd.fact;have n8:=hd.t.1.n8;have n0:=hd.t.1.n0;unfold Q22;refine QX (σ:=List Cone × Int) (Q:=fun z=>z=some ((QP d).take 401)) d.t.n.toNat (fun i s=>s=((Q1h d i).take 401,(i:Int))) (fun e=>e=(QP d).take 401) (by omega) rfl ?_ ?_ (fun e he=>by rw [he])
 ·intro i s hi hs;subst hs;have hin:(i:Int)<d.t.n:=by omega
  simp only;rw [if_pos hin];simp only [Option.bind_some]
  by_cases h:(Q1h d i).length≤400
  ·left;have e1:(Q1h d i).take 401=Q1h d i:=List.take_of_length_le (by omega);rw [e1,if_pos (by simp;omega),e_const hd ⟨by omega,hin⟩];simp only [Option.bind_some];rw [Q9 (by unfold B64;omega),show (401 - ((Q1h d i).length:Int))=((401 - (Q1h d i).length:Nat):Int) by omega,e_find7 hd ⟨by omega,hin⟩ (by omega) (by omega)];simp only [Option.bind_some,Option.bind_assoc]
   let V:=(lext d i d.ob.length []).take (401 - (Q1h d i).length)
   have hV:V.length≤401 - (Q1h d i).length:=(by simp only [V,List.length_take];omega);have hres:Q1h d i++V.map (Cone.mk i)=(Q1h d (i+1)).take 401:=by
    rw [Q2e,List.take_append,e1];simp [V,Q57,List.map_take]
   show ∃ s',((Qy _ _ _).bind _)=_∧_;refine ⟨((Q1h d (i+1)).take 401,(i:Int)+1),?_,rfl⟩;refine Q2R V.length (fun q=>Q1h d i++(V.take q).map (Cone.mk i)) (e:=(Q1h d (i+1)).take 401) (by simp) (by omega) (fun q hq=>?_) ?_ ?_
   ·simp only;rw [if_pos (show (q:Int)<(V.length:Int) by omega),Q9 (show 0≤(q:Int)∧(q:Int)<(V.length:Int) by omega),Q9 (by simp only [List.length_append,List.length_map,List.length_take,List.length_singleton];omega),Q9 (by unfold B64;omega)];rw [List.take_succ_eq_append_getElem hq,Q2x _ _ hq];simp [V]
   ·simp only [List.take_length];rw [if_neg (show ¬ (V.length:Int)<(V.length:Int) by omega),hres]
   rw [Q9 (by unfold B64;omega)]
  right;have hf:¬ ((((Q1h d i).take 401).length:Nat):Int)≤400:=by simp only [List.length_take];omega
  refine ⟨(Q1h d i).take 401,by simp [hf];omega,?_⟩;obtain ⟨B,hB⟩:=Q87 d (i:=i) (n:=d.t.n.toNat) (by omega);unfold QP;rw [hB,List.take_append_of_le_length (by omega)]
 intro s hs;subst hs;simp only;rw [if_neg (by omega)];exact ⟨_,rfl,rfl⟩
theorem e_clist {d:Fn} (hd:d.Is):Q1Q d=some (if (QP d).length≤400 then (QP d,0) else ([],3)):=by
 unfold Q1Q;rw [e_cones hd];simp only [Option.bind_some]
 by_cases h:(QP d).length≤400
 ·rw [if_pos h,if_neg (by simp only [List.length_take];omega),List.take_of_length_le (by omega)]
 rw [if_neg h,if_pos (by simp only [List.length_take];omega)]
attribute [local simp] eL eI Qs QH Q1D QZ Cat.cells Cone.cells Fn.cells
noncomputable def Q20 (d_:Fn) (p_:Cone) (q_:Cone):Option (List Int) :=
 (QB d_.t p_.a q_.a).bind fun v1 =>
 (Qy (σ:=List Int × Int) (ε:=List Int) (fun s22 =>
  if s22.2<(v1.length:Int) then
   (
    ass (0≤s22.2∧s22.2<(v1.length:Int)) <|
    (Qy (σ:=Int) (ε:=Unit ⊕ (List Int)) (fun s33 =>
     if s33<(q_.l.length:Int) then
      ass (0≤s33∧s33<(q_.l.length:Int)) <|
      (Qw d_.t (ix v1 s22.2) (ix q_.l s33)).bind fun v36 =>
      ass (0≤s33∧s33<(p_.l.length:Int)) <|
      if ¬ (v36=(ix p_.l s33)) then
       some (Ctl.ret (Sum.inr s22.1))
      else
       ass (B64 (s33+1)) <|
       some (Ctl.next (s33+1))
     else
      some (Ctl.ret (Sum.inl ()))) fuel 0).bind fun e26 =>
    match e26 with
    | .inl b26 =>
     ass ((s22.1++[ix v1 s22.2]).length≤1073741824) <|
     some (s22.1++[ix v1 s22.2])
    | .inr p26 =>
     some p26:Option (List Int)).bind fun b24 =>
   ass (B64 (s22.2+1)) <|
   some (Ctl.next (b24,s22.2+1))
  else
   some (Ctl.ret s22.1)) fuel ([],0)).bind fun b2 =>
 some b2
theorem Q6S (d_:Fn) (p_:Cone) (q_:Cone) (r:List Int) (h:Q20 d_ p_ q_=some r):Contract Try.prog 133 [.rptr (d_.cells true),.agg (p_.cells true),.agg (q_.cells true)] (lI r):=by
 refine Qe (rvs:=[.tmp 6]) (rs:=[lI r]) Try.func133 rfl rfl rfl rfl (by simp [Try.f133]) fun F hN hP=>?_;unfold Q20 at h;refine Q3 ?_;refine runQ hN fun K hK=>?_;simp [-Q0,-Q5,-Q1,-Q6,-Q2];repeat refine sdQ ?_
 refine hK _ ?_;clear hK K;refine tn ?_;refine Q8 (st':=⟨[(0,.rptr (Fn.cells true d_)),(4,.adr 0 0 0),(5,.adr 1 0 0)],[(0,.mix 2 [(Cone.cells true p_)]),(1,.mix 2 [(Cone.cells true q_)])],2⟩) (Qh [(0,0),(1,1)]) ?_;refine w_scope ?_;refine Q3 ?_;refine runQ hN fun K hK=>?_;simp [-Q0,-Q5,-Q1,-Q6,-Q2];repeat refine sdQ ?_
 refine hK _ ?_;clear hK K;refine tn ?_;refine Q8 (st':=⟨[(4,.adr 0 0 0),(5,.adr 1 0 0),(7,.rptr [iV d_.t.n,lI d_.t.fr,lI d_.t.to,lI d_.t.id,.lst true 1 (Ls d_.t.cs),lI d_.ob,lI d_.ar])],[(0,.mix 2 [(Cone.cells true p_)]),(1,.mix 2 [(Cone.cells true q_)])],2⟩) (Qh [(0,0),(1,1)]) ?_;refine Q3 ?_;refine runQ hN fun K hK=>?_;simp [-Q0,-Q5,-Q1,-Q6,-Q2];repeat refine sdQ ?_
 refine hK _ ?_;clear hK K;refine tn ?_;refine Q8 (st':=⟨[(4,.adr 0 0 0),(5,.adr 1 0 0),(7,.rptr [iV d_.t.n,lI d_.t.fr,lI d_.t.to,lI d_.t.id,.lst true 1 (Ls d_.t.cs),lI d_.ob,lI d_.ar]),(8,.own 2 0 0)],[(0,.mix 2 [(Cone.cells true p_)]),(1,.mix 2 [(Cone.cells true q_)]),(2,.mix 1 [])],3⟩) (Qh [(0,0),(1,1),(2,2)]) ?_;refine Q3 ?_;refine w_label ?_;refine tn ?_;refine Q3 ?_;refine Q3 ?_;refine runQ hN fun K hK=>?_;simp [-Q0,-Q5,-Q1,-Q6,-Q2];repeat with_reducible refine sdQ ?_
 replace h:=bind_some h;obtain ⟨v1,hv1,h⟩:=h;refine Q4 (Q33 _ _ _ v1 hv1) (.cons (.preT (by simp [Cat.cells,Cone.cells,Fn.cells])) (.cons .val (.cons .val .nil))) ?_;simp [-Q0,-Q5,-Q1,-Q6,-Q2,unk,unA,unE,unT,unC,flat];repeat refine sdQ ?_
 refine hK _ ?_;clear hK K;refine tn ?_;refine Q8 (st':=⟨[(4,.adr 0 0 0),(5,.adr 1 0 0),(7,.rptr [iV d_.t.n,lI d_.t.fr,lI d_.t.to,lI d_.t.id,.lst true 1 (Ls d_.t.cs),lI d_.ob,lI d_.ar]),(8,.own 2 0 0),(22,.own 3 0 v1.length),(23,iV (v1.length:Int)),(24,iV 0)],[(0,.mix 2 [(Cone.cells true p_)]),(1,.mix 2 [(Cone.cells true q_)]),(2,.mix 1 []),(3,rI v1)],4⟩) (Qh [(0,0),(1,1),(2,2),(3,3)]) ?_;replace h:=bind_some h;obtain ⟨e2,h,h2⟩:=h;refine Qk (fun b2:List Int=>⟨[(8,.own 0 0 b2.length)],[(0,rI b2)],1⟩) (fun b2=>b2=e2) ?_ ?_
 ·refine Qa ?_;refine Qx h (fun s22:List Int × Int=>⟨[(4,.adr 0 0 0),(5,.adr 1 0 0),(7,.rptr [iV d_.t.n,lI d_.t.fr,lI d_.t.to,lI d_.t.id,.lst true 1 (Ls d_.t.cs),lI d_.ob,lI d_.ar]),(8,.own 2 0 s22.1.length),(22,.own 3 0 v1.length),(23,iV (v1.length:Int)),(24,iV s22.2)],[(0,.mix 2 [(Cone.cells true p_)]),(1,.mix 2 [(Cone.cells true q_)]),(2,rI s22.1),(3,rI v1)],4⟩) (Q3m ⟨[(4,.adr 0 0 0),(5,.adr 1 0 0),(7,.rptr [iV d_.t.n,lI d_.t.fr,lI d_.t.to,lI d_.t.id,.lst true 1 (Ls d_.t.cs),lI d_.ob,lI d_.ar]),(8,.own 2 0 0),(22,.own 3 0 v1.length),(23,iV (v1.length:Int)),(24,iV 0)],[(0,.mix 2 [(Cone.cells true p_)]),(1,.mix 2 [(Cone.cells true q_)]),(2,rI []),(3,rI v1)],4⟩ (Wk.nils [] (by simp) (by simp) (by simp [nlA]) (by simp [entN,nlL,nlA,Cat.cells,Cone.cells,Fn.cells,UA,U1,IA,I1,LA,L1,BA,B1,EA,E1,E2,eB,eI,eL]) (by simp)) (Qh [(0,0),(1,1),(2,2),(3,3)])) ?_;clear h;intro k22 s22 c22 h hk22;refine Q3 ?_;refine runQ hN fun K hK=>?_;simp [-Q0,-Q5,-Q1,-Q6,-Q2];repeat refine sdQ ?_
  refine hK _ ?_;clear hK K;refine tn ?_;refine Q8 (st':=⟨[(4,.adr 0 0 0),(5,.adr 1 0 0),(7,.rptr [iV d_.t.n,lI d_.t.fr,lI d_.t.to,lI d_.t.id,.lst true 1 (Ls d_.t.cs),lI d_.ob,lI d_.ar]),(8,.own 2 0 s22.1.length),(22,.own 3 0 v1.length),(23,iV (v1.length:Int)),(24,iV s22.2),(25,.val (.bool (decide (s22.2<(v1.length:Int)))))],[(0,.mix 2 [(Cone.cells true p_)]),(1,.mix 2 [(Cone.cells true q_)]),(2,rI s22.1),(3,rI v1)],4⟩) (Qh [(0,0),(1,1),(2,2),(3,3)]) ?_;refine Q3 ?_;refine Qc rfl (fun g=>?_) fun g=>?_
  ·have g23:s22.2<(v1.length:Int):=gQ;clear g;replace h:=if_l g23 h;refine Qd ?_;refine tn ?_;refine Q3 ?_;replace h:=bind_some h;obtain ⟨e24,h,h24⟩:=h;refine Qk (fun b24:List Int=>⟨[(4,.adr 0 0 0),(5,.adr 1 0 0),(7,.rptr [iV d_.t.n,lI d_.t.fr,lI d_.t.to,lI d_.t.id,.lst true 1 (Ls d_.t.cs),lI d_.ob,lI d_.ar]),(8,.own 2 0 b24.length),(22,.own 3 0 v1.length),(23,iV (v1.length:Int)),(24,iV s22.2)],[(0,.mix 2 [(Cone.cells true p_)]),(1,.mix 2 [(Cone.cells true q_)]),(2,rI b24),(3,rI v1)],4⟩) (fun b24=>b24=e24) ?_ ?_
   ·refine Qa ?_;refine Q3 ?_;refine runQ hN fun K hK=>?_;replace h:=Q7 h;obtain ⟨a25,h⟩:=h;simp [-Q0,-Q5,-Q1,-Q6,-Q2,at_I a25];(repeat refine sdQ ?_);refine hK _ ?_;clear hK K;refine tn ?_;refine Q8 (st':=⟨[(4,.adr 0 0 0),(5,.adr 1 0 0),(7,.rptr [iV d_.t.n,lI d_.t.fr,lI d_.t.to,lI d_.t.id,.lst true 1 (Ls d_.t.cs),lI d_.ob,lI d_.ar]),(8,.own 2 0 s22.1.length),(10,iV (ix v1 s22.2)),(22,.own 3 0 v1.length),(23,iV (v1.length:Int)),(24,iV s22.2)],[(0,.mix 2 [(Cone.cells true p_)]),(1,.mix 2 [(Cone.cells true q_)]),(2,rI s22.1),(3,rI v1)],4⟩) (Qh [(0,0),(1,1),(2,2),(3,3)]) ?_;refine Q3 ?_;refine Q3 ?_;refine runQ hN fun K hK=>?_;simp [-Q0,-Q5,-Q1,-Q6,-Q2];(repeat refine sdQ ?_);refine hK _ ?_;clear hK K;refine tn ?_;refine Q8 (st':=⟨[(4,.adr 0 0 0),(5,.adr 1 0 0),(7,.rptr [iV d_.t.n,lI d_.t.fr,lI d_.t.to,lI d_.t.id,.lst true 1 (Ls d_.t.cs),lI d_.ob,lI d_.ar]),(8,.own 2 0 s22.1.length),(10,iV (ix v1 s22.2)),(22,.own 3 0 v1.length),(23,iV (v1.length:Int)),(24,iV s22.2),(29,lI q_.l),(30,iV (q_.l.length:Int)),(31,iV 0)],[(0,.mix 2 [(Cone.cells true p_)]),(1,.mix 2 [(Cone.cells true q_)]),(2,rI s22.1),(3,rI v1)],4⟩) (Qh [(0,0),(1,1),(2,2),(3,3)]) ?_;replace h:=bind_some h;obtain ⟨e26,h,h26⟩:=h;refine Qk (fun b26:Unit=>⟨[(4,.adr 0 0 0),(5,.adr 1 0 0),(7,.rptr [iV d_.t.n,lI d_.t.fr,lI d_.t.to,lI d_.t.id,.lst true 1 (Ls d_.t.cs),lI d_.ob,lI d_.ar]),(8,.own 2 0 s22.1.length),(10,iV (ix v1 s22.2)),(22,.own 3 0 v1.length),(23,iV (v1.length:Int)),(24,iV s22.2)],[(0,.mix 2 [(Cone.cells true p_)]),(1,.mix 2 [(Cone.cells true q_)]),(2,rI s22.1),(3,rI v1)],4⟩) (fun b26=>Sum.inl b26=e26) ?_ ?_
    ·refine Qa ?_;refine Qx h (fun s33:Int=>⟨[(4,.adr 0 0 0),(5,.adr 1 0 0),(7,.rptr [iV d_.t.n,lI d_.t.fr,lI d_.t.to,lI d_.t.id,.lst true 1 (Ls d_.t.cs),lI d_.ob,lI d_.ar]),(8,.own 2 0 s22.1.length),(10,iV (ix v1 s22.2)),(22,.own 3 0 v1.length),(23,iV (v1.length:Int)),(24,iV s22.2),(29,lI q_.l),(30,iV (q_.l.length:Int)),(31,iV s33)],[(0,.mix 2 [(Cone.cells true p_)]),(1,.mix 2 [(Cone.cells true q_)]),(2,rI s22.1),(3,rI v1)],4⟩) (Qh [(0,0),(1,1),(2,2),(3,3)]) ?_;clear h;intro k33 s33 c33 h hk33;refine Q3 ?_;refine runQ hN fun K hK=>?_;simp [-Q0,-Q5,-Q1,-Q6,-Q2];(repeat refine sdQ ?_);refine hK _ ?_;clear hK K;refine tn ?_;refine Q8 (st':=⟨[(4,.adr 0 0 0),(5,.adr 1 0 0),(7,.rptr [iV d_.t.n,lI d_.t.fr,lI d_.t.to,lI d_.t.id,.lst true 1 (Ls d_.t.cs),lI d_.ob,lI d_.ar]),(8,.own 2 0 s22.1.length),(10,iV (ix v1 s22.2)),(22,.own 3 0 v1.length),(23,iV (v1.length:Int)),(24,iV s22.2),(29,lI q_.l),(30,iV (q_.l.length:Int)),(31,iV s33),(32,.val (.bool (decide (s33<(q_.l.length:Int)))))],[(0,.mix 2 [(Cone.cells true p_)]),(1,.mix 2 [(Cone.cells true q_)]),(2,rI s22.1),(3,rI v1)],4⟩) (Qh [(0,0),(1,1),(2,2),(3,3)]) ?_;refine Q3 ?_;refine Qc rfl (fun g=>?_) fun g=>?_
     ·have g34:s33<(q_.l.length:Int):=gQ;clear g;replace h:=if_l g34 h;refine Qd ?_;refine tn ?_;refine Q3 ?_;refine Qa ?_;refine Q3 ?_;refine runQ hN fun K hK=>?_;replace h:=Q7 h;obtain ⟨a35,h⟩:=h;simp [-Q0,-Q5,-Q1,-Q6,-Q2,at_I a35];(repeat refine sdQ ?_);refine hK _ ?_;clear hK K;refine tn ?_;refine Q8 (st':=⟨[(4,.adr 0 0 0),(5,.adr 1 0 0),(7,.rptr [iV d_.t.n,lI d_.t.fr,lI d_.t.to,lI d_.t.id,.lst true 1 (Ls d_.t.cs),lI d_.ob,lI d_.ar]),(8,.own 2 0 s22.1.length),(10,iV (ix v1 s22.2)),(11,iV s33),(12,iV (ix q_.l s33)),(22,.own 3 0 v1.length),(23,iV (v1.length:Int)),(24,iV s22.2),(29,lI q_.l),(30,iV (q_.l.length:Int)),(31,iV s33)],[(0,.mix 2 [(Cone.cells true p_)]),(1,.mix 2 [(Cone.cells true q_)]),(2,rI s22.1),(3,rI v1)],4⟩) (Qh [(0,0),(1,1),(2,2),(3,3)]) ?_;refine Q3 ?_;refine runQ hN fun K hK=>?_;simp [-Q0,-Q5,-Q1,-Q6,-Q2];(repeat with_reducible refine sdQ ?_);replace h:=bind_some h;obtain ⟨v36,hv36,h⟩:=h;refine Q4 (Q1R _ _ _ v36 hv36) (.cons (.preT (by simp [Cat.cells,Cone.cells,Fn.cells])) (.cons .val (.cons .val .nil))) ?_;replace h:=Q7 h;obtain ⟨a37,h⟩:=h;simp [-Q0,-Q5,-Q1,-Q6,-Q2,unk,unA,unE,unT,unC,flat,at_I a37];(repeat refine sdQ ?_);refine hK _ ?_;clear hK K;refine tn ?_;refine Q8 (st':=⟨[(4,.adr 0 0 0),(5,.adr 1 0 0),(7,.rptr [iV d_.t.n,lI d_.t.fr,lI d_.t.to,lI d_.t.id,.lst true 1 (Ls d_.t.cs),lI d_.ob,lI d_.ar]),(8,.own 2 0 s22.1.length),(10,iV (ix v1 s22.2)),(22,.own 3 0 v1.length),(23,iV (v1.length:Int)),(24,iV s22.2),(29,lI q_.l),(30,iV (q_.l.length:Int)),(31,iV s33),(45,.val (.bool (v36 != (ix p_.l s33))))],[(0,.mix 2 [(Cone.cells true p_)]),(1,.mix 2 [(Cone.cells true q_)]),(2,rI s22.1),(3,rI v1)],4⟩) (Qh [(0,0),(1,1),(2,2),(3,3)]) ?_;refine Qc rfl (fun g=>?_) fun g=>?_
      ·have g38:¬ (v36=(ix p_.l s33)):=gQ;clear g;replace h:=if_l g38 h;refine Qp ?_;refine bm (by decide) ?_;refine tx ?_;refine lx ?_;refine bm (by decide) ?_;refine tx ?_;refine bh ?_;cases h;have q:_=e26:=hk33;have h:=h26;rw [← q] at h;clear q;(try dsimp only at h);exact jn (b:=s22.1) (Option.some.inj h) (Qh [(0,0),(1,1),(2,2),(3,3)])
      have g38:¬ (¬ (v36=(ix p_.l s33))):=gQ;clear g;replace h:=if_r g38 h;refine Qd ?_;refine bn ?_;refine tn ?_;refine runQ hN fun K hK=>?_;replace h:=Q7 h;obtain ⟨a39,h⟩:=h;simp [-Q0,-Q5,-Q1,-Q6,-Q2,Qu a39];(repeat refine sdQ ?_);refine hK _ ?_;clear hK K;cases h;exact rn (s':=s33+1) hk33 (Qh [(0,0),(1,1),(2,2),(3,3)])
     have g34:¬ (s33<(q_.l.length:Int)):=gQ;clear g;replace h:=if_r g34 h;refine Qp ?_;refine tx ?_;refine lx ?_;refine bh ?_;cases h;exact jn (b:=()) hk33 (Qh [(0,0),(1,1),(2,2),(3,3)])
    intro b26 hb26;have h:=h26;(try rw [← hb26] at h);clear h26;(try dsimp only at h);refine runQ hN fun K hK=>?_;replace h:=Q7 h;obtain ⟨a40,h⟩:=h;(try simp only [List.length_append,List.length_cons,List.length_nil] at a40);simp [-Q0,-Q5,-Q1,-Q6,-Q2,a40];(repeat refine sdQ ?_);refine hK _ ?_;clear hK K;refine bn ?_;exact jn (b:=s22.1++[ix v1 s22.2]) (Option.some.inj h) (Qh [(0,0),(1,1),(5,2),(3,3)])
   intro b24 hb24;have h:=h24;(try rw [← hb24] at h);clear h24;(try dsimp only at h);refine runQ hN fun K hK=>?_;replace h:=Q7 h;obtain ⟨a41,h⟩:=h;simp [-Q0,-Q5,-Q1,-Q6,-Q2,Qu a41];(repeat refine sdQ ?_);refine hK _ ?_;clear hK K;cases h;exact rn (s':=(b24,s22.2+1)) hk22 (Qh [(0,0),(1,1),(2,2),(3,3)])
  have g23:¬ (s22.2<(v1.length:Int)):=gQ;clear g;replace h:=if_r g23 h;refine Qp ?_;refine tx ?_;refine lx ?_;refine bh ?_;cases h;exact jn (b:=s22.1) hk22 (Qh [(2,0)])
 intro b2 hb2;have h:=h2;try rw [← hb2] at h
 clear h2;try dsimp only at h
 refine Q3 ?_;refine runQ hN fun K hK=>?_;simp [-Q0,-Q5,-Q1,-Q6,-Q2];repeat refine sdQ ?_
 refine hK _ ?_;clear hK K;refine tn ?_;refine Q8 (st':=⟨[(6,.own 0 0 b2.length)],[(0,rI b2)],1⟩) (Qh [(0,0)]) ?_;refine Qi ?_;refine pcr ?_;have hr:=Option.some.inj h;rw [← hr];refine ⟨_,(.tmp .nil),?_⟩;refine ⟨(.one rfl rfl .nil),[lI b2],[0],by simp [Cat.cells,Cone.cells,Fn.cells,UA,U1,IA,I1,LA,L1,BA,B1,EA,E1,E2,eB,eI,eL],by simp,(UpL.refl _)⟩
attribute [local simp] eL eI Qs Q1D QZ Cone.cells Fn.cells
noncomputable def Q1E (p_:Cone) (f_:Fn):Option Cone :=
 ass (0≤p_.a∧p_.a<(f_.ob.length:Int)) <|
 (Q2X p_.l f_.ar).bind fun v2 =>
 some (⟨ix f_.ob p_.a,v2⟩:Cone)
theorem Q66 (p_:Cone) (f_:Fn) (r:Cone) (h:Q1E p_ f_=some r):Contract Try.prog 146 [.agg (p_.cells true),.rptr (f_.cells true)] (.agg (r.cells true)):=by
 refine Qe (rvs:=[.cell 4 57]) (rs:=[.agg (r.cells true)]) Try.func146 rfl rfl rfl rfl (by simp [Try.f146]) fun F hN hP=>?_;unfold Q1E at h;refine Q3 ?_;refine runQ hN fun K hK=>?_;simp [-Q0,-Q5,-Q1,-Q6,-Q2];repeat refine sdQ ?_
 refine hK _ ?_;clear hK K;refine tn ?_;refine Q8 (st':=⟨[(1,.rptr (Fn.cells true f_)),(2,.adr 0 0 0),(4,.adr 1 0 0)],[(0,.mix 2 [(Cone.cells true p_)]),(1,.mix 2 [[iV 0,.val (.slice none 0 0)]])],2⟩) (Qh [(0,0),(1,1)]) ?_;refine Q3 ?_;refine runQ hN fun K hK=>?_;replace h:=Q7 h;obtain ⟨a1,h⟩:=h;simp [-Q0,-Q5,-Q1,-Q6,-Q2,at_I a1];repeat with_reducible refine sdQ ?_
 replace h:=bind_some h;obtain ⟨v2,hv2,h⟩:=h;refine Q4 (Q67 _ _ v2 hv2) (.cons .lst (.cons .lst .nil)) ?_;simp [-Q0,-Q5,-Q1,-Q6,-Q2,unk,unA,unE,unT,unC,flat,at_I a1];repeat refine sdQ ?_
 refine hK _ ?_;clear hK K;refine tn ?_;refine Q8 (st':=⟨[(4,.adr 0 0 0)],[(0,.mix 2 [[iV (ix f_.ob p_.a),.own 1 0 v2.length]]),(1,rI v2)],2⟩) (Qh [(1,0),(2,1)]) ?_;refine Qi ?_;have hr:=Option.some.inj h;rw [← hr];refine ⟨_,(.cell tf_57 rfl rfl rfl (by simp) (by simp) .nil),?_⟩;refine ⟨(.agg rfl .nil),[iV (ix f_.ob p_.a),lI v2],[1],by simp [Cone.cells,Fn.cells,UA,U1,IA,I1,LA,L1,BA,B1,EA,E1,E2,eB,eI,eL],by simp,(UpL.refl _)⟩
attribute [local simp] eL eI Qs Q1D QZ Cone.cells Fn.cells
noncomputable def Q12 (d_:Fn) (all_:List Cone) (p_:Cone):Option Bool :=
 (Qy (σ:=Int) (ε:=Unit ⊕ Bool) (fun s7 =>
  if s7<(all_.length:Int) then
   ass (0≤s7∧s7<(all_.length:Int)) <|
   (Q20 d_ (gx all_ s7) p_).bind fun v10 =>
   if ¬ ((v10.length:Int)=1) then
    some (Ctl.ret (Sum.inr false))
   else
    ass (B64 (s7+1)) <|
    some (Ctl.next (s7+1))
  else
   some (Ctl.ret (Sum.inl ()))) fuel 0).bind fun e1 =>
 match e1 with
 | .inl b1 =>
  some true
 | .inr p1 =>
  some p1
theorem Q3l (d_:Fn) (all_:List Cone) (p_:Cone) (r:Bool) (h:Q12 d_ all_ p_=some r):Contract Try.prog 119 [.rptr (d_.cells true),.lst true 2 (Es (Cone.cells true) all_),.agg (p_.cells true)] (.val (.bool r)):=by
 refine Qe (rvs:=[.tmp 6]) (rs:=[.val (.bool r)]) Try.func119 rfl rfl rfl rfl (by simp [Try.f119]) fun F hN hP=>?_;unfold Q12 at h;refine Q3 ?_;refine runQ hN fun K hK=>?_;simp [-Q0,-Q5,-Q1,-Q6,-Q2];repeat refine sdQ ?_
 refine hK _ ?_;clear hK K;refine tn ?_;refine Q8 (st':=⟨[(0,.rptr (Fn.cells true d_)),(1,.lst true 2 (Es (Cone.cells true) all_)),(5,.adr 0 0 0)],[(0,.mix 2 [(Cone.cells true p_)])],1⟩) (Qh [(0,0)]) ?_;refine Q3 ?_;refine Q3 ?_;refine runQ hN fun K hK=>?_;simp [-Q0,-Q5,-Q1,-Q6,-Q2];repeat refine sdQ ?_
 refine hK _ ?_;clear hK K;refine tn ?_;refine Q8 (st':=⟨[(0,.rptr (Fn.cells true d_)),(5,.adr 0 0 0),(9,.lst true 2 (Es (Cone.cells true) all_)),(10,iV (all_.length:Int)),(11,iV 0)],[(0,.mix 2 [(Cone.cells true p_)])],1⟩) (Qh [(0,0)]) ?_;replace h:=bind_some h;obtain ⟨e1,h,h1⟩:=h;refine Qk (fun b1:Unit=>⟨[],[],0⟩) (fun b1=>Sum.inl b1=e1) ?_ ?_
 ·refine Qa ?_;refine Qx h (fun s7:Int=>⟨[(0,.rptr (Fn.cells true d_)),(5,.adr 0 0 0),(9,.lst true 2 (Es (Cone.cells true) all_)),(10,iV (all_.length:Int)),(11,iV s7)],[(0,.mix 2 [(Cone.cells true p_)])],1⟩) (Qh [(0,0)]) ?_;clear h;intro k7 s7 c7 h hk7;refine Q3 ?_;refine runQ hN fun K hK=>?_;simp [-Q0,-Q5,-Q1,-Q6,-Q2];repeat refine sdQ ?_
  refine hK _ ?_;clear hK K;refine tn ?_;refine Q8 (st':=⟨[(0,.rptr (Fn.cells true d_)),(5,.adr 0 0 0),(9,.lst true 2 (Es (Cone.cells true) all_)),(10,iV (all_.length:Int)),(11,iV s7),(12,.val (.bool (decide (s7<(all_.length:Int)))))],[(0,.mix 2 [(Cone.cells true p_)])],1⟩) (Qh [(0,0)]) ?_;refine Q3 ?_;refine Qc rfl (fun g=>?_) fun g=>?_
  ·have g8:s7<(all_.length:Int):=gQ;clear g;replace h:=if_l g8 h;refine Qd ?_;refine tn ?_;refine Q3 ?_;refine Qa ?_;refine Q3 ?_;refine runQ hN fun K hK=>?_;replace h:=Q7 h;obtain ⟨a9,h⟩:=h;simp [-Q0,-Q5,-Q1,-Q6,-Q2,at_E (c:=(Cone.cells true)) a9];(repeat refine sdQ ?_);refine hK _ ?_;clear hK K;refine tn ?_;refine Q8 (st':=⟨[(0,.rptr (Fn.cells true d_)),(5,.adr 0 0 0),(8,.adr 1 0 0),(9,.lst true 2 (Es (Cone.cells true) all_)),(10,iV (all_.length:Int)),(11,iV s7)],[(0,.mix 2 [(Cone.cells true p_)]),(1,.mix 2 [(Cone.cells true (gx all_ s7))])],2⟩) (Qh [(0,0),(1,1)]) ?_;refine Q3 ?_;refine runQ hN fun K hK=>?_;simp [-Q0,-Q5,-Q1,-Q6,-Q2];(repeat with_reducible refine sdQ ?_);replace h:=bind_some h;obtain ⟨v10,hv10,h⟩:=h;refine Q4 (Q6S _ _ _ v10 hv10) (.cons (.preT (by simp [Cone.cells,Fn.cells])) (.cons (.aggL (.cons .val (.cons .lst .nil))) (.cons (.aggL (.cons .val (.cons .lst .nil))) .nil))) ?_;simp [-Q0,-Q5,-Q1,-Q6,-Q2,unk,unA,unE,unT,unC,flat];(repeat refine sdQ ?_);refine hK _ ?_;clear hK K;refine tn ?_;refine Q8 (st':=⟨[(0,.rptr (Fn.cells true d_)),(5,.adr 0 0 0),(9,.lst true 2 (Es (Cone.cells true) all_)),(10,iV (all_.length:Int)),(11,iV s7),(20,.val (.bool ((v10.length:Int) != 1)))],[(0,.mix 2 [(Cone.cells true p_)])],1⟩) (Qh [(0,0)]) ?_;refine Qc rfl (fun g=>?_) fun g=>?_
   ·have g11:¬ ((v10.length:Int)=1):=gQ;clear g;replace h:=if_l g11 h;refine Q3 ?_;refine runQ hN fun K hK=>?_;simp [-Q0,-Q5,-Q1,-Q6,-Q2];(repeat refine sdQ ?_);refine hK _ ?_;clear hK K;refine tn ?_;refine Q8 (st':=⟨[(6,.val (.bool false))],[],0⟩) (Qh []) ?_;refine Qi ?_;refine br ?_;refine tr ?_;refine lr ?_;refine br ?_;refine tr ?_;cases h;have q:_=e1:=hk7;have h:=h1;rw [← q] at h;clear q;(try dsimp only at h);have hr:=Option.some.inj h;rw [← hr];refine ⟨_,(.tmp .nil),?_⟩;refine ⟨(.one rfl rfl .nil),[.val (.bool false)],[],by simp [Cone.cells,Fn.cells,UA,U1,IA,I1,LA,L1,BA,B1,EA,E1,E2,eB,eI,eL,Qg _ (Cone.cells true) _ (fun _=>rfl)],by simp,(UpL.refl _)⟩
   have g11:¬ (¬ ((v10.length:Int)=1)):=gQ;clear g;replace h:=if_r g11 h;refine Qd ?_;refine bn ?_;refine tn ?_;refine runQ hN fun K hK=>?_;replace h:=Q7 h;obtain ⟨a12,h⟩:=h;simp [-Q0,-Q5,-Q1,-Q6,-Q2,Qu a12];(repeat refine sdQ ?_);refine hK _ ?_;clear hK K;cases h;exact rn (s':=s7+1) hk7 (Qh [(0,0)])
  have g8:¬ (s7<(all_.length:Int)):=gQ;clear g;replace h:=if_r g8 h;refine Qp ?_;refine tx ?_;refine lx ?_;refine bh ?_;cases h;exact jn (b:=()) hk7 (Qh [])
 intro b1 hb1;have h:=h1;try rw [← hb1] at h
 clear h1;try dsimp only at h
 refine Q3 ?_;refine runQ hN fun K hK=>?_;simp [-Q0,-Q5,-Q1,-Q6,-Q2];repeat refine sdQ ?_
 refine hK _ ?_;clear hK K;refine tn ?_;refine Q8 (st':=⟨[(6,.val (.bool true))],[],0⟩) (Qh []) ?_;refine Qi ?_;have hr:=Option.some.inj h;rw [← hr];refine ⟨_,(.tmp .nil),?_⟩;refine ⟨(.one rfl rfl .nil),[.val (.bool true)],[],by simp [Cone.cells,Fn.cells,UA,U1,IA,I1,LA,L1,BA,B1,EA,E1,E2,eB,eI,eL,Qg _ (Cone.cells true) _ (fun _=>rfl)],by simp,(UpL.refl _)⟩
attribute [local simp] eL eI Qs Q1D QZ QG Cone.cells Fn.cells XMoved.cells
noncomputable def QQ (m_:XMoved) (p_:Cone):Option Bool :=
 (Q1E p_ m_.f_).bind fun v1 =>
 (Q12 m_.image_ m_.more_ v1).bind fun v2 =>
 some v2
theorem Q4b (m_:XMoved) (p_:Cone) (r:Bool) (h:QQ m_ p_=some r):Contract Try.prog 118 [.rptr (m_.cells true),.agg (p_.cells true)] (.val (.bool r)):=by
 refine Qe (rvs:=[.tmp 4]) (rs:=[.val (.bool r)]) Try.func118 rfl rfl rfl rfl (by simp [Try.f118]) fun F hN hP=>?_;unfold QQ at h;refine Q3 ?_;refine runQ hN fun K hK=>?_;simp [-Q0,-Q5,-Q1,-Q6,-Q2];repeat refine sdQ ?_
 refine hK _ ?_;clear hK K;refine tn ?_;refine Q8 (st':=⟨[(0,.rptr [iV m_.d_.s.n,lI m_.d_.s.fr,lI m_.d_.s.to,lI m_.d_.s.id,.lst true 1 (Ls m_.d_.s.cs),iV m_.d_.t.n,lI m_.d_.t.fr,lI m_.d_.t.to,lI m_.d_.t.id,.lst true 1 (Ls m_.d_.t.cs),lI m_.d_.ob,lI m_.d_.ar,iV m_.image_.s.n,lI m_.image_.s.fr,lI m_.image_.s.to,lI m_.image_.s.id,.lst true 1 (Ls m_.image_.s.cs),iV m_.image_.t.n,lI m_.image_.t.fr,lI m_.image_.t.to,lI m_.image_.t.id,.lst true 1 (Ls m_.image_.t.cs),lI m_.image_.ob,lI m_.image_.ar,.rptr (Fn.cells true m_.f_),.lst true 2 (Es (Cone.cells true) m_.all_),.lst true 2 (Es (Cone.cells true) m_.more_)]),(3,.adr 0 0 0)],[(0,.mix 2 [(Cone.cells true p_)])],1⟩) (Qh [(0,0)]) ?_;refine Q3 ?_;refine runQ hN fun K hK=>?_;simp [-Q0,-Q5,-Q1,-Q6,-Q2];repeat with_reducible refine sdQ ?_
 replace h:=bind_some h;obtain ⟨v1,hv1,h⟩:=h;refine Q4 (Q66 _ _ v1 hv1) (.cons (.aggL (.cons .val (.cons .lst .nil))) (.cons (.preT (by simp [Cone.cells,Fn.cells,XMoved.cells])) .nil)) ?_;simp [-Q0,-Q5,-Q1,-Q6,-Q2,unk,unA,unE,unT,unC,flat];repeat with_reducible refine sdQ ?_
 replace h:=bind_some h;obtain ⟨v2,hv2,h⟩:=h;refine Q4 (Q3l _ _ _ v2 hv2) (.cons (.preT (by simp [Cone.cells,Fn.cells,XMoved.cells])) (.cons .lst (.cons (.aggL (.cons .val (.cons (.whole (by simp) (by simp) (by simp)) .nil))) .nil))) ?_;simp [-Q0,-Q5,-Q1,-Q6,-Q2,unk,unA,unE,unT,unC,flat];repeat refine sdQ ?_
 refine hK _ ?_;clear hK K;refine tn ?_;refine Q8 (st':=⟨[(4,.val (.bool v2))],[],0⟩) (Qh []) ?_;refine Qi ?_;have hr:=Option.some.inj h;rw [← hr];refine ⟨_,(.tmp .nil),?_⟩;refine ⟨(.one rfl rfl .nil),[.val (.bool v2)],[],by simp [Cone.cells,Fn.cells,XMoved.cells,UA,U1,IA,I1,LA,L1,BA,B1,EA,E1,E2,eB,eI,eL,Qg _ QG _ (fun _=>rfl),Qg _ (Cone.cells true) _ (fun _=>rfl)],by simp,(UpL.refl _)⟩
attribute [local simp] eL eI Qs QH Q1D QZ Cat.cells Cone.cells Fn.cells
noncomputable def Q2u (d_:Fn) (p_:Cone) (q_:Cone):Option (List Int) :=
 (Q1O d_.t p_.a q_.a).bind fun v1 =>
 (Qy (σ:=List Int × Int) (ε:=List Int) (fun s27 =>
  if s27.2<(v1.length:Int) then
   (
    (Qy (σ:=Bool × Int) (ε:=Bool) (fun s39 =>
     (
      if s39.2<(p_.l.length:Int) then
       some s39.1
      else
       some false:Option (Bool)).bind fun b40 =>
     if b40=true then
      ass (0≤s27.2∧s27.2<(v1.length:Int)) <|
      ass (0≤s39.2∧s39.2<(q_.l.length:Int)) <|
      (Q18 d_.t (ix v1 s27.2) (ix q_.l s39.2)).bind fun v45 =>
      ass (0≤s39.2∧s39.2<(p_.l.length:Int)) <|
      ass (B64 (s39.2+1)) <|
      some (Ctl.next (v45 == (ix p_.l s39.2),s39.2+1))
     else
      some (Ctl.ret s39.1)) fuel (true,0)).bind fun b30 =>
    if b30=true then
     ass (0≤s27.2∧s27.2<(v1.length:Int)) <|
     ass ((s27.1++[ix v1 s27.2]).length≤1073741824) <|
     some (s27.1++[ix v1 s27.2])
    else
     some s27.1:Option (List Int)).bind fun b29 =>
   ass (B64 (s27.2+1)) <|
   some (Ctl.next (b29,s27.2+1))
  else
   some (Ctl.ret s27.1)) fuel ([],0)).bind fun b2 =>
 some b2
theorem Q7z (d_:Fn) (p_:Cone) (q_:Cone) (r:List Int) (h:Q2u d_ p_ q_=some r):Contract Try.prog 132 [.agg (d_.cells true),.agg (p_.cells true),.agg (q_.cells true)] (lI r):=by
 refine Qe (rvs:=[.tmp 6]) (rs:=[lI r]) Try.func132 rfl rfl rfl rfl (by simp [Try.f132]) fun F hN hP=>?_;unfold Q2u at h;refine Q3 ?_;refine runQ hN fun K hK=>?_;simp [-Q0,-Q5,-Q1,-Q6,-Q2];repeat refine sdQ ?_
 refine hK _ ?_;clear hK K;refine tn ?_;refine Q8 (st':=⟨[(3,.adr 0 0 0),(4,.adr 1 0 0),(5,.adr 2 0 0)],[(0,.mix 12 [(Fn.cells true d_)]),(1,.mix 2 [(Cone.cells true p_)]),(2,.mix 2 [(Cone.cells true q_)])],3⟩) (Qh [(0,0),(1,1),(2,2)]) ?_;refine Q3 ?_;refine runQ hN fun K hK=>?_;simp [-Q0,-Q5,-Q1,-Q6,-Q2];repeat with_reducible refine sdQ ?_
 replace h:=bind_some h;obtain ⟨v1,hv1,h⟩:=h;refine Q4 (Q5C _ _ _ v1 hv1) (.cons (.aggL (.cons .val (.cons .lst (.cons .lst (.cons .lst (.cons .lst .nil)))))) (.cons .val (.cons .val .nil))) ?_;simp [-Q0,-Q5,-Q1,-Q6,-Q2,unk,unA,unE,unT,unC,flat];repeat refine sdQ ?_
 refine hK _ ?_;clear hK K;refine tn ?_;refine Q8 (st':=⟨[(3,.adr 0 0 0),(4,.adr 1 0 0),(5,.adr 2 0 0),(7,.own 3 0 v1.length)],[(0,.mix 12 [(Fn.cells true d_)]),(1,.mix 2 [(Cone.cells true p_)]),(2,.mix 2 [(Cone.cells true q_)]),(3,rI v1)],4⟩) (Qh [(0,0),(1,1),(2,2),(3,3)]) ?_;refine Q3 ?_;refine runQ hN fun K hK=>?_;simp [-Q0,-Q5,-Q1,-Q6,-Q2];repeat refine sdQ ?_
 refine hK _ ?_;clear hK K;refine tn ?_;refine Q8 (st':=⟨[(3,.adr 0 0 0),(4,.adr 1 0 0),(5,.adr 2 0 0),(7,.own 3 0 v1.length),(8,.own 4 0 0)],[(0,.mix 12 [(Fn.cells true d_)]),(1,.mix 2 [(Cone.cells true p_)]),(2,.mix 2 [(Cone.cells true q_)]),(3,rI v1),(4,.mix 1 [])],5⟩) (Qh [(0,0),(1,1),(2,2),(3,3),(4,4)]) ?_;refine Q3 ?_;refine Q3 ?_;refine runQ hN fun K hK=>?_;simp [-Q0,-Q5,-Q1,-Q6,-Q2];repeat refine sdQ ?_
 refine hK _ ?_;clear hK K;refine tn ?_;refine Q8 (st':=⟨[(3,.adr 0 0 0),(4,.adr 1 0 0),(5,.adr 2 0 0),(7,.own 3 0 v1.length),(8,.own 4 0 0),(9,iV 0)],[(0,.mix 12 [(Fn.cells true d_)]),(1,.mix 2 [(Cone.cells true p_)]),(2,.mix 2 [(Cone.cells true q_)]),(3,rI v1),(4,.mix 1 [])],5⟩) (Qh [(0,0),(1,1),(2,2),(3,3),(4,4)]) ?_;replace h:=bind_some h;obtain ⟨e2,h,h2⟩:=h;refine Qk (fun b2:List Int=>⟨[(8,.own 0 0 b2.length)],[(0,rI b2)],1⟩) (fun b2=>b2=e2) ?_ ?_
 ·refine Qa ?_;refine Qx h (fun s27:List Int × Int=>⟨[(3,.adr 0 0 0),(4,.adr 1 0 0),(5,.adr 2 0 0),(7,.own 3 0 v1.length),(8,.own 4 0 s27.1.length),(9,iV s27.2)],[(0,.mix 12 [(Fn.cells true d_)]),(1,.mix 2 [(Cone.cells true p_)]),(2,.mix 2 [(Cone.cells true q_)]),(3,rI v1),(4,rI s27.1)],5⟩) (Q3m ⟨[(3,.adr 0 0 0),(4,.adr 1 0 0),(5,.adr 2 0 0),(7,.own 3 0 v1.length),(8,.own 4 0 0),(9,iV 0)],[(0,.mix 12 [(Fn.cells true d_)]),(1,.mix 2 [(Cone.cells true p_)]),(2,.mix 2 [(Cone.cells true q_)]),(3,rI v1),(4,rI [])],5⟩ (Wk.nils [] (by simp) (by simp) (by simp [nlA]) (by simp [entN,nlL,nlA,Cat.cells,Cone.cells,Fn.cells,UA,U1,IA,I1,LA,L1,BA,B1,EA,E1,E2,eB,eI,eL]) (by simp)) (Qh [(0,0),(1,1),(2,2),(3,3),(4,4)])) ?_;clear h;intro k27 s27 c27 h hk27;refine Q3 ?_;refine Q3 ?_;refine runQ hN fun K hK=>?_;simp [-Q0,-Q5,-Q1,-Q6,-Q2];repeat refine sdQ ?_
  refine hK _ ?_;clear hK K;refine tn ?_;refine Q8 (st':=⟨[(3,.adr 0 0 0),(4,.adr 1 0 0),(5,.adr 2 0 0),(7,.own 3 0 v1.length),(8,.own 4 0 s27.1.length),(9,iV s27.2),(23,.val (.bool (decide (s27.2<(v1.length:Int)))))],[(0,.mix 12 [(Fn.cells true d_)]),(1,.mix 2 [(Cone.cells true p_)]),(2,.mix 2 [(Cone.cells true q_)]),(3,rI v1),(4,rI s27.1)],5⟩) (Qh [(0,0),(1,1),(2,2),(3,3),(4,4)]) ?_;refine Qc rfl (fun g=>?_) fun g=>?_
  ·have g28:s27.2<(v1.length:Int):=gQ;clear g;replace h:=if_l g28 h;refine Qd ?_;refine tn ?_;refine Q3 ?_;replace h:=bind_some h;obtain ⟨e29,h,h29⟩:=h;refine Qk (fun b29:List Int=>⟨[(3,.adr 0 0 0),(4,.adr 1 0 0),(5,.adr 2 0 0),(7,.own 3 0 v1.length),(8,.own 4 0 b29.length),(9,iV s27.2)],[(0,.mix 12 [(Fn.cells true d_)]),(1,.mix 2 [(Cone.cells true p_)]),(2,.mix 2 [(Cone.cells true q_)]),(3,rI v1),(4,rI b29)],5⟩) (fun b29=>b29=e29) ?_ ?_
   ·refine Qa ?_;refine Q3 ?_;refine runQ hN fun K hK=>?_;simp [-Q0,-Q5,-Q1,-Q6,-Q2];(repeat refine sdQ ?_);refine hK _ ?_;clear hK K;refine tn ?_;refine Q8 (st':=⟨[(3,.adr 0 0 0),(4,.adr 1 0 0),(5,.adr 2 0 0),(7,.own 3 0 v1.length),(8,.own 4 0 s27.1.length),(9,iV s27.2),(10,.val (.bool true))],[(0,.mix 12 [(Fn.cells true d_)]),(1,.mix 2 [(Cone.cells true p_)]),(2,.mix 2 [(Cone.cells true q_)]),(3,rI v1),(4,rI s27.1)],5⟩) (Qh [(0,0),(1,1),(2,2),(3,3),(4,4)]) ?_;refine Q3 ?_;refine Q3 ?_;refine runQ hN fun K hK=>?_;simp [-Q0,-Q5,-Q1,-Q6,-Q2];(repeat refine sdQ ?_);refine hK _ ?_;clear hK K;refine tn ?_;refine Q8 (st':=⟨[(3,.adr 0 0 0),(4,.adr 1 0 0),(5,.adr 2 0 0),(7,.own 3 0 v1.length),(8,.own 4 0 s27.1.length),(9,iV s27.2),(10,.val (.bool true)),(11,iV 0)],[(0,.mix 12 [(Fn.cells true d_)]),(1,.mix 2 [(Cone.cells true p_)]),(2,.mix 2 [(Cone.cells true q_)]),(3,rI v1),(4,rI s27.1)],5⟩) (Qh [(0,0),(1,1),(2,2),(3,3),(4,4)]) ?_;replace h:=bind_some h;obtain ⟨e30,h,h30⟩:=h;refine Qk (fun b30:Bool=>⟨[(3,.adr 0 0 0),(4,.adr 1 0 0),(5,.adr 2 0 0),(7,.own 3 0 v1.length),(8,.own 4 0 s27.1.length),(9,iV s27.2),(10,.val (.bool b30))],[(0,.mix 12 [(Fn.cells true d_)]),(1,.mix 2 [(Cone.cells true p_)]),(2,.mix 2 [(Cone.cells true q_)]),(3,rI v1),(4,rI s27.1)],5⟩) (fun b30=>b30=e30) ?_ ?_
    ·refine Qa ?_;refine Qx h (fun s39:Bool × Int=>⟨[(3,.adr 0 0 0),(4,.adr 1 0 0),(5,.adr 2 0 0),(7,.own 3 0 v1.length),(8,.own 4 0 s27.1.length),(9,iV s27.2),(10,.val (.bool s39.1)),(11,iV s39.2)],[(0,.mix 12 [(Fn.cells true d_)]),(1,.mix 2 [(Cone.cells true p_)]),(2,.mix 2 [(Cone.cells true q_)]),(3,rI v1),(4,rI s27.1)],5⟩) (Qh [(0,0),(1,1),(2,2),(3,3),(4,4)]) ?_;clear h;intro k39 s39 c39 h hk39;refine Q3 ?_;refine Q3 ?_;replace h:=bind_some h;obtain ⟨e40,h,h40⟩:=h;refine Qk (fun b40:Bool=>⟨[(3,.adr 0 0 0),(4,.adr 1 0 0),(5,.adr 2 0 0),(7,.own 3 0 v1.length),(8,.own 4 0 s27.1.length),(9,iV s27.2),(10,.val (.bool s39.1)),(11,iV s39.2),(33,.val (.bool b40))],[(0,.mix 12 [(Fn.cells true d_)]),(1,.mix 2 [(Cone.cells true p_)]),(2,.mix 2 [(Cone.cells true q_)]),(3,rI v1),(4,rI s27.1)],5⟩) (fun b40=>b40=e40) ?_ ?_
     ·refine runQ hN fun K hK=>?_;simp [-Q0,-Q5,-Q1,-Q6,-Q2];(repeat with_reducible refine sdQ ?_);refine Qo (fun g=>?_) (fun g=>?_)
      ·have g41:s39.2<(p_.l.length:Int):=gQ;clear g;replace h:=if_l g41 h;simp [-Q0,-Q5,-Q1,-Q6,-Q2];(repeat refine sdQ ?_);refine hK _ ?_;exact jn (b:=s39.1) (Option.some.inj h) (Qh [(0,0),(1,1),(2,2),(3,3),(4,4)])
      have g41:¬ (s39.2<(p_.l.length:Int)):=gQ;clear g;replace h:=if_r g41 h;simp [-Q0,-Q5,-Q1,-Q6,-Q2];(repeat refine sdQ ?_);refine hK _ ?_;exact jn (b:=false) (Option.some.inj h) (Qh [(0,0),(1,1),(2,2),(3,3),(4,4)])
     intro b40 hb40;have h:=h40;(try rw [← hb40] at h);clear h40;(try dsimp only at h);refine Qc rfl (fun g=>?_) fun g=>?_
     ·have g42:b40=true:=gQ;clear g;replace h:=if_l g42 h;refine Qd ?_;refine tn ?_;refine Q3 ?_;refine Qa ?_;refine runQ hN fun K hK=>?_;replace h:=Q7 h;obtain ⟨a43,h⟩:=h;replace h:=Q7 h;obtain ⟨a44,h⟩:=h;simp [-Q0,-Q5,-Q1,-Q6,-Q2,at_I a43,at_I a44];(repeat with_reducible refine sdQ ?_);replace h:=bind_some h;obtain ⟨v45,hv45,h⟩:=h;refine Q4 (Q7w _ _ _ v45 hv45) (.cons (.aggL (.cons .val (.cons .lst (.cons .lst (.cons .lst (.cons .lst .nil)))))) (.cons .val (.cons .val .nil))) ?_;replace h:=Q7 h;obtain ⟨a46,h⟩:=h;simp [-Q0,-Q5,-Q1,-Q6,-Q2,unk,unA,unE,unT,unC,flat,at_I a43,at_I a44,at_I a46];(repeat refine sdQ ?_);refine hK _ ?_;clear hK K;refine bn ?_;refine tn ?_;refine Q8 (st':=⟨[(3,.adr 0 0 0),(4,.adr 1 0 0),(5,.adr 2 0 0),(7,.own 3 0 v1.length),(8,.own 4 0 s27.1.length),(9,iV s27.2),(10,.val (.bool (v45 == (ix p_.l s39.2)))),(11,iV s39.2)],[(0,.mix 12 [(Fn.cells true d_)]),(1,.mix 2 [(Cone.cells true p_)]),(2,.mix 2 [(Cone.cells true q_)]),(3,rI v1),(4,rI s27.1)],5⟩) (Qh [(0,0),(1,1),(2,2),(3,3),(4,4)]) ?_;refine runQ hN fun K hK=>?_;replace h:=Q7 h;obtain ⟨a47,h⟩:=h;simp [-Q0,-Q5,-Q1,-Q6,-Q2,Qu a47];(repeat refine sdQ ?_);refine hK _ ?_;clear hK K;cases h;exact rn (s':=(v45 == (ix p_.l s39.2),s39.2+1)) hk39 (Qh [(0,0),(1,1),(2,2),(3,3),(4,4)])
     have g42:¬ (b40=true):=gQ;clear g;replace h:=if_r g42 h;refine Qp ?_;refine tx ?_;refine lx ?_;refine bh ?_;cases h;exact jn (b:=s39.1) hk39 (Qh [(0,0),(1,1),(2,2),(3,3),(4,4)])
    intro b30 hb30;have h:=h30;(try rw [← hb30] at h);clear h30;(try dsimp only at h);refine Q3 ?_;refine runQ hN fun K hK=>?_;simp [-Q0,-Q5,-Q1,-Q6,-Q2];(repeat refine sdQ ?_);refine hK _ ?_;clear hK K;refine tn ?_;refine Q8 (st':=⟨[(3,.adr 0 0 0),(4,.adr 1 0 0),(5,.adr 2 0 0),(7,.own 3 0 v1.length),(8,.own 4 0 s27.1.length),(9,iV s27.2),(54,.val (.bool b30))],[(0,.mix 12 [(Fn.cells true d_)]),(1,.mix 2 [(Cone.cells true p_)]),(2,.mix 2 [(Cone.cells true q_)]),(3,rI v1),(4,rI s27.1)],5⟩) (Qh [(0,0),(1,1),(2,2),(3,3),(4,4)]) ?_;refine Qc rfl (fun g=>?_) fun g=>?_
    ·have g48:b30=true:=gQ;clear g;replace h:=if_l g48 h;refine runQ hN fun K hK=>?_;replace h:=Q7 h;obtain ⟨a49,h⟩:=h;replace h:=Q7 h;obtain ⟨a50,h⟩:=h;(try simp only [List.length_append,List.length_cons,List.length_nil] at a50);simp [-Q0,-Q5,-Q1,-Q6,-Q2,at_I a49,a50];(repeat refine sdQ ?_);refine hK _ ?_;clear hK K;refine bn ?_;exact jn (b:=s27.1++[ix v1 s27.2]) (Option.some.inj h) (Qh [(0,0),(1,1),(2,2),(3,3),(7,4)])
    have g48:¬ (b30=true):=gQ;clear g;replace h:=if_r g48 h;refine Qd ?_;refine bn ?_;exact jn (b:=s27.1) (Option.some.inj h) (Qh [(0,0),(1,1),(2,2),(3,3),(4,4)])
   intro b29 hb29;have h:=h29;(try rw [← hb29] at h);clear h29;(try dsimp only at h);refine runQ hN fun K hK=>?_;replace h:=Q7 h;obtain ⟨a51,h⟩:=h;simp [-Q0,-Q5,-Q1,-Q6,-Q2,Qu a51];(repeat refine sdQ ?_);refine hK _ ?_;clear hK K;cases h;exact rn (s':=(b29,s27.2+1)) hk27 (Qh [(0,0),(1,1),(2,2),(3,3),(4,4)])
  have g28:¬ (s27.2<(v1.length:Int)):=gQ;clear g;replace h:=if_r g28 h;refine Qp ?_;refine tx ?_;refine lx ?_;refine bh ?_;cases h;exact jn (b:=s27.1) hk27 (Qh [(4,0)])
 intro b2 hb2;have h:=h2;try rw [← hb2] at h
 clear h2;try dsimp only at h
 refine Q3 ?_;refine runQ hN fun K hK=>?_;simp [-Q0,-Q5,-Q1,-Q6,-Q2];repeat refine sdQ ?_
 refine hK _ ?_;clear hK K;refine tn ?_;refine Q8 (st':=⟨[(6,.own 0 0 b2.length)],[(0,rI b2)],1⟩) (Qh [(0,0)]) ?_;refine Qi ?_;have hr:=Option.some.inj h;rw [← hr];refine ⟨_,(.tmp .nil),?_⟩;refine ⟨(.one rfl rfl .nil),[lI b2],[0],by simp [Cat.cells,Cone.cells,Fn.cells,UA,U1,IA,I1,LA,L1,BA,B1,EA,E1,E2,eB,eI,eL],by simp,(UpL.refl _)⟩
attribute [local simp] eL eI Qs Q1D QZ Cone.cells Fn.cells
noncomputable def QU (d_:Fn) (list_:List Cone) (p_:Cone):Option Bool :=
 (Qy (σ:=Int) (ε:=Unit ⊕ Bool) (fun s7 =>
  if s7<(list_.length:Int) then
   ass (0≤s7∧s7<(list_.length:Int)) <|
   (Q2u d_ (gx list_ s7) p_).bind fun v10 =>
   if ¬ ((v10.length:Int)=1) then
    some (Ctl.ret (Sum.inr false))
   else
    ass (B64 (s7+1)) <|
    some (Ctl.next (s7+1))
  else
   some (Ctl.ret (Sum.inl ()))) fuel 0).bind fun e1 =>
 match e1 with
 | .inl b1 =>
  some true
 | .inr p1 =>
  some p1
theorem Q34 (d_:Fn) (list_:List Cone) (p_:Cone) (r:Bool) (h:QU d_ list_ p_=some r):Contract Try.prog 115 [.agg (d_.cells true),.lst true 2 (Es (Cone.cells true) list_),.agg (p_.cells true)] (.val (.bool r)):=by
 refine Qe (rvs:=[.tmp 6]) (rs:=[.val (.bool r)]) Try.func115 rfl rfl rfl rfl (by simp [Try.f115]) fun F hN hP=>?_;unfold QU at h;refine Q3 ?_;refine runQ hN fun K hK=>?_;simp [-Q0,-Q5,-Q1,-Q6,-Q2];repeat refine sdQ ?_
 refine hK _ ?_;clear hK K;refine tn ?_;refine Q8 (st':=⟨[(1,.lst true 2 (Es (Cone.cells true) list_)),(3,.adr 0 0 0),(5,.adr 1 0 0)],[(0,.mix 12 [(Fn.cells true d_)]),(1,.mix 2 [(Cone.cells true p_)])],2⟩) (Qh [(0,0),(1,1)]) ?_;refine Q3 ?_;refine Q3 ?_;refine runQ hN fun K hK=>?_;simp [-Q0,-Q5,-Q1,-Q6,-Q2];repeat refine sdQ ?_
 refine hK _ ?_;clear hK K;refine tn ?_;refine Q8 (st':=⟨[(1,.lst true 2 (Es (Cone.cells true) list_)),(3,.adr 0 0 0),(5,.adr 1 0 0),(7,iV 0)],[(0,.mix 12 [(Fn.cells true d_)]),(1,.mix 2 [(Cone.cells true p_)])],2⟩) (Qh [(0,0),(1,1)]) ?_;replace h:=bind_some h;obtain ⟨e1,h,h1⟩:=h;refine Qk (fun b1:Unit=>⟨[],[],0⟩) (fun b1=>Sum.inl b1=e1) ?_ ?_
 ·refine Qa ?_;refine Qx h (fun s7:Int=>⟨[(1,.lst true 2 (Es (Cone.cells true) list_)),(3,.adr 0 0 0),(5,.adr 1 0 0),(7,iV s7)],[(0,.mix 12 [(Fn.cells true d_)]),(1,.mix 2 [(Cone.cells true p_)])],2⟩) (Qh [(0,0),(1,1)]) ?_;clear h;intro k7 s7 c7 h hk7;refine Q3 ?_;refine Q3 ?_;refine runQ hN fun K hK=>?_;simp [-Q0,-Q5,-Q1,-Q6,-Q2];repeat refine sdQ ?_
  refine hK _ ?_;clear hK K;refine tn ?_;refine Q8 (st':=⟨[(1,.lst true 2 (Es (Cone.cells true) list_)),(3,.adr 0 0 0),(5,.adr 1 0 0),(7,iV s7),(11,.val (.bool (decide (s7<(list_.length:Int)))))],[(0,.mix 12 [(Fn.cells true d_)]),(1,.mix 2 [(Cone.cells true p_)])],2⟩) (Qh [(0,0),(1,1)]) ?_;refine Qc rfl (fun g=>?_) fun g=>?_
  ·have g8:s7<(list_.length:Int):=gQ;clear g;replace h:=if_l g8 h;refine Qd ?_;refine tn ?_;refine Q3 ?_;refine Qa ?_;refine Q3 ?_;refine runQ hN fun K hK=>?_;replace h:=Q7 h;obtain ⟨a9,h⟩:=h;simp [-Q0,-Q5,-Q1,-Q6,-Q2,at_E (c:=(Cone.cells true)) a9];(repeat with_reducible refine sdQ ?_);replace h:=bind_some h;obtain ⟨v10,hv10,h⟩:=h;refine Q4 (Q7z _ _ _ v10 hv10) (.cons (.aggL (.cons .val (.cons .lst (.cons .lst (.cons .lst (.cons .lst (.cons .val (.cons .lst (.cons .lst (.cons .lst (.cons .lst (.cons .lst (.cons .lst .nil))))))))))))) (.cons (.aggL (.cons .val (.cons .lst .nil))) (.cons (.aggL (.cons .val (.cons .lst .nil))) .nil))) ?_;simp [-Q0,-Q5,-Q1,-Q6,-Q2,unk,unA,unE,unT,unC,flat,at_E (c:=(Cone.cells true)) a9];(repeat refine sdQ ?_);refine hK _ ?_;clear hK K;refine tn ?_;refine Q8 (st':=⟨[(1,.lst true 2 (Es (Cone.cells true) list_)),(3,.adr 0 0 0),(5,.adr 1 0 0),(7,iV s7),(22,.val (.bool ((v10.length:Int) != 1)))],[(0,.mix 12 [(Fn.cells true d_)]),(1,.mix 2 [(Cone.cells true p_)])],2⟩) (Qh [(0,0),(1,1)]) ?_;refine Qc rfl (fun g=>?_) fun g=>?_
   ·have g11:¬ ((v10.length:Int)=1):=gQ;clear g;replace h:=if_l g11 h;refine Q3 ?_;refine runQ hN fun K hK=>?_;simp [-Q0,-Q5,-Q1,-Q6,-Q2];(repeat refine sdQ ?_);refine hK _ ?_;clear hK K;refine tn ?_;refine Q8 (st':=⟨[(6,.val (.bool false))],[],0⟩) (Qh []) ?_;refine Qi ?_;refine br ?_;refine tr ?_;refine lr ?_;refine br ?_;refine tr ?_;cases h;have q:_=e1:=hk7;have h:=h1;rw [← q] at h;clear q;(try dsimp only at h);have hr:=Option.some.inj h;rw [← hr];refine ⟨_,(.tmp .nil),?_⟩;refine ⟨(.one rfl rfl .nil),[.val (.bool false)],[],by simp [Cone.cells,Fn.cells,UA,U1,IA,I1,LA,L1,BA,B1,EA,E1,E2,eB,eI,eL,Qg _ (Cone.cells true) _ (fun _=>rfl)],by simp,(UpL.refl _)⟩
   have g11:¬ (¬ ((v10.length:Int)=1)):=gQ;clear g;replace h:=if_r g11 h;refine Qd ?_;refine bn ?_;refine tn ?_;refine runQ hN fun K hK=>?_;replace h:=Q7 h;obtain ⟨a12,h⟩:=h;simp [-Q0,-Q5,-Q1,-Q6,-Q2,Qu a12];(repeat refine sdQ ?_);refine hK _ ?_;clear hK K;cases h;exact rn (s':=s7+1) hk7 (Qh [(0,0),(1,1)])
  have g8:¬ (s7<(list_.length:Int)):=gQ;clear g;replace h:=if_r g8 h;refine Qp ?_;refine tx ?_;refine lx ?_;refine bh ?_;cases h;exact jn (b:=()) hk7 (Qh [])
 intro b1 hb1;have h:=h1;try rw [← hb1] at h
 clear h1;try dsimp only at h
 refine Q3 ?_;refine runQ hN fun K hK=>?_;simp [-Q0,-Q5,-Q1,-Q6,-Q2];repeat refine sdQ ?_
 refine hK _ ?_;clear hK K;refine tn ?_;refine Q8 (st':=⟨[(6,.val (.bool true))],[],0⟩) (Qh []) ?_;refine Qi ?_;have hr:=Option.some.inj h;rw [← hr];refine ⟨_,(.tmp .nil),?_⟩;refine ⟨(.one rfl rfl .nil),[.val (.bool true)],[],by simp [Cone.cells,Fn.cells,UA,U1,IA,I1,LA,L1,BA,B1,EA,E1,E2,eB,eI,eL,Qg _ (Cone.cells true) _ (fun _=>rfl)],by simp,(UpL.refl _)⟩
attribute [local simp] eL eI Qs QZ Fn.cells
noncomputable def Q2v (d_:Fn) (e_:Fn):Option (List Cone × List Cone × Int) :=
 (Q1Q d_).bind fun v1 =>
 (Q1Q e_).bind fun v2 =>
 (
  if ¬ (v1.2=0) then
   some true
  else
   some (v2.2 != 0):Option (Bool)).bind fun b3 =>
 if b3=true then
  some ([],[],3)
 else
  some (v1.1,v2.1,0)
theorem Q7A (d_:Fn) (e_:Fn) (r:List Cone × List Cone × Int) (h:Q2v d_ e_=some r):FContract Try.prog true 114 [.agg (d_.cells true),.agg (e_.cells true)] (.tup [.lst true 2 (Es (Cone.cells true) r.1),.lst true 2 (Es (Cone.cells true) r.2.1),iV r.2.2]):=by
 refine Q1j true (ts:=[4,5,6]) (rs:=[.lst true 2 (Es (Cone.cells true) r.1),.lst true 2 (Es (Cone.cells true) r.2.1),iV r.2.2]) Try.func114 rfl rfl rfl rfl (by simp [Try.f114]) fun F hN hP=>?_;unfold Q2v at h;refine Q3 ?_;refine Qm [2,3] mo (by rw [hN];decide) fun K hK=>?_;simp [-Q0,-Q5,-Q1,-Q6,-Q2];repeat refine sdQ ?_
 refine hK _ ?_;clear hK K;refine tn ?_;refine Q8 (st':=⟨[(2,.rptr (Fn.cells true d_)),(3,.rptr (Fn.cells true e_))],[],0⟩) (Qh []) ?_;refine Q3 ?_;refine Qm [] mo (by rw [hN];decide) fun K hK=>?_;simp [-Q0,-Q5,-Q1,-Q6,-Q2];repeat with_reducible refine sdQ ?_
 replace h:=bind_some h;obtain ⟨v1,hv1,h⟩:=h;refine Q2h (fz:=[]) true (Q55 _ v1 hv1) (PurK.ofN (.cons (.aggL (.cons .val (.cons .lst (.cons .lst (.cons .lst (.cons .lst (.cons .val (.cons .lst (.cons .lst (.cons .lst (.cons .lst (.cons .lst (.cons .lst .nil))))))))))))) .nil)) ?_;simp [-Q0,-Q5,-Q1,-Q6,-Q2,unk,unA,unE,unT,unC,flat];repeat refine sdQ ?_
 refine hK _ ?_;clear hK K;refine tn ?_;refine Q8 (st':=⟨[(3,.rptr (Fn.cells true e_)),(7,.lst true 2 (Es (Cone.cells true) v1.1)),(8,iV v1.2)],[],0⟩) (Qh []) ?_;refine Q3 ?_;refine Qm [] mo (by rw [hN];decide) fun K hK=>?_;simp [-Q0,-Q5,-Q1,-Q6,-Q2];repeat with_reducible refine sdQ ?_
 replace h:=bind_some h;obtain ⟨v2,hv2,h⟩:=h;refine Q2h (fz:=[]) true (Q55 _ v2 hv2) (PurK.ofN (.cons (.aggL (.cons .val (.cons .lst (.cons .lst (.cons .lst (.cons .lst (.cons .val (.cons .lst (.cons .lst (.cons .lst (.cons .lst (.cons .lst (.cons .lst .nil))))))))))))) .nil)) ?_;simp [-Q0,-Q5,-Q1,-Q6,-Q2,unk,unA,unE,unT,unC,flat];repeat refine sdQ ?_
 refine hK _ ?_;clear hK K;refine tn ?_;refine Q8 (st':=⟨[(7,.lst true 2 (Es (Cone.cells true) v1.1)),(8,iV v1.2),(9,.lst true 2 (Es (Cone.cells true) v2.1)),(10,iV v2.2)],[],0⟩) (Qh []) ?_;refine Q3 ?_;refine Q3 ?_;replace h:=bind_some h;obtain ⟨e3,h,h3⟩:=h;refine Qk (fun b3:Bool=>⟨[(7,.lst true 2 (Es (Cone.cells true) v1.1)),(9,.lst true 2 (Es (Cone.cells true) v2.1)),(26,.val (.bool b3))],[],0⟩) (fun b3=>b3=e3) ?_ ?_
 ·refine Qm [] mo (by rw [hN];decide) fun K hK=>?_;simp [-Q0,-Q5,-Q1,-Q6,-Q2];repeat with_reducible refine sdQ ?_
  refine Q1X (fun g=>?_) (fun g=>?_)
  ·have g4:¬ (¬ (v1.2=0)):=gQ;clear g;replace h:=if_r g4 h;simp [-Q0,-Q5,-Q1,-Q6,-Q2];(repeat refine sdQ ?_);refine hK _ ?_;exact jn (b:=v2.2 != 0) (Option.some.inj h) (Qh [])
  have g4:¬ (v1.2=0):=gQ;clear g;replace h:=if_l g4 h;simp [-Q0,-Q5,-Q1,-Q6,-Q2];repeat refine sdQ ?_
  refine hK _ ?_;exact jn (b:=true) (Option.some.inj h) (Qh [])
 intro b3 hb3;have h:=h3;try rw [← hb3] at h
 clear h3;try dsimp only at h
 refine Qc rfl (fun g=>?_) fun g=>?_
 ·have g5:b3=true:=gQ;clear g;replace h:=if_l g5 h;refine Q3 ?_;refine Qm [] mo (by rw [hN];decide) fun K hK=>?_;simp [-Q0,-Q5,-Q1,-Q6,-Q2];repeat refine sdQ ?_
  refine hK _ ?_;clear hK K;refine tn ?_;refine Q8 (st':=⟨[(4,.val (.slice none 0 0)),(5,.val (.slice none 0 0)),(6,iV 3)],[],0⟩) (Qh []) ?_;refine Qi ?_;refine tr ?_;have hr:=Option.some.inj h;rw [← hr];exact (.two .nil (.two .nil (.two .val .nil)))
 have g5:¬ (b3=true):=gQ;clear g;replace h:=if_r g5 h;refine Qd ?_;refine tn ?_;refine Q3 ?_;refine Qm [] mo (by rw [hN];decide) fun K hK=>?_;simp [-Q0,-Q5,-Q1,-Q6,-Q2];repeat refine sdQ ?_
 refine hK _ ?_;clear hK K;refine tn ?_;refine Q8 (st':=⟨[(4,.lst true 2 (Es (Cone.cells true) v1.1)),(5,.lst true 2 (Es (Cone.cells true) v2.1)),(6,iV 0)],[],0⟩) (Qh []) ?_;refine Qi ?_;have hr:=Option.some.inj h;rw [← hr];exact (.two .lst (.two .lst (.two .val .nil)))
attribute [local simp] eL eI Qs Q1D QZ Cone.cells Fn.cells
noncomputable def Q23 (p_:Cone) (f_:Fn):Option Cone :=
 ass (0≤p_.a∧p_.a<(f_.ob.length:Int)) <|
 (Q1w p_.l f_.ar).bind fun v2 =>
 some (⟨ix f_.ob p_.a,v2⟩:Cone)
theorem Q6X (p_:Cone) (f_:Fn) (r:Cone) (h:Q23 p_ f_=some r):Contract Try.prog 116 [.agg (p_.cells true),.agg (f_.cells true)] (.agg (r.cells true)):=by
 refine Qe (rvs:=[.cell 4 57]) (rs:=[.agg (r.cells true)]) Try.func116 rfl rfl rfl rfl (by simp [Try.f116]) fun F hN hP=>?_;unfold Q23 at h;refine Q3 ?_;refine runQ hN fun K hK=>?_;simp [-Q0,-Q5,-Q1,-Q6,-Q2];repeat refine sdQ ?_
 refine hK _ ?_;clear hK K;refine tn ?_;refine Q8 (st':=⟨[(2,.adr 0 0 0),(3,.adr 1 0 0),(4,.adr 2 0 0)],[(0,.mix 2 [(Cone.cells true p_)]),(1,.mix 12 [(Fn.cells true f_)]),(2,.mix 2 [[iV 0,.val (.slice none 0 0)]])],3⟩) (Qh [(0,0),(1,1),(2,2)]) ?_;refine Q3 ?_;refine runQ hN fun K hK=>?_;replace h:=Q7 h;obtain ⟨a1,h⟩:=h;simp [-Q0,-Q5,-Q1,-Q6,-Q2,at_I a1];repeat with_reducible refine sdQ ?_
 replace h:=bind_some h;obtain ⟨v2,hv2,h⟩:=h;refine Q4 (Q3J _ _ v2 hv2) (.cons .lst (.cons .lst .nil)) ?_;simp [-Q0,-Q5,-Q1,-Q6,-Q2,unk,unA,unE,unT,unC,flat,at_I a1];repeat refine sdQ ?_
 refine hK _ ?_;clear hK K;refine tn ?_;refine Q8 (st':=⟨[(4,.adr 0 0 0)],[(0,.mix 2 [[iV (ix f_.ob p_.a),.own 1 0 v2.length]]),(1,rI v2)],2⟩) (Qh [(2,0),(3,1)]) ?_;refine Qi ?_;have hr:=Option.some.inj h;rw [← hr];refine ⟨_,(.cell tf_57 rfl rfl rfl (by simp) (by simp) .nil),?_⟩;refine ⟨(.agg rfl .nil),[iV (ix f_.ob p_.a),lI v2],[1],by simp [Cone.cells,Fn.cells,UA,U1,IA,I1,LA,L1,BA,B1,EA,E1,E2,eB,eI,eL],by simp,(UpL.refl _)⟩
def Cone.G (d:Fn) (p:Cone):Prop:=(0≤p.a∧p.a<d.t.n)∧p.l.length=d.ob.length∧LP d p.a p.l
theorem mem_coneL {d:Fn} (hd:d.Is) {p:Cone} (h:p∈QP d):p.G d:=by
 have n0:=hd.t.1.n0;simp only [QP,Q1h,Q57,List.mem_flatMap,List.mem_range,List.mem_map] at h;obtain ⟨x,hx,q,hq,rfl⟩:=h;obtain ⟨q1,q2,q3⟩:=Q6C hd hq;exact ⟨by simp only;omega,q1,q2⟩
noncomputable def cmL (d:Fn) (p q:Cone):List Int:=(homL d.t p.a q.a).filter fun f=>bo (∀ i:Nat,i<p.l.length→ix (rx d.t.cs f) (ix q.l i)=ix p.l i)
theorem Q5K {d:Fn} (hd:d.Is) {p q:Cone} (hp:p.G d) (hq:q.G d):Q2u d p q=some (cmL d p q)∧Q20 d p q=some (cmL d p q):=by
 obtain ⟨l1,l2,l3,l4,l5,l6,l7,l8⟩:=hd.fact;obtain ⟨p1,p2,p3⟩:=hp;obtain ⟨q1,q2,q3⟩:=hq;have hH:=Q4y d.t p.a q.a;have hthn:∀ k:Nat,k<(homL d.t p.a q.a).length→∀ i:Nat,i<p.l.length→Q18 d.t (ix (homL d.t p.a q.a) k) (ix q.l i)=some (ix (rx d.t.cs (ix (homL d.t p.a q.a) k)) (ix q.l i))∧Qw d.t (ix (homL d.t p.a q.a) k) (ix q.l i)=some (ix (rx d.t.cs (ix (homL d.t p.a q.a) k)) (ix q.l i)):=fun k hk i hi =>
  (Q7U (P:=fun f=>Ar d.t f p.a q.a) Q3q hk).thn hd.t (q3 i (by omega))
 constructor
 ·unfold Q2u;rw [(Q7I hd.t _ _).1];simp only [Option.bind_some];refine Q5M (homL d.t p.a q.a) (fun f=>∀ i:Nat,i<p.l.length→ix (rx d.t.cs f) (ix q.l i)=ix p.l i) (e:=cmL d p q) (by omega) (fun k acc hk hacc=>?_) ?_ rfl
  ·have hk2:(k:Int)<((homL d.t p.a q.a).length:Int):=(by omega);have hB:B64 ((k:Int)+1):=(by unfold B64;omega);have inner:∀ {β:Type} {K:Bool→Option β} {r:β},K (bo (∀ i:Nat,i<p.l.length→ix (rx d.t.cs (ix (homL d.t p.a q.a) k)) (ix q.l i)=ix p.l i))=some r →
     (Qy (σ:=Bool × Int) (ε:=Bool) (fun s39 =>
     (
      if s39.2<(p.l.length:Int) then
       some s39.1
      else
       some false:Option (Bool)).bind fun b40 =>
     if b40=true then
      ass (0≤(k:Int)∧(k:Int)<((homL d.t p.a q.a).length:Int)) <|
      ass (0≤s39.2∧s39.2<(q.l.length:Int)) <|
      (Q18 d.t (ix (homL d.t p.a q.a) k) (ix q.l s39.2)).bind fun v45 =>
      ass (0≤s39.2∧s39.2<(p.l.length:Int)) <|
      ass (B64 (s39.2+1)) <|
      some (Ctl.next (v45 == (ix p.l s39.2),s39.2+1))
     else
      some (Ctl.ret s39.1)) fuel (true,0)).bind K=some r:=by
    intro β K r hk';refine wh_bind p.l.length (fun i=>ix (rx d.t.cs (ix (homL d.t p.a q.a) k)) (ix q.l i)=ix p.l i) (by omega) (fun i hi=>?_) (by simp) (fun i=>?_) hk'
    ·have hi2:(i:Int)<(p.l.length:Int):=(by omega);show ((if (i:Int)<(p.l.length:Int) then some true else some false:Option Bool).bind _)=_;rw [if_pos hi2];simp only [Option.bind_some,if_true];rw [Q9 ⟨by omega,hk2⟩,Q9 (by omega),(hthn k hk i hi).1];simp only [Option.bind_some];rw [Q9 ⟨by omega,hi2⟩,Q9 (by unfold B64;omega)]
     by_cases h:ix (rx d.t.cs (ix (homL d.t p.a q.a) k)) (ix q.l i)=ix p.l i
     ·rw [QK h];simp [h]
     rw [QA h];simp [h]
    by_cases h:(i:Int)<(p.l.length:Int)<;>simp [h]
   refine ⟨fun hs=>?_,fun hs=>?_⟩
   ·simp only;rw [if_pos hk2];simp only [Option.bind_assoc];refine inner ?_;rw [QK hs];simp only [if_true];rw [Q9 ⟨by omega,hk2⟩,Q9 (by simp;omega)];simp only [Option.bind_some];rw [Q9 hB]
   simp only;rw [if_pos hk2];simp only [Option.bind_assoc];refine inner ?_;rw [QA hs];simp only [Bool.false_eq_true,if_false,Option.bind_some];rw [Q9 hB]
  simp only;rw [if_neg (by omega)];rfl
 unfold Q20;rw [(Q7I hd.t _ _).2];simp only [Option.bind_some];refine Q5M (homL d.t p.a q.a) (fun f=>∀ i:Nat,i<p.l.length→ix (rx d.t.cs f) (ix q.l i)=ix p.l i) (e:=cmL d p q) (by omega) (fun k acc hk hacc=>?_) ?_ rfl
 ·have hk2:(k:Int)<((homL d.t p.a q.a).length:Int):=by omega
  have hB:B64 ((k:Int)+1):=by unfold B64;omega
  have inner:∀ {β:Type} {K:Unit ⊕ List Int→Option β} {r:β},((∀ i:Nat,i<p.l.length→ix (rx d.t.cs (ix (homL d.t p.a q.a) k)) (ix q.l i)=ix p.l i)→K (.inl ())=some r)→(¬ (∀ i:Nat,i<p.l.length→ix (rx d.t.cs (ix (homL d.t p.a q.a) k)) (ix q.l i)=ix p.l i)→K (.inr acc)=some r) →
    (Qy (σ:=Int) (ε:=Unit ⊕ (List Int)) (fun s33 =>
    if s33<(q.l.length:Int) then
     ass (0≤s33∧s33<(q.l.length:Int)) <|
     (Qw d.t (ix (homL d.t p.a q.a) k) (ix q.l s33)).bind fun v36 =>
     ass (0≤s33∧s33<(p.l.length:Int)) <|
     if ¬ (v36=(ix p.l s33)) then
      some (Ctl.ret (Sum.inr acc))
     else
      ass (B64 (s33+1)) <|
      some (Ctl.next (s33+1))
    else
     some (Ctl.ret (Sum.inl ()))) fuel 0).bind K=some r:=by
   intro β K r k1 k2;refine Q1g p.l.length (fun i=>ix (rx d.t.cs (ix (homL d.t p.a q.a) k)) (ix q.l i)=ix p.l i) (eb:=Sum.inr acc) (eg:=Sum.inl ()) (by omega) (fun i hi hs=>?_) (fun i hi hs=>?_) (by rw [if_neg (by omega)]) k2 k1
   ·rw [if_pos (by omega),Q9 (by omega),(hthn k hk i hi).2];simp only [Option.bind_some];rw [Q9 (by omega),if_neg (by simp [hs]),Q9 (by unfold B64;omega)]
   rw [if_pos (by omega),Q9 (by omega),(hthn k hk i hi).2];simp only [Option.bind_some];rw [Q9 (by omega),if_pos hs]
  refine ⟨fun hs=>?_,fun hs=>?_⟩
  ·simp only;rw [if_pos hk2,Q9 ⟨by omega,hk2⟩];simp only [Option.bind_assoc];refine inner (fun _=>?_) fun h=>absurd hs h;simp only;rw [Q9 (by simp;omega)];simp only [Option.bind_some];rw [Q9 hB]
  simp only;rw [if_pos hk2,Q9 ⟨by omega,hk2⟩];simp only [Option.bind_assoc];refine inner (fun h=>absurd h hs) fun _=>?_;simp only [Option.bind_some];rw [Q9 hB]
 simp only;rw [if_neg (by omega)];rfl
def unv (d:Fn) (L:List Cone) (p:Cone):Prop:=∀ i:Nat,i<L.length→(cmL d (gx L i) p).length=1
def GL (d:Fn) (L:List Cone):Prop:=L.length≤400∧∀ i:Nat,i<L.length→(gx L i).G d
theorem Q6h {d:Fn} (hd:d.Is) {L:List Cone} (hL:GL d L) {p:Cone} (hp:p.G d):QU d L p=some (bo (unv d L p))∧Q12 d L p=some (bo (unv d L p)):=by
 have h4:=hL.1;constructor
 ·unfold QU;refine Q1g L.length (fun i=>(cmL d (gx L i) p).length=1) (eb:=Sum.inr false) (eg:=Sum.inl ()) (by omega) (fun i hi hs=>?_) (fun i hi hs=>?_) (by rw [if_neg (by omega)]) (fun h=>by rw [QA (p:=unv d L p) h]) fun h=>by rw [QK (p:=unv d L p) h]
  ·rw [if_pos (by omega),Q9 (by omega),(Q5K hd (hL.2 i hi) hp).1];simp only [Option.bind_some];rw [if_neg (by omega),Q9 (by unfold B64;omega)]
  rw [if_pos (by omega),Q9 (by omega),(Q5K hd (hL.2 i hi) hp).1];simp only [Option.bind_some];rw [if_pos (by omega)]
 unfold Q12;refine Q1g L.length (fun i=>(cmL d (gx L i) p).length=1) (eb:=Sum.inr false) (eg:=Sum.inl ()) (by omega) (fun i hi hs=>?_) (fun i hi hs=>?_) (by rw [if_neg (by omega)]) (fun h=>by rw [QA (p:=unv d L p) h]) fun h=>by rw [QK (p:=unv d L p) h]
 ·rw [if_pos (by omega),Q9 (by omega),(Q5K hd (hL.2 i hi) hp).2];simp only [Option.bind_some];rw [if_neg (by omega),Q9 (by unfold B64;omega)]
 rw [if_pos (by omega),Q9 (by omega),(Q5K hd (hL.2 i hi) hp).2];simp only [Option.bind_some];rw [if_pos (by omega)]
theorem Q5E {d:Fn} (hd:d.Is) (h:(QP d).length≤400):GL d (QP d):=⟨h,fun i hi=>mem_coneL hd (by rw [Q3R _ hi];exact List.getElem_mem hi)⟩
def img (p:Cone) (f:Fn):Cone:=⟨ix f.ob p.a,Q14 p.l f.ar⟩
theorem Fn.Is.arr {f:Fn} (hf:f.Is) {a x y:Int} (h:Ar f.s a x y):Ar f.t (ix f.ar a) (ix f.ob x) (ix f.ob y):=by
 obtain ⟨a',rfl⟩:=Int.eq_ofNat_of_zero_le h.1.1;have h1:=h.1.2;have la:=hf.la;have h2:=hf.ar a' (by omega);have h3:=hf.ends a' (by omega);rw [h.2.1,h.2.2] at h3;exact ⟨h2,h3⟩
theorem Fn.Is.obj {f:Fn} (hf:f.Is) {x:Int} (h:0≤x∧x<f.s.n):0≤ix f.ob x∧ix f.ob x<f.t.n:=by
 obtain ⟨x',rfl⟩:=Int.eq_ofNat_of_zero_le h.1;have lo:=hf.lo;exact hf.ob x' (by omega)
theorem e_image {d f:Fn} (hd:d.Is) (hf:f.Is) (h:d.t=f.s) {p:Cone} (hp:p.G d):Q23 p f=some (img p f)∧Q1E p f=some (img p f)∧(img p f).G (Q1o d f):=by
 obtain ⟨l1,l2,l3,l4,l5,l6,l7,l8⟩:=hd.fact;obtain ⟨p1,p2,p3⟩:=hp;have lo:=hf.lo;have la:=hf.la;rw [h] at p1;have hA:∀ i:Nat,i<p.l.length→Ar f.s (ix p.l i) p.a (ix d.ob i):=fun i hi=>by rw [← h];exact p3 i hi
 have hm:∀ y∈p.l,0≤y∧y<(f.ar.length:Int):=Q4N fun j hj=>by
  have:=(hA j hj).1;omega
 refine ⟨?_,?_,⟨hf.obj p1,by simp [img,Q14,Q1o];omega,fun i hi=>?_⟩⟩
 ·unfold Q23 Q1w;rw [Q9 (by omega),Q9 (by omega),Q9 hm];rfl
 ·unfold Q1E Q2X;rw [Q9 (by omega),Q9 (by omega),Q9 hm];rfl
 have hi':i<p.l.length:=by simpa [img,Q14] using hi
 show Ar f.t (ix (Q14 p.l f.ar) i) (ix f.ob p.a) (ix (Q14 d.ob f.ob) i);rw [Q1t _ _ (by omega) (by omega),Q1t _ _ (by omega) (by omega)];exact hf.arr (hA i hi')
theorem e_moved {d f:Fn} (hd:d.Is) (hf:f.Is) (h:d.t=f.s) {M:List Cone} (hM:GL (Q1o d f) M) {p:Cone} (hp:p.G d) {L:List Cone}:QQ ⟨d,Q1o d f,f,L,M⟩ p=some (bo (unv (Q1o d f) M (img p f))):=by
 obtain ⟨i1,i2,i3⟩:=e_image hd hf h hp;unfold QQ;rw [i2];simp only [Option.bind_some];rw [(Q6h (Q65 hd hf h) hM i3).2];rfl
theorem e_both {d e:Fn} (hd:d.Is) (he:e.Is):Q2v d e=some (if (QP d).length≤400∧(QP e).length≤400 then (QP d,QP e,0) else ([],[],3)):=by
 unfold Q2v;rw [e_clist hd,e_clist he]
 by_cases h1:(QP d).length≤400<;>by_cases h2:(QP e).length≤400<;>simp [h1,h2]
attribute [local simp] eL eI Qs QZ QG Fn.cells XMoved.cells
noncomputable def Q2p (d_:Fn) (f_:Fn):Option (XMoved × Bool) :=
 (Q1b d_ f_).bind fun v1 =>
 (Q1A d_).bind fun v2 =>
 (Q1A v1).bind fun v3 =>
 (
  if v2.2=true then
   some v3.2
  else
   some false:Option (Bool)).bind fun b4 =>
 some ((⟨d_,v1,f_,v2.1,v3.1⟩:XMoved),b4)
theorem Q7t (d_:Fn) (f_:Fn) (r:XMoved × Bool) (h:Q2p d_ f_=some r):FContract Try.prog true 145 [.rptr (d_.cells true),.rptr (f_.cells true)] (.tup [.rptr (r.1.cells true),.val (.bool r.2)]):=by
 refine Q1j true (ts:=[4,5]) (rs:=[.rptr (r.1.cells true),.val (.bool r.2)]) Try.func145 rfl rfl rfl rfl (by simp [Try.f145]) fun F hN hP=>?_;unfold Q2p at h;refine Q3 ?_;refine Qm [] mo (by rw [hN];decide) fun K hK=>?_;simp [-Q0,-Q5,-Q1,-Q6,-Q2];repeat refine sdQ ?_
 refine hK _ ?_;clear hK K;refine tn ?_;refine Q8 (st':=⟨[(0,.rptr (Fn.cells true d_)),(1,.rptr (Fn.cells true f_))],[],0⟩) (Qh []) ?_;refine Q3 ?_;refine Qm [] mo (by rw [hN];decide) fun K hK=>?_;simp [-Q0,-Q5,-Q1,-Q6,-Q2];repeat with_reducible refine sdQ ?_
 replace h:=bind_some h;obtain ⟨v1,hv1,h⟩:=h;refine QD (fz:=[]) (Q4u _ _ v1 hv1) (.cons (.preT (by simp [Fn.cells,XMoved.cells])) (.cons (.preT (by simp [Fn.cells,XMoved.cells])) .nil)) ?_;simp [-Q0,-Q5,-Q1,-Q6,-Q2,unk,unA,unE,unT,unC,flat];repeat refine sdQ ?_
 refine hK _ ?_;clear hK K;refine tn ?_;refine Q8 (st':=⟨[(6,.adr 0 0 0)],[(0,.mix 27 [[iV d_.s.n,lI d_.s.fr,lI d_.s.to,lI d_.s.id,.lst true 1 (Ls d_.s.cs),iV d_.t.n,lI d_.t.fr,lI d_.t.to,lI d_.t.id,.lst true 1 (Ls d_.t.cs),lI d_.ob,lI d_.ar,iV v1.s.n,.own 1 0 v1.s.fr.length,.own 2 0 v1.s.to.length,.own 3 0 v1.s.id.length,.own 4 0 v1.s.cs.length,iV v1.t.n,.own 5 0 v1.t.fr.length,.own 6 0 v1.t.to.length,.own 7 0 v1.t.id.length,.own 8 0 v1.t.cs.length,.own 9 0 v1.ob.length,.own 10 0 v1.ar.length,.rptr (Fn.cells true f_),.val (.slice none 0 0),.val (.slice none 0 0)]]),(1,rI v1.s.fr),(2,rI v1.s.to),(3,rI v1.s.id),(4,.row 1 (Ls v1.s.cs)),(5,rI v1.t.fr),(6,rI v1.t.to),(7,rI v1.t.id),(8,.row 1 (Ls v1.t.cs)),(9,rI v1.ob),(10,rI v1.ar)],11⟩) (Qh [(12,0),(1,1),(2,2),(3,3),(4,4),(6,5),(7,6),(8,7),(9,8),(10,9),(11,10)]) ?_;refine Q3 ?_;refine Qm [] mo (by rw [hN];decide) fun K hK=>?_;simp [-Q0,-Q5,-Q1,-Q6,-Q2];repeat refine sdQ ?_
 refine hK _ ?_;clear hK K;refine tn ?_;refine Q8 (st':=⟨[(6,.adr 0 0 0)],[(0,.mix 27 [[iV d_.s.n,lI d_.s.fr,lI d_.s.to,lI d_.s.id,.lst true 1 (Ls d_.s.cs),iV d_.t.n,lI d_.t.fr,lI d_.t.to,lI d_.t.id,.lst true 1 (Ls d_.t.cs),lI d_.ob,lI d_.ar,iV v1.s.n,.own 1 0 v1.s.fr.length,.own 2 0 v1.s.to.length,.own 3 0 v1.s.id.length,.own 4 0 v1.s.cs.length,iV v1.t.n,.own 5 0 v1.t.fr.length,.own 6 0 v1.t.to.length,.own 7 0 v1.t.id.length,.own 8 0 v1.t.cs.length,.own 9 0 v1.ob.length,.own 10 0 v1.ar.length,.rptr (Fn.cells true f_),.val (.slice none 0 0),.val (.slice none 0 0)]]),(1,rI v1.s.fr),(2,rI v1.s.to),(3,rI v1.s.id),(4,.row 1 (Ls v1.s.cs)),(5,rI v1.t.fr),(6,rI v1.t.to),(7,rI v1.t.id),(8,.row 1 (Ls v1.t.cs)),(9,rI v1.ob),(10,rI v1.ar)],11⟩) (Qh [(0,0),(1,1),(2,2),(3,3),(4,4),(5,5),(6,6),(7,7),(8,8),(9,9),(10,10)]) ?_;refine Q3 ?_;refine Qm [] mo (by rw [hN];decide) fun K hK=>?_;simp [-Q0,-Q5,-Q1,-Q6,-Q2];repeat with_reducible refine sdQ ?_
 replace h:=bind_some h;obtain ⟨v2,hv2,h⟩:=h;refine QD (fz:=[]) (Q4l _ v2 hv2) (.cons (.field rfl (by simp [Fn.cells,XMoved.cells]) (.cons .val (.cons .lst (.cons .lst (.cons .lst (.cons .lst (.cons .val (.cons .lst (.cons .lst (.cons .lst (.cons .lst (.cons .lst (.cons .lst .nil))))))))))))) .nil) ?_;simp [-Q0,-Q5,-Q1,-Q6,-Q2,unk,unA,unE,unT,unC,flat];repeat refine sdQ ?_
 refine hK _ ?_;clear hK K;refine tn ?_;refine Q8 (st':=⟨[(6,.adr 0 0 0),(7,.val (.bool v2.2))],[(0,.mix 27 [[iV d_.s.n,lI d_.s.fr,lI d_.s.to,lI d_.s.id,.lst true 1 (Ls d_.s.cs),iV d_.t.n,lI d_.t.fr,lI d_.t.to,lI d_.t.id,.lst true 1 (Ls d_.t.cs),lI d_.ob,lI d_.ar,iV v1.s.n,.own 1 0 v1.s.fr.length,.own 2 0 v1.s.to.length,.own 3 0 v1.s.id.length,.own 4 0 v1.s.cs.length,iV v1.t.n,.own 5 0 v1.t.fr.length,.own 6 0 v1.t.to.length,.own 7 0 v1.t.id.length,.own 8 0 v1.t.cs.length,.own 9 0 v1.ob.length,.own 10 0 v1.ar.length,.rptr (Fn.cells true f_),.own 11 0 v2.1.length,.val (.slice none 0 0)]]),(1,rI v1.s.fr),(2,rI v1.s.to),(3,rI v1.s.id),(4,.row 1 (Ls v1.s.cs)),(5,rI v1.t.fr),(6,rI v1.t.to),(7,rI v1.t.id),(8,.row 1 (Ls v1.t.cs)),(9,rI v1.ob),(10,rI v1.ar),(11,.row 2 (Es (Cone.cells true) v2.1))],12⟩) (Qh [(0,0),(1,1),(2,2),(3,3),(4,4),(5,5),(6,6),(7,7),(8,8),(9,9),(10,10),(11,11)]) ?_;refine Q3 ?_;refine Qm [] mo (by rw [hN];decide) fun K hK=>?_;simp [-Q0,-Q5,-Q1,-Q6,-Q2];repeat with_reducible refine sdQ ?_
 replace h:=bind_some h;obtain ⟨v3,hv3,h⟩:=h;refine QD (fz:=[]) (Q4l _ v3 hv3) (.cons (.field rfl (by simp [Fn.cells,XMoved.cells]) (.cons .val (.cons (.whole (by simp) (by simp) (by simp)) (.cons (.whole (by simp) (by simp) (by simp)) (.cons (.whole (by simp) (by simp) (by simp)) (.cons (.whole (by simp) (by simp) (by simp)) (.cons .val (.cons (.whole (by simp) (by simp) (by simp)) (.cons (.whole (by simp) (by simp) (by simp)) (.cons (.whole (by simp) (by simp) (by simp)) (.cons (.whole (by simp) (by simp) (by simp)) (.cons (.whole (by simp) (by simp) (by simp)) (.cons (.whole (by simp) (by simp) (by simp)) .nil))))))))))))) .nil) ?_;simp [-Q0,-Q5,-Q1,-Q6,-Q2,unk,unA,unE,unT,unC,flat];repeat refine sdQ ?_
 refine hK _ ?_;clear hK K;refine tn ?_;refine Q8 (st':=⟨[(6,.adr 0 0 0),(7,.val (.bool v2.2)),(8,.val (.bool v3.2))],[(0,.mix 27 [[iV d_.s.n,lI d_.s.fr,lI d_.s.to,lI d_.s.id,.lst true 1 (Ls d_.s.cs),iV d_.t.n,lI d_.t.fr,lI d_.t.to,lI d_.t.id,.lst true 1 (Ls d_.t.cs),lI d_.ob,lI d_.ar,iV v1.s.n,.own 1 0 v1.s.fr.length,.own 2 0 v1.s.to.length,.own 3 0 v1.s.id.length,.own 4 0 v1.s.cs.length,iV v1.t.n,.own 5 0 v1.t.fr.length,.own 6 0 v1.t.to.length,.own 7 0 v1.t.id.length,.own 8 0 v1.t.cs.length,.own 9 0 v1.ob.length,.own 10 0 v1.ar.length,.rptr (Fn.cells true f_),.own 11 0 v2.1.length,.own 12 0 v3.1.length]]),(1,rI v1.s.fr),(2,rI v1.s.to),(3,rI v1.s.id),(4,.row 1 (Ls v1.s.cs)),(5,rI v1.t.fr),(6,rI v1.t.to),(7,rI v1.t.id),(8,.row 1 (Ls v1.t.cs)),(9,rI v1.ob),(10,rI v1.ar),(11,.row 2 (Es (Cone.cells true) v2.1)),(12,.row 2 (Es (Cone.cells true) v3.1))],13⟩) (Qh [(0,0),(1,1),(2,2),(3,3),(4,4),(5,5),(6,6),(7,7),(8,8),(9,9),(10,10),(11,11),(12,12)]) ?_;refine Q3 ?_;replace h:=bind_some h;obtain ⟨e4,h,h4⟩:=h;refine Qk (fun b4:Bool=>⟨[(4,.adr 0 0 0),(5,.val (.bool b4))],[(0,.mix 27 [[iV d_.s.n,lI d_.s.fr,lI d_.s.to,lI d_.s.id,.lst true 1 (Ls d_.s.cs),iV d_.t.n,lI d_.t.fr,lI d_.t.to,lI d_.t.id,.lst true 1 (Ls d_.t.cs),lI d_.ob,lI d_.ar,iV v1.s.n,.own 1 0 v1.s.fr.length,.own 2 0 v1.s.to.length,.own 3 0 v1.s.id.length,.own 4 0 v1.s.cs.length,iV v1.t.n,.own 5 0 v1.t.fr.length,.own 6 0 v1.t.to.length,.own 7 0 v1.t.id.length,.own 8 0 v1.t.cs.length,.own 9 0 v1.ob.length,.own 10 0 v1.ar.length,.rptr (Fn.cells true f_),.own 11 0 v2.1.length,.own 12 0 v3.1.length]]),(1,rI v1.s.fr),(2,rI v1.s.to),(3,rI v1.s.id),(4,.row 1 (Ls v1.s.cs)),(5,rI v1.t.fr),(6,rI v1.t.to),(7,rI v1.t.id),(8,.row 1 (Ls v1.t.cs)),(9,rI v1.ob),(10,rI v1.ar),(11,.row 2 (Es (Cone.cells true) v2.1)),(12,.row 2 (Es (Cone.cells true) v3.1))],13⟩) (fun b4=>b4=e4) ?_ ?_
 ·refine Qm [] mo (by rw [hN];decide) fun K hK=>?_;simp [-Q0,-Q5,-Q1,-Q6,-Q2];repeat with_reducible refine sdQ ?_
  refine Q1X (fun g=>?_) (fun g=>?_)
  ·have g5:v2.2=true:=gQ;clear g;replace h:=if_l g5 h;simp [-Q0,-Q5,-Q1,-Q6,-Q2];(repeat refine sdQ ?_);refine hK _ ?_;exact jn (b:=v3.2) (Option.some.inj h) (Qh [(0,0),(1,1),(2,2),(3,3),(4,4),(5,5),(6,6),(7,7),(8,8),(9,9),(10,10),(11,11),(12,12)])
  have g5:¬ (v2.2=true):=gQ;clear g;replace h:=if_r g5 h;simp [-Q0,-Q5,-Q1,-Q6,-Q2];repeat refine sdQ ?_
  refine hK _ ?_;exact jn (b:=false) (Option.some.inj h) (Qh [(0,0),(1,1),(2,2),(3,3),(4,4),(5,5),(6,6),(7,7),(8,8),(9,9),(10,10),(11,11),(12,12)])
 intro b4 hb4;have h:=h4;try rw [← hb4] at h
 clear h4;try dsimp only at h
 refine Qi ?_;have hr:=Option.some.inj h;rw [← hr];exact (.two (.field rfl (by simp [Fn.cells,XMoved.cells]) (.cons .val (.cons .lst (.cons .lst (.cons .lst (.cons .lst (.cons .val (.cons .lst (.cons .lst (.cons .lst (.cons .lst (.cons .lst (.cons .lst (.cons .val (.cons (.whole (by simp) (by simp) (by simp)) (.cons (.whole (by simp) (by simp) (by simp)) (.cons (.whole (by simp) (by simp) (by simp)) (.cons (.whole (by simp) (by simp) (by simp)) (.cons .val (.cons (.whole (by simp) (by simp) (by simp)) (.cons (.whole (by simp) (by simp) (by simp)) (.cons (.whole (by simp) (by simp) (by simp)) (.cons (.whole (by simp) (by simp) (by simp)) (.cons (.whole (by simp) (by simp) (by simp)) (.cons (.whole (by simp) (by simp) (by simp)) (.cons (.preT (by simp [Fn.cells,XMoved.cells])) (.cons (.whole (by simp) (by simp) (by simp)) (.cons (.whole (by simp) (by simp) (by simp)) .nil)))))))))))))))))))))))))))) (.two .val .nil))
attribute [local simp] eL eI Qs Q1D QZ QG Cone.cells Fn.cells XMoved.cells
noncomputable def Q1c (m_:XMoved):Option (List Cone) :=
 (Qy (σ:=List Cone × Int) (ε:=List Cone) (fun s9 =>
  if s9.2<(m_.all_.length:Int) then
   (
    ass (0≤s9.2∧s9.2<(m_.all_.length:Int)) <|
    (Q12 m_.d_ m_.all_ (gx m_.all_ s9.2)).bind fun v13 =>
    if v13=true then
     ass ((s9.1++[(gx m_.all_ s9.2)]).length≤1073741824) <|
     some (s9.1++[(gx m_.all_ s9.2)])
    else
     some s9.1:Option (List Cone)).bind fun b11 =>
   ass (B64 (s9.2+1)) <|
   some (Ctl.next (b11,s9.2+1))
  else
   some (Ctl.ret s9.1)) fuel ([],0)).bind fun b1 =>
 some b1
theorem Q4w (m_:XMoved) (r:List Cone) (h:Q1c m_=some r):FContract Try.prog true 147 [.rptr (m_.cells true)] (.lst true 2 (Es (Cone.cells true) r)):=by
 refine Q1j true (ts:=[2]) (rs:=[.lst true 2 (Es (Cone.cells true) r)]) Try.func147 rfl rfl rfl rfl (by simp [Try.f147]) fun F hN hP=>?_;unfold Q1c at h;refine Q3 ?_;refine Qm [] mo (by rw [hN];decide) fun K hK=>?_;simp [-Q0,-Q5,-Q1,-Q6,-Q2];repeat refine sdQ ?_
 refine hK _ ?_;clear hK K;refine tn ?_;refine Q8 (st':=⟨[(0,.rptr [iV m_.d_.s.n,lI m_.d_.s.fr,lI m_.d_.s.to,lI m_.d_.s.id,.lst true 1 (Ls m_.d_.s.cs),iV m_.d_.t.n,lI m_.d_.t.fr,lI m_.d_.t.to,lI m_.d_.t.id,.lst true 1 (Ls m_.d_.t.cs),lI m_.d_.ob,lI m_.d_.ar,iV m_.image_.s.n,lI m_.image_.s.fr,lI m_.image_.s.to,lI m_.image_.s.id,.lst true 1 (Ls m_.image_.s.cs),iV m_.image_.t.n,lI m_.image_.t.fr,lI m_.image_.t.to,lI m_.image_.t.id,.lst true 1 (Ls m_.image_.t.cs),lI m_.image_.ob,lI m_.image_.ar,.rptr (Fn.cells true m_.f_),.lst true 2 (Es (Cone.cells true) m_.all_),.lst true 2 (Es (Cone.cells true) m_.more_)])],[],0⟩) (Qh []) ?_;refine Q3 ?_;refine Qm [] mo (by rw [hN];decide) fun K hK=>?_;simp [-Q0,-Q5,-Q1,-Q6,-Q2];repeat refine sdQ ?_
 refine hK _ ?_;clear hK K;refine tn ?_;refine Q8 (st':=⟨[(0,.rptr [iV m_.d_.s.n,lI m_.d_.s.fr,lI m_.d_.s.to,lI m_.d_.s.id,.lst true 1 (Ls m_.d_.s.cs),iV m_.d_.t.n,lI m_.d_.t.fr,lI m_.d_.t.to,lI m_.d_.t.id,.lst true 1 (Ls m_.d_.t.cs),lI m_.d_.ob,lI m_.d_.ar,iV m_.image_.s.n,lI m_.image_.s.fr,lI m_.image_.s.to,lI m_.image_.s.id,.lst true 1 (Ls m_.image_.s.cs),iV m_.image_.t.n,lI m_.image_.t.fr,lI m_.image_.t.to,lI m_.image_.t.id,.lst true 1 (Ls m_.image_.t.cs),lI m_.image_.ob,lI m_.image_.ar,.rptr (Fn.cells true m_.f_),.lst true 2 (Es (Cone.cells true) m_.all_),.lst true 2 (Es (Cone.cells true) m_.more_)]),(3,.own 0 0 0)],[(0,.mix 2 [])],1⟩) (Qh [(0,0)]) ?_;refine Q3 ?_;refine Q3 ?_;refine Qm [] mo (by rw [hN];decide) fun K hK=>?_;simp [-Q0,-Q5,-Q1,-Q6,-Q2];repeat refine sdQ ?_
 refine hK _ ?_;clear hK K;refine tn ?_;refine Q8 (st':=⟨[(0,.rptr [iV m_.d_.s.n,lI m_.d_.s.fr,lI m_.d_.s.to,lI m_.d_.s.id,.lst true 1 (Ls m_.d_.s.cs),iV m_.d_.t.n,lI m_.d_.t.fr,lI m_.d_.t.to,lI m_.d_.t.id,.lst true 1 (Ls m_.d_.t.cs),lI m_.d_.ob,lI m_.d_.ar,iV m_.image_.s.n,lI m_.image_.s.fr,lI m_.image_.s.to,lI m_.image_.s.id,.lst true 1 (Ls m_.image_.s.cs),iV m_.image_.t.n,lI m_.image_.t.fr,lI m_.image_.t.to,lI m_.image_.t.id,.lst true 1 (Ls m_.image_.t.cs),lI m_.image_.ob,lI m_.image_.ar,.rptr (Fn.cells true m_.f_),.lst true 2 (Es (Cone.cells true) m_.all_),.lst true 2 (Es (Cone.cells true) m_.more_)]),(3,.own 0 0 0),(10,.lst true 2 (Es (Cone.cells true) m_.all_)),(11,iV (m_.all_.length:Int)),(12,iV 0)],[(0,.mix 2 [])],1⟩) (Qh [(0,0)]) ?_;replace h:=bind_some h;obtain ⟨e1,h,h1⟩:=h;refine Qk (fun b1:List Cone=>⟨[(3,.own 0 0 b1.length)],[(0,.mix 2 (Es (Cone.cells true) b1))],1⟩) (fun b1=>b1=e1) ?_ ?_
 ·refine Qa ?_;refine Qx h (fun s9:List Cone × Int=>⟨[(0,.rptr [iV m_.d_.s.n,lI m_.d_.s.fr,lI m_.d_.s.to,lI m_.d_.s.id,.lst true 1 (Ls m_.d_.s.cs),iV m_.d_.t.n,lI m_.d_.t.fr,lI m_.d_.t.to,lI m_.d_.t.id,.lst true 1 (Ls m_.d_.t.cs),lI m_.d_.ob,lI m_.d_.ar,iV m_.image_.s.n,lI m_.image_.s.fr,lI m_.image_.s.to,lI m_.image_.s.id,.lst true 1 (Ls m_.image_.s.cs),iV m_.image_.t.n,lI m_.image_.t.fr,lI m_.image_.t.to,lI m_.image_.t.id,.lst true 1 (Ls m_.image_.t.cs),lI m_.image_.ob,lI m_.image_.ar,.rptr (Fn.cells true m_.f_),.lst true 2 (Es (Cone.cells true) m_.all_),.lst true 2 (Es (Cone.cells true) m_.more_)]),(3,.own 0 0 s9.1.length),(10,.lst true 2 (Es (Cone.cells true) m_.all_)),(11,iV (m_.all_.length:Int)),(12,iV s9.2)],[(0,.mix 2 (Es (Cone.cells true) s9.1))],1⟩) (Qh [(0,0)]) ?_;clear h;intro k9 s9 c9 h hk9;refine Q3 ?_;refine Qm [] mo (by rw [hN];decide) fun K hK=>?_;simp [-Q0,-Q5,-Q1,-Q6,-Q2];repeat refine sdQ ?_
  refine hK _ ?_;clear hK K;refine tn ?_;refine Q8 (st':=⟨[(0,.rptr [iV m_.d_.s.n,lI m_.d_.s.fr,lI m_.d_.s.to,lI m_.d_.s.id,.lst true 1 (Ls m_.d_.s.cs),iV m_.d_.t.n,lI m_.d_.t.fr,lI m_.d_.t.to,lI m_.d_.t.id,.lst true 1 (Ls m_.d_.t.cs),lI m_.d_.ob,lI m_.d_.ar,iV m_.image_.s.n,lI m_.image_.s.fr,lI m_.image_.s.to,lI m_.image_.s.id,.lst true 1 (Ls m_.image_.s.cs),iV m_.image_.t.n,lI m_.image_.t.fr,lI m_.image_.t.to,lI m_.image_.t.id,.lst true 1 (Ls m_.image_.t.cs),lI m_.image_.ob,lI m_.image_.ar,.rptr (Fn.cells true m_.f_),.lst true 2 (Es (Cone.cells true) m_.all_),.lst true 2 (Es (Cone.cells true) m_.more_)]),(3,.own 0 0 s9.1.length),(10,.lst true 2 (Es (Cone.cells true) m_.all_)),(11,iV (m_.all_.length:Int)),(12,iV s9.2),(13,.val (.bool (decide (s9.2<(m_.all_.length:Int)))))],[(0,.mix 2 (Es (Cone.cells true) s9.1))],1⟩) (Qh [(0,0)]) ?_;refine Q3 ?_;refine Qc rfl (fun g=>?_) fun g=>?_
  ·have g10:s9.2<(m_.all_.length:Int):=gQ;clear g;replace h:=if_l g10 h;refine Qd ?_;refine tn ?_;refine Q3 ?_;replace h:=bind_some h;obtain ⟨e11,h,h11⟩:=h;refine Qk (fun b11:List Cone=>⟨[(0,.rptr [iV m_.d_.s.n,lI m_.d_.s.fr,lI m_.d_.s.to,lI m_.d_.s.id,.lst true 1 (Ls m_.d_.s.cs),iV m_.d_.t.n,lI m_.d_.t.fr,lI m_.d_.t.to,lI m_.d_.t.id,.lst true 1 (Ls m_.d_.t.cs),lI m_.d_.ob,lI m_.d_.ar,iV m_.image_.s.n,lI m_.image_.s.fr,lI m_.image_.s.to,lI m_.image_.s.id,.lst true 1 (Ls m_.image_.s.cs),iV m_.image_.t.n,lI m_.image_.t.fr,lI m_.image_.t.to,lI m_.image_.t.id,.lst true 1 (Ls m_.image_.t.cs),lI m_.image_.ob,lI m_.image_.ar,.rptr (Fn.cells true m_.f_),.lst true 2 (Es (Cone.cells true) m_.all_),.lst true 2 (Es (Cone.cells true) m_.more_)]),(3,.own 0 0 b11.length),(10,.lst true 2 (Es (Cone.cells true) m_.all_)),(11,iV (m_.all_.length:Int)),(12,iV s9.2)],[(0,.mix 2 (Es (Cone.cells true) b11))],1⟩) (fun b11=>b11=e11) ?_ ?_
   ·refine Qa ?_;refine Q3 ?_;refine Qm [] mo (by rw [hN];decide) fun K hK=>?_;replace h:=Q7 h;obtain ⟨a12,h⟩:=h;simp [-Q0,-Q5,-Q1,-Q6,-Q2,at_E (c:=(Cone.cells true)) a12];(repeat refine sdQ ?_);refine hK _ ?_;clear hK K;refine tn ?_;refine Q8 (st':=⟨[(0,.rptr [iV m_.d_.s.n,lI m_.d_.s.fr,lI m_.d_.s.to,lI m_.d_.s.id,.lst true 1 (Ls m_.d_.s.cs),iV m_.d_.t.n,lI m_.d_.t.fr,lI m_.d_.t.to,lI m_.d_.t.id,.lst true 1 (Ls m_.d_.t.cs),lI m_.d_.ob,lI m_.d_.ar,iV m_.image_.s.n,lI m_.image_.s.fr,lI m_.image_.s.to,lI m_.image_.s.id,.lst true 1 (Ls m_.image_.s.cs),iV m_.image_.t.n,lI m_.image_.t.fr,lI m_.image_.t.to,lI m_.image_.t.id,.lst true 1 (Ls m_.image_.t.cs),lI m_.image_.ob,lI m_.image_.ar,.rptr (Fn.cells true m_.f_),.lst true 2 (Es (Cone.cells true) m_.all_),.lst true 2 (Es (Cone.cells true) m_.more_)]),(3,.own 0 0 s9.1.length),(5,.adr 1 0 0),(10,.lst true 2 (Es (Cone.cells true) m_.all_)),(11,iV (m_.all_.length:Int)),(12,iV s9.2)],[(0,.mix 2 (Es (Cone.cells true) s9.1)),(1,.mix 2 [(Cone.cells true (gx m_.all_ s9.2))])],2⟩) (Qh [(0,0),(1,1)]) ?_;refine Q3 ?_;refine Qm [] mo (by rw [hN];decide) fun K hK=>?_;simp [-Q0,-Q5,-Q1,-Q6,-Q2];(repeat with_reducible refine sdQ ?_);replace h:=bind_some h;obtain ⟨v13,hv13,h⟩:=h;refine QD (fz:=[]) (Q3l _ _ _ v13 hv13) (.cons (.preT (by simp [Cone.cells,Fn.cells,XMoved.cells])) (.cons .lst (.cons (.aggL (.cons .val (.cons .lst .nil))) .nil))) ?_;simp [-Q0,-Q5,-Q1,-Q6,-Q2,unk,unA,unE,unT,unC,flat];(repeat refine sdQ ?_);refine hK _ ?_;clear hK K;refine tn ?_;refine Q8 (st':=⟨[(0,.rptr [iV m_.d_.s.n,lI m_.d_.s.fr,lI m_.d_.s.to,lI m_.d_.s.id,.lst true 1 (Ls m_.d_.s.cs),iV m_.d_.t.n,lI m_.d_.t.fr,lI m_.d_.t.to,lI m_.d_.t.id,.lst true 1 (Ls m_.d_.t.cs),lI m_.d_.ob,lI m_.d_.ar,iV m_.image_.s.n,lI m_.image_.s.fr,lI m_.image_.s.to,lI m_.image_.s.id,.lst true 1 (Ls m_.image_.s.cs),iV m_.image_.t.n,lI m_.image_.t.fr,lI m_.image_.t.to,lI m_.image_.t.id,.lst true 1 (Ls m_.image_.t.cs),lI m_.image_.ob,lI m_.image_.ar,.rptr (Fn.cells true m_.f_),.lst true 2 (Es (Cone.cells true) m_.all_),.lst true 2 (Es (Cone.cells true) m_.more_)]),(3,.own 0 0 s9.1.length),(5,.adr 1 0 0),(10,.lst true 2 (Es (Cone.cells true) m_.all_)),(11,iV (m_.all_.length:Int)),(12,iV s9.2),(24,.val (.bool v13))],[(0,.mix 2 (Es (Cone.cells true) s9.1)),(1,.mix 2 [(Cone.cells true (gx m_.all_ s9.2))])],2⟩) (Qh [(0,0),(1,1)]) ?_;refine Qc rfl (fun g=>?_) fun g=>?_
    ·have g14:v13=true:=gQ;clear g;replace h:=if_l g14 h;refine Qm [28] mo (by rw [hN];decide) fun K hK=>?_;replace h:=Q7 h;obtain ⟨a15,h⟩:=h;(try simp only [List.length_append,List.length_cons,List.length_nil] at a15);simp [-Q0,-Q5,-Q1,-Q6,-Q2,a15];(repeat refine sdQ ?_);refine hK _ ?_;clear hK K;refine bn ?_;exact jn (b:=s9.1++[(gx m_.all_ s9.2)]) (Option.some.inj h) (Qh [(3,0)])
    have g14:¬ (v13=true):=gQ;clear g;replace h:=if_r g14 h;refine Qd ?_;refine bn ?_;exact jn (b:=s9.1) (Option.some.inj h) (Qh [(0,0)])
   intro b11 hb11;have h:=h11;(try rw [← hb11] at h);clear h11;(try dsimp only at h);refine Qm [] mo (by rw [hN];decide) fun K hK=>?_;replace h:=Q7 h;obtain ⟨a16,h⟩:=h;simp [-Q0,-Q5,-Q1,-Q6,-Q2,Qu a16];(repeat refine sdQ ?_);refine hK _ ?_;clear hK K;cases h;exact rn (s':=(b11,s9.2+1)) hk9 (Qh [(0,0)])
  have g10:¬ (s9.2<(m_.all_.length:Int)):=gQ;clear g;replace h:=if_r g10 h;refine Qp ?_;refine tx ?_;refine lx ?_;refine bh ?_;cases h;exact jn (b:=s9.1) hk9 (Qh [(0,0)])
 intro b1 hb1;have h:=h1;try rw [← hb1] at h
 clear h1;try dsimp only at h
 refine Q3 ?_;refine Qm [] mo (by rw [hN];decide) fun K hK=>?_;simp [-Q0,-Q5,-Q1,-Q6,-Q2];repeat refine sdQ ?_
 refine hK _ ?_;clear hK K;refine tn ?_;refine Q8 (st':=⟨[(2,.own 0 0 b1.length)],[(0,.mix 2 (Es (Cone.cells true) b1))],1⟩) (Qh [(0,0)]) ?_;refine Qi ?_;have hr:=Option.some.inj h;rw [← hr];exact (.two (.smix rfl (by simp) (Q5s (by simp [Cone.cells,Fn.cells,XMoved.cells,Q1D,QZ,QG]))) .nil)
attribute [local simp] eL eI Qs Q1D QZ QG Cone.cells Fn.cells XMoved.cells
noncomputable def Q1l (m_:XMoved):Option (Bool × Bool) :=
 (Q1c m_).bind fun v1 =>
 if (v1.length:Int)=0 then
  some (false,false)
 else
  ass ((0:Int)≤0∧0<(v1.length:Int)) <|
  (QQ m_ (gx v1 0)).bind fun v4 =>
  some (v4,true)
theorem Q51 (m_:XMoved) (r:Bool × Bool) (h:Q1l m_=some r):Contract Try.prog 120 [.rptr (m_.cells true)] (.tup [.val (.bool r.1),.val (.bool r.2)]):=by
 refine Qe (rvs:=[.tmp 2,.tmp 3]) (rs:=[.val (.bool r.1),.val (.bool r.2)]) Try.func120 rfl rfl rfl rfl (by simp [Try.f120]) fun F hN hP=>?_;unfold Q1l at h;refine Q3 ?_;refine runQ hN fun K hK=>?_;simp [-Q0,-Q5,-Q1,-Q6,-Q2];repeat refine sdQ ?_
 refine hK _ ?_;clear hK K;refine tn ?_;refine Q8 (st':=⟨[(0,.rptr [iV m_.d_.s.n,lI m_.d_.s.fr,lI m_.d_.s.to,lI m_.d_.s.id,.lst true 1 (Ls m_.d_.s.cs),iV m_.d_.t.n,lI m_.d_.t.fr,lI m_.d_.t.to,lI m_.d_.t.id,.lst true 1 (Ls m_.d_.t.cs),lI m_.d_.ob,lI m_.d_.ar,iV m_.image_.s.n,lI m_.image_.s.fr,lI m_.image_.s.to,lI m_.image_.s.id,.lst true 1 (Ls m_.image_.s.cs),iV m_.image_.t.n,lI m_.image_.t.fr,lI m_.image_.t.to,lI m_.image_.t.id,.lst true 1 (Ls m_.image_.t.cs),lI m_.image_.ob,lI m_.image_.ar,.rptr (Fn.cells true m_.f_),.lst true 2 (Es (Cone.cells true) m_.all_),.lst true 2 (Es (Cone.cells true) m_.more_)])],[],0⟩) (Qh []) ?_;refine Q3 ?_;refine Qm [] mo (by rw [hN];decide) fun K hK=>?_;simp [-Q0,-Q5,-Q1,-Q6,-Q2];repeat with_reducible refine sdQ ?_
 replace h:=bind_some h;obtain ⟨v1,hv1,h⟩:=h;refine Q2h (fz:=[]) true (Q4w _ v1 hv1) (PurK.ofN (.cons (.preT (by simp [Fn.cells,XMoved.cells])) .nil)) ?_;simp [-Q0,-Q5,-Q1,-Q6,-Q2,unk,unA,unE,unT,unC,flat];repeat refine sdQ ?_
 refine hK _ ?_;clear hK K;refine tn ?_;refine Q8 (st':=⟨[(0,.rptr [iV m_.d_.s.n,lI m_.d_.s.fr,lI m_.d_.s.to,lI m_.d_.s.id,.lst true 1 (Ls m_.d_.s.cs),iV m_.d_.t.n,lI m_.d_.t.fr,lI m_.d_.t.to,lI m_.d_.t.id,.lst true 1 (Ls m_.d_.t.cs),lI m_.d_.ob,lI m_.d_.ar,iV m_.image_.s.n,lI m_.image_.s.fr,lI m_.image_.s.to,lI m_.image_.s.id,.lst true 1 (Ls m_.image_.s.cs),iV m_.image_.t.n,lI m_.image_.t.fr,lI m_.image_.t.to,lI m_.image_.t.id,.lst true 1 (Ls m_.image_.t.cs),lI m_.image_.ob,lI m_.image_.ar,.rptr (Fn.cells true m_.f_),.lst true 2 (Es (Cone.cells true) m_.all_),.lst true 2 (Es (Cone.cells true) m_.more_)]),(4,.lst true 2 (Es (Cone.cells true) v1))],[],0⟩) (Qh []) ?_;refine Q3 ?_;refine Q3 ?_;refine runQ hN fun K hK=>?_;simp [-Q0,-Q5,-Q1,-Q6,-Q2];repeat refine sdQ ?_
 refine hK _ ?_;clear hK K;refine tn ?_;refine Q8 (st':=⟨[(0,.rptr [iV m_.d_.s.n,lI m_.d_.s.fr,lI m_.d_.s.to,lI m_.d_.s.id,.lst true 1 (Ls m_.d_.s.cs),iV m_.d_.t.n,lI m_.d_.t.fr,lI m_.d_.t.to,lI m_.d_.t.id,.lst true 1 (Ls m_.d_.t.cs),lI m_.d_.ob,lI m_.d_.ar,iV m_.image_.s.n,lI m_.image_.s.fr,lI m_.image_.s.to,lI m_.image_.s.id,.lst true 1 (Ls m_.image_.s.cs),iV m_.image_.t.n,lI m_.image_.t.fr,lI m_.image_.t.to,lI m_.image_.t.id,.lst true 1 (Ls m_.image_.t.cs),lI m_.image_.ob,lI m_.image_.ar,.rptr (Fn.cells true m_.f_),.lst true 2 (Es (Cone.cells true) m_.all_),.lst true 2 (Es (Cone.cells true) m_.more_)]),(4,.lst true 2 (Es (Cone.cells true) v1)),(9,.val (.bool ((v1.length:Int) == 0)))],[],0⟩) (Qh []) ?_;refine Qc rfl (fun g=>?_) fun g=>?_
 ·have g2:(v1.length:Int)=0:=gQ;clear g;replace h:=if_l g2 h;refine Q3 ?_;refine runQ hN fun K hK=>?_;simp [-Q0,-Q5,-Q1,-Q6,-Q2];repeat refine sdQ ?_
  refine hK _ ?_;clear hK K;refine tn ?_;refine Q8 (st':=⟨[(2,.val (.bool false)),(3,.val (.bool false))],[],0⟩) (Qh []) ?_;refine Qi ?_;refine tr ?_;have hr:=Option.some.inj h;rw [← hr];refine ⟨_,(.tmp (.tmp .nil)),?_⟩;refine ⟨(.one rfl rfl (.one rfl rfl .nil)),[.val (.bool false),.val (.bool false)],[],by simp [Cone.cells,Fn.cells,XMoved.cells,UA,U1,IA,I1,LA,L1,BA,B1,EA,E1,E2,eB,eI,eL,Qg _ QG _ (fun _=>rfl),Qg _ (Cone.cells true) _ (fun _=>rfl)],by simp,(UpL.refl _)⟩
 have g2:¬ ((v1.length:Int)=0):=gQ;clear g;replace h:=if_r g2 h;refine Qd ?_;refine tn ?_;refine Q3 ?_;refine runQ hN fun K hK=>?_;replace h:=Q7 h;obtain ⟨a3,h⟩:=h;simp [-Q0,-Q5,-Q1,-Q6,-Q2,(show (Es (Cone.cells true) v1)[0]? = some ((Cone.cells true) (gx v1 0)) from at_E (j:=0) a3)];repeat with_reducible refine sdQ ?_
 replace h:=bind_some h;obtain ⟨v4,hv4,h⟩:=h;refine Q4 (Q4b _ _ v4 hv4) (.cons (.preT (by simp [Cone.cells,Fn.cells,XMoved.cells])) (.cons (.aggL (.cons .val (.cons .lst .nil))) .nil)) ?_;simp [-Q0,-Q5,-Q1,-Q6,-Q2,unk,unA,unE,unT,unC,flat];repeat refine sdQ ?_
 refine hK _ ?_;clear hK K;refine tn ?_;refine Q8 (st':=⟨[(2,.val (.bool v4)),(3,.val (.bool true))],[],0⟩) (Qh []) ?_;refine Qi ?_;have hr:=Option.some.inj h;rw [← hr];refine ⟨_,(.tmp (.tmp .nil)),?_⟩;refine ⟨(.one rfl rfl (.one rfl rfl .nil)),[.val (.bool v4),.val (.bool true)],[],by simp [Cone.cells,Fn.cells,XMoved.cells,UA,U1,IA,I1,LA,L1,BA,B1,EA,E1,E2,eB,eI,eL,Qg _ QG _ (fun _=>rfl),Qg _ (Cone.cells true) _ (fun _=>rfl)],by simp,(UpL.refl _)⟩
attribute [local simp] eL eI Qs QH QZ QG Cat.cells Fn.cells XMoved.cells
noncomputable def Q1U (d_:Fn) (f_:Fn):Option (Bool × Int) :=
 (
  (
   (QR [d_,f_]).bind fun v3 =>
   if ¬ (v3=true) then
    some (Sum.inl 1)
   else
    (QJ d_.t f_.s).bind fun v5 =>
    if ¬ (v5=true) then
     some (Sum.inl 5)
    else
     (
      some ():Option (Unit)).bind fun b7 =>
     (Q2p d_ f_).bind fun v8 =>
     if ¬ (v8.2=true) then
      some (Sum.inl 3)
     else
      some (Sum.inr (v8.1.d_.s.n,v8.1.d_.s.fr,v8.1.d_.s.to,v8.1.d_.s.id,v8.1.d_.s.cs,v8.1.d_.t.n,v8.1.d_.t.fr,v8.1.d_.t.to,v8.1.d_.t.id,v8.1.d_.t.cs,v8.1.d_.ob,v8.1.d_.ar,v8.1.image_.s.n,v8.1.image_.s.fr,v8.1.image_.s.to,v8.1.image_.s.id,v8.1.image_.s.cs,v8.1.image_.t.n,v8.1.image_.t.fr,v8.1.image_.t.to,v8.1.image_.t.id,v8.1.image_.t.cs,v8.1.image_.ob,v8.1.image_.ar,v8.1.f_.s.n,v8.1.f_.s.fr,v8.1.f_.s.to,v8.1.f_.s.id,v8.1.f_.s.cs,v8.1.f_.t.n,v8.1.f_.t.fr,v8.1.f_.t.to,v8.1.f_.t.id,v8.1.f_.t.cs,v8.1.f_.ob,v8.1.f_.ar,v8.1.all_,v8.1.more_)):Option (Int ⊕ (Int × List Int × List Int × List Int × List (List Int) × Int × List Int × List Int × List Int × List (List Int) × List Int × List Int × Int × List Int × List Int × List Int × List (List Int) × Int × List Int × List Int × List Int × List (List Int) × List Int × List Int × Int × List Int × List Int × List Int × List (List Int) × Int × List Int × List Int × List Int × List (List Int) × List Int × List Int × List Cone × List Cone))).bind fun v10 =>
  match v10 with
  | .inl v10 =>
   if ¬ (v10=0) then
    some (false,v10)
   else
    ass (False) <|
    none
  | .inr v10 =>
   (Q1l (⟨(⟨(⟨v10.1,v10.2.1,v10.2.2.1,v10.2.2.2.1,v10.2.2.2.2.1⟩:Cat),(⟨v10.2.2.2.2.2.1,v10.2.2.2.2.2.2.1,v10.2.2.2.2.2.2.2.1,v10.2.2.2.2.2.2.2.2.1,v10.2.2.2.2.2.2.2.2.2.1⟩:Cat),v10.2.2.2.2.2.2.2.2.2.2.1,v10.2.2.2.2.2.2.2.2.2.2.2.1⟩:Fn),(⟨(⟨v10.2.2.2.2.2.2.2.2.2.2.2.2.1,v10.2.2.2.2.2.2.2.2.2.2.2.2.2.1,v10.2.2.2.2.2.2.2.2.2.2.2.2.2.2.1,v10.2.2.2.2.2.2.2.2.2.2.2.2.2.2.2.1,v10.2.2.2.2.2.2.2.2.2.2.2.2.2.2.2.2.1⟩:Cat),(⟨v10.2.2.2.2.2.2.2.2.2.2.2.2.2.2.2.2.2.1,v10.2.2.2.2.2.2.2.2.2.2.2.2.2.2.2.2.2.2.1,v10.2.2.2.2.2.2.2.2.2.2.2.2.2.2.2.2.2.2.2.1,v10.2.2.2.2.2.2.2.2.2.2.2.2.2.2.2.2.2.2.2.2.1,v10.2.2.2.2.2.2.2.2.2.2.2.2.2.2.2.2.2.2.2.2.2.1⟩:Cat),v10.2.2.2.2.2.2.2.2.2.2.2.2.2.2.2.2.2.2.2.2.2.2.1,v10.2.2.2.2.2.2.2.2.2.2.2.2.2.2.2.2.2.2.2.2.2.2.2.1⟩:Fn),(⟨(⟨v10.2.2.2.2.2.2.2.2.2.2.2.2.2.2.2.2.2.2.2.2.2.2.2.2.1,v10.2.2.2.2.2.2.2.2.2.2.2.2.2.2.2.2.2.2.2.2.2.2.2.2.2.1,v10.2.2.2.2.2.2.2.2.2.2.2.2.2.2.2.2.2.2.2.2.2.2.2.2.2.2.1,v10.2.2.2.2.2.2.2.2.2.2.2.2.2.2.2.2.2.2.2.2.2.2.2.2.2.2.2.1,v10.2.2.2.2.2.2.2.2.2.2.2.2.2.2.2.2.2.2.2.2.2.2.2.2.2.2.2.2.1⟩:Cat),(⟨v10.2.2.2.2.2.2.2.2.2.2.2.2.2.2.2.2.2.2.2.2.2.2.2.2.2.2.2.2.2.1,v10.2.2.2.2.2.2.2.2.2.2.2.2.2.2.2.2.2.2.2.2.2.2.2.2.2.2.2.2.2.2.1,v10.2.2.2.2.2.2.2.2.2.2.2.2.2.2.2.2.2.2.2.2.2.2.2.2.2.2.2.2.2.2.2.1,v10.2.2.2.2.2.2.2.2.2.2.2.2.2.2.2.2.2.2.2.2.2.2.2.2.2.2.2.2.2.2.2.2.1,v10.2.2.2.2.2.2.2.2.2.2.2.2.2.2.2.2.2.2.2.2.2.2.2.2.2.2.2.2.2.2.2.2.2.1⟩:Cat),v10.2.2.2.2.2.2.2.2.2.2.2.2.2.2.2.2.2.2.2.2.2.2.2.2.2.2.2.2.2.2.2.2.2.2.1,v10.2.2.2.2.2.2.2.2.2.2.2.2.2.2.2.2.2.2.2.2.2.2.2.2.2.2.2.2.2.2.2.2.2.2.2.1⟩:Fn),v10.2.2.2.2.2.2.2.2.2.2.2.2.2.2.2.2.2.2.2.2.2.2.2.2.2.2.2.2.2.2.2.2.2.2.2.2.1,v10.2.2.2.2.2.2.2.2.2.2.2.2.2.2.2.2.2.2.2.2.2.2.2.2.2.2.2.2.2.2.2.2.2.2.2.2.2⟩:XMoved)).bind fun v12 =>
   if ¬ (v12.2=true) then
    some (false,4)
   else
    some (v12.1,0):Option (Bool × Int)).bind fun v14 =>
 some (v14.1,v14.2)
theorem Q5c (d_:Fn) (f_:Fn) (r:Bool × Int) (h:Q1U d_ f_=some r):Contract Try.prog 26 [.agg (d_.cells true),.agg (f_.cells true)] (.tup [.val (.bool r.1),iV r.2]):=by
 refine Qe (rvs:=[.tmp 4,.tmp 5]) (rs:=[.val (.bool r.1),iV r.2]) Try.func26 rfl rfl rfl rfl (by simp [Try.f26]) fun F hN hP=>?_;unfold Q1U at h;refine Q3 ?_;refine Qm [2,3] mo (by rw [hN];decide) fun K hK=>?_;simp [-Q0,-Q5,-Q1,-Q6,-Q2];repeat refine sdQ ?_
 refine hK _ ?_;clear hK K;refine tn ?_;refine Q8 (st':=⟨[(2,.rptr (Fn.cells true d_)),(3,.rptr (Fn.cells true f_))],[],0⟩) (Qh []) ?_;refine Q3 ?_;refine Q31 [] mo (by rw [hN];decide) fun K hK=>?_;simp [-Q0,-Q5,-Q1,-Q6,-Q2];repeat with_reducible refine sdQ ?_
 replace h:=bind_some h;obtain ⟨v14,hv14,h⟩:=h;refine Q2a (fz:=[]) (Q1L (ts:=[6,7]) (e:={ v:=.tup [.val (.bool v14.1),iV v14.2],set:=[],del:=[],new:=[],cnt:=0 }) Try.func78 rfl rfl rfl (by simp [Try.f78]) (by simp) (Q4H (by simp)) (newI (by rfl)) fun F hN hP=>?_) ?_
 ·clear h;have h:=hv14;clear hv14;refine Q3 ?_;refine Qm [] mo (by rw [hN];decide) fun K hK=>?_;simp [-Q0,-Q5,-Q1,-Q6,-Q2];repeat refine sdQ ?_
  refine hK _ ?_;clear hK K;refine tn ?_;refine Q8 (st':=⟨[(0,.rptr (Fn.cells true d_)),(1,.rptr (Fn.cells true f_)),(2,.val (.bool false))],[],0⟩) (Qh []) ?_;refine Q3 ?_;refine Q31 [] mo (by rw [hN];decide) fun K hK=>?_;simp [-Q0,-Q5,-Q1,-Q6,-Q2];repeat with_reducible refine sdQ ?_
  replace h:=bind_some h;obtain ⟨v10,hv10,h⟩:=h;refine Q2a (fz:=[]) (Q1L (ts:=[6,7]) (e:=(match (generalizing:=false) v10 with|.inl v10=>{ v:=.tup [.val (.pointer none),iV v10],set:=[],del:=[],new:=[],cnt:=0 }|.inr v10=>{ v:=.tup [.rptr [iV v10.1,lI v10.2.1,lI v10.2.2.1,lI v10.2.2.2.1,.lst true 1 (Ls v10.2.2.2.2.1),iV v10.2.2.2.2.2.1,lI v10.2.2.2.2.2.2.1,lI v10.2.2.2.2.2.2.2.1,lI v10.2.2.2.2.2.2.2.2.1,.lst true 1 (Ls v10.2.2.2.2.2.2.2.2.2.1),lI v10.2.2.2.2.2.2.2.2.2.2.1,lI v10.2.2.2.2.2.2.2.2.2.2.2.1,iV v10.2.2.2.2.2.2.2.2.2.2.2.2.1,lI v10.2.2.2.2.2.2.2.2.2.2.2.2.2.1,lI v10.2.2.2.2.2.2.2.2.2.2.2.2.2.2.1,lI v10.2.2.2.2.2.2.2.2.2.2.2.2.2.2.2.1,.lst true 1 (Ls v10.2.2.2.2.2.2.2.2.2.2.2.2.2.2.2.2.1),iV v10.2.2.2.2.2.2.2.2.2.2.2.2.2.2.2.2.2.1,lI v10.2.2.2.2.2.2.2.2.2.2.2.2.2.2.2.2.2.2.1,lI v10.2.2.2.2.2.2.2.2.2.2.2.2.2.2.2.2.2.2.2.1,lI v10.2.2.2.2.2.2.2.2.2.2.2.2.2.2.2.2.2.2.2.2.1,.lst true 1 (Ls v10.2.2.2.2.2.2.2.2.2.2.2.2.2.2.2.2.2.2.2.2.2.1),lI v10.2.2.2.2.2.2.2.2.2.2.2.2.2.2.2.2.2.2.2.2.2.2.1,lI v10.2.2.2.2.2.2.2.2.2.2.2.2.2.2.2.2.2.2.2.2.2.2.2.1,.rptr [iV v10.2.2.2.2.2.2.2.2.2.2.2.2.2.2.2.2.2.2.2.2.2.2.2.2.1,lI v10.2.2.2.2.2.2.2.2.2.2.2.2.2.2.2.2.2.2.2.2.2.2.2.2.2.1,lI v10.2.2.2.2.2.2.2.2.2.2.2.2.2.2.2.2.2.2.2.2.2.2.2.2.2.2.1,lI v10.2.2.2.2.2.2.2.2.2.2.2.2.2.2.2.2.2.2.2.2.2.2.2.2.2.2.2.1,.lst true 1 (Ls v10.2.2.2.2.2.2.2.2.2.2.2.2.2.2.2.2.2.2.2.2.2.2.2.2.2.2.2.2.1),iV v10.2.2.2.2.2.2.2.2.2.2.2.2.2.2.2.2.2.2.2.2.2.2.2.2.2.2.2.2.2.1,lI v10.2.2.2.2.2.2.2.2.2.2.2.2.2.2.2.2.2.2.2.2.2.2.2.2.2.2.2.2.2.2.1,lI v10.2.2.2.2.2.2.2.2.2.2.2.2.2.2.2.2.2.2.2.2.2.2.2.2.2.2.2.2.2.2.2.1,lI v10.2.2.2.2.2.2.2.2.2.2.2.2.2.2.2.2.2.2.2.2.2.2.2.2.2.2.2.2.2.2.2.2.1,.lst true 1 (Ls v10.2.2.2.2.2.2.2.2.2.2.2.2.2.2.2.2.2.2.2.2.2.2.2.2.2.2.2.2.2.2.2.2.2.1),lI v10.2.2.2.2.2.2.2.2.2.2.2.2.2.2.2.2.2.2.2.2.2.2.2.2.2.2.2.2.2.2.2.2.2.2.1,lI v10.2.2.2.2.2.2.2.2.2.2.2.2.2.2.2.2.2.2.2.2.2.2.2.2.2.2.2.2.2.2.2.2.2.2.2.1],.lst true 2 (Es (Cone.cells true) v10.2.2.2.2.2.2.2.2.2.2.2.2.2.2.2.2.2.2.2.2.2.2.2.2.2.2.2.2.2.2.2.2.2.2.2.2.1),.lst true 2 (Es (Cone.cells true) v10.2.2.2.2.2.2.2.2.2.2.2.2.2.2.2.2.2.2.2.2.2.2.2.2.2.2.2.2.2.2.2.2.2.2.2.2.2)],iV 0],set:=[],del:=[],new:=[],cnt:=0 })) Try.func117 rfl rfl rfl (by simp [Try.f117]) (by simp) (Q4H (by rcases v10 with v10|v10<;>simp)) (newI (by rcases v10 with v10|v10<;>rfl)) fun F hN hP=>?_) ?_
  ·clear h;have h:=hv10;clear hv10;refine Q3 ?_;refine Qm [] mo (by rw [hN];decide) fun K hK=>?_;simp [-Q0,-Q5,-Q1,-Q6,-Q2];(repeat refine sdQ ?_);refine hK _ ?_;clear hK K;refine tn ?_;refine Q8 (st':=⟨[(0,.rptr (Fn.cells true d_)),(1,.rptr (Fn.cells true f_)),(2,.val (.bool false))],[],0⟩) (Qh []) ?_;refine Q3 ?_;refine Q3 ?_;refine Qm [] mo (by rw [hN];decide) fun K hK=>?_;simp [-Q0,-Q5,-Q1,-Q6,-Q2];(repeat with_reducible refine sdQ ?_);replace h:=bind_some h;obtain ⟨v3,hv3,h⟩:=h;refine QD (fz:=[]) (Q4Z _ v3 hv3) (.cons (.lits (es:=_) rfl (.cons rfl (.cons (.preT (by simp [Fn.cells])) .nil) (.cons rfl (.cons (.preT (by simp [Fn.cells])) .nil) .nil)) rfl) .nil) ?_;simp [-Q0,-Q5,-Q1,-Q6,-Q2,unk,unA,unE,unT,unC,flat];(repeat refine sdQ ?_);refine hK _ ?_;clear hK K;refine tn ?_;refine Q8 (st':=⟨[(0,.rptr (Fn.cells true d_)),(1,.rptr (Fn.cells true f_)),(2,.val (.bool false)),(16,.val (.bool (!v3)))],[],0⟩) (Qh []) ?_;refine Qc rfl (fun g=>?_) fun g=>?_
   ·have g4:¬ (v3=true):=gQ;clear g;replace h:=if_l g4 h;refine Q3 ?_;refine Qm [] mo (by rw [hN];decide) fun K hK=>?_;simp [-Q0,-Q5,-Q1,-Q6,-Q2];(repeat refine sdQ ?_);refine hK _ ?_;clear hK K;refine tn ?_;refine Q8 (st':=⟨[(6,.val (.pointer none)),(7,iV 1)],[],0⟩) (Qh []) ?_;refine Qi ?_;refine tr ?_;cases h;(try dsimp only);first|refine iw_r (st':=⟨[(6,.val (.pointer none)),(7,iV 1)],[],0⟩) ?_ ?_|refine iw_n (st':=⟨[(6,.val (.pointer none)),(7,iV 1)],[],0⟩) ?_ ?_
    ·exact Wk.r1 [] (by simp [hP,hhOk,back,Cat.cells,Fn.cells,XMoved.cells,UA,U1,IA,I1,LA,L1,BA,B1,EA,E1,E2,eB,eI,eL,Qg _ QG _ (fun _=>rfl),Qg _ (Cone.cells true) _ (fun _=>rfl)])
    exact ⟨by simp [Qv],by simp,by simp [Cat.cells,Fn.cells,XMoved.cells]⟩
   have g4:¬ (¬ (v3=true)):=gQ;clear g;replace h:=if_r g4 h;refine Qd ?_;refine tn ?_;refine Q3 ?_;refine Q3 ?_;refine Qm [] mo (by rw [hN];decide) fun K hK=>?_;simp [-Q0,-Q5,-Q1,-Q6,-Q2];(repeat with_reducible refine sdQ ?_);replace h:=bind_some h;obtain ⟨v5,hv5,h⟩:=h;refine QD (fz:=[]) (Q4x _ _ v5 hv5) (.cons (.preT (by simp [Cat.cells,Fn.cells])) (.cons (.preT (by simp [Cat.cells,Fn.cells])) .nil)) ?_;simp [-Q0,-Q5,-Q1,-Q6,-Q2,unk,unA,unE,unT,unC,flat];(repeat refine sdQ ?_);refine hK _ ?_;clear hK K;refine tn ?_;refine Q8 (st':=⟨[(0,.rptr (Fn.cells true d_)),(1,.rptr (Fn.cells true f_)),(2,.val (.bool false)),(24,.val (.bool (!v5)))],[],0⟩) (Qh []) ?_;refine Qc rfl (fun g=>?_) fun g=>?_
   ·have g6:¬ (v5=true):=gQ;clear g;replace h:=if_l g6 h;refine Q3 ?_;refine Qm [] mo (by rw [hN];decide) fun K hK=>?_;simp [-Q0,-Q5,-Q1,-Q6,-Q2];(repeat refine sdQ ?_);refine hK _ ?_;clear hK K;refine tn ?_;refine Q8 (st':=⟨[(6,.val (.pointer none)),(7,iV 5)],[],0⟩) (Qh []) ?_;refine Qi ?_;refine tr ?_;cases h;(try dsimp only);first|refine iw_r (st':=⟨[(6,.val (.pointer none)),(7,iV 5)],[],0⟩) ?_ ?_|refine iw_n (st':=⟨[(6,.val (.pointer none)),(7,iV 5)],[],0⟩) ?_ ?_
    ·exact Wk.r1 [] (by simp [hP,hhOk,back,Cat.cells,Fn.cells,XMoved.cells,UA,U1,IA,I1,LA,L1,BA,B1,EA,E1,E2,eB,eI,eL,Qg _ QG _ (fun _=>rfl),Qg _ (Cone.cells true) _ (fun _=>rfl)])
    exact ⟨by simp [Qv],by simp,by simp [Cat.cells,Fn.cells,XMoved.cells]⟩
   have g6:¬ (¬ (v5=true)):=gQ;clear g;replace h:=if_r g6 h;refine Qd ?_;refine tn ?_;refine Q3 ?_;refine Q3 ?_;refine Qm [] mo (by rw [hN];decide) fun K hK=>?_;simp [-Q0,-Q5,-Q1,-Q6,-Q2];(repeat refine sdQ ?_);refine hK _ ?_;clear hK K;refine tn ?_;refine Q8 (st':=⟨[(0,.rptr (Fn.cells true d_)),(1,.rptr (Fn.cells true f_)),(25,.val (.bool false))],[],0⟩) (Qh []) ?_;replace h:=bind_some h;obtain ⟨e7,h,h7⟩:=h;refine Qk (fun b7:Unit=>⟨[(0,.rptr (Fn.cells true d_)),(1,.rptr (Fn.cells true f_))],[],0⟩) (fun b7=>b7=e7) ?_ ?_
   ·refine Qc rfl (fun g=>by simp at g) fun _=>?_;refine Qd ?_;exact jn (b:=()) (Option.some.inj h) (Qh [])
   intro b7 hb7;have h:=h7;(try rw [← hb7] at h);clear h7;(try dsimp only at h);refine Q3 ?_;refine Qm [] mo (by rw [hN];decide) fun K hK=>?_;simp [-Q0,-Q5,-Q1,-Q6,-Q2];(repeat with_reducible refine sdQ ?_);replace h:=bind_some h;obtain ⟨v8,hv8,h⟩:=h;refine Q2h (fz:=[]) true (Q7t _ _ v8 hv8) (PurK.ofN (.cons (.preT (by simp [Cat.cells,Fn.cells])) (.cons (.preT (by simp [Cat.cells,Fn.cells])) .nil))) ?_;simp [-Q0,-Q5,-Q1,-Q6,-Q2,unk,unA,unE,unT,unC,flat];(repeat refine sdQ ?_);refine hK _ ?_;clear hK K;refine tn ?_;refine Q8 (st':=⟨[(10,.rptr [iV v8.1.d_.s.n,lI v8.1.d_.s.fr,lI v8.1.d_.s.to,lI v8.1.d_.s.id,.lst true 1 (Ls v8.1.d_.s.cs),iV v8.1.d_.t.n,lI v8.1.d_.t.fr,lI v8.1.d_.t.to,lI v8.1.d_.t.id,.lst true 1 (Ls v8.1.d_.t.cs),lI v8.1.d_.ob,lI v8.1.d_.ar,iV v8.1.image_.s.n,lI v8.1.image_.s.fr,lI v8.1.image_.s.to,lI v8.1.image_.s.id,.lst true 1 (Ls v8.1.image_.s.cs),iV v8.1.image_.t.n,lI v8.1.image_.t.fr,lI v8.1.image_.t.to,lI v8.1.image_.t.id,.lst true 1 (Ls v8.1.image_.t.cs),lI v8.1.image_.ob,lI v8.1.image_.ar,.rptr (Fn.cells true v8.1.f_),.lst true 2 (Es (Cone.cells true) v8.1.all_),.lst true 2 (Es (Cone.cells true) v8.1.more_)]),(11,.val (.bool v8.2))],[],0⟩) (Qh []) ?_;refine Q3 ?_;refine Q3 ?_;refine Qm [] mo (by rw [hN];decide) fun K hK=>?_;simp [-Q0,-Q5,-Q1,-Q6,-Q2];(repeat refine sdQ ?_);refine hK _ ?_;clear hK K;refine tn ?_;refine Q8 (st':=⟨[(10,.rptr [iV v8.1.d_.s.n,lI v8.1.d_.s.fr,lI v8.1.d_.s.to,lI v8.1.d_.s.id,.lst true 1 (Ls v8.1.d_.s.cs),iV v8.1.d_.t.n,lI v8.1.d_.t.fr,lI v8.1.d_.t.to,lI v8.1.d_.t.id,.lst true 1 (Ls v8.1.d_.t.cs),lI v8.1.d_.ob,lI v8.1.d_.ar,iV v8.1.image_.s.n,lI v8.1.image_.s.fr,lI v8.1.image_.s.to,lI v8.1.image_.s.id,.lst true 1 (Ls v8.1.image_.s.cs),iV v8.1.image_.t.n,lI v8.1.image_.t.fr,lI v8.1.image_.t.to,lI v8.1.image_.t.id,.lst true 1 (Ls v8.1.image_.t.cs),lI v8.1.image_.ob,lI v8.1.image_.ar,.rptr (Fn.cells true v8.1.f_),.lst true 2 (Es (Cone.cells true) v8.1.all_),.lst true 2 (Es (Cone.cells true) v8.1.more_)]),(37,.val (.bool (!v8.2)))],[],0⟩) (Qh []) ?_;refine Qc rfl (fun g=>?_) fun g=>?_
   ·have g9:¬ (v8.2=true):=gQ;clear g;replace h:=if_l g9 h;refine Q3 ?_;refine Qm [] mo (by rw [hN];decide) fun K hK=>?_;simp [-Q0,-Q5,-Q1,-Q6,-Q2];(repeat refine sdQ ?_);refine hK _ ?_;clear hK K;refine tn ?_;refine Q8 (st':=⟨[(6,.val (.pointer none)),(7,iV 3)],[],0⟩) (Qh []) ?_;refine Qi ?_;refine tr ?_;cases h;(try dsimp only);first|refine iw_r (st':=⟨[(6,.val (.pointer none)),(7,iV 3)],[],0⟩) ?_ ?_|refine iw_n (st':=⟨[(6,.val (.pointer none)),(7,iV 3)],[],0⟩) ?_ ?_
    ·exact Wk.r1 [] (by simp [hP,hhOk,back,Cat.cells,Fn.cells,XMoved.cells,UA,U1,IA,I1,LA,L1,BA,B1,EA,E1,E2,eB,eI,eL,Qg _ QG _ (fun _=>rfl),Qg _ (Cone.cells true) _ (fun _=>rfl)])
    exact ⟨by simp [Qv],by simp,by simp [Cat.cells,Fn.cells,XMoved.cells]⟩
   have g9:¬ (¬ (v8.2=true)):=gQ;clear g;replace h:=if_r g9 h;refine Qd ?_;refine tn ?_;refine Q3 ?_;refine Qm [] mo (by rw [hN];decide) fun K hK=>?_;simp [-Q0,-Q5,-Q1,-Q6,-Q2];(repeat refine sdQ ?_);refine hK _ ?_;clear hK K;refine tn ?_;refine Q8 (st':=⟨[(6,.rptr [iV v8.1.d_.s.n,lI v8.1.d_.s.fr,lI v8.1.d_.s.to,lI v8.1.d_.s.id,.lst true 1 (Ls v8.1.d_.s.cs),iV v8.1.d_.t.n,lI v8.1.d_.t.fr,lI v8.1.d_.t.to,lI v8.1.d_.t.id,.lst true 1 (Ls v8.1.d_.t.cs),lI v8.1.d_.ob,lI v8.1.d_.ar,iV v8.1.image_.s.n,lI v8.1.image_.s.fr,lI v8.1.image_.s.to,lI v8.1.image_.s.id,.lst true 1 (Ls v8.1.image_.s.cs),iV v8.1.image_.t.n,lI v8.1.image_.t.fr,lI v8.1.image_.t.to,lI v8.1.image_.t.id,.lst true 1 (Ls v8.1.image_.t.cs),lI v8.1.image_.ob,lI v8.1.image_.ar,.rptr (Fn.cells true v8.1.f_),.lst true 2 (Es (Cone.cells true) v8.1.all_),.lst true 2 (Es (Cone.cells true) v8.1.more_)]),(7,iV 0)],[],0⟩) (Qh []) ?_;refine Qi ?_;cases h;(try dsimp only);first|refine iw_r (st':=⟨[(6,.rptr [iV v8.1.d_.s.n,lI v8.1.d_.s.fr,lI v8.1.d_.s.to,lI v8.1.d_.s.id,.lst true 1 (Ls v8.1.d_.s.cs),iV v8.1.d_.t.n,lI v8.1.d_.t.fr,lI v8.1.d_.t.to,lI v8.1.d_.t.id,.lst true 1 (Ls v8.1.d_.t.cs),lI v8.1.d_.ob,lI v8.1.d_.ar,iV v8.1.image_.s.n,lI v8.1.image_.s.fr,lI v8.1.image_.s.to,lI v8.1.image_.s.id,.lst true 1 (Ls v8.1.image_.s.cs),iV v8.1.image_.t.n,lI v8.1.image_.t.fr,lI v8.1.image_.t.to,lI v8.1.image_.t.id,.lst true 1 (Ls v8.1.image_.t.cs),lI v8.1.image_.ob,lI v8.1.image_.ar,.rptr (Fn.cells true v8.1.f_),.lst true 2 (Es (Cone.cells true) v8.1.all_),.lst true 2 (Es (Cone.cells true) v8.1.more_)]),(7,iV 0)],[],0⟩) ?_ ?_|refine iw_n (st':=⟨[(6,.rptr [iV v8.1.d_.s.n,lI v8.1.d_.s.fr,lI v8.1.d_.s.to,lI v8.1.d_.s.id,.lst true 1 (Ls v8.1.d_.s.cs),iV v8.1.d_.t.n,lI v8.1.d_.t.fr,lI v8.1.d_.t.to,lI v8.1.d_.t.id,.lst true 1 (Ls v8.1.d_.t.cs),lI v8.1.d_.ob,lI v8.1.d_.ar,iV v8.1.image_.s.n,lI v8.1.image_.s.fr,lI v8.1.image_.s.to,lI v8.1.image_.s.id,.lst true 1 (Ls v8.1.image_.s.cs),iV v8.1.image_.t.n,lI v8.1.image_.t.fr,lI v8.1.image_.t.to,lI v8.1.image_.t.id,.lst true 1 (Ls v8.1.image_.t.cs),lI v8.1.image_.ob,lI v8.1.image_.ar,.rptr (Fn.cells true v8.1.f_),.lst true 2 (Es (Cone.cells true) v8.1.all_),.lst true 2 (Es (Cone.cells true) v8.1.more_)]),(7,iV 0)],[],0⟩) ?_ ?_
   ·exact Wk.r1 [] (by simp [hP,hhOk,back,Cat.cells,Fn.cells,XMoved.cells,UA,U1,IA,I1,LA,L1,BA,B1,EA,E1,E2,eB,eI,eL,Qg _ QG _ (fun _=>rfl),Qg _ (Cone.cells true) _ (fun _=>rfl)])
   exact ⟨by simp [Qv,Cat.cells,Fn.cells,XMoved.cells],by simp,by simp [Cat.cells,Fn.cells,XMoved.cells]⟩
  clear hv10;rcases v10 with v10|v10
  ·(try dsimp only at h);(try dsimp only);simp [-Q0,-Q5,-Q1,-Q6,-Q2,unk,unA,unE,unT,unC,flat];(repeat refine sdQ ?_);refine hK _ ?_;clear hK K;refine tn ?_;refine Q8 (st':=⟨[(8,.val (.pointer none)),(9,iV v10)],[],0⟩) (Qh []) ?_;refine Q3 ?_;refine Q3 ?_;refine Qm [] mo (by rw [hN];decide) fun K hK=>?_;simp [-Q0,-Q5,-Q1,-Q6,-Q2];(repeat refine sdQ ?_);refine hK _ ?_;clear hK K;refine tn ?_;refine Q8 (st':=⟨[(8,.val (.pointer none)),(9,iV v10),(20,.val (.bool (v10 != 0)))],[],0⟩) (Qh []) ?_;refine Qc rfl (fun g=>?_) fun g=>?_
   ·have g11:¬ (v10=0):=gQ;clear g;replace h:=if_l g11 h;refine Q3 ?_;refine Qm [] mo (by rw [hN];decide) fun K hK=>?_;simp [-Q0,-Q5,-Q1,-Q6,-Q2];(repeat refine sdQ ?_);refine hK _ ?_;clear hK K;refine tn ?_;refine Q8 (st':=⟨[(6,.val (.bool false)),(7,iV v10)],[],0⟩) (Qh []) ?_;refine Qi ?_;refine tr ?_;cases h;first|refine iw_r (st':=⟨[(6,.val (.bool false)),(7,iV v10)],[],0⟩) ?_ ?_|refine iw_n (st':=⟨[(6,.val (.bool false)),(7,iV v10)],[],0⟩) ?_ ?_
    ·exact Wk.r1 [] (by simp [hP,hhOk,back,Cat.cells,Fn.cells,XMoved.cells,UA,U1,IA,I1,LA,L1,BA,B1,EA,E1,E2,eB,eI,eL,Qg _ QG _ (fun _=>rfl),Qg _ (Cone.cells true) _ (fun _=>rfl)])
    exact ⟨by simp [Qv],by simp,by simp [Cat.cells,Fn.cells,XMoved.cells]⟩
   have g11:¬ (¬ (v10=0)):=gQ;clear g;replace h:=if_r g11 h;refine Qd ?_;refine tn ?_;refine Q3 ?_;refine Qm [] mo (by rw [hN];decide) fun K hK=>?_;exact (Q7 h).1.elim
  try dsimp only at h
  try dsimp only
  simp [-Q0,-Q5,-Q1,-Q6,-Q2,unk,unA,unE,unT,unC,flat];repeat refine sdQ ?_
  refine hK _ ?_;clear hK K;refine tn ?_;refine Q8 (st':=⟨[(8,.rptr [iV v10.1,lI v10.2.1,lI v10.2.2.1,lI v10.2.2.2.1,.lst true 1 (Ls v10.2.2.2.2.1),iV v10.2.2.2.2.2.1,lI v10.2.2.2.2.2.2.1,lI v10.2.2.2.2.2.2.2.1,lI v10.2.2.2.2.2.2.2.2.1,.lst true 1 (Ls v10.2.2.2.2.2.2.2.2.2.1),lI v10.2.2.2.2.2.2.2.2.2.2.1,lI v10.2.2.2.2.2.2.2.2.2.2.2.1,iV v10.2.2.2.2.2.2.2.2.2.2.2.2.1,lI v10.2.2.2.2.2.2.2.2.2.2.2.2.2.1,lI v10.2.2.2.2.2.2.2.2.2.2.2.2.2.2.1,lI v10.2.2.2.2.2.2.2.2.2.2.2.2.2.2.2.1,.lst true 1 (Ls v10.2.2.2.2.2.2.2.2.2.2.2.2.2.2.2.2.1),iV v10.2.2.2.2.2.2.2.2.2.2.2.2.2.2.2.2.2.1,lI v10.2.2.2.2.2.2.2.2.2.2.2.2.2.2.2.2.2.2.1,lI v10.2.2.2.2.2.2.2.2.2.2.2.2.2.2.2.2.2.2.2.1,lI v10.2.2.2.2.2.2.2.2.2.2.2.2.2.2.2.2.2.2.2.2.1,.lst true 1 (Ls v10.2.2.2.2.2.2.2.2.2.2.2.2.2.2.2.2.2.2.2.2.2.1),lI v10.2.2.2.2.2.2.2.2.2.2.2.2.2.2.2.2.2.2.2.2.2.2.1,lI v10.2.2.2.2.2.2.2.2.2.2.2.2.2.2.2.2.2.2.2.2.2.2.2.1,.rptr [iV v10.2.2.2.2.2.2.2.2.2.2.2.2.2.2.2.2.2.2.2.2.2.2.2.2.1,lI v10.2.2.2.2.2.2.2.2.2.2.2.2.2.2.2.2.2.2.2.2.2.2.2.2.2.1,lI v10.2.2.2.2.2.2.2.2.2.2.2.2.2.2.2.2.2.2.2.2.2.2.2.2.2.2.1,lI v10.2.2.2.2.2.2.2.2.2.2.2.2.2.2.2.2.2.2.2.2.2.2.2.2.2.2.2.1,.lst true 1 (Ls v10.2.2.2.2.2.2.2.2.2.2.2.2.2.2.2.2.2.2.2.2.2.2.2.2.2.2.2.2.1),iV v10.2.2.2.2.2.2.2.2.2.2.2.2.2.2.2.2.2.2.2.2.2.2.2.2.2.2.2.2.2.1,lI v10.2.2.2.2.2.2.2.2.2.2.2.2.2.2.2.2.2.2.2.2.2.2.2.2.2.2.2.2.2.2.1,lI v10.2.2.2.2.2.2.2.2.2.2.2.2.2.2.2.2.2.2.2.2.2.2.2.2.2.2.2.2.2.2.2.1,lI v10.2.2.2.2.2.2.2.2.2.2.2.2.2.2.2.2.2.2.2.2.2.2.2.2.2.2.2.2.2.2.2.2.1,.lst true 1 (Ls v10.2.2.2.2.2.2.2.2.2.2.2.2.2.2.2.2.2.2.2.2.2.2.2.2.2.2.2.2.2.2.2.2.2.1),lI v10.2.2.2.2.2.2.2.2.2.2.2.2.2.2.2.2.2.2.2.2.2.2.2.2.2.2.2.2.2.2.2.2.2.2.1,lI v10.2.2.2.2.2.2.2.2.2.2.2.2.2.2.2.2.2.2.2.2.2.2.2.2.2.2.2.2.2.2.2.2.2.2.2.1],.lst true 2 (Es (Cone.cells true) v10.2.2.2.2.2.2.2.2.2.2.2.2.2.2.2.2.2.2.2.2.2.2.2.2.2.2.2.2.2.2.2.2.2.2.2.2.1),.lst true 2 (Es (Cone.cells true) v10.2.2.2.2.2.2.2.2.2.2.2.2.2.2.2.2.2.2.2.2.2.2.2.2.2.2.2.2.2.2.2.2.2.2.2.2.2)]),(9,iV 0)],[],0⟩) (Qh []) ?_;refine Q3 ?_;refine Q3 ?_;refine Qm [] mo (by rw [hN];decide) fun K hK=>?_;simp [-Q0,-Q5,-Q1,-Q6,-Q2];repeat refine sdQ ?_
  refine hK _ ?_;clear hK K;refine tn ?_;refine Q8 (st':=⟨[(8,.rptr [iV v10.1,lI v10.2.1,lI v10.2.2.1,lI v10.2.2.2.1,.lst true 1 (Ls v10.2.2.2.2.1),iV v10.2.2.2.2.2.1,lI v10.2.2.2.2.2.2.1,lI v10.2.2.2.2.2.2.2.1,lI v10.2.2.2.2.2.2.2.2.1,.lst true 1 (Ls v10.2.2.2.2.2.2.2.2.2.1),lI v10.2.2.2.2.2.2.2.2.2.2.1,lI v10.2.2.2.2.2.2.2.2.2.2.2.1,iV v10.2.2.2.2.2.2.2.2.2.2.2.2.1,lI v10.2.2.2.2.2.2.2.2.2.2.2.2.2.1,lI v10.2.2.2.2.2.2.2.2.2.2.2.2.2.2.1,lI v10.2.2.2.2.2.2.2.2.2.2.2.2.2.2.2.1,.lst true 1 (Ls v10.2.2.2.2.2.2.2.2.2.2.2.2.2.2.2.2.1),iV v10.2.2.2.2.2.2.2.2.2.2.2.2.2.2.2.2.2.1,lI v10.2.2.2.2.2.2.2.2.2.2.2.2.2.2.2.2.2.2.1,lI v10.2.2.2.2.2.2.2.2.2.2.2.2.2.2.2.2.2.2.2.1,lI v10.2.2.2.2.2.2.2.2.2.2.2.2.2.2.2.2.2.2.2.2.1,.lst true 1 (Ls v10.2.2.2.2.2.2.2.2.2.2.2.2.2.2.2.2.2.2.2.2.2.1),lI v10.2.2.2.2.2.2.2.2.2.2.2.2.2.2.2.2.2.2.2.2.2.2.1,lI v10.2.2.2.2.2.2.2.2.2.2.2.2.2.2.2.2.2.2.2.2.2.2.2.1,.rptr [iV v10.2.2.2.2.2.2.2.2.2.2.2.2.2.2.2.2.2.2.2.2.2.2.2.2.1,lI v10.2.2.2.2.2.2.2.2.2.2.2.2.2.2.2.2.2.2.2.2.2.2.2.2.2.1,lI v10.2.2.2.2.2.2.2.2.2.2.2.2.2.2.2.2.2.2.2.2.2.2.2.2.2.2.1,lI v10.2.2.2.2.2.2.2.2.2.2.2.2.2.2.2.2.2.2.2.2.2.2.2.2.2.2.2.1,.lst true 1 (Ls v10.2.2.2.2.2.2.2.2.2.2.2.2.2.2.2.2.2.2.2.2.2.2.2.2.2.2.2.2.1),iV v10.2.2.2.2.2.2.2.2.2.2.2.2.2.2.2.2.2.2.2.2.2.2.2.2.2.2.2.2.2.1,lI v10.2.2.2.2.2.2.2.2.2.2.2.2.2.2.2.2.2.2.2.2.2.2.2.2.2.2.2.2.2.2.1,lI v10.2.2.2.2.2.2.2.2.2.2.2.2.2.2.2.2.2.2.2.2.2.2.2.2.2.2.2.2.2.2.2.1,lI v10.2.2.2.2.2.2.2.2.2.2.2.2.2.2.2.2.2.2.2.2.2.2.2.2.2.2.2.2.2.2.2.2.1,.lst true 1 (Ls v10.2.2.2.2.2.2.2.2.2.2.2.2.2.2.2.2.2.2.2.2.2.2.2.2.2.2.2.2.2.2.2.2.2.1),lI v10.2.2.2.2.2.2.2.2.2.2.2.2.2.2.2.2.2.2.2.2.2.2.2.2.2.2.2.2.2.2.2.2.2.2.1,lI v10.2.2.2.2.2.2.2.2.2.2.2.2.2.2.2.2.2.2.2.2.2.2.2.2.2.2.2.2.2.2.2.2.2.2.2.1],.lst true 2 (Es (Cone.cells true) v10.2.2.2.2.2.2.2.2.2.2.2.2.2.2.2.2.2.2.2.2.2.2.2.2.2.2.2.2.2.2.2.2.2.2.2.2.1),.lst true 2 (Es (Cone.cells true) v10.2.2.2.2.2.2.2.2.2.2.2.2.2.2.2.2.2.2.2.2.2.2.2.2.2.2.2.2.2.2.2.2.2.2.2.2.2)]),(9,iV 0),(20,.val (.bool false))],[],0⟩) (Qh []) ?_;refine Qc rfl (fun g=>by simp at g) fun _=>?_;refine Qd ?_;refine tn ?_;refine Q3 ?_;refine Qm [] mo (by rw [hN];decide) fun K hK=>?_;simp [-Q0,-Q5,-Q1,-Q6,-Q2];repeat with_reducible refine sdQ ?_
  replace h:=bind_some h;obtain ⟨v12,hv12,h⟩:=h;refine QD (fz:=[]) (Q51 _ v12 hv12) (.cons (.preT (by simp [Cat.cells,Fn.cells,XMoved.cells])) .nil) ?_;simp [-Q0,-Q5,-Q1,-Q6,-Q2,unk,unA,unE,unT,unC,flat];repeat refine sdQ ?_
  refine hK _ ?_;clear hK K;refine tn ?_;refine Q8 (st':=⟨[(10,.val (.bool v12.1)),(11,.val (.bool v12.2))],[],0⟩) (Qh []) ?_;refine Q3 ?_;refine Q3 ?_;refine Qm [] mo (by rw [hN];decide) fun K hK=>?_;simp [-Q0,-Q5,-Q1,-Q6,-Q2];repeat refine sdQ ?_
  refine hK _ ?_;clear hK K;refine tn ?_;refine Q8 (st':=⟨[(10,.val (.bool v12.1)),(28,.val (.bool (!v12.2)))],[],0⟩) (Qh []) ?_;refine Qc rfl (fun g=>?_) fun g=>?_
  ·have g13:¬ (v12.2=true):=gQ;clear g;replace h:=if_l g13 h;refine Q3 ?_;refine Qm [] mo (by rw [hN];decide) fun K hK=>?_;simp [-Q0,-Q5,-Q1,-Q6,-Q2];(repeat refine sdQ ?_);refine hK _ ?_;clear hK K;refine tn ?_;refine Q8 (st':=⟨[(6,.val (.bool false)),(7,iV 4)],[],0⟩) (Qh []) ?_;refine Qi ?_;refine tr ?_;cases h;first|refine iw_r (st':=⟨[(6,.val (.bool false)),(7,iV 4)],[],0⟩) ?_ ?_|refine iw_n (st':=⟨[(6,.val (.bool false)),(7,iV 4)],[],0⟩) ?_ ?_
   ·exact Wk.r1 [] (by simp [hP,hhOk,back,Cat.cells,Fn.cells,XMoved.cells,UA,U1,IA,I1,LA,L1,BA,B1,EA,E1,E2,eB,eI,eL,Qg _ QG _ (fun _=>rfl),Qg _ (Cone.cells true) _ (fun _=>rfl)])
   exact ⟨by simp [Qv],by simp,by simp [Cat.cells,Fn.cells,XMoved.cells]⟩
  have g13:¬ (¬ (v12.2=true)):=gQ;clear g;replace h:=if_r g13 h;refine Qd ?_;refine tn ?_;refine Q3 ?_;refine Qm [] mo (by rw [hN];decide) fun K hK=>?_;simp [-Q0,-Q5,-Q1,-Q6,-Q2];repeat refine sdQ ?_
  refine hK _ ?_;clear hK K;refine tn ?_;refine Q8 (st':=⟨[(6,.val (.bool v12.1)),(7,iV 0)],[],0⟩) (Qh []) ?_;refine Qi ?_;cases h;first|refine iw_r (st':=⟨[(6,.val (.bool v12.1)),(7,iV 0)],[],0⟩) ?_ ?_|refine iw_n (st':=⟨[(6,.val (.bool v12.1)),(7,iV 0)],[],0⟩) ?_ ?_
  ·exact Wk.r1 [] (by simp [hP,hhOk,back,Cat.cells,Fn.cells,XMoved.cells,UA,U1,IA,I1,LA,L1,BA,B1,EA,E1,E2,eB,eI,eL,Qg _ QG _ (fun _=>rfl),Qg _ (Cone.cells true) _ (fun _=>rfl)])
  exact ⟨by simp [Qv],by simp,by simp [Cat.cells,Fn.cells,XMoved.cells]⟩
 simp [-Q0,-Q5,-Q1,-Q6,-Q2,unk,unA,unE,unT,unC,flat];repeat refine sdQ ?_
 refine hK _ ?_;clear hK K;refine tn ?_;refine Q8 (st':=⟨[(4,.val (.bool v14.1)),(5,iV v14.2)],[],0⟩) (Qh []) ?_;refine Qi ?_;have hr:=Option.some.inj h;rw [← hr];refine ⟨_,(.tmp (.tmp .nil)),?_⟩;refine ⟨(.one rfl rfl (.one rfl rfl .nil)),[.val (.bool v14.1),iV v14.2],[],by simp [Cat.cells,Fn.cells,XMoved.cells,UA,U1,IA,I1,LA,L1,BA,B1,EA,E1,E2,eB,eI,eL,Qg _ QG _ (fun _=>rfl),Qg _ (Cone.cells true) _ (fun _=>rfl)],by simp,(UpL.refl _)⟩
end Go.Vc.T
