/- A part of the proof: a verified generator of conditions, and what each function of the program does. -/
import Derived.Test.YtaahcahglfjhfaaD8
set_option maxRecDepth 100000
set_option maxHeartbeats 4000000
set_option linter.unusedSimpArgs false
set_option linter.unusedVariables false

namespace Go.Vc.T
open Go Go.Vc Go.Proofs
section
attribute [local simp] Qa Qy Qq QK Qu
def Tbl (t:List (List Int)) (n:Int):Prop:=(t.length:Int)=n∧∀ i:Nat,i<t.length→((rx t i).length:Int)=n∧∀ j:Nat,j<(rx t i).length→0≤ix (rx t i) j∧ix (rx t i) j<n
theorem Tbl.at {t:List (List Int)} {n:Int} (h:Tbl t n) {i j:Int} (hi:0≤i∧i<n) (hj:0≤j∧j<n):i<(t.length:Int)∧j<((rx t i).length:Int)∧0≤ix (rx t i) j∧ix (rx t i) j<n:=by
 obtain ⟨a,rfl⟩:=Int.eq_ofNat_of_zero_le hi.1;obtain ⟨b,rfl⟩:=Int.eq_ofNat_of_zero_le hj.1;have l:=h.1;have q:=h.2 a (by omega);have r:=q.2 b (by omega);omega
theorem Q6a {t:List (List Int)} {n:Int} (hn:0≤n∧n≤1000):Q1U t n=some (bo (Tbl t n)):=by
 unfold Q1U
 by_cases h1:(t.length:Int)=n
 case neg=>rw [if_pos h1,Qj (fun q=>h1 q.1)]
 rw [if_neg (Q1O h1)];refine chkI t.length (fun i=>((rx t i).length:Int)=n∧∀ j:Nat,j<(rx t i).length→0≤ix (rx t i) j∧ix (rx t i) j<n) (Sum.inr false) (Sum.inl ()) (by omega) (fun i hi=>?_) (by rw [if_neg (by omega)]) ?_
 ·rw [if_pos (by omega),Q3 (by omega)]
  by_cases h2:((rx t i).length:Int)=n
  case neg=>rw [if_pos h2,Qj (fun q=>h2 q.1)];rfl
  rw [if_neg (Q1O h2)];unfold Q2j;rw [Q3 (by unfold B64;omega)];simp only [Option.bind_some];cases h3:(rx t i).all (inR n) with
  | true=>rw [Qm ⟨h2,all_inR.1 h3⟩,Q3 (by unfold B64;omega)];rfl
  | false=>rw [Qj (fun q=>by rw [all_inR.2 q.2] at h3;cases h3)];rfl
 by_cases q:∀ i:Nat,i<t.length→((rx t i).length:Int)=n∧∀ j:Nat,j<(rx t i).length→0≤ix (rx t i) j∧ix (rx t i) j<n
 ·rw [Qm q,Qm (show Tbl t n from ⟨h1,q⟩)];rfl
 rw [Qj q,Qj (show ¬ Tbl t n from fun z=>q z.2)];rfl
theorem Q5i {t:List (List Int)} {n:Int} (hn:0≤n∧n≤1000):Q1G t n n=some (bo (Tbl t n)):=by
 unfold Q1G Q2h
 by_cases h1:(t.length:Int)=n
 case neg=>rw [if_neg h1,Qj (fun q=>h1 q.1)];rfl
 rw [if_pos h1,Option.bind_assoc,Option.bind_assoc];refine chkI t.length (fun i=>((rx t i).length:Int)=n∧∀ j:Nat,j<(rx t i).length→0≤ix (rx t i) j∧ix (rx t i) j<n) (Sum.inr false) (Sum.inl ()) (by omega) (fun i hi=>?_) (by rw [if_neg (by omega)]) ?_
 ·rw [if_pos (by omega),Q3 (by omega)]
  by_cases h2:((rx t i).length:Int)=n
  case neg=>rw [if_pos (by omega),Qj (fun q=>h2 q.1)];rfl
  rw [if_neg (by omega),Q3 (by omega)];unfold Q3p;simp only [Option.bind_some];cases h3:(rx t i).all (inR n) with
  | true=>rw [Qm ⟨h2,all_inR.1 h3⟩,Q3 (by unfold B64;omega)];rfl
  | false=>rw [Qj (fun q=>by rw [all_inR.2 q.2] at h3;cases h3)];rfl
 by_cases q:∀ i:Nat,i<t.length→((rx t i).length:Int)=n∧∀ j:Nat,j<(rx t i).length→0≤ix (rx t i) j∧ix (rx t i) j<n
 ·rw [Qm q,Qm (show Tbl t n from ⟨h1,q⟩)];rfl
 rw [Qj q,Qj (show ¬ Tbl t n from fun z=>q z.2)];rfl
abbrev As3 (t:List (List Int)) (x y z:Int):Prop:=ix (rx t (ix (rx t x) y)) z=ix (rx t x) (ix (rx t y) z)
def AsP (t:List (List Int)) (u:Int) (x:Nat):Prop:=(ix (rx t x) u=x∧ix (rx t u) x=x)∧∀ y:Nat,y<t.length→∀ z:Nat,z<t.length→As3 t x y z
def Aso (t:List (List Int)) (u:Int):Prop:=∀ x:Nat,x<t.length→AsP t u x
theorem Q69 {t:List (List Int)} {n u:Int} (h:Tbl t n) (hu:0≤u∧u<n) (hn:n≤1000):QV t u=some (bo (Aso t u)):=by
 have l:=h.1;unfold QV;refine chkI t.length (AsP t u) (Sum.inr false) (Sum.inl ()) (by omega) (fun x hx=>?_) (by rw [if_neg (by omega)]) ?_
 ·have a1:=h.at (i:=x) (j:=u) (by omega) hu;have a2:=h.at (i:=u) (j:=x) hu (by omega);rw [if_pos (by omega),Q3 (by omega),Q3 (by omega)]
  by_cases h1:ix (rx t x) u=x
  case neg=>rw [if_pos h1,Qj (fun q=>h1 q.1.1)];rfl
  rw [if_neg (Q1O h1),Q3 (by omega),Q3 (by omega)];simp only [Option.bind_some]
  by_cases h2:ix (rx t u) x=x
  case neg=>rw [Qj (fun q=>h2 q.1.2),show (ix (rx t u) x != (x:Int))=true by simp [h2]];rfl
  rw [show (ix (rx t u) x != (x:Int))=false by simp [h2],if_neg (by simp),Option.bind_assoc];refine chkI t.length (fun y=>∀ z:Nat,z<t.length→As3 t x y z) (Sum.inl false) (Sum.inr ()) (by omega) (fun y hy=>?_) (by rw [if_neg (by omega)]) ?_
  ·rw [if_pos (by omega),Option.bind_assoc];refine chkI t.length (fun z=>As3 t x y z) (Sum.inl false) (Sum.inr ()) (by omega) (fun z hz=>?_) (by rw [if_neg (by omega)]) ?_
   ·have b1:=h.at (i:=x) (j:=y) (by omega) (by omega);have b2:=h.at (i:=y) (j:=z) (by omega) (by omega);have b3:=h.at (i:=ix (rx t x) y) (j:=z) (by omega) (by omega);have b4:=h.at (i:=x) (j:=ix (rx t y) z) (by omega) (by omega);rw [if_pos (by omega),Q3 (by omega),Q3 (by omega),Q3 (by omega),Q3 (by omega),Q3 (by omega),Q3 (by omega),Q3 (by omega),Q3 (by omega)]
    by_cases q:As3 t x y z
    ·rw [Qm q,if_neg (Q1O q),Q3 (by unfold B64;omega)];rfl
    rw [Qj q,if_pos q];rfl
   by_cases q:∀ z:Nat,z<t.length→As3 t x y z
   ·rw [Qm q];simp only [if_true,Option.bind_some];rw [Q3 (by unfold B64;omega)]
   rw [Qj q];rfl
  by_cases q:∀ y:Nat,y<t.length→∀ z:Nat,z<t.length→As3 t x y z
  ·rw [Qm q,Qm (show AsP t u x from ⟨⟨h1,h2⟩,q⟩)];simp only [if_true,Option.bind_some];rw [Q3 (by unfold B64;omega)]
  rw [Qj q,Qj (show ¬ AsP t u x from fun z=>q z.2)];rfl
 by_cases q:Aso t u
 ·rw [Qm (show ∀ x:Nat,x<t.length→AsP t u x from q),Qm q];rfl
 rw [Qj (show ¬ ∀ x:Nat,x<t.length→AsP t u x from q),Qj q];rfl
theorem Q5j {t:List (List Int)} {n u:Int} (h:Tbl t n) (hu:0≤u∧u<n) (hn:n≤1000):Q1H t u=some (bo (Aso t u)):=by
 have l:=h.1;unfold Q1H;refine chkI t.length (AsP t u) (Sum.inr false) (Sum.inl ()) (by omega) (fun x hx=>?_) (by rw [if_neg (by omega)]) ?_
 ·have a1:=h.at (i:=x) (j:=u) (by omega) hu;have a2:=h.at (i:=u) (j:=x) hu (by omega);rw [if_pos (by omega),Q3 (by omega),Q3 (by omega)]
  by_cases h2:ix (rx t u) x=x
  case neg=>rw [if_pos h2,Qj (fun q=>h2 q.1.2)];rfl
  rw [if_neg (Q1O h2),Q3 (by omega),Q3 (by omega)];simp only [Option.bind_some]
  by_cases h1:ix (rx t x) u=x
  case neg=>rw [Qj (fun q=>h1 q.1.1),show (ix (rx t x) u != (x:Int))=true by simp [h1]];rfl
  rw [show (ix (rx t x) u != (x:Int))=false by simp [h1],if_neg (by simp),Option.bind_assoc];refine chkI t.length (fun y=>∀ z:Nat,z<t.length→As3 t x y z) (Sum.inl false) (Sum.inr ()) (by omega) (fun y hy=>?_) (by rw [if_neg (by omega)]) ?_
  ·rw [if_pos (by omega),Option.bind_assoc];refine chkI t.length (fun z=>As3 t x y z) (Sum.inl false) (Sum.inr ()) (by omega) (fun z hz=>?_) (by rw [if_neg (by omega)]) ?_
   ·have b1:=h.at (i:=x) (j:=y) (by omega) (by omega);have b2:=h.at (i:=y) (j:=z) (by omega) (by omega);have b3:=h.at (i:=ix (rx t x) y) (j:=z) (by omega) (by omega);have b4:=h.at (i:=x) (j:=ix (rx t y) z) (by omega) (by omega);rw [if_pos (by omega),Q3 (by omega),Q3 (by omega),Q3 (by omega),Q3 (by omega),Q3 (by omega),Q3 (by omega),Q3 (by omega),Q3 (by omega)]
    by_cases q:As3 t x y z
    ·rw [Qm q,if_neg (Q1O q),Q3 (by unfold B64;omega)];rfl
    rw [Qj q,if_pos q];rfl
   by_cases q:∀ z:Nat,z<t.length→As3 t x y z
   ·rw [Qm q];simp only [if_true,Option.bind_some];rw [Q3 (by unfold B64;omega)]
   rw [Qj q];rfl
  by_cases q:∀ y:Nat,y<t.length→∀ z:Nat,z<t.length→As3 t x y z
  ·rw [Qm q,Qm (show AsP t u x from ⟨⟨h1,h2⟩,q⟩)];simp only [if_true,Option.bind_some];rw [Q3 (by unfold B64;omega)]
  rw [Qj q,Qj (show ¬ AsP t u x from fun z=>q z.2)];rfl
 by_cases q:Aso t u
 ·rw [Qm (show ∀ x:Nat,x<t.length→AsP t u x from q),Qm q];rfl
 rw [Qj (show ¬ ∀ x:Nat,x<t.length→AsP t u x from q),Qj q];rfl
end
attribute [local simp] unk unA unE unT unC flat eL eI Qs Q1L Q6 Cat.cells XMonoidal.cells
noncomputable def Q2s (m_:XMonoidal):Option Bool :=
 (Qt (σ:=Int) (ε:=Unit ⊕ Bool) (fun s40 =>
  if s40<(m_.on_.fr.length:Int) then
   (
    (Qt (σ:=Int) (ε:=Bool ⊕ Unit) (fun s60 =>
     if s60<(m_.on_.fr.length:Int) then
      ass (0≤s40∧s40<(m_.arrows_.length:Int)) <|
      ass (0≤s60∧s60<((rx m_.arrows_ s40).length:Int)) <|
      (
       ass (0≤ix (rx m_.arrows_ s40) s60∧ix (rx m_.arrows_ s40) s60<(m_.on_.fr.length:Int)) <|
       ass (0≤s40∧s40<(m_.on_.fr.length:Int)) <|
       ass (0≤ix m_.on_.fr s40∧ix m_.on_.fr s40<(m_.objects_.length:Int)) <|
       ass (0≤s60∧s60<(m_.on_.fr.length:Int)) <|
       ass (0≤ix m_.on_.fr s60∧ix m_.on_.fr s60<((rx m_.objects_ (ix m_.on_.fr s40)).length:Int)) <|
       if ¬ ((ix m_.on_.fr (ix (rx m_.arrows_ s40) s60))=(ix (rx m_.objects_ (ix m_.on_.fr s40)) (ix m_.on_.fr s60))) then
        some true
       else
        ass (0≤ix (rx m_.arrows_ s40) s60∧ix (rx m_.arrows_ s40) s60<(m_.on_.to.length:Int)) <|
        ass (0≤s40∧s40<(m_.on_.to.length:Int)) <|
        ass (0≤ix m_.on_.to s40∧ix m_.on_.to s40<(m_.objects_.length:Int)) <|
        ass (0≤s60∧s60<(m_.on_.to.length:Int)) <|
        ass (0≤ix m_.on_.to s60∧ix m_.on_.to s60<((rx m_.objects_ (ix m_.on_.to s40)).length:Int)) <|
        some ((ix m_.on_.to (ix (rx m_.arrows_ s40) s60)) != (ix (rx m_.objects_ (ix m_.on_.to s40)) (ix m_.on_.to s60))):Option (Bool)).bind fun b64 =>
      if b64=true then
       some (Ctl.ret (Sum.inl false))
      else
       ass (B64 (s60+1)) <|
       some (Ctl.next (s60+1))
     else
      some (Ctl.ret (Sum.inr ()))) fuel 0).bind fun e60 =>
    match e60 with
    | .inl p60 =>
     some (Sum.inr p60)
    | .inr p60 =>
     some (Sum.inl p60):Option (Unit ⊕ Bool)).bind fun e42 =>
   match e42 with
   | .inl b42 =>
    ass (B64 (s40+1)) <|
    some (Ctl.next (s40+1))
   | .inr p42 =>
    some (Ctl.ret (Sum.inr p42))
  else
   some (Ctl.ret (Sum.inl ()))) fuel 0).bind fun e1 =>
 match e1 with
 | .inl b1 =>
  some true
 | .inr p1 =>
  some p1
theorem wkQ9 {F : Fx} {st st' : St} (m : List (Nat × Nat)) (h : (m.map Prod.fst).Nodup ∧ (m.map Prod.snd).Nodup ∧ (∀ id, id < F.pins → look id m = some id) ∧ (∀ p ∈ m, p.2 < st'.n) ∧ (∀ p ∈ st'.h, p.1 < st'.n) ∧ (∀ p ∈ st'.s, p.2 = rl m (st.get p.1) ∨ p.2 = .bot) ∧ ∀ p ∈ st'.h, hhOk m st.h p.1 p.2 := by simp [hP, hhOk, back, idQ, Cat.cells, XMonoidal.cells, UA, U1, IA, I1, LA, L1, BA, B1, EA, E1, E2, eB, eI, eL, Qd _ Q6 _ (fun _=>rfl), Ends.cells, SF.cells]) : Wk F st st' := Wk.r1 m h
theorem wkI9 {F : Fx} {st st' : St} (m : Nat) (h : ((idQ m).map Prod.fst).Nodup ∧ ((idQ m).map Prod.snd).Nodup ∧ (∀ id, id < F.pins → look id (idQ m) = some id) ∧ (∀ p ∈ (idQ m), p.2 < st'.n) ∧ (∀ p ∈ st'.h, p.1 < st'.n) ∧ (∀ p ∈ st'.s, p.2 = rl (idQ m) (st.get p.1) ∨ p.2 = .bot) ∧ ∀ p ∈ st'.h, hhOk (idQ m) st.h p.1 p.2 := by simp [hP, hhOk, back, idQ, Cat.cells, XMonoidal.cells, UA, U1, IA, I1, LA, L1, BA, B1, EA, E1, E2, eB, eI, eL, Qd _ Q6 _ (fun _=>rfl), Ends.cells, SF.cells]) : Wk F st st' := Wk.r1 (idQ m) h
@[simp] abbrev Y9 (a:XMonoidal) (b:List (Nat × Ent)):List (Nat × Ent):=(0,.mix 8 [(XMonoidal.cells true a)])::(1,.mix 5 [(Cat.cells true a.on_)])::b
@[simp] abbrev Yt (a:List (Nat × AV)):List (Nat × AV):=(1,.adr 0 0 0)::(3,.adr 1 0 0)::a
@[simp] abbrev Y04 (a:List (Nat × AV)):List (Nat × AV):=(2,.val (.bool false))::a
theorem Q7t (m_:XMonoidal) (r:Bool) (h:Q2s m_=some r):Contract Try.prog 63 [.agg (m_.cells true)] (.val (.bool r)):=by
 refine Qh (rvs:=[.tmp 2]) (rs:=[.val (.bool r)]) Try.func63 rfl rfl rfl rfl (by simp [Try.f63]) fun F hN hP=>?_;unfold Q2s at h;refine Q1 (runQ hN fun K hK=>?_);simp;repeat refine sdQ ?_
 refine hK _ ?_;clear hK K;refine tn (Q4 (st':=⟨YZ [],[(0,.mix 8 [(XMonoidal.cells true m_)])],1⟩) (wkQ9 [(0,0)]) (Q1 (runQ hN fun K hK=>?_)));simp;repeat refine sdQ ?_
 refine hK _ ?_;clear hK K;refine tn (Q4 (st':=⟨Yt [],Y9 m_ [],2⟩) (wkQ9 [(0,0),(1,1)]) (Q1 (Q1 (runQ hN fun K hK=>?_))));simp;repeat refine sdQ ?_
 refine hK _ (tn (Q4 (st':=⟨Yt [(4,iV 0)],Y9 m_ [],2⟩) (wkQ9 [(0,0),(1,1)]) ?_));clear hK K;replace ⟨e1,h,h1⟩:=bind_some h;refine Qe (fun b1:Unit=>⟨[],[],0⟩) (fun b1=>Sum.inl b1=e1) ?_ ?_
 ·refine Q5 (Qn h (fun s40:Int=>⟨Yt [(4,iV s40)],Y9 m_ [],2⟩) (wkQ9 [(0,0),(1,1)]) ?_);clear h;intro k40 s40 c40 h hk40;refine Q1 (Q1 (runQ hN fun K hK=>?_));simp;repeat refine sdQ ?_
  refine hK _ ?_;clear hK K;refine tn (Q7 rfl (fun g=>?_) fun g=>?_)
  ·have g41:s40<(m_.on_.fr.length:Int):=gQ;clear g;replace h:=if_l g41 h;refine Q8 (tn (Q1 ?_));replace ⟨e42,h,h42⟩:=bind_some h;refine Qe (fun b42:Unit=>⟨Yt [(4,iV s40)],Y9 m_ [],2⟩) (fun b42=>Sum.inl b42=e42) ?_ ?_
   ·refine Q5 (Q1 (runQ hN fun K hK=>?_));simp;(repeat refine sdQ ?_);refine hK _ (tn (Q4 (st':=⟨Yt [(4,iV s40),(5,iV 0)],Y9 m_ [],2⟩) (wkQ9 [(0,0),(1,1)]) (Q5 ?_)));clear hK K;replace ⟨e60,he60,h60⟩:=bind_some h;refine Qn he60 (fun s60:Int=>⟨Yt [(4,iV s40),(5,iV s60)],Y9 m_ [],2⟩) (wkQ9 [(0,0),(1,1)]) ?_;intro k60 s60 c60 h hk60;refine Q1 (Q1 (runQ hN fun K hK=>?_));simp;(repeat refine sdQ ?_);refine hK _ ?_;clear hK K;refine tn (Q7 rfl (fun g=>?_) fun g=>?_)
    ·have g61:s60<(m_.on_.fr.length:Int):=gQ;clear g;replace h:=if_l g61 h;refine Q8 (tn (Q1 (Q5 (Q1 (runQ hN fun K hK=>?_)))));replace ⟨a62,h⟩:=Q0 h;replace ⟨a63,h⟩:=Q0 h;simp [at_L a62,at_I a63];(repeat refine sdQ ?_);refine hK _ (tn (Q4 (st':=⟨Yt [(4,iV s40),(5,iV s60),(6,iV (ix (rx m_.arrows_ s40) s60))],Y9 m_ [],2⟩) (wkQ9 [(0,0),(1,1)]) (Q1 ?_)));clear hK K;replace ⟨e64,h,h64⟩:=bind_some h;refine Qe (fun b64:Bool=>⟨Yt [(4,iV s40),(5,iV s60),(76,.val (.bool b64))],Y9 m_ [],2⟩) (fun b64=>b64=e64) ?_ ?_
     ·refine runQ hN fun K hK=>?_;replace ⟨a65,h⟩:=Q0 h;replace ⟨a66,h⟩:=Q0 h;replace ⟨a67,h⟩:=Q0 h;replace ⟨a68,h⟩:=Q0 h;replace ⟨a69,h⟩:=Q0 h;simp [at_I a65,at_I a66,at_L a67,at_I a68,at_I a69];(repeat with_reducible refine sdQ ?_);refine Qo (fun g=>?_) (fun g=>?_)
      ·have g70:¬ (¬ ((ix m_.on_.fr (ix (rx m_.arrows_ s40) s60))=(ix (rx m_.objects_ (ix m_.on_.fr s40)) (ix m_.on_.fr s60)))):=gQ;clear g;replace h:=if_r g70 h;replace ⟨a71,h⟩:=Q0 h;replace ⟨a72,h⟩:=Q0 h;replace ⟨a73,h⟩:=Q0 h;replace ⟨a74,h⟩:=Q0 h;replace ⟨a75,h⟩:=Q0 h;simp [at_I a65,at_I a66,at_L a67,at_I a68,at_I a69,at_I a71,at_I a72,at_L a73,at_I a74,at_I a75];(repeat refine sdQ ?_);refine hK _ ?_;exact jn (b:=(ix m_.on_.to (ix (rx m_.arrows_ s40) s60)) != (ix (rx m_.objects_ (ix m_.on_.to s40)) (ix m_.on_.to s60))) (Option.some.inj h) (wkQ9 [(0,0),(1,1)])
      have g70:¬ ((ix m_.on_.fr (ix (rx m_.arrows_ s40) s60))=(ix (rx m_.objects_ (ix m_.on_.fr s40)) (ix m_.on_.fr s60))):=gQ;clear g;replace h:=if_l g70 h;simp [at_I a65,at_I a66,at_L a67,at_I a68,at_I a69];(repeat refine sdQ ?_);refine hK _ ?_;exact jn (b:=true) (Option.some.inj h) (wkQ9 [(0,0),(1,1)])
     intro b64 hb64;have h:=h64;(try rw [← hb64] at h);clear h64;(try dsimp only at h);refine Q7 rfl (fun g=>?_) fun g=>?_
     ·have g76:b64=true:=gQ;clear g;replace h:=if_l g76 h;refine Q1 (runQ hN fun K hK=>?_);simp;(repeat refine sdQ ?_);refine hK _ (tn (Q4 (st':=⟨Y04 [],[],0⟩) (wkQ9 []) (Qf (br (tr (lr (br (br (tr (lr (br (tr ?_))))))))))));clear hK K;cases h;have q:_=e60:=hk60;have h:=h60;rw [← q] at h;clear q;(try dsimp only at h);cases h;have h:=h42;(try dsimp only at h);cases h;have q:_=e1:=hk40;have h:=h1;rw [← q] at h;clear q;(try dsimp only at h);have hr:=Option.some.inj h;rw [← hr];refine ⟨_,(.tmp .nil),?_⟩;refine ⟨(.one rfl rfl .nil),[.val (.bool false)],[],by simp [Cat.cells,XMonoidal.cells,UA,U1,IA,I1,LA,L1,BA,B1,EA,E1,E2,eB,eI,eL,Qd _ Q6 _ (fun _=>rfl)],by simp,(UpL.refl _)⟩
     have g76:¬ (b64=true):=gQ;clear g;replace h:=if_r g76 h;refine Q8 (bn (tn (runQ hN fun K hK=>?_)));replace ⟨a77,h⟩:=Q0 h;simp [Qk a77];(repeat refine sdQ ?_);refine hK _ ?_;clear hK K;cases h;exact rn (s':=s60+1) hk60 (wkQ9 [(0,0),(1,1)])
    have g61:¬ (s60<(m_.on_.fr.length:Int)):=gQ;clear g;replace h:=if_r g61 h;refine Qg (tx (lx (bh (bn ?_))));cases h;have q:_=e60:=hk60;have h:=h60;rw [← q] at h;clear q;(try dsimp only at h);exact jn (b:=()) (Option.some.inj h) (wkQ9 [(0,0),(1,1)])
   intro b42 hb42;have h:=h42;(try rw [← hb42] at h);clear h42;(try dsimp only at h);refine runQ hN fun K hK=>?_;replace ⟨a78,h⟩:=Q0 h;simp [Qk a78];(repeat refine sdQ ?_);refine hK _ ?_;clear hK K;cases h;exact rn (s':=s40+1) hk40 (wkQ9 [(0,0),(1,1)])
  have g41:¬ (s40<(m_.on_.fr.length:Int)):=gQ;clear g;replace h:=if_r g41 h;refine Qg (tx (lx (bh ?_)));cases h;exact jn (b:=()) hk40 (wkQ9 [])
 intro b1 hb1;have h:=h1;try rw [← hb1] at h
 clear h1;try dsimp only at h
 refine Q1 (runQ hN fun K hK=>?_);simp;repeat refine sdQ ?_
 refine hK _ (tn (Q4 (st':=⟨[(2,.val (.bool true))],[],0⟩) (wkQ9 []) (Qf ?_)));clear hK K;have hr:=Option.some.inj h;rw [← hr];refine ⟨_,(.tmp .nil),?_⟩;refine ⟨(.one rfl rfl .nil),[.val (.bool true)],[],by simp [Cat.cells,XMonoidal.cells,UA,U1,IA,I1,LA,L1,BA,B1,EA,E1,E2,eB,eI,eL,Qd _ Q6 _ (fun _=>rfl)],by simp,(UpL.refl _)⟩
attribute [local simp] unk unA unE unT unC flat eL eI Qs Q1L Q6 Cat.cells XMonoidal.cells
noncomputable def Q3e (m_:XMonoidal):Option Bool :=
 (
  (Q3M m_.on_).bind fun v2 =>
  if ¬ (v2=true) then
   some true
  else
   (Q2g m_.on_ m_.unit_).bind fun v4 =>
   if ¬ (v4=true) then
    some true
   else
    (Q1G m_.objects_ m_.on_.n m_.on_.n).bind fun v6 =>
    if ¬ (v6=true) then
     some true
    else
     (Q1G m_.arrows_ (m_.on_.fr.length:Int) (m_.on_.fr.length:Int)).bind fun v8 =>
     some (!v8):Option (Bool)).bind fun b1 =>
 if b1=true then
  some false
 else
  (
   (Q2s m_).bind fun v11 =>
   if ¬ (v11=true) then
    some true
   else
    (Q1H m_.objects_ m_.unit_).bind fun v13 =>
    if ¬ (v13=true) then
     some true
    else
     ass (0≤m_.unit_∧m_.unit_<(m_.on_.id.length:Int)) <|
     (Q1H m_.arrows_ (ix m_.on_.id m_.unit_)).bind fun v16 =>
     some (!v16):Option (Bool)).bind fun b10 =>
  if b10=true then
   some false
  else
   (Qt (σ:=Int) (ε:=Unit ⊕ Bool) (fun s43 =>
    if s43<m_.on_.n then
     (
      (Qt (σ:=Int) (ε:=Bool ⊕ Unit) (fun s56 =>
       if s56<m_.on_.n then
        ass (0≤s43∧s43<(m_.on_.id.length:Int)) <|
        ass (0≤ix m_.on_.id s43∧ix m_.on_.id s43<(m_.arrows_.length:Int)) <|
        ass (0≤s56∧s56<(m_.on_.id.length:Int)) <|
        ass (0≤ix m_.on_.id s56∧ix m_.on_.id s56<((rx m_.arrows_ (ix m_.on_.id s43)).length:Int)) <|
        ass (0≤s43∧s43<(m_.objects_.length:Int)) <|
        ass (0≤s56∧s56<((rx m_.objects_ s43).length:Int)) <|
        ass (0≤ix (rx m_.objects_ s43) s56∧ix (rx m_.objects_ s43) s56<(m_.on_.id.length:Int)) <|
        if ¬ ((ix (rx m_.arrows_ (ix m_.on_.id s43)) (ix m_.on_.id s56))=(ix m_.on_.id (ix (rx m_.objects_ s43) s56))) then
         some (Ctl.ret (Sum.inl false))
        else
         ass (B64 (s56+1)) <|
         some (Ctl.next (s56+1))
       else
        some (Ctl.ret (Sum.inr ()))) fuel 0).bind fun e56 =>
      match e56 with
      | .inl p56 =>
       some (Sum.inr p56)
      | .inr p56 =>
       some (Sum.inl p56):Option (Unit ⊕ Bool)).bind fun e45 =>
     match e45 with
     | .inl b45 =>
      ass (B64 (s43+1)) <|
      some (Ctl.next (s43+1))
     | .inr p45 =>
      some (Ctl.ret (Sum.inr p45))
    else
     some (Ctl.ret (Sum.inl ()))) fuel 0).bind fun e18 =>
   match e18 with
   | .inl b18 =>
    (Qt (σ:=Int) (ε:=Unit ⊕ Bool) (fun s255 =>
     if s255<(m_.on_.fr.length:Int) then
      (
       (Qt (σ:=Int) (ε:=Bool ⊕ Unit) (fun s349 =>
        if s349<(m_.on_.fr.length:Int) then
         (
          ass (0≤s255∧s255<(m_.on_.cs.length:Int)) <|
          ass (0≤s349∧s349<((rx m_.on_.cs s255).length:Int)) <|
          if (ix (rx m_.on_.cs s255) s349)<0 then
           some (Sum.inl ())
          else
           (Qt (σ:=Int) (ε:=Bool ⊕ Unit) (fun s397 =>
            if s397<(m_.on_.fr.length:Int) then
             (
              (Qt (σ:=Int) (ε:=Bool ⊕ Unit) (fun s419 =>
               if s419<(m_.on_.fr.length:Int) then
                (
                 ass (0≤s397∧s397<(m_.on_.cs.length:Int)) <|
                 ass (0≤s419∧s419<((rx m_.on_.cs s397).length:Int)) <|
                 if (ix (rx m_.on_.cs s397) s419) ≥ 0 then
                  ass (0≤s255∧s255<(m_.on_.cs.length:Int)) <|
                  ass (0≤s349∧s349<((rx m_.on_.cs s255).length:Int)) <|
                  ass (0≤ix (rx m_.on_.cs s255) s349∧ix (rx m_.on_.cs s255) s349<(m_.arrows_.length:Int)) <|
                  ass (0≤s397∧s397<(m_.on_.cs.length:Int)) <|
                  ass (0≤s419∧s419<((rx m_.on_.cs s397).length:Int)) <|
                  ass (0≤ix (rx m_.on_.cs s397) s419∧ix (rx m_.on_.cs s397) s419<((rx m_.arrows_ (ix (rx m_.on_.cs s255) s349)).length:Int)) <|
                  ass (0≤s255∧s255<(m_.arrows_.length:Int)) <|
                  ass (0≤s397∧s397<((rx m_.arrows_ s255).length:Int)) <|
                  ass (0≤ix (rx m_.arrows_ s255) s397∧ix (rx m_.arrows_ s255) s397<(m_.on_.cs.length:Int)) <|
                  ass (0≤s349∧s349<(m_.arrows_.length:Int)) <|
                  ass (0≤s419∧s419<((rx m_.arrows_ s349).length:Int)) <|
                  ass (0≤ix (rx m_.arrows_ s349) s419∧ix (rx m_.arrows_ s349) s419<((rx m_.on_.cs (ix (rx m_.arrows_ s255) s397)).length:Int)) <|
                  some ((ix (rx m_.arrows_ (ix (rx m_.on_.cs s255) s349)) (ix (rx m_.on_.cs s397) s419)) != (ix (rx m_.on_.cs (ix (rx m_.arrows_ s255) s397)) (ix (rx m_.arrows_ s349) s419)))
                 else
                  some false:Option (Bool)).bind fun b421 =>
                if b421=true then
                 some (Ctl.ret (Sum.inl false))
                else
                 ass (B64 (s419+1)) <|
                 some (Ctl.next (s419+1))
               else
                some (Ctl.ret (Sum.inr ()))) fuel 0).bind fun e419 =>
              match e419 with
              | .inl p419 =>
               some (Sum.inr p419)
              | .inr p419 =>
               some (Sum.inl p419):Option (Unit ⊕ Bool)).bind fun e399 =>
             match e399 with
             | .inl b399 =>
              ass (B64 (s397+1)) <|
              some (Ctl.next (s397+1))
             | .inr p399 =>
              some (Ctl.ret (Sum.inl p399))
            else
             some (Ctl.ret (Sum.inr ()))) fuel 0).bind fun e397 =>
           match e397 with
           | .inl p397 =>
            some (Sum.inr p397)
           | .inr p397 =>
            some (Sum.inl p397):Option (Unit ⊕ Bool)).bind fun e351 =>
         match e351 with
         | .inl b351 =>
          ass (B64 (s349+1)) <|
          some (Ctl.next (s349+1))
         | .inr p351 =>
          some (Ctl.ret (Sum.inl p351))
        else
         some (Ctl.ret (Sum.inr ()))) fuel 0).bind fun e349 =>
       match e349 with
       | .inl p349 =>
        some (Sum.inr p349)
       | .inr p349 =>
        some (Sum.inl p349):Option (Unit ⊕ Bool)).bind fun e257 =>
      match e257 with
      | .inl b257 =>
       ass (B64 (s255+1)) <|
       some (Ctl.next (s255+1))
      | .inr p257 =>
       some (Ctl.ret (Sum.inr p257))
     else
      some (Ctl.ret (Sum.inl ()))) fuel 0).bind fun e68 =>
    match e68 with
    | .inl b68 =>
     some true
    | .inr p68 =>
     some p68
   | .inr p18 =>
    some p18
theorem w_s_l35Is (m_:XMonoidal) (r:Bool) (h:Q3e m_=some r):Contract Try.prog 30 [.agg (m_.cells true)] (.val (.bool r)):=by
 refine Qh (rvs:=[.tmp 2]) (rs:=[.val (.bool r)]) Try.func30 rfl rfl rfl rfl (by simp [Try.f30]) fun F hN hP=>?_;unfold Q3e at h;refine Q1 (runQ hN fun K hK=>?_);simp;repeat refine sdQ ?_
 refine hK _ ?_;clear hK K;refine tn (Q4 (st':=⟨YZ [],[(0,.mix 8 [(XMonoidal.cells true m_)])],1⟩) (wkQ9 [(0,0)]) (Q1 (runQ hN fun K hK=>?_)));simp;repeat refine sdQ ?_
 refine hK _ (tn (Q4 (st':=⟨Yt [],Y9 m_ [],2⟩) (wkQ9 [(0,0),(1,1)]) (Q1 (Q1 ?_))));clear hK K;replace ⟨e1,h,h1⟩:=bind_some h;refine Qe (fun b1:Bool=>⟨Yt [(43,.val (.bool b1))],Y9 m_ [],2⟩) (fun b1=>b1=e1) ?_ ?_
 ·refine runQ hN fun K hK=>?_;simp;repeat with_reducible refine sdQ ?_
  replace ⟨v2,hv2,h⟩:=bind_some h;refine Q2 (w_s_l02Is _ v2 hv2) (.cons (.aggL (.cons .val (.cons .lst (.cons .lst (.cons .lst (.cons .lst .nil)))))) .nil) ?_;simp;repeat with_reducible refine sdQ ?_
  refine Qo (fun g=>?_) (fun g=>?_)
  ·have g3:¬ (¬ (v2=true)):=gQ;clear g;replace h:=if_r g3 h;simp;(repeat with_reducible refine sdQ ?_);replace ⟨v4,hv4,h⟩:=bind_some h;refine Q2 (Q5Z _ _ v4 hv4) (.cons (.aggL (.cons .val (.cons .lst (.cons .lst (.cons .lst (.cons .lst .nil)))))) (.cons .val .nil)) ?_;simp;(repeat with_reducible refine sdQ ?_);refine Qo (fun g=>?_) (fun g=>?_)
   ·have g5:¬ (¬ (v4=true)):=gQ;clear g;replace h:=if_r g5 h;simp;(repeat with_reducible refine sdQ ?_);replace ⟨v6,hv6,h⟩:=bind_some h;refine Q2 (Q4m _ _ _ v6 hv6) (.cons .lst (.cons .val (.cons .val .nil))) ?_;simp;(repeat with_reducible refine sdQ ?_);refine Qo (fun g=>?_) (fun g=>?_)
    ·have g7:¬ (¬ (v6=true)):=gQ;clear g;replace h:=if_r g7 h;simp;(repeat with_reducible refine sdQ ?_);replace ⟨v8,hv8,h⟩:=bind_some h;refine Q2 (Q4m _ _ _ v8 hv8) (.cons .lst (.cons .val (.cons .val .nil))) ?_;simp;(repeat refine sdQ ?_);refine hK _ ?_;exact jn (b:=!v8) (Option.some.inj h) (wkQ9 [(0,0),(1,1)])
    have g7:¬ (v6=true):=gQ;clear g;replace h:=if_l g7 h;simp;(repeat refine sdQ ?_);refine hK _ ?_;exact jn (b:=true) (Option.some.inj h) (wkQ9 [(0,0),(1,1)])
   have g5:¬ (v4=true):=gQ;clear g;replace h:=if_l g5 h;simp;(repeat refine sdQ ?_);refine hK _ ?_;exact jn (b:=true) (Option.some.inj h) (wkQ9 [(0,0),(1,1)])
  have g3:¬ (v2=true):=gQ;clear g;replace h:=if_l g3 h;simp;repeat refine sdQ ?_
  refine hK _ ?_;exact jn (b:=true) (Option.some.inj h) (wkQ9 [(0,0),(1,1)])
 intro b1 hb1;have h:=h1;try rw [← hb1] at h
 clear h1;try dsimp only at h
 refine Q7 rfl (fun g=>?_) fun g=>?_
 ·have g9:b1=true:=gQ;clear g;replace h:=if_l g9 h;refine Q1 (runQ hN fun K hK=>?_);simp;repeat refine sdQ ?_
  refine hK _ (tn (Q4 (st':=⟨Y04 [],[],0⟩) (wkQ9 []) (Qf (tr ?_))));clear hK K;have hr:=Option.some.inj h;rw [← hr];refine ⟨_,(.tmp .nil),?_⟩;refine ⟨(.one rfl rfl .nil),[.val (.bool false)],[],by simp [Cat.cells,XMonoidal.cells,UA,U1,IA,I1,LA,L1,BA,B1,EA,E1,E2,eB,eI,eL,Qd _ Q6 _ (fun _=>rfl)],by simp,(UpL.refl _)⟩
 have g9:¬ (b1=true):=gQ;clear g;replace h:=if_r g9 h;refine Q8 (tn (Q1 (Q1 ?_)));replace ⟨e10,h,h10⟩:=bind_some h;refine Qe (fun b10:Bool=>⟨Yt [(66,.val (.bool b10))],Y9 m_ [],2⟩) (fun b10=>b10=e10) ?_ ?_
 ·refine runQ hN fun K hK=>?_;simp;repeat with_reducible refine sdQ ?_
  replace ⟨v11,hv11,h⟩:=bind_some h;refine Q2 (Q7t _ v11 hv11) (.cons (.aggL (.cons .val (.cons .lst (.cons .lst (.cons .lst (.cons .lst (.cons .val (.cons .lst (.cons .lst .nil))))))))) .nil) ?_;simp;repeat with_reducible refine sdQ ?_
  refine Qo (fun g=>?_) (fun g=>?_)
  ·have g12:¬ (¬ (v11=true)):=gQ;clear g;replace h:=if_r g12 h;simp;(repeat with_reducible refine sdQ ?_);replace ⟨v13,hv13,h⟩:=bind_some h;refine Q2 (Q4n _ _ v13 hv13) (.cons .lst (.cons .val .nil)) ?_;simp;(repeat with_reducible refine sdQ ?_);refine Qo (fun g=>?_) (fun g=>?_)
   ·have g14:¬ (¬ (v13=true)):=gQ;clear g;replace h:=if_r g14 h;replace ⟨a15,h⟩:=Q0 h;simp [at_I a15];(repeat with_reducible refine sdQ ?_);replace ⟨v16,hv16,h⟩:=bind_some h;refine Q2 (Q4n _ _ v16 hv16) (.cons .lst (.cons .val .nil)) ?_;simp [at_I a15];(repeat refine sdQ ?_);refine hK _ ?_;exact jn (b:=!v16) (Option.some.inj h) (wkQ9 [(0,0),(1,1)])
   have g14:¬ (v13=true):=gQ;clear g;replace h:=if_l g14 h;simp;(repeat refine sdQ ?_);refine hK _ ?_;exact jn (b:=true) (Option.some.inj h) (wkQ9 [(0,0),(1,1)])
  have g12:¬ (v11=true):=gQ;clear g;replace h:=if_l g12 h;simp;repeat refine sdQ ?_
  refine hK _ ?_;exact jn (b:=true) (Option.some.inj h) (wkQ9 [(0,0),(1,1)])
 intro b10 hb10;have h:=h10;try rw [← hb10] at h
 clear h10;try dsimp only at h
 refine Q7 rfl (fun g=>?_) fun g=>?_
 ·have g17:b10=true:=gQ;clear g;replace h:=if_l g17 h;refine Q1 (runQ hN fun K hK=>?_);simp;repeat refine sdQ ?_
  refine hK _ (tn (Q4 (st':=⟨Y04 [],[],0⟩) (wkQ9 []) (Qf (tr ?_))));clear hK K;have hr:=Option.some.inj h;rw [← hr];refine ⟨_,(.tmp .nil),?_⟩;refine ⟨(.one rfl rfl .nil),[.val (.bool false)],[],by simp [Cat.cells,XMonoidal.cells,UA,U1,IA,I1,LA,L1,BA,B1,EA,E1,E2,eB,eI,eL,Qd _ Q6 _ (fun _=>rfl)],by simp,(UpL.refl _)⟩
 have g17:¬ (b10=true):=gQ;clear g;replace h:=if_r g17 h;refine Q8 (tn (Q1 (Q1 (runQ hN fun K hK=>?_))));simp;repeat refine sdQ ?_
 refine hK _ (tn (Q4 (st':=⟨Yt [(4,iV 0)],Y9 m_ [],2⟩) (wkQ9 [(0,0),(1,1)]) ?_));clear hK K;replace ⟨e18,h,h18⟩:=bind_some h;refine Qe (fun b18:Unit=>⟨Yt [],Y9 m_ [],2⟩) (fun b18=>Sum.inl b18=e18) ?_ ?_
 ·refine Q5 (Qn h (fun s43:Int=>⟨Yt [(4,iV s43)],Y9 m_ [],2⟩) (wkQ9 [(0,0),(1,1)]) ?_);clear h;intro k43 s43 c43 h hk43;refine Q1 (Q1 (runQ hN fun K hK=>?_));simp;repeat refine sdQ ?_
  refine hK _ ?_;clear hK K;refine tn (Q7 rfl (fun g=>?_) fun g=>?_)
  ·have g44:s43<m_.on_.n:=gQ;clear g;replace h:=if_l g44 h;refine Q8 (tn (Q1 ?_));replace ⟨e45,h,h45⟩:=bind_some h;refine Qe (fun b45:Unit=>⟨Yt [(4,iV s43)],Y9 m_ [],2⟩) (fun b45=>Sum.inl b45=e45) ?_ ?_
   ·refine Q5 (Q1 (runQ hN fun K hK=>?_));simp;(repeat refine sdQ ?_);refine hK _ (tn (Q4 (st':=⟨Yt [(4,iV s43),(5,iV 0)],Y9 m_ [],2⟩) (wkQ9 [(0,0),(1,1)]) (Q5 ?_)));clear hK K;replace ⟨e56,he56,h56⟩:=bind_some h;refine Qn he56 (fun s56:Int=>⟨Yt [(4,iV s43),(5,iV s56)],Y9 m_ [],2⟩) (wkQ9 [(0,0),(1,1)]) ?_;intro k56 s56 c56 h hk56;refine Q1 (Q1 (runQ hN fun K hK=>?_));simp;(repeat refine sdQ ?_);refine hK _ ?_;clear hK K;refine tn (Q7 rfl (fun g=>?_) fun g=>?_)
    ·have g57:s56<m_.on_.n:=gQ;clear g;replace h:=if_l g57 h;refine Q8 (tn (Q1 (Q5 (Q1 (runQ hN fun K hK=>?_)))));replace ⟨a58,h⟩:=Q0 h;replace ⟨a59,h⟩:=Q0 h;replace ⟨a60,h⟩:=Q0 h;replace ⟨a61,h⟩:=Q0 h;replace ⟨a62,h⟩:=Q0 h;replace ⟨a63,h⟩:=Q0 h;replace ⟨a64,h⟩:=Q0 h;simp [at_I a58,at_L a59,at_I a60,at_I a61,at_L a62,at_I a63,at_I a64];(repeat refine sdQ ?_);refine hK _ ?_;clear hK K;refine tn (Q7 rfl (fun g=>?_) fun g=>?_)
     ·have g65:¬ ((ix (rx m_.arrows_ (ix m_.on_.id s43)) (ix m_.on_.id s56))=(ix m_.on_.id (ix (rx m_.objects_ s43) s56))):=gQ;clear g;replace h:=if_l g65 h;refine Q1 (runQ hN fun K hK=>?_);simp;(repeat refine sdQ ?_);refine hK _ (tn (Q4 (st':=⟨Y04 [],[],0⟩) (wkQ9 []) (Qf (br (tr (lr (br (br (tr (lr (br (tr ?_))))))))))));clear hK K;cases h;have q:_=e56:=hk56;have h:=h56;rw [← q] at h;clear q;(try dsimp only at h);cases h;have h:=h45;(try dsimp only at h);cases h;have q:_=e18:=hk43;have h:=h18;rw [← q] at h;clear q;(try dsimp only at h);have hr:=Option.some.inj h;rw [← hr];refine ⟨_,(.tmp .nil),?_⟩;refine ⟨(.one rfl rfl .nil),[.val (.bool false)],[],by simp [Cat.cells,XMonoidal.cells,UA,U1,IA,I1,LA,L1,BA,B1,EA,E1,E2,eB,eI,eL,Qd _ Q6 _ (fun _=>rfl)],by simp,(UpL.refl _)⟩
     have g65:¬ (¬ ((ix (rx m_.arrows_ (ix m_.on_.id s43)) (ix m_.on_.id s56))=(ix m_.on_.id (ix (rx m_.objects_ s43) s56)))):=gQ;clear g;replace h:=if_r g65 h;refine Q8 (bn (tn (runQ hN fun K hK=>?_)));replace ⟨a66,h⟩:=Q0 h;simp [Qk a66];(repeat refine sdQ ?_);refine hK _ ?_;clear hK K;cases h;exact rn (s':=s56+1) hk56 (wkQ9 [(0,0),(1,1)])
    have g57:¬ (s56<m_.on_.n):=gQ;clear g;replace h:=if_r g57 h;refine Qg (tx (lx (bh (bn ?_))));cases h;have q:_=e56:=hk56;have h:=h56;rw [← q] at h;clear q;(try dsimp only at h);exact jn (b:=()) (Option.some.inj h) (wkQ9 [(0,0),(1,1)])
   intro b45 hb45;have h:=h45;(try rw [← hb45] at h);clear h45;(try dsimp only at h);refine runQ hN fun K hK=>?_;replace ⟨a67,h⟩:=Q0 h;simp [Qk a67];(repeat refine sdQ ?_);refine hK _ ?_;clear hK K;cases h;exact rn (s':=s43+1) hk43 (wkQ9 [(0,0),(1,1)])
  have g44:¬ (s43<m_.on_.n):=gQ;clear g;replace h:=if_r g44 h;refine Qg (tx (lx (bh ?_)));cases h;exact jn (b:=()) hk43 (wkQ9 [(0,0),(1,1)])
 intro b18 hb18;have h:=h18;try rw [← hb18] at h
 clear h18;try dsimp only at h
 refine Q1 (Q1 (runQ hN fun K hK=>?_));simp;repeat refine sdQ ?_
 refine hK _ (tn (Q4 (st':=⟨Yt [(6,iV 0)],Y9 m_ [],2⟩) (wkQ9 [(0,0),(1,1)]) ?_));clear hK K;replace ⟨e68,h,h68⟩:=bind_some h;refine Qe (fun b68:Unit=>⟨[],[],0⟩) (fun b68=>Sum.inl b68=e68) ?_ ?_
 ·refine Q5 (Qn h (fun s255:Int=>⟨Yt [(6,iV s255)],Y9 m_ [],2⟩) (wkQ9 [(0,0),(1,1)]) ?_);clear h;intro k255 s255 c255 h hk255;refine Q1 (Q1 (runQ hN fun K hK=>?_));simp;repeat refine sdQ ?_
  refine hK _ ?_;clear hK K;refine tn (Q7 rfl (fun g=>?_) fun g=>?_)
  ·have g256:s255<(m_.on_.fr.length:Int):=gQ;clear g;replace h:=if_l g256 h;refine Q8 (tn (Q1 ?_));replace ⟨e257,h,h257⟩:=bind_some h;refine Qe (fun b257:Unit=>⟨Yt [(6,iV s255)],Y9 m_ [],2⟩) (fun b257=>Sum.inl b257=e257) ?_ ?_
   ·refine Q5 (Q1 (runQ hN fun K hK=>?_));simp;(repeat refine sdQ ?_);refine hK _ (tn (Q4 (st':=⟨Yt [(6,iV s255),(7,iV 0)],Y9 m_ [],2⟩) (wkQ9 [(0,0),(1,1)]) (Q5 ?_)));clear hK K;replace ⟨e349,he349,h349⟩:=bind_some h;refine Qn he349 (fun s349:Int=>⟨Yt [(6,iV s255),(7,iV s349)],Y9 m_ [],2⟩) (wkQ9 [(0,0),(1,1)]) ?_;intro k349 s349 c349 h hk349;refine Q1 (Q1 (runQ hN fun K hK=>?_));simp;(repeat refine sdQ ?_);refine hK _ ?_;clear hK K;refine tn (Q7 rfl (fun g=>?_) fun g=>?_)
    ·have g350:s349<(m_.on_.fr.length:Int):=gQ;clear g;replace h:=if_l g350 h;refine Q8 (tn (Q1 ?_));replace ⟨e351,h,h351⟩:=bind_some h;refine Qe (fun b351:Unit=>⟨Yt [(6,iV s255),(7,iV s349)],Y9 m_ [],2⟩) (fun b351=>Sum.inl b351=e351) ?_ ?_
     ·refine Q5 (Q1 (Q1 (runQ hN fun K hK=>?_)));replace ⟨a352,h⟩:=Q0 h;replace ⟨a353,h⟩:=Q0 h;simp [at_L a352,at_I a353];(repeat refine sdQ ?_);refine hK _ ?_;clear hK K;refine tn (Q7 rfl (fun g=>?_) fun g=>?_)
      ·have g354:(ix (rx m_.on_.cs s255) s349)<0:=gQ;clear g;replace h:=if_l g354 h;refine Qg (tx (bh ?_));exact jn (b:=()) (Option.some.inj h) (wkQ9 [(0,0),(1,1)])
      have g354:¬ ((ix (rx m_.on_.cs s255) s349)<0):=gQ;clear g;replace h:=if_r g354 h;refine Q8 (tn (Q1 (runQ hN fun K hK=>?_)));simp;(repeat refine sdQ ?_);refine hK _ (tn (Q4 (st':=⟨Yt [(6,iV s255),(7,iV s349),(8,iV 0)],Y9 m_ [],2⟩) (wkQ9 [(0,0),(1,1)]) (Q5 ?_)));clear hK K;replace ⟨e397,he397,h397⟩:=bind_some h;refine Qn he397 (fun s397:Int=>⟨Yt [(6,iV s255),(7,iV s349),(8,iV s397)],Y9 m_ [],2⟩) (wkQ9 [(0,0),(1,1)]) ?_;intro k397 s397 c397 h hk397;refine Q1 (Q1 (runQ hN fun K hK=>?_));simp;(repeat refine sdQ ?_);refine hK _ ?_;clear hK K;refine tn (Q7 rfl (fun g=>?_) fun g=>?_)
      ·have g398:s397<(m_.on_.fr.length:Int):=gQ;clear g;replace h:=if_l g398 h;refine Q8 (tn (Q1 ?_));replace ⟨e399,h,h399⟩:=bind_some h;refine Qe (fun b399:Unit=>⟨Yt [(6,iV s255),(7,iV s349),(8,iV s397)],Y9 m_ [],2⟩) (fun b399=>Sum.inl b399=e399) ?_ ?_
       ·refine Q5 (Q1 (runQ hN fun K hK=>?_));simp;(repeat refine sdQ ?_);refine hK _ (tn (Q4 (st':=⟨Yt [(6,iV s255),(7,iV s349),(8,iV s397),(9,iV 0)],Y9 m_ [],2⟩) (wkQ9 [(0,0),(1,1)]) (Q5 ?_)));clear hK K;replace ⟨e419,he419,h419⟩:=bind_some h;refine Qn he419 (fun s419:Int=>⟨Yt [(6,iV s255),(7,iV s349),(8,iV s397),(9,iV s419)],Y9 m_ [],2⟩) (wkQ9 [(0,0),(1,1)]) ?_;intro k419 s419 c419 h hk419;refine Q1 (Q1 (runQ hN fun K hK=>?_));simp;(repeat refine sdQ ?_);refine hK _ ?_;clear hK K;refine tn (Q7 rfl (fun g=>?_) fun g=>?_)
        ·have g420:s419<(m_.on_.fr.length:Int):=gQ;clear g;replace h:=if_l g420 h;refine Q8 (tn (Q1 (Q5 (Q1 ?_))));replace ⟨e421,h,h421⟩:=bind_some h;refine Qe (fun b421:Bool=>⟨Yt [(6,iV s255),(7,iV s349),(8,iV s397),(9,iV s419),(200,.val (.bool b421))],Y9 m_ [],2⟩) (fun b421=>b421=e421) ?_ ?_
         ·refine runQ hN fun K hK=>?_;replace ⟨a422,h⟩:=Q0 h;replace ⟨a423,h⟩:=Q0 h;simp [at_L a422,at_I a423];(repeat with_reducible refine sdQ ?_);refine Qo (fun g=>?_) (fun g=>?_)
          ·have g424:(ix (rx m_.on_.cs s397) s419) ≥ 0:=gQ;clear g;replace h:=if_l g424 h;replace ⟨a425,h⟩:=Q0 h;replace ⟨a426,h⟩:=Q0 h;replace ⟨a427,h⟩:=Q0 h;replace ⟨a428,h⟩:=Q0 h;replace ⟨a429,h⟩:=Q0 h;replace ⟨a430,h⟩:=Q0 h;replace ⟨a431,h⟩:=Q0 h;replace ⟨a432,h⟩:=Q0 h;replace ⟨a433,h⟩:=Q0 h;replace ⟨a434,h⟩:=Q0 h;replace ⟨a435,h⟩:=Q0 h;replace ⟨a436,h⟩:=Q0 h;simp [at_L a422,at_I a423,at_L a425,at_I a426,at_L a427,at_L a428,at_I a429,at_I a430,at_L a431,at_I a432,at_L a433,at_L a434,at_I a435,at_I a436];(repeat refine sdQ ?_);refine hK _ ?_;exact jn (b:=(ix (rx m_.arrows_ (ix (rx m_.on_.cs s255) s349)) (ix (rx m_.on_.cs s397) s419)) != (ix (rx m_.on_.cs (ix (rx m_.arrows_ s255) s397)) (ix (rx m_.arrows_ s349) s419))) (Option.some.inj h) (wkQ9 [(0,0),(1,1)])
          have g424:¬ ((ix (rx m_.on_.cs s397) s419) ≥ 0):=gQ;clear g;replace h:=if_r g424 h;simp [at_L a422,at_I a423];(repeat refine sdQ ?_);refine hK _ ?_;exact jn (b:=false) (Option.some.inj h) (wkQ9 [(0,0),(1,1)])
         intro b421 hb421;have h:=h421;(try rw [← hb421] at h);clear h421;(try dsimp only at h);refine Q7 rfl (fun g=>?_) fun g=>?_
         ·have g437:b421=true:=gQ;clear g;replace h:=if_l g437 h;refine Q1 (runQ hN fun K hK=>?_);simp;(repeat refine sdQ ?_);refine hK _ (tn (Q4 (st':=⟨Y04 [],[],0⟩) (wkQ9 []) (Qf (br (tr (lr (br (br (tr (lr (br (br (tr (lr (br (br (tr (lr (br (tr ?_))))))))))))))))))));clear hK K;cases h;have q:_=e419:=hk419;have h:=h419;rw [← q] at h;clear q;(try dsimp only at h);cases h;have h:=h399;(try dsimp only at h);cases h;have q:_=e397:=hk397;have h:=h397;rw [← q] at h;clear q;(try dsimp only at h);cases h;have h:=h351;(try dsimp only at h);cases h;have q:_=e349:=hk349;have h:=h349;rw [← q] at h;clear q;(try dsimp only at h);cases h;have h:=h257;(try dsimp only at h);cases h;have q:_=e68:=hk255;have h:=h68;rw [← q] at h;clear q;(try dsimp only at h);have hr:=Option.some.inj h;rw [← hr];refine ⟨_,(.tmp .nil),?_⟩;refine ⟨(.one rfl rfl .nil),[.val (.bool false)],[],by simp [Cat.cells,XMonoidal.cells,UA,U1,IA,I1,LA,L1,BA,B1,EA,E1,E2,eB,eI,eL,Qd _ Q6 _ (fun _=>rfl)],by simp,(UpL.refl _)⟩
         have g437:¬ (b421=true):=gQ;clear g;replace h:=if_r g437 h;refine Q8 (bn (tn (runQ hN fun K hK=>?_)));replace ⟨a438,h⟩:=Q0 h;simp [Qk a438];(repeat refine sdQ ?_);refine hK _ ?_;clear hK K;cases h;exact rn (s':=s419+1) hk419 (wkQ9 [(0,0),(1,1)])
        have g420:¬ (s419<(m_.on_.fr.length:Int)):=gQ;clear g;replace h:=if_r g420 h;refine Qg (tx (lx (bh (bn ?_))));cases h;have q:_=e419:=hk419;have h:=h419;rw [← q] at h;clear q;(try dsimp only at h);exact jn (b:=()) (Option.some.inj h) (wkQ9 [(0,0),(1,1)])
       intro b399 hb399;have h:=h399;(try rw [← hb399] at h);clear h399;(try dsimp only at h);refine runQ hN fun K hK=>?_;replace ⟨a439,h⟩:=Q0 h;simp [Qk a439];(repeat refine sdQ ?_);refine hK _ ?_;clear hK K;cases h;exact rn (s':=s397+1) hk397 (wkQ9 [(0,0),(1,1)])
      have g398:¬ (s397<(m_.on_.fr.length:Int)):=gQ;clear g;replace h:=if_r g398 h;refine Qg (tx (lx (bh (bn ?_))));cases h;have q:_=e397:=hk397;have h:=h397;rw [← q] at h;clear q;(try dsimp only at h);exact jn (b:=()) (Option.some.inj h) (wkQ9 [(0,0),(1,1)])
     intro b351 hb351;have h:=h351;(try rw [← hb351] at h);clear h351;(try dsimp only at h);refine runQ hN fun K hK=>?_;replace ⟨a440,h⟩:=Q0 h;simp [Qk a440];(repeat refine sdQ ?_);refine hK _ ?_;clear hK K;cases h;exact rn (s':=s349+1) hk349 (wkQ9 [(0,0),(1,1)])
    have g350:¬ (s349<(m_.on_.fr.length:Int)):=gQ;clear g;replace h:=if_r g350 h;refine Qg (tx (lx (bh (bn ?_))));cases h;have q:_=e349:=hk349;have h:=h349;rw [← q] at h;clear q;(try dsimp only at h);exact jn (b:=()) (Option.some.inj h) (wkQ9 [(0,0),(1,1)])
   intro b257 hb257;have h:=h257;(try rw [← hb257] at h);clear h257;(try dsimp only at h);refine runQ hN fun K hK=>?_;replace ⟨a441,h⟩:=Q0 h;simp [Qk a441];(repeat refine sdQ ?_);refine hK _ ?_;clear hK K;cases h;exact rn (s':=s255+1) hk255 (wkQ9 [(0,0),(1,1)])
  have g256:¬ (s255<(m_.on_.fr.length:Int)):=gQ;clear g;replace h:=if_r g256 h;refine Qg (tx (lx (bh ?_)));cases h;exact jn (b:=()) hk255 (wkQ9 [])
 intro b68 hb68;have h:=h68;try rw [← hb68] at h
 clear h68;try dsimp only at h
 refine Q1 (runQ hN fun K hK=>?_);simp;repeat refine sdQ ?_
 refine hK _ (tn (Q4 (st':=⟨[(2,.val (.bool true))],[],0⟩) (wkQ9 []) (Qf ?_)));clear hK K;have hr:=Option.some.inj h;rw [← hr];refine ⟨_,(.tmp .nil),?_⟩;refine ⟨(.one rfl rfl .nil),[.val (.bool true)],[],by simp [Cat.cells,XMonoidal.cells,UA,U1,IA,I1,LA,L1,BA,B1,EA,E1,E2,eB,eI,eL,Qd _ Q6 _ (fun _=>rfl)],by simp,(UpL.refl _)⟩
section
attribute [local simp] Qa Qy Qq QK Qu
structure XMonoidal.Pre (m:XMonoidal):Prop where
 c:m.on_.Is
 u:0≤m.unit_∧m.unit_<m.on_.n
 o:Tbl m.objects_ m.on_.n
 a:Tbl m.arrows_ (m.on_.fr.length:Int)
abbrev XMonoidal.E1 (m:XMonoidal) (f g:Int):Prop:=ix m.on_.fr (ix (rx m.arrows_ f) g)=ix (rx m.objects_ (ix m.on_.fr f)) (ix m.on_.fr g)
abbrev XMonoidal.E2 (m:XMonoidal) (f g:Int):Prop:=ix m.on_.to (ix (rx m.arrows_ f) g)=ix (rx m.objects_ (ix m.on_.to f)) (ix m.on_.to g)
abbrev XMonoidal.Un (m:XMonoidal) (x y:Int):Prop:=ix (rx m.arrows_ (ix m.on_.id x)) (ix m.on_.id y)=ix m.on_.id (ix (rx m.objects_ x) y)
abbrev XMonoidal.Ie (m:XMonoidal) (f h g k:Int):Prop:=ix (rx m.arrows_ (ix (rx m.on_.cs f) h)) (ix (rx m.on_.cs g) k)=ix (rx m.on_.cs (ix (rx m.arrows_ f) g)) (ix (rx m.arrows_ h) k)
def XMonoidal.Ic (m:XMonoidal) (f h g k:Int):Prop:=ix m.on_.to f=ix m.on_.fr h→ix m.on_.to g=ix m.on_.fr k→m.Ie f h g k
def XMonoidal.Ed (m:XMonoidal):Prop:=∀ f:Nat,f<m.on_.fr.length→∀ g:Nat,g<m.on_.fr.length→m.E1 f g∧m.E2 f g
def XMonoidal.Uq (m:XMonoidal):Prop:=∀ x:Nat,x<m.on_.id.length→∀ y:Nat,y<m.on_.id.length→m.Un x y
def XMonoidal.Iq (m:XMonoidal):Prop:=∀ f:Nat,f<m.on_.fr.length→∀ h:Nat,h<m.on_.fr.length→∀ g:Nat,g<m.on_.fr.length→∀ k:Nat,k<m.on_.fr.length→m.Ic f h g k
structure XMonoidal.Is (m:XMonoidal):Prop where
 pre:m.Pre
 ed:m.Ed
 ao:Aso m.objects_ m.unit_
 aa:Aso m.arrows_ (ix m.on_.id m.unit_)
 un:m.Uq
 ic:m.Iq
theorem XMonoidal.Pre.ar {m:XMonoidal} (h:m.Pre) {f g:Int} (hf:0≤f∧f<(m.on_.fr.length:Int)) (hg:0≤g∧g<(m.on_.fr.length:Int)):f<(m.arrows_.length:Int)∧g<((rx m.arrows_ f).length:Int)∧0≤ix (rx m.arrows_ f) g∧ix (rx m.arrows_ f) g<(m.on_.fr.length:Int):=h.a.at hf hg
theorem XMonoidal.Pre.ob {m:XMonoidal} (h:m.Pre) {f g:Int} (hf:0≤f∧f<m.on_.n) (hg:0≤g∧g<m.on_.n):f<(m.objects_.length:Int)∧g<((rx m.objects_ f).length:Int)∧0≤ix (rx m.objects_ f) g∧ix (rx m.objects_ f) g<m.on_.n:=h.o.at hf hg
theorem Cat.Is.idn {c:Cat} (h:c.Is) {x:Int} (hx:0≤x∧x<c.n):0≤ix c.id x∧ix c.id x<(c.fr.length:Int):=h.1.id' hx.1 (by have:=h.nums;omega)
theorem e_l35Ends {m:XMonoidal} (h:m.Pre):Q2s m=some (bo m.Ed):=by
 have n:=h.c.nums;unfold Q2s;refine chkI m.on_.fr.length (fun f=>∀ g:Nat,g<m.on_.fr.length→m.E1 f g∧m.E2 f g) (Sum.inr false) (Sum.inl ()) (by omega) (fun f hf=>?_) (by rw [if_neg (by omega)]) ?_
 ·rw [if_pos (by omega),Option.bind_assoc];refine chkI m.on_.fr.length (fun g=>m.E1 f g∧m.E2 f g) (Sum.inl false) (Sum.inr ()) (by omega) (fun g hg=>?_) (by rw [if_neg (by omega)]) ?_
  ·have a1:=h.ar (f:=f) (g:=g) (by omega) (by omega);have e1:=h.c.ends (a:=f) (by omega);have e2:=h.c.ends (a:=g) (by omega);have o1:=h.ob e1.1 e2.1;have o2:=h.ob e1.2 e2.2;rw [if_pos (by omega),Q3 (by omega),Q3 (by omega),Q3 (by omega),Q3 (by omega),Q3 (by omega),Q3 (by omega),Q3 (by omega)]
   by_cases q1:m.E1 f g
   case neg=>rw [if_pos q1,Qj (fun z=>q1 z.1)];rfl
   rw [if_neg (Q1O q1),Q3 (by omega),Q3 (by omega),Q3 (by omega),Q3 (by omega),Q3 (by omega)];simp only [Option.bind_some]
   by_cases q2:m.E2 f g
   ·rw [Qm ⟨q1,q2⟩,if_neg (by simpa using q2),Q3 (by unfold B64;omega)];rfl
   rw [Qj (fun z=>q2 z.2),if_pos (by simpa using q2)];rfl
  by_cases q:∀ g:Nat,g<m.on_.fr.length→m.E1 f g∧m.E2 f g
  ·rw [Qm q];simp only [if_true,Option.bind_some];rw [Q3 (by unfold B64;omega)]
  rw [Qj q];rfl
 by_cases q:m.Ed
 ·rw [Qm (show ∀ f:Nat,f<m.on_.fr.length→∀ g:Nat,g<m.on_.fr.length→m.E1 f g∧m.E2 f g from q),Qm q];rfl
 rw [Qj (show ¬ ∀ f:Nat,f<m.on_.fr.length→∀ g:Nat,g<m.on_.fr.length→m.E1 f g∧m.E2 f g from q),Qj q];rfl
theorem cmp_nn {c:Cat} (h:c.Is) {a b:Int} (ha:0≤a∧a<(c.fr.length:Int)) (hb:0≤b∧b<(c.fr.length:Int)):(0≤ix (rx c.cs a) b↔ix c.to a=ix c.fr b)∧b<((rx c.cs a).length:Int) :=
 ⟨⟨fun q=>(h.comp ha hb q).1,fun q=>(h.two ha hb q).1.1⟩,by have:=h.1.row' ha.1 ha.2;omega⟩
theorem Q6N {m:XMonoidal}:Q3e m=some (bo m.Is):=by
 unfold Q3e Q3M Q2g
 by_cases h1:m.on_.Is
 case neg=>rw [Qj h1,Qj (show ¬ m.Is from fun q=>h1 q.pre.c)];rfl
 have n:=h1.nums;rw [Qm h1];simp only [Option.bind_some,not_true_eq_false,if_false]
 by_cases h2:0≤m.unit_∧m.unit_<m.on_.n
 case neg =>
  rw [Qj (show ¬ m.Is from fun q=>h2 q.pre.u)]
  by_cases h3:m.unit_ ≥ 0
  ·rw [if_pos h3];simp [show ¬ m.unit_<m.on_.n by omega]
  rw [if_neg h3];simp
 rw [if_pos h2.1];simp only [Option.bind_some,h2.2,decide_true,not_true_eq_false,if_false];rw [Q5i (by omega),Q5i (by omega)]
 by_cases h3:Tbl m.objects_ m.on_.n
 case neg=>rw [Qj h3,Qj (show ¬ m.Is from fun q=>h3 q.pre.o)];simp
 by_cases h4:Tbl m.arrows_ (m.on_.fr.length:Int)
 case neg=>rw [Qj h4,Qj (show ¬ m.Is from fun q=>h4 q.pre.a)];simp
 have h:m.Pre:=⟨h1,h2,h3,h4⟩;have iu:=h1.idn h2;rw [Qm h3,Qm h4,e_l35Ends h,Q5j h3 h2 (by omega),Q5j h4 iu (by omega)];simp only [Option.bind_some,not_true_eq_false,if_false,Bool.not_true,Bool.false_eq_true]
 by_cases q1:m.Ed
 case neg=>rw [Qj q1,Qj (show ¬ m.Is from fun q=>q1 q.ed)];simp
 by_cases q2:Aso m.objects_ m.unit_
 case neg=>rw [Qm q1,Qj q2,Qj (show ¬ m.Is from fun q=>q2 q.ao)];simp
 rw [Qm q1,Qm q2,Q3 (by omega)]
 by_cases q3:Aso m.arrows_ (ix m.on_.id m.unit_)
 case neg=>rw [Qj q3,Qj (show ¬ m.Is from fun q=>q3 q.aa)];simp
 rw [Qm q3];simp only [Option.bind_some,not_true_eq_false,if_false,Bool.not_true,Bool.false_eq_true];refine chkI m.on_.id.length (fun x=>∀ y:Nat,y<m.on_.id.length→m.Un x y) (Sum.inr false) (Sum.inl ()) (by omega) (fun x hx=>?_) (by rw [if_neg (by omega)]) ?_
 ·rw [if_pos (by omega),Option.bind_assoc];refine chkI m.on_.id.length (fun y=>m.Un x y) (Sum.inl false) (Sum.inr ()) (by omega) (fun y hy=>?_) (by rw [if_neg (by omega)]) ?_
  ·have i1:=h1.idn (x:=x) (by omega);have i2:=h1.idn (x:=y) (by omega);have a1:=h.ar i1 i2;have o1:=h.ob (f:=x) (g:=y) (by omega) (by omega);rw [if_pos (by omega),Q3 (by omega),Q3 (by omega),Q3 (by omega),Q3 (by omega),Q3 (by omega),Q3 (by omega),Q3 (by omega)]
   by_cases q:m.Un x y
   ·rw [Qm q,if_neg (Q1O q),Q3 (by unfold B64;omega)];rfl
   rw [Qj q,if_pos q];rfl
  by_cases q:∀ y:Nat,y<m.on_.id.length→m.Un x y
  ·rw [Qm q];simp only [if_true,Option.bind_some];rw [Q3 (by unfold B64;omega)]
  rw [Qj q];rfl
 by_cases q4:m.Uq
 case neg=>rw [Qj (show ¬ ∀ x:Nat,x<m.on_.id.length→∀ y:Nat,y<m.on_.id.length→m.Un x y from q4),Qj (show ¬ m.Is from fun q=>q4 q.un)];rfl
 rw [Qm (show ∀ x:Nat,x<m.on_.id.length→∀ y:Nat,y<m.on_.id.length→m.Un x y from q4)];simp only [if_true];refine chkI m.on_.fr.length (fun f=>∀ h:Nat,h<m.on_.fr.length→∀ g:Nat,g<m.on_.fr.length→∀ k:Nat,k<m.on_.fr.length→m.Ic f h g k) (Sum.inr false) (Sum.inl ()) (by omega) (fun f hf=>?_) (by rw [if_neg (by omega)]) ?_
 ·rw [if_pos (by omega),Option.bind_assoc];refine chkI m.on_.fr.length (fun h=>∀ g:Nat,g<m.on_.fr.length→∀ k:Nat,k<m.on_.fr.length→m.Ic f h g k) (Sum.inl false) (Sum.inr ()) (by omega) (fun k1 hk1=>?_) (by rw [if_neg (by omega)]) ?_
  ·have c1:=cmp_nn h1 (a:=f) (b:=k1) (by omega) (by omega);rw [if_pos (by omega),Q3 (by omega),Q3 (by omega)]
   by_cases z1:ix m.on_.to f=ix m.on_.fr k1
   case neg =>
    rw [if_pos (by have:=c1.1;omega),Qm (show ∀ g:Nat,g<m.on_.fr.length→∀ k:Nat,k<m.on_.fr.length→m.Ic f k1 g k from fun g _ k _ e=>absurd e z1)];simp only [if_true,Option.bind_some];rw [Q3 (by unfold B64;omega)]
   rw [if_neg (by have:=c1.1;omega),Option.bind_assoc];refine chkI m.on_.fr.length (fun g=>∀ k:Nat,k<m.on_.fr.length→m.Ic f k1 g k) (Sum.inl false) (Sum.inr ()) (by omega) (fun g hg=>?_) (by rw [if_neg (by omega)]) ?_
   ·rw [if_pos (by omega),Option.bind_assoc];refine chkI m.on_.fr.length (fun k=>m.Ic f k1 g k) (Sum.inl false) (Sum.inr ()) (by omega) (fun k hk=>?_) (by rw [if_neg (by omega)]) ?_
    ·have c2:=cmp_nn h1 (a:=g) (b:=k) (by omega) (by omega);rw [if_pos (by omega),Q3 (by omega),Q3 (by omega)]
     by_cases z2:ix m.on_.to g=ix m.on_.fr k
     case neg =>
      rw [if_neg (by have:=c2.1;omega),Qm (show m.Ic f k1 g k from fun _ e=>absurd e z2)];simp only [Bool.false_eq_true,if_false,if_true,Option.bind_some];rw [Q3 (by unfold B64;omega)]
     have d1:=h1.comp (a:=f) (b:=k1) (by omega) (by omega) (c1.1.2 z1);have d2:=h1.comp (a:=g) (b:=k) (by omega) (by omega) (c2.1.2 z2);have w1:=c1.1.2 z1;have w2:=c2.1.2 z2;have a1:=h.ar (f:=ix (rx m.on_.cs f) k1) (g:=ix (rx m.on_.cs g) k) (by omega) (by omega);have a2:=h.ar (f:=f) (g:=g) (by omega) (by omega);have a3:=h.ar (f:=k1) (g:=k) (by omega) (by omega);have c3:=cmp_nn h1 (a:=ix (rx m.arrows_ f) g) (b:=ix (rx m.arrows_ k1) k) (by omega) (by omega);rw [if_pos (by omega),Q3 (by omega),Q3 (by omega),Q3 (by omega),Q3 (by omega),Q3 (by omega),Q3 (by omega),Q3 (by omega),Q3 (by omega),Q3 (by omega),Q3 (by omega),Q3 (by omega),Q3 (by omega)];simp only [Option.bind_some]
     by_cases q:m.Ie f k1 g k
     ·rw [Qm (show m.Ic f k1 g k from fun _ _=>q),if_neg (by simpa using q),Q3 (by unfold B64;omega)];rfl
     rw [Qj (show ¬ m.Ic f k1 g k from fun z=>q (z z1 z2)),if_pos (by simpa using q)];rfl
    by_cases q:∀ k:Nat,k<m.on_.fr.length→m.Ic f k1 g k
    ·rw [Qm q];simp only [if_true,Option.bind_some];rw [Q3 (by unfold B64;omega)]
    rw [Qj q];rfl
   by_cases q:∀ g:Nat,g<m.on_.fr.length→∀ k:Nat,k<m.on_.fr.length→m.Ic f k1 g k
   ·rw [Qm q];simp only [if_true,Option.bind_some];rw [Q3 (by unfold B64;omega)]
   rw [Qj q];rfl
  by_cases q:∀ h:Nat,h<m.on_.fr.length→∀ g:Nat,g<m.on_.fr.length→∀ k:Nat,k<m.on_.fr.length→m.Ic f h g k
  ·rw [Qm q];simp only [if_true,Option.bind_some];rw [Q3 (by unfold B64;omega)]
  rw [Qj q];rfl
 by_cases q:m.Iq
 ·rw [Qm (show ∀ f:Nat,f<m.on_.fr.length→∀ h:Nat,h<m.on_.fr.length→∀ g:Nat,g<m.on_.fr.length→∀ k:Nat,k<m.on_.fr.length→m.Ic f h g k from q),Qm (show m.Is from ⟨h,q1,q2,q3,q4,q⟩)];rfl
 rw [Qj (show ¬ ∀ f:Nat,f<m.on_.fr.length→∀ h:Nat,h<m.on_.fr.length→∀ g:Nat,g<m.on_.fr.length→∀ k:Nat,k<m.on_.fr.length→m.Ic f h g k from q),Qj (show ¬ m.Is from fun z=>q z.ic)];rfl
end
attribute [local simp] unk unA unE unT unC flat
noncomputable def QE (c_:Cat) (f_:Int):Option Bool :=
 ass (0≤f_∧f_<(c_.fr.length:Int)) <|
 ass (0≤ix c_.fr f_∧ix c_.fr f_<(c_.id.length:Int)) <|
 some ((ix c_.id (ix c_.fr f_)) == f_)
theorem Q1e (c_:Cat) (f_:Int) (r:Bool) (h:QE c_ f_=some r):Contract Try.prog 78 [.rptr (c_.cells true),iV f_] (.val (.bool r)):=by
 refine Qh (rvs:=[.tmp 4]) (rs:=[.val (.bool r)]) Try.func78 rfl rfl rfl rfl (by simp [Try.f78]) fun F hN hP=>?_;unfold QE at h;refine Q1 (runQ hN fun K hK=>?_);simp [eL,eI,Qs,Q1L,Cat.cells];repeat refine sdQ ?_
 refine hK _ ?_;clear hK K;refine tn (Q4 (st':=⟨YL c_ f_ [],[],0⟩) (wkQ9 []) (Q1 (runQ hN fun K hK=>?_)));replace ⟨a1,h⟩:=Q0 h;replace ⟨a2,h⟩:=Q0 h;simp [eL,eI,Qs,Q1L,Cat.cells,at_I a1,at_I a2];repeat refine sdQ ?_
 refine hK _ (tn (Q4 (st':=⟨[(4,.val (.bool ((ix c_.id (ix c_.fr f_)) == f_)))],[],0⟩) (wkQ9 []) (Qf ?_)));clear hK K;have hr:=Option.some.inj h;rw [← hr];refine ⟨_,(.tmp .nil),?_⟩;refine ⟨(.one rfl rfl .nil),[.val (.bool ((ix c_.id (ix c_.fr f_)) == f_))],[],by simp [Cat.cells,UA,U1,IA,I1,LA,L1,BA,B1,EA,E1,E2,eB,eI,eL],by simp,(UpL.refl _)⟩
attribute [local simp] unk unA unE unT unC flat eL eI Qs Q1L Cat.cells
noncomputable def QQ (c_:Cat) (x_:Int):Option (List Int) :=
 (Qt (σ:=List Int × Int) (ε:=List Int) (fun s8 =>
  if s8.2<(c_.fr.length:Int) then
   (
    ass (0≤s8.2∧s8.2<(c_.fr.length:Int)) <|
    if (ix c_.fr s8.2)=x_ then
     ass ((s8.1++[s8.2]).length≤1073741824) <|
     some (s8.1++[s8.2])
    else
     some s8.1:Option (List Int)).bind fun b10 =>
   ass (B64 (s8.2+1)) <|
   some (Ctl.next (b10,s8.2+1))
  else
   some (Ctl.ret s8.1)) fuel ([],0)).bind fun b1 =>
 some b1
@[simp] abbrev Y05 (a:Cat) (b:List (Nat × AV)):List (Nat × AV):=(12,lI a.fr)::(13,iV (a.fr.length:Int))::b
theorem Q2w (c_:Cat) (x_:Int) (r:List Int) (h:QQ c_ x_=some r):Contract Try.prog 107 [.rptr (c_.cells true),iV x_] (lI r):=by
 refine Qh (rvs:=[.tmp 4]) (rs:=[lI r]) Try.func107 rfl rfl rfl rfl (by simp [Try.f107]) fun F hN hP=>?_;unfold QQ at h;refine Q1 (runQ hN fun K hK=>?_);simp;repeat refine sdQ ?_
 refine hK _ ?_;clear hK K;refine tn (Q4 (st':=⟨YL c_ x_ [],[],0⟩) (wkQ9 []) (Q1 (runQ hN fun K hK=>?_)));simp;repeat refine sdQ ?_
 refine hK _ ?_;clear hK K;refine tn (Q4 (st':=⟨YL c_ x_ [(5,.own 0 0 0)],[(0,.mix 1 [])],1⟩) (wkQ9 [(0,0)]) (Q1 (Q1 (runQ hN fun K hK=>?_))));simp;repeat refine sdQ ?_
 refine hK _ (tn (Q4 (st':=⟨(1,iV x_)::(5,.own 0 0 0)::Y05 c_ [(14,iV 0)],[(0,.mix 1 [])],1⟩) (wkQ9 [(0,0)]) ?_));clear hK K;replace ⟨e1,h,h1⟩:=bind_some h;refine Qe (fun b1:List Int=>⟨[(5,.own 0 0 b1.length)],[(0,rI b1)],1⟩) (fun b1=>b1=e1) ?_ ?_
 ·refine Q5 (Qn h (fun s8:List Int × Int=>⟨(1,iV x_)::(5,.own 0 0 s8.1.length)::Y05 c_ [(14,iV s8.2)],[(0,rI s8.1)],1⟩) (Q4c ⟨(1,iV x_)::(5,.own 0 0 0)::Y05 c_ [(14,iV 0)],[(0,rI [])],1⟩ (Wk.nils [] (by simp) (by simp) (by simp [nlA]) (by simp [entN,nlL,nlA,Cat.cells,UA,U1,IA,I1,LA,L1,BA,B1,EA,E1,E2,eB,eI,eL]) (by simp)) (wkQ9 [(0,0)])) ?_);clear h;intro k8 s8 c8 h hk8;refine Q1 (runQ hN fun K hK=>?_);simp;repeat refine sdQ ?_
  refine hK _ ?_;clear hK K;refine tn (Q1 (Q7 rfl (fun g=>?_) fun g=>?_))
  ·have g9:s8.2<(c_.fr.length:Int):=gQ;clear g;replace h:=if_l g9 h;refine Q8 (tn (Q1 ?_));replace ⟨e10,h,h10⟩:=bind_some h;refine Qe (fun b10:List Int=>⟨(1,iV x_)::(5,.own 0 0 b10.length)::Y05 c_ [(14,iV s8.2)],[(0,rI b10)],1⟩) (fun b10=>b10=e10) ?_ ?_
   ·refine Q5 (Q1 (runQ hN fun K hK=>?_));replace ⟨a11,h⟩:=Q0 h;simp [at_I a11];(repeat refine sdQ ?_);refine hK _ ?_;clear hK K;refine tn (Q4 (st':=⟨(1,iV x_)::(5,.own 0 0 s8.1.length)::(6,iV s8.2)::(7,iV (ix c_.fr s8.2))::Y05 c_ [(14,iV s8.2)],[(0,rI s8.1)],1⟩) (wkQ9 [(0,0)]) (Q1 (runQ hN fun K hK=>?_)));simp;(repeat refine sdQ ?_);refine hK _ ?_;clear hK K;refine tn (Q7 rfl (fun g=>?_) fun g=>?_)
    ·have g12:(ix c_.fr s8.2)=x_:=gQ;clear g;replace h:=if_l g12 h;refine runQ hN fun K hK=>?_;replace ⟨a13,h⟩:=Q0 h;(try simp only [List.length_append,List.length_cons,List.length_nil] at a13);simp [a13];(repeat refine sdQ ?_);refine hK _ (bn ?_);clear hK K;exact jn (b:=s8.1++[s8.2]) (Option.some.inj h) (wkQ9 [(2,0)])
    have g12:¬ ((ix c_.fr s8.2)=x_):=gQ;clear g;replace h:=if_r g12 h;refine Q8 (bn ?_);exact jn (b:=s8.1) (Option.some.inj h) (wkQ9 [(0,0)])
   intro b10 hb10;have h:=h10;(try rw [← hb10] at h);clear h10;(try dsimp only at h);refine runQ hN fun K hK=>?_;replace ⟨a14,h⟩:=Q0 h;simp [Qk a14];(repeat refine sdQ ?_);refine hK _ ?_;clear hK K;cases h;exact rn (s':=(b10,s8.2+1)) hk8 (wkQ9 [(0,0)])
  have g9:¬ (s8.2<(c_.fr.length:Int)):=gQ;clear g;replace h:=if_r g9 h;refine Qg (tx (lx (bh ?_)));cases h;exact jn (b:=s8.1) hk8 (wkQ9 [(0,0)])
 intro b1 hb1;have h:=h1;try rw [← hb1] at h
 clear h1;try dsimp only at h
 refine Q1 (runQ hN fun K hK=>?_);simp;repeat refine sdQ ?_
 refine hK _ (tn (Q4 (st':=⟨[(4,.own 0 0 b1.length)],[(0,rI b1)],1⟩) (wkQ9 [(0,0)]) (Qf ?_)));clear hK K;have hr:=Option.some.inj h;rw [← hr];refine ⟨_,(.tmp .nil),?_⟩;refine ⟨(.one rfl rfl .nil),[lI b1],[0],by simp [Cat.cells,UA,U1,IA,I1,LA,L1,BA,B1,EA,E1,E2,eB,eI,eL],by simp,(UpL.refl _)⟩
attribute [local simp] unk unA unE unT unC flat eL eI Qs Q1L Q6 Cat.cells XMonoidal.cells
noncomputable def QH (m_:XMonoidal):Option Bool :=
 (Qt (σ:=Int) (ε:=Unit ⊕ Bool) (fun s146 =>
  if s146<(m_.on_.fr.length:Int) then
   (
    ass (0≤s146∧s146<(m_.on_.to.length:Int)) <|
    (QQ m_.on_ (ix m_.on_.to s146)).bind fun v150 =>
    (Qt (σ:=Int) (ε:=Bool ⊕ Unit) (fun s220 =>
     if s220<(v150.length:Int) then
      (
       ass (0≤s220∧s220<(v150.length:Int)) <|
       (Qt (σ:=Int) (ε:=Bool ⊕ Unit) (fun s256 =>
        if s256<(m_.on_.fr.length:Int) then
         (
          ass (0≤s256∧s256<(m_.on_.to.length:Int)) <|
          (QQ m_.on_ (ix m_.on_.to s256)).bind fun v260 =>
          (Qt (σ:=Int) (ε:=Bool ⊕ Unit) (fun s274 =>
           if s274<(v260.length:Int) then
            ass (0≤s274∧s274<(v260.length:Int)) <|
            (Qx m_.on_ s146 (ix v150 s220)).bind fun v277 =>
            ass (0≤v277∧v277<(m_.arrows_.length:Int)) <|
            (Qx m_.on_ s256 (ix v260 s274)).bind fun v279 =>
            ass (0≤v279∧v279<((rx m_.arrows_ v277).length:Int)) <|
            ass (0≤s146∧s146<(m_.arrows_.length:Int)) <|
            ass (0≤s256∧s256<((rx m_.arrows_ s146).length:Int)) <|
            ass (0≤ix v150 s220∧ix v150 s220<(m_.arrows_.length:Int)) <|
            ass (0≤ix v260 s274∧ix v260 s274<((rx m_.arrows_ (ix v150 s220)).length:Int)) <|
            (Qx m_.on_ (ix (rx m_.arrows_ s146) s256) (ix (rx m_.arrows_ (ix v150 s220)) (ix v260 s274))).bind fun v285 =>
            if ¬ ((ix (rx m_.arrows_ v277) v279)=v285) then
             some (Ctl.ret (Sum.inl false))
            else
             ass (B64 (s274+1)) <|
             some (Ctl.next (s274+1))
           else
            some (Ctl.ret (Sum.inr ()))) fuel 0).bind fun e274 =>
          match e274 with
          | .inl p274 =>
           some (Sum.inr p274)
          | .inr p274 =>
           some (Sum.inl p274):Option (Unit ⊕ Bool)).bind fun e258 =>
         match e258 with
         | .inl b258 =>
          ass (B64 (s256+1)) <|
          some (Ctl.next (s256+1))
         | .inr p258 =>
          some (Ctl.ret (Sum.inl p258))
        else
         some (Ctl.ret (Sum.inr ()))) fuel 0).bind fun e256 =>
       match e256 with
       | .inl p256 =>
        some (Sum.inr p256)
       | .inr p256 =>
        some (Sum.inl p256):Option (Unit ⊕ Bool)).bind fun e222 =>
      match e222 with
      | .inl b222 =>
       ass (B64 (s220+1)) <|
       some (Ctl.next (s220+1))
      | .inr p222 =>
       some (Ctl.ret (Sum.inl p222))
     else
      some (Ctl.ret (Sum.inr ()))) fuel 0).bind fun e220 =>
    match e220 with
    | .inl p220 =>
     some (Sum.inr p220)
    | .inr p220 =>
     some (Sum.inl p220):Option (Unit ⊕ Bool)).bind fun e148 =>
   match e148 with
   | .inl b148 =>
    ass (B64 (s146+1)) <|
    some (Ctl.next (s146+1))
   | .inr p148 =>
    some (Ctl.ret (Sum.inr p148))
  else
   some (Ctl.ret (Sum.inl ()))) fuel 0).bind fun e1 =>
 match e1 with
 | .inl b1 =>
  some true
 | .inr p1 =>
  some p1
@[simp] abbrev Yb (a:XMonoidal) (b:List (Nat × AV)):List (Nat × AV):=(0,.rptr (XMonoidal.cells true a))::(3,.rptr (XMonoidal.cells true a))::b
@[simp] abbrev Ys (a:XMonoidal) (b:Int) (c:List Int) (d:List (Nat × AV)):List (Nat × AV):=(17,iV (a.on_.fr.length:Int))::(18,iV b)::(29,.own 0 0 c.length)::(30,iV (c.length:Int))::d
@[simp] abbrev YX (a:Int) (b:XMonoidal) (c:Int) (d:List Int) (e:List (Nat × AV)):List (Nat × AV):=(31,iV a)::(39,iV (b.on_.fr.length:Int))::(40,iV c)::(51,.own 1 0 d.length)::(52,iV (d.length:Int))::e
theorem Q2z (m_:XMonoidal) (r:Bool) (h:QH m_=some r):Contract Try.prog 80 [.rptr (m_.cells true)] (.val (.bool r)):=by
 refine Qh (rvs:=[.tmp 2]) (rs:=[.val (.bool r)]) Try.func80 rfl rfl rfl rfl (by simp [Try.f80]) fun F hN hP=>?_;unfold QH at h;refine Q1 (runQ hN fun K hK=>?_);simp;repeat refine sdQ ?_
 refine hK _ ?_;clear hK K;refine tn (Q4 (st':=⟨[(0,.rptr (XMonoidal.cells true m_))],[],0⟩) (wkQ9 []) (Q1 (runQ hN fun K hK=>?_)));simp;repeat refine sdQ ?_
 refine hK _ ?_;clear hK K;refine tn (Q4 (st':=⟨Yb m_ [],[],0⟩) (wkQ9 []) (Q1 (Q1 (runQ hN fun K hK=>?_))));simp;repeat refine sdQ ?_
 refine hK _ (tn (Q4 (st':=⟨Yb m_ [(17,iV (m_.on_.fr.length:Int)),(18,iV 0)],[],0⟩) (wkQ9 []) ?_));clear hK K;replace ⟨e1,h,h1⟩:=bind_some h;refine Qe (fun b1:Unit=>⟨[],[],0⟩) (fun b1=>Sum.inl b1=e1) ?_ ?_
 ·refine Q5 (Qn h (fun s146:Int=>⟨Yb m_ [(17,iV (m_.on_.fr.length:Int)),(18,iV s146)],[],0⟩) (wkQ9 []) ?_);clear h;intro k146 s146 c146 h hk146;refine Q1 (runQ hN fun K hK=>?_);simp;repeat refine sdQ ?_
  refine hK _ ?_;clear hK K;refine tn (Q1 (Q7 rfl (fun g=>?_) fun g=>?_))
  ·have g147:s146<(m_.on_.fr.length:Int):=gQ;clear g;replace h:=if_l g147 h;refine Q8 (tn (Q1 ?_));replace ⟨e148,h,h148⟩:=bind_some h;refine Qe (fun b148:Unit=>⟨Yb m_ [(17,iV (m_.on_.fr.length:Int)),(18,iV s146)],[],0⟩) (fun b148=>Sum.inl b148=e148) ?_ ?_
   ·refine Q5 (Q1 (runQ hN fun K hK=>?_));simp;(repeat refine sdQ ?_);refine hK _ ?_;clear hK K;refine tn (Q4 (st':=⟨Yb m_ [(4,iV s146),(17,iV (m_.on_.fr.length:Int)),(18,iV s146)],[],0⟩) (wkQ9 []) (Q1 (runQ hN fun K hK=>?_)));replace ⟨a149,h⟩:=Q0 h;simp [at_I a149];(repeat with_reducible refine sdQ ?_);replace ⟨v150,hv150,h⟩:=bind_some h;refine Q2 (Q2w _ _ v150 hv150) (.cons (.preT (by simp [Cat.cells,XMonoidal.cells])) (.cons .val .nil)) ?_;simp [at_I a149];(repeat refine sdQ ?_);refine hK _ (tn (Q4 (st':=⟨Yb m_ ((4,iV s146)::Ys m_ s146 v150 [(31,iV 0)]),[(0,rI v150)],1⟩) (wkQ9 [(0,0)]) (Q5 ?_)));clear hK K;replace ⟨e220,he220,h220⟩:=bind_some h;refine Qn he220 (fun s220:Int=>⟨Yb m_ ((4,iV s146)::Ys m_ s146 v150 [(31,iV s220)]),[(0,rI v150)],1⟩) (wkQ9 [(0,0)]) ?_;intro k220 s220 c220 h hk220;refine Q1 (runQ hN fun K hK=>?_);simp;(repeat refine sdQ ?_);refine hK _ ?_;clear hK K;refine tn (Q1 (Q7 rfl (fun g=>?_) fun g=>?_))
    ·have g221:s220<(v150.length:Int):=gQ;clear g;replace h:=if_l g221 h;refine Q8 (tn (Q1 ?_));replace ⟨e222,h,h222⟩:=bind_some h;refine Qe (fun b222:Unit=>⟨Yb m_ ((4,iV s146)::Ys m_ s146 v150 [(31,iV s220)]),[(0,rI v150)],1⟩) (fun b222=>Sum.inl b222=e222) ?_ ?_
     ·refine Q5 (Q1 (runQ hN fun K hK=>?_));replace ⟨a223,h⟩:=Q0 h;simp [at_I a223];(repeat refine sdQ ?_);refine hK _ ?_;clear hK K;refine tn (Q4 (st':=⟨Yb m_ ((4,iV s146)::(6,iV (ix v150 s220))::Ys m_ s146 v150 [(31,iV s220)]),[(0,rI v150)],1⟩) (wkQ9 [(0,0)]) (Q1 (runQ hN fun K hK=>?_)));simp;(repeat refine sdQ ?_);refine hK _ (tn (Q4 (st':=⟨Yb m_ ((4,iV s146)::(6,iV (ix v150 s220))::Ys m_ s146 v150 [(31,iV s220),(39,iV (m_.on_.fr.length:Int)),(40,iV 0)]),[(0,rI v150)],1⟩) (wkQ9 [(0,0)]) (Q5 ?_)));clear hK K;replace ⟨e256,he256,h256⟩:=bind_some h;refine Qn he256 (fun s256:Int=>⟨Yb m_ ((4,iV s146)::(6,iV (ix v150 s220))::Ys m_ s146 v150 [(31,iV s220),(39,iV (m_.on_.fr.length:Int)),(40,iV s256)]),[(0,rI v150)],1⟩) (wkQ9 [(0,0)]) ?_;intro k256 s256 c256 h hk256;refine Q1 (runQ hN fun K hK=>?_);simp;(repeat refine sdQ ?_);refine hK _ ?_;clear hK K;refine tn (Q1 (Q7 rfl (fun g=>?_) fun g=>?_))
      ·have g257:s256<(m_.on_.fr.length:Int):=gQ;clear g;replace h:=if_l g257 h;refine Q8 (tn (Q1 ?_));replace ⟨e258,h,h258⟩:=bind_some h;refine Qe (fun b258:Unit=>⟨Yb m_ ((4,iV s146)::(6,iV (ix v150 s220))::Ys m_ s146 v150 [(31,iV s220),(39,iV (m_.on_.fr.length:Int)),(40,iV s256)]),[(0,rI v150)],1⟩) (fun b258=>Sum.inl b258=e258) ?_ ?_
       ·refine Q5 (Q1 (runQ hN fun K hK=>?_));simp;(repeat refine sdQ ?_);refine hK _ ?_;clear hK K;refine tn (Q4 (st':=⟨Yb m_ ((4,iV s146)::(6,iV (ix v150 s220))::(7,iV s256)::Ys m_ s146 v150 [(31,iV s220),(39,iV (m_.on_.fr.length:Int)),(40,iV s256)]),[(0,rI v150)],1⟩) (wkQ9 [(0,0)]) (Q1 (runQ hN fun K hK=>?_)));replace ⟨a259,h⟩:=Q0 h;simp [at_I a259];(repeat with_reducible refine sdQ ?_);replace ⟨v260,hv260,h⟩:=bind_some h;refine Q2 (Q2w _ _ v260 hv260) (.cons (.preT (by simp [Cat.cells,XMonoidal.cells])) (.cons .val .nil)) ?_;simp [at_I a259];(repeat refine sdQ ?_);refine hK _ (tn (Q4 (st':=⟨Yb m_ ((4,iV s146)::(6,iV (ix v150 s220))::(7,iV s256)::Ys m_ s146 v150 (YX s220 m_ s256 v260 [(53,iV 0)])),[(0,rI v150),(1,rI v260)],2⟩) (wkQ9 [(0,0),(1,1)]) (Q5 ?_)));clear hK K;replace ⟨e274,he274,h274⟩:=bind_some h;refine Qn he274 (fun s274:Int=>⟨Yb m_ ((4,iV s146)::(6,iV (ix v150 s220))::(7,iV s256)::Ys m_ s146 v150 (YX s220 m_ s256 v260 [(53,iV s274)])),[(0,rI v150),(1,rI v260)],2⟩) (wkQ9 [(0,0),(1,1)]) ?_;intro k274 s274 c274 h hk274;refine Q1 (runQ hN fun K hK=>?_);simp;(repeat refine sdQ ?_);refine hK _ ?_;clear hK K;refine tn (Q1 (Q7 rfl (fun g=>?_) fun g=>?_))
        ·have g275:s274<(v260.length:Int):=gQ;clear g;replace h:=if_l g275 h;refine Q8 (tn (Q1 (Q5 (Q1 (runQ hN fun K hK=>?_)))));replace ⟨a276,h⟩:=Q0 h;simp [at_I a276];(repeat refine sdQ ?_);refine hK _ ?_;clear hK K;refine tn (Q4 (st':=⟨Yb m_ ((4,iV s146)::(6,iV (ix v150 s220))::(7,iV s256)::(9,iV (ix v260 s274))::Ys m_ s146 v150 (YX s220 m_ s256 v260 [(53,iV s274)])),[(0,rI v150),(1,rI v260)],2⟩) (wkQ9 [(0,0),(1,1)]) (Q1 (runQ hN fun K hK=>?_)));simp;(repeat with_reducible refine sdQ ?_);replace ⟨v277,hv277,h⟩:=bind_some h;refine Q2 (Q1c _ _ _ v277 hv277) (.cons (.preT (by simp [Cat.cells,XMonoidal.cells])) (.cons .val (.cons .val .nil))) ?_;replace ⟨a278,h⟩:=Q0 h;simp [at_L a278];(repeat with_reducible refine sdQ ?_);replace ⟨v279,hv279,h⟩:=bind_some h;refine Q2 (Q1c _ _ _ v279 hv279) (.cons (.preT (by simp [Cat.cells,XMonoidal.cells])) (.cons .val (.cons .val .nil))) ?_;replace ⟨a280,h⟩:=Q0 h;replace ⟨a281,h⟩:=Q0 h;replace ⟨a282,h⟩:=Q0 h;replace ⟨a283,h⟩:=Q0 h;replace ⟨a284,h⟩:=Q0 h;simp [at_L a278,at_I a280,at_L a281,at_I a282,at_L a283,at_I a284];(repeat with_reducible refine sdQ ?_);replace ⟨v285,hv285,h⟩:=bind_some h;refine Q2 (Q1c _ _ _ v285 hv285) (.cons (.preT (by simp [Cat.cells,XMonoidal.cells])) (.cons .val (.cons .val .nil))) ?_;simp [at_L a278,at_I a280,at_L a281,at_I a282,at_L a283,at_I a284];(repeat refine sdQ ?_);refine hK _ ?_;clear hK K;refine tn (Q4 (st':=⟨Yb m_ ((4,iV s146)::(6,iV (ix v150 s220))::(7,iV s256)::Ys m_ s146 v150 (YX s220 m_ s256 v260 [(53,iV s274),(95,.val (.bool ((ix (rx m_.arrows_ v277) v279) != v285)))])),[(0,rI v150),(1,rI v260)],2⟩) (wkQ9 [(0,0),(1,1)]) (Q7 rfl (fun g=>?_) fun g=>?_))
         ·have g286:¬ ((ix (rx m_.arrows_ v277) v279)=v285):=gQ;clear g;replace h:=if_l g286 h;refine Q1 (runQ hN fun K hK=>?_);simp;(repeat refine sdQ ?_);refine hK _ (tn (Q4 (st':=⟨Y04 [],[],0⟩) (wkQ9 []) (Qf (br (tr (lr (br (br (tr (lr (br (br (tr (lr (br (br (tr (lr (br (tr ?_))))))))))))))))))));clear hK K;cases h;have q:_=e274:=hk274;have h:=h274;rw [← q] at h;clear q;(try dsimp only at h);cases h;have h:=h258;(try dsimp only at h);cases h;have q:_=e256:=hk256;have h:=h256;rw [← q] at h;clear q;(try dsimp only at h);cases h;have h:=h222;(try dsimp only at h);cases h;have q:_=e220:=hk220;have h:=h220;rw [← q] at h;clear q;(try dsimp only at h);cases h;have h:=h148;(try dsimp only at h);cases h;have q:_=e1:=hk146;have h:=h1;rw [← q] at h;clear q;(try dsimp only at h);have hr:=Option.some.inj h;rw [← hr];refine ⟨_,(.tmp .nil),?_⟩;refine ⟨(.one rfl rfl .nil),[.val (.bool false)],[],by simp [Cat.cells,XMonoidal.cells,UA,U1,IA,I1,LA,L1,BA,B1,EA,E1,E2,eB,eI,eL,Qd _ Q6 _ (fun _=>rfl)],by simp,(UpL.refl _)⟩
         have g286:¬ (¬ ((ix (rx m_.arrows_ v277) v279)=v285)):=gQ;clear g;replace h:=if_r g286 h;refine Q8 (bn (tn (runQ hN fun K hK=>?_)));replace ⟨a287,h⟩:=Q0 h;simp [Qk a287];(repeat refine sdQ ?_);refine hK _ ?_;clear hK K;cases h;exact rn (s':=s274+1) hk274 (wkQ9 [(0,0),(1,1)])
        have g275:¬ (s274<(v260.length:Int)):=gQ;clear g;replace h:=if_r g275 h;refine Qg (tx (lx (bh (bn ?_))));cases h;have q:_=e274:=hk274;have h:=h274;rw [← q] at h;clear q;(try dsimp only at h);exact jn (b:=()) (Option.some.inj h) (wkQ9 [(0,0)])
       intro b258 hb258;have h:=h258;(try rw [← hb258] at h);clear h258;(try dsimp only at h);refine runQ hN fun K hK=>?_;replace ⟨a288,h⟩:=Q0 h;simp [Qk a288];(repeat refine sdQ ?_);refine hK _ ?_;clear hK K;cases h;exact rn (s':=s256+1) hk256 (wkQ9 [(0,0)])
      have g257:¬ (s256<(m_.on_.fr.length:Int)):=gQ;clear g;replace h:=if_r g257 h;refine Qg (tx (lx (bh (bn ?_))));cases h;have q:_=e256:=hk256;have h:=h256;rw [← q] at h;clear q;(try dsimp only at h);exact jn (b:=()) (Option.some.inj h) (wkQ9 [(0,0)])
     intro b222 hb222;have h:=h222;(try rw [← hb222] at h);clear h222;(try dsimp only at h);refine runQ hN fun K hK=>?_;replace ⟨a289,h⟩:=Q0 h;simp [Qk a289];(repeat refine sdQ ?_);refine hK _ ?_;clear hK K;cases h;exact rn (s':=s220+1) hk220 (wkQ9 [(0,0)])
    have g221:¬ (s220<(v150.length:Int)):=gQ;clear g;replace h:=if_r g221 h;refine Qg (tx (lx (bh (bn ?_))));cases h;have q:_=e220:=hk220;have h:=h220;rw [← q] at h;clear q;(try dsimp only at h);exact jn (b:=()) (Option.some.inj h) (wkQ9 [])
   intro b148 hb148;have h:=h148;(try rw [← hb148] at h);clear h148;(try dsimp only at h);refine runQ hN fun K hK=>?_;replace ⟨a290,h⟩:=Q0 h;simp [Qk a290];(repeat refine sdQ ?_);refine hK _ ?_;clear hK K;cases h;exact rn (s':=s146+1) hk146 (wkQ9 [])
  have g147:¬ (s146<(m_.on_.fr.length:Int)):=gQ;clear g;replace h:=if_r g147 h;refine Qg (tx (lx (bh ?_)));cases h;exact jn (b:=()) hk146 (wkQ9 [])
 intro b1 hb1;have h:=h1;try rw [← hb1] at h
 clear h1;try dsimp only at h
 refine Q1 (runQ hN fun K hK=>?_);simp;repeat refine sdQ ?_
 refine hK _ (tn (Q4 (st':=⟨[(2,.val (.bool true))],[],0⟩) (wkQ9 []) (Qf ?_)));clear hK K;have hr:=Option.some.inj h;rw [← hr];refine ⟨_,(.tmp .nil),?_⟩;refine ⟨(.one rfl rfl .nil),[.val (.bool true)],[],by simp [Cat.cells,XMonoidal.cells,UA,U1,IA,I1,LA,L1,BA,B1,EA,E1,E2,eB,eI,eL,Qd _ Q6 _ (fun _=>rfl)],by simp,(UpL.refl _)⟩
attribute [local simp] unk unA unE unT unC flat eL eI Qs Q1L eP_Ends Q6 Cat.cells Ends.cells XMonoidal.cells
noncomputable def QI (m_:XMonoidal):Option Bool :=
 (
  (QU m_.on_).bind fun v2 =>
  if ¬ (v2=true) then
   some true
  else
   ass (B64 (m_.on_.n - 1)) <|
   (Q2U m_.unit_ 0 (m_.on_.n - 1)).bind fun v5 =>
   if ¬ (v5=true) then
    some true
   else
    (Q1U m_.objects_ m_.on_.n).bind fun v7 =>
    if ¬ (v7=true) then
     some true
    else
     (Q1d m_.on_).bind fun v9 =>
     (Q1U m_.arrows_ v9).bind fun v10 =>
     some (!v10):Option (Bool)).bind fun b1 =>
 if b1=true then
  some false
 else
  (Qt (σ:=Int) (ε:=Unit ⊕ Bool) (fun s58 =>
   if s58<(m_.arrows_.length:Int) then
    (
     ass (0≤s58∧s58<(m_.arrows_.length:Int)) <|
     (Qt (σ:=Int) (ε:=Bool ⊕ Unit) (fun s82 =>
      if s82<((rx m_.arrows_ s58).length:Int) then
       ass (0≤s82∧s82<((rx m_.arrows_ s58).length:Int)) <|
       (Q1p m_.on_ (ix (rx m_.arrows_ s58) s82)).bind fun v85 =>
       ass (0≤s58∧s58<(m_.on_.fr.length:Int)) <|
       ass (0≤ix m_.on_.fr s58∧ix m_.on_.fr s58<(m_.objects_.length:Int)) <|
       ass (0≤s82∧s82<(m_.on_.fr.length:Int)) <|
       ass (0≤ix m_.on_.fr s82∧ix m_.on_.fr s82<((rx m_.objects_ (ix m_.on_.fr s58)).length:Int)) <|
       ass (0≤s58∧s58<(m_.on_.to.length:Int)) <|
       ass (0≤ix m_.on_.to s58∧ix m_.on_.to s58<(m_.objects_.length:Int)) <|
       ass (0≤s82∧s82<(m_.on_.to.length:Int)) <|
       ass (0≤ix m_.on_.to s82∧ix m_.on_.to s82<((rx m_.objects_ (ix m_.on_.to s58)).length:Int)) <|
       if ¬ (v85.a=ix (rx m_.objects_ (ix m_.on_.fr s58)) (ix m_.on_.fr s82)∧v85.b=ix (rx m_.objects_ (ix m_.on_.to s58)) (ix m_.on_.to s82)) then
        some (Ctl.ret (Sum.inl false))
       else
        (
         (QE m_.on_ s58).bind fun v96 =>
         if v96=true then
          (QE m_.on_ s82).bind fun v98 =>
          if v98=true then
           (QE m_.on_ (ix (rx m_.arrows_ s58) s82)).bind fun v100 =>
           some (!v100)
          else
           some false
         else
          some false:Option (Bool)).bind fun b95 =>
        if b95=true then
         some (Ctl.ret (Sum.inl false))
        else
         ass (B64 (s82+1)) <|
         some (Ctl.next (s82+1))
      else
       some (Ctl.ret (Sum.inr ()))) fuel 0).bind fun e82 =>
     match e82 with
     | .inl p82 =>
      some (Sum.inr p82)
     | .inr p82 =>
      some (Sum.inl p82):Option (Unit ⊕ Bool)).bind fun e60 =>
    match e60 with
    | .inl b60 =>
     ass (B64 (s58+1)) <|
     some (Ctl.next (s58+1))
    | .inr p60 =>
     some (Ctl.ret (Sum.inr p60))
   else
    some (Ctl.ret (Sum.inl ()))) fuel 0).bind fun e12 =>
  match e12 with
  | .inl b12 =>
   (
    (QV m_.objects_ m_.unit_).bind fun v105 =>
    if v105=true then
     ass (0≤m_.unit_∧m_.unit_<(m_.on_.id.length:Int)) <|
     (QV m_.arrows_ (ix m_.on_.id m_.unit_)).bind fun v108 =>
     if v108=true then
      (QH m_).bind fun v110 =>
      some v110
     else
      some false
    else
     some false:Option (Bool)).bind fun b104 =>
   some b104
  | .inr p12 =>
   some p12
@[simp] abbrev Yw (a:XMonoidal) (b:Int) (c:List (Nat × AV)):List (Nat × AV):=(52,.lst true 1 (Ls a.arrows_))::(53,iV (a.arrows_.length:Int))::(54,iV b)::(59,lI (rx a.arrows_ b))::(60,iV ((rx a.arrows_ b).length:Int))::c
@[simp] abbrev YY (a:XMonoidal) (b:List (Nat × AV)):List (Nat × AV):=(52,.lst true 1 (Ls a.arrows_))::(53,iV (a.arrows_.length:Int))::b
theorem Q30 (m_:XMonoidal) (r:Bool) (h:QI m_=some r):Contract Try.prog 41 [.rptr (m_.cells true)] (.val (.bool r)):=by
 refine Qh (rvs:=[.tmp 2]) (rs:=[.val (.bool r)]) Try.func41 rfl rfl rfl rfl (by simp [Try.f41]) fun F hN hP=>?_;unfold QI at h;refine Q1 (runQ hN fun K hK=>?_);simp;repeat refine sdQ ?_
 refine hK _ ?_;clear hK K;refine tn (Q4 (st':=⟨[(0,.rptr (XMonoidal.cells true m_))],[],0⟩) (wkQ9 []) (Q1 (runQ hN fun K hK=>?_)));simp;repeat refine sdQ ?_
 refine hK _ (tn (Q4 (st':=⟨Yb m_ [],[],0⟩) (wkQ9 []) (Q1 (Q1 ?_))));clear hK K;replace ⟨e1,h,h1⟩:=bind_some h;refine Qe (fun b1:Bool=>⟨Yb m_ [(48,.val (.bool b1))],[],0⟩) (fun b1=>b1=e1) ?_ ?_
 ·refine runQ hN fun K hK=>?_;simp;repeat with_reducible refine sdQ ?_
  replace ⟨v2,hv2,h⟩:=bind_some h;refine Q2 (Q2Z _ v2 hv2) (.cons (.preT (by simp [Cat.cells,XMonoidal.cells])) .nil) ?_;simp;repeat with_reducible refine sdQ ?_
  refine Qo (fun g=>?_) (fun g=>?_)
  ·have g3:¬ (¬ (v2=true)):=gQ;clear g;replace h:=if_r g3 h;replace ⟨a4,h⟩:=Q0 h;simp [Qk a4];(repeat with_reducible refine sdQ ?_);replace ⟨v5,hv5,h⟩:=bind_some h;refine Q2 (Q7p _ _ _ v5 hv5) (.cons .val (.cons .val (.cons .val .nil))) ?_;simp;(repeat with_reducible refine sdQ ?_);refine Qo (fun g=>?_) (fun g=>?_)
   ·have g6:¬ (¬ (v5=true)):=gQ;clear g;replace h:=if_r g6 h;simp;(repeat with_reducible refine sdQ ?_);replace ⟨v7,hv7,h⟩:=bind_some h;refine Q2 (Q4W _ _ v7 hv7) (.cons .lst (.cons .val .nil)) ?_;simp;(repeat with_reducible refine sdQ ?_);refine Qo (fun g=>?_) (fun g=>?_)
    ·have g8:¬ (¬ (v7=true)):=gQ;clear g;replace h:=if_r g8 h;simp;(repeat with_reducible refine sdQ ?_);replace ⟨v9,hv9,h⟩:=bind_some h;refine Q2 (Q3y _ v9 hv9) (.cons (.preT (by simp [Cat.cells,XMonoidal.cells])) .nil) ?_;simp;(repeat with_reducible refine sdQ ?_);replace ⟨v10,hv10,h⟩:=bind_some h;refine Q2 (Q4W _ _ v10 hv10) (.cons .lst (.cons .val .nil)) ?_;simp;(repeat refine sdQ ?_);refine hK _ ?_;exact jn (b:=!v10) (Option.some.inj h) (wkQ9 [])
    have g8:¬ (v7=true):=gQ;clear g;replace h:=if_l g8 h;simp;(repeat refine sdQ ?_);refine hK _ ?_;exact jn (b:=true) (Option.some.inj h) (wkQ9 [])
   have g6:¬ (v5=true):=gQ;clear g;replace h:=if_l g6 h;simp;(repeat refine sdQ ?_);refine hK _ ?_;exact jn (b:=true) (Option.some.inj h) (wkQ9 [])
  have g3:¬ (v2=true):=gQ;clear g;replace h:=if_l g3 h;simp;repeat refine sdQ ?_
  refine hK _ ?_;exact jn (b:=true) (Option.some.inj h) (wkQ9 [])
 intro b1 hb1;have h:=h1;try rw [← hb1] at h
 clear h1;try dsimp only at h
 refine Q7 rfl (fun g=>?_) fun g=>?_
 ·have g11:b1=true:=gQ;clear g;replace h:=if_l g11 h;refine Q1 (runQ hN fun K hK=>?_);simp;repeat refine sdQ ?_
  refine hK _ (tn (Q4 (st':=⟨Y04 [],[],0⟩) (wkQ9 []) (Qf (tr ?_))));clear hK K;have hr:=Option.some.inj h;rw [← hr];refine ⟨_,(.tmp .nil),?_⟩;refine ⟨(.one rfl rfl .nil),[.val (.bool false)],[],by simp [Cat.cells,Ends.cells,XMonoidal.cells,UA,U1,IA,I1,LA,L1,BA,B1,EA,E1,E2,eB,eI,eL,Qd _ Q6 _ (fun _=>rfl)],by simp,(UpL.refl _)⟩
 have g11:¬ (b1=true):=gQ;clear g;replace h:=if_r g11 h;refine Q8 (tn (Q1 (Q1 (runQ hN fun K hK=>?_))));simp;repeat refine sdQ ?_
 refine hK _ (tn (Q4 (st':=⟨Yb m_ (YY m_ [(54,iV 0)]),[],0⟩) (wkQ9 []) ?_));clear hK K;replace ⟨e12,h,h12⟩:=bind_some h;refine Qe (fun b12:Unit=>⟨Yb m_ [],[],0⟩) (fun b12=>Sum.inl b12=e12) ?_ ?_
 ·refine Q5 (Qn h (fun s58:Int=>⟨Yb m_ (YY m_ [(54,iV s58)]),[],0⟩) (wkQ9 []) ?_);clear h;intro k58 s58 c58 h hk58;refine Q1 (runQ hN fun K hK=>?_);simp;repeat refine sdQ ?_
  refine hK _ ?_;clear hK K;refine tn (Q1 (Q7 rfl (fun g=>?_) fun g=>?_))
  ·have g59:s58<(m_.arrows_.length:Int):=gQ;clear g;replace h:=if_l g59 h;refine Q8 (tn (Q1 ?_));replace ⟨e60,h,h60⟩:=bind_some h;refine Qe (fun b60:Unit=>⟨Yb m_ (YY m_ [(54,iV s58)]),[],0⟩) (fun b60=>Sum.inl b60=e60) ?_ ?_
   ·refine Q5 (Q1 (runQ hN fun K hK=>?_));replace ⟨a61,h⟩:=Q0 h;simp [at_L a61];(repeat refine sdQ ?_);refine hK _ ?_;clear hK K;refine tn (Q4 (st':=⟨Yb m_ ((4,iV s58)::(5,lI (rx m_.arrows_ s58))::YY m_ [(54,iV s58)]),[],0⟩) (wkQ9 []) (Q1 (runQ hN fun K hK=>?_)));simp;(repeat refine sdQ ?_);refine hK _ (tn (Q4 (st':=⟨Yb m_ ((4,iV s58)::Yw m_ s58 [(61,iV 0)]),[],0⟩) (wkQ9 []) (Q5 ?_)));clear hK K;replace ⟨e82,he82,h82⟩:=bind_some h;refine Qn he82 (fun s82:Int=>⟨Yb m_ ((4,iV s58)::Yw m_ s58 [(61,iV s82)]),[],0⟩) (wkQ9 []) ?_;intro k82 s82 c82 h hk82;refine Q1 (runQ hN fun K hK=>?_);simp;(repeat refine sdQ ?_);refine hK _ ?_;clear hK K;refine tn (Q1 (Q7 rfl (fun g=>?_) fun g=>?_))
    ·have g83:s82<((rx m_.arrows_ s58).length:Int):=gQ;clear g;replace h:=if_l g83 h;refine Q8 (tn (Q1 (Q5 (Q1 (runQ hN fun K hK=>?_)))));replace ⟨a84,h⟩:=Q0 h;simp [at_I a84];(repeat refine sdQ ?_);refine hK _ ?_;clear hK K;refine tn (Q4 (st':=⟨Yb m_ ((4,iV s58)::(6,iV s82)::(7,iV (ix (rx m_.arrows_ s58) s82))::Yw m_ s58 [(61,iV s82)]),[],0⟩) (wkQ9 []) (Q1 (Q1 (runQ hN fun K hK=>?_))));simp;(repeat with_reducible refine sdQ ?_);replace ⟨v85,hv85,h⟩:=bind_some h;refine Q2 (Q4b _ _ v85 hv85) (.cons (.preT (by simp [Cat.cells,Ends.cells,XMonoidal.cells])) (.cons .val .nil)) ?_;replace ⟨a86,h⟩:=Q0 h;replace ⟨a87,h⟩:=Q0 h;replace ⟨a88,h⟩:=Q0 h;replace ⟨a89,h⟩:=Q0 h;replace ⟨a90,h⟩:=Q0 h;replace ⟨a91,h⟩:=Q0 h;replace ⟨a92,h⟩:=Q0 h;replace ⟨a93,h⟩:=Q0 h;simp [at_I a86,at_L a87,at_I a88,at_I a89,at_I a90,at_L a91,at_I a92,at_I a93];(repeat refine sdQ ?_);refine hK _ ?_;clear hK K;refine tn (Q4 (st':=⟨Yb m_ ((4,iV s58)::(6,iV s82)::(7,iV (ix (rx m_.arrows_ s58) s82))::Yw m_ s58 [(61,iV s82),(114,.val (.bool (!([v85.a,v85.b] == [ix (rx m_.objects_ (ix m_.on_.fr s58)) (ix m_.on_.fr s82),ix (rx m_.objects_ (ix m_.on_.to s58)) (ix m_.on_.to s82)]))))]),[],0⟩) (wkQ9 []) (Q7 rfl (fun g=>?_) fun g=>?_))
     ·have g94:¬ (v85.a=ix (rx m_.objects_ (ix m_.on_.fr s58)) (ix m_.on_.fr s82)∧v85.b=ix (rx m_.objects_ (ix m_.on_.to s58)) (ix m_.on_.to s82)):=gQ;clear g;replace h:=if_l g94 h;refine Q1 (runQ hN fun K hK=>?_);simp;(repeat refine sdQ ?_);refine hK _ (tn (Q4 (st':=⟨Y04 [],[],0⟩) (wkQ9 []) (Qf (tr (br (tr (lr (br (br (tr (lr (br (tr ?_)))))))))))));clear hK K;cases h;have q:_=e82:=hk82;have h:=h82;rw [← q] at h;clear q;(try dsimp only at h);cases h;have h:=h60;(try dsimp only at h);cases h;have q:_=e12:=hk58;have h:=h12;rw [← q] at h;clear q;(try dsimp only at h);have hr:=Option.some.inj h;rw [← hr];refine ⟨_,(.tmp .nil),?_⟩;refine ⟨(.one rfl rfl .nil),[.val (.bool false)],[],by simp [Cat.cells,Ends.cells,XMonoidal.cells,UA,U1,IA,I1,LA,L1,BA,B1,EA,E1,E2,eB,eI,eL,Qd _ Q6 _ (fun _=>rfl)],by simp,(UpL.refl _)⟩
     have g94:¬ (¬ (v85.a=ix (rx m_.objects_ (ix m_.on_.fr s58)) (ix m_.on_.fr s82)∧v85.b=ix (rx m_.objects_ (ix m_.on_.to s58)) (ix m_.on_.to s82))):=gQ;clear g;replace h:=if_r g94 h;refine Q8 (tn (Q1 ?_));replace ⟨e95,h,h95⟩:=bind_some h;refine Qe (fun b95:Bool=>⟨Yb m_ ((4,iV s58)::Yw m_ s58 [(61,iV s82),(128,.val (.bool b95))]),[],0⟩) (fun b95=>b95=e95) ?_ ?_
     ·refine runQ hN fun K hK=>?_;simp;(repeat with_reducible refine sdQ ?_);replace ⟨v96,hv96,h⟩:=bind_some h;refine Q2 (Q1e _ _ v96 hv96) (.cons (.preT (by simp [Cat.cells,Ends.cells,XMonoidal.cells])) (.cons .val .nil)) ?_;simp;(repeat with_reducible refine sdQ ?_);refine Qo (fun g=>?_) (fun g=>?_)
      ·have g97:v96=true:=gQ;clear g;replace h:=if_l g97 h;simp;(repeat with_reducible refine sdQ ?_);replace ⟨v98,hv98,h⟩:=bind_some h;refine Q2 (Q1e _ _ v98 hv98) (.cons (.preT (by simp [Cat.cells,Ends.cells,XMonoidal.cells])) (.cons .val .nil)) ?_;simp;(repeat with_reducible refine sdQ ?_);refine Qo (fun g=>?_) (fun g=>?_)
       ·have g99:v98=true:=gQ;clear g;replace h:=if_l g99 h;simp;(repeat with_reducible refine sdQ ?_);replace ⟨v100,hv100,h⟩:=bind_some h;refine Q2 (Q1e _ _ v100 hv100) (.cons (.preT (by simp [Cat.cells,Ends.cells,XMonoidal.cells])) (.cons .val .nil)) ?_;simp;(repeat refine sdQ ?_);refine hK _ ?_;exact jn (b:=!v100) (Option.some.inj h) (wkQ9 [])
       have g99:¬ (v98=true):=gQ;clear g;replace h:=if_r g99 h;simp;(repeat refine sdQ ?_);refine hK _ ?_;exact jn (b:=false) (Option.some.inj h) (wkQ9 [])
      have g97:¬ (v96=true):=gQ;clear g;replace h:=if_r g97 h;simp;(repeat refine sdQ ?_);refine hK _ ?_;exact jn (b:=false) (Option.some.inj h) (wkQ9 [])
     intro b95 hb95;have h:=h95;(try rw [← hb95] at h);clear h95;(try dsimp only at h);refine Q7 rfl (fun g=>?_) fun g=>?_
     ·have g101:b95=true:=gQ;clear g;replace h:=if_l g101 h;refine Q1 (runQ hN fun K hK=>?_);simp;(repeat refine sdQ ?_);refine hK _ (tn (Q4 (st':=⟨Y04 [],[],0⟩) (wkQ9 []) (Qf (br (tr (lr (br (br (tr (lr (br (tr ?_))))))))))));clear hK K;cases h;have q:_=e82:=hk82;have h:=h82;rw [← q] at h;clear q;(try dsimp only at h);cases h;have h:=h60;(try dsimp only at h);cases h;have q:_=e12:=hk58;have h:=h12;rw [← q] at h;clear q;(try dsimp only at h);have hr:=Option.some.inj h;rw [← hr];refine ⟨_,(.tmp .nil),?_⟩;refine ⟨(.one rfl rfl .nil),[.val (.bool false)],[],by simp [Cat.cells,Ends.cells,XMonoidal.cells,UA,U1,IA,I1,LA,L1,BA,B1,EA,E1,E2,eB,eI,eL,Qd _ Q6 _ (fun _=>rfl)],by simp,(UpL.refl _)⟩
     have g101:¬ (b95=true):=gQ;clear g;replace h:=if_r g101 h;refine Q8 (bn (tn (runQ hN fun K hK=>?_)));replace ⟨a102,h⟩:=Q0 h;simp [Qk a102];(repeat refine sdQ ?_);refine hK _ ?_;clear hK K;cases h;exact rn (s':=s82+1) hk82 (wkQ9 [])
    have g83:¬ (s82<((rx m_.arrows_ s58).length:Int)):=gQ;clear g;replace h:=if_r g83 h;refine Qg (tx (lx (bh (bn ?_))));cases h;have q:_=e82:=hk82;have h:=h82;rw [← q] at h;clear q;(try dsimp only at h);exact jn (b:=()) (Option.some.inj h) (wkQ9 [])
   intro b60 hb60;have h:=h60;(try rw [← hb60] at h);clear h60;(try dsimp only at h);refine runQ hN fun K hK=>?_;replace ⟨a103,h⟩:=Q0 h;simp [Qk a103];(repeat refine sdQ ?_);refine hK _ ?_;clear hK K;cases h;exact rn (s':=s58+1) hk58 (wkQ9 [])
  have g59:¬ (s58<(m_.arrows_.length:Int)):=gQ;clear g;replace h:=if_r g59 h;refine Qg (tx (lx (bh ?_)));cases h;exact jn (b:=()) hk58 (wkQ9 [])
 intro b12 hb12;have h:=h12;try rw [← hb12] at h
 clear h12;try dsimp only at h
 refine Q1 ?_;replace ⟨e104,h,h104⟩:=bind_some h;refine Qe (fun b104:Bool=>⟨[(2,.val (.bool b104))],[],0⟩) (fun b104=>b104=e104) ?_ ?_
 ·refine runQ hN fun K hK=>?_;simp;repeat with_reducible refine sdQ ?_
  replace ⟨v105,hv105,h⟩:=bind_some h;refine Q2 (Q2J _ _ v105 hv105) (.cons .lst (.cons .val .nil)) ?_;simp;repeat with_reducible refine sdQ ?_
  refine Qo (fun g=>?_) (fun g=>?_)
  ·have g106:v105=true:=gQ;clear g;replace h:=if_l g106 h;replace ⟨a107,h⟩:=Q0 h;simp [at_I a107];(repeat with_reducible refine sdQ ?_);replace ⟨v108,hv108,h⟩:=bind_some h;refine Q2 (Q2J _ _ v108 hv108) (.cons .lst (.cons .val .nil)) ?_;simp [at_I a107];(repeat with_reducible refine sdQ ?_);refine Qo (fun g=>?_) (fun g=>?_)
   ·have g109:v108=true:=gQ;clear g;replace h:=if_l g109 h;simp [at_I a107];(repeat with_reducible refine sdQ ?_);replace ⟨v110,hv110,h⟩:=bind_some h;refine Q2 (Q2z _ v110 hv110) (.cons (.preT (by simp [Cat.cells,Ends.cells,XMonoidal.cells])) .nil) ?_;simp [at_I a107];(repeat refine sdQ ?_);refine hK _ ?_;exact jn (b:=v110) (Option.some.inj h) (wkQ9 [])
   have g109:¬ (v108=true):=gQ;clear g;replace h:=if_r g109 h;simp [at_I a107];(repeat refine sdQ ?_);refine hK _ ?_;exact jn (b:=false) (Option.some.inj h) (wkQ9 [])
  have g106:¬ (v105=true):=gQ;clear g;replace h:=if_r g106 h;simp;repeat refine sdQ ?_
  refine hK _ ?_;exact jn (b:=false) (Option.some.inj h) (wkQ9 [])
 intro b104 hb104;have h:=h104;try rw [← hb104] at h
 clear h104;try dsimp only at h
 refine Qf ?_;have hr:=Option.some.inj h;rw [← hr];refine ⟨_,(.tmp .nil),?_⟩;refine ⟨(.one rfl rfl .nil),[.val (.bool b104)],[],by simp [Cat.cells,Ends.cells,XMonoidal.cells,UA,U1,IA,I1,LA,L1,BA,B1,EA,E1,E2,eB,eI,eL,Qd _ Q6 _ (fun _=>rfl)],by simp,(UpL.refl _)⟩
section
attribute [local simp] Qa Qy Qq QK Qu
noncomputable def outL (c:Cat) (x:Int):List Int:=flt c.fr.length fun a=>ix c.fr a=x
theorem e_outOf {c:Cat} (h:c.Is) (x:Int):QQ c x=some (outL c x):=by
 have k2:=h.1.m40;unfold QQ;refine QC c.fr.length (fun i=>flt i fun a=>ix c.fr a=x) (e:=outL c x) rfl (by omega) (fun i hi=>?_) (by simp [outL]) rfl;have hl:=Q4H i fun a=>ix c.fr a=x
 by_cases h1:ix c.fr i=x
 ·rw [Q41 (p:=fun a:Nat=>ix c.fr a=x) h1];simp (disch:=omega) [Q3,B64,h1];try omega
 rw [Q40 (p:=fun a:Nat=>ix c.fr a=x) h1];simp (disch:=omega) [Q3,B64,h1];try omega
theorem Q81 (c:Cat) (x:Int):(outL c x).length≤c.fr.length:=Q4H _ _
theorem Q5P {c:Cat} {x:Int} {i:Nat} (hi:i<(outL c x).length):∃ k:Nat,k<c.fr.length∧ix c.fr k=x∧ix (outL c x) i=(k:Int):=ix_flt hi
theorem outL_in {c:Cat} {x:Int} {k:Nat} (hk:k<c.fr.length) (e:ix c.fr k=x):∃ i:Nat,i<(outL c x).length∧ix (outL c x) i=(k:Int):=by
 have:(k:Int)∈outL c x:=mem_flt.2 ⟨k,hk,e,rfl⟩;obtain ⟨i,hi,q⟩:=List.getElem_of_mem this;exact ⟨i,hi,by rw [← QL _ _ hi];exact q⟩
def XMonoidal.Iw (m:XMonoidal):Prop:=∀ f:Nat,f<m.on_.fr.length→∀ i:Nat,i<(outL m.on_ (ix m.on_.to f)).length→∀ g:Nat,g<m.on_.fr.length→∀ j:Nat,j<(outL m.on_ (ix m.on_.to g)).length→m.Ie f (ix (outL m.on_ (ix m.on_.to f)) i) g (ix (outL m.on_ (ix m.on_.to g)) j)
theorem XMonoidal.iw {m:XMonoidal}:m.Iw↔m.Iq:=by
 constructor
 ·intro h f hf k1 hk1 g hg k hk e1 e2;obtain ⟨i,hi,q1⟩:=outL_in hk1 e1.symm;obtain ⟨j,hj,q2⟩:=outL_in hk e2.symm;have:=h f hf i hi g hg j hj
  rwa [q1,q2] at this
 intro h f hf i hi g hg j hj;obtain ⟨k1,h1,e1,q1⟩:=Q5P hi;obtain ⟨k2,h2,e2,q2⟩:=Q5P hj;rw [q1,q2];exact h f hf k1 h1 g hg k2 h2 e1.symm e2.symm
theorem e_inter {m:XMonoidal} (h:m.Pre):QH m=some (bo m.Iq):=by
 have n:=h.c.nums;rw [← bo_iff2 XMonoidal.iw];unfold QH;refine chkI m.on_.fr.length (fun f=>∀ i:Nat,i<(outL m.on_ (ix m.on_.to f)).length→∀ g:Nat,g<m.on_.fr.length→∀ j:Nat,j<(outL m.on_ (ix m.on_.to g)).length→m.Ie f (ix (outL m.on_ (ix m.on_.to f)) i) g (ix (outL m.on_ (ix m.on_.to g)) j)) (Sum.inr false) (Sum.inl ()) (by omega) (fun f hf=>?_) (by rw [if_neg (by omega)]) ?_
 ·rw [if_pos (by omega),Q3 (by omega),e_outOf h.c];simp only [Option.bind_some];rw [Option.bind_assoc];have l1:=Q81 m.on_ (ix m.on_.to f);refine chkI (outL m.on_ (ix m.on_.to f)).length (fun i=>∀ g:Nat,g<m.on_.fr.length→∀ j:Nat,j<(outL m.on_ (ix m.on_.to g)).length→m.Ie f (ix (outL m.on_ (ix m.on_.to f)) i) g (ix (outL m.on_ (ix m.on_.to g)) j)) (Sum.inl false) (Sum.inr ()) (by omega) (fun i hi=>?_) (by rw [if_neg (by omega)]) ?_
  ·obtain ⟨k1,hk1,e1,q1⟩:=Q5P hi;rw [if_pos (by omega),Q3 (by omega),Option.bind_assoc];refine chkI m.on_.fr.length (fun g=>∀ j:Nat,j<(outL m.on_ (ix m.on_.to g)).length→m.Ie f (ix (outL m.on_ (ix m.on_.to f)) i) g (ix (outL m.on_ (ix m.on_.to g)) j)) (Sum.inl false) (Sum.inr ()) (by omega) (fun g hg=>?_) (by rw [if_neg (by omega)]) ?_
   ·have l2:=Q81 m.on_ (ix m.on_.to g);rw [if_pos (by omega),Q3 (by omega),e_outOf h.c];simp only [Option.bind_some];rw [Option.bind_assoc];refine chkI (outL m.on_ (ix m.on_.to g)).length (fun j=>m.Ie f (ix (outL m.on_ (ix m.on_.to f)) i) g (ix (outL m.on_ (ix m.on_.to g)) j)) (Sum.inl false) (Sum.inr ()) (by omega) (fun j hj=>?_) (by rw [if_neg (by omega)]) ?_
    ·obtain ⟨k2,hk2,e2,q2⟩:=Q5P hj;rw [q1,q2];have d1:=h.c.two (f:=f) (g:=k1) (by omega) (by omega) e1.symm;have d2:=h.c.two (f:=g) (g:=k2) (by omega) (by omega) e2.symm;have a1:=h.ar (f:=ix (rx m.on_.cs f) k1) (g:=ix (rx m.on_.cs g) k2) (by omega) (by omega);have a2:=h.ar (f:=f) (g:=g) (by omega) (by omega);have a3:=h.ar (f:=k1) (g:=k2) (by omega) (by omega);rw [if_pos (by omega),Q3 (by omega),(Q4E h.c (by omega) (by omega)).2];simp only [Option.bind_some];rw [Q3 (by omega),(Q4E h.c (by omega) (by omega)).2];simp only [Option.bind_some];rw [Q3 (by omega),Q3 (by omega),Q3 (by omega),Q3 (by omega),Q3 (by omega),(Q4E h.c (by omega) (by omega)).2];simp only [Option.bind_some]
     by_cases q:m.Ie f k1 g k2
     ·rw [Qm q,if_neg (Q1O q),Q3 (by unfold B64;omega)];rfl
     rw [Qj q,if_pos q];rfl
    by_cases q:∀ j:Nat,j<(outL m.on_ (ix m.on_.to g)).length→m.Ie f (ix (outL m.on_ (ix m.on_.to f)) i) g (ix (outL m.on_ (ix m.on_.to g)) j)
    ·rw [Qm q];simp only [if_true,Option.bind_some];rw [Q3 (by unfold B64;omega)]
    rw [Qj q];rfl
   by_cases q:∀ g:Nat,g<m.on_.fr.length→∀ j:Nat,j<(outL m.on_ (ix m.on_.to g)).length→m.Ie f (ix (outL m.on_ (ix m.on_.to f)) i) g (ix (outL m.on_ (ix m.on_.to g)) j)
   ·rw [Qm q];simp only [if_true,Option.bind_some];rw [Q3 (by unfold B64;omega)]
   rw [Qj q];rfl
  by_cases q:∀ i:Nat,i<(outL m.on_ (ix m.on_.to f)).length→∀ g:Nat,g<m.on_.fr.length→∀ j:Nat,j<(outL m.on_ (ix m.on_.to g)).length→m.Ie f (ix (outL m.on_ (ix m.on_.to f)) i) g (ix (outL m.on_ (ix m.on_.to g)) j)
  ·rw [Qm q];simp only [if_true,Option.bind_some];rw [Q3 (by unfold B64;omega)]
  rw [Qj q];rfl
 by_cases q:m.Iw
 ·rw [Qm (show ∀ f:Nat,f<m.on_.fr.length→∀ i:Nat,i<(outL m.on_ (ix m.on_.to f)).length→∀ g:Nat,g<m.on_.fr.length→∀ j:Nat,j<(outL m.on_ (ix m.on_.to g)).length→m.Ie f (ix (outL m.on_ (ix m.on_.to f)) i) g (ix (outL m.on_ (ix m.on_.to g)) j) from q),Qm q];rfl
 rw [Qj (show ¬ ∀ f:Nat,f<m.on_.fr.length→∀ i:Nat,i<(outL m.on_ (ix m.on_.to f)).length→∀ g:Nat,g<m.on_.fr.length→∀ j:Nat,j<(outL m.on_ (ix m.on_.to g)).length→m.Ie f (ix (outL m.on_ (ix m.on_.to f)) i) g (ix (outL m.on_ (ix m.on_.to g)) j) from q),Qj q];rfl
abbrev XMonoidal.Id (m:XMonoidal) (f:Int):Prop:=ix m.on_.id (ix m.on_.fr f)=f
def XMonoidal.Ek (m:XMonoidal) (f g:Nat):Prop:=(m.E1 f g∧m.E2 f g)∧(m.Id f→m.Id g→m.Id (ix (rx m.arrows_ f) g))
def XMonoidal.Eq2 (m:XMonoidal):Prop:=∀ f:Nat,f<m.arrows_.length→∀ g:Nat,g<(rx m.arrows_ f).length→m.Ek f g
theorem XMonoidal.eq2 {m:XMonoidal} (h:m.Pre):m.Eq2↔m.Ed∧m.Uq:=by
 have n:=h.c.nums;have la:=h.a.1;have lr:∀ f:Nat,f<m.on_.fr.length→(rx m.arrows_ f).length=m.on_.fr.length:=fun f hf=>by have:=(h.a.2 f (by omega)).1;omega
 constructor
 ·intro q;refine ⟨fun f hf g hg=>(q f (by omega) g (by rw [lr f hf];exact hg)).1,fun x hx y hy=>?_⟩;have i1:=h.c.idn (x:=x) (by omega);have i2:=h.c.idn (x:=y) (by omega);obtain ⟨a,ea⟩:=Int.eq_ofNat_of_zero_le i1.1;obtain ⟨b,eb⟩:=Int.eq_ofNat_of_zero_le i2.1;have s1:=h.c.1.ids x hx;have s2:=h.c.1.ids y hy;rw [ea] at s1;rw [eb] at s2;have k:=q a (by omega) b (by rw [lr a (by omega)];omega);have j:=k.2 (by unfold XMonoidal.Id;rw [s1.1];exact ea) (by unfold XMonoidal.Id;rw [s2.1];exact eb);have e1:=k.1.1;unfold XMonoidal.Id at j;unfold XMonoidal.E1 at e1;rw [e1,s1.1,s2.1] at j;unfold XMonoidal.Un;rw [ea,eb];exact j.symm
 rintro ⟨q1,q2⟩ f hf g hg
 have hf':f<m.on_.fr.length:=by omega
 have hg':g<m.on_.fr.length:=by rw [lr f hf'] at hg;exact hg
 have e:=q1 f hf' g hg';refine ⟨e,fun i1 i2=>?_⟩;have e1:=h.c.ends (a:=f) (by omega);have e2:=h.c.ends (a:=g) (by omega);obtain ⟨x,ex⟩:=Int.eq_ofNat_of_zero_le e1.1.1;obtain ⟨y,ey⟩:=Int.eq_ofNat_of_zero_le e2.1.1;have u:=q2 x (by omega) y (by omega);unfold XMonoidal.Id at i1 i2 ⊢;unfold XMonoidal.Un at u;rw [← ex,← ey,i1,i2] at u;rw [e.1,← u]
theorem Q39 {m:XMonoidal}:QI m=some (bo m.Is):=by
 unfold QI QU Q2U Q1d
 by_cases h1:m.on_.Is
 case neg=>rw [Qj h1,Qj (show ¬ m.Is from fun q=>h1 q.pre.c)];rfl
 have n:=h1.nums;rw [Qm h1];simp only [Option.bind_some,not_true_eq_false,if_false];rw [Q3 (by unfold B64;omega)]
 by_cases h2:0≤m.unit_∧m.unit_<m.on_.n
 case neg =>
  rw [Qj (show ¬ m.Is from fun q=>h2 q.pre.u)];have:(decide (0≤m.unit_) && decide (m.unit_≤m.on_.n - 1))=false:=by simp;omega
  rw [this];rfl
 have e2:(decide (0≤m.unit_) && decide (m.unit_≤m.on_.n - 1))=true:=by simp;omega
 rw [e2,Q6a (by omega),Q6a (by omega)];simp only [Option.bind_some,not_true_eq_false,if_false]
 by_cases h3:Tbl m.objects_ m.on_.n
 case neg=>rw [Qj h3,Qj (show ¬ m.Is from fun q=>h3 q.pre.o)];simp
 by_cases h4:Tbl m.arrows_ (m.on_.fr.length:Int)
 case neg=>rw [Qj h4,Qj (show ¬ m.Is from fun q=>h4 q.pre.a)];simp
 have h:m.Pre:=⟨h1,h2,h3,h4⟩;have iu:=h1.idn h2;have la:=h.a.1;rw [Qm h3,Qm h4];simp only [Option.bind_some,not_true_eq_false,if_false,Bool.not_true,Bool.false_eq_true];refine chkI m.arrows_.length (fun f=>∀ g:Nat,g<(rx m.arrows_ f).length→m.Ek f g) (Sum.inr false) (Sum.inl ()) (by omega) (fun f hf=>?_) (by rw [if_neg (by omega)]) ?_
 ·have lr:=(h.a.2 f hf).1;rw [if_pos (by omega),Q3 (by omega),Option.bind_assoc];refine chkI (rx m.arrows_ f).length (fun g=>m.Ek f g) (Sum.inl false) (Sum.inr ()) (by omega) (fun g hg=>?_) (by rw [if_neg (by omega)]) ?_
  ·have a1:=h.ar (f:=f) (g:=g) (by omega) (by omega);have e1:=h.c.ends (a:=f) (by omega);have e2:=h.c.ends (a:=g) (by omega);have e3:=h.c.ends (a:=ix (rx m.arrows_ f) g) (by omega);have o1:=h.ob e1.1 e2.1;have o2:=h.ob e1.2 e2.2;unfold Q1p QE;rw [if_pos (by omega),Q3 (by omega),Q3 (by omega)];simp only [Option.bind_some];rw [Q3 (by omega),Q3 (by omega),Q3 (by omega),Q3 (by omega),Q3 (by omega),Q3 (by omega),Q3 (by omega),Q3 (by omega)]
   by_cases q1:m.E1 f g∧m.E2 f g
   case neg=>rw [if_pos q1,Qj (show ¬ m.Ek f g from fun z=>q1 z.1)];rfl
   rw [if_neg (Q1O q1),Q3 (by omega),Q3 (by omega)];simp only [Option.bind_some]
   by_cases k1:m.Id f
   case neg =>
    rw [Qm (show m.Ek f g from ⟨q1,fun z=>absurd z k1⟩),if_neg (show ¬ (ix m.on_.id (ix m.on_.fr f) == (f:Int))=true by simpa [XMonoidal.Id] using k1)];simp only [Option.bind_some,Bool.false_eq_true,if_false,if_true];rw [Q3 (by unfold B64;omega)]
   rw [if_pos (show (ix m.on_.id (ix m.on_.fr f) == (f:Int))=true by simpa [XMonoidal.Id] using k1),Q3 (by omega),Q3 (by omega)];simp only [Option.bind_some]
   by_cases k2:m.Id g
   case neg =>
    rw [Qm (show m.Ek f g from ⟨q1,fun _ z=>absurd z k2⟩),if_neg (show ¬ (ix m.on_.id (ix m.on_.fr g) == (g:Int))=true by simpa [XMonoidal.Id] using k2)];simp only [Option.bind_some,Bool.false_eq_true,if_false,if_true];rw [Q3 (by unfold B64;omega)]
   rw [if_pos (show (ix m.on_.id (ix m.on_.fr g) == (g:Int))=true by simpa [XMonoidal.Id] using k2),Q3 (by omega),Q3 (by omega)];simp only [Option.bind_some]
   by_cases k3:m.Id (ix (rx m.arrows_ f) g)
   ·rw [Qm (show m.Ek f g from ⟨q1,fun _ _=>k3⟩),if_neg (by simpa [XMonoidal.Id] using k3),Q3 (by unfold B64;omega)];rfl
   rw [Qj (show ¬ m.Ek f g from fun z=>k3 (z.2 k1 k2)),if_pos (by simpa [XMonoidal.Id] using k3)];rfl
  by_cases q:∀ g:Nat,g<(rx m.arrows_ f).length→m.Ek f g
  ·rw [Qm q];simp only [if_true,Option.bind_some];rw [Q3 (by unfold B64;omega)]
  rw [Qj q];rfl
 by_cases q0:m.Eq2
 case neg=>rw [Qj (show ¬ ∀ f:Nat,f<m.arrows_.length→∀ g:Nat,g<(rx m.arrows_ f).length→m.Ek f g from q0),Qj (show ¬ m.Is from fun q=>q0 ((XMonoidal.eq2 h).2 ⟨q.ed,q.un⟩))];rfl
 rw [Qm (show ∀ f:Nat,f<m.arrows_.length→∀ g:Nat,g<(rx m.arrows_ f).length→m.Ek f g from q0)];obtain ⟨q1,q4⟩:=(XMonoidal.eq2 h).1 q0;simp only [if_true];rw [Q69 h3 h2 (by omega)]
 by_cases q2:Aso m.objects_ m.unit_
 case neg=>rw [Qj q2,Qj (show ¬ m.Is from fun q=>q2 q.ao)];simp
 rw [Qm q2,Q3 (by omega),Q69 h4 iu (by omega)]
 by_cases q3:Aso m.arrows_ (ix m.on_.id m.unit_)
 case neg=>rw [Qj q3,Qj (show ¬ m.Is from fun q=>q3 q.aa)];simp
 rw [Qm q3,e_inter h]
 by_cases q5:m.Iq
 ·rw [Qm q5,Qm (show m.Is from ⟨h,q1,q2,q3,q4,q5⟩)];rfl
 rw [Qj q5,Qj (show ¬ m.Is from fun z=>q5 z.ic)];rfl
end
attribute [local simp] unk unA unE unT unC flat eL eI Qs
noncomputable def QO (p_:List Int):Option Int :=
 (Qt (σ:=Int × Int) (ε:=Int) (fun s6 =>
  if s6.2<(p_.length:Int) then
   ass (0≤s6.2∧s6.2<(p_.length:Int)) <|
   ass (B64 ((ix p_ s6.2)+1)) <|
   ass (B64 (s6.2+1)) <|
   some (Ctl.next ((if (ix p_ s6.2)+1 > s6.1 then (ix p_ s6.2)+1 else s6.1),s6.2+1))
  else
   some (Ctl.ret s6.1)) fuel (0,0)).bind fun b1 =>
 some b1
theorem Q3i (p_:List Int) (r:Int) (h:QO p_=some r):Contract Try.prog 46 [lI p_] (iV r):=by
 refine Qh (rvs:=[.tmp 2]) (rs:=[iV r]) Try.func46 rfl rfl rfl rfl (by simp [Try.f46]) fun F hN hP=>?_;unfold QO at h;refine Q1 (runQ hN fun K hK=>?_);simp;repeat refine sdQ ?_
 refine hK _ ?_;clear hK K;refine tn (Q4 (st':=⟨[(0,lI p_)],[],0⟩) (wkQ9 []) (Q1 (runQ hN fun K hK=>?_)));simp;repeat refine sdQ ?_
 refine hK _ ?_;clear hK K;refine tn (Q4 (st':=⟨[(0,lI p_),(3,iV 0)],[],0⟩) (wkQ9 []) (Q1 (Q1 (runQ hN fun K hK=>?_))));simp;repeat refine sdQ ?_
 refine hK _ (tn (Q4 (st':=⟨[(3,iV 0),(6,lI p_),(7,iV (p_.length:Int)),(8,iV 0)],[],0⟩) (wkQ9 []) ?_));clear hK K;replace ⟨e1,h,h1⟩:=bind_some h;refine Qe (fun b1:Int=>⟨[(3,iV b1)],[],0⟩) (fun b1=>b1=e1) ?_ ?_
 ·refine Q5 (Qn h (fun s6:Int × Int=>⟨[(3,iV s6.1),(6,lI p_),(7,iV (p_.length:Int)),(8,iV s6.2)],[],0⟩) (wkQ9 []) ?_);clear h;intro k6 s6 c6 h hk6;refine Q1 (runQ hN fun K hK=>?_);simp;repeat refine sdQ ?_
  refine hK _ ?_;clear hK K;refine tn (Q1 (Q7 rfl (fun g=>?_) fun g=>?_))
  ·have g7:s6.2<(p_.length:Int):=gQ;clear g;replace h:=if_l g7 h;refine Q8 (tn (Q1 (Q5 (Q1 (runQ hN fun K hK=>?_)))));replace ⟨a8,h⟩:=Q0 h;simp [at_I a8];(repeat refine sdQ ?_);refine hK _ ?_;clear hK K;refine tn (Q4 (st':=⟨[(3,iV s6.1),(5,iV (ix p_ s6.2)),(6,lI p_),(7,iV (p_.length:Int)),(8,iV s6.2)],[],0⟩) (wkQ9 []) (runQ hN fun K hK=>?_));replace ⟨a9,h⟩:=Q0 h;simp [Qk a9];(repeat refine sdQ ?_);refine hK _ ?_;clear hK K;refine bn (tn (Q4 (st':=⟨[(3,iV (if (ix p_ s6.2)+1 > s6.1 then (ix p_ s6.2)+1 else s6.1)),(6,lI p_),(7,iV (p_.length:Int)),(8,iV s6.2)],[],0⟩) (wkQ9 []) (runQ hN fun K hK=>?_)));replace ⟨a10,h⟩:=Q0 h;simp [Qk a10];(repeat refine sdQ ?_);refine hK _ ?_;clear hK K;cases h;exact rn (s':=((if (ix p_ s6.2)+1 > s6.1 then (ix p_ s6.2)+1 else s6.1),s6.2+1)) hk6 (wkQ9 [])
  have g7:¬ (s6.2<(p_.length:Int)):=gQ;clear g;replace h:=if_r g7 h;refine Qg (tx (lx (bh ?_)));cases h;exact jn (b:=s6.1) hk6 (wkQ9 [])
 intro b1 hb1;have h:=h1;try rw [← hb1] at h
 clear h1;try dsimp only at h
 refine Q1 (runQ hN fun K hK=>?_);simp;repeat refine sdQ ?_
 refine hK _ (tn (Q4 (st':=⟨[(2,iV b1)],[],0⟩) (wkQ9 []) (Qf ?_)));clear hK K;have hr:=Option.some.inj h;rw [← hr];refine ⟨_,(.tmp .nil),?_⟩;refine ⟨(.one rfl rfl .nil),[iV b1],[],by simp [UA,U1,IA,I1,LA,L1,BA,B1,EA,E1,E2,eB,eI,eL],by simp,(UpL.refl _)⟩
attribute [local simp] unk unA unE unT unC flat eL eI Qs
noncomputable def Q1W (p_:List Int):Option Int :=
 (Qt (σ:=Int × Int) (ε:=Int) (fun s6 =>
  if s6.2<(p_.length:Int) then
   ass (0≤s6.2∧s6.2<(p_.length:Int)) <|
   ass (B64 ((ix p_ s6.2)+1)) <|
   ass (B64 (s6.2+1)) <|
   some (Ctl.next ((if (ix p_ s6.2)+1 > s6.1 then (ix p_ s6.2)+1 else s6.1),s6.2+1))
  else
   some (Ctl.ret s6.1)) fuel (0,0)).bind fun b1 =>
 some b1
theorem Q5B (p_:List Int) (r:Int) (h:Q1W p_=some r):Contract Try.prog 36 [lI p_] (iV r):=by
 refine Qh (rvs:=[.tmp 2]) (rs:=[iV r]) Try.func36 rfl rfl rfl rfl (by simp [Try.f36]) fun F hN hP=>?_;unfold Q1W at h;refine Q1 (runQ hN fun K hK=>?_);simp;repeat refine sdQ ?_
 refine hK _ ?_;clear hK K;refine tn (Q4 (st':=⟨[(0,lI p_)],[],0⟩) (wkQ9 []) (Q1 (runQ hN fun K hK=>?_)));simp;repeat refine sdQ ?_
 refine hK _ ?_;clear hK K;refine tn (Q4 (st':=⟨[(0,lI p_),(3,iV 0)],[],0⟩) (wkQ9 []) (Q1 (Q1 (runQ hN fun K hK=>?_))));simp;repeat refine sdQ ?_
 refine hK _ (tn (Q4 (st':=⟨[(0,lI p_),(3,iV 0),(4,iV 0)],[],0⟩) (wkQ9 []) ?_));clear hK K;replace ⟨e1,h,h1⟩:=bind_some h;refine Qe (fun b1:Int=>⟨[(3,iV b1)],[],0⟩) (fun b1=>b1=e1) ?_ ?_
 ·refine Q5 (Qn h (fun s6:Int × Int=>⟨[(0,lI p_),(3,iV s6.1),(4,iV s6.2)],[],0⟩) (wkQ9 []) ?_);clear h;intro k6 s6 c6 h hk6;refine Q1 (Q1 (runQ hN fun K hK=>?_));simp;repeat refine sdQ ?_
  refine hK _ ?_;clear hK K;refine tn (Q7 rfl (fun g=>?_) fun g=>?_)
  ·have g7:s6.2<(p_.length:Int):=gQ;clear g;replace h:=if_l g7 h;refine Q8 (tn (Q1 (Q5 (runQ hN fun K hK=>?_))));replace ⟨a8,h⟩:=Q0 h;replace ⟨a9,h⟩:=Q0 h;simp [at_I a8,Qk a9];(repeat refine sdQ ?_);refine hK _ ?_;clear hK K;refine bn (tn (Q4 (st':=⟨[(0,lI p_),(3,iV (if (ix p_ s6.2)+1 > s6.1 then (ix p_ s6.2)+1 else s6.1)),(4,iV s6.2)],[],0⟩) (wkQ9 []) (runQ hN fun K hK=>?_)));replace ⟨a10,h⟩:=Q0 h;simp [Qk a10];(repeat refine sdQ ?_);refine hK _ ?_;clear hK K;cases h;exact rn (s':=((if (ix p_ s6.2)+1 > s6.1 then (ix p_ s6.2)+1 else s6.1),s6.2+1)) hk6 (wkQ9 [])
  have g7:¬ (s6.2<(p_.length:Int)):=gQ;clear g;replace h:=if_r g7 h;refine Qg (tx (lx (bh ?_)));cases h;exact jn (b:=s6.1) hk6 (wkQ9 [])
 intro b1 hb1;have h:=h1;try rw [← hb1] at h
 clear h1;try dsimp only at h
 refine Q1 (runQ hN fun K hK=>?_);simp;repeat refine sdQ ?_
 refine hK _ (tn (Q4 (st':=⟨[(2,iV b1)],[],0⟩) (wkQ9 []) (Qf ?_)));clear hK K;have hr:=Option.some.inj h;rw [← hr];refine ⟨_,(.tmp .nil),?_⟩;refine ⟨(.one rfl rfl .nil),[iV b1],[],by simp [UA,U1,IA,I1,LA,L1,BA,B1,EA,E1,E2,eB,eI,eL],by simp,(UpL.refl _)⟩
section
attribute [local simp] Qa Qy Qq QK Qu
theorem e_top {L:List Int} {m:Int} (hl:L.length≤1000000) (hb:∀ i:Nat,i<L.length→0≤ix L i∧ix L i≤1000000):Q1W L=some (top L L.length):=by
 unfold Q1W;refine QC L.length (fun i=>top L i) (e:=top L L.length) rfl (by omega) (fun i hi=>?_) (by simp only;rw [if_neg (by omega)]) rfl;have:=hb i hi;have e:(if ix L i+1 > top L i then ix L i+1 else top L i)=top L (i+1):=by
  simp only [top];split<;>omega
 simp only;rw [if_pos (by omega),Q3 (by omega),Q3 (by unfold B64;omega),Q3 (by unfold B64;omega),e]
theorem e_parts {L:List Int} (hl:L.length≤1000000) (hb:∀ i:Nat,i<L.length→0≤ix L i∧ix L i≤1000000):QO L=some (top L L.length):=by
 have:=e_top (m:=0) hl hb;exact this
theorem cls_at {r:Nat→Nat} {n i:Nat} (h:i<n):ix (cls r n) i=(cn r (r i):Int):=Q4g n _ h
end
section
attribute [local simp] Qa Qy Qq QK Qu
theorem Cat.Is.Ai {c:Cat} (h:c.Is) {x:Int} (hx:0≤x∧x<c.n):Ar c (ix c.id x) x x:=by
 have h1:=h.1.li;obtain ⟨i,rfl⟩:=Int.eq_ofNat_of_zero_le hx.1;have h2:=h.1.ids i (by omega);exact ⟨h.1.id' (by omega) (by omega),h2.1,h2.2⟩
end
section
attribute [local simp] Qa Qy Qq QK Qu
theorem Cat.Is.assoc {c:Cat} (hc:c.Is) {f g h w x y z:Int} (a:Ar c f w x) (b:Ar c g x y) (d:Ar c h y z):ix (rx c.cs (ix (rx c.cs f) g)) h=ix (rx c.cs f) (ix (rx c.cs g) h):=by
 obtain ⟨i,rfl⟩:=Int.eq_ofNat_of_zero_le a.1.1;obtain ⟨j,rfl⟩:=Int.eq_ofNat_of_zero_le b.1.1;obtain ⟨k,rfl⟩:=Int.eq_ofNat_of_zero_le d.1.1;have:=hc.2.2 i (by have:=a.1;omega) j (by have:=b.1;omega) k (by have:=d.1;omega);exact this (by rw [a.2.2,b.2.1]) (by rw [b.2.2,d.2.1])
theorem Cat.Is.idl {c:Cat} (hc:c.Is) {f x y:Int} (a:Ar c f x y):ix (rx c.cs (ix c.id x)) f=f∧ix (rx c.cs f) (ix c.id y)=f:=by
 obtain ⟨i,rfl⟩:=Int.eq_ofNat_of_zero_le a.1.1;have:=hc.2.1 i (by have:=a.1;omega);unfold Cat.un at this;rw [a.2.1,a.2.2] at this;exact this
end
attribute [local simp] unk unA unE unT unC flat eL eI Qs Q1L Q8g Q6 Cat.cells SF.cells XMonoidal.cells
noncomputable def Q1u (m_:XMonoidal) (f_:SF) (g_:SF) (z_:Int):Option (List (List Int)) :=
 (Qt (σ:=List (List Int) × Int) (ε:=List (List Int)) (fun s156 =>
  if s156.2<m_.on_.n then
   (
    (Qt (σ:=List (List Int) × Int) (ε:=List (List Int)) (fun s234 =>
     if s234.2<m_.on_.n then
      (
       ass (0≤s156.2∧s156.2<(m_.objects_.length:Int)) <|
       ass (0≤s234.2∧s234.2<((rx m_.objects_ s156.2).length:Int)) <|
       (Q2k m_.on_ (ix (rx m_.objects_ s156.2) s234.2) z_).bind fun v239 =>
       (Qt (σ:=List (List Int) × Int) (ε:=List (List Int)) (fun s274 =>
        if s274.2<(v239.length:Int) then
         (
          (Qt (σ:=List (List Int) × Int) (ε:=List (List Int)) (fun s292 =>
           ass (0≤s156.2∧s156.2<(f_.sz.length:Int)) <|
           if s292.2<(ix f_.sz s156.2) then
            (
             (Qt (σ:=List (List Int) × Int) (ε:=List (List Int)) (fun s301 =>
              ass (0≤s234.2∧s234.2<(g_.sz.length:Int)) <|
              if s301.2<(ix g_.sz s234.2) then
               ass (0≤s274.2∧s274.2<(v239.length:Int)) <|
               ass ((s301.1++[[s156.2,s234.2,ix v239 s274.2,s292.2,s301.2]]).length≤1073741824) <|
               ass (B64 (s301.2+1)) <|
               some (Ctl.next (s301.1++[[s156.2,s234.2,ix v239 s274.2,s292.2,s301.2]],s301.2+1))
              else
               some (Ctl.ret s301.1)) fuel (s292.1,0)).bind fun p301 =>
             some p301:Option (List (List Int))).bind fun b295 =>
            ass (B64 (s292.2+1)) <|
            some (Ctl.next (b295,s292.2+1))
           else
            some (Ctl.ret s292.1)) fuel (s274.1,0)).bind fun p292 =>
          some p292:Option (List (List Int))).bind fun b276 =>
         ass (B64 (s274.2+1)) <|
         some (Ctl.next (b276,s274.2+1))
        else
         some (Ctl.ret s274.1)) fuel (s234.1,0)).bind fun p274 =>
       some p274:Option (List (List Int))).bind fun b236 =>
      ass (B64 (s234.2+1)) <|
      some (Ctl.next (b236,s234.2+1))
     else
      some (Ctl.ret s234.1)) fuel (s156.1,0)).bind fun p234 =>
    some p234:Option (List (List Int))).bind fun b158 =>
   ass (B64 (s156.2+1)) <|
   some (Ctl.next (b158,s156.2+1))
  else
   some (Ctl.ret s156.1)) fuel ([],0)).bind fun b1 =>
 some b1
@[simp] abbrev Y2 (a:XMonoidal) (b c:SF) (d:List (Nat × Ent)):List (Nat × Ent):=(0,.mix 8 [(XMonoidal.cells true a)])::(1,.mix 7 [(SF.cells true b)])::(2,.mix 7 [(SF.cells true c)])::d
@[simp] abbrev Yo (a:Int) (b:List (Nat × AV)):List (Nat × AV):=(3,iV a)::(4,.adr 0 0 0)::(5,.adr 1 0 0)::(6,.adr 2 0 0)::b
@[simp] abbrev YS (a b:List (List Int) × Int) (c:List Int) (d:List (Nat × AV)):List (Nat × AV):=(10,iV a.2)::(11,iV b.2)::(12,.own 4 0 c.length)::d
@[simp] abbrev Y0e (a:XMonoidal) (b c:SF) (d:List (AV)):List (AV):=.agg (a.cells true)::.agg (b.cells true)::.agg (c.cells true)::d
theorem Q5f (m_:XMonoidal) (f_:SF) (g_:SF) (z_:Int) (r:List (List Int)) (h:Q1u m_ f_ g_ z_=some r):Contract Try.prog 34 (Y0e m_ f_ g_ [iV z_]) (.lst true 1 (Ls r)):=by
 refine Qh (rvs:=[.tmp 8]) (rs:=[.lst true 1 (Ls r)]) Try.func34 rfl rfl rfl rfl (by simp [Try.f34]) fun F hN hP=>?_;unfold Q1u at h;refine Q1 (runQ hN fun K hK=>?_);simp;repeat refine sdQ ?_
 refine hK _ ?_;clear hK K;refine tn (Q4 (st':=⟨Yo z_ [],Y2 m_ f_ g_ [],3⟩) (wkI9 3) (Q1 (runQ hN fun K hK=>?_)));simp;repeat refine sdQ ?_
 refine hK _ ?_;clear hK K;refine tn (Q4 (st':=⟨Yo z_ [(9,.own 3 0 0)],Y2 m_ f_ g_ [(3,.mix 1 [])],4⟩) (wkI9 4) (Q1 (Q1 (runQ hN fun K hK=>?_))));simp;repeat refine sdQ ?_
 refine hK _ (tn (Q4 (st':=⟨Yo z_ [(9,.own 3 0 0),(10,iV 0)],Y2 m_ f_ g_ [(3,.mix 1 [])],4⟩) (wkI9 4) ?_));clear hK K;replace ⟨e1,h,h1⟩:=bind_some h;refine Qe (fun b1:List (List Int)=>⟨[(9,.own 0 0 b1.length)],[(0,.row 1 (Ls b1))],1⟩) (fun b1=>b1=e1) ?_ ?_
 ·refine Q5 (Qn h (fun s156:List (List Int) × Int=>⟨Yo z_ [(9,.own 3 0 s156.1.length),(10,iV s156.2)],Y2 m_ f_ g_ [(3,.row 1 (Ls s156.1))],4⟩) (Q4c ⟨Yo z_ [(9,.own 3 0 0),(10,iV 0)],Y2 m_ f_ g_ [(3,.row 1 (Ls []))],4⟩ (Wk.nils [] (by simp) (by simp) (by simp [nlA]) (by simp [entN,nlL,nlA,Cat.cells,SF.cells,XMonoidal.cells,UA,U1,IA,I1,LA,L1,BA,B1,EA,E1,E2,eB,eI,eL,Qd _ Q6 _ (fun _=>rfl)]) (by simp)) (wkI9 4)) ?_);clear h;intro k156 s156 c156 h hk156;refine Q1 (Q1 (runQ hN fun K hK=>?_));simp;repeat refine sdQ ?_
  refine hK _ ?_;clear hK K;refine tn (Q7 rfl (fun g=>?_) fun g=>?_)
  ·have g157:s156.2<m_.on_.n:=gQ;clear g;replace h:=if_l g157 h;refine Q8 (tn (Q1 ?_));replace ⟨e158,h,h158⟩:=bind_some h;refine Qe (fun b158:List (List Int)=>⟨Yo z_ [(9,.own 3 0 b158.length),(10,iV s156.2)],Y2 m_ f_ g_ [(3,.row 1 (Ls b158))],4⟩) (fun b158=>b158=e158) ?_ ?_
   ·refine Q5 (Q1 (runQ hN fun K hK=>?_));simp;(repeat refine sdQ ?_);refine hK _ (tn (Q4 (st':=⟨Yo z_ [(9,.own 3 0 s156.1.length),(10,iV s156.2),(11,iV 0)],Y2 m_ f_ g_ [(3,.row 1 (Ls s156.1))],4⟩) (wkI9 4) (Q5 ?_)));clear hK K;replace ⟨e234,he234,h234⟩:=bind_some h;refine Qn he234 (fun s234:List (List Int) × Int=>⟨Yo z_ [(9,.own 3 0 s234.1.length),(10,iV s156.2),(11,iV s234.2)],Y2 m_ f_ g_ [(3,.row 1 (Ls s234.1))],4⟩) (wkI9 4) ?_;intro k234 s234 c234 h hk234;refine Q1 (Q1 (runQ hN fun K hK=>?_));simp;(repeat refine sdQ ?_);refine hK _ ?_;clear hK K;refine tn (Q7 rfl (fun g=>?_) fun g=>?_)
    ·have g235:s234.2<m_.on_.n:=gQ;clear g;replace h:=if_l g235 h;refine Q8 (tn (Q1 ?_));replace ⟨e236,h,h236⟩:=bind_some h;refine Qe (fun b236:List (List Int)=>⟨Yo z_ [(9,.own 3 0 b236.length),(10,iV s156.2),(11,iV s234.2)],Y2 m_ f_ g_ [(3,.row 1 (Ls b236))],4⟩) (fun b236=>b236=e236) ?_ ?_
     ·refine Q5 (Q1 (runQ hN fun K hK=>?_));replace ⟨a237,h⟩:=Q0 h;replace ⟨a238,h⟩:=Q0 h;simp [at_L a237,at_I a238];(repeat with_reducible refine sdQ ?_);replace ⟨v239,hv239,h⟩:=bind_some h;refine Q2 (Q5A _ _ _ v239 hv239) (.cons (.aggL (.cons .val (.cons .lst (.cons .lst (.cons .lst (.cons .lst .nil)))))) (.cons .val (.cons .val .nil))) ?_;simp [at_L a237,at_I a238];(repeat refine sdQ ?_);refine hK _ ?_;clear hK K;refine tn (Q4 (st':=⟨Yo z_ ((9,.own 3 0 s234.1.length)::YS s156 s234 v239 []),Y2 m_ f_ g_ [(3,.row 1 (Ls s234.1)),(4,rI v239)],5⟩) (wkI9 5) (Q1 (runQ hN fun K hK=>?_)));simp;(repeat refine sdQ ?_);refine hK _ (tn (Q4 (st':=⟨Yo z_ ((9,.own 3 0 s234.1.length)::YS s156 s234 v239 [(13,iV 0)]),Y2 m_ f_ g_ [(3,.row 1 (Ls s234.1)),(4,rI v239)],5⟩) (wkI9 5) (Q5 ?_)));clear hK K;replace ⟨e274,he274,h274⟩:=bind_some h;refine Qn he274 (fun s274:List (List Int) × Int=>⟨Yo z_ ((9,.own 3 0 s274.1.length)::YS s156 s234 v239 [(13,iV s274.2)]),Y2 m_ f_ g_ [(3,.row 1 (Ls s274.1)),(4,rI v239)],5⟩) (wkI9 5) ?_;intro k274 s274 c274 h hk274;refine Q1 (Q1 (runQ hN fun K hK=>?_));simp;(repeat refine sdQ ?_);refine hK _ ?_;clear hK K;refine tn (Q7 rfl (fun g=>?_) fun g=>?_)
      ·have g275:s274.2<(v239.length:Int):=gQ;clear g;replace h:=if_l g275 h;refine Q8 (tn (Q1 ?_));replace ⟨e276,h,h276⟩:=bind_some h;refine Qe (fun b276:List (List Int)=>⟨Yo z_ ((9,.own 3 0 b276.length)::YS s156 s234 v239 [(13,iV s274.2)]),Y2 m_ f_ g_ [(3,.row 1 (Ls b276)),(4,rI v239)],5⟩) (fun b276=>b276=e276) ?_ ?_
       ·refine Q5 (Q1 (runQ hN fun K hK=>?_));simp;(repeat refine sdQ ?_);refine hK _ (tn (Q4 (st':=⟨Yo z_ ((9,.own 3 0 s274.1.length)::YS s156 s234 v239 [(13,iV s274.2),(14,iV 0)]),Y2 m_ f_ g_ [(3,.row 1 (Ls s274.1)),(4,rI v239)],5⟩) (wkI9 5) (Q5 ?_)));clear hK K;replace ⟨e292,he292,h292⟩:=bind_some h;refine Qn he292 (fun s292:List (List Int) × Int=>⟨Yo z_ ((9,.own 3 0 s292.1.length)::YS s156 s234 v239 [(13,iV s274.2),(14,iV s292.2)]),Y2 m_ f_ g_ [(3,.row 1 (Ls s292.1)),(4,rI v239)],5⟩) (wkI9 5) ?_;intro k292 s292 c292 h hk292;refine Q1 (Q1 (runQ hN fun K hK=>?_));replace ⟨a293,h⟩:=Q0 h;simp [at_I a293];(repeat refine sdQ ?_);refine hK _ ?_;clear hK K;refine tn (Q7 rfl (fun g=>?_) fun g=>?_)
        ·have g294:s292.2<(ix f_.sz s156.2):=gQ;clear g;replace h:=if_l g294 h;refine Q8 (tn (Q1 ?_));replace ⟨e295,h,h295⟩:=bind_some h;refine Qe (fun b295:List (List Int)=>⟨Yo z_ ((9,.own 3 0 b295.length)::YS s156 s234 v239 [(13,iV s274.2),(14,iV s292.2)]),Y2 m_ f_ g_ [(3,.row 1 (Ls b295)),(4,rI v239)],5⟩) (fun b295=>b295=e295) ?_ ?_
         ·refine Q5 (Q1 (runQ hN fun K hK=>?_));simp;(repeat refine sdQ ?_);refine hK _ (tn (Q4 (st':=⟨Yo z_ ((9,.own 3 0 s292.1.length)::YS s156 s234 v239 [(13,iV s274.2),(14,iV s292.2),(15,iV 0)]),Y2 m_ f_ g_ [(3,.row 1 (Ls s292.1)),(4,rI v239)],5⟩) (wkI9 5) (Q5 ?_)));clear hK K;replace ⟨e301,he301,h301⟩:=bind_some h;refine Qn he301 (fun s301:List (List Int) × Int=>⟨Yo z_ ((9,.own 3 0 s301.1.length)::YS s156 s234 v239 [(13,iV s274.2),(14,iV s292.2),(15,iV s301.2)]),Y2 m_ f_ g_ [(3,.row 1 (Ls s301.1)),(4,rI v239)],5⟩) (wkI9 5) ?_;intro k301 s301 c301 h hk301;refine Q1 (Q1 (runQ hN fun K hK=>?_));replace ⟨a302,h⟩:=Q0 h;simp [at_I a302];(repeat refine sdQ ?_);refine hK _ ?_;clear hK K;refine tn (Q7 rfl (fun g=>?_) fun g=>?_)
          ·have g303:s301.2<(ix g_.sz s234.2):=gQ;clear g;replace h:=if_l g303 h;refine Q8 (tn (Q1 (Q5 (runQ hN fun K hK=>?_))));replace ⟨a304,h⟩:=Q0 h;replace ⟨a305,h⟩:=Q0 h;(try simp only [List.length_append,List.length_cons,List.length_nil] at a305);simp [at_I a304,a305];(repeat refine sdQ ?_);refine hK _ ?_;clear hK K;refine bn (tn (Q4 (st':=⟨Yo z_ ((9,.own 3 0 ((s301.1++[[s156.2,s234.2,ix v239 s274.2,s292.2,s301.2]]).length))::YS s156 s234 v239 [(13,iV s274.2),(14,iV s292.2),(15,iV s301.2)]),Y2 m_ f_ g_ [(3,.row 1 (Ls (s301.1++[[s156.2,s234.2,ix v239 s274.2,s292.2,s301.2]]))),(4,rI v239)],5⟩) (wkQ9 [(0,0),(1,1),(2,2),(8,3),(4,4)]) (runQ hN fun K hK=>?_)));replace ⟨a306,h⟩:=Q0 h;simp [Qk a306];(repeat refine sdQ ?_);refine hK _ ?_;clear hK K;cases h;exact rn (s':=(s301.1++[[s156.2,s234.2,ix v239 s274.2,s292.2,s301.2]],s301.2+1)) hk301 (wkI9 5)
          have g303:¬ (s301.2<(ix g_.sz s234.2)):=gQ;clear g;replace h:=if_r g303 h;refine Qg (tx (lx (bh (bn ?_))));cases h;have q:_=e301:=hk301;have h:=h301;rw [← q] at h;clear q;(try dsimp only at h);exact jn (b:=s301.1) (Option.some.inj h) (wkI9 5)
         intro b295 hb295;have h:=h295;(try rw [← hb295] at h);clear h295;(try dsimp only at h);refine runQ hN fun K hK=>?_;replace ⟨a307,h⟩:=Q0 h;simp [Qk a307];(repeat refine sdQ ?_);refine hK _ ?_;clear hK K;cases h;exact rn (s':=(b295,s292.2+1)) hk292 (wkI9 5)
        have g294:¬ (s292.2<(ix f_.sz s156.2)):=gQ;clear g;replace h:=if_r g294 h;refine Qg (tx (lx (bh (bn ?_))));cases h;have q:_=e292:=hk292;have h:=h292;rw [← q] at h;clear q;(try dsimp only at h);exact jn (b:=s292.1) (Option.some.inj h) (wkI9 5)
       intro b276 hb276;have h:=h276;(try rw [← hb276] at h);clear h276;(try dsimp only at h);refine runQ hN fun K hK=>?_;replace ⟨a308,h⟩:=Q0 h;simp [Qk a308];(repeat refine sdQ ?_);refine hK _ ?_;clear hK K;cases h;exact rn (s':=(b276,s274.2+1)) hk274 (wkI9 5)
      have g275:¬ (s274.2<(v239.length:Int)):=gQ;clear g;replace h:=if_r g275 h;refine Qg (tx (lx (bh (bn ?_))));cases h;have q:_=e274:=hk274;have h:=h274;rw [← q] at h;clear q;(try dsimp only at h);exact jn (b:=s274.1) (Option.some.inj h) (wkI9 4)
     intro b236 hb236;have h:=h236;(try rw [← hb236] at h);clear h236;(try dsimp only at h);refine runQ hN fun K hK=>?_;replace ⟨a309,h⟩:=Q0 h;simp [Qk a309];(repeat refine sdQ ?_);refine hK _ ?_;clear hK K;cases h;exact rn (s':=(b236,s234.2+1)) hk234 (wkI9 4)
    have g235:¬ (s234.2<m_.on_.n):=gQ;clear g;replace h:=if_r g235 h;refine Qg (tx (lx (bh (bn ?_))));cases h;have q:_=e234:=hk234;have h:=h234;rw [← q] at h;clear q;(try dsimp only at h);exact jn (b:=s234.1) (Option.some.inj h) (wkI9 4)
   intro b158 hb158;have h:=h158;(try rw [← hb158] at h);clear h158;(try dsimp only at h);refine runQ hN fun K hK=>?_;replace ⟨a310,h⟩:=Q0 h;simp [Qk a310];(repeat refine sdQ ?_);refine hK _ ?_;clear hK K;cases h;exact rn (s':=(b158,s156.2+1)) hk156 (wkI9 4)
  have g157:¬ (s156.2<m_.on_.n):=gQ;clear g;replace h:=if_r g157 h;refine Qg (tx (lx (bh ?_)));cases h;exact jn (b:=s156.1) hk156 (wkQ9 [(3,0)])
 intro b1 hb1;have h:=h1;try rw [← hb1] at h
 clear h1;try dsimp only at h
 refine Q1 (runQ hN fun K hK=>?_);simp;repeat refine sdQ ?_
 refine hK _ (tn (Q4 (st':=⟨[(8,.own 0 0 b1.length)],[(0,.row 1 (Ls b1))],1⟩) (wkQ9 [(0,0)]) (Qf ?_)));clear hK K;have hr:=Option.some.inj h;rw [← hr];refine ⟨_,(.tmp .nil),?_⟩;refine ⟨(.one rfl rfl .nil),[.lst true 1 (Ls b1)],[0],by simp [Cat.cells,SF.cells,XMonoidal.cells,UA,U1,IA,I1,LA,L1,BA,B1,EA,E1,E2,eB,eI,eL,Qd _ Q6 _ (fun _=>rfl)],by simp,(UpL.refl _)⟩
section
attribute [local simp] Qa Qy Qq QK Qu
structure DP (m:XMonoidal) (f g:SF):Prop where
 hm:m.Is
 hf:f.Is
 hg:g.Is
 ef:f.s=m.on_
 eg:g.s=m.on_
def ctn {α:Type} (v:Nat→List α) (n:Nat):List α:=(List.range n).flatMap v
theorem Q1m {α:Type} (v:Nat→List α):ctn v 0=[]:=rfl
theorem QX {α:Type} (v:Nat→List α) (n:Nat):ctn v (n+1)=ctn v n++v n:=by simp [ctn,List.range_succ]
theorem Q2M {α:Type} {v:Nat→List α} {k:Nat}:∀ {n:Nat},(∀ i,i<n→(v i).length≤k)→(ctn v n).length≤n * k
 | 0,_=>by simp [ctn]
 | n+1,h=>by
  have i:=Q2M (v:=v) (k:=k) (n:=n) fun i hi=>h i (by omega);have q:=h n (by omega);rw [QX,List.length_append,Nat.succ_mul];omega
theorem mem_ctn {α:Type} {v:Nat→List α} {n:Nat} {a:α}:a∈ctn v n↔∃ i,i<n∧a∈v i:=by simp [ctn]
theorem Q4D {v:Nat→List (List Int)} {n:Nat} (h1:∀ i,i<n→(v i).Nodup) (h3:∀ i j,i ≠ j→∀ a∈v i,∀ b∈v j,a ≠ b):(ctn v n).Nodup:=Q77 (fun x hx=>h1 x (by simpa using hx)) List.nodup_range h3
theorem SF.Is.dfact {f:SF} (h:f.Is):(f.sz.length:Int)=f.s.n∧f.ac.length=f.s.fr.length∧f.s.n≤8∧f.s.fr.length≤40∧(f.s.id.length:Int)=f.s.n∧∀ x:Int,0≤x→x<(f.sz.length:Int)→0≤ix f.sz x∧ix f.sz x≤16:=by
 have h1:=h.1.cat.1;exact ⟨h.1.ls,h.1.la,h1.n8,h1.m40,h1.li,fun x h0 hx=>by have:=Q2A h.1.sz h0 hx;omega⟩
theorem SF.Is.dact {f:SF} (h:f.Is) {a x y e:Int} (ha:Ar f.s a x y) (he:0≤e∧e<ix f.sz x):(e<((rx f.ac a).length:Int))∧0≤ix (rx f.ac a) e∧ix (rx f.ac a) e<ix f.sz y:=by
 have h1:=h.1.len' ha.1.1 ha.1.2;rw [ha.2.1] at h1;have h2:=h.1.val' ha.1.1 ha.1.2 he.1 (by omega);rw [ha.2.2] at h2;exact ⟨by omega,h2⟩
theorem SF.Is.dactId {f:SF} (h:f.Is) {x e:Int} (hx:0≤x∧x<f.s.n) (he:0≤e∧e<ix f.sz x):ix (rx f.ac (ix f.s.id x)) e=e:=by
 have A:=h.1.cat.Ai hx;have q:=(h.dact A he).1;obtain ⟨l1,l2,l3,l4,l5,l6⟩:=h.dfact;obtain ⟨i,rfl⟩:=Int.eq_ofNat_of_zero_le hx.1;obtain ⟨k,rfl⟩:=Int.eq_ofNat_of_zero_le he.1;exact h.2.1 i (by omega) k (by unfold SF.lu;omega)
noncomputable def fzN (f:SF) (x:Nat):Nat:=(ix f.sz x).toNat
theorem fz_eq {f:SF} (h:f.Is) {x:Nat} (hx:(x:Int)<f.s.n):ix f.sz x=(fzN f x:Int)∧fzN f x≤16∧(x:Int)<(f.sz.length:Int):=by
 obtain ⟨l1,l2,l3,l4,l5,l6⟩:=h.dfact;have:=l6 x (by omega) (by omega);unfold fzN;omega
noncomputable def hmL (m:XMonoidal) (z:Int) (x y:Nat):List Int:=homL m.on_ (ix (rx m.objects_ x) y) z
def d5 (x y:Nat) (h:Int) (e d:Nat):List Int:=[(x:Int),(y:Int),h,(e:Int),(d:Int)]
noncomputable def dE (g:SF) (x y:Nat) (h:Int) (e:Nat):List (List Int):=tab (fzN g y) (d5 x y h e)
noncomputable def dH (f g:SF) (x y:Nat) (h:Int):List (List Int):=ctn (dE g x y h) (fzN f x)
noncomputable def dI (m:XMonoidal) (f g:SF) (z:Int) (x y i:Nat):List (List Int):=dH f g x y (ix (hmL m z x y) i)
noncomputable def dY (m:XMonoidal) (f g:SF) (z:Int) (x y:Nat):List (List Int):=ctn (dI m f g z x y) (hmL m z x y).length
noncomputable def dX (m:XMonoidal) (f g:SF) (z:Int) (x:Nat):List (List Int):=ctn (dY m f g z x) m.on_.id.length
noncomputable def dL (m:XMonoidal) (f g:SF) (z:Int):List (List Int):=ctn (dX m f g z) m.on_.id.length
section
variable {m:XMonoidal} {f g:SF} (h:DP m f g)
include h
theorem DP.c:m.on_.Is:=h.hm.pre.c
theorem DP.F {x:Nat} (hx:x<m.on_.id.length):ix f.sz x=(fzN f x:Int)∧fzN f x≤16∧(x:Int)<(f.sz.length:Int):=fz_eq h.hf (by have:=h.c.nums;rw [h.ef];omega)
theorem DP.G {x:Nat} (hx:x<m.on_.id.length):ix g.sz x=(fzN g x:Int)∧fzN g x≤16∧(x:Int)<(g.sz.length:Int):=fz_eq h.hg (by have:=h.c.nums;rw [h.eg];omega)
theorem DP.hl (z:Int) (x y:Nat):(hmL m z x y).length≤40:=by
 have:=homL_len m.on_ (ix (rx m.objects_ x) y) z;have:=h.c.nums;unfold hmL;omega
theorem DP.l1 {x y:Nat} (hy:y<m.on_.id.length) (k:Int) (e:Nat):(dE g x y k e).length≤16:=by have:=h.G hy;simp [dE];omega
theorem DP.l2 {x y:Nat} (hy:y<m.on_.id.length) (k:Int) (n:Nat):(ctn (dE g x y k) n).length≤n * 16:=Q2M fun e _=>h.l1 hy k e
theorem DP.l3 {x y:Nat} (hx:x<m.on_.id.length) (hy:y<m.on_.id.length) (z:Int) (n:Nat):(ctn (dI m f g z x y) n).length≤n * 256:=Q2M fun i _=>by
 have:=h.l2 (x:=x) hy (ix (hmL m z x y) i) (fzN f x);have:=h.F hx;unfold dI dH;omega
theorem DP.l4 {x:Nat} (hx:x<m.on_.id.length) (z:Int) {n:Nat} (hn:n≤m.on_.id.length):(ctn (dY m f g z x) n).length≤n * 10240:=Q2M fun y hy=>by
 have:=h.l3 hx (y:=y) (by omega) z (hmL m z x y).length;have:=h.hl z x y;unfold dY;omega
theorem DP.l5 (z:Int) {n:Nat} (hn:n≤m.on_.id.length):(ctn (dX m f g z) n).length≤n * 81920:=Q2M fun x hx=>by
 have:=h.l4 (x:=x) (by omega) z (Nat.le_refl _);have:=h.c.nums;unfold dX;omega
theorem e_l35Ent (z:Int):Q1u m f g z=some (dL m f g z):=by
 have n:=h.c.nums;unfold Q1u;refine QC m.on_.id.length (fun x=>ctn (dX m f g z) x) (e:=dL m f g z) rfl (by omega) (fun x hx=>?_) (by simp only;rw [if_neg (by omega)];rfl) rfl;have B5:=h.l5 z (n:=x) (by omega);simp only;rw [if_pos (by omega),Option.bind_assoc];refine QC m.on_.id.length (fun y=>ctn (dX m f g z) x++ctn (dY m f g z x) y) (e:=ctn (dX m f g z) (x+1)) (by simp [Q1m]) (by omega) (fun y hy=>?_) (by simp only;rw [if_neg (by omega),QX];rfl) ?_
 ·have B4:=h.l4 hx z (n:=y) (by omega);have o:=h.hm.pre.ob (f:=x) (g:=y) (by omega) (by omega);have H:=h.hl z x y;obtain ⟨F1,F2,F3⟩:=h.F hx;obtain ⟨G1,G2,G3⟩:=h.G hy;simp only;rw [if_pos (by omega),Q3 (by omega),Q3 (by omega),Q7H,(Q7G h.c _ _).2];simp only [Option.bind_some]
  change ((Qt _ fuel (ctn (dX m f g z) x++ctn (dY m f g z x) y,0)).bind _).bind _=_
  rw [Option.bind_assoc];refine QC (hmL m z x y).length (fun i=>ctn (dX m f g z) x++ctn (dY m f g z x) y++ctn (dI m f g z x y) i) (e:=ctn (dX m f g z) x++ctn (dY m f g z x) (y+1)) (by simp [Q1m]) (by omega) (fun i hi=>?_) ?_ ?_
  ·have B3:=h.l3 hx hy z i;simp only;rw [if_pos (show (i:Int)<((homL m.on_ (ix (rx m.objects_ x) y) z).length:Int) by change (i:Int)<((hmL m z x y).length:Int);omega),Option.bind_assoc];refine QC (fzN f x) (fun e=>ctn (dX m f g z) x++ctn (dY m f g z x) y++ctn (dI m f g z x y) i++ctn (dE g x y (ix (hmL m z x y) i)) e) (e:=ctn (dX m f g z) x++ctn (dY m f g z x) y++ctn (dI m f g z x y) (i+1)) (by simp [Q1m]) (by omega) (fun e he=>?_) ?_ ?_
   ·have B2:=h.l2 (x:=x) hy (ix (hmL m z x y) i) e;simp only;rw [Q3 (by omega),if_pos (by omega),Option.bind_assoc];refine QC (fzN g y) (fun d=>ctn (dX m f g z) x++ctn (dY m f g z x) y++ctn (dI m f g z x y) i++ctn (dE g x y (ix (hmL m z x y) i)) e++tab d (d5 x y (ix (hmL m z x y) i) e)) (e:=ctn (dX m f g z) x++ctn (dY m f g z x) y++ctn (dI m f g z x y) i++ctn (dE g x y (ix (hmL m z x y) i)) (e+1)) (by simp [Q21]) (by omega) (fun d hd=>?_) ?_ ?_
    ·simp only;rw [Q3 (by omega),if_pos (by omega),Q3 (show 0≤(i:Int)∧(i:Int)<((homL m.on_ (ix (rx m.objects_ x) y) z).length:Int) by change 0≤(i:Int)∧(i:Int)<((hmL m z x y).length:Int);omega),Q3 (by simp only [List.length_append,Q1X,List.length_cons,List.length_nil];omega),Q3 (by unfold B64;omega),Q11];simp only [List.append_assoc];rfl
    ·simp only;rw [Q3 (by omega),if_neg (by omega),QX,List.append_assoc];rfl
    simp only [Option.bind_some];rw [Q3 (by unfold B64;omega)]
   ·simp only;rw [Q3 (by omega),if_neg (by omega),QX,List.append_assoc];rfl
   simp only [Option.bind_some];rw [Q3 (by unfold B64;omega)]
  ·simp only;rw [if_neg (show ¬ (((hmL m z x y).length:Nat):Int)<((homL m.on_ (ix (rx m.objects_ x) y) z).length:Int) by change ¬ (((hmL m z x y).length:Nat):Int)<((hmL m z x y).length:Int);omega),QX,List.append_assoc];rfl
  simp only [Option.bind_some];rw [Q3 (by unfold B64;omega)]
 simp only [Option.bind_some];rw [Q3 (by unfold B64;omega)]
end
end
section
attribute [local simp] Qa Qy Qq QK Qu
theorem Q7U {α:Type} {n:Nat} {v:Nat→α} {i:Nat} (h:i<n):v i∈tab n v:=by
 simp only [tab,List.mem_map,List.mem_range];exact ⟨i,h,rfl⟩
theorem tab_nodup {v:Nat→List Int} {n:Nat} (hv:∀ i j,v i=v j→i=j):(tab n v).Nodup :=
 List.Pairwise.map (R:=fun a b=>a ≠ b) v (fun _ _ hne e=>hne (hv _ _ e)) List.nodup_range
theorem Q67 {x y e d x' y' e' d':Nat} {k k':Int} (h:d5 x y k e d=d5 x' y' k' e' d'):x=x'∧y=y'∧k=k'∧e=e'∧d=d':=by
 simp only [d5,List.cons.injEq,and_true] at h;omega
theorem mem_dE {g:SF} {x y e:Nat} {k:Int} {a:List Int}:a∈dE g x y k e↔∃ d,d<fzN g y∧a=d5 x y k e d :=
 ⟨fun h=>Q75 h,fun ⟨d,hd,e⟩=>by rw [e];exact Q7U hd⟩
theorem mem_dH {f g:SF} {x y:Nat} {k:Int} {a:List Int}:a∈dH f g x y k↔∃ e d,e<fzN f x∧d<fzN g y∧a=d5 x y k e d:=by
 unfold dH;rw [mem_ctn];constructor
 ·rintro ⟨e,he,q⟩
  obtain ⟨d,hd,q⟩:=mem_dE.1 q;exact ⟨e,d,he,hd,q⟩
 rintro ⟨e,d,he,hd,q⟩
 exact ⟨e,he,mem_dE.2 ⟨d,hd,q⟩⟩
theorem hm_at {m:XMonoidal} {z:Int} {x y i:Nat} (hi:i<(hmL m z x y).length):Ar m.on_ (ix (hmL m z x y) i) (ix (rx m.objects_ x) y) z:=hom_at hi
theorem hm_in {m:XMonoidal} {z k:Int} {x y:Nat} (h:Ar m.on_ k (ix (rx m.objects_ x) y) z):∃ i,i<(hmL m z x y).length∧ix (hmL m z x y) i=k:=by
 obtain ⟨i,hi,e⟩:=List.getElem_of_mem (homL_in h);exact ⟨i,hi,by rw [← e];exact (QL _ _ hi).symm⟩
theorem mem_dL {m:XMonoidal} {f g:SF} {z:Int} {a:List Int}:a∈dL m f g z↔∃ (x y:Nat) (k:Int) (e d:Nat),x<m.on_.id.length∧y<m.on_.id.length∧Ar m.on_ k (ix (rx m.objects_ x) y) z∧e<fzN f x∧d<fzN g y∧a=d5 x y k e d:=by
 unfold dL dX dY dI;constructor
 ·intro h;obtain ⟨x,hx,h⟩:=mem_ctn.1 h;obtain ⟨y,hy,h⟩:=mem_ctn.1 h;obtain ⟨i,hi,h⟩:=mem_ctn.1 h;obtain ⟨e,d,he,hd,h⟩:=mem_dH.1 h;exact ⟨x,y,_,e,d,hx,hy,hm_at hi,he,hd,h⟩
 rintro ⟨x,y,k,e,d,hx,hy,hk,he,hd,rfl⟩
 obtain ⟨i,hi,rfl⟩:=hm_in hk;exact mem_ctn.2 ⟨x,hx,mem_ctn.2 ⟨y,hy,mem_ctn.2 ⟨i,hi,mem_dH.2 ⟨e,d,he,hd,rfl⟩⟩⟩⟩
theorem ix_inj {L:List Int} (h:L.Nodup) {i j:Nat} (hi:i<L.length) (hj:j<L.length) (e:ix L i=ix L j):i=j:=by
 rw [← QL _ _ hi,← QL _ _ hj] at e;rcases Nat.lt_trichotomy i j with q|q|q
 ·exact absurd e (List.pairwise_iff_getElem.1 h i j hi hj q)
 ·exact q
 exact absurd e.symm (List.pairwise_iff_getElem.1 h j i hj hi q)
theorem Q8f {v:Nat→List (List Int)} {n:Nat} (h1:∀ i,i<n→(v i).Nodup) (h3:∀ i j,i<n→j<n→i ≠ j→∀ a∈v i,∀ b∈v j,a ≠ b):(ctn v n).Nodup:=by
 refine List.pairwise_flatMap.2 ⟨fun x hx=>h1 x (by simpa using hx),?_⟩;exact List.Pairwise.imp_of_mem (fun {a b} ha hb hne=>h3 a b (by simpa using ha) (by simpa using hb) hne) List.nodup_range
section
variable {m:XMonoidal} {f g:SF} (h:DP m f g)
include h
theorem DP.keyed (z:Int):Keyed (dL m f g z):=by
 have n:=h.c.nums;refine ⟨?_,fun x hxm a ha=>?_⟩
 ·refine Q4D (fun x hx=>Q4D (fun y hy=>?_) ?_) ?_
  ·refine Q8f (fun i hi=>?_) ?_
   ·refine Q4D (fun e he=>tab_nodup fun i j q=>(Q67 q).2.2.2.2) ?_;intro i j hne a ha b hb e;obtain ⟨d,_,rfl⟩:=mem_dE.1 ha;obtain ⟨d',_,rfl⟩:=mem_dE.1 hb;exact hne (Q67 e).2.2.2.1
   intro i j hi hj hne a ha b hb e;obtain ⟨e1,d1,_,_,rfl⟩:=mem_dH.1 ha;obtain ⟨e2,d2,_,_,rfl⟩:=mem_dH.1 hb;exact hne (ix_inj (flt_nodup _ _) hi hj (Q67 e).2.2.1)
  ·intro i j hne a ha b hb e;obtain ⟨i1,_,ha⟩:=mem_ctn.1 ha;obtain ⟨i2,_,hb⟩:=mem_ctn.1 hb;obtain ⟨e1,d1,_,_,rfl⟩:=mem_dH.1 ha;obtain ⟨e2,d2,_,_,rfl⟩:=mem_dH.1 hb;exact hne (Q67 e).2.1
  intro i j hne a ha b hb e;obtain ⟨y1,_,ha⟩:=mem_ctn.1 ha;obtain ⟨y2,_,hb⟩:=mem_ctn.1 hb;obtain ⟨i1,_,ha⟩:=mem_ctn.1 ha;obtain ⟨i2,_,hb⟩:=mem_ctn.1 hb;obtain ⟨e1,d1,_,_,rfl⟩:=mem_dH.1 ha;obtain ⟨e2,d2,_,_,rfl⟩:=mem_dH.1 hb;exact hne (Q67 e).1
 obtain ⟨x,y,k,e,d,hx,hy,hk,he,hd,rfl⟩:=mem_dL.1 hxm;have F:=(h.F hx).2.1;have G:=(h.G hy).2.1;have:=hk.1;simp only [d5,List.mem_cons,List.not_mem_nil,or_false] at ha;rcases ha with rfl|rfl|rfl|rfl|rfl<;>omega
end
end
end Go.Vc.T
