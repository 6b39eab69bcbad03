/- A part of the proof: a verified generator of conditions, and what each function of the program does. -/
import Derived.Test.YtbpjpnccoeedoaaC8
set_option maxRecDepth 100000
set_option maxHeartbeats 4000000
set_option linter.unusedSimpArgs false
set_option linter.unusedVariables false

namespace Go.Vc.T
open Go Go.Vc Go.Proofs
attribute [local simp] eL eI Qw Q17 Q2F Cat.cells Prf.cells
noncomputable def QB (p_:Prf):Option Bool :=
 (
  (QS [p_.s,p_.t]).bind fun v2 =>
  if ¬ (v2=true) then
   some true
  else
   if ¬ ((p_.sz.length:Int)=p_.s.n) then
    some true
   else
    (QI p_.s).bind fun v5 =>
    if ¬ ((p_.bf.length:Int)=v5) then
     some true
    else
     (QI p_.t).bind fun v7 =>
     some ((p_.bh.length:Int) != v7):Option (Bool)).bind fun b1 =>
 if b1=true then
  some false
 else
  (Qu (σ:=Int) (ε:=Unit ⊕ Bool) (fun s17 =>
   if s17<(p_.sz.length:Int) then
    ass (0≤s17∧s17<(p_.sz.length:Int)) <|
    (
     if ¬ (((rx p_.sz s17).length:Int)=p_.t.n) then
      some true
     else
      (Q1N (rx p_.sz s17) 65).bind fun v22 =>
      some (!v22):Option (Bool)).bind fun b20 =>
    if b20=true then
     some (Ctl.ret (Sum.inr false))
    else
     ass (B64 (s17+1)) <|
     some (Ctl.next (s17+1))
   else
    some (Ctl.ret (Sum.inl ()))) fuel 0).bind fun e9 =>
  match e9 with
  | .inl b9 =>
   (Qu (σ:=Int) (ε:=Unit ⊕ Bool) (fun s54 =>
    if s54<(p_.bf.length:Int) then
     (
      ass (0≤s54∧s54<(p_.bf.length:Int)) <|
      if ¬ (((gx p_.bf s54).length:Int)=p_.t.n) then
       some (Sum.inr false)
      else
       (Qu (σ:=Int) (ε:=Bool ⊕ Unit) (fun s70 =>
        if s70<((gx p_.bf s54).length:Int) then
         ass (0≤s70∧s70<((gx p_.bf s54).length:Int)) <|
         ass (0≤s54∧s54<(p_.s.to.length:Int)) <|
         ass (0≤ix p_.s.to s54∧ix p_.s.to s54<(p_.sz.length:Int)) <|
         ass (0≤s70∧s70<((rx p_.sz (ix p_.s.to s54)).length:Int)) <|
         ass (0≤s54∧s54<(p_.s.fr.length:Int)) <|
         ass (0≤ix p_.s.fr s54∧ix p_.s.fr s54<(p_.sz.length:Int)) <|
         ass (0≤s70∧s70<((rx p_.sz (ix p_.s.fr s54)).length:Int)) <|
         (Q1q (rx (gx p_.bf s54) s70) (ix (rx p_.sz (ix p_.s.to s54)) s70) (ix (rx p_.sz (ix p_.s.fr s54)) s70)).bind fun v79 =>
         if ¬ (v79=true) then
          some (Ctl.ret (Sum.inl false))
         else
          ass (B64 (s70+1)) <|
          some (Ctl.next (s70+1))
        else
         some (Ctl.ret (Sum.inr ()))) fuel 0).bind fun e70 =>
       match e70 with
       | .inl p70 =>
        some (Sum.inr p70)
       | .inr p70 =>
        some (Sum.inl p70):Option (Unit ⊕ Bool)).bind fun e56 =>
     match e56 with
     | .inl b56 =>
      ass (B64 (s54+1)) <|
      some (Ctl.next (s54+1))
     | .inr p56 =>
      some (Ctl.ret (Sum.inr p56))
    else
     some (Ctl.ret (Sum.inl ()))) fuel 0).bind fun e25 =>
   match e25 with
   | .inl b25 =>
    (Qu (σ:=Int) (ε:=Unit ⊕ Bool) (fun s112 =>
     if s112<(p_.bh.length:Int) then
      (
       ass (0≤s112∧s112<(p_.bh.length:Int)) <|
       if ¬ (((gx p_.bh s112).length:Int)=p_.s.n) then
        some (Sum.inr false)
       else
        (Qu (σ:=Int) (ε:=Bool ⊕ Unit) (fun s128 =>
         if s128<((gx p_.bh s112).length:Int) then
          ass (0≤s128∧s128<((gx p_.bh s112).length:Int)) <|
          ass (0≤s128∧s128<(p_.sz.length:Int)) <|
          ass (0≤s112∧s112<(p_.t.fr.length:Int)) <|
          ass (0≤ix p_.t.fr s112∧ix p_.t.fr s112<((rx p_.sz s128).length:Int)) <|
          ass (0≤s128∧s128<(p_.sz.length:Int)) <|
          ass (0≤s112∧s112<(p_.t.to.length:Int)) <|
          ass (0≤ix p_.t.to s112∧ix p_.t.to s112<((rx p_.sz s128).length:Int)) <|
          (Q1q (rx (gx p_.bh s112) s128) (ix (rx p_.sz s128) (ix p_.t.fr s112)) (ix (rx p_.sz s128) (ix p_.t.to s112))).bind fun v137 =>
          if ¬ (v137=true) then
           some (Ctl.ret (Sum.inl false))
          else
           ass (B64 (s128+1)) <|
           some (Ctl.next (s128+1))
         else
          some (Ctl.ret (Sum.inr ()))) fuel 0).bind fun e128 =>
        match e128 with
        | .inl p128 =>
         some (Sum.inr p128)
        | .inr p128 =>
         some (Sum.inl p128):Option (Unit ⊕ Bool)).bind fun e114 =>
      match e114 with
      | .inl b114 =>
       ass (B64 (s112+1)) <|
       some (Ctl.next (s112+1))
      | .inr p114 =>
       some (Ctl.ret (Sum.inr p114))
     else
      some (Ctl.ret (Sum.inl ()))) fuel 0).bind fun e83 =>
    match e83 with
    | .inl b83 =>
     some true
    | .inr p83 =>
     some p83
   | .inr p25 =>
    some p25
  | .inr p9 =>
   some p9
theorem wkQ9 {F : Fx} {st st' : St} (m : List (Nat × Nat)) (h : (m.map Prod.fst).Nodup ∧ (m.map Prod.snd).Nodup ∧ (∀ id, id < F.pins → look id m = some id) ∧ (∀ p ∈ m, p.2 < st'.n) ∧ (∀ p ∈ st'.h, p.1 < st'.n) ∧ (∀ p ∈ st'.s, p.2 = rl m (st.get p.1) ∨ p.2 = .bot) ∧ ∀ p ∈ st'.h, hhOk m st.h p.1 p.2 := by simp [hP, hhOk, back, Cat.cells, Prf.cells, UA, U1, IA, I1, LA, L1, BA, B1, EA, E1, E2, eB, eI, eL]) : Wk F st st' := Wk.r1 m h
theorem Q2I (p_:Prf) (r:Bool) (h:QB p_=some r):Contract Try.prog 122 [.rptr (p_.cells true)] (.val (.bool r)):=by
 refine Qg (rvs:=[.tmp 2]) (rs:=[.val (.bool r)]) Try.func122 rfl rfl rfl rfl (by simp [Try.f122]) fun F hN hP=>?_;unfold QB at h;refine Q5 ?_;refine runQ hN fun K hK=>?_;simp [-Q0,-Q7,-Q1,-Q8,-Q2];repeat refine sdQ ?_
 refine hK _ ?_;clear hK K;refine tn ?_;refine Q9 (st':=⟨[(0,.rptr (Prf.cells true p_))],[],0⟩) (wkQ9 []) ?_;refine Q5 ?_;refine runQ hN fun K hK=>?_;simp [-Q0,-Q7,-Q1,-Q8,-Q2];repeat refine sdQ ?_
 refine hK _ ?_;clear hK K;refine tn ?_;refine Q9 (st':=⟨[(0,.rptr (Prf.cells true p_)),(3,.rptr (Prf.cells true p_)),(4,.rptr [iV p_.t.n,lI p_.t.fr,lI p_.t.to,lI p_.t.id,.lst true 1 (Ls p_.t.cs),.lst true 1 (Ls p_.sz),.lst true 1 (Es eL p_.bf),.lst true 1 (Es eL p_.bh)])],[],0⟩) (wkQ9 []) ?_;refine Q5 ?_;refine Q5 ?_;replace h:=bind_some h;obtain ⟨e1,h,h1⟩:=h;refine Qj (fun b1:Bool=>⟨[(0,.rptr (Prf.cells true p_)),(3,.rptr (Prf.cells true p_)),(4,.rptr [iV p_.t.n,lI p_.t.fr,lI p_.t.to,lI p_.t.id,.lst true 1 (Ls p_.t.cs),.lst true 1 (Ls p_.sz),.lst true 1 (Es eL p_.bf),.lst true 1 (Es eL p_.bh)]),(57,.val (.bool b1))],[],0⟩) (fun b1=>b1=e1) ?_ ?_
 ·refine runQ hN fun K hK=>?_;simp [-Q0,-Q7,-Q1,-Q8,-Q2];repeat with_reducible refine sdQ ?_
  replace h:=bind_some h;obtain ⟨v2,hv2,h⟩:=h;refine Q3 (Q3T _ v2 hv2) (.cons (.lits (es:=_) rfl (.cons rfl (.cons (.preT (by simp [Cat.cells,Prf.cells])) .nil) (.cons rfl (.cons (.preT (by simp [Cat.cells,Prf.cells])) .nil) .nil)) rfl) .nil) ?_;simp [-Q0,-Q7,-Q1,-Q8,-Q2,unk,unA,unE,unT,unC,flat];repeat with_reducible refine sdQ ?_
  refine Qs (fun g=>?_) (fun g=>?_)
  ·have g3:¬ (¬ (v2=true)):=gQ;clear g;replace h:=if_r g3 h;simp [-Q0,-Q7,-Q1,-Q8,-Q2];(repeat with_reducible refine sdQ ?_);refine Qs (fun g=>?_) (fun g=>?_)
   ·have g4:¬ (¬ ((p_.sz.length:Int)=p_.s.n)):=gQ;clear g;replace h:=if_r g4 h;simp [-Q0,-Q7,-Q1,-Q8,-Q2];(repeat with_reducible refine sdQ ?_);replace h:=bind_some h;obtain ⟨v5,hv5,h⟩:=h;refine Q3 (Q22 _ v5 hv5) (.cons (.preT (by simp [Cat.cells,Prf.cells])) .nil) ?_;simp [-Q0,-Q7,-Q1,-Q8,-Q2,unk,unA,unE,unT,unC,flat];(repeat with_reducible refine sdQ ?_);refine Qs (fun g=>?_) (fun g=>?_)
    ·have g6:¬ (¬ ((p_.bf.length:Int)=v5)):=gQ;clear g;replace h:=if_r g6 h;simp [-Q0,-Q7,-Q1,-Q8,-Q2];(repeat with_reducible refine sdQ ?_);replace h:=bind_some h;obtain ⟨v7,hv7,h⟩:=h;refine Q3 (Q22 _ v7 hv7) (.cons (.preT (by simp [Cat.cells,Prf.cells])) .nil) ?_;simp [-Q0,-Q7,-Q1,-Q8,-Q2,unk,unA,unE,unT,unC,flat];(repeat refine sdQ ?_);refine hK _ ?_;exact jn (b:=(p_.bh.length:Int) != v7) (Option.some.inj h) (wkQ9 [])
    have g6:¬ ((p_.bf.length:Int)=v5):=gQ;clear g;replace h:=if_l g6 h;simp [-Q0,-Q7,-Q1,-Q8,-Q2];(repeat refine sdQ ?_);refine hK _ ?_;exact jn (b:=true) (Option.some.inj h) (wkQ9 [])
   have g4:¬ ((p_.sz.length:Int)=p_.s.n):=gQ;clear g;replace h:=if_l g4 h;simp [-Q0,-Q7,-Q1,-Q8,-Q2];(repeat refine sdQ ?_);refine hK _ ?_;exact jn (b:=true) (Option.some.inj h) (wkQ9 [])
  have g3:¬ (v2=true):=gQ;clear g;replace h:=if_l g3 h;simp [-Q0,-Q7,-Q1,-Q8,-Q2];repeat refine sdQ ?_
  refine hK _ ?_;exact jn (b:=true) (Option.some.inj h) (wkQ9 [])
 intro b1 hb1;have h:=h1;try rw [← hb1] at h
 clear h1;try dsimp only at h
 refine Qc rfl (fun g=>?_) fun g=>?_
 ·have g8:b1=true:=gQ;clear g;replace h:=if_l g8 h;refine Q5 ?_;refine runQ hN fun K hK=>?_;simp [-Q0,-Q7,-Q1,-Q8,-Q2];repeat refine sdQ ?_
  refine hK _ ?_;clear hK K;refine tn ?_;refine Q9 (st':=⟨[(2,.val (.bool false))],[],0⟩) (wkQ9 []) ?_;refine Qh ?_;refine tr ?_;have hr:=Option.some.inj h;rw [← hr];refine ⟨_,(.tmp .nil),?_⟩;refine ⟨(.one rfl rfl .nil),[.val (.bool false)],[],by simp [Cat.cells,Prf.cells,UA,U1,IA,I1,LA,L1,BA,B1,EA,E1,E2,eB,eI,eL],by simp,(UpL.refl _)⟩
 have g8:¬ (b1=true):=gQ;clear g;replace h:=if_r g8 h;refine Qd ?_;refine tn ?_;refine Q5 ?_;refine Q5 ?_;refine runQ hN fun K hK=>?_;simp [-Q0,-Q7,-Q1,-Q8,-Q2];repeat refine sdQ ?_
 refine hK _ ?_;clear hK K;refine tn ?_;refine Q9 (st':=⟨[(0,.rptr (Prf.cells true p_)),(3,.rptr (Prf.cells true p_)),(4,.rptr [iV p_.t.n,lI p_.t.fr,lI p_.t.to,lI p_.t.id,.lst true 1 (Ls p_.t.cs),.lst true 1 (Ls p_.sz),.lst true 1 (Es eL p_.bf),.lst true 1 (Es eL p_.bh)]),(61,.lst true 1 (Ls p_.sz)),(62,iV (p_.sz.length:Int)),(63,iV 0)],[],0⟩) (wkQ9 []) ?_;replace h:=bind_some h;obtain ⟨e9,h,h9⟩:=h;refine Qj (fun b9:Unit=>⟨[(0,.rptr (Prf.cells true p_)),(3,.rptr (Prf.cells true p_)),(4,.rptr [iV p_.t.n,lI p_.t.fr,lI p_.t.to,lI p_.t.id,.lst true 1 (Ls p_.t.cs),.lst true 1 (Ls p_.sz),.lst true 1 (Es eL p_.bf),.lst true 1 (Es eL p_.bh)])],[],0⟩) (fun b9=>Sum.inl b9=e9) ?_ ?_
 ·refine Qa ?_;refine Qr h (fun s17:Int=>⟨[(0,.rptr (Prf.cells true p_)),(3,.rptr (Prf.cells true p_)),(4,.rptr [iV p_.t.n,lI p_.t.fr,lI p_.t.to,lI p_.t.id,.lst true 1 (Ls p_.t.cs),.lst true 1 (Ls p_.sz),.lst true 1 (Es eL p_.bf),.lst true 1 (Es eL p_.bh)]),(61,.lst true 1 (Ls p_.sz)),(62,iV (p_.sz.length:Int)),(63,iV s17)],[],0⟩) (wkQ9 []) ?_;clear h;intro k17 s17 c17 h hk17;refine Q5 ?_;refine runQ hN fun K hK=>?_;simp [-Q0,-Q7,-Q1,-Q8,-Q2];repeat refine sdQ ?_
  refine hK _ ?_;clear hK K;refine tn ?_;refine Q9 (st':=⟨[(0,.rptr (Prf.cells true p_)),(3,.rptr (Prf.cells true p_)),(4,.rptr [iV p_.t.n,lI p_.t.fr,lI p_.t.to,lI p_.t.id,.lst true 1 (Ls p_.t.cs),.lst true 1 (Ls p_.sz),.lst true 1 (Es eL p_.bf),.lst true 1 (Es eL p_.bh)]),(61,.lst true 1 (Ls p_.sz)),(62,iV (p_.sz.length:Int)),(63,iV s17),(64,.val (.bool (decide (s17<(p_.sz.length:Int)))))],[],0⟩) (wkQ9 []) ?_;refine Q5 ?_;refine Qc rfl (fun g=>?_) fun g=>?_
  ·have g18:s17<(p_.sz.length:Int):=gQ;clear g;replace h:=if_l g18 h;refine Qd ?_;refine tn ?_;refine Q5 ?_;refine Qa ?_;refine Q5 ?_;refine runQ hN fun K hK=>?_;replace h:=Q4 h;obtain ⟨a19,h⟩:=h;simp [-Q0,-Q7,-Q1,-Q8,-Q2,at_L a19];(repeat refine sdQ ?_);refine hK _ ?_;clear hK K;refine tn ?_;refine Q9 (st':=⟨[(0,.rptr (Prf.cells true p_)),(3,.rptr (Prf.cells true p_)),(4,.rptr [iV p_.t.n,lI p_.t.fr,lI p_.t.to,lI p_.t.id,.lst true 1 (Ls p_.t.cs),.lst true 1 (Ls p_.sz),.lst true 1 (Es eL p_.bf),.lst true 1 (Es eL p_.bh)]),(6,lI (rx p_.sz s17)),(61,.lst true 1 (Ls p_.sz)),(62,iV (p_.sz.length:Int)),(63,iV s17)],[],0⟩) (wkQ9 []) ?_;refine Q5 ?_;replace h:=bind_some h;obtain ⟨e20,h,h20⟩:=h;refine Qj (fun b20:Bool=>⟨[(0,.rptr (Prf.cells true p_)),(3,.rptr (Prf.cells true p_)),(4,.rptr [iV p_.t.n,lI p_.t.fr,lI p_.t.to,lI p_.t.id,.lst true 1 (Ls p_.t.cs),.lst true 1 (Ls p_.sz),.lst true 1 (Es eL p_.bf),.lst true 1 (Es eL p_.bh)]),(61,.lst true 1 (Ls p_.sz)),(62,iV (p_.sz.length:Int)),(63,iV s17),(78,.val (.bool b20))],[],0⟩) (fun b20=>b20=e20) ?_ ?_
   ·refine runQ hN fun K hK=>?_;simp [-Q0,-Q7,-Q1,-Q8,-Q2];(repeat with_reducible refine sdQ ?_);refine Qs (fun g=>?_) (fun g=>?_)
    ·have g21:¬ (¬ (((rx p_.sz s17).length:Int)=p_.t.n)):=gQ;clear g;replace h:=if_r g21 h;simp [-Q0,-Q7,-Q1,-Q8,-Q2];(repeat with_reducible refine sdQ ?_);replace h:=bind_some h;obtain ⟨v22,hv22,h⟩:=h;refine Q3 (Q51 _ _ v22 hv22) (.cons .lst (.cons .val .nil)) ?_;simp [-Q0,-Q7,-Q1,-Q8,-Q2,unk,unA,unE,unT,unC,flat];(repeat refine sdQ ?_);refine hK _ ?_;exact jn (b:=!v22) (Option.some.inj h) (wkQ9 [])
    have g21:¬ (((rx p_.sz s17).length:Int)=p_.t.n):=gQ;clear g;replace h:=if_l g21 h;simp [-Q0,-Q7,-Q1,-Q8,-Q2];(repeat refine sdQ ?_);refine hK _ ?_;exact jn (b:=true) (Option.some.inj h) (wkQ9 [])
   intro b20 hb20;have h:=h20;(try rw [← hb20] at h);clear h20;(try dsimp only at h);refine Qc rfl (fun g=>?_) fun g=>?_
   ·have g23:b20=true:=gQ;clear g;replace h:=if_l g23 h;refine Q5 ?_;refine runQ hN fun K hK=>?_;simp [-Q0,-Q7,-Q1,-Q8,-Q2];(repeat refine sdQ ?_);refine hK _ ?_;clear hK K;refine tn ?_;refine Q9 (st':=⟨[(2,.val (.bool false))],[],0⟩) (wkQ9 []) ?_;refine Qh ?_;refine br ?_;refine tr ?_;refine lr ?_;refine br ?_;refine tr ?_;cases h;have q:_=e9:=hk17;have h:=h9;rw [← q] at h;clear q;(try dsimp only at h);have hr:=Option.some.inj h;rw [← hr];refine ⟨_,(.tmp .nil),?_⟩;refine ⟨(.one rfl rfl .nil),[.val (.bool false)],[],by simp [Cat.cells,Prf.cells,UA,U1,IA,I1,LA,L1,BA,B1,EA,E1,E2,eB,eI,eL],by simp,(UpL.refl _)⟩
   have g23:¬ (b20=true):=gQ;clear g;replace h:=if_r g23 h;refine Qd ?_;refine bn ?_;refine tn ?_;refine runQ hN fun K hK=>?_;replace h:=Q4 h;obtain ⟨a24,h⟩:=h;simp [-Q0,-Q7,-Q1,-Q8,-Q2,Qn a24];(repeat refine sdQ ?_);refine hK _ ?_;clear hK K;cases h;exact rn (s':=s17+1) hk17 (wkQ9 [])
  have g18:¬ (s17<(p_.sz.length:Int)):=gQ;clear g;replace h:=if_r g18 h;refine Ql ?_;refine tx ?_;refine lx ?_;refine bh ?_;cases h;exact jn (b:=()) hk17 (wkQ9 [])
 intro b9 hb9;have h:=h9;try rw [← hb9] at h
 clear h9;try dsimp only at h
 refine Q5 ?_;refine Q5 ?_;refine runQ hN fun K hK=>?_;simp [-Q0,-Q7,-Q1,-Q8,-Q2];repeat refine sdQ ?_
 refine hK _ ?_;clear hK K;refine tn ?_;refine Q9 (st':=⟨[(0,.rptr (Prf.cells true p_)),(3,.rptr (Prf.cells true p_)),(4,.rptr [iV p_.t.n,lI p_.t.fr,lI p_.t.to,lI p_.t.id,.lst true 1 (Ls p_.t.cs),.lst true 1 (Ls p_.sz),.lst true 1 (Es eL p_.bf),.lst true 1 (Es eL p_.bh)]),(83,.lst true 1 (Es eL p_.bf)),(84,iV (p_.bf.length:Int)),(85,iV 0)],[],0⟩) (wkQ9 []) ?_;replace h:=bind_some h;obtain ⟨e25,h,h25⟩:=h;refine Qj (fun b25:Unit=>⟨[(0,.rptr (Prf.cells true p_)),(3,.rptr (Prf.cells true p_)),(4,.rptr [iV p_.t.n,lI p_.t.fr,lI p_.t.to,lI p_.t.id,.lst true 1 (Ls p_.t.cs),.lst true 1 (Ls p_.sz),.lst true 1 (Es eL p_.bf),.lst true 1 (Es eL p_.bh)])],[],0⟩) (fun b25=>Sum.inl b25=e25) ?_ ?_
 ·refine Qa ?_;refine Qr h (fun s54:Int=>⟨[(0,.rptr (Prf.cells true p_)),(3,.rptr (Prf.cells true p_)),(4,.rptr [iV p_.t.n,lI p_.t.fr,lI p_.t.to,lI p_.t.id,.lst true 1 (Ls p_.t.cs),.lst true 1 (Ls p_.sz),.lst true 1 (Es eL p_.bf),.lst true 1 (Es eL p_.bh)]),(83,.lst true 1 (Es eL p_.bf)),(84,iV (p_.bf.length:Int)),(85,iV s54)],[],0⟩) (wkQ9 []) ?_;clear h;intro k54 s54 c54 h hk54;refine Q5 ?_;refine runQ hN fun K hK=>?_;simp [-Q0,-Q7,-Q1,-Q8,-Q2];repeat refine sdQ ?_
  refine hK _ ?_;clear hK K;refine tn ?_;refine Q9 (st':=⟨[(0,.rptr (Prf.cells true p_)),(3,.rptr (Prf.cells true p_)),(4,.rptr [iV p_.t.n,lI p_.t.fr,lI p_.t.to,lI p_.t.id,.lst true 1 (Ls p_.t.cs),.lst true 1 (Ls p_.sz),.lst true 1 (Es eL p_.bf),.lst true 1 (Es eL p_.bh)]),(83,.lst true 1 (Es eL p_.bf)),(84,iV (p_.bf.length:Int)),(85,iV s54),(86,.val (.bool (decide (s54<(p_.bf.length:Int)))))],[],0⟩) (wkQ9 []) ?_;refine Q5 ?_;refine Qc rfl (fun g=>?_) fun g=>?_
  ·have g55:s54<(p_.bf.length:Int):=gQ;clear g;replace h:=if_l g55 h;refine Qd ?_;refine tn ?_;refine Q5 ?_;replace h:=bind_some h;obtain ⟨e56,h,h56⟩:=h;refine Qj (fun b56:Unit=>⟨[(0,.rptr (Prf.cells true p_)),(3,.rptr (Prf.cells true p_)),(4,.rptr [iV p_.t.n,lI p_.t.fr,lI p_.t.to,lI p_.t.id,.lst true 1 (Ls p_.t.cs),.lst true 1 (Ls p_.sz),.lst true 1 (Es eL p_.bf),.lst true 1 (Es eL p_.bh)]),(83,.lst true 1 (Es eL p_.bf)),(84,iV (p_.bf.length:Int)),(85,iV s54)],[],0⟩) (fun b56=>Sum.inl b56=e56) ?_ ?_
   ·refine Qa ?_;refine Q5 ?_;refine runQ hN fun K hK=>?_;replace h:=Q4 h;obtain ⟨a57,h⟩:=h;simp [-Q0,-Q7,-Q1,-Q8,-Q2,at_E (c:=eL) a57];(repeat refine sdQ ?_);refine hK _ ?_;clear hK K;refine tn ?_;refine Q9 (st':=⟨[(0,.rptr (Prf.cells true p_)),(3,.rptr (Prf.cells true p_)),(4,.rptr [iV p_.t.n,lI p_.t.fr,lI p_.t.to,lI p_.t.id,.lst true 1 (Ls p_.t.cs),.lst true 1 (Ls p_.sz),.lst true 1 (Es eL p_.bf),.lst true 1 (Es eL p_.bh)]),(7,iV s54),(8,.lst true 1 (Ls (gx p_.bf s54))),(83,.lst true 1 (Es eL p_.bf)),(84,iV (p_.bf.length:Int)),(85,iV s54)],[],0⟩) (wkQ9 []) ?_;refine Q5 ?_;refine Q5 ?_;refine runQ hN fun K hK=>?_;simp [-Q0,-Q7,-Q1,-Q8,-Q2];(repeat refine sdQ ?_);refine hK _ ?_;clear hK K;refine tn ?_;refine Q9 (st':=⟨[(0,.rptr (Prf.cells true p_)),(3,.rptr (Prf.cells true p_)),(4,.rptr [iV p_.t.n,lI p_.t.fr,lI p_.t.to,lI p_.t.id,.lst true 1 (Ls p_.t.cs),.lst true 1 (Ls p_.sz),.lst true 1 (Es eL p_.bf),.lst true 1 (Es eL p_.bh)]),(7,iV s54),(8,.lst true 1 (Ls (gx p_.bf s54))),(83,.lst true 1 (Es eL p_.bf)),(84,iV (p_.bf.length:Int)),(85,iV s54),(96,.val (.bool (((gx p_.bf s54).length:Int) != p_.t.n)))],[],0⟩) (wkQ9 []) ?_;refine Qc rfl (fun g=>?_) fun g=>?_
    ·have g58:¬ (((gx p_.bf s54).length:Int)=p_.t.n):=gQ;clear g;replace h:=if_l g58 h;refine Q5 ?_;refine runQ hN fun K hK=>?_;simp [-Q0,-Q7,-Q1,-Q8,-Q2];(repeat refine sdQ ?_);refine hK _ ?_;clear hK K;refine tn ?_;refine Q9 (st':=⟨[(2,.val (.bool false))],[],0⟩) (wkQ9 []) ?_;refine Qh ?_;refine tr ?_;refine br ?_;refine tr ?_;refine lr ?_;refine br ?_;refine tr ?_;cases h;have h:=h56;(try dsimp only at h);cases h;have q:_=e25:=hk54;have h:=h25;rw [← q] at h;clear q;(try dsimp only at h);have hr:=Option.some.inj h;rw [← hr];refine ⟨_,(.tmp .nil),?_⟩;refine ⟨(.one rfl rfl .nil),[.val (.bool false)],[],by simp [Cat.cells,Prf.cells,UA,U1,IA,I1,LA,L1,BA,B1,EA,E1,E2,eB,eI,eL],by simp,(UpL.refl _)⟩
    have g58:¬ (¬ (((gx p_.bf s54).length:Int)=p_.t.n)):=gQ;clear g;replace h:=if_r g58 h;refine Qd ?_;refine tn ?_;refine Q5 ?_;refine runQ hN fun K hK=>?_;simp [-Q0,-Q7,-Q1,-Q8,-Q2];(repeat refine sdQ ?_);refine hK _ ?_;clear hK K;refine tn ?_;refine Q9 (st':=⟨[(0,.rptr (Prf.cells true p_)),(3,.rptr (Prf.cells true p_)),(4,.rptr [iV p_.t.n,lI p_.t.fr,lI p_.t.to,lI p_.t.id,.lst true 1 (Ls p_.t.cs),.lst true 1 (Ls p_.sz),.lst true 1 (Es eL p_.bf),.lst true 1 (Es eL p_.bh)]),(7,iV s54),(83,.lst true 1 (Es eL p_.bf)),(84,iV (p_.bf.length:Int)),(85,iV s54),(97,.lst true 1 (Ls (gx p_.bf s54))),(98,iV ((gx p_.bf s54).length:Int)),(99,iV 0)],[],0⟩) (wkQ9 []) ?_;refine Qa ?_;replace h:=bind_some h;obtain ⟨e70,he70,h70⟩:=h;refine Qr he70 (fun s70:Int=>⟨[(0,.rptr (Prf.cells true p_)),(3,.rptr (Prf.cells true p_)),(4,.rptr [iV p_.t.n,lI p_.t.fr,lI p_.t.to,lI p_.t.id,.lst true 1 (Ls p_.t.cs),.lst true 1 (Ls p_.sz),.lst true 1 (Es eL p_.bf),.lst true 1 (Es eL p_.bh)]),(7,iV s54),(83,.lst true 1 (Es eL p_.bf)),(84,iV (p_.bf.length:Int)),(85,iV s54),(97,.lst true 1 (Ls (gx p_.bf s54))),(98,iV ((gx p_.bf s54).length:Int)),(99,iV s70)],[],0⟩) (wkQ9 []) ?_;intro k70 s70 c70 h hk70;refine Q5 ?_;refine runQ hN fun K hK=>?_;simp [-Q0,-Q7,-Q1,-Q8,-Q2];(repeat refine sdQ ?_);refine hK _ ?_;clear hK K;refine tn ?_;refine Q9 (st':=⟨[(0,.rptr (Prf.cells true p_)),(3,.rptr (Prf.cells true p_)),(4,.rptr [iV p_.t.n,lI p_.t.fr,lI p_.t.to,lI p_.t.id,.lst true 1 (Ls p_.t.cs),.lst true 1 (Ls p_.sz),.lst true 1 (Es eL p_.bf),.lst true 1 (Es eL p_.bh)]),(7,iV s54),(83,.lst true 1 (Es eL p_.bf)),(84,iV (p_.bf.length:Int)),(85,iV s54),(97,.lst true 1 (Ls (gx p_.bf s54))),(98,iV ((gx p_.bf s54).length:Int)),(99,iV s70),(100,.val (.bool (decide (s70<((gx p_.bf s54).length:Int)))))],[],0⟩) (wkQ9 []) ?_;refine Q5 ?_;refine Qc rfl (fun g=>?_) fun g=>?_
    ·have g71:s70<((gx p_.bf s54).length:Int):=gQ;clear g;replace h:=if_l g71 h;refine Qd ?_;refine tn ?_;refine Q5 ?_;refine Qa ?_;refine Q5 ?_;refine runQ hN fun K hK=>?_;replace h:=Q4 h;obtain ⟨a72,h⟩:=h;simp [-Q0,-Q7,-Q1,-Q8,-Q2,at_L a72];(repeat refine sdQ ?_);refine hK _ ?_;clear hK K;refine tn ?_;refine Q9 (st':=⟨[(0,.rptr (Prf.cells true p_)),(3,.rptr (Prf.cells true p_)),(4,.rptr [iV p_.t.n,lI p_.t.fr,lI p_.t.to,lI p_.t.id,.lst true 1 (Ls p_.t.cs),.lst true 1 (Ls p_.sz),.lst true 1 (Es eL p_.bf),.lst true 1 (Es eL p_.bh)]),(7,iV s54),(9,iV s70),(10,lI (rx (gx p_.bf s54) s70)),(83,.lst true 1 (Es eL p_.bf)),(84,iV (p_.bf.length:Int)),(85,iV s54),(97,.lst true 1 (Ls (gx p_.bf s54))),(98,iV ((gx p_.bf s54).length:Int)),(99,iV s70)],[],0⟩) (wkQ9 []) ?_;refine Q5 ?_;refine runQ hN fun K hK=>?_;replace h:=Q4 h;obtain ⟨a73,h⟩:=h;replace h:=Q4 h;obtain ⟨a74,h⟩:=h;replace h:=Q4 h;obtain ⟨a75,h⟩:=h;replace h:=Q4 h;obtain ⟨a76,h⟩:=h;replace h:=Q4 h;obtain ⟨a77,h⟩:=h;replace h:=Q4 h;obtain ⟨a78,h⟩:=h;simp [-Q0,-Q7,-Q1,-Q8,-Q2,at_I a73,at_L a74,at_I a75,at_I a76,at_L a77,at_I a78];(repeat with_reducible refine sdQ ?_);replace h:=bind_some h;obtain ⟨v79,hv79,h⟩:=h;refine Q3 (Q4z _ _ _ v79 hv79) (.cons .lst (.cons .val (.cons .val .nil))) ?_;simp [-Q0,-Q7,-Q1,-Q8,-Q2,unk,unA,unE,unT,unC,flat,at_I a73,at_L a74,at_I a75,at_I a76,at_L a77,at_I a78];(repeat refine sdQ ?_);refine hK _ ?_;clear hK K;refine tn ?_;refine Q9 (st':=⟨[(0,.rptr (Prf.cells true p_)),(3,.rptr (Prf.cells true p_)),(4,.rptr [iV p_.t.n,lI p_.t.fr,lI p_.t.to,lI p_.t.id,.lst true 1 (Ls p_.t.cs),.lst true 1 (Ls p_.sz),.lst true 1 (Es eL p_.bf),.lst true 1 (Es eL p_.bh)]),(7,iV s54),(83,.lst true 1 (Es eL p_.bf)),(84,iV (p_.bf.length:Int)),(85,iV s54),(97,.lst true 1 (Ls (gx p_.bf s54))),(98,iV ((gx p_.bf s54).length:Int)),(99,iV s70),(138,.val (.bool (!v79)))],[],0⟩) (wkQ9 []) ?_;refine Qc rfl (fun g=>?_) fun g=>?_
     ·have g80:¬ (v79=true):=gQ;clear g;replace h:=if_l g80 h;refine Q5 ?_;refine runQ hN fun K hK=>?_;simp [-Q0,-Q7,-Q1,-Q8,-Q2];(repeat refine sdQ ?_);refine hK _ ?_;clear hK K;refine tn ?_;refine Q9 (st':=⟨[(2,.val (.bool false))],[],0⟩) (wkQ9 []) ?_;refine Qh ?_;refine br ?_;refine tr ?_;refine lr ?_;refine br ?_;refine br ?_;refine tr ?_;refine lr ?_;refine br ?_;refine tr ?_;cases h;have q:_=e70:=hk70;have h:=h70;rw [← q] at h;clear q;(try dsimp only at h);cases h;have h:=h56;(try dsimp only at h);cases h;have q:_=e25:=hk54;have h:=h25;rw [← q] at h;clear q;(try dsimp only at h);have hr:=Option.some.inj h;rw [← hr];refine ⟨_,(.tmp .nil),?_⟩;refine ⟨(.one rfl rfl .nil),[.val (.bool false)],[],by simp [Cat.cells,Prf.cells,UA,U1,IA,I1,LA,L1,BA,B1,EA,E1,E2,eB,eI,eL],by simp,(UpL.refl _)⟩
     have g80:¬ (¬ (v79=true)):=gQ;clear g;replace h:=if_r g80 h;refine Qd ?_;refine bn ?_;refine tn ?_;refine runQ hN fun K hK=>?_;replace h:=Q4 h;obtain ⟨a81,h⟩:=h;simp [-Q0,-Q7,-Q1,-Q8,-Q2,Qn a81];(repeat refine sdQ ?_);refine hK _ ?_;clear hK K;cases h;exact rn (s':=s70+1) hk70 (wkQ9 [])
    have g71:¬ (s70<((gx p_.bf s54).length:Int)):=gQ;clear g;replace h:=if_r g71 h;refine Ql ?_;refine tx ?_;refine lx ?_;refine bh ?_;refine bn ?_;cases h;have q:_=e70:=hk70;have h:=h70;rw [← q] at h;clear q;(try dsimp only at h);exact jn (b:=()) (Option.some.inj h) (wkQ9 [])
   intro b56 hb56;have h:=h56;(try rw [← hb56] at h);clear h56;(try dsimp only at h);refine runQ hN fun K hK=>?_;replace h:=Q4 h;obtain ⟨a82,h⟩:=h;simp [-Q0,-Q7,-Q1,-Q8,-Q2,Qn a82];(repeat refine sdQ ?_);refine hK _ ?_;clear hK K;cases h;exact rn (s':=s54+1) hk54 (wkQ9 [])
  have g55:¬ (s54<(p_.bf.length:Int)):=gQ;clear g;replace h:=if_r g55 h;refine Ql ?_;refine tx ?_;refine lx ?_;refine bh ?_;cases h;exact jn (b:=()) hk54 (wkQ9 [])
 intro b25 hb25;have h:=h25;try rw [← hb25] at h
 clear h25;try dsimp only at h
 refine Q5 ?_;refine Q5 ?_;refine runQ hN fun K hK=>?_;simp [-Q0,-Q7,-Q1,-Q8,-Q2];repeat refine sdQ ?_
 refine hK _ ?_;clear hK K;refine tn ?_;refine Q9 (st':=⟨[(0,.rptr (Prf.cells true p_)),(3,.rptr (Prf.cells true p_)),(4,.rptr [iV p_.t.n,lI p_.t.fr,lI p_.t.to,lI p_.t.id,.lst true 1 (Ls p_.t.cs),.lst true 1 (Ls p_.sz),.lst true 1 (Es eL p_.bf),.lst true 1 (Es eL p_.bh)]),(144,.lst true 1 (Es eL p_.bh)),(145,iV (p_.bh.length:Int)),(146,iV 0)],[],0⟩) (wkQ9 []) ?_;replace h:=bind_some h;obtain ⟨e83,h,h83⟩:=h;refine Qj (fun b83:Unit=>⟨[],[],0⟩) (fun b83=>Sum.inl b83=e83) ?_ ?_
 ·refine Qa ?_;refine Qr h (fun s112:Int=>⟨[(0,.rptr (Prf.cells true p_)),(3,.rptr (Prf.cells true p_)),(4,.rptr [iV p_.t.n,lI p_.t.fr,lI p_.t.to,lI p_.t.id,.lst true 1 (Ls p_.t.cs),.lst true 1 (Ls p_.sz),.lst true 1 (Es eL p_.bf),.lst true 1 (Es eL p_.bh)]),(144,.lst true 1 (Es eL p_.bh)),(145,iV (p_.bh.length:Int)),(146,iV s112)],[],0⟩) (wkQ9 []) ?_;clear h;intro k112 s112 c112 h hk112;refine Q5 ?_;refine runQ hN fun K hK=>?_;simp [-Q0,-Q7,-Q1,-Q8,-Q2];repeat refine sdQ ?_
  refine hK _ ?_;clear hK K;refine tn ?_;refine Q9 (st':=⟨[(0,.rptr (Prf.cells true p_)),(3,.rptr (Prf.cells true p_)),(4,.rptr [iV p_.t.n,lI p_.t.fr,lI p_.t.to,lI p_.t.id,.lst true 1 (Ls p_.t.cs),.lst true 1 (Ls p_.sz),.lst true 1 (Es eL p_.bf),.lst true 1 (Es eL p_.bh)]),(144,.lst true 1 (Es eL p_.bh)),(145,iV (p_.bh.length:Int)),(146,iV s112),(147,.val (.bool (decide (s112<(p_.bh.length:Int)))))],[],0⟩) (wkQ9 []) ?_;refine Q5 ?_;refine Qc rfl (fun g=>?_) fun g=>?_
  ·have g113:s112<(p_.bh.length:Int):=gQ;clear g;replace h:=if_l g113 h;refine Qd ?_;refine tn ?_;refine Q5 ?_;replace h:=bind_some h;obtain ⟨e114,h,h114⟩:=h;refine Qj (fun b114:Unit=>⟨[(0,.rptr (Prf.cells true p_)),(3,.rptr (Prf.cells true p_)),(4,.rptr [iV p_.t.n,lI p_.t.fr,lI p_.t.to,lI p_.t.id,.lst true 1 (Ls p_.t.cs),.lst true 1 (Ls p_.sz),.lst true 1 (Es eL p_.bf),.lst true 1 (Es eL p_.bh)]),(144,.lst true 1 (Es eL p_.bh)),(145,iV (p_.bh.length:Int)),(146,iV s112)],[],0⟩) (fun b114=>Sum.inl b114=e114) ?_ ?_
   ·refine Qa ?_;refine Q5 ?_;refine runQ hN fun K hK=>?_;replace h:=Q4 h;obtain ⟨a115,h⟩:=h;simp [-Q0,-Q7,-Q1,-Q8,-Q2,at_E (c:=eL) a115];(repeat refine sdQ ?_);refine hK _ ?_;clear hK K;refine tn ?_;refine Q9 (st':=⟨[(0,.rptr (Prf.cells true p_)),(3,.rptr (Prf.cells true p_)),(4,.rptr [iV p_.t.n,lI p_.t.fr,lI p_.t.to,lI p_.t.id,.lst true 1 (Ls p_.t.cs),.lst true 1 (Ls p_.sz),.lst true 1 (Es eL p_.bf),.lst true 1 (Es eL p_.bh)]),(11,iV s112),(12,.lst true 1 (Ls (gx p_.bh s112))),(144,.lst true 1 (Es eL p_.bh)),(145,iV (p_.bh.length:Int)),(146,iV s112)],[],0⟩) (wkQ9 []) ?_;refine Q5 ?_;refine Q5 ?_;refine runQ hN fun K hK=>?_;simp [-Q0,-Q7,-Q1,-Q8,-Q2];(repeat refine sdQ ?_);refine hK _ ?_;clear hK K;refine tn ?_;refine Q9 (st':=⟨[(0,.rptr (Prf.cells true p_)),(3,.rptr (Prf.cells true p_)),(4,.rptr [iV p_.t.n,lI p_.t.fr,lI p_.t.to,lI p_.t.id,.lst true 1 (Ls p_.t.cs),.lst true 1 (Ls p_.sz),.lst true 1 (Es eL p_.bf),.lst true 1 (Es eL p_.bh)]),(11,iV s112),(12,.lst true 1 (Ls (gx p_.bh s112))),(144,.lst true 1 (Es eL p_.bh)),(145,iV (p_.bh.length:Int)),(146,iV s112),(157,.val (.bool (((gx p_.bh s112).length:Int) != p_.s.n)))],[],0⟩) (wkQ9 []) ?_;refine Qc rfl (fun g=>?_) fun g=>?_
    ·have g116:¬ (((gx p_.bh s112).length:Int)=p_.s.n):=gQ;clear g;replace h:=if_l g116 h;refine Q5 ?_;refine runQ hN fun K hK=>?_;simp [-Q0,-Q7,-Q1,-Q8,-Q2];(repeat refine sdQ ?_);refine hK _ ?_;clear hK K;refine tn ?_;refine Q9 (st':=⟨[(2,.val (.bool false))],[],0⟩) (wkQ9 []) ?_;refine Qh ?_;refine tr ?_;refine br ?_;refine tr ?_;refine lr ?_;refine br ?_;refine tr ?_;cases h;have h:=h114;(try dsimp only at h);cases h;have q:_=e83:=hk112;have h:=h83;rw [← q] at h;clear q;(try dsimp only at h);have hr:=Option.some.inj h;rw [← hr];refine ⟨_,(.tmp .nil),?_⟩;refine ⟨(.one rfl rfl .nil),[.val (.bool false)],[],by simp [Cat.cells,Prf.cells,UA,U1,IA,I1,LA,L1,BA,B1,EA,E1,E2,eB,eI,eL],by simp,(UpL.refl _)⟩
    have g116:¬ (¬ (((gx p_.bh s112).length:Int)=p_.s.n)):=gQ;clear g;replace h:=if_r g116 h;refine Qd ?_;refine tn ?_;refine Q5 ?_;refine runQ hN fun K hK=>?_;simp [-Q0,-Q7,-Q1,-Q8,-Q2];(repeat refine sdQ ?_);refine hK _ ?_;clear hK K;refine tn ?_;refine Q9 (st':=⟨[(0,.rptr (Prf.cells true p_)),(3,.rptr (Prf.cells true p_)),(4,.rptr [iV p_.t.n,lI p_.t.fr,lI p_.t.to,lI p_.t.id,.lst true 1 (Ls p_.t.cs),.lst true 1 (Ls p_.sz),.lst true 1 (Es eL p_.bf),.lst true 1 (Es eL p_.bh)]),(11,iV s112),(144,.lst true 1 (Es eL p_.bh)),(145,iV (p_.bh.length:Int)),(146,iV s112),(158,.lst true 1 (Ls (gx p_.bh s112))),(159,iV ((gx p_.bh s112).length:Int)),(160,iV 0)],[],0⟩) (wkQ9 []) ?_;refine Qa ?_;replace h:=bind_some h;obtain ⟨e128,he128,h128⟩:=h;refine Qr he128 (fun s128:Int=>⟨[(0,.rptr (Prf.cells true p_)),(3,.rptr (Prf.cells true p_)),(4,.rptr [iV p_.t.n,lI p_.t.fr,lI p_.t.to,lI p_.t.id,.lst true 1 (Ls p_.t.cs),.lst true 1 (Ls p_.sz),.lst true 1 (Es eL p_.bf),.lst true 1 (Es eL p_.bh)]),(11,iV s112),(144,.lst true 1 (Es eL p_.bh)),(145,iV (p_.bh.length:Int)),(146,iV s112),(158,.lst true 1 (Ls (gx p_.bh s112))),(159,iV ((gx p_.bh s112).length:Int)),(160,iV s128)],[],0⟩) (wkQ9 []) ?_;intro k128 s128 c128 h hk128;refine Q5 ?_;refine runQ hN fun K hK=>?_;simp [-Q0,-Q7,-Q1,-Q8,-Q2];(repeat refine sdQ ?_);refine hK _ ?_;clear hK K;refine tn ?_;refine Q9 (st':=⟨[(0,.rptr (Prf.cells true p_)),(3,.rptr (Prf.cells true p_)),(4,.rptr [iV p_.t.n,lI p_.t.fr,lI p_.t.to,lI p_.t.id,.lst true 1 (Ls p_.t.cs),.lst true 1 (Ls p_.sz),.lst true 1 (Es eL p_.bf),.lst true 1 (Es eL p_.bh)]),(11,iV s112),(144,.lst true 1 (Es eL p_.bh)),(145,iV (p_.bh.length:Int)),(146,iV s112),(158,.lst true 1 (Ls (gx p_.bh s112))),(159,iV ((gx p_.bh s112).length:Int)),(160,iV s128),(161,.val (.bool (decide (s128<((gx p_.bh s112).length:Int)))))],[],0⟩) (wkQ9 []) ?_;refine Q5 ?_;refine Qc rfl (fun g=>?_) fun g=>?_
    ·have g129:s128<((gx p_.bh s112).length:Int):=gQ;clear g;replace h:=if_l g129 h;refine Qd ?_;refine tn ?_;refine Q5 ?_;refine Qa ?_;refine Q5 ?_;refine runQ hN fun K hK=>?_;replace h:=Q4 h;obtain ⟨a130,h⟩:=h;simp [-Q0,-Q7,-Q1,-Q8,-Q2,at_L a130];(repeat refine sdQ ?_);refine hK _ ?_;clear hK K;refine tn ?_;refine Q9 (st':=⟨[(0,.rptr (Prf.cells true p_)),(3,.rptr (Prf.cells true p_)),(4,.rptr [iV p_.t.n,lI p_.t.fr,lI p_.t.to,lI p_.t.id,.lst true 1 (Ls p_.t.cs),.lst true 1 (Ls p_.sz),.lst true 1 (Es eL p_.bf),.lst true 1 (Es eL p_.bh)]),(11,iV s112),(13,iV s128),(14,lI (rx (gx p_.bh s112) s128)),(144,.lst true 1 (Es eL p_.bh)),(145,iV (p_.bh.length:Int)),(146,iV s112),(158,.lst true 1 (Ls (gx p_.bh s112))),(159,iV ((gx p_.bh s112).length:Int)),(160,iV s128)],[],0⟩) (wkQ9 []) ?_;refine Q5 ?_;refine runQ hN fun K hK=>?_;replace h:=Q4 h;obtain ⟨a131,h⟩:=h;replace h:=Q4 h;obtain ⟨a132,h⟩:=h;replace h:=Q4 h;obtain ⟨a133,h⟩:=h;replace h:=Q4 h;obtain ⟨a134,h⟩:=h;replace h:=Q4 h;obtain ⟨a135,h⟩:=h;replace h:=Q4 h;obtain ⟨a136,h⟩:=h;simp [-Q0,-Q7,-Q1,-Q8,-Q2,at_L a131,at_I a132,at_I a133,at_L a134,at_I a135,at_I a136];(repeat with_reducible refine sdQ ?_);replace h:=bind_some h;obtain ⟨v137,hv137,h⟩:=h;refine Q3 (Q4z _ _ _ v137 hv137) (.cons .lst (.cons .val (.cons .val .nil))) ?_;simp [-Q0,-Q7,-Q1,-Q8,-Q2,unk,unA,unE,unT,unC,flat,at_L a131,at_I a132,at_I a133,at_L a134,at_I a135,at_I a136];(repeat refine sdQ ?_);refine hK _ ?_;clear hK K;refine tn ?_;refine Q9 (st':=⟨[(0,.rptr (Prf.cells true p_)),(3,.rptr (Prf.cells true p_)),(4,.rptr [iV p_.t.n,lI p_.t.fr,lI p_.t.to,lI p_.t.id,.lst true 1 (Ls p_.t.cs),.lst true 1 (Ls p_.sz),.lst true 1 (Es eL p_.bf),.lst true 1 (Es eL p_.bh)]),(11,iV s112),(144,.lst true 1 (Es eL p_.bh)),(145,iV (p_.bh.length:Int)),(146,iV s112),(158,.lst true 1 (Ls (gx p_.bh s112))),(159,iV ((gx p_.bh s112).length:Int)),(160,iV s128),(199,.val (.bool (!v137)))],[],0⟩) (wkQ9 []) ?_;refine Qc rfl (fun g=>?_) fun g=>?_
     ·have g138:¬ (v137=true):=gQ;clear g;replace h:=if_l g138 h;refine Q5 ?_;refine runQ hN fun K hK=>?_;simp [-Q0,-Q7,-Q1,-Q8,-Q2];(repeat refine sdQ ?_);refine hK _ ?_;clear hK K;refine tn ?_;refine Q9 (st':=⟨[(2,.val (.bool false))],[],0⟩) (wkQ9 []) ?_;refine Qh ?_;refine br ?_;refine tr ?_;refine lr ?_;refine br ?_;refine br ?_;refine tr ?_;refine lr ?_;refine br ?_;refine tr ?_;cases h;have q:_=e128:=hk128;have h:=h128;rw [← q] at h;clear q;(try dsimp only at h);cases h;have h:=h114;(try dsimp only at h);cases h;have q:_=e83:=hk112;have h:=h83;rw [← q] at h;clear q;(try dsimp only at h);have hr:=Option.some.inj h;rw [← hr];refine ⟨_,(.tmp .nil),?_⟩;refine ⟨(.one rfl rfl .nil),[.val (.bool false)],[],by simp [Cat.cells,Prf.cells,UA,U1,IA,I1,LA,L1,BA,B1,EA,E1,E2,eB,eI,eL],by simp,(UpL.refl _)⟩
     have g138:¬ (¬ (v137=true)):=gQ;clear g;replace h:=if_r g138 h;refine Qd ?_;refine bn ?_;refine tn ?_;refine runQ hN fun K hK=>?_;replace h:=Q4 h;obtain ⟨a139,h⟩:=h;simp [-Q0,-Q7,-Q1,-Q8,-Q2,Qn a139];(repeat refine sdQ ?_);refine hK _ ?_;clear hK K;cases h;exact rn (s':=s128+1) hk128 (wkQ9 [])
    have g129:¬ (s128<((gx p_.bh s112).length:Int)):=gQ;clear g;replace h:=if_r g129 h;refine Ql ?_;refine tx ?_;refine lx ?_;refine bh ?_;refine bn ?_;cases h;have q:_=e128:=hk128;have h:=h128;rw [← q] at h;clear q;(try dsimp only at h);exact jn (b:=()) (Option.some.inj h) (wkQ9 [])
   intro b114 hb114;have h:=h114;(try rw [← hb114] at h);clear h114;(try dsimp only at h);refine runQ hN fun K hK=>?_;replace h:=Q4 h;obtain ⟨a140,h⟩:=h;simp [-Q0,-Q7,-Q1,-Q8,-Q2,Qn a140];(repeat refine sdQ ?_);refine hK _ ?_;clear hK K;cases h;exact rn (s':=s112+1) hk112 (wkQ9 [])
  have g113:¬ (s112<(p_.bh.length:Int)):=gQ;clear g;replace h:=if_r g113 h;refine Ql ?_;refine tx ?_;refine lx ?_;refine bh ?_;cases h;exact jn (b:=()) hk112 (wkQ9 [])
 intro b83 hb83;have h:=h83;try rw [← hb83] at h
 clear h83;try dsimp only at h
 refine Q5 ?_;refine runQ hN fun K hK=>?_;simp [-Q0,-Q7,-Q1,-Q8,-Q2];repeat refine sdQ ?_
 refine hK _ ?_;clear hK K;refine tn ?_;refine Q9 (st':=⟨[(2,.val (.bool true))],[],0⟩) (wkQ9 []) ?_;refine Qh ?_;have hr:=Option.some.inj h;rw [← hr];refine ⟨_,(.tmp .nil),?_⟩;refine ⟨(.one rfl rfl .nil),[.val (.bool true)],[],by simp [Cat.cells,Prf.cells,UA,U1,IA,I1,LA,L1,BA,B1,EA,E1,E2,eB,eI,eL],by simp,(UpL.refl _)⟩
attribute [local simp] eL eI Qw Q2F Prf.cells
noncomputable def Qx (p_:Prf):Option Bool :=
 (
  (QB p_).bind fun v2 =>
  if ¬ (v2=true) then
   some true
  else
   (QJ p_).bind fun v4 =>
   some (!v4):Option (Bool)).bind fun b1 =>
 if b1=true then
  some false
 else
  (Qu (σ:=Int) (ε:=Unit ⊕ Bool) (fun s47 =>
   if s47<(p_.bf.length:Int) then
    (
     (Qu (σ:=Int) (ε:=Bool ⊕ Unit) (fun s68 =>
      if s68<(p_.bh.length:Int) then
       ass (0≤s47∧s47<(p_.bf.length:Int)) <|
       ass (0≤s68∧s68<(p_.t.fr.length:Int)) <|
       ass (0≤ix p_.t.fr s68∧ix p_.t.fr s68<((gx p_.bf s47).length:Int)) <|
       ass (0≤s68∧s68<(p_.bh.length:Int)) <|
       ass (0≤s47∧s47<(p_.s.fr.length:Int)) <|
       ass (0≤ix p_.s.fr s47∧ix p_.s.fr s47<((gx p_.bh s68).length:Int)) <|
       (Q1c (rx (gx p_.bf s47) (ix p_.t.fr s68)) (rx (gx p_.bh s68) (ix p_.s.fr s47))).bind fun v76 =>
       ass (0≤s68∧s68<(p_.bh.length:Int)) <|
       ass (0≤s47∧s47<(p_.s.to.length:Int)) <|
       ass (0≤ix p_.s.to s47∧ix p_.s.to s47<((gx p_.bh s68).length:Int)) <|
       ass (0≤s47∧s47<(p_.bf.length:Int)) <|
       ass (0≤s68∧s68<(p_.t.to.length:Int)) <|
       ass (0≤ix p_.t.to s68∧ix p_.t.to s68<((gx p_.bf s47).length:Int)) <|
       (Q1c (rx (gx p_.bh s68) (ix p_.s.to s47)) (rx (gx p_.bf s47) (ix p_.t.to s68))).bind fun v83 =>
       (Q1k v76 v83).bind fun v84 =>
       if ¬ (v84=true) then
        some (Ctl.ret (Sum.inl false))
       else
        ass (B64 (s68+1)) <|
        some (Ctl.next (s68+1))
      else
       some (Ctl.ret (Sum.inr ()))) fuel 0).bind fun e68 =>
     match e68 with
     | .inl p68 =>
      some (Sum.inr p68)
     | .inr p68 =>
      some (Sum.inl p68):Option (Unit ⊕ Bool)).bind fun e49 =>
    match e49 with
    | .inl b49 =>
     ass (B64 (s47+1)) <|
     some (Ctl.next (s47+1))
    | .inr p49 =>
     some (Ctl.ret (Sum.inr p49))
   else
    some (Ctl.ret (Sum.inl ()))) fuel 0).bind fun e6 =>
  match e6 with
  | .inl b6 =>
   some true
  | .inr p6 =>
   some p6
theorem Q23 (p_:Prf) (r:Bool) (h:Qx p_=some r):Contract Try.prog 62 [.rptr (p_.cells true)] (.val (.bool r)):=by
 refine Qg (rvs:=[.tmp 2]) (rs:=[.val (.bool r)]) Try.func62 rfl rfl rfl rfl (by simp [Try.f62]) fun F hN hP=>?_;unfold Qx at h;refine Q5 ?_;refine runQ hN fun K hK=>?_;simp [-Q0,-Q7,-Q1,-Q8,-Q2];repeat refine sdQ ?_
 refine hK _ ?_;clear hK K;refine tn ?_;refine Q9 (st':=⟨[(0,.rptr (Prf.cells true p_))],[],0⟩) (wkQ9 []) ?_;refine Q5 ?_;refine Q5 ?_;replace h:=bind_some h;obtain ⟨e1,h,h1⟩:=h;refine Qj (fun b1:Bool=>⟨[(0,.rptr (Prf.cells true p_)),(16,.val (.bool b1))],[],0⟩) (fun b1=>b1=e1) ?_ ?_
 ·refine runQ hN fun K hK=>?_;simp [-Q0,-Q7,-Q1,-Q8,-Q2];repeat with_reducible refine sdQ ?_
  replace h:=bind_some h;obtain ⟨v2,hv2,h⟩:=h;refine Q3 (Q2I _ v2 hv2) (.cons (.preT (by simp [Prf.cells])) .nil) ?_;simp [-Q0,-Q7,-Q1,-Q8,-Q2,unk,unA,unE,unT,unC,flat];repeat with_reducible refine sdQ ?_
  refine Qs (fun g=>?_) (fun g=>?_)
  ·have g3:¬ (¬ (v2=true)):=gQ;clear g;replace h:=if_r g3 h;simp [-Q0,-Q7,-Q1,-Q8,-Q2];(repeat with_reducible refine sdQ ?_);replace h:=bind_some h;obtain ⟨v4,hv4,h⟩:=h;refine Q3 (Q3q _ v4 hv4) (.cons (.preT (by simp [Prf.cells])) .nil) ?_;simp [-Q0,-Q7,-Q1,-Q8,-Q2,unk,unA,unE,unT,unC,flat];(repeat refine sdQ ?_);refine hK _ ?_;exact jn (b:=!v4) (Option.some.inj h) (wkQ9 [])
  have g3:¬ (v2=true):=gQ;clear g;replace h:=if_l g3 h;simp [-Q0,-Q7,-Q1,-Q8,-Q2];repeat refine sdQ ?_
  refine hK _ ?_;exact jn (b:=true) (Option.some.inj h) (wkQ9 [])
 intro b1 hb1;have h:=h1;try rw [← hb1] at h
 clear h1;try dsimp only at h
 refine Qc rfl (fun g=>?_) fun g=>?_
 ·have g5:b1=true:=gQ;clear g;replace h:=if_l g5 h;refine Q5 ?_;refine runQ hN fun K hK=>?_;simp [-Q0,-Q7,-Q1,-Q8,-Q2];repeat refine sdQ ?_
  refine hK _ ?_;clear hK K;refine tn ?_;refine Q9 (st':=⟨[(2,.val (.bool false))],[],0⟩) (wkQ9 []) ?_;refine Qh ?_;refine tr ?_;have hr:=Option.some.inj h;rw [← hr];refine ⟨_,(.tmp .nil),?_⟩;refine ⟨(.one rfl rfl .nil),[.val (.bool false)],[],by simp [Prf.cells,UA,U1,IA,I1,LA,L1,BA,B1,EA,E1,E2,eB,eI,eL],by simp,(UpL.refl _)⟩
 have g5:¬ (b1=true):=gQ;clear g;replace h:=if_r g5 h;refine Qd ?_;refine tn ?_;refine Q5 ?_;refine runQ hN fun K hK=>?_;simp [-Q0,-Q7,-Q1,-Q8,-Q2];repeat refine sdQ ?_
 refine hK _ ?_;clear hK K;refine tn ?_;refine Q9 (st':=⟨[(0,.rptr (Prf.cells true p_)),(3,.rptr (Prf.cells true p_)),(4,.rptr [iV p_.t.n,lI p_.t.fr,lI p_.t.to,lI p_.t.id,.lst true 1 (Ls p_.t.cs),.lst true 1 (Ls p_.sz),.lst true 1 (Es eL p_.bf),.lst true 1 (Es eL p_.bh)])],[],0⟩) (wkQ9 []) ?_;refine Q5 ?_;refine Q5 ?_;refine runQ hN fun K hK=>?_;simp [-Q0,-Q7,-Q1,-Q8,-Q2];repeat refine sdQ ?_
 refine hK _ ?_;clear hK K;refine tn ?_;refine Q9 (st':=⟨[(0,.rptr (Prf.cells true p_)),(3,.rptr (Prf.cells true p_)),(4,.rptr [iV p_.t.n,lI p_.t.fr,lI p_.t.to,lI p_.t.id,.lst true 1 (Ls p_.t.cs),.lst true 1 (Ls p_.sz),.lst true 1 (Es eL p_.bf),.lst true 1 (Es eL p_.bh)]),(27,iV (p_.bf.length:Int)),(28,iV 0)],[],0⟩) (wkQ9 []) ?_;replace h:=bind_some h;obtain ⟨e6,h,h6⟩:=h;refine Qj (fun b6:Unit=>⟨[],[],0⟩) (fun b6=>Sum.inl b6=e6) ?_ ?_
 ·refine Qa ?_;refine Qr h (fun s47:Int=>⟨[(0,.rptr (Prf.cells true p_)),(3,.rptr (Prf.cells true p_)),(4,.rptr [iV p_.t.n,lI p_.t.fr,lI p_.t.to,lI p_.t.id,.lst true 1 (Ls p_.t.cs),.lst true 1 (Ls p_.sz),.lst true 1 (Es eL p_.bf),.lst true 1 (Es eL p_.bh)]),(27,iV (p_.bf.length:Int)),(28,iV s47)],[],0⟩) (wkQ9 []) ?_;clear h;intro k47 s47 c47 h hk47;refine Q5 ?_;refine runQ hN fun K hK=>?_;simp [-Q0,-Q7,-Q1,-Q8,-Q2];repeat refine sdQ ?_
  refine hK _ ?_;clear hK K;refine tn ?_;refine Q9 (st':=⟨[(0,.rptr (Prf.cells true p_)),(3,.rptr (Prf.cells true p_)),(4,.rptr [iV p_.t.n,lI p_.t.fr,lI p_.t.to,lI p_.t.id,.lst true 1 (Ls p_.t.cs),.lst true 1 (Ls p_.sz),.lst true 1 (Es eL p_.bf),.lst true 1 (Es eL p_.bh)]),(27,iV (p_.bf.length:Int)),(28,iV s47),(29,.val (.bool (decide (s47<(p_.bf.length:Int)))))],[],0⟩) (wkQ9 []) ?_;refine Q5 ?_;refine Qc rfl (fun g=>?_) fun g=>?_
  ·have g48:s47<(p_.bf.length:Int):=gQ;clear g;replace h:=if_l g48 h;refine Qd ?_;refine tn ?_;refine Q5 ?_;replace h:=bind_some h;obtain ⟨e49,h,h49⟩:=h;refine Qj (fun b49:Unit=>⟨[(0,.rptr (Prf.cells true p_)),(3,.rptr (Prf.cells true p_)),(4,.rptr [iV p_.t.n,lI p_.t.fr,lI p_.t.to,lI p_.t.id,.lst true 1 (Ls p_.t.cs),.lst true 1 (Ls p_.sz),.lst true 1 (Es eL p_.bf),.lst true 1 (Es eL p_.bh)]),(27,iV (p_.bf.length:Int)),(28,iV s47)],[],0⟩) (fun b49=>Sum.inl b49=e49) ?_ ?_
   ·refine Qa ?_;refine Q5 ?_;refine runQ hN fun K hK=>?_;simp [-Q0,-Q7,-Q1,-Q8,-Q2];(repeat refine sdQ ?_);refine hK _ ?_;clear hK K;refine tn ?_;refine Q9 (st':=⟨[(0,.rptr (Prf.cells true p_)),(3,.rptr (Prf.cells true p_)),(4,.rptr [iV p_.t.n,lI p_.t.fr,lI p_.t.to,lI p_.t.id,.lst true 1 (Ls p_.t.cs),.lst true 1 (Ls p_.sz),.lst true 1 (Es eL p_.bf),.lst true 1 (Es eL p_.bh)]),(5,iV s47),(27,iV (p_.bf.length:Int)),(28,iV s47)],[],0⟩) (wkQ9 []) ?_;refine Q5 ?_;refine runQ hN fun K hK=>?_;simp [-Q0,-Q7,-Q1,-Q8,-Q2];(repeat refine sdQ ?_);refine hK _ ?_;clear hK K;refine tn ?_;refine Q9 (st':=⟨[(0,.rptr (Prf.cells true p_)),(3,.rptr (Prf.cells true p_)),(4,.rptr [iV p_.t.n,lI p_.t.fr,lI p_.t.to,lI p_.t.id,.lst true 1 (Ls p_.t.cs),.lst true 1 (Ls p_.sz),.lst true 1 (Es eL p_.bf),.lst true 1 (Es eL p_.bh)]),(5,iV s47),(27,iV (p_.bf.length:Int)),(28,iV s47),(35,iV (p_.bh.length:Int)),(36,iV 0)],[],0⟩) (wkQ9 []) ?_;refine Qa ?_;replace h:=bind_some h;obtain ⟨e68,he68,h68⟩:=h;refine Qr he68 (fun s68:Int=>⟨[(0,.rptr (Prf.cells true p_)),(3,.rptr (Prf.cells true p_)),(4,.rptr [iV p_.t.n,lI p_.t.fr,lI p_.t.to,lI p_.t.id,.lst true 1 (Ls p_.t.cs),.lst true 1 (Ls p_.sz),.lst true 1 (Es eL p_.bf),.lst true 1 (Es eL p_.bh)]),(5,iV s47),(27,iV (p_.bf.length:Int)),(28,iV s47),(35,iV (p_.bh.length:Int)),(36,iV s68)],[],0⟩) (wkQ9 []) ?_;intro k68 s68 c68 h hk68;refine Q5 ?_;refine runQ hN fun K hK=>?_;simp [-Q0,-Q7,-Q1,-Q8,-Q2];(repeat refine sdQ ?_);refine hK _ ?_;clear hK K;refine tn ?_;refine Q9 (st':=⟨[(0,.rptr (Prf.cells true p_)),(3,.rptr (Prf.cells true p_)),(4,.rptr [iV p_.t.n,lI p_.t.fr,lI p_.t.to,lI p_.t.id,.lst true 1 (Ls p_.t.cs),.lst true 1 (Ls p_.sz),.lst true 1 (Es eL p_.bf),.lst true 1 (Es eL p_.bh)]),(5,iV s47),(27,iV (p_.bf.length:Int)),(28,iV s47),(35,iV (p_.bh.length:Int)),(36,iV s68),(37,.val (.bool (decide (s68<(p_.bh.length:Int)))))],[],0⟩) (wkQ9 []) ?_;refine Q5 ?_;refine Qc rfl (fun g=>?_) fun g=>?_
    ·have g69:s68<(p_.bh.length:Int):=gQ;clear g;replace h:=if_l g69 h;refine Qd ?_;refine tn ?_;refine Q5 ?_;refine Qa ?_;refine Q5 ?_;refine runQ hN fun K hK=>?_;simp [-Q0,-Q7,-Q1,-Q8,-Q2];(repeat refine sdQ ?_);refine hK _ ?_;clear hK K;refine tn ?_;refine Q9 (st':=⟨[(0,.rptr (Prf.cells true p_)),(3,.rptr (Prf.cells true p_)),(4,.rptr [iV p_.t.n,lI p_.t.fr,lI p_.t.to,lI p_.t.id,.lst true 1 (Ls p_.t.cs),.lst true 1 (Ls p_.sz),.lst true 1 (Es eL p_.bf),.lst true 1 (Es eL p_.bh)]),(5,iV s47),(6,iV s68),(27,iV (p_.bf.length:Int)),(28,iV s47),(35,iV (p_.bh.length:Int)),(36,iV s68)],[],0⟩) (wkQ9 []) ?_;refine Q5 ?_;refine runQ hN fun K hK=>?_;replace h:=Q4 h;obtain ⟨a70,h⟩:=h;replace h:=Q4 h;obtain ⟨a71,h⟩:=h;replace h:=Q4 h;obtain ⟨a72,h⟩:=h;replace h:=Q4 h;obtain ⟨a73,h⟩:=h;replace h:=Q4 h;obtain ⟨a74,h⟩:=h;replace h:=Q4 h;obtain ⟨a75,h⟩:=h;simp [-Q0,-Q7,-Q1,-Q8,-Q2,at_E (c:=eL) a70,at_I a71,at_L a72,at_E (c:=eL) a73,at_I a74,at_L a75];(repeat with_reducible refine sdQ ?_);replace h:=bind_some h;obtain ⟨v76,hv76,h⟩:=h;refine Q3 (Q4e _ _ v76 hv76) (.cons .lst (.cons .lst .nil)) ?_;simp [-Q0,-Q7,-Q1,-Q8,-Q2,unk,unA,unE,unT,unC,flat,at_E (c:=eL) a70,at_I a71,at_L a72,at_E (c:=eL) a73,at_I a74,at_L a75];(repeat refine sdQ ?_);refine hK _ ?_;clear hK K;refine tn ?_;refine Q9 (st':=⟨[(0,.rptr (Prf.cells true p_)),(3,.rptr (Prf.cells true p_)),(4,.rptr [iV p_.t.n,lI p_.t.fr,lI p_.t.to,lI p_.t.id,.lst true 1 (Ls p_.t.cs),.lst true 1 (Ls p_.sz),.lst true 1 (Es eL p_.bf),.lst true 1 (Es eL p_.bh)]),(5,iV s47),(6,iV s68),(7,.own 0 0 v76.length),(27,iV (p_.bf.length:Int)),(28,iV s47),(35,iV (p_.bh.length:Int)),(36,iV s68)],[(0,rI v76)],1⟩) (wkQ9 [(0,0)]) ?_;refine Q5 ?_;refine runQ hN fun K hK=>?_;replace h:=Q4 h;obtain ⟨a77,h⟩:=h;replace h:=Q4 h;obtain ⟨a78,h⟩:=h;replace h:=Q4 h;obtain ⟨a79,h⟩:=h;replace h:=Q4 h;obtain ⟨a80,h⟩:=h;replace h:=Q4 h;obtain ⟨a81,h⟩:=h;replace h:=Q4 h;obtain ⟨a82,h⟩:=h;simp [-Q0,-Q7,-Q1,-Q8,-Q2,at_E (c:=eL) a77,at_I a78,at_L a79,at_E (c:=eL) a80,at_I a81,at_L a82];(repeat with_reducible refine sdQ ?_);replace h:=bind_some h;obtain ⟨v83,hv83,h⟩:=h;refine Q3 (Q4e _ _ v83 hv83) (.cons .lst (.cons .lst .nil)) ?_;simp [-Q0,-Q7,-Q1,-Q8,-Q2,unk,unA,unE,unT,unC,flat,at_E (c:=eL) a77,at_I a78,at_L a79,at_E (c:=eL) a80,at_I a81,at_L a82];(repeat refine sdQ ?_);refine hK _ ?_;clear hK K;refine tn ?_;refine Q9 (st':=⟨[(0,.rptr (Prf.cells true p_)),(3,.rptr (Prf.cells true p_)),(4,.rptr [iV p_.t.n,lI p_.t.fr,lI p_.t.to,lI p_.t.id,.lst true 1 (Ls p_.t.cs),.lst true 1 (Ls p_.sz),.lst true 1 (Es eL p_.bf),.lst true 1 (Es eL p_.bh)]),(5,iV s47),(7,.own 0 0 v76.length),(8,.own 1 0 v83.length),(27,iV (p_.bf.length:Int)),(28,iV s47),(35,iV (p_.bh.length:Int)),(36,iV s68)],[(0,rI v76),(1,rI v83)],2⟩) (wkQ9 [(0,0),(1,1)]) ?_
     refine Q5 ?_;refine runQ hN fun K hK=>?_;simp [-Q0,-Q7,-Q1,-Q8,-Q2];(repeat with_reducible refine sdQ ?_);replace h:=bind_some h;obtain ⟨v84,hv84,h⟩:=h;refine Q3 (Q3K _ _ v84 hv84) (.cons (.whole (by simp) (by simp) (by simp)) (.cons (.whole (by simp) (by simp) (by simp)) .nil)) ?_;simp [-Q0,-Q7,-Q1,-Q8,-Q2,unk,unA,unE,unT,unC,flat];(repeat refine sdQ ?_);refine hK _ ?_;clear hK K;refine tn ?_;refine Q9 (st':=⟨[(0,.rptr (Prf.cells true p_)),(3,.rptr (Prf.cells true p_)),(4,.rptr [iV p_.t.n,lI p_.t.fr,lI p_.t.to,lI p_.t.id,.lst true 1 (Ls p_.t.cs),.lst true 1 (Ls p_.sz),.lst true 1 (Es eL p_.bf),.lst true 1 (Es eL p_.bh)]),(5,iV s47),(27,iV (p_.bf.length:Int)),(28,iV s47),(35,iV (p_.bh.length:Int)),(36,iV s68),(108,.val (.bool (!v84)))],[],0⟩) (wkQ9 []) ?_;refine Qc rfl (fun g=>?_) fun g=>?_
     ·have g85:¬ (v84=true):=gQ;clear g;replace h:=if_l g85 h;refine Q5 ?_;refine runQ hN fun K hK=>?_;simp [-Q0,-Q7,-Q1,-Q8,-Q2];(repeat refine sdQ ?_);refine hK _ ?_;clear hK K;refine tn ?_;refine Q9 (st':=⟨[(2,.val (.bool false))],[],0⟩) (wkQ9 []) ?_;refine Qh ?_;refine br ?_;refine tr ?_;refine lr ?_;refine br ?_;refine br ?_;refine tr ?_;refine lr ?_;refine br ?_;refine tr ?_;cases h;have q:_=e68:=hk68;have h:=h68;rw [← q] at h;clear q;(try dsimp only at h);cases h;have h:=h49;(try dsimp only at h);cases h;have q:_=e6:=hk47;have h:=h6;rw [← q] at h;clear q;(try dsimp only at h);have hr:=Option.some.inj h;rw [← hr];refine ⟨_,(.tmp .nil),?_⟩;refine ⟨(.one rfl rfl .nil),[.val (.bool false)],[],by simp [Prf.cells,UA,U1,IA,I1,LA,L1,BA,B1,EA,E1,E2,eB,eI,eL],by simp,(UpL.refl _)⟩
     have g85:¬ (¬ (v84=true)):=gQ;clear g;replace h:=if_r g85 h;refine Qd ?_;refine bn ?_;refine tn ?_;refine runQ hN fun K hK=>?_;replace h:=Q4 h;obtain ⟨a86,h⟩:=h;simp [-Q0,-Q7,-Q1,-Q8,-Q2,Qn a86];(repeat refine sdQ ?_);refine hK _ ?_;clear hK K;cases h;exact rn (s':=s68+1) hk68 (wkQ9 [])
    have g69:¬ (s68<(p_.bh.length:Int)):=gQ;clear g;replace h:=if_r g69 h;refine Ql ?_;refine tx ?_;refine lx ?_;refine bh ?_;refine bn ?_;cases h;have q:_=e68:=hk68;have h:=h68;rw [← q] at h;clear q;(try dsimp only at h);exact jn (b:=()) (Option.some.inj h) (wkQ9 [])
   intro b49 hb49;have h:=h49;(try rw [← hb49] at h);clear h49;(try dsimp only at h);refine runQ hN fun K hK=>?_;replace h:=Q4 h;obtain ⟨a87,h⟩:=h;simp [-Q0,-Q7,-Q1,-Q8,-Q2,Qn a87];(repeat refine sdQ ?_);refine hK _ ?_;clear hK K;cases h;exact rn (s':=s47+1) hk47 (wkQ9 [])
  have g48:¬ (s47<(p_.bf.length:Int)):=gQ;clear g;replace h:=if_r g48 h;refine Ql ?_;refine tx ?_;refine lx ?_;refine bh ?_;cases h;exact jn (b:=()) hk47 (wkQ9 [])
 intro b6 hb6;have h:=h6;try rw [← hb6] at h
 clear h6;try dsimp only at h
 refine Q5 ?_;refine runQ hN fun K hK=>?_;simp [-Q0,-Q7,-Q1,-Q8,-Q2];repeat refine sdQ ?_
 refine hK _ ?_;clear hK K;refine tn ?_;refine Q9 (st':=⟨[(2,.val (.bool true))],[],0⟩) (wkQ9 []) ?_;refine Qh ?_;have hr:=Option.some.inj h;rw [← hr];refine ⟨_,(.tmp .nil),?_⟩;refine ⟨(.one rfl rfl .nil),[.val (.bool true)],[],by simp [Prf.cells,UA,U1,IA,I1,LA,L1,BA,B1,EA,E1,E2,eB,eI,eL],by simp,(UpL.refl _)⟩
attribute [local simp] eL eI Qw
noncomputable def Q1s (f_:List Int):Option Bool :=
 (Qu (σ:=Int) (ε:=Unit ⊕ Bool) (fun s6 =>
  if s6<(f_.length:Int) then
   ass (0≤s6∧s6<(f_.length:Int)) <|
   if ¬ ((ix f_ s6)=s6) then
    some (Ctl.ret (Sum.inr false))
   else
    ass (B64 (s6+1)) <|
    some (Ctl.next (s6+1))
  else
   some (Ctl.ret (Sum.inl ()))) fuel 0).bind fun e1 =>
 match e1 with
 | .inl b1 =>
  some true
 | .inr p1 =>
  some p1
theorem Q4B (f_:List Int) (r:Bool) (h:Q1s f_=some r):Contract Try.prog 183 [lI f_] (.val (.bool r)):=by
 refine Qg (rvs:=[.tmp 2]) (rs:=[.val (.bool r)]) Try.func183 rfl rfl rfl rfl (by simp [Try.f183]) fun F hN hP=>?_;unfold Q1s at h;refine Q5 ?_;refine runQ hN fun K hK=>?_;simp [-Q0,-Q7,-Q1,-Q8,-Q2];repeat refine sdQ ?_
 refine hK _ ?_;clear hK K;refine tn ?_;refine Q9 (st':=⟨[(0,lI f_)],[],0⟩) (wkQ9 []) ?_;refine Q5 ?_;refine Q5 ?_;refine runQ hN fun K hK=>?_;simp [-Q0,-Q7,-Q1,-Q8,-Q2];repeat refine sdQ ?_
 refine hK _ ?_;clear hK K;refine tn ?_;refine Q9 (st':=⟨[(0,lI f_),(3,iV 0)],[],0⟩) (wkQ9 []) ?_;replace h:=bind_some h;obtain ⟨e1,h,h1⟩:=h;refine Qj (fun b1:Unit=>⟨[],[],0⟩) (fun b1=>Sum.inl b1=e1) ?_ ?_
 ·refine Qa ?_;refine Qr h (fun s6:Int=>⟨[(0,lI f_),(3,iV s6)],[],0⟩) (wkQ9 []) ?_;clear h;intro k6 s6 c6 h hk6;refine Q5 ?_;refine Q5 ?_;refine runQ hN fun K hK=>?_;simp [-Q0,-Q7,-Q1,-Q8,-Q2];repeat refine sdQ ?_
  refine hK _ ?_;clear hK K;refine tn ?_;refine Q9 (st':=⟨[(0,lI f_),(3,iV s6),(7,.val (.bool (decide (s6<(f_.length:Int)))))],[],0⟩) (wkQ9 []) ?_;refine Qc rfl (fun g=>?_) fun g=>?_
  ·have g7:s6<(f_.length:Int):=gQ;clear g;replace h:=if_l g7 h;refine Qd ?_;refine tn ?_;refine Q5 ?_;refine Qa ?_;refine Q5 ?_;refine runQ hN fun K hK=>?_;replace h:=Q4 h;obtain ⟨a8,h⟩:=h;simp [-Q0,-Q7,-Q1,-Q8,-Q2,at_I a8];(repeat refine sdQ ?_);refine hK _ ?_;clear hK K;refine tn ?_;refine Q9 (st':=⟨[(0,lI f_),(3,iV s6),(15,.val (.bool ((ix f_ s6) != s6)))],[],0⟩) (wkQ9 []) ?_;refine Qc rfl (fun g=>?_) fun g=>?_
   ·have g9:¬ ((ix f_ s6)=s6):=gQ;clear g;replace h:=if_l g9 h;refine Q5 ?_;refine runQ hN fun K hK=>?_;simp [-Q0,-Q7,-Q1,-Q8,-Q2];(repeat refine sdQ ?_);refine hK _ ?_;clear hK K;refine tn ?_;refine Q9 (st':=⟨[(2,.val (.bool false))],[],0⟩) (wkQ9 []) ?_;refine Qh ?_;refine br ?_;refine tr ?_;refine lr ?_;refine br ?_;refine tr ?_;cases h;have q:_=e1:=hk6;have h:=h1;rw [← q] at h;clear q;(try dsimp only at h);have hr:=Option.some.inj h;rw [← hr];refine ⟨_,(.tmp .nil),?_⟩;refine ⟨(.one rfl rfl .nil),[.val (.bool false)],[],by simp [UA,U1,IA,I1,LA,L1,BA,B1,EA,E1,E2,eB,eI,eL],by simp,(UpL.refl _)⟩
   have g9:¬ (¬ ((ix f_ s6)=s6)):=gQ;clear g;replace h:=if_r g9 h;refine Qd ?_;refine bn ?_;refine tn ?_;refine runQ hN fun K hK=>?_;replace h:=Q4 h;obtain ⟨a10,h⟩:=h;simp [-Q0,-Q7,-Q1,-Q8,-Q2,Qn a10];(repeat refine sdQ ?_);refine hK _ ?_;clear hK K;cases h;exact rn (s':=s6+1) hk6 (wkQ9 [])
  have g7:¬ (s6<(f_.length:Int)):=gQ;clear g;replace h:=if_r g7 h;refine Ql ?_;refine tx ?_;refine lx ?_;refine bh ?_;cases h;exact jn (b:=()) hk6 (wkQ9 [])
 intro b1 hb1;have h:=h1;try rw [← hb1] at h
 clear h1;try dsimp only at h
 refine Q5 ?_;refine runQ hN fun K hK=>?_;simp [-Q0,-Q7,-Q1,-Q8,-Q2];repeat refine sdQ ?_
 refine hK _ ?_;clear hK K;refine tn ?_;refine Q9 (st':=⟨[(2,.val (.bool true))],[],0⟩) (wkQ9 []) ?_;refine Qh ?_;have hr:=Option.some.inj h;rw [← hr];refine ⟨_,(.tmp .nil),?_⟩;refine ⟨(.one rfl rfl .nil),[.val (.bool true)],[],by simp [UA,U1,IA,I1,LA,L1,BA,B1,EA,E1,E2,eB,eI,eL],by simp,(UpL.refl _)⟩
attribute [local simp] eL eI Qw Q17 Q2F Cat.cells Prf.cells
noncomputable def Q1Z (p_:Prf):Option Bool :=
 (Qu (σ:=Int) (ε:=Unit ⊕ Bool) (fun s102 =>
  if s102<p_.t.n then
   (
    (Qu (σ:=Int) (ε:=Unit ⊕ Bool) (fun s119 =>
     if s119<p_.s.n then
      (
       ass (0≤s119∧s119<(p_.s.id.length:Int)) <|
       ass (0≤ix p_.s.id s119∧ix p_.s.id s119<(p_.bf.length:Int)) <|
       ass (0≤s102∧s102<((gx p_.bf (ix p_.s.id s119)).length:Int)) <|
       (Q1s (rx (gx p_.bf (ix p_.s.id s119)) s102)).bind fun v125 =>
       if ¬ (v125=true) then
        some true
       else
        ass (0≤s102∧s102<(p_.t.id.length:Int)) <|
        ass (0≤ix p_.t.id s102∧ix p_.t.id s102<(p_.bh.length:Int)) <|
        ass (0≤s119∧s119<((gx p_.bh (ix p_.t.id s102)).length:Int)) <|
        (Q1s (rx (gx p_.bh (ix p_.t.id s102)) s119)).bind fun v130 =>
        some (!v130):Option (Bool)).bind fun b121 =>
      if b121=true then
       some (Ctl.ret (Sum.inr false))
      else
       ass (B64 (s119+1)) <|
       some (Ctl.next (s119+1))
     else
      some (Ctl.ret (Sum.inl ()))) fuel 0).bind fun e105 =>
    match e105 with
    | .inl b105 =>
     (Qu (σ:=Int) (ε:=Bool ⊕ Unit) (fun s167 =>
      if s167<(p_.s.fr.length:Int) then
       (
        (Qu (σ:=Int) (ε:=Bool ⊕ Unit) (fun s185 =>
         if s185<(p_.s.fr.length:Int) then
          ass (0≤s167∧s167<(p_.s.cs.length:Int)) <|
          ass (0≤s185∧s185<((rx p_.s.cs s167).length:Int)) <|
          (
           if (ix (rx p_.s.cs s167) s185) ≥ 0 then
            ass (0≤ix (rx p_.s.cs s167) s185∧ix (rx p_.s.cs s167) s185<(p_.bf.length:Int)) <|
            ass (0≤s102∧s102<((gx p_.bf (ix (rx p_.s.cs s167) s185)).length:Int)) <|
            ass (0≤s185∧s185<(p_.bf.length:Int)) <|
            ass (0≤s102∧s102<((gx p_.bf s185).length:Int)) <|
            ass (0≤s167∧s167<(p_.bf.length:Int)) <|
            ass (0≤s102∧s102<((gx p_.bf s167).length:Int)) <|
            (QE (rx (gx p_.bf s185) s102) (rx (gx p_.bf s167) s102)).bind fun v197 =>
            (Q14 (rx (gx p_.bf (ix (rx p_.s.cs s167) s185)) s102) v197).bind fun v198 =>
            some (!v198)
           else
            some false:Option (Bool)).bind fun b189 =>
          if b189=true then
           some (Ctl.ret (Sum.inl false))
          else
           ass (B64 (s185+1)) <|
           some (Ctl.next (s185+1))
         else
          some (Ctl.ret (Sum.inr ()))) fuel 0).bind fun e185 =>
        match e185 with
        | .inl p185 =>
         some (Sum.inr p185)
        | .inr p185 =>
         some (Sum.inl p185):Option (Unit ⊕ Bool)).bind fun e169 =>
       match e169 with
       | .inl b169 =>
        ass (B64 (s167+1)) <|
        some (Ctl.next (s167+1))
       | .inr p169 =>
        some (Ctl.ret (Sum.inl p169))
      else
       some (Ctl.ret (Sum.inr ()))) fuel 0).bind fun e167 =>
     match e167 with
     | .inl p167 =>
      some (Sum.inr p167)
     | .inr p167 =>
      some (Sum.inl p167)
    | .inr p105 =>
     some (Sum.inr p105):Option (Unit ⊕ Bool)).bind fun e104 =>
   match e104 with
   | .inl b104 =>
    ass (B64 (s102+1)) <|
    some (Ctl.next (s102+1))
   | .inr p104 =>
    some (Ctl.ret (Sum.inr p104))
  else
   some (Ctl.ret (Sum.inl ()))) fuel 0).bind fun e1 =>
 match e1 with
 | .inl b1 =>
  (Qu (σ:=Int) (ε:=Unit ⊕ Bool) (fun s276 =>
   if s276<p_.s.n then
    (
     (Qu (σ:=Int) (ε:=Bool ⊕ Unit) (fun s313 =>
      if s313<(p_.t.fr.length:Int) then
       (
        (Qu (σ:=Int) (ε:=Bool ⊕ Unit) (fun s331 =>
         if s331<(p_.t.fr.length:Int) then
          ass (0≤s313∧s313<(p_.t.cs.length:Int)) <|
          ass (0≤s331∧s331<((rx p_.t.cs s313).length:Int)) <|
          (
           if (ix (rx p_.t.cs s313) s331) ≥ 0 then
            ass (0≤ix (rx p_.t.cs s313) s331∧ix (rx p_.t.cs s313) s331<(p_.bh.length:Int)) <|
            ass (0≤s276∧s276<((gx p_.bh (ix (rx p_.t.cs s313) s331)).length:Int)) <|
            ass (0≤s313∧s313<(p_.bh.length:Int)) <|
            ass (0≤s276∧s276<((gx p_.bh s313).length:Int)) <|
            ass (0≤s331∧s331<(p_.bh.length:Int)) <|
            ass (0≤s276∧s276<((gx p_.bh s331).length:Int)) <|
            (QE (rx (gx p_.bh s313) s276) (rx (gx p_.bh s331) s276)).bind fun v343 =>
            (Q14 (rx (gx p_.bh (ix (rx p_.t.cs s313) s331)) s276) v343).bind fun v344 =>
            some (!v344)
           else
            some false:Option (Bool)).bind fun b335 =>
          if b335=true then
           some (Ctl.ret (Sum.inl false))
          else
           ass (B64 (s331+1)) <|
           some (Ctl.next (s331+1))
         else
          some (Ctl.ret (Sum.inr ()))) fuel 0).bind fun e331 =>
        match e331 with
        | .inl p331 =>
         some (Sum.inr p331)
        | .inr p331 =>
         some (Sum.inl p331):Option (Unit ⊕ Bool)).bind fun e315 =>
       match e315 with
       | .inl b315 =>
        ass (B64 (s313+1)) <|
        some (Ctl.next (s313+1))
       | .inr p315 =>
        some (Ctl.ret (Sum.inl p315))
      else
       some (Ctl.ret (Sum.inr ()))) fuel 0).bind fun e313 =>
     match e313 with
     | .inl p313 =>
      some (Sum.inr p313)
     | .inr p313 =>
      some (Sum.inl p313):Option (Unit ⊕ Bool)).bind fun e278 =>
    match e278 with
    | .inl b278 =>
     ass (B64 (s276+1)) <|
     some (Ctl.next (s276+1))
    | .inr p278 =>
     some (Ctl.ret (Sum.inr p278))
   else
    some (Ctl.ret (Sum.inl ()))) fuel 0).bind fun e203 =>
  match e203 with
  | .inl b203 =>
   (Qu (σ:=Int) (ε:=Unit ⊕ Bool) (fun s390 =>
    if s390<(p_.s.fr.length:Int) then
     (
      (Qu (σ:=Int) (ε:=Bool ⊕ Unit) (fun s411 =>
       if s411<(p_.t.fr.length:Int) then
        ass (0≤s390∧s390<(p_.bf.length:Int)) <|
        ass (0≤s411∧s411<(p_.t.fr.length:Int)) <|
        ass (0≤ix p_.t.fr s411∧ix p_.t.fr s411<((gx p_.bf s390).length:Int)) <|
        ass (0≤s411∧s411<(p_.bh.length:Int)) <|
        ass (0≤s390∧s390<(p_.s.fr.length:Int)) <|
        ass (0≤ix p_.s.fr s390∧ix p_.s.fr s390<((gx p_.bh s411).length:Int)) <|
        (QE (rx (gx p_.bf s390) (ix p_.t.fr s411)) (rx (gx p_.bh s411) (ix p_.s.fr s390))).bind fun v419 =>
        ass (0≤s411∧s411<(p_.bh.length:Int)) <|
        ass (0≤s390∧s390<(p_.s.to.length:Int)) <|
        ass (0≤ix p_.s.to s390∧ix p_.s.to s390<((gx p_.bh s411).length:Int)) <|
        ass (0≤s390∧s390<(p_.bf.length:Int)) <|
        ass (0≤s411∧s411<(p_.t.to.length:Int)) <|
        ass (0≤ix p_.t.to s411∧ix p_.t.to s411<((gx p_.bf s390).length:Int)) <|
        (QE (rx (gx p_.bh s411) (ix p_.s.to s390)) (rx (gx p_.bf s390) (ix p_.t.to s411))).bind fun v426 =>
        (Q14 v419 v426).bind fun v427 =>
        if ¬ (v427=true) then
         some (Ctl.ret (Sum.inl false))
        else
         ass (B64 (s411+1)) <|
         some (Ctl.next (s411+1))
       else
        some (Ctl.ret (Sum.inr ()))) fuel 0).bind fun e411 =>
      match e411 with
      | .inl p411 =>
       some (Sum.inr p411)
      | .inr p411 =>
       some (Sum.inl p411):Option (Unit ⊕ Bool)).bind fun e392 =>
     match e392 with
     | .inl b392 =>
      ass (B64 (s390+1)) <|
      some (Ctl.next (s390+1))
     | .inr p392 =>
      some (Ctl.ret (Sum.inr p392))
    else
     some (Ctl.ret (Sum.inl ()))) fuel 0).bind fun e349 =>
   match e349 with
   | .inl b349 =>
    some true
   | .inr p349 =>
    some p349
  | .inr p203 =>
   some p203
 | .inr p1 =>
  some p1
theorem Q6Z (p_:Prf) (r:Bool) (h:Q1Z p_=some r):Contract Try.prog 119 [.agg (p_.cells true)] (.val (.bool r)):=by
 refine Qg (rvs:=[.tmp 2]) (rs:=[.val (.bool r)]) Try.func119 rfl rfl rfl rfl (by simp [Try.f119]) fun F hN hP=>?_;unfold Q1Z at h;refine Q5 ?_;refine runQ hN fun K hK=>?_;simp [-Q0,-Q7,-Q1,-Q8,-Q2];repeat refine sdQ ?_
 refine hK _ ?_;clear hK K;refine tn ?_;refine Q9 (st':=⟨[(1,.adr 0 0 0)],[(0,.mix 13 [(Prf.cells true p_)])],1⟩) (wkQ9 [(0,0)]) ?_;refine Q5 ?_;refine w_runS mo (by rw [hN];decide) fun K hK=>?_;simp [-Q0,-Q7,-Q1,-Q8,-Q2];repeat refine sdQ ?_
 refine hK _ ?_;clear hK K;refine tn ?_;refine Q9 (st':=⟨[(1,.adr 0 0 0),(3,.adr 1 0 0),(4,.adr 2 0 0)],[(0,.mix 13 [(Prf.cells true p_)]),(1,.mix 5 [(Cat.cells true p_.s)]),(2,.mix 5 [(Cat.cells true p_.t)])],3⟩) (wkQ9 [(0,0),(1,1),(2,2)]) ?_;refine Q5 ?_;refine Q5 ?_;refine runQ hN fun K hK=>?_;simp [-Q0,-Q7,-Q1,-Q8,-Q2];repeat refine sdQ ?_
 refine hK _ ?_;clear hK K;refine tn ?_;refine Q9 (st':=⟨[(1,.adr 0 0 0),(3,.adr 1 0 0),(4,.adr 2 0 0),(5,iV 0)],[(0,.mix 13 [(Prf.cells true p_)]),(1,.mix 5 [(Cat.cells true p_.s)]),(2,.mix 5 [(Cat.cells true p_.t)])],3⟩) (wkQ9 [(0,0),(1,1),(2,2)]) ?_;replace h:=bind_some h;obtain ⟨e1,h,h1⟩:=h;refine Qj (fun b1:Unit=>⟨[(1,.adr 0 0 0),(3,.adr 1 0 0),(4,.adr 2 0 0)],[(0,.mix 13 [(Prf.cells true p_)]),(1,.mix 5 [(Cat.cells true p_.s)]),(2,.mix 5 [(Cat.cells true p_.t)])],3⟩) (fun b1=>Sum.inl b1=e1) ?_ ?_
 ·refine Qa ?_;refine Qr h (fun s102:Int=>⟨[(1,.adr 0 0 0),(3,.adr 1 0 0),(4,.adr 2 0 0),(5,iV s102)],[(0,.mix 13 [(Prf.cells true p_)]),(1,.mix 5 [(Cat.cells true p_.s)]),(2,.mix 5 [(Cat.cells true p_.t)])],3⟩) (wkQ9 [(0,0),(1,1),(2,2)]) ?_;clear h;intro k102 s102 c102 h hk102;refine Q5 ?_;refine Q5 ?_;refine runQ hN fun K hK=>?_;simp [-Q0,-Q7,-Q1,-Q8,-Q2];repeat refine sdQ ?_
  refine hK _ ?_;clear hK K;refine tn ?_;refine Q9 (st':=⟨[(1,.adr 0 0 0),(3,.adr 1 0 0),(4,.adr 2 0 0),(5,iV s102),(25,.val (.bool (decide (s102<p_.t.n))))],[(0,.mix 13 [(Prf.cells true p_)]),(1,.mix 5 [(Cat.cells true p_.s)]),(2,.mix 5 [(Cat.cells true p_.t)])],3⟩) (wkQ9 [(0,0),(1,1),(2,2)]) ?_;refine Qc rfl (fun g=>?_) fun g=>?_
  ·have g103:s102<p_.t.n:=gQ;clear g;replace h:=if_l g103 h;refine Qd ?_;refine tn ?_;refine Q5 ?_;replace h:=bind_some h;obtain ⟨e104,h,h104⟩:=h;refine Qj (fun b104:Unit=>⟨[(1,.adr 0 0 0),(3,.adr 1 0 0),(4,.adr 2 0 0),(5,iV s102)],[(0,.mix 13 [(Prf.cells true p_)]),(1,.mix 5 [(Cat.cells true p_.s)]),(2,.mix 5 [(Cat.cells true p_.t)])],3⟩) (fun b104=>Sum.inl b104=e104) ?_ ?_
   ·refine Qa ?_;refine Q5 ?_;refine Q5 ?_;refine runQ hN fun K hK=>?_;simp [-Q0,-Q7,-Q1,-Q8,-Q2];(repeat refine sdQ ?_);refine hK _ ?_;clear hK K;refine tn ?_;refine Q9 (st':=⟨[(1,.adr 0 0 0),(3,.adr 1 0 0),(4,.adr 2 0 0),(5,iV s102),(6,iV 0)],[(0,.mix 13 [(Prf.cells true p_)]),(1,.mix 5 [(Cat.cells true p_.s)]),(2,.mix 5 [(Cat.cells true p_.t)])],3⟩) (wkQ9 [(0,0),(1,1),(2,2)]) ?_;replace h:=bind_some h;obtain ⟨e105,h,h105⟩:=h;refine Qj (fun b105:Unit=>⟨[(1,.adr 0 0 0),(3,.adr 1 0 0),(4,.adr 2 0 0),(5,iV s102)],[(0,.mix 13 [(Prf.cells true p_)]),(1,.mix 5 [(Cat.cells true p_.s)]),(2,.mix 5 [(Cat.cells true p_.t)])],3⟩) (fun b105=>Sum.inl b105=e105) ?_ ?_
    ·refine Qa ?_;refine Qr h (fun s119:Int=>⟨[(1,.adr 0 0 0),(3,.adr 1 0 0),(4,.adr 2 0 0),(5,iV s102),(6,iV s119)],[(0,.mix 13 [(Prf.cells true p_)]),(1,.mix 5 [(Cat.cells true p_.s)]),(2,.mix 5 [(Cat.cells true p_.t)])],3⟩) (wkQ9 [(0,0),(1,1),(2,2)]) ?_;clear h;intro k119 s119 c119 h hk119;refine Q5 ?_;refine Q5 ?_;refine runQ hN fun K hK=>?_;simp [-Q0,-Q7,-Q1,-Q8,-Q2];(repeat refine sdQ ?_);refine hK _ ?_;clear hK K;refine tn ?_;refine Q9 (st':=⟨[(1,.adr 0 0 0),(3,.adr 1 0 0),(4,.adr 2 0 0),(5,iV s102),(6,iV s119),(31,.val (.bool (decide (s119<p_.s.n))))],[(0,.mix 13 [(Prf.cells true p_)]),(1,.mix 5 [(Cat.cells true p_.s)]),(2,.mix 5 [(Cat.cells true p_.t)])],3⟩) (wkQ9 [(0,0),(1,1),(2,2)]) ?_;refine Qc rfl (fun g=>?_) fun g=>?_
     ·have g120:s119<p_.s.n:=gQ;clear g;replace h:=if_l g120 h;refine Qd ?_;refine tn ?_;refine Q5 ?_;refine Qa ?_;refine Q5 ?_;replace h:=bind_some h;obtain ⟨e121,h,h121⟩:=h;refine Qj (fun b121:Bool=>⟨[(1,.adr 0 0 0),(3,.adr 1 0 0),(4,.adr 2 0 0),(5,iV s102),(6,iV s119),(63,.val (.bool b121))],[(0,.mix 13 [(Prf.cells true p_)]),(1,.mix 5 [(Cat.cells true p_.s)]),(2,.mix 5 [(Cat.cells true p_.t)])],3⟩) (fun b121=>b121=e121) ?_ ?_
      ·refine runQ hN fun K hK=>?_;replace h:=Q4 h;obtain ⟨a122,h⟩:=h;replace h:=Q4 h;obtain ⟨a123,h⟩:=h;replace h:=Q4 h;obtain ⟨a124,h⟩:=h;simp [-Q0,-Q7,-Q1,-Q8,-Q2,at_I a122,at_E (c:=eL) a123,at_L a124];(repeat with_reducible refine sdQ ?_);replace h:=bind_some h;obtain ⟨v125,hv125,h⟩:=h;refine Q3 (Q4B _ v125 hv125) (.cons .lst .nil) ?_;simp [-Q0,-Q7,-Q1,-Q8,-Q2,unk,unA,unE,unT,unC,flat,at_I a122,at_E (c:=eL) a123,at_L a124];(repeat with_reducible refine sdQ ?_);refine Qs (fun g=>?_) (fun g=>?_)
       ·have g126:¬ (¬ (v125=true)):=gQ;clear g;replace h:=if_r g126 h;replace h:=Q4 h;obtain ⟨a127,h⟩:=h;replace h:=Q4 h;obtain ⟨a128,h⟩:=h;replace h:=Q4 h;obtain ⟨a129,h⟩:=h;simp [-Q0,-Q7,-Q1,-Q8,-Q2,at_I a122,at_E (c:=eL) a123,at_L a124,at_I a127,at_E (c:=eL) a128,at_L a129];(repeat with_reducible refine sdQ ?_);replace h:=bind_some h;obtain ⟨v130,hv130,h⟩:=h;refine Q3 (Q4B _ v130 hv130) (.cons .lst .nil) ?_;simp [-Q0,-Q7,-Q1,-Q8,-Q2,unk,unA,unE,unT,unC,flat,at_I a122,at_E (c:=eL) a123,at_L a124,at_I a127,at_E (c:=eL) a128,at_L a129];(repeat refine sdQ ?_);refine hK _ ?_;exact jn (b:=!v130) (Option.some.inj h) (wkQ9 [(0,0),(1,1),(2,2)])
       have g126:¬ (v125=true):=gQ;clear g;replace h:=if_l g126 h;simp [-Q0,-Q7,-Q1,-Q8,-Q2,at_I a122,at_E (c:=eL) a123,at_L a124];(repeat refine sdQ ?_);refine hK _ ?_;exact jn (b:=true) (Option.some.inj h) (wkQ9 [(0,0),(1,1),(2,2)])
      intro b121 hb121;have h:=h121;(try rw [← hb121] at h);clear h121;(try dsimp only at h);refine Qc rfl (fun g=>?_) fun g=>?_
      ·have g131:b121=true:=gQ;clear g;replace h:=if_l g131 h;refine Q5 ?_;refine runQ hN fun K hK=>?_;simp [-Q0,-Q7,-Q1,-Q8,-Q2];(repeat refine sdQ ?_);refine hK _ ?_;clear hK K;refine tn ?_;refine Q9 (st':=⟨[(2,.val (.bool false))],[],0⟩) (wkQ9 []) ?_;refine Qh ?_;refine br ?_;refine tr ?_;refine lr ?_;refine br ?_;refine tr ?_;refine br ?_;refine tr ?_;refine lr ?_;refine br ?_;refine tr ?_;cases h;have q:_=e105:=hk119;have h:=h105;rw [← q] at h;clear q;(try dsimp only at h);cases h;have h:=h104;(try dsimp only at h);cases h;have q:_=e1:=hk102;have h:=h1;rw [← q] at h;clear q;(try dsimp only at h);have hr:=Option.some.inj h;rw [← hr];refine ⟨_,(.tmp .nil),?_⟩;refine ⟨(.one rfl rfl .nil),[.val (.bool false)],[],by simp [Cat.cells,Prf.cells,UA,U1,IA,I1,LA,L1,BA,B1,EA,E1,E2,eB,eI,eL],by simp,(UpL.refl _)⟩
      have g131:¬ (b121=true):=gQ;clear g;replace h:=if_r g131 h;refine Qd ?_;refine bn ?_;refine tn ?_;refine runQ hN fun K hK=>?_;replace h:=Q4 h;obtain ⟨a132,h⟩:=h;simp [-Q0,-Q7,-Q1,-Q8,-Q2,Qn a132];(repeat refine sdQ ?_);refine hK _ ?_;clear hK K;cases h;exact rn (s':=s119+1) hk119 (wkQ9 [(0,0),(1,1),(2,2)])
     have g120:¬ (s119<p_.s.n):=gQ;clear g;replace h:=if_r g120 h;refine Ql ?_;refine tx ?_;refine lx ?_;refine bh ?_;cases h;exact jn (b:=()) hk119 (wkQ9 [(0,0),(1,1),(2,2)])
    intro b105 hb105;have h:=h105;(try rw [← hb105] at h);clear h105;(try dsimp only at h);refine Q5 ?_;refine runQ hN fun K hK=>?_;simp [-Q0,-Q7,-Q1,-Q8,-Q2];(repeat refine sdQ ?_);refine hK _ ?_;clear hK K;refine tn ?_;refine Q9 (st':=⟨[(1,.adr 0 0 0),(3,.adr 1 0 0),(4,.adr 2 0 0),(5,iV s102),(7,iV 0)],[(0,.mix 13 [(Prf.cells true p_)]),(1,.mix 5 [(Cat.cells true p_.s)]),(2,.mix 5 [(Cat.cells true p_.t)])],3⟩) (wkQ9 [(0,0),(1,1),(2,2)]) ?_;refine Qa ?_;replace h:=bind_some h;obtain ⟨e167,he167,h167⟩:=h;refine Qr he167 (fun s167:Int=>⟨[(1,.adr 0 0 0),(3,.adr 1 0 0),(4,.adr 2 0 0),(5,iV s102),(7,iV s167)],[(0,.mix 13 [(Prf.cells true p_)]),(1,.mix 5 [(Cat.cells true p_.s)]),(2,.mix 5 [(Cat.cells true p_.t)])],3⟩) (wkQ9 [(0,0),(1,1),(2,2)]) ?_;intro k167 s167 c167 h hk167;refine Q5 ?_;refine Q5 ?_;refine runQ hN fun K hK=>?_;simp [-Q0,-Q7,-Q1,-Q8,-Q2];(repeat refine sdQ ?_);refine hK _ ?_;clear hK K;refine tn ?_;refine Q9 (st':=⟨[(1,.adr 0 0 0),(3,.adr 1 0 0),(4,.adr 2 0 0),(5,iV s102),(7,iV s167),(68,.val (.bool (decide (s167<(p_.s.fr.length:Int)))))],[(0,.mix 13 [(Prf.cells true p_)]),(1,.mix 5 [(Cat.cells true p_.s)]),(2,.mix 5 [(Cat.cells true p_.t)])],3⟩) (wkQ9 [(0,0),(1,1),(2,2)]) ?_;refine Qc rfl (fun g=>?_) fun g=>?_
    ·have g168:s167<(p_.s.fr.length:Int):=gQ;clear g;replace h:=if_l g168 h;refine Qd ?_;refine tn ?_;refine Q5 ?_;replace h:=bind_some h;obtain ⟨e169,h,h169⟩:=h;refine Qj (fun b169:Unit=>⟨[(1,.adr 0 0 0),(3,.adr 1 0 0),(4,.adr 2 0 0),(5,iV s102),(7,iV s167)],[(0,.mix 13 [(Prf.cells true p_)]),(1,.mix 5 [(Cat.cells true p_.s)]),(2,.mix 5 [(Cat.cells true p_.t)])],3⟩) (fun b169=>Sum.inl b169=e169) ?_ ?_
     ·refine Qa ?_;refine Q5 ?_;refine runQ hN fun K hK=>?_;simp [-Q0,-Q7,-Q1,-Q8,-Q2];(repeat refine sdQ ?_);refine hK _ ?_;clear hK K;refine tn ?_;refine Q9 (st':=⟨[(1,.adr 0 0 0),(3,.adr 1 0 0),(4,.adr 2 0 0),(5,iV s102),(7,iV s167),(8,iV 0)],[(0,.mix 13 [(Prf.cells true p_)]),(1,.mix 5 [(Cat.cells true p_.s)]),(2,.mix 5 [(Cat.cells true p_.t)])],3⟩) (wkQ9 [(0,0),(1,1),(2,2)]) ?_;refine Qa ?_;replace h:=bind_some h;obtain ⟨e185,he185,h185⟩:=h;refine Qr he185 (fun s185:Int=>⟨[(1,.adr 0 0 0),(3,.adr 1 0 0),(4,.adr 2 0 0),(5,iV s102),(7,iV s167),(8,iV s185)],[(0,.mix 13 [(Prf.cells true p_)]),(1,.mix 5 [(Cat.cells true p_.s)]),(2,.mix 5 [(Cat.cells true p_.t)])],3⟩) (wkQ9 [(0,0),(1,1),(2,2)]) ?_;intro k185 s185 c185 h hk185;refine Q5 ?_;refine Q5 ?_;refine runQ hN fun K hK=>?_;simp [-Q0,-Q7,-Q1,-Q8,-Q2];(repeat refine sdQ ?_);refine hK _ ?_;clear hK K;refine tn ?_;refine Q9 (st':=⟨[(1,.adr 0 0 0),(3,.adr 1 0 0),(4,.adr 2 0 0),(5,iV s102),(7,iV s167),(8,iV s185),(75,.val (.bool (decide (s185<(p_.s.fr.length:Int)))))],[(0,.mix 13 [(Prf.cells true p_)]),(1,.mix 5 [(Cat.cells true p_.s)]),(2,.mix 5 [(Cat.cells true p_.t)])],3⟩) (wkQ9 [(0,0),(1,1),(2,2)]) ?_;refine Qc rfl (fun g=>?_) fun g=>?_
      ·have g186:s185<(p_.s.fr.length:Int):=gQ;clear g;replace h:=if_l g186 h;refine Qd ?_;refine tn ?_;refine Q5 ?_;refine Qa ?_;refine Q5 ?_;refine runQ hN fun K hK=>?_;replace h:=Q4 h;obtain ⟨a187,h⟩:=h;replace h:=Q4 h;obtain ⟨a188,h⟩:=h;simp [-Q0,-Q7,-Q1,-Q8,-Q2,at_L a187,at_I a188];(repeat refine sdQ ?_);refine hK _ ?_;clear hK K;refine tn ?_;refine Q9 (st':=⟨[(1,.adr 0 0 0),(3,.adr 1 0 0),(4,.adr 2 0 0),(5,iV s102),(7,iV s167),(8,iV s185),(9,iV (ix (rx p_.s.cs s167) s185))],[(0,.mix 13 [(Prf.cells true p_)]),(1,.mix 5 [(Cat.cells true p_.s)]),(2,.mix 5 [(Cat.cells true p_.t)])],3⟩) (wkQ9 [(0,0),(1,1),(2,2)]) ?_;refine Q5 ?_;replace h:=bind_some h;obtain ⟨e189,h,h189⟩:=h;refine Qj (fun b189:Bool=>⟨[(1,.adr 0 0 0),(3,.adr 1 0 0),(4,.adr 2 0 0),(5,iV s102),(7,iV s167),(8,iV s185),(116,.val (.bool b189))],[(0,.mix 13 [(Prf.cells true p_)]),(1,.mix 5 [(Cat.cells true p_.s)]),(2,.mix 5 [(Cat.cells true p_.t)])],3⟩) (fun b189=>b189=e189) ?_ ?_
       ·refine runQ hN fun K hK=>?_;simp [-Q0,-Q7,-Q1,-Q8,-Q2];(repeat with_reducible refine sdQ ?_);refine Qs (fun g=>?_) (fun g=>?_)
        ·have g190:(ix (rx p_.s.cs s167) s185) ≥ 0:=gQ;clear g;replace h:=if_l g190 h;replace h:=Q4 h;obtain ⟨a191,h⟩:=h;replace h:=Q4 h;obtain ⟨a192,h⟩:=h;replace h:=Q4 h;obtain ⟨a193,h⟩:=h;replace h:=Q4 h;obtain ⟨a194,h⟩:=h;replace h:=Q4 h;obtain ⟨a195,h⟩:=h;replace h:=Q4 h;obtain ⟨a196,h⟩:=h;simp [-Q0,-Q7,-Q1,-Q8,-Q2,at_E (c:=eL) a191,at_L a192,at_E (c:=eL) a193,at_L a194,at_E (c:=eL) a195,at_L a196];(repeat with_reducible refine sdQ ?_);replace h:=bind_some h;obtain ⟨v197,hv197,h⟩:=h;refine Q3 (Q2E _ _ v197 hv197) (.cons .lst (.cons .lst .nil)) ?_;simp [-Q0,-Q7,-Q1,-Q8,-Q2,unk,unA,unE,unT,unC,flat,at_E (c:=eL) a191,at_L a192,at_E (c:=eL) a193,at_L a194,at_E (c:=eL) a195,at_L a196];(repeat with_reducible refine sdQ ?_);replace h:=bind_some h;obtain ⟨v198,hv198,h⟩:=h;refine Q3 (Q3r _ _ v198 hv198) (.cons .lst (.cons (.whole (by simp) (by simp) (by simp)) .nil)) ?_;simp [-Q0,-Q7,-Q1,-Q8,-Q2,unk,unA,unE,unT,unC,flat,at_E (c:=eL) a191,at_L a192,at_E (c:=eL) a193,at_L a194,at_E (c:=eL) a195,at_L a196];(repeat refine sdQ ?_);refine hK _ ?_;exact jn (b:=!v198) (Option.some.inj h) (wkQ9 [(0,0),(1,1),(2,2)])
        have g190:¬ ((ix (rx p_.s.cs s167) s185) ≥ 0):=gQ;clear g;replace h:=if_r g190 h;simp [-Q0,-Q7,-Q1,-Q8,-Q2];(repeat refine sdQ ?_);refine hK _ ?_;exact jn (b:=false) (Option.some.inj h) (wkQ9 [(0,0),(1,1),(2,2)])
       intro b189 hb189;have h:=h189;(try rw [← hb189] at h);clear h189;(try dsimp only at h);refine Qc rfl (fun g=>?_) fun g=>?_
       ·have g199:b189=true:=gQ;clear g;replace h:=if_l g199 h;refine Q5 ?_;refine runQ hN fun K hK=>?_;simp [-Q0,-Q7,-Q1,-Q8,-Q2];(repeat refine sdQ ?_);refine hK _ ?_;clear hK K;refine tn ?_;refine Q9 (st':=⟨[(2,.val (.bool false))],[],0⟩) (wkQ9 []) ?_;refine Qh ?_;refine br ?_;refine tr ?_;refine lr ?_;refine br ?_;refine br ?_;refine tr ?_;refine lr ?_;refine br ?_;refine br ?_;refine tr ?_;refine lr ?_;refine br ?_;refine tr ?_;cases h;have q:_=e185:=hk185;have h:=h185;rw [← q] at h;clear q;(try dsimp only at h);cases h;have h:=h169;(try dsimp only at h);cases h;have q:_=e167:=hk167;have h:=h167;rw [← q] at h;clear q;(try dsimp only at h);cases h;have h:=h104;(try dsimp only at h);cases h;have q:_=e1:=hk102;have h:=h1;rw [← q] at h;clear q;(try dsimp only at h);have hr:=Option.some.inj h;rw [← hr];refine ⟨_,(.tmp .nil),?_⟩;refine ⟨(.one rfl rfl .nil),[.val (.bool false)],[],by simp [Cat.cells,Prf.cells,UA,U1,IA,I1,LA,L1,BA,B1,EA,E1,E2,eB,eI,eL],by simp,(UpL.refl _)⟩
       have g199:¬ (b189=true):=gQ;clear g;replace h:=if_r g199 h;refine Qd ?_;refine bn ?_;refine tn ?_;refine runQ hN fun K hK=>?_;replace h:=Q4 h;obtain ⟨a200,h⟩:=h;simp [-Q0,-Q7,-Q1,-Q8,-Q2,Qn a200];(repeat refine sdQ ?_);refine hK _ ?_;clear hK K;cases h;exact rn (s':=s185+1) hk185 (wkQ9 [(0,0),(1,1),(2,2)])
      have g186:¬ (s185<(p_.s.fr.length:Int)):=gQ;clear g;replace h:=if_r g186 h;refine Ql ?_;refine tx ?_;refine lx ?_;refine bh ?_;refine bn ?_;cases h;have q:_=e185:=hk185;have h:=h185;rw [← q] at h;clear q;(try dsimp only at h);exact jn (b:=()) (Option.some.inj h) (wkQ9 [(0,0),(1,1),(2,2)])
     intro b169 hb169;have h:=h169;(try rw [← hb169] at h);clear h169;(try dsimp only at h);refine runQ hN fun K hK=>?_;replace h:=Q4 h;obtain ⟨a201,h⟩:=h;simp [-Q0,-Q7,-Q1,-Q8,-Q2,Qn a201];(repeat refine sdQ ?_);refine hK _ ?_;clear hK K;cases h;exact rn (s':=s167+1) hk167 (wkQ9 [(0,0),(1,1),(2,2)])
    have g168:¬ (s167<(p_.s.fr.length:Int)):=gQ;clear g;replace h:=if_r g168 h;refine Ql ?_;refine tx ?_;refine lx ?_;refine bh ?_;refine bn ?_;cases h;have q:_=e167:=hk167;have h:=h167;rw [← q] at h;clear q;(try dsimp only at h);exact jn (b:=()) (Option.some.inj h) (wkQ9 [(0,0),(1,1),(2,2)])
   intro b104 hb104;have h:=h104;(try rw [← hb104] at h);clear h104;(try dsimp only at h);refine runQ hN fun K hK=>?_;replace h:=Q4 h;obtain ⟨a202,h⟩:=h;simp [-Q0,-Q7,-Q1,-Q8,-Q2,Qn a202];(repeat refine sdQ ?_);refine hK _ ?_;clear hK K;cases h;exact rn (s':=s102+1) hk102 (wkQ9 [(0,0),(1,1),(2,2)])
  have g103:¬ (s102<p_.t.n):=gQ;clear g;replace h:=if_r g103 h;refine Ql ?_;refine tx ?_;refine lx ?_;refine bh ?_;cases h;exact jn (b:=()) hk102 (wkQ9 [(0,0),(1,1),(2,2)])
 intro b1 hb1;have h:=h1;try rw [← hb1] at h
 clear h1;try dsimp only at h
 refine Q5 ?_;refine Q5 ?_;refine runQ hN fun K hK=>?_;simp [-Q0,-Q7,-Q1,-Q8,-Q2];repeat refine sdQ ?_
 refine hK _ ?_;clear hK K;refine tn ?_;refine Q9 (st':=⟨[(1,.adr 0 0 0),(3,.adr 1 0 0),(4,.adr 2 0 0),(10,iV 0)],[(0,.mix 13 [(Prf.cells true p_)]),(1,.mix 5 [(Cat.cells true p_.s)]),(2,.mix 5 [(Cat.cells true p_.t)])],3⟩) (wkQ9 [(0,0),(1,1),(2,2)]) ?_;replace h:=bind_some h;obtain ⟨e203,h,h203⟩:=h;refine Qj (fun b203:Unit=>⟨[(1,.adr 0 0 0),(3,.adr 1 0 0),(4,.adr 2 0 0)],[(0,.mix 13 [(Prf.cells true p_)]),(1,.mix 5 [(Cat.cells true p_.s)]),(2,.mix 5 [(Cat.cells true p_.t)])],3⟩) (fun b203=>Sum.inl b203=e203) ?_ ?_
 ·refine Qa ?_;refine Qr h (fun s276:Int=>⟨[(1,.adr 0 0 0),(3,.adr 1 0 0),(4,.adr 2 0 0),(10,iV s276)],[(0,.mix 13 [(Prf.cells true p_)]),(1,.mix 5 [(Cat.cells true p_.s)]),(2,.mix 5 [(Cat.cells true p_.t)])],3⟩) (wkQ9 [(0,0),(1,1),(2,2)]) ?_;clear h;intro k276 s276 c276 h hk276;refine Q5 ?_;refine Q5 ?_;refine runQ hN fun K hK=>?_;simp [-Q0,-Q7,-Q1,-Q8,-Q2];repeat refine sdQ ?_
  refine hK _ ?_;clear hK K;refine tn ?_;refine Q9 (st':=⟨[(1,.adr 0 0 0),(3,.adr 1 0 0),(4,.adr 2 0 0),(10,iV s276),(120,.val (.bool (decide (s276<p_.s.n))))],[(0,.mix 13 [(Prf.cells true p_)]),(1,.mix 5 [(Cat.cells true p_.s)]),(2,.mix 5 [(Cat.cells true p_.t)])],3⟩) (wkQ9 [(0,0),(1,1),(2,2)]) ?_;refine Qc rfl (fun g=>?_) fun g=>?_
  ·have g277:s276<p_.s.n:=gQ;clear g;replace h:=if_l g277 h;refine Qd ?_;refine tn ?_;refine Q5 ?_;replace h:=bind_some h;obtain ⟨e278,h,h278⟩:=h;refine Qj (fun b278:Unit=>⟨[(1,.adr 0 0 0),(3,.adr 1 0 0),(4,.adr 2 0 0),(10,iV s276)],[(0,.mix 13 [(Prf.cells true p_)]),(1,.mix 5 [(Cat.cells true p_.s)]),(2,.mix 5 [(Cat.cells true p_.t)])],3⟩) (fun b278=>Sum.inl b278=e278) ?_ ?_
   ·refine Qa ?_;refine Q5 ?_;refine runQ hN fun K hK=>?_;simp [-Q0,-Q7,-Q1,-Q8,-Q2];(repeat refine sdQ ?_);refine hK _ ?_;clear hK K;refine tn ?_;refine Q9 (st':=⟨[(1,.adr 0 0 0),(3,.adr 1 0 0),(4,.adr 2 0 0),(10,iV s276),(11,iV 0)],[(0,.mix 13 [(Prf.cells true p_)]),(1,.mix 5 [(Cat.cells true p_.s)]),(2,.mix 5 [(Cat.cells true p_.t)])],3⟩) (wkQ9 [(0,0),(1,1),(2,2)]) ?_;refine Qa ?_;replace h:=bind_some h;obtain ⟨e313,he313,h313⟩:=h;refine Qr he313 (fun s313:Int=>⟨[(1,.adr 0 0 0),(3,.adr 1 0 0),(4,.adr 2 0 0),(10,iV s276),(11,iV s313)],[(0,.mix 13 [(Prf.cells true p_)]),(1,.mix 5 [(Cat.cells true p_.s)]),(2,.mix 5 [(Cat.cells true p_.t)])],3⟩) (wkQ9 [(0,0),(1,1),(2,2)]) ?_;intro k313 s313 c313 h hk313;refine Q5 ?_;refine Q5 ?_;refine runQ hN fun K hK=>?_;simp [-Q0,-Q7,-Q1,-Q8,-Q2];(repeat refine sdQ ?_);refine hK _ ?_;clear hK K;refine tn ?_;refine Q9 (st':=⟨[(1,.adr 0 0 0),(3,.adr 1 0 0),(4,.adr 2 0 0),(10,iV s276),(11,iV s313),(127,.val (.bool (decide (s313<(p_.t.fr.length:Int)))))],[(0,.mix 13 [(Prf.cells true p_)]),(1,.mix 5 [(Cat.cells true p_.s)]),(2,.mix 5 [(Cat.cells true p_.t)])],3⟩) (wkQ9 [(0,0),(1,1),(2,2)]) ?_;refine Qc rfl (fun g=>?_) fun g=>?_
    ·have g314:s313<(p_.t.fr.length:Int):=gQ;clear g;replace h:=if_l g314 h;refine Qd ?_;refine tn ?_;refine Q5 ?_;replace h:=bind_some h;obtain ⟨e315,h,h315⟩:=h;refine Qj (fun b315:Unit=>⟨[(1,.adr 0 0 0),(3,.adr 1 0 0),(4,.adr 2 0 0),(10,iV s276),(11,iV s313)],[(0,.mix 13 [(Prf.cells true p_)]),(1,.mix 5 [(Cat.cells true p_.s)]),(2,.mix 5 [(Cat.cells true p_.t)])],3⟩) (fun b315=>Sum.inl b315=e315) ?_ ?_
     ·refine Qa ?_;refine Q5 ?_;refine runQ hN fun K hK=>?_;simp [-Q0,-Q7,-Q1,-Q8,-Q2];(repeat refine sdQ ?_);refine hK _ ?_;clear hK K;refine tn ?_;refine Q9 (st':=⟨[(1,.adr 0 0 0),(3,.adr 1 0 0),(4,.adr 2 0 0),(10,iV s276),(11,iV s313),(12,iV 0)],[(0,.mix 13 [(Prf.cells true p_)]),(1,.mix 5 [(Cat.cells true p_.s)]),(2,.mix 5 [(Cat.cells true p_.t)])],3⟩) (wkQ9 [(0,0),(1,1),(2,2)]) ?_;refine Qa ?_;replace h:=bind_some h;obtain ⟨e331,he331,h331⟩:=h;refine Qr he331 (fun s331:Int=>⟨[(1,.adr 0 0 0),(3,.adr 1 0 0),(4,.adr 2 0 0),(10,iV s276),(11,iV s313),(12,iV s331)],[(0,.mix 13 [(Prf.cells true p_)]),(1,.mix 5 [(Cat.cells true p_.s)]),(2,.mix 5 [(Cat.cells true p_.t)])],3⟩) (wkQ9 [(0,0),(1,1),(2,2)]) ?_;intro k331 s331 c331 h hk331;refine Q5 ?_;refine Q5 ?_;refine runQ hN fun K hK=>?_;simp [-Q0,-Q7,-Q1,-Q8,-Q2];(repeat refine sdQ ?_);refine hK _ ?_;clear hK K;refine tn ?_;refine Q9 (st':=⟨[(1,.adr 0 0 0),(3,.adr 1 0 0),(4,.adr 2 0 0),(10,iV s276),(11,iV s313),(12,iV s331),(134,.val (.bool (decide (s331<(p_.t.fr.length:Int)))))],[(0,.mix 13 [(Prf.cells true p_)]),(1,.mix 5 [(Cat.cells true p_.s)]),(2,.mix 5 [(Cat.cells true p_.t)])],3⟩) (wkQ9 [(0,0),(1,1),(2,2)]) ?_;refine Qc rfl (fun g=>?_) fun g=>?_
      ·have g332:s331<(p_.t.fr.length:Int):=gQ;clear g;replace h:=if_l g332 h;refine Qd ?_;refine tn ?_;refine Q5 ?_;refine Qa ?_;refine Q5 ?_;refine runQ hN fun K hK=>?_;replace h:=Q4 h;obtain ⟨a333,h⟩:=h;replace h:=Q4 h;obtain ⟨a334,h⟩:=h;simp [-Q0,-Q7,-Q1,-Q8,-Q2,at_L a333,at_I a334];(repeat refine sdQ ?_);refine hK _ ?_;clear hK K;refine tn ?_;refine Q9 (st':=⟨[(1,.adr 0 0 0),(3,.adr 1 0 0),(4,.adr 2 0 0),(10,iV s276),(11,iV s313),(12,iV s331),(13,iV (ix (rx p_.t.cs s313) s331))],[(0,.mix 13 [(Prf.cells true p_)]),(1,.mix 5 [(Cat.cells true p_.s)]),(2,.mix 5 [(Cat.cells true p_.t)])],3⟩) (wkQ9 [(0,0),(1,1),(2,2)]) ?_;refine Q5 ?_;replace h:=bind_some h;obtain ⟨e335,h,h335⟩:=h;refine Qj (fun b335:Bool=>⟨[(1,.adr 0 0 0),(3,.adr 1 0 0),(4,.adr 2 0 0),(10,iV s276),(11,iV s313),(12,iV s331),(175,.val (.bool b335))],[(0,.mix 13 [(Prf.cells true p_)]),(1,.mix 5 [(Cat.cells true p_.s)]),(2,.mix 5 [(Cat.cells true p_.t)])],3⟩) (fun b335=>b335=e335) ?_ ?_
       ·refine runQ hN fun K hK=>?_;simp [-Q0,-Q7,-Q1,-Q8,-Q2];(repeat with_reducible refine sdQ ?_);refine Qs (fun g=>?_) (fun g=>?_)
        ·have g336:(ix (rx p_.t.cs s313) s331) ≥ 0:=gQ;clear g;replace h:=if_l g336 h;replace h:=Q4 h;obtain ⟨a337,h⟩:=h;replace h:=Q4 h;obtain ⟨a338,h⟩:=h;replace h:=Q4 h;obtain ⟨a339,h⟩:=h;replace h:=Q4 h;obtain ⟨a340,h⟩:=h;replace h:=Q4 h;obtain ⟨a341,h⟩:=h;replace h:=Q4 h;obtain ⟨a342,h⟩:=h;simp [-Q0,-Q7,-Q1,-Q8,-Q2,at_E (c:=eL) a337,at_L a338,at_E (c:=eL) a339,at_L a340,at_E (c:=eL) a341,at_L a342];(repeat with_reducible refine sdQ ?_);replace h:=bind_some h;obtain ⟨v343,hv343,h⟩:=h;refine Q3 (Q2E _ _ v343 hv343) (.cons .lst (.cons .lst .nil)) ?_;simp [-Q0,-Q7,-Q1,-Q8,-Q2,unk,unA,unE,unT,unC,flat,at_E (c:=eL) a337,at_L a338,at_E (c:=eL) a339,at_L a340,at_E (c:=eL) a341,at_L a342];(repeat with_reducible refine sdQ ?_);replace h:=bind_some h;obtain ⟨v344,hv344,h⟩:=h;refine Q3 (Q3r _ _ v344 hv344) (.cons .lst (.cons (.whole (by simp) (by simp) (by simp)) .nil)) ?_;simp [-Q0,-Q7,-Q1,-Q8,-Q2,unk,unA,unE,unT,unC,flat,at_E (c:=eL) a337,at_L a338,at_E (c:=eL) a339,at_L a340,at_E (c:=eL) a341,at_L a342];(repeat refine sdQ ?_);refine hK _ ?_;exact jn (b:=!v344) (Option.some.inj h) (wkQ9 [(0,0),(1,1),(2,2)])
        have g336:¬ ((ix (rx p_.t.cs s313) s331) ≥ 0):=gQ;clear g;replace h:=if_r g336 h;simp [-Q0,-Q7,-Q1,-Q8,-Q2];(repeat refine sdQ ?_);refine hK _ ?_;exact jn (b:=false) (Option.some.inj h) (wkQ9 [(0,0),(1,1),(2,2)])
       intro b335 hb335;have h:=h335;(try rw [← hb335] at h);clear h335;(try dsimp only at h);refine Qc rfl (fun g=>?_) fun g=>?_
       ·have g345:b335=true:=gQ;clear g;replace h:=if_l g345 h;refine Q5 ?_;refine runQ hN fun K hK=>?_;simp [-Q0,-Q7,-Q1,-Q8,-Q2];(repeat refine sdQ ?_);refine hK _ ?_;clear hK K;refine tn ?_;refine Q9 (st':=⟨[(2,.val (.bool false))],[],0⟩) (wkQ9 []) ?_;refine Qh ?_;refine br ?_;refine tr ?_;refine lr ?_;refine br ?_;refine br ?_;refine tr ?_;refine lr ?_;refine br ?_;refine br ?_;refine tr ?_;refine lr ?_;refine br ?_;refine tr ?_;cases h;have q:_=e331:=hk331;have h:=h331;rw [← q] at h;clear q;(try dsimp only at h);cases h;have h:=h315;(try dsimp only at h);cases h;have q:_=e313:=hk313;have h:=h313;rw [← q] at h;clear q;(try dsimp only at h);cases h;have h:=h278;(try dsimp only at h);cases h;have q:_=e203:=hk276;have h:=h203;rw [← q] at h;clear q;(try dsimp only at h);have hr:=Option.some.inj h;rw [← hr];refine ⟨_,(.tmp .nil),?_⟩;refine ⟨(.one rfl rfl .nil),[.val (.bool false)],[],by simp [Cat.cells,Prf.cells,UA,U1,IA,I1,LA,L1,BA,B1,EA,E1,E2,eB,eI,eL],by simp,(UpL.refl _)⟩
       have g345:¬ (b335=true):=gQ;clear g;replace h:=if_r g345 h;refine Qd ?_;refine bn ?_;refine tn ?_;refine runQ hN fun K hK=>?_;replace h:=Q4 h;obtain ⟨a346,h⟩:=h;simp [-Q0,-Q7,-Q1,-Q8,-Q2,Qn a346];(repeat refine sdQ ?_);refine hK _ ?_;clear hK K;cases h;exact rn (s':=s331+1) hk331 (wkQ9 [(0,0),(1,1),(2,2)])
      have g332:¬ (s331<(p_.t.fr.length:Int)):=gQ;clear g;replace h:=if_r g332 h;refine Ql ?_;refine tx ?_;refine lx ?_;refine bh ?_;refine bn ?_;cases h;have q:_=e331:=hk331;have h:=h331;rw [← q] at h;clear q;(try dsimp only at h);exact jn (b:=()) (Option.some.inj h) (wkQ9 [(0,0),(1,1),(2,2)])
     intro b315 hb315;have h:=h315;(try rw [← hb315] at h);clear h315;(try dsimp only at h);refine runQ hN fun K hK=>?_;replace h:=Q4 h;obtain ⟨a347,h⟩:=h;simp [-Q0,-Q7,-Q1,-Q8,-Q2,Qn a347];(repeat refine sdQ ?_);refine hK _ ?_;clear hK K;cases h;exact rn (s':=s313+1) hk313 (wkQ9 [(0,0),(1,1),(2,2)])
    have g314:¬ (s313<(p_.t.fr.length:Int)):=gQ;clear g;replace h:=if_r g314 h;refine Ql ?_;refine tx ?_;refine lx ?_;refine bh ?_;refine bn ?_;cases h;have q:_=e313:=hk313;have h:=h313;rw [← q] at h;clear q;(try dsimp only at h);exact jn (b:=()) (Option.some.inj h) (wkQ9 [(0,0),(1,1),(2,2)])
   intro b278 hb278;have h:=h278;(try rw [← hb278] at h);clear h278;(try dsimp only at h);refine runQ hN fun K hK=>?_;replace h:=Q4 h;obtain ⟨a348,h⟩:=h;simp [-Q0,-Q7,-Q1,-Q8,-Q2,Qn a348];(repeat refine sdQ ?_);refine hK _ ?_;clear hK K;cases h;exact rn (s':=s276+1) hk276 (wkQ9 [(0,0),(1,1),(2,2)])
  have g277:¬ (s276<p_.s.n):=gQ;clear g;replace h:=if_r g277 h;refine Ql ?_;refine tx ?_;refine lx ?_;refine bh ?_;cases h;exact jn (b:=()) hk276 (wkQ9 [(0,0),(1,1),(2,2)])
 intro b203 hb203;have h:=h203;try rw [← hb203] at h
 clear h203;try dsimp only at h
 refine Q5 ?_;refine Q5 ?_;refine runQ hN fun K hK=>?_;simp [-Q0,-Q7,-Q1,-Q8,-Q2];repeat refine sdQ ?_
 refine hK _ ?_;clear hK K;refine tn ?_;refine Q9 (st':=⟨[(1,.adr 0 0 0),(3,.adr 1 0 0),(4,.adr 2 0 0),(14,iV 0)],[(0,.mix 13 [(Prf.cells true p_)]),(1,.mix 5 [(Cat.cells true p_.s)]),(2,.mix 5 [(Cat.cells true p_.t)])],3⟩) (wkQ9 [(0,0),(1,1),(2,2)]) ?_;replace h:=bind_some h;obtain ⟨e349,h,h349⟩:=h;refine Qj (fun b349:Unit=>⟨[],[],0⟩) (fun b349=>Sum.inl b349=e349) ?_ ?_
 ·refine Qa ?_;refine Qr h (fun s390:Int=>⟨[(1,.adr 0 0 0),(3,.adr 1 0 0),(4,.adr 2 0 0),(14,iV s390)],[(0,.mix 13 [(Prf.cells true p_)]),(1,.mix 5 [(Cat.cells true p_.s)]),(2,.mix 5 [(Cat.cells true p_.t)])],3⟩) (wkQ9 [(0,0),(1,1),(2,2)]) ?_;clear h;intro k390 s390 c390 h hk390;refine Q5 ?_;refine Q5 ?_;refine runQ hN fun K hK=>?_;simp [-Q0,-Q7,-Q1,-Q8,-Q2];repeat refine sdQ ?_
  refine hK _ ?_;clear hK K;refine tn ?_;refine Q9 (st':=⟨[(1,.adr 0 0 0),(3,.adr 1 0 0),(4,.adr 2 0 0),(14,iV s390),(180,.val (.bool (decide (s390<(p_.s.fr.length:Int)))))],[(0,.mix 13 [(Prf.cells true p_)]),(1,.mix 5 [(Cat.cells true p_.s)]),(2,.mix 5 [(Cat.cells true p_.t)])],3⟩) (wkQ9 [(0,0),(1,1),(2,2)]) ?_;refine Qc rfl (fun g=>?_) fun g=>?_
  ·have g391:s390<(p_.s.fr.length:Int):=gQ;clear g;replace h:=if_l g391 h;refine Qd ?_;refine tn ?_;refine Q5 ?_;replace h:=bind_some h;obtain ⟨e392,h,h392⟩:=h;refine Qj (fun b392:Unit=>⟨[(1,.adr 0 0 0),(3,.adr 1 0 0),(4,.adr 2 0 0),(14,iV s390)],[(0,.mix 13 [(Prf.cells true p_)]),(1,.mix 5 [(Cat.cells true p_.s)]),(2,.mix 5 [(Cat.cells true p_.t)])],3⟩) (fun b392=>Sum.inl b392=e392) ?_ ?_
   ·refine Qa ?_;refine Q5 ?_;refine runQ hN fun K hK=>?_;simp [-Q0,-Q7,-Q1,-Q8,-Q2];(repeat refine sdQ ?_);refine hK _ ?_;clear hK K;refine tn ?_;refine Q9 (st':=⟨[(1,.adr 0 0 0),(3,.adr 1 0 0),(4,.adr 2 0 0),(14,iV s390),(15,iV 0)],[(0,.mix 13 [(Prf.cells true p_)]),(1,.mix 5 [(Cat.cells true p_.s)]),(2,.mix 5 [(Cat.cells true p_.t)])],3⟩) (wkQ9 [(0,0),(1,1),(2,2)]) ?_;refine Qa ?_;replace h:=bind_some h;obtain ⟨e411,he411,h411⟩:=h;refine Qr he411 (fun s411:Int=>⟨[(1,.adr 0 0 0),(3,.adr 1 0 0),(4,.adr 2 0 0),(14,iV s390),(15,iV s411)],[(0,.mix 13 [(Prf.cells true p_)]),(1,.mix 5 [(Cat.cells true p_.s)]),(2,.mix 5 [(Cat.cells true p_.t)])],3⟩) (wkQ9 [(0,0),(1,1),(2,2)]) ?_;intro k411 s411 c411 h hk411;refine Q5 ?_;refine Q5 ?_;refine runQ hN fun K hK=>?_;simp [-Q0,-Q7,-Q1,-Q8,-Q2];(repeat refine sdQ ?_);refine hK _ ?_;clear hK K;refine tn ?_;refine Q9 (st':=⟨[(1,.adr 0 0 0),(3,.adr 1 0 0),(4,.adr 2 0 0),(14,iV s390),(15,iV s411),(187,.val (.bool (decide (s411<(p_.t.fr.length:Int)))))],[(0,.mix 13 [(Prf.cells true p_)]),(1,.mix 5 [(Cat.cells true p_.s)]),(2,.mix 5 [(Cat.cells true p_.t)])],3⟩) (wkQ9 [(0,0),(1,1),(2,2)]) ?_;refine Qc rfl (fun g=>?_) fun g=>?_
    ·have g412:s411<(p_.t.fr.length:Int):=gQ;clear g;replace h:=if_l g412 h;refine Qd ?_;refine tn ?_;refine Q5 ?_;refine Qa ?_;refine Q5 ?_;refine runQ hN fun K hK=>?_;replace h:=Q4 h;obtain ⟨a413,h⟩:=h;replace h:=Q4 h;obtain ⟨a414,h⟩:=h;replace h:=Q4 h;obtain ⟨a415,h⟩:=h;replace h:=Q4 h;obtain ⟨a416,h⟩:=h;replace h:=Q4 h;obtain ⟨a417,h⟩:=h;replace h:=Q4 h;obtain ⟨a418,h⟩:=h;simp [-Q0,-Q7,-Q1,-Q8,-Q2,at_E (c:=eL) a413,at_I a414,at_L a415,at_E (c:=eL) a416,at_I a417,at_L a418];(repeat with_reducible refine sdQ ?_);replace h:=bind_some h;obtain ⟨v419,hv419,h⟩:=h;refine Q3 (Q2E _ _ v419 hv419) (.cons .lst (.cons .lst .nil)) ?_;simp [-Q0,-Q7,-Q1,-Q8,-Q2,unk,unA,unE,unT,unC,flat,at_E (c:=eL) a413,at_I a414,at_L a415,at_E (c:=eL) a416,at_I a417,at_L a418];(repeat refine sdQ ?_);refine hK _ ?_;clear hK K;refine tn ?_;refine Q9 (st':=⟨[(1,.adr 0 0 0),(3,.adr 1 0 0),(4,.adr 2 0 0),(14,iV s390),(15,iV s411),(16,.own 3 0 v419.length)],[(0,.mix 13 [(Prf.cells true p_)]),(1,.mix 5 [(Cat.cells true p_.s)]),(2,.mix 5 [(Cat.cells true p_.t)]),(3,rI v419)],4⟩) (wkQ9 [(0,0),(1,1),(2,2),(3,3)]) ?_;refine Q5 ?_;refine runQ hN fun K hK=>?_;replace h:=Q4 h;obtain ⟨a420,h⟩:=h;replace h:=Q4 h;obtain ⟨a421,h⟩:=h;replace h:=Q4 h;obtain ⟨a422,h⟩:=h;replace h:=Q4 h;obtain ⟨a423,h⟩:=h;replace h:=Q4 h;obtain ⟨a424,h⟩:=h;replace h:=Q4 h;obtain ⟨a425,h⟩:=h;simp [-Q0,-Q7,-Q1,-Q8,-Q2,at_E (c:=eL) a420,at_I a421,at_L a422,at_E (c:=eL) a423,at_I a424,at_L a425];(repeat with_reducible refine sdQ ?_);replace h:=bind_some h;obtain ⟨v426,hv426,h⟩:=h;refine Q3 (Q2E _ _ v426 hv426) (.cons .lst (.cons .lst .nil)) ?_;simp [-Q0,-Q7,-Q1,-Q8,-Q2,unk,unA,unE,unT,unC,flat,at_E (c:=eL) a420,at_I a421,at_L a422,at_E (c:=eL) a423,at_I a424,at_L a425];(repeat refine sdQ ?_);refine hK _ ?_;clear hK K;refine tn ?_;refine Q9 (st':=⟨[(1,.adr 0 0 0),(3,.adr 1 0 0),(4,.adr 2 0 0),(14,iV s390),(15,iV s411),(16,.own 3 0 v419.length),(17,.own 4 0 v426.length)],[(0,.mix 13 [(Prf.cells true p_)]),(1,.mix 5 [(Cat.cells true p_.s)]),(2,.mix 5 [(Cat.cells true p_.t)]),(3,rI v419),(4,rI v426)],5⟩) (wkQ9 [(0,0),(1,1),(2,2),(3,3),(4,4)]) ?_;refine Q5 ?_;refine runQ hN fun K hK=>?_;simp [-Q0,-Q7,-Q1,-Q8,-Q2];(repeat with_reducible refine sdQ ?_);replace h:=bind_some h;obtain ⟨v427,hv427,h⟩:=h;refine Q3 (Q3r _ _ v427 hv427) (.cons (.whole (by simp) (by simp) (by simp)) (.cons (.whole (by simp) (by simp) (by simp)) .nil)) ?_;simp [-Q0,-Q7,-Q1,-Q8,-Q2,unk,unA,unE,unT,unC,flat];(repeat refine sdQ ?_);refine hK _ ?_;clear hK K;refine tn ?_
     refine Q9 (st':=⟨[(1,.adr 0 0 0),(3,.adr 1 0 0),(4,.adr 2 0 0),(14,iV s390),(15,iV s411),(243,.val (.bool (!v427)))],[(0,.mix 13 [(Prf.cells true p_)]),(1,.mix 5 [(Cat.cells true p_.s)]),(2,.mix 5 [(Cat.cells true p_.t)])],3⟩) (wkQ9 [(0,0),(1,1),(2,2)]) ?_;refine Qc rfl (fun g=>?_) fun g=>?_
     ·have g428:¬ (v427=true):=gQ;clear g;replace h:=if_l g428 h;refine Q5 ?_;refine runQ hN fun K hK=>?_;simp [-Q0,-Q7,-Q1,-Q8,-Q2];(repeat refine sdQ ?_);refine hK _ ?_;clear hK K;refine tn ?_;refine Q9 (st':=⟨[(2,.val (.bool false))],[],0⟩) (wkQ9 []) ?_;refine Qh ?_;refine br ?_;refine tr ?_;refine lr ?_;refine br ?_;refine br ?_;refine tr ?_;refine lr ?_;refine br ?_;refine tr ?_;cases h;have q:_=e411:=hk411;have h:=h411;rw [← q] at h;clear q;(try dsimp only at h);cases h;have h:=h392;(try dsimp only at h);cases h;have q:_=e349:=hk390;have h:=h349;rw [← q] at h;clear q;(try dsimp only at h);have hr:=Option.some.inj h;rw [← hr];refine ⟨_,(.tmp .nil),?_⟩;refine ⟨(.one rfl rfl .nil),[.val (.bool false)],[],by simp [Cat.cells,Prf.cells,UA,U1,IA,I1,LA,L1,BA,B1,EA,E1,E2,eB,eI,eL],by simp,(UpL.refl _)⟩
     have g428:¬ (¬ (v427=true)):=gQ;clear g;replace h:=if_r g428 h;refine Qd ?_;refine bn ?_;refine tn ?_;refine runQ hN fun K hK=>?_;replace h:=Q4 h;obtain ⟨a429,h⟩:=h;simp [-Q0,-Q7,-Q1,-Q8,-Q2,Qn a429];(repeat refine sdQ ?_);refine hK _ ?_;clear hK K;cases h;exact rn (s':=s411+1) hk411 (wkQ9 [(0,0),(1,1),(2,2)])
    have g412:¬ (s411<(p_.t.fr.length:Int)):=gQ;clear g;replace h:=if_r g412 h;refine Ql ?_;refine tx ?_;refine lx ?_;refine bh ?_;refine bn ?_;cases h;have q:_=e411:=hk411;have h:=h411;rw [← q] at h;clear q;(try dsimp only at h);exact jn (b:=()) (Option.some.inj h) (wkQ9 [(0,0),(1,1),(2,2)])
   intro b392 hb392;have h:=h392;(try rw [← hb392] at h);clear h392;(try dsimp only at h);refine runQ hN fun K hK=>?_;replace h:=Q4 h;obtain ⟨a430,h⟩:=h;simp [-Q0,-Q7,-Q1,-Q8,-Q2,Qn a430];(repeat refine sdQ ?_);refine hK _ ?_;clear hK K;cases h;exact rn (s':=s390+1) hk390 (wkQ9 [(0,0),(1,1),(2,2)])
  have g391:¬ (s390<(p_.s.fr.length:Int)):=gQ;clear g;replace h:=if_r g391 h;refine Ql ?_;refine tx ?_;refine lx ?_;refine bh ?_;cases h;exact jn (b:=()) hk390 (wkQ9 [])
 intro b349 hb349;have h:=h349;try rw [← hb349] at h
 clear h349;try dsimp only at h
 refine Q5 ?_;refine runQ hN fun K hK=>?_;simp [-Q0,-Q7,-Q1,-Q8,-Q2];repeat refine sdQ ?_
 refine hK _ ?_;clear hK K;refine tn ?_;refine Q9 (st':=⟨[(2,.val (.bool true))],[],0⟩) (wkQ9 []) ?_;refine Qh ?_;have hr:=Option.some.inj h;rw [← hr];refine ⟨_,(.tmp .nil),?_⟩;refine ⟨(.one rfl rfl .nil),[.val (.bool true)],[],by simp [Cat.cells,Prf.cells,UA,U1,IA,I1,LA,L1,BA,B1,EA,E1,E2,eB,eI,eL],by simp,(UpL.refl _)⟩
attribute [local simp] eL eI Qw Q17 Q2F Cat.cells Prf.cells
noncomputable def Q20 (p_:Prf):Option Bool :=
 (Qu (σ:=Int) (ε:=Unit ⊕ Bool) (fun s38 =>
  if s38<(p_.bf.length:Int) then
   (
    ass (0≤s38∧s38<(p_.bf.length:Int)) <|
    if ¬ (((gx p_.bf s38).length:Int)=p_.t.n) then
     some (Sum.inr false)
    else
     (Qu (σ:=Int) (ε:=Bool ⊕ Unit) (fun s58 =>
      ass (0≤s38∧s38<(p_.bf.length:Int)) <|
      if s58<((gx p_.bf s38).length:Int) then
       ass (0≤s38∧s38<(p_.bf.length:Int)) <|
       ass (0≤s58∧s58<((gx p_.bf s38).length:Int)) <|
       (
        ass (0≤s38∧s38<(p_.s.to.length:Int)) <|
        ass (0≤ix p_.s.to s38∧ix p_.s.to s38<(p_.sz.length:Int)) <|
        ass (0≤s58∧s58<((rx p_.sz (ix p_.s.to s38)).length:Int)) <|
        if ¬ (((rx (gx p_.bf s38) s58).length:Int)=(ix (rx p_.sz (ix p_.s.to s38)) s58)) then
         some true
        else
         ass (0≤s38∧s38<(p_.s.fr.length:Int)) <|
         ass (0≤ix p_.s.fr s38∧ix p_.s.fr s38<(p_.sz.length:Int)) <|
         ass (0≤s58∧s58<((rx p_.sz (ix p_.s.fr s38)).length:Int)) <|
         (Q1O (ix (rx p_.sz (ix p_.s.fr s38)) s58) (rx (gx p_.bf s38) s58)).bind fun v71 =>
         some (!v71):Option (Bool)).bind fun b63 =>
       if b63=true then
        some (Ctl.ret (Sum.inl false))
       else
        ass (B64 (s58+1)) <|
        some (Ctl.next (s58+1))
      else
       some (Ctl.ret (Sum.inr ()))) fuel 0).bind fun e58 =>
     match e58 with
     | .inl p58 =>
      some (Sum.inr p58)
     | .inr p58 =>
      some (Sum.inl p58):Option (Unit ⊕ Bool)).bind fun e40 =>
   match e40 with
   | .inl b40 =>
    ass (B64 (s38+1)) <|
    some (Ctl.next (s38+1))
   | .inr p40 =>
    some (Ctl.ret (Sum.inr p40))
  else
   some (Ctl.ret (Sum.inl ()))) fuel 0).bind fun e1 =>
 match e1 with
 | .inl b1 =>
  (Qu (σ:=Int) (ε:=Unit ⊕ Bool) (fun s112 =>
   if s112<(p_.bh.length:Int) then
    (
     ass (0≤s112∧s112<(p_.bh.length:Int)) <|
     if ¬ (((gx p_.bh s112).length:Int)=p_.s.n) then
      some (Sum.inr false)
     else
      (Qu (σ:=Int) (ε:=Bool ⊕ Unit) (fun s132 =>
       ass (0≤s112∧s112<(p_.bh.length:Int)) <|
       if s132<((gx p_.bh s112).length:Int) then
        ass (0≤s112∧s112<(p_.bh.length:Int)) <|
        ass (0≤s132∧s132<((gx p_.bh s112).length:Int)) <|
        (
         ass (0≤s132∧s132<(p_.sz.length:Int)) <|
         ass (0≤s112∧s112<(p_.t.fr.length:Int)) <|
         ass (0≤ix p_.t.fr s112∧ix p_.t.fr s112<((rx p_.sz s132).length:Int)) <|
         if ¬ (((rx (gx p_.bh s112) s132).length:Int)=(ix (rx p_.sz s132) (ix p_.t.fr s112))) then
          some true
         else
          ass (0≤s132∧s132<(p_.sz.length:Int)) <|
          ass (0≤s112∧s112<(p_.t.to.length:Int)) <|
          ass (0≤ix p_.t.to s112∧ix p_.t.to s112<((rx p_.sz s132).length:Int)) <|
          (Q1O (ix (rx p_.sz s132) (ix p_.t.to s112)) (rx (gx p_.bh s112) s132)).bind fun v145 =>
          some (!v145):Option (Bool)).bind fun b137 =>
        if b137=true then
         some (Ctl.ret (Sum.inl false))
        else
         ass (B64 (s132+1)) <|
         some (Ctl.next (s132+1))
       else
        some (Ctl.ret (Sum.inr ()))) fuel 0).bind fun e132 =>
      match e132 with
      | .inl p132 =>
       some (Sum.inr p132)
      | .inr p132 =>
       some (Sum.inl p132):Option (Unit ⊕ Bool)).bind fun e114 =>
    match e114 with
    | .inl b114 =>
     ass (B64 (s112+1)) <|
     some (Ctl.next (s112+1))
    | .inr p114 =>
     some (Ctl.ret (Sum.inr p114))
   else
    some (Ctl.ret (Sum.inl ()))) fuel 0).bind fun e75 =>
  match e75 with
  | .inl b75 =>
   some true
  | .inr p75 =>
   some p75
 | .inr p1 =>
  some p1
theorem Q70 (p_:Prf) (r:Bool) (h:Q20 p_=some r):Contract Try.prog 118 [.agg (p_.cells true)] (.val (.bool r)):=by
 refine Qg (rvs:=[.tmp 2]) (rs:=[.val (.bool r)]) Try.func118 rfl rfl rfl rfl (by simp [Try.f118]) fun F hN hP=>?_;unfold Q20 at h;refine Q5 ?_;refine runQ hN fun K hK=>?_;simp [-Q0,-Q7,-Q1,-Q8,-Q2];repeat refine sdQ ?_
 refine hK _ ?_;clear hK K;refine tn ?_;refine Q9 (st':=⟨[(1,.adr 0 0 0)],[(0,.mix 13 [(Prf.cells true p_)])],1⟩) (wkQ9 [(0,0)]) ?_;refine Q5 ?_;refine w_runS mo (by rw [hN];decide) fun K hK=>?_;simp [-Q0,-Q7,-Q1,-Q8,-Q2];repeat refine sdQ ?_
 refine hK _ ?_;clear hK K;refine tn ?_;refine Q9 (st':=⟨[(1,.adr 0 0 0),(3,.adr 1 0 0),(4,.adr 2 0 0)],[(0,.mix 13 [(Prf.cells true p_)]),(1,.mix 5 [(Cat.cells true p_.s)]),(2,.mix 5 [(Cat.cells true p_.t)])],3⟩) (wkQ9 [(0,0),(1,1),(2,2)]) ?_;refine Q5 ?_;refine Q5 ?_;refine runQ hN fun K hK=>?_;simp [-Q0,-Q7,-Q1,-Q8,-Q2];repeat refine sdQ ?_
 refine hK _ ?_;clear hK K;refine tn ?_;refine Q9 (st':=⟨[(1,.adr 0 0 0),(3,.adr 1 0 0),(4,.adr 2 0 0),(5,iV 0)],[(0,.mix 13 [(Prf.cells true p_)]),(1,.mix 5 [(Cat.cells true p_.s)]),(2,.mix 5 [(Cat.cells true p_.t)])],3⟩) (wkQ9 [(0,0),(1,1),(2,2)]) ?_;replace h:=bind_some h;obtain ⟨e1,h,h1⟩:=h;refine Qj (fun b1:Unit=>⟨[(1,.adr 0 0 0),(3,.adr 1 0 0),(4,.adr 2 0 0)],[(0,.mix 13 [(Prf.cells true p_)]),(1,.mix 5 [(Cat.cells true p_.s)]),(2,.mix 5 [(Cat.cells true p_.t)])],3⟩) (fun b1=>Sum.inl b1=e1) ?_ ?_
 ·refine Qa ?_;refine Qr h (fun s38:Int=>⟨[(1,.adr 0 0 0),(3,.adr 1 0 0),(4,.adr 2 0 0),(5,iV s38)],[(0,.mix 13 [(Prf.cells true p_)]),(1,.mix 5 [(Cat.cells true p_.s)]),(2,.mix 5 [(Cat.cells true p_.t)])],3⟩) (wkQ9 [(0,0),(1,1),(2,2)]) ?_;clear h;intro k38 s38 c38 h hk38;refine Q5 ?_;refine Q5 ?_;refine runQ hN fun K hK=>?_;simp [-Q0,-Q7,-Q1,-Q8,-Q2];repeat refine sdQ ?_
  refine hK _ ?_;clear hK K;refine tn ?_;refine Q9 (st':=⟨[(1,.adr 0 0 0),(3,.adr 1 0 0),(4,.adr 2 0 0),(5,iV s38),(19,.val (.bool (decide (s38<(p_.bf.length:Int)))))],[(0,.mix 13 [(Prf.cells true p_)]),(1,.mix 5 [(Cat.cells true p_.s)]),(2,.mix 5 [(Cat.cells true p_.t)])],3⟩) (wkQ9 [(0,0),(1,1),(2,2)]) ?_;refine Qc rfl (fun g=>?_) fun g=>?_
  ·have g39:s38<(p_.bf.length:Int):=gQ;clear g;replace h:=if_l g39 h;refine Qd ?_;refine tn ?_;refine Q5 ?_;replace h:=bind_some h;obtain ⟨e40,h,h40⟩:=h;refine Qj (fun b40:Unit=>⟨[(1,.adr 0 0 0),(3,.adr 1 0 0),(4,.adr 2 0 0),(5,iV s38)],[(0,.mix 13 [(Prf.cells true p_)]),(1,.mix 5 [(Cat.cells true p_.s)]),(2,.mix 5 [(Cat.cells true p_.t)])],3⟩) (fun b40=>Sum.inl b40=e40) ?_ ?_
   ·refine Qa ?_;refine Q5 ?_;refine Q5 ?_;refine runQ hN fun K hK=>?_;replace h:=Q4 h;obtain ⟨a41,h⟩:=h;simp [-Q0,-Q7,-Q1,-Q8,-Q2,at_E (c:=eL) a41];(repeat refine sdQ ?_);refine hK _ ?_;clear hK K;refine tn ?_;refine Q9 (st':=⟨[(1,.adr 0 0 0),(3,.adr 1 0 0),(4,.adr 2 0 0),(5,iV s38),(30,.val (.bool (((gx p_.bf s38).length:Int) != p_.t.n)))],[(0,.mix 13 [(Prf.cells true p_)]),(1,.mix 5 [(Cat.cells true p_.s)]),(2,.mix 5 [(Cat.cells true p_.t)])],3⟩) (wkQ9 [(0,0),(1,1),(2,2)]) ?_;refine Qc rfl (fun g=>?_) fun g=>?_
    ·have g42:¬ (((gx p_.bf s38).length:Int)=p_.t.n):=gQ;clear g;replace h:=if_l g42 h;refine Q5 ?_;refine runQ hN fun K hK=>?_;simp [-Q0,-Q7,-Q1,-Q8,-Q2];(repeat refine sdQ ?_);refine hK _ ?_;clear hK K;refine tn ?_;refine Q9 (st':=⟨[(2,.val (.bool false))],[],0⟩) (wkQ9 []) ?_;refine Qh ?_;refine tr ?_;refine br ?_;refine tr ?_;refine lr ?_;refine br ?_;refine tr ?_;cases h;have h:=h40;(try dsimp only at h);cases h;have q:_=e1:=hk38;have h:=h1;rw [← q] at h;clear q;(try dsimp only at h);have hr:=Option.some.inj h;rw [← hr];refine ⟨_,(.tmp .nil),?_⟩;refine ⟨(.one rfl rfl .nil),[.val (.bool false)],[],by simp [Cat.cells,Prf.cells,UA,U1,IA,I1,LA,L1,BA,B1,EA,E1,E2,eB,eI,eL],by simp,(UpL.refl _)⟩
    have g42:¬ (¬ (((gx p_.bf s38).length:Int)=p_.t.n)):=gQ;clear g;replace h:=if_r g42 h;refine Qd ?_;refine tn ?_;refine Q5 ?_;refine runQ hN fun K hK=>?_;simp [-Q0,-Q7,-Q1,-Q8,-Q2];(repeat refine sdQ ?_);refine hK _ ?_;clear hK K;refine tn ?_;refine Q9 (st':=⟨[(1,.adr 0 0 0),(3,.adr 1 0 0),(4,.adr 2 0 0),(5,iV s38),(6,iV 0)],[(0,.mix 13 [(Prf.cells true p_)]),(1,.mix 5 [(Cat.cells true p_.s)]),(2,.mix 5 [(Cat.cells true p_.t)])],3⟩) (wkQ9 [(0,0),(1,1),(2,2)]) ?_;refine Qa ?_;replace h:=bind_some h;obtain ⟨e58,he58,h58⟩:=h;refine Qr he58 (fun s58:Int=>⟨[(1,.adr 0 0 0),(3,.adr 1 0 0),(4,.adr 2 0 0),(5,iV s38),(6,iV s58)],[(0,.mix 13 [(Prf.cells true p_)]),(1,.mix 5 [(Cat.cells true p_.s)]),(2,.mix 5 [(Cat.cells true p_.t)])],3⟩) (wkQ9 [(0,0),(1,1),(2,2)]) ?_;intro k58 s58 c58 h hk58;refine Q5 ?_;refine Q5 ?_;refine runQ hN fun K hK=>?_;replace h:=Q4 h;obtain ⟨a59,h⟩:=h;simp [-Q0,-Q7,-Q1,-Q8,-Q2,at_E (c:=eL) a59];(repeat refine sdQ ?_);refine hK _ ?_;clear hK K;refine tn ?_;refine Q9 (st':=⟨[(1,.adr 0 0 0),(3,.adr 1 0 0),(4,.adr 2 0 0),(5,iV s38),(6,iV s58),(38,.val (.bool (decide (s58<((gx p_.bf s38).length:Int)))))],[(0,.mix 13 [(Prf.cells true p_)]),(1,.mix 5 [(Cat.cells true p_.s)]),(2,.mix 5 [(Cat.cells true p_.t)])],3⟩) (wkQ9 [(0,0),(1,1),(2,2)]) ?_;refine Qc rfl (fun g=>?_) fun g=>?_
    ·have g60:s58<((gx p_.bf s38).length:Int):=gQ;clear g;replace h:=if_l g60 h;refine Qd ?_;refine tn ?_;refine Q5 ?_;refine Qa ?_;refine Q5 ?_;refine runQ hN fun K hK=>?_;replace h:=Q4 h;obtain ⟨a61,h⟩:=h;replace h:=Q4 h;obtain ⟨a62,h⟩:=h;simp [-Q0,-Q7,-Q1,-Q8,-Q2,at_E (c:=eL) a61,at_L a62];(repeat refine sdQ ?_);refine hK _ ?_;clear hK K;refine tn ?_;refine Q9 (st':=⟨[(1,.adr 0 0 0),(3,.adr 1 0 0),(4,.adr 2 0 0),(5,iV s38),(6,iV s58),(7,lI (rx (gx p_.bf s38) s58))],[(0,.mix 13 [(Prf.cells true p_)]),(1,.mix 5 [(Cat.cells true p_.s)]),(2,.mix 5 [(Cat.cells true p_.t)])],3⟩) (wkQ9 [(0,0),(1,1),(2,2)]) ?_;refine Q5 ?_;replace h:=bind_some h;obtain ⟨e63,h,h63⟩:=h;refine Qj (fun b63:Bool=>⟨[(1,.adr 0 0 0),(3,.adr 1 0 0),(4,.adr 2 0 0),(5,iV s38),(6,iV s58),(80,.val (.bool b63))],[(0,.mix 13 [(Prf.cells true p_)]),(1,.mix 5 [(Cat.cells true p_.s)]),(2,.mix 5 [(Cat.cells true p_.t)])],3⟩) (fun b63=>b63=e63) ?_ ?_
     ·refine runQ hN fun K hK=>?_;replace h:=Q4 h;obtain ⟨a64,h⟩:=h;replace h:=Q4 h;obtain ⟨a65,h⟩:=h;replace h:=Q4 h;obtain ⟨a66,h⟩:=h;simp [-Q0,-Q7,-Q1,-Q8,-Q2,at_I a64,at_L a65,at_I a66];(repeat with_reducible refine sdQ ?_);refine Qs (fun g=>?_) (fun g=>?_)
      ·have g67:¬ (¬ (((rx (gx p_.bf s38) s58).length:Int)=(ix (rx p_.sz (ix p_.s.to s38)) s58))):=gQ;clear g;replace h:=if_r g67 h;replace h:=Q4 h;obtain ⟨a68,h⟩:=h;replace h:=Q4 h;obtain ⟨a69,h⟩:=h;replace h:=Q4 h;obtain ⟨a70,h⟩:=h;simp [-Q0,-Q7,-Q1,-Q8,-Q2,at_I a64,at_L a65,at_I a66,at_I a68,at_L a69,at_I a70];(repeat with_reducible refine sdQ ?_);replace h:=bind_some h;obtain ⟨v71,hv71,h⟩:=h;refine Q3 (Q52 _ _ v71 hv71) (.cons .val (.cons .lst .nil)) ?_;simp [-Q0,-Q7,-Q1,-Q8,-Q2,unk,unA,unE,unT,unC,flat,at_I a64,at_L a65,at_I a66,at_I a68,at_L a69,at_I a70];(repeat refine sdQ ?_);refine hK _ ?_;exact jn (b:=!v71) (Option.some.inj h) (wkQ9 [(0,0),(1,1),(2,2)])
      have g67:¬ (((rx (gx p_.bf s38) s58).length:Int)=(ix (rx p_.sz (ix p_.s.to s38)) s58)):=gQ;clear g;replace h:=if_l g67 h;simp [-Q0,-Q7,-Q1,-Q8,-Q2,at_I a64,at_L a65,at_I a66];(repeat refine sdQ ?_);refine hK _ ?_;exact jn (b:=true) (Option.some.inj h) (wkQ9 [(0,0),(1,1),(2,2)])
     intro b63 hb63;have h:=h63;(try rw [← hb63] at h);clear h63;(try dsimp only at h);refine Qc rfl (fun g=>?_) fun g=>?_
     ·have g72:b63=true:=gQ;clear g;replace h:=if_l g72 h;refine Q5 ?_;refine runQ hN fun K hK=>?_;simp [-Q0,-Q7,-Q1,-Q8,-Q2];(repeat refine sdQ ?_);refine hK _ ?_;clear hK K;refine tn ?_;refine Q9 (st':=⟨[(2,.val (.bool false))],[],0⟩) (wkQ9 []) ?_;refine Qh ?_;refine br ?_;refine tr ?_;refine lr ?_;refine br ?_;refine br ?_;refine tr ?_;refine lr ?_;refine br ?_;refine tr ?_;cases h;have q:_=e58:=hk58;have h:=h58;rw [← q] at h;clear q;(try dsimp only at h);cases h;have h:=h40;(try dsimp only at h);cases h;have q:_=e1:=hk38;have h:=h1;rw [← q] at h;clear q;(try dsimp only at h);have hr:=Option.some.inj h;rw [← hr];refine ⟨_,(.tmp .nil),?_⟩;refine ⟨(.one rfl rfl .nil),[.val (.bool false)],[],by simp [Cat.cells,Prf.cells,UA,U1,IA,I1,LA,L1,BA,B1,EA,E1,E2,eB,eI,eL],by simp,(UpL.refl _)⟩
     have g72:¬ (b63=true):=gQ;clear g;replace h:=if_r g72 h;refine Qd ?_;refine bn ?_;refine tn ?_;refine runQ hN fun K hK=>?_;replace h:=Q4 h;obtain ⟨a73,h⟩:=h;simp [-Q0,-Q7,-Q1,-Q8,-Q2,Qn a73];(repeat refine sdQ ?_);refine hK _ ?_;clear hK K;cases h;exact rn (s':=s58+1) hk58 (wkQ9 [(0,0),(1,1),(2,2)])
    have g60:¬ (s58<((gx p_.bf s38).length:Int)):=gQ;clear g;replace h:=if_r g60 h;refine Ql ?_;refine tx ?_;refine lx ?_;refine bh ?_;refine bn ?_;cases h;have q:_=e58:=hk58;have h:=h58;rw [← q] at h;clear q;(try dsimp only at h);exact jn (b:=()) (Option.some.inj h) (wkQ9 [(0,0),(1,1),(2,2)])
   intro b40 hb40;have h:=h40;(try rw [← hb40] at h);clear h40;(try dsimp only at h);refine runQ hN fun K hK=>?_;replace h:=Q4 h;obtain ⟨a74,h⟩:=h;simp [-Q0,-Q7,-Q1,-Q8,-Q2,Qn a74];(repeat refine sdQ ?_);refine hK _ ?_;clear hK K;cases h;exact rn (s':=s38+1) hk38 (wkQ9 [(0,0),(1,1),(2,2)])
  have g39:¬ (s38<(p_.bf.length:Int)):=gQ;clear g;replace h:=if_r g39 h;refine Ql ?_;refine tx ?_;refine lx ?_;refine bh ?_;cases h;exact jn (b:=()) hk38 (wkQ9 [(0,0),(1,1),(2,2)])
 intro b1 hb1;have h:=h1;try rw [← hb1] at h
 clear h1;try dsimp only at h
 refine Q5 ?_;refine Q5 ?_;refine runQ hN fun K hK=>?_;simp [-Q0,-Q7,-Q1,-Q8,-Q2];repeat refine sdQ ?_
 refine hK _ ?_;clear hK K;refine tn ?_;refine Q9 (st':=⟨[(1,.adr 0 0 0),(3,.adr 1 0 0),(4,.adr 2 0 0),(8,iV 0)],[(0,.mix 13 [(Prf.cells true p_)]),(1,.mix 5 [(Cat.cells true p_.s)]),(2,.mix 5 [(Cat.cells true p_.t)])],3⟩) (wkQ9 [(0,0),(1,1),(2,2)]) ?_;replace h:=bind_some h;obtain ⟨e75,h,h75⟩:=h;refine Qj (fun b75:Unit=>⟨[],[],0⟩) (fun b75=>Sum.inl b75=e75) ?_ ?_
 ·refine Qa ?_;refine Qr h (fun s112:Int=>⟨[(1,.adr 0 0 0),(3,.adr 1 0 0),(4,.adr 2 0 0),(8,iV s112)],[(0,.mix 13 [(Prf.cells true p_)]),(1,.mix 5 [(Cat.cells true p_.s)]),(2,.mix 5 [(Cat.cells true p_.t)])],3⟩) (wkQ9 [(0,0),(1,1),(2,2)]) ?_;clear h;intro k112 s112 c112 h hk112;refine Q5 ?_;refine Q5 ?_;refine runQ hN fun K hK=>?_;simp [-Q0,-Q7,-Q1,-Q8,-Q2];repeat refine sdQ ?_
  refine hK _ ?_;clear hK K;refine tn ?_;refine Q9 (st':=⟨[(1,.adr 0 0 0),(3,.adr 1 0 0),(4,.adr 2 0 0),(8,iV s112),(85,.val (.bool (decide (s112<(p_.bh.length:Int)))))],[(0,.mix 13 [(Prf.cells true p_)]),(1,.mix 5 [(Cat.cells true p_.s)]),(2,.mix 5 [(Cat.cells true p_.t)])],3⟩) (wkQ9 [(0,0),(1,1),(2,2)]) ?_;refine Qc rfl (fun g=>?_) fun g=>?_
  ·have g113:s112<(p_.bh.length:Int):=gQ;clear g;replace h:=if_l g113 h;refine Qd ?_;refine tn ?_;refine Q5 ?_;replace h:=bind_some h;obtain ⟨e114,h,h114⟩:=h;refine Qj (fun b114:Unit=>⟨[(1,.adr 0 0 0),(3,.adr 1 0 0),(4,.adr 2 0 0),(8,iV s112)],[(0,.mix 13 [(Prf.cells true p_)]),(1,.mix 5 [(Cat.cells true p_.s)]),(2,.mix 5 [(Cat.cells true p_.t)])],3⟩) (fun b114=>Sum.inl b114=e114) ?_ ?_
   ·refine Qa ?_;refine Q5 ?_;refine Q5 ?_;refine runQ hN fun K hK=>?_;replace h:=Q4 h;obtain ⟨a115,h⟩:=h;simp [-Q0,-Q7,-Q1,-Q8,-Q2,at_E (c:=eL) a115];(repeat refine sdQ ?_);refine hK _ ?_;clear hK K;refine tn ?_;refine Q9 (st':=⟨[(1,.adr 0 0 0),(3,.adr 1 0 0),(4,.adr 2 0 0),(8,iV s112),(96,.val (.bool (((gx p_.bh s112).length:Int) != p_.s.n)))],[(0,.mix 13 [(Prf.cells true p_)]),(1,.mix 5 [(Cat.cells true p_.s)]),(2,.mix 5 [(Cat.cells true p_.t)])],3⟩) (wkQ9 [(0,0),(1,1),(2,2)]) ?_;refine Qc rfl (fun g=>?_) fun g=>?_
    ·have g116:¬ (((gx p_.bh s112).length:Int)=p_.s.n):=gQ;clear g;replace h:=if_l g116 h;refine Q5 ?_;refine runQ hN fun K hK=>?_;simp [-Q0,-Q7,-Q1,-Q8,-Q2];(repeat refine sdQ ?_);refine hK _ ?_;clear hK K;refine tn ?_;refine Q9 (st':=⟨[(2,.val (.bool false))],[],0⟩) (wkQ9 []) ?_;refine Qh ?_;refine tr ?_;refine br ?_;refine tr ?_;refine lr ?_;refine br ?_;refine tr ?_;cases h;have h:=h114;(try dsimp only at h);cases h;have q:_=e75:=hk112;have h:=h75;rw [← q] at h;clear q;(try dsimp only at h);have hr:=Option.some.inj h;rw [← hr];refine ⟨_,(.tmp .nil),?_⟩;refine ⟨(.one rfl rfl .nil),[.val (.bool false)],[],by simp [Cat.cells,Prf.cells,UA,U1,IA,I1,LA,L1,BA,B1,EA,E1,E2,eB,eI,eL],by simp,(UpL.refl _)⟩
    have g116:¬ (¬ (((gx p_.bh s112).length:Int)=p_.s.n)):=gQ;clear g;replace h:=if_r g116 h;refine Qd ?_;refine tn ?_;refine Q5 ?_;refine runQ hN fun K hK=>?_;simp [-Q0,-Q7,-Q1,-Q8,-Q2];(repeat refine sdQ ?_);refine hK _ ?_;clear hK K;refine tn ?_;refine Q9 (st':=⟨[(1,.adr 0 0 0),(3,.adr 1 0 0),(4,.adr 2 0 0),(8,iV s112),(9,iV 0)],[(0,.mix 13 [(Prf.cells true p_)]),(1,.mix 5 [(Cat.cells true p_.s)]),(2,.mix 5 [(Cat.cells true p_.t)])],3⟩) (wkQ9 [(0,0),(1,1),(2,2)]) ?_;refine Qa ?_;replace h:=bind_some h;obtain ⟨e132,he132,h132⟩:=h;refine Qr he132 (fun s132:Int=>⟨[(1,.adr 0 0 0),(3,.adr 1 0 0),(4,.adr 2 0 0),(8,iV s112),(9,iV s132)],[(0,.mix 13 [(Prf.cells true p_)]),(1,.mix 5 [(Cat.cells true p_.s)]),(2,.mix 5 [(Cat.cells true p_.t)])],3⟩) (wkQ9 [(0,0),(1,1),(2,2)]) ?_;intro k132 s132 c132 h hk132;refine Q5 ?_;refine Q5 ?_;refine runQ hN fun K hK=>?_;replace h:=Q4 h;obtain ⟨a133,h⟩:=h;simp [-Q0,-Q7,-Q1,-Q8,-Q2,at_E (c:=eL) a133];(repeat refine sdQ ?_);refine hK _ ?_;clear hK K;refine tn ?_;refine Q9 (st':=⟨[(1,.adr 0 0 0),(3,.adr 1 0 0),(4,.adr 2 0 0),(8,iV s112),(9,iV s132),(104,.val (.bool (decide (s132<((gx p_.bh s112).length:Int)))))],[(0,.mix 13 [(Prf.cells true p_)]),(1,.mix 5 [(Cat.cells true p_.s)]),(2,.mix 5 [(Cat.cells true p_.t)])],3⟩) (wkQ9 [(0,0),(1,1),(2,2)]) ?_;refine Qc rfl (fun g=>?_) fun g=>?_
    ·have g134:s132<((gx p_.bh s112).length:Int):=gQ;clear g;replace h:=if_l g134 h;refine Qd ?_;refine tn ?_;refine Q5 ?_;refine Qa ?_;refine Q5 ?_;refine runQ hN fun K hK=>?_;replace h:=Q4 h;obtain ⟨a135,h⟩:=h;replace h:=Q4 h;obtain ⟨a136,h⟩:=h;simp [-Q0,-Q7,-Q1,-Q8,-Q2,at_E (c:=eL) a135,at_L a136];(repeat refine sdQ ?_);refine hK _ ?_;clear hK K;refine tn ?_;refine Q9 (st':=⟨[(1,.adr 0 0 0),(3,.adr 1 0 0),(4,.adr 2 0 0),(8,iV s112),(9,iV s132),(10,lI (rx (gx p_.bh s112) s132))],[(0,.mix 13 [(Prf.cells true p_)]),(1,.mix 5 [(Cat.cells true p_.s)]),(2,.mix 5 [(Cat.cells true p_.t)])],3⟩) (wkQ9 [(0,0),(1,1),(2,2)]) ?_;refine Q5 ?_;replace h:=bind_some h;obtain ⟨e137,h,h137⟩:=h;refine Qj (fun b137:Bool=>⟨[(1,.adr 0 0 0),(3,.adr 1 0 0),(4,.adr 2 0 0),(8,iV s112),(9,iV s132),(146,.val (.bool b137))],[(0,.mix 13 [(Prf.cells true p_)]),(1,.mix 5 [(Cat.cells true p_.s)]),(2,.mix 5 [(Cat.cells true p_.t)])],3⟩) (fun b137=>b137=e137) ?_ ?_
     ·refine runQ hN fun K hK=>?_;replace h:=Q4 h;obtain ⟨a138,h⟩:=h;replace h:=Q4 h;obtain ⟨a139,h⟩:=h;replace h:=Q4 h;obtain ⟨a140,h⟩:=h;simp [-Q0,-Q7,-Q1,-Q8,-Q2,at_L a138,at_I a139,at_I a140];(repeat with_reducible refine sdQ ?_);refine Qs (fun g=>?_) (fun g=>?_)
      ·have g141:¬ (¬ (((rx (gx p_.bh s112) s132).length:Int)=(ix (rx p_.sz s132) (ix p_.t.fr s112)))):=gQ;clear g;replace h:=if_r g141 h;replace h:=Q4 h;obtain ⟨a142,h⟩:=h;replace h:=Q4 h;obtain ⟨a143,h⟩:=h;replace h:=Q4 h;obtain ⟨a144,h⟩:=h;simp [-Q0,-Q7,-Q1,-Q8,-Q2,at_L a138,at_I a139,at_I a140,at_L a142,at_I a143,at_I a144];(repeat with_reducible refine sdQ ?_);replace h:=bind_some h;obtain ⟨v145,hv145,h⟩:=h;refine Q3 (Q52 _ _ v145 hv145) (.cons .val (.cons .lst .nil)) ?_;simp [-Q0,-Q7,-Q1,-Q8,-Q2,unk,unA,unE,unT,unC,flat,at_L a138,at_I a139,at_I a140,at_L a142,at_I a143,at_I a144];(repeat refine sdQ ?_);refine hK _ ?_;exact jn (b:=!v145) (Option.some.inj h) (wkQ9 [(0,0),(1,1),(2,2)])
      have g141:¬ (((rx (gx p_.bh s112) s132).length:Int)=(ix (rx p_.sz s132) (ix p_.t.fr s112))):=gQ;clear g;replace h:=if_l g141 h;simp [-Q0,-Q7,-Q1,-Q8,-Q2,at_L a138,at_I a139,at_I a140];(repeat refine sdQ ?_);refine hK _ ?_;exact jn (b:=true) (Option.some.inj h) (wkQ9 [(0,0),(1,1),(2,2)])
     intro b137 hb137;have h:=h137;(try rw [← hb137] at h);clear h137;(try dsimp only at h);refine Qc rfl (fun g=>?_) fun g=>?_
     ·have g146:b137=true:=gQ;clear g;replace h:=if_l g146 h;refine Q5 ?_;refine runQ hN fun K hK=>?_;simp [-Q0,-Q7,-Q1,-Q8,-Q2];(repeat refine sdQ ?_);refine hK _ ?_;clear hK K;refine tn ?_;refine Q9 (st':=⟨[(2,.val (.bool false))],[],0⟩) (wkQ9 []) ?_;refine Qh ?_;refine br ?_;refine tr ?_;refine lr ?_;refine br ?_;refine br ?_;refine tr ?_;refine lr ?_;refine br ?_;refine tr ?_;cases h;have q:_=e132:=hk132;have h:=h132;rw [← q] at h;clear q;(try dsimp only at h);cases h;have h:=h114;(try dsimp only at h);cases h;have q:_=e75:=hk112;have h:=h75;rw [← q] at h;clear q;(try dsimp only at h);have hr:=Option.some.inj h;rw [← hr];refine ⟨_,(.tmp .nil),?_⟩;refine ⟨(.one rfl rfl .nil),[.val (.bool false)],[],by simp [Cat.cells,Prf.cells,UA,U1,IA,I1,LA,L1,BA,B1,EA,E1,E2,eB,eI,eL],by simp,(UpL.refl _)⟩
     have g146:¬ (b137=true):=gQ;clear g;replace h:=if_r g146 h;refine Qd ?_;refine bn ?_;refine tn ?_;refine runQ hN fun K hK=>?_;replace h:=Q4 h;obtain ⟨a147,h⟩:=h;simp [-Q0,-Q7,-Q1,-Q8,-Q2,Qn a147];(repeat refine sdQ ?_);refine hK _ ?_;clear hK K;cases h;exact rn (s':=s132+1) hk132 (wkQ9 [(0,0),(1,1),(2,2)])
    have g134:¬ (s132<((gx p_.bh s112).length:Int)):=gQ;clear g;replace h:=if_r g134 h;refine Ql ?_;refine tx ?_;refine lx ?_;refine bh ?_;refine bn ?_;cases h;have q:_=e132:=hk132;have h:=h132;rw [← q] at h;clear q;(try dsimp only at h);exact jn (b:=()) (Option.some.inj h) (wkQ9 [(0,0),(1,1),(2,2)])
   intro b114 hb114;have h:=h114;(try rw [← hb114] at h);clear h114;(try dsimp only at h);refine runQ hN fun K hK=>?_;replace h:=Q4 h;obtain ⟨a148,h⟩:=h;simp [-Q0,-Q7,-Q1,-Q8,-Q2,Qn a148];(repeat refine sdQ ?_);refine hK _ ?_;clear hK K;cases h;exact rn (s':=s112+1) hk112 (wkQ9 [(0,0),(1,1),(2,2)])
  have g113:¬ (s112<(p_.bh.length:Int)):=gQ;clear g;replace h:=if_r g113 h;refine Ql ?_;refine tx ?_;refine lx ?_;refine bh ?_;cases h;exact jn (b:=()) hk112 (wkQ9 [])
 intro b75 hb75;have h:=h75;try rw [← hb75] at h
 clear h75;try dsimp only at h
 refine Q5 ?_;refine runQ hN fun K hK=>?_;simp [-Q0,-Q7,-Q1,-Q8,-Q2];repeat refine sdQ ?_
 refine hK _ ?_;clear hK K;refine tn ?_;refine Q9 (st':=⟨[(2,.val (.bool true))],[],0⟩) (wkQ9 []) ?_;refine Qh ?_;have hr:=Option.some.inj h;rw [← hr];refine ⟨_,(.tmp .nil),?_⟩;refine ⟨(.one rfl rfl .nil),[.val (.bool true)],[],by simp [Cat.cells,Prf.cells,UA,U1,IA,I1,LA,L1,BA,B1,EA,E1,E2,eB,eI,eL],by simp,(UpL.refl _)⟩
attribute [local simp] eL eI Qw Q2F Prf.cells
noncomputable def Q1E (p_:Prf):Option Bool :=
 (
  if ¬ ((p_.sz.length:Int)=p_.s.n) then
   some true
  else
   if ¬ ((p_.bf.length:Int)=(p_.s.fr.length:Int)) then
    some true
   else
    some ((p_.bh.length:Int) != (p_.t.fr.length:Int)):Option (Bool)).bind fun b1 =>
 if b1=true then
  some false
 else
  (Qu (σ:=Int) (ε:=Unit ⊕ Bool) (fun s26 =>
   if s26<(p_.sz.length:Int) then
    (
     ass (0≤s26∧s26<(p_.sz.length:Int)) <|
     if ¬ (((rx p_.sz s26).length:Int)=p_.t.n) then
      some (Sum.inr false)
     else
      (Qu (σ:=Int) (ε:=Bool ⊕ Unit) (fun s38 =>
       ass (0≤s26∧s26<(p_.sz.length:Int)) <|
       if s38<((rx p_.sz s26).length:Int) then
        ass (0≤s26∧s26<(p_.sz.length:Int)) <|
        ass (0≤s38∧s38<((rx p_.sz s26).length:Int)) <|
        (Q3F (ix (rx p_.sz s26) s38) 0 64).bind fun v43 =>
        if ¬ (v43=true) then
         some (Ctl.ret (Sum.inl false))
        else
         ass (B64 (s38+1)) <|
         some (Ctl.next (s38+1))
       else
        some (Ctl.ret (Sum.inr ()))) fuel 0).bind fun e38 =>
      match e38 with
      | .inl p38 =>
       some (Sum.inr p38)
      | .inr p38 =>
       some (Sum.inl p38):Option (Unit ⊕ Bool)).bind fun e28 =>
    match e28 with
    | .inl b28 =>
     ass (B64 (s26+1)) <|
     some (Ctl.next (s26+1))
    | .inr p28 =>
     some (Ctl.ret (Sum.inr p28))
   else
    some (Ctl.ret (Sum.inl ()))) fuel 0).bind fun e5 =>
  match e5 with
  | .inl b5 =>
   some true
  | .inr p5 =>
   some p5
theorem Q6h (p_:Prf) (r:Bool) (h:Q1E p_=some r):Contract Try.prog 117 [.agg (p_.cells true)] (.val (.bool r)):=by
 refine Qg (rvs:=[.tmp 2]) (rs:=[.val (.bool r)]) Try.func117 rfl rfl rfl rfl (by simp [Try.f117]) fun F hN hP=>?_;unfold Q1E at h;refine Q5 ?_;refine runQ hN fun K hK=>?_;simp [-Q0,-Q7,-Q1,-Q8,-Q2];repeat refine sdQ ?_
 refine hK _ ?_;clear hK K;refine tn ?_;refine Q9 (st':=⟨[(1,.adr 0 0 0)],[(0,.mix 13 [(Prf.cells true p_)])],1⟩) (wkQ9 [(0,0)]) ?_;refine Q5 ?_;refine Q5 ?_;replace h:=bind_some h;obtain ⟨e1,h,h1⟩:=h;refine Qj (fun b1:Bool=>⟨[(1,.adr 0 0 0),(31,.val (.bool b1))],[(0,.mix 13 [(Prf.cells true p_)])],1⟩) (fun b1=>b1=e1) ?_ ?_
 ·refine runQ hN fun K hK=>?_;simp [-Q0,-Q7,-Q1,-Q8,-Q2];repeat with_reducible refine sdQ ?_
  refine Qs (fun g=>?_) (fun g=>?_)
  ·have g2:¬ (¬ ((p_.sz.length:Int)=p_.s.n)):=gQ;clear g;replace h:=if_r g2 h;simp [-Q0,-Q7,-Q1,-Q8,-Q2];(repeat with_reducible refine sdQ ?_);refine Qs (fun g=>?_) (fun g=>?_)
   ·have g3:¬ (¬ ((p_.bf.length:Int)=(p_.s.fr.length:Int))):=gQ;clear g;replace h:=if_r g3 h;simp [-Q0,-Q7,-Q1,-Q8,-Q2];(repeat refine sdQ ?_);refine hK _ ?_;exact jn (b:=(p_.bh.length:Int) != (p_.t.fr.length:Int)) (Option.some.inj h) (wkQ9 [(0,0)])
   have g3:¬ ((p_.bf.length:Int)=(p_.s.fr.length:Int)):=gQ;clear g;replace h:=if_l g3 h;simp [-Q0,-Q7,-Q1,-Q8,-Q2];(repeat refine sdQ ?_);refine hK _ ?_;exact jn (b:=true) (Option.some.inj h) (wkQ9 [(0,0)])
  have g2:¬ ((p_.sz.length:Int)=p_.s.n):=gQ;clear g;replace h:=if_l g2 h;simp [-Q0,-Q7,-Q1,-Q8,-Q2];repeat refine sdQ ?_
  refine hK _ ?_;exact jn (b:=true) (Option.some.inj h) (wkQ9 [(0,0)])
 intro b1 hb1;have h:=h1;try rw [← hb1] at h
 clear h1;try dsimp only at h
 refine Qc rfl (fun g=>?_) fun g=>?_
 ·have g4:b1=true:=gQ;clear g;replace h:=if_l g4 h;refine Q5 ?_;refine runQ hN fun K hK=>?_;simp [-Q0,-Q7,-Q1,-Q8,-Q2];repeat refine sdQ ?_
  refine hK _ ?_;clear hK K;refine tn ?_;refine Q9 (st':=⟨[(2,.val (.bool false))],[],0⟩) (wkQ9 []) ?_;refine Qh ?_;refine tr ?_;have hr:=Option.some.inj h;rw [← hr];refine ⟨_,(.tmp .nil),?_⟩;refine ⟨(.one rfl rfl .nil),[.val (.bool false)],[],by simp [Prf.cells,UA,U1,IA,I1,LA,L1,BA,B1,EA,E1,E2,eB,eI,eL],by simp,(UpL.refl _)⟩
 have g4:¬ (b1=true):=gQ;clear g;replace h:=if_r g4 h;refine Qd ?_;refine tn ?_;refine Q5 ?_;refine Q5 ?_;refine runQ hN fun K hK=>?_;simp [-Q0,-Q7,-Q1,-Q8,-Q2];repeat refine sdQ ?_
 refine hK _ ?_;clear hK K;refine tn ?_;refine Q9 (st':=⟨[(1,.adr 0 0 0),(3,iV 0)],[(0,.mix 13 [(Prf.cells true p_)])],1⟩) (wkQ9 [(0,0)]) ?_;replace h:=bind_some h;obtain ⟨e5,h,h5⟩:=h;refine Qj (fun b5:Unit=>⟨[],[],0⟩) (fun b5=>Sum.inl b5=e5) ?_ ?_
 ·refine Qa ?_;refine Qr h (fun s26:Int=>⟨[(1,.adr 0 0 0),(3,iV s26)],[(0,.mix 13 [(Prf.cells true p_)])],1⟩) (wkQ9 [(0,0)]) ?_;clear h;intro k26 s26 c26 h hk26;refine Q5 ?_;refine Q5 ?_;refine runQ hN fun K hK=>?_;simp [-Q0,-Q7,-Q1,-Q8,-Q2];repeat refine sdQ ?_
  refine hK _ ?_;clear hK K;refine tn ?_;refine Q9 (st':=⟨[(1,.adr 0 0 0),(3,iV s26),(36,.val (.bool (decide (s26<(p_.sz.length:Int)))))],[(0,.mix 13 [(Prf.cells true p_)])],1⟩) (wkQ9 [(0,0)]) ?_;refine Qc rfl (fun g=>?_) fun g=>?_
  ·have g27:s26<(p_.sz.length:Int):=gQ;clear g;replace h:=if_l g27 h;refine Qd ?_;refine tn ?_;refine Q5 ?_;replace h:=bind_some h;obtain ⟨e28,h,h28⟩:=h;refine Qj (fun b28:Unit=>⟨[(1,.adr 0 0 0),(3,iV s26)],[(0,.mix 13 [(Prf.cells true p_)])],1⟩) (fun b28=>Sum.inl b28=e28) ?_ ?_
   ·refine Qa ?_;refine Q5 ?_;refine Q5 ?_;refine runQ hN fun K hK=>?_;replace h:=Q4 h;obtain ⟨a29,h⟩:=h;simp [-Q0,-Q7,-Q1,-Q8,-Q2,at_L a29];(repeat refine sdQ ?_);refine hK _ ?_;clear hK K;refine tn ?_;refine Q9 (st':=⟨[(1,.adr 0 0 0),(3,iV s26),(48,.val (.bool (((rx p_.sz s26).length:Int) != p_.t.n)))],[(0,.mix 13 [(Prf.cells true p_)])],1⟩) (wkQ9 [(0,0)]) ?_;refine Qc rfl (fun g=>?_) fun g=>?_
    ·have g30:¬ (((rx p_.sz s26).length:Int)=p_.t.n):=gQ;clear g;replace h:=if_l g30 h;refine Q5 ?_;refine runQ hN fun K hK=>?_;simp [-Q0,-Q7,-Q1,-Q8,-Q2];(repeat refine sdQ ?_);refine hK _ ?_;clear hK K;refine tn ?_;refine Q9 (st':=⟨[(2,.val (.bool false))],[],0⟩) (wkQ9 []) ?_;refine Qh ?_;refine tr ?_;refine br ?_;refine tr ?_;refine lr ?_;refine br ?_;refine tr ?_;cases h;have h:=h28;(try dsimp only at h);cases h;have q:_=e5:=hk26;have h:=h5;rw [← q] at h;clear q;(try dsimp only at h);have hr:=Option.some.inj h;rw [← hr];refine ⟨_,(.tmp .nil),?_⟩;refine ⟨(.one rfl rfl .nil),[.val (.bool false)],[],by simp [Prf.cells,UA,U1,IA,I1,LA,L1,BA,B1,EA,E1,E2,eB,eI,eL],by simp,(UpL.refl _)⟩
    have g30:¬ (¬ (((rx p_.sz s26).length:Int)=p_.t.n)):=gQ;clear g;replace h:=if_r g30 h;refine Qd ?_;refine tn ?_;refine Q5 ?_;refine runQ hN fun K hK=>?_;simp [-Q0,-Q7,-Q1,-Q8,-Q2];(repeat refine sdQ ?_);refine hK _ ?_;clear hK K;refine tn ?_;refine Q9 (st':=⟨[(1,.adr 0 0 0),(3,iV s26),(4,iV 0)],[(0,.mix 13 [(Prf.cells true p_)])],1⟩) (wkQ9 [(0,0)]) ?_;refine Qa ?_;replace h:=bind_some h;obtain ⟨e38,he38,h38⟩:=h;refine Qr he38 (fun s38:Int=>⟨[(1,.adr 0 0 0),(3,iV s26),(4,iV s38)],[(0,.mix 13 [(Prf.cells true p_)])],1⟩) (wkQ9 [(0,0)]) ?_;intro k38 s38 c38 h hk38;refine Q5 ?_;refine Q5 ?_;refine runQ hN fun K hK=>?_;replace h:=Q4 h;obtain ⟨a39,h⟩:=h;simp [-Q0,-Q7,-Q1,-Q8,-Q2,at_L a39];(repeat refine sdQ ?_);refine hK _ ?_;clear hK K;refine tn ?_;refine Q9 (st':=⟨[(1,.adr 0 0 0),(3,iV s26),(4,iV s38),(56,.val (.bool (decide (s38<((rx p_.sz s26).length:Int)))))],[(0,.mix 13 [(Prf.cells true p_)])],1⟩) (wkQ9 [(0,0)]) ?_;refine Qc rfl (fun g=>?_) fun g=>?_
    ·have g40:s38<((rx p_.sz s26).length:Int):=gQ;clear g;replace h:=if_l g40 h;refine Qd ?_;refine tn ?_;refine Q5 ?_;refine Qa ?_;refine Q5 ?_;refine runQ hN fun K hK=>?_;replace h:=Q4 h;obtain ⟨a41,h⟩:=h;replace h:=Q4 h;obtain ⟨a42,h⟩:=h;simp [-Q0,-Q7,-Q1,-Q8,-Q2,at_L a41,at_I a42];(repeat with_reducible refine sdQ ?_);replace h:=bind_some h;obtain ⟨v43,hv43,h⟩:=h;refine Q3 (w_s_l01In _ _ _ v43 hv43) (.cons .val (.cons .val (.cons .val .nil))) ?_;simp [-Q0,-Q7,-Q1,-Q8,-Q2,unk,unA,unE,unT,unC,flat,at_L a41,at_I a42];(repeat refine sdQ ?_);refine hK _ ?_;clear hK K;refine tn ?_;refine Q9 (st':=⟨[(1,.adr 0 0 0),(3,iV s26),(4,iV s38),(68,.val (.bool (!v43)))],[(0,.mix 13 [(Prf.cells true p_)])],1⟩) (wkQ9 [(0,0)]) ?_;refine Qc rfl (fun g=>?_) fun g=>?_
     ·have g44:¬ (v43=true):=gQ;clear g;replace h:=if_l g44 h;refine Q5 ?_;refine runQ hN fun K hK=>?_;simp [-Q0,-Q7,-Q1,-Q8,-Q2];(repeat refine sdQ ?_);refine hK _ ?_;clear hK K;refine tn ?_;refine Q9 (st':=⟨[(2,.val (.bool false))],[],0⟩) (wkQ9 []) ?_;refine Qh ?_;refine br ?_;refine tr ?_;refine lr ?_;refine br ?_;refine br ?_;refine tr ?_;refine lr ?_;refine br ?_;refine tr ?_;cases h;have q:_=e38:=hk38;have h:=h38;rw [← q] at h;clear q;(try dsimp only at h);cases h;have h:=h28;(try dsimp only at h);cases h;have q:_=e5:=hk26;have h:=h5;rw [← q] at h;clear q;(try dsimp only at h);have hr:=Option.some.inj h;rw [← hr];refine ⟨_,(.tmp .nil),?_⟩;refine ⟨(.one rfl rfl .nil),[.val (.bool false)],[],by simp [Prf.cells,UA,U1,IA,I1,LA,L1,BA,B1,EA,E1,E2,eB,eI,eL],by simp,(UpL.refl _)⟩
     have g44:¬ (¬ (v43=true)):=gQ;clear g;replace h:=if_r g44 h;refine Qd ?_;refine bn ?_;refine tn ?_;refine runQ hN fun K hK=>?_;replace h:=Q4 h;obtain ⟨a45,h⟩:=h;simp [-Q0,-Q7,-Q1,-Q8,-Q2,Qn a45];(repeat refine sdQ ?_);refine hK _ ?_;clear hK K;cases h;exact rn (s':=s38+1) hk38 (wkQ9 [(0,0)])
    have g40:¬ (s38<((rx p_.sz s26).length:Int)):=gQ;clear g;replace h:=if_r g40 h;refine Ql ?_;refine tx ?_;refine lx ?_;refine bh ?_;refine bn ?_;cases h;have q:_=e38:=hk38;have h:=h38;rw [← q] at h;clear q;(try dsimp only at h);exact jn (b:=()) (Option.some.inj h) (wkQ9 [(0,0)])
   intro b28 hb28;have h:=h28;(try rw [← hb28] at h);clear h28;(try dsimp only at h);refine runQ hN fun K hK=>?_;replace h:=Q4 h;obtain ⟨a46,h⟩:=h;simp [-Q0,-Q7,-Q1,-Q8,-Q2,Qn a46];(repeat refine sdQ ?_);refine hK _ ?_;clear hK K;cases h;exact rn (s':=s26+1) hk26 (wkQ9 [(0,0)])
  have g27:¬ (s26<(p_.sz.length:Int)):=gQ;clear g;replace h:=if_r g27 h;refine Ql ?_;refine tx ?_;refine lx ?_;refine bh ?_;cases h;exact jn (b:=()) hk26 (wkQ9 [])
 intro b5 hb5;have h:=h5;try rw [← hb5] at h
 clear h5;try dsimp only at h
 refine Q5 ?_;refine runQ hN fun K hK=>?_;simp [-Q0,-Q7,-Q1,-Q8,-Q2];repeat refine sdQ ?_
 refine hK _ ?_;clear hK K;refine tn ?_;refine Q9 (st':=⟨[(2,.val (.bool true))],[],0⟩) (wkQ9 []) ?_;refine Qh ?_;have hr:=Option.some.inj h;rw [← hr];refine ⟨_,(.tmp .nil),?_⟩;refine ⟨(.one rfl rfl .nil),[.val (.bool true)],[],by simp [Prf.cells,UA,U1,IA,I1,LA,L1,BA,B1,EA,E1,E2,eB,eI,eL],by simp,(UpL.refl _)⟩
attribute [local simp] eL eI Qw Q17 Q2F Cat.cells Prf.cells
noncomputable def Q2X (p_:Prf):Option Bool :=
 (
  (Q2W p_.s).bind fun v2 =>
  if v2=true then
   (Q2W p_.t).bind fun v4 =>
   if v4=true then
    (Q1E p_).bind fun v6 =>
    if v6=true then
     (Q20 p_).bind fun v8 =>
     if v8=true then
      (Q1Z p_).bind fun v10 =>
      some v10
     else
      some false
    else
     some false
   else
    some false
  else
   some false:Option (Bool)).bind fun b1 =>
 some b1
theorem w_s_l22Is (p_:Prf) (r:Bool) (h:Q2X p_=some r):Contract Try.prog 58 [.agg (p_.cells true)] (.val (.bool r)):=by
 refine Qg (rvs:=[.tmp 2]) (rs:=[.val (.bool r)]) Try.func58 rfl rfl rfl rfl (by simp [Try.f58]) fun F hN hP=>?_;unfold Q2X at h;refine Q5 ?_;refine runQ hN fun K hK=>?_;simp [-Q0,-Q7,-Q1,-Q8,-Q2];repeat refine sdQ ?_
 refine hK _ ?_;clear hK K;refine tn ?_;refine Q9 (st':=⟨[(1,.adr 0 0 0)],[(0,.mix 13 [(Prf.cells true p_)])],1⟩) (wkQ9 [(0,0)]) ?_;refine Q5 ?_;replace h:=bind_some h;obtain ⟨e1,h,h1⟩:=h;refine Qj (fun b1:Bool=>⟨[(2,.val (.bool b1))],[],0⟩) (fun b1=>b1=e1) ?_ ?_
 ·refine runQ hN fun K hK=>?_;simp [-Q0,-Q7,-Q1,-Q8,-Q2];repeat with_reducible refine sdQ ?_
  replace h:=bind_some h;obtain ⟨v2,hv2,h⟩:=h;refine Q3 (Q6g _ v2 hv2) (.cons (.aggL (.cons .val (.cons .lst (.cons .lst (.cons .lst (.cons .lst .nil)))))) .nil) ?_;simp [-Q0,-Q7,-Q1,-Q8,-Q2,unk,unA,unE,unT,unC,flat];repeat with_reducible refine sdQ ?_
  refine Qs (fun g=>?_) (fun g=>?_)
  ·have g3:v2=true:=gQ;clear g;replace h:=if_l g3 h;simp [-Q0,-Q7,-Q1,-Q8,-Q2];(repeat with_reducible refine sdQ ?_);replace h:=bind_some h;obtain ⟨v4,hv4,h⟩:=h;refine Q3 (Q6g _ v4 hv4) (.cons (.aggL (.cons .val (.cons .lst (.cons .lst (.cons .lst (.cons .lst .nil)))))) .nil) ?_;simp [-Q0,-Q7,-Q1,-Q8,-Q2,unk,unA,unE,unT,unC,flat];(repeat with_reducible refine sdQ ?_);refine Qs (fun g=>?_) (fun g=>?_)
   ·have g5:v4=true:=gQ;clear g;replace h:=if_l g5 h;simp [-Q0,-Q7,-Q1,-Q8,-Q2];(repeat with_reducible refine sdQ ?_);replace h:=bind_some h;obtain ⟨v6,hv6,h⟩:=h;refine Q3 (Q6h _ v6 hv6) (.cons (.aggL (.cons .val (.cons .lst (.cons .lst (.cons .lst (.cons .lst (.cons .val (.cons .lst (.cons .lst (.cons .lst (.cons .lst (.cons .lst (.cons .lst (.cons .lst .nil)))))))))))))) .nil) ?_;simp [-Q0,-Q7,-Q1,-Q8,-Q2,unk,unA,unE,unT,unC,flat];(repeat with_reducible refine sdQ ?_);refine Qs (fun g=>?_) (fun g=>?_)
    ·have g7:v6=true:=gQ;clear g;replace h:=if_l g7 h;simp [-Q0,-Q7,-Q1,-Q8,-Q2];(repeat with_reducible refine sdQ ?_);replace h:=bind_some h;obtain ⟨v8,hv8,h⟩:=h;refine Q3 (Q70 _ v8 hv8) (.cons (.aggL (.cons .val (.cons .lst (.cons .lst (.cons .lst (.cons .lst (.cons .val (.cons .lst (.cons .lst (.cons .lst (.cons .lst (.cons .lst (.cons .lst (.cons .lst .nil)))))))))))))) .nil) ?_;simp [-Q0,-Q7,-Q1,-Q8,-Q2,unk,unA,unE,unT,unC,flat];(repeat with_reducible refine sdQ ?_);refine Qs (fun g=>?_) (fun g=>?_)
     ·have g9:v8=true:=gQ;clear g;replace h:=if_l g9 h;simp [-Q0,-Q7,-Q1,-Q8,-Q2];(repeat with_reducible refine sdQ ?_);replace h:=bind_some h;obtain ⟨v10,hv10,h⟩:=h;refine Q3 (Q6Z _ v10 hv10) (.cons (.aggL (.cons .val (.cons .lst (.cons .lst (.cons .lst (.cons .lst (.cons .val (.cons .lst (.cons .lst (.cons .lst (.cons .lst (.cons .lst (.cons .lst (.cons .lst .nil)))))))))))))) .nil) ?_;simp [-Q0,-Q7,-Q1,-Q8,-Q2,unk,unA,unE,unT,unC,flat];(repeat refine sdQ ?_);refine hK _ ?_;exact jn (b:=v10) (Option.some.inj h) (wkQ9 [])
     have g9:¬ (v8=true):=gQ;clear g;replace h:=if_r g9 h;simp [-Q0,-Q7,-Q1,-Q8,-Q2];(repeat refine sdQ ?_);refine hK _ ?_;exact jn (b:=false) (Option.some.inj h) (wkQ9 [])
    have g7:¬ (v6=true):=gQ;clear g;replace h:=if_r g7 h;simp [-Q0,-Q7,-Q1,-Q8,-Q2];(repeat refine sdQ ?_);refine hK _ ?_;exact jn (b:=false) (Option.some.inj h) (wkQ9 [])
   have g5:¬ (v4=true):=gQ;clear g;replace h:=if_r g5 h;simp [-Q0,-Q7,-Q1,-Q8,-Q2];(repeat refine sdQ ?_);refine hK _ ?_;exact jn (b:=false) (Option.some.inj h) (wkQ9 [])
  have g3:¬ (v2=true):=gQ;clear g;replace h:=if_r g3 h;simp [-Q0,-Q7,-Q1,-Q8,-Q2];repeat refine sdQ ?_
  refine hK _ ?_;exact jn (b:=false) (Option.some.inj h) (wkQ9 [])
 intro b1 hb1;have h:=h1;try rw [← hb1] at h
 clear h1;try dsimp only at h
 refine Qh ?_;have hr:=Option.some.inj h;rw [← hr];refine ⟨_,(.tmp .nil),?_⟩;refine ⟨(.one rfl rfl .nil),[.val (.bool b1)],[],by simp [Cat.cells,Prf.cells,UA,U1,IA,I1,LA,L1,BA,B1,EA,E1,E2,eB,eI,eL],by simp,(UpL.refl _)⟩
end Go.Vc.T
