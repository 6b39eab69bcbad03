/- A part of the proof: a verified generator of conditions, and what each function of the program does. -/
import Derived.Test.YtbpjpnccoeedoaaB9
set_option maxRecDepth 100000
set_option maxHeartbeats 4000000
set_option linter.unusedSimpArgs false
set_option linter.unusedVariables false

namespace Go.Vc.T
open Go Go.Vc Go.Proofs
attribute [local simp] eL eI QB Q1y Q27 Cat.cells Prf.cells
noncomputable def Q2g (p_:Prf):Option Bool :=
 (Qx (σ:=Int) (ε:=Unit ⊕ Bool) (fun s38 =>
  if s38<(p_.bf.length:Int) then
   (
    ass (0≤s38∧s38<(p_.bf.length:Int)) <|
    if ¬ (((gx p_.bf s38).length:Int)=p_.t.n) then
     some (Sum.inr false)
    else
     (Qx (σ:=Int) (ε:=Bool ⊕ Unit) (fun s58 =>
      ass (0≤s38∧s38<(p_.bf.length:Int)) <|
      if s58<((gx p_.bf s38).length:Int) then
       ass (0≤s38∧s38<(p_.bf.length:Int)) <|
       ass (0≤s58∧s58<((gx p_.bf s38).length:Int)) <|
       (
        ass (0≤s38∧s38<(p_.s.to.length:Int)) <|
        ass (0≤ix p_.s.to s38∧ix p_.s.to s38<(p_.sz.length:Int)) <|
        ass (0≤s58∧s58<((rx p_.sz (ix p_.s.to s38)).length:Int)) <|
        if ¬ (((rx (gx p_.bf s38) s58).length:Int)=(ix (rx p_.sz (ix p_.s.to s38)) s58)) then
         some true
        else
         ass (0≤s38∧s38<(p_.s.fr.length:Int)) <|
         ass (0≤ix p_.s.fr s38∧ix p_.s.fr s38<(p_.sz.length:Int)) <|
         ass (0≤s58∧s58<((rx p_.sz (ix p_.s.fr s38)).length:Int)) <|
         (Q14 (ix (rx p_.sz (ix p_.s.fr s38)) s58) (rx (gx p_.bf s38) s58)).bind fun v71 =>
         some (!v71):Option (Bool)).bind fun b63 =>
       if b63=true then
        some (Ctl.ret (Sum.inl false))
       else
        ass (B64 (s58+1)) <|
        some (Ctl.next (s58+1))
      else
       some (Ctl.ret (Sum.inr ()))) fuel 0).bind fun e58 =>
     match e58 with
     | .inl p58 =>
      some (Sum.inr p58)
     | .inr p58 =>
      some (Sum.inl p58):Option (Unit ⊕ Bool)).bind fun e40 =>
   match e40 with
   | .inl b40 =>
    ass (B64 (s38+1)) <|
    some (Ctl.next (s38+1))
   | .inr p40 =>
    some (Ctl.ret (Sum.inr p40))
  else
   some (Ctl.ret (Sum.inl ()))) fuel 0).bind fun e1 =>
 match e1 with
 | .inl b1 =>
  (Qx (σ:=Int) (ε:=Unit ⊕ Bool) (fun s112 =>
   if s112<(p_.bh.length:Int) then
    (
     ass (0≤s112∧s112<(p_.bh.length:Int)) <|
     if ¬ (((gx p_.bh s112).length:Int)=p_.s.n) then
      some (Sum.inr false)
     else
      (Qx (σ:=Int) (ε:=Bool ⊕ Unit) (fun s132 =>
       ass (0≤s112∧s112<(p_.bh.length:Int)) <|
       if s132<((gx p_.bh s112).length:Int) then
        ass (0≤s112∧s112<(p_.bh.length:Int)) <|
        ass (0≤s132∧s132<((gx p_.bh s112).length:Int)) <|
        (
         ass (0≤s132∧s132<(p_.sz.length:Int)) <|
         ass (0≤s112∧s112<(p_.t.fr.length:Int)) <|
         ass (0≤ix p_.t.fr s112∧ix p_.t.fr s112<((rx p_.sz s132).length:Int)) <|
         if ¬ (((rx (gx p_.bh s112) s132).length:Int)=(ix (rx p_.sz s132) (ix p_.t.fr s112))) then
          some true
         else
          ass (0≤s132∧s132<(p_.sz.length:Int)) <|
          ass (0≤s112∧s112<(p_.t.to.length:Int)) <|
          ass (0≤ix p_.t.to s112∧ix p_.t.to s112<((rx p_.sz s132).length:Int)) <|
          (Q14 (ix (rx p_.sz s132) (ix p_.t.to s112)) (rx (gx p_.bh s112) s132)).bind fun v145 =>
          some (!v145):Option (Bool)).bind fun b137 =>
        if b137=true then
         some (Ctl.ret (Sum.inl false))
        else
         ass (B64 (s132+1)) <|
         some (Ctl.next (s132+1))
       else
        some (Ctl.ret (Sum.inr ()))) fuel 0).bind fun e132 =>
      match e132 with
      | .inl p132 =>
       some (Sum.inr p132)
      | .inr p132 =>
       some (Sum.inl p132):Option (Unit ⊕ Bool)).bind fun e114 =>
    match e114 with
    | .inl b114 =>
     ass (B64 (s112+1)) <|
     some (Ctl.next (s112+1))
    | .inr p114 =>
     some (Ctl.ret (Sum.inr p114))
   else
    some (Ctl.ret (Sum.inl ()))) fuel 0).bind fun e75 =>
  match e75 with
  | .inl b75 =>
   some true
  | .inr p75 =>
   some p75
 | .inr p1 =>
  some p1
theorem Qp {F : Fx} {st st' : St} (m : List (Nat × Nat)) (h : (m.map Prod.fst).Nodup ∧ (m.map Prod.snd).Nodup ∧ (∀ id, id < F.pins → look id m = some id) ∧ (∀ p ∈ m, p.2 < st'.n) ∧ (∀ p ∈ st'.h, p.1 < st'.n) ∧ (∀ p ∈ st'.s, p.2 = rl m (st.get p.1) ∨ p.2 = .bot) ∧ ∀ p ∈ st'.h, hhOk m st.h p.1 p.2 := by simp [hP, hhOk, back, Cat.cells, Prf.cells, UA, U1, IA, I1, LA, L1, BA, B1, EA, E1, E2, eB, eI, eL, Fn.cells]) : Wk F st st' := Wk.r1 m h
theorem Q7g (p_:Prf) (r:Bool) (h:Q2g p_=some r):Contract Try.prog 118 [.agg (p_.cells true)] (.val (.bool r)):=by
 refine Qk (rvs:=[.tmp 2]) (rs:=[.val (.bool r)]) Try.func118 rfl rfl rfl rfl (by simp [Try.f118]) fun F hN hP=>?_;unfold Q2g at h;refine Q5 ?_;refine runQ hN fun K hK=>?_;simp [-Q0,-Q6,-Q1,-Q7,-Q2];repeat refine sdQ ?_
 refine hK _ ?_;clear hK K;refine tn ?_;refine Q9 (st':=⟨[(1,.adr 0 0 0)],[(0,.mix 13 [(Prf.cells true p_)])],1⟩) (Qp [(0,0)]) ?_;refine Q5 ?_;refine w_runS mo (by rw [hN];decide) fun K hK=>?_;simp [-Q0,-Q6,-Q1,-Q7,-Q2];repeat refine sdQ ?_
 refine hK _ ?_;clear hK K;refine tn ?_;refine Q9 (st':=⟨[(1,.adr 0 0 0),(3,.adr 1 0 0),(4,.adr 2 0 0)],[(0,.mix 13 [(Prf.cells true p_)]),(1,.mix 5 [(Cat.cells true p_.s)]),(2,.mix 5 [(Cat.cells true p_.t)])],3⟩) (Qp [(0,0),(1,1),(2,2)]) ?_;refine Q5 ?_;refine Q5 ?_;refine runQ hN fun K hK=>?_;simp [-Q0,-Q6,-Q1,-Q7,-Q2];repeat refine sdQ ?_
 refine hK _ ?_;clear hK K;refine tn ?_;refine Q9 (st':=⟨[(1,.adr 0 0 0),(3,.adr 1 0 0),(4,.adr 2 0 0),(5,iV 0)],[(0,.mix 13 [(Prf.cells true p_)]),(1,.mix 5 [(Cat.cells true p_.s)]),(2,.mix 5 [(Cat.cells true p_.t)])],3⟩) (Qp [(0,0),(1,1),(2,2)]) ?_;replace h:=bind_some h;obtain ⟨e1,h,h1⟩:=h;refine Qj (fun b1:Unit=>⟨[(1,.adr 0 0 0),(3,.adr 1 0 0),(4,.adr 2 0 0)],[(0,.mix 13 [(Prf.cells true p_)]),(1,.mix 5 [(Cat.cells true p_.s)]),(2,.mix 5 [(Cat.cells true p_.t)])],3⟩) (fun b1=>Sum.inl b1=e1) ?_ ?_
 ·refine Qa ?_;refine Qr h (fun s38:Int=>⟨[(1,.adr 0 0 0),(3,.adr 1 0 0),(4,.adr 2 0 0),(5,iV s38)],[(0,.mix 13 [(Prf.cells true p_)]),(1,.mix 5 [(Cat.cells true p_.s)]),(2,.mix 5 [(Cat.cells true p_.t)])],3⟩) (Qp [(0,0),(1,1),(2,2)]) ?_;clear h;intro k38 s38 c38 h hk38;refine Q5 ?_;refine Q5 ?_;refine runQ hN fun K hK=>?_;simp [-Q0,-Q6,-Q1,-Q7,-Q2];repeat refine sdQ ?_
  refine hK _ ?_;clear hK K;refine tn ?_;refine Q9 (st':=⟨[(1,.adr 0 0 0),(3,.adr 1 0 0),(4,.adr 2 0 0),(5,iV s38),(19,.val (.bool (decide (s38<(p_.bf.length:Int)))))],[(0,.mix 13 [(Prf.cells true p_)]),(1,.mix 5 [(Cat.cells true p_.s)]),(2,.mix 5 [(Cat.cells true p_.t)])],3⟩) (Qp [(0,0),(1,1),(2,2)]) ?_;refine Qc rfl (fun g=>?_) fun g=>?_
  ·have g39:s38<(p_.bf.length:Int):=gQ;clear g;replace h:=if_l g39 h;refine Qd ?_;refine tn ?_;refine Q5 ?_;replace h:=bind_some h;obtain ⟨e40,h,h40⟩:=h;refine Qj (fun b40:Unit=>⟨[(1,.adr 0 0 0),(3,.adr 1 0 0),(4,.adr 2 0 0),(5,iV s38)],[(0,.mix 13 [(Prf.cells true p_)]),(1,.mix 5 [(Cat.cells true p_.s)]),(2,.mix 5 [(Cat.cells true p_.t)])],3⟩) (fun b40=>Sum.inl b40=e40) ?_ ?_
   ·refine Qa ?_;refine Q5 ?_;refine Q5 ?_;refine runQ hN fun K hK=>?_;replace h:=Q4 h;obtain ⟨a41,h⟩:=h;simp [-Q0,-Q6,-Q1,-Q7,-Q2,at_E (c:=eL) a41];(repeat refine sdQ ?_);refine hK _ ?_;clear hK K;refine tn ?_;refine Q9 (st':=⟨[(1,.adr 0 0 0),(3,.adr 1 0 0),(4,.adr 2 0 0),(5,iV s38),(30,.val (.bool (((gx p_.bf s38).length:Int) != p_.t.n)))],[(0,.mix 13 [(Prf.cells true p_)]),(1,.mix 5 [(Cat.cells true p_.s)]),(2,.mix 5 [(Cat.cells true p_.t)])],3⟩) (Qp [(0,0),(1,1),(2,2)]) ?_;refine Qc rfl (fun g=>?_) fun g=>?_
    ·have g42:¬ (((gx p_.bf s38).length:Int)=p_.t.n):=gQ;clear g;replace h:=if_l g42 h;refine Q5 ?_;refine runQ hN fun K hK=>?_;simp [-Q0,-Q6,-Q1,-Q7,-Q2];(repeat refine sdQ ?_);refine hK _ ?_;clear hK K;refine tn ?_;refine Q9 (st':=⟨[(2,.val (.bool false))],[],0⟩) (Qp []) ?_;refine Qh ?_;refine tr ?_;refine br ?_;refine tr ?_;refine lr ?_;refine br ?_;refine tr ?_;cases h;have h:=h40;(try dsimp only at h);cases h;have q:_=e1:=hk38;have h:=h1;rw [← q] at h;clear q;(try dsimp only at h);have hr:=Option.some.inj h;rw [← hr];refine ⟨_,(.tmp .nil),?_⟩;refine ⟨(.one rfl rfl .nil),[.val (.bool false)],[],by simp [Cat.cells,Prf.cells,UA,U1,IA,I1,LA,L1,BA,B1,EA,E1,E2,eB,eI,eL],by simp,(UpL.refl _)⟩
    have g42:¬ (¬ (((gx p_.bf s38).length:Int)=p_.t.n)):=gQ;clear g;replace h:=if_r g42 h;refine Qd ?_;refine tn ?_;refine Q5 ?_;refine runQ hN fun K hK=>?_;simp [-Q0,-Q6,-Q1,-Q7,-Q2];(repeat refine sdQ ?_);refine hK _ ?_;clear hK K;refine tn ?_;refine Q9 (st':=⟨[(1,.adr 0 0 0),(3,.adr 1 0 0),(4,.adr 2 0 0),(5,iV s38),(6,iV 0)],[(0,.mix 13 [(Prf.cells true p_)]),(1,.mix 5 [(Cat.cells true p_.s)]),(2,.mix 5 [(Cat.cells true p_.t)])],3⟩) (Qp [(0,0),(1,1),(2,2)]) ?_;refine Qa ?_;replace h:=bind_some h;obtain ⟨e58,he58,h58⟩:=h;refine Qr he58 (fun s58:Int=>⟨[(1,.adr 0 0 0),(3,.adr 1 0 0),(4,.adr 2 0 0),(5,iV s38),(6,iV s58)],[(0,.mix 13 [(Prf.cells true p_)]),(1,.mix 5 [(Cat.cells true p_.s)]),(2,.mix 5 [(Cat.cells true p_.t)])],3⟩) (Qp [(0,0),(1,1),(2,2)]) ?_;intro k58 s58 c58 h hk58;refine Q5 ?_;refine Q5 ?_;refine runQ hN fun K hK=>?_;replace h:=Q4 h;obtain ⟨a59,h⟩:=h;simp [-Q0,-Q6,-Q1,-Q7,-Q2,at_E (c:=eL) a59];(repeat refine sdQ ?_);refine hK _ ?_;clear hK K;refine tn ?_;refine Q9 (st':=⟨[(1,.adr 0 0 0),(3,.adr 1 0 0),(4,.adr 2 0 0),(5,iV s38),(6,iV s58),(38,.val (.bool (decide (s58<((gx p_.bf s38).length:Int)))))],[(0,.mix 13 [(Prf.cells true p_)]),(1,.mix 5 [(Cat.cells true p_.s)]),(2,.mix 5 [(Cat.cells true p_.t)])],3⟩) (Qp [(0,0),(1,1),(2,2)]) ?_;refine Qc rfl (fun g=>?_) fun g=>?_
    ·have g60:s58<((gx p_.bf s38).length:Int):=gQ;clear g;replace h:=if_l g60 h;refine Qd ?_;refine tn ?_;refine Q5 ?_;refine Qa ?_;refine Q5 ?_;refine runQ hN fun K hK=>?_;replace h:=Q4 h;obtain ⟨a61,h⟩:=h;replace h:=Q4 h;obtain ⟨a62,h⟩:=h;simp [-Q0,-Q6,-Q1,-Q7,-Q2,at_E (c:=eL) a61,at_L a62];(repeat refine sdQ ?_);refine hK _ ?_;clear hK K;refine tn ?_;refine Q9 (st':=⟨[(1,.adr 0 0 0),(3,.adr 1 0 0),(4,.adr 2 0 0),(5,iV s38),(6,iV s58),(7,lI (rx (gx p_.bf s38) s58))],[(0,.mix 13 [(Prf.cells true p_)]),(1,.mix 5 [(Cat.cells true p_.s)]),(2,.mix 5 [(Cat.cells true p_.t)])],3⟩) (Qp [(0,0),(1,1),(2,2)]) ?_;refine Q5 ?_;replace h:=bind_some h;obtain ⟨e63,h,h63⟩:=h;refine Qj (fun b63:Bool=>⟨[(1,.adr 0 0 0),(3,.adr 1 0 0),(4,.adr 2 0 0),(5,iV s38),(6,iV s58),(80,.val (.bool b63))],[(0,.mix 13 [(Prf.cells true p_)]),(1,.mix 5 [(Cat.cells true p_.s)]),(2,.mix 5 [(Cat.cells true p_.t)])],3⟩) (fun b63=>b63=e63) ?_ ?_
     ·refine runQ hN fun K hK=>?_;replace h:=Q4 h;obtain ⟨a64,h⟩:=h;replace h:=Q4 h;obtain ⟨a65,h⟩:=h;replace h:=Q4 h;obtain ⟨a66,h⟩:=h;simp [-Q0,-Q6,-Q1,-Q7,-Q2,at_I a64,at_L a65,at_I a66];(repeat with_reducible refine sdQ ?_);refine Ql (fun g=>?_) (fun g=>?_)
      ·have g67:¬ (¬ (((rx (gx p_.bf s38) s58).length:Int)=(ix (rx p_.sz (ix p_.s.to s38)) s58))):=gQ;clear g;replace h:=if_r g67 h;replace h:=Q4 h;obtain ⟨a68,h⟩:=h;replace h:=Q4 h;obtain ⟨a69,h⟩:=h;replace h:=Q4 h;obtain ⟨a70,h⟩:=h;simp [-Q0,-Q6,-Q1,-Q7,-Q2,at_I a64,at_L a65,at_I a66,at_I a68,at_L a69,at_I a70];(repeat with_reducible refine sdQ ?_);replace h:=bind_some h;obtain ⟨v71,hv71,h⟩:=h;refine Q3 (Q3i _ _ v71 hv71) (.cons .val (.cons .lst .nil)) ?_;simp [-Q0,-Q6,-Q1,-Q7,-Q2,unk,unA,unE,unT,unC,flat,at_I a64,at_L a65,at_I a66,at_I a68,at_L a69,at_I a70];(repeat refine sdQ ?_);refine hK _ ?_;exact jn (b:=!v71) (Option.some.inj h) (Qp [(0,0),(1,1),(2,2)])
      have g67:¬ (((rx (gx p_.bf s38) s58).length:Int)=(ix (rx p_.sz (ix p_.s.to s38)) s58)):=gQ;clear g;replace h:=if_l g67 h;simp [-Q0,-Q6,-Q1,-Q7,-Q2,at_I a64,at_L a65,at_I a66];(repeat refine sdQ ?_);refine hK _ ?_;exact jn (b:=true) (Option.some.inj h) (Qp [(0,0),(1,1),(2,2)])
     intro b63 hb63;have h:=h63;(try rw [← hb63] at h);clear h63;(try dsimp only at h);refine Qc rfl (fun g=>?_) fun g=>?_
     ·have g72:b63=true:=gQ;clear g;replace h:=if_l g72 h;refine Q5 ?_;refine runQ hN fun K hK=>?_;simp [-Q0,-Q6,-Q1,-Q7,-Q2];(repeat refine sdQ ?_);refine hK _ ?_;clear hK K;refine tn ?_;refine Q9 (st':=⟨[(2,.val (.bool false))],[],0⟩) (Qp []) ?_;refine Qh ?_;refine br ?_;refine tr ?_;refine lr ?_;refine br ?_;refine br ?_;refine tr ?_;refine lr ?_;refine br ?_;refine tr ?_;cases h;have q:_=e58:=hk58;have h:=h58;rw [← q] at h;clear q;(try dsimp only at h);cases h;have h:=h40;(try dsimp only at h);cases h;have q:_=e1:=hk38;have h:=h1;rw [← q] at h;clear q;(try dsimp only at h);have hr:=Option.some.inj h;rw [← hr];refine ⟨_,(.tmp .nil),?_⟩;refine ⟨(.one rfl rfl .nil),[.val (.bool false)],[],by simp [Cat.cells,Prf.cells,UA,U1,IA,I1,LA,L1,BA,B1,EA,E1,E2,eB,eI,eL],by simp,(UpL.refl _)⟩
     have g72:¬ (b63=true):=gQ;clear g;replace h:=if_r g72 h;refine Qd ?_;refine bn ?_;refine tn ?_;refine runQ hN fun K hK=>?_;replace h:=Q4 h;obtain ⟨a73,h⟩:=h;simp [-Q0,-Q6,-Q1,-Q7,-Q2,Qo a73];(repeat refine sdQ ?_);refine hK _ ?_;clear hK K;cases h;exact rn (s':=s58+1) hk58 (Qp [(0,0),(1,1),(2,2)])
    have g60:¬ (s58<((gx p_.bf s38).length:Int)):=gQ;clear g;replace h:=if_r g60 h;refine Qm ?_;refine tx ?_;refine lx ?_;refine bh ?_;refine bn ?_;cases h;have q:_=e58:=hk58;have h:=h58;rw [← q] at h;clear q;(try dsimp only at h);exact jn (b:=()) (Option.some.inj h) (Qp [(0,0),(1,1),(2,2)])
   intro b40 hb40;have h:=h40;(try rw [← hb40] at h);clear h40;(try dsimp only at h);refine runQ hN fun K hK=>?_;replace h:=Q4 h;obtain ⟨a74,h⟩:=h;simp [-Q0,-Q6,-Q1,-Q7,-Q2,Qo a74];(repeat refine sdQ ?_);refine hK _ ?_;clear hK K;cases h;exact rn (s':=s38+1) hk38 (Qp [(0,0),(1,1),(2,2)])
  have g39:¬ (s38<(p_.bf.length:Int)):=gQ;clear g;replace h:=if_r g39 h;refine Qm ?_;refine tx ?_;refine lx ?_;refine bh ?_;cases h;exact jn (b:=()) hk38 (Qp [(0,0),(1,1),(2,2)])
 intro b1 hb1;have h:=h1;try rw [← hb1] at h
 clear h1;try dsimp only at h
 refine Q5 ?_;refine Q5 ?_;refine runQ hN fun K hK=>?_;simp [-Q0,-Q6,-Q1,-Q7,-Q2];repeat refine sdQ ?_
 refine hK _ ?_;clear hK K;refine tn ?_;refine Q9 (st':=⟨[(1,.adr 0 0 0),(3,.adr 1 0 0),(4,.adr 2 0 0),(8,iV 0)],[(0,.mix 13 [(Prf.cells true p_)]),(1,.mix 5 [(Cat.cells true p_.s)]),(2,.mix 5 [(Cat.cells true p_.t)])],3⟩) (Qp [(0,0),(1,1),(2,2)]) ?_;replace h:=bind_some h;obtain ⟨e75,h,h75⟩:=h;refine Qj (fun b75:Unit=>⟨[],[],0⟩) (fun b75=>Sum.inl b75=e75) ?_ ?_
 ·refine Qa ?_;refine Qr h (fun s112:Int=>⟨[(1,.adr 0 0 0),(3,.adr 1 0 0),(4,.adr 2 0 0),(8,iV s112)],[(0,.mix 13 [(Prf.cells true p_)]),(1,.mix 5 [(Cat.cells true p_.s)]),(2,.mix 5 [(Cat.cells true p_.t)])],3⟩) (Qp [(0,0),(1,1),(2,2)]) ?_;clear h;intro k112 s112 c112 h hk112;refine Q5 ?_;refine Q5 ?_;refine runQ hN fun K hK=>?_;simp [-Q0,-Q6,-Q1,-Q7,-Q2];repeat refine sdQ ?_
  refine hK _ ?_;clear hK K;refine tn ?_;refine Q9 (st':=⟨[(1,.adr 0 0 0),(3,.adr 1 0 0),(4,.adr 2 0 0),(8,iV s112),(85,.val (.bool (decide (s112<(p_.bh.length:Int)))))],[(0,.mix 13 [(Prf.cells true p_)]),(1,.mix 5 [(Cat.cells true p_.s)]),(2,.mix 5 [(Cat.cells true p_.t)])],3⟩) (Qp [(0,0),(1,1),(2,2)]) ?_;refine Qc rfl (fun g=>?_) fun g=>?_
  ·have g113:s112<(p_.bh.length:Int):=gQ;clear g;replace h:=if_l g113 h;refine Qd ?_;refine tn ?_;refine Q5 ?_;replace h:=bind_some h;obtain ⟨e114,h,h114⟩:=h;refine Qj (fun b114:Unit=>⟨[(1,.adr 0 0 0),(3,.adr 1 0 0),(4,.adr 2 0 0),(8,iV s112)],[(0,.mix 13 [(Prf.cells true p_)]),(1,.mix 5 [(Cat.cells true p_.s)]),(2,.mix 5 [(Cat.cells true p_.t)])],3⟩) (fun b114=>Sum.inl b114=e114) ?_ ?_
   ·refine Qa ?_;refine Q5 ?_;refine Q5 ?_;refine runQ hN fun K hK=>?_;replace h:=Q4 h;obtain ⟨a115,h⟩:=h;simp [-Q0,-Q6,-Q1,-Q7,-Q2,at_E (c:=eL) a115];(repeat refine sdQ ?_);refine hK _ ?_;clear hK K;refine tn ?_;refine Q9 (st':=⟨[(1,.adr 0 0 0),(3,.adr 1 0 0),(4,.adr 2 0 0),(8,iV s112),(96,.val (.bool (((gx p_.bh s112).length:Int) != p_.s.n)))],[(0,.mix 13 [(Prf.cells true p_)]),(1,.mix 5 [(Cat.cells true p_.s)]),(2,.mix 5 [(Cat.cells true p_.t)])],3⟩) (Qp [(0,0),(1,1),(2,2)]) ?_;refine Qc rfl (fun g=>?_) fun g=>?_
    ·have g116:¬ (((gx p_.bh s112).length:Int)=p_.s.n):=gQ;clear g;replace h:=if_l g116 h;refine Q5 ?_;refine runQ hN fun K hK=>?_;simp [-Q0,-Q6,-Q1,-Q7,-Q2];(repeat refine sdQ ?_);refine hK _ ?_;clear hK K;refine tn ?_;refine Q9 (st':=⟨[(2,.val (.bool false))],[],0⟩) (Qp []) ?_;refine Qh ?_;refine tr ?_;refine br ?_;refine tr ?_;refine lr ?_;refine br ?_;refine tr ?_;cases h;have h:=h114;(try dsimp only at h);cases h;have q:_=e75:=hk112;have h:=h75;rw [← q] at h;clear q;(try dsimp only at h);have hr:=Option.some.inj h;rw [← hr];refine ⟨_,(.tmp .nil),?_⟩;refine ⟨(.one rfl rfl .nil),[.val (.bool false)],[],by simp [Cat.cells,Prf.cells,UA,U1,IA,I1,LA,L1,BA,B1,EA,E1,E2,eB,eI,eL],by simp,(UpL.refl _)⟩
    have g116:¬ (¬ (((gx p_.bh s112).length:Int)=p_.s.n)):=gQ;clear g;replace h:=if_r g116 h;refine Qd ?_;refine tn ?_;refine Q5 ?_;refine runQ hN fun K hK=>?_;simp [-Q0,-Q6,-Q1,-Q7,-Q2];(repeat refine sdQ ?_);refine hK _ ?_;clear hK K;refine tn ?_;refine Q9 (st':=⟨[(1,.adr 0 0 0),(3,.adr 1 0 0),(4,.adr 2 0 0),(8,iV s112),(9,iV 0)],[(0,.mix 13 [(Prf.cells true p_)]),(1,.mix 5 [(Cat.cells true p_.s)]),(2,.mix 5 [(Cat.cells true p_.t)])],3⟩) (Qp [(0,0),(1,1),(2,2)]) ?_;refine Qa ?_;replace h:=bind_some h;obtain ⟨e132,he132,h132⟩:=h;refine Qr he132 (fun s132:Int=>⟨[(1,.adr 0 0 0),(3,.adr 1 0 0),(4,.adr 2 0 0),(8,iV s112),(9,iV s132)],[(0,.mix 13 [(Prf.cells true p_)]),(1,.mix 5 [(Cat.cells true p_.s)]),(2,.mix 5 [(Cat.cells true p_.t)])],3⟩) (Qp [(0,0),(1,1),(2,2)]) ?_;intro k132 s132 c132 h hk132;refine Q5 ?_;refine Q5 ?_;refine runQ hN fun K hK=>?_;replace h:=Q4 h;obtain ⟨a133,h⟩:=h;simp [-Q0,-Q6,-Q1,-Q7,-Q2,at_E (c:=eL) a133];(repeat refine sdQ ?_);refine hK _ ?_;clear hK K;refine tn ?_;refine Q9 (st':=⟨[(1,.adr 0 0 0),(3,.adr 1 0 0),(4,.adr 2 0 0),(8,iV s112),(9,iV s132),(104,.val (.bool (decide (s132<((gx p_.bh s112).length:Int)))))],[(0,.mix 13 [(Prf.cells true p_)]),(1,.mix 5 [(Cat.cells true p_.s)]),(2,.mix 5 [(Cat.cells true p_.t)])],3⟩) (Qp [(0,0),(1,1),(2,2)]) ?_;refine Qc rfl (fun g=>?_) fun g=>?_
    ·have g134:s132<((gx p_.bh s112).length:Int):=gQ;clear g;replace h:=if_l g134 h;refine Qd ?_;refine tn ?_;refine Q5 ?_;refine Qa ?_;refine Q5 ?_;refine runQ hN fun K hK=>?_;replace h:=Q4 h;obtain ⟨a135,h⟩:=h;replace h:=Q4 h;obtain ⟨a136,h⟩:=h;simp [-Q0,-Q6,-Q1,-Q7,-Q2,at_E (c:=eL) a135,at_L a136];(repeat refine sdQ ?_);refine hK _ ?_;clear hK K;refine tn ?_;refine Q9 (st':=⟨[(1,.adr 0 0 0),(3,.adr 1 0 0),(4,.adr 2 0 0),(8,iV s112),(9,iV s132),(10,lI (rx (gx p_.bh s112) s132))],[(0,.mix 13 [(Prf.cells true p_)]),(1,.mix 5 [(Cat.cells true p_.s)]),(2,.mix 5 [(Cat.cells true p_.t)])],3⟩) (Qp [(0,0),(1,1),(2,2)]) ?_;refine Q5 ?_;replace h:=bind_some h;obtain ⟨e137,h,h137⟩:=h;refine Qj (fun b137:Bool=>⟨[(1,.adr 0 0 0),(3,.adr 1 0 0),(4,.adr 2 0 0),(8,iV s112),(9,iV s132),(146,.val (.bool b137))],[(0,.mix 13 [(Prf.cells true p_)]),(1,.mix 5 [(Cat.cells true p_.s)]),(2,.mix 5 [(Cat.cells true p_.t)])],3⟩) (fun b137=>b137=e137) ?_ ?_
     ·refine runQ hN fun K hK=>?_;replace h:=Q4 h;obtain ⟨a138,h⟩:=h;replace h:=Q4 h;obtain ⟨a139,h⟩:=h;replace h:=Q4 h;obtain ⟨a140,h⟩:=h;simp [-Q0,-Q6,-Q1,-Q7,-Q2,at_L a138,at_I a139,at_I a140];(repeat with_reducible refine sdQ ?_);refine Ql (fun g=>?_) (fun g=>?_)
      ·have g141:¬ (¬ (((rx (gx p_.bh s112) s132).length:Int)=(ix (rx p_.sz s132) (ix p_.t.fr s112)))):=gQ;clear g;replace h:=if_r g141 h;replace h:=Q4 h;obtain ⟨a142,h⟩:=h;replace h:=Q4 h;obtain ⟨a143,h⟩:=h;replace h:=Q4 h;obtain ⟨a144,h⟩:=h;simp [-Q0,-Q6,-Q1,-Q7,-Q2,at_L a138,at_I a139,at_I a140,at_L a142,at_I a143,at_I a144];(repeat with_reducible refine sdQ ?_);replace h:=bind_some h;obtain ⟨v145,hv145,h⟩:=h;refine Q3 (Q3i _ _ v145 hv145) (.cons .val (.cons .lst .nil)) ?_;simp [-Q0,-Q6,-Q1,-Q7,-Q2,unk,unA,unE,unT,unC,flat,at_L a138,at_I a139,at_I a140,at_L a142,at_I a143,at_I a144];(repeat refine sdQ ?_);refine hK _ ?_;exact jn (b:=!v145) (Option.some.inj h) (Qp [(0,0),(1,1),(2,2)])
      have g141:¬ (((rx (gx p_.bh s112) s132).length:Int)=(ix (rx p_.sz s132) (ix p_.t.fr s112))):=gQ;clear g;replace h:=if_l g141 h;simp [-Q0,-Q6,-Q1,-Q7,-Q2,at_L a138,at_I a139,at_I a140];(repeat refine sdQ ?_);refine hK _ ?_;exact jn (b:=true) (Option.some.inj h) (Qp [(0,0),(1,1),(2,2)])
     intro b137 hb137;have h:=h137;(try rw [← hb137] at h);clear h137;(try dsimp only at h);refine Qc rfl (fun g=>?_) fun g=>?_
     ·have g146:b137=true:=gQ;clear g;replace h:=if_l g146 h;refine Q5 ?_;refine runQ hN fun K hK=>?_;simp [-Q0,-Q6,-Q1,-Q7,-Q2];(repeat refine sdQ ?_);refine hK _ ?_;clear hK K;refine tn ?_;refine Q9 (st':=⟨[(2,.val (.bool false))],[],0⟩) (Qp []) ?_;refine Qh ?_;refine br ?_;refine tr ?_;refine lr ?_;refine br ?_;refine br ?_;refine tr ?_;refine lr ?_;refine br ?_;refine tr ?_;cases h;have q:_=e132:=hk132;have h:=h132;rw [← q] at h;clear q;(try dsimp only at h);cases h;have h:=h114;(try dsimp only at h);cases h;have q:_=e75:=hk112;have h:=h75;rw [← q] at h;clear q;(try dsimp only at h);have hr:=Option.some.inj h;rw [← hr];refine ⟨_,(.tmp .nil),?_⟩;refine ⟨(.one rfl rfl .nil),[.val (.bool false)],[],by simp [Cat.cells,Prf.cells,UA,U1,IA,I1,LA,L1,BA,B1,EA,E1,E2,eB,eI,eL],by simp,(UpL.refl _)⟩
     have g146:¬ (b137=true):=gQ;clear g;replace h:=if_r g146 h;refine Qd ?_;refine bn ?_;refine tn ?_;refine runQ hN fun K hK=>?_;replace h:=Q4 h;obtain ⟨a147,h⟩:=h;simp [-Q0,-Q6,-Q1,-Q7,-Q2,Qo a147];(repeat refine sdQ ?_);refine hK _ ?_;clear hK K;cases h;exact rn (s':=s132+1) hk132 (Qp [(0,0),(1,1),(2,2)])
    have g134:¬ (s132<((gx p_.bh s112).length:Int)):=gQ;clear g;replace h:=if_r g134 h;refine Qm ?_;refine tx ?_;refine lx ?_;refine bh ?_;refine bn ?_;cases h;have q:_=e132:=hk132;have h:=h132;rw [← q] at h;clear q;(try dsimp only at h);exact jn (b:=()) (Option.some.inj h) (Qp [(0,0),(1,1),(2,2)])
   intro b114 hb114;have h:=h114;(try rw [← hb114] at h);clear h114;(try dsimp only at h);refine runQ hN fun K hK=>?_;replace h:=Q4 h;obtain ⟨a148,h⟩:=h;simp [-Q0,-Q6,-Q1,-Q7,-Q2,Qo a148];(repeat refine sdQ ?_);refine hK _ ?_;clear hK K;cases h;exact rn (s':=s112+1) hk112 (Qp [(0,0),(1,1),(2,2)])
  have g113:¬ (s112<(p_.bh.length:Int)):=gQ;clear g;replace h:=if_r g113 h;refine Qm ?_;refine tx ?_;refine lx ?_;refine bh ?_;cases h;exact jn (b:=()) hk112 (Qp [])
 intro b75 hb75;have h:=h75;try rw [← hb75] at h
 clear h75;try dsimp only at h
 refine Q5 ?_;refine runQ hN fun K hK=>?_;simp [-Q0,-Q6,-Q1,-Q7,-Q2];repeat refine sdQ ?_
 refine hK _ ?_;clear hK K;refine tn ?_;refine Q9 (st':=⟨[(2,.val (.bool true))],[],0⟩) (Qp []) ?_;refine Qh ?_;have hr:=Option.some.inj h;rw [← hr];refine ⟨_,(.tmp .nil),?_⟩;refine ⟨(.one rfl rfl .nil),[.val (.bool true)],[],by simp [Cat.cells,Prf.cells,UA,U1,IA,I1,LA,L1,BA,B1,EA,E1,E2,eB,eI,eL],by simp,(UpL.refl _)⟩
attribute [local simp] eL eI QB Q27 Prf.cells
noncomputable def Q1U (p_:Prf):Option Bool :=
 (
  if ¬ ((p_.sz.length:Int)=p_.s.n) then
   some true
  else
   if ¬ ((p_.bf.length:Int)=(p_.s.fr.length:Int)) then
    some true
   else
    some ((p_.bh.length:Int) != (p_.t.fr.length:Int)):Option (Bool)).bind fun b1 =>
 if b1=true then
  some false
 else
  (Qx (σ:=Int) (ε:=Unit ⊕ Bool) (fun s26 =>
   if s26<(p_.sz.length:Int) then
    (
     ass (0≤s26∧s26<(p_.sz.length:Int)) <|
     if ¬ (((rx p_.sz s26).length:Int)=p_.t.n) then
      some (Sum.inr false)
     else
      (Qx (σ:=Int) (ε:=Bool ⊕ Unit) (fun s38 =>
       ass (0≤s26∧s26<(p_.sz.length:Int)) <|
       if s38<((rx p_.sz s26).length:Int) then
        ass (0≤s26∧s26<(p_.sz.length:Int)) <|
        ass (0≤s38∧s38<((rx p_.sz s26).length:Int)) <|
        (Q3K (ix (rx p_.sz s26) s38) 0 64).bind fun v43 =>
        if ¬ (v43=true) then
         some (Ctl.ret (Sum.inl false))
        else
         ass (B64 (s38+1)) <|
         some (Ctl.next (s38+1))
       else
        some (Ctl.ret (Sum.inr ()))) fuel 0).bind fun e38 =>
      match e38 with
      | .inl p38 =>
       some (Sum.inr p38)
      | .inr p38 =>
       some (Sum.inl p38):Option (Unit ⊕ Bool)).bind fun e28 =>
    match e28 with
    | .inl b28 =>
     ass (B64 (s26+1)) <|
     some (Ctl.next (s26+1))
    | .inr p28 =>
     some (Ctl.ret (Sum.inr p28))
   else
    some (Ctl.ret (Sum.inl ()))) fuel 0).bind fun e5 =>
  match e5 with
  | .inl b5 =>
   some true
  | .inr p5 =>
   some p5
theorem Q6z (p_:Prf) (r:Bool) (h:Q1U p_=some r):Contract Try.prog 117 [.agg (p_.cells true)] (.val (.bool r)):=by
 refine Qk (rvs:=[.tmp 2]) (rs:=[.val (.bool r)]) Try.func117 rfl rfl rfl rfl (by simp [Try.f117]) fun F hN hP=>?_;unfold Q1U at h;refine Q5 ?_;refine runQ hN fun K hK=>?_;simp [-Q0,-Q6,-Q1,-Q7,-Q2];repeat refine sdQ ?_
 refine hK _ ?_;clear hK K;refine tn ?_;refine Q9 (st':=⟨[(1,.adr 0 0 0)],[(0,.mix 13 [(Prf.cells true p_)])],1⟩) (Qp [(0,0)]) ?_;refine Q5 ?_;refine Q5 ?_;replace h:=bind_some h;obtain ⟨e1,h,h1⟩:=h;refine Qj (fun b1:Bool=>⟨[(1,.adr 0 0 0),(31,.val (.bool b1))],[(0,.mix 13 [(Prf.cells true p_)])],1⟩) (fun b1=>b1=e1) ?_ ?_
 ·refine runQ hN fun K hK=>?_;simp [-Q0,-Q6,-Q1,-Q7,-Q2];repeat with_reducible refine sdQ ?_
  refine Ql (fun g=>?_) (fun g=>?_)
  ·have g2:¬ (¬ ((p_.sz.length:Int)=p_.s.n)):=gQ;clear g;replace h:=if_r g2 h;simp [-Q0,-Q6,-Q1,-Q7,-Q2];(repeat with_reducible refine sdQ ?_);refine Ql (fun g=>?_) (fun g=>?_)
   ·have g3:¬ (¬ ((p_.bf.length:Int)=(p_.s.fr.length:Int))):=gQ;clear g;replace h:=if_r g3 h;simp [-Q0,-Q6,-Q1,-Q7,-Q2];(repeat refine sdQ ?_);refine hK _ ?_;exact jn (b:=(p_.bh.length:Int) != (p_.t.fr.length:Int)) (Option.some.inj h) (Qp [(0,0)])
   have g3:¬ ((p_.bf.length:Int)=(p_.s.fr.length:Int)):=gQ;clear g;replace h:=if_l g3 h;simp [-Q0,-Q6,-Q1,-Q7,-Q2];(repeat refine sdQ ?_);refine hK _ ?_;exact jn (b:=true) (Option.some.inj h) (Qp [(0,0)])
  have g2:¬ ((p_.sz.length:Int)=p_.s.n):=gQ;clear g;replace h:=if_l g2 h;simp [-Q0,-Q6,-Q1,-Q7,-Q2];repeat refine sdQ ?_
  refine hK _ ?_;exact jn (b:=true) (Option.some.inj h) (Qp [(0,0)])
 intro b1 hb1;have h:=h1;try rw [← hb1] at h
 clear h1;try dsimp only at h
 refine Qc rfl (fun g=>?_) fun g=>?_
 ·have g4:b1=true:=gQ;clear g;replace h:=if_l g4 h;refine Q5 ?_;refine runQ hN fun K hK=>?_;simp [-Q0,-Q6,-Q1,-Q7,-Q2];repeat refine sdQ ?_
  refine hK _ ?_;clear hK K;refine tn ?_;refine Q9 (st':=⟨[(2,.val (.bool false))],[],0⟩) (Qp []) ?_;refine Qh ?_;refine tr ?_;have hr:=Option.some.inj h;rw [← hr];refine ⟨_,(.tmp .nil),?_⟩;refine ⟨(.one rfl rfl .nil),[.val (.bool false)],[],by simp [Prf.cells,UA,U1,IA,I1,LA,L1,BA,B1,EA,E1,E2,eB,eI,eL],by simp,(UpL.refl _)⟩
 have g4:¬ (b1=true):=gQ;clear g;replace h:=if_r g4 h;refine Qd ?_;refine tn ?_;refine Q5 ?_;refine Q5 ?_;refine runQ hN fun K hK=>?_;simp [-Q0,-Q6,-Q1,-Q7,-Q2];repeat refine sdQ ?_
 refine hK _ ?_;clear hK K;refine tn ?_;refine Q9 (st':=⟨[(1,.adr 0 0 0),(3,iV 0)],[(0,.mix 13 [(Prf.cells true p_)])],1⟩) (Qp [(0,0)]) ?_;replace h:=bind_some h;obtain ⟨e5,h,h5⟩:=h;refine Qj (fun b5:Unit=>⟨[],[],0⟩) (fun b5=>Sum.inl b5=e5) ?_ ?_
 ·refine Qa ?_;refine Qr h (fun s26:Int=>⟨[(1,.adr 0 0 0),(3,iV s26)],[(0,.mix 13 [(Prf.cells true p_)])],1⟩) (Qp [(0,0)]) ?_;clear h;intro k26 s26 c26 h hk26;refine Q5 ?_;refine Q5 ?_;refine runQ hN fun K hK=>?_;simp [-Q0,-Q6,-Q1,-Q7,-Q2];repeat refine sdQ ?_
  refine hK _ ?_;clear hK K;refine tn ?_;refine Q9 (st':=⟨[(1,.adr 0 0 0),(3,iV s26),(36,.val (.bool (decide (s26<(p_.sz.length:Int)))))],[(0,.mix 13 [(Prf.cells true p_)])],1⟩) (Qp [(0,0)]) ?_;refine Qc rfl (fun g=>?_) fun g=>?_
  ·have g27:s26<(p_.sz.length:Int):=gQ;clear g;replace h:=if_l g27 h;refine Qd ?_;refine tn ?_;refine Q5 ?_;replace h:=bind_some h;obtain ⟨e28,h,h28⟩:=h;refine Qj (fun b28:Unit=>⟨[(1,.adr 0 0 0),(3,iV s26)],[(0,.mix 13 [(Prf.cells true p_)])],1⟩) (fun b28=>Sum.inl b28=e28) ?_ ?_
   ·refine Qa ?_;refine Q5 ?_;refine Q5 ?_;refine runQ hN fun K hK=>?_;replace h:=Q4 h;obtain ⟨a29,h⟩:=h;simp [-Q0,-Q6,-Q1,-Q7,-Q2,at_L a29];(repeat refine sdQ ?_);refine hK _ ?_;clear hK K;refine tn ?_;refine Q9 (st':=⟨[(1,.adr 0 0 0),(3,iV s26),(48,.val (.bool (((rx p_.sz s26).length:Int) != p_.t.n)))],[(0,.mix 13 [(Prf.cells true p_)])],1⟩) (Qp [(0,0)]) ?_;refine Qc rfl (fun g=>?_) fun g=>?_
    ·have g30:¬ (((rx p_.sz s26).length:Int)=p_.t.n):=gQ;clear g;replace h:=if_l g30 h;refine Q5 ?_;refine runQ hN fun K hK=>?_;simp [-Q0,-Q6,-Q1,-Q7,-Q2];(repeat refine sdQ ?_);refine hK _ ?_;clear hK K;refine tn ?_;refine Q9 (st':=⟨[(2,.val (.bool false))],[],0⟩) (Qp []) ?_;refine Qh ?_;refine tr ?_;refine br ?_;refine tr ?_;refine lr ?_;refine br ?_;refine tr ?_;cases h;have h:=h28;(try dsimp only at h);cases h;have q:_=e5:=hk26;have h:=h5;rw [← q] at h;clear q;(try dsimp only at h);have hr:=Option.some.inj h;rw [← hr];refine ⟨_,(.tmp .nil),?_⟩;refine ⟨(.one rfl rfl .nil),[.val (.bool false)],[],by simp [Prf.cells,UA,U1,IA,I1,LA,L1,BA,B1,EA,E1,E2,eB,eI,eL],by simp,(UpL.refl _)⟩
    have g30:¬ (¬ (((rx p_.sz s26).length:Int)=p_.t.n)):=gQ;clear g;replace h:=if_r g30 h;refine Qd ?_;refine tn ?_;refine Q5 ?_;refine runQ hN fun K hK=>?_;simp [-Q0,-Q6,-Q1,-Q7,-Q2];(repeat refine sdQ ?_);refine hK _ ?_;clear hK K;refine tn ?_;refine Q9 (st':=⟨[(1,.adr 0 0 0),(3,iV s26),(4,iV 0)],[(0,.mix 13 [(Prf.cells true p_)])],1⟩) (Qp [(0,0)]) ?_;refine Qa ?_;replace h:=bind_some h;obtain ⟨e38,he38,h38⟩:=h;refine Qr he38 (fun s38:Int=>⟨[(1,.adr 0 0 0),(3,iV s26),(4,iV s38)],[(0,.mix 13 [(Prf.cells true p_)])],1⟩) (Qp [(0,0)]) ?_;intro k38 s38 c38 h hk38;refine Q5 ?_;refine Q5 ?_;refine runQ hN fun K hK=>?_;replace h:=Q4 h;obtain ⟨a39,h⟩:=h;simp [-Q0,-Q6,-Q1,-Q7,-Q2,at_L a39];(repeat refine sdQ ?_);refine hK _ ?_;clear hK K;refine tn ?_;refine Q9 (st':=⟨[(1,.adr 0 0 0),(3,iV s26),(4,iV s38),(56,.val (.bool (decide (s38<((rx p_.sz s26).length:Int)))))],[(0,.mix 13 [(Prf.cells true p_)])],1⟩) (Qp [(0,0)]) ?_;refine Qc rfl (fun g=>?_) fun g=>?_
    ·have g40:s38<((rx p_.sz s26).length:Int):=gQ;clear g;replace h:=if_l g40 h;refine Qd ?_;refine tn ?_;refine Q5 ?_;refine Qa ?_;refine Q5 ?_;refine runQ hN fun K hK=>?_;replace h:=Q4 h;obtain ⟨a41,h⟩:=h;replace h:=Q4 h;obtain ⟨a42,h⟩:=h;simp [-Q0,-Q6,-Q1,-Q7,-Q2,at_L a41,at_I a42];(repeat with_reducible refine sdQ ?_);replace h:=bind_some h;obtain ⟨v43,hv43,h⟩:=h;refine Q3 (w_s_l01In _ _ _ v43 hv43) (.cons .val (.cons .val (.cons .val .nil))) ?_;simp [-Q0,-Q6,-Q1,-Q7,-Q2,unk,unA,unE,unT,unC,flat,at_L a41,at_I a42];(repeat refine sdQ ?_);refine hK _ ?_;clear hK K;refine tn ?_;refine Q9 (st':=⟨[(1,.adr 0 0 0),(3,iV s26),(4,iV s38),(68,.val (.bool (!v43)))],[(0,.mix 13 [(Prf.cells true p_)])],1⟩) (Qp [(0,0)]) ?_;refine Qc rfl (fun g=>?_) fun g=>?_
     ·have g44:¬ (v43=true):=gQ;clear g;replace h:=if_l g44 h;refine Q5 ?_;refine runQ hN fun K hK=>?_;simp [-Q0,-Q6,-Q1,-Q7,-Q2];(repeat refine sdQ ?_);refine hK _ ?_;clear hK K;refine tn ?_;refine Q9 (st':=⟨[(2,.val (.bool false))],[],0⟩) (Qp []) ?_;refine Qh ?_;refine br ?_;refine tr ?_;refine lr ?_;refine br ?_;refine br ?_;refine tr ?_;refine lr ?_;refine br ?_;refine tr ?_;cases h;have q:_=e38:=hk38;have h:=h38;rw [← q] at h;clear q;(try dsimp only at h);cases h;have h:=h28;(try dsimp only at h);cases h;have q:_=e5:=hk26;have h:=h5;rw [← q] at h;clear q;(try dsimp only at h);have hr:=Option.some.inj h;rw [← hr];refine ⟨_,(.tmp .nil),?_⟩;refine ⟨(.one rfl rfl .nil),[.val (.bool false)],[],by simp [Prf.cells,UA,U1,IA,I1,LA,L1,BA,B1,EA,E1,E2,eB,eI,eL],by simp,(UpL.refl _)⟩
     have g44:¬ (¬ (v43=true)):=gQ;clear g;replace h:=if_r g44 h;refine Qd ?_;refine bn ?_;refine tn ?_;refine runQ hN fun K hK=>?_;replace h:=Q4 h;obtain ⟨a45,h⟩:=h;simp [-Q0,-Q6,-Q1,-Q7,-Q2,Qo a45];(repeat refine sdQ ?_);refine hK _ ?_;clear hK K;cases h;exact rn (s':=s38+1) hk38 (Qp [(0,0)])
    have g40:¬ (s38<((rx p_.sz s26).length:Int)):=gQ;clear g;replace h:=if_r g40 h;refine Qm ?_;refine tx ?_;refine lx ?_;refine bh ?_;refine bn ?_;cases h;have q:_=e38:=hk38;have h:=h38;rw [← q] at h;clear q;(try dsimp only at h);exact jn (b:=()) (Option.some.inj h) (Qp [(0,0)])
   intro b28 hb28;have h:=h28;(try rw [← hb28] at h);clear h28;(try dsimp only at h);refine runQ hN fun K hK=>?_;replace h:=Q4 h;obtain ⟨a46,h⟩:=h;simp [-Q0,-Q6,-Q1,-Q7,-Q2,Qo a46];(repeat refine sdQ ?_);refine hK _ ?_;clear hK K;cases h;exact rn (s':=s26+1) hk26 (Qp [(0,0)])
  have g27:¬ (s26<(p_.sz.length:Int)):=gQ;clear g;replace h:=if_r g27 h;refine Qm ?_;refine tx ?_;refine lx ?_;refine bh ?_;cases h;exact jn (b:=()) hk26 (Qp [])
 intro b5 hb5;have h:=h5;try rw [← hb5] at h
 clear h5;try dsimp only at h
 refine Q5 ?_;refine runQ hN fun K hK=>?_;simp [-Q0,-Q6,-Q1,-Q7,-Q2];repeat refine sdQ ?_
 refine hK _ ?_;clear hK K;refine tn ?_;refine Q9 (st':=⟨[(2,.val (.bool true))],[],0⟩) (Qp []) ?_;refine Qh ?_;have hr:=Option.some.inj h;rw [← hr];refine ⟨_,(.tmp .nil),?_⟩;refine ⟨(.one rfl rfl .nil),[.val (.bool true)],[],by simp [Prf.cells,UA,U1,IA,I1,LA,L1,BA,B1,EA,E1,E2,eB,eI,eL],by simp,(UpL.refl _)⟩
attribute [local simp] eL eI QB Q1y Q27 Cat.cells Prf.cells
noncomputable def Q37 (p_:Prf):Option Bool :=
 (
  (QY p_.s).bind fun v2 =>
  if v2=true then
   (QY p_.t).bind fun v4 =>
   if v4=true then
    (Q1U p_).bind fun v6 =>
    if v6=true then
     (Q2g p_).bind fun v8 =>
     if v8=true then
      (Q2f p_).bind fun v10 =>
      some v10
     else
      some false
    else
     some false
   else
    some false
  else
   some false:Option (Bool)).bind fun b1 =>
 some b1
theorem w_s_l22Is (p_:Prf) (r:Bool) (h:Q37 p_=some r):Contract Try.prog 58 [.agg (p_.cells true)] (.val (.bool r)):=by
 refine Qk (rvs:=[.tmp 2]) (rs:=[.val (.bool r)]) Try.func58 rfl rfl rfl rfl (by simp [Try.f58]) fun F hN hP=>?_;unfold Q37 at h;refine Q5 ?_;refine runQ hN fun K hK=>?_;simp [-Q0,-Q6,-Q1,-Q7,-Q2];repeat refine sdQ ?_
 refine hK _ ?_;clear hK K;refine tn ?_;refine Q9 (st':=⟨[(1,.adr 0 0 0)],[(0,.mix 13 [(Prf.cells true p_)])],1⟩) (Qp [(0,0)]) ?_;refine Q5 ?_;replace h:=bind_some h;obtain ⟨e1,h,h1⟩:=h;refine Qj (fun b1:Bool=>⟨[(2,.val (.bool b1))],[],0⟩) (fun b1=>b1=e1) ?_ ?_
 ·refine runQ hN fun K hK=>?_;simp [-Q0,-Q6,-Q1,-Q7,-Q2];repeat with_reducible refine sdQ ?_
  replace h:=bind_some h;obtain ⟨v2,hv2,h⟩:=h;refine Q3 (Q3Q _ v2 hv2) (.cons (.aggL (.cons .val (.cons .lst (.cons .lst (.cons .lst (.cons .lst .nil)))))) .nil) ?_;simp [-Q0,-Q6,-Q1,-Q7,-Q2,unk,unA,unE,unT,unC,flat];repeat with_reducible refine sdQ ?_
  refine Ql (fun g=>?_) (fun g=>?_)
  ·have g3:v2=true:=gQ;clear g;replace h:=if_l g3 h;simp [-Q0,-Q6,-Q1,-Q7,-Q2];(repeat with_reducible refine sdQ ?_);replace h:=bind_some h;obtain ⟨v4,hv4,h⟩:=h;refine Q3 (Q3Q _ v4 hv4) (.cons (.aggL (.cons .val (.cons .lst (.cons .lst (.cons .lst (.cons .lst .nil)))))) .nil) ?_;simp [-Q0,-Q6,-Q1,-Q7,-Q2,unk,unA,unE,unT,unC,flat];(repeat with_reducible refine sdQ ?_);refine Ql (fun g=>?_) (fun g=>?_)
   ·have g5:v4=true:=gQ;clear g;replace h:=if_l g5 h;simp [-Q0,-Q6,-Q1,-Q7,-Q2];(repeat with_reducible refine sdQ ?_);replace h:=bind_some h;obtain ⟨v6,hv6,h⟩:=h;refine Q3 (Q6z _ v6 hv6) (.cons (.aggL (.cons .val (.cons .lst (.cons .lst (.cons .lst (.cons .lst (.cons .val (.cons .lst (.cons .lst (.cons .lst (.cons .lst (.cons .lst (.cons .lst (.cons .lst .nil)))))))))))))) .nil) ?_;simp [-Q0,-Q6,-Q1,-Q7,-Q2,unk,unA,unE,unT,unC,flat];(repeat with_reducible refine sdQ ?_);refine Ql (fun g=>?_) (fun g=>?_)
    ·have g7:v6=true:=gQ;clear g;replace h:=if_l g7 h;simp [-Q0,-Q6,-Q1,-Q7,-Q2];(repeat with_reducible refine sdQ ?_);replace h:=bind_some h;obtain ⟨v8,hv8,h⟩:=h;refine Q3 (Q7g _ v8 hv8) (.cons (.aggL (.cons .val (.cons .lst (.cons .lst (.cons .lst (.cons .lst (.cons .val (.cons .lst (.cons .lst (.cons .lst (.cons .lst (.cons .lst (.cons .lst (.cons .lst .nil)))))))))))))) .nil) ?_;simp [-Q0,-Q6,-Q1,-Q7,-Q2,unk,unA,unE,unT,unC,flat];(repeat with_reducible refine sdQ ?_);refine Ql (fun g=>?_) (fun g=>?_)
     ·have g9:v8=true:=gQ;clear g;replace h:=if_l g9 h;simp [-Q0,-Q6,-Q1,-Q7,-Q2];(repeat with_reducible refine sdQ ?_);replace h:=bind_some h;obtain ⟨v10,hv10,h⟩:=h;refine Q3 (Q7f _ v10 hv10) (.cons (.aggL (.cons .val (.cons .lst (.cons .lst (.cons .lst (.cons .lst (.cons .val (.cons .lst (.cons .lst (.cons .lst (.cons .lst (.cons .lst (.cons .lst (.cons .lst .nil)))))))))))))) .nil) ?_;simp [-Q0,-Q6,-Q1,-Q7,-Q2,unk,unA,unE,unT,unC,flat];(repeat refine sdQ ?_);refine hK _ ?_;exact jn (b:=v10) (Option.some.inj h) (Qp [])
     have g9:¬ (v8=true):=gQ;clear g;replace h:=if_r g9 h;simp [-Q0,-Q6,-Q1,-Q7,-Q2];(repeat refine sdQ ?_);refine hK _ ?_;exact jn (b:=false) (Option.some.inj h) (Qp [])
    have g7:¬ (v6=true):=gQ;clear g;replace h:=if_r g7 h;simp [-Q0,-Q6,-Q1,-Q7,-Q2];(repeat refine sdQ ?_);refine hK _ ?_;exact jn (b:=false) (Option.some.inj h) (Qp [])
   have g5:¬ (v4=true):=gQ;clear g;replace h:=if_r g5 h;simp [-Q0,-Q6,-Q1,-Q7,-Q2];(repeat refine sdQ ?_);refine hK _ ?_;exact jn (b:=false) (Option.some.inj h) (Qp [])
  have g3:¬ (v2=true):=gQ;clear g;replace h:=if_r g3 h;simp [-Q0,-Q6,-Q1,-Q7,-Q2];repeat refine sdQ ?_
  refine hK _ ?_;exact jn (b:=false) (Option.some.inj h) (Qp [])
 intro b1 hb1;have h:=h1;try rw [← hb1] at h
 clear h1;try dsimp only at h
 refine Qh ?_;have hr:=Option.some.inj h;rw [← hr];refine ⟨_,(.tmp .nil),?_⟩;refine ⟨(.one rfl rfl .nil),[.val (.bool b1)],[],by simp [Cat.cells,Prf.cells,UA,U1,IA,I1,LA,L1,BA,B1,EA,E1,E2,eB,eI,eL],by simp,(UpL.refl _)⟩
theorem chkI {ε β:Type} {body:Int→Option (Ctl Int ε)} {K:ε→Option β} {r:Option β} (n:Nat) (p:Nat→Prop) (eb eg:ε) (hn:n<4611686018427387904)
  (h:∀ i:Nat,i<n→body (i:Int)=if bo (p i)=true then some (.next ((i:Int)+1)) else some (.ret eb)) (h3:body (n:Int)=some (.ret eg)) (hk:K (if bo (∀ i:Nat,i<n→p i)=true then eg else eb)=r):(Qx body fuel 0).bind K=r:=by
 rw [Q7A n p (eb:=eb) (eg:=eg) hn (fun i hi q=>by rw [h i hi,Qn q];simp) (fun i hi q=>by rw [h i hi,Qg q];simp) h3,Option.bind_some,← hk]
 congr 1
 by_cases q:∀ i:Nat,i<n→p i
 ·rw [if_pos q,Qn q];simp
 rw [if_neg q,Qg q];simp
def MpP (f:List Int) (m n:Int):Prop:=(f.length:Int)=m∧∀ j:Nat,j<f.length→0≤ix f j∧ix f j<n
def Prf.row (p:Prf) (x:Nat):Prop:=((rx p.sz x).length:Int)=p.t.n∧∀ y:Nat,y<(rx p.sz x).length→0≤ix (rx p.sz x) y∧ix (rx p.sz x) y≤64
def Prf.mbf (p:Prf) (a:Nat):Prop:=((gx p.bf a).length:Int)=p.t.n∧∀ y:Nat,y<(gx p.bf a).length→MpP (rx (gx p.bf a) y) (ix (rx p.sz (ix p.s.to a)) y) (ix (rx p.sz (ix p.s.fr a)) y)
def Prf.mbh (p:Prf) (b:Nat):Prop:=((gx p.bh b).length:Int)=p.s.n∧∀ x:Nat,x<(gx p.bh b).length→MpP (rx (gx p.bh b) x) (ix (rx p.sz x) (ix p.t.fr b)) (ix (rx p.sz x) (ix p.t.to b))
structure Prf.Z (p:Prf):Prop where
 hs:p.s.Is
 ht:p.t.Is
 ls:(p.sz.length:Int)=p.s.n
 lb:p.bf.length=p.s.fr.length
 lh:p.bh.length=p.t.fr.length
 row:∀ x:Nat,x<p.sz.length→p.row x
structure Prf.M (p:Prf):Prop where
 z:p.Z
 bf:∀ a:Nat,a<p.bf.length→p.mbf a
 bh:∀ b:Nat,b<p.bh.length→p.mbh b
def Prf.li (p:Prf) (y x:Nat):Prop:=rx (gx p.bf (ix p.s.id x)) y=iota (ix (rx p.sz x) y).toNat∧rx (gx p.bh (ix p.t.id y)) x=iota (ix (rx p.sz x) y).toNat
def Prf.la (p:Prf) (y a b:Nat):Prop:=0≤ix (rx p.s.cs a) b→rx (gx p.bf (ix (rx p.s.cs a) b)) y=QU (rx (gx p.bf b) y) (rx (gx p.bf a) y)
def Prf.lc (p:Prf) (x a b:Nat):Prop:=0≤ix (rx p.t.cs a) b→rx (gx p.bh (ix (rx p.t.cs a) b)) x=QU (rx (gx p.bh a) x) (rx (gx p.bh b) x)
def Prf.ln (p:Prf) (a b:Nat):Prop:=QU (rx (gx p.bf a) (ix p.t.fr b)) (rx (gx p.bh b) (ix p.s.fr a))=QU (rx (gx p.bh b) (ix p.s.to a)) (rx (gx p.bf a) (ix p.t.to b))
structure Prf.Is (p:Prf):Prop where
 m:p.M
 l1:∀ y:Nat,y<p.t.id.length→(∀ x:Nat,x<p.s.id.length→p.li y x)∧∀ a:Nat,a<p.s.fr.length→∀ b:Nat,b<p.s.fr.length→p.la y a b
 l2:∀ x:Nat,x<p.s.id.length→∀ a:Nat,a<p.t.fr.length→∀ b:Nat,b<p.t.fr.length→p.lc x a b
 l3:∀ a:Nat,a<p.s.fr.length→∀ b:Nat,b<p.t.fr.length→p.ln a b
theorem Cat.Is.nums {c:Cat} (h:c.Is):0≤c.n∧c.n≤8∧c.fr.length≤40∧c.to.length=c.fr.length∧c.cs.length=c.fr.length∧(c.id.length:Int)=c.n:=⟨h.1.n0,h.1.n8,h.1.m40,h.1.lt,h.1.lc,h.1.li⟩
theorem Prf.Z.S {p:Prf} (h:p.Z) {x:Int} (hx:0≤x∧x<p.s.n):((rx p.sz x).length:Int)=p.t.n∧∀ y:Int,0≤y∧y<p.t.n→0≤ix (rx p.sz x) y∧ix (rx p.sz x) y≤64:=by
 obtain ⟨k,rfl⟩:=Int.eq_ofNat_of_zero_le hx.1;have q:=h.row k (by have:=h.ls;omega);refine ⟨q.1,fun y hy=>?_⟩;obtain ⟨j,rfl⟩:=Int.eq_ofNat_of_zero_le hy.1;exact q.2 j (by have:=q.1;omega)
theorem Prf.M.B {p:Prf} (h:p.M) {a:Int} (ha:0≤a∧a<(p.s.fr.length:Int)):((gx p.bf a).length:Int)=p.t.n∧∀ y:Int,0≤y∧y<p.t.n→MpP (rx (gx p.bf a) y) (ix (rx p.sz (ix p.s.to a)) y) (ix (rx p.sz (ix p.s.fr a)) y):=by
 obtain ⟨k,rfl⟩:=Int.eq_ofNat_of_zero_le ha.1;have q:=h.bf k (by have:=h.z.lb;omega);refine ⟨q.1,fun y hy=>?_⟩;obtain ⟨j,rfl⟩:=Int.eq_ofNat_of_zero_le hy.1;exact q.2 j (by have:=q.1;omega)
theorem Prf.M.H {p:Prf} (h:p.M) {b:Int} (hb:0≤b∧b<(p.t.fr.length:Int)):((gx p.bh b).length:Int)=p.s.n∧∀ x:Int,0≤x∧x<p.s.n→MpP (rx (gx p.bh b) x) (ix (rx p.sz x) (ix p.t.fr b)) (ix (rx p.sz x) (ix p.t.to b)):=by
 obtain ⟨k,rfl⟩:=Int.eq_ofNat_of_zero_le hb.1;have q:=h.bh k (by have:=h.z.lh;omega);refine ⟨q.1,fun x hx=>?_⟩;obtain ⟨j,rfl⟩:=Int.eq_ofNat_of_zero_le hx.1;exact q.2 j (by have:=q.1;omega)
theorem Cat.Is.ends {c:Cat} (h:c.Is) {a:Int} (ha:0≤a∧a<(c.fr.length:Int)):(0≤ix c.fr a∧ix c.fr a<c.n)∧(0≤ix c.to a∧ix c.to a<c.n):=by
 have:=h.1.fr' ha.1 ha.2;have:=h.1.to' ha.1 ha.2;have:=h.1.li;omega
theorem Cat.Is.comp {c:Cat} (h:c.Is) {a b:Int} (ha:0≤a∧a<(c.fr.length:Int)) (hb:0≤b∧b<(c.fr.length:Int)) (h0:0≤ix (rx c.cs a) b) :
  ix c.to a=ix c.fr b∧ix (rx c.cs a) b<(c.fr.length:Int)∧ix c.fr (ix (rx c.cs a) b)=ix c.fr a∧ix c.to (ix (rx c.cs a) b)=ix c.to b:=by
 by_cases e:ix c.to a=ix c.fr b
 ·have q:=h.two ha hb e;exact ⟨e,q.1.2,q.2.1,q.2.2⟩
 have:=(h.1.cell' ha.1 ha.2 hb.1 hb.2).1 e;omega
theorem ix_extP {p q:List Int} (hl:p.length=q.length) (h:∀ i:Nat,i<p.length→ix p i=ix q i):p=q:=by
 refine List.ext_getElem hl fun i h1 h2=>?_;rw [Q1A _ _ h1,Q1A _ _ h2];exact h i h1
theorem iota_iff {f:List Int} {n:Nat} (hl:f.length=n):(f=iota n)↔∀ j:Nat,j<n→ix f j=(j:Int):=by
 constructor
 ·intro e j hj;rw [e];exact ix_iota n (by omega) (by omega)
 intro h;refine ix_extP (by simpa using hl) fun i hi=>?_;rw [h i (by omega)];exact (ix_iota n (by omega) (by omega)).symm
theorem Q5X {f:List Int} {n:Int} (hl:(f.length:Int)=n) (hb:f.length≤1048576):Q1K f=some (bo (f=iota n.toNat)):=by
 unfold Q1K;have e1:f.length=n.toNat:=by omega
 rw [Q3T (iota_iff e1)];refine chkI f.length (fun j=>ix f j=(j:Int)) (Sum.inr false) (Sum.inl ()) (by omega) (fun i hi=>?_) (by simp) ?_
 ·by_cases q:ix f i=(i:Int)
  ·simp only [Qn q,if_true];rw [if_pos (by omega),Q8 (by omega),if_neg (by simp [q]),Q8 (by unfold B64;omega)]
  simp only [Qg q,Bool.false_eq_true,if_false];rw [if_pos (by omega),Q8 (by omega),if_pos q]
 rw [← e1]
 by_cases q:∀ j:Nat,j<f.length→ix f j=(j:Int)
 ·simp only [Qn q,if_true]
 simp only [Qg q,Bool.false_eq_true,if_false]
theorem Q1p {p:Prop} (h:p):¬ ¬ p:=fun q=>q h
theorem Q7S {p:Prf} (hs:p.s.Is) (ht:p.t.Is):Q1U p=some (bo p.Z):=by
 unfold Q1U
 by_cases h1:(p.sz.length:Int)=p.s.n
 case neg=>rw [Qg (show ¬ p.Z from fun q=>h1 q.ls)];simp [h1]
 by_cases h2:(p.bf.length:Int)=(p.s.fr.length:Int)
 case neg=>rw [Qg (show ¬ p.Z from fun q=>h2 (by rw [q.lb]))];simp [h1,h2]
 by_cases h3:(p.bh.length:Int)=(p.t.fr.length:Int)
 case neg=>rw [Qg (show ¬ p.Z from fun q=>h3 (by rw [q.lh]))];simp [h1,h2,h3]
 have ns:=hs.nums;have nt:=ht.nums;rw [if_neg (Q1p h1),if_neg (Q1p h2),show ((p.bh.length:Int) != (p.t.fr.length:Int))=false by simp [h3]];simp only [Option.bind_some,Bool.false_eq_true,if_false];refine chkI p.sz.length p.row (Sum.inr false) (Sum.inl ()) (by omega) (fun x hx=>?_) (by rw [if_neg (by omega)]) ?_
 ·rw [if_pos (by omega),Q8 (by omega)]
  by_cases q1:((rx p.sz x).length:Int)=p.t.n
  case neg=>rw [if_pos q1,Qg (show ¬ p.row x from fun q=>q1 q.1)];simp
  rw [if_neg (Q1p q1),Option.bind_assoc];refine chkI (rx p.sz x).length (fun y=>0≤ix (rx p.sz x) y∧ix (rx p.sz x) y≤64) (Sum.inl false) (Sum.inr ()) (by omega) (fun y hy=>?_) (by rw [Q8 (by omega),if_neg (by omega)]) ?_
  ·rw [Q8 (by omega),if_pos (by omega),Q8 (by omega),Q8 (by omega)];unfold Q3K;simp only [Option.bind_some]
   by_cases q2:0≤ix (rx p.sz x) y∧ix (rx p.sz x) y≤64
   ·rw [Qn q2,Q8 (by unfold B64;omega)];simp [q2]
   rw [Qg q2];simp;omega
  by_cases q2:∀ y:Nat,y<(rx p.sz x).length→0≤ix (rx p.sz x) y∧ix (rx p.sz x) y≤64
  ·rw [Qn q2,Qn (show p.row x from ⟨q1,q2⟩)];simp only [if_true,Option.bind_some];rw [Q8 (by unfold B64;omega)]
  rw [Qg q2,Qg (show ¬ p.row x from fun q=>q2 q.2)];simp
 by_cases q:∀ x:Nat,x<p.sz.length→p.row x
 ·rw [Qn q,Qn (show p.Z from ⟨hs,ht,h1,by omega,by omega,q⟩)];simp
 rw [Qg q,Qg (show ¬ p.Z from fun z=>q z.row)];simp
theorem MpP.inR {f:List Int} {m n:Int}:MpP f m n↔(f.length:Int)=m∧f.all (inR n)=true:=by
 unfold MpP;rw [all_inR]
theorem e_l22Maps {p:Prf} (h:p.Z):Q2g p=some (bo p.M):=by
 have ns:=h.hs.nums;have nt:=h.ht.nums;have z1:=h.ls;have z2:=h.lb;have z3:=h.lh;unfold Q2g;refine chkI p.bf.length p.mbf (Sum.inr false) (Sum.inl ()) (by omega) (fun a ha=>?_) (by rw [if_neg (by omega)]) ?_
 ·rw [if_pos (by omega),Q8 (by omega)]
  by_cases q1:((gx p.bf a).length:Int)=p.t.n
  case neg=>rw [if_pos q1,Qg (show ¬ p.mbf a from fun q=>q1 q.1)];simp
  rw [if_neg (Q1p q1),Option.bind_assoc];have en:=h.hs.ends (a:=a) (by omega);have s1:=h.S en.1;have s2:=h.S en.2;refine chkI (gx p.bf a).length (fun y=>MpP (rx (gx p.bf a) y) (ix (rx p.sz (ix p.s.to a)) y) (ix (rx p.sz (ix p.s.fr a)) y)) (Sum.inl false) (Sum.inr ()) (by omega) (fun y hy=>?_) (by rw [Q8 (by omega),if_neg (by omega)]) ?_
  ·rw [Q8 (by omega),if_pos (by omega),Q8 (by omega),Q8 (by omega),Q8 (by omega),Q8 (by omega),Q8 (by omega)]
   by_cases q2:((rx (gx p.bf a) y).length:Int)=ix (rx p.sz (ix p.s.to a)) y
   case neg=>rw [if_pos q2,Qg (fun q=>q2 q.1)];simp
   rw [if_neg (Q1p q2),Q8 (by omega),Q8 (by omega),Q8 (by omega)];unfold Q14;simp only [Option.bind_some];rw [Q3T MpP.inR];cases q3:(rx (gx p.bf a) y).all (inR (ix (rx p.sz (ix p.s.fr a)) y)) with
   | true=>rw [Qn ⟨q2,rfl⟩];simp only [Bool.not_true,Bool.false_eq_true,if_false,if_true];rw [Q8 (by unfold B64;omega)]
   | false=>rw [Qg (fun q=>by cases q.2)];simp
  by_cases q2:∀ y:Nat,y<(gx p.bf a).length→MpP (rx (gx p.bf a) y) (ix (rx p.sz (ix p.s.to a)) y) (ix (rx p.sz (ix p.s.fr a)) y)
  ·rw [Qn q2,Qn (show p.mbf a from ⟨q1,q2⟩)];simp only [if_true,Option.bind_some];rw [Q8 (by unfold B64;omega)]
  rw [Qg q2,Qg (show ¬ p.mbf a from fun q=>q2 q.2)];simp
 by_cases k1:∀ a:Nat,a<p.bf.length→p.mbf a
 case neg=>rw [Qg k1,Qg (show ¬ p.M from fun q=>k1 q.bf)];simp
 rw [Qn k1];simp only [if_true];refine chkI p.bh.length p.mbh (Sum.inr false) (Sum.inl ()) (by omega) (fun b hb=>?_) (by rw [if_neg (by omega)]) ?_
 ·rw [if_pos (by omega),Q8 (by omega)]
  by_cases q1:((gx p.bh b).length:Int)=p.s.n
  case neg=>rw [if_pos q1,Qg (show ¬ p.mbh b from fun q=>q1 q.1)];simp
  rw [if_neg (Q1p q1),Option.bind_assoc];have en:=h.ht.ends (a:=b) (by omega);refine chkI (gx p.bh b).length (fun x=>MpP (rx (gx p.bh b) x) (ix (rx p.sz x) (ix p.t.fr b)) (ix (rx p.sz x) (ix p.t.to b))) (Sum.inl false) (Sum.inr ()) (by omega) (fun x hx=>?_) (by rw [Q8 (by omega),if_neg (by omega)]) ?_
  ·have s1:=h.S (x:=x) (by omega);rw [Q8 (by omega),if_pos (by omega),Q8 (by omega),Q8 (by omega),Q8 (by omega),Q8 (by omega),Q8 (by omega)]
   by_cases q2:((rx (gx p.bh b) x).length:Int)=ix (rx p.sz x) (ix p.t.fr b)
   case neg=>rw [if_pos q2,Qg (fun q=>q2 q.1)];simp
   rw [if_neg (Q1p q2),Q8 (by omega),Q8 (by omega),Q8 (by omega)];unfold Q14;simp only [Option.bind_some];rw [Q3T MpP.inR];cases q3:(rx (gx p.bh b) x).all (inR (ix (rx p.sz x) (ix p.t.to b))) with
   | true=>rw [Qn ⟨q2,rfl⟩];simp only [Bool.not_true,Bool.false_eq_true,if_false,if_true];rw [Q8 (by unfold B64;omega)]
   | false=>rw [Qg (fun q=>by cases q.2)];simp
  by_cases q2:∀ x:Nat,x<(gx p.bh b).length→MpP (rx (gx p.bh b) x) (ix (rx p.sz x) (ix p.t.fr b)) (ix (rx p.sz x) (ix p.t.to b))
  ·rw [Qn q2,Qn (show p.mbh b from ⟨q1,q2⟩)];simp only [if_true,Option.bind_some];rw [Q8 (by unfold B64;omega)]
  rw [Qg q2,Qg (show ¬ p.mbh b from fun q=>q2 q.2)];simp
 by_cases k2:∀ b:Nat,b<p.bh.length→p.mbh b
 ·rw [Qn k2,Qn (show p.M from ⟨h,k1,k2⟩)];simp
 rw [Qg k2,Qg (show ¬ p.M from fun q=>k2 q.bh)];simp
theorem MpP.thn {f g:List Int} {m n k:Int} (hf:MpP f m n) (hg:MpP g n k) (hm:m≤64):QM f g=some (QU f g)∧Q1q f g=some (QU f g):=by
 have a1:f.length≤1048576:=by have:=hf.1;omega
 have a2:∀ y∈f,0≤y∧y<(g.length:Int):=by rw [hg.1];exact mem_bnd hf.2
 unfold QM Q1q;rw [Q8 a1,Q8 a2];exact ⟨rfl,rfl⟩
theorem MpP.len {f:List Int} {m n:Int} (hf:MpP f m n) (hm:m≤64):f.length≤64:=by have:=hf.1;omega
theorem Prf.M.id1 {p:Prf} (h:p.M) {x y:Int} (hx:0≤x∧x<p.s.n) (hy:0≤y∧y<p.t.n):(0≤ix p.s.id x∧ix p.s.id x<(p.s.fr.length:Int))∧((gx p.bf (ix p.s.id x)).length:Int)=p.t.n∧((rx (gx p.bf (ix p.s.id x)) y).length:Int)=ix (rx p.sz x) y:=by
 have ns:=h.z.hs.nums;have a:=h.z.hs.1.id' hx.1 (by omega);have b:=h.B a;refine ⟨a,b.1,?_⟩;obtain ⟨k,rfl⟩:=Int.eq_ofNat_of_zero_le hx.1;have c:=(b.2 y hy).1;rw [(h.z.hs.1.ids k (by omega)).2] at c;exact c
theorem Prf.M.id2 {p:Prf} (h:p.M) {x y:Int} (hx:0≤x∧x<p.s.n) (hy:0≤y∧y<p.t.n):(0≤ix p.t.id y∧ix p.t.id y<(p.t.fr.length:Int))∧((gx p.bh (ix p.t.id y)).length:Int)=p.s.n∧((rx (gx p.bh (ix p.t.id y)) x).length:Int)=ix (rx p.sz x) y:=by
 have nt:=h.z.ht.nums;have a:=h.z.ht.1.id' hy.1 (by omega);have b:=h.H a;refine ⟨a,b.1,?_⟩;obtain ⟨k,rfl⟩:=Int.eq_ofNat_of_zero_le hy.1;have c:=(b.2 x hx).1;rw [(h.z.ht.1.ids k (by omega)).1] at c;exact c
theorem Prf.M.cB {p:Prf} (h:p.M) {a b y:Int} (ha:0≤a∧a<(p.s.fr.length:Int)) (hb:0≤b∧b<(p.s.fr.length:Int)) (hy:0≤y∧y<p.t.n) (e:ix p.s.to a=ix p.s.fr b) :
  QM (rx (gx p.bf b) y) (rx (gx p.bf a) y)=some (QU (rx (gx p.bf b) y) (rx (gx p.bf a) y))∧Q1q (rx (gx p.bf b) y) (rx (gx p.bf a) y)=some (QU (rx (gx p.bf b) y) (rx (gx p.bf a) y)):=by
 have q1:=(h.B ha).2 y hy;have q2:=(h.B hb).2 y hy;rw [← e] at q2;exact q2.thn q1 ((h.z.S (h.z.hs.ends hb).2).2 y hy).2
theorem Prf.M.cH {p:Prf} (h:p.M) {a b x:Int} (ha:0≤a∧a<(p.t.fr.length:Int)) (hb:0≤b∧b<(p.t.fr.length:Int)) (hx:0≤x∧x<p.s.n) (e:ix p.t.to a=ix p.t.fr b) :
  QM (rx (gx p.bh a) x) (rx (gx p.bh b) x)=some (QU (rx (gx p.bh a) x) (rx (gx p.bh b) x))∧Q1q (rx (gx p.bh a) x) (rx (gx p.bh b) x)=some (QU (rx (gx p.bh a) x) (rx (gx p.bh b) x)):=by
 have q1:=(h.H ha).2 x hx;have q2:=(h.H hb).2 x hx;rw [← e] at q2;exact q1.thn q2 ((h.z.S hx).2 _ (h.z.ht.ends ha).1).2
theorem Prf.M.cN {p:Prf} (h:p.M) {a b:Int} (ha:0≤a∧a<(p.s.fr.length:Int)) (hb:0≤b∧b<(p.t.fr.length:Int)) :
  (QM (rx (gx p.bf a) (ix p.t.fr b)) (rx (gx p.bh b) (ix p.s.fr a))=some (QU (rx (gx p.bf a) (ix p.t.fr b)) (rx (gx p.bh b) (ix p.s.fr a)))∧Q1q (rx (gx p.bf a) (ix p.t.fr b)) (rx (gx p.bh b) (ix p.s.fr a))=some (QU (rx (gx p.bf a) (ix p.t.fr b)) (rx (gx p.bh b) (ix p.s.fr a)))) ∧
  (QM (rx (gx p.bh b) (ix p.s.to a)) (rx (gx p.bf a) (ix p.t.to b))=some (QU (rx (gx p.bh b) (ix p.s.to a)) (rx (gx p.bf a) (ix p.t.to b)))∧Q1q (rx (gx p.bh b) (ix p.s.to a)) (rx (gx p.bf a) (ix p.t.to b))=some (QU (rx (gx p.bh b) (ix p.s.to a)) (rx (gx p.bf a) (ix p.t.to b)))):=by
 have ea:=h.z.hs.ends ha;have eb:=h.z.ht.ends hb;have s1:=(h.z.S ea.2).2 _ eb.1;exact ⟨((h.B ha).2 _ eb.1).thn ((h.H hb).2 _ ea.1) s1.2,((h.H hb).2 _ ea.2).thn ((h.B ha).2 _ eb.2) s1.2⟩
theorem e_l22Laws {p:Prf} (h:p.M):Q2f p=some (bo p.Is):=by
 have ns:=h.z.hs.nums;have nt:=h.z.ht.nums;have z1:=h.z.ls;have z2:=h.z.lb;have z3:=h.z.lh;unfold Q2f;refine chkI p.t.id.length (fun y=>(∀ x:Nat,x<p.s.id.length→p.li y x)∧∀ a:Nat,a<p.s.fr.length→∀ b:Nat,b<p.s.fr.length→p.la y a b) (Sum.inr false) (Sum.inl ()) (by omega) (fun y hy=>?_) (by rw [if_neg (by omega)]) ?_
 ·rw [if_pos (by omega),Option.bind_assoc];refine chkI p.s.id.length (p.li y) (Sum.inr false) (Sum.inl ()) (by omega) (fun x hx=>?_) (by rw [if_neg (by omega)]) ?_
  ·obtain ⟨a1,a2,a3⟩:=h.id1 (x:=x) (y:=y) (by omega) (by omega);obtain ⟨b1,b2,b3⟩:=h.id2 (x:=x) (y:=y) (by omega) (by omega);have s1:=(h.z.S (x:=x) (by omega)).2 y (by omega);rw [if_pos (by omega),Q8 (by omega),Q8 (by omega),Q8 (by omega),Q5X a3 (by omega)];simp only [Option.bind_some]
   by_cases q1:rx (gx p.bf (ix p.s.id x)) y=iota (ix (rx p.sz x) y).toNat
   case neg=>rw [Qg q1,Qg (show ¬ p.li y x from fun q=>q1 q.1)];simp
   rw [Qn q1,Q8 (by omega),Q8 (by omega),Q8 (by omega),Q5X b3 (by omega)]
   by_cases q2:rx (gx p.bh (ix p.t.id y)) x=iota (ix (rx p.sz x) y).toNat
   ·rw [Qn q2,Qn (show p.li y x from ⟨q1,q2⟩)];simp only [Option.bind_some,not_true_eq_false,if_false,Bool.not_true,Bool.false_eq_true,if_true];rw [Q8 (by unfold B64;omega)]
   rw [Qg q2,Qg (show ¬ p.li y x from fun q=>q2 q.2)];simp
  by_cases k1:∀ x:Nat,x<p.s.id.length→p.li y x
  case neg=>rw [Qg k1,Qg (fun q=>k1 q.1)];simp
  rw [Qn k1];simp only [if_true];rw [Option.bind_assoc];refine chkI p.s.fr.length (fun a=>∀ b:Nat,b<p.s.fr.length→p.la y a b) (Sum.inl false) (Sum.inr ()) (by omega) (fun a ha=>?_) (by rw [if_neg (by omega)]) ?_
  ·rw [if_pos (by omega),Option.bind_assoc];refine chkI p.s.fr.length (p.la y a) (Sum.inl false) (Sum.inr ()) (by omega) (fun b hb=>?_) (by rw [if_neg (by omega)]) ?_
   ·have r1:=h.z.hs.1.row' (j:=(a:Int)) (by omega) (by omega);rw [if_pos (by omega),Q8 (by omega),Q8 (by omega)]
    by_cases h0:0≤ix (rx p.s.cs a) b
    case neg=>rw [if_neg h0,Qn (show p.la y a b from fun q=>absurd q h0)];simp only [Option.bind_some,Bool.false_eq_true,if_false,if_true];rw [Q8 (by unfold B64;omega)]
    obtain ⟨c1,d2,d3,d4⟩:=h.z.hs.comp (a:=a) (b:=b) (by omega) (by omega) h0;have B1:=(h.B (a:=a) (by omega)).1;have B2:=(h.B (a:=b) (by omega)).1;have B3:=(h.B (a:=ix (rx p.s.cs a) b) (by omega)).1;rw [if_pos h0,Q8 (by omega),Q8 (by omega),Q8 (by omega),Q8 (by omega),Q8 (by omega),Q8 (by omega),(h.cB (a:=a) (b:=b) (y:=y) (by omega) (by omega) (by omega) c1).1];unfold Q1g;simp only [Option.bind_some]
    by_cases q:rx (gx p.bf (ix (rx p.s.cs a) b)) y=QU (rx (gx p.bf b) y) (rx (gx p.bf a) y)
    ·rw [Qn (show p.la y a b from fun _=>q),Q8 (by unfold B64;omega)];simp [q]
    rw [Qg (show ¬ p.la y a b from fun z=>q (z h0))];simp [q]
   by_cases q:∀ b:Nat,b<p.s.fr.length→p.la y a b
   ·rw [Qn q];simp only [if_true,Option.bind_some];rw [Q8 (by unfold B64;omega)]
   rw [Qg q];simp
  by_cases q:∀ a:Nat,a<p.s.fr.length→∀ b:Nat,b<p.s.fr.length→p.la y a b
  ·rw [Qn q,Qn ⟨k1,q⟩];simp only [if_true,Option.bind_some];rw [Q8 (by unfold B64;omega)]
  rw [Qg q,Qg (fun z=>q z.2)];simp
 by_cases k1:∀ y:Nat,y<p.t.id.length→(∀ x:Nat,x<p.s.id.length→p.li y x)∧∀ a:Nat,a<p.s.fr.length→∀ b:Nat,b<p.s.fr.length→p.la y a b
 case neg=>rw [Qg k1,Qg (show ¬ p.Is from fun q=>k1 q.l1)];simp
 rw [Qn k1];simp only [if_true];refine chkI p.s.id.length (fun x=>∀ a:Nat,a<p.t.fr.length→∀ b:Nat,b<p.t.fr.length→p.lc x a b) (Sum.inr false) (Sum.inl ()) (by omega) (fun x hx=>?_) (by rw [if_neg (by omega)]) ?_
 ·rw [if_pos (by omega),Option.bind_assoc];refine chkI p.t.fr.length (fun a=>∀ b:Nat,b<p.t.fr.length→p.lc x a b) (Sum.inl false) (Sum.inr ()) (by omega) (fun a ha=>?_) (by rw [if_neg (by omega)]) ?_
  ·rw [if_pos (by omega),Option.bind_assoc];refine chkI p.t.fr.length (p.lc x a) (Sum.inl false) (Sum.inr ()) (by omega) (fun b hb=>?_) (by rw [if_neg (by omega)]) ?_
   ·have r1:=h.z.ht.1.row' (j:=(a:Int)) (by omega) (by omega);rw [if_pos (by omega),Q8 (by omega),Q8 (by omega)]
    by_cases h0:0≤ix (rx p.t.cs a) b
    case neg=>rw [if_neg h0,Qn (show p.lc x a b from fun q=>absurd q h0)];simp only [Option.bind_some,Bool.false_eq_true,if_false,if_true];rw [Q8 (by unfold B64;omega)]
    obtain ⟨c1,d2,d3,d4⟩:=h.z.ht.comp (a:=a) (b:=b) (by omega) (by omega) h0;have B1:=(h.H (b:=a) (by omega)).1;have B2:=(h.H (b:=b) (by omega)).1;have B3:=(h.H (b:=ix (rx p.t.cs a) b) (by omega)).1;rw [if_pos h0,Q8 (by omega),Q8 (by omega),Q8 (by omega),Q8 (by omega),Q8 (by omega),Q8 (by omega),(h.cH (a:=a) (b:=b) (x:=x) (by omega) (by omega) (by omega) c1).1];unfold Q1g;simp only [Option.bind_some]
    by_cases q:rx (gx p.bh (ix (rx p.t.cs a) b)) x=QU (rx (gx p.bh a) x) (rx (gx p.bh b) x)
    ·rw [Qn (show p.lc x a b from fun _=>q),Q8 (by unfold B64;omega)];simp [q]
    rw [Qg (show ¬ p.lc x a b from fun z=>q (z h0))];simp [q]
   by_cases q:∀ b:Nat,b<p.t.fr.length→p.lc x a b
   ·rw [Qn q];simp only [if_true,Option.bind_some];rw [Q8 (by unfold B64;omega)]
   rw [Qg q];simp
  by_cases q:∀ a:Nat,a<p.t.fr.length→∀ b:Nat,b<p.t.fr.length→p.lc x a b
  ·rw [Qn q];simp only [if_true,Option.bind_some];rw [Q8 (by unfold B64;omega)]
  rw [Qg q];simp
 by_cases k2:∀ x:Nat,x<p.s.id.length→∀ a:Nat,a<p.t.fr.length→∀ b:Nat,b<p.t.fr.length→p.lc x a b
 case neg=>rw [Qg k2,Qg (show ¬ p.Is from fun q=>k2 q.l2)];simp
 rw [Qn k2];simp only [if_true];refine chkI p.s.fr.length (fun a=>∀ b:Nat,b<p.t.fr.length→p.ln a b) (Sum.inr false) (Sum.inl ()) (by omega) (fun a ha=>?_) (by rw [if_neg (by omega)]) ?_
 ·rw [if_pos (by omega),Option.bind_assoc];refine chkI p.t.fr.length (p.ln a) (Sum.inl false) (Sum.inr ()) (by omega) (fun b hb=>?_) (by rw [if_neg (by omega)]) ?_
  ·have B1:=(h.B (a:=a) (by omega)).1;have B2:=(h.H (b:=b) (by omega)).1;have ea:=h.z.hs.ends (a:=a) (by omega);have eb:=h.z.ht.ends (a:=b) (by omega);obtain ⟨c1,c2⟩:=h.cN (a:=a) (b:=b) (by omega) (by omega);rw [if_pos (by omega),Q8 (by omega),Q8 (by omega),Q8 (by omega),Q8 (by omega),Q8 (by omega),Q8 (by omega),c1.1];simp only [Option.bind_some];rw [Q8 (by omega),Q8 (by omega),Q8 (by omega),Q8 (by omega),Q8 (by omega),Q8 (by omega),c2.1];unfold Q1g;simp only [Option.bind_some]
   by_cases q:p.ln a b
   ·have q':QU (rx (gx p.bf a) (ix p.t.fr b)) (rx (gx p.bh b) (ix p.s.fr a))=QU (rx (gx p.bh b) (ix p.s.to a)) (rx (gx p.bf a) (ix p.t.to b)):=q;rw [Qn q,Q8 (by unfold B64;omega)];simp [q']
   have q':¬ QU (rx (gx p.bf a) (ix p.t.fr b)) (rx (gx p.bh b) (ix p.s.fr a))=QU (rx (gx p.bh b) (ix p.s.to a)) (rx (gx p.bf a) (ix p.t.to b)):=q;rw [Qg q];simp [q']
  by_cases q:∀ b:Nat,b<p.t.fr.length→p.ln a b
  ·rw [Qn q];simp only [if_true,Option.bind_some];rw [Q8 (by unfold B64;omega)]
  rw [Qg q];simp
 by_cases q:∀ a:Nat,a<p.s.fr.length→∀ b:Nat,b<p.t.fr.length→p.ln a b
 ·rw [Qn q,Qn (show p.Is from ⟨h,k1,k2,q⟩)];simp
 rw [Qg q,Qg (show ¬ p.Is from fun z=>q z.l3)];simp
theorem e_l22Is (p:Prf):Q37 p=some (bo p.Is):=by
 unfold Q37 QY;simp only [Option.bind_some]
 by_cases h1:p.s.Is
 case neg=>rw [Qg h1,Qg (show ¬ p.Is from fun q=>h1 q.m.z.hs)];simp
 by_cases h2:p.t.Is
 case neg=>rw [Qg h2,Qg (show ¬ p.Is from fun q=>h2 q.m.z.ht)];simp
 rw [Qn h1,Qn h2,Q7S h1 h2];simp only [if_true,Option.bind_some]
 by_cases h3:p.Z
 case neg=>rw [Qg h3,Qg (show ¬ p.Is from fun q=>h3 q.m.z)];simp
 rw [Qn h3,e_l22Maps h3];simp only [if_true,Option.bind_some]
 by_cases h4:p.M
 case neg=>rw [Qg h4,Qg (show ¬ p.Is from fun q=>h4 q.m)];simp
 rw [Qn h4,e_l22Laws h4];simp
theorem e_isShape (p:Prf):QI p=some (bo p.M):=by
 unfold QI;rw [Q5W _ (by simp)];simp only [Option.bind_some]
 by_cases h0:∀ c∈[p.s,p.t],c.Is
 case neg=>rw [Qg h0,Qg (show ¬ p.M from fun q=>h0 (by simp [q.z.hs,q.z.ht]))];simp
 have hs:p.s.Is:=h0 _ (by simp);have ht:p.t.Is:=h0 _ (by simp);rw [Qn h0,if_neg (by simp)];have ns:=hs.nums;have nt:=ht.nums;unfold Qw
 by_cases h1:(p.sz.length:Int)=p.s.n
 case neg=>rw [Qg (show ¬ p.M from fun q=>h1 q.z.ls)];simp [h1]
 by_cases h2:(p.bf.length:Int)=(p.s.fr.length:Int)
 case neg=>rw [Qg (show ¬ p.M from fun q=>h2 (by rw [q.z.lb]))];simp [h1,h2]
 by_cases h3:(p.bh.length:Int)=(p.t.fr.length:Int)
 case neg=>rw [Qg (show ¬ p.M from fun q=>h3 (by rw [q.z.lh]))];simp [h1,h2,h3]
 rw [if_neg (Q1p h1)];simp only [Option.bind_some];rw [if_neg (Q1p h2),show ((p.bh.length:Int) != (p.t.fr.length:Int))=false by simp [h3]];simp only [Option.bind_some,Bool.false_eq_true,if_false];refine chkI p.sz.length p.row (Sum.inr false) (Sum.inl ()) (by omega) (fun x hx=>?_) (by rw [if_neg (by omega)]) ?_
 ·rw [if_pos (by omega),Q8 (by omega)]
  by_cases q1:((rx p.sz x).length:Int)=p.t.n
  case neg=>rw [if_pos q1,Qg (show ¬ p.row x from fun q=>q1 q.1)];simp
  rw [if_neg (Q1p q1)];unfold Q1j;rw [Q8 (by unfold B64;omega)];simp only [Option.bind_some];have e:p.row x↔(rx p.sz x).all (inR 65)=true:=by
   rw [all_inR];exact ⟨fun q j hj=>by have:=q.2 j hj;omega,fun q=>⟨q1,fun j hj=>by have:=q j hj;omega⟩⟩
  rw [Q3T e];cases q3:(rx p.sz x).all (inR 65) with
  | true=>rw [Qn rfl];simp only [Bool.not_true,Bool.false_eq_true,if_false,if_true];rw [Q8 (by unfold B64;omega)]
  | false=>rw [Qg (fun q=>by cases q)];simp
 by_cases k0:∀ x:Nat,x<p.sz.length→p.row x
 case neg=>rw [Qg k0,Qg (show ¬ p.M from fun q=>k0 q.z.row)];simp
 rw [Qn k0];simp only [if_true];have h:p.Z:=⟨hs,ht,h1,by omega,by omega,k0⟩;refine chkI p.bf.length p.mbf (Sum.inr false) (Sum.inl ()) (by omega) (fun a ha=>?_) (by rw [if_neg (by omega)]) ?_
 ·rw [if_pos (by omega),Q8 (by omega)]
  by_cases q1:((gx p.bf a).length:Int)=p.t.n
  case neg=>rw [if_pos q1,Qg (show ¬ p.mbf a from fun q=>q1 q.1)];simp
  rw [if_neg (Q1p q1),Option.bind_assoc];have en:=h.hs.ends (a:=a) (by omega);have s1:=h.S en.1;have s2:=h.S en.2;refine chkI (gx p.bf a).length (fun y=>MpP (rx (gx p.bf a) y) (ix (rx p.sz (ix p.s.to a)) y) (ix (rx p.sz (ix p.s.fr a)) y)) (Sum.inl false) (Sum.inr ()) (by omega) (fun y hy=>?_) (by rw [if_neg (by omega)]) ?_
  ·rw [if_pos (by omega),Q8 (by omega),Q8 (by omega),Q8 (by omega),Q8 (by omega),Q8 (by omega),Q8 (by omega),Q8 (by omega)];unfold Q1I;have s3:=s1.2 y (by omega);rw [Q8 (by unfold B64;omega)];simp only [Option.bind_some];rw [Q3T MpP.inR]
   by_cases q2:((rx (gx p.bf a) y).length:Int)=ix (rx p.sz (ix p.s.to a)) y
   case neg=>rw [Qg (fun q=>q2 q.1)];simp [q2]
   cases q3:(rx (gx p.bf a) y).all (inR (ix (rx p.sz (ix p.s.fr a)) y)) with
   | true=>rw [Qn ⟨q2,rfl⟩,Q8 (by unfold B64;omega)];simp [q2]
   | false=>rw [Qg (fun q=>by cases q.2)];simp
  by_cases q2:∀ y:Nat,y<(gx p.bf a).length→MpP (rx (gx p.bf a) y) (ix (rx p.sz (ix p.s.to a)) y) (ix (rx p.sz (ix p.s.fr a)) y)
  ·rw [Qn q2,Qn (show p.mbf a from ⟨q1,q2⟩)];simp only [if_true,Option.bind_some];rw [Q8 (by unfold B64;omega)]
  rw [Qg q2,Qg (show ¬ p.mbf a from fun q=>q2 q.2)];simp
 by_cases k1:∀ a:Nat,a<p.bf.length→p.mbf a
 case neg=>rw [Qg k1,Qg (show ¬ p.M from fun q=>k1 q.bf)];simp
 rw [Qn k1];simp only [if_true];refine chkI p.bh.length p.mbh (Sum.inr false) (Sum.inl ()) (by omega) (fun b hb=>?_) (by rw [if_neg (by omega)]) ?_
 ·rw [if_pos (by omega),Q8 (by omega)]
  by_cases q1:((gx p.bh b).length:Int)=p.s.n
  case neg=>rw [if_pos q1,Qg (show ¬ p.mbh b from fun q=>q1 q.1)];simp
  rw [if_neg (Q1p q1),Option.bind_assoc];have en:=h.ht.ends (a:=b) (by omega);refine chkI (gx p.bh b).length (fun x=>MpP (rx (gx p.bh b) x) (ix (rx p.sz x) (ix p.t.fr b)) (ix (rx p.sz x) (ix p.t.to b))) (Sum.inl false) (Sum.inr ()) (by omega) (fun x hx=>?_) (by rw [if_neg (by omega)]) ?_
  ·have s1:=h.S (x:=x) (by omega);have s3:=s1.2 _ en.2;rw [if_pos (by omega),Q8 (by omega),Q8 (by omega),Q8 (by omega),Q8 (by omega),Q8 (by omega),Q8 (by omega),Q8 (by omega)];unfold Q1I;rw [Q8 (by unfold B64;omega)];simp only [Option.bind_some];rw [Q3T MpP.inR]
   by_cases q2:((rx (gx p.bh b) x).length:Int)=ix (rx p.sz x) (ix p.t.fr b)
   case neg=>rw [Qg (fun q=>q2 q.1)];simp [q2]
   cases q3:(rx (gx p.bh b) x).all (inR (ix (rx p.sz x) (ix p.t.to b))) with
   | true=>rw [Qn ⟨q2,rfl⟩,Q8 (by unfold B64;omega)];simp [q2]
   | false=>rw [Qg (fun q=>by cases q.2)];simp
  by_cases q2:∀ x:Nat,x<(gx p.bh b).length→MpP (rx (gx p.bh b) x) (ix (rx p.sz x) (ix p.t.fr b)) (ix (rx p.sz x) (ix p.t.to b))
  ·rw [Qn q2,Qn (show p.mbh b from ⟨q1,q2⟩)];simp only [if_true,Option.bind_some];rw [Q8 (by unfold B64;omega)]
  rw [Qg q2,Qg (show ¬ p.mbh b from fun q=>q2 q.2)];simp
 by_cases k2:∀ b:Nat,b<p.bh.length→p.mbh b
 ·rw [Qn k2,Qn (show p.M from ⟨h,k1,k2⟩)];simp
 rw [Qg k2,Qg (show ¬ p.M from fun q=>k2 q.bh)];simp
def Prf.Ac (p:Prf):Prop:=(∀ y:Nat,y<p.t.id.length→(∀ x:Nat,x<p.s.id.length→p.li y x)∧∀ a:Nat,a<p.s.fr.length→∀ b:Nat,b<p.s.fr.length→p.la y a b)∧∀ x:Nat,x<p.s.id.length→∀ a:Nat,a<p.t.fr.length→∀ b:Nat,b<p.t.fr.length→p.lc x a b
theorem e_acts {p:Prf} (h:p.M):QP p=some (bo p.Ac):=by
 have ns:=h.z.hs.nums;have nt:=h.z.ht.nums;have z1:=h.z.ls;have z2:=h.z.lb;have z3:=h.z.lh;unfold QP;refine chkI p.t.id.length (fun y=>(∀ x:Nat,x<p.s.id.length→p.li y x)∧∀ a:Nat,a<p.s.fr.length→∀ b:Nat,b<p.s.fr.length→p.la y a b) (Sum.inr false) (Sum.inl ()) (by omega) (fun y hy=>?_) (by rw [if_neg (by omega)]) ?_
 ·rw [if_pos (by omega),Option.bind_assoc];refine chkI p.s.id.length (p.li y) (Sum.inr false) (Sum.inl ()) (by omega) (fun x hx=>?_) (by rw [if_neg (by omega)]) ?_
  ·obtain ⟨a1,a2,a3⟩:=h.id1 (x:=x) (y:=y) (by omega) (by omega);obtain ⟨b1,b2,b3⟩:=h.id2 (x:=x) (y:=y) (by omega) (by omega);have s0:=h.z.S (x:=x) (by omega);have s1:=s0.2 y (by omega);rw [if_pos (by omega),Q8 (by omega),Q8 (by omega),Q8 (by omega),Q8 (by omega),Q8 (by omega),e_numbers s1.1 (by omega)];unfold Q1D;simp only [Option.bind_some]
   by_cases q1:rx (gx p.bf (ix p.s.id x)) y=iota (ix (rx p.sz x) y).toNat
   case neg=>rw [Qg (show ¬ p.li y x from fun q=>q1 q.1)];simp [q1]
   rw [if_neg (by simp [q1]),Q8 (by omega),Q8 (by omega),Q8 (by omega),Q8 (by omega),Q8 (by omega)]
   by_cases q2:rx (gx p.bh (ix p.t.id y)) x=iota (ix (rx p.sz x) y).toNat
   ·rw [Qn (show p.li y x from ⟨q1,q2⟩)];simp only [Option.bind_some,decide_eq_true q2,Bool.not_true,Bool.false_eq_true,if_false,if_true];rw [Q8 (by unfold B64;omega)]
   rw [Qg (show ¬ p.li y x from fun q=>q2 q.2)];simp [q2]
  by_cases k1:∀ x:Nat,x<p.s.id.length→p.li y x
  case neg=>rw [Qg k1,Qg (fun q=>k1 q.1)];simp
  rw [Qn k1];simp only [if_true];rw [Option.bind_assoc];refine chkI p.s.fr.length (fun a=>∀ b:Nat,b<p.s.fr.length→p.la y a b) (Sum.inl false) (Sum.inr ()) (by omega) (fun a ha=>?_) (by rw [if_neg (by omega)]) ?_
  ·have r1:=h.z.hs.1.row' (j:=(a:Int)) (by omega) (by omega);rw [if_pos (by omega),Q8 (by omega),Option.bind_assoc];refine chkI p.s.fr.length (p.la y a) (Sum.inl false) (Sum.inr ()) (by omega) (fun b hb=>?_) (by rw [if_neg (by omega)]) ?_
   ·rw [if_pos (by omega),Q8 (by omega)]
    by_cases h0:0≤ix (rx p.s.cs a) b
    case neg=>rw [if_neg h0,Qn (show p.la y a b from fun q=>absurd q h0)];simp only [Option.bind_some,Bool.false_eq_true,if_false,if_true];rw [Q8 (by unfold B64;omega)]
    obtain ⟨c1,d2,d3,d4⟩:=h.z.hs.comp (a:=a) (b:=b) (by omega) (by omega) h0;have B1:=(h.B (a:=a) (by omega)).1;have B2:=(h.B (a:=b) (by omega)).1;have B3:=(h.B (a:=ix (rx p.s.cs a) b) (by omega)).1;rw [if_pos h0,Q8 (by omega),Q8 (by omega),Q8 (by omega),Q8 (by omega),Q8 (by omega),Q8 (by omega),(h.cB (a:=a) (b:=b) (y:=y) (by omega) (by omega) (by omega) c1).2];unfold Q1D;simp only [Option.bind_some]
    by_cases q:rx (gx p.bf (ix (rx p.s.cs a) b)) y=QU (rx (gx p.bf b) y) (rx (gx p.bf a) y)
    ·rw [Qn (show p.la y a b from fun _=>q),Q8 (by unfold B64;omega)];simp [q]
    rw [Qg (show ¬ p.la y a b from fun z=>q (z h0))];simp [q]
   by_cases q:∀ b:Nat,b<p.s.fr.length→p.la y a b
   ·rw [Qn q];simp only [if_true,Option.bind_some];rw [Q8 (by unfold B64;omega)]
   rw [Qg q];simp
  by_cases q:∀ a:Nat,a<p.s.fr.length→∀ b:Nat,b<p.s.fr.length→p.la y a b
  ·rw [Qn q,Qn ⟨k1,q⟩];simp only [if_true,Option.bind_some];rw [Q8 (by unfold B64;omega)]
  rw [Qg q,Qg (fun z=>q z.2)];simp
 by_cases k1:∀ y:Nat,y<p.t.id.length→(∀ x:Nat,x<p.s.id.length→p.li y x)∧∀ a:Nat,a<p.s.fr.length→∀ b:Nat,b<p.s.fr.length→p.la y a b
 case neg=>rw [Qg k1,Qg (show ¬ p.Ac from fun q=>k1 q.1)];simp
 rw [Qn k1];simp only [if_true];refine chkI p.s.id.length (fun x=>∀ a:Nat,a<p.t.fr.length→∀ b:Nat,b<p.t.fr.length→p.lc x a b) (Sum.inr false) (Sum.inl ()) (by omega) (fun x hx=>?_) (by rw [if_neg (by omega)]) ?_
 ·rw [if_pos (by omega),Option.bind_assoc];refine chkI p.t.fr.length (fun a=>∀ b:Nat,b<p.t.fr.length→p.lc x a b) (Sum.inl false) (Sum.inr ()) (by omega) (fun a ha=>?_) (by rw [if_neg (by omega)]) ?_
  ·have r1:=h.z.ht.1.row' (j:=(a:Int)) (by omega) (by omega);rw [if_pos (by omega),Q8 (by omega),Option.bind_assoc];refine chkI p.t.fr.length (p.lc x a) (Sum.inl false) (Sum.inr ()) (by omega) (fun b hb=>?_) (by rw [if_neg (by omega)]) ?_
   ·rw [if_pos (by omega),Q8 (by omega)]
    by_cases h0:0≤ix (rx p.t.cs a) b
    case neg=>rw [if_neg h0,Qn (show p.lc x a b from fun q=>absurd q h0)];simp only [Option.bind_some,Bool.false_eq_true,if_false,if_true];rw [Q8 (by unfold B64;omega)]
    obtain ⟨c1,d2,d3,d4⟩:=h.z.ht.comp (a:=a) (b:=b) (by omega) (by omega) h0;have B1:=(h.H (b:=a) (by omega)).1;have B2:=(h.H (b:=b) (by omega)).1;have B3:=(h.H (b:=ix (rx p.t.cs a) b) (by omega)).1;rw [if_pos h0,Q8 (by omega),Q8 (by omega),Q8 (by omega),Q8 (by omega),Q8 (by omega),Q8 (by omega),(h.cH (a:=a) (b:=b) (x:=x) (by omega) (by omega) (by omega) c1).2];unfold Q1D;simp only [Option.bind_some]
    by_cases q:rx (gx p.bh (ix (rx p.t.cs a) b)) x=QU (rx (gx p.bh a) x) (rx (gx p.bh b) x)
    ·rw [Qn (show p.lc x a b from fun _=>q),Q8 (by unfold B64;omega)];simp [q]
    rw [Qg (show ¬ p.lc x a b from fun z=>q (z h0))];simp [q]
   by_cases q:∀ b:Nat,b<p.t.fr.length→p.lc x a b
   ·rw [Qn q];simp only [if_true,Option.bind_some];rw [Q8 (by unfold B64;omega)]
   rw [Qg q];simp
  by_cases q:∀ a:Nat,a<p.t.fr.length→∀ b:Nat,b<p.t.fr.length→p.lc x a b
  ·rw [Qn q];simp only [if_true,Option.bind_some];rw [Q8 (by unfold B64;omega)]
  rw [Qg q];simp
 by_cases k2:∀ x:Nat,x<p.s.id.length→∀ a:Nat,a<p.t.fr.length→∀ b:Nat,b<p.t.fr.length→p.lc x a b
 ·rw [Qn k2,Qn (show p.Ac from ⟨k1,k2⟩)];simp
 rw [Qg k2,Qg (show ¬ p.Ac from fun q=>k2 q.2)];simp
theorem e_isProf (p:Prf):QC p=some (bo p.Is):=by
 unfold QC;rw [e_isShape];simp only [Option.bind_some]
 by_cases h:p.M
 case neg=>rw [Qg h,Qg (show ¬ p.Is from fun q=>h q.m)];simp
 rw [Qn h,if_neg (by simp),e_acts h];simp only [Option.bind_some]
 by_cases h1:p.Ac
 case neg=>rw [Qg h1,Qg (show ¬ p.Is from fun q=>h1 ⟨q.l1,q.l2⟩)];simp
 rw [Qn h1,if_neg (by simp)];have ns:=h.z.hs.nums;have nt:=h.z.ht.nums;have z1:=h.z.ls;have z2:=h.z.lb;have z3:=h.z.lh;refine chkI p.s.fr.length (fun a=>∀ b:Nat,b<p.t.fr.length→p.ln a b) (Sum.inr false) (Sum.inl ()) (by omega) (fun a ha=>?_) (by rw [if_neg (by omega)]) ?_
 ·rw [if_pos (by omega),Option.bind_assoc];refine chkI p.t.fr.length (p.ln a) (Sum.inl false) (Sum.inr ()) (by omega) (fun b hb=>?_) (by rw [if_neg (by omega)]) ?_
  ·have B1:=(h.B (a:=a) (by omega)).1;have B2:=(h.H (b:=b) (by omega)).1;have ea:=h.z.hs.ends (a:=a) (by omega);have eb:=h.z.ht.ends (a:=b) (by omega);obtain ⟨c1,d2⟩:=h.cN (a:=a) (b:=b) (by omega) (by omega);rw [if_pos (by omega),Q8 (by omega),Q8 (by omega),Q8 (by omega),Q8 (by omega),Q8 (by omega),Q8 (by omega),c1.2];simp only [Option.bind_some];rw [Q8 (by omega),Q8 (by omega),Q8 (by omega),Q8 (by omega),Q8 (by omega),Q8 (by omega),d2.2];unfold Q1D;simp only [Option.bind_some]
   by_cases q:p.ln a b
   ·have q':QU (rx (gx p.bf a) (ix p.t.fr b)) (rx (gx p.bh b) (ix p.s.fr a))=QU (rx (gx p.bh b) (ix p.s.to a)) (rx (gx p.bf a) (ix p.t.to b)):=q;rw [Qn q,Q8 (by unfold B64;omega)];simp [q']
   have q':¬ QU (rx (gx p.bf a) (ix p.t.fr b)) (rx (gx p.bh b) (ix p.s.fr a))=QU (rx (gx p.bh b) (ix p.s.to a)) (rx (gx p.bf a) (ix p.t.to b)):=q;rw [Qg q];simp [q']
  by_cases q:∀ b:Nat,b<p.t.fr.length→p.ln a b
  ·rw [Qn q];simp only [if_true,Option.bind_some];rw [Q8 (by unfold B64;omega)]
  rw [Qg q];simp
 by_cases q:∀ a:Nat,a<p.s.fr.length→∀ b:Nat,b<p.t.fr.length→p.ln a b
 ·rw [Qn q,Qn (show p.Is from ⟨h,h1.1,h1.2,q⟩)];simp
 rw [Qg q,Qg (show ¬ p.Is from fun z=>q z.l3)];simp
theorem tabg {α ε β:Type} {body:List α × Int→Option (Ctl (List α × Int) ε)} {K:ε→Option β} {r:Option β} (n:Nat) (v:Nat→α) {e:ε} (hn:n<1000000)
  (h:∀ i:Nat,i<n→body (tab i v,(i:Int))=(ass ((tab i v++[v i]).length≤1073741824) <| ass (B64 ((i:Int)+1)) <| some (.next (tab i v++[v i],(i:Int)+1))))
  (he:body (tab n v,(n:Int))=some (.ret e)) (hk:K e=r):(Qx body fuel ([],0)).bind K=r:=by
 refine Q5r n (fun i=>tab i v) (e:=e) rfl (by omega) (fun i hi=>?_) he hk;rw [h i hi,Q8 (by simp;omega),Q8 (by unfold B64;omega),Q7O]
theorem Q7N {m:Nat}:∀ {x:List (List Int)},(∀ a∈x,a.length≤m)→sumL x≤x.length * m:=by
 intro x
 induction x with
 | nil=>intro _;simp [sumL]
 | cons a r ih =>
  intro h;have h1:=h a (by simp);have h2:=ih fun b hb=>h b (by simp [hb]);simp only [sumL,List.map_cons,List.sum_cons,List.length_cons,Nat.succ_mul] at h2 ⊢;omega
theorem sumN_bnd {m:Nat}:∀ {x:List (List (List Int))},(∀ a∈x,sumL a≤m)→sumN x≤x.length * m:=by
 intro x
 induction x with
 | nil=>intro _;simp [sumN]
 | cons a r ih =>
  intro h;have h1:=h a (by simp);have h2:=ih fun b hb=>h b (by simp [hb]);simp only [sumN,List.map_cons,List.sum_cons,List.length_cons,Nat.succ_mul] at h2 ⊢;omega
def smallN (x:List (List (List Int))):Prop:=x.length≤40∧∀ a∈x,a.length≤8∧∀ b∈a,b.length≤64
theorem Q6p {x:List (List (List Int))} (h:smallN x):okN x∧sumN x≤20480:=by
 refine ⟨fun a ha=>⟨by have:=(h.2 a ha).1;omega,fun b hb=>by have:=(h.2 a ha).2 b hb;omega⟩,?_⟩;have h1:∀ a∈x,sumL a≤512:=fun a ha=>by
  have:=Q7N (m:=64) (h.2 a ha).2;have:=(h.2 a ha).1;omega
 have:=sumN_bnd h1;have:=h.1;omega
theorem Prf.small {p:Prf} (hs:p.s.ok∧p.s.size≤2000) (ht:p.t.ok∧p.t.size≤2000) (hz:p.sz.length≤8∧∀ r∈p.sz,r.length≤8) (hb:smallN p.bf) (hh:smallN p.bh):p.ok∧p.size≤50000:=by
 have a1:=Q6p hb;have a2:=Q6p hh;have a3:=Q7N hz.2;have a4:=hb.1;have a5:=hh.1;refine ⟨⟨hs.1,ht.1,by omega,fun r hr=>by have:=hz.2 r hr;omega,by omega,by omega,a1.1,by omega,by omega,a2.1,by omega⟩,?_⟩;simp only [Prf.size];omega
theorem take_tab {α:Type} (n:Nat) (v:Nat→α):(tab n v).take n=tab n v:=List.take_of_length_le (by simp)
def zeroP:Prf:=⟨⟨0,[],[],[],[]⟩,⟨0,[],[],[],[]⟩,[],[],[]⟩
theorem Q3S:zeroP.ok∧zeroP.size≤50000:=by simp [zeroP,Prf.ok,Prf.size,Cat.ok,Cat.size,sumL,sumN,okN]
noncomputable def Qy (x_:Int) (y_:Int) (c0_:Prf) (c1_:Fn) (c2_:Fn):Option Int :=
 ass (0≤x_∧x_<(c1_.ob.length:Int)) <|
 ass (0≤ix c1_.ob x_∧ix c1_.ob x_<(c0_.sz.length:Int)) <|
 ass (0≤y_∧y_<(c2_.ob.length:Int)) <|
 ass (0≤ix c2_.ob y_∧ix c2_.ob y_<((rx c0_.sz (ix c1_.ob x_)).length:Int)) <|
 some (ix (rx c0_.sz (ix c1_.ob x_)) (ix c2_.ob y_))
theorem Q1u (x_:Int) (y_:Int) (c0_:Prf) (c1_:Fn) (c2_:Fn) (r:Int) (h:Qy x_ y_ c0_ c1_ c2_=some r):Contract Try.prog 79 [iV x_,iV y_,.rptr (Prf.cells true c0_),.rptr (Fn.cells true c1_),.rptr (Fn.cells true c2_)] (iV r):=by
 refine Qk (rvs:=[.tmp 7]) (rs:=[iV r]) Try.func79 rfl rfl rfl rfl (by simp [Try.f79]) fun F hN hP=>?_;unfold Qy at h;refine Q5 ?_;refine runQ hN fun K hK=>?_;simp [-Q0,-Q6,-Q1,-Q7,-Q2,eL,eI,QB,Q2v,Q27,Fn.cells,Prf.cells];repeat refine sdQ ?_
 refine hK _ ?_;clear hK K;refine tn ?_;refine Q9 (st':=⟨[(0,iV x_),(1,iV y_),(2,.rptr (Prf.cells true c0_)),(3,.rptr (Fn.cells true c1_)),(4,.rptr (Fn.cells true c2_))],[],0⟩) (Qp []) ?_;refine Q5 ?_;refine runQ hN fun K hK=>?_;replace h:=Q4 h;obtain ⟨a1,h⟩:=h;replace h:=Q4 h;obtain ⟨a2,h⟩:=h;replace h:=Q4 h;obtain ⟨a3,h⟩:=h;replace h:=Q4 h;obtain ⟨a4,h⟩:=h;simp [-Q0,-Q6,-Q1,-Q7,-Q2,eL,eI,QB,Q2v,Q27,Fn.cells,Prf.cells,at_I a1,at_L a2,at_I a3,at_I a4];repeat refine sdQ ?_
 refine hK _ ?_;clear hK K;refine tn ?_;refine Q9 (st':=⟨[(7,iV (ix (rx c0_.sz (ix c1_.ob x_)) (ix c2_.ob y_)))],[],0⟩) (Qp []) ?_;refine Qh ?_;have hr:=Option.some.inj h;rw [← hr];refine ⟨_,(.tmp .nil),?_⟩;refine ⟨(.one rfl rfl .nil),[iV (ix (rx c0_.sz (ix c1_.ob x_)) (ix c2_.ob y_))],[],by simp [Fn.cells,Prf.cells,UA,U1,IA,I1,LA,L1,BA,B1,EA,E1,E2,eB,eI,eL],by simp,(UpL.refl _)⟩
attribute [local simp] eL eI QB Q2v Q27 Fn.cells Prf.cells
noncomputable def Qz (a_:Int) (y_:Int) (c0_:Prf) (c1_:Fn) (c2_:Fn):Option (List Int) :=
 ass (0≤a_∧a_<(c1_.ar.length:Int)) <|
 ass (0≤ix c1_.ar a_∧ix c1_.ar a_<(c0_.bf.length:Int)) <|
 ass (0≤y_∧y_<(c2_.ob.length:Int)) <|
 ass (0≤ix c2_.ob y_∧ix c2_.ob y_<((gx c0_.bf (ix c1_.ar a_)).length:Int)) <|
 (Q2C (rx (gx c0_.bf (ix c1_.ar a_)) (ix c2_.ob y_))).bind fun v5 =>
 some v5
theorem Q1v (a_:Int) (y_:Int) (c0_:Prf) (c1_:Fn) (c2_:Fn) (r:List Int) (h:Qz a_ y_ c0_ c1_ c2_=some r):Contract Try.prog 80 [iV a_,iV y_,.rptr (Prf.cells true c0_),.rptr (Fn.cells true c1_),.rptr (Fn.cells true c2_)] (lI r):=by
 refine Qk (rvs:=[.tmp 7]) (rs:=[lI r]) Try.func80 rfl rfl rfl rfl (by simp [Try.f80]) fun F hN hP=>?_;unfold Qz at h;refine Q5 ?_;refine runQ hN fun K hK=>?_;simp [-Q0,-Q6,-Q1,-Q7,-Q2];repeat refine sdQ ?_
 refine hK _ ?_;clear hK K;refine tn ?_;refine Q9 (st':=⟨[(0,iV a_),(1,iV y_),(2,.rptr (Prf.cells true c0_)),(3,.rptr (Fn.cells true c1_)),(4,.rptr (Fn.cells true c2_))],[],0⟩) (Qp []) ?_;refine Q5 ?_;refine runQ hN fun K hK=>?_;replace h:=Q4 h;obtain ⟨a1,h⟩:=h;replace h:=Q4 h;obtain ⟨a2,h⟩:=h;replace h:=Q4 h;obtain ⟨a3,h⟩:=h;replace h:=Q4 h;obtain ⟨a4,h⟩:=h;simp [-Q0,-Q6,-Q1,-Q7,-Q2,at_I a1,at_E (c:=eL) a2,at_I a3,at_L a4];repeat with_reducible refine sdQ ?_
 replace h:=bind_some h;obtain ⟨v5,hv5,h⟩:=h;refine Q3 (Q6w _ v5 hv5) (.cons .lst .nil) ?_;simp [-Q0,-Q6,-Q1,-Q7,-Q2,unk,unA,unE,unT,unC,flat,at_I a1,at_E (c:=eL) a2,at_I a3,at_L a4];repeat refine sdQ ?_
 refine hK _ ?_;clear hK K;refine tn ?_;refine Q9 (st':=⟨[(7,.own 0 0 v5.length)],[(0,rI v5)],1⟩) (Qp [(0,0)]) ?_;refine Qh ?_;have hr:=Option.some.inj h;rw [← hr];refine ⟨_,(.tmp .nil),?_⟩;refine ⟨(.one rfl rfl .nil),[lI v5],[0],by simp [Fn.cells,Prf.cells,UA,U1,IA,I1,LA,L1,BA,B1,EA,E1,E2,eB,eI,eL],by simp,(UpL.refl _)⟩
attribute [local simp] eL eI QB Q2v Q27 Fn.cells Prf.cells
noncomputable def QA (b_:Int) (x_:Int) (c0_:Prf) (c1_:Fn) (c2_:Fn):Option (List Int) :=
 ass (0≤b_∧b_<(c1_.ar.length:Int)) <|
 ass (0≤ix c1_.ar b_∧ix c1_.ar b_<(c0_.bh.length:Int)) <|
 ass (0≤x_∧x_<(c2_.ob.length:Int)) <|
 ass (0≤ix c2_.ob x_∧ix c2_.ob x_<((gx c0_.bh (ix c1_.ar b_)).length:Int)) <|
 (Q2C (rx (gx c0_.bh (ix c1_.ar b_)) (ix c2_.ob x_))).bind fun v5 =>
 some v5
theorem Q1w (b_:Int) (x_:Int) (c0_:Prf) (c1_:Fn) (c2_:Fn) (r:List Int) (h:QA b_ x_ c0_ c1_ c2_=some r):Contract Try.prog 81 [iV b_,iV x_,.rptr (Prf.cells true c0_),.rptr (Fn.cells true c1_),.rptr (Fn.cells true c2_)] (lI r):=by
 refine Qk (rvs:=[.tmp 7]) (rs:=[lI r]) Try.func81 rfl rfl rfl rfl (by simp [Try.f81]) fun F hN hP=>?_;unfold QA at h;refine Q5 ?_;refine runQ hN fun K hK=>?_;simp [-Q0,-Q6,-Q1,-Q7,-Q2];repeat refine sdQ ?_
 refine hK _ ?_;clear hK K;refine tn ?_;refine Q9 (st':=⟨[(0,iV b_),(1,iV x_),(2,.rptr (Prf.cells true c0_)),(3,.rptr (Fn.cells true c1_)),(4,.rptr (Fn.cells true c2_))],[],0⟩) (Qp []) ?_;refine Q5 ?_;refine runQ hN fun K hK=>?_;replace h:=Q4 h;obtain ⟨a1,h⟩:=h;replace h:=Q4 h;obtain ⟨a2,h⟩:=h;replace h:=Q4 h;obtain ⟨a3,h⟩:=h;replace h:=Q4 h;obtain ⟨a4,h⟩:=h;simp [-Q0,-Q6,-Q1,-Q7,-Q2,at_I a1,at_E (c:=eL) a2,at_I a3,at_L a4];repeat with_reducible refine sdQ ?_
 replace h:=bind_some h;obtain ⟨v5,hv5,h⟩:=h;refine Q3 (Q6w _ v5 hv5) (.cons .lst .nil) ?_;simp [-Q0,-Q6,-Q1,-Q7,-Q2,unk,unA,unE,unT,unC,flat,at_I a1,at_E (c:=eL) a2,at_I a3,at_L a4];repeat refine sdQ ?_
 refine hK _ ?_;clear hK K;refine tn ?_;refine Q9 (st':=⟨[(7,.own 0 0 v5.length)],[(0,rI v5)],1⟩) (Qp [(0,0)]) ?_;refine Qh ?_;have hr:=Option.some.inj h;rw [← hr];refine ⟨_,(.tmp .nil),?_⟩;refine ⟨(.one rfl rfl .nil),[lI v5],[0],by simp [Fn.cells,Prf.cells,UA,U1,IA,I1,LA,L1,BA,B1,EA,E1,E2,eB,eI,eL],by simp,(UpL.refl _)⟩
attribute [local simp] eL eI QB Q1y Q2v Q27 Cat.cells Fn.cells Prf.cells
noncomputable def Qe (c_:Cat) (d_:Cat) (size_0:Prf) (size_1:Fn) (size_2:Fn) (before_0:Prf) (before_1:Fn) (before_2:Fn) (behind_0:Prf) (behind_1:Fn) (behind_2:Fn):Option (Prf × Bool) :=
 (Q12 c_).bind fun v1 =>
 (Q12 d_).bind fun v2 =>
 (Qx (σ:=List (List Int) × Int) (ε:=(List (List Int)) ⊕ (Prf × Bool)) (fun s24 =>
  if s24.2<c_.n then
   ass ((0:Int)≤0∧0≤d_.n∧d_.n≤1073741824) <|
   (Qx (σ:=List Int × Int) (ε:=(List Int) ⊕ (Prf × Bool)) (fun s35 =>
    if s35.2<d_.n then
     ass (0≤s35.2∧s35.2≤(s35.1.length:Int)) <|
     (Qy s24.2 s35.2 size_0 size_1 size_2).bind fun v38 =>
     ass (((s35.1.take s35.2.toNat)++[v38]).length≤1073741824) <|
     ass (0≤s35.2∧s35.2<(((s35.1.take s35.2.toNat)++[v38]).length:Int)) <|
     if (ix ((s35.1.take s35.2.toNat)++[v38]) s35.2) > 64 then
      some (Ctl.ret (Sum.inr ((⟨(⟨0,[],[],[],[]⟩:Cat),(⟨0,[],[],[],[]⟩:Cat),[],[],[]⟩:Prf),false)))
     else
      ass (B64 (s35.2+1)) <|
      some (Ctl.next ((s35.1.take s35.2.toNat)++[v38],s35.2+1))
    else
     some (Ctl.ret (Sum.inl s35.1))) fuel (List.replicate 0 0,0)).bind fun e27 =>
   match e27 with
   | .inl b27 =>
    ass ((s24.1++[b27]).length≤1073741824) <|
    ass (B64 (s24.2+1)) <|
    some (Ctl.next (s24.1++[b27],s24.2+1))
   | .inr p27 =>
    some (Ctl.ret (Sum.inr p27))
  else
   some (Ctl.ret (Sum.inl s24.1))) fuel ([],0)).bind fun e3 =>
 match e3 with
 | .inl b3 =>
  (Qx (σ:=List (List (List Int)) × Int) (ε:=List (List (List Int))) (fun s59 =>
   if s59.2<(c_.fr.length:Int) then
    (Qx (σ:=List (List Int) × Int) (ε:=List (List Int)) (fun s66 =>
     if s66.2<d_.n then
      (Qz s59.2 s66.2 before_0 before_1 before_2).bind fun v68 =>
      ass ((s66.1++[v68]).length≤1073741824) <|
      ass (B64 (s66.2+1)) <|
      some (Ctl.next (s66.1++[v68],s66.2+1))
     else
      some (Ctl.ret s66.1)) fuel ([],0)).bind fun b61 =>
    ass ((s59.1++[b61]).length≤1073741824) <|
    ass (B64 (s59.2+1)) <|
    some (Ctl.next (s59.1++[b61],s59.2+1))
   else
    some (Ctl.ret s59.1)) fuel ([],0)).bind fun b45 =>
  (Qx (σ:=List (List (List Int)) × Int) (ε:=List (List (List Int))) (fun s87 =>
   if s87.2<(d_.fr.length:Int) then
    (Qx (σ:=List (List Int) × Int) (ε:=List (List Int)) (fun s94 =>
     if s94.2<c_.n then
      (QA s87.2 s94.2 behind_0 behind_1 behind_2).bind fun v96 =>
      ass ((s94.1++[v96]).length≤1073741824) <|
      ass (B64 (s94.2+1)) <|
      some (Ctl.next (s94.1++[v96],s94.2+1))
     else
      some (Ctl.ret s94.1)) fuel ([],0)).bind fun b89 =>
    ass ((s87.1++[b89]).length≤1073741824) <|
    ass (B64 (s87.2+1)) <|
    some (Ctl.next (s87.1++[b89],s87.2+1))
   else
    some (Ctl.ret s87.1)) fuel ([],0)).bind fun b73 =>
  some ((⟨v1,v2,b3,b45,b73⟩:Prf),true)
 | .inr p3 =>
  some p3
theorem Qu (c_:Cat) (d_:Cat) (size_0:Prf) (size_1:Fn) (size_2:Fn) (before_0:Prf) (before_1:Fn) (before_2:Fn) (behind_0:Prf) (behind_1:Fn) (behind_2:Fn) (r:Prf × Bool) (h:Qe c_ d_ size_0 size_1 size_2 before_0 before_1 before_2 behind_0 behind_1 behind_2=some r):Contract Try.prog 64 [.rptr (c_.cells true),.rptr (d_.cells true),.fn 79 [.rptr (Prf.cells true size_0),.rptr (Fn.cells true size_1),.rptr (Fn.cells true size_2)],.fn 80 [.rptr (Prf.cells true before_0),.rptr (Fn.cells true before_1),.rptr (Fn.cells true before_2)],.fn 81 [.rptr (Prf.cells true behind_0),.rptr (Fn.cells true behind_1),.rptr (Fn.cells true behind_2)]] (.tup [.agg (r.1.cells true),.val (.bool r.2)]):=by
 refine Qk (rvs:=[.cell 10 32,.tmp 11]) (rs:=[.agg (r.1.cells true),.val (.bool r.2)]) Try.func64 rfl rfl rfl rfl (by simp [Try.f64]) fun F hN hP=>?_;unfold Qe at h;refine Q5 ?_;refine runQ hN fun K hK=>?_;simp [-Q0,-Q6,-Q1,-Q7,-Q2];repeat refine sdQ ?_
 refine hK _ ?_;clear hK K;refine tn ?_;refine Q9 (st':=⟨[(0,.rptr (Cat.cells true c_)),(1,.rptr (Cat.cells true d_)),(2,.fn 79 [.rptr (Prf.cells true size_0),.rptr (Fn.cells true size_1),.rptr (Fn.cells true size_2)]),(3,.fn 80 [.rptr (Prf.cells true before_0),.rptr (Fn.cells true before_1),.rptr (Fn.cells true before_2)]),(4,.fn 81 [.rptr (Prf.cells true behind_0),.rptr (Fn.cells true behind_1),.rptr (Fn.cells true behind_2)]),(10,.adr 0 0 0)],[(0,.mix 13 [[iV 0,.val (.slice none 0 0),.val (.slice none 0 0),.val (.slice none 0 0),.val (.slice none 0 0),iV 0,.val (.slice none 0 0),.val (.slice none 0 0),.val (.slice none 0 0),.val (.slice none 0 0),.val (.slice none 0 0),.val (.slice none 0 0),.val (.slice none 0 0)]])],1⟩) (Qp [(0,0)]) ?_;refine Q5 ?_;refine runQ hN fun K hK=>?_;simp [-Q0,-Q6,-Q1,-Q7,-Q2];repeat with_reducible refine sdQ ?_
 replace h:=bind_some h;obtain ⟨v1,hv1,h⟩:=h;refine Q3 (Q2G _ v1 hv1) (.cons (.preT (by simp [Cat.cells,Fn.cells,Prf.cells])) .nil) ?_;simp [-Q0,-Q6,-Q1,-Q7,-Q2,unk,unA,unE,unT,unC,flat];repeat with_reducible refine sdQ ?_
 replace h:=bind_some h;obtain ⟨v2,hv2,h⟩:=h;refine Q3 (Q2G _ v2 hv2) (.cons (.preT (by simp [Cat.cells,Fn.cells,Prf.cells])) .nil) ?_;simp [-Q0,-Q6,-Q1,-Q7,-Q2,unk,unA,unE,unT,unC,flat];repeat refine sdQ ?_
 refine hK _ ?_;clear hK K;refine tn ?_;refine Q9 (st':=⟨[(0,.rptr (Cat.cells true c_)),(1,.rptr (Cat.cells true d_)),(2,.fn 79 [.rptr (Prf.cells true size_0),.rptr (Fn.cells true size_1),.rptr (Fn.cells true size_2)]),(3,.fn 80 [.rptr (Prf.cells true before_0),.rptr (Fn.cells true before_1),.rptr (Fn.cells true before_2)]),(4,.fn 81 [.rptr (Prf.cells true behind_0),.rptr (Fn.cells true behind_1),.rptr (Fn.cells true behind_2)]),(10,.adr 0 0 0),(12,.adr 1 0 0)],[(0,.mix 13 [[iV 0,.val (.slice none 0 0),.val (.slice none 0 0),.val (.slice none 0 0),.val (.slice none 0 0),iV 0,.val (.slice none 0 0),.val (.slice none 0 0),.val (.slice none 0 0),.val (.slice none 0 0),.val (.slice none 0 0),.val (.slice none 0 0),.val (.slice none 0 0)]]),(1,.mix 13 [[iV v1.n,.own 2 0 v1.fr.length,.own 3 0 v1.to.length,.own 4 0 v1.id.length,.own 5 0 v1.cs.length,iV v2.n,.own 6 0 v2.fr.length,.own 7 0 v2.to.length,.own 8 0 v2.id.length,.own 9 0 v2.cs.length,.val (.slice none 0 0),.val (.slice none 0 0),.val (.slice none 0 0)]]),(2,rI v1.fr),(3,rI v1.to),(4,rI v1.id),(5,.row 1 (Ls v1.cs)),(6,rI v2.fr),(7,rI v2.to),(8,rI v2.id),(9,.row 1 (Ls v2.cs))],10⟩) (Qp [(0,0),(11,1),(2,2),(3,3),(4,4),(5,5),(7,6),(8,7),(9,8),(10,9)]) ?_;refine Q5 ?_;refine Q5 ?_;refine runQ hN fun K hK=>?_;simp [-Q0,-Q6,-Q1,-Q7,-Q2];repeat refine sdQ ?_
 refine hK _ ?_;clear hK K;refine tn ?_;refine Q9 (st':=⟨[(0,.rptr (Cat.cells true c_)),(1,.rptr (Cat.cells true d_)),(2,.fn 79 [.rptr (Prf.cells true size_0),.rptr (Fn.cells true size_1),.rptr (Fn.cells true size_2)]),(3,.fn 80 [.rptr (Prf.cells true before_0),.rptr (Fn.cells true before_1),.rptr (Fn.cells true before_2)]),(4,.fn 81 [.rptr (Prf.cells true behind_0),.rptr (Fn.cells true behind_1),.rptr (Fn.cells true behind_2)]),(10,.adr 0 0 0),(12,.adr 1 0 0),(13,iV 0)],[(0,.mix 13 [[iV 0,.val (.slice none 0 0),.val (.slice none 0 0),.val (.slice none 0 0),.val (.slice none 0 0),iV 0,.val (.slice none 0 0),.val (.slice none 0 0),.val (.slice none 0 0),.val (.slice none 0 0),.val (.slice none 0 0),.val (.slice none 0 0),.val (.slice none 0 0)]]),(1,.mix 13 [[iV v1.n,.own 2 0 v1.fr.length,.own 3 0 v1.to.length,.own 4 0 v1.id.length,.own 5 0 v1.cs.length,iV v2.n,.own 6 0 v2.fr.length,.own 7 0 v2.to.length,.own 8 0 v2.id.length,.own 9 0 v2.cs.length,.val (.slice none 0 0),.val (.slice none 0 0),.val (.slice none 0 0)]]),(2,rI v1.fr),(3,rI v1.to),(4,rI v1.id),(5,.row 1 (Ls v1.cs)),(6,rI v2.fr),(7,rI v2.to),(8,rI v2.id),(9,.row 1 (Ls v2.cs))],10⟩) (Qp [(0,0),(1,1),(2,2),(3,3),(4,4),(5,5),(6,6),(7,7),(8,8),(9,9)]) ?_;replace h:=bind_some h;obtain ⟨e3,h,h3⟩:=h;refine Qj (fun b3:List (List Int)=>⟨[(0,.rptr (Cat.cells true c_)),(1,.rptr (Cat.cells true d_)),(3,.fn 80 [.rptr (Prf.cells true before_0),.rptr (Fn.cells true before_1),.rptr (Fn.cells true before_2)]),(4,.fn 81 [.rptr (Prf.cells true behind_0),.rptr (Fn.cells true behind_1),.rptr (Fn.cells true behind_2)]),(10,.adr 0 0 0),(12,.adr 1 0 0)],[(0,.mix 13 [[iV 0,.val (.slice none 0 0),.val (.slice none 0 0),.val (.slice none 0 0),.val (.slice none 0 0),iV 0,.val (.slice none 0 0),.val (.slice none 0 0),.val (.slice none 0 0),.val (.slice none 0 0),.val (.slice none 0 0),.val (.slice none 0 0),.val (.slice none 0 0)]]),(1,.mix 13 [[iV v1.n,.own 2 0 v1.fr.length,.own 3 0 v1.to.length,.own 4 0 v1.id.length,.own 5 0 v1.cs.length,iV v2.n,.own 6 0 v2.fr.length,.own 7 0 v2.to.length,.own 8 0 v2.id.length,.own 9 0 v2.cs.length,.own 10 0 b3.length,.val (.slice none 0 0),.val (.slice none 0 0)]]),(2,rI v1.fr),(3,rI v1.to),(4,rI v1.id),(5,.row 1 (Ls v1.cs)),(6,rI v2.fr),(7,rI v2.to),(8,rI v2.id),(9,.row 1 (Ls v2.cs)),(10,.row 1 (Ls b3))],11⟩) (fun b3=>Sum.inl b3=e3) ?_ ?_
 ·refine Qa ?_;refine Qr h (fun s24:List (List Int) × Int=>⟨[(0,.rptr (Cat.cells true c_)),(1,.rptr (Cat.cells true d_)),(2,.fn 79 [.rptr (Prf.cells true size_0),.rptr (Fn.cells true size_1),.rptr (Fn.cells true size_2)]),(3,.fn 80 [.rptr (Prf.cells true before_0),.rptr (Fn.cells true before_1),.rptr (Fn.cells true before_2)]),(4,.fn 81 [.rptr (Prf.cells true behind_0),.rptr (Fn.cells true behind_1),.rptr (Fn.cells true behind_2)]),(10,.adr 0 0 0),(12,.adr 1 0 0),(13,iV s24.2)],[(0,.mix 13 [[iV 0,.val (.slice none 0 0),.val (.slice none 0 0),.val (.slice none 0 0),.val (.slice none 0 0),iV 0,.val (.slice none 0 0),.val (.slice none 0 0),.val (.slice none 0 0),.val (.slice none 0 0),.val (.slice none 0 0),.val (.slice none 0 0),.val (.slice none 0 0)]]),(1,.mix 13 [[iV v1.n,.own 2 0 v1.fr.length,.own 3 0 v1.to.length,.own 4 0 v1.id.length,.own 5 0 v1.cs.length,iV v2.n,.own 6 0 v2.fr.length,.own 7 0 v2.to.length,.own 8 0 v2.id.length,.own 9 0 v2.cs.length,.own 10 0 s24.1.length,.val (.slice none 0 0),.val (.slice none 0 0)]]),(2,rI v1.fr),(3,rI v1.to),(4,rI v1.id),(5,.row 1 (Ls v1.cs)),(6,rI v2.fr),(7,rI v2.to),(8,rI v2.id),(9,.row 1 (Ls v2.cs)),(10,.row 1 (Ls s24.1))],11⟩) (Q4Y ⟨[(0,.rptr (Cat.cells true c_)),(1,.rptr (Cat.cells true d_)),(2,.fn 79 [.rptr (Prf.cells true size_0),.rptr (Fn.cells true size_1),.rptr (Fn.cells true size_2)]),(3,.fn 80 [.rptr (Prf.cells true before_0),.rptr (Fn.cells true before_1),.rptr (Fn.cells true before_2)]),(4,.fn 81 [.rptr (Prf.cells true behind_0),.rptr (Fn.cells true behind_1),.rptr (Fn.cells true behind_2)]),(10,.adr 0 0 0),(12,.adr 1 0 0),(13,iV 0)],[(0,.mix 13 [[iV 0,.val (.slice none 0 0),.val (.slice none 0 0),.val (.slice none 0 0),.val (.slice none 0 0),iV 0,.val (.slice none 0 0),.val (.slice none 0 0),.val (.slice none 0 0),.val (.slice none 0 0),.val (.slice none 0 0),.val (.slice none 0 0),.val (.slice none 0 0)]]),(1,.mix 13 [[iV v1.n,.own 2 0 v1.fr.length,.own 3 0 v1.to.length,.own 4 0 v1.id.length,.own 5 0 v1.cs.length,iV v2.n,.own 6 0 v2.fr.length,.own 7 0 v2.to.length,.own 8 0 v2.id.length,.own 9 0 v2.cs.length,.own 10 0 0,.val (.slice none 0 0),.val (.slice none 0 0)]]),(2,rI v1.fr),(3,rI v1.to),(4,rI v1.id),(5,.row 1 (Ls v1.cs)),(6,rI v2.fr),(7,rI v2.to),(8,rI v2.id),(9,.row 1 (Ls v2.cs)),(10,.row 1 (Ls []))],11⟩ (Wk.nils [(10,1)] (by simp) (by simp) (by simp [nlA]) (by simp [entN,nlL,nlA,Cat.cells,Fn.cells,Prf.cells,UA,U1,IA,I1,LA,L1,BA,B1,EA,E1,E2,eB,eI,eL]) (by simp)) (Qp [(0,0),(1,1),(2,2),(3,3),(4,4),(5,5),(6,6),(7,7),(8,8),(9,9),(10,10)])) ?_;clear h;intro k24 s24 c24 h hk24;refine Q5 ?_;refine Q5 ?_;refine runQ hN fun K hK=>?_;simp [-Q0,-Q6,-Q1,-Q7,-Q2];repeat refine sdQ ?_
  refine hK _ ?_;clear hK K;refine tn ?_;refine Q9 (st':=⟨[(0,.rptr (Cat.cells true c_)),(1,.rptr (Cat.cells true d_)),(2,.fn 79 [.rptr (Prf.cells true size_0),.rptr (Fn.cells true size_1),.rptr (Fn.cells true size_2)]),(3,.fn 80 [.rptr (Prf.cells true before_0),.rptr (Fn.cells true before_1),.rptr (Fn.cells true before_2)]),(4,.fn 81 [.rptr (Prf.cells true behind_0),.rptr (Fn.cells true behind_1),.rptr (Fn.cells true behind_2)]),(10,.adr 0 0 0),(12,.adr 1 0 0),(13,iV s24.2),(32,.val (.bool (decide (s24.2<c_.n))))],[(0,.mix 13 [[iV 0,.val (.slice none 0 0),.val (.slice none 0 0),.val (.slice none 0 0),.val (.slice none 0 0),iV 0,.val (.slice none 0 0),.val (.slice none 0 0),.val (.slice none 0 0),.val (.slice none 0 0),.val (.slice none 0 0),.val (.slice none 0 0),.val (.slice none 0 0)]]),(1,.mix 13 [[iV v1.n,.own 2 0 v1.fr.length,.own 3 0 v1.to.length,.own 4 0 v1.id.length,.own 5 0 v1.cs.length,iV v2.n,.own 6 0 v2.fr.length,.own 7 0 v2.to.length,.own 8 0 v2.id.length,.own 9 0 v2.cs.length,.own 10 0 s24.1.length,.val (.slice none 0 0),.val (.slice none 0 0)]]),(2,rI v1.fr),(3,rI v1.to),(4,rI v1.id),(5,.row 1 (Ls v1.cs)),(6,rI v2.fr),(7,rI v2.to),(8,rI v2.id),(9,.row 1 (Ls v2.cs)),(10,.row 1 (Ls s24.1))],11⟩) (Qp [(0,0),(1,1),(2,2),(3,3),(4,4),(5,5),(6,6),(7,7),(8,8),(9,9),(10,10)]) ?_;refine Qc rfl (fun g=>?_) fun g=>?_
  ·have g25:s24.2<c_.n:=gQ;clear g;replace h:=if_l g25 h;refine Qd ?_;refine tn ?_;refine Q5 ?_;refine Qa ?_;refine Q5 ?_;refine runQ hN fun K hK=>?_;replace h:=Q4 h;obtain ⟨a26,h⟩:=h;simp [-Q0,-Q6,-Q1,-Q7,-Q2];(repeat refine sdQ ?_);refine hK _ ?_;clear hK K;refine tn ?_;refine Q9 (st':=⟨[(0,.rptr (Cat.cells true c_)),(1,.rptr (Cat.cells true d_)),(2,.fn 79 [.rptr (Prf.cells true size_0),.rptr (Fn.cells true size_1),.rptr (Fn.cells true size_2)]),(3,.fn 80 [.rptr (Prf.cells true before_0),.rptr (Fn.cells true before_1),.rptr (Fn.cells true before_2)]),(4,.fn 81 [.rptr (Prf.cells true behind_0),.rptr (Fn.cells true behind_1),.rptr (Fn.cells true behind_2)]),(10,.adr 0 0 0),(12,.adr 1 0 0),(13,iV s24.2),(14,.own 11 0 ((List.replicate 0 0).length))],[(0,.mix 13 [[iV 0,.val (.slice none 0 0),.val (.slice none 0 0),.val (.slice none 0 0),.val (.slice none 0 0),iV 0,.val (.slice none 0 0),.val (.slice none 0 0),.val (.slice none 0 0),.val (.slice none 0 0),.val (.slice none 0 0),.val (.slice none 0 0),.val (.slice none 0 0)]]),(1,.mix 13 [[iV v1.n,.own 2 0 v1.fr.length,.own 3 0 v1.to.length,.own 4 0 v1.id.length,.own 5 0 v1.cs.length,iV v2.n,.own 6 0 v2.fr.length,.own 7 0 v2.to.length,.own 8 0 v2.id.length,.own 9 0 v2.cs.length,.own 10 0 s24.1.length,.val (.slice none 0 0),.val (.slice none 0 0)]]),(2,rI v1.fr),(3,rI v1.to),(4,rI v1.id),(5,.row 1 (Ls v1.cs)),(6,rI v2.fr),(7,rI v2.to),(8,rI v2.id),(9,.row 1 (Ls v2.cs)),(10,.row 1 (Ls s24.1)),(11,rI (List.replicate 0 0))],12⟩) (Qp [(0,0),(1,1),(2,2),(3,3),(4,4),(5,5),(6,6),(7,7),(8,8),(9,9),(10,10),(11,11)]) ?_;refine Q5 ?_;refine Q5 ?_;refine runQ hN fun K hK=>?_;simp [-Q0,-Q6,-Q1,-Q7,-Q2];(repeat refine sdQ ?_);refine hK _ ?_;clear hK K;refine tn ?_
   refine Q9 (st':=⟨[(0,.rptr (Cat.cells true c_)),(1,.rptr (Cat.cells true d_)),(2,.fn 79 [.rptr (Prf.cells true size_0),.rptr (Fn.cells true size_1),.rptr (Fn.cells true size_2)]),(3,.fn 80 [.rptr (Prf.cells true before_0),.rptr (Fn.cells true before_1),.rptr (Fn.cells true before_2)]),(4,.fn 81 [.rptr (Prf.cells true behind_0),.rptr (Fn.cells true behind_1),.rptr (Fn.cells true behind_2)]),(10,.adr 0 0 0),(12,.adr 1 0 0),(13,iV s24.2),(14,.own 11 0 ((List.replicate 0 0).length)),(15,iV 0)],[(0,.mix 13 [[iV 0,.val (.slice none 0 0),.val (.slice none 0 0),.val (.slice none 0 0),.val (.slice none 0 0),iV 0,.val (.slice none 0 0),.val (.slice none 0 0),.val (.slice none 0 0),.val (.slice none 0 0),.val (.slice none 0 0),.val (.slice none 0 0),.val (.slice none 0 0)]]),(1,.mix 13 [[iV v1.n,.own 2 0 v1.fr.length,.own 3 0 v1.to.length,.own 4 0 v1.id.length,.own 5 0 v1.cs.length,iV v2.n,.own 6 0 v2.fr.length,.own 7 0 v2.to.length,.own 8 0 v2.id.length,.own 9 0 v2.cs.length,.own 10 0 s24.1.length,.val (.slice none 0 0),.val (.slice none 0 0)]]),(2,rI v1.fr),(3,rI v1.to),(4,rI v1.id),(5,.row 1 (Ls v1.cs)),(6,rI v2.fr),(7,rI v2.to),(8,rI v2.id),(9,.row 1 (Ls v2.cs)),(10,.row 1 (Ls s24.1)),(11,rI (List.replicate 0 0))],12⟩) (Qp [(0,0),(1,1),(2,2),(3,3),(4,4),(5,5),(6,6),(7,7),(8,8),(9,9),(10,10),(11,11)]) ?_;replace h:=bind_some h;obtain ⟨e27,h,h27⟩:=h;refine Qj (fun b27:List Int=>⟨[(0,.rptr (Cat.cells true c_)),(1,.rptr (Cat.cells true d_)),(2,.fn 79 [.rptr (Prf.cells true size_0),.rptr (Fn.cells true size_1),.rptr (Fn.cells true size_2)]),(3,.fn 80 [.rptr (Prf.cells true before_0),.rptr (Fn.cells true before_1),.rptr (Fn.cells true before_2)]),(4,.fn 81 [.rptr (Prf.cells true behind_0),.rptr (Fn.cells true behind_1),.rptr (Fn.cells true behind_2)]),(10,.adr 0 0 0),(12,.adr 1 0 0),(13,iV s24.2),(14,.own 11 0 b27.length)],[(0,.mix 13 [[iV 0,.val (.slice none 0 0),.val (.slice none 0 0),.val (.slice none 0 0),.val (.slice none 0 0),iV 0,.val (.slice none 0 0),.val (.slice none 0 0),.val (.slice none 0 0),.val (.slice none 0 0),.val (.slice none 0 0),.val (.slice none 0 0),.val (.slice none 0 0)]]),(1,.mix 13 [[iV v1.n,.own 2 0 v1.fr.length,.own 3 0 v1.to.length,.own 4 0 v1.id.length,.own 5 0 v1.cs.length,iV v2.n,.own 6 0 v2.fr.length,.own 7 0 v2.to.length,.own 8 0 v2.id.length,.own 9 0 v2.cs.length,.own 10 0 s24.1.length,.val (.slice none 0 0),.val (.slice none 0 0)]]),(2,rI v1.fr),(3,rI v1.to),(4,rI v1.id),(5,.row 1 (Ls v1.cs)),(6,rI v2.fr),(7,rI v2.to),(8,rI v2.id),(9,.row 1 (Ls v2.cs)),(10,.row 1 (Ls s24.1)),(11,rI b27)],12⟩) (fun b27=>Sum.inl b27=e27) ?_ ?_
   ·refine Qa ?_;refine Qr h (fun s35:List Int × Int=>⟨[(0,.rptr (Cat.cells true c_)),(1,.rptr (Cat.cells true d_)),(2,.fn 79 [.rptr (Prf.cells true size_0),.rptr (Fn.cells true size_1),.rptr (Fn.cells true size_2)]),(3,.fn 80 [.rptr (Prf.cells true before_0),.rptr (Fn.cells true before_1),.rptr (Fn.cells true before_2)]),(4,.fn 81 [.rptr (Prf.cells true behind_0),.rptr (Fn.cells true behind_1),.rptr (Fn.cells true behind_2)]),(10,.adr 0 0 0),(12,.adr 1 0 0),(13,iV s24.2),(14,.own 11 0 s35.1.length),(15,iV s35.2)],[(0,.mix 13 [[iV 0,.val (.slice none 0 0),.val (.slice none 0 0),.val (.slice none 0 0),.val (.slice none 0 0),iV 0,.val (.slice none 0 0),.val (.slice none 0 0),.val (.slice none 0 0),.val (.slice none 0 0),.val (.slice none 0 0),.val (.slice none 0 0),.val (.slice none 0 0)]]),(1,.mix 13 [[iV v1.n,.own 2 0 v1.fr.length,.own 3 0 v1.to.length,.own 4 0 v1.id.length,.own 5 0 v1.cs.length,iV v2.n,.own 6 0 v2.fr.length,.own 7 0 v2.to.length,.own 8 0 v2.id.length,.own 9 0 v2.cs.length,.own 10 0 s24.1.length,.val (.slice none 0 0),.val (.slice none 0 0)]]),(2,rI v1.fr),(3,rI v1.to),(4,rI v1.id),(5,.row 1 (Ls v1.cs)),(6,rI v2.fr),(7,rI v2.to),(8,rI v2.id),(9,.row 1 (Ls v2.cs)),(10,.row 1 (Ls s24.1)),(11,rI s35.1)],12⟩) (Qp [(0,0),(1,1),(2,2),(3,3),(4,4),(5,5),(6,6),(7,7),(8,8),(9,9),(10,10),(11,11)]) ?_;clear h;intro k35 s35 c35 h hk35;refine Q5 ?_;refine Q5 ?_;refine runQ hN fun K hK=>?_;simp [-Q0,-Q6,-Q1,-Q7,-Q2];(repeat refine sdQ ?_);refine hK _ ?_;clear hK K;refine tn ?_;refine Q9 (st':=⟨[(0,.rptr (Cat.cells true c_)),(1,.rptr (Cat.cells true d_)),(2,.fn 79 [.rptr (Prf.cells true size_0),.rptr (Fn.cells true size_1),.rptr (Fn.cells true size_2)]),(3,.fn 80 [.rptr (Prf.cells true before_0),.rptr (Fn.cells true before_1),.rptr (Fn.cells true before_2)]),(4,.fn 81 [.rptr (Prf.cells true behind_0),.rptr (Fn.cells true behind_1),.rptr (Fn.cells true behind_2)]),(10,.adr 0 0 0),(12,.adr 1 0 0),(13,iV s24.2),(14,.own 11 0 s35.1.length),(15,iV s35.2),(45,.val (.bool (decide (s35.2<d_.n))))],[(0,.mix 13 [[iV 0,.val (.slice none 0 0),.val (.slice none 0 0),.val (.slice none 0 0),.val (.slice none 0 0),iV 0,.val (.slice none 0 0),.val (.slice none 0 0),.val (.slice none 0 0),.val (.slice none 0 0),.val (.slice none 0 0),.val (.slice none 0 0),.val (.slice none 0 0)]]),(1,.mix 13 [[iV v1.n,.own 2 0 v1.fr.length,.own 3 0 v1.to.length,.own 4 0 v1.id.length,.own 5 0 v1.cs.length,iV v2.n,.own 6 0 v2.fr.length,.own 7 0 v2.to.length,.own 8 0 v2.id.length,.own 9 0 v2.cs.length,.own 10 0 s24.1.length,.val (.slice none 0 0),.val (.slice none 0 0)]]),(2,rI v1.fr),(3,rI v1.to),(4,rI v1.id),(5,.row 1 (Ls v1.cs)),(6,rI v2.fr),(7,rI v2.to),(8,rI v2.id),(9,.row 1 (Ls v2.cs)),(10,.row 1 (Ls s24.1)),(11,rI s35.1)],12⟩) (Qp [(0,0),(1,1),(2,2),(3,3),(4,4),(5,5),(6,6),(7,7),(8,8),(9,9),(10,10),(11,11)]) ?_;refine Qc rfl (fun g=>?_) fun g=>?_
    ·have g36:s35.2<d_.n:=gQ;clear g;replace h:=if_l g36 h;refine Qd ?_;refine tn ?_;refine Q5 ?_;refine Qa ?_;refine Q5 ?_;refine Q7Q [] mo (by rw [hN];decide) fun K hK=>?_;replace h:=Q4 h;obtain ⟨a37,h⟩:=h;simp [-Q0,-Q6,-Q1,-Q7,-Q2,a37];(repeat with_reducible refine sdQ ?_);replace h:=bind_some h;obtain ⟨v38,hv38,h⟩:=h;refine Q3s (fz:=[]) (Q1u _ _ _ _ _ v38 hv38) (.cons .val (.cons .val (.cons .rptr (.cons .rptr (.cons .rptr .nil))))) ?_;replace h:=Q4 h;obtain ⟨a39,h⟩:=h;(try simp only [List.length_append,List.length_cons,List.length_nil] at a39);simp [-Q0,-Q6,-Q1,-Q7,-Q2,unk,unA,unE,unT,unC,flat,a39];(repeat refine sdQ ?_);refine hK _ ?_;clear hK K;refine tn ?_;refine Q9 (st':=⟨[(0,.rptr (Cat.cells true c_)),(1,.rptr (Cat.cells true d_)),(2,.fn 79 [.rptr (Prf.cells true size_0),.rptr (Fn.cells true size_1),.rptr (Fn.cells true size_2)]),(3,.fn 80 [.rptr (Prf.cells true before_0),.rptr (Fn.cells true before_1),.rptr (Fn.cells true before_2)]),(4,.fn 81 [.rptr (Prf.cells true behind_0),.rptr (Fn.cells true behind_1),.rptr (Fn.cells true behind_2)]),(10,.adr 0 0 0),(12,.adr 1 0 0),(13,iV s24.2),(14,.own 11 0 (((s35.1.take s35.2.toNat)++[v38]).length)),(15,iV s35.2)],[(0,.mix 13 [[iV 0,.val (.slice none 0 0),.val (.slice none 0 0),.val (.slice none 0 0),.val (.slice none 0 0),iV 0,.val (.slice none 0 0),.val (.slice none 0 0),.val (.slice none 0 0),.val (.slice none 0 0),.val (.slice none 0 0),.val (.slice none 0 0),.val (.slice none 0 0)]]),(1,.mix 13 [[iV v1.n,.own 2 0 v1.fr.length,.own 3 0 v1.to.length,.own 4 0 v1.id.length,.own 5 0 v1.cs.length,iV v2.n,.own 6 0 v2.fr.length,.own 7 0 v2.to.length,.own 8 0 v2.id.length,.own 9 0 v2.cs.length,.own 10 0 s24.1.length,.val (.slice none 0 0),.val (.slice none 0 0)]]),(2,rI v1.fr),(3,rI v1.to),(4,rI v1.id),(5,.row 1 (Ls v1.cs)),(6,rI v2.fr),(7,rI v2.to),(8,rI v2.id),(9,.row 1 (Ls v2.cs)),(10,.row 1 (Ls s24.1)),(11,rI ((s35.1.take s35.2.toNat)++[v38]))],12⟩) (Qp [(0,0),(1,1),(2,2),(3,3),(4,4),(5,5),(6,6),(7,7),(8,8),(9,9),(10,10),(14,11)]) ?_;refine Q5 ?_;refine runQ hN fun K hK=>?_;replace h:=Q4 h;obtain ⟨a40,h⟩:=h;simp [-Q0,-Q6,-Q1,-Q7,-Q2,at_I a40];(repeat refine sdQ ?_);refine hK _ ?_;clear hK K;refine tn ?_
     refine Q9 (st':=⟨[(0,.rptr (Cat.cells true c_)),(1,.rptr (Cat.cells true d_)),(2,.fn 79 [.rptr (Prf.cells true size_0),.rptr (Fn.cells true size_1),.rptr (Fn.cells true size_2)]),(3,.fn 80 [.rptr (Prf.cells true before_0),.rptr (Fn.cells true before_1),.rptr (Fn.cells true before_2)]),(4,.fn 81 [.rptr (Prf.cells true behind_0),.rptr (Fn.cells true behind_1),.rptr (Fn.cells true behind_2)]),(10,.adr 0 0 0),(12,.adr 1 0 0),(13,iV s24.2),(14,.own 11 0 (((s35.1.take s35.2.toNat)++[v38]).length)),(15,iV s35.2),(62,.val (.bool (decide ((ix ((s35.1.take s35.2.toNat)++[v38]) s35.2) > 64))))],[(0,.mix 13 [[iV 0,.val (.slice none 0 0),.val (.slice none 0 0),.val (.slice none 0 0),.val (.slice none 0 0),iV 0,.val (.slice none 0 0),.val (.slice none 0 0),.val (.slice none 0 0),.val (.slice none 0 0),.val (.slice none 0 0),.val (.slice none 0 0),.val (.slice none 0 0)]]),(1,.mix 13 [[iV v1.n,.own 2 0 v1.fr.length,.own 3 0 v1.to.length,.own 4 0 v1.id.length,.own 5 0 v1.cs.length,iV v2.n,.own 6 0 v2.fr.length,.own 7 0 v2.to.length,.own 8 0 v2.id.length,.own 9 0 v2.cs.length,.own 10 0 s24.1.length,.val (.slice none 0 0),.val (.slice none 0 0)]]),(2,rI v1.fr),(3,rI v1.to),(4,rI v1.id),(5,.row 1 (Ls v1.cs)),(6,rI v2.fr),(7,rI v2.to),(8,rI v2.id),(9,.row 1 (Ls v2.cs)),(10,.row 1 (Ls s24.1)),(11,rI ((s35.1.take s35.2.toNat)++[v38]))],12⟩) (Qp [(0,0),(1,1),(2,2),(3,3),(4,4),(5,5),(6,6),(7,7),(8,8),(9,9),(10,10),(11,11)]) ?_;refine Qc rfl (fun g=>?_) fun g=>?_
     ·have g41:(ix ((s35.1.take s35.2.toNat)++[v38]) s35.2) > 64:=gQ;clear g;replace h:=if_l g41 h;refine Q5 ?_;refine runQ hN fun K hK=>?_;simp [-Q0,-Q6,-Q1,-Q7,-Q2];(repeat refine sdQ ?_);refine hK _ ?_;clear hK K;refine tn ?_;refine Q9 (st':=⟨[(10,.adr 0 0 0),(11,.val (.bool false))],[(0,.mix 13 [[iV 0,.val (.slice none 0 0),.val (.slice none 0 0),.val (.slice none 0 0),.val (.slice none 0 0),iV 0,.val (.slice none 0 0),.val (.slice none 0 0),.val (.slice none 0 0),.val (.slice none 0 0),.val (.slice none 0 0),.val (.slice none 0 0),.val (.slice none 0 0)]])],1⟩) (Qp [(0,0)]) ?_;refine Qh ?_;refine br ?_;refine tr ?_;refine lr ?_;refine br ?_;refine tr ?_;refine br ?_;refine tr ?_;refine lr ?_;refine br ?_;refine tr ?_;cases h;have q:_=e27:=hk35;have h:=h27;rw [← q] at h;clear q;(try dsimp only at h);cases h;have q:_=e3:=hk24;have h:=h3;rw [← q] at h;clear q;(try dsimp only at h);have hr:=Option.some.inj h;rw [← hr];refine ⟨_,(.cell Q53 rfl rfl rfl (by simp) (by simp) (.tmp .nil)),?_⟩;refine ⟨(.agg rfl (.one rfl rfl .nil)),[iV 0,.val (.slice none 0 0),.val (.slice none 0 0),.val (.slice none 0 0),.val (.slice none 0 0),iV 0,.val (.slice none 0 0),.val (.slice none 0 0),.val (.slice none 0 0),.val (.slice none 0 0),.val (.slice none 0 0),.val (.slice none 0 0),.val (.slice none 0 0),.val (.bool false)],[],by simp [Cat.cells,Fn.cells,Prf.cells,UA,U1,IA,I1,LA,L1,BA,B1,EA,E1,E2,eB,eI,eL],by simp,(.cons .refl (.cons .nil (.cons .nil (.cons .nil (.cons .nil (.cons .refl (.cons .nil (.cons .nil (.cons .nil (.cons .nil (.cons .nil (.cons .nil (.cons .nil (.cons .refl .nil))))))))))))))⟩
     have g41:¬ ((ix ((s35.1.take s35.2.toNat)++[v38]) s35.2) > 64):=gQ;clear g;replace h:=if_r g41 h;refine Qd ?_;refine bn ?_;refine tn ?_;refine runQ hN fun K hK=>?_;replace h:=Q4 h;obtain ⟨a42,h⟩:=h;simp [-Q0,-Q6,-Q1,-Q7,-Q2,Qo a42];(repeat refine sdQ ?_);refine hK _ ?_;clear hK K;cases h;exact rn (s':=((s35.1.take s35.2.toNat)++[v38],s35.2+1)) hk35 (Qp [(0,0),(1,1),(2,2),(3,3),(4,4),(5,5),(6,6),(7,7),(8,8),(9,9),(10,10),(11,11)])
    have g36:¬ (s35.2<d_.n):=gQ;clear g;replace h:=if_r g36 h;refine Qm ?_;refine tx ?_;refine lx ?_;refine bh ?_;cases h;exact jn (b:=s35.1) hk35 (Qp [(0,0),(1,1),(2,2),(3,3),(4,4),(5,5),(6,6),(7,7),(8,8),(9,9),(10,10),(11,11)])
   intro b27 hb27;have h:=h27;(try rw [← hb27] at h);clear h27;(try dsimp only at h);refine runQ hN fun K hK=>?_;replace h:=Q4 h;obtain ⟨a43,h⟩:=h;(try simp only [List.length_append,List.length_cons,List.length_nil] at a43);simp [-Q0,-Q6,-Q1,-Q7,-Q2,a43];(repeat refine sdQ ?_);refine hK _ ?_;clear hK K;refine bn ?_;refine tn ?_;refine Q9 (st':=⟨[(0,.rptr (Cat.cells true c_)),(1,.rptr (Cat.cells true d_)),(2,.fn 79 [.rptr (Prf.cells true size_0),.rptr (Fn.cells true size_1),.rptr (Fn.cells true size_2)]),(3,.fn 80 [.rptr (Prf.cells true before_0),.rptr (Fn.cells true before_1),.rptr (Fn.cells true before_2)]),(4,.fn 81 [.rptr (Prf.cells true behind_0),.rptr (Fn.cells true behind_1),.rptr (Fn.cells true behind_2)]),(10,.adr 0 0 0),(12,.adr 1 0 0),(13,iV s24.2)],[(0,.mix 13 [[iV 0,.val (.slice none 0 0),.val (.slice none 0 0),.val (.slice none 0 0),.val (.slice none 0 0),iV 0,.val (.slice none 0 0),.val (.slice none 0 0),.val (.slice none 0 0),.val (.slice none 0 0),.val (.slice none 0 0),.val (.slice none 0 0),.val (.slice none 0 0)]]),(1,.mix 13 [[iV v1.n,.own 2 0 v1.fr.length,.own 3 0 v1.to.length,.own 4 0 v1.id.length,.own 5 0 v1.cs.length,iV v2.n,.own 6 0 v2.fr.length,.own 7 0 v2.to.length,.own 8 0 v2.id.length,.own 9 0 v2.cs.length,.own 10 0 ((s24.1++[b27]).length),.val (.slice none 0 0),.val (.slice none 0 0)]]),(2,rI v1.fr),(3,rI v1.to),(4,rI v1.id),(5,.row 1 (Ls v1.cs)),(6,rI v2.fr),(7,rI v2.to),(8,rI v2.id),(9,.row 1 (Ls v2.cs)),(10,.row 1 (Ls (s24.1++[b27])))],11⟩) (Qp [(0,0),(1,1),(2,2),(3,3),(4,4),(5,5),(6,6),(7,7),(8,8),(9,9),(13,10)]) ?_;refine runQ hN fun K hK=>?_;replace h:=Q4 h;obtain ⟨a44,h⟩:=h;simp [-Q0,-Q6,-Q1,-Q7,-Q2,Qo a44];(repeat refine sdQ ?_);refine hK _ ?_;clear hK K;cases h;exact rn (s':=(s24.1++[b27],s24.2+1)) hk24 (Qp [(0,0),(1,1),(2,2),(3,3),(4,4),(5,5),(6,6),(7,7),(8,8),(9,9),(10,10)])
  have g25:¬ (s24.2<c_.n):=gQ;clear g;replace h:=if_r g25 h;refine Qm ?_;refine tx ?_;refine lx ?_;refine bh ?_;cases h;exact jn (b:=s24.1) hk24 (Qp [(0,0),(1,1),(2,2),(3,3),(4,4),(5,5),(6,6),(7,7),(8,8),(9,9),(10,10)])
 intro b3 hb3;have h:=h3;try rw [← hb3] at h
 clear h3;try dsimp only at h
 refine Q5 ?_;refine Q5 ?_;refine runQ hN fun K hK=>?_;simp [-Q0,-Q6,-Q1,-Q7,-Q2];repeat refine sdQ ?_
 refine hK _ ?_;clear hK K;refine tn ?_;refine Q9 (st':=⟨[(0,.rptr (Cat.cells true c_)),(1,.rptr (Cat.cells true d_)),(3,.fn 80 [.rptr (Prf.cells true before_0),.rptr (Fn.cells true before_1),.rptr (Fn.cells true before_2)]),(4,.fn 81 [.rptr (Prf.cells true behind_0),.rptr (Fn.cells true behind_1),.rptr (Fn.cells true behind_2)]),(10,.adr 0 0 0),(12,.adr 1 0 0),(74,iV (c_.fr.length:Int)),(75,iV 0)],[(0,.mix 13 [[iV 0,.val (.slice none 0 0),.val (.slice none 0 0),.val (.slice none 0 0),.val (.slice none 0 0),iV 0,.val (.slice none 0 0),.val (.slice none 0 0),.val (.slice none 0 0),.val (.slice none 0 0),.val (.slice none 0 0),.val (.slice none 0 0),.val (.slice none 0 0)]]),(1,.mix 13 [[iV v1.n,.own 2 0 v1.fr.length,.own 3 0 v1.to.length,.own 4 0 v1.id.length,.own 5 0 v1.cs.length,iV v2.n,.own 6 0 v2.fr.length,.own 7 0 v2.to.length,.own 8 0 v2.id.length,.own 9 0 v2.cs.length,.own 10 0 b3.length,.val (.slice none 0 0),.val (.slice none 0 0)]]),(2,rI v1.fr),(3,rI v1.to),(4,rI v1.id),(5,.row 1 (Ls v1.cs)),(6,rI v2.fr),(7,rI v2.to),(8,rI v2.id),(9,.row 1 (Ls v2.cs)),(10,.row 1 (Ls b3))],11⟩) (Qp [(0,0),(1,1),(2,2),(3,3),(4,4),(5,5),(6,6),(7,7),(8,8),(9,9),(10,10)]) ?_;replace h:=bind_some h;obtain ⟨e45,h,h45⟩:=h;refine Qj (fun b45:List (List (List Int))=>⟨[(0,.rptr (Cat.cells true c_)),(1,.rptr (Cat.cells true d_)),(4,.fn 81 [.rptr (Prf.cells true behind_0),.rptr (Fn.cells true behind_1),.rptr (Fn.cells true behind_2)]),(10,.adr 0 0 0),(12,.adr 1 0 0)],[(0,.mix 13 [[iV 0,.val (.slice none 0 0),.val (.slice none 0 0),.val (.slice none 0 0),.val (.slice none 0 0),iV 0,.val (.slice none 0 0),.val (.slice none 0 0),.val (.slice none 0 0),.val (.slice none 0 0),.val (.slice none 0 0),.val (.slice none 0 0),.val (.slice none 0 0)]]),(1,.mix 13 [[iV v1.n,.own 2 0 v1.fr.length,.own 3 0 v1.to.length,.own 4 0 v1.id.length,.own 5 0 v1.cs.length,iV v2.n,.own 6 0 v2.fr.length,.own 7 0 v2.to.length,.own 8 0 v2.id.length,.own 9 0 v2.cs.length,.own 10 0 b3.length,.own 11 0 b45.length,.val (.slice none 0 0)]]),(2,rI v1.fr),(3,rI v1.to),(4,rI v1.id),(5,.row 1 (Ls v1.cs)),(6,rI v2.fr),(7,rI v2.to),(8,rI v2.id),(9,.row 1 (Ls v2.cs)),(10,.row 1 (Ls b3)),(11,.row 1 (Es eL b45))],12⟩) (fun b45=>b45=e45) ?_ ?_
 ·refine Qa ?_;refine Qr h (fun s59:List (List (List Int)) × Int=>⟨[(0,.rptr (Cat.cells true c_)),(1,.rptr (Cat.cells true d_)),(3,.fn 80 [.rptr (Prf.cells true before_0),.rptr (Fn.cells true before_1),.rptr (Fn.cells true before_2)]),(4,.fn 81 [.rptr (Prf.cells true behind_0),.rptr (Fn.cells true behind_1),.rptr (Fn.cells true behind_2)]),(10,.adr 0 0 0),(12,.adr 1 0 0),(74,iV (c_.fr.length:Int)),(75,iV s59.2)],[(0,.mix 13 [[iV 0,.val (.slice none 0 0),.val (.slice none 0 0),.val (.slice none 0 0),.val (.slice none 0 0),iV 0,.val (.slice none 0 0),.val (.slice none 0 0),.val (.slice none 0 0),.val (.slice none 0 0),.val (.slice none 0 0),.val (.slice none 0 0),.val (.slice none 0 0)]]),(1,.mix 13 [[iV v1.n,.own 2 0 v1.fr.length,.own 3 0 v1.to.length,.own 4 0 v1.id.length,.own 5 0 v1.cs.length,iV v2.n,.own 6 0 v2.fr.length,.own 7 0 v2.to.length,.own 8 0 v2.id.length,.own 9 0 v2.cs.length,.own 10 0 b3.length,.own 11 0 s59.1.length,.val (.slice none 0 0)]]),(2,rI v1.fr),(3,rI v1.to),(4,rI v1.id),(5,.row 1 (Ls v1.cs)),(6,rI v2.fr),(7,rI v2.to),(8,rI v2.id),(9,.row 1 (Ls v2.cs)),(10,.row 1 (Ls b3)),(11,.row 1 (Es eL s59.1))],12⟩) (Q4Y ⟨[(0,.rptr (Cat.cells true c_)),(1,.rptr (Cat.cells true d_)),(3,.fn 80 [.rptr (Prf.cells true before_0),.rptr (Fn.cells true before_1),.rptr (Fn.cells true before_2)]),(4,.fn 81 [.rptr (Prf.cells true behind_0),.rptr (Fn.cells true behind_1),.rptr (Fn.cells true behind_2)]),(10,.adr 0 0 0),(12,.adr 1 0 0),(74,iV (c_.fr.length:Int)),(75,iV 0)],[(0,.mix 13 [[iV 0,.val (.slice none 0 0),.val (.slice none 0 0),.val (.slice none 0 0),.val (.slice none 0 0),iV 0,.val (.slice none 0 0),.val (.slice none 0 0),.val (.slice none 0 0),.val (.slice none 0 0),.val (.slice none 0 0),.val (.slice none 0 0),.val (.slice none 0 0)]]),(1,.mix 13 [[iV v1.n,.own 2 0 v1.fr.length,.own 3 0 v1.to.length,.own 4 0 v1.id.length,.own 5 0 v1.cs.length,iV v2.n,.own 6 0 v2.fr.length,.own 7 0 v2.to.length,.own 8 0 v2.id.length,.own 9 0 v2.cs.length,.own 10 0 b3.length,.own 11 0 0,.val (.slice none 0 0)]]),(2,rI v1.fr),(3,rI v1.to),(4,rI v1.id),(5,.row 1 (Ls v1.cs)),(6,rI v2.fr),(7,rI v2.to),(8,rI v2.id),(9,.row 1 (Ls v2.cs)),(10,.row 1 (Ls b3)),(11,.row 1 (Es eL []))],12⟩ (Wk.nils [(11,1)] (by simp) (by simp) (by simp [nlA]) (by simp [entN,nlL,nlA,Cat.cells,Fn.cells,Prf.cells,UA,U1,IA,I1,LA,L1,BA,B1,EA,E1,E2,eB,eI,eL]) (by simp)) (Qp [(0,0),(1,1),(2,2),(3,3),(4,4),(5,5),(6,6),(7,7),(8,8),(9,9),(10,10),(11,11)])) ?_;clear h;intro k59 s59 c59 h hk59;refine Q5 ?_;refine runQ hN fun K hK=>?_;simp [-Q0,-Q6,-Q1,-Q7,-Q2];repeat refine sdQ ?_
  refine hK _ ?_;clear hK K;refine tn ?_;refine Q9 (st':=⟨[(0,.rptr (Cat.cells true c_)),(1,.rptr (Cat.cells true d_)),(3,.fn 80 [.rptr (Prf.cells true before_0),.rptr (Fn.cells true before_1),.rptr (Fn.cells true before_2)]),(4,.fn 81 [.rptr (Prf.cells true behind_0),.rptr (Fn.cells true behind_1),.rptr (Fn.cells true behind_2)]),(10,.adr 0 0 0),(12,.adr 1 0 0),(74,iV (c_.fr.length:Int)),(75,iV s59.2),(76,.val (.bool (decide (s59.2<(c_.fr.length:Int)))))],[(0,.mix 13 [[iV 0,.val (.slice none 0 0),.val (.slice none 0 0),.val (.slice none 0 0),.val (.slice none 0 0),iV 0,.val (.slice none 0 0),.val (.slice none 0 0),.val (.slice none 0 0),.val (.slice none 0 0),.val (.slice none 0 0),.val (.slice none 0 0),.val (.slice none 0 0)]]),(1,.mix 13 [[iV v1.n,.own 2 0 v1.fr.length,.own 3 0 v1.to.length,.own 4 0 v1.id.length,.own 5 0 v1.cs.length,iV v2.n,.own 6 0 v2.fr.length,.own 7 0 v2.to.length,.own 8 0 v2.id.length,.own 9 0 v2.cs.length,.own 10 0 b3.length,.own 11 0 s59.1.length,.val (.slice none 0 0)]]),(2,rI v1.fr),(3,rI v1.to),(4,rI v1.id),(5,.row 1 (Ls v1.cs)),(6,rI v2.fr),(7,rI v2.to),(8,rI v2.id),(9,.row 1 (Ls v2.cs)),(10,.row 1 (Ls b3)),(11,.row 1 (Es eL s59.1))],12⟩) (Qp [(0,0),(1,1),(2,2),(3,3),(4,4),(5,5),(6,6),(7,7),(8,8),(9,9),(10,10),(11,11)]) ?_;refine Q5 ?_;refine Qc rfl (fun g=>?_) fun g=>?_
  ·have g60:s59.2<(c_.fr.length:Int):=gQ;clear g;replace h:=if_l g60 h;refine Qd ?_;refine tn ?_;refine Q5 ?_;refine Qa ?_;refine Q5 ?_;refine runQ hN fun K hK=>?_;simp [-Q0,-Q6,-Q1,-Q7,-Q2];(repeat refine sdQ ?_);refine hK _ ?_;clear hK K;refine tn ?_;refine Q9 (st':=⟨[(0,.rptr (Cat.cells true c_)),(1,.rptr (Cat.cells true d_)),(3,.fn 80 [.rptr (Prf.cells true before_0),.rptr (Fn.cells true before_1),.rptr (Fn.cells true before_2)]),(4,.fn 81 [.rptr (Prf.cells true behind_0),.rptr (Fn.cells true behind_1),.rptr (Fn.cells true behind_2)]),(10,.adr 0 0 0),(12,.adr 1 0 0),(16,iV s59.2),(74,iV (c_.fr.length:Int)),(75,iV s59.2)],[(0,.mix 13 [[iV 0,.val (.slice none 0 0),.val (.slice none 0 0),.val (.slice none 0 0),.val (.slice none 0 0),iV 0,.val (.slice none 0 0),.val (.slice none 0 0),.val (.slice none 0 0),.val (.slice none 0 0),.val (.slice none 0 0),.val (.slice none 0 0),.val (.slice none 0 0)]]),(1,.mix 13 [[iV v1.n,.own 2 0 v1.fr.length,.own 3 0 v1.to.length,.own 4 0 v1.id.length,.own 5 0 v1.cs.length,iV v2.n,.own 6 0 v2.fr.length,.own 7 0 v2.to.length,.own 8 0 v2.id.length,.own 9 0 v2.cs.length,.own 10 0 b3.length,.own 11 0 s59.1.length,.val (.slice none 0 0)]]),(2,rI v1.fr),(3,rI v1.to),(4,rI v1.id),(5,.row 1 (Ls v1.cs)),(6,rI v2.fr),(7,rI v2.to),(8,rI v2.id),(9,.row 1 (Ls v2.cs)),(10,.row 1 (Ls b3)),(11,.row 1 (Es eL s59.1))],12⟩) (Qp [(0,0),(1,1),(2,2),(3,3),(4,4),(5,5),(6,6),(7,7),(8,8),(9,9),(10,10),(11,11)]) ?_;refine Q5 ?_;refine runQ hN fun K hK=>?_;simp [-Q0,-Q6,-Q1,-Q7,-Q2];(repeat refine sdQ ?_);refine hK _ ?_;clear hK K;refine tn ?_;refine Q9 (st':=⟨[(0,.rptr (Cat.cells true c_)),(1,.rptr (Cat.cells true d_)),(3,.fn 80 [.rptr (Prf.cells true before_0),.rptr (Fn.cells true before_1),.rptr (Fn.cells true before_2)]),(4,.fn 81 [.rptr (Prf.cells true behind_0),.rptr (Fn.cells true behind_1),.rptr (Fn.cells true behind_2)]),(10,.adr 0 0 0),(12,.adr 1 0 0),(16,iV s59.2),(17,.own 12 0 0),(74,iV (c_.fr.length:Int)),(75,iV s59.2)],[(0,.mix 13 [[iV 0,.val (.slice none 0 0),.val (.slice none 0 0),.val (.slice none 0 0),.val (.slice none 0 0),iV 0,.val (.slice none 0 0),.val (.slice none 0 0),.val (.slice none 0 0),.val (.slice none 0 0),.val (.slice none 0 0),.val (.slice none 0 0),.val (.slice none 0 0)]]),(1,.mix 13 [[iV v1.n,.own 2 0 v1.fr.length,.own 3 0 v1.to.length,.own 4 0 v1.id.length,.own 5 0 v1.cs.length,iV v2.n,.own 6 0 v2.fr.length,.own 7 0 v2.to.length,.own 8 0 v2.id.length,.own 9 0 v2.cs.length,.own 10 0 b3.length,.own 11 0 s59.1.length,.val (.slice none 0 0)]]),(2,rI v1.fr),(3,rI v1.to),(4,rI v1.id),(5,.row 1 (Ls v1.cs)),(6,rI v2.fr),(7,rI v2.to),(8,rI v2.id),(9,.row 1 (Ls v2.cs)),(10,.row 1 (Ls b3)),(11,.row 1 (Es eL s59.1)),(12,.mix 1 [])],13⟩) (Qp [(0,0),(1,1),(2,2),(3,3),(4,4),(5,5),(6,6),(7,7),(8,8),(9,9),(10,10),(11,11),(12,12)]) ?_;refine Q5 ?_;refine Q5 ?_;refine runQ hN fun K hK=>?_;simp [-Q0,-Q6,-Q1,-Q7,-Q2]
   (repeat refine sdQ ?_);refine hK _ ?_;clear hK K;refine tn ?_;refine Q9 (st':=⟨[(0,.rptr (Cat.cells true c_)),(1,.rptr (Cat.cells true d_)),(3,.fn 80 [.rptr (Prf.cells true before_0),.rptr (Fn.cells true before_1),.rptr (Fn.cells true before_2)]),(4,.fn 81 [.rptr (Prf.cells true behind_0),.rptr (Fn.cells true behind_1),.rptr (Fn.cells true behind_2)]),(10,.adr 0 0 0),(12,.adr 1 0 0),(16,iV s59.2),(17,.own 12 0 0),(18,iV 0),(74,iV (c_.fr.length:Int)),(75,iV s59.2)],[(0,.mix 13 [[iV 0,.val (.slice none 0 0),.val (.slice none 0 0),.val (.slice none 0 0),.val (.slice none 0 0),iV 0,.val (.slice none 0 0),.val (.slice none 0 0),.val (.slice none 0 0),.val (.slice none 0 0),.val (.slice none 0 0),.val (.slice none 0 0),.val (.slice none 0 0)]]),(1,.mix 13 [[iV v1.n,.own 2 0 v1.fr.length,.own 3 0 v1.to.length,.own 4 0 v1.id.length,.own 5 0 v1.cs.length,iV v2.n,.own 6 0 v2.fr.length,.own 7 0 v2.to.length,.own 8 0 v2.id.length,.own 9 0 v2.cs.length,.own 10 0 b3.length,.own 11 0 s59.1.length,.val (.slice none 0 0)]]),(2,rI v1.fr),(3,rI v1.to),(4,rI v1.id),(5,.row 1 (Ls v1.cs)),(6,rI v2.fr),(7,rI v2.to),(8,rI v2.id),(9,.row 1 (Ls v2.cs)),(10,.row 1 (Ls b3)),(11,.row 1 (Es eL s59.1)),(12,.mix 1 [])],13⟩) (Qp [(0,0),(1,1),(2,2),(3,3),(4,4),(5,5),(6,6),(7,7),(8,8),(9,9),(10,10),(11,11),(12,12)]) ?_;replace h:=bind_some h;obtain ⟨e61,h,h61⟩:=h;refine Qj (fun b61:List (List Int)=>⟨[(0,.rptr (Cat.cells true c_)),(1,.rptr (Cat.cells true d_)),(3,.fn 80 [.rptr (Prf.cells true before_0),.rptr (Fn.cells true before_1),.rptr (Fn.cells true before_2)]),(4,.fn 81 [.rptr (Prf.cells true behind_0),.rptr (Fn.cells true behind_1),.rptr (Fn.cells true behind_2)]),(10,.adr 0 0 0),(12,.adr 1 0 0),(17,.own 12 0 b61.length),(74,iV (c_.fr.length:Int)),(75,iV s59.2)],[(0,.mix 13 [[iV 0,.val (.slice none 0 0),.val (.slice none 0 0),.val (.slice none 0 0),.val (.slice none 0 0),iV 0,.val (.slice none 0 0),.val (.slice none 0 0),.val (.slice none 0 0),.val (.slice none 0 0),.val (.slice none 0 0),.val (.slice none 0 0),.val (.slice none 0 0)]]),(1,.mix 13 [[iV v1.n,.own 2 0 v1.fr.length,.own 3 0 v1.to.length,.own 4 0 v1.id.length,.own 5 0 v1.cs.length,iV v2.n,.own 6 0 v2.fr.length,.own 7 0 v2.to.length,.own 8 0 v2.id.length,.own 9 0 v2.cs.length,.own 10 0 b3.length,.own 11 0 s59.1.length,.val (.slice none 0 0)]]),(2,rI v1.fr),(3,rI v1.to),(4,rI v1.id),(5,.row 1 (Ls v1.cs)),(6,rI v2.fr),(7,rI v2.to),(8,rI v2.id),(9,.row 1 (Ls v2.cs)),(10,.row 1 (Ls b3)),(11,.row 1 (Es eL s59.1)),(12,.row 1 (Ls b61))],13⟩) (fun b61=>b61=e61) ?_ ?_
   ·refine Qa ?_;refine Qr h (fun s66:List (List Int) × Int=>⟨[(0,.rptr (Cat.cells true c_)),(1,.rptr (Cat.cells true d_)),(3,.fn 80 [.rptr (Prf.cells true before_0),.rptr (Fn.cells true before_1),.rptr (Fn.cells true before_2)]),(4,.fn 81 [.rptr (Prf.cells true behind_0),.rptr (Fn.cells true behind_1),.rptr (Fn.cells true behind_2)]),(10,.adr 0 0 0),(12,.adr 1 0 0),(16,iV s59.2),(17,.own 12 0 s66.1.length),(18,iV s66.2),(74,iV (c_.fr.length:Int)),(75,iV s59.2)],[(0,.mix 13 [[iV 0,.val (.slice none 0 0),.val (.slice none 0 0),.val (.slice none 0 0),.val (.slice none 0 0),iV 0,.val (.slice none 0 0),.val (.slice none 0 0),.val (.slice none 0 0),.val (.slice none 0 0),.val (.slice none 0 0),.val (.slice none 0 0),.val (.slice none 0 0)]]),(1,.mix 13 [[iV v1.n,.own 2 0 v1.fr.length,.own 3 0 v1.to.length,.own 4 0 v1.id.length,.own 5 0 v1.cs.length,iV v2.n,.own 6 0 v2.fr.length,.own 7 0 v2.to.length,.own 8 0 v2.id.length,.own 9 0 v2.cs.length,.own 10 0 b3.length,.own 11 0 s59.1.length,.val (.slice none 0 0)]]),(2,rI v1.fr),(3,rI v1.to),(4,rI v1.id),(5,.row 1 (Ls v1.cs)),(6,rI v2.fr),(7,rI v2.to),(8,rI v2.id),(9,.row 1 (Ls v2.cs)),(10,.row 1 (Ls b3)),(11,.row 1 (Es eL s59.1)),(12,.row 1 (Ls s66.1))],13⟩) (Q4Y ⟨[(0,.rptr (Cat.cells true c_)),(1,.rptr (Cat.cells true d_)),(3,.fn 80 [.rptr (Prf.cells true before_0),.rptr (Fn.cells true before_1),.rptr (Fn.cells true before_2)]),(4,.fn 81 [.rptr (Prf.cells true behind_0),.rptr (Fn.cells true behind_1),.rptr (Fn.cells true behind_2)]),(10,.adr 0 0 0),(12,.adr 1 0 0),(16,iV s59.2),(17,.own 12 0 0),(18,iV 0),(74,iV (c_.fr.length:Int)),(75,iV s59.2)],[(0,.mix 13 [[iV 0,.val (.slice none 0 0),.val (.slice none 0 0),.val (.slice none 0 0),.val (.slice none 0 0),iV 0,.val (.slice none 0 0),.val (.slice none 0 0),.val (.slice none 0 0),.val (.slice none 0 0),.val (.slice none 0 0),.val (.slice none 0 0),.val (.slice none 0 0)]]),(1,.mix 13 [[iV v1.n,.own 2 0 v1.fr.length,.own 3 0 v1.to.length,.own 4 0 v1.id.length,.own 5 0 v1.cs.length,iV v2.n,.own 6 0 v2.fr.length,.own 7 0 v2.to.length,.own 8 0 v2.id.length,.own 9 0 v2.cs.length,.own 10 0 b3.length,.own 11 0 s59.1.length,.val (.slice none 0 0)]]),(2,rI v1.fr),(3,rI v1.to),(4,rI v1.id),(5,.row 1 (Ls v1.cs)),(6,rI v2.fr),(7,rI v2.to),(8,rI v2.id),(9,.row 1 (Ls v2.cs)),(10,.row 1 (Ls b3)),(11,.row 1 (Es eL s59.1)),(12,.row 1 (Ls []))],13⟩ (Wk.nils [] (by simp) (by simp) (by simp [nlA]) (by simp [entN,nlL,nlA,Cat.cells,Fn.cells,Prf.cells,UA,U1,IA,I1,LA,L1,BA,B1,EA,E1,E2,eB,eI,eL]) (by simp)) (Qp [(0,0),(1,1),(2,2),(3,3),(4,4),(5,5),(6,6),(7,7),(8,8),(9,9),(10,10),(11,11),(12,12)])) ?_;clear h;intro k66 s66 c66 h hk66;refine Q5 ?_;refine Q5 ?_;refine runQ hN fun K hK=>?_;simp [-Q0,-Q6,-Q1,-Q7,-Q2];(repeat refine sdQ ?_);refine hK _ ?_;clear hK K;refine tn ?_
    refine Q9 (st':=⟨[(0,.rptr (Cat.cells true c_)),(1,.rptr (Cat.cells true d_)),(3,.fn 80 [.rptr (Prf.cells true before_0),.rptr (Fn.cells true before_1),.rptr (Fn.cells true before_2)]),(4,.fn 81 [.rptr (Prf.cells true behind_0),.rptr (Fn.cells true behind_1),.rptr (Fn.cells true behind_2)]),(10,.adr 0 0 0),(12,.adr 1 0 0),(16,iV s59.2),(17,.own 12 0 s66.1.length),(18,iV s66.2),(74,iV (c_.fr.length:Int)),(75,iV s59.2),(84,.val (.bool (decide (s66.2<d_.n))))],[(0,.mix 13 [[iV 0,.val (.slice none 0 0),.val (.slice none 0 0),.val (.slice none 0 0),.val (.slice none 0 0),iV 0,.val (.slice none 0 0),.val (.slice none 0 0),.val (.slice none 0 0),.val (.slice none 0 0),.val (.slice none 0 0),.val (.slice none 0 0),.val (.slice none 0 0)]]),(1,.mix 13 [[iV v1.n,.own 2 0 v1.fr.length,.own 3 0 v1.to.length,.own 4 0 v1.id.length,.own 5 0 v1.cs.length,iV v2.n,.own 6 0 v2.fr.length,.own 7 0 v2.to.length,.own 8 0 v2.id.length,.own 9 0 v2.cs.length,.own 10 0 b3.length,.own 11 0 s59.1.length,.val (.slice none 0 0)]]),(2,rI v1.fr),(3,rI v1.to),(4,rI v1.id),(5,.row 1 (Ls v1.cs)),(6,rI v2.fr),(7,rI v2.to),(8,rI v2.id),(9,.row 1 (Ls v2.cs)),(10,.row 1 (Ls b3)),(11,.row 1 (Es eL s59.1)),(12,.row 1 (Ls s66.1))],13⟩) (Qp [(0,0),(1,1),(2,2),(3,3),(4,4),(5,5),(6,6),(7,7),(8,8),(9,9),(10,10),(11,11),(12,12)]) ?_;refine Qc rfl (fun g=>?_) fun g=>?_
    ·have g67:s66.2<d_.n:=gQ;clear g;replace h:=if_l g67 h;refine Qd ?_;refine tn ?_;refine Q5 ?_;refine Qa ?_;refine runQ hN fun K hK=>?_;simp [-Q0,-Q6,-Q1,-Q7,-Q2];(repeat with_reducible refine sdQ ?_);replace h:=bind_some h;obtain ⟨v68,hv68,h⟩:=h;refine Q3 (Q1v _ _ _ _ _ v68 hv68) (.cons .val (.cons .val (.cons .rptr (.cons .rptr (.cons .rptr .nil))))) ?_;replace h:=Q4 h;obtain ⟨a69,h⟩:=h;(try simp only [List.length_append,List.length_cons,List.length_nil] at a69);simp [-Q0,-Q6,-Q1,-Q7,-Q2,unk,unA,unE,unT,unC,flat,a69];(repeat refine sdQ ?_);refine hK _ ?_;clear hK K;refine bn ?_;refine tn ?_;refine Q9 (st':=⟨[(0,.rptr (Cat.cells true c_)),(1,.rptr (Cat.cells true d_)),(3,.fn 80 [.rptr (Prf.cells true before_0),.rptr (Fn.cells true before_1),.rptr (Fn.cells true before_2)]),(4,.fn 81 [.rptr (Prf.cells true behind_0),.rptr (Fn.cells true behind_1),.rptr (Fn.cells true behind_2)]),(10,.adr 0 0 0),(12,.adr 1 0 0),(16,iV s59.2),(17,.own 12 0 ((s66.1++[v68]).length)),(18,iV s66.2),(74,iV (c_.fr.length:Int)),(75,iV s59.2)],[(0,.mix 13 [[iV 0,.val (.slice none 0 0),.val (.slice none 0 0),.val (.slice none 0 0),.val (.slice none 0 0),iV 0,.val (.slice none 0 0),.val (.slice none 0 0),.val (.slice none 0 0),.val (.slice none 0 0),.val (.slice none 0 0),.val (.slice none 0 0),.val (.slice none 0 0)]]),(1,.mix 13 [[iV v1.n,.own 2 0 v1.fr.length,.own 3 0 v1.to.length,.own 4 0 v1.id.length,.own 5 0 v1.cs.length,iV v2.n,.own 6 0 v2.fr.length,.own 7 0 v2.to.length,.own 8 0 v2.id.length,.own 9 0 v2.cs.length,.own 10 0 b3.length,.own 11 0 s59.1.length,.val (.slice none 0 0)]]),(2,rI v1.fr),(3,rI v1.to),(4,rI v1.id),(5,.row 1 (Ls v1.cs)),(6,rI v2.fr),(7,rI v2.to),(8,rI v2.id),(9,.row 1 (Ls v2.cs)),(10,.row 1 (Ls b3)),(11,.row 1 (Es eL s59.1)),(12,.row 1 (Ls (s66.1++[v68])))],13⟩) (Qp [(0,0),(1,1),(2,2),(3,3),(4,4),(5,5),(6,6),(7,7),(8,8),(9,9),(10,10),(11,11),(15,12)]) ?_;refine runQ hN fun K hK=>?_;replace h:=Q4 h;obtain ⟨a70,h⟩:=h;simp [-Q0,-Q6,-Q1,-Q7,-Q2,Qo a70];(repeat refine sdQ ?_);refine hK _ ?_;clear hK K;cases h;exact rn (s':=(s66.1++[v68],s66.2+1)) hk66 (Qp [(0,0),(1,1),(2,2),(3,3),(4,4),(5,5),(6,6),(7,7),(8,8),(9,9),(10,10),(11,11),(12,12)])
    have g67:¬ (s66.2<d_.n):=gQ;clear g;replace h:=if_r g67 h;refine Qm ?_;refine tx ?_;refine lx ?_;refine bh ?_;cases h;exact jn (b:=s66.1) hk66 (Qp [(0,0),(1,1),(2,2),(3,3),(4,4),(5,5),(6,6),(7,7),(8,8),(9,9),(10,10),(11,11),(12,12)])
   intro b61 hb61;have h:=h61;(try rw [← hb61] at h);clear h61;(try dsimp only at h);refine runQ hN fun K hK=>?_;replace h:=Q4 h;obtain ⟨a71,h⟩:=h;(try simp only [List.length_append,List.length_cons,List.length_nil] at a71);simp [-Q0,-Q6,-Q1,-Q7,-Q2,a71];(repeat refine sdQ ?_);refine hK _ ?_;clear hK K;refine bn ?_;refine tn ?_;refine Q9 (st':=⟨[(0,.rptr (Cat.cells true c_)),(1,.rptr (Cat.cells true d_)),(3,.fn 80 [.rptr (Prf.cells true before_0),.rptr (Fn.cells true before_1),.rptr (Fn.cells true before_2)]),(4,.fn 81 [.rptr (Prf.cells true behind_0),.rptr (Fn.cells true behind_1),.rptr (Fn.cells true behind_2)]),(10,.adr 0 0 0),(12,.adr 1 0 0),(74,iV (c_.fr.length:Int)),(75,iV s59.2)],[(0,.mix 13 [[iV 0,.val (.slice none 0 0),.val (.slice none 0 0),.val (.slice none 0 0),.val (.slice none 0 0),iV 0,.val (.slice none 0 0),.val (.slice none 0 0),.val (.slice none 0 0),.val (.slice none 0 0),.val (.slice none 0 0),.val (.slice none 0 0),.val (.slice none 0 0)]]),(1,.mix 13 [[iV v1.n,.own 2 0 v1.fr.length,.own 3 0 v1.to.length,.own 4 0 v1.id.length,.own 5 0 v1.cs.length,iV v2.n,.own 6 0 v2.fr.length,.own 7 0 v2.to.length,.own 8 0 v2.id.length,.own 9 0 v2.cs.length,.own 10 0 b3.length,.own 11 0 ((s59.1++[b61]).length),.val (.slice none 0 0)]]),(2,rI v1.fr),(3,rI v1.to),(4,rI v1.id),(5,.row 1 (Ls v1.cs)),(6,rI v2.fr),(7,rI v2.to),(8,rI v2.id),(9,.row 1 (Ls v2.cs)),(10,.row 1 (Ls b3)),(11,.row 1 (Es eL (s59.1++[b61])))],12⟩) (Qp [(0,0),(1,1),(2,2),(3,3),(4,4),(5,5),(6,6),(7,7),(8,8),(9,9),(10,10),(14,11)]) ?_;refine runQ hN fun K hK=>?_;replace h:=Q4 h;obtain ⟨a72,h⟩:=h;simp [-Q0,-Q6,-Q1,-Q7,-Q2,Qo a72];(repeat refine sdQ ?_);refine hK _ ?_;clear hK K;cases h;exact rn (s':=(s59.1++[b61],s59.2+1)) hk59 (Qp [(0,0),(1,1),(2,2),(3,3),(4,4),(5,5),(6,6),(7,7),(8,8),(9,9),(10,10),(11,11)])
  have g60:¬ (s59.2<(c_.fr.length:Int)):=gQ;clear g;replace h:=if_r g60 h;refine Qm ?_;refine tx ?_;refine lx ?_;refine bh ?_;cases h;exact jn (b:=s59.1) hk59 (Qp [(0,0),(1,1),(2,2),(3,3),(4,4),(5,5),(6,6),(7,7),(8,8),(9,9),(10,10),(11,11)])
 intro b45 hb45;have h:=h45;try rw [← hb45] at h
 clear h45;try dsimp only at h
 refine Q5 ?_;refine Q5 ?_;refine runQ hN fun K hK=>?_;simp [-Q0,-Q6,-Q1,-Q7,-Q2];repeat refine sdQ ?_
 refine hK _ ?_;clear hK K;refine tn ?_;refine Q9 (st':=⟨[(0,.rptr (Cat.cells true c_)),(4,.fn 81 [.rptr (Prf.cells true behind_0),.rptr (Fn.cells true behind_1),.rptr (Fn.cells true behind_2)]),(10,.adr 0 0 0),(12,.adr 1 0 0),(105,iV (d_.fr.length:Int)),(106,iV 0)],[(0,.mix 13 [[iV 0,.val (.slice none 0 0),.val (.slice none 0 0),.val (.slice none 0 0),.val (.slice none 0 0),iV 0,.val (.slice none 0 0),.val (.slice none 0 0),.val (.slice none 0 0),.val (.slice none 0 0),.val (.slice none 0 0),.val (.slice none 0 0),.val (.slice none 0 0)]]),(1,.mix 13 [[iV v1.n,.own 2 0 v1.fr.length,.own 3 0 v1.to.length,.own 4 0 v1.id.length,.own 5 0 v1.cs.length,iV v2.n,.own 6 0 v2.fr.length,.own 7 0 v2.to.length,.own 8 0 v2.id.length,.own 9 0 v2.cs.length,.own 10 0 b3.length,.own 11 0 b45.length,.val (.slice none 0 0)]]),(2,rI v1.fr),(3,rI v1.to),(4,rI v1.id),(5,.row 1 (Ls v1.cs)),(6,rI v2.fr),(7,rI v2.to),(8,rI v2.id),(9,.row 1 (Ls v2.cs)),(10,.row 1 (Ls b3)),(11,.row 1 (Es eL b45))],12⟩) (Qp [(0,0),(1,1),(2,2),(3,3),(4,4),(5,5),(6,6),(7,7),(8,8),(9,9),(10,10),(11,11)]) ?_;replace h:=bind_some h;obtain ⟨e73,h,h73⟩:=h;refine Qj (fun b73:List (List (List Int))=>⟨[(10,.adr 0 0 0),(12,.adr 1 0 0)],[(0,.mix 13 [[iV 0,.val (.slice none 0 0),.val (.slice none 0 0),.val (.slice none 0 0),.val (.slice none 0 0),iV 0,.val (.slice none 0 0),.val (.slice none 0 0),.val (.slice none 0 0),.val (.slice none 0 0),.val (.slice none 0 0),.val (.slice none 0 0),.val (.slice none 0 0)]]),(1,.mix 13 [[iV v1.n,.own 2 0 v1.fr.length,.own 3 0 v1.to.length,.own 4 0 v1.id.length,.own 5 0 v1.cs.length,iV v2.n,.own 6 0 v2.fr.length,.own 7 0 v2.to.length,.own 8 0 v2.id.length,.own 9 0 v2.cs.length,.own 10 0 b3.length,.own 11 0 b45.length,.own 12 0 b73.length]]),(2,rI v1.fr),(3,rI v1.to),(4,rI v1.id),(5,.row 1 (Ls v1.cs)),(6,rI v2.fr),(7,rI v2.to),(8,rI v2.id),(9,.row 1 (Ls v2.cs)),(10,.row 1 (Ls b3)),(11,.row 1 (Es eL b45)),(12,.row 1 (Es eL b73))],13⟩) (fun b73=>b73=e73) ?_ ?_
 ·refine Qa ?_;refine Qr h (fun s87:List (List (List Int)) × Int=>⟨[(0,.rptr (Cat.cells true c_)),(4,.fn 81 [.rptr (Prf.cells true behind_0),.rptr (Fn.cells true behind_1),.rptr (Fn.cells true behind_2)]),(10,.adr 0 0 0),(12,.adr 1 0 0),(105,iV (d_.fr.length:Int)),(106,iV s87.2)],[(0,.mix 13 [[iV 0,.val (.slice none 0 0),.val (.slice none 0 0),.val (.slice none 0 0),.val (.slice none 0 0),iV 0,.val (.slice none 0 0),.val (.slice none 0 0),.val (.slice none 0 0),.val (.slice none 0 0),.val (.slice none 0 0),.val (.slice none 0 0),.val (.slice none 0 0)]]),(1,.mix 13 [[iV v1.n,.own 2 0 v1.fr.length,.own 3 0 v1.to.length,.own 4 0 v1.id.length,.own 5 0 v1.cs.length,iV v2.n,.own 6 0 v2.fr.length,.own 7 0 v2.to.length,.own 8 0 v2.id.length,.own 9 0 v2.cs.length,.own 10 0 b3.length,.own 11 0 b45.length,.own 12 0 s87.1.length]]),(2,rI v1.fr),(3,rI v1.to),(4,rI v1.id),(5,.row 1 (Ls v1.cs)),(6,rI v2.fr),(7,rI v2.to),(8,rI v2.id),(9,.row 1 (Ls v2.cs)),(10,.row 1 (Ls b3)),(11,.row 1 (Es eL b45)),(12,.row 1 (Es eL s87.1))],13⟩) (Q4Y ⟨[(0,.rptr (Cat.cells true c_)),(4,.fn 81 [.rptr (Prf.cells true behind_0),.rptr (Fn.cells true behind_1),.rptr (Fn.cells true behind_2)]),(10,.adr 0 0 0),(12,.adr 1 0 0),(105,iV (d_.fr.length:Int)),(106,iV 0)],[(0,.mix 13 [[iV 0,.val (.slice none 0 0),.val (.slice none 0 0),.val (.slice none 0 0),.val (.slice none 0 0),iV 0,.val (.slice none 0 0),.val (.slice none 0 0),.val (.slice none 0 0),.val (.slice none 0 0),.val (.slice none 0 0),.val (.slice none 0 0),.val (.slice none 0 0)]]),(1,.mix 13 [[iV v1.n,.own 2 0 v1.fr.length,.own 3 0 v1.to.length,.own 4 0 v1.id.length,.own 5 0 v1.cs.length,iV v2.n,.own 6 0 v2.fr.length,.own 7 0 v2.to.length,.own 8 0 v2.id.length,.own 9 0 v2.cs.length,.own 10 0 b3.length,.own 11 0 b45.length,.own 12 0 0]]),(2,rI v1.fr),(3,rI v1.to),(4,rI v1.id),(5,.row 1 (Ls v1.cs)),(6,rI v2.fr),(7,rI v2.to),(8,rI v2.id),(9,.row 1 (Ls v2.cs)),(10,.row 1 (Ls b3)),(11,.row 1 (Es eL b45)),(12,.row 1 (Es eL []))],13⟩ (Wk.nils [(12,1)] (by simp) (by simp) (by simp [nlA]) (by simp [entN,nlL,nlA,Cat.cells,Fn.cells,Prf.cells,UA,U1,IA,I1,LA,L1,BA,B1,EA,E1,E2,eB,eI,eL]) (by simp)) (Qp [(0,0),(1,1),(2,2),(3,3),(4,4),(5,5),(6,6),(7,7),(8,8),(9,9),(10,10),(11,11),(12,12)])) ?_;clear h;intro k87 s87 c87 h hk87;refine Q5 ?_;refine runQ hN fun K hK=>?_;simp [-Q0,-Q6,-Q1,-Q7,-Q2];repeat refine sdQ ?_
  refine hK _ ?_;clear hK K;refine tn ?_;refine Q9 (st':=⟨[(0,.rptr (Cat.cells true c_)),(4,.fn 81 [.rptr (Prf.cells true behind_0),.rptr (Fn.cells true behind_1),.rptr (Fn.cells true behind_2)]),(10,.adr 0 0 0),(12,.adr 1 0 0),(105,iV (d_.fr.length:Int)),(106,iV s87.2),(107,.val (.bool (decide (s87.2<(d_.fr.length:Int)))))],[(0,.mix 13 [[iV 0,.val (.slice none 0 0),.val (.slice none 0 0),.val (.slice none 0 0),.val (.slice none 0 0),iV 0,.val (.slice none 0 0),.val (.slice none 0 0),.val (.slice none 0 0),.val (.slice none 0 0),.val (.slice none 0 0),.val (.slice none 0 0),.val (.slice none 0 0)]]),(1,.mix 13 [[iV v1.n,.own 2 0 v1.fr.length,.own 3 0 v1.to.length,.own 4 0 v1.id.length,.own 5 0 v1.cs.length,iV v2.n,.own 6 0 v2.fr.length,.own 7 0 v2.to.length,.own 8 0 v2.id.length,.own 9 0 v2.cs.length,.own 10 0 b3.length,.own 11 0 b45.length,.own 12 0 s87.1.length]]),(2,rI v1.fr),(3,rI v1.to),(4,rI v1.id),(5,.row 1 (Ls v1.cs)),(6,rI v2.fr),(7,rI v2.to),(8,rI v2.id),(9,.row 1 (Ls v2.cs)),(10,.row 1 (Ls b3)),(11,.row 1 (Es eL b45)),(12,.row 1 (Es eL s87.1))],13⟩) (Qp [(0,0),(1,1),(2,2),(3,3),(4,4),(5,5),(6,6),(7,7),(8,8),(9,9),(10,10),(11,11),(12,12)]) ?_;refine Q5 ?_;refine Qc rfl (fun g=>?_) fun g=>?_
  ·have g88:s87.2<(d_.fr.length:Int):=gQ;clear g;replace h:=if_l g88 h;refine Qd ?_;refine tn ?_;refine Q5 ?_;refine Qa ?_;refine Q5 ?_;refine runQ hN fun K hK=>?_;simp [-Q0,-Q6,-Q1,-Q7,-Q2];(repeat refine sdQ ?_);refine hK _ ?_;clear hK K;refine tn ?_;refine Q9 (st':=⟨[(0,.rptr (Cat.cells true c_)),(4,.fn 81 [.rptr (Prf.cells true behind_0),.rptr (Fn.cells true behind_1),.rptr (Fn.cells true behind_2)]),(10,.adr 0 0 0),(12,.adr 1 0 0),(19,iV s87.2),(105,iV (d_.fr.length:Int)),(106,iV s87.2)],[(0,.mix 13 [[iV 0,.val (.slice none 0 0),.val (.slice none 0 0),.val (.slice none 0 0),.val (.slice none 0 0),iV 0,.val (.slice none 0 0),.val (.slice none 0 0),.val (.slice none 0 0),.val (.slice none 0 0),.val (.slice none 0 0),.val (.slice none 0 0),.val (.slice none 0 0)]]),(1,.mix 13 [[iV v1.n,.own 2 0 v1.fr.length,.own 3 0 v1.to.length,.own 4 0 v1.id.length,.own 5 0 v1.cs.length,iV v2.n,.own 6 0 v2.fr.length,.own 7 0 v2.to.length,.own 8 0 v2.id.length,.own 9 0 v2.cs.length,.own 10 0 b3.length,.own 11 0 b45.length,.own 12 0 s87.1.length]]),(2,rI v1.fr),(3,rI v1.to),(4,rI v1.id),(5,.row 1 (Ls v1.cs)),(6,rI v2.fr),(7,rI v2.to),(8,rI v2.id),(9,.row 1 (Ls v2.cs)),(10,.row 1 (Ls b3)),(11,.row 1 (Es eL b45)),(12,.row 1 (Es eL s87.1))],13⟩) (Qp [(0,0),(1,1),(2,2),(3,3),(4,4),(5,5),(6,6),(7,7),(8,8),(9,9),(10,10),(11,11),(12,12)]) ?_;refine Q5 ?_;refine runQ hN fun K hK=>?_;simp [-Q0,-Q6,-Q1,-Q7,-Q2];(repeat refine sdQ ?_);refine hK _ ?_;clear hK K;refine tn ?_;refine Q9 (st':=⟨[(0,.rptr (Cat.cells true c_)),(4,.fn 81 [.rptr (Prf.cells true behind_0),.rptr (Fn.cells true behind_1),.rptr (Fn.cells true behind_2)]),(10,.adr 0 0 0),(12,.adr 1 0 0),(19,iV s87.2),(20,.own 13 0 0),(105,iV (d_.fr.length:Int)),(106,iV s87.2)],[(0,.mix 13 [[iV 0,.val (.slice none 0 0),.val (.slice none 0 0),.val (.slice none 0 0),.val (.slice none 0 0),iV 0,.val (.slice none 0 0),.val (.slice none 0 0),.val (.slice none 0 0),.val (.slice none 0 0),.val (.slice none 0 0),.val (.slice none 0 0),.val (.slice none 0 0)]]),(1,.mix 13 [[iV v1.n,.own 2 0 v1.fr.length,.own 3 0 v1.to.length,.own 4 0 v1.id.length,.own 5 0 v1.cs.length,iV v2.n,.own 6 0 v2.fr.length,.own 7 0 v2.to.length,.own 8 0 v2.id.length,.own 9 0 v2.cs.length,.own 10 0 b3.length,.own 11 0 b45.length,.own 12 0 s87.1.length]]),(2,rI v1.fr),(3,rI v1.to),(4,rI v1.id),(5,.row 1 (Ls v1.cs)),(6,rI v2.fr),(7,rI v2.to),(8,rI v2.id),(9,.row 1 (Ls v2.cs)),(10,.row 1 (Ls b3)),(11,.row 1 (Es eL b45)),(12,.row 1 (Es eL s87.1)),(13,.mix 1 [])],14⟩) (Qp [(0,0),(1,1),(2,2),(3,3),(4,4),(5,5),(6,6),(7,7),(8,8),(9,9),(10,10),(11,11),(12,12),(13,13)]) ?_;refine Q5 ?_;refine Q5 ?_;refine runQ hN fun K hK=>?_;simp [-Q0,-Q6,-Q1,-Q7,-Q2];(repeat refine sdQ ?_);refine hK _ ?_;clear hK K;refine tn ?_
   refine Q9 (st':=⟨[(0,.rptr (Cat.cells true c_)),(4,.fn 81 [.rptr (Prf.cells true behind_0),.rptr (Fn.cells true behind_1),.rptr (Fn.cells true behind_2)]),(10,.adr 0 0 0),(12,.adr 1 0 0),(19,iV s87.2),(20,.own 13 0 0),(21,iV 0),(105,iV (d_.fr.length:Int)),(106,iV s87.2)],[(0,.mix 13 [[iV 0,.val (.slice none 0 0),.val (.slice none 0 0),.val (.slice none 0 0),.val (.slice none 0 0),iV 0,.val (.slice none 0 0),.val (.slice none 0 0),.val (.slice none 0 0),.val (.slice none 0 0),.val (.slice none 0 0),.val (.slice none 0 0),.val (.slice none 0 0)]]),(1,.mix 13 [[iV v1.n,.own 2 0 v1.fr.length,.own 3 0 v1.to.length,.own 4 0 v1.id.length,.own 5 0 v1.cs.length,iV v2.n,.own 6 0 v2.fr.length,.own 7 0 v2.to.length,.own 8 0 v2.id.length,.own 9 0 v2.cs.length,.own 10 0 b3.length,.own 11 0 b45.length,.own 12 0 s87.1.length]]),(2,rI v1.fr),(3,rI v1.to),(4,rI v1.id),(5,.row 1 (Ls v1.cs)),(6,rI v2.fr),(7,rI v2.to),(8,rI v2.id),(9,.row 1 (Ls v2.cs)),(10,.row 1 (Ls b3)),(11,.row 1 (Es eL b45)),(12,.row 1 (Es eL s87.1)),(13,.mix 1 [])],14⟩) (Qp [(0,0),(1,1),(2,2),(3,3),(4,4),(5,5),(6,6),(7,7),(8,8),(9,9),(10,10),(11,11),(12,12),(13,13)]) ?_;replace h:=bind_some h;obtain ⟨e89,h,h89⟩:=h;refine Qj (fun b89:List (List Int)=>⟨[(0,.rptr (Cat.cells true c_)),(4,.fn 81 [.rptr (Prf.cells true behind_0),.rptr (Fn.cells true behind_1),.rptr (Fn.cells true behind_2)]),(10,.adr 0 0 0),(12,.adr 1 0 0),(20,.own 13 0 b89.length),(105,iV (d_.fr.length:Int)),(106,iV s87.2)],[(0,.mix 13 [[iV 0,.val (.slice none 0 0),.val (.slice none 0 0),.val (.slice none 0 0),.val (.slice none 0 0),iV 0,.val (.slice none 0 0),.val (.slice none 0 0),.val (.slice none 0 0),.val (.slice none 0 0),.val (.slice none 0 0),.val (.slice none 0 0),.val (.slice none 0 0)]]),(1,.mix 13 [[iV v1.n,.own 2 0 v1.fr.length,.own 3 0 v1.to.length,.own 4 0 v1.id.length,.own 5 0 v1.cs.length,iV v2.n,.own 6 0 v2.fr.length,.own 7 0 v2.to.length,.own 8 0 v2.id.length,.own 9 0 v2.cs.length,.own 10 0 b3.length,.own 11 0 b45.length,.own 12 0 s87.1.length]]),(2,rI v1.fr),(3,rI v1.to),(4,rI v1.id),(5,.row 1 (Ls v1.cs)),(6,rI v2.fr),(7,rI v2.to),(8,rI v2.id),(9,.row 1 (Ls v2.cs)),(10,.row 1 (Ls b3)),(11,.row 1 (Es eL b45)),(12,.row 1 (Es eL s87.1)),(13,.row 1 (Ls b89))],14⟩) (fun b89=>b89=e89) ?_ ?_
   ·refine Qa ?_;refine Qr h (fun s94:List (List Int) × Int=>⟨[(0,.rptr (Cat.cells true c_)),(4,.fn 81 [.rptr (Prf.cells true behind_0),.rptr (Fn.cells true behind_1),.rptr (Fn.cells true behind_2)]),(10,.adr 0 0 0),(12,.adr 1 0 0),(19,iV s87.2),(20,.own 13 0 s94.1.length),(21,iV s94.2),(105,iV (d_.fr.length:Int)),(106,iV s87.2)],[(0,.mix 13 [[iV 0,.val (.slice none 0 0),.val (.slice none 0 0),.val (.slice none 0 0),.val (.slice none 0 0),iV 0,.val (.slice none 0 0),.val (.slice none 0 0),.val (.slice none 0 0),.val (.slice none 0 0),.val (.slice none 0 0),.val (.slice none 0 0),.val (.slice none 0 0)]]),(1,.mix 13 [[iV v1.n,.own 2 0 v1.fr.length,.own 3 0 v1.to.length,.own 4 0 v1.id.length,.own 5 0 v1.cs.length,iV v2.n,.own 6 0 v2.fr.length,.own 7 0 v2.to.length,.own 8 0 v2.id.length,.own 9 0 v2.cs.length,.own 10 0 b3.length,.own 11 0 b45.length,.own 12 0 s87.1.length]]),(2,rI v1.fr),(3,rI v1.to),(4,rI v1.id),(5,.row 1 (Ls v1.cs)),(6,rI v2.fr),(7,rI v2.to),(8,rI v2.id),(9,.row 1 (Ls v2.cs)),(10,.row 1 (Ls b3)),(11,.row 1 (Es eL b45)),(12,.row 1 (Es eL s87.1)),(13,.row 1 (Ls s94.1))],14⟩) (Q4Y ⟨[(0,.rptr (Cat.cells true c_)),(4,.fn 81 [.rptr (Prf.cells true behind_0),.rptr (Fn.cells true behind_1),.rptr (Fn.cells true behind_2)]),(10,.adr 0 0 0),(12,.adr 1 0 0),(19,iV s87.2),(20,.own 13 0 0),(21,iV 0),(105,iV (d_.fr.length:Int)),(106,iV s87.2)],[(0,.mix 13 [[iV 0,.val (.slice none 0 0),.val (.slice none 0 0),.val (.slice none 0 0),.val (.slice none 0 0),iV 0,.val (.slice none 0 0),.val (.slice none 0 0),.val (.slice none 0 0),.val (.slice none 0 0),.val (.slice none 0 0),.val (.slice none 0 0),.val (.slice none 0 0)]]),(1,.mix 13 [[iV v1.n,.own 2 0 v1.fr.length,.own 3 0 v1.to.length,.own 4 0 v1.id.length,.own 5 0 v1.cs.length,iV v2.n,.own 6 0 v2.fr.length,.own 7 0 v2.to.length,.own 8 0 v2.id.length,.own 9 0 v2.cs.length,.own 10 0 b3.length,.own 11 0 b45.length,.own 12 0 s87.1.length]]),(2,rI v1.fr),(3,rI v1.to),(4,rI v1.id),(5,.row 1 (Ls v1.cs)),(6,rI v2.fr),(7,rI v2.to),(8,rI v2.id),(9,.row 1 (Ls v2.cs)),(10,.row 1 (Ls b3)),(11,.row 1 (Es eL b45)),(12,.row 1 (Es eL s87.1)),(13,.row 1 (Ls []))],14⟩ (Wk.nils [] (by simp) (by simp) (by simp [nlA]) (by simp [entN,nlL,nlA,Cat.cells,Fn.cells,Prf.cells,UA,U1,IA,I1,LA,L1,BA,B1,EA,E1,E2,eB,eI,eL]) (by simp)) (Qp [(0,0),(1,1),(2,2),(3,3),(4,4),(5,5),(6,6),(7,7),(8,8),(9,9),(10,10),(11,11),(12,12),(13,13)])) ?_;clear h;intro k94 s94 c94 h hk94;refine Q5 ?_;refine Q5 ?_;refine runQ hN fun K hK=>?_;simp [-Q0,-Q6,-Q1,-Q7,-Q2];(repeat refine sdQ ?_);refine hK _ ?_;clear hK K;refine tn ?_
    refine Q9 (st':=⟨[(0,.rptr (Cat.cells true c_)),(4,.fn 81 [.rptr (Prf.cells true behind_0),.rptr (Fn.cells true behind_1),.rptr (Fn.cells true behind_2)]),(10,.adr 0 0 0),(12,.adr 1 0 0),(19,iV s87.2),(20,.own 13 0 s94.1.length),(21,iV s94.2),(105,iV (d_.fr.length:Int)),(106,iV s87.2),(115,.val (.bool (decide (s94.2<c_.n))))],[(0,.mix 13 [[iV 0,.val (.slice none 0 0),.val (.slice none 0 0),.val (.slice none 0 0),.val (.slice none 0 0),iV 0,.val (.slice none 0 0),.val (.slice none 0 0),.val (.slice none 0 0),.val (.slice none 0 0),.val (.slice none 0 0),.val (.slice none 0 0),.val (.slice none 0 0)]]),(1,.mix 13 [[iV v1.n,.own 2 0 v1.fr.length,.own 3 0 v1.to.length,.own 4 0 v1.id.length,.own 5 0 v1.cs.length,iV v2.n,.own 6 0 v2.fr.length,.own 7 0 v2.to.length,.own 8 0 v2.id.length,.own 9 0 v2.cs.length,.own 10 0 b3.length,.own 11 0 b45.length,.own 12 0 s87.1.length]]),(2,rI v1.fr),(3,rI v1.to),(4,rI v1.id),(5,.row 1 (Ls v1.cs)),(6,rI v2.fr),(7,rI v2.to),(8,rI v2.id),(9,.row 1 (Ls v2.cs)),(10,.row 1 (Ls b3)),(11,.row 1 (Es eL b45)),(12,.row 1 (Es eL s87.1)),(13,.row 1 (Ls s94.1))],14⟩) (Qp [(0,0),(1,1),(2,2),(3,3),(4,4),(5,5),(6,6),(7,7),(8,8),(9,9),(10,10),(11,11),(12,12),(13,13)]) ?_;refine Qc rfl (fun g=>?_) fun g=>?_
    ·have g95:s94.2<c_.n:=gQ;clear g;replace h:=if_l g95 h;refine Qd ?_;refine tn ?_;refine Q5 ?_;refine Qa ?_;refine runQ hN fun K hK=>?_;simp [-Q0,-Q6,-Q1,-Q7,-Q2];(repeat with_reducible refine sdQ ?_);replace h:=bind_some h;obtain ⟨v96,hv96,h⟩:=h;refine Q3 (Q1w _ _ _ _ _ v96 hv96) (.cons .val (.cons .val (.cons .rptr (.cons .rptr (.cons .rptr .nil))))) ?_;replace h:=Q4 h;obtain ⟨a97,h⟩:=h;(try simp only [List.length_append,List.length_cons,List.length_nil] at a97);simp [-Q0,-Q6,-Q1,-Q7,-Q2,unk,unA,unE,unT,unC,flat,a97];(repeat refine sdQ ?_);refine hK _ ?_;clear hK K;refine bn ?_;refine tn ?_;refine Q9 (st':=⟨[(0,.rptr (Cat.cells true c_)),(4,.fn 81 [.rptr (Prf.cells true behind_0),.rptr (Fn.cells true behind_1),.rptr (Fn.cells true behind_2)]),(10,.adr 0 0 0),(12,.adr 1 0 0),(19,iV s87.2),(20,.own 13 0 ((s94.1++[v96]).length)),(21,iV s94.2),(105,iV (d_.fr.length:Int)),(106,iV s87.2)],[(0,.mix 13 [[iV 0,.val (.slice none 0 0),.val (.slice none 0 0),.val (.slice none 0 0),.val (.slice none 0 0),iV 0,.val (.slice none 0 0),.val (.slice none 0 0),.val (.slice none 0 0),.val (.slice none 0 0),.val (.slice none 0 0),.val (.slice none 0 0),.val (.slice none 0 0)]]),(1,.mix 13 [[iV v1.n,.own 2 0 v1.fr.length,.own 3 0 v1.to.length,.own 4 0 v1.id.length,.own 5 0 v1.cs.length,iV v2.n,.own 6 0 v2.fr.length,.own 7 0 v2.to.length,.own 8 0 v2.id.length,.own 9 0 v2.cs.length,.own 10 0 b3.length,.own 11 0 b45.length,.own 12 0 s87.1.length]]),(2,rI v1.fr),(3,rI v1.to),(4,rI v1.id),(5,.row 1 (Ls v1.cs)),(6,rI v2.fr),(7,rI v2.to),(8,rI v2.id),(9,.row 1 (Ls v2.cs)),(10,.row 1 (Ls b3)),(11,.row 1 (Es eL b45)),(12,.row 1 (Es eL s87.1)),(13,.row 1 (Ls (s94.1++[v96])))],14⟩) (Qp [(0,0),(1,1),(2,2),(3,3),(4,4),(5,5),(6,6),(7,7),(8,8),(9,9),(10,10),(11,11),(12,12),(16,13)]) ?_;refine runQ hN fun K hK=>?_;replace h:=Q4 h;obtain ⟨a98,h⟩:=h;simp [-Q0,-Q6,-Q1,-Q7,-Q2,Qo a98];(repeat refine sdQ ?_);refine hK _ ?_;clear hK K;cases h;exact rn (s':=(s94.1++[v96],s94.2+1)) hk94 (Qp [(0,0),(1,1),(2,2),(3,3),(4,4),(5,5),(6,6),(7,7),(8,8),(9,9),(10,10),(11,11),(12,12),(13,13)])
    have g95:¬ (s94.2<c_.n):=gQ;clear g;replace h:=if_r g95 h;refine Qm ?_;refine tx ?_;refine lx ?_;refine bh ?_;cases h;exact jn (b:=s94.1) hk94 (Qp [(0,0),(1,1),(2,2),(3,3),(4,4),(5,5),(6,6),(7,7),(8,8),(9,9),(10,10),(11,11),(12,12),(13,13)])
   intro b89 hb89;have h:=h89;(try rw [← hb89] at h);clear h89;(try dsimp only at h);refine runQ hN fun K hK=>?_;replace h:=Q4 h;obtain ⟨a99,h⟩:=h;(try simp only [List.length_append,List.length_cons,List.length_nil] at a99);simp [-Q0,-Q6,-Q1,-Q7,-Q2,a99];(repeat refine sdQ ?_);refine hK _ ?_;clear hK K;refine bn ?_;refine tn ?_;refine Q9 (st':=⟨[(0,.rptr (Cat.cells true c_)),(4,.fn 81 [.rptr (Prf.cells true behind_0),.rptr (Fn.cells true behind_1),.rptr (Fn.cells true behind_2)]),(10,.adr 0 0 0),(12,.adr 1 0 0),(105,iV (d_.fr.length:Int)),(106,iV s87.2)],[(0,.mix 13 [[iV 0,.val (.slice none 0 0),.val (.slice none 0 0),.val (.slice none 0 0),.val (.slice none 0 0),iV 0,.val (.slice none 0 0),.val (.slice none 0 0),.val (.slice none 0 0),.val (.slice none 0 0),.val (.slice none 0 0),.val (.slice none 0 0),.val (.slice none 0 0)]]),(1,.mix 13 [[iV v1.n,.own 2 0 v1.fr.length,.own 3 0 v1.to.length,.own 4 0 v1.id.length,.own 5 0 v1.cs.length,iV v2.n,.own 6 0 v2.fr.length,.own 7 0 v2.to.length,.own 8 0 v2.id.length,.own 9 0 v2.cs.length,.own 10 0 b3.length,.own 11 0 b45.length,.own 12 0 ((s87.1++[b89]).length)]]),(2,rI v1.fr),(3,rI v1.to),(4,rI v1.id),(5,.row 1 (Ls v1.cs)),(6,rI v2.fr),(7,rI v2.to),(8,rI v2.id),(9,.row 1 (Ls v2.cs)),(10,.row 1 (Ls b3)),(11,.row 1 (Es eL b45)),(12,.row 1 (Es eL (s87.1++[b89])))],13⟩) (Qp [(0,0),(1,1),(2,2),(3,3),(4,4),(5,5),(6,6),(7,7),(8,8),(9,9),(10,10),(11,11),(15,12)]) ?_;refine runQ hN fun K hK=>?_;replace h:=Q4 h;obtain ⟨a100,h⟩:=h;simp [-Q0,-Q6,-Q1,-Q7,-Q2,Qo a100];(repeat refine sdQ ?_);refine hK _ ?_;clear hK K;cases h;exact rn (s':=(s87.1++[b89],s87.2+1)) hk87 (Qp [(0,0),(1,1),(2,2),(3,3),(4,4),(5,5),(6,6),(7,7),(8,8),(9,9),(10,10),(11,11),(12,12)])
  have g88:¬ (s87.2<(d_.fr.length:Int)):=gQ;clear g;replace h:=if_r g88 h;refine Qm ?_;refine tx ?_;refine lx ?_;refine bh ?_;cases h;exact jn (b:=s87.1) hk87 (Qp [(0,0),(1,1),(2,2),(3,3),(4,4),(5,5),(6,6),(7,7),(8,8),(9,9),(10,10),(11,11),(12,12)])
 intro b73 hb73;have h:=h73;try rw [← hb73] at h
 clear h73;try dsimp only at h
 refine Q5 ?_;refine runQ hN fun K hK=>?_;simp [-Q0,-Q6,-Q1,-Q7,-Q2];repeat refine sdQ ?_
 refine hK _ ?_;clear hK K;refine tn ?_;refine Q9 (st':=⟨[(10,.adr 0 0 0),(11,.val (.bool true))],[(0,.mix 13 [[iV v1.n,.own 1 0 v1.fr.length,.own 2 0 v1.to.length,.own 3 0 v1.id.length,.own 4 0 v1.cs.length,iV v2.n,.own 5 0 v2.fr.length,.own 6 0 v2.to.length,.own 7 0 v2.id.length,.own 8 0 v2.cs.length,.own 9 0 b3.length,.own 10 0 b45.length,.own 11 0 b73.length]]),(1,rI v1.fr),(2,rI v1.to),(3,rI v1.id),(4,.row 1 (Ls v1.cs)),(5,rI v2.fr),(6,rI v2.to),(7,rI v2.id),(8,.row 1 (Ls v2.cs)),(9,.row 1 (Ls b3)),(10,.row 1 (Es eL b45)),(11,.row 1 (Es eL b73))],12⟩) (Qp [(0,0),(2,1),(3,2),(4,3),(5,4),(6,5),(7,6),(8,7),(9,8),(10,9),(11,10),(12,11)]) ?_;refine Qh ?_;have hr:=Option.some.inj h;rw [← hr];refine ⟨_,(.cell Q53 rfl rfl rfl (by simp) (by simp) (.tmp .nil)),?_⟩;refine ⟨(.agg rfl (.one rfl rfl .nil)),[iV v1.n,lI v1.fr,lI v1.to,lI v1.id,.lst true 1 (Ls v1.cs),iV v2.n,lI v2.fr,lI v2.to,lI v2.id,.lst true 1 (Ls v2.cs),.lst true 1 (Ls b3),.lst true 1 (Es eL b45),.lst true 1 (Es eL b73),.val (.bool true)],[1,2,3,4,5,6,7,8,9,10,11],by simp [Cat.cells,Fn.cells,Prf.cells,UA,U1,IA,I1,LA,L1,BA,B1,EA,E1,E2,eB,eI,eL],by simp,(UpL.refl _)⟩
attribute [local simp] eL eI QB Q1y Q2v Q27 Cat.cells Fn.cells Prf.cells
noncomputable def QS (p_:Prf) (f_:Fn) (g_:Fn):Option (Prf × Int) :=
 (
  (QC p_).bind fun v2 =>
  if ¬ (v2=true) then
   some true
  else
   (Q1e [f_,g_]).bind fun v4 =>
   some (!v4):Option (Bool)).bind fun b1 =>
 if b1=true then
  some ((⟨(⟨0,[],[],[],[]⟩:Cat),(⟨0,[],[],[],[]⟩:Cat),[],[],[]⟩:Prf),1)
 else
  (
   (QV f_.t p_.s).bind fun v7 =>
   if ¬ (v7=true) then
    some true
   else
    (QV g_.t p_.t).bind fun v9 =>
    some (!v9):Option (Bool)).bind fun b6 =>
  if b6=true then
   some ((⟨(⟨0,[],[],[],[]⟩:Cat),(⟨0,[],[],[],[]⟩:Cat),[],[],[]⟩:Prf),5)
  else
   (Qe f_.s g_.s p_ f_ g_ p_ f_ g_ p_ g_ f_).bind fun v11 =>
   some (v11.1,0)
theorem Q2T (p_:Prf) (f_:Fn) (g_:Fn) (r:Prf × Int) (h:QS p_ f_ g_=some r):Contract Try.prog 20 [.agg (p_.cells true),.agg (f_.cells true),.agg (g_.cells true)] (.tup [.agg (r.1.cells true),iV r.2]):=by
 refine Qk (rvs:=[.cell 6 32,.tmp 7]) (rs:=[.agg (r.1.cells true),iV r.2]) Try.func20 rfl rfl rfl rfl (by simp [Try.f20]) fun F hN hP=>?_;unfold QS at h;refine Q5 ?_;refine runQ hN fun K hK=>?_;simp [-Q0,-Q6,-Q1,-Q7,-Q2];repeat refine sdQ ?_
 refine hK _ ?_;clear hK K;refine tn ?_;refine Q9 (st':=⟨[(3,.adr 0 0 0),(4,.adr 1 0 0),(5,.adr 2 0 0),(6,.adr 3 0 0)],[(0,.mix 13 [(Prf.cells true p_)]),(1,.mix 12 [(Fn.cells true f_)]),(2,.mix 12 [(Fn.cells true g_)]),(3,.mix 13 [[iV 0,.val (.slice none 0 0),.val (.slice none 0 0),.val (.slice none 0 0),.val (.slice none 0 0),iV 0,.val (.slice none 0 0),.val (.slice none 0 0),.val (.slice none 0 0),.val (.slice none 0 0),.val (.slice none 0 0),.val (.slice none 0 0),.val (.slice none 0 0)]])],4⟩) (Qp [(0,0),(1,1),(2,2),(3,3)]) ?_;refine Q5 ?_;refine Q5 ?_;replace h:=bind_some h;obtain ⟨e1,h,h1⟩:=h;refine Qj (fun b1:Bool=>⟨[(3,.adr 0 0 0),(4,.adr 1 0 0),(5,.adr 2 0 0),(6,.adr 3 0 0),(16,.val (.bool b1))],[(0,.mix 13 [(Prf.cells true p_)]),(1,.mix 12 [(Fn.cells true f_)]),(2,.mix 12 [(Fn.cells true g_)]),(3,.mix 13 [[iV 0,.val (.slice none 0 0),.val (.slice none 0 0),.val (.slice none 0 0),.val (.slice none 0 0),iV 0,.val (.slice none 0 0),.val (.slice none 0 0),.val (.slice none 0 0),.val (.slice none 0 0),.val (.slice none 0 0),.val (.slice none 0 0),.val (.slice none 0 0)]])],4⟩) (fun b1=>b1=e1) ?_ ?_
 ·refine runQ hN fun K hK=>?_;simp [-Q0,-Q6,-Q1,-Q7,-Q2];repeat with_reducible refine sdQ ?_
  replace h:=bind_some h;obtain ⟨v2,hv2,h⟩:=h;refine Q3 (Q2h _ v2 hv2) (.cons (.field rfl (by simp [Fn.cells,Prf.cells]) (.cons .val (.cons .lst (.cons .lst (.cons .lst (.cons .lst (.cons .val (.cons .lst (.cons .lst (.cons .lst (.cons .lst (.cons .lst (.cons .lst (.cons .lst .nil)))))))))))))) .nil) ?_;simp [-Q0,-Q6,-Q1,-Q7,-Q2,unk,unA,unE,unT,unC,flat];repeat with_reducible refine sdQ ?_
  refine Ql (fun g=>?_) (fun g=>?_)
  ·have g3:¬ (¬ (v2=true)):=gQ;clear g;replace h:=if_r g3 h;simp [-Q0,-Q6,-Q1,-Q7,-Q2];(repeat with_reducible refine sdQ ?_);replace h:=bind_some h;obtain ⟨v4,hv4,h⟩:=h;refine Q3 (Q4R _ v4 hv4) (.cons (.lits (es:=_) rfl (.cons rfl (.cons (.field rfl (by simp [Fn.cells,Prf.cells]) (.cons .val (.cons .lst (.cons .lst (.cons .lst (.cons .lst (.cons .val (.cons .lst (.cons .lst (.cons .lst (.cons .lst (.cons .lst (.cons .lst .nil))))))))))))) .nil) (.cons rfl (.cons (.field rfl (by simp [Fn.cells,Prf.cells]) (.cons .val (.cons .lst (.cons .lst (.cons .lst (.cons .lst (.cons .val (.cons .lst (.cons .lst (.cons .lst (.cons .lst (.cons .lst (.cons .lst .nil))))))))))))) .nil) .nil)) rfl) .nil) ?_;simp [-Q0,-Q6,-Q1,-Q7,-Q2,unk,unA,unE,unT,unC,flat];(repeat refine sdQ ?_);refine hK _ ?_;exact jn (b:=!v4) (Option.some.inj h) (Qp [(0,0),(1,1),(2,2),(3,3)])
  have g3:¬ (v2=true):=gQ;clear g;replace h:=if_l g3 h;simp [-Q0,-Q6,-Q1,-Q7,-Q2];repeat refine sdQ ?_
  refine hK _ ?_;exact jn (b:=true) (Option.some.inj h) (Qp [(0,0),(1,1),(2,2),(3,3)])
 intro b1 hb1;have h:=h1;try rw [← hb1] at h
 clear h1;try dsimp only at h
 refine Qc rfl (fun g=>?_) fun g=>?_
 ·have g5:b1=true:=gQ;clear g;replace h:=if_l g5 h;refine Q5 ?_;refine runQ hN fun K hK=>?_;simp [-Q0,-Q6,-Q1,-Q7,-Q2];repeat refine sdQ ?_
  refine hK _ ?_;clear hK K;refine tn ?_;refine Q9 (st':=⟨[(6,.adr 0 0 0),(7,iV 1)],[(0,.mix 13 [[iV 0,.val (.slice none 0 0),.val (.slice none 0 0),.val (.slice none 0 0),.val (.slice none 0 0),iV 0,.val (.slice none 0 0),.val (.slice none 0 0),.val (.slice none 0 0),.val (.slice none 0 0),.val (.slice none 0 0),.val (.slice none 0 0),.val (.slice none 0 0)]])],1⟩) (Qp [(3,0)]) ?_;refine Qh ?_;refine tr ?_;have hr:=Option.some.inj h;rw [← hr];refine ⟨_,(.cell Q53 rfl rfl rfl (by simp) (by simp) (.tmp .nil)),?_⟩;refine ⟨(.agg rfl (.one rfl rfl .nil)),[iV 0,.val (.slice none 0 0),.val (.slice none 0 0),.val (.slice none 0 0),.val (.slice none 0 0),iV 0,.val (.slice none 0 0),.val (.slice none 0 0),.val (.slice none 0 0),.val (.slice none 0 0),.val (.slice none 0 0),.val (.slice none 0 0),.val (.slice none 0 0),iV 1],[],by simp [Cat.cells,Fn.cells,Prf.cells,UA,U1,IA,I1,LA,L1,BA,B1,EA,E1,E2,eB,eI,eL],by simp,(.cons .refl (.cons .nil (.cons .nil (.cons .nil (.cons .nil (.cons .refl (.cons .nil (.cons .nil (.cons .nil (.cons .nil (.cons .nil (.cons .nil (.cons .nil (.cons .refl .nil))))))))))))))⟩
 have g5:¬ (b1=true):=gQ;clear g;replace h:=if_r g5 h;refine Qd ?_;refine tn ?_;refine Q5 ?_;refine Q5 ?_;replace h:=bind_some h;obtain ⟨e6,h,h6⟩:=h;refine Qj (fun b6:Bool=>⟨[(3,.adr 0 0 0),(4,.adr 1 0 0),(5,.adr 2 0 0),(6,.adr 3 0 0),(27,.val (.bool b6))],[(0,.mix 13 [(Prf.cells true p_)]),(1,.mix 12 [(Fn.cells true f_)]),(2,.mix 12 [(Fn.cells true g_)]),(3,.mix 13 [[iV 0,.val (.slice none 0 0),.val (.slice none 0 0),.val (.slice none 0 0),.val (.slice none 0 0),iV 0,.val (.slice none 0 0),.val (.slice none 0 0),.val (.slice none 0 0),.val (.slice none 0 0),.val (.slice none 0 0),.val (.slice none 0 0),.val (.slice none 0 0)]])],4⟩) (fun b6=>b6=e6) ?_ ?_
 ·refine runQ hN fun K hK=>?_;simp [-Q0,-Q6,-Q1,-Q7,-Q2];repeat with_reducible refine sdQ ?_
  replace h:=bind_some h;obtain ⟨v7,hv7,h⟩:=h;refine Q3 (Q2P _ _ v7 hv7) (.cons (.field rfl (by simp [Cat.cells,Fn.cells,Prf.cells]) (.cons .val (.cons .lst (.cons .lst (.cons .lst (.cons .lst .nil)))))) (.cons (.field rfl (by simp [Cat.cells,Fn.cells,Prf.cells]) (.cons .val (.cons .lst (.cons .lst (.cons .lst (.cons .lst .nil)))))) .nil)) ?_;simp [-Q0,-Q6,-Q1,-Q7,-Q2,unk,unA,unE,unT,unC,flat];repeat with_reducible refine sdQ ?_
  refine Ql (fun g=>?_) (fun g=>?_)
  ·have g8:¬ (¬ (v7=true)):=gQ;clear g;replace h:=if_r g8 h;simp [-Q0,-Q6,-Q1,-Q7,-Q2];(repeat with_reducible refine sdQ ?_);replace h:=bind_some h;obtain ⟨v9,hv9,h⟩:=h;refine Q3 (Q2P _ _ v9 hv9) (.cons (.field rfl (by simp [Cat.cells,Fn.cells,Prf.cells]) (.cons .val (.cons .lst (.cons .lst (.cons .lst (.cons .lst .nil)))))) (.cons (.field rfl (by simp [Cat.cells,Fn.cells,Prf.cells]) (.cons .val (.cons .lst (.cons .lst (.cons .lst (.cons .lst .nil)))))) .nil)) ?_;simp [-Q0,-Q6,-Q1,-Q7,-Q2,unk,unA,unE,unT,unC,flat];(repeat refine sdQ ?_);refine hK _ ?_;exact jn (b:=!v9) (Option.some.inj h) (Qp [(0,0),(1,1),(2,2),(3,3)])
  have g8:¬ (v7=true):=gQ;clear g;replace h:=if_l g8 h;simp [-Q0,-Q6,-Q1,-Q7,-Q2];repeat refine sdQ ?_
  refine hK _ ?_;exact jn (b:=true) (Option.some.inj h) (Qp [(0,0),(1,1),(2,2),(3,3)])
 intro b6 hb6;have h:=h6;try rw [← hb6] at h
 clear h6;try dsimp only at h
 refine Qc rfl (fun g=>?_) fun g=>?_
 ·have g10:b6=true:=gQ;clear g;replace h:=if_l g10 h;refine Q5 ?_;refine runQ hN fun K hK=>?_;simp [-Q0,-Q6,-Q1,-Q7,-Q2];repeat refine sdQ ?_
  refine hK _ ?_;clear hK K;refine tn ?_;refine Q9 (st':=⟨[(6,.adr 0 0 0),(7,iV 5)],[(0,.mix 13 [[iV 0,.val (.slice none 0 0),.val (.slice none 0 0),.val (.slice none 0 0),.val (.slice none 0 0),iV 0,.val (.slice none 0 0),.val (.slice none 0 0),.val (.slice none 0 0),.val (.slice none 0 0),.val (.slice none 0 0),.val (.slice none 0 0),.val (.slice none 0 0)]])],1⟩) (Qp [(3,0)]) ?_;refine Qh ?_;refine tr ?_;have hr:=Option.some.inj h;rw [← hr];refine ⟨_,(.cell Q53 rfl rfl rfl (by simp) (by simp) (.tmp .nil)),?_⟩;refine ⟨(.agg rfl (.one rfl rfl .nil)),[iV 0,.val (.slice none 0 0),.val (.slice none 0 0),.val (.slice none 0 0),.val (.slice none 0 0),iV 0,.val (.slice none 0 0),.val (.slice none 0 0),.val (.slice none 0 0),.val (.slice none 0 0),.val (.slice none 0 0),.val (.slice none 0 0),.val (.slice none 0 0),iV 5],[],by simp [Cat.cells,Fn.cells,Prf.cells,UA,U1,IA,I1,LA,L1,BA,B1,EA,E1,E2,eB,eI,eL],by simp,(.cons .refl (.cons .nil (.cons .nil (.cons .nil (.cons .nil (.cons .refl (.cons .nil (.cons .nil (.cons .nil (.cons .nil (.cons .nil (.cons .nil (.cons .nil (.cons .refl .nil))))))))))))))⟩
 have g10:¬ (b6=true):=gQ;clear g;replace h:=if_r g10 h;refine Qd ?_;refine tn ?_;refine Q5 ?_;refine Q7Q [] mo (by rw [hN];decide) fun K hK=>?_;simp [-Q0,-Q6,-Q1,-Q7,-Q2];repeat with_reducible refine sdQ ?_
 replace h:=bind_some h;obtain ⟨v11,hv11,h⟩:=h;refine Q3s (fz:=[]) (Qu _ _ _ _ _ _ _ _ _ _ _ v11 hv11) (.cons (.field rfl (by simp [Cat.cells,Fn.cells,Prf.cells]) (.cons .val (.cons .lst (.cons .lst (.cons .lst (.cons .lst .nil)))))) (.cons (.field rfl (by simp [Cat.cells,Fn.cells,Prf.cells]) (.cons .val (.cons .lst (.cons .lst (.cons .lst (.cons .lst .nil)))))) (.cons (.fnL (by simp) (.cons (.field rfl (by simp [Cat.cells,Fn.cells,Prf.cells]) (.cons .val (.cons .lst (.cons .lst (.cons .lst (.cons .lst (.cons .val (.cons .lst (.cons .lst (.cons .lst (.cons .lst (.cons .lst (.cons .lst (.cons .lst .nil)))))))))))))) (.cons (.field rfl (by simp [Cat.cells,Fn.cells,Prf.cells]) (.cons .val (.cons .lst (.cons .lst (.cons .lst (.cons .lst (.cons .val (.cons .lst (.cons .lst (.cons .lst (.cons .lst (.cons .lst (.cons .lst .nil))))))))))))) (.cons (.field rfl (by simp [Cat.cells,Fn.cells,Prf.cells]) (.cons .val (.cons .lst (.cons .lst (.cons .lst (.cons .lst (.cons .val (.cons .lst (.cons .lst (.cons .lst (.cons .lst (.cons .lst (.cons .lst .nil))))))))))))) .nil)))) (.cons (.fnL (by simp) (.cons (.field rfl (by simp [Cat.cells,Fn.cells,Prf.cells]) (.cons .val (.cons .lst (.cons .lst (.cons .lst (.cons .lst (.cons .val (.cons .lst (.cons .lst (.cons .lst (.cons .lst (.cons .lst (.cons .lst (.cons .lst .nil)))))))))))))) (.cons (.field rfl (by simp [Cat.cells,Fn.cells,Prf.cells]) (.cons .val (.cons .lst (.cons .lst (.cons .lst (.cons .lst (.cons .val (.cons .lst (.cons .lst (.cons .lst (.cons .lst (.cons .lst (.cons .lst .nil))))))))))))) (.cons (.field rfl (by simp [Cat.cells,Fn.cells,Prf.cells]) (.cons .val (.cons .lst (.cons .lst (.cons .lst (.cons .lst (.cons .val (.cons .lst (.cons .lst (.cons .lst (.cons .lst (.cons .lst (.cons .lst .nil))))))))))))) .nil)))) (.cons (.fnL (by simp) (.cons (.field rfl (by simp [Cat.cells,Fn.cells,Prf.cells]) (.cons .val (.cons .lst (.cons .lst (.cons .lst (.cons .lst (.cons .val (.cons .lst (.cons .lst (.cons .lst (.cons .lst (.cons .lst (.cons .lst (.cons .lst .nil)))))))))))))) (.cons (.field rfl (by simp [Cat.cells,Fn.cells,Prf.cells]) (.cons .val (.cons .lst (.cons .lst (.cons .lst (.cons .lst (.cons .val (.cons .lst (.cons .lst (.cons .lst (.cons .lst (.cons .lst (.cons .lst .nil))))))))))))) (.cons (.field rfl (by simp [Cat.cells,Fn.cells,Prf.cells]) (.cons .val (.cons .lst (.cons .lst (.cons .lst (.cons .lst (.cons .val (.cons .lst (.cons .lst (.cons .lst (.cons .lst (.cons .lst (.cons .lst .nil))))))))))))) .nil)))) .nil))))) ?_;simp [-Q0,-Q6,-Q1,-Q7,-Q2,unk,unA,unE,unT,unC,flat];repeat refine sdQ ?_
 refine hK _ ?_;clear hK K;refine tn ?_;refine Q9 (st':=⟨[(6,.adr 0 0 0),(8,.adr 1 0 0)],[(0,.mix 13 [[iV 0,.val (.slice none 0 0),.val (.slice none 0 0),.val (.slice none 0 0),.val (.slice none 0 0),iV 0,.val (.slice none 0 0),.val (.slice none 0 0),.val (.slice none 0 0),.val (.slice none 0 0),.val (.slice none 0 0),.val (.slice none 0 0),.val (.slice none 0 0)]]),(1,.mix 13 [[iV v11.1.s.n,.own 2 0 v11.1.s.fr.length,.own 3 0 v11.1.s.to.length,.own 4 0 v11.1.s.id.length,.own 5 0 v11.1.s.cs.length,iV v11.1.t.n,.own 6 0 v11.1.t.fr.length,.own 7 0 v11.1.t.to.length,.own 8 0 v11.1.t.id.length,.own 9 0 v11.1.t.cs.length,.own 10 0 v11.1.sz.length,.own 11 0 v11.1.bf.length,.own 12 0 v11.1.bh.length]]),(2,rI v11.1.s.fr),(3,rI v11.1.s.to),(4,rI v11.1.s.id),(5,.row 1 (Ls v11.1.s.cs)),(6,rI v11.1.t.fr),(7,rI v11.1.t.to),(8,rI v11.1.t.id),(9,.row 1 (Ls v11.1.t.cs)),(10,.row 1 (Ls v11.1.sz)),(11,.row 1 (Es eL v11.1.bf)),(12,.row 1 (Es eL v11.1.bh))],13⟩) (Qp [(3,0),(18,1),(5,2),(6,3),(7,4),(8,5),(10,6),(11,7),(12,8),(13,9),(14,10),(15,11),(16,12)]) ?_;refine Q5 ?_;refine runQ hN fun K hK=>?_;simp [-Q0,-Q6,-Q1,-Q7,-Q2];repeat refine sdQ ?_
 refine hK _ ?_;clear hK K;refine tn ?_;refine Q9 (st':=⟨[(6,.adr 0 0 0),(7,iV 0)],[(0,.mix 13 [[iV v11.1.s.n,.own 1 0 v11.1.s.fr.length,.own 2 0 v11.1.s.to.length,.own 3 0 v11.1.s.id.length,.own 4 0 v11.1.s.cs.length,iV v11.1.t.n,.own 5 0 v11.1.t.fr.length,.own 6 0 v11.1.t.to.length,.own 7 0 v11.1.t.id.length,.own 8 0 v11.1.t.cs.length,.own 9 0 v11.1.sz.length,.own 10 0 v11.1.bf.length,.own 11 0 v11.1.bh.length]]),(1,rI v11.1.s.fr),(2,rI v11.1.s.to),(3,rI v11.1.s.id),(4,.row 1 (Ls v11.1.s.cs)),(5,rI v11.1.t.fr),(6,rI v11.1.t.to),(7,rI v11.1.t.id),(8,.row 1 (Ls v11.1.t.cs)),(9,.row 1 (Ls v11.1.sz)),(10,.row 1 (Es eL v11.1.bf)),(11,.row 1 (Es eL v11.1.bh))],12⟩) (Qp [(0,0),(2,1),(3,2),(4,3),(5,4),(6,5),(7,6),(8,7),(9,8),(10,9),(11,10),(12,11)]) ?_;refine Qh ?_;have hr:=Option.some.inj h;rw [← hr];refine ⟨_,(.cell Q53 rfl rfl rfl (by simp) (by simp) (.tmp .nil)),?_⟩;refine ⟨(.agg rfl (.one rfl rfl .nil)),[iV v11.1.s.n,lI v11.1.s.fr,lI v11.1.s.to,lI v11.1.s.id,.lst true 1 (Ls v11.1.s.cs),iV v11.1.t.n,lI v11.1.t.fr,lI v11.1.t.to,lI v11.1.t.id,.lst true 1 (Ls v11.1.t.cs),.lst true 1 (Ls v11.1.sz),.lst true 1 (Es eL v11.1.bf),.lst true 1 (Es eL v11.1.bh),iV 0],[1,2,3,4,5,6,7,8,9,10,11],by simp [Cat.cells,Fn.cells,Prf.cells,UA,U1,IA,I1,LA,L1,BA,B1,EA,E1,E2,eB,eI,eL],by simp,(UpL.refl _)⟩
end Go.Vc.T
