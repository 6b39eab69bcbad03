/- A part of the proof: a verified generator of conditions, and what each function of the program does. -/
import Derived.Test.YtjfnifbgmcjjkaaS10
set_option maxRecDepth 100000
set_option maxHeartbeats 4000000
set_option linter.unusedSimpArgs false
set_option linter.unusedVariables false

namespace Go.Vc.T
open Go Go.Vc Go.Proofs
attribute [local simp] eL eI Qs Q24 Q1B Cone.cells Fn.cells
def Hd (b xs:List Cone):Ent:=match b with
 | []=>.row 2 (Es (Cone.cells true) xs)
 | _ :: _=>.mix 2 (List.replicate xs.length [.bot,.bot])
@[simp] theorem Hd_nil (xs:List Cone):Hd [] xs = .row 2 (Es (Cone.cells true) xs):=rfl
@[simp] theorem Hd_cons (b:Cone) (bs xs:List Cone):Hd (b :: bs) xs = .mix 2 (List.replicate xs.length [.bot,.bot]):=rfl
@[simp] theorem rlLL_hole (m:List (Nat × Nat)):∀ n,rlLL m (List.replicate n [.bot,.bot])=List.replicate n [.bot,.bot]:=by
 intro n
 induction n with
 | zero=>rfl
 | succ n ih=>simp only [List.replicate_succ,rlLL,ih];rfl
theorem hole_at {n:Nat} {i:Nat} (h:i<n):(List.replicate n ([.bot,.bot]:List AV))[i]? = some [.bot,.bot]:=by simp [h]
noncomputable def Q2I (d_:Fn) (most_:Int):Option (List Cone × Bool) :=
 ass (most_=1) <|
 (Q1Y d_).bind fun v1 =>
 if ¬ (v1.2=true) then
  some ([],false)
 else
  (QA (σ:=List Cone × Int) (ε:=List Cone) (fun s13 =>
   if s13.2<(v1.1.length:Int) then
    (
     ass (0≤s13.2∧s13.2<(v1.1.length:Int)) <|
     (
      if (s13.1.length:Int)<most_ then
       (Q1g d_ v1.1 (gx v1.1 s13.2)).bind fun v19 =>
       some v19
      else
       some false:Option (Bool)).bind fun b17 =>
     if b17=true then
      ass ((s13.1++[(gx v1.1 s13.2)]).length≤1073741824) <|
      some (s13.1++[(gx v1.1 s13.2)])
     else
      some s13.1:Option (List Cone)).bind fun b15 =>
    ass (B64 (s13.2+1)) <|
    some (Ctl.next (b15,s13.2+1))
   else
    some (Ctl.ret s13.1)) fuel ([],0)).bind fun b3 =>
  some (b3,true)
theorem QL {F : Fx} {st st' : St} (m : List (Nat × Nat)) (h : (m.map Prod.fst).Nodup ∧ (m.map Prod.snd).Nodup ∧ (∀ id, id < F.pins → look id m = some id) ∧ (∀ p ∈ m, p.2 < st'.n) ∧ (∀ p ∈ st'.h, p.1 < st'.n) ∧ (∀ p ∈ st'.s, p.2 = rl m (st.get p.1) ∨ p.2 = .bot) ∧ ∀ p ∈ st'.h, hhOk m st.h p.1 p.2 := by simp [hP, hhOk, back, Cone.cells, Fn.cells, UA, U1, IA, I1, LA, L1, BA, B1, EA, E1, E2, eB, eI, eL, Qh _ (Cone.cells true) _ (fun _=>rfl), XCocones.cells, Qh _ QZ _ (fun _=>rfl)]) : Wk F st st' := Wk.r1 m h
theorem Q8L (d_:Fn) (most_:Int) (r:List Cone × Bool) (h:Q2I d_ most_=some r):Contract Try.prog 94 [.rptr (d_.cells true),iV most_] (.tup [.lst true 2 (Es (Cone.cells true) r.1),.val (.bool r.2)]):=by
 refine Qe (rvs:=[.tmp 4,.tmp 5]) (rs:=[.lst true 2 (Es (Cone.cells true) r.1),.val (.bool r.2)]) Try.func94 rfl rfl rfl rfl (by simp [Try.f94]) fun F hN hP=>?_;unfold Q2I at h;replace h:=Q4 h;obtain ⟨am,h⟩:=h;refine Q3 ?_;refine runQ hN fun K hK=>?_;simp [-Q0,-Q5,-Q1,-Q6,-Q2];repeat refine sdQ ?_
 refine hK _ ?_;clear hK K;refine tn ?_;refine Q8 (st':=⟨[(0,.rptr (Fn.cells true d_)),(1,iV most_)],[],0⟩) (QL []) ?_;refine Q3 ?_;refine runQ hN fun K hK=>?_;simp [-Q0,-Q5,-Q1,-Q6,-Q2];repeat with_reducible refine sdQ ?_
 replace h:=bind_some h;obtain ⟨v1,hv1,h⟩:=h;refine Q7 (Q6M _ v1 hv1) (.cons (.preT (by simp [Fn.cells])) .nil) ?_;simp [-Q0,-Q5,-Q1,-Q6,-Q2,unk,unA,unE,unT,unC,flat];repeat refine sdQ ?_
 refine hK _ ?_;clear hK K;refine tn ?_;refine Q8 (st':=⟨[(0,.rptr (Fn.cells true d_)),(1,iV most_),(6,.own 0 0 v1.1.length),(7,.val (.bool v1.2))],[(0,.row 2 (Es (Cone.cells true) v1.1))],1⟩) (QL [(0,0)]) ?_;refine Q3 ?_;refine Q3 ?_;refine runQ hN fun K hK=>?_;simp [-Q0,-Q5,-Q1,-Q6,-Q2];repeat refine sdQ ?_
 refine hK _ ?_;clear hK K;refine tn ?_;refine Q8 (st':=⟨[(0,.rptr (Fn.cells true d_)),(1,iV most_),(6,.own 0 0 v1.1.length),(17,.val (.bool (!v1.2)))],[(0,.row 2 (Es (Cone.cells true) v1.1))],1⟩) (QL [(0,0)]) ?_;refine Qc rfl (fun g=>?_) fun g=>?_
 ·have g2:¬ (v1.2=true):=gQ;clear g;replace h:=if_l g2 h;refine Q3 ?_;refine runQ hN fun K hK=>?_;simp [-Q0,-Q5,-Q1,-Q6,-Q2];repeat refine sdQ ?_
  refine hK _ ?_;clear hK K;refine tn ?_;refine Q8 (st':=⟨[(4,.val (.slice none 0 0)),(5,.val (.bool false))],[],0⟩) (QL []) ?_;refine Qk ?_;refine tr ?_;have hr:=Option.some.inj h;rw [← hr];refine ⟨_,(.tmp (.tmp .nil)),?_⟩;refine ⟨(.one rfl rfl (.one rfl rfl .nil)),[.val (.slice none 0 0),.val (.bool false)],[],by simp [Cone.cells,Fn.cells,UA,U1,IA,I1,LA,L1,BA,B1,EA,E1,E2,eB,eI,eL,Qh _ (Cone.cells true) _ (fun _=>rfl)],by simp,(.cons .nil (.cons .refl .nil))⟩
 have g2:¬ (¬ (v1.2=true)):=gQ;clear g;replace h:=if_r g2 h;refine Qd ?_;refine tn ?_;refine Q3 ?_;refine runQ hN fun K hK=>?_;simp [-Q0,-Q5,-Q1,-Q6,-Q2];repeat refine sdQ ?_
 refine hK _ ?_;clear hK K;refine tn ?_;refine Q8 (st':=⟨[(0,.rptr (Fn.cells true d_)),(1,iV most_),(6,.own 0 0 v1.1.length),(8,.own 1 0 0)],[(0,.row 2 (Es (Cone.cells true) v1.1)),(1,.mix 2 [])],2⟩) (QL [(0,0),(1,1)]) ?_;refine Q3 ?_;refine Q3 ?_;refine runQ hN fun K hK=>?_;simp [-Q0,-Q5,-Q1,-Q6,-Q2];repeat refine sdQ ?_
 refine hK _ ?_;clear hK K;refine tn ?_;refine Q8 (st':=⟨[(0,.rptr (Fn.cells true d_)),(1,iV most_),(6,.own 0 0 v1.1.length),(8,.own 1 0 0),(19,.own 0 0 v1.1.length),(20,iV (v1.1.length:Int)),(21,iV 0)],[(0,.row 2 (Es (Cone.cells true) v1.1)),(1,.mix 2 [])],2⟩) (QL [(0,0),(1,1)]) ?_;replace h:=bind_some h;obtain ⟨e3,h,h3⟩:=h;refine Qj (fun b3:List Cone=>⟨[(8,.own 0 0 b3.length)],[(0,.row 2 (Es (Cone.cells true) b3))],1⟩) (fun b3=>b3=e3) ?_ ?_
 ·refine Qa ?_;refine Qx h (fun s13:List Cone × Int=>⟨[(0,.rptr (Fn.cells true d_)),(1,iV most_),(6,.own 0 0 v1.1.length),(8,.own 1 0 s13.1.length),(19,.own 0 0 v1.1.length),(20,iV (v1.1.length:Int)),(21,iV s13.2)],[(0,Hd s13.1 v1.1),(1,.row 2 (Es (Cone.cells true) s13.1))],2⟩) (Q2N ⟨[(0,.rptr (Fn.cells true d_)),(1,iV most_),(6,.own 0 0 v1.1.length),(8,.own 1 0 0),(19,.own 0 0 v1.1.length),(20,iV (v1.1.length:Int)),(21,iV 0)],[(0,.row 2 (Es (Cone.cells true) v1.1)),(1,.row 2 (Es (Cone.cells true) []))],2⟩ (Wk.nils [] (by simp) (by simp) (by simp [nlA]) (by simp [entN,nlL,nlA,Cone.cells,Fn.cells,UA,U1,IA,I1,LA,L1,BA,B1,EA,E1,E2,eB,eI,eL,Qh _ (Cone.cells true) _ (fun _=>rfl)]) (by simp)) (QL [(0,0),(1,1)])) ?_;clear h;intro k13 s13 c13 h hk13;rcases s13 with ⟨_|⟨b13,bs13⟩,i13⟩
  ·(try dsimp only at h hk13);refine Q3 ?_;refine runQ hN fun K hK=>?_;simp [-Q0,-Q5,-Q1,-Q6,-Q2];(repeat refine sdQ ?_);refine hK _ ?_;clear hK K;refine tn ?_;refine Q8 (st':=⟨[(0,.rptr (Fn.cells true d_)),(1,iV most_),(6,.own 0 0 v1.1.length),(8,.own 1 0 ([]:List Cone).length),(19,.own 0 0 v1.1.length),(20,iV (v1.1.length:Int)),(21,iV i13),(22,.val (.bool (decide (i13<(v1.1.length:Int)))))],[(0,.row 2 (Es (Cone.cells true) v1.1)),(1,.row 2 (Es (Cone.cells true) ([]:List Cone)))],2⟩) (QL [(0,0),(1,1)]) ?_;refine Q3 ?_;refine Qc rfl (fun g=>?_) fun g=>?_
   ·have g14:i13<(v1.1.length:Int):=gQ;clear g;replace h:=if_l g14 h;refine Qd ?_;refine tn ?_;refine Q3 ?_;replace h:=bind_some h;obtain ⟨e15,h,h15⟩:=h;refine Qj (fun b15:List Cone=>⟨[(0,.rptr (Fn.cells true d_)),(1,iV most_),(6,.own 0 0 v1.1.length),(8,.own 1 0 b15.length),(19,.own 0 0 v1.1.length),(20,iV (v1.1.length:Int)),(21,iV i13)],[(0,Hd b15 v1.1),(1,.row 2 (Es (Cone.cells true) b15))],2⟩) (fun b15=>b15=e15) ?_ ?_
    ·refine Qa ?_;refine Q3 ?_;refine runQ hN fun K hK=>?_;replace h:=Q4 h;obtain ⟨a16,h⟩:=h;simp [-Q0,-Q5,-Q1,-Q6,-Q2,at_E (c:=(Cone.cells true)) a16];(repeat refine sdQ ?_);refine hK _ ?_;clear hK K;refine tn ?_;refine Q8 (st':=⟨[(0,.rptr (Fn.cells true d_)),(1,iV most_),(6,.own 0 0 v1.1.length),(8,.own 1 0 ([]:List Cone).length),(10,.adr 2 0 0),(19,.own 0 0 v1.1.length),(20,iV (v1.1.length:Int)),(21,iV i13)],[(0,.row 2 (Es (Cone.cells true) v1.1)),(1,.row 2 (Es (Cone.cells true) ([]:List Cone))),(2,.mix 2 [[iV ((gx v1.1 i13).a),.own 3 0 (((gx v1.1 i13).l).length)]]),(3,.ali 0 i13.toNat 1 1)],4⟩) (QL [(0,0),(1,1),(4,2),(3,3)]) ?_;refine Q3 ?_;replace h:=bind_some h;obtain ⟨e17,h,h17⟩:=h;refine Qj (fun b17:Bool=>⟨[(0,.rptr (Fn.cells true d_)),(1,iV most_),(6,.own 0 0 v1.1.length),(8,.own 1 0 ([]:List Cone).length),(10,.adr 2 0 0),(19,.own 0 0 v1.1.length),(20,iV (v1.1.length:Int)),(21,iV i13),(34,.val (.bool b17))],[(0,.row 2 (Es (Cone.cells true) v1.1)),(1,.row 2 (Es (Cone.cells true) ([]:List Cone))),(2,.mix 2 [[iV ((gx v1.1 i13).a),.own 3 0 (((gx v1.1 i13).l).length)]]),(3,.ali 0 i13.toNat 1 1)],4⟩) (fun b17=>b17=e17) ?_ ?_
     ·refine runQ hN fun K hK=>?_;simp [-Q0,-Q5,-Q1,-Q6,-Q2];(repeat with_reducible refine sdQ ?_);refine Qn (fun g=>?_) (fun g=>?_)
      ·have g18:(([]:List Cone).length:Int)<most_:=gQ;clear g;replace h:=if_l g18 h;simp [-Q0,-Q5,-Q1,-Q6,-Q2];(repeat with_reducible refine sdQ ?_);replace h:=bind_some h;obtain ⟨v19,hv19,h⟩:=h;refine Q7 (Q54 _ _ _ v19 hv19) (.cons (.preT (by simp [Cone.cells,Fn.cells])) (.cons (.whole (by simp) (by simp) (by simp)) (.cons (.aggL (.cons .val (.cons (.whole (by simp [at_E (c:=(Cone.cells true)) a16,Cone.cells]) (by simp) (by simp [at_E (c:=(Cone.cells true)) a16,Cone.cells])) .nil))) .nil))) ?_;simp [-Q0,-Q5,-Q1,-Q6,-Q2,unk,unA,unE,unT,unC,flat];(repeat refine sdQ ?_);refine hK _ ?_;exact jn (b:=v19) (Option.some.inj h) (QL [(0,0),(1,1),(2,2),(3,3)])
      have g18:¬ ((([]:List Cone).length:Int)<most_):=gQ;clear g;replace h:=if_r g18 h;simp [-Q0,-Q5,-Q1,-Q6,-Q2];(repeat refine sdQ ?_);refine hK _ ?_;exact jn (b:=false) (Option.some.inj h) (QL [(0,0),(1,1),(2,2),(3,3)])
     intro b17 hb17;have h:=h17;(try rw [← hb17] at h);clear h17;(try dsimp only at h);refine Qc rfl (fun g=>?_) fun g=>?_
     ·have g20:b17=true:=gQ;clear g;replace h:=if_l g20 h;have hi13:i13.toNat<v1.1.length:=(by omega);have hg13:gx v1.1 i13=v1.1[i13.toNat]:=(by simp [gx,List.getD_eq_getElem?_getD,hi13]);refine Q8 (st':=⟨[(0,.rptr (Fn.cells true d_)),(1,iV most_),(6,.own 0 0 v1.1.length),(8,.own 1 0 ([]:List Cone).length),(10,.adr 2 0 0),(19,.own 0 0 v1.1.length),(20,iV (v1.1.length:Int)),(21,iV i13)],[(0,.mix 2 (List.replicate v1.1.length [.bot,.bot])),(1,.row 2 (Es (Cone.cells true) [])),(2,.mix 2 [[iV ((gx v1.1 i13).a),.own 3 0 (((gx v1.1 i13).l).length)]]),(3,.row 1 (Is (gx v1.1 i13).l))],4⟩) (Wk.take (p:=0) (j:=3) (i:=i13.toNat) (k:=1) (sz:=2) (sz2:=1) (es:=Es (Cone.cells true) v1.1) (es2:=Is (gx v1.1 i13).l) (es':=List.replicate v1.1.length [.bot,.bot]) rfl rfl (by decide) (by simpa [Es] using hi13) (by decide) (by rw [hg13];simp [Es,List.getD_eq_getElem?_getD,hi13,Cone.cells]) (by simp [Es]) (fun i hi=>by simp [Es] at hi;simp [List.getD_eq_getElem?_getD,hi]) (fun i k=>by
       by_cases q:i<v1.1.length
       ·rcases k with _|_|k<;>simp [List.getD_eq_getElem?_getD,q]
       simp [List.getD_eq_getElem?_getD,q]) (by simp [St.get]) rfl (by simp)) ?_
      refine runQ hN fun K hK=>?_;replace h:=Q4 h;obtain ⟨a21,h⟩:=h;(try simp only [List.length_append,List.length_cons,List.length_nil] at a21);simp [-Q0,-Q5,-Q1,-Q6,-Q2,a21];(repeat refine sdQ ?_);refine hK _ ?_;clear hK K;refine bn ?_;exact jn (b:=([]:List Cone)++[(gx v1.1 i13)]) (Option.some.inj h) (QL [(0,0),(5,1)])
     have g20:¬ (b17=true):=gQ;clear g;replace h:=if_r g20 h;refine Qd ?_;refine bn ?_;exact jn (b:=([]:List Cone)) (Option.some.inj h) (QL [(0,0),(1,1)])
    intro b15 hb15;have h:=h15;(try rw [← hb15] at h);clear h15;(try dsimp only at h);refine runQ hN fun K hK=>?_;replace h:=Q4 h;obtain ⟨a22,h⟩:=h;simp [-Q0,-Q5,-Q1,-Q6,-Q2,Qt a22];(repeat refine sdQ ?_);refine hK _ ?_;clear hK K;cases h;rcases b15 with _|⟨b15,bs15⟩
    ·exact rn (s':=(_,i13+1)) hk13 (QL [(0,0),(1,1)])
    exact rn (s':=(_,i13+1)) hk13 (QL [(0,0),(1,1)])
   have g14:¬ (i13<(v1.1.length:Int)):=gQ;clear g;replace h:=if_r g14 h;refine Qq ?_;refine tx ?_;refine lx ?_;refine bh ?_;cases h;exact jn (b:=([]:List Cone)) hk13 (QL [(1,0)])
  try dsimp only at h hk13
  refine Q3 ?_;refine runQ hN fun K hK=>?_;simp [-Q0,-Q5,-Q1,-Q6,-Q2];repeat refine sdQ ?_
  refine hK _ ?_;clear hK K;refine tn ?_;refine Q8 (st':=⟨[(0,.rptr (Fn.cells true d_)),(1,iV most_),(6,.own 0 0 v1.1.length),(8,.own 1 0 (b13 :: bs13).length),(19,.own 0 0 v1.1.length),(20,iV (v1.1.length:Int)),(21,iV i13),(22,.val (.bool (decide (i13<(v1.1.length:Int)))))],[(0,.mix 2 (List.replicate v1.1.length [.bot,.bot])),(1,.row 2 (Es (Cone.cells true) (b13 :: bs13)))],2⟩) (QL [(0,0),(1,1)]) ?_;refine Q3 ?_;refine Qc rfl (fun g=>?_) fun g=>?_
  ·have g14:i13<(v1.1.length:Int):=gQ;clear g;replace h:=if_l g14 h;refine Qd ?_;refine tn ?_;refine Q3 ?_;replace h:=bind_some h;obtain ⟨e15,h,h15⟩:=h;refine Qj (fun b15:List Cone=>⟨[(0,.rptr (Fn.cells true d_)),(1,iV most_),(6,.own 0 0 v1.1.length),(8,.own 1 0 b15.length),(19,.own 0 0 v1.1.length),(20,iV (v1.1.length:Int)),(21,iV i13)],[(0,Hd b15 v1.1),(1,.row 2 (Es (Cone.cells true) b15))],2⟩) (fun b15=>b15=e15) ?_ ?_
   ·refine Qa ?_;refine Q3 ?_;refine runQ hN fun K hK=>?_;replace h:=Q4 h;obtain ⟨a16,h⟩:=h;have hi13:i13.toNat<v1.1.length:=(by omega);simp [-Q0,-Q5,-Q1,-Q6,-Q2,hi13,hole_at hi13,List.getElem_replicate];(repeat refine sdQ ?_);refine hK _ ?_;clear hK K;refine tn ?_;refine Q8 (st':=⟨[(0,.rptr (Fn.cells true d_)),(1,iV most_),(6,.own 0 0 v1.1.length),(8,.own 1 0 (b13 :: bs13).length),(10,.adr 2 0 0),(19,.own 0 0 v1.1.length),(20,iV (v1.1.length:Int)),(21,iV i13)],[(0,.mix 2 (List.replicate v1.1.length [.bot,.bot])),(1,.row 2 (Es (Cone.cells true) (b13 :: bs13))),(2,.mix 2 [[.bot,.bot]])],3⟩) (QL [(0,0),(1,1),(2,2)]) ?_;refine Q3 ?_;replace h:=bind_some h;obtain ⟨e17,h,h17⟩:=h;have he17:e17=false:=(Option.some.inj (if_r (show ¬ (((b13 :: bs13).length:Int)<most_) by simp;omega) h)).symm;refine Qj (fun b17:Bool=>⟨[(0,.rptr (Fn.cells true d_)),(1,iV most_),(6,.own 0 0 v1.1.length),(8,.own 1 0 (b13 :: bs13).length),(10,.adr 2 0 0),(19,.own 0 0 v1.1.length),(20,iV (v1.1.length:Int)),(21,iV i13),(34,.val (.bool b17))],[(0,.mix 2 (List.replicate v1.1.length [.bot,.bot])),(1,.row 2 (Es (Cone.cells true) (b13 :: bs13))),(2,.mix 2 [[.bot,.bot]])],3⟩) (fun b17=>b17=e17) ?_ ?_
    ·refine runQ hN fun K hK=>?_;simp [-Q0,-Q5,-Q1,-Q6,-Q2];(repeat with_reducible refine sdQ ?_);refine Qn (fun g=>?_) (fun g=>?_)
     ·exfalso;simp at g;omega
     have g18:¬ (((b13 :: bs13).length:Int)<most_):=(by simp;omega);clear g;replace h:=if_r g18 h;simp [-Q0,-Q5,-Q1,-Q6,-Q2];(repeat refine sdQ ?_);refine hK _ ?_;exact jn (b:=false) (Option.some.inj h) (QL [(0,0),(1,1),(2,2)])
    intro b17 hb17;have h:=h17;(try rw [← hb17] at h);clear h17;(try dsimp only at h);have e17f:b17=false:=hb17.trans he17;subst e17f;refine Qc rfl (fun g=>by simp at g) fun g=>?_;clear g;replace h:=if_r (by simp) h;refine Qd ?_;refine bn ?_;exact jn (b:=(b13 :: bs13)) (Option.some.inj h) (QL [(0,0),(1,1)])
   intro b15 hb15;have h:=h15;(try rw [← hb15] at h);clear h15;(try dsimp only at h);refine runQ hN fun K hK=>?_;replace h:=Q4 h;obtain ⟨a22,h⟩:=h;simp [-Q0,-Q5,-Q1,-Q6,-Q2,Qt a22];(repeat refine sdQ ?_);refine hK _ ?_;clear hK K;cases h;rcases b15 with _|⟨b15,bs15⟩
   ·exact rn (s':=(_,i13+1)) hk13 (QL [(0,0),(1,1)])
   exact rn (s':=(_,i13+1)) hk13 (QL [(0,0),(1,1)])
  have g14:¬ (i13<(v1.1.length:Int)):=gQ;clear g;replace h:=if_r g14 h;refine Qq ?_;refine tx ?_;refine lx ?_;refine bh ?_;cases h;exact jn (b:=(b13 :: bs13)) hk13 (QL [(1,0)])
 intro b3 hb3;have h:=h3;try rw [← hb3] at h
 clear h3;try dsimp only at h
 refine Q3 ?_;refine runQ hN fun K hK=>?_;simp [-Q0,-Q5,-Q1,-Q6,-Q2];repeat refine sdQ ?_
 refine hK _ ?_;clear hK K;refine tn ?_;refine Q8 (st':=⟨[(4,.own 0 0 b3.length),(5,.val (.bool true))],[(0,.row 2 (Es (Cone.cells true) b3))],1⟩) (QL [(0,0)]) ?_;refine Qk ?_;have hr:=Option.some.inj h;rw [← hr];refine ⟨_,(.tmp (.tmp .nil)),?_⟩;refine ⟨(.one rfl rfl (.one rfl rfl .nil)),[.lst true 2 (Es (Cone.cells true) b3),.val (.bool true)],[0],by simp [Cone.cells,Fn.cells,UA,U1,IA,I1,LA,L1,BA,B1,EA,E1,E2,eB,eI,eL,Qh _ (Cone.cells true) _ (fun _=>rfl)],by simp,(UpL.refl _)⟩
attribute [local simp] eL eI Qs Q24 Q1B Cone.cells Fn.cells
noncomputable def Q3i (d_:Fn):Option (Cone × Int) :=
 (Q2I d_ 1).bind fun v1 =>
 if ¬ (v1.2=true) then
  some ((⟨0,[]⟩:Cone),3)
 else
  if (v1.1.length:Int)=0 then
   some ((⟨0,[]⟩:Cone),4)
  else
   ass ((0:Int)≤0∧0<(v1.1.length:Int)) <|
   some ((gx v1.1 0),0)
theorem w_i_limit (d_:Fn) (r:Cone × Int) (h:Q3i d_=some r):Contract Try.prog 54 [.rptr (d_.cells true)] (.tup [.agg (r.1.cells true),iV r.2]):=by
 refine Qe (rvs:=[.cell 2 54,.tmp 3]) (rs:=[.agg (r.1.cells true),iV r.2]) Try.func54 rfl rfl rfl rfl (by simp [Try.f54]) fun F hN hP=>?_;unfold Q3i at h;refine Q3 ?_;refine runQ hN fun K hK=>?_;simp [-Q0,-Q5,-Q1,-Q6,-Q2];repeat refine sdQ ?_
 refine hK _ ?_;clear hK K;refine tn ?_;refine Q8 (st':=⟨[(0,.rptr (Fn.cells true d_)),(2,.adr 0 0 0)],[(0,.mix 2 [[iV 0,.val (.slice none 0 0)]])],1⟩) (QL [(0,0)]) ?_;refine Q3 ?_;refine runQ hN fun K hK=>?_;simp [-Q0,-Q5,-Q1,-Q6,-Q2];repeat with_reducible refine sdQ ?_
 replace h:=bind_some h;obtain ⟨v1,hv1,h⟩:=h;refine Q7 (Q8L _ _ v1 hv1) (.cons (.preT (by simp [Fn.cells])) (.cons .val .nil)) ?_;simp [-Q0,-Q5,-Q1,-Q6,-Q2,unk,unA,unE,unT,unC,flat];repeat refine sdQ ?_
 refine hK _ ?_;clear hK K;refine tn ?_;refine Q8 (st':=⟨[(2,.adr 0 0 0),(4,.own 1 0 v1.1.length),(5,.val (.bool v1.2))],[(0,.mix 2 [[iV 0,.val (.slice none 0 0)]]),(1,.row 2 (Es (Cone.cells true) v1.1))],2⟩) (QL [(0,0),(1,1)]) ?_;refine Q3 ?_;refine Qa ?_;refine Q3 ?_;refine runQ hN fun K hK=>?_;simp [-Q0,-Q5,-Q1,-Q6,-Q2];repeat refine sdQ ?_
 refine hK _ ?_;clear hK K;refine tn ?_;refine Q8 (st':=⟨[(2,.adr 0 0 0),(4,.own 1 0 v1.1.length),(11,.val (.bool (!v1.2)))],[(0,.mix 2 [[iV 0,.val (.slice none 0 0)]]),(1,.row 2 (Es (Cone.cells true) v1.1))],2⟩) (QL [(0,0),(1,1)]) ?_;refine Qc rfl (fun g=>?_) fun g=>?_
 ·have g2:¬ (v1.2=true):=gQ;clear g;replace h:=if_l g2 h;refine Q3 ?_;refine runQ hN fun K hK=>?_;simp [-Q0,-Q5,-Q1,-Q6,-Q2];repeat refine sdQ ?_
  refine hK _ ?_;clear hK K;refine tn ?_;refine Q8 (st':=⟨[(2,.adr 0 0 0),(3,iV 3)],[(0,.mix 2 [[iV 0,.val (.slice none 0 0)]])],1⟩) (QL [(0,0)]) ?_;refine Qk ?_;refine br ?_;refine tr ?_;have hr:=Option.some.inj h;rw [← hr];refine ⟨_,(.cell Q5g rfl rfl rfl (by simp) (by simp) (.tmp .nil)),?_⟩;refine ⟨(.agg rfl (.one rfl rfl .nil)),[iV 0,.val (.slice none 0 0),iV 3],[],by simp [Cone.cells,Fn.cells,UA,U1,IA,I1,LA,L1,BA,B1,EA,E1,E2,eB,eI,eL,Qh _ (Cone.cells true) _ (fun _=>rfl)],by simp,(.cons .refl (.cons .nil (.cons .refl .nil)))⟩
 have g2:¬ (¬ (v1.2=true)):=gQ;clear g;replace h:=if_r g2 h;refine Q3 ?_;refine runQ hN fun K hK=>?_;simp [-Q0,-Q5,-Q1,-Q6,-Q2];repeat refine sdQ ?_
 refine hK _ ?_;clear hK K;refine tn ?_;refine Q8 (st':=⟨[(2,.adr 0 0 0),(4,.own 1 0 v1.1.length),(15,.val (.bool ((v1.1.length:Int) == 0)))],[(0,.mix 2 [[iV 0,.val (.slice none 0 0)]]),(1,.row 2 (Es (Cone.cells true) v1.1))],2⟩) (QL [(0,0),(1,1)]) ?_;refine Qc rfl (fun g=>?_) fun g=>?_
 ·have g3:(v1.1.length:Int)=0:=gQ;clear g;replace h:=if_l g3 h;refine Q3 ?_;refine runQ hN fun K hK=>?_;simp [-Q0,-Q5,-Q1,-Q6,-Q2];repeat refine sdQ ?_
  refine hK _ ?_;clear hK K;refine tn ?_;refine Q8 (st':=⟨[(2,.adr 0 0 0),(3,iV 4)],[(0,.mix 2 [[iV 0,.val (.slice none 0 0)]])],1⟩) (QL [(0,0)]) ?_;refine Qk ?_;refine br ?_;refine tr ?_;have hr:=Option.some.inj h;rw [← hr];refine ⟨_,(.cell Q5g rfl rfl rfl (by simp) (by simp) (.tmp .nil)),?_⟩;refine ⟨(.agg rfl (.one rfl rfl .nil)),[iV 0,.val (.slice none 0 0),iV 4],[],by simp [Cone.cells,Fn.cells,UA,U1,IA,I1,LA,L1,BA,B1,EA,E1,E2,eB,eI,eL,Qh _ (Cone.cells true) _ (fun _=>rfl)],by simp,(.cons .refl (.cons .nil (.cons .refl .nil)))⟩
 have g3:¬ ((v1.1.length:Int)=0):=gQ;clear g;replace h:=if_r g3 h;refine Qd ?_;refine bn ?_;refine tn ?_;refine Q3 ?_;refine runQ hN fun K hK=>?_;replace h:=Q4 h;obtain ⟨a4,h⟩:=h;simp [-Q0,-Q5,-Q1,-Q6,-Q2,(show (Es (Cone.cells true) v1.1)[0]? = some ((Cone.cells true) (gx v1.1 0)) from at_E (j:=0) a4)];repeat refine sdQ ?_
 refine hK _ ?_;clear hK K;refine tn ?_;refine Q8 (st':=⟨[(2,.adr 0 0 0),(3,iV 0)],[(0,.mix 2 [[iV ((gx v1.1 0).a),.own 3 0 (((gx v1.1 0).l).length)]]),(3,rI ((gx v1.1 0).l))],4⟩) (Wk.pick (p:=1) (j:=3) (i:=0) (k:=1) (es2:=Is ((gx v1.1 0).l)) rfl rfl (by first|(simp;done)|(simp;omega)) (by decide) (by simp [(show (Es (Cone.cells true) v1.1)[0]? = some ((Cone.cells true) (gx v1.1 0)) from at_E (j:=0) a4),Cone.cells,Fn.cells]) (by simp) rfl (by simp)) ?_;refine Q8 (st':=⟨[(2,.adr 0 0 0),(3,iV 0)],[(0,.mix 2 [[iV ((gx v1.1 0).a),.own 1 0 (((gx v1.1 0).l).length)]]),(1,rI ((gx v1.1 0).l))],2⟩) (QL [(0,0),(3,1)]) ?_;refine Qk ?_;have hr:=Option.some.inj h;rw [← hr];refine ⟨_,(.cell Q5g rfl rfl rfl (by simp) (by simp) (.tmp .nil)),?_⟩;refine ⟨(.agg rfl (.one rfl rfl .nil)),[iV ((gx v1.1 0).a),lI ((gx v1.1 0).l),iV 0],[1],by simp [Cone.cells,Fn.cells,UA,U1,IA,I1,LA,L1,BA,B1,EA,E1,E2,eB,eI,eL,Qh _ (Cone.cells true) _ (fun _=>rfl)],by simp,(UpL.refl _)⟩
attribute [local simp] eL eI Qs Q24 Q1B QZ Cone.cells Fn.cells XCocones.cells
noncomputable def Q2b (d_:Fn):Option (Cone × Int) :=
 (QJ d_).bind fun v1 =>
 if ¬ (v1=true) then
  some ((⟨0,[]⟩:Cone),1)
 else
  (Q1F d_).bind fun v3 =>
  (Q11 v3).bind fun v4 =>
  (Q3i v4).bind fun v5 =>
  some (v5.1,v5.2)
theorem Q67 (d_:Fn) (r:Cone × Int) (h:Q2b d_=some r):Contract Try.prog 25 [.agg (d_.cells true)] (.tup [.agg (r.1.cells true),iV r.2]):=by
 refine Qe (rvs:=[.cell 2 54,.tmp 3]) (rs:=[.agg (r.1.cells true),iV r.2]) Try.func25 rfl rfl rfl rfl (by simp [Try.f25]) fun F hN hP=>?_;unfold Q2b at h;refine Q3 ?_;refine Qm [1] mo (by rw [hN];decide) fun K hK=>?_;simp [-Q0,-Q5,-Q1,-Q6,-Q2];repeat refine sdQ ?_
 refine hK _ ?_;clear hK K;refine tn ?_;refine Q8 (st':=⟨[(1,.rptr (Fn.cells true d_)),(2,.adr 0 0 0)],[(0,.mix 2 [[iV 0,.val (.slice none 0 0)]])],1⟩) (QL [(0,0)]) ?_;refine Q3 ?_;refine Q3 ?_;refine runQ hN fun K hK=>?_;simp [-Q0,-Q5,-Q1,-Q6,-Q2];repeat with_reducible refine sdQ ?_
 replace h:=bind_some h;obtain ⟨v1,hv1,h⟩:=h;refine Q7 (Q3m _ v1 hv1) (.cons (.preT (by simp [Fn.cells])) .nil) ?_;simp [-Q0,-Q5,-Q1,-Q6,-Q2,unk,unA,unE,unT,unC,flat];repeat refine sdQ ?_
 refine hK _ ?_;clear hK K;refine tn ?_;refine Q8 (st':=⟨[(1,.rptr (Fn.cells true d_)),(2,.adr 0 0 0),(5,.val (.bool (!v1)))],[(0,.mix 2 [[iV 0,.val (.slice none 0 0)]])],1⟩) (QL [(0,0)]) ?_;refine Qc rfl (fun g=>?_) fun g=>?_
 ·have g2:¬ (v1=true):=gQ;clear g;replace h:=if_l g2 h;refine Q3 ?_;refine runQ hN fun K hK=>?_;simp [-Q0,-Q5,-Q1,-Q6,-Q2];repeat refine sdQ ?_
  refine hK _ ?_;clear hK K;refine tn ?_;refine Q8 (st':=⟨[(2,.adr 0 0 0),(3,iV 1)],[(0,.mix 2 [[iV 0,.val (.slice none 0 0)]])],1⟩) (QL [(0,0)]) ?_;refine Qk ?_;refine tr ?_;have hr:=Option.some.inj h;rw [← hr];refine ⟨_,(.cell Q5g rfl rfl rfl (by simp) (by simp) (.tmp .nil)),?_⟩;refine ⟨(.agg rfl (.one rfl rfl .nil)),[iV 0,.val (.slice none 0 0),iV 1],[],by simp [Cone.cells,Fn.cells,XCocones.cells,UA,U1,IA,I1,LA,L1,BA,B1,EA,E1,E2,eB,eI,eL,Qh _ QZ _ (fun _=>rfl)],by simp,(.cons .refl (.cons .nil (.cons .refl .nil)))⟩
 have g2:¬ (¬ (v1=true)):=gQ;clear g;replace h:=if_r g2 h;refine Qd ?_;refine tn ?_;refine Q3 ?_;refine Qm [] mo (by rw [hN];decide) fun K hK=>?_;simp [-Q0,-Q5,-Q1,-Q6,-Q2];repeat with_reducible refine sdQ ?_
 replace h:=bind_some h;obtain ⟨v3,hv3,h⟩:=h;refine Q1S (fz:=[]) true (Q68 _ v3 hv3) (PurK.ofN (.cons (.preT (by simp [Cone.cells,Fn.cells])) .nil)) ?_;simp [-Q0,-Q5,-Q1,-Q6,-Q2,unk,unA,unE,unT,unC,flat];repeat with_reducible refine sdQ ?_
 replace h:=bind_some h;obtain ⟨v4,hv4,h⟩:=h;refine callI_fro (fz:=[]) true (Q3H _ v4 hv4) (PurK.ofN (.cons (.aggL (.cons (.preT (by simp [Cone.cells,Fn.cells,XCocones.cells])) .nil)) .nil)) ?_;simp [-Q0,-Q5,-Q1,-Q6,-Q2,unk,unA,unE,unT,unC,flat];repeat with_reducible refine sdQ ?_
 replace h:=bind_some h;obtain ⟨v5,hv5,h⟩:=h;refine QE (fz:=[]) (w_i_limit _ v5 hv5) (.cons (.preT (by simp [Cone.cells,Fn.cells,XCocones.cells])) .nil) ?_;simp [-Q0,-Q5,-Q1,-Q6,-Q2,unk,unA,unE,unT,unC,flat];repeat refine sdQ ?_
 refine hK _ ?_;clear hK K;refine tn ?_;refine Q8 (st':=⟨[(2,.adr 0 0 0),(3,iV v5.2)],[(0,.mix 2 [[iV v5.1.a,.own 1 0 v5.1.l.length]]),(1,rI v5.1.l)],2⟩) (QL [(0,0),(2,1)]) ?_;refine Qk ?_;have hr:=Option.some.inj h;rw [← hr];refine ⟨_,(.cell Q5g rfl rfl rfl (by simp) (by simp) (.tmp .nil)),?_⟩;refine ⟨(.agg rfl (.one rfl rfl .nil)),[iV v5.1.a,lI v5.1.l,iV v5.2],[1],by simp [Cone.cells,Fn.cells,XCocones.cells,UA,U1,IA,I1,LA,L1,BA,B1,EA,E1,E2,eB,eI,eL,Qh _ QZ _ (fun _=>rfl)],by simp,(UpL.refl _)⟩
attribute [local simp] eL eI Qs Q24 Q1B Cone.cells Fn.cells
noncomputable def Q22 (d_:Fn):Option (Cone × Int) :=
 (Q2p d_).bind fun v1 =>
 if ¬ (v1.2=0) then
  some ((⟨0,[]⟩:Cone),v1.2)
 else
  (QA (σ:=Int) (ε:=Unit ⊕ (Cone × Int)) (fun s10 =>
   if s10<(v1.1.length:Int) then
    ass (0≤s10∧s10<(v1.1.length:Int)) <|
    (Q16 d_ v1.1 (gx v1.1 s10)).bind fun v13 =>
    if v13=true then
     ass (0≤s10∧s10<(v1.1.length:Int)) <|
     some (Ctl.ret (Sum.inr ((gx v1.1 s10),0)))
    else
     ass (B64 (s10+1)) <|
     some (Ctl.next (s10+1))
   else
    some (Ctl.ret (Sum.inl ()))) fuel 0).bind fun e3 =>
  match e3 with
  | .inl b3 =>
   some ((⟨0,[]⟩:Cone),4)
  | .inr p3 =>
   some p3
theorem Q6S (d_:Fn) (r:Cone × Int) (h:Q22 d_=some r):FContract Try.prog true 51 [.agg (d_.cells true)] (.tup [.agg (r.1.cells true),iV r.2]):=by
 refine Q34 (rvs:=[.cell 2 54,.tmp 3]) (rs:=[.agg (r.1.cells true),iV r.2]) Try.func51 rfl rfl rfl rfl (by simp [Try.f51]) fun F hN hP=>?_;unfold Q22 at h;refine Q3 ?_;refine Qm [1] mo (by rw [hN];decide) fun K hK=>?_;simp [-Q0,-Q5,-Q1,-Q6,-Q2];repeat refine sdQ ?_
 refine hK _ ?_;clear hK K;refine tn ?_;refine Q8 (st':=⟨[(1,.rptr (Fn.cells true d_)),(2,.adr 0 0 0)],[(0,.mix 2 [[iV 0,.val (.slice none 0 0)]])],1⟩) (QL [(0,0)]) ?_;refine Q3 ?_;refine Qm [] mo (by rw [hN];decide) fun K hK=>?_;simp [-Q0,-Q5,-Q1,-Q6,-Q2];repeat with_reducible refine sdQ ?_
 replace h:=bind_some h;obtain ⟨v1,hv1,h⟩:=h;refine Q1S (fz:=[]) true (Q7w _ v1 hv1) (PurK.ofN (.cons (.aggL (.cons .val (.cons .lst (.cons .lst (.cons .lst (.cons .lst (.cons .val (.cons .lst (.cons .lst (.cons .lst (.cons .lst (.cons .lst (.cons .lst .nil))))))))))))) .nil)) ?_;simp [-Q0,-Q5,-Q1,-Q6,-Q2,unk,unA,unE,unT,unC,flat];repeat refine sdQ ?_
 refine hK _ ?_;clear hK K;refine tn ?_;refine Q8 (st':=⟨[(1,.rptr (Fn.cells true d_)),(2,.adr 0 0 0),(4,.lst true 2 (Es (Cone.cells true) v1.1)),(5,iV v1.2)],[(0,.mix 2 [[iV 0,.val (.slice none 0 0)]])],1⟩) (QL [(0,0)]) ?_;refine Q3 ?_;refine Q3 ?_;refine Qm [] mo (by rw [hN];decide) fun K hK=>?_;simp [-Q0,-Q5,-Q1,-Q6,-Q2];repeat refine sdQ ?_
 refine hK _ ?_;clear hK K;refine tn ?_;refine Q8 (st':=⟨[(1,.rptr (Fn.cells true d_)),(2,.adr 0 0 0),(4,.lst true 2 (Es (Cone.cells true) v1.1)),(5,iV v1.2),(13,.val (.bool (v1.2 != 0)))],[(0,.mix 2 [[iV 0,.val (.slice none 0 0)]])],1⟩) (QL [(0,0)]) ?_;refine Qc rfl (fun g=>?_) fun g=>?_
 ·have g2:¬ (v1.2=0):=gQ;clear g;replace h:=if_l g2 h;refine Q3 ?_;refine Qm [] mo (by rw [hN];decide) fun K hK=>?_;simp [-Q0,-Q5,-Q1,-Q6,-Q2];repeat refine sdQ ?_
  refine hK _ ?_;clear hK K;refine tn ?_;refine Q8 (st':=⟨[(2,.adr 0 0 0),(3,iV v1.2)],[(0,.mix 2 [[iV 0,.val (.slice none 0 0)]])],1⟩) (QL [(0,0)]) ?_;refine Qk ?_;refine tr ?_;have hr:=Option.some.inj h;rw [← hr];exact RetFG.mk' (.cell Q5g rfl rfl rfl (by simp) (by simp) (.tmp .nil)) (.cons (.aggL (.cons .val (.cons .nil .nil))) (.cons .val .nil))
 have g2:¬ (¬ (v1.2=0)):=gQ;clear g;replace h:=if_r g2 h;refine Qd ?_;refine tn ?_;refine Q3 ?_;refine Q3 ?_;refine Qm [] mo (by rw [hN];decide) fun K hK=>?_;simp [-Q0,-Q5,-Q1,-Q6,-Q2];repeat refine sdQ ?_
 refine hK _ ?_;clear hK K;refine tn ?_;refine Q8 (st':=⟨[(1,.rptr (Fn.cells true d_)),(2,.adr 0 0 0),(4,.lst true 2 (Es (Cone.cells true) v1.1)),(6,iV 0)],[(0,.mix 2 [[iV 0,.val (.slice none 0 0)]])],1⟩) (QL [(0,0)]) ?_;replace h:=bind_some h;obtain ⟨e3,h,h3⟩:=h;refine Qj (fun b3:Unit=>⟨[(2,.adr 0 0 0)],[(0,.mix 2 [[iV 0,.val (.slice none 0 0)]])],1⟩) (fun b3=>Sum.inl b3=e3) ?_ ?_
 ·refine Qa ?_;refine Qx h (fun s10:Int=>⟨[(1,.rptr (Fn.cells true d_)),(2,.adr 0 0 0),(4,.lst true 2 (Es (Cone.cells true) v1.1)),(6,iV s10)],[(0,.mix 2 [[iV 0,.val (.slice none 0 0)]])],1⟩) (QL [(0,0)]) ?_;clear h;intro k10 s10 c10 h hk10;refine Q3 ?_;refine Q3 ?_;refine Qm [] mo (by rw [hN];decide) fun K hK=>?_;simp [-Q0,-Q5,-Q1,-Q6,-Q2];repeat refine sdQ ?_
  refine hK _ ?_;clear hK K;refine tn ?_;refine Q8 (st':=⟨[(1,.rptr (Fn.cells true d_)),(2,.adr 0 0 0),(4,.lst true 2 (Es (Cone.cells true) v1.1)),(6,iV s10),(19,.val (.bool (decide (s10<(v1.1.length:Int)))))],[(0,.mix 2 [[iV 0,.val (.slice none 0 0)]])],1⟩) (QL [(0,0)]) ?_;refine Qc rfl (fun g=>?_) fun g=>?_
  ·have g11:s10<(v1.1.length:Int):=gQ;clear g;replace h:=if_l g11 h;refine Qd ?_;refine tn ?_;refine Q3 ?_;refine Qa ?_;refine Q3 ?_;refine Qm [] mo (by rw [hN];decide) fun K hK=>?_;replace h:=Q4 h;obtain ⟨a12,h⟩:=h;simp [-Q0,-Q5,-Q1,-Q6,-Q2,at_E (c:=(Cone.cells true)) a12];(repeat with_reducible refine sdQ ?_);replace h:=bind_some h;obtain ⟨v13,hv13,h⟩:=h;refine QE (fz:=[]) (Q4y _ _ _ v13 hv13) (.cons (.aggL (.cons .val (.cons .lst (.cons .lst (.cons .lst (.cons .lst (.cons .val (.cons .lst (.cons .lst (.cons .lst (.cons .lst (.cons .lst (.cons .lst .nil))))))))))))) (.cons .lst (.cons (.aggL (.cons .val (.cons .lst .nil))) .nil))) ?_;simp [-Q0,-Q5,-Q1,-Q6,-Q2,unk,unA,unE,unT,unC,flat,at_E (c:=(Cone.cells true)) a12];(repeat refine sdQ ?_);refine hK _ ?_;clear hK K;refine tn ?_;refine Q8 (st':=⟨[(1,.rptr (Fn.cells true d_)),(2,.adr 0 0 0),(4,.lst true 2 (Es (Cone.cells true) v1.1)),(6,iV s10),(28,.val (.bool v13))],[(0,.mix 2 [[iV 0,.val (.slice none 0 0)]])],1⟩) (QL [(0,0)]) ?_;refine Qc rfl (fun g=>?_) fun g=>?_
   ·have g14:v13=true:=gQ;clear g;replace h:=if_l g14 h;refine Q3 ?_;refine Qm [] mo (by rw [hN];decide) fun K hK=>?_;replace h:=Q4 h;obtain ⟨a15,h⟩:=h;simp [-Q0,-Q5,-Q1,-Q6,-Q2,at_E (c:=(Cone.cells true)) a15];(repeat refine sdQ ?_);refine hK _ ?_;clear hK K;refine tn ?_;refine Q8 (st':=⟨[(2,.adr 0 0 0),(3,iV 0)],[(0,.mix 2 [(Cone.cells true (gx v1.1 s10))])],1⟩) (QL [(0,0)]) ?_;refine Qk ?_;refine br ?_;refine tr ?_;refine lr ?_;refine br ?_;refine tr ?_;cases h;have q:_=e3:=hk10;have h:=h3;rw [← q] at h;clear q;(try dsimp only at h);have hr:=Option.some.inj h;rw [← hr];exact RetFG.mk' (.cell Q5g rfl rfl rfl (by simp) (by simp) (.tmp .nil)) (.cons (.aggL (.cons .val (.cons .lst .nil))) (.cons .val .nil))
   have g14:¬ (v13=true):=gQ;clear g;replace h:=if_r g14 h;refine Qd ?_;refine bn ?_;refine tn ?_;refine Qm [] mo (by rw [hN];decide) fun K hK=>?_;replace h:=Q4 h;obtain ⟨a16,h⟩:=h;simp [-Q0,-Q5,-Q1,-Q6,-Q2,Qt a16];(repeat refine sdQ ?_);refine hK _ ?_;clear hK K;cases h;exact rn (s':=s10+1) hk10 (QL [(0,0)])
  have g11:¬ (s10<(v1.1.length:Int)):=gQ;clear g;replace h:=if_r g11 h;refine Qq ?_;refine tx ?_;refine lx ?_;refine bh ?_;cases h;exact jn (b:=()) hk10 (QL [(0,0)])
 intro b3 hb3;have h:=h3;try rw [← hb3] at h
 clear h3;try dsimp only at h
 refine Q3 ?_;refine Qm [] mo (by rw [hN];decide) fun K hK=>?_;simp [-Q0,-Q5,-Q1,-Q6,-Q2];repeat refine sdQ ?_
 refine hK _ ?_;clear hK K;refine tn ?_;refine Q8 (st':=⟨[(2,.adr 0 0 0),(3,iV 4)],[(0,.mix 2 [[iV 0,.val (.slice none 0 0)]])],1⟩) (QL [(0,0)]) ?_;refine Qk ?_;have hr:=Option.some.inj h;rw [← hr];exact RetFG.mk' (.cell Q5g rfl rfl rfl (by simp) (by simp) (.tmp .nil)) (.cons (.aggL (.cons .val (.cons .nil .nil))) (.cons .val .nil))
attribute [local simp] eL eI Qs Q24 Q1B Cone.cells Fn.cells
noncomputable def Q2c (d_:Fn):Option (Cone × Int) :=
 (Q3j d_).bind fun v1 =>
 if ¬ (v1=true) then
  some ((⟨0,[]⟩:Cone),1)
 else
  (Q3k d_).bind fun v3 =>
  (Q22 v3).bind fun v4 =>
  some (v4.1,v4.2)
theorem Q69 (d_:Fn) (r:Cone × Int) (h:Q2c d_=some r):FContract Try.prog true 23 [.agg (d_.cells true)] (.tup [.agg (r.1.cells true),iV r.2]):=by
 refine Q34 (rvs:=[.cell 2 54,.tmp 3]) (rs:=[.agg (r.1.cells true),iV r.2]) Try.func23 rfl rfl rfl rfl (by simp [Try.f23]) fun F hN hP=>?_;unfold Q2c at h;refine Q3 ?_;refine Qm [1] mo (by rw [hN];decide) fun K hK=>?_;simp [-Q0,-Q5,-Q1,-Q6,-Q2];repeat refine sdQ ?_
 refine hK _ ?_;clear hK K;refine tn ?_;refine Q8 (st':=⟨[(1,.rptr (Fn.cells true d_)),(2,.adr 0 0 0)],[(0,.mix 2 [[iV 0,.val (.slice none 0 0)]])],1⟩) (QL [(0,0)]) ?_;refine Q3 ?_;refine Q3 ?_;refine Qm [] mo (by rw [hN];decide) fun K hK=>?_;simp [-Q0,-Q5,-Q1,-Q6,-Q2];repeat with_reducible refine sdQ ?_
 replace h:=bind_some h;obtain ⟨v1,hv1,h⟩:=h;refine QE (fz:=[]) (w_s_l06Is _ v1 hv1) (.cons (.aggL (.cons .val (.cons .lst (.cons .lst (.cons .lst (.cons .lst (.cons .val (.cons .lst (.cons .lst (.cons .lst (.cons .lst (.cons .lst (.cons .lst .nil))))))))))))) .nil) ?_;simp [-Q0,-Q5,-Q1,-Q6,-Q2,unk,unA,unE,unT,unC,flat];repeat refine sdQ ?_
 refine hK _ ?_;clear hK K;refine tn ?_;refine Q8 (st':=⟨[(1,.rptr (Fn.cells true d_)),(2,.adr 0 0 0),(6,.val (.bool (!v1)))],[(0,.mix 2 [[iV 0,.val (.slice none 0 0)]])],1⟩) (QL [(0,0)]) ?_;refine Qc rfl (fun g=>?_) fun g=>?_
 ·have g2:¬ (v1=true):=gQ;clear g;replace h:=if_l g2 h;refine Q3 ?_;refine Qm [] mo (by rw [hN];decide) fun K hK=>?_;simp [-Q0,-Q5,-Q1,-Q6,-Q2];repeat refine sdQ ?_
  refine hK _ ?_;clear hK K;refine tn ?_;refine Q8 (st':=⟨[(2,.adr 0 0 0),(3,iV 1)],[(0,.mix 2 [[iV 0,.val (.slice none 0 0)]])],1⟩) (QL [(0,0)]) ?_;refine Qk ?_;refine tr ?_;have hr:=Option.some.inj h;rw [← hr];exact RetFG.mk' (.cell Q5g rfl rfl rfl (by simp) (by simp) (.tmp .nil)) (.cons (.aggL (.cons .val (.cons .nil .nil))) (.cons .val .nil))
 have g2:¬ (¬ (v1=true)):=gQ;clear g;replace h:=if_r g2 h;refine Qd ?_;refine tn ?_;refine Q3 ?_;refine Qm [] mo (by rw [hN];decide) fun K hK=>?_;simp [-Q0,-Q5,-Q1,-Q6,-Q2];repeat with_reducible refine sdQ ?_
 replace h:=bind_some h;obtain ⟨v3,hv3,h⟩:=h;refine Q1S (fz:=[]) false (Contract.toF (w_s_l06Op _ v3 hv3)) (PurK.ofL (.cons (.aggL (.cons .val (.cons .lst (.cons .lst (.cons .lst (.cons .lst (.cons .val (.cons .lst (.cons .lst (.cons .lst (.cons .lst (.cons .lst (.cons .lst .nil))))))))))))) .nil)) ?_;simp [-Q0,-Q5,-Q1,-Q6,-Q2,unk,unA,unE,unT,unC,flat];repeat with_reducible refine sdQ ?_
 replace h:=bind_some h;obtain ⟨v4,hv4,h⟩:=h;refine Q1S (fz:=[]) true (Q6S _ v4 hv4) (PurK.ofN (.cons (.aggL (.cons .val (.cons .lst (.cons .lst (.cons .lst (.cons .lst (.cons .val (.cons .lst (.cons .lst (.cons .lst (.cons .lst (.cons .lst (.cons .lst .nil))))))))))))) .nil)) ?_;simp [-Q0,-Q5,-Q1,-Q6,-Q2,unk,unA,unE,unT,unC,flat];repeat refine sdQ ?_
 refine hK _ ?_;clear hK K;refine tn ?_;refine Q8 (st':=⟨[(2,.adr 0 0 0),(3,iV v4.2)],[(0,.mix 2 [(Cone.cells true v4.1)])],1⟩) (QL [(0,0)]) ?_;refine Qk ?_;have hr:=Option.some.inj h;rw [← hr];exact RetFG.mk' (.cell Q5g rfl rfl rfl (by simp) (by simp) (.tmp .nil)) (.cons (.aggL (.cons .val (.cons .lst .nil))) (.cons .val .nil))
noncomputable def fstL (d:Fn) (L:List Cone):Cone × Int:=match lims d L with
 | []=>(⟨0,[]⟩,4)
 | p :: _=>(p,0)
theorem lims_take {d:Fn} {L:List Cone} {i:Nat} (hi:i<L.length):(L.take (i+1)).filter (fun p=>bo (unv d L p))=(L.take i).filter (fun p=>bo (unv d L p))++(if bo (unv d L (gx L i))=true then [gx L i] else []):=by
 rw [List.take_succ_eq_append_getElem hi,List.filter_append,← Q4f _ hi,List.filter_cons];simp
theorem e_limits1 {d:Fn} (hd:d.Is):Q2I d 1=some (if (Q1a d).length≤400 then ((lims d (Q1a d)).take 1,true) else ([],false)):=by
 unfold Q2I;rw [Q9 rfl,Q8c hd];simp only [Option.bind_some]
 by_cases h1:(Q1a d).length≤400
 case neg=>simp [h1]
 have hL:=Q6T hd h1;rw [if_pos h1,if_pos h1,if_neg (by simp)];simp only;generalize Q1a d=L at *;have h4:=hL.1;refine Q1y L.length (fun i=>((L.take i).filter fun p=>bo (unv d L p)).take 1) (e:=(lims d L).take 1) (by simp) (by omega) (fun i hi=>?_) (by simp only;rw [if_neg (by omega)];simp [lims]) rfl;have hi2:(i:Int)<(L.length:Int):=by omega
 simp only;rw [if_pos hi2,Q9 ⟨by omega,hi2⟩,lims_take hi];generalize (L.take i).filter (fun p=>bo (unv d L p))=A;cases A with
 | nil =>
  simp only [List.take_nil,List.length_nil,List.nil_append];rw [if_pos (by decide),(e_univ hd hL (hL.2 i hi)).2];simp only [Option.bind_some]
  by_cases hu:unv d L (gx L i)
  ·rw [QY hu,if_pos rfl,Q9 (by simp),if_pos rfl];simp only [Option.bind_some];rw [Q9 (by unfold B64;omega)];rfl
  rw [QD hu,if_neg (by simp),if_neg (by simp)];simp only [Option.bind_some];rw [Q9 (by unfold B64;omega)];rfl
 | cons a A =>
  rw [if_neg (by simp)];simp only [Option.bind_some,Bool.false_eq_true,if_false];rw [Q9 (by unfold B64;omega)];simp
theorem e_limit1 {d:Fn} (hd:d.Is):Q3i d=some (if (Q1a d).length≤400 then fstL d (Q1a d) else (⟨0,[]⟩,3)):=by
 unfold Q3i;rw [e_limits1 hd];simp only [Option.bind_some]
 by_cases h1:(Q1a d).length≤400
 case neg=>simp [h1]
 rw [if_pos h1,if_pos h1];simp only [not_true_eq_false,if_false];unfold fstL;cases lims d (Q1a d) with
 | nil=>simp
 | cons p ps =>
  rw [if_neg (by simp),Q9 (by simp)];rfl
theorem Q8d {d:Fn} (hd:d.Is):Q22 d=some (if (Q1a d).length≤400 then fstL d (Q1a d) else (⟨0,[]⟩,3)):=by
 unfold Q22;rw [e_clist hd]
 by_cases h1:(Q1a d).length≤400
 case neg=>simp [h1]
 have hL:=Q6T hd h1;rw [if_pos h1,if_pos h1];simp only [Option.bind_some,not_true_eq_false,if_false];generalize Q1a d=L at *;have h4:=hL.1;refine QT (σ:=Int) (Q:=fun z=>z=some (fstL d L)) L.length (fun i s=>s=(i:Int)∧∀ j:Nat,j<i→¬ unv d L (gx L j))
  (fun e:Unit ⊕ (Cone × Int)=>match e with
   | .inl _=>lims d L=[]
   | .inr e=>e=fstL d L) (by omega) ⟨rfl,fun j hj=>by omega⟩ ?_ ?_ ?_
 ·intro i s hi ⟨hs,hn⟩;subst hs;have hi2:(i:Int)<(L.length:Int):=by omega
  rw [if_pos hi2,Q9 ⟨by omega,hi2⟩,(e_univ hd hL (hL.2 i hi)).1];simp only [Option.bind_some]
  by_cases hu:unv d L (gx L i)
  ·right;obtain ⟨ps,hps⟩:=lims_at hi hn hu;rw [QY hu,if_pos rfl,Q9 ⟨by omega,hi2⟩];exact ⟨_,rfl,by simp [fstL,hps]⟩
  left;rw [QD hu,if_neg (by simp),Q9 (by unfold B64;omega)];refine ⟨_,rfl,rfl,fun j hj=>?_⟩
  by_cases hji:j=i
  ·subst hji;exact hu
  exact hn j (by omega)
 ·intro s ⟨hs,hn⟩;subst hs;rw [if_neg (by omega)];exact ⟨_,rfl,lims_no hn⟩
 intro e hE;cases e with
 | inl e =>
  simp only at hE ⊢;simp [fstL,hE]
 | inr e=>rw [hE]
theorem fstL_ok {d:Fn} (hd:d.Is) (h:(Q1a d).length≤400):(fstL d (Q1a d)).1.l.length≤8:=by
 have hL:=Q6T hd h;unfold fstL;cases e:lims d (Q1a d) with
 | nil=>simp
 | cons p ps =>
  have g:=mem_lims hL (p:=p) (by rw [e];simp);have:=g.2.1;have:=hd.lob;simp only;omega
theorem Q7d (d:Fn):∃ r,Q2c d=some r∧Q2b d=some r∧r.1.ok∧r.1.size≤10000:=by
 unfold Q2c Q2b;rw [e_l06Is,Q71]
 by_cases hd:d.Is
 case neg=>exact ⟨(⟨0,[]⟩,1),by simp [QD hd],by simp [QD hd],by simp [Cone.ok],by simp [Cone.size]⟩
 rw [QY hd,e_cocones hd,(e_l06Op hd).1];have hd':=opF_is hd;simp only [Option.bind_some,not_true_eq_false,if_false];generalize opF d=d at *;unfold Q11;simp only [Option.bind_some];rw [Q8d hd',e_limit1 hd']
 by_cases h1:(Q1a d).length≤400
 ·rw [if_pos h1];have:=fstL_ok hd' h1;refine ⟨fstL d (Q1a d),rfl,rfl,?_,?_⟩
  ·simp only [Cone.ok];exact ⟨by omega,trivial⟩
  simp only [Cone.size];omega
 rw [if_neg h1];exact ⟨(⟨0,[]⟩,3),rfl,rfl,by simp [Cone.ok],by simp [Cone.size]⟩
end Go.Vc.T
