/- A part of the proof: a verified generator of conditions, and what each function of the program does. -/
import Derived.Test.YtjfnifbgmcjjkaaGreatS12
set_option maxRecDepth 100000
set_option maxHeartbeats 4000000
set_option linter.unusedSimpArgs false
set_option linter.unusedVariables false

namespace Go.Vc.T
open Go Go.Vc Go.Proofs
attribute [local simp] unk unA unE unT unC flat eL eI Qr Q1g Qk Q9 Prf.cells XComposite.cells XTripleint64.cells
noncomputable def QC (k_:XComposite) (x_:Int) (z_:Int) (image_0:XComposite) (image_1:Int) (image_2:Int) (image_3:Prf) (image_4:Int):Option (List Int) :=
 ass (0≤x_∧x_<(k_.classes_.length:Int)) <|
 ass (0≤z_∧z_<((gx k_.classes_ x_).length:Int)) <|
 (QT (rx (gx k_.classes_ x_) z_)).bind fun v3 =>
 ass (0≤v3∧v3≤1073741824) <|
 ass (0≤x_∧x_<(k_.triples_.length:Int)) <|
 ass (0≤z_∧z_<((gx k_.triples_ x_).length:Int)) <|
 (Qy (σ:=List Int × Int) (ε:=List Int) (fun s16 =>
  if s16.2<((gx (gx k_.triples_ x_) z_).length:Int) then
   ass (0≤s16.2∧s16.2<((gx (gx k_.triples_ x_) z_).length:Int)) <|
   ass (0≤x_∧x_<(k_.classes_.length:Int)) <|
   ass (0≤z_∧z_<((gx k_.classes_ x_).length:Int)) <|
   ass (0≤s16.2∧s16.2<((rx (gx k_.classes_ x_) z_).length:Int)) <|
   (QS (gx (gx (gx k_.triples_ x_) z_) s16.2) image_0 image_1 image_2 image_3 image_4).bind fun v22 =>
   ass (0≤ix (rx (gx k_.classes_ x_) z_) s16.2∧ix (rx (gx k_.classes_ x_) z_) s16.2<(s16.1.length:Int)) <|
   ass (B64 (s16.2+1)) <|
   some (Ctl.next (s16.1.set ((ix (rx (gx k_.classes_ x_) z_) s16.2).toNat) v22,s16.2+1))
  else
   some (Ctl.ret s16.1)) fuel (List.replicate v3.toNat 0,0)).bind fun b7 =>
 some b7
theorem Q1p {F : Fx} {st st' : St} (m : List (Nat × Nat)) (h : (m.map Prod.fst).Nodup ∧ (m.map Prod.snd).Nodup ∧ (∀ id, id < F.pins → look id m = some id) ∧ (∀ p ∈ m, p.2 < st'.n) ∧ (∀ p ∈ st'.h, p.1 < st'.n) ∧ (∀ p ∈ st'.s, p.2 = rl m (st.get p.1) ∨ p.2 = .bot) ∧ ∀ p ∈ st'.h, hhOk m st.h p.1 p.2 := by simp [hP, hhOk, back, idQ, Prf.cells, XComposite.cells, XTripleint64.cells, UA, U1, IA, I1, LA, L1, BA, B1, EA, E1, E2, eB, eI, eL, Q8 _ Qk _ (fun _=>rfl), Q8 _ Q9 _ (fun _=>rfl), Q8 _ (XTripleint64.cells true) _ (fun _=>rfl), Q8 _ (fun x=>[.lst true 1 (Es (fun x=>[.lst true 3 (Es (XTripleint64.cells true) x)]) x)]) _ (fun _=>rfl), Q8 _ (fun x=>[.lst true 3 (Es (XTripleint64.cells true) x)]) _ (fun _=>rfl), Cat.cells]) : Wk F st st' := Wk.r1 m h
theorem Q1F {F : Fx} {st st' : St} (m : Nat) (h : ((idQ m).map Prod.fst).Nodup ∧ ((idQ m).map Prod.snd).Nodup ∧ (∀ id, id < F.pins → look id (idQ m) = some id) ∧ (∀ p ∈ (idQ m), p.2 < st'.n) ∧ (∀ p ∈ st'.h, p.1 < st'.n) ∧ (∀ p ∈ st'.s, p.2 = rl (idQ m) (st.get p.1) ∨ p.2 = .bot) ∧ ∀ p ∈ st'.h, hhOk (idQ m) st.h p.1 p.2 := by simp [hP, hhOk, back, idQ, Prf.cells, XComposite.cells, XTripleint64.cells, UA, U1, IA, I1, LA, L1, BA, B1, EA, E1, E2, eB, eI, eL, Q8 _ Qk _ (fun _=>rfl), Q8 _ Q9 _ (fun _=>rfl), Q8 _ (XTripleint64.cells true) _ (fun _=>rfl), Q8 _ (fun x=>[.lst true 1 (Es (fun x=>[.lst true 3 (Es (XTripleint64.cells true) x)]) x)]) _ (fun _=>rfl), Q8 _ (fun x=>[.lst true 3 (Es (XTripleint64.cells true) x)]) _ (fun _=>rfl), Cat.cells]) : Wk F st st' := Wk.r1 (idQ m) h
@[simp] abbrev Yl (a:XComposite) (b c:Int) (d:Prf) (e:Int) (f:List (Nat × AV)):List (Nat × AV):=(3,.fn 73 [.rptr [.rptr (Y1e a [])],.rptr [iV b],.rptr [iV c],.rptr (Y1j d []),.rptr [iV e]])::f
theorem Q1w (k_:XComposite) (x_:Int) (z_:Int) (image_0:XComposite) (image_1:Int) (image_2:Int) (image_3:Prf) (image_4:Int) (r:List Int) (h:QC k_ x_ z_ image_0 image_1 image_2 image_3 image_4=some r):Contract Tryz.prog 34 [.rptr (k_.cells true),iV x_,iV z_,.fn 73 [.rptr [.rptr (Y1e image_0 [])],.rptr [iV image_1],.rptr [iV image_2],.rptr (Y1j image_3 []),.rptr [iV image_4]]] (lI r):=by
 refine Qc (rvs:=[.tmp 8]) (rs:=[lI r]) Tryz.func34 rfl rfl rfl rfl (by simp [Tryz.f34]) fun F hN hP=>?_;unfold QC at h;refine Q3 (runQ hN fun K hK=>?_);simp;repeat refine sdQ ?_
 refine hK _ ?_;clear hK K;refine tn (Q7 (st':=⟨Y4 k_ x_ z_ (Yl image_0 image_1 image_2 image_3 image_4 []),[],0⟩) (Q1p []) (Q3 (runQ hN fun K hK=>?_)));replace ⟨a1,h⟩:=Q0 h;replace ⟨a2,h⟩:=Q0 h;simp [at_E (c:=eL) a1,at_L a2];repeat with_reducible refine sdQ ?_
 replace ⟨v3,hv3,h⟩:=bind_some h;refine Q6 (Q1D _ v3 hv3) (.cons .lst .nil) ?_;replace ⟨a4,h⟩:=Q0 h;simp [at_E (c:=eL) a1,at_L a2];repeat refine sdQ ?_
 refine hK _ ?_;clear hK K;refine tn (Q7 (st':=⟨Y4 k_ x_ z_ (Yl image_0 image_1 image_2 image_3 image_4 (Y0I v3 [])),Y0Q v3 [],1⟩) (Q1p [(1,0)]) (Q3 (Q3 (runQ hN fun K hK=>?_))));replace ⟨a5,h⟩:=Q0 h;replace ⟨a6,h⟩:=Q0 h;simp [at_E (c:=(fun x=>[.lst true 1 (Es (fun x=>[.lst true 3 (Es (XTripleint64.cells true) x)]) x)])) a5,at_E (c:=(fun x=>[.lst true 3 (Es (XTripleint64.cells true) x)])) a6];repeat refine sdQ ?_
 refine hK _ (tn (Q7 (st':=⟨Y4 k_ x_ z_ (Yl image_0 image_1 image_2 image_3 image_4 (Y0I v3 (YE k_ x_ z_ [(35,iV 0)]))),Y0Q v3 [],1⟩) (Q1p [(0,0)]) ?_));clear hK K;replace ⟨e7,h,h7⟩:=bind_some h;refine Qg (fun b7:List Int=>⟨[(9,.own 0 0 b7.length)],[(0,rI b7)],1⟩) (fun b7=>b7=e7) ?_ ?_
 ·refine Qa (Qn h (fun s16:List Int × Int=>⟨Y4 k_ x_ z_ (Yl image_0 image_1 image_2 image_3 image_4 ((9,.own 0 0 s16.1.length)::YE k_ x_ z_ [(35,iV s16.2)])),[(0,rI s16.1)],1⟩) (Q1p [(0,0)]) ?_);clear h;intro k16 s16 c16 h hk16;refine Q3 (runQ hN fun K hK=>?_);simp;repeat refine sdQ ?_
  refine hK _ ?_;clear hK K;refine tn (Q3 (Qd rfl (fun g=>?_) fun g=>?_))
  ·have g17:s16.2<((gx (gx k_.triples_ x_) z_).length:Int):=gQ;clear g;replace h:=if_l g17 h;refine Qe (tn (Q3 (Qa (Q3 (runQ hN fun K hK=>?_)))));replace ⟨a18,h⟩:=Q0 h;simp [at_E (c:=(XTripleint64.cells true)) a18];(repeat refine sdQ ?_);refine hK _ ?_;clear hK K;refine tn (Q7 (st':=⟨Y4 k_ x_ z_ (Yl image_0 image_1 image_2 image_3 image_4 ((9,.own 0 0 s16.1.length)::(10,iV s16.2)::(11,.adr 1 0 0)::YE k_ x_ z_ [(35,iV s16.2)])),[(0,rI s16.1),(1,.mix 3 [(XTripleint64.cells true (gx (gx (gx k_.triples_ x_) z_) s16.2))])],2⟩) (Q1p [(0,0),(1,1)]) (runQ hN fun K hK=>?_));replace ⟨a19,h⟩:=Q0 h;replace ⟨a20,h⟩:=Q0 h;replace ⟨a21,h⟩:=Q0 h;simp [at_E (c:=eL) a19,at_L a20,at_I a21];(repeat with_reducible refine sdQ ?_);replace ⟨v22,hv22,h⟩:=bind_some h;refine Q6 (Q38 _ _ _ _ _ _ v22 hv22) (.cons (.aggL (.cons .val (.cons .val (.cons .val .nil)))) (.cons .rptr (.cons .rptr (.cons .rptr (.cons .rptr (.cons .rptr .nil)))))) ?_;replace ⟨a23,h⟩:=Q0 h;simp [at_E (c:=eL) a19,at_L a20,at_I a21,at_I a23];(repeat refine sdQ ?_);refine hK _ (bn (tn ?_));clear hK K
   refine Q7 (st':=⟨Y4 k_ x_ z_ (Yl image_0 image_1 image_2 image_3 image_4 ((9,.own 0 0 ((s16.1.set ((ix (rx (gx k_.classes_ x_) z_) s16.2).toNat) v22).length))::YE k_ x_ z_ [(35,iV s16.2)])),[(0,rI (s16.1.set ((ix (rx (gx k_.classes_ x_) z_) s16.2).toNat) v22))],1⟩) (Q1p [(0,0)]) (runQ hN fun K hK=>?_);replace ⟨a24,h⟩:=Q0 h;simp [Qh a24];(repeat refine sdQ ?_);refine hK _ ?_;clear hK K;cases h;exact rn (s':=(s16.1.set ((ix (rx (gx k_.classes_ x_) z_) s16.2).toNat) v22,s16.2+1)) hk16 (Q1p [(0,0)])
  have g17:¬ (s16.2<((gx (gx k_.triples_ x_) z_).length:Int)):=gQ;clear g;replace h:=if_r g17 h;refine Qm (tx (lx (bh ?_)));cases h;exact jn (b:=s16.1) hk16 (Q1p [(0,0)])
 intro b7 hb7;have h:=h7;try rw [← hb7] at h
 clear h7;try dsimp only at h
 refine Q3 (runQ hN fun K hK=>?_);simp;repeat refine sdQ ?_
 refine hK _ (tn (Q7 (st':=⟨[(8,.own 0 0 b7.length)],[(0,rI b7)],1⟩) (Q1p [(0,0)]) (Qo ?_)));clear hK K;have hr:=Option.some.inj h;rw [← hr];refine ⟨_,(.tmp .nil),?_⟩;refine ⟨(.one rfl rfl .nil),[lI b7],[0],by simp [Prf.cells,XComposite.cells,XTripleint64.cells,UA,U1,IA,I1,LA,L1,BA,B1,EA,E1,E2,eB,eI,eL,Q8 _ Qk _ (fun _=>rfl),Q8 _ Q9 _ (fun _=>rfl),Q8 _ (XTripleint64.cells true) _ (fun _=>rfl),Q8 _ (fun x=>[.lst true 1 (Es (fun x=>[.lst true 3 (Es (XTripleint64.cells true) x)]) x)]) _ (fun _=>rfl),Q8 _ (fun x=>[.lst true 3 (Es (XTripleint64.cells true) x)]) _ (fun _=>rfl)],by simp,(UpL.refl _)⟩
attribute [local simp] unk unA unE unT unC flat eL eI Qr Q1g Qk Prf.cells XComposite.cells
noncomputable def Q1e (b_:Int) (x_:Int) (c0_:Prf) (c1_:XComposite):Option (List Int) :=
 ass (0≤b_∧b_<(c0_.t.fr.length:Int)) <|
 ass (0≤b_∧b_<(c0_.t.to.length:Int)) <|
 (QC c1_ x_ (ix c0_.t.fr b_) c1_ x_ (ix c0_.t.to b_) c0_ b_).bind fun v3 =>
 some v3
theorem Q4A (b_:Int) (x_:Int) (c0_:Prf) (c1_:XComposite) (r:List Int) (h:Q1e b_ x_ c0_ c1_=some r):Contract Tryz.prog 72 [iV b_,iV x_,.rptr (Y1j c0_ []),.rptr [.rptr (Y1e c1_ [])]] (lI r):=by
 refine Qc (rvs:=[.tmp 6]) (rs:=[lI r]) Tryz.func72 rfl rfl rfl rfl (by simp [Tryz.f72]) fun F hN hP=>?_;unfold Q1e at h;refine Q3 (runQ hN fun K hK=>?_);simp;repeat refine sdQ ?_
 refine hK _ ?_;clear hK K;refine tn (Q7 (st':=⟨Yt c0_ c1_ [],[(0,.mix 1 [[iV b_]]),(1,.mix 1 [[iV x_]])],2⟩) (Q1p [(0,0),(1,1)]) (Q3 (runQ hN fun K hK=>?_)));replace ⟨a1,h⟩:=Q0 h;replace ⟨a2,h⟩:=Q0 h;simp [at_I a1,at_I a2];repeat refine sdQ ?_
 refine hK _ ?_;clear hK K;refine tn (Q7 (st':=⟨Yt c0_ c1_ [(7,iV (ix c0_.t.fr b_)),(8,.adr 2 0 0)],[(0,.mix 1 [[iV b_]]),(1,.mix 1 [[iV x_]]),(2,.mix 1 [[iV (ix c0_.t.to b_)]])],3⟩) (Q1F 3) (Q3 (QG [] mo (by rw [hN];decide) fun K hK=>?_)));simp;repeat with_reducible refine sdQ ?_
 replace ⟨v3,hv3,h⟩:=bind_some h;refine Q1G (fz:=[]) (Q1w _ _ _ _ _ _ _ _ v3 hv3) (.cons (.preT (by simp [Prf.cells,XComposite.cells])) (.cons .val (.cons .val (.cons (.fnL (by simp) (.cons .rptr (.cons (.field rfl (by simp [Prf.cells,XComposite.cells]) (.cons .val .nil)) (.cons (.field rfl (by simp [Prf.cells,XComposite.cells]) (.cons .val .nil)) (.cons .rptr (.cons (.field rfl (by simp [Prf.cells,XComposite.cells]) (.cons .val .nil)) .nil)))))) .nil)))) ?_;simp;repeat refine sdQ ?_
 refine hK _ (tn (Q7 (st':=⟨[(6,.own 0 0 v3.length)],[(0,rI v3)],1⟩) (Q1p [(3,0)]) (Qo ?_)));clear hK K;have hr:=Option.some.inj h;rw [← hr];refine ⟨_,(.tmp .nil),?_⟩;refine ⟨(.one rfl rfl .nil),[lI v3],[0],by simp [Prf.cells,XComposite.cells,UA,U1,IA,I1,LA,L1,BA,B1,EA,E1,E2,eB,eI,eL,Q8 _ Qk _ (fun _=>rfl),Q8 _ (XTripleint64.cells true) _ (fun _=>rfl),Q8 _ (fun x=>[.lst true 1 (Es (fun x=>[.lst true 3 (Es (XTripleint64.cells true) x)]) x)]) _ (fun _=>rfl),Q8 _ (fun x=>[.lst true 3 (Es (XTripleint64.cells true) x)]) _ (fun _=>rfl)],by simp,(UpL.refl _)⟩
attribute [local simp] unk unA unE unT unC flat eL eI Qr Q16 Q1g Qk Cat.cells Prf.cells XComposite.cells
noncomputable def Qi (c_:Cat) (d_:Cat) (size_0:XComposite) (before_0:Prf) (before_1:XComposite) (behind_0:Prf) (behind_1:XComposite):Option (Prf × Bool) :=
 (QP c_).bind fun v1 =>
 (QP d_).bind fun v2 =>
 (Qy (σ:=List (List Int) × Int) (ε:=(List (List Int)) ⊕ (Prf × Bool)) (fun s24 =>
  if s24.2<c_.n then
   ass ((0:Int)≤0∧0≤d_.n∧d_.n≤1073741824) <|
   (Qy (σ:=List Int × Int) (ε:=(List Int) ⊕ (Prf × Bool)) (fun s35 =>
    if s35.2<d_.n then
     ass (0≤s35.2∧s35.2≤(s35.1.length:Int)) <|
     (Q1A s24.2 s35.2 size_0).bind fun v38 =>
     ass (((s35.1.take s35.2.toNat)++[v38]).length≤1073741824) <|
     ass (0≤s35.2∧s35.2<(((s35.1.take s35.2.toNat)++[v38]).length:Int)) <|
     if (ix ((s35.1.take s35.2.toNat)++[v38]) s35.2) > 64 then
      some (Ctl.ret (Sum.inr ((⟨(⟨0,[],[],[],[]⟩:Cat),(⟨0,[],[],[],[]⟩:Cat),[],[],[]⟩:Prf),false)))
     else
      ass (B64 (s35.2+1)) <|
      some (Ctl.next ((s35.1.take s35.2.toNat)++[v38],s35.2+1))
    else
     some (Ctl.ret (Sum.inl s35.1))) fuel (List.replicate 0 0,0)).bind fun e27 =>
   match e27 with
   | .inl b27 =>
    ass ((s24.1++[b27]).length≤1073741824) <|
    ass (B64 (s24.2+1)) <|
    some (Ctl.next (s24.1++[b27],s24.2+1))
   | .inr p27 =>
    some (Ctl.ret (Sum.inr p27))
  else
   some (Ctl.ret (Sum.inl s24.1))) fuel ([],0)).bind fun e3 =>
 match e3 with
 | .inl b3 =>
  (Qy (σ:=List (List (List Int)) × Int) (ε:=List (List (List Int))) (fun s59 =>
   if s59.2<(c_.fr.length:Int) then
    (Qy (σ:=List (List Int) × Int) (ε:=List (List Int)) (fun s66 =>
     if s66.2<d_.n then
      (Q1d s59.2 s66.2 before_0 before_1).bind fun v68 =>
      ass ((s66.1++[v68]).length≤1073741824) <|
      ass (B64 (s66.2+1)) <|
      some (Ctl.next (s66.1++[v68],s66.2+1))
     else
      some (Ctl.ret s66.1)) fuel ([],0)).bind fun b61 =>
    ass ((s59.1++[b61]).length≤1073741824) <|
    ass (B64 (s59.2+1)) <|
    some (Ctl.next (s59.1++[b61],s59.2+1))
   else
    some (Ctl.ret s59.1)) fuel ([],0)).bind fun b45 =>
  (Qy (σ:=List (List (List Int)) × Int) (ε:=List (List (List Int))) (fun s87 =>
   if s87.2<(d_.fr.length:Int) then
    (Qy (σ:=List (List Int) × Int) (ε:=List (List Int)) (fun s94 =>
     if s94.2<c_.n then
      (Q1e s87.2 s94.2 behind_0 behind_1).bind fun v96 =>
      ass ((s94.1++[v96]).length≤1073741824) <|
      ass (B64 (s94.2+1)) <|
      some (Ctl.next (s94.1++[v96],s94.2+1))
     else
      some (Ctl.ret s94.1)) fuel ([],0)).bind fun b89 =>
    ass ((s87.1++[b89]).length≤1073741824) <|
    ass (B64 (s87.2+1)) <|
    some (Ctl.next (s87.1++[b89],s87.2+1))
   else
    some (Ctl.ret s87.1)) fuel ([],0)).bind fun b73 =>
  some ((⟨v1,v2,b3,b45,b73⟩:Prf),true)
 | .inr p3 =>
  some p3
@[simp] abbrev Y0 (a:Prf) (b:XComposite) (c:Prf) (d:XComposite) (e:List (Nat × AV)):List (Nat × AV):=(3,.fn 70 [.rptr (Y1j a []),.rptr [.rptr (Y1e b [])]])::(4,.fn 72 [.rptr (Y1j c []),.rptr [.rptr (Y1e d [])]])::(10,.adr 0 0 0)::e
@[simp] abbrev Ya (a:Prf) (b:XComposite) (c:List (Nat × AV)):List (Nat × AV):=(4,.fn 72 [.rptr (Y1j a []),.rptr [.rptr (Y1e b [])]])::(10,.adr 0 0 0)::(12,.adr 1 0 0)::c
@[simp] abbrev Yd (a b:Cat) (c:XComposite) (d:List (Nat × AV)):List (Nat × AV):=(0,.rptr (Cat.cells true a))::(1,.rptr (Cat.cells true b))::(2,.fn 68 [.rptr [.rptr (Y1e c [])]])::d
theorem Q12 (c_:Cat) (d_:Cat) (size_0:XComposite) (before_0:Prf) (before_1:XComposite) (behind_0:Prf) (behind_1:XComposite) (r:Prf × Bool) (h:Qi c_ d_ size_0 before_0 before_1 behind_0 behind_1=some r):Contract Tryz.prog 67 [.rptr (c_.cells true),.rptr (d_.cells true),.fn 68 [.rptr [.rptr (Y1e size_0 [])]],.fn 70 [.rptr (Y1j before_0 []),.rptr [.rptr (Y1e before_1 [])]],.fn 72 [.rptr (Y1j behind_0 []),.rptr [.rptr (Y1e behind_1 [])]]] (.tup [.agg (r.1.cells true),.val (.bool r.2)]):=by
 refine Qc (rvs:=[.cell 10 45,.tmp 11]) (rs:=[.agg (r.1.cells true),.val (.bool r.2)]) Tryz.func67 rfl rfl rfl rfl (by simp [Tryz.f67]) fun F hN hP=>?_;unfold Qi at h;refine Q3 (runQ hN fun K hK=>?_);simp;repeat refine sdQ ?_
 refine hK _ ?_;clear hK K;refine tn (Q7 (st':=⟨Yd c_ d_ size_0 (Y0 before_0 before_1 behind_0 behind_1 []),Ys [],1⟩) (Q1p [(0,0)]) (Q3 (runQ hN fun K hK=>?_)));simp;repeat with_reducible refine sdQ ?_
 replace ⟨v1,hv1,h⟩:=bind_some h;refine Q6 (Q1o _ v1 hv1) (.cons (.preT (by simp [Cat.cells,Prf.cells,XComposite.cells])) .nil) ?_;simp;repeat with_reducible refine sdQ ?_
 replace ⟨v2,hv2,h⟩:=bind_some h;refine Q6 (Q1o _ v2 hv2) (.cons (.preT (by simp [Cat.cells,Prf.cells,XComposite.cells])) .nil) ?_;simp;repeat refine sdQ ?_
 refine hK _ ?_;clear hK K;refine tn (Q7 (st':=⟨Yd c_ d_ size_0 (Y0 before_0 before_1 behind_0 behind_1 (Y0k [])),Ys (YR v1 v2 (Y7 v1 v2 [])),10⟩) (Q1p [(0,0),(11,1),(2,2),(3,3),(4,4),(5,5),(7,6),(8,7),(9,8),(10,9)]) (Q3 (Q3 (runQ hN fun K hK=>?_))));simp;repeat refine sdQ ?_
 refine hK _ (tn (Q7 (st':=⟨Yd c_ d_ size_0 (Y0 before_0 before_1 behind_0 behind_1 (Y0k [(13,iV 0)])),Ys (YR v1 v2 (Y7 v1 v2 [])),10⟩) (Q1F 10) ?_));clear hK K;replace ⟨e3,h,h3⟩:=bind_some h
 refine Qg (fun b3:List (List Int)=>⟨YD c_ d_ (Y0 before_0 before_1 behind_0 behind_1 (Y0k [])),Ys (YQ v1 v2 b3 (Y7 v1 v2 [(10,.row 1 (Ls b3))])),11⟩) (fun b3=>Sum.inl b3=e3) ?_ ?_
 ·refine Qa ?_
  refine Qn h (fun s24:List (List Int) × Int=>⟨Yd c_ d_ size_0 (Y0 before_0 before_1 behind_0 behind_1 (Y0k [(13,iV s24.2)])),Yi v1 v2 s24 (Y7 v1 v2 [(10,.row 1 (Ls s24.1))]),11⟩) (Q1J ⟨Yd c_ d_ size_0 (Y0 before_0 before_1 behind_0 behind_1 (Y0k [(13,iV 0)])),Ys (Y0E v1 v2 (Y7 v1 v2 [(10,.row 1 (Ls []))])),11⟩ (Wk.nils [(10,1)] (by simp) (by simp) (by simp [nlA]) (by simp [entN,nlL,nlA,Cat.cells,Prf.cells,XComposite.cells,UA,U1,IA,I1,LA,L1,BA,B1,EA,E1,E2,eB,eI,eL,Q8 _ Qk _ (fun _=>rfl),Q8 _ (XTripleint64.cells true) _ (fun _=>rfl),Q8 _ (fun x=>[.lst true 1 (Es (fun x=>[.lst true 3 (Es (XTripleint64.cells true) x)]) x)]) _ (fun _=>rfl),Q8 _ (fun x=>[.lst true 3 (Es (XTripleint64.cells true) x)]) _ (fun _=>rfl)]) (by simp)) (Q1F 11)) ?_
  clear h;intro k24 s24 c24 h hk24;refine Q3 (Q3 (runQ hN fun K hK=>?_));simp;repeat refine sdQ ?_
  refine hK _ ?_;clear hK K;refine tn (Qd rfl (fun g=>?_) fun g=>?_)
  ·have g25:s24.2<c_.n:=gQ;clear g;replace h:=if_l g25 h;refine Qe (tn (Q3 (Qa (Q3 (runQ hN fun K hK=>?_)))));replace ⟨a26,h⟩:=Q0 h;simp;(repeat refine sdQ ?_);refine hK _ ?_;clear hK K;refine tn (Q7 (st':=⟨Yd c_ d_ size_0 (Y0 before_0 before_1 behind_0 behind_1 (Y0k ((13,iV s24.2)::Y15 []))),Yi v1 v2 s24 (Y7 v1 v2 [(10,.row 1 (Ls s24.1)),(11,rI (List.replicate 0 0))]),12⟩) (Q1F 12) (Q3 (Q3 (runQ hN fun K hK=>?_))));simp;(repeat refine sdQ ?_);refine hK _ (tn ?_);clear hK K
   refine Q7 (st':=⟨Yd c_ d_ size_0 (Y0 before_0 before_1 behind_0 behind_1 (Y0k ((13,iV s24.2)::Y15 [(15,iV 0)]))),Yi v1 v2 s24 (Y7 v1 v2 [(10,.row 1 (Ls s24.1)),(11,rI (List.replicate 0 0))]),12⟩) (Q1F 12) ?_;replace ⟨e27,h,h27⟩:=bind_some h
   refine Qg (fun b27:List Int=>⟨Yd c_ d_ size_0 (Y0 before_0 before_1 behind_0 behind_1 (Y0k [(13,iV s24.2),(14,.own 11 0 b27.length)])),Yi v1 v2 s24 (Y7 v1 v2 [(10,.row 1 (Ls s24.1)),(11,rI b27)]),12⟩) (fun b27=>Sum.inl b27=e27) ?_ ?_
   ·refine Qa (Qn h (fun s35:List Int × Int=>⟨Yd c_ d_ size_0 (Y0 before_0 before_1 behind_0 behind_1 (Y0k [(13,iV s24.2),(14,.own 11 0 s35.1.length),(15,iV s35.2)])),Yi v1 v2 s24 (Y7 v1 v2 [(10,.row 1 (Ls s24.1)),(11,rI s35.1)]),12⟩) (Q1F 12) ?_);clear h;intro k35 s35 c35 h hk35;refine Q3 (Q3 (runQ hN fun K hK=>?_));simp;(repeat refine sdQ ?_);refine hK _ ?_;clear hK K;refine tn (Qd rfl (fun g=>?_) fun g=>?_)
    ·have g36:s35.2<d_.n:=gQ;clear g;replace h:=if_l g36 h;refine Qe (tn (Q3 (Qa (Q3 (QG [] mo (by rw [hN];decide) fun K hK=>?_)))));replace ⟨a37,h⟩:=Q0 h;simp [a37];(repeat with_reducible refine sdQ ?_);replace ⟨v38,hv38,h⟩:=bind_some h;refine Q1G (fz:=[]) (Q5i _ _ _ v38 hv38) (.cons .val (.cons .val (.cons .rptr .nil))) ?_;replace ⟨a39,h⟩:=Q0 h;(try simp only [List.length_append,List.length_cons,List.length_nil] at a39);simp [a39];(repeat refine sdQ ?_);refine hK _ (tn ?_);clear hK K
     refine Q7 (st':=⟨Yd c_ d_ size_0 (Y0 before_0 before_1 behind_0 behind_1 (Y0k [(13,iV s24.2),(14,.own 11 0 (((s35.1.take s35.2.toNat)++[v38]).length)),(15,iV s35.2)])),Yi v1 v2 s24 (Y7 v1 v2 [(10,.row 1 (Ls s24.1)),(11,rI ((s35.1.take s35.2.toNat)++[v38]))]),12⟩) (Q1p [(0,0),(1,1),(2,2),(3,3),(4,4),(5,5),(6,6),(7,7),(8,8),(9,9),(10,10),(14,11)]) (Q3 (runQ hN fun K hK=>?_));replace ⟨a40,h⟩:=Q0 h;simp [at_I a40];(repeat refine sdQ ?_);refine hK _ ?_;clear hK K;refine tn (Qd rfl (fun g=>?_) fun g=>?_)
     ·have g41:(ix ((s35.1.take s35.2.toNat)++[v38]) s35.2) > 64:=gQ;clear g;replace h:=if_l g41 h;refine Q3 (runQ hN fun K hK=>?_);simp;(repeat refine sdQ ?_);refine hK _ (tn (Q7 (st':=⟨[(10,.adr 0 0 0),(11,.val (.bool false))],Ys [],1⟩) (Q1p [(0,0)]) (Qo (br (tr (lr (br (tr (br (tr (lr (br (tr ?_)))))))))))));clear hK K;cases h;have q:_=e27:=hk35;have h:=h27;rw [← q] at h;clear q;(try dsimp only at h);cases h;have q:_=e3:=hk24;have h:=h3;rw [← q] at h;clear q;(try dsimp only at h);have hr:=Option.some.inj h;rw [← hr];refine ⟨_,(.cell Q8k rfl rfl rfl (by simp) (by simp) (.tmp .nil)),?_⟩;refine ⟨(.agg rfl (.one rfl rfl .nil)),[iV 0,nS,nS,nS,nS,iV 0,nS,nS,nS,nS,nS,nS,nS,.val (.bool false)],[],by simp [Cat.cells,Prf.cells,XComposite.cells,UA,U1,IA,I1,LA,L1,BA,B1,EA,E1,E2,eB,eI,eL,Q8 _ Qk _ (fun _=>rfl),Q8 _ (XTripleint64.cells true) _ (fun _=>rfl),Q8 _ (fun x=>[.lst true 1 (Es (fun x=>[.lst true 3 (Es (XTripleint64.cells true) x)]) x)]) _ (fun _=>rfl),Q8 _ (fun x=>[.lst true 3 (Es (XTripleint64.cells true) x)]) _ (fun _=>rfl)],by simp,(.cons .refl (.cons .nil (.cons .nil (.cons .nil (.cons .nil (.cons .refl (.cons .nil (.cons .nil (.cons .nil (.cons .nil (.cons .nil (.cons .nil (.cons .nil (.cons .refl .nil))))))))))))))⟩
     have g41:¬ ((ix ((s35.1.take s35.2.toNat)++[v38]) s35.2) > 64):=gQ;clear g;replace h:=if_r g41 h;refine Qe (bn (tn (runQ hN fun K hK=>?_)));replace ⟨a42,h⟩:=Q0 h;simp [Qh a42];(repeat refine sdQ ?_);refine hK _ ?_;clear hK K;cases h;exact rn (s':=((s35.1.take s35.2.toNat)++[v38],s35.2+1)) hk35 (Q1F 12)
    have g36:¬ (s35.2<d_.n):=gQ;clear g;replace h:=if_r g36 h;refine Qm (tx (lx (bh ?_)));cases h;exact jn (b:=s35.1) hk35 (Q1F 12)
   intro b27 hb27;have h:=h27;(try rw [← hb27] at h);clear h27;(try dsimp only at h);refine runQ hN fun K hK=>?_;replace ⟨a43,h⟩:=Q0 h;(try simp only [List.length_append,List.length_cons,List.length_nil] at a43);simp [a43];(repeat refine sdQ ?_);refine hK _ ?_;clear hK K;refine bn (tn (Q7 (st':=⟨Yd c_ d_ size_0 (Y0 before_0 before_1 behind_0 behind_1 (Y0k [(13,iV s24.2)])),Ys (Y0P v1 v2 s24 b27 (Y7 v1 v2 [(10,.row 1 (Ls (s24.1++[b27])))])),11⟩) (Q1p [(0,0),(1,1),(2,2),(3,3),(4,4),(5,5),(6,6),(7,7),(8,8),(9,9),(13,10)]) (runQ hN fun K hK=>?_)));replace ⟨a44,h⟩:=Q0 h;simp [Qh a44];repeat refine sdQ ?_
   refine hK _ ?_;clear hK K;cases h;exact rn (s':=(s24.1++[b27],s24.2+1)) hk24 (Q1F 11)
  have g25:¬ (s24.2<c_.n):=gQ;clear g;replace h:=if_r g25 h;refine Qm (tx (lx (bh ?_)));cases h;exact jn (b:=s24.1) hk24 (Q1F 11)
 intro b3 hb3;have h:=h3;try rw [← hb3] at h
 clear h3;try dsimp only at h
 refine Q3 (Q3 (runQ hN fun K hK=>?_));simp;repeat refine sdQ ?_
 refine hK _ (tn (Q7 (st':=⟨YD c_ d_ (Y0 before_0 before_1 behind_0 behind_1 (Y0k [(74,iV (c_.fr.length:Int)),(75,iV 0)])),Ys (YQ v1 v2 b3 (Y7 v1 v2 [(10,.row 1 (Ls b3))])),11⟩) (Q1F 11) ?_));clear hK K;replace ⟨e45,h,h45⟩:=bind_some h
 refine Qg (fun b45:List (List (List Int))=>⟨YD c_ d_ (Ya behind_0 behind_1 []),Ys (YP v1 v2 b3 b45 (Y7 v1 v2 (YO b3 b45 []))),12⟩) (fun b45=>b45=e45) ?_ ?_
 ·refine Qa ?_
  refine Qn h (fun s59:List (List (List Int)) × Int=>⟨YD c_ d_ (Y0 before_0 before_1 behind_0 behind_1 (Y0k (Y0d c_ s59 []))),Yg v1 v2 b3 s59 (Y7 v1 v2 (Y0b b3 s59 [])),12⟩) (Q1J ⟨YD c_ d_ (Y0 before_0 before_1 behind_0 behind_1 (Y0k [(74,iV (c_.fr.length:Int)),(75,iV 0)])),Ys (Y0G v1 v2 b3 (Y7 v1 v2 [(10,.row 1 (Ls b3)),(11,.row 1 (Es eL []))])),12⟩ (Wk.nils [(11,1)] (by simp) (by simp) (by simp [nlA]) (by simp [entN,nlL,nlA,Cat.cells,Prf.cells,XComposite.cells,UA,U1,IA,I1,LA,L1,BA,B1,EA,E1,E2,eB,eI,eL,Q8 _ Qk _ (fun _=>rfl),Q8 _ (XTripleint64.cells true) _ (fun _=>rfl),Q8 _ (fun x=>[.lst true 1 (Es (fun x=>[.lst true 3 (Es (XTripleint64.cells true) x)]) x)]) _ (fun _=>rfl),Q8 _ (fun x=>[.lst true 3 (Es (XTripleint64.cells true) x)]) _ (fun _=>rfl)]) (by simp)) (Q1F 12)) ?_
  clear h;intro k59 s59 c59 h hk59;refine Q3 (runQ hN fun K hK=>?_);simp;repeat refine sdQ ?_
  refine hK _ ?_;clear hK K;refine tn (Q3 (Qd rfl (fun g=>?_) fun g=>?_))
  ·have g60:s59.2<(c_.fr.length:Int):=gQ;clear g;replace h:=if_l g60 h;refine Qe (tn (Q3 (Qa (Q3 (runQ hN fun K hK=>?_)))));simp;(repeat refine sdQ ?_);refine hK _ ?_;clear hK K;refine tn (Q7 (st':=⟨YD c_ d_ (Y0 before_0 before_1 behind_0 behind_1 (Y0k ((16,iV s59.2)::Y0d c_ s59 []))),Yg v1 v2 b3 s59 (Y7 v1 v2 (Y0b b3 s59 [])),12⟩) (Q1F 12) (Q3 (runQ hN fun K hK=>?_)));simp;(repeat refine sdQ ?_);refine hK _ (tn ?_);clear hK K
   refine Q7 (st':=⟨YD c_ d_ (Y0 before_0 before_1 behind_0 behind_1 (Y0k ((16,iV s59.2)::(17,.own 12 0 0)::Y0d c_ s59 []))),Yg v1 v2 b3 s59 (Y7 v1 v2 (Y0b b3 s59 [(12,.mix 1 [])])),13⟩) (Q1F 13) (Q3 (Q3 (runQ hN fun K hK=>?_)));simp;(repeat refine sdQ ?_);refine hK _ (tn ?_);clear hK K
   refine Q7 (st':=⟨YD c_ d_ (Y0 before_0 before_1 behind_0 behind_1 (Y0k ((16,iV s59.2)::(17,.own 12 0 0)::(18,iV 0)::Y0d c_ s59 []))),Yg v1 v2 b3 s59 (Y7 v1 v2 (Y0b b3 s59 [(12,.mix 1 [])])),13⟩) (Q1F 13) ?_;replace ⟨e61,h,h61⟩:=bind_some h
   refine Qg (fun b61:List (List Int)=>⟨YD c_ d_ (Y0 before_0 before_1 behind_0 behind_1 (Y0k ((17,.own 12 0 b61.length)::Y0d c_ s59 []))),Yg v1 v2 b3 s59 (Y7 v1 v2 (Y0b b3 s59 [(12,.row 1 (Ls b61))])),13⟩) (fun b61=>b61=e61) ?_ ?_
   ·refine Qa ?_
    refine Qn h (fun s66:List (List Int) × Int=>⟨YD c_ d_ (Y0 before_0 before_1 behind_0 behind_1 (Y0k ((16,iV s59.2)::(17,.own 12 0 s66.1.length)::(18,iV s66.2)::Y0d c_ s59 []))),Yg v1 v2 b3 s59 (Y7 v1 v2 (Y0b b3 s59 [(12,.row 1 (Ls s66.1))])),13⟩) (Q1J ⟨YD c_ d_ (Y0 before_0 before_1 behind_0 behind_1 (Y0k ((16,iV s59.2)::(17,.own 12 0 0)::(18,iV 0)::Y0d c_ s59 []))),Yg v1 v2 b3 s59 (Y7 v1 v2 (Y0b b3 s59 [(12,.row 1 (Ls []))])),13⟩ (Wk.nils [] (by simp) (by simp) (by simp [nlA]) (by simp [entN,nlL,nlA,Cat.cells,Prf.cells,XComposite.cells,UA,U1,IA,I1,LA,L1,BA,B1,EA,E1,E2,eB,eI,eL,Q8 _ Qk _ (fun _=>rfl),Q8 _ (XTripleint64.cells true) _ (fun _=>rfl),Q8 _ (fun x=>[.lst true 1 (Es (fun x=>[.lst true 3 (Es (XTripleint64.cells true) x)]) x)]) _ (fun _=>rfl),Q8 _ (fun x=>[.lst true 3 (Es (XTripleint64.cells true) x)]) _ (fun _=>rfl)]) (by simp)) (Q1F 13)) ?_
    clear h;intro k66 s66 c66 h hk66;refine Q3 (Q3 (runQ hN fun K hK=>?_));simp;(repeat refine sdQ ?_);refine hK _ ?_;clear hK K;refine tn (Qd rfl (fun g=>?_) fun g=>?_)
    ·have g67:s66.2<d_.n:=gQ;clear g;replace h:=if_l g67 h;refine Qe (tn (Q3 (Qa (runQ hN fun K hK=>?_))));simp;(repeat with_reducible refine sdQ ?_);replace ⟨v68,hv68,h⟩:=bind_some h;refine Q6 (Q4z _ _ _ _ v68 hv68) (.cons .val (.cons .val (.cons .rptr (.cons .rptr .nil)))) ?_;replace ⟨a69,h⟩:=Q0 h;(try simp only [List.length_append,List.length_cons,List.length_nil] at a69);simp [a69];(repeat refine sdQ ?_);refine hK _ ?_;clear hK K;refine bn (tn (Q7 (st':=⟨YD c_ d_ (Y0 before_0 before_1 behind_0 behind_1 (Y0k ((16,iV s59.2)::(17,.own 12 0 ((s66.1++[v68]).length))::(18,iV s66.2)::Y0d c_ s59 []))),Yg v1 v2 b3 s59 (Y7 v1 v2 (Y0b b3 s59 [(12,.row 1 (Ls (s66.1++[v68])))])),13⟩) (Q1p [(0,0),(1,1),(2,2),(3,3),(4,4),(5,5),(6,6),(7,7),(8,8),(9,9),(10,10),(11,11),(15,12)]) (runQ hN fun K hK=>?_)));replace ⟨a70,h⟩:=Q0 h;simp [Qh a70];(repeat refine sdQ ?_);refine hK _ ?_;clear hK K;cases h;exact rn (s':=(s66.1++[v68],s66.2+1)) hk66 (Q1F 13)
    have g67:¬ (s66.2<d_.n):=gQ;clear g;replace h:=if_r g67 h;refine Qm (tx (lx (bh ?_)));cases h;exact jn (b:=s66.1) hk66 (Q1F 13)
   intro b61 hb61;have h:=h61;(try rw [← hb61] at h);clear h61;(try dsimp only at h);refine runQ hN fun K hK=>?_;replace ⟨a71,h⟩:=Q0 h;(try simp only [List.length_append,List.length_cons,List.length_nil] at a71);simp [a71];(repeat refine sdQ ?_);refine hK _ ?_;clear hK K;refine bn (tn (Q7 (st':=⟨YD c_ d_ (Y0 before_0 before_1 behind_0 behind_1 (Y0k (Y0d c_ s59 []))),Ys (Y0R v1 v2 b3 s59 b61 (Y7 v1 v2 [(10,.row 1 (Ls b3)),(11,.row 1 (Es eL (s59.1++[b61])))])),12⟩) (Q1p [(0,0),(1,1),(2,2),(3,3),(4,4),(5,5),(6,6),(7,7),(8,8),(9,9),(10,10),(14,11)]) (runQ hN fun K hK=>?_)));replace ⟨a72,h⟩:=Q0 h;simp [Qh a72];(repeat refine sdQ ?_);refine hK _ ?_;clear hK K;cases h;exact rn (s':=(s59.1++[b61],s59.2+1)) hk59 (Q1F 12)
  have g60:¬ (s59.2<(c_.fr.length:Int)):=gQ;clear g;replace h:=if_r g60 h;refine Qm (tx (lx (bh ?_)));cases h;exact jn (b:=s59.1) hk59 (Q1F 12)
 intro b45 hb45;have h:=h45;try rw [← hb45] at h
 clear h45;try dsimp only at h
 refine Q3 (Q3 (runQ hN fun K hK=>?_));simp;repeat refine sdQ ?_
 refine hK _ (tn (Q7 (st':=⟨Y0j c_ (Ya behind_0 behind_1 [(105,iV (d_.fr.length:Int)),(106,iV 0)]),Ys (YP v1 v2 b3 b45 (Y7 v1 v2 (YO b3 b45 []))),12⟩) (Q1F 12) ?_));clear hK K;replace ⟨e73,h,h73⟩:=bind_some h;refine Qg (fun b73:List (List (List Int))=>⟨(10,.adr 0 0 0)::Y0k [],Ys (Y0a v1 v2 b3 b45 b73 (Y7 v1 v2 (YO b3 b45 [(12,.row 1 (Es eL b73))]))),13⟩) (fun b73=>b73=e73) ?_ ?_
 ·refine Qa ?_
  refine Qn h (fun s87:List (List (List Int)) × Int=>⟨Y0j c_ (Ya behind_0 behind_1 (Y08 d_ s87 [])),Yf v1 v2 b3 b45 s87 (Y7 v1 v2 (YO b3 b45 (Y0V s87 []))),13⟩) (Q1J ⟨Y0j c_ (Ya behind_0 behind_1 [(105,iV (d_.fr.length:Int)),(106,iV 0)]),Ys (Y0K v1 v2 b3 b45 (Y7 v1 v2 (YO b3 b45 [(12,.row 1 (Es eL []))]))),13⟩ (Wk.nils [(12,1)] (by simp) (by simp) (by simp [nlA]) (by simp [entN,nlL,nlA,Cat.cells,Prf.cells,XComposite.cells,UA,U1,IA,I1,LA,L1,BA,B1,EA,E1,E2,eB,eI,eL,Q8 _ Qk _ (fun _=>rfl),Q8 _ (XTripleint64.cells true) _ (fun _=>rfl),Q8 _ (fun x=>[.lst true 1 (Es (fun x=>[.lst true 3 (Es (XTripleint64.cells true) x)]) x)]) _ (fun _=>rfl),Q8 _ (fun x=>[.lst true 3 (Es (XTripleint64.cells true) x)]) _ (fun _=>rfl)]) (by simp)) (Q1F 13)) ?_
  clear h;intro k87 s87 c87 h hk87;refine Q3 (runQ hN fun K hK=>?_);simp;repeat refine sdQ ?_
  refine hK _ ?_;clear hK K;refine tn (Q3 (Qd rfl (fun g=>?_) fun g=>?_))
  ·have g88:s87.2<(d_.fr.length:Int):=gQ;clear g;replace h:=if_l g88 h;refine Qe (tn (Q3 (Qa (Q3 (runQ hN fun K hK=>?_)))));simp;(repeat refine sdQ ?_);refine hK _ ?_;clear hK K;refine tn (Q7 (st':=⟨Y0j c_ (Ya behind_0 behind_1 ((19,iV s87.2)::Y08 d_ s87 [])),Yf v1 v2 b3 b45 s87 (Y7 v1 v2 (YO b3 b45 (Y0V s87 []))),13⟩) (Q1F 13) (Q3 (runQ hN fun K hK=>?_)));simp;(repeat refine sdQ ?_);refine hK _ (tn ?_);clear hK K
   refine Q7 (st':=⟨Y0j c_ (Ya behind_0 behind_1 ((19,iV s87.2)::(20,.own 13 0 0)::Y08 d_ s87 [])),Yf v1 v2 b3 b45 s87 (Y7 v1 v2 (YO b3 b45 (Y0V s87 [(13,.mix 1 [])]))),14⟩) (Q1F 14) (Q3 (Q3 (runQ hN fun K hK=>?_)));simp;(repeat refine sdQ ?_);refine hK _ (tn (Q7 (st':=⟨Y0j c_ (Ya behind_0 behind_1 ((19,iV s87.2)::(20,.own 13 0 0)::(21,iV 0)::Y08 d_ s87 [])),Yf v1 v2 b3 b45 s87 (Y7 v1 v2 (YO b3 b45 (Y0V s87 [(13,.mix 1 [])]))),14⟩) (Q1F 14) ?_));clear hK K;replace ⟨e89,h,h89⟩:=bind_some h
   refine Qg (fun b89:List (List Int)=>⟨Y0j c_ (Ya behind_0 behind_1 ((20,.own 13 0 b89.length)::Y08 d_ s87 [])),Yf v1 v2 b3 b45 s87 (Y7 v1 v2 (YO b3 b45 (Y0V s87 [(13,.row 1 (Ls b89))]))),14⟩) (fun b89=>b89=e89) ?_ ?_
   ·refine Qa ?_
    refine Qn h (fun s94:List (List Int) × Int=>⟨Y0j c_ (Ya behind_0 behind_1 ((19,iV s87.2)::(20,.own 13 0 s94.1.length)::(21,iV s94.2)::Y08 d_ s87 [])),Yf v1 v2 b3 b45 s87 (Y7 v1 v2 (YO b3 b45 (Y0V s87 [(13,.row 1 (Ls s94.1))]))),14⟩) (Q1J ⟨Y0j c_ (Ya behind_0 behind_1 ((19,iV s87.2)::(20,.own 13 0 0)::(21,iV 0)::Y08 d_ s87 [])),Yf v1 v2 b3 b45 s87 (Y7 v1 v2 (YO b3 b45 (Y0V s87 [(13,.row 1 (Ls []))]))),14⟩ (Wk.nils [] (by simp) (by simp) (by simp [nlA]) (by simp [entN,nlL,nlA,Cat.cells,Prf.cells,XComposite.cells,UA,U1,IA,I1,LA,L1,BA,B1,EA,E1,E2,eB,eI,eL,Q8 _ Qk _ (fun _=>rfl),Q8 _ (XTripleint64.cells true) _ (fun _=>rfl),Q8 _ (fun x=>[.lst true 1 (Es (fun x=>[.lst true 3 (Es (XTripleint64.cells true) x)]) x)]) _ (fun _=>rfl),Q8 _ (fun x=>[.lst true 3 (Es (XTripleint64.cells true) x)]) _ (fun _=>rfl)]) (by simp)) (Q1F 14)) ?_
    clear h;intro k94 s94 c94 h hk94;refine Q3 (Q3 (runQ hN fun K hK=>?_));simp;(repeat refine sdQ ?_);refine hK _ ?_;clear hK K;refine tn (Qd rfl (fun g=>?_) fun g=>?_)
    ·have g95:s94.2<c_.n:=gQ;clear g;replace h:=if_l g95 h;refine Qe (tn (Q3 (Qa (runQ hN fun K hK=>?_))));simp;(repeat with_reducible refine sdQ ?_);replace ⟨v96,hv96,h⟩:=bind_some h;refine Q6 (Q4A _ _ _ _ v96 hv96) (.cons .val (.cons .val (.cons .rptr (.cons .rptr .nil)))) ?_;replace ⟨a97,h⟩:=Q0 h;(try simp only [List.length_append,List.length_cons,List.length_nil] at a97);simp [a97];(repeat refine sdQ ?_);refine hK _ ?_;clear hK K;refine bn (tn (Q7 (st':=⟨Y0j c_ (Ya behind_0 behind_1 ((19,iV s87.2)::(20,.own 13 0 ((s94.1++[v96]).length))::(21,iV s94.2)::Y08 d_ s87 [])),Yf v1 v2 b3 b45 s87 (Y7 v1 v2 (YO b3 b45 (Y0V s87 [(13,.row 1 (Ls (s94.1++[v96])))]))),14⟩) (Q1p [(0,0),(1,1),(2,2),(3,3),(4,4),(5,5),(6,6),(7,7),(8,8),(9,9),(10,10),(11,11),(12,12),(16,13)]) (runQ hN fun K hK=>?_)));replace ⟨a98,h⟩:=Q0 h;simp [Qh a98];(repeat refine sdQ ?_);refine hK _ ?_;clear hK K;cases h;exact rn (s':=(s94.1++[v96],s94.2+1)) hk94 (Q1F 14)
    have g95:¬ (s94.2<c_.n):=gQ;clear g;replace h:=if_r g95 h;refine Qm (tx (lx (bh ?_)));cases h;exact jn (b:=s94.1) hk94 (Q1F 14)
   intro b89 hb89;have h:=h89;(try rw [← hb89] at h);clear h89;(try dsimp only at h);refine runQ hN fun K hK=>?_;replace ⟨a99,h⟩:=Q0 h;(try simp only [List.length_append,List.length_cons,List.length_nil] at a99);simp [a99];(repeat refine sdQ ?_);refine hK _ ?_;clear hK K;refine bn (tn (Q7 (st':=⟨Y0j c_ (Ya behind_0 behind_1 (Y08 d_ s87 [])),Ys (Y10 v1 v2 b3 b45 s87 b89 (Y7 v1 v2 (YO b3 b45 [(12,.row 1 (Es eL (s87.1++[b89])))]))),13⟩) (Q1p [(0,0),(1,1),(2,2),(3,3),(4,4),(5,5),(6,6),(7,7),(8,8),(9,9),(10,10),(11,11),(15,12)]) (runQ hN fun K hK=>?_)));replace ⟨a100,h⟩:=Q0 h;simp [Qh a100];(repeat refine sdQ ?_);refine hK _ ?_;clear hK K;cases h;exact rn (s':=(s87.1++[b89],s87.2+1)) hk87 (Q1F 13)
  have g88:¬ (s87.2<(d_.fr.length:Int)):=gQ;clear g;replace h:=if_r g88 h;refine Qm (tx (lx (bh ?_)));cases h;exact jn (b:=s87.1) hk87 (Q1F 13)
 intro b73 hb73;have h:=h73;try rw [← hb73] at h
 clear h73;try dsimp only at h
 refine Q3 (runQ hN fun K hK=>?_);simp;repeat refine sdQ ?_
 refine hK _ (tn (Q7 (st':=⟨[(10,.adr 0 0 0),(11,.val (.bool true))],YM v1 v2 b3 b45 b73 [],12⟩) (Q1p [(0,0),(2,1),(3,2),(4,3),(5,4),(6,5),(7,6),(8,7),(9,8),(10,9),(11,10),(12,11)]) (Qo ?_)));clear hK K;have hr:=Option.some.inj h;rw [← hr];refine ⟨_,(.cell Q8k rfl rfl rfl (by simp) (by simp) (.tmp .nil)),?_⟩;refine ⟨(.agg rfl (.one rfl rfl .nil)),[iV v1.n,lI v1.fr,lI v1.to,lI v1.id,.lst true 1 (Ls v1.cs),iV v2.n,lI v2.fr,lI v2.to,lI v2.id,.lst true 1 (Ls v2.cs),.lst true 1 (Ls b3),.lst true 1 (Es eL b45),.lst true 1 (Es eL b73),.val (.bool true)],[1,2,3,4,5,6,7,8,9,10,11],by simp [Cat.cells,Prf.cells,XComposite.cells,UA,U1,IA,I1,LA,L1,BA,B1,EA,E1,E2,eB,eI,eL,Q8 _ Qk _ (fun _=>rfl),Q8 _ (XTripleint64.cells true) _ (fun _=>rfl),Q8 _ (fun x=>[.lst true 1 (Es (fun x=>[.lst true 3 (Es (XTripleint64.cells true) x)]) x)]) _ (fun _=>rfl),Q8 _ (fun x=>[.lst true 3 (Es (XTripleint64.cells true) x)]) _ (fun _=>rfl)],by simp,(UpL.refl _)⟩
attribute [local simp] unk unA unE unT unC flat eL eI Qr Q16 Q1g Q9 Cat.cells Prf.cells XTripleint64.cells
noncomputable def Q3q (p_:Prf) (q_:Prf):Option (Unit ⊕ (Int × List Int × List Int × List Int × List (List Int) × Int × List Int × List Int × List Int × List (List Int) × List (List Int) × List (List (List Int)) × List (List (List Int)) × List (List (List XTripleint64)) × List (List (List Int)) × Bool)) :=
 (Qy (σ:=List (List (List XTripleint64)) × List (List (List Int)) × Int) (ε:=(List (List (List XTripleint64)) × List (List (List Int))) ⊕ (Unit ⊕ (Int × List Int × List Int × List Int × List (List Int) × Int × List Int × List Int × List Int × List (List Int) × List (List Int) × List (List (List Int)) × List (List (List Int)) × List (List (List XTripleint64)) × List (List (List Int)) × Bool))) (fun s23 =>
  if s23.2.2<p_.s.n then
   (Qy (σ:=List (List XTripleint64) × List (List Int) × Int) (ε:=(List (List XTripleint64) × List (List Int)) ⊕ (Unit ⊕ (Int × List Int × List Int × List Int × List (List Int) × Int × List Int × List Int × List Int × List (List Int) × List (List Int) × List (List (List Int)) × List (List (List Int)) × List (List (List XTripleint64)) × List (List (List Int)) × Bool))) (fun s33 =>
    if s33.2.2<q_.t.n then
     (Q2a p_ q_ s23.2.2 s33.2.2).bind fun v35 =>
     if (v35.length:Int) > 256 then
      some (Ctl.ret (Sum.inr (Sum.inl ())))
     else
      ass ((s33.1++[v35]).length≤1073741824) <|
      (Q29 p_ q_ s23.2.2 s33.2.2 v35).bind fun v38 =>
      ass ((s33.2.1++[v38]).length≤1073741824) <|
      ass (B64 (s33.2.2+1)) <|
      some (Ctl.next (s33.1++[v35],s33.2.1++[v38],s33.2.2+1))
    else
     some (Ctl.ret (Sum.inl (s33.1,s33.2.1)))) fuel ([],[],0)).bind fun e25 =>
   match e25 with
   | .inl b25 =>
    ass ((s23.1++[b25.1]).length≤1073741824) <|
    ass ((s23.2.1++[b25.2]).length≤1073741824) <|
    ass (B64 (s23.2.2+1)) <|
    some (Ctl.next (s23.1++[b25.1],s23.2.1++[b25.2],s23.2.2+1))
   | .inr p25 =>
    some (Ctl.ret (Sum.inr p25))
  else
   some (Ctl.ret (Sum.inl (s23.1,s23.2.1)))) fuel ([],[],0)).bind fun e2 =>
 match e2 with
 | .inl b2 =>
  (Qi p_.s q_.t (⟨p_,q_,(⟨(⟨0,[],[],[],[]⟩:Cat),(⟨0,[],[],[],[]⟩:Cat),[],[],[]⟩:Prf),b2.1,b2.2⟩:XComposite) p_ (⟨p_,q_,(⟨(⟨0,[],[],[],[]⟩:Cat),(⟨0,[],[],[],[]⟩:Cat),[],[],[]⟩:Prf),b2.1,b2.2⟩:XComposite) q_ (⟨p_,q_,(⟨(⟨0,[],[],[],[]⟩:Cat),(⟨0,[],[],[],[]⟩:Cat),[],[],[]⟩:Prf),b2.1,b2.2⟩:XComposite)).bind fun v44 =>
  some (Sum.inr (v44.1.s.n,v44.1.s.fr,v44.1.s.to,v44.1.s.id,v44.1.s.cs,v44.1.t.n,v44.1.t.fr,v44.1.t.to,v44.1.t.id,v44.1.t.cs,v44.1.sz,v44.1.bf,v44.1.bh,b2.1,b2.2,v44.2))
 | .inr p2 =>
  some p2
@[simp] abbrev Yh (a b:Prf) (c:List (List (List XTripleint64)) × List (List (List Int)) × Int) (d:List (Nat × Ent)):List (Nat × Ent):=(0,.mix 1 [[.adr 1 0 0]])::(1,.mix 17 [(Y1j a (Y1j b (Y1i [nS,.own 2 0 c.1.length,.own 3 0 c.2.1.length])))])::(2,.mix 1 (Es (fun x=>[.lst true 1 (Es (fun x=>[.lst true 3 (Es (XTripleint64.cells true) x)]) x)]) c.1))::(3,.row 1 (Es eL c.2.1))::d
@[simp] abbrev Yu (a b:Prf) (c:List (Nat × AV)):List (Nat × AV):=(2,.rptr (Y1j a []))::(3,.rptr (Y1j b []))::(6,.adr 0 0 0)::c
@[simp] abbrev Yw (a b:Prf) (c:Prf × Bool) (d:List (List (List XTripleint64)) × List (List (List Int))) (e:List (Nat × Ent)):List (Nat × Ent):=(0,.mix 17 [(Y1j a (Y1j b (Y1m c [.own 12 0 d.1.length,.own 13 0 d.2.length])))])::(1,rI c.1.s.fr)::(2,rI c.1.s.to)::(3,rI c.1.s.id)::(4,.row 1 (Ls c.1.s.cs))::(5,rI c.1.t.fr)::(6,rI c.1.t.to)::(7,rI c.1.t.id)::(8,.row 1 (Ls c.1.t.cs))::(9,.row 1 (Ls c.1.sz))::(10,.row 1 (Es eL c.1.bf))::(11,.row 1 (Es eL c.1.bh))::(12,.mix 1 (Es (fun x=>[.lst true 1 (Es (fun x=>[.lst true 3 (Es (XTripleint64.cells true) x)]) x)]) d.1))::(13,.row 1 (Es eL d.2))::e
@[simp] abbrev Y0m (a:List (List XTripleint64) × List (List Int) × Int) (b:List (Nat × Ent)):List (Nat × Ent):=(4,.mix 1 (Es (fun x=>[.lst true 3 (Es (XTripleint64.cells true) x)]) a.1))::(5,.row 1 (Ls a.2.1))::b
@[simp] abbrev Y0z (a b:Prf) (c:List (List (List XTripleint64)) × List (List (List Int))) (d:List (Nat × Ent)):List (Nat × Ent):=(0,.mix 1 [[.adr 1 0 0]])::(1,.mix 17 [(Y1j a (Y1j b (Y1i [nS,.own 2 0 c.1.length,.own 3 0 c.2.length])))])::(2,.mix 1 (Es (fun x=>[.lst true 1 (Es (fun x=>[.lst true 3 (Es (XTripleint64.cells true) x)]) x)]) c.1))::(3,.row 1 (Es eL c.2))::d
@[simp] abbrev Y0N (a:List (Nat × Ent)):List (Nat × Ent):=(0,.mix 1 [[.adr 1 0 0]])::a
@[simp] abbrev Y0O (a:Prf) (b:List (List (List XTripleint64)) × List (List (List Int)) × Int) (c:List (Nat × AV)):List (Nat × AV):=(22,iV a.s.n)::(23,iV b.2.2)::c
@[simp] abbrev Y18 (a:List (List XTripleint64) × List (List Int) × Int) (b:List (Nat × AV)):List (Nat × AV):=(8,.own 4 0 a.1.length)::(9,.own 5 0 a.2.1.length)::b
@[simp] abbrev Y19 (a b:Prf) (c:List (Nat × Ent)):List (Nat × Ent):=(1,.mix 17 [(Y1j a (Y1j b (Y1i [nS,.own 2 0 0,.own 3 0 0])))])::c
theorem Q9d (p_:Prf) (q_:Prf) (v45:Unit ⊕ (Int × List Int × List Int × List Int × List (List Int) × Int × List Int × List Int × List Int × List (List Int) × List (List Int) × List (List (List Int)) × List (List (List Int)) × List (List (List XTripleint64)) × List (List (List Int)) × Bool)) (h:Q3q p_ q_=some v45):ICon0 Tryz.prog 31 [.rptr (p_.cells true),.rptr (q_.cells true)] (fun _=>none) 0 (match v45 with|.inl v45=>({ v:=.tup [.val (.pointer none),.val (.bool false)],set:=[],del:=[],new:=[],cnt:=0 }:Eff)|.inr v45=>({ v:=.tup [.adr 0 0 0,.val (.bool v45.2.2.2.2.2.2.2.2.2.2.2.2.2.2.2)],set:=[],del:=[],new:=[(0,.mix 17 [(Y1j p_ (Y1j q_ [iV v45.1,.own 1 0 v45.2.1.length,.own 2 0 v45.2.2.1.length,.own 3 0 v45.2.2.2.1.length,.own 4 0 v45.2.2.2.2.1.length,iV v45.2.2.2.2.2.1,.own 5 0 v45.2.2.2.2.2.2.1.length,.own 6 0 v45.2.2.2.2.2.2.2.1.length,.own 7 0 v45.2.2.2.2.2.2.2.2.1.length,.own 8 0 v45.2.2.2.2.2.2.2.2.2.1.length,.own 9 0 v45.2.2.2.2.2.2.2.2.2.2.1.length,.own 10 0 v45.2.2.2.2.2.2.2.2.2.2.2.1.length,.own 11 0 v45.2.2.2.2.2.2.2.2.2.2.2.2.1.length,.own 12 0 v45.2.2.2.2.2.2.2.2.2.2.2.2.2.1.length,.own 13 0 v45.2.2.2.2.2.2.2.2.2.2.2.2.2.2.1.length]))]),(1,rI v45.2.1),(2,rI v45.2.2.1),(3,rI v45.2.2.2.1),(4,.row 1 (Ls v45.2.2.2.2.1)),(5,rI v45.2.2.2.2.2.2.1),(6,rI v45.2.2.2.2.2.2.2.1),(7,rI v45.2.2.2.2.2.2.2.2.1),(8,.row 1 (Ls v45.2.2.2.2.2.2.2.2.2.1)),(9,.row 1 (Ls v45.2.2.2.2.2.2.2.2.2.2.1)),(10,.row 1 (Es eL v45.2.2.2.2.2.2.2.2.2.2.2.1)),(11,.row 1 (Es eL v45.2.2.2.2.2.2.2.2.2.2.2.2.1)),(12,.mix 1 (Es (fun x=>[.lst true 1 (Es (fun x=>[.lst true 3 (Es (XTripleint64.cells true) x)]) x)]) v45.2.2.2.2.2.2.2.2.2.2.2.2.2.1)),(13,.row 1 (Es eL v45.2.2.2.2.2.2.2.2.2.2.2.2.2.2.1))],cnt:=14 }:Eff)):=by
 refine Q7U (ts:=[4,5]) (H:=[]) Tryz.func31 rfl rfl rfl (by simp [Tryz.f31]) (by simp) (Q8F (by rcases v45 with v45|v45<;>simp)) (newI (by rcases v45 with v45|v45<;>rfl)) fun F hN hP hW=>?_;unfold Q3q at h;refine Q3 (QG [2,3] mo (by rw [hN];decide) fun K hK=>?_);simp;repeat refine sdQ ?_
 refine hK _ ?_;clear hK K;refine tn (Q7 (st':=⟨[(2,.rptr (Y1j p_ [])),(3,.rptr (Y1j q_ []))],[],0⟩) (Q1p []) (Q3 (QG [] mo (by rw [hN];decide) fun K hK=>?_)));simp;repeat refine sdQ ?_
 refine hK _ ?_;clear hK K;refine tn (Q7 (st':=⟨Yu p_ q_ [],Y0N [(1,.mix 17 [(Y1j p_ (Y1j q_ (Y1i [nS,nS,nS])))])],2⟩) (Q1p [(1,0),(0,1)]) (Q3 (Q3 (QG [] mo (by rw [hN];decide) fun K hK=>?_))));simp;repeat refine sdQ ?_
 refine hK _ (tn (Q7 (st':=⟨Yu p_ q_ [(22,iV p_.s.n),(23,iV 0)],Y0N [(1,.mix 17 [(Y1j p_ (Y1j q_ (Y1i [nS,nS,nS])))])],2⟩) (Q1p [(0,0),(1,1)]) ?_));clear hK K;replace ⟨e2,h,h2⟩:=bind_some h;refine Qg (fun b2:List (List (List XTripleint64)) × List (List (List Int))=>⟨Yu p_ q_ [],Y0z p_ q_ b2 [],4⟩) (fun b2=>Sum.inl b2=e2) ?_ ?_
 ·refine Qa (Qn h (fun s23:List (List (List XTripleint64)) × List (List (List Int)) × Int=>⟨Yu p_ q_ (Y0O p_ s23 []),Yh p_ q_ s23 [],4⟩) (Q1J ⟨Yu p_ q_ [(22,iV p_.s.n),(23,iV 0)],Y0N (Y19 p_ q_ [(2,.row 1 (Es (fun x=>[.lst true 1 (Es (fun x=>[.lst true 3 (Es (XTripleint64.cells true) x)]) x)]) [])),(3,.row 1 (Es eL []))]),4⟩ (Wk.nils [(2,1),(3,1)] (by simp) (by simp) (by simp [nlA]) (by simp [entN,nlL,nlA,Cat.cells,Prf.cells,XTripleint64.cells,UA,U1,IA,I1,LA,L1,BA,B1,EA,E1,E2,eB,eI,eL,Q8 _ Q9 _ (fun _=>rfl),Q8 _ (XTripleint64.cells true) _ (fun _=>rfl),Q8 _ (fun x=>[.lst true 1 (Es (fun x=>[.lst true 3 (Es (XTripleint64.cells true) x)]) x)]) _ (fun _=>rfl),Q8 _ (fun x=>[.lst true 3 (Es (XTripleint64.cells true) x)]) _ (fun _=>rfl)]) (by simp)) (Q1J ⟨Yu p_ q_ [(22,iV p_.s.n),(23,iV 0)],Y0N (Y19 p_ q_ [(2,.mix 1 []),(3,.row 1 (Es eL []))]),4⟩ (Wk.rowMix (by simp) rfl (by simp [Cat.cells,Prf.cells,XTripleint64.cells,UA,U1,IA,I1,LA,L1,BA,B1,EA,E1,E2,eB,eI,eL,Q8 _ Q9 _ (fun _=>rfl),Q8 _ (XTripleint64.cells true) _ (fun _=>rfl),Q8 _ (fun x=>[.lst true 1 (Es (fun x=>[.lst true 3 (Es (XTripleint64.cells true) x)]) x)]) _ (fun _=>rfl),Q8 _ (fun x=>[.lst true 3 (Es (XTripleint64.cells true) x)]) _ (fun _=>rfl)])) (Q1F 4))) ?_);clear h;intro k23 s23 c23 h hk23;refine Q3 (QG [] mo (by rw [hN];decide) fun K hK=>?_);simp;repeat refine sdQ ?_
  refine hK _ ?_;clear hK K;refine tn (Q7 (st':=⟨Yu p_ q_ (Y0O p_ s23 [(24,.val (.bool (decide (s23.2.2<p_.s.n))))]),Yh p_ q_ s23 [],4⟩) (Q1F 4) (Q3 (Qd rfl (fun g=>?_) fun g=>?_)))
  ·have g24:s23.2.2<p_.s.n:=gQ;clear g;replace h:=if_l g24 h;refine Qe (tn (Q3 (Qa (Q3 (QG [] mo (by rw [hN];decide) fun K hK=>?_)))));simp;(repeat refine sdQ ?_);refine hK _ ?_;clear hK K;refine tn (Q7 (st':=⟨Yu p_ q_ ((7,iV s23.2.2)::Y0O p_ s23 []),Yh p_ q_ s23 [],4⟩) (Q1F 4) (Q3 (QG [] mo (by rw [hN];decide) fun K hK=>?_)));simp;(repeat refine sdQ ?_);refine hK _ ?_;clear hK K;refine tn (Q7 (st':=⟨Yu p_ q_ ((7,iV s23.2.2)::(8,.own 4 0 0)::(9,.own 5 0 0)::Y0O p_ s23 []),Yh p_ q_ s23 [(4,.mix 1 []),(5,.mix 1 [])],6⟩) (Q1F 6) (Q3 (Q3 (QG [] mo (by rw [hN];decide) fun K hK=>?_))));simp;(repeat refine sdQ ?_);refine hK _ (tn (Q7 (st':=⟨Yu p_ q_ ((7,iV s23.2.2)::(8,.own 4 0 0)::(9,.own 5 0 0)::Y0O p_ s23 [(32,iV q_.t.n),(33,iV 0)]),Yh p_ q_ s23 [(4,.mix 1 []),(5,.mix 1 [])],6⟩) (Q1F 6) ?_));clear hK K;replace ⟨e25,h,h25⟩:=bind_some h;refine Qg (fun b25:List (List XTripleint64) × List (List Int)=>⟨Yu p_ q_ ((8,.own 4 0 b25.1.length)::(9,.own 5 0 b25.2.length)::Y0O p_ s23 []),Yh p_ q_ s23 [(4,.mix 1 (Es (fun x=>[.lst true 3 (Es (XTripleint64.cells true) x)]) b25.1)),(5,.row 1 (Ls b25.2))],6⟩) (fun b25=>Sum.inl b25=e25) ?_ ?_
   ·refine Qa (Qn h (fun s33:List (List XTripleint64) × List (List Int) × Int=>⟨Yu p_ q_ ((7,iV s23.2.2)::Y18 s33 (Y0O p_ s23 [(32,iV q_.t.n),(33,iV s33.2.2)])),Yh p_ q_ s23 (Y0m s33 []),6⟩) (Q1J ⟨Yu p_ q_ ((7,iV s23.2.2)::(8,.own 4 0 0)::(9,.own 5 0 0)::Y0O p_ s23 [(32,iV q_.t.n),(33,iV 0)]),Yh p_ q_ s23 [(4,.mix 1 []),(5,.row 1 (Ls []))],6⟩ (Wk.nils [] (by simp) (by simp) (by simp [nlA]) (by simp [entN_self,entN_mm,entN_mr,nlL,nlA,Cat.cells,Prf.cells,XTripleint64.cells,UA,U1,IA,I1,LA,L1,BA,B1,EA,E1,E2,eB,eI,eL,Q8 _ Q9 _ (fun _=>rfl),Q8 _ (XTripleint64.cells true) _ (fun _=>rfl),Q8 _ (fun x=>[.lst true 1 (Es (fun x=>[.lst true 3 (Es (XTripleint64.cells true) x)]) x)]) _ (fun _=>rfl),Q8 _ (fun x=>[.lst true 3 (Es (XTripleint64.cells true) x)]) _ (fun _=>rfl)]) (by simp)) (Q1F 6)) ?_);clear h;intro k33 s33 c33 h hk33;refine Q3 (QG [] mo (by rw [hN];decide) fun K hK=>?_);simp;(repeat refine sdQ ?_);refine hK _ ?_;clear hK K;refine tn (Q7 (st':=⟨Yu p_ q_ ((7,iV s23.2.2)::Y18 s33 (Y0O p_ s23 [(32,iV q_.t.n),(33,iV s33.2.2),(34,.val (.bool (decide (s33.2.2<q_.t.n))))])),Yh p_ q_ s23 (Y0m s33 []),6⟩) (Q1F 6) (Q3 (Qd rfl (fun g=>?_) fun g=>?_)))
    ·have g34:s33.2.2<q_.t.n:=gQ;clear g;replace h:=if_l g34 h;refine Qe (tn (Q3 (Qa (Q3 (QG [] mo (by rw [hN];decide) fun K hK=>?_)))));simp;(repeat refine sdQ ?_);refine hK _ ?_;clear hK K;refine tn (Q7 (st':=⟨Yu p_ q_ ((7,iV s23.2.2)::Y18 s33 ((10,iV s33.2.2)::Y0O p_ s23 [(32,iV q_.t.n),(33,iV s33.2.2)])),Yh p_ q_ s23 (Y0m s33 []),6⟩) (Q1F 6) (Q3 (QG [] mo (by rw [hN];decide) fun K hK=>?_)));simp;(repeat with_reducible refine sdQ ?_);replace ⟨v35,hv35,h⟩:=bind_some h;refine Q53 (fz:=[]) false (Contract.toF1 (Q7A _ _ _ _ v35 hv35)) (PurK.ofL (.cons (.preT (by simp [Prf.cells,XTripleint64.cells])) (.cons (.preT (by simp [Prf.cells,XTripleint64.cells])) (.cons .val (.cons .val .nil))))) ?_;simp;(repeat refine sdQ ?_);refine hK _ ?_;clear hK K;refine tn (Q7 (st':=⟨Yu p_ q_ ((7,iV s23.2.2)::Y18 s33 ((10,iV s33.2.2)::(11,.lst true 3 (Es (XTripleint64.cells true) v35))::Y0O p_ s23 [(32,iV q_.t.n),(33,iV s33.2.2)])),Yh p_ q_ s23 (Y0m s33 []),6⟩) (Q1F 6) (Q3 (Q3 (QG [] mo (by rw [hN];decide) fun K hK=>?_))));simp;(repeat refine sdQ ?_);refine hK _ (tn ?_);clear hK K
     refine Q7 (st':=⟨Yu p_ q_ ((7,iV s23.2.2)::Y18 s33 ((10,iV s33.2.2)::(11,.lst true 3 (Es (XTripleint64.cells true) v35))::Y0O p_ s23 [(32,iV q_.t.n),(33,iV s33.2.2),(43,.val (.bool (decide ((v35.length:Int) > 256))))])),Yh p_ q_ s23 (Y0m s33 []),6⟩) (Q1F 6) (Qd rfl (fun g=>?_) fun g=>?_)
     ·have g36:(v35.length:Int) > 256:=gQ;clear g;replace h:=if_l g36 h;refine Q3 (QG [] mo (by rw [hN];decide) fun K hK=>?_);simp;(repeat refine sdQ ?_);refine hK _ (tn (Q7 (st':=⟨[(4,.val (.pointer none)),(5,.val (.bool false))],[],0⟩) (Q1p []) (Qo (tr (br (tr (lr (br (tr (br (tr (lr (br (tr ?_))))))))))))));clear hK K;cases h;have q:_=e25:=hk33;have h:=h25;rw [← q] at h;clear q;(try dsimp only at h);cases h;have q:_=e2:=hk23;have h:=h2;rw [← q] at h;clear q;(try dsimp only at h);cases h;(try dsimp only);first|refine iw_r (st':=⟨[(4,.val (.pointer none)),(5,.val (.bool false))],[],0⟩) ?_ ?_|refine iw_n (st':=⟨[(4,.val (.pointer none)),(5,.val (.bool false))],[],0⟩) ?_ ?_
      ·exact Wk.r1 [] (by simp [hP,hhOk,back,Cat.cells,Prf.cells,XTripleint64.cells,UA,U1,IA,I1,LA,L1,BA,B1,EA,E1,E2,eB,eI,eL,Q8 _ Q9 _ (fun _=>rfl),Q8 _ (XTripleint64.cells true) _ (fun _=>rfl),Q8 _ (fun x=>[.lst true 1 (Es (fun x=>[.lst true 3 (Es (XTripleint64.cells true) x)]) x)]) _ (fun _=>rfl),Q8 _ (fun x=>[.lst true 3 (Es (XTripleint64.cells true) x)]) _ (fun _=>rfl)])
      exact ⟨by simp [Q1K],by simp,by simp [Cat.cells,Prf.cells,XTripleint64.cells]⟩
     have g36:¬ ((v35.length:Int) > 256):=gQ;clear g;replace h:=if_r g36 h;refine Qe (tn (Q3 (QG [47] mo (by rw [hN];decide) fun K hK=>?_)));replace ⟨a37,h⟩:=Q0 h;(try simp only [List.length_append,List.length_cons,List.length_nil] at a37);simp [a37];(repeat refine sdQ ?_);refine hK _ ?_;clear hK K;refine tn (Q7 (st':=⟨Yu p_ q_ ((7,iV s23.2.2)::(8,.own 4 0 ((s33.1++[v35]).length))::(9,.own 5 0 s33.2.1.length)::(10,iV s33.2.2)::(11,.lst true 3 (Es (XTripleint64.cells true) v35))::Y0O p_ s23 [(32,iV q_.t.n),(33,iV s33.2.2)]),Yh p_ q_ s23 [(4,.mix 1 (Es (fun x=>[.lst true 3 (Es (XTripleint64.cells true) x)]) (s33.1++[v35]))),(5,.row 1 (Ls s33.2.1))],6⟩) (Q1p [(0,0),(1,1),(2,2),(3,3),(7,4),(5,5)]) (QG [] mo (by rw [hN];decide) fun K hK=>?_));simp;(repeat with_reducible refine sdQ ?_);replace ⟨v38,hv38,h⟩:=bind_some h;refine Q1G (fz:=[]) (Q7y _ _ _ _ _ v38 hv38) (.cons (.preT (by simp [Prf.cells,XTripleint64.cells])) (.cons (.preT (by simp [Prf.cells,XTripleint64.cells])) (.cons .val (.cons .val (.cons .lst .nil))))) ?_;replace ⟨a39,h⟩:=Q0 h;(try simp only [List.length_append,List.length_cons,List.length_nil] at a39);simp [a39];(repeat refine sdQ ?_);refine hK _ ?_;clear hK K;refine bn (tn (Q7 (st':=⟨Yu p_ q_ ((7,iV s23.2.2)::(8,.own 4 0 ((s33.1++[v35]).length))::(9,.own 5 0 ((s33.2.1++[v38]).length))::Y0O p_ s23 [(32,iV q_.t.n),(33,iV s33.2.2)]),Yh p_ q_ s23 [(4,.mix 1 (Es (fun x=>[.lst true 3 (Es (XTripleint64.cells true) x)]) (s33.1++[v35]))),(5,.row 1 (Ls (s33.2.1++[v38])))],6⟩) (Q1p [(0,0),(1,1),(2,2),(3,3),(4,4),(8,5)]) (QG [] mo (by rw [hN];decide) fun K hK=>?_)));replace ⟨a40,h⟩:=Q0 h;simp [Qh a40];(repeat refine sdQ ?_);refine hK _ ?_;clear hK K;cases h;exact rn (s':=(s33.1++[v35],s33.2.1++[v38],s33.2.2+1)) hk33 (Q1F 6)
    have g34:¬ (s33.2.2<q_.t.n):=gQ;clear g;replace h:=if_r g34 h;refine Qm (tx (lx (bh ?_)));cases h;exact jn (b:=(s33.1,s33.2.1)) hk33 (Q1F 6)
   intro b25 hb25;have h:=h25;(try rw [← hb25] at h);clear h25;(try dsimp only at h);refine Q3 (Q7 (st':=⟨Yu p_ q_ ((8,.lst true 1 (Es (fun x=>[.lst true 3 (Es (XTripleint64.cells true) x)]) b25.1))::(9,.own 5 0 b25.2.length)::Y0O p_ s23 []),Yh p_ q_ s23 [(5,.row 1 (Ls b25.2))],6⟩) (Wk.frzL hW (j:=4) rfl (Q3U (by simp [Prf.cells,XTripleint64.cells,eL,Q1g,Q9])) (by simp [St.get,look]) rfl (by simp [look])) (w_runXK [65] [6] 7 mo (by rw [hN];decide) fun K hK=>?_));replace ⟨a41,h⟩:=Q0 h;(try simp only [List.length_append,List.length_cons,List.length_nil] at a41);simp [a41];(repeat refine sdQ ?_);refine hK _ ?_ (by rfl);clear hK K;refine tn (Q7 (st':=⟨Yu p_ q_ ((9,.own 4 0 b25.2.length)::Y0O p_ s23 []),Y0N [(1,.mix 17 [(Y1j p_ (Y1j q_ (Y1i [nS,.own 2 0 ((s23.1++[b25.1]).length),.own 3 0 s23.2.1.length])))]),(2,.mix 1 (Es (fun x=>[.lst true 1 (Es (fun x=>[.lst true 3 (Es (XTripleint64.cells true) x)]) x)]) (s23.1++[b25.1]))),(3,.row 1 (Es eL s23.2.1)),(4,.row 1 (Ls b25.2))],5⟩) (Q1p [(0,0),(1,1),(7,2),(3,3),(5,4)]) (w_runXK [] [6] 7 mo (by rw [hN];decide) fun K hK=>?_));replace ⟨a42,h⟩:=Q0 h;(try simp only [List.length_append,List.length_cons,List.length_nil] at a42);simp [a42];(repeat refine sdQ ?_);refine hK _ ?_ (by rfl);clear hK K;refine bn (tn (Q7 (st':=⟨Yu p_ q_ (Y0O p_ s23 []),Y0N [(1,.mix 17 [(Y1j p_ (Y1j q_ (Y1i [nS,.own 2 0 ((s23.1++[b25.1]).length),.own 3 0 ((s23.2.1++[b25.2]).length)])))]),(2,.mix 1 (Es (fun x=>[.lst true 1 (Es (fun x=>[.lst true 3 (Es (XTripleint64.cells true) x)]) x)]) (s23.1++[b25.1]))),(3,.row 1 (Es eL (s23.2.1++[b25.2])))],4⟩) (Q1p [(0,0),(1,1),(2,2),(6,3)]) (QG [] mo (by rw [hN];decide) fun K hK=>?_)));replace ⟨a43,h⟩:=Q0 h;simp [Qh a43];(repeat refine sdQ ?_);refine hK _ ?_;clear hK K;cases h;exact rn (s':=(s23.1++[b25.1],s23.2.1++[b25.2],s23.2.2+1)) hk23 (Q1F 4)
  have g24:¬ (s23.2.2<p_.s.n):=gQ;clear g;replace h:=if_r g24 h;refine Qm (tx (lx (bh ?_)));cases h;exact jn (b:=(s23.1,s23.2.1)) hk23 (Q1F 4)
 intro b2 hb2;have h:=h2;try rw [← hb2] at h
 clear h2;try dsimp only at h
 refine Q3 (QG [] mo (by rw [hN];decide) fun K hK=>?_);simp;repeat with_reducible refine sdQ ?_
 replace ⟨v44,hv44,h⟩:=bind_some h;refine Q1G (fz:=[]) (Q12 _ _ _ _ _ _ _ v44 hv44) (.cons (.preT (by simp [Cat.cells,Prf.cells,XTripleint64.cells])) (.cons (.preT (by simp [Cat.cells,Prf.cells,XTripleint64.cells])) (.cons (.fnL (by simp) (.cons (.field rfl (by simp [Cat.cells,Prf.cells,XTripleint64.cells]) (.cons (.field rfl (by simp [Cat.cells,Prf.cells,XComposite.cells,XTripleint64.cells]) (.cons (.preT (by simp [Cat.cells,Prf.cells,XTripleint64.cells])) (.cons (.preT (by simp [Cat.cells,Prf.cells,XTripleint64.cells])) (.cons .val (.cons .nil (.cons .nil (.cons .nil (.cons .nil (.cons .val (.cons .nil (.cons .nil (.cons .nil (.cons .nil (.cons .nil (.cons .nil (.cons .nil (.cons (.smix rfl (by simp) (Q3U (by simp [Cat.cells,Prf.cells,XTripleint64.cells,Q16,Q1g,Q9]))) (.cons .w .nil)))))))))))))))))) .nil)) .nil)) (.cons (.fnL (by simp) (.cons .rptr (.cons (.field rfl (by simp [Cat.cells,Prf.cells,XTripleint64.cells]) (.cons (.field rfl (by simp [Cat.cells,Prf.cells,XComposite.cells,XTripleint64.cells]) (.cons (.preT (by simp [Cat.cells,Prf.cells,XTripleint64.cells])) (.cons (.preT (by simp [Cat.cells,Prf.cells,XTripleint64.cells])) (.cons .val (.cons .nil (.cons .nil (.cons .nil (.cons .nil (.cons .val (.cons .nil (.cons .nil (.cons .nil (.cons .nil (.cons .nil (.cons .nil (.cons .nil (.cons (.smix rfl (by simp) (Q3U (by simp [Cat.cells,Prf.cells,XTripleint64.cells,Q16,Q1g,Q9]))) (.cons .w .nil)))))))))))))))))) .nil)) .nil))) (.cons (.fnL (by simp) (.cons .rptr (.cons (.field rfl (by simp [Cat.cells,Prf.cells,XTripleint64.cells]) (.cons (.field rfl (by simp [Cat.cells,Prf.cells,XComposite.cells,XTripleint64.cells]) (.cons (.preT (by simp [Cat.cells,Prf.cells,XTripleint64.cells])) (.cons (.preT (by simp [Cat.cells,Prf.cells,XTripleint64.cells])) (.cons .val (.cons .nil (.cons .nil (.cons .nil (.cons .nil (.cons .val (.cons .nil (.cons .nil (.cons .nil (.cons .nil (.cons .nil (.cons .nil (.cons .nil (.cons (.smix rfl (by simp) (Q3U (by simp [Cat.cells,Prf.cells,XTripleint64.cells,Q16,Q1g,Q9]))) (.cons .w .nil)))))))))))))))))) .nil)) .nil))) .nil))))) ?_;simp;repeat refine sdQ ?_
 refine hK _ ?_;clear hK K;refine tn (Q7 (st':=⟨[(6,.adr 0 0 0),(12,.adr 4 0 0),(13,.val (.bool v44.2))],Y0z p_ q_ b2 [(4,.mix 13 [[iV v44.1.s.n,.own 5 0 v44.1.s.fr.length,.own 6 0 v44.1.s.to.length,.own 7 0 v44.1.s.id.length,.own 8 0 v44.1.s.cs.length,iV v44.1.t.n,.own 9 0 v44.1.t.fr.length,.own 10 0 v44.1.t.to.length,.own 11 0 v44.1.t.id.length,.own 12 0 v44.1.t.cs.length,.own 13 0 v44.1.sz.length,.own 14 0 v44.1.bf.length,.own 15 0 v44.1.bh.length]]),(5,rI v44.1.s.fr),(6,rI v44.1.s.to),(7,rI v44.1.s.id),(8,.row 1 (Ls v44.1.s.cs)),(9,rI v44.1.t.fr),(10,rI v44.1.t.to),(11,rI v44.1.t.id),(12,.row 1 (Ls v44.1.t.cs)),(13,.row 1 (Ls v44.1.sz)),(14,.row 1 (Es eL v44.1.bf)),(15,.row 1 (Es eL v44.1.bh))],16⟩) (Q1p [(0,0),(1,1),(2,2),(3,3),(18,4),(5,5),(6,6),(7,7),(8,8),(10,9),(11,10),(12,11),(13,12),(14,13),(15,14),(16,15)]) (Q3 (QG [] mo (by rw [hN];decide) fun K hK=>?_)));simp;repeat refine sdQ ?_
 refine hK _ ?_;clear hK K;refine tn (Q7 (st':=⟨[(6,.adr 0 0 0),(13,.val (.bool v44.2))],Y0N ((1,.mix 17 [(Y1j p_ (Y1j q_ (Y1l v44 [.own 13 0 b2.1.length,.own 14 0 b2.2.length])))])::Y0y v44 [(13,.mix 1 (Es (fun x=>[.lst true 1 (Es (fun x=>[.lst true 3 (Es (XTripleint64.cells true) x)]) x)]) b2.1)),(14,.row 1 (Es eL b2.2))]),15⟩) (Q1p [(0,0),(1,1),(5,2),(6,3),(7,4),(8,5),(9,6),(10,7),(11,8),(12,9),(13,10),(14,11),(15,12),(2,13),(3,14)]) (Q3 (QG [] mo (by rw [hN];decide) fun K hK=>?_)));simp;repeat refine sdQ ?_
 refine hK _ (tn (Q7 (st':=⟨[(4,.adr 0 0 0),(5,.val (.bool v44.2))],Yw p_ q_ v44 b2 [],14⟩) (Q1p [(1,0),(2,1),(3,2),(4,3),(5,4),(6,5),(7,6),(8,7),(9,8),(10,9),(11,10),(12,11),(13,12),(14,13)]) (Qo ?_)));clear hK K;cases h;try dsimp only
 first|refine iw_r (st':=⟨[(4,.adr 0 0 0),(5,.val (.bool v44.2))],Yw p_ q_ v44 b2 [],14⟩) ?_ ?_|refine iw_n (st':=⟨[(4,.adr 0 0 0),(5,.val (.bool v44.2))],Yw p_ q_ v44 b2 [],14⟩) ?_ ?_
 ·exact Wk.r1 [(0,0),(1,1),(2,2),(3,3),(4,4),(5,5),(6,6),(7,7),(8,8),(9,9),(10,10),(11,11),(12,12),(13,13)] (by simp [hP,hhOk,back,Cat.cells,Prf.cells,XTripleint64.cells,UA,U1,IA,I1,LA,L1,BA,B1,EA,E1,E2,eB,eI,eL,Q8 _ Q9 _ (fun _=>rfl),Q8 _ (XTripleint64.cells true) _ (fun _=>rfl),Q8 _ (fun x=>[.lst true 1 (Es (fun x=>[.lst true 3 (Es (XTripleint64.cells true) x)]) x)]) _ (fun _=>rfl),Q8 _ (fun x=>[.lst true 3 (Es (XTripleint64.cells true) x)]) _ (fun _=>rfl)])
 exact ⟨by simp [Q1K],by simp,by simp [Cat.cells,Prf.cells,XTripleint64.cells]⟩
section
attribute [local simp] Ql Q11 QE Q1j QW
theorem e_idxX {L:List XTripleint64} {t:XTripleint64} {k:Nat} (hl:L.length≤1000000) (hk:k<L.length) (h1:gx L k=t) (h2:∀ j:Nat,j<L.length→gx L j=t→j=k):Qt L t=some (k:Int):=by
 have e:fstN L.length (fun i=>gx L i=t)=(k:Int):=Q9z hk h1 fun j hj w=>by have:=h2 j (by omega) w;omega
 have q:∀ x y:XTripleint64,x=y↔(y.a_=x.a_∧y.b_=x.b_∧y.c_=x.c_):=fun x y=>by
  cases x;cases y;simp only [XTripleint64.mk.injEq];omega
 unfold Qt Qj;rw [Option.bind_assoc];refine fstI L.length (fun i=>gx L i=t) (fun i=>Sum.inr i) (Sum.inl ()) (by omega) (fun i hi=>?_) (by rw [if_neg (by omega)]) ?_
 ·rw [if_pos (by omega),Q4 (by omega)]
  by_cases w:gx L i=t
  ·rw [if_pos ((q _ _).1 w),Q2L w];rfl
  rw [if_neg (fun g=>w ((q _ _).2 g)),Q1n w,Q4 (by unfold B64;omega)];rfl
 rw [e,if_pos (by omega)];rfl
theorem idx_TX {p q:Prf} (h:PQ p q) {x z y e d:Nat} (hx:x<p.s.id.length) (hz:z<q.t.id.length) (hy:y<p.t.id.length) (he:e<szx p x y) (hd:d<szz q z y):Qt (TX p q x z) ⟨(y:Int),(e:Int),(d:Int)⟩=some (tpos p q x z y e d:Int):=by
 have n:=h.nX;have l:=Q6P p q x z;have b:=Q4f (p:=p) (q:=q) (x:=x) (z:=z) hy he hd;have B:tN p q x z≤32768:=h.bnd (x:=x) (z:=z) (y:=p.t.id.length) (by omega) (by omega) (Nat.le_refl _);refine e_idxX (by omega) (by omega) (Q8J (Q9b hy he hd)) fun j hj w=>?_;exact Qa1 hy he hd (by omega) w
theorem Q67 {p q:Prf} (h:PQ p q) {k:XComposite} (ht:k.triples_=Q3J p q) (hc:k.classes_=tabC p q) {x z y e d:Nat} (hx:x<p.s.id.length) (hz:z<q.t.id.length) (hy:y<p.t.id.length) (he:e<szx p x y) (hd:d<szz q z y):Q19 k x z ⟨(y:Int),(e:Int),(d:Int)⟩=some (Qa6 p q x z y e d):=by
 have n:=h.nX;have l:=Q6P p q x z;have b:=Q4f (p:=p) (q:=q) (x:=x) (z:=z) hy he hd;unfold Q19;rw [ht,hc];unfold Q3J tabC;rw [Q1q _ hx,Q1q _ hx,Q1q _ hz,Q2N _ hz,Q4 (by simp;omega),Q4 (by simp;omega),Q4 (by simp;omega),Q4 (by simp;omega),idx_TX h hx hz hy he hd];simp only [Option.bind_some];rw [Q4 (by rw [Q42];omega)];rfl
theorem e_imgB {p q:Prf} (h:PQ p q) {k:XComposite} (ht:k.triples_=Q3J p q) (hc:k.classes_=tabC p q) {a z:Nat} (ha:a<p.s.fr.length) (hz:z<q.t.id.length) (hN:tN p q (toN p.s a) z≤256):Q1d a z p k=some (comB p q a z):=by
 obtain ⟨m1,m2,m3,m4,m5,m6,m7,m8⟩:=h.nX;obtain ⟨f1,f2,f3,f4⟩:=Q3A h.a.z.hs ha;have cb:=h.cmT_b (x:=toN p.s a) (z:=z) (by omega) (by omega);have l3:=Q6P p q (toN p.s a) z;have lc:=Q42 p q (toN p.s a) z;unfold Q1d QB;rw [Q4 (by omega),Q4 (by omega),f1,f3,hc,ht];have e2:gx (Q3J p q) (toN p.s a:Nat)=tab q.t.id.length fun z=>TX p q (toN p.s a) z:=Q1q _ f4;have e3:gx (tabC p q) (toN p.s a:Nat)=tab q.t.id.length fun z=>cmC p q (toN p.s a) z:=Q1q _ f4;have e5:((Q3J p q).length:Int)=p.s.id.length:=by simp [Q3J]
 have e6:((tabC p q).length:Int)=p.s.id.length:=by simp [tabC]
 rw [e2,e3,Q1q _ hz,Q2N _ hz,Q4 (by omega),Q4 (by simp;omega),(h.e_cmT (x:=toN p.s a) (z:=z) (by omega) (by omega) hN).2];simp only [Option.bind_some];rw [Q4 (by omega),Q4 (by omega),Q4 (by simp;omega),Option.bind_assoc];refine QY (tN p q (toN p.s a) z) (fun i=>img (cmC p q (toN p.s a) z) (bVal p q a z) (List.replicate (cmT p q (toN p.s a) z).toNat 0) i) (e:=comB p q a z) rfl (by omega) (fun i hi=>?_) (by simp only;rw [if_neg (by omega)];rfl) rfl;obtain ⟨y,e,d,⟨y1,y2,y3⟩,y4,y5,y6,y7⟩:=t_at hi;obtain ⟨⟨b1,b2,b3⟩,b4,b5⟩:=h.pbf ha y1 y2;have cbi:=cb.2.2 i hi;have one:QR ⟨(y:Int),(e:Int),(d:Int)⟩ k (frN p.s a:Int) (z:Int) p (a:Int)=some (bVal p q a z i):=by
  unfold QR;simp only;rw [Q4 (by omega),Q4 (by omega),Q4 (by omega),b4,Q67 h ht hc f2 hz y1 b5 y3];simp only [Option.bind_some];unfold bVal;rw [y7]
 simp only;rw [if_pos (by omega),Q4 (by omega),Q4 (by omega),Q4 (by simp;omega),Q4 (by omega),y6,one];simp only [Option.bind_some];rw [Q4 (by simp;omega),Q4 (by unfold B64;omega)];rfl
theorem e_imgH {p q:Prf} (h:PQ p q) {k:XComposite} (ht:k.triples_=Q3J p q) (hc:k.classes_=tabC p q) {b x:Nat} (hb:b<q.t.fr.length) (hx:x<p.s.id.length) (hN:tN p q x (frN q.t b)≤256):Q1e b x q k=some (comH p q b x):=by
 obtain ⟨m1,m2,m3,m4,m5,m6,m7,m8⟩:=h.nX;obtain ⟨f1,f2,f3,f4⟩:=Q3A h.b.z.ht hb;have cb:=h.cmT_b (x:=x) (z:=frN q.t b) (by omega) (by omega);have l3:=Q6P p q x (frN q.t b);have lc:=Q42 p q x (frN q.t b);unfold Q1e QC;rw [Q4 (by omega),Q4 (by omega),f1,f3,hc,ht];have e2:gx (Q3J p q) (x:Nat)=tab q.t.id.length fun z=>TX p q x z:=Q1q _ hx;have e3:gx (tabC p q) (x:Nat)=tab q.t.id.length fun z=>cmC p q x z:=Q1q _ hx;have e5:((Q3J p q).length:Int)=p.s.id.length:=by simp [Q3J]
 have e6:((tabC p q).length:Int)=p.s.id.length:=by simp [tabC]
 rw [e2,e3,Q1q _ f2,Q2N _ f2,Q4 (by omega),Q4 (by simp;omega),(h.e_cmT (x:=x) (z:=frN q.t b) (by omega) (by omega) hN).2];simp only [Option.bind_some];rw [Q4 (by omega),Q4 (by omega),Q4 (by simp;omega),Option.bind_assoc];refine QY (tN p q x (frN q.t b)) (fun i=>img (cmC p q x (frN q.t b)) (hVal p q b x) (List.replicate (cmT p q x (frN q.t b)).toNat 0) i) (e:=comH p q b x) rfl (by omega) (fun i hi=>?_) (by simp only;rw [if_neg (by omega)];rfl) rfl;obtain ⟨y,e,d,⟨y1,y2,y3⟩,y4,y5,y6,y7⟩:=t_at hi;obtain ⟨⟨b1,b2,b3⟩,b4,b5⟩:=h.qbh hb y1 y3;have cbi:=cb.2.2 i hi;have one:QS ⟨(y:Int),(e:Int),(d:Int)⟩ k (x:Int) (toN q.t b:Int) q (b:Int)=some (hVal p q b x i):=by
  unfold QS;simp only;rw [Q4 (by omega),Q4 (by omega),Q4 (by omega),b4,Q67 h ht hc hx f4 y1 y2 b5];simp only [Option.bind_some];unfold hVal;rw [y7]
 simp only;rw [if_pos (by omega),Q4 (by omega),Q4 (by omega),Q4 (by simp;omega),Q4 (by omega),y6,one];simp only [Option.bind_some];rw [Q4 (by simp;omega),Q4 (by unfold B64;omega)];rfl
open Classical in
noncomputable def mkP (p q:Prf):Prf × Bool:=if OKc p q then (comP p q,true) else (Q9l,false)
theorem e_profC {p q:Prf} (h:PQ p q) {k:XComposite} (ht:k.triples_=Q3J p q) (hc:k.classes_=tabC p q) (hN:∀ x z:Nat,x<p.s.id.length→z<q.t.id.length→tN p q x z≤256):Qi p.s q.t k p k q k=some (mkP p q):=by
 obtain ⟨m1,m2,m3,m4,m5,m6,m7,m8⟩:=h.nX;unfold Qi QP;rw [Q4 h.a.z.hs.ok,Q4 h.b.z.ht.ok];simp only [Option.bind_some];refine Q1x (σ:=List (List Int) × Int) (Q:=fun o=>o=some (mkP p q)) p.s.id.length
  (fun x s=>s=(tab x fun x=>tab q.t.id.length fun z=>cmT p q x z,(x:Int))∧∀ x' z:Nat,x' < x→z<q.t.id.length→tN p q x' z≤256∧cmT p q x' z≤64)
  (fun e=>(e = .inl (comP p q).sz∧OKc p q)∨(e = .inr (Q9l,false)∧¬ OKc p q)) (by omega) ⟨rfl,fun x' z hx'=>by omega⟩ ?_ ?_ ?_
 ·rintro x s hx ⟨rfl,ok⟩
  simp only;rw [if_pos (by omega),Q4 (by omega)];refine Q1x (σ:=List Int × Int) (Q:=fun o=>(∃ s':List (List Int) × Int,o=some (Ctl.next s')∧s'=(tab (x+1) fun x=>tab q.t.id.length fun z=>cmT p q x z,((x+1:Nat):Int))∧∀ x' z:Nat,x' < x+1→z<q.t.id.length→tN p q x' z≤256∧cmT p q x' z≤64)∨∃ e:(List (List Int)) ⊕ (Prf × Bool),o=some (Ctl.ret e)∧((e = .inl (comP p q).sz∧OKc p q)∨(e = .inr (Q9l,false)∧¬ OKc p q))) q.t.id.length
   (fun z s=>s=(tab z fun z=>cmT p q x z,(z:Int))∧∀ z':Nat,z' < z→tN p q x z'≤256∧cmT p q x z'≤64)
   (fun e=>(e = .inl (tab q.t.id.length fun z=>cmT p q x z)∧∀ z':Nat,z' < q.t.id.length→tN p q x z'≤256∧cmT p q x z'≤64)∨(e = .inr (Q9l,false)∧¬ OKc p q)) (by omega) ⟨rfl,fun z' hz'=>by omega⟩ ?_ ?_ ?_
  ·rintro z s hz ⟨rfl,ok2⟩
   have et:=(h.e_cmT (x:=x) (z:=z) (by omega) (by omega) (hN x z hx hz)).2;have one:Q1A x z k=some (cmT p q x z):=by
    unfold Q1A;rw [hc];have e3:gx (tabC p q) (x:Nat)=tab q.t.id.length fun z=>cmC p q x z:=Q1q _ hx;have e6:((tabC p q).length:Int)=p.s.id.length:=(by simp [tabC]);rw [e3,Q2N _ hz,Q4 (by omega),Q4 (by simp;omega),et];rfl
   simp only;rw [if_pos (by omega),Q4 (by simp),one];simp only [Option.bind_some,Int.toNat_natCast,Qa0];rw [Q4 (by simp;omega),Q4 (by simp;omega),← Q1u z fun z=>cmT p q x z,Q3R _ _ (by omega)]
   by_cases g2:cmT p q x z≤64
   case neg =>
    right;rw [if_pos (by omega)];exact ⟨_,rfl,.inr ⟨rfl,fun w=>g2 (w x z hx hz).2⟩⟩
   left;rw [if_neg (by omega),Q4 (by unfold B64;omega)];refine ⟨_,rfl,rfl,fun z' hz'=>?_⟩
   by_cases w:z'=z
   ·subst w;exact ⟨hN x z' hx hz,g2⟩
   exact ok2 z' (by omega)
  ·rintro s ⟨rfl,ok2⟩
   simp only;rw [if_neg (by omega)];exact ⟨_,rfl,.inl ⟨rfl,ok2⟩⟩
  rintro e (⟨rfl,ok2⟩|⟨rfl,no⟩)
  ·left;simp only;rw [Q4 (by simp;omega),Q4 (by unfold B64;omega)];refine ⟨_,rfl,by simp only [Q1u];rfl,fun x' z' hx' hz'=>?_⟩
   by_cases w:x'=x
   ·subst w;exact ok2 z' hz'
   exact ok x' z' (by omega) hz'
  right;exact ⟨_,rfl,.inr ⟨rfl,no⟩⟩
 ·rintro s ⟨rfl,ok⟩
  simp only;rw [if_neg (by omega)];exact ⟨_,rfl,.inl ⟨rfl,ok⟩⟩
 rintro e (⟨rfl,ok⟩|⟨rfl,no⟩)
 case inr =>
  rw [mkP,if_neg no]
 rw [mkP,if_pos ok];simp only;refine tabg p.s.fr.length (fun a=>tab q.t.id.length fun z=>comB p q a z) (e:=(comP p q).bf) (by omega) (fun a ha=>?_) (by simp only;rw [if_neg (by omega)];rfl) ?_
 ·obtain ⟨f1,f2,f3,f4⟩:=Q3A h.a.z.hs ha;simp only;rw [if_pos (by omega)];refine tabg q.t.id.length (fun z=>comB p q a z) (e:=tab q.t.id.length fun z=>comB p q a z) (by omega) (fun z hz=>?_) (by simp only;rw [if_neg (by omega)]) rfl;simp only;rw [if_pos (by omega),e_imgB h ht hc ha hz (hN _ _ f4 hz)];simp only [Option.bind_some]
 refine tabg q.t.fr.length (fun b=>tab p.s.id.length fun x=>comH p q b x) (e:=(comP p q).bh) (by omega) (fun b hb=>?_) (by simp only;rw [if_neg (by omega)];rfl) rfl;obtain ⟨f1,f2,f3,f4⟩:=Q3A h.b.z.ht hb;simp only;rw [if_pos (by omega)];refine tabg p.s.id.length (fun x=>comH p q b x) (e:=tab p.s.id.length fun x=>comH p q b x) (by omega) (fun x hx=>?_) (by simp only;rw [if_neg (by omega)]) rfl;simp only;rw [if_pos (by omega),e_imgH h ht hc hb hx (hN _ _ hx f2)];simp only [Option.bind_some]
abbrev CmpT:=Unit ⊕ (Int × List Int × List Int × List Int × List (List Int) × Int × List Int × List Int × List Int × List (List Int) × List (List Int) × List (List (List Int)) × List (List (List Int)) × List (List (List XTripleint64)) × List (List (List Int)) × Bool)
def cmpR (P:Prf) (T:List (List (List XTripleint64))) (C:List (List (List Int))) (b:Bool):Int × List Int × List Int × List Int × List (List Int) × Int × List Int × List Int × List Int × List (List Int) × List (List Int) × List (List (List Int)) × List (List (List Int)) × List (List (List XTripleint64)) × List (List (List Int)) × Bool:=(P.s.n,P.s.fr,P.s.to,P.s.id,P.s.cs,P.t.n,P.t.fr,P.t.to,P.t.id,P.t.cs,P.sz,P.bf,P.bh,T,C,b)
theorem e_compose {p q:Prf} (h:PQ p q):∃ r:CmpT,Q3q p q=some r∧((OKc p q∧r = .inr (cmpR (comP p q) (Q3J p q) (tabC p q) true))∨(¬ OKc p q∧(r = .inl ()∨r = .inr (cmpR Q9l (Q3J p q) (tabC p q) false)))):=by
 obtain ⟨m1,m2,m3,m4,m5,m6,m7,m8⟩:=h.nX;unfold Q3q;refine Q1x (σ:=List (List (List XTripleint64)) × List (List (List Int)) × Int) (Q:=fun o=>∃ r:CmpT,o=some r∧((OKc p q∧r = .inr (cmpR (comP p q) (Q3J p q) (tabC p q) true))∨(¬ OKc p q∧(r = .inl ()∨r = .inr (cmpR Q9l (Q3J p q) (tabC p q) false))))) p.s.id.length
  (fun x s=>s=(tab x fun x=>tab q.t.id.length fun z=>TX p q x z,tab x fun x=>tab q.t.id.length fun z=>cmC p q x z,(x:Int))∧∀ x' z:Nat,x' < x→z<q.t.id.length→tN p q x' z≤256)
  (fun (e:(List (List (List XTripleint64)) × List (List (List Int))) ⊕ CmpT)=>(e = .inl (Q3J p q,tabC p q)∧∀ x z:Nat,x<p.s.id.length→z<q.t.id.length→tN p q x z≤256)∨(e = .inr (.inl ())∧¬ OKc p q)) (by omega) ⟨rfl,fun x' z hx'=>by omega⟩ ?_ ?_ ?_
 ·rintro x s hx ⟨rfl,ok⟩
  simp only;rw [if_pos (by omega)];refine Q1x (σ:=List (List XTripleint64) × List (List Int) × Int) (Q:=fun o=>(∃ s':List (List (List XTripleint64)) × List (List (List Int)) × Int,o=some (Ctl.next s')∧s'=(tab (x+1) fun x=>tab q.t.id.length fun z=>TX p q x z,tab (x+1) fun x=>tab q.t.id.length fun z=>cmC p q x z,((x+1:Nat):Int))∧∀ x' z:Nat,x' < x+1→z<q.t.id.length→tN p q x' z≤256)∨∃ e:(List (List (List XTripleint64)) × List (List (List Int))) ⊕ CmpT,o=some (Ctl.ret e)∧((e = .inl (Q3J p q,tabC p q)∧∀ x z:Nat,x<p.s.id.length→z<q.t.id.length→tN p q x z≤256)∨(e = .inr (.inl ())∧¬ OKc p q))) q.t.id.length
   (fun z s=>s=(tab z fun z=>TX p q x z,tab z fun z=>cmC p q x z,(z:Int))∧∀ z':Nat,z' < z→tN p q x z'≤256)
   (fun (e:(List (List XTripleint64) × List (List Int)) ⊕ CmpT)=>(e = .inl (tab q.t.id.length fun z=>TX p q x z,tab q.t.id.length fun z=>cmC p q x z)∧∀ z':Nat,z' < q.t.id.length→tN p q x z'≤256)∨(e = .inr (.inl ())∧¬ OKc p q)) (by omega) ⟨rfl,fun z' hz'=>by omega⟩ ?_ ?_ ?_
  ·rintro z s hz ⟨rfl,ok2⟩
   have l3:=Q6P p q x z;have e3:Q2a p q x z=some (TX p q x z):=e_triAt h (by omega) (by omega);simp only;rw [if_pos (by omega),e3];simp only [Option.bind_some]
   by_cases g1:tN p q x z≤256
   case neg =>
    right;rw [if_pos (by omega)];exact ⟨_,rfl,.inr ⟨rfl,fun w=>g1 (w x z hx hz).1⟩⟩
   have ec:Q29 p q x z (TX p q x z)=some (cmC p q x z):=e_clsAt h (by omega) (by omega) g1;left;rw [if_neg (by omega),Q4 (by simp;omega),ec];simp only [Option.bind_some];rw [Q4 (by simp;omega),Q4 (by unfold B64;omega)];refine ⟨_,rfl,by simp only [Q1u];rfl,fun z' hz'=>?_⟩
   by_cases w:z'=z
   ·subst w;exact g1
   exact ok2 z' (by omega)
  ·rintro s ⟨rfl,ok2⟩
   simp only;rw [if_neg (by omega)];exact ⟨_,rfl,.inl ⟨rfl,ok2⟩⟩
  rintro e (⟨rfl,ok2⟩|⟨rfl,no⟩)
  ·left;simp only;rw [Q4 (by simp;omega),Q4 (by simp;omega),Q4 (by unfold B64;omega)];refine ⟨_,rfl,by simp only [Q1u];rfl,fun x' z' hx' hz'=>?_⟩
   by_cases w:x'=x
   ·subst w;exact ok2 z' hz'
   exact ok x' z' (by omega) hz'
  right;exact ⟨_,rfl,.inr ⟨rfl,no⟩⟩
 ·rintro s ⟨rfl,ok⟩
  simp only;rw [if_neg (by omega)];exact ⟨_,rfl,.inl ⟨rfl,ok⟩⟩
 rintro e (⟨rfl,ok⟩|⟨rfl,no⟩)
 ·simp only;rw [e_profC h rfl rfl ok];simp only [Option.bind_some]
  by_cases w:OKc p q
  ·rw [mkP,if_pos w];exact ⟨_,rfl,.inl ⟨w,rfl⟩⟩
  rw [mkP,if_neg w];exact ⟨_,rfl,.inr ⟨w,.inr rfl⟩⟩
 exact ⟨_,rfl,.inr ⟨no,.inl rfl⟩⟩
end
attribute [local simp] unk unA unE unT unC flat eL eI Qr Q1g Prf.cells
noncomputable def Q1T (p_:Prf) (x_:Int) (y_:Int):Option Int :=
 (Qy (σ:=Int × Int) (ε:=Int) (fun s26 =>
  if s26.2<p_.s.n then
   (
    (Qy (σ:=Int × Int) (ε:=Int) (fun s39 =>
     if s39.2<p_.t.n then
      (
       (
        if s26.2<x_ then
         some true
        else
         if s26.2=x_ then
          some (decide (s39.2<y_))
         else
          some false:Option (Bool)).bind fun b42 =>
       if b42=true then
        ass (0≤s26.2∧s26.2<(p_.sz.length:Int)) <|
        ass (0≤s39.2∧s39.2<((rx p_.sz s26.2).length:Int)) <|
        ass (B64 (s39.1+(ix (rx p_.sz s26.2) s39.2))) <|
        some (s39.1+(ix (rx p_.sz s26.2) s39.2))
       else
        some s39.1:Option (Int)).bind fun b41 =>
      ass (B64 (s39.2+1)) <|
      some (Ctl.next (b41,s39.2+1))
     else
      some (Ctl.ret s39.1)) fuel (s26.1,0)).bind fun p39 =>
    some p39:Option (Int)).bind fun b28 =>
   ass (B64 (s26.2+1)) <|
   some (Ctl.next (b28,s26.2+1))
  else
   some (Ctl.ret s26.1)) fuel (0,0)).bind fun b1 =>
 some b1
theorem Q5j (p_:Prf) (x_:Int) (y_:Int) (r:Int) (h:Q1T p_ x_ y_=some r):Contract Tryz.prog 59 [.agg (p_.cells true),iV x_,iV y_] (iV r):=by
 refine Qc (rvs:=[.tmp 6]) (rs:=[iV r]) Tryz.func59 rfl rfl rfl rfl (by simp [Tryz.f59]) fun F hN hP=>?_;unfold Q1T at h;refine Q3 (runQ hN fun K hK=>?_);simp;repeat refine sdQ ?_
 refine hK _ ?_;clear hK K;refine tn (Q7 (st':=⟨Y0i x_ y_ [],YY p_ [],1⟩) (Q1p [(0,0)]) (Q3 (runQ hN fun K hK=>?_)));simp;repeat refine sdQ ?_
 refine hK _ ?_;clear hK K;refine tn (Q7 (st':=⟨Y0i x_ y_ [(7,iV 0)],YY p_ [],1⟩) (Q1p [(0,0)]) (Q3 (Q3 (runQ hN fun K hK=>?_))));simp;repeat refine sdQ ?_
 refine hK _ (tn (Q7 (st':=⟨Y0i x_ y_ [(7,iV 0),(8,iV 0)],YY p_ [],1⟩) (Q1p [(0,0)]) ?_));clear hK K;replace ⟨e1,h,h1⟩:=bind_some h;refine Qg (fun b1:Int=>⟨[(7,iV b1)],[],0⟩) (fun b1=>b1=e1) ?_ ?_
 ·refine Qa (Qn h (fun s26:Int × Int=>⟨Y0i x_ y_ [(7,iV s26.1),(8,iV s26.2)],YY p_ [],1⟩) (Q1p [(0,0)]) ?_);clear h;intro k26 s26 c26 h hk26;refine Q3 (Q3 (runQ hN fun K hK=>?_));simp;repeat refine sdQ ?_
  refine hK _ ?_;clear hK K;refine tn (Qd rfl (fun g=>?_) fun g=>?_)
  ·have g27:s26.2<p_.s.n:=gQ;clear g;replace h:=if_l g27 h;refine Qe (tn (Q3 ?_));replace ⟨e28,h,h28⟩:=bind_some h;refine Qg (fun b28:Int=>⟨Y0i x_ y_ [(7,iV b28),(8,iV s26.2)],YY p_ [],1⟩) (fun b28=>b28=e28) ?_ ?_
   ·refine Qa (Q3 (runQ hN fun K hK=>?_));simp;(repeat refine sdQ ?_);refine hK _ (tn (Q7 (st':=⟨Y0i x_ y_ [(7,iV s26.1),(8,iV s26.2),(9,iV 0)],YY p_ [],1⟩) (Q1p [(0,0)]) (Qa ?_)));clear hK K;replace ⟨e39,he39,h39⟩:=bind_some h;refine Qn he39 (fun s39:Int × Int=>⟨Y0i x_ y_ [(7,iV s39.1),(8,iV s26.2),(9,iV s39.2)],YY p_ [],1⟩) (Q1p [(0,0)]) ?_;intro k39 s39 c39 h hk39;refine Q3 (Q3 (runQ hN fun K hK=>?_));simp;(repeat refine sdQ ?_);refine hK _ ?_;clear hK K;refine tn (Qd rfl (fun g=>?_) fun g=>?_)
    ·have g40:s39.2<p_.t.n:=gQ;clear g;replace h:=if_l g40 h;refine Qe (tn (Q3 ?_));replace ⟨e41,h,h41⟩:=bind_some h;refine Qg (fun b41:Int=>⟨Y0i x_ y_ [(7,iV b41),(8,iV s26.2),(9,iV s39.2)],YY p_ [],1⟩) (fun b41=>b41=e41) ?_ ?_
     ·refine Qa (Q3 ?_);replace ⟨e42,h,h42⟩:=bind_some h;refine Qg (fun b42:Bool=>⟨Y0i x_ y_ [(7,iV s39.1),(8,iV s26.2),(9,iV s39.2),(36,.val (.bool b42))],YY p_ [],1⟩) (fun b42=>b42=e42) ?_ ?_
      ·refine runQ hN fun K hK=>?_;simp;(repeat with_reducible refine sdQ ?_);refine QZ (fun g=>?_) (fun g=>?_)
       ·have g43:¬ (s26.2<x_):=gQ;clear g;replace h:=if_r g43 h;simp;(repeat with_reducible refine sdQ ?_);refine QZ (fun g=>?_) (fun g=>?_)
        ·have g44:s26.2=x_:=gQ;clear g;replace h:=if_l g44 h;simp;(repeat refine sdQ ?_);refine hK _ ?_;exact jn (b:=decide (s39.2<y_)) (Option.some.inj h) (Q1p [(0,0)])
        have g44:¬ (s26.2=x_):=gQ;clear g;replace h:=if_r g44 h;simp;(repeat refine sdQ ?_);refine hK _ ?_;exact jn (b:=false) (Option.some.inj h) (Q1p [(0,0)])
       have g43:s26.2<x_:=gQ;clear g;replace h:=if_l g43 h;simp;(repeat refine sdQ ?_);refine hK _ ?_;exact jn (b:=true) (Option.some.inj h) (Q1p [(0,0)])
      intro b42 hb42;have h:=h42;(try rw [← hb42] at h);clear h42;(try dsimp only at h);refine Qd rfl (fun g=>?_) fun g=>?_
      ·have g45:b42=true:=gQ;clear g;replace h:=if_l g45 h;refine runQ hN fun K hK=>?_;replace ⟨a46,h⟩:=Q0 h;replace ⟨a47,h⟩:=Q0 h;replace ⟨a48,h⟩:=Q0 h;simp [at_L a46,at_I a47,Qh a48];(repeat refine sdQ ?_);refine hK _ (bn ?_);clear hK K;exact jn (b:=s39.1+(ix (rx p_.sz s26.2) s39.2)) (Option.some.inj h) (Q1p [(0,0)])
      have g45:¬ (b42=true):=gQ;clear g;replace h:=if_r g45 h;refine Qe (bn ?_);exact jn (b:=s39.1) (Option.some.inj h) (Q1p [(0,0)])
     intro b41 hb41;have h:=h41;(try rw [← hb41] at h);clear h41;(try dsimp only at h);refine runQ hN fun K hK=>?_;replace ⟨a49,h⟩:=Q0 h;simp [Qh a49];(repeat refine sdQ ?_);refine hK _ ?_;clear hK K;cases h;exact rn (s':=(b41,s39.2+1)) hk39 (Q1p [(0,0)])
    have g40:¬ (s39.2<p_.t.n):=gQ;clear g;replace h:=if_r g40 h;refine Qm (tx (lx (bh (bn ?_))));cases h;have q:_=e39:=hk39;have h:=h39;rw [← q] at h;clear q;(try dsimp only at h);exact jn (b:=s39.1) (Option.some.inj h) (Q1p [(0,0)])
   intro b28 hb28;have h:=h28;(try rw [← hb28] at h);clear h28;(try dsimp only at h);refine runQ hN fun K hK=>?_;replace ⟨a50,h⟩:=Q0 h;simp [Qh a50];(repeat refine sdQ ?_);refine hK _ ?_;clear hK K;cases h;exact rn (s':=(b28,s26.2+1)) hk26 (Q1p [(0,0)])
  have g27:¬ (s26.2<p_.s.n):=gQ;clear g;replace h:=if_r g27 h;refine Qm (tx (lx (bh ?_)));cases h;exact jn (b:=s26.1) hk26 (Q1p [])
 intro b1 hb1;have h:=h1;try rw [← hb1] at h
 clear h1;try dsimp only at h
 refine Q3 (runQ hN fun K hK=>?_);simp;repeat refine sdQ ?_
 refine hK _ (tn (Q7 (st':=⟨[(6,iV b1)],[],0⟩) (Q1p []) (Qo ?_)));clear hK K;have hr:=Option.some.inj h;rw [← hr];refine ⟨_,(.tmp .nil),?_⟩;refine ⟨(.one rfl rfl .nil),[iV b1],[],by simp [Prf.cells,UA,U1,IA,I1,LA,L1,BA,B1,EA,E1,E2,eB,eI,eL],by simp,(UpL.refl _)⟩
end Go.Vc.T
