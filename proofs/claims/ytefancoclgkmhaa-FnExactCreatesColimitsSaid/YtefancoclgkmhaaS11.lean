/- A part of the proof: a verified generator of conditions, and what each function of the program does. -/
import Derived.Test.YtefancoclgkmhaaS10
set_option maxRecDepth 100000
set_option maxHeartbeats 4000000
set_option linter.unusedSimpArgs false
set_option linter.unusedVariables false

namespace Go.Vc.T
open Go Go.Vc Go.Proofs
section
attribute [local simp] Qf QG Qu Q15 QD
theorem Q6B {c:Cat} {f g:Int} (hf:0≤f∧f<(c.fr.length:Int)) (hg:0≤g∧g<(c.fr.length:Int)):ix (rx (opC c).cs f) g=ix (rx c.cs g) f:=by
 obtain ⟨i,rfl⟩:=Int.eq_ofNat_of_zero_le hf.1;obtain ⟨j,rfl⟩:=Int.eq_ofNat_of_zero_le hg.1;have hi:i<c.fr.length:=by omega
 have hj:j<c.fr.length:=by omega
 have:rx (opC c).cs i=tab c.fr.length fun g=>ix (rx c.cs g) i:=by simp [rx,opC,tab,List.getD_eq_getElem?_getD,hi]
 rw [this,ix_tab _ _ hj]
theorem opC_is {c:Cat} (h:c.Is):(opC c).Is:=by
 have lt:=h.1.lt;have hA:∀ {a:Nat},a<c.to.length→Ar c a (ix c.fr a) (ix c.to a):=fun {a} ha=>⟨⟨by omega,by omega⟩,rfl,rfl⟩;refine ⟨⟨h.1.n0,h.1.n8,by show c.to.length≤40;have:=h.1.m40;omega,lt.symm,h.1.to,h.1.fr,by show (tab _ _).length=c.to.length;simp [tab,lt],h.1.li,by show ∀ x∈c.id,inR c.to.length x=true;rw [lt];exact h.1.id,fun x hx=>⟨(h.1.ids x hx).2,(h.1.ids x hx).1⟩,fun f hf=>⟨?_,fun g hg=>?_⟩⟩,fun f hf=>?_,fun f hf g hg k hk e1 e2=>?_⟩
 ·have hf':f<c.fr.length:=by have:f<c.to.length:=hf;omega
  have:rx (opC c).cs f=tab c.fr.length fun g=>ix (rx c.cs g) f:=by simp [rx,opC,tab,List.getD_eq_getElem?_getD,hf']
  rw [this];show (tab _ _).length=c.to.length;simp [tab,lt]
 ·have hf':f<c.fr.length:=by have:f<c.to.length:=hf;omega
  have hg':g<c.fr.length:=by have:g<c.to.length:=hg;omega
  have q:=(h.1.rows g hg').2 f hf';unfold Cat.cell at q ⊢;rw [Q6B ⟨by omega,by omega⟩ ⟨by omega,by omega⟩];refine ⟨fun e=>q.1 fun e'=>e e'.symm,fun e=>?_⟩;obtain ⟨q1,q2,q3,q4⟩:=q.2 e.symm;exact ⟨q1,by show _<(c.to.length:Int);omega,q4,q3⟩
 ·have hf':f<c.to.length:=hf;have A:=hA hf';have B:=h.Af A.1;have c1:=h.Ai B.2.1;have c2:=h.Ai B.2.2;unfold Cat.un;show ix (rx (opC c).cs (ix c.id (ix c.to f))) f=f∧ix (rx (opC c).cs f) (ix c.id (ix c.fr f))=f;rw [Q6B c2.1 A.1,Q6B A.1 c1.1];exact ⟨(h.idl A).2,(h.idl A).1⟩
 have Af:=hA (a:=f) hf;have Ag:=hA (a:=g) hg;have Ak:=hA (a:=k) hk;have e1':ix c.fr f=ix c.to g:=e1;have e2':ix c.fr g=ix c.to k:=e2;rw [e1'] at Af;rw [e2'] at Ag;have gf:=Ar.two h Ag Af;have kg:=Ar.two h Ak Ag;rw [Q6B Af.1 Ag.1,Q6B Ag.1 Ak.1,Q6B gf.1 Ak.1,Q6B Af.1 kg.1];exact (h.assoc Ak Ag Af).symm
theorem opF_is {f:Fn} (h:f.Is):(opF f).Is:=by
 have l1:=h.s.1.lt;have l2:=h.t.1.lt;have la:=h.la;refine ⟨opC_is h.s,opC_is h.t,h.lo,by show f.ar.length=f.s.to.length;omega,h.ob,fun j hj=>?_,fun a ha=>?_,h.ids,fun a ha b hb e=>?_⟩
 ·show 0≤ix f.ar j∧ix f.ar j<(f.t.to.length:Int);rw [l2];exact h.ar j hj
 ·have:=h.ends a (by have:a<f.s.to.length:=ha;omega);exact ⟨this.2,this.1⟩
 have ha':a<f.s.fr.length:=by have:a<f.s.to.length:=ha;omega
 have hb':b<f.s.fr.length:=by have:b<f.s.to.length:=hb;omega
 show ix f.ar (ix (rx (opC f.s).cs a) b)=ix (rx (opC f.t).cs (ix f.ar a)) (ix f.ar b);rw [Q6B ⟨by omega,by omega⟩ ⟨by omega,by omega⟩,Q6B (h.ar a (by omega)) (h.ar b (by omega))];have e':ix f.s.fr a=ix f.s.to b:=e;exact h.comp b hb' a ha' e'.symm
theorem opF_then (d f:Fn):opF (QO d f)=QO (opF d) (opF f):=rfl
end
attribute [local simp] unk unA unE unT unC flat eL eI Qm Q2n Cone.cells
noncomputable def Q27 (p_:Cone):Option ByteArray :=
 (Q5t [[p_.a],p_.l]).bind fun v1 =>
 some v1
theorem QR {F : Fx} {st st' : St} (m : List (Nat × Nat)) (h : (m.map Prod.fst).Nodup ∧ (m.map Prod.snd).Nodup ∧ (∀ id, id < F.pins → look id m = some id) ∧ (∀ p ∈ m, p.2 < st'.n) ∧ (∀ p ∈ st'.h, p.1 < st'.n) ∧ (∀ p ∈ st'.s, p.2 = rl m (st.get p.1) ∨ p.2 = .bot) ∧ ∀ p ∈ st'.h, hhOk m st.h p.1 p.2 := by simp [hP, hhOk, back, idQ, Cone.cells, UA, U1, IA, I1, LA, L1, BA, B1, EA, E1, E2, eB, eI, eL, Fn.cells, XMoved.cells, Q9 _ QF _ (fun _=>rfl), Q9 _ (Cone.cells true) _ (fun _=>rfl), Cat.cells]) : Wk F st st' := Wk.r1 m h
theorem Q2N {F : Fx} {st st' : St} (m : Nat) (h : ((idQ m).map Prod.fst).Nodup ∧ ((idQ m).map Prod.snd).Nodup ∧ (∀ id, id < F.pins → look id (idQ m) = some id) ∧ (∀ p ∈ (idQ m), p.2 < st'.n) ∧ (∀ p ∈ st'.h, p.1 < st'.n) ∧ (∀ p ∈ st'.s, p.2 = rl (idQ m) (st.get p.1) ∨ p.2 = .bot) ∧ ∀ p ∈ st'.h, hhOk (idQ m) st.h p.1 p.2 := by simp [hP, hhOk, back, idQ, Cone.cells, UA, U1, IA, I1, LA, L1, BA, B1, EA, E1, E2, eB, eI, eL, Fn.cells, XMoved.cells, Q9 _ QF _ (fun _=>rfl), Q9 _ (Cone.cells true) _ (fun _=>rfl), Cat.cells]) : Wk F st st' := Wk.r1 (idQ m) h
theorem Q5z (p_:Cone) (r:ByteArray) (h:Q27 p_=some r):Contract Try.prog 33 [.agg (p_.cells true)] (.val (.string r)):=by
 refine Q8 (rvs:=[.tmp 2]) (rs:=[.val (.string r)]) Try.func33 rfl rfl rfl rfl (by simp [Try.f33]) fun F hN hP=>?_;unfold Q27 at h;refine Q0 (runQ hN fun K hK=>?_);simp;repeat refine sdQ ?_
 refine hK _ ?_;clear hK K;refine tn (Q4 (st':=⟨[(1,.adr 0 0 0)],Y0b p_ [],1⟩) (QR [(0,0)]) (Q0 (runQ hN fun K hK=>?_)));simp;repeat with_reducible refine sdQ ?_
 replace ⟨v1,hv1,h⟩:=bind_some h;refine Q1 (w_i_key _ v1 hv1) (.cons (.lits (es:=_) rfl (.cons rfl (.cons (.lits (es:=_) rfl (.cons rfl (.cons .val .nil) .nil) rfl) .nil) (.cons rfl (.cons .lst .nil) .nil)) rfl) .nil) ?_;simp;repeat refine sdQ ?_
 refine hK _ (tn (Q4 (st':=⟨[(2,.val (.string v1))],[],0⟩) (QR []) (Qe ?_)));clear hK K;have hr:=Option.some.inj h;rw [← hr];refine ⟨_,(.tmp .nil),?_⟩;refine ⟨(.one rfl rfl .nil),[.val (.string v1)],[],by simp [Cone.cells,UA,U1,IA,I1,LA,L1,BA,B1,EA,E1,E2,eB,eI,eL],by simp,(UpL.refl _)⟩
attribute [local simp] unk unA unE unT unC flat eL eI Qm Q2n Q1r QF Cone.cells Fn.cells XMoved.cells
noncomputable def QU (m_:XMoved):Option Bool :=
 (Qx (σ:=(List (ByteArray × List Cone)) × Int) (ε:=List (ByteArray × List Cone)) (fun s10 =>
  if s10.2<(m_.all_.length:Int) then
   ass (0≤s10.2∧s10.2<(m_.all_.length:Int)) <|
   (Q20 (gx m_.all_ s10.2) m_.f_).bind fun v13 =>
   (Q27 v13).bind fun v14 =>
   ass ((((Q1J v14 s10.1).getD [])++[(gx m_.all_ s10.2)]).length≤1073741824) <|
   ass (s10.1.length<1099511627776) <|
   ass (B64 (s10.2+1)) <|
   some (Ctl.next (tset v14 (((Q1J v14 s10.1).getD [])++[(gx m_.all_ s10.2)]) s10.1,s10.2+1))
  else
   some (Ctl.ret s10.1)) fuel ([],0)).bind fun b1 =>
 (Qx (σ:=Bool × Int) (ε:=Bool) (fun s30 =>
  if s30.2<(m_.more_.length:Int) then
   (
    ass (0≤s30.2∧s30.2<(m_.more_.length:Int)) <|
    (Q18 m_.image_ m_.more_ (gx m_.more_ s30.2)).bind fun v34 =>
    if ¬ (v34=true) then
     some s30.1
    else
     (Q27 (gx m_.more_ s30.2)).bind fun v36 =>
     if s30.1=true then
      if (((Q1J v36 b1).getD []).length:Int)=1 then
       ass ((0:Int)≤0∧0<(((Q1J v36 b1).getD []).length:Int)) <|
       (Q18 m_.d_ m_.all_ (gx ((Q1J v36 b1).getD []) 0)).bind fun v40 =>
       some v40
      else
       some false
     else
      some false:Option (Bool)).bind fun b32 =>
   ass (B64 (s30.2+1)) <|
   some (Ctl.next (b32,s30.2+1))
  else
   some (Ctl.ret s30.1)) fuel (true,0)).bind fun b19 =>
 some b19
@[simp] abbrev Y1 (a:XMoved) (b:List (Nat × AV)):List (Nat × AV):=(0,.rptr [iV a.d_.s.n,lI a.d_.s.fr,lI a.d_.s.to,lI a.d_.s.id,.lst true 1 (Ls a.d_.s.cs),iV a.d_.t.n,lI a.d_.t.fr,lI a.d_.t.to,lI a.d_.t.id,.lst true 1 (Ls a.d_.t.cs),lI a.d_.ob,lI a.d_.ar,iV a.image_.s.n,lI a.image_.s.fr,lI a.image_.s.to,lI a.image_.s.id,.lst true 1 (Ls a.image_.s.cs),iV a.image_.t.n,lI a.image_.t.fr,lI a.image_.t.to,lI a.image_.t.id,.lst true 1 (Ls a.image_.t.cs),lI a.image_.ob,lI a.image_.ar,.rptr (Fn.cells true a.f_),.lst true 2 (Es (Cone.cells true) a.all_),.lst true 2 (Es (Cone.cells true) a.more_)])::b
@[simp] abbrev YG (a:XMoved) (b:List (Nat × AV)):List (Nat × AV):=(40,.lst true 2 (Es (Cone.cells true) a.more_))::(41,iV (a.more_.length:Int))::b
@[simp] abbrev YP (a:XMoved) (b:List (Nat × AV)):List (Nat × AV):=(15,.lst true 2 (Es (Cone.cells true) a.all_))::(16,iV (a.all_.length:Int))::b
@[simp] abbrev YU (a:List (ByteArray × List Cone)) (b:List (Nat × Ent)):List (Nat × Ent):=(0,.mapE (.ext (Q6K .str (EF (Cone.cells true) 2 a))) [])::b
theorem Q4F (m_:XMoved) (r:Bool) (h:QU m_=some r):Contract Try.prog 19 [.rptr (m_.cells true)] (.val (.bool r)):=by
 refine Q3p (rvs:=[.tmp 2]) (rs:=[.val (.bool r)]) Try.func19 rfl rfl rfl rfl (by simp [Try.f19]) fun F hN hP hW=>?_;unfold QU at h;refine Q0 (runQ hN fun K hK=>?_);simp;repeat refine sdQ ?_
 refine hK _ ?_;clear hK K;refine tn (Q4 (st':=⟨Y1 m_ [],[],0⟩) (QR []) (Q0 (Qg [] mo (by rw [hN];decide) fun K hK=>?_)));simp;repeat refine sdQ ?_
 refine hK _ ?_;clear hK K;refine tn (Q4 (st':=⟨Y1 m_ [(3,.mp 0)],[(0,.mapE .str ([]))],1⟩) (QR [(0,0)]) (Q0 (Q0 (runQ hN fun K hK=>?_))));simp;repeat refine sdQ ?_
 refine hK _ (tn (Q4 (st':=⟨Y1 m_ ((3,.mp 0)::YP m_ [(17,iV 0)]),[(0,.mapE .str ([]))],1⟩) (QR [(0,0)]) ?_));clear hK K;replace ⟨e1,h,h1⟩:=bind_some h;refine Qd (fun b1:List (ByteArray × List Cone)=>⟨Y1 m_ [(3,.mp 0)],[(0,.mapE (.ext (Q2q .str 2 (EL (Cone.cells true) b1))) [])],1⟩) (fun b1=>b1=e1) ?_ ?_
 ·refine Q4 (st':=⟨Y1 m_ ((3,.mp 0)::YP m_ [(17,iV 0)]),[(0,.mapE (.ext (Q2q .str 2 (EL (Cone.cells true) []))) [])],1⟩) (wk_newL (sz:=2) (Cone.cells true) (j:=0) rfl (by simp [St.get,look]) rfl (by simp [look])) (Q5 (Qs h (fun s10:(List (ByteArray × List Cone)) × Int=>⟨Y1 m_ ((3,.mp 0)::YP m_ [(17,iV s10.2)]),[(0,.mapE (.ext (Q2q .str 2 (EL (Cone.cells true) s10.1))) [])],1⟩) (QR [(0,0)]) ?_));clear h;intro k10 s10 c10 h hk10;refine Q0 (runQ hN fun K hK=>?_);simp;repeat refine sdQ ?_
  refine hK _ ?_;clear hK K;refine tn (Q0 (Q6 rfl (fun g=>?_) fun g=>?_))
  ·have g11:s10.2<(m_.all_.length:Int):=gQ;clear g;replace h:=if_l g11 h;refine Q7 (tn (Q0 (Q5 (Q0 (runQ hN fun K hK=>?_)))));replace ⟨a12,h⟩:=Q2 h;simp [at_E (c:=(Cone.cells true)) a12];(repeat refine sdQ ?_);refine hK _ ?_;clear hK K;refine tn (Q4 (st':=⟨Y1 m_ ((3,.mp 0)::(5,.adr 1 0 0)::YP m_ [(17,iV s10.2)]),[(0,.mapE (.ext (Q2q .str 2 (EL (Cone.cells true) s10.1))) []),(1,.mix 2 [(Cone.cells true (gx m_.all_ s10.2))])],2⟩) (QR [(0,0),(1,1)]) (Q0 (runQ hN fun K hK=>?_)));simp;(repeat with_reducible refine sdQ ?_);replace ⟨v13,hv13,h⟩:=bind_some h;refine Q1 (Q6H _ _ v13 hv13) (.cons (.aggL (.cons .val (.cons .lst .nil))) (.cons (.preT (by simp [Cone.cells,Fn.cells,XMoved.cells])) .nil)) ?_;simp;(repeat with_reducible refine sdQ ?_);replace ⟨v14,hv14,h⟩:=bind_some h;refine Q1 (Q5z _ v14 hv14) (.cons (.aggL (.cons .val (.cons .w .nil))) .nil) ?_;simp;(repeat refine sdQ ?_);refine hK _ ?_;clear hK K;refine tn (Q4 (st':=⟨Y1 m_ ((3,.mp 0)::(5,.adr 1 0 0)::(6,.val (.string v14))::YP m_ [(17,iV s10.2)]),[(0,.mapE (.ext (Q2q .str 2 (EL (Cone.cells true) s10.1))) []),(1,.mix 2 [(Cone.cells true (gx m_.all_ s10.2))])],2⟩) (QR [(0,0),(1,1)]) (Q25 [35] mo (by rw [hN];decide) fun K hK=>?_));simp;(repeat with_reducible refine sdQ ?_);refine Q3S (fz:=[35]) (sem_takeE rfl rfl rfl mf_65 rfl (by simp)) ?_;replace ⟨a15,h⟩:=Q2 h;(try simp only [List.length_append,List.length_cons,List.length_nil] at a15);replace ⟨a17,h⟩:=Q2 h;simp [a15];repeat with_reducible refine sdQ ?_
   refine Q3S (fz:=[35]) (sem_putE (m:=4) (ys:=((Q1J v14 s10.1).getD [])++[(gx m_.all_ s10.2)]) rfl rfl rfl mf_65 rfl (by simp [St.ev,St.get,look]) (by simp [St.hp,look,EA,E1,Cone.cells,Fn.cells,XMoved.cells]) (by simp [Cone.cells,Fn.cells,XMoved.cells]) a17 (by simp) (by simp)) ?_;simp;(repeat refine sdQ ?_);refine hK _ ?_;clear hK K;refine bn (tn (Q4 (st':=⟨Y1 m_ ((3,.mp 0)::YP m_ [(17,iV s10.2)]),[(0,.mapE (.ext (Q2q .str 2 (EL (Cone.cells true) (tset v14 (((Q1J v14 s10.1).getD [])++[(gx m_.all_ s10.2)]) s10.1)))) [])],1⟩) (QR [(0,0)]) (runQ hN fun K hK=>?_)));replace ⟨a18,h⟩:=Q2 h;simp [Qo a18];(repeat refine sdQ ?_);refine hK _ ?_;clear hK K;cases h;exact rn (s':=(tset v14 (((Q1J v14 s10.1).getD [])++[(gx m_.all_ s10.2)]) s10.1,s10.2+1)) hk10 (QR [(0,0)])
  have g11:¬ (s10.2<(m_.all_.length:Int)):=gQ;clear g;replace h:=if_r g11 h;refine Qj (tx (lx (bh ?_)));cases h;exact jn (b:=s10.1) hk10 (QR [(0,0)])
 intro b1 hb1;have h:=h1;try rw [← hb1] at h
 clear h1;try dsimp only at h
 refine Q0 (runQ hN fun K hK=>?_);simp;repeat refine sdQ ?_
 refine hK _ ?_;clear hK K;refine tn (Q4 (st':=⟨Y1 m_ [(3,.mp 0),(7,.val (.bool true))],[(0,.mapE (.ext (Q2q .str 2 (EL (Cone.cells true) b1))) [])],1⟩) (QR [(0,0)]) (Q0 (Q0 (runQ hN fun K hK=>?_))));simp;repeat refine sdQ ?_
 refine hK _ (tn (Q4 (st':=⟨Y1 m_ ((3,.mp 0)::(7,.val (.bool true))::YG m_ [(42,iV 0)]),[(0,.mapE (.ext (Q2q .str 2 (EL (Cone.cells true) b1))) [])],1⟩) (QR [(0,0)]) ?_));clear hK K;replace ⟨e19,h,h19⟩:=bind_some h;refine Qd (fun b19:Bool=>⟨[(3,.mp 0),(7,.val (.bool b19))],YU b1 [],1⟩) (fun b19=>b19=e19) ?_ ?_
 ·refine Q4 (st':=⟨Y1 m_ ((3,.mp 0)::(7,.val (.bool true))::YG m_ [(42,iV 0)]),YU b1 [],1⟩) (wk_frzE hW (j:=0) rfl (by simp [St.get,look]) rfl (by simp [look])) (Q5 (Qs h (fun s30:Bool × Int=>⟨Y1 m_ ((3,.mp 0)::(7,.val (.bool s30.1))::YG m_ [(42,iV s30.2)]),YU b1 [],1⟩) (QR [(0,0)]) ?_));clear h;intro k30 s30 c30 h hk30;refine Q0 (runQ hN fun K hK=>?_);simp;repeat refine sdQ ?_
  refine hK _ ?_;clear hK K;refine tn (Q0 (Q6 rfl (fun g=>?_) fun g=>?_))
  ·have g31:s30.2<(m_.more_.length:Int):=gQ;clear g;replace h:=if_l g31 h;refine Q7 (tn (Q0 ?_));replace ⟨e32,h,h32⟩:=bind_some h;refine Qd (fun b32:Bool=>⟨Y1 m_ ((3,.mp 0)::(7,.val (.bool b32))::YG m_ [(42,iV s30.2)]),YU b1 [],1⟩) (fun b32=>b32=e32) ?_ ?_
   ·refine Q5 (Q0 (runQ hN fun K hK=>?_));replace ⟨a33,h⟩:=Q2 h;simp [at_E (c:=(Cone.cells true)) a33];(repeat refine sdQ ?_);refine hK _ ?_;clear hK K;refine tn (Q4 (st':=⟨Y1 m_ ((3,.mp 0)::(7,.val (.bool s30.1))::(9,.adr 1 0 0)::YG m_ [(42,iV s30.2)]),YU b1 [(1,.mix 2 [(Cone.cells true (gx m_.more_ s30.2))])],2⟩) (QR [(0,0),(1,1)]) (Q0 (Q0 (runQ hN fun K hK=>?_))));simp;(repeat with_reducible refine sdQ ?_);replace ⟨v34,hv34,h⟩:=bind_some h;refine Q1 (Q3J _ _ _ v34 hv34) (.cons (.preT (by simp [Cone.cells,Fn.cells,XMoved.cells])) (.cons .lst (.cons (.aggL (.cons .val (.cons .lst .nil))) .nil))) ?_;simp;(repeat refine sdQ ?_);refine hK _ ?_;clear hK K;refine tn (Q4 (st':=⟨Y1 m_ ((3,.mp 0)::(7,.val (.bool s30.1))::(9,.adr 1 0 0)::YG m_ [(42,iV s30.2),(55,.val (.bool (!v34)))]),YU b1 [(1,.mix 2 [(Cone.cells true (gx m_.more_ s30.2))])],2⟩) (QR [(0,0),(1,1)]) (Q6 rfl (fun g=>?_) fun g=>?_))
    ·have g35:¬ (v34=true):=gQ;clear g;replace h:=if_l g35 h;refine Qj (tx (bh ?_));exact jn (b:=s30.1) (Option.some.inj h) (QR [(0,0)])
    have g35:¬ (¬ (v34=true)):=gQ;clear g;replace h:=if_r g35 h;refine Q7 (tn (Q0 (Q25 [] mo (by rw [hN];decide) fun K hK=>?_)));simp;(repeat with_reducible refine sdQ ?_);replace ⟨v36,hv36,h⟩:=bind_some h;refine Qy (fz:=[]) (Q5z _ v36 hv36) (.cons (.aggL (.cons .val (.cons .lst .nil))) .nil) ?_;simp;(repeat with_reducible refine sdQ ?_);refine Q3S (fz:=[]) (Q9e rfl rfl rfl mf_65 rfl) ?_;simp;(repeat refine sdQ ?_);refine hK _ ?_;clear hK K;refine tn (Q4 (st':=⟨Y1 m_ ((3,.mp 0)::(7,.val (.bool s30.1))::(10,.lst true 2 (Es (Cone.cells true) ((Q1J v36 b1).getD [])))::YG m_ [(42,iV s30.2)]),YU b1 [],1⟩) (QR [(0,0)]) (runQ hN fun K hK=>?_));simp;(repeat with_reducible refine sdQ ?_);refine Qi (fun g=>?_) (fun g=>?_)
    ·have g37:s30.1=true:=gQ;clear g;replace h:=if_l g37 h;simp;(repeat with_reducible refine sdQ ?_);refine Qi (fun g=>?_) (fun g=>?_)
     ·have g38:(((Q1J v36 b1).getD []).length:Int)=1:=gQ;clear g;replace h:=if_l g38 h;replace ⟨a39,h⟩:=Q2 h;simp [(show (Es (Cone.cells true) ((Q1J v36 b1).getD []))[0]? = some ((Cone.cells true) (gx ((Q1J v36 b1).getD []) 0)) from at_E (j:=0) a39)];(repeat with_reducible refine sdQ ?_);replace ⟨v40,hv40,h⟩:=bind_some h;refine Q1 (Q3J _ _ _ v40 hv40) (.cons (.preT (by simp [Cone.cells,Fn.cells,XMoved.cells])) (.cons .lst (.cons (.aggL (.cons .val (.cons .lst .nil))) .nil))) ?_;simp;(repeat refine sdQ ?_);refine hK _ (bn ?_);clear hK K;exact jn (b:=v40) (Option.some.inj h) (QR [(0,0)])
     have g38:¬ ((((Q1J v36 b1).getD []).length:Int)=1):=gQ;clear g;replace h:=if_r g38 h;simp;(repeat refine sdQ ?_);refine hK _ (bn ?_);clear hK K;exact jn (b:=false) (Option.some.inj h) (QR [(0,0)])
    have g37:¬ (s30.1=true):=gQ;clear g;replace h:=if_r g37 h;simp;(repeat refine sdQ ?_);refine hK _ (bn ?_);clear hK K;exact jn (b:=false) (Option.some.inj h) (QR [(0,0)])
   intro b32 hb32;have h:=h32;(try rw [← hb32] at h);clear h32;(try dsimp only at h);refine runQ hN fun K hK=>?_;replace ⟨a41,h⟩:=Q2 h;simp [Qo a41];(repeat refine sdQ ?_);refine hK _ ?_;clear hK K;cases h;exact rn (s':=(b32,s30.2+1)) hk30 (QR [(0,0)])
  have g31:¬ (s30.2<(m_.more_.length:Int)):=gQ;clear g;replace h:=if_r g31 h;refine Qj (tx (lx (bh ?_)));cases h;exact jn (b:=s30.1) hk30 (QR [(0,0)])
 intro b19 hb19;have h:=h19;try rw [← hb19] at h
 clear h19;try dsimp only at h
 refine Q0 (Q25 [] mo (by rw [hN];decide) fun K hK=>?_);simp;repeat with_reducible refine sdQ ?_
 refine Q3S (fz:=[]) (Q9d rfl rfl rfl un_65 (by simp)) ?_;simp;repeat refine sdQ ?_
 refine hK _ ?_;clear hK K;refine tn (Q4 (st':=⟨[(7,.val (.bool b19))],[],0⟩) (QR []) (Q0 (runQ hN fun K hK=>?_)));simp;repeat refine sdQ ?_
 refine hK _ (tn (Q4 (st':=⟨[(2,.val (.bool b19))],[],0⟩) (QR []) (Qe ?_)));clear hK K;have hr:=Option.some.inj h;rw [← hr];refine ⟨_,(.tmp .nil),?_⟩;refine ⟨(.one rfl rfl .nil),[.val (.bool b19)],[],by simp [Cone.cells,Fn.cells,XMoved.cells,UA,U1,IA,I1,LA,L1,BA,B1,EA,E1,E2,eB,eI,eL,Q9 _ QF _ (fun _=>rfl),Q9 _ (Cone.cells true) _ (fun _=>rfl)],by simp,(UpL.refl _)⟩
attribute [local simp] unk unA unE unT unC flat eL eI Qm Q2n Q1r Cone.cells Fn.cells
noncomputable def Q1G (d_:Fn) (e_:Fn) (f_:Fn):Option (Bool × Int) :=
 (Q2M d_ e_).bind fun v1 =>
 if ¬ (v1.2.2=0) then
  some (false,v1.2.2)
 else
  (Qx (σ:=Int) (ε:=Unit ⊕ (Bool × Int)) (fun s53 =>
   if s53<(v1.2.1.length:Int) then
    (
     ass (0≤s53∧s53<(v1.2.1.length:Int)) <|
     (QC e_ v1.2.1 (gx v1.2.1 s53)).bind fun v57 =>
     if ¬ (v57=true) then
      some (Sum.inl ())
     else
      (Qx (σ:=Int × Int × Int) (ε:=Int × Int) (fun s84 =>
       if s84.2.2<(v1.1.length:Int) then
        (
         ass (0≤s84.2.2∧s84.2.2<(v1.1.length:Int)) <|
         (Q1z (gx v1.1 s84.2.2) f_).bind fun v88 =>
         (
          ass (0≤s53∧s53<(v1.2.1.length:Int)) <|
          if v88.a=((gx v1.2.1 s53).a) then
           ass (0≤s53∧s53<(v1.2.1.length:Int)) <|
           (Q1O v88.l ((gx v1.2.1 s53).l)).bind fun v93 =>
           some v93
          else
           some false:Option (Bool)).bind fun b89 =>
         if b89=true then
          ass (B64 (s84.1+1)) <|
          some (s84.1+1,s84.2.2)
         else
          some (s84.1,s84.2.1):Option (Int × Int)).bind fun b86 =>
        ass (B64 (s84.2.2+1)) <|
        some (Ctl.next (b86.1,b86.2,s84.2.2+1))
       else
        some (Ctl.ret (s84.1,s84.2.1))) fuel (0,0,0)).bind fun b59 =>
      (
       if ¬ (b59.1=1) then
        some true
       else
        ass (0≤b59.2∧b59.2<(v1.1.length:Int)) <|
        (QC d_ v1.1 (gx v1.1 b59.2)).bind fun v100 =>
        some (!v100):Option (Bool)).bind fun b97 =>
      if b97=true then
       some (Sum.inr (false,0))
      else
       some (Sum.inl ()):Option (Unit ⊕ (Bool × Int))).bind fun e55 =>
    match e55 with
    | .inl b55 =>
     ass (B64 (s53+1)) <|
     some (Ctl.next (s53+1))
    | .inr p55 =>
     some (Ctl.ret (Sum.inr p55))
   else
    some (Ctl.ret (Sum.inl ()))) fuel 0).bind fun e3 =>
  match e3 with
  | .inl b3 =>
   some (true,0)
  | .inr p3 =>
   some p3
@[simp] abbrev Yc (a:List Cone × List Cone × Int) (b:List (Nat × AV)):List (Nat × AV):=(3,.adr 0 0 0)::(4,.adr 1 0 0)::(5,.adr 2 0 0)::(8,.lst true 2 (Es (Cone.cells true) a.1))::(9,.lst true 2 (Es (Cone.cells true) a.2.1))::b
@[simp] abbrev YQ (a:Fn) (b:List (Nat × Ent)):List (Nat × Ent):=(2,.mix 12 [(Fn.cells true a)])::b
theorem Q5N (d_:Fn) (e_:Fn) (f_:Fn) (r:Bool × Int) (h:Q1G d_ e_ f_=some r):Contract Try.prog 15 (Y0H d_ e_ [.agg (f_.cells true)]) (.tup [.val (.bool r.1),iV r.2]):=by
 refine Q8 (rvs:=[.tmp 6,.tmp 7]) (rs:=[.val (.bool r.1),iV r.2]) Try.func15 rfl rfl rfl rfl (by simp [Try.f15]) fun F hN hP=>?_;unfold Q1G at h;refine Q0 (runQ hN fun K hK=>?_);simp;repeat refine sdQ ?_
 refine hK _ ?_;clear hK K;refine tn (Q4 (st':=⟨[(3,.adr 0 0 0),(4,.adr 1 0 0),(5,.adr 2 0 0)],Y8 d_ e_ (YQ f_ []),3⟩) (Q2N 3) (Q0 (Qg [] mo (by rw [hN];decide) fun K hK=>?_)));simp;repeat with_reducible refine sdQ ?_
 replace ⟨v1,hv1,h⟩:=bind_some h;refine Q3v (fz:=[]) true (Q8i _ _ v1 hv1) (PurK.ofN (.cons (.aggL (.cons .val (.cons .lst (.cons .lst (.cons .lst (.cons .lst (.cons .val (.cons .lst (.cons .lst (.cons .lst (.cons .lst (.cons .lst (.cons .lst .nil))))))))))))) (.cons (.aggL (.cons .val (.cons .lst (.cons .lst (.cons .lst (.cons .lst (.cons .val (.cons .lst (.cons .lst (.cons .lst (.cons .lst (.cons .lst (.cons .lst .nil))))))))))))) .nil))) ?_;simp;repeat refine sdQ ?_
 refine hK _ ?_;clear hK K;refine tn (Q4 (st':=⟨Yc v1 [(10,iV v1.2.2)],Y8 d_ e_ (YQ f_ []),3⟩) (Q2N 3) (Q0 (Q0 (runQ hN fun K hK=>?_))));simp;repeat refine sdQ ?_
 refine hK _ ?_;clear hK K;refine tn (Q6 rfl (fun g=>?_) fun g=>?_)
 ·have g2:¬ (v1.2.2=0):=gQ;clear g;replace h:=if_l g2 h;refine Q0 (runQ hN fun K hK=>?_);simp;repeat refine sdQ ?_
  refine hK _ (tn (Q4 (st':=⟨[(6,.val (.bool false)),(7,iV v1.2.2)],[],0⟩) (QR []) (Qe (tr ?_))));clear hK K;have hr:=Option.some.inj h;rw [← hr];refine ⟨_,(.tmp (.tmp .nil)),?_⟩;refine ⟨(.one rfl rfl (.one rfl rfl .nil)),[.val (.bool false),iV v1.2.2],[],by simp [Cone.cells,Fn.cells,UA,U1,IA,I1,LA,L1,BA,B1,EA,E1,E2,eB,eI,eL,Q9 _ (Cone.cells true) _ (fun _=>rfl)],by simp,(UpL.refl _)⟩
 have g2:¬ (¬ (v1.2.2=0)):=gQ;clear g;replace h:=if_r g2 h;refine Q7 (tn (Q0 (Q0 (runQ hN fun K hK=>?_))));simp;repeat refine sdQ ?_
 refine hK _ (tn (Q4 (st':=⟨Yc v1 [(11,iV 0)],Y8 d_ e_ (YQ f_ []),3⟩) (Q2N 3) ?_));clear hK K;replace ⟨e3,h,h3⟩:=bind_some h;refine Qd (fun b3:Unit=>⟨[],[],0⟩) (fun b3=>Sum.inl b3=e3) ?_ ?_
 ·refine Q5 (Qs h (fun s53:Int=>⟨Yc v1 [(11,iV s53)],Y8 d_ e_ (YQ f_ []),3⟩) (Q2N 3) ?_);clear h;intro k53 s53 c53 h hk53;refine Q0 (Q0 (runQ hN fun K hK=>?_));simp;repeat refine sdQ ?_
  refine hK _ ?_;clear hK K;refine tn (Q6 rfl (fun g=>?_) fun g=>?_)
  ·have g54:s53<(v1.2.1.length:Int):=gQ;clear g;replace h:=if_l g54 h;refine Q7 (tn (Q0 ?_));replace ⟨e55,h,h55⟩:=bind_some h;refine Qd (fun b55:Unit=>⟨Yc v1 [(11,iV s53)],Y8 d_ e_ (YQ f_ []),3⟩) (fun b55=>Sum.inl b55=e55) ?_ ?_
   ·refine Q5 (Q0 (Q0 (runQ hN fun K hK=>?_)));replace ⟨a56,h⟩:=Q2 h;simp [at_E (c:=(Cone.cells true)) a56];(repeat with_reducible refine sdQ ?_);replace ⟨v57,hv57,h⟩:=bind_some h;refine Q1 (Q3s _ _ _ v57 hv57) (.cons (.aggL (.cons .val (.cons .lst (.cons .lst (.cons .lst (.cons .lst (.cons .val (.cons .lst (.cons .lst (.cons .lst (.cons .lst (.cons .lst (.cons .lst .nil))))))))))))) (.cons .lst (.cons (.aggL (.cons .val (.cons .lst .nil))) .nil))) ?_;simp [at_E (c:=(Cone.cells true)) a56];(repeat refine sdQ ?_);refine hK _ ?_;clear hK K;refine tn (Q4 (st':=⟨Yc v1 [(11,iV s53),(39,.val (.bool (!v57)))],Y8 d_ e_ (YQ f_ []),3⟩) (Q2N 3) (Q6 rfl (fun g=>?_) fun g=>?_))
    ·have g58:¬ (v57=true):=gQ;clear g;replace h:=if_l g58 h;refine Qj (tx (bh ?_));exact jn (b:=()) (Option.some.inj h) (Q2N 3)
    have g58:¬ (¬ (v57=true)):=gQ;clear g;replace h:=if_r g58 h;refine Q7 (tn (Q0 (runQ hN fun K hK=>?_)));simp;(repeat refine sdQ ?_);refine hK _ ?_;clear hK K;refine tn (Q4 (st':=⟨Yc v1 [(11,iV s53),(12,iV 0),(13,iV 0)],Y8 d_ e_ (YQ f_ []),3⟩) (Q2N 3) (Q0 (Q0 (runQ hN fun K hK=>?_))));simp;(repeat refine sdQ ?_);refine hK _ (tn (Q4 (st':=⟨Yc v1 [(11,iV s53),(12,iV 0),(13,iV 0),(14,iV 0)],Y8 d_ e_ (YQ f_ []),3⟩) (Q2N 3) ?_));clear hK K;replace ⟨e59,h,h59⟩:=bind_some h;refine Qd (fun b59:Int × Int=>⟨Yc v1 [(11,iV s53),(12,iV b59.1),(13,iV b59.2)],Y8 d_ e_ (YQ f_ []),3⟩) (fun b59=>b59=e59) ?_ ?_
    ·refine Q5 (Qs h (fun s84:Int × Int × Int=>⟨Yc v1 [(11,iV s53),(12,iV s84.1),(13,iV s84.2.1),(14,iV s84.2.2)],Y8 d_ e_ (YQ f_ []),3⟩) (Q2N 3) ?_);clear h;intro k84 s84 c84 h hk84;refine Q0 (Q0 (runQ hN fun K hK=>?_));simp;(repeat refine sdQ ?_);refine hK _ ?_;clear hK K;refine tn (Q6 rfl (fun g=>?_) fun g=>?_)
     ·have g85:s84.2.2<(v1.1.length:Int):=gQ;clear g;replace h:=if_l g85 h;refine Q7 (tn (Q0 ?_));replace ⟨e86,h,h86⟩:=bind_some h;refine Qd (fun b86:Int × Int=>⟨Yc v1 [(11,iV s53),(12,iV b86.1),(13,iV b86.2),(14,iV s84.2.2)],Y8 d_ e_ (YQ f_ []),3⟩) (fun b86=>b86=e86) ?_ ?_
      ·refine Q5 (Q0 (runQ hN fun K hK=>?_));replace ⟨a87,h⟩:=Q2 h;simp [at_E (c:=(Cone.cells true)) a87];(repeat with_reducible refine sdQ ?_);replace ⟨v88,hv88,h⟩:=bind_some h;refine Q1 (Q7C _ _ v88 hv88) (.cons (.aggL (.cons .val (.cons .lst .nil))) (.cons (.aggL (.cons .val (.cons .lst (.cons .lst (.cons .lst (.cons .lst (.cons .val (.cons .lst (.cons .lst (.cons .lst (.cons .lst (.cons .lst (.cons .lst .nil))))))))))))) .nil)) ?_;simp [at_E (c:=(Cone.cells true)) a87];(repeat refine sdQ ?_);refine hK _ (tn (Q4 (st':=⟨Yc v1 [(11,iV s53),(12,iV s84.1),(13,iV s84.2.1),(14,iV s84.2.2),(15,.adr 3 0 0)],Y8 d_ e_ (YQ f_ [(3,.mix 2 [[iV v88.a,.own 4 0 v88.l.length]]),(4,rI v88.l)]),5⟩) (QR [(0,0),(1,1),(2,2),(5,3),(4,4)]) (Q0 ?_)));clear hK K;replace ⟨e89,h,h89⟩:=bind_some h;refine Qd (fun b89:Bool=>⟨Yc v1 [(11,iV s53),(12,iV s84.1),(13,iV s84.2.1),(14,iV s84.2.2),(69,.val (.bool b89))],Y8 d_ e_ (YQ f_ []),3⟩) (fun b89=>b89=e89) ?_ ?_
       ·refine runQ hN fun K hK=>?_;replace ⟨a90,h⟩:=Q2 h;simp [at_E (c:=(Cone.cells true)) a90];(repeat with_reducible refine sdQ ?_);refine Qi (fun g=>?_) (fun g=>?_)
        ·have g91:v88.a=((gx v1.2.1 s53).a):=gQ;clear g;replace h:=if_l g91 h;replace ⟨a92,h⟩:=Q2 h;simp [at_E (c:=(Cone.cells true)) a90,at_E (c:=(Cone.cells true)) a92];(repeat with_reducible refine sdQ ?_);replace ⟨v93,hv93,h⟩:=bind_some h;refine Q1 (Q8c _ _ v93 hv93) (.cons .w (.cons .lst .nil)) ?_;simp [at_E (c:=(Cone.cells true)) a90,at_E (c:=(Cone.cells true)) a92];(repeat refine sdQ ?_);refine hK _ ?_;exact jn (b:=v93) (Option.some.inj h) (Q2N 3)
        have g91:¬ (v88.a=((gx v1.2.1 s53).a)):=gQ;clear g;replace h:=if_r g91 h;simp [at_E (c:=(Cone.cells true)) a90];(repeat refine sdQ ?_);refine hK _ ?_;exact jn (b:=false) (Option.some.inj h) (Q2N 3)
       intro b89 hb89;have h:=h89;(try rw [← hb89] at h);clear h89;(try dsimp only at h);refine Q6 rfl (fun g=>?_) fun g=>?_
       ·have g94:b89=true:=gQ;clear g;replace h:=if_l g94 h;refine Q0 (runQ hN fun K hK=>?_);replace ⟨a95,h⟩:=Q2 h;simp [Qo a95];(repeat refine sdQ ?_);refine hK _ ?_;clear hK K;refine tn (Q4 (st':=⟨Yc v1 [(11,iV s53),(12,iV (s84.1+1)),(14,iV s84.2.2)],Y8 d_ e_ (YQ f_ []),3⟩) (Q2N 3) (runQ hN fun K hK=>?_));simp;(repeat refine sdQ ?_);refine hK _ (bn ?_);clear hK K;exact jn (b:=(s84.1+1,s84.2.2)) (Option.some.inj h) (Q2N 3)
       have g94:¬ (b89=true):=gQ;clear g;replace h:=if_r g94 h;refine Q7 (bn ?_);exact jn (b:=(s84.1,s84.2.1)) (Option.some.inj h) (Q2N 3)
      intro b86 hb86;have h:=h86;(try rw [← hb86] at h);clear h86;(try dsimp only at h);refine runQ hN fun K hK=>?_;replace ⟨a96,h⟩:=Q2 h;simp [Qo a96];(repeat refine sdQ ?_);refine hK _ ?_;clear hK K;cases h;exact rn (s':=(b86.1,b86.2,s84.2.2+1)) hk84 (Q2N 3)
     have g85:¬ (s84.2.2<(v1.1.length:Int)):=gQ;clear g;replace h:=if_r g85 h;refine Qj (tx (lx (bh ?_)));cases h;exact jn (b:=(s84.1,s84.2.1)) hk84 (Q2N 3)
    intro b59 hb59;have h:=h59;(try rw [← hb59] at h);clear h59;(try dsimp only at h);refine Q0 ?_;replace ⟨e97,h,h97⟩:=bind_some h;refine Qd (fun b97:Bool=>⟨Yc v1 [(11,iV s53),(84,.val (.bool b97))],Y8 d_ e_ (YQ f_ []),3⟩) (fun b97=>b97=e97) ?_ ?_
    ·refine runQ hN fun K hK=>?_;simp;(repeat with_reducible refine sdQ ?_);refine Qi (fun g=>?_) (fun g=>?_)
     ·have g98:¬ (¬ (b59.1=1)):=gQ;clear g;replace h:=if_r g98 h;replace ⟨a99,h⟩:=Q2 h;simp [at_E (c:=(Cone.cells true)) a99];(repeat with_reducible refine sdQ ?_);replace ⟨v100,hv100,h⟩:=bind_some h;refine Q1 (Q3s _ _ _ v100 hv100) (.cons (.aggL (.cons .val (.cons .lst (.cons .lst (.cons .lst (.cons .lst (.cons .val (.cons .lst (.cons .lst (.cons .lst (.cons .lst (.cons .lst (.cons .lst .nil))))))))))))) (.cons .lst (.cons (.aggL (.cons .val (.cons .lst .nil))) .nil))) ?_;simp [at_E (c:=(Cone.cells true)) a99];(repeat refine sdQ ?_);refine hK _ ?_;exact jn (b:=!v100) (Option.some.inj h) (Q2N 3)
     have g98:¬ (b59.1=1):=gQ;clear g;replace h:=if_l g98 h;simp;(repeat refine sdQ ?_);refine hK _ ?_;exact jn (b:=true) (Option.some.inj h) (Q2N 3)
    intro b97 hb97;have h:=h97;(try rw [← hb97] at h);clear h97;(try dsimp only at h);refine Q6 rfl (fun g=>?_) fun g=>?_
    ·have g101:b97=true:=gQ;clear g;replace h:=if_l g101 h;refine Q0 (runQ hN fun K hK=>?_);simp;(repeat refine sdQ ?_);refine hK _ (tn (Q4 (st':=⟨[(6,.val (.bool false)),(7,iV 0)],[],0⟩) (QR []) (Qe (br (tr (lr (br (tr ?_))))))));clear hK K;cases h;have h:=h55;(try dsimp only at h);cases h;have q:_=e3:=hk53;have h:=h3;rw [← q] at h;clear q;(try dsimp only at h);have hr:=Option.some.inj h;rw [← hr];refine ⟨_,(.tmp (.tmp .nil)),?_⟩;refine ⟨(.one rfl rfl (.one rfl rfl .nil)),[.val (.bool false),iV 0],[],by simp [Cone.cells,Fn.cells,UA,U1,IA,I1,LA,L1,BA,B1,EA,E1,E2,eB,eI,eL,Q9 _ (Cone.cells true) _ (fun _=>rfl)],by simp,(UpL.refl _)⟩
    have g101:¬ (b97=true):=gQ;clear g;replace h:=if_r g101 h;refine Q7 (bn ?_);exact jn (b:=()) (Option.some.inj h) (Q2N 3)
   intro b55 hb55;have h:=h55;(try rw [← hb55] at h);clear h55;(try dsimp only at h);refine runQ hN fun K hK=>?_;replace ⟨a102,h⟩:=Q2 h;simp [Qo a102];(repeat refine sdQ ?_);refine hK _ ?_;clear hK K;cases h;exact rn (s':=s53+1) hk53 (Q2N 3)
  have g54:¬ (s53<(v1.2.1.length:Int)):=gQ;clear g;replace h:=if_r g54 h;refine Qj (tx (lx (bh ?_)));cases h;exact jn (b:=()) hk53 (QR [])
 intro b3 hb3;have h:=h3;try rw [← hb3] at h
 clear h3;try dsimp only at h
 refine Q0 (runQ hN fun K hK=>?_);simp;repeat refine sdQ ?_
 refine hK _ (tn (Q4 (st':=⟨[(6,.val (.bool true)),(7,iV 0)],[],0⟩) (QR []) (Qe ?_)));clear hK K;have hr:=Option.some.inj h;rw [← hr];refine ⟨_,(.tmp (.tmp .nil)),?_⟩;refine ⟨(.one rfl rfl (.one rfl rfl .nil)),[.val (.bool true),iV 0],[],by simp [Cone.cells,Fn.cells,UA,U1,IA,I1,LA,L1,BA,B1,EA,E1,E2,eB,eI,eL,Q9 _ (Cone.cells true) _ (fun _=>rfl)],by simp,(UpL.refl _)⟩
section
attribute [local simp] Qf QG Qu Q15 QD
def Q3z (p:Cone):ByteArray:=Q1X (IntKind.u8.wrap p.a :: 255 :: (p.l.map IntKind.u8.wrap++[255]))
theorem e_kin {β:Type} {K:List Int→Option β} {r:Option β} (x pre:List Int) (hp:pre.length≤1000) (h:x.length≤1000) (hk:K (pre++x.map IntKind.u8.wrap)=r) :
  (Qx (σ:=List Int × Int) (ε:=List Int) (fun s24 =>
    if s24.2<(x.length:Int) then
     ass (0≤s24.2∧s24.2<(x.length:Int)) <|
     ass ((s24.1++[IntKind.u8.wrap (ix x s24.2)]).length≤1073741824) <|
     ass (B64 (s24.2+1)) <|
     some (Ctl.next (s24.1++[IntKind.u8.wrap (ix x s24.2)],s24.2+1))
    else
     some (Ctl.ret s24.1)) fuel (pre,0)).bind K=r:=by
 refine Q1p x.length (fun k=>pre++(x.take k).map IntKind.u8.wrap) (e:=pre++x.map IntKind.u8.wrap) (by simp) (by omega) (fun k hk=>?_) (by simp) hk;have hs:x.take (k+1)=x.take k++[ix x k]:=by rw [List.take_succ_eq_append_getElem hk,Q16 _ _ hk]
 simp (disch:=omega) [Q3,B64,hs];try omega
theorem e_ckey {p:Cone} (h:p.l.length≤900):Q27 p=some (Q3z p):=by
 have hk:Q5t [[p.a],p.l]=some (Q3z p):=by
  unfold Q5t Q3z;refine Q1p 2 (fun i=>if i=0 then [] else if i=1 then [IntKind.u8.wrap p.a,255] else IntKind.u8.wrap p.a :: 255 :: (p.l.map IntKind.u8.wrap++[255])) (e:=IntKind.u8.wrap p.a :: 255 :: (p.l.map IntKind.u8.wrap++[255])) (by simp) (by omega) (fun i hi=>?_) (by simp) rfl;rcases (by omega:i=0∨i=1) with rfl|rfl
  ·have hx:rx [[p.a],p.l] ((0:Nat):Int)=[p.a]:=(by simp [rx]);simp only [hx];rw [if_pos (by simp),Q3 (by simp)];refine e_kin [p.a] [] (by simp) (by simp) ?_;simp (disch:=omega) [Q3,B64]
  have hx:rx [[p.a],p.l] ((1:Nat):Int)=p.l:=by simp [rx]
  simp only [hx];rw [if_pos (by simp),Q3 (by simp)];refine e_kin p.l [IntKind.u8.wrap p.a,255] (by simp) (by omega) ?_;rw [Q3 (by simp;omega),Q3 (by unfold B64;omega)];simp
 unfold Q27;rw [hk];rfl
theorem keyC2_inj {p q:Cone} (ha:0≤p.a∧p.a<256) (hb:0≤q.a∧q.a<256) (hx:∀ a∈p.l,0≤a∧a<256) (hy:∀ a∈q.l,0≤a∧a<256) (h:Q3z p=Q3z q):p=q:=by
 have hw:∀ p:Cone,∀ a∈IntKind.u8.wrap p.a :: 255 :: (p.l.map IntKind.u8.wrap++[255]),0≤a∧a<256:=by
  intro p a ha;rcases List.mem_cons.1 ha with rfl|ha
  ·exact wrap8_b _
  rcases List.mem_cons.1 ha with rfl|ha
  ·omega
  rcases List.mem_append.1 ha with ha|ha
  ·obtain ⟨b,_,rfl⟩:=List.mem_map.1 ha;exact wrap8_b b
  rw [List.mem_singleton.1 ha];omega
 have h1:=Q8T (hw p) (hw q) h;simp only [List.cons.injEq,true_and] at h1;obtain ⟨h2,h3⟩:=h1;rw [wrap8 ha.1 ha.2,wrap8 hb.1 hb.2] at h2;have h4:=(List.append_inj' h3 rfl).1;have h5:p.l=q.l:=Q7d (fun a ha b hb e=>by rwa [wrap8 (hx a ha).1 (hx a ha).2,wrap8 (hy b hb).1 (hy b hb).2] at e) h4;cases p;cases q;simp only at h2 h5;subst h2 h5;rfl
theorem Cone.G.sm {d:Fn} (hd:d.Is) {p:Cone} (h:p.G d):(0≤p.a∧p.a<256)∧p.l.length≤900∧∀ a∈p.l,0≤a∧a<256:=by
 obtain ⟨l1,l2,l3,l4,l5,l6,l7,l8⟩:=hd.fact;obtain ⟨p1,p2,p3⟩:=h;have n8:=hd.t.1.n8;refine ⟨⟨p1.1,by omega⟩,by omega,fun a ha=>?_⟩;obtain ⟨i,hi,rfl⟩:=List.getElem_of_mem ha;have q:=(p3 i hi).1;rw [← Q16 _ _ hi] at q;exact ⟨q.1,by omega⟩
theorem key_eq {d:Fn} (hd:d.Is) {p q:Cone} (hp:p.G d) (hq:q.G d):Q3z p=Q3z q↔p=q:=by
 obtain ⟨a1,_,a3⟩:=hp.sm hd;obtain ⟨b1,_,b3⟩:=hq.sm hd;exact ⟨keyC2_inj a1 b1 a3 b3,fun h=>by rw [h]⟩
noncomputable def grpL (f:Fn) (L:List Cone):Nat→List (ByteArray × List Cone)
 | 0=>[]
 | i+1=>tset (Q3z (img (gx L i) f)) (((Q1J (Q3z (img (gx L i) f)) (grpL f L i)).getD [])++[gx L i]) (grpL f L i)
theorem tset_len2 {α β:Type} [DecidableEq α] (k:α) (v:β) (m:List (α × β)):(tset k v m).length≤m.length+1:=by
 induction m with
 | nil=>simp [tset]
 | cons p r ih =>
  obtain ⟨a,x⟩:=p;simp only [tset];split<;>simp<;>omega
theorem grp_len (f:Fn) (L:List Cone):∀ i,(grpL f L i).length≤i:=by
 intro i
 induction i with
 | zero=>simp [grpL]
 | succ i ih =>
  simp only [grpL];have:=tset_len2 (Q3z (img (gx L i) f)) (((Q1J (Q3z (img (gx L i) f)) (grpL f L i)).getD [])++[gx L i]) (grpL f L i);omega
theorem Q8Q {L:List Cone} {i:Nat} (h:i<L.length):L.take (i+1)=L.take i++[gx L i]:=by rw [List.take_succ_eq_append_getElem h,Q4i _ h]
theorem Q8z (f:Fn) (L:List Cone) (k:ByteArray):∀ i,i≤L.length→(Q1J k (grpL f L i)).getD []=(L.take i).filter fun p=>bo (Q3z (img p f)=k):=by
 intro i
 induction i with
 | zero=>intro _;simp [grpL,Q1J]
 | succ i ih =>
  intro hi;have h1:=ih (by omega);rw [Q8Q (by omega),List.filter_append];simp only [grpL,Q9t]
  by_cases hk:Q3z (img (gx L i) f)=k
  ·rw [if_pos hk,hk,Option.getD_some,h1];simp [QE hk]
  rw [if_neg hk,h1];simp [Qw hk]
theorem Q6W {α:Type} (q:α→Bool) (L:List α) (i:Nat):((L.take i).filter q).length≤L.length:=Nat.le_trans (List.length_filter_le _ _) (by simp;omega)
def crQ (d e f:Fn) (L M:List Cone) (q:Cone):Prop:=unv e M q→∃ p,(L.filter fun p=>bo (img p f=q))=[p]∧unv d L p
def Crea (d e f:Fn) (L M:List Cone):Prop:=∀ i:Nat,i<M.length→crQ d e f L M (gx M i)
theorem Q8Y {d f:Fn} (hd:d.Is) (hf:f.Is) (h:d.t=f.s) {L:List Cone} (hL:GL d L) {q:Cone} (hq:q.G (QO d f)):(L.filter fun p=>bo (Q3z (img p f)=Q3z q))=L.filter fun p=>bo (img p f=q):=by
 refine List.filter_congr fun p hp=>?_;obtain ⟨i,hi,rfl⟩:=List.getElem_of_mem hp;have h1:=(Q7K hd hf h (hL.2 i hi)).2.2;rw [Q4i _ hi] at h1;have:=key_eq (Q4C hd hf h) h1 hq
 by_cases hk:img L[i] f=q
 ·rw [QE hk,QE (this.2 hk)]
 rw [Qw hk,Qw fun h=>hk (this.1 h)]
theorem mem_gl {d:Fn} {L:List Cone} (hL:GL d L) {p:Cone} (h:p∈L):p.G d:=by
 obtain ⟨i,hi,rfl⟩:=List.getElem_of_mem h;have:=hL.2 i hi
 rwa [Q4i _ hi] at this
theorem bo_and {p q:Prop}:bo (p∧q)=(bo p && bo q):=by
 by_cases hp:p<;>by_cases hq:q<;>simp [bo,hp,hq]
theorem e_crea {d f:Fn} (hd:d.Is) (hf:f.Is) (h:d.t=f.s) {L M:List Cone} (hL:GL d L) (hM:GL (QO d f) M):QU ⟨d,QO d f,f,L,M⟩=some (bo (Crea d (QO d f) f L M)):=by
 have h4:=hL.1;have h5:=hM.1;have he:=Q4C hd hf h;unfold QU;refine Q1p L.length (fun i=>grpL f L i) (e:=grpL f L L.length) rfl (by omega) (fun i hi=>?_) (by simp) ?_
 ·have hi2:(i:Int)<(L.length:Int):=by omega
  obtain ⟨i1,i2,i3⟩:=Q7K hd hf h (hL.2 i hi);simp only;rw [if_pos hi2,Q3 ⟨by omega,hi2⟩,i2];simp only [Option.bind_some];rw [e_ckey (i3.sm he).2.1];simp only [Option.bind_some];have h6:=grp_len f L i;rw [Q3 (by
   rw [Q8z f L _ i (by omega)];have:=Q6W (fun p=>bo (Q3z (img p f)=Q3z (img (gx L i) f))) L i;simp;omega),Q3 (by omega),Q3 (by unfold B64;omega)]
  rfl
 refine Q1p M.length (fun i=>bo (∀ j:Nat,j<i→crQ d (QO d f) f L M (gx M j))) (e:=bo (Crea d (QO d f) f L M)) (by rw [QE];intro j hj;omega) (by omega) (fun i hi=>?_) (by
  rw [if_neg (by simp)];rfl) rfl
 have hi2:(i:Int)<(M.length:Int):=by omega
 have hq:=hM.2 i hi;have hsucc:bo (∀ j:Nat,j<i+1→crQ d (QO d f) f L M (gx M j))=(bo (∀ j:Nat,j<i→crQ d (QO d f) f L M (gx M j)) && bo (crQ d (QO d f) f L M (gx M i))):=by
  rw [← bo_and]
  congr 1
  apply propext;refine ⟨fun q=>⟨fun j hj=>q j (by omega),q i (by omega)⟩,fun q j hj=>?_⟩
  by_cases hji:j=i
  ·subst hji;exact q.2
  exact q.1 j (by omega)
 simp only;rw [if_pos hi2,Q3 ⟨by omega,hi2⟩,(Q8s he hM hq).2];simp only [Option.bind_some];rw [hsucc]
 by_cases hu:unv (QO d f) M (gx M i)
 case neg =>
  have hc:crQ d (QO d f) f L M (gx M i):=fun q=>absurd q hu;rw [Qw hu,QE hc,if_pos (by simp)];simp only [Option.bind_some,Bool.and_true];rw [Q3 (by unfold B64;omega)]
 rw [QE hu,if_neg (by simp),e_ckey (hq.sm he).2.1];simp only [Option.bind_some];rw [Q8z f L _ L.length (Nat.le_refl _),List.take_length,Q8Y hd hf h hL hq];generalize bo (∀ j:Nat,j<i→crQ d (QO d f) f L M (gx M j))=g;cases g with
 | false =>
  rw [if_neg (by simp)];simp only [Option.bind_some,Bool.false_and];rw [Q3 (by unfold B64;omega)]
 | true =>
  rw [if_pos rfl];simp only [Bool.true_and];cases hF:(L.filter fun p=>bo (img p f=gx M i)) with
  | nil =>
   have hc:¬ crQ d (QO d f) f L M (gx M i):=fun q=>by
    obtain ⟨p,q1,_⟩:=q hu;rw [hF] at q1;cases q1
   rw [if_neg (by simp),Qw hc];simp only [Option.bind_some];rw [Q3 (by unfold B64;omega)]
  | cons p ps =>
   cases ps with
   | cons p2 ps =>
    have hc:¬ crQ d (QO d f) f L M (gx M i):=fun q=>by
     obtain ⟨p,q1,_⟩:=q hu;rw [hF] at q1;cases q1
    rw [if_neg (by simp;omega),Qw hc];simp only [Option.bind_some];rw [Q3 (by unfold B64;omega)]
   | nil =>
    have hp:p.G d:=mem_gl hL (List.mem_filter.1 (by rw [hF];simp:p∈L.filter fun p=>bo (img p f=gx M i))).1;have hg:gx [p] 0=p:=rfl;rw [if_pos (by simp),Q3 (by simp),hg,(Q8s hd hL hp).2];simp only [Option.bind_some];have hc:bo (crQ d (QO d f) f L M (gx M i))=bo (unv d L p):=by
     congr 1
     apply propext;refine ⟨fun q=>?_,fun q _=>⟨p,hF,q⟩⟩;obtain ⟨p',q1,q2⟩:=q hu;rw [hF] at q1;cases q1;exact q2
    rw [hc,Q3 (by unfold B64;omega)]
theorem e_sCrea {d f:Fn} (hd:d.Is) (hf:f.Is) (h:d.t=f.s):Q1G d (QO d f) f=some (if (Q19 d).length≤400∧(Q19 (QO d f)).length≤400 then (bo (Crea d (QO d f) f (Q19 d) (Q19 (QO d f))),0) else (false,3)):=by
 have he:=Q4C hd hf h;unfold Q1G;rw [e_both hd he]
 by_cases h1:(Q19 d).length≤400∧(Q19 (QO d f)).length≤400
 case neg=>simp [h1]
 have hL:=Q6e hd h1.1;have hM:=Q6e he h1.2;rw [if_pos h1,if_pos h1];simp only [Option.bind_some,not_true_eq_false,if_false];generalize Q19 d=L at *;generalize Q19 (QO d f)=M at *;have h4:=hL.1;have h5:=hM.1;have cnt:∀ i:Nat,i<M.length→∀ {β:Type} {K:Int × Int→Option β} {r:Option β},
   (∀ c a:Int,c=((L.filter fun p=>bo (img p f=gx M i)).length:Int)→(∀ p,(L.filter fun p=>bo (img p f=gx M i))=[p]→0≤a∧a<(L.length:Int)∧gx L a=p)→K (c,a)=r) →
   (Qx (σ:=Int × Int × Int) (ε:=Int × Int) (fun s84 =>
       if s84.2.2<(L.length:Int) then
        (
         ass (0≤s84.2.2∧s84.2.2<(L.length:Int)) <|
         (Q1z (gx L s84.2.2) f).bind fun v88 =>
         (
          ass (0≤(i:Int)∧(i:Int)<(M.length:Int)) <|
          if v88.a=((gx M i).a) then
           ass (0≤(i:Int)∧(i:Int)<(M.length:Int)) <|
           (Q1O v88.l ((gx M i).l)).bind fun v93 =>
           some v93
          else
           some false:Option (Bool)).bind fun b89 =>
         if b89=true then
          ass (B64 (s84.1+1)) <|
          some (s84.1+1,s84.2.2)
         else
          some (s84.1,s84.2.1):Option (Int × Int)).bind fun b86 =>
        ass (B64 (s84.2.2+1)) <|
        some (Ctl.next (b86.1,b86.2,s84.2.2+1))
       else
        some (Ctl.ret (s84.1,s84.2.1))) fuel (0,0,0)).bind K=r:=by
  intro i hi β K r hK;have hi2:(i:Int)<(M.length:Int):=by omega
  refine Q13 (σ:=Int × Int × Int) (Q:=fun z=>z=r) L.length
   (fun j s=>s.2.2=(j:Int)∧s.1=(((L.take j).filter fun p=>bo (img p f=gx M i)).length:Int)∧∀ p,((L.take j).filter fun p=>bo (img p f=gx M i))=[p]→0≤s.2.1∧s.2.1<(L.length:Int)∧gx L s.2.1=p)
   (fun e:Int × Int=>e.1=((L.filter fun p=>bo (img p f=gx M i)).length:Int)∧∀ p,(L.filter fun p=>bo (img p f=gx M i))=[p]→0≤e.2∧e.2<(L.length:Int)∧gx L e.2=p) (by omega) ⟨rfl,by simp,fun p hp=>by simp at hp⟩ ?_ ?_ ?_
  ·intro j s hj ⟨s1,s2,s3⟩;obtain ⟨sc,sa,sj⟩:=s;simp only at s1 s2 s3;subst s1;left;have hj2:(j:Int)<(L.length:Int):=(by omega);obtain ⟨i1,i2,i3⟩:=Q7K hd hf h (hL.2 j hj);have hlen:=Q6W (fun p=>bo (img p f=gx M i)) L j;have hx:=Q4i L hj;have same:((ass (0≤(i:Int)∧(i:Int)<(M.length:Int)) <|
          if (img (gx L j) f).a=((gx M i).a) then
           ass (0≤(i:Int)∧(i:Int)<(M.length:Int)) <|
           (Q1O (img (gx L j) f).l ((gx M i).l)).bind fun v93 =>
           some v93
          else
           some false:Option (Bool)))=some (bo (img (gx L j) f=gx M i)):=by
    rw [Q3 ⟨by omega,hi2⟩]
    by_cases e1:(img (gx L j) f).a=(gx M i).a
    ·rw [if_pos e1,Q3 ⟨by omega,hi2⟩];unfold Q1O;simp only [Option.bind_some,Option.some.injEq]
     by_cases e2:(img (gx L j) f).l=(gx M i).l
     ·have:img (gx L j) f=gx M i:=by
       revert e1 e2
       generalize img (gx L j) f=p;generalize gx M i=q;intro e1 e2;cases p;cases q;simp only at e1 e2;subst e1 e2;rfl
      rw [QE this];simp [e2]
     rw [Qw fun q=>e2 (by rw [q])];simp [e2]
    rw [if_neg e1,Qw fun q=>e1 (by rw [q])]
   simp only;rw [if_pos hj2,Q3 ⟨by omega,hj2⟩,i1];simp only [Option.bind_some];rw [same];simp only [Option.bind_some];rw [Q8Q hj,List.filter_append]
   by_cases hb:img (gx L j) f=gx M i
   ·have hf1:([gx L j].filter fun p=>bo (img p f=gx M i))=[gx L j]:=(by simp [QE hb]);rw [QE hb,if_pos rfl,Q3 (by unfold B64;omega)];simp only [Option.bind_some];rw [Q3 (by unfold B64;omega),hf1];refine ⟨_,rfl,by simp,by simp;omega,fun p hp=>?_⟩;have h0:((L.take j).filter fun p=>bo (img p f=gx M i))=[]:=by
     have:=congrArg List.length hp;simp at this;simpa using this
    rw [h0] at hp;simp only [List.nil_append,List.cons.injEq,and_true] at hp;exact ⟨by simp only;omega,hj2,hp⟩
   have hf1:([gx L j].filter fun p=>bo (img p f=gx M i))=[]:=(by simp [Qw hb]);rw [Qw hb,if_neg (by simp)];simp only [Option.bind_some];rw [Q3 (by unfold B64;omega),hf1,List.append_nil];exact ⟨_,rfl,by simp,s2,s3⟩
  ·intro s ⟨s1,s2,s3⟩;obtain ⟨sc,sa,sj⟩:=s;simp only at s1 s2 s3;subst s1;rw [List.take_length] at s2 s3;rw [if_neg (by simp)];exact ⟨_,rfl,s2,s3⟩
  intro e ⟨e1,e2⟩;obtain ⟨c,a⟩:=e;exact hK c a e1 e2
 have step:∀ i:Nat,i<M.length→∀ {β:Type} {K:Unit ⊕ (Bool × Int)→Option β},(((ass (0≤(i:Int)∧(i:Int)<(M.length:Int)) <|
     (QC (QO d f) M (gx M i)).bind fun v57 =>
     if ¬ (v57=true) then
      some (Sum.inl ())
     else
      (Qx (σ:=Int × Int × Int) (ε:=Int × Int) (fun s84 =>
       if s84.2.2<(L.length:Int) then
        (
         ass (0≤s84.2.2∧s84.2.2<(L.length:Int)) <|
         (Q1z (gx L s84.2.2) f).bind fun v88 =>
         (
          ass (0≤(i:Int)∧(i:Int)<(M.length:Int)) <|
          if v88.a=((gx M i).a) then
           ass (0≤(i:Int)∧(i:Int)<(M.length:Int)) <|
           (Q1O v88.l ((gx M i).l)).bind fun v93 =>
           some v93
          else
           some false:Option (Bool)).bind fun b89 =>
         if b89=true then
          ass (B64 (s84.1+1)) <|
          some (s84.1+1,s84.2.2)
         else
          some (s84.1,s84.2.1):Option (Int × Int)).bind fun b86 =>
        ass (B64 (s84.2.2+1)) <|
        some (Ctl.next (b86.1,b86.2,s84.2.2+1))
       else
        some (Ctl.ret (s84.1,s84.2.1))) fuel (0,0,0)).bind fun b59 =>
      (
       if ¬ (b59.1=1) then
        some true
       else
        ass (0≤b59.2∧b59.2<(L.length:Int)) <|
        (QC d L (gx L b59.2)).bind fun v100 =>
        some (!v100):Option (Bool)).bind fun b97 =>
      if b97=true then
       some (Sum.inr (false,0))
      else
       some (Sum.inl ()):Option (Unit ⊕ (Bool × Int))).bind K)=K (if bo (crQ d (QO d f) f L M (gx M i))=true then Sum.inl () else Sum.inr (false,0))):=by
  intro i hi β K;have hi2:(i:Int)<(M.length:Int):=by omega
  rw [Q3 ⟨by omega,hi2⟩,(Q8s he hM (hM.2 i hi)).1];simp only [Option.bind_some]
  by_cases hu:unv (QO d f) M (gx M i)
  case neg =>
   have hc:crQ d (QO d f) f L M (gx M i):=fun q=>absurd q hu;rw [Qw hu,QE hc,if_pos (by simp),if_pos rfl];rfl
  rw [QE hu,if_neg (by simp)];have:=cnt i hi (K:=fun b59:Int × Int=>(
       (if ¬ (b59.1=1) then
        some true
       else
        ass (0≤b59.2∧b59.2<(L.length:Int)) <|
        (QC d L (gx L b59.2)).bind fun v100 =>
        some (!v100):Option (Bool)).bind fun b97 =>
      if b97=true then
       some (Sum.inr (false,0))
      else
       some (Sum.inl ()):Option (Unit ⊕ (Bool × Int)))) (r:=some (if bo (crQ d (QO d f) f L M (gx M i))=true then Sum.inl () else Sum.inr (false,0))) (fun c a hc ha=>?_)
  ·rw [this];rfl
  simp only;cases hF:(L.filter fun p=>bo (img p f=gx M i)) with
  | nil =>
   have hn:¬ crQ d (QO d f) f L M (gx M i):=fun q=>by
    obtain ⟨p,q1,_⟩:=q hu;rw [hF] at q1;cases q1
   rw [hF] at hc;rw [if_pos (by rw [hc];simp),Qw hn];simp
  | cons p ps =>
   cases ps with
   | cons p2 ps =>
    have hn:¬ crQ d (QO d f) f L M (gx M i):=fun q=>by
     obtain ⟨p,q1,_⟩:=q hu;rw [hF] at q1;cases q1
    rw [hF] at hc;rw [if_pos (by rw [hc];simp;omega),Qw hn];simp
   | nil =>
    obtain ⟨a1,a2,a3⟩:=ha p hF;have hp:p.G d:=mem_gl hL (List.mem_filter.1 (by rw [hF];simp:p∈L.filter fun p=>bo (img p f=gx M i))).1;have hcc:bo (crQ d (QO d f) f L M (gx M i))=bo (unv d L p):=by
     congr 1
     apply propext;refine ⟨fun q=>?_,fun q _=>⟨p,hF,q⟩⟩;obtain ⟨p',q1,q2⟩:=q hu;rw [hF] at q1;cases q1;exact q2
    rw [hF] at hc;rw [if_neg (by rw [hc];simp),Q3 ⟨a1,a2⟩,a3,(Q8s hd hL hp).1,hcc];cases bo (unv d L p)<;>simp
 refine Q1c M.length (fun i=>crQ d (QO d f) f L M (gx M i)) (eb:=Sum.inr (false,0)) (eg:=Sum.inl ()) (by omega) (fun i hi hs=>?_) (fun i hi hs=>?_) (by simp) (fun q=>by rw [Qw (p:=Crea d (QO d f) f L M) q]) fun q=>by rw [QE (p:=Crea d (QO d f) f L M) q]
 ·have hi2:(i:Int)<(M.length:Int):=by omega
  rw [if_pos hi2,step i hi,QE hs];simp only [if_true];rw [Q3 (by unfold B64;omega)]
 have hi2:(i:Int)<(M.length:Int):=by omega
 rw [if_pos hi2,step i hi,Qw hs];simp
end
attribute [local simp] unk unA unE unT unC flat eL eI Qm QK Q1r QF Cat.cells Fn.cells XMoved.cells
noncomputable def Q1e (d_:Fn) (f_:Fn):Option (Bool × Int) :=
 (
  (
   (QW [d_,f_]).bind fun v3 =>
   if ¬ (v3=true) then
    some (Sum.inl 1)
   else
    (QN d_.t f_.s).bind fun v5 =>
    if ¬ (v5=true) then
     some (Sum.inl 5)
    else
     (
      (QI d_).bind fun v8 =>
      (QI f_).bind fun v9 =>
      some (v8.s.n,v8.s.fr,v8.s.to,v8.s.id,v8.s.cs,v8.t.n,v8.t.fr,v8.t.to,v8.t.id,v8.t.cs,v8.ob,v8.ar,v9.s.n,v9.s.fr,v9.s.to,v9.s.id,v9.s.cs,v9.t.n,v9.t.fr,v9.t.to,v9.t.id,v9.t.cs,v9.ob,v9.ar):Option (Int × List Int × List Int × List Int × List (List Int) × Int × List Int × List Int × List Int × List (List Int) × List Int × List Int × Int × List Int × List Int × List Int × List (List Int) × Int × List Int × List Int × List Int × List (List Int) × List Int × List Int)).bind fun b7 =>
     (
      (Q10 (⟨(⟨b7.1,b7.2.1,b7.2.2.1,b7.2.2.2.1,b7.2.2.2.2.1⟩:Cat),(⟨b7.2.2.2.2.2.1,b7.2.2.2.2.2.2.1,b7.2.2.2.2.2.2.2.1,b7.2.2.2.2.2.2.2.2.1,b7.2.2.2.2.2.2.2.2.2.1⟩:Cat),b7.2.2.2.2.2.2.2.2.2.2.1,b7.2.2.2.2.2.2.2.2.2.2.2.1⟩:Fn) (⟨(⟨b7.2.2.2.2.2.2.2.2.2.2.2.2.1,b7.2.2.2.2.2.2.2.2.2.2.2.2.2.1,b7.2.2.2.2.2.2.2.2.2.2.2.2.2.2.1,b7.2.2.2.2.2.2.2.2.2.2.2.2.2.2.2.1,b7.2.2.2.2.2.2.2.2.2.2.2.2.2.2.2.2.1⟩:Cat),(⟨b7.2.2.2.2.2.2.2.2.2.2.2.2.2.2.2.2.2.1,b7.2.2.2.2.2.2.2.2.2.2.2.2.2.2.2.2.2.2.1,b7.2.2.2.2.2.2.2.2.2.2.2.2.2.2.2.2.2.2.2.1,b7.2.2.2.2.2.2.2.2.2.2.2.2.2.2.2.2.2.2.2.2.1,b7.2.2.2.2.2.2.2.2.2.2.2.2.2.2.2.2.2.2.2.2.2.1⟩:Cat),b7.2.2.2.2.2.2.2.2.2.2.2.2.2.2.2.2.2.2.2.2.2.2.1,b7.2.2.2.2.2.2.2.2.2.2.2.2.2.2.2.2.2.2.2.2.2.2.2⟩:Fn)).bind fun v12 =>
      (Q1v (⟨(⟨b7.1,b7.2.1,b7.2.2.1,b7.2.2.2.1,b7.2.2.2.2.1⟩:Cat),(⟨b7.2.2.2.2.2.1,b7.2.2.2.2.2.2.1,b7.2.2.2.2.2.2.2.1,b7.2.2.2.2.2.2.2.2.1,b7.2.2.2.2.2.2.2.2.2.1⟩:Cat),b7.2.2.2.2.2.2.2.2.2.2.1,b7.2.2.2.2.2.2.2.2.2.2.2.1⟩:Fn)).bind fun v13 =>
      (Q1v v12).bind fun v14 =>
      (
       if v13.2=true then
        some v14.2
       else
        some false:Option (Bool)).bind fun b15 =>
      some (v12.s.n,v12.s.fr,v12.s.to,v12.s.id,v12.s.cs,v12.t.n,v12.t.fr,v12.t.to,v12.t.id,v12.t.cs,v12.ob,v12.ar,v13.1,v14.1,b15):Option (Int × List Int × List Int × List Int × List (List Int) × Int × List Int × List Int × List Int × List (List Int) × List Int × List Int × List Cone × List Cone × Bool)).bind fun v17 =>
     if ¬ (v17.2.2.2.2.2.2.2.2.2.2.2.2.2.2=true) then
      some (Sum.inl 3)
     else
      some (Sum.inr (b7.1,b7.2.1,b7.2.2.1,b7.2.2.2.1,b7.2.2.2.2.1,b7.2.2.2.2.2.1,b7.2.2.2.2.2.2.1,b7.2.2.2.2.2.2.2.1,b7.2.2.2.2.2.2.2.2.1,b7.2.2.2.2.2.2.2.2.2.1,b7.2.2.2.2.2.2.2.2.2.2.1,b7.2.2.2.2.2.2.2.2.2.2.2.1,v17.1,v17.2.1,v17.2.2.1,v17.2.2.2.1,v17.2.2.2.2.1,v17.2.2.2.2.2.1,v17.2.2.2.2.2.2.1,v17.2.2.2.2.2.2.2.1,v17.2.2.2.2.2.2.2.2.1,v17.2.2.2.2.2.2.2.2.2.1,v17.2.2.2.2.2.2.2.2.2.2.1,v17.2.2.2.2.2.2.2.2.2.2.2.1,b7.2.2.2.2.2.2.2.2.2.2.2.2.1,b7.2.2.2.2.2.2.2.2.2.2.2.2.2.1,b7.2.2.2.2.2.2.2.2.2.2.2.2.2.2.1,b7.2.2.2.2.2.2.2.2.2.2.2.2.2.2.2.1,b7.2.2.2.2.2.2.2.2.2.2.2.2.2.2.2.2.1,b7.2.2.2.2.2.2.2.2.2.2.2.2.2.2.2.2.2.1,b7.2.2.2.2.2.2.2.2.2.2.2.2.2.2.2.2.2.2.1,b7.2.2.2.2.2.2.2.2.2.2.2.2.2.2.2.2.2.2.2.1,b7.2.2.2.2.2.2.2.2.2.2.2.2.2.2.2.2.2.2.2.2.1,b7.2.2.2.2.2.2.2.2.2.2.2.2.2.2.2.2.2.2.2.2.2.1,b7.2.2.2.2.2.2.2.2.2.2.2.2.2.2.2.2.2.2.2.2.2.2.1,b7.2.2.2.2.2.2.2.2.2.2.2.2.2.2.2.2.2.2.2.2.2.2.2,v17.2.2.2.2.2.2.2.2.2.2.2.2.1,v17.2.2.2.2.2.2.2.2.2.2.2.2.2.1)):Option (Int ⊕ (Int × List Int × List Int × List Int × List (List Int) × Int × List Int × List Int × List Int × List (List Int) × List Int × List Int × Int × List Int × List Int × List Int × List (List Int) × Int × List Int × List Int × List Int × List (List Int) × List Int × List Int × Int × List Int × List Int × List Int × List (List Int) × Int × List Int × List Int × List Int × List (List Int) × List Int × List Int × List Cone × List Cone))).bind fun v19 =>
  match v19 with
  | .inl v19 =>
   if ¬ (v19=0) then
    some (false,v19)
   else
    ass (False) <|
    none
  | .inr v19 =>
   (QU (⟨(⟨(⟨v19.1,v19.2.1,v19.2.2.1,v19.2.2.2.1,v19.2.2.2.2.1⟩:Cat),(⟨v19.2.2.2.2.2.1,v19.2.2.2.2.2.2.1,v19.2.2.2.2.2.2.2.1,v19.2.2.2.2.2.2.2.2.1,v19.2.2.2.2.2.2.2.2.2.1⟩:Cat),v19.2.2.2.2.2.2.2.2.2.2.1,v19.2.2.2.2.2.2.2.2.2.2.2.1⟩:Fn),(⟨(⟨v19.2.2.2.2.2.2.2.2.2.2.2.2.1,v19.2.2.2.2.2.2.2.2.2.2.2.2.2.1,v19.2.2.2.2.2.2.2.2.2.2.2.2.2.2.1,v19.2.2.2.2.2.2.2.2.2.2.2.2.2.2.2.1,v19.2.2.2.2.2.2.2.2.2.2.2.2.2.2.2.2.1⟩:Cat),(⟨v19.2.2.2.2.2.2.2.2.2.2.2.2.2.2.2.2.2.1,v19.2.2.2.2.2.2.2.2.2.2.2.2.2.2.2.2.2.2.1,v19.2.2.2.2.2.2.2.2.2.2.2.2.2.2.2.2.2.2.2.1,v19.2.2.2.2.2.2.2.2.2.2.2.2.2.2.2.2.2.2.2.2.1,v19.2.2.2.2.2.2.2.2.2.2.2.2.2.2.2.2.2.2.2.2.2.1⟩:Cat),v19.2.2.2.2.2.2.2.2.2.2.2.2.2.2.2.2.2.2.2.2.2.2.1,v19.2.2.2.2.2.2.2.2.2.2.2.2.2.2.2.2.2.2.2.2.2.2.2.1⟩:Fn),(⟨(⟨v19.2.2.2.2.2.2.2.2.2.2.2.2.2.2.2.2.2.2.2.2.2.2.2.2.1,v19.2.2.2.2.2.2.2.2.2.2.2.2.2.2.2.2.2.2.2.2.2.2.2.2.2.1,v19.2.2.2.2.2.2.2.2.2.2.2.2.2.2.2.2.2.2.2.2.2.2.2.2.2.2.1,v19.2.2.2.2.2.2.2.2.2.2.2.2.2.2.2.2.2.2.2.2.2.2.2.2.2.2.2.1,v19.2.2.2.2.2.2.2.2.2.2.2.2.2.2.2.2.2.2.2.2.2.2.2.2.2.2.2.2.1⟩:Cat),(⟨v19.2.2.2.2.2.2.2.2.2.2.2.2.2.2.2.2.2.2.2.2.2.2.2.2.2.2.2.2.2.1,v19.2.2.2.2.2.2.2.2.2.2.2.2.2.2.2.2.2.2.2.2.2.2.2.2.2.2.2.2.2.2.1,v19.2.2.2.2.2.2.2.2.2.2.2.2.2.2.2.2.2.2.2.2.2.2.2.2.2.2.2.2.2.2.2.1,v19.2.2.2.2.2.2.2.2.2.2.2.2.2.2.2.2.2.2.2.2.2.2.2.2.2.2.2.2.2.2.2.2.1,v19.2.2.2.2.2.2.2.2.2.2.2.2.2.2.2.2.2.2.2.2.2.2.2.2.2.2.2.2.2.2.2.2.2.1⟩:Cat),v19.2.2.2.2.2.2.2.2.2.2.2.2.2.2.2.2.2.2.2.2.2.2.2.2.2.2.2.2.2.2.2.2.2.2.1,v19.2.2.2.2.2.2.2.2.2.2.2.2.2.2.2.2.2.2.2.2.2.2.2.2.2.2.2.2.2.2.2.2.2.2.2.1⟩:Fn),v19.2.2.2.2.2.2.2.2.2.2.2.2.2.2.2.2.2.2.2.2.2.2.2.2.2.2.2.2.2.2.2.2.2.2.2.2.1,v19.2.2.2.2.2.2.2.2.2.2.2.2.2.2.2.2.2.2.2.2.2.2.2.2.2.2.2.2.2.2.2.2.2.2.2.2.2⟩:XMoved)).bind fun v21 =>
   some (v21,0):Option (Bool × Int)).bind fun v22 =>
 some (v22.1,v22.2)
@[simp] abbrev Y0A (a:Int × List Int × List Int × List Int × List (List Int) × Int × List Int × List Int × List Int × List (List Int) × List Int × List Int × Int × List Int × List Int × List Int × List (List Int) × Int × List Int × List Int × List Int × List (List Int) × List Int × List Int) (b:List (AV)):List (AV):=iV a.1::.own 1 0 a.2.1.length::.own 2 0 a.2.2.1.length::.own 3 0 a.2.2.2.1.length::.own 4 0 a.2.2.2.2.1.length::iV a.2.2.2.2.2.1::.own 5 0 a.2.2.2.2.2.2.1.length::.own 6 0 a.2.2.2.2.2.2.2.1.length::.own 7 0 a.2.2.2.2.2.2.2.2.1.length::.own 8 0 a.2.2.2.2.2.2.2.2.2.1.length::.own 9 0 a.2.2.2.2.2.2.2.2.2.2.1.length::.own 10 0 a.2.2.2.2.2.2.2.2.2.2.2.1.length::b
@[simp] abbrev Y0 (a:Int × List Int × List Int × List Int × List (List Int) × Int × List Int × List Int × List Int × List (List Int) × List Int × List Int × Int × List Int × List Int × List Int × List (List Int) × Int × List Int × List Int × List Int × List (List Int) × List Int × List Int) (b:List (Nat × Ent)):List (Nat × Ent):=(0,.mix 12 [(Y0A a [])])::(1,rI a.2.1)::(2,rI a.2.2.1)::(3,rI a.2.2.2.1)::(4,.row 1 (Ls a.2.2.2.2.1))::(5,rI a.2.2.2.2.2.2.1)::(6,rI a.2.2.2.2.2.2.2.1)::(7,rI a.2.2.2.2.2.2.2.2.1)::(8,.row 1 (Ls a.2.2.2.2.2.2.2.2.2.1))::(9,rI a.2.2.2.2.2.2.2.2.2.2.1)::(10,rI a.2.2.2.2.2.2.2.2.2.2.2.1)::(11,.mix 12 [[iV a.2.2.2.2.2.2.2.2.2.2.2.2.1,.own 12 0 a.2.2.2.2.2.2.2.2.2.2.2.2.2.1.length,.own 13 0 a.2.2.2.2.2.2.2.2.2.2.2.2.2.2.1.length,.own 14 0 a.2.2.2.2.2.2.2.2.2.2.2.2.2.2.2.1.length,.own 15 0 a.2.2.2.2.2.2.2.2.2.2.2.2.2.2.2.2.1.length,iV a.2.2.2.2.2.2.2.2.2.2.2.2.2.2.2.2.2.1,.own 16 0 a.2.2.2.2.2.2.2.2.2.2.2.2.2.2.2.2.2.2.1.length,.own 17 0 a.2.2.2.2.2.2.2.2.2.2.2.2.2.2.2.2.2.2.2.1.length,.own 18 0 a.2.2.2.2.2.2.2.2.2.2.2.2.2.2.2.2.2.2.2.2.1.length,.own 19 0 a.2.2.2.2.2.2.2.2.2.2.2.2.2.2.2.2.2.2.2.2.2.1.length,.own 20 0 a.2.2.2.2.2.2.2.2.2.2.2.2.2.2.2.2.2.2.2.2.2.2.1.length,.own 21 0 a.2.2.2.2.2.2.2.2.2.2.2.2.2.2.2.2.2.2.2.2.2.2.2.length]])::(12,rI a.2.2.2.2.2.2.2.2.2.2.2.2.2.1)::(13,rI a.2.2.2.2.2.2.2.2.2.2.2.2.2.2.1)::(14,rI a.2.2.2.2.2.2.2.2.2.2.2.2.2.2.2.1)::(15,.row 1 (Ls a.2.2.2.2.2.2.2.2.2.2.2.2.2.2.2.2.1))::(16,rI a.2.2.2.2.2.2.2.2.2.2.2.2.2.2.2.2.2.2.1)::(17,rI a.2.2.2.2.2.2.2.2.2.2.2.2.2.2.2.2.2.2.2.1)::(18,rI a.2.2.2.2.2.2.2.2.2.2.2.2.2.2.2.2.2.2.2.2.1)::(19,.row 1 (Ls a.2.2.2.2.2.2.2.2.2.2.2.2.2.2.2.2.2.2.2.2.2.1))::(20,rI a.2.2.2.2.2.2.2.2.2.2.2.2.2.2.2.2.2.2.2.2.2.2.1)::(21,rI a.2.2.2.2.2.2.2.2.2.2.2.2.2.2.2.2.2.2.2.2.2.2.2)::b
@[simp] abbrev Y3 (a:Int × List Int × List Int × List Int × List (List Int) × Int × List Int × List Int × List Int × List (List Int) × List Int × List Int × Int × List Int × List Int × List Int × List (List Int) × Int × List Int × List Int × List Int × List (List Int) × List Int × List Int) (b:List (Nat × Ent)):List (Nat × Ent):=(21,.mix 12 [[iV a.2.2.2.2.2.2.2.2.2.2.2.2.1,.own 22 0 a.2.2.2.2.2.2.2.2.2.2.2.2.2.1.length,.own 23 0 a.2.2.2.2.2.2.2.2.2.2.2.2.2.2.1.length,.own 24 0 a.2.2.2.2.2.2.2.2.2.2.2.2.2.2.2.1.length,.own 25 0 a.2.2.2.2.2.2.2.2.2.2.2.2.2.2.2.2.1.length,iV a.2.2.2.2.2.2.2.2.2.2.2.2.2.2.2.2.2.1,.own 26 0 a.2.2.2.2.2.2.2.2.2.2.2.2.2.2.2.2.2.2.1.length,.own 27 0 a.2.2.2.2.2.2.2.2.2.2.2.2.2.2.2.2.2.2.2.1.length,.own 28 0 a.2.2.2.2.2.2.2.2.2.2.2.2.2.2.2.2.2.2.2.2.1.length,.own 29 0 a.2.2.2.2.2.2.2.2.2.2.2.2.2.2.2.2.2.2.2.2.2.1.length,.own 30 0 a.2.2.2.2.2.2.2.2.2.2.2.2.2.2.2.2.2.2.2.2.2.2.1.length,.own 31 0 a.2.2.2.2.2.2.2.2.2.2.2.2.2.2.2.2.2.2.2.2.2.2.2.length]])::(22,rI a.2.2.2.2.2.2.2.2.2.2.2.2.2.1)::(23,rI a.2.2.2.2.2.2.2.2.2.2.2.2.2.2.1)::(24,rI a.2.2.2.2.2.2.2.2.2.2.2.2.2.2.2.1)::(25,.row 1 (Ls a.2.2.2.2.2.2.2.2.2.2.2.2.2.2.2.2.1))::(26,rI a.2.2.2.2.2.2.2.2.2.2.2.2.2.2.2.2.2.2.1)::(27,rI a.2.2.2.2.2.2.2.2.2.2.2.2.2.2.2.2.2.2.2.1)::(28,rI a.2.2.2.2.2.2.2.2.2.2.2.2.2.2.2.2.2.2.2.2.1)::(29,.row 1 (Ls a.2.2.2.2.2.2.2.2.2.2.2.2.2.2.2.2.2.2.2.2.2.1))::(30,rI a.2.2.2.2.2.2.2.2.2.2.2.2.2.2.2.2.2.2.2.2.2.2.1)::(31,rI a.2.2.2.2.2.2.2.2.2.2.2.2.2.2.2.2.2.2.2.2.2.2.2)::b
@[simp] abbrev Y0B (a:Fn) (b:List (AV)):List (AV):=iV a.s.n::.own 23 0 a.s.fr.length::.own 24 0 a.s.to.length::.own 25 0 a.s.id.length::.own 26 0 a.s.cs.length::iV a.t.n::.own 27 0 a.t.fr.length::.own 28 0 a.t.to.length::.own 29 0 a.t.id.length::.own 30 0 a.t.cs.length::.own 31 0 a.ob.length::.own 32 0 a.ar.length::.adr 11 0 0::b
@[simp] abbrev Y7 (a:Int × List Int × List Int × List Int × List (List Int) × Int × List Int × List Int × List Int × List (List Int) × List Int × List Int × Int × List Int × List Int × List Int × List (List Int) × Int × List Int × List Int × List Int × List (List Int) × List Int × List Int) (b:Fn) (c d:List Cone × Bool) (e:List (Nat × Ent)):List (Nat × Ent):=(22,.mix 27 [(Y0A a (Y0B b [.own 33 0 c.1.length,.own 34 0 d.1.length]))])::(23,rI b.s.fr)::(24,rI b.s.to)::(25,rI b.s.id)::(26,.row 1 (Ls b.s.cs))::(27,rI b.t.fr)::(28,rI b.t.to)::(29,rI b.t.id)::(30,.row 1 (Ls b.t.cs))::(31,rI b.ob)::(32,rI b.ar)::(33,.row 2 (Es (Cone.cells true) c.1))::(34,.row 2 (Es (Cone.cells true) d.1))::e
@[simp] abbrev Yy (a:Int × List Int × List Int × List Int × List (List Int) × Int × List Int × List Int × List Int × List (List Int) × List Int × List Int × Int × List Int × List Int × List Int × List (List Int) × Int × List Int × List Int × List Int × List (List Int) × List Int × List Int) (b:Fn) (c:List (Nat × Ent)):List (Nat × Ent):=(22,.mix 27 [(Y0A a (Y0B b [nS,nS]))])::(23,rI b.s.fr)::(24,rI b.s.to)::(25,rI b.s.id)::(26,.row 1 (Ls b.s.cs))::(27,rI b.t.fr)::(28,rI b.t.to)::(29,rI b.t.id)::(30,.row 1 (Ls b.t.cs))::(31,rI b.ob)::(32,rI b.ar)::c
@[simp] abbrev YB (a:Int × List Int × List Int × List Int × List (List Int) × Int × List Int × List Int × List Int × List (List Int) × List Int × List Int × Int × List Int × List Int × List Int × List (List Int) × Int × List Int × List Int × List Int × List (List Int) × List Int × List Int) (b:List (Nat × Ent)):List (Nat × Ent):=(1,rI a.2.1)::(2,rI a.2.2.1)::(3,rI a.2.2.2.1)::(4,.row 1 (Ls a.2.2.2.2.1))::(5,rI a.2.2.2.2.2.2.1)::(6,rI a.2.2.2.2.2.2.2.1)::(7,rI a.2.2.2.2.2.2.2.2.1)::(8,.row 1 (Ls a.2.2.2.2.2.2.2.2.2.1))::(9,rI a.2.2.2.2.2.2.2.2.2.2.1)::(10,rI a.2.2.2.2.2.2.2.2.2.2.2.1)::b
@[simp] abbrev Y0k (a:List (Nat × AV)):List (Nat × AV):=(6,.val (.pointer none))::a
theorem Q46 (d_:Fn) (f_:Fn) (r:Bool × Int) (h:Q1e d_ f_=some r):Contract Try.prog 11 (Y0H d_ f_ []) (.tup [.val (.bool r.1),iV r.2]):=by
 refine Q8 (rvs:=[.tmp 4,.tmp 5]) (rs:=[.val (.bool r.1),iV r.2]) Try.func11 rfl rfl rfl rfl (by simp [Try.f11]) fun F hN hP=>?_;unfold Q1e at h;refine Q0 (Qg [2,3] mo (by rw [hN];decide) fun K hK=>?_);simp;repeat refine sdQ ?_
 refine hK _ ?_;clear hK K;refine tn (Q4 (st':=⟨(2,.rptr (Fn.cells true d_))::Y00 f_ [],[],0⟩) (QR []) (Q0 (Q25 [] mo (by rw [hN];decide) fun K hK=>?_)));simp;repeat with_reducible refine sdQ ?_
 replace ⟨v22,hv22,h⟩:=bind_some h;refine Q1Y (fz:=[]) (Q1u (ts:=[8,9]) (e:={ v:=.tup [.val (.bool v22.1),iV v22.2],set:=[],del:=[],new:=[],cnt:=0 }) Try.func18 rfl rfl rfl (by simp [Try.f18]) (by simp) (Q4u (by simp)) (newI (by rfl)) fun F hN hP=>?_) ?_
 ·clear h;have h:=hv22;clear hv22;refine Q0 (Qg [] mo (by rw [hN];decide) fun K hK=>?_);simp;repeat refine sdQ ?_
  refine hK _ ?_;clear hK K;refine tn (Q4 (st':=⟨Yr d_ (YR f_ [(2,.val (.bool true)),(3,.fn 19 [])]),[],0⟩) (QR []) (Q0 (Q25 [] mo (by rw [hN];decide) fun K hK=>?_)));simp;repeat with_reducible refine sdQ ?_
  replace ⟨v19,hv19,h⟩:=bind_some h
  refine Q1Y (fz:=[]) (Q1u (ts:=[6,7]) (e:=(match (generalizing:=false) v19 with|.inl v19=>{ v:=.tup [.val (.pointer none),iV v19],set:=[],del:=[],new:=[],cnt:=0 }|.inr v19=>{ v:=.tup [.adr 0 0 0,iV 0],set:=[],del:=[],new:=[(0,.mix 27 [[iV v19.1,.own 1 0 v19.2.1.length,.own 2 0 v19.2.2.1.length,.own 3 0 v19.2.2.2.1.length,.own 4 0 v19.2.2.2.2.1.length,iV v19.2.2.2.2.2.1,.own 5 0 v19.2.2.2.2.2.2.1.length,.own 6 0 v19.2.2.2.2.2.2.2.1.length,.own 7 0 v19.2.2.2.2.2.2.2.2.1.length,.own 8 0 v19.2.2.2.2.2.2.2.2.2.1.length,.own 9 0 v19.2.2.2.2.2.2.2.2.2.2.1.length,.own 10 0 v19.2.2.2.2.2.2.2.2.2.2.2.1.length,iV v19.2.2.2.2.2.2.2.2.2.2.2.2.1,.own 11 0 v19.2.2.2.2.2.2.2.2.2.2.2.2.2.1.length,.own 12 0 v19.2.2.2.2.2.2.2.2.2.2.2.2.2.2.1.length,.own 13 0 v19.2.2.2.2.2.2.2.2.2.2.2.2.2.2.2.1.length,.own 14 0 v19.2.2.2.2.2.2.2.2.2.2.2.2.2.2.2.2.1.length,iV v19.2.2.2.2.2.2.2.2.2.2.2.2.2.2.2.2.2.1,.own 15 0 v19.2.2.2.2.2.2.2.2.2.2.2.2.2.2.2.2.2.2.1.length,.own 16 0 v19.2.2.2.2.2.2.2.2.2.2.2.2.2.2.2.2.2.2.2.1.length,.own 17 0 v19.2.2.2.2.2.2.2.2.2.2.2.2.2.2.2.2.2.2.2.2.1.length,.own 18 0 v19.2.2.2.2.2.2.2.2.2.2.2.2.2.2.2.2.2.2.2.2.2.1.length,.own 19 0 v19.2.2.2.2.2.2.2.2.2.2.2.2.2.2.2.2.2.2.2.2.2.2.1.length,.own 20 0 v19.2.2.2.2.2.2.2.2.2.2.2.2.2.2.2.2.2.2.2.2.2.2.2.1.length,.adr 21 0 0,.own 32 0 v19.2.2.2.2.2.2.2.2.2.2.2.2.2.2.2.2.2.2.2.2.2.2.2.2.2.2.2.2.2.2.2.2.2.2.2.2.1.length,.own 33 0 v19.2.2.2.2.2.2.2.2.2.2.2.2.2.2.2.2.2.2.2.2.2.2.2.2.2.2.2.2.2.2.2.2.2.2.2.2.2.length]]),(1,rI v19.2.1),(2,rI v19.2.2.1),(3,rI v19.2.2.2.1),(4,.row 1 (Ls v19.2.2.2.2.1)),(5,rI v19.2.2.2.2.2.2.1),(6,rI v19.2.2.2.2.2.2.2.1),(7,rI v19.2.2.2.2.2.2.2.2.1),(8,.row 1 (Ls v19.2.2.2.2.2.2.2.2.2.1)),(9,rI v19.2.2.2.2.2.2.2.2.2.2.1),(10,rI v19.2.2.2.2.2.2.2.2.2.2.2.1),(11,rI v19.2.2.2.2.2.2.2.2.2.2.2.2.2.1),(12,rI v19.2.2.2.2.2.2.2.2.2.2.2.2.2.2.1),(13,rI v19.2.2.2.2.2.2.2.2.2.2.2.2.2.2.2.1),(14,.row 1 (Ls v19.2.2.2.2.2.2.2.2.2.2.2.2.2.2.2.2.1)),(15,rI v19.2.2.2.2.2.2.2.2.2.2.2.2.2.2.2.2.2.2.1),(16,rI v19.2.2.2.2.2.2.2.2.2.2.2.2.2.2.2.2.2.2.2.1),(17,rI v19.2.2.2.2.2.2.2.2.2.2.2.2.2.2.2.2.2.2.2.2.1),(18,.row 1 (Ls v19.2.2.2.2.2.2.2.2.2.2.2.2.2.2.2.2.2.2.2.2.2.1)),(19,rI v19.2.2.2.2.2.2.2.2.2.2.2.2.2.2.2.2.2.2.2.2.2.2.1),(20,rI v19.2.2.2.2.2.2.2.2.2.2.2.2.2.2.2.2.2.2.2.2.2.2.2.1),(21,.mix 12 [[iV v19.2.2.2.2.2.2.2.2.2.2.2.2.2.2.2.2.2.2.2.2.2.2.2.2.1,.own 22 0 v19.2.2.2.2.2.2.2.2.2.2.2.2.2.2.2.2.2.2.2.2.2.2.2.2.2.1.length,.own 23 0 v19.2.2.2.2.2.2.2.2.2.2.2.2.2.2.2.2.2.2.2.2.2.2.2.2.2.2.1.length,.own 24 0 v19.2.2.2.2.2.2.2.2.2.2.2.2.2.2.2.2.2.2.2.2.2.2.2.2.2.2.2.1.length,.own 25 0 v19.2.2.2.2.2.2.2.2.2.2.2.2.2.2.2.2.2.2.2.2.2.2.2.2.2.2.2.2.1.length,iV v19.2.2.2.2.2.2.2.2.2.2.2.2.2.2.2.2.2.2.2.2.2.2.2.2.2.2.2.2.2.1,.own 26 0 v19.2.2.2.2.2.2.2.2.2.2.2.2.2.2.2.2.2.2.2.2.2.2.2.2.2.2.2.2.2.2.1.length,.own 27 0 v19.2.2.2.2.2.2.2.2.2.2.2.2.2.2.2.2.2.2.2.2.2.2.2.2.2.2.2.2.2.2.2.1.length,.own 28 0 v19.2.2.2.2.2.2.2.2.2.2.2.2.2.2.2.2.2.2.2.2.2.2.2.2.2.2.2.2.2.2.2.2.1.length,.own 29 0 v19.2.2.2.2.2.2.2.2.2.2.2.2.2.2.2.2.2.2.2.2.2.2.2.2.2.2.2.2.2.2.2.2.2.1.length,.own 30 0 v19.2.2.2.2.2.2.2.2.2.2.2.2.2.2.2.2.2.2.2.2.2.2.2.2.2.2.2.2.2.2.2.2.2.2.1.length,.own 31 0 v19.2.2.2.2.2.2.2.2.2.2.2.2.2.2.2.2.2.2.2.2.2.2.2.2.2.2.2.2.2.2.2.2.2.2.2.1.length]]),(22,rI v19.2.2.2.2.2.2.2.2.2.2.2.2.2.2.2.2.2.2.2.2.2.2.2.2.2.1),(23,rI v19.2.2.2.2.2.2.2.2.2.2.2.2.2.2.2.2.2.2.2.2.2.2.2.2.2.2.1),(24,rI v19.2.2.2.2.2.2.2.2.2.2.2.2.2.2.2.2.2.2.2.2.2.2.2.2.2.2.2.1),(25,.row 1 (Ls v19.2.2.2.2.2.2.2.2.2.2.2.2.2.2.2.2.2.2.2.2.2.2.2.2.2.2.2.2.1)),(26,rI v19.2.2.2.2.2.2.2.2.2.2.2.2.2.2.2.2.2.2.2.2.2.2.2.2.2.2.2.2.2.2.1),(27,rI v19.2.2.2.2.2.2.2.2.2.2.2.2.2.2.2.2.2.2.2.2.2.2.2.2.2.2.2.2.2.2.2.1),(28,rI v19.2.2.2.2.2.2.2.2.2.2.2.2.2.2.2.2.2.2.2.2.2.2.2.2.2.2.2.2.2.2.2.2.1),(29,.row 1 (Ls v19.2.2.2.2.2.2.2.2.2.2.2.2.2.2.2.2.2.2.2.2.2.2.2.2.2.2.2.2.2.2.2.2.2.1)),(30,rI v19.2.2.2.2.2.2.2.2.2.2.2.2.2.2.2.2.2.2.2.2.2.2.2.2.2.2.2.2.2.2.2.2.2.2.1),(31,rI v19.2.2.2.2.2.2.2.2.2.2.2.2.2.2.2.2.2.2.2.2.2.2.2.2.2.2.2.2.2.2.2.2.2.2.2.1),(32,.row 2 (Es (Cone.cells true) v19.2.2.2.2.2.2.2.2.2.2.2.2.2.2.2.2.2.2.2.2.2.2.2.2.2.2.2.2.2.2.2.2.2.2.2.2.1)),(33,.row 2 (Es (Cone.cells true) v19.2.2.2.2.2.2.2.2.2.2.2.2.2.2.2.2.2.2.2.2.2.2.2.2.2.2.2.2.2.2.2.2.2.2.2.2.2))],cnt:=34 })) Try.func32 rfl rfl rfl (by simp [Try.f32]) (by simp) (Q4u (by rcases v19 with v19|v19<;>simp)) (newI (by rcases v19 with v19|v19<;>rfl)) fun F hN hP=>?_) ?_
  ·clear h;have h:=hv19;clear hv19;refine Q0 (Qg [] mo (by rw [hN];decide) fun K hK=>?_);simp;(repeat refine sdQ ?_);refine hK _ ?_;clear hK K;refine tn (Q4 (st':=⟨Yr d_ (YR f_ [(2,.val (.bool true))]),[],0⟩) (QR []) (Q0 (Q0 (Qg [] mo (by rw [hN];decide) fun K hK=>?_))));simp;(repeat with_reducible refine sdQ ?_);replace ⟨v3,hv3,h⟩:=bind_some h;refine Qy (fz:=[]) (Q5y _ v3 hv3) (.cons (.lits (es:=_) rfl (.cons rfl (.cons (.preT (by simp [Fn.cells])) .nil) (.cons rfl (.cons (.preT (by simp [Fn.cells])) .nil) .nil)) rfl) .nil) ?_;simp;(repeat refine sdQ ?_);refine hK _ ?_;clear hK K;refine tn (Q4 (st':=⟨Yr d_ (YR f_ [(2,.val (.bool true)),(16,.val (.bool (!v3)))]),[],0⟩) (QR []) (Q6 rfl (fun g=>?_) fun g=>?_))
   ·have g4:¬ (v3=true):=gQ;clear g;replace h:=if_l g4 h;refine Q0 (Qg [] mo (by rw [hN];decide) fun K hK=>?_);simp;(repeat refine sdQ ?_);refine hK _ (tn (Q4 (st':=⟨Y0k [(7,iV 1)],[],0⟩) (QR []) (Qe (tr ?_))));clear hK K;cases h;(try dsimp only);first|refine iw_r (st':=⟨Y0k [(7,iV 1)],[],0⟩) ?_ ?_|refine iw_n (st':=⟨Y0k [(7,iV 1)],[],0⟩) ?_ ?_
    ·exact Wk.r1 [] (by simp [hP,hhOk,back,Cat.cells,Fn.cells,XMoved.cells,UA,U1,IA,I1,LA,L1,BA,B1,EA,E1,E2,eB,eI,eL,Q9 _ QF _ (fun _=>rfl),Q9 _ (Cone.cells true) _ (fun _=>rfl)])
    exact ⟨by simp [Qt],by simp,by simp [Cat.cells,Fn.cells,XMoved.cells]⟩
   have g4:¬ (¬ (v3=true)):=gQ;clear g;replace h:=if_r g4 h;refine Q7 (tn (Q0 (Q0 (Qg [] mo (by rw [hN];decide) fun K hK=>?_))));simp;(repeat with_reducible refine sdQ ?_);replace ⟨v5,hv5,h⟩:=bind_some h;refine Qy (fz:=[]) (Q4Z _ _ v5 hv5) (.cons (.preT (by simp [Cat.cells,Fn.cells])) (.cons (.preT (by simp [Cat.cells,Fn.cells])) .nil)) ?_;simp;(repeat refine sdQ ?_);refine hK _ ?_;clear hK K;refine tn (Q4 (st':=⟨Yr d_ (YR f_ [(2,.val (.bool true)),(24,.val (.bool (!v5)))]),[],0⟩) (QR []) (Q6 rfl (fun g=>?_) fun g=>?_))
   ·have g6:¬ (v5=true):=gQ;clear g;replace h:=if_l g6 h;refine Q0 (Qg [] mo (by rw [hN];decide) fun K hK=>?_);simp;(repeat refine sdQ ?_);refine hK _ (tn (Q4 (st':=⟨Y0k [(7,iV 5)],[],0⟩) (QR []) (Qe (tr ?_))));clear hK K;cases h;(try dsimp only);first|refine iw_r (st':=⟨Y0k [(7,iV 5)],[],0⟩) ?_ ?_|refine iw_n (st':=⟨Y0k [(7,iV 5)],[],0⟩) ?_ ?_
    ·exact Wk.r1 [] (by simp [hP,hhOk,back,Cat.cells,Fn.cells,XMoved.cells,UA,U1,IA,I1,LA,L1,BA,B1,EA,E1,E2,eB,eI,eL,Q9 _ QF _ (fun _=>rfl),Q9 _ (Cone.cells true) _ (fun _=>rfl)])
    exact ⟨by simp [Qt],by simp,by simp [Cat.cells,Fn.cells,XMoved.cells]⟩
   have g6:¬ (¬ (v5=true)):=gQ;clear g;replace h:=if_r g6 h;refine Q7 (tn (Q0 (Q0 (Qg [] mo (by rw [hN];decide) fun K hK=>?_))));simp;(repeat refine sdQ ?_);refine hK _ (tn ?_);clear hK K;replace ⟨e7,h,h7⟩:=bind_some h;refine Qd (fun b7:Int × List Int × List Int × List Int × List (List Int) × Int × List Int × List Int × List Int × List (List Int) × List Int × List Int × Int × List Int × List Int × List Int × List (List Int) × Int × List Int × List Int × List Int × List (List Int) × List Int × List Int=>⟨[(0,.adr 0 0 0),(1,.adr 11 0 0)],Y0 b7 [],22⟩) (fun b7=>b7=e7) ?_ ?_
   ·refine Q6 rfl (fun _=>?_) fun g=>by simp at g
    refine Q0 (Qg [] mo (by rw [hN];decide) fun K hK=>?_);simp;(repeat with_reducible refine sdQ ?_);replace ⟨v8,hv8,h⟩:=bind_some h;refine Qy (fz:=[]) (Q2p _ v8 hv8) (.cons (.preT (by simp [Cat.cells,Fn.cells])) .nil) ?_;simp;(repeat with_reducible refine sdQ ?_);replace ⟨v9,hv9,h⟩:=bind_some h;refine Qy (fz:=[]) (Q2p _ v9 hv9) (.cons (.preT (by simp [Cat.cells,Fn.cells])) .nil) ?_;simp;(repeat refine sdQ ?_);refine hK _ ?_;clear hK K;refine tn (Q4 (st':=⟨[(8,.adr 0 0 0),(9,.adr 11 0 0)],Y5 v8 [(11,.mix 12 [[iV v9.s.n,.own 12 0 v9.s.fr.length,.own 13 0 v9.s.to.length,.own 14 0 v9.s.id.length,.own 15 0 v9.s.cs.length,iV v9.t.n,.own 16 0 v9.t.fr.length,.own 17 0 v9.t.to.length,.own 18 0 v9.t.id.length,.own 19 0 v9.t.cs.length,.own 20 0 v9.ob.length,.own 21 0 v9.ar.length]]),(12,rI v9.s.fr),(13,rI v9.s.to),(14,rI v9.s.id),(15,.row 1 (Ls v9.s.cs)),(16,rI v9.t.fr),(17,rI v9.t.to),(18,rI v9.t.id),(19,.row 1 (Ls v9.t.cs)),(20,rI v9.ob),(21,rI v9.ar)],22⟩) (QR [(24,0),(1,1),(2,2),(3,3),(4,4),(6,5),(7,6),(8,7),(9,8),(10,9),(11,10),(25,11),(13,12),(14,13),(15,14),(16,15),(18,16),(19,17),(20,18),(21,19),(22,20),(23,21)]) (Qg [] mo (by rw [hN];decide) fun K hK=>?_));simp;(repeat refine sdQ ?_);refine hK _ ?_;clear hK K;exact jn (b:=(v8.s.n,v8.s.fr,v8.s.to,v8.s.id,v8.s.cs,v8.t.n,v8.t.fr,v8.t.to,v8.t.id,v8.t.cs,v8.ob,v8.ar,v9.s.n,v9.s.fr,v9.s.to,v9.s.id,v9.s.cs,v9.t.n,v9.t.fr,v9.t.to,v9.t.id,v9.t.cs,v9.ob,v9.ar)) (Option.some.inj h) (Q2N 22)
   intro b7 hb7;have h:=h7;(try rw [← hb7] at h);clear h7;(try dsimp only at h);refine Q0 (Q25 [] mo (by rw [hN];decide) fun K hK=>?_);simp;(repeat with_reducible refine sdQ ?_);replace ⟨v17,hv17,h⟩:=bind_some h;refine Q1Y (fz:=[]) (Q1u (ts:=[4,5]) (e:={ v:=.tup [.adr 22 0 0,.val (.bool v17.2.2.2.2.2.2.2.2.2.2.2.2.2.2)],set:=[],del:=[],new:=[(22,.mix 27 [(Y0A b7 [iV v17.1,.own 23 0 v17.2.1.length,.own 24 0 v17.2.2.1.length,.own 25 0 v17.2.2.2.1.length,.own 26 0 v17.2.2.2.2.1.length,iV v17.2.2.2.2.2.1,.own 27 0 v17.2.2.2.2.2.2.1.length,.own 28 0 v17.2.2.2.2.2.2.2.1.length,.own 29 0 v17.2.2.2.2.2.2.2.2.1.length,.own 30 0 v17.2.2.2.2.2.2.2.2.2.1.length,.own 31 0 v17.2.2.2.2.2.2.2.2.2.2.1.length,.own 32 0 v17.2.2.2.2.2.2.2.2.2.2.2.1.length,.adr 11 0 0,.own 33 0 v17.2.2.2.2.2.2.2.2.2.2.2.2.1.length,.own 34 0 v17.2.2.2.2.2.2.2.2.2.2.2.2.2.1.length])]),(23,rI v17.2.1),(24,rI v17.2.2.1),(25,rI v17.2.2.2.1),(26,.row 1 (Ls v17.2.2.2.2.1)),(27,rI v17.2.2.2.2.2.2.1),(28,rI v17.2.2.2.2.2.2.2.1),(29,rI v17.2.2.2.2.2.2.2.2.1),(30,.row 1 (Ls v17.2.2.2.2.2.2.2.2.2.1)),(31,rI v17.2.2.2.2.2.2.2.2.2.2.1),(32,rI v17.2.2.2.2.2.2.2.2.2.2.2.1),(33,.row 2 (Es (Cone.cells true) v17.2.2.2.2.2.2.2.2.2.2.2.2.1)),(34,.row 2 (Es (Cone.cells true) v17.2.2.2.2.2.2.2.2.2.2.2.2.2.1))],cnt:=13 }) Try.func48 rfl rfl rfl (by simp [Try.f48]) (by simp) (Q4u (by simp)) (newI (by rfl)) fun F hN hP=>?_) ?_
   ·clear h;have h:=hv17;clear hv17;refine Q0 (Qg [] mo (by rw [hN];decide) fun K hK=>?_);simp;(repeat refine sdQ ?_);refine hK _ ?_;clear hK K;refine tn (Q4 (st':=⟨[(0,.adr 0 0 0),(1,.adr 11 0 0)],Y0 b7 [],22⟩) (Wk.rP _ [(0,0),(1,1),(2,2),(3,3),(4,4),(5,5),(6,6),(7,7),(8,8),(9,9),(10,10),(11,11),(12,12),(13,13),(14,14),(15,15),(16,16),(17,17),(18,18),(19,19),(20,20),(21,21)] hP (by rfl) (by simp [hhOk,back,Cat.cells,Fn.cells,XMoved.cells,UA,U1,IA,I1,LA,L1,BA,B1,EA,E1,E2,eB,eI,eL,Q9 _ QF _ (fun _=>rfl),Q9 _ (Cone.cells true) _ (fun _=>rfl)])) (Q0 (Qg [] mo (by rw [hN];decide) fun K hK=>?_)));simp;(repeat with_reducible refine sdQ ?_);replace ⟨v12,hv12,h⟩:=bind_some h
    refine Qy (fz:=[]) (Q4X _ _ v12 hv12) (.cons (.field rfl (by simp [Cat.cells,Fn.cells]) (.cons .val (.cons .w (.cons .w (.cons .w (.cons .w (.cons .val (.cons .w (.cons .w (.cons .w (.cons .w (.cons .w (.cons .w .nil))))))))))))) (.cons (.field rfl (by simp [Cat.cells,Fn.cells]) (.cons .val (.cons .w (.cons .w (.cons .w (.cons .w (.cons .val (.cons .w (.cons .w (.cons .w (.cons .w (.cons .w (.cons .w .nil))))))))))))) .nil)) ?_;simp;(repeat refine sdQ ?_);refine hK _ (tn ?_);clear hK K
    refine Q4 (st':=⟨[(6,.adr 22 0 0)],Y0 b7 (Yy b7 v12 []),33⟩) (Wk.rP _ [(0,0),(1,1),(2,2),(3,3),(4,4),(5,5),(6,6),(7,7),(8,8),(9,9),(10,10),(11,11),(12,12),(13,13),(14,14),(15,15),(16,16),(17,17),(18,18),(19,19),(20,20),(21,21),(34,22),(23,23),(24,24),(25,25),(26,26),(28,27),(29,28),(30,29),(31,30),(32,31),(33,32)] hP (by rfl) (by simp [hhOk,back,Cat.cells,Fn.cells,XMoved.cells,UA,U1,IA,I1,LA,L1,BA,B1,EA,E1,E2,eB,eI,eL,Q9 _ QF _ (fun _=>rfl),Q9 _ (Cone.cells true) _ (fun _=>rfl)])) ?_
    refine Q0 (Qg [] mo (by rw [hN];decide) fun K hK=>?_);simp;(repeat refine sdQ ?_);refine hK _ (tn ?_);clear hK K
    refine Q4 (st':=⟨[(6,.adr 22 0 0)],Y0 b7 (Yy b7 v12 []),33⟩) (Wk.rP _ [(0,0),(1,1),(2,2),(3,3),(4,4),(5,5),(6,6),(7,7),(8,8),(9,9),(10,10),(11,11),(12,12),(13,13),(14,14),(15,15),(16,16),(17,17),(18,18),(19,19),(20,20),(21,21),(22,22),(23,23),(24,24),(25,25),(26,26),(27,27),(28,28),(29,29),(30,30),(31,31),(32,32)] hP (by rfl) (by simp [hhOk,back,Cat.cells,Fn.cells,XMoved.cells,UA,U1,IA,I1,LA,L1,BA,B1,EA,E1,E2,eB,eI,eL,Q9 _ QF _ (fun _=>rfl),Q9 _ (Cone.cells true) _ (fun _=>rfl)])) ?_
    refine Q0 (Qg [] mo (by rw [hN];decide) fun K hK=>?_);simp;(repeat with_reducible refine sdQ ?_);replace ⟨v13,hv13,h⟩:=bind_some h;refine Qy (fz:=[]) (Q4Q _ v13 hv13) (.cons (.field rfl (by simp [Cat.cells,Fn.cells]) (.cons .val (.cons .w (.cons .w (.cons .w (.cons .w (.cons .val (.cons .w (.cons .w (.cons .w (.cons .w (.cons .w (.cons .w .nil))))))))))))) .nil) ?_;simp;(repeat refine sdQ ?_);refine hK _ (tn ?_);clear hK K
    refine Q4 (st':=⟨[(6,.adr 22 0 0),(7,.val (.bool v13.2))],Y0 b7 [(22,.mix 27 [(Y0A b7 (Y0B v12 [.own 33 0 v13.1.length,nS]))]),(23,rI v12.s.fr),(24,rI v12.s.to),(25,rI v12.s.id),(26,.row 1 (Ls v12.s.cs)),(27,rI v12.t.fr),(28,rI v12.t.to),(29,rI v12.t.id),(30,.row 1 (Ls v12.t.cs)),(31,rI v12.ob),(32,rI v12.ar),(33,.row 2 (Es (Cone.cells true) v13.1))],34⟩) (Wk.rP _ [(0,0),(1,1),(2,2),(3,3),(4,4),(5,5),(6,6),(7,7),(8,8),(9,9),(10,10),(11,11),(12,12),(13,13),(14,14),(15,15),(16,16),(17,17),(18,18),(19,19),(20,20),(21,21),(22,22),(23,23),(24,24),(25,25),(26,26),(27,27),(28,28),(29,29),(30,30),(31,31),(32,32),(33,33)] hP (by rfl) (by simp [hhOk,back,Cat.cells,Fn.cells,XMoved.cells,UA,U1,IA,I1,LA,L1,BA,B1,EA,E1,E2,eB,eI,eL,Q9 _ QF _ (fun _=>rfl),Q9 _ (Cone.cells true) _ (fun _=>rfl)])) ?_
    refine Q0 (Qg [] mo (by rw [hN];decide) fun K hK=>?_);simp;(repeat with_reducible refine sdQ ?_);replace ⟨v14,hv14,h⟩:=bind_some h;refine Qy (fz:=[]) (Q4Q _ v14 hv14) (.cons (.field rfl (by simp [Cat.cells,Fn.cells]) (.cons .val (.cons .w (.cons .w (.cons .w (.cons .w (.cons .val (.cons .w (.cons .w (.cons .w (.cons .w (.cons .w (.cons .w .nil))))))))))))) .nil) ?_;simp;(repeat refine sdQ ?_);refine hK _ (tn ?_);clear hK K
    refine Q4 (st':=⟨[(6,.adr 22 0 0),(7,.val (.bool v13.2)),(8,.val (.bool v14.2))],Y0 b7 (Y7 b7 v12 v13 v14 []),35⟩) (Wk.rP _ [(0,0),(1,1),(2,2),(3,3),(4,4),(5,5),(6,6),(7,7),(8,8),(9,9),(10,10),(11,11),(12,12),(13,13),(14,14),(15,15),(16,16),(17,17),(18,18),(19,19),(20,20),(21,21),(22,22),(23,23),(24,24),(25,25),(26,26),(27,27),(28,28),(29,29),(30,30),(31,31),(32,32),(33,33),(34,34)] hP (by rfl) (by simp [hhOk,back,Cat.cells,Fn.cells,XMoved.cells,UA,U1,IA,I1,LA,L1,BA,B1,EA,E1,E2,eB,eI,eL,Q9 _ QF _ (fun _=>rfl),Q9 _ (Cone.cells true) _ (fun _=>rfl)])) ?_
    refine Q0 ?_;replace ⟨e15,h,h15⟩:=bind_some h;refine Qd (fun b15:Bool=>⟨[(4,.adr 22 0 0),(5,.val (.bool b15))],Y0 b7 (Y7 b7 v12 v13 v14 []),35⟩) (fun b15=>b15=e15) ?_ ?_
    ·refine Qg [] mo (by rw [hN];decide) fun K hK=>?_;simp;(repeat with_reducible refine sdQ ?_);refine Q2f (fun g=>?_) (fun g=>?_)
     ·have g16:v13.2=true:=gQ;clear g;replace h:=if_l g16 h;simp;(repeat refine sdQ ?_);refine hK _ ?_;exact jn (b:=v14.2) (Option.some.inj h) (Wk.rP _ [(0,0),(1,1),(2,2),(3,3),(4,4),(5,5),(6,6),(7,7),(8,8),(9,9),(10,10),(11,11),(12,12),(13,13),(14,14),(15,15),(16,16),(17,17),(18,18),(19,19),(20,20),(21,21),(22,22),(23,23),(24,24),(25,25),(26,26),(27,27),(28,28),(29,29),(30,30),(31,31),(32,32),(33,33),(34,34)] hP (by rfl) (by simp [hhOk,back,Cat.cells,Fn.cells,XMoved.cells,UA,U1,IA,I1,LA,L1,BA,B1,EA,E1,E2,eB,eI,eL,Q9 _ QF _ (fun _=>rfl),Q9 _ (Cone.cells true) _ (fun _=>rfl)]))
     have g16:¬ (v13.2=true):=gQ;clear g;replace h:=if_r g16 h;simp;(repeat refine sdQ ?_);refine hK _ ?_;exact jn (b:=false) (Option.some.inj h) (Wk.rP _ [(0,0),(1,1),(2,2),(3,3),(4,4),(5,5),(6,6),(7,7),(8,8),(9,9),(10,10),(11,11),(12,12),(13,13),(14,14),(15,15),(16,16),(17,17),(18,18),(19,19),(20,20),(21,21),(22,22),(23,23),(24,24),(25,25),(26,26),(27,27),(28,28),(29,29),(30,30),(31,31),(32,32),(33,33),(34,34)] hP (by rfl) (by simp [hhOk,back,Cat.cells,Fn.cells,XMoved.cells,UA,U1,IA,I1,LA,L1,BA,B1,EA,E1,E2,eB,eI,eL,Q9 _ QF _ (fun _=>rfl),Q9 _ (Cone.cells true) _ (fun _=>rfl)]))
    intro b15 hb15;have h:=h15;(try rw [← hb15] at h);clear h15;(try dsimp only at h);refine Qe ?_;cases h
    first|refine iw_r (st':=⟨[(4,.adr 22 0 0),(5,.val (.bool b15))],Y0 b7 (Y7 b7 v12 v13 v14 []),35⟩) ?_ ?_|refine iw_n (st':=⟨[(4,.adr 22 0 0),(5,.val (.bool b15))],Y0 b7 (Y7 b7 v12 v13 v14 []),35⟩) ?_ ?_
    ·exact Wk.rP _ [(0,0),(1,1),(2,2),(3,3),(4,4),(5,5),(6,6),(7,7),(8,8),(9,9),(10,10),(11,11),(12,12),(13,13),(14,14),(15,15),(16,16),(17,17),(18,18),(19,19),(20,20),(21,21),(22,22),(23,23),(24,24),(25,25),(26,26),(27,27),(28,28),(29,29),(30,30),(31,31),(32,32),(33,33),(34,34)] hP (by rfl) (by simp [hhOk,back,Cat.cells,Fn.cells,XMoved.cells,UA,U1,IA,I1,LA,L1,BA,B1,EA,E1,E2,eB,eI,eL,Q9 _ QF _ (fun _=>rfl),Q9 _ (Cone.cells true) _ (fun _=>rfl)])
    exact ⟨by simp [Qt],by simp,by simp [Cat.cells,Fn.cells,XMoved.cells]⟩
   simp;(repeat refine sdQ ?_);refine hK _ (tn ?_);clear hK K
   refine Q4 (st':=⟨[(10,.adr 0 0 0),(11,.val (.bool v17.2.2.2.2.2.2.2.2.2.2.2.2.2.2))],(0,.mix 27 [(Y0A b7 [iV v17.1,.own 11 0 v17.2.1.length,.own 12 0 v17.2.2.1.length,.own 13 0 v17.2.2.2.1.length,.own 14 0 v17.2.2.2.2.1.length,iV v17.2.2.2.2.2.1,.own 15 0 v17.2.2.2.2.2.2.1.length,.own 16 0 v17.2.2.2.2.2.2.2.1.length,.own 17 0 v17.2.2.2.2.2.2.2.2.1.length,.own 18 0 v17.2.2.2.2.2.2.2.2.2.1.length,.own 19 0 v17.2.2.2.2.2.2.2.2.2.2.1.length,.own 20 0 v17.2.2.2.2.2.2.2.2.2.2.2.1.length,.adr 21 0 0,.own 32 0 v17.2.2.2.2.2.2.2.2.2.2.2.2.1.length,.own 33 0 v17.2.2.2.2.2.2.2.2.2.2.2.2.2.1.length])])::YB b7 ((11,rI v17.2.1)::(12,rI v17.2.2.1)::(13,rI v17.2.2.2.1)::(14,.row 1 (Ls v17.2.2.2.2.1))::(15,rI v17.2.2.2.2.2.2.1)::(16,rI v17.2.2.2.2.2.2.2.1)::(17,rI v17.2.2.2.2.2.2.2.2.1)::(18,.row 1 (Ls v17.2.2.2.2.2.2.2.2.2.1))::(19,rI v17.2.2.2.2.2.2.2.2.2.2.1)::(20,rI v17.2.2.2.2.2.2.2.2.2.2.2.1)::Y3 b7 [(32,.row 2 (Es (Cone.cells true) v17.2.2.2.2.2.2.2.2.2.2.2.2.1)),(33,.row 2 (Es (Cone.cells true) v17.2.2.2.2.2.2.2.2.2.2.2.2.2.1))]),34⟩) (QR [(22,0),(1,1),(2,2),(3,3),(4,4),(5,5),(6,6),(7,7),(8,8),(9,9),(10,10),(23,11),(24,12),(25,13),(26,14),(27,15),(28,16),(29,17),(30,18),(31,19),(32,20),(11,21),(12,22),(13,23),(14,24),(15,25),(16,26),(17,27),(18,28),(19,29),(20,30),(21,31),(33,32),(34,33)]) ?_
   refine Q0 (Q0 (Qg [] mo (by rw [hN];decide) fun K hK=>?_));simp;(repeat refine sdQ ?_);refine hK _ ?_;clear hK K;refine tn (Q6 rfl (fun g=>?_) fun g=>?_)
   ·have g18:¬ (v17.2.2.2.2.2.2.2.2.2.2.2.2.2.2=true):=gQ;clear g;replace h:=if_l g18 h;refine Q0 (Qg [] mo (by rw [hN];decide) fun K hK=>?_);simp;(repeat refine sdQ ?_);refine hK _ (tn (Q4 (st':=⟨Y0k [(7,iV 3)],[],0⟩) (QR []) (Qe (tr ?_))));clear hK K;cases h;(try dsimp only);first|refine iw_r (st':=⟨Y0k [(7,iV 3)],[],0⟩) ?_ ?_|refine iw_n (st':=⟨Y0k [(7,iV 3)],[],0⟩) ?_ ?_
    ·exact Wk.r1 [] (by simp [hP,hhOk,back,Cat.cells,Fn.cells,XMoved.cells,UA,U1,IA,I1,LA,L1,BA,B1,EA,E1,E2,eB,eI,eL,Q9 _ QF _ (fun _=>rfl),Q9 _ (Cone.cells true) _ (fun _=>rfl)])
    exact ⟨by simp [Qt],by simp,by simp [Cat.cells,Fn.cells,XMoved.cells]⟩
   have g18:¬ (¬ (v17.2.2.2.2.2.2.2.2.2.2.2.2.2.2=true)):=gQ;clear g;replace h:=if_r g18 h;refine Q7 (tn (Q0 (Qg [] mo (by rw [hN];decide) fun K hK=>?_)));simp;(repeat refine sdQ ?_);refine hK _ (tn ?_);clear hK K
   refine Q4 (st':=⟨[(6,.adr 0 0 0),(7,iV 0)],(0,.mix 27 [(Y0A b7 [iV v17.1,.own 11 0 v17.2.1.length,.own 12 0 v17.2.2.1.length,.own 13 0 v17.2.2.2.1.length,.own 14 0 v17.2.2.2.2.1.length,iV v17.2.2.2.2.2.1,.own 15 0 v17.2.2.2.2.2.2.1.length,.own 16 0 v17.2.2.2.2.2.2.2.1.length,.own 17 0 v17.2.2.2.2.2.2.2.2.1.length,.own 18 0 v17.2.2.2.2.2.2.2.2.2.1.length,.own 19 0 v17.2.2.2.2.2.2.2.2.2.2.1.length,.own 20 0 v17.2.2.2.2.2.2.2.2.2.2.2.1.length,.adr 21 0 0,.own 32 0 v17.2.2.2.2.2.2.2.2.2.2.2.2.1.length,.own 33 0 v17.2.2.2.2.2.2.2.2.2.2.2.2.2.1.length])])::YB b7 ((11,rI v17.2.1)::(12,rI v17.2.2.1)::(13,rI v17.2.2.2.1)::(14,.row 1 (Ls v17.2.2.2.2.1))::(15,rI v17.2.2.2.2.2.2.1)::(16,rI v17.2.2.2.2.2.2.2.1)::(17,rI v17.2.2.2.2.2.2.2.2.1)::(18,.row 1 (Ls v17.2.2.2.2.2.2.2.2.2.1))::(19,rI v17.2.2.2.2.2.2.2.2.2.2.1)::(20,rI v17.2.2.2.2.2.2.2.2.2.2.2.1)::Y3 b7 [(32,.row 2 (Es (Cone.cells true) v17.2.2.2.2.2.2.2.2.2.2.2.2.1)),(33,.row 2 (Es (Cone.cells true) v17.2.2.2.2.2.2.2.2.2.2.2.2.2.1))]),34⟩) (Q2N 34) (Qe ?_);cases h;try dsimp only
   first|refine iw_r (st':=⟨[(6,.adr 0 0 0),(7,iV 0)],(0,.mix 27 [(Y0A b7 [iV v17.1,.own 11 0 v17.2.1.length,.own 12 0 v17.2.2.1.length,.own 13 0 v17.2.2.2.1.length,.own 14 0 v17.2.2.2.2.1.length,iV v17.2.2.2.2.2.1,.own 15 0 v17.2.2.2.2.2.2.1.length,.own 16 0 v17.2.2.2.2.2.2.2.1.length,.own 17 0 v17.2.2.2.2.2.2.2.2.1.length,.own 18 0 v17.2.2.2.2.2.2.2.2.2.1.length,.own 19 0 v17.2.2.2.2.2.2.2.2.2.2.1.length,.own 20 0 v17.2.2.2.2.2.2.2.2.2.2.2.1.length,.adr 21 0 0,.own 32 0 v17.2.2.2.2.2.2.2.2.2.2.2.2.1.length,.own 33 0 v17.2.2.2.2.2.2.2.2.2.2.2.2.2.1.length])])::YB b7 ((11,rI v17.2.1)::(12,rI v17.2.2.1)::(13,rI v17.2.2.2.1)::(14,.row 1 (Ls v17.2.2.2.2.1))::(15,rI v17.2.2.2.2.2.2.1)::(16,rI v17.2.2.2.2.2.2.2.1)::(17,rI v17.2.2.2.2.2.2.2.2.1)::(18,.row 1 (Ls v17.2.2.2.2.2.2.2.2.2.1))::(19,rI v17.2.2.2.2.2.2.2.2.2.2.1)::(20,rI v17.2.2.2.2.2.2.2.2.2.2.2.1)::Y3 b7 [(32,.row 2 (Es (Cone.cells true) v17.2.2.2.2.2.2.2.2.2.2.2.2.1)),(33,.row 2 (Es (Cone.cells true) v17.2.2.2.2.2.2.2.2.2.2.2.2.2.1))]),34⟩) ?_ ?_|refine iw_n (st':=⟨[(6,.adr 0 0 0),(7,iV 0)],(0,.mix 27 [(Y0A b7 [iV v17.1,.own 11 0 v17.2.1.length,.own 12 0 v17.2.2.1.length,.own 13 0 v17.2.2.2.1.length,.own 14 0 v17.2.2.2.2.1.length,iV v17.2.2.2.2.2.1,.own 15 0 v17.2.2.2.2.2.2.1.length,.own 16 0 v17.2.2.2.2.2.2.2.1.length,.own 17 0 v17.2.2.2.2.2.2.2.2.1.length,.own 18 0 v17.2.2.2.2.2.2.2.2.2.1.length,.own 19 0 v17.2.2.2.2.2.2.2.2.2.2.1.length,.own 20 0 v17.2.2.2.2.2.2.2.2.2.2.2.1.length,.adr 21 0 0,.own 32 0 v17.2.2.2.2.2.2.2.2.2.2.2.2.1.length,.own 33 0 v17.2.2.2.2.2.2.2.2.2.2.2.2.2.1.length])])::YB b7 ((11,rI v17.2.1)::(12,rI v17.2.2.1)::(13,rI v17.2.2.2.1)::(14,.row 1 (Ls v17.2.2.2.2.1))::(15,rI v17.2.2.2.2.2.2.1)::(16,rI v17.2.2.2.2.2.2.2.1)::(17,rI v17.2.2.2.2.2.2.2.2.1)::(18,.row 1 (Ls v17.2.2.2.2.2.2.2.2.2.1))::(19,rI v17.2.2.2.2.2.2.2.2.2.2.1)::(20,rI v17.2.2.2.2.2.2.2.2.2.2.2.1)::Y3 b7 [(32,.row 2 (Es (Cone.cells true) v17.2.2.2.2.2.2.2.2.2.2.2.2.1)),(33,.row 2 (Es (Cone.cells true) v17.2.2.2.2.2.2.2.2.2.2.2.2.2.1))]),34⟩) ?_ ?_
   ·exact Wk.r1 [(0,0),(1,1),(2,2),(3,3),(4,4),(5,5),(6,6),(7,7),(8,8),(9,9),(10,10),(11,11),(12,12),(13,13),(14,14),(15,15),(16,16),(17,17),(18,18),(19,19),(20,20),(21,21),(22,22),(23,23),(24,24),(25,25),(26,26),(27,27),(28,28),(29,29),(30,30),(31,31),(32,32),(33,33)] (by simp [hP,hhOk,back,Cat.cells,Fn.cells,XMoved.cells,UA,U1,IA,I1,LA,L1,BA,B1,EA,E1,E2,eB,eI,eL,Q9 _ QF _ (fun _=>rfl),Q9 _ (Cone.cells true) _ (fun _=>rfl)])
   exact ⟨by simp [Qt],by simp,by simp [Cat.cells,Fn.cells,XMoved.cells]⟩
  clear hv19;rcases v19 with v19|v19
  ·(try dsimp only at h);(try dsimp only);simp;(repeat refine sdQ ?_);refine hK _ ?_;clear hK K;refine tn (Q4 (st':=⟨[(3,.fn 19 []),(10,.val (.pointer none)),(11,iV v19)],[],0⟩) (QR []) (Q0 (Q0 (Qg [] mo (by rw [hN];decide) fun K hK=>?_))));simp;(repeat refine sdQ ?_);refine hK _ ?_;clear hK K;refine tn (Q6 rfl (fun g=>?_) fun g=>?_)
   ·have g20:¬ (v19=0):=gQ;clear g;replace h:=if_l g20 h;refine Q0 (Qg [] mo (by rw [hN];decide) fun K hK=>?_);simp;(repeat refine sdQ ?_);refine hK _ (tn (Q4 (st':=⟨[(8,.val (.bool false)),(9,iV v19)],[],0⟩) (QR []) (Qe (tr ?_))));clear hK K;cases h;first|refine iw_r (st':=⟨[(8,.val (.bool false)),(9,iV v19)],[],0⟩) ?_ ?_|refine iw_n (st':=⟨[(8,.val (.bool false)),(9,iV v19)],[],0⟩) ?_ ?_
    ·exact Wk.r1 [] (by simp [hP,hhOk,back,Cat.cells,Fn.cells,XMoved.cells,UA,U1,IA,I1,LA,L1,BA,B1,EA,E1,E2,eB,eI,eL,Q9 _ QF _ (fun _=>rfl),Q9 _ (Cone.cells true) _ (fun _=>rfl)])
    exact ⟨by simp [Qt],by simp,by simp [Cat.cells,Fn.cells,XMoved.cells]⟩
   have g20:¬ (¬ (v19=0)):=gQ;clear g;replace h:=if_r g20 h;refine Q7 (tn (Q0 (Qg [] mo (by rw [hN];decide) fun K hK=>?_)));exact (Q2 h).1.elim
  try dsimp only at h
  try dsimp only
  simp;repeat refine sdQ ?_
  refine hK _ (tn ?_);clear hK K
  refine Q4 (st':=⟨[(3,.fn 19 []),(10,.adr 0 0 0),(11,iV 0)],[(0,.mix 27 [[iV v19.1,.own 1 0 v19.2.1.length,.own 2 0 v19.2.2.1.length,.own 3 0 v19.2.2.2.1.length,.own 4 0 v19.2.2.2.2.1.length,iV v19.2.2.2.2.2.1,.own 5 0 v19.2.2.2.2.2.2.1.length,.own 6 0 v19.2.2.2.2.2.2.2.1.length,.own 7 0 v19.2.2.2.2.2.2.2.2.1.length,.own 8 0 v19.2.2.2.2.2.2.2.2.2.1.length,.own 9 0 v19.2.2.2.2.2.2.2.2.2.2.1.length,.own 10 0 v19.2.2.2.2.2.2.2.2.2.2.2.1.length,iV v19.2.2.2.2.2.2.2.2.2.2.2.2.1,.own 11 0 v19.2.2.2.2.2.2.2.2.2.2.2.2.2.1.length,.own 12 0 v19.2.2.2.2.2.2.2.2.2.2.2.2.2.2.1.length,.own 13 0 v19.2.2.2.2.2.2.2.2.2.2.2.2.2.2.2.1.length,.own 14 0 v19.2.2.2.2.2.2.2.2.2.2.2.2.2.2.2.2.1.length,iV v19.2.2.2.2.2.2.2.2.2.2.2.2.2.2.2.2.2.1,.own 15 0 v19.2.2.2.2.2.2.2.2.2.2.2.2.2.2.2.2.2.2.1.length,.own 16 0 v19.2.2.2.2.2.2.2.2.2.2.2.2.2.2.2.2.2.2.2.1.length,.own 17 0 v19.2.2.2.2.2.2.2.2.2.2.2.2.2.2.2.2.2.2.2.2.1.length,.own 18 0 v19.2.2.2.2.2.2.2.2.2.2.2.2.2.2.2.2.2.2.2.2.2.1.length,.own 19 0 v19.2.2.2.2.2.2.2.2.2.2.2.2.2.2.2.2.2.2.2.2.2.2.1.length,.own 20 0 v19.2.2.2.2.2.2.2.2.2.2.2.2.2.2.2.2.2.2.2.2.2.2.2.1.length,.adr 21 0 0,.own 32 0 v19.2.2.2.2.2.2.2.2.2.2.2.2.2.2.2.2.2.2.2.2.2.2.2.2.2.2.2.2.2.2.2.2.2.2.2.2.1.length,.own 33 0 v19.2.2.2.2.2.2.2.2.2.2.2.2.2.2.2.2.2.2.2.2.2.2.2.2.2.2.2.2.2.2.2.2.2.2.2.2.2.length]]),(1,rI v19.2.1),(2,rI v19.2.2.1),(3,rI v19.2.2.2.1),(4,.row 1 (Ls v19.2.2.2.2.1)),(5,rI v19.2.2.2.2.2.2.1),(6,rI v19.2.2.2.2.2.2.2.1),(7,rI v19.2.2.2.2.2.2.2.2.1),(8,.row 1 (Ls v19.2.2.2.2.2.2.2.2.2.1)),(9,rI v19.2.2.2.2.2.2.2.2.2.2.1),(10,rI v19.2.2.2.2.2.2.2.2.2.2.2.1),(11,rI v19.2.2.2.2.2.2.2.2.2.2.2.2.2.1),(12,rI v19.2.2.2.2.2.2.2.2.2.2.2.2.2.2.1),(13,rI v19.2.2.2.2.2.2.2.2.2.2.2.2.2.2.2.1),(14,.row 1 (Ls v19.2.2.2.2.2.2.2.2.2.2.2.2.2.2.2.2.1)),(15,rI v19.2.2.2.2.2.2.2.2.2.2.2.2.2.2.2.2.2.2.1),(16,rI v19.2.2.2.2.2.2.2.2.2.2.2.2.2.2.2.2.2.2.2.1),(17,rI v19.2.2.2.2.2.2.2.2.2.2.2.2.2.2.2.2.2.2.2.2.1),(18,.row 1 (Ls v19.2.2.2.2.2.2.2.2.2.2.2.2.2.2.2.2.2.2.2.2.2.1)),(19,rI v19.2.2.2.2.2.2.2.2.2.2.2.2.2.2.2.2.2.2.2.2.2.2.1),(20,rI v19.2.2.2.2.2.2.2.2.2.2.2.2.2.2.2.2.2.2.2.2.2.2.2.1),(21,.mix 12 [[iV v19.2.2.2.2.2.2.2.2.2.2.2.2.2.2.2.2.2.2.2.2.2.2.2.2.1,.own 22 0 v19.2.2.2.2.2.2.2.2.2.2.2.2.2.2.2.2.2.2.2.2.2.2.2.2.2.1.length,.own 23 0 v19.2.2.2.2.2.2.2.2.2.2.2.2.2.2.2.2.2.2.2.2.2.2.2.2.2.2.1.length,.own 24 0 v19.2.2.2.2.2.2.2.2.2.2.2.2.2.2.2.2.2.2.2.2.2.2.2.2.2.2.2.1.length,.own 25 0 v19.2.2.2.2.2.2.2.2.2.2.2.2.2.2.2.2.2.2.2.2.2.2.2.2.2.2.2.2.1.length,iV v19.2.2.2.2.2.2.2.2.2.2.2.2.2.2.2.2.2.2.2.2.2.2.2.2.2.2.2.2.2.1,.own 26 0 v19.2.2.2.2.2.2.2.2.2.2.2.2.2.2.2.2.2.2.2.2.2.2.2.2.2.2.2.2.2.2.1.length,.own 27 0 v19.2.2.2.2.2.2.2.2.2.2.2.2.2.2.2.2.2.2.2.2.2.2.2.2.2.2.2.2.2.2.2.1.length,.own 28 0 v19.2.2.2.2.2.2.2.2.2.2.2.2.2.2.2.2.2.2.2.2.2.2.2.2.2.2.2.2.2.2.2.2.1.length,.own 29 0 v19.2.2.2.2.2.2.2.2.2.2.2.2.2.2.2.2.2.2.2.2.2.2.2.2.2.2.2.2.2.2.2.2.2.1.length,.own 30 0 v19.2.2.2.2.2.2.2.2.2.2.2.2.2.2.2.2.2.2.2.2.2.2.2.2.2.2.2.2.2.2.2.2.2.2.1.length,.own 31 0 v19.2.2.2.2.2.2.2.2.2.2.2.2.2.2.2.2.2.2.2.2.2.2.2.2.2.2.2.2.2.2.2.2.2.2.2.1.length]]),(22,rI v19.2.2.2.2.2.2.2.2.2.2.2.2.2.2.2.2.2.2.2.2.2.2.2.2.2.1),(23,rI v19.2.2.2.2.2.2.2.2.2.2.2.2.2.2.2.2.2.2.2.2.2.2.2.2.2.2.1),(24,rI v19.2.2.2.2.2.2.2.2.2.2.2.2.2.2.2.2.2.2.2.2.2.2.2.2.2.2.2.1),(25,.row 1 (Ls v19.2.2.2.2.2.2.2.2.2.2.2.2.2.2.2.2.2.2.2.2.2.2.2.2.2.2.2.2.1)),(26,rI v19.2.2.2.2.2.2.2.2.2.2.2.2.2.2.2.2.2.2.2.2.2.2.2.2.2.2.2.2.2.2.1),(27,rI v19.2.2.2.2.2.2.2.2.2.2.2.2.2.2.2.2.2.2.2.2.2.2.2.2.2.2.2.2.2.2.2.1),(28,rI v19.2.2.2.2.2.2.2.2.2.2.2.2.2.2.2.2.2.2.2.2.2.2.2.2.2.2.2.2.2.2.2.2.1),(29,.row 1 (Ls v19.2.2.2.2.2.2.2.2.2.2.2.2.2.2.2.2.2.2.2.2.2.2.2.2.2.2.2.2.2.2.2.2.2.1)),(30,rI v19.2.2.2.2.2.2.2.2.2.2.2.2.2.2.2.2.2.2.2.2.2.2.2.2.2.2.2.2.2.2.2.2.2.2.1),(31,rI v19.2.2.2.2.2.2.2.2.2.2.2.2.2.2.2.2.2.2.2.2.2.2.2.2.2.2.2.2.2.2.2.2.2.2.2.1),(32,.row 2 (Es (Cone.cells true) v19.2.2.2.2.2.2.2.2.2.2.2.2.2.2.2.2.2.2.2.2.2.2.2.2.2.2.2.2.2.2.2.2.2.2.2.2.1)),(33,.row 2 (Es (Cone.cells true) v19.2.2.2.2.2.2.2.2.2.2.2.2.2.2.2.2.2.2.2.2.2.2.2.2.2.2.2.2.2.2.2.2.2.2.2.2.2))],34⟩) (Q2N 34) ?_
  refine Q0 (Q0 (Qg [] mo (by rw [hN];decide) fun K hK=>?_));simp;repeat refine sdQ ?_
  refine hK _ (tn (Q6 rfl (fun g=>by simp at g) fun _=>?_));clear hK K;refine Q7 (tn (Q0 (Qg [] mo (by rw [hN];decide) fun K hK=>?_)));simp;repeat with_reducible refine sdQ ?_
  replace ⟨v21,hv21,h⟩:=bind_some h;refine Qy (fz:=[]) (Q4F _ v21 hv21) (.cons (.field rfl (by simp [Cat.cells,Fn.cells,XMoved.cells]) (.cons .val (.cons .w (.cons .w (.cons .w (.cons .w (.cons .val (.cons .w (.cons .w (.cons .w (.cons .w (.cons .w (.cons .w (.cons .val (.cons .w (.cons .w (.cons .w (.cons .w (.cons .val (.cons .w (.cons .w (.cons .w (.cons .w (.cons .w (.cons .w (.cons (.field rfl (by simp [Cat.cells,Fn.cells,XMoved.cells]) (.cons .val (.cons .w (.cons .w (.cons .w (.cons .w (.cons .val (.cons .w (.cons .w (.cons .w (.cons .w (.cons .w (.cons .w .nil))))))))))))) (.cons .w (.cons .w .nil)))))))))))))))))))))))))))) .nil) ?_;simp;repeat refine sdQ ?_
  refine hK _ (tn (Q4 (st':=⟨[(8,.val (.bool v21)),(9,iV 0)],[],0⟩) (QR []) (Qe ?_)));clear hK K;cases h;first|refine iw_r (st':=⟨[(8,.val (.bool v21)),(9,iV 0)],[],0⟩) ?_ ?_|refine iw_n (st':=⟨[(8,.val (.bool v21)),(9,iV 0)],[],0⟩) ?_ ?_
  ·exact Wk.r1 [] (by simp [hP,hhOk,back,Cat.cells,Fn.cells,XMoved.cells,UA,U1,IA,I1,LA,L1,BA,B1,EA,E1,E2,eB,eI,eL,Q9 _ QF _ (fun _=>rfl),Q9 _ (Cone.cells true) _ (fun _=>rfl)])
  exact ⟨by simp [Qt],by simp,by simp [Cat.cells,Fn.cells,XMoved.cells]⟩
 simp;repeat refine sdQ ?_
 refine hK _ (tn (Q4 (st':=⟨[(4,.val (.bool v22.1)),(5,iV v22.2)],[],0⟩) (QR []) (Qe ?_)));clear hK K;have hr:=Option.some.inj h;rw [← hr];refine ⟨_,(.tmp (.tmp .nil)),?_⟩;refine ⟨(.one rfl rfl (.one rfl rfl .nil)),[.val (.bool v22.1),iV v22.2],[],by simp [Cat.cells,Fn.cells,XMoved.cells,UA,U1,IA,I1,LA,L1,BA,B1,EA,E1,E2,eB,eI,eL,Q9 _ QF _ (fun _=>rfl),Q9 _ (Cone.cells true) _ (fun _=>rfl)],by simp,(UpL.refl _)⟩
attribute [local simp] unk unA unE unT unC flat eL eI Qm Q1r Fn.cells
noncomputable def Q1g (d_:Fn) (f_:Fn):Option (Bool × Int) :=
 (Q1Q d_ f_).bind fun v1 =>
 if ¬ (v1.2=0) then
  some (false,v1.2)
 else
  (Q2I d_).bind fun v3 =>
  (Q2I v1.1).bind fun v4 =>
  (Q2I f_).bind fun v5 =>
  (Q1G v3 v4 v5).bind fun v6 =>
  some (v6.1,v6.2)
theorem Q48 (d_:Fn) (f_:Fn) (r:Bool × Int) (h:Q1g d_ f_=some r):Contract Try.prog 10 (Y0H d_ f_ []) (.tup [.val (.bool r.1),iV r.2]):=by
 refine Q8 (rvs:=[.tmp 4,.tmp 5]) (rs:=[.val (.bool r.1),iV r.2]) Try.func10 rfl rfl rfl rfl (by simp [Try.f10]) fun F hN hP=>?_;unfold Q1g at h;refine Q0 (runQ hN fun K hK=>?_);simp;repeat refine sdQ ?_
 refine hK _ ?_;clear hK K;refine tn (Q4 (st':=⟨YL [],Y8 d_ f_ [],2⟩) (QR [(0,0),(1,1)]) (Q0 (runQ hN fun K hK=>?_)));simp;repeat with_reducible refine sdQ ?_
 replace ⟨v1,hv1,h⟩:=bind_some h;refine Q1 (Q8j _ _ v1 hv1) (.cons (.aggL (.cons .val (.cons .lst (.cons .lst (.cons .lst (.cons .lst (.cons .val (.cons .lst (.cons .lst (.cons .lst (.cons .lst (.cons .lst (.cons .lst .nil))))))))))))) (.cons (.aggL (.cons .val (.cons .lst (.cons .lst (.cons .lst (.cons .lst (.cons .val (.cons .lst (.cons .lst (.cons .lst (.cons .lst (.cons .lst (.cons .lst .nil))))))))))))) .nil)) ?_;simp;repeat refine sdQ ?_
 refine hK _ ?_;clear hK K;refine tn (Q4 (st':=⟨YL [(6,.adr 2 0 0),(7,iV v1.2)],Y8 d_ f_ [(2,.mix 12 [[iV v1.1.s.n,.own 3 0 v1.1.s.fr.length,.own 4 0 v1.1.s.to.length,.own 5 0 v1.1.s.id.length,.own 6 0 v1.1.s.cs.length,iV v1.1.t.n,.own 7 0 v1.1.t.fr.length,.own 8 0 v1.1.t.to.length,.own 9 0 v1.1.t.id.length,.own 10 0 v1.1.t.cs.length,.own 11 0 v1.1.ob.length,.own 12 0 v1.1.ar.length]]),(3,rI v1.1.s.fr),(4,rI v1.1.s.to),(5,rI v1.1.s.id),(6,.row 1 (Ls v1.1.s.cs)),(7,rI v1.1.t.fr),(8,rI v1.1.t.to),(9,rI v1.1.t.id),(10,.row 1 (Ls v1.1.t.cs)),(11,rI v1.1.ob),(12,rI v1.1.ar)],13⟩) (QR [(0,0),(1,1),(15,2),(3,3),(4,4),(5,5),(6,6),(8,7),(9,8),(10,9),(11,10),(12,11),(13,12)]) (Q0 (Q0 (runQ hN fun K hK=>?_))));simp;repeat refine sdQ ?_
 refine hK _ ?_;clear hK K;refine tn (Q6 rfl (fun g=>?_) fun g=>?_)
 ·have g2:¬ (v1.2=0):=gQ;clear g;replace h:=if_l g2 h;refine Q0 (runQ hN fun K hK=>?_);simp;repeat refine sdQ ?_
  refine hK _ (tn (Q4 (st':=⟨[(4,.val (.bool false)),(5,iV v1.2)],[],0⟩) (QR []) (Qe (tr ?_))));clear hK K;have hr:=Option.some.inj h;rw [← hr];refine ⟨_,(.tmp (.tmp .nil)),?_⟩;refine ⟨(.one rfl rfl (.one rfl rfl .nil)),[.val (.bool false),iV v1.2],[],by simp [Fn.cells,UA,U1,IA,I1,LA,L1,BA,B1,EA,E1,E2,eB,eI,eL],by simp,(UpL.refl _)⟩
 have g2:¬ (¬ (v1.2=0)):=gQ;clear g;replace h:=if_r g2 h;refine Q7 (tn (Q0 (runQ hN fun K hK=>?_)));simp;repeat with_reducible refine sdQ ?_
 replace ⟨v3,hv3,h⟩:=bind_some h;refine Q1 (Q5D _ v3 hv3) (.cons (.aggL (.cons .val (.cons .lst (.cons .lst (.cons .lst (.cons .lst (.cons .val (.cons .lst (.cons .lst (.cons .lst (.cons .lst (.cons .lst (.cons .lst .nil))))))))))))) .nil) ?_;simp;repeat with_reducible refine sdQ ?_
 replace ⟨v4,hv4,h⟩:=bind_some h;refine Q1 (Q5D _ v4 hv4) (.cons (.aggL (.cons .val (.cons .w (.cons .w (.cons .w (.cons .w (.cons .val (.cons .w (.cons .w (.cons .w (.cons .w (.cons .w (.cons .w .nil))))))))))))) .nil) ?_;simp;repeat with_reducible refine sdQ ?_
 replace ⟨v5,hv5,h⟩:=bind_some h;refine Q1 (Q5D _ v5 hv5) (.cons (.aggL (.cons .val (.cons .lst (.cons .lst (.cons .lst (.cons .lst (.cons .val (.cons .lst (.cons .lst (.cons .lst (.cons .lst (.cons .lst (.cons .lst .nil))))))))))))) .nil) ?_;simp;repeat with_reducible refine sdQ ?_
 replace ⟨v6,hv6,h⟩:=bind_some h;refine Q1 (Q5N _ _ _ v6 hv6) (.cons (.aggL (.cons .val (.cons .w (.cons .w (.cons .w (.cons .w (.cons .val (.cons .w (.cons .w (.cons .w (.cons .w (.cons .w (.cons .w .nil))))))))))))) (.cons (.aggL (.cons .val (.cons .w (.cons .w (.cons .w (.cons .w (.cons .val (.cons .w (.cons .w (.cons .w (.cons .w (.cons .w (.cons .w .nil))))))))))))) (.cons (.aggL (.cons .val (.cons .w (.cons .w (.cons .w (.cons .w (.cons .val (.cons .w (.cons .w (.cons .w (.cons .w (.cons .w (.cons .w .nil))))))))))))) .nil))) ?_;simp;repeat refine sdQ ?_
 refine hK _ ?_;clear hK K;refine tn (Q4 (st':=⟨[(8,.val (.bool v6.1)),(9,iV v6.2)],[],0⟩) (QR []) (Q0 (runQ hN fun K hK=>?_)));simp;repeat refine sdQ ?_
 refine hK _ (tn (Q4 (st':=⟨[(4,.val (.bool v6.1)),(5,iV v6.2)],[],0⟩) (QR []) (Qe ?_)));clear hK K;have hr:=Option.some.inj h;rw [← hr];refine ⟨_,(.tmp (.tmp .nil)),?_⟩;refine ⟨(.one rfl rfl (.one rfl rfl .nil)),[.val (.bool v6.1),iV v6.2],[],by simp [Fn.cells,UA,U1,IA,I1,LA,L1,BA,B1,EA,E1,E2,eB,eI,eL],by simp,(UpL.refl _)⟩
section
attribute [local simp] Qf QG Qu Q15 QD
set_option maxHeartbeats 2000000 in
theorem Q4y (d f:Fn):∃ r,Q1g d f=some r∧Q1e d f=some r:=by
 obtain ⟨c1,c2⟩:=e_code14 d f;unfold Q1g Q1e
 by_cases h:d.Is∧f.Is
 case neg=>exact ⟨(false,1),by rw [(c1 h).1];simp,by rw [(c1 h).2];simp⟩
 obtain ⟨d1,d2,d3⟩:=c2 h
 by_cases h3:d.t=f.s
 case neg=>exact ⟨(false,5),by rw [(d2 h3).1];simp,by rw [d1,(d2 h3).2];simp⟩
 rw [(d3 h3).1,d1,(d3 h3).2];obtain ⟨hd,hf⟩:=h;simp only [Option.bind_some,not_true_eq_false,if_false];rw [(Q5b hd).1,(Q5b hf).1,(Q5b (Q4C hd hf h3)).1,(Q5b hd).2,(Q5b hf).2];simp only [Option.bind_some];have hd':=opF_is hd;have hf':=opF_is hf;have h3':(opF d).t=(opF f).s:=by show opC d.t=opC f.s;rw [h3]
 rw [opF_then];show ∃ r,_∧((((Q10 (opF d) (opF f)).bind _).bind _).bind _).bind _=_;rw [e_Fthen hd' hf' h3'];simp only [Option.bind_some];show ∃ r,_∧((((Q1v (opF d)).bind _).bind _).bind _).bind _=_;rw [e_sCrea hd' hf' h3',Q5S hd'];simp only [Option.bind_some];rw [Q5S (Q4C hd' hf' h3')]
 by_cases hc:(Q19 (opF d)).length≤400∧(Q19 (QO (opF d) (opF f))).length≤400
 case neg =>
  rw [if_neg hc];refine ⟨(false,3),by simp,?_⟩
  by_cases g1:(Q19 (opF d)).length≤400<;>by_cases g2:(Q19 (QO (opF d) (opF f))).length≤400<;>simp [g1,g2]
  exact absurd ⟨g1,g2⟩ hc
 rw [if_pos hc,if_pos hc.1,if_pos hc.2];refine ⟨_,rfl,?_⟩;simp only [Option.bind_some,not_true_eq_false,if_false,if_true];show ((QU ⟨opF d,QO (opF d) (opF f),opF f,Q19 (opF d),Q19 (QO (opF d) (opF f))⟩).bind _).bind _=_;rw [e_crea hd' hf' h3' (Q6e hd' hc.1) (Q6e (Q4C hd' hf' h3') hc.2)];simp
end
end Go.Vc.T
