/- A part of the proof: a verified generator of conditions, and what each function of the program does. -/
import Derived.Test.YtfinipknacaojaaGreatR9
set_option maxRecDepth 100000
set_option maxHeartbeats 4000000
set_option linter.unusedSimpArgs false
set_option linter.unusedVariables false

namespace Go.Vc.T
open Go Go.Vc Go.Proofs
attribute [local simp] eL eI Qm QI Q1x Q1H Cat.cells Fn.cells Mnd.cells
noncomputable def Q40 (m_:Mnd):Option Bool :=
 (
  (Q2X m_.f).bind fun v2 =>
  if ¬ (v2=true) then
   some true
  else
   (Q1Y m_.f.s m_.f.t).bind fun v4 =>
   some (!v4):Option (Bool)).bind fun b1 =>
 if b1=true then
  some false
 else
  (
   (Q20 m_.f.s).bind fun v7 =>
   (Q17 v7 m_.f m_.u).bind fun v8 =>
   if ¬ (v8=true) then
    some true
   else
    (Q39 m_.f).bind fun v10 =>
    (Q17 v10 m_.f m_.j).bind fun v11 =>
    some (!v11):Option (Bool)).bind fun b6 =>
  if b6=true then
   some false
  else
   (Q2Y m_.f m_.u m_.j).bind fun v13 =>
   some v13
theorem Qj {F : Fx} {st st' : St} (m : List (Nat × Nat)) (h : (m.map Prod.fst).Nodup ∧ (m.map Prod.snd).Nodup ∧ (∀ id, id < F.pins → look id m = some id) ∧ (∀ p ∈ m, p.2 < st'.n) ∧ (∀ p ∈ st'.h, p.1 < st'.n) ∧ (∀ p ∈ st'.s, p.2 = rl m (st.get p.1) ∨ p.2 = .bot) ∧ ∀ p ∈ st'.h, hhOk m st.h p.1 p.2 := by simp [hP, hhOk, back, Cat.cells, Fn.cells, Mnd.cells, UA, U1, IA, I1, LA, L1, BA, B1, EA, E1, E2, eB, eI, eL, XAlgebra.cells, Qn _ Q7 _ (fun _=>rfl), Ends.cells, XAlgebras.cells, Qn _ Qh _ (fun _=>rfl)]) : Wk F st st' := Wk.r1 m h
theorem w_s_l16Is (m_:Mnd) (r:Bool) (h:Q40 m_=some r):Contract Tryz.prog 77 [.agg (m_.cells true)] (.val (.bool r)):=by
 refine Qd (rvs:=[.tmp 2]) (rs:=[.val (.bool r)]) Tryz.func77 rfl rfl rfl rfl (by simp [Tryz.f77]) fun F hN hP=>?_;unfold Q40 at h;refine Q4 ?_;refine runQ hN fun K hK=>?_;simp [-Q0,-Q5,-Q1,-Q6,-Q2];repeat refine sdQ ?_
 refine hK _ ?_;clear hK K;refine tn ?_;refine Q9 (st':=⟨[(1,.adr 0 0 0)],[(0,.mix 14 [(Mnd.cells true m_)])],1⟩) (Qj [(0,0)]) ?_;refine Q4 ?_;refine runQ hN fun K hK=>?_;simp [-Q0,-Q5,-Q1,-Q6,-Q2];repeat refine sdQ ?_
 refine hK _ ?_;clear hK K;refine tn ?_;refine Q9 (st':=⟨[(1,.adr 0 0 0),(3,.adr 1 0 0)],[(0,.mix 14 [(Mnd.cells true m_)]),(1,.mix 12 [(Fn.cells true m_.f)])],2⟩) (Qj [(0,0),(1,1)]) ?_;refine Q4 ?_;refine Q4 ?_;replace h:=bind_some h;obtain ⟨e1,h,h1⟩:=h;refine Qk (fun b1:Bool=>⟨[(1,.adr 0 0 0),(3,.adr 1 0 0),(16,.val (.bool b1))],[(0,.mix 14 [(Mnd.cells true m_)]),(1,.mix 12 [(Fn.cells true m_.f)])],2⟩) (fun b1=>b1=e1) ?_ ?_
 ·refine runQ hN fun K hK=>?_;simp [-Q0,-Q5,-Q1,-Q6,-Q2];repeat with_reducible refine sdQ ?_
  replace h:=bind_some h;obtain ⟨v2,hv2,h⟩:=h;refine Q3 (Q6n _ v2 hv2) (.cons (.aggL (.cons .val (.cons .lst (.cons .lst (.cons .lst (.cons .lst (.cons .val (.cons .lst (.cons .lst (.cons .lst (.cons .lst (.cons .lst (.cons .lst .nil))))))))))))) .nil) ?_;simp [-Q0,-Q5,-Q1,-Q6,-Q2,unk,unA,unE,unT,unC,flat];repeat with_reducible refine sdQ ?_
  refine Qo (fun g=>?_) (fun g=>?_)
  ·have g3:¬ (¬ (v2=true)):=gQ;clear g;replace h:=if_r g3 h;simp [-Q0,-Q5,-Q1,-Q6,-Q2];(repeat with_reducible refine sdQ ?_);replace h:=bind_some h;obtain ⟨v4,hv4,h⟩:=h;refine Q3 (Q4K _ _ v4 hv4) (.cons (.aggL (.cons .val (.cons .lst (.cons .lst (.cons .lst (.cons .lst .nil)))))) (.cons (.aggL (.cons .val (.cons .lst (.cons .lst (.cons .lst (.cons .lst .nil)))))) .nil)) ?_;simp [-Q0,-Q5,-Q1,-Q6,-Q2,unk,unA,unE,unT,unC,flat];(repeat refine sdQ ?_);refine hK _ ?_;exact jn (b:=!v4) (Option.some.inj h) (Qj [(0,0),(1,1)])
  have g3:¬ (v2=true):=gQ;clear g;replace h:=if_l g3 h;simp [-Q0,-Q5,-Q1,-Q6,-Q2];repeat refine sdQ ?_
  refine hK _ ?_;exact jn (b:=true) (Option.some.inj h) (Qj [(0,0),(1,1)])
 intro b1 hb1;have h:=h1;try rw [← hb1] at h
 clear h1;try dsimp only at h
 refine Qe rfl (fun g=>?_) fun g=>?_
 ·have g5:b1=true:=gQ;clear g;replace h:=if_l g5 h;refine Q4 ?_;refine runQ hN fun K hK=>?_;simp [-Q0,-Q5,-Q1,-Q6,-Q2];repeat refine sdQ ?_
  refine hK _ ?_;clear hK K;refine tn ?_;refine Q9 (st':=⟨[(2,.val (.bool false))],[],0⟩) (Qj []) ?_;refine Qi ?_;refine tr ?_;have hr:=Option.some.inj h;rw [← hr];refine ⟨_,(.tmp .nil),?_⟩;refine ⟨(.one rfl rfl .nil),[.val (.bool false)],[],by simp [Cat.cells,Fn.cells,Mnd.cells,UA,U1,IA,I1,LA,L1,BA,B1,EA,E1,E2,eB,eI,eL],by simp,(UpL.refl _)⟩
 have g5:¬ (b1=true):=gQ;clear g;replace h:=if_r g5 h;refine Qf ?_;refine tn ?_;refine Q4 ?_;refine Q4 ?_;replace h:=bind_some h;obtain ⟨e6,h,h6⟩:=h;refine Qk (fun b6:Bool=>⟨[(1,.adr 0 0 0),(3,.adr 1 0 0),(33,.val (.bool b6))],[(0,.mix 14 [(Mnd.cells true m_)]),(1,.mix 12 [(Fn.cells true m_.f)])],2⟩) (fun b6=>b6=e6) ?_ ?_
 ·refine runQ hN fun K hK=>?_;simp [-Q0,-Q5,-Q1,-Q6,-Q2];repeat with_reducible refine sdQ ?_
  replace h:=bind_some h;obtain ⟨v7,hv7,h⟩:=h;refine Q3 (Q4M _ v7 hv7) (.cons (.aggL (.cons .val (.cons .lst (.cons .lst (.cons .lst (.cons .lst .nil)))))) .nil) ?_;simp [-Q0,-Q5,-Q1,-Q6,-Q2,unk,unA,unE,unT,unC,flat];repeat with_reducible refine sdQ ?_
  replace h:=bind_some h;obtain ⟨v8,hv8,h⟩:=h;refine Q3 (Q2r _ _ _ v8 hv8) (.cons (.aggL (.cons .val (.cons (.whole (by simp) (by simp) (by simp)) (.cons (.whole (by simp) (by simp) (by simp)) (.cons (.whole (by simp) (by simp) (by simp)) (.cons (.whole (by simp) (by simp) (by simp)) (.cons .val (.cons (.whole (by simp) (by simp) (by simp)) (.cons (.whole (by simp) (by simp) (by simp)) (.cons (.whole (by simp) (by simp) (by simp)) (.cons (.whole (by simp) (by simp) (by simp)) (.cons (.whole (by simp) (by simp) (by simp)) (.cons (.whole (by simp) (by simp) (by simp)) .nil))))))))))))) (.cons (.aggL (.cons .val (.cons .lst (.cons .lst (.cons .lst (.cons .lst (.cons .val (.cons .lst (.cons .lst (.cons .lst (.cons .lst (.cons .lst (.cons .lst .nil))))))))))))) (.cons .lst .nil))) ?_;simp [-Q0,-Q5,-Q1,-Q6,-Q2,unk,unA,unE,unT,unC,flat];repeat with_reducible refine sdQ ?_
  refine Qo (fun g=>?_) (fun g=>?_)
  ·have g9:¬ (¬ (v8=true)):=gQ;clear g;replace h:=if_r g9 h;simp [-Q0,-Q5,-Q1,-Q6,-Q2];(repeat with_reducible refine sdQ ?_);replace h:=bind_some h;obtain ⟨v10,hv10,h⟩:=h;refine Q3 (Q82 _ v10 hv10) (.cons (.aggL (.cons .val (.cons .lst (.cons .lst (.cons .lst (.cons .lst (.cons .val (.cons .lst (.cons .lst (.cons .lst (.cons .lst (.cons .lst (.cons .lst .nil))))))))))))) .nil) ?_;simp [-Q0,-Q5,-Q1,-Q6,-Q2,unk,unA,unE,unT,unC,flat];(repeat with_reducible refine sdQ ?_);replace h:=bind_some h;obtain ⟨v11,hv11,h⟩:=h;refine Q3 (Q2r _ _ _ v11 hv11) (.cons (.aggL (.cons .val (.cons (.whole (by simp) (by simp) (by simp)) (.cons (.whole (by simp) (by simp) (by simp)) (.cons (.whole (by simp) (by simp) (by simp)) (.cons (.whole (by simp) (by simp) (by simp)) (.cons .val (.cons (.whole (by simp) (by simp) (by simp)) (.cons (.whole (by simp) (by simp) (by simp)) (.cons (.whole (by simp) (by simp) (by simp)) (.cons (.whole (by simp) (by simp) (by simp)) (.cons (.whole (by simp) (by simp) (by simp)) (.cons (.whole (by simp) (by simp) (by simp)) .nil))))))))))))) (.cons (.aggL (.cons .val (.cons .lst (.cons .lst (.cons .lst (.cons .lst (.cons .val (.cons .lst (.cons .lst (.cons .lst (.cons .lst (.cons .lst (.cons .lst .nil))))))))))))) (.cons .lst .nil))) ?_;simp [-Q0,-Q5,-Q1,-Q6,-Q2,unk,unA,unE,unT,unC,flat];(repeat refine sdQ ?_);refine hK _ ?_;exact jn (b:=!v11) (Option.some.inj h) (Qj [(0,0),(1,1)])
  have g9:¬ (v8=true):=gQ;clear g;replace h:=if_l g9 h;simp [-Q0,-Q5,-Q1,-Q6,-Q2];repeat refine sdQ ?_
  refine hK _ ?_;exact jn (b:=true) (Option.some.inj h) (Qj [(0,0),(1,1)])
 intro b6 hb6;have h:=h6;try rw [← hb6] at h
 clear h6;try dsimp only at h
 refine Qe rfl (fun g=>?_) fun g=>?_
 ·have g12:b6=true:=gQ;clear g;replace h:=if_l g12 h;refine Q4 ?_;refine runQ hN fun K hK=>?_;simp [-Q0,-Q5,-Q1,-Q6,-Q2];repeat refine sdQ ?_
  refine hK _ ?_;clear hK K;refine tn ?_;refine Q9 (st':=⟨[(2,.val (.bool false))],[],0⟩) (Qj []) ?_;refine Qi ?_;refine tr ?_;have hr:=Option.some.inj h;rw [← hr];refine ⟨_,(.tmp .nil),?_⟩;refine ⟨(.one rfl rfl .nil),[.val (.bool false)],[],by simp [Cat.cells,Fn.cells,Mnd.cells,UA,U1,IA,I1,LA,L1,BA,B1,EA,E1,E2,eB,eI,eL],by simp,(UpL.refl _)⟩
 have g12:¬ (b6=true):=gQ;clear g;replace h:=if_r g12 h;refine Qf ?_;refine tn ?_;refine Q4 ?_;refine runQ hN fun K hK=>?_;simp [-Q0,-Q5,-Q1,-Q6,-Q2];repeat with_reducible refine sdQ ?_
 replace h:=bind_some h;obtain ⟨v13,hv13,h⟩:=h;refine Q3 (Q8J _ _ _ v13 hv13) (.cons (.aggL (.cons .val (.cons .lst (.cons .lst (.cons .lst (.cons .lst (.cons .val (.cons .lst (.cons .lst (.cons .lst (.cons .lst (.cons .lst (.cons .lst .nil))))))))))))) (.cons .lst (.cons .lst .nil))) ?_;simp [-Q0,-Q5,-Q1,-Q6,-Q2,unk,unA,unE,unT,unC,flat];repeat refine sdQ ?_
 refine hK _ ?_;clear hK K;refine tn ?_;refine Q9 (st':=⟨[(2,.val (.bool v13))],[],0⟩) (Qj []) ?_;refine Qi ?_;have hr:=Option.some.inj h;rw [← hr];refine ⟨_,(.tmp .nil),?_⟩;refine ⟨(.one rfl rfl .nil),[.val (.bool v13)],[],by simp [Cat.cells,Fn.cells,Mnd.cells,UA,U1,IA,I1,LA,L1,BA,B1,EA,E1,E2,eB,eI,eL],by simp,(UpL.refl _)⟩
structure Mnd.Pre (m:Mnd):Prop where
 f:m.f.Is
 e:m.f.s=m.f.t
 n1:NatT (Q1P m.f.s) m.f m.u
 n2:NatT (Q1c m.f m.f) m.f m.j
structure Mnd.Is (m:Mnd):Prop where
 pre:m.Pre
 l1:∀ x:Nat,x<m.f.ob.length→ix (rx m.f.s.cs (ix m.f.ar (ix m.u x))) (ix m.j x)=ix m.f.s.id (ix m.f.ob x)∧ix (rx m.f.s.cs (ix m.u (ix m.f.ob x))) (ix m.j x)=ix m.f.s.id (ix m.f.ob x)
 l2:∀ x:Nat,x<m.f.ob.length→ix (rx m.f.s.cs (ix m.f.ar (ix m.j x))) (ix m.j x)=ix (rx m.f.s.cs (ix m.j (ix m.f.ob x))) (ix m.j x)
theorem Mnd.Pre.len {m:Mnd} (h:m.Pre):m.u.length=m.f.ob.length∧m.j.length=m.f.ob.length∧(m.f.ob.length:Int)=m.f.s.n∧m.f.ar.length=m.f.s.fr.length∧(m.f.s.id.length:Int)=m.f.s.n∧m.f.s.cs.length=m.f.s.fr.length∧m.f.s.to.length=m.f.s.fr.length∧m.f.s.fr.length≤40∧m.f.ob.length≤8:=by
 have h1:=h.n1.lp;have h2:=h.n2.lp;have h3:=h.f.lo;have h5:=h.f.la;have h6:=h.f.s.1.li;simp only [Q1P,Q1c,Q62,Q44] at h1 h2;exact ⟨by omega,by omega,h3,h5,h6,h.f.s.1.lc,h.f.s.1.lt,h.f.s.1.m40,h.f.lob⟩
theorem Mnd.Pre.ob {m:Mnd} (h:m.Pre) {x:Int} (h0:0≤x) (h1:x<m.f.ob.length):0≤ix m.f.ob x∧ix m.f.ob x<m.f.ob.length:=by
 have:=Q64 h.f.ob h0 h1;rw [← h.e,← h.f.lo] at this;exact this
theorem Mnd.Pre.ar {m:Mnd} (h:m.Pre) {f:Int} (h0:0≤f) (h1:f<m.f.s.fr.length):(0≤ix m.f.ar f∧ix m.f.ar f<m.f.s.fr.length)∧ix m.f.s.fr (ix m.f.ar f)=ix m.f.ob (ix m.f.s.fr f)∧ix m.f.s.to (ix m.f.ar f)=ix m.f.ob (ix m.f.s.to f):=by
 have hla:=h.f.la;have q1:=h.f.ar;have q2:=h.f.ends;rw [← h.e] at q1 q2;obtain ⟨i,rfl⟩:∃ i:Nat,f=i:=⟨f.toNat,by omega⟩;exact ⟨q1 i (by omega),q2 i (by omega)⟩
theorem Mnd.Pre.unit {m:Mnd} (h:m.Pre) {x:Int} (h0:0≤x) (h1:x<m.f.ob.length):(0≤ix m.u x∧ix m.u x<m.f.s.fr.length)∧ix m.f.s.fr (ix m.u x)=x∧ix m.f.s.to (ix m.u x)=ix m.f.ob x:=by
 obtain ⟨l1,l2,l3,l4,l5,l6,l7,l8,l9⟩:=h.len;obtain ⟨i,rfl⟩:∃ i:Nat,x=i:=⟨x.toNat,by omega⟩;have q1:=h.n1.bd i (by omega);have q2:=h.n1.ends i (by omega);simp only [Q1P] at q1 q2;rw [Q2a _ (by omega) (by omega)] at q2;exact ⟨q1,q2⟩
theorem Mnd.Pre.join {m:Mnd} (h:m.Pre) {x:Int} (h0:0≤x) (h1:x<m.f.ob.length):(0≤ix m.j x∧ix m.j x<m.f.s.fr.length)∧ix m.f.s.fr (ix m.j x)=ix m.f.ob (ix m.f.ob x)∧ix m.f.s.to (ix m.j x)=ix m.f.ob x:=by
 obtain ⟨l1,l2,l3,l4,l5,l6,l7,l8,l9⟩:=h.len;obtain ⟨i,rfl⟩:∃ i:Nat,x=i:=⟨x.toNat,by omega⟩;have q1:=h.n2.bd i (by omega);have q2:=h.n2.ends i (by omega);simp only [Q1c] at q1 q2;rw [← h.e] at q1 q2;rw [Q1f _ _ (by omega) (by omega)] at q2;exact ⟨q1,q2⟩
theorem Cat.Is.two {c:Cat} (h:c.Is) {f g:Int} (f0:0≤f∧f<c.fr.length) (g0:0≤g∧g<c.fr.length) (e:ix c.to f=ix c.fr g):(0≤ix (rx c.cs f) g∧ix (rx c.cs f) g<c.fr.length)∧ix c.fr (ix (rx c.cs f) g)=ix c.fr f∧ix c.to (ix (rx c.cs f) g)=ix c.to g:=by
 have:=(h.1.cell' f0.1 f0.2 g0.1 g0.2).2 e;exact ⟨⟨this.1,this.2.1⟩,this.2.2⟩
theorem Q2t {c:Cat} (h:c.Is) {f g:Int} (f0:0≤f∧f<c.fr.length) (g0:0≤g∧g<c.fr.length):QF c f g=some (ix (rx c.cs f) g)∧Qu c f g=some (ix (rx c.cs f) g):=by
 have h1:=h.1.lc;have h2:=h.1.row' f0.1 f0.2;exact ⟨Q3P (by omega) (by omega),Q5g (by omega) (by omega)⟩
theorem Q2F {c:Cat} (h:c.Is) {f x:Int} (f0:0≤f∧f<c.fr.length) (e:ix c.fr f=x):Q1q c f=some (bo (f=ix c.id x)):=by rw [Q5W h f0.1 f0.2,e]
theorem mpara1 {f:Fn} (h:f.Is) (e:f.s=f.t):Para (Q1P f.s) f:=⟨Q8y h.s,h,rfl,by simp [Q1P,e]⟩
theorem mpara2 {f:Fn} (h:f.Is) (e:f.s=f.t):Para (Q1c f f) f:=⟨Q6j h h e.symm,h,rfl,by simp [Q1c]⟩
structure Mnd.At (m:Mnd) (x:Int):Prop where
 o:0≤ix m.f.ob x∧ix m.f.ob x<m.f.ob.length
 u:0≤ix m.u x∧ix m.u x<m.f.s.fr.length
 j:0≤ix m.j x∧ix m.j x<m.f.s.fr.length
 au:0≤ix m.f.ar (ix m.u x)∧ix m.f.ar (ix m.u x)<m.f.s.fr.length
 uo:0≤ix m.u (ix m.f.ob x)∧ix m.u (ix m.f.ob x)<m.f.s.fr.length
 aj:0≤ix m.f.ar (ix m.j x)∧ix m.f.ar (ix m.j x)<m.f.s.fr.length
 jo:0≤ix m.j (ix m.f.ob x)∧ix m.j (ix m.f.ob x)<m.f.s.fr.length
 c1:(0≤ix (rx m.f.s.cs (ix m.f.ar (ix m.u x))) (ix m.j x)∧ix (rx m.f.s.cs (ix m.f.ar (ix m.u x))) (ix m.j x)<m.f.s.fr.length)∧ix m.f.s.fr (ix (rx m.f.s.cs (ix m.f.ar (ix m.u x))) (ix m.j x))=ix m.f.ob x
 c2:(0≤ix (rx m.f.s.cs (ix m.u (ix m.f.ob x))) (ix m.j x)∧ix (rx m.f.s.cs (ix m.u (ix m.f.ob x))) (ix m.j x)<m.f.s.fr.length)∧ix m.f.s.fr (ix (rx m.f.s.cs (ix m.u (ix m.f.ob x))) (ix m.j x))=ix m.f.ob x
theorem Mnd.Pre.at {m:Mnd} (h:m.Pre) {x:Int} (h0:0≤x) (h1:x<m.f.ob.length):m.At x:=by
 have o:=h.ob h0 h1;obtain ⟨u1,u2,u3⟩:=h.unit h0 h1;obtain ⟨j1,j2,j3⟩:=h.join h0 h1;obtain ⟨a1,a2,a3⟩:=h.ar u1.1 u1.2;obtain ⟨v1,v2,v3⟩:=h.unit o.1 o.2;obtain ⟨b1,b2,b3⟩:=h.ar j1.1 j1.2;obtain ⟨k1,k2,k3⟩:=h.join o.1 o.2;have c1:=h.f.s.two a1 j1 (by rw [a3,u3,j2]);have c2:=h.f.s.two v1 j1 (by rw [v3,j2]);exact ⟨o,u1,j1,a1,v1,b1,k1,⟨c1.1,by rw [c1.2.1,a2,u2]⟩,c2.1,by rw [c2.2.1,v2]⟩
theorem e_l16Laws {m:Mnd} (h:m.Pre):Q2Y m.f m.u m.j=some (bo m.Is):=by
 obtain ⟨l1,l2,l3,l4,l5,l6,l7,l8,l9⟩:=h.len;have hc:=h.f.s;unfold Q2Y;refine Q15 m.f.ob.length (fun x:Nat=>(ix (rx m.f.s.cs (ix m.f.ar (ix m.u x))) (ix m.j x)=ix m.f.s.id (ix m.f.ob x)∧ix (rx m.f.s.cs (ix m.u (ix m.f.ob x))) (ix m.j x)=ix m.f.s.id (ix m.f.ob x))∧ix (rx m.f.s.cs (ix m.f.ar (ix m.j x))) (ix m.j x)=ix (rx m.f.s.cs (ix m.j (ix m.f.ob x))) (ix m.j x)) (eb:=Sum.inr false) (eg:=Sum.inl ()) (by omega) (fun x hi hq=>?_) (fun x hi hq=>?_) (by simp;try omega) (fun hx=>?_) fun q=>?_
 ·have a:=h.at (x:=x) (by omega) (by omega);obtain ⟨a1,a2,a3,a4,a5,a6,a7,a8,a9⟩:=a;simp (disch:=omega) only [Qa,(Q2t hc a4 a3).1,(Q2t hc a5 a3).1,(Q2t hc a6 a3).1,(Q2t hc a7 a3).1,Q2F hc a8.1 a8.2,Q2F hc a9.1 a9.2,Option.bind_some];simp (disch:=omega) [Qa,B64,hq.1.1,hq.1.2,hq.2,bo];try omega
 ·have a:=h.at (x:=x) (by omega) (by omega);obtain ⟨a1,a2,a3,a4,a5,a6,a7,a8,a9⟩:=a
  by_cases q1:ix (rx m.f.s.cs (ix m.f.ar (ix m.u x))) (ix m.j x)=ix m.f.s.id (ix m.f.ob x)
  case neg =>
   simp (disch:=omega) only [Qa,(Q2t hc a4 a3).1,(Q2t hc a5 a3).1,(Q2t hc a6 a3).1,(Q2t hc a7 a3).1,Q2F hc a8.1 a8.2,Q2F hc a9.1 a9.2,Option.bind_some];simp (disch:=omega) [Qa,B64,q1,bo];try omega
  by_cases q2:ix (rx m.f.s.cs (ix m.u (ix m.f.ob x))) (ix m.j x)=ix m.f.s.id (ix m.f.ob x)
  case neg =>
   simp (disch:=omega) only [Qa,(Q2t hc a4 a3).1,(Q2t hc a5 a3).1,(Q2t hc a6 a3).1,(Q2t hc a7 a3).1,Q2F hc a8.1 a8.2,Q2F hc a9.1 a9.2,Option.bind_some];simp (disch:=omega) [Qa,B64,q1,q2,bo];try omega
  have q3:¬ ix (rx m.f.s.cs (ix m.f.ar (ix m.j x))) (ix m.j x)=ix (rx m.f.s.cs (ix m.j (ix m.f.ob x))) (ix m.j x):=fun q=>hq ⟨⟨q1,q2⟩,q⟩;simp (disch:=omega) only [Qa,(Q2t hc a4 a3).1,(Q2t hc a5 a3).1,(Q2t hc a6 a3).1,(Q2t hc a7 a3).1,Q2F hc a8.1 a8.2,Q2F hc a9.1 a9.2,Option.bind_some];simp (disch:=omega) [Qa,B64,q1,q2,q3,bo];try omega
 ·rw [Qv (show ¬ m.Is from fun q=>hx fun x hi=>⟨q.l1 x hi,q.l2 x hi⟩)]
 rw [QJ (show m.Is from ⟨h,fun x hi=>(q x hi).1,fun x hi=>(q x hi).2⟩)]
theorem e_l16Is (m:Mnd):Q40 m=some (bo m.Is):=by
 unfold Q40 Q1Y Q39;rw [Q5X]
 by_cases h:m.f.Is
 case neg=>rw [Qv h,Qv (show ¬ m.Is from fun q=>h q.pre.f)];simp
 by_cases e:m.f.s=m.f.t
 case neg=>rw [QJ h,Qv e,Qv (show ¬ m.Is from fun q=>e q.pre.e)];simp
 simp only [QJ h,QJ e,Option.bind_some,not_true_eq_false,if_false,Bool.not_true,Bool.false_eq_true,Q5Z h.s,Q4S h h e.symm,Q35 (mpara1 h e),Q35 (mpara2 h e)]
 by_cases n1:NatT (Q1P m.f.s) m.f m.u
 case neg=>rw [Qv n1,Qv (show ¬ m.Is from fun q=>n1 q.pre.n1)];simp
 by_cases n2:NatT (Q1c m.f m.f) m.f m.j
 case neg=>rw [QJ n1,Qv n2,Qv (show ¬ m.Is from fun q=>n2 q.pre.n2)];simp
 simp [QJ n1,QJ n2,e_l16Laws (m:=m) ⟨h,e,n1,n2⟩]
abbrev Ar (c:Cat) (f x y:Int):Prop:=(0≤f∧f<(c.fr.length:Int))∧ix c.fr f=x∧ix c.to f=y
theorem Ar.two {c:Cat} (hc:c.Is) {f g x y z:Int} (h1:Ar c f x y) (h2:Ar c g y z):Ar c (ix (rx c.cs f) g) x z:=by
 have:=hc.two h1.1 h2.1 (by rw [h1.2.2,h2.2.1]);exact ⟨this.1,by rw [this.2.1,h1.2.1],by rw [this.2.2,h2.2.2]⟩
theorem Ar.thn {c:Cat} (hc:c.Is) {f g x y z:Int} (h1:Ar c f x y) (h2:Ar c g y z):QF c f g=some (ix (rx c.cs f) g)∧Qu c f g=some (ix (rx c.cs f) g):=Q2t hc h1.1 h2.1
theorem Mnd.Pre.Au {m:Mnd} (h:m.Pre) {c:Cat} (e:m.f.s=c) {x:Int} (hx:0≤x∧x<(m.f.ob.length:Int)):Ar c (ix m.u x) x (ix m.f.ob x):=by subst e;exact h.unit hx.1 hx.2
theorem Mnd.Pre.Aj {m:Mnd} (h:m.Pre) {c:Cat} (e:m.f.s=c) {x:Int} (hx:0≤x∧x<(m.f.ob.length:Int)):Ar c (ix m.j x) (ix m.f.ob (ix m.f.ob x)) (ix m.f.ob x):=by subst e;exact h.join hx.1 hx.2
theorem Mnd.Pre.Aa {m:Mnd} (h:m.Pre) {c:Cat} (e:m.f.s=c) {f x y:Int} (hf:Ar c f x y):Ar c (ix m.f.ar f) (ix m.f.ob x) (ix m.f.ob y):=by
 subst e;have:=h.ar hf.1.1 hf.1.2;exact ⟨this.1,by rw [this.2.1,hf.2.1],by rw [this.2.2,hf.2.2]⟩
structure LPre (s t:Mnd) (w:List Int):Prop where
 hs:s.Pre
 ht:t.Pre
 e:s.f.s=t.f.s
 n:NatT (Q1c t.f s.f) (Q1c s.f t.f) w
attribute [local simp] eL eI Qm QI Q1H Q7 Cat.cells Mnd.cells XAlgebra.cells
noncomputable def QP (m_:Mnd) (a_:XAlgebra) (b_:XAlgebra):Option (List Int) :=
 (QV m_.f.s a_.x_ b_.x_).bind fun v1 =>
 (QH (σ:=List Int × Int) (ε:=List Int) (fun s12 =>
  if s12.2<(v1.length:Int) then
   (
    ass (0≤s12.2∧s12.2<(v1.length:Int)) <|
    (Qu m_.f.s a_.h_ (ix v1 s12.2)).bind fun v16 =>
    (Q1u m_ (ix v1 s12.2)).bind fun v17 =>
    (Qu m_.f.s v17 b_.h_).bind fun v18 =>
    if v16=v18 then
     ass ((s12.1++[ix v1 s12.2]).length≤1073741824) <|
     some (s12.1++[ix v1 s12.2])
    else
     some s12.1:Option (List Int)).bind fun b14 =>
   ass (B64 (s12.2+1)) <|
   some (Ctl.next (b14,s12.2+1))
  else
   some (Ctl.ret s12.1)) fuel ([],0)).bind fun b2 =>
 some b2
theorem Q47 (m_:Mnd) (a_:XAlgebra) (b_:XAlgebra) (r:List Int) (h:QP m_ a_ b_=some r):Contract Tryz.prog 102 [.rptr (m_.cells true),.rptr (a_.cells true),.rptr (b_.cells true)] (lI r):=by
 refine Qd (rvs:=[.tmp 6]) (rs:=[lI r]) Tryz.func102 rfl rfl rfl rfl (by simp [Tryz.f102]) fun F hN hP=>?_;unfold QP at h;refine Q4 ?_;refine runQ hN fun K hK=>?_;simp [-Q0,-Q5,-Q1,-Q6,-Q2];repeat refine sdQ ?_
 refine hK _ ?_;clear hK K;refine tn ?_;refine Q9 (st':=⟨[(0,.rptr (Mnd.cells true m_)),(1,.rptr (XAlgebra.cells true a_)),(2,.rptr (XAlgebra.cells true b_))],[],0⟩) (Qj []) ?_;refine Q4 ?_;refine runQ hN fun K hK=>?_;simp [-Q0,-Q5,-Q1,-Q6,-Q2];repeat refine sdQ ?_
 refine hK _ ?_;clear hK K;refine tn ?_;refine Q9 (st':=⟨[(0,.rptr (Mnd.cells true m_)),(1,.rptr (XAlgebra.cells true a_)),(2,.rptr (XAlgebra.cells true b_)),(7,.rptr (Mnd.cells true m_))],[],0⟩) (Qj []) ?_;refine Q4 ?_;refine runQ hN fun K hK=>?_;simp [-Q0,-Q5,-Q1,-Q6,-Q2];repeat refine sdQ ?_
 refine hK _ ?_;clear hK K;refine tn ?_;refine Q9 (st':=⟨[(0,.rptr (Mnd.cells true m_)),(1,.rptr (XAlgebra.cells true a_)),(2,.rptr (XAlgebra.cells true b_)),(7,.rptr (Mnd.cells true m_)),(8,.own 0 0 0)],[(0,.mix 1 [])],1⟩) (Qj [(0,0)]) ?_;refine Q4 ?_;refine Q4 ?_;refine runQ hN fun K hK=>?_;simp [-Q0,-Q5,-Q1,-Q6,-Q2];repeat with_reducible refine sdQ ?_
 replace h:=bind_some h;obtain ⟨v1,hv1,h⟩:=h;refine Q3 (Q3I _ _ _ v1 hv1) (.cons (.preT (by simp [Cat.cells,Mnd.cells,XAlgebra.cells])) (.cons .val (.cons .val .nil))) ?_;simp [-Q0,-Q5,-Q1,-Q6,-Q2,unk,unA,unE,unT,unC,flat];repeat refine sdQ ?_
 refine hK _ ?_;clear hK K;refine tn ?_;refine Q9 (st':=⟨[(0,.rptr (Mnd.cells true m_)),(1,.rptr (XAlgebra.cells true a_)),(2,.rptr (XAlgebra.cells true b_)),(7,.rptr (Mnd.cells true m_)),(8,.own 0 0 0),(25,.own 1 0 v1.length),(26,iV (v1.length:Int)),(27,iV 0)],[(0,.mix 1 []),(1,rI v1)],2⟩) (Qj [(0,0),(1,1)]) ?_;replace h:=bind_some h;obtain ⟨e2,h,h2⟩:=h;refine Qk (fun b2:List Int=>⟨[(8,.own 0 0 b2.length)],[(0,rI b2)],1⟩) (fun b2=>b2=e2) ?_ ?_
 ·refine Qc ?_;refine Qw h (fun s12:List Int × Int=>⟨[(0,.rptr (Mnd.cells true m_)),(1,.rptr (XAlgebra.cells true a_)),(2,.rptr (XAlgebra.cells true b_)),(7,.rptr (Mnd.cells true m_)),(8,.own 0 0 s12.1.length),(25,.own 1 0 v1.length),(26,iV (v1.length:Int)),(27,iV s12.2)],[(0,rI s12.1),(1,rI v1)],2⟩) (Q33 ⟨[(0,.rptr (Mnd.cells true m_)),(1,.rptr (XAlgebra.cells true a_)),(2,.rptr (XAlgebra.cells true b_)),(7,.rptr (Mnd.cells true m_)),(8,.own 0 0 0),(25,.own 1 0 v1.length),(26,iV (v1.length:Int)),(27,iV 0)],[(0,rI []),(1,rI v1)],2⟩ (Wk.nils [] (by simp) (by simp) (by simp [nlA]) (by simp [entN,nlL,nlA,Cat.cells,Mnd.cells,XAlgebra.cells,UA,U1,IA,I1,LA,L1,BA,B1,EA,E1,E2,eB,eI,eL,Qn _ Q7 _ (fun _=>rfl)]) (by simp)) (Qj [(0,0),(1,1)])) ?_;clear h;intro k12 s12 c12 h hk12;refine Q4 ?_;refine runQ hN fun K hK=>?_;simp [-Q0,-Q5,-Q1,-Q6,-Q2];repeat refine sdQ ?_
  refine hK _ ?_;clear hK K;refine tn ?_;refine Q9 (st':=⟨[(0,.rptr (Mnd.cells true m_)),(1,.rptr (XAlgebra.cells true a_)),(2,.rptr (XAlgebra.cells true b_)),(7,.rptr (Mnd.cells true m_)),(8,.own 0 0 s12.1.length),(25,.own 1 0 v1.length),(26,iV (v1.length:Int)),(27,iV s12.2),(28,.val (.bool (decide (s12.2<(v1.length:Int)))))],[(0,rI s12.1),(1,rI v1)],2⟩) (Qj [(0,0),(1,1)]) ?_;refine Q4 ?_;refine Qe rfl (fun g=>?_) fun g=>?_
  ·have g13:s12.2<(v1.length:Int):=gQ;clear g;replace h:=if_l g13 h;refine Qf ?_;refine tn ?_;refine Q4 ?_;replace h:=bind_some h;obtain ⟨e14,h,h14⟩:=h;refine Qk (fun b14:List Int=>⟨[(0,.rptr (Mnd.cells true m_)),(1,.rptr (XAlgebra.cells true a_)),(2,.rptr (XAlgebra.cells true b_)),(7,.rptr (Mnd.cells true m_)),(8,.own 0 0 b14.length),(25,.own 1 0 v1.length),(26,iV (v1.length:Int)),(27,iV s12.2)],[(0,rI b14),(1,rI v1)],2⟩) (fun b14=>b14=e14) ?_ ?_
   ·refine Qc ?_;refine Q4 ?_;refine runQ hN fun K hK=>?_;replace h:=Q8 h;obtain ⟨a15,h⟩:=h;simp [-Q0,-Q5,-Q1,-Q6,-Q2,at_I a15];(repeat refine sdQ ?_);refine hK _ ?_;clear hK K;refine tn ?_;refine Q9 (st':=⟨[(0,.rptr (Mnd.cells true m_)),(1,.rptr (XAlgebra.cells true a_)),(2,.rptr (XAlgebra.cells true b_)),(7,.rptr (Mnd.cells true m_)),(8,.own 0 0 s12.1.length),(10,iV (ix v1 s12.2)),(25,.own 1 0 v1.length),(26,iV (v1.length:Int)),(27,iV s12.2)],[(0,rI s12.1),(1,rI v1)],2⟩) (Qj [(0,0),(1,1)]) ?_;refine Q4 ?_;refine runQ hN fun K hK=>?_;simp [-Q0,-Q5,-Q1,-Q6,-Q2];(repeat with_reducible refine sdQ ?_);replace h:=bind_some h;obtain ⟨v16,hv16,h⟩:=h;refine Q3 (QG _ _ _ v16 hv16) (.cons (.preT (by simp [Cat.cells,Mnd.cells,XAlgebra.cells])) (.cons .val (.cons .val .nil))) ?_;simp [-Q0,-Q5,-Q1,-Q6,-Q2,unk,unA,unE,unT,unC,flat];(repeat with_reducible refine sdQ ?_);replace h:=bind_some h;obtain ⟨v17,hv17,h⟩:=h;refine Q3 (Q49 _ _ v17 hv17) (.cons (.preT (by simp [Cat.cells,Mnd.cells,XAlgebra.cells])) (.cons .val .nil)) ?_;simp [-Q0,-Q5,-Q1,-Q6,-Q2,unk,unA,unE,unT,unC,flat];(repeat with_reducible refine sdQ ?_);replace h:=bind_some h;obtain ⟨v18,hv18,h⟩:=h;refine Q3 (QG _ _ _ v18 hv18) (.cons (.preT (by simp [Cat.cells,Mnd.cells,XAlgebra.cells])) (.cons .val (.cons .val .nil))) ?_;simp [-Q0,-Q5,-Q1,-Q6,-Q2,unk,unA,unE,unT,unC,flat];(repeat refine sdQ ?_);refine hK _ ?_;clear hK K;refine tn ?_;refine Q9 (st':=⟨[(0,.rptr (Mnd.cells true m_)),(1,.rptr (XAlgebra.cells true a_)),(2,.rptr (XAlgebra.cells true b_)),(7,.rptr (Mnd.cells true m_)),(8,.own 0 0 s12.1.length),(10,iV (ix v1 s12.2)),(25,.own 1 0 v1.length),(26,iV (v1.length:Int)),(27,iV s12.2),(47,.val (.bool (v16 == v18)))],[(0,rI s12.1),(1,rI v1)],2⟩) (Qj [(0,0),(1,1)]) ?_;refine Qe rfl (fun g=>?_) fun g=>?_
    ·have g19:v16=v18:=gQ;clear g;replace h:=if_l g19 h;refine runQ hN fun K hK=>?_;replace h:=Q8 h;obtain ⟨a20,h⟩:=h;(try simp only [List.length_append,List.length_cons,List.length_nil] at a20);simp [-Q0,-Q5,-Q1,-Q6,-Q2,a20];(repeat refine sdQ ?_);refine hK _ ?_;clear hK K;refine bn ?_;exact jn (b:=s12.1++[ix v1 s12.2]) (Option.some.inj h) (Qj [(3,0),(1,1)])
    have g19:¬ (v16=v18):=gQ;clear g;replace h:=if_r g19 h;refine Qf ?_;refine bn ?_;exact jn (b:=s12.1) (Option.some.inj h) (Qj [(0,0),(1,1)])
   intro b14 hb14;have h:=h14;(try rw [← hb14] at h);clear h14;(try dsimp only at h);refine runQ hN fun K hK=>?_;replace h:=Q8 h;obtain ⟨a21,h⟩:=h;simp [-Q0,-Q5,-Q1,-Q6,-Q2,Qs a21];(repeat refine sdQ ?_);refine hK _ ?_;clear hK K;cases h;exact rn (s':=(b14,s12.2+1)) hk12 (Qj [(0,0),(1,1)])
  have g13:¬ (s12.2<(v1.length:Int)):=gQ;clear g;replace h:=if_r g13 h;refine Qp ?_;refine tx ?_;refine lx ?_;refine bh ?_;cases h;exact jn (b:=s12.1) hk12 (Qj [(0,0)])
 intro b2 hb2;have h:=h2;try rw [← hb2] at h
 clear h2;try dsimp only at h
 refine Q4 ?_;refine runQ hN fun K hK=>?_;simp [-Q0,-Q5,-Q1,-Q6,-Q2];repeat refine sdQ ?_
 refine hK _ ?_;clear hK K;refine tn ?_;refine Q9 (st':=⟨[(6,.own 0 0 b2.length)],[(0,rI b2)],1⟩) (Qj [(0,0)]) ?_;refine Qi ?_;have hr:=Option.some.inj h;rw [← hr];refine ⟨_,(.tmp .nil),?_⟩;refine ⟨(.one rfl rfl .nil),[lI b2],[0],by simp [Cat.cells,Mnd.cells,XAlgebra.cells,UA,U1,IA,I1,LA,L1,BA,B1,EA,E1,E2,eB,eI,eL,Qn _ Q7 _ (fun _=>rfl)],by simp,(UpL.refl _)⟩
attribute [local simp] eL eI Qm QI eP_Ends Q1H Cat.cells Ends.cells Mnd.cells
noncomputable def Q19 (m_:Mnd) (x_:Int) (h_:Int):Option Bool :=
 (
  (QO m_.f.s h_).bind fun v2 =>
  (Q1i m_ x_).bind fun v3 =>
  if v2.a=v3∧v2.b=x_ then
   ass (0≤x_∧x_<(m_.u.length:Int)) <|
   (Qu m_.f.s (ix m_.u x_) h_).bind fun v6 =>
   ass (0≤x_∧x_<(m_.f.s.id.length:Int)) <|
   if v6=(ix m_.f.s.id x_) then
    (Q1u m_ h_).bind fun v9 =>
    (Qu m_.f.s v9 h_).bind fun v10 =>
    ass (0≤x_∧x_<(m_.j.length:Int)) <|
    (Qu m_.f.s (ix m_.j x_) h_).bind fun v12 =>
    some (v10 == v12)
   else
    some false
  else
   some false:Option (Bool)).bind fun b1 =>
 some b1
theorem Q4I (m_:Mnd) (x_:Int) (h_:Int) (r:Bool) (h:Q19 m_ x_ h_=some r):Contract Tryz.prog 138 [.rptr (m_.cells true),iV x_,iV h_] (.val (.bool r)):=by
 refine Qd (rvs:=[.tmp 6]) (rs:=[.val (.bool r)]) Tryz.func138 rfl rfl rfl rfl (by simp [Tryz.f138]) fun F hN hP=>?_;unfold Q19 at h;refine Q4 ?_;refine runQ hN fun K hK=>?_;simp [-Q0,-Q5,-Q1,-Q6,-Q2];repeat refine sdQ ?_
 refine hK _ ?_;clear hK K;refine tn ?_;refine Q9 (st':=⟨[(0,.rptr (Mnd.cells true m_)),(1,iV x_),(2,iV h_)],[],0⟩) (Qj []) ?_;refine Q4 ?_;refine runQ hN fun K hK=>?_;simp [-Q0,-Q5,-Q1,-Q6,-Q2];repeat refine sdQ ?_
 refine hK _ ?_;clear hK K;refine tn ?_;refine Q9 (st':=⟨[(0,.rptr (Mnd.cells true m_)),(1,iV x_),(2,iV h_),(7,.rptr (Mnd.cells true m_))],[],0⟩) (Qj []) ?_;refine Q4 ?_;replace h:=bind_some h;obtain ⟨e1,h,h1⟩:=h;refine Qk (fun b1:Bool=>⟨[(6,.val (.bool b1))],[],0⟩) (fun b1=>b1=e1) ?_ ?_
 ·refine runQ hN fun K hK=>?_;simp [-Q0,-Q5,-Q1,-Q6,-Q2];repeat with_reducible refine sdQ ?_
  replace h:=bind_some h;obtain ⟨v2,hv2,h⟩:=h;refine Q3 (Q3q _ _ v2 hv2) (.cons (.preT (by simp [Cat.cells,Mnd.cells])) (.cons .val .nil)) ?_;simp [-Q0,-Q5,-Q1,-Q6,-Q2,unk,unA,unE,unT,unC,flat];repeat with_reducible refine sdQ ?_
  replace h:=bind_some h;obtain ⟨v3,hv3,h⟩:=h;refine Q3 (Q3J _ _ v3 hv3) (.cons (.preT (by simp [Cat.cells,Ends.cells,Mnd.cells])) (.cons .val .nil)) ?_;simp [-Q0,-Q5,-Q1,-Q6,-Q2,unk,unA,unE,unT,unC,flat];repeat with_reducible refine sdQ ?_
  refine Qo (fun g=>?_) (fun g=>?_)
  ·have g4:v2.a=v3∧v2.b=x_:=gQ;clear g;replace h:=if_l g4 h;replace h:=Q8 h;obtain ⟨a5,h⟩:=h;simp [-Q0,-Q5,-Q1,-Q6,-Q2,at_I a5];(repeat with_reducible refine sdQ ?_);replace h:=bind_some h;obtain ⟨v6,hv6,h⟩:=h;refine Q3 (QG _ _ _ v6 hv6) (.cons (.preT (by simp [Cat.cells,Ends.cells,Mnd.cells])) (.cons .val (.cons .val .nil))) ?_;replace h:=Q8 h;obtain ⟨a7,h⟩:=h;simp [-Q0,-Q5,-Q1,-Q6,-Q2,unk,unA,unE,unT,unC,flat,at_I a5,at_I a7];(repeat with_reducible refine sdQ ?_);refine Qo (fun g=>?_) (fun g=>?_)
   ·have g8:v6=(ix m_.f.s.id x_):=gQ;clear g;replace h:=if_l g8 h;simp [-Q0,-Q5,-Q1,-Q6,-Q2,at_I a5,at_I a7];(repeat with_reducible refine sdQ ?_);replace h:=bind_some h;obtain ⟨v9,hv9,h⟩:=h;refine Q3 (Q49 _ _ v9 hv9) (.cons (.preT (by simp [Cat.cells,Ends.cells,Mnd.cells])) (.cons .val .nil)) ?_;simp [-Q0,-Q5,-Q1,-Q6,-Q2,unk,unA,unE,unT,unC,flat,at_I a5,at_I a7];(repeat with_reducible refine sdQ ?_);replace h:=bind_some h;obtain ⟨v10,hv10,h⟩:=h;refine Q3 (QG _ _ _ v10 hv10) (.cons (.preT (by simp [Cat.cells,Ends.cells,Mnd.cells])) (.cons .val (.cons .val .nil))) ?_;replace h:=Q8 h;obtain ⟨a11,h⟩:=h;simp [-Q0,-Q5,-Q1,-Q6,-Q2,unk,unA,unE,unT,unC,flat,at_I a5,at_I a7,at_I a11];(repeat with_reducible refine sdQ ?_);replace h:=bind_some h;obtain ⟨v12,hv12,h⟩:=h;refine Q3 (QG _ _ _ v12 hv12) (.cons (.preT (by simp [Cat.cells,Ends.cells,Mnd.cells])) (.cons .val (.cons .val .nil))) ?_;simp [-Q0,-Q5,-Q1,-Q6,-Q2,unk,unA,unE,unT,unC,flat,at_I a5,at_I a7,at_I a11];(repeat refine sdQ ?_);refine hK _ ?_;exact jn (b:=v10 == v12) (Option.some.inj h) (Qj [])
   have g8:¬ (v6=(ix m_.f.s.id x_)):=gQ;clear g;replace h:=if_r g8 h;simp [-Q0,-Q5,-Q1,-Q6,-Q2,at_I a5,at_I a7];(repeat refine sdQ ?_);refine hK _ ?_;exact jn (b:=false) (Option.some.inj h) (Qj [])
  have g4:¬ (v2.a=v3∧v2.b=x_):=gQ;clear g;replace h:=if_r g4 h;simp [-Q0,-Q5,-Q1,-Q6,-Q2];repeat refine sdQ ?_
  refine hK _ ?_;exact jn (b:=false) (Option.some.inj h) (Qj [])
 intro b1 hb1;have h:=h1;try rw [← hb1] at h
 clear h1;try dsimp only at h
 refine Qi ?_;have hr:=Option.some.inj h;rw [← hr];refine ⟨_,(.tmp .nil),?_⟩;refine ⟨(.one rfl rfl .nil),[.val (.bool b1)],[],by simp [Cat.cells,Ends.cells,Mnd.cells,UA,U1,IA,I1,LA,L1,BA,B1,EA,E1,E2,eB,eI,eL],by simp,(UpL.refl _)⟩
attribute [local simp] eL eI Qm QI Q1H Cat.cells Mnd.cells
noncomputable def Q42 (m_:Mnd) (x_:Int) (h_:Int):Option Bool :=
 (
  ass (0≤h_∧h_<(m_.f.s.fr.length:Int)) <|
  ass (0≤x_∧x_<(m_.f.ob.length:Int)) <|
  if ¬ ((ix m_.f.s.fr h_)=(ix m_.f.ob x_)) then
   some true
  else
   ass (0≤h_∧h_<(m_.f.s.to.length:Int)) <|
   if ¬ ((ix m_.f.s.to h_)=x_) then
    some true
   else
    ass (0≤x_∧x_<(m_.u.length:Int)) <|
    (QF m_.f.s (ix m_.u x_) h_).bind fun v8 =>
    (Q1q m_.f.s v8).bind fun v9 =>
    some (!v9):Option (Bool)).bind fun b1 =>
 if b1=true then
  some false
 else
  ass (0≤h_∧h_<(m_.f.ar.length:Int)) <|
  (QF m_.f.s (ix m_.f.ar h_) h_).bind fun v12 =>
  ass (0≤x_∧x_<(m_.j.length:Int)) <|
  (QF m_.f.s (ix m_.j x_) h_).bind fun v14 =>
  some (v12 == v14)
theorem w_s_l17Is (m_:Mnd) (x_:Int) (h_:Int) (r:Bool) (h:Q42 m_ x_ h_=some r):Contract Tryz.prog 145 [.agg (m_.cells true),iV x_,iV h_] (.val (.bool r)):=by
 refine Qd (rvs:=[.tmp 6]) (rs:=[.val (.bool r)]) Tryz.func145 rfl rfl rfl rfl (by simp [Tryz.f145]) fun F hN hP=>?_;unfold Q42 at h;refine Q4 ?_;refine runQ hN fun K hK=>?_;simp [-Q0,-Q5,-Q1,-Q6,-Q2];repeat refine sdQ ?_
 refine hK _ ?_;clear hK K;refine tn ?_;refine Q9 (st':=⟨[(1,iV x_),(2,iV h_),(3,.adr 0 0 0)],[(0,.mix 14 [(Mnd.cells true m_)])],1⟩) (Qj [(0,0)]) ?_;refine Q4 ?_;refine runQ hN fun K hK=>?_;simp [-Q0,-Q5,-Q1,-Q6,-Q2];repeat refine sdQ ?_
 refine hK _ ?_;clear hK K;refine tn ?_;refine Q9 (st':=⟨[(1,iV x_),(2,iV h_),(3,.adr 0 0 0),(7,.adr 1 0 0)],[(0,.mix 14 [(Mnd.cells true m_)]),(1,.mix 5 [(Cat.cells true m_.f.s)])],2⟩) (Qj [(0,0),(1,1)]) ?_;refine Q4 ?_;refine Q4 ?_;replace h:=bind_some h;obtain ⟨e1,h,h1⟩:=h;refine Qk (fun b1:Bool=>⟨[(1,iV x_),(2,iV h_),(3,.adr 0 0 0),(7,.adr 1 0 0),(44,.val (.bool b1))],[(0,.mix 14 [(Mnd.cells true m_)]),(1,.mix 5 [(Cat.cells true m_.f.s)])],2⟩) (fun b1=>b1=e1) ?_ ?_
 ·refine runQ hN fun K hK=>?_;replace h:=Q8 h;obtain ⟨a2,h⟩:=h;replace h:=Q8 h;obtain ⟨a3,h⟩:=h;simp [-Q0,-Q5,-Q1,-Q6,-Q2,at_I a2,at_I a3];repeat with_reducible refine sdQ ?_
  refine Qo (fun g=>?_) (fun g=>?_)
  ·have g4:¬ (¬ ((ix m_.f.s.fr h_)=(ix m_.f.ob x_))):=gQ;clear g;replace h:=if_r g4 h;replace h:=Q8 h;obtain ⟨a5,h⟩:=h;simp [-Q0,-Q5,-Q1,-Q6,-Q2,at_I a2,at_I a3,at_I a5];(repeat with_reducible refine sdQ ?_);refine Qo (fun g=>?_) (fun g=>?_)
   ·have g6:¬ (¬ ((ix m_.f.s.to h_)=x_)):=gQ;clear g;replace h:=if_r g6 h;replace h:=Q8 h;obtain ⟨a7,h⟩:=h;simp [-Q0,-Q5,-Q1,-Q6,-Q2,at_I a2,at_I a3,at_I a5,at_I a7];(repeat with_reducible refine sdQ ?_);replace h:=bind_some h;obtain ⟨v8,hv8,h⟩:=h;refine Q3 (QU _ _ _ v8 hv8) (.cons (.aggL (.cons .val (.cons .lst (.cons .lst (.cons .lst (.cons .lst .nil)))))) (.cons .val (.cons .val .nil))) ?_;simp [-Q0,-Q5,-Q1,-Q6,-Q2,unk,unA,unE,unT,unC,flat,at_I a2,at_I a3,at_I a5,at_I a7];(repeat with_reducible refine sdQ ?_);replace h:=bind_some h;obtain ⟨v9,hv9,h⟩:=h;refine Q3 (Q31 _ _ v9 hv9) (.cons (.aggL (.cons .val (.cons .lst (.cons .lst (.cons .lst (.cons .lst .nil)))))) (.cons .val .nil)) ?_;simp [-Q0,-Q5,-Q1,-Q6,-Q2,unk,unA,unE,unT,unC,flat,at_I a2,at_I a3,at_I a5,at_I a7];(repeat refine sdQ ?_);refine hK _ ?_;exact jn (b:=!v9) (Option.some.inj h) (Qj [(0,0),(1,1)])
   have g6:¬ ((ix m_.f.s.to h_)=x_):=gQ;clear g;replace h:=if_l g6 h;simp [-Q0,-Q5,-Q1,-Q6,-Q2,at_I a2,at_I a3,at_I a5];(repeat refine sdQ ?_);refine hK _ ?_;exact jn (b:=true) (Option.some.inj h) (Qj [(0,0),(1,1)])
  have g4:¬ ((ix m_.f.s.fr h_)=(ix m_.f.ob x_)):=gQ;clear g;replace h:=if_l g4 h;simp [-Q0,-Q5,-Q1,-Q6,-Q2,at_I a2,at_I a3];repeat refine sdQ ?_
  refine hK _ ?_;exact jn (b:=true) (Option.some.inj h) (Qj [(0,0),(1,1)])
 intro b1 hb1;have h:=h1;try rw [← hb1] at h
 clear h1;try dsimp only at h
 refine Qe rfl (fun g=>?_) fun g=>?_
 ·have g10:b1=true:=gQ;clear g;replace h:=if_l g10 h;refine Q4 ?_;refine runQ hN fun K hK=>?_;simp [-Q0,-Q5,-Q1,-Q6,-Q2];repeat refine sdQ ?_
  refine hK _ ?_;clear hK K;refine tn ?_;refine Q9 (st':=⟨[(6,.val (.bool false))],[],0⟩) (Qj []) ?_;refine Qi ?_;refine tr ?_;have hr:=Option.some.inj h;rw [← hr];refine ⟨_,(.tmp .nil),?_⟩;refine ⟨(.one rfl rfl .nil),[.val (.bool false)],[],by simp [Cat.cells,Mnd.cells,UA,U1,IA,I1,LA,L1,BA,B1,EA,E1,E2,eB,eI,eL],by simp,(UpL.refl _)⟩
 have g10:¬ (b1=true):=gQ;clear g;replace h:=if_r g10 h;refine Qf ?_;refine tn ?_;refine Q4 ?_;refine runQ hN fun K hK=>?_;replace h:=Q8 h;obtain ⟨a11,h⟩:=h;simp [-Q0,-Q5,-Q1,-Q6,-Q2,at_I a11];repeat with_reducible refine sdQ ?_
 replace h:=bind_some h;obtain ⟨v12,hv12,h⟩:=h;refine Q3 (QU _ _ _ v12 hv12) (.cons (.aggL (.cons .val (.cons .lst (.cons .lst (.cons .lst (.cons .lst .nil)))))) (.cons .val (.cons .val .nil))) ?_;replace h:=Q8 h;obtain ⟨a13,h⟩:=h;simp [-Q0,-Q5,-Q1,-Q6,-Q2,unk,unA,unE,unT,unC,flat,at_I a11,at_I a13];repeat with_reducible refine sdQ ?_
 replace h:=bind_some h;obtain ⟨v14,hv14,h⟩:=h;refine Q3 (QU _ _ _ v14 hv14) (.cons (.aggL (.cons .val (.cons .lst (.cons .lst (.cons .lst (.cons .lst .nil)))))) (.cons .val (.cons .val .nil))) ?_;simp [-Q0,-Q5,-Q1,-Q6,-Q2,unk,unA,unE,unT,unC,flat,at_I a11,at_I a13];repeat refine sdQ ?_
 refine hK _ ?_;clear hK K;refine tn ?_;refine Q9 (st':=⟨[(6,.val (.bool (v12 == v14)))],[],0⟩) (Qj []) ?_;refine Qi ?_;have hr:=Option.some.inj h;rw [← hr];refine ⟨_,(.tmp .nil),?_⟩;refine ⟨(.one rfl rfl .nil),[.val (.bool (v12 == v14))],[],by simp [Cat.cells,Mnd.cells,UA,U1,IA,I1,LA,L1,BA,B1,EA,E1,E2,eB,eI,eL],by simp,(UpL.refl _)⟩
attribute [local simp] eL eI Qm QI Q1H Cat.cells Mnd.cells
noncomputable def Q2m (m_:Mnd) (p_:List Int) (q_:List Int):Option (List Int) :=
 ass ((0:Int)≤0∧0<(p_.length:Int)) <|
 ass ((0:Int)≤0∧0<(q_.length:Int)) <|
 (Q2O m_.f.s (ix p_ 0) (ix q_ 0)).bind fun v3 =>
 (QH (σ:=List Int × Int) (ε:=List Int) (fun s18 =>
  if s18.2<(v3.length:Int) then
   (
    ass ((0:Int)≤1∧1<(p_.length:Int)) <|
    ass (0≤s18.2∧s18.2<(v3.length:Int)) <|
    (QF m_.f.s (ix p_ 1) (ix v3 s18.2)).bind fun v23 =>
    ass (0≤s18.2∧s18.2<(v3.length:Int)) <|
    ass (0≤ix v3 s18.2∧ix v3 s18.2<(m_.f.ar.length:Int)) <|
    ass ((0:Int)≤1∧1<(q_.length:Int)) <|
    (QF m_.f.s (ix m_.f.ar (ix v3 s18.2)) (ix q_ 1)).bind fun v27 =>
    if v23=v27 then
     ass (0≤s18.2∧s18.2<(v3.length:Int)) <|
     ass ((s18.1++[ix v3 s18.2]).length≤1073741824) <|
     some (s18.1++[ix v3 s18.2])
    else
     some s18.1:Option (List Int)).bind fun b20 =>
   ass (B64 (s18.2+1)) <|
   some (Ctl.next (b20,s18.2+1))
  else
   some (Ctl.ret s18.1)) fuel ([],0)).bind fun b4 =>
 some b4
theorem Q8L (m_:Mnd) (p_:List Int) (q_:List Int) (r:List Int) (h:Q2m m_ p_ q_=some r):Contract Tryz.prog 123 [.agg (m_.cells true),lI p_,lI q_] (lI r):=by
 refine Qd (rvs:=[.tmp 6]) (rs:=[lI r]) Tryz.func123 rfl rfl rfl rfl (by simp [Tryz.f123]) fun F hN hP=>?_;unfold Q2m at h;refine Q4 ?_;refine runQ hN fun K hK=>?_;simp [-Q0,-Q5,-Q1,-Q6,-Q2];repeat refine sdQ ?_
 refine hK _ ?_;clear hK K;refine tn ?_;refine Q9 (st':=⟨[(1,lI p_),(2,lI q_),(3,.adr 0 0 0)],[(0,.mix 14 [(Mnd.cells true m_)])],1⟩) (Qj [(0,0)]) ?_;refine Q4 ?_;refine runQ hN fun K hK=>?_;simp [-Q0,-Q5,-Q1,-Q6,-Q2];repeat refine sdQ ?_
 refine hK _ ?_;clear hK K;refine tn ?_;refine Q9 (st':=⟨[(1,lI p_),(2,lI q_),(3,.adr 0 0 0),(7,.adr 1 0 0)],[(0,.mix 14 [(Mnd.cells true m_)]),(1,.mix 5 [(Cat.cells true m_.f.s)])],2⟩) (Qj [(0,0),(1,1)]) ?_;refine Q4 ?_;refine runQ hN fun K hK=>?_;replace h:=Q8 h;obtain ⟨a1,h⟩:=h;replace h:=Q8 h;obtain ⟨a2,h⟩:=h;simp [-Q0,-Q5,-Q1,-Q6,-Q2,(show (Is p_)[0]? = some [iV (ix p_ 0)] from at_I (j:=0) a1),(show (Is q_)[0]? = some [iV (ix q_ 0)] from at_I (j:=0) a2)];repeat with_reducible refine sdQ ?_
 replace h:=bind_some h;obtain ⟨v3,hv3,h⟩:=h;refine Q3 (Q6T _ _ _ v3 hv3) (.cons (.aggL (.cons .val (.cons .lst (.cons .lst (.cons .lst (.cons .lst .nil)))))) (.cons .val (.cons .val .nil))) ?_;simp [-Q0,-Q5,-Q1,-Q6,-Q2,unk,unA,unE,unT,unC,flat];repeat refine sdQ ?_
 refine hK _ ?_;clear hK K;refine tn ?_;refine Q9 (st':=⟨[(1,lI p_),(2,lI q_),(3,.adr 0 0 0),(7,.adr 1 0 0),(8,.own 2 0 v3.length)],[(0,.mix 14 [(Mnd.cells true m_)]),(1,.mix 5 [(Cat.cells true m_.f.s)]),(2,rI v3)],3⟩) (Qj [(0,0),(1,1),(2,2)]) ?_;refine Q4 ?_;refine runQ hN fun K hK=>?_;simp [-Q0,-Q5,-Q1,-Q6,-Q2];repeat refine sdQ ?_
 refine hK _ ?_;clear hK K;refine tn ?_;refine Q9 (st':=⟨[(1,lI p_),(2,lI q_),(3,.adr 0 0 0),(7,.adr 1 0 0),(8,.own 2 0 v3.length),(9,.own 3 0 0)],[(0,.mix 14 [(Mnd.cells true m_)]),(1,.mix 5 [(Cat.cells true m_.f.s)]),(2,rI v3),(3,.mix 1 [])],4⟩) (Qj [(0,0),(1,1),(2,2),(3,3)]) ?_;refine Q4 ?_;refine Q4 ?_;refine runQ hN fun K hK=>?_;simp [-Q0,-Q5,-Q1,-Q6,-Q2];repeat refine sdQ ?_
 refine hK _ ?_;clear hK K;refine tn ?_;refine Q9 (st':=⟨[(1,lI p_),(2,lI q_),(3,.adr 0 0 0),(7,.adr 1 0 0),(8,.own 2 0 v3.length),(9,.own 3 0 0),(10,iV 0)],[(0,.mix 14 [(Mnd.cells true m_)]),(1,.mix 5 [(Cat.cells true m_.f.s)]),(2,rI v3),(3,.mix 1 [])],4⟩) (Qj [(0,0),(1,1),(2,2),(3,3)]) ?_;replace h:=bind_some h;obtain ⟨e4,h,h4⟩:=h;refine Qk (fun b4:List Int=>⟨[(9,.own 0 0 b4.length)],[(0,rI b4)],1⟩) (fun b4=>b4=e4) ?_ ?_
 ·refine Qc ?_;refine Qw h (fun s18:List Int × Int=>⟨[(1,lI p_),(2,lI q_),(3,.adr 0 0 0),(7,.adr 1 0 0),(8,.own 2 0 v3.length),(9,.own 3 0 s18.1.length),(10,iV s18.2)],[(0,.mix 14 [(Mnd.cells true m_)]),(1,.mix 5 [(Cat.cells true m_.f.s)]),(2,rI v3),(3,rI s18.1)],4⟩) (Q33 ⟨[(1,lI p_),(2,lI q_),(3,.adr 0 0 0),(7,.adr 1 0 0),(8,.own 2 0 v3.length),(9,.own 3 0 0),(10,iV 0)],[(0,.mix 14 [(Mnd.cells true m_)]),(1,.mix 5 [(Cat.cells true m_.f.s)]),(2,rI v3),(3,rI [])],4⟩ (Wk.nils [] (by simp) (by simp) (by simp [nlA]) (by simp [entN,nlL,nlA,Cat.cells,Mnd.cells,UA,U1,IA,I1,LA,L1,BA,B1,EA,E1,E2,eB,eI,eL]) (by simp)) (Qj [(0,0),(1,1),(2,2),(3,3)])) ?_;clear h;intro k18 s18 c18 h hk18;refine Q4 ?_;refine Q4 ?_;refine runQ hN fun K hK=>?_;simp [-Q0,-Q5,-Q1,-Q6,-Q2];repeat refine sdQ ?_
  refine hK _ ?_;clear hK K;refine tn ?_;refine Q9 (st':=⟨[(1,lI p_),(2,lI q_),(3,.adr 0 0 0),(7,.adr 1 0 0),(8,.own 2 0 v3.length),(9,.own 3 0 s18.1.length),(10,iV s18.2),(26,.val (.bool (decide (s18.2<(v3.length:Int)))))],[(0,.mix 14 [(Mnd.cells true m_)]),(1,.mix 5 [(Cat.cells true m_.f.s)]),(2,rI v3),(3,rI s18.1)],4⟩) (Qj [(0,0),(1,1),(2,2),(3,3)]) ?_;refine Qe rfl (fun g=>?_) fun g=>?_
  ·have g19:s18.2<(v3.length:Int):=gQ;clear g;replace h:=if_l g19 h;refine Qf ?_;refine tn ?_;refine Q4 ?_;replace h:=bind_some h;obtain ⟨e20,h,h20⟩:=h;refine Qk (fun b20:List Int=>⟨[(1,lI p_),(2,lI q_),(3,.adr 0 0 0),(7,.adr 1 0 0),(8,.own 2 0 v3.length),(9,.own 3 0 b20.length),(10,iV s18.2)],[(0,.mix 14 [(Mnd.cells true m_)]),(1,.mix 5 [(Cat.cells true m_.f.s)]),(2,rI v3),(3,rI b20)],4⟩) (fun b20=>b20=e20) ?_ ?_
   ·refine Qc ?_;refine Q4 ?_;refine runQ hN fun K hK=>?_;replace h:=Q8 h;obtain ⟨a21,h⟩:=h;replace h:=Q8 h;obtain ⟨a22,h⟩:=h;simp [-Q0,-Q5,-Q1,-Q6,-Q2,(show (Is p_)[1]? = some [iV (ix p_ 1)] from at_I (j:=1) a21),at_I a22];(repeat with_reducible refine sdQ ?_);replace h:=bind_some h;obtain ⟨v23,hv23,h⟩:=h;refine Q3 (QU _ _ _ v23 hv23) (.cons (.aggL (.cons .val (.cons .lst (.cons .lst (.cons .lst (.cons .lst .nil)))))) (.cons .val (.cons .val .nil))) ?_;replace h:=Q8 h;obtain ⟨a24,h⟩:=h;replace h:=Q8 h;obtain ⟨a25,h⟩:=h;replace h:=Q8 h;obtain ⟨a26,h⟩:=h;simp [-Q0,-Q5,-Q1,-Q6,-Q2,unk,unA,unE,unT,unC,flat,at_I a22,at_I a24,at_I a25,(show (Is q_)[1]? = some [iV (ix q_ 1)] from at_I (j:=1) a26)];(repeat with_reducible refine sdQ ?_);replace h:=bind_some h;obtain ⟨v27,hv27,h⟩:=h;refine Q3 (QU _ _ _ v27 hv27) (.cons (.aggL (.cons .val (.cons .lst (.cons .lst (.cons .lst (.cons .lst .nil)))))) (.cons .val (.cons .val .nil))) ?_;simp [-Q0,-Q5,-Q1,-Q6,-Q2,unk,unA,unE,unT,unC,flat,at_I a22,at_I a24,at_I a25];(repeat refine sdQ ?_);refine hK _ ?_;clear hK K;refine tn ?_;refine Q9 (st':=⟨[(1,lI p_),(2,lI q_),(3,.adr 0 0 0),(7,.adr 1 0 0),(8,.own 2 0 v3.length),(9,.own 3 0 s18.1.length),(10,iV s18.2),(52,.val (.bool (v23 == v27)))],[(0,.mix 14 [(Mnd.cells true m_)]),(1,.mix 5 [(Cat.cells true m_.f.s)]),(2,rI v3),(3,rI s18.1)],4⟩) (Qj [(0,0),(1,1),(2,2),(3,3)]) ?_;refine Qe rfl (fun g=>?_) fun g=>?_
    ·have g28:v23=v27:=gQ;clear g;replace h:=if_l g28 h;refine runQ hN fun K hK=>?_;replace h:=Q8 h;obtain ⟨a29,h⟩:=h;replace h:=Q8 h;obtain ⟨a30,h⟩:=h;(try simp only [List.length_append,List.length_cons,List.length_nil] at a30);simp [-Q0,-Q5,-Q1,-Q6,-Q2,at_I a29,a30];(repeat refine sdQ ?_);refine hK _ ?_;clear hK K;refine bn ?_;exact jn (b:=s18.1++[ix v3 s18.2]) (Option.some.inj h) (Qj [(0,0),(1,1),(2,2),(6,3)])
    have g28:¬ (v23=v27):=gQ;clear g;replace h:=if_r g28 h;refine Qf ?_;refine bn ?_;exact jn (b:=s18.1) (Option.some.inj h) (Qj [(0,0),(1,1),(2,2),(3,3)])
   intro b20 hb20;have h:=h20;(try rw [← hb20] at h);clear h20;(try dsimp only at h);refine runQ hN fun K hK=>?_;replace h:=Q8 h;obtain ⟨a31,h⟩:=h;simp [-Q0,-Q5,-Q1,-Q6,-Q2,Qs a31];(repeat refine sdQ ?_);refine hK _ ?_;clear hK K;cases h;exact rn (s':=(b20,s18.2+1)) hk18 (Qj [(0,0),(1,1),(2,2),(3,3)])
  have g19:¬ (s18.2<(v3.length:Int)):=gQ;clear g;replace h:=if_r g19 h;refine Qp ?_;refine tx ?_;refine lx ?_;refine bh ?_;cases h;exact jn (b:=s18.1) hk18 (Qj [(3,0)])
 intro b4 hb4;have h:=h4;try rw [← hb4] at h
 clear h4;try dsimp only at h
 refine Q4 ?_;refine runQ hN fun K hK=>?_;simp [-Q0,-Q5,-Q1,-Q6,-Q2];repeat refine sdQ ?_
 refine hK _ ?_;clear hK K;refine tn ?_;refine Q9 (st':=⟨[(6,.own 0 0 b4.length)],[(0,rI b4)],1⟩) (Qj [(0,0)]) ?_;refine Qi ?_;have hr:=Option.some.inj h;rw [← hr];refine ⟨_,(.tmp .nil),?_⟩;refine ⟨(.one rfl rfl .nil),[lI b4],[0],by simp [Cat.cells,Mnd.cells,UA,U1,IA,I1,LA,L1,BA,B1,EA,E1,E2,eB,eI,eL],by simp,(UpL.refl _)⟩
def Alg (m:Mnd) (x h:Int):Prop:=(ix m.f.s.fr h=ix m.f.ob x∧ix m.f.s.to h=x)∧ix (rx m.f.s.cs (ix m.u x)) h=ix m.f.s.id x∧ix (rx m.f.s.cs (ix m.f.ar h)) h=ix (rx m.f.s.cs (ix m.j x)) h
theorem e_alg {m:Mnd} (hm:m.Is) {x h:Int} (hx:0≤x∧x<(m.f.ob.length:Int)) (hh:0≤h∧h<(m.f.s.fr.length:Int)):Q42 m x h=some (bo (Alg m x h))∧Q19 m x h=some (bo (Alg m x h)):=by
 obtain ⟨l1,l2,l3,l4,l5,l6,l7,l8,l9⟩:=hm.pre.len;have hc:=hm.pre.f.s;unfold Q42 Q19 QO Q1i Q1u
 by_cases h1:ix m.f.s.fr h=ix m.f.ob x
 case neg=>rw [Qv (show ¬ Alg m x h from fun q=>h1 q.1.1)];constructor<;>simp (disch:=omega) [Qa,h1]
 by_cases h2:ix m.f.s.to h=x
 case neg=>rw [Qv (show ¬ Alg m x h from fun q=>h2 q.1.2)];constructor<;>simp (disch:=omega) [Qa,h1,h2]
 have ah:Ar m.f.s h (ix m.f.ob x) x:=⟨hh,h1,h2⟩;have au:=hm.pre.Au rfl hx;have t1:=Ar.thn hc au ah;have c1:=Ar.two hc au ah;have t2:=Ar.thn hc (hm.pre.Aa rfl ah) ah;have t3:=Ar.thn hc (hm.pre.Aj rfl hx) ah;have u1:=Q2F hc c1.1 c1.2.1
 by_cases h3:ix (rx m.f.s.cs (ix m.u x)) h=ix m.f.s.id x
 case neg =>
  rw [Qv (show ¬ Alg m x h from fun q=>h3 q.2.1)];rw [Qv h3] at u1;constructor
  ·simp (disch:=omega) only [Qa,t1.1,u1,Option.bind_some];simp (disch:=omega) [h1,h2]
  simp (disch:=omega) only [Qa,t1.2,Option.bind_some];simp (disch:=omega) [Qa,h1,h2,h3]
 rw [QJ h3] at u1
 by_cases h4:ix (rx m.f.s.cs (ix m.f.ar h)) h=ix (rx m.f.s.cs (ix m.j x)) h
 ·rw [QJ (show Alg m x h from ⟨⟨h1,h2⟩,h3,h4⟩)];constructor
  ·simp (disch:=omega) only [Qa,t1.1,t2.1,t3.1,u1,Option.bind_some];simp (disch:=omega) [h1,h2,h4]
  simp (disch:=omega) only [Qa,t1.2,t2.2,t3.2,Option.bind_some];simp (disch:=omega) [Qa,h1,h2,h3,h4]
 rw [Qv (show ¬ Alg m x h from fun q=>h4 q.2.2)];constructor
 ·simp (disch:=omega) only [Qa,t1.1,t2.1,t3.1,u1,Option.bind_some];simp (disch:=omega) [h1,h2,h4]
 simp (disch:=omega) only [Qa,t1.2,t2.2,t3.2,Option.bind_some];simp (disch:=omega) [Qa,h1,h2,h3,h4]
theorem Q91 {ε β:Type} {body:List Int × Int→Option (Ctl (List Int × Int) ε)} {K:ε→Option β} {r:Option β} (xs:List Int) (q:Int→Prop) {e:ε} (hn:xs.length<4611686018427387904)
  (h:∀ (i:Nat) (acc:List Int),i<xs.length→acc.length≤i→(q (ix xs i)→body (acc,(i:Int))=some (.next (acc++[ix xs i],(i:Int)+1)))∧(¬ q (ix xs i)→body (acc,(i:Int))=some (.next (acc,(i:Int)+1))))
  (he:body (xs.filter (fun f=>bo (q f)),(xs.length:Int))=some (.ret e)) (hk:K e=r):(QH body fuel ([],0)).bind K=r:=by
 refine QM xs.length (fun i=>(xs.take i).filter fun f=>bo (q f)) (e:=e) (by simp) hn (fun i hi=>?_) (by simpa using he) hk;have hl:((xs.take i).filter fun f=>bo (q f)).length≤i:=Nat.le_trans (List.length_filter_le _ _) (by simp;omega);have hs:xs.take (i+1)=xs.take i++[ix xs i]:=by rw [List.take_succ_eq_append_getElem hi,Q1J _ _ hi]
 have hf:((xs.take (i+1)).filter fun f=>bo (q f))=((xs.take i).filter fun f=>bo (q f))++(if bo (q (ix xs i))=true then [ix xs i] else []):=by rw [hs,List.filter_append];simp [List.filter_cons]
 obtain ⟨h1,h2⟩:=h i _ hi hl
 by_cases hq:q (ix xs i)
 ·rw [h1 hq,hf,QJ hq];simp
 rw [h2 hq,hf,Qv hq];simp
theorem Q9a {xs:List Int} {P:Int→Prop} (h:∀ x∈xs,P x) {i:Nat} (hi:i<xs.length):P (ix xs i):=by
 rw [← Q1J _ _ hi];exact h _ (List.getElem_mem hi)
noncomputable def homL (c:Cat) (x y:Int):List Int:=flt c.fr.length fun a=>ix c.fr a=x∧ix c.to a=y
theorem Q4e {c:Cat} {x y:Int}:∀ f∈homL c x y,Ar c f x y:=by
 intro f hf;obtain ⟨i,h1,h2,rfl⟩:=mem_flt.1 hf;exact ⟨by omega,h2⟩
theorem Q4W (c:Cat) (x y:Int):(homL c x y).length≤c.fr.length:=flt_len _ _
theorem Q8X {c:Cat} (h:c.Is) (x y:Int):Q2O c x y=some (homL c x y)∧QV c x y=some (homL c x y):=⟨by rw [e_l02Hom,e_hom h];rfl,e_hom h x y⟩
noncomputable def Q3b (m:Mnd) (x h y k:Int):List Int:=(homL m.f.s x y).filter fun f=>bo (ix (rx m.f.s.cs h) f=ix (rx m.f.s.cs (ix m.f.ar f)) k)
theorem e_maps {m:Mnd} (hm:m.Is) {x h y k:Int} (ax:Alg m x h) (hx:0≤x∧x<(m.f.ob.length:Int)) (hh:0≤h∧h<(m.f.s.fr.length:Int)) (ay:Alg m y k) (hy:0≤y∧y<(m.f.ob.length:Int)) (hk:0≤k∧k<(m.f.s.fr.length:Int)) :
  Q2m m [x,h] [y,k]=some (Q3b m x h y k)∧QP m ⟨x,h⟩ ⟨y,k⟩=some (Q3b m x h y k):=by
 obtain ⟨l1,l2,l3,l4,l5,l6,l7,l8,l9⟩:=hm.pre.len;have hc:=hm.pre.f.s;have Ah:Ar m.f.s h (ix m.f.ob x) x:=⟨hh,ax.1⟩;have Ak:Ar m.f.s k (ix m.f.ob y) y:=⟨hk,ay.1⟩;have hl:=Q4W m.f.s x y;unfold Q2m QP Q1u;have ix0:∀ a b:Int,ix [a,b] 0=a:=fun _ _=>rfl;have ix1:∀ a b:Int,ix [a,b] 1=b:=fun _ _=>rfl;constructor
 ·rw [Qa (by simp),Qa (by simp)];simp only [ix0,ix1,(Q8X hc x y).1,Option.bind_some];refine Q91 (homL m.f.s x y) (fun f=>ix (rx m.f.s.cs h) f=ix (rx m.f.s.cs (ix m.f.ar f)) k) (e:=Q3b m x h y k) (by omega) (fun i acc hi ha=>?_) (by simp [Q3b]) rfl;have af:=Q9a Q4e hi;have t1:=Ar.thn hc Ah af;have t2:=Ar.thn hc (hm.pre.Aa rfl af) Ak;have b1:=af.1;refine ⟨fun hq=>?_,fun hq=>?_⟩
  ·simp (disch:=omega) only [Qa,t1.1,t2.1,Option.bind_some];simp (disch:=omega) [Qa,B64,hq];try omega
  simp (disch:=omega) only [Qa,t1.1,t2.1,Option.bind_some];simp (disch:=omega) [Qa,B64,hq];try omega
 simp only [(Q8X hc x y).2,Option.bind_some];refine Q91 (homL m.f.s x y) (fun f=>ix (rx m.f.s.cs h) f=ix (rx m.f.s.cs (ix m.f.ar f)) k) (e:=Q3b m x h y k) (by omega) (fun i acc hi ha=>?_) (by simp [Q3b]) rfl;have af:=Q9a Q4e hi;have t1:=Ar.thn hc Ah af;have t2:=Ar.thn hc (hm.pre.Aa rfl af) Ak;have b1:=af.1;refine ⟨fun hq=>?_,fun hq=>?_⟩
 ·simp (disch:=omega) only [Qa,t1.2,t2.2,Option.bind_some];simp (disch:=omega) [Qa,B64,hq];try omega
 simp (disch:=omega) only [Qa,t1.2,t2.2,Option.bind_some];simp (disch:=omega) [Qa,B64,hq];try omega
theorem Q4s (m:Mnd) (x h y k:Int):(Q3b m x h y k).length≤m.f.s.fr.length:=Nat.le_trans (List.length_filter_le _ _) (Q4W _ _ _)
attribute [local simp] eL eI Qm QI Q1H Cat.cells Mnd.cells
attribute [local simp] Q7 XAlgebra.cells
noncomputable def QQ (m_:Mnd):Option (List XAlgebra) :=
 (QH (σ:=List XAlgebra × Int) (ε:=List XAlgebra) (fun s22 =>
  if s22.2<m_.f.s.n then
   (
    (Q1i m_ s22.2).bind fun v25 =>
    (QV m_.f.s v25 s22.2).bind fun v26 =>
    (QH (σ:=List XAlgebra × Int) (ε:=List XAlgebra) (fun s34 =>
     if s34.2<(v26.length:Int) then
      (
       ass (0≤s34.2∧s34.2<(v26.length:Int)) <|
       (Q19 m_ s22.2 (ix v26 s34.2)).bind fun v38 =>
       if v38=true then
        ass ((s34.1++[(⟨s22.2,ix v26 s34.2⟩:XAlgebra)]).length≤1073741824) <|
        some (s34.1++[(⟨s22.2,ix v26 s34.2⟩:XAlgebra)])
       else
        some s34.1:Option (List XAlgebra)).bind fun b36 =>
      ass (B64 (s34.2+1)) <|
      some (Ctl.next (b36,s34.2+1))
     else
      some (Ctl.ret s34.1)) fuel (s22.1,0)).bind fun p34 =>
    some p34:Option (List XAlgebra)).bind fun b24 =>
   ass (B64 (s22.2+1)) <|
   some (Ctl.next (b24,s22.2+1))
  else
   some (Ctl.ret s22.1)) fuel ([],0)).bind fun b1 =>
 some b1
theorem Q48 (m_:Mnd) (r:List XAlgebra) (h:QQ m_=some r):FContract Tryz.prog true 101 [.rptr (m_.cells true)] (.lst true 1 (Es Q7 r)):=by
 refine Q2R true (ts:=[2]) (rs:=[.lst true 1 (Es Q7 r)]) Tryz.func101 rfl rfl rfl rfl (by simp [Tryz.f101]) fun F hN hP=>?_;unfold QQ at h;refine Q4 ?_;refine QC [] mo (by rw [hN];decide) fun K hK=>?_;simp [-Q0,-Q5,-Q1,-Q6,-Q2];repeat refine sdQ ?_
 refine hK _ ?_;clear hK K;refine tn ?_;refine Q9 (st':=⟨[(0,.rptr (Mnd.cells true m_))],[],0⟩) (Qj []) ?_;refine Q4 ?_;refine QC [] mo (by rw [hN];decide) fun K hK=>?_;simp [-Q0,-Q5,-Q1,-Q6,-Q2];repeat refine sdQ ?_
 refine hK _ ?_;clear hK K;refine tn ?_;refine Q9 (st':=⟨[(0,.rptr (Mnd.cells true m_)),(3,.rptr (Mnd.cells true m_))],[],0⟩) (Qj []) ?_;refine Q4 ?_;refine QC [] mo (by rw [hN];decide) fun K hK=>?_;simp [-Q0,-Q5,-Q1,-Q6,-Q2];repeat refine sdQ ?_
 refine hK _ ?_;clear hK K;refine tn ?_;refine Q9 (st':=⟨[(0,.rptr (Mnd.cells true m_)),(3,.rptr (Mnd.cells true m_)),(4,.own 0 0 0)],[(0,.mix 1 [])],1⟩) (Qj [(0,0)]) ?_;refine Q4 ?_;refine Q4 ?_;refine QC [] mo (by rw [hN];decide) fun K hK=>?_;simp [-Q0,-Q5,-Q1,-Q6,-Q2];repeat refine sdQ ?_
 refine hK _ ?_;clear hK K;refine tn ?_;refine Q9 (st':=⟨[(0,.rptr (Mnd.cells true m_)),(3,.rptr (Mnd.cells true m_)),(4,.own 0 0 0),(5,iV 0)],[(0,.mix 1 [])],1⟩) (Qj [(0,0)]) ?_;replace h:=bind_some h;obtain ⟨e1,h,h1⟩:=h;refine Qk (fun b1:List XAlgebra=>⟨[(4,.own 0 0 b1.length)],[(0,.mix 1 (Es Q7 b1))],1⟩) (fun b1=>b1=e1) ?_ ?_
 ·refine Qc ?_;refine Qw h (fun s22:List XAlgebra × Int=>⟨[(0,.rptr (Mnd.cells true m_)),(3,.rptr (Mnd.cells true m_)),(4,.own 0 0 s22.1.length),(5,iV s22.2)],[(0,.mix 1 (Es Q7 s22.1))],1⟩) (Qj [(0,0)]) ?_;clear h;intro k22 s22 c22 h hk22;refine Q4 ?_;refine Q4 ?_;refine QC [] mo (by rw [hN];decide) fun K hK=>?_;simp [-Q0,-Q5,-Q1,-Q6,-Q2];repeat refine sdQ ?_
  refine hK _ ?_;clear hK K;refine tn ?_;refine Q9 (st':=⟨[(0,.rptr (Mnd.cells true m_)),(3,.rptr (Mnd.cells true m_)),(4,.own 0 0 s22.1.length),(5,iV s22.2),(18,.val (.bool (decide (s22.2<m_.f.s.n))))],[(0,.mix 1 (Es Q7 s22.1))],1⟩) (Qj [(0,0)]) ?_;refine Qe rfl (fun g=>?_) fun g=>?_
  ·have g23:s22.2<m_.f.s.n:=gQ;clear g;replace h:=if_l g23 h;refine Qf ?_;refine tn ?_;refine Q4 ?_;replace h:=bind_some h;obtain ⟨e24,h,h24⟩:=h;refine Qk (fun b24:List XAlgebra=>⟨[(0,.rptr (Mnd.cells true m_)),(3,.rptr (Mnd.cells true m_)),(4,.own 0 0 b24.length),(5,iV s22.2)],[(0,.mix 1 (Es Q7 b24))],1⟩) (fun b24=>b24=e24) ?_ ?_
   ·refine Qc ?_;refine Q4 ?_;refine QC [] mo (by rw [hN];decide) fun K hK=>?_;simp [-Q0,-Q5,-Q1,-Q6,-Q2];(repeat with_reducible refine sdQ ?_);replace h:=bind_some h;obtain ⟨v25,hv25,h⟩:=h;refine QX (fz:=[]) (Q3J _ _ v25 hv25) (.cons (.preT (by simp [Cat.cells,Mnd.cells])) (.cons .val .nil)) ?_;simp [-Q0,-Q5,-Q1,-Q6,-Q2,unk,unA,unE,unT,unC,flat];(repeat with_reducible refine sdQ ?_);replace h:=bind_some h;obtain ⟨v26,hv26,h⟩:=h;refine QX (fz:=[]) (Q3I _ _ _ v26 hv26) (.cons (.preT (by simp [Cat.cells,Mnd.cells])) (.cons .val (.cons .val .nil))) ?_;simp [-Q0,-Q5,-Q1,-Q6,-Q2,unk,unA,unE,unT,unC,flat];(repeat refine sdQ ?_);refine hK _ ?_;clear hK K;refine tn ?_;refine Q9 (st':=⟨[(0,.rptr (Mnd.cells true m_)),(3,.rptr (Mnd.cells true m_)),(4,.own 0 0 s22.1.length),(5,iV s22.2),(26,.own 1 0 v26.length),(27,iV (v26.length:Int)),(28,iV 0)],[(0,.mix 1 (Es Q7 s22.1)),(1,rI v26)],2⟩) (Qj [(0,0),(2,1)]) ?_;refine Qc ?_;replace h:=bind_some h;obtain ⟨e34,he34,h34⟩:=h;refine Qw he34 (fun s34:List XAlgebra × Int=>⟨[(0,.rptr (Mnd.cells true m_)),(3,.rptr (Mnd.cells true m_)),(4,.own 0 0 s34.1.length),(5,iV s22.2),(26,.own 1 0 v26.length),(27,iV (v26.length:Int)),(28,iV s34.2)],[(0,.mix 1 (Es Q7 s34.1)),(1,rI v26)],2⟩) (Qj [(0,0),(1,1)]) ?_;intro k34 s34 c34 h hk34;refine Q4 ?_;refine QC [] mo (by rw [hN];decide) fun K hK=>?_;simp [-Q0,-Q5,-Q1,-Q6,-Q2];(repeat refine sdQ ?_);refine hK _ ?_;clear hK K;refine tn ?_;refine Q9 (st':=⟨[(0,.rptr (Mnd.cells true m_)),(3,.rptr (Mnd.cells true m_)),(4,.own 0 0 s34.1.length),(5,iV s22.2),(26,.own 1 0 v26.length),(27,iV (v26.length:Int)),(28,iV s34.2),(29,.val (.bool (decide (s34.2<(v26.length:Int)))))],[(0,.mix 1 (Es Q7 s34.1)),(1,rI v26)],2⟩) (Qj [(0,0),(1,1)]) ?_;refine Q4 ?_;refine Qe rfl (fun g=>?_) fun g=>?_
    ·have g35:s34.2<(v26.length:Int):=gQ;clear g;replace h:=if_l g35 h;refine Qf ?_;refine tn ?_;refine Q4 ?_;replace h:=bind_some h;obtain ⟨e36,h,h36⟩:=h;refine Qk (fun b36:List XAlgebra=>⟨[(0,.rptr (Mnd.cells true m_)),(3,.rptr (Mnd.cells true m_)),(4,.own 0 0 b36.length),(5,iV s22.2),(26,.own 1 0 v26.length),(27,iV (v26.length:Int)),(28,iV s34.2)],[(0,.mix 1 (Es Q7 b36)),(1,rI v26)],2⟩) (fun b36=>b36=e36) ?_ ?_
     ·refine Qc ?_;refine Q4 ?_;refine QC [] mo (by rw [hN];decide) fun K hK=>?_;replace h:=Q8 h;obtain ⟨a37,h⟩:=h;simp [-Q0,-Q5,-Q1,-Q6,-Q2,at_I a37];(repeat refine sdQ ?_);refine hK _ ?_;clear hK K;refine tn ?_;refine Q9 (st':=⟨[(0,.rptr (Mnd.cells true m_)),(3,.rptr (Mnd.cells true m_)),(4,.own 0 0 s34.1.length),(5,iV s22.2),(7,iV (ix v26 s34.2)),(26,.own 1 0 v26.length),(27,iV (v26.length:Int)),(28,iV s34.2)],[(0,.mix 1 (Es Q7 s34.1)),(1,rI v26)],2⟩) (Qj [(0,0),(1,1)]) ?_;refine Q4 ?_;refine QC [] mo (by rw [hN];decide) fun K hK=>?_;simp [-Q0,-Q5,-Q1,-Q6,-Q2];(repeat with_reducible refine sdQ ?_);replace h:=bind_some h;obtain ⟨v38,hv38,h⟩:=h;refine QX (fz:=[]) (Q4I _ _ _ v38 hv38) (.cons (.preT (by simp [Cat.cells,Mnd.cells])) (.cons .val (.cons .val .nil))) ?_;simp [-Q0,-Q5,-Q1,-Q6,-Q2,unk,unA,unE,unT,unC,flat];(repeat refine sdQ ?_);refine hK _ ?_;clear hK K;refine tn ?_;refine Q9 (st':=⟨[(0,.rptr (Mnd.cells true m_)),(3,.rptr (Mnd.cells true m_)),(4,.own 0 0 s34.1.length),(5,iV s22.2),(7,iV (ix v26 s34.2)),(26,.own 1 0 v26.length),(27,iV (v26.length:Int)),(28,iV s34.2),(35,.val (.bool v38))],[(0,.mix 1 (Es Q7 s34.1)),(1,rI v26)],2⟩) (Qj [(0,0),(1,1)]) ?_;refine Qe rfl (fun g=>?_) fun g=>?_
      ·have g39:v38=true:=gQ;clear g;replace h:=if_l g39 h;refine QC [40,42] mo (by rw [hN];decide) fun K hK=>?_;replace h:=Q8 h;obtain ⟨a40,h⟩:=h;(try simp only [List.length_append,List.length_cons,List.length_nil] at a40);simp [-Q0,-Q5,-Q1,-Q6,-Q2,a40];(repeat refine sdQ ?_);refine hK _ ?_;clear hK K;refine bn ?_;exact jn (b:=s34.1++[(⟨s22.2,ix v26 s34.2⟩:XAlgebra)]) (Option.some.inj h) (Qj [(3,0),(1,1)])
      have g39:¬ (v38=true):=gQ;clear g;replace h:=if_r g39 h;refine Qf ?_;refine bn ?_;exact jn (b:=s34.1) (Option.some.inj h) (Qj [(0,0),(1,1)])
     intro b36 hb36;have h:=h36;(try rw [← hb36] at h);clear h36;(try dsimp only at h);refine QC [] mo (by rw [hN];decide) fun K hK=>?_;replace h:=Q8 h;obtain ⟨a41,h⟩:=h;simp [-Q0,-Q5,-Q1,-Q6,-Q2,Qs a41];(repeat refine sdQ ?_);refine hK _ ?_;clear hK K;cases h;exact rn (s':=(b36,s34.2+1)) hk34 (Qj [(0,0),(1,1)])
    have g35:¬ (s34.2<(v26.length:Int)):=gQ;clear g;replace h:=if_r g35 h;refine Qp ?_;refine tx ?_;refine lx ?_;refine bh ?_;refine bn ?_;cases h;have q:_=e34:=hk34;have h:=h34;rw [← q] at h;clear q;(try dsimp only at h);exact jn (b:=s34.1) (Option.some.inj h) (Qj [(0,0)])
   intro b24 hb24;have h:=h24;(try rw [← hb24] at h);clear h24;(try dsimp only at h);refine QC [] mo (by rw [hN];decide) fun K hK=>?_;replace h:=Q8 h;obtain ⟨a42,h⟩:=h;simp [-Q0,-Q5,-Q1,-Q6,-Q2,Qs a42];(repeat refine sdQ ?_);refine hK _ ?_;clear hK K;cases h;exact rn (s':=(b24,s22.2+1)) hk22 (Qj [(0,0)])
  have g23:¬ (s22.2<m_.f.s.n):=gQ;clear g;replace h:=if_r g23 h;refine Qp ?_;refine tx ?_;refine lx ?_;refine bh ?_;cases h;exact jn (b:=s22.1) hk22 (Qj [(0,0)])
 intro b1 hb1;have h:=h1;try rw [← hb1] at h
 clear h1;try dsimp only at h
 refine Q4 ?_;refine QC [] mo (by rw [hN];decide) fun K hK=>?_;simp [-Q0,-Q5,-Q1,-Q6,-Q2];repeat refine sdQ ?_
 refine hK _ ?_;clear hK K;refine tn ?_;refine Q9 (st':=⟨[(2,.own 0 0 b1.length)],[(0,.mix 1 (Es Q7 b1))],1⟩) (Qj [(0,0)]) ?_;refine Qi ?_;have hr:=Option.some.inj h;rw [← hr];exact (.two (.smix rfl (by simp) (Q9K (by simp [Cat.cells,Mnd.cells,QI,Q1H]))) .nil)
attribute [local simp] eL eI Qm QI Q1H Cat.cells Mnd.cells
noncomputable def Q2P (m_:Mnd):Option (List (List Int)) :=
 (QH (σ:=List (List Int) × Int) (ε:=List (List Int)) (fun s24 =>
  if s24.2<m_.f.s.n then
   (
    ass (0≤s24.2∧s24.2<(m_.f.ob.length:Int)) <|
    (Q2O m_.f.s (ix m_.f.ob s24.2) s24.2).bind fun v28 =>
    (QH (σ:=List (List Int) × Int) (ε:=List (List Int)) (fun s37 =>
     if s37.2<(v28.length:Int) then
      (
       ass (0≤s37.2∧s37.2<(v28.length:Int)) <|
       (Q42 m_ s24.2 (ix v28 s37.2)).bind fun v41 =>
       if v41=true then
        ass (0≤s37.2∧s37.2<(v28.length:Int)) <|
        ass ((s37.1++[[s24.2,ix v28 s37.2]]).length≤1073741824) <|
        some (s37.1++[[s24.2,ix v28 s37.2]])
       else
        some s37.1:Option (List (List Int))).bind fun b39 =>
      ass (B64 (s37.2+1)) <|
      some (Ctl.next (b39,s37.2+1))
     else
      some (Ctl.ret s37.1)) fuel (s24.1,0)).bind fun p37 =>
    some p37:Option (List (List Int))).bind fun b26 =>
   ass (B64 (s24.2+1)) <|
   some (Ctl.next (b26,s24.2+1))
  else
   some (Ctl.ret s24.1)) fuel ([],0)).bind fun b1 =>
 some b1
theorem Qa1 (m_:Mnd) (r:List (List Int)) (h:Q2P m_=some r):Contract Tryz.prog 122 [.agg (m_.cells true)] (.lst true 1 (Ls r)):=by
 refine Qd (rvs:=[.tmp 2]) (rs:=[.lst true 1 (Ls r)]) Tryz.func122 rfl rfl rfl rfl (by simp [Tryz.f122]) fun F hN hP=>?_;unfold Q2P at h;refine Q4 ?_;refine runQ hN fun K hK=>?_;simp [-Q0,-Q5,-Q1,-Q6,-Q2];repeat refine sdQ ?_
 refine hK _ ?_;clear hK K;refine tn ?_;refine Q9 (st':=⟨[(1,.adr 0 0 0)],[(0,.mix 14 [(Mnd.cells true m_)])],1⟩) (Qj [(0,0)]) ?_;refine Q4 ?_;refine runQ hN fun K hK=>?_;simp [-Q0,-Q5,-Q1,-Q6,-Q2];repeat refine sdQ ?_
 refine hK _ ?_;clear hK K;refine tn ?_;refine Q9 (st':=⟨[(1,.adr 0 0 0),(3,.adr 1 0 0)],[(0,.mix 14 [(Mnd.cells true m_)]),(1,.mix 5 [(Cat.cells true m_.f.s)])],2⟩) (Qj [(0,0),(1,1)]) ?_;refine Q4 ?_;refine runQ hN fun K hK=>?_;simp [-Q0,-Q5,-Q1,-Q6,-Q2];repeat refine sdQ ?_
 refine hK _ ?_;clear hK K;refine tn ?_;refine Q9 (st':=⟨[(1,.adr 0 0 0),(3,.adr 1 0 0),(4,.own 2 0 0)],[(0,.mix 14 [(Mnd.cells true m_)]),(1,.mix 5 [(Cat.cells true m_.f.s)]),(2,.mix 1 [])],3⟩) (Qj [(0,0),(1,1),(2,2)]) ?_;refine Q4 ?_;refine Q4 ?_;refine runQ hN fun K hK=>?_;simp [-Q0,-Q5,-Q1,-Q6,-Q2];repeat refine sdQ ?_
 refine hK _ ?_;clear hK K;refine tn ?_;refine Q9 (st':=⟨[(1,.adr 0 0 0),(3,.adr 1 0 0),(4,.own 2 0 0),(5,iV 0)],[(0,.mix 14 [(Mnd.cells true m_)]),(1,.mix 5 [(Cat.cells true m_.f.s)]),(2,.mix 1 [])],3⟩) (Qj [(0,0),(1,1),(2,2)]) ?_;replace h:=bind_some h;obtain ⟨e1,h,h1⟩:=h;refine Qk (fun b1:List (List Int)=>⟨[(4,.own 0 0 b1.length)],[(0,.row 1 (Ls b1))],1⟩) (fun b1=>b1=e1) ?_ ?_
 ·refine Qc ?_;refine Qw h (fun s24:List (List Int) × Int=>⟨[(1,.adr 0 0 0),(3,.adr 1 0 0),(4,.own 2 0 s24.1.length),(5,iV s24.2)],[(0,.mix 14 [(Mnd.cells true m_)]),(1,.mix 5 [(Cat.cells true m_.f.s)]),(2,.row 1 (Ls s24.1))],3⟩) (Q33 ⟨[(1,.adr 0 0 0),(3,.adr 1 0 0),(4,.own 2 0 0),(5,iV 0)],[(0,.mix 14 [(Mnd.cells true m_)]),(1,.mix 5 [(Cat.cells true m_.f.s)]),(2,.row 1 (Ls []))],3⟩ (Wk.nils [] (by simp) (by simp) (by simp [nlA]) (by simp [entN,nlL,nlA,Cat.cells,Mnd.cells,UA,U1,IA,I1,LA,L1,BA,B1,EA,E1,E2,eB,eI,eL]) (by simp)) (Qj [(0,0),(1,1),(2,2)])) ?_;clear h;intro k24 s24 c24 h hk24;refine Q4 ?_;refine Q4 ?_;refine runQ hN fun K hK=>?_;simp [-Q0,-Q5,-Q1,-Q6,-Q2];repeat refine sdQ ?_
  refine hK _ ?_;clear hK K;refine tn ?_;refine Q9 (st':=⟨[(1,.adr 0 0 0),(3,.adr 1 0 0),(4,.own 2 0 s24.1.length),(5,iV s24.2),(15,.val (.bool (decide (s24.2<m_.f.s.n))))],[(0,.mix 14 [(Mnd.cells true m_)]),(1,.mix 5 [(Cat.cells true m_.f.s)]),(2,.row 1 (Ls s24.1))],3⟩) (Qj [(0,0),(1,1),(2,2)]) ?_;refine Qe rfl (fun g=>?_) fun g=>?_
  ·have g25:s24.2<m_.f.s.n:=gQ;clear g;replace h:=if_l g25 h;refine Qf ?_;refine tn ?_;refine Q4 ?_;replace h:=bind_some h;obtain ⟨e26,h,h26⟩:=h;refine Qk (fun b26:List (List Int)=>⟨[(1,.adr 0 0 0),(3,.adr 1 0 0),(4,.own 2 0 b26.length),(5,iV s24.2)],[(0,.mix 14 [(Mnd.cells true m_)]),(1,.mix 5 [(Cat.cells true m_.f.s)]),(2,.row 1 (Ls b26))],3⟩) (fun b26=>b26=e26) ?_ ?_
   ·refine Qc ?_;refine Q4 ?_;refine runQ hN fun K hK=>?_;replace h:=Q8 h;obtain ⟨a27,h⟩:=h;simp [-Q0,-Q5,-Q1,-Q6,-Q2,at_I a27];(repeat with_reducible refine sdQ ?_);replace h:=bind_some h;obtain ⟨v28,hv28,h⟩:=h;refine Q3 (Q6T _ _ _ v28 hv28) (.cons (.aggL (.cons .val (.cons .lst (.cons .lst (.cons .lst (.cons .lst .nil)))))) (.cons .val (.cons .val .nil))) ?_;simp [-Q0,-Q5,-Q1,-Q6,-Q2,unk,unA,unE,unT,unC,flat,at_I a27];(repeat refine sdQ ?_);refine hK _ ?_;clear hK K;refine tn ?_;refine Q9 (st':=⟨[(1,.adr 0 0 0),(3,.adr 1 0 0),(4,.own 2 0 s24.1.length),(5,iV s24.2),(6,.own 3 0 v28.length)],[(0,.mix 14 [(Mnd.cells true m_)]),(1,.mix 5 [(Cat.cells true m_.f.s)]),(2,.row 1 (Ls s24.1)),(3,rI v28)],4⟩) (Qj [(0,0),(1,1),(2,2),(3,3)]) ?_;refine Q4 ?_;refine runQ hN fun K hK=>?_;simp [-Q0,-Q5,-Q1,-Q6,-Q2];(repeat refine sdQ ?_);refine hK _ ?_;clear hK K;refine tn ?_;refine Q9 (st':=⟨[(1,.adr 0 0 0),(3,.adr 1 0 0),(4,.own 2 0 s24.1.length),(5,iV s24.2),(6,.own 3 0 v28.length),(7,iV 0)],[(0,.mix 14 [(Mnd.cells true m_)]),(1,.mix 5 [(Cat.cells true m_.f.s)]),(2,.row 1 (Ls s24.1)),(3,rI v28)],4⟩) (Qj [(0,0),(1,1),(2,2),(3,3)]) ?_;refine Qc ?_;replace h:=bind_some h;obtain ⟨e37,he37,h37⟩:=h;refine Qw he37 (fun s37:List (List Int) × Int=>⟨[(1,.adr 0 0 0),(3,.adr 1 0 0),(4,.own 2 0 s37.1.length),(5,iV s24.2),(6,.own 3 0 v28.length),(7,iV s37.2)],[(0,.mix 14 [(Mnd.cells true m_)]),(1,.mix 5 [(Cat.cells true m_.f.s)]),(2,.row 1 (Ls s37.1)),(3,rI v28)],4⟩) (Qj [(0,0),(1,1),(2,2),(3,3)]) ?_;intro k37 s37 c37 h hk37;refine Q4 ?_;refine Q4 ?_;refine runQ hN fun K hK=>?_;simp [-Q0,-Q5,-Q1,-Q6,-Q2];(repeat refine sdQ ?_);refine hK _ ?_;clear hK K;refine tn ?_;refine Q9 (st':=⟨[(1,.adr 0 0 0),(3,.adr 1 0 0),(4,.own 2 0 s37.1.length),(5,iV s24.2),(6,.own 3 0 v28.length),(7,iV s37.2),(30,.val (.bool (decide (s37.2<(v28.length:Int)))))],[(0,.mix 14 [(Mnd.cells true m_)]),(1,.mix 5 [(Cat.cells true m_.f.s)]),(2,.row 1 (Ls s37.1)),(3,rI v28)],4⟩) (Qj [(0,0),(1,1),(2,2),(3,3)]) ?_;refine Qe rfl (fun g=>?_) fun g=>?_
    ·have g38:s37.2<(v28.length:Int):=gQ;clear g;replace h:=if_l g38 h;refine Qf ?_;refine tn ?_;refine Q4 ?_;replace h:=bind_some h;obtain ⟨e39,h,h39⟩:=h;refine Qk (fun b39:List (List Int)=>⟨[(1,.adr 0 0 0),(3,.adr 1 0 0),(4,.own 2 0 b39.length),(5,iV s24.2),(6,.own 3 0 v28.length),(7,iV s37.2)],[(0,.mix 14 [(Mnd.cells true m_)]),(1,.mix 5 [(Cat.cells true m_.f.s)]),(2,.row 1 (Ls b39)),(3,rI v28)],4⟩) (fun b39=>b39=e39) ?_ ?_
     ·refine Qc ?_;refine Q4 ?_;refine runQ hN fun K hK=>?_;replace h:=Q8 h;obtain ⟨a40,h⟩:=h;simp [-Q0,-Q5,-Q1,-Q6,-Q2,at_I a40];(repeat with_reducible refine sdQ ?_);replace h:=bind_some h;obtain ⟨v41,hv41,h⟩:=h;refine Q3 (w_s_l17Is _ _ _ v41 hv41) (.cons (.aggL (.cons .val (.cons .lst (.cons .lst (.cons .lst (.cons .lst (.cons .val (.cons .lst (.cons .lst (.cons .lst (.cons .lst (.cons .lst (.cons .lst (.cons .lst (.cons .lst .nil))))))))))))))) (.cons .val (.cons .val .nil))) ?_;simp [-Q0,-Q5,-Q1,-Q6,-Q2,unk,unA,unE,unT,unC,flat,at_I a40];(repeat refine sdQ ?_);refine hK _ ?_;clear hK K;refine tn ?_;refine Q9 (st':=⟨[(1,.adr 0 0 0),(3,.adr 1 0 0),(4,.own 2 0 s37.1.length),(5,iV s24.2),(6,.own 3 0 v28.length),(7,iV s37.2),(39,.val (.bool v41))],[(0,.mix 14 [(Mnd.cells true m_)]),(1,.mix 5 [(Cat.cells true m_.f.s)]),(2,.row 1 (Ls s37.1)),(3,rI v28)],4⟩) (Qj [(0,0),(1,1),(2,2),(3,3)]) ?_;refine Qe rfl (fun g=>?_) fun g=>?_
      ·have g42:v41=true:=gQ;clear g;replace h:=if_l g42 h;refine runQ hN fun K hK=>?_;replace h:=Q8 h;obtain ⟨a43,h⟩:=h;replace h:=Q8 h;obtain ⟨a44,h⟩:=h;(try simp only [List.length_append,List.length_cons,List.length_nil] at a44);simp [-Q0,-Q5,-Q1,-Q6,-Q2,at_I a43,a44];(repeat refine sdQ ?_);refine hK _ ?_;clear hK K;refine bn ?_;exact jn (b:=s37.1++[[s24.2,ix v28 s37.2]]) (Option.some.inj h) (Qj [(0,0),(1,1),(7,2),(3,3)])
      have g42:¬ (v41=true):=gQ;clear g;replace h:=if_r g42 h;refine Qf ?_;refine bn ?_;exact jn (b:=s37.1) (Option.some.inj h) (Qj [(0,0),(1,1),(2,2),(3,3)])
     intro b39 hb39;have h:=h39;(try rw [← hb39] at h);clear h39;(try dsimp only at h);refine runQ hN fun K hK=>?_;replace h:=Q8 h;obtain ⟨a45,h⟩:=h;simp [-Q0,-Q5,-Q1,-Q6,-Q2,Qs a45];(repeat refine sdQ ?_);refine hK _ ?_;clear hK K;cases h;exact rn (s':=(b39,s37.2+1)) hk37 (Qj [(0,0),(1,1),(2,2),(3,3)])
    have g38:¬ (s37.2<(v28.length:Int)):=gQ;clear g;replace h:=if_r g38 h;refine Qp ?_;refine tx ?_;refine lx ?_;refine bh ?_;refine bn ?_;cases h;have q:_=e37:=hk37;have h:=h37;rw [← q] at h;clear q;(try dsimp only at h);exact jn (b:=s37.1) (Option.some.inj h) (Qj [(0,0),(1,1),(2,2)])
   intro b26 hb26;have h:=h26;(try rw [← hb26] at h);clear h26;(try dsimp only at h);refine runQ hN fun K hK=>?_;replace h:=Q8 h;obtain ⟨a46,h⟩:=h;simp [-Q0,-Q5,-Q1,-Q6,-Q2,Qs a46];(repeat refine sdQ ?_);refine hK _ ?_;clear hK K;cases h;exact rn (s':=(b26,s24.2+1)) hk24 (Qj [(0,0),(1,1),(2,2)])
  have g25:¬ (s24.2<m_.f.s.n):=gQ;clear g;replace h:=if_r g25 h;refine Qp ?_;refine tx ?_;refine lx ?_;refine bh ?_;cases h;exact jn (b:=s24.1) hk24 (Qj [(2,0)])
 intro b1 hb1;have h:=h1;try rw [← hb1] at h
 clear h1;try dsimp only at h
 refine Q4 ?_;refine runQ hN fun K hK=>?_;simp [-Q0,-Q5,-Q1,-Q6,-Q2];repeat refine sdQ ?_
 refine hK _ ?_;clear hK K;refine tn ?_;refine Q9 (st':=⟨[(2,.own 0 0 b1.length)],[(0,.row 1 (Ls b1))],1⟩) (Qj [(0,0)]) ?_;refine Qi ?_;have hr:=Option.some.inj h;rw [← hr];refine ⟨_,(.tmp .nil),?_⟩;refine ⟨(.one rfl rfl .nil),[.lst true 1 (Ls b1)],[0],by simp [Cat.cells,Mnd.cells,UA,U1,IA,I1,LA,L1,BA,B1,EA,E1,E2,eB,eI,eL],by simp,(UpL.refl _)⟩
theorem fm_bind {α ε β:Type} {body:List α × Int→Option (Ctl (List α × Int) ε)} {K:ε→Option β} {r:Option β} {a0:List α} (xs:List Int) (q:Int→Prop) (v:Int→α) {e:ε} (hn:xs.length<4611686018427387904)
  (h:∀ (i:Nat) (acc:List α),i<xs.length→acc.length≤a0.length+i→(q (ix xs i)→body (acc,(i:Int))=some (.next (acc++[v (ix xs i)],(i:Int)+1)))∧(¬ q (ix xs i)→body (acc,(i:Int))=some (.next (acc,(i:Int)+1))))
  (he:body (a0++(xs.filter (fun f=>bo (q f))).map v,(xs.length:Int))=some (.ret e)) (hk:K e=r):(QH body fuel (a0,0)).bind K=r:=by
 refine QM xs.length (fun i=>a0++((xs.take i).filter fun f=>bo (q f)).map v) (e:=e) (by simp) hn (fun i hi=>?_) (by simpa using he) hk;have hl:((xs.take i).filter fun f=>bo (q f)).length≤i:=Nat.le_trans (List.length_filter_le _ _) (by simp;omega);have hs:xs.take (i+1)=xs.take i++[ix xs i]:=by rw [List.take_succ_eq_append_getElem hi,Q1J _ _ hi]
 have hf:((xs.take (i+1)).filter fun f=>bo (q f))=((xs.take i).filter fun f=>bo (q f))++(if bo (q (ix xs i))=true then [ix xs i] else []):=by rw [hs,List.filter_append];simp [List.filter_cons]
 obtain ⟨h1,h2⟩:=h i (a0++((xs.take i).filter fun f=>bo (q f)).map v) hi (by simp;exact hl)
 by_cases hq:q (ix xs i)
 ·rw [h1 hq,hf,QJ hq];simp
 rw [h2 hq,hf,Qv hq];simp
noncomputable def algL (m:Mnd) (x:Int):List Int:=(homL m.f.s (ix m.f.ob x) x).filter fun h=>bo (Alg m x h)
noncomputable def Q2g {α:Type} (m:Mnd) (v:Int→Int→α) (n:Nat):List α:=(List.range n).flatMap fun (x:Nat)=>(algL m (x:Int)).map (v (x:Int))
theorem Q4r {α:Type} (m:Mnd) (v:Int→Int→α) (n:Nat):Q2g m v (n+1)=Q2g m v n++(algL m n).map (v n):=by
 simp [Q2g,List.range_succ]
theorem algL_len (m:Mnd) (x:Int):(algL m x).length≤m.f.s.fr.length:=Nat.le_trans (List.length_filter_le _ _) (Q4W _ _ _)
theorem Q5e {α:Type} (m:Mnd) (v:Int→Int→α) (h:m.f.s.fr.length≤40) (n:Nat):(Q2g m v n).length≤n * 40:=by
 induction n with
 | zero=>simp [Q2g]
 | succ n ih =>
  have:=algL_len m n;rw [Q4r,List.length_append,List.length_map];omega
theorem e_l17All {m:Mnd} (hm:m.Is):Q2P m=some (Q2g m (fun x h=>[x,h]) m.f.s.n.toNat):=by
 obtain ⟨l1,l2,l3,l4,l5,l6,l7,l8,l9⟩:=hm.pre.len;have hc:=hm.pre.f.s;unfold Q2P;refine QM m.f.s.n.toNat (fun i=>Q2g m (fun x h=>[x,h]) i) (e:=Q2g m (fun x h=>[x,h]) m.f.s.n.toNat) rfl (by omega) (fun i hi=>?_) (by simp;try omega) rfl;have hL:=Q5e m (fun x h=>[x,h]) (by omega) i;have hH:=Q4W m.f.s (ix m.f.ob i) i;simp only;rw [if_pos (by omega),Qa (by omega),(Q8X hc _ _).1];simp only [Option.bind_some,Option.bind_assoc];refine fm_bind (homL m.f.s (ix m.f.ob i) i) (fun h=>Alg m i h) (fun h=>[(i:Int),h]) (e:=Q2g m (fun x h=>[x,h]) (i+1)) (by omega) (fun k acc hk ha=>?_) (by simp [Q4r,algL]) ?_
 ·have af:=Q9a Q4e hk;have b1:=af.1;have g:=(e_alg hm (x:=i) (h:=ix (homL m.f.s (ix m.f.ob i) i) k) (by omega) b1).1;refine ⟨fun hq=>?_,fun hq=>?_⟩
  ·rw [QJ hq] at g;simp (disch:=omega) only [Qa,g,Option.bind_some];simp (disch:=omega) [Qa,B64,hk];try omega
  rw [Qv hq] at g;simp (disch:=omega) only [Qa,g,Option.bind_some];simp (disch:=omega) [Qa,B64,hk];try omega
 try simp only [Option.bind_some]
 rw [Qa (by unfold B64;omega)]
theorem e_allAlg {m:Mnd} (hm:m.Is):QQ m=some (Q2g m (fun x h=>(⟨x,h⟩:XAlgebra)) m.f.s.n.toNat):=by
 obtain ⟨l1,l2,l3,l4,l5,l6,l7,l8,l9⟩:=hm.pre.len;have hc:=hm.pre.f.s;unfold QQ;refine QM m.f.s.n.toNat (fun i=>Q2g m (fun x h=>(⟨x,h⟩:XAlgebra)) i) (e:=Q2g m (fun x h=>(⟨x,h⟩:XAlgebra)) m.f.s.n.toNat) rfl (by omega) (fun i hi=>?_) (by simp;try omega) rfl;have hL:=Q5e m (fun x h=>(⟨x,h⟩:XAlgebra)) (by omega) i;have hH:=Q4W m.f.s (ix m.f.ob i) i;simp only;rw [if_pos (by omega)];unfold Q1i;rw [Qa (by omega)];simp only [Option.bind_some];rw [(Q8X hc _ _).2];simp only [Option.bind_some,Option.bind_assoc];refine fm_bind (homL m.f.s (ix m.f.ob i) i) (fun h=>Alg m i h) (fun h=>(⟨(i:Int),h⟩:XAlgebra)) (e:=Q2g m (fun x h=>(⟨x,h⟩:XAlgebra)) (i+1)) (by omega) (fun k acc hk ha=>?_) (by simp [Q4r,algL]) ?_
 ·have af:=Q9a Q4e hk;have b1:=af.1;have g:=(e_alg hm (x:=i) (h:=ix (homL m.f.s (ix m.f.ob i) i) k) (by omega) b1).2;refine ⟨fun hq=>?_,fun hq=>?_⟩
  ·rw [QJ hq] at g;simp (disch:=omega) only [Qa,g,Option.bind_some];simp (disch:=omega) [Qa,B64,hk];try omega
  rw [Qv hq] at g;simp (disch:=omega) only [Qa,g,Option.bind_some];simp (disch:=omega) [Qa,B64,hk];try omega
 try simp only [Option.bind_some]
 rw [Qa (by unfold B64;omega)]
attribute [local simp] eL eI Qm
noncomputable def Q2N (list_:List (List Int)) (i_:Int):Option (List Int) :=
 (QH (σ:=List Int × Int) (ε:=List Int) (fun s7 =>
  if s7.2<(list_.length:Int) then
   ass (0≤s7.2∧s7.2<(list_.length:Int)) <|
   ass (0≤i_∧i_<((rx list_ s7.2).length:Int)) <|
   ass ((s7.1++[ix (rx list_ s7.2) i_]).length≤1073741824) <|
   ass (B64 (s7.2+1)) <|
   some (Ctl.next (s7.1++[ix (rx list_ s7.2) i_],s7.2+1))
  else
   some (Ctl.ret s7.1)) fuel ([],0)).bind fun b1 =>
 some b1
theorem Q6S (list_:List (List Int)) (i_:Int) (r:List Int) (h:Q2N list_ i_=some r):Contract Tryz.prog 66 [.lst true 1 (Ls list_),iV i_] (lI r):=by
 refine Qd (rvs:=[.tmp 4]) (rs:=[lI r]) Tryz.func66 rfl rfl rfl rfl (by simp [Tryz.f66]) fun F hN hP=>?_;unfold Q2N at h;refine Q4 ?_;refine runQ hN fun K hK=>?_;simp [-Q0,-Q5,-Q1,-Q6,-Q2];repeat refine sdQ ?_
 refine hK _ ?_;clear hK K;refine tn ?_;refine Q9 (st':=⟨[(0,.lst true 1 (Ls list_)),(1,iV i_)],[],0⟩) (Qj []) ?_;refine Q4 ?_;refine runQ hN fun K hK=>?_;simp [-Q0,-Q5,-Q1,-Q6,-Q2];repeat refine sdQ ?_
 refine hK _ ?_;clear hK K;refine tn ?_;refine Q9 (st':=⟨[(0,.lst true 1 (Ls list_)),(1,iV i_),(5,.own 0 0 0)],[(0,.mix 1 [])],1⟩) (Qj [(0,0)]) ?_;refine Q4 ?_;refine Q4 ?_;refine runQ hN fun K hK=>?_;simp [-Q0,-Q5,-Q1,-Q6,-Q2];repeat refine sdQ ?_
 refine hK _ ?_;clear hK K;refine tn ?_;refine Q9 (st':=⟨[(1,iV i_),(5,.own 0 0 0),(9,.lst true 1 (Ls list_)),(10,iV (list_.length:Int)),(11,iV 0)],[(0,.mix 1 [])],1⟩) (Qj [(0,0)]) ?_;replace h:=bind_some h;obtain ⟨e1,h,h1⟩:=h;refine Qk (fun b1:List Int=>⟨[(5,.own 0 0 b1.length)],[(0,rI b1)],1⟩) (fun b1=>b1=e1) ?_ ?_
 ·refine Qc ?_;refine Qw h (fun s7:List Int × Int=>⟨[(1,iV i_),(5,.own 0 0 s7.1.length),(9,.lst true 1 (Ls list_)),(10,iV (list_.length:Int)),(11,iV s7.2)],[(0,rI s7.1)],1⟩) (Q33 ⟨[(1,iV i_),(5,.own 0 0 0),(9,.lst true 1 (Ls list_)),(10,iV (list_.length:Int)),(11,iV 0)],[(0,rI [])],1⟩ (Wk.nils [] (by simp) (by simp) (by simp [nlA]) (by simp [entN,nlL,nlA,UA,U1,IA,I1,LA,L1,BA,B1,EA,E1,E2,eB,eI,eL]) (by simp)) (Qj [(0,0)])) ?_;clear h;intro k7 s7 c7 h hk7;refine Q4 ?_;refine runQ hN fun K hK=>?_;simp [-Q0,-Q5,-Q1,-Q6,-Q2];repeat refine sdQ ?_
  refine hK _ ?_;clear hK K;refine tn ?_;refine Q9 (st':=⟨[(1,iV i_),(5,.own 0 0 s7.1.length),(9,.lst true 1 (Ls list_)),(10,iV (list_.length:Int)),(11,iV s7.2),(12,.val (.bool (decide (s7.2<(list_.length:Int)))))],[(0,rI s7.1)],1⟩) (Qj [(0,0)]) ?_;refine Q4 ?_;refine Qe rfl (fun g=>?_) fun g=>?_
  ·have g8:s7.2<(list_.length:Int):=gQ;clear g;replace h:=if_l g8 h;refine Qf ?_;refine tn ?_;refine Q4 ?_;refine Qc ?_;refine Q4 ?_;refine runQ hN fun K hK=>?_;replace h:=Q8 h;obtain ⟨a9,h⟩:=h;simp [-Q0,-Q5,-Q1,-Q6,-Q2,at_L a9];(repeat refine sdQ ?_);refine hK _ ?_;clear hK K;refine tn ?_;refine Q9 (st':=⟨[(1,iV i_),(5,.own 0 0 s7.1.length),(7,lI (rx list_ s7.2)),(9,.lst true 1 (Ls list_)),(10,iV (list_.length:Int)),(11,iV s7.2)],[(0,rI s7.1)],1⟩) (Qj [(0,0)]) ?_;refine runQ hN fun K hK=>?_;replace h:=Q8 h;obtain ⟨a10,h⟩:=h;replace h:=Q8 h;obtain ⟨a11,h⟩:=h;(try simp only [List.length_append,List.length_cons,List.length_nil] at a11);simp [-Q0,-Q5,-Q1,-Q6,-Q2,at_I a10,a11];(repeat refine sdQ ?_);refine hK _ ?_;clear hK K;refine bn ?_;refine tn ?_;refine Q9 (st':=⟨[(1,iV i_),(5,.own 0 0 ((s7.1++[ix (rx list_ s7.2) i_]).length)),(9,.lst true 1 (Ls list_)),(10,iV (list_.length:Int)),(11,iV s7.2)],[(0,rI (s7.1++[ix (rx list_ s7.2) i_]))],1⟩) (Qj [(2,0)]) ?_;refine runQ hN fun K hK=>?_;replace h:=Q8 h;obtain ⟨a12,h⟩:=h;simp [-Q0,-Q5,-Q1,-Q6,-Q2,Qs a12];(repeat refine sdQ ?_);refine hK _ ?_;clear hK K;cases h;exact rn (s':=(s7.1++[ix (rx list_ s7.2) i_],s7.2+1)) hk7 (Qj [(0,0)])
  have g8:¬ (s7.2<(list_.length:Int)):=gQ;clear g;replace h:=if_r g8 h;refine Qp ?_;refine tx ?_;refine lx ?_;refine bh ?_;cases h;exact jn (b:=s7.1) hk7 (Qj [(0,0)])
 intro b1 hb1;have h:=h1;try rw [← hb1] at h
 clear h1;try dsimp only at h
 refine Q4 ?_;refine runQ hN fun K hK=>?_;simp [-Q0,-Q5,-Q1,-Q6,-Q2];repeat refine sdQ ?_
 refine hK _ ?_;clear hK K;refine tn ?_;refine Q9 (st':=⟨[(4,.own 0 0 b1.length)],[(0,rI b1)],1⟩) (Qj [(0,0)]) ?_;refine Qi ?_;have hr:=Option.some.inj h;rw [← hr];refine ⟨_,(.tmp .nil),?_⟩;refine ⟨(.one rfl rfl .nil),[lI b1],[0],by simp [UA,U1,IA,I1,LA,L1,BA,B1,EA,E1,E2,eB,eI,eL],by simp,(UpL.refl _)⟩
attribute [local simp] eL eI Qm
noncomputable def Q5m (lists_:List (List Int)):Option ByteArray :=
 (QH (σ:=List Int × Int) (ε:=List Int) (fun s16 =>
  if s16.2<(lists_.length:Int) then
   ass (0≤s16.2∧s16.2<(lists_.length:Int)) <|
   (QH (σ:=List Int × Int) (ε:=List Int) (fun s24 =>
    if s24.2<((rx lists_ s16.2).length:Int) then
     ass (0≤s24.2∧s24.2<((rx lists_ s16.2).length:Int)) <|
     ass ((s24.1++[IntKind.u8.wrap (ix (rx lists_ s16.2) s24.2)]).length≤1073741824) <|
     ass (B64 (s24.2+1)) <|
     some (Ctl.next (s24.1++[IntKind.u8.wrap (ix (rx lists_ s16.2) s24.2)],s24.2+1))
    else
     some (Ctl.ret s24.1)) fuel (s16.1,0)).bind fun b19 =>
   ass ((b19++[255]).length≤1073741824) <|
   ass (B64 (s16.2+1)) <|
   some (Ctl.next (b19++[255],s16.2+1))
  else
   some (Ctl.ret s16.1)) fuel ([],0)).bind fun b1 =>
 some (Q28 b1)
theorem w_i_key (lists_:List (List Int)) (r:ByteArray) (h:Q5m lists_=some r):Contract Tryz.prog 53 [.lst true 1 (Ls lists_)] (.val (.string r)):=by
 refine Qd (rvs:=[.tmp 2]) (rs:=[.val (.string r)]) Tryz.func53 rfl rfl rfl rfl (by simp [Tryz.f53]) fun F hN hP=>?_;unfold Q5m at h;refine Q4 ?_;refine runQ hN fun K hK=>?_;simp [-Q0,-Q5,-Q1,-Q6,-Q2];repeat refine sdQ ?_
 refine hK _ ?_;clear hK K;refine tn ?_;refine Q9 (st':=⟨[(0,.lst true 1 (Ls lists_))],[],0⟩) (Qj []) ?_;refine Q4 ?_;refine runQ hN fun K hK=>?_;simp [-Q0,-Q5,-Q1,-Q6,-Q2];repeat refine sdQ ?_
 refine hK _ ?_;clear hK K;refine tn ?_;refine Q9 (st':=⟨[(0,.lst true 1 (Ls lists_)),(3,.own 0 0 0)],[(0,.mix 1 [])],1⟩) (Qj [(0,0)]) ?_;refine Q4 ?_;refine Q4 ?_;refine runQ hN fun K hK=>?_;simp [-Q0,-Q5,-Q1,-Q6,-Q2];repeat refine sdQ ?_
 refine hK _ ?_;clear hK K;refine tn ?_;refine Q9 (st':=⟨[(3,.own 0 0 0),(9,.lst true 1 (Ls lists_)),(10,iV (lists_.length:Int)),(11,iV 0)],[(0,.mix 1 [])],1⟩) (Qj [(0,0)]) ?_;replace h:=bind_some h;obtain ⟨e1,h,h1⟩:=h;refine Qk (fun b1:List Int=>⟨[(3,.own 0 0 b1.length)],[(0,.row 1 (Us b1))],1⟩) (fun b1=>b1=e1) ?_ ?_
 ·refine Qc ?_;refine Qw h (fun s16:List Int × Int=>⟨[(3,.own 0 0 s16.1.length),(9,.lst true 1 (Ls lists_)),(10,iV (lists_.length:Int)),(11,iV s16.2)],[(0,.row 1 (Us s16.1))],1⟩) (Q33 ⟨[(3,.own 0 0 0),(9,.lst true 1 (Ls lists_)),(10,iV (lists_.length:Int)),(11,iV 0)],[(0,.row 1 (Us []))],1⟩ (Wk.nils [] (by simp) (by simp) (by simp [nlA]) (by simp [entN,nlL,nlA,UA,U1,IA,I1,LA,L1,BA,B1,EA,E1,E2,eB,eI,eL]) (by simp)) (Qj [(0,0)])) ?_;clear h;intro k16 s16 c16 h hk16;refine Q4 ?_;refine runQ hN fun K hK=>?_;simp [-Q0,-Q5,-Q1,-Q6,-Q2];repeat refine sdQ ?_
  refine hK _ ?_;clear hK K;refine tn ?_;refine Q9 (st':=⟨[(3,.own 0 0 s16.1.length),(9,.lst true 1 (Ls lists_)),(10,iV (lists_.length:Int)),(11,iV s16.2),(12,.val (.bool (decide (s16.2<(lists_.length:Int)))))],[(0,.row 1 (Us s16.1))],1⟩) (Qj [(0,0)]) ?_;refine Q4 ?_;refine Qe rfl (fun g=>?_) fun g=>?_
  ·have g17:s16.2<(lists_.length:Int):=gQ;clear g;replace h:=if_l g17 h;refine Qf ?_;refine tn ?_;refine Q4 ?_;refine Qc ?_;refine Q4 ?_;refine runQ hN fun K hK=>?_;replace h:=Q8 h;obtain ⟨a18,h⟩:=h;simp [-Q0,-Q5,-Q1,-Q6,-Q2,at_L a18];(repeat refine sdQ ?_);refine hK _ ?_;clear hK K;refine tn ?_;refine Q9 (st':=⟨[(3,.own 0 0 s16.1.length),(5,lI (rx lists_ s16.2)),(9,.lst true 1 (Ls lists_)),(10,iV (lists_.length:Int)),(11,iV s16.2)],[(0,.row 1 (Us s16.1))],1⟩) (Qj [(0,0)]) ?_;refine Q4 ?_;refine Q4 ?_;refine runQ hN fun K hK=>?_;simp [-Q0,-Q5,-Q1,-Q6,-Q2];(repeat refine sdQ ?_);refine hK _ ?_;clear hK K;refine tn ?_;refine Q9 (st':=⟨[(3,.own 0 0 s16.1.length),(9,.lst true 1 (Ls lists_)),(10,iV (lists_.length:Int)),(11,iV s16.2),(15,lI (rx lists_ s16.2)),(16,iV ((rx lists_ s16.2).length:Int)),(17,iV 0)],[(0,.row 1 (Us s16.1))],1⟩) (Qj [(0,0)]) ?_;replace h:=bind_some h;obtain ⟨e19,h,h19⟩:=h;refine Qk (fun b19:List Int=>⟨[(3,.own 0 0 b19.length),(9,.lst true 1 (Ls lists_)),(10,iV (lists_.length:Int)),(11,iV s16.2)],[(0,.row 1 (Us b19))],1⟩) (fun b19=>b19=e19) ?_ ?_
   ·refine Qc ?_;refine Qw h (fun s24:List Int × Int=>⟨[(3,.own 0 0 s24.1.length),(9,.lst true 1 (Ls lists_)),(10,iV (lists_.length:Int)),(11,iV s16.2),(15,lI (rx lists_ s16.2)),(16,iV ((rx lists_ s16.2).length:Int)),(17,iV s24.2)],[(0,.row 1 (Us s24.1))],1⟩) (Qj [(0,0)]) ?_;clear h;intro k24 s24 c24 h hk24;refine Q4 ?_;refine runQ hN fun K hK=>?_;simp [-Q0,-Q5,-Q1,-Q6,-Q2];(repeat refine sdQ ?_);refine hK _ ?_;clear hK K;refine tn ?_;refine Q9 (st':=⟨[(3,.own 0 0 s24.1.length),(9,.lst true 1 (Ls lists_)),(10,iV (lists_.length:Int)),(11,iV s16.2),(15,lI (rx lists_ s16.2)),(16,iV ((rx lists_ s16.2).length:Int)),(17,iV s24.2),(18,.val (.bool (decide (s24.2<((rx lists_ s16.2).length:Int)))))],[(0,.row 1 (Us s24.1))],1⟩) (Qj [(0,0)]) ?_;refine Q4 ?_;refine Qe rfl (fun g=>?_) fun g=>?_
    ·have g25:s24.2<((rx lists_ s16.2).length:Int):=gQ;clear g;replace h:=if_l g25 h;refine Qf ?_;refine tn ?_;refine Q4 ?_;refine Qc ?_;refine Q4 ?_;refine runQ hN fun K hK=>?_;replace h:=Q8 h;obtain ⟨a26,h⟩:=h;simp [-Q0,-Q5,-Q1,-Q6,-Q2,at_I a26];(repeat refine sdQ ?_);refine hK _ ?_;clear hK K;refine tn ?_;refine Q9 (st':=⟨[(3,.own 0 0 s24.1.length),(7,iV (ix (rx lists_ s16.2) s24.2)),(9,.lst true 1 (Ls lists_)),(10,iV (lists_.length:Int)),(11,iV s16.2),(15,lI (rx lists_ s16.2)),(16,iV ((rx lists_ s16.2).length:Int)),(17,iV s24.2)],[(0,.row 1 (Us s24.1))],1⟩) (Qj [(0,0)]) ?_;refine runQ hN fun K hK=>?_;replace h:=Q8 h;obtain ⟨a27,h⟩:=h;(try simp only [List.length_append,List.length_cons,List.length_nil] at a27);simp [-Q0,-Q5,-Q1,-Q6,-Q2,a27];(repeat refine sdQ ?_);refine hK _ ?_;clear hK K;refine bn ?_;refine tn ?_;refine Q9 (st':=⟨[(3,.own 0 0 ((s24.1++[IntKind.u8.wrap (ix (rx lists_ s16.2) s24.2)]).length)),(9,.lst true 1 (Ls lists_)),(10,iV (lists_.length:Int)),(11,iV s16.2),(15,lI (rx lists_ s16.2)),(16,iV ((rx lists_ s16.2).length:Int)),(17,iV s24.2)],[(0,.row 1 (Us (s24.1++[IntKind.u8.wrap (ix (rx lists_ s16.2) s24.2)])))],1⟩) (Qj [(2,0)]) ?_;refine runQ hN fun K hK=>?_;replace h:=Q8 h;obtain ⟨a28,h⟩:=h;simp [-Q0,-Q5,-Q1,-Q6,-Q2,Qs a28];(repeat refine sdQ ?_);refine hK _ ?_;clear hK K;cases h;exact rn (s':=(s24.1++[IntKind.u8.wrap (ix (rx lists_ s16.2) s24.2)],s24.2+1)) hk24 (Qj [(0,0)])
    have g25:¬ (s24.2<((rx lists_ s16.2).length:Int)):=gQ;clear g;replace h:=if_r g25 h;refine Qp ?_;refine tx ?_;refine lx ?_;refine bh ?_;cases h;exact jn (b:=s24.1) hk24 (Qj [(0,0)])
   intro b19 hb19;have h:=h19;(try rw [← hb19] at h);clear h19;(try dsimp only at h);refine runQ hN fun K hK=>?_;replace h:=Q8 h;obtain ⟨a29,h⟩:=h;(try simp only [List.length_append,List.length_cons,List.length_nil] at a29);simp [-Q0,-Q5,-Q1,-Q6,-Q2,a29];(repeat refine sdQ ?_);refine hK _ ?_;clear hK K;refine bn ?_;refine tn ?_;refine Q9 (st':=⟨[(3,.own 0 0 ((b19++[255]).length)),(9,.lst true 1 (Ls lists_)),(10,iV (lists_.length:Int)),(11,iV s16.2)],[(0,.row 1 (Us (b19++[255])))],1⟩) (Qj [(2,0)]) ?_;refine runQ hN fun K hK=>?_;replace h:=Q8 h;obtain ⟨a30,h⟩:=h;simp [-Q0,-Q5,-Q1,-Q6,-Q2,Qs a30];(repeat refine sdQ ?_);refine hK _ ?_;clear hK K;cases h;exact rn (s':=(b19++[255],s16.2+1)) hk16 (Qj [(0,0)])
  have g17:¬ (s16.2<(lists_.length:Int)):=gQ;clear g;replace h:=if_r g17 h;refine Qp ?_;refine tx ?_;refine lx ?_;refine bh ?_;cases h;exact jn (b:=s16.1) hk16 (Qj [(0,0)])
 intro b1 hb1;have h:=h1;try rw [← hb1] at h
 clear h1;try dsimp only at h
 refine Q4 ?_;refine QC [32] mo (by rw [hN];decide) fun K hK=>?_;simp [-Q0,-Q5,-Q1,-Q6,-Q2];repeat refine sdQ ?_
 refine hK _ ?_;clear hK K;refine tn ?_;refine Q9 (st':=⟨[(2,.val (.string (Q28 b1)))],[],0⟩) (Qj []) ?_;refine Qi ?_;have hr:=Option.some.inj h;rw [← hr];refine ⟨_,(.tmp .nil),?_⟩;refine ⟨(.one rfl rfl .nil),[.val (.string (Q28 b1))],[],by simp [UA,U1,IA,I1,LA,L1,BA,B1,EA,E1,E2,eB,eI,eL],by simp,(UpL.refl _)⟩
attribute [local simp] eL eI Qm
noncomputable def Q3m (list_:List (List Int)):Option (List (ByteArray × Int)) :=
 (QH (σ:=(List (ByteArray × Int)) × Int) (ε:=List (ByteArray × Int)) (fun s7 =>
  if s7.2<(list_.length:Int) then
   ass (0≤s7.2∧s7.2<(list_.length:Int)) <|
   (Q5m [rx list_ s7.2]).bind fun v10 =>
   ass (s7.1.length<1099511627776) <|
   ass (B64 (s7.2+1)) <|
   some (Ctl.next (tset v10 s7.2 s7.1,s7.2+1))
  else
   some (Ctl.ret s7.1)) fuel ([],0)).bind fun b1 =>
 some b1
theorem Qa0 (list_:List (List Int)) (r:List (ByteArray × Int)) (h:Q3m list_=some r):FContract Tryz.prog false 52 [.lst true 1 (Ls list_)] (.cmap .str (Msi r)):=by
 refine Q2R false (ts:=[2]) (rs:=[.cmap .str (Msi r)]) Tryz.func52 rfl rfl rfl rfl (by simp [Tryz.f52]) fun F hN hP=>?_;unfold Q3m at h;refine Q4 ?_;refine QC [] mo (by rw [hN];decide) fun K hK=>?_;simp [-Q0,-Q5,-Q1,-Q6,-Q2];repeat refine sdQ ?_
 refine hK _ ?_;clear hK K;refine tn ?_;refine Q9 (st':=⟨[(0,.lst true 1 (Ls list_))],[],0⟩) (Qj []) ?_;refine Q4 ?_;refine QC [] mo (by rw [hN];decide) fun K hK=>?_;simp [-Q0,-Q5,-Q1,-Q6,-Q2];repeat refine sdQ ?_
 refine hK _ ?_;clear hK K;refine tn ?_;refine Q9 (st':=⟨[(0,.lst true 1 (Ls list_)),(3,.mp 0)],[(0,.mapE .str (Msi []))],1⟩) (Qj [(0,0)]) ?_;refine Q4 ?_;refine Q4 ?_;refine QC [] mo (by rw [hN];decide) fun K hK=>?_;simp [-Q0,-Q5,-Q1,-Q6,-Q2];repeat refine sdQ ?_
 refine hK _ ?_;clear hK K;refine tn ?_;refine Q9 (st':=⟨[(3,.mp 0),(7,.lst true 1 (Ls list_)),(8,iV (list_.length:Int)),(9,iV 0)],[(0,.mapE .str (Msi []))],1⟩) (Qj [(0,0)]) ?_;replace h:=bind_some h;obtain ⟨e1,h,h1⟩:=h;refine Qk (fun b1:List (ByteArray × Int)=>⟨[(3,.mp 0)],[(0,.mapE .str (Msi b1))],1⟩) (fun b1=>b1=e1) ?_ ?_
 ·refine Qc ?_;refine Qw h (fun s7:(List (ByteArray × Int)) × Int=>⟨[(3,.mp 0),(7,.lst true 1 (Ls list_)),(8,iV (list_.length:Int)),(9,iV s7.2)],[(0,.mapE .str (Msi s7.1))],1⟩) (Qj [(0,0)]) ?_;clear h;intro k7 s7 c7 h hk7;refine Q4 ?_;refine QC [] mo (by rw [hN];decide) fun K hK=>?_;simp [-Q0,-Q5,-Q1,-Q6,-Q2];repeat refine sdQ ?_
  refine hK _ ?_;clear hK K;refine tn ?_;refine Q9 (st':=⟨[(3,.mp 0),(7,.lst true 1 (Ls list_)),(8,iV (list_.length:Int)),(9,iV s7.2),(10,.val (.bool (decide (s7.2<(list_.length:Int)))))],[(0,.mapE .str (Msi s7.1))],1⟩) (Qj [(0,0)]) ?_;refine Q4 ?_;refine Qe rfl (fun g=>?_) fun g=>?_
  ·have g8:s7.2<(list_.length:Int):=gQ;clear g;replace h:=if_l g8 h;refine Qf ?_;refine tn ?_;refine Q4 ?_;refine Qc ?_;refine Q4 ?_;refine QC [] mo (by rw [hN];decide) fun K hK=>?_;replace h:=Q8 h;obtain ⟨a9,h⟩:=h;simp [-Q0,-Q5,-Q1,-Q6,-Q2,at_L a9];(repeat refine sdQ ?_);refine hK _ ?_;clear hK K;refine tn ?_;refine Q9 (st':=⟨[(3,.mp 0),(4,iV s7.2),(5,lI (rx list_ s7.2)),(7,.lst true 1 (Ls list_)),(8,iV (list_.length:Int)),(9,iV s7.2)],[(0,.mapE .str (Msi s7.1))],1⟩) (Qj [(0,0)]) ?_;refine QC [] mo (by rw [hN];decide) fun K hK=>?_;simp [-Q0,-Q5,-Q1,-Q6,-Q2];(repeat with_reducible refine sdQ ?_);replace h:=bind_some h;obtain ⟨v10,hv10,h⟩:=h;refine QX (fz:=[]) (w_i_key _ v10 hv10) (.cons (.lits (es:=_) rfl (.cons rfl (.cons .lst .nil) .nil) rfl) .nil) ?_;replace h:=Q8 h;obtain ⟨a11,h⟩:=h;simp [-Q0,-Q5,-Q1,-Q6,-Q2,unk,unA,unE,unT,unC,flat,a11];(repeat refine sdQ ?_);refine hK _ ?_;clear hK K;refine bn ?_;refine tn ?_;refine Q9 (st':=⟨[(3,.mp 0),(7,.lst true 1 (Ls list_)),(8,iV (list_.length:Int)),(9,iV s7.2)],[(0,.mapE .str (Msi (tset v10 s7.2 s7.1)))],1⟩) (Qj [(0,0)]) ?_;refine QC [] mo (by rw [hN];decide) fun K hK=>?_;replace h:=Q8 h;obtain ⟨a12,h⟩:=h;simp [-Q0,-Q5,-Q1,-Q6,-Q2,Qs a12];(repeat refine sdQ ?_);refine hK _ ?_;clear hK K;cases h;exact rn (s':=(tset v10 s7.2 s7.1,s7.2+1)) hk7 (Qj [(0,0)])
  have g8:¬ (s7.2<(list_.length:Int)):=gQ;clear g;replace h:=if_r g8 h;refine Qp ?_;refine tx ?_;refine lx ?_;refine bh ?_;cases h;exact jn (b:=s7.1) hk7 (Qj [(0,0)])
 intro b1 hb1;have h:=h1;try rw [← hb1] at h
 clear h1;try dsimp only at h
 refine Q4 ?_;refine QC [] mo (by rw [hN];decide) fun K hK=>?_;simp [-Q0,-Q5,-Q1,-Q6,-Q2];repeat refine sdQ ?_
 refine hK _ ?_;clear hK K;refine tn ?_;refine Q9 (st':=⟨[(2,.mp 0)],[(0,.mapE .str (Msi b1))],1⟩) (Qj [(0,0)]) ?_;refine Qi ?_;have hr:=Option.some.inj h;rw [← hr];exact (.one (by simp [ownB]) (.mp rfl) .nil)
attribute [local simp] eL eI Qm
noncomputable def Q1o (lists_:List (List Int)) (k_:Int):Option (List Int) :=
 (QH (σ:=List Int × Int) (ε:=List Int) (fun s7 =>
  if s7.2<(lists_.length:Int) then
   ass (0≤s7.2∧s7.2<(lists_.length:Int)) <|
   ass (0≤k_∧k_<((rx lists_ s7.2).length:Int)) <|
   ass ((s7.1++[ix (rx lists_ s7.2) k_]).length≤1073741824) <|
   ass (B64 (s7.2+1)) <|
   some (Ctl.next (s7.1++[ix (rx lists_ s7.2) k_],s7.2+1))
  else
   some (Ctl.ret s7.1)) fuel ([],0)).bind fun b1 =>
 some b1
theorem Q5b (lists_:List (List Int)) (k_:Int) (r:List Int) (h:Q1o lists_ k_=some r):Contract Tryz.prog 62 [.lst true 1 (Ls lists_),iV k_] (lI r):=by
 refine Qd (rvs:=[.tmp 4]) (rs:=[lI r]) Tryz.func62 rfl rfl rfl rfl (by simp [Tryz.f62]) fun F hN hP=>?_;unfold Q1o at h;refine Q4 ?_;refine runQ hN fun K hK=>?_;simp [-Q0,-Q5,-Q1,-Q6,-Q2];repeat refine sdQ ?_
 refine hK _ ?_;clear hK K;refine tn ?_;refine Q9 (st':=⟨[(0,.lst true 1 (Ls lists_)),(1,iV k_)],[],0⟩) (Qj []) ?_;refine Q4 ?_;refine runQ hN fun K hK=>?_;simp [-Q0,-Q5,-Q1,-Q6,-Q2];repeat refine sdQ ?_
 refine hK _ ?_;clear hK K;refine tn ?_;refine Q9 (st':=⟨[(0,.lst true 1 (Ls lists_)),(1,iV k_),(5,.own 0 0 0)],[(0,.mix 1 [])],1⟩) (Qj [(0,0)]) ?_;refine Q4 ?_;refine Q4 ?_;refine runQ hN fun K hK=>?_;simp [-Q0,-Q5,-Q1,-Q6,-Q2];repeat refine sdQ ?_
 refine hK _ ?_;clear hK K;refine tn ?_;refine Q9 (st':=⟨[(0,.lst true 1 (Ls lists_)),(1,iV k_),(5,.own 0 0 0),(6,iV 0)],[(0,.mix 1 [])],1⟩) (Qj [(0,0)]) ?_;replace h:=bind_some h;obtain ⟨e1,h,h1⟩:=h;refine Qk (fun b1:List Int=>⟨[(5,.own 0 0 b1.length)],[(0,rI b1)],1⟩) (fun b1=>b1=e1) ?_ ?_
 ·refine Qc ?_;refine Qw h (fun s7:List Int × Int=>⟨[(0,.lst true 1 (Ls lists_)),(1,iV k_),(5,.own 0 0 s7.1.length),(6,iV s7.2)],[(0,rI s7.1)],1⟩) (Q33 ⟨[(0,.lst true 1 (Ls lists_)),(1,iV k_),(5,.own 0 0 0),(6,iV 0)],[(0,rI [])],1⟩ (Wk.nils [] (by simp) (by simp) (by simp [nlA]) (by simp [entN,nlL,nlA,UA,U1,IA,I1,LA,L1,BA,B1,EA,E1,E2,eB,eI,eL]) (by simp)) (Qj [(0,0)])) ?_;clear h;intro k7 s7 c7 h hk7;refine Q4 ?_;refine Q4 ?_;refine runQ hN fun K hK=>?_;simp [-Q0,-Q5,-Q1,-Q6,-Q2];repeat refine sdQ ?_
  refine hK _ ?_;clear hK K;refine tn ?_;refine Q9 (st':=⟨[(0,.lst true 1 (Ls lists_)),(1,iV k_),(5,.own 0 0 s7.1.length),(6,iV s7.2),(11,.val (.bool (decide (s7.2<(lists_.length:Int)))))],[(0,rI s7.1)],1⟩) (Qj [(0,0)]) ?_;refine Qe rfl (fun g=>?_) fun g=>?_
  ·have g8:s7.2<(lists_.length:Int):=gQ;clear g;replace h:=if_l g8 h;refine Qf ?_;refine tn ?_;refine Q4 ?_;refine Qc ?_;refine runQ hN fun K hK=>?_;replace h:=Q8 h;obtain ⟨a9,h⟩:=h;replace h:=Q8 h;obtain ⟨a10,h⟩:=h;replace h:=Q8 h;obtain ⟨a11,h⟩:=h;(try simp only [List.length_append,List.length_cons,List.length_nil] at a11);simp [-Q0,-Q5,-Q1,-Q6,-Q2,at_L a9,at_I a10,a11];(repeat refine sdQ ?_);refine hK _ ?_;clear hK K;refine bn ?_;refine tn ?_;refine Q9 (st':=⟨[(0,.lst true 1 (Ls lists_)),(1,iV k_),(5,.own 0 0 ((s7.1++[ix (rx lists_ s7.2) k_]).length)),(6,iV s7.2)],[(0,rI (s7.1++[ix (rx lists_ s7.2) k_]))],1⟩) (Qj [(2,0)]) ?_;refine runQ hN fun K hK=>?_;replace h:=Q8 h;obtain ⟨a12,h⟩:=h;simp [-Q0,-Q5,-Q1,-Q6,-Q2,Qs a12];(repeat refine sdQ ?_);refine hK _ ?_;clear hK K;cases h;exact rn (s':=(s7.1++[ix (rx lists_ s7.2) k_],s7.2+1)) hk7 (Qj [(0,0)])
  have g8:¬ (s7.2<(lists_.length:Int)):=gQ;clear g;replace h:=if_r g8 h;refine Qp ?_;refine tx ?_;refine lx ?_;refine bh ?_;cases h;exact jn (b:=s7.1) hk7 (Qj [(0,0)])
 intro b1 hb1;have h:=h1;try rw [← hb1] at h
 clear h1;try dsimp only at h
 refine Q4 ?_;refine runQ hN fun K hK=>?_;simp [-Q0,-Q5,-Q1,-Q6,-Q2];repeat refine sdQ ?_
 refine hK _ ?_;clear hK K;refine tn ?_;refine Q9 (st':=⟨[(4,.own 0 0 b1.length)],[(0,rI b1)],1⟩) (Qj [(0,0)]) ?_;refine Qi ?_;have hr:=Option.some.inj h;rw [← hr];refine ⟨_,(.tmp .nil),?_⟩;refine ⟨(.one rfl rfl .nil),[lI b1],[0],by simp [UA,U1,IA,I1,LA,L1,BA,B1,EA,E1,E2,eB,eI,eL],by simp,(UpL.refl _)⟩
attribute [local simp] eL eI Qm
noncomputable def Q1O (lists_:List (List Int)) (list_:List Int):Option Int :=
 (QH (σ:=Int) (ε:=Unit ⊕ Int) (fun s7 =>
  if s7<(lists_.length:Int) then
   ass (0≤s7∧s7<(lists_.length:Int)) <|
   (Q3y (rx lists_ s7) list_).bind fun v10 =>
   if v10=true then
    some (Ctl.ret (Sum.inr s7))
   else
    ass (B64 (s7+1)) <|
    some (Ctl.next (s7+1))
  else
   some (Ctl.ret (Sum.inl ()))) fuel 0).bind fun e1 =>
 match e1 with
 | .inl b1 =>
  some (-1)
 | .inr p1 =>
  some p1
theorem Q3E (lists_:List (List Int)) (list_:List Int) (r:Int) (h:Q1O lists_ list_=some r):Contract Tryz.prog 45 [.lst true 1 (Ls lists_),lI list_] (iV r):=by
 refine Qd (rvs:=[.tmp 4]) (rs:=[iV r]) Tryz.func45 rfl rfl rfl rfl (by simp [Tryz.f45]) fun F hN hP=>?_;unfold Q1O at h;refine Q4 ?_;refine runQ hN fun K hK=>?_;simp [-Q0,-Q5,-Q1,-Q6,-Q2];repeat refine sdQ ?_
 refine hK _ ?_;clear hK K;refine tn ?_;refine Q9 (st':=⟨[(0,.lst true 1 (Ls lists_)),(1,lI list_)],[],0⟩) (Qj []) ?_;refine Q4 ?_;refine Q4 ?_;refine runQ hN fun K hK=>?_;simp [-Q0,-Q5,-Q1,-Q6,-Q2];repeat refine sdQ ?_
 refine hK _ ?_;clear hK K;refine tn ?_;refine Q9 (st':=⟨[(0,.lst true 1 (Ls lists_)),(1,lI list_),(5,iV 0)],[],0⟩) (Qj []) ?_;replace h:=bind_some h;obtain ⟨e1,h,h1⟩:=h;refine Qk (fun b1:Unit=>⟨[],[],0⟩) (fun b1=>Sum.inl b1=e1) ?_ ?_
 ·refine Qc ?_;refine Qw h (fun s7:Int=>⟨[(0,.lst true 1 (Ls lists_)),(1,lI list_),(5,iV s7)],[],0⟩) (Qj []) ?_;clear h;intro k7 s7 c7 h hk7;refine Q4 ?_;refine Q4 ?_;refine runQ hN fun K hK=>?_;simp [-Q0,-Q5,-Q1,-Q6,-Q2];repeat refine sdQ ?_
  refine hK _ ?_;clear hK K;refine tn ?_;refine Q9 (st':=⟨[(0,.lst true 1 (Ls lists_)),(1,lI list_),(5,iV s7),(9,.val (.bool (decide (s7<(lists_.length:Int)))))],[],0⟩) (Qj []) ?_;refine Qe rfl (fun g=>?_) fun g=>?_
  ·have g8:s7<(lists_.length:Int):=gQ;clear g;replace h:=if_l g8 h;refine Qf ?_;refine tn ?_;refine Q4 ?_;refine Qc ?_;refine Q4 ?_;refine runQ hN fun K hK=>?_;replace h:=Q8 h;obtain ⟨a9,h⟩:=h;simp [-Q0,-Q5,-Q1,-Q6,-Q2,at_L a9];(repeat with_reducible refine sdQ ?_);replace h:=bind_some h;obtain ⟨v10,hv10,h⟩:=h;refine Q3 (Q8I _ _ v10 hv10) (.cons .lst (.cons .lst .nil)) ?_;simp [-Q0,-Q5,-Q1,-Q6,-Q2,unk,unA,unE,unT,unC,flat,at_L a9];(repeat refine sdQ ?_);refine hK _ ?_;clear hK K;refine tn ?_;refine Q9 (st':=⟨[(0,.lst true 1 (Ls lists_)),(1,lI list_),(5,iV s7),(17,.val (.bool v10))],[],0⟩) (Qj []) ?_;refine Qe rfl (fun g=>?_) fun g=>?_
   ·have g11:v10=true:=gQ;clear g;replace h:=if_l g11 h;refine Q4 ?_;refine runQ hN fun K hK=>?_;simp [-Q0,-Q5,-Q1,-Q6,-Q2];(repeat refine sdQ ?_);refine hK _ ?_;clear hK K;refine tn ?_;refine Q9 (st':=⟨[(4,iV s7)],[],0⟩) (Qj []) ?_;refine Qi ?_;refine br ?_;refine tr ?_;refine lr ?_;refine br ?_;refine tr ?_;cases h;have q:_=e1:=hk7;have h:=h1;rw [← q] at h;clear q;(try dsimp only at h);have hr:=Option.some.inj h;rw [← hr];refine ⟨_,(.tmp .nil),?_⟩;refine ⟨(.one rfl rfl .nil),[iV s7],[],by simp [UA,U1,IA,I1,LA,L1,BA,B1,EA,E1,E2,eB,eI,eL],by simp,(UpL.refl _)⟩
   have g11:¬ (v10=true):=gQ;clear g;replace h:=if_r g11 h;refine Qf ?_;refine bn ?_;refine tn ?_;refine runQ hN fun K hK=>?_;replace h:=Q8 h;obtain ⟨a12,h⟩:=h;simp [-Q0,-Q5,-Q1,-Q6,-Q2,Qs a12];(repeat refine sdQ ?_);refine hK _ ?_;clear hK K;cases h;exact rn (s':=s7+1) hk7 (Qj [])
  have g8:¬ (s7<(lists_.length:Int)):=gQ;clear g;replace h:=if_r g8 h;refine Qp ?_;refine tx ?_;refine lx ?_;refine bh ?_;cases h;exact jn (b:=()) hk7 (Qj [])
 intro b1 hb1;have h:=h1;try rw [← hb1] at h
 clear h1;try dsimp only at h
 refine Q4 ?_;refine runQ hN fun K hK=>?_;simp [-Q0,-Q5,-Q1,-Q6,-Q2];repeat refine sdQ ?_
 refine hK _ ?_;clear hK K;refine tn ?_;refine Q9 (st':=⟨[(4,iV (-1))],[],0⟩) (Qj []) ?_;refine Qi ?_;have hr:=Option.some.inj h;rw [← hr];refine ⟨_,(.tmp .nil),?_⟩;refine ⟨(.one rfl rfl .nil),[iV (-1)],[],by simp [UA,U1,IA,I1,LA,L1,BA,B1,EA,E1,E2,eB,eI,eL],by simp,(UpL.refl _)⟩
theorem Q9Z {α β:Type} [DecidableEq α] (k k':α) (v:β) (m:List (α × β)):Q3L k (tset k' v m)=if k'=k then some v else Q3L k m:=by
 induction m with
 | nil=>simp [tset,Q3L]
 | cons p r ih =>
  obtain ⟨a,x⟩:=p;unfold tset
  by_cases h:a=k'
  ·subst h;rw [if_pos rfl]
   by_cases h2:a=k<;>simp [Q3L,h2]
  rw [if_neg h];simp only [Q3L,ih]
  by_cases h2:a=k
  ·subst h2;rw [if_pos rfl,if_pos rfl,if_neg (fun e=>h e.symm)]
  rw [if_neg h2,if_neg h2]
theorem tset_len {α β:Type} [DecidableEq α] (k:α) (v:β) (m:List (α × β)):(tset k v m).length≤m.length+1:=by
 induction m with
 | nil=>simp [tset]
 | cons p r ih =>
  obtain ⟨a,x⟩:=p;unfold tset;split<;>simp;exact ih
def plM {α:Type} [DecidableEq α] (k:Nat→α):Nat→List (α × Int)
 | 0=>[]
 | n+1=>tset (k n) (n:Int) (plM k n)
theorem plM_len {α:Type} [DecidableEq α] (k:Nat→α) (n:Nat):(plM k n).length≤n:=by
 induction n with
 | zero=>simp [plM]
 | succ n ih=>exact Nat.le_trans (tset_len _ _ _) (by omega)
theorem plM_find {α:Type} [DecidableEq α] {k:Nat→α} {n:Nat} (h:∀ a b,a<n→b<n→k a=k b→a=b) {j:Nat} (hj:j<n):Q3L (k j) (plM k n)=some (j:Int):=by
 induction n with
 | zero=>omega
 | succ n ih =>
  rw [plM,Q9Z]
  by_cases e:k n=k j
  ·rw [if_pos e,h n j (by omega) hj e]
  rw [if_neg e];have:j ≠ n:=fun q=>e (by rw [q]);exact ih (fun a b ha hb=>h a b (by omega) (by omega)) (by omega)
theorem Q8a (ns:List Int):(Q28 ns).data.toList=ns.map fun n=>UInt8.ofNat n.toNat:=by
 have:∀ (ns:List Int) (s:ByteArray),(ns.foldl (fun r n=>r.push (UInt8.ofNat n.toNat)) s).data.toList=s.data.toList++ns.map fun n=>UInt8.ofNat n.toNat:=by
  intro ns
  induction ns with
  | nil=>intro s;simp
  | cons n ns ih=>intro s;simp only [List.foldl_cons,ih,List.map_cons];simp [ByteArray.push]
 simpa [Q28] using this ns ByteArray.empty
theorem Q7H {α β:Type} {f:α→β}:∀ {a b:List α},(∀ x∈a,∀ y∈b,f x=f y→x=y)→a.map f=b.map f→a=b:=by
 intro a
 induction a with
 | nil=>intro b _ h;cases b with|nil=>rfl|cons=>simp at h
 | cons x a ih =>
  intro b hi h;cases b with
  | nil=>simp at h
  | cons y b =>
   simp only [List.map_cons,List.cons.injEq] at h;rw [hi x (by simp) y (by simp) h.1,ih (fun u hu v hv=>hi u (by simp [hu]) v (by simp [hv])) h.2]
theorem Q9q {a b:List Int} (ha:∀ x∈a,0≤x∧x<256) (hb:∀ x∈b,0≤x∧x<256) (h:Q28 a=Q28 b):a=b:=by
 have h1:=congrArg (fun s=>s.data.toList) h;simp only [Q8a] at h1;refine Q7H (fun x hx y hy e=>?_) h1;have e2:=congrArg UInt8.toNat e;have p1:=ha x hx;have p2:=hb y hy;simp only [UInt8.toNat_ofNat'] at e2;omega
theorem wrap8 {n:Int} (h0:0≤n) (h1:n<256):IntKind.u8.wrap n=n:=by
 simp [IntKind.wrap,IntKind.signed,IntKind.bits];omega
theorem wrap8_b (n:Int):0≤IntKind.u8.wrap n∧IntKind.u8.wrap n<256:=by
 simp [IntKind.wrap,IntKind.signed,IntKind.bits];omega
def keyB (x:List Int):ByteArray:=Q28 (x.map IntKind.u8.wrap++[255])
theorem keyB_inj {x y:List Int} (hx:∀ a∈x,0≤a∧a<256) (hy:∀ a∈y,0≤a∧a<256) (h:keyB x=keyB y):x=y:=by
 have hw:∀ x:List Int,∀ a∈x.map IntKind.u8.wrap++[255],0≤a∧a<256:=by
  intro x a ha;rcases List.mem_append.1 ha with ha|ha
  ·obtain ⟨b,_,rfl⟩:=List.mem_map.1 ha;exact wrap8_b b
  rw [List.mem_singleton.1 ha];omega
 have h1:=Q9q (hw x) (hw y) h;have h2:=(List.append_inj' h1 rfl).1;refine Q7H (fun a ha b hb e=>?_) h2
 rwa [wrap8 (hx a ha).1 (hx a ha).2,wrap8 (hy b hb).1 (hy b hb).2] at e
structure Keyed (L:List (List Int)):Prop where
 nd:L.Nodup
 sm:∀ x∈L,∀ a∈x,0≤a∧a<256
noncomputable def posL (L:List (List Int)) (x:List Int):Int:=fstN L.length fun i=>rx L i=x
theorem Q6y {L:List (List Int)} {i:Nat} (h:i<L.length):rx L i∈L:=by
 rw [← Q27 _ _ h];exact List.getElem_mem h
theorem Keyed.inj {L:List (List Int)} (h:Keyed L) {i j:Nat} (hi:i<L.length) (hj:j<L.length) (e:rx L i=rx L j):i=j:=by
 rw [← Q27 _ _ hi,← Q27 _ _ hj] at e;rcases Nat.lt_trichotomy i j with q|q|q
 ·exact absurd e (List.pairwise_iff_getElem.1 h.nd i j hi hj q)
 ·exact q
 exact absurd e.symm (List.pairwise_iff_getElem.1 h.nd j i hj hi q)
theorem Keyed.at {L:List (List Int)} (h:Keyed L) {x:List Int} (hx:x∈L):∃ j:Nat,j<L.length∧rx L j=x∧posL L x=j∧Q3L (keyB x) (plM (fun i=>keyB (rx L i)) L.length)=some (j:Int):=by
 obtain ⟨j,hj,rfl⟩:=List.getElem_of_mem hx;refine ⟨j,hj,(Q27 _ _ hj).symm,?_,?_⟩
 ·unfold posL;rcases Q73 L.length (fun i=>rx L i=L[j]) with ⟨_,h2⟩|⟨k,hk,h2,h3⟩
  ·exact absurd (Q27 _ _ hj).symm (h2 j hj)
  rw [h3,h.inj hk hj (by rw [h2,Q27 _ _ hj])]
 have:=plM_find (k:=fun i=>keyB (rx L i)) (n:=L.length) (fun a b ha hb e=>h.inj ha hb (keyB_inj (h.sm _ (Q6y ha)) (h.sm _ (Q6y hb)) e)) hj;rw [Q27 _ _ hj];exact this
theorem flt_nodup (n:Nat) (p:Nat→Prop):(flt n p).Nodup:=by
 unfold flt;refine List.Pairwise.map (R:=fun a b=>a ≠ b) Int.ofNat (fun a b h e=>h (Int.ofNat.inj e)) ?_;exact List.nodup_range.filter _
theorem Q6b {α β:Type} {xs:List α} {f:α→List β} (h1:∀ x∈xs,(f x).Nodup) (h2:xs.Nodup) (h3:∀ x y,x ≠ y→∀ a∈f x,∀ b∈f y,a ≠ b):(xs.flatMap f).Nodup:=by
 refine List.pairwise_flatMap.2 ⟨h1,?_⟩;exact List.Pairwise.imp (fun {a b} hne=>h3 a b hne) h2
theorem fstN_at {n:Nat} {p:Nat→Prop} {m:Nat} (hm:m<n) (hp:p m) (hlt:∀ k,k<m→¬ p k):fstN n p=(m:Int):=by
 unfold fstN;rw [show ((List.range n).find? fun i=>bo (p i))=some m from List.find?_eq_some_iff_getElem.2 ⟨by rw [Q7k];exact hp,m,by simpa using hm,by simp,fun j hj=>by simp [Qv (hlt j hj)]⟩];rfl
theorem fstN_no {n:Nat} {p:Nat→Prop} (h:∀ i,i<n→¬ p i):fstN n p = -1:=by
 rcases Q73 n p with ⟨h1,_⟩|⟨k,h1,h2,_⟩
 ·exact h1
 exact absurd h2 (h k h1)
theorem Q92 {ε β:Type} {body:Int→Option (Ctl Int ε)} {K:ε→Option β} {r:Option β} (n:Nat) (p:Nat→Prop) {eb:Nat→ε} {eg:ε} (hn:n<4611686018427387904) (h1:∀ i:Nat,i<n→¬ p i→body (i:Int)=some (.next ((i:Int)+1))) (h2:∀ i:Nat,i<n→p i→body (i:Int)=some (.ret (eb i))) (h3:body (n:Int)=some (.ret eg))
  (hb:∀ m,m<n→p m→(∀ k,k<m→¬ p k)→K (eb m)=r) (hg:(∀ i,i<n→¬ p i)→K eg=r):(QH body fuel 0).bind K=r:=by
 rcases Q97 n (fun i=>¬ p i) hn h1 (fun i hi h=>h2 i hi (Classical.byContradiction h)) h3 with ⟨h,e⟩|⟨m,hm,hq,hlt,e⟩
 ·rw [e];exact hg h
 rw [e];exact hb m hm (Classical.byContradiction hq) hlt
theorem take_rx {L:List (List Int)} {i:Nat} (h:i<L.length):L.take (i+1)=L.take i++[rx L i]:=by rw [List.take_succ_eq_append_getElem h,Q27 _ _ h]
theorem e_key {x:List Int} (h:x.length≤1000):Q5m [x]=some (keyB x):=by
 unfold Q5m keyB;refine QM 1 (fun i=>if i=0 then [] else x.map IntKind.u8.wrap++[255]) (e:=x.map IntKind.u8.wrap++[255]) (by simp) (by omega) (fun i hi=>?_) (by simp) rfl;have:i=0:=by omega
 subst this;have hx:rx [x] ((0:Nat):Int)=x:=by simp [rx]
 simp only [hx];rw [if_pos (by simp),Qa (by simp)];refine QM x.length (fun k=>(x.take k).map IntKind.u8.wrap) (e:=x.map IntKind.u8.wrap) (by simp) (by omega) (fun k hk=>?_) (by simp) ?_
 ·have hs:x.take (k+1)=x.take k++[ix x k]:=by rw [List.take_succ_eq_append_getElem hk,Q1J _ _ hk]
  simp (disch:=omega) [Qa,B64,hs];try omega
 simp (disch:=omega) [Qa,B64];try omega
noncomputable def plL (L:List (List Int)):List (ByteArray × Int):=plM (fun i=>keyB (rx L i)) L.length
theorem e_places {L:List (List Int)} (hn:L.length<1000000) (hx:∀ x∈L,x.length≤1000):Q3m L=some (plL L):=by
 unfold Q3m plL;refine QM L.length (fun i=>plM (fun i=>keyB (rx L i)) i) (e:=plM (fun i=>keyB (rx L i)) L.length) rfl (by omega) (fun i hi=>?_) (by simp) rfl;have h1:=plM_len (fun i:Nat=>keyB (rx L i)) i;simp only;rw [if_pos (by omega),Qa (by omega),e_key (hx _ (Q6y hi))];simp only [Option.bind_some];rw [Qa (by omega),Qa (by unfold B64;omega)];rfl
theorem Q8W {L:List (List Int)} {k:Int} (hn:L.length<1000000) (h0:0≤k) (hx:∀ x∈L,k<x.length):Q2N L k=some (L.map (ix · k))∧Q1o L k=some (L.map (ix · k)):=by
 unfold Q2N Q1o;constructor <;>
 ·refine QM L.length (fun i=>(L.take i).map (ix · k)) (e:=L.map (ix · k)) (by simp) (by omega) (fun i hi=>?_) (by simp) rfl;have h1:=hx _ (Q6y hi);have h2:=take_rx hi;simp (disch:=omega) [Qa,B64,h2];try omega
theorem homL_in {c:Cat} {f x y:Int} (h:Ar c f x y):f∈homL c x y:=by
 unfold homL;rw [mem_flt];refine ⟨f.toNat,by omega,?_,by omega⟩;rw [Int.toNat_of_nonneg h.1.1];exact h.2
noncomputable def bC (n:Int) (L:List (List Int)) (idv:Nat→Int) (cmp:List Int→List Int→Int):Cat :=
 ⟨n,L.map (ix · 0),L.map (ix · 1),tab n.toNat fun x=>posL L [(x:Int),(x:Int),idv x],
  tab L.length fun i=>tab L.length fun j=>if ix (rx L i) 1=ix (rx L j) 0 then posL L [ix (rx L i) 0,ix (rx L j) 1,cmp (rx L i) (rx L j)] else -1⟩
theorem bC_ok {n:Int} {L:List (List Int)} {idv:Nat→Int} {cmp:List Int→List Int→Int} (hn:n≤8) (hl:L.length≤40):(bC n L idv cmp).ok∧(bC n L idv cmp).size≤2000:=by
 have hr:∀ xs∈(bC n L idv cmp).cs,xs.length≤40:=by
  intro xs hx;obtain ⟨i,hi,rfl⟩:=List.mem_map.1 hx;simpa using hl
 have h7:=sumL_b hr;have h8:(bC n L idv cmp).cs.length=L.length:=by simp [bC]
 have h9:(bC n L idv cmp).cs.length * 40≤40 * 40:=Nat.mul_le_mul_right _ (by omega);have e1:(bC n L idv cmp).fr.length=L.length:=by simp [bC]
 have e2:(bC n L idv cmp).to.length=L.length:=by simp [bC]
 have e3:(bC n L idv cmp).id.length=n.toNat:=by simp [bC]
 refine ⟨⟨by omega,by omega,by omega,by omega,fun xs hx=>by have:=hr xs hx;omega,by omega⟩,?_⟩;simp only [Cat.size];omega
def mixr {α:Type} (m g:Nat) (v:Nat→α) (z:α):List α:=tab m fun j=>if j<g then v j else z
@[simp] theorem mixr_length {α:Type} (m g:Nat) (v:Nat→α) (z:α):(mixr m g v z).length=m:=by simp [mixr]
theorem Q79 {α:Type} {m g:Nat} {v:Nat→α} {z:α}:(mixr m g v z).set g (v g)=mixr m (g+1) v z:=by
 refine List.ext_getElem (by simp) fun j h1 h2=>?_;simp only [mixr,tab,List.getElem_set,List.getElem_map,List.getElem_range]
 by_cases h:g=j
 ·subst h;simp
 have:(j<g)=(j<g+1):=propext ⟨fun _=>by omega,fun _=>by omega⟩;simp [h,this]
theorem Q7L {α:Type} (m:Nat) (v:Nat→α) (z:α):mixr m 0 v z=List.replicate m z:=by
 refine List.ext_getElem (by simp) fun j h1 h2=>?_;simp [mixr,tab]
theorem Q9d {α:Type} (m:Nat) (v:Nat→α) (z:α):mixr m m v z=tab m v:=by
 refine List.ext_getElem (by simp) fun j h1 h2=>?_;have:j<m:=by simpa using h1
 simp [mixr,tab,this]
theorem rx_set {xs:List (List Int)} {i:Nat} (h:i<xs.length) (r:List Int):rx (xs.set i r) (i:Int)=r:=by
 simp [rx,List.getD_eq_getElem?_getD,h]
attribute [local simp] eL eI Qm QI Cat.cells
noncomputable def Q2l (c_:Cat):Option Bool :=
 (
  if c_.n≤8 then
   some (decide ((c_.fr.length:Int)≤40))
  else
   some false:Option (Bool)).bind fun b1 =>
 some b1
theorem Q6m (c_:Cat) (r:Bool) (h:Q2l c_=some r):Contract Tryz.prog 79 [.agg (c_.cells true)] (.val (.bool r)):=by
 refine Qd (rvs:=[.tmp 2]) (rs:=[.val (.bool r)]) Tryz.func79 rfl rfl rfl rfl (by simp [Tryz.f79]) fun F hN hP=>?_;unfold Q2l at h;refine Q4 ?_;refine runQ hN fun K hK=>?_;simp [-Q0,-Q5,-Q1,-Q6,-Q2];repeat refine sdQ ?_
 refine hK _ ?_;clear hK K;refine tn ?_;refine Q9 (st':=⟨[(1,.adr 0 0 0)],[(0,.mix 5 [(Cat.cells true c_)])],1⟩) (Qj [(0,0)]) ?_;refine Q4 ?_;replace h:=bind_some h;obtain ⟨e1,h,h1⟩:=h;refine Qk (fun b1:Bool=>⟨[(2,.val (.bool b1))],[],0⟩) (fun b1=>b1=e1) ?_ ?_
 ·refine runQ hN fun K hK=>?_;simp [-Q0,-Q5,-Q1,-Q6,-Q2];repeat with_reducible refine sdQ ?_
  refine Qo (fun g=>?_) (fun g=>?_)
  ·have g2:c_.n≤8:=gQ;clear g;replace h:=if_l g2 h;simp [-Q0,-Q5,-Q1,-Q6,-Q2];(repeat refine sdQ ?_);refine hK _ ?_;exact jn (b:=decide ((c_.fr.length:Int)≤40)) (Option.some.inj h) (Qj [])
  have g2:¬ (c_.n≤8):=gQ;clear g;replace h:=if_r g2 h;simp [-Q0,-Q5,-Q1,-Q6,-Q2];repeat refine sdQ ?_
  refine hK _ ?_;exact jn (b:=false) (Option.some.inj h) (Qj [])
 intro b1 hb1;have h:=h1;try rw [← hb1] at h
 clear h1;try dsimp only at h
 refine Qi ?_;have hr:=Option.some.inj h;rw [← hr];refine ⟨_,(.tmp .nil),?_⟩;refine ⟨(.one rfl rfl .nil),[.val (.bool b1)],[],by simp [Cat.cells,UA,U1,IA,I1,LA,L1,BA,B1,EA,E1,E2,eB,eI,eL],by simp,(UpL.refl _)⟩
theorem Q72 (c:Cat):Q2l c=some (bo (c.n≤8∧(c.fr.length:Int)≤40)):=by
 unfold Q2l
 by_cases h1:c.n≤8<;>by_cases h2:(c.fr.length:Int)≤40<;>simp [h1,h2,bo]
theorem bC_find {L:List (List Int)} (h:Keyed L) {x:List Int} (hx:x∈L):(Q3L (keyB x) (plL L)).getD 0=posL L x:=by
 obtain ⟨j,_,_,h3,h4⟩:=h.at hx;unfold plL;rw [h3,h4];rfl
def zeroC:Cat:=⟨0,[],[],[],[]⟩
theorem Cat.Is.Ai {c:Cat} (h:c.Is) {x:Int} (hx:0≤x∧x<c.n):Ar c (ix c.id x) x x:=by
 have h1:=h.1.li;obtain ⟨i,rfl⟩:=Int.eq_ofNat_of_zero_le hx.1;have h2:=h.1.ids i (by omega);exact ⟨h.1.id' (by omega) (by omega),h2.1,h2.2⟩
theorem Q4k {ε β:Type} {body:List Int × Int→Option (Ctl (List Int × Int) ε)} {K:ε→Option β} {r:Option β} (n:Nat) (v:Nat→Int) {e:ε} (hn:n<1000000)
  (h:∀ i:Nat,i<n→body (tab i v,(i:Int))=(ass ((tab i v++[v i]).length≤1073741824) <| ass (B64 ((i:Int)+1)) <| some (.next (tab i v++[v i],(i:Int)+1))))
  (he:body (tab n v,(n:Int))=some (.ret e)) (hk:K e=r):(QH body fuel ([],0)).bind K=r:=by
 refine QM n (fun i=>tab i v) (e:=e) rfl (by omega) (fun i hi=>?_) he hk;rw [h i hi,Qa (by simp;omega),Qa (by unfold B64;omega),Q57]
theorem Cat.Is.assoc {c:Cat} (hc:c.Is) {f g h w x y z:Int} (a:Ar c f w x) (b:Ar c g x y) (d:Ar c h y z):ix (rx c.cs (ix (rx c.cs f) g)) h=ix (rx c.cs f) (ix (rx c.cs g) h):=by
 obtain ⟨i,rfl⟩:=Int.eq_ofNat_of_zero_le a.1.1;obtain ⟨j,rfl⟩:=Int.eq_ofNat_of_zero_le b.1.1;obtain ⟨k,rfl⟩:=Int.eq_ofNat_of_zero_le d.1.1;have:=hc.2.2 i (by have:=a.1;omega) j (by have:=b.1;omega) k (by have:=d.1;omega);exact this (by rw [a.2.2,b.2.1]) (by rw [b.2.2,d.2.1])
theorem Cat.Is.idl {c:Cat} (hc:c.Is) {f x y:Int} (a:Ar c f x y):ix (rx c.cs (ix c.id x)) f=f∧ix (rx c.cs f) (ix c.id y)=f:=by
 obtain ⟨i,rfl⟩:=Int.eq_ofNat_of_zero_le a.1.1;have:=hc.2.1 i (by have:=a.1;omega);unfold Cat.un at this;rw [a.2.1,a.2.2] at this;exact this
theorem Fn.Is.two {f:Fn} (h:f.Is) {a b x y z:Int} (ha:Ar f.s a x y) (hb:Ar f.s b y z):ix f.ar (ix (rx f.s.cs a) b)=ix (rx f.t.cs (ix f.ar a)) (ix f.ar b):=by
 obtain ⟨i,rfl⟩:=Int.eq_ofNat_of_zero_le ha.1.1;obtain ⟨j,rfl⟩:=Int.eq_ofNat_of_zero_le hb.1.1;exact h.comp i (by have:=ha.1;omega) j (by have:=hb.1;omega) (by rw [ha.2.2,hb.2.1])
theorem Fn.Is.one {f:Fn} (h:f.Is) {x:Int} (hx:0≤x∧x<f.s.n):ix f.ar (ix f.s.id x)=ix f.t.id (ix f.ob x):=by
 obtain ⟨i,rfl⟩:=Int.eq_ofNat_of_zero_le hx.1;exact h.ids i (by have:=h.s.1.li;omega)
noncomputable def av (m:Mnd):List XAlgebra:=Q2g m (fun x h=>(⟨x,h⟩:XAlgebra)) m.f.s.n.toNat
noncomputable def avL (m:Mnd):List (List Int):=Q2g m (fun x h=>[x,h]) m.f.s.n.toNat
theorem avL_eq (m:Mnd):avL m=(av m).map fun a=>[a.x_,a.h_]:=by
 simp [av,avL,Q2g,List.map_flatMap,Function.comp_def]
theorem Q7j {m:Mnd} (hm:m.Is):(av m).length≤320:=by
 obtain ⟨l1,l2,l3,l4,l5,l6,l7,l8,l9⟩:=hm.pre.len;have:=Q5e m (fun x h=>(⟨x,h⟩:XAlgebra)) (by omega) m.f.s.n.toNat;unfold av;omega
structure AlgAt (m:Mnd) (a:XAlgebra):Prop where
 alg:Alg m a.x_ a.h_
 x:0≤a.x_∧a.x_<(m.f.ob.length:Int)
 h:Ar m.f.s a.h_ (ix m.f.ob a.x_) a.x_
theorem av_at {m:Mnd} (hm:m.Is):∀ a∈av m,AlgAt m a:=by
 obtain ⟨l1,l2,l3,l4,l5,l6,l7,l8,l9⟩:=hm.pre.len;intro a ha;simp only [av,Q2g,List.mem_flatMap,List.mem_range,List.mem_map,algL,List.mem_filter,Q7k] at ha;obtain ⟨x,hx,h,⟨h1,h2⟩,rfl⟩:=ha;exact ⟨h2,by simp only;omega,Q4e h h1⟩
theorem gx_mem {α:Type} [Inhabited α] {xs:List α} {i:Nat} (h:i<xs.length):gx xs (i:Int)∈xs:=by
 have:gx xs (i:Int)=xs[i]:=by simp [gx,List.getD_eq_getElem?_getD,h]
 rw [this];exact List.getElem_mem h
theorem Q5Q {m:Mnd} {i:Nat} (h:i<(av m).length):rx (avL m) i=[(gx (av m) i).x_,(gx (av m) i).h_]:=by
 rw [avL_eq];simp [rx,gx,List.getD_eq_getElem?_getD,h]
noncomputable def amp (m:Mnd) (s t:Int):List Int:=Q3b m (gx (av m) s).x_ (gx (av m) s).h_ (gx (av m) t).x_ (gx (av m) t).h_
noncomputable def alF (m:Mnd) (s t:Nat):List (List Int):=(amp m s t).map fun f=>[(s:Int),(t:Int),f]
noncomputable def alX (m:Mnd) (s k:Nat):List (List Int):=(List.range k).flatMap (alF m s)
noncomputable def alN (m:Mnd) (k:Nat):List (List Int):=(List.range k).flatMap fun s=>alX m s (av m).length
noncomputable def alL (m:Mnd):List (List Int):=alN m (av m).length
theorem Q6W (m:Mnd) (s k:Nat):alX m s (k+1)=alX m s k++alF m s k:=by simp [alX,List.range_succ]
theorem Q6V (m:Mnd) (k:Nat):alN m (k+1)=alN m k++alX m k (av m).length:=by simp [alN,List.range_succ]
theorem alF_len (m:Mnd) (h:m.f.s.fr.length≤40) (s t:Nat):(alF m s t).length≤40:=by
 have:=Q4s m (gx (av m) s).x_ (gx (av m) s).h_ (gx (av m) t).x_ (gx (av m) t).h_;simp only [alF,amp,List.length_map];omega
theorem Q87 (m:Mnd) (h:m.f.s.fr.length≤40) (s k:Nat):(alX m s k).length≤k * 40:=by
 induction k with
 | zero=>simp [alX]
 | succ k ih =>
  have:=alF_len m h s k;rw [Q6W,List.length_append];omega
theorem Q86 {m:Mnd} (hm:m.Is) (k:Nat):(alN m k).length≤k * 12800:=by
 obtain ⟨l1,l2,l3,l4,l5,l6,l7,l8,l9⟩:=hm.pre.len;have ha:=Q7j hm
 induction k with
 | zero=>simp [alN]
 | succ k ih =>
  have:=Q87 m (by omega) k (av m).length;rw [Q6V,List.length_append];omega
theorem mem_al {m:Mnd} {a:List Int}:a∈alL m↔∃ s t f:Int,(0≤s∧s<((av m).length:Int))∧(0≤t∧t<((av m).length:Int))∧f∈amp m s t∧a=[s,t,f]:=by
 simp only [alL,alN,alX,alF,List.mem_flatMap,List.mem_map,List.mem_range];constructor
 ·rintro ⟨s,hs,t,ht,f,hf,rfl⟩
  exact ⟨s,t,f,by omega,by omega,hf,rfl⟩
 rintro ⟨s,t,f,hs,ht,hf,rfl⟩
 refine ⟨s.toNat,by omega,t.toNat,by omega,f,?_,?_⟩
 ·rw [Int.toNat_of_nonneg hs.1,Int.toNat_of_nonneg ht.1];exact hf
 rw [Int.toNat_of_nonneg hs.1,Int.toNat_of_nonneg ht.1]
theorem Q4v {m:Mnd} {s t f:Int} (h:f∈amp m s t):Ar m.f.s f (gx (av m) s).x_ (gx (av m) t).x_∧ix (rx m.f.s.cs (gx (av m) s).h_) f=ix (rx m.f.s.cs (ix m.f.ar f)) (gx (av m) t).h_:=by
 simp only [amp,Q3b,List.mem_filter,Q7k] at h;exact ⟨Q4e f h.1,h.2⟩
theorem Q8t {m:Mnd} {s t f:Int} (h:Ar m.f.s f (gx (av m) s).x_ (gx (av m) t).x_) (e:ix (rx m.f.s.cs (gx (av m) s).h_) f=ix (rx m.f.s.cs (ix m.f.ar f)) (gx (av m) t).h_):f∈amp m s t:=by
 simp only [amp,Q3b,List.mem_filter,Q7k];exact ⟨homL_in h,e⟩
theorem gxm {m:Mnd} (hm:m.Is) {s:Int} (hs:0≤s∧s<((av m).length:Int)):AlgAt m (gx (av m) s):=by
 obtain ⟨i,rfl⟩:=Int.eq_ofNat_of_zero_le hs.1;exact av_at hm _ (gx_mem (by omega))
theorem al_two {m:Mnd} (hm:m.Is) {s t u f g:Int} (hs:0≤s∧s<((av m).length:Int)) (ht:0≤t∧t<((av m).length:Int)) (hu:0≤u∧u<((av m).length:Int)) (hf:f∈amp m s t) (hg:g∈amp m t u):ix (rx m.f.s.cs f) g∈amp m s u:=by
 have hc:=hm.pre.f.s;have hF:=hm.pre.f;obtain ⟨a1,e1⟩:=Q4v hf;obtain ⟨a2,e2⟩:=Q4v hg;have sa:=gxm hm hs;have ta:=gxm hm ht;have ua:=gxm hm hu;have T1:=hm.pre.Aa rfl a1;have T2:=hm.pre.Aa rfl a2;refine Q8t (a1.two hc a2) ?_;rw [← hc.assoc sa.h a1 a2,e1,hc.assoc T1 ta.h a2,e2,← hc.assoc T1 T2 ua.h,hF.two a1 a2,← hm.pre.e]
theorem al_one {m:Mnd} (hm:m.Is) {s:Int} (hs:0≤s∧s<((av m).length:Int)):ix m.f.s.id (gx (av m) s).x_∈amp m s s:=by
 obtain ⟨l1,l2,l3,l4,l5,l6,l7,l8,l9⟩:=hm.pre.len;have hc:=hm.pre.f.s;have sa:=gxm hm hs;have hx:=sa.x;refine Q8t (hc.Ai (by omega)) ?_;rw [(hc.idl sa.h).2,hm.pre.f.one (by omega),← hm.pre.e,(hc.idl sa.h).1]
theorem Q8N {m:Mnd} (hm:m.Is) (h8:(av m).length≤8):Keyed (alL m):=by
 obtain ⟨l1,l2,l3,l4,l5,l6,l7,l8,l9⟩:=hm.pre.len;refine ⟨?_,fun a ha b hb=>?_⟩
 ·refine Q6b (fun s _=>Q6b (fun t _=>?_) List.nodup_range fun t u hne a ha b hb=>?_) List.nodup_range fun s u hne a ha b hb=>?_
  ·exact List.Pairwise.map (R:=fun a b=>a ≠ b) _ (fun f g hne e=>hne (by simpa using e)) ((flt_nodup _ _).filter _)
  ·obtain ⟨f,_,rfl⟩:=List.mem_map.1 ha;obtain ⟨g,_,rfl⟩:=List.mem_map.1 hb;intro e;simp only [List.cons.injEq] at e;omega
  simp only [alX,alF,List.mem_flatMap,List.mem_map,List.mem_range] at ha hb;obtain ⟨_,_,f,_,rfl⟩:=ha;obtain ⟨_,_,g,_,rfl⟩:=hb;intro e;simp only [List.cons.injEq] at e;omega
 obtain ⟨s,t,f,hs,ht,hf,rfl⟩:=mem_al.1 ha;have:=(Q4v hf).1.1;simp only [List.mem_cons,List.not_mem_nil,or_false] at hb;rcases hb with rfl|rfl|rfl<;>omega
theorem al3 {m:Mnd}:∀ x∈alL m,x.length=3:=by
 intro x hx;obtain ⟨_,_,_,_,_,_,rfl⟩:=mem_al.1 hx;rfl
theorem Q8O {m:Mnd} {i:Nat} (hi:i<(alL m).length):∃ s t f:Int,(0≤s∧s<((av m).length:Int))∧(0≤t∧t<((av m).length:Int))∧f∈amp m s t∧rx (alL m) i=[s,t,f]:=mem_al.1 (Q6y hi)
noncomputable def aC (m:Mnd):Cat:=bC ((av m).length:Int) (alL m) (fun s=>ix m.f.s.id (gx (av m) s).x_) fun a b=>ix (rx m.f.s.cs (ix a 2)) (ix b 2)
theorem e_amp {m:Mnd} (hm:m.Is) {s t:Int} (hs:0≤s∧s<((av m).length:Int)) (ht:0≤t∧t<((av m).length:Int)):Q2m m (rx (avL m) s) (rx (avL m) t)=some (amp m s t)∧QP m (gx (av m) s) (gx (av m) t)=some (amp m s t):=by
 have sa:=gxm hm hs;have ta:=gxm hm ht;obtain ⟨i,rfl⟩:=Int.eq_ofNat_of_zero_le hs.1;obtain ⟨j,rfl⟩:=Int.eq_ofNat_of_zero_le ht.1;have:=e_maps hm sa.alg sa.x sa.h.1 ta.alg ta.x ta.h.1;rw [Q5Q (by omega),Q5Q (by omega)];exact this
attribute [local simp] eL eI Qm QI Q1H Cat.cells Mnd.cells
noncomputable def Q2z (m_:Mnd):Option (Cat × List (List Int) × List (List Int)) :=
 (Q2P m_).bind fun v1 =>
 (QH (σ:=List (List Int) × Int) (ε:=List (List Int)) (fun s37 =>
  if s37.2<(v1.length:Int) then
   (
    (QH (σ:=List (List Int) × Int) (ε:=List (List Int)) (fun s55 =>
     if s55.2<(v1.length:Int) then
      (
       ass (0≤s37.2∧s37.2<(v1.length:Int)) <|
       ass (0≤s55.2∧s55.2<(v1.length:Int)) <|
       (Q2m m_ (rx v1 s37.2) (rx v1 s55.2)).bind fun v60 =>
       (QH (σ:=List (List Int) × Int) (ε:=List (List Int)) (fun s65 =>
        if s65.2<(v60.length:Int) then
         ass (0≤s65.2∧s65.2<(v60.length:Int)) <|
         ass ((s65.1++[[s37.2,s55.2,ix v60 s65.2]]).length≤1073741824) <|
         ass (B64 (s65.2+1)) <|
         some (Ctl.next (s65.1++[[s37.2,s55.2,ix v60 s65.2]],s65.2+1))
        else
         some (Ctl.ret s65.1)) fuel (s55.1,0)).bind fun p65 =>
       some p65:Option (List (List Int))).bind fun b57 =>
      ass (B64 (s55.2+1)) <|
      some (Ctl.next (b57,s55.2+1))
     else
      some (Ctl.ret s55.1)) fuel (s37.1,0)).bind fun p55 =>
    some p55:Option (List (List Int))).bind fun b39 =>
   ass (B64 (s37.2+1)) <|
   some (Ctl.next (b39,s37.2+1))
  else
   some (Ctl.ret s37.1)) fuel ([],0)).bind fun b2 =>
 (Q1o b2 0).bind fun v72 =>
 (Q1o b2 1).bind fun v73 =>
 (QH (σ:=List Int × Int) (ε:=List Int) (fun s82 =>
  if s82.2<(v1.length:Int) then
   ass (0≤s82.2∧s82.2<(v1.length:Int)) <|
   ass ((0:Int)≤0∧0<((rx v1 s82.2).length:Int)) <|
   ass (0≤ix (rx v1 s82.2) 0∧ix (rx v1 s82.2) 0<(m_.f.s.id.length:Int)) <|
   (Q1O b2 [s82.2,s82.2,ix m_.f.s.id (ix (rx v1 s82.2) 0)]).bind fun v87 =>
   ass ((s82.1++[v87]).length≤1073741824) <|
   ass (B64 (s82.2+1)) <|
   some (Ctl.next (s82.1++[v87],s82.2+1))
  else
   some (Ctl.ret s82.1)) fuel ([],0)).bind fun b74 =>
 (QH (σ:=List (List Int) × Int) (ε:=List (List Int)) (fun s137 =>
  (
   if s137.2<(b2.length:Int) then
    (Q2l (⟨(v1.length:Int),v72,v73,b74,s137.1⟩:Cat)).bind fun v140 =>
    some v140
   else
    some false:Option (Bool)).bind fun b138 =>
  if b138=true then
   (QH (σ:=List Int × Int) (ε:=List Int) (fun s162 =>
    if s162.2<(b2.length:Int) then
     ass (0≤s137.2∧s137.2<(b2.length:Int)) <|
     ass ((0:Int)≤1∧1<((rx b2 s137.2).length:Int)) <|
     ass (0≤s162.2∧s162.2<(b2.length:Int)) <|
     ass ((0:Int)≤0∧0<((rx b2 s162.2).length:Int)) <|
     (
      if (ix (rx b2 s137.2) 1)=(ix (rx b2 s162.2) 0) then
       ass (0≤s137.2∧s137.2<(b2.length:Int)) <|
       ass ((0:Int)≤0∧0<((rx b2 s137.2).length:Int)) <|
       ass (0≤s162.2∧s162.2<(b2.length:Int)) <|
       ass ((0:Int)≤1∧1<((rx b2 s162.2).length:Int)) <|
       ass (0≤s137.2∧s137.2<(b2.length:Int)) <|
       ass ((0:Int)≤2∧2<((rx b2 s137.2).length:Int)) <|
       ass (0≤s162.2∧s162.2<(b2.length:Int)) <|
       ass ((0:Int)≤2∧2<((rx b2 s162.2).length:Int)) <|
       (QF m_.f.s (ix (rx b2 s137.2) 2) (ix (rx b2 s162.2) 2)).bind fun v178 =>
       (Q1O b2 [ix (rx b2 s137.2) 0,ix (rx b2 s162.2) 1,v178]).bind fun v179 =>
       some v179
      else
       some (-1):Option (Int)).bind fun b168 =>
     ass ((s162.1++[b168]).length≤1073741824) <|
     ass (B64 (s162.2+1)) <|
     some (Ctl.next (s162.1++[b168],s162.2+1))
    else
     some (Ctl.ret s162.1)) fuel ([],0)).bind fun b142 =>
   ass ((s137.1++[b142]).length≤1073741824) <|
   ass (B64 (s137.2+1)) <|
   some (Ctl.next (s137.1++[b142],s137.2+1))
  else
   some (Ctl.ret s137.1)) fuel ([],0)).bind fun b90 =>
 some ((⟨(v1.length:Int),v72,v73,b74,b90⟩:Cat),v1,b2)
theorem Q83 (m_:Mnd) (r:Cat × List (List Int) × List (List Int)) (h:Q2z m_=some r):Contract Tryz.prog 88 [.agg (m_.cells true)] (.tup [.agg (r.1.cells true),.lst true 1 (Ls r.2.1),.lst true 1 (Ls r.2.2)]):=by
 refine Qd (rvs:=[.cell 2 31,.tmp 3,.tmp 4]) (rs:=[.agg (r.1.cells true),.lst true 1 (Ls r.2.1),.lst true 1 (Ls r.2.2)]) Tryz.func88 rfl rfl rfl rfl (by simp [Tryz.f88]) fun F hN hP=>?_;unfold Q2z at h;refine Q4 ?_;refine runQ hN fun K hK=>?_;simp [-Q0,-Q5,-Q1,-Q6,-Q2];repeat refine sdQ ?_
 refine hK _ ?_;clear hK K;refine tn ?_;refine Q9 (st':=⟨[(1,.adr 0 0 0),(2,.adr 1 0 0)],[(0,.mix 14 [(Mnd.cells true m_)]),(1,.mix 5 [[iV 0,.val (.slice none 0 0),.val (.slice none 0 0),.val (.slice none 0 0),.val (.slice none 0 0)]])],2⟩) (Qj [(0,0),(1,1)]) ?_;refine Q4 ?_;refine runQ hN fun K hK=>?_;simp [-Q0,-Q5,-Q1,-Q6,-Q2];repeat refine sdQ ?_
 refine hK _ ?_;clear hK K;refine tn ?_;refine Q9 (st':=⟨[(1,.adr 0 0 0),(2,.adr 1 0 0),(5,.adr 2 0 0)],[(0,.mix 14 [(Mnd.cells true m_)]),(1,.mix 5 [[iV 0,.val (.slice none 0 0),.val (.slice none 0 0),.val (.slice none 0 0),.val (.slice none 0 0)]]),(2,.mix 5 [(Cat.cells true m_.f.s)])],3⟩) (Qj [(0,0),(1,1),(2,2)]) ?_;refine Q4 ?_;refine runQ hN fun K hK=>?_;simp [-Q0,-Q5,-Q1,-Q6,-Q2];repeat with_reducible refine sdQ ?_
 replace h:=bind_some h;obtain ⟨v1,hv1,h⟩:=h;refine Q3 (Qa1 _ v1 hv1) (.cons (.aggL (.cons .val (.cons .lst (.cons .lst (.cons .lst (.cons .lst (.cons .val (.cons .lst (.cons .lst (.cons .lst (.cons .lst (.cons .lst (.cons .lst (.cons .lst (.cons .lst .nil))))))))))))))) .nil) ?_;simp [-Q0,-Q5,-Q1,-Q6,-Q2,unk,unA,unE,unT,unC,flat];repeat refine sdQ ?_
 refine hK _ ?_;clear hK K;refine tn ?_;refine Q9 (st':=⟨[(1,.adr 0 0 0),(2,.adr 1 0 0),(5,.adr 2 0 0),(6,.own 3 0 v1.length)],[(0,.mix 14 [(Mnd.cells true m_)]),(1,.mix 5 [[iV 0,.val (.slice none 0 0),.val (.slice none 0 0),.val (.slice none 0 0),.val (.slice none 0 0)]]),(2,.mix 5 [(Cat.cells true m_.f.s)]),(3,.row 1 (Ls v1))],4⟩) (Qj [(0,0),(1,1),(2,2),(3,3)]) ?_;refine Q4 ?_;refine runQ hN fun K hK=>?_;simp [-Q0,-Q5,-Q1,-Q6,-Q2];repeat refine sdQ ?_
 refine hK _ ?_;clear hK K;refine tn ?_;refine Q9 (st':=⟨[(1,.adr 0 0 0),(2,.adr 1 0 0),(5,.adr 2 0 0),(6,.own 3 0 v1.length),(7,.own 4 0 0)],[(0,.mix 14 [(Mnd.cells true m_)]),(1,.mix 5 [[iV 0,.val (.slice none 0 0),.val (.slice none 0 0),.val (.slice none 0 0),.val (.slice none 0 0)]]),(2,.mix 5 [(Cat.cells true m_.f.s)]),(3,.row 1 (Ls v1)),(4,.mix 1 [])],5⟩) (Qj [(0,0),(1,1),(2,2),(3,3),(4,4)]) ?_;refine Q4 ?_;refine Q4 ?_;refine runQ hN fun K hK=>?_;simp [-Q0,-Q5,-Q1,-Q6,-Q2];repeat refine sdQ ?_
 refine hK _ ?_;clear hK K;refine tn ?_;refine Q9 (st':=⟨[(1,.adr 0 0 0),(2,.adr 1 0 0),(5,.adr 2 0 0),(6,.own 3 0 v1.length),(7,.own 4 0 0),(8,iV 0)],[(0,.mix 14 [(Mnd.cells true m_)]),(1,.mix 5 [[iV 0,.val (.slice none 0 0),.val (.slice none 0 0),.val (.slice none 0 0),.val (.slice none 0 0)]]),(2,.mix 5 [(Cat.cells true m_.f.s)]),(3,.row 1 (Ls v1)),(4,.mix 1 [])],5⟩) (Qj [(0,0),(1,1),(2,2),(3,3),(4,4)]) ?_;replace h:=bind_some h;obtain ⟨e2,h,h2⟩:=h;refine Qk (fun b2:List (List Int)=>⟨[(2,.adr 0 0 0),(5,.adr 1 0 0),(6,.own 2 0 v1.length),(7,.own 3 0 b2.length)],[(0,.mix 5 [[iV 0,.val (.slice none 0 0),.val (.slice none 0 0),.val (.slice none 0 0),.val (.slice none 0 0)]]),(1,.mix 5 [(Cat.cells true m_.f.s)]),(2,.row 1 (Ls v1)),(3,.row 1 (Ls b2))],4⟩) (fun b2=>b2=e2) ?_ ?_
 ·refine Qc ?_;refine Qw h (fun s37:List (List Int) × Int=>⟨[(1,.adr 0 0 0),(2,.adr 1 0 0),(5,.adr 2 0 0),(6,.own 3 0 v1.length),(7,.own 4 0 s37.1.length),(8,iV s37.2)],[(0,.mix 14 [(Mnd.cells true m_)]),(1,.mix 5 [[iV 0,.val (.slice none 0 0),.val (.slice none 0 0),.val (.slice none 0 0),.val (.slice none 0 0)]]),(2,.mix 5 [(Cat.cells true m_.f.s)]),(3,.row 1 (Ls v1)),(4,.row 1 (Ls s37.1))],5⟩) (Q33 ⟨[(1,.adr 0 0 0),(2,.adr 1 0 0),(5,.adr 2 0 0),(6,.own 3 0 v1.length),(7,.own 4 0 0),(8,iV 0)],[(0,.mix 14 [(Mnd.cells true m_)]),(1,.mix 5 [[iV 0,.val (.slice none 0 0),.val (.slice none 0 0),.val (.slice none 0 0),.val (.slice none 0 0)]]),(2,.mix 5 [(Cat.cells true m_.f.s)]),(3,.row 1 (Ls v1)),(4,.row 1 (Ls []))],5⟩ (Wk.nils [] (by simp) (by simp) (by simp [nlA]) (by simp [entN,nlL,nlA,Cat.cells,Mnd.cells,UA,U1,IA,I1,LA,L1,BA,B1,EA,E1,E2,eB,eI,eL]) (by simp)) (Qj [(0,0),(1,1),(2,2),(3,3),(4,4)])) ?_;clear h;intro k37 s37 c37 h hk37;refine Q4 ?_;refine Q4 ?_;refine runQ hN fun K hK=>?_;simp [-Q0,-Q5,-Q1,-Q6,-Q2];repeat refine sdQ ?_
  refine hK _ ?_;clear hK K;refine tn ?_;refine Q9 (st':=⟨[(1,.adr 0 0 0),(2,.adr 1 0 0),(5,.adr 2 0 0),(6,.own 3 0 v1.length),(7,.own 4 0 s37.1.length),(8,iV s37.2),(27,.val (.bool (decide (s37.2<(v1.length:Int)))))],[(0,.mix 14 [(Mnd.cells true m_)]),(1,.mix 5 [[iV 0,.val (.slice none 0 0),.val (.slice none 0 0),.val (.slice none 0 0),.val (.slice none 0 0)]]),(2,.mix 5 [(Cat.cells true m_.f.s)]),(3,.row 1 (Ls v1)),(4,.row 1 (Ls s37.1))],5⟩) (Qj [(0,0),(1,1),(2,2),(3,3),(4,4)]) ?_;refine Qe rfl (fun g=>?_) fun g=>?_
  ·have g38:s37.2<(v1.length:Int):=gQ;clear g;replace h:=if_l g38 h;refine Qf ?_;refine tn ?_;refine Q4 ?_;replace h:=bind_some h;obtain ⟨e39,h,h39⟩:=h;refine Qk (fun b39:List (List Int)=>⟨[(1,.adr 0 0 0),(2,.adr 1 0 0),(5,.adr 2 0 0),(6,.own 3 0 v1.length),(7,.own 4 0 b39.length),(8,iV s37.2)],[(0,.mix 14 [(Mnd.cells true m_)]),(1,.mix 5 [[iV 0,.val (.slice none 0 0),.val (.slice none 0 0),.val (.slice none 0 0),.val (.slice none 0 0)]]),(2,.mix 5 [(Cat.cells true m_.f.s)]),(3,.row 1 (Ls v1)),(4,.row 1 (Ls b39))],5⟩) (fun b39=>b39=e39) ?_ ?_
   ·refine Qc ?_;refine Q4 ?_;refine runQ hN fun K hK=>?_;simp [-Q0,-Q5,-Q1,-Q6,-Q2];(repeat refine sdQ ?_);refine hK _ ?_;clear hK K;refine tn ?_;refine Q9 (st':=⟨[(1,.adr 0 0 0),(2,.adr 1 0 0),(5,.adr 2 0 0),(6,.own 3 0 v1.length),(7,.own 4 0 s37.1.length),(8,iV s37.2),(9,iV 0)],[(0,.mix 14 [(Mnd.cells true m_)]),(1,.mix 5 [[iV 0,.val (.slice none 0 0),.val (.slice none 0 0),.val (.slice none 0 0),.val (.slice none 0 0)]]),(2,.mix 5 [(Cat.cells true m_.f.s)]),(3,.row 1 (Ls v1)),(4,.row 1 (Ls s37.1))],5⟩) (Qj [(0,0),(1,1),(2,2),(3,3),(4,4)]) ?_;refine Qc ?_;replace h:=bind_some h;obtain ⟨e55,he55,h55⟩:=h;refine Qw he55 (fun s55:List (List Int) × Int=>⟨[(1,.adr 0 0 0),(2,.adr 1 0 0),(5,.adr 2 0 0),(6,.own 3 0 v1.length),(7,.own 4 0 s55.1.length),(8,iV s37.2),(9,iV s55.2)],[(0,.mix 14 [(Mnd.cells true m_)]),(1,.mix 5 [[iV 0,.val (.slice none 0 0),.val (.slice none 0 0),.val (.slice none 0 0),.val (.slice none 0 0)]]),(2,.mix 5 [(Cat.cells true m_.f.s)]),(3,.row 1 (Ls v1)),(4,.row 1 (Ls s55.1))],5⟩) (Qj [(0,0),(1,1),(2,2),(3,3),(4,4)]) ?_;intro k55 s55 c55 h hk55;refine Q4 ?_;refine Q4 ?_;refine runQ hN fun K hK=>?_;simp [-Q0,-Q5,-Q1,-Q6,-Q2];(repeat refine sdQ ?_);refine hK _ ?_;clear hK K;refine tn ?_;refine Q9 (st':=⟨[(1,.adr 0 0 0),(2,.adr 1 0 0),(5,.adr 2 0 0),(6,.own 3 0 v1.length),(7,.own 4 0 s55.1.length),(8,iV s37.2),(9,iV s55.2),(33,.val (.bool (decide (s55.2<(v1.length:Int)))))],[(0,.mix 14 [(Mnd.cells true m_)]),(1,.mix 5 [[iV 0,.val (.slice none 0 0),.val (.slice none 0 0),.val (.slice none 0 0),.val (.slice none 0 0)]]),(2,.mix 5 [(Cat.cells true m_.f.s)]),(3,.row 1 (Ls v1)),(4,.row 1 (Ls s55.1))],5⟩) (Qj [(0,0),(1,1),(2,2),(3,3),(4,4)]) ?_;refine Qe rfl (fun g=>?_) fun g=>?_
    ·have g56:s55.2<(v1.length:Int):=gQ;clear g;replace h:=if_l g56 h;refine Qf ?_;refine tn ?_;refine Q4 ?_;replace h:=bind_some h;obtain ⟨e57,h,h57⟩:=h;refine Qk (fun b57:List (List Int)=>⟨[(1,.adr 0 0 0),(2,.adr 1 0 0),(5,.adr 2 0 0),(6,.own 3 0 v1.length),(7,.own 4 0 b57.length),(8,iV s37.2),(9,iV s55.2)],[(0,.mix 14 [(Mnd.cells true m_)]),(1,.mix 5 [[iV 0,.val (.slice none 0 0),.val (.slice none 0 0),.val (.slice none 0 0),.val (.slice none 0 0)]]),(2,.mix 5 [(Cat.cells true m_.f.s)]),(3,.row 1 (Ls v1)),(4,.row 1 (Ls b57))],5⟩) (fun b57=>b57=e57) ?_ ?_
     ·refine Qc ?_;refine Q4 ?_;refine runQ hN fun K hK=>?_;replace h:=Q8 h;obtain ⟨a58,h⟩:=h;replace h:=Q8 h;obtain ⟨a59,h⟩:=h;simp [-Q0,-Q5,-Q1,-Q6,-Q2,at_L a58,at_L a59];(repeat with_reducible refine sdQ ?_);replace h:=bind_some h;obtain ⟨v60,hv60,h⟩:=h;refine Q3 (Q8L _ _ _ v60 hv60) (.cons (.aggL (.cons .val (.cons .lst (.cons .lst (.cons .lst (.cons .lst (.cons .val (.cons .lst (.cons .lst (.cons .lst (.cons .lst (.cons .lst (.cons .lst (.cons .lst (.cons .lst .nil))))))))))))))) (.cons (.whole (by simp [at_L a58]) (by simp) (by simp [at_L a58])) (.cons (.whole (by simp [at_L a59]) (by simp) (by simp [at_L a59])) .nil))) ?_;simp [-Q0,-Q5,-Q1,-Q6,-Q2,unk,unA,unE,unT,unC,flat,at_L a58,at_L a59];(repeat refine sdQ ?_);refine hK _ ?_;clear hK K;refine tn ?_;refine Q9 (st':=⟨[(1,.adr 0 0 0),(2,.adr 1 0 0),(5,.adr 2 0 0),(6,.own 3 0 v1.length),(7,.own 4 0 s55.1.length),(8,iV s37.2),(9,iV s55.2),(10,.own 5 0 v60.length)],[(0,.mix 14 [(Mnd.cells true m_)]),(1,.mix 5 [[iV 0,.val (.slice none 0 0),.val (.slice none 0 0),.val (.slice none 0 0),.val (.slice none 0 0)]]),(2,.mix 5 [(Cat.cells true m_.f.s)]),(3,.row 1 (Ls v1)),(4,.row 1 (Ls s55.1)),(5,rI v60)],6⟩) (Qj [(0,0),(1,1),(2,2),(3,3),(4,4),(7,5)]) ?_;refine Q4 ?_;refine runQ hN fun K hK=>?_;simp [-Q0,-Q5,-Q1,-Q6,-Q2];(repeat refine sdQ ?_);refine hK _ ?_;clear hK K;refine tn ?_;refine Q9 (st':=⟨[(1,.adr 0 0 0),(2,.adr 1 0 0),(5,.adr 2 0 0),(6,.own 3 0 v1.length),(7,.own 4 0 s55.1.length),(8,iV s37.2),(9,iV s55.2),(10,.own 5 0 v60.length),(11,iV 0)],[(0,.mix 14 [(Mnd.cells true m_)]),(1,.mix 5 [[iV 0,.val (.slice none 0 0),.val (.slice none 0 0),.val (.slice none 0 0),.val (.slice none 0 0)]]),(2,.mix 5 [(Cat.cells true m_.f.s)]),(3,.row 1 (Ls v1)),(4,.row 1 (Ls s55.1)),(5,rI v60)],6⟩) (Qj [(0,0),(1,1),(2,2),(3,3),(4,4),(5,5)]) ?_;refine Qc ?_;replace h:=bind_some h;obtain ⟨e65,he65,h65⟩:=h;refine Qw he65 (fun s65:List (List Int) × Int=>⟨[(1,.adr 0 0 0),(2,.adr 1 0 0),(5,.adr 2 0 0),(6,.own 3 0 v1.length),(7,.own 4 0 s65.1.length),(8,iV s37.2),(9,iV s55.2),(10,.own 5 0 v60.length),(11,iV s65.2)],[(0,.mix 14 [(Mnd.cells true m_)]),(1,.mix 5 [[iV 0,.val (.slice none 0 0),.val (.slice none 0 0),.val (.slice none 0 0),.val (.slice none 0 0)]]),(2,.mix 5 [(Cat.cells true m_.f.s)]),(3,.row 1 (Ls v1)),(4,.row 1 (Ls s65.1)),(5,rI v60)],6⟩) (Qj [(0,0),(1,1),(2,2),(3,3),(4,4),(5,5)]) ?_;intro k65 s65 c65 h hk65;refine Q4 ?_;refine Q4 ?_;refine runQ hN fun K hK=>?_;simp [-Q0,-Q5,-Q1,-Q6,-Q2];(repeat refine sdQ ?_);refine hK _ ?_;clear hK K;refine tn ?_
      refine Q9 (st':=⟨[(1,.adr 0 0 0),(2,.adr 1 0 0),(5,.adr 2 0 0),(6,.own 3 0 v1.length),(7,.own 4 0 s65.1.length),(8,iV s37.2),(9,iV s55.2),(10,.own 5 0 v60.length),(11,iV s65.2),(49,.val (.bool (decide (s65.2<(v60.length:Int)))))],[(0,.mix 14 [(Mnd.cells true m_)]),(1,.mix 5 [[iV 0,.val (.slice none 0 0),.val (.slice none 0 0),.val (.slice none 0 0),.val (.slice none 0 0)]]),(2,.mix 5 [(Cat.cells true m_.f.s)]),(3,.row 1 (Ls v1)),(4,.row 1 (Ls s65.1)),(5,rI v60)],6⟩) (Qj [(0,0),(1,1),(2,2),(3,3),(4,4),(5,5)]) ?_;refine Qe rfl (fun g=>?_) fun g=>?_
      ·have g66:s65.2<(v60.length:Int):=gQ;clear g;replace h:=if_l g66 h;refine Qf ?_;refine tn ?_;refine Q4 ?_;refine Qc ?_;refine runQ hN fun K hK=>?_;replace h:=Q8 h;obtain ⟨a67,h⟩:=h;replace h:=Q8 h;obtain ⟨a68,h⟩:=h;(try simp only [List.length_append,List.length_cons,List.length_nil] at a68);simp [-Q0,-Q5,-Q1,-Q6,-Q2,at_I a67,a68];(repeat refine sdQ ?_);refine hK _ ?_;clear hK K;refine bn ?_;refine tn ?_;refine Q9 (st':=⟨[(1,.adr 0 0 0),(2,.adr 1 0 0),(5,.adr 2 0 0),(6,.own 3 0 v1.length),(7,.own 4 0 ((s65.1++[[s37.2,s55.2,ix v60 s65.2]]).length)),(8,iV s37.2),(9,iV s55.2),(10,.own 5 0 v60.length),(11,iV s65.2)],[(0,.mix 14 [(Mnd.cells true m_)]),(1,.mix 5 [[iV 0,.val (.slice none 0 0),.val (.slice none 0 0),.val (.slice none 0 0),.val (.slice none 0 0)]]),(2,.mix 5 [(Cat.cells true m_.f.s)]),(3,.row 1 (Ls v1)),(4,.row 1 (Ls (s65.1++[[s37.2,s55.2,ix v60 s65.2]]))),(5,rI v60)],6⟩) (Qj [(0,0),(1,1),(2,2),(3,3),(9,4),(5,5)]) ?_;refine runQ hN fun K hK=>?_;replace h:=Q8 h;obtain ⟨a69,h⟩:=h;simp [-Q0,-Q5,-Q1,-Q6,-Q2,Qs a69];(repeat refine sdQ ?_);refine hK _ ?_;clear hK K;cases h;exact rn (s':=(s65.1++[[s37.2,s55.2,ix v60 s65.2]],s65.2+1)) hk65 (Qj [(0,0),(1,1),(2,2),(3,3),(4,4),(5,5)])
      have g66:¬ (s65.2<(v60.length:Int)):=gQ;clear g;replace h:=if_r g66 h;refine Qp ?_;refine tx ?_;refine lx ?_;refine bh ?_;refine bn ?_;cases h;have q:_=e65:=hk65;have h:=h65;rw [← q] at h;clear q;(try dsimp only at h);exact jn (b:=s65.1) (Option.some.inj h) (Qj [(0,0),(1,1),(2,2),(3,3),(4,4)])
     intro b57 hb57;have h:=h57;(try rw [← hb57] at h);clear h57;(try dsimp only at h);refine runQ hN fun K hK=>?_;replace h:=Q8 h;obtain ⟨a70,h⟩:=h;simp [-Q0,-Q5,-Q1,-Q6,-Q2,Qs a70];(repeat refine sdQ ?_);refine hK _ ?_;clear hK K;cases h;exact rn (s':=(b57,s55.2+1)) hk55 (Qj [(0,0),(1,1),(2,2),(3,3),(4,4)])
    have g56:¬ (s55.2<(v1.length:Int)):=gQ;clear g;replace h:=if_r g56 h;refine Qp ?_;refine tx ?_;refine lx ?_;refine bh ?_;refine bn ?_;cases h;have q:_=e55:=hk55;have h:=h55;rw [← q] at h;clear q;(try dsimp only at h);exact jn (b:=s55.1) (Option.some.inj h) (Qj [(0,0),(1,1),(2,2),(3,3),(4,4)])
   intro b39 hb39;have h:=h39;(try rw [← hb39] at h);clear h39;(try dsimp only at h);refine runQ hN fun K hK=>?_;replace h:=Q8 h;obtain ⟨a71,h⟩:=h;simp [-Q0,-Q5,-Q1,-Q6,-Q2,Qs a71];(repeat refine sdQ ?_);refine hK _ ?_;clear hK K;cases h;exact rn (s':=(b39,s37.2+1)) hk37 (Qj [(0,0),(1,1),(2,2),(3,3),(4,4)])
  have g38:¬ (s37.2<(v1.length:Int)):=gQ;clear g;replace h:=if_r g38 h;refine Qp ?_;refine tx ?_;refine lx ?_;refine bh ?_;cases h;exact jn (b:=s37.1) hk37 (Qj [(1,0),(2,1),(3,2),(4,3)])
 intro b2 hb2;have h:=h2;try rw [← hb2] at h
 clear h2;try dsimp only at h
 refine Q4 ?_;refine runQ hN fun K hK=>?_;simp [-Q0,-Q5,-Q1,-Q6,-Q2];repeat with_reducible refine sdQ ?_
 replace h:=bind_some h;obtain ⟨v72,hv72,h⟩:=h;refine Q3 (Q5b _ _ v72 hv72) (.cons (.whole (by simp) (by simp) (by simp)) (.cons .val .nil)) ?_;simp [-Q0,-Q5,-Q1,-Q6,-Q2,unk,unA,unE,unT,unC,flat];repeat with_reducible refine sdQ ?_
 replace h:=bind_some h;obtain ⟨v73,hv73,h⟩:=h;refine Q3 (Q5b _ _ v73 hv73) (.cons (.whole (by simp) (by simp) (by simp)) (.cons .val .nil)) ?_;simp [-Q0,-Q5,-Q1,-Q6,-Q2,unk,unA,unE,unT,unC,flat];repeat refine sdQ ?_
 refine hK _ ?_;clear hK K;refine tn ?_;refine Q9 (st':=⟨[(2,.adr 0 0 0),(5,.adr 1 0 0),(6,.own 2 0 v1.length),(7,.own 3 0 b2.length),(12,.adr 4 0 0)],[(0,.mix 5 [[iV 0,.val (.slice none 0 0),.val (.slice none 0 0),.val (.slice none 0 0),.val (.slice none 0 0)]]),(1,.mix 5 [(Cat.cells true m_.f.s)]),(2,.row 1 (Ls v1)),(3,.row 1 (Ls b2)),(4,.mix 5 [[iV (v1.length:Int),.own 5 0 v72.length,.own 6 0 v73.length,.own 7 0 0,.own 8 0 0]]),(5,rI v72),(6,rI v73),(7,.mix 1 []),(8,.mix 1 [])],9⟩) (Qj [(0,0),(1,1),(2,2),(3,3),(8,4),(4,5),(5,6),(6,7),(7,8)]) ?_;refine Q4 ?_;refine Q4 ?_;refine runQ hN fun K hK=>?_;simp [-Q0,-Q5,-Q1,-Q6,-Q2];repeat refine sdQ ?_
 refine hK _ ?_;clear hK K;refine tn ?_;refine Q9 (st':=⟨[(2,.adr 0 0 0),(5,.adr 1 0 0),(6,.own 2 0 v1.length),(7,.own 3 0 b2.length),(12,.adr 4 0 0),(13,iV 0)],[(0,.mix 5 [[iV 0,.val (.slice none 0 0),.val (.slice none 0 0),.val (.slice none 0 0),.val (.slice none 0 0)]]),(1,.mix 5 [(Cat.cells true m_.f.s)]),(2,.row 1 (Ls v1)),(3,.row 1 (Ls b2)),(4,.mix 5 [[iV (v1.length:Int),.own 5 0 v72.length,.own 6 0 v73.length,.own 7 0 0,.own 8 0 0]]),(5,rI v72),(6,rI v73),(7,.mix 1 []),(8,.mix 1 [])],9⟩) (Qj [(0,0),(1,1),(2,2),(3,3),(4,4),(5,5),(6,6),(7,7),(8,8)]) ?_;replace h:=bind_some h;obtain ⟨e74,h,h74⟩:=h;refine Qk (fun b74:List Int=>⟨[(2,.adr 0 0 0),(5,.adr 1 0 0),(6,.own 2 0 v1.length),(7,.own 3 0 b2.length),(12,.adr 4 0 0)],[(0,.mix 5 [[iV 0,.val (.slice none 0 0),.val (.slice none 0 0),.val (.slice none 0 0),.val (.slice none 0 0)]]),(1,.mix 5 [(Cat.cells true m_.f.s)]),(2,.row 1 (Ls v1)),(3,.row 1 (Ls b2)),(4,.mix 5 [[iV (v1.length:Int),.own 5 0 v72.length,.own 6 0 v73.length,.own 7 0 b74.length,.own 8 0 0]]),(5,rI v72),(6,rI v73),(7,rI b74),(8,.mix 1 [])],9⟩) (fun b74=>b74=e74) ?_ ?_
 ·refine Qc ?_;refine Qw h (fun s82:List Int × Int=>⟨[(2,.adr 0 0 0),(5,.adr 1 0 0),(6,.own 2 0 v1.length),(7,.own 3 0 b2.length),(12,.adr 4 0 0),(13,iV s82.2)],[(0,.mix 5 [[iV 0,.val (.slice none 0 0),.val (.slice none 0 0),.val (.slice none 0 0),.val (.slice none 0 0)]]),(1,.mix 5 [(Cat.cells true m_.f.s)]),(2,.row 1 (Ls v1)),(3,.row 1 (Ls b2)),(4,.mix 5 [[iV (v1.length:Int),.own 5 0 v72.length,.own 6 0 v73.length,.own 7 0 s82.1.length,.own 8 0 0]]),(5,rI v72),(6,rI v73),(7,rI s82.1),(8,.mix 1 [])],9⟩) (Q33 ⟨[(2,.adr 0 0 0),(5,.adr 1 0 0),(6,.own 2 0 v1.length),(7,.own 3 0 b2.length),(12,.adr 4 0 0),(13,iV 0)],[(0,.mix 5 [[iV 0,.val (.slice none 0 0),.val (.slice none 0 0),.val (.slice none 0 0),.val (.slice none 0 0)]]),(1,.mix 5 [(Cat.cells true m_.f.s)]),(2,.row 1 (Ls v1)),(3,.row 1 (Ls b2)),(4,.mix 5 [[iV (v1.length:Int),.own 5 0 v72.length,.own 6 0 v73.length,.own 7 0 0,.own 8 0 0]]),(5,rI v72),(6,rI v73),(7,rI []),(8,.mix 1 [])],9⟩ (Wk.nils [] (by simp) (by simp) (by simp [nlA]) (by simp [entN,nlL,nlA,Cat.cells,Mnd.cells,UA,U1,IA,I1,LA,L1,BA,B1,EA,E1,E2,eB,eI,eL]) (by simp)) (Qj [(0,0),(1,1),(2,2),(3,3),(4,4),(5,5),(6,6),(7,7),(8,8)])) ?_;clear h;intro k82 s82 c82 h hk82;refine Q4 ?_;refine Q4 ?_;refine runQ hN fun K hK=>?_;simp [-Q0,-Q5,-Q1,-Q6,-Q2];repeat refine sdQ ?_
  refine hK _ ?_;clear hK K;refine tn ?_;refine Q9 (st':=⟨[(2,.adr 0 0 0),(5,.adr 1 0 0),(6,.own 2 0 v1.length),(7,.own 3 0 b2.length),(12,.adr 4 0 0),(13,iV s82.2),(74,.val (.bool (decide (s82.2<(v1.length:Int)))))],[(0,.mix 5 [[iV 0,.val (.slice none 0 0),.val (.slice none 0 0),.val (.slice none 0 0),.val (.slice none 0 0)]]),(1,.mix 5 [(Cat.cells true m_.f.s)]),(2,.row 1 (Ls v1)),(3,.row 1 (Ls b2)),(4,.mix 5 [[iV (v1.length:Int),.own 5 0 v72.length,.own 6 0 v73.length,.own 7 0 s82.1.length,.own 8 0 0]]),(5,rI v72),(6,rI v73),(7,rI s82.1),(8,.mix 1 [])],9⟩) (Qj [(0,0),(1,1),(2,2),(3,3),(4,4),(5,5),(6,6),(7,7),(8,8)]) ?_;refine Qe rfl (fun g=>?_) fun g=>?_
  ·have g83:s82.2<(v1.length:Int):=gQ;clear g;replace h:=if_l g83 h;refine Qf ?_;refine tn ?_;refine Q4 ?_;refine Qc ?_;refine runQ hN fun K hK=>?_;replace h:=Q8 h;obtain ⟨a84,h⟩:=h;replace h:=Q8 h;obtain ⟨a85,h⟩:=h;replace h:=Q8 h;obtain ⟨a86,h⟩:=h;simp [-Q0,-Q5,-Q1,-Q6,-Q2,at_L a84,(show (Is (rx v1 s82.2))[0]? = some [iV (ix (rx v1 s82.2) 0)] from at_I (j:=0) a85),at_I a86];(repeat with_reducible refine sdQ ?_);replace h:=bind_some h;obtain ⟨v87,hv87,h⟩:=h;refine Q3 (Q3E _ _ v87 hv87) (.cons (.whole (by simp) (by simp) (by simp)) (.cons (.lits (es:=_) rfl (.cons rfl (.cons .val .nil) (.cons rfl (.cons .val .nil) (.cons rfl (.cons .val .nil) .nil))) rfl) .nil)) ?_;replace h:=Q8 h;obtain ⟨a88,h⟩:=h;(try simp only [List.length_append,List.length_cons,List.length_nil] at a88);simp [-Q0,-Q5,-Q1,-Q6,-Q2,unk,unA,unE,unT,unC,flat,at_L a84,at_I a86,a88];(repeat refine sdQ ?_);refine hK _ ?_;clear hK K;refine bn ?_;refine tn ?_;refine Q9 (st':=⟨[(2,.adr 0 0 0),(5,.adr 1 0 0),(6,.own 2 0 v1.length),(7,.own 3 0 b2.length),(12,.adr 4 0 0),(13,iV s82.2)],[(0,.mix 5 [[iV 0,.val (.slice none 0 0),.val (.slice none 0 0),.val (.slice none 0 0),.val (.slice none 0 0)]]),(1,.mix 5 [(Cat.cells true m_.f.s)]),(2,.row 1 (Ls v1)),(3,.row 1 (Ls b2)),(4,.mix 5 [[iV (v1.length:Int),.own 5 0 v72.length,.own 6 0 v73.length,.own 7 0 ((s82.1++[v87]).length),.own 8 0 0]]),(5,rI v72),(6,rI v73),(7,rI (s82.1++[v87])),(8,.mix 1 [])],9⟩) (Qj [(0,0),(1,1),(2,2),(3,3),(4,4),(5,5),(6,6),(14,7),(8,8)]) ?_;refine runQ hN fun K hK=>?_;replace h:=Q8 h;obtain ⟨a89,h⟩:=h;simp [-Q0,-Q5,-Q1,-Q6,-Q2,Qs a89];(repeat refine sdQ ?_);refine hK _ ?_;clear hK K;cases h;exact rn (s':=(s82.1++[v87],s82.2+1)) hk82 (Qj [(0,0),(1,1),(2,2),(3,3),(4,4),(5,5),(6,6),(7,7),(8,8)])
  have g83:¬ (s82.2<(v1.length:Int)):=gQ;clear g;replace h:=if_r g83 h;refine Qp ?_;refine tx ?_;refine lx ?_;refine bh ?_;cases h;exact jn (b:=s82.1) hk82 (Qj [(0,0),(1,1),(2,2),(3,3),(4,4),(5,5),(6,6),(7,7),(8,8)])
 intro b74 hb74;have h:=h74;try rw [← hb74] at h
 clear h74;try dsimp only at h
 refine Q4 ?_;refine Q4 ?_;refine runQ hN fun K hK=>?_;simp [-Q0,-Q5,-Q1,-Q6,-Q2];repeat refine sdQ ?_
 refine hK _ ?_;clear hK K;refine tn ?_;refine Q9 (st':=⟨[(2,.adr 0 0 0),(5,.adr 1 0 0),(6,.own 2 0 v1.length),(7,.own 3 0 b2.length),(12,.adr 4 0 0),(14,iV 0)],[(0,.mix 5 [[iV 0,.val (.slice none 0 0),.val (.slice none 0 0),.val (.slice none 0 0),.val (.slice none 0 0)]]),(1,.mix 5 [(Cat.cells true m_.f.s)]),(2,.row 1 (Ls v1)),(3,.row 1 (Ls b2)),(4,.mix 5 [[iV (v1.length:Int),.own 5 0 v72.length,.own 6 0 v73.length,.own 7 0 b74.length,.own 8 0 0]]),(5,rI v72),(6,rI v73),(7,rI b74),(8,.mix 1 [])],9⟩) (Qj [(0,0),(1,1),(2,2),(3,3),(4,4),(5,5),(6,6),(7,7),(8,8)]) ?_;replace h:=bind_some h;obtain ⟨e90,h,h90⟩:=h;refine Qk (fun b90:List (List Int)=>⟨[(2,.adr 0 0 0),(6,.own 1 0 v1.length),(7,.own 2 0 b2.length),(12,.adr 3 0 0)],[(0,.mix 5 [[iV 0,.val (.slice none 0 0),.val (.slice none 0 0),.val (.slice none 0 0),.val (.slice none 0 0)]]),(1,.row 1 (Ls v1)),(2,.row 1 (Ls b2)),(3,.mix 5 [[iV (v1.length:Int),.own 4 0 v72.length,.own 5 0 v73.length,.own 6 0 b74.length,.own 7 0 b90.length]]),(4,rI v72),(5,rI v73),(6,rI b74),(7,.row 1 (Ls b90))],8⟩) (fun b90=>b90=e90) ?_ ?_
 ·refine Qc ?_;refine Qw h (fun s137:List (List Int) × Int=>⟨[(2,.adr 0 0 0),(5,.adr 1 0 0),(6,.own 2 0 v1.length),(7,.own 3 0 b2.length),(12,.adr 4 0 0),(14,iV s137.2)],[(0,.mix 5 [[iV 0,.val (.slice none 0 0),.val (.slice none 0 0),.val (.slice none 0 0),.val (.slice none 0 0)]]),(1,.mix 5 [(Cat.cells true m_.f.s)]),(2,.row 1 (Ls v1)),(3,.row 1 (Ls b2)),(4,.mix 5 [[iV (v1.length:Int),.own 5 0 v72.length,.own 6 0 v73.length,.own 7 0 b74.length,.own 8 0 s137.1.length]]),(5,rI v72),(6,rI v73),(7,rI b74),(8,.row 1 (Ls s137.1))],9⟩) (Q33 ⟨[(2,.adr 0 0 0),(5,.adr 1 0 0),(6,.own 2 0 v1.length),(7,.own 3 0 b2.length),(12,.adr 4 0 0),(14,iV 0)],[(0,.mix 5 [[iV 0,.val (.slice none 0 0),.val (.slice none 0 0),.val (.slice none 0 0),.val (.slice none 0 0)]]),(1,.mix 5 [(Cat.cells true m_.f.s)]),(2,.row 1 (Ls v1)),(3,.row 1 (Ls b2)),(4,.mix 5 [[iV (v1.length:Int),.own 5 0 v72.length,.own 6 0 v73.length,.own 7 0 b74.length,.own 8 0 0]]),(5,rI v72),(6,rI v73),(7,rI b74),(8,.row 1 (Ls []))],9⟩ (Wk.nils [] (by simp) (by simp) (by simp [nlA]) (by simp [entN,nlL,nlA,Cat.cells,Mnd.cells,UA,U1,IA,I1,LA,L1,BA,B1,EA,E1,E2,eB,eI,eL]) (by simp)) (Qj [(0,0),(1,1),(2,2),(3,3),(4,4),(5,5),(6,6),(7,7),(8,8)])) ?_;clear h;intro k137 s137 c137 h hk137;refine Q4 ?_;refine Q4 ?_;replace h:=bind_some h;obtain ⟨e138,h,h138⟩:=h;refine Qk (fun b138:Bool=>⟨[(2,.adr 0 0 0),(5,.adr 1 0 0),(6,.own 2 0 v1.length),(7,.own 3 0 b2.length),(12,.adr 4 0 0),(14,iV s137.2),(104,.val (.bool b138))],[(0,.mix 5 [[iV 0,.val (.slice none 0 0),.val (.slice none 0 0),.val (.slice none 0 0),.val (.slice none 0 0)]]),(1,.mix 5 [(Cat.cells true m_.f.s)]),(2,.row 1 (Ls v1)),(3,.row 1 (Ls b2)),(4,.mix 5 [[iV (v1.length:Int),.own 5 0 v72.length,.own 6 0 v73.length,.own 7 0 b74.length,.own 8 0 s137.1.length]]),(5,rI v72),(6,rI v73),(7,rI b74),(8,.row 1 (Ls s137.1))],9⟩) (fun b138=>b138=e138) ?_ ?_
  ·refine runQ hN fun K hK=>?_;simp [-Q0,-Q5,-Q1,-Q6,-Q2];(repeat with_reducible refine sdQ ?_);refine Qo (fun g=>?_) (fun g=>?_)
   ·have g139:s137.2<(b2.length:Int):=gQ;clear g;replace h:=if_l g139 h;simp [-Q0,-Q5,-Q1,-Q6,-Q2];(repeat with_reducible refine sdQ ?_);replace h:=bind_some h;obtain ⟨v140,hv140,h⟩:=h;refine Q3 (Q6m _ v140 hv140) (.cons (.aggL (.cons .val (.cons (.whole (by simp) (by simp) (by simp)) (.cons (.whole (by simp) (by simp) (by simp)) (.cons (.whole (by simp) (by simp) (by simp)) (.cons (.whole (by simp) (by simp) (by simp)) .nil)))))) .nil) ?_;simp [-Q0,-Q5,-Q1,-Q6,-Q2,unk,unA,unE,unT,unC,flat];(repeat refine sdQ ?_);refine hK _ ?_;exact jn (b:=v140) (Option.some.inj h) (Qj [(0,0),(1,1),(2,2),(3,3),(4,4),(5,5),(6,6),(7,7),(8,8)])
   have g139:¬ (s137.2<(b2.length:Int)):=gQ;clear g;replace h:=if_r g139 h;simp [-Q0,-Q5,-Q1,-Q6,-Q2];(repeat refine sdQ ?_);refine hK _ ?_;exact jn (b:=false) (Option.some.inj h) (Qj [(0,0),(1,1),(2,2),(3,3),(4,4),(5,5),(6,6),(7,7),(8,8)])
  intro b138 hb138;have h:=h138;try rw [← hb138] at h
  clear h138;try dsimp only at h
  refine Qe rfl (fun g=>?_) fun g=>?_
  ·have g141:b138=true:=gQ;clear g;replace h:=if_l g141 h;refine Qf ?_;refine tn ?_;refine Q4 ?_;refine Qc ?_;refine Q4 ?_;refine runQ hN fun K hK=>?_;simp [-Q0,-Q5,-Q1,-Q6,-Q2];(repeat refine sdQ ?_);refine hK _ ?_;clear hK K;refine tn ?_;refine Q9 (st':=⟨[(2,.adr 0 0 0),(5,.adr 1 0 0),(6,.own 2 0 v1.length),(7,.own 3 0 b2.length),(12,.adr 4 0 0),(14,iV s137.2),(15,.own 9 0 0)],[(0,.mix 5 [[iV 0,.val (.slice none 0 0),.val (.slice none 0 0),.val (.slice none 0 0),.val (.slice none 0 0)]]),(1,.mix 5 [(Cat.cells true m_.f.s)]),(2,.row 1 (Ls v1)),(3,.row 1 (Ls b2)),(4,.mix 5 [[iV (v1.length:Int),.own 5 0 v72.length,.own 6 0 v73.length,.own 7 0 b74.length,.own 8 0 s137.1.length]]),(5,rI v72),(6,rI v73),(7,rI b74),(8,.row 1 (Ls s137.1)),(9,.mix 1 [])],10⟩) (Qj [(0,0),(1,1),(2,2),(3,3),(4,4),(5,5),(6,6),(7,7),(8,8),(9,9)]) ?_;refine Q4 ?_;refine Q4 ?_;refine runQ hN fun K hK=>?_;simp [-Q0,-Q5,-Q1,-Q6,-Q2];(repeat refine sdQ ?_);refine hK _ ?_;clear hK K;refine tn ?_;refine Q9 (st':=⟨[(2,.adr 0 0 0),(5,.adr 1 0 0),(6,.own 2 0 v1.length),(7,.own 3 0 b2.length),(12,.adr 4 0 0),(14,iV s137.2),(15,.own 9 0 0),(16,iV 0)],[(0,.mix 5 [[iV 0,.val (.slice none 0 0),.val (.slice none 0 0),.val (.slice none 0 0),.val (.slice none 0 0)]]),(1,.mix 5 [(Cat.cells true m_.f.s)]),(2,.row 1 (Ls v1)),(3,.row 1 (Ls b2)),(4,.mix 5 [[iV (v1.length:Int),.own 5 0 v72.length,.own 6 0 v73.length,.own 7 0 b74.length,.own 8 0 s137.1.length]]),(5,rI v72),(6,rI v73),(7,rI b74),(8,.row 1 (Ls s137.1)),(9,.mix 1 [])],10⟩) (Qj [(0,0),(1,1),(2,2),(3,3),(4,4),(5,5),(6,6),(7,7),(8,8),(9,9)]) ?_;replace h:=bind_some h;obtain ⟨e142,h,h142⟩:=h;refine Qk (fun b142:List Int=>⟨[(2,.adr 0 0 0),(5,.adr 1 0 0),(6,.own 2 0 v1.length),(7,.own 3 0 b2.length),(12,.adr 4 0 0),(14,iV s137.2),(15,.own 9 0 b142.length)],[(0,.mix 5 [[iV 0,.val (.slice none 0 0),.val (.slice none 0 0),.val (.slice none 0 0),.val (.slice none 0 0)]]),(1,.mix 5 [(Cat.cells true m_.f.s)]),(2,.row 1 (Ls v1)),(3,.row 1 (Ls b2)),(4,.mix 5 [[iV (v1.length:Int),.own 5 0 v72.length,.own 6 0 v73.length,.own 7 0 b74.length,.own 8 0 s137.1.length]]),(5,rI v72),(6,rI v73),(7,rI b74),(8,.row 1 (Ls s137.1)),(9,rI b142)],10⟩) (fun b142=>b142=e142) ?_ ?_
   ·refine Qc ?_;refine Qw h (fun s162:List Int × Int=>⟨[(2,.adr 0 0 0),(5,.adr 1 0 0),(6,.own 2 0 v1.length),(7,.own 3 0 b2.length),(12,.adr 4 0 0),(14,iV s137.2),(15,.own 9 0 s162.1.length),(16,iV s162.2)],[(0,.mix 5 [[iV 0,.val (.slice none 0 0),.val (.slice none 0 0),.val (.slice none 0 0),.val (.slice none 0 0)]]),(1,.mix 5 [(Cat.cells true m_.f.s)]),(2,.row 1 (Ls v1)),(3,.row 1 (Ls b2)),(4,.mix 5 [[iV (v1.length:Int),.own 5 0 v72.length,.own 6 0 v73.length,.own 7 0 b74.length,.own 8 0 s137.1.length]]),(5,rI v72),(6,rI v73),(7,rI b74),(8,.row 1 (Ls s137.1)),(9,rI s162.1)],10⟩) (Q33 ⟨[(2,.adr 0 0 0),(5,.adr 1 0 0),(6,.own 2 0 v1.length),(7,.own 3 0 b2.length),(12,.adr 4 0 0),(14,iV s137.2),(15,.own 9 0 0),(16,iV 0)],[(0,.mix 5 [[iV 0,.val (.slice none 0 0),.val (.slice none 0 0),.val (.slice none 0 0),.val (.slice none 0 0)]]),(1,.mix 5 [(Cat.cells true m_.f.s)]),(2,.row 1 (Ls v1)),(3,.row 1 (Ls b2)),(4,.mix 5 [[iV (v1.length:Int),.own 5 0 v72.length,.own 6 0 v73.length,.own 7 0 b74.length,.own 8 0 s137.1.length]]),(5,rI v72),(6,rI v73),(7,rI b74),(8,.row 1 (Ls s137.1)),(9,rI [])],10⟩ (Wk.nils [] (by simp) (by simp) (by simp [nlA]) (by simp [entN,nlL,nlA,Cat.cells,Mnd.cells,UA,U1,IA,I1,LA,L1,BA,B1,EA,E1,E2,eB,eI,eL]) (by simp)) (Qj [(0,0),(1,1),(2,2),(3,3),(4,4),(5,5),(6,6),(7,7),(8,8),(9,9)])) ?_;clear h;intro k162 s162 c162 h hk162;refine Q4 ?_;refine Q4 ?_;refine runQ hN fun K hK=>?_;simp [-Q0,-Q5,-Q1,-Q6,-Q2];(repeat refine sdQ ?_);refine hK _ ?_;clear hK K;refine tn ?_;refine Q9 (st':=⟨[(2,.adr 0 0 0),(5,.adr 1 0 0),(6,.own 2 0 v1.length),(7,.own 3 0 b2.length),(12,.adr 4 0 0),(14,iV s137.2),(15,.own 9 0 s162.1.length),(16,iV s162.2),(111,.val (.bool (decide (s162.2<(b2.length:Int)))))],[(0,.mix 5 [[iV 0,.val (.slice none 0 0),.val (.slice none 0 0),.val (.slice none 0 0),.val (.slice none 0 0)]]),(1,.mix 5 [(Cat.cells true m_.f.s)]),(2,.row 1 (Ls v1)),(3,.row 1 (Ls b2)),(4,.mix 5 [[iV (v1.length:Int),.own 5 0 v72.length,.own 6 0 v73.length,.own 7 0 b74.length,.own 8 0 s137.1.length]]),(5,rI v72),(6,rI v73),(7,rI b74),(8,.row 1 (Ls s137.1)),(9,rI s162.1)],10⟩) (Qj [(0,0),(1,1),(2,2),(3,3),(4,4),(5,5),(6,6),(7,7),(8,8),(9,9)]) ?_;refine Qe rfl (fun g=>?_) fun g=>?_
    ·have g163:s162.2<(b2.length:Int):=gQ;clear g;replace h:=if_l g163 h;refine Qf ?_;refine tn ?_;refine Q4 ?_;refine Qc ?_;refine Q4 ?_;refine runQ hN fun K hK=>?_;simp [-Q0,-Q5,-Q1,-Q6,-Q2];(repeat refine sdQ ?_);refine hK _ ?_;clear hK K;refine tn ?_;refine Q9 (st':=⟨[(2,.adr 0 0 0),(5,.adr 1 0 0),(6,.own 2 0 v1.length),(7,.own 3 0 b2.length),(12,.adr 4 0 0),(14,iV s137.2),(15,.own 9 0 s162.1.length),(16,iV s162.2),(17,iV (-1))],[(0,.mix 5 [[iV 0,.val (.slice none 0 0),.val (.slice none 0 0),.val (.slice none 0 0),.val (.slice none 0 0)]]),(1,.mix 5 [(Cat.cells true m_.f.s)]),(2,.row 1 (Ls v1)),(3,.row 1 (Ls b2)),(4,.mix 5 [[iV (v1.length:Int),.own 5 0 v72.length,.own 6 0 v73.length,.own 7 0 b74.length,.own 8 0 s137.1.length]]),(5,rI v72),(6,rI v73),(7,rI b74),(8,.row 1 (Ls s137.1)),(9,rI s162.1)],10⟩) (Qj [(0,0),(1,1),(2,2),(3,3),(4,4),(5,5),(6,6),(7,7),(8,8),(9,9)]) ?_;refine Q4 ?_;refine Q4 ?_;refine runQ hN fun K hK=>?_;replace h:=Q8 h;obtain ⟨a164,h⟩:=h;replace h:=Q8 h;obtain ⟨a165,h⟩:=h;replace h:=Q8 h;obtain ⟨a166,h⟩:=h;replace h:=Q8 h;obtain ⟨a167,h⟩:=h;simp [-Q0,-Q5,-Q1,-Q6,-Q2,at_L a164,(show (Is (rx b2 s137.2))[1]? = some [iV (ix (rx b2 s137.2) 1)] from at_I (j:=1) a165),at_L a166,(show (Is (rx b2 s162.2))[0]? = some [iV (ix (rx b2 s162.2) 0)] from at_I (j:=0) a167)];(repeat refine sdQ ?_);refine hK _ ?_;clear hK K;refine tn ?_;refine Q9 (st':=⟨[(2,.adr 0 0 0),(5,.adr 1 0 0),(6,.own 2 0 v1.length),(7,.own 3 0 b2.length),(12,.adr 4 0 0),(14,iV s137.2),(15,.own 9 0 s162.1.length),(16,iV s162.2),(17,iV (-1)),(126,.val (.bool ((ix (rx b2 s137.2) 1) == (ix (rx b2 s162.2) 0))))],[(0,.mix 5 [[iV 0,.val (.slice none 0 0),.val (.slice none 0 0),.val (.slice none 0 0),.val (.slice none 0 0)]]),(1,.mix 5 [(Cat.cells true m_.f.s)]),(2,.row 1 (Ls v1)),(3,.row 1 (Ls b2)),(4,.mix 5 [[iV (v1.length:Int),.own 5 0 v72.length,.own 6 0 v73.length,.own 7 0 b74.length,.own 8 0 s137.1.length]]),(5,rI v72),(6,rI v73),(7,rI b74),(8,.row 1 (Ls s137.1)),(9,rI s162.1)],10⟩) (Qj [(0,0),(1,1),(2,2),(3,3),(4,4),(5,5),(6,6),(7,7),(8,8),(9,9)]) ?_;replace h:=bind_some h;obtain ⟨e168,h,h168⟩:=h;refine Qk (fun b168:Int=>⟨[(2,.adr 0 0 0),(5,.adr 1 0 0),(6,.own 2 0 v1.length),(7,.own 3 0 b2.length),(12,.adr 4 0 0),(14,iV s137.2),(15,.own 9 0 s162.1.length),(16,iV s162.2),(17,iV b168)],[(0,.mix 5 [[iV 0,.val (.slice none 0 0),.val (.slice none 0 0),.val (.slice none 0 0),.val (.slice none 0 0)]]),(1,.mix 5 [(Cat.cells true m_.f.s)]),(2,.row 1 (Ls v1)),(3,.row 1 (Ls b2)),(4,.mix 5 [[iV (v1.length:Int),.own 5 0 v72.length,.own 6 0 v73.length,.own 7 0 b74.length,.own 8 0 s137.1.length]]),(5,rI v72),(6,rI v73),(7,rI b74),(8,.row 1 (Ls s137.1)),(9,rI s162.1)],10⟩) (fun b168=>b168=e168) ?_ ?_
     ·refine Qe rfl (fun g=>?_) fun g=>?_
      ·have g169:(ix (rx b2 s137.2) 1)=(ix (rx b2 s162.2) 0):=gQ;clear g;replace h:=if_l g169 h;refine runQ hN fun K hK=>?_;replace h:=Q8 h;obtain ⟨a170,h⟩:=h;replace h:=Q8 h;obtain ⟨a171,h⟩:=h;replace h:=Q8 h;obtain ⟨a172,h⟩:=h;replace h:=Q8 h;obtain ⟨a173,h⟩:=h;replace h:=Q8 h;obtain ⟨a174,h⟩:=h;replace h:=Q8 h;obtain ⟨a175,h⟩:=h;replace h:=Q8 h;obtain ⟨a176,h⟩:=h;replace h:=Q8 h;obtain ⟨a177,h⟩:=h;simp [-Q0,-Q5,-Q1,-Q6,-Q2,at_L a170,(show (Is (rx b2 s137.2))[0]? = some [iV (ix (rx b2 s137.2) 0)] from at_I (j:=0) a171),at_L a172,(show (Is (rx b2 s162.2))[1]? = some [iV (ix (rx b2 s162.2) 1)] from at_I (j:=1) a173),at_L a174,(show (Is (rx b2 s137.2))[2]? = some [iV (ix (rx b2 s137.2) 2)] from at_I (j:=2) a175),at_L a176,(show (Is (rx b2 s162.2))[2]? = some [iV (ix (rx b2 s162.2) 2)] from at_I (j:=2) a177)];(repeat with_reducible refine sdQ ?_);replace h:=bind_some h;obtain ⟨v178,hv178,h⟩:=h;refine Q3 (QU _ _ _ v178 hv178) (.cons (.aggL (.cons .val (.cons .lst (.cons .lst (.cons .lst (.cons .lst .nil)))))) (.cons .val (.cons .val .nil))) ?_;simp [-Q0,-Q5,-Q1,-Q6,-Q2,unk,unA,unE,unT,unC,flat,at_L a170,at_L a172,at_L a174,at_L a176];(repeat with_reducible refine sdQ ?_);replace h:=bind_some h;obtain ⟨v179,hv179,h⟩:=h;refine Q3 (Q3E _ _ v179 hv179) (.cons (.whole (by simp) (by simp) (by simp)) (.cons (.lits (es:=_) rfl (.cons rfl (.cons .val .nil) (.cons rfl (.cons .val .nil) (.cons rfl (.cons .val .nil) .nil))) rfl) .nil)) ?_;simp [-Q0,-Q5,-Q1,-Q6,-Q2,unk,unA,unE,unT,unC,flat,at_L a170,at_L a172,at_L a174,at_L a176];(repeat refine sdQ ?_);refine hK _ ?_;clear hK K;exact jn (b:=v179) (Option.some.inj h) (Qj [(0,0),(1,1),(2,2),(3,3),(4,4),(5,5),(6,6),(7,7),(8,8),(9,9)])
      have g169:¬ ((ix (rx b2 s137.2) 1)=(ix (rx b2 s162.2) 0)):=gQ;clear g;replace h:=if_r g169 h;refine Qf ?_;exact jn (b:=(-1)) (Option.some.inj h) (Qj [(0,0),(1,1),(2,2),(3,3),(4,4),(5,5),(6,6),(7,7),(8,8),(9,9)])
     intro b168 hb168;have h:=h168;(try rw [← hb168] at h);clear h168;(try dsimp only at h);refine runQ hN fun K hK=>?_;replace h:=Q8 h;obtain ⟨a180,h⟩:=h;(try simp only [List.length_append,List.length_cons,List.length_nil] at a180);simp [-Q0,-Q5,-Q1,-Q6,-Q2,a180];(repeat refine sdQ ?_);refine hK _ ?_;clear hK K;refine bn ?_;refine tn ?_;refine Q9 (st':=⟨[(2,.adr 0 0 0),(5,.adr 1 0 0),(6,.own 2 0 v1.length),(7,.own 3 0 b2.length),(12,.adr 4 0 0),(14,iV s137.2),(15,.own 9 0 ((s162.1++[b168]).length)),(16,iV s162.2)],[(0,.mix 5 [[iV 0,.val (.slice none 0 0),.val (.slice none 0 0),.val (.slice none 0 0),.val (.slice none 0 0)]]),(1,.mix 5 [(Cat.cells true m_.f.s)]),(2,.row 1 (Ls v1)),(3,.row 1 (Ls b2)),(4,.mix 5 [[iV (v1.length:Int),.own 5 0 v72.length,.own 6 0 v73.length,.own 7 0 b74.length,.own 8 0 s137.1.length]]),(5,rI v72),(6,rI v73),(7,rI b74),(8,.row 1 (Ls s137.1)),(9,rI (s162.1++[b168]))],10⟩) (Qj [(0,0),(1,1),(2,2),(3,3),(4,4),(5,5),(6,6),(7,7),(8,8),(11,9)]) ?_;refine runQ hN fun K hK=>?_;replace h:=Q8 h;obtain ⟨a181,h⟩:=h;simp [-Q0,-Q5,-Q1,-Q6,-Q2,Qs a181];(repeat refine sdQ ?_);refine hK _ ?_;clear hK K;cases h;exact rn (s':=(s162.1++[b168],s162.2+1)) hk162 (Qj [(0,0),(1,1),(2,2),(3,3),(4,4),(5,5),(6,6),(7,7),(8,8),(9,9)])
    have g163:¬ (s162.2<(b2.length:Int)):=gQ;clear g;replace h:=if_r g163 h;refine Qp ?_;refine tx ?_;refine lx ?_;refine bh ?_;cases h;exact jn (b:=s162.1) hk162 (Qj [(0,0),(1,1),(2,2),(3,3),(4,4),(5,5),(6,6),(7,7),(8,8),(9,9)])
   intro b142 hb142;have h:=h142;(try rw [← hb142] at h);clear h142;(try dsimp only at h);refine runQ hN fun K hK=>?_;replace h:=Q8 h;obtain ⟨a182,h⟩:=h;(try simp only [List.length_append,List.length_cons,List.length_nil] at a182);simp [-Q0,-Q5,-Q1,-Q6,-Q2,a182];(repeat refine sdQ ?_);refine hK _ ?_;clear hK K;refine bn ?_;refine tn ?_;refine Q9 (st':=⟨[(2,.adr 0 0 0),(5,.adr 1 0 0),(6,.own 2 0 v1.length),(7,.own 3 0 b2.length),(12,.adr 4 0 0),(14,iV s137.2)],[(0,.mix 5 [[iV 0,.val (.slice none 0 0),.val (.slice none 0 0),.val (.slice none 0 0),.val (.slice none 0 0)]]),(1,.mix 5 [(Cat.cells true m_.f.s)]),(2,.row 1 (Ls v1)),(3,.row 1 (Ls b2)),(4,.mix 5 [[iV (v1.length:Int),.own 5 0 v72.length,.own 6 0 v73.length,.own 7 0 b74.length,.own 8 0 ((s137.1++[b142]).length)]]),(5,rI v72),(6,rI v73),(7,rI b74),(8,.row 1 (Ls (s137.1++[b142])))],9⟩) (Qj [(0,0),(1,1),(2,2),(3,3),(4,4),(5,5),(6,6),(7,7),(11,8)]) ?_;refine runQ hN fun K hK=>?_;replace h:=Q8 h;obtain ⟨a183,h⟩:=h;simp [-Q0,-Q5,-Q1,-Q6,-Q2,Qs a183];(repeat refine sdQ ?_);refine hK _ ?_;clear hK K;cases h;exact rn (s':=(s137.1++[b142],s137.2+1)) hk137 (Qj [(0,0),(1,1),(2,2),(3,3),(4,4),(5,5),(6,6),(7,7),(8,8)])
  have g141:¬ (b138=true):=gQ;clear g;replace h:=if_r g141 h;refine Qp ?_;refine tx ?_;refine lx ?_;refine bh ?_;cases h;exact jn (b:=s137.1) hk137 (Qj [(0,0),(2,1),(3,2),(4,3),(5,4),(6,5),(7,6),(8,7)])
 intro b90 hb90;have h:=h90;try rw [← hb90] at h
 clear h90;try dsimp only at h
 refine Q4 ?_;refine runQ hN fun K hK=>?_;simp [-Q0,-Q5,-Q1,-Q6,-Q2];repeat refine sdQ ?_
 refine hK _ ?_;clear hK K;refine tn ?_;refine Q9 (st':=⟨[(2,.adr 0 0 0),(3,.own 5 0 v1.length),(4,.own 6 0 b2.length)],[(0,.mix 5 [[iV (v1.length:Int),.own 1 0 v72.length,.own 2 0 v73.length,.own 3 0 b74.length,.own 4 0 b90.length]]),(1,rI v72),(2,rI v73),(3,rI b74),(4,.row 1 (Ls b90)),(5,.row 1 (Ls v1)),(6,.row 1 (Ls b2))],7⟩) (Qj [(0,0),(4,1),(5,2),(6,3),(7,4),(1,5),(2,6)]) ?_;refine Qi ?_;have hr:=Option.some.inj h;rw [← hr];refine ⟨_,(.cell tf_31 rfl rfl rfl (by simp) (by simp) (.tmp (.tmp .nil))),?_⟩;refine ⟨(.agg rfl (.one rfl rfl (.one rfl rfl .nil))),[iV (v1.length:Int),lI v72,lI v73,lI b74,.lst true 1 (Ls b90),.lst true 1 (Ls v1),.lst true 1 (Ls b2)],[1,2,3,4,5,6],by simp [Cat.cells,Mnd.cells,UA,U1,IA,I1,LA,L1,BA,B1,EA,E1,E2,eB,eI,eL],by simp,(UpL.refl _)⟩
theorem al_bnd {m:Mnd} (hm:m.Is):(alL m).length≤5000000:=by
 have h1:=Q86 hm (av m).length;have h2:=Q7j hm;have:(av m).length * 12800≤320 * 12800:=Nat.mul_le_mul_right _ h2;unfold alL;omega
theorem Q7q {L:List (List Int)} {k:Int} (hn:L.length≤5000000) (h0:0≤k) (hx:∀ x∈L,k<x.length):Q1o L k=some (L.map (ix · k)):=by
 unfold Q1o;refine QM L.length (fun i=>(L.take i).map (ix · k)) (e:=L.map (ix · k)) (by simp) (by omega) (fun i hi=>?_) (by simp) rfl;have h1:=hx _ (Q6y hi);have h2:=take_rx hi;simp (disch:=omega) [Qa,B64,h2];try omega
theorem Q71 {L:List (List Int)} (hn:L.length≤5000000) (x:List Int):Q1O L x=some (posL L x):=by
 unfold Q1O Q3y posL;refine Q92 L.length (fun i=>rx L i=x) (eb:=fun i=>Sum.inr (i:Int)) (eg:=Sum.inl ()) (by omega) (fun i hi h=>?_) (fun i hi h=>?_) (by simp) (fun m hm hp hlt=>?_) fun h=>?_
 ·rw [if_pos (by omega),Qa (by omega)];simp only [Option.bind_some,decide_eq_true_eq,if_neg h];rw [Qa (by unfold B64;omega)]
 ·rw [if_pos (by omega),Qa (by omega)];simp only [Option.bind_some,decide_eq_true_eq,if_pos h]
 ·simp only;rw [fstN_at hm hp hlt]
 simp only;rw [fstN_no h]
theorem ix_map {L:List (List Int)} {i:Nat} (hi:i<L.length) (k:Int):ix (L.map (ix · k)) i=ix (rx L i) k:=by simp [ix,rx,List.getD_eq_getElem?_getD,hi]
noncomputable def bRow (L:List (List Int)) (cmp:List Int→List Int→Int) (i j:Nat):Int:=if ix (rx L i) 1=ix (rx L j) 0 then posL L [ix (rx L i) 0,ix (rx L j) 1,cmp (rx L i) (rx L j)] else -1
noncomputable def aCmp (m:Mnd) (a b:List Int):Int:=ix (rx m.f.s.cs (ix a 2)) (ix b 2)
theorem e_avl {m:Mnd} (hm:m.Is):Q2P m=some (avL m):=e_l17All hm
theorem Q9t {m:Mnd} (hm:m.Is):Q2z m=some (if (av m).length≤8∧(alL m).length≤40 then aC m else { aC m with cs:=[] },avL m,alL m):=by
 obtain ⟨l1,l2,l3,l4,l5,l6,l7,l8,l9⟩:=hm.pre.len;have hc:=hm.pre.f.s;have hav:=Q7j hm;have hlen:=al_bnd hm;have hal:(avL m).length=(av m).length:=by rw [avL_eq];simp
 have c0:=Q7q (L:=alL m) (k:=0) hlen (by omega) fun x hx=>by rw [al3 x hx];omega
 have c1:=Q7q (L:=alL m) (k:=1) hlen (by omega) fun x hx=>by rw [al3 x hx];omega
 unfold Q2z;rw [e_avl hm];simp only [Option.bind_some,hal];refine QM (av m).length (fun i=>alN m i) (e:=alL m) rfl (by omega) (fun i hi=>?_) (by simp [alL];try omega) ?_
 ·have hL:=Q86 hm i;have hL2:i * 12800≤320 * 12800:=Nat.mul_le_mul_right _ (by omega);simp only;rw [if_pos (by omega)];simp only [Option.bind_assoc];refine QM (av m).length (fun k=>alN m i++alX m i k) (e:=alN m (i+1)) (by simp [alX]) (by omega) (fun k hk=>?_) (by simp [Q6V];try omega) ?_
  ·have hX:=Q87 m (by omega) i k;have hX2:k * 40≤320 * 40:=Nat.mul_le_mul_right _ (by omega);simp only;rw [if_pos (by omega),Qa (by omega),Qa (by omega),(e_amp hm (s:=i) (t:=k) (by omega) (by omega)).1];simp only [Option.bind_some,Option.bind_assoc];have hH:(amp m i k).length≤40:=Nat.le_trans (Q4s _ _ _ _ _) (by omega);refine QM (amp m i k).length (fun j=>(alN m i++alX m i k)++((amp m i k).take j).map fun f=>[(i:Int),(k:Int),f]) (e:=alN m i++alX m i (k+1)) (by simp) (by omega) (fun j hj=>?_) (by simp [Q6W,alF]) ?_
   ·have hs:(amp m i k).take (j+1)=(amp m i k).take j++[ix (amp m i k) j]:=(by rw [List.take_succ_eq_append_getElem hj,Q1J _ _ hj]);simp (disch:=omega) [Qa,B64,hs,hj];try omega
   (try simp only [Option.bind_some]);rw [Qa (by unfold B64;omega)]
  try simp only [Option.bind_some]
  rw [Qa (by unfold B64;omega)]
 rw [c0,c1];simp only [Option.bind_some];refine Q4k (av m).length (fun s=>posL (alL m) [(s:Int),(s:Int),ix m.f.s.id (gx (av m) s).x_]) (e:=tab (av m).length fun s=>posL (alL m) [(s:Int),(s:Int),ix m.f.s.id (gx (av m) s).x_]) (by omega) (fun i hi=>?_) (by simp;try omega) ?_
 ·have hx:=(gxm hm (s:=i) (by omega)).x;have ei:=Q5Q hi;have e0:ix (rx (avL m) i) 0=(gx (av m) i).x_:=by rw [ei];rfl
  simp only;rw [if_pos (by omega),Qa (by omega),Qa (by rw [ei];simp),e0,Qa (by omega),Q71 hlen];rfl
 by_cases h40:(av m).length≤8∧(alL m).length≤40
 ·rw [if_pos h40];refine QM (alL m).length (fun i=>tab i fun i=>tab (alL m).length (bRow (alL m) (aCmp m) i)) (e:=(aC m).cs) rfl (by omega) (fun i hi=>?_) (by simp;rfl) (by simp [aC,bC]);simp only;rw [if_pos (by omega),Q72];rw [QJ (by simp only [List.length_map];omega)];simp only [Option.bind_some,if_true];obtain ⟨x,y,f,hx,hy,hf,hi3⟩:=Q8O hi;have fa:=(Q4v hf).1;refine QM (alL m).length (fun j=>tab j (bRow (alL m) (aCmp m) i)) (e:=tab (alL m).length (bRow (alL m) (aCmp m) i)) rfl (by omega) (fun j hj=>?_) (by simp) ?_
  ·obtain ⟨y',z,g,hy',hz,hg,hj3⟩:=Q8O hj;have ga:=(Q4v hg).1;simp only;rw [if_pos (by omega),Qa (by omega),Qa (by rw [hi3];simp),Qa (by omega),Qa (by rw [hj3];simp),Q57]
   by_cases e:ix (rx (alL m) i) 1=ix (rx (alL m) j) 0
   ·have q:bRow (alL m) (aCmp m) i j=posL (alL m) [ix (rx (alL m) i) 0,ix (rx (alL m) j) 1,ix (rx m.f.s.cs (ix (rx (alL m) i) 2)) (ix (rx (alL m) j) 2)]:=(by unfold bRow;rw [if_pos e];rfl);rw [if_pos e,Qa (by omega),Qa (by rw [hi3];simp),Qa (by omega),Qa (by rw [hj3];simp),Qa (by omega),Qa (by rw [hi3];simp),Qa (by omega),Qa (by rw [hj3];simp),q];have e':y=y':=(by rw [hi3,hj3] at e;simpa [ix] using e);subst e';have b:=Ar.thn hc (f:=ix (rx (alL m) i) 2) (g:=ix (rx (alL m) j) 2) (by rw [hi3];exact fa) (by rw [hj3];exact ga);rw [b.1];simp only [Option.bind_some];rw [Q71 hlen];simp only [Option.bind_some];rw [Qa (by simp;omega),Qa (by unfold B64;omega)]
   have q:bRow (alL m) (aCmp m) i j = -1:=(by unfold bRow;rw [if_neg e]);rw [if_neg e,q];simp only [Option.bind_some];rw [Qa (by simp;omega),Qa (by unfold B64;omega)]
  try simp only
  rw [Qa (by simp;omega),Qa (by unfold B64;omega),Q57]
 rw [if_neg h40];refine QM 0 (fun _=>[]) (e:=[]) rfl (by omega) (fun i hi=>by omega) ?_ (by simp [aC,bC]);simp only
 by_cases h0:(0:Int)<((alL m).length:Int)
 ·rw [if_pos (by simpa using h0),Q72,Qv (by simp only [List.length_map];omega)];simp
 rw [if_neg (by simpa using h0)];simp
attribute [local simp] eL eI Qm Q1H Qh Mnd.cells XAlgebras.cells
attribute [local simp] Q7 Qh XAlgebra.cells XAlgebras.cells
noncomputable def QT (k_:XAlgebras) (i_:Int) (j_:Int) (f_:Int):Option Int :=
 (Q5m [[i_,j_,f_]]).bind fun v1 =>
 some ((Q3L v1 k_.at_).getD 0)
theorem Q2f (k_:XAlgebras) (i_:Int) (j_:Int) (f_:Int) (r:Int) (h:QT k_ i_ j_ f_=some r):Contract Tryz.prog 65 [.rptr (k_.cells true),iV i_,iV j_,iV f_] (iV r):=by
 refine Qd (rvs:=[.tmp 8]) (rs:=[iV r]) Tryz.func65 rfl rfl rfl rfl (by simp [Tryz.f65]) fun F hN hP=>?_;unfold QT at h;refine Q4 ?_;refine runQ hN fun K hK=>?_;simp [-Q0,-Q5,-Q1,-Q6,-Q2];repeat refine sdQ ?_
 refine hK _ ?_;clear hK K;refine tn ?_;refine Q9 (st':=⟨[(0,.rptr [.rptr (Mnd.cells true k_.m_),iV k_.category_.n,lI k_.category_.fr,lI k_.category_.to,lI k_.category_.id,.lst true 1 (Ls k_.category_.cs),.lst true 1 (Es Q7 k_.objects_),.lst true 1 (Ls k_.arrows_),.cmap .str (Msi k_.at_)]),(1,iV i_),(2,iV j_),(3,iV f_)],[],0⟩) (Qj []) ?_;refine Q4 ?_;refine QC [] mo (by rw [hN];decide) fun K hK=>?_;simp [-Q0,-Q5,-Q1,-Q6,-Q2];repeat with_reducible refine sdQ ?_
 replace h:=bind_some h;obtain ⟨v1,hv1,h⟩:=h;refine QX (fz:=[]) (w_i_key _ v1 hv1) (.cons (.lits (es:=_) rfl (.cons rfl (.cons (.lits (es:=_) rfl (.cons rfl (.cons .val .nil) (.cons rfl (.cons .val .nil) (.cons rfl (.cons .val .nil) .nil))) rfl) .nil) .nil) rfl) .nil) ?_;simp [-Q0,-Q5,-Q1,-Q6,-Q2,unk,unA,unE,unT,unC,flat];repeat refine sdQ ?_
 refine hK _ ?_;clear hK K;refine tn ?_;refine Q9 (st':=⟨[(8,iV ((Q3L v1 k_.at_).getD 0))],[],0⟩) (Qj []) ?_;refine Qi ?_;have hr:=Option.some.inj h;rw [← hr];refine ⟨_,(.tmp .nil),?_⟩;refine ⟨(.one rfl rfl .nil),[iV ((Q3L v1 k_.at_).getD 0)],[],by simp [Mnd.cells,XAlgebras.cells,UA,U1,IA,I1,LA,L1,BA,B1,EA,E1,E2,eB,eI,eL,Qn _ Q7 _ (fun _=>rfl),Qn _ Qh _ (fun _=>rfl)],by simp,(UpL.refl _)⟩
attribute [local simp] eL eI Qm QI Q1H Qh Cat.cells Mnd.cells XAlgebras.cells
attribute [local simp] Q7 Qh XAlgebra.cells XAlgebras.cells
noncomputable def QR (f_:Int) (g_:Int) (c0_:XAlgebras) (c1_:Cat):Option Int :=
 ass (0≤f_∧f_<(c0_.arrows_.length:Int)) <|
 ass (0≤g_∧g_<(c0_.arrows_.length:Int)) <|
 ass ((0:Int)≤0∧0<((rx c0_.arrows_ f_).length:Int)) <|
 ass ((0:Int)≤1∧1<((rx c0_.arrows_ g_).length:Int)) <|
 ass ((0:Int)≤2∧2<((rx c0_.arrows_ f_).length:Int)) <|
 ass ((0:Int)≤2∧2<((rx c0_.arrows_ g_).length:Int)) <|
 (Qu c1_ (ix (rx c0_.arrows_ f_) 2) (ix (rx c0_.arrows_ g_) 2)).bind fun v7 =>
 (QT c0_ (ix (rx c0_.arrows_ f_) 0) (ix (rx c0_.arrows_ g_) 1) v7).bind fun v8 =>
 some v8
theorem Q2J (f_:Int) (g_:Int) (c0_:XAlgebras) (c1_:Cat) (r:Int) (h:QR f_ g_ c0_ c1_=some r):Contract Tryz.prog 104 [iV f_,iV g_,.rptr [.rptr [.rptr (Mnd.cells true c0_.m_),iV c0_.category_.n,lI c0_.category_.fr,lI c0_.category_.to,lI c0_.category_.id,.lst true 1 (Ls c0_.category_.cs),.lst true 1 (Es Q7 c0_.objects_),.lst true 1 (Ls c0_.arrows_),.cmap .str (Msi c0_.at_)]],.rptr [.rptr (Cat.cells true c1_)]] (iV r):=by
 refine Qd (rvs:=[.tmp 6]) (rs:=[iV r]) Tryz.func104 rfl rfl rfl rfl (by simp [Tryz.f104]) fun F hN hP=>?_;unfold QR at h;refine Q4 ?_;refine runQ hN fun K hK=>?_;simp [-Q0,-Q5,-Q1,-Q6,-Q2];repeat refine sdQ ?_
 refine hK _ ?_;clear hK K;refine tn ?_;refine Q9 (st':=⟨[(0,iV f_),(1,iV g_),(2,.rptr [.rptr [.rptr (Mnd.cells true c0_.m_),iV c0_.category_.n,lI c0_.category_.fr,lI c0_.category_.to,lI c0_.category_.id,.lst true 1 (Ls c0_.category_.cs),.lst true 1 (Es Q7 c0_.objects_),.lst true 1 (Ls c0_.arrows_),.cmap .str (Msi c0_.at_)]]),(3,.rptr [.rptr (Cat.cells true c1_)])],[],0⟩) (Qj []) ?_;refine Q4 ?_;refine runQ hN fun K hK=>?_;replace h:=Q8 h;obtain ⟨a1,h⟩:=h;replace h:=Q8 h;obtain ⟨a2,h⟩:=h;simp [-Q0,-Q5,-Q1,-Q6,-Q2,at_L a1,at_L a2];repeat refine sdQ ?_
 refine hK _ ?_;clear hK K;refine tn ?_;refine Q9 (st':=⟨[(2,.rptr [.rptr [.rptr (Mnd.cells true c0_.m_),iV c0_.category_.n,lI c0_.category_.fr,lI c0_.category_.to,lI c0_.category_.id,.lst true 1 (Ls c0_.category_.cs),.lst true 1 (Es Q7 c0_.objects_),.lst true 1 (Ls c0_.arrows_),.cmap .str (Msi c0_.at_)]]),(3,.rptr [.rptr (Cat.cells true c1_)]),(7,lI (rx c0_.arrows_ f_)),(8,lI (rx c0_.arrows_ g_))],[],0⟩) (Qj []) ?_;refine Q4 ?_;refine runQ hN fun K hK=>?_;replace h:=Q8 h;obtain ⟨a3,h⟩:=h;replace h:=Q8 h;obtain ⟨a4,h⟩:=h;replace h:=Q8 h;obtain ⟨a5,h⟩:=h;replace h:=Q8 h;obtain ⟨a6,h⟩:=h;simp [-Q0,-Q5,-Q1,-Q6,-Q2,(show (Is (rx c0_.arrows_ f_))[0]? = some [iV (ix (rx c0_.arrows_ f_) 0)] from at_I (j:=0) a3),(show (Is (rx c0_.arrows_ g_))[1]? = some [iV (ix (rx c0_.arrows_ g_) 1)] from at_I (j:=1) a4),(show (Is (rx c0_.arrows_ f_))[2]? = some [iV (ix (rx c0_.arrows_ f_) 2)] from at_I (j:=2) a5),(show (Is (rx c0_.arrows_ g_))[2]? = some [iV (ix (rx c0_.arrows_ g_) 2)] from at_I (j:=2) a6)];repeat with_reducible refine sdQ ?_
 replace h:=bind_some h;obtain ⟨v7,hv7,h⟩:=h;refine Q3 (QG _ _ _ v7 hv7) (.cons (.preT (by simp [Cat.cells,Mnd.cells,XAlgebras.cells])) (.cons .val (.cons .val .nil))) ?_;simp [-Q0,-Q5,-Q1,-Q6,-Q2,unk,unA,unE,unT,unC,flat];repeat with_reducible refine sdQ ?_
 replace h:=bind_some h;obtain ⟨v8,hv8,h⟩:=h;refine Q3 (Q2f _ _ _ _ v8 hv8) (.cons (.preT (by simp [Cat.cells,Mnd.cells,XAlgebras.cells])) (.cons .val (.cons .val (.cons .val .nil)))) ?_;simp [-Q0,-Q5,-Q1,-Q6,-Q2,unk,unA,unE,unT,unC,flat];repeat refine sdQ ?_
 refine hK _ ?_;clear hK K;refine tn ?_;refine Q9 (st':=⟨[(6,iV v8)],[],0⟩) (Qj []) ?_;refine Qi ?_;have hr:=Option.some.inj h;rw [← hr];refine ⟨_,(.tmp .nil),?_⟩;refine ⟨(.one rfl rfl .nil),[iV v8],[],by simp [Cat.cells,Mnd.cells,XAlgebras.cells,UA,U1,IA,I1,LA,L1,BA,B1,EA,E1,E2,eB,eI,eL,Qn _ Q7 _ (fun _=>rfl),Qn _ Qh _ (fun _=>rfl)],by simp,(UpL.refl _)⟩
end Go.Vc.T
