/- A part of the proof. -/
import Derived.Test.YtllnbmfplpilcaaR12
set_option maxRecDepth 100000
set_option maxHeartbeats 4000000
set_option linter.unusedSimpArgs false
set_option linter.unusedVariables false
set_option linter.unusedSectionVars false
set_option linter.unnecessarySimpa false

open Option.some renaming inj→zF
open Option renaming bind_some→zG
namespace Go.Vc.T
open Go Go.Vc Go.Proofs
attribute [local simp] unk unA unE unT unC flat eL eI Qw Q1V Qa Qc Cat.cells XQuery.cells XTerm.cells
noncomputable def Q1T (c_:Cat) (q_:XQuery):Option (XQuery × Int) :=
 (Q20 c_ q_).bind fun v1 =>
 if ¬ (v1=true) then
  some ((⟨[],[],[],[]⟩:XQuery),1)
 else
  (Q1s q_.variables_).bind fun v3 =>
  ass (q_.left_.length≤1073741824) <|
  ass (q_.right_.length≤1073741824) <|
  (Q1s q_.output_).bind fun v6 =>
  (QA (σ:=List Int × List XTerm × List XTerm × List Int × Int) (ε:=(List Int × List XTerm × List XTerm × List Int) ⊕ (XQuery × Int)) (fun s16 =>
   if s16.2.2.2.2<(s16.2.1.length:Int) then
    (Q1t (⟨s16.1,s16.2.1,s16.2.2.1,s16.2.2.2.1⟩:XQuery) s16.2.2.2.2).bind fun v18 =>
    ass (0≤s16.2.2.2.2∧s16.2.2.2.2<(s16.2.1.length:Int)) <|
    ass (0≤s16.2.2.2.2∧s16.2.2.2.2<(s16.2.2.1.length:Int)) <|
    (QY c_ v18 (gx s16.2.1 s16.2.2.2.2) (gx s16.2.2.1 s16.2.2.2.2)).bind fun v21 =>
    if ¬ (v21.2=true) then
     some (Ctl.ret (Sum.inr ((⟨[],[],[],[]⟩:XQuery),3)))
    else
     if v21.1=true then
      some (Ctl.next (v18.variables_,v18.left_,v18.right_,v18.output_,s16.2.2.2.2))
     else
      ass (B64 (s16.2.2.2.2+1)) <|
      some (Ctl.next (s16.1,s16.2.1,s16.2.2.1,s16.2.2.2.1,s16.2.2.2.2+1))
   else
    some (Ctl.ret (Sum.inl (s16.1,s16.2.1,s16.2.2.1,s16.2.2.2.1)))) fuel (v3,q_.left_,q_.right_,v6,0)).bind fun e7 =>
  match e7 with
  | .inl b7 =>
   some ((⟨b7.1,b7.2.1,b7.2.2.1,b7.2.2.2⟩:XQuery),0)
  | .inr p7 =>
   some p7
theorem Q88 {F : Fx} {st st' : St} (m : List (Nat × Nat)) (h : (m.map Prod.fst).Nodup ∧ (m.map Prod.snd).Nodup ∧ (∀ id, id < F.pins → look id m = some id) ∧ (∀ p ∈ m, p.2 < st'.n) ∧ (∀ p ∈ st'.h, p.1 < st'.n) ∧ (∀ p ∈ st'.s, p.2 = rl m (st.get p.1) ∨ p.2 = .bot) ∧ ∀ p ∈ st'.h, hhOk m st.h p.1 p.2 := by simp [hP, hhOk, back, idQ, Cat.cells, XQuery.cells, XTerm.cells, UA, U1, IA, I1, LA, L1, BA, B1, EA, E1, E2, eB, eI, eL, Q1 _ Qa _ (fun _=>rfl), Q1 _ Qc _ (fun _=>rfl), Q1 _ (XTerm.cells true) _ (fun _=>rfl)]) : Wk F st st' := Wk.r1 m h
theorem wkI13 {F : Fx} {st st' : St} (m : Nat) (h : ((idQ m).map Prod.fst).Nodup ∧ ((idQ m).map Prod.snd).Nodup ∧ (∀ id, id < F.pins → look id (idQ m) = some id) ∧ (∀ p ∈ (idQ m), p.2 < st'.n) ∧ (∀ p ∈ st'.h, p.1 < st'.n) ∧ (∀ p ∈ st'.s, p.2 = rl (idQ m) (st.get p.1) ∨ p.2 = .bot) ∧ ∀ p ∈ st'.h, hhOk (idQ m) st.h p.1 p.2 := by simp [hP, hhOk, back, idQ, Cat.cells, XQuery.cells, XTerm.cells, UA, U1, IA, I1, LA, L1, BA, B1, EA, E1, E2, eB, eI, eL, Q1 _ Qa _ (fun _=>rfl), Q1 _ Qc _ (fun _=>rfl), Q1 _ (XTerm.cells true) _ (fun _=>rfl)]) : Wk F st st' := Wk.r1 (idQ m) h
@[simp] abbrev Yt (a:List Int × List XTerm × List XTerm × List Int × Int) (b:List (Nat × Ent)):List (Nat × Ent):=(0,.mix 4 [[nS,nS,nS,nS]])::(1,.mix 4 [[.own 2 0 a.1.length,.own 3 0 a.2.1.length,.own 4 0 a.2.2.1.length,.own 5 0 a.2.2.2.1.length]])::(2,rI a.1)::(3,.row 2 (Es (XTerm.cells true) a.2.1))::(4,.row 2 (Es (XTerm.cells true) a.2.2.1))::(5,rI a.2.2.2.1)::b
@[simp] abbrev YF (a:XQuery) (b:List (Nat × Ent)):List (Nat × Ent):=(6,.mix 4 [[.own 7 0 a.variables_.length,.own 8 0 a.left_.length,.own 9 0 a.right_.length,.own 10 0 a.output_.length]])::(7,rI a.variables_)::(8,.row 2 (Es (XTerm.cells true) a.left_))::(9,.row 2 (Es (XTerm.cells true) a.right_))::(10,rI a.output_)::b
@[simp] abbrev YU (a:List Int) (b:XQuery) (c:List Int) (d:List (Nat × Ent)):List (Nat × Ent):=(1,.mix 4 [[.own 2 0 a.length,.own 3 0 b.left_.length,.own 4 0 b.right_.length,.own 5 0 c.length]])::(2,rI a)::(3,.row 2 (Es (XTerm.cells true) b.left_))::(4,.row 2 (Es (XTerm.cells true) b.right_))::(5,rI c)::d
theorem Q61 (c_:Cat) (q_:XQuery) (r:XQuery × Int) (h:Q1T c_ q_=some r):Contract Try.prog 22 (Y0o c_ q_ []) (.tup [.agg (r.1.cells true),iV r.2]):=by
 refine Qe (rvs:=[.cell 4 39,.tmp 5]) (rs:=[.agg (r.1.cells true),iV r.2]) Try.func22 rfl rfl rfl rfl (by simp [Try.f22]) fun F hN hP=>?_;unfold Q1T at h;refine Q2 (Qm [2,3] mo (by rw [hN];decide) fun K hK=>?_);simp;repeat refine sdQ ?_
 refine hK _ ?_;clear hK K;refine tn (Q5 (st':=⟨Yo c_ q_ [],YI [],1⟩) (Q88 [(0,0)]) (Q2 (Q2 (runQ hN fun K hK=>?_))));simp;repeat with_reducible refine sdQ ?_
 replace ⟨v1,hv1,h⟩:=bind_some h;refine Q3 (Q8Y _ _ v1 hv1) (.cons (.aggL (.cons .val (.cons .lst (.cons .lst (.cons .lst (.cons .lst .nil)))))) (.cons (.aggL (.cons .lst (.cons .lst (.cons .lst (.cons .lst .nil))))) .nil)) ?_;simp;repeat refine sdQ ?_
 refine hK _ ?_;clear hK K;refine tn (Q5 (st':=⟨Yo c_ q_ [(14,.val (.bool (!v1)))],YI [],1⟩) (Q88 [(0,0)]) (Q8 rfl (fun g=>?_) fun g=>?_))
 ·have g2:¬ (v1=true):=gQ;clear g;replace h:=if_l g2 h;refine Q2 (runQ hN fun K hK=>?_);simp;repeat refine sdQ ?_
  refine hK _ (tn (Q5 (st':=⟨Y0g [(5,iV 1)],YI [],1⟩) (Q88 [(0,0)]) (Ql (tr ?_))));clear hK K;have hr:=zF h;rw [← hr];refine ⟨_,(.cell Q7d rfl rfl rfl (by simp) (by simp) (.tmp .nil)),?_⟩;refine ⟨(.agg rfl (.one rfl rfl .nil)),[nS,nS,nS,nS,iV 1],[],by simp [Cat.cells,XQuery.cells,XTerm.cells,UA,U1,IA,I1,LA,L1,BA,B1,EA,E1,E2,eB,eI,eL,Q1 _ Qa _ (fun _=>rfl),Q1 _ Qc _ (fun _=>rfl),Q1 _ (XTerm.cells true) _ (fun _=>rfl)],by simp,(.cons .nil (.cons .nil (.cons .nil (.cons .nil (.cons .refl .nil)))))⟩
 have g2:¬ (¬ (v1=true)):=gQ;clear g;replace h:=if_r g2 h;refine Q9 (tn (Q2 (Q8X [] [3] [16,20,24,27] (by simp [St.get,look,Cat.cells,XQuery.cells,XTerm.cells]<;>(repeat' apply And.intro)<;>exact Q7g (by simp [Cat.cells,XQuery.cells,XTerm.cells])) mo (by rw [hN];decide) fun K hK=>?_)));simp;repeat with_reducible refine sdQ ?_
 replace ⟨v3,hv3,h⟩:=bind_some h;refine QH (fz:=[]) (Q3Q _ v3 hv3) (.cons .lst .nil) ?_;replace ⟨a4,h⟩:=Q0 h;try simp only [List.length_append,List.length_cons,List.length_nil] at a4
 replace ⟨a5,h⟩:=Q0 h;try simp only [List.length_append,List.length_cons,List.length_nil] at a5
 simp [↓Q43 (f:=(XTerm.cells true)) (by simp [XTerm.cells,isVal]),↓Q6I (f:=(XTerm.cells true)) (by simp [XTerm.cells,isVal]),↓Q57 (f:=(XTerm.cells true)) (by simp [XTerm.cells,isVal]),↓Q5q (f:=(XTerm.cells true)) (by simp [XTerm.cells,isVal]),a4,a5];repeat with_reducible refine sdQ ?_
 replace ⟨v6,hv6,h⟩:=bind_some h;refine QH (fz:=[]) (Q3Q _ v6 hv6) (.cons .lst .nil) ?_;simp;repeat refine sdQ ?_
 refine hK _ ?_;clear hK K;refine tn (Q5 (st':=⟨Yu c_ [(6,.adr 1 0 0)],YI (YU v3 q_ v6 []),6⟩) (Q88 [(0,0),(7,1),(1,2),(3,3),(5,4),(6,5)]) (Q2 (runQ hN fun K hK=>?_)));simp;repeat refine sdQ ?_
 refine hK _ (tn (Q5 (st':=⟨Yu c_ [(6,.adr 1 0 0),(7,iV 0)],YI (YU v3 q_ v6 []),6⟩) (wkI13 6) (Q2 ?_)));clear hK K;replace ⟨e7,h,h7⟩:=bind_some h;refine Qn (fun b7:List Int × List XTerm × List XTerm × List Int=>⟨Y0g [(6,.adr 1 0 0)],YI (YS b7 []),6⟩) (fun b7=>Sum.inl b7=e7) ?_ ?_
 ·refine Q7 (Qy h (fun s16:List Int × List XTerm × List XTerm × List Int × Int=>⟨Yu c_ [(6,.adr 1 0 0),(7,iV s16.2.2.2.2)],Yt s16 [],6⟩) (wkI13 6) ?_);clear h;intro k16 s16 c16 h hk16;refine Q2 (Q2 (runQ hN fun K hK=>?_));simp;repeat refine sdQ ?_
  refine hK _ ?_;clear hK K;refine tn (Q8 rfl (fun g=>?_) fun g=>?_)
  ·have g17:s16.2.2.2.2<(s16.2.1.length:Int):=gQ;clear g;replace h:=if_l g17 h;refine Q9 (tn (Q7 (Q2 (runQ hN fun K hK=>?_))));simp;(repeat with_reducible refine sdQ ?_);replace ⟨v18,hv18,h⟩:=bind_some h;refine Q3 (Q6d _ _ v18 hv18) (.cons (.aggL (.cons .w (.cons .w (.cons .w (.cons .w .nil))))) (.cons .val .nil)) ?_;simp;(repeat refine sdQ ?_);refine hK _ ?_;clear hK K;refine tn (Q5 (st':=⟨Yu c_ [(6,.adr 1 0 0),(7,iV s16.2.2.2.2),(8,.adr 6 0 0)],Yt s16 (YF v18 []),11⟩) (Q88 [(0,0),(1,1),(2,2),(3,3),(4,4),(5,5),(10,6),(6,7),(7,8),(8,9),(9,10)]) (Q2 (runQ hN fun K hK=>?_)));replace ⟨a19,h⟩:=Q0 h;replace ⟨a20,h⟩:=Q0 h;simp [at_E (c:=(XTerm.cells true)) a19,at_E (c:=(XTerm.cells true)) a20];(repeat with_reducible refine sdQ ?_);replace ⟨v21,hv21,h⟩:=bind_some h;refine Q3 (Q6c _ _ _ _ v21 hv21) (.cons (.aggL (.cons .val (.cons .lst (.cons .lst (.cons .lst (.cons .lst .nil)))))) (.cons (.aggL (.cons .w (.cons .w (.cons .w (.cons .w .nil))))) (.cons (.aggL (.cons .val (.cons .val .nil))) (.cons (.aggL (.cons .val (.cons .val .nil))) .nil)))) ?_;simp [at_E (c:=(XTerm.cells true)) a19,at_E (c:=(XTerm.cells true)) a20];(repeat refine sdQ ?_);refine hK _ ?_;clear hK K;refine tn (Q5 (st':=⟨Yu c_ [(6,.adr 1 0 0),(7,iV s16.2.2.2.2),(8,.adr 6 0 0),(9,.val (.bool v21.1)),(10,.val (.bool v21.2))],Yt s16 (YF v18 []),11⟩) (wkI13 11) (Q2 (Q2 (runQ hN fun K hK=>?_))));simp;repeat refine sdQ ?_
   refine hK _ ?_;clear hK K;refine tn (Q8 rfl (fun g=>?_) fun g=>?_)
   ·have g22:¬ (v21.2=true):=gQ;clear g;replace h:=if_l g22 h;refine Q2 (runQ hN fun K hK=>?_);simp;(repeat refine sdQ ?_);refine hK _ (tn (Q5 (st':=⟨Y0g [(5,iV 3)],YI [],1⟩) (Q88 [(0,0)]) (Ql (tr (br (lr (br (tr ?_))))))));clear hK K;cases h;have q:_=e7:=hk16;have h:=h7;rw [← q] at h;clear q;(try dsimp only at h);have hr:=zF h;rw [← hr];refine ⟨_,(.cell Q7d rfl rfl rfl (by simp) (by simp) (.tmp .nil)),?_⟩;refine ⟨(.agg rfl (.one rfl rfl .nil)),[nS,nS,nS,nS,iV 3],[],by simp [Cat.cells,XQuery.cells,XTerm.cells,UA,U1,IA,I1,LA,L1,BA,B1,EA,E1,E2,eB,eI,eL,Q1 _ Qa _ (fun _=>rfl),Q1 _ Qc _ (fun _=>rfl),Q1 _ (XTerm.cells true) _ (fun _=>rfl)],by simp,(.cons .nil (.cons .nil (.cons .nil (.cons .nil (.cons .refl .nil)))))⟩
   have g22:¬ (¬ (v21.2=true)):=gQ;clear g;replace h:=if_r g22 h;refine Q9 (tn (Q2 (runQ hN fun K hK=>?_)));simp;(repeat refine sdQ ?_);refine hK _ ?_;clear hK K;refine tn (Q8 rfl (fun g=>?_) fun g=>?_)
   ·have g23:v21.1=true:=gQ;clear g;replace h:=if_l g23 h;refine runQ hN fun K hK=>?_;simp;(repeat refine sdQ ?_);refine hK _ (bn ?_);clear hK K;cases h;exact rn (s':=(v18.variables_,v18.left_,v18.right_,v18.output_,s16.2.2.2.2)) hk16 (Q88 [(0,0),(1,1),(7,2),(8,3),(9,4),(10,5)])
   have g23:¬ (v21.1=true):=gQ;clear g;replace h:=if_r g23 h;refine runQ hN fun K hK=>?_;replace ⟨a24,h⟩:=Q0 h;simp [Qo a24];(repeat refine sdQ ?_);refine hK _ (bn ?_);clear hK K;cases h;exact rn (s':=(s16.1,s16.2.1,s16.2.2.1,s16.2.2.2.1,s16.2.2.2.2+1)) hk16 (wkI13 6)
  have g17:¬ (s16.2.2.2.2<(s16.2.1.length:Int)):=gQ;clear g;replace h:=if_r g17 h;refine Qt (tx (lx (bh ?_)));cases h;exact jn (b:=(s16.1,s16.2.1,s16.2.2.1,s16.2.2.2.1)) hk16 (wkI13 6)
 intro b7 hb7;have h:=h7;try rw [← hb7] at h
 clear h7;try dsimp only at h
 refine Q2 (runQ hN fun K hK=>?_);simp;repeat refine sdQ ?_
 refine hK _ (tn (Q5 (st':=⟨Y0g [(5,iV 0)],YT b7 [],5⟩) (Q88 [(0,0),(2,1),(3,2),(4,3),(5,4)]) (Ql ?_)));clear hK K;have hr:=zF h;rw [← hr];refine ⟨_,(.cell Q7d rfl rfl rfl (by simp) (by simp) (.tmp .nil)),?_⟩;refine ⟨(.agg rfl (.one rfl rfl .nil)),[lI b7.1,.lst true 2 (Es (XTerm.cells true) b7.2.1),.lst true 2 (Es (XTerm.cells true) b7.2.2.1),lI b7.2.2.2,iV 0],[1,2,3,4],by simp [Cat.cells,XQuery.cells,XTerm.cells,UA,U1,IA,I1,LA,L1,BA,B1,EA,E1,E2,eB,eI,eL,Q1 _ Qa _ (fun _=>rfl),Q1 _ Qc _ (fun _=>rfl),Q1 _ (XTerm.cells true) _ (fun _=>rfl)],by simp,(UpL.refl _)⟩
section
attribute [local simp] Qd QD Qq QN QB
theorem red_progS (c:Cat) (q:XQuery):Q1T c q=(Q20 c q).bind fun v1=>if ¬ (v1=true) then some ((⟨[],[],[],[]⟩:XQuery),1) else (Q1s q.variables_).bind fun v3=>ass (q.left_.length≤1073741824) <| ass (q.right_.length≤1073741824) <| (Q1s q.output_).bind fun v6 =>
  (QA (bodS c) fuel (v3,q.left_,q.right_,v6,0)).bind fun e7=>match e7 with
  | .inl b7=>some ((⟨b7.1,b7.2.1,b7.2.2.1,b7.2.2.2⟩:XQuery),0)
  | .inr p7=>some p7:=rfl
theorem red_progI (c:Cat) (q:XQuery):Q1S c q=(Q1r c [q]).bind fun v1=>if ¬ (v1=true) then some ((⟨[],[],[],[]⟩:XQuery),1) else (Q16 q).bind fun v3 =>
  (QA (bodI c) fuel (v3.variables_,v3.left_,v3.right_,v3.output_,0)).bind fun e7=>match e7 with
  | .inl b7=>some ((⟨b7.1,b7.2.1,b7.2.2.1,b7.2.2.2⟩:XQuery),0)
  | .inr p7=>some p7:=rfl
theorem Q6Z (c:Cat) (q:XQuery):∃ r,Q1T c q=some r∧Q1S c q=some r∧(r.1.ok∧r.1.size≤10000):=by
 rw [red_progS,red_progI];have z1:(⟨[],[],[],[]⟩:XQuery).ok∧(⟨[],[],[],[]⟩:XQuery).size≤10000:=by simp [XQuery.ok,XQuery.size]
 have e1:(c.Is∧∀ i:Nat,i < [q].length→QIs c (gx [q] i))↔(c.Is∧QIs c q):=by
  refine and_congr_right fun _=>⟨fun h=>h 0 (by simp),fun h i hi=>?_⟩;have:i=0:=by simpa using hi
  subst this;exact h
 rw [e_IsQuery,e_areQ c [q] (by simp)];simp only [e1,zG]
 by_cases h:c.Is∧QIs c q
 case neg=>exact ⟨_,by rw [QF h,if_pos (by simp)],by rw [QF h,if_pos (by simp)],z1⟩
 obtain ⟨hc,hq⟩:=h;rw [Q1u ⟨hc,hq⟩,if_neg (by simp),if_neg (by simp)];have hv:=hq.v.len;have ho:=hq.nout;have nl:=hq.nl;have lr:=hq.lr;unfold Q1s;rw [Q4 (by omega)];simp only [zG];rw [Q4 (by omega),Q4 (by omega),Q4 (by omega),e_copyQ nl (by omega) hv ho];simp only [zG];have h0:InvQ c (q.variables_,q.left_,q.right_,q.output_,0):=⟨hq,by simp,by simp⟩;have hcg:QA (bodS c) fuel (q.variables_,q.left_,q.right_,q.output_,0)=QA (bodI c) fuel (q.variables_,q.left_,q.right_,q.output_,0):=by
  refine Q7H (InvQ c) (fun s hs=>?_) _ _ h0;obtain ⟨b1,b2⟩:=bod_eq hc hs;refine ⟨b1,fun s' hs'=>?_⟩;rcases b2 with ⟨s2,g1,g2,_⟩|g1|⟨_,g1⟩
  ·rw [g1] at hs';cases hs';exact g2
  ·rw [g1] at hs';cases hs'
  rw [g1] at hs';cases hs'
 rw [← hcg];refine Q1p (Q:=fun o:Option (XQuery × Int)=>∃ r,o=some r∧o=some r∧(r.1.ok∧r.1.size≤10000)) q.left_.length (fun k s=>InvQ c s∧(s.2.1.length:Int) - s.2.2.2.2=(q.left_.length:Int) - k)
  (fun e:(List Int × List XTerm × List XTerm × List Int) ⊕ (XQuery × Int)=>e = .inr (⟨[],[],[],[]⟩,3)∨∃ s:StQ,InvQ c s∧e = .inl (s.1,s.2.1,s.2.2.1,s.2.2.2.1)) (by omega) ⟨h0,by simp⟩ (fun k s hk hI=>?_) (fun s hI=>?_) fun e he=>?_
 ·obtain ⟨b1,b2⟩:=bod_eq hc hI.1;rcases b2 with ⟨s2,g1,g2,g3,_⟩|g1|⟨_,g1⟩
  ·exact .inl ⟨s2,g1,g2,by have:=hI.2;push_cast;omega⟩
  ·exact .inr ⟨_,g1,.inl rfl⟩
  exact .inr ⟨_,g1,.inr ⟨s,hI.1,rfl⟩⟩
 ·obtain ⟨b1,b2⟩:=bod_eq hc hI.1;rcases b2 with ⟨s2,g1,g2,g3,g4⟩|g1|⟨_,g1⟩
  ·have:=hI.2;omega
  ·exact ⟨_,g1,.inl rfl⟩
  exact ⟨_,g1,.inr ⟨s,hI.1,rfl⟩⟩
 rcases he with rfl|⟨s,hs,rfl⟩
 ·exact ⟨_,rfl,rfl,z1⟩
 have k1:=hs.1.v.len;have k2:=hs.1.nl;have k3:=hs.1.lr;have k4:=hs.1.nout;simp only [qSt] at k1 k2 k3 k4;refine ⟨_,rfl,rfl,?_⟩;simp only [XQuery.ok,XQuery.size];omega
end
end Go.Vc.T
