/- A part of the proof. -/
import Derived.Test.YtllnbmfplpilcaaR10
set_option maxRecDepth 100000
set_option maxHeartbeats 4000000
set_option linter.unusedSimpArgs false
set_option linter.unusedVariables false
set_option linter.unusedSectionVars false
set_option linter.unnecessarySimpa false

open Option renaming bind_some→zG
open List renaming length_append→qD
open List renaming length_cons→qG
open List renaming length_nil→zB
namespace Go.Vc.T
open Go Go.Vc Go.Proofs
attribute [local simp] unk unA unE unT unC flat eL eI Qw Qa Qc XQuery.cells XTerm.cells
noncomputable def Q1t (q_:XQuery) (i_:Int):Option XQuery :=
 ass ((0:Int)≤0∧0≤i_∧i_≤(q_.left_.length:Int)) <|
 ass (((q_.left_.drop 0).take ((i_ - 0).toNat)).length≤1073741824) <|
 ass (B64 (i_+1)) <|
 ass ((0:Int)≤i_+1∧i_+1≤(q_.left_.length:Int)∧(q_.left_.length:Int)≤(q_.left_.length:Int)) <|
 ass ((((q_.left_.drop 0).take ((i_ - 0).toNat))++((q_.left_.drop ((i_+1).toNat)).take (((q_.left_.length:Int) - (i_+1)).toNat))).length≤1073741824) <|
 ass ((0:Int)≤0∧0≤i_∧i_≤(q_.right_.length:Int)) <|
 ass (((q_.right_.drop 0).take ((i_ - 0).toNat)).length≤1073741824) <|
 ass (B64 (i_+1)) <|
 ass ((0:Int)≤i_+1∧i_+1≤(q_.right_.length:Int)∧(q_.right_.length:Int)≤(q_.right_.length:Int)) <|
 ass ((((q_.right_.drop 0).take ((i_ - 0).toNat))++((q_.right_.drop ((i_+1).toNat)).take (((q_.right_.length:Int) - (i_+1)).toNat))).length≤1073741824) <|
 (Q1s q_.variables_).bind fun v11 =>
 (Q1s q_.output_).bind fun v12 =>
 some (⟨v11,((q_.left_.drop 0).take ((i_ - 0).toNat))++((q_.left_.drop ((i_+1).toNat)).take (((q_.left_.length:Int) - (i_+1)).toNat)),((q_.right_.drop 0).take ((i_ - 0).toNat))++((q_.right_.drop ((i_+1).toNat)).take (((q_.right_.length:Int) - (i_+1)).toNat)),v12⟩:XQuery)
@[simp] abbrev YI (a:List (Nat × Ent)):List (Nat × Ent):=(0,.mix 4 [[nS,nS,nS,nS]])::a
@[simp] abbrev YY (a:XQuery) (b:Int) (c:List (Nat × AV)):List (Nat × AV):=(2,.rptr (XQuery.cells true a))::(4,.adr 0 0 0)::(5,.own 1 0 ((((a.left_.drop 0).take ((b - 0).toNat))++((a.left_.drop ((b+1).toNat)).take (((a.left_.length:Int) - (b+1)).toNat))).length))::c
@[simp] abbrev Y07 (a:XQuery) (b:Int) (c:List (Nat × Ent)):List (Nat × Ent):=(1,.row 2 (Es (XTerm.cells true) (((a.left_.drop 0).take ((b - 0).toNat))++((a.left_.drop ((b+1).toNat)).take (((a.left_.length:Int) - (b+1)).toNat)))))::c
theorem Q6d (q_:XQuery) (i_:Int) (r:XQuery) (h:Q1t q_ i_=some r):Contract Try.prog 45 [.agg (q_.cells true),iV i_] (.agg (r.cells true)):=by
 refine Qe (rvs:=[.cell 4 39]) (rs:=[.agg (r.cells true)]) Try.func45 rfl rfl rfl rfl (by simp [Try.f45]) fun F hN hP=>?_;unfold Q1t at h;refine Q2 (Qm [2] mo (by rw [hN];decide) fun K hK=>?_);simp;repeat refine sdQ ?_
 refine hK _ ?_;clear hK K;refine tn (Q5 (st':=⟨(1,iV i_)::(2,.rptr (XQuery.cells true q_))::Y0g [],YI [],1⟩) (Wk.r1 [(0,0)] (by simp [hP,hhOk,back,XQuery.cells,XTerm.cells,UA,U1,IA,I1,LA,L1,BA,B1,EA,E1,E2,eB,eI,eL,Q1 _ Qa _ (fun _=>rfl),Q1 _ Qc _ (fun _=>rfl),Q1 _ (XTerm.cells true) _ (fun _=>rfl)])) (Q2 (Q8X [] [2] [8,9,13,14] (by simp [St.get,look,XQuery.cells,XTerm.cells]<;>(repeat' apply And.intro)<;>exact Q7g (by simp [XQuery.cells,XTerm.cells])) mo (by rw [hN];decide) fun K hK=>?_)));replace ⟨a1,h⟩:=Q0 h;replace ⟨a2,h⟩:=Q0 h;try simp only [qD,qG,zB,List.length_take,List.length_drop] at a2
 replace ⟨a3,h⟩:=Q0 h;replace ⟨a4,h⟩:=Q0 h;replace ⟨a5,h⟩:=Q0 h;try simp only [qD,qG,zB,List.length_take,List.length_drop] at a5
 simp [↓Q43 (f:=(XTerm.cells true)) (by simp [XTerm.cells,isVal]),↓Q6I (f:=(XTerm.cells true)) (by simp [XTerm.cells,isVal]),↓Q57 (f:=(XTerm.cells true)) (by simp [XTerm.cells,isVal]),↓Q5q (f:=(XTerm.cells true)) (by simp [XTerm.cells,isVal]),a2,Qo a3,a5];repeat refine sdQ ?_
 refine hK _ ?_;clear hK K;refine tn (Q5 (st':=⟨(1,iV i_)::YY q_ i_ [],YI (Y07 q_ i_ []),2⟩) (Wk.r1 [(0,0),(3,1)] (by simp [hP,hhOk,back,XQuery.cells,XTerm.cells,UA,U1,IA,I1,LA,L1,BA,B1,EA,E1,E2,eB,eI,eL,Q1 _ Qa _ (fun _=>rfl),Q1 _ Qc _ (fun _=>rfl),Q1 _ (XTerm.cells true) _ (fun _=>rfl)])) (Q2 (Q8X [] [2] [20,21,25,26] (by simp [St.get,look,XQuery.cells,XTerm.cells]<;>(repeat' apply And.intro)<;>exact Q7g (by simp [XQuery.cells,XTerm.cells])) mo (by rw [hN];decide) fun K hK=>?_)));replace ⟨a6,h⟩:=Q0 h;replace ⟨a7,h⟩:=Q0 h;try simp only [qD,qG,zB,List.length_take,List.length_drop] at a7
 replace ⟨a8,h⟩:=Q0 h;replace ⟨a9,h⟩:=Q0 h;replace ⟨a10,h⟩:=Q0 h;try simp only [qD,qG,zB,List.length_take,List.length_drop] at a10
 simp [↓Q43 (f:=(XTerm.cells true)) (by simp [XTerm.cells,isVal]),↓Q6I (f:=(XTerm.cells true)) (by simp [XTerm.cells,isVal]),↓Q57 (f:=(XTerm.cells true)) (by simp [XTerm.cells,isVal]),↓Q5q (f:=(XTerm.cells true)) (by simp [XTerm.cells,isVal]),a7,Qo a8,a10];repeat refine sdQ ?_
 refine hK _ ?_;clear hK K;refine tn (Q5 (st':=⟨YY q_ i_ [(6,.own 2 0 ((((q_.right_.drop 0).take ((i_ - 0).toNat))++((q_.right_.drop ((i_+1).toNat)).take (((q_.right_.length:Int) - (i_+1)).toNat))).length))],YI (Y07 q_ i_ [(2,.row 2 (Es (XTerm.cells true) (((q_.right_.drop 0).take ((i_ - 0).toNat))++((q_.right_.drop ((i_+1).toNat)).take (((q_.right_.length:Int) - (i_+1)).toNat)))))]),3⟩) (Wk.r1 [(0,0),(1,1),(4,2)] (by simp [hP,hhOk,back,XQuery.cells,XTerm.cells,UA,U1,IA,I1,LA,L1,BA,B1,EA,E1,E2,eB,eI,eL,Q1 _ Qa _ (fun _=>rfl),Q1 _ Qc _ (fun _=>rfl),Q1 _ (XTerm.cells true) _ (fun _=>rfl)])) (Q2 (runQ hN fun K hK=>?_)));simp;repeat with_reducible refine sdQ ?_
 replace ⟨v11,hv11,h⟩:=bind_some h;refine Q3 (Q3Q _ v11 hv11) (.cons .lst .nil) ?_;simp;repeat with_reducible refine sdQ ?_
 replace ⟨v12,hv12,h⟩:=bind_some h;refine Q3 (Q3Q _ v12 hv12) (.cons .lst .nil) ?_;simp;repeat refine sdQ ?_
 refine hK _ (tn (Q5 (st':=⟨Y0g [],[(0,.mix 4 [[.own 1 0 v11.length,.own 2 0 ((((q_.left_.drop 0).take ((i_ - 0).toNat))++((q_.left_.drop ((i_+1).toNat)).take (((q_.left_.length:Int) - (i_+1)).toNat))).length),.own 3 0 ((((q_.right_.drop 0).take ((i_ - 0).toNat))++((q_.right_.drop ((i_+1).toNat)).take (((q_.right_.length:Int) - (i_+1)).toNat))).length),.own 4 0 v12.length]]),(1,rI v11),(2,.row 2 (Es (XTerm.cells true) (((q_.left_.drop 0).take ((i_ - 0).toNat))++((q_.left_.drop ((i_+1).toNat)).take (((q_.left_.length:Int) - (i_+1)).toNat))))),(3,.row 2 (Es (XTerm.cells true) (((q_.right_.drop 0).take ((i_ - 0).toNat))++((q_.right_.drop ((i_+1).toNat)).take (((q_.right_.length:Int) - (i_+1)).toNat))))),(4,rI v12)],5⟩) (Wk.r1 [(0,0),(3,1),(1,2),(2,3),(4,4)] (by simp [hP,hhOk,back,XQuery.cells,XTerm.cells,UA,U1,IA,I1,LA,L1,BA,B1,EA,E1,E2,eB,eI,eL,Q1 _ Qa _ (fun _=>rfl),Q1 _ Qc _ (fun _=>rfl),Q1 _ (XTerm.cells true) _ (fun _=>rfl)])) (Ql ?_)));clear hK K;have hr:=Option.some.inj h;rw [← hr];refine ⟨_,(.cell Q7d rfl rfl rfl (by simp) (by simp) .nil),?_⟩;refine ⟨(.agg rfl .nil),[lI v11,.lst true 2 (Es (XTerm.cells true) (((q_.left_.drop 0).take ((i_ - 0).toNat))++((q_.left_.drop ((i_+1).toNat)).take (((q_.left_.length:Int) - (i_+1)).toNat)))),.lst true 2 (Es (XTerm.cells true) (((q_.right_.drop 0).take ((i_ - 0).toNat))++((q_.right_.drop ((i_+1).toNat)).take (((q_.right_.length:Int) - (i_+1)).toNat)))),lI v12],[1,2,3,4],by simp [XQuery.cells,XTerm.cells,UA,U1,IA,I1,LA,L1,BA,B1,EA,E1,E2,eB,eI,eL,Q1 _ Qa _ (fun _=>rfl),Q1 _ Qc _ (fun _=>rfl),Q1 _ (XTerm.cells true) _ (fun _=>rfl)],by simp,(UpL.refl _)⟩
section
attribute [local simp] Qd QD Qq QN QB
theorem e_implied {c:Cat} {q:XQuery} (hc:c.Is) (hq:QIs c q) {l r:XTerm} (hl:TmQ c q.variables_ l) (hr:TmQ c q.variables_ r):∃ R,GI c q R∧(∀ a,a<c.fr.length→Clo c q R a) ∧
  (Q2K c q R→QY c q l r=some (cl c q R (tP l) == cl c q R (tP r),true))∧(¬ Q2K c q R→QY c q l r=some (false,false)):=by
 obtain ⟨R,hR,hk,es⟩:=e_canonS hc hq;refine ⟨R,hR,hk,fun hf=>?_,fun hf=>?_⟩
 ·have hf':mad (quoZ (clsF c q R) (clsF c q R).length)=0:=hf;obtain ⟨l1,l2,l3,l4⟩:=hl.e;obtain ⟨r1,r2,r3,r4⟩:=hr.e;have al:(quoF (QU c q.variables_) (clsF c q R)).ac.length=c.fr.length:=by simp [quoF,QU]
  have gl:(genQ c q R).length=q.variables_.length:=by simp [genQ]
  obtain ⟨a1,a2⟩:=quo_val hc hq hR hk l3 l4 hl.f;obtain ⟨b1,b2⟩:=quo_val hc hq hR hk r3 r4 hr.f;unfold QY;rw [es,hf',l1,l2,r1,r2];simp only [zG];rw [if_neg (by simp),Q4 (by omega),Q4 (by omega),Q4 a1,Q4 (by omega),Q4 (by omega),Q4 b1,a2,b2]
 have hf':¬ mad (quoZ (clsF c q R) (clsF c q R).length)=0:=hf;unfold QY;rw [es];simp [hf']
def woL {α:Type} (xs:List α) (i:Nat):List α:=xs.take i++xs.drop (i+1)
def woQ (q:XQuery) (i:Nat):XQuery:=⟨q.variables_,woL q.left_ i,woL q.right_ i,q.output_⟩
theorem Q4Q {α:Type} {xs:List α} {i:Nat} (h:i<xs.length):(woL xs i).length=xs.length - 1:=by simp [woL];omega
theorem woL_gx {α:Type} [Inhabited α] {xs:List α} {i j:Nat} (h:i<xs.length) (hj:j<xs.length - 1):gx (woL xs i) j=gx xs ((if j<i then j else j+1:Nat):Int):=by
 simp only [gx,woL,Int.toNat_natCast];rw [List.getD_eq_getElem?_getD,List.getD_eq_getElem?_getD]
 congr 1
 split
 ·rw [List.getElem?_append_left (by simp;omega),List.getElem?_take,if_pos (by assumption)]
 rw [List.getElem?_append_right (by simp;omega),List.getElem?_drop]
 congr 1
 simp;omega
theorem woQ_is {c:Cat} {q:XQuery} (hq:QIs c q) {i:Nat} (hi:i<q.left_.length):QIs c (woQ q i):=by
 have lr:=hq.lr;have nl:=hq.nl;have l1:=Q4Q hi;have l2:=Q4Q (xs:=q.right_) (i:=i) (by omega);have hcon:∀ j:Nat,j<(woQ q i).left_.length→Q9Z c q.variables_ (gx (woQ q i).left_ j) (gx (woQ q i).right_ j):=by
  intro j hj;have hj':j<q.left_.length - 1:=by simpa [woQ,l1] using hj
  simp only [woQ];rw [woL_gx hi hj',woL_gx (xs:=q.right_) (by omega) (by omega)];refine hq.cond ?_;split<;>omega
 exact ⟨hq.v,by simp only [woQ];omega,by simp only [woQ];omega,fun j hj=>(hcon j hj).1,fun j hj=>(hcon j hj).2.1,fun j hj=>(hcon j hj).2.2,hq.nout,hq.out⟩
theorem Q9X {α:Type} {xs:List α} {i:Nat} (h:i<xs.length):((xs.drop 0).take (((i:Int) - 0).toNat))++((xs.drop (((i:Int)+1).toNat)).take (((xs.length:Int) - ((i:Int)+1)).toNat))=woL xs i:=by
 have e1:((i:Int) - 0).toNat=i:=by omega
 have e2:((i:Int)+1).toNat=i+1:=by omega
 have e3:((xs.length:Int) - ((i:Int)+1)).toNat=xs.length - (i+1):=by omega
 rw [e1,e2,e3,List.drop_zero];unfold woL
 congr 1
 rw [List.take_of_length_le (by simp)]
theorem e_without {q:XQuery} {i:Nat} (hi:i<q.left_.length) (hl:q.left_.length≤6) (hr:q.right_.length=q.left_.length) (hv:q.variables_.length≤4) (ho:q.output_.length≤4):Q1t q i=some (woQ q i):=by
 unfold Q1t Q1s;have p1:=Q9X hi;have p2:=Q9X (xs:=q.right_) (i:=i) (by omega);have q1:=Q4Q hi;have q2:=Q4Q (xs:=q.right_) (i:=i) (by omega);rw [p1,p2];rw [Q4 (by omega),Q4 (by simp;omega),Q4 (by unfold B64;omega),Q4 (by omega),Q4 (by omega),Q4 (by omega),Q4 (by simp;omega),Q4 (by unfold B64;omega),Q4 (by omega),Q4 (by omega),Q4 (by omega),Q4 (by omega)];rfl
theorem e_copyQ {q:XQuery} (hl:q.left_.length≤6) (hr:q.right_.length≤6) (hv:q.variables_.length≤4) (ho:q.output_.length≤4):Q16 q=some q:=by
 unfold Q16 Q3E Qf;rw [Q4 (by omega),Q4 (by omega),Q4 (by omega),Q4 (by omega)];rfl
theorem e_delT {xs:List XTerm} {i:Nat} (h:i<xs.length):Q6 xs i ((i:Int)+1)=some (woL xs i):=by
 unfold Q6;rw [Q4 (by omega)];have e2:((i:Int)+1).toNat=i+1:=by omega
 rw [Int.toNat_natCast,e2];rfl
theorem Q7H {σ ε:Type} {b1 b2:σ→Option (Ctl σ ε)} (I:σ→Prop) (h:∀ s,I s→b1 s=b2 s∧∀ s',b1 s=some (.next s')→I s'):∀ n s,I s→QA b1 n s=QA b2 n s:=by
 intro n
 induction n with
 | zero=>intro s _;rfl
 | succ n ih =>
  intro s hs;obtain ⟨h1,h2⟩:=h s hs;simp only [QA,← h1];cases hb:b1 s with
  | none=>rfl
  | some x =>
   cases x with
   | next s'=>exact ih s' (h2 s' hb)
   | ret e=>rfl
abbrev StQ:=List Int × List XTerm × List XTerm × List Int × Int
def qSt (s:StQ):XQuery:=⟨s.1,s.2.1,s.2.2.1,s.2.2.2.1⟩
noncomputable def bodI (c:Cat) (s:StQ):Option (Ctl StQ ((List Int × List XTerm × List XTerm × List Int) ⊕ (XQuery × Int))) :=
 if s.2.2.2.2<(s.2.1.length:Int) then
  (Q16 (qSt s)).bind fun v18 =>
  ass (B64 (s.2.2.2.2+1)) <|
  (Q6 v18.left_ s.2.2.2.2 (s.2.2.2.2+1)).bind fun v20 =>
  ass (B64 (s.2.2.2.2+1)) <|
  (Q6 v18.right_ s.2.2.2.2 (s.2.2.2.2+1)).bind fun v22 =>
  (QG c (⟨v18.variables_,v20,v22,v18.output_⟩:XQuery)).bind fun v23 =>
  match v23 with
  | .inl v23 =>
   some (Ctl.ret (Sum.inr ((⟨[],[],[],[]⟩:XQuery),3)))
  | .inr v23 =>
   ass (0≤s.2.2.2.2∧s.2.2.2.2<(s.2.1.length:Int)) <|
   (QI (⟨(⟨v18.variables_,v20,v22,v18.output_⟩:XQuery),(⟨(⟨v23.1,v23.2.1,v23.2.2.1,v23.2.2.2.1,v23.2.2.2.2.1⟩:Cat),v23.2.2.2.2.2.1,v23.2.2.2.2.2.2.1⟩:SF),v23.2.2.2.2.2.2.2⟩:XCanonical) (gx s.2.1 s.2.2.2.2)).bind fun v25 =>
   ass (0≤s.2.2.2.2∧s.2.2.2.2<(s.2.2.1.length:Int)) <|
   (QI (⟨(⟨v18.variables_,v20,v22,v18.output_⟩:XQuery),(⟨(⟨v23.1,v23.2.1,v23.2.2.1,v23.2.2.2.1,v23.2.2.2.2.1⟩:Cat),v23.2.2.2.2.2.1,v23.2.2.2.2.2.2.1⟩:SF),v23.2.2.2.2.2.2.2⟩:XCanonical) (gx s.2.2.1 s.2.2.2.2)).bind fun v27 =>
   if v25=v27 then
    some (Ctl.next (v18.variables_,v20,v22,v18.output_,s.2.2.2.2))
   else
    ass (B64 (s.2.2.2.2+1)) <|
    some (Ctl.next (s.1,s.2.1,s.2.2.1,s.2.2.2.1,s.2.2.2.2+1))
 else
  some (Ctl.ret (Sum.inl (s.1,s.2.1,s.2.2.1,s.2.2.2.1)))
noncomputable def bodS (c:Cat) (s:StQ):Option (Ctl StQ ((List Int × List XTerm × List XTerm × List Int) ⊕ (XQuery × Int))) :=
 if s.2.2.2.2<(s.2.1.length:Int) then
  (Q1t (qSt s) s.2.2.2.2).bind fun v18 =>
  ass (0≤s.2.2.2.2∧s.2.2.2.2<(s.2.1.length:Int)) <|
  ass (0≤s.2.2.2.2∧s.2.2.2.2<(s.2.2.1.length:Int)) <|
  (QY c v18 (gx s.2.1 s.2.2.2.2) (gx s.2.2.1 s.2.2.2.2)).bind fun v21 =>
  if ¬ (v21.2=true) then
   some (Ctl.ret (Sum.inr ((⟨[],[],[],[]⟩:XQuery),3)))
  else
   if v21.1=true then
    some (Ctl.next (v18.variables_,v18.left_,v18.right_,v18.output_,s.2.2.2.2))
   else
    ass (B64 (s.2.2.2.2+1)) <|
    some (Ctl.next (s.1,s.2.1,s.2.2.1,s.2.2.2.1,s.2.2.2.2+1))
 else
  some (Ctl.ret (Sum.inl (s.1,s.2.1,s.2.2.1,s.2.2.2.1)))
def InvQ (c:Cat) (s:StQ):Prop:=QIs c (qSt s)∧0≤s.2.2.2.2∧s.2.2.2.2≤(s.2.1.length:Int)
theorem bod_eq {c:Cat} (hc:c.Is) {s:StQ} (h:InvQ c s):bodS c s=bodI c s∧((∃ s',bodS c s=some (.next s')∧InvQ c s'∧(s'.2.1.length:Int) - s'.2.2.2.2=(s.2.1.length:Int) - s.2.2.2.2 - 1∧s.2.2.2.2<(s.2.1.length:Int))∨bodS c s=some (.ret (.inr (⟨[],[],[],[]⟩,3)))∨(¬ s.2.2.2.2<(s.2.1.length:Int)∧bodS c s=some (.ret (.inl (s.1,s.2.1,s.2.2.1,s.2.2.2.1))))):=by
 obtain ⟨V,L,Rr,O,i⟩:=s;obtain ⟨hq,h1,h2⟩:=h;simp only [qSt] at hq h1 h2;obtain ⟨i,rfl⟩:∃ k:Nat,i=k:=⟨i.toNat,by omega⟩;have nl:=hq.nl;have lr:=hq.lr;have hv:=hq.v.len;have ho:=hq.nout;simp only at nl lr hv ho;unfold bodS bodI;simp only [qSt]
 by_cases hi:(i:Int)<(L.length:Int)
 case neg =>
  rw [if_neg hi,if_neg hi];exact ⟨rfl,.inr (.inr ⟨hi,rfl⟩)⟩
 have hi':i<L.length:=by omega
 rw [if_pos hi,if_pos hi];rw [e_without (q:=⟨V,L,Rr,O⟩) (by simpa using hi') (by simpa using nl) (by simpa using lr) (by simpa using hv) (by simpa using ho),e_copyQ (q:=⟨V,L,Rr,O⟩) (by simpa using nl) (by simp only;omega) (by simpa using hv) (by simpa using ho)];have hB:B64 ((i:Int)+1):=by unfold B64;omega
 have hL:0≤(i:Int)∧(i:Int)<(L.length:Int):=by omega
 have hRr:0≤(i:Int)∧(i:Int)<(Rr.length:Int):=by omega
 simp only [zG,Q4 hB,Q4 hL,Q4 hRr];rw [e_delT hi'];simp only [zG];rw [e_delT (by omega)];simp only [zG];have hw:=woQ_is hq (i:=i) (by simpa using hi');have hco:=hq.cond (i:=i) (by simpa using hi');simp only at hco;have ew:(⟨V,woL L i,woL Rr i,O⟩:XQuery)=woQ ⟨V,L,Rr,O⟩ i:=rfl;rw [ew];obtain ⟨R,hR,hk,f1,f2⟩:=e_implied hc hw (l:=gx L i) (r:=gx Rr i) hco.1 hco.2.1;have hcI:=e_canonI hc hw hR hk;have nx:InvQ c (V,woL L i,woL Rr i,O,(i:Int)):=by
  refine ⟨hw,by simp only;omega,?_⟩;simp only;rw [Q4Q hi'];omega
 by_cases hf:Q2K c (woQ ⟨V,L,Rr,O⟩ i) R
 ·obtain ⟨m,hm,em⟩:=hcI.1 hf;rw [f1 hf,em];simp only [zG,not_true_eq_false,if_false];unfold QI;simp only [zG];have mem:∀ {t:XTerm},TmQ c V t→tP t∈Al c (woQ ⟨V,L,Rr,O⟩ i):=fun ht=>by
   obtain ⟨_,_,t3,t4⟩:=ht.e;exact mem_Al.2 ⟨t3,t4,ht.f⟩
  have ev:∀ {t:XTerm},TmQ c V t→(QP (⟨t.variable_,t.arrow_⟩:XPairint64) m).getD 0=cl c (woQ ⟨V,L,Rr,O⟩ i) R (tP t):=fun {t} ht=>by
   obtain ⟨t1,t2,_,_⟩:=ht.e;have:=hm _ (mem ht);rw [t1,t2,show (⟨((tP t).1:Int),((tP t).2:Int)⟩:XPairint64)=pX (tP t) from rfl,this,Option.getD_some]
  rw [ev hco.1,ev hco.2.1]
  by_cases z:cl c (woQ ⟨V,L,Rr,O⟩ i) R (tP (gx L i))=cl c (woQ ⟨V,L,Rr,O⟩ i) R (tP (gx Rr i))
  ·rw [z];simp only [BEq.rfl,if_true];refine ⟨rfl,.inl ⟨_,rfl,nx,?_,hi⟩⟩;simp only [woQ];rw [Q4Q hi'];omega
  have zb:(cl c (woQ ⟨V,L,Rr,O⟩ i) R (tP (gx L i)) == cl c (woQ ⟨V,L,Rr,O⟩ i) R (tP (gx Rr i)))=false:=by simpa using z
  rw [zb,if_neg z];simp only [Bool.false_eq_true,if_false];refine ⟨trivial,.inl ⟨_,rfl,⟨hq,by simp only;omega,by simp only;omega⟩,?_,hi⟩⟩;simp only;omega
 rw [f2 hf,hcI.2 hf];simp only [zG,Bool.false_eq_true,not_false_eq_true,if_true];exact ⟨trivial,.inr (.inl trivial)⟩
end
end Go.Vc.T
