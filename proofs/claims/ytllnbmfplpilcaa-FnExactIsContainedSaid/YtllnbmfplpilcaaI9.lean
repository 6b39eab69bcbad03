/- A part of the proof. -/
import Derived.Test.YtllnbmfplpilcaaI8
set_option maxRecDepth 100000
set_option maxHeartbeats 4000000
set_option linter.unusedSimpArgs false
set_option linter.unusedVariables false
set_option linter.unusedSectionVars false
set_option linter.unnecessarySimpa false

open Option.some renaming inj→zC
open Option renaming bind_some→zF
open List renaming length_append→qE
open List renaming length_cons→qG
open List renaming length_nil→zB
open List renaming filter_append→zM
open List renaming range_succ→zK
namespace Go.Vc.T
open Go Go.Vc Go.Proofs
attribute [local simp] unk unA unE unT unC flat eL eI Qf Q28 QZ Q6 Qe Cat.cells SF.cells XQuery.cells XTerm.cells
noncomputable def Q1y (c_:Cat) (q_:XQuery):Option (SF × List Int × Bool) :=
 (Q2P c_ q_.variables_).bind fun v1 =>
 (QA (σ:=List (List Int) × Int) (ε:=List (List Int)) (fun s32 =>
  if s32.2<c_.n then
   (QA (σ:=List (List Int) × Int) (ε:=List (List Int)) (fun s46 =>
    if s46.2<(q_.left_.length:Int) then
     (
      ass (0≤s46.2∧s46.2<(q_.left_.length:Int)) <|
      ass (0≤(gx q_.left_ s46.2).arrow_∧(gx q_.left_ s46.2).arrow_<(c_.to.length:Int)) <|
      if (ix c_.to ((gx q_.left_ s46.2).arrow_))=s32.2 then
       ass (0≤s46.2∧s46.2<(q_.left_.length:Int)) <|
       (Q1G c_ q_ (gx q_.left_ s46.2)).bind fun v53 =>
       ass (0≤s46.2∧s46.2<(q_.right_.length:Int)) <|
       (Q1G c_ q_ (gx q_.right_ s46.2)).bind fun v55 =>
       ass ((s46.1++[[v53,v55]]).length≤1073741824) <|
       some (s46.1++[[v53,v55]])
      else
       some s46.1:Option (List (List Int))).bind fun b48 =>
     ass (B64 (s46.2+1)) <|
     some (Ctl.next (b48,s46.2+1))
    else
     some (Ctl.ret s46.1)) fuel ([],0)).bind fun b34 =>
   ass (0≤s32.2∧s32.2<(v1.sz.length:Int)) <|
   (Q2e (ix v1.sz s32.2) b34).bind fun v59 =>
   ass ((s32.1++[v59]).length≤1073741824) <|
   ass (B64 (s32.2+1)) <|
   some (Ctl.next (s32.1++[v59],s32.2+1))
  else
   some (Ctl.ret s32.1)) fuel ([],0)).bind fun b2 =>
 (QA (σ:=List (List Int) × Bool) (ε:=List (List Int)) (fun s165 =>
  if s165.2=true then
   (QA (σ:=List (List Int) × Bool × Int) (ε:=List (List Int) × Bool) (fun s217 =>
    if s217.2.2<(v1.ac.length:Int) then
     (
      ass (0≤s217.2.2∧s217.2.2<(c_.fr.length:Int)) <|
      ass (0≤s217.2.2∧s217.2.2<(c_.to.length:Int)) <|
      (QA (σ:=List (List Int) × Int) (ε:=List (List Int)) (fun s241 =>
       ass (0≤ix c_.fr s217.2.2∧ix c_.fr s217.2.2<(s217.1.length:Int)) <|
       if s241.2<((rx s217.1 (ix c_.fr s217.2.2)).length:Int) then
        (
         ass (0≤ix c_.fr s217.2.2∧ix c_.fr s217.2.2<(s217.1.length:Int)) <|
         ass (0≤ix c_.fr s217.2.2∧ix c_.fr s217.2.2<(s217.1.length:Int)) <|
         ass (0≤s241.2∧s241.2<((rx s217.1 (ix c_.fr s217.2.2)).length:Int)) <|
         (Q1f (rx s217.1 (ix c_.fr s217.2.2)) (ix (rx s217.1 (ix c_.fr s217.2.2)) s241.2)).bind fun v248 =>
         ass (0≤s217.2.2∧s217.2.2<(v1.ac.length:Int)) <|
         ass (0≤v248∧v248<((rx v1.ac s217.2.2).length:Int)) <|
         ass (0≤s217.2.2∧s217.2.2<(v1.ac.length:Int)) <|
         ass (0≤s241.2∧s241.2<((rx v1.ac s217.2.2).length:Int)) <|
         ass (0≤ix c_.to s217.2.2∧ix c_.to s217.2.2<(s217.1.length:Int)) <|
         ass (0≤ix (rx v1.ac s217.2.2) v248∧ix (rx v1.ac s217.2.2) v248<((rx s217.1 (ix c_.to s217.2.2)).length:Int)) <|
         ass (0≤ix c_.to s217.2.2∧ix c_.to s217.2.2<(s217.1.length:Int)) <|
         ass (0≤ix (rx v1.ac s217.2.2) s241.2∧ix (rx v1.ac s217.2.2) s241.2<((rx s217.1 (ix c_.to s217.2.2)).length:Int)) <|
         if ¬ ((ix (rx s217.1 (ix c_.to s217.2.2)) (ix (rx v1.ac s217.2.2) v248))=(ix (rx s217.1 (ix c_.to s217.2.2)) (ix (rx v1.ac s217.2.2) s241.2))) then
          ass ((s241.1++[[ix (rx v1.ac s217.2.2) v248,ix (rx v1.ac s217.2.2) s241.2]]).length≤1073741824) <|
          some (s241.1++[[ix (rx v1.ac s217.2.2) v248,ix (rx v1.ac s217.2.2) s241.2]])
         else
          some s241.1:Option (List (List Int))).bind fun b244 =>
        ass (B64 (s241.2+1)) <|
        some (Ctl.next (b244,s241.2+1))
       else
        some (Ctl.ret s241.1)) fuel ([],0)).bind fun b222 =>
      if (b222.length:Int) > 0 then
       ass (0≤ix c_.to s217.2.2∧ix c_.to s217.2.2<(v1.sz.length:Int)) <|
       ass (0≤ix c_.to s217.2.2∧ix c_.to s217.2.2<(s217.1.length:Int)) <|
       (Q2s (rx s217.1 (ix c_.to s217.2.2))).bind fun v263 =>
       ass ((v263++b222).length≤1073741824) <|
       (Q2e (ix v1.sz (ix c_.to s217.2.2)) (v263++b222)).bind fun v265 =>
       ass (0≤ix c_.to s217.2.2∧ix c_.to s217.2.2<(s217.1.length:Int)) <|
       some (s217.1.set ((ix c_.to s217.2.2).toNat) v265,true)
      else
       some (s217.1,s217.2.1):Option (List (List Int) × Bool)).bind fun b219 =>
     ass (B64 (s217.2.2+1)) <|
     some (Ctl.next (b219.1,b219.2,s217.2.2+1))
    else
     some (Ctl.ret (s217.1,s217.2.1))) fuel (s165.1,false,0)).bind fun p217 =>
   some (Ctl.next p217)
  else
   some (Ctl.ret s165.1)) fuel (b2,true)).bind fun b62 =>
 (Q1F v1 b62).bind fun v268 =>
 (QA (σ:=List Int × Int) (ε:=List Int) (fun s278 =>
  if s278.2<(q_.variables_.length:Int) then
   ass (0≤s278.2∧s278.2<(q_.variables_.length:Int)) <|
   ass (0≤ix q_.variables_ s278.2∧ix q_.variables_ s278.2<(b62.length:Int)) <|
   ass (0≤ix q_.variables_ s278.2∧ix q_.variables_ s278.2<(c_.id.length:Int)) <|
   (Q1G c_ q_ (⟨s278.2,ix c_.id (ix q_.variables_ s278.2)⟩:XTerm)).bind fun v283 =>
   ass (0≤v283∧v283<((rx b62 (ix q_.variables_ s278.2)).length:Int)) <|
   ass ((s278.1++[ix (rx b62 (ix q_.variables_ s278.2)) v283]).length≤1073741824) <|
   ass (B64 (s278.2+1)) <|
   some (Ctl.next (s278.1++[ix (rx b62 (ix q_.variables_ s278.2)) v283],s278.2+1))
  else
   some (Ctl.ret s278.1)) fuel ([],0)).bind fun b269 =>
 (Q2Q v268).bind fun v287 =>
 some (v268,b269,v287 == 0)
theorem wkQ9 {F : Fx} {st st' : St} (m : List (Nat × Nat)) (h : (m.map Prod.fst).Nodup ∧ (m.map Prod.snd).Nodup ∧ (∀ id, id < F.pins → look id m = some id) ∧ (∀ p ∈ m, p.2 < st'.n) ∧ (∀ p ∈ st'.h, p.1 < st'.n) ∧ (∀ p ∈ st'.s, p.2 = rl m (st.get p.1) ∨ p.2 = .bot) ∧ ∀ p ∈ st'.h, hhOk m st.h p.1 p.2 := by simp [hP, hhOk, back, idQ, Cat.cells, SF.cells, XQuery.cells, XTerm.cells, UA, U1, IA, I1, LA, L1, BA, B1, EA, E1, E2, eB, eI, eL, Q5 _ Q6 _ (fun _=>rfl), Q5 _ Qe _ (fun _=>rfl), XPairint64.cells, Q5 _ Qg _ (fun _=>rfl), Q5 _ (XPairint64.cells true) _ (fun _=>rfl)]) : Wk F st st' := Wk.r1 m h
theorem wkI9 {F : Fx} {st st' : St} (m : Nat) (h : ((idQ m).map Prod.fst).Nodup ∧ ((idQ m).map Prod.snd).Nodup ∧ (∀ id, id < F.pins → look id (idQ m) = some id) ∧ (∀ p ∈ (idQ m), p.2 < st'.n) ∧ (∀ p ∈ st'.h, p.1 < st'.n) ∧ (∀ p ∈ st'.s, p.2 = rl (idQ m) (st.get p.1) ∨ p.2 = .bot) ∧ ∀ p ∈ st'.h, hhOk (idQ m) st.h p.1 p.2 := by simp [hP, hhOk, back, idQ, Cat.cells, SF.cells, XQuery.cells, XTerm.cells, UA, U1, IA, I1, LA, L1, BA, B1, EA, E1, E2, eB, eI, eL, Q5 _ Q6 _ (fun _=>rfl), Q5 _ Qe _ (fun _=>rfl), XPairint64.cells, Q5 _ Qg _ (fun _=>rfl), Q5 _ (XPairint64.cells true) _ (fun _=>rfl)]) : Wk F st st' := Wk.r1 (idQ m) h
@[simp] abbrev Y1 (a:Cat) (b:XQuery) (c:SF) (d:List (Nat × AV)):List (Nat × AV):=(2,.rptr (Cat.cells true a))::(3,.rptr (XQuery.cells true b))::(4,.adr 0 0 0)::(7,.rptr (SF.cells true c))::d
@[simp] abbrev Y8 (a:List (List Int)) (b:SF) (c:List (Nat × Ent)):List (Nat × Ent):=(1,.row 1 (Ls a))::(2,.mix 7 [[iV b.s.n,.own 3 0 b.s.fr.length,.own 4 0 b.s.to.length,.own 5 0 b.s.id.length,.own 6 0 b.s.cs.length,.own 7 0 b.sz.length,.own 8 0 b.ac.length]])::(3,rI b.s.fr)::(4,rI b.s.to)::(5,rI b.s.id)::(6,.row 1 (Ls b.s.cs))::(7,rI b.sz)::(8,.row 1 (Ls b.ac))::c
@[simp] abbrev Yj (a:List (List Int) × Bool × Int) (b:Cat) (c:List (Nat × AV)):List (Nat × AV):=(8,.own 1 0 a.1.length)::(12,.val (.bool a.2.1))::(13,iV a.2.2)::(14,iV (ix b.fr a.2.2))::(15,iV (ix b.to a.2.2))::c
@[simp] abbrev Yr (a:Cat) (b:XQuery) (c:List (List Int)) (d:List (Nat × AV)):List (Nat × AV):=(2,.rptr (Cat.cells true a))::(3,.rptr (XQuery.cells true b))::(4,.adr 0 0 0)::(8,.own 1 0 c.length)::(21,.adr 2 0 0)::d
@[simp] abbrev YK (a:List (List Int) × Int) (b:List (Nat × AV)):List (Nat × AV):=(8,.own 1 0 a.1.length)::(9,iV a.2)::b
@[simp] abbrev Y03 (a:List (List Int) × Bool × Int) (b:List (Nat × AV)):List (Nat × AV):=(8,.own 1 0 a.1.length)::(12,.val (.bool a.2.1))::(13,iV a.2.2)::b
theorem Q5v (c_:Cat) (q_:XQuery) (r:SF × List Int × Bool) (h:Q1y c_ q_=some r):Contract Try.prog 31 (Y0q c_ q_ []) (.tup [.agg (r.1.cells true),lI r.2.1,.val (.bool r.2.2)]):=by
 refine Q3I (rvs:=[.cell 4 33,.tmp 5,.tmp 6]) (rs:=[.agg (r.1.cells true),lI r.2.1,.val (.bool r.2.2)]) Try.func31 rfl rfl rfl rfl (by simp [Try.f31]) fun F hN hP hW=>?_;unfold Q1y at h;refine Q1 (Qn [2,3] mo (by rw [hN];decide) fun K hK=>?_);simp;repeat refine sdQ ?_
 refine hK _ ?_;clear hK K;refine tn (Q4 (st':=⟨[(2,.rptr (Cat.cells true c_)),(3,.rptr (XQuery.cells true q_)),(4,.adr 0 0 0)],Y5 [],1⟩) (wkQ9 [(0,0)]) (Q1 (Qn [] mo (by rw [hN];decide) fun K hK=>?_)));simp;repeat with_reducible refine sdQ ?_
 replace ⟨v1,hv1,h⟩:=bind_some h;refine Q5P (fz:=[]) false (Contract.toF (Q9e _ _ v1 hv1)) (PurK.ofL (.cons (.aggL (.cons .val (.cons .lst (.cons .lst (.cons .lst (.cons .lst .nil)))))) (.cons .lst .nil))) ?_;simp;repeat refine sdQ ?_
 refine hK _ ?_;clear hK K;refine tn (Q4 (st':=⟨Y1 c_ q_ v1 [],Y5 [],1⟩) (Wk.frz hW [(1,[iV v1.s.n,lI v1.s.fr,lI v1.s.to,lI v1.s.id,.lst true 1 (Ls v1.s.cs),lI v1.sz,.lst true 1 (Ls v1.ac)])] [(0,0)] (by simp [AV.ro,Cat.cells,SF.cells,XQuery.cells,XTerm.cells,UA,U1,IA,I1,LA,L1,BA,B1,EA,E1,E2,eB,eI,eL,Q5 _ Q6 _ (fun _=>rfl),Q5 _ Qe _ (fun _=>rfl)]) (by simp [hP,hhOk,back,Cat.cells,SF.cells,XQuery.cells,XTerm.cells,UA,U1,IA,I1,LA,L1,BA,B1,EA,E1,E2,eB,eI,eL,Q5 _ Q6 _ (fun _=>rfl),Q5 _ Qe _ (fun _=>rfl)])) (Q1 (runQ hN fun K hK=>?_)));simp;repeat refine sdQ ?_
 refine hK _ ?_;clear hK K;refine tn (Q4 (st':=⟨Y1 c_ q_ v1 [(8,.own 1 0 0)],Y5 [(1,.mix 1 [])],2⟩) (wkQ9 [(0,0),(1,1)]) (Q1 (Q1 (runQ hN fun K hK=>?_))));simp;repeat refine sdQ ?_
 refine hK _ (tn (Q4 (st':=⟨Y1 c_ q_ v1 [(8,.own 1 0 0),(9,iV 0)],Y5 [(1,.mix 1 [])],2⟩) (wkQ9 [(0,0),(1,1)]) ?_));clear hK K;replace ⟨e2,h,h2⟩:=bind_some h;refine Qk (fun b2:List (List Int)=>⟨Y1 c_ q_ v1 [(8,.own 1 0 b2.length)],Y5 [(1,.row 1 (Ls b2))],2⟩) (fun b2=>b2=e2) ?_ ?_
 ·refine Q7 (Qu h (fun s32:List (List Int) × Int=>⟨Y1 c_ q_ v1 (YK s32 []),Y5 [(1,.row 1 (Ls s32.1))],2⟩) (Q2V ⟨Y1 c_ q_ v1 [(8,.own 1 0 0),(9,iV 0)],Y5 [(1,.row 1 (Ls []))],2⟩ (Wk.nils [] (by simp) (by simp) (by simp [nlA]) (by simp [entN,nlL,nlA,Cat.cells,SF.cells,XQuery.cells,XTerm.cells,UA,U1,IA,I1,LA,L1,BA,B1,EA,E1,E2,eB,eI,eL,Q5 _ Q6 _ (fun _=>rfl),Q5 _ Qe _ (fun _=>rfl)]) (by simp)) (wkQ9 [(0,0),(1,1)])) ?_);clear h;intro k32 s32 c32 h hk32;refine Q1 (Q1 (runQ hN fun K hK=>?_));simp;repeat refine sdQ ?_
  refine hK _ ?_;clear hK K;refine tn (Q4 (st':=⟨Y1 c_ q_ v1 (YK s32 [(33,.val (.bool (decide (s32.2<c_.n))))]),Y5 [(1,.row 1 (Ls s32.1))],2⟩) (wkQ9 [(0,0),(1,1)]) (Qa rfl (fun g=>?_) fun g=>?_))
  ·have g33:s32.2<c_.n:=gQ;clear g;replace h:=if_l g33 h;refine Qc (tn (Q1 (Q7 (Q1 (runQ hN fun K hK=>?_)))));simp;(repeat refine sdQ ?_);refine hK _ ?_;clear hK K;refine tn (Q4 (st':=⟨Y1 c_ q_ v1 (YK s32 [(10,.own 2 0 0)]),Y5 [(1,.row 1 (Ls s32.1)),(2,.mix 1 [])],3⟩) (wkI9 3) (Q1 (Q1 (runQ hN fun K hK=>?_))));simp;(repeat refine sdQ ?_);refine hK _ (tn (Q4 (st':=⟨Y1 c_ q_ v1 (YK s32 [(10,.own 2 0 0),(11,iV 0)]),Y5 [(1,.row 1 (Ls s32.1)),(2,.mix 1 [])],3⟩) (wkI9 3) ?_));clear hK K;replace ⟨e34,h,h34⟩:=bind_some h;refine Qk (fun b34:List (List Int)=>⟨Y1 c_ q_ v1 (YK s32 [(10,.own 2 0 b34.length)]),Y5 [(1,.row 1 (Ls s32.1)),(2,.row 1 (Ls b34))],3⟩) (fun b34=>b34=e34) ?_ ?_
   ·refine Q7 (Qu h (fun s46:List (List Int) × Int=>⟨Y1 c_ q_ v1 (YK s32 [(10,.own 2 0 s46.1.length),(11,iV s46.2)]),Y5 [(1,.row 1 (Ls s32.1)),(2,.row 1 (Ls s46.1))],3⟩) (Q2V ⟨Y1 c_ q_ v1 (YK s32 [(10,.own 2 0 0),(11,iV 0)]),Y5 [(1,.row 1 (Ls s32.1)),(2,.row 1 (Ls []))],3⟩ (Wk.nils [] (by simp) (by simp) (by simp [nlA]) (by simp [entN,nlL,nlA,Cat.cells,SF.cells,XQuery.cells,XTerm.cells,UA,U1,IA,I1,LA,L1,BA,B1,EA,E1,E2,eB,eI,eL,Q5 _ Q6 _ (fun _=>rfl),Q5 _ Qe _ (fun _=>rfl)]) (by simp)) (wkI9 3)) ?_);clear h;intro k46 s46 c46 h hk46;refine Q1 (Q1 (runQ hN fun K hK=>?_));simp;(repeat refine sdQ ?_);refine hK _ ?_;clear hK K;refine tn (Q4 (st':=⟨Y1 c_ q_ v1 (YK s32 [(10,.own 2 0 s46.1.length),(11,iV s46.2),(41,.val (.bool (decide (s46.2<(q_.left_.length:Int)))))]),Y5 [(1,.row 1 (Ls s32.1)),(2,.row 1 (Ls s46.1))],3⟩) (wkI9 3) (Qa rfl (fun g=>?_) fun g=>?_))
    ·have g47:s46.2<(q_.left_.length:Int):=gQ;clear g;replace h:=if_l g47 h;refine Qc (tn (Q1 ?_));replace ⟨e48,h,h48⟩:=bind_some h;refine Qk (fun b48:List (List Int)=>⟨Y1 c_ q_ v1 (YK s32 [(10,.own 2 0 b48.length),(11,iV s46.2)]),Y5 [(1,.row 1 (Ls s32.1)),(2,.row 1 (Ls b48))],3⟩) (fun b48=>b48=e48) ?_ ?_
     ·refine Q7 (Q1 (runQ hN fun K hK=>?_));replace ⟨a49,h⟩:=Q0 h;replace ⟨a50,h⟩:=Q0 h;simp [at_E (c:=(XTerm.cells true)) a49,at_I a50];(repeat refine sdQ ?_);refine hK _ ?_;clear hK K;refine tn (Q4 (st':=⟨Y1 c_ q_ v1 (YK s32 [(10,.own 2 0 s46.1.length),(11,iV s46.2),(55,.val (.bool ((ix c_.to ((gx q_.left_ s46.2).arrow_)) == s32.2)))]),Y5 [(1,.row 1 (Ls s32.1)),(2,.row 1 (Ls s46.1))],3⟩) (wkI9 3) (Qa rfl (fun g=>?_) fun g=>?_))
      ·have g51:(ix c_.to ((gx q_.left_ s46.2).arrow_))=s32.2:=gQ;clear g;replace h:=if_l g51 h;refine runQ hN fun K hK=>?_;replace ⟨a52,h⟩:=Q0 h;simp [at_E (c:=(XTerm.cells true)) a52];(repeat with_reducible refine sdQ ?_);replace ⟨v53,hv53,h⟩:=bind_some h;refine Q3 (Q4v _ _ _ v53 hv53) (.cons (.aggL (.cons .val (.cons .lst (.cons .lst (.cons .lst (.cons .lst .nil)))))) (.cons (.aggL (.cons .lst (.cons .lst (.cons .lst (.cons .lst .nil))))) (.cons (.aggL (.cons .val (.cons .val .nil))) .nil))) ?_;replace ⟨a54,h⟩:=Q0 h;simp [at_E (c:=(XTerm.cells true)) a52,at_E (c:=(XTerm.cells true)) a54];(repeat with_reducible refine sdQ ?_);replace ⟨v55,hv55,h⟩:=bind_some h;refine Q3 (Q4v _ _ _ v55 hv55) (.cons (.aggL (.cons .val (.cons .lst (.cons .lst (.cons .lst (.cons .lst .nil)))))) (.cons (.aggL (.cons .lst (.cons .lst (.cons .lst (.cons .lst .nil))))) (.cons (.aggL (.cons .val (.cons .val .nil))) .nil))) ?_;replace ⟨a56,h⟩:=Q0 h;(try simp only [qE,qG,zB] at a56);simp [at_E (c:=(XTerm.cells true)) a52,at_E (c:=(XTerm.cells true)) a54,a56];(repeat refine sdQ ?_);refine hK _ (bn ?_);clear hK K;exact jn (b:=s46.1++[[v53,v55]]) (zC h) (wkQ9 [(0,0),(1,1),(7,2)])
      have g51:¬ ((ix c_.to ((gx q_.left_ s46.2).arrow_))=s32.2):=gQ;clear g;replace h:=if_r g51 h;refine Qc (bn ?_);exact jn (b:=s46.1) (zC h) (wkI9 3)
     intro b48 hb48;have h:=h48;(try rw [← hb48] at h);clear h48;(try dsimp only at h);refine runQ hN fun K hK=>?_;replace ⟨a57,h⟩:=Q0 h;simp [Qm a57];(repeat refine sdQ ?_);refine hK _ ?_;clear hK K;cases h;exact rn (s':=(b48,s46.2+1)) hk46 (wkI9 3)
    have g47:¬ (s46.2<(q_.left_.length:Int)):=gQ;clear g;replace h:=if_r g47 h;refine Qp (tx (lx (bh ?_)));cases h;exact jn (b:=s46.1) hk46 (wkI9 3)
   intro b34 hb34;have h:=h34;(try rw [← hb34] at h);clear h34;(try dsimp only at h);refine runQ hN fun K hK=>?_;replace ⟨a58,h⟩:=Q0 h;simp [at_I a58];(repeat with_reducible refine sdQ ?_);replace ⟨v59,hv59,h⟩:=bind_some h;refine Q3 (Q6n _ _ v59 hv59) (.cons .val (.cons .w .nil)) ?_;replace ⟨a60,h⟩:=Q0 h;(try simp only [qE,qG,zB] at a60);simp [at_I a58,a60];(repeat refine sdQ ?_);refine hK _ ?_;clear hK K;refine bn (tn (Q4 (st':=⟨Y1 c_ q_ v1 [(8,.own 1 0 ((s32.1++[v59]).length)),(9,iV s32.2)],Y5 [(1,.row 1 (Ls (s32.1++[v59])))],2⟩) (wkQ9 [(0,0),(5,1)]) (runQ hN fun K hK=>?_)));replace ⟨a61,h⟩:=Q0 h;simp [Qm a61];(repeat refine sdQ ?_);refine hK _ ?_;clear hK K;cases h;exact rn (s':=(s32.1++[v59],s32.2+1)) hk32 (wkQ9 [(0,0),(1,1)])
  have g33:¬ (s32.2<c_.n):=gQ;clear g;replace h:=if_r g33 h;refine Qp (tx (lx (bh ?_)));cases h;exact jn (b:=s32.1) hk32 (wkQ9 [(0,0),(1,1)])
 intro b2 hb2;have h:=h2;try rw [← hb2] at h
 clear h2;try dsimp only at h
 refine Q1 (Q1 (runQ hN fun K hK=>?_));simp;repeat refine sdQ ?_
 refine hK _ (tn (Q4 (st':=⟨Y1 c_ q_ v1 [(8,.own 1 0 b2.length),(12,.val (.bool true))],Y5 [(1,.row 1 (Ls b2))],2⟩) (wkQ9 [(0,0),(1,1)]) ?_));clear hK K;replace ⟨e62,h,h62⟩:=bind_some h;refine Qk (fun b62:List (List Int)=>⟨Y1 c_ q_ v1 [(8,.own 1 0 b62.length)],Y5 [(1,.row 1 (Ls b62))],2⟩) (fun b62=>b62=e62) ?_ ?_
 ·refine Q7 (Qu h (fun s165:List (List Int) × Bool=>⟨Y1 c_ q_ v1 [(8,.own 1 0 s165.1.length),(12,.val (.bool s165.2))],Y5 [(1,.row 1 (Ls s165.1))],2⟩) (wkQ9 [(0,0),(1,1)]) ?_);clear h;intro k165 s165 c165 h hk165;refine Q1 (Q1 (runQ hN fun K hK=>?_));simp;repeat refine sdQ ?_
  refine hK _ ?_;clear hK K;refine tn (Q4 (st':=⟨Y1 c_ q_ v1 [(8,.own 1 0 s165.1.length),(86,.val (.bool s165.2))],Y5 [(1,.row 1 (Ls s165.1))],2⟩) (wkQ9 [(0,0),(1,1)]) (Qa rfl (fun g=>?_) fun g=>?_))
  ·have g166:s165.2=true:=gQ;clear g;replace h:=if_l g166 h;refine Qc (tn (Q7 (Q1 (runQ hN fun K hK=>?_))));simp;(repeat refine sdQ ?_);refine hK _ ?_;clear hK K;refine tn (Q4 (st':=⟨Y1 c_ q_ v1 [(8,.own 1 0 s165.1.length),(12,.val (.bool false))],Y5 [(1,.row 1 (Ls s165.1))],2⟩) (wkQ9 [(0,0),(1,1)]) (Q1 (runQ hN fun K hK=>?_)));simp;(repeat refine sdQ ?_);refine hK _ (tn (Q4 (st':=⟨Y1 c_ q_ v1 [(8,.own 1 0 s165.1.length),(12,.val (.bool false)),(13,iV 0)],Y5 [(1,.row 1 (Ls s165.1))],2⟩) (wkQ9 [(0,0),(1,1)]) (Q7 ?_)));clear hK K;replace ⟨e217,he217,h217⟩:=bind_some h;refine Qu he217 (fun s217:List (List Int) × Bool × Int=>⟨Y1 c_ q_ v1 (Y03 s217 []),Y5 [(1,.row 1 (Ls s217.1))],2⟩) (wkQ9 [(0,0),(1,1)]) ?_;intro k217 s217 c217 h hk217;refine Q1 (Q1 (runQ hN fun K hK=>?_));simp;(repeat refine sdQ ?_);refine hK _ ?_;clear hK K;refine tn (Q4 (st':=⟨Y1 c_ q_ v1 (Y03 s217 [(91,.val (.bool (decide (s217.2.2<(v1.ac.length:Int)))))]),Y5 [(1,.row 1 (Ls s217.1))],2⟩) (wkQ9 [(0,0),(1,1)]) (Qa rfl (fun g=>?_) fun g=>?_))
   ·have g218:s217.2.2<(v1.ac.length:Int):=gQ;clear g;replace h:=if_l g218 h;refine Qc (tn (Q1 ?_));replace ⟨e219,h,h219⟩:=bind_some h;refine Qk (fun b219:List (List Int) × Bool=>⟨Y1 c_ q_ v1 [(8,.own 1 0 b219.1.length),(12,.val (.bool b219.2)),(13,iV s217.2.2)],Y5 [(1,.row 1 (Ls b219.1))],2⟩) (fun b219=>b219=e219) ?_ ?_
    ·refine Q7 (Q1 (runQ hN fun K hK=>?_));replace ⟨a220,h⟩:=Q0 h;replace ⟨a221,h⟩:=Q0 h;simp [at_I a220,at_I a221];(repeat refine sdQ ?_);refine hK _ ?_;clear hK K;refine tn (Q4 (st':=⟨Y1 c_ q_ v1 (Yj s217 c_ []),Y5 [(1,.row 1 (Ls s217.1))],2⟩) (wkQ9 [(0,0),(1,1)]) (Q1 (runQ hN fun K hK=>?_)));simp;(repeat refine sdQ ?_);refine hK _ ?_;clear hK K;refine tn (Q4 (st':=⟨Y1 c_ q_ v1 (Yj s217 c_ [(16,.own 2 0 0)]),Y5 [(1,.row 1 (Ls s217.1)),(2,.mix 1 [])],3⟩) (wkI9 3) (Q1 (Q1 (runQ hN fun K hK=>?_))));simp;(repeat refine sdQ ?_);refine hK _ (tn (Q4 (st':=⟨Y1 c_ q_ v1 (Yj s217 c_ [(16,.own 2 0 0),(17,iV 0)]),Y5 [(1,.row 1 (Ls s217.1)),(2,.mix 1 [])],3⟩) (wkI9 3) ?_));clear hK K;replace ⟨e222,h,h222⟩:=bind_some h;refine Qk (fun b222:List (List Int)=>⟨Y1 c_ q_ v1 (Y03 s217 [(15,iV (ix c_.to s217.2.2)),(16,.own 2 0 b222.length)]),Y5 [(1,.row 1 (Ls s217.1)),(2,.row 1 (Ls b222))],3⟩) (fun b222=>b222=e222) ?_ ?_
     ·refine Q7 (Qu h (fun s241:List (List Int) × Int=>⟨Y1 c_ q_ v1 (Yj s217 c_ [(16,.own 2 0 s241.1.length),(17,iV s241.2)]),Y5 [(1,.row 1 (Ls s217.1)),(2,.row 1 (Ls s241.1))],3⟩) (Q2V ⟨Y1 c_ q_ v1 (Yj s217 c_ [(16,.own 2 0 0),(17,iV 0)]),Y5 [(1,.row 1 (Ls s217.1)),(2,.row 1 (Ls []))],3⟩ (Wk.nils [] (by simp) (by simp) (by simp [nlA]) (by simp [entN,nlL,nlA,Cat.cells,SF.cells,XQuery.cells,XTerm.cells,UA,U1,IA,I1,LA,L1,BA,B1,EA,E1,E2,eB,eI,eL,Q5 _ Q6 _ (fun _=>rfl),Q5 _ Qe _ (fun _=>rfl)]) (by simp)) (wkI9 3)) ?_);clear h;intro k241 s241 c241 h hk241;refine Q1 (Q1 (runQ hN fun K hK=>?_));replace ⟨a242,h⟩:=Q0 h;simp [at_L a242];(repeat refine sdQ ?_);refine hK _ ?_;clear hK K;refine tn (Q4 (st':=⟨Y1 c_ q_ v1 (Yj s217 c_ [(16,.own 2 0 s241.1.length),(17,iV s241.2),(111,.val (.bool (decide (s241.2<((rx s217.1 (ix c_.fr s217.2.2)).length:Int)))))]),Y5 [(1,.row 1 (Ls s217.1)),(2,.row 1 (Ls s241.1))],3⟩) (wkI9 3) (Qa rfl (fun g=>?_) fun g=>?_))
      ·have g243:s241.2<((rx s217.1 (ix c_.fr s217.2.2)).length:Int):=gQ;clear g;replace h:=if_l g243 h;refine Qc (tn (Q1 ?_));replace ⟨e244,h,h244⟩:=bind_some h;refine Qk (fun b244:List (List Int)=>⟨Y1 c_ q_ v1 (Yj s217 c_ [(16,.own 2 0 b244.length),(17,iV s241.2)]),Y5 [(1,.row 1 (Ls s217.1)),(2,.row 1 (Ls b244))],3⟩) (fun b244=>b244=e244) ?_ ?_
       ·refine Q7 (Q1 (runQ hN fun K hK=>?_));replace ⟨a245,h⟩:=Q0 h;replace ⟨a246,h⟩:=Q0 h;replace ⟨a247,h⟩:=Q0 h;simp [at_L a245,at_L a246,at_I a247];(repeat with_reducible refine sdQ ?_);replace ⟨v248,hv248,h⟩:=bind_some h;refine Q3 (Q34 _ _ v248 hv248) (.cons (.whole (by simp [at_L a245]) (by simp) (by simp [at_L a245])) (.cons .val .nil)) ?_;simp [at_L a245,at_L a246,at_I a247];(repeat refine sdQ ?_);refine hK _ ?_;clear hK K;refine tn (Q4 (st':=⟨Y1 c_ q_ v1 (Yj s217 c_ [(16,.own 2 0 s241.1.length),(17,iV s241.2),(18,iV v248)]),Y5 [(1,.row 1 (Ls s217.1)),(2,.row 1 (Ls s241.1))],3⟩) (wkI9 3) (Q1 (runQ hN fun K hK=>?_)));replace ⟨a249,h⟩:=Q0 h;replace ⟨a250,h⟩:=Q0 h;replace ⟨a251,h⟩:=Q0 h;replace ⟨a252,h⟩:=Q0 h;simp [at_L a249,at_I a250,at_L a251,at_I a252];(repeat refine sdQ ?_);refine hK _ ?_;clear hK K;refine tn (Q4 (st':=⟨Y1 c_ q_ v1 (Yj s217 c_ [(16,.own 2 0 s241.1.length),(17,iV s241.2),(19,iV (ix (rx v1.ac s217.2.2) v248)),(20,iV (ix (rx v1.ac s217.2.2) s241.2))]),Y5 [(1,.row 1 (Ls s217.1)),(2,.row 1 (Ls s241.1))],3⟩) (wkI9 3) (Q1 (runQ hN fun K hK=>?_)));replace ⟨a253,h⟩:=Q0 h;replace ⟨a254,h⟩:=Q0 h;replace ⟨a255,h⟩:=Q0 h;replace ⟨a256,h⟩:=Q0 h;simp [at_L a253,at_I a254,at_L a255,at_I a256];(repeat refine sdQ ?_);refine hK _ ?_;clear hK K;refine tn (Q4 (st':=⟨Y1 c_ q_ v1 (Yj s217 c_ [(16,.own 2 0 s241.1.length),(17,iV s241.2),(19,iV (ix (rx v1.ac s217.2.2) v248)),(20,iV (ix (rx v1.ac s217.2.2) s241.2)),(156,.val (.bool ((ix (rx s217.1 (ix c_.to s217.2.2)) (ix (rx v1.ac s217.2.2) v248)) != (ix (rx s217.1 (ix c_.to s217.2.2)) (ix (rx v1.ac s217.2.2) s241.2)))))]),Y5 [(1,.row 1 (Ls s217.1)),(2,.row 1 (Ls s241.1))],3⟩) (wkI9 3) (Qa rfl (fun g=>?_) fun g=>?_))
        ·have g257:¬ ((ix (rx s217.1 (ix c_.to s217.2.2)) (ix (rx v1.ac s217.2.2) v248))=(ix (rx s217.1 (ix c_.to s217.2.2)) (ix (rx v1.ac s217.2.2) s241.2))):=gQ;clear g;replace h:=if_l g257 h;refine runQ hN fun K hK=>?_;replace ⟨a258,h⟩:=Q0 h;(try simp only [qE,qG,zB] at a258);simp [a258];(repeat refine sdQ ?_);refine hK _ (bn ?_);clear hK K;exact jn (b:=s241.1++[[ix (rx v1.ac s217.2.2) v248,ix (rx v1.ac s217.2.2) s241.2]]) (zC h) (wkQ9 [(0,0),(1,1),(5,2)])
        have g257:¬ (¬ ((ix (rx s217.1 (ix c_.to s217.2.2)) (ix (rx v1.ac s217.2.2) v248))=(ix (rx s217.1 (ix c_.to s217.2.2)) (ix (rx v1.ac s217.2.2) s241.2)))):=gQ;clear g;replace h:=if_r g257 h;refine Qc (bn ?_);exact jn (b:=s241.1) (zC h) (wkI9 3)
       intro b244 hb244;have h:=h244;(try rw [← hb244] at h);clear h244;(try dsimp only at h);refine runQ hN fun K hK=>?_;replace ⟨a259,h⟩:=Q0 h;simp [Qm a259];(repeat refine sdQ ?_);refine hK _ ?_;clear hK K;cases h;exact rn (s':=(b244,s241.2+1)) hk241 (wkI9 3)
      have g243:¬ (s241.2<((rx s217.1 (ix c_.fr s217.2.2)).length:Int)):=gQ;clear g;replace h:=if_r g243 h;refine Qp (tx (lx (bh ?_)));cases h;exact jn (b:=s241.1) hk241 (wkI9 3)
     intro b222 hb222;have h:=h222;(try rw [← hb222] at h);clear h222;(try dsimp only at h);refine Q1 (runQ hN fun K hK=>?_);simp;(repeat refine sdQ ?_);refine hK _ ?_;clear hK K;refine tn (Q4 (st':=⟨Y1 c_ q_ v1 (Y03 s217 [(15,iV (ix c_.to s217.2.2)),(16,.own 2 0 b222.length),(165,.val (.bool (decide ((b222.length:Int) > 0))))]),Y5 [(1,.row 1 (Ls s217.1)),(2,.row 1 (Ls b222))],3⟩) (wkI9 3) (Qa rfl (fun g=>?_) fun g=>?_))
     ·have g260:(b222.length:Int) > 0:=gQ;clear g;replace h:=if_l g260 h;refine Q1 (w_runXQ false [179] [64,66] [7] [168,169,171] (by simp [St.get,look,Cat.cells,SF.cells,XQuery.cells,XTerm.cells]<;>(repeat' apply And.intro)<;>exact RoV_Es (by simp [Cat.cells,SF.cells,XQuery.cells,XTerm.cells])) mo (by rw [hN];decide) fun K hK=>?_);replace ⟨a261,h⟩:=Q0 h;replace ⟨a262,h⟩:=Q0 h;simp [at_I a261,at_L a262];(repeat with_reducible refine sdQ ?_);replace ⟨v263,hv263,h⟩:=bind_some h;refine QU (fz:=[179]) (Q8o _ v263 hv263) (.cons (.whole (by simp [at_L a262]) (by simp) (by simp [at_L a262])) .nil) ?_;replace ⟨a264,h⟩:=Q0 h;(try simp only [qE,qG,zB] at a264);simp [at_I a261,at_L a262,a264];(repeat with_reducible refine sdQ ?_);refine Q6S (fz:=[179]) (sem_apr (es3:=Ls (v263++b222)) rfl ef_23 tf_22 rfl rfl (by simp) rfl rfl (by simp) rfl (by first|(simp;done)|(simp;omega)) (by first|(simp;done)|(simp;omega)) (by decide) (by simp) (by simp) (by simp [UA,U1,IA,I1,LA,L1,BA,B1,EA,E1,E2,eB,eI,eL,Q5 _ Q6 _ (fun _=>rfl),Q5 _ Qe _ (fun _=>rfl)])) ?_;simp [at_I a261,at_L a262];(repeat with_reducible refine sdQ ?_);replace ⟨v265,hv265,h⟩:=bind_some h;refine QU (fz:=[179]) (Q6n _ _ v265 hv265) (.cons .val (.cons (.whole (by simp [IA,I1,LA,L1]) (by simp) (by simp)) .nil)) ?_;replace ⟨a266,h⟩:=Q0 h;simp [at_I a261,at_L a262,at_L a266];(repeat with_reducible refine sdQ ?_);refine Qa5 (fz:=[179]) [3] tf_22 rfl (b:=.lst true 1 (Is v265)) (ds:=[6]) (es2:=Ls (s217.1.set ((ix c_.to s217.2.2).toNat) v265)) rfl (by simp) (by first|(simp;done)|(simp;omega)|omega) (by simp) (by simp) (by simp) (by simp) Ls_st ?_;simp [at_I a261,at_L a262,at_L a266];(repeat refine sdQ ?_);refine hK _ ?_;clear hK K;refine tn (Q4 (st':=⟨Y1 c_ q_ v1 [(8,.own 1 0 ((s217.1.set ((ix c_.to s217.2.2).toNat) v265).length)),(13,iV s217.2.2)],Y5 [(1,.row 1 (Ls (s217.1.set ((ix c_.to s217.2.2).toNat) v265)))],2⟩) (wkQ9 [(0,0),(1,1)]) (runQ hN fun K hK=>?_));simp;(repeat refine sdQ ?_);refine hK _ (bn ?_);clear hK K;exact jn (b:=(s217.1.set ((ix c_.to s217.2.2).toNat) v265,true)) (zC h) (wkQ9 [(0,0),(1,1)])
     have g260:¬ ((b222.length:Int) > 0):=gQ;clear g;replace h:=if_r g260 h;refine Qc (bn ?_);exact jn (b:=(s217.1,s217.2.1)) (zC h) (wkQ9 [(0,0),(1,1)])
    intro b219 hb219;have h:=h219;(try rw [← hb219] at h);clear h219;(try dsimp only at h);refine runQ hN fun K hK=>?_;replace ⟨a267,h⟩:=Q0 h;simp [Qm a267];(repeat refine sdQ ?_);refine hK _ ?_;clear hK K;cases h;exact rn (s':=(b219.1,b219.2,s217.2.2+1)) hk217 (wkQ9 [(0,0),(1,1)])
   have g218:¬ (s217.2.2<(v1.ac.length:Int)):=gQ;clear g;replace h:=if_r g218 h;refine Qp (tx (lx (bh (bn ?_))));cases h;have q:_=e217:=hk217;have h:=h217;rw [← q] at h;clear q;(try dsimp only at h);cases h;exact rn (s':=(s217.1,s217.2.1)) hk165 (wkQ9 [(0,0),(1,1)])
  have g166:¬ (s165.2=true):=gQ;clear g;replace h:=if_r g166 h;refine Qp (tx (lx (bh ?_)));cases h;exact jn (b:=s165.1) hk165 (wkQ9 [(0,0),(1,1)])
 intro b62 hb62;have h:=h62;try rw [← hb62] at h
 clear h62;try dsimp only at h
 refine Q1 (runQ hN fun K hK=>?_);simp;repeat with_reducible refine sdQ ?_
 replace ⟨v268,hv268,h⟩:=bind_some h;refine Q3 (Q6p _ _ v268 hv268) (.cons (.aggL (.cons .val (.cons .lst (.cons .lst (.cons .lst (.cons .lst (.cons .lst (.cons .lst .nil)))))))) (.cons .w .nil)) ?_;simp;repeat refine sdQ ?_
 refine hK _ ?_;clear hK K;refine tn (Q4 (st':=⟨Yr c_ q_ b62 [(22,.own 9 0 0)],Y5 (Y8 b62 v268 [(9,.mix 1 [])]),10⟩) (wkQ9 [(0,0),(1,1),(10,2),(3,3),(4,4),(5,5),(6,6),(7,7),(8,8),(9,9)]) (Q1 (Q1 (runQ hN fun K hK=>?_))));simp;repeat refine sdQ ?_
 refine hK _ (tn (Q4 (st':=⟨Yr c_ q_ b62 [(22,.own 9 0 0),(23,iV 0)],Y5 (Y8 b62 v268 [(9,.mix 1 [])]),10⟩) (wkI9 10) ?_));clear hK K;replace ⟨e269,h,h269⟩:=bind_some h;refine Qk (fun b269:List Int=>⟨[(4,.adr 0 0 0),(21,.adr 1 0 0),(22,.own 8 0 b269.length)],Y5 [(1,.mix 7 [[iV v268.s.n,.own 2 0 v268.s.fr.length,.own 3 0 v268.s.to.length,.own 4 0 v268.s.id.length,.own 5 0 v268.s.cs.length,.own 6 0 v268.sz.length,.own 7 0 v268.ac.length]]),(2,rI v268.s.fr),(3,rI v268.s.to),(4,rI v268.s.id),(5,.row 1 (Ls v268.s.cs)),(6,rI v268.sz),(7,.row 1 (Ls v268.ac)),(8,rI b269)],9⟩) (fun b269=>b269=e269) ?_ ?_
 ·refine Q7 (Qu h (fun s278:List Int × Int=>⟨Yr c_ q_ b62 [(22,.own 9 0 s278.1.length),(23,iV s278.2)],Y5 (Y8 b62 v268 [(9,rI s278.1)]),10⟩) (Q2V ⟨Yr c_ q_ b62 [(22,.own 9 0 0),(23,iV 0)],Y5 (Y8 b62 v268 [(9,rI [])]),10⟩ (Wk.nils [] (by simp) (by simp) (by simp [nlA]) (by simp [entN,nlL,nlA,Cat.cells,SF.cells,XQuery.cells,XTerm.cells,UA,U1,IA,I1,LA,L1,BA,B1,EA,E1,E2,eB,eI,eL,Q5 _ Q6 _ (fun _=>rfl),Q5 _ Qe _ (fun _=>rfl)]) (by simp)) (wkI9 10)) ?_);clear h;intro k278 s278 c278 h hk278;refine Q1 (Q1 (runQ hN fun K hK=>?_));simp;repeat refine sdQ ?_
  refine hK _ ?_;clear hK K;refine tn (Q4 (st':=⟨Yr c_ q_ b62 [(22,.own 9 0 s278.1.length),(23,iV s278.2),(190,.val (.bool (decide (s278.2<(q_.variables_.length:Int)))))],Y5 (Y8 b62 v268 [(9,rI s278.1)]),10⟩) (wkI9 10) (Qa rfl (fun g=>?_) fun g=>?_))
  ·have g279:s278.2<(q_.variables_.length:Int):=gQ;clear g;replace h:=if_l g279 h;refine Qc (tn (Q1 (Q7 (Q1 (runQ hN fun K hK=>?_)))));replace ⟨a280,h⟩:=Q0 h;simp [at_I a280];(repeat refine sdQ ?_);refine hK _ ?_;clear hK K;refine tn (Q4 (st':=⟨Yr c_ q_ b62 [(22,.own 9 0 s278.1.length),(23,iV s278.2),(24,iV (ix q_.variables_ s278.2))],Y5 (Y8 b62 v268 [(9,rI s278.1)]),10⟩) (wkI9 10) (runQ hN fun K hK=>?_));replace ⟨a281,h⟩:=Q0 h;replace ⟨a282,h⟩:=Q0 h;simp [at_L a281,at_I a282];(repeat with_reducible refine sdQ ?_);replace ⟨v283,hv283,h⟩:=bind_some h;refine Q3 (Q4v _ _ _ v283 hv283) (.cons (.aggL (.cons .val (.cons .lst (.cons .lst (.cons .lst (.cons .lst .nil)))))) (.cons (.aggL (.cons .lst (.cons .lst (.cons .lst (.cons .lst .nil))))) (.cons (.aggL (.cons .val (.cons .val .nil))) .nil))) ?_;replace ⟨a284,h⟩:=Q0 h;replace ⟨a285,h⟩:=Q0 h;(try simp only [qE,qG,zB] at a285);simp [at_L a281,at_I a282,at_I a284,a285];(repeat refine sdQ ?_);refine hK _ ?_;clear hK K;refine bn (tn (Q4 (st':=⟨Yr c_ q_ b62 [(22,.own 9 0 ((s278.1++[ix (rx b62 (ix q_.variables_ s278.2)) v283]).length)),(23,iV s278.2)],Y5 (Y8 b62 v268 [(9,rI (s278.1++[ix (rx b62 (ix q_.variables_ s278.2)) v283]))]),10⟩) (wkQ9 [(0,0),(1,1),(2,2),(3,3),(4,4),(5,5),(6,6),(7,7),(8,8),(14,9)]) (runQ hN fun K hK=>?_)));replace ⟨a286,h⟩:=Q0 h;simp [Qm a286];(repeat refine sdQ ?_);refine hK _ ?_;clear hK K;cases h;exact rn (s':=(s278.1++[ix (rx b62 (ix q_.variables_ s278.2)) v283],s278.2+1)) hk278 (wkI9 10)
  have g279:¬ (s278.2<(q_.variables_.length:Int)):=gQ;clear g;replace h:=if_r g279 h;refine Qp (tx (lx (bh ?_)));cases h;exact jn (b:=s278.1) hk278 (wkQ9 [(0,0),(2,1),(3,2),(4,3),(5,4),(6,5),(7,6),(8,7),(9,8)])
 intro b269 hb269;have h:=h269;try rw [← hb269] at h
 clear h269;try dsimp only at h
 refine Q1 (runQ hN fun K hK=>?_);simp;repeat with_reducible refine sdQ ?_
 replace ⟨v287,hv287,h⟩:=bind_some h;refine Q3 (Q9f _ v287 hv287) (.cons (.aggL (.cons .val (.cons .w (.cons .w (.cons .w (.cons .w (.cons .w (.cons .w .nil)))))))) .nil) ?_;simp;repeat refine sdQ ?_
 refine hK _ (tn (Q4 (st':=⟨[(4,.adr 0 0 0),(5,.own 7 0 b269.length),(6,.val (.bool (v287 == 0)))],[(0,.mix 7 [[iV v268.s.n,.own 1 0 v268.s.fr.length,.own 2 0 v268.s.to.length,.own 3 0 v268.s.id.length,.own 4 0 v268.s.cs.length,.own 5 0 v268.sz.length,.own 6 0 v268.ac.length]]),(1,rI v268.s.fr),(2,rI v268.s.to),(3,rI v268.s.id),(4,.row 1 (Ls v268.s.cs)),(5,rI v268.sz),(6,.row 1 (Ls v268.ac)),(7,rI b269)],8⟩) (wkQ9 [(0,0),(2,1),(3,2),(4,3),(5,4),(6,5),(7,6),(8,7)]) (Ql ?_)));clear hK K;have hr:=zC h;rw [← hr];refine ⟨_,(.cell tf_33 rfl rfl rfl (by simp) (by simp) (.tmp (.tmp .nil))),?_⟩;refine ⟨(.agg rfl (.one rfl rfl (.one rfl rfl .nil))),[iV v268.s.n,lI v268.s.fr,lI v268.s.to,lI v268.s.id,.lst true 1 (Ls v268.s.cs),lI v268.sz,.lst true 1 (Ls v268.ac),lI b269,.val (.bool (v287 == 0))],[1,2,3,4,5,6,7],by simp [Cat.cells,SF.cells,XQuery.cells,XTerm.cells,UA,U1,IA,I1,LA,L1,BA,B1,EA,E1,E2,eB,eI,eL,Q5 _ Q6 _ (fun _=>rfl),Q5 _ Qe _ (fun _=>rfl)],by simp,(UpL.refl _)⟩
section
attribute [local simp] Qh QF Qs QT QE
theorem nset_clsF {c:Cat} {q:XQuery} {R:Nat→Nat→Nat} {a:Nat} (hl:toN c a<c.id.length):(clsF c q R).set (toN c a) (cls (RR (newP c q R a)) (At c q (toN c a)).length)=clsF c q (updR c q R a):=by
 unfold clsF;rw [Q5H hl]
 congr 1
 funext y
 unfold updR
 by_cases e:y=toN c a
 ·subst e;simp
 simp [e]
theorem mvd_pos {c:Cat} {q:XQuery} {R:Nat→Nat→Nat} {a k:Nat} (h:¬ R (toN c a) (aN c q a (R (frN c a) k))=R (toN c a) (aN c q a k)):mvd c q R a (k+1)=mvd c q R a k++[[(aN c q a (R (frN c a) k):Int),(aN c q a k:Int)]]:=by simp [mvd,zK,zM,h]
theorem mvd_neg {c:Cat} {q:XQuery} {R:Nat→Nat→Nat} {a k:Nat} (h:R (toN c a) (aN c q a (R (frN c a) k))=R (toN c a) (aN c q a k)):mvd c q R a (k+1)=mvd c q R a k:=by simp [mvd,zK,zM,h]
theorem mvd_len (c:Cat) (q:XQuery) (R:Nat→Nat→Nat) (a k:Nat):(mvd c q R a k).length≤k:=by
 have:=List.length_filter_le (fun e=>decide (¬ R (toN c a) (aN c q a (R (frN c a) e))=R (toN c a) (aN c q a e))) (List.range k);simpa [mvd] using this
theorem acc_Q {α ε β:Type} {body:α × Int→Option (Ctl (α × Int) ε)} {K:ε→Option β} {Q:Option β→Prop} {a0:α} (n:Nat) (g:Nat→α) {e:ε} (h0:a0=g 0) (hn:n<4611686018427387904) (h:∀ i:Nat,i<n→body (g i,(i:Int))=some (.next (g (i+1),(i:Int)+1))) (he:body (g n,(n:Int))=some (.ret e)) (hk:Q (K e)):Q ((QA body fuel (a0,0)).bind K):=by
 rw [Q5z g n h0 hn h he];exact hk
set_option maxHeartbeats 8000000 in
theorem e_canonS {c:Cat} {q:XQuery} (hc:c.Is) (hq:QIs c q):∃ R,GI c q R∧(∀ a,a<c.fr.length→Clo c q R a)∧Q1y c q=some (quoF (QM c q.variables_) (clsF c q R),genQ c q R,mad (quoZ (clsF c q R) (clsF c q R).length) == 0):=by
 have hn:=hc.nums;have hv:=hq.v.len;have nl:=hq.nl;have lr:=hq.lr;have zl:(QM c q.variables_).sz.length=c.id.length:=by simp [QM]
 have al:(QM c q.variables_).ac.length=c.fr.length:=by simp [QM]
 have zx:∀ y:Nat,y<c.id.length→ix (QM c q.variables_).sz y=((At c q y).length:Int):=fun y hy=>Q4k _ _ hy;have lc:∀ R,(clsF c q R).length=c.id.length:=fun R=>by simp [clsF]
 unfold Q1y;rw [e_l19Free hc hq.v];simp only [zF];refine acc_Q (Q:=fun o=>∃ R,GI c q R∧(∀ a,a<c.fr.length→Clo c q R a)∧o=some (quoF (QM c q.variables_) (clsF c q R),genQ c q R,mad (quoZ (clsF c q R) (clsF c q R).length) == 0)) c.id.length (fun k=>tab k fun y=>cls (R0 c q y) (At c q y).length) (e:=clsF c q (R0 c q)) rfl (by omega) (fun y hy=>?_) (by simp only;rw [if_neg (by omega)];rfl) ?_
 ·have aL:=Q5L hc hq y;have bl:=BP_len c q y q.left_.length;simp only;rw [if_pos (by omega)];refine QN q.left_.length (fun i=>BP c q y i) (e:=BP c q y q.left_.length) (by simp [BP]) (by omega) (fun i hi=>?_) (by simp only;rw [if_neg (by omega)]) ?_
  ·obtain ⟨m1,m2,m3⟩:=mem_Al.1 (hq.l hi);obtain ⟨f1,f2,f3,f4⟩:=Q1o hc m2;have bl:=BP_len c q y i;simp only [hq.xl hi,hq.xr hi];have hv0:(tX (lQ q i)).arrow_=((lQ q i).2:Int):=rfl;rw [if_pos (by omega),Q2 (by omega),hv0,Q2 (by omega),f3]
   by_cases k:toN c (lQ q i).2=y
   ·rw [if_pos (by omega),Q2 (by omega),Q8x hc hq (hq.l hi)];simp only [zF];rw [Q2 (by omega),Q8x hc hq (hq.r hi)];simp only [zF];rw [← hq.ct i hi,k,Q2 (by simp;omega)];simp only [zF];rw [Q2 (by unfold B64;omega),BP_pos k]
   rw [if_neg (by omega)];simp only [zF];rw [Q2 (by unfold B64;omega),BP_neg k]
  rw [Q2 (by omega),zx y hy,e_joinG (Q9j hq y) (by omega) (by omega)];simp only [zF];rw [Q2 (by simp;omega),Q2 (by unfold B64;omega),Q1U];rfl
 refine Q1p (σ:=List (List Int) × Bool) (Q:=fun o=>∃ R,GI c q R∧(∀ a,a<c.fr.length→Clo c q R a)∧o=some (quoF (QM c q.variables_) (clsF c q R),genQ c q R,mad (quoZ (clsF c q R) (clsF c q R).length) == 0)) 2001
  (fun i s=>∃ R,GI c q R∧s.1=clsF c q R∧((s.2=true∧smR c q R c.id.length+i≤2000)∨(s.2=false∧∀ a,a<c.fr.length→Clo c q R a)))
  (fun e=>∃ R,GI c q R∧e=clsF c q R∧∀ a,a<c.fr.length→Clo c q R a) (by omega) ⟨R0 c q,GI0 hc hq,rfl,.inl ⟨rfl,by have:=smR_bnd hc hq (R0 c q) c.id.length;omega⟩⟩ ?_ ?_ ?_
 ·rintro i ⟨L,more⟩ hi ⟨R,hR,e1,h2⟩
  simp only at e1 h2;subst e1;rcases h2 with ⟨rfl,hm⟩|⟨rfl,hk⟩
  ·left;simp only [if_true];refine Q1p (σ:=List (List Int) × Bool × Int) (Q:=fun o=>∃ s':List (List Int) × Bool,o=some (Ctl.next s')∧∃ R,GI c q R∧s'.1=clsF c q R∧((s'.2=true∧smR c q R c.id.length+(i+1)≤2000)∨(s'.2=false∧∀ a,a<c.fr.length→Clo c q R a))) c.fr.length
    (fun a s=>s.2.2=(a:Int)∧∃ R',GI c q R'∧s.1=clsF c q R'∧((s.2.1=true∧smR c q R' c.id.length<smR c q R c.id.length)∨(s.2.1=false∧R'=R∧∀ b,b<a→Clo c q R b)))
    (fun e=>∃ R',GI c q R'∧e.1=clsF c q R'∧((e.2=true∧smR c q R' c.id.length<smR c q R c.id.length)∨(e.2=false∧R'=R∧∀ b,b<c.fr.length→Clo c q R b))) (by omega) ⟨rfl,R,hR,rfl,.inr ⟨rfl,rfl,fun b hb=>by omega⟩⟩ ?_ ?_ ?_
   ·rintro a ⟨L,more,a'⟩ ha ⟨ea,R',hR',eL,h3⟩
    simp only at ea eL h3;subst ea;subst eL;left;obtain ⟨f1,f2,f3,f4⟩:=Q1o hc ha;obtain ⟨g1,g2⟩:=Q8D (q:=q) ha;have hrx:=Q2x (q:=q) (R:=R') f2;have hry:=Q2x (q:=q) (R:=R') f4;have aLx:=Q5L hc hq (frN c a);have aLy:=Q5L hc hq (toN c a);have lcR:=lc R';have hl1:=Q2H (R' (frN c a)) (At c q (frN c a)).length;have hl2:=Q2H (R' (toN c a)) (At c q (toN c a)).length;have hmv:mvd c q R' a 0=[]:=(by simp [mvd]);simp only [f1,f3,hrx,hry];rw [if_pos (by omega),Q2 (by omega),Q2 (by omega),Option.bind_assoc];refine acc_Q (Q:=fun o=>∃ s':List (List Int) × Bool × Int,o=some (Ctl.next s')∧s'.2.2=((a+1:Nat):Int)∧∃ R'',GI c q R''∧s'.1=clsF c q R''∧((s'.2.1=true∧smR c q R'' c.id.length<smR c q R c.id.length)∨(s'.2.1=false∧R''=R∧∀ b,b<a+1→Clo c q R b))) (At c q (frN c a)).length (fun k=>mvd c q R' a k) (e:=mvd c q R' a (At c q (frN c a)).length) hmv.symm (by omega) (fun k hk=>?_) (by simp only;rw [Q2 (by omega),if_neg (by omega)]) ?_
    ·have rk:=hR'.rp _ f2 k hk;have a1:=Q6r hc ha (q:=q) (e:=R' (frN c a) k) (by omega);have a2:=Q6r hc ha (q:=q) hk;have ml:=mvd_len c q R' a k;simp only;rw [Q2 (by omega),if_pos (by omega),Q2 (by omega),Q2 (by omega),Q2 (by omega),e_idxQ (by omega),cls_idx (hR'.rp _ f2) hk];simp only [zF];rw [Q2 (by omega),Q2 (by omega),Q2 (by omega),Q2 (by omega),Q2 (by omega),g2 _ hk,g2 (R' (frN c a) k) (by omega),Q2 (by omega),Q2 (by omega),Q2 (by omega)]
     by_cases z:R' (toN c a) (aN c q a (R' (frN c a) k))=R' (toN c a) (aN c q a k)
     ·rw [if_neg (fun w=>w ((Q73 (hR'.rp _ f4) a1.1 a2.1).2 z))];simp only [zF];rw [Q2 (by unfold B64;omega),mvd_neg z]
     rw [if_pos (fun w=>z ((Q73 (hR'.rp _ f4) a1.1 a2.1).1 w)),Q2 (by simp;omega)];simp only [zF];rw [Q2 (by unfold B64;omega),mvd_pos z]
    have ml:=mvd_len c q R' a (At c q (frN c a)).length
    by_cases z:mvd c q R' a (At c q (frN c a)).length=[]
    ·rw [z];simp only [zB];rw [if_neg (by omega)];simp only [zF];rw [Q2 (by unfold B64;omega)];refine ⟨_,rfl,by push_cast;rfl,R',hR',rfl,?_⟩;rcases h3 with ⟨h4,h5⟩|⟨h4,h5,h6⟩
     ·exact .inl ⟨h4,h5⟩
     refine .inr ⟨h4,h5,fun b hb=>?_⟩
     by_cases w:b=a
     ·subst w;rw [← h5];exact clo_nil z
     exact h6 b (by omega)
    have hpos:0<(mvd c q R' a (At c q (frN c a)).length).length:=List.length_pos_iff.2 z;rw [if_pos (by omega),Q2 (by omega),Q2 (by omega),e_pairsQ (hR'.rp _ f4) (by omega)];simp only [zF];rw [Q2 (by simp;omega),zx _ f4];have hj:=e_joinG (Q5D hc hR' ha) (by omega) (by unfold newP;simp;omega);unfold newP at hj;rw [hj];simp only [zF,Int.toNat_natCast];rw [Q2 (by omega)];simp only [zF];rw [Q2 (by unfold B64;omega)];have hs:=nset_clsF (q:=q) (R:=R') f4;unfold newP at hs;rw [hs];have um:=up_meas hc hR' ha z;refine ⟨_,rfl,by push_cast;rfl,updR c q R' a,hR'.up hc hq ha,rfl,.inl ⟨rfl,?_⟩⟩;rcases h3 with ⟨h4,h5⟩|⟨h4,h5,h6⟩
    ·omega
    rw [h5] at um ⊢;exact um
   ·rintro ⟨L,more,a'⟩ ⟨ea,R',hR',eL,h3⟩
    simp only at ea eL h3;subst ea;subst eL;simp only;rw [if_neg (by omega)];exact ⟨_,rfl,R',hR',rfl,h3⟩
   rintro ⟨L,more⟩ ⟨R',hR',eL,h3⟩
   simp only at eL h3;subst eL;refine ⟨_,rfl,R',hR',rfl,?_⟩;rcases h3 with ⟨h4,h5⟩|⟨h4,h5,h6⟩
   ·exact .inl ⟨h4,by omega⟩
   exact .inr ⟨h4,by rw [h5];exact h6⟩
  right;simp only [Bool.false_eq_true,if_false];exact ⟨_,rfl,R,hR,rfl,hk⟩
 ·rintro ⟨L,more⟩ ⟨R,hR,e1,h2⟩
  simp only at e1 h2;subst e1;rcases h2 with ⟨rfl,hm⟩|⟨rfl,hk⟩
  ·omega
  simp only [Bool.false_eq_true,if_false];exact ⟨_,rfl,R,hR,rfl,hk⟩
 rintro L ⟨R,hR,rfl,hk⟩
 refine ⟨R,hR,hk,?_⟩;rw [e_quotW (quoW_cls hc hq hR)];simp only [zF];have lcR:=lc R;refine tabg q.variables_.length (fun i=>ix (cls (R (VN q.variables_ i)) (At c q (VN q.variables_ i)).length) (plc (At c q (VN q.variables_ i)) (i,idn c (VN q.variables_ i)))) (e:=genQ c q R) (by omega) (fun i hi=>?_) (by simp only;rw [if_neg (by omega)];rfl) ?_
 ·obtain ⟨v1,v2⟩:=hq.v.at' i hi;obtain ⟨i1,i2,i3,i4⟩:=Q7Q hc v2;obtain ⟨m1,m2⟩:=gen_mem hc hq hi;have hp:=Q8x hc hq m1;have hlt:=(Q4D m1).1;rw [m2] at hp hlt;have hx:(⟨(i:Int),(idn c (VN q.variables_ i):Int)⟩:XTerm)=tX (i,idn c (VN q.variables_ i)):=rfl;simp only [v1,i1,Q2x v2,hx];rw [if_pos (by omega),Q2 (by omega),Q2 (by omega),Q2 (by omega),hp];simp only [zF];rw [Q2 (by rw [Q2H];omega)]
 rw [e_l21Made (by simp [quoF,quoZ];omega)];rfl
end
attribute [local simp] unk unA unE unT unC flat eL eI Qf Q28 Cat.cells
noncomputable def Q11 (c_:Cat) (x_:Int):Option (List Int) :=
 (QA (σ:=List Int × Int) (ε:=List Int) (fun s8 =>
  if s8.2<(c_.fr.length:Int) then
   (
    ass (0≤s8.2∧s8.2<(c_.fr.length:Int)) <|
    if (ix c_.fr s8.2)=x_ then
     ass ((s8.1++[s8.2]).length≤1073741824) <|
     some (s8.1++[s8.2])
    else
     some s8.1:Option (List Int)).bind fun b10 =>
   ass (B64 (s8.2+1)) <|
   some (Ctl.next (b10,s8.2+1))
  else
   some (Ctl.ret s8.1)) fuel ([],0)).bind fun b1 =>
 some b1
@[simp] abbrev Y07 (a:Cat) (b:List (Nat × AV)):List (Nat × AV):=(0,.rptr (Cat.cells true a))::b
@[simp] abbrev Y0b (a:Cat) (b:List (Nat × AV)):List (Nat × AV):=(12,lI a.fr)::(13,iV (a.fr.length:Int))::b
theorem Q33 (c_:Cat) (x_:Int) (r:List Int) (h:Q11 c_ x_=some r):Contract Try.prog 72 [.rptr (c_.cells true),iV x_] (lI r):=by
 refine Qd (rvs:=[.tmp 4]) (rs:=[lI r]) Try.func72 rfl rfl rfl rfl (by simp [Try.f72]) fun F hN hP=>?_;unfold Q11 at h;refine Q1 (runQ hN fun K hK=>?_);simp;repeat refine sdQ ?_
 refine hK _ ?_;clear hK K;refine tn (Q4 (st':=⟨Y07 c_ [(1,iV x_)],[],0⟩) (wkQ9 []) (Q1 (runQ hN fun K hK=>?_)));simp;repeat refine sdQ ?_
 refine hK _ ?_;clear hK K;refine tn (Q4 (st':=⟨Y07 c_ [(1,iV x_),(5,.own 0 0 0)],[(0,.mix 1 [])],1⟩) (wkQ9 [(0,0)]) (Q1 (Q1 (runQ hN fun K hK=>?_))));simp;repeat refine sdQ ?_
 refine hK _ (tn (Q4 (st':=⟨(1,iV x_)::(5,.own 0 0 0)::Y0b c_ [(14,iV 0)],[(0,.mix 1 [])],1⟩) (wkQ9 [(0,0)]) ?_));clear hK K;replace ⟨e1,h,h1⟩:=bind_some h;refine Qk (fun b1:List Int=>⟨[(5,.own 0 0 b1.length)],[(0,rI b1)],1⟩) (fun b1=>b1=e1) ?_ ?_
 ·refine Q7 (Qu h (fun s8:List Int × Int=>⟨(1,iV x_)::(5,.own 0 0 s8.1.length)::Y0b c_ [(14,iV s8.2)],[(0,rI s8.1)],1⟩) (Q2V ⟨(1,iV x_)::(5,.own 0 0 0)::Y0b c_ [(14,iV 0)],[(0,rI [])],1⟩ (Wk.nils [] (by simp) (by simp) (by simp [nlA]) (by simp [entN,nlL,nlA,Cat.cells,UA,U1,IA,I1,LA,L1,BA,B1,EA,E1,E2,eB,eI,eL]) (by simp)) (wkQ9 [(0,0)])) ?_);clear h;intro k8 s8 c8 h hk8;refine Q1 (runQ hN fun K hK=>?_);simp;repeat refine sdQ ?_
  refine hK _ ?_;clear hK K;refine tn (Q1 (Qa rfl (fun g=>?_) fun g=>?_))
  ·have g9:s8.2<(c_.fr.length:Int):=gQ;clear g;replace h:=if_l g9 h;refine Qc (tn (Q1 ?_));replace ⟨e10,h,h10⟩:=bind_some h;refine Qk (fun b10:List Int=>⟨(1,iV x_)::(5,.own 0 0 b10.length)::Y0b c_ [(14,iV s8.2)],[(0,rI b10)],1⟩) (fun b10=>b10=e10) ?_ ?_
   ·refine Q7 (Q1 (runQ hN fun K hK=>?_));replace ⟨a11,h⟩:=Q0 h;simp [at_I a11];(repeat refine sdQ ?_);refine hK _ ?_;clear hK K;refine tn (Q4 (st':=⟨(1,iV x_)::(5,.own 0 0 s8.1.length)::(6,iV s8.2)::(7,iV (ix c_.fr s8.2))::Y0b c_ [(14,iV s8.2)],[(0,rI s8.1)],1⟩) (wkQ9 [(0,0)]) (Q1 (runQ hN fun K hK=>?_)));simp;(repeat refine sdQ ?_);refine hK _ ?_;clear hK K;refine tn (Qa rfl (fun g=>?_) fun g=>?_)
    ·have g12:(ix c_.fr s8.2)=x_:=gQ;clear g;replace h:=if_l g12 h;refine runQ hN fun K hK=>?_;replace ⟨a13,h⟩:=Q0 h;(try simp only [qE,qG,zB] at a13);simp [a13];(repeat refine sdQ ?_);refine hK _ (bn ?_);clear hK K;exact jn (b:=s8.1++[s8.2]) (zC h) (wkQ9 [(2,0)])
    have g12:¬ ((ix c_.fr s8.2)=x_):=gQ;clear g;replace h:=if_r g12 h;refine Qc (bn ?_);exact jn (b:=s8.1) (zC h) (wkQ9 [(0,0)])
   intro b10 hb10;have h:=h10;(try rw [← hb10] at h);clear h10;(try dsimp only at h);refine runQ hN fun K hK=>?_;replace ⟨a14,h⟩:=Q0 h;simp [Qm a14];(repeat refine sdQ ?_);refine hK _ ?_;clear hK K;cases h;exact rn (s':=(b10,s8.2+1)) hk8 (wkQ9 [(0,0)])
  have g9:¬ (s8.2<(c_.fr.length:Int)):=gQ;clear g;replace h:=if_r g9 h;refine Qp (tx (lx (bh ?_)));cases h;exact jn (b:=s8.1) hk8 (wkQ9 [(0,0)])
 intro b1 hb1;have h:=h1;try rw [← hb1] at h
 clear h1;try dsimp only at h
 refine Q1 (runQ hN fun K hK=>?_);simp;repeat refine sdQ ?_
 refine hK _ (tn (Q4 (st':=⟨[(4,.own 0 0 b1.length)],[(0,rI b1)],1⟩) (wkQ9 [(0,0)]) (Ql ?_)));clear hK K;have hr:=zC h;rw [← hr];refine ⟨_,(.tmp .nil),?_⟩;refine ⟨(.one rfl rfl .nil),[lI b1],[0],by simp [Cat.cells,UA,U1,IA,I1,LA,L1,BA,B1,EA,E1,E2,eB,eI,eL],by simp,(UpL.refl _)⟩
attribute [local simp] unk unA unE unT unC flat eL eI Qf Qg XPairint64.cells
noncomputable def Qv (p0_:List XPairint64):Option (List (XPairint64 × Int)) :=
 (QA (σ:=(List (XPairint64 × Int)) × Int) (ε:=List (XPairint64 × Int)) (fun s6 =>
  if s6.2<(p0_.length:Int) then
   ass (0≤s6.2∧s6.2<(p0_.length:Int)) <|
   ass (s6.1.length<1099511627776) <|
   ass (B64 (s6.2+1)) <|
   some (Ctl.next (tset (gx p0_ s6.2) s6.2 s6.1,s6.2+1))
  else
   some (Ctl.ret s6.1)) fuel ([],0)).bind fun b1 =>
 some b1
@[simp] abbrev YW (a:List XPairint64) (b:List (Nat × AV)):List (Nat × AV):=(7,.lst true 2 (Es (XPairint64.cells true) a))::(8,iV (a.length:Int))::b
theorem Q1m (p0_:List XPairint64) (r:List (XPairint64 × Int)) (h:Qv p0_=some r):FContract Try.prog false 73 [.lst true 2 (Es (XPairint64.cells true) p0_)] (.cmap (.st 2) (Qi r)):=by
 refine Q5R false (ts:=[2]) (rs:=[.cmap (.st 2) (Qi r)]) Try.func73 rfl rfl rfl rfl (by simp [Try.f73]) fun F hN hP=>?_;unfold Qv at h;refine Q1 (Qn [] mo (by rw [hN];decide) fun K hK=>?_);simp;repeat refine sdQ ?_
 refine hK _ ?_;clear hK K;refine tn (Q4 (st':=⟨[(0,.lst true 2 (Es (XPairint64.cells true) p0_))],[],0⟩) (wkQ9 []) (Q1 (Qn [] mo (by rw [hN];decide) fun K hK=>?_)));simp;repeat refine sdQ ?_
 refine hK _ ?_;clear hK K;refine tn (Q4 (st':=⟨[(0,.lst true 2 (Es (XPairint64.cells true) p0_)),(3,.mp 0)],[(0,.mapE (.st 2) (Qi []))],1⟩) (wkQ9 [(0,0)]) (Q1 (Q1 (Qn [] mo (by rw [hN];decide) fun K hK=>?_))));simp;repeat refine sdQ ?_
 refine hK _ (tn (Q4 (st':=⟨(3,.mp 0)::YW p0_ [(9,iV 0)],[(0,.mapE (.st 2) (Qi []))],1⟩) (wkQ9 [(0,0)]) ?_));clear hK K;replace ⟨e1,h,h1⟩:=bind_some h;refine Qk (fun b1:List (XPairint64 × Int)=>⟨[(3,.mp 0)],[(0,.mapE (.st 2) (Qi b1))],1⟩) (fun b1=>b1=e1) ?_ ?_
 ·refine Q7 (Qu h (fun s6:(List (XPairint64 × Int)) × Int=>⟨(3,.mp 0)::YW p0_ [(9,iV s6.2)],[(0,.mapE (.st 2) (Qi s6.1))],1⟩) (wkQ9 [(0,0)]) ?_);clear h;intro k6 s6 c6 h hk6;refine Q1 (Qn [] mo (by rw [hN];decide) fun K hK=>?_);simp;repeat refine sdQ ?_
  refine hK _ ?_;clear hK K;refine tn (Q1 (Qa rfl (fun g=>?_) fun g=>?_))
  ·have g7:s6.2<(p0_.length:Int):=gQ;clear g;replace h:=if_l g7 h;refine Qc (tn (Q1 (Q7 (Q1 (Qn [] mo (by rw [hN];decide) fun K hK=>?_)))));replace ⟨a8,h⟩:=Q0 h;simp [at_E (c:=(XPairint64.cells true)) a8];(repeat refine sdQ ?_);refine hK _ ?_;clear hK K;refine tn (Q4 (st':=⟨(3,.mp 0)::(4,iV s6.2)::(5,.adr 1 0 0)::YW p0_ [(9,iV s6.2)],[(0,.mapE (.st 2) (Qi s6.1)),(1,.mix 2 [(XPairint64.cells true (gx p0_ s6.2))])],2⟩) (wkQ9 [(0,0),(1,1)]) (Qn [] mo (by rw [hN];decide) fun K hK=>?_));replace ⟨a9,h⟩:=Q0 h;simp [a9];(repeat refine sdQ ?_);refine hK _ ?_;clear hK K;refine bn (tn (Q4 (st':=⟨(3,.mp 0)::YW p0_ [(9,iV s6.2)],[(0,.mapE (.st 2) (Qi (tset (gx p0_ s6.2) s6.2 s6.1)))],1⟩) (wkQ9 [(0,0)]) (Qn [] mo (by rw [hN];decide) fun K hK=>?_)));replace ⟨a10,h⟩:=Q0 h;simp [Qm a10];(repeat refine sdQ ?_);refine hK _ ?_;clear hK K;cases h;exact rn (s':=(tset (gx p0_ s6.2) s6.2 s6.1,s6.2+1)) hk6 (wkQ9 [(0,0)])
  have g7:¬ (s6.2<(p0_.length:Int)):=gQ;clear g;replace h:=if_r g7 h;refine Qp (tx (lx (bh ?_)));cases h;exact jn (b:=s6.1) hk6 (wkQ9 [(0,0)])
 intro b1 hb1;have h:=h1;try rw [← hb1] at h
 clear h1;try dsimp only at h
 refine Q1 (Qn [] mo (by rw [hN];decide) fun K hK=>?_);simp;repeat refine sdQ ?_
 refine hK _ (tn (Q4 (st':=⟨[(2,.mp 0)],[(0,.mapE (.st 2) (Qi b1))],1⟩) (wkQ9 [(0,0)]) (Ql ?_)));clear hK K;have hr:=zC h;rw [← hr];exact (.one (by simp [ownB]) (.mp rfl) .nil)
section
attribute [local simp] Qh QF Qs QT QE
def pX (p:Nat × Nat):XPairint64:=⟨(p.1:Int),(p.2:Int)⟩
theorem pX_inj {p q:Nat × Nat} (h:pX p=pX q):p=q:=by
 simp only [pX,XPairint64.mk.injEq] at h;exact Prod.ext (by omega) (by omega)
theorem e_outQ {c:Cat} (hc:c.Is) (x:Nat):Q11 c x=some ((rowE c x).map Int.ofNat):=by
 have hn:=hc.nums;unfold Q11;refine QN c.fr.length (fun j=>((List.range j).filter fun h=>decide (frN c h=x)).map Int.ofNat) (e:=(rowE c x).map Int.ofNat) (by simp) (by omega) (fun j hj=>?_) (by simp only;rw [if_neg (by omega)];rfl) rfl;obtain ⟨f1,f2,f3,f4⟩:=Q1o hc hj;have h4:=List.length_filter_le (fun h=>decide (frN c h=x)) (List.range j);simp only [List.length_range] at h4;simp only [zK,zM,List.filter_cons,List.filter_nil];rw [if_pos (by omega),Q2 (by omega),f1]
 by_cases q1:frN c j=x
 ·have q1':(frN c j:Int)=x:=by omega
  rw [if_pos q1',Q2 (by simp only [qE,List.length_map,List.length_singleton];omega)];simp only [zF];rw [Q2 (by unfold B64;omega)];simp [q1]
 have q1':¬ (frN c j:Int)=x:=by omega
 rw [if_neg q1'];simp only [zF];rw [Q2 (by unfold B64;omega)];simp [q1]
theorem e_numbP {L:List XPairint64} (hl:L.length≤1000000):Qv L=some (plM (fun i:Nat=>gx L i) L.length):=by
 unfold Qv;refine QN L.length (fun i=>plM (fun i:Nat=>gx L i) i) (e:=plM (fun i:Nat=>gx L i) L.length) rfl (by omega) (fun i hi=>?_) (by simp only;rw [if_neg (by omega)]) rfl;have:=plM_len (fun i:Nat=>gx L i) i;simp only;rw [if_pos (by omega),Q2 (by omega),Q2 (by omega),Q2 (by unfold B64;omega)];rfl
theorem Q4Y {L:List (Nat × Nat)} {i:Nat} (h:i<L.length):gx (L.map pX) i=pX L[i]:=by simp [gx,List.getD_eq_getElem?_getD,h]
theorem find_P {L:List (Nat × Nat)} (hn:L.Nodup) {p:Nat × Nat} (h:p∈L):QV (pX p) (plM (fun i:Nat=>gx (L.map pX) i) (L.map pX).length)=some (plc L p:Int):=by
 have hl:=Q3W h;have inj:∀ a b,a<(L.map pX).length→b<(L.map pX).length→gx (L.map pX) a=gx (L.map pX) b→a=b:=by
  intro a b ha hb e;simp only [List.length_map] at ha hb;rw [Q4Y ha,Q4Y hb] at e;have e2:=pX_inj e;have h1:=Q8a hn ha;have h2:=Q8a hn hb;rw [e2] at h1;omega
 have r:=plM_find (k:=fun i:Nat=>gx (L.map pX) i) (n:=(L.map pX).length) (fun a b ha hb e=>inj a b ha hb e) (j:=plc L p) (by simpa using hl);rw [Q4Y hl,Q9Y h] at r;exact r
theorem Al_len {c:Cat} {q:XQuery} (hc:c.Is) (hq:QIs c q):(Al c q).length≤160:=by
 have h1:=Q3l hc q.variables_ q.variables_.length;have h3:=hq.v.len;unfold Al;omega
noncomputable def jP (c:Cat) (q:XQuery) (i k:Nat):List Int:=[(plc (Al c q) (thn c (lQ q i) k):Int),(plc (Al c q) (thn c (rQ q i) k):Int)]
noncomputable def JL (c:Cat) (q:XQuery):Nat→List (List Int)
 | 0=>[]
 | i+1=>JL c q i++(rowE c (toN c (lQ q i).2)).map (jP c q i)
theorem mem_JL {c:Cat} {q:XQuery} {p:List Int}:∀ {n:Nat},p∈JL c q n↔∃ i k,i<n∧(k<c.fr.length∧frN c k=toN c (lQ q i).2)∧p=jP c q i k
 | 0=>by simp [JL]
 | n+1=>by
  rw [JL,List.mem_append,mem_JL (n:=n),List.mem_map];constructor
  ·rintro (⟨i,k,h1,h2,h3⟩|⟨k,h1,h2⟩)
   ·exact ⟨i,k,by omega,h2,h3⟩
   exact ⟨n,k,by omega,mem_rowE.1 h1,h2.symm⟩
  rintro ⟨i,k,h1,h2,h3⟩
  by_cases e:i=n
  ·subst e;exact .inr ⟨k,mem_rowE.2 h2,h3.symm⟩
  exact .inl ⟨i,k,by omega,h2,h3⟩
theorem jP_at {c:Cat} {q:XQuery} (hc:c.Is) (hq:QIs c q) {i k:Nat} (hi:i<q.left_.length) (hk:k<c.fr.length) (e:frN c k=toN c (lQ q i).2):thn c (lQ q i) k∈Al c q∧thn c (rQ q i) k∈Al c q :=
 ⟨(Q3E hc (hq.l hi) hk e.symm).1,(Q3E hc (hq.r hi) hk (by rw [← hq.ct i hi];exact e.symm)).1⟩
theorem JL_prs {c:Cat} {q:XQuery} (hc:c.Is) (hq:QIs c q) {n:Nat} (hn:n≤q.left_.length):Prs (Al c q).length (JL c q n):=by
 intro p hp;obtain ⟨i,k,h1,⟨h2,h3⟩,rfl⟩:=mem_JL.1 hp;have g:=jP_at hc hq (by omega) h2 h3;exact ⟨_,_,Q3W g.1,Q3W g.2,rfl⟩
noncomputable def JJ (c:Cat) (q:XQuery):Nat→Nat:=RR (JL c q q.left_.length)
noncomputable def aE (c:Cat) (q:XQuery) (i:Nat):Nat × Nat:=(Al c q).getD i (0,0)
theorem Q9Q (c:Cat) (q:XQuery):(Al c q).Nodup:=Q52 _ _ _
theorem Q9k {c:Cat} {q:XQuery} {p:Nat × Nat} (h:p∈Al c q):aE c q (plc (Al c q) p)=p:=by
 have hl:=Q3W h;simp [aE,List.getD_eq_getElem?_getD,hl,Q9Y h]
theorem JJ_iff {c:Cat} {q:XQuery} (hc:c.Is) (hq:QIs c q) {p p':Nat × Nat} (hp:p∈Al c q) (hp':p'∈Al c q):JJ c q (plc (Al c q) p)=JJ c q (plc (Al c q) p')↔CG c q p p':=by
 unfold JJ;rw [Q6y (JL_prs hc hq (Nat.le_refl _))];constructor
 ·intro k;have both:∀ {x y:Nat},Con (JL c q q.left_.length) x y→CG c q (aE c q x) (aE c q y):=by
   intro x y k
   induction k with
   | @pr u v hm =>
    obtain ⟨i,j,h1,⟨h2,h3⟩,e⟩:=mem_JL.1 hm;have g:=jP_at hc hq h1 h2 h3;simp only [jP,List.cons.injEq,and_true] at e;have e1:u=plc (Al c q) (thn c (lQ q i) j):=(by omega);have e2:v=plc (Al c q) (thn c (rQ q i) j):=(by omega);subst e1;subst e2;rw [Q9k g.1,Q9k g.2];exact .gen h1 h2 h3.symm
   | refl a=>exact .refl _
   | symm _ ih=>exact ih.symm
   | trans _ _ i1 i2=>exact i1.trans i2
  have:=both k
  rwa [Q9k hp,Q9k hp'] at this
 intro k;clear hp'
 induction k with
 | @gen i j hi hj e =>
  exact .pr (mem_JL.2 ⟨i,j,hi,⟨hj,e.symm⟩,rfl⟩)
 | refl p=>exact .refl _
 | symm hh ih=>exact (ih ((hh.mem hc hq).1.2 hp)).symm
 | trans h1 h2 i1 i2=>exact (i1 hp).trans (i2 ((h1.mem hc hq).1.1 hp))
theorem RR_jP {c:Cat} {q:XQuery} {P:List (List Int)} {i k:Nat}:RR (P++[jP c q i k])=jnr (RR P) (plc (Al c q) (thn c (lQ q i) k)) (plc (Al c q) (thn c (rQ q i) k)):=by
 rw [RR_snoc];rfl
end
attribute [local simp] unk unA unE unT unC flat eL eI Qf
noncomputable def Q3x (sizes_:List Int):Option Bool :=
 (Q2c sizes_ 17).bind fun v1 =>
 some v1
theorem Q97 (sizes_:List Int) (r:Bool) (h:Q3x sizes_=some r):Contract Try.prog 81 [lI sizes_] (.val (.bool r)):=by
 refine Qd (rvs:=[.tmp 2]) (rs:=[.val (.bool r)]) Try.func81 rfl rfl rfl rfl (by simp [Try.f81]) fun F hN hP=>?_;unfold Q3x at h;refine Q1 (runQ hN fun K hK=>?_);simp;repeat refine sdQ ?_
 refine hK _ ?_;clear hK K;refine tn (Q4 (st':=⟨[(0,lI sizes_)],[],0⟩) (wkQ9 []) (Q1 (runQ hN fun K hK=>?_)));simp;repeat with_reducible refine sdQ ?_
 replace ⟨v1,hv1,h⟩:=bind_some h;refine Q3 (Q59 _ _ v1 hv1) (.cons .lst (.cons .val .nil)) ?_;simp;repeat refine sdQ ?_
 refine hK _ (tn (Q4 (st':=⟨[(2,.val (.bool v1))],[],0⟩) (wkQ9 []) (Ql ?_)));clear hK K;have hr:=zC h;rw [← hr];refine ⟨_,(.tmp .nil),?_⟩;refine ⟨(.one rfl rfl .nil),[.val (.bool v1)],[],by simp [UA,U1,IA,I1,LA,L1,BA,B1,EA,E1,E2,eB,eI,eL],by simp,(UpL.refl _)⟩
attribute [local simp] unk unA unE unT unC flat eL eI Qf
noncomputable def Q30 (n_:Int):Option (List Int) :=
 (Q2O n_).bind fun v1 =>
 some v1
theorem Q8k (n_:Int) (r:List Int) (h:Q30 n_=some r):Contract Try.prog 74 [iV n_] (lI r):=by
 refine Qd (rvs:=[.tmp 2]) (rs:=[lI r]) Try.func74 rfl rfl rfl rfl (by simp [Try.f74]) fun F hN hP=>?_;unfold Q30 at h;refine Q1 (runQ hN fun K hK=>?_);simp;repeat refine sdQ ?_
 refine hK _ ?_;clear hK K;refine tn (Q4 (st':=⟨[(0,iV n_)],[],0⟩) (wkQ9 []) (Q1 (runQ hN fun K hK=>?_)));simp;repeat with_reducible refine sdQ ?_
 replace ⟨v1,hv1,h⟩:=bind_some h;refine Q3 (Q98 _ v1 hv1) (.cons .val .nil) ?_;simp;repeat refine sdQ ?_
 refine hK _ (tn (Q4 (st':=⟨[(2,.own 0 0 v1.length)],[(0,rI v1)],1⟩) (wkQ9 [(0,0)]) (Ql ?_)));clear hK K;have hr:=zC h;rw [← hr];refine ⟨_,(.tmp .nil),?_⟩;refine ⟨(.one rfl rfl .nil),[lI v1],[0],by simp [UA,U1,IA,I1,LA,L1,BA,B1,EA,E1,E2,eB,eI,eL],by simp,(UpL.refl _)⟩
attribute [local simp] unk unA unE unT unC flat eL eI Qf
noncomputable def Q10 (p_:List Int):Option Int :=
 (QA (σ:=Int × Int) (ε:=Int) (fun s6 =>
  if s6.2<(p_.length:Int) then
   ass (0≤s6.2∧s6.2<(p_.length:Int)) <|
   ass (B64 ((ix p_ s6.2)+1)) <|
   ass (B64 (s6.2+1)) <|
   some (Ctl.next ((if (ix p_ s6.2)+1 > s6.1 then (ix p_ s6.2)+1 else s6.1),s6.2+1))
  else
   some (Ctl.ret s6.1)) fuel (0,0)).bind fun b1 =>
 some b1
@[simp] abbrev Y00 (a:List Int) (b:List (Nat × AV)):List (Nat × AV):=(6,lI a)::(7,iV (a.length:Int))::b
theorem Q3Z (p_:List Int) (r:Int) (h:Q10 p_=some r):Contract Try.prog 80 [lI p_] (iV r):=by
 refine Qd (rvs:=[.tmp 2]) (rs:=[iV r]) Try.func80 rfl rfl rfl rfl (by simp [Try.f80]) fun F hN hP=>?_;unfold Q10 at h;refine Q1 (runQ hN fun K hK=>?_);simp;repeat refine sdQ ?_
 refine hK _ ?_;clear hK K;refine tn (Q4 (st':=⟨[(0,lI p_)],[],0⟩) (wkQ9 []) (Q1 (runQ hN fun K hK=>?_)));simp;repeat refine sdQ ?_
 refine hK _ ?_;clear hK K;refine tn (Q4 (st':=⟨[(0,lI p_),(3,iV 0)],[],0⟩) (wkQ9 []) (Q1 (Q1 (runQ hN fun K hK=>?_))));simp;repeat refine sdQ ?_
 refine hK _ (tn (Q4 (st':=⟨(3,iV 0)::Y00 p_ [(8,iV 0)],[],0⟩) (wkQ9 []) ?_));clear hK K;replace ⟨e1,h,h1⟩:=bind_some h;refine Qk (fun b1:Int=>⟨[(3,iV b1)],[],0⟩) (fun b1=>b1=e1) ?_ ?_
 ·refine Q7 (Qu h (fun s6:Int × Int=>⟨(3,iV s6.1)::Y00 p_ [(8,iV s6.2)],[],0⟩) (wkQ9 []) ?_);clear h;intro k6 s6 c6 h hk6;refine Q1 (runQ hN fun K hK=>?_);simp;repeat refine sdQ ?_
  refine hK _ ?_;clear hK K;refine tn (Q1 (Qa rfl (fun g=>?_) fun g=>?_))
  ·have g7:s6.2<(p_.length:Int):=gQ;clear g;replace h:=if_l g7 h;refine Qc (tn (Q1 (Q7 (Q1 (runQ hN fun K hK=>?_)))));replace ⟨a8,h⟩:=Q0 h;simp [at_I a8];(repeat refine sdQ ?_);refine hK _ ?_;clear hK K;refine tn (Q4 (st':=⟨(3,iV s6.1)::(5,iV (ix p_ s6.2))::Y00 p_ [(8,iV s6.2)],[],0⟩) (wkQ9 []) (runQ hN fun K hK=>?_));replace ⟨a9,h⟩:=Q0 h;simp [Qm a9];(repeat refine sdQ ?_);refine hK _ ?_;clear hK K;refine bn (tn (Q4 (st':=⟨(3,iV (if (ix p_ s6.2)+1 > s6.1 then (ix p_ s6.2)+1 else s6.1))::Y00 p_ [(8,iV s6.2)],[],0⟩) (wkQ9 []) (runQ hN fun K hK=>?_)));replace ⟨a10,h⟩:=Q0 h;simp [Qm a10];(repeat refine sdQ ?_);refine hK _ ?_;clear hK K;cases h;exact rn (s':=((if (ix p_ s6.2)+1 > s6.1 then (ix p_ s6.2)+1 else s6.1),s6.2+1)) hk6 (wkQ9 [])
  have g7:¬ (s6.2<(p_.length:Int)):=gQ;clear g;replace h:=if_r g7 h;refine Qp (tx (lx (bh ?_)));cases h;exact jn (b:=s6.1) hk6 (wkQ9 [])
 intro b1 hb1;have h:=h1;try rw [← hb1] at h
 clear h1;try dsimp only at h
 refine Q1 (runQ hN fun K hK=>?_);simp;repeat refine sdQ ?_
 refine hK _ (tn (Q4 (st':=⟨[(2,iV b1)],[],0⟩) (wkQ9 []) (Ql ?_)));clear hK K;have hr:=zC h;rw [← hr];refine ⟨_,(.tmp .nil),?_⟩;refine ⟨(.one rfl rfl .nil),[iV b1],[],by simp [UA,U1,IA,I1,LA,L1,BA,B1,EA,E1,E2,eB,eI,eL],by simp,(UpL.refl _)⟩
end Go.Vc.T
