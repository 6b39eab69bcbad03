/- A part of the proof. -/
import Derived.Test.YtllnbmfplpilcaaR9
set_option maxRecDepth 100000
set_option maxHeartbeats 4000000
set_option linter.unusedSimpArgs false
set_option linter.unusedVariables false
set_option linter.unusedSectionVars false
set_option linter.unnecessarySimpa false

open List renaming getD_eq_getElem?_getD→qB
open Option.some renaming inj→zF
open Option renaming bind_some→zG
open List renaming length_append→qD
open Nat renaming le_refl→qE
open List renaming length_cons→qG
open List renaming length_nil→zB
open List renaming take_succ_eq_append_getElem→zI
open List renaming getElem_mem→zE
open Int renaming toNat_natCast→zK
open List renaming length_map→zL
open List renaming all_eq_true→qS
open List renaming length_filter_le→zM
namespace Go.Vc.T
open Go Go.Vc Go.Proofs
attribute [local simp] unk unA unE unT unC flat eL eI Qw Q1V eP_SF Qa Qc Cat.cells SF.cells XQuery.cells XTerm.cells
noncomputable def Q1n (c_:Cat) (q_:XQuery):Option (SF × List Int × Bool) :=
 (Q2G c_ q_.variables_).bind fun v1 =>
 (QA (σ:=List (List Int) × Int) (ε:=List (List Int)) (fun s32 =>
  if s32.2<c_.n then
   (QA (σ:=List (List Int) × Int) (ε:=List (List Int)) (fun s46 =>
    if s46.2<(q_.left_.length:Int) then
     (
      ass (0≤s46.2∧s46.2<(q_.left_.length:Int)) <|
      ass (0≤(gx q_.left_ s46.2).arrow_∧(gx q_.left_ s46.2).arrow_<(c_.to.length:Int)) <|
      if (ix c_.to ((gx q_.left_ s46.2).arrow_))=s32.2 then
       ass (0≤s46.2∧s46.2<(q_.left_.length:Int)) <|
       (Q1z c_ q_ (gx q_.left_ s46.2)).bind fun v53 =>
       ass (0≤s46.2∧s46.2<(q_.right_.length:Int)) <|
       (Q1z c_ q_ (gx q_.right_ s46.2)).bind fun v55 =>
       ass ((s46.1++[[v53,v55]]).length≤1073741824) <|
       some (s46.1++[[v53,v55]])
      else
       some s46.1:Option (List (List Int))).bind fun b48 =>
     ass (B64 (s46.2+1)) <|
     some (Ctl.next (b48,s46.2+1))
    else
     some (Ctl.ret s46.1)) fuel ([],0)).bind fun b34 =>
   ass (0≤s32.2∧s32.2<(v1.sz.length:Int)) <|
   (Q21 (ix v1.sz s32.2) b34).bind fun v59 =>
   ass ((s32.1++[v59]).length≤1073741824) <|
   ass (B64 (s32.2+1)) <|
   some (Ctl.next (s32.1++[v59],s32.2+1))
  else
   some (Ctl.ret s32.1)) fuel ([],0)).bind fun b2 =>
 (QA (σ:=List (List Int) × Bool) (ε:=List (List Int)) (fun s165 =>
  if s165.2=true then
   (QA (σ:=List (List Int) × Bool × Int) (ε:=List (List Int) × Bool) (fun s217 =>
    if s217.2.2<(v1.ac.length:Int) then
     (
      ass (0≤s217.2.2∧s217.2.2<(c_.fr.length:Int)) <|
      ass (0≤s217.2.2∧s217.2.2<(c_.to.length:Int)) <|
      (QA (σ:=List (List Int) × Int) (ε:=List (List Int)) (fun s241 =>
       ass (0≤ix c_.fr s217.2.2∧ix c_.fr s217.2.2<(s217.1.length:Int)) <|
       if s241.2<((rx s217.1 (ix c_.fr s217.2.2)).length:Int) then
        (
         ass (0≤ix c_.fr s217.2.2∧ix c_.fr s217.2.2<(s217.1.length:Int)) <|
         ass (0≤ix c_.fr s217.2.2∧ix c_.fr s217.2.2<(s217.1.length:Int)) <|
         ass (0≤s241.2∧s241.2<((rx s217.1 (ix c_.fr s217.2.2)).length:Int)) <|
         (Q17 (rx s217.1 (ix c_.fr s217.2.2)) (ix (rx s217.1 (ix c_.fr s217.2.2)) s241.2)).bind fun v248 =>
         ass (0≤s217.2.2∧s217.2.2<(v1.ac.length:Int)) <|
         ass (0≤v248∧v248<((rx v1.ac s217.2.2).length:Int)) <|
         ass (0≤s217.2.2∧s217.2.2<(v1.ac.length:Int)) <|
         ass (0≤s241.2∧s241.2<((rx v1.ac s217.2.2).length:Int)) <|
         ass (0≤ix c_.to s217.2.2∧ix c_.to s217.2.2<(s217.1.length:Int)) <|
         ass (0≤ix (rx v1.ac s217.2.2) v248∧ix (rx v1.ac s217.2.2) v248<((rx s217.1 (ix c_.to s217.2.2)).length:Int)) <|
         ass (0≤ix c_.to s217.2.2∧ix c_.to s217.2.2<(s217.1.length:Int)) <|
         ass (0≤ix (rx v1.ac s217.2.2) s241.2∧ix (rx v1.ac s217.2.2) s241.2<((rx s217.1 (ix c_.to s217.2.2)).length:Int)) <|
         if ¬ ((ix (rx s217.1 (ix c_.to s217.2.2)) (ix (rx v1.ac s217.2.2) v248))=(ix (rx s217.1 (ix c_.to s217.2.2)) (ix (rx v1.ac s217.2.2) s241.2))) then
          ass ((s241.1++[[ix (rx v1.ac s217.2.2) v248,ix (rx v1.ac s217.2.2) s241.2]]).length≤1073741824) <|
          some (s241.1++[[ix (rx v1.ac s217.2.2) v248,ix (rx v1.ac s217.2.2) s241.2]])
         else
          some s241.1:Option (List (List Int))).bind fun b244 =>
        ass (B64 (s241.2+1)) <|
        some (Ctl.next (b244,s241.2+1))
       else
        some (Ctl.ret s241.1)) fuel ([],0)).bind fun b222 =>
      if (b222.length:Int) > 0 then
       ass (0≤ix c_.to s217.2.2∧ix c_.to s217.2.2<(v1.sz.length:Int)) <|
       ass (0≤ix c_.to s217.2.2∧ix c_.to s217.2.2<(s217.1.length:Int)) <|
       (Q2f (rx s217.1 (ix c_.to s217.2.2))).bind fun v263 =>
       ass ((v263++b222).length≤1073741824) <|
       (Q21 (ix v1.sz (ix c_.to s217.2.2)) (v263++b222)).bind fun v265 =>
       ass (0≤ix c_.to s217.2.2∧ix c_.to s217.2.2<(s217.1.length:Int)) <|
       some (s217.1.set ((ix c_.to s217.2.2).toNat) v265,true)
      else
       some (s217.1,s217.2.1):Option (List (List Int) × Bool)).bind fun b219 =>
     ass (B64 (s217.2.2+1)) <|
     some (Ctl.next (b219.1,b219.2,s217.2.2+1))
    else
     some (Ctl.ret (s217.1,s217.2.1))) fuel (s165.1,false,0)).bind fun p217 =>
   some (Ctl.next p217)
  else
   some (Ctl.ret s165.1)) fuel (b2,true)).bind fun b62 =>
 (Q1y v1 b62).bind fun v268 =>
 (QA (σ:=List Int × Int) (ε:=List Int) (fun s278 =>
  if s278.2<(q_.variables_.length:Int) then
   ass (0≤s278.2∧s278.2<(q_.variables_.length:Int)) <|
   ass (0≤ix q_.variables_ s278.2∧ix q_.variables_ s278.2<(b62.length:Int)) <|
   ass (0≤ix q_.variables_ s278.2∧ix q_.variables_ s278.2<(c_.id.length:Int)) <|
   (Q1z c_ q_ (⟨s278.2,ix c_.id (ix q_.variables_ s278.2)⟩:XTerm)).bind fun v283 =>
   ass (0≤v283∧v283<((rx b62 (ix q_.variables_ s278.2)).length:Int)) <|
   ass ((s278.1++[ix (rx b62 (ix q_.variables_ s278.2)) v283]).length≤1073741824) <|
   ass (B64 (s278.2+1)) <|
   some (Ctl.next (s278.1++[ix (rx b62 (ix q_.variables_ s278.2)) v283],s278.2+1))
  else
   some (Ctl.ret s278.1)) fuel ([],0)).bind fun b269 =>
 (Q2H v268).bind fun v287 =>
 some (v268,b269,v287 == 0)
theorem Qv {F : Fx} {st st' : St} (m : List (Nat × Nat)) (h : (m.map Prod.fst).Nodup ∧ (m.map Prod.snd).Nodup ∧ (∀ id, id < F.pins → look id m = some id) ∧ (∀ p ∈ m, p.2 < st'.n) ∧ (∀ p ∈ st'.h, p.1 < st'.n) ∧ (∀ p ∈ st'.s, p.2 = rl m (st.get p.1) ∨ p.2 = .bot) ∧ ∀ p ∈ st'.h, hhOk m st.h p.1 p.2 := by simp [hP, hhOk, back, idQ, Cat.cells, SF.cells, XQuery.cells, XTerm.cells, UA, U1, IA, I1, LA, L1, BA, B1, EA, E1, E2, eB, eI, eL, Q1 _ Qa _ (fun _=>rfl), Q1 _ Qc _ (fun _=>rfl), XPairint64.cells, Q1 _ Qh _ (fun _=>rfl), Q1 _ (XPairint64.cells true) _ (fun _=>rfl), XCanonical.cells, Q1 _ Qi _ (fun _=>rfl), Q1 _ (XTerm.cells true) _ (fun _=>rfl)]) : Wk F st st' := Wk.r1 m h
theorem Q2o {F : Fx} {st st' : St} (m : Nat) (h : ((idQ m).map Prod.fst).Nodup ∧ ((idQ m).map Prod.snd).Nodup ∧ (∀ id, id < F.pins → look id (idQ m) = some id) ∧ (∀ p ∈ (idQ m), p.2 < st'.n) ∧ (∀ p ∈ st'.h, p.1 < st'.n) ∧ (∀ p ∈ st'.s, p.2 = rl (idQ m) (st.get p.1) ∨ p.2 = .bot) ∧ ∀ p ∈ st'.h, hhOk (idQ m) st.h p.1 p.2 := by simp [hP, hhOk, back, idQ, Cat.cells, SF.cells, XQuery.cells, XTerm.cells, UA, U1, IA, I1, LA, L1, BA, B1, EA, E1, E2, eB, eI, eL, Q1 _ Qa _ (fun _=>rfl), Q1 _ Qc _ (fun _=>rfl), XPairint64.cells, Q1 _ Qh _ (fun _=>rfl), Q1 _ (XPairint64.cells true) _ (fun _=>rfl), XCanonical.cells, Q1 _ Qi _ (fun _=>rfl), Q1 _ (XTerm.cells true) _ (fun _=>rfl)]) : Wk F st st' := Wk.r1 (idQ m) h
@[simp] abbrev Y2 (a:Cat) (b:XQuery) (c:SF) (d:List (Nat × AV)):List (Nat × AV):=(2,.rptr (Cat.cells true a))::(3,.rptr (XQuery.cells true b))::(4,.adr 0 0 0)::(7,.rptr (SF.cells true c))::d
@[simp] abbrev Ya (a:List (List Int)) (b:SF) (c:List (Nat × Ent)):List (Nat × Ent):=(1,.row 1 (Ls a))::(2,.mix 7 [[iV b.s.n,.own 3 0 b.s.fr.length,.own 4 0 b.s.to.length,.own 5 0 b.s.id.length,.own 6 0 b.s.cs.length,.own 7 0 b.sz.length,.own 8 0 b.ac.length]])::(3,rI b.s.fr)::(4,rI b.s.to)::(5,rI b.s.id)::(6,.row 1 (Ls b.s.cs))::(7,rI b.sz)::(8,.row 1 (Ls b.ac))::c
@[simp] abbrev Yg (a:List (List Int) × Bool × Int) (b:Cat) (c:List (Nat × AV)):List (Nat × AV):=(8,.own 1 0 a.1.length)::(12,.val (.bool a.2.1))::(13,iV a.2.2)::(14,iV (ix b.fr a.2.2))::(15,iV (ix b.to a.2.2))::c
@[simp] abbrev Yo (a:Cat) (b:XQuery) (c:List (Nat × AV)):List (Nat × AV):=(2,.rptr (Cat.cells true a))::(3,.rptr (XQuery.cells true b))::(4,.adr 0 0 0)::c
@[simp] abbrev YN (a:List (List Int) × Int) (b:List (Nat × AV)):List (Nat × AV):=(8,.own 1 0 a.1.length)::(9,iV a.2)::b
@[simp] abbrev Y01 (a:List (List Int)) (b:List (Nat × AV)):List (Nat × AV):=(8,.own 1 0 a.length)::(21,.adr 2 0 0)::b
@[simp] abbrev Y06 (a:List (List Int) × Bool × Int) (b:List (Nat × AV)):List (Nat × AV):=(8,.own 1 0 a.1.length)::(12,.val (.bool a.2.1))::(13,iV a.2.2)::b
theorem Q56 (c_:Cat) (q_:XQuery) (r:SF × List Int × Bool) (h:Q1n c_ q_=some r):Contract Try.prog 31 (Y0o c_ q_ []) (.tup [.agg (r.1.cells true),lI r.2.1,.val (.bool r.2.2)]):=by
 refine Q2l (rvs:=[.cell 4 33,.tmp 5,.tmp 6]) (rs:=[.agg (r.1.cells true),lI r.2.1,.val (.bool r.2.2)]) Try.func31 rfl rfl rfl rfl (by simp [Try.f31]) fun F hN hP hW=>?_;unfold Q1n at h;refine Q2 (Qm [2,3] mo (by rw [hN];decide) fun K hK=>?_);simp;repeat refine sdQ ?_
 refine hK _ ?_;clear hK K;refine tn (Q5 (st':=⟨Yo c_ q_ [],Y6 [],1⟩) (Qv [(0,0)]) (Q2 (Qm [] mo (by rw [hN];decide) fun K hK=>?_)));simp;repeat with_reducible refine sdQ ?_
 replace ⟨v1,hv1,h⟩:=bind_some h;refine Q7j (fz:=[]) false (Contract.toF (Q91 _ _ v1 hv1)) (PurK.ofL (.cons (.aggL (.cons .val (.cons .lst (.cons .lst (.cons .lst (.cons .lst .nil)))))) (.cons .lst .nil))) ?_;simp;repeat refine sdQ ?_
 refine hK _ ?_;clear hK K;refine tn (Q5 (st':=⟨Y2 c_ q_ v1 [],Y6 [],1⟩) (Wk.frz hW [(1,[iV v1.s.n,lI v1.s.fr,lI v1.s.to,lI v1.s.id,.lst true 1 (Ls v1.s.cs),lI v1.sz,.lst true 1 (Ls v1.ac)])] [(0,0)] (by simp [AV.ro,Cat.cells,SF.cells,XQuery.cells,XTerm.cells,UA,U1,IA,I1,LA,L1,BA,B1,EA,E1,E2,eB,eI,eL,Q1 _ Qa _ (fun _=>rfl),Q1 _ Qc _ (fun _=>rfl)]) (by simp [hP,hhOk,back,Cat.cells,SF.cells,XQuery.cells,XTerm.cells,UA,U1,IA,I1,LA,L1,BA,B1,EA,E1,E2,eB,eI,eL,Q1 _ Qa _ (fun _=>rfl),Q1 _ Qc _ (fun _=>rfl)])) (Q2 (runQ hN fun K hK=>?_)));simp;repeat refine sdQ ?_
 refine hK _ ?_;clear hK K;refine tn (Q5 (st':=⟨Y2 c_ q_ v1 [(8,.own 1 0 0)],Y6 [(1,.mix 1 [])],2⟩) (Qv [(0,0),(1,1)]) (Q2 (Q2 (runQ hN fun K hK=>?_))));simp;repeat refine sdQ ?_
 refine hK _ (tn (Q5 (st':=⟨Y2 c_ q_ v1 [(8,.own 1 0 0),(9,iV 0)],Y6 [(1,.mix 1 [])],2⟩) (Qv [(0,0),(1,1)]) ?_));clear hK K;replace ⟨e2,h,h2⟩:=bind_some h;refine Qn (fun b2:List (List Int)=>⟨Y2 c_ q_ v1 [(8,.own 1 0 b2.length)],Y6 [(1,.row 1 (Ls b2))],2⟩) (fun b2=>b2=e2) ?_ ?_
 ·refine Q7 (Qy h (fun s32:List (List Int) × Int=>⟨Y2 c_ q_ v1 (YN s32 []),Y6 [(1,.row 1 (Ls s32.1))],2⟩) (Q3w ⟨Y2 c_ q_ v1 [(8,.own 1 0 0),(9,iV 0)],Y6 [(1,.row 1 (Ls []))],2⟩ (Wk.nils [] (by simp) (by simp) (by simp [nlA]) (by simp [entN,nlL,nlA,Cat.cells,SF.cells,XQuery.cells,XTerm.cells,UA,U1,IA,I1,LA,L1,BA,B1,EA,E1,E2,eB,eI,eL,Q1 _ Qa _ (fun _=>rfl),Q1 _ Qc _ (fun _=>rfl)]) (by simp)) (Qv [(0,0),(1,1)])) ?_);clear h;intro k32 s32 c32 h hk32;refine Q2 (Q2 (runQ hN fun K hK=>?_));simp;repeat refine sdQ ?_
  refine hK _ ?_;clear hK K;refine tn (Q5 (st':=⟨Y2 c_ q_ v1 (YN s32 [(33,.val (.bool (decide (s32.2<c_.n))))]),Y6 [(1,.row 1 (Ls s32.1))],2⟩) (Qv [(0,0),(1,1)]) (Q8 rfl (fun g=>?_) fun g=>?_))
  ·have g33:s32.2<c_.n:=gQ;clear g;replace h:=if_l g33 h;refine Q9 (tn (Q2 (Q7 (Q2 (runQ hN fun K hK=>?_)))));simp;(repeat refine sdQ ?_);refine hK _ ?_;clear hK K;refine tn (Q5 (st':=⟨Y2 c_ q_ v1 (YN s32 [(10,.own 2 0 0)]),Y6 [(1,.row 1 (Ls s32.1)),(2,.mix 1 [])],3⟩) (Q2o 3) (Q2 (Q2 (runQ hN fun K hK=>?_))));simp;(repeat refine sdQ ?_);refine hK _ (tn (Q5 (st':=⟨Y2 c_ q_ v1 (YN s32 [(10,.own 2 0 0),(11,iV 0)]),Y6 [(1,.row 1 (Ls s32.1)),(2,.mix 1 [])],3⟩) (Q2o 3) ?_));clear hK K;replace ⟨e34,h,h34⟩:=bind_some h;refine Qn (fun b34:List (List Int)=>⟨Y2 c_ q_ v1 (YN s32 [(10,.own 2 0 b34.length)]),Y6 [(1,.row 1 (Ls s32.1)),(2,.row 1 (Ls b34))],3⟩) (fun b34=>b34=e34) ?_ ?_
   ·refine Q7 (Qy h (fun s46:List (List Int) × Int=>⟨Y2 c_ q_ v1 (YN s32 [(10,.own 2 0 s46.1.length),(11,iV s46.2)]),Y6 [(1,.row 1 (Ls s32.1)),(2,.row 1 (Ls s46.1))],3⟩) (Q3w ⟨Y2 c_ q_ v1 (YN s32 [(10,.own 2 0 0),(11,iV 0)]),Y6 [(1,.row 1 (Ls s32.1)),(2,.row 1 (Ls []))],3⟩ (Wk.nils [] (by simp) (by simp) (by simp [nlA]) (by simp [entN,nlL,nlA,Cat.cells,SF.cells,XQuery.cells,XTerm.cells,UA,U1,IA,I1,LA,L1,BA,B1,EA,E1,E2,eB,eI,eL,Q1 _ Qa _ (fun _=>rfl),Q1 _ Qc _ (fun _=>rfl)]) (by simp)) (Q2o 3)) ?_);clear h;intro k46 s46 c46 h hk46;refine Q2 (Q2 (runQ hN fun K hK=>?_));simp;(repeat refine sdQ ?_);refine hK _ ?_;clear hK K;refine tn (Q5 (st':=⟨Y2 c_ q_ v1 (YN s32 [(10,.own 2 0 s46.1.length),(11,iV s46.2),(41,.val (.bool (decide (s46.2<(q_.left_.length:Int)))))]),Y6 [(1,.row 1 (Ls s32.1)),(2,.row 1 (Ls s46.1))],3⟩) (Q2o 3) (Q8 rfl (fun g=>?_) fun g=>?_))
    ·have g47:s46.2<(q_.left_.length:Int):=gQ;clear g;replace h:=if_l g47 h;refine Q9 (tn (Q2 ?_));replace ⟨e48,h,h48⟩:=bind_some h;refine Qn (fun b48:List (List Int)=>⟨Y2 c_ q_ v1 (YN s32 [(10,.own 2 0 b48.length),(11,iV s46.2)]),Y6 [(1,.row 1 (Ls s32.1)),(2,.row 1 (Ls b48))],3⟩) (fun b48=>b48=e48) ?_ ?_
     ·refine Q7 (Q2 (runQ hN fun K hK=>?_));replace ⟨a49,h⟩:=Q0 h;replace ⟨a50,h⟩:=Q0 h;simp [at_E (c:=(XTerm.cells true)) a49,at_I a50];(repeat refine sdQ ?_);refine hK _ ?_;clear hK K;refine tn (Q5 (st':=⟨Y2 c_ q_ v1 (YN s32 [(10,.own 2 0 s46.1.length),(11,iV s46.2),(55,.val (.bool ((ix c_.to ((gx q_.left_ s46.2).arrow_)) == s32.2)))]),Y6 [(1,.row 1 (Ls s32.1)),(2,.row 1 (Ls s46.1))],3⟩) (Q2o 3) (Q8 rfl (fun g=>?_) fun g=>?_))
      ·have g51:(ix c_.to ((gx q_.left_ s46.2).arrow_))=s32.2:=gQ;clear g;replace h:=if_l g51 h;refine runQ hN fun K hK=>?_;replace ⟨a52,h⟩:=Q0 h;simp [at_E (c:=(XTerm.cells true)) a52];(repeat with_reducible refine sdQ ?_);replace ⟨v53,hv53,h⟩:=bind_some h;refine Q3 (Q4c _ _ _ v53 hv53) (.cons (.aggL (.cons .val (.cons .lst (.cons .lst (.cons .lst (.cons .lst .nil)))))) (.cons (.aggL (.cons .lst (.cons .lst (.cons .lst (.cons .lst .nil))))) (.cons (.aggL (.cons .val (.cons .val .nil))) .nil))) ?_;replace ⟨a54,h⟩:=Q0 h;simp [at_E (c:=(XTerm.cells true)) a52,at_E (c:=(XTerm.cells true)) a54];(repeat with_reducible refine sdQ ?_);replace ⟨v55,hv55,h⟩:=bind_some h;refine Q3 (Q4c _ _ _ v55 hv55) (.cons (.aggL (.cons .val (.cons .lst (.cons .lst (.cons .lst (.cons .lst .nil)))))) (.cons (.aggL (.cons .lst (.cons .lst (.cons .lst (.cons .lst .nil))))) (.cons (.aggL (.cons .val (.cons .val .nil))) .nil))) ?_;replace ⟨a56,h⟩:=Q0 h;(try simp only [qD,qG,zB] at a56);simp [at_E (c:=(XTerm.cells true)) a52,at_E (c:=(XTerm.cells true)) a54,a56];(repeat refine sdQ ?_);refine hK _ (bn ?_);clear hK K;exact jn (b:=s46.1++[[v53,v55]]) (zF h) (Qv [(0,0),(1,1),(7,2)])
      have g51:¬ ((ix c_.to ((gx q_.left_ s46.2).arrow_))=s32.2):=gQ;clear g;replace h:=if_r g51 h;refine Q9 (bn ?_);exact jn (b:=s46.1) (zF h) (Q2o 3)
     intro b48 hb48;have h:=h48;(try rw [← hb48] at h);clear h48;(try dsimp only at h);refine runQ hN fun K hK=>?_;replace ⟨a57,h⟩:=Q0 h;simp [Qo a57];(repeat refine sdQ ?_);refine hK _ ?_;clear hK K;cases h;exact rn (s':=(b48,s46.2+1)) hk46 (Q2o 3)
    have g47:¬ (s46.2<(q_.left_.length:Int)):=gQ;clear g;replace h:=if_r g47 h;refine Qt (tx (lx (bh ?_)));cases h;exact jn (b:=s46.1) hk46 (Q2o 3)
   intro b34 hb34;have h:=h34;(try rw [← hb34] at h);clear h34;(try dsimp only at h);refine runQ hN fun K hK=>?_;replace ⟨a58,h⟩:=Q0 h;simp [at_I a58];(repeat with_reducible refine sdQ ?_);replace ⟨v59,hv59,h⟩:=bind_some h;refine Q3 (Q62 _ _ v59 hv59) (.cons .val (.cons .w .nil)) ?_;replace ⟨a60,h⟩:=Q0 h;(try simp only [qD,qG,zB] at a60);simp [at_I a58,a60];(repeat refine sdQ ?_);refine hK _ ?_;clear hK K;refine bn (tn (Q5 (st':=⟨Y2 c_ q_ v1 [(8,.own 1 0 ((s32.1++[v59]).length)),(9,iV s32.2)],Y6 [(1,.row 1 (Ls (s32.1++[v59])))],2⟩) (Qv [(0,0),(5,1)]) (runQ hN fun K hK=>?_)));replace ⟨a61,h⟩:=Q0 h;simp [Qo a61];(repeat refine sdQ ?_);refine hK _ ?_;clear hK K;cases h;exact rn (s':=(s32.1++[v59],s32.2+1)) hk32 (Qv [(0,0),(1,1)])
  have g33:¬ (s32.2<c_.n):=gQ;clear g;replace h:=if_r g33 h;refine Qt (tx (lx (bh ?_)));cases h;exact jn (b:=s32.1) hk32 (Qv [(0,0),(1,1)])
 intro b2 hb2;have h:=h2;try rw [← hb2] at h
 clear h2;try dsimp only at h
 refine Q2 (Q2 (runQ hN fun K hK=>?_));simp;repeat refine sdQ ?_
 refine hK _ (tn (Q5 (st':=⟨Y2 c_ q_ v1 [(8,.own 1 0 b2.length),(12,.val (.bool true))],Y6 [(1,.row 1 (Ls b2))],2⟩) (Qv [(0,0),(1,1)]) ?_));clear hK K;replace ⟨e62,h,h62⟩:=bind_some h;refine Qn (fun b62:List (List Int)=>⟨Y2 c_ q_ v1 [(8,.own 1 0 b62.length)],Y6 [(1,.row 1 (Ls b62))],2⟩) (fun b62=>b62=e62) ?_ ?_
 ·refine Q7 (Qy h (fun s165:List (List Int) × Bool=>⟨Y2 c_ q_ v1 [(8,.own 1 0 s165.1.length),(12,.val (.bool s165.2))],Y6 [(1,.row 1 (Ls s165.1))],2⟩) (Qv [(0,0),(1,1)]) ?_);clear h;intro k165 s165 c165 h hk165;refine Q2 (Q2 (runQ hN fun K hK=>?_));simp;repeat refine sdQ ?_
  refine hK _ ?_;clear hK K;refine tn (Q5 (st':=⟨Y2 c_ q_ v1 [(8,.own 1 0 s165.1.length),(86,.val (.bool s165.2))],Y6 [(1,.row 1 (Ls s165.1))],2⟩) (Qv [(0,0),(1,1)]) (Q8 rfl (fun g=>?_) fun g=>?_))
  ·have g166:s165.2=true:=gQ;clear g;replace h:=if_l g166 h;refine Q9 (tn (Q7 (Q2 (runQ hN fun K hK=>?_))));simp;(repeat refine sdQ ?_);refine hK _ ?_;clear hK K;refine tn (Q5 (st':=⟨Y2 c_ q_ v1 [(8,.own 1 0 s165.1.length),(12,.val (.bool false))],Y6 [(1,.row 1 (Ls s165.1))],2⟩) (Qv [(0,0),(1,1)]) (Q2 (runQ hN fun K hK=>?_)));simp;(repeat refine sdQ ?_);refine hK _ (tn (Q5 (st':=⟨Y2 c_ q_ v1 [(8,.own 1 0 s165.1.length),(12,.val (.bool false)),(13,iV 0)],Y6 [(1,.row 1 (Ls s165.1))],2⟩) (Qv [(0,0),(1,1)]) (Q7 ?_)));clear hK K;replace ⟨e217,he217,h217⟩:=bind_some h;refine Qy he217 (fun s217:List (List Int) × Bool × Int=>⟨Y2 c_ q_ v1 (Y06 s217 []),Y6 [(1,.row 1 (Ls s217.1))],2⟩) (Qv [(0,0),(1,1)]) ?_;intro k217 s217 c217 h hk217;refine Q2 (Q2 (runQ hN fun K hK=>?_));simp;(repeat refine sdQ ?_);refine hK _ ?_;clear hK K;refine tn (Q5 (st':=⟨Y2 c_ q_ v1 (Y06 s217 [(91,.val (.bool (decide (s217.2.2<(v1.ac.length:Int)))))]),Y6 [(1,.row 1 (Ls s217.1))],2⟩) (Qv [(0,0),(1,1)]) (Q8 rfl (fun g=>?_) fun g=>?_))
   ·have g218:s217.2.2<(v1.ac.length:Int):=gQ;clear g;replace h:=if_l g218 h;refine Q9 (tn (Q2 ?_));replace ⟨e219,h,h219⟩:=bind_some h;refine Qn (fun b219:List (List Int) × Bool=>⟨Y2 c_ q_ v1 [(8,.own 1 0 b219.1.length),(12,.val (.bool b219.2)),(13,iV s217.2.2)],Y6 [(1,.row 1 (Ls b219.1))],2⟩) (fun b219=>b219=e219) ?_ ?_
    ·refine Q7 (Q2 (runQ hN fun K hK=>?_));replace ⟨a220,h⟩:=Q0 h;replace ⟨a221,h⟩:=Q0 h;simp [at_I a220,at_I a221];(repeat refine sdQ ?_);refine hK _ ?_;clear hK K;refine tn (Q5 (st':=⟨Y2 c_ q_ v1 (Yg s217 c_ []),Y6 [(1,.row 1 (Ls s217.1))],2⟩) (Qv [(0,0),(1,1)]) (Q2 (runQ hN fun K hK=>?_)));simp;(repeat refine sdQ ?_);refine hK _ ?_;clear hK K;refine tn (Q5 (st':=⟨Y2 c_ q_ v1 (Yg s217 c_ [(16,.own 2 0 0)]),Y6 [(1,.row 1 (Ls s217.1)),(2,.mix 1 [])],3⟩) (Q2o 3) (Q2 (Q2 (runQ hN fun K hK=>?_))));simp;(repeat refine sdQ ?_);refine hK _ (tn (Q5 (st':=⟨Y2 c_ q_ v1 (Yg s217 c_ [(16,.own 2 0 0),(17,iV 0)]),Y6 [(1,.row 1 (Ls s217.1)),(2,.mix 1 [])],3⟩) (Q2o 3) ?_));clear hK K;replace ⟨e222,h,h222⟩:=bind_some h;refine Qn (fun b222:List (List Int)=>⟨Y2 c_ q_ v1 (Y06 s217 [(15,iV (ix c_.to s217.2.2)),(16,.own 2 0 b222.length)]),Y6 [(1,.row 1 (Ls s217.1)),(2,.row 1 (Ls b222))],3⟩) (fun b222=>b222=e222) ?_ ?_
     ·refine Q7 (Qy h (fun s241:List (List Int) × Int=>⟨Y2 c_ q_ v1 (Yg s217 c_ [(16,.own 2 0 s241.1.length),(17,iV s241.2)]),Y6 [(1,.row 1 (Ls s217.1)),(2,.row 1 (Ls s241.1))],3⟩) (Q3w ⟨Y2 c_ q_ v1 (Yg s217 c_ [(16,.own 2 0 0),(17,iV 0)]),Y6 [(1,.row 1 (Ls s217.1)),(2,.row 1 (Ls []))],3⟩ (Wk.nils [] (by simp) (by simp) (by simp [nlA]) (by simp [entN,nlL,nlA,Cat.cells,SF.cells,XQuery.cells,XTerm.cells,UA,U1,IA,I1,LA,L1,BA,B1,EA,E1,E2,eB,eI,eL,Q1 _ Qa _ (fun _=>rfl),Q1 _ Qc _ (fun _=>rfl)]) (by simp)) (Q2o 3)) ?_);clear h;intro k241 s241 c241 h hk241;refine Q2 (Q2 (runQ hN fun K hK=>?_));replace ⟨a242,h⟩:=Q0 h;simp [at_L a242];(repeat refine sdQ ?_);refine hK _ ?_;clear hK K;refine tn (Q5 (st':=⟨Y2 c_ q_ v1 (Yg s217 c_ [(16,.own 2 0 s241.1.length),(17,iV s241.2),(111,.val (.bool (decide (s241.2<((rx s217.1 (ix c_.fr s217.2.2)).length:Int)))))]),Y6 [(1,.row 1 (Ls s217.1)),(2,.row 1 (Ls s241.1))],3⟩) (Q2o 3) (Q8 rfl (fun g=>?_) fun g=>?_))
      ·have g243:s241.2<((rx s217.1 (ix c_.fr s217.2.2)).length:Int):=gQ;clear g;replace h:=if_l g243 h;refine Q9 (tn (Q2 ?_));replace ⟨e244,h,h244⟩:=bind_some h;refine Qn (fun b244:List (List Int)=>⟨Y2 c_ q_ v1 (Yg s217 c_ [(16,.own 2 0 b244.length),(17,iV s241.2)]),Y6 [(1,.row 1 (Ls s217.1)),(2,.row 1 (Ls b244))],3⟩) (fun b244=>b244=e244) ?_ ?_
       ·refine Q7 (Q2 (runQ hN fun K hK=>?_));replace ⟨a245,h⟩:=Q0 h;replace ⟨a246,h⟩:=Q0 h;replace ⟨a247,h⟩:=Q0 h;simp [at_L a245,at_L a246,at_I a247];(repeat with_reducible refine sdQ ?_);replace ⟨v248,hv248,h⟩:=bind_some h;refine Q3 (Q2R _ _ v248 hv248) (.cons (.whole (by simp [at_L a245]) (by simp) (by simp [at_L a245])) (.cons .val .nil)) ?_;simp [at_L a245,at_L a246,at_I a247];(repeat refine sdQ ?_);refine hK _ ?_;clear hK K;refine tn (Q5 (st':=⟨Y2 c_ q_ v1 (Yg s217 c_ [(16,.own 2 0 s241.1.length),(17,iV s241.2),(18,iV v248)]),Y6 [(1,.row 1 (Ls s217.1)),(2,.row 1 (Ls s241.1))],3⟩) (Q2o 3) (Q2 (runQ hN fun K hK=>?_)));replace ⟨a249,h⟩:=Q0 h;replace ⟨a250,h⟩:=Q0 h;replace ⟨a251,h⟩:=Q0 h;replace ⟨a252,h⟩:=Q0 h;simp [at_L a249,at_I a250,at_L a251,at_I a252];(repeat refine sdQ ?_);refine hK _ ?_;clear hK K;refine tn (Q5 (st':=⟨Y2 c_ q_ v1 (Yg s217 c_ [(16,.own 2 0 s241.1.length),(17,iV s241.2),(19,iV (ix (rx v1.ac s217.2.2) v248)),(20,iV (ix (rx v1.ac s217.2.2) s241.2))]),Y6 [(1,.row 1 (Ls s217.1)),(2,.row 1 (Ls s241.1))],3⟩) (Q2o 3) (Q2 (runQ hN fun K hK=>?_)));replace ⟨a253,h⟩:=Q0 h;replace ⟨a254,h⟩:=Q0 h;replace ⟨a255,h⟩:=Q0 h;replace ⟨a256,h⟩:=Q0 h;simp [at_L a253,at_I a254,at_L a255,at_I a256];(repeat refine sdQ ?_);refine hK _ ?_;clear hK K;refine tn (Q5 (st':=⟨Y2 c_ q_ v1 (Yg s217 c_ [(16,.own 2 0 s241.1.length),(17,iV s241.2),(19,iV (ix (rx v1.ac s217.2.2) v248)),(20,iV (ix (rx v1.ac s217.2.2) s241.2)),(156,.val (.bool ((ix (rx s217.1 (ix c_.to s217.2.2)) (ix (rx v1.ac s217.2.2) v248)) != (ix (rx s217.1 (ix c_.to s217.2.2)) (ix (rx v1.ac s217.2.2) s241.2)))))]),Y6 [(1,.row 1 (Ls s217.1)),(2,.row 1 (Ls s241.1))],3⟩) (Q2o 3) (Q8 rfl (fun g=>?_) fun g=>?_))
        ·have g257:¬ ((ix (rx s217.1 (ix c_.to s217.2.2)) (ix (rx v1.ac s217.2.2) v248))=(ix (rx s217.1 (ix c_.to s217.2.2)) (ix (rx v1.ac s217.2.2) s241.2))):=gQ;clear g;replace h:=if_l g257 h;refine runQ hN fun K hK=>?_;replace ⟨a258,h⟩:=Q0 h;(try simp only [qD,qG,zB] at a258);simp [a258];(repeat refine sdQ ?_);refine hK _ (bn ?_);clear hK K;exact jn (b:=s241.1++[[ix (rx v1.ac s217.2.2) v248,ix (rx v1.ac s217.2.2) s241.2]]) (zF h) (Qv [(0,0),(1,1),(5,2)])
        have g257:¬ (¬ ((ix (rx s217.1 (ix c_.to s217.2.2)) (ix (rx v1.ac s217.2.2) v248))=(ix (rx s217.1 (ix c_.to s217.2.2)) (ix (rx v1.ac s217.2.2) s241.2)))):=gQ;clear g;replace h:=if_r g257 h;refine Q9 (bn ?_);exact jn (b:=s241.1) (zF h) (Q2o 3)
       intro b244 hb244;have h:=h244;(try rw [← hb244] at h);clear h244;(try dsimp only at h);refine runQ hN fun K hK=>?_;replace ⟨a259,h⟩:=Q0 h;simp [Qo a259];(repeat refine sdQ ?_);refine hK _ ?_;clear hK K;cases h;exact rn (s':=(b244,s241.2+1)) hk241 (Q2o 3)
      have g243:¬ (s241.2<((rx s217.1 (ix c_.fr s217.2.2)).length:Int)):=gQ;clear g;replace h:=if_r g243 h;refine Qt (tx (lx (bh ?_)));cases h;exact jn (b:=s241.1) hk241 (Q2o 3)
     intro b222 hb222;have h:=h222;(try rw [← hb222] at h);clear h222;(try dsimp only at h);refine Q2 (runQ hN fun K hK=>?_);simp;(repeat refine sdQ ?_);refine hK _ ?_;clear hK K;refine tn (Q5 (st':=⟨Y2 c_ q_ v1 (Y06 s217 [(15,iV (ix c_.to s217.2.2)),(16,.own 2 0 b222.length),(165,.val (.bool (decide ((b222.length:Int) > 0))))]),Y6 [(1,.row 1 (Ls s217.1)),(2,.row 1 (Ls b222))],3⟩) (Q2o 3) (Q8 rfl (fun g=>?_) fun g=>?_))
     ·have g260:(b222.length:Int) > 0:=gQ;clear g;replace h:=if_l g260 h;refine Q2 (w_runXQ false [179] [64,66] [7] [168,169,171] (by simp [St.get,look,Cat.cells,SF.cells,XQuery.cells,XTerm.cells]<;>(repeat' apply And.intro)<;>exact Q7g (by simp [Cat.cells,SF.cells,XQuery.cells,XTerm.cells])) mo (by rw [hN];decide) fun K hK=>?_);replace ⟨a261,h⟩:=Q0 h;replace ⟨a262,h⟩:=Q0 h;simp [at_I a261,at_L a262];(repeat with_reducible refine sdQ ?_);replace ⟨v263,hv263,h⟩:=bind_some h;refine QH (fz:=[179]) (Q84 _ v263 hv263) (.cons (.whole (by simp [at_L a262]) (by simp) (by simp [at_L a262])) .nil) ?_;replace ⟨a264,h⟩:=Q0 h;(try simp only [qD,qG,zB] at a264);simp [at_I a261,at_L a262,a264];(repeat with_reducible refine sdQ ?_);refine Q6B (fz:=[179]) (sem_apr (es3:=Ls (v263++b222)) rfl ef_23 tf_22 rfl rfl (by simp) rfl rfl (by simp) rfl (by first|(simp;done)|(simp;omega)) (by first|(simp;done)|(simp;omega)) (by decide) (by simp) (by simp) (by simp [UA,U1,IA,I1,LA,L1,BA,B1,EA,E1,E2,eB,eI,eL,Q1 _ Qa _ (fun _=>rfl),Q1 _ Qc _ (fun _=>rfl)])) ?_;simp [at_I a261,at_L a262];(repeat with_reducible refine sdQ ?_);replace ⟨v265,hv265,h⟩:=bind_some h;refine QH (fz:=[179]) (Q62 _ _ v265 hv265) (.cons .val (.cons (.whole (by simp [IA,I1,LA,L1]) (by simp) (by simp)) .nil)) ?_;replace ⟨a266,h⟩:=Q0 h;simp [at_I a261,at_L a262,at_L a266];(repeat with_reducible refine sdQ ?_);refine Q9Q (fz:=[179]) [3] tf_22 rfl (b:=.lst true 1 (Is v265)) (ds:=[6]) (es2:=Ls (s217.1.set ((ix c_.to s217.2.2).toNat) v265)) rfl (by simp) (by first|(simp;done)|(simp;omega)|omega) (by simp) (by simp) (by simp) (by simp) Ls_st ?_;simp [at_I a261,at_L a262,at_L a266];(repeat refine sdQ ?_);refine hK _ ?_;clear hK K;refine tn (Q5 (st':=⟨Y2 c_ q_ v1 [(8,.own 1 0 ((s217.1.set ((ix c_.to s217.2.2).toNat) v265).length)),(13,iV s217.2.2)],Y6 [(1,.row 1 (Ls (s217.1.set ((ix c_.to s217.2.2).toNat) v265)))],2⟩) (Qv [(0,0),(1,1)]) (runQ hN fun K hK=>?_));simp;(repeat refine sdQ ?_);refine hK _ (bn ?_);clear hK K;exact jn (b:=(s217.1.set ((ix c_.to s217.2.2).toNat) v265,true)) (zF h) (Qv [(0,0),(1,1)])
     have g260:¬ ((b222.length:Int) > 0):=gQ;clear g;replace h:=if_r g260 h;refine Q9 (bn ?_);exact jn (b:=(s217.1,s217.2.1)) (zF h) (Qv [(0,0),(1,1)])
    intro b219 hb219;have h:=h219;(try rw [← hb219] at h);clear h219;(try dsimp only at h);refine runQ hN fun K hK=>?_;replace ⟨a267,h⟩:=Q0 h;simp [Qo a267];(repeat refine sdQ ?_);refine hK _ ?_;clear hK K;cases h;exact rn (s':=(b219.1,b219.2,s217.2.2+1)) hk217 (Qv [(0,0),(1,1)])
   have g218:¬ (s217.2.2<(v1.ac.length:Int)):=gQ;clear g;replace h:=if_r g218 h;refine Qt (tx (lx (bh (bn ?_))));cases h;have q:_=e217:=hk217;have h:=h217;rw [← q] at h;clear q;(try dsimp only at h);cases h;exact rn (s':=(s217.1,s217.2.1)) hk165 (Qv [(0,0),(1,1)])
  have g166:¬ (s165.2=true):=gQ;clear g;replace h:=if_r g166 h;refine Qt (tx (lx (bh ?_)));cases h;exact jn (b:=s165.1) hk165 (Qv [(0,0),(1,1)])
 intro b62 hb62;have h:=h62;try rw [← hb62] at h
 clear h62;try dsimp only at h
 refine Q2 (runQ hN fun K hK=>?_);simp;repeat with_reducible refine sdQ ?_
 replace ⟨v268,hv268,h⟩:=bind_some h;refine Q3 (Q63 _ _ v268 hv268) (.cons (.aggL (.cons .val (.cons .lst (.cons .lst (.cons .lst (.cons .lst (.cons .lst (.cons .lst .nil)))))))) (.cons .w .nil)) ?_;simp;repeat refine sdQ ?_
 refine hK _ ?_;clear hK K;refine tn (Q5 (st':=⟨Yo c_ q_ (Y01 b62 [(22,.own 9 0 0)]),Y6 (Ya b62 v268 [(9,.mix 1 [])]),10⟩) (Qv [(0,0),(1,1),(10,2),(3,3),(4,4),(5,5),(6,6),(7,7),(8,8),(9,9)]) (Q2 (Q2 (runQ hN fun K hK=>?_))));simp;repeat refine sdQ ?_
 refine hK _ (tn (Q5 (st':=⟨Yo c_ q_ (Y01 b62 [(22,.own 9 0 0),(23,iV 0)]),Y6 (Ya b62 v268 [(9,.mix 1 [])]),10⟩) (Q2o 10) ?_));clear hK K;replace ⟨e269,h,h269⟩:=bind_some h;refine Qn (fun b269:List Int=>⟨Y0g [(21,.adr 1 0 0),(22,.own 8 0 b269.length)],Y6 [(1,.mix 7 [[iV v268.s.n,.own 2 0 v268.s.fr.length,.own 3 0 v268.s.to.length,.own 4 0 v268.s.id.length,.own 5 0 v268.s.cs.length,.own 6 0 v268.sz.length,.own 7 0 v268.ac.length]]),(2,rI v268.s.fr),(3,rI v268.s.to),(4,rI v268.s.id),(5,.row 1 (Ls v268.s.cs)),(6,rI v268.sz),(7,.row 1 (Ls v268.ac)),(8,rI b269)],9⟩) (fun b269=>b269=e269) ?_ ?_
 ·refine Q7 (Qy h (fun s278:List Int × Int=>⟨Yo c_ q_ (Y01 b62 [(22,.own 9 0 s278.1.length),(23,iV s278.2)]),Y6 (Ya b62 v268 [(9,rI s278.1)]),10⟩) (Q3w ⟨Yo c_ q_ (Y01 b62 [(22,.own 9 0 0),(23,iV 0)]),Y6 (Ya b62 v268 [(9,rI [])]),10⟩ (Wk.nils [] (by simp) (by simp) (by simp [nlA]) (by simp [entN,nlL,nlA,Cat.cells,SF.cells,XQuery.cells,XTerm.cells,UA,U1,IA,I1,LA,L1,BA,B1,EA,E1,E2,eB,eI,eL,Q1 _ Qa _ (fun _=>rfl),Q1 _ Qc _ (fun _=>rfl)]) (by simp)) (Q2o 10)) ?_);clear h;intro k278 s278 c278 h hk278;refine Q2 (Q2 (runQ hN fun K hK=>?_));simp;repeat refine sdQ ?_
  refine hK _ ?_;clear hK K;refine tn (Q5 (st':=⟨Yo c_ q_ (Y01 b62 [(22,.own 9 0 s278.1.length),(23,iV s278.2),(190,.val (.bool (decide (s278.2<(q_.variables_.length:Int)))))]),Y6 (Ya b62 v268 [(9,rI s278.1)]),10⟩) (Q2o 10) (Q8 rfl (fun g=>?_) fun g=>?_))
  ·have g279:s278.2<(q_.variables_.length:Int):=gQ;clear g;replace h:=if_l g279 h;refine Q9 (tn (Q2 (Q7 (Q2 (runQ hN fun K hK=>?_)))));replace ⟨a280,h⟩:=Q0 h;simp [at_I a280];(repeat refine sdQ ?_);refine hK _ ?_;clear hK K;refine tn (Q5 (st':=⟨Yo c_ q_ (Y01 b62 [(22,.own 9 0 s278.1.length),(23,iV s278.2),(24,iV (ix q_.variables_ s278.2))]),Y6 (Ya b62 v268 [(9,rI s278.1)]),10⟩) (Q2o 10) (runQ hN fun K hK=>?_));replace ⟨a281,h⟩:=Q0 h;replace ⟨a282,h⟩:=Q0 h;simp [at_L a281,at_I a282];(repeat with_reducible refine sdQ ?_);replace ⟨v283,hv283,h⟩:=bind_some h;refine Q3 (Q4c _ _ _ v283 hv283) (.cons (.aggL (.cons .val (.cons .lst (.cons .lst (.cons .lst (.cons .lst .nil)))))) (.cons (.aggL (.cons .lst (.cons .lst (.cons .lst (.cons .lst .nil))))) (.cons (.aggL (.cons .val (.cons .val .nil))) .nil))) ?_;replace ⟨a284,h⟩:=Q0 h;replace ⟨a285,h⟩:=Q0 h;(try simp only [qD,qG,zB] at a285);simp [at_L a281,at_I a282,at_I a284,a285];(repeat refine sdQ ?_);refine hK _ ?_;clear hK K;refine bn (tn (Q5 (st':=⟨Yo c_ q_ (Y01 b62 [(22,.own 9 0 ((s278.1++[ix (rx b62 (ix q_.variables_ s278.2)) v283]).length)),(23,iV s278.2)]),Y6 (Ya b62 v268 [(9,rI (s278.1++[ix (rx b62 (ix q_.variables_ s278.2)) v283]))]),10⟩) (Qv [(0,0),(1,1),(2,2),(3,3),(4,4),(5,5),(6,6),(7,7),(8,8),(14,9)]) (runQ hN fun K hK=>?_)));replace ⟨a286,h⟩:=Q0 h;simp [Qo a286];(repeat refine sdQ ?_);refine hK _ ?_;clear hK K;cases h;exact rn (s':=(s278.1++[ix (rx b62 (ix q_.variables_ s278.2)) v283],s278.2+1)) hk278 (Q2o 10)
  have g279:¬ (s278.2<(q_.variables_.length:Int)):=gQ;clear g;replace h:=if_r g279 h;refine Qt (tx (lx (bh ?_)));cases h;exact jn (b:=s278.1) hk278 (Qv [(0,0),(2,1),(3,2),(4,3),(5,4),(6,5),(7,6),(8,7),(9,8)])
 intro b269 hb269;have h:=h269;try rw [← hb269] at h
 clear h269;try dsimp only at h
 refine Q2 (runQ hN fun K hK=>?_);simp;repeat with_reducible refine sdQ ?_
 replace ⟨v287,hv287,h⟩:=bind_some h;refine Q3 (Q92 _ v287 hv287) (.cons (.aggL (.cons .val (.cons .w (.cons .w (.cons .w (.cons .w (.cons .w (.cons .w .nil)))))))) .nil) ?_;simp;repeat refine sdQ ?_
 refine hK _ (tn (Q5 (st':=⟨Y0g [(5,.own 7 0 b269.length),(6,.val (.bool (v287 == 0)))],[(0,.mix 7 [[iV v268.s.n,.own 1 0 v268.s.fr.length,.own 2 0 v268.s.to.length,.own 3 0 v268.s.id.length,.own 4 0 v268.s.cs.length,.own 5 0 v268.sz.length,.own 6 0 v268.ac.length]]),(1,rI v268.s.fr),(2,rI v268.s.to),(3,rI v268.s.id),(4,.row 1 (Ls v268.s.cs)),(5,rI v268.sz),(6,.row 1 (Ls v268.ac)),(7,rI b269)],8⟩) (Qv [(0,0),(2,1),(3,2),(4,3),(5,4),(6,5),(7,6),(8,7)]) (Ql ?_)));clear hK K;have hr:=zF h;rw [← hr];refine ⟨_,(.cell tf_33 rfl rfl rfl (by simp) (by simp) (.tmp (.tmp .nil))),?_⟩;refine ⟨(.agg rfl (.one rfl rfl (.one rfl rfl .nil))),[iV v268.s.n,lI v268.s.fr,lI v268.s.to,lI v268.s.id,.lst true 1 (Ls v268.s.cs),lI v268.sz,.lst true 1 (Ls v268.ac),lI b269,.val (.bool (v287 == 0))],[1,2,3,4,5,6,7],by simp [Cat.cells,SF.cells,XQuery.cells,XTerm.cells,UA,U1,IA,I1,LA,L1,BA,B1,EA,E1,E2,eB,eI,eL,Q1 _ Qa _ (fun _=>rfl),Q1 _ Qc _ (fun _=>rfl)],by simp,(UpL.refl _)⟩
section
attribute [local simp] Qd QD Qq QN QB
theorem nset_clsF {c:Cat} {q:XQuery} {R:Nat→Nat→Nat} {a:Nat} (hl:toN c a<c.id.length):(clsF c q R).set (toN c a) (cls (RR (newP c q R a)) (At c q (toN c a)).length)=clsF c q (updR c q R a):=by
 unfold clsF;rw [Q9R hl]
 congr 1
 funext y
 unfold updR
 by_cases e:y=toN c a
 ·subst e;simp
 simp [e]
theorem mvd_pos {c:Cat} {q:XQuery} {R:Nat→Nat→Nat} {a k:Nat} (h:¬ R (toN c a) (aN c q a (R (frN c a) k))=R (toN c a) (aN c q a k)):mvd c q R a (k+1)=mvd c q R a k++[[(aN c q a (R (frN c a) k):Int),(aN c q a k:Int)]]:=by simp [mvd,List.range_succ,List.filter_append,h]
theorem mvd_neg {c:Cat} {q:XQuery} {R:Nat→Nat→Nat} {a k:Nat} (h:R (toN c a) (aN c q a (R (frN c a) k))=R (toN c a) (aN c q a k)):mvd c q R a (k+1)=mvd c q R a k:=by simp [mvd,List.range_succ,List.filter_append,h]
theorem mvd_len (c:Cat) (q:XQuery) (R:Nat→Nat→Nat) (a k:Nat):(mvd c q R a k).length≤k:=by
 have:=zM (fun e=>decide (¬ R (toN c a) (aN c q a (R (frN c a) e))=R (toN c a) (aN c q a e))) (List.range k);simpa [mvd] using this
theorem acc_Q {α ε β:Type} {body:α × Int→Option (Ctl (α × Int) ε)} {K:ε→Option β} {Q:Option β→Prop} {a0:α} (n:Nat) (g:Nat→α) {e:ε} (h0:a0=g 0) (hn:n<4611686018427387904) (h:∀ i:Nat,i<n→body (g i,(i:Int))=some (.next (g (i+1),(i:Int)+1))) (he:body (g n,(n:Int))=some (.ret e)) (hk:Q (K e)):Q ((QA body fuel (a0,0)).bind K):=by
 rw [Q5c g n h0 hn h he];exact hk
set_option maxHeartbeats 8000000 in
theorem e_canonS {c:Cat} {q:XQuery} (hc:c.Is) (hq:QIs c q):∃ R,GI c q R∧(∀ a,a<c.fr.length→Clo c q R a)∧Q1n c q=some (quoF (QU c q.variables_) (clsF c q R),genQ c q R,mad (quoZ (clsF c q R) (clsF c q R).length) == 0):=by
 have hn:=hc.nums;have hv:=hq.v.len;have nl:=hq.nl;have lr:=hq.lr;have zl:(QU c q.variables_).sz.length=c.id.length:=by simp [QU]
 have al:(QU c q.variables_).ac.length=c.fr.length:=by simp [QU]
 have zx:∀ y:Nat,y<c.id.length→ix (QU c q.variables_).sz y=((At c q y).length:Int):=fun y hy=>Q4i _ _ hy;have lc:∀ R,(clsF c q R).length=c.id.length:=fun R=>by simp [clsF]
 unfold Q1n;rw [e_l19Free hc hq.v];simp only [zG];refine acc_Q (Q:=fun o=>∃ R,GI c q R∧(∀ a,a<c.fr.length→Clo c q R a)∧o=some (quoF (QU c q.variables_) (clsF c q R),genQ c q R,mad (quoZ (clsF c q R) (clsF c q R).length) == 0)) c.id.length (fun k=>tab k fun y=>cls (R0 c q y) (At c q y).length) (e:=clsF c q (R0 c q)) rfl (by omega) (fun y hy=>?_) (by simp only;rw [if_neg (by omega)];rfl) ?_
 ·have aL:=Q5o hc hq y;have bl:=BP_len c q y q.left_.length;simp only;rw [if_pos (by omega)];refine Q14 q.left_.length (fun i=>BP c q y i) (e:=BP c q y q.left_.length) (by simp [BP]) (by omega) (fun i hi=>?_) (by simp only;rw [if_neg (by omega)]) ?_
  ·obtain ⟨m1,m2,m3⟩:=mem_Al.1 (hq.l hi);obtain ⟨f1,f2,f3,f4⟩:=Q1c hc m2;have bl:=BP_len c q y i;simp only [hq.xl hi,hq.xr hi];have hv0:(tX (lQ q i)).arrow_=((lQ q i).2:Int):=rfl;rw [if_pos (by omega),Q4 (by omega),hv0,Q4 (by omega),f3]
   by_cases k:toN c (lQ q i).2=y
   ·rw [if_pos (by omega),Q4 (by omega),Q8i hc hq (hq.l hi)];simp only [zG];rw [Q4 (by omega),Q8i hc hq (hq.r hi)];simp only [zG];rw [← hq.ct i hi,k,Q4 (by simp;omega)];simp only [zG];rw [Q4 (by unfold B64;omega),BP_pos k]
   rw [if_neg (by omega)];simp only [zG];rw [Q4 (by unfold B64;omega),BP_neg k]
  rw [Q4 (by omega),zx y hy,e_joinG (Q94 hq y) (by omega) (by omega)];simp only [zG];rw [Q4 (by simp;omega),Q4 (by unfold B64;omega),Q29];rfl
 refine Q1p (σ:=List (List Int) × Bool) (Q:=fun o=>∃ R,GI c q R∧(∀ a,a<c.fr.length→Clo c q R a)∧o=some (quoF (QU c q.variables_) (clsF c q R),genQ c q R,mad (quoZ (clsF c q R) (clsF c q R).length) == 0)) 2001
  (fun i s=>∃ R,GI c q R∧s.1=clsF c q R∧((s.2=true∧smR c q R c.id.length+i≤2000)∨(s.2=false∧∀ a,a<c.fr.length→Clo c q R a)))
  (fun e=>∃ R,GI c q R∧e=clsF c q R∧∀ a,a<c.fr.length→Clo c q R a) (by omega) ⟨R0 c q,GI0 hc hq,rfl,.inl ⟨rfl,by have:=smR_bnd hc hq (R0 c q) c.id.length;omega⟩⟩ ?_ ?_ ?_
 ·rintro i ⟨L,more⟩ hi ⟨R,hR,e1,h2⟩
  simp only at e1 h2;subst e1;rcases h2 with ⟨rfl,hm⟩|⟨rfl,hk⟩
  ·left;simp only [if_true];refine Q1p (σ:=List (List Int) × Bool × Int) (Q:=fun o=>∃ s':List (List Int) × Bool,o=some (Ctl.next s')∧∃ R,GI c q R∧s'.1=clsF c q R∧((s'.2=true∧smR c q R c.id.length+(i+1)≤2000)∨(s'.2=false∧∀ a,a<c.fr.length→Clo c q R a))) c.fr.length
    (fun a s=>s.2.2=(a:Int)∧∃ R',GI c q R'∧s.1=clsF c q R'∧((s.2.1=true∧smR c q R' c.id.length<smR c q R c.id.length)∨(s.2.1=false∧R'=R∧∀ b,b<a→Clo c q R b)))
    (fun e=>∃ R',GI c q R'∧e.1=clsF c q R'∧((e.2=true∧smR c q R' c.id.length<smR c q R c.id.length)∨(e.2=false∧R'=R∧∀ b,b<c.fr.length→Clo c q R b))) (by omega) ⟨rfl,R,hR,rfl,.inr ⟨rfl,rfl,fun b hb=>by omega⟩⟩ ?_ ?_ ?_
   ·rintro a ⟨L,more,a'⟩ ha ⟨ea,R',hR',eL,h3⟩
    simp only at ea eL h3;subst ea;subst eL;left;obtain ⟨f1,f2,f3,f4⟩:=Q1c hc ha;obtain ⟨g1,g2⟩:=Q6P (q:=q) ha;have hrx:=Q1P (q:=q) (R:=R') f2;have hry:=Q1P (q:=q) (R:=R') f4;have aLx:=Q5o hc hq (frN c a);have aLy:=Q5o hc hq (toN c a);have lcR:=lc R';have hl1:=Q1L (R' (frN c a)) (At c q (frN c a)).length;have hl2:=Q1L (R' (toN c a)) (At c q (toN c a)).length;have hmv:mvd c q R' a 0=[]:=(by simp [mvd]);simp only [f1,f3,hrx,hry];rw [if_pos (by omega),Q4 (by omega),Q4 (by omega),Option.bind_assoc];refine acc_Q (Q:=fun o=>∃ s':List (List Int) × Bool × Int,o=some (Ctl.next s')∧s'.2.2=((a+1:Nat):Int)∧∃ R'',GI c q R''∧s'.1=clsF c q R''∧((s'.2.1=true∧smR c q R'' c.id.length<smR c q R c.id.length)∨(s'.2.1=false∧R''=R∧∀ b,b<a+1→Clo c q R b))) (At c q (frN c a)).length (fun k=>mvd c q R' a k) (e:=mvd c q R' a (At c q (frN c a)).length) hmv.symm (by omega) (fun k hk=>?_) (by simp only;rw [Q4 (by omega),if_neg (by omega)]) ?_
    ·have rk:=hR'.rp _ f2 k hk;have a1:=Q4x hc ha (q:=q) (e:=R' (frN c a) k) (by omega);have a2:=Q4x hc ha (q:=q) hk;have ml:=mvd_len c q R' a k;simp only;rw [Q4 (by omega),if_pos (by omega),Q4 (by omega),Q4 (by omega),Q4 (by omega),e_idxQ (by omega),cls_idx (hR'.rp _ f2) hk];simp only [zG];rw [Q4 (by omega),Q4 (by omega),Q4 (by omega),Q4 (by omega),Q4 (by omega),g2 _ hk,g2 (R' (frN c a) k) (by omega),Q4 (by omega),Q4 (by omega),Q4 (by omega)]
     by_cases z:R' (toN c a) (aN c q a (R' (frN c a) k))=R' (toN c a) (aN c q a k)
     ·rw [if_neg (fun w=>w ((Q4B (hR'.rp _ f4) a1.1 a2.1).2 z))];simp only [zG];rw [Q4 (by unfold B64;omega),mvd_neg z]
     rw [if_pos (fun w=>z ((Q4B (hR'.rp _ f4) a1.1 a2.1).1 w)),Q4 (by simp;omega)];simp only [zG];rw [Q4 (by unfold B64;omega),mvd_pos z]
    have ml:=mvd_len c q R' a (At c q (frN c a)).length
    by_cases z:mvd c q R' a (At c q (frN c a)).length=[]
    ·rw [z];simp only [zB];rw [if_neg (by omega)];simp only [zG];rw [Q4 (by unfold B64;omega)];refine ⟨_,rfl,by push_cast;rfl,R',hR',rfl,?_⟩;rcases h3 with ⟨h4,h5⟩|⟨h4,h5,h6⟩
     ·exact .inl ⟨h4,h5⟩
     refine .inr ⟨h4,h5,fun b hb=>?_⟩
     by_cases w:b=a
     ·subst w;rw [← h5];exact clo_nil z
     exact h6 b (by omega)
    have hpos:0<(mvd c q R' a (At c q (frN c a)).length).length:=List.length_pos_iff.2 z;rw [if_pos (by omega),Q4 (by omega),Q4 (by omega),e_pairsQ (hR'.rp _ f4) (by omega)];simp only [zG];rw [Q4 (by simp;omega),zx _ f4];have hj:=e_joinG (Q5f hc hR' ha) (by omega) (by unfold newP;simp;omega);unfold newP at hj;rw [hj];simp only [zG,zK];rw [Q4 (by omega)];simp only [zG];rw [Q4 (by unfold B64;omega)];have hs:=nset_clsF (q:=q) (R:=R') f4;unfold newP at hs;rw [hs];have um:=up_meas hc hR' ha z;refine ⟨_,rfl,by push_cast;rfl,updR c q R' a,hR'.up hc hq ha,rfl,.inl ⟨rfl,?_⟩⟩;rcases h3 with ⟨h4,h5⟩|⟨h4,h5,h6⟩
    ·omega
    rw [h5] at um ⊢;exact um
   ·rintro ⟨L,more,a'⟩ ⟨ea,R',hR',eL,h3⟩
    simp only at ea eL h3;subst ea;subst eL;simp only;rw [if_neg (by omega)];exact ⟨_,rfl,R',hR',rfl,h3⟩
   rintro ⟨L,more⟩ ⟨R',hR',eL,h3⟩
   simp only at eL h3;subst eL;refine ⟨_,rfl,R',hR',rfl,?_⟩;rcases h3 with ⟨h4,h5⟩|⟨h4,h5,h6⟩
   ·exact .inl ⟨h4,by omega⟩
   exact .inr ⟨h4,by rw [h5];exact h6⟩
  right;simp only [Bool.false_eq_true,if_false];exact ⟨_,rfl,R,hR,rfl,hk⟩
 ·rintro ⟨L,more⟩ ⟨R,hR,e1,h2⟩
  simp only at e1 h2;subst e1;rcases h2 with ⟨rfl,hm⟩|⟨rfl,hk⟩
  ·omega
  simp only [Bool.false_eq_true,if_false];exact ⟨_,rfl,R,hR,rfl,hk⟩
 rintro L ⟨R,hR,rfl,hk⟩
 refine ⟨R,hR,hk,?_⟩;rw [e_quotW (quoW_cls hc hq hR)];simp only [zG];have lcR:=lc R;refine tabg q.variables_.length (fun i=>ix (cls (R (VN q.variables_ i)) (At c q (VN q.variables_ i)).length) (plc (At c q (VN q.variables_ i)) (i,idn c (VN q.variables_ i)))) (e:=genQ c q R) (by omega) (fun i hi=>?_) (by simp only;rw [if_neg (by omega)];rfl) ?_
 ·obtain ⟨v1,v2⟩:=hq.v.at' i hi;obtain ⟨i1,i2,i3,i4⟩:=Q9p hc v2;obtain ⟨m1,m2⟩:=gen_mem hc hq hi;have hp:=Q8i hc hq m1;have hlt:=(Q3Z m1).1;rw [m2] at hp hlt;have hx:(⟨(i:Int),(idn c (VN q.variables_ i):Int)⟩:XTerm)=tX (i,idn c (VN q.variables_ i)):=rfl;simp only [v1,i1,Q1P v2,hx];rw [if_pos (by omega),Q4 (by omega),Q4 (by omega),Q4 (by omega),hp];simp only [zG];rw [Q4 (by rw [Q1L];omega)]
 rw [e_l21Made (by simp [quoF,quoZ];omega)];rfl
end
attribute [local simp] unk unA unE unT unC flat eL eI Qw Q1V Cat.cells
noncomputable def QT (c_:Cat) (x_:Int):Option (List Int) :=
 (QA (σ:=List Int × Int) (ε:=List Int) (fun s8 =>
  if s8.2<(c_.fr.length:Int) then
   (
    ass (0≤s8.2∧s8.2<(c_.fr.length:Int)) <|
    if (ix c_.fr s8.2)=x_ then
     ass ((s8.1++[s8.2]).length≤1073741824) <|
     some (s8.1++[s8.2])
    else
     some s8.1:Option (List Int)).bind fun b10 =>
   ass (B64 (s8.2+1)) <|
   some (Ctl.next (b10,s8.2+1))
  else
   some (Ctl.ret s8.1)) fuel ([],0)).bind fun b1 =>
 some b1
@[simp] abbrev Y09 (a:Cat) (b:List (Nat × AV)):List (Nat × AV):=(0,.rptr (Cat.cells true a))::b
@[simp] abbrev Y0c (a:Cat) (b:List (Nat × AV)):List (Nat × AV):=(12,lI a.fr)::(13,iV (a.fr.length:Int))::b
theorem Q2Q (c_:Cat) (x_:Int) (r:List Int) (h:QT c_ x_=some r):Contract Try.prog 72 [.rptr (c_.cells true),iV x_] (lI r):=by
 refine Qe (rvs:=[.tmp 4]) (rs:=[lI r]) Try.func72 rfl rfl rfl rfl (by simp [Try.f72]) fun F hN hP=>?_;unfold QT at h;refine Q2 (runQ hN fun K hK=>?_);simp;repeat refine sdQ ?_
 refine hK _ ?_;clear hK K;refine tn (Q5 (st':=⟨Y09 c_ [(1,iV x_)],[],0⟩) (Qv []) (Q2 (runQ hN fun K hK=>?_)));simp;repeat refine sdQ ?_
 refine hK _ ?_;clear hK K;refine tn (Q5 (st':=⟨Y09 c_ [(1,iV x_),(5,.own 0 0 0)],[(0,.mix 1 [])],1⟩) (Qv [(0,0)]) (Q2 (Q2 (runQ hN fun K hK=>?_))));simp;repeat refine sdQ ?_
 refine hK _ (tn (Q5 (st':=⟨(1,iV x_)::(5,.own 0 0 0)::Y0c c_ [(14,iV 0)],[(0,.mix 1 [])],1⟩) (Qv [(0,0)]) ?_));clear hK K;replace ⟨e1,h,h1⟩:=bind_some h;refine Qn (fun b1:List Int=>⟨[(5,.own 0 0 b1.length)],[(0,rI b1)],1⟩) (fun b1=>b1=e1) ?_ ?_
 ·refine Q7 (Qy h (fun s8:List Int × Int=>⟨(1,iV x_)::(5,.own 0 0 s8.1.length)::Y0c c_ [(14,iV s8.2)],[(0,rI s8.1)],1⟩) (Q3w ⟨(1,iV x_)::(5,.own 0 0 0)::Y0c c_ [(14,iV 0)],[(0,rI [])],1⟩ (Wk.nils [] (by simp) (by simp) (by simp [nlA]) (by simp [entN,nlL,nlA,Cat.cells,UA,U1,IA,I1,LA,L1,BA,B1,EA,E1,E2,eB,eI,eL]) (by simp)) (Qv [(0,0)])) ?_);clear h;intro k8 s8 c8 h hk8;refine Q2 (runQ hN fun K hK=>?_);simp;repeat refine sdQ ?_
  refine hK _ ?_;clear hK K;refine tn (Q2 (Q8 rfl (fun g=>?_) fun g=>?_))
  ·have g9:s8.2<(c_.fr.length:Int):=gQ;clear g;replace h:=if_l g9 h;refine Q9 (tn (Q2 ?_));replace ⟨e10,h,h10⟩:=bind_some h;refine Qn (fun b10:List Int=>⟨(1,iV x_)::(5,.own 0 0 b10.length)::Y0c c_ [(14,iV s8.2)],[(0,rI b10)],1⟩) (fun b10=>b10=e10) ?_ ?_
   ·refine Q7 (Q2 (runQ hN fun K hK=>?_));replace ⟨a11,h⟩:=Q0 h;simp [at_I a11];(repeat refine sdQ ?_);refine hK _ ?_;clear hK K;refine tn (Q5 (st':=⟨(1,iV x_)::(5,.own 0 0 s8.1.length)::(6,iV s8.2)::(7,iV (ix c_.fr s8.2))::Y0c c_ [(14,iV s8.2)],[(0,rI s8.1)],1⟩) (Qv [(0,0)]) (Q2 (runQ hN fun K hK=>?_)));simp;(repeat refine sdQ ?_);refine hK _ ?_;clear hK K;refine tn (Q8 rfl (fun g=>?_) fun g=>?_)
    ·have g12:(ix c_.fr s8.2)=x_:=gQ;clear g;replace h:=if_l g12 h;refine runQ hN fun K hK=>?_;replace ⟨a13,h⟩:=Q0 h;(try simp only [qD,qG,zB] at a13);simp [a13];(repeat refine sdQ ?_);refine hK _ (bn ?_);clear hK K;exact jn (b:=s8.1++[s8.2]) (zF h) (Qv [(2,0)])
    have g12:¬ ((ix c_.fr s8.2)=x_):=gQ;clear g;replace h:=if_r g12 h;refine Q9 (bn ?_);exact jn (b:=s8.1) (zF h) (Qv [(0,0)])
   intro b10 hb10;have h:=h10;(try rw [← hb10] at h);clear h10;(try dsimp only at h);refine runQ hN fun K hK=>?_;replace ⟨a14,h⟩:=Q0 h;simp [Qo a14];(repeat refine sdQ ?_);refine hK _ ?_;clear hK K;cases h;exact rn (s':=(b10,s8.2+1)) hk8 (Qv [(0,0)])
  have g9:¬ (s8.2<(c_.fr.length:Int)):=gQ;clear g;replace h:=if_r g9 h;refine Qt (tx (lx (bh ?_)));cases h;exact jn (b:=s8.1) hk8 (Qv [(0,0)])
 intro b1 hb1;have h:=h1;try rw [← hb1] at h
 clear h1;try dsimp only at h
 refine Q2 (runQ hN fun K hK=>?_);simp;repeat refine sdQ ?_
 refine hK _ (tn (Q5 (st':=⟨[(4,.own 0 0 b1.length)],[(0,rI b1)],1⟩) (Qv [(0,0)]) (Ql ?_)));clear hK K;have hr:=zF h;rw [← hr];refine ⟨_,(.tmp .nil),?_⟩;refine ⟨(.one rfl rfl .nil),[lI b1],[0],by simp [Cat.cells,UA,U1,IA,I1,LA,L1,BA,B1,EA,E1,E2,eB,eI,eL],by simp,(UpL.refl _)⟩
attribute [local simp] unk unA unE unT unC flat eL eI Qw Qh XPairint64.cells
noncomputable def Qr (p0_:List XPairint64):Option (List (XPairint64 × Int)) :=
 (QA (σ:=(List (XPairint64 × Int)) × Int) (ε:=List (XPairint64 × Int)) (fun s6 =>
  if s6.2<(p0_.length:Int) then
   ass (0≤s6.2∧s6.2<(p0_.length:Int)) <|
   ass (s6.1.length<1099511627776) <|
   ass (B64 (s6.2+1)) <|
   some (Ctl.next (tset (gx p0_ s6.2) s6.2 s6.1,s6.2+1))
  else
   some (Ctl.ret s6.1)) fuel ([],0)).bind fun b1 =>
 some b1
@[simp] abbrev YX (a:List XPairint64) (b:List (Nat × AV)):List (Nat × AV):=(7,.lst true 2 (Es (XPairint64.cells true) a))::(8,iV (a.length:Int))::b
theorem Q1d (p0_:List XPairint64) (r:List (XPairint64 × Int)) (h:Qr p0_=some r):FContract Try.prog false 73 [.lst true 2 (Es (XPairint64.cells true) p0_)] (.cmap (.st 2) (Qj r)):=by
 refine Q5v false (ts:=[2]) (rs:=[.cmap (.st 2) (Qj r)]) Try.func73 rfl rfl rfl rfl (by simp [Try.f73]) fun F hN hP=>?_;unfold Qr at h;refine Q2 (Qm [] mo (by rw [hN];decide) fun K hK=>?_);simp;repeat refine sdQ ?_
 refine hK _ ?_;clear hK K;refine tn (Q5 (st':=⟨[(0,.lst true 2 (Es (XPairint64.cells true) p0_))],[],0⟩) (Qv []) (Q2 (Qm [] mo (by rw [hN];decide) fun K hK=>?_)));simp;repeat refine sdQ ?_
 refine hK _ ?_;clear hK K;refine tn (Q5 (st':=⟨[(0,.lst true 2 (Es (XPairint64.cells true) p0_)),(3,.mp 0)],[(0,.mapE (.st 2) (Qj []))],1⟩) (Qv [(0,0)]) (Q2 (Q2 (Qm [] mo (by rw [hN];decide) fun K hK=>?_))));simp;repeat refine sdQ ?_
 refine hK _ (tn (Q5 (st':=⟨(3,.mp 0)::YX p0_ [(9,iV 0)],[(0,.mapE (.st 2) (Qj []))],1⟩) (Qv [(0,0)]) ?_));clear hK K;replace ⟨e1,h,h1⟩:=bind_some h;refine Qn (fun b1:List (XPairint64 × Int)=>⟨[(3,.mp 0)],[(0,.mapE (.st 2) (Qj b1))],1⟩) (fun b1=>b1=e1) ?_ ?_
 ·refine Q7 (Qy h (fun s6:(List (XPairint64 × Int)) × Int=>⟨(3,.mp 0)::YX p0_ [(9,iV s6.2)],[(0,.mapE (.st 2) (Qj s6.1))],1⟩) (Qv [(0,0)]) ?_);clear h;intro k6 s6 c6 h hk6;refine Q2 (Qm [] mo (by rw [hN];decide) fun K hK=>?_);simp;repeat refine sdQ ?_
  refine hK _ ?_;clear hK K;refine tn (Q2 (Q8 rfl (fun g=>?_) fun g=>?_))
  ·have g7:s6.2<(p0_.length:Int):=gQ;clear g;replace h:=if_l g7 h;refine Q9 (tn (Q2 (Q7 (Q2 (Qm [] mo (by rw [hN];decide) fun K hK=>?_)))));replace ⟨a8,h⟩:=Q0 h;simp [at_E (c:=(XPairint64.cells true)) a8];(repeat refine sdQ ?_);refine hK _ ?_;clear hK K;refine tn (Q5 (st':=⟨(3,.mp 0)::(4,iV s6.2)::(5,.adr 1 0 0)::YX p0_ [(9,iV s6.2)],[(0,.mapE (.st 2) (Qj s6.1)),(1,.mix 2 [(XPairint64.cells true (gx p0_ s6.2))])],2⟩) (Qv [(0,0),(1,1)]) (Qm [] mo (by rw [hN];decide) fun K hK=>?_));replace ⟨a9,h⟩:=Q0 h;simp [a9];(repeat refine sdQ ?_);refine hK _ ?_;clear hK K;refine bn (tn (Q5 (st':=⟨(3,.mp 0)::YX p0_ [(9,iV s6.2)],[(0,.mapE (.st 2) (Qj (tset (gx p0_ s6.2) s6.2 s6.1)))],1⟩) (Qv [(0,0)]) (Qm [] mo (by rw [hN];decide) fun K hK=>?_)));replace ⟨a10,h⟩:=Q0 h;simp [Qo a10];(repeat refine sdQ ?_);refine hK _ ?_;clear hK K;cases h;exact rn (s':=(tset (gx p0_ s6.2) s6.2 s6.1,s6.2+1)) hk6 (Qv [(0,0)])
  have g7:¬ (s6.2<(p0_.length:Int)):=gQ;clear g;replace h:=if_r g7 h;refine Qt (tx (lx (bh ?_)));cases h;exact jn (b:=s6.1) hk6 (Qv [(0,0)])
 intro b1 hb1;have h:=h1;try rw [← hb1] at h
 clear h1;try dsimp only at h
 refine Q2 (Qm [] mo (by rw [hN];decide) fun K hK=>?_);simp;repeat refine sdQ ?_
 refine hK _ (tn (Q5 (st':=⟨[(2,.mp 0)],[(0,.mapE (.st 2) (Qj b1))],1⟩) (Qv [(0,0)]) (Ql ?_)));clear hK K;have hr:=zF h;rw [← hr];exact (.one (by simp [ownB]) (.mp rfl) .nil)
section
attribute [local simp] Qd QD Qq QN QB
def pX (p:Nat × Nat):XPairint64:=⟨(p.1:Int),(p.2:Int)⟩
theorem pX_inj {p q:Nat × Nat} (h:pX p=pX q):p=q:=by
 simp only [pX,XPairint64.mk.injEq] at h;exact Prod.ext (by omega) (by omega)
theorem e_outQ {c:Cat} (hc:c.Is) (x:Nat):QT c x=some ((rowE c x).map Int.ofNat):=by
 have hn:=hc.nums;unfold QT;refine Q14 c.fr.length (fun j=>((List.range j).filter fun h=>decide (frN c h=x)).map Int.ofNat) (e:=(rowE c x).map Int.ofNat) (by simp) (by omega) (fun j hj=>?_) (by simp only;rw [if_neg (by omega)];rfl) rfl;obtain ⟨f1,f2,f3,f4⟩:=Q1c hc hj;have h4:=zM (fun h=>decide (frN c h=x)) (List.range j);simp only [List.length_range] at h4;simp only [List.range_succ,List.filter_append,List.filter_cons,List.filter_nil];rw [if_pos (by omega),Q4 (by omega),f1]
 by_cases q1:frN c j=x
 ·have q1':(frN c j:Int)=x:=by omega
  rw [if_pos q1',Q4 (by simp only [qD,zL,List.length_singleton];omega)];simp only [zG];rw [Q4 (by unfold B64;omega)];simp [q1]
 have q1':¬ (frN c j:Int)=x:=by omega
 rw [if_neg q1'];simp only [zG];rw [Q4 (by unfold B64;omega)];simp [q1]
theorem e_numbP {L:List XPairint64} (hl:L.length≤1000000):Qr L=some (plM (fun i:Nat=>gx L i) L.length):=by
 unfold Qr;refine Q14 L.length (fun i=>plM (fun i:Nat=>gx L i) i) (e:=plM (fun i:Nat=>gx L i) L.length) rfl (by omega) (fun i hi=>?_) (by simp only;rw [if_neg (by omega)]) rfl;have:=plM_len (fun i:Nat=>gx L i) i;simp only;rw [if_pos (by omega),Q4 (by omega),Q4 (by omega),Q4 (by unfold B64;omega)];rfl
theorem Q4D {L:List (Nat × Nat)} {i:Nat} (h:i<L.length):gx (L.map pX) i=pX L[i]:=by simp [gx,qB,h]
theorem find_P {L:List (Nat × Nat)} (hn:L.Nodup) {p:Nat × Nat} (h:p∈L):QP (pX p) (plM (fun i:Nat=>gx (L.map pX) i) (L.map pX).length)=some (plc L p:Int):=by
 have hl:=Q3D h;have inj:∀ a b,a<(L.map pX).length→b<(L.map pX).length→gx (L.map pX) a=gx (L.map pX) b→a=b:=by
  intro a b ha hb e;simp only [zL] at ha hb;rw [Q4D ha,Q4D hb] at e;have e2:=pX_inj e;have h1:=Q7R hn ha;have h2:=Q7R hn hb;rw [e2] at h1;omega
 have r:=plM_find (k:=fun i:Nat=>gx (L.map pX) i) (n:=(L.map pX).length) (fun a b ha hb e=>inj a b ha hb e) (j:=plc L p) (by simpa using hl);rw [Q4D hl,Q9G h] at r;exact r
theorem Al_len {c:Cat} {q:XQuery} (hc:c.Is) (hq:QIs c q):(Al c q).length≤160:=by
 have h1:=Q36 hc q.variables_ q.variables_.length;have h3:=hq.v.len;unfold Al;omega
noncomputable def jP (c:Cat) (q:XQuery) (i k:Nat):List Int:=[(plc (Al c q) (thn c (lQ q i) k):Int),(plc (Al c q) (thn c (rQ q i) k):Int)]
noncomputable def JL (c:Cat) (q:XQuery):Nat→List (List Int)
 | 0=>[]
 | i+1=>JL c q i++(rowE c (toN c (lQ q i).2)).map (jP c q i)
theorem mem_JL {c:Cat} {q:XQuery} {p:List Int}:∀ {n:Nat},p∈JL c q n↔∃ i k,i<n∧(k<c.fr.length∧frN c k=toN c (lQ q i).2)∧p=jP c q i k
 | 0=>by simp [JL]
 | n+1=>by
  rw [JL,List.mem_append,mem_JL (n:=n),List.mem_map];constructor
  ·rintro (⟨i,k,h1,h2,h3⟩|⟨k,h1,h2⟩)
   ·exact ⟨i,k,by omega,h2,h3⟩
   exact ⟨n,k,by omega,mem_rowE.1 h1,h2.symm⟩
  rintro ⟨i,k,h1,h2,h3⟩
  by_cases e:i=n
  ·subst e;exact .inr ⟨k,mem_rowE.2 h2,h3.symm⟩
  exact .inl ⟨i,k,by omega,h2,h3⟩
theorem jP_at {c:Cat} {q:XQuery} (hc:c.Is) (hq:QIs c q) {i k:Nat} (hi:i<q.left_.length) (hk:k<c.fr.length) (e:frN c k=toN c (lQ q i).2):thn c (lQ q i) k∈Al c q∧thn c (rQ q i) k∈Al c q :=
 ⟨(Q3p hc (hq.l hi) hk e.symm).1,(Q3p hc (hq.r hi) hk (by rw [← hq.ct i hi];exact e.symm)).1⟩
theorem JL_prs {c:Cat} {q:XQuery} (hc:c.Is) (hq:QIs c q) {n:Nat} (hn:n≤q.left_.length):Prs (Al c q).length (JL c q n):=by
 intro p hp;obtain ⟨i,k,h1,⟨h2,h3⟩,rfl⟩:=mem_JL.1 hp;have g:=jP_at hc hq (by omega) h2 h3;exact ⟨_,_,Q3D g.1,Q3D g.2,rfl⟩
noncomputable def JJ (c:Cat) (q:XQuery):Nat→Nat:=RR (JL c q q.left_.length)
noncomputable def aE (c:Cat) (q:XQuery) (i:Nat):Nat × Nat:=(Al c q).getD i (0,0)
theorem Q9y (c:Cat) (q:XQuery):(Al c q).Nodup:=Q4G _ _ _
theorem Q95 {c:Cat} {q:XQuery} {p:Nat × Nat} (h:p∈Al c q):aE c q (plc (Al c q) p)=p:=by
 have hl:=Q3D h;simp [aE,qB,hl,Q9G h]
theorem JJ_iff {c:Cat} {q:XQuery} (hc:c.Is) (hq:QIs c q) {p p':Nat × Nat} (hp:p∈Al c q) (hp':p'∈Al c q):JJ c q (plc (Al c q) p)=JJ c q (plc (Al c q) p')↔CG c q p p':=by
 unfold JJ;rw [Q6f (JL_prs hc hq (qE _))];constructor
 ·intro k;have both:∀ {x y:Nat},Con (JL c q q.left_.length) x y→CG c q (aE c q x) (aE c q y):=by
   intro x y k
   induction k with
   | @pr u v hm =>
    obtain ⟨i,j,h1,⟨h2,h3⟩,e⟩:=mem_JL.1 hm;have g:=jP_at hc hq h1 h2 h3;simp only [jP,List.cons.injEq,and_true] at e;have e1:u=plc (Al c q) (thn c (lQ q i) j):=(by omega);have e2:v=plc (Al c q) (thn c (rQ q i) j):=(by omega);subst e1;subst e2;rw [Q95 g.1,Q95 g.2];exact .gen h1 h2 h3.symm
   | refl a=>exact .refl _
   | symm _ ih=>exact ih.symm
   | trans _ _ i1 i2=>exact i1.trans i2
  have:=both k
  rwa [Q95 hp,Q95 hp'] at this
 intro k;clear hp'
 induction k with
 | @gen i j hi hj e =>
  exact .pr (mem_JL.2 ⟨i,j,hi,⟨hj,e.symm⟩,rfl⟩)
 | refl p=>exact .refl _
 | symm hh ih=>exact (ih ((hh.mem hc hq).1.2 hp)).symm
 | trans h1 h2 i1 i2=>exact (i1 hp).trans (i2 ((h1.mem hc hq).1.1 hp))
theorem RR_jP {c:Cat} {q:XQuery} {P:List (List Int)} {i k:Nat}:RR (P++[jP c q i k])=jnr (RR P) (plc (Al c q) (thn c (lQ q i) k)) (plc (Al c q) (thn c (rQ q i) k)):=by
 rw [RR_snoc];rfl
end
attribute [local simp] unk unA unE unT unC flat eL eI Qw
noncomputable def Q3i (sizes_:List Int):Option Bool :=
 (Q1Z sizes_ 17).bind fun v1 =>
 some v1
theorem Q8S (sizes_:List Int) (r:Bool) (h:Q3i sizes_=some r):Contract Try.prog 81 [lI sizes_] (.val (.bool r)):=by
 refine Qe (rvs:=[.tmp 2]) (rs:=[.val (.bool r)]) Try.func81 rfl rfl rfl rfl (by simp [Try.f81]) fun F hN hP=>?_;unfold Q3i at h;refine Q2 (runQ hN fun K hK=>?_);simp;repeat refine sdQ ?_
 refine hK _ ?_;clear hK K;refine tn (Q5 (st':=⟨[(0,lI sizes_)],[],0⟩) (Qv []) (Q2 (runQ hN fun K hK=>?_)));simp;repeat with_reducible refine sdQ ?_
 replace ⟨v1,hv1,h⟩:=bind_some h;refine Q3 (Q4P _ _ v1 hv1) (.cons .lst (.cons .val .nil)) ?_;simp;repeat refine sdQ ?_
 refine hK _ (tn (Q5 (st':=⟨[(2,.val (.bool v1))],[],0⟩) (Qv []) (Ql ?_)));clear hK K;have hr:=zF h;rw [← hr];refine ⟨_,(.tmp .nil),?_⟩;refine ⟨(.one rfl rfl .nil),[.val (.bool v1)],[],by simp [UA,U1,IA,I1,LA,L1,BA,B1,EA,E1,E2,eB,eI,eL],by simp,(UpL.refl _)⟩
attribute [local simp] unk unA unE unT unC flat eL eI Qw
noncomputable def Q2N (n_:Int):Option (List Int) :=
 (Q2F n_).bind fun v1 =>
 some v1
theorem Q83 (n_:Int) (r:List Int) (h:Q2N n_=some r):Contract Try.prog 74 [iV n_] (lI r):=by
 refine Qe (rvs:=[.tmp 2]) (rs:=[lI r]) Try.func74 rfl rfl rfl rfl (by simp [Try.f74]) fun F hN hP=>?_;unfold Q2N at h;refine Q2 (runQ hN fun K hK=>?_);simp;repeat refine sdQ ?_
 refine hK _ ?_;clear hK K;refine tn (Q5 (st':=⟨[(0,iV n_)],[],0⟩) (Qv []) (Q2 (runQ hN fun K hK=>?_)));simp;repeat with_reducible refine sdQ ?_
 replace ⟨v1,hv1,h⟩:=bind_some h;refine Q3 (Q8T _ v1 hv1) (.cons .val .nil) ?_;simp;repeat refine sdQ ?_
 refine hK _ (tn (Q5 (st':=⟨[(2,.own 0 0 v1.length)],[(0,rI v1)],1⟩) (Qv [(0,0)]) (Ql ?_)));clear hK K;have hr:=zF h;rw [← hr];refine ⟨_,(.tmp .nil),?_⟩;refine ⟨(.one rfl rfl .nil),[lI v1],[0],by simp [UA,U1,IA,I1,LA,L1,BA,B1,EA,E1,E2,eB,eI,eL],by simp,(UpL.refl _)⟩
attribute [local simp] unk unA unE unT unC flat eL eI Qw
noncomputable def QR (p_:List Int):Option Int :=
 (QA (σ:=Int × Int) (ε:=Int) (fun s6 =>
  if s6.2<(p_.length:Int) then
   ass (0≤s6.2∧s6.2<(p_.length:Int)) <|
   ass (B64 ((ix p_ s6.2)+1)) <|
   ass (B64 (s6.2+1)) <|
   some (Ctl.next ((if (ix p_ s6.2)+1 > s6.1 then (ix p_ s6.2)+1 else s6.1),s6.2+1))
  else
   some (Ctl.ret s6.1)) fuel (0,0)).bind fun b1 =>
 some b1
theorem Q3G (p_:List Int) (r:Int) (h:QR p_=some r):Contract Try.prog 80 [lI p_] (iV r):=by
 refine Qe (rvs:=[.tmp 2]) (rs:=[iV r]) Try.func80 rfl rfl rfl rfl (by simp [Try.f80]) fun F hN hP=>?_;unfold QR at h;refine Q2 (runQ hN fun K hK=>?_);simp;repeat refine sdQ ?_
 refine hK _ ?_;clear hK K;refine tn (Q5 (st':=⟨[(0,lI p_)],[],0⟩) (Qv []) (Q2 (runQ hN fun K hK=>?_)));simp;repeat refine sdQ ?_
 refine hK _ ?_;clear hK K;refine tn (Q5 (st':=⟨[(0,lI p_),(3,iV 0)],[],0⟩) (Qv []) (Q2 (Q2 (runQ hN fun K hK=>?_))));simp;repeat refine sdQ ?_
 refine hK _ (tn (Q5 (st':=⟨[(3,iV 0),(6,lI p_),(7,iV (p_.length:Int)),(8,iV 0)],[],0⟩) (Qv []) ?_));clear hK K;replace ⟨e1,h,h1⟩:=bind_some h;refine Qn (fun b1:Int=>⟨[(3,iV b1)],[],0⟩) (fun b1=>b1=e1) ?_ ?_
 ·refine Q7 (Qy h (fun s6:Int × Int=>⟨[(3,iV s6.1),(6,lI p_),(7,iV (p_.length:Int)),(8,iV s6.2)],[],0⟩) (Qv []) ?_);clear h;intro k6 s6 c6 h hk6;refine Q2 (runQ hN fun K hK=>?_);simp;repeat refine sdQ ?_
  refine hK _ ?_;clear hK K;refine tn (Q2 (Q8 rfl (fun g=>?_) fun g=>?_))
  ·have g7:s6.2<(p_.length:Int):=gQ;clear g;replace h:=if_l g7 h;refine Q9 (tn (Q2 (Q7 (Q2 (runQ hN fun K hK=>?_)))));replace ⟨a8,h⟩:=Q0 h;simp [at_I a8];(repeat refine sdQ ?_);refine hK _ ?_;clear hK K;refine tn (Q5 (st':=⟨[(3,iV s6.1),(5,iV (ix p_ s6.2)),(6,lI p_),(7,iV (p_.length:Int)),(8,iV s6.2)],[],0⟩) (Qv []) (runQ hN fun K hK=>?_));replace ⟨a9,h⟩:=Q0 h;simp [Qo a9];(repeat refine sdQ ?_);refine hK _ ?_;clear hK K;refine bn (tn (Q5 (st':=⟨[(3,iV (if (ix p_ s6.2)+1 > s6.1 then (ix p_ s6.2)+1 else s6.1)),(6,lI p_),(7,iV (p_.length:Int)),(8,iV s6.2)],[],0⟩) (Qv []) (runQ hN fun K hK=>?_)));replace ⟨a10,h⟩:=Q0 h;simp [Qo a10];(repeat refine sdQ ?_);refine hK _ ?_;clear hK K;cases h;exact rn (s':=((if (ix p_ s6.2)+1 > s6.1 then (ix p_ s6.2)+1 else s6.1),s6.2+1)) hk6 (Qv [])
  have g7:¬ (s6.2<(p_.length:Int)):=gQ;clear g;replace h:=if_r g7 h;refine Qt (tx (lx (bh ?_)));cases h;exact jn (b:=s6.1) hk6 (Qv [])
 intro b1 hb1;have h:=h1;try rw [← hb1] at h
 clear h1;try dsimp only at h
 refine Q2 (runQ hN fun K hK=>?_);simp;repeat refine sdQ ?_
 refine hK _ (tn (Q5 (st':=⟨[(2,iV b1)],[],0⟩) (Qv []) (Ql ?_)));clear hK K;have hr:=zF h;rw [← hr];refine ⟨_,(.tmp .nil),?_⟩;refine ⟨(.one rfl rfl .nil),[iV b1],[],by simp [UA,U1,IA,I1,LA,L1,BA,B1,EA,E1,E2,eB,eI,eL],by simp,(UpL.refl _)⟩
attribute [local simp] Qh Qa Qc XPairint64.cells XQuery.cells XTerm.cells
noncomputable def QG (c_:Cat) (q_:XQuery):Option (Unit ⊕ (Int × List Int × List Int × List Int × List (List Int) × List Int × List (List Int) × (List (XPairint64 × Int)))) :=
 (QA (σ:=List XPairint64 × Int) (ε:=List XPairint64) (fun s17 =>
  if s17.2<(q_.variables_.length:Int) then
   (
    ass (0≤s17.2∧s17.2<(q_.variables_.length:Int)) <|
    (QT c_ (ix q_.variables_ s17.2)).bind fun v21 =>
    (QA (σ:=List XPairint64 × Int) (ε:=List XPairint64) (fun s26 =>
     if s26.2<(v21.length:Int) then
      ass (0≤s26.2∧s26.2<(v21.length:Int)) <|
      ass ((s26.1++[(⟨s17.2,ix v21 s26.2⟩:XPairint64)]).length≤1073741824) <|
      ass (B64 (s26.2+1)) <|
      some (Ctl.next (s26.1++[(⟨s17.2,ix v21 s26.2⟩:XPairint64)],s26.2+1))
     else
      some (Ctl.ret s26.1)) fuel (s17.1,0)).bind fun p26 =>
    some p26:Option (List XPairint64)).bind fun b19 =>
   ass (B64 (s17.2+1)) <|
   some (Ctl.next (b19,s17.2+1))
  else
   some (Ctl.ret s17.1)) fuel ([],0)).bind fun b2 =>
 (Qr b2).bind fun v32 =>
 (Q2N (b2.length:Int)).bind fun v33 =>
 (QA (σ:=List Int × Int) (ε:=List Int) (fun s133 =>
  if s133.2<(q_.left_.length:Int) then
   (
    ass (0≤s133.2∧s133.2<(q_.left_.length:Int)) <|
    ass (0≤s133.2∧s133.2<(q_.right_.length:Int)) <|
    ass (0≤(gx q_.left_ s133.2).arrow_∧(gx q_.left_ s133.2).arrow_<(c_.to.length:Int)) <|
    (QT c_ (ix c_.to ((gx q_.left_ s133.2).arrow_))).bind fun v139 =>
    (QA (σ:=List Int × Int) (ε:=List Int) (fun s185 =>
     if s185.2<(v139.length:Int) then
      ass (0≤s185.2∧s185.2<(v139.length:Int)) <|
      (QK c_ ((gx q_.left_ s133.2).arrow_) (ix v139 s185.2)).bind fun v188 =>
      (QK c_ ((gx q_.right_ s133.2).arrow_) (ix v139 s185.2)).bind fun v189 =>
      (
       (
        (QA (σ:=List Int × Int) (ε:=List Int × Int) (fun s200 =>
         ass (0≤s200.2∧s200.2<(s200.1.length:Int)) <|
         if ¬ ((ix s200.1 s200.2)=s200.2) then
          ass (0≤s200.2∧s200.2<(s200.1.length:Int)) <|
          ass (0≤ix s200.1 s200.2∧ix s200.1 s200.2<(s200.1.length:Int)) <|
          ass (0≤s200.2∧s200.2<(s200.1.length:Int)) <|
          ass (0≤s200.2∧s200.2<((s200.1.set s200.2.toNat (ix s200.1 (ix s200.1 s200.2))).length:Int)) <|
          some (Ctl.next (s200.1.set s200.2.toNat (ix s200.1 (ix s200.1 s200.2)),ix (s200.1.set s200.2.toNat (ix s200.1 (ix s200.1 s200.2))) s200.2))
         else
          some (Ctl.ret (s200.1,s200.2))) fuel (s185.1,(QP (⟨(gx q_.left_ s133.2).variable_,v188⟩:XPairint64) v32).getD 0)).bind fun b192 =>
        some (b192.1,b192.2):Option (List Int × Int)).bind fun v207 =>
       ass (v207.1.length=s185.1.length) <|
       (
        (QA (σ:=List Int × Int) (ε:=List Int × Int) (fun s218 =>
         ass (0≤s218.2∧s218.2<(s218.1.length:Int)) <|
         if ¬ ((ix s218.1 s218.2)=s218.2) then
          ass (0≤s218.2∧s218.2<(s218.1.length:Int)) <|
          ass (0≤ix s218.1 s218.2∧ix s218.1 s218.2<(s218.1.length:Int)) <|
          ass (0≤s218.2∧s218.2<(s218.1.length:Int)) <|
          ass (0≤s218.2∧s218.2<((s218.1.set s218.2.toNat (ix s218.1 (ix s218.1 s218.2))).length:Int)) <|
          some (Ctl.next (s218.1.set s218.2.toNat (ix s218.1 (ix s218.1 s218.2)),ix (s218.1.set s218.2.toNat (ix s218.1 (ix s218.1 s218.2))) s218.2))
         else
          some (Ctl.ret (s218.1,s218.2))) fuel (v207.1,(QP (⟨(gx q_.right_ s133.2).variable_,v189⟩:XPairint64) v32).getD 0)).bind fun b210 =>
        some (b210.1,b210.2):Option (List Int × Int)).bind fun v225 =>
       ass (v225.1.length=v207.1.length) <|
       ass (0≤(if v225.2 > v207.2 then v225.2 else v207.2)∧(if v225.2 > v207.2 then v225.2 else v207.2)<(v225.1.length:Int)) <|
       some (v225.1.set ((if v225.2 > v207.2 then v225.2 else v207.2).toNat) (if v225.2<v207.2 then v225.2 else v207.2),v207.2 != v225.2):Option (List Int × Bool)).bind fun v228 =>
      ass (v228.1.length=s185.1.length) <|
      ass (B64 (s185.2+1)) <|
      some (Ctl.next (v228.1,s185.2+1))
     else
      some (Ctl.ret s185.1)) fuel (s133.1,0)).bind fun p185 =>
    some p185:Option (List Int)).bind fun b135 =>
   ass (B64 (s133.2+1)) <|
   some (Ctl.next (b135,s133.2+1))
  else
   some (Ctl.ret s133.1)) fuel (v33,0)).bind fun b34 =>
 (Q1B c_).bind fun v232 =>
 (QA (σ:=List Int × List Int × (List (XPairint64 × Int)) × Int) (ε:=List Int × (List (XPairint64 × Int))) (fun s305 =>
  if s305.2.2.2<c_.n then
   (QA (σ:=List Int × List Int × List XPairint64 × Int) (ε:=List Int × List Int × List XPairint64) (fun s334 =>
    if s334.2.2.2<(b2.length:Int) then
     (
      ass (0≤s334.2.2.2∧s334.2.2.2<(b2.length:Int)) <|
      ass (0≤(gx b2 s334.2.2.2).second_∧(gx b2 s334.2.2.2).second_<(c_.to.length:Int)) <|
      if (ix c_.to ((gx b2 s334.2.2.2).second_))=s305.2.2.2 then
       (
        (QA (σ:=List Int × Int) (ε:=List Int × Int) (fun s349 =>
         ass (0≤s349.2∧s349.2<(s349.1.length:Int)) <|
         if ¬ ((ix s349.1 s349.2)=s349.2) then
          ass (0≤s349.2∧s349.2<(s349.1.length:Int)) <|
          ass (0≤ix s349.1 s349.2∧ix s349.1 s349.2<(s349.1.length:Int)) <|
          ass (0≤s349.2∧s349.2<(s349.1.length:Int)) <|
          ass (0≤s349.2∧s349.2<((s349.1.set s349.2.toNat (ix s349.1 (ix s349.1 s349.2))).length:Int)) <|
          some (Ctl.next (s349.1.set s349.2.toNat (ix s349.1 (ix s349.1 s349.2)),ix (s349.1.set s349.2.toNat (ix s349.1 (ix s349.1 s349.2))) s349.2))
         else
          some (Ctl.ret (s349.1,s349.2))) fuel (s334.1,s334.2.2.2)).bind fun b341 =>
        some (b341.1,b341.2):Option (List Int × Int)).bind fun v356 =>
       ass (v356.1.length=s334.1.length) <|
       ass ((s334.2.1++[v356.2]).length≤1073741824) <|
       ass ((s334.2.2.1++[(gx b2 s334.2.2.2)]).length≤1073741824) <|
       some (v356.1,s334.2.1++[v356.2],s334.2.2.1++[(gx b2 s334.2.2.2)])
      else
       some (s334.1,s334.2.1,s334.2.2.1):Option (List Int × List Int × List XPairint64)).bind fun b336 =>
     ass (B64 (s334.2.2.2+1)) <|
     some (Ctl.next (b336.1,b336.2.1,b336.2.2,s334.2.2.2+1))
    else
     some (Ctl.ret (s334.1,s334.2.1,s334.2.2.1))) fuel (s305.1,[],[],0)).bind fun b307 =>
   (Q31 b307.2.1).bind fun v361 =>
   (QA (σ:=(List (XPairint64 × Int)) × Int) (ε:=List (XPairint64 × Int)) (fun s368 =>
    if s368.2<(b307.2.2.length:Int) then
     ass (0≤s368.2∧s368.2<(b307.2.2.length:Int)) <|
     ass (0≤s368.2∧s368.2<(v361.length:Int)) <|
     ass (s368.1.length<1099511627776) <|
     ass (B64 (s368.2+1)) <|
     some (Ctl.next (tset (gx b307.2.2 s368.2) (ix v361 s368.2) s368.1,s368.2+1))
    else
     some (Ctl.ret s368.1)) fuel (s305.2.2.1,0)).bind fun b362 =>
   (QR v361).bind fun v374 =>
   ass ((s305.2.1++[v374]).length≤1073741824) <|
   ass (B64 (s305.2.2.2+1)) <|
   some (Ctl.next (b307.1,s305.2.1++[v374],b362,s305.2.2.2+1))
  else
   some (Ctl.ret (s305.2.1,s305.2.2.1))) fuel (b34,[],[],0)).bind fun b233 =>
 (Q3i b233.1).bind fun v377 =>
 if ¬ (v377=true) then
  some (Sum.inl ())
 else
  (QA (σ:=List (List Int) × Int) (ε:=List (List Int)) (fun s406 =>
   if s406.2<(c_.fr.length:Int) then
    ass (0≤s406.2∧s406.2<(c_.fr.length:Int)) <|
    ass (0≤ix c_.fr s406.2∧ix c_.fr s406.2<(b233.1.length:Int)) <|
    ass (0≤ix b233.1 (ix c_.fr s406.2)∧ix b233.1 (ix c_.fr s406.2)≤1073741824) <|
    (QA (σ:=List Int × Int) (ε:=List Int) (fun s421 =>
     if s421.2<(b2.length:Int) then
      (
       ass (0≤s421.2∧s421.2<(b2.length:Int)) <|
       ass (0≤(gx b2 s421.2).second_∧(gx b2 s421.2).second_<(c_.to.length:Int)) <|
       ass (0≤s406.2∧s406.2<(c_.fr.length:Int)) <|
       if (ix c_.to ((gx b2 s421.2).second_))=(ix c_.fr s406.2) then
        (QK c_ ((gx b2 s421.2).second_) s406.2).bind fun v428 =>
        ass (0≤(QP (gx b2 s421.2) b233.2).getD 0∧(QP (gx b2 s421.2) b233.2).getD 0<(s421.1.length:Int)) <|
        some (s421.1.set (((QP (gx b2 s421.2) b233.2).getD 0).toNat) ((QP (⟨(gx b2 s421.2).first_,v428⟩:XPairint64) b233.2).getD 0))
       else
        some s421.1:Option (List Int)).bind fun b423 =>
      ass (B64 (s421.2+1)) <|
      some (Ctl.next (b423,s421.2+1))
     else
      some (Ctl.ret s421.1)) fuel (List.replicate ((ix b233.1 (ix c_.fr s406.2)).toNat) 0,0)).bind fun b411 =>
    ass ((s406.1++[b411]).length≤1073741824) <|
    ass (B64 (s406.2+1)) <|
    some (Ctl.next (s406.1++[b411],s406.2+1))
   else
    some (Ctl.ret s406.1)) fuel ([],0)).bind fun b379 =>
  some (Sum.inr (v232.n,v232.fr,v232.to,v232.id,v232.cs,b233.1,b379,b233.2))
section
attribute [local simp] Qd QD Qq QN QB
noncomputable def cl (c:Cat) (q:XQuery) (R:Nat→Nat→Nat) (p:Nat × Nat):Int:=ix (cls (R (toN c p.2)) (At c q (toN c p.2)).length) (plc (At c q (toN c p.2)) p)
theorem e_clsN {r:Nat→Nat} {n:Nat} (hr:Rp r n) (hn:n≤1000):QR (cls r n)=some (mxP (cls r n) (cls r n).length):=by
 have hl:=Q1L r n;unfold QR;refine Q14 (cls r n).length (fun k=>mxP (cls r n) k) (e:=mxP (cls r n) (cls r n).length) rfl (by omega) (fun k hk=>?_) (by simp) rfl;have v:=Q46 hr (e:=k) (by omega);simp only;rw [if_pos (by omega),Q4 (by omega),Q4 (by unfold B64;omega),Q4 (by unfold B64;omega),Q73 hk]
theorem Q3P {L:List (Nat × Nat)} {P:Nat × Nat→Bool} {k:Nat} (h:k<L.length):(L.take (k+1)).filter P=(L.take k).filter P++if P L[k]=true then [L[k]] else []:=by
 rw [zI h,List.filter_append];simp [List.filter_cons]
theorem take_at {L:List (Nat × Nat)} {P:Nat × Nat→Bool} {k:Nat} (h:k<L.length) (hp:P L[k]=true):(L.filter P)[((L.take k).filter P).length]? = some L[k]:=by
 have e1:L.filter P=(L.take (k+1)).filter P++(L.drop (k+1)).filter P:=by rw [← List.filter_append,List.take_append_drop]
 rw [e1,Q3P h,if_pos hp,List.append_assoc,List.getElem?_append_right (qE _),Nat.sub_self];rfl
theorem gE_some {c:Cat} {q:XQuery} {y e:Nat} {p:Nat × Nat} (h:(At c q y)[e]? = some p):gE c q y e=p∧e<(At c q y).length:=by
 refine ⟨by simp [gE,qB,h],?_⟩;rcases Nat.lt_or_ge e (At c q y).length with k|k
 ·exact k
 rw [List.getElem?_eq_none k] at h;cases h
theorem cl_gE {c:Cat} {q:XQuery} {R:Nat→Nat→Nat} {y e:Nat} (h:e<(At c q y).length):cl c q R (gE c q y e)=ix (cls (R y) (At c q y).length) e:=by
 obtain ⟨m1,m2,m3⟩:=Q5y h;unfold cl;rw [m2,m3]
def Q2K (c:Cat) (q:XQuery) (R:Nat→Nat→Nat):Prop:=mad (quoZ (clsF c q R) (clsF c q R).length)=0
def Kd1 (c:Cat) (q:XQuery) (R:Nat→Nat→Nat) (m:List (XPairint64 × Int)):Prop:=∀ p∈Al c q,QP (pX p) m=some (cl c q R p)
set_option maxHeartbeats 16000000 in
theorem e_canonI {c:Cat} {q:XQuery} (hc:c.Is) (hq:QIs c q) {R:Nat→Nat→Nat} (hR:GI c q R) (hk:∀ a,a<c.fr.length→Clo c q R a) :
  (Q2K c q R→∃ m,Kd1 c q R m∧QG c q=some (Sum.inr (c.n,c.fr,c.to,c.id,c.cs,(quoF (QU c q.variables_) (clsF c q R)).sz,(quoF (QU c q.variables_) (clsF c q R)).ac,m)))∧(¬ Q2K c q R→QG c q=some (Sum.inl ())):=by
 have hn:=hc.nums;have hv:=hq.v.len;have nl:=hq.nl;have lr:=hq.lr;have lc:(clsF c q R).length=c.id.length:=by simp [clsF]
 have hN:=Al_len hc hq;have mL:((Al c q).map pX).length=(Al c q).length:=by simp
 have hfin:∀ y,y<c.id.length→∀ e e',e<(At c q y).length→e' < (At c q y).length→(JJ c q (plc (Al c q) (gE c q y e))=JJ c q (plc (Al c q) (gE c q y e'))↔R y e=R y e'):=by
  intro y hy e e' he he';obtain ⟨m1,m2,m3⟩:=Q5y he;obtain ⟨n1,n2,n3⟩:=Q5y he';rw [JJ_iff hc hq m1 n1];constructor
  ·intro g;have:=hR.fin hc hq hk g m1;rw [m2,m3,n3] at this;exact this
  exact hR.snd y hy e e' he he'
 unfold QG;refine acc_Q (Q:=fun o=>(Q2K c q R→∃ m,Kd1 c q R m∧o=some (Sum.inr (c.n,c.fr,c.to,c.id,c.cs,(quoF (QU c q.variables_) (clsF c q R)).sz,(quoF (QU c q.variables_) (clsF c q R)).ac,m)))∧(¬ Q2K c q R→o=some (Sum.inl ()))) q.variables_.length (fun i=>(allE c q.variables_ i).map pX) (e:=(Al c q).map pX) (by simp [allE]) (by omega) (fun i hi=>?_) (by simp only;rw [if_neg (by omega)];rfl) ?_
 ·obtain ⟨v1,v2⟩:=hq.v.at' i hi;have al:=Q36 hc q.variables_ i;have rl:=Q5j c (VN q.variables_ i);simp only;rw [if_pos (by omega),Q4 (by omega),v1,e_outQ hc];simp only [zG,zL];rw [Option.bind_assoc];refine Q14 (rowE c (VN q.variables_ i)).length (fun j=>(allE c q.variables_ i).map pX++((rowE c (VN q.variables_ i)).take j).map fun h=>pX (i,h)) (e:=(allE c q.variables_ (i+1)).map pX) (by simp) (by omega) (fun j hj=>?_) (by simp only;rw [if_neg (by omega)];simp [allE,Function.comp_def]) ?_
  ·have e1:ix ((rowE c (VN q.variables_ i)).map Int.ofNat) j=((rowE c (VN q.variables_ i))[j]:Int):=(by simp [ix,qB,hj]);simp only;rw [if_pos (by omega),Q4 (by omega),e1,Q4 (by simp;omega),Q4 (by unfold B64;omega),zI hj,List.map_append,← List.append_assoc];rfl
  simp only [zG];rw [Q4 (by unfold B64;omega)]
 rw [e_numbP (by omega)];simp only [zG];unfold Q2N;rw [mL,e_numbers (by omega) (by omega)];simp only [zG,zK];have hfind:∀ p∈Al c q,QP (pX p) (plM (fun i:Nat=>gx ((Al c q).map pX) i) (Al c q).length)=some (plc (Al c q) p:Int):=fun p hp=>by
  have:=find_P (Q9y c q) hp
  rwa [mL] at this
 refine Q1p (σ:=List Int × Int) (Q:=fun o=>(Q2K c q R→∃ m,Kd1 c q R m∧o=some (Sum.inr (c.n,c.fr,c.to,c.id,c.cs,(quoF (QU c q.variables_) (clsF c q R)).sz,(quoF (QU c q.variables_) (clsF c q R)).ac,m)))∧(¬ Q2K c q R→o=some (Sum.inl ()))) q.left_.length (fun i s=>s.2=(i:Int)∧UF s.1 (RR (JL c q i)) (Al c q).length) (fun j=>UF j (JJ c q) (Al c q).length) (by omega) ⟨rfl,UF_id⟩ ?_ ?_ ?_
 ·rintro i ⟨j,i'⟩ hi ⟨hi',u⟩
  simp only at hi' u;subst hi';left;obtain ⟨m1,m2,m3⟩:=mem_Al.1 (hq.l hi);obtain ⟨r1,r2,r3⟩:=mem_Al.1 (hq.r hi);obtain ⟨f1,f2,f3,f4⟩:=Q1c hc m2;have tl:(tX (lQ q i)).arrow_=((lQ q i).2:Int):=rfl;have tr:(tX (rQ q i)).arrow_=((rQ q i).2:Int):=rfl;have vl:(tX (lQ q i)).variable_=((lQ q i).1:Int):=rfl;have vr:(tX (rQ q i)).variable_=((rQ q i).1:Int):=rfl;have rl:=Q5j c (toN c (lQ q i).2);simp only [hq.xl hi,hq.xr hi,tl,tr,vl,vr];rw [if_pos (by omega),Q4 (by omega),Q4 (by omega),Q4 (by omega),f3,e_outQ hc];simp only [zG,zL];rw [Option.bind_assoc];refine Q1p (σ:=List Int × Int) (Q:=fun o=>∃ s':List Int × Int,o=some (Ctl.next s')∧s'.2=((i+1:Nat):Int)∧UF s'.1 (RR (JL c q (i+1))) (Al c q).length) (rowE c (toN c (lQ q i).2)).length (fun k s=>s.2=(k:Int)∧UF s.1 (RR (JL c q i++((rowE c (toN c (lQ q i).2)).take k).map (jP c q i))) (Al c q).length) (fun j=>UF j (RR (JL c q (i+1))) (Al c q).length) (by omega) ⟨rfl,by simpa using u⟩ ?_ ?_ ?_
  ·rintro k ⟨j,k'⟩ hkk ⟨hk',u⟩
   simp only at hk' u;subst hk';left;have e1:ix ((rowE c (toN c (lQ q i).2)).map Int.ofNat) k=((rowE c (toN c (lQ q i).2))[k]:Int):=(by simp [ix,qB,hkk]);obtain ⟨w1,w2⟩:=mem_rowE.1 (zE hkk);generalize hh:(rowE c (toN c (lQ q i).2))[k]=h at e1 w1 w2;obtain ⟨g1,g2⟩:=jP_at hc hq hi w1 w2;have c1:=(Q3Y hc m2 w1 w2.symm).1;have c2:=(Q3Y hc r2 w1 (by rw [← hq.ct i hi];exact w2.symm)).1;obtain ⟨j',d,ej,u'⟩:=join_go u (Q3D g1) (Q3D g2) (by omega);have l1:=u.len;have l2:=u'.len;have t1:=hfind _ g1;have t2:=hfind _ g2;have p1:(⟨((lQ q i).1:Int),(cpN c (lQ q i).2 h:Int)⟩:XPairint64)=pX (thn c (lQ q i) h):=rfl;have p2:(⟨((rQ q i).1:Int),(cpN c (rQ q i).2 h:Int)⟩:XPairint64)=pX (thn c (rQ q i) h):=rfl;simp only;rw [if_pos (by omega),Q4 (by omega),e1,(Q9g hc (by omega) (by omega)).2];simp only [zG];rw [(Q9g hc (by omega) (by omega)).2];simp only [zG];rw [c1,c2,p1,p2,t1,t2];simp only [Option.getD_some];unfold joinE at ej;rw [ej];simp only [zG];rw [Q4 (by omega),Q4 (by unfold B64;omega)];refine ⟨_,rfl,by push_cast;rfl,?_⟩;rw [zI hkk,List.map_append,← List.append_assoc];simp only [List.map_cons,List.map_nil];rw [hh,RR_jP];exact u'
  ·rintro ⟨j,k'⟩ ⟨hk',u⟩
   simp only at hk' u;subst hk';simp only;rw [if_neg (by omega)];exact ⟨_,rfl,by simpa [JL] using u⟩
  intro j u;simp only [zG];rw [Q4 (by unfold B64;omega)];exact ⟨_,rfl,by push_cast;rfl,u⟩
 ·rintro ⟨j,i⟩ ⟨hi,u⟩
  simp only at hi u;subst hi;simp only;rw [if_neg (by omega)];exact ⟨_,rfl,u⟩
 intro j u;unfold Q1B;rw [Q4 hc.1.size2.1];simp only [zG];have lcm:(clsF c q R).length=c.id.length:=lc;have qz:∀ y:Nat,y<c.id.length→mxP (cls (R y) (At c q y).length) (cls (R y) (At c q y).length).length=mxP (rx (clsF c q R) y) (rx (clsF c q R) y).length:=fun y hy=>by rw [Q1P hy]
 refine Q1p (σ:=List Int × List Int × (List (XPairint64 × Int)) × Int) (Q:=fun o=>(Q2K c q R→∃ m,Kd1 c q R m∧o=some (Sum.inr (c.n,c.fr,c.to,c.id,c.cs,(quoF (QU c q.variables_) (clsF c q R)).sz,(quoF (QU c q.variables_) (clsF c q R)).ac,m)))∧(¬ Q2K c q R→o=some (Sum.inl ()))) c.id.length
  (fun y s=>s.2.2.2=(y:Int)∧UF s.1 (JJ c q) (Al c q).length∧s.2.1=quoZ (clsF c q R) y∧s.2.2.1.length≤200 * y∧∀ p∈Al c q,toN c p.2<y→QP (pX p) s.2.2.1=some (cl c q R p))
  (fun e=>e.1=quoZ (clsF c q R) c.id.length∧Kd1 c q R e.2) (by omega) ⟨rfl,u,by simp [quoZ,Q9S],by simp,fun p _ h=>by omega⟩ ?_ ?_ ?_
 ·rintro y ⟨j,sz,m,y'⟩ hy ⟨hy',u,hz,hm,hf⟩
  simp only at hy' u hz hm hf;subst hy';subst hz;left;have aL:=Q5o hc hq y;simp only;rw [if_pos (by omega)];refine Q1p (σ:=List Int × List Int × List XPairint64 × Int) (Q:=fun o=>∃ s':List Int × List Int × (List (XPairint64 × Int)) × Int,o=some (Ctl.next s')∧s'.2.2.2=((y+1:Nat):Int)∧UF s'.1 (JJ c q) (Al c q).length∧s'.2.1=quoZ (clsF c q R) (y+1)∧s'.2.2.1.length≤200 * (y+1)∧∀ p∈Al c q,toN c p.2<y+1→QP (pX p) s'.2.2.1=some (cl c q R p)) (Al c q).length
   (fun k s=>s.2.2.2=(k:Int)∧UF s.1 (JJ c q) (Al c q).length∧s.2.1=(((Al c q).take k).filter fun p=>decide (toN c p.2=y)).map (fun p=>(JJ c q (plc (Al c q) p):Int))∧s.2.2.1=(((Al c q).take k).filter fun p=>decide (toN c p.2=y)).map pX)
   (fun e=>UF e.1 (JJ c q) (Al c q).length∧e.2.1=(At c q y).map (fun p=>(JJ c q (plc (Al c q) p):Int))∧e.2.2=(At c q y).map pX) (by omega) ⟨rfl,u,by simp,by simp⟩ ?_ ?_ ?_
  ·rintro k ⟨j,lb,mb,k'⟩ hkk ⟨hk',u,hlb,hmb⟩
   simp only at hk' u hlb hmb;subst hk';subst hlb;subst hmb;left;have hmem:=zE hkk;obtain ⟨m1,m2,m3⟩:=mem_Al.1 hmem;obtain ⟨f1,f2,f3,f4⟩:=Q1c hc m2;have l1:=u.len;have fl:(((Al c q).take k).filter fun p=>decide (toN c p.2=y)).length≤k:=by
    have h1:=zM (fun p:Nat × Nat=>decide (toN c p.2=y)) ((Al c q).take k);simp only [List.length_take] at h1;omega
   have s2:(pX (Al c q)[k]).second_=((Al c q)[k].2:Int):=rfl;have hpl:plc (Al c q) (Al c q)[k]=k:=Q7R (Q9y c q) hkk;simp only [Q4D hkk,s2,zL];rw [if_pos (by omega),Q4 (by omega),Q4 (by omega),f3]
   by_cases z:toN c (Al c q)[k].2=y
   ·obtain ⟨j1,e1,w1⟩:=Q8D k j fuel u hkk (by unfold fuel;omega);have l2:=w1.len;rw [if_pos (by omega),e1];simp only [zG];rw [Q4 (by omega),Q4 (by simp only [qD,zL,List.length_singleton];omega),Q4 (by simp only [qD,zL,List.length_singleton];omega)];simp only [zG];rw [Q4 (by unfold B64;omega)];refine ⟨_,rfl,by push_cast;rfl,w1,?_,?_⟩
    ·rw [Q3P hkk,if_pos (by simpa using z)];simp [hpl]
    rw [Q3P hkk,if_pos (by simpa using z)];simp
   rw [if_neg (by omega)];simp only [zG];rw [Q4 (by unfold B64;omega)];refine ⟨_,rfl,by push_cast;rfl,u,?_,?_⟩
   ·rw [Q3P hkk,if_neg (by simpa using z)];simp
   rw [Q3P hkk,if_neg (by simpa using z)];simp
  ·rintro ⟨j,lb,mb,k'⟩ ⟨hk',u,hlb,hmb⟩
   simp only at hk' u hlb hmb;subst hk';simp only [zL];rw [if_neg (by omega)];rw [List.take_length] at hlb hmb;exact ⟨_,rfl,u,hlb,hmb⟩
  rintro ⟨j,lb,mb⟩ ⟨u,hlb,hmb⟩
  simp only at u hlb hmb;subst hlb;subst hmb;have lab:∀ e:Nat,e<(At c q y).length→ix ((At c q y).map fun p=>(JJ c q (plc (Al c q) p):Int)) e=(JJ c q (plc (Al c q) (gE c q y e)):Int):=fun e he=>by simp [ix,qB,he,gE]
  have hnm:=e_normalG (L:=(At c q y).map fun p=>(JJ c q (plc (Al c q) p):Int)) (r:=R y) (n:=(At c q y).length) (by simp) (hR.rp y hy) (fun e e' he he'=>by
   rw [lab e he,lab e' he',← hfin y hy e e' he he'];omega) (by omega)
  have hcl:=Q1L (R y) (At c q y).length;simp only;rw [hnm];simp only [zG,zL];refine Q1p (σ:=(List (XPairint64 × Int)) × Int) (Q:=fun o=>∃ s':List Int × List Int × (List (XPairint64 × Int)) × Int,o=some (Ctl.next s')∧s'.2.2.2=((y+1:Nat):Int)∧UF s'.1 (JJ c q) (Al c q).length∧s'.2.1=quoZ (clsF c q R) (y+1)∧s'.2.2.1.length≤200 * (y+1)∧∀ p∈Al c q,toN c p.2<y+1→QP (pX p) s'.2.2.1=some (cl c q R p)) (At c q y).length
   (fun e s=>s.2=(e:Int)∧s.1.length≤200 * y+e∧(∀ p∈Al c q,toN c p.2<y→QP (pX p) s.1=some (cl c q R p))∧∀ e',e' < e→QP (pX (gE c q y e')) s.1=some (cl c q R (gE c q y e')))
   (fun m=>m.length≤200 * (y+1)∧∀ p∈Al c q,toN c p.2<y+1→QP (pX p) m=some (cl c q R p)) (by omega) ⟨rfl,by simpa using hm,hf,fun e he=>by omega⟩ ?_ ?_ ?_
  ·rintro e ⟨m,e'⟩ he ⟨he',hm,h1,h2⟩
   simp only at he' hm h1 h2;subst he';left;obtain ⟨g1,g2,g3⟩:=Q5y he;have hx:gx ((At c q y).map pX) e=pX (gE c q y e):=(by rw [Q4D he];simp [gE,qB,he]);have hv:=cl_gE (R:=R) he;simp only [hx];rw [if_pos (by omega),Q4 (by omega),Q4 (by omega),Q4 (by omega),Q4 (by unfold B64;omega)];have tl:=Q9V (pX (gE c q y e)) (ix (cls (R y) (At c q y).length) e) m;refine ⟨_,rfl,by push_cast;rfl,by simp only;omega,fun p hp hlt=>?_,fun e' he'=>?_⟩
   ·simp only;rw [Q3K,if_neg (fun z=>by have:=pX_inj z;rw [← this,g2] at hlt;omega)];exact h1 p hp hlt
   simp only;rw [Q3K]
   by_cases z:e'=e
   ·subst z;rw [if_pos rfl,hv]
   rw [if_neg (fun w=>z (by
    have:=pX_inj w;have k3:=(Q5y (c:=c) (q:=q) (y:=y) (e:=e') (by omega)).2.2;rw [← this,g3] at k3;exact k3.symm))]
   exact h2 e' (by omega)
  ·rintro ⟨m,e'⟩ ⟨he',hm,h1,h2⟩
   simp only at he' hm h1 h2;subst he';simp only;rw [if_neg (by omega)];refine ⟨_,rfl,by omega,fun p hp hlt=>?_⟩
   by_cases z:toN c p.2=y
   ·have g:=Q3Z hp;rw [z] at g;have:=h2 _ g.1
    rwa [g.2] at this
   exact h1 p hp (by omega)
  rintro m ⟨hm,h1⟩
  rw [e_clsN (hR.rp y hy) (by omega)];simp only [zG];rw [Q4 (by simp [quoZ];omega),Q4 (by unfold B64;omega)];refine ⟨_,rfl,by push_cast;rfl,u,?_,hm,h1⟩;simp only;rw [qz y hy,quoZ,quoZ,Q29]
 ·rintro ⟨j,sz,m,y'⟩ ⟨hy',u,hz,hm,hf⟩
  simp only at hy' u hz hm hf;subst hy';subst hz;simp only;rw [if_neg (by omega)];exact ⟨_,rfl,rfl,fun p hp=>hf p hp (Q6m hc (mem_Al.1 hp).2.1).2⟩
 rintro ⟨sz,m⟩ ⟨hz,hm⟩
 simp only at hz hm;subst hz;have zsz:(quoF (QU c q.variables_) (clsF c q R)).sz=quoZ (clsF c q R) c.id.length:=by simp only [quoF,lcm]
 have zb:∀ y:Nat,y<c.id.length→ix (quoZ (clsF c q R) c.id.length) y=mxP (cls (R y) (At c q y).length) (At c q y).length∧0≤mxP (cls (R y) (At c q y).length) (At c q y).length∧mxP (cls (R y) (At c q y).length) (At c q y).length≤160∧∀ e:Nat,e<(At c q y).length→0≤ix (cls (R y) (At c q y).length) e∧ix (cls (R y) (At c q y).length) e<mxP (cls (R y) (At c q y).length) (At c q y).length:=by
  intro y hy;have e1:ix (quoZ (clsF c q R) c.id.length) y=mxP (rx (clsF c q R) y) (rx (clsF c q R) y).length:=Q4i _ _ hy;have hl:=Q1L (R y) (At c q y).length;rw [Q1P hy,hl] at e1;have aL:=Q5o hc hq y;obtain ⟨b1,b2⟩:=mxP_bd (L:=cls (R y) (At c q y).length) (n:=((At c q y).length:Int)) (by omega) (fun e he=>Q46 (hR.rp y hy) (by omega)) (At c q y).length (by omega);exact ⟨e1,by omega,by omega,fun e he=>⟨(Q46 (hR.rp y hy) he).1,b2 e he⟩⟩
 have fit:(quoZ (clsF c q R) c.id.length).all (inR 17)=bo (Q2K c q R):=by
  unfold Q2K;rw [lcm];have e2:(quoZ (clsF c q R) c.id.length).all (inR 17)=(quoZ (clsF c q R) c.id.length).all fun x=>decide (x≤16):=by
   rw [Bool.eq_iff_iff,qS,qS];refine forall_congr' fun x=>forall_congr' fun hx=>?_;obtain ⟨i,hi,rfl⟩:=List.getElem_of_mem hx;have hi':i<c.id.length:=(by simpa [quoZ] using hi);have z:=zb i hi';rw [← Q1K _ _ hi] at *;simp only [inR,Bool.and_eq_true,decide_eq_true_eq];omega
  rw [e2];unfold mad;cases (quoZ (clsF c q R) c.id.length).all fun x=>decide (x≤16)<;>simp [bo]
 unfold Q3i Q1Z;rw [Q4 (by unfold B64;omega)];simp only [zG];rw [fit]
 by_cases hfit:Q2K c q R
 ·refine ⟨fun _=>?_,fun h=>absurd hfit h⟩;rw [Q1u hfit,if_neg (by simp),zsz];have al:(QU c q.variables_).ac.length=c.fr.length:=by simp [QU]
  refine acc_Q (Q:=fun o=>∃ m,Kd1 c q R m∧o=some (Sum.inr (c.n,c.fr,c.to,c.id,c.cs,quoZ (clsF c q R) c.id.length,(quoF (QU c q.variables_) (clsF c q R)).ac,m))) c.fr.length (fun i=>tab i fun a=>quoA (QU c q.variables_) (clsF c q R) a (rx (QU c q.variables_).ac a).length) (e:=(quoF (QU c q.variables_) (clsF c q R)).ac) rfl (by omega) (fun a ha=>?_) (by simp only;rw [if_neg (by omega)];simp only [quoF,al]) ?_
  ·obtain ⟨f1,f2,f3,f4⟩:=Q1c hc ha;obtain ⟨z1,z2,z3,z4⟩:=zb _ f2;obtain ⟨g1,g2⟩:=Q6P (q:=q) ha;have sf:(QU c q.variables_).s=c:=rfl;have qa0:quoA (QU c q.variables_) (clsF c q R) a 0=List.replicate (mxP (cls (R (frN c a)) (At c q (frN c a)).length) (At c q (frN c a)).length).toNat 0:=by
    simp only [quoA,sf,f1,List.range_zero,List.foldl_nil];rw [Q1P f2,Q1L]
   have zl:(quoZ (clsF c q R) c.id.length).length=c.id.length:=(by simp [quoZ]);simp only [f1];rw [if_pos (by omega),Q4 (by omega),Q4 (by omega),z1,Q4 (by omega)];refine Q14 (Al c q).length (fun k=>quoA (QU c q.variables_) (clsF c q R) a (((Al c q).take k).filter fun p=>decide (toN c p.2=frN c a)).length) (e:=quoA (QU c q.variables_) (clsF c q R) a (rx (QU c q.variables_).ac a).length) (by simp [qa0]) (by omega) (fun k hkk=>?_) (by
    simp only [zL];rw [if_neg (by omega),List.take_length,g1];rfl) ?_
   ·have hmem:=zE hkk;obtain ⟨m1,m2,m3⟩:=mem_Al.1 hmem;obtain ⟨h1,h2,h3,h4⟩:=Q1c hc m2;have s2:(pX (Al c q)[k]).second_=((Al c q)[k].2:Int):=rfl;have s1:(pX (Al c q)[k]).first_=((Al c q)[k].1:Int):=rfl;have lq:=Q5i (QU c q.variables_) (clsF c q R) a (((Al c q).take k).filter fun p=>decide (toN c p.2=frN c a)).length;rw [sf,f1,Q1P f2,Q1L] at lq;simp only [Q4D hkk,s1,s2,zL];rw [if_pos (by omega),Q4 (by omega),Q4 (by omega),h3,Q4 (by omega),Q3P hkk]
    by_cases z:toN c (Al c q)[k].2=frN c a
    ·have tk:=take_at (P:=fun p=>decide (toN c p.2=frN c a)) hkk (by simpa using z);have gg:=gE_some (c:=c) (q:=q) (y:=frN c a) tk;generalize hnk:(((Al c q).take k).filter fun p=>decide (toN c p.2=frN c a)).length=nk at *;have zz:=z4 nk gg.2;have k1:=hm _ hmem;have cv:cl c q R (Al c q)[k]=ix (cls (R (frN c a)) (At c q (frN c a)).length) nk:=by
      have:=cl_gE (R:=R) gg.2
      rwa [gg.1] at this
     obtain ⟨tm,tt⟩:=Q3p hc hmem ha z;have k2:=hm _ tm;have cp:=(Q3Y hc m2 ha z).1;have p1:(⟨((Al c q)[k].1:Int),(cpN c (Al c q)[k].2 a:Int)⟩:XPairint64)=pX (thn c (Al c q)[k] a):=rfl;have an:=g2 nk (by omega);have anv:=Q4x hc ha (q:=q) gg.2;have cv2:cl c q R (thn c (Al c q)[k] a)=ix (rx (clsF c q R) (toN c a)) (aN c q a nk):=by
      rw [Q1P f4,← cl_gE anv.1,anv.2,gg.1]
     rw [if_pos (by omega),(Q9g hc (by omega) (by omega)).2];simp only [zG];rw [cp,p1,k1,k2];simp only [Option.getD_some];rw [cv,Q4 (by omega)];simp only [zG];rw [Q4 (by unfold B64;omega),if_pos (by simpa using z)];simp only [qD,List.length_singleton,hnk];rw [Q76 (f:=QU c q.variables_) f1 f3,Q1P f2,an,cv2]
    rw [if_neg (by omega)];simp only [zG];rw [Q4 (by unfold B64;omega),if_neg (by simpa using z)];simp
   rw [Q4 (by simp;omega),Q4 (by unfold B64;omega),Q29]
  exact ⟨m,hm,rfl⟩
 refine ⟨fun h=>absurd h hfit,fun _=>?_⟩;rw [QF hfit,if_pos (by simp)]
end
attribute [local simp] unk unA unE unT unC flat eL eI Qw Q1V Qa Qc Cat.cells XQuery.cells XTerm.cells
noncomputable def QQ (c_:Cat) (q_:XQuery) (t_:XTerm):Option Bool :=
 (
  ass (B64 ((q_.variables_.length:Int) - 1)) <|
  (Q2E t_.variable_ 0 ((q_.variables_.length:Int) - 1)).bind fun v3 =>
  if v3=true then
   (Q1j c_).bind fun v5 =>
   ass (B64 (v5 - 1)) <|
   (Q2E t_.arrow_ 0 (v5 - 1)).bind fun v7 =>
   if v7=true then
    ass (0≤t_.arrow_∧t_.arrow_<(c_.fr.length:Int)) <|
    ass (0≤t_.variable_∧t_.variable_<(q_.variables_.length:Int)) <|
    some ((ix c_.fr t_.arrow_) == (ix q_.variables_ t_.variable_))
   else
    some false
  else
   some false:Option (Bool)).bind fun b1 =>
 some b1
@[simp] abbrev Yy (a:Cat) (b:XQuery) (c:List (Nat × AV)):List (Nat × AV):=(0,.rptr (Cat.cells true a))::(1,.rptr (XQuery.cells true b))::c
theorem Q2I (c_:Cat) (q_:XQuery) (t_:XTerm) (r:Bool) (h:QQ c_ q_ t_=some r):Contract Try.prog 118 [.rptr (c_.cells true),.rptr (q_.cells true),.agg (t_.cells true)] (.val (.bool r)):=by
 refine Qe (rvs:=[.tmp 6]) (rs:=[.val (.bool r)]) Try.func118 rfl rfl rfl rfl (by simp [Try.f118]) fun F hN hP=>?_;unfold QQ at h;refine Q2 (runQ hN fun K hK=>?_);simp;repeat refine sdQ ?_
 refine hK _ (tn (Q5 (st':=⟨Yy c_ q_ [(5,.adr 0 0 0)],YO t_ [],1⟩) (Qv [(0,0)]) (Q2 ?_)));clear hK K;replace ⟨e1,h,h1⟩:=bind_some h;refine Qn (fun b1:Bool=>⟨[(6,.val (.bool b1))],[],0⟩) (fun b1=>b1=e1) ?_ ?_
 ·refine runQ hN fun K hK=>?_;replace ⟨a2,h⟩:=Q0 h;simp [Qo a2];repeat with_reducible refine sdQ ?_
  replace ⟨v3,hv3,h⟩:=bind_some h;refine Q3 (Q5Y _ _ _ v3 hv3) (.cons .val (.cons .val (.cons .val .nil))) ?_;simp;repeat with_reducible refine sdQ ?_
  refine QC (fun g=>?_) (fun g=>?_)
  ·have g4:v3=true:=gQ;clear g;replace h:=if_l g4 h;simp;(repeat with_reducible refine sdQ ?_);replace ⟨v5,hv5,h⟩:=bind_some h;refine Q3 (Q4b _ v5 hv5) (.cons (.preT (by simp [Cat.cells,XQuery.cells,XTerm.cells])) .nil) ?_;replace ⟨a6,h⟩:=Q0 h;simp [Qo a6];(repeat with_reducible refine sdQ ?_);replace ⟨v7,hv7,h⟩:=bind_some h;refine Q3 (Q5Y _ _ _ v7 hv7) (.cons .val (.cons .val (.cons .val .nil))) ?_;simp;(repeat with_reducible refine sdQ ?_);refine QC (fun g=>?_) (fun g=>?_)
   ·have g8:v7=true:=gQ;clear g;replace h:=if_l g8 h;replace ⟨a9,h⟩:=Q0 h;replace ⟨a10,h⟩:=Q0 h;simp [at_I a9,at_I a10];(repeat refine sdQ ?_);refine hK _ ?_;exact jn (b:=(ix c_.fr t_.arrow_) == (ix q_.variables_ t_.variable_)) (zF h) (Qv [])
   have g8:¬ (v7=true):=gQ;clear g;replace h:=if_r g8 h;simp;(repeat refine sdQ ?_);refine hK _ ?_;exact jn (b:=false) (zF h) (Qv [])
  have g4:¬ (v3=true):=gQ;clear g;replace h:=if_r g4 h;simp;repeat refine sdQ ?_
  refine hK _ ?_;exact jn (b:=false) (zF h) (Qv [])
 intro b1 hb1;have h:=h1;try rw [← hb1] at h
 clear h1;try dsimp only at h
 refine Ql ?_;have hr:=zF h;rw [← hr];refine ⟨_,(.tmp .nil),?_⟩;refine ⟨(.one rfl rfl .nil),[.val (.bool b1)],[],by simp [Cat.cells,XQuery.cells,XTerm.cells,UA,U1,IA,I1,LA,L1,BA,B1,EA,E1,E2,eB,eI,eL,Q1 _ Qa _ (fun _=>rfl),Q1 _ Qc _ (fun _=>rfl)],by simp,(UpL.refl _)⟩
attribute [local simp] unk unA unE unT unC flat eL eI Qw Q1V Qa Qc Cat.cells XQuery.cells XTerm.cells
noncomputable def QJ (c_:Cat) (q_:XQuery) (left_:XTerm) (right_:XTerm):Option Bool :=
 (
  (QQ c_ q_ left_).bind fun v2 =>
  if v2=true then
   (QQ c_ q_ right_).bind fun v4 =>
   if v4=true then
    ass (0≤left_.arrow_∧left_.arrow_<(c_.to.length:Int)) <|
    ass (0≤right_.arrow_∧right_.arrow_<(c_.to.length:Int)) <|
    some ((ix c_.to left_.arrow_) == (ix c_.to right_.arrow_))
   else
    some false
  else
   some false:Option (Bool)).bind fun b1 =>
 some b1
theorem Q34 (c_:Cat) (q_:XQuery) (left_:XTerm) (right_:XTerm) (r:Bool) (h:QJ c_ q_ left_ right_=some r):Contract Try.prog 107 [.rptr (c_.cells true),.rptr (q_.cells true),.agg (left_.cells true),.agg (right_.cells true)] (.val (.bool r)):=by
 refine Qe (rvs:=[.tmp 8]) (rs:=[.val (.bool r)]) Try.func107 rfl rfl rfl rfl (by simp [Try.f107]) fun F hN hP=>?_;unfold QJ at h;refine Q2 (runQ hN fun K hK=>?_);simp;repeat refine sdQ ?_
 refine hK _ (tn (Q5 (st':=⟨Yy c_ q_ [(6,.adr 0 0 0),(7,.adr 1 0 0)],YO left_ [(1,.mix 2 [(XTerm.cells true right_)])],2⟩) (Qv [(0,0),(1,1)]) (Q2 ?_)));clear hK K;replace ⟨e1,h,h1⟩:=bind_some h;refine Qn (fun b1:Bool=>⟨[(8,.val (.bool b1))],[],0⟩) (fun b1=>b1=e1) ?_ ?_
 ·refine runQ hN fun K hK=>?_;simp;repeat with_reducible refine sdQ ?_
  replace ⟨v2,hv2,h⟩:=bind_some h;refine Q3 (Q2I _ _ _ v2 hv2) (.cons (.preT (by simp [Cat.cells,XQuery.cells,XTerm.cells])) (.cons (.preT (by simp [Cat.cells,XQuery.cells,XTerm.cells])) (.cons (.aggL (.cons .val (.cons .val .nil))) .nil))) ?_;simp;repeat with_reducible refine sdQ ?_
  refine QC (fun g=>?_) (fun g=>?_)
  ·have g3:v2=true:=gQ;clear g;replace h:=if_l g3 h;simp;(repeat with_reducible refine sdQ ?_);replace ⟨v4,hv4,h⟩:=bind_some h;refine Q3 (Q2I _ _ _ v4 hv4) (.cons (.preT (by simp [Cat.cells,XQuery.cells,XTerm.cells])) (.cons (.preT (by simp [Cat.cells,XQuery.cells,XTerm.cells])) (.cons (.aggL (.cons .val (.cons .val .nil))) .nil))) ?_;simp;(repeat with_reducible refine sdQ ?_);refine QC (fun g=>?_) (fun g=>?_)
   ·have g5:v4=true:=gQ;clear g;replace h:=if_l g5 h;replace ⟨a6,h⟩:=Q0 h;replace ⟨a7,h⟩:=Q0 h;simp [at_I a6,at_I a7];(repeat refine sdQ ?_);refine hK _ ?_;exact jn (b:=(ix c_.to left_.arrow_) == (ix c_.to right_.arrow_)) (zF h) (Qv [])
   have g5:¬ (v4=true):=gQ;clear g;replace h:=if_r g5 h;simp;(repeat refine sdQ ?_);refine hK _ ?_;exact jn (b:=false) (zF h) (Qv [])
  have g3:¬ (v2=true):=gQ;clear g;replace h:=if_r g3 h;simp;repeat refine sdQ ?_
  refine hK _ ?_;exact jn (b:=false) (zF h) (Qv [])
 intro b1 hb1;have h:=h1;try rw [← hb1] at h
 clear h1;try dsimp only at h
 refine Ql ?_;have hr:=zF h;rw [← hr];refine ⟨_,(.tmp .nil),?_⟩;refine ⟨(.one rfl rfl .nil),[.val (.bool b1)],[],by simp [Cat.cells,XQuery.cells,XTerm.cells,UA,U1,IA,I1,LA,L1,BA,B1,EA,E1,E2,eB,eI,eL,Q1 _ Qa _ (fun _=>rfl),Q1 _ Qc _ (fun _=>rfl)],by simp,(UpL.refl _)⟩
attribute [local simp] unk unA unE unT unC flat eL eI Qw Q1V Qa Qc Cat.cells XQuery.cells XTerm.cells
noncomputable def QW (c_:Cat) (q_:XQuery):Option Bool :=
 (
  if (q_.variables_.length:Int) > 4 then
   some true
  else
   (Q1Z q_.variables_ c_.n).bind fun v3 =>
   if ¬ (v3=true) then
    some true
   else
    if (q_.left_.length:Int) > 6 then
     some true
    else
     some ((q_.right_.length:Int) != (q_.left_.length:Int)):Option (Bool)).bind fun b1 =>
 if b1=true then
  some false
 else
  (QA (σ:=Int) (ε:=Unit ⊕ Bool) (fun s14 =>
   if s14<(q_.left_.length:Int) then
    ass (0≤s14∧s14<(q_.left_.length:Int)) <|
    ass (0≤s14∧s14<(q_.right_.length:Int)) <|
    (QJ c_ q_ (gx q_.left_ s14) (gx q_.right_ s14)).bind fun v18 =>
    if ¬ (v18=true) then
     some (Ctl.ret (Sum.inr false))
    else
     ass (B64 (s14+1)) <|
     some (Ctl.next (s14+1))
   else
    some (Ctl.ret (Sum.inl ()))) fuel 0).bind fun e7 =>
  match e7 with
  | .inl b7 =>
   (
    if (q_.output_.length:Int)≤4 then
     (Q1Z q_.output_ (q_.variables_.length:Int)).bind fun v23 =>
     some v23
    else
     some false:Option (Bool)).bind fun b21 =>
   some b21
  | .inr p7 =>
   some p7
theorem Q3V (c_:Cat) (q_:XQuery) (r:Bool) (h:QW c_ q_=some r):Contract Try.prog 71 [.rptr (c_.cells true),.rptr (q_.cells true)] (.val (.bool r)):=by
 refine Qe (rvs:=[.tmp 4]) (rs:=[.val (.bool r)]) Try.func71 rfl rfl rfl rfl (by simp [Try.f71]) fun F hN hP=>?_;unfold QW at h;refine Q2 (runQ hN fun K hK=>?_);simp;repeat refine sdQ ?_
 refine hK _ (tn (Q5 (st':=⟨Yy c_ q_ [],[],0⟩) (Qv []) (Q2 (Q2 ?_))));clear hK K;replace ⟨e1,h,h1⟩:=bind_some h;refine Qn (fun b1:Bool=>⟨Yy c_ q_ [(44,.val (.bool b1))],[],0⟩) (fun b1=>b1=e1) ?_ ?_
 ·refine runQ hN fun K hK=>?_;simp;repeat with_reducible refine sdQ ?_
  refine QC (fun g=>?_) (fun g=>?_)
  ·have g2:¬ ((q_.variables_.length:Int) > 4):=gQ;clear g;replace h:=if_r g2 h;simp;(repeat with_reducible refine sdQ ?_);replace ⟨v3,hv3,h⟩:=bind_some h;refine Q3 (Q4P _ _ v3 hv3) (.cons .lst (.cons .val .nil)) ?_;simp;(repeat with_reducible refine sdQ ?_);refine QC (fun g=>?_) (fun g=>?_)
   ·have g4:¬ (¬ (v3=true)):=gQ;clear g;replace h:=if_r g4 h;simp;(repeat with_reducible refine sdQ ?_);refine QC (fun g=>?_) (fun g=>?_)
    ·have g5:¬ ((q_.left_.length:Int) > 6):=gQ;clear g;replace h:=if_r g5 h;simp;(repeat refine sdQ ?_);refine hK _ ?_;exact jn (b:=(q_.right_.length:Int) != (q_.left_.length:Int)) (zF h) (Qv [])
    have g5:(q_.left_.length:Int) > 6:=gQ;clear g;replace h:=if_l g5 h;simp;(repeat refine sdQ ?_);refine hK _ ?_;exact jn (b:=true) (zF h) (Qv [])
   have g4:¬ (v3=true):=gQ;clear g;replace h:=if_l g4 h;simp;(repeat refine sdQ ?_);refine hK _ ?_;exact jn (b:=true) (zF h) (Qv [])
  have g2:(q_.variables_.length:Int) > 4:=gQ;clear g;replace h:=if_l g2 h;simp;repeat refine sdQ ?_
  refine hK _ ?_;exact jn (b:=true) (zF h) (Qv [])
 intro b1 hb1;have h:=h1;try rw [← hb1] at h
 clear h1;try dsimp only at h
 refine Q8 rfl (fun g=>?_) fun g=>?_
 ·have g6:b1=true:=gQ;clear g;replace h:=if_l g6 h;refine Q2 (runQ hN fun K hK=>?_);simp;repeat refine sdQ ?_
  refine hK _ (tn (Q5 (st':=⟨Y03 [],[],0⟩) (Qv []) (Ql (tr ?_))));clear hK K;have hr:=zF h;rw [← hr];refine ⟨_,(.tmp .nil),?_⟩;refine ⟨(.one rfl rfl .nil),[.val (.bool false)],[],by simp [Cat.cells,XQuery.cells,XTerm.cells,UA,U1,IA,I1,LA,L1,BA,B1,EA,E1,E2,eB,eI,eL,Q1 _ Qa _ (fun _=>rfl),Q1 _ Qc _ (fun _=>rfl)],by simp,(UpL.refl _)⟩
 have g6:¬ (b1=true):=gQ;clear g;replace h:=if_r g6 h;refine Q9 (tn (Q2 (Q2 (runQ hN fun K hK=>?_))));simp;repeat refine sdQ ?_
 refine hK _ (tn (Q5 (st':=⟨Yy c_ q_ [(49,iV (q_.left_.length:Int)),(50,iV 0)],[],0⟩) (Qv []) ?_));clear hK K;replace ⟨e7,h,h7⟩:=bind_some h;refine Qn (fun b7:Unit=>⟨[(1,.rptr (XQuery.cells true q_))],[],0⟩) (fun b7=>Sum.inl b7=e7) ?_ ?_
 ·refine Q7 (Qy h (fun s14:Int=>⟨Yy c_ q_ [(49,iV (q_.left_.length:Int)),(50,iV s14)],[],0⟩) (Qv []) ?_);clear h;intro k14 s14 c14 h hk14;refine Q2 (runQ hN fun K hK=>?_);simp;repeat refine sdQ ?_
  refine hK _ ?_;clear hK K;refine tn (Q2 (Q8 rfl (fun g=>?_) fun g=>?_))
  ·have g15:s14<(q_.left_.length:Int):=gQ;clear g;replace h:=if_l g15 h;refine Q9 (tn (Q2 (Q7 (Q2 (runQ hN fun K hK=>?_)))));simp;(repeat refine sdQ ?_);refine hK _ ?_;clear hK K;refine tn (Q5 (st':=⟨Yy c_ q_ [(5,iV s14),(49,iV (q_.left_.length:Int)),(50,iV s14)],[],0⟩) (Qv []) (Q2 (runQ hN fun K hK=>?_)));replace ⟨a16,h⟩:=Q0 h;replace ⟨a17,h⟩:=Q0 h;simp [at_E (c:=(XTerm.cells true)) a16,at_E (c:=(XTerm.cells true)) a17];(repeat with_reducible refine sdQ ?_);replace ⟨v18,hv18,h⟩:=bind_some h;refine Q3 (Q34 _ _ _ _ v18 hv18) (.cons (.preT (by simp [Cat.cells,XQuery.cells,XTerm.cells])) (.cons (.preT (by simp [Cat.cells,XQuery.cells,XTerm.cells])) (.cons (.aggL (.cons .val (.cons .val .nil))) (.cons (.aggL (.cons .val (.cons .val .nil))) .nil)))) ?_;simp [at_E (c:=(XTerm.cells true)) a16,at_E (c:=(XTerm.cells true)) a17];(repeat refine sdQ ?_);refine hK _ ?_;clear hK K;refine tn (Q5 (st':=⟨Yy c_ q_ [(49,iV (q_.left_.length:Int)),(50,iV s14),(70,.val (.bool (!v18)))],[],0⟩) (Qv []) (Q8 rfl (fun g=>?_) fun g=>?_))
   ·have g19:¬ (v18=true):=gQ;clear g;replace h:=if_l g19 h;refine Q2 (runQ hN fun K hK=>?_);simp;(repeat refine sdQ ?_);refine hK _ (tn (Q5 (st':=⟨Y03 [],[],0⟩) (Qv []) (Ql (br (tr (lr (br (tr ?_))))))));clear hK K;cases h;have q:_=e7:=hk14;have h:=h7;rw [← q] at h;clear q;(try dsimp only at h);have hr:=zF h;rw [← hr];refine ⟨_,(.tmp .nil),?_⟩;refine ⟨(.one rfl rfl .nil),[.val (.bool false)],[],by simp [Cat.cells,XQuery.cells,XTerm.cells,UA,U1,IA,I1,LA,L1,BA,B1,EA,E1,E2,eB,eI,eL,Q1 _ Qa _ (fun _=>rfl),Q1 _ Qc _ (fun _=>rfl)],by simp,(UpL.refl _)⟩
   have g19:¬ (¬ (v18=true)):=gQ;clear g;replace h:=if_r g19 h;refine Q9 (bn (tn (runQ hN fun K hK=>?_)));replace ⟨a20,h⟩:=Q0 h;simp [Qo a20];(repeat refine sdQ ?_);refine hK _ ?_;clear hK K;cases h;exact rn (s':=s14+1) hk14 (Qv [])
  have g15:¬ (s14<(q_.left_.length:Int)):=gQ;clear g;replace h:=if_r g15 h;refine Qt (tx (lx (bh ?_)));cases h;exact jn (b:=()) hk14 (Qv [])
 intro b7 hb7;have h:=h7;try rw [← hb7] at h
 clear h7;try dsimp only at h
 refine Q2 ?_;replace ⟨e21,h,h21⟩:=bind_some h;refine Qn (fun b21:Bool=>⟨[(4,.val (.bool b21))],[],0⟩) (fun b21=>b21=e21) ?_ ?_
 ·refine runQ hN fun K hK=>?_;simp;repeat with_reducible refine sdQ ?_
  refine QC (fun g=>?_) (fun g=>?_)
  ·have g22:(q_.output_.length:Int)≤4:=gQ;clear g;replace h:=if_l g22 h;simp;(repeat with_reducible refine sdQ ?_);replace ⟨v23,hv23,h⟩:=bind_some h;refine Q3 (Q4P _ _ v23 hv23) (.cons .lst (.cons .val .nil)) ?_;simp;(repeat refine sdQ ?_);refine hK _ ?_;exact jn (b:=v23) (zF h) (Qv [])
  have g22:¬ ((q_.output_.length:Int)≤4):=gQ;clear g;replace h:=if_r g22 h;simp;repeat refine sdQ ?_
  refine hK _ ?_;exact jn (b:=false) (zF h) (Qv [])
 intro b21 hb21;have h:=h21;try rw [← hb21] at h
 clear h21;try dsimp only at h
 refine Ql ?_;have hr:=zF h;rw [← hr];refine ⟨_,(.tmp .nil),?_⟩;refine ⟨(.one rfl rfl .nil),[.val (.bool b21)],[],by simp [Cat.cells,XQuery.cells,XTerm.cells,UA,U1,IA,I1,LA,L1,BA,B1,EA,E1,E2,eB,eI,eL,Q1 _ Qa _ (fun _=>rfl),Q1 _ Qc _ (fun _=>rfl)],by simp,(UpL.refl _)⟩
attribute [local simp] unk unA unE unT unC flat eL eI Qw Q1V Qa Cat.cells XQuery.cells
noncomputable def Q1r (c_:Cat) (list_:List XQuery):Option Bool :=
 (QX c_).bind fun v1 =>
 if ¬ (v1=true) then
  some false
 else
  (QA (σ:=Int) (ε:=Unit ⊕ Bool) (fun s9 =>
   if s9<(list_.length:Int) then
    ass (0≤s9∧s9<(list_.length:Int)) <|
    (QW c_ (gx list_ s9)).bind fun v12 =>
    if ¬ (v12=true) then
     some (Ctl.ret (Sum.inr false))
    else
     ass (B64 (s9+1)) <|
     some (Ctl.next (s9+1))
   else
    some (Ctl.ret (Sum.inl ()))) fuel 0).bind fun e3 =>
  match e3 with
  | .inl b3 =>
   some true
  | .inr p3 =>
   some p3
@[simp] abbrev Y0b (a:List XQuery) (b:List (Nat × AV)):List (Nat × AV):=(10,.lst true 1 (Es Qa a))::(11,iV (a.length:Int))::b
theorem Q6a (c_:Cat) (list_:List XQuery) (r:Bool) (h:Q1r c_ list_=some r):Contract Try.prog 35 [.rptr (c_.cells true),.lst true 1 (Es Qa list_)] (.val (.bool r)):=by
 refine Qe (rvs:=[.tmp 4]) (rs:=[.val (.bool r)]) Try.func35 rfl rfl rfl rfl (by simp [Try.f35]) fun F hN hP=>?_;unfold Q1r at h;refine Q2 (runQ hN fun K hK=>?_);simp;repeat refine sdQ ?_
 refine hK _ ?_;clear hK K;refine tn (Q5 (st':=⟨Y09 c_ [(1,.lst true 1 (Es Qa list_))],[],0⟩) (Qv []) (Q2 (Q2 (runQ hN fun K hK=>?_))));simp;repeat with_reducible refine sdQ ?_
 replace ⟨v1,hv1,h⟩:=bind_some h;refine Q3 (Q3q _ v1 hv1) (.cons (.preT (by simp [Cat.cells,XQuery.cells])) .nil) ?_;simp;repeat refine sdQ ?_
 refine hK _ ?_;clear hK K;refine tn (Q5 (st':=⟨Y09 c_ [(1,.lst true 1 (Es Qa list_)),(9,.val (.bool (!v1)))],[],0⟩) (Qv []) (Q8 rfl (fun g=>?_) fun g=>?_))
 ·have g2:¬ (v1=true):=gQ;clear g;replace h:=if_l g2 h;refine Q2 (runQ hN fun K hK=>?_);simp;repeat refine sdQ ?_
  refine hK _ (tn (Q5 (st':=⟨Y03 [],[],0⟩) (Qv []) (Ql (tr ?_))));clear hK K;have hr:=zF h;rw [← hr];refine ⟨_,(.tmp .nil),?_⟩;refine ⟨(.one rfl rfl .nil),[.val (.bool false)],[],by simp [Cat.cells,XQuery.cells,UA,U1,IA,I1,LA,L1,BA,B1,EA,E1,E2,eB,eI,eL,Q1 _ Qa _ (fun _=>rfl)],by simp,(UpL.refl _)⟩
 have g2:¬ (¬ (v1=true)):=gQ;clear g;replace h:=if_r g2 h;refine Q9 (tn (Q2 (Q2 (runQ hN fun K hK=>?_))));simp;repeat refine sdQ ?_
 refine hK _ (tn (Q5 (st':=⟨Y09 c_ (Y0b list_ [(12,iV 0)]),[],0⟩) (Qv []) ?_));clear hK K;replace ⟨e3,h,h3⟩:=bind_some h;refine Qn (fun b3:Unit=>⟨[],[],0⟩) (fun b3=>Sum.inl b3=e3) ?_ ?_
 ·refine Q7 (Qy h (fun s9:Int=>⟨Y09 c_ (Y0b list_ [(12,iV s9)]),[],0⟩) (Qv []) ?_);clear h;intro k9 s9 c9 h hk9;refine Q2 (runQ hN fun K hK=>?_);simp;repeat refine sdQ ?_
  refine hK _ ?_;clear hK K;refine tn (Q2 (Q8 rfl (fun g=>?_) fun g=>?_))
  ·have g10:s9<(list_.length:Int):=gQ;clear g;replace h:=if_l g10 h;refine Q9 (tn (Q2 (Q7 (Q2 (runQ hN fun K hK=>?_)))));replace ⟨a11,h⟩:=Q0 h;simp [at_E (c:=Qa) a11];(repeat refine sdQ ?_);refine hK _ ?_;clear hK K;refine tn (Q5 (st':=⟨Y09 c_ ((6,.rptr (XQuery.cells true (gx list_ s9)))::Y0b list_ [(12,iV s9)]),[],0⟩) (Qv []) (Q2 (runQ hN fun K hK=>?_)));simp;(repeat with_reducible refine sdQ ?_);replace ⟨v12,hv12,h⟩:=bind_some h;refine Q3 (Q3V _ _ v12 hv12) (.cons (.preT (by simp [Cat.cells,XQuery.cells])) (.cons (.preT (by simp [Cat.cells,XQuery.cells])) .nil)) ?_;simp;(repeat refine sdQ ?_);refine hK _ ?_;clear hK K;refine tn (Q5 (st':=⟨Y09 c_ (Y0b list_ [(12,iV s9),(19,.val (.bool (!v12)))]),[],0⟩) (Qv []) (Q8 rfl (fun g=>?_) fun g=>?_))
   ·have g13:¬ (v12=true):=gQ;clear g;replace h:=if_l g13 h;refine Q2 (runQ hN fun K hK=>?_);simp;(repeat refine sdQ ?_);refine hK _ (tn (Q5 (st':=⟨Y03 [],[],0⟩) (Qv []) (Ql (br (tr (lr (br (tr ?_))))))));clear hK K;cases h;have q:_=e3:=hk9;have h:=h3;rw [← q] at h;clear q;(try dsimp only at h);have hr:=zF h;rw [← hr];refine ⟨_,(.tmp .nil),?_⟩;refine ⟨(.one rfl rfl .nil),[.val (.bool false)],[],by simp [Cat.cells,XQuery.cells,UA,U1,IA,I1,LA,L1,BA,B1,EA,E1,E2,eB,eI,eL,Q1 _ Qa _ (fun _=>rfl)],by simp,(UpL.refl _)⟩
   have g13:¬ (¬ (v12=true)):=gQ;clear g;replace h:=if_r g13 h;refine Q9 (bn (tn (runQ hN fun K hK=>?_)));replace ⟨a14,h⟩:=Q0 h;simp [Qo a14];(repeat refine sdQ ?_);refine hK _ ?_;clear hK K;cases h;exact rn (s':=s9+1) hk9 (Qv [])
  have g10:¬ (s9<(list_.length:Int)):=gQ;clear g;replace h:=if_r g10 h;refine Qt (tx (lx (bh ?_)));cases h;exact jn (b:=()) hk9 (Qv [])
 intro b3 hb3;have h:=h3;try rw [← hb3] at h
 clear h3;try dsimp only at h
 refine Q2 (runQ hN fun K hK=>?_);simp;repeat refine sdQ ?_
 refine hK _ (tn (Q5 (st':=⟨[(4,.val (.bool true))],[],0⟩) (Qv []) (Ql ?_)));clear hK K;have hr:=zF h;rw [← hr];refine ⟨_,(.tmp .nil),?_⟩;refine ⟨(.one rfl rfl .nil),[.val (.bool true)],[],by simp [Cat.cells,XQuery.cells,UA,U1,IA,I1,LA,L1,BA,B1,EA,E1,E2,eB,eI,eL,Q1 _ Qa _ (fun _=>rfl)],by simp,(UpL.refl _)⟩
attribute [local simp] unk unA unE unT unC flat eL eI Qw Q1V Qc Cat.cells XTerm.cells
noncomputable def Q23 (c_:Cat) (variables_:List Int) (t_:XTerm):Option Bool :=
 (
  ass (B64 ((variables_.length:Int) - 1)) <|
  (Q4p t_.variable_ 0 ((variables_.length:Int) - 1)).bind fun v3 =>
  if v3=true then
   (Q2g c_ t_.arrow_).bind fun v5 =>
   if v5=true then
    ass (0≤t_.arrow_∧t_.arrow_<(c_.fr.length:Int)) <|
    ass (0≤t_.variable_∧t_.variable_<(variables_.length:Int)) <|
    some ((ix c_.fr t_.arrow_) == (ix variables_ t_.variable_))
   else
    some false
  else
   some false:Option (Bool)).bind fun b1 =>
 some b1
theorem Q64 (c_:Cat) (variables_:List Int) (t_:XTerm) (r:Bool) (h:Q23 c_ variables_ t_=some r):Contract Try.prog 61 [.agg (c_.cells true),lI variables_,.agg (t_.cells true)] (.val (.bool r)):=by
 refine Qe (rvs:=[.tmp 6]) (rs:=[.val (.bool r)]) Try.func61 rfl rfl rfl rfl (by simp [Try.f61]) fun F hN hP=>?_;unfold Q23 at h;refine Q2 (runQ hN fun K hK=>?_);simp;repeat refine sdQ ?_
 refine hK _ (tn (Q5 (st':=⟨[(1,lI variables_),(3,.adr 0 0 0),(5,.adr 1 0 0)],YA c_ [(1,.mix 2 [(XTerm.cells true t_)])],2⟩) (Qv [(0,0),(1,1)]) (Q2 ?_)));clear hK K;replace ⟨e1,h,h1⟩:=bind_some h;refine Qn (fun b1:Bool=>⟨[(6,.val (.bool b1))],[],0⟩) (fun b1=>b1=e1) ?_ ?_
 ·refine runQ hN fun K hK=>?_;replace ⟨a2,h⟩:=Q0 h;simp [Qo a2];repeat with_reducible refine sdQ ?_
  replace ⟨v3,hv3,h⟩:=bind_some h;refine Q3 (w_s_l01In _ _ _ v3 hv3) (.cons .val (.cons .val (.cons .val .nil))) ?_;simp;repeat with_reducible refine sdQ ?_
  refine QC (fun g=>?_) (fun g=>?_)
  ·have g4:v3=true:=gQ;clear g;replace h:=if_l g4 h;simp;(repeat with_reducible refine sdQ ?_);replace ⟨v5,hv5,h⟩:=bind_some h;refine Q3 (Q85 _ _ v5 hv5) (.cons (.aggL (.cons .val (.cons .lst (.cons .lst (.cons .lst (.cons .lst .nil)))))) (.cons .val .nil)) ?_;simp;(repeat with_reducible refine sdQ ?_);refine QC (fun g=>?_) (fun g=>?_)
   ·have g6:v5=true:=gQ;clear g;replace h:=if_l g6 h;replace ⟨a7,h⟩:=Q0 h;replace ⟨a8,h⟩:=Q0 h;simp [at_I a7,at_I a8];(repeat refine sdQ ?_);refine hK _ ?_;exact jn (b:=(ix c_.fr t_.arrow_) == (ix variables_ t_.variable_)) (zF h) (Qv [])
   have g6:¬ (v5=true):=gQ;clear g;replace h:=if_r g6 h;simp;(repeat refine sdQ ?_);refine hK _ ?_;exact jn (b:=false) (zF h) (Qv [])
  have g4:¬ (v3=true):=gQ;clear g;replace h:=if_r g4 h;simp;repeat refine sdQ ?_
  refine hK _ ?_;exact jn (b:=false) (zF h) (Qv [])
 intro b1 hb1;have h:=h1;try rw [← hb1] at h
 clear h1;try dsimp only at h
 refine Ql ?_;have hr:=zF h;rw [← hr];refine ⟨_,(.tmp .nil),?_⟩;refine ⟨(.one rfl rfl .nil),[.val (.bool b1)],[],by simp [Cat.cells,XTerm.cells,UA,U1,IA,I1,LA,L1,BA,B1,EA,E1,E2,eB,eI,eL,Q1 _ Qc _ (fun _=>rfl)],by simp,(UpL.refl _)⟩
attribute [local simp] unk unA unE unT unC flat eL eI Qw Q1V Qa Qc Cat.cells XQuery.cells XTerm.cells
noncomputable def Q20 (c_:Cat) (q_:XQuery):Option Bool :=
 (
  (Q4q c_).bind fun v2 =>
  if ¬ (v2=true) then
   some true
  else
   if (q_.variables_.length:Int) > 4 then
    some true
   else
    (Q32 c_.n q_.variables_).bind fun v5 =>
    if ¬ (v5=true) then
     some true
    else
     if (q_.left_.length:Int) > 6 then
      some true
     else
      if ¬ ((q_.right_.length:Int)=(q_.left_.length:Int)) then
       some true
      else
       if (q_.output_.length:Int) > 4 then
        some true
       else
        (Q32 (q_.variables_.length:Int) q_.output_).bind fun v10 =>
        some (!v10):Option (Bool)).bind fun b1 =>
 if b1=true then
  some false
 else
  (QA (σ:=Int) (ε:=Unit ⊕ Bool) (fun s27 =>
   if s27<(q_.left_.length:Int) then
    (
     ass (0≤s27∧s27<(q_.left_.length:Int)) <|
     (Q23 c_ q_.variables_ (gx q_.left_ s27)).bind fun v31 =>
     if ¬ (v31=true) then
      some true
     else
      ass (0≤s27∧s27<(q_.right_.length:Int)) <|
      (Q23 c_ q_.variables_ (gx q_.right_ s27)).bind fun v34 =>
      if ¬ (v34=true) then
       some true
      else
       ass (0≤s27∧s27<(q_.left_.length:Int)) <|
       ass (0≤(gx q_.left_ s27).arrow_∧(gx q_.left_ s27).arrow_<(c_.to.length:Int)) <|
       ass (0≤s27∧s27<(q_.right_.length:Int)) <|
       ass (0≤(gx q_.right_ s27).arrow_∧(gx q_.right_ s27).arrow_<(c_.to.length:Int)) <|
       some ((ix c_.to ((gx q_.left_ s27).arrow_)) != (ix c_.to ((gx q_.right_ s27).arrow_))):Option (Bool)).bind fun b29 =>
    if b29=true then
     some (Ctl.ret (Sum.inr false))
    else
     ass (B64 (s27+1)) <|
     some (Ctl.next (s27+1))
   else
    some (Ctl.ret (Sum.inl ()))) fuel 0).bind fun e12 =>
  match e12 with
  | .inl b12 =>
   some true
  | .inr p12 =>
   some p12
theorem Q8Y (c_:Cat) (q_:XQuery) (r:Bool) (h:Q20 c_ q_=some r):Contract Try.prog 30 (Y0o c_ q_ []) (.val (.bool r)):=by
 refine Qe (rvs:=[.tmp 4]) (rs:=[.val (.bool r)]) Try.func30 rfl rfl rfl rfl (by simp [Try.f30]) fun F hN hP=>?_;unfold Q20 at h;refine Q2 (runQ hN fun K hK=>?_);simp;repeat refine sdQ ?_
 refine hK _ (tn (Q5 (st':=⟨Yr [],Yn c_ q_ [],2⟩) (Qv [(0,0),(1,1)]) (Q2 (Q2 ?_))));clear hK K;replace ⟨e1,h,h1⟩:=bind_some h;refine Qn (fun b1:Bool=>⟨Yr [(52,.val (.bool b1))],Yn c_ q_ [],2⟩) (fun b1=>b1=e1) ?_ ?_
 ·refine runQ hN fun K hK=>?_;simp;repeat with_reducible refine sdQ ?_
  replace ⟨v2,hv2,h⟩:=bind_some h;refine Q3 (w_s_l02Is _ v2 hv2) (.cons (.aggL (.cons .val (.cons .lst (.cons .lst (.cons .lst (.cons .lst .nil)))))) .nil) ?_;simp;repeat with_reducible refine sdQ ?_
  refine QC (fun g=>?_) (fun g=>?_)
  ·have g3:¬ (¬ (v2=true)):=gQ;clear g;replace h:=if_r g3 h;simp;(repeat with_reducible refine sdQ ?_);refine QC (fun g=>?_) (fun g=>?_)
   ·have g4:¬ ((q_.variables_.length:Int) > 4):=gQ;clear g;replace h:=if_r g4 h;simp;(repeat with_reducible refine sdQ ?_);replace ⟨v5,hv5,h⟩:=bind_some h;refine Q3 (Q6F _ _ v5 hv5) (.cons .val (.cons .lst .nil)) ?_;simp;(repeat with_reducible refine sdQ ?_);refine QC (fun g=>?_) (fun g=>?_)
    ·have g6:¬ (¬ (v5=true)):=gQ;clear g;replace h:=if_r g6 h;simp;(repeat with_reducible refine sdQ ?_);refine QC (fun g=>?_) (fun g=>?_)
     ·have g7:¬ ((q_.left_.length:Int) > 6):=gQ;clear g;replace h:=if_r g7 h;simp;(repeat with_reducible refine sdQ ?_);refine QC (fun g=>?_) (fun g=>?_)
      ·have g8:¬ (¬ ((q_.right_.length:Int)=(q_.left_.length:Int))):=gQ;clear g;replace h:=if_r g8 h;simp;(repeat with_reducible refine sdQ ?_);refine QC (fun g=>?_) (fun g=>?_)
       ·have g9:¬ ((q_.output_.length:Int) > 4):=gQ;clear g;replace h:=if_r g9 h;simp;(repeat with_reducible refine sdQ ?_);replace ⟨v10,hv10,h⟩:=bind_some h;refine Q3 (Q6F _ _ v10 hv10) (.cons .val (.cons .lst .nil)) ?_;simp;(repeat refine sdQ ?_);refine hK _ ?_;exact jn (b:=!v10) (zF h) (Qv [(0,0),(1,1)])
       have g9:(q_.output_.length:Int) > 4:=gQ;clear g;replace h:=if_l g9 h;simp;(repeat refine sdQ ?_);refine hK _ ?_;exact jn (b:=true) (zF h) (Qv [(0,0),(1,1)])
      have g8:¬ ((q_.right_.length:Int)=(q_.left_.length:Int)):=gQ;clear g;replace h:=if_l g8 h;simp;(repeat refine sdQ ?_);refine hK _ ?_;exact jn (b:=true) (zF h) (Qv [(0,0),(1,1)])
     have g7:(q_.left_.length:Int) > 6:=gQ;clear g;replace h:=if_l g7 h;simp;(repeat refine sdQ ?_);refine hK _ ?_;exact jn (b:=true) (zF h) (Qv [(0,0),(1,1)])
    have g6:¬ (v5=true):=gQ;clear g;replace h:=if_l g6 h;simp;(repeat refine sdQ ?_);refine hK _ ?_;exact jn (b:=true) (zF h) (Qv [(0,0),(1,1)])
   have g4:(q_.variables_.length:Int) > 4:=gQ;clear g;replace h:=if_l g4 h;simp;(repeat refine sdQ ?_);refine hK _ ?_;exact jn (b:=true) (zF h) (Qv [(0,0),(1,1)])
  have g3:¬ (v2=true):=gQ;clear g;replace h:=if_l g3 h;simp;repeat refine sdQ ?_
  refine hK _ ?_;exact jn (b:=true) (zF h) (Qv [(0,0),(1,1)])
 intro b1 hb1;have h:=h1;try rw [← hb1] at h
 clear h1;try dsimp only at h
 refine Q8 rfl (fun g=>?_) fun g=>?_
 ·have g11:b1=true:=gQ;clear g;replace h:=if_l g11 h;refine Q2 (runQ hN fun K hK=>?_);simp;repeat refine sdQ ?_
  refine hK _ (tn (Q5 (st':=⟨Y03 [],[],0⟩) (Qv []) (Ql (tr ?_))));clear hK K;have hr:=zF h;rw [← hr];refine ⟨_,(.tmp .nil),?_⟩;refine ⟨(.one rfl rfl .nil),[.val (.bool false)],[],by simp [Cat.cells,XQuery.cells,XTerm.cells,UA,U1,IA,I1,LA,L1,BA,B1,EA,E1,E2,eB,eI,eL,Q1 _ Qa _ (fun _=>rfl),Q1 _ Qc _ (fun _=>rfl)],by simp,(UpL.refl _)⟩
 have g11:¬ (b1=true):=gQ;clear g;replace h:=if_r g11 h;refine Q9 (tn (Q2 (Q2 (runQ hN fun K hK=>?_))));simp;repeat refine sdQ ?_
 refine hK _ (tn (Q5 (st':=⟨Yr [(5,iV 0)],Yn c_ q_ [],2⟩) (Qv [(0,0),(1,1)]) ?_));clear hK K;replace ⟨e12,h,h12⟩:=bind_some h;refine Qn (fun b12:Unit=>⟨[],[],0⟩) (fun b12=>Sum.inl b12=e12) ?_ ?_
 ·refine Q7 (Qy h (fun s27:Int=>⟨Yr [(5,iV s27)],Yn c_ q_ [],2⟩) (Qv [(0,0),(1,1)]) ?_);clear h;intro k27 s27 c27 h hk27;refine Q2 (Q2 (runQ hN fun K hK=>?_));simp;repeat refine sdQ ?_
  refine hK _ ?_;clear hK K;refine tn (Q8 rfl (fun g=>?_) fun g=>?_)
  ·have g28:s27<(q_.left_.length:Int):=gQ;clear g;replace h:=if_l g28 h;refine Q9 (tn (Q2 (Q7 (Q2 ?_))));replace ⟨e29,h,h29⟩:=bind_some h;refine Qn (fun b29:Bool=>⟨Yr [(5,iV s27),(104,.val (.bool b29))],Yn c_ q_ [],2⟩) (fun b29=>b29=e29) ?_ ?_
   ·refine runQ hN fun K hK=>?_;replace ⟨a30,h⟩:=Q0 h;simp [at_E (c:=(XTerm.cells true)) a30];(repeat with_reducible refine sdQ ?_);replace ⟨v31,hv31,h⟩:=bind_some h;refine Q3 (Q64 _ _ _ v31 hv31) (.cons (.aggL (.cons .val (.cons .lst (.cons .lst (.cons .lst (.cons .lst .nil)))))) (.cons .lst (.cons (.aggL (.cons .val (.cons .val .nil))) .nil))) ?_;simp [at_E (c:=(XTerm.cells true)) a30];(repeat with_reducible refine sdQ ?_);refine QC (fun g=>?_) (fun g=>?_)
    ·have g32:¬ (¬ (v31=true)):=gQ;clear g;replace h:=if_r g32 h;replace ⟨a33,h⟩:=Q0 h;simp [at_E (c:=(XTerm.cells true)) a30,at_E (c:=(XTerm.cells true)) a33];(repeat with_reducible refine sdQ ?_);replace ⟨v34,hv34,h⟩:=bind_some h;refine Q3 (Q64 _ _ _ v34 hv34) (.cons (.aggL (.cons .val (.cons .lst (.cons .lst (.cons .lst (.cons .lst .nil)))))) (.cons .lst (.cons (.aggL (.cons .val (.cons .val .nil))) .nil))) ?_;simp [at_E (c:=(XTerm.cells true)) a30,at_E (c:=(XTerm.cells true)) a33];(repeat with_reducible refine sdQ ?_);refine QC (fun g=>?_) (fun g=>?_)
     ·have g35:¬ (¬ (v34=true)):=gQ;clear g;replace h:=if_r g35 h;replace ⟨a36,h⟩:=Q0 h;replace ⟨a37,h⟩:=Q0 h;replace ⟨a38,h⟩:=Q0 h;replace ⟨a39,h⟩:=Q0 h;simp [at_E (c:=(XTerm.cells true)) a30,at_E (c:=(XTerm.cells true)) a33,at_E (c:=(XTerm.cells true)) a36,at_I a37,at_E (c:=(XTerm.cells true)) a38,at_I a39];(repeat refine sdQ ?_);refine hK _ ?_;exact jn (b:=(ix c_.to ((gx q_.left_ s27).arrow_)) != (ix c_.to ((gx q_.right_ s27).arrow_))) (zF h) (Qv [(0,0),(1,1)])
     have g35:¬ (v34=true):=gQ;clear g;replace h:=if_l g35 h;simp [at_E (c:=(XTerm.cells true)) a30,at_E (c:=(XTerm.cells true)) a33];(repeat refine sdQ ?_);refine hK _ ?_;exact jn (b:=true) (zF h) (Qv [(0,0),(1,1)])
    have g32:¬ (v31=true):=gQ;clear g;replace h:=if_l g32 h;simp [at_E (c:=(XTerm.cells true)) a30];(repeat refine sdQ ?_);refine hK _ ?_;exact jn (b:=true) (zF h) (Qv [(0,0),(1,1)])
   intro b29 hb29;have h:=h29;(try rw [← hb29] at h);clear h29;(try dsimp only at h);refine Q8 rfl (fun g=>?_) fun g=>?_
   ·have g40:b29=true:=gQ;clear g;replace h:=if_l g40 h;refine Q2 (runQ hN fun K hK=>?_);simp;(repeat refine sdQ ?_);refine hK _ (tn (Q5 (st':=⟨Y03 [],[],0⟩) (Qv []) (Ql (br (tr (lr (br (tr ?_))))))));clear hK K;cases h;have q:_=e12:=hk27;have h:=h12;rw [← q] at h;clear q;(try dsimp only at h);have hr:=zF h;rw [← hr];refine ⟨_,(.tmp .nil),?_⟩;refine ⟨(.one rfl rfl .nil),[.val (.bool false)],[],by simp [Cat.cells,XQuery.cells,XTerm.cells,UA,U1,IA,I1,LA,L1,BA,B1,EA,E1,E2,eB,eI,eL,Q1 _ Qa _ (fun _=>rfl),Q1 _ Qc _ (fun _=>rfl)],by simp,(UpL.refl _)⟩
   have g40:¬ (b29=true):=gQ;clear g;replace h:=if_r g40 h;refine Q9 (bn (tn (runQ hN fun K hK=>?_)));replace ⟨a41,h⟩:=Q0 h;simp [Qo a41];(repeat refine sdQ ?_);refine hK _ ?_;clear hK K;cases h;exact rn (s':=s27+1) hk27 (Qv [(0,0),(1,1)])
  have g28:¬ (s27<(q_.left_.length:Int)):=gQ;clear g;replace h:=if_r g28 h;refine Qt (tx (lx (bh ?_)));cases h;exact jn (b:=()) hk27 (Qv [])
 intro b12 hb12;have h:=h12;try rw [← hb12] at h
 clear h12;try dsimp only at h
 refine Q2 (runQ hN fun K hK=>?_);simp;repeat refine sdQ ?_
 refine hK _ (tn (Q5 (st':=⟨[(4,.val (.bool true))],[],0⟩) (Qv []) (Ql ?_)));clear hK K;have hr:=zF h;rw [← hr];refine ⟨_,(.tmp .nil),?_⟩;refine ⟨(.one rfl rfl .nil),[.val (.bool true)],[],by simp [Cat.cells,XQuery.cells,XTerm.cells,UA,U1,IA,I1,LA,L1,BA,B1,EA,E1,E2,eB,eI,eL,Q1 _ Qa _ (fun _=>rfl),Q1 _ Qc _ (fun _=>rfl)],by simp,(UpL.refl _)⟩
section
attribute [local simp] Qd QD Qq QN QB
theorem Q5l {c:Cat} (hc:c.Is) {V:List Int}:VarQ c V↔V.length≤4∧V.all (inR c.n)=true:=by
 have hn:=hc.nums;constructor
 ·intro h;refine ⟨h.len,?_⟩;rw [qS];intro x hx;obtain ⟨i,hi,rfl⟩:=List.getElem_of_mem hx;have:=h.at' i hi;rw [← Q1K _ _ hi] at this;simp only [inR,Bool.and_eq_true,decide_eq_true_eq];omega
 rintro ⟨h1,h2⟩
 refine ⟨h1,fun i hi=>?_⟩;have:=Q6g (List.all_eq_true.1 h2) (j:=i) (by omega) (by omega);unfold VN;omega
theorem Q4y {p:Prop} {b:Bool} (h:b=true↔p):b=bo p:=by
 by_cases q:p
 ·rw [Q1u q,h.2 q]
 rw [QF q];cases b with
 | false=>rfl
 | true=>exact absurd (h.1 rfl) q
theorem e_arrowQ (c:Cat) (f:Int):Q2g c f=some (bo (0≤f∧f<(c.fr.length:Int))):=by
 unfold Q2g
 by_cases h:f ≥ 0
 ·rw [if_pos h];simp only [zG]
  congr 1
  exact Q4y (by simp;omega)
 rw [if_neg h];simp only [zG];rw [QF (by omega)]
theorem Q9T {c:Cat} (hc:c.Is) {V:List Int} (hV:VarQ c V) (t:XTerm) (h1:0≤t.variable_∧t.variable_<(V.length:Int)) (h2:0≤t.arrow_∧t.arrow_<(c.fr.length:Int)):(ix c.fr t.arrow_ == ix V t.variable_)=bo (TmQ c V t):=by
 obtain ⟨v1,v2⟩:=hV.at' t.variable_.toNat (by omega);obtain ⟨f1,f2,f3,f4⟩:=Q1c hc (b:=t.arrow_.toNat) (by omega);have e1:(t.variable_.toNat:Int)=t.variable_:=by omega
 have e2:(t.arrow_.toNat:Int)=t.arrow_:=by omega
 rw [e1] at v1;rw [e2] at f1;refine Q4y ?_;rw [beq_iff_eq,f1,v1];constructor
 ·intro h;exact ⟨h1,h2,by simp only [tP];omega⟩
 intro h;have:=h.f;simp only [tP] at this;omega
theorem var_b {V:List Int} (t:XTerm):(decide (0≤t.variable_) && decide (t.variable_≤(V.length:Int) - 1))=bo (0≤t.variable_∧t.variable_<(V.length:Int)):=Q4y (by simp;omega)
theorem arr_b {c:Cat} (t:XTerm):(decide (0≤t.arrow_) && decide (t.arrow_≤(c.fr.length:Int) - 1))=bo (0≤t.arrow_∧t.arrow_<(c.fr.length:Int)):=Q4y (by simp;omega)
theorem Q6M {c:Cat} (hc:c.Is) {V:List Int} (hV:VarQ c V) (t:XTerm):Q23 c V t=some (bo (TmQ c V t)):=by
 have hl:=hV.len;unfold Q23 Q4p;rw [Q4 (by unfold B64;omega),var_b,e_arrowQ];simp only [zG]
 by_cases h1:0≤t.variable_∧t.variable_<(V.length:Int)
 ·rw [Q1u h1,if_pos rfl]
  by_cases h2:0≤t.arrow_∧t.arrow_<(c.fr.length:Int)
  ·rw [Q1u h2,if_pos rfl,Q4 (by omega),Q4 (by omega),Q9T hc hV t h1 h2];rfl
  rw [QF h2,if_neg (by simp),QF (fun k=>h2 k.a)];rfl
 rw [QF h1,if_neg (by simp),QF (fun k=>h1 k.v)];rfl
theorem e_termI {c:Cat} (hc:c.Is) {q:XQuery} (hV:VarQ c q.variables_) (t:XTerm):QQ c q t=some (bo (TmQ c q.variables_ t)):=by
 have hl:=hV.len;have hn:=hc.nums;unfold QQ Q2E Q1j;rw [Q4 (by unfold B64;omega),var_b];simp only [zG]
 by_cases h1:0≤t.variable_∧t.variable_<(q.variables_.length:Int)
 ·rw [Q1u h1,if_pos rfl,Q4 (by unfold B64;omega),arr_b]
  by_cases h2:0≤t.arrow_∧t.arrow_<(c.fr.length:Int)
  ·rw [Q1u h2,if_pos rfl,Q4 (by omega),Q4 (by omega),Q9T hc hV t h1 h2];rfl
  rw [QF h2,if_neg (by simp),QF (fun k=>h2 k.a)];rfl
 rw [QF h1,if_neg (by simp),QF (fun k=>h1 k.v)];rfl
def Q9Z (c:Cat) (V:List Int) (t t':XTerm):Prop:=TmQ c V t∧TmQ c V t'∧toN c (tP t).2=toN c (tP t').2
theorem to_b {c:Cat} (hc:c.Is) {V:List Int} {t t':XTerm} (h:TmQ c V t) (h':TmQ c V t'):(ix c.to t.arrow_=ix c.to t'.arrow_↔toN c (tP t).2=toN c (tP t').2):=by
 obtain ⟨e1,e2,e3,e4⟩:=h.e;obtain ⟨k1,k2,k3,k4⟩:=h'.e;obtain ⟨f1,f2,f3,f4⟩:=Q1c hc e4;obtain ⟨g1,g2,g3,g4⟩:=Q1c hc k4;rw [e2,k2,f3,g3];omega
theorem e_condI {c:Cat} (hc:c.Is) {q:XQuery} (hV:VarQ c q.variables_) (t t':XTerm):QJ c q t t'=some (bo (Q9Z c q.variables_ t t')):=by
 have hn:=hc.nums;unfold QJ;rw [e_termI hc hV,e_termI hc hV];simp only [zG]
 by_cases h1:TmQ c q.variables_ t
 ·rw [Q1u h1,if_pos rfl]
  by_cases h2:TmQ c q.variables_ t'
  ·have a1:=h1.a;have a2:=h2.a;rw [Q1u h2,if_pos rfl,Q4 (by omega),Q4 (by omega)];simp only [zG]
   congr 1
   refine Q4y ?_;rw [beq_iff_eq,to_b hc h1 h2];exact ⟨fun h=>⟨h1,h2,h⟩,fun h=>h.2.2⟩
  rw [QF h2,if_neg (by simp),QF (fun k=>h2 k.2.1)];rfl
 rw [QF h1,if_neg (by simp),QF (fun k=>h1 k.1)];rfl
theorem qis_mk {c:Cat} (hc:c.Is) {q:XQuery} (hV:VarQ c q.variables_) (h1:q.left_.length≤6) (h2:q.right_.length=q.left_.length) (h3:q.output_.length≤4) (h4:q.output_.all (inR (q.variables_.length:Int))=true) (h5:∀ i:Nat,i<q.left_.length→Q9Z c q.variables_ (gx q.left_ i) (gx q.right_ i)):QIs c q :=
 ⟨hV,h1,h2,fun i hi=>(h5 i hi).1,fun i hi=>(h5 i hi).2.1,fun i hi=>(h5 i hi).2.2,h3,List.all_eq_true.1 h4⟩
theorem QIs.cond {c:Cat} {q:XQuery} (h:QIs c q) {i:Nat} (hi:i<q.left_.length):Q9Z c q.variables_ (gx q.left_ i) (gx q.right_ i):=⟨h.cl i hi,h.cr i hi,h.ct i hi⟩
theorem e_IsQuery (c:Cat) (q:XQuery):Q20 c q=some (bo (c.Is∧QIs c q)):=by
 unfold Q20 Q4q Q32
 by_cases hc:c.Is
 case neg=>simp [QF hc,QF (fun k:c.Is∧QIs c q=>hc k.1)]
 have hn:=hc.nums;rw [Q1u hc];simp only [zG,not_true_eq_false,if_false]
 by_cases h1:(q.variables_.length:Int) > 4
 ·rw [if_pos h1,QF (fun k=>by have:=k.2.v.len;omega)];simp
 rw [if_neg h1]
 by_cases h2:q.variables_.all (inR c.n)=true
 case neg=>rw [if_pos h2,QF (fun k=>h2 ((Q5l hc).1 k.2.v).2)];simp
 have hV:VarQ c q.variables_:=(Q5l hc).2 ⟨by omega,h2⟩;rw [h2];simp only [not_true_eq_false,if_false]
 by_cases h3:(q.left_.length:Int) > 6
 ·rw [if_pos h3,QF (fun k=>by have:=k.2.nl;omega)];simp
 rw [if_neg h3]
 by_cases h4:(q.right_.length:Int)=(q.left_.length:Int)
 case neg=>rw [if_pos h4,QF (fun k=>by have:=k.2.lr;omega)];simp
 rw [if_neg (by omega)]
 by_cases h5:(q.output_.length:Int) > 4
 ·rw [if_pos h5,QF (fun k=>by have:=k.2.nout;omega)];simp
 rw [if_neg h5]
 by_cases h6:q.output_.all (inR (q.variables_.length:Int))=true
 case neg =>
  have h6':q.output_.all (inR (q.variables_.length:Int))=false:=by simpa using h6
  rw [h6',QF (fun k=>h6 (List.all_eq_true.2 k.2.out))];simp
 rw [h6];simp only [zG,Bool.not_true,Bool.false_eq_true,if_false];refine Q4g q.left_.length (fun i=>¬ Q9Z c q.variables_ (gx q.left_ i) (gx q.right_ i)) (eb:=fun _=>Sum.inr false) (eg:=Sum.inl ()) (by omega) (fun i hi hp=>?_) (fun i hi hp=>?_) (by simp) (fun m hm hp _=>?_) fun hp=>?_
 ·have k:=Classical.not_not.1 hp;have a1:=k.1.a;have a2:=k.2.1.a;rw [if_pos (by omega),Q4 (by omega),Q6M hc hV,Q1u k.1];simp only [zG,not_true_eq_false,if_false];rw [Q4 (by omega),Q6M hc hV,Q1u k.2.1];simp only [zG,not_true_eq_false,if_false];rw [Q4 (by omega),Q4 (by omega),Q4 (by omega),Q4 (by omega)];simp only [zG];rw [if_neg (by simp [(to_b hc k.1 k.2.1).2 k.2.2]),Q4 (by unfold B64;omega)]
 ·rw [if_pos (by omega),Q4 (by omega),Q6M hc hV];simp only [zG]
  by_cases k1:TmQ c q.variables_ (gx q.left_ i)
  ·rw [Q1u k1,if_neg (by simp),Q4 (by omega),Q6M hc hV];simp only [zG]
   by_cases k2:TmQ c q.variables_ (gx q.right_ i)
   ·have a1:=k1.a;have a2:=k2.a;rw [Q1u k2,if_neg (by simp),Q4 (by omega),Q4 (by omega),Q4 (by omega),Q4 (by omega)];simp only [zG];rw [if_pos (by
     simp only [bne_iff_ne,ne_eq];exact fun w=>hp ⟨k1,k2,(to_b hc k1 k2).1 w⟩)]
   rw [QF k2,if_pos (by simp)];simp
  rw [QF k1,if_pos (by simp)];simp
 ·rw [QF (fun k=>hp (k.2.cond hm))]
 rw [Q1u ⟨hc,qis_mk hc hV (by omega) (by omega) (by omega) h6 fun i hi=>Classical.not_not.1 (hp i hi)⟩]
theorem Q6k {c:Cat} (hc:c.Is) (q:XQuery):QW c q=some (bo (QIs c q)):=by
 unfold QW Q1Z;have hn:=hc.nums
 by_cases h1:(q.variables_.length:Int) > 4
 ·rw [if_pos h1,QF (fun k=>by have:=k.v.len;omega)];simp
 rw [if_neg h1,Q4 (by unfold B64;omega)];simp only [zG]
 by_cases h2:q.variables_.all (inR c.n)=true
 case neg=>rw [if_pos h2,QF (fun k=>h2 ((Q5l hc).1 k.v).2)];simp
 have hV:VarQ c q.variables_:=(Q5l hc).2 ⟨by omega,h2⟩;rw [h2];simp only [not_true_eq_false,if_false]
 by_cases h3:(q.left_.length:Int) > 6
 ·rw [if_pos h3,QF (fun k=>by have:=k.nl;omega)];simp
 rw [if_neg h3]
 by_cases h4:(q.right_.length:Int)=(q.left_.length:Int)
 case neg =>
  have:((q.right_.length:Int) != (q.left_.length:Int))=true:=by simpa using fun w=>h4 (by omega)
  rw [this,QF (fun k=>by have:=k.lr;omega)];simp
 have h4':((q.right_.length:Int) != (q.left_.length:Int))=false:=by simp;omega
 rw [h4'];simp only [zG,Bool.false_eq_true,if_false];refine Q4g q.left_.length (fun i=>¬ Q9Z c q.variables_ (gx q.left_ i) (gx q.right_ i)) (eb:=fun _=>Sum.inr false) (eg:=Sum.inl ()) (by omega) (fun i hi hp=>?_) (fun i hi hp=>?_) (by simp) (fun m hm hp _=>?_) fun hp=>?_
 ·have k:=Classical.not_not.1 hp;rw [if_pos (by omega),Q4 (by omega),Q4 (by omega),e_condI hc hV,Q1u k];simp only [zG,not_true_eq_false,if_false];rw [Q4 (by unfold B64;omega)]
 ·rw [if_pos (by omega),Q4 (by omega),Q4 (by omega),e_condI hc hV,QF hp];simp
 ·simp only;rw [QF (fun k=>hp (k.cond hm))]
 simp only
 by_cases h5:(q.output_.length:Int)≤4
 ·rw [if_pos h5,Q4 (by unfold B64;omega)];simp only [zG]
  congr 1
  refine Q4y ⟨fun h6=>qis_mk hc hV (by omega) (by omega) (by omega) h6 fun i hi=>Classical.not_not.1 (hp i hi),fun k=>List.all_eq_true.2 k.out⟩
 rw [if_neg h5,QF (fun k=>by have:=k.nout;omega)];simp
theorem e_areQ (c:Cat) (L:List XQuery) (hl:L.length≤1000):Q1r c L=some (bo (c.Is∧∀ i:Nat,i<L.length→QIs c (gx L i))):=by
 unfold Q1r QX
 by_cases hc:c.Is
 case neg=>simp [QF hc,QF (fun k:c.Is∧∀ i:Nat,i<L.length→QIs c (gx L i)=>hc k.1)]
 rw [Q1u hc];simp only [zG,not_true_eq_false,if_false];refine Q4g L.length (fun i=>¬ QIs c (gx L i)) (eb:=fun _=>Sum.inr false) (eg:=Sum.inl ()) (by omega) (fun i hi hp=>?_) (fun i hi hp=>?_) (by simp) (fun m hm hp _=>?_) fun hp=>?_
 ·rw [if_pos (by omega),Q4 (by omega),Q6k hc,Q1u (Classical.not_not.1 hp)];simp only [zG,not_true_eq_false,if_false];rw [Q4 (by unfold B64;omega)]
 ·rw [if_pos (by omega),Q4 (by omega),Q6k hc,QF hp];simp
 ·simp only;rw [QF (fun k=>hp (k.2 m hm))]
 simp only;rw [Q1u ⟨hc,fun i hi=>Classical.not_not.1 (hp i hi)⟩]
end
section
attribute [local simp] Qd QD Qq QN QB
theorem ix_setQe {p:List Int} {f:Int} {i:Nat} (h:i<p.length):ix (p.set i f) i=f:=by simp [ix,qB,h]
theorem ix_setQn {p:List Int} {f:Int} {i j:Nat} (h:i ≠ j):ix (p.set i f) j=ix p j:=by simp [ix,qB,List.getElem?_set,h]
theorem rx_tabQ {n t:Nat} (ht:t<n) (g:Nat→List Int):rx (tab n g) (t:Int)=g t:=by simp [rx,tab,qB,ht]
theorem quoA_val {f:SF} {p:List (List Int)} {a x y:Nat} (hx:ix f.s.fr a=(x:Int)) (hy:ix f.s.to a=(y:Int)) {n:Nat}
  (hb:∀ e:Nat,e<n→0≤ix (rx p x) e∧ix (rx p x) e<mxP (rx p x) (rx p x).length)
  (hc:∀ e e':Nat,e<n→e' < n→ix (rx p x) e=ix (rx p x) e'→ix (rx p y) (ix (rx f.ac a) e)=ix (rx p y) (ix (rx f.ac a) e')) :
  ∀ k,k≤n→∀ e:Nat,e<k→ix (quoA f p a k) (ix (rx p x) e)=ix (rx p y) (ix (rx f.ac a) e):=by
 intro k
 induction k with
 | zero=>intro _ e he;omega
 | succ k ih =>
  intro hk e he;have b1:=hb k (by omega);have b2:=hb e (by omega);have hl:=Q5i f p a k;rw [hx] at hl;have e1:ix (rx p x) k=((ix (rx p x) k).toNat:Int):=by omega
  have e2:ix (rx p x) e=((ix (rx p x) e).toNat:Int):=by omega
  rw [Q76 hx hy]
  by_cases z:ix (rx p x) e=ix (rx p x) k
  ·rw [z,e1,zK,ix_setQe (by omega)];exact (hc e k (by omega) (by omega) z).symm
  rw [e2,ix_setQn (by omega),← e2];refine ih (by omega) e ?_;rcases Nat.lt_or_ge e k with h|h
  ·exact h
  have:e=k:=by omega
  subst this;exact absurd rfl z
theorem quo_val {c:Cat} {q:XQuery} (hc:c.Is) (hq:QIs c q) {R:Nat→Nat→Nat} (hR:GI c q R) (hk:∀ a,a<c.fr.length→Clo c q R a) {v a:Nat} (hv:v<q.variables_.length) (ha:a<c.fr.length) (hf:frN c a=VN q.variables_ v) :
  ((0≤ix (genQ c q R) v∧ix (genQ c q R) v<((rx (quoF (QU c q.variables_) (clsF c q R)).ac a).length:Int))∧ix (rx (quoF (QU c q.variables_) (clsF c q R)).ac a) (ix (genQ c q R) v)=cl c q R (v,a)):=by
 obtain ⟨v1,v2⟩:=hq.v.at' v hv;obtain ⟨f1,f2,f3,f4⟩:=Q1c hc ha;obtain ⟨g1,g2⟩:=gen_mem hc hq hv;obtain ⟨r1,r2⟩:=Q6P (q:=q) ha;have al:(QU c q.variables_).ac.length=c.fr.length:=by simp [QU]
 have sf:(QU c q.variables_).s=c:=rfl;have er:rx (quoF (QU c q.variables_) (clsF c q R)).ac a=quoA (QU c q.variables_) (clsF c q R) a (rx (QU c q.variables_).ac a).length:=by
  simp only [quoF];exact rx_tabQ (by omega) _
 have eg:ix (genQ c q R) v=ix (cls (R (VN q.variables_ v)) (At c q (VN q.variables_ v)).length) (plc (At c q (VN q.variables_ v)) (v,idn c (VN q.variables_ v))):=Q4i _ _ hv;have hx:ix (QU c q.variables_).s.fr a=(frN c a:Int):=by rw [sf];exact f1
 have hy:ix (QU c q.variables_).s.to a=(toN c a:Int):=by rw [sf];exact f3
 have p1:=Q3Z g1;rw [g2] at p1;have cx:=Q1P (q:=q) (R:=R) f2;have cy:=Q1P (q:=q) (R:=R) f4;have bd:=mxP_bd (L:=cls (R (frN c a)) (At c q (frN c a)).length) (n:=((At c q (frN c a)).length:Int)) (by omega) (fun e he=>by rw [Q1L] at he;exact Q46 (hR.rp _ f2) he) _ (qE _);rw [Q1L] at bd;have hval:=quoA_val (f:=QU c q.variables_) (p:=clsF c q R) (a:=a) hx hy (n:=(At c q (frN c a)).length) (fun e he=>by
  rw [cx,Q1L];exact ⟨(Q46 (hR.rp _ f2) he).1,bd.2 e he⟩) (fun e e' he he' h=>by
  rw [cx] at h;rw [Q4B (hR.rp _ f2) he he'] at h;obtain ⟨a1,_⟩:=Q4x hc ha (q:=q) he;obtain ⟨a2,_⟩:=Q4x hc ha (q:=q) he';rw [cy,r2 e he,r2 e' he',Q4B (hR.rp _ f4) a1 a2];have k1:=hk a ha e he;have k2:=hk a ha e' he';rw [← k1,← k2,h]) _ (qE _)
 rw [← hf] at eg p1;have h0:=hval _ p1.1;obtain ⟨a1,a2⟩:=Q4x hc ha (q:=q) p1.1;rw [cx,cy,r2 _ p1.1] at h0;rw [er,r1,eg];refine ⟨⟨(Q46 (hR.rp _ f2) p1.1).1,?_⟩,?_⟩
 ·rw [Q5i,hx,cx,Q1L];have:=bd.2 _ p1.1;omega
 rw [h0];have e3:thn c (v,idn c (frN c a)) a=(v,a):=by
  simp only [thn];rw [show idn c (frN c a)=(ix c.id (frN c a)).toNat from rfl,cpN_idl hc ha]
 rw [p1.2,e3] at a2;rw [← a2,cl_gE a1]
end
attribute [local simp] unk unA unE unT unC flat Qi Qh Qa Qc XCanonical.cells XPairint64.cells XQuery.cells XTerm.cells
noncomputable def QI (k_:XCanonical) (t_:XTerm):Option Int :=
 some ((QP (⟨t_.variable_,t_.arrow_⟩:XPairint64) k_.class_).getD 0)
theorem Q2J (k_:XCanonical) (t_:XTerm) (r:Int) (h:QI k_ t_=some r):Contract Try.prog 49 [.rptr (k_.cells true),.agg (t_.cells true)] (iV r):=by
 refine Qe (rvs:=[.tmp 4]) (rs:=[iV r]) Try.func49 rfl rfl rfl rfl (by simp [Try.f49]) fun F hN hP=>?_;unfold QI at h;refine Q2 (runQ hN fun K hK=>?_);simp [eL,eI,Qw,Qi,Qh,Qa,Qc,XCanonical.cells,XPairint64.cells,XQuery.cells,XTerm.cells];repeat refine sdQ ?_
 refine hK _ ?_;clear hK K;refine tn (Q5 (st':=⟨[(0,.rptr [.rptr (XQuery.cells true k_.q_),iV k_.sets_.s.n,lI k_.sets_.s.fr,lI k_.sets_.s.to,lI k_.sets_.s.id,.lst true 1 (Ls k_.sets_.s.cs),lI k_.sets_.sz,.lst true 1 (Ls k_.sets_.ac),.cmap (.st 2) (Qj k_.class_)]),(3,.adr 0 0 0)],YO t_ [],1⟩) (Qv [(0,0)]) (Q2 (Qm [] mo (by rw [hN];decide) fun K hK=>?_)));simp [eL,eI,Qw,Qi,Qh,Qa,Qc,XCanonical.cells,XPairint64.cells,XQuery.cells,XTerm.cells];repeat refine sdQ ?_
 refine hK _ (tn (Q5 (st':=⟨[(4,iV ((QP (⟨t_.variable_,t_.arrow_⟩:XPairint64) k_.class_).getD 0))],[],0⟩) (Qv []) (Ql ?_)));clear hK K;have hr:=zF h;rw [← hr];refine ⟨_,(.tmp .nil),?_⟩;refine ⟨(.one rfl rfl .nil),[iV ((QP (⟨t_.variable_,t_.arrow_⟩:XPairint64) k_.class_).getD 0)],[],by simp [XCanonical.cells,XPairint64.cells,XQuery.cells,XTerm.cells,UA,U1,IA,I1,LA,L1,BA,B1,EA,E1,E2,eB,eI,eL,Q1 _ Qi _ (fun _=>rfl),Q1 _ Qh _ (fun _=>rfl),Q1 _ Qa _ (fun _=>rfl),Q1 _ Qc _ (fun _=>rfl)],by simp,(UpL.refl _)⟩
attribute [local simp] unk unA unE unT unC flat eL eI Qw Qa Qc XQuery.cells XTerm.cells
noncomputable def Q16 (q_:XQuery):Option XQuery :=
 (Q3E q_.variables_).bind fun v1 =>
 (Qf q_.left_).bind fun v2 =>
 (Qf q_.right_).bind fun v3 =>
 (Q3E q_.output_).bind fun v4 =>
 some (⟨v1,v2,v3,v4⟩:XQuery)
theorem Q4t (q_:XQuery) (r:XQuery) (h:Q16 q_=some r):Contract Try.prog 47 [.agg (q_.cells true)] (.agg (r.cells true)):=by
 refine Qe (rvs:=[.cell 2 39]) (rs:=[.agg (r.cells true)]) Try.func47 rfl rfl rfl rfl (by simp [Try.f47]) fun F hN hP=>?_;unfold Q16 at h;refine Q2 (runQ hN fun K hK=>?_);simp;repeat refine sdQ ?_
 refine hK _ ?_;clear hK K;refine tn (Q5 (st':=⟨[(1,.adr 0 0 0),(2,.adr 1 0 0)],[(0,.mix 4 [(XQuery.cells true q_)]),(1,.mix 4 [[nS,nS,nS,nS]])],2⟩) (Qv [(0,0),(1,1)]) (Q2 (runQ hN fun K hK=>?_)));simp;repeat with_reducible refine sdQ ?_
 replace ⟨v1,hv1,h⟩:=bind_some h;refine Q3 (Q82 _ v1 hv1) (.cons .lst .nil) ?_;simp;repeat with_reducible refine sdQ ?_
 replace ⟨v2,hv2,h⟩:=bind_some h;refine Q3 (Qx _ v2 hv2) (.cons .lst .nil) ?_;simp;repeat with_reducible refine sdQ ?_
 replace ⟨v3,hv3,h⟩:=bind_some h;refine Q3 (Qx _ v3 hv3) (.cons .lst .nil) ?_;simp;repeat with_reducible refine sdQ ?_
 replace ⟨v4,hv4,h⟩:=bind_some h;refine Q3 (Q82 _ v4 hv4) (.cons .lst .nil) ?_;simp;repeat refine sdQ ?_
 refine hK _ (tn (Q5 (st':=⟨[(2,.adr 0 0 0)],[(0,.mix 4 [[.own 1 0 v1.length,.own 2 0 v2.length,.own 3 0 v3.length,.own 4 0 v4.length]]),(1,rI v1),(2,.row 2 (Es (XTerm.cells true) v2)),(3,.row 2 (Es (XTerm.cells true) v3)),(4,rI v4)],5⟩) (Qv [(1,0),(2,1),(3,2),(4,3),(5,4)]) (Ql ?_)));clear hK K;have hr:=zF h;rw [← hr];refine ⟨_,(.cell Q7d rfl rfl rfl (by simp) (by simp) .nil),?_⟩;refine ⟨(.agg rfl .nil),[lI v1,.lst true 2 (Es (XTerm.cells true) v2),.lst true 2 (Es (XTerm.cells true) v3),lI v4],[1,2,3,4],by simp [XQuery.cells,XTerm.cells,UA,U1,IA,I1,LA,L1,BA,B1,EA,E1,E2,eB,eI,eL,Q1 _ Qa _ (fun _=>rfl),Q1 _ Qc _ (fun _=>rfl),Q1 _ (XTerm.cells true) _ (fun _=>rfl)],by simp,(UpL.refl _)⟩
attribute [local simp] unk unA unE unT unC flat eL eI Qw Q1V eP_SF Qa Qc Cat.cells SF.cells XQuery.cells XTerm.cells
noncomputable def QY (c_:Cat) (q_:XQuery) (left_:XTerm) (right_:XTerm):Option (Bool × Bool) :=
 (Q1n c_ q_).bind fun v1 =>
 if ¬ (v1.2.2=true) then
  some (false,false)
 else
  ass (0≤left_.arrow_∧left_.arrow_<(v1.1.ac.length:Int)) <|
  ass (0≤left_.variable_∧left_.variable_<(v1.2.1.length:Int)) <|
  ass (0≤ix v1.2.1 left_.variable_∧ix v1.2.1 left_.variable_<((rx v1.1.ac left_.arrow_).length:Int)) <|
  ass (0≤right_.arrow_∧right_.arrow_<(v1.1.ac.length:Int)) <|
  ass (0≤right_.variable_∧right_.variable_<(v1.2.1.length:Int)) <|
  ass (0≤ix v1.2.1 right_.variable_∧ix v1.2.1 right_.variable_<((rx v1.1.ac right_.arrow_).length:Int)) <|
  some ((ix (rx v1.1.ac left_.arrow_) (ix v1.2.1 left_.variable_)) == (ix (rx v1.1.ac right_.arrow_) (ix v1.2.1 right_.variable_)),true)
theorem Q6c (c_:Cat) (q_:XQuery) (left_:XTerm) (right_:XTerm) (r:Bool × Bool) (h:QY c_ q_ left_ right_=some r):Contract Try.prog 46 (Y0o c_ q_ [.agg (left_.cells true),.agg (right_.cells true)]) (.tup [.val (.bool r.1),.val (.bool r.2)]):=by
 refine Qe (rvs:=[.tmp 8,.tmp 9]) (rs:=[.val (.bool r.1),.val (.bool r.2)]) Try.func46 rfl rfl rfl rfl (by simp [Try.f46]) fun F hN hP=>?_;unfold QY at h;refine Q2 (runQ hN fun K hK=>?_);simp;repeat refine sdQ ?_
 refine hK _ ?_;clear hK K;refine tn (Q5 (st':=⟨Y0g [(5,.adr 1 0 0),(6,.adr 2 0 0),(7,.adr 3 0 0)],Yn c_ q_ (Y05 left_ [(3,.mix 2 [(XTerm.cells true right_)])]),4⟩) (Q2o 4) (Q2 (runQ hN fun K hK=>?_)));simp;repeat with_reducible refine sdQ ?_
 replace ⟨v1,hv1,h⟩:=bind_some h;refine Q3 (Q56 _ _ v1 hv1) (.cons (.aggL (.cons .val (.cons .lst (.cons .lst (.cons .lst (.cons .lst .nil)))))) (.cons (.aggL (.cons .lst (.cons .lst (.cons .lst (.cons .lst .nil))))) .nil)) ?_;simp;repeat refine sdQ ?_
 refine hK _ ?_;clear hK K;refine tn (Q5 (st':=⟨[(6,.adr 0 0 0),(7,.adr 1 0 0),(10,.adr 2 0 0),(11,.own 9 0 v1.2.1.length),(12,.val (.bool v1.2.2))],YO left_ [(1,.mix 2 [(XTerm.cells true right_)]),(2,.mix 7 [[iV v1.1.s.n,.own 3 0 v1.1.s.fr.length,.own 4 0 v1.1.s.to.length,.own 5 0 v1.1.s.id.length,.own 6 0 v1.1.s.cs.length,.own 7 0 v1.1.sz.length,.own 8 0 v1.1.ac.length]]),(3,rI v1.1.s.fr),(4,rI v1.1.s.to),(5,rI v1.1.s.id),(6,.row 1 (Ls v1.1.s.cs)),(7,rI v1.1.sz),(8,.row 1 (Ls v1.1.ac)),(9,rI v1.2.1)],10⟩) (Qv [(2,0),(3,1),(13,2),(5,3),(6,4),(7,5),(8,6),(9,7),(10,8),(11,9)]) (Q2 (Q2 (runQ hN fun K hK=>?_))));simp;repeat refine sdQ ?_
 refine hK _ ?_;clear hK K;refine tn (Q8 rfl (fun g=>?_) fun g=>?_)
 ·have g2:¬ (v1.2.2=true):=gQ;clear g;replace h:=if_l g2 h;refine Q2 (runQ hN fun K hK=>?_);simp;repeat refine sdQ ?_
  refine hK _ (tn (Q5 (st':=⟨[(8,.val (.bool false)),(9,.val (.bool false))],[],0⟩) (Qv []) (Ql (tr ?_))));clear hK K;have hr:=zF h;rw [← hr];refine ⟨_,(.tmp (.tmp .nil)),?_⟩;refine ⟨(.one rfl rfl (.one rfl rfl .nil)),[.val (.bool false),.val (.bool false)],[],by simp [Cat.cells,SF.cells,XQuery.cells,XTerm.cells,UA,U1,IA,I1,LA,L1,BA,B1,EA,E1,E2,eB,eI,eL,Q1 _ Qa _ (fun _=>rfl),Q1 _ Qc _ (fun _=>rfl)],by simp,(UpL.refl _)⟩
 have g2:¬ (¬ (v1.2.2=true)):=gQ;clear g;replace h:=if_r g2 h;refine Q9 (tn (Q2 (runQ hN fun K hK=>?_)));replace ⟨a3,h⟩:=Q0 h;replace ⟨a4,h⟩:=Q0 h;replace ⟨a5,h⟩:=Q0 h;replace ⟨a6,h⟩:=Q0 h;replace ⟨a7,h⟩:=Q0 h;replace ⟨a8,h⟩:=Q0 h;simp [at_L a3,at_I a4,at_I a5,at_L a6,at_I a7,at_I a8];repeat refine sdQ ?_
 refine hK _ (tn (Q5 (st':=⟨[(8,.val (.bool ((ix (rx v1.1.ac left_.arrow_) (ix v1.2.1 left_.variable_)) == (ix (rx v1.1.ac right_.arrow_) (ix v1.2.1 right_.variable_))))),(9,.val (.bool true))],[],0⟩) (Qv []) (Ql ?_)));clear hK K;have hr:=zF h;rw [← hr];refine ⟨_,(.tmp (.tmp .nil)),?_⟩;refine ⟨(.one rfl rfl (.one rfl rfl .nil)),[.val (.bool ((ix (rx v1.1.ac left_.arrow_) (ix v1.2.1 left_.variable_)) == (ix (rx v1.1.ac right_.arrow_) (ix v1.2.1 right_.variable_)))),.val (.bool true)],[],by simp [Cat.cells,SF.cells,XQuery.cells,XTerm.cells,UA,U1,IA,I1,LA,L1,BA,B1,EA,E1,E2,eB,eI,eL,Q1 _ Qa _ (fun _=>rfl),Q1 _ Qc _ (fun _=>rfl)],by simp,(UpL.refl _)⟩
end Go.Vc.T
