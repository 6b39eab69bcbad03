/- A part of the proof: a verified generator of conditions, and what each function of the program does. -/
import Derived.Test.YtaahcahglfjhfaaD10
set_option maxRecDepth 100000
set_option maxHeartbeats 4000000
set_option linter.unusedSimpArgs false
set_option linter.unusedVariables false

namespace Go.Vc.T
open Go Go.Vc Go.Proofs
attribute [local simp] unk unA unE unT unC flat eL eI Qs Q1L Q8g Qv Q6 Cat.cells SF.cells XDayAt.cells XMonoidal.cells
noncomputable def Q15 (m_:XMonoidal) (f_:SF) (g_:SF):Option (SF × Int) :=
 (
  (QI m_).bind fun v2 =>
  if ¬ (v2=true) then
   some true
  else
   (QR [f_,g_]).bind fun v4 =>
   some (!v4):Option (Bool)).bind fun b1 =>
 if b1=true then
  some ((⟨(⟨0,[],[],[],[]⟩:Cat),[],[]⟩:SF),1)
 else
  (
   (QZ m_.on_ f_.s).bind fun v7 =>
   if ¬ (v7=true) then
    some true
   else
    (QZ m_.on_ g_.s).bind fun v9 =>
    some (!v9):Option (Bool)).bind fun b6 =>
  if b6=true then
   some ((⟨(⟨0,[],[],[],[]⟩:Cat),[],[]⟩:SF),5)
  else
   (Q1o m_.on_).bind fun v11 =>
   (Qt (σ:=List Int × List XDayAt × Int) (ε:=(List Int × List XDayAt) ⊕ (SF × Int)) (fun s19 =>
    if s19.2.2<m_.on_.n then
     (QN m_ f_ g_ s19.2.2).bind fun v21 =>
     match v21 with
     | .inl v21 =>
      some (Ctl.ret (Sum.inr ((⟨(⟨0,[],[],[],[]⟩:Cat),[],[]⟩:SF),3)))
     | .inr v21 =>
      ass ((s19.2.1++[(⟨v21.1,v21.2.1,v21.2.2⟩:XDayAt)]).length≤1073741824) <|
      (QO v21.2.2).bind fun v23 =>
      ass ((s19.1++[v23]).length≤1073741824) <|
      ass (B64 (s19.2.2+1)) <|
      some (Ctl.next (s19.1++[v23],s19.2.1++[(⟨v21.1,v21.2.1,v21.2.2⟩:XDayAt)],s19.2.2+1))
    else
     some (Ctl.ret (Sum.inl (s19.1,s19.2.1)))) fuel ([],[],0)).bind fun e12 =>
   match e12 with
   | .inl b12 =>
    (Q2n b12.1).bind fun v26 =>
    if ¬ (v26=true) then
     some ((⟨(⟨0,[],[],[],[]⟩:Cat),[],[]⟩:SF),3)
    else
     (Qt (σ:=List (List Int) × Int) (ε:=List (List Int)) (fun s67 =>
      if s67.2<(m_.on_.fr.length:Int) then
       ass (0≤s67.2∧s67.2<(m_.on_.fr.length:Int)) <|
       ass (0≤ix m_.on_.fr s67.2∧ix m_.on_.fr s67.2<(b12.2.length:Int)) <|
       ass (0≤s67.2∧s67.2<(m_.on_.to.length:Int)) <|
       ass (0≤ix m_.on_.to s67.2∧ix m_.on_.to s67.2<(b12.2.length:Int)) <|
       ass (0≤s67.2∧s67.2<(m_.on_.fr.length:Int)) <|
       ass (0≤ix m_.on_.fr s67.2∧ix m_.on_.fr s67.2<(b12.1.length:Int)) <|
       ass (0≤ix b12.1 (ix m_.on_.fr s67.2)∧ix b12.1 (ix m_.on_.fr s67.2)≤1073741824) <|
       (Qt (σ:=List Int × Int) (ε:=List Int) (fun s90 =>
        if s90.2<(((gx b12.2 (ix m_.on_.fr s67.2)).lists_).length:Int) then
         ass (0≤s90.2∧s90.2<(((gx b12.2 (ix m_.on_.fr s67.2)).lists_).length:Int)) <|
         ass (0≤s90.2∧s90.2<(((gx b12.2 (ix m_.on_.fr s67.2)).classes_).length:Int)) <|
         ass ((0:Int)≤0∧0<((rx ((gx b12.2 (ix m_.on_.fr s67.2)).lists_) s90.2).length:Int)) <|
         ass ((0:Int)≤1∧1<((rx ((gx b12.2 (ix m_.on_.fr s67.2)).lists_) s90.2).length:Int)) <|
         ass ((0:Int)≤2∧2<((rx ((gx b12.2 (ix m_.on_.fr s67.2)).lists_) s90.2).length:Int)) <|
         (Qx m_.on_ (ix (rx ((gx b12.2 (ix m_.on_.fr s67.2)).lists_) s90.2) 2) s67.2).bind fun v97 =>
         ass ((0:Int)≤3∧3<((rx ((gx b12.2 (ix m_.on_.fr s67.2)).lists_) s90.2).length:Int)) <|
         ass ((0:Int)≤4∧4<((rx ((gx b12.2 (ix m_.on_.fr s67.2)).lists_) s90.2).length:Int)) <|
         (Q3d [[ix (rx ((gx b12.2 (ix m_.on_.fr s67.2)).lists_) s90.2) 0,ix (rx ((gx b12.2 (ix m_.on_.fr s67.2)).lists_) s90.2) 1,v97,ix (rx ((gx b12.2 (ix m_.on_.fr s67.2)).lists_) s90.2) 3,ix (rx ((gx b12.2 (ix m_.on_.fr s67.2)).lists_) s90.2) 4]]).bind fun v100 =>
         ass (0≤(QW v100 ((gx b12.2 (ix m_.on_.to s67.2)).at_)).getD 0∧(QW v100 ((gx b12.2 (ix m_.on_.to s67.2)).at_)).getD 0<(((gx b12.2 (ix m_.on_.to s67.2)).classes_).length:Int)) <|
         ass (0≤ix ((gx b12.2 (ix m_.on_.fr s67.2)).classes_) s90.2∧ix ((gx b12.2 (ix m_.on_.fr s67.2)).classes_) s90.2<(s90.1.length:Int)) <|
         ass (B64 (s90.2+1)) <|
         some (Ctl.next (s90.1.set ((ix ((gx b12.2 (ix m_.on_.fr s67.2)).classes_) s90.2).toNat) (ix ((gx b12.2 (ix m_.on_.to s67.2)).classes_) ((QW v100 ((gx b12.2 (ix m_.on_.to s67.2)).at_)).getD 0)),s90.2+1))
        else
         some (Ctl.ret s90.1)) fuel (List.replicate ((ix b12.1 (ix m_.on_.fr s67.2)).toNat) 0,0)).bind fun b76 =>
       ass ((s67.1++[b76]).length≤1073741824) <|
       ass (B64 (s67.2+1)) <|
       some (Ctl.next (s67.1++[b76],s67.2+1))
      else
       some (Ctl.ret s67.1)) fuel ([],0)).bind fun b28 =>
     some ((⟨v11,b12.1,b28⟩:SF),0)
   | .inr p12 =>
    some p12
theorem Q1x {F : Fx} {st st' : St} (m : List (Nat × Nat)) (h : (m.map Prod.fst).Nodup ∧ (m.map Prod.snd).Nodup ∧ (∀ id, id < F.pins → look id m = some id) ∧ (∀ p ∈ m, p.2 < st'.n) ∧ (∀ p ∈ st'.h, p.1 < st'.n) ∧ (∀ p ∈ st'.s, p.2 = rl m (st.get p.1) ∨ p.2 = .bot) ∧ ∀ p ∈ st'.h, hhOk m st.h p.1 p.2 := by simp [hP, hhOk, back, idQ, Cat.cells, SF.cells, XDayAt.cells, XMonoidal.cells, UA, U1, IA, I1, LA, L1, BA, B1, EA, E1, E2, eB, eI, eL, Qd _ Qv _ (fun _=>rfl), Qd _ Q6 _ (fun _=>rfl)]) : Wk F st st' := Wk.r1 m h
theorem Q18 {F : Fx} {st st' : St} (m : Nat) (h : ((idQ m).map Prod.fst).Nodup ∧ ((idQ m).map Prod.snd).Nodup ∧ (∀ id, id < F.pins → look id (idQ m) = some id) ∧ (∀ p ∈ (idQ m), p.2 < st'.n) ∧ (∀ p ∈ st'.h, p.1 < st'.n) ∧ (∀ p ∈ st'.s, p.2 = rl (idQ m) (st.get p.1) ∨ p.2 = .bot) ∧ ∀ p ∈ st'.h, hhOk (idQ m) st.h p.1 p.2 := by simp [hP, hhOk, back, idQ, Cat.cells, SF.cells, XDayAt.cells, XMonoidal.cells, UA, U1, IA, I1, LA, L1, BA, B1, EA, E1, E2, eB, eI, eL, Qd _ Qv _ (fun _=>rfl), Qd _ Q6 _ (fun _=>rfl)]) : Wk F st st' := Wk.r1 (idQ m) h
@[simp] abbrev Y0d (a:Cat) (b:List (AV)):List (AV):=iV a.n::.own 2 0 a.fr.length::.own 3 0 a.to.length::.own 4 0 a.id.length::.own 5 0 a.cs.length::b
@[simp] abbrev Y0i (a:List (AV)):List (AV):=iV 0::nS::nS::nS::nS::nS::nS::a
@[simp] abbrev Y7 (a:Cat) (b:List Int × List XDayAt) (c:List (List Int) × Int) (d:List (Nat × Ent)):List (Nat × Ent):=(0,.mix 7 [(Y0i [])])::(1,.mix 7 [(Y0d a [.own 6 0 b.1.length,.own 7 0 c.1.length])])::(2,rI a.fr)::(3,rI a.to)::(4,rI a.id)::(5,.row 1 (Ls a.cs))::(6,rI b.1)::(7,.row 1 (Ls c.1))::(8,.mix 1 (Es Qv b.2))::d
@[simp] abbrev Y8 (a:XMonoidal) (b:List Int × List XDayAt) (c:List (List Int) × Int) (d:List (Nat × AV)):List (Nat × AV):=(6,.adr 0 0 0)::(8,.rptr (XMonoidal.cells true a))::(9,.adr 1 0 0)::(10,.own 8 0 b.2.length)::(14,iV c.2)::(15,.rptr [.lst true 1 (Ls ((gx b.2 (ix a.on_.fr c.2)).lists_)),.cmap .str (Msi ((gx b.2 (ix a.on_.fr c.2)).at_)),lI ((gx b.2 (ix a.on_.fr c.2)).classes_)])::(16,.rptr [.lst true 1 (Ls ((gx b.2 (ix a.on_.to c.2)).lists_)),.cmap .str (Msi ((gx b.2 (ix a.on_.to c.2)).at_)),lI ((gx b.2 (ix a.on_.to c.2)).classes_)])::d
@[simp] abbrev Yc (a:XMonoidal) (b c:SF) (d:List (Nat × AV)):List (Nat × AV):=(3,.rptr (XMonoidal.cells true a))::(4,.rptr (SF.cells true b))::(5,.rptr (SF.cells true c))::(6,.adr 0 0 0)::(8,.rptr (XMonoidal.cells true a))::d
@[simp] abbrev Yj (a:Cat) (b:List Int × List XDayAt × Int) (c:List (Nat × Ent)):List (Nat × Ent):=(0,.mix 7 [(Y0i [])])::(1,.mix 7 [(Y0d a [.own 6 0 b.1.length,nS])])::(2,rI a.fr)::(3,rI a.to)::(4,rI a.id)::(5,.row 1 (Ls a.cs))::(6,rI b.1)::c
@[simp] abbrev Yq (a:List (Nat × Ent)):List (Nat × Ent):=(0,.mix 7 [(Y0i [])])::a
@[simp] abbrev Yu (a:Cat) (b:List (Nat × Ent)):List (Nat × Ent):=(2,rI a.fr)::(3,rI a.to)::(4,rI a.id)::(5,.row 1 (Ls a.cs))::b
@[simp] abbrev YB (a:XMonoidal) (b:List (Nat × AV)):List (Nat × AV):=(6,.adr 0 0 0)::(8,.rptr (XMonoidal.cells true a))::(9,.adr 1 0 0)::b
@[simp] abbrev YC (a:XMonoidal) (b:List (List Int) × Int) (c:List Int × List XDayAt) (d:List (Nat × AV)):List (Nat × AV):=(83,iV (a.on_.fr.length:Int))::(84,iV b.2)::(122,.lst true 1 (Ls ((gx c.2 (ix a.on_.fr b.2)).lists_)))::(123,iV (((gx c.2 (ix a.on_.fr b.2)).lists_).length:Int))::d
@[simp] abbrev YR (a:Cat) (b:List (Nat × Ent)):List (Nat × Ent):=(1,.mix 7 [(Y0d a [nS,nS])])::b
@[simp] abbrev YT (a:Cat) (b:List Int × List XDayAt) (c:List (Nat × Ent)):List (Nat × Ent):=(1,.mix 7 [(Y0d a [.own 6 0 b.1.length,nS])])::c
@[simp] abbrev Y03 (a:XMonoidal) (b:List (Nat × AV)):List (Nat × AV):=(83,iV (a.on_.fr.length:Int))::b
theorem Q5b (m_:XMonoidal) (f_:SF) (g_:SF) (r:SF × Int) (h:Q15 m_ f_ g_=some r):Contract Try.prog 11 (Y0e m_ f_ g_ []) (.tup [.agg (r.1.cells true),iV r.2]):=by
 refine Q27 (rvs:=[.cell 6 34,.tmp 7]) (rs:=[.agg (r.1.cells true),iV r.2]) Try.func11 rfl rfl rfl rfl (by simp [Try.f11]) fun F hN hP hW=>?_;unfold Q15 at h;refine Q1 (Ql [3,4,5] mo (by rw [hN];decide) fun K hK=>?_);simp;repeat refine sdQ ?_
 refine hK _ (tn (Q4 (st':=⟨[(3,.rptr (XMonoidal.cells true m_)),(4,.rptr (SF.cells true f_)),(5,.rptr (SF.cells true g_)),(6,.adr 0 0 0)],Yq [],1⟩) (Q1x [(0,0)]) (Q1 (Q1 ?_))));clear hK K;replace ⟨e1,h,h1⟩:=bind_some h;refine Qe (fun b1:Bool=>⟨[(3,.rptr (XMonoidal.cells true m_)),(4,.rptr (SF.cells true f_)),(5,.rptr (SF.cells true g_)),(6,.adr 0 0 0),(26,.val (.bool b1))],Yq [],1⟩) (fun b1=>b1=e1) ?_ ?_
 ·refine runQ hN fun K hK=>?_;simp;repeat with_reducible refine sdQ ?_
  replace ⟨v2,hv2,h⟩:=bind_some h;refine Q2 (Q30 _ v2 hv2) (.cons (.preT (by simp [SF.cells,XMonoidal.cells])) .nil) ?_;simp;repeat with_reducible refine sdQ ?_
  refine Qo (fun g=>?_) (fun g=>?_)
  ·have g3:¬ (¬ (v2=true)):=gQ;clear g;replace h:=if_r g3 h;simp;(repeat with_reducible refine sdQ ?_);replace ⟨v4,hv4,h⟩:=bind_some h;refine Q2 (Q3U _ v4 hv4) (.cons (.lits (es:=_) rfl (.cons rfl (.cons (.preT (by simp [SF.cells,XMonoidal.cells])) .nil) (.cons rfl (.cons (.preT (by simp [SF.cells,XMonoidal.cells])) .nil) .nil)) rfl) .nil) ?_;simp;(repeat refine sdQ ?_);refine hK _ ?_;exact jn (b:=!v4) (Option.some.inj h) (Q1x [(0,0)])
  have g3:¬ (v2=true):=gQ;clear g;replace h:=if_l g3 h;simp;repeat refine sdQ ?_
  refine hK _ ?_;exact jn (b:=true) (Option.some.inj h) (Q1x [(0,0)])
 intro b1 hb1;have h:=h1;try rw [← hb1] at h
 clear h1;try dsimp only at h
 refine Q7 rfl (fun g=>?_) fun g=>?_
 ·have g5:b1=true:=gQ;clear g;replace h:=if_l g5 h;refine Q1 (runQ hN fun K hK=>?_);simp;repeat refine sdQ ?_
  refine hK _ (tn (Q4 (st':=⟨[(6,.adr 0 0 0),(7,iV 1)],Yq [],1⟩) (Q1x [(0,0)]) (Qf (tr ?_))));clear hK K;have hr:=Option.some.inj h;rw [← hr];refine ⟨_,(.cell Q5a rfl rfl rfl (by simp) (by simp) (.tmp .nil)),?_⟩;refine ⟨(.agg rfl (.one rfl rfl .nil)),[iV 0,nS,nS,nS,nS,nS,nS,iV 1],[],by simp [Cat.cells,SF.cells,XDayAt.cells,XMonoidal.cells,UA,U1,IA,I1,LA,L1,BA,B1,EA,E1,E2,eB,eI,eL,Qd _ Qv _ (fun _=>rfl),Qd _ Q6 _ (fun _=>rfl)],by simp,(.cons .refl (.cons .nil (.cons .nil (.cons .nil (.cons .nil (.cons .nil (.cons .nil (.cons .refl .nil))))))))⟩
 have g5:¬ (b1=true):=gQ;clear g;replace h:=if_r g5 h;refine Q8 (tn (Q1 (runQ hN fun K hK=>?_)));simp;repeat refine sdQ ?_
 refine hK _ (tn (Q4 (st':=⟨Yc m_ f_ g_ [],Yq [],1⟩) (Q1x [(0,0)]) (Q1 (Q1 ?_))));clear hK K;replace ⟨e6,h,h6⟩:=bind_some h;refine Qe (fun b6:Bool=>⟨Yc m_ f_ g_ [(38,.val (.bool b6))],Yq [],1⟩) (fun b6=>b6=e6) ?_ ?_
 ·refine runQ hN fun K hK=>?_;simp;repeat with_reducible refine sdQ ?_
  replace ⟨v7,hv7,h⟩:=bind_some h;refine Q2 (Q33 _ _ v7 hv7) (.cons (.preT (by simp [Cat.cells,SF.cells,XMonoidal.cells])) (.cons (.preT (by simp [Cat.cells,SF.cells,XMonoidal.cells])) .nil)) ?_;simp;repeat with_reducible refine sdQ ?_
  refine Qo (fun g=>?_) (fun g=>?_)
  ·have g8:¬ (¬ (v7=true)):=gQ;clear g;replace h:=if_r g8 h;simp;(repeat with_reducible refine sdQ ?_);replace ⟨v9,hv9,h⟩:=bind_some h;refine Q2 (Q33 _ _ v9 hv9) (.cons (.preT (by simp [Cat.cells,SF.cells,XMonoidal.cells])) (.cons (.preT (by simp [Cat.cells,SF.cells,XMonoidal.cells])) .nil)) ?_;simp;(repeat refine sdQ ?_);refine hK _ ?_;exact jn (b:=!v9) (Option.some.inj h) (Q1x [(0,0)])
  have g8:¬ (v7=true):=gQ;clear g;replace h:=if_l g8 h;simp;repeat refine sdQ ?_
  refine hK _ ?_;exact jn (b:=true) (Option.some.inj h) (Q1x [(0,0)])
 intro b6 hb6;have h:=h6;try rw [← hb6] at h
 clear h6;try dsimp only at h
 refine Q7 rfl (fun g=>?_) fun g=>?_
 ·have g10:b6=true:=gQ;clear g;replace h:=if_l g10 h;refine Q1 (runQ hN fun K hK=>?_);simp;repeat refine sdQ ?_
  refine hK _ (tn (Q4 (st':=⟨[(6,.adr 0 0 0),(7,iV 5)],Yq [],1⟩) (Q1x [(0,0)]) (Qf (tr ?_))));clear hK K;have hr:=Option.some.inj h;rw [← hr];refine ⟨_,(.cell Q5a rfl rfl rfl (by simp) (by simp) (.tmp .nil)),?_⟩;refine ⟨(.agg rfl (.one rfl rfl .nil)),[iV 0,nS,nS,nS,nS,nS,nS,iV 5],[],by simp [Cat.cells,SF.cells,XDayAt.cells,XMonoidal.cells,UA,U1,IA,I1,LA,L1,BA,B1,EA,E1,E2,eB,eI,eL,Qd _ Qv _ (fun _=>rfl),Qd _ Q6 _ (fun _=>rfl)],by simp,(.cons .refl (.cons .nil (.cons .nil (.cons .nil (.cons .nil (.cons .nil (.cons .nil (.cons .refl .nil))))))))⟩
 have g10:¬ (b6=true):=gQ;clear g;replace h:=if_r g10 h;refine Q8 (tn (Q1 (runQ hN fun K hK=>?_)));simp;repeat with_reducible refine sdQ ?_
 replace ⟨v11,hv11,h⟩:=bind_some h;refine Q2 (Q4a _ v11 hv11) (.cons (.preT (by simp [Cat.cells,SF.cells,XMonoidal.cells])) .nil) ?_;simp;repeat refine sdQ ?_
 refine hK _ ?_;clear hK K;refine tn (Q4 (st':=⟨Yc m_ f_ g_ [(9,.adr 1 0 0)],Yq (YR v11 (Yu v11 [])),6⟩) (Q1x [(0,0),(6,1),(2,2),(3,3),(4,4),(5,5)]) (Q1 (runQ hN fun K hK=>?_)));simp;repeat refine sdQ ?_
 refine hK _ ?_;clear hK K;refine tn (Q4 (st':=⟨Yc m_ f_ g_ [(9,.adr 1 0 0),(10,.own 6 0 0)],Yq (YR v11 (Yu v11 [(6,.mix 1 [])])),7⟩) (Q18 7) (Q1 (Q1 (runQ hN fun K hK=>?_))));simp;repeat refine sdQ ?_
 refine hK _ (tn (Q4 (st':=⟨Yc m_ f_ g_ [(9,.adr 1 0 0),(10,.own 6 0 0),(47,iV m_.on_.n),(48,iV 0)],Yq (YR v11 (Yu v11 [(6,.mix 1 [])])),7⟩) (Q18 7) ?_));clear hK K;replace ⟨e12,h,h12⟩:=bind_some h;refine Qe (fun b12:List Int × List XDayAt=>⟨YB m_ [(10,.own 7 0 b12.2.length)],Yq (YT v11 b12 (Yu v11 [(6,rI b12.1),(7,.mix 1 (Es Qv b12.2))])),8⟩) (fun b12=>Sum.inl b12=e12) ?_ ?_
 ·refine Q5 (Qn h (fun s19:List Int × List XDayAt × Int=>⟨Yc m_ f_ g_ [(9,.adr 1 0 0),(10,.own 7 0 s19.2.1.length),(47,iV m_.on_.n),(48,iV s19.2.2)],Yj v11 s19 [(7,.mix 1 (Es Qv s19.2.1))],8⟩) (Q4c ⟨Yc m_ f_ g_ [(9,.adr 1 0 0),(10,.own 6 0 0),(47,iV m_.on_.n),(48,iV 0)],Yq ((1,.mix 7 [(Y0d v11 [.own 7 0 0,nS])])::Yu v11 [(6,.mix 1 []),(7,rI [])]),8⟩ (Wk.nils [(7,1)] (by simp) (by simp) (by simp [nlA]) (by simp [entN,nlL,nlA,Cat.cells,SF.cells,XDayAt.cells,XMonoidal.cells,UA,U1,IA,I1,LA,L1,BA,B1,EA,E1,E2,eB,eI,eL,Qd _ Qv _ (fun _=>rfl),Qd _ Q6 _ (fun _=>rfl)]) (by simp)) (Q1x [(0,0),(1,1),(2,2),(3,3),(4,4),(5,5),(7,6),(6,7)])) ?_);clear h;intro k19 s19 c19 h hk19;refine Q1 (runQ hN fun K hK=>?_);simp;repeat refine sdQ ?_
  refine hK _ ?_;clear hK K;refine tn (Q1 (Q7 rfl (fun g=>?_) fun g=>?_))
  ·have g20:s19.2.2<m_.on_.n:=gQ;clear g;replace h:=if_l g20 h;refine Q8 (tn (Q1 (Q5 (Q1 (runQ hN fun K hK=>?_)))));simp;(repeat refine sdQ ?_);refine hK _ ?_;clear hK K;refine tn (Q4 (st':=⟨Yc m_ f_ g_ [(9,.adr 1 0 0),(10,.own 7 0 s19.2.1.length),(11,iV s19.2.2),(47,iV m_.on_.n),(48,iV s19.2.2)],Yj v11 s19 [(7,.mix 1 (Es Qv s19.2.1))],8⟩) (Q18 8) (Q1 (Q5Y [] mo (by rw [hN];decide) fun K hK=>?_)));simp;(repeat with_reducible refine sdQ ?_);replace ⟨v21,hv21,h⟩:=bind_some h;refine Q3j (fz:=[]) (ICon.liftL (e':=(match (generalizing:=false) v21 with|.inl v21=>{ v:=.tup [.val (.pointer none),.val (.bool false)],new:=[],cnt:=0 }|.inr v21=>{ v:=.tup [.adr 8 0 0,.val (.bool true)],new:=[(8,.mix 3 [[.own 9 0 v21.1.length,.cmap .str (Msi v21.2.1),.own 10 0 v21.2.2.length]]),(9,.row 1 (Ls v21.1)),(10,rI v21.2.2)],cnt:=3 })) (Q3h _ _ _ _ v21 hv21) (by simp [AV.ro,rl,rlL,rlLL,Q3O,Cat.cells,SF.cells,XDayAt.cells,XMonoidal.cells,E2,eB,eI,eL,Qd _ Qv _ (fun _=>rfl),Qd _ Q6 _ (fun _=>rfl)]) (by rcases v21 with v21|v21<;>simp) (by rcases v21 with v21|v21<;>simp) (by rcases v21 with v21|v21<;>rfl) (by rcases v21 with v21|v21<;>simp [AV.ro,rl,rlL,rlLL,Q3O,Cat.cells,SF.cells,XDayAt.cells,XMonoidal.cells,E2,eB,eI,eL,Qd _ Qv _ (fun _=>rfl),Qd _ Q6 _ (fun _=>rfl)]) (by rcases v21 with v21|v21<;>simp [noAli]) (by rcases v21 with v21|v21<;>rfl) (by rcases v21 with v21|v21<;>simp [AV.ro,rl,rlL,rlLL,Q3O,Cat.cells,SF.cells,XDayAt.cells,XMonoidal.cells,E2,eB,eI,eL,Qd _ Qv _ (fun _=>rfl),Qd _ Q6 _ (fun _=>rfl)]) (Q6Q (by rcases v21 with v21|v21<;>simp))) ?_;clear hv21;rcases v21 with v21|v21
   ·(try dsimp only at h);(try dsimp only);simp;(repeat refine sdQ ?_);refine hK _ ?_;clear hK K;refine tn (Q4 (st':=⟨Yc m_ f_ g_ [(9,.adr 1 0 0),(10,.own 7 0 s19.2.1.length),(12,.val (.pointer none)),(13,.val (.bool false)),(47,iV m_.on_.n),(48,iV s19.2.2)],Yj v11 s19 [(7,.mix 1 (Es Qv s19.2.1))],8⟩) (Q18 8) (Q1 (Q1 (runQ hN fun K hK=>?_))));simp;(repeat refine sdQ ?_);refine hK _ (tn ?_);clear hK K;refine Q7 rfl (fun _=>?_) fun g=>by simp at g
    refine Q1 (runQ hN fun K hK=>?_);simp;(repeat refine sdQ ?_);refine hK _ (tn (Q4 (st':=⟨[(6,.adr 0 0 0),(7,iV 3)],Yq [],1⟩) (Q1x [(0,0)]) (Qf (tr (br (tr (lr (br (tr ?_)))))))));clear hK K;cases h;have q:_=e12:=hk19;have h:=h12;rw [← q] at h;clear q;(try dsimp only at h);have hr:=Option.some.inj h;rw [← hr];refine ⟨_,(.cell Q5a rfl rfl rfl (by simp) (by simp) (.tmp .nil)),?_⟩;refine ⟨(.agg rfl (.one rfl rfl .nil)),[iV 0,nS,nS,nS,nS,nS,nS,iV 3],[],by simp [Cat.cells,SF.cells,XDayAt.cells,XMonoidal.cells,UA,U1,IA,I1,LA,L1,BA,B1,EA,E1,E2,eB,eI,eL,Qd _ Qv _ (fun _=>rfl),Qd _ Q6 _ (fun _=>rfl)],by simp,(.cons .refl (.cons .nil (.cons .nil (.cons .nil (.cons .nil (.cons .nil (.cons .nil (.cons .refl .nil))))))))⟩
   (try dsimp only at h);(try dsimp only);simp;(repeat refine sdQ ?_);refine hK _ ?_;clear hK K;refine tn (Q4 (st':=⟨Yc m_ f_ g_ [(9,.adr 1 0 0),(10,.own 7 0 s19.2.1.length),(12,.adr 8 0 0),(13,.val (.bool true)),(47,iV m_.on_.n),(48,iV s19.2.2)],Yj v11 s19 [(7,.mix 1 (Es Qv s19.2.1)),(8,.mix 3 [[.own 9 0 v21.1.length,.cmap .str (Msi v21.2.1),.own 10 0 v21.2.2.length]]),(9,.row 1 (Ls v21.1)),(10,rI v21.2.2)],11⟩) (Q18 11) (Q1 (Q1 (runQ hN fun K hK=>?_))));simp;(repeat refine sdQ ?_);refine hK _ (tn (Q7 rfl (fun g=>by simp at g) fun _=>?_));clear hK K;refine Q8 (tn (Q1 (Q4 (st':=⟨Yc m_ f_ g_ [(9,.adr 1 0 0),(10,.own 7 0 s19.2.1.length),(12,.rptr [.lst true 1 (Ls v21.1),.cmap .str (Msi v21.2.1),lI v21.2.2]),(13,.val (.bool true)),(47,iV m_.on_.n),(48,iV s19.2.2),(56,.val (.bool true)),(57,.val (.bool false))],Yj v11 s19 [(7,.mix 1 (Es Qv s19.2.1))],11⟩) (Wk.frzD hW [8,9,10] (Q2l (.inl rfl) (Q2l (.inl rfl) (Q2l (.inl rfl) (Q2l (.inl rfl) (Q2l (.inl rfl) (Q2l (.inl rfl) (Q2l (.inl rfl) (Q2l (.inr (.inr (.adr rfl (by simp) rfl (.cons (.row rfl (by simp) (by simp)) (.cons (.ro rfl) (.cons (.row rfl (by simp) (by simp)) .nil)))))) (Q2l (.inl rfl) (Q2l (.inl rfl) (Q2l (.inl rfl) (Q2l (.inl rfl) (Q2l (.inl rfl) frz_n))))))))))))) rfl (by simp [look])) (Ql [62] mo (by rw [hN];decide) fun K hK=>?_))));replace ⟨a22,h⟩:=Q0 h;(try simp only [List.length_append,List.length_cons,List.length_nil] at a22);simp [a22];(repeat refine sdQ ?_);refine hK _ (tn ?_);clear hK K
   refine Q4 (st':=⟨Yc m_ f_ g_ [(9,.adr 1 0 0),(10,.own 7 0 ((s19.2.1++[(⟨v21.1,v21.2.1,v21.2.2⟩:XDayAt)]).length)),(12,.rptr [.lst true 1 (Ls v21.1),.cmap .str (Msi v21.2.1),lI v21.2.2]),(47,iV m_.on_.n),(48,iV s19.2.2)],Yj v11 s19 [(7,.mix 1 (Es Qv (s19.2.1++[(⟨v21.1,v21.2.1,v21.2.2⟩:XDayAt)])))],8⟩) (Q1x [(0,0),(1,1),(2,2),(3,3),(4,4),(5,5),(6,6),(12,7)]) (runQ hN fun K hK=>?_);simp;(repeat with_reducible refine sdQ ?_);replace ⟨v23,hv23,h⟩:=bind_some h;refine Q2 (Q3i _ v23 hv23) (.cons .lst .nil) ?_;replace ⟨a24,h⟩:=Q0 h;(try simp only [List.length_append,List.length_cons,List.length_nil] at a24);simp [a24];(repeat refine sdQ ?_);refine hK _ ?_;clear hK K;refine bn (tn (Q4 (st':=⟨Yc m_ f_ g_ [(9,.adr 1 0 0),(10,.own 7 0 ((s19.2.1++[(⟨v21.1,v21.2.1,v21.2.2⟩:XDayAt)]).length)),(47,iV m_.on_.n),(48,iV s19.2.2)],Yq ((1,.mix 7 [(Y0d v11 [.own 6 0 ((s19.1++[v23]).length),nS])])::Yu v11 [(6,rI (s19.1++[v23])),(7,.mix 1 (Es Qv (s19.2.1++[(⟨v21.1,v21.2.1,v21.2.2⟩:XDayAt)])))]),8⟩) (Q1x [(0,0),(1,1),(2,2),(3,3),(4,4),(5,5),(10,6),(7,7)]) (runQ hN fun K hK=>?_)));replace ⟨a25,h⟩:=Q0 h;simp [Qk a25];(repeat refine sdQ ?_);refine hK _ ?_;clear hK K;cases h;exact rn (s':=(s19.1++[v23],s19.2.1++[(⟨v21.1,v21.2.1,v21.2.2⟩:XDayAt)],s19.2.2+1)) hk19 (Q18 8)
  have g20:¬ (s19.2.2<m_.on_.n):=gQ;clear g;replace h:=if_r g20 h;refine Qg (tx (lx (bh ?_)));cases h;exact jn (b:=(s19.1,s19.2.1)) hk19 (Q18 8)
 intro b12 hb12;have h:=h12;try rw [← hb12] at h
 clear h12;try dsimp only at h
 refine Q1 (Q1 (runQ hN fun K hK=>?_));simp;repeat with_reducible refine sdQ ?_
 replace ⟨v26,hv26,h⟩:=bind_some h;refine Q2 (Q7o _ v26 hv26) (.cons .w .nil) ?_;simp;repeat refine sdQ ?_
 refine hK _ ?_;clear hK K;refine tn (Q4 (st':=⟨YB m_ [(10,.own 7 0 b12.2.length),(77,.val (.bool (!v26)))],Yq (YT v11 b12 (Yu v11 [(6,rI b12.1),(7,.mix 1 (Es Qv b12.2))])),8⟩) (Q18 8) (Q7 rfl (fun g=>?_) fun g=>?_))
 ·have g27:¬ (v26=true):=gQ;clear g;replace h:=if_l g27 h;refine Q1 (runQ hN fun K hK=>?_);simp;repeat refine sdQ ?_
  refine hK _ (tn (Q4 (st':=⟨[(6,.adr 0 0 0),(7,iV 3)],Yq [],1⟩) (Q1x [(0,0)]) (Qf (tr ?_))));clear hK K;have hr:=Option.some.inj h;rw [← hr];refine ⟨_,(.cell Q5a rfl rfl rfl (by simp) (by simp) (.tmp .nil)),?_⟩;refine ⟨(.agg rfl (.one rfl rfl .nil)),[iV 0,nS,nS,nS,nS,nS,nS,iV 3],[],by simp [Cat.cells,SF.cells,XDayAt.cells,XMonoidal.cells,UA,U1,IA,I1,LA,L1,BA,B1,EA,E1,E2,eB,eI,eL,Qd _ Qv _ (fun _=>rfl),Qd _ Q6 _ (fun _=>rfl)],by simp,(.cons .refl (.cons .nil (.cons .nil (.cons .nil (.cons .nil (.cons .nil (.cons .nil (.cons .refl .nil))))))))⟩
 have g27:¬ (¬ (v26=true)):=gQ;clear g;replace h:=if_r g27 h;refine Q8 (tn (Q1 (Q1 (runQ hN fun K hK=>?_))));simp;repeat refine sdQ ?_
 refine hK _ (tn (Q4 (st':=⟨YB m_ ((10,.own 7 0 b12.2.length)::Y03 m_ [(84,iV 0)]),Yq (YT v11 b12 (Yu v11 [(6,rI b12.1),(7,.mix 1 (Es Qv b12.2))])),8⟩) (Q18 8) ?_));clear hK K;replace ⟨e28,h,h28⟩:=bind_some h;refine Qe (fun b28:List (List Int)=>⟨[(6,.adr 0 0 0),(9,.adr 1 0 0)],Yq ((1,.mix 7 [(Y0d v11 [.own 6 0 b12.1.length,.own 7 0 b28.length])])::Yu v11 [(6,rI b12.1),(7,.row 1 (Ls b28))]),8⟩) (fun b28=>b28=e28) ?_ ?_
 ·refine Q5 (Qn h (fun s67:List (List Int) × Int=>⟨YB m_ ((10,.own 8 0 b12.2.length)::Y03 m_ [(84,iV s67.2)]),Y7 v11 b12 s67 [],9⟩) (Q4c ⟨YB m_ ((10,.own 7 0 b12.2.length)::Y03 m_ [(84,iV 0)]),Yq ((1,.mix 7 [(Y0d v11 [.own 6 0 b12.1.length,.own 8 0 0])])::Yu v11 [(6,rI b12.1),(7,.mix 1 (Es Qv b12.2)),(8,.row 1 (Ls []))]),9⟩ (Wk.nils [(8,1)] (by simp) (by simp) (by simp [nlA]) (by simp [Q6b,entN_mm,entN_mr,nlL,nlA,Cat.cells,SF.cells,XDayAt.cells,XMonoidal.cells,UA,U1,IA,I1,LA,L1,BA,B1,EA,E1,E2,eB,eI,eL,Qd _ Qv _ (fun _=>rfl),Qd _ Q6 _ (fun _=>rfl)]) (by simp)) (Q1x [(0,0),(1,1),(2,2),(3,3),(4,4),(5,5),(6,6),(8,7),(7,8)])) ?_);clear h;intro k67 s67 c67 h hk67;refine Q1 (runQ hN fun K hK=>?_);simp;repeat refine sdQ ?_
  refine hK _ ?_;clear hK K;refine tn (Q1 (Q7 rfl (fun g=>?_) fun g=>?_))
  ·have g68:s67.2<(m_.on_.fr.length:Int):=gQ;clear g;replace h:=if_l g68 h;refine Q8 (tn (Q1 (Q5 (Q1 (runQ hN fun K hK=>?_)))));simp;(repeat refine sdQ ?_);refine hK _ ?_;clear hK K;refine tn (Q4 (st':=⟨YB m_ ((10,.own 8 0 b12.2.length)::(14,iV s67.2)::Y03 m_ [(84,iV s67.2)]),Y7 v11 b12 s67 [],9⟩) (Q18 9) (Q1 (runQ hN fun K hK=>?_)));replace ⟨a69,h⟩:=Q0 h;replace ⟨a70,h⟩:=Q0 h;replace ⟨a71,h⟩:=Q0 h;replace ⟨a72,h⟩:=Q0 h;simp [at_I a69,at_E (c:=Qv) a70,at_I a71,at_E (c:=Qv) a72];(repeat refine sdQ ?_);refine hK _ ?_;clear hK K;refine tn (Q4 (st':=⟨Y8 m_ b12 s67 (Y03 m_ [(84,iV s67.2)]),Y7 v11 b12 s67 [],9⟩) (Q18 9) (Q1 (runQ hN fun K hK=>?_)));replace ⟨a73,h⟩:=Q0 h;replace ⟨a74,h⟩:=Q0 h;replace ⟨a75,h⟩:=Q0 h;simp [at_I a73,at_I a74];(repeat refine sdQ ?_);refine hK _ (tn ?_);clear hK K
   refine Q4 (st':=⟨Y8 m_ b12 s67 ((17,.own 9 0 ((List.replicate ((ix b12.1 (ix m_.on_.fr s67.2)).toNat) 0).length))::Y03 m_ [(84,iV s67.2)]),Y7 v11 b12 s67 [(9,rI (List.replicate ((ix b12.1 (ix m_.on_.fr s67.2)).toNat) 0))],10⟩) (Q1x [(0,0),(1,1),(2,2),(3,3),(4,4),(5,5),(6,6),(7,7),(8,8),(10,9)]) (Q1 (Q1 (runQ hN fun K hK=>?_)));simp;(repeat refine sdQ ?_);refine hK _ (tn (Q4 (st':=⟨Y8 m_ b12 s67 ((17,.own 9 0 ((List.replicate ((ix b12.1 (ix m_.on_.fr s67.2)).toNat) 0).length))::YC m_ s67 b12 [(124,iV 0)]),Y7 v11 b12 s67 [(9,rI (List.replicate ((ix b12.1 (ix m_.on_.fr s67.2)).toNat) 0))],10⟩) (Q18 10) ?_));clear hK K;replace ⟨e76,h,h76⟩:=bind_some h;refine Qe (fun b76:List Int=>⟨YB m_ ((10,.own 8 0 b12.2.length)::(17,.own 9 0 b76.length)::Y03 m_ [(84,iV s67.2)]),Y7 v11 b12 s67 [(9,rI b76)],10⟩) (fun b76=>b76=e76) ?_ ?_
   ·refine Q5 (Qn h (fun s90:List Int × Int=>⟨Y8 m_ b12 s67 ((17,.own 9 0 s90.1.length)::YC m_ s67 b12 [(124,iV s90.2)]),Y7 v11 b12 s67 [(9,rI s90.1)],10⟩) (Q18 10) ?_);clear h;intro k90 s90 c90 h hk90;refine Q1 (runQ hN fun K hK=>?_);simp;(repeat refine sdQ ?_);refine hK _ ?_;clear hK K;refine tn (Q1 (Q7 rfl (fun g=>?_) fun g=>?_))
    ·have g91:s90.2<(((gx b12.2 (ix m_.on_.fr s67.2)).lists_).length:Int):=gQ;clear g;replace h:=if_l g91 h;refine Q8 (tn (Q1 (Q5 (Q1 (runQ hN fun K hK=>?_)))));replace ⟨a92,h⟩:=Q0 h;simp [at_L a92];(repeat refine sdQ ?_);refine hK _ ?_;clear hK K;refine tn (Q4 (st':=⟨Y8 m_ b12 s67 ((17,.own 9 0 s90.1.length)::(18,iV s90.2)::(19,lI (rx ((gx b12.2 (ix m_.on_.fr s67.2)).lists_) s90.2))::YC m_ s67 b12 [(124,iV s90.2)]),Y7 v11 b12 s67 [(9,rI s90.1)],10⟩) (Q18 10) (Ql [] mo (by rw [hN];decide) fun K hK=>?_));replace ⟨a93,h⟩:=Q0 h;replace ⟨a94,h⟩:=Q0 h;replace ⟨a95,h⟩:=Q0 h;replace ⟨a96,h⟩:=Q0 h;simp [at_I a93,(show (Is (rx ((gx b12.2 (ix m_.on_.fr s67.2)).lists_) s90.2))[0]? = some [iV (ix (rx ((gx b12.2 (ix m_.on_.fr s67.2)).lists_) s90.2) 0)] from at_I (j:=0) a94),(show (Is (rx ((gx b12.2 (ix m_.on_.fr s67.2)).lists_) s90.2))[1]? = some [iV (ix (rx ((gx b12.2 (ix m_.on_.fr s67.2)).lists_) s90.2) 1)] from at_I (j:=1) a95),(show (Is (rx ((gx b12.2 (ix m_.on_.fr s67.2)).lists_) s90.2))[2]? = some [iV (ix (rx ((gx b12.2 (ix m_.on_.fr s67.2)).lists_) s90.2) 2)] from at_I (j:=2) a96)];(repeat with_reducible refine sdQ ?_);replace ⟨v97,hv97,h⟩:=bind_some h;refine Q13 (fz:=[]) (Q1c _ _ _ v97 hv97) (.cons (.preT (by simp [Cat.cells,SF.cells,XDayAt.cells,XMonoidal.cells])) (.cons .val (.cons .val .nil))) ?_;replace ⟨a98,h⟩:=Q0 h;replace ⟨a99,h⟩:=Q0 h;simp [at_I a93,(show (Is (rx ((gx b12.2 (ix m_.on_.fr s67.2)).lists_) s90.2))[3]? = some [iV (ix (rx ((gx b12.2 (ix m_.on_.fr s67.2)).lists_) s90.2) 3)] from at_I (j:=3) a98),(show (Is (rx ((gx b12.2 (ix m_.on_.fr s67.2)).lists_) s90.2))[4]? = some [iV (ix (rx ((gx b12.2 (ix m_.on_.fr s67.2)).lists_) s90.2) 4)] from at_I (j:=4) a99)];(repeat with_reducible refine sdQ ?_);replace ⟨v100,hv100,h⟩:=bind_some h
     refine Q13 (fz:=[]) (Q5X _ v100 hv100) (.cons (.lits (es:=_) rfl (.cons rfl (.cons (.lits (es:=_) rfl (.cons rfl (.cons .val .nil) (.cons rfl (.cons .val .nil) (.cons rfl (.cons .val .nil) (.cons rfl (.cons .val .nil) (.cons rfl (.cons .val .nil) .nil))))) rfl) .nil) .nil) rfl) .nil) ?_;replace ⟨a101,h⟩:=Q0 h;replace ⟨a102,h⟩:=Q0 h;simp [at_I a93,at_I a101,at_I a102];(repeat refine sdQ ?_);refine hK _ ?_;clear hK K;refine bn (tn (Q4 (st':=⟨Y8 m_ b12 s67 ((17,.own 9 0 ((s90.1.set ((ix ((gx b12.2 (ix m_.on_.fr s67.2)).classes_) s90.2).toNat) (ix ((gx b12.2 (ix m_.on_.to s67.2)).classes_) ((QW v100 ((gx b12.2 (ix m_.on_.to s67.2)).at_)).getD 0))).length))::YC m_ s67 b12 [(124,iV s90.2)]),Y7 v11 b12 s67 [(9,rI (s90.1.set ((ix ((gx b12.2 (ix m_.on_.fr s67.2)).classes_) s90.2).toNat) (ix ((gx b12.2 (ix m_.on_.to s67.2)).classes_) ((QW v100 ((gx b12.2 (ix m_.on_.to s67.2)).at_)).getD 0))))],10⟩) (Q18 10) (runQ hN fun K hK=>?_)));replace ⟨a103,h⟩:=Q0 h;simp [Qk a103];(repeat refine sdQ ?_);refine hK _ ?_;clear hK K;cases h;exact rn (s':=(s90.1.set ((ix ((gx b12.2 (ix m_.on_.fr s67.2)).classes_) s90.2).toNat) (ix ((gx b12.2 (ix m_.on_.to s67.2)).classes_) ((QW v100 ((gx b12.2 (ix m_.on_.to s67.2)).at_)).getD 0)),s90.2+1)) hk90 (Q18 10)
    have g91:¬ (s90.2<(((gx b12.2 (ix m_.on_.fr s67.2)).lists_).length:Int)):=gQ;clear g;replace h:=if_r g91 h;refine Qg (tx (lx (bh ?_)));cases h;exact jn (b:=s90.1) hk90 (Q18 10)
   intro b76 hb76;have h:=h76;(try rw [← hb76] at h);clear h76;(try dsimp only at h);refine runQ hN fun K hK=>?_;replace ⟨a104,h⟩:=Q0 h;(try simp only [List.length_append,List.length_cons,List.length_nil] at a104);simp [a104];(repeat refine sdQ ?_);refine hK _ ?_;clear hK K;refine bn (tn (Q4 (st':=⟨YB m_ ((10,.own 8 0 b12.2.length)::Y03 m_ [(84,iV s67.2)]),Yq ((1,.mix 7 [(Y0d v11 [.own 6 0 b12.1.length,.own 7 0 ((s67.1++[b76]).length)])])::Yu v11 [(6,rI b12.1),(7,.row 1 (Ls (s67.1++[b76]))),(8,.mix 1 (Es Qv b12.2))]),9⟩) (Q1x [(0,0),(1,1),(2,2),(3,3),(4,4),(5,5),(6,6),(11,7),(8,8)]) (runQ hN fun K hK=>?_)));replace ⟨a105,h⟩:=Q0 h;simp [Qk a105];(repeat refine sdQ ?_);refine hK _ ?_;clear hK K;cases h;exact rn (s':=(s67.1++[b76],s67.2+1)) hk67 (Q18 9)
  have g68:¬ (s67.2<(m_.on_.fr.length:Int)):=gQ;clear g;replace h:=if_r g68 h;refine Qg (tx (lx (bh ?_)));cases h;exact jn (b:=s67.1) hk67 (Q18 8)
 intro b28 hb28;have h:=h28;try rw [← hb28] at h
 clear h28;try dsimp only at h
 refine Q1 (runQ hN fun K hK=>?_);simp;repeat refine sdQ ?_
 refine hK _ (tn (Q4 (st':=⟨[(6,.adr 0 0 0),(7,iV 0)],[(0,.mix 7 [[iV v11.n,.own 1 0 v11.fr.length,.own 2 0 v11.to.length,.own 3 0 v11.id.length,.own 4 0 v11.cs.length,.own 5 0 b12.1.length,.own 6 0 b28.length]]),(1,rI v11.fr),(2,rI v11.to),(3,rI v11.id),(4,.row 1 (Ls v11.cs)),(5,rI b12.1),(6,.row 1 (Ls b28))],7⟩) (Q1x [(0,0),(2,1),(3,2),(4,3),(5,4),(6,5),(7,6)]) (Qf ?_)));clear hK K;have hr:=Option.some.inj h;rw [← hr];refine ⟨_,(.cell Q5a rfl rfl rfl (by simp) (by simp) (.tmp .nil)),?_⟩;refine ⟨(.agg rfl (.one rfl rfl .nil)),[iV v11.n,lI v11.fr,lI v11.to,lI v11.id,.lst true 1 (Ls v11.cs),lI b12.1,.lst true 1 (Ls b28),iV 0],[1,2,3,4,5,6],by simp [Cat.cells,SF.cells,XDayAt.cells,XMonoidal.cells,UA,U1,IA,I1,LA,L1,BA,B1,EA,E1,E2,eB,eI,eL,Qd _ Qv _ (fun _=>rfl),Qd _ Q6 _ (fun _=>rfl)],by simp,(UpL.refl _)⟩
attribute [local simp] unk unA unE unT unC flat eL eI Qs Q1L Q8g Q6 Cat.cells SF.cells XMonoidal.cells
noncomputable def Q16 (m_:XMonoidal) (f_:SF) (g_:SF):Option (SF × Int) :=
 (
  (Q3e m_).bind fun v2 =>
  if ¬ (v2=true) then
   some true
  else
   (Q2r f_).bind fun v4 =>
   if ¬ (v4=true) then
    some true
   else
    (Q2r g_).bind fun v6 =>
    some (!v6):Option (Bool)).bind fun b1 =>
 if b1=true then
  some ((⟨(⟨0,[],[],[],[]⟩:Cat),[],[]⟩:SF),1)
 else
  (
   (Q1V f_.s m_.on_).bind fun v9 =>
   if ¬ (v9=true) then
    some true
   else
    (Q1V g_.s m_.on_).bind fun v11 =>
    some (!v11):Option (Bool)).bind fun b8 =>
  if b8=true then
   some ((⟨(⟨0,[],[],[],[]⟩:Cat),[],[]⟩:SF),5)
  else
   (Q3q m_.on_).bind fun v13 =>
   (Qt (σ:=List (List (List Int)) × List (List Int) × List Int × Int) (ε:=(List (List (List Int)) × List (List Int) × List Int) ⊕ (SF × Int)) (fun s26 =>
    if s26.2.2.2<m_.on_.n then
     (Q1u m_ f_ g_ s26.2.2.2).bind fun v28 =>
     if (v28.length:Int) > 256 then
      some (Ctl.ret (Sum.inr ((⟨(⟨0,[],[],[],[]⟩:Cat),[],[]⟩:SF),3)))
     else
      (Q1t m_ f_ g_ s26.2.2.2 v28).bind fun v30 =>
      (Q1W v30).bind fun v31 =>
      if v31 > 16 then
       some (Ctl.ret (Sum.inr ((⟨(⟨0,[],[],[],[]⟩:Cat),[],[]⟩:SF),3)))
      else
       ass ((s26.1++[v28]).length≤1073741824) <|
       ass ((s26.2.1++[v30]).length≤1073741824) <|
       (Q1W v30).bind fun v35 =>
       ass ((s26.2.2.1++[v35]).length≤1073741824) <|
       ass (B64 (s26.2.2.2+1)) <|
       some (Ctl.next (s26.1++[v28],s26.2.1++[v30],s26.2.2.1++[v35],s26.2.2.2+1))
    else
     some (Ctl.ret (Sum.inl (s26.1,s26.2.1,s26.2.2.1)))) fuel ([],[],[],0)).bind fun e14 =>
   match e14 with
   | .inl b14 =>
    (Qt (σ:=List (List Int) × Int) (ε:=List (List Int)) (fun s84 =>
     if s84.2<(m_.on_.fr.length:Int) then
      ass (0≤s84.2∧s84.2<(m_.on_.fr.length:Int)) <|
      ass (0≤s84.2∧s84.2<(m_.on_.to.length:Int)) <|
      ass (0≤ix m_.on_.fr s84.2∧ix m_.on_.fr s84.2<(b14.2.2.length:Int)) <|
      ass (0≤ix b14.2.2 (ix m_.on_.fr s84.2)∧ix b14.2.2 (ix m_.on_.fr s84.2)≤1073741824) <|
      (Qt (σ:=List Int × Int) (ε:=List Int) (fun s109 =>
       ass (0≤ix m_.on_.fr s84.2∧ix m_.on_.fr s84.2<(b14.1.length:Int)) <|
       if s109.2<((gx b14.1 (ix m_.on_.fr s84.2)).length:Int) then
        ass (0≤ix m_.on_.fr s84.2∧ix m_.on_.fr s84.2<(b14.1.length:Int)) <|
        ass (0≤s109.2∧s109.2<((gx b14.1 (ix m_.on_.fr s84.2)).length:Int)) <|
        ass (0≤ix m_.on_.fr s84.2∧ix m_.on_.fr s84.2<(b14.2.1.length:Int)) <|
        ass (0≤s109.2∧s109.2<((rx b14.2.1 (ix m_.on_.fr s84.2)).length:Int)) <|
        ass (0≤ix m_.on_.to s84.2∧ix m_.on_.to s84.2<(b14.2.1.length:Int)) <|
        ass (0≤ix m_.on_.to s84.2∧ix m_.on_.to s84.2<(b14.1.length:Int)) <|
        ass ((0:Int)≤0∧0<((rx (gx b14.1 (ix m_.on_.fr s84.2)) s109.2).length:Int)) <|
        ass ((0:Int)≤1∧1<((rx (gx b14.1 (ix m_.on_.fr s84.2)) s109.2).length:Int)) <|
        ass ((0:Int)≤2∧2<((rx (gx b14.1 (ix m_.on_.fr s84.2)) s109.2).length:Int)) <|
        (Q1B m_.on_ (ix (rx (gx b14.1 (ix m_.on_.fr s84.2)) s109.2) 2) s84.2).bind fun v121 =>
        ass ((0:Int)≤3∧3<((rx (gx b14.1 (ix m_.on_.fr s84.2)) s109.2).length:Int)) <|
        ass ((0:Int)≤4∧4<((rx (gx b14.1 (ix m_.on_.fr s84.2)) s109.2).length:Int)) <|
        (Q1C (gx b14.1 (ix m_.on_.to s84.2)) [ix (rx (gx b14.1 (ix m_.on_.fr s84.2)) s109.2) 0,ix (rx (gx b14.1 (ix m_.on_.fr s84.2)) s109.2) 1,v121,ix (rx (gx b14.1 (ix m_.on_.fr s84.2)) s109.2) 3,ix (rx (gx b14.1 (ix m_.on_.fr s84.2)) s109.2) 4]).bind fun v124 =>
        ass (0≤v124∧v124<((rx b14.2.1 (ix m_.on_.to s84.2)).length:Int)) <|
        ass (0≤ix (rx b14.2.1 (ix m_.on_.fr s84.2)) s109.2∧ix (rx b14.2.1 (ix m_.on_.fr s84.2)) s109.2<(s109.1.length:Int)) <|
        ass (B64 (s109.2+1)) <|
        some (Ctl.next (s109.1.set ((ix (rx b14.2.1 (ix m_.on_.fr s84.2)) s109.2).toNat) (ix (rx b14.2.1 (ix m_.on_.to s84.2)) v124),s109.2+1))
       else
        some (Ctl.ret s109.1)) fuel (List.replicate ((ix b14.2.2 (ix m_.on_.fr s84.2)).toNat) 0,0)).bind fun b90 =>
      ass ((s84.1++[b90]).length≤1073741824) <|
      ass (B64 (s84.2+1)) <|
      some (Ctl.next (s84.1++[b90],s84.2+1))
     else
      some (Ctl.ret s84.1)) fuel ([],0)).bind fun b38 =>
    some ((⟨v13,b14.2.2,b38⟩:SF),0)
   | .inr p14 =>
    some p14
@[simp] abbrev Y0h (a:Cat) (b:List (AV)):List (AV):=iV a.n::.own 5 0 a.fr.length::.own 6 0 a.to.length::.own 7 0 a.id.length::.own 8 0 a.cs.length::b
@[simp] abbrev Y6 (a:XMonoidal) (b:List (List (List Int)) × List (List Int) × List Int) (c:Cat) (d:List (List Int) × Int) (e:List (Nat × Ent)):List (Nat × Ent):=(0,.mix 7 [(Y0i [])])::(1,.mix 5 [(Cat.cells true a.on_)])::(2,.row 1 (Es eL b.1))::(3,.mix 1 (Ls b.2.1))::(4,.mix 7 [(Y0h c [.own 9 0 b.2.2.length,.own 10 0 d.1.length])])::(5,rI c.fr)::(6,rI c.to)::(7,rI c.id)::(8,.row 1 (Ls c.cs))::(9,rI b.2.2)::(10,.row 1 (Ls d.1))::e
@[simp] abbrev Y0f (a:Cat) (b:List (AV)):List (AV):=iV a.n::.own 8 0 a.fr.length::.own 9 0 a.to.length::.own 10 0 a.id.length::.own 11 0 a.cs.length::b
@[simp] abbrev Ye (a:Cat) (b:List (List (List Int)) × List (List Int) × List Int × Int) (c:List (Nat × Ent)):List (Nat × Ent):=(7,.mix 7 [(Y0f a [.own 12 0 b.2.2.1.length,.own 13 0 0])])::(8,rI a.fr)::(9,rI a.to)::(10,rI a.id)::(11,.row 1 (Ls a.cs))::(12,rI b.2.2.1)::(13,.mix 1 [])::c
@[simp] abbrev Yf (a:List (Nat × AV)):List (Nat × AV):=(3,.adr 0 0 0)::(4,.adr 1 0 0)::(5,.adr 2 0 0)::a
@[simp] abbrev Yl (a:List (List (List Int)) × List (List Int) × List Int) (b:List (Nat × AV)):List (Nat × AV):=(6,.adr 0 0 0)::(8,.adr 1 0 0)::(9,.own 2 0 a.1.length)::(10,.own 3 0 a.2.1.length)::(11,.adr 4 0 0)::b
@[simp] abbrev Yr (a:XMonoidal) (b:List (Nat × Ent)):List (Nat × Ent):=(3,.mix 7 [(Y0i [])])::(4,.mix 5 [(Cat.cells true a.on_)])::b
@[simp] abbrev Yx (a:XMonoidal) (b:List (List (List Int)) × List (List Int) × List Int) (c:Cat) (d:List (Nat × Ent)):List (Nat × Ent):=(1,.mix 5 [(Cat.cells true a.on_)])::(2,.row 1 (Es eL b.1))::(3,.mix 1 (Ls b.2.1))::(4,.mix 7 [(Y0h c [.own 9 0 b.2.2.length,.own 10 0 0])])::(5,rI c.fr)::(6,rI c.to)::(7,rI c.id)::(8,.row 1 (Ls c.cs))::(9,rI b.2.2)::d
@[simp] abbrev Yz (a:Cat) (b:List (Nat × Ent)):List (Nat × Ent):=(6,.mix 1 [])::(7,.mix 7 [(Y0f a [.own 12 0 0,.own 13 0 0])])::(8,rI a.fr)::(9,rI a.to)::(10,rI a.id)::(11,.row 1 (Ls a.cs))::b
@[simp] abbrev YJ (a:List (Nat × AV)):List (Nat × AV):=(6,.adr 3 0 0)::(8,.adr 4 0 0)::a
@[simp] abbrev YN (a:List (List Int) × Int) (b:XMonoidal) (c:List (Nat × AV)):List (Nat × AV):=(15,iV a.2)::(16,iV (ix b.on_.fr a.2))::(17,iV (ix b.on_.to a.2))::c
@[simp] abbrev YU (a:List (List (List Int)) × List (List Int) × List Int × Int) (b:List (Nat × AV)):List (Nat × AV):=(10,.own 6 0 a.2.1.length)::(11,.adr 7 0 0)::(12,iV a.2.2.2)::b
theorem Q5c (m_:XMonoidal) (f_:SF) (g_:SF) (r:SF × Int) (h:Q16 m_ f_ g_=some r):Contract Try.prog 8 (Y0e m_ f_ g_ []) (.tup [.agg (r.1.cells true),iV r.2]):=by
 refine Q27 (rvs:=[.cell 6 34,.tmp 7]) (rs:=[.agg (r.1.cells true),iV r.2]) Try.func8 rfl rfl rfl rfl (by simp [Try.f8]) fun F hN hP hW=>?_;unfold Q16 at h;refine Q1 (runQ hN fun K hK=>?_);simp;repeat refine sdQ ?_
 refine hK _ (tn (Q4 (st':=⟨Yf [(6,.adr 3 0 0)],Y2 m_ f_ g_ [(3,.mix 7 [(Y0i [])])],4⟩) (Q18 4) (Q1 (Q1 ?_))));clear hK K;replace ⟨e1,h,h1⟩:=bind_some h;refine Qe (fun b1:Bool=>⟨Yf [(6,.adr 3 0 0),(33,.val (.bool b1))],Y2 m_ f_ g_ [(3,.mix 7 [(Y0i [])])],4⟩) (fun b1=>b1=e1) ?_ ?_
 ·refine runQ hN fun K hK=>?_;simp;repeat with_reducible refine sdQ ?_
  replace ⟨v2,hv2,h⟩:=bind_some h;refine Q2 (w_s_l35Is _ v2 hv2) (.cons (.aggL (.cons .val (.cons .lst (.cons .lst (.cons .lst (.cons .lst (.cons .val (.cons .lst (.cons .lst .nil))))))))) .nil) ?_;simp;repeat with_reducible refine sdQ ?_
  refine Qo (fun g=>?_) (fun g=>?_)
  ·have g3:¬ (¬ (v2=true)):=gQ;clear g;replace h:=if_r g3 h;simp;(repeat with_reducible refine sdQ ?_);replace ⟨v4,hv4,h⟩:=bind_some h;refine Q2 (Q6F _ v4 hv4) (.cons (.aggL (.cons .val (.cons .lst (.cons .lst (.cons .lst (.cons .lst (.cons .lst (.cons .lst .nil)))))))) .nil) ?_;simp;(repeat with_reducible refine sdQ ?_);refine Qo (fun g=>?_) (fun g=>?_)
   ·have g5:¬ (¬ (v4=true)):=gQ;clear g;replace h:=if_r g5 h;simp;(repeat with_reducible refine sdQ ?_);replace ⟨v6,hv6,h⟩:=bind_some h;refine Q2 (Q6F _ v6 hv6) (.cons (.aggL (.cons .val (.cons .lst (.cons .lst (.cons .lst (.cons .lst (.cons .lst (.cons .lst .nil)))))))) .nil) ?_;simp;(repeat refine sdQ ?_);refine hK _ ?_;exact jn (b:=!v6) (Option.some.inj h) (Q18 4)
   have g5:¬ (v4=true):=gQ;clear g;replace h:=if_l g5 h;simp;(repeat refine sdQ ?_);refine hK _ ?_;exact jn (b:=true) (Option.some.inj h) (Q18 4)
  have g3:¬ (v2=true):=gQ;clear g;replace h:=if_l g3 h;simp;repeat refine sdQ ?_
  refine hK _ ?_;exact jn (b:=true) (Option.some.inj h) (Q18 4)
 intro b1 hb1;have h:=h1;try rw [← hb1] at h
 clear h1;try dsimp only at h
 refine Q7 rfl (fun g=>?_) fun g=>?_
 ·have g7:b1=true:=gQ;clear g;replace h:=if_l g7 h;refine Q1 (runQ hN fun K hK=>?_);simp;repeat refine sdQ ?_
  refine hK _ (tn (Q4 (st':=⟨[(6,.adr 0 0 0),(7,iV 1)],Yq [],1⟩) (Q1x [(3,0)]) (Qf (tr ?_))));clear hK K;have hr:=Option.some.inj h;rw [← hr];refine ⟨_,(.cell Q5a rfl rfl rfl (by simp) (by simp) (.tmp .nil)),?_⟩;refine ⟨(.agg rfl (.one rfl rfl .nil)),[iV 0,nS,nS,nS,nS,nS,nS,iV 1],[],by simp [Cat.cells,SF.cells,XMonoidal.cells,UA,U1,IA,I1,LA,L1,BA,B1,EA,E1,E2,eB,eI,eL,Qd _ Q6 _ (fun _=>rfl)],by simp,(.cons .refl (.cons .nil (.cons .nil (.cons .nil (.cons .nil (.cons .nil (.cons .nil (.cons .refl .nil))))))))⟩
 have g7:¬ (b1=true):=gQ;clear g;replace h:=if_r g7 h;refine Q8 (tn (Q1 (Q1 ?_)));replace ⟨e8,h,h8⟩:=bind_some h;refine Qe (fun b8:Bool=>⟨Yf [(6,.adr 3 0 0),(48,.val (.bool b8))],Y2 m_ f_ g_ [(3,.mix 7 [(Y0i [])])],4⟩) (fun b8=>b8=e8) ?_ ?_
 ·refine runQ hN fun K hK=>?_;simp;repeat with_reducible refine sdQ ?_
  replace ⟨v9,hv9,h⟩:=bind_some h;refine Q2 (Q4X _ _ v9 hv9) (.cons (.aggL (.cons .val (.cons .lst (.cons .lst (.cons .lst (.cons .lst .nil)))))) (.cons (.aggL (.cons .val (.cons .lst (.cons .lst (.cons .lst (.cons .lst .nil)))))) .nil)) ?_;simp;repeat with_reducible refine sdQ ?_
  refine Qo (fun g=>?_) (fun g=>?_)
  ·have g10:¬ (¬ (v9=true)):=gQ;clear g;replace h:=if_r g10 h;simp;(repeat with_reducible refine sdQ ?_);replace ⟨v11,hv11,h⟩:=bind_some h;refine Q2 (Q4X _ _ v11 hv11) (.cons (.aggL (.cons .val (.cons .lst (.cons .lst (.cons .lst (.cons .lst .nil)))))) (.cons (.aggL (.cons .val (.cons .lst (.cons .lst (.cons .lst (.cons .lst .nil)))))) .nil)) ?_;simp;(repeat refine sdQ ?_);refine hK _ ?_;exact jn (b:=!v11) (Option.some.inj h) (Q18 4)
  have g10:¬ (v9=true):=gQ;clear g;replace h:=if_l g10 h;simp;repeat refine sdQ ?_
  refine hK _ ?_;exact jn (b:=true) (Option.some.inj h) (Q18 4)
 intro b8 hb8;have h:=h8;try rw [← hb8] at h
 clear h8;try dsimp only at h
 refine Q7 rfl (fun g=>?_) fun g=>?_
 ·have g12:b8=true:=gQ;clear g;replace h:=if_l g12 h;refine Q1 (runQ hN fun K hK=>?_);simp;repeat refine sdQ ?_
  refine hK _ (tn (Q4 (st':=⟨[(6,.adr 0 0 0),(7,iV 5)],Yq [],1⟩) (Q1x [(3,0)]) (Qf (tr ?_))));clear hK K;have hr:=Option.some.inj h;rw [← hr];refine ⟨_,(.cell Q5a rfl rfl rfl (by simp) (by simp) (.tmp .nil)),?_⟩;refine ⟨(.agg rfl (.one rfl rfl .nil)),[iV 0,nS,nS,nS,nS,nS,nS,iV 5],[],by simp [Cat.cells,SF.cells,XMonoidal.cells,UA,U1,IA,I1,LA,L1,BA,B1,EA,E1,E2,eB,eI,eL,Qd _ Q6 _ (fun _=>rfl)],by simp,(.cons .refl (.cons .nil (.cons .nil (.cons .nil (.cons .nil (.cons .nil (.cons .nil (.cons .refl .nil))))))))⟩
 have g12:¬ (b8=true):=gQ;clear g;replace h:=if_r g12 h;refine Q8 (tn (Q1 (runQ hN fun K hK=>?_)));simp;repeat refine sdQ ?_
 refine hK _ ?_;clear hK K;refine tn (Q4 (st':=⟨Yf (YJ []),Y2 m_ f_ g_ (Yr m_ []),5⟩) (Q18 5) (Q1 (runQ hN fun K hK=>?_)));simp;repeat refine sdQ ?_
 refine hK _ ?_;clear hK K;refine tn (Q4 (st':=⟨Yf (YJ [(9,.own 5 0 0),(10,.own 6 0 0)]),Y2 m_ f_ g_ (Yr m_ [(5,.mix 1 []),(6,.mix 1 [])]),7⟩) (Q18 7) (Q1 (runQ hN fun K hK=>?_)));simp;repeat with_reducible refine sdQ ?_
 replace ⟨v13,hv13,h⟩:=bind_some h;refine Q2 (Q8O _ v13 hv13) (.cons (.aggL (.cons .val (.cons .lst (.cons .lst (.cons .lst (.cons .lst .nil)))))) .nil) ?_;simp;repeat refine sdQ ?_
 refine hK _ ?_;clear hK K;refine tn (Q4 (st':=⟨Yf (YJ [(9,.own 5 0 0),(10,.own 6 0 0),(11,.adr 7 0 0)]),Y2 m_ f_ g_ (Yr m_ ((5,.mix 1 [])::Yz v13 [(12,.mix 1 []),(13,.mix 1 [])])),14⟩) (Q1x [(0,0),(1,1),(2,2),(3,3),(4,4),(5,5),(6,6),(14,7),(8,8),(9,9),(10,10),(11,11),(12,12),(13,13)]) (Q1 (Q1 (runQ hN fun K hK=>?_))));simp;repeat refine sdQ ?_
 refine hK _ (tn (Q4 (st':=⟨Yf (YJ [(9,.own 5 0 0),(10,.own 6 0 0),(11,.adr 7 0 0),(12,iV 0)]),Y2 m_ f_ g_ (Yr m_ ((5,.mix 1 [])::Yz v13 [(12,.mix 1 []),(13,.mix 1 [])])),14⟩) (Q18 14) ?_));clear hK K;replace ⟨e14,h,h14⟩:=bind_some h;refine Qe (fun b14:List (List (List Int)) × List (List Int) × List Int=>⟨Yl b14 [],Yq (Yx m_ b14 v13 [(10,.mix 1 [])]),11⟩) (fun b14=>Sum.inl b14=e14) ?_ ?_
 ·refine Q5 (Qn h (fun s26:List (List (List Int)) × List (List Int) × List Int × Int=>⟨Yf (YJ ((9,.own 5 0 s26.1.length)::YU s26 [])),Y2 m_ f_ g_ (Yr m_ ((5,.row 1 (Es eL s26.1))::(6,.mix 1 (Ls s26.2.1))::Ye v13 s26 [])),14⟩) (Q4c ⟨Yf (YJ [(9,.own 5 0 0),(10,.own 6 0 0),(11,.adr 7 0 0),(12,iV 0)]),Y2 m_ f_ g_ (Yr m_ ((5,.row 1 (Es eL []))::Yz v13 [(12,rI []),(13,.mix 1 [])])),14⟩ (Wk.nils [] (by simp) (by simp) (by simp [nlA]) (by simp [entN,nlL,nlA,Cat.cells,SF.cells,XMonoidal.cells,UA,U1,IA,I1,LA,L1,BA,B1,EA,E1,E2,eB,eI,eL,Qd _ Q6 _ (fun _=>rfl)]) (by simp)) (Q18 14)) ?_);clear h;intro k26 s26 c26 h hk26;refine Q1 (Q1 (runQ hN fun K hK=>?_));simp;repeat refine sdQ ?_
  refine hK _ ?_;clear hK K;refine tn (Q7 rfl (fun g=>?_) fun g=>?_)
  ·have g27:s26.2.2.2<m_.on_.n:=gQ;clear g;replace h:=if_l g27 h;refine Q8 (tn (Q1 (Q5 (Q1 (runQ hN fun K hK=>?_)))));simp;(repeat with_reducible refine sdQ ?_);replace ⟨v28,hv28,h⟩:=bind_some h;refine Q2 (Q5f _ _ _ _ v28 hv28) (.cons (.aggL (.cons .val (.cons .lst (.cons .lst (.cons .lst (.cons .lst (.cons .val (.cons .lst (.cons .lst .nil))))))))) (.cons (.aggL (.cons .val (.cons .lst (.cons .lst (.cons .lst (.cons .lst (.cons .lst (.cons .lst .nil)))))))) (.cons (.aggL (.cons .val (.cons .lst (.cons .lst (.cons .lst (.cons .lst (.cons .lst (.cons .lst .nil)))))))) (.cons .val .nil)))) ?_;simp;(repeat refine sdQ ?_);refine hK _ ?_;clear hK K;refine tn (Q4 (st':=⟨Yf (YJ ((9,.own 5 0 s26.1.length)::YU s26 [(13,.own 14 0 v28.length)])),Y2 m_ f_ g_ (Yr m_ ((5,.row 1 (Es eL s26.1))::(6,.mix 1 (Ls s26.2.1))::Ye v13 s26 [(14,.row 1 (Ls v28))])),15⟩) (Q18 15) (Q1 (Q1 (runQ hN fun K hK=>?_))));simp;(repeat refine sdQ ?_);refine hK _ ?_;clear hK K;refine tn (Q7 rfl (fun g=>?_) fun g=>?_)
   ·have g29:(v28.length:Int) > 256:=gQ;clear g;replace h:=if_l g29 h;refine Q1 (runQ hN fun K hK=>?_);simp;(repeat refine sdQ ?_);refine hK _ (tn (Q4 (st':=⟨[(6,.adr 0 0 0),(7,iV 3)],Yq [],1⟩) (Q1x [(3,0)]) (Qf (tr (br (tr (lr (br (tr ?_)))))))));clear hK K;cases h;have q:_=e14:=hk26;have h:=h14;rw [← q] at h;clear q;(try dsimp only at h);have hr:=Option.some.inj h;rw [← hr];refine ⟨_,(.cell Q5a rfl rfl rfl (by simp) (by simp) (.tmp .nil)),?_⟩;refine ⟨(.agg rfl (.one rfl rfl .nil)),[iV 0,nS,nS,nS,nS,nS,nS,iV 3],[],by simp [Cat.cells,SF.cells,XMonoidal.cells,UA,U1,IA,I1,LA,L1,BA,B1,EA,E1,E2,eB,eI,eL,Qd _ Q6 _ (fun _=>rfl)],by simp,(.cons .refl (.cons .nil (.cons .nil (.cons .nil (.cons .nil (.cons .nil (.cons .nil (.cons .refl .nil))))))))⟩
   have g29:¬ ((v28.length:Int) > 256):=gQ;clear g;replace h:=if_r g29 h;refine Q8 (tn (Q1 (runQ hN fun K hK=>?_)));simp;(repeat with_reducible refine sdQ ?_);replace ⟨v30,hv30,h⟩:=bind_some h;refine Q2 (Q5e _ _ _ _ _ v30 hv30) (.cons (.aggL (.cons .val (.cons .lst (.cons .lst (.cons .lst (.cons .lst (.cons .val (.cons .lst (.cons .lst .nil))))))))) (.cons (.aggL (.cons .val (.cons .lst (.cons .lst (.cons .lst (.cons .lst (.cons .lst (.cons .lst .nil)))))))) (.cons (.aggL (.cons .val (.cons .lst (.cons .lst (.cons .lst (.cons .lst (.cons .lst (.cons .lst .nil)))))))) (.cons .val (.cons .w .nil))))) ?_;simp;(repeat refine sdQ ?_);refine hK _ ?_;clear hK K;refine tn (Q4 (st':=⟨Yf (YJ ((9,.own 5 0 s26.1.length)::YU s26 [(13,.own 14 0 v28.length),(14,.own 15 0 v30.length)])),Y2 m_ f_ g_ (Yr m_ ((5,.row 1 (Es eL s26.1))::(6,.mix 1 (Ls s26.2.1))::Ye v13 s26 [(14,.row 1 (Ls v28)),(15,rI v30)])),16⟩) (Q18 16) (Q1 (Q1 (runQ hN fun K hK=>?_))));simp;(repeat with_reducible refine sdQ ?_);replace ⟨v31,hv31,h⟩:=bind_some h;refine Q2 (Q5B _ v31 hv31) (.cons .w .nil) ?_;simp;(repeat refine sdQ ?_);refine hK _ ?_;clear hK K;refine tn (Q4 (st':=⟨Yf (YJ ((9,.own 5 0 s26.1.length)::YU s26 [(13,.own 14 0 v28.length),(14,.own 15 0 v30.length),(82,.val (.bool (decide (v31 > 16))))])),Y2 m_ f_ g_ (Yr m_ ((5,.row 1 (Es eL s26.1))::(6,.mix 1 (Ls s26.2.1))::Ye v13 s26 [(14,.row 1 (Ls v28)),(15,rI v30)])),16⟩) (Q18 16) (Q7 rfl (fun g=>?_) fun g=>?_))
   ·have g32:v31 > 16:=gQ;clear g;replace h:=if_l g32 h;refine Q1 (runQ hN fun K hK=>?_);simp;(repeat refine sdQ ?_);refine hK _ (tn (Q4 (st':=⟨[(6,.adr 0 0 0),(7,iV 3)],Yq [],1⟩) (Q1x [(3,0)]) (Qf (tr (br (tr (lr (br (tr ?_)))))))));clear hK K;cases h;have q:_=e14:=hk26;have h:=h14;rw [← q] at h;clear q;(try dsimp only at h);have hr:=Option.some.inj h;rw [← hr];refine ⟨_,(.cell Q5a rfl rfl rfl (by simp) (by simp) (.tmp .nil)),?_⟩;refine ⟨(.agg rfl (.one rfl rfl .nil)),[iV 0,nS,nS,nS,nS,nS,nS,iV 3],[],by simp [Cat.cells,SF.cells,XMonoidal.cells,UA,U1,IA,I1,LA,L1,BA,B1,EA,E1,E2,eB,eI,eL,Qd _ Q6 _ (fun _=>rfl)],by simp,(.cons .refl (.cons .nil (.cons .nil (.cons .nil (.cons .nil (.cons .nil (.cons .nil (.cons .refl .nil))))))))⟩
   have g32:¬ (v31 > 16):=gQ;clear g;replace h:=if_r g32 h;refine Q8 (tn (Q1 (runQ hN fun K hK=>?_)));replace ⟨a33,h⟩:=Q0 h;(try simp only [List.length_append,List.length_cons,List.length_nil] at a33);simp [a33];(repeat refine sdQ ?_);refine hK _ ?_;clear hK K;refine tn (Q4 (st':=⟨Yf (YJ ((9,.own 5 0 ((s26.1++[v28]).length))::YU s26 [(14,.own 14 0 v30.length)])),Y2 m_ f_ g_ (Yr m_ ((5,.row 1 (Es eL (s26.1++[v28])))::(6,.mix 1 (Ls s26.2.1))::Ye v13 s26 [(14,rI v30)])),15⟩) (Q1x [(0,0),(1,1),(2,2),(3,3),(4,4),(17,5),(6,6),(7,7),(8,8),(9,9),(10,10),(11,11),(12,12),(13,13),(15,14)]) (Q1 (Q4 (st':=⟨Yf (YJ ((9,.own 5 0 ((s26.1++[v28]).length))::YU s26 [(14,lI v30)])),Y2 m_ f_ g_ (Yr m_ ((5,.row 1 (Es eL (s26.1++[v28])))::(6,.mix 1 (Ls s26.2.1))::Ye v13 s26 [])),15⟩) (Wk.frzD hW [14] (Q2l (.inl rfl) (Q2l (.inl rfl) (Q2l (.inl rfl) (Q2l (.inl rfl) (Q2l (.inl rfl) (Q2l (.inl rfl) (Q2l (.inl rfl) (Q2l (.inl rfl) (Q2l (.inl rfl) (Q2l (.inr (.inr (.row rfl (by simp) (by simp)))) frz_n)))))))))) rfl (by simp [look])) (Ql [91] mo (by rw [hN];decide) fun K hK=>?_))));replace ⟨a34,h⟩:=Q0 h;(try simp only [List.length_append,List.length_cons,List.length_nil] at a34);simp [a34];(repeat refine sdQ ?_);refine hK _ (tn ?_);clear hK K
   refine Q4 (st':=⟨Yf (YJ [(9,.own 5 0 ((s26.1++[v28]).length)),(10,.own 6 0 ((s26.2.1++[v30]).length)),(11,.adr 7 0 0),(12,iV s26.2.2.2),(14,lI v30)]),Y2 m_ f_ g_ (Yr m_ ((5,.row 1 (Es eL (s26.1++[v28])))::(6,.mix 1 (Ls (s26.2.1++[v30])))::Ye v13 s26 [])),14⟩) (Q1x [(0,0),(1,1),(2,2),(3,3),(4,4),(5,5),(16,6),(7,7),(8,8),(9,9),(10,10),(11,11),(12,12),(13,13)]) (runQ hN fun K hK=>?_);simp;(repeat with_reducible refine sdQ ?_);replace ⟨v35,hv35,h⟩:=bind_some h;refine Q2 (Q5B _ v35 hv35) (.cons .lst .nil) ?_;replace ⟨a36,h⟩:=Q0 h;(try simp only [List.length_append,List.length_cons,List.length_nil] at a36);simp [a36];(repeat refine sdQ ?_);refine hK _ ?_;clear hK K;refine bn (tn (Q4 (st':=⟨Yf (YJ [(9,.own 5 0 ((s26.1++[v28]).length)),(10,.own 6 0 ((s26.2.1++[v30]).length)),(11,.adr 7 0 0),(12,iV s26.2.2.2)]),Y2 m_ f_ g_ (Yr m_ [(5,.row 1 (Es eL (s26.1++[v28]))),(6,.mix 1 (Ls (s26.2.1++[v30]))),(7,.mix 7 [(Y0f v13 [.own 12 0 ((s26.2.2.1++[v35]).length),.own 13 0 0])]),(8,rI v13.fr),(9,rI v13.to),(10,rI v13.id),(11,.row 1 (Ls v13.cs)),(12,rI (s26.2.2.1++[v35])),(13,.mix 1 [])]),14⟩) (Q1x [(0,0),(1,1),(2,2),(3,3),(4,4),(5,5),(6,6),(7,7),(8,8),(9,9),(10,10),(11,11),(16,12),(13,13)]) (runQ hN fun K hK=>?_)));replace ⟨a37,h⟩:=Q0 h;simp [Qk a37];(repeat refine sdQ ?_);refine hK _ ?_;clear hK K;cases h;exact rn (s':=(s26.1++[v28],s26.2.1++[v30],s26.2.2.1++[v35],s26.2.2.2+1)) hk26 (Q18 14)
  have g27:¬ (s26.2.2.2<m_.on_.n):=gQ;clear g;replace h:=if_r g27 h;refine Qg (tx (lx (bh ?_)));cases h;exact jn (b:=(s26.1,s26.2.1,s26.2.2.1)) hk26 (Q1x [(3,0),(4,1),(5,2),(6,3),(7,4),(8,5),(9,6),(10,7),(11,8),(12,9),(13,10)])
 intro b14 hb14;have h:=h14;try rw [← hb14] at h
 clear h14;try dsimp only at h
 refine Q1 (Q1 (runQ hN fun K hK=>?_));simp;repeat refine sdQ ?_
 refine hK _ (tn (Q4 (st':=⟨Yl b14 [(15,iV 0)],Yq (Yx m_ b14 v13 [(10,.mix 1 [])]),11⟩) (Q18 11) ?_));clear hK K;replace ⟨e38,h,h38⟩:=bind_some h;refine Qe (fun b38:List (List Int)=>⟨[(6,.adr 0 0 0),(11,.adr 1 0 0)],Yq ((1,.mix 7 [(Y0d v13 [.own 6 0 b14.2.2.length,.own 7 0 b38.length])])::Yu v13 [(6,rI b14.2.2),(7,.row 1 (Ls b38))]),8⟩) (fun b38=>b38=e38) ?_ ?_
 ·refine Q5 (Qn h (fun s84:List (List Int) × Int=>⟨Yl b14 [(15,iV s84.2)],Y6 m_ b14 v13 s84 [],11⟩) (Q4c ⟨Yl b14 [(15,iV 0)],Yq (Yx m_ b14 v13 [(10,.row 1 (Ls []))]),11⟩ (Wk.nils [] (by simp) (by simp) (by simp [nlA]) (by simp [Q6b,entN_mm,entN_mr,nlL,nlA,Cat.cells,SF.cells,XMonoidal.cells,UA,U1,IA,I1,LA,L1,BA,B1,EA,E1,E2,eB,eI,eL,Qd _ Q6 _ (fun _=>rfl)]) (by simp)) (Q18 11)) ?_);clear h;intro k84 s84 c84 h hk84;refine Q1 (Q1 (runQ hN fun K hK=>?_));simp;repeat refine sdQ ?_
  refine hK _ ?_;clear hK K;refine tn (Q7 rfl (fun g=>?_) fun g=>?_)
  ·have g85:s84.2<(m_.on_.fr.length:Int):=gQ;clear g;replace h:=if_l g85 h;refine Q8 (tn (Q1 (Q5 (Q1 (runQ hN fun K hK=>?_)))));replace ⟨a86,h⟩:=Q0 h;replace ⟨a87,h⟩:=Q0 h;simp [at_I a86,at_I a87];(repeat refine sdQ ?_);refine hK _ ?_;clear hK K;refine tn (Q4 (st':=⟨Yl b14 (YN s84 m_ []),Y6 m_ b14 v13 s84 [],11⟩) (Q18 11) (Q1 (runQ hN fun K hK=>?_)));replace ⟨a88,h⟩:=Q0 h;replace ⟨a89,h⟩:=Q0 h;simp [at_I a88];(repeat refine sdQ ?_);refine hK _ ?_;clear hK K;refine tn (Q4 (st':=⟨Yl b14 (YN s84 m_ [(18,.own 11 0 ((List.replicate ((ix b14.2.2 (ix m_.on_.fr s84.2)).toNat) 0).length))]),Y6 m_ b14 v13 s84 [(11,rI (List.replicate ((ix b14.2.2 (ix m_.on_.fr s84.2)).toNat) 0))],12⟩) (Q1x [(0,0),(1,1),(2,2),(3,3),(4,4),(5,5),(6,6),(7,7),(8,8),(9,9),(10,10),(12,11)]) (Q1 (Q1 (runQ hN fun K hK=>?_))));simp;(repeat refine sdQ ?_);refine hK _ (tn (Q4 (st':=⟨Yl b14 (YN s84 m_ [(18,.own 11 0 ((List.replicate ((ix b14.2.2 (ix m_.on_.fr s84.2)).toNat) 0).length)),(19,iV 0)]),Y6 m_ b14 v13 s84 [(11,rI (List.replicate ((ix b14.2.2 (ix m_.on_.fr s84.2)).toNat) 0))],12⟩) (Q18 12) ?_));clear hK K;replace ⟨e90,h,h90⟩:=bind_some h
   refine Qe (fun b90:List Int=>⟨Yl b14 [(15,iV s84.2),(18,.own 11 0 b90.length)],Y6 m_ b14 v13 s84 [(11,rI b90)],12⟩) (fun b90=>b90=e90) ?_ ?_
   ·refine Q5 (Qn h (fun s109:List Int × Int=>⟨Yl b14 (YN s84 m_ [(18,.own 11 0 s109.1.length),(19,iV s109.2)]),Y6 m_ b14 v13 s84 [(11,rI s109.1)],12⟩) (Q18 12) ?_);clear h;intro k109 s109 c109 h hk109;refine Q1 (Q1 (runQ hN fun K hK=>?_));replace ⟨a110,h⟩:=Q0 h;simp [at_E (c:=eL) a110];(repeat refine sdQ ?_);refine hK _ ?_;clear hK K;refine tn (Q7 rfl (fun g=>?_) fun g=>?_)
    ·have g111:s109.2<((gx b14.1 (ix m_.on_.fr s84.2)).length:Int):=gQ;clear g;replace h:=if_l g111 h;refine Q8 (tn (Q1 (Q5 (Q1 (runQ hN fun K hK=>?_)))));replace ⟨a112,h⟩:=Q0 h;replace ⟨a113,h⟩:=Q0 h;simp [at_E (c:=eL) a112,at_L a113];(repeat refine sdQ ?_);refine hK _ ?_;clear hK K;refine tn (Q4 (st':=⟨Yl b14 (YN s84 m_ [(18,.own 11 0 s109.1.length),(19,iV s109.2),(20,.own 13 0 ((rx (gx b14.1 (ix m_.on_.fr s84.2)) s109.2).length))]),Y6 m_ b14 v13 s84 [(11,rI s109.1),(12,.ali 2 ((ix m_.on_.fr s84.2).toNat) 0 1),(13,.ali 12 s109.2.toNat 0 1)],14⟩) (Q1x [(0,0),(1,1),(2,2),(3,3),(4,4),(5,5),(6,6),(7,7),(8,8),(9,9),(10,10),(11,11),(14,13),(13,12)]) (runQ hN fun K hK=>?_));replace ⟨a114,h⟩:=Q0 h;replace ⟨a115,h⟩:=Q0 h;replace ⟨a116,h⟩:=Q0 h;replace ⟨a117,h⟩:=Q0 h;replace ⟨a118,h⟩:=Q0 h;replace ⟨a119,h⟩:=Q0 h;replace ⟨a120,h⟩:=Q0 h;simp [at_L a114,at_I a115,at_L a116,at_E (c:=eL) a117,at_E (c:=eL) a112,at_L a113,(show (Is (rx (gx b14.1 (ix m_.on_.fr s84.2)) s109.2))[0]? = some [iV (ix (rx (gx b14.1 (ix m_.on_.fr s84.2)) s109.2) 0)] from at_I (j:=0) a118),(show (Is (rx (gx b14.1 (ix m_.on_.fr s84.2)) s109.2))[1]? = some [iV (ix (rx (gx b14.1 (ix m_.on_.fr s84.2)) s109.2) 1)] from at_I (j:=1) a119),(show (Is (rx (gx b14.1 (ix m_.on_.fr s84.2)) s109.2))[2]? = some [iV (ix (rx (gx b14.1 (ix m_.on_.fr s84.2)) s109.2) 2)] from at_I (j:=2) a120)];(repeat with_reducible refine sdQ ?_);replace ⟨v121,hv121,h⟩:=bind_some h;refine Q2 (Q4Y _ _ _ v121 hv121) (.cons (.aggL (.cons .val (.cons .lst (.cons .lst (.cons .lst (.cons .lst .nil)))))) (.cons .val (.cons .val .nil))) ?_;replace ⟨a122,h⟩:=Q0 h;replace ⟨a123,h⟩:=Q0 h;simp [at_L a114,at_I a115,at_L a116,at_E (c:=eL) a117,at_E (c:=eL) a112,at_L a113,(show (Is (rx (gx b14.1 (ix m_.on_.fr s84.2)) s109.2))[3]? = some [iV (ix (rx (gx b14.1 (ix m_.on_.fr s84.2)) s109.2) 3)] from at_I (j:=3) a122),(show (Is (rx (gx b14.1 (ix m_.on_.fr s84.2)) s109.2))[4]? = some [iV (ix (rx (gx b14.1 (ix m_.on_.fr s84.2)) s109.2) 4)] from at_I (j:=4) a123)];(repeat with_reducible refine sdQ ?_);replace ⟨v124,hv124,h⟩:=bind_some h
     refine Q2 (Q3z _ _ v124 hv124) (.cons (.whole (by simp [at_E (c:=eL) a117,eL]) (by simp) (by simp [at_E (c:=eL) a117,eL])) (.cons (.lits (es:=_) rfl (.cons rfl (.cons .val .nil) (.cons rfl (.cons .val .nil) (.cons rfl (.cons .val .nil) (.cons rfl (.cons .val .nil) (.cons rfl (.cons .val .nil) .nil))))) rfl) .nil)) ?_;replace ⟨a125,h⟩:=Q0 h;replace ⟨a126,h⟩:=Q0 h;simp [at_L a114,at_I a115,at_L a116,at_E (c:=eL) a117,at_E (c:=eL) a112,at_L a113,at_I a125,at_I a126];(repeat refine sdQ ?_);refine hK _ ?_;clear hK K;refine bn (tn (Q4 (st':=⟨Yl b14 (YN s84 m_ [(18,.own 11 0 ((s109.1.set ((ix (rx b14.2.1 (ix m_.on_.fr s84.2)) s109.2).toNat) (ix (rx b14.2.1 (ix m_.on_.to s84.2)) v124)).length)),(19,iV s109.2)]),Y6 m_ b14 v13 s84 [(11,rI (s109.1.set ((ix (rx b14.2.1 (ix m_.on_.fr s84.2)) s109.2).toNat) (ix (rx b14.2.1 (ix m_.on_.to s84.2)) v124)))],12⟩) (Q18 12) (runQ hN fun K hK=>?_)));replace ⟨a127,h⟩:=Q0 h;simp [Qk a127];(repeat refine sdQ ?_);refine hK _ ?_;clear hK K;cases h;exact rn (s':=(s109.1.set ((ix (rx b14.2.1 (ix m_.on_.fr s84.2)) s109.2).toNat) (ix (rx b14.2.1 (ix m_.on_.to s84.2)) v124),s109.2+1)) hk109 (Q18 12)
    have g111:¬ (s109.2<((gx b14.1 (ix m_.on_.fr s84.2)).length:Int)):=gQ;clear g;replace h:=if_r g111 h;refine Qg (tx (lx (bh ?_)));cases h;exact jn (b:=s109.1) hk109 (Q18 12)
   intro b90 hb90;have h:=h90;(try rw [← hb90] at h);clear h90;(try dsimp only at h);refine runQ hN fun K hK=>?_;replace ⟨a128,h⟩:=Q0 h;(try simp only [List.length_append,List.length_cons,List.length_nil] at a128);simp [a128];(repeat refine sdQ ?_);refine hK _ ?_;clear hK K;refine bn (tn (Q4 (st':=⟨Yl b14 [(15,iV s84.2)],Yq [(1,.mix 5 [(Cat.cells true m_.on_)]),(2,.row 1 (Es eL b14.1)),(3,.mix 1 (Ls b14.2.1)),(4,.mix 7 [(Y0h v13 [.own 9 0 b14.2.2.length,.own 10 0 ((s84.1++[b90]).length)])]),(5,rI v13.fr),(6,rI v13.to),(7,rI v13.id),(8,.row 1 (Ls v13.cs)),(9,rI b14.2.2),(10,.row 1 (Ls (s84.1++[b90])))],11⟩) (Q1x [(0,0),(1,1),(2,2),(3,3),(4,4),(5,5),(6,6),(7,7),(8,8),(9,9),(13,10)]) (runQ hN fun K hK=>?_)));replace ⟨a129,h⟩:=Q0 h;simp [Qk a129];(repeat refine sdQ ?_);refine hK _ ?_;clear hK K;cases h;exact rn (s':=(s84.1++[b90],s84.2+1)) hk84 (Q18 11)
  have g85:¬ (s84.2<(m_.on_.fr.length:Int)):=gQ;clear g;replace h:=if_r g85 h;refine Qg (tx (lx (bh ?_)));cases h;exact jn (b:=s84.1) hk84 (Q1x [(0,0),(4,1),(5,2),(6,3),(7,4),(8,5),(9,6),(10,7)])
 intro b38 hb38;have h:=h38;try rw [← hb38] at h
 clear h38;try dsimp only at h
 refine Q1 (runQ hN fun K hK=>?_);simp;repeat refine sdQ ?_
 refine hK _ (tn (Q4 (st':=⟨[(6,.adr 0 0 0),(7,iV 0)],[(0,.mix 7 [[iV v13.n,.own 1 0 v13.fr.length,.own 2 0 v13.to.length,.own 3 0 v13.id.length,.own 4 0 v13.cs.length,.own 5 0 b14.2.2.length,.own 6 0 b38.length]]),(1,rI v13.fr),(2,rI v13.to),(3,rI v13.id),(4,.row 1 (Ls v13.cs)),(5,rI b14.2.2),(6,.row 1 (Ls b38))],7⟩) (Q1x [(0,0),(2,1),(3,2),(4,3),(5,4),(6,5),(7,6)]) (Qf ?_)));clear hK K;have hr:=Option.some.inj h;rw [← hr];refine ⟨_,(.cell Q5a rfl rfl rfl (by simp) (by simp) (.tmp .nil)),?_⟩;refine ⟨(.agg rfl (.one rfl rfl .nil)),[iV v13.n,lI v13.fr,lI v13.to,lI v13.id,.lst true 1 (Ls v13.cs),lI b14.2.2,.lst true 1 (Ls b38),iV 0],[1,2,3,4,5,6],by simp [Cat.cells,SF.cells,XMonoidal.cells,UA,U1,IA,I1,LA,L1,BA,B1,EA,E1,E2,eB,eI,eL,Qd _ Q6 _ (fun _=>rfl)],by simp,(UpL.refl _)⟩
section
attribute [local simp] Qa Qy Qq QK Qu
noncomputable def dT (m:XMonoidal) (f g:SF) (z:Int):Int:=top (dC m f g z) (dL m f g z).length
noncomputable def mvD (m:XMonoidal) (a:Nat) (t:List Int):List Int:=[ix t 0,ix t 1,ix (rx m.on_.cs (ix t 2)) a,ix t 3,ix t 4]
noncomputable def vR (m:XMonoidal) (f g:SF) (a i:Nat):Int:=ix (dC m f g (toN m.on_ a)) (psL m f g (toN m.on_ a) (mvD m a (rx (dL m f g (frN m.on_ a)) i)))
noncomputable def dR (m:XMonoidal) (f g:SF) (a:Nat):List Int:=img (dC m f g (frN m.on_ a)) (vR m f g a) (List.replicate (dT m f g (frN m.on_ a)).toNat 0) (dL m f g (frN m.on_ a)).length
def OKd (m:XMonoidal) (f g:SF):Prop:=∀ z:Nat,z<m.on_.id.length→(dL m f g z).length≤256∧dT m f g z≤16
def errD (k:Int):SF × Int:=((⟨(⟨0,[],[],[],[]⟩:Cat),[],[]⟩:SF),k)
noncomputable def dayV (m:XMonoidal) (f g:SF):SF × Int:=((⟨m.on_,tab m.on_.id.length (fun z=>dT m f g z),tab m.on_.fr.length (dR m f g)⟩:SF),0)
theorem Q68 (m:XMonoidal) (f g:SF) (z:Int):(dC m f g z).length=(dL m f g z).length:=by simp [dC,cls]
section
variable {m:XMonoidal} {f g:SF} (h:DP m f g)
include h
theorem DP.rle (z:Int) {i:Nat} (hi:i<(dL m f g z).length):0≤ix (dC m f g z) i∧ix (dC m f g z) i≤i:=by
 have q:=RR_ok (h.prsS z) i hi;unfold dC;rw [cls_at hi];have:=cn_le (RR (qS m f g z)) (RR (qS m f g z) i);omega
theorem DP.dT_b (z:Int):0≤dT m f g z∧∀ i:Nat,i<(dL m f g z).length→0≤ix (dC m f g z) i∧ix (dC m f g z) i<dT m f g z :=
 ⟨top_nn _ _,fun i hi=>⟨(h.rle z hi).1,top_gt _ hi⟩⟩
theorem DP.e_dT (z:Int) (hN:(dL m f g z).length≤256):Q1W (dC m f g z)=some (dT m f g z)∧QO (dC m f g z)=some (dT m f g z):=by
 have l:=Q68 m f g z;have b:∀ i:Nat,i<(dC m f g z).length→0≤ix (dC m f g z) i∧ix (dC m f g z) i≤1000000:=fun i hi=>by
  have:=h.rle z (i:=i) (by omega);omega
 rw [e_top (m:=0) (by omega) b,e_parts (by omega) b,l];exact ⟨rfl,rfl⟩
theorem DP.mv {a i:Nat} (ha:a<m.on_.fr.length) (hi:i<(dL m f g (frN m.on_ a)).length):(rx (dL m f g (frN m.on_ a)) i).length=5∧(0≤ix (rx (dL m f g (frN m.on_ a)) i) 2∧ix (rx (dL m f g (frN m.on_ a)) i) 2<(m.on_.fr.length:Int))∧mvD m a (rx (dL m f g (frN m.on_ a)) i)∈dL m f g (toN m.on_ a):=by
 obtain ⟨x,y,k,e,d,hx,hy,hk,he,hd,q⟩:=mem_dL.1 (Q7x hi);rw [q];exact ⟨rfl,hk.1,mem_dL.2 ⟨x,y,_,e,d,hx,hy,Ar.two h.c hk (h.ar ha),he,hd,rfl⟩⟩
theorem e_sDay:Q16 m f g=some (if bo (OKd m f g)=true then dayV m f g else errD 3):=by
 have n:=h.c.nums;unfold Q16 Q2r Q1V Q3q;rw [Q6N,Qm h.hm,Qm h.hf,Qm h.hg,Qm h.ef,Qm h.eg];simp only [Option.bind_some,not_true_eq_false,if_false,Bool.not_true,Bool.false_eq_true];rw [Q3 h.c.ok];simp only [Option.bind_some];refine Q1h (σ:=List (List (List Int)) × List (List Int) × List Int × Int) (Q:=fun o=>o=some (if bo (OKd m f g)=true then dayV m f g else errD 3)) m.on_.id.length
  (fun i s=>s=(tab i (fun z=>dL m f g z),tab i (fun z=>dC m f g z),tab i (fun z=>dT m f g z),(i:Int))∧∀ z:Nat,z<i→(dL m f g z).length≤256∧dT m f g z≤16)
  (fun e=>(e=Sum.inl (tab m.on_.id.length (fun z=>dL m f g z),tab m.on_.id.length (fun z=>dC m f g z),tab m.on_.id.length (fun z=>dT m f g z))∧OKd m f g)∨(e=Sum.inr (errD 3)∧¬ OKd m f g)) (by omega) ⟨by simp [Q21],fun z hz=>by omega⟩ ?_ ?_ ?_
 ·rintro i s hi ⟨rfl,hz⟩
  simp only;rw [if_pos (by omega),e_l35Ent h];simp only [Option.bind_some]
  by_cases q1:(dL m f g i).length≤256
  case neg=>rw [if_pos (by omega)];exact .inr ⟨_,rfl,.inr ⟨rfl,fun z=>q1 (z i hi).1⟩⟩
  rw [if_neg (by omega),e_l35Cls h _ q1];simp only [Option.bind_some];rw [(h.e_dT i q1).1];simp only [Option.bind_some]
  by_cases q2:dT m f g i≤16
  case neg=>rw [if_pos (by omega)];exact .inr ⟨_,rfl,.inr ⟨rfl,fun z=>q2 (z i hi).2⟩⟩
  rw [if_neg (by omega),Q3 (by simp;omega),Q3 (by simp;omega),Q3 (by simp;omega),Q3 (by unfold B64;omega)];refine .inl ⟨_,rfl,by rw [Q11,Q11,Q11];push_cast;rfl,fun z hz'=>?_⟩
  by_cases e:z=i
  ·rw [e];exact ⟨q1,q2⟩
  exact hz z (by omega)
 ·rintro s ⟨rfl,hz⟩
  simp only;rw [if_neg (by omega)];exact ⟨_,rfl,.inl ⟨rfl,hz⟩⟩
 rintro e (⟨rfl,ok⟩|⟨rfl,ok⟩)
 case inr=>rw [Qj ok];rfl
 rw [Qm ok];simp only [if_true];refine QC m.on_.fr.length (fun a=>tab a (dR m f g)) (e:=tab m.on_.fr.length (dR m f g)) (by simp [Q21]) (by omega) (fun a ha=>?_) (by simp only;rw [if_neg (by omega)]) rfl;obtain ⟨a1,a2,a3,a4⟩:=Q1F h.c ha;obtain ⟨b1,b2⟩:=ok _ a2;obtain ⟨c1,c2⟩:=ok _ a4;have T:=h.dT_b (frN m.on_ a);have l1:=Q68 m f g (frN m.on_ a);have l2:=Q68 m f g (toN m.on_ a);simp only;rw [if_pos (by omega),a1,a3,Q3 (by omega),Q3 (by omega),Q3 (by simp;omega),Q4g _ _ a2,Q3 (by omega),Q7M _ a2,Q7M _ a4,rx_tab _ a2,rx_tab _ a4];refine QC (dL m f g (frN m.on_ a)).length (fun i=>img (dC m f g (frN m.on_ a)) (vR m f g a) (List.replicate (dT m f g (frN m.on_ a)).toNat 0) i) (e:=dR m f g a) rfl (by omega) (fun i hi=>?_) (by simp only;rw [Q3 (by simp;omega),if_neg (by omega)];rfl) ?_
 ·obtain ⟨m1,m2,m3⟩:=h.mv ha hi;obtain ⟨p1,p2,p3⟩:=h.ps m3;have T1:=T.2 i hi;simp only;rw [Q3 (by simp;omega),if_pos (by omega),Q3 (by simp;omega),Q3 (by omega),Q3 (by simp;omega),Q3 (by omega),Q3 (by simp;omega),Q3 (by simp;omega),Q3 (by omega),Q3 (by omega),Q3 (by omega),(Q4E h.c m2 (by omega)).1];simp only [Option.bind_some];rw [Q3 (by omega),Q3 (by omega),e_find (by omega),show [ix (rx (dL m f g (frN m.on_ a)) i) 0,ix (rx (dL m f g (frN m.on_ a)) i) 1,ix (rx m.on_.cs (ix (rx (dL m f g (frN m.on_ a)) i) 2)) a,ix (rx (dL m f g (frN m.on_ a)) i) 3,ix (rx (dL m f g (frN m.on_ a)) i) 4]=mvD m a (rx (dL m f g (frN m.on_ a)) i) from rfl,p2];simp only [Option.bind_some];rw [Q3 (by omega),Q3 (by simp;omega),Q3 (by unfold B64;omega)];rfl
 rw [Q3 (by simp;omega),Q3 (by unfold B64;omega),Q11]
theorem e_iDay:Q15 m f g=some (if bo (OKd m f g)=true then dayV m f g else errD 3):=by
 have n:=h.c.nums;unfold Q15 QR QZ Q1o;rw [Q39,Qm h.hm,Q3 (by simp),Qm (show ∀ s∈[f,g],s.Is by simp [h.hf,h.hg]),Q3 (by omega),Qm h.ef.symm,Qm h.eg.symm,Q3 (by omega)];simp only [Option.bind_some,not_true_eq_false,if_false,Bool.not_true,Bool.false_eq_true];rw [Q3 h.c.ok];simp only [Option.bind_some];refine Q1h (σ:=List Int × List XDayAt × Int) (Q:=fun o=>o=some (if bo (OKd m f g)=true then dayV m f g else errD 3)) m.on_.id.length
  (fun i s=>s=(tab i (fun z=>dT m f g z),tab i (fun z=>(⟨dL m f g z,plL (dL m f g z),dC m f g z⟩:XDayAt)),(i:Int))∧∀ z:Nat,z<i→(dL m f g z).length≤256)
  (fun e=>(e=Sum.inl (tab m.on_.id.length (fun z=>dT m f g z),tab m.on_.id.length (fun z=>(⟨dL m f g z,plL (dL m f g z),dC m f g z⟩:XDayAt)))∧∀ z:Nat,z<m.on_.id.length→(dL m f g z).length≤256)∨(e=Sum.inr (errD 3)∧¬ OKd m f g)) (by omega) ⟨by simp [Q21],fun z hz=>by omega⟩ ?_ ?_ ?_
 ·rintro i s hi ⟨rfl,hz⟩
  simp only;rw [if_pos (by omega),Q8h h];simp only [Option.bind_some]
  by_cases q1:(dL m f g i).length≤256
  case neg=>rw [if_neg q1];exact .inr ⟨_,rfl,.inr ⟨rfl,fun z=>q1 (z i hi).1⟩⟩
  rw [if_pos q1];simp only;rw [Q3 (by simp;omega),(h.e_dT i q1).2];simp only [Option.bind_some];rw [Q3 (by simp;omega),Q3 (by unfold B64;omega)];refine .inl ⟨_,rfl,by rw [Q11,Q11];push_cast;rfl,fun z hz'=>?_⟩
  by_cases e:z=i
  ·rw [e];exact q1
  exact hz z (by omega)
 ·rintro s ⟨rfl,hz⟩
  simp only;rw [if_neg (by omega)];exact ⟨_,rfl,.inl ⟨rfl,hz⟩⟩
 rintro e (⟨rfl,ok1⟩|⟨rfl,ok⟩)
 case inr=>rw [Qj ok];rfl
 simp only;have fit:Q2n (tab m.on_.id.length (fun z=>dT m f g z))=some (bo (OKd m f g)):=by
  unfold Q2n Q2j;rw [Q3 (by unfold B64;omega)];simp only [Option.bind_some];cases q:(tab m.on_.id.length (fun z=>dT m f g z)).all (inR 17) with
  | true =>
   rw [Qm];intro z hz;have:=all_inR.1 q z (by simpa using hz);rw [Q4g _ _ hz] at this;exact ⟨ok1 z hz,by omega⟩
  | false =>
   rw [Qj];intro ok;have:(tab m.on_.id.length (fun z=>dT m f g z)).all (inR 17)=true:=all_inR.2 fun j hj=>by
    have hj':j<m.on_.id.length:=(by simpa using hj);rw [Q4g _ _ hj'];have:=(ok j hj').2;have:=(h.dT_b j).1;omega
   rw [this] at q;cases q
 rw [fit];simp only [Option.bind_some]
 by_cases ok:OKd m f g
 case neg=>rw [Qj ok];rfl
 rw [Qm ok,if_neg (Q1O rfl)];simp only [if_true];refine QC m.on_.fr.length (fun a=>tab a (dR m f g)) (e:=tab m.on_.fr.length (dR m f g)) (by simp [Q21]) (by omega) (fun a ha=>?_) (by simp only;rw [if_neg (by omega)]) rfl;obtain ⟨a1,a2,a3,a4⟩:=Q1F h.c ha;obtain ⟨b1,b2⟩:=ok _ a2;obtain ⟨c1,c2⟩:=ok _ a4;have T:=h.dT_b (frN m.on_ a);have l1:=Q68 m f g (frN m.on_ a);have l2:=Q68 m f g (toN m.on_ a);simp only;rw [if_pos (by omega),a1,a3,Q3 (by omega),Q3 (by simp;omega),Q3 (by omega),Q3 (by simp;omega),Q3 (by omega),Q3 (by simp;omega),Q4g _ _ a2,Q3 (by omega),Q7M _ a2,Q7M _ a4];simp only;refine QC (dL m f g (frN m.on_ a)).length (fun i=>img (dC m f g (frN m.on_ a)) (vR m f g a) (List.replicate (dT m f g (frN m.on_ a)).toNat 0) i) (e:=dR m f g a) rfl (by omega) (fun i hi=>?_) (by simp only;rw [if_neg (by omega)];rfl) ?_
 ·obtain ⟨m1,m2,m3⟩:=h.mv ha hi;obtain ⟨p1,p2,p3⟩:=h.ps m3;have T1:=T.2 i hi;simp only;rw [if_pos (by omega),Q3 (by omega),Q3 (by omega),Q3 (by omega),Q3 (by omega),Q3 (by omega),(Q4E h.c m2 (by omega)).2];simp only [Option.bind_some];rw [Q3 (by omega),Q3 (by omega),show [ix (rx (dL m f g (frN m.on_ a)) i) 0,ix (rx (dL m f g (frN m.on_ a)) i) 1,ix (rx m.on_.cs (ix (rx (dL m f g (frN m.on_ a)) i) 2)) a,ix (rx (dL m f g (frN m.on_ a)) i) 3,ix (rx (dL m f g (frN m.on_ a)) i) 4]=mvD m a (rx (dL m f g (frN m.on_ a)) i) from rfl,e_key (by simp [mvD])];simp only [Option.bind_some];rw [p3];simp only [Option.getD_some];rw [Q3 (by omega),Q3 (by simp;omega),Q3 (by unfold B64;omega)];rfl
 rw [Q3 (by simp;omega),Q3 (by unfold B64;omega),Q11]
theorem dayV_ok (ok:OKd m f g):(dayV m f g).1.ok∧(dayV m f g).1.size≤1000000:=by
 have n:=h.c.nums;have c1:=h.c.ok;have c2:=h.c.size;have r:∀ x∈tab m.on_.fr.length (dR m f g),x.length≤16:=by
  intro x hx;obtain ⟨a,ha,rfl⟩:=Q75 hx;have:=(ok _ (Q1F h.c ha).2.1).2;simp [dR];omega
 have s:=sumL_bnd r;simp only [Q1X] at s;refine ⟨⟨c1,by simp [dayV];omega,by simp [dayV];omega,fun x hx=>by have:=r x hx;omega,by simp only [dayV];omega⟩,?_⟩;simp only [dayV,SF.size,Q1X];omega
end
theorem Q6P (k:Int):(errD k).1.ok∧(errD k).1.size≤1000000:=by simp [errD,SF.ok,SF.size,Cat.ok,Cat.size,sumL]
theorem Q6q (m:XMonoidal) (f g:SF):∃ r,Q16 m f g=some r∧Q15 m f g=some r∧r.1.ok∧r.1.size≤1000000:=by
 by_cases h0:m.Is∧f.Is∧g.Is
 case neg =>
  refine ⟨errD 1,?_,?_,Q6P 1⟩
  ·unfold Q16 Q2r;rw [Q6N]
   by_cases h1:m.Is
   case neg=>rw [Qj h1];rfl
   by_cases h2:f.Is
   case neg=>rw [Qm h1,Qj h2];rfl
   have h3:¬ g.Is:=fun q=>h0 ⟨h1,h2,q⟩;rw [Qm h1,Qm h2,Qj h3];rfl
  unfold Q15 QR;rw [Q39,Q3 (by simp)]
  by_cases h1:m.Is
  case neg=>rw [Qj h1];rfl
  have h3:¬ ∀ s∈[f,g],s.Is:=fun q=>h0 ⟨h1,q f (by simp),q g (by simp)⟩;rw [Qm h1,Qj h3];rfl
 obtain ⟨h1,h2,h3⟩:=h0;have n:=h1.pre.c.nums
 by_cases h4:f.s=m.on_∧g.s=m.on_
 case neg =>
  refine ⟨errD 5,?_,?_,Q6P 5⟩
  ·unfold Q16 Q2r Q1V;rw [Q6N,Qm h1,Qm h2,Qm h3]
   by_cases q:f.s=m.on_
   case neg=>rw [Qj q];rfl
   rw [Qm q,Qj (fun t=>h4 ⟨q,t⟩)];rfl
  unfold Q15 QR QZ;rw [Q39,Q3 (by simp),Qm h1,Qm (show ∀ s∈[f,g],s.Is by simp [h2,h3]),Q3 (by omega)]
  by_cases q:f.s=m.on_
  case neg=>rw [Qj (fun t=>q t.symm)];rfl
  rw [Qm q.symm,Q3 (by omega),Qj (fun t=>h4 ⟨q,t.symm⟩)];rfl
 have h:DP m f g:=⟨h1,h2,h3,h4.1,h4.2⟩;refine ⟨_,e_sDay h,e_iDay h,?_⟩
 by_cases ok:OKd m f g
 ·rw [Qm ok,if_pos rfl];exact dayV_ok h ok
 rw [Qj ok];exact Q6P 3
end
end Go.Vc.T
