/- A part of the proof. -/
import Derived.Test.YtbanpimdoabfmaaH9
set_option maxRecDepth 100000
set_option maxHeartbeats 4000000
set_option linter.unusedSimpArgs false
set_option linter.unusedVariables false
set_option linter.unusedSectionVars false
set_option linter.unnecessarySimpa false

open Option.some renaming inj→yJ
open List renaming getD_eq_getElem?_getD→qB
open Option renaming bind_some→yA
open Sum renaming inl→yK
open Sum renaming inr→yL
open Go.Vc.Ctl renaming ret→yM
open List renaming length_append→qD
open Go.Vc.Ctl renaming next→yO
open Int renaming eq_ofNat_of_zero_le→yT
open List renaming length_cons→qH
open List renaming length_nil→zX
open List renaming replicate→zL
noncomputable section
namespace Go.Vc.T
open Go Go.Vc Go.Proofs
attribute [local simp] unk unA unE unT unC flat eL eI Qc QS Cat.cells
def Q2c(rel_:List (List Int)):Option Cat:=
 (Qo (σ:=List (List Int)×List Int×List Int×Int) (ε:=List (List Int)×List Int×List Int) (λs25=>
  if s25.2.2.2<(rel_.length:Int)then
   (Qo (σ:=List Int×List Int×List Int×Int) (ε:=List Int×List Int×List Int) (λs37=>
    if s37.2.2.2<(rel_.length:Int)then
     (
      ass ((s37.2.2.1++[(s37.1.length:Int)]).length≤1073741824)<|
      ass (0≤s25.2.2.2∧s25.2.2.2<(rel_.length:Int))<|
      ass (0≤s37.2.2.2∧s37.2.2.2<((rx rel_ s25.2.2.2).length:Int))<|
      if(ix (rx rel_ s25.2.2.2) s37.2.2.2)=1 then
       ass ((s37.1++[s25.2.2.2]).length≤1073741824)<|
       ass ((s37.2.1++[s37.2.2.2]).length≤1073741824)<|
       some (s37.1++[s25.2.2.2],s37.2.1++[s37.2.2.2])
      else
       some (s37.1,s37.2.1):Option (List Int×List Int)).bind λb39=>
     ass (B64 (s37.2.2.2+1))<|
     some (yO (b39.1,b39.2,s37.2.2.1++[(s37.1.length:Int)],s37.2.2.2+1))
    else
     some (yM (s37.1,s37.2.1,s37.2.2.1))) fuel (s25.2.1,s25.2.2.1,[],0)).bind λb27=>
   ass ((s25.1++[b27.2.2]).length≤1073741824)<|
   ass (B64 (s25.2.2.2+1))<|
   some (yO (s25.1++[b27.2.2],b27.1,b27.2.1,s25.2.2.2+1))
  else
   some (yM (s25.1,s25.2.1,s25.2.2.1))) fuel ([],[],[],0)).bind λb1=>
 (Qo (σ:=List Int×Int) (ε:=List Int) (λs55=>
  if s55.2<(rel_.length:Int)then
   ass (0≤s55.2∧s55.2<(b1.1.length:Int))<|
   ass (0≤s55.2∧s55.2<((rx b1.1 s55.2).length:Int))<|
   ass ((s55.1++[ix (rx b1.1 s55.2) s55.2]).length≤1073741824)<|
   ass (B64 (s55.2+1))<|
   some (yO (s55.1++[ix (rx b1.1 s55.2) s55.2],s55.2+1))
  else
   some (yM s55.1)) fuel ([],0)).bind λb49=>
 (Qo (σ:=List (List Int)×Int) (ε:=List (List Int)) (λs89=>
  if s89.2<(b1.2.1.length:Int)then
   (Qo (σ:=List Int×Int) (ε:=List Int) (λs103=>
    if s103.2<(b1.2.1.length:Int)then
     ass (0≤s89.2∧s89.2<(b1.2.2.length:Int))<|
     ass (0≤s103.2∧s103.2<(b1.2.1.length:Int))<|
     (
      if(ix b1.2.2 s89.2)=(ix b1.2.1 s103.2)then
       ass (0≤s89.2∧s89.2<(b1.2.1.length:Int))<|
       ass (0≤ix b1.2.1 s89.2∧ix b1.2.1 s89.2<(b1.1.length:Int))<|
       ass (0≤s103.2∧s103.2<(b1.2.2.length:Int))<|
       ass (0≤ix b1.2.2 s103.2∧ix b1.2.2 s103.2<((rx b1.1 (ix b1.2.1 s89.2)).length:Int))<|
       some (ix (rx b1.1 (ix b1.2.1 s89.2)) (ix b1.2.2 s103.2))
      else
       some (-1):Option (Int)).bind λb107=>
     ass ((s103.1++[b107]).length≤1073741824)<|
     ass (B64 (s103.2+1))<|
     some (yO (s103.1++[b107],s103.2+1))
    else
     some (yM s103.1)) fuel ([],0)).bind λb91=>
   ass ((s89.1++[b91]).length≤1073741824)<|
   ass (B64 (s89.2+1))<|
   some (yO (s89.1++[b91],s89.2+1))
  else
   some (yM s89.1)) fuel ([],0)).bind λb61=>
 some (⟨(rel_.length:Int),b1.2.1,b1.2.2,b49,b61⟩:Cat)
@[simp] abbrev Y0P(a:List (List Int))(b:List (List Int)×List Int×List Int)(c:List (AV)):List (AV):=iV (a.length:Int)::.own 3 0 b.2.1.length::.own 4 0 b.2.2.length::c
@[simp] abbrev Yf(a:List (List Int)×List Int×List Int)(b:List (List Int))(c:List Int)(d:List (List Int)×Int)(e:List (Nat×Ent)):List (Nat×Ent):=(0,.mix 5 [[iV 0,nS,nS,nS,nS]])::(1,.row 1 (Ls a.1))::(2,.mix 5 [(Y0P b a [.own 5 0 c.length,.own 6 0 d.1.length])])::(3,rI a.2.1)::(4,rI a.2.2)::(5,rI c)::(6,.row 1 (Ls d.1))::e
@[simp] abbrev Yq(a:List (List Int))(b:List (Nat×AV)):List (Nat×AV):=(0,.lst true 1 (Ls a))::(2,.adr 0 0 0)::b
@[simp] abbrev Yx(a:List (Nat×Ent)):List (Nat×Ent):=(0,.mix 5 [[iV 0,nS,nS,nS,nS]])::a
@[simp] abbrev YI(a:List (List Int)×List Int×List Int)(b:List (Nat×AV)):List (Nat×AV):=(4,.own 1 0 a.1.length)::(5,.adr 2 0 0)::b
@[simp] abbrev YK(a:List (List Int))(b:List (List Int)×List Int×List Int×Int)(c:List (Nat×AV)):List (Nat×AV):=(3,iV (a.length:Int))::(4,.own 1 0 b.1.length)::(5,.adr 2 0 0)::(6,iV b.2.2.2)::c
@[simp] abbrev Y0T(a:List (AV)):List (AV):=.own 5 0 0::.own 6 0 0::a
@[simp] abbrev YL(a:List (List Int)×List Int×List Int×Int)(b:List (List Int))(c:List (Nat×Ent)):List (Nat×Ent):=(1,.row 1 (Ls a.1))::(2,.mix 5 [(iV (b.length:Int)::.own 3 0 a.2.1.length::.own 4 0 a.2.2.1.length::Y0T [])])::(3,rI a.2.1)::(4,rI a.2.2.1)::(5,.mix 1 [])::(6,.mix 1 [])::c
@[simp] abbrev YW(a:List (Nat×Ent)):List (Nat×Ent):=(5,.mix 1 [])::(6,.mix 1 [])::a
@[simp] abbrev Y08(a:List (List Int)×List Int×List Int)(b:List (List Int))(c:List Int)(d:List (Nat×Ent)):List (Nat×Ent):=(1,.row 1 (Ls a.1))::(2,.mix 5 [(Y0P b a [.own 5 0 c.length,.own 6 0 0])])::(3,rI a.2.1)::(4,rI a.2.2)::(5,rI c)::d
@[simp] abbrev Y0c(a:List (List Int)×List Int×List Int)(b:List (List Int))(c:List (Nat×Ent)):List (Nat×Ent):=(1,.row 1 (Ls a.1))::(2,.mix 5 [(Y0P b a (Y0T []))])::(3,rI a.2.1)::(4,rI a.2.2)::c
@[simp] abbrev Y0G(a:List (List Int))(b:List (Nat×Ent)):List (Nat×Ent):=(2,.mix 5 [(iV (a.length:Int)::.own 3 0 0::.own 4 0 0::Y0T [])])::b
theorem Q5n(rel_:List (List Int))(r:Cat)(h:Q2c rel_=some r):Contract Try.prog 145 (Y0W rel_ []) (.agg (r.cells true)):=by
 refine Q6 (rvs:=[.cell 2 27]) (rs:=[.agg (r.cells true)]) Try.func145 rfl rfl rfl rfl (by simp[Try.f145]) λF hN hP=>?_;unfold Q2c at h;refine Q0 (runQ hN λK hK=>?_);simp;repeat refine sdQ ?_
 refine hK _ ?_;clear hK K;refine tn (Q2 (st':=⟨Yq rel_ [],Yx [],1⟩) (wkQ [(0,0)]) (Q0 (runQ hN λK hK=>?_)));simp;repeat refine sdQ ?_
 refine hK _ ?_;clear hK K;refine tn (Q2 (st':=⟨Yq rel_ [(3,iV (rel_.length:Int))],Yx [],1⟩) (wkQ [(0,0)]) (Q0 (runQ hN λK hK=>?_)));simp;repeat refine sdQ ?_
 refine hK _ ?_;clear hK K;refine tn (Q2 (st':=⟨Yq rel_ [(3,iV (rel_.length:Int)),(4,.own 1 0 0)],Yx [(1,.mix 1 [])],2⟩) (wkQ [(0,0),(1,1)]) (Q0 (runQ hN λK hK=>?_)));simp;repeat refine sdQ ?_
 refine hK _ ?_;clear hK K;refine tn (Q2 (st':=⟨Yq rel_ [(3,iV (rel_.length:Int)),(4,.own 1 0 0),(5,.adr 2 0 0)],Yx ((1,.mix 1 [])::Y0G rel_ ((3,.mix 1 [])::(4,.mix 1 [])::YW [])),7⟩) (wkQ [(0,0),(1,1),(6,2),(2,3),(3,4),(4,5),(5,6)]) (Q0 (Q0 (runQ hN λK hK=>?_))));simp;repeat refine sdQ ?_
 refine hK _ (tn (Q2 (st':=⟨Yq rel_ [(3,iV (rel_.length:Int)),(4,.own 1 0 0),(5,.adr 2 0 0),(6,iV 0)],Yx ((1,.mix 1 [])::Y0G rel_ ((3,.mix 1 [])::(4,.mix 1 [])::YW [])),7⟩) (wkI 7) ?_));clear hK K;replace⟨e1,h,h1⟩:=bind_some h;refine Q9 (λb1:List (List Int)×List Int×List Int=>⟨YA ((3,iV (rel_.length:Int))::YI b1 []),Yx (Y0c b1 rel_ (YW [])),7⟩) (λb1=>b1=e1) ?_ ?_
 ·refine Q5 (Qj h (λs25:List (List Int)×List Int×List Int×Int=>⟨Yq rel_ (YK rel_ s25 []),Yx (YL s25 rel_ []),7⟩) (Q2Y ⟨Yq rel_ [(3,iV (rel_.length:Int)),(4,.own 1 0 0),(5,.adr 2 0 0),(6,iV 0)],Yx ((1,.row 1 (Ls []))::Y0G rel_ ((3,rI [])::(4,rI [])::YW [])),7⟩ (nlQ []) (wkI 7)) ?_);clear h;intro k25 s25 c25 h hk25;refine Q0 (Q0 (runQ hN λK hK=>?_));simp;repeat refine sdQ ?_
  refine hK _ ?_;clear hK K;refine tn (Q7 rfl (λg=>?_) λg=>?_)
  ·have g26:s25.2.2.2<(rel_.length:Int):=gQ;clear g;replace h:=if_l g26 h;refine Q8 (tn (Q0 (Q5 (Q0 (runQ hN λK hK=>?_)))));simp;(repeat refine sdQ ?_);refine hK _ ?_;clear hK K;refine tn (Q2 (st':=⟨Yq rel_ (YK rel_ s25 [(7,.own 7 0 0)]),Yx (YL s25 rel_ [(7,.mix 1 [])]),8⟩) (wkI 8) (Q0 (Q0 (runQ hN λK hK=>?_))));simp;(repeat refine sdQ ?_);refine hK _ (tn (Q2 (st':=⟨Yq rel_ (YK rel_ s25 [(7,.own 7 0 0),(8,iV 0)]),Yx (YL s25 rel_ [(7,.mix 1 [])]),8⟩) (wkI 8) ?_));clear hK K;replace⟨e27,h,h27⟩:=bind_some h;refine Q9 (λb27:List Int×List Int×List Int=>⟨Yq rel_ (YK rel_ s25 [(7,.own 7 0 b27.2.2.length)]),Yx ((1,.row 1 (Ls s25.1))::(2,.mix 5 [(iV (rel_.length:Int)::.own 3 0 b27.1.length::.own 4 0 b27.2.1.length::Y0T [])])::(3,rI b27.1)::(4,rI b27.2.1)::YW [(7,rI b27.2.2)]),8⟩) (λb27=>b27=e27) ?_ ?_
   ·refine Q5 (Qj h (λs37:List Int×List Int×List Int×Int=>⟨Yq rel_ (YK rel_ s25 [(7,.own 7 0 s37.2.2.1.length),(8,iV s37.2.2.2)]),Yx ((1,.row 1 (Ls s25.1))::(2,.mix 5 [(iV (rel_.length:Int)::.own 3 0 s37.1.length::.own 4 0 s37.2.1.length::Y0T [])])::(3,rI s37.1)::(4,rI s37.2.1)::YW [(7,rI s37.2.2.1)]),8⟩) (Q2Y ⟨Yq rel_ (YK rel_ s25 [(7,.own 7 0 0),(8,iV 0)]),Yx (YL s25 rel_ [(7,rI [])]),8⟩ (nlQ []) (wkI 8)) ?_);clear h;intro k37 s37 c37 h hk37;refine Q0 (Q0 (runQ hN λK hK=>?_));simp;(repeat refine sdQ ?_);refine hK _ ?_;clear hK K;refine tn (Q7 rfl (λg=>?_) λg=>?_)
    ·have g38:s37.2.2.2<(rel_.length:Int):=gQ;clear g;replace h:=if_l g38 h;refine Q8 (tn (Q0 ?_));replace⟨e39,h,h39⟩:=bind_some h;refine Q9 (λb39:List Int×List Int=>⟨Yq rel_ (YK rel_ s25 [(7,.own 7 0 ((s37.2.2.1++[(s37.1.length:Int)]).length)),(8,iV s37.2.2.2)]),Yx ((1,.row 1 (Ls s25.1))::(2,.mix 5 [(iV (rel_.length:Int)::.own 3 0 b39.1.length::.own 4 0 b39.2.length::Y0T [])])::(3,rI b39.1)::(4,rI b39.2)::YW [(7,rI (s37.2.2.1++[(s37.1.length:Int)]))]),8⟩) (λb39=>b39=e39) ?_ ?_
     ·refine Q5 (Q0 (runQ hN λK hK=>?_));replace⟨a40,h⟩:=Q1 h;(try simp only[qD,qH,zX]at a40);simp[a40];(repeat refine sdQ ?_);refine hK _ ?_;clear hK K;refine tn (Q2 (st':=⟨Yq rel_ (YK rel_ s25 [(7,.own 7 0 ((s37.2.2.1++[(s37.1.length:Int)]).length)),(8,iV s37.2.2.2)]),Yx ((1,.row 1 (Ls s25.1))::(2,.mix 5 [(iV (rel_.length:Int)::.own 3 0 s37.1.length::.own 4 0 s37.2.1.length::Y0T [])])::(3,rI s37.1)::(4,rI s37.2.1)::YW [(7,rI (s37.2.2.1++[(s37.1.length:Int)]))]),8⟩) (wkQ [(0,0),(1,1),(2,2),(3,3),(4,4),(5,5),(6,6),(9,7)]) (Q0 (runQ hN λK hK=>?_)));replace⟨a41,h⟩:=Q1 h;replace⟨a42,h⟩:=Q1 h;simp[at_L a41,at_I a42];(repeat refine sdQ ?_);refine hK _ ?_;clear hK K;refine tn (Q7 rfl (λg=>?_) λg=>?_)
      ·have g43:(ix (rx rel_ s25.2.2.2) s37.2.2.2)=1:=gQ;clear g;replace h:=if_l g43 h;refine Q0 (runQ hN λK hK=>?_);replace⟨a44,h⟩:=Q1 h;(try simp only[qD,qH,zX]at a44);simp[a44];(repeat refine sdQ ?_);refine hK _ ?_;clear hK K;refine tn (Q2 (st':=⟨Yq rel_ (YK rel_ s25 [(7,.own 7 0 ((s37.2.2.1++[(s37.1.length:Int)]).length)),(8,iV s37.2.2.2)]),Yx ((1,.row 1 (Ls s25.1))::(2,.mix 5 [(iV (rel_.length:Int)::.own 3 0 ((s37.1++[s25.2.2.2]).length)::.own 4 0 s37.2.1.length::Y0T [])])::(3,rI (s37.1++[s25.2.2.2]))::(4,rI s37.2.1)::YW [(7,rI (s37.2.2.1++[(s37.1.length:Int)]))]),8⟩) (wkQ [(0,0),(1,1),(2,2),(9,3),(4,4),(5,5),(6,6),(7,7)]) (runQ hN λK hK=>?_));replace⟨a45,h⟩:=Q1 h;(try simp only[qD,qH,zX]at a45);simp[a45];(repeat refine sdQ ?_);refine hK _ (bn ?_);clear hK K;exact jn (b:=(s37.1++[s25.2.2.2],s37.2.1++[s37.2.2.2])) (yJ h) (wkQ [(0,0),(1,1),(2,2),(3,3),(9,4),(5,5),(6,6),(7,7)])
      have g43:¬((ix (rx rel_ s25.2.2.2) s37.2.2.2)=1):=gQ;clear g;replace h:=if_r g43 h;refine Q8 (bn ?_);exact jn (b:=(s37.1,s37.2.1)) (yJ h) (wkI 8)
     intro b39 hb39;have h:=h39;(try rw[←hb39]at h);clear h39;(try dsimp only at h);refine runQ hN λK hK=>?_;replace⟨a46,h⟩:=Q1 h;simp[Qh a46];(repeat refine sdQ ?_);refine hK _ ?_;clear hK K;cases h;exact rn (s':=(b39.1,b39.2,s37.2.2.1++[(s37.1.length:Int)],s37.2.2.2+1)) hk37 (wkI 8)
    have g38:¬(s37.2.2.2<(rel_.length:Int)):=gQ;clear g;replace h:=if_r g38 h;refine Ql (tx (lx (bh ?_)));cases h;exact jn (b:=(s37.1,s37.2.1,s37.2.2.1)) hk37 (wkI 8)
   intro b27 hb27;have h:=h27;(try rw[←hb27]at h);clear h27;(try dsimp only at h);refine runQ hN λK hK=>?_;replace⟨a47,h⟩:=Q1 h;(try simp only[qD,qH,zX]at a47);simp[a47];(repeat refine sdQ ?_);refine hK _ ?_;clear hK K;refine bn (tn (Q2 (st':=⟨Yq rel_ [(3,iV (rel_.length:Int)),(4,.own 1 0 ((s25.1++[b27.2.2]).length)),(5,.adr 2 0 0),(6,iV s25.2.2.2)],Yx ((1,.row 1 (Ls (s25.1++[b27.2.2])))::(2,.mix 5 [(iV (rel_.length:Int)::.own 3 0 b27.1.length::.own 4 0 b27.2.1.length::Y0T [])])::(3,rI b27.1)::(4,rI b27.2.1)::YW []),7⟩) (wkQ [(0,0),(9,1),(2,2),(3,3),(4,4),(5,5),(6,6)]) (runQ hN λK hK=>?_)));replace⟨a48,h⟩:=Q1 h;simp[Qh a48];(repeat refine sdQ ?_);refine hK _ ?_;clear hK K;cases h;exact rn (s':=(s25.1++[b27.2.2],b27.1,b27.2.1,s25.2.2.2+1)) hk25 (wkI 7)
  have g26:¬(s25.2.2.2<(rel_.length:Int)):=gQ;clear g;replace h:=if_r g26 h;refine Ql (tx (lx (bh ?_)));cases h;exact jn (b:=(s25.1,s25.2.1,s25.2.2.1)) hk25 (wkI 7)
 intro b1 hb1;have h:=h1;try rw[←hb1]at h
 clear h1;try dsimp only at h
 refine Q0 (Q0 (runQ hN λK hK=>?_));simp;repeat refine sdQ ?_
 refine hK _ (tn (Q2 (st':=⟨YA ((3,iV (rel_.length:Int))::YI b1 [(9,iV 0)]),Yx (Y0c b1 rel_ (YW [])),7⟩) (wkI 7) ?_));clear hK K;replace⟨e49,h,h49⟩:=bind_some h;refine Q9 (λb49:List Int=>⟨YA (YI b1 []),Yx (Y08 b1 rel_ b49 [(6,.mix 1 [])]),7⟩) (λb49=>b49=e49) ?_ ?_
 ·refine Q5 (Qj h (λs55:List Int×Int=>⟨YA ((3,iV (rel_.length:Int))::YI b1 [(9,iV s55.2)]),Yx [(1,.row 1 (Ls b1.1)),(2,.mix 5 [(Y0P rel_ b1 [.own 5 0 s55.1.length,.own 6 0 0])]),(3,rI b1.2.1),(4,rI b1.2.2),(5,rI s55.1),(6,.mix 1 [])],7⟩) (Q2Y ⟨YA ((3,iV (rel_.length:Int))::YI b1 [(9,iV 0)]),Yx (Y0c b1 rel_ [(5,rI []),(6,.mix 1 [])]),7⟩ (nlQ []) (wkI 7)) ?_);clear h;intro k55 s55 c55 h hk55;refine Q0 (Q0 (runQ hN λK hK=>?_));simp;repeat refine sdQ ?_
  refine hK _ ?_;clear hK K;refine tn (Q7 rfl (λg=>?_) λg=>?_)
  ·have g56:s55.2<(rel_.length:Int):=gQ;clear g;replace h:=if_l g56 h;refine Q8 (tn (Q0 (Q5 (runQ hN λK hK=>?_))));replace⟨a57,h⟩:=Q1 h;replace⟨a58,h⟩:=Q1 h;replace⟨a59,h⟩:=Q1 h;(try simp only[qD,qH,zX]at a59);simp[at_L a57,at_I a58,a59];(repeat refine sdQ ?_);refine hK _ ?_;clear hK K;refine bn (tn (Q2 (st':=⟨YA ((3,iV (rel_.length:Int))::YI b1 [(9,iV s55.2)]),Yx [(1,.row 1 (Ls b1.1)),(2,.mix 5 [(Y0P rel_ b1 [.own 5 0 ((s55.1++[ix (rx b1.1 s55.2) s55.2]).length),.own 6 0 0])]),(3,rI b1.2.1),(4,rI b1.2.2),(5,rI (s55.1++[ix (rx b1.1 s55.2) s55.2])),(6,.mix 1 [])],7⟩) (wkQ [(0,0),(1,1),(2,2),(3,3),(4,4),(10,5),(6,6)]) (runQ hN λK hK=>?_)));replace⟨a60,h⟩:=Q1 h;simp[Qh a60];(repeat refine sdQ ?_);refine hK _ ?_;clear hK K;cases h;exact rn (s':=(s55.1++[ix (rx b1.1 s55.2) s55.2],s55.2+1)) hk55 (wkI 7)
  have g56:¬(s55.2<(rel_.length:Int)):=gQ;clear g;replace h:=if_r g56 h;refine Ql (tx (lx (bh ?_)));cases h;exact jn (b:=s55.1) hk55 (wkI 7)
 intro b49 hb49;have h:=h49;try rw[←hb49]at h
 clear h49;try dsimp only at h
 refine Q0 (Q0 (runQ hN λK hK=>?_));simp;repeat refine sdQ ?_
 refine hK _ (tn (Q2 (st':=⟨YA (YI b1 [(10,iV 0)]),Yx (Y08 b1 rel_ b49 [(6,.mix 1 [])]),7⟩) (wkI 7) ?_));clear hK K;replace⟨e61,h,h61⟩:=bind_some h;refine Q9 (λb61:List (List Int)=>⟨YA [(5,.adr 1 0 0)],Yx [(1,.mix 5 [[iV (rel_.length:Int),.own 2 0 b1.2.1.length,.own 3 0 b1.2.2.length,.own 4 0 b49.length,.own 5 0 b61.length]]),(2,rI b1.2.1),(3,rI b1.2.2),(4,rI b49),(5,.row 1 (Ls b61))],6⟩) (λb61=>b61=e61) ?_ ?_
 ·refine Q5 (Qj h (λs89:List (List Int)×Int=>⟨YA (YI b1 [(10,iV s89.2)]),Yf b1 rel_ b49 s89 [],7⟩) (Q2Y ⟨YA (YI b1 [(10,iV 0)]),Yx (Y08 b1 rel_ b49 [(6,.row 1 (Ls []))]),7⟩ (nlQ []) (wkI 7)) ?_);clear h;intro k89 s89 c89 h hk89;refine Q0 (Q0 (runQ hN λK hK=>?_));simp;repeat refine sdQ ?_
  refine hK _ ?_;clear hK K;refine tn (Q7 rfl (λg=>?_) λg=>?_)
  ·have g90:s89.2<(b1.2.1.length:Int):=gQ;clear g;replace h:=if_l g90 h;refine Q8 (tn (Q0 (Q5 (Q0 (runQ hN λK hK=>?_)))));simp;(repeat refine sdQ ?_);refine hK _ ?_;clear hK K;refine tn (Q2 (st':=⟨YA (YI b1 [(10,iV s89.2),(11,.own 7 0 0)]),Yf b1 rel_ b49 s89 [(7,.mix 1 [])],8⟩) (wkI 8) (Q0 (Q0 (runQ hN λK hK=>?_))));simp;(repeat refine sdQ ?_);refine hK _ (tn (Q2 (st':=⟨YA (YI b1 [(10,iV s89.2),(11,.own 7 0 0),(12,iV 0)]),Yf b1 rel_ b49 s89 [(7,.mix 1 [])],8⟩) (wkI 8) ?_));clear hK K;replace⟨e91,h,h91⟩:=bind_some h;refine Q9 (λb91:List Int=>⟨YA (YI b1 [(10,iV s89.2),(11,.own 7 0 b91.length)]),Yf b1 rel_ b49 s89 [(7,rI b91)],8⟩) (λb91=>b91=e91) ?_ ?_
   ·refine Q5 (Qj h (λs103:List Int×Int=>⟨YA (YI b1 [(10,iV s89.2),(11,.own 7 0 s103.1.length),(12,iV s103.2)]),Yf b1 rel_ b49 s89 [(7,rI s103.1)],8⟩) (Q2Y ⟨YA (YI b1 [(10,iV s89.2),(11,.own 7 0 0),(12,iV 0)]),Yf b1 rel_ b49 s89 [(7,rI [])],8⟩ (nlQ []) (wkI 8)) ?_);clear h;intro k103 s103 c103 h hk103;refine Q0 (Q0 (runQ hN λK hK=>?_));simp;(repeat refine sdQ ?_);refine hK _ ?_;clear hK K;refine tn (Q7 rfl (λg=>?_) λg=>?_)
    ·have g104:s103.2<(b1.2.1.length:Int):=gQ;clear g;replace h:=if_l g104 h;refine Q8 (tn (Q0 (Q5 (Q0 (runQ hN λK hK=>?_)))));simp;(repeat refine sdQ ?_);refine hK _ ?_;clear hK K;refine tn (Q2 (st':=⟨YA (YI b1 [(10,iV s89.2),(11,.own 7 0 s103.1.length),(12,iV s103.2),(13,iV (-1))]),Yf b1 rel_ b49 s89 [(7,rI s103.1)],8⟩) (wkI 8) (Q0 (Q0 (runQ hN λK hK=>?_))));replace⟨a105,h⟩:=Q1 h;replace⟨a106,h⟩:=Q1 h;simp[at_I a105,at_I a106];(repeat refine sdQ ?_);refine hK _ (tn ?_);clear hK K;replace⟨e107,h,h107⟩:=bind_some h;refine Q9 (λb107:Int=>⟨YA (YI b1 [(10,iV s89.2),(11,.own 7 0 s103.1.length),(12,iV s103.2),(13,iV b107)]),Yf b1 rel_ b49 s89 [(7,rI s103.1)],8⟩) (λb107=>b107=e107) ?_ ?_
     ·refine Q7 rfl (λg=>?_) λg=>?_
      ·have g108:(ix b1.2.2 s89.2)=(ix b1.2.1 s103.2):=gQ;clear g;replace h:=if_l g108 h;refine runQ hN λK hK=>?_;replace⟨a109,h⟩:=Q1 h;replace⟨a110,h⟩:=Q1 h;replace⟨a111,h⟩:=Q1 h;replace⟨a112,h⟩:=Q1 h;simp[at_I a109,at_L a110,at_I a111,at_I a112];(repeat refine sdQ ?_);refine hK _ ?_;clear hK K;exact jn (b:=ix (rx b1.1 (ix b1.2.1 s89.2)) (ix b1.2.2 s103.2)) (yJ h) (wkI 8)
      have g108:¬((ix b1.2.2 s89.2)=(ix b1.2.1 s103.2)):=gQ;clear g;replace h:=if_r g108 h;refine Q8 ?_;exact jn (b:=(-1)) (yJ h) (wkI 8)
     intro b107 hb107;have h:=h107;(try rw[←hb107]at h);clear h107;(try dsimp only at h);refine runQ hN λK hK=>?_;replace⟨a113,h⟩:=Q1 h;(try simp only[qD,qH,zX]at a113);simp[a113];(repeat refine sdQ ?_);refine hK _ ?_;clear hK K;refine bn (tn (Q2 (st':=⟨YA (YI b1 [(10,iV s89.2),(11,.own 7 0 ((s103.1++[b107]).length)),(12,iV s103.2)]),Yf b1 rel_ b49 s89 [(7,rI (s103.1++[b107]))],8⟩) (wkQ [(0,0),(1,1),(2,2),(3,3),(4,4),(5,5),(6,6),(9,7)]) (runQ hN λK hK=>?_)));replace⟨a114,h⟩:=Q1 h;simp[Qh a114];(repeat refine sdQ ?_);refine hK _ ?_;clear hK K;cases h;exact rn (s':=(s103.1++[b107],s103.2+1)) hk103 (wkI 8)
    have g104:¬(s103.2<(b1.2.1.length:Int)):=gQ;clear g;replace h:=if_r g104 h;refine Ql (tx (lx (bh ?_)));cases h;exact jn (b:=s103.1) hk103 (wkI 8)
   intro b91 hb91;have h:=h91;(try rw[←hb91]at h);clear h91;(try dsimp only at h);refine runQ hN λK hK=>?_;replace⟨a115,h⟩:=Q1 h;(try simp only[qD,qH,zX]at a115);simp[a115];(repeat refine sdQ ?_);refine hK _ ?_;clear hK K;refine bn (tn (Q2 (st':=⟨YA (YI b1 [(10,iV s89.2)]),Yx [(1,.row 1 (Ls b1.1)),(2,.mix 5 [(Y0P rel_ b1 [.own 5 0 b49.length,.own 6 0 ((s89.1++[b91]).length)])]),(3,rI b1.2.1),(4,rI b1.2.2),(5,rI b49),(6,.row 1 (Ls (s89.1++[b91])))],7⟩) (wkQ [(0,0),(1,1),(2,2),(3,3),(4,4),(5,5),(9,6)]) (runQ hN λK hK=>?_)));replace⟨a116,h⟩:=Q1 h;simp[Qh a116];(repeat refine sdQ ?_);refine hK _ ?_;clear hK K;cases h;exact rn (s':=(s89.1++[b91],s89.2+1)) hk89 (wkI 7)
  have g90:¬(s89.2<(b1.2.1.length:Int)):=gQ;clear g;replace h:=if_r g90 h;refine Ql (tx (lx (bh ?_)));cases h;exact jn (b:=s89.1) hk89 (wkQ [(0,0),(2,1),(3,2),(4,3),(5,4),(6,5)])
 intro b61 hb61;have h:=h61;try rw[←hb61]at h
 clear h61;try dsimp only at h
 refine Q0 (runQ hN λK hK=>?_);simp;repeat refine sdQ ?_
 refine hK _ (tn (Q2 (st':=⟨YA [],[(0,.mix 5 [[iV (rel_.length:Int),.own 1 0 b1.2.1.length,.own 2 0 b1.2.2.length,.own 3 0 b49.length,.own 4 0 b61.length]]),(1,rI b1.2.1),(2,rI b1.2.2),(3,rI b49),(4,.row 1 (Ls b61))],5⟩) (wkQ [(0,0),(2,1),(3,2),(4,3),(5,4)]) (Qe ?_)));clear hK K;have hr:=yJ h;rw[←hr];refine⟨_,(.cell tf_27 rfl rfl rfl (by simp) (by simp) .nil),?_⟩;refine⟨(.agg rfl .nil),[iV (rel_.length:Int),lI b1.2.1,lI b1.2.2,lI b49,.lst true 1 (Ls b61)],[1,2,3,4],by simp[BN],by simp,(UpL.refl _)⟩
section
attribute [local simp] Qi QP Qv Q1l QN
theorem Q95{p:List Int}{f:Int}{i:Nat}(h:i<p.length):ix (p++[f]) i=ix p i:=by simp[ix,qB,List.getElem?_append,h]
theorem Q94{p:List Int}{f:Int}{i:Nat}(h:i=p.length):ix (p++[f]) i=f:=by subst h;simp[ix,qB]
structure PoP(rel:List (List Int))(n:Nat)(D:Nat→Nat→Prop)(fr to:List Int):Prop where
 lt:to.length=fr.length
 rg:∀k:Nat,k<fr.length→(0≤ix fr k∧ix fr k<n)∧(0≤ix to k∧ix to k<n)∧Rl rel (ix fr k) (ix to k)
 ex:∀i j:Nat,D i j→Rl rel i j→∃k:Nat,k<fr.length∧ix fr k=i∧ix to k=j
theorem PoP.skip{rel:List (List Int)}{n:Nat}{D D':Nat→Nat→Prop}{fr to:List Int}(h:PoP rel n D fr to){i j:Nat}(hr:¬Rl rel i j)(hD:∀a b,D' a b→D a b∨(a=i∧b=j)):PoP rel n D' fr to:=
 ⟨h.lt,h.rg,λa b hab hr2=>by
  rcases hD a b hab with h1|⟨rfl,rfl⟩
  ·exact h.ex a b h1 hr2
  exact absurd hr2 hr⟩
theorem PoP.snoc{rel:List (List Int)}{n:Nat}{D D':Nat→Nat→Prop}{fr to:List Int}(h:PoP rel n D fr to){i j:Nat}(hi:i<n)(hj:j<n)(hr:Rl rel i j)(hD:∀a b,D' a b→D a b∨(a=i∧b=j)):PoP rel n D' (fr++[(i:Int)]) (to++[(j:Int)]):=by
 have lt:=h.lt;refine⟨by simp[lt],λk hk=>?_,λa b hab hr2=>?_⟩
 ·simp at hk
  by_cases hkl:k<fr.length
  ·rw[Q95 hkl,Q95 (by omega)];exact h.rg k hkl
  rw[Q94 (by omega),Q94 (by omega)];exact⟨by omega,by omega,hr⟩
 rcases hD a b hab with h1|⟨rfl,rfl⟩
 ·obtain⟨k,k1,k2,k3⟩:=h.ex a b h1 hr2;exact⟨k,by simp;omega,by rw[Q95 k1];exact k2,by rw[Q95 (by omega)];exact k3⟩
 exact⟨fr.length,by simp,Q94 rfl,Q94 (by omega)⟩
structure PosQ(rel:List (List Int))(n:Nat)(c:Cat):Prop where
 n_:c.n=n
 bd:c.fr.length≤100*n
 p:PoP rel n (λa b=>a<n∧b<n) c.fr c.to
set_option maxHeartbeats 1000000 in
theorem g_poset{rel:List (List Int)}{n:Nat}(h:Sqr rel n)(hn:n≤100):Gd (Q2c rel) (PosQ rel n):=by
 have hl:=h.1;unfold Q2c;refine Gd.bind (P:=λr=>Sqr r.1 n∧r.2.1.length≤100*n∧PoP rel n (λa b=>a<n∧b<n) r.2.1 r.2.2) (Gd.loop n (λi s=>s.2.2.2=(i:Int)∧s.1.length=i∧(∀r∈s.1,r.length=n)∧s.2.1.length≤100*i∧PoP rel n (λa b=>a<i∧b<n) s.2.1 s.2.2.1) (by omega) ⟨rfl,rfl,λr hr=>(by cases hr),(by simp),⟨rfl,λk hk=>by simp at hk,λi j hij=>by omega⟩⟩ λi s hi hs=>?_) λb hb=>?_
 ·obtain⟨rows,fr,to,c⟩:=s;obtain⟨h1,h2,h3,h4,h5⟩:=hs;simp only at h1 h2 h3 h4 h5⊢;subst h1;refine Gd.ite (λh6=>?_) λh6=>Gd.som ?_
  ·have hin:i<n:=(by omega);have hrow:=h.row (i:=(i:Int)) (by omega);refine Gd.bind (P:=λr=>r.2.2.length=n∧r.1.length≤100*(i+1)∧PoP rel n (λa b=>a<i+1∧b<n) r.1 r.2.1) (Gd.loop n (λj s=>s.2.2.2=(j:Int)∧s.2.2.1.length=j∧s.1.length≤100*i+j∧PoP rel n (λa b=>a<i∧b<n∨a=i∧b<j) s.1 s.2.1) (by omega) ⟨rfl,rfl,h4,⟨h5.lt,h5.rg,λa b hab=>h5.ex a b (by omega)⟩⟩ λj s hj hs=>?_) λr hr=>?_
   ·obtain⟨fr,to,row,c⟩:=s;obtain⟨g1,g2,g3,g4⟩:=hs;simp only at g1 g2 g3 g4⊢;subst g1;refine Gd.ite (λh7=>?_) λh7=>Gd.som ?_
    ·have hjn:j<n:=(by omega);refine Gd.bind (P:=λr=>r.1.length≤100*i+(j+1)∧PoP rel n (λa b=>a<i∧b<n∨a=i∧b<j+1) r.1 r.2) ?_ λr hr=>Gd.ass (by unfold B64;omega) (Gd.som ⟨by omega,rfl,by simp[g2],hr.1,hr.2⟩);refine Gd.ass (by simp;omega) (Gd.ass ⟨by omega,hrow.1⟩ (Gd.ass ⟨by omega,by omega⟩ (Gd.ite (λh8=>?_) λh8=>?_)))
     ·have lt:=g4.lt;refine Gd.ass (by simp;omega) (Gd.ass (by simp;omega) (Gd.som ⟨by simp;omega,g4.snoc hin hjn h8 λa b hab=>by omega⟩))
     exact Gd.som ⟨by show fr.length≤_;omega,g4.skip h8 λa b hab=>by omega⟩
    exact⟨by show row.length=n;omega,by show fr.length≤_;omega,g4.lt,g4.rg,λa b hab=>g4.ex a b (by omega)⟩
   obtain⟨hr1,hr2,hr3⟩:=hr;refine Gd.ass (by simp;omega) (Gd.ass (by unfold B64;omega) (Gd.som ⟨hin,rfl,by simpa using h2,λx hx=>?_,hr2,hr3⟩));rcases List.mem_append.1 hx with h|h
   ·exact h3 x h
   rw[List.mem_singleton.1 h];exact hr1
  have hin:i=n:=by omega
  subst hin;exact⟨⟨h2,h3⟩,h4,h5⟩
 obtain⟨rows,fr,to⟩:=b;obtain⟨hb1,hb2,hb3⟩:=hb;simp only at hb1 hb2 hb3⊢;have lt:=hb3.lt;refine Gd.bind (P:=λ_=>True) (Gd.loop n (λi s=>s.2=(i:Int)∧s.1.length=i) (by omega) ⟨rfl,rfl⟩ λi s hi hs=>?_) λids _=>?_
 ·obtain⟨xs,c⟩:=s;obtain⟨g1,g2⟩:=hs;simp only at g1 g2⊢;subst g1;refine Gd.ite (λh6=>?_) λh6=>Gd.som trivial;have hrow:=hb1.row (i:=(i:Int)) (by omega);exact Gd.ass ⟨by omega,hrow.1⟩ (Gd.ass ⟨by omega,by omega⟩ (Gd.ass (by simp;omega) (Gd.ass (by unfold B64;omega) (Gd.som ⟨by omega,rfl,by simpa using g2⟩))))
 refine Gd.bind (P:=λ_=>True) (Gd.loop fr.length (λi s=>s.2=(i:Int)∧s.1.length=i) (by omega) ⟨rfl,rfl⟩ λi s hi hs=>?_) λcs _=>Gd.som ⟨by show(rel.length:Int)=n;omega,hb2,hb3⟩;obtain⟨xs,c⟩:=s;obtain⟨g1,g2⟩:=hs;simp only at g1 g2⊢;subst g1;refine Gd.ite (λh6=>?_) λh6=>Gd.som trivial;refine Gd.bind (P:=λ_=>True) (Gd.loop fr.length (λi s=>s.2=(i:Int)∧s.1.length=i) (by omega) ⟨rfl,rfl⟩ λj s hj hs=>?_) λr _=>Gd.ass (by simp;omega) (Gd.ass (by unfold B64;omega) (Gd.som ⟨by omega,rfl,by simpa using g2⟩));obtain⟨ys,c⟩:=s;obtain⟨g3,g4⟩:=hs;simp only at g3 g4⊢;subst g3;refine Gd.ite (λh7=>?_) λh7=>Gd.som trivial;refine Gd.ass (by omega) (Gd.ass (by omega) (Gd.bind (P:=λ_=>True) (Gd.ite (λh8=>?_) λh8=>Gd.som trivial) λv _=>Gd.ass (by simp;omega) (Gd.ass (by unfold B64;omega) (Gd.som ⟨by omega,rfl,by simpa using g4⟩))));have r1:=hb3.rg i (by omega);have r2:=hb3.rg j (by omega);have hrow:=hb1.row r1.1;exact Gd.ass (by omega) (Gd.ass ⟨r1.1.1,hrow.1⟩ (Gd.ass (by omega) (Gd.ass ⟨r2.2.1.1,by rw[hrow.2];exact r2.2.1.2⟩ (Gd.som trivial))))
end
attribute [local simp] unk unA unE unT unC flat eL eI Qc QS Cat.cells
def Q2W(table_:List (List Int)):Option Cat:=
 ass (0≤(table_.length:Int)∧(table_.length:Int)≤1073741824)<|
 ass (0≤(table_.length:Int)∧(table_.length:Int)≤1073741824)<|
 (Q1z table_).bind λv3=>
 some (⟨1,zL ((table_.length:Int).toNat) (0:Int),zL ((table_.length:Int).toNat) (0:Int),[0],v3⟩:Cat)
theorem Q7i(table_:List (List Int))(r:Cat)(h:Q2W table_=some r):Contract Try.prog 158 (Y0W table_ []) (.agg (r.cells true)):=by
 refine Q6 (rvs:=[.cell 2 27]) (rs:=[.agg (r.cells true)]) Try.func158 rfl rfl rfl rfl (by simp[Try.f158]) λF hN hP=>?_;unfold Q2W at h;refine Q0 (runQ hN λK hK=>?_);simp;repeat refine sdQ ?_
 refine hK _ ?_;clear hK K;refine tn (Q2 (st':=⟨Yq table_ [],Yx [],1⟩) (wkQ [(0,0)]) (Q0 (runQ hN λK hK=>?_)));simp;repeat refine sdQ ?_
 refine hK _ ?_;clear hK K;refine tn (Q2 (st':=⟨Yq table_ [(3,iV (table_.length:Int))],Yx [],1⟩) (wkQ [(0,0)]) (Q0 (runQ hN λK hK=>?_)));replace⟨a1,h⟩:=Q1 h;replace⟨a2,h⟩:=Q1 h;simp;repeat with_reducible refine sdQ ?_
 replace⟨v3,hv3,h⟩:=bind_some h;refine Q3 (Q37 _ v3 hv3) (.cons .lst .nil) ?_;simp;repeat refine sdQ ?_
 refine hK _ (tn (Q2 (st':=⟨YA [],[(0,.mix 5 [[iV 1,.own 1 0 ((zL ((table_.length:Int).toNat) (0:Int)).length),.own 2 0 ((zL ((table_.length:Int).toNat) (0:Int)).length),.own 3 0 1,.own 4 0 v3.length]]),(1,rI (zL ((table_.length:Int).toNat) (0:Int))),(2,rI (zL ((table_.length:Int).toNat) (0:Int))),(3,.mix 1 [[iV 0]]),(4,.row 1 (Ls v3))],5⟩) (wkI 5) (Qe ?_)));clear hK K;have hr:=yJ h;rw[←hr];refine⟨_,(.cell tf_27 rfl rfl rfl (by simp) (by simp) .nil),?_⟩;refine⟨(.agg rfl .nil),[iV 1,lI (zL ((table_.length:Int).toNat) (0:Int)),lI (zL ((table_.length:Int).toNat) (0:Int)),lI [0],.lst true 1 (Ls v3)],[1,2,3,4],by simp[BN],by simp,(UpL.refl _)⟩
attribute [local simp] unk unA unE unT unC flat eL eI Qc QS Qr Cat.cells XMonoidal.cells
def Qx(table_:List (List Int)):Option (XMonoidal×Int):=
 (Q1D table_).bind λv1=>
 if¬(v1=true)then
  some ((⟨(⟨0,[],[],[],[]⟩:Cat),0,[],[]⟩:XMonoidal),1)
 else
  (Qo (σ:=Int) (ε:=Unit⊕(XMonoidal×Int)) (λs8=>
   if s8<(table_.length:Int)then
    (
     (Qo (σ:=Int) (ε:=(XMonoidal×Int)⊕Unit) (λs18=>
      if s18<s8 then
       ass (0≤s8∧s8<(table_.length:Int))<|
       ass (0≤s18∧s18<((rx table_ s8).length:Int))<|
       ass (0≤s18∧s18<(table_.length:Int))<|
       ass (0≤s8∧s8<((rx table_ s18).length:Int))<|
       if¬((ix (rx table_ s8) s18)=(ix (rx table_ s18) s8))then
        some (yM (yK ((⟨(⟨0,[],[],[],[]⟩:Cat),0,[],[]⟩:XMonoidal),5)))
       else
        ass (B64 (s18+1))<|
        some (yO (s18+1))
      else
       some (yM (yL ()))) fuel 0).bind λe18=>
     match e18 with
     | .inl p18=>
      some (yL p18)
     | .inr p18=>
      some (yK p18):Option (Unit⊕(XMonoidal×Int))).bind λe10=>
    match e10 with
    | .inl b10=>
     ass (B64 (s8+1))<|
     some (yO (s8+1))
    | .inr p10=>
     some (yM (yL p10))
   else
    some (yM (yK ()))) fuel 0).bind λe3=>
  match e3 with
  | .inl b3=>
   if(table_.length:Int)>40 then
    some ((⟨(⟨0,[],[],[],[]⟩:Cat),0,[],[]⟩:XMonoidal),3)
   else
    (Q2W table_).bind λv28=>
    (Q1z table_).bind λv29=>
    some ((⟨v28,0,[[0]],v29⟩:XMonoidal),0)
  | .inr p3=>
   some p3
@[simp] abbrev Y9(a:List (Nat×Ent)):List (Nat×Ent):=(0,.mix 8 [(Y0M [])])::a
theorem Q19(table_:List (List Int))(r:XMonoidal×Int)(h:Qx table_=some r):Contract Try.prog 154 (Y0W table_ []) (.tup [.agg (r.1.cells true),iV r.2]):=by
 refine Q6 (rvs:=[.cell 2 48,.tmp 3]) (rs:=[.agg (r.1.cells true),iV r.2]) Try.func154 rfl rfl rfl rfl (by simp[Try.f154]) λF hN hP=>?_;unfold Qx at h;refine Q0 (runQ hN λK hK=>?_);simp;repeat refine sdQ ?_
 refine hK _ ?_;clear hK K;refine tn (Q2 (st':=⟨Yq table_ [],Y9 [],1⟩) (wkQ [(0,0)]) (Q0 (Q0 (runQ hN λK hK=>?_))));simp;repeat with_reducible refine sdQ ?_
 replace⟨v1,hv1,h⟩:=bind_some h;refine Q3 (Q3S _ v1 hv1) (.cons .lst .nil) ?_;simp;repeat refine sdQ ?_
 refine hK _ ?_;clear hK K;refine tn (Q2 (st':=⟨Yq table_ [(8,.val (.bool (!v1)))],Y9 [],1⟩) (wkQ [(0,0)]) (Q7 rfl (λg=>?_) λg=>?_))
 ·have g2:¬(v1=true):=gQ;clear g;replace h:=if_l g2 h;refine Q0 (runQ hN λK hK=>?_);simp;repeat refine sdQ ?_
  refine hK _ (tn (Q2 (st':=⟨YA [(3,iV 1)],Y9 [],1⟩) (wkQ [(0,0)]) (Qe (tr ?_))));clear hK K;have hr:=yJ h;rw[←hr];refine⟨_,(.cell Q3x rfl rfl rfl (by simp) (by simp) (.tmp .nil)),?_⟩;refine⟨(.agg rfl (.one rfl rfl .nil)),[iV 0,nS,nS,nS,nS,iV 0,nS,nS,iV 1],[],by simp[BN],by simp,(.cons .refl (.cons .nil (.cons .nil (.cons .nil (.cons .nil (.cons .refl (.cons .nil (.cons .nil (.cons .refl .nil)))))))))⟩
 have g2:¬(¬(v1=true)):=gQ;clear g;replace h:=if_r g2 h;refine Q8 (tn (Q0 (Q0 (runQ hN λK hK=>?_))));simp;repeat refine sdQ ?_
 refine hK _ (tn (Q2 (st':=⟨Yq table_ [(4,iV 0)],Y9 [],1⟩) (wkQ [(0,0)]) ?_));clear hK K;replace⟨e3,h,h3⟩:=bind_some h;refine Q9 (λb3:Unit=>⟨Yq table_ [],Y9 [],1⟩) (λb3=>yK b3=e3) ?_ ?_
 ·refine Q5 (Qj h (λs8:Int=>⟨Yq table_ [(4,iV s8)],Y9 [],1⟩) (wkQ [(0,0)]) ?_);clear h;intro k8 s8 c8 h hk8;refine Q0 (Q0 (runQ hN λK hK=>?_));simp;repeat refine sdQ ?_
  refine hK _ ?_;clear hK K;refine tn (Q7 rfl (λg=>?_) λg=>?_)
  ·have g9:s8<(table_.length:Int):=gQ;clear g;replace h:=if_l g9 h;refine Q8 (tn (Q0 ?_));replace⟨e10,h,h10⟩:=bind_some h;refine Q9 (λb10:Unit=>⟨Yq table_ [(4,iV s8)],Y9 [],1⟩) (λb10=>yK b10=e10) ?_ ?_
   ·refine Q5 (Q0 (runQ hN λK hK=>?_));simp;(repeat refine sdQ ?_);refine hK _ (tn (Q2 (st':=⟨Yq table_ [(4,iV s8),(5,iV 0)],Y9 [],1⟩) (wkQ [(0,0)]) (Q5 ?_)));clear hK K;replace⟨e18,he18,h18⟩:=bind_some h;refine Qj he18 (λs18:Int=>⟨Yq table_ [(4,iV s8),(5,iV s18)],Y9 [],1⟩) (wkQ [(0,0)]) ?_;intro k18 s18 c18 h hk18;refine Q0 (Q0 (runQ hN λK hK=>?_));simp;(repeat refine sdQ ?_);refine hK _ ?_;clear hK K;refine tn (Q7 rfl (λg=>?_) λg=>?_)
    ·have g19:s18<s8:=gQ;clear g;replace h:=if_l g19 h;refine Q8 (tn (Q0 (Q5 (Q0 (runQ hN λK hK=>?_)))));replace⟨a20,h⟩:=Q1 h;replace⟨a21,h⟩:=Q1 h;replace⟨a22,h⟩:=Q1 h;replace⟨a23,h⟩:=Q1 h;simp[at_L a20,at_I a21,at_L a22,at_I a23];(repeat refine sdQ ?_);refine hK _ ?_;clear hK K;refine tn (Q7 rfl (λg=>?_) λg=>?_)
     ·have g24:¬((ix (rx table_ s8) s18)=(ix (rx table_ s18) s8)):=gQ;clear g;replace h:=if_l g24 h;refine Q0 (runQ hN λK hK=>?_);simp;(repeat refine sdQ ?_);refine hK _ (tn (Q2 (st':=⟨YA [(3,iV 5)],Y9 [],1⟩) (wkQ [(0,0)]) (Qe (br (tr (lr (br (br (tr (lr (br (tr ?_))))))))))));clear hK K;cases h;have q:_=e18:=hk18;have h:=h18;rw[←q]at h;clear q;(try dsimp only at h);cases h;have h:=h10;(try dsimp only at h);cases h;have q:_=e3:=hk8;have h:=h3;rw[←q]at h;clear q;(try dsimp only at h);have hr:=yJ h;rw[←hr];refine⟨_,(.cell Q3x rfl rfl rfl (by simp) (by simp) (.tmp .nil)),?_⟩;refine⟨(.agg rfl (.one rfl rfl .nil)),[iV 0,nS,nS,nS,nS,iV 0,nS,nS,iV 5],[],by simp[BN],by simp,(.cons .refl (.cons .nil (.cons .nil (.cons .nil (.cons .nil (.cons .refl (.cons .nil (.cons .nil (.cons .refl .nil)))))))))⟩
     have g24:¬(¬((ix (rx table_ s8) s18)=(ix (rx table_ s18) s8))):=gQ;clear g;replace h:=if_r g24 h;refine Q8 (bn (tn (runQ hN λK hK=>?_)));replace⟨a25,h⟩:=Q1 h;simp[Qh a25];(repeat refine sdQ ?_);refine hK _ ?_;clear hK K;cases h;exact rn (s':=s18+1) hk18 (wkQ [(0,0)])
    have g19:¬(s18<s8):=gQ;clear g;replace h:=if_r g19 h;refine Ql (tx (lx (bh (bn ?_))));cases h;have q:_=e18:=hk18;have h:=h18;rw[←q]at h;clear q;(try dsimp only at h);exact jn (b:=()) (yJ h) (wkQ [(0,0)])
   intro b10 hb10;have h:=h10;(try rw[←hb10]at h);clear h10;(try dsimp only at h);refine runQ hN λK hK=>?_;replace⟨a26,h⟩:=Q1 h;simp[Qh a26];(repeat refine sdQ ?_);refine hK _ ?_;clear hK K;cases h;exact rn (s':=s8+1) hk8 (wkQ [(0,0)])
  have g9:¬(s8<(table_.length:Int)):=gQ;clear g;replace h:=if_r g9 h;refine Ql (tx (lx (bh ?_)));cases h;exact jn (b:=()) hk8 (wkQ [(0,0)])
 intro b3 hb3;have h:=h3;try rw[←hb3]at h
 clear h3;try dsimp only at h
 refine Q0 (Q0 (runQ hN λK hK=>?_));simp;repeat refine sdQ ?_
 refine hK _ ?_;clear hK K;refine tn (Q7 rfl (λg=>?_) λg=>?_)
 ·have g27:(table_.length:Int)>40:=gQ;clear g;replace h:=if_l g27 h;refine Q0 (runQ hN λK hK=>?_);simp;repeat refine sdQ ?_
  refine hK _ (tn (Q2 (st':=⟨YA [(3,iV 3)],Y9 [],1⟩) (wkQ [(0,0)]) (Qe (tr ?_))));clear hK K;have hr:=yJ h;rw[←hr];refine⟨_,(.cell Q3x rfl rfl rfl (by simp) (by simp) (.tmp .nil)),?_⟩;refine⟨(.agg rfl (.one rfl rfl .nil)),[iV 0,nS,nS,nS,nS,iV 0,nS,nS,iV 3],[],by simp[BN],by simp,(.cons .refl (.cons .nil (.cons .nil (.cons .nil (.cons .nil (.cons .refl (.cons .nil (.cons .nil (.cons .refl .nil)))))))))⟩
 have g27:¬((table_.length:Int)>40):=gQ;clear g;replace h:=if_r g27 h;refine Q8 (tn (Q0 (runQ hN λK hK=>?_)));simp;repeat with_reducible refine sdQ ?_
 replace⟨v28,hv28,h⟩:=bind_some h;refine Q3 (Q7i _ v28 hv28) (.cons .lst .nil) ?_;simp;repeat with_reducible refine sdQ ?_
 replace⟨v29,hv29,h⟩:=bind_some h;refine Q3 (Q37 _ v29 hv29) (.cons .lst .nil) ?_;simp;repeat refine sdQ ?_
 refine hK _ (tn (Q2 (st':=⟨YA [(3,iV 0)],[(0,.mix 8 [(Y0Q v28 [iV 0,.own 5 0 1,.own 7 0 v29.length])]),(1,rI v28.fr),(2,rI v28.to),(3,rI v28.id),(4,.row 1 (Ls v28.cs)),(5,.mix 1 [[.own 6 0 1]]),(6,.mix 1 [[iV 0]]),(7,.row 1 (Ls v29))],8⟩) (wkQ [(0,0),(2,1),(3,2),(4,3),(5,4),(7,5),(6,6),(8,7)]) (Qe ?_)));clear hK K;have hr:=yJ h;rw[←hr];refine⟨_,(.cell Q3x rfl rfl rfl (by simp) (by simp) (.tmp .nil)),?_⟩;refine⟨(.agg rfl (.one rfl rfl .nil)),[iV v28.n,lI v28.fr,lI v28.to,lI v28.id,.lst true 1 (Ls v28.cs),iV 0,.lst true 1 (Ls [[0]]),.lst true 1 (Ls v29),iV 0],[1,2,3,4,5,6,7],by simp[BN],by simp,(UpL.refl _)⟩
attribute [local simp] unk unA unE unT unC flat eL eI Qc QS Qr Cat.cells XMonoidal.cells
def QB(table_:List (List Int)):Option (XMonoidal×Int):=
 (Q1D table_).bind λv1=>
 if¬(v1=true)then
  some ((⟨(⟨0,[],[],[],[]⟩:Cat),0,[],[]⟩:XMonoidal),1)
 else
  if(table_.length:Int)>8 then
   some ((⟨(⟨0,[],[],[],[]⟩:Cat),0,[],[]⟩:XMonoidal),3)
  else
   (Qo (σ:=List (List Int)×Int) (ε:=List (List Int)) (λs10=>
    if s10.2<(table_.length:Int)then
     ass (0≤(table_.length:Int)∧(table_.length:Int)≤1073741824)<|
     ass (0≤s10.2∧s10.2<((zL table_.length (0:Int)).length:Int))<|
     ass ((s10.1++[(zL table_.length (0:Int)).set s10.2.toNat 1]).length≤1073741824)<|
     ass (B64 (s10.2+1))<|
     some (yO (s10.1++[(zL table_.length (0:Int)).set s10.2.toNat 1],s10.2+1))
    else
     some (yM s10.1)) fuel ([],0)).bind λb4=>
   (Q2c b4).bind λv16=>
   (Q1z table_).bind λv17=>
   (Q1z table_).bind λv18=>
   some ((⟨v16,0,v17,v18⟩:XMonoidal),0)
@[simp] abbrev Y0f(a:Cat)(b c:List (List Int))(d:List (Nat×Ent)):List (Nat×Ent):=(0,.mix 8 [(Y0Q a [iV 0,.own 5 0 b.length,.own 6 0 c.length])])::(1,rI a.fr)::(2,rI a.to)::(3,rI a.id)::(4,.row 1 (Ls a.cs))::(5,.row 1 (Ls b))::(6,.row 1 (Ls c))::d
theorem Q17(table_:List (List Int))(r:XMonoidal×Int)(h:QB table_=some r):Contract Try.prog 152 (Y0W table_ []) (.tup [.agg (r.1.cells true),iV r.2]):=by
 refine Q6 (rvs:=[.cell 2 48,.tmp 3]) (rs:=[.agg (r.1.cells true),iV r.2]) Try.func152 rfl rfl rfl rfl (by simp[Try.f152]) λF hN hP=>?_;unfold QB at h;refine Q0 (runQ hN λK hK=>?_);simp;repeat refine sdQ ?_
 refine hK _ ?_;clear hK K;refine tn (Q2 (st':=⟨Yq table_ [],Y9 [],1⟩) (wkQ [(0,0)]) (Q0 (Q0 (runQ hN λK hK=>?_))));simp;repeat with_reducible refine sdQ ?_
 replace⟨v1,hv1,h⟩:=bind_some h;refine Q3 (Q3S _ v1 hv1) (.cons .lst .nil) ?_;simp;repeat refine sdQ ?_
 refine hK _ ?_;clear hK K;refine tn (Q2 (st':=⟨Yq table_ [(9,.val (.bool (!v1)))],Y9 [],1⟩) (wkQ [(0,0)]) (Q7 rfl (λg=>?_) λg=>?_))
 ·have g2:¬(v1=true):=gQ;clear g;replace h:=if_l g2 h;refine Q0 (runQ hN λK hK=>?_);simp;repeat refine sdQ ?_
  refine hK _ (tn (Q2 (st':=⟨YA [(3,iV 1)],Y9 [],1⟩) (wkQ [(0,0)]) (Qe (tr ?_))));clear hK K;have hr:=yJ h;rw[←hr];refine⟨_,(.cell Q3x rfl rfl rfl (by simp) (by simp) (.tmp .nil)),?_⟩;refine⟨(.agg rfl (.one rfl rfl .nil)),[iV 0,nS,nS,nS,nS,iV 0,nS,nS,iV 1],[],by simp[BN],by simp,(.cons .refl (.cons .nil (.cons .nil (.cons .nil (.cons .nil (.cons .refl (.cons .nil (.cons .nil (.cons .refl .nil)))))))))⟩
 have g2:¬(¬(v1=true)):=gQ;clear g;replace h:=if_r g2 h;refine Q8 (tn (Q0 (Q0 (runQ hN λK hK=>?_))));simp;repeat refine sdQ ?_
 refine hK _ ?_;clear hK K;refine tn (Q7 rfl (λg=>?_) λg=>?_)
 ·have g3:(table_.length:Int)>8:=gQ;clear g;replace h:=if_l g3 h;refine Q0 (runQ hN λK hK=>?_);simp;repeat refine sdQ ?_
  refine hK _ (tn (Q2 (st':=⟨YA [(3,iV 3)],Y9 [],1⟩) (wkQ [(0,0)]) (Qe (tr ?_))));clear hK K;have hr:=yJ h;rw[←hr];refine⟨_,(.cell Q3x rfl rfl rfl (by simp) (by simp) (.tmp .nil)),?_⟩;refine⟨(.agg rfl (.one rfl rfl .nil)),[iV 0,nS,nS,nS,nS,iV 0,nS,nS,iV 3],[],by simp[BN],by simp,(.cons .refl (.cons .nil (.cons .nil (.cons .nil (.cons .nil (.cons .refl (.cons .nil (.cons .nil (.cons .refl .nil)))))))))⟩
 have g3:¬((table_.length:Int)>8):=gQ;clear g;replace h:=if_r g3 h;refine Q8 (tn (Q0 (runQ hN λK hK=>?_)));simp;repeat refine sdQ ?_
 refine hK _ ?_;clear hK K;refine tn (Q2 (st':=⟨Yq table_ [(4,.own 1 0 0)],Y9 [(1,.mix 1 [])],2⟩) (wkQ [(0,0),(1,1)]) (Q0 (Q0 (runQ hN λK hK=>?_))));simp;repeat refine sdQ ?_
 refine hK _ (tn (Q2 (st':=⟨Yq table_ [(4,.own 1 0 0),(5,iV 0)],Y9 [(1,.mix 1 [])],2⟩) (wkQ [(0,0),(1,1)]) ?_));clear hK K;replace⟨e4,h,h4⟩:=bind_some h;refine Q9 (λb4:List (List Int)=>⟨Yq table_ [(4,.own 1 0 b4.length)],Y9 [(1,.row 1 (Ls b4))],2⟩) (λb4=>b4=e4) ?_ ?_
 ·refine Q5 (Qj h (λs10:List (List Int)×Int=>⟨Yq table_ [(4,.own 1 0 s10.1.length),(5,iV s10.2)],Y9 [(1,.row 1 (Ls s10.1))],2⟩) (Q2Y ⟨Yq table_ [(4,.own 1 0 0),(5,iV 0)],Y9 [(1,.row 1 (Ls []))],2⟩ (nlQ []) (wkQ [(0,0),(1,1)])) ?_);clear h;intro k10 s10 c10 h hk10;refine Q0 (Q0 (runQ hN λK hK=>?_));simp;repeat refine sdQ ?_
  refine hK _ ?_;clear hK K;refine tn (Q7 rfl (λg=>?_) λg=>?_)
  ·have g11:s10.2<(table_.length:Int):=gQ;clear g;replace h:=if_l g11 h;refine Q8 (tn (Q0 (Q5 (Q0 (runQ hN λK hK=>?_)))));replace⟨a12,h⟩:=Q1 h;simp;(repeat refine sdQ ?_);refine hK _ ?_;clear hK K;refine tn (Q2 (st':=⟨Yq table_ [(4,.own 1 0 s10.1.length),(5,iV s10.2),(6,.own 2 0 ((zL table_.length (0:Int)).length))],Y9 [(1,.row 1 (Ls s10.1)),(2,rI (zL table_.length (0:Int)))],3⟩) (wkI 3) (Q0 (runQ hN λK hK=>?_)));replace⟨a13,h⟩:=Q1 h;simp[at_I a13];(repeat refine sdQ ?_);refine hK _ ?_;clear hK K;refine tn (Q2 (st':=⟨Yq table_ [(4,.own 1 0 s10.1.length),(5,iV s10.2),(6,.own 2 0 (((zL table_.length (0:Int)).set s10.2.toNat 1).length))],Y9 [(1,.row 1 (Ls s10.1)),(2,rI ((zL table_.length (0:Int)).set s10.2.toNat 1))],3⟩) (wkI 3) (runQ hN λK hK=>?_));replace⟨a14,h⟩:=Q1 h;(try simp only[qD,qH,zX]at a14);simp[a14];(repeat refine sdQ ?_);refine hK _ ?_;clear hK K;refine bn (tn (Q2 (st':=⟨Yq table_ [(4,.own 1 0 ((s10.1++[(zL table_.length (0:Int)).set s10.2.toNat 1]).length)),(5,iV s10.2)],Y9 [(1,.row 1 (Ls (s10.1++[(zL table_.length (0:Int)).set s10.2.toNat 1])))],2⟩) (wkQ [(0,0),(4,1)]) (runQ hN λK hK=>?_)));replace⟨a15,h⟩:=Q1 h;simp[Qh a15];(repeat refine sdQ ?_);refine hK _ ?_;clear hK K;cases h;exact rn (s':=(s10.1++[(zL table_.length (0:Int)).set s10.2.toNat 1],s10.2+1)) hk10 (wkQ [(0,0),(1,1)])
  have g11:¬(s10.2<(table_.length:Int)):=gQ;clear g;replace h:=if_r g11 h;refine Ql (tx (lx (bh ?_)));cases h;exact jn (b:=s10.1) hk10 (wkQ [(0,0),(1,1)])
 intro b4 hb4;have h:=h4;try rw[←hb4]at h
 clear h4;try dsimp only at h
 refine Q0 (runQ hN λK hK=>?_);simp;repeat with_reducible refine sdQ ?_
 replace⟨v16,hv16,h⟩:=bind_some h;refine Q3 (Q5n _ v16 hv16) (.cons .w .nil) ?_;simp;repeat with_reducible refine sdQ ?_
 replace⟨v17,hv17,h⟩:=bind_some h;refine Q3 (Q37 _ v17 hv17) (.cons .lst .nil) ?_;simp;repeat with_reducible refine sdQ ?_
 replace⟨v18,hv18,h⟩:=bind_some h;refine Q3 (Q37 _ v18 hv18) (.cons .lst .nil) ?_;simp;repeat refine sdQ ?_
 refine hK _ (tn (Q2 (st':=⟨YA [(3,iV 0)],Y0f v16 v17 v18 [],7⟩) (wkQ [(0,0),(3,1),(4,2),(5,3),(6,4),(7,5),(8,6)]) (Qe ?_)));clear hK K;have hr:=yJ h;rw[←hr];refine⟨_,(.cell Q3x rfl rfl rfl (by simp) (by simp) (.tmp .nil)),?_⟩;refine⟨(.agg rfl (.one rfl rfl .nil)),[iV v16.n,lI v16.fr,lI v16.to,lI v16.id,.lst true 1 (Ls v16.cs),iV 0,.lst true 1 (Ls v17),.lst true 1 (Ls v18),iV 0],[1,2,3,4,5,6],by simp[BN],by simp,(UpL.refl _)⟩
section
attribute [local simp] Qi QP Qv Q1l QN
def MN(m:XMonoidal):Prop:=(0<m.arrows_.length∧0<(rx m.arrows_ 0).length)∧0<m.objects_.length∧m.on_.fr.length≤100000
theorem e_own2{t:List (List Int)}(h1:t.length≤1048576)(h2:∀r∈t,r.length≤1048576):Q1z t=some t:=by
 unfold Q1z;rw[Q4 h1,Q4 h2]
theorem Tbl.sqr{t:List (List Int)}(h:Tbl t t.length):Sqr t t.length:=by
 refine⟨rfl,λr hr=>?_⟩;obtain⟨i,hi,rfl⟩:=List.getElem_of_mem hr;have:=(h.2 i hi).1;have e:rx t (i:Int)=t[i]:=by simp[rx,qB,hi]
 rw[e]at this;omega
theorem Q6s{t:List (List Int)}(hl:t.length≤100):Gd (QB t) λr=>(r.2=0→MN r.1)∧(MonT t∧t.length≤8→r.2=0):=by
 unfold QB;rw[e_monT (by omega)]
 by_cases h1:MonT t
 case neg=>rw[Qd h1];exact Gd.som ⟨λq=>by simp at q,λq=>absurd q.1 h1⟩
 rw[Qk h1];simp only[yA,not_true_eq_false,if_false];refine Gd.ite (λh2=>Gd.som ⟨λq=>by simp at q,λq=>by omega⟩) λh2=>?_;have hs:=h1.2.1.sqr;have hp:=h1.1;refine Gd.bind (P:=λb=>Sqr b t.length) (Gd.loop t.length (λi s=>s.2=(i:Int)∧s.1.length=i∧∀r∈s.1,r.length=t.length) (by omega) ⟨rfl,rfl,λr hr=>by cases hr⟩ λi s hi hs=>?_) λb hb=>?_
 ·obtain⟨rows,c⟩:=s;obtain⟨g1,g2,g3⟩:=hs;simp only at g1 g2 g3⊢;subst g1;refine Gd.ite (λh3=>?_) λh3=>Gd.som ⟨by omega,g3⟩;refine Gd.ass (by omega) (Gd.ass ⟨by omega,by simpa using h3⟩ (Gd.ass (by simp;omega) (Gd.ass (by unfold B64;omega) (Gd.som ⟨by omega,rfl,by simpa using g2,λx hx=>?_⟩))));rcases List.mem_append.1 hx with h|h
  ·exact g3 x h
  rw[List.mem_singleton.1 h];simp
 refine Gd.bind (g_poset hb hl) λc hc=>?_;rw[e_own2 (by omega) (λr hr=>by have:=hs.2 r hr;omega)];have r0:=hs.row (i:=0) (by omega);exact Gd.som ⟨λ_=>⟨⟨hp,by show 0<(rx t 0).length;omega⟩,hp,by have:=hc.bd;show c.fr.length≤_;omega⟩,λ_=>rfl⟩
theorem Q6V{t:List (List Int)}(hl:t.length≤100):Gd (Qx t) λr=>r.2=0→MN r.1:=by
 unfold Qx;rw[e_monT (by omega)]
 by_cases h1:MonT t
 case neg=>rw[Qd h1];exact Gd.som λq=>by simp at q
 rw[Qk h1];simp only[yA,not_true_eq_false,if_false];have hs:=h1.2.1.sqr;have hp:=h1.1;refine Gd.bind (P:=SQ (λ_=>True) (λr=>r.2=0→MN r.1)) (Gd.loop t.length (λi s=>s=(i:Int)) (by omega) rfl λi s hi hs2=>?_) λe he=>?_
 ·subst hs2;refine Gd.ite (λh3=>?_) λh3=>Gd.som trivial;refine Gd.bind (P:=SQ (λ_=>True) (λr=>r.2=0→MN r.1)) (Gd.bind (P:=SQ (λr=>r.2=0→MN r.1) (λ_=>True)) (Gd.loop i (λj s=>s=(j:Int)) (by omega) rfl λj s hj hs3=>?_) λe he=>?_) λe he=>?_
  ·subst hs3;refine Gd.ite (λh4=>?_) λh4=>Gd.som trivial;have r1:=hs.row (i:=(i:Int)) (by omega);have r2:=hs.row (i:=(j:Int)) (by omega);refine Gd.ass (by omega) (Gd.ass (by omega) (Gd.ass (by omega) (Gd.ass (by omega) (Gd.ite (λ_=>Gd.som λq=>by simp at q) λ_=>Gd.ass (by unfold B64;omega) (Gd.som ⟨by omega,rfl⟩)))))
  ·cases e with
   |inl p=>exact Gd.som he
   |inr p=>exact Gd.som trivial
  cases e with
  |inl p=>exact Gd.ass (by unfold B64;omega) (Gd.som ⟨by omega,rfl⟩)
  |inr p=>exact Gd.som he
 cases e with
 |inr p=>exact Gd.som he
 |inl p=>
  refine Gd.ite (λ_=>Gd.som λq=>by simp at q) λh5=>?_;unfold Q2W;have e2:=e_own2 (t:=t) (by omega) (λr hr=>by have:=hs.2 r hr;omega);rw[e2];have r0:=hs.row (i:=0) (by omega);exact Gd.bind (P:=λc=>c.fr.length≤100) (Gd.ass (by omega) (Gd.ass (by omega) (Gd.som (by simp;omega)))) λc hc=>Gd.som λ_=>⟨⟨hp,by show 0<(rx t 0).length;omega⟩,by simp,by show c.fr.length≤_;omega⟩
theorem g_hom{c:Cat}(h:c.to.length=c.fr.length)(hl:c.fr.length≤100000)(x y:Int):Gd (Q1U c x y) λL=>(∃k:Nat,k<c.fr.length∧ix c.fr k=x∧ix c.to k=y)→0<L.length:=by
 unfold Q1U;refine Gd.bind (P:=λL=>(∃k:Nat,k<c.fr.length∧ix c.fr k=x∧ix c.to k=y)→0<L.length) (Gd.loop c.fr.length (λi s=>s.2=(i:Int)∧s.1.length≤i∧((∃k:Nat,k<i∧ix c.fr k=x∧ix c.to k=y)→0<s.1.length)) (by omega) ⟨rfl,by simp,λ⟨k,hk,_⟩=>by omega⟩ λi s hi hs=>?_) λL hL=>Gd.som hL;obtain⟨L,c'⟩:=s;obtain⟨g1,g2,g3⟩:=hs;simp only at g1 g2 g3⊢;subst g1;refine Gd.ite (λh3=>?_) λh3=>Gd.som ?_
 ·refine Gd.bind (P:=λr=>r.length≤i+1∧((∃k:Nat,k<i+1∧ix c.fr k=x∧ix c.to k=y)→0<r.length)) (Gd.bind (P:=λb=>b=true↔ix c.fr i=x∧ix c.to i=y) (Gd.ass (by omega) (Gd.ite (λq=>Gd.ass (by omega) (Gd.som (by simp[q]))) λq=>Gd.som (by simp[q]))) λb hb=>Gd.ite (λq=>Gd.ass (by simp;omega) (Gd.som ⟨by simp;omega,λ_=>by simp⟩)) λq=>Gd.som ⟨by omega,λ⟨k,k1,k2⟩=>?_⟩) λr hr=>Gd.ass (by unfold B64;omega) (Gd.som ⟨by omega,rfl,hr.1,hr.2⟩)
  by_cases hki:k=i
  ·subst hki;exact absurd (hb.2 k2) q
  exact g3 ⟨k,by omega,k2⟩
 show(∃k:Nat,k<c.fr.length∧_)→_;exact λ⟨k,k1,k2⟩=>g3 ⟨k,by omega,k2⟩
end
attribute [local simp] unk unA unE unT unC flat eL eI Qc QS Cat.cells
def Q3O(c_:Cat):Option Bool:=
 (
  if c_.n≤8 then
   some (decide ((c_.fr.length:Int)≤40))
  else
   some false:Option (Bool)).bind λb1=>
 some b1
theorem Q8N(c_:Cat)(r:Bool)(h:Q3O c_=some r):Contract Try.prog 129 [.agg (c_.cells true)] (.val (.bool r)):=by
 refine Q6 (rvs:=[.tmp 2]) (rs:=[.val (.bool r)]) Try.func129 rfl rfl rfl rfl (by simp[Try.f129]) λF hN hP=>?_;unfold Q3O at h;refine Q0 (runQ hN λK hK=>?_);simp;repeat refine sdQ ?_
 refine hK _ (tn (Q2 (st':=⟨YY [],Y04 c_ [],1⟩) (wkQ [(0,0)]) (Q0 ?_)));clear hK K;replace⟨e1,h,h1⟩:=bind_some h;refine Q9 (λb1:Bool=>⟨[(2,.val (.bool b1))],[],0⟩) (λb1=>b1=e1) ?_ ?_
 ·refine runQ hN λK hK=>?_;simp;repeat with_reducible refine sdQ ?_
  refine Qa (λg=>?_) (λg=>?_)
  ·have g2:c_.n≤8:=gQ;clear g;replace h:=if_l g2 h;simp;(repeat refine sdQ ?_);refine hK _ ?_;exact jn (b:=decide ((c_.fr.length:Int)≤40)) (yJ h) (wkQ [])
  have g2:¬(c_.n≤8):=gQ;clear g;replace h:=if_r g2 h;simp;repeat refine sdQ ?_
  refine hK _ ?_;exact jn (b:=false) (yJ h) (wkQ [])
 intro b1 hb1;have h:=h1;try rw[←hb1]at h
 clear h1;try dsimp only at h
 refine Qe ?_;have hr:=yJ h;rw[←hr];refine⟨_,(.tmp .nil),?_⟩;refine⟨(.one rfl rfl .nil),[.val (.bool b1)],[],by simp[BN],by simp,(UpL.refl _)⟩
attribute [local simp] unk unA unE unT unC flat eL eI Qc QS Qr Cat.cells XMonoidal.cells
def QJ(relation_:List (List Int))(table_:List (List Int)):Option (XMonoidal×Int):=
 (
  (Q1Q relation_).bind λv2=>
  if¬(v2=true)then
   some true
  else
   (Q1D table_).bind λv4=>
   if¬(v4=true)then
    some true
   else
    some ((relation_.length:Int)!=(table_.length:Int)):Option (Bool)).bind λb1=>
 if b1=true then
  some ((⟨(⟨0,[],[],[],[]⟩:Cat),0,[],[]⟩:XMonoidal),1)
 else
  (Qo (σ:=Int) (ε:=Unit⊕(XMonoidal×Int)) (λs100=>
   if s100<(table_.length:Int)then
    (
     (Qo (σ:=Int) (ε:=(XMonoidal×Int)⊕Unit) (λs147=>
      if s147<(table_.length:Int)then
       (
        (Qo (σ:=Int) (ε:=(XMonoidal×Int)⊕Unit) (λs170=>
         if s170<(table_.length:Int)then
          (
           ass (0≤s100∧s100<(relation_.length:Int))<|
           ass (0≤s147∧s147<((rx relation_ s100).length:Int))<|
           if(ix (rx relation_ s100) s147)=1 then
            ass (0≤s100∧s100<(table_.length:Int))<|
            ass (0≤s170∧s170<((rx table_ s100).length:Int))<|
            ass (0≤ix (rx table_ s100) s170∧ix (rx table_ s100) s170<(relation_.length:Int))<|
            ass (0≤s147∧s147<(table_.length:Int))<|
            ass (0≤s170∧s170<((rx table_ s147).length:Int))<|
            ass (0≤ix (rx table_ s147) s170∧ix (rx table_ s147) s170<((rx relation_ (ix (rx table_ s100) s170)).length:Int))<|
            if¬((ix (rx relation_ (ix (rx table_ s100) s170)) (ix (rx table_ s147) s170))=1)then
             some true
            else
             ass (0≤s170∧s170<(table_.length:Int))<|
             ass (0≤s100∧s100<((rx table_ s170).length:Int))<|
             ass (0≤ix (rx table_ s170) s100∧ix (rx table_ s170) s100<(relation_.length:Int))<|
             ass (0≤s170∧s170<(table_.length:Int))<|
             ass (0≤s147∧s147<((rx table_ s170).length:Int))<|
             ass (0≤ix (rx table_ s170) s147∧ix (rx table_ s170) s147<((rx relation_ (ix (rx table_ s170) s100)).length:Int))<|
             some ((ix (rx relation_ (ix (rx table_ s170) s100)) (ix (rx table_ s170) s147))!=1)
           else
            some false:Option (Bool)).bind λb172=>
          if b172=true then
           some (yM (yK ((⟨(⟨0,[],[],[],[]⟩:Cat),0,[],[]⟩:XMonoidal),5)))
          else
           ass (B64 (s170+1))<|
           some (yO (s170+1))
         else
          some (yM (yL ()))) fuel 0).bind λe170=>
        match e170 with
        | .inl p170=>
         some (yL p170)
        | .inr p170=>
         some (yK p170):Option (Unit⊕(XMonoidal×Int))).bind λe149=>
       match e149 with
       | .inl b149=>
        ass (B64 (s147+1))<|
        some (yO (s147+1))
       | .inr p149=>
        some (yM (yK p149))
      else
       some (yM (yL ()))) fuel 0).bind λe147=>
     match e147 with
     | .inl p147=>
      some (yL p147)
     | .inr p147=>
      some (yK p147):Option (Unit⊕(XMonoidal×Int))).bind λe102=>
    match e102 with
    | .inl b102=>
     ass (B64 (s100+1))<|
     some (yO (s100+1))
    | .inr p102=>
     some (yM (yL p102))
   else
    some (yM (yK ()))) fuel 0).bind λe7=>
  match e7 with
  | .inl b7=>
   (Q2c relation_).bind λv193=>
   (Q3O v193).bind λv194=>
   if¬(v194=true)then
    some ((⟨(⟨0,[],[],[],[]⟩:Cat),0,[],[]⟩:XMonoidal),3)
   else
    (Qo (σ:=List (List Int)×Int) (ε:=List (List Int)) (λs228=>
     if s228.2<(v193.fr.length:Int)then
      (Qo (σ:=List Int×Int) (ε:=List Int) (λs244=>
       if s244.2<(v193.fr.length:Int)then
        ass (0≤s228.2∧s228.2<(v193.fr.length:Int))<|
        ass (0≤ix v193.fr s228.2∧ix v193.fr s228.2<(table_.length:Int))<|
        ass (0≤s244.2∧s244.2<(v193.fr.length:Int))<|
        ass (0≤ix v193.fr s244.2∧ix v193.fr s244.2<((rx table_ (ix v193.fr s228.2)).length:Int))<|
        ass (0≤s228.2∧s228.2<(v193.to.length:Int))<|
        ass (0≤ix v193.to s228.2∧ix v193.to s228.2<(table_.length:Int))<|
        ass (0≤s244.2∧s244.2<(v193.to.length:Int))<|
        ass (0≤ix v193.to s244.2∧ix v193.to s244.2<((rx table_ (ix v193.to s228.2)).length:Int))<|
        (Q1U v193 (ix (rx table_ (ix v193.fr s228.2)) (ix v193.fr s244.2)) (ix (rx table_ (ix v193.to s228.2)) (ix v193.to s244.2))).bind λv254=>
        ass ((0:Int)≤0∧0<(v254.length:Int))<|
        ass ((s244.1++[ix v254 0]).length≤1073741824)<|
        ass (B64 (s244.2+1))<|
        some (yO (s244.1++[ix v254 0],s244.2+1))
       else
        some (yM s244.1)) fuel ([],0)).bind λb230=>
      ass ((s228.1++[b230]).length≤1073741824)<|
      ass (B64 (s228.2+1))<|
      some (yO (s228.1++[b230],s228.2+1))
     else
      some (yM s228.1)) fuel ([],0)).bind λb196=>
    (Q1z table_).bind λv260=>
    some ((⟨v193,0,v260,b196⟩:XMonoidal),0)
  | .inr p7=>
   some p7
@[simp] abbrev Y6(a:Cat)(b:List (Nat×Ent)):List (Nat×Ent):=(0,.mix 8 [(Y0M [])])::(1,.mix 5 [[iV a.n,.own 2 0 a.fr.length,.own 3 0 a.to.length,.own 4 0 a.id.length,.own 5 0 a.cs.length]])::(2,rI a.fr)::(3,rI a.to)::(4,rI a.id)::(5,.row 1 (Ls a.cs))::b
@[simp] abbrev Yy(a:List (List Int))(b:List (Nat×AV)):List (Nat×AV):=(1,.lst true 1 (Ls a))::(4,.adr 0 0 0)::b
@[simp] abbrev Y02(a:List (List Int)×Int)(b:List (Nat×AV)):List (Nat×AV):=(10,.adr 1 0 0)::(11,.own 6 0 a.1.length)::(12,iV a.2)::b
theorem Q1x(relation_:List (List Int))(table_:List (List Int))(r:XMonoidal×Int)(h:QJ relation_ table_=some r):Contract Try.prog 155 (Y0W relation_ (Y0W table_ [])) (.tup [.agg (r.1.cells true),iV r.2]):=by
 refine Q6 (rvs:=[.cell 4 48,.tmp 5]) (rs:=[.agg (r.1.cells true),iV r.2]) Try.func155 rfl rfl rfl rfl (by simp[Try.f155]) λF hN hP=>?_;unfold QJ at h;refine Q0 (runQ hN λK hK=>?_);simp;repeat refine sdQ ?_
 refine hK _ (tn (Q2 (st':=⟨YB relation_ (Yy table_ []),Y9 [],1⟩) (wkQ [(0,0)]) (Q0 (Q0 ?_))));clear hK K;replace⟨e1,h,h1⟩:=bind_some h;refine Q9 (λb1:Bool=>⟨YB relation_ (Yy table_ [(29,.val (.bool b1))]),Y9 [],1⟩) (λb1=>b1=e1) ?_ ?_
 ·refine runQ hN λK hK=>?_;simp;repeat with_reducible refine sdQ ?_
  replace⟨v2,hv2,h⟩:=bind_some h;refine Q3 (Q6g _ v2 hv2) (.cons .lst .nil) ?_;simp;repeat with_reducible refine sdQ ?_
  refine Qa (λg=>?_) (λg=>?_)
  ·have g3:¬(¬(v2=true)):=gQ;clear g;replace h:=if_r g3 h;simp;(repeat with_reducible refine sdQ ?_);replace⟨v4,hv4,h⟩:=bind_some h;refine Q3 (Q3S _ v4 hv4) (.cons .lst .nil) ?_;simp;(repeat with_reducible refine sdQ ?_);refine Qa (λg=>?_) (λg=>?_)
   ·have g5:¬(¬(v4=true)):=gQ;clear g;replace h:=if_r g5 h;simp;(repeat refine sdQ ?_);refine hK _ ?_;exact jn (b:=(relation_.length:Int)!=(table_.length:Int)) (yJ h) (wkQ [(0,0)])
   have g5:¬(v4=true):=gQ;clear g;replace h:=if_l g5 h;simp;(repeat refine sdQ ?_);refine hK _ ?_;exact jn (b:=true) (yJ h) (wkQ [(0,0)])
  have g3:¬(v2=true):=gQ;clear g;replace h:=if_l g3 h;simp;repeat refine sdQ ?_
  refine hK _ ?_;exact jn (b:=true) (yJ h) (wkQ [(0,0)])
 intro b1 hb1;have h:=h1;try rw[←hb1]at h
 clear h1;try dsimp only at h
 refine Q7 rfl (λg=>?_) λg=>?_
 ·have g6:b1=true:=gQ;clear g;replace h:=if_l g6 h;refine Q0 (runQ hN λK hK=>?_);simp;repeat refine sdQ ?_
  refine hK _ (tn (Q2 (st':=⟨[(4,.adr 0 0 0),(5,iV 1)],Y9 [],1⟩) (wkQ [(0,0)]) (Qe (tr ?_))));clear hK K;have hr:=yJ h;rw[←hr];refine⟨_,(.cell Q3x rfl rfl rfl (by simp) (by simp) (.tmp .nil)),?_⟩;refine⟨(.agg rfl (.one rfl rfl .nil)),[iV 0,nS,nS,nS,nS,iV 0,nS,nS,iV 1],[],by simp[BN],by simp,(.cons .refl (.cons .nil (.cons .nil (.cons .nil (.cons .nil (.cons .refl (.cons .nil (.cons .nil (.cons .refl .nil)))))))))⟩
 have g6:¬(b1=true):=gQ;clear g;replace h:=if_r g6 h;refine Q8 (tn (Q0 (runQ hN λK hK=>?_)));simp;repeat refine sdQ ?_
 refine hK _ ?_;clear hK K;refine tn (Q2 (st':=⟨YB relation_ (Yy table_ [(6,iV (table_.length:Int))]),Y9 [],1⟩) (wkQ [(0,0)]) (Q0 (Q0 (runQ hN λK hK=>?_))));simp;repeat refine sdQ ?_
 refine hK _ (tn (Q2 (st':=⟨YB relation_ (Yy table_ [(6,iV (table_.length:Int)),(7,iV 0)]),Y9 [],1⟩) (wkQ [(0,0)]) ?_));clear hK K;replace⟨e7,h,h7⟩:=bind_some h;refine Q9 (λb7:Unit=>⟨YB relation_ (Yy table_ []),Y9 [],1⟩) (λb7=>yK b7=e7) ?_ ?_
 ·refine Q5 (Qj h (λs100:Int=>⟨YB relation_ (Yy table_ [(6,iV (table_.length:Int)),(7,iV s100)]),Y9 [],1⟩) (wkQ [(0,0)]) ?_);clear h;intro k100 s100 c100 h hk100;refine Q0 (Q0 (runQ hN λK hK=>?_));simp;repeat refine sdQ ?_
  refine hK _ ?_;clear hK K;refine tn (Q7 rfl (λg=>?_) λg=>?_)
  ·have g101:s100<(table_.length:Int):=gQ;clear g;replace h:=if_l g101 h;refine Q8 (tn (Q0 ?_));replace⟨e102,h,h102⟩:=bind_some h;refine Q9 (λb102:Unit=>⟨YB relation_ (Yy table_ [(6,iV (table_.length:Int)),(7,iV s100)]),Y9 [],1⟩) (λb102=>yK b102=e102) ?_ ?_
   ·refine Q5 (Q0 (runQ hN λK hK=>?_));simp;(repeat refine sdQ ?_);refine hK _ (tn (Q2 (st':=⟨YB relation_ (Yy table_ [(6,iV (table_.length:Int)),(7,iV s100),(8,iV 0)]),Y9 [],1⟩) (wkQ [(0,0)]) (Q5 ?_)));clear hK K;replace⟨e147,he147,h147⟩:=bind_some h;refine Qj he147 (λs147:Int=>⟨YB relation_ (Yy table_ [(6,iV (table_.length:Int)),(7,iV s100),(8,iV s147)]),Y9 [],1⟩) (wkQ [(0,0)]) ?_;intro k147 s147 c147 h hk147;refine Q0 (Q0 (runQ hN λK hK=>?_));simp;(repeat refine sdQ ?_);refine hK _ ?_;clear hK K;refine tn (Q7 rfl (λg=>?_) λg=>?_)
    ·have g148:s147<(table_.length:Int):=gQ;clear g;replace h:=if_l g148 h;refine Q8 (tn (Q0 ?_));replace⟨e149,h,h149⟩:=bind_some h;refine Q9 (λb149:Unit=>⟨YB relation_ (Yy table_ [(6,iV (table_.length:Int)),(7,iV s100),(8,iV s147)]),Y9 [],1⟩) (λb149=>yK b149=e149) ?_ ?_
     ·refine Q5 (Q0 (runQ hN λK hK=>?_));simp;(repeat refine sdQ ?_);refine hK _ (tn (Q2 (st':=⟨YB relation_ (Yy table_ [(6,iV (table_.length:Int)),(7,iV s100),(8,iV s147),(9,iV 0)]),Y9 [],1⟩) (wkQ [(0,0)]) (Q5 ?_)));clear hK K;replace⟨e170,he170,h170⟩:=bind_some h;refine Qj he170 (λs170:Int=>⟨YB relation_ (Yy table_ [(6,iV (table_.length:Int)),(7,iV s100),(8,iV s147),(9,iV s170)]),Y9 [],1⟩) (wkQ [(0,0)]) ?_;intro k170 s170 c170 h hk170;refine Q0 (Q0 (runQ hN λK hK=>?_));simp;(repeat refine sdQ ?_);refine hK _ ?_;clear hK K;refine tn (Q7 rfl (λg=>?_) λg=>?_)
      ·have g171:s170<(table_.length:Int):=gQ;clear g;replace h:=if_l g171 h;refine Q8 (tn (Q0 (Q5 (Q0 ?_))));replace⟨e172,h,h172⟩:=bind_some h;refine Q9 (λb172:Bool=>⟨YB relation_ (Yy table_ [(6,iV (table_.length:Int)),(7,iV s100),(8,iV s147),(9,iV s170),(99,.val (.bool b172))]),Y9 [],1⟩) (λb172=>b172=e172) ?_ ?_
       ·refine runQ hN λK hK=>?_;replace⟨a173,h⟩:=Q1 h;replace⟨a174,h⟩:=Q1 h;simp[at_L a173,at_I a174];(repeat with_reducible refine sdQ ?_);refine Qa (λg=>?_) (λg=>?_)
        ·have g175:(ix (rx relation_ s100) s147)=1:=gQ;clear g;replace h:=if_l g175 h;replace⟨a176,h⟩:=Q1 h;replace⟨a177,h⟩:=Q1 h;replace⟨a178,h⟩:=Q1 h;replace⟨a179,h⟩:=Q1 h;replace⟨a180,h⟩:=Q1 h;replace⟨a181,h⟩:=Q1 h;simp[at_L a173,at_I a174,at_L a176,at_I a177,at_L a178,at_L a179,at_I a180,at_I a181];(repeat with_reducible refine sdQ ?_);refine Qa (λg=>?_) (λg=>?_)
         ·have g182:¬(¬((ix (rx relation_ (ix (rx table_ s100) s170)) (ix (rx table_ s147) s170))=1)):=gQ;clear g;replace h:=if_r g182 h;replace⟨a183,h⟩:=Q1 h;replace⟨a184,h⟩:=Q1 h;replace⟨a185,h⟩:=Q1 h;replace⟨a186,h⟩:=Q1 h;replace⟨a187,h⟩:=Q1 h;replace⟨a188,h⟩:=Q1 h;simp[at_L a173,at_I a174,at_L a176,at_I a177,at_L a178,at_L a179,at_I a180,at_I a181,at_L a183,at_I a184,at_L a185,at_L a186,at_I a187,at_I a188];(repeat refine sdQ ?_);refine hK _ ?_;exact jn (b:=(ix (rx relation_ (ix (rx table_ s170) s100)) (ix (rx table_ s170) s147))!=1) (yJ h) (wkQ [(0,0)])
         have g182:¬((ix (rx relation_ (ix (rx table_ s100) s170)) (ix (rx table_ s147) s170))=1):=gQ;clear g;replace h:=if_l g182 h;simp[at_L a173,at_I a174,at_L a176,at_I a177,at_L a178,at_L a179,at_I a180,at_I a181];(repeat refine sdQ ?_);refine hK _ ?_;exact jn (b:=true) (yJ h) (wkQ [(0,0)])
        have g175:¬((ix (rx relation_ s100) s147)=1):=gQ;clear g;replace h:=if_r g175 h;simp[at_L a173,at_I a174];(repeat refine sdQ ?_);refine hK _ ?_;exact jn (b:=false) (yJ h) (wkQ [(0,0)])
       intro b172 hb172;have h:=h172;(try rw[←hb172]at h);clear h172;(try dsimp only at h);refine Q7 rfl (λg=>?_) λg=>?_
       ·have g189:b172=true:=gQ;clear g;replace h:=if_l g189 h;refine Q0 (runQ hN λK hK=>?_);simp;(repeat refine sdQ ?_);refine hK _ (tn (Q2 (st':=⟨[(4,.adr 0 0 0),(5,iV 5)],Y9 [],1⟩) (wkQ [(0,0)]) (Qe (br (tr (lr (br (br (tr (lr (br (br (tr (lr (br (tr ?_))))))))))))))));clear hK K;cases h;have q:_=e170:=hk170;have h:=h170;rw[←q]at h;clear q;(try dsimp only at h);cases h;have h:=h149;(try dsimp only at h);cases h;have q:_=e147:=hk147;have h:=h147;rw[←q]at h;clear q;(try dsimp only at h);cases h;have h:=h102;(try dsimp only at h);cases h;have q:_=e7:=hk100;have h:=h7;rw[←q]at h;clear q;(try dsimp only at h);have hr:=yJ h;rw[←hr];refine⟨_,(.cell Q3x rfl rfl rfl (by simp) (by simp) (.tmp .nil)),?_⟩;refine⟨(.agg rfl (.one rfl rfl .nil)),[iV 0,nS,nS,nS,nS,iV 0,nS,nS,iV 5],[],by simp[BN],by simp,(.cons .refl (.cons .nil (.cons .nil (.cons .nil (.cons .nil (.cons .refl (.cons .nil (.cons .nil (.cons .refl .nil)))))))))⟩
       have g189:¬(b172=true):=gQ;clear g;replace h:=if_r g189 h;refine Q8 (bn (tn (runQ hN λK hK=>?_)));replace⟨a190,h⟩:=Q1 h;simp[Qh a190];(repeat refine sdQ ?_);refine hK _ ?_;clear hK K;cases h;exact rn (s':=s170+1) hk170 (wkQ [(0,0)])
      have g171:¬(s170<(table_.length:Int)):=gQ;clear g;replace h:=if_r g171 h;refine Ql (tx (lx (bh (bn ?_))));cases h;have q:_=e170:=hk170;have h:=h170;rw[←q]at h;clear q;(try dsimp only at h);exact jn (b:=()) (yJ h) (wkQ [(0,0)])
     intro b149 hb149;have h:=h149;(try rw[←hb149]at h);clear h149;(try dsimp only at h);refine runQ hN λK hK=>?_;replace⟨a191,h⟩:=Q1 h;simp[Qh a191];(repeat refine sdQ ?_);refine hK _ ?_;clear hK K;cases h;exact rn (s':=s147+1) hk147 (wkQ [(0,0)])
    have g148:¬(s147<(table_.length:Int)):=gQ;clear g;replace h:=if_r g148 h;refine Ql (tx (lx (bh (bn ?_))));cases h;have q:_=e147:=hk147;have h:=h147;rw[←q]at h;clear q;(try dsimp only at h);exact jn (b:=()) (yJ h) (wkQ [(0,0)])
   intro b102 hb102;have h:=h102;(try rw[←hb102]at h);clear h102;(try dsimp only at h);refine runQ hN λK hK=>?_;replace⟨a192,h⟩:=Q1 h;simp[Qh a192];(repeat refine sdQ ?_);refine hK _ ?_;clear hK K;cases h;exact rn (s':=s100+1) hk100 (wkQ [(0,0)])
  have g101:¬(s100<(table_.length:Int)):=gQ;clear g;replace h:=if_r g101 h;refine Ql (tx (lx (bh ?_)));cases h;exact jn (b:=()) hk100 (wkQ [(0,0)])
 intro b7 hb7;have h:=h7;try rw[←hb7]at h
 clear h7;try dsimp only at h
 refine Q0 (runQ hN λK hK=>?_);simp;repeat with_reducible refine sdQ ?_
 replace⟨v193,hv193,h⟩:=bind_some h;refine Q3 (Q5n _ v193 hv193) (.cons .lst .nil) ?_;simp;repeat refine sdQ ?_
 refine hK _ ?_;clear hK K;refine tn (Q2 (st':=⟨Yy table_ [(10,.adr 1 0 0)],Y6 v193 [],6⟩) (wkQ [(0,0),(6,1),(2,2),(3,3),(4,4),(5,5)]) (Q0 (Q0 (runQ hN λK hK=>?_))));simp;repeat with_reducible refine sdQ ?_
 replace⟨v194,hv194,h⟩:=bind_some h;refine Q3 (Q8N _ v194 hv194) (.cons (.aggL (.cons .val (.cons .w (.cons .w (.cons .w (.cons .w .nil)))))) .nil) ?_;simp;repeat refine sdQ ?_
 refine hK _ ?_;clear hK K;refine tn (Q2 (st':=⟨Yy table_ [(10,.adr 1 0 0),(105,.val (.bool (!v194)))],Y6 v193 [],6⟩) (wkI 6) (Q7 rfl (λg=>?_) λg=>?_))
 ·have g195:¬(v194=true):=gQ;clear g;replace h:=if_l g195 h;refine Q0 (runQ hN λK hK=>?_);simp;repeat refine sdQ ?_
  refine hK _ (tn (Q2 (st':=⟨[(4,.adr 0 0 0),(5,iV 3)],Y9 [],1⟩) (wkQ [(0,0)]) (Qe (tr ?_))));clear hK K;have hr:=yJ h;rw[←hr];refine⟨_,(.cell Q3x rfl rfl rfl (by simp) (by simp) (.tmp .nil)),?_⟩;refine⟨(.agg rfl (.one rfl rfl .nil)),[iV 0,nS,nS,nS,nS,iV 0,nS,nS,iV 3],[],by simp[BN],by simp,(.cons .refl (.cons .nil (.cons .nil (.cons .nil (.cons .nil (.cons .refl (.cons .nil (.cons .nil (.cons .refl .nil)))))))))⟩
 have g195:¬(¬(v194=true)):=gQ;clear g;replace h:=if_r g195 h;refine Q8 (tn (Q0 (runQ hN λK hK=>?_)));simp;repeat refine sdQ ?_
 refine hK _ ?_;clear hK K;refine tn (Q2 (st':=⟨Yy table_ [(10,.adr 1 0 0),(11,.own 6 0 0)],Y6 v193 [(6,.mix 1 [])],7⟩) (wkI 7) (Q0 (Q0 (runQ hN λK hK=>?_))));simp;repeat refine sdQ ?_
 refine hK _ (tn (Q2 (st':=⟨Yy table_ [(10,.adr 1 0 0),(11,.own 6 0 0),(12,iV 0)],Y6 v193 [(6,.mix 1 [])],7⟩) (wkI 7) ?_));clear hK K;replace⟨e196,h,h196⟩:=bind_some h;refine Q9 (λb196:List (List Int)=>⟨Yy table_ [(10,.adr 1 0 0),(11,.own 6 0 b196.length)],Y6 v193 [(6,.row 1 (Ls b196))],7⟩) (λb196=>b196=e196) ?_ ?_
 ·refine Q5 (Qj h (λs228:List (List Int)×Int=>⟨Yy table_ (Y02 s228 []),Y6 v193 [(6,.row 1 (Ls s228.1))],7⟩) (Q2Y ⟨Yy table_ [(10,.adr 1 0 0),(11,.own 6 0 0),(12,iV 0)],Y6 v193 [(6,.row 1 (Ls []))],7⟩ (nlQ []) (wkI 7)) ?_);clear h;intro k228 s228 c228 h hk228;refine Q0 (Q0 (runQ hN λK hK=>?_));simp;repeat refine sdQ ?_
  refine hK _ ?_;clear hK K;refine tn (Q7 rfl (λg=>?_) λg=>?_)
  ·have g229:s228.2<(v193.fr.length:Int):=gQ;clear g;replace h:=if_l g229 h;refine Q8 (tn (Q0 (Q5 (Q0 (runQ hN λK hK=>?_)))));simp;(repeat refine sdQ ?_);refine hK _ ?_;clear hK K;refine tn (Q2 (st':=⟨Yy table_ (Y02 s228 [(13,.own 7 0 0)]),Y6 v193 [(6,.row 1 (Ls s228.1)),(7,.mix 1 [])],8⟩) (wkI 8) (Q0 (Q0 (runQ hN λK hK=>?_))));simp;(repeat refine sdQ ?_);refine hK _ (tn (Q2 (st':=⟨Yy table_ (Y02 s228 [(13,.own 7 0 0),(14,iV 0)]),Y6 v193 [(6,.row 1 (Ls s228.1)),(7,.mix 1 [])],8⟩) (wkI 8) ?_));clear hK K;replace⟨e230,h,h230⟩:=bind_some h;refine Q9 (λb230:List Int=>⟨Yy table_ (Y02 s228 [(13,.own 7 0 b230.length)]),Y6 v193 [(6,.row 1 (Ls s228.1)),(7,rI b230)],8⟩) (λb230=>b230=e230) ?_ ?_
   ·refine Q5 (Qj h (λs244:List Int×Int=>⟨Yy table_ (Y02 s228 [(13,.own 7 0 s244.1.length),(14,iV s244.2)]),Y6 v193 [(6,.row 1 (Ls s228.1)),(7,rI s244.1)],8⟩) (Q2Y ⟨Yy table_ (Y02 s228 [(13,.own 7 0 0),(14,iV 0)]),Y6 v193 [(6,.row 1 (Ls s228.1)),(7,rI [])],8⟩ (nlQ []) (wkI 8)) ?_);clear h;intro k244 s244 c244 h hk244;refine Q0 (Q0 (runQ hN λK hK=>?_));simp;(repeat refine sdQ ?_);refine hK _ ?_;clear hK K;refine tn (Q7 rfl (λg=>?_) λg=>?_)
    ·have g245:s244.2<(v193.fr.length:Int):=gQ;clear g;replace h:=if_l g245 h;refine Q8 (tn (Q0 (Q5 (runQ hN λK hK=>?_))));replace⟨a246,h⟩:=Q1 h;replace⟨a247,h⟩:=Q1 h;replace⟨a248,h⟩:=Q1 h;replace⟨a249,h⟩:=Q1 h;replace⟨a250,h⟩:=Q1 h;replace⟨a251,h⟩:=Q1 h;replace⟨a252,h⟩:=Q1 h;replace⟨a253,h⟩:=Q1 h;simp[at_I a246,at_L a247,at_I a248,at_I a249,at_I a250,at_L a251,at_I a252,at_I a253];(repeat with_reducible refine sdQ ?_);replace⟨v254,hv254,h⟩:=bind_some h;refine Q3 (Q4m _ _ _ v254 hv254) (.cons (.aggL (.cons .val (.cons .w (.cons .w (.cons .w (.cons .w .nil)))))) (.cons .val (.cons .val .nil))) ?_;replace⟨a255,h⟩:=Q1 h;replace⟨a256,h⟩:=Q1 h;(try simp only[qD,qH,zX]at a256);simp[at_I a246,at_L a247,at_I a248,at_I a249,at_I a250,at_L a251,at_I a252,at_I a253,(show(Is v254)[0]? =some [iV (ix v254 0)] from at_I (j:=0) a255),a256];(repeat refine sdQ ?_);refine hK _ ?_;clear hK K;refine bn (tn (Q2 (st':=⟨Yy table_ (Y02 s228 [(13,.own 7 0 ((s244.1++[ix v254 0]).length)),(14,iV s244.2)]),Y6 v193 [(6,.row 1 (Ls s228.1)),(7,rI (s244.1++[ix v254 0]))],8⟩) (wkQ [(0,0),(1,1),(2,2),(3,3),(4,4),(5,5),(6,6),(15,7)]) (runQ hN λK hK=>?_)));replace⟨a257,h⟩:=Q1 h;simp[Qh a257];(repeat refine sdQ ?_);refine hK _ ?_;clear hK K;cases h;exact rn (s':=(s244.1++[ix v254 0],s244.2+1)) hk244 (wkI 8)
    have g245:¬(s244.2<(v193.fr.length:Int)):=gQ;clear g;replace h:=if_r g245 h;refine Ql (tx (lx (bh ?_)));cases h;exact jn (b:=s244.1) hk244 (wkI 8)
   intro b230 hb230;have h:=h230;(try rw[←hb230]at h);clear h230;(try dsimp only at h);refine runQ hN λK hK=>?_;replace⟨a258,h⟩:=Q1 h;(try simp only[qD,qH,zX]at a258);simp[a258];(repeat refine sdQ ?_);refine hK _ ?_;clear hK K;refine bn (tn (Q2 (st':=⟨Yy table_ [(10,.adr 1 0 0),(11,.own 6 0 ((s228.1++[b230]).length)),(12,iV s228.2)],Y6 v193 [(6,.row 1 (Ls (s228.1++[b230])))],7⟩) (wkQ [(0,0),(1,1),(2,2),(3,3),(4,4),(5,5),(9,6)]) (runQ hN λK hK=>?_)));replace⟨a259,h⟩:=Q1 h;simp[Qh a259];(repeat refine sdQ ?_);refine hK _ ?_;clear hK K;cases h;exact rn (s':=(s228.1++[b230],s228.2+1)) hk228 (wkI 7)
  have g229:¬(s228.2<(v193.fr.length:Int)):=gQ;clear g;replace h:=if_r g229 h;refine Ql (tx (lx (bh ?_)));cases h;exact jn (b:=s228.1) hk228 (wkI 7)
 intro b196 hb196;have h:=h196;try rw[←hb196]at h
 clear h196;try dsimp only at h
 refine Q0 (runQ hN λK hK=>?_);simp;repeat with_reducible refine sdQ ?_
 replace⟨v260,hv260,h⟩:=bind_some h;refine Q3 (Q37 _ v260 hv260) (.cons .lst .nil) ?_;simp;repeat refine sdQ ?_
 refine hK _ (tn (Q2 (st':=⟨[(4,.adr 0 0 0),(5,iV 0)],Y0f v193 v260 b196 [],7⟩) (wkQ [(0,0),(2,1),(3,2),(4,3),(5,4),(7,5),(6,6)]) (Qe ?_)));clear hK K;have hr:=yJ h;rw[←hr];refine⟨_,(.cell Q3x rfl rfl rfl (by simp) (by simp) (.tmp .nil)),?_⟩;refine⟨(.agg rfl (.one rfl rfl .nil)),[iV v193.n,lI v193.fr,lI v193.to,lI v193.id,.lst true 1 (Ls v193.cs),iV 0,.lst true 1 (Ls v260),.lst true 1 (Ls b196),iV 0],[1,2,3,4,5,6],by simp[BN],by simp,(UpL.refl _)⟩
section
attribute [local simp] Qi QP Qv Q1l QN
abbrev OrM(rel t:List (List Int))(a b c:Int):Prop:=Rl rel a b→Rl rel (ix (rx t a) c) (ix (rx t b) c)∧Rl rel (ix (rx t c) a) (ix (rx t c) b)
set_option maxHeartbeats 2000000 in
theorem Q5R{rel t:List (List Int)}{n:Nat}(h:Sqr rel n)(hn:n≤100)(ht:t.length≤100):Gd (QJ rel t) λr=>r.2=0→MN r.1:=by
 have hl:=h.1;unfold QJ;refine Gd.bind (P:=λb=>b=false→PreO rel∧MonT t∧rel.length=t.length) (Gd.bind (Q9v (by omega)) λb hb=>Gd.ite (λ_=>Gd.som λq=>by cases q) λh1=>?_) λb hb=>Gd.ite (λ_=>Gd.som λq=>by simp at q) λh1=>?_
 ·have h1:=hb (by simpa using h1);rw[e_monT (by omega)]
  by_cases h2:MonT t
  ·rw[Qk h2];simp only[yA,not_true_eq_false,if_false];exact Gd.som λq=>⟨h1,h2,by simp at q;omega⟩
  rw[Qd h2];exact Gd.som λq=>by cases q
 obtain⟨hP,hM,hlen⟩:=hb (by simpa using h1);have hT:=hM.2.1;have hs:=hT.sqr;have hp:=hM.1;have cel:∀i j:Nat,i<t.length→j<t.length→(i:Int)<(t.length:Int)∧(j:Int)<((rx t i).length:Int)∧0≤ix (rx t i) j∧ix (rx t i) j<(t.length:Int):=λi j hi hj=>hT.at (by omega) (by omega);refine Gd.bind (P:=SQ (λ_=>∀a:Nat,a<t.length→∀b:Nat,b<t.length→∀c:Nat,c<t.length→OrM rel t a b c) (λr=>r.2=0→MN r.1)) (Gd.loop t.length (λi s=>s=(i:Int)∧∀a:Nat,a<i→∀b:Nat,b<t.length→∀c:Nat,c<t.length→OrM rel t a b c) (by omega) ⟨rfl,λa ha=>by omega⟩ λa s ha hs1=>?_) λe he=>?_
 ·obtain⟨rfl,hA⟩:=hs1;refine Gd.ite (λh2=>?_) λh2=>Gd.som (show∀a:Nat,a<t.length→_ from λx hx=>hA x (by omega));have ha:a<t.length:=by omega
  refine Gd.bind (P:=SQ (λ_=>∀b:Nat,b<t.length→∀c:Nat,c<t.length→OrM rel t a b c) (λr=>r.2=0→MN r.1)) (Gd.bind (P:=SQ (λr=>r.2=0→MN r.1) (λ_=>∀b:Nat,b<t.length→∀c:Nat,c<t.length→OrM rel t a b c)) (Gd.loop t.length (λi s=>s=(i:Int)∧∀b:Nat,b<i→∀c:Nat,c<t.length→OrM rel t a b c) (by omega) ⟨rfl,λa ha=>by omega⟩ λb s hb hs1=>?_) λe he=>?_) λe he=>?_
  ·obtain⟨rfl,hB⟩:=hs1;refine Gd.ite (λh3=>?_) λh3=>Gd.som (show∀b:Nat,b<t.length→_ from λx hx=>hB x (by omega));have hb:b<t.length:=(by omega);refine Gd.bind (P:=SQ (λ_=>∀c:Nat,c<t.length→OrM rel t a b c) (λr=>r.2=0→MN r.1)) (Gd.bind (P:=SQ (λr=>r.2=0→MN r.1) (λ_=>∀c:Nat,c<t.length→OrM rel t a b c)) (Gd.loop t.length (λi s=>s=(i:Int)∧∀c:Nat,c<i→OrM rel t a b c) (by omega) ⟨rfl,λa ha=>by omega⟩ λc s hc hs1=>?_) λe he=>?_) λe he=>?_
   ·obtain⟨rfl,hC⟩:=hs1;refine Gd.ite (λh4=>?_) λh4=>Gd.som (show∀c:Nat,c<t.length→_ from λx hx=>hC x (by omega));have hc:c<t.length:=(by omega);have r1:=h.row (i:=(a:Int)) (by omega);have q1:=cel a c ha hc;have q2:=cel b c hb hc;have q3:=cel c a hc ha;have q4:=cel c b hc hb;have r2:=h.row (i:=ix (rx t a) c) (by omega);have r3:=h.row (i:=ix (rx t c) a) (by omega);refine Gd.bind (P:=λx=>x=false→OrM rel t a b c) (Gd.ass (by omega) (Gd.ass (by omega) (Gd.ite (λh5=>?_) λh5=>Gd.som λ_ q=>absurd q h5))) λx hx=>Gd.ite (λ_=>Gd.som λq=>by simp at q) λh6=>?_
    ·refine Gd.ass (by omega) (Gd.ass (by omega) (Gd.ass (by omega) (Gd.ass (by omega) (Gd.ass (by omega) (Gd.ass (by omega) (Gd.ite (λ_=>Gd.som λq=>by cases q) λh6=>?_))))));exact Gd.ass (by omega) (Gd.ass (by omega) (Gd.ass (by omega) (Gd.ass (by omega) (Gd.ass (by omega) (Gd.ass (by omega) (Gd.som λq _=>⟨Classical.not_not.1 h6,by simpa using q⟩))))))
    have hx:=hx (by simpa using h6);refine Gd.ass (by unfold B64;omega) (Gd.som ⟨by omega,rfl,λk hk=>?_⟩)
    by_cases hkc:k=c
    ·subst hkc;exact hx
    exact hC k (by omega)
   ·cases e with
    |inl p=>exact Gd.som he
    |inr p=>exact Gd.som he
   cases e with
   |inl p=>
    refine Gd.ass (by unfold B64;omega) (Gd.som ⟨by omega,rfl,λk hk=>?_⟩)
    by_cases hkc:k=b
    ·subst hkc;exact he
    exact hB k (by omega)
   |inr p=>exact Gd.som he
  ·cases e with
   |inl p=>exact Gd.som he
   |inr p=>exact Gd.som he
  cases e with
  |inl p=>
   refine Gd.ass (by unfold B64;omega) (Gd.som ⟨by omega,rfl,λk hk=>?_⟩)
   by_cases hkc:k=a
   ·subst hkc;exact he
   exact hA k (by omega)
  |inr p=>exact Gd.som he
 cases e with
 |inr p=>exact Gd.som he
 |inl p=>
  have hO:∀a:Nat,a<t.length→∀b:Nat,b<t.length→∀c:Nat,c<t.length→OrM rel t a b c:=he;refine Gd.bind (g_poset h hn) λc hc=>?_;have bd:=hc.bd;have lt:=hc.p.lt;unfold Q3O;refine Gd.bind (P:=λ_=>True) (Gd.bind (P:=λ_=>True) (Gd.ite (λ_=>Gd.som trivial) λ_=>Gd.som trivial) λr _=>Gd.som trivial) λv _=>Gd.ite (λ_=>Gd.som λq=>by simp at q) λ_=>?_;refine Gd.bind (P:=λb=>b.length=c.fr.length∧∀r∈b,r.length=c.fr.length) (Gd.loop c.fr.length (λi s=>s.2=(i:Int)∧s.1.length=i∧∀r∈s.1,r.length=c.fr.length) (by omega) ⟨rfl,rfl,λr hr=>by cases hr⟩ λi s hi hs1=>?_) λb hb=>?_
  ·obtain⟨rows,c'⟩:=s;obtain⟨g1,g2,g3⟩:=hs1;simp only at g1 g2 g3⊢;subst g1;refine Gd.ite (λh3=>?_) λh3=>Gd.som ⟨by omega,g3⟩;refine Gd.bind (P:=λr=>r.length=c.fr.length) (Gd.loop c.fr.length (λj s=>s.2=(j:Int)∧s.1.length=j) (by omega) ⟨rfl,rfl⟩ λj s hj hs1=>?_) λr hr=>Gd.ass (by simp;omega) (Gd.ass (by unfold B64;omega) (Gd.som ⟨by omega,rfl,by simpa using g2,λx hx=>?_⟩))
   ·obtain⟨row,c'⟩:=s;obtain⟨g4,g5⟩:=hs1;simp only at g4 g5⊢;subst g4;refine Gd.ite (λh4=>?_) λh4=>Gd.som (by show row.length=_;omega);have e1:=hc.p.rg i (by omega);have e2:=hc.p.rg j (by omega);obtain⟨a,ea⟩:=yT e1.1.1;obtain⟨b,eb⟩:=yT e1.2.1.1;obtain⟨x,ex⟩:=yT e2.1.1;obtain⟨y,ey⟩:=yT e2.2.1.1;rw[ea,eb,ex,ey];rw[ea,eb]at e1;rw[ex,ey]at e2;have q1:=cel a x (by omega) (by omega);have q2:=cel b y (by omega) (by omega);have q3:=cel b x (by omega) (by omega);have hhom:∃k:Nat,k<c.fr.length∧ix c.fr k=ix (rx t a) x∧ix c.to k=ix (rx t b) y:=by
     have o1:=(hO a (by omega) b (by omega) x (by omega) e1.2.2).1;have o2:=(hO x (by omega) y (by omega) b (by omega) e2.2.2).2;obtain⟨u,eu⟩:=yT q1.2.2.1;obtain⟨v,ev⟩:=yT q2.2.2.1;obtain⟨w,ew⟩:=yT q3.2.2.1;rw[eu,ew]at o1;rw[ew,ev]at o2;have o3:=hP.tr u w v (by omega) (by omega) (by omega) o1 o2;rw[eu,ev];exact hc.p.ex u v ⟨by omega,by omega⟩ o3
    refine Gd.ass (by omega) (Gd.ass (by omega) (Gd.ass (by omega) (Gd.ass (by omega) (Gd.ass (by omega) (Gd.ass (by omega) (Gd.ass (by omega) (Gd.ass (by omega) (Gd.bind (g_hom lt (by omega) _ _) λL hL=>?_))))))));have:=hL hhom;exact Gd.ass (by omega) (Gd.ass (by simp;omega) (Gd.ass (by unfold B64;omega) (Gd.som ⟨by omega,rfl,by simpa using g5⟩)))
   rcases List.mem_append.1 hx with h|h
   ·exact g3 x h
   rw[List.mem_singleton.1 h];exact hr
  rw[e_own2 (t:=t) (by omega) (λr hr=>by have:=hs.2 r hr;omega)];have r00:=hP.rf 0 (by omega);obtain⟨k,hk,_⟩:=hc.p.ex 0 0 ⟨by omega,by omega⟩ r00;have hb0:=hb.2 _ (rx_mem (t:=b) (i:=0) (by have:=hb.1;omega));exact Gd.som λ_=>⟨⟨by have:=hb.1;show 0<b.length;omega,by show 0<(rx b 0).length;omega⟩,hp,by show c.fr.length≤_;omega⟩
end
end Go.Vc.T
