/- A part of the proof. -/
import Derived.Test.YtgaeldalleellaaGreatF9
set_option maxRecDepth 100000
set_option maxHeartbeats 4000000
set_option linter.unusedSimpArgs false
set_option linter.unusedVariables false
set_option linter.unusedSectionVars false
set_option linter.unnecessarySimpa false

open Option renaming bind_some→yT
open Option.some renaming inj→yJ
open List renaming length_append→qD
open Sum renaming inl→yU
open Go.Vc.Ctl renaming ret→yV
open Nat renaming le_refl→qE
open Go.Vc.Ctl renaming next→yK
open Sum renaming inr→yW
open Bool renaming false_eq_true→zG
open Go.Vc.UpL renaming refl→yM
open List renaming length_cons→qH
open List renaming length_nil→zS
open Nat renaming zero_le→zV
open List renaming getElem_mem→zW
open List renaming getElem_of_mem→zY
open Nat renaming mul_le_mul→yZ
noncomputable section
namespace Go.Vc.T
open Go Go.Vc Go.Proofs
attribute [local simp] unk unA unE unT unC flat eL eI Qj QQ Cat.cells
def Q1t(c_:Cat)(x_:Int):Option (List Int):=
 (Qd (σ:=List Int×Int) (ε:=List Int) (λs8=>
  if s8.2<(c_.fr.length:Int)then
   (
    ass (0≤s8.2∧s8.2<(c_.fr.length:Int))<|
    if(ix c_.fr s8.2)=x_ then
     ass ((s8.1++[s8.2]).length≤1073741824)<|
     some (s8.1++[s8.2])
    else
     some s8.1:Option (List Int)).bind λb10=>
   ass (B64 (s8.2+1))<|
   some (yK (b10,s8.2+1))
  else
   some (yV s8.1)) fuel ([],0)).bind λb1=>
 some b1
@[simp] abbrev Y0o(a:Cat)(b:List (Nat×AV)):List (Nat×AV):=(12,lI a.fr)::(13,iV (a.fr.length:Int))::b
theorem Q4Y(c_:Cat)(x_:Int)(r:List Int)(h:Q1t c_ x_=some r):Contract Tryz.prog 104 (Y0z c_ [iV x_]) (lI r):=by
 refine Q9 (rvs:=[.tmp 4]) (rs:=[lI r]) Tryz.func104 rfl rfl rfl rfl (by simp[Tryz.f104]) λF hN hP=>?_;unfold Q1t at h;refine Q0 (runQ hN λK hK=>?_);simp;repeat refine sdQ ?_
 refine hK _ ?_;clear hK K;refine tn (Q4 (st':=⟨YF c_ [(1,iV x_)],[],0⟩) (wkQ []) (Q0 (runQ hN λK hK=>?_)));simp;repeat refine sdQ ?_
 refine hK _ ?_;clear hK K;refine tn (Q4 (st':=⟨YF c_ (Y0q x_ []),[(0,.mix 1 [])],1⟩) (wkQ [(0,0)]) (Q0 (Q0 (runQ hN λK hK=>?_))));simp;repeat refine sdQ ?_
 refine hK _ (tn (Q4 (st':=⟨Y0q x_ (Y0o c_ [(14,iV 0)]),[(0,.mix 1 [])],1⟩) (wkQ [(0,0)]) ?_));clear hK K;replace⟨e1,h,h1⟩:=bind_some h;refine Qc (λb1:List Int=>⟨Y0e b1 [],[(0,rI b1)],1⟩) (λb1=>b1=e1) ?_ ?_
 ·refine Q5 (Qm h (λs8:List Int×Int=>⟨(1,iV x_)::Y0p s8 (Y0o c_ [(14,iV s8.2)]),[(0,rI s8.1)],1⟩) (Q31 ⟨Y0q x_ (Y0o c_ [(14,iV 0)]),[(0,rI [])],1⟩ (Wk.nils [] (by simp) (by simp) (by simp[nlA]) (by simp[entN,nlL,nlA,BN]) (by simp)) (wkQ [(0,0)])) ?_);clear h;intro k8 s8 c8 h hk8;refine Q0 (runQ hN λK hK=>?_);simp;repeat refine sdQ ?_
  refine hK _ ?_;clear hK K;refine tn (Q0 (Q6 rfl (λg=>?_) λg=>?_))
  ·have g9:s8.2<(c_.fr.length:Int):=gQ;clear g;replace h:=if_l g9 h;refine Q7 (tn (Q0 ?_));replace⟨e10,h,h10⟩:=bind_some h;refine Qc (λb10:List Int=>⟨(1,iV x_)::Y0e b10 (Y0o c_ [(14,iV s8.2)]),[(0,rI b10)],1⟩) (λb10=>b10=e10) ?_ ?_
   ·refine Q5 (Q0 (runQ hN λK hK=>?_));replace⟨a11,h⟩:=Q1 h;simp[at_I a11];(repeat refine sdQ ?_);refine hK _ ?_;clear hK K;refine tn (Q4 (st':=⟨(1,iV x_)::Y0p s8 ((6,iV s8.2)::(7,iV (ix c_.fr s8.2))::Y0o c_ [(14,iV s8.2)]),[(0,rI s8.1)],1⟩) (wkQ [(0,0)]) (Q0 (runQ hN λK hK=>?_)));simp;(repeat refine sdQ ?_);refine hK _ ?_;clear hK K;refine tn (Q6 rfl (λg=>?_) λg=>?_)
    ·have g12:(ix c_.fr s8.2)=x_:=gQ;clear g;replace h:=if_l g12 h;refine runQ hN λK hK=>?_;replace⟨a13,h⟩:=Q1 h;(try simp only[qD,qH,zS]at a13);simp[a13];(repeat refine sdQ ?_);refine hK _ (bn ?_);clear hK K;exact jn (b:=s8.1++[s8.2]) (yJ h) (wkQ [(2,0)])
    have g12:¬((ix c_.fr s8.2)=x_):=gQ;clear g;replace h:=if_r g12 h;refine Q7 (bn ?_);exact jn (b:=s8.1) (yJ h) (wkQ [(0,0)])
   intro b10 hb10;have h:=h10;(try rw[←hb10]at h);clear h10;(try dsimp only at h);refine runQ hN λK hK=>?_;replace⟨a14,h⟩:=Q1 h;simp[Qi a14];(repeat refine sdQ ?_);refine hK _ ?_;clear hK K;cases h;exact rn (s':=(b10,s8.2+1)) hk8 (wkQ [(0,0)])
  have g9:¬(s8.2<(c_.fr.length:Int)):=gQ;clear g;replace h:=if_r g9 h;refine Qk (tx (lx (bh ?_)));cases h;exact jn (b:=s8.1) hk8 (wkQ [(0,0)])
 intro b1 hb1;have h:=h1;try rw[←hb1]at h
 clear h1;try dsimp only at h
 refine Q0 (runQ hN λK hK=>?_);simp;repeat refine sdQ ?_
 refine hK _ (tn (Q4 (st':=⟨[(4,.own 0 0 b1.length)],[(0,rI b1)],1⟩) (wkQ [(0,0)]) (Qh ?_)));clear hK K;have hr:=yJ h;rw[←hr];refine⟨_,(.tmp .nil),?_⟩;refine⟨(.one rfl rfl .nil),[lI b1],[0],by simp[BN],by simp,(yM _)⟩
attribute [local simp] unk unA unE unT unC flat eL eI Qj QQ Qz Cat.cells XD.cells
def QO(w_:XD)(f_:Int)(g_:Int):Option Bool:=
 ass (0≤f_∧f_<(w_.c_.to.length:Int))<|
 (Q1t w_.c_ (ix w_.c_.to f_)).bind λv2=>
 (Qd (σ:=Bool×Int) (ε:=Bool) (λs12=>
  if s12.2<(v2.length:Int)then
   (
    ass (0≤s12.2∧s12.2<(v2.length:Int))<|
    if s12.1=true then
     some true
    else
     ass (0≤ix v2 s12.2∧ix v2 s12.2<(w_.there_.length:Int))<|
     if(gx w_.there_ (ix v2 s12.2))=true then
      (Qq w_.c_ f_ (ix v2 s12.2)).bind λv19=>
      (Qq w_.c_ g_ (ix v2 s12.2)).bind λv20=>
      some (v19==v20)
     else
      some false:Option (Bool)).bind λb14=>
   ass (B64 (s12.2+1))<|
   some (yK (b14,s12.2+1))
  else
   some (yV s12.1)) fuel (false,0)).bind λb3=>
 if¬(b3=true)then
  some true
 else
  ass (0≤f_∧f_<(w_.c_.fr.length:Int))<|
  (Q18 w_.c_ (ix w_.c_.fr f_)).bind λv24=>
  (Qd (σ:=Int) (ε:=Unit⊕Bool) (λs35=>
   if s35<(v24.length:Int)then
    ass (0≤s35∧s35<(v24.length:Int))<|
    (
     ass (0≤ix v24 s35∧ix v24 s35<(w_.there_.length:Int))<|
     if(gx w_.there_ (ix v24 s35))=true then
      (Qq w_.c_ (ix v24 s35) f_).bind λv41=>
      (Qq w_.c_ (ix v24 s35) g_).bind λv42=>
      some (v41==v42)
     else
      some false:Option (Bool)).bind λb38=>
    if b38=true then
     some (yV (yW true))
    else
     ass (B64 (s35+1))<|
     some (yK (s35+1))
   else
    some (yV (yU ()))) fuel 0).bind λe25=>
  match e25 with
  | .inl b25=>
   some false
  | .inr p25=>
   some p25
@[simp] abbrev YJ(a b:Int)(c:XD)(d:List (Nat×AV)):List (Nat×AV):=(1,iV a)::(2,iV b)::(7,.rptr (Cat.cells true c.c_))::d
theorem Q3A(w_:XD)(f_:Int)(g_:Int)(r:Bool)(h:QO w_ f_ g_=some r):Contract Tryz.prog 92 [.rptr (w_.cells true),iV f_,iV g_] (.val (.bool r)):=by
 refine Q9 (rvs:=[.tmp 6]) (rs:=[.val (.bool r)]) Tryz.func92 rfl rfl rfl rfl (by simp[Tryz.f92]) λF hN hP=>?_;unfold QO at h;refine Q0 (runQ hN λK hK=>?_);simp;repeat refine sdQ ?_
 refine hK _ ?_;clear hK K;refine tn (Q4 (st':=⟨Y0 w_ (YX f_ g_ []),[],0⟩) (wkQ []) (Q0 (runQ hN λK hK=>?_)));simp;repeat refine sdQ ?_
 refine hK _ ?_;clear hK K;refine tn (Q4 (st':=⟨Y0 w_ (YJ f_ g_ w_ []),[],0⟩) (wkQ []) (Q0 (runQ hN λK hK=>?_)));simp;repeat refine sdQ ?_
 refine hK _ ?_;clear hK K;refine tn (Q4 (st':=⟨Y0 w_ (YJ f_ g_ w_ [(8,.val (.bool false))]),[],0⟩) (wkQ []) (Q0 (Q0 (runQ hN λK hK=>?_))));replace⟨a1,h⟩:=Q1 h;simp[at_I a1];repeat with_reducible refine sdQ ?_
 replace⟨v2,hv2,h⟩:=bind_some h;refine Q2 (Q4Y _ _ v2 hv2) (.cons (.preT (by simp[CN])) (.cons .val .nil)) ?_;simp[at_I a1];repeat refine sdQ ?_
 refine hK _ (tn (Q4 (st':=⟨Y0 w_ (YJ f_ g_ w_ [(8,.val (.bool false)),(25,.own 0 0 v2.length),(26,iV (v2.length:Int)),(27,iV 0)]),[(0,rI v2)],1⟩) (wkQ [(0,0)]) ?_));clear hK K;replace⟨e3,h,h3⟩:=bind_some h;refine Qc (λb3:Bool=>⟨Y0 w_ (YJ f_ g_ w_ [(8,.val (.bool b3))]),[],0⟩) (λb3=>b3=e3) ?_ ?_
 ·refine Q5 (Qm h (λs12:Bool×Int=>⟨Y0 w_ (YJ f_ g_ w_ [(8,.val (.bool s12.1)),(25,.own 0 0 v2.length),(26,iV (v2.length:Int)),(27,iV s12.2)]),[(0,rI v2)],1⟩) (wkQ [(0,0)]) ?_);clear h;intro k12 s12 c12 h hk12;refine Q0 (runQ hN λK hK=>?_);simp;repeat refine sdQ ?_
  refine hK _ ?_;clear hK K;refine tn (Q0 (Q6 rfl (λg=>?_) λg=>?_))
  ·have g13:s12.2<(v2.length:Int):=gQ;clear g;replace h:=if_l g13 h;refine Q7 (tn (Q0 ?_));replace⟨e14,h,h14⟩:=bind_some h;refine Qc (λb14:Bool=>⟨Y0 w_ (YJ f_ g_ w_ [(8,.val (.bool b14)),(25,.own 0 0 v2.length),(26,iV (v2.length:Int)),(27,iV s12.2)]),[(0,rI v2)],1⟩) (λb14=>b14=e14) ?_ ?_
   ·refine Q5 (Q0 (runQ hN λK hK=>?_));replace⟨a15,h⟩:=Q1 h;simp[at_I a15];(repeat refine sdQ ?_);refine hK _ ?_;clear hK K;refine tn (Q4 (st':=⟨Y0 w_ (YJ f_ g_ w_ [(8,.val (.bool s12.1)),(10,iV (ix v2 s12.2)),(25,.own 0 0 v2.length),(26,iV (v2.length:Int)),(27,iV s12.2)]),[(0,rI v2)],1⟩) (wkQ [(0,0)]) (runQ hN λK hK=>?_));simp;(repeat with_reducible refine sdQ ?_);refine Qy (λg=>?_) (λg=>?_)
    ·have g16:¬(s12.1=true):=gQ;clear g;replace h:=if_r g16 h;replace⟨a17,h⟩:=Q1 h;simp[at_B a17];(repeat with_reducible refine sdQ ?_);refine Qy (λg=>?_) (λg=>?_)
     ·have g18:(gx w_.there_ (ix v2 s12.2))=true:=gQ;clear g;replace h:=if_l g18 h;simp[at_B a17];(repeat with_reducible refine sdQ ?_);replace⟨v19,hv19,h⟩:=bind_some h;refine Q2 (QH _ _ _ v19 hv19) (.cons (.preT (by simp[CN])) (.cons .val (.cons .val .nil))) ?_;simp[at_B a17];(repeat with_reducible refine sdQ ?_);replace⟨v20,hv20,h⟩:=bind_some h;refine Q2 (QH _ _ _ v20 hv20) (.cons (.preT (by simp[CN])) (.cons .val (.cons .val .nil))) ?_;simp[at_B a17];(repeat refine sdQ ?_);refine hK _ (bn ?_);clear hK K;exact jn (b:=v19==v20) (yJ h) (wkQ [(0,0)])
     have g18:¬((gx w_.there_ (ix v2 s12.2))=true):=gQ;clear g;replace h:=if_r g18 h;simp[at_B a17];(repeat refine sdQ ?_);refine hK _ (bn ?_);clear hK K;exact jn (b:=false) (yJ h) (wkQ [(0,0)])
    have g16:s12.1=true:=gQ;clear g;replace h:=if_l g16 h;simp;(repeat refine sdQ ?_);refine hK _ (bn ?_);clear hK K;exact jn (b:=true) (yJ h) (wkQ [(0,0)])
   intro b14 hb14;have h:=h14;(try rw[←hb14]at h);clear h14;(try dsimp only at h);refine runQ hN λK hK=>?_;replace⟨a21,h⟩:=Q1 h;simp[Qi a21];(repeat refine sdQ ?_);refine hK _ ?_;clear hK K;cases h;exact rn (s':=(b14,s12.2+1)) hk12 (wkQ [(0,0)])
  have g13:¬(s12.2<(v2.length:Int)):=gQ;clear g;replace h:=if_r g13 h;refine Qk (tx (lx (bh ?_)));cases h;exact jn (b:=s12.1) hk12 (wkQ [])
 intro b3 hb3;have h:=h3;try rw[←hb3]at h
 clear h3;try dsimp only at h
 refine Q0 (Q0 (runQ hN λK hK=>?_));simp;repeat refine sdQ ?_
 refine hK _ ?_;clear hK K;refine tn (Q6 rfl (λg=>?_) λg=>?_)
 ·have g22:¬(b3=true):=gQ;clear g;replace h:=if_l g22 h;refine Q0 (runQ hN λK hK=>?_);simp;repeat refine sdQ ?_
  refine hK _ (tn (Q4 (st':=⟨[(6,.val (.bool true))],[],0⟩) (wkQ []) (Qh (tr ?_))));clear hK K;have hr:=yJ h;rw[←hr];refine⟨_,(.tmp .nil),?_⟩;refine⟨(.one rfl rfl .nil),[.val (.bool true)],[],by simp[BN],by simp,(yM _)⟩
 have g22:¬(¬(b3=true)):=gQ;clear g;replace h:=if_r g22 h;refine Q7 (tn (Q0 (Q0 (runQ hN λK hK=>?_))));replace⟨a23,h⟩:=Q1 h;simp[at_I a23];repeat with_reducible refine sdQ ?_
 replace⟨v24,hv24,h⟩:=bind_some h;refine Q2 (Q3z _ _ v24 hv24) (.cons (.preT (by simp[CN])) (.cons .val .nil)) ?_;simp[at_I a23];repeat refine sdQ ?_
 refine hK _ (tn (Q4 (st':=⟨Y0 w_ (YJ f_ g_ w_ [(63,.own 0 0 v24.length),(64,iV (v24.length:Int)),(65,iV 0)]),[(0,rI v24)],1⟩) (wkQ [(0,0)]) ?_));clear hK K;replace⟨e25,h,h25⟩:=bind_some h;refine Qc (λb25:Unit=>⟨[],[],0⟩) (λb25=>yU b25=e25) ?_ ?_
 ·refine Q5 (Qm h (λs35:Int=>⟨Y0 w_ (YJ f_ g_ w_ [(63,.own 0 0 v24.length),(64,iV (v24.length:Int)),(65,iV s35)]),[(0,rI v24)],1⟩) (wkQ [(0,0)]) ?_);clear h;intro k35 s35 c35 h hk35;refine Q0 (runQ hN λK hK=>?_);simp;repeat refine sdQ ?_
  refine hK _ ?_;clear hK K;refine tn (Q0 (Q6 rfl (λg=>?_) λg=>?_))
  ·have g36:s35<(v24.length:Int):=gQ;clear g;replace h:=if_l g36 h;refine Q7 (tn (Q0 (Q5 (Q0 (runQ hN λK hK=>?_)))));replace⟨a37,h⟩:=Q1 h;simp[at_I a37];(repeat refine sdQ ?_);refine hK _ (tn (Q4 (st':=⟨Y0 w_ (YJ f_ g_ w_ [(12,iV (ix v24 s35)),(63,.own 0 0 v24.length),(64,iV (v24.length:Int)),(65,iV s35)]),[(0,rI v24)],1⟩) (wkQ [(0,0)]) (Q0 ?_)));clear hK K;replace⟨e38,h,h38⟩:=bind_some h;refine Qc (λb38:Bool=>⟨Y0 w_ (YJ f_ g_ w_ [(63,.own 0 0 v24.length),(64,iV (v24.length:Int)),(65,iV s35),(86,.val (.bool b38))]),[(0,rI v24)],1⟩) (λb38=>b38=e38) ?_ ?_
   ·refine runQ hN λK hK=>?_;replace⟨a39,h⟩:=Q1 h;simp[at_B a39];(repeat with_reducible refine sdQ ?_);refine Qy (λg=>?_) (λg=>?_)
    ·have g40:(gx w_.there_ (ix v24 s35))=true:=gQ;clear g;replace h:=if_l g40 h;simp[at_B a39];(repeat with_reducible refine sdQ ?_);replace⟨v41,hv41,h⟩:=bind_some h;refine Q2 (QH _ _ _ v41 hv41) (.cons (.preT (by simp[CN])) (.cons .val (.cons .val .nil))) ?_;simp[at_B a39];(repeat with_reducible refine sdQ ?_);replace⟨v42,hv42,h⟩:=bind_some h;refine Q2 (QH _ _ _ v42 hv42) (.cons (.preT (by simp[CN])) (.cons .val (.cons .val .nil))) ?_;simp[at_B a39];(repeat refine sdQ ?_);refine hK _ ?_;exact jn (b:=v41==v42) (yJ h) (wkQ [(0,0)])
    have g40:¬((gx w_.there_ (ix v24 s35))=true):=gQ;clear g;replace h:=if_r g40 h;simp[at_B a39];(repeat refine sdQ ?_);refine hK _ ?_;exact jn (b:=false) (yJ h) (wkQ [(0,0)])
   intro b38 hb38;have h:=h38;(try rw[←hb38]at h);clear h38;(try dsimp only at h);refine Q6 rfl (λg=>?_) λg=>?_
   ·have g43:b38=true:=gQ;clear g;replace h:=if_l g43 h;refine Q0 (runQ hN λK hK=>?_);simp;(repeat refine sdQ ?_);refine hK _ (tn (Q4 (st':=⟨[(6,.val (.bool true))],[],0⟩) (wkQ []) (Qh (br (tr (lr (br (tr ?_))))))));clear hK K;cases h;have q:_=e25:=hk35;have h:=h25;rw[←q]at h;clear q;(try dsimp only at h);have hr:=yJ h;rw[←hr];refine⟨_,(.tmp .nil),?_⟩;refine⟨(.one rfl rfl .nil),[.val (.bool true)],[],by simp[BN],by simp,(yM _)⟩
   have g43:¬(b38=true):=gQ;clear g;replace h:=if_r g43 h;refine Q7 (bn (tn (runQ hN λK hK=>?_)));replace⟨a44,h⟩:=Q1 h;simp[Qi a44];(repeat refine sdQ ?_);refine hK _ ?_;clear hK K;cases h;exact rn (s':=s35+1) hk35 (wkQ [(0,0)])
  have g36:¬(s35<(v24.length:Int)):=gQ;clear g;replace h:=if_r g36 h;refine Qk (tx (lx (bh ?_)));cases h;exact jn (b:=()) hk35 (wkQ [])
 intro b25 hb25;have h:=h25;try rw[←hb25]at h
 clear h25;try dsimp only at h
 refine Q0 (runQ hN λK hK=>?_);simp;repeat refine sdQ ?_
 refine hK _ (tn (Q4 (st':=⟨[(6,.val (.bool false))],[],0⟩) (wkQ []) (Qh ?_)));clear hK K;have hr:=yJ h;rw[←hr];refine⟨_,(.tmp .nil),?_⟩;refine⟨(.one rfl rfl .nil),[.val (.bool false)],[],by simp[BN],by simp,(yM _)⟩
attribute [local simp] unk unA unE unT unC flat eL eI Qj QQ Cat.cells
def Q1K(c_:Cat)(w_:List Int)(f_:Int)(g_:Int):Option Bool:=
 (Qd (σ:=Bool×Int) (ε:=Bool) (λs13=>
  if s13.2<(w_.length:Int)then
   (
    if s13.1=true then
     some true
    else
     ass (0≤s13.2∧s13.2<(w_.length:Int))<|
     ass (0≤ix w_ s13.2∧ix w_ s13.2<(c_.fr.length:Int))<|
     ass (0≤f_∧f_<(c_.to.length:Int))<|
     if(ix c_.fr (ix w_ s13.2))=(ix c_.to f_)then
      ass (0≤s13.2∧s13.2<(w_.length:Int))<|
      (Qt c_ f_ (ix w_ s13.2)).bind λv22=>
      ass (0≤s13.2∧s13.2<(w_.length:Int))<|
      (Qt c_ g_ (ix w_ s13.2)).bind λv24=>
      some (v22==v24)
     else
      some false:Option (Bool)).bind λb15=>
   ass (B64 (s13.2+1))<|
   some (yK (b15,s13.2+1))
  else
   some (yV s13.1)) fuel (false,0)).bind λb1=>
 if¬(b1=true)then
  some true
 else
  (Qd (σ:=Int) (ε:=Unit⊕Bool) (λs40=>
   if s40<(w_.length:Int)then
    (
     ass (0≤s40∧s40<(w_.length:Int))<|
     ass (0≤ix w_ s40∧ix w_ s40<(c_.to.length:Int))<|
     ass (0≤f_∧f_<(c_.fr.length:Int))<|
     if(ix c_.to (ix w_ s40))=(ix c_.fr f_)then
      ass (0≤s40∧s40<(w_.length:Int))<|
      (Qt c_ (ix w_ s40) f_).bind λv48=>
      ass (0≤s40∧s40<(w_.length:Int))<|
      (Qt c_ (ix w_ s40) g_).bind λv50=>
      some (v48==v50)
     else
      some false:Option (Bool)).bind λb42=>
    if b42=true then
     some (yV (yW true))
    else
     ass (B64 (s40+1))<|
     some (yK (s40+1))
   else
    some (yV (yU ()))) fuel 0).bind λe27=>
  match e27 with
  | .inl b27=>
   some false
  | .inr p27=>
   some p27
theorem Q6G(c_:Cat)(w_:List Int)(f_:Int)(g_:Int)(r:Bool)(h:Q1K c_ w_ f_ g_=some r):Contract Tryz.prog 79 (Y0w c_ [lI w_,iV f_,iV g_]) (.val (.bool r)):=by
 refine Q9 (rvs:=[.tmp 8]) (rs:=[.val (.bool r)]) Tryz.func79 rfl rfl rfl rfl (by simp[Tryz.f79]) λF hN hP=>?_;unfold Q1K at h;refine Q0 (runQ hN λK hK=>?_);simp;repeat refine sdQ ?_
 refine hK _ ?_;clear hK K;refine tn (Q4 (st':=⟨Ym w_ f_ g_ [],Y6 c_ [],1⟩) (wkQ [(0,0)]) (Q0 (runQ hN λK hK=>?_)));simp;repeat refine sdQ ?_
 refine hK _ ?_;clear hK K;refine tn (Q4 (st':=⟨Ym w_ f_ g_ [(9,.val (.bool false))],Y6 c_ [],1⟩) (wkQ [(0,0)]) (Q0 (Q0 (runQ hN λK hK=>?_))));simp;repeat refine sdQ ?_
 refine hK _ (tn (Q4 (st':=⟨Ym w_ f_ g_ [(9,.val (.bool false)),(10,iV 0)],Y6 c_ [],1⟩) (wkQ [(0,0)]) ?_));clear hK K;replace⟨e1,h,h1⟩:=bind_some h;refine Qc (λb1:Bool=>⟨Ym w_ f_ g_ [(9,.val (.bool b1))],Y6 c_ [],1⟩) (λb1=>b1=e1) ?_ ?_
 ·refine Q5 (Qm h (λs13:Bool×Int=>⟨Ym w_ f_ g_ [(9,.val (.bool s13.1)),(10,iV s13.2)],Y6 c_ [],1⟩) (wkQ [(0,0)]) ?_);clear h;intro k13 s13 c13 h hk13;refine Q0 (Q0 (runQ hN λK hK=>?_));simp;repeat refine sdQ ?_
  refine hK _ ?_;clear hK K;refine tn (Q6 rfl (λg=>?_) λg=>?_)
  ·have g14:s13.2<(w_.length:Int):=gQ;clear g;replace h:=if_l g14 h;refine Q7 (tn (Q0 ?_));replace⟨e15,h,h15⟩:=bind_some h;refine Qc (λb15:Bool=>⟨Ym w_ f_ g_ [(9,.val (.bool b15)),(10,iV s13.2)],Y6 c_ [],1⟩) (λb15=>b15=e15) ?_ ?_
   ·refine Q5 (runQ hN λK hK=>?_);simp;(repeat with_reducible refine sdQ ?_);refine Qy (λg=>?_) (λg=>?_)
    ·have g16:¬(s13.1=true):=gQ;clear g;replace h:=if_r g16 h;replace⟨a17,h⟩:=Q1 h;replace⟨a18,h⟩:=Q1 h;replace⟨a19,h⟩:=Q1 h;simp[at_I a17,at_I a18,at_I a19];(repeat with_reducible refine sdQ ?_);refine Qy (λg=>?_) (λg=>?_)
     ·have g20:(ix c_.fr (ix w_ s13.2))=(ix c_.to f_):=gQ;clear g;replace h:=if_l g20 h;replace⟨a21,h⟩:=Q1 h;simp[at_I a17,at_I a18,at_I a19,at_I a21];(repeat with_reducible refine sdQ ?_);replace⟨v22,hv22,h⟩:=bind_some h;refine Q2 (Q1b _ _ _ v22 hv22) (.cons (.aggL (.cons .val (.cons .lst (.cons .lst (.cons .lst (.cons .lst .nil)))))) (.cons .val (.cons .val .nil))) ?_;replace⟨a23,h⟩:=Q1 h;simp[at_I a17,at_I a18,at_I a19,at_I a21,at_I a23];(repeat with_reducible refine sdQ ?_);replace⟨v24,hv24,h⟩:=bind_some h;refine Q2 (Q1b _ _ _ v24 hv24) (.cons (.aggL (.cons .val (.cons .lst (.cons .lst (.cons .lst (.cons .lst .nil)))))) (.cons .val (.cons .val .nil))) ?_;simp[at_I a17,at_I a18,at_I a19,at_I a21,at_I a23];(repeat refine sdQ ?_);refine hK _ (bn ?_);clear hK K;exact jn (b:=v22==v24) (yJ h) (wkQ [(0,0)])
     have g20:¬((ix c_.fr (ix w_ s13.2))=(ix c_.to f_)):=gQ;clear g;replace h:=if_r g20 h;simp[at_I a17,at_I a18,at_I a19];(repeat refine sdQ ?_);refine hK _ (bn ?_);clear hK K;exact jn (b:=false) (yJ h) (wkQ [(0,0)])
    have g16:s13.1=true:=gQ;clear g;replace h:=if_l g16 h;simp;(repeat refine sdQ ?_);refine hK _ (bn ?_);clear hK K;exact jn (b:=true) (yJ h) (wkQ [(0,0)])
   intro b15 hb15;have h:=h15;(try rw[←hb15]at h);clear h15;(try dsimp only at h);refine runQ hN λK hK=>?_;replace⟨a25,h⟩:=Q1 h;simp[Qi a25];(repeat refine sdQ ?_);refine hK _ ?_;clear hK K;cases h;exact rn (s':=(b15,s13.2+1)) hk13 (wkQ [(0,0)])
  have g14:¬(s13.2<(w_.length:Int)):=gQ;clear g;replace h:=if_r g14 h;refine Qk (tx (lx (bh ?_)));cases h;exact jn (b:=s13.1) hk13 (wkQ [(0,0)])
 intro b1 hb1;have h:=h1;try rw[←hb1]at h
 clear h1;try dsimp only at h
 refine Q0 (Q0 (runQ hN λK hK=>?_));simp;repeat refine sdQ ?_
 refine hK _ ?_;clear hK K;refine tn (Q6 rfl (λg=>?_) λg=>?_)
 ·have g26:¬(b1=true):=gQ;clear g;replace h:=if_l g26 h;refine Q0 (runQ hN λK hK=>?_);simp;repeat refine sdQ ?_
  refine hK _ (tn (Q4 (st':=⟨[(8,.val (.bool true))],[],0⟩) (wkQ []) (Qh (tr ?_))));clear hK K;have hr:=yJ h;rw[←hr];refine⟨_,(.tmp .nil),?_⟩;refine⟨(.one rfl rfl .nil),[.val (.bool true)],[],by simp[BN],by simp,(yM _)⟩
 have g26:¬(¬(b1=true)):=gQ;clear g;replace h:=if_r g26 h;refine Q7 (tn (Q0 (Q0 (runQ hN λK hK=>?_))));simp;repeat refine sdQ ?_
 refine hK _ (tn (Q4 (st':=⟨Ym w_ f_ g_ [(11,iV 0)],Y6 c_ [],1⟩) (wkQ [(0,0)]) ?_));clear hK K;replace⟨e27,h,h27⟩:=bind_some h;refine Qc (λb27:Unit=>⟨[],[],0⟩) (λb27=>yU b27=e27) ?_ ?_
 ·refine Q5 (Qm h (λs40:Int=>⟨Ym w_ f_ g_ [(11,iV s40)],Y6 c_ [],1⟩) (wkQ [(0,0)]) ?_);clear h;intro k40 s40 c40 h hk40;refine Q0 (Q0 (runQ hN λK hK=>?_));simp;repeat refine sdQ ?_
  refine hK _ ?_;clear hK K;refine tn (Q6 rfl (λg=>?_) λg=>?_)
  ·have g41:s40<(w_.length:Int):=gQ;clear g;replace h:=if_l g41 h;refine Q7 (tn (Q0 (Q5 (Q0 ?_))));replace⟨e42,h,h42⟩:=bind_some h;refine Qc (λb42:Bool=>⟨Ym w_ f_ g_ [(11,iV s40),(90,.val (.bool b42))],Y6 c_ [],1⟩) (λb42=>b42=e42) ?_ ?_
   ·refine runQ hN λK hK=>?_;replace⟨a43,h⟩:=Q1 h;replace⟨a44,h⟩:=Q1 h;replace⟨a45,h⟩:=Q1 h;simp[at_I a43,at_I a44,at_I a45];(repeat with_reducible refine sdQ ?_);refine Qy (λg=>?_) (λg=>?_)
    ·have g46:(ix c_.to (ix w_ s40))=(ix c_.fr f_):=gQ;clear g;replace h:=if_l g46 h;replace⟨a47,h⟩:=Q1 h;simp[at_I a43,at_I a44,at_I a45,at_I a47];(repeat with_reducible refine sdQ ?_);replace⟨v48,hv48,h⟩:=bind_some h;refine Q2 (Q1b _ _ _ v48 hv48) (.cons (.aggL (.cons .val (.cons .lst (.cons .lst (.cons .lst (.cons .lst .nil)))))) (.cons .val (.cons .val .nil))) ?_;replace⟨a49,h⟩:=Q1 h;simp[at_I a43,at_I a44,at_I a45,at_I a47,at_I a49];(repeat with_reducible refine sdQ ?_);replace⟨v50,hv50,h⟩:=bind_some h;refine Q2 (Q1b _ _ _ v50 hv50) (.cons (.aggL (.cons .val (.cons .lst (.cons .lst (.cons .lst (.cons .lst .nil)))))) (.cons .val (.cons .val .nil))) ?_;simp[at_I a43,at_I a44,at_I a45,at_I a47,at_I a49];(repeat refine sdQ ?_);refine hK _ ?_;exact jn (b:=v48==v50) (yJ h) (wkQ [(0,0)])
    have g46:¬((ix c_.to (ix w_ s40))=(ix c_.fr f_)):=gQ;clear g;replace h:=if_r g46 h;simp[at_I a43,at_I a44,at_I a45];(repeat refine sdQ ?_);refine hK _ ?_;exact jn (b:=false) (yJ h) (wkQ [(0,0)])
   intro b42 hb42;have h:=h42;(try rw[←hb42]at h);clear h42;(try dsimp only at h);refine Q6 rfl (λg=>?_) λg=>?_
   ·have g51:b42=true:=gQ;clear g;replace h:=if_l g51 h;refine Q0 (runQ hN λK hK=>?_);simp;(repeat refine sdQ ?_);refine hK _ (tn (Q4 (st':=⟨[(8,.val (.bool true))],[],0⟩) (wkQ []) (Qh (br (tr (lr (br (tr ?_))))))));clear hK K;cases h;have q:_=e27:=hk40;have h:=h27;rw[←q]at h;clear q;(try dsimp only at h);have hr:=yJ h;rw[←hr];refine⟨_,(.tmp .nil),?_⟩;refine⟨(.one rfl rfl .nil),[.val (.bool true)],[],by simp[BN],by simp,(yM _)⟩
   have g51:¬(b42=true):=gQ;clear g;replace h:=if_r g51 h;refine Q7 (bn (tn (runQ hN λK hK=>?_)));replace⟨a52,h⟩:=Q1 h;simp[Qi a52];(repeat refine sdQ ?_);refine hK _ ?_;clear hK K;cases h;exact rn (s':=s40+1) hk40 (wkQ [(0,0)])
  have g41:¬(s40<(w_.length:Int)):=gQ;clear g;replace h:=if_r g41 h;refine Qk (tx (lx (bh ?_)));cases h;exact jn (b:=()) hk40 (wkQ [])
 intro b27 hb27;have h:=h27;try rw[←hb27]at h
 clear h27;try dsimp only at h
 refine Q0 (runQ hN λK hK=>?_);simp;repeat refine sdQ ?_
 refine hK _ (tn (Q4 (st':=⟨[(8,.val (.bool false))],[],0⟩) (wkQ []) (Qh ?_)));clear hK K;have hr:=yJ h;rw[←hr];refine⟨_,(.tmp .nil),?_⟩;refine⟨(.one rfl rfl .nil),[.val (.bool false)],[],by simp[BN],by simp,(yM _)⟩
section
attribute [local simp] Qa QD Qn QL Qv
theorem bo_or(p q:Prop):(bo p||bo q)=bo (p∨q):=by
 by_cases h1:p
 ·rw[Qw h1,Qw (Or.inl h1)];rfl
 by_cases h2:q
 ·rw[Qp h1,Qw h2,Qw (Or.inr h2)];rfl
 rw[Qp h1,Qp h2,Qp (λh=>h.elim h1 h2)];rfl
theorem or_loop{body:Bool×Int→Option (Ctl (Bool×Int) Bool)}(n:Nat)(p:Nat→Prop)(hn:n<4611686018427387904)(h1:∀i:Nat,i<n→body (true,(i:Int))=some (.next (true,(i:Int)+1)))(h2:∀i:Nat,i<n→body (false,(i:Int))=some (.next (bo (p i),(i:Int)+1)))(h3:∀b,body (b,(n:Int))=some (.ret b)):Qd body fuel (false,0)=some (bo (∃j,j<n∧p j)):=by
 refine Q1e (λi:Nat=>(bo (∃j,j<i∧p j),(i:Int))) n (by rw[Qp (by rintro ⟨j,hj,_⟩;omega)];rfl) hn (λi hi=>?_) (h3 _);have e:bo (∃j,j<i+1∧p j)=(bo (∃j,j<i∧p j)||bo (p i)):=by
  rw[bo_or];refine Q95 ⟨λ⟨j,hj,hp⟩=>?_,λh=>?_⟩
  ·rcases Nat.lt_or_ge j i with q|q
   ·exact .inl ⟨j,q,hp⟩
   have:j=i:=(by omega);subst this;exact .inr hp
  rcases h with⟨j,hj,hp⟩|hp
  ·exact⟨j,by omega,hp⟩
  exact⟨i,by omega,hp⟩
 simp only[e];cases hb:bo (∃j,j<i∧p j)with
 |true=>rw[h1 i hi];simp
 |false=>rw[h2 i hi];simp
theorem e_outW{c:Cat}(hc:c.Is)(x:Int):Q1t c x=some (flt c.fr.length λa:Nat=>ix c.fr a=x):=by
 have hn:=hc.nums;unfold Q1t;refine Q1d c.fr.length (λi=>flt i λa:Nat=>ix c.fr a=x) (e:=flt c.fr.length λa:Nat=>ix c.fr a=x) rfl (by omega) (λi hi=>?_) (by simp) rfl;have hl:=Q42 i λa:Nat=>ix c.fr a=x
 by_cases h1:ix c.fr i=x
 ·rw[Q3e h1];simp(disch:=omega) [Q3,B64,h1];try omega
 rw[Q3d h1];simp(disch:=omega) [Q3,B64,h1];try omega
theorem e_intoW{c:Cat}(hc:c.Is)(x:Int):Q18 c x=some (flt c.fr.length λa:Nat=>ix c.to a=x):=by
 have hn:=hc.nums;unfold Q18;refine Q1d c.fr.length (λi=>flt i λa:Nat=>ix c.to a=x) (e:=flt c.fr.length λa:Nat=>ix c.to a=x) rfl (by omega) (λi hi=>?_) (by simp;omega) rfl;have hl:=Q42 i λa:Nat=>ix c.to a=x
 by_cases h1:ix c.to i=x
 ·rw[Q3e h1];simp(disch:=omega) [Q3,B64,h1];try omega
 rw[Q3d h1];simp(disch:=omega) [Q3,B64,h1];try omega
theorem flt_ex{n:Nat}{P:Nat→Prop}{Q:Int→Prop}:(∃j,j<(flt n P).length∧Q (ix (flt n P) j))↔∃a:Nat,a<n∧P a∧Q a:=by
 constructor
 ·rintro ⟨j,hj,hq⟩
  obtain⟨k,k1,k2,k3⟩:=Q8s hj;exact⟨k,k1,k2,by rw[←k3];exact hq⟩
 rintro ⟨a,h1,h2,h3⟩
 have:(a:Int)∈flt n P:=mem_flt.2 ⟨a,h1,h2,rfl⟩;obtain⟨j,hj,e⟩:=zY this;refine⟨j,hj,?_⟩;rw[←Q16 _ _ hj,e];exact h3
theorem w_ex{c:Cat}{w:List Int}(hw:InW c w){Q:Int→Prop}:(∃j,j<w.length∧Q (ix w j))↔∃v∈w,Q v:=by
 constructor
 ·rintro ⟨j,hj,hq⟩
  exact⟨_,by rw[←Q16 _ _ hj];exact zW hj,hq⟩
 rintro ⟨v,hv,hq⟩
 obtain⟨j,hj,e⟩:=zY hv;exact⟨j,hj,by rw[←Q16 _ _ hj,e];exact hq⟩
def Ask(c:Cat)(w:List Int)(f g v:Int):Prop:=ix c.fr v=ix c.to f∧v∈w∧ix (rx c.cs f) v=ix (rx c.cs g) v
def Ans(c:Cat)(w:List Int)(f g v:Int):Prop:=ix c.to v=ix c.fr f∧v∈w∧ix (rx c.cs v) f=ix (rx c.cs v) g
def Cnc(c:Cat)(w:List Int)(f g:Int):Prop:=(∃v∈w,Ask c w f g v)→∃v∈w,Ans c w f g v
theorem QaN{c:Cat}(hc:c.Is){w:List Int}(hw:InW c w){f g:Int}(hf:0≤f∧f<(c.fr.length:Int))(hg:0≤g∧g<(c.fr.length:Int)):QO (wD c w) f g=some (bo (Cnc c w f g)):=by
 have hn:=hc.nums;have ht:=Q77 c w;unfold QO;simp only[show(wD c w).c_=c from rfl];rw[Q3 (by omega),e_outW hc];simp only[yT];have lo:=Q42 c.fr.length λa:Nat=>ix c.fr a=ix c.to f;have li:=Q42 c.fr.length λa:Nat=>ix c.to a=ix c.fr f;have at1:∀i:Nat,i<(flt c.fr.length λa:Nat=>ix c.fr a=ix c.to f).length→(0≤ix (flt c.fr.length λa:Nat=>ix c.fr a=ix c.to f) i∧ix (flt c.fr.length λa:Nat=>ix c.fr a=ix c.to f) i<(c.fr.length:Int)):=λi hi=>by
  obtain⟨k,k1,_,k3⟩:=Q8s hi;rw[k3];omega
 have at2:∀i:Nat,i<(flt c.fr.length λa:Nat=>ix c.to a=ix c.fr f).length→(0≤ix (flt c.fr.length λa:Nat=>ix c.to a=ix c.fr f) i∧ix (flt c.fr.length λa:Nat=>ix c.to a=ix c.fr f) i<(c.fr.length:Int)):=λi hi=>by
  obtain⟨k,k1,_,k3⟩:=Q8s hi;rw[k3];omega
 rw[or_loop (flt c.fr.length λa:Nat=>ix c.fr a=ix c.to f).length (λi=>ix (flt c.fr.length λa:Nat=>ix c.fr a=ix c.to f) i∈w∧ix (rx c.cs f) (ix (flt c.fr.length λa:Nat=>ix c.fr a=ix c.to f) i)=ix (rx c.cs g) (ix (flt c.fr.length λa:Nat=>ix c.fr a=ix c.to f) i)) (by omega) (λi hi=>?_) (λi hi=>?_) (λb=>by simp)];rotate_left
 ·simp only;rw[if_pos (by omega),Q3 (by omega)];simp only[if_true,yT];rw[Q3 (by unfold B64;omega)]
 ·simp only;have a:=at1 i hi;rw[if_pos (by omega),Q3 (by omega),if_neg (by simp),Q3 (by omega),Q7v a]
  by_cases h1:ix (flt c.fr.length λa:Nat=>ix c.fr a=ix c.to f) i∈w
  ·rw[Qw h1,if_pos rfl,(Q1m hc hf a).2,(Q1m hc hg a).2];simp only[yT];rw[Q3 (by unfold B64;omega)]
   by_cases h2:ix (rx c.cs f) (ix (flt c.fr.length λa:Nat=>ix c.fr a=ix c.to f) i)=ix (rx c.cs g) (ix (flt c.fr.length λa:Nat=>ix c.fr a=ix c.to f) i)
   ·rw[Qw ⟨h1,h2⟩];simp[h2]
   rw[Qp (λq=>h2 q.2)];simp[h2]
  rw[Qp h1,if_neg (by simp),Qp (λq=>h1 q.1)];simp only[yT];rw[Q3 (by unfold B64;omega)]
 simp only[yT];have ask:(∃j,j<(flt c.fr.length λa:Nat=>ix c.fr a=ix c.to f).length∧ix (flt c.fr.length λa:Nat=>ix c.fr a=ix c.to f) j∈w∧ix (rx c.cs f) (ix (flt c.fr.length λa:Nat=>ix c.fr a=ix c.to f) j)=ix (rx c.cs g) (ix (flt c.fr.length λa:Nat=>ix c.fr a=ix c.to f) j))↔∃v∈w,Ask c w f g v:=by
  rw[flt_ex (Q:=λv=>v∈w∧ix (rx c.cs f) v=ix (rx c.cs g) v)];constructor
  ·rintro ⟨a,a1,a2,a3,a4⟩;exact⟨a,a3,a2,a3,a4⟩
  rintro ⟨v,v1,v2,v3,v4⟩
  obtain⟨k,rfl⟩:=Int.eq_ofNat_of_zero_le (hw.mem v1).1;exact⟨k,by have:=(hw.mem v1).2;omega,v2,v3,v4⟩
 by_cases hask:∃v∈w,Ask c w f g v
 case neg=>
  rw[Qp (λq=>hask (ask.1 q)),if_pos (by simp),Qw (show Cnc c w f g from λq=>absurd q hask)]
 rw[Qw (ask.2 hask),if_neg (by simp)];rw[Q3 hf,e_intoW hc];simp only[yT];have ans:(∃j,j<(flt c.fr.length λa:Nat=>ix c.to a=ix c.fr f).length∧ix (flt c.fr.length λa:Nat=>ix c.to a=ix c.fr f) j∈w∧ix (rx c.cs (ix (flt c.fr.length λa:Nat=>ix c.to a=ix c.fr f) j)) f=ix (rx c.cs (ix (flt c.fr.length λa:Nat=>ix c.to a=ix c.fr f) j)) g)↔∃v∈w,Ans c w f g v:=by
  rw[flt_ex (Q:=λv=>v∈w∧ix (rx c.cs v) f=ix (rx c.cs v) g)];constructor
  ·rintro ⟨a,a1,a2,a3,a4⟩;exact⟨a,a3,a2,a3,a4⟩
  rintro ⟨v,v1,v2,v3,v4⟩
  obtain⟨k,rfl⟩:=Int.eq_ofNat_of_zero_le (hw.mem v1).1;exact⟨k,by have:=(hw.mem v1).2;omega,v2,v3,v4⟩
 refine Q9W (flt c.fr.length λa:Nat=>ix c.to a=ix c.fr f).length (λj=>¬(ix (flt c.fr.length λa:Nat=>ix c.to a=ix c.fr f) j∈w∧ix (rx c.cs (ix (flt c.fr.length λa:Nat=>ix c.to a=ix c.fr f) j)) f=ix (rx c.cs (ix (flt c.fr.length λa:Nat=>ix c.to a=ix c.fr f) j)) g)) (eb:=yW true) (eg:=yU ()) (by omega) (λi hi hp=>?_) (λi hi hp=>?_) (by rw[if_neg (by omega)]) (λh=>?_) λh=>?_
 ·have a:=at2 i hi;rw[if_pos (by omega),Q3 (by omega),Q3 (by omega),Q7v a]
  by_cases h1:ix (flt c.fr.length λa:Nat=>ix c.to a=ix c.fr f) i∈w
  ·rw[Qw h1,if_pos rfl,(Q1m hc a hf).2];simp only[yT];rw[(Q1m hc a hg).2];simp only[yT];rw[if_neg (by simpa using λq=>hp ⟨h1,q⟩),Q3 (by unfold B64;omega)]
  rw[Qp h1,if_neg (by simp)];simp only[yT,zG,if_false];rw[Q3 (by unfold B64;omega)]
 ·have a:=at2 i hi;obtain⟨h1,h2⟩:=Classical.not_not.1 hp;rw[if_pos (by omega),Q3 (by omega),Q3 (by omega),Q7v a,Qw h1,if_pos rfl,(Q1m hc a hf).2];simp only[yT];rw[(Q1m hc a hg).2];simp only[yT];rw[if_pos (by simpa using h2)]
 ·have hx:∃v∈w,Ans c w f g v:=ans.1 (Classical.byContradiction λq=>h λi hi hh=>q ⟨i,hi,hh⟩);rw[Qw (show Cnc c w f g from λ_=>hx)]
 rw[Qp (show¬Cnc c w f g from λq=>by
  obtain⟨i,hi,hh⟩:=ans.2 (q hask);exact h i hi hh)]
theorem QaO{c:Cat}(hc:c.Is){w:List Int}(hw:InW c w)(hl:w.length≤1048576){f g:Int}(hf:0≤f∧f<(c.fr.length:Int))(hg:0≤g∧g<(c.fr.length:Int)):Q1K c w f g=some (bo (Cnc c w f g)):=by
 have hn:=hc.nums;unfold Q1K;rw[or_loop w.length (λi=>ix c.fr (ix w i)=ix c.to f∧ix (rx c.cs f) (ix w i)=ix (rx c.cs g) (ix w i)) (by omega) (λi hi=>?_) (λi hi=>?_) (λb=>by simp)];rotate_left
 ·simp only;rw[if_pos (by omega)];simp only[if_true,yT];rw[Q3 (by unfold B64;omega)]
 ·simp only;have a:=hw.at hi;rw[if_pos (by omega),if_neg (by simp),Q3 (by omega),Q3 (by omega),Q3 (by omega)]
  by_cases h1:ix c.fr (ix w i)=ix c.to f
  ·rw[if_pos h1,Q3 (by omega),(Q1m hc hf a).1];simp only[yT];rw[Q3 (by omega),(Q1m hc hg a).1];simp only[yT];rw[Q3 (by unfold B64;omega)]
   by_cases h2:ix (rx c.cs f) (ix w i)=ix (rx c.cs g) (ix w i)
   ·rw[Qw ⟨h1,h2⟩];simp[h2]
   rw[Qp (λq=>h2 q.2)];simp[h2]
  rw[if_neg h1,Qp (λq=>h1 q.1)];simp only[yT];rw[Q3 (by unfold B64;omega)]
 simp only[yT];have ask:(∃j,j<w.length∧ix c.fr (ix w j)=ix c.to f∧ix (rx c.cs f) (ix w j)=ix (rx c.cs g) (ix w j))↔∃v∈w,Ask c w f g v:=by
  rw[w_ex hw (Q:=λv=>ix c.fr v=ix c.to f∧ix (rx c.cs f) v=ix (rx c.cs g) v)];exact⟨λ⟨v,v1,v2,v3⟩=>⟨v,v1,v2,v1,v3⟩,λ⟨v,v1,v2,_,v3⟩=>⟨v,v1,v2,v3⟩⟩
 by_cases hask:∃v∈w,Ask c w f g v
 case neg=>
  rw[Qp (λq=>hask (ask.1 q)),if_pos (by simp),Qw (show Cnc c w f g from λq=>absurd q hask)]
 rw[Qw (ask.2 hask),if_neg (by simp)];have ans:(∃j,j<w.length∧ix c.to (ix w j)=ix c.fr f∧ix (rx c.cs (ix w j)) f=ix (rx c.cs (ix w j)) g)↔∃v∈w,Ans c w f g v:=by
  rw[w_ex hw (Q:=λv=>ix c.to v=ix c.fr f∧ix (rx c.cs v) f=ix (rx c.cs v) g)];exact⟨λ⟨v,v1,v2,v3⟩=>⟨v,v1,v2,v1,v3⟩,λ⟨v,v1,v2,_,v3⟩=>⟨v,v1,v2,v3⟩⟩
 refine Q9W w.length (λj=>¬(ix c.to (ix w j)=ix c.fr f∧ix (rx c.cs (ix w j)) f=ix (rx c.cs (ix w j)) g)) (eb:=yW true) (eg:=yU ()) (by omega) (λi hi hp=>?_) (λi hi hp=>?_) (by rw[if_neg (by omega)]) (λh=>?_) λh=>?_
 ·have a:=hw.at hi;rw[if_pos (by omega),Q3 (by omega),Q3 (by omega),Q3 (by omega)]
  by_cases h1:ix c.to (ix w i)=ix c.fr f
  ·rw[if_pos h1,Q3 (by omega),(Q1m hc a hf).1];simp only[yT];rw[Q3 (by omega),(Q1m hc a hg).1];simp only[yT];rw[if_neg (by simpa using λq=>hp ⟨h1,q⟩),Q3 (by unfold B64;omega)]
  rw[if_neg h1];simp only[yT,zG,if_false];rw[Q3 (by unfold B64;omega)]
 ·have a:=hw.at hi;obtain⟨h1,h2⟩:=Classical.not_not.1 hp;rw[if_pos (by omega),Q3 (by omega),Q3 (by omega),Q3 (by omega),if_pos h1,Q3 (by omega),(Q1m hc a hf).1];simp only[yT];rw[Q3 (by omega),(Q1m hc a hg).1];simp only[yT];rw[if_pos (by simpa using h2)]
 ·have hx:∃v∈w,Ans c w f g v:=ans.1 (Classical.byContradiction λq=>h λi hi hh=>q ⟨i,hi,hh⟩);rw[Qw (show Cnc c w f g from λ_=>hx)]
 rw[Qp (show¬Cnc c w f g from λq=>by
  obtain⟨i,hi,hh⟩:=ans.2 (q hask);exact h i hi hh)]
end
attribute [local simp] unk unA unE unT unC flat eL eI Qj QQ Cat.cells
def Q1w(c_:Cat)(list_:List Int)(objects_:List Int):Option (Int⊕(List Bool)):=
 (Q2e c_ list_).bind λv2=>
 if¬(v2=0)then
  some (yU v2)
 else
  (Q2M objects_ c_.n).bind λv4=>
  if¬(v4=true)then
   some (yU 2)
  else
   (Q3t list_).bind λv6=>
   if¬(v6=true)then
    some (yU 5)
   else
    (Q1s c_ list_).bind λv8=>
    some (yW v8)
@[simp] abbrev YO(a:List (Nat×AV)):List (Nat×AV):=(6,.val (.pointer none))::a
@[simp] abbrev Y0r(a:List (Nat×AV)):List (Nat×AV):=(6,.adr 0 0 0)::(7,iV 0)::a
@[simp] abbrev Y0v(a:Cat)(b:List (AV)):List (AV):=.rptr (Cat.cells true a)::b
theorem Q4l(c_:Cat)(list_:List Int)(objects_:List Int)(v9:Int⊕(List Bool))(h:Q1w c_ list_ objects_=some v9):ICon Tryz.prog 61 [.rptr (c_.cells true),lI list_,lI objects_] (λ_=>none) 0 (match v9 with|.inl v9=>({v:=.tup [.val (.pointer none),iV v9],set:=[],del:=[],new:=[],cnt:=0}:Eff)|.inr v9=>({v:=.tup [.adr 0 0 0,iV 0],set:=[],del:=[],new:=[(0,.mix 3 [(Y0v c_ [lI list_,.own 1 0 v9.length])]),(1,.row 1 (Bs v9))],cnt:=2}:Eff)):=by
 refine Q1B (ts:=[6,7]) (H:=[]) Tryz.func61 rfl rfl rfl (by simp[Tryz.f61]) (by simp) (Q4F (by rcases v9 with v9|v9<;>simp)) (newI (by rcases v9 with v9|v9<;>rfl)) λF hN hP=>?_;unfold Q1w at h;refine Q0 (rxQ hN λK hK=>?_);simp;repeat refine sdQ ?_
 refine hK _ ?_;clear hK K;refine tn (Q4 (st':=⟨YF c_ [(1,lI list_),(2,lI objects_)],[],0⟩) (wkQ []) (Q0 (Q0 (rxQ hN λK hK=>?_))));simp;repeat with_reducible refine sdQ ?_
 replace⟨v2,hv2,h⟩:=bind_some h;refine QE (fz:=[]) (Q7V _ _ v2 hv2) (.cons (.preT (by simp[CN])) (.cons .lst .nil)) ?_;simp;repeat refine sdQ ?_
 refine hK _ ?_;clear hK K;refine tn (Q4 (st':=⟨YF c_ [(1,lI list_),(2,lI objects_),(8,iV v2)],[],0⟩) (wkQ []) (Q0 (rxQ hN λK hK=>?_)));simp;repeat refine sdQ ?_
 refine hK _ ?_;clear hK K;refine tn (Q6 rfl (λg=>?_) λg=>?_)
 ·have g3:¬(v2=0):=gQ;clear g;replace h:=if_l g3 h;refine Q0 (rxQ hN λK hK=>?_);simp;repeat refine sdQ ?_
  refine hK _ (tn (Q4 (st':=⟨YO [(7,iV v2)],[],0⟩) (wkQ []) (Qh (tr ?_))));clear hK K;cases h;try dsimp only
  first|refine iw_r (st':=⟨YO [(7,iV v2)],[],0⟩) ?_ ?_|refine iw_n (st':=⟨YO [(7,iV v2)],[],0⟩) ?_ ?_
  ·exact wkQ []
  exact⟨by simp[QU],by simp,by simp[CN]⟩
 have g3:¬(¬(v2=0)):=gQ;clear g;replace h:=if_r g3 h;refine Q7 (tn (Q0 (Q0 (rxQ hN λK hK=>?_))));simp;repeat with_reducible refine sdQ ?_
 replace⟨v4,hv4,h⟩:=bind_some h;refine QE (fz:=[]) (Q78 _ _ v4 hv4) (.cons .lst (.cons .val .nil)) ?_;simp;repeat refine sdQ ?_
 refine hK _ ?_;clear hK K;refine tn (Q4 (st':=⟨YF c_ [(1,lI list_),(21,.val (.bool (!v4)))],[],0⟩) (wkQ []) (Q6 rfl (λg=>?_) λg=>?_))
 ·have g5:¬(v4=true):=gQ;clear g;replace h:=if_l g5 h;refine Q0 (rxQ hN λK hK=>?_);simp;repeat refine sdQ ?_
  refine hK _ (tn (Q4 (st':=⟨YO [(7,iV 2)],[],0⟩) (wkQ []) (Qh (tr ?_))));clear hK K;cases h;try dsimp only
  first|refine iw_r (st':=⟨YO [(7,iV 2)],[],0⟩) ?_ ?_|refine iw_n (st':=⟨YO [(7,iV 2)],[],0⟩) ?_ ?_
  ·exact wkQ []
  exact⟨by simp[QU],by simp,by simp[CN]⟩
 have g5:¬(¬(v4=true)):=gQ;clear g;replace h:=if_r g5 h;refine Q7 (tn (Q0 (Q0 (rxQ hN λK hK=>?_))));simp;repeat with_reducible refine sdQ ?_
 replace⟨v6,hv6,h⟩:=bind_some h;refine QE (fz:=[]) (Qbh _ v6 hv6) (.cons .lst .nil) ?_;simp;repeat refine sdQ ?_
 refine hK _ ?_;clear hK K;refine tn (Q4 (st':=⟨YF c_ [(1,lI list_),(24,.val (.bool (!v6)))],[],0⟩) (wkQ []) (Q6 rfl (λg=>?_) λg=>?_))
 ·have g7:¬(v6=true):=gQ;clear g;replace h:=if_l g7 h;refine Q0 (rxQ hN λK hK=>?_);simp;repeat refine sdQ ?_
  refine hK _ (tn (Q4 (st':=⟨YO [(7,iV 5)],[],0⟩) (wkQ []) (Qh (tr ?_))));clear hK K;cases h;try dsimp only
  first|refine iw_r (st':=⟨YO [(7,iV 5)],[],0⟩) ?_ ?_|refine iw_n (st':=⟨YO [(7,iV 5)],[],0⟩) ?_ ?_
  ·exact wkQ []
  exact⟨by simp[QU],by simp,by simp[CN]⟩
 have g7:¬(¬(v6=true)):=gQ;clear g;replace h:=if_r g7 h;refine Q7 (tn (Q0 (rxQ hN λK hK=>?_)));simp;repeat with_reducible refine sdQ ?_
 replace⟨v8,hv8,h⟩:=bind_some h;refine QE (fz:=[]) (Q4X _ _ v8 hv8) (.cons (.preT (by simp[CN])) (.cons .lst .nil)) ?_;simp;repeat refine sdQ ?_
 refine hK _ (tn (Q4 (st':=⟨Y0r [],[(0,.mix 3 [(Y0v c_ [lI list_,.own 1 0 v8.length])]),(1,.row 1 (Bs v8))],2⟩) (wkQ [(1,0),(0,1)]) (Qh ?_)));clear hK K;cases h;try dsimp only
 first|refine iw_r (st':=⟨Y0r [],[(0,.mix 3 [(Y0v c_ [lI list_,.own 1 0 v8.length])]),(1,.row 1 (Bs v8))],2⟩) ?_ ?_|refine iw_n (st':=⟨Y0r [],[(0,.mix 3 [(Y0v c_ [lI list_,.own 1 0 v8.length])]),(1,.row 1 (Bs v8))],2⟩) ?_ ?_
 ·exact wkQ [(0,0),(1,1)]
 exact⟨by simp[QU],by simp,by simp[CN]⟩
attribute [local simp] unk unA unE unT unC flat eL eI Qj QQ Qz Cat.cells XD.cells
def QI(w_:XD)(f_:Int)(v_:Int):Option Bool:=
 (QS w_ f_ v_).bind λv1=>
 some v1.2.2
theorem Q34(w_:XD)(f_:Int)(v_:Int)(r:Bool)(h:QI w_ f_ v_=some r):Contract Tryz.prog 90 [.rptr (w_.cells true),iV f_,iV v_] (.val (.bool r)):=by
 refine Q9 (rvs:=[.tmp 6]) (rs:=[.val (.bool r)]) Tryz.func90 rfl rfl rfl rfl (by simp[Tryz.f90]) λF hN hP=>?_;unfold QI at h;refine Q0 (runQ hN λK hK=>?_);simp;repeat refine sdQ ?_
 refine hK _ ?_;clear hK K;refine tn (Q4 (st':=⟨Y0 w_ (YX f_ v_ []),[],0⟩) (wkQ []) (Q0 (runQ hN λK hK=>?_)));simp;repeat with_reducible refine sdQ ?_
 replace⟨v1,hv1,h⟩:=bind_some h;refine Q2 (Q2k _ _ _ v1 hv1) (.cons (.preT (by simp[CN])) (.cons .val (.cons .val .nil))) ?_;simp;repeat refine sdQ ?_
 refine hK _ ?_;clear hK K;refine tn (Q4 (st':=⟨[(9,.val (.bool v1.2.2))],[],0⟩) (wkQ []) (Q0 (runQ hN λK hK=>?_)));simp;repeat refine sdQ ?_
 refine hK _ (tn (Q4 (st':=⟨[(6,.val (.bool v1.2.2))],[],0⟩) (wkQ []) (Qh ?_)));clear hK K;have hr:=yJ h;rw[←hr];refine⟨_,(.tmp .nil),?_⟩;refine⟨(.one rfl rfl .nil),[.val (.bool v1.2.2)],[],by simp[BN],by simp,(yM _)⟩
attribute [local simp] unk unA unE unT unC flat eL eI Qj QQ Q4r Qz Cat.cells Ends.cells XD.cells
def QW(w_:XD):Option (Int×Int×Int):=
 (QM w_).bind λv1=>
 if v1.2.2=true then
  some (1,v1.1,v1.2.1)
 else
  (Qs w_.c_).bind λv3=>
  (Qd (σ:=Int) (ε:=Unit⊕(Int×Int×Int)) (λs27=>
   if s27<v3 then
    (
     (Qd (σ:=Int) (ε:=(Int×Int×Int)⊕Unit) (λs39=>
      if s39<(w_.list_.length:Int)then
       ass (0≤s39∧s39<(w_.list_.length:Int))<|
       (
        ass (0≤s27∧s27<(w_.c_.to.length:Int))<|
        ass (0≤ix w_.list_ s39∧ix w_.list_ s39<(w_.c_.to.length:Int))<|
        if(ix w_.c_.to s27)=(ix w_.c_.to (ix w_.list_ s39))then
         (QI w_ s27 (ix w_.list_ s39)).bind λv46=>
         some (!v46)
        else
         some false:Option (Bool)).bind λb42=>
       if b42=true then
        some (yV (yU (2,s27,ix w_.list_ s39)))
       else
        ass (B64 (s39+1))<|
        some (yK (s39+1))
      else
       some (yV (yW ()))) fuel 0).bind λe39=>
     match e39 with
     | .inl p39=>
      some (yW p39)
     | .inr p39=>
      some (yU p39):Option (Unit⊕(Int×Int×Int))).bind λe29=>
    match e29 with
    | .inl b29=>
     ass (B64 (s27+1))<|
     some (yK (s27+1))
    | .inr p29=>
     some (yV (yW p29))
   else
    some (yV (yU ()))) fuel 0).bind λe4=>
  match e4 with
  | .inl b4=>
   (Qd (σ:=Int) (ε:=Unit⊕(Int×Int×Int)) (λs71=>
    if s71<v3 then
     (
      ass (B64 (s71+1))<|
      (Qd (σ:=Int) (ε:=(Int×Int×Int)⊕Unit) (λs84=>
       if s84<v3 then
        (
         (Q17 w_.c_ s71).bind λv87=>
         (Q17 w_.c_ s84).bind λv88=>
         if v87.a=v88.a∧v87.b=v88.b then
          (QO w_ s71 s84).bind λv90=>
          some (!v90)
         else
          some false:Option (Bool)).bind λb86=>
        if b86=true then
         some (yV (yU (3,s71,s84)))
        else
         ass (B64 (s84+1))<|
         some (yK (s84+1))
       else
        some (yV (yW ()))) fuel (s71+1)).bind λe84=>
      match e84 with
      | .inl p84=>
       some (yW p84)
      | .inr p84=>
       some (yU p84):Option (Unit⊕(Int×Int×Int))).bind λe73=>
     match e73 with
     | .inl b73=>
      ass (B64 (s71+1))<|
      some (yK (s71+1))
     | .inr p73=>
      some (yV (yW p73))
    else
     some (yV (yU ()))) fuel 0).bind λe50=>
   match e50 with
   | .inl b50=>
    some (0,(-1),(-1))
   | .inr p50=>
    some p50
  | .inr p4=>
   some p4
@[simp] abbrev Y0i(a b:Int)(c:XD)(d:List (Nat×AV)):List (Nat×AV):=(28,iV a)::(29,iV b)::(35,lI c.list_)::(36,iV (c.list_.length:Int))::d
theorem Q3Z(w_:XD)(r:Int×Int×Int)(h:QW w_=some r):Contract Tryz.prog 62 [.rptr (w_.cells true)] (.tup [iV r.1,iV r.2.1,iV r.2.2]):=by
 refine Q9 (rvs:=[.tmp 2,.tmp 3,.tmp 4]) (rs:=[iV r.1,iV r.2.1,iV r.2.2]) Tryz.func62 rfl rfl rfl rfl (by simp[Tryz.f62]) λF hN hP=>?_;unfold QW at h;refine Q0 (runQ hN λK hK=>?_);simp;repeat refine sdQ ?_
 refine hK _ ?_;clear hK K;refine tn (Q4 (st':=⟨Y0 w_ [],[],0⟩) (wkQ []) (Q0 (Q0 (runQ hN λK hK=>?_))));simp;repeat with_reducible refine sdQ ?_
 replace⟨v1,hv1,h⟩:=bind_some h;refine Q2 (Q2J _ v1 hv1) (.cons (.preT (by simp[CN])) .nil) ?_;simp;repeat refine sdQ ?_
 refine hK _ ?_;clear hK K;refine tn (Q4 (st':=⟨Y0 w_ [(5,iV v1.1),(6,iV v1.2.1),(7,.val (.bool v1.2.2))],[],0⟩) (wkQ []) (Q0 (runQ hN λK hK=>?_)));simp;repeat refine sdQ ?_
 refine hK _ ?_;clear hK K;refine tn (Q6 rfl (λg=>?_) λg=>?_)
 ·have g2:v1.2.2=true:=gQ;clear g;replace h:=if_l g2 h;refine Q0 (runQ hN λK hK=>?_);simp;repeat refine sdQ ?_
  refine hK _ (tn (Q4 (st':=⟨[(2,iV 1),(3,iV v1.1),(4,iV v1.2.1)],[],0⟩) (wkQ []) (Qh (tr ?_))));clear hK K;have hr:=yJ h;rw[←hr];refine⟨_,(.tmp (.tmp (.tmp .nil))),?_⟩;refine⟨(.one rfl rfl (.one rfl rfl (.one rfl rfl .nil))),[iV 1,iV v1.1,iV v1.2.1],[],by simp[BN],by simp,(yM _)⟩
 have g2:¬(v1.2.2=true):=gQ;clear g;replace h:=if_r g2 h;refine Q7 (tn (Q0 (runQ hN λK hK=>?_)));simp;repeat with_reducible refine sdQ ?_
 replace⟨v3,hv3,h⟩:=bind_some h;refine Q2 (Q1l _ v3 hv3) (.cons (.preT (by simp[CN])) .nil) ?_;simp;repeat refine sdQ ?_
 refine hK _ ?_;clear hK K;refine tn (Q4 (st':=⟨Y0 w_ [(8,iV v3)],[],0⟩) (wkQ []) (Q0 (Q0 (runQ hN λK hK=>?_))));simp;repeat refine sdQ ?_
 refine hK _ (tn (Q4 (st':=⟨Y0 w_ [(8,iV v3),(28,iV v3),(29,iV 0)],[],0⟩) (wkQ []) ?_));clear hK K;replace⟨e4,h,h4⟩:=bind_some h;refine Qc (λb4:Unit=>⟨Y0 w_ [(8,iV v3)],[],0⟩) (λb4=>yU b4=e4) ?_ ?_
 ·refine Q5 (Qm h (λs27:Int=>⟨Y0 w_ [(8,iV v3),(28,iV v3),(29,iV s27)],[],0⟩) (wkQ []) ?_);clear h;intro k27 s27 c27 h hk27;refine Q0 (runQ hN λK hK=>?_);simp;repeat refine sdQ ?_
  refine hK _ ?_;clear hK K;refine tn (Q0 (Q6 rfl (λg=>?_) λg=>?_))
  ·have g28:s27<v3:=gQ;clear g;replace h:=if_l g28 h;refine Q7 (tn (Q0 ?_));replace⟨e29,h,h29⟩:=bind_some h;refine Qc (λb29:Unit=>⟨Y0 w_ [(8,iV v3),(28,iV v3),(29,iV s27)],[],0⟩) (λb29=>yU b29=e29) ?_ ?_
   ·refine Q5 (Q0 (runQ hN λK hK=>?_));simp;(repeat refine sdQ ?_);refine hK _ ?_;clear hK K;refine tn (Q4 (st':=⟨Y0 w_ [(8,iV v3),(9,iV s27),(28,iV v3),(29,iV s27)],[],0⟩) (wkQ []) (Q0 (runQ hN λK hK=>?_)));simp;(repeat refine sdQ ?_);refine hK _ (tn (Q4 (st':=⟨Y0 w_ ((8,iV v3)::(9,iV s27)::Y0i v3 s27 w_ [(37,iV 0)]),[],0⟩) (wkQ []) (Q5 ?_)));clear hK K;replace⟨e39,he39,h39⟩:=bind_some h;refine Qm he39 (λs39:Int=>⟨Y0 w_ ((8,iV v3)::(9,iV s27)::Y0i v3 s27 w_ [(37,iV s39)]),[],0⟩) (wkQ []) ?_;intro k39 s39 c39 h hk39;refine Q0 (runQ hN λK hK=>?_);simp;(repeat refine sdQ ?_);refine hK _ ?_;clear hK K;refine tn (Q0 (Q6 rfl (λg=>?_) λg=>?_))
    ·have g40:s39<(w_.list_.length:Int):=gQ;clear g;replace h:=if_l g40 h;refine Q7 (tn (Q0 (Q5 (Q0 (runQ hN λK hK=>?_)))));replace⟨a41,h⟩:=Q1 h;simp[at_I a41];(repeat refine sdQ ?_);refine hK _ (tn (Q4 (st':=⟨Y0 w_ ((8,iV v3)::(9,iV s27)::(11,iV (ix w_.list_ s39))::Y0i v3 s27 w_ [(37,iV s39)]),[],0⟩) (wkQ []) (Q0 ?_)));clear hK K;replace⟨e42,h,h42⟩:=bind_some h;refine Qc (λb42:Bool=>⟨Y0 w_ ((8,iV v3)::(9,iV s27)::(11,iV (ix w_.list_ s39))::Y0i v3 s27 w_ [(37,iV s39),(68,.val (.bool b42))]),[],0⟩) (λb42=>b42=e42) ?_ ?_
     ·refine runQ hN λK hK=>?_;replace⟨a43,h⟩:=Q1 h;replace⟨a44,h⟩:=Q1 h;simp[at_I a43,at_I a44];(repeat with_reducible refine sdQ ?_);refine Qy (λg=>?_) (λg=>?_)
      ·have g45:(ix w_.c_.to s27)=(ix w_.c_.to (ix w_.list_ s39)):=gQ;clear g;replace h:=if_l g45 h;simp[at_I a43,at_I a44];(repeat with_reducible refine sdQ ?_);replace⟨v46,hv46,h⟩:=bind_some h;refine Q2 (Q34 _ _ _ v46 hv46) (.cons (.preT (by simp[CN])) (.cons .val (.cons .val .nil))) ?_;simp[at_I a43,at_I a44];(repeat refine sdQ ?_);refine hK _ ?_;exact jn (b:=!v46) (yJ h) (wkQ [])
      have g45:¬((ix w_.c_.to s27)=(ix w_.c_.to (ix w_.list_ s39))):=gQ;clear g;replace h:=if_r g45 h;simp[at_I a43,at_I a44];(repeat refine sdQ ?_);refine hK _ ?_;exact jn (b:=false) (yJ h) (wkQ [])
     intro b42 hb42;have h:=h42;(try rw[←hb42]at h);clear h42;(try dsimp only at h);refine Q6 rfl (λg=>?_) λg=>?_
     ·have g47:b42=true:=gQ;clear g;replace h:=if_l g47 h;refine Q0 (runQ hN λK hK=>?_);simp;(repeat refine sdQ ?_);refine hK _ (tn (Q4 (st':=⟨[(2,iV 2),(3,iV s27),(4,iV (ix w_.list_ s39))],[],0⟩) (wkQ []) (Qh (br (tr (lr (br (br (tr (lr (br (tr ?_))))))))))));clear hK K;cases h;have q:_=e39:=hk39;have h:=h39;rw[←q]at h;clear q;(try dsimp only at h);cases h;have h:=h29;(try dsimp only at h);cases h;have q:_=e4:=hk27;have h:=h4;rw[←q]at h;clear q;(try dsimp only at h);have hr:=yJ h;rw[←hr];refine⟨_,(.tmp (.tmp (.tmp .nil))),?_⟩;refine⟨(.one rfl rfl (.one rfl rfl (.one rfl rfl .nil))),[iV 2,iV s27,iV (ix w_.list_ s39)],[],by simp[BN],by simp,(yM _)⟩
     have g47:¬(b42=true):=gQ;clear g;replace h:=if_r g47 h;refine Q7 (bn (tn (runQ hN λK hK=>?_)));replace⟨a48,h⟩:=Q1 h;simp[Qi a48];(repeat refine sdQ ?_);refine hK _ ?_;clear hK K;cases h;exact rn (s':=s39+1) hk39 (wkQ [])
    have g40:¬(s39<(w_.list_.length:Int)):=gQ;clear g;replace h:=if_r g40 h;refine Qk (tx (lx (bh (bn ?_))));cases h;have q:_=e39:=hk39;have h:=h39;rw[←q]at h;clear q;(try dsimp only at h);exact jn (b:=()) (yJ h) (wkQ [])
   intro b29 hb29;have h:=h29;(try rw[←hb29]at h);clear h29;(try dsimp only at h);refine runQ hN λK hK=>?_;replace⟨a49,h⟩:=Q1 h;simp[Qi a49];(repeat refine sdQ ?_);refine hK _ ?_;clear hK K;cases h;exact rn (s':=s27+1) hk27 (wkQ [])
  have g28:¬(s27<v3):=gQ;clear g;replace h:=if_r g28 h;refine Qk (tx (lx (bh ?_)));cases h;exact jn (b:=()) hk27 (wkQ [])
 intro b4 hb4;have h:=h4;try rw[←hb4]at h
 clear h4;try dsimp only at h
 refine Q0 (Q0 (runQ hN λK hK=>?_));simp;repeat refine sdQ ?_
 refine hK _ (tn (Q4 (st':=⟨Y0 w_ [(8,iV v3),(73,iV v3),(74,iV 0)],[],0⟩) (wkQ []) ?_));clear hK K;replace⟨e50,h,h50⟩:=bind_some h;refine Qc (λb50:Unit=>⟨[],[],0⟩) (λb50=>yU b50=e50) ?_ ?_
 ·refine Q5 (Qm h (λs71:Int=>⟨Y0 w_ [(8,iV v3),(73,iV v3),(74,iV s71)],[],0⟩) (wkQ []) ?_);clear h;intro k71 s71 c71 h hk71;refine Q0 (runQ hN λK hK=>?_);simp;repeat refine sdQ ?_
  refine hK _ ?_;clear hK K;refine tn (Q0 (Q6 rfl (λg=>?_) λg=>?_))
  ·have g72:s71<v3:=gQ;clear g;replace h:=if_l g72 h;refine Q7 (tn (Q0 ?_));replace⟨e73,h,h73⟩:=bind_some h;refine Qc (λb73:Unit=>⟨Y0 w_ [(8,iV v3),(73,iV v3),(74,iV s71)],[],0⟩) (λb73=>yU b73=e73) ?_ ?_
   ·refine Q5 (Q0 (runQ hN λK hK=>?_));simp;(repeat refine sdQ ?_);refine hK _ ?_;clear hK K;refine tn (Q4 (st':=⟨Y0 w_ [(8,iV v3),(12,iV s71),(73,iV v3),(74,iV s71)],[],0⟩) (wkQ []) (Q0 (runQ hN λK hK=>?_)));replace⟨a74,h⟩:=Q1 h;simp[Qi a74];(repeat refine sdQ ?_);refine hK _ (tn (Q4 (st':=⟨Y0 w_ [(8,iV v3),(12,iV s71),(13,iV (s71+1)),(73,iV v3),(74,iV s71)],[],0⟩) (wkQ []) (Q5 ?_)));clear hK K;replace⟨e84,he84,h84⟩:=bind_some h;refine Qm he84 (λs84:Int=>⟨Y0 w_ [(8,iV v3),(12,iV s71),(13,iV s84),(73,iV v3),(74,iV s71)],[],0⟩) (wkQ []) ?_;intro k84 s84 c84 h hk84;refine Q0 (Q0 (runQ hN λK hK=>?_));simp;(repeat refine sdQ ?_);refine hK _ ?_;clear hK K;refine tn (Q6 rfl (λg=>?_) λg=>?_)
    ·have g85:s84<v3:=gQ;clear g;replace h:=if_l g85 h;refine Q7 (tn (Q0 (Q5 (Q0 ?_))));replace⟨e86,h,h86⟩:=bind_some h;refine Qc (λb86:Bool=>⟨Y0 w_ [(8,iV v3),(12,iV s71),(13,iV s84),(73,iV v3),(74,iV s71),(103,.val (.bool b86))],[],0⟩) (λb86=>b86=e86) ?_ ?_
     ·refine runQ hN λK hK=>?_;simp;(repeat with_reducible refine sdQ ?_);replace⟨v87,hv87,h⟩:=bind_some h;refine Q2 (Q3y _ _ v87 hv87) (.cons (.preT (by simp[CN])) (.cons .val .nil)) ?_;simp;(repeat with_reducible refine sdQ ?_);replace⟨v88,hv88,h⟩:=bind_some h;refine Q2 (Q3y _ _ v88 hv88) (.cons (.preT (by simp[CN])) (.cons .val .nil)) ?_;simp;(repeat with_reducible refine sdQ ?_);refine Qy (λg=>?_) (λg=>?_)
      ·have g89:v87.a=v88.a∧v87.b=v88.b:=gQ;clear g;replace h:=if_l g89 h;simp;(repeat with_reducible refine sdQ ?_);replace⟨v90,hv90,h⟩:=bind_some h;refine Q2 (Q3A _ _ _ v90 hv90) (.cons (.preT (by simp[CN])) (.cons .val (.cons .val .nil))) ?_;simp;(repeat refine sdQ ?_);refine hK _ ?_;exact jn (b:=!v90) (yJ h) (wkQ [])
      have g89:¬(v87.a=v88.a∧v87.b=v88.b):=gQ;clear g;replace h:=if_r g89 h;simp;(repeat refine sdQ ?_);refine hK _ ?_;exact jn (b:=false) (yJ h) (wkQ [])
     intro b86 hb86;have h:=h86;(try rw[←hb86]at h);clear h86;(try dsimp only at h);refine Q6 rfl (λg=>?_) λg=>?_
     ·have g91:b86=true:=gQ;clear g;replace h:=if_l g91 h;refine Q0 (runQ hN λK hK=>?_);simp;(repeat refine sdQ ?_);refine hK _ (tn (Q4 (st':=⟨[(2,iV 3),(3,iV s71),(4,iV s84)],[],0⟩) (wkQ []) (Qh (br (tr (lr (br (br (tr (lr (br (tr ?_))))))))))));clear hK K;cases h;have q:_=e84:=hk84;have h:=h84;rw[←q]at h;clear q;(try dsimp only at h);cases h;have h:=h73;(try dsimp only at h);cases h;have q:_=e50:=hk71;have h:=h50;rw[←q]at h;clear q;(try dsimp only at h);have hr:=yJ h;rw[←hr];refine⟨_,(.tmp (.tmp (.tmp .nil))),?_⟩;refine⟨(.one rfl rfl (.one rfl rfl (.one rfl rfl .nil))),[iV 3,iV s71,iV s84],[],by simp[BN],by simp,(yM _)⟩
     have g91:¬(b86=true):=gQ;clear g;replace h:=if_r g91 h;refine Q7 (bn (tn (runQ hN λK hK=>?_)));replace⟨a92,h⟩:=Q1 h;simp[Qi a92];(repeat refine sdQ ?_);refine hK _ ?_;clear hK K;cases h;exact rn (s':=s84+1) hk84 (wkQ [])
    have g85:¬(s84<v3):=gQ;clear g;replace h:=if_r g85 h;refine Qk (tx (lx (bh (bn ?_))));cases h;have q:_=e84:=hk84;have h:=h84;rw[←q]at h;clear q;(try dsimp only at h);exact jn (b:=()) (yJ h) (wkQ [])
   intro b73 hb73;have h:=h73;(try rw[←hb73]at h);clear h73;(try dsimp only at h);refine runQ hN λK hK=>?_;replace⟨a93,h⟩:=Q1 h;simp[Qi a93];(repeat refine sdQ ?_);refine hK _ ?_;clear hK K;cases h;exact rn (s':=s71+1) hk71 (wkQ [])
  have g72:¬(s71<v3):=gQ;clear g;replace h:=if_r g72 h;refine Qk (tx (lx (bh ?_)));cases h;exact jn (b:=()) hk71 (wkQ [])
 intro b50 hb50;have h:=h50;try rw[←hb50]at h
 clear h50;try dsimp only at h
 refine Q0 (runQ hN λK hK=>?_);simp;repeat refine sdQ ?_
 refine hK _ (tn (Q4 (st':=⟨[(2,iV 0),(3,iV (-1)),(4,iV (-1))],[],0⟩) (wkQ []) (Qh ?_)));clear hK K;have hr:=yJ h;rw[←hr];refine⟨_,(.tmp (.tmp (.tmp .nil))),?_⟩;refine⟨(.one rfl rfl (.one rfl rfl (.one rfl rfl .nil))),[iV 0,iV (-1),iV (-1)],[],by simp[BN],by simp,(yM _)⟩
attribute [local simp] unk unA unE unT unC flat eL eI Qj QQ Qz Cat.cells XD.cells
def Q1H(c_:Cat)(list_:List Int)(objects_:List Int):Option (Int⊕(List Bool)):=
 (Q1w c_ list_ objects_).bind λv2=>
 match v2 with
 | .inl v2=>
  if¬(v2=0)then
   some (yU v2)
  else
   ass (False)<|
   none
 | .inr v2=>
  (QW (⟨c_,list_,v2⟩:XD)).bind λv4=>
  if¬(v4.1=0)then
   some (yU 5)
  else
   some (yW v2)
theorem Q5H(c_:Cat)(list_:List Int)(objects_:List Int)(v6:Int⊕(List Bool))(h:Q1H c_ list_ objects_=some v6):ICon Tryz.prog 40 [.rptr (c_.cells true),lI list_,lI objects_] (λ_=>none) 0 (match v6 with|.inl v6=>({v:=.tup [.val (.pointer none),iV v6],set:=[],del:=[],new:=[],cnt:=0}:Eff)|.inr v6=>({v:=.tup [.adr 0 0 0,iV 0],set:=[],del:=[],new:=[(0,.mix 3 [(Y0v c_ [lI list_,.own 1 0 v6.length])]),(1,.row 1 (Bs v6))],cnt:=2}:Eff)):=by
 refine Q1B (ts:=[6,7]) (H:=[]) Tryz.func40 rfl rfl rfl (by simp[Tryz.f40]) (by simp) (Q4F (by rcases v6 with v6|v6<;>simp)) (newI (by rcases v6 with v6|v6<;>rfl)) λF hN hP=>?_;unfold Q1H at h;refine Q0 (rxQ hN λK hK=>?_);simp;repeat refine sdQ ?_
 refine hK _ ?_;clear hK K;refine tn (Q4 (st':=⟨YF c_ [(1,lI list_),(2,lI objects_)],[],0⟩) (wkQ []) (Q0 (Q3T [] mo (by rw[hN];decide) λK hK=>?_)));simp;repeat with_reducible refine sdQ ?_
 replace⟨v2,hv2,h⟩:=bind_some h;refine Q2v (fz:=[]) (ICon.liftL (e':=(match(generalizing:=false) v2 with|.inl v2=>{v:=.tup [.val (.pointer none),iV v2],new:=[],cnt:=0}|.inr v2=>{v:=.tup [.adr 0 0 0,iV 0],new:=[(0,.mix 3 [(Y0v c_ [lI list_,.own 1 0 v2.length])]),(1,.row 1 (Bs v2))],cnt:=2})) (Q4l _ _ _ v2 hv2) (by simp[AV.ro,rl,rlL,rlLL,Q1x,BN]) (by rcases v2 with v2|v2<;>simp) (by rcases v2 with v2|v2<;>simp) (by rcases v2 with v2|v2<;>rfl) (by rcases v2 with v2|v2<;>simp[AV.ro,rl,rlL,rlLL,Q1x,BN]) (by rcases v2 with v2|v2<;>simp[Q6C]) (by rcases v2 with v2|v2<;>rfl) (by rcases v2 with v2|v2<;>simp[AV.ro,rl,rlL,rlLL,Q1x,BN]) (Q4F (by rcases v2 with v2|v2<;>simp))) ?_;clear hv2;rcases v2 with v2|v2
 ·try dsimp only at h
  try dsimp only
  simp;repeat refine sdQ ?_
  refine hK _ ?_;clear hK K;refine tn (Q4 (st':=⟨[(8,.val (.pointer none)),(9,iV v2)],[],0⟩) (wkQ []) (Q0 (Q0 (rxQ hN λK hK=>?_))));simp;repeat refine sdQ ?_
  refine hK _ ?_;clear hK K;refine tn (Q6 rfl (λg=>?_) λg=>?_)
  ·have g3:¬(v2=0):=gQ;clear g;replace h:=if_l g3 h;refine Q0 (rxQ hN λK hK=>?_);simp;(repeat refine sdQ ?_);refine hK _ (tn (Q4 (st':=⟨YO [(7,iV v2)],[],0⟩) (wkQ []) (Qh (tr ?_))));clear hK K;cases h;(try dsimp only);first|refine iw_r (st':=⟨YO [(7,iV v2)],[],0⟩) ?_ ?_|refine iw_n (st':=⟨YO [(7,iV v2)],[],0⟩) ?_ ?_
   ·exact wkQ []
   exact⟨by simp[QU],by simp,by simp[CN]⟩
  have g3:¬(¬(v2=0)):=gQ;clear g;replace h:=if_r g3 h;refine Q7 (tn (Q0 (Q0 (rxQ hN λK hK=>?_))));exact(Q1 h).1.elim
 try dsimp only at h
 try dsimp only
 simp;repeat refine sdQ ?_
 refine hK _ ?_;clear hK K;refine tn (Q4 (st':=⟨[(8,.adr 0 0 0),(9,iV 0)],[(0,.mix 3 [(Y0v c_ [lI list_,.own 1 0 v2.length])]),(1,.row 1 (Bs v2))],2⟩) (wkQ [(0,0),(1,1)]) (Q0 (Q0 (rxQ hN λK hK=>?_))));simp;repeat refine sdQ ?_
 refine hK _ (tn (Q6 rfl (λg=>by simp at g) λ_=>?_));clear hK K;refine Q7 (tn (Q0 (Q0 (rxQ hN λK hK=>?_))));simp;repeat with_reducible refine sdQ ?_
 replace⟨v4,hv4,h⟩:=bind_some h;refine QE (fz:=[]) (Q3Z _ v4 hv4) (.cons (.field rfl (by simp[CN]) (.cons (.preT (by simp[CN])) (.cons .lst (.cons .w .nil)))) .nil) ?_;simp;repeat refine sdQ ?_
 refine hK _ ?_;clear hK K;refine tn (Q4 (st':=⟨[(8,.adr 0 0 0),(10,iV v4.1)],[(0,.mix 3 [(Y0v c_ [lI list_,.own 1 0 v2.length])]),(1,.row 1 (Bs v2))],2⟩) (wkQ [(0,0),(1,1)]) (Q0 (rxQ hN λK hK=>?_)));simp;repeat refine sdQ ?_
 refine hK _ ?_;clear hK K;refine tn (Q6 rfl (λg=>?_) λg=>?_)
 ·have g5:¬(v4.1=0):=gQ;clear g;replace h:=if_l g5 h;refine Q0 (rxQ hN λK hK=>?_);simp;repeat refine sdQ ?_
  refine hK _ (tn (Q4 (st':=⟨YO [(7,iV 5)],[],0⟩) (wkQ []) (Qh (tr ?_))));clear hK K;cases h;try dsimp only
  first|refine iw_r (st':=⟨YO [(7,iV 5)],[],0⟩) ?_ ?_|refine iw_n (st':=⟨YO [(7,iV 5)],[],0⟩) ?_ ?_
  ·exact wkQ []
  exact⟨by simp[QU],by simp,by simp[CN]⟩
 have g5:¬(¬(v4.1=0)):=gQ;clear g;replace h:=if_r g5 h;refine Q7 (tn (Q0 (rxQ hN λK hK=>?_)));simp;repeat refine sdQ ?_
 refine hK _ (tn (Q4 (st':=⟨Y0r [],[(0,.mix 3 [(Y0v c_ [lI list_,.own 1 0 v2.length])]),(1,.row 1 (Bs v2))],2⟩) (wkQ [(0,0),(1,1)]) (Qh ?_)));clear hK K;cases h;try dsimp only
 first|refine iw_r (st':=⟨Y0r [],[(0,.mix 3 [(Y0v c_ [lI list_,.own 1 0 v2.length])]),(1,.row 1 (Bs v2))],2⟩) ?_ ?_|refine iw_n (st':=⟨Y0r [],[(0,.mix 3 [(Y0v c_ [lI list_,.own 1 0 v2.length])]),(1,.row 1 (Bs v2))],2⟩) ?_ ?_
 ·exact wkQ [(0,0),(1,1)]
 exact⟨by simp[QU],by simp,by simp[CN]⟩
attribute [local simp] unk unA unE unT unC flat eL eI Qj QQ Cat.cells
def Q1z(c_:Cat)(f_:Int)(g_:Int):Option Bool:=
 (
  ass (0≤f_∧f_<(c_.fr.length:Int))<|
  ass (0≤g_∧g_<(c_.fr.length:Int))<|
  if(ix c_.fr f_)=(ix c_.fr g_)then
   ass (0≤f_∧f_<(c_.to.length:Int))<|
   ass (0≤g_∧g_<(c_.to.length:Int))<|
   some ((ix c_.to f_)==(ix c_.to g_))
  else
   some false:Option (Bool)).bind λb1=>
 some b1
theorem Q6s(c_:Cat)(f_:Int)(g_:Int)(r:Bool)(h:Q1z c_ f_ g_=some r):Contract Tryz.prog 78 (Y0w c_ [iV f_,iV g_]) (.val (.bool r)):=by
 refine Q9 (rvs:=[.tmp 6]) (rs:=[.val (.bool r)]) Tryz.func78 rfl rfl rfl rfl (by simp[Tryz.f78]) λF hN hP=>?_;unfold Q1z at h;refine Q0 (runQ hN λK hK=>?_);simp;repeat refine sdQ ?_
 refine hK _ (tn (Q4 (st':=⟨YX f_ g_ [(3,.adr 0 0 0)],Y6 c_ [],1⟩) (wkQ [(0,0)]) (Q0 ?_)));clear hK K;replace⟨e1,h,h1⟩:=bind_some h;refine Qc (λb1:Bool=>⟨[(6,.val (.bool b1))],[],0⟩) (λb1=>b1=e1) ?_ ?_
 ·refine runQ hN λK hK=>?_;replace⟨a2,h⟩:=Q1 h;replace⟨a3,h⟩:=Q1 h;simp[at_I a2,at_I a3];repeat with_reducible refine sdQ ?_
  refine Qy (λg=>?_) (λg=>?_)
  ·have g4:(ix c_.fr f_)=(ix c_.fr g_):=gQ;clear g;replace h:=if_l g4 h;replace⟨a5,h⟩:=Q1 h;replace⟨a6,h⟩:=Q1 h;simp[at_I a2,at_I a3,at_I a5,at_I a6];(repeat refine sdQ ?_);refine hK _ ?_;exact jn (b:=(ix c_.to f_)==(ix c_.to g_)) (yJ h) (wkQ [])
  have g4:¬((ix c_.fr f_)=(ix c_.fr g_)):=gQ;clear g;replace h:=if_r g4 h;simp[at_I a2,at_I a3];repeat refine sdQ ?_
  refine hK _ ?_;exact jn (b:=false) (yJ h) (wkQ [])
 intro b1 hb1;have h:=h1;try rw[←hb1]at h
 clear h1;try dsimp only at h
 refine Qh ?_;have hr:=yJ h;rw[←hr];refine⟨_,(.tmp .nil),?_⟩;refine⟨(.one rfl rfl .nil),[.val (.bool b1)],[],by simp[BN],by simp,(yM _)⟩
attribute [local simp] unk unA unE unT unC flat eL eI Qj QQ Cat.cells
def Q2C(c_:Cat)(w_:List Int):Option (Int×Int×Int):=
 (Q2g c_ w_).bind λv1=>
 if¬(v1.1=0)then
  some (v1.1,v1.2.1,v1.2.2)
 else
  (Qd (σ:=Int) (ε:=Unit⊕(Int×Int×Int)) (λs30=>
   if s30<(c_.fr.length:Int)then
    (
     (Qd (σ:=Int) (ε:=(Int×Int×Int)⊕Unit) (λs44=>
      if s44<(w_.length:Int)then
       (
        ass (0≤s30∧s30<(c_.to.length:Int))<|
        ass (0≤s44∧s44<(w_.length:Int))<|
        ass (0≤ix w_ s44∧ix w_ s44<(c_.to.length:Int))<|
        if(ix c_.to s30)=(ix c_.to (ix w_ s44))then
         ass (0≤s44∧s44<(w_.length:Int))<|
         (Q1c c_ w_ s30 (ix w_ s44)).bind λv52=>
         if¬(v52.2.2.2=true)then
          ass (0≤s44∧s44<(w_.length:Int))<|
          some (yW (2,s30,ix w_ s44))
         else
          some (yU ())
        else
         some (yU ()):Option (Unit⊕(Int×Int×Int))).bind λe46=>
       match e46 with
       | .inl b46=>
        ass (B64 (s44+1))<|
        some (yK (s44+1))
       | .inr p46=>
        some (yV (yU p46))
      else
       some (yV (yW ()))) fuel 0).bind λe44=>
     match e44 with
     | .inl p44=>
      some (yW p44)
     | .inr p44=>
      some (yU p44):Option (Unit⊕(Int×Int×Int))).bind λe32=>
    match e32 with
    | .inl b32=>
     ass (B64 (s30+1))<|
     some (yK (s30+1))
    | .inr p32=>
     some (yV (yW p32))
   else
    some (yV (yU ()))) fuel 0).bind λe3=>
  match e3 with
  | .inl b3=>
   (Qd (σ:=Int) (ε:=Unit⊕(Int×Int×Int)) (λs76=>
    if s76<(c_.fr.length:Int)then
     (
      ass (B64 (s76+1))<|
      (Qd (σ:=Int) (ε:=(Int×Int×Int)⊕Unit) (λs88=>
       if s88<(c_.fr.length:Int)then
        (
         (Q1z c_ s76 s88).bind λv91=>
         if v91=true then
          (Q1K c_ w_ s76 s88).bind λv93=>
          some (!v93)
         else
          some false:Option (Bool)).bind λb90=>
        if b90=true then
         some (yV (yU (3,s76,s88)))
        else
         ass (B64 (s88+1))<|
         some (yK (s88+1))
       else
        some (yV (yW ()))) fuel (s76+1)).bind λe88=>
      match e88 with
      | .inl p88=>
       some (yW p88)
      | .inr p88=>
       some (yU p88):Option (Unit⊕(Int×Int×Int))).bind λe78=>
     match e78 with
     | .inl b78=>
      ass (B64 (s76+1))<|
      some (yK (s76+1))
     | .inr p78=>
      some (yV (yW p78))
    else
     some (yV (yU ()))) fuel 0).bind λe57=>
   match e57 with
   | .inl b57=>
    some (0,(-1),(-1))
   | .inr p57=>
    some p57
  | .inr p3=>
   some p3
@[simp] abbrev Yx(a:List Int)(b:Cat)(c:List (Nat×AV)):List (Nat×AV):=(1,lI a)::(2,.adr 0 0 0)::(10,iV (b.fr.length:Int))::c
theorem Q8X(c_:Cat)(w_:List Int)(r:Int×Int×Int)(h:Q2C c_ w_=some r):Contract Tryz.prog 49 (Y0w c_ [lI w_]) (.tup [iV r.1,iV r.2.1,iV r.2.2]):=by
 refine Q9 (rvs:=[.tmp 4,.tmp 5,.tmp 6]) (rs:=[iV r.1,iV r.2.1,iV r.2.2]) Tryz.func49 rfl rfl rfl rfl (by simp[Tryz.f49]) λF hN hP=>?_;unfold Q2C at h;refine Q0 (runQ hN λK hK=>?_);simp;repeat refine sdQ ?_
 refine hK _ ?_;clear hK K;refine tn (Q4 (st':=⟨(1,lI w_)::Y00 [],Y6 c_ [],1⟩) (wkQ [(0,0)]) (Q0 (runQ hN λK hK=>?_)));simp;repeat with_reducible refine sdQ ?_
 replace⟨v1,hv1,h⟩:=bind_some h;refine Q2 (Q7Y _ _ v1 hv1) (.cons (.aggL (.cons .val (.cons .lst (.cons .lst (.cons .lst (.cons .lst .nil)))))) (.cons .lst .nil)) ?_;simp;repeat refine sdQ ?_
 refine hK _ ?_;clear hK K;refine tn (Q4 (st':=⟨(1,lI w_)::Y00 [(7,iV v1.1),(8,iV v1.2.1),(9,iV v1.2.2)],Y6 c_ [],1⟩) (wkQ [(0,0)]) (Q0 (Q0 (runQ hN λK hK=>?_))));simp;repeat refine sdQ ?_
 refine hK _ ?_;clear hK K;refine tn (Q6 rfl (λg=>?_) λg=>?_)
 ·have g2:¬(v1.1=0):=gQ;clear g;replace h:=if_l g2 h;refine Q0 (runQ hN λK hK=>?_);simp;repeat refine sdQ ?_
  refine hK _ (tn (Q4 (st':=⟨[(4,iV v1.1),(5,iV v1.2.1),(6,iV v1.2.2)],[],0⟩) (wkQ []) (Qh (tr ?_))));clear hK K;have hr:=yJ h;rw[←hr];refine⟨_,(.tmp (.tmp (.tmp .nil))),?_⟩;refine⟨(.one rfl rfl (.one rfl rfl (.one rfl rfl .nil))),[iV v1.1,iV v1.2.1,iV v1.2.2],[],by simp[BN],by simp,(yM _)⟩
 have g2:¬(¬(v1.1=0)):=gQ;clear g;replace h:=if_r g2 h;refine Q7 (tn (Q0 (runQ hN λK hK=>?_)));simp;repeat refine sdQ ?_
 refine hK _ ?_;clear hK K;refine tn (Q4 (st':=⟨Yx w_ c_ [],Y6 c_ [],1⟩) (wkQ [(0,0)]) (Q0 (Q0 (runQ hN λK hK=>?_))));simp;repeat refine sdQ ?_
 refine hK _ (tn (Q4 (st':=⟨Yx w_ c_ [(11,iV 0)],Y6 c_ [],1⟩) (wkQ [(0,0)]) ?_));clear hK K;replace⟨e3,h,h3⟩:=bind_some h;refine Qc (λb3:Unit=>⟨Yx w_ c_ [],Y6 c_ [],1⟩) (λb3=>yU b3=e3) ?_ ?_
 ·refine Q5 (Qm h (λs30:Int=>⟨Yx w_ c_ [(11,iV s30)],Y6 c_ [],1⟩) (wkQ [(0,0)]) ?_);clear h;intro k30 s30 c30 h hk30;refine Q0 (Q0 (runQ hN λK hK=>?_));simp;repeat refine sdQ ?_
  refine hK _ ?_;clear hK K;refine tn (Q6 rfl (λg=>?_) λg=>?_)
  ·have g31:s30<(c_.fr.length:Int):=gQ;clear g;replace h:=if_l g31 h;refine Q7 (tn (Q0 ?_));replace⟨e32,h,h32⟩:=bind_some h;refine Qc (λb32:Unit=>⟨Yx w_ c_ [(11,iV s30)],Y6 c_ [],1⟩) (λb32=>yU b32=e32) ?_ ?_
   ·refine Q5 (Q0 (runQ hN λK hK=>?_));simp;(repeat refine sdQ ?_);refine hK _ (tn (Q4 (st':=⟨Yx w_ c_ [(11,iV s30),(12,iV 0)],Y6 c_ [],1⟩) (wkQ [(0,0)]) (Q5 ?_)));clear hK K;replace⟨e44,he44,h44⟩:=bind_some h;refine Qm he44 (λs44:Int=>⟨Yx w_ c_ [(11,iV s30),(12,iV s44)],Y6 c_ [],1⟩) (wkQ [(0,0)]) ?_;intro k44 s44 c44 h hk44;refine Q0 (Q0 (runQ hN λK hK=>?_));simp;(repeat refine sdQ ?_);refine hK _ ?_;clear hK K;refine tn (Q6 rfl (λg=>?_) λg=>?_)
    ·have g45:s44<(w_.length:Int):=gQ;clear g;replace h:=if_l g45 h;refine Q7 (tn (Q0 ?_));replace⟨e46,h,h46⟩:=bind_some h;refine Qc (λb46:Unit=>⟨Yx w_ c_ [(11,iV s30),(12,iV s44)],Y6 c_ [],1⟩) (λb46=>yU b46=e46) ?_ ?_
     ·refine Q5 (Q0 (runQ hN λK hK=>?_));replace⟨a47,h⟩:=Q1 h;replace⟨a48,h⟩:=Q1 h;replace⟨a49,h⟩:=Q1 h;simp[at_I a47,at_I a48,at_I a49];(repeat refine sdQ ?_);refine hK _ ?_;clear hK K;refine tn (Q6 rfl (λg=>?_) λg=>?_)
      ·have g50:(ix c_.to s30)=(ix c_.to (ix w_ s44)):=gQ;clear g;replace h:=if_l g50 h;refine Q0 (runQ hN λK hK=>?_);replace⟨a51,h⟩:=Q1 h;simp[at_I a51];(repeat with_reducible refine sdQ ?_);replace⟨v52,hv52,h⟩:=bind_some h;refine Q2 (Q50 _ _ _ _ v52 hv52) (.cons (.aggL (.cons .val (.cons .lst (.cons .lst (.cons .lst (.cons .lst .nil)))))) (.cons .lst (.cons .val (.cons .val .nil)))) ?_;simp[at_I a51];(repeat refine sdQ ?_);refine hK _ ?_;clear hK K;refine tn (Q4 (st':=⟨Yx w_ c_ [(11,iV s30),(12,iV s44),(16,.val (.bool v52.2.2.2))],Y6 c_ [],1⟩) (wkQ [(0,0)]) (Q0 (runQ hN λK hK=>?_)));simp;(repeat refine sdQ ?_);refine hK _ ?_;clear hK K;refine tn (Q6 rfl (λg=>?_) λg=>?_)
       ·have g53:¬(v52.2.2.2=true):=gQ;clear g;replace h:=if_l g53 h;refine Q0 (runQ hN λK hK=>?_);replace⟨a54,h⟩:=Q1 h;simp[at_I a54];(repeat refine sdQ ?_);refine hK _ (tn (Q4 (st':=⟨[(4,iV 2),(5,iV s30),(6,iV (ix w_ s44))],[],0⟩) (wkQ []) (Qh (br (tr (lr (br (br (tr (lr (br (tr ?_))))))))))));clear hK K;cases h;have h:=h46;(try dsimp only at h);cases h;have q:_=e44:=hk44;have h:=h44;rw[←q]at h;clear q;(try dsimp only at h);cases h;have h:=h32;(try dsimp only at h);cases h;have q:_=e3:=hk30;have h:=h3;rw[←q]at h;clear q;(try dsimp only at h);have hr:=yJ h;rw[←hr];refine⟨_,(.tmp (.tmp (.tmp .nil))),?_⟩;refine⟨(.one rfl rfl (.one rfl rfl (.one rfl rfl .nil))),[iV 2,iV s30,iV (ix w_ s44)],[],by simp[BN],by simp,(yM _)⟩
       have g53:¬(¬(v52.2.2.2=true)):=gQ;clear g;replace h:=if_r g53 h;refine Q7 (bn ?_);exact jn (b:=()) (yJ h) (wkQ [(0,0)])
      have g50:¬((ix c_.to s30)=(ix c_.to (ix w_ s44))):=gQ;clear g;replace h:=if_r g50 h;refine Q7 (bn ?_);exact jn (b:=()) (yJ h) (wkQ [(0,0)])
     intro b46 hb46;have h:=h46;(try rw[←hb46]at h);clear h46;(try dsimp only at h);refine runQ hN λK hK=>?_;replace⟨a55,h⟩:=Q1 h;simp[Qi a55];(repeat refine sdQ ?_);refine hK _ ?_;clear hK K;cases h;exact rn (s':=s44+1) hk44 (wkQ [(0,0)])
    have g45:¬(s44<(w_.length:Int)):=gQ;clear g;replace h:=if_r g45 h;refine Qk (tx (lx (bh (bn ?_))));cases h;have q:_=e44:=hk44;have h:=h44;rw[←q]at h;clear q;(try dsimp only at h);exact jn (b:=()) (yJ h) (wkQ [(0,0)])
   intro b32 hb32;have h:=h32;(try rw[←hb32]at h);clear h32;(try dsimp only at h);refine runQ hN λK hK=>?_;replace⟨a56,h⟩:=Q1 h;simp[Qi a56];(repeat refine sdQ ?_);refine hK _ ?_;clear hK K;cases h;exact rn (s':=s30+1) hk30 (wkQ [(0,0)])
  have g31:¬(s30<(c_.fr.length:Int)):=gQ;clear g;replace h:=if_r g31 h;refine Qk (tx (lx (bh ?_)));cases h;exact jn (b:=()) hk30 (wkQ [(0,0)])
 intro b3 hb3;have h:=h3;try rw[←hb3]at h
 clear h3;try dsimp only at h
 refine Q0 (Q0 (runQ hN λK hK=>?_));simp;repeat refine sdQ ?_
 refine hK _ (tn (Q4 (st':=⟨Yx w_ c_ [(17,iV 0)],Y6 c_ [],1⟩) (wkQ [(0,0)]) ?_));clear hK K;replace⟨e57,h,h57⟩:=bind_some h;refine Qc (λb57:Unit=>⟨[],[],0⟩) (λb57=>yU b57=e57) ?_ ?_
 ·refine Q5 (Qm h (λs76:Int=>⟨Yx w_ c_ [(17,iV s76)],Y6 c_ [],1⟩) (wkQ [(0,0)]) ?_);clear h;intro k76 s76 c76 h hk76;refine Q0 (Q0 (runQ hN λK hK=>?_));simp;repeat refine sdQ ?_
  refine hK _ ?_;clear hK K;refine tn (Q6 rfl (λg=>?_) λg=>?_)
  ·have g77:s76<(c_.fr.length:Int):=gQ;clear g;replace h:=if_l g77 h;refine Q7 (tn (Q0 ?_));replace⟨e78,h,h78⟩:=bind_some h;refine Qc (λb78:Unit=>⟨Yx w_ c_ [(17,iV s76)],Y6 c_ [],1⟩) (λb78=>yU b78=e78) ?_ ?_
   ·refine Q5 (Q0 (runQ hN λK hK=>?_));replace⟨a79,h⟩:=Q1 h;simp[Qi a79];(repeat refine sdQ ?_);refine hK _ (tn (Q4 (st':=⟨Yx w_ c_ [(17,iV s76),(18,iV (s76+1))],Y6 c_ [],1⟩) (wkQ [(0,0)]) (Q5 ?_)));clear hK K;replace⟨e88,he88,h88⟩:=bind_some h;refine Qm he88 (λs88:Int=>⟨Yx w_ c_ [(17,iV s76),(18,iV s88)],Y6 c_ [],1⟩) (wkQ [(0,0)]) ?_;intro k88 s88 c88 h hk88;refine Q0 (Q0 (runQ hN λK hK=>?_));simp;(repeat refine sdQ ?_);refine hK _ ?_;clear hK K;refine tn (Q6 rfl (λg=>?_) λg=>?_)
    ·have g89:s88<(c_.fr.length:Int):=gQ;clear g;replace h:=if_l g89 h;refine Q7 (tn (Q0 (Q5 (Q0 ?_))));replace⟨e90,h,h90⟩:=bind_some h;refine Qc (λb90:Bool=>⟨Yx w_ c_ [(17,iV s76),(18,iV s88),(102,.val (.bool b90))],Y6 c_ [],1⟩) (λb90=>b90=e90) ?_ ?_
     ·refine runQ hN λK hK=>?_;simp;(repeat with_reducible refine sdQ ?_);replace⟨v91,hv91,h⟩:=bind_some h;refine Q2 (Q6s _ _ _ v91 hv91) (.cons (.aggL (.cons .val (.cons .lst (.cons .lst (.cons .lst (.cons .lst .nil)))))) (.cons .val (.cons .val .nil))) ?_;simp;(repeat with_reducible refine sdQ ?_);refine Qy (λg=>?_) (λg=>?_)
      ·have g92:v91=true:=gQ;clear g;replace h:=if_l g92 h;simp;(repeat with_reducible refine sdQ ?_);replace⟨v93,hv93,h⟩:=bind_some h;refine Q2 (Q6G _ _ _ _ v93 hv93) (.cons (.aggL (.cons .val (.cons .lst (.cons .lst (.cons .lst (.cons .lst .nil)))))) (.cons .lst (.cons .val (.cons .val .nil)))) ?_;simp;(repeat refine sdQ ?_);refine hK _ ?_;exact jn (b:=!v93) (yJ h) (wkQ [(0,0)])
      have g92:¬(v91=true):=gQ;clear g;replace h:=if_r g92 h;simp;(repeat refine sdQ ?_);refine hK _ ?_;exact jn (b:=false) (yJ h) (wkQ [(0,0)])
     intro b90 hb90;have h:=h90;(try rw[←hb90]at h);clear h90;(try dsimp only at h);refine Q6 rfl (λg=>?_) λg=>?_
     ·have g94:b90=true:=gQ;clear g;replace h:=if_l g94 h;refine Q0 (runQ hN λK hK=>?_);simp;(repeat refine sdQ ?_);refine hK _ (tn (Q4 (st':=⟨[(4,iV 3),(5,iV s76),(6,iV s88)],[],0⟩) (wkQ []) (Qh (br (tr (lr (br (br (tr (lr (br (tr ?_))))))))))));clear hK K;cases h;have q:_=e88:=hk88;have h:=h88;rw[←q]at h;clear q;(try dsimp only at h);cases h;have h:=h78;(try dsimp only at h);cases h;have q:_=e57:=hk76;have h:=h57;rw[←q]at h;clear q;(try dsimp only at h);have hr:=yJ h;rw[←hr];refine⟨_,(.tmp (.tmp (.tmp .nil))),?_⟩;refine⟨(.one rfl rfl (.one rfl rfl (.one rfl rfl .nil))),[iV 3,iV s76,iV s88],[],by simp[BN],by simp,(yM _)⟩
     have g94:¬(b90=true):=gQ;clear g;replace h:=if_r g94 h;refine Q7 (bn (tn (runQ hN λK hK=>?_)));replace⟨a95,h⟩:=Q1 h;simp[Qi a95];(repeat refine sdQ ?_);refine hK _ ?_;clear hK K;cases h;exact rn (s':=s88+1) hk88 (wkQ [(0,0)])
    have g89:¬(s88<(c_.fr.length:Int)):=gQ;clear g;replace h:=if_r g89 h;refine Qk (tx (lx (bh (bn ?_))));cases h;have q:_=e88:=hk88;have h:=h88;rw[←q]at h;clear q;(try dsimp only at h);exact jn (b:=()) (yJ h) (wkQ [(0,0)])
   intro b78 hb78;have h:=h78;(try rw[←hb78]at h);clear h78;(try dsimp only at h);refine runQ hN λK hK=>?_;replace⟨a96,h⟩:=Q1 h;simp[Qi a96];(repeat refine sdQ ?_);refine hK _ ?_;clear hK K;cases h;exact rn (s':=s76+1) hk76 (wkQ [(0,0)])
  have g77:¬(s76<(c_.fr.length:Int)):=gQ;clear g;replace h:=if_r g77 h;refine Qk (tx (lx (bh ?_)));cases h;exact jn (b:=()) hk76 (wkQ [])
 intro b57 hb57;have h:=h57;try rw[←hb57]at h
 clear h57;try dsimp only at h
 refine Q0 (runQ hN λK hK=>?_);simp;repeat refine sdQ ?_
 refine hK _ (tn (Q4 (st':=⟨[(4,iV 0),(5,iV (-1)),(6,iV (-1))],[],0⟩) (wkQ []) (Qh ?_)));clear hK K;have hr:=yJ h;rw[←hr];refine⟨_,(.tmp (.tmp (.tmp .nil))),?_⟩;refine⟨(.one rfl rfl (.one rfl rfl (.one rfl rfl .nil))),[iV 0,iV (-1),iV (-1)],[],by simp[BN],by simp,(yM _)⟩
attribute [local simp] unk unA unE unT unC flat eL eI Qj QQ Cat.cells
def Q4j(c_:Cat)(w_:List Int):Option Int:=
 (Q2f c_ w_).bind λv1=>
 (
  if v1=0 then
   (Q2B w_).bind λv4=>
   some (!v4)
  else
   some false:Option (Bool)).bind λb2=>
 (
  if b2=true then
   some 5
  else
   some v1:Option (Int)).bind λb5=>
 some b5
theorem Qbk(c_:Cat)(w_:List Int)(r:Int)(h:Q4j c_ w_=some r):Contract Tryz.prog 48 (Y0w c_ [lI w_]) (iV r):=by
 refine Q9 (rvs:=[.tmp 4]) (rs:=[iV r]) Tryz.func48 rfl rfl rfl rfl (by simp[Tryz.f48]) λF hN hP=>?_;unfold Q4j at h;refine Q0 (runQ hN λK hK=>?_);simp;repeat refine sdQ ?_
 refine hK _ ?_;clear hK K;refine tn (Q4 (st':=⟨(1,lI w_)::Y00 [],Y6 c_ [],1⟩) (wkQ [(0,0)]) (Q0 (runQ hN λK hK=>?_)));simp;repeat with_reducible refine sdQ ?_
 replace⟨v1,hv1,h⟩:=bind_some h;refine Q2 (Q7X _ _ v1 hv1) (.cons (.aggL (.cons .val (.cons .lst (.cons .lst (.cons .lst (.cons .lst .nil)))))) (.cons .lst .nil)) ?_;simp;repeat refine sdQ ?_
 refine hK _ (tn (Q4 (st':=⟨[(1,lI w_),(5,iV v1)],[],0⟩) (wkQ []) (Q0 (Q0 ?_))));clear hK K;replace⟨e2,h,h2⟩:=bind_some h;refine Qc (λb2:Bool=>⟨[(5,iV v1),(15,.val (.bool b2))],[],0⟩) (λb2=>b2=e2) ?_ ?_
 ·refine runQ hN λK hK=>?_;simp;repeat with_reducible refine sdQ ?_
  refine Qy (λg=>?_) (λg=>?_)
  ·have g3:v1=0:=gQ;clear g;replace h:=if_l g3 h;simp;(repeat with_reducible refine sdQ ?_);replace⟨v4,hv4,h⟩:=bind_some h;refine Q2 (Q8W _ v4 hv4) (.cons .lst .nil) ?_;simp;(repeat refine sdQ ?_);refine hK _ ?_;exact jn (b:=!v4) (yJ h) (wkQ [])
  have g3:¬(v1=0):=gQ;clear g;replace h:=if_r g3 h;simp;repeat refine sdQ ?_
  refine hK _ ?_;exact jn (b:=false) (yJ h) (wkQ [])
 intro b2 hb2;have h:=h2;try rw[←hb2]at h
 clear h2;try dsimp only at h
 replace⟨e5,h,h5⟩:=bind_some h;refine Qc (λb5:Int=>⟨[(5,iV b5)],[],0⟩) (λb5=>b5=e5) ?_ ?_
 ·refine Q6 rfl (λg=>?_) λg=>?_
  ·have g6:b2=true:=gQ;clear g;replace h:=if_l g6 h;refine runQ hN λK hK=>?_;simp;(repeat refine sdQ ?_);refine hK _ ?_;clear hK K;exact jn (b:=5) (yJ h) (wkQ [])
  have g6:¬(b2=true):=gQ;clear g;replace h:=if_r g6 h;refine Q7 ?_;exact jn (b:=v1) (yJ h) (wkQ [])
 intro b5 hb5;have h:=h5;try rw[←hb5]at h
 clear h5;try dsimp only at h
 refine Q0 (runQ hN λK hK=>?_);simp;repeat refine sdQ ?_
 refine hK _ (tn (Q4 (st':=⟨[(4,iV b5)],[],0⟩) (wkQ []) (Qh ?_)));clear hK K;have hr:=yJ h;rw[←hr];refine⟨_,(.tmp .nil),?_⟩;refine⟨(.one rfl rfl .nil),[iV b5],[],by simp[BN],by simp,(yM _)⟩
attribute [local simp] unk unA unE unT unC flat eL eI Qj QQ Cat.cells
def Q2Z(c_:Cat)(w_:List Int):Option Int:=
 (Q4j c_ w_).bind λv1=>
 (
  if v1=0 then
   (Q2C c_ w_).bind λv4=>
   if¬(v4.1=0)then
    some 5
   else
    some v1
  else
   some v1:Option (Int)).bind λb2=>
 some b2
theorem Q9L(c_:Cat)(w_:List Int)(r:Int)(h:Q2Z c_ w_=some r):Contract Tryz.prog 32 (Y0w c_ [lI w_]) (iV r):=by
 refine Q9 (rvs:=[.tmp 4]) (rs:=[iV r]) Tryz.func32 rfl rfl rfl rfl (by simp[Tryz.f32]) λF hN hP=>?_;unfold Q2Z at h;refine Q0 (runQ hN λK hK=>?_);simp;repeat refine sdQ ?_
 refine hK _ ?_;clear hK K;refine tn (Q4 (st':=⟨(1,lI w_)::Y00 [],Y6 c_ [],1⟩) (wkQ [(0,0)]) (Q0 (runQ hN λK hK=>?_)));simp;repeat with_reducible refine sdQ ?_
 replace⟨v1,hv1,h⟩:=bind_some h;refine Q2 (Qbk _ _ v1 hv1) (.cons (.aggL (.cons .val (.cons .lst (.cons .lst (.cons .lst (.cons .lst .nil)))))) (.cons .lst .nil)) ?_;simp;repeat refine sdQ ?_
 refine hK _ ?_;clear hK K;refine tn (Q4 (st':=⟨(1,lI w_)::Y00 [(5,iV v1)],Y6 c_ [],1⟩) (wkQ [(0,0)]) (Q0 (Q0 (runQ hN λK hK=>?_))));simp;repeat refine sdQ ?_
 refine hK _ (tn ?_);clear hK K;replace⟨e2,h,h2⟩:=bind_some h;refine Qc (λb2:Int=>⟨[(5,iV b2)],[],0⟩) (λb2=>b2=e2) ?_ ?_
 ·refine Q6 rfl (λg=>?_) λg=>?_
  ·have g3:v1=0:=gQ;clear g;replace h:=if_l g3 h;refine Q0 (runQ hN λK hK=>?_);simp;(repeat with_reducible refine sdQ ?_);replace⟨v4,hv4,h⟩:=bind_some h;refine Q2 (Q8X _ _ v4 hv4) (.cons (.aggL (.cons .val (.cons .lst (.cons .lst (.cons .lst (.cons .lst .nil)))))) (.cons .lst .nil)) ?_;simp;(repeat refine sdQ ?_);refine hK _ ?_;clear hK K;refine tn (Q4 (st':=⟨[(5,iV v1),(6,iV v4.1)],[],0⟩) (wkQ []) (Q0 (runQ hN λK hK=>?_)));simp;(repeat refine sdQ ?_);refine hK _ ?_;clear hK K;refine tn (Q6 rfl (λg=>?_) λg=>?_)
   ·have g5:¬(v4.1=0):=gQ;clear g;replace h:=if_l g5 h;refine runQ hN λK hK=>?_;simp;(repeat refine sdQ ?_);refine hK _ ?_;clear hK K;exact jn (b:=5) (yJ h) (wkQ [])
   have g5:¬(¬(v4.1=0)):=gQ;clear g;replace h:=if_r g5 h;refine Q7 ?_;exact jn (b:=v1) (yJ h) (wkQ [])
  have g3:¬(v1=0):=gQ;clear g;replace h:=if_r g3 h;refine Q7 ?_;exact jn (b:=v1) (yJ h) (wkQ [])
 intro b2 hb2;have h:=h2;try rw[←hb2]at h
 clear h2;try dsimp only at h
 refine Q0 (runQ hN λK hK=>?_);simp;repeat refine sdQ ?_
 refine hK _ (tn (Q4 (st':=⟨[(4,iV b2)],[],0⟩) (wkQ []) (Qh ?_)));clear hK K;have hr:=yJ h;rw[←hr];refine⟨_,(.tmp .nil),?_⟩;refine⟨(.one rfl rfl .nil),[iV b2],[],by simp[BN],by simp,(yM _)⟩
section
attribute [local simp] Qa QD Qn QL Qv
def Fb1(c:Cat)(w:List Int)(f v:Int):Prop:=ix c.to f=ix c.to v∧sqF c w f v=none
def Fb2(c:Cat)(w:List Int)(f g:Int):Prop:=(ix c.fr f=ix c.fr g∧ix c.to f=ix c.to g)∧¬Cnc c w f g
structure FinW(c:Cat)(w:List Int):Prop where
 clo:Clo c w
 sq:∀f:Nat,f<c.fr.length→∀v∈w,¬Fb1 c w f v
 cn:∀f g:Nat,f<g→g<c.fr.length→¬Fb2 c w f g
theorem e_hasSq{c:Cat}(hc:c.Is)(w:List Int){f v:Int}(hf:0≤f∧f<(c.fr.length:Int))(hv:0≤v∧v<(c.fr.length:Int)):QI (wD c w) f v=some (bo (¬sqF c w f v=none)):=by
 unfold QI;rw[Q8d hc w hf hv];cases h:sqF c w f v with
 |none=>rw[Qp (λq=>q rfl)];rfl
 |some x=>rw[Qw (by simp)];rfl
def fI1(c:Cat)(w:List Int)(s27:Int):Int→Option (Ctl Int ((Int×Int×Int)⊕Unit)):=λs39=>
 if s39<(w.length:Int)then
  ass (0≤s39∧s39<(w.length:Int))<|
  (
   ass (0≤s27∧s27<(c.to.length:Int))<|
   ass (0≤ix w s39∧ix w s39<(c.to.length:Int))<|
   if(ix c.to s27)=(ix c.to (ix w s39))then
    (QI (wD c w) s27 (ix w s39)).bind λv46=>
    some (!v46)
   else
    some false:Option (Bool)).bind λb42=>
  if b42=true then
   some (yV (yU (2,s27,ix w s39)))
  else
   ass (B64 (s39+1))<|
   some (yK (s39+1))
 else
  some (yV (yW ()))
theorem Q7m{c:Cat}(hc:c.Is){w:List Int}(hw:InW c w)(hl:w.length≤1048576){f j:Nat}(hf:f<c.fr.length)(hj:j<w.length):
  fI1 c w f j=if bo (Fb1 c w f (ix w j))=true then some (.ret (yU (2,(f:Int),ix w j)))else some (.next ((j:Int)+1)):=by
 have hn:=hc.nums;have a:=hw.at hj;unfold fI1;rw[if_pos (by omega),Q3 (by omega),Q3 (by omega),Q3 (by omega)]
 by_cases h1:ix c.to f=ix c.to (ix w j)
 ·rw[if_pos h1,e_hasSq hc w ⟨by omega,by omega⟩ a];simp only[yT]
  by_cases h2:sqF c w f (ix w j)=none
  ·rw[Qp (λq=>q h2),Qw (show Fb1 c w f (ix w j) from⟨h1,h2⟩)];rfl
  rw[Qw h2,Qp (λq:Fb1 c w f (ix w j)=>h2 q.2)];simp only[Bool.not_true,zG,if_false];rw[Q3 (by unfold B64;omega)]
 rw[if_neg h1,Qp (λq:Fb1 c w f (ix w j)=>h1 q.1)];simp only[yT,zG,if_false];rw[Q3 (by unfold B64;omega)]
theorem fI1_no{c:Cat}(hc:c.Is){w:List Int}(hw:InW c w)(hl:w.length≤1048576){f:Nat}(hf:f<c.fr.length)(h:¬∃j:Nat,0≤j∧j<w.length∧Fb1 c w f (ix w j)):Qd (fI1 c w f) fuel 0=some (yW ()):=
 Q5b 0 w.length (by omega) (zV _) (λj _ hj=>by rw[Q7m hc hw hl hf hj,Qp (λb=>h ⟨j,zV _,hj,b⟩)];rfl) (by unfold fI1;rw[if_neg (by omega)])
theorem fI1_yes{c:Cat}(hc:c.Is){w:List Int}(hw:InW c w)(hl:w.length≤1048576){f:Nat}(hf:f<c.fr.length)(h:∃j:Nat,0≤j∧j<w.length∧Fb1 c w f (ix w j)):∃e,Qd (fI1 c w f) fuel 0=some e∧∃p:Int×Int×Int,e=yU p∧p.1=2:=
 Q3W 0 w.length _ (by omega) h (λj _ hj hp=>by rw[Q7m hc hw hl hf hj,Qp hp];rfl) λj _ hj hp=>⟨_,by rw[Q7m hc hw hl hf hj,Qw hp];rfl,_,rfl,rfl⟩
def fI2(c:Cat)(w:List Int)(s71:Int):Int→Option (Ctl Int ((Int×Int×Int)⊕Unit)):=λs84=>
 if s84<(c.fr.length:Int)then
  (
   (Q17 c s71).bind λv87=>
   (Q17 c s84).bind λv88=>
   if v87.a=v88.a∧v87.b=v88.b then
    (QO (wD c w) s71 s84).bind λv90=>
    some (!v90)
   else
    some false:Option (Bool)).bind λb86=>
  if b86=true then
   some (yV (yU (3,s71,s84)))
  else
   ass (B64 (s84+1))<|
   some (yK (s84+1))
 else
  some (yV (yW ()))
theorem Q7n{c:Cat}(hc:c.Is){w:List Int}(hw:InW c w){f g:Nat}(hf:f<c.fr.length)(hg:g<c.fr.length):
  fI2 c w f g=if bo (Fb2 c w f g)=true then some (.ret (yU (3,(f:Int),(g:Int))))else some (.next ((g:Int)+1)):=by
 have hn:=hc.nums;unfold fI2 Q17;rw[if_pos (by omega),Q3 (by omega),Q3 (by omega)];simp only[yT]
 by_cases h1:ix c.fr f=ix c.fr g∧ix c.to f=ix c.to g
 ·rw[if_pos h1,QaN hc hw ⟨by omega,by omega⟩ ⟨by omega,by omega⟩];simp only[yT]
  by_cases h2:Cnc c w f g
  ·rw[Qw h2,Qp (λq:Fb2 c w f g=>q.2 h2)];simp only[Bool.not_true,zG,if_false];rw[Q3 (by unfold B64;omega)]
  rw[Qp h2,Qw (show Fb2 c w f g from⟨h1,h2⟩)];rfl
 rw[if_neg h1,Qp (λq:Fb2 c w f g=>h1 q.1)];simp only[yT,zG,if_false];rw[Q3 (by unfold B64;omega)]
theorem fI2_no{c:Cat}(hc:c.Is){w:List Int}(hw:InW c w){f:Nat}(hf:f<c.fr.length)(h:¬∃g:Nat,f+1≤g∧g<c.fr.length∧Fb2 c w f g):Qd (fI2 c w f) fuel ((f+1:Nat):Int)=some (yW ()):=
 Q5b (f+1) c.fr.length (by have:=hc.nums;omega) (by omega) (λg h1 hg=>by rw[Q7n hc hw hf hg,Qp (λb=>h ⟨g,h1,hg,b⟩)];rfl) (by unfold fI2;rw[if_neg (by omega)])
theorem fI2_yes{c:Cat}(hc:c.Is){w:List Int}(hw:InW c w){f:Nat}(hf:f<c.fr.length)(h:∃g:Nat,f+1≤g∧g<c.fr.length∧Fb2 c w f g):∃e,Qd (fI2 c w f) fuel ((f+1:Nat):Int)=some e∧∃p:Int×Int×Int,e=yU p∧p.1=3:=
 Q3W (f+1) c.fr.length _ (by have:=hc.nums;omega) h (λg _ hg hp=>by rw[Q7n hc hw hf hg,Qp hp];rfl) λg _ hg hp=>⟨_,by rw[Q7n hc hw hf hg,Qw hp];rfl,_,rfl,rfl⟩
theorem e_faultI{c:Cat}(hc:c.Is){w:List Int}(hw:InW c w)(hl:w.length≤1048576):∃r,QW (wD c w)=some r∧(r.1=0↔FinW c w):=by
 have hn:=hc.nums;unfold QW Qs;obtain⟨r0,e0,h0⟩:=e_closedI hc hw hl;rw[e0];simp only[yT,show(wD c w).c_=c from rfl]
 by_cases hC:Clo c w
 case neg=>
  rw[if_pos (h0.2 hC)];exact⟨_,rfl,⟨λh=>by simp at h,λh=>absurd h.clo hC⟩⟩
 rw[if_neg (λq=>h0.1 q hC)];refine Q4x c.fr.length (λf:Nat=>∃j:Nat,0≤j∧j<w.length∧Fb1 c w f (ix w j)) (eg:=yU ()) (by omega) (λi hi hp=>?_) (λi hi hp=>?_) (by rw[if_neg (by omega)]) λhp=>?_
 ·rw[if_pos (by omega)];show(((Qd (fI1 c w i) fuel 0).bind _).bind _)=_;rw[fI1_no hc hw hl hi hp];simp only[yT];rw[Q3 (by unfold B64;omega)]
 ·rw[if_pos (by omega)];obtain⟨e,e1,p,rfl,e3⟩:=fI1_yes hc hw hl hi hp;refine⟨yW p,?_,p,rfl,⟨λh=>by omega,λhF=>?_⟩⟩
  ·show(((Qd (fI1 c w i) fuel 0).bind _).bind _)=_;rw[e1];rfl
  obtain⟨j,_,hj,hb⟩:=hp;exact absurd hb (hF.sq i hi _ (by rw[←Q16 _ _ hj];exact zW hj))
 simp only;refine Q4x c.fr.length (λf:Nat=>∃g:Nat,f+1≤g∧g<c.fr.length∧Fb2 c w f g) (eg:=yU ()) (by omega) (λi hi hq=>?_) (λi hi hq=>?_) (by rw[if_neg (by omega)]) λhq=>?_
 ·rw[if_pos (by omega),Q3 (by unfold B64;omega)];show(((Qd (fI2 c w i) fuel ((i:Int)+1)).bind _).bind _)=_;rw[show((i:Int)+1)=((i+1:Nat):Int) by omega,fI2_no hc hw hi hq];simp only[yT];rw[Q3 (by unfold B64;omega)]
 ·rw[if_pos (by omega),Q3 (by unfold B64;omega)];obtain⟨e,e1,p,rfl,e3⟩:=fI2_yes hc hw hi hq;refine⟨yW p,?_,p,rfl,⟨λh=>by omega,λhF=>?_⟩⟩
  ·show(((Qd (fI2 c w i) fuel ((i:Int)+1)).bind _).bind _)=_;rw[show((i:Int)+1)=((i+1:Nat):Int) by omega,e1];rfl
  obtain⟨g,hg1,hg2,hb⟩:=hq;exact absurd hb (hF.cn i g (by omega) hg2)
 refine⟨_,rfl,⟨λ_=>⟨hC,λf hf v hv hb=>?_,λf g h1 h2 hb=>hq f (by omega) ⟨g,by omega,h2,hb⟩⟩,λ_=>rfl⟩⟩;obtain⟨j,hj,e⟩:=zY hv;exact hp f hf ⟨j,zV _,hj,by rw[←Q16 _ _ hj,e];exact hb⟩
def fS1(c:Cat)(w:List Int)(s30:Int):Int→Option (Ctl Int ((Int×Int×Int)⊕Unit)):=λs44=>
 if s44<(w.length:Int)then
  (
   ass (0≤s30∧s30<(c.to.length:Int))<|
   ass (0≤s44∧s44<(w.length:Int))<|
   ass (0≤ix w s44∧ix w s44<(c.to.length:Int))<|
   if(ix c.to s30)=(ix c.to (ix w s44))then
    ass (0≤s44∧s44<(w.length:Int))<|
    (Q1c c w s30 (ix w s44)).bind λv52=>
    if¬(v52.2.2.2=true)then
     ass (0≤s44∧s44<(w.length:Int))<|
     some (yW (2,s30,ix w s44))
    else
     some (yU ())
   else
    some (yU ()):Option (Unit⊕(Int×Int×Int))).bind λe46=>
  match e46 with
  | .inl b46=>
   ass (B64 (s44+1))<|
   some (yK (s44+1))
  | .inr p46=>
   some (yV (yU p46))
 else
  some (yV (yW ()))
theorem Q7o{c:Cat}(hc:c.Is){w:List Int}(hw:InW c w)(hl:w.length≤1048576){f j:Nat}(hf:f<c.fr.length)(hj:j<w.length):
  fS1 c w f j=if bo (Fb1 c w f (ix w j))=true then some (.ret (yU (2,(f:Int),ix w j)))else some (.next ((j:Int)+1)):=by
 have hn:=hc.nums;have a:=hw.at hj;unfold fS1;rw[if_pos (by omega),Q3 (by omega),Q3 (by omega),Q3 (by omega)]
 by_cases h1:ix c.to f=ix c.to (ix w j)
 ·rw[if_pos h1,Q3 (by omega),Q8e hc w ⟨by omega,by omega⟩ a];simp only[yT];cases h2:sqF c w f (ix w j)with
  |none=>
   rw[Qw (show Fb1 c w f (ix w j) from⟨h1,h2⟩)];simp only[Option.elim_none,zG,not_false_eq_true,if_true];rw[Q3 (by omega)];rfl
  |some x=>
   rw[Qp (λq:Fb1 c w f (ix w j)=>by rw[q.2]at h2;cases h2)];simp only[Option.elim_some,not_true_eq_false,if_false,yT,zG];rw[Q3 (by unfold B64;omega)]
 rw[if_neg h1,Qp (λq:Fb1 c w f (ix w j)=>h1 q.1)];simp only[yT,zG,if_false];rw[Q3 (by unfold B64;omega)]
theorem fS1_no{c:Cat}(hc:c.Is){w:List Int}(hw:InW c w)(hl:w.length≤1048576){f:Nat}(hf:f<c.fr.length)(h:¬∃j:Nat,0≤j∧j<w.length∧Fb1 c w f (ix w j)):Qd (fS1 c w f) fuel 0=some (yW ()):=
 Q5b 0 w.length (by omega) (zV _) (λj _ hj=>by rw[Q7o hc hw hl hf hj,Qp (λb=>h ⟨j,zV _,hj,b⟩)];rfl) (by unfold fS1;rw[if_neg (by omega)])
theorem fS1_yes{c:Cat}(hc:c.Is){w:List Int}(hw:InW c w)(hl:w.length≤1048576){f:Nat}(hf:f<c.fr.length)(h:∃j:Nat,0≤j∧j<w.length∧Fb1 c w f (ix w j)):∃e,Qd (fS1 c w f) fuel 0=some e∧∃p:Int×Int×Int,e=yU p∧p.1=2:=
 Q3W 0 w.length _ (by omega) h (λj _ hj hp=>by rw[Q7o hc hw hl hf hj,Qp hp];rfl) λj _ hj hp=>⟨_,by rw[Q7o hc hw hl hf hj,Qw hp];rfl,_,rfl,rfl⟩
def fS2(c:Cat)(w:List Int)(s76:Int):Int→Option (Ctl Int ((Int×Int×Int)⊕Unit)):=λs88=>
 if s88<(c.fr.length:Int)then
  (
   (Q1z c s76 s88).bind λv91=>
   if v91=true then
    (Q1K c w s76 s88).bind λv93=>
    some (!v93)
   else
    some false:Option (Bool)).bind λb90=>
  if b90=true then
   some (yV (yU (3,s76,s88)))
  else
   ass (B64 (s88+1))<|
   some (yK (s88+1))
 else
  some (yV (yW ()))
theorem Q9b{c:Cat}(hc:c.Is){f g:Nat}(hf:f<c.fr.length)(hg:g<c.fr.length):Q1z c f g=some (bo (ix c.fr f=ix c.fr g∧ix c.to f=ix c.to g)):=by
 have hn:=hc.nums;unfold Q1z;rw[Q3 (by omega),Q3 (by omega)]
 by_cases h1:ix c.fr f=ix c.fr g
 ·rw[if_pos h1,Q3 (by omega),Q3 (by omega)];simp only[yT]
  by_cases h2:ix c.to f=ix c.to g
  ·rw[Qw ⟨h1,h2⟩];simp[h2]
  rw[Qp (λq=>h2 q.2)];simp[h2]
 rw[if_neg h1,Qp (λq=>h1 q.1)];rfl
theorem Q7p{c:Cat}(hc:c.Is){w:List Int}(hw:InW c w)(hl:w.length≤1048576){f g:Nat}(hf:f<c.fr.length)(hg:g<c.fr.length):
  fS2 c w f g=if bo (Fb2 c w f g)=true then some (.ret (yU (3,(f:Int),(g:Int))))else some (.next ((g:Int)+1)):=by
 have hn:=hc.nums;unfold fS2;rw[if_pos (by omega),Q9b hc hf hg];simp only[yT]
 by_cases h1:ix c.fr f=ix c.fr g∧ix c.to f=ix c.to g
 ·rw[Qw h1,if_pos rfl,QaO hc hw hl ⟨by omega,by omega⟩ ⟨by omega,by omega⟩];simp only[yT]
  by_cases h2:Cnc c w f g
  ·rw[Qw h2,Qp (λq:Fb2 c w f g=>q.2 h2)];simp only[Bool.not_true,zG,if_false];rw[Q3 (by unfold B64;omega)]
  rw[Qp h2,Qw (show Fb2 c w f g from⟨h1,h2⟩)];rfl
 rw[Qp h1,if_neg (by simp),Qp (λq:Fb2 c w f g=>h1 q.1)];simp only[yT,zG,if_false];rw[Q3 (by unfold B64;omega)]
theorem fS2_no{c:Cat}(hc:c.Is){w:List Int}(hw:InW c w)(hl:w.length≤1048576){f:Nat}(hf:f<c.fr.length)(h:¬∃g:Nat,f+1≤g∧g<c.fr.length∧Fb2 c w f g):Qd (fS2 c w f) fuel ((f+1:Nat):Int)=some (yW ()):=
 Q5b (f+1) c.fr.length (by have:=hc.nums;omega) (by omega) (λg h1 hg=>by rw[Q7p hc hw hl hf hg,Qp (λb=>h ⟨g,h1,hg,b⟩)];rfl) (by unfold fS2;rw[if_neg (by omega)])
theorem fS2_yes{c:Cat}(hc:c.Is){w:List Int}(hw:InW c w)(hl:w.length≤1048576){f:Nat}(hf:f<c.fr.length)(h:∃g:Nat,f+1≤g∧g<c.fr.length∧Fb2 c w f g):∃e,Qd (fS2 c w f) fuel ((f+1:Nat):Int)=some e∧∃p:Int×Int×Int,e=yU p∧p.1=3:=
 Q3W (f+1) c.fr.length _ (by have:=hc.nums;omega) h (λg _ hg hp=>by rw[Q7p hc hw hl hf hg,Qp hp];rfl) λg _ hg hp=>⟨_,by rw[Q7p hc hw hl hf hg,Qw hp];rfl,_,rfl,rfl⟩
theorem e_faultS{c:Cat}(hc:c.Is){w:List Int}(hw:InW c w)(hl:w.length≤1048576):∃r,Q2C c w=some r∧(r.1=0↔FinW c w):=by
 have hn:=hc.nums;unfold Q2C;obtain⟨r0,e0,h0⟩:=e_closedS hc hw hl;rw[e0];simp only[yT]
 by_cases hC:Clo c w
 case neg=>
  rw[if_pos (λq=>hC (h0.1 q))];exact⟨_,rfl,⟨λh=>absurd (h0.1 h) hC,λh=>absurd h.clo hC⟩⟩
 rw[if_neg (λq=>q (h0.2 hC))];refine Q4x c.fr.length (λf:Nat=>∃j:Nat,0≤j∧j<w.length∧Fb1 c w f (ix w j)) (eg:=yU ()) (by omega) (λi hi hp=>?_) (λi hi hp=>?_) (by rw[if_neg (by omega)]) λhp=>?_
 ·rw[if_pos (by omega)];show(((Qd (fS1 c w i) fuel 0).bind _).bind _)=_;rw[fS1_no hc hw hl hi hp];simp only[yT];rw[Q3 (by unfold B64;omega)]
 ·rw[if_pos (by omega)];obtain⟨e,e1,p,rfl,e3⟩:=fS1_yes hc hw hl hi hp;refine⟨yW p,?_,p,rfl,⟨λh=>by omega,λhF=>?_⟩⟩
  ·show(((Qd (fS1 c w i) fuel 0).bind _).bind _)=_;rw[e1];rfl
  obtain⟨j,_,hj,hb⟩:=hp;exact absurd hb (hF.sq i hi _ (by rw[←Q16 _ _ hj];exact zW hj))
 simp only;refine Q4x c.fr.length (λf:Nat=>∃g:Nat,f+1≤g∧g<c.fr.length∧Fb2 c w f g) (eg:=yU ()) (by omega) (λi hi hq=>?_) (λi hi hq=>?_) (by rw[if_neg (by omega)]) λhq=>?_
 ·rw[if_pos (by omega),Q3 (by unfold B64;omega)];show(((Qd (fS2 c w i) fuel ((i:Int)+1)).bind _).bind _)=_;rw[show((i:Int)+1)=((i+1:Nat):Int) by omega,fS2_no hc hw hl hi hq];simp only[yT];rw[Q3 (by unfold B64;omega)]
 ·rw[if_pos (by omega),Q3 (by unfold B64;omega)];obtain⟨e,e1,p,rfl,e3⟩:=fS2_yes hc hw hl hi hq;refine⟨yW p,?_,p,rfl,⟨λh=>by omega,λhF=>?_⟩⟩
  ·show(((Qd (fS2 c w i) fuel ((i:Int)+1)).bind _).bind _)=_;rw[show((i:Int)+1)=((i+1:Nat):Int) by omega,e1];rfl
  obtain⟨g,hg1,hg2,hb⟩:=hq;exact absurd hb (hF.cn i g (by omega) hg2)
 refine⟨_,rfl,⟨λ_=>⟨hC,λf hf v hv hb=>?_,λf g h1 h2 hb=>hq f (by omega) ⟨g,by omega,h2,hb⟩⟩,λ_=>rfl⟩⟩;obtain⟨j,hj,e⟩:=zY hv;exact hp f hf ⟨j,zV _,hj,by rw[←Q16 _ _ hj,e];exact hb⟩
def Q6x(c:Cat)(w:List Int):Int:=if Q6z c w=0 then if bo (Q6y w)=true then if bo (FinW c w)=true then 0 else 5 else 5 else Q6z c w
theorem Q7b{c:Cat}{w:List Int}(h:Q6z c w=0):c.Is∧InW c w:=by
 unfold Q6z at h
 by_cases hc:c.Is
 ·rw[Qw hc,if_pos rfl]at h;refine⟨hc,?_⟩;unfold InW;cases hw:w.all (inR (c.fr.length:Int))with
  |true=>rfl
  |false=>rw[hw]at h;simp at h
 rw[Qp hc]at h;simp at h
theorem Q99{c:Cat}{w:List Int}(hl:w.length≤1048576):Q2Z c w=some (Q6x c w):=by
 unfold Q2Z Q4j Q6x;rw[(e_acode c w).2];simp only[yT]
 by_cases h0:Q6z c w=0
 case neg=>simp[h0]
 obtain⟨hc,hw⟩:=Q7b h0;rw[if_pos h0,Q9a hl];simp only[yT]
 by_cases hr:Q6y w
 case neg=>rw[Qp hr];simp[h0]
 obtain⟨r,e1,e2⟩:=e_faultS hc hw hl;rw[Qw hr,e1]
 by_cases hF:FinW c w
 ·have:=e2.2 hF;rw[Qw hF];simp[h0,this]
 have:¬r.1=0:=λq=>hF (e2.1 q);rw[Qp hF];simp[h0,this]
theorem Q98{c:Cat}{w:List Int}(hl:w.length≤1048576):Q1H c w []=some (if Q6x c w=0 then yW (Q1C w c.fr.length w.length)else yU (Q6x c w)):=by
 unfold Q1H Q1w Q2M Q6x;rw[(e_acode c w).1];simp only[yT]
 by_cases h0:Q6z c w=0
 case neg=>simp[h0]
 obtain⟨hc,hw⟩:=Q7b h0;have hn:=hc.nums;rw[if_neg (λq=>q h0),Q3 (by unfold B64;omega),e_risingW hl,e_marksW hc hw hl,if_pos h0]
 by_cases hr:Q6y w
 case neg=>rw[Qp hr];simp
 obtain⟨r,e1,e2⟩:=e_faultI hc hw hl;have e1':QW (⟨c,w,Q1C w c.fr.length w.length⟩:XD)=some r:=e1;rw[Qw hr];simp only[List.all_nil,not_true_eq_false,if_false,yT,if_true,e1']
 by_cases hF:FinW c w
 ·have:=e2.2 hF;rw[Qw hF];simp[this]
 have:¬r.1=0:=λq=>hF (e2.1 q);rw[Qp hF];simp[this]
end
attribute [local simp] unk unA unE unT unC flat eL eI Qj QQ Qz Q10 Cat.cells XD.cells X3.cells
def QK(w_:XD)(x_:Int)(y_:Int):Option (List X3):=
 (Qd (σ:=List X3×Int) (ε:=List X3) (λs39=>
  if s39.2<w_.c_.n then
   (
    (QG w_.c_ s39.2 x_).bind λv42=>
    (Qd (σ:=List X3×Int) (ε:=List X3) (λs59=>
     if s59.2<(v42.length:Int)then
      (
       ass (0≤s59.2∧s59.2<(v42.length:Int))<|
       ass (0≤ix v42 s59.2∧ix v42 s59.2<(w_.there_.length:Int))<|
       if¬((gx w_.there_ (ix v42 s59.2))=true)then
        some s59.1
       else
        (QG w_.c_ s39.2 y_).bind λv65=>
        (Qd (σ:=List X3×Int) (ε:=List X3) (λs70=>
         if s70.2<(v65.length:Int)then
          ass (0≤s70.2∧s70.2<(v65.length:Int))<|
          ass ((s70.1++[(⟨s39.2,ix v42 s59.2,ix v65 s70.2⟩:X3)]).length≤1073741824)<|
          ass (B64 (s70.2+1))<|
          some (yK (s70.1++[(⟨s39.2,ix v42 s59.2,ix v65 s70.2⟩:X3)],s70.2+1))
         else
          some (yV s70.1)) fuel (s59.1,0)).bind λp70=>
        some p70:Option (List X3)).bind λb61=>
      ass (B64 (s59.2+1))<|
      some (yK (b61,s59.2+1))
     else
      some (yV s59.1)) fuel (s39.1,0)).bind λp59=>
    some p59:Option (List X3)).bind λb41=>
   ass (B64 (s39.2+1))<|
   some (yK (b41,s39.2+1))
  else
   some (yV s39.1)) fuel ([],0)).bind λb1=>
 some b1
@[simp] abbrev YG(a:XD)(b:List X3×Int)(c:List Int)(d:List (Nat×AV)):List (Nat×AV):=(20,iV a.c_.n)::(21,iV b.2)::(30,.own 1 0 c.length)::(31,iV (c.length:Int))::d
@[simp] abbrev YU(a:List X3×Int)(b:List (Nat×Ent)):List (Nat×Ent):=(0,.row 3 (Es (X3.cells true) a.1))::b
theorem Q40(w_:XD)(x_:Int)(y_:Int)(r:List X3)(h:QK w_ x_ y_=some r):Contract Tryz.prog 63 [.rptr (w_.cells true),iV x_,iV y_] (.lst true 3 (Es (X3.cells true) r)):=by
 refine Q9 (rvs:=[.tmp 6]) (rs:=[.lst true 3 (Es (X3.cells true) r)]) Tryz.func63 rfl rfl rfl rfl (by simp[Tryz.f63]) λF hN hP=>?_;unfold QK at h;refine Q0 (runQ hN λK hK=>?_);simp;repeat refine sdQ ?_
 refine hK _ ?_;clear hK K;refine tn (Q4 (st':=⟨Y0 w_ (YX x_ y_ []),[],0⟩) (wkQ []) (Q0 (runQ hN λK hK=>?_)));simp;repeat refine sdQ ?_
 refine hK _ ?_;clear hK K;refine tn (Q4 (st':=⟨Y0 w_ (YX x_ y_ [(7,.own 0 0 0)]),[(0,.mix 3 [])],1⟩) (wkQ [(0,0)]) (Q0 (Q0 (runQ hN λK hK=>?_))));simp;repeat refine sdQ ?_
 refine hK _ (tn (Q4 (st':=⟨Y0 w_ (YX x_ y_ [(7,.own 0 0 0),(20,iV w_.c_.n),(21,iV 0)]),[(0,.mix 3 [])],1⟩) (wkQ [(0,0)]) ?_));clear hK K;replace⟨e1,h,h1⟩:=bind_some h;refine Qc (λb1:List X3=>⟨[(7,.own 0 0 b1.length)],[(0,.row 3 (Es (X3.cells true) b1))],1⟩) (λb1=>b1=e1) ?_ ?_
 ·refine Q5 (Qm h (λs39:List X3×Int=>⟨Y0 w_ (YX x_ y_ [(7,.own 0 0 s39.1.length),(20,iV w_.c_.n),(21,iV s39.2)]),YU s39 [],1⟩) (Q31 ⟨Y0 w_ (YX x_ y_ [(7,.own 0 0 0),(20,iV w_.c_.n),(21,iV 0)]),[(0,.row 3 (Es (X3.cells true) []))],1⟩ (Wk.nils [] (by simp) (by simp) (by simp[nlA]) (by simp[entN,nlL,nlA,BN]) (by simp)) (wkQ [(0,0)])) ?_);clear h;intro k39 s39 c39 h hk39;refine Q0 (runQ hN λK hK=>?_);simp;repeat refine sdQ ?_
  refine hK _ ?_;clear hK K;refine tn (Q0 (Q6 rfl (λg=>?_) λg=>?_))
  ·have g40:s39.2<w_.c_.n:=gQ;clear g;replace h:=if_l g40 h;refine Q7 (tn (Q0 ?_));replace⟨e41,h,h41⟩:=bind_some h;refine Qc (λb41:List X3=>⟨Y0 w_ (YX x_ y_ [(7,.own 0 0 b41.length),(20,iV w_.c_.n),(21,iV s39.2)]),[(0,.row 3 (Es (X3.cells true) b41))],1⟩) (λb41=>b41=e41) ?_ ?_
   ·refine Q5 (Q0 (runQ hN λK hK=>?_));simp;(repeat refine sdQ ?_);refine hK _ ?_;clear hK K;refine tn (Q4 (st':=⟨Y0 w_ (YX x_ y_ [(7,.own 0 0 s39.1.length),(8,iV s39.2),(20,iV w_.c_.n),(21,iV s39.2)]),YU s39 [],1⟩) (wkQ [(0,0)]) (Q0 (runQ hN λK hK=>?_)));simp;(repeat with_reducible refine sdQ ?_);replace⟨v42,hv42,h⟩:=bind_some h;refine Q2 (Q21 _ _ _ v42 hv42) (.cons (.preT (by simp[CN])) (.cons .val (.cons .val .nil))) ?_;simp;(repeat refine sdQ ?_);refine hK _ (tn (Q4 (st':=⟨Y0 w_ (YX x_ y_ ((7,.own 0 0 s39.1.length)::(8,iV s39.2)::YG w_ s39 v42 [(32,iV 0)])),YU s39 [(1,rI v42)],2⟩) (wkQ [(0,0),(1,1)]) (Q5 ?_)));clear hK K;replace⟨e59,he59,h59⟩:=bind_some h;refine Qm he59 (λs59:List X3×Int=>⟨Y0 w_ (YX x_ y_ ((7,.own 0 0 s59.1.length)::(8,iV s39.2)::YG w_ s39 v42 [(32,iV s59.2)])),YU s59 [(1,rI v42)],2⟩) (wkQ [(0,0),(1,1)]) ?_;intro k59 s59 c59 h hk59;refine Q0 (runQ hN λK hK=>?_);simp;(repeat refine sdQ ?_);refine hK _ ?_;clear hK K;refine tn (Q0 (Q6 rfl (λg=>?_) λg=>?_))
    ·have g60:s59.2<(v42.length:Int):=gQ;clear g;replace h:=if_l g60 h;refine Q7 (tn (Q0 ?_));replace⟨e61,h,h61⟩:=bind_some h;refine Qc (λb61:List X3=>⟨Y0 w_ (YX x_ y_ ((7,.own 0 0 b61.length)::(8,iV s39.2)::YG w_ s39 v42 [(32,iV s59.2)])),[(0,.row 3 (Es (X3.cells true) b61)),(1,rI v42)],2⟩) (λb61=>b61=e61) ?_ ?_
     ·refine Q5 (Q0 (runQ hN λK hK=>?_));replace⟨a62,h⟩:=Q1 h;simp[at_I a62];(repeat refine sdQ ?_);refine hK _ ?_;clear hK K;refine tn (Q4 (st':=⟨Y0 w_ (YX x_ y_ ((7,.own 0 0 s59.1.length)::(8,iV s39.2)::(10,iV (ix v42 s59.2))::YG w_ s39 v42 [(32,iV s59.2)])),YU s59 [(1,rI v42)],2⟩) (wkQ [(0,0),(1,1)]) (Q0 (Q0 (runQ hN λK hK=>?_))));replace⟨a63,h⟩:=Q1 h;simp[at_B a63];(repeat refine sdQ ?_);refine hK _ ?_;clear hK K;refine tn (Q6 rfl (λg=>?_) λg=>?_)
      ·have g64:¬((gx w_.there_ (ix v42 s59.2))=true):=gQ;clear g;replace h:=if_l g64 h;refine Qk (tx (bh ?_));exact jn (b:=s59.1) (yJ h) (wkQ [(0,0),(1,1)])
      have g64:¬(¬((gx w_.there_ (ix v42 s59.2))=true)):=gQ;clear g;replace h:=if_r g64 h;refine Q7 (tn (Q0 (runQ hN λK hK=>?_)));simp;(repeat with_reducible refine sdQ ?_);replace⟨v65,hv65,h⟩:=bind_some h;refine Q2 (Q21 _ _ _ v65 hv65) (.cons (.preT (by simp[CN])) (.cons .val (.cons .val .nil))) ?_;simp;(repeat refine sdQ ?_);refine hK _ (tn (Q4 (st':=⟨Y0 w_ (YX x_ y_ ((7,.own 0 0 s59.1.length)::(8,iV s39.2)::(10,iV (ix v42 s59.2))::YG w_ s39 v42 [(32,iV s59.2),(50,.own 2 0 v65.length),(51,iV (v65.length:Int)),(52,iV 0)])),YU s59 [(1,rI v42),(2,rI v65)],3⟩) (wkI 3) (Q5 ?_)));clear hK K;replace⟨e70,he70,h70⟩:=bind_some h;refine Qm he70 (λs70:List X3×Int=>⟨Y0 w_ (YX x_ y_ ((7,.own 0 0 s70.1.length)::(8,iV s39.2)::(10,iV (ix v42 s59.2))::YG w_ s39 v42 [(32,iV s59.2),(50,.own 2 0 v65.length),(51,iV (v65.length:Int)),(52,iV s70.2)])),YU s70 [(1,rI v42),(2,rI v65)],3⟩) (wkI 3) ?_;intro k70 s70 c70 h hk70;refine Q0 (runQ hN λK hK=>?_);simp;(repeat refine sdQ ?_);refine hK _ ?_;clear hK K;refine tn (Q0 (Q6 rfl (λg=>?_) λg=>?_))
      ·have g71:s70.2<(v65.length:Int):=gQ;clear g;replace h:=if_l g71 h;refine Q7 (tn (Q0 (Q5 (Q0 (runQ hN λK hK=>?_)))));replace⟨a72,h⟩:=Q1 h;simp[at_I a72];(repeat refine sdQ ?_);refine hK _ ?_;clear hK K;refine tn (Q4 (st':=⟨Y0 w_ (YX x_ y_ ((7,.own 0 0 s70.1.length)::(8,iV s39.2)::(10,iV (ix v42 s59.2))::(12,iV (ix v65 s70.2))::YG w_ s39 v42 [(32,iV s59.2),(50,.own 2 0 v65.length),(51,iV (v65.length:Int)),(52,iV s70.2)])),YU s70 [(1,rI v42),(2,rI v65)],3⟩) (wkI 3) (runQ hN λK hK=>?_));replace⟨a73,h⟩:=Q1 h;(try simp only[qD,qH,zS]at a73);simp[a73];(repeat refine sdQ ?_);refine hK _ ?_;clear hK K;refine bn (tn (Q4 (st':=⟨Y0 w_ (YX x_ y_ ((7,.own 0 0 ((s70.1++[(⟨s39.2,ix v42 s59.2,ix v65 s70.2⟩:X3)]).length))::(8,iV s39.2)::(10,iV (ix v42 s59.2))::YG w_ s39 v42 [(32,iV s59.2),(50,.own 2 0 v65.length),(51,iV (v65.length:Int)),(52,iV s70.2)])),[(0,.row 3 (Es (X3.cells true) (s70.1++[(⟨s39.2,ix v42 s59.2,ix v65 s70.2⟩:X3)]))),(1,rI v42),(2,rI v65)],3⟩) (wkQ [(4,0),(1,1),(2,2)]) (runQ hN λK hK=>?_)));replace⟨a74,h⟩:=Q1 h;simp[Qi a74];(repeat refine sdQ ?_);refine hK _ ?_;clear hK K;cases h;exact rn (s':=(s70.1++[(⟨s39.2,ix v42 s59.2,ix v65 s70.2⟩:X3)],s70.2+1)) hk70 (wkI 3)
      have g71:¬(s70.2<(v65.length:Int)):=gQ;clear g;replace h:=if_r g71 h;refine Qk (tx (lx (bh (bn ?_))));cases h;have q:_=e70:=hk70;have h:=h70;rw[←q]at h;clear q;(try dsimp only at h);exact jn (b:=s70.1) (yJ h) (wkQ [(0,0),(1,1)])
     intro b61 hb61;have h:=h61;(try rw[←hb61]at h);clear h61;(try dsimp only at h);refine runQ hN λK hK=>?_;replace⟨a75,h⟩:=Q1 h;simp[Qi a75];(repeat refine sdQ ?_);refine hK _ ?_;clear hK K;cases h;exact rn (s':=(b61,s59.2+1)) hk59 (wkQ [(0,0),(1,1)])
    have g60:¬(s59.2<(v42.length:Int)):=gQ;clear g;replace h:=if_r g60 h;refine Qk (tx (lx (bh (bn ?_))));cases h;have q:_=e59:=hk59;have h:=h59;rw[←q]at h;clear q;(try dsimp only at h);exact jn (b:=s59.1) (yJ h) (wkQ [(0,0)])
   intro b41 hb41;have h:=h41;(try rw[←hb41]at h);clear h41;(try dsimp only at h);refine runQ hN λK hK=>?_;replace⟨a76,h⟩:=Q1 h;simp[Qi a76];(repeat refine sdQ ?_);refine hK _ ?_;clear hK K;cases h;exact rn (s':=(b41,s39.2+1)) hk39 (wkQ [(0,0)])
  have g40:¬(s39.2<w_.c_.n):=gQ;clear g;replace h:=if_r g40 h;refine Qk (tx (lx (bh ?_)));cases h;exact jn (b:=s39.1) hk39 (wkQ [(0,0)])
 intro b1 hb1;have h:=h1;try rw[←hb1]at h
 clear h1;try dsimp only at h
 refine Q0 (runQ hN λK hK=>?_);simp;repeat refine sdQ ?_
 refine hK _ (tn (Q4 (st':=⟨[(6,.own 0 0 b1.length)],[(0,.row 3 (Es (X3.cells true) b1))],1⟩) (wkQ [(0,0)]) (Qh ?_)));clear hK K;have hr:=yJ h;rw[←hr];refine⟨_,(.tmp .nil),?_⟩;refine⟨(.one rfl rfl .nil),[.lst true 3 (Es (X3.cells true) b1)],[0],by simp[BN],by simp,(yM _)⟩
attribute [local simp] unk unA unE unT unC flat eL eI Qj QQ Cat.cells
def Q1A(c_:Cat)(w_:List Int)(x_:Int)(y_:Int):Option (List (List Int)):=
 (Qd (σ:=List (List Int)×Int) (ε:=List (List Int)) (λs52=>
  if s52.2<c_.n then
   (
    (Q1g c_ s52.2 x_).bind λv55=>
    (Q1g c_ s52.2 y_).bind λv56=>
    (Qd (σ:=List (List Int)×Int) (ε:=List (List Int)) (λs79=>
     if s79.2<(v55.length:Int)then
      (
       (Qd (σ:=List (List Int)×Int) (ε:=List (List Int)) (λs91=>
        (
         if s91.2<(v56.length:Int)then
          ass (0≤s79.2∧s79.2<(v55.length:Int))<|
          (Q12 w_ (ix v55 s79.2)).bind λv95=>
          some v95
         else
          some false:Option (Bool)).bind λb92=>
        if b92=true then
         ass (0≤s79.2∧s79.2<(v55.length:Int))<|
         ass (0≤s91.2∧s91.2<(v56.length:Int))<|
         ass ((s91.1++[[s52.2,ix v55 s79.2,ix v56 s91.2]]).length≤1073741824)<|
         ass (B64 (s91.2+1))<|
         some (yK (s91.1++[[s52.2,ix v55 s79.2,ix v56 s91.2]],s91.2+1))
        else
         some (yV s91.1)) fuel (s79.1,0)).bind λp91=>
       some p91:Option (List (List Int))).bind λb81=>
      ass (B64 (s79.2+1))<|
      some (yK (b81,s79.2+1))
     else
      some (yV s79.1)) fuel (s52.1,0)).bind λp79=>
    some p79:Option (List (List Int))).bind λb54=>
   ass (B64 (s52.2+1))<|
   some (yK (b54,s52.2+1))
  else
   some (yV s52.1)) fuel ([],0)).bind λb1=>
 some b1
@[simp] abbrev YQ(a:List (List Int)×Int)(b c:List Int)(d:List (Nat×AV)):List (Nat×AV):=(10,iV a.2)::(11,.own 2 0 b.length)::(12,.own 3 0 c.length)::d
theorem Q5A(c_:Cat)(w_:List Int)(x_:Int)(y_:Int)(r:List (List Int))(h:Q1A c_ w_ x_ y_=some r):Contract Tryz.prog 33 (Y0w c_ [lI w_,iV x_,iV y_]) (.lst true 1 (Ls r)):=by
 refine Q9 (rvs:=[.tmp 8]) (rs:=[.lst true 1 (Ls r)]) Tryz.func33 rfl rfl rfl rfl (by simp[Tryz.f33]) λF hN hP=>?_;unfold Q1A at h;refine Q0 (runQ hN λK hK=>?_);simp;repeat refine sdQ ?_
 refine hK _ ?_;clear hK K;refine tn (Q4 (st':=⟨Ym w_ x_ y_ [],Y6 c_ [],1⟩) (wkQ [(0,0)]) (Q0 (runQ hN λK hK=>?_)));simp;repeat refine sdQ ?_
 refine hK _ ?_;clear hK K;refine tn (Q4 (st':=⟨Ym w_ x_ y_ [(9,.own 1 0 0)],Y6 c_ [(1,.mix 1 [])],2⟩) (wkQ [(0,0),(1,1)]) (Q0 (Q0 (runQ hN λK hK=>?_))));simp;repeat refine sdQ ?_
 refine hK _ (tn (Q4 (st':=⟨Ym w_ x_ y_ [(9,.own 1 0 0),(10,iV 0)],Y6 c_ [(1,.mix 1 [])],2⟩) (wkQ [(0,0),(1,1)]) ?_));clear hK K;replace⟨e1,h,h1⟩:=bind_some h;refine Qc (λb1:List (List Int)=>⟨[(9,.own 0 0 b1.length)],[(0,.row 1 (Ls b1))],1⟩) (λb1=>b1=e1) ?_ ?_
 ·refine Q5 (Qm h (λs52:List (List Int)×Int=>⟨Ym w_ x_ y_ [(9,.own 1 0 s52.1.length),(10,iV s52.2)],Y6 c_ [(1,.row 1 (Ls s52.1))],2⟩) (Q31 ⟨Ym w_ x_ y_ [(9,.own 1 0 0),(10,iV 0)],Y6 c_ [(1,.row 1 (Ls []))],2⟩ (Wk.nils [] (by simp) (by simp) (by simp[nlA]) (by simp[entN,nlL,nlA,BN]) (by simp)) (wkQ [(0,0),(1,1)])) ?_);clear h;intro k52 s52 c52 h hk52;refine Q0 (Q0 (runQ hN λK hK=>?_));simp;repeat refine sdQ ?_
  refine hK _ ?_;clear hK K;refine tn (Q6 rfl (λg=>?_) λg=>?_)
  ·have g53:s52.2<c_.n:=gQ;clear g;replace h:=if_l g53 h;refine Q7 (tn (Q0 ?_));replace⟨e54,h,h54⟩:=bind_some h;refine Qc (λb54:List (List Int)=>⟨Ym w_ x_ y_ [(9,.own 1 0 b54.length),(10,iV s52.2)],Y6 c_ [(1,.row 1 (Ls b54))],2⟩) (λb54=>b54=e54) ?_ ?_
   ·refine Q5 (Q0 (runQ hN λK hK=>?_));simp;(repeat with_reducible refine sdQ ?_);replace⟨v55,hv55,h⟩:=bind_some h;refine Q2 (Q2O _ _ _ v55 hv55) (.cons (.aggL (.cons .val (.cons .lst (.cons .lst (.cons .lst (.cons .lst .nil)))))) (.cons .val (.cons .val .nil))) ?_;simp;(repeat with_reducible refine sdQ ?_);replace⟨v56,hv56,h⟩:=bind_some h;refine Q2 (Q2O _ _ _ v56 hv56) (.cons (.aggL (.cons .val (.cons .lst (.cons .lst (.cons .lst (.cons .lst .nil)))))) (.cons .val (.cons .val .nil))) ?_;simp;(repeat refine sdQ ?_);refine hK _ ?_;clear hK K;refine tn (Q4 (st':=⟨Ym w_ x_ y_ ((9,.own 1 0 s52.1.length)::YQ s52 v55 v56 []),Y6 c_ [(1,.row 1 (Ls s52.1)),(2,rI v55),(3,rI v56)],4⟩) (wkI 4) (Q0 (runQ hN λK hK=>?_)));simp;(repeat refine sdQ ?_);refine hK _ (tn (Q4 (st':=⟨Ym w_ x_ y_ ((9,.own 1 0 s52.1.length)::YQ s52 v55 v56 [(13,iV 0)]),Y6 c_ [(1,.row 1 (Ls s52.1)),(2,rI v55),(3,rI v56)],4⟩) (wkI 4) (Q5 ?_)));clear hK K;replace⟨e79,he79,h79⟩:=bind_some h;refine Qm he79 (λs79:List (List Int)×Int=>⟨Ym w_ x_ y_ ((9,.own 1 0 s79.1.length)::YQ s52 v55 v56 [(13,iV s79.2)]),Y6 c_ [(1,.row 1 (Ls s79.1)),(2,rI v55),(3,rI v56)],4⟩) (wkI 4) ?_;intro k79 s79 c79 h hk79;refine Q0 (Q0 (runQ hN λK hK=>?_));simp;(repeat refine sdQ ?_);refine hK _ ?_;clear hK K;refine tn (Q6 rfl (λg=>?_) λg=>?_)
    ·have g80:s79.2<(v55.length:Int):=gQ;clear g;replace h:=if_l g80 h;refine Q7 (tn (Q0 ?_));replace⟨e81,h,h81⟩:=bind_some h;refine Qc (λb81:List (List Int)=>⟨Ym w_ x_ y_ ((9,.own 1 0 b81.length)::YQ s52 v55 v56 [(13,iV s79.2)]),Y6 c_ [(1,.row 1 (Ls b81)),(2,rI v55),(3,rI v56)],4⟩) (λb81=>b81=e81) ?_ ?_
     ·refine Q5 (Q0 (runQ hN λK hK=>?_));simp;(repeat refine sdQ ?_);refine hK _ (tn (Q4 (st':=⟨Ym w_ x_ y_ ((9,.own 1 0 s79.1.length)::YQ s52 v55 v56 [(13,iV s79.2),(14,iV 0)]),Y6 c_ [(1,.row 1 (Ls s79.1)),(2,rI v55),(3,rI v56)],4⟩) (wkI 4) (Q5 ?_)));clear hK K;replace⟨e91,he91,h91⟩:=bind_some h;refine Qm he91 (λs91:List (List Int)×Int=>⟨Ym w_ x_ y_ ((9,.own 1 0 s91.1.length)::YQ s52 v55 v56 [(13,iV s79.2),(14,iV s91.2)]),Y6 c_ [(1,.row 1 (Ls s91.1)),(2,rI v55),(3,rI v56)],4⟩) (wkI 4) ?_;intro k91 s91 c91 h hk91;refine Q0 (Q0 ?_);replace⟨e92,h,h92⟩:=bind_some h;refine Qc (λb92:Bool=>⟨Ym w_ x_ y_ ((9,.own 1 0 s91.1.length)::YQ s52 v55 v56 [(13,iV s79.2),(14,iV s91.2),(47,.val (.bool b92))]),Y6 c_ [(1,.row 1 (Ls s91.1)),(2,rI v55),(3,rI v56)],4⟩) (λb92=>b92=e92) ?_ ?_
      ·refine runQ hN λK hK=>?_;simp;(repeat with_reducible refine sdQ ?_);refine Qy (λg=>?_) (λg=>?_)
       ·have g93:s91.2<(v56.length:Int):=gQ;clear g;replace h:=if_l g93 h;replace⟨a94,h⟩:=Q1 h;simp[at_I a94];(repeat with_reducible refine sdQ ?_);replace⟨v95,hv95,h⟩:=bind_some h;refine Q2 (Q3C _ _ v95 hv95) (.cons .lst (.cons .val .nil)) ?_;simp[at_I a94];(repeat refine sdQ ?_);refine hK _ ?_;exact jn (b:=v95) (yJ h) (wkI 4)
       have g93:¬(s91.2<(v56.length:Int)):=gQ;clear g;replace h:=if_r g93 h;simp;(repeat refine sdQ ?_);refine hK _ ?_;exact jn (b:=false) (yJ h) (wkI 4)
      intro b92 hb92;have h:=h92;(try rw[←hb92]at h);clear h92;(try dsimp only at h);refine Q6 rfl (λg=>?_) λg=>?_
      ·have g96:b92=true:=gQ;clear g;replace h:=if_l g96 h;refine Q7 (tn (Q0 (Q5 (runQ hN λK hK=>?_))));replace⟨a97,h⟩:=Q1 h;replace⟨a98,h⟩:=Q1 h;replace⟨a99,h⟩:=Q1 h;(try simp only[qD,qH,zS]at a99);simp[at_I a97,at_I a98,a99];(repeat refine sdQ ?_);refine hK _ ?_;clear hK K;refine bn (tn (Q4 (st':=⟨Ym w_ x_ y_ ((9,.own 1 0 ((s91.1++[[s52.2,ix v55 s79.2,ix v56 s91.2]]).length))::YQ s52 v55 v56 [(13,iV s79.2),(14,iV s91.2)]),Y6 c_ [(1,.row 1 (Ls (s91.1++[[s52.2,ix v55 s79.2,ix v56 s91.2]]))),(2,rI v55),(3,rI v56)],4⟩) (wkQ [(0,0),(8,1),(2,2),(3,3)]) (runQ hN λK hK=>?_)));replace⟨a100,h⟩:=Q1 h;simp[Qi a100];(repeat refine sdQ ?_);refine hK _ ?_;clear hK K;cases h;exact rn (s':=(s91.1++[[s52.2,ix v55 s79.2,ix v56 s91.2]],s91.2+1)) hk91 (wkI 4)
      have g96:¬(b92=true):=gQ;clear g;replace h:=if_r g96 h;refine Qk (tx (lx (bh (bn ?_))));cases h;have q:_=e91:=hk91;have h:=h91;rw[←q]at h;clear q;(try dsimp only at h);exact jn (b:=s91.1) (yJ h) (wkI 4)
     intro b81 hb81;have h:=h81;(try rw[←hb81]at h);clear h81;(try dsimp only at h);refine runQ hN λK hK=>?_;replace⟨a101,h⟩:=Q1 h;simp[Qi a101];(repeat refine sdQ ?_);refine hK _ ?_;clear hK K;cases h;exact rn (s':=(b81,s79.2+1)) hk79 (wkI 4)
    have g80:¬(s79.2<(v55.length:Int)):=gQ;clear g;replace h:=if_r g80 h;refine Qk (tx (lx (bh (bn ?_))));cases h;have q:_=e79:=hk79;have h:=h79;rw[←q]at h;clear q;(try dsimp only at h);exact jn (b:=s79.1) (yJ h) (wkQ [(0,0),(1,1)])
   intro b54 hb54;have h:=h54;(try rw[←hb54]at h);clear h54;(try dsimp only at h);refine runQ hN λK hK=>?_;replace⟨a102,h⟩:=Q1 h;simp[Qi a102];(repeat refine sdQ ?_);refine hK _ ?_;clear hK K;cases h;exact rn (s':=(b54,s52.2+1)) hk52 (wkQ [(0,0),(1,1)])
  have g53:¬(s52.2<c_.n):=gQ;clear g;replace h:=if_r g53 h;refine Qk (tx (lx (bh ?_)));cases h;exact jn (b:=s52.1) hk52 (wkQ [(1,0)])
 intro b1 hb1;have h:=h1;try rw[←hb1]at h
 clear h1;try dsimp only at h
 refine Q0 (runQ hN λK hK=>?_);simp;repeat refine sdQ ?_
 refine hK _ (tn (Q4 (st':=⟨[(8,.own 0 0 b1.length)],[(0,.row 1 (Ls b1))],1⟩) (wkQ [(0,0)]) (Qh ?_)));clear hK K;have hr:=yJ h;rw[←hr];refine⟨_,(.tmp .nil),?_⟩;refine⟨(.one rfl rfl .nil),[.lst true 1 (Ls b1)],[0],by simp[BN],by simp,(yM _)⟩
section
attribute [local simp] Qa QD Qn QL Qv
def catN{α:Type}(h:Nat→List α)(n:Nat):List α:=(List.range n).flatMap h
theorem QZ{α:Type}(h:Nat→List α)(n:Nat):catN h (n+1)=catN h n++h n:=by simp[catN,List.range_succ,List.flatMap_append]
theorem Q20{α:Type}(h:Nat→List α)(b:Nat):∀n,(∀i,i<n→(h i).length≤b)→(catN h n).length≤n*b
 |0,_=>by simp[catN]
 |n+1,hb=>by
  rw[QZ,qD,Nat.add_mul];have h1:=Q20 h b n λi hi=>hb i (by omega);have h2:=hb n (by omega);omega
theorem Q7e{α β:Type}(f:α→β)(h:Nat→List α)(n:Nat):(catN h n).map f=catN (λi=>(h i).map f) n:=by simp[catN,List.map_flatMap]
theorem Q6L{α:Type}{h h':Nat→List α}{n:Nat}(e:∀i,i<n→h i=h' i):catN h n=catN h' n:=by
 induction n with
 |zero=>rfl
 |succ n ih=>rw[QZ,QZ,ih λi hi=>e i (by omega),e n (by omega)]
theorem mem_catN{α:Type}{h:Nat→List α}{n:Nat}{x:α}:x∈catN h n↔∃i,i<n∧x∈h i:=by simp[catN,List.mem_flatMap]
theorem Q36{α:Type}{body:List α×Int→Option (Ctl (List α×Int) (List α))}(a0:List α)(n:Nat)(h:Nat→List α)(hn:n<4611686018427387904)(h1:∀i:Nat,i<n→body (a0++catN h i,(i:Int))=some (.next ((a0++catN h i)++h i,(i:Int)+1)))(h3:∀acc,body (acc,(n:Int))=some (.ret acc)):Qd body fuel (a0,0)=some (a0++catN h n):=
 Q1e (λi:Nat=>(a0++catN h i,(i:Int))) n (by simp[catN]) hn (λi hi=>by rw[h1 i hi,QZ,List.append_assoc];rfl) (h3 _)
def spK{α:Type}(mk:Int→Int→Int→α)(c:Cat)(w:List Int)(y:Int)(u:Nat)(v:Int):List α:=open Classical in if v∈w then catN (λk=>[mk u v (ix (homL c u y) k)]) (homL c u y).length else[]
def spU{α:Type}(mk:Int→Int→Int→α)(c:Cat)(w:List Int)(x y:Int)(u:Nat):List α:=catN (λi=>spK mk c w y u (ix (homL c u x) i)) (homL c u x).length
def spG{α:Type}(mk:Int→Int→Int→α)(c:Cat)(w:List Int)(x y:Int):List α:=catN (spU mk c w x y) c.n.toNat
theorem spG_map{α β:Type}(f:α→β)(mk:Int→Int→Int→α)(c:Cat)(w:List Int)(x y:Int):(spG mk c w x y).map f=spG (λa b d=>f (mk a b d)) c w x y:=by
 unfold spG;rw[Q7e];refine Q6L λu _=>?_;unfold spU;rw[Q7e];refine Q6L λi _=>?_;unfold spK;split
 ·rw[Q7e];rfl
 rfl
theorem Q9z{α:Type}{mk:Int→Int→Int→α}{c:Cat}(hc:c.Is){w:List Int}{y:Int}{u:Nat}{v:Int}:(spK mk c w y u v).length≤40:=by
 have hn:=hc.nums;have l:=Q1N c u y;unfold spK;split
 ·have:=Q20 (λk:Nat=>[mk u v (ix (homL c u y) k)]) 1 (homL c u y).length λi _=>by simp
  omega
 simp
theorem spU_len{α:Type}{mk:Int→Int→Int→α}{c:Cat}(hc:c.Is){w:List Int}{x y:Int}{u:Nat}:(spU mk c w x y u).length≤1600:=by
 have hn:=hc.nums;have l:=Q1N c u x;have:=Q20 (λi:Nat=>spK mk c w y u (ix (homL c u x) i)) 40 (homL c u x).length λi _=>Q9z hc;unfold spU;have:(homL c u x).length*40≤40*40:=yZ (by omega) (qE _);omega
theorem spG_len{α:Type}{mk:Int→Int→Int→α}{c:Cat}(hc:c.Is){w:List Int}{x y:Int}{n:Nat}(h:n≤8):(catN (spU mk c w x y) n).length≤12800:=by
 have:=Q20 (spU mk c w x y) 1600 n λi _=>spU_len hc;have:n*1600≤8*1600:=yZ h (qE _);omega
theorem e_spansI{c:Cat}(hc:c.Is)(w:List Int)(x y:Int):QK (wD c w) x y=some (spG X3.mk c w x y):=by
 have hn:=hc.nums;have ht:=Q77 c w;unfold QK;simp only[show(wD c w).c_=c from rfl];have e:∀(B:List X3×Int→Option (Ctl (List X3×Int) (List X3))),Qd B fuel ([],0)=some ([]++spG X3.mk c w x y)→(Qd B fuel ([],0)).bind (λb1=>some b1)=some (spG X3.mk c w x y):=λB h=>by rw[h];rfl
 refine e _ (Q36 [] c.n.toNat (spU X3.mk c w x y) (by omega) (λu hu=>?_) λacc=>by simp only;rw[if_neg (by omega)]);have la:=spG_len (mk:=X3.mk) hc (w:=w) (x:=x) (y:=y) (n:=u) (by omega);generalize hA:catN (spU X3.mk c w x y) u=A at la⊢;simp only[List.nil_append];rw[if_pos (by omega),(Q4n hc _ _).2];simp only[yT];have lx:=Q1N c u x;have ly:=Q1N c u y;rw[show∀(B:List X3×Int→Option (Ctl (List X3×Int) (List X3))) (K:List X3→Option (Ctl (List X3×Int) (List X3))),Qd B fuel (A,0)=some (A++spU X3.mk c w x y u)→(((Qd B fuel (A,0)).bind λp59=>some p59).bind K)=K (A++spU X3.mk c w x y u) from λB K h=>by rw[h];rfl]
 ·rw[Q3 (by unfold B64;omega)]
 refine Q36 A (homL c u x).length (λi=>spK X3.mk c w y u (ix (homL c u x) i)) (by omega) (λi hi=>?_) λacc=>by simp only;rw[if_neg (by omega)]
 have lb:=Q20 (λi:Nat=>spK X3.mk c w y u (ix (homL c u x) i)) 40 i λj _=>Q9z hc;have lb2:i*40≤40*40:=yZ (by omega) (qE _);have lb3:(A++catN (λi:Nat=>spK X3.mk c w y u (ix (homL c u x) i)) i).length≤14400:=by rw[qD];omega
 generalize A++catN (λi:Nat=>spK X3.mk c w y u (ix (homL c u x) i)) i=D at lb3⊢;have a:=(Q1V hi).1;simp only;rw[if_pos (by omega),Q3 (by omega),Q3 (by omega),Q7v a]
 by_cases hm:ix (homL c u x) i∈w
 ·rw[Qw hm,if_neg (by simp),(Q4n hc _ _).2];simp only[yT];rw[show∀(B:List X3×Int→Option (Ctl (List X3×Int) (List X3))) (K:List X3→Option (Ctl (List X3×Int) (List X3))),Qd B fuel (D,0)=some (D++catN (λk=>[X3.mk u (ix (homL c u x) i) (ix (homL c u y) k)]) (homL c u y).length)→(((Qd B fuel (D,0)).bind λp59=>some p59).bind K)=K (D++spK X3.mk c w y u (ix (homL c u x) i)) from λB K h=>by rw[h];unfold spK;rw[if_pos hm];rfl]
  ·rw[Q3 (by unfold B64;omega)]
  refine Q36 D (homL c u y).length (λk=>[X3.mk u (ix (homL c u x) i) (ix (homL c u y) k)]) (by omega) (λk hk=>?_) λacc=>by simp only;rw[if_neg (by omega)]
  have lk:=Q20 (λk:Nat=>[X3.mk u (ix (homL c u x) i) (ix (homL c u y) k)]) 1 k λj _=>by simp
  simp only;rw[if_pos (by omega),Q3 (by omega),Q3 (by simp only[qD,List.length_singleton];omega),Q3 (by unfold B64;omega)]
 rw[Qp hm,if_pos (by simp)];simp only[yT];rw[Q3 (by unfold B64;omega)];unfold spK;rw[if_neg hm,List.append_nil]
def trw3(a b d:Int):List Int:=[a,b,d]
theorem e_spansS{c:Cat}(hc:c.Is)(w:List Int)(x y:Int):Q1A c w x y=some (spG trw3 c w x y):=by
 have hn:=hc.nums;unfold Q1A;have e:∀(B:List (List Int)×Int→Option (Ctl (List (List Int)×Int) (List (List Int)))),Qd B fuel ([],0)=some ([]++spG trw3 c w x y)→(Qd B fuel ([],0)).bind (λb1=>some b1)=some (spG trw3 c w x y):=λB h=>by rw[h];rfl
 refine e _ (Q36 [] c.n.toNat (spU trw3 c w x y) (by omega) (λu hu=>?_) λacc=>by simp only;rw[if_neg (by omega)]);have la:=spG_len (mk:=trw3) hc (w:=w) (x:=x) (y:=y) (n:=u) (by omega);generalize hA:catN (spU trw3 c w x y) u=A at la⊢;simp only[List.nil_append];rw[if_pos (by omega),(Q4n hc _ _).1];simp only[yT];rw[(Q4n hc _ _).1];simp only[yT];have lx:=Q1N c u x;have ly:=Q1N c u y;rw[show∀(B:List (List Int)×Int→Option (Ctl (List (List Int)×Int) (List (List Int)))) (K:List (List Int)→Option (Ctl (List (List Int)×Int) (List (List Int)))),Qd B fuel (A,0)=some (A++spU trw3 c w x y u)→(((Qd B fuel (A,0)).bind λp59=>some p59).bind K)=K (A++spU trw3 c w x y u) from λB K h=>by rw[h];rfl]
 ·rw[Q3 (by unfold B64;omega)]
 refine Q36 A (homL c u x).length (λi=>spK trw3 c w y u (ix (homL c u x) i)) (by omega) (λi hi=>?_) λacc=>by simp only;rw[if_neg (by omega)]
 have lb:=Q20 (λi:Nat=>spK trw3 c w y u (ix (homL c u x) i)) 40 i λj _=>Q9z hc;have lb2:i*40≤40*40:=yZ (by omega) (qE _);have lb3:(A++catN (λi:Nat=>spK trw3 c w y u (ix (homL c u x) i)) i).length≤14400:=by rw[qD];omega
 generalize A++catN (λi:Nat=>spK trw3 c w y u (ix (homL c u x) i)) i=D at lb3⊢;simp only;rw[if_pos (by omega)];rw[show∀(B:List (List Int)×Int→Option (Ctl (List (List Int)×Int) (List (List Int)))) (K:List (List Int)→Option (Ctl (List (List Int)×Int) (List (List Int)))),Qd B fuel (D,0)=some (D++spK trw3 c w y u (ix (homL c u x) i))→(((Qd B fuel (D,0)).bind λp59=>some p59).bind K)=K (D++spK trw3 c w y u (ix (homL c u x) i)) from λB K h=>by rw[h];rfl]
 ·rw[Q3 (by unfold B64;omega)]
 by_cases hm:ix (homL c u x) i∈w
 ·unfold spK;rw[if_pos hm];refine Q36 D (homL c u y).length (λk=>[trw3 u (ix (homL c u x) i) (ix (homL c u y) k)]) (by omega) (λk hk=>?_) λacc=>by simp
  have lk:=Q20 (λk:Nat=>[trw3 u (ix (homL c u x) i) (ix (homL c u y) k)]) 1 k λj _=>by simp
  simp only[Q12];rw[if_pos (by omega),Q3 (by omega),Qw hm];simp only[yT,if_true];rw[Q3 (by omega),Q3 (by omega),Q3 (by simp only[qD,List.length_singleton];omega),Q3 (by unfold B64;omega)];rfl
 unfold spK;rw[if_neg hm,List.append_nil];refine Q1e (λ_=>(D,0)) 0 rfl (by omega) (λi hi=>by omega) ?_;simp only[Q12]
 by_cases h0:(0:Int)<((homL c u y).length:Int)
 ·rw[if_pos h0,Q3 (by omega),Qp hm];rfl
 rw[if_neg h0];rfl
end
end Go.Vc.T
