/- A part of the proof. -/
import Derived.Test.YtgaeldalleellaaGreatI10
set_option maxRecDepth 100000
set_option maxHeartbeats 4000000
set_option linter.unusedSimpArgs false
set_option linter.unusedVariables false
set_option linter.unusedSectionVars false
set_option linter.unnecessarySimpa false

open List renaming getD_eq_getElem?_getD→qB
open Option renaming bind_some→yR
open Option.some renaming inj→yJ
open List renaming length_append→qD
open Sum renaming inl→yS
open Go.Vc.Ctl renaming ret→yK
open List renaming replicate→zF
open Nat renaming le_refl→qE
open List renaming getElem?_eq_getElem→qF
open Go.Vc.Ctl renaming next→yM
open Sum renaming inr→yT
open Bool renaming false_eq_true→zG
open Go.Vc.UpL renaming refl→yN
open List renaming length_cons→qH
open List renaming length_nil→zS
open Nat renaming zero_le→zV
open Nat renaming lt_or_ge→zM
open List renaming getElem_of_mem→zX
open Int renaming eq_ofNat_of_zero_le→yU
open List renaming length_map→yZ
open List renaming mem_singleton→zI
open List renaming length_singleton→xA
open List.cons renaming injEq→qS
open List renaming append_nil→yQ
open Nat renaming mul_le_mul→xB
noncomputable section
namespace Go.Vc.T
open Go Go.Vc Go.Proofs
attribute [local simp] unk unA unE unT unC flat eL eI Qh QI Qz Q13 Cat.cells XD.cells X3.cells
def QL(w_:XD)(x_:Int)(y_:Int):Option (List X3):=
 (Qd (σ:=List X3×Int) (ε:=List X3) (λs39=>
  if s39.2<w_.c_.n then
   (
    (QA w_.c_ s39.2 x_).bind λv42=>
    (Qd (σ:=List X3×Int) (ε:=List X3) (λs59=>
     if s59.2<(v42.length:Int)then
      (
       ass (0≤s59.2∧s59.2<(v42.length:Int))<|
       ass (0≤ix v42 s59.2∧ix v42 s59.2<(w_.there_.length:Int))<|
       if¬((gx w_.there_ (ix v42 s59.2))=true)then
        some s59.1
       else
        (QA w_.c_ s39.2 y_).bind λv65=>
        (Qd (σ:=List X3×Int) (ε:=List X3) (λs70=>
         if s70.2<(v65.length:Int)then
          ass (0≤s70.2∧s70.2<(v65.length:Int))<|
          ass ((s70.1++[(⟨s39.2,ix v42 s59.2,ix v65 s70.2⟩:X3)]).length≤1073741824)<|
          ass (B64 (s70.2+1))<|
          some (yM (s70.1++[(⟨s39.2,ix v42 s59.2,ix v65 s70.2⟩:X3)],s70.2+1))
         else
          some (yK s70.1)) fuel (s59.1,0)).bind λp70=>
        some p70:Option (List X3)).bind λb61=>
      ass (B64 (s59.2+1))<|
      some (yM (b61,s59.2+1))
     else
      some (yK s59.1)) fuel (s39.1,0)).bind λp59=>
    some p59:Option (List X3)).bind λb41=>
   ass (B64 (s39.2+1))<|
   some (yM (b41,s39.2+1))
  else
   some (yK s39.1)) fuel ([],0)).bind λb1=>
 some b1
@[simp] abbrev YF(a:XD)(b:List X3×Int)(c:List Int)(d:List (Nat×AV)):List (Nat×AV):=(20,iV a.c_.n)::(21,iV b.2)::(30,.own 1 0 c.length)::(31,iV (c.length:Int))::d
@[simp] abbrev YS(a:List X3×Int)(b:List (Nat×Ent)):List (Nat×Ent):=(0,.row 3 (Es (X3.cells true) a.1))::b
theorem Q45(w_:XD)(x_:Int)(y_:Int)(r:List X3)(h:QL w_ x_ y_=some r):Contract Tryz.prog 63 [.rptr (w_.cells true),iV x_,iV y_] (.lst true 3 (Es (X3.cells true) r)):=by
 refine Q9 (rvs:=[.tmp 6]) (rs:=[.lst true 3 (Es (X3.cells true) r)]) Tryz.func63 rfl rfl rfl rfl (by simp[Tryz.f63]) λF hN hP=>?_;unfold QL at h;refine Q0 (runQ hN λK hK=>?_);simp;repeat refine sdQ ?_
 refine hK _ ?_;clear hK K;refine tn (Q4 (st':=⟨Y0 w_ (YV x_ y_ []),[],0⟩) (wkQ []) (Q0 (runQ hN λK hK=>?_)));simp;repeat refine sdQ ?_
 refine hK _ ?_;clear hK K;refine tn (Q4 (st':=⟨Y0 w_ (YV x_ y_ [(7,.own 0 0 0)]),[(0,.mix 3 [])],1⟩) (wkQ [(0,0)]) (Q0 (Q0 (runQ hN λK hK=>?_))));simp;repeat refine sdQ ?_
 refine hK _ (tn (Q4 (st':=⟨Y0 w_ (YV x_ y_ [(7,.own 0 0 0),(20,iV w_.c_.n),(21,iV 0)]),[(0,.mix 3 [])],1⟩) (wkQ [(0,0)]) ?_));clear hK K;replace⟨e1,h,h1⟩:=bind_some h;refine Qc (λb1:List X3=>⟨[(7,.own 0 0 b1.length)],[(0,.row 3 (Es (X3.cells true) b1))],1⟩) (λb1=>b1=e1) ?_ ?_
 ·refine Q5 (Qm h (λs39:List X3×Int=>⟨Y0 w_ (YV x_ y_ [(7,.own 0 0 s39.1.length),(20,iV w_.c_.n),(21,iV s39.2)]),YS s39 [],1⟩) (Q2M ⟨Y0 w_ (YV x_ y_ [(7,.own 0 0 0),(20,iV w_.c_.n),(21,iV 0)]),[(0,.row 3 (Es (X3.cells true) []))],1⟩ (Wk.nils [] (by simp) (by simp) (by simp[nlA]) (by simp[entN,nlL,nlA,BN]) (by simp)) (wkQ [(0,0)])) ?_);clear h;intro k39 s39 c39 h hk39;refine Q0 (runQ hN λK hK=>?_);simp;repeat refine sdQ ?_
  refine hK _ ?_;clear hK K;refine tn (Q0 (Q6 rfl (λg=>?_) λg=>?_))
  ·have g40:s39.2<w_.c_.n:=gQ;clear g;replace h:=if_l g40 h;refine Q7 (tn (Q0 ?_));replace⟨e41,h,h41⟩:=bind_some h;refine Qc (λb41:List X3=>⟨Y0 w_ (YV x_ y_ [(7,.own 0 0 b41.length),(20,iV w_.c_.n),(21,iV s39.2)]),[(0,.row 3 (Es (X3.cells true) b41))],1⟩) (λb41=>b41=e41) ?_ ?_
   ·refine Q5 (Q0 (runQ hN λK hK=>?_));simp;(repeat refine sdQ ?_);refine hK _ ?_;clear hK K;refine tn (Q4 (st':=⟨Y0 w_ (YV x_ y_ [(7,.own 0 0 s39.1.length),(8,iV s39.2),(20,iV w_.c_.n),(21,iV s39.2)]),YS s39 [],1⟩) (wkQ [(0,0)]) (Q0 (runQ hN λK hK=>?_)));simp;(repeat with_reducible refine sdQ ?_);replace⟨v42,hv42,h⟩:=bind_some h;refine Q3 (Q1K _ _ _ v42 hv42) (.cons (.preT (by simp[CN])) (.cons .val (.cons .val .nil))) ?_;simp;(repeat refine sdQ ?_);refine hK _ (tn (Q4 (st':=⟨Y0 w_ (YV x_ y_ ((7,.own 0 0 s39.1.length)::(8,iV s39.2)::YF w_ s39 v42 [(32,iV 0)])),YS s39 [(1,rI v42)],2⟩) (wkQ [(0,0),(1,1)]) (Q5 ?_)));clear hK K;replace⟨e59,he59,h59⟩:=bind_some h;refine Qm he59 (λs59:List X3×Int=>⟨Y0 w_ (YV x_ y_ ((7,.own 0 0 s59.1.length)::(8,iV s39.2)::YF w_ s39 v42 [(32,iV s59.2)])),YS s59 [(1,rI v42)],2⟩) (wkQ [(0,0),(1,1)]) ?_;intro k59 s59 c59 h hk59;refine Q0 (runQ hN λK hK=>?_);simp;(repeat refine sdQ ?_);refine hK _ ?_;clear hK K;refine tn (Q0 (Q6 rfl (λg=>?_) λg=>?_))
    ·have g60:s59.2<(v42.length:Int):=gQ;clear g;replace h:=if_l g60 h;refine Q7 (tn (Q0 ?_));replace⟨e61,h,h61⟩:=bind_some h;refine Qc (λb61:List X3=>⟨Y0 w_ (YV x_ y_ ((7,.own 0 0 b61.length)::(8,iV s39.2)::YF w_ s39 v42 [(32,iV s59.2)])),[(0,.row 3 (Es (X3.cells true) b61)),(1,rI v42)],2⟩) (λb61=>b61=e61) ?_ ?_
     ·refine Q5 (Q0 (runQ hN λK hK=>?_));replace⟨a62,h⟩:=Q1 h;simp[at_I a62];(repeat refine sdQ ?_);refine hK _ ?_;clear hK K;refine tn (Q4 (st':=⟨Y0 w_ (YV x_ y_ ((7,.own 0 0 s59.1.length)::(8,iV s39.2)::(10,iV (ix v42 s59.2))::YF w_ s39 v42 [(32,iV s59.2)])),YS s59 [(1,rI v42)],2⟩) (wkQ [(0,0),(1,1)]) (Q0 (Q0 (runQ hN λK hK=>?_))));replace⟨a63,h⟩:=Q1 h;simp[at_B a63];(repeat refine sdQ ?_);refine hK _ ?_;clear hK K;refine tn (Q6 rfl (λg=>?_) λg=>?_)
      ·have g64:¬((gx w_.there_ (ix v42 s59.2))=true):=gQ;clear g;replace h:=if_l g64 h;refine Qj (tx (bh ?_));exact jn (b:=s59.1) (yJ h) (wkQ [(0,0),(1,1)])
      have g64:¬(¬((gx w_.there_ (ix v42 s59.2))=true)):=gQ;clear g;replace h:=if_r g64 h;refine Q7 (tn (Q0 (runQ hN λK hK=>?_)));simp;(repeat with_reducible refine sdQ ?_);replace⟨v65,hv65,h⟩:=bind_some h;refine Q3 (Q1K _ _ _ v65 hv65) (.cons (.preT (by simp[CN])) (.cons .val (.cons .val .nil))) ?_;simp;(repeat refine sdQ ?_);refine hK _ (tn (Q4 (st':=⟨Y0 w_ (YV x_ y_ ((7,.own 0 0 s59.1.length)::(8,iV s39.2)::(10,iV (ix v42 s59.2))::YF w_ s39 v42 [(32,iV s59.2),(50,.own 2 0 v65.length),(51,iV (v65.length:Int)),(52,iV 0)])),YS s59 [(1,rI v42),(2,rI v65)],3⟩) (wkI 3) (Q5 ?_)));clear hK K;replace⟨e70,he70,h70⟩:=bind_some h;refine Qm he70 (λs70:List X3×Int=>⟨Y0 w_ (YV x_ y_ ((7,.own 0 0 s70.1.length)::(8,iV s39.2)::(10,iV (ix v42 s59.2))::YF w_ s39 v42 [(32,iV s59.2),(50,.own 2 0 v65.length),(51,iV (v65.length:Int)),(52,iV s70.2)])),YS s70 [(1,rI v42),(2,rI v65)],3⟩) (wkI 3) ?_;intro k70 s70 c70 h hk70;refine Q0 (runQ hN λK hK=>?_);simp;(repeat refine sdQ ?_);refine hK _ ?_;clear hK K;refine tn (Q0 (Q6 rfl (λg=>?_) λg=>?_))
      ·have g71:s70.2<(v65.length:Int):=gQ;clear g;replace h:=if_l g71 h;refine Q7 (tn (Q0 (Q5 (Q0 (runQ hN λK hK=>?_)))));replace⟨a72,h⟩:=Q1 h;simp[at_I a72];(repeat refine sdQ ?_);refine hK _ ?_;clear hK K;refine tn (Q4 (st':=⟨Y0 w_ (YV x_ y_ ((7,.own 0 0 s70.1.length)::(8,iV s39.2)::(10,iV (ix v42 s59.2))::(12,iV (ix v65 s70.2))::YF w_ s39 v42 [(32,iV s59.2),(50,.own 2 0 v65.length),(51,iV (v65.length:Int)),(52,iV s70.2)])),YS s70 [(1,rI v42),(2,rI v65)],3⟩) (wkI 3) (runQ hN λK hK=>?_));replace⟨a73,h⟩:=Q1 h;(try simp only[qD,qH,zS]at a73);simp[a73];(repeat refine sdQ ?_);refine hK _ ?_;clear hK K;refine bn (tn (Q4 (st':=⟨Y0 w_ (YV x_ y_ ((7,.own 0 0 ((s70.1++[(⟨s39.2,ix v42 s59.2,ix v65 s70.2⟩:X3)]).length))::(8,iV s39.2)::(10,iV (ix v42 s59.2))::YF w_ s39 v42 [(32,iV s59.2),(50,.own 2 0 v65.length),(51,iV (v65.length:Int)),(52,iV s70.2)])),[(0,.row 3 (Es (X3.cells true) (s70.1++[(⟨s39.2,ix v42 s59.2,ix v65 s70.2⟩:X3)]))),(1,rI v42),(2,rI v65)],3⟩) (wkQ [(4,0),(1,1),(2,2)]) (runQ hN λK hK=>?_)));replace⟨a74,h⟩:=Q1 h;simp[Qg a74];(repeat refine sdQ ?_);refine hK _ ?_;clear hK K;cases h;exact rn (s':=(s70.1++[(⟨s39.2,ix v42 s59.2,ix v65 s70.2⟩:X3)],s70.2+1)) hk70 (wkI 3)
      have g71:¬(s70.2<(v65.length:Int)):=gQ;clear g;replace h:=if_r g71 h;refine Qj (tx (lx (bh (bn ?_))));cases h;have q:_=e70:=hk70;have h:=h70;rw[←q]at h;clear q;(try dsimp only at h);exact jn (b:=s70.1) (yJ h) (wkQ [(0,0),(1,1)])
     intro b61 hb61;have h:=h61;(try rw[←hb61]at h);clear h61;(try dsimp only at h);refine runQ hN λK hK=>?_;replace⟨a75,h⟩:=Q1 h;simp[Qg a75];(repeat refine sdQ ?_);refine hK _ ?_;clear hK K;cases h;exact rn (s':=(b61,s59.2+1)) hk59 (wkQ [(0,0),(1,1)])
    have g60:¬(s59.2<(v42.length:Int)):=gQ;clear g;replace h:=if_r g60 h;refine Qj (tx (lx (bh (bn ?_))));cases h;have q:_=e59:=hk59;have h:=h59;rw[←q]at h;clear q;(try dsimp only at h);exact jn (b:=s59.1) (yJ h) (wkQ [(0,0)])
   intro b41 hb41;have h:=h41;(try rw[←hb41]at h);clear h41;(try dsimp only at h);refine runQ hN λK hK=>?_;replace⟨a76,h⟩:=Q1 h;simp[Qg a76];(repeat refine sdQ ?_);refine hK _ ?_;clear hK K;cases h;exact rn (s':=(b41,s39.2+1)) hk39 (wkQ [(0,0)])
  have g40:¬(s39.2<w_.c_.n):=gQ;clear g;replace h:=if_r g40 h;refine Qj (tx (lx (bh ?_)));cases h;exact jn (b:=s39.1) hk39 (wkQ [(0,0)])
 intro b1 hb1;have h:=h1;try rw[←hb1]at h
 clear h1;try dsimp only at h
 refine Q0 (runQ hN λK hK=>?_);simp;repeat refine sdQ ?_
 refine hK _ (tn (Q4 (st':=⟨[(6,.own 0 0 b1.length)],[(0,.row 3 (Es (X3.cells true) b1))],1⟩) (wkQ [(0,0)]) (Qi ?_)));clear hK K;have hr:=yJ h;rw[←hr];refine⟨_,(.tmp .nil),?_⟩;refine⟨(.one rfl rfl .nil),[.lst true 3 (Es (X3.cells true) b1)],[0],by simp[BN],by simp,(yN _)⟩
attribute [local simp] unk unA unE unT unC flat eL eI Qh QI Cat.cells
def Q1C(c_:Cat)(w_:List Int)(x_:Int)(y_:Int):Option (List (List Int)):=
 (Qd (σ:=List (List Int)×Int) (ε:=List (List Int)) (λs52=>
  if s52.2<c_.n then
   (
    (Q1b c_ s52.2 x_).bind λv55=>
    (Q1b c_ s52.2 y_).bind λv56=>
    (Qd (σ:=List (List Int)×Int) (ε:=List (List Int)) (λs79=>
     if s79.2<(v55.length:Int)then
      (
       (Qd (σ:=List (List Int)×Int) (ε:=List (List Int)) (λs91=>
        (
         if s91.2<(v56.length:Int)then
          ass (0≤s79.2∧s79.2<(v55.length:Int))<|
          (Q15 w_ (ix v55 s79.2)).bind λv95=>
          some v95
         else
          some false:Option (Bool)).bind λb92=>
        if b92=true then
         ass (0≤s79.2∧s79.2<(v55.length:Int))<|
         ass (0≤s91.2∧s91.2<(v56.length:Int))<|
         ass ((s91.1++[[s52.2,ix v55 s79.2,ix v56 s91.2]]).length≤1073741824)<|
         ass (B64 (s91.2+1))<|
         some (yM (s91.1++[[s52.2,ix v55 s79.2,ix v56 s91.2]],s91.2+1))
        else
         some (yK s91.1)) fuel (s79.1,0)).bind λp91=>
       some p91:Option (List (List Int))).bind λb81=>
      ass (B64 (s79.2+1))<|
      some (yM (b81,s79.2+1))
     else
      some (yK s79.1)) fuel (s52.1,0)).bind λp79=>
    some p79:Option (List (List Int))).bind λb54=>
   ass (B64 (s52.2+1))<|
   some (yM (b54,s52.2+1))
  else
   some (yK s52.1)) fuel ([],0)).bind λb1=>
 some b1
@[simp] abbrev YN(a:List (List Int)×Int)(b c:List Int)(d:List (Nat×AV)):List (Nat×AV):=(10,iV a.2)::(11,.own 2 0 b.length)::(12,.own 3 0 c.length)::d
theorem Q5H(c_:Cat)(w_:List Int)(x_:Int)(y_:Int)(r:List (List Int))(h:Q1C c_ w_ x_ y_=some r):Contract Tryz.prog 33 (Y0u c_ [lI w_,iV x_,iV y_]) (.lst true 1 (Ls r)):=by
 refine Q9 (rvs:=[.tmp 8]) (rs:=[.lst true 1 (Ls r)]) Tryz.func33 rfl rfl rfl rfl (by simp[Tryz.f33]) λF hN hP=>?_;unfold Q1C at h;refine Q0 (runQ hN λK hK=>?_);simp;repeat refine sdQ ?_
 refine hK _ ?_;clear hK K;refine tn (Q4 (st':=⟨Yl w_ x_ y_ [],Y6 c_ [],1⟩) (wkQ [(0,0)]) (Q0 (runQ hN λK hK=>?_)));simp;repeat refine sdQ ?_
 refine hK _ ?_;clear hK K;refine tn (Q4 (st':=⟨Yl w_ x_ y_ [(9,.own 1 0 0)],Y6 c_ [(1,.mix 1 [])],2⟩) (wkQ [(0,0),(1,1)]) (Q0 (Q0 (runQ hN λK hK=>?_))));simp;repeat refine sdQ ?_
 refine hK _ (tn (Q4 (st':=⟨Yl w_ x_ y_ [(9,.own 1 0 0),(10,iV 0)],Y6 c_ [(1,.mix 1 [])],2⟩) (wkQ [(0,0),(1,1)]) ?_));clear hK K;replace⟨e1,h,h1⟩:=bind_some h;refine Qc (λb1:List (List Int)=>⟨[(9,.own 0 0 b1.length)],[(0,.row 1 (Ls b1))],1⟩) (λb1=>b1=e1) ?_ ?_
 ·refine Q5 (Qm h (λs52:List (List Int)×Int=>⟨Yl w_ x_ y_ [(9,.own 1 0 s52.1.length),(10,iV s52.2)],Y6 c_ [(1,.row 1 (Ls s52.1))],2⟩) (Q2M ⟨Yl w_ x_ y_ [(9,.own 1 0 0),(10,iV 0)],Y6 c_ [(1,.row 1 (Ls []))],2⟩ (Wk.nils [] (by simp) (by simp) (by simp[nlA]) (by simp[entN,nlL,nlA,BN]) (by simp)) (wkQ [(0,0),(1,1)])) ?_);clear h;intro k52 s52 c52 h hk52;refine Q0 (Q0 (runQ hN λK hK=>?_));simp;repeat refine sdQ ?_
  refine hK _ ?_;clear hK K;refine tn (Q6 rfl (λg=>?_) λg=>?_)
  ·have g53:s52.2<c_.n:=gQ;clear g;replace h:=if_l g53 h;refine Q7 (tn (Q0 ?_));replace⟨e54,h,h54⟩:=bind_some h;refine Qc (λb54:List (List Int)=>⟨Yl w_ x_ y_ [(9,.own 1 0 b54.length),(10,iV s52.2)],Y6 c_ [(1,.row 1 (Ls b54))],2⟩) (λb54=>b54=e54) ?_ ?_
   ·refine Q5 (Q0 (runQ hN λK hK=>?_));simp;(repeat with_reducible refine sdQ ?_);replace⟨v55,hv55,h⟩:=bind_some h;refine Q3 (Q2z _ _ _ v55 hv55) (.cons (.aggL (.cons .val (.cons .lst (.cons .lst (.cons .lst (.cons .lst .nil)))))) (.cons .val (.cons .val .nil))) ?_;simp;(repeat with_reducible refine sdQ ?_);replace⟨v56,hv56,h⟩:=bind_some h;refine Q3 (Q2z _ _ _ v56 hv56) (.cons (.aggL (.cons .val (.cons .lst (.cons .lst (.cons .lst (.cons .lst .nil)))))) (.cons .val (.cons .val .nil))) ?_;simp;(repeat refine sdQ ?_);refine hK _ ?_;clear hK K;refine tn (Q4 (st':=⟨Yl w_ x_ y_ ((9,.own 1 0 s52.1.length)::YN s52 v55 v56 []),Y6 c_ [(1,.row 1 (Ls s52.1)),(2,rI v55),(3,rI v56)],4⟩) (wkI 4) (Q0 (runQ hN λK hK=>?_)));simp;(repeat refine sdQ ?_);refine hK _ (tn (Q4 (st':=⟨Yl w_ x_ y_ ((9,.own 1 0 s52.1.length)::YN s52 v55 v56 [(13,iV 0)]),Y6 c_ [(1,.row 1 (Ls s52.1)),(2,rI v55),(3,rI v56)],4⟩) (wkI 4) (Q5 ?_)));clear hK K;replace⟨e79,he79,h79⟩:=bind_some h;refine Qm he79 (λs79:List (List Int)×Int=>⟨Yl w_ x_ y_ ((9,.own 1 0 s79.1.length)::YN s52 v55 v56 [(13,iV s79.2)]),Y6 c_ [(1,.row 1 (Ls s79.1)),(2,rI v55),(3,rI v56)],4⟩) (wkI 4) ?_;intro k79 s79 c79 h hk79;refine Q0 (Q0 (runQ hN λK hK=>?_));simp;(repeat refine sdQ ?_);refine hK _ ?_;clear hK K;refine tn (Q6 rfl (λg=>?_) λg=>?_)
    ·have g80:s79.2<(v55.length:Int):=gQ;clear g;replace h:=if_l g80 h;refine Q7 (tn (Q0 ?_));replace⟨e81,h,h81⟩:=bind_some h;refine Qc (λb81:List (List Int)=>⟨Yl w_ x_ y_ ((9,.own 1 0 b81.length)::YN s52 v55 v56 [(13,iV s79.2)]),Y6 c_ [(1,.row 1 (Ls b81)),(2,rI v55),(3,rI v56)],4⟩) (λb81=>b81=e81) ?_ ?_
     ·refine Q5 (Q0 (runQ hN λK hK=>?_));simp;(repeat refine sdQ ?_);refine hK _ (tn (Q4 (st':=⟨Yl w_ x_ y_ ((9,.own 1 0 s79.1.length)::YN s52 v55 v56 [(13,iV s79.2),(14,iV 0)]),Y6 c_ [(1,.row 1 (Ls s79.1)),(2,rI v55),(3,rI v56)],4⟩) (wkI 4) (Q5 ?_)));clear hK K;replace⟨e91,he91,h91⟩:=bind_some h;refine Qm he91 (λs91:List (List Int)×Int=>⟨Yl w_ x_ y_ ((9,.own 1 0 s91.1.length)::YN s52 v55 v56 [(13,iV s79.2),(14,iV s91.2)]),Y6 c_ [(1,.row 1 (Ls s91.1)),(2,rI v55),(3,rI v56)],4⟩) (wkI 4) ?_;intro k91 s91 c91 h hk91;refine Q0 (Q0 ?_);replace⟨e92,h,h92⟩:=bind_some h;refine Qc (λb92:Bool=>⟨Yl w_ x_ y_ ((9,.own 1 0 s91.1.length)::YN s52 v55 v56 [(13,iV s79.2),(14,iV s91.2),(47,.val (.bool b92))]),Y6 c_ [(1,.row 1 (Ls s91.1)),(2,rI v55),(3,rI v56)],4⟩) (λb92=>b92=e92) ?_ ?_
      ·refine runQ hN λK hK=>?_;simp;(repeat with_reducible refine sdQ ?_);refine Qv (λg=>?_) (λg=>?_)
       ·have g93:s91.2<(v56.length:Int):=gQ;clear g;replace h:=if_l g93 h;replace⟨a94,h⟩:=Q1 h;simp[at_I a94];(repeat with_reducible refine sdQ ?_);replace⟨v95,hv95,h⟩:=bind_some h;refine Q3 (Q3I _ _ v95 hv95) (.cons .lst (.cons .val .nil)) ?_;simp[at_I a94];(repeat refine sdQ ?_);refine hK _ ?_;exact jn (b:=v95) (yJ h) (wkI 4)
       have g93:¬(s91.2<(v56.length:Int)):=gQ;clear g;replace h:=if_r g93 h;simp;(repeat refine sdQ ?_);refine hK _ ?_;exact jn (b:=false) (yJ h) (wkI 4)
      intro b92 hb92;have h:=h92;(try rw[←hb92]at h);clear h92;(try dsimp only at h);refine Q6 rfl (λg=>?_) λg=>?_
      ·have g96:b92=true:=gQ;clear g;replace h:=if_l g96 h;refine Q7 (tn (Q0 (Q5 (runQ hN λK hK=>?_))));replace⟨a97,h⟩:=Q1 h;replace⟨a98,h⟩:=Q1 h;replace⟨a99,h⟩:=Q1 h;(try simp only[qD,qH,zS]at a99);simp[at_I a97,at_I a98,a99];(repeat refine sdQ ?_);refine hK _ ?_;clear hK K;refine bn (tn (Q4 (st':=⟨Yl w_ x_ y_ ((9,.own 1 0 ((s91.1++[[s52.2,ix v55 s79.2,ix v56 s91.2]]).length))::YN s52 v55 v56 [(13,iV s79.2),(14,iV s91.2)]),Y6 c_ [(1,.row 1 (Ls (s91.1++[[s52.2,ix v55 s79.2,ix v56 s91.2]]))),(2,rI v55),(3,rI v56)],4⟩) (wkQ [(0,0),(8,1),(2,2),(3,3)]) (runQ hN λK hK=>?_)));replace⟨a100,h⟩:=Q1 h;simp[Qg a100];(repeat refine sdQ ?_);refine hK _ ?_;clear hK K;cases h;exact rn (s':=(s91.1++[[s52.2,ix v55 s79.2,ix v56 s91.2]],s91.2+1)) hk91 (wkI 4)
      have g96:¬(b92=true):=gQ;clear g;replace h:=if_r g96 h;refine Qj (tx (lx (bh (bn ?_))));cases h;have q:_=e91:=hk91;have h:=h91;rw[←q]at h;clear q;(try dsimp only at h);exact jn (b:=s91.1) (yJ h) (wkI 4)
     intro b81 hb81;have h:=h81;(try rw[←hb81]at h);clear h81;(try dsimp only at h);refine runQ hN λK hK=>?_;replace⟨a101,h⟩:=Q1 h;simp[Qg a101];(repeat refine sdQ ?_);refine hK _ ?_;clear hK K;cases h;exact rn (s':=(b81,s79.2+1)) hk79 (wkI 4)
    have g80:¬(s79.2<(v55.length:Int)):=gQ;clear g;replace h:=if_r g80 h;refine Qj (tx (lx (bh (bn ?_))));cases h;have q:_=e79:=hk79;have h:=h79;rw[←q]at h;clear q;(try dsimp only at h);exact jn (b:=s79.1) (yJ h) (wkQ [(0,0),(1,1)])
   intro b54 hb54;have h:=h54;(try rw[←hb54]at h);clear h54;(try dsimp only at h);refine runQ hN λK hK=>?_;replace⟨a102,h⟩:=Q1 h;simp[Qg a102];(repeat refine sdQ ?_);refine hK _ ?_;clear hK K;cases h;exact rn (s':=(b54,s52.2+1)) hk52 (wkQ [(0,0),(1,1)])
  have g53:¬(s52.2<c_.n):=gQ;clear g;replace h:=if_r g53 h;refine Qj (tx (lx (bh ?_)));cases h;exact jn (b:=s52.1) hk52 (wkQ [(1,0)])
 intro b1 hb1;have h:=h1;try rw[←hb1]at h
 clear h1;try dsimp only at h
 refine Q0 (runQ hN λK hK=>?_);simp;repeat refine sdQ ?_
 refine hK _ (tn (Q4 (st':=⟨[(8,.own 0 0 b1.length)],[(0,.row 1 (Ls b1))],1⟩) (wkQ [(0,0)]) (Qi ?_)));clear hK K;have hr:=yJ h;rw[←hr];refine⟨_,(.tmp .nil),?_⟩;refine⟨(.one rfl rfl .nil),[.lst true 1 (Ls b1)],[0],by simp[BN],by simp,(yN _)⟩
section
attribute [local simp] Qa QD Qo QM Qx
def catN{α:Type}(h:Nat→List α)(n:Nat):List α:=(List.range n).flatMap h
theorem Q12{α:Type}(h:Nat→List α)(n:Nat):catN h (n+1)=catN h n++h n:=by simp[catN,List.range_succ,List.flatMap_append]
theorem Q24{α:Type}(h:Nat→List α)(b:Nat):∀n,(∀i,i<n→(h i).length≤b)→(catN h n).length≤n*b
 |0,_=>by simp[catN]
 |n+1,hb=>by
  rw[Q12,qD,Nat.add_mul];have h1:=Q24 h b n λi hi=>hb i (by omega);have h2:=hb n (by omega);omega
theorem Q7q{α β:Type}(f:α→β)(h:Nat→List α)(n:Nat):(catN h n).map f=catN (λi=>(h i).map f) n:=by simp[catN,List.map_flatMap]
theorem Q6X{α:Type}{h h':Nat→List α}{n:Nat}(e:∀i,i<n→h i=h' i):catN h n=catN h' n:=by
 induction n with
 |zero=>rfl
 |succ n ih=>rw[Q12,Q12,ih λi hi=>e i (by omega),e n (by omega)]
theorem mem_catN{α:Type}{h:Nat→List α}{n:Nat}{x:α}:x∈catN h n↔∃i,i<n∧x∈h i:=by simp[catN,List.mem_flatMap]
theorem Q3e{α:Type}{body:List α×Int→Option (Ctl (List α×Int) (List α))}(a0:List α)(n:Nat)(h:Nat→List α)(hn:n<4611686018427387904)(h1:∀i:Nat,i<n→body (a0++catN h i,(i:Int))=some (.next ((a0++catN h i)++h i,(i:Int)+1)))(h3:∀acc,body (acc,(n:Int))=some (.ret acc)):Qd body fuel (a0,0)=some (a0++catN h n):=
 Q1d (λi:Nat=>(a0++catN h i,(i:Int))) n (by simp[catN]) hn (λi hi=>by rw[h1 i hi,Q12,List.append_assoc];rfl) (h3 _)
def spK{α:Type}(mk:Int→Int→Int→α)(c:Cat)(w:List Int)(y:Int)(u:Nat)(v:Int):List α:=open Classical in if v∈w then catN (λk=>[mk u v (ix (homL c u y) k)]) (homL c u y).length else[]
def spU{α:Type}(mk:Int→Int→Int→α)(c:Cat)(w:List Int)(x y:Int)(u:Nat):List α:=catN (λi=>spK mk c w y u (ix (homL c u x) i)) (homL c u x).length
def spG{α:Type}(mk:Int→Int→Int→α)(c:Cat)(w:List Int)(x y:Int):List α:=catN (spU mk c w x y) c.n.toNat
theorem spG_map{α β:Type}(f:α→β)(mk:Int→Int→Int→α)(c:Cat)(w:List Int)(x y:Int):(spG mk c w x y).map f=spG (λa b d=>f (mk a b d)) c w x y:=by
 unfold spG;rw[Q7q];refine Q6X λu _=>?_;unfold spU;rw[Q7q];refine Q6X λi _=>?_;unfold spK;split
 ·rw[Q7q];rfl
 rfl
theorem Q9K{α:Type}{mk:Int→Int→Int→α}{c:Cat}(hc:c.Is){w:List Int}{y:Int}{u:Nat}{v:Int}:(spK mk c w y u v).length≤40:=by
 have hn:=hc.nums;have l:=Q1Q c u y;unfold spK;split
 ·have:=Q24 (λk:Nat=>[mk u v (ix (homL c u y) k)]) 1 (homL c u y).length λi _=>by simp
  omega
 simp
theorem spU_len{α:Type}{mk:Int→Int→Int→α}{c:Cat}(hc:c.Is){w:List Int}{x y:Int}{u:Nat}:(spU mk c w x y u).length≤1600:=by
 have hn:=hc.nums;have l:=Q1Q c u x;have:=Q24 (λi:Nat=>spK mk c w y u (ix (homL c u x) i)) 40 (homL c u x).length λi _=>Q9K hc;unfold spU;have:(homL c u x).length*40≤40*40:=xB (by omega) (qE _);omega
theorem spG_len{α:Type}{mk:Int→Int→Int→α}{c:Cat}(hc:c.Is){w:List Int}{x y:Int}{n:Nat}(h:n≤8):(catN (spU mk c w x y) n).length≤12800:=by
 have:=Q24 (spU mk c w x y) 1600 n λi _=>spU_len hc;have:n*1600≤8*1600:=xB h (qE _);omega
theorem e_spansI{c:Cat}(hc:c.Is)(w:List Int)(x y:Int):QL (wD c w) x y=some (spG X3.mk c w x y):=by
 have hn:=hc.nums;have ht:=Q7j c w;unfold QL;simp only[show(wD c w).c_=c from rfl];have e:∀(B:List X3×Int→Option (Ctl (List X3×Int) (List X3))),Qd B fuel ([],0)=some ([]++spG X3.mk c w x y)→(Qd B fuel ([],0)).bind (λb1=>some b1)=some (spG X3.mk c w x y):=λB h=>by rw[h];rfl
 refine e _ (Q3e [] c.n.toNat (spU X3.mk c w x y) (by omega) (λu hu=>?_) λacc=>by simp only;rw[if_neg (by omega)]);have la:=spG_len (mk:=X3.mk) hc (w:=w) (x:=x) (y:=y) (n:=u) (by omega);generalize hA:catN (spU X3.mk c w x y) u=A at la⊢;simp only[List.nil_append];rw[if_pos (by omega),(Q4s hc _ _).2];simp only[yR];have lx:=Q1Q c u x;have ly:=Q1Q c u y;rw[show∀(B:List X3×Int→Option (Ctl (List X3×Int) (List X3))) (K:List X3→Option (Ctl (List X3×Int) (List X3))),Qd B fuel (A,0)=some (A++spU X3.mk c w x y u)→(((Qd B fuel (A,0)).bind λp59=>some p59).bind K)=K (A++spU X3.mk c w x y u) from λB K h=>by rw[h];rfl]
 ·rw[Q2 (by unfold B64;omega)]
 refine Q3e A (homL c u x).length (λi=>spK X3.mk c w y u (ix (homL c u x) i)) (by omega) (λi hi=>?_) λacc=>by simp only;rw[if_neg (by omega)]
 have lb:=Q24 (λi:Nat=>spK X3.mk c w y u (ix (homL c u x) i)) 40 i λj _=>Q9K hc;have lb2:i*40≤40*40:=xB (by omega) (qE _);have lb3:(A++catN (λi:Nat=>spK X3.mk c w y u (ix (homL c u x) i)) i).length≤14400:=by rw[qD];omega
 generalize A++catN (λi:Nat=>spK X3.mk c w y u (ix (homL c u x) i)) i=D at lb3⊢;have a:=(Q1Y hi).1;simp only;rw[if_pos (by omega),Q2 (by omega),Q2 (by omega),Q7I a]
 by_cases hm:ix (homL c u x) i∈w
 ·rw[Qu hm,if_neg (by simp),(Q4s hc _ _).2];simp only[yR];rw[show∀(B:List X3×Int→Option (Ctl (List X3×Int) (List X3))) (K:List X3→Option (Ctl (List X3×Int) (List X3))),Qd B fuel (D,0)=some (D++catN (λk=>[X3.mk u (ix (homL c u x) i) (ix (homL c u y) k)]) (homL c u y).length)→(((Qd B fuel (D,0)).bind λp59=>some p59).bind K)=K (D++spK X3.mk c w y u (ix (homL c u x) i)) from λB K h=>by rw[h];unfold spK;rw[if_pos hm];rfl]
  ·rw[Q2 (by unfold B64;omega)]
  refine Q3e D (homL c u y).length (λk=>[X3.mk u (ix (homL c u x) i) (ix (homL c u y) k)]) (by omega) (λk hk=>?_) λacc=>by simp only;rw[if_neg (by omega)]
  have lk:=Q24 (λk:Nat=>[X3.mk u (ix (homL c u x) i) (ix (homL c u y) k)]) 1 k λj _=>by simp
  simp only;rw[if_pos (by omega),Q2 (by omega),Q2 (by simp only[qD,xA];omega),Q2 (by unfold B64;omega)]
 rw[Qp hm,if_pos (by simp)];simp only[yR];rw[Q2 (by unfold B64;omega)];unfold spK;rw[if_neg hm,yQ]
def trw3(a b d:Int):List Int:=[a,b,d]
theorem e_spansS{c:Cat}(hc:c.Is)(w:List Int)(x y:Int):Q1C c w x y=some (spG trw3 c w x y):=by
 have hn:=hc.nums;unfold Q1C;have e:∀(B:List (List Int)×Int→Option (Ctl (List (List Int)×Int) (List (List Int)))),Qd B fuel ([],0)=some ([]++spG trw3 c w x y)→(Qd B fuel ([],0)).bind (λb1=>some b1)=some (spG trw3 c w x y):=λB h=>by rw[h];rfl
 refine e _ (Q3e [] c.n.toNat (spU trw3 c w x y) (by omega) (λu hu=>?_) λacc=>by simp only;rw[if_neg (by omega)]);have la:=spG_len (mk:=trw3) hc (w:=w) (x:=x) (y:=y) (n:=u) (by omega);generalize hA:catN (spU trw3 c w x y) u=A at la⊢;simp only[List.nil_append];rw[if_pos (by omega),(Q4s hc _ _).1];simp only[yR];rw[(Q4s hc _ _).1];simp only[yR];have lx:=Q1Q c u x;have ly:=Q1Q c u y;rw[show∀(B:List (List Int)×Int→Option (Ctl (List (List Int)×Int) (List (List Int)))) (K:List (List Int)→Option (Ctl (List (List Int)×Int) (List (List Int)))),Qd B fuel (A,0)=some (A++spU trw3 c w x y u)→(((Qd B fuel (A,0)).bind λp59=>some p59).bind K)=K (A++spU trw3 c w x y u) from λB K h=>by rw[h];rfl]
 ·rw[Q2 (by unfold B64;omega)]
 refine Q3e A (homL c u x).length (λi=>spK trw3 c w y u (ix (homL c u x) i)) (by omega) (λi hi=>?_) λacc=>by simp only;rw[if_neg (by omega)]
 have lb:=Q24 (λi:Nat=>spK trw3 c w y u (ix (homL c u x) i)) 40 i λj _=>Q9K hc;have lb2:i*40≤40*40:=xB (by omega) (qE _);have lb3:(A++catN (λi:Nat=>spK trw3 c w y u (ix (homL c u x) i)) i).length≤14400:=by rw[qD];omega
 generalize A++catN (λi:Nat=>spK trw3 c w y u (ix (homL c u x) i)) i=D at lb3⊢;simp only;rw[if_pos (by omega)];rw[show∀(B:List (List Int)×Int→Option (Ctl (List (List Int)×Int) (List (List Int)))) (K:List (List Int)→Option (Ctl (List (List Int)×Int) (List (List Int)))),Qd B fuel (D,0)=some (D++spK trw3 c w y u (ix (homL c u x) i))→(((Qd B fuel (D,0)).bind λp59=>some p59).bind K)=K (D++spK trw3 c w y u (ix (homL c u x) i)) from λB K h=>by rw[h];rfl]
 ·rw[Q2 (by unfold B64;omega)]
 by_cases hm:ix (homL c u x) i∈w
 ·unfold spK;rw[if_pos hm];refine Q3e D (homL c u y).length (λk=>[trw3 u (ix (homL c u x) i) (ix (homL c u y) k)]) (by omega) (λk hk=>?_) λacc=>by simp
  have lk:=Q24 (λk:Nat=>[trw3 u (ix (homL c u x) i) (ix (homL c u y) k)]) 1 k λj _=>by simp
  simp only[Q15];rw[if_pos (by omega),Q2 (by omega),Qu hm];simp only[yR,if_true];rw[Q2 (by omega),Q2 (by omega),Q2 (by simp only[qD,xA];omega),Q2 (by unfold B64;omega)];rfl
 unfold spK;rw[if_neg hm,yQ];refine Q1d (λ_=>(D,0)) 0 rfl (by omega) (λi hi=>by omega) ?_;simp only[Q15]
 by_cases h0:(0:Int)<((homL c u y).length:Int)
 ·rw[if_pos h0,Q2 (by omega),Qp hm];rfl
 rw[if_neg h0];rfl
end
attribute [local simp] unk unA unE unT unC flat eL eI Qh QI Cat.cells
def Q1P(c_:Cat)(w_:List Int)(p_:List Int)(q_:List Int):Option Bool:=
 (Qd (σ:=Int) (ε:=Unit⊕Bool) (λs94=>
  if s94<c_.n then
   (
    ass ((0:Int)≤0∧0<(p_.length:Int))<|
    (Q1b c_ s94 (ix p_ 0)).bind λv98=>
    ass ((0:Int)≤0∧0<(q_.length:Int))<|
    (Q1b c_ s94 (ix q_ 0)).bind λv100=>
    (Qd (σ:=Int) (ε:=Bool⊕Unit) (λs143=>
     if s143<(v98.length:Int)then
      (
       (Qd (σ:=Int) (ε:=Bool⊕Unit) (λs165=>
        if s165<(v100.length:Int)then
         ass (0≤s143∧s143<(v98.length:Int))<|
         ass ((0:Int)≤1∧1<(p_.length:Int))<|
         (Qs c_ (ix v98 s143) (ix p_ 1)).bind λv169=>
         (
          ass (0≤s165∧s165<(v100.length:Int))<|
          ass ((0:Int)≤1∧1<(q_.length:Int))<|
          (Qs c_ (ix v100 s165) (ix q_ 1)).bind λv173=>
          if v169=v173 then
           (Q15 w_ v169).bind λv175=>
           if v175=true then
            ass (0≤s143∧s143<(v98.length:Int))<|
            ass ((0:Int)≤2∧2<(p_.length:Int))<|
            (Qs c_ (ix v98 s143) (ix p_ 2)).bind λv179=>
            ass (0≤s165∧s165<(v100.length:Int))<|
            ass ((0:Int)≤2∧2<(q_.length:Int))<|
            (Qs c_ (ix v100 s165) (ix q_ 2)).bind λv182=>
            some (v179==v182)
           else
            some false
          else
           some false:Option (Bool)).bind λb170=>
         if b170=true then
          some (yK (yS true))
         else
          ass (B64 (s165+1))<|
          some (yM (s165+1))
        else
         some (yK (yT ()))) fuel 0).bind λe165=>
       match e165 with
       | .inl p165=>
        some (yT p165)
       | .inr p165=>
        some (yS p165):Option (Unit⊕Bool)).bind λe145=>
      match e145 with
      | .inl b145=>
       ass (B64 (s143+1))<|
       some (yM (s143+1))
      | .inr p145=>
       some (yK (yS p145))
     else
      some (yK (yT ()))) fuel 0).bind λe143=>
    match e143 with
    | .inl p143=>
     some (yT p143)
    | .inr p143=>
     some (yS p143):Option (Unit⊕Bool)).bind λe96=>
   match e96 with
   | .inl b96=>
    ass (B64 (s94+1))<|
    some (yM (s94+1))
   | .inr p96=>
    some (yK (yT p96))
  else
   some (yK (yS ()))) fuel 0).bind λe1=>
 match e1 with
 | .inl b1=>
  some false
 | .inr p1=>
  some p1
@[simp] abbrev Yz(a b c:List Int)(d:Int)(e f:List Int)(g:List (Nat×AV)):List (Nat×AV):=(1,lI a)::(2,lI b)::(3,lI c)::(4,.adr 0 0 0)::(9,iV d)::(10,.own 1 0 e.length)::(11,.own 2 0 f.length)::g
theorem Q6V(c_:Cat)(w_:List Int)(p_:List Int)(q_:List Int)(r:Bool)(h:Q1P c_ w_ p_ q_=some r):Contract Tryz.prog 80 (Y0u c_ [lI w_,lI p_,lI q_]) (.val (.bool r)):=by
 refine Q9 (rvs:=[.tmp 8]) (rs:=[.val (.bool r)]) Tryz.func80 rfl rfl rfl rfl (by simp[Tryz.f80]) λF hN hP=>?_;unfold Q1P at h;refine Q0 (runQ hN λK hK=>?_);simp;repeat refine sdQ ?_
 refine hK _ ?_;clear hK K;refine tn (Q4 (st':=⟨[(1,lI w_),(2,lI p_),(3,lI q_),(4,.adr 0 0 0)],Y6 c_ [],1⟩) (wkQ [(0,0)]) (Q0 (Q0 (runQ hN λK hK=>?_))));simp;repeat refine sdQ ?_
 refine hK _ (tn (Q4 (st':=⟨[(1,lI w_),(2,lI p_),(3,lI q_),(4,.adr 0 0 0),(9,iV 0)],Y6 c_ [],1⟩) (wkQ [(0,0)]) ?_));clear hK K;replace⟨e1,h,h1⟩:=bind_some h;refine Qc (λb1:Unit=>⟨[],[],0⟩) (λb1=>yS b1=e1) ?_ ?_
 ·refine Q5 (Qm h (λs94:Int=>⟨[(1,lI w_),(2,lI p_),(3,lI q_),(4,.adr 0 0 0),(9,iV s94)],Y6 c_ [],1⟩) (wkQ [(0,0)]) ?_);clear h;intro k94 s94 c94 h hk94;refine Q0 (Q0 (runQ hN λK hK=>?_));simp;repeat refine sdQ ?_
  refine hK _ ?_;clear hK K;refine tn (Q6 rfl (λg=>?_) λg=>?_)
  ·have g95:s94<c_.n:=gQ;clear g;replace h:=if_l g95 h;refine Q7 (tn (Q0 ?_));replace⟨e96,h,h96⟩:=bind_some h;refine Qc (λb96:Unit=>⟨[(1,lI w_),(2,lI p_),(3,lI q_),(4,.adr 0 0 0),(9,iV s94)],Y6 c_ [],1⟩) (λb96=>yS b96=e96) ?_ ?_
   ·refine Q5 (Q0 (runQ hN λK hK=>?_));replace⟨a97,h⟩:=Q1 h;simp[(show(Is p_)[0]? =some [iV (ix p_ 0)] from at_I (j:=0) a97)];(repeat with_reducible refine sdQ ?_);replace⟨v98,hv98,h⟩:=bind_some h;refine Q3 (Q2z _ _ _ v98 hv98) (.cons (.aggL (.cons .val (.cons .lst (.cons .lst (.cons .lst (.cons .lst .nil)))))) (.cons .val (.cons .val .nil))) ?_;replace⟨a99,h⟩:=Q1 h;simp[(show(Is q_)[0]? =some [iV (ix q_ 0)] from at_I (j:=0) a99)];(repeat with_reducible refine sdQ ?_);replace⟨v100,hv100,h⟩:=bind_some h;refine Q3 (Q2z _ _ _ v100 hv100) (.cons (.aggL (.cons .val (.cons .lst (.cons .lst (.cons .lst (.cons .lst .nil)))))) (.cons .val (.cons .val .nil))) ?_;simp;(repeat refine sdQ ?_);refine hK _ ?_;clear hK K;refine tn (Q4 (st':=⟨Yz w_ p_ q_ s94 v98 v100 [],Y6 c_ [(1,rI v98),(2,rI v100)],3⟩) (wkI 3) (Q0 (runQ hN λK hK=>?_)));simp;(repeat refine sdQ ?_);refine hK _ (tn (Q4 (st':=⟨Yz w_ p_ q_ s94 v98 v100 [(12,iV 0)],Y6 c_ [(1,rI v98),(2,rI v100)],3⟩) (wkI 3) (Q5 ?_)));clear hK K;replace⟨e143,he143,h143⟩:=bind_some h;refine Qm he143 (λs143:Int=>⟨Yz w_ p_ q_ s94 v98 v100 [(12,iV s143)],Y6 c_ [(1,rI v98),(2,rI v100)],3⟩) (wkI 3) ?_;intro k143 s143 c143 h hk143;refine Q0 (Q0 (runQ hN λK hK=>?_));simp;(repeat refine sdQ ?_);refine hK _ ?_;clear hK K;refine tn (Q6 rfl (λg=>?_) λg=>?_)
    ·have g144:s143<(v98.length:Int):=gQ;clear g;replace h:=if_l g144 h;refine Q7 (tn (Q0 ?_));replace⟨e145,h,h145⟩:=bind_some h;refine Qc (λb145:Unit=>⟨Yz w_ p_ q_ s94 v98 v100 [(12,iV s143)],Y6 c_ [(1,rI v98),(2,rI v100)],3⟩) (λb145=>yS b145=e145) ?_ ?_
     ·refine Q5 (Q0 (runQ hN λK hK=>?_));simp;(repeat refine sdQ ?_);refine hK _ (tn (Q4 (st':=⟨Yz w_ p_ q_ s94 v98 v100 [(12,iV s143),(13,iV 0)],Y6 c_ [(1,rI v98),(2,rI v100)],3⟩) (wkI 3) (Q5 ?_)));clear hK K;replace⟨e165,he165,h165⟩:=bind_some h;refine Qm he165 (λs165:Int=>⟨Yz w_ p_ q_ s94 v98 v100 [(12,iV s143),(13,iV s165)],Y6 c_ [(1,rI v98),(2,rI v100)],3⟩) (wkI 3) ?_;intro k165 s165 c165 h hk165;refine Q0 (Q0 (runQ hN λK hK=>?_));simp;(repeat refine sdQ ?_);refine hK _ ?_;clear hK K;refine tn (Q6 rfl (λg=>?_) λg=>?_)
      ·have g166:s165<(v100.length:Int):=gQ;clear g;replace h:=if_l g166 h;refine Q7 (tn (Q0 (Q5 (Q0 (runQ hN λK hK=>?_)))));replace⟨a167,h⟩:=Q1 h;replace⟨a168,h⟩:=Q1 h;simp[at_I a167,(show(Is p_)[1]? =some [iV (ix p_ 1)] from at_I (j:=1) a168)];(repeat with_reducible refine sdQ ?_);replace⟨v169,hv169,h⟩:=bind_some h;refine Q3 (QZ _ _ _ v169 hv169) (.cons (.aggL (.cons .val (.cons .lst (.cons .lst (.cons .lst (.cons .lst .nil)))))) (.cons .val (.cons .val .nil))) ?_;simp[at_I a167];(repeat refine sdQ ?_);refine hK _ (tn (Q4 (st':=⟨Yz w_ p_ q_ s94 v98 v100 [(12,iV s143),(13,iV s165),(14,iV v169)],Y6 c_ [(1,rI v98),(2,rI v100)],3⟩) (wkI 3) (Q0 ?_)));clear hK K;replace⟨e170,h,h170⟩:=bind_some h;refine Qc (λb170:Bool=>⟨Yz w_ p_ q_ s94 v98 v100 [(12,iV s143),(13,iV s165),(90,.val (.bool b170))],Y6 c_ [(1,rI v98),(2,rI v100)],3⟩) (λb170=>b170=e170) ?_ ?_
       ·refine runQ hN λK hK=>?_;replace⟨a171,h⟩:=Q1 h;replace⟨a172,h⟩:=Q1 h;simp[at_I a171,(show(Is q_)[1]? =some [iV (ix q_ 1)] from at_I (j:=1) a172)];(repeat with_reducible refine sdQ ?_);replace⟨v173,hv173,h⟩:=bind_some h;refine Q3 (QZ _ _ _ v173 hv173) (.cons (.aggL (.cons .val (.cons .lst (.cons .lst (.cons .lst (.cons .lst .nil)))))) (.cons .val (.cons .val .nil))) ?_;simp[at_I a171];(repeat with_reducible refine sdQ ?_);refine Qv (λg=>?_) (λg=>?_)
        ·have g174:v169=v173:=gQ;clear g;replace h:=if_l g174 h;simp[at_I a171];(repeat with_reducible refine sdQ ?_);replace⟨v175,hv175,h⟩:=bind_some h;refine Q3 (Q3I _ _ v175 hv175) (.cons .lst (.cons .val .nil)) ?_;simp[at_I a171];(repeat with_reducible refine sdQ ?_);refine Qv (λg=>?_) (λg=>?_)
         ·have g176:v175=true:=gQ;clear g;replace h:=if_l g176 h;replace⟨a177,h⟩:=Q1 h;replace⟨a178,h⟩:=Q1 h;simp[at_I a171,at_I a177,(show(Is p_)[2]? =some [iV (ix p_ 2)] from at_I (j:=2) a178)];(repeat with_reducible refine sdQ ?_);replace⟨v179,hv179,h⟩:=bind_some h;refine Q3 (QZ _ _ _ v179 hv179) (.cons (.aggL (.cons .val (.cons .lst (.cons .lst (.cons .lst (.cons .lst .nil)))))) (.cons .val (.cons .val .nil))) ?_;replace⟨a180,h⟩:=Q1 h;replace⟨a181,h⟩:=Q1 h;simp[at_I a171,at_I a177,at_I a180,(show(Is q_)[2]? =some [iV (ix q_ 2)] from at_I (j:=2) a181)];(repeat with_reducible refine sdQ ?_);replace⟨v182,hv182,h⟩:=bind_some h;refine Q3 (QZ _ _ _ v182 hv182) (.cons (.aggL (.cons .val (.cons .lst (.cons .lst (.cons .lst (.cons .lst .nil)))))) (.cons .val (.cons .val .nil))) ?_;simp[at_I a171,at_I a177,at_I a180];(repeat refine sdQ ?_);refine hK _ ?_;exact jn (b:=v179==v182) (yJ h) (wkI 3)
         have g176:¬(v175=true):=gQ;clear g;replace h:=if_r g176 h;simp[at_I a171];(repeat refine sdQ ?_);refine hK _ ?_;exact jn (b:=false) (yJ h) (wkI 3)
        have g174:¬(v169=v173):=gQ;clear g;replace h:=if_r g174 h;simp[at_I a171];(repeat refine sdQ ?_);refine hK _ ?_;exact jn (b:=false) (yJ h) (wkI 3)
       intro b170 hb170;have h:=h170;(try rw[←hb170]at h);clear h170;(try dsimp only at h);refine Q6 rfl (λg=>?_) λg=>?_
       ·have g183:b170=true:=gQ;clear g;replace h:=if_l g183 h;refine Q0 (runQ hN λK hK=>?_);simp;(repeat refine sdQ ?_);refine hK _ (tn (Q4 (st':=⟨[(8,.val (.bool true))],[],0⟩) (wkQ []) (Qi (br (tr (lr (br (br (tr (lr (br (br (tr (lr (br (tr ?_))))))))))))))));clear hK K;cases h;have q:_=e165:=hk165;have h:=h165;rw[←q]at h;clear q;(try dsimp only at h);cases h;have h:=h145;(try dsimp only at h);cases h;have q:_=e143:=hk143;have h:=h143;rw[←q]at h;clear q;(try dsimp only at h);cases h;have h:=h96;(try dsimp only at h);cases h;have q:_=e1:=hk94;have h:=h1;rw[←q]at h;clear q;(try dsimp only at h);have hr:=yJ h;rw[←hr];refine⟨_,(.tmp .nil),?_⟩;refine⟨(.one rfl rfl .nil),[.val (.bool true)],[],by simp[BN],by simp,(yN _)⟩
       have g183:¬(b170=true):=gQ;clear g;replace h:=if_r g183 h;refine Q7 (bn (tn (runQ hN λK hK=>?_)));replace⟨a184,h⟩:=Q1 h;simp[Qg a184];(repeat refine sdQ ?_);refine hK _ ?_;clear hK K;cases h;exact rn (s':=s165+1) hk165 (wkI 3)
      have g166:¬(s165<(v100.length:Int)):=gQ;clear g;replace h:=if_r g166 h;refine Qj (tx (lx (bh (bn ?_))));cases h;have q:_=e165:=hk165;have h:=h165;rw[←q]at h;clear q;(try dsimp only at h);exact jn (b:=()) (yJ h) (wkI 3)
     intro b145 hb145;have h:=h145;(try rw[←hb145]at h);clear h145;(try dsimp only at h);refine runQ hN λK hK=>?_;replace⟨a185,h⟩:=Q1 h;simp[Qg a185];(repeat refine sdQ ?_);refine hK _ ?_;clear hK K;cases h;exact rn (s':=s143+1) hk143 (wkI 3)
    have g144:¬(s143<(v98.length:Int)):=gQ;clear g;replace h:=if_r g144 h;refine Qj (tx (lx (bh (bn ?_))));cases h;have q:_=e143:=hk143;have h:=h143;rw[←q]at h;clear q;(try dsimp only at h);exact jn (b:=()) (yJ h) (wkQ [(0,0)])
   intro b96 hb96;have h:=h96;(try rw[←hb96]at h);clear h96;(try dsimp only at h);refine runQ hN λK hK=>?_;replace⟨a186,h⟩:=Q1 h;simp[Qg a186];(repeat refine sdQ ?_);refine hK _ ?_;clear hK K;cases h;exact rn (s':=s94+1) hk94 (wkQ [(0,0)])
  have g95:¬(s94<c_.n):=gQ;clear g;replace h:=if_r g95 h;refine Qj (tx (lx (bh ?_)));cases h;exact jn (b:=()) hk94 (wkQ [])
 intro b1 hb1;have h:=h1;try rw[←hb1]at h
 clear h1;try dsimp only at h
 refine Q0 (runQ hN λK hK=>?_);simp;repeat refine sdQ ?_
 refine hK _ (tn (Q4 (st':=⟨[(8,.val (.bool false))],[],0⟩) (wkQ []) (Qi ?_)));clear hK K;have hr:=yJ h;rw[←hr];refine⟨_,(.tmp .nil),?_⟩;refine⟨(.one rfl rfl .nil),[.val (.bool false)],[],by simp[BN],by simp,(yN _)⟩
section
attribute [local simp] Qa QD Qo QM Qx
def KeyW(c:Cat)(w:List Int)(p1 p2 p3 s v f:Int):Prop:=∃a,Ar c a s p1∧ix (rx c.cs a) p2=v∧v∈w∧ix (rx c.cs a) p3=f
def RelW(c:Cat)(w:List Int)(p1 p2 p3 q1 q2 q3:Int):Prop:=∃s v f,KeyW c w p1 p2 p3 s v f∧KeyW c w q1 q2 q3 s v f
def RefW(c:Cat)(w:List Int)(p2 p3 q2 q3 a b:Int):Prop:=ix (rx c.cs a) p2=ix (rx c.cs b) q2∧ix (rx c.cs a) p2∈w∧ix (rx c.cs a) p3=ix (rx c.cs b) q3
def rl1(c:Cat)(w:List Int)(p_ q_ v98 v100:List Int)(s143:Int):Int→Option (Ctl Int (Bool⊕Unit)):=λs165=>
 if s165<(v100.length:Int)then
  ass (0≤s143∧s143<(v98.length:Int))<|
  ass ((0:Int)≤1∧1<(p_.length:Int))<|
  (Qs c (ix v98 s143) (ix p_ 1)).bind λv169=>
  (
   ass (0≤s165∧s165<(v100.length:Int))<|
   ass ((0:Int)≤1∧1<(q_.length:Int))<|
   (Qs c (ix v100 s165) (ix q_ 1)).bind λv173=>
   if v169=v173 then
    (Q15 w v169).bind λv175=>
    if v175=true then
     ass (0≤s143∧s143<(v98.length:Int))<|
     ass ((0:Int)≤2∧2<(p_.length:Int))<|
     (Qs c (ix v98 s143) (ix p_ 2)).bind λv179=>
     ass (0≤s165∧s165<(v100.length:Int))<|
     ass ((0:Int)≤2∧2<(q_.length:Int))<|
     (Qs c (ix v100 s165) (ix q_ 2)).bind λv182=>
     some (v179==v182)
    else
     some false
   else
    some false:Option (Bool)).bind λb170=>
  if b170=true then
   some (yK (yS true))
  else
   ass (B64 (s165+1))<|
   some (yM (s165+1))
 else
  some (yK (yT ()))
def ArW(c:Cat)(f:Int):Prop:=0≤f∧f<(c.fr.length:Int)
theorem Q80{c:Cat}(hc:c.Is){w:List Int}{p1 p2 p3 q1 q2 q3:Int}(hp2:ArW c p2)(hp3:ArW c p3)(hq2:ArW c q2)(hq3:ArW c q3){s:Int}{i k:Nat}(hi:i<(homL c s p1).length)(hk:k<(homL c s q1).length):
  rl1 c w (trw3 p1 p2 p3) (trw3 q1 q2 q3) (homL c s p1) (homL c s q1) i k=if bo (RefW c w p2 p3 q2 q3 (ix (homL c s p1) i) (ix (homL c s q1) k))=true then some (.ret (yS true))else some (.next ((k:Int)+1)):=by
 have hn:=hc.nums;have l2:=Q1Q c s q1;have a:=(Q1Y hi).1;have b:=(Q1Y hk).1;unfold rl1;rw[if_pos (by omega),Q2 (by omega),Q2 (by simp[trw3]),show ix (trw3 p1 p2 p3) 1=p2 from rfl,(Q1o hc a hp2).1];simp only[yR];rw[Q2 (by omega),Q2 (by simp[trw3]),show ix (trw3 q1 q2 q3) 1=q2 from rfl,(Q1o hc b hq2).1];simp only[yR]
 by_cases h1:ix (rx c.cs (ix (homL c s p1) i)) p2=ix (rx c.cs (ix (homL c s q1) k)) q2
 case neg=>
  rw[if_neg h1,Qp (λq:RefW c w p2 p3 q2 q3 _ _=>h1 q.1)];simp only[yR,zG,if_false];rw[Q2 (by unfold B64;omega)]
 rw[if_pos h1];simp only[Q15,yR]
 by_cases h2:ix (rx c.cs (ix (homL c s p1) i)) p2∈w
 case neg=>
  rw[Qp h2,if_neg (by simp),Qp (λq:RefW c w p2 p3 q2 q3 _ _=>h2 q.2.1)];simp only[yR,zG,if_false];rw[Q2 (by unfold B64;omega)]
 rw[Qu h2,if_pos rfl,Q2 (by omega),Q2 (by simp[trw3]),show ix (trw3 p1 p2 p3) 2=p3 from rfl,(Q1o hc a hp3).1];simp only[yR];rw[Q2 (by omega),Q2 (by simp[trw3]),show ix (trw3 q1 q2 q3) 2=q3 from rfl,(Q1o hc b hq3).1];simp only[yR]
 by_cases h3:ix (rx c.cs (ix (homL c s p1) i)) p3=ix (rx c.cs (ix (homL c s q1) k)) q3
 ·rw[if_pos (by simpa using h3),Qu (show RefW c w p2 p3 q2 q3 _ _ from⟨h1,h2,h3⟩)];rfl
 rw[if_neg (by simpa using h3),Qp (λq:RefW c w p2 p3 q2 q3 _ _=>h3 q.2.2),Q2 (by unfold B64;omega)];rfl
def rl2(c:Cat)(w:List Int)(p_ q_ v98 v100:List Int):Int→Option (Ctl Int (Bool⊕Unit)):=λs143=>
 if s143<(v98.length:Int)then
  (
   (Qd (rl1 c w p_ q_ v98 v100 s143) fuel 0).bind λe165=>
   match e165 with
   | .inl p165=>
    some (yT p165)
   | .inr p165=>
    some (yS p165):Option (Unit⊕Bool)).bind λe145=>
  match e145 with
  | .inl b145=>
   ass (B64 (s143+1))<|
   some (yM (s143+1))
  | .inr p145=>
   some (yK (yS p145))
 else
  some (yK (yT ()))
theorem Q81{c:Cat}(hc:c.Is){w:List Int}{p1 p2 p3 q1 q2 q3:Int}(hp2:ArW c p2)(hp3:ArW c p3)(hq2:ArW c q2)(hq3:ArW c q3){s:Int}{i:Nat}(hi:i<(homL c s p1).length):
  rl2 c w (trw3 p1 p2 p3) (trw3 q1 q2 q3) (homL c s p1) (homL c s q1) i=if bo (∃k:Nat,0≤k∧k<(homL c s q1).length∧RefW c w p2 p3 q2 q3 (ix (homL c s p1) i) (ix (homL c s q1) k))=true then some (.ret (yS true))else some (.next ((i:Int)+1)):=by
 have hn:=hc.nums;have l1:=Q1Q c s p1;have l2:=Q1Q c s q1;unfold rl2;rw[if_pos (by omega)]
 by_cases h:∃k:Nat,0≤k∧k<(homL c s q1).length∧RefW c w p2 p3 q2 q3 (ix (homL c s p1) i) (ix (homL c s q1) k)
 ·obtain⟨e,e1,e2⟩:=Q3Z (body:=rl1 c w (trw3 p1 p2 p3) (trw3 q1 q2 q3) (homL c s p1) (homL c s q1) i) (Qe:=λe=>e=yS true) 0 (homL c s q1).length _ (by omega) h (λk _ hk hp=>by rw[Q80 hc hp2 hp3 hq2 hq3 hi hk,Qp hp];rfl) λk _ hk hp=>⟨_,by rw[Q80 hc hp2 hp3 hq2 hq3 hi hk,Qu hp];rfl,rfl⟩;rw[show Qd (rl1 c w (trw3 p1 p2 p3) (trw3 q1 q2 q3) (homL c s p1) (homL c s q1) i) fuel 0=some e from e1,e2,Qu h];rfl
 rw[show Qd (rl1 c w (trw3 p1 p2 p3) (trw3 q1 q2 q3) (homL c s p1) (homL c s q1) i) fuel 0=some (yT ()) from Q5j 0 (homL c s q1).length (by omega) (zV _) (λk _ hk=>by rw[Q80 hc hp2 hp3 hq2 hq3 hi hk,Qp (λb=>h ⟨k,zV _,hk,b⟩)];rfl) (by unfold rl1;rw[if_neg (by omega)]),Qp h];simp only[yR,zG,if_false];rw[Q2 (by unfold B64;omega)]
theorem rel_iff{c:Cat}{w:List Int}{p1 p2 p3 q1 q2 q3:Int}(hc:c.Is):(∃s:Nat,s<c.n.toNat∧∃i:Nat,0≤i∧i<(homL c s p1).length∧∃k:Nat,0≤k∧k<(homL c s q1).length∧RefW c w p2 p3 q2 q3 (ix (homL c s p1) i) (ix (homL c s q1) k))↔RelW c w p1 p2 p3 q1 q2 q3:=by
 constructor
 ·rintro ⟨s,_,i,_,hi,k,_,hk,r1,r2,r3⟩
  exact⟨s,_,_,⟨_,Q1Y hi,rfl,r2,rfl⟩,⟨_,Q1Y hk,r1.symm,r2,r3.symm⟩⟩
 rintro ⟨s,v,f,⟨a,a1,a2,a3,a4⟩,⟨b,b1,b2,b3,b4⟩⟩
 have hs:=(hc.Af a1.1).2.1;rw[a1.2.1]at hs;obtain⟨s',rfl⟩:=yU hs.1;have mem:∀{a x:Int},Ar c a s' x→∃i:Nat,0≤i∧i<(homL c s' x).length∧ix (homL c s' x) i=a:=by
  intro a x h;obtain⟨k,rfl⟩:=yU h.1.1;have:(k:Int)∈homL c s' x:=mem_flt.2 ⟨k,by have:=h.1.2;omega,⟨h.2.1,h.2.2⟩,rfl⟩;obtain⟨j,hj,e⟩:=zX this;exact⟨j,zV _,hj,by rw[←Q16 _ _ hj,e]⟩
 obtain⟨i,i1,i2,i3⟩:=mem a1;obtain⟨k,k1,k2,k3⟩:=mem b1;exact⟨s',by omega,i,i1,i2,k,k1,k2,by rw[i3,k3,a2,b2],by rw[i3,a2];exact a3,by rw[i3,k3,a4,b4]⟩
def rl3(c:Cat)(w:List Int)(p_ q_:List Int):Int→Option (Ctl Int (Unit⊕Bool)):=λs94=>
 if s94<c.n then
  (
   ass ((0:Int)≤0∧0<(p_.length:Int))<|
   (Q1b c s94 (ix p_ 0)).bind λv98=>
   ass ((0:Int)≤0∧0<(q_.length:Int))<|
   (Q1b c s94 (ix q_ 0)).bind λv100=>
   (Qd (rl2 c w p_ q_ v98 v100) fuel 0).bind λe143=>
   match e143 with
   | .inl p143=>
    some (yT p143)
   | .inr p143=>
    some (yS p143):Option (Unit⊕Bool)).bind λe96=>
  match e96 with
  | .inl b96=>
   ass (B64 (s94+1))<|
   some (yM (s94+1))
  | .inr p96=>
   some (yK (yT p96))
 else
  some (yK (yS ()))
theorem e_related{c:Cat}(hc:c.Is){w:List Int}{p1 p2 p3 q1 q2 q3:Int}(hp2:ArW c p2)(hp3:ArW c p3)(hq2:ArW c q2)(hq3:ArW c q3):Q1P c w (trw3 p1 p2 p3) (trw3 q1 q2 q3)=some (bo (RelW c w p1 p2 p3 q1 q2 q3)):=by
 have hn:=hc.nums;have step:∀s:Nat,s<c.n.toNat→rl3 c w (trw3 p1 p2 p3) (trw3 q1 q2 q3) s=if bo (∃i:Nat,0≤i∧i<(homL c s p1).length∧∃k:Nat,0≤k∧k<(homL c s q1).length∧RefW c w p2 p3 q2 q3 (ix (homL c s p1) i) (ix (homL c s q1) k))=true then some (.ret (yT true))else some (.next ((s:Int)+1)):=by
  intro s hs;have l1:=Q1Q c s p1;unfold rl3;rw[if_pos (by omega),Q2 (by simp[trw3]),show ix (trw3 p1 p2 p3) 0=p1 from rfl,(Q4s hc _ _).1];simp only[yR];rw[Q2 (by simp[trw3]),show ix (trw3 q1 q2 q3) 0=q1 from rfl,(Q4s hc _ _).1];simp only[yR]
  by_cases h:∃i:Nat,0≤i∧i<(homL c s p1).length∧∃k:Nat,0≤k∧k<(homL c s q1).length∧RefW c w p2 p3 q2 q3 (ix (homL c s p1) i) (ix (homL c s q1) k)
  ·obtain⟨e,e1,e2⟩:=Q3Z (body:=rl2 c w (trw3 p1 p2 p3) (trw3 q1 q2 q3) (homL c s p1) (homL c s q1)) (Qe:=λe=>e=yS true) 0 (homL c s p1).length _ (by omega) h (λi _ hi hp=>by rw[Q81 hc hp2 hp3 hq2 hq3 hi,Qp hp];rfl) λi _ hi hp=>⟨_,by rw[Q81 hc hp2 hp3 hq2 hq3 hi,Qu hp];rfl,rfl⟩;rw[show Qd (rl2 c w (trw3 p1 p2 p3) (trw3 q1 q2 q3) (homL c s p1) (homL c s q1)) fuel 0=some e from e1,e2,Qu h];rfl
  rw[show Qd (rl2 c w (trw3 p1 p2 p3) (trw3 q1 q2 q3) (homL c s p1) (homL c s q1)) fuel 0=some (yT ()) from Q5j 0 (homL c s p1).length (by omega) (zV _) (λi _ hi=>by rw[Q81 hc hp2 hp3 hq2 hq3 hi,Qp (λb=>h ⟨i,zV _,hi,b⟩)];rfl) (by unfold rl2;rw[if_neg (by omega)]),Qp h];simp only[yR,zG,if_false];rw[Q2 (by unfold B64;omega)]
 unfold Q1P;show(Qd (rl3 c w (trw3 p1 p2 p3) (trw3 q1 q2 q3)) fuel 0).bind _=_
 by_cases h:RelW c w p1 p2 p3 q1 q2 q3
 ·obtain⟨s,h1,h2⟩:=(rel_iff hc).2 h;obtain⟨e,e1,e2⟩:=Q3Z (body:=rl3 c w (trw3 p1 p2 p3) (trw3 q1 q2 q3)) (Qe:=λe=>e=yT true) 0 c.n.toNat _ (by omega) ⟨s,zV _,h1,h2⟩ (λs _ hs hp=>by rw[step s hs,Qp hp];rfl) λs _ hs hp=>⟨_,by rw[step s hs,Qu hp];rfl,rfl⟩;rw[show Qd (rl3 c w (trw3 p1 p2 p3) (trw3 q1 q2 q3)) fuel 0=some e from e1,e2,Qu h];rfl
 rw[show Qd (rl3 c w (trw3 p1 p2 p3) (trw3 q1 q2 q3)) fuel 0=some (yS ()) from Q5j 0 c.n.toNat (by omega) (zV _) (λs _ hs=>by rw[step s hs,Qp (λb=>h ((rel_iff hc).1 ⟨s,hs,b⟩))];rfl) (by unfold rl3;rw[if_neg (by omega)]),Qp h];rfl
end
attribute [local simp] unk unA unE unT unC flat eL eI Qh QI Cat.cells
def Q1O(c_:Cat)(w_:List Int)(spans_:List (List Int)):Option (List Int):=
 (Qd (σ:=List (List Int)×Int) (ε:=List (List Int)) (λs27=>
  if s27.2<(spans_.length:Int)then
   (
    (Qd (σ:=List (List Int)×Int) (ε:=List (List Int)) (λs38=>
     if s38.2<s27.2 then
      (
       ass (0≤s27.2∧s27.2<(spans_.length:Int))<|
       ass (0≤s38.2∧s38.2<(spans_.length:Int))<|
       (Q1P c_ w_ (rx spans_ s27.2) (rx spans_ s38.2)).bind λv43=>
       if v43=true then
        ass ((s38.1++[[s38.2,s27.2]]).length≤1073741824)<|
        some (s38.1++[[s38.2,s27.2]])
       else
        some s38.1:Option (List (List Int))).bind λb40=>
      ass (B64 (s38.2+1))<|
      some (yM (b40,s38.2+1))
     else
      some (yK s38.1)) fuel (s27.1,0)).bind λp38=>
    some p38:Option (List (List Int))).bind λb29=>
   ass (B64 (s27.2+1))<|
   some (yM (b29,s27.2+1))
  else
   some (yK s27.1)) fuel ([],0)).bind λb1=>
 (Q35 (spans_.length:Int) b1).bind λv48=>
 some v48
@[simp] abbrev YM(a:List Int)(b:List (List Int))(c:List (Nat×AV)):List (Nat×AV):=(1,lI a)::(2,.lst true 1 (Ls b))::(3,.adr 0 0 0)::c
theorem Q6T(c_:Cat)(w_:List Int)(spans_:List (List Int))(r:List Int)(h:Q1O c_ w_ spans_=some r):Contract Tryz.prog 52 (Y0u c_ [lI w_,.lst true 1 (Ls spans_)]) (lI r):=by
 refine Q9 (rvs:=[.tmp 6]) (rs:=[lI r]) Tryz.func52 rfl rfl rfl rfl (by simp[Tryz.f52]) λF hN hP=>?_;unfold Q1O at h;refine Q0 (runQ hN λK hK=>?_);simp;repeat refine sdQ ?_
 refine hK _ ?_;clear hK K;refine tn (Q4 (st':=⟨YM w_ spans_ [],Y6 c_ [],1⟩) (wkQ [(0,0)]) (Q0 (runQ hN λK hK=>?_)));simp;repeat refine sdQ ?_
 refine hK _ ?_;clear hK K;refine tn (Q4 (st':=⟨YM w_ spans_ [(7,.own 1 0 0)],Y6 c_ [(1,.mix 1 [])],2⟩) (wkQ [(0,0),(1,1)]) (Q0 (Q0 (runQ hN λK hK=>?_))));simp;repeat refine sdQ ?_
 refine hK _ (tn (Q4 (st':=⟨YM w_ spans_ [(7,.own 1 0 0),(8,iV 0)],Y6 c_ [(1,.mix 1 [])],2⟩) (wkQ [(0,0),(1,1)]) ?_));clear hK K;replace⟨e1,h,h1⟩:=bind_some h;refine Qc (λb1:List (List Int)=>⟨[(2,.lst true 1 (Ls spans_)),(7,.own 0 0 b1.length)],[(0,.row 1 (Ls b1))],1⟩) (λb1=>b1=e1) ?_ ?_
 ·refine Q5 (Qm h (λs27:List (List Int)×Int=>⟨YM w_ spans_ [(7,.own 1 0 s27.1.length),(8,iV s27.2)],Y6 c_ [(1,.row 1 (Ls s27.1))],2⟩) (Q2M ⟨YM w_ spans_ [(7,.own 1 0 0),(8,iV 0)],Y6 c_ [(1,.row 1 (Ls []))],2⟩ (Wk.nils [] (by simp) (by simp) (by simp[nlA]) (by simp[entN,nlL,nlA,BN]) (by simp)) (wkQ [(0,0),(1,1)])) ?_);clear h;intro k27 s27 c27 h hk27;refine Q0 (Q0 (runQ hN λK hK=>?_));simp;repeat refine sdQ ?_
  refine hK _ ?_;clear hK K;refine tn (Q6 rfl (λg=>?_) λg=>?_)
  ·have g28:s27.2<(spans_.length:Int):=gQ;clear g;replace h:=if_l g28 h;refine Q7 (tn (Q0 ?_));replace⟨e29,h,h29⟩:=bind_some h;refine Qc (λb29:List (List Int)=>⟨YM w_ spans_ [(7,.own 1 0 b29.length),(8,iV s27.2)],Y6 c_ [(1,.row 1 (Ls b29))],2⟩) (λb29=>b29=e29) ?_ ?_
   ·refine Q5 (Q0 (runQ hN λK hK=>?_));simp;(repeat refine sdQ ?_);refine hK _ (tn (Q4 (st':=⟨YM w_ spans_ [(7,.own 1 0 s27.1.length),(8,iV s27.2),(9,iV 0)],Y6 c_ [(1,.row 1 (Ls s27.1))],2⟩) (wkQ [(0,0),(1,1)]) (Q5 ?_)));clear hK K;replace⟨e38,he38,h38⟩:=bind_some h;refine Qm he38 (λs38:List (List Int)×Int=>⟨YM w_ spans_ [(7,.own 1 0 s38.1.length),(8,iV s27.2),(9,iV s38.2)],Y6 c_ [(1,.row 1 (Ls s38.1))],2⟩) (wkQ [(0,0),(1,1)]) ?_;intro k38 s38 c38 h hk38;refine Q0 (Q0 (runQ hN λK hK=>?_));simp;(repeat refine sdQ ?_);refine hK _ ?_;clear hK K;refine tn (Q6 rfl (λg=>?_) λg=>?_)
    ·have g39:s38.2<s27.2:=gQ;clear g;replace h:=if_l g39 h;refine Q7 (tn (Q0 ?_));replace⟨e40,h,h40⟩:=bind_some h;refine Qc (λb40:List (List Int)=>⟨YM w_ spans_ [(7,.own 1 0 b40.length),(8,iV s27.2),(9,iV s38.2)],Y6 c_ [(1,.row 1 (Ls b40))],2⟩) (λb40=>b40=e40) ?_ ?_
     ·refine Q5 (Q0 (runQ hN λK hK=>?_));replace⟨a41,h⟩:=Q1 h;replace⟨a42,h⟩:=Q1 h;simp[at_L a41,at_L a42];(repeat with_reducible refine sdQ ?_);replace⟨v43,hv43,h⟩:=bind_some h;refine Q3 (Q6V _ _ _ _ v43 hv43) (.cons (.aggL (.cons .val (.cons .lst (.cons .lst (.cons .lst (.cons .lst .nil)))))) (.cons .lst (.cons .lst (.cons .lst .nil)))) ?_;simp[at_L a41,at_L a42];(repeat refine sdQ ?_);refine hK _ ?_;clear hK K;refine tn (Q4 (st':=⟨YM w_ spans_ [(7,.own 1 0 s38.1.length),(8,iV s27.2),(9,iV s38.2),(32,.val (.bool v43))],Y6 c_ [(1,.row 1 (Ls s38.1))],2⟩) (wkQ [(0,0),(1,1)]) (Q6 rfl (λg=>?_) λg=>?_))
      ·have g44:v43=true:=gQ;clear g;replace h:=if_l g44 h;refine runQ hN λK hK=>?_;replace⟨a45,h⟩:=Q1 h;(try simp only[qD,qH,zS]at a45);simp[a45];(repeat refine sdQ ?_);refine hK _ (bn ?_);clear hK K;exact jn (b:=s38.1++[[s38.2,s27.2]]) (yJ h) (wkQ [(0,0),(4,1)])
      have g44:¬(v43=true):=gQ;clear g;replace h:=if_r g44 h;refine Q7 (bn ?_);exact jn (b:=s38.1) (yJ h) (wkQ [(0,0),(1,1)])
     intro b40 hb40;have h:=h40;(try rw[←hb40]at h);clear h40;(try dsimp only at h);refine runQ hN λK hK=>?_;replace⟨a46,h⟩:=Q1 h;simp[Qg a46];(repeat refine sdQ ?_);refine hK _ ?_;clear hK K;cases h;exact rn (s':=(b40,s38.2+1)) hk38 (wkQ [(0,0),(1,1)])
    have g39:¬(s38.2<s27.2):=gQ;clear g;replace h:=if_r g39 h;refine Qj (tx (lx (bh (bn ?_))));cases h;have q:_=e38:=hk38;have h:=h38;rw[←q]at h;clear q;(try dsimp only at h);exact jn (b:=s38.1) (yJ h) (wkQ [(0,0),(1,1)])
   intro b29 hb29;have h:=h29;(try rw[←hb29]at h);clear h29;(try dsimp only at h);refine runQ hN λK hK=>?_;replace⟨a47,h⟩:=Q1 h;simp[Qg a47];(repeat refine sdQ ?_);refine hK _ ?_;clear hK K;cases h;exact rn (s':=(b29,s27.2+1)) hk27 (wkQ [(0,0),(1,1)])
  have g28:¬(s27.2<(spans_.length:Int)):=gQ;clear g;replace h:=if_r g28 h;refine Qj (tx (lx (bh ?_)));cases h;exact jn (b:=s27.1) hk27 (wkQ [(1,0)])
 intro b1 hb1;have h:=h1;try rw[←hb1]at h
 clear h1;try dsimp only at h
 refine Q0 (runQ hN λK hK=>?_);simp;repeat with_reducible refine sdQ ?_
 replace⟨v48,hv48,h⟩:=bind_some h;refine Q3 (Q9T _ _ v48 hv48) (.cons .val (.cons .w .nil)) ?_;simp;repeat refine sdQ ?_
 refine hK _ (tn (Q4 (st':=⟨[(6,.own 0 0 v48.length)],[(0,rI v48)],1⟩) (wkQ [(1,0)]) (Qi ?_)));clear hK K;have hr:=yJ h;rw[←hr];refine⟨_,(.tmp .nil),?_⟩;refine⟨(.one rfl rfl .nil),[lI v48],[0],by simp[BN],by simp,(yN _)⟩
section
attribute [local simp] Qa QD Qo QM Qx
abbrev Tr:=Int×Int×Int
def trwS(t:Tr):List Int:=trw3 t.1 t.2.1 t.2.2
def trwX(t:Tr):X3:=⟨t.1,t.2.1,t.2.2⟩
def tG(T:List Tr)(i:Nat):Tr:=T.getD i (0,0,0)
def RelT(c:Cat)(w:List Int)(s t:Tr):Prop:=RelW c w s.1 s.2.1 s.2.2 t.1 t.2.1 t.2.2
def OkT(c:Cat)(T:List Tr):Prop:=∀t∈T,ArW c t.2.1∧ArW c t.2.2
theorem OkT.at{c:Cat}{T:List Tr}(h:OkT c T){i:Nat}(hi:i<T.length):ArW c (tG T i).2.1∧ArW c (tG T i).2.2:=by
 refine h _ ?_;simp[tG,qB,qF hi]
theorem Q9H{T:List Tr}{i:Nat}(hi:i<T.length):rx (T.map trwS) i=trwS (tG T i):=by
 simp[rx,tG,qB,qF hi]
theorem Q9t{T:List Tr}{i:Nat}(hi:i<T.length):gx (T.map trwX) i=trwX (tG T i):=by
 simp[gx,tG,qB,qF hi]
def pS1(c:Cat)(w:List Int)(T:List Tr)(i j:Nat):List (List Int):=if bo (RelT c w (tG T i) (tG T j))=true then[[(j:Int),(i:Int)]]else[]
def pSp(c:Cat)(w:List Int)(T:List Tr):List (List Int):=catN (λi=>catN (pS1 c w T i) i) T.length
theorem mem_pSp{c:Cat}{w:List Int}{T:List Tr}{p:List Int}:p∈pSp c w T↔∃i j:Nat,i<T.length∧j<i∧RelT c w (tG T i) (tG T j)∧p=[(j:Int),(i:Int)]:=by
 unfold pSp;simp only[mem_catN];constructor
 ·rintro ⟨i,hi,j,hj,hp⟩
  unfold pS1 at hp
  by_cases h:RelT c w (tG T i) (tG T j)
  ·rw[Qu h,if_pos rfl]at hp;exact⟨i,j,hi,hj,h,by simpa using hp⟩
  rw[Qp h]at hp;simp at hp
 rintro ⟨i,j,hi,hj,h,rfl⟩
 exact⟨i,hi,j,hj,by unfold pS1;rw[Qu h];simp⟩
theorem Q9D(c:Cat)(w:List Int)(T:List Tr):Prs T.length (pSp c w T):=λp hp=>by
 obtain⟨i,j,hi,hj,_,rfl⟩:=mem_pSp.1 hp;exact⟨j,i,by omega,hi,rfl⟩
theorem pS_len{c:Cat}{w:List Int}{T:List Tr}{i:Nat}(n:Nat):(catN (pS1 c w T i) n).length≤n:=by
 have:=Q24 (pS1 c w T i) 1 n λj _=>by unfold pS1;split<;>simp
 omega
theorem pSp_len{c:Cat}{w:List Int}{T:List Tr}(n:Nat)(hn:n≤200):(catN (λi=>catN (pS1 c w T i) i) n).length≤40000:=by
 have:=Q24 (λi=>catN (pS1 c w T i) i) 200 n λi hi=>by have:=pS_len (c:=c) (w:=w) (T:=T) (i:=i) i;omega
 have:n*200≤200*200:=xB hn (qE _);omega
theorem Qb2{c:Cat}(hc:c.Is){w:List Int}{T:List Tr}(hT:OkT c T)(hn:T.length≤200):Q1O c w (T.map trwS)=some (cls (RR (pSp c w T)) T.length):=by
 unfold Q1O;have e:∀(B:List (List Int)×Int→Option (Ctl (List (List Int)×Int) (List (List Int)))) (K:List (List Int)→Option (List Int)),Qd B fuel ([],0)=some ([]++pSp c w T)→(Qd B fuel ([],0)).bind K=K (pSp c w T):=λB K h=>by rw[h];rfl
 rw[e _ _ (Q3e [] T.length (λi=>catN (pS1 c w T i) i) (by omega) (λi hi=>?_) λacc=>by simp only[yZ];rw[if_neg (by omega)])]
 ·rw[show((T.map trwS).length:Int)=(T.length:Int) by simp,e_joinG (Q9D c w T) (by omega) (by have:=pSp_len (c:=c) (w:=w) (T:=T) T.length hn;unfold pSp;omega)];rfl
 have la:=pSp_len (c:=c) (w:=w) (T:=T) i (by omega);generalize catN (λi=>catN (pS1 c w T i) i) i=A at la⊢;simp only[List.nil_append,yZ];rw[if_pos (by omega)];rw[show∀(B:List (List Int)×Int→Option (Ctl (List (List Int)×Int) (List (List Int)))) (K:List (List Int)→Option (Ctl (List (List Int)×Int) (List (List Int)))),Qd B fuel (A,0)=some (A++catN (pS1 c w T i) i)→(((Qd B fuel (A,0)).bind λp59=>some p59).bind K)=K (A++catN (pS1 c w T i) i) from λB K h=>by rw[h];rfl]
 ·rw[Q2 (by unfold B64;omega)]
 refine Q3e A i (pS1 c w T i) (by omega) (λj hj=>?_) λacc=>by simp only;rw[if_neg (by omega)]
 have lb:=pS_len (c:=c) (w:=w) (T:=T) (i:=i) j;have lc:(A++catN (pS1 c w T i) j).length≤41000:=by rw[qD];omega
 generalize A++catN (pS1 c w T i) j=D at lc⊢;simp only;have h1:=hT.at hi;have h2:=hT.at (i:=j) (by omega);rw[if_pos (by omega),Q2 (by omega),Q2 (by omega),Q9H hi,Q9H (by omega),show Q1P c w (trwS (tG T i)) (trwS (tG T j))=some (bo (RelT c w (tG T i) (tG T j))) from e_related hc h1.1 h1.2 h2.1 h2.2];simp only[yR];unfold pS1
 by_cases h:RelT c w (tG T i) (tG T j)
 ·rw[Qu h,if_pos rfl,Q2 (by simp only[qD,xA];omega)];simp only[yR,if_true];rw[Q2 (by unfold B64;omega)]
 rw[Qp h,if_neg (by simp)];simp only[yR,zG,if_false,yQ];rw[Q2 (by unfold B64;omega)]
end
section
attribute [local simp] Qa QD Qo QM Qx
def top(cl:List Int):Nat→Int
 |0=>0
 |i+1=>max (top cl i) (ix cl i+1)
theorem top_nn(cl:List Int):∀n,0≤top cl n
 |0=>Int.le_refl _
 |n+1=>by have:=top_nn cl n;simp only[top];omega
theorem top_gt(cl:List Int){i:Nat}:∀{n:Nat},i<n→ix cl i<top cl n
 |0,h=>absurd h (by omega)
 |n+1,h=>by
  simp only[top];rcases zM i n with q|q
  ·have:=top_gt cl q;omega
  have h1:i=n:=by omega
  subst h1;omega
theorem top_le(cl:List Int){m:Int}(hm:0≤m):∀{n:Nat},(∀i:Nat,i<n→ix cl i+1≤m)→top cl n≤m
 |0,_=>hm
 |n+1,h=>by
  have:=top_le cl hm (n:=n) λi hi=>h i (by omega);have:=h n (by omega);simp only[top];omega
end
section
attribute [local simp] Qa QD Qo QM Qx
structure NT(f g:Fn):Prop where
 hf:f.Is
 hg:g.Is
 e:f.t=g.t
end
section
attribute [local simp] Qa QD Qo QM Qx
def joinE(j:List Int)(a b:Int):Option (List Int×Bool):=
 ((Qd (σ:=List Int×Int) (ε:=List Int×Int) (λs64=>
        ass (0≤s64.2∧s64.2<(s64.1.length:Int))<|
        if¬((ix s64.1 s64.2)=s64.2)then
         ass (0≤s64.2∧s64.2<(s64.1.length:Int))<|
         ass (0≤ix s64.1 s64.2∧ix s64.1 s64.2<(s64.1.length:Int))<|
         ass (0≤s64.2∧s64.2<(s64.1.length:Int))<|
         ass (0≤s64.2∧s64.2<((s64.1.set s64.2.toNat (ix s64.1 (ix s64.1 s64.2))).length:Int))<|
         some (yM (s64.1.set s64.2.toNat (ix s64.1 (ix s64.1 s64.2)),ix (s64.1.set s64.2.toNat (ix s64.1 (ix s64.1 s64.2))) s64.2))
        else
         some (yK (s64.1,s64.2))) fuel (j,a)).bind λb388=>
           some (b388.1,b388.2):Option (List Int×Int)).bind λv403=>
 ass (v403.1.length=j.length)<|
 ((Qd (σ:=List Int×Int) (ε:=List Int×Int) (λs64=>
        ass (0≤s64.2∧s64.2<(s64.1.length:Int))<|
        if¬((ix s64.1 s64.2)=s64.2)then
         ass (0≤s64.2∧s64.2<(s64.1.length:Int))<|
         ass (0≤ix s64.1 s64.2∧ix s64.1 s64.2<(s64.1.length:Int))<|
         ass (0≤s64.2∧s64.2<(s64.1.length:Int))<|
         ass (0≤s64.2∧s64.2<((s64.1.set s64.2.toNat (ix s64.1 (ix s64.1 s64.2))).length:Int))<|
         some (yM (s64.1.set s64.2.toNat (ix s64.1 (ix s64.1 s64.2)),ix (s64.1.set s64.2.toNat (ix s64.1 (ix s64.1 s64.2))) s64.2))
        else
         some (yK (s64.1,s64.2))) fuel (v403.1,b)).bind λb406=>
           some (b406.1,b406.2):Option (List Int×Int)).bind λv421=>
 ass (v421.1.length=v403.1.length)<|
 ass (0≤(if v421.2>v403.2 then v421.2 else v403.2)∧(if v421.2>v403.2 then v421.2 else v403.2)<(v421.1.length:Int))<|
 some (v421.1.set ((if v421.2>v403.2 then v421.2 else v403.2).toNat) (if v421.2<v403.2 then v421.2 else v403.2),v403.2 !=v421.2)
theorem join_go{j:List Int}{r:Nat→Nat}{n a b:Nat}(h:UF j r n)(ha:a<n)(hb:b<n)(hn:n≤1000000):∃j' d,joinE j a b=some (j',d)∧UF j' (jnr r a b) n:=by
 obtain⟨j1,e1,w1⟩:=Q9F a j fuel h ha (by unfold fuel;omega);obtain⟨j2,e2,w2⟩:=Q9F b j1 fuel w1 hb (by unfold fuel;omega);have l0:=h.len;have l1:=w1.len;have l2:=w2.len;have ra:=h.le a ha;have rb:=h.le b hb;have u:=w2.jn ha hb;refine⟨_,(r a:Int)!=(r b:Int),?_,u⟩;unfold joinE;rw[e1];simp only[yR];rw[Q2 (by omega),e2];simp only[yR];have m1:(if(r b:Int)>(r a:Int)then(r b:Int)else(r a:Int))=((max (r a) (r b):Nat):Int):=by split<;>omega
 have m2:(if(r b:Int)<(r a:Int)then(r b:Int)else(r a:Int))=((min (r a) (r b):Nat):Int):=by split<;>omega
 rw[Q2 (by omega),m1,m2,Q2 (by omega)];rfl
theorem RR_add{P:List (List Int)}{p:List Int}{a b:Nat}(e:p=[(a:Int),(b:Int)]):RR (P++[p])=jnr (RR P) a b:=by
 rw[RR_snoc,e];rfl
end
section
attribute [local simp] Qa QD Qo QM Qx
inductive Con(P:List (List Int)):Nat→Nat→Prop
 |pr {a b:Nat}:[(a:Int),(b:Int)]∈P→Con P a b
 |refl (a:Nat):Con P a a
 |symm {a b:Nat}:Con P a b→Con P b a
 |trans {a b c:Nat}:Con P a b→Con P b c→Con P a c
theorem Con.mono{P Q:List (List Int)}(h:∀a b:Nat,[(a:Int),(b:Int)]∈P→Con Q a b){a b:Nat}(c:Con P a b):Con Q a b:=by
 induction c with
 |pr hm=>exact h _ _ hm
 |refl a=>exact .refl a
 |symm _ ih=>exact .symm ih
 |trans _ _ i1 i2=>exact .trans i1 i2
theorem jnr_ker{r:Nat→Nat}{a b x y:Nat}:jnr r a b x=jnr r a b y↔(r x=r y∨(r x=r a∧r y=r b)∨(r x=r b∧r y=r a)):=by
 unfold jnr;split<;>split<;>omega
theorem RR_con{n:Nat}{P:List (List Int)}(h:Prs n P):∀k,k≤P.length→∀x y:Nat,(RR (P.take k) x=RR (P.take k) y↔Con (P.take k) x y):=by
 intro k
 induction k with
 |zero=>
  intro _ x y;have e:∀x y:Nat,Con (P.take 0) x y→x=y:=by
   intro x y c
   induction c with
   |pr hm=>simp at hm
   |refl a=>rfl
   |symm _ ih=>exact ih.symm
   |trans _ _ i1 i2=>exact i1.trans i2
  simp only[List.take_zero]at e⊢;exact⟨λq=>by
   have q':x=y:=q;rw[q'];exact .refl _,λc=>by rw[e x y c]⟩
 |succ k ih=>
  intro hk x y;obtain⟨a,b,ha,hb,e⟩:=h.at (i:=k) (by omega);have i:=ih (by omega);have m:P.take (k+1)=P.take k++[[(a:Int),(b:Int)]]:=by rw[List.take_succ_eq_append_getElem (by omega),e]
  have up:∀{u v:Nat},Con (P.take k) u v→Con (P.take (k+1)) u v:=λc=>c.mono λu v hm=>.pr (by rw[m];exact List.mem_append_left _ hm);have ab:Con (P.take (k+1)) a b:=.pr (by rw[m];simp);rw[Q9f (by omega) e,jnr_ker];constructor
  ·rintro (q|⟨q1,q2⟩|⟨q1,q2⟩)
   ·exact up ((i x y).1 q)
   ·exact .trans (up ((i _ _).1 q1)) (.trans ab (.symm (up ((i _ _).1 q2))))
   exact .trans (up ((i _ _).1 q1)) (.trans (.symm ab) (.symm (up ((i _ _).1 q2))))
  intro c;rw[←jnr_ker]
  induction c with
  |@pr u v hm=>
   rw[m]at hm;rcases List.mem_append.1 hm with q|q
   ·exact jnr_ker.2 (.inl ((i _ _).2 (.pr q)))
   simp only[zI,qS,and_true]at q;have q1:u=a:=(by omega);have q2:v=b:=(by omega);subst q1;subst q2;exact jnr_ker.2 (.inr (.inl ⟨rfl,rfl⟩))
  |refl a=>rfl
  |symm _ ih=>exact ih.symm
  |trans _ _ i1 i2=>exact i1.trans i2
theorem Qa1{n:Nat}{P:List (List Int)}(h:Prs n P)(x y:Nat):RR P x=RR P y↔Con P x y:=by
 have:=RR_con h P.length (qE _) x y
 rwa[List.take_length]at this
theorem RR_same{n:Nat}{P Q:List (List Int)}(hP:Prs n P)(hQ:Prs n Q)(pq:∀a b:Nat,[(a:Int),(b:Int)]∈P→Con Q a b)(qp:∀a b:Nat,[(a:Int),(b:Int)]∈Q→Con P a b){x:Nat}(hx:x<n):RR P x=RR Q x:=by
 have h1:=RR_ok hP;have h2:=RR_ok hQ;have c1:Con Q (RR P x) x:=((Qa1 hP _ _).1 (h1 x hx).2).mono pq;have c2:Con P (RR Q x) x:=((Qa1 hQ _ _).1 (h2 x hx).2).mono qp;have e1:=(Qa1 hQ _ _).2 c1;have e2:=(Qa1 hP _ _).2 c2;have l1:=(h2 (RR P x) (by have:=(h1 x hx).1;omega)).1;have l2:=(h1 (RR Q x) (by have:=(h2 x hx).1;omega)).1;omega
theorem cn_congr{r r':Nat→Nat}{k:Nat}(h:∀y,y<k→r y=r' y):cn r k=cn r' k:=by
 induction k with
 |zero=>rfl
 |succ k ih=>
  have e:=h k (by omega);have i:=ih λy hy=>h y (by omega)
  by_cases q:r k=k
  ·rw[cn_pos q,cn_pos (by rw[←e];exact q),i]
  rw[cn_neg q,cn_neg (by rw[←e];exact q),i]
theorem cls_congr{r r':Nat→Nat}{n:Nat}(h:∀x,x<n→r x=r' x)(hl:∀x,x<n→r x≤x):cls r n=cls r' n:=by
 unfold cls;refine Q51 λx hx=>?_;rw[←h x hx,cn_congr (r:=r) (r':=r') λy hy=>h y (by have:=hl x hx;omega)]
end
section
attribute [local simp] Qa QD Qo QM Qx
def KeyA(c:Cat)(w:List Int)(t:Tr)(a:Int)(κ:X3):Prop:=ix (rx c.cs a) t.2.1∈w∧κ=⟨ix c.fr a,ix (rx c.cs a) t.2.1,ix (rx c.cs a) t.2.2⟩
def inL(c:Cat)(x:Int):List Int:=flt c.fr.length λa:Nat=>ix c.to a=x
theorem inL_len(c:Cat)(x:Int):(inL c x).length≤c.fr.length:=Q2q _ _
theorem inL_at{c:Cat}{x:Int}{e:Nat}(he:e<(inL c x).length):ArW c (ix (inL c x) e)∧ix c.to (ix (inL c x) e)=x:=by
 obtain⟨k,k1,k2,k3⟩:=Q68 (p:=λa:Nat=>ix c.to a=x) he;have k3':ix (inL c x) e=(k:Int):=k3;rw[k3'];exact⟨⟨by omega,by omega⟩,k2⟩
def HasK(c:Cat)(w:List Int)(t:Tr)(κ:X3):Prop:=KeyW c w t.1 t.2.1 t.2.2 κ.a_ κ.b_ κ.c_
theorem hasK_iff{c:Cat}{w:List Int}{t:Tr}{κ:X3}:HasK c w t κ↔∃e:Nat,e<(inL c t.1).length∧KeyA c w t (ix (inL c t.1) e) κ:=by
 constructor
 ·rintro ⟨a,a1,a2,a3,a4⟩
  obtain⟨k,rfl⟩:=yU a1.1.1;have:(k:Int)∈inL c t.1:=mem_flt.2 ⟨k,by have:=a1.1.2;omega,a1.2.2,rfl⟩;obtain⟨e,he,q⟩:=zX this;refine⟨e,he,?_⟩;rw[←Q16 _ _ he,q];obtain⟨κa,κb,κc⟩:=κ;simp only at a1 a2 a3 a4;exact⟨by rw[a2];exact a3,by rw[a2,a4,a1.2.1]⟩
 rintro ⟨e,he,k1,rfl⟩
 obtain⟨q1,q2⟩:=inL_at he;exact⟨_,⟨q1,rfl,q2⟩,rfl,k1,rfl⟩
theorem relT_iff{c:Cat}{w:List Int}{s t:Tr}:RelT c w s t↔∃κ,HasK c w s κ∧HasK c w t κ:=
 ⟨λ⟨a,b,d,h1,h2⟩=>⟨⟨a,b,d⟩,h1,h2⟩,λ⟨κ,h1,h2⟩=>⟨κ.a_,κ.b_,κ.c_,h1,h2⟩⟩
def SpT(c:Cat)(w:List Int)(x y:Int)(T:List Tr):Prop:=∀t∈T,Ar c t.2.1 t.1 x∧t.2.1∈w∧Ar c t.2.2 t.1 y
theorem SpT.at{c:Cat}{w:List Int}{x y:Int}{T:List Tr}(h:SpT c w x y T){i:Nat}(hi:i<T.length):Ar c (tG T i).2.1 (tG T i).1 x∧(tG T i).2.1∈w∧Ar c (tG T i).2.2 (tG T i).1 y:=by
 refine h _ ?_;simp[tG,qB,qF hi]
structure EvI(c:Cat)(w:List Int)(T:List Tr)(i k:Nat)(P:List (List Int))(M:List (X3×Int)):Prop where
 prs:Prs T.length P
 mp:∀κ z,QO κ M=some z→∃k':Nat,z=(k':Int)∧k'<T.length∧HasK c w (tG T k') κ
 snd:∀a b:Nat,[(a:Int),(b:Int)]∈P→RelT c w (tG T a) (tG T b)
 all:∀(i':Nat) (κ:X3),(i'<i∧HasK c w (tG T i') κ)∨(i'=i∧∃e:Nat,e<k∧KeyA c w (tG T i) (ix (inL c (tG T i).1) e) κ)→∃k':Nat,QO κ M=some (k':Int)∧Con P k' i'
 len:M.length≤i*40+k
theorem EvI.start(c:Cat)(w:List Int)(T:List Tr):EvI c w T 0 0 [] []:=
 ⟨λp hp=>by simp at hp,fun κ z h=>by simp[QO]at h,λa b h=>by simp at h,λi' κ h=>by
  rcases h with⟨h,_⟩|⟨_,e,h,_⟩<;>omega,by simp⟩
theorem EvI.row{c:Cat}{w:List Int}{T:List Tr}{i:Nat}{P:List (List Int)}{M:List (X3×Int)}(hc:c.Is)(h:EvI c w T i (inL c (tG T i).1).length P M):EvI c w T (i+1) 0 P M:=by
 refine⟨h.prs,h.mp,h.snd,λi' κ q=>?_,?_⟩
 ·rcases q with⟨q1,q2⟩|⟨_,e,q1,_⟩
  ·rcases zM i' i with d|d
   ·exact h.all i' κ (.inl ⟨d,q2⟩)
   have:i'=i:=(by omega);subst this;exact h.all i' κ (.inr ⟨rfl,hasK_iff.1 q2⟩)
  omega
 have:=h.len;have:=inL_len c (tG T i).1;have:=hc.nums;rw[Nat.add_mul];omega
theorem EvI.skip{c:Cat}{w:List Int}{T:List Tr}{i k:Nat}{P:List (List Int)}{M:List (X3×Int)}(h:EvI c w T i k P M)(hk:¬ix (rx c.cs (ix (inL c (tG T i).1) k)) (tG T i).2.1∈w):EvI c w T i (k+1) P M:=by
 refine⟨h.prs,h.mp,h.snd,λi' κ q=>?_,by have:=h.len;omega⟩;rcases q with q|⟨rfl,e,q1,q2⟩
 ·exact h.all i' κ (.inl q)
 rcases zM e k with d|d
 ·exact h.all i' κ (.inr ⟨rfl,e,d,q2⟩)
 have:e=k:=by omega
 subst this;exact absurd q2.1 hk
theorem EvI.join{c:Cat}{w:List Int}{T:List Tr}{i k z:Nat}{P:List (List Int)}{M:List (X3×Int)}{κ:X3}(hi:i<T.length)(h:EvI c w T i k P M)(hk:k<(inL c (tG T i).1).length)(hκ:KeyA c w (tG T i) (ix (inL c (tG T i).1) k) κ)(hz:QO κ M=some (z:Int))(hzl:z<T.length):
  EvI c w T i (k+1) (P++[[(z:Int),(i:Int)]]) M:=by
 have up:∀{a b:Nat},Con P a b→Con (P++[[(z:Int),(i:Int)]]) a b:=λq=>q.mono λa b hm=>.pr (List.mem_append_left _ hm);have hik:HasK c w (tG T i) κ:=hasK_iff.2 ⟨k,hk,hκ⟩;refine⟨λp hp=>?_,h.mp,λa b hm=>?_,λi' κ' q=>?_,by have:=h.len;omega⟩
 ·rcases List.mem_append.1 hp with hp|hp
  ·exact h.prs p hp
  simp only[zI]at hp;exact⟨z,i,hzl,hi,hp⟩
 ·rcases List.mem_append.1 hm with hm|hm
  ·exact h.snd a b hm
  simp only[zI,qS,and_true]at hm;have e1:a=z:=by omega
  have e2:b=i:=by omega
  subst e1;subst e2;obtain⟨k',q1,_,q3⟩:=h.mp κ _ hz;have:k'=a:=by omega
  subst this;exact relT_iff.2 ⟨κ,q3,hik⟩
 rcases q with q|⟨rfl,e,q1,q2⟩
 ·obtain⟨k',r1,r2⟩:=h.all i' κ' (.inl q);exact⟨k',r1,up r2⟩
 rcases zM e k with d|d
 ·obtain⟨k',r1,r2⟩:=h.all i' κ' (.inr ⟨rfl,e,d,q2⟩);exact⟨k',r1,up r2⟩
 have:e=k:=by omega
 subst this;have:κ'=κ:=q2.2.trans hκ.2.symm;subst this;exact⟨z,hz,.pr (by simp)⟩
theorem EvI.new{c:Cat}{w:List Int}{T:List Tr}{i k:Nat}{P:List (List Int)}{M:List (X3×Int)}{κ:X3}(hi:i<T.length)(h:EvI c w T i k P M)(hk:k<(inL c (tG T i).1).length)(hκ:KeyA c w (tG T i) (ix (inL c (tG T i).1) k) κ)(hz:QO κ M=none):
  EvI c w T i (k+1) P (tset κ (i:Int) M):=by
 have hik:HasK c w (tG T i) κ:=hasK_iff.2 ⟨k,hk,hκ⟩;refine⟨h.prs,fun κ' z q=>?_,h.snd,λi' κ' q=>?_,by rw[QaS _ _ _ hz];have:=h.len;omega⟩
 ·rw[Q28]at q;split at q
  ·rename_i e;cases q;subst e;exact⟨i,rfl,hi,hik⟩
  exact h.mp κ' z q
 have old:∀k':Nat,QO κ' M=some (k':Int)→QO κ' (tset κ (i:Int) M)=some (k':Int):=by
  intro k' q;rw[Q28,if_neg (by rintro rfl;rw[hz]at q;cases q)];exact q
 rcases q with q|⟨rfl,e,q1,q2⟩
 ·obtain⟨k',r1,r2⟩:=h.all i' κ' (.inl q);exact⟨k',old k' r1,r2⟩
 rcases zM e k with d|d
 ·obtain⟨k',r1,r2⟩:=h.all i' κ' (.inr ⟨rfl,e,d,q2⟩);exact⟨k',old k' r1,r2⟩
 have:e=k:=by omega
 subst this;have:κ'=κ:=q2.2.trans hκ.2.symm;subst this;exact⟨i',by rw[Q28,if_pos rfl],.refl _⟩
theorem EvI.con{c:Cat}{w:List Int}{T:List Tr}{P:List (List Int)}{M:List (X3×Int)}(h:EvI c w T T.length 0 P M)(x y:Nat):Con P x y↔Con (pSp c w T) x y:=by
 have sym:∀{s t:Tr},RelT c w s t→RelT c w t s:=λq=>by obtain⟨κ,a,b⟩:=relT_iff.1 q;exact relT_iff.2 ⟨κ,b,a⟩
 constructor
 ·refine λq=>q.mono λa b hm=>?_;obtain⟨a',b',ha,hb,e⟩:=h.prs _ hm;simp only[qS,and_true]at e;have e1:a=a':=by omega
  have e2:b=b':=by omega
  subst e1;subst e2;have r:=h.snd a b hm;rcases Nat.lt_trichotomy a b with d|d|d
  ·exact .pr (mem_pSp.2 ⟨b,a,hb,d,sym r,rfl⟩)
  ·subst d;exact .refl _
  exact .symm (.pr (mem_pSp.2 ⟨a,b,ha,d,r,rfl⟩))
 refine λq=>q.mono λa b hm=>?_;obtain⟨i,j,hi,hj,r,e⟩:=mem_pSp.1 hm;simp only[qS,and_true]at e;have e1:a=j:=by omega
 have e2:b=i:=by omega
 subst e1;subst e2;obtain⟨κ,k1,k2⟩:=relT_iff.1 r;obtain⟨z,z1,z2⟩:=h.all b κ (.inl ⟨hi,k1⟩);obtain⟨z',z1',z2'⟩:=h.all a κ (.inl ⟨by omega,k2⟩);have:z=z':=by rw[z1]at z1';cases z1';rfl
 subst this;exact .trans (.symm z2') z2
end
attribute [local simp] unk unA unE unT unC flat eL eI Qh
def Q3j(n_:Int):Option (List Int):=
 (Q2v n_).bind λv1=>
 some v1
theorem Q97(n_:Int)(r:List Int)(h:Q3j n_=some r):Contract Tryz.prog 93 [iV n_] (lI r):=by
 refine Q9 (rvs:=[.tmp 2]) (rs:=[lI r]) Tryz.func93 rfl rfl rfl rfl (by simp[Tryz.f93]) λF hN hP=>?_;unfold Q3j at h;refine Q0 (runQ hN λK hK=>?_);simp;repeat refine sdQ ?_
 refine hK _ ?_;clear hK K;refine tn (Q4 (st':=⟨[(0,iV n_)],[],0⟩) (wkQ []) (Q0 (runQ hN λK hK=>?_)));simp;repeat with_reducible refine sdQ ?_
 replace⟨v1,hv1,h⟩:=bind_some h;refine Q3 (Q6A _ v1 hv1) (.cons .val .nil) ?_;simp;repeat refine sdQ ?_
 refine hK _ (tn (Q4 (st':=⟨[(2,.own 0 0 v1.length)],[(0,rI v1)],1⟩) (wkQ [(0,0)]) (Qi ?_)));clear hK K;have hr:=yJ h;rw[←hr];refine⟨_,(.tmp .nil),?_⟩;refine⟨(.one rfl rfl .nil),[lI v1],[0],by simp[BN],by simp,(yN _)⟩
attribute [local simp] unk unA unE unT unC flat eL eI Qh QI Qz Q13 Cat.cells XD.cells X3.cells
def QB(w_:XD)(spans_:List X3):Option (List Int):=
 (Q3j (spans_.length:Int)).bind λv1=>
 (Qd (σ:=List Int×Te×Int) (ε:=List Int) (λs111=>
  if s111.2.2<(spans_.length:Int)then
   (
    ass (0≤s111.2.2∧s111.2.2<(spans_.length:Int))<|
    (Q1a w_.c_ ((gx spans_ s111.2.2).a_)).bind λv115=>
    (Qd (σ:=List Int×Te×Int) (ε:=List Int×Te) (λs167=>
     if s167.2.2<(v115.length:Int)then
      (
       ass (0≤s167.2.2∧s167.2.2<(v115.length:Int))<|
       (Qn w_.c_ (ix v115 s167.2.2) ((gx spans_ s111.2.2).b_)).bind λv171=>
       ass (0≤v171∧v171<(w_.there_.length:Int))<|
       if¬((gx w_.there_ v171)=true)then
        some (s167.1,s167.2.1)
       else
        ass (0≤ix v115 s167.2.2∧ix v115 s167.2.2<(w_.c_.fr.length:Int))<|
        (Qn w_.c_ (ix v115 s167.2.2) ((gx spans_ s111.2.2).c_)).bind λv175=>
        if((QO (⟨ix w_.c_.fr (ix v115 s167.2.2),v171,v175⟩:X3) s167.2.1).isSome)=true then
         (
          (
           (Qd (σ:=List Int×Int) (ε:=List Int×Int) (λs187=>
            ass (0≤s187.2∧s187.2<(s187.1.length:Int))<|
            if¬((ix s187.1 s187.2)=s187.2)then
             ass (0≤s187.2∧s187.2<(s187.1.length:Int))<|
             ass (0≤ix s187.1 s187.2∧ix s187.1 s187.2<(s187.1.length:Int))<|
             ass (0≤s187.2∧s187.2<(s187.1.length:Int))<|
             ass (0≤s187.2∧s187.2<((s187.1.set s187.2.toNat (ix s187.1 (ix s187.1 s187.2))).length:Int))<|
             some (yM (s187.1.set s187.2.toNat (ix s187.1 (ix s187.1 s187.2)),ix (s187.1.set s187.2.toNat (ix s187.1 (ix s187.1 s187.2))) s187.2))
            else
             some (yK (s187.1,s187.2))) fuel (s167.1,(QO (⟨ix w_.c_.fr (ix v115 s167.2.2),v171,v175⟩:X3) s167.2.1).getD 0)).bind λb179=>
           some (b179.1,b179.2):Option (List Int×Int)).bind λv194=>
          ass (v194.1.length=s167.1.length)<|
          (
           (Qd (σ:=List Int×Int) (ε:=List Int×Int) (λs205=>
            ass (0≤s205.2∧s205.2<(s205.1.length:Int))<|
            if¬((ix s205.1 s205.2)=s205.2)then
             ass (0≤s205.2∧s205.2<(s205.1.length:Int))<|
             ass (0≤ix s205.1 s205.2∧ix s205.1 s205.2<(s205.1.length:Int))<|
             ass (0≤s205.2∧s205.2<(s205.1.length:Int))<|
             ass (0≤s205.2∧s205.2<((s205.1.set s205.2.toNat (ix s205.1 (ix s205.1 s205.2))).length:Int))<|
             some (yM (s205.1.set s205.2.toNat (ix s205.1 (ix s205.1 s205.2)),ix (s205.1.set s205.2.toNat (ix s205.1 (ix s205.1 s205.2))) s205.2))
            else
             some (yK (s205.1,s205.2))) fuel (v194.1,s111.2.2)).bind λb197=>
           some (b197.1,b197.2):Option (List Int×Int)).bind λv212=>
          ass (v212.1.length=v194.1.length)<|
          ass (0≤(if v212.2>v194.2 then v212.2 else v194.2)∧(if v212.2>v194.2 then v212.2 else v194.2)<(v212.1.length:Int))<|
          some (v212.1.set ((if v212.2>v194.2 then v212.2 else v194.2).toNat) (if v212.2<v194.2 then v212.2 else v194.2),v194.2 !=v212.2):Option (List Int×Bool)).bind λv215=>
         ass (v215.1.length=s167.1.length)<|
         some (v215.1,s167.2.1)
        else
         ass (s167.2.1.length<1099511627776)<|
         some (s167.1,tset (⟨ix w_.c_.fr (ix v115 s167.2.2),v171,v175⟩:X3) s111.2.2 s167.2.1):Option (List Int×Te)).bind λb169=>
      ass (B64 (s167.2.2+1))<|
      some (yM (b169.1,b169.2,s167.2.2+1))
     else
      some (yK (s167.1,s167.2.1))) fuel (s111.1,s111.2.1,0)).bind λp167=>
    some p167:Option (List Int×Te)).bind λb113=>
   ass (B64 (s111.2.2+1))<|
   some (yM (b113.1,b113.2,s111.2.2+1))
  else
   some (yK s111.1)) fuel (v1,[],0)).bind λb2=>
 (
  ass (0≤(b2.length:Int)∧(b2.length:Int)≤1073741824)<|
  (Qd (σ:=List Int×List Int×Int) (ε:=List Int×List Int) (λs244=>
   if s244.2.2<(b2.length:Int)then
    (
     (Qd (σ:=List Int×Int) (ε:=List Int×Int) (λs255=>
      ass (0≤s255.2∧s255.2<(s255.1.length:Int))<|
      if¬((ix s255.1 s255.2)=s255.2)then
       ass (0≤s255.2∧s255.2<(s255.1.length:Int))<|
       ass (0≤ix s255.1 s255.2∧ix s255.1 s255.2<(s255.1.length:Int))<|
       ass (0≤s255.2∧s255.2<(s255.1.length:Int))<|
       ass (0≤s255.2∧s255.2<((s255.1.set s255.2.toNat (ix s255.1 (ix s255.1 s255.2))).length:Int))<|
       some (yM (s255.1.set s255.2.toNat (ix s255.1 (ix s255.1 s255.2)),ix (s255.1.set s255.2.toNat (ix s255.1 (ix s255.1 s255.2))) s255.2))
      else
       some (yK (s255.1,s255.2))) fuel (s244.1,s244.2.2)).bind λb247=>
     some (b247.1,b247.2):Option (List Int×Int)).bind λv262=>
    ass (v262.1.length=s244.1.length)<|
    ass (0≤s244.2.2∧s244.2.2<(s244.2.1.length:Int))<|
    ass (B64 (s244.2.2+1))<|
    some (yM (v262.1,s244.2.1.set s244.2.2.toNat v262.2,s244.2.2+1))
   else
    some (yK (s244.1,s244.2.1))) fuel (b2,zF ((b2.length:Int).toNat) 0,0)).bind λb222=>
  (Q3y b222.2).bind λv266=>
  some (b222.1,v266):Option (List Int×List Int)).bind λv267=>
 ass (v267.1.length=b2.length)<|
 some v267.2
@[simp] abbrev Y7(a:List Int×Te×Int)(b:List X3)(c:List Int×Te×Int)(d:XD)(e:List Int)(f g:Int)(h:List (Nat×Ent)):List (Nat×Ent):=(1,.mapE (.st 3) (Q8 a.2.1))::(2,.mix 3 [(X3.cells true (gx b c.2.2))])::(3,.mix 3 [[iV (ix d.c_.fr (ix e a.2.2)),iV f,iV g]])::(4,rI e)::h
@[simp] abbrev Yu(a:List X3)(b:List (Nat×AV)):List (Nat×AV):=(19,.lst true 3 (Es (X3.cells true) a))::(20,iV (a.length:Int))::b
@[simp] abbrev Y04(a:List Int×Te×Int)(b:List (Nat×AV)):List (Nat×AV):=(6,.mp 1)::(7,iV a.2.2)::(8,.adr 2 0 0)::b
@[simp] abbrev Y08(a:List Int)(b:List (Nat×AV)):List (Nat×AV):=(32,.own 3 0 a.length)::(33,iV (a.length:Int))::b
@[simp] abbrev Y09(a:List Int×Te×Int)(b:List (Nat×Ent)):List (Nat×Ent):=(0,rI a.1)::(1,.mapE (.st 3) (Q8 a.2.1))::b
@[simp] abbrev Y0m(a:List X3)(b:List Int×Te×Int)(c:List (Nat×Ent)):List (Nat×Ent):=(2,.mix 3 [(X3.cells true (gx a b.2.2))])::c
@[simp] abbrev Y0n(a:List Int×Int)(b:List (Nat×AV)):List (Nat×AV):=(0,.own 0 0 ((a.1.set a.2.toNat (ix a.1 (ix a.1 a.2))).length))::(1,iV a.2)::b
theorem Q3b(w_:XD)(spans_:List X3)(r:List Int)(h:QB w_ spans_=some r):Contract Tryz.prog 64 [.rptr (w_.cells true),.lst true 3 (Es (X3.cells true) spans_)] (lI r):=by
 refine Q9 (rvs:=[.tmp 4]) (rs:=[lI r]) Tryz.func64 rfl rfl rfl rfl (by simp[Tryz.f64]) λF hN hP=>?_;unfold QB at h;refine Q0 (runQ hN λK hK=>?_);simp;repeat refine sdQ ?_
 refine hK _ ?_;clear hK K;refine tn (Q4 (st':=⟨Y0 w_ [(1,.lst true 3 (Es (X3.cells true) spans_))],[],0⟩) (wkQ []) (Q0 (runQ hN λK hK=>?_)));simp;repeat with_reducible refine sdQ ?_
 replace⟨v1,hv1,h⟩:=bind_some h;refine Q3 (Q97 _ v1 hv1) (.cons .val .nil) ?_;simp;repeat refine sdQ ?_
 refine hK _ ?_;clear hK K;refine tn (Q4 (st':=⟨Y0 w_ ((1,.lst true 3 (Es (X3.cells true) spans_))::Y06 v1 []),[(0,rI v1)],1⟩) (wkQ [(0,0)]) (Q0 (rxQ hN λK hK=>?_)));simp;repeat refine sdQ ?_
 refine hK _ ?_;clear hK K;refine tn (Q4 (st':=⟨Y0 w_ ((1,.lst true 3 (Es (X3.cells true) spans_))::Y06 v1 [(6,.mp 1)]),[(0,rI v1),(1,.mapE (.st 3) (Q8 []))],2⟩) (wkQ [(0,0),(1,1)]) (Q0 (Q0 (runQ hN λK hK=>?_))));simp;repeat refine sdQ ?_
 refine hK _ (tn (Q4 (st':=⟨Y0 w_ (Y06 v1 ((6,.mp 1)::Yu spans_ [(21,iV 0)])),[(0,rI v1),(1,.mapE (.st 3) (Q8 []))],2⟩) (wkQ [(0,0),(1,1)]) ?_));clear hK K;replace⟨e2,h,h2⟩:=bind_some h;refine Qc (λb2:List Int=>⟨Y06 b2 [],[(0,rI b2)],1⟩) (λb2=>b2=e2) ?_ ?_
 ·refine Q5 (Qm h (λs111:List Int×Te×Int=>⟨Y0 w_ ((5,.own 0 0 s111.1.length)::(6,.mp 1)::Yu spans_ [(21,iV s111.2.2)]),Y09 s111 [],2⟩) (wkQ [(0,0),(1,1)]) ?_);clear h;intro k111 s111 c111 h hk111;refine Q0 (runQ hN λK hK=>?_);simp;repeat refine sdQ ?_
  refine hK _ ?_;clear hK K;refine tn (Q0 (Q6 rfl (λg=>?_) λg=>?_))
  ·have g112:s111.2.2<(spans_.length:Int):=gQ;clear g;replace h:=if_l g112 h;refine Q7 (tn (Q0 ?_));replace⟨e113,h,h113⟩:=bind_some h;refine Qc (λb113:List Int×Te=>⟨Y0 w_ ((5,.own 0 0 b113.1.length)::(6,.mp 1)::Yu spans_ [(21,iV s111.2.2)]),[(0,rI b113.1),(1,.mapE (.st 3) (Q8 b113.2))],2⟩) (λb113=>b113=e113) ?_ ?_
   ·refine Q5 (Q0 (runQ hN λK hK=>?_));replace⟨a114,h⟩:=Q1 h;simp[at_E (c:=(X3.cells true)) a114];(repeat refine sdQ ?_);refine hK _ ?_;clear hK K;refine tn (Q4 (st':=⟨Y0 w_ ((5,.own 0 0 s111.1.length)::Y04 s111 (Yu spans_ [(21,iV s111.2.2)])),Y09 s111 (Y0m spans_ s111 []),3⟩) (wkI 3) (Q0 (runQ hN λK hK=>?_)));simp;(repeat with_reducible refine sdQ ?_);replace⟨v115,hv115,h⟩:=bind_some h;refine Q3 (Q3F _ _ v115 hv115) (.cons (.preT (by simp[CN])) (.cons .val .nil)) ?_;simp;(repeat refine sdQ ?_);refine hK _ (tn (Q4 (st':=⟨Y0 w_ ((5,.own 0 0 s111.1.length)::Y04 s111 (Yu spans_ ((21,iV s111.2.2)::Y08 v115 [(34,iV 0)]))),Y09 s111 (Y0m spans_ s111 [(3,rI v115)]),4⟩) (wkI 4) (Q5 ?_)));clear hK K;replace⟨e167,he167,h167⟩:=bind_some h;refine Qm he167 (λs167:List Int×Te×Int=>⟨Y0 w_ ((5,.own 0 0 s167.1.length)::Y04 s111 (Yu spans_ ((21,iV s111.2.2)::Y08 v115 [(34,iV s167.2.2)]))),Y09 s167 (Y0m spans_ s111 [(3,rI v115)]),4⟩) (wkI 4) ?_;intro k167 s167 c167 h hk167;refine Q0 (runQ hN λK hK=>?_);simp;(repeat refine sdQ ?_);refine hK _ ?_;clear hK K;refine tn (Q0 (Q6 rfl (λg=>?_) λg=>?_))
    ·have g168:s167.2.2<(v115.length:Int):=gQ;clear g;replace h:=if_l g168 h;refine Q7 (tn (Q0 ?_));replace⟨e169,h,h169⟩:=bind_some h;refine Qc (λb169:List Int×Te=>⟨Y0 w_ ((5,.own 0 0 b169.1.length)::Y04 s111 (Yu spans_ ((21,iV s111.2.2)::Y08 v115 [(34,iV s167.2.2)]))),(0,rI b169.1)::(1,.mapE (.st 3) (Q8 b169.2))::Y0m spans_ s111 [(3,rI v115)],4⟩) (λb169=>b169=e169) ?_ ?_
     ·refine Q5 (Q0 (runQ hN λK hK=>?_));replace⟨a170,h⟩:=Q1 h;simp[at_I a170];(repeat refine sdQ ?_);refine hK _ ?_;clear hK K;refine tn (Q4 (st':=⟨Y0 w_ ((5,.own 0 0 s167.1.length)::Y04 s111 ((10,iV (ix v115 s167.2.2))::Yu spans_ ((21,iV s111.2.2)::Y08 v115 [(34,iV s167.2.2)]))),Y09 s167 (Y0m spans_ s111 [(3,rI v115)]),4⟩) (wkI 4) (Q0 (runQ hN λK hK=>?_)));simp;(repeat with_reducible refine sdQ ?_);replace⟨v171,hv171,h⟩:=bind_some h;refine Q3 (QF _ _ _ v171 hv171) (.cons (.preT (by simp[CN])) (.cons .val (.cons .val .nil))) ?_;simp;(repeat refine sdQ ?_);refine hK _ ?_;clear hK K;refine tn (Q4 (st':=⟨Y0 w_ ((5,.own 0 0 s167.1.length)::Y04 s111 ((10,iV (ix v115 s167.2.2))::(11,iV v171)::Yu spans_ ((21,iV s111.2.2)::Y08 v115 [(34,iV s167.2.2)]))),Y09 s167 (Y0m spans_ s111 [(3,rI v115)]),4⟩) (wkI 4) (Q0 (Q0 (runQ hN λK hK=>?_))));replace⟨a172,h⟩:=Q1 h;simp[at_B a172];(repeat refine sdQ ?_);refine hK _ ?_;clear hK K;refine tn (Q6 rfl (λg=>?_) λg=>?_)
      ·have g173:¬((gx w_.there_ v171)=true):=gQ;clear g;replace h:=if_l g173 h;refine Qj (tx (bh ?_));exact jn (b:=(s167.1,s167.2.1)) (yJ h) (wkI 4)
      have g173:¬(¬((gx w_.there_ v171)=true)):=gQ;clear g;replace h:=if_r g173 h;refine Q7 (tn (Q0 (runQ hN λK hK=>?_)));replace⟨a174,h⟩:=Q1 h;simp[at_I a174];(repeat with_reducible refine sdQ ?_);replace⟨v175,hv175,h⟩:=bind_some h;refine Q3 (QF _ _ _ v175 hv175) (.cons (.preT (by simp[CN])) (.cons .val (.cons .val .nil))) ?_;simp[at_I a174];(repeat refine sdQ ?_);refine hK _ ?_;clear hK K;refine tn (Q4 (st':=⟨Y0 w_ ((5,.own 0 0 s167.1.length)::Y04 s111 ((12,.adr 3 0 0)::Yu spans_ [(21,iV s111.2.2),(32,.own 4 0 v115.length),(33,iV (v115.length:Int)),(34,iV s167.2.2)])),(0,rI s167.1)::Y7 s167 spans_ s111 w_ v115 v171 v175 [],5⟩) (wkQ [(0,0),(1,1),(2,2),(5,3),(3,4)]) (Q0 (Q0 (rxQ hN λK hK=>?_))));simp;(repeat refine sdQ ?_);refine hK _ ?_;clear hK K;refine tn (Q4 (st':=⟨Y0 w_ ((5,.own 0 0 s167.1.length)::Y04 s111 ((12,.adr 3 0 0)::(13,iV ((QO (⟨ix w_.c_.fr (ix v115 s167.2.2),v171,v175⟩:X3) s167.2.1).getD 0))::(14,.val (.bool ((QO (⟨ix w_.c_.fr (ix v115 s167.2.2),v171,v175⟩:X3) s167.2.1).isSome)))::Yu spans_ [(21,iV s111.2.2),(32,.own 4 0 v115.length),(33,iV (v115.length:Int)),(34,iV s167.2.2)])),(0,rI s167.1)::Y7 s167 spans_ s111 w_ v115 v171 v175 [],5⟩) (wkI 5) (Q0 (runQ hN λK hK=>?_)));simp;(repeat refine sdQ ?_);refine hK _ ?_;clear hK K;refine tn (Q6 rfl (λg=>?_) λg=>?_)
      ·have g176:((QO (⟨ix w_.c_.fr (ix v115 s167.2.2),v171,v175⟩:X3) s167.2.1).isSome)=true:=gQ;clear g;replace h:=if_l g176 h;refine Q0 (Q3W [] mo (by rw[hN];decide) λK hK=>?_);simp;(repeat with_reducible refine sdQ ?_);replace⟨v215,hv215,h⟩:=bind_some h;refine Q2B (fz:=[]) (Q1D (ts:=[6]) (e:={v:=.val (.bool v215.2),set:=[(0,rI v215.1)],del:=[],new:=[],cnt:=0}) Tryz.func95 rfl rfl rfl (by simp[Tryz.f95]) (by simp) (Q4L (by simp)) (newI (by rfl)) λF hN hP=>?_) ?_
       ·clear h;have h:=hv215;clear hv215;refine Q0 (rxQ hN λK hK=>?_);simp;(repeat refine sdQ ?_);refine hK _ ?_;clear hK K;refine tn (Q4 (st':=⟨[(0,.own 0 0 s167.1.length),(1,iV ((QO (⟨ix w_.c_.fr (ix v115 s167.2.2),v171,v175⟩:X3) s167.2.1).getD 0)),(2,iV s111.2.2)],(0,rI s167.1)::Y7 s167 spans_ s111 w_ v115 v171 v175 [],5⟩) (wkJ 5 hP) (Q0 (Q3W [] mo (by rw[hN];decide) λK hK=>?_)));simp;(repeat with_reducible refine sdQ ?_);replace⟨v194,hv194,h⟩:=bind_some h;refine Q2B (fz:=[]) (Q1D (ts:=[4]) (e:={v:=.val (.int .i64 v194.2),set:=[(0,rI v194.1)],del:=[],new:=[],cnt:=0}) Tryz.func105 rfl rfl rfl (by simp[Tryz.f105]) (by simp) (Q4L (by simp)) (newI (by rfl)) λF hN hP=>?_) ?_
        ·clear h;have h:=hv194;clear hv194;refine Q0 (rxQ hN λK hK=>?_);simp;(repeat refine sdQ ?_);refine hK _ (tn (Q4 (st':=⟨[(0,.own 0 0 s167.1.length),(1,iV ((QO (⟨ix w_.c_.fr (ix v115 s167.2.2),v171,v175⟩:X3) s167.2.1).getD 0))],(0,rI s167.1)::Y7 s167 spans_ s111 w_ v115 v171 v175 [],5⟩) (wkJ 5 hP) (Q0 ?_)));clear hK K;replace⟨e179,h,h179⟩:=bind_some h;refine Qc (λb179:List Int×Int=>⟨[(1,iV b179.2)],(0,rI b179.1)::Y7 s167 spans_ s111 w_ v115 v171 v175 [],5⟩) (λb179=>b179=e179) ?_ ?_
         ·refine Q5 (Qm h (λs187:List Int×Int=>⟨[(0,.own 0 0 s187.1.length),(1,iV s187.2)],(0,rI s187.1)::Y7 s167 spans_ s111 w_ v115 v171 v175 [],5⟩) (wkJ 5 hP) ?_);clear h;intro k187 s187 c187 h hk187;refine Q0 (Q0 (rxQ hN λK hK=>?_));replace⟨a188,h⟩:=Q1 h;simp[at_I a188];(repeat refine sdQ ?_);refine hK _ ?_;clear hK K;refine tn (Q6 rfl (λg=>?_) λg=>?_)
          ·have g189:¬((ix s187.1 s187.2)=s187.2):=gQ;clear g;replace h:=if_l g189 h;refine Q7 (tn (Q5 (Q0 (rxQ hN λK hK=>?_))));replace⟨a190,h⟩:=Q1 h;replace⟨a191,h⟩:=Q1 h;replace⟨a192,h⟩:=Q1 h;simp[at_I a190,at_I a191,at_I a192];(repeat refine sdQ ?_);refine hK _ ?_;clear hK K;refine tn (Q4 (st':=⟨Y0n s187 [],(0,rI (s187.1.set s187.2.toNat (ix s187.1 (ix s187.1 s187.2))))::Y7 s167 spans_ s111 w_ v115 v171 v175 [],5⟩) (wkJ 5 hP) (rxQ hN λK hK=>?_));replace⟨a193,h⟩:=Q1 h;simp[at_I a193];(repeat refine sdQ ?_);refine hK _ (bn ?_);clear hK K;cases h;exact rn (s':=(s187.1.set s187.2.toNat (ix s187.1 (ix s187.1 s187.2)),ix (s187.1.set s187.2.toNat (ix s187.1 (ix s187.1 s187.2))) s187.2)) hk187 (wkJ 5 hP)
          have g189:¬(¬((ix s187.1 s187.2)=s187.2)):=gQ;clear g;replace h:=if_r g189 h;refine Qj (tx (lx (bh ?_)));cases h;exact jn (b:=(s187.1,s187.2)) hk187 (wkJ 5 hP)
         intro b179 hb179;have h:=h179;(try rw[←hb179]at h);clear h179;(try dsimp only at h);refine Q0 (rxQ hN λK hK=>?_);simp;(repeat refine sdQ ?_);refine hK _ (tn (Q4 (st':=⟨[(4,iV b179.2)],(0,rI b179.1)::Y7 s167 spans_ s111 w_ v115 v171 v175 [],5⟩) (wkJ 5 hP) (Qi ?_)));clear hK K;cases h;first|refine iw_r (st':=⟨[(4,iV b179.2)],(0,rI b179.1)::Y7 s167 spans_ s111 w_ v115 v171 v175 [],5⟩) ?_ ?_|refine iw_n (st':=⟨[(4,iV b179.2)],(0,rI b179.1)::Y7 s167 spans_ s111 w_ v115 v171 v175 [],5⟩) ?_ ?_
         ·exact wkJ 5 hP
         exact⟨by simp[QU],by simp,by simp[CN]⟩
        replace⟨a195,h⟩:=Q1 h;simp;(repeat with_reducible refine sdQ ?_);replace⟨v212,hv212,h⟩:=bind_some h;refine Q2B (fz:=[]) (Q1D (ts:=[4]) (e:={v:=.val (.int .i64 v212.2),set:=[(0,rI v212.1)],del:=[],new:=[],cnt:=0}) Tryz.func105 rfl rfl rfl (by simp[Tryz.f105]) (by simp) (Q4L (by simp)) (newI (by rfl)) λF hN hP=>?_) ?_
        ·clear h;have h:=hv212;clear hv212;refine Q0 (rxQ hN λK hK=>?_);simp;(repeat refine sdQ ?_);refine hK _ (tn (Q4 (st':=⟨[(0,.own 0 0 v194.1.length),(1,iV s111.2.2)],(0,rI v194.1)::Y7 s167 spans_ s111 w_ v115 v171 v175 [],5⟩) (Wk.rP _ [(0,0),(1,1),(2,2),(3,3),(4,4)] hP (by rfl) (by simp[hhOk,back,a195,BN])) (Q0 ?_)));clear hK K;replace⟨e197,h,h197⟩:=bind_some h;refine Qc (λb197:List Int×Int=>⟨[(1,iV b197.2)],(0,rI b197.1)::Y7 s167 spans_ s111 w_ v115 v171 v175 [],5⟩) (λb197=>b197=e197) ?_ ?_
         ·refine Q5 (Qm h (λs205:List Int×Int=>⟨[(0,.own 0 0 s205.1.length),(1,iV s205.2)],(0,rI s205.1)::Y7 s167 spans_ s111 w_ v115 v171 v175 [],5⟩) (Wk.rP _ [(0,0),(1,1),(2,2),(3,3),(4,4)] hP (by rfl) (by simp[hhOk,back,a195,BN])) ?_);clear h;intro k205 s205 c205 h hk205;refine Q0 (Q0 (rxQ hN λK hK=>?_));replace⟨a206,h⟩:=Q1 h;simp[at_I a206];(repeat refine sdQ ?_);refine hK _ ?_;clear hK K;refine tn (Q6 rfl (λg=>?_) λg=>?_)
          ·have g207:¬((ix s205.1 s205.2)=s205.2):=gQ;clear g;replace h:=if_l g207 h;refine Q7 (tn (Q5 (Q0 (rxQ hN λK hK=>?_))));replace⟨a208,h⟩:=Q1 h;replace⟨a209,h⟩:=Q1 h;replace⟨a210,h⟩:=Q1 h;simp[at_I a208,at_I a209,at_I a210];(repeat refine sdQ ?_);refine hK _ ?_;clear hK K;refine tn (Q4 (st':=⟨Y0n s205 [],(0,rI (s205.1.set s205.2.toNat (ix s205.1 (ix s205.1 s205.2))))::Y7 s167 spans_ s111 w_ v115 v171 v175 [],5⟩) (Wk.rP _ [(0,0),(1,1),(2,2),(3,3),(4,4)] hP (by rfl) (by simp[hhOk,back,a195,BN])) (rxQ hN λK hK=>?_));replace⟨a211,h⟩:=Q1 h;simp[at_I a211];(repeat refine sdQ ?_);refine hK _ (bn ?_);clear hK K;cases h;exact rn (s':=(s205.1.set s205.2.toNat (ix s205.1 (ix s205.1 s205.2)),ix (s205.1.set s205.2.toNat (ix s205.1 (ix s205.1 s205.2))) s205.2)) hk205 (Wk.rP _ [(0,0),(1,1),(2,2),(3,3),(4,4)] hP (by rfl) (by simp[hhOk,back,a195,BN]))
          have g207:¬(¬((ix s205.1 s205.2)=s205.2)):=gQ;clear g;replace h:=if_r g207 h;refine Qj (tx (lx (bh ?_)));cases h;exact jn (b:=(s205.1,s205.2)) hk205 (Wk.rP _ [(0,0),(1,1),(2,2),(3,3),(4,4)] hP (by rfl) (by simp[hhOk,back,a195,BN]))
         intro b197 hb197;have h:=h197;(try rw[←hb197]at h);clear h197;(try dsimp only at h);refine Q0 (rxQ hN λK hK=>?_);simp;(repeat refine sdQ ?_);refine hK _ (tn (Q4 (st':=⟨[(4,iV b197.2)],(0,rI b197.1)::Y7 s167 spans_ s111 w_ v115 v171 v175 [],5⟩) (Wk.rP _ [(0,0),(1,1),(2,2),(3,3),(4,4)] hP (by rfl) (by simp[hhOk,back,a195,BN])) (Qi ?_)));clear hK K;cases h;first|refine iw_r (st':=⟨[(4,iV b197.2)],(0,rI b197.1)::Y7 s167 spans_ s111 w_ v115 v171 v175 [],5⟩) ?_ ?_|refine iw_n (st':=⟨[(4,iV b197.2)],(0,rI b197.1)::Y7 s167 spans_ s111 w_ v115 v171 v175 [],5⟩) ?_ ?_
         ·exact Wk.rP _ [(0,0),(1,1),(2,2),(3,3),(4,4)] hP (by rfl) (by simp[hhOk,back,a195,BN])
         exact⟨by simp[QU],by simp,by simp[CN]⟩
        replace⟨a213,h⟩:=Q1 h;simp;(repeat refine sdQ ?_);refine hK _ ?_;clear hK K;refine tn (Q4 (st':=⟨[(0,.own 0 0 v212.1.length),(7,iV v194.2),(8,iV v212.2)],(0,rI v212.1)::Y7 s167 spans_ s111 w_ v115 v171 v175 [],5⟩) (Wk.rP _ [(0,0),(1,1),(2,2),(3,3),(4,4)] hP (by rfl) (by simp[hhOk,back,a195,a213,BN])) (Q0 (rxQ hN λK hK=>?_)));replace⟨a214,h⟩:=Q1 h;simp[at_I a214];(repeat refine sdQ ?_);refine hK _ ?_;clear hK K;refine tn (Q4 (st':=⟨[(7,iV v194.2),(8,iV v212.2)],(0,rI (v212.1.set ((if v212.2>v194.2 then v212.2 else v194.2).toNat) (if v212.2<v194.2 then v212.2 else v194.2)))::Y7 s167 spans_ s111 w_ v115 v171 v175 [],5⟩) (Wk.rP _ [(0,0),(1,1),(2,2),(3,3),(4,4)] hP (by rfl) (by simp[hhOk,back,a195,a213,BN])) (Q0 (rxQ hN λK hK=>?_)));simp;(repeat refine sdQ ?_);refine hK _ (tn (Q4 (st':=⟨[(6,.val (.bool (v194.2 !=v212.2)))],(0,rI (v212.1.set ((if v212.2>v194.2 then v212.2 else v194.2).toNat) (if v212.2<v194.2 then v212.2 else v194.2)))::Y7 s167 spans_ s111 w_ v115 v171 v175 [],5⟩) (Wk.rP _ [(0,0),(1,1),(2,2),(3,3),(4,4)] hP (by rfl) (by simp[hhOk,back,a195,a213,BN])) (Qi ?_)));clear hK K;cases h;first|refine iw_r (st':=⟨[(6,.val (.bool (v194.2 !=v212.2)))],(0,rI (v212.1.set ((if v212.2>v194.2 then v212.2 else v194.2).toNat) (if v212.2<v194.2 then v212.2 else v194.2)))::Y7 s167 spans_ s111 w_ v115 v171 v175 [],5⟩) ?_ ?_|refine iw_n (st':=⟨[(6,.val (.bool (v194.2 !=v212.2)))],(0,rI (v212.1.set ((if v212.2>v194.2 then v212.2 else v194.2).toNat) (if v212.2<v194.2 then v212.2 else v194.2)))::Y7 s167 spans_ s111 w_ v115 v171 v175 [],5⟩) ?_ ?_
        ·exact Wk.rP _ [(0,0),(1,1),(2,2),(3,3),(4,4)] hP (by rfl) (by simp[hhOk,back,a195,a213,BN])
        exact⟨by simp[QU],by simp,by simp[CN]⟩
       replace⟨a216,h⟩:=Q1 h;simp;(repeat refine sdQ ?_);refine hK _ (tn (Q4 (st':=⟨Y0 w_ ((5,.own 0 0 v215.1.length)::Y04 s111 (Yu spans_ ((21,iV s111.2.2)::Y08 v115 [(34,iV s167.2.2)]))),(0,rI v215.1)::(1,.mapE (.st 3) (Q8 s167.2.1))::Y0m spans_ s111 [(3,rI v115)],4⟩) (Wk.r1 [(0,0),(1,1),(2,2),(4,3)] (by simp[hP,hhOk,back,a216,BN])) (Qj (tx (bh ?_)))));clear hK K;exact jn (b:=(v215.1,s167.2.1)) (yJ h) (Wk.r1 [(0,0),(1,1),(2,2),(3,3)] (by simp[hP,hhOk,back,a216,BN]))
      have g176:¬(((QO (⟨ix w_.c_.fr (ix v115 s167.2.2),v171,v175⟩:X3) s167.2.1).isSome)=true):=gQ;clear g;replace h:=if_r g176 h;refine Q7 (tn (rxQ hN λK hK=>?_));replace⟨a217,h⟩:=Q1 h;simp[a217];(repeat refine sdQ ?_);refine hK _ (bn ?_);clear hK K;exact jn (b:=(s167.1,tset (⟨ix w_.c_.fr (ix v115 s167.2.2),v171,v175⟩:X3) s111.2.2 s167.2.1)) (yJ h) (wkQ [(0,0),(1,1),(2,2),(4,3)])
     intro b169 hb169;have h:=h169;(try rw[←hb169]at h);clear h169;(try dsimp only at h);refine runQ hN λK hK=>?_;replace⟨a218,h⟩:=Q1 h;simp[Qg a218];(repeat refine sdQ ?_);refine hK _ ?_;clear hK K;cases h;exact rn (s':=(b169.1,b169.2,s167.2.2+1)) hk167 (wkI 4)
    have g168:¬(s167.2.2<(v115.length:Int)):=gQ;clear g;replace h:=if_r g168 h;refine Qj (tx (lx (bh (bn ?_))));cases h;have q:_=e167:=hk167;have h:=h167;rw[←q]at h;clear q;(try dsimp only at h);exact jn (b:=(s167.1,s167.2.1)) (yJ h) (wkQ [(0,0),(1,1)])
   intro b113 hb113;have h:=h113;(try rw[←hb113]at h);clear h113;(try dsimp only at h);refine runQ hN λK hK=>?_;replace⟨a219,h⟩:=Q1 h;simp[Qg a219];(repeat refine sdQ ?_);refine hK _ ?_;clear hK K;cases h;exact rn (s':=(b113.1,b113.2,s111.2.2+1)) hk111 (wkQ [(0,0),(1,1)])
  have g112:¬(s111.2.2<(spans_.length:Int)):=gQ;clear g;replace h:=if_r g112 h;refine Qj (tx (lx (bh ?_)));cases h;exact jn (b:=s111.1) hk111 (wkQ [(0,0)])
 intro b2 hb2;have h:=h2;try rw[←hb2]at h
 clear h2;try dsimp only at h
 refine Q0 (Q3W [] mo (by rw[hN];decide) λK hK=>?_);simp;repeat with_reducible refine sdQ ?_
 replace⟨v267,hv267,h⟩:=bind_some h;refine Q2B (fz:=[]) (Q1D (ts:=[2]) (e:={v:=.own 1 0 v267.2.length,set:=[(0,rI v267.1)],del:=[],new:=[(1,rI v267.2)],cnt:=1}) Tryz.func96 rfl rfl rfl (by simp[Tryz.f96]) (by simp) (Q4L (by simp)) (newI (by rfl)) λF hN hP=>?_) ?_
 ·clear h;have h:=hv267;clear hv267;refine Q0 (rxQ hN λK hK=>?_);simp;repeat refine sdQ ?_
  refine hK _ ?_;clear hK K;refine tn (Q4 (st':=⟨[(0,.own 0 0 b2.length)],[(0,rI b2)],1⟩) (wkP [(0,0)] hP) (Q0 (rxQ hN λK hK=>?_)));replace⟨a221,h⟩:=Q1 h;simp;repeat refine sdQ ?_
  refine hK _ ?_;clear hK K;refine tn (Q4 (st':=⟨[(0,.own 0 0 b2.length),(3,.own 1 0 ((zF ((b2.length:Int).toNat) 0).length))],[(0,rI b2),(1,rI (zF ((b2.length:Int).toNat) 0))],2⟩) (wkP [(0,0),(1,1)] hP) (Q0 (Q0 (rxQ hN λK hK=>?_))));simp;repeat refine sdQ ?_
  refine hK _ (tn (Q4 (st':=⟨[(0,.own 0 0 b2.length),(3,.own 1 0 ((zF ((b2.length:Int).toNat) 0).length)),(9,iV (b2.length:Int)),(10,iV 0)],[(0,rI b2),(1,rI (zF ((b2.length:Int).toNat) 0))],2⟩) (wkP [(0,0),(1,1)] hP) ?_));clear hK K;replace⟨e222,h,h222⟩:=bind_some h;refine Qc (λb222:List Int×List Int=>⟨[(3,.own 1 0 b222.2.length)],[(0,rI b222.1),(1,rI b222.2)],2⟩) (λb222=>b222=e222) ?_ ?_
  ·refine Q5 (Qm h (λs244:List Int×List Int×Int=>⟨[(0,.own 0 0 s244.1.length),(3,.own 1 0 s244.2.1.length),(9,iV (b2.length:Int)),(10,iV s244.2.2)],[(0,rI s244.1),(1,rI s244.2.1)],2⟩) (wkP [(0,0),(1,1)] hP) ?_);clear h;intro k244 s244 c244 h hk244;refine Q0 (rxQ hN λK hK=>?_);simp;(repeat refine sdQ ?_);refine hK _ ?_;clear hK K;refine tn (Q0 (Q6 rfl (λg=>?_) λg=>?_))
   ·have g245:s244.2.2<(b2.length:Int):=gQ;clear g;replace h:=if_l g245 h;refine Q7 (tn (Q0 (Q5 (Q0 (rxQ hN λK hK=>?_)))));simp;(repeat refine sdQ ?_);refine hK _ ?_;clear hK K;refine tn (Q4 (st':=⟨[(0,.own 0 0 s244.1.length),(3,.own 1 0 s244.2.1.length),(4,iV s244.2.2),(9,iV (b2.length:Int)),(10,iV s244.2.2)],[(0,rI s244.1),(1,rI s244.2.1)],2⟩) (wkP [(0,0),(1,1)] hP) (Q3W [] mo (by rw[hN];decide) λK hK=>?_));simp;(repeat with_reducible refine sdQ ?_);replace⟨v262,hv262,h⟩:=bind_some h;refine Q2B (fz:=[]) (Q1D (ts:=[4]) (e:={v:=.val (.int .i64 v262.2),set:=[(0,rI v262.1)],del:=[],new:=[],cnt:=0}) Tryz.func105 rfl rfl rfl (by simp[Tryz.f105]) (by simp) (Q4L (by simp)) (newI (by rfl)) λF hN hP=>?_) ?_
    ·clear h;have h:=hv262;clear hv262;refine Q0 (rxQ hN λK hK=>?_);simp;(repeat refine sdQ ?_);refine hK _ (tn (Q4 (st':=⟨[(0,.own 0 0 s244.1.length),(1,iV s244.2.2)],[(0,rI s244.1),(1,rI s244.2.1)],2⟩) (wkP [(0,0),(1,1)] hP) (Q0 ?_)));clear hK K;replace⟨e247,h,h247⟩:=bind_some h;refine Qc (λb247:List Int×Int=>⟨[(1,iV b247.2)],[(0,rI b247.1),(1,rI s244.2.1)],2⟩) (λb247=>b247=e247) ?_ ?_
     ·refine Q5 (Qm h (λs255:List Int×Int=>⟨[(0,.own 0 0 s255.1.length),(1,iV s255.2)],[(0,rI s255.1),(1,rI s244.2.1)],2⟩) (wkP [(0,0),(1,1)] hP) ?_);clear h;intro k255 s255 c255 h hk255;refine Q0 (Q0 (rxQ hN λK hK=>?_));replace⟨a256,h⟩:=Q1 h;simp[at_I a256];(repeat refine sdQ ?_);refine hK _ ?_;clear hK K;refine tn (Q6 rfl (λg=>?_) λg=>?_)
      ·have g257:¬((ix s255.1 s255.2)=s255.2):=gQ;clear g;replace h:=if_l g257 h;refine Q7 (tn (Q5 (Q0 (rxQ hN λK hK=>?_))));replace⟨a258,h⟩:=Q1 h;replace⟨a259,h⟩:=Q1 h;replace⟨a260,h⟩:=Q1 h;simp[at_I a258,at_I a259,at_I a260];(repeat refine sdQ ?_);refine hK _ ?_;clear hK K;refine tn (Q4 (st':=⟨Y0n s255 [],[(0,rI (s255.1.set s255.2.toNat (ix s255.1 (ix s255.1 s255.2)))),(1,rI s244.2.1)],2⟩) (wkP [(0,0),(1,1)] hP) (rxQ hN λK hK=>?_));replace⟨a261,h⟩:=Q1 h;simp[at_I a261];(repeat refine sdQ ?_);refine hK _ (bn ?_);clear hK K;cases h;exact rn (s':=(s255.1.set s255.2.toNat (ix s255.1 (ix s255.1 s255.2)),ix (s255.1.set s255.2.toNat (ix s255.1 (ix s255.1 s255.2))) s255.2)) hk255 (wkP [(0,0),(1,1)] hP)
      have g257:¬(¬((ix s255.1 s255.2)=s255.2)):=gQ;clear g;replace h:=if_r g257 h;refine Qj (tx (lx (bh ?_)));cases h;exact jn (b:=(s255.1,s255.2)) hk255 (wkP [(0,0),(1,1)] hP)
     intro b247 hb247;have h:=h247;(try rw[←hb247]at h);clear h247;(try dsimp only at h);refine Q0 (rxQ hN λK hK=>?_);simp;(repeat refine sdQ ?_);refine hK _ (tn (Q4 (st':=⟨[(4,iV b247.2)],[(0,rI b247.1),(1,rI s244.2.1)],2⟩) (wkP [(0,0),(1,1)] hP) (Qi ?_)));clear hK K;cases h;first|refine iw_r (st':=⟨[(4,iV b247.2)],[(0,rI b247.1),(1,rI s244.2.1)],2⟩) ?_ ?_|refine iw_n (st':=⟨[(4,iV b247.2)],[(0,rI b247.1),(1,rI s244.2.1)],2⟩) ?_ ?_
     ·exact wkP [(0,0),(1,1)] hP
     exact⟨by simp[QU],by simp,by simp[CN]⟩
    replace⟨a263,h⟩:=Q1 h;replace⟨a264,h⟩:=Q1 h;simp[at_I a264];(repeat refine sdQ ?_);refine hK _ ?_;clear hK K;refine bn (tn (Q4 (st':=⟨[(0,.own 0 0 v262.1.length),(3,.own 1 0 ((s244.2.1.set s244.2.2.toNat v262.2).length)),(9,iV (b2.length:Int)),(10,iV s244.2.2)],[(0,rI v262.1),(1,rI (s244.2.1.set s244.2.2.toNat v262.2))],2⟩) (Wk.rP _ [(0,0),(1,1)] hP (by rfl) (by simp[hhOk,back,a263,BN])) (rxQ hN λK hK=>?_)));replace⟨a265,h⟩:=Q1 h;simp[Qg a265];(repeat refine sdQ ?_);refine hK _ ?_;clear hK K;cases h;exact rn (s':=(v262.1,s244.2.1.set s244.2.2.toNat v262.2,s244.2.2+1)) hk244 (Wk.rP _ [(0,0),(1,1)] hP (by rfl) (by simp[hhOk,back,a263,BN]))
   have g245:¬(s244.2.2<(b2.length:Int)):=gQ;clear g;replace h:=if_r g245 h;refine Qj (tx (lx (bh ?_)));cases h;exact jn (b:=(s244.1,s244.2.1)) hk244 (wkP [(0,0),(1,1)] hP)
  intro b222 hb222;have h:=h222;try rw[←hb222]at h
  clear h222;try dsimp only at h
  refine Q0 (rxQ hN λK hK=>?_);simp;repeat with_reducible refine sdQ ?_
  replace⟨v266,hv266,h⟩:=bind_some h;refine QG (fz:=[]) (Qbs _ v266 hv266) (.cons .w .nil) ?_;simp;repeat refine sdQ ?_
  refine hK _ (tn (Q4 (st':=⟨[(2,.own 1 0 v266.length)],[(0,rI b222.1),(1,rI v266)],2⟩) (wkP [(0,0),(2,1)] hP) (Qi ?_)));clear hK K;cases h;first|refine iw_r (st':=⟨[(2,.own 1 0 v266.length)],[(0,rI b222.1),(1,rI v266)],2⟩) ?_ ?_|refine iw_n (st':=⟨[(2,.own 1 0 v266.length)],[(0,rI b222.1),(1,rI v266)],2⟩) ?_ ?_
  ·exact wkP [(0,0),(1,1)] hP
  exact⟨by simp[QU],by simp,by simp[CN]⟩
 replace⟨a268,h⟩:=Q1 h;simp;repeat refine sdQ ?_
 refine hK _ (tn (Q4 (st':=⟨[(4,.own 0 0 v267.2.length)],[(0,rI v267.2)],1⟩) (Wk.r1 [(1,0)] (by simp[hP,hhOk,back,a268,BN])) (Qi ?_)));clear hK K;have hr:=yJ h;rw[←hr];refine⟨_,(.tmp .nil),?_⟩;refine⟨(.one rfl rfl .nil),[lI v267.2],[0],by simp[BN],by simp,(yN _)⟩
section
attribute [local simp] Qa QD Qo QM Qx
theorem Q5t{c:Cat}(hc:c.Is){w:List Int}{x y:Int}{T:List Tr}(hT:SpT c w x y T)(hl:T.length≤200):QB (wD c w) (T.map trwX)=some (cls (RR (pSp c w T)) T.length):=by
 have hn:=hc.nums;have ht:=Q7j c w;unfold QB Q3j;simp only[show(wD c w).c_=c from rfl,yZ];rw[Q8p (by omega) (by omega)];simp only[yR,Int.toNat_natCast];refine Q3v (σ:=List Int×List (X3×Int)×Int) (Q:=λo=>o=some (cls (RR (pSp c w T)) T.length)) T.length (λi s=>s.2.2=(i:Int)∧∃P,UF s.1 (RR P) T.length∧EvI c w T i 0 P s.2.1) (λj=>∃P M,UF j (RR P) T.length∧EvI c w T T.length 0 P M) (by omega) ⟨rfl,[],UF_id,EvI.start c w T⟩ ?_ ?_ ?_
 ·rintro i ⟨j,M,k⟩ hi ⟨hk,P,u,ev⟩
  simp only at hk u ev;subst hk;left;have sp:=hT.at hi;simp only;rw[if_pos (by omega),Q2 (by omega),Q9t hi,show(trwX (tG T i)).a_=(tG T i).1 from rfl,show(trwX (tG T i)).b_=(tG T i).2.1 from rfl,show(trwX (tG T i)).c_=(tG T i).2.2 from rfl,show Q1a c (tG T i).1=some (inL c (tG T i).1) from e_intoW hc _];simp only[yR];have ll:=inL_len c (tG T i).1;rw[Option.bind_assoc];refine Q3v (σ:=List Int×List (X3×Int)×Int) (Q:=λo=>∃s':List Int×List (X3×Int)×Int,o=some (yM s')∧s'.2.2=((i+1:Nat):Int)∧∃P,UF s'.1 (RR P) T.length∧EvI c w T (i+1) 0 P s'.2.1) (inL c (tG T i).1).length (λk s=>s.2.2=(k:Int)∧∃P,UF s.1 (RR P) T.length∧EvI c w T i k P s.2.1) (λe=>∃P,UF e.1 (RR P) T.length∧EvI c w T i (inL c (tG T i).1).length P e.2) (by omega) ⟨rfl,P,u,ev⟩ ?_ ?_ ?_
  ·clear u ev
   rintro k ⟨j,M,k0⟩ hk ⟨hk0,P,u,ev⟩
   simp only at hk0 u ev;subst hk0;left;obtain⟨a1,a2⟩:=inL_at hk;have r1:=Ar.two hc (f:=ix (inL c (tG T i).1) k) (x:=ix c.fr (ix (inL c (tG T i).1) k)) ⟨a1,rfl,a2⟩ sp.1;have r2:=Ar.two hc (f:=ix (inL c (tG T i).1) k) (x:=ix c.fr (ix (inL c (tG T i).1) k)) ⟨a1,rfl,a2⟩ sp.2.2;simp only;rw[if_pos (by omega),Q2 (by omega),(Q1o hc a1 sp.1.1).2];simp only[yR];rw[Q2 (by have:=r1.1;omega),Q7I r1.1]
   by_cases hv:ix (rx c.cs (ix (inL c (tG T i).1) k)) (tG T i).2.1∈w
   case neg=>
    rw[Qp hv,if_pos (by simp)];simp only[yR];rw[Q2 (by unfold B64;omega)];exact⟨_,rfl,by push_cast;rfl,P,u,ev.skip hv⟩
   rw[Qu hv,if_neg (by simp),Q2 (by have:=a1;unfold ArW at this;omega),(Q1o hc a1 sp.2.2.1).2];simp only[yR];generalize hκ:(⟨ix c.fr (ix (inL c (tG T i).1) k),ix (rx c.cs (ix (inL c (tG T i).1) k)) (tG T i).2.1,ix (rx c.cs (ix (inL c (tG T i).1) k)) (tG T i).2.2⟩:X3)=κ;have ka:KeyA c w (tG T i) (ix (inL c (tG T i).1) k) κ:=⟨hv,hκ.symm⟩;cases hf:QO κ M with
   |none=>
    have lm:=ev.len;have:i*40≤200*40:=xB (by omega) (qE _);rw[if_neg (by simp),Q2 (by omega)];simp only[yR];rw[Q2 (by unfold B64;omega)];exact⟨_,rfl,by push_cast;rfl,P,u,ev.new hi hk ka hf⟩
   |some z=>
    obtain⟨z',rfl,z1,_⟩:=ev.mp κ z hf;obtain⟨j',d,ej,u'⟩:=join_go u z1 hi (by omega);have l1:=u.len;have l2:=u'.len;rw[if_pos (by simp)];simp only[Option.getD_some];unfold joinE at ej;rw[ej];simp only[yR];rw[Q2 (by omega)];simp only[yR];rw[Q2 (by unfold B64;omega)];exact⟨_,rfl,by push_cast;rfl,P++[[(z':Int),(i:Int)]],by rw[RR_add (a:=z') (b:=i) rfl];exact u',ev.join hi hk ka hf z1⟩
  ·clear u ev
   rintro ⟨j,M,k⟩ ⟨hk,P,u,ev⟩
   simp only at hk u ev;subst hk;simp only;rw[if_neg (by omega)];exact⟨_,rfl,P,u,ev⟩
  clear u ev
  rintro ⟨j,M⟩ ⟨P,u,ev⟩
  simp only at u ev;simp only[yR];rw[Q2 (by unfold B64;omega)];exact⟨_,rfl,by push_cast;rfl,P,u,ev.row hc⟩
 ·rintro ⟨j,M,k⟩ ⟨hk,P,u,ev⟩
  simp only at hk u ev;subst hk;simp only;rw[if_neg (by omega)];exact⟨_,rfl,P,M,u,ev⟩
 rintro j ⟨P,M,u,ev⟩
 have l:=u.len;have hcls:cls (RR P) T.length=cls (RR (pSp c w T)) T.length:=cls_congr (λx hx=>RR_same ev.prs (Q9D c w T) (λa b hm=>(ev.con a b).1 (.pr hm)) (λa b hm=>(ev.con a b).2 (.pr hm)) hx) λx hx=>u.le x hx;try simp only
 rw[Q2 (by omega),l];generalize hr:RR P=r at u hcls;rw[Option.bind_assoc];refine Q3v (σ:=List Int×List Int×Int) (Q:=λo=>o=some (cls (RR (pSp c w T)) T.length)) T.length (λi s=>s.2=(tab i (λx=>(r x:Int))++zF (T.length - i) 0,(i:Int))∧UF s.1 r T.length) (λe=>e.2=tab T.length (λx=>(r x:Int))∧UF e.1 r T.length) (by omega) ⟨by simp[tab],u⟩ ?_ ?_ ?_
 ·rintro i ⟨j,o,k⟩ hi ⟨hk,u⟩
  simp only[Prod.mk.injEq]at hk u;obtain⟨rfl,rfl⟩:=hk;left;obtain⟨j1,e1,w1⟩:=Q9F i j fuel u hi (by unfold fuel;omega);have l1:=u.len;have l2:=w1.len;simp only;rw[if_pos (by omega),e1];simp only[yR];rw[Q2 (by omega),Q2 (by simp;omega),Q2 (by unfold B64;omega)];refine⟨_,rfl,?_,w1⟩;refine Prod.ext ?_ (by push_cast;rfl);simp only[Int.toNat_natCast];rw[show T.length - i=(T.length - (i+1))+1 by omega,Q6m _ _ _ _ (by simp),Q4n]
 ·rintro ⟨j,o,k⟩ ⟨hk,u⟩
  simp only[Prod.mk.injEq]at hk u;obtain⟨rfl,rfl⟩:=hk;simp only;rw[if_neg (by omega)];exact⟨_,rfl,by simp,u⟩
 rintro ⟨j,o⟩ ⟨ho,u⟩
 try simp only at ho u
 have l1:=u.len;rw[ho];simp only;rw[e_normal (λx hx=>⟨u.le x hx,u.rr hx⟩) (by omega)];simp only[yR];rw[Q2 (by omega),hcls]
end
section
attribute [local simp] Qa QD Qo QM Qx
def spT(c:Cat)(w:List Int)(x y:Int):List Tr:=spG (λa b d=>((a,b,d):Tr)) c w x y
theorem e_spI{c:Cat}(hc:c.Is)(w:List Int)(x y:Int):QL (wD c w) x y=some ((spT c w x y).map trwX):=by
 rw[e_spansI hc,spT,spG_map];rfl
theorem e_spS{c:Cat}(hc:c.Is)(w:List Int)(x y:Int):Q1C c w x y=some ((spT c w x y).map trwS):=by
 rw[e_spansS hc,spT,spG_map];rfl
theorem Q7S{c:Cat}(hc:c.Is){w:List Int}{x y:Int}{t:Tr}:t∈spT c w x y↔Ar c t.2.1 t.1 x∧t.2.1∈w∧Ar c t.2.2 t.1 y:=by
 unfold spT spG;rw[mem_catN];constructor
 ·rintro ⟨u,hu,h⟩
  unfold spU at h;obtain⟨i,hi,h⟩:=mem_catN.1 h;unfold spK at h;split at h
  ·rename_i hm;obtain⟨k,hk,h⟩:=mem_catN.1 h;simp only[zI]at h;subst h;exact⟨Q1Y hi,hm,Q1Y hk⟩
  cases h
 obtain⟨u,v,f⟩:=t
 rintro ⟨h1,h2,h3⟩
 simp only at h1 h2 h3;have hs:=(hc.Af h1.1).2.1;rw[h1.2.1]at hs;obtain⟨u',rfl⟩:=yU hs.1;have mem:∀{a z:Int},Ar c a u' z→∃i:Nat,i<(homL c u' z).length∧ix (homL c u' z) i=a:=by
  intro a z h;obtain⟨k,rfl⟩:=yU h.1.1;have:(k:Int)∈homL c u' z:=mem_flt.2 ⟨k,by have:=h.1.2;omega,⟨h.2.1,h.2.2⟩,rfl⟩;obtain⟨j,hj,e⟩:=zX this;exact⟨j,hj,by rw[←Q16 _ _ hj,e]⟩
 obtain⟨i,i1,i2⟩:=mem h1;obtain⟨k,k1,k2⟩:=mem h3;refine⟨u',by omega,mem_catN.2 ⟨i,i1,?_⟩⟩;unfold spK;rw[i2,if_pos h2];exact mem_catN.2 ⟨k,k1,by rw[k2];simp⟩
theorem spT_ok{c:Cat}(hc:c.Is)(w:List Int)(x y:Int):SpT c w x y (spT c w x y):=λ_ h=>(Q7S hc).1 h
theorem spT_okT{c:Cat}(hc:c.Is)(w:List Int)(x y:Int):OkT c (spT c w x y):=λ_ h=>⟨((Q7S hc).1 h).1.1,((Q7S hc).1 h).2.2.1⟩
theorem Q2T{α:Type}{h:Nat→List α}:∀{n:Nat},(∀i,i<n→(h i).Nodup)→(∀i j,i<j→j<n→∀a∈h i,a∉h j)→(catN h n).Nodup
 |0,_,_=>by simp[catN]
 |n+1,h1,h2=>by
  rw[Q12,List.nodup_append];refine⟨Q2T (λi hi=>h1 i (by omega)) λi j hij hj=>h2 i j hij (by omega),h1 n (by omega),λa ha b hb e=>?_⟩;subst e;obtain⟨i,hi,q⟩:=mem_catN.1 ha;exact h2 i n hi (by omega) a q hb
theorem flt_inj:∀{n:Nat} {p:Nat→Prop} {i j:Nat},i<(flt n p).length→j<(flt n p).length→ix (flt n p) i=ix (flt n p) j→i=j:=by
 have nd:∀(n:Nat) (p:Nat→Prop),(flt n p).Nodup:=by
  intro n p
  induction n with
  |zero=>exact List.nodup_nil
  |succ n ih=>
   by_cases h:p n
   ·rw[Q2r h,List.nodup_append];refine⟨ih,by simp,λa ha b hb e=>?_⟩;simp only[zI]at hb;obtain⟨k,k1,_,k3⟩:=mem_flt.1 ha;omega
   rw[Q2b h];exact ih
 intro n p i j hi hj e;rw[←Q16 _ _ hi,←Q16 _ _ hj]at e;rcases Nat.lt_trichotomy i j with d|d|d
 ·exact absurd e (List.pairwise_iff_getElem.1 (nd n p) i j hi hj d)
 ·exact d
 exact absurd e.symm (List.pairwise_iff_getElem.1 (nd n p) j i hj hi d)
theorem Q90(c:Cat)(w:List Int)(x y:Int):(spT c w x y).Nodup:=by
 unfold spT spG;refine Q2T (λu _=>?_) λu u' hu hu' a ha ha'=>?_
 ·unfold spU;refine Q2T (λi hi=>?_) λi j hij hj a ha ha'=>?_
  ·unfold spK;split
   ·refine Q2T (λk hk=>by simp) λk l hkl hl a ha ha'=>?_;simp only[zI]at ha ha';rw[ha]at ha';simp only[Prod.mk.injEq]at ha';have:=flt_inj (by exact(show k<(homL c u y).length by omega)) hl ha'.2.2;omega
   exact List.nodup_nil
  have q:∀{v:Int} {a:Tr},a∈spK (λa b d=>((a,b,d):Tr)) c w y u v→a.2.1=v:=by
   intro v a h;unfold spK at h;split at h
   ·obtain⟨k,hk,h⟩:=mem_catN.1 h;simp only[zI]at h;subst h;rfl
   cases h
  have:=(q ha).symm.trans (q ha');have:=flt_inj (by exact(show i<(homL c u x).length by omega)) hj this;omega
 have q:∀{u:Nat} {a:Tr},a∈spU (λa b d=>((a,b,d):Tr)) c w x y u→a.1=u:=by
  intro u a h;unfold spU at h;obtain⟨i,hi,h⟩:=mem_catN.1 h;unfold spK at h;split at h
  ·obtain⟨k,hk,h⟩:=mem_catN.1 h;simp only[zI]at h;subst h;rfl
  cases h
 have:=(q ha).symm.trans (q ha');omega
end
attribute [local simp] unk unA unE unT unC flat eL eI Qh
def Q2V(p_:List Int):Option Int:=
 (Qd (σ:=Int×Int) (ε:=Int) (λs6=>
  if s6.2<(p_.length:Int)then
   ass (0≤s6.2∧s6.2<(p_.length:Int))<|
   ass (B64 ((ix p_ s6.2)+1))<|
   ass (B64 (s6.2+1))<|
   some (yM ((if(ix p_ s6.2)+1>s6.1 then(ix p_ s6.2)+1 else s6.1),s6.2+1))
  else
   some (yK s6.1)) fuel (0,0)).bind λb1=>
 some b1
theorem Qbv(p_:List Int)(r:Int)(h:Q2V p_=some r):Contract Tryz.prog 53 [lI p_] (iV r):=by
 refine Q9 (rvs:=[.tmp 2]) (rs:=[iV r]) Tryz.func53 rfl rfl rfl rfl (by simp[Tryz.f53]) λF hN hP=>?_;unfold Q2V at h;refine Q0 (runQ hN λK hK=>?_);simp;repeat refine sdQ ?_
 refine hK _ ?_;clear hK K;refine tn (Q4 (st':=⟨[(0,lI p_)],[],0⟩) (wkQ []) (Q0 (runQ hN λK hK=>?_)));simp;repeat refine sdQ ?_
 refine hK _ ?_;clear hK K;refine tn (Q4 (st':=⟨[(0,lI p_),(3,iV 0)],[],0⟩) (wkQ []) (Q0 (Q0 (runQ hN λK hK=>?_))));simp;repeat refine sdQ ?_
 refine hK _ (tn (Q4 (st':=⟨[(0,lI p_),(3,iV 0),(4,iV 0)],[],0⟩) (wkQ []) ?_));clear hK K;replace⟨e1,h,h1⟩:=bind_some h;refine Qc (λb1:Int=>⟨[(3,iV b1)],[],0⟩) (λb1=>b1=e1) ?_ ?_
 ·refine Q5 (Qm h (λs6:Int×Int=>⟨[(0,lI p_),(3,iV s6.1),(4,iV s6.2)],[],0⟩) (wkQ []) ?_);clear h;intro k6 s6 c6 h hk6;refine Q0 (Q0 (runQ hN λK hK=>?_));simp;repeat refine sdQ ?_
  refine hK _ ?_;clear hK K;refine tn (Q6 rfl (λg=>?_) λg=>?_)
  ·have g7:s6.2<(p_.length:Int):=gQ;clear g;replace h:=if_l g7 h;refine Q7 (tn (Q0 (Q5 (runQ hN λK hK=>?_))));replace⟨a8,h⟩:=Q1 h;replace⟨a9,h⟩:=Q1 h;simp[at_I a8,Qg a9];(repeat refine sdQ ?_);refine hK _ ?_;clear hK K;refine bn (tn (Q4 (st':=⟨[(0,lI p_),(3,iV (if(ix p_ s6.2)+1>s6.1 then(ix p_ s6.2)+1 else s6.1)),(4,iV s6.2)],[],0⟩) (wkQ []) (runQ hN λK hK=>?_)));replace⟨a10,h⟩:=Q1 h;simp[Qg a10];(repeat refine sdQ ?_);refine hK _ ?_;clear hK K;cases h;exact rn (s':=((if(ix p_ s6.2)+1>s6.1 then(ix p_ s6.2)+1 else s6.1),s6.2+1)) hk6 (wkQ [])
  have g7:¬(s6.2<(p_.length:Int)):=gQ;clear g;replace h:=if_r g7 h;refine Qj (tx (lx (bh ?_)));cases h;exact jn (b:=s6.1) hk6 (wkQ [])
 intro b1 hb1;have h:=h1;try rw[←hb1]at h
 clear h1;try dsimp only at h
 refine Q0 (runQ hN λK hK=>?_);simp;repeat refine sdQ ?_
 refine hK _ (tn (Q4 (st':=⟨[(2,iV b1)],[],0⟩) (wkQ []) (Qi ?_)));clear hK K;have hr:=yJ h;rw[←hr];refine⟨_,(.tmp .nil),?_⟩;refine⟨(.one rfl rfl .nil),[iV b1],[],by simp[BN],by simp,(yN _)⟩
section
attribute [local simp] Qa QD Qo QM Qx
theorem e_top{L:List Int}{m:Int}(hl:L.length≤1000000)(hb:∀i:Nat,i<L.length→0≤ix L i∧ix L i≤1000000):Q2V L=some (top L L.length):=by
 unfold Q2V;refine Q11 L.length (λi=>top L i) (e:=top L L.length) rfl (by omega) (λi hi=>?_) (by simp only;rw[if_neg (by omega)]) rfl;have:=hb i hi;have e:(if ix L i+1>top L i then ix L i+1 else top L i)=top L (i+1):=by
  simp only[top];split<;>omega
 simp only;rw[if_pos (by omega),Q2 (by omega),Q2 (by unfold B64;omega),Q2 (by unfold B64;omega),e]
end
section
attribute [local simp] Qa QD Qo QM Qx
def rT(c:Cat)(w:List Int)(x y:Int):Nat→Nat:=RR (pSp c w (spT c w x y))
def nT(c:Cat)(w:List Int)(x y:Int):Nat:=(spT c w x y).length
def clT(c:Cat)(w:List Int)(x y:Int):List Int:=cls (rT c w x y) (nT c w x y)
def kT(c:Cat)(w:List Int)(x y:Int):Nat:=cn (rT c w x y) (nT c w x y)
theorem rT_ok(c:Cat)(w:List Int)(x y:Int):∀z,z<nT c w x y→rT c w x y z≤z∧rT c w x y (rT c w x y z)=rT c w x y z:=λz hz=>RR_ok (Q9D c w _) z hz
theorem Q5X(c:Cat)(w:List Int)(x y:Int):(clT c w x y).length=nT c w x y:=by simp[clT,cls]
theorem Q70{c:Cat}{w:List Int}{x y:Int}{i:Nat}(hi:i<nT c w x y):ix (clT c w x y) i=(cn (rT c w x y) (rT c w x y i):Int)∧cn (rT c w x y) (rT c w x y i)<kT c w x y:=by
 obtain⟨h1,h2⟩:=rT_ok c w x y i hi;exact⟨Q8G _ _ hi,cn_lt h2 (by omega)⟩
theorem flt_nth{p:Nat→Prop}:∀{n j:Nat},j<(flt n p).length→∃y:Nat,y<n∧p y∧ix (flt n p) j=(y:Int)∧(flt y p).length=j:=by
 intro n
 induction n with
 |zero=>intro j h;simp[flt]at h
 |succ n ih=>
  intro j h
  by_cases hp:p n
  ·rw[Q2r hp]at h⊢;rcases zM j (flt n p).length with d|d
   ·obtain⟨y,y1,y2,y3,y4⟩:=ih d;refine⟨y,by omega,y2,?_,y4⟩;rw[←y3];simp[ix,qB,List.getElem?_append_left d]
   have:j=(flt n p).length:=(by simp at h;omega);subst this;exact⟨n,by omega,hp,by simp[ix,qB],rfl⟩
  rw[Q2b hp]at h⊢;obtain⟨y,y1,y2,y3,y4⟩:=ih h;exact⟨y,by omega,y2,y3,y4⟩
theorem ldT{c:Cat}{w:List Int}{x y:Int}{j:Nat}(hj:j<kT c w x y):∃z:Nat,z<nT c w x y∧rT c w x y z=z∧ix (lds (rT c w x y) (nT c w x y)) j=(z:Int)∧cn (rT c w x y) z=j:=flt_nth hj
theorem e_topT{c:Cat}{w:List Int}{x y:Int}(hn:nT c w x y≤200):Q2V (clT c w x y)=some (kT c w x y:Int):=by
 have hk:kT c w x y≤nT c w x y:=Q8l _ _;have hl:=Q5X c w x y;rw[e_top (m:=0) (by omega) λi hi=>by
  obtain⟨h1,h2⟩:=Q70 (c:=c) (w:=w) (x:=x) (y:=y) (i:=i) (by omega);rw[h1];omega]
 congr 1
 rw[hl];have le:top (clT c w x y) (nT c w x y)≤(kT c w x y:Int):=top_le _ (by omega) λi hi=>by
  obtain⟨h1,h2⟩:=Q70 (c:=c) (w:=w) (x:=x) (y:=y) hi;rw[h1];omega
 have ge:(kT c w x y:Int)≤top (clT c w x y) (nT c w x y):=by
  rcases Nat.eq_zero_or_pos (kT c w x y)with h0|h0
  ·rw[h0];exact top_nn _ _
  obtain⟨z,z1,z2,_,z4⟩:=ldT (c:=c) (w:=w) (x:=x) (y:=y) (j:=kT c w x y - 1) (by omega);have:=top_gt (clT c w x y) z1;rw[(Q70 z1).1,z2,z4]at this;omega
 omega
theorem e_leadT{c:Cat}{w:List Int}{x y:Int}(hn:nT c w x y≤200):QR (clT c w x y)=some (lds (rT c w x y) (nT c w x y)):=e_leaders (rT_ok c w x y) (by omega)
theorem ldT_len(c:Cat)(w:List Int)(x y:Int):(lds (rT c w x y) (nT c w x y)).length=kT c w x y:=rfl
theorem e_firstT{c:Cat}{w:List Int}{x y:Int}(hn:nT c w x y≤200){j:Nat}(hj:j<kT c w x y):Q1S (clT c w x y) j=some (ix (lds (rT c w x y) (nT c w x y)) j):=by
 have hl:=Q5X c w x y;obtain⟨z,z1,z2,z3,z4⟩:=ldT hj;rw[Qaf (by omega),z3]
 congr 1
 refine Qal (by omega) (by rw[(Q70 z1).1,z2,z4]) λk hk e=>?_;have hkn:k<nT c w x y:=by omega
 rw[(Q70 hkn).1]at e;obtain⟨r1,r2⟩:=rT_ok c w x y k hkn;have:=cn_lt r2 (show rT c w x y k<z by omega);omega
end
end Go.Vc.T
