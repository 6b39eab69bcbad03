/- A part of the proof. -/
import Derived.Test.YtgaeldalleellaaGreatI11
set_option maxRecDepth 100000
set_option maxHeartbeats 4000000
set_option linter.unusedSimpArgs false
set_option linter.unusedVariables false
set_option linter.unusedSectionVars false
set_option linter.unnecessarySimpa false

open List renaming getD_eq_getElem?_getD→qB
open Option renaming bind_some→yR
open Option.some renaming inj→yJ
open List renaming length_append→qD
open Sum renaming inl→yS
open Go.Vc.Ctl renaming ret→yK
open List renaming replicate→zF
open Nat renaming le_refl→qE
open List renaming getElem?_eq_getElem→qF
open Go.Vc.Ctl renaming next→yM
open Sum renaming inr→yT
open Bool renaming false_eq_true→zG
open Go.Vc.UpL renaming refl→yN
open Option renaming getD_some→zL
open List renaming length_cons→qH
open List renaming length_nil→zS
open Nat renaming zero_le→zV
open List renaming getElem_of_mem→zX
open Int renaming eq_ofNat_of_zero_le→yU
open List renaming length_map→yZ
open Int renaming toNat_natCast→yV
open List renaming getElem?_map→yF
open List renaming length_singleton→xA
open Option renaming map_some→yB
open List renaming append_assoc→zC
open List renaming mem_range→yE
noncomputable section
namespace Go.Vc.T
open Go Go.Vc Go.Proofs
attribute [local simp] unk unA unE unT unC flat eL eI Qh QI QX Cat.cells XF.cells
def Q2k(c_:Cat)(w_:List Int):Option XF:=
 (Qd (σ:=List (List (List (List Int)))×List (List (List Int))×List (List Int)×Int) (ε:=List (List (List (List Int)))×List (List (List Int))×List (List Int)) (λs40=>
  if s40.2.2.2<c_.n then
   (Qd (σ:=List (List Int)×List (List (List Int))×List (List Int)×Int) (ε:=List (List Int)×List (List (List Int))×List (List Int)) (λs59=>
    if s59.2.2.2<c_.n then
     (
      (Q1C c_ w_ s40.2.2.2 s59.2.2.2).bind λv62=>
      (Q1O c_ w_ v62).bind λv63=>
      ass ((s59.2.1++[v62]).length≤1073741824)<|
      ass ((s59.2.2.1++[v63]).length≤1073741824)<|
      (Qd (σ:=List (List Int)×Int) (ε:=List (List Int)×List (List (List Int))×List (List Int)) (λs70=>
       (Q2V v63).bind λv71=>
       if s70.2<v71 then
        ass ((s70.1++[[s40.2.2.2,s59.2.2.2,s70.2]]).length≤1073741824)<|
        ass (B64 (s70.2+1))<|
        some (yM (s70.1++[[s40.2.2.2,s59.2.2.2,s70.2]],s70.2+1))
       else
        some (yK (s70.1,s59.2.1++[v62],s59.2.2.1++[v63]))) fuel (s59.1,0)).bind λp70=>
      some p70:Option (List (List Int)×List (List (List Int))×List (List Int))).bind λb61=>
     ass (B64 (s59.2.2.2+1))<|
     some (yM (b61.1,b61.2.1,b61.2.2,s59.2.2.2+1))
    else
     some (yK (s59.1,s59.2.1,s59.2.2.1))) fuel (s40.2.2.1,[],[],0)).bind λb42=>
   ass ((s40.1++[b42.2.1]).length≤1073741824)<|
   ass ((s40.2.1++[b42.2.2]).length≤1073741824)<|
   ass (B64 (s40.2.2.2+1))<|
   some (yM (s40.1++[b42.2.1],s40.2.1++[b42.2.2],b42.1,s40.2.2.2+1))
  else
   some (yK (s40.1,s40.2.1,s40.2.2.1))) fuel ([],[],[],0)).bind λb1=>
 some (⟨c_,w_,b1.1,b1.2.1,b1.2.2⟩:XF)
@[simp] abbrev Ya(a:List Int)(b:Cat)(c:List (Nat×AV)):List (Nat×AV):=(1,lI a)::(2,.rptr (Cat.cells true b))::(4,.adr 0 0 0)::(5,.adr 1 0 0)::c
@[simp] abbrev Y0t(a:Cat)(b:List Int)(c:List (AV)):List (AV):=iV a.n::lI a.fr::lI a.to::lI a.id::.lst true 1 (Ls a.cs)::lI b::c
@[simp] abbrev Y0z(a:List (List (List (List Int)))×List (List (List Int))×List (List Int)×Int)(b:List (AV)):List (AV):=.own 2 0 a.1.length::.own 3 0 a.2.1.length::b
@[simp] abbrev Yb(a:Cat)(b:List Int)(c:List (List (List (List Int)))×List (List (List Int))×List (List Int)×Int)(d:List (List Int)×List (List (List Int))×List (List Int)×Int)(e:List (Nat×Ent)):List (Nat×Ent):=(0,.mix 9 [(Y0w [nS,nS,nS,nS])])::(1,.mix 9 [(Y0t a b (Y0z c [.own 4 0 d.1.length]))])::(2,.row 1 (Es (λx=>[.lst true 1 (Es eL x)]) c.1))::(3,.mix 1 (Es eL c.2.1))::(4,.row 1 (Ls d.1))::e
@[simp] abbrev Yr(a:Cat)(b:List Int)(c:List (List (List (List Int)))×List (List (List Int))×List (List Int)×Int)(d:List (Nat×Ent)):List (Nat×Ent):=(0,.mix 9 [(Y0w [nS,nS,nS,nS])])::(1,.mix 9 [(Y0t a b (Y0z c [.own 4 0 c.2.2.1.length]))])::(2,.row 1 (Es (λx=>[.lst true 1 (Es eL x)]) c.1))::(3,.mix 1 (Es eL c.2.1))::(4,.row 1 (Ls c.2.2.1))::d
@[simp] abbrev YC(a:List (Nat×Ent)):List (Nat×Ent):=(0,.mix 9 [(Y0w [nS,nS,nS,nS])])::a
@[simp] abbrev YQ(a:List (List Int)×List (List (List Int))×List (List Int)×Int)(b:List (List Int))(c:List Int)(d:List (Nat×AV)):List (Nat×AV):=(7,.own 5 0 ((a.2.1++[b]).length))::(8,.own 6 0 ((a.2.2.1++[c]).length))::(9,iV a.2.2.2)::(11,lI c)::d
@[simp] abbrev YZ(a:List (List (List (List Int)))×List (List (List Int))×List (List Int)×Int)(b:List (Nat×Ent)):List (Nat×Ent):=(2,.row 1 (Es (λx=>[.lst true 1 (Es eL x)]) a.1))::(3,.mix 1 (Es eL a.2.1))::b
@[simp] abbrev Y0h(a:Cat)(b:List Int)(c:List (Nat×Ent)):List (Nat×Ent):=(1,.mix 9 [(Y0t a b [.own 2 0 0,.own 3 0 0,.own 4 0 0])])::(2,.row 1 (Es (λx=>[.lst true 1 (Es eL x)]) []))::c
theorem Q8c(c_:Cat)(w_:List Int)(r:XF)(h:Q2k c_ w_=some r):FContract Tryz.prog true 34 [.agg (c_.cells true),lI w_] (.agg (r.cells true)):=by
 refine Q5e (rvs:=[.cell 4 47]) (rs:=[.agg (r.cells true)]) Tryz.func34 rfl rfl rfl rfl (by simp[Tryz.f34]) λF hN hP hW=>?_;unfold Q2k at h;refine Q0 (rxF [2] hN λK hK=>?_);simp;repeat refine sdQ ?_
 refine hK _ ?_;clear hK K;refine tn (Q4 (st':=⟨[(1,lI w_),(2,.rptr (Cat.cells true c_)),(4,.adr 0 0 0)],YC [],1⟩) (wkQ [(0,0)]) (Q0 (rxQ hN λK hK=>?_)));simp;repeat refine sdQ ?_
 refine hK _ ?_;clear hK K;refine tn (Q4 (st':=⟨Ya w_ c_ [],YC [(1,.mix 9 [(Y0t c_ w_ [nS,nS,nS])])],2⟩) (wkQ [(0,0),(1,1)]) (Q0 (Q0 (rxQ hN λK hK=>?_))));simp;repeat refine sdQ ?_
 refine hK _ (tn (Q4 (st':=⟨Ya w_ c_ [(6,iV 0)],YC [(1,.mix 9 [(Y0t c_ w_ [nS,nS,nS])])],2⟩) (wkQ [(0,0),(1,1)]) ?_));clear hK K;replace⟨e1,h,h1⟩:=bind_some h;refine Qc (λb1:List (List (List (List Int)))×List (List (List Int))×List (List Int)=>⟨Y07 [],YC [(1,.mix 9 [(Y0t c_ w_ [.own 2 0 b1.1.length,.own 3 0 b1.2.1.length,.own 4 0 b1.2.2.length])]),(2,.row 1 (Es (λx=>[.lst true 1 (Es eL x)]) b1.1)),(3,.mix 1 (Es eL b1.2.1)),(4,.row 1 (Ls b1.2.2))],5⟩) (λb1=>b1=e1) ?_ ?_
 ·refine Q5 (Qm h (λs40:List (List (List (List Int)))×List (List (List Int))×List (List Int)×Int=>⟨Ya w_ c_ [(6,iV s40.2.2.2)],Yr c_ w_ s40 [],5⟩) (Q2M ⟨Ya w_ c_ [(6,iV 0)],YC (Y0h c_ w_ [(3,.row 1 (Es eL [])),(4,.row 1 (Ls []))]),5⟩ (Wk.nils [(2,1),(3,1),(4,1)] (by simp) (by simp) (by simp[nlA]) (by simp[entN,nlL,nlA,BN]) (by simp)) (Q2M ⟨Ya w_ c_ [(6,iV 0)],YC (Y0h c_ w_ [(3,.mix 1 []),(4,.row 1 (Ls []))]),5⟩ (Wk.rowMix (by simp) rfl (by simp[BN])) (wkI 5))) ?_);clear h;intro k40 s40 c40 h hk40;refine Q0 (Q0 (rxQ hN λK hK=>?_));simp;repeat refine sdQ ?_
  refine hK _ ?_;clear hK K;refine tn (Q6 rfl (λg=>?_) λg=>?_)
  ·have g41:s40.2.2.2<c_.n:=gQ;clear g;replace h:=if_l g41 h;refine Q7 (tn (Q0 (Q5 (Q0 (rxQ hN λK hK=>?_)))));simp;(repeat refine sdQ ?_);refine hK _ ?_;clear hK K;refine tn (Q4 (st':=⟨Ya w_ c_ [(6,iV s40.2.2.2),(7,.own 5 0 0),(8,.own 6 0 0)],Yr c_ w_ s40 [(5,.mix 1 []),(6,.mix 1 [])],7⟩) (wkI 7) (Q0 (Q0 (rxQ hN λK hK=>?_))));simp;(repeat refine sdQ ?_);refine hK _ (tn (Q4 (st':=⟨Ya w_ c_ [(6,iV s40.2.2.2),(7,.own 5 0 0),(8,.own 6 0 0),(9,iV 0)],Yr c_ w_ s40 [(5,.mix 1 []),(6,.mix 1 [])],7⟩) (wkI 7) ?_));clear hK K;replace⟨e42,h,h42⟩:=bind_some h;refine Qc (λb42:List (List Int)×List (List (List Int))×List (List Int)=>⟨Ya w_ c_ [(6,iV s40.2.2.2),(7,.own 5 0 b42.2.1.length),(8,.own 6 0 b42.2.2.length)],YC ((1,.mix 9 [(Y0t c_ w_ (Y0z s40 [.own 4 0 b42.1.length]))])::YZ s40 [(4,.row 1 (Ls b42.1)),(5,.row 1 (Es eL b42.2.1)),(6,.mix 1 (Ls b42.2.2))]),7⟩) (λb42=>b42=e42) ?_ ?_
   ·refine Q5 (Qm h (λs59:List (List Int)×List (List (List Int))×List (List Int)×Int=>⟨Ya w_ c_ [(6,iV s40.2.2.2),(7,.own 5 0 s59.2.1.length),(8,.own 6 0 s59.2.2.1.length),(9,iV s59.2.2.2)],Yb c_ w_ s40 s59 [(5,.row 1 (Es eL s59.2.1)),(6,.mix 1 (Ls s59.2.2.1))],7⟩) (Q2M ⟨Ya w_ c_ [(6,iV s40.2.2.2),(7,.own 5 0 0),(8,.own 6 0 0),(9,iV 0)],Yr c_ w_ s40 [(5,.row 1 (Es eL [])),(6,.mix 1 [])],7⟩ (Wk.nils [] (by simp) (by simp) (by simp[nlA]) (by simp[entN_self,entN_mm,entN_mr,nlL,nlA,BN]) (by simp)) (wkI 7)) ?_);clear h;intro k59 s59 c59 h hk59;refine Q0 (Q0 (rxQ hN λK hK=>?_));simp;(repeat refine sdQ ?_);refine hK _ ?_;clear hK K;refine tn (Q6 rfl (λg=>?_) λg=>?_)
    ·have g60:s59.2.2.2<c_.n:=gQ;clear g;replace h:=if_l g60 h;refine Q7 (tn (Q0 ?_));replace⟨e61,h,h61⟩:=bind_some h;refine Qc (λb61:List (List Int)×List (List (List Int))×List (List Int)=>⟨Ya w_ c_ [(6,iV s40.2.2.2),(7,.own 5 0 b61.2.1.length),(8,.own 6 0 b61.2.2.length),(9,iV s59.2.2.2)],YC ((1,.mix 9 [(Y0t c_ w_ (Y0z s40 [.own 4 0 b61.1.length]))])::YZ s40 [(4,.row 1 (Ls b61.1)),(5,.row 1 (Es eL b61.2.1)),(6,.mix 1 (Ls b61.2.2))]),7⟩) (λb61=>b61=e61) ?_ ?_
     ·refine Q5 (Q0 (rxQ hN λK hK=>?_));simp;(repeat with_reducible refine sdQ ?_);replace⟨v62,hv62,h⟩:=bind_some h;refine QG (fz:=[]) (Q5H _ _ _ _ v62 hv62) (.cons (.aggL (.cons .val (.cons .lst (.cons .lst (.cons .lst (.cons .lst .nil)))))) (.cons .lst (.cons .val (.cons .val .nil)))) ?_;simp;(repeat refine sdQ ?_);refine hK _ ?_;clear hK K;refine tn (Q4 (st':=⟨Ya w_ c_ [(6,iV s40.2.2.2),(7,.own 5 0 s59.2.1.length),(8,.own 6 0 s59.2.2.1.length),(9,iV s59.2.2.2),(10,.own 7 0 v62.length)],Yb c_ w_ s40 s59 [(5,.row 1 (Es eL s59.2.1)),(6,.mix 1 (Ls s59.2.2.1)),(7,.row 1 (Ls v62))],8⟩) (wkI 8) (Q0 (rxQ hN λK hK=>?_)));simp;(repeat with_reducible refine sdQ ?_);replace⟨v63,hv63,h⟩:=bind_some h;refine QG (fz:=[]) (Q6T _ _ _ v63 hv63) (.cons (.aggL (.cons .val (.cons .lst (.cons .lst (.cons .lst (.cons .lst .nil)))))) (.cons .lst (.cons .w .nil))) ?_;simp;(repeat refine sdQ ?_);refine hK _ ?_;clear hK K;refine tn (Q4 (st':=⟨Ya w_ c_ [(6,iV s40.2.2.2),(7,.own 5 0 s59.2.1.length),(8,.own 6 0 s59.2.2.1.length),(9,iV s59.2.2.2),(10,.own 7 0 v62.length),(11,.own 8 0 v63.length)],Yb c_ w_ s40 s59 [(5,.row 1 (Es eL s59.2.1)),(6,.mix 1 (Ls s59.2.2.1)),(7,.row 1 (Ls v62)),(8,rI v63)],9⟩) (wkI 9) (Q0 (rxQ hN λK hK=>?_)));replace⟨a64,h⟩:=Q1 h;(try simp only[qD,qH,zS]at a64);simp[a64];(repeat refine sdQ ?_);refine hK _ (tn (Q4 (st':=⟨Ya w_ c_ [(6,iV s40.2.2.2),(7,.own 5 0 ((s59.2.1++[v62]).length)),(8,.own 6 0 s59.2.2.1.length),(9,iV s59.2.2.2),(11,.own 7 0 v63.length)],Yb c_ w_ s40 s59 [(5,.row 1 (Es eL (s59.2.1++[v62]))),(6,.mix 1 (Ls s59.2.2.1)),(7,rI v63)],8⟩) (wkQ [(0,0),(1,1),(2,2),(3,3),(4,4),(10,5),(6,6),(8,7)]) (Q0 ?_)));clear hK K
      refine Q4 (st':=⟨Ya w_ c_ [(6,iV s40.2.2.2),(7,.own 5 0 ((s59.2.1++[v62]).length)),(8,.own 6 0 s59.2.2.1.length),(9,iV s59.2.2.2),(11,lI v63)],Yb c_ w_ s40 s59 [(5,.row 1 (Es eL (s59.2.1++[v62]))),(6,.mix 1 (Ls s59.2.2.1))],8⟩) (Wk.frzD hW [7] (Q5f (.inl rfl) (Q5f (.inl rfl) (Q5f (.inl rfl) (Q5f (.inl rfl) (Q5f (.inl rfl) (Q5f (.inl rfl) (Q5f (.inl rfl) (Q5f (.inl rfl) (Q5f (.inr (.inr (.row rfl (by simp) (by simp)))) frz_n))))))))) rfl (by simp[look])) (rxF [46] hN λK hK=>?_);replace⟨a65,h⟩:=Q1 h;(try simp only[qD,qH,zS]at a65);simp[a65];(repeat refine sdQ ?_);refine hK _ ?_;clear hK K;refine tn (Q4 (st':=⟨Ya w_ c_ ((6,iV s40.2.2.2)::YQ s59 v62 v63 []),Yb c_ w_ s40 s59 [(5,.row 1 (Es eL (s59.2.1++[v62]))),(6,.mix 1 (Ls (s59.2.2.1++[v63])))],7⟩) (wkQ [(0,0),(1,1),(2,2),(3,3),(4,4),(5,5),(9,6)]) (Q0 (rxQ hN λK hK=>?_)));simp;(repeat refine sdQ ?_);refine hK _ (tn (Q4 (st':=⟨Ya w_ c_ ((6,iV s40.2.2.2)::YQ s59 v62 v63 [(12,iV 0)]),Yb c_ w_ s40 s59 [(5,.row 1 (Es eL (s59.2.1++[v62]))),(6,.mix 1 (Ls (s59.2.2.1++[v63])))],7⟩) (wkI 7) (Q5 ?_)));clear hK K;replace⟨e70,he70,h70⟩:=bind_some h
      refine Qm he70 (λs70:List (List Int)×Int=>⟨Ya w_ c_ ((6,iV s40.2.2.2)::YQ s59 v62 v63 [(12,iV s70.2)]),YC ((1,.mix 9 [(Y0t c_ w_ (Y0z s40 [.own 4 0 s70.1.length]))])::YZ s40 [(4,.row 1 (Ls s70.1)),(5,.row 1 (Es eL (s59.2.1++[v62]))),(6,.mix 1 (Ls (s59.2.2.1++[v63])))]),7⟩) (wkI 7) ?_;intro k70 s70 c70 h hk70;refine Q0 (Q0 (rxQ hN λK hK=>?_));simp;(repeat with_reducible refine sdQ ?_);replace⟨v71,hv71,h⟩:=bind_some h;refine QG (fz:=[]) (Qbv _ v71 hv71) (.cons .lst .nil) ?_;simp;(repeat refine sdQ ?_);refine hK _ ?_;clear hK K;refine tn (Q4 (st':=⟨Ya w_ c_ ((6,iV s40.2.2.2)::YQ s59 v62 v63 [(12,iV s70.2),(50,.val (.bool (decide (s70.2<v71))))]),YC ((1,.mix 9 [(Y0t c_ w_ (Y0z s40 [.own 4 0 s70.1.length]))])::YZ s40 [(4,.row 1 (Ls s70.1)),(5,.row 1 (Es eL (s59.2.1++[v62]))),(6,.mix 1 (Ls (s59.2.2.1++[v63])))]),7⟩) (wkI 7) (Q6 rfl (λg=>?_) λg=>?_))
      ·have g72:s70.2<v71:=gQ;clear g;replace h:=if_l g72 h;refine Q7 (tn (Q0 (Q5 (rxQ hN λK hK=>?_))));replace⟨a73,h⟩:=Q1 h;(try simp only[qD,qH,zS]at a73);simp[a73];(repeat refine sdQ ?_);refine hK _ ?_;clear hK K;refine bn (tn (Q4 (st':=⟨Ya w_ c_ ((6,iV s40.2.2.2)::YQ s59 v62 v63 [(12,iV s70.2)]),YC ((1,.mix 9 [(Y0t c_ w_ (Y0z s40 [.own 4 0 ((s70.1++[[s40.2.2.2,s59.2.2.2,s70.2]]).length)]))])::YZ s40 [(4,.row 1 (Ls (s70.1++[[s40.2.2.2,s59.2.2.2,s70.2]]))),(5,.row 1 (Es eL (s59.2.1++[v62]))),(6,.mix 1 (Ls (s59.2.2.1++[v63])))]),7⟩) (wkQ [(0,0),(1,1),(2,2),(3,3),(9,4),(5,5),(6,6)]) (rxQ hN λK hK=>?_)));replace⟨a74,h⟩:=Q1 h;simp[Qg a74];(repeat refine sdQ ?_);refine hK _ ?_;clear hK K;cases h;exact rn (s':=(s70.1++[[s40.2.2.2,s59.2.2.2,s70.2]],s70.2+1)) hk70 (wkI 7)
      have g72:¬(s70.2<v71):=gQ;clear g;replace h:=if_r g72 h;refine Qj (tx (lx (bh (bn ?_))));cases h;have q:_=e70:=hk70;have h:=h70;rw[←q]at h;clear q;(try dsimp only at h);exact jn (b:=(s70.1,s59.2.1++[v62],s59.2.2.1++[v63])) (yJ h) (wkI 7)
     intro b61 hb61;have h:=h61;(try rw[←hb61]at h);clear h61;(try dsimp only at h);refine rxQ hN λK hK=>?_;replace⟨a75,h⟩:=Q1 h;simp[Qg a75];(repeat refine sdQ ?_);refine hK _ ?_;clear hK K;cases h;exact rn (s':=(b61.1,b61.2.1,b61.2.2,s59.2.2.2+1)) hk59 (wkI 7)
    have g60:¬(s59.2.2.2<c_.n):=gQ;clear g;replace h:=if_r g60 h;refine Qj (tx (lx (bh ?_)));cases h;exact jn (b:=(s59.1,s59.2.1,s59.2.2.1)) hk59 (wkI 7)
   intro b42 hb42;have h:=h42;(try rw[←hb42]at h);clear h42;(try dsimp only at h);refine Q0 (rxQ hN λK hK=>?_);replace⟨a76,h⟩:=Q1 h;(try simp only[qD,qH,zS]at a76);simp[a76];(repeat refine sdQ ?_);refine hK _ ?_;clear hK K;refine tn (Q4 (st':=⟨Ya w_ c_ [(6,iV s40.2.2.2),(8,.own 5 0 b42.2.2.length)],YC [(1,.mix 9 [(Y0t c_ w_ [.own 2 0 ((s40.1++[b42.2.1]).length),.own 3 0 s40.2.1.length,.own 4 0 b42.1.length])]),(2,.row 1 (Es (λx=>[.lst true 1 (Es eL x)]) (s40.1++[b42.2.1]))),(3,.mix 1 (Es eL s40.2.1)),(4,.row 1 (Ls b42.1)),(5,.mix 1 (Ls b42.2.2))],6⟩) (wkQ [(0,0),(1,1),(8,2),(3,3),(4,4),(6,5)]) (Q4 (st':=⟨Ya w_ c_ [(6,iV s40.2.2.2),(8,.lst true 1 (Ls b42.2.2))],YC [(1,.mix 9 [(Y0t c_ w_ [.own 2 0 ((s40.1++[b42.2.1]).length),.own 3 0 s40.2.1.length,.own 4 0 b42.1.length])]),(2,.row 1 (Es (λx=>[.lst true 1 (Es eL x)]) (s40.1++[b42.2.1]))),(3,.mix 1 (Es eL s40.2.1)),(4,.row 1 (Ls b42.1))],6⟩) (Wk.frzL hW (j:=5) rfl (Q7d (by simp[eL,QI,CN])) (by simp[St.get,look]) rfl (by simp[look])) (rxF [72] hN λK hK=>?_)));replace⟨a77,h⟩:=Q1 h;(try simp only[qD,qH,zS]at a77);simp[a77];(repeat refine sdQ ?_);refine hK _ ?_;clear hK K;refine bn (tn (Q4 (st':=⟨Ya w_ c_ [(6,iV s40.2.2.2)],YC [(1,.mix 9 [(Y0t c_ w_ [.own 2 0 ((s40.1++[b42.2.1]).length),.own 3 0 ((s40.2.1++[b42.2.2]).length),.own 4 0 b42.1.length])]),(2,.row 1 (Es (λx=>[.lst true 1 (Es eL x)]) (s40.1++[b42.2.1]))),(3,.mix 1 (Es eL (s40.2.1++[b42.2.2]))),(4,.row 1 (Ls b42.1))],5⟩) (wkQ [(0,0),(1,1),(2,2),(7,3),(4,4)]) (rxQ hN λK hK=>?_)));replace⟨a78,h⟩:=Q1 h;simp[Qg a78];(repeat refine sdQ ?_);refine hK _ ?_;clear hK K;cases h;exact rn (s':=(s40.1++[b42.2.1],s40.2.1++[b42.2.2],b42.1,s40.2.2.2+1)) hk40 (wkI 5)
  have g41:¬(s40.2.2.2<c_.n):=gQ;clear g;replace h:=if_r g41 h;refine Qj (tx (lx (bh ?_)));cases h;exact jn (b:=(s40.1,s40.2.1,s40.2.2.1)) hk40 (wkI 5)
 intro b1 hb1;have h:=h1;try rw[←hb1]at h
 clear h1;try dsimp only at h
 refine Q0 (rxQ hN λK hK=>?_);simp;repeat refine sdQ ?_
 refine hK _ (tn (Q4 (st':=⟨[(4,.adr 0 0 0)],[(0,.mix 9 [(Y0t c_ w_ [.own 1 0 b1.1.length,.own 2 0 b1.2.1.length,.own 3 0 b1.2.2.length])]),(1,.row 1 (Es (λx=>[.lst true 1 (Es eL x)]) b1.1)),(2,.mix 1 (Es eL b1.2.1)),(3,.row 1 (Ls b1.2.2))],4⟩) (wkQ [(0,0),(2,1),(3,2),(4,3)]) (Qi ?_)));clear hK K;have hr:=yJ h;rw[←hr];exact RetFG.mk' (.cell tf_47 rfl rfl rfl (by simp) (by simp) .nil) (.cons (.aggL (.cons .val (.cons .lst (.cons .lst (.cons .lst (.cons .lst (.cons .lst (.cons .w (.cons (.smix rfl (by simp) (Q7d (by simp[eL,QI,QX,CN]))) (.cons .w .nil)))))))))) .nil)
section
attribute [local simp] Qa QD Qo QM Qx
def tbW{α:Type}(f:Nat→α)(n:Nat):List α:=(List.range n).map f
theorem Q1R{α:Type}(f:Nat→α)(n:Nat):tbW f (n+1)=tbW f n++[f n]:=by simp[tbW,List.range_succ]
theorem QK{α:Type}(f:Nat→α)(n:Nat):(tbW f n).length=n:=by simp[tbW]
def row3(x y j:Nat):List Int:=[(x:Int),(y:Int),(j:Int)]
def Q3n(c:Cat)(w:List Int)(x y:Nat):List (List Int):=tbW (row3 x y) (kT c w x y)
def Q1W(c:Cat)(w:List Int)(x:Nat)(m:Nat):List (List Int):=catN (Q3n c w x) m
def Ql(c:Cat)(w:List Int)(m:Nat):List (List Int):=catN (λx=>Q1W c w x c.n.toNat) m
def SmT(c:Cat)(w:List Int):Prop:=∀x y:Nat,x<c.n.toNat→y<c.n.toNat→nT c w x y≤200
theorem rowsP_len{c:Cat}{w:List Int}(hS:SmT c w){x y:Nat}(hx:x<c.n.toNat)(hy:y<c.n.toNat):(Q3n c w x y).length≤200:=by
 have:kT c w x y≤nT c w x y:=Q8l _ _;have:=hS x y hx hy;simp only[Q3n,QK];omega
theorem Q6u{c:Cat}{w:List Int}(hc:c.Is)(hS:SmT c w){x m:Nat}(hx:x<c.n.toNat)(hm:m≤c.n.toNat):(Q1W c w x m).length≤1600:=by
 have hn:=hc.nums;have:=Q24 (Q3n c w x) 200 m λy hy=>rowsP_len hS hx (by omega);have:m*200≤8*200:=Nat.mul_le_mul (by omega) (qE _);unfold Q1W;omega
theorem Q32{c:Cat}{w:List Int}(hc:c.Is)(hS:SmT c w){m:Nat}(hm:m≤c.n.toNat):(Ql c w m).length≤12800:=by
 have hn:=hc.nums;have:=Q24 (λx=>Q1W c w x c.n.toNat) 1600 m λx hx=>Q6u hc hS (by omega) (qE _);have:m*1600≤8*1600:=Nat.mul_le_mul (by omega) (qE _);unfold Ql;omega
def spW(c:Cat)(w:List Int)(x y:Nat):List (List Int):=(spT c w x y).map trwS
def clW(c:Cat)(w:List Int)(x y:Nat):List Int:=clT c w x y
def frW(c:Cat)(w:List Int):XF:=⟨c,w,tbW (λx=>tbW (spW c w x) c.n.toNat) c.n.toNat,tbW (λx=>tbW (clW c w x) c.n.toNat) c.n.toNat,Ql c w c.n.toNat⟩
theorem Qae{c:Cat}(hc:c.Is){w:List Int}(hS:SmT c w):Q2k c w=some (frW c w):=by
 have hn:=hc.nums;unfold Q2k;refine Q6l (σ:=List (List (List (List Int)))×List (List (List Int))×List (List Int)×Int) c.n.toNat (λx=>(tbW (λx=>tbW (spW c w x) c.n.toNat) x,tbW (λx=>tbW (clW c w x) c.n.toNat) x,Ql c w x,(x:Int))) (e:=(tbW (λx=>tbW (spW c w x) c.n.toNat) c.n.toNat,tbW (λx=>tbW (clW c w x) c.n.toNat) c.n.toNat,Ql c w c.n.toNat)) rfl (by omega) (λx hx=>?_) (by simp only;rw[if_neg (by omega)]) rfl;have lX:=Q32 hc hS (m:=x) (by omega);simp only;rw[if_pos (by omega)];refine Q6l (σ:=List (List Int)×List (List (List Int))×List (List Int)×Int) c.n.toNat (λy=>(Ql c w x++Q1W c w x y,tbW (spW c w x) y,tbW (clW c w x) y,(y:Int))) (e:=(Ql c w x++Q1W c w x c.n.toNat,tbW (spW c w x) c.n.toNat,tbW (clW c w x) c.n.toNat)) (by simp[Q1W,catN,tbW]) (by omega) (λy hy=>?_) (by simp only;rw[if_neg (by omega)]) ?_
 ·have lY:=Q6u hc hS hx (m:=y) (by omega);have hN:=hS x y hx hy;have eK:kT c w x y≤nT c w x y:=Q8l _ _;simp only;rw[if_pos (by omega),e_spS hc];simp only[yR];rw[show Q1O c w ((spT c w x y).map trwS)=some (clT c w x y) from Qb2 hc (spT_okT hc w x y) hN];simp only[yR];rw[Q2 (by rw[qD,QK];simp;omega),Q2 (by rw[qD,QK];simp;omega)];rw[show∀(B:List (List Int)×Int→Option (Ctl (List (List Int)×Int) (List (List Int)×List (List (List Int))×List (List Int)))) (K:List (List Int)×List (List (List Int))×List (List Int)→Option (Ctl (List (List Int)×List (List (List Int))×List (List Int)×Int) (List (List Int)×List (List (List Int))×List (List Int)))) e,Qd B fuel (Ql c w x++Q1W c w x y,0)=some e→(((Qd B fuel (Ql c w x++Q1W c w x y,0)).bind λp70=>some p70).bind K)=K e from λB K e h=>by rw[h];rfl];rotate_left
  ·exact(Ql c w x++Q1W c w x (y+1),tbW (spW c w x) (y+1),tbW (clW c w x) (y+1))
  ·refine Q1d (λk:Nat=>(Ql c w x++Q1W c w x y++tbW (row3 x y) k,(k:Int))) (kT c w x y) (by simp[tbW]) (by omega) (λk hk=>?_) ?_
   ·simp only;rw[e_topT hN];simp only[yR];rw[if_pos (by omega),Q2 (by simp only[qD,QK,xA];omega),Q2 (by unfold B64;omega),Q1R];simp only[zC];rfl
   simp only;rw[e_topT hN];simp only[yR];rw[if_neg (by omega),Q1R,Q1R];unfold Q1W;rw[Q12,zC];rfl
  simp only;rw[Q2 (by unfold B64;omega)];rfl
 simp only;rw[Q2 (by rw[qD,QK];simp;omega),Q2 (by rw[qD,QK];simp;omega),Q2 (by unfold B64;omega),Q1R,Q1R];unfold Ql;rw[Q12];rfl
end
section
attribute [local simp] Qa QD Qo QM Qx
def smF(T:List Tr)(cl:List Int):Nat→List (X3×Int)
 |0=>[]
 |i+1=>tset (trwX (tG T i)) (ix cl i) (smF T cl i)
theorem Q5p{α β:Type}[DecidableEq α](k:α)(v:β):∀m:List (α×β),(tset k v m).length≤m.length+1
 |[]=>by simp[tset]
 |(a,x)::r=>by
  have:=Q5p k v r;simp only[tset];split<;>simp<;>omega
theorem smF_len(T:List Tr)(cl:List Int):∀i,(smF T cl i).length≤i
 |0=>by simp[smF]
 |i+1=>by
  have h1:=Q5p (trwX (tG T i)) (ix cl i) (smF T cl i);have h2:=smF_len T cl i;simp only[smF];omega
theorem trwX_inj{s t:Tr}(h:trwX s=trwX t):s=t:=by
 obtain⟨a,b,d⟩:=s;obtain⟨a',b',d'⟩:=t;simp only[trwX,X3.mk.injEq]at h;obtain⟨rfl,rfl,rfl⟩:=h;rfl
theorem tG_inj{T:List Tr}(hT:T.Nodup){i j:Nat}(hi:i<T.length)(hj:j<T.length)(e:tG T i=tG T j):i=j:=by
 simp only[tG,qB,qF hi,qF hj,zL]at e;rcases Nat.lt_trichotomy i j with d|d|d
 ·exact absurd e (List.pairwise_iff_getElem.1 hT i j hi hj d)
 ·exact d
 exact absurd e.symm (List.pairwise_iff_getElem.1 hT j i hj hi d)
theorem QaP{T:List Tr}(hT:T.Nodup)(cl:List Int){i:Nat}:∀{n:Nat},n≤T.length→i<n→QO (trwX (tG T i)) (smF T cl n)=some (ix cl i)
 |0,_,h=>by omega
 |n+1,hn,h=>by
  simp only[smF];rw[Q28]
  by_cases e:n=i
  ·subst e;rw[if_pos rfl]
  rw[if_neg (λq=>e (tG_inj hT (by omega) (by omega) (trwX_inj q)))];exact QaP hT cl (by omega) (by omega)
def fmY(c:Cat)(w:List Int)(M:List (Ends×Int))(x:Nat):Nat→List (Ends×Int)
 |0=>M
 |y+1=>tset (⟨x,y⟩:Ends) ((Ql c w x++Q1W c w x y).length:Int) (fmY c w M x y)
def fmX(c:Cat)(w:List Int):Nat→List (Ends×Int)
 |0=>[]
 |x+1=>fmY c w (fmX c w x) x c.n.toNat
def smY(c:Cat)(w:List Int)(M:List (Ends×List (X3×Int)))(x:Nat):Nat→List (Ends×List (X3×Int))
 |0=>M
 |y+1=>tset (⟨x,y⟩:Ends) (smF (spT c w x y) (clT c w x y) (nT c w x y)) (smY c w M x y)
def smX(c:Cat)(w:List Int):Nat→List (Ends×List (X3×Int))
 |0=>[]
 |x+1=>smY c w (smX c w x) x c.n.toNat
theorem ends_ne{x y x' y':Nat}(h:¬(x=x'∧y=y')):¬(⟨x,y⟩:Ends)=⟨x',y'⟩:=by
 intro e;simp only[Ends.mk.injEq]at e;exact h ⟨by omega,by omega⟩
theorem Q9p(c:Cat)(w:List Int)(M:List (Ends×Int))(x:Nat):∀y,(fmY c w M x y).length≤M.length+y
 |0=>by simp[fmY]
 |y+1=>by
  have h1:=Q5p (⟨x,y⟩:Ends) ((Ql c w x++Q1W c w x y).length:Int) (fmY c w M x y);have h2:=Q9p c w M x y;simp only[fmY];omega
theorem fmX_len(c:Cat)(w:List Int):∀x,(fmX c w x).length≤x*c.n.toNat
 |0=>by simp[fmX]
 |x+1=>by
  have h1:=Q9p c w (fmX c w x) x c.n.toNat;have h2:=fmX_len c w x;simp only[fmX];rw[Nat.add_mul];omega
theorem Q9J(c:Cat)(w:List Int)(M:List (Ends×List (X3×Int)))(x:Nat):∀y,(smY c w M x y).length≤M.length+y
 |0=>by simp[smY]
 |y+1=>by
  have h1:=Q5p (⟨x,y⟩:Ends) (smF (spT c w x y) (clT c w x y) (nT c w x y)) (smY c w M x y);have h2:=Q9J c w M x y;simp only[smY];omega
theorem smX_len(c:Cat)(w:List Int):∀x,(smX c w x).length≤x*c.n.toNat
 |0=>by simp[smX]
 |x+1=>by
  have h1:=Q9J c w (smX c w x) x c.n.toNat;have h2:=smX_len c w x;simp only[smX];rw[Nat.add_mul];omega
theorem Qak{c:Cat}{w:List Int}{M:List (Ends×Int)}{x x' y:Nat}:∀{m:Nat},QO (⟨x',y⟩:Ends) (fmY c w M x m)=if x'=x∧y<m then some ((Ql c w x++Q1W c w x y).length:Int)else QO (⟨x',y⟩:Ends) M
 |0=>by simp[fmY]
 |m+1=>by
  simp only[fmY];rw[Q28,Qak (m:=m)]
  by_cases e:x'=x∧y=m
  ·obtain⟨rfl,rfl⟩:=e;rw[if_pos rfl,if_pos ⟨rfl,by omega⟩]
  rw[if_neg (λq=>ends_ne (λk=>e ⟨k.1.symm,k.2.symm⟩) q)]
  by_cases h:x'=x∧y<m
  ·rw[if_pos h,if_pos ⟨h.1,by omega⟩]
  rw[if_neg h,if_neg (λk=>h ⟨k.1,by
   have:¬y=m:=λq=>e ⟨k.1,q⟩;omega⟩)]
theorem Qaj{c:Cat}{w:List Int}{x y:Nat}(hy:y<c.n.toNat):∀{m:Nat},QO (⟨x,y⟩:Ends) (fmX c w m)=if x<m then some ((Ql c w x++Q1W c w x y).length:Int)else none
 |0=>by simp[fmX,QO]
 |m+1=>by
  simp only[fmX];rw[Qak,Qaj hy (m:=m)]
  by_cases e:x=m
  ·subst e;rw[if_pos ⟨rfl,hy⟩,if_pos (by omega)]
  rw[if_neg (λq=>e q.1)]
  by_cases h:x<m
  ·rw[if_pos h,if_pos (by omega)]
  rw[if_neg h,if_neg (by omega)]
theorem QaR{c:Cat}{w:List Int}{M:List (Ends×List (X3×Int))}{x x' y:Nat}:∀{m:Nat},QO (⟨x',y⟩:Ends) (smY c w M x m)=if x'=x∧y<m then some (smF (spT c w x y) (clT c w x y) (nT c w x y))else QO (⟨x',y⟩:Ends) M
 |0=>by simp[smY]
 |m+1=>by
  simp only[smY];rw[Q28,QaR (m:=m)]
  by_cases e:x'=x∧y=m
  ·obtain⟨rfl,rfl⟩:=e;rw[if_pos rfl,if_pos ⟨rfl,by omega⟩]
  rw[if_neg (λq=>ends_ne (λk=>e ⟨k.1.symm,k.2.symm⟩) q)]
  by_cases h:x'=x∧y<m
  ·rw[if_pos h,if_pos ⟨h.1,by omega⟩]
  rw[if_neg h,if_neg (λk=>h ⟨k.1,by
   have:¬y=m:=λq=>e ⟨k.1,q⟩;omega⟩)]
theorem QaQ{c:Cat}{w:List Int}{x y:Nat}(hy:y<c.n.toNat):∀{m:Nat},QO (⟨x,y⟩:Ends) (smX c w m)=if x<m then some (smF (spT c w x y) (clT c w x y) (nT c w x y))else none
 |0=>by simp[smX,QO]
 |m+1=>by
  simp only[smX];rw[QaR,QaQ hy (m:=m)]
  by_cases e:x=m
  ·subst e;rw[if_pos ⟨rfl,hy⟩,if_pos (by omega)]
  rw[if_neg (λq=>e q.1)]
  by_cases h:x<m
  ·rw[if_pos h,if_pos (by omega)]
  rw[if_neg h,if_neg (by omega)]
end
attribute [local simp] unk unA unE unT unC flat eL eI Qh QI Q4x Qz Q1p Q13 Cat.cells Ends.cells XD.cells XL.cells X3.cells
def Qy(l_:XL)(x_:Int)(y_:Int)(s_:X3):Option Int:=
 ass (B64 (((QO (⟨x_,y_⟩:Ends) l_.first_).getD 0)+((QO s_ ((QO (⟨x_,y_⟩:Ends) l_.spans_).getD [])).getD 0)))<|
 some (((QO (⟨x_,y_⟩:Ends) l_.first_).getD 0)+((QO s_ ((QO (⟨x_,y_⟩:Ends) l_.spans_).getD [])).getD 0))
@[simp] abbrev Y0A(a:XL)(b:List (AV)):List (AV):=.rptr (Cat.cells true a.w_.c_)::lI a.w_.list_::.lst true 1 (Bs a.w_.there_)::b
@[simp] abbrev Y3(a:XL)(b:List (Nat×AV)):List (Nat×AV):=(0,.rptr [.rptr (Y0A a []),iV a.category_.n,lI a.category_.fr,lI a.category_.to,lI a.category_.id,.lst true 1 (Ls a.category_.cs),.cmap (.st 2) (Q1h a.first_),.cmapM (.st 2) (.st 3) (EC Ends.kv Q8 a.spans_),.lst true 3 (Es (X3.cells true) a.leaders_)])::b
theorem Q1G(l_:XL)(x_:Int)(y_:Int)(s_:X3)(r:Int)(h:Qy l_ x_ y_ s_=some r):Contract Tryz.prog 42 [.rptr (l_.cells true),iV x_,iV y_,.agg (s_.cells true)] (iV r):=by
 refine Q9 (rvs:=[.tmp 8]) (rs:=[iV r]) Tryz.func42 rfl rfl rfl rfl (by simp[Tryz.f42]) λF hN hP=>?_;unfold Qy at h;refine Q0 (runQ hN λK hK=>?_);simp;repeat refine sdQ ?_
 refine hK _ ?_;clear hK K;refine tn (Q4 (st':=⟨Y3 l_ (YV x_ y_ [(7,.adr 0 0 0)]),[(0,.mix 3 [(X3.cells true s_)])],1⟩) (wkQ [(0,0)]) (Q0 (runQ hN λK hK=>?_)));simp;repeat refine sdQ ?_
 refine hK _ ?_;clear hK K;refine tn (Q4 (st':=⟨Y3 l_ [(7,.adr 0 0 0),(9,.adr 1 0 0)],[(0,.mix 3 [(X3.cells true s_)]),(1,.mix 2 [[iV x_,iV y_]])],2⟩) (wkQ [(0,0),(1,1)]) (Q0 (rxQ hN λK hK=>?_)));simp;repeat with_reducible refine sdQ ?_
 refine Q2t (fz:=[]) (mp_lookCE (em:=Q8) (k:=(⟨x_,y_⟩:Ends)) (d:=[]) (xs:=l_.spans_) Ends.kv_inj rfl rfl mf_61 rfl (by simp[MK.is,Ends.kv]) rfl) ?_;replace⟨a1,h⟩:=Q1 h;simp[Qg a1];repeat refine sdQ ?_
 refine hK _ (tn (Q4 (st':=⟨[(8,iV (((QO (⟨x_,y_⟩:Ends) l_.first_).getD 0)+((QO s_ ((QO (⟨x_,y_⟩:Ends) l_.spans_).getD [])).getD 0)))],[],0⟩) (wkQ []) (Qi ?_)));clear hK K;have hr:=yJ h;rw[←hr];refine⟨_,(.tmp .nil),?_⟩;refine⟨(.one rfl rfl .nil),[iV (((QO (⟨x_,y_⟩:Ends) l_.first_).getD 0)+((QO s_ ((QO (⟨x_,y_⟩:Ends) l_.spans_).getD [])).getD 0))],[],by simp[BN],by simp,(yN _)⟩
attribute [local simp] unk unA unE unT unC flat eL eI Qh QX XF.cells
def QT(l_:XF)(x_:Int)(y_:Int)(span_:List Int):Option Int:=
 ass (0≤x_∧x_<(l_.classes_.length:Int))<|
 ass (0≤y_∧y_<((gx l_.classes_ x_).length:Int))<|
 ass (0≤x_∧x_<(l_.spans_.length:Int))<|
 ass (0≤y_∧y_<((gx l_.spans_ x_).length:Int))<|
 (Q2y (gx (gx l_.spans_ x_) y_) span_).bind λv5=>
 ass (0≤v5∧v5<((rx (gx l_.classes_ x_) y_).length:Int))<|
 (Q2y l_.rows_ [x_,y_,ix (rx (gx l_.classes_ x_) y_) v5]).bind λv7=>
 some v7
theorem Q3X(l_:XF)(x_:Int)(y_:Int)(span_:List Int)(r:Int)(h:QT l_ x_ y_ span_=some r):Contract Tryz.prog 37 [.agg (l_.cells true),iV x_,iV y_,lI span_] (iV r):=by
 refine Q9 (rvs:=[.tmp 8]) (rs:=[iV r]) Tryz.func37 rfl rfl rfl rfl (by simp[Tryz.f37]) λF hN hP=>?_;unfold QT at h;refine Q0 (runQ hN λK hK=>?_);simp;repeat refine sdQ ?_
 refine hK _ ?_;clear hK K;refine tn (Q4 (st':=⟨YV x_ y_ [(3,lI span_),(4,.adr 0 0 0)],[(0,.mix 9 [(XF.cells true l_)])],1⟩) (wkQ [(0,0)]) (Q0 (runQ hN λK hK=>?_)));replace⟨a1,h⟩:=Q1 h;replace⟨a2,h⟩:=Q1 h;replace⟨a3,h⟩:=Q1 h;replace⟨a4,h⟩:=Q1 h;simp[at_E (c:=eL) a1,at_L a2,at_E (c:=(λx=>[.lst true 1 (Es eL x)])) a3,at_E (c:=eL) a4];repeat with_reducible refine sdQ ?_
 replace⟨v5,hv5,h⟩:=bind_some h;refine Q3 (Q6F _ _ v5 hv5) (.cons .lst (.cons .lst .nil)) ?_;replace⟨a6,h⟩:=Q1 h;simp[at_E (c:=eL) a1,at_L a2,at_E (c:=(λx=>[.lst true 1 (Es eL x)])) a3,at_E (c:=eL) a4,at_I a6];repeat with_reducible refine sdQ ?_
 replace⟨v7,hv7,h⟩:=bind_some h;refine Q3 (Q6F _ _ v7 hv7) (.cons .lst (.cons (.lits (es:=_) rfl (.cons rfl (.cons .val .nil) (.cons rfl (.cons .val .nil) (.cons rfl (.cons .val .nil) .nil))) rfl) .nil)) ?_;simp[at_E (c:=eL) a1,at_L a2,at_E (c:=(λx=>[.lst true 1 (Es eL x)])) a3,at_E (c:=eL) a4,at_I a6];repeat refine sdQ ?_
 refine hK _ (tn (Q4 (st':=⟨[(8,iV v7)],[],0⟩) (wkQ []) (Qi ?_)));clear hK K;have hr:=yJ h;rw[←hr];refine⟨_,(.tmp .nil),?_⟩;refine⟨(.one rfl rfl .nil),[iV v7],[],by simp[BN],by simp,(yN _)⟩
section
attribute [local simp] Qa QD Qo QM Qx
def numF(c:Cat)(w:List Int)(x y i:Nat):Int:=((Ql c w x++Q1W c w x y).length:Int)+ix (clT c w x y) i
theorem Q6t{c:Cat}{w:List Int}{x:Nat}:∀{m:Nat},x<m→∃R,Ql c w m=Ql c w x++Q1W c w x c.n.toNat++R
 |0,h=>by omega
 |m+1,h=>by
  unfold Ql;rw[Q12]
  by_cases e:x=m
  ·subst e;exact⟨[],by simp⟩
  obtain⟨R,hR⟩:=Q6t (c:=c) (w:=w) (x:=x) (m:=m) (by omega);unfold Ql at hR;exact⟨R++Q1W c w m c.n.toNat,by rw[hR];simp⟩
theorem Q6v{c:Cat}{w:List Int}{x y:Nat}:∀{m:Nat},y<m→∃R,Q1W c w x m=Q1W c w x y++Q3n c w x y++R
 |0,h=>by omega
 |m+1,h=>by
  unfold Q1W;rw[Q12]
  by_cases e:y=m
  ·subst e;exact⟨[],by simp⟩
  obtain⟨R,hR⟩:=Q6v (c:=c) (w:=w) (x:=x) (y:=y) (m:=m) (by omega);unfold Q1W at hR;exact⟨R++Q3n c w x m,by rw[hR];simp⟩
theorem row_at{c:Cat}{w:List Int}{x y j:Nat}(hx:x<c.n.toNat)(hy:y<c.n.toNat)(hj:j<kT c w x y):(Ql c w c.n.toNat)[(Ql c w x++Q1W c w x y).length+j]? =some (row3 x y j):=by
 obtain⟨R,hR⟩:=Q6t (c:=c) (w:=w) hx;obtain⟨R',hR'⟩:=Q6v (c:=c) (w:=w) (x:=x) hy;rw[hR,hR'];have e:Ql c w x++(Q1W c w x y++Q3n c w x y++R')++R=(Ql c w x++Q1W c w x y)++(Q3n c w x y++(R'++R)):=by simp
 rw[e,List.getElem?_append_right (by omega),Nat.add_sub_cancel_left,List.getElem?_append_left (by simp[Q3n,tbW];exact hj)];simp[Q3n,tbW,hj]
theorem mem_rowsX{c:Cat}{w:List Int}{r:List Int}:∀{m:Nat},r∈Ql c w m↔∃x y j:Nat,x<m∧y<c.n.toNat∧j<kT c w x y∧r=row3 x y j:=by
 intro m;unfold Ql;rw[mem_catN];constructor
 ·rintro ⟨x,hx,h⟩
  obtain⟨y,hy,h⟩:=mem_catN.1 h;simp only[Q3n,tbW,List.mem_map,yE]at h;obtain⟨j,hj,rfl⟩:=h;exact⟨x,y,j,hx,hy,hj,rfl⟩
 rintro ⟨x,y,j,hx,hy,hj,rfl⟩
 exact⟨x,hx,mem_catN.2 ⟨y,hy,by simp only[Q3n,tbW,List.mem_map,yE];exact⟨j,hj,rfl⟩⟩⟩
theorem Q83{x y j x' y' j':Nat}(h:row3 x y j=row3 x' y' j'):x=x'∧y=y'∧j=j':=by
 simp only[row3,List.cons.injEq,and_true]at h;omega
theorem Q7e(c:Cat)(w:List Int)(m:Nat):(Ql c w m).Nodup:=by
 unfold Ql;refine Q2T (λx _=>?_) λx x' hx _ r h h'=>?_
 ·unfold Q1W;refine Q2T (λy _=>?_) λy y' hy _ r h h'=>?_
  ·unfold Q3n tbW;refine List.Pairwise.map (R:=λa b=>a≠b) _ (λa b hab e=>hab (Q83 e).2.2) List.nodup_range
  simp only[Q3n,tbW,List.mem_map,yE]at h h';obtain⟨j,_,rfl⟩:=h;obtain⟨j',_,e⟩:=h';have:=(Q83 e).2.1;omega
 obtain⟨y,_,h⟩:=mem_catN.1 h;obtain⟨y',_,h'⟩:=mem_catN.1 h';simp only[Q3n,tbW,List.mem_map,yE]at h h';obtain⟨j,_,rfl⟩:=h;obtain⟨j',_,e⟩:=h';have:=(Q83 e).1;omega
theorem posL_at{L:List (List Int)}(hL:L.Nodup){i:Nat}{r:List Int}(h:L[i]? =some r):posL L r=(i:Int):=by
 obtain⟨hi,e⟩:=List.getElem?_eq_some_iff.1 h;have at':∀k (hk:k<L.length),rx L k=L[k]:=λk hk=>by simp[rx,qB,qF hk]
 unfold posL;refine Qal hi (by rw[at' i hi];exact e) λk hk q=>?_;rw[at' k (by omega),←e]at q;exact List.pairwise_iff_getElem.1 hL k i (by omega) hi hk q
theorem Q74{α:Type}[Inhabited α]{f:Nat→α}{n i:Nat}(h:i<n):gx (tbW f n) i=f i:=by simp[gx,tbW,qB,h]
theorem rx_tbW{f:Nat→List Int}{n i:Nat}(h:i<n):rx (tbW f n) i=f i:=by simp[rx,tbW,qB,h]
theorem trwS_inj{s t:Tr}(h:trwS s=trwS t):s=t:=by
 obtain⟨a,b,d⟩:=s;obtain⟨a',b',d'⟩:=t;simp only[trwS,trw3,List.cons.injEq,and_true]at h;obtain⟨rfl,rfl,rfl⟩:=h;rfl
theorem Q8X{c:Cat}{w:List Int}(hc:c.Is)(hS:SmT c w){x y i:Nat}(hx:x<c.n.toNat)(hy:y<c.n.toNat)(hi:i<nT c w x y):0≤numF c w x y i∧numF c w x y i<((Ql c w c.n.toNat).length:Int)∧numF c w x y i≤20000∧(Ql c w c.n.toNat)[(numF c w x y i).toNat]? =some [(x:Int),(y:Int),ix (clT c w x y) i]:=by
 obtain⟨h1,h2⟩:=Q70 (c:=c) (w:=w) (x:=x) (y:=y) hi;have h3:=row_at hx hy h2;have h4:=(List.getElem?_eq_some_iff.1 h3).1;have h5:=Q32 hc hS (m:=c.n.toNat) (qE _);have e:numF c w x y i=(((Ql c w x++Q1W c w x y).length+cn (rT c w x y) (rT c w x y i):Nat):Int):=by unfold numF;rw[h1];omega
 rw[e];refine⟨by omega,by omega,by omega,?_⟩;rw[yV,h3,h1];rfl
theorem e_numI{c:Cat}{w:List Int}(hc:c.Is)(hS:SmT c w){L:XL}(h1:L.first_=fmX c w c.n.toNat)(h2:L.spans_=smX c w c.n.toNat){x y i:Nat}(hx:x<c.n.toNat)(hy:y<c.n.toNat)(hi:i<nT c w x y):
  Qy L x y (trwX (tG (spT c w x y) i))=some (numF c w x y i):=by
 unfold Qy;have hb:=Q8X hc hS hx hy hi;have e:((QO (⟨x,y⟩:Ends) L.first_).getD 0)+((QO (trwX (tG (spT c w x y) i)) ((QO (⟨x,y⟩:Ends) L.spans_).getD [])).getD 0)=numF c w x y i:=by
  rw[h1,h2,Qaj hy,QaQ hy,if_pos hx,if_pos hx];simp only[zL];rw[show QO (trwX (tG (spT c w x y) i)) (smF (spT c w x y) (clT c w x y) (nT c w x y))=some (ix (clT c w x y) i) from QaP (Q90 c w x y) _ (qE _) hi];rfl
 rw[e,Q2 (by unfold B64;omega)]
theorem e_numS{c:Cat}{w:List Int}(hc:c.Is)(hS:SmT c w){x y i:Nat}(hx:x<c.n.toNat)(hy:y<c.n.toNat)(hi:i<nT c w x y):
  QT (frW c w) x y (trwS (tG (spT c w x y) i))=some (numF c w x y i):=by
 have hn:=hc.nums;have hN:=hS x y hx hy;have hb:=Q8X hc hS hx hy hi;have hl:=Q32 hc hS (m:=c.n.toNat) (qE _);unfold QT frW;simp only;rw[Q2 (by rw[QK];omega),Q74 hx,Q2 (by rw[QK];omega),Q2 (by rw[QK];omega),Q74 hx,Q2 (by rw[QK];omega),Q74 hy,rx_tbW hy];have hnd:((spT c w x y).map trwS).Nodup:=List.Pairwise.map (R:=λa b=>a≠b) _ (λa b hab e=>hab (trwS_inj e)) (Q90 c w x y);have hp:posL (spW c w x y) (trwS (tG (spT c w x y) i))=(i:Int):=posL_at hnd (by simp[tG,qB,qF (show i<(spT c w x y).length from hi)]);have hlen:(spW c w x y).length=nT c w x y:=by simp[spW,nT]
 rw[e_find (by omega),hp];simp only[yR];rw[Q2 (by show 0≤(i:Int)∧(i:Int)<((clT c w x y).length:Int);rw[Q5X];omega),e_find (by omega),show ix (clW c w x y) i=ix (clT c w x y) i from rfl,posL_at (Q7e c w _) hb.2.2.2,Int.toNat_of_nonneg hb.1];rfl
end
section
attribute [local simp] Qa QD Qo QM Qx
def smB(V:List X3)(v134:List Int):List (X3×Int)×Int→Option (Ctl (List (X3×Int)×Int) Te):=λs145=>
 if s145.2<(V.length:Int)then
  ass (0≤s145.2∧s145.2<(V.length:Int))<|
  ass (0≤s145.2∧s145.2<(v134.length:Int))<|
  ass (s145.1.length<1099511627776)<|
  ass (B64 (s145.2+1))<|
  some (yM (tset (gx V s145.2) (ix v134 s145.2) s145.1,s145.2+1))
 else
  some (yK s145.1)
theorem QaO{T:List Tr}{cl:List Int}(hl:T.length≤200)(he:cl.length=T.length):Qd (smB (T.map trwX) cl) fuel ([],0)=some (smF T cl T.length):=by
 refine Q1d (λi:Nat=>(smF T cl i,(i:Int))) T.length rfl (by omega) (λi hi=>?_) ?_
 ·have:=smF_len T cl i;unfold smB;simp only[yZ];rw[if_pos (by omega),Q2 (by omega),Q2 (by omega),Q2 (by omega),Q2 (by unfold B64;omega),Q9t hi];rfl
 unfold smB;simp only[yZ];rw[if_neg (by omega)]
def ldB(V:List X3)(v151:List Int)(x y:Int):List Int×List Int×List X3×Int→Option (Ctl (List Int×List Int×List X3×Int) (List Int×List Int×List X3)):=λs160=>
 if s160.2.2.2<(v151.length:Int)then
  ass (0≤s160.2.2.2∧s160.2.2.2<(v151.length:Int))<|
  ass (0≤ix v151 s160.2.2.2∧ix v151 s160.2.2.2<(V.length:Int))<|
  ass ((s160.2.2.1++[(gx V (ix v151 s160.2.2.2))]).length≤1073741824)<|
  ass ((s160.1++[x]).length≤1073741824)<|
  ass ((s160.2.1++[y]).length≤1073741824)<|
  ass (B64 (s160.2.2.2+1))<|
  some (yM (s160.1++[x],s160.2.1++[y],s160.2.2.1++[(gx V (ix v151 s160.2.2.2))],s160.2.2.2+1))
 else
  some (yK (s160.1,s160.2.1,s160.2.2.1))
def ldF(c:Cat)(w:List Int)(x y:Nat)(j:Nat):X3:=trwX (tG (spT c w x y) (ix (lds (rT c w x y) (nT c w x y)) j).toNat)
theorem Qat{c:Cat}{w:List Int}{x y:Nat}(hN:nT c w x y≤200){A B:List Int}{D:List X3}(hA:A.length≤100000)(hB:B.length≤100000)(hD:D.length≤100000):
  Qd (ldB ((spT c w x y).map trwX) (lds (rT c w x y) (nT c w x y)) x y) fuel (A,B,D,0)=some (A++tbW (λ_=>(x:Int)) (kT c w x y),B++tbW (λ_=>(y:Int)) (kT c w x y),D++tbW (ldF c w x y) (kT c w x y)):=by
 have hk:kT c w x y≤nT c w x y:=Q8l _ _;have hll:=ldT_len c w x y;refine Q1d (λj:Nat=>(A++tbW (λ_=>(x:Int)) j,B++tbW (λ_=>(y:Int)) j,D++tbW (ldF c w x y) j,(j:Int))) (kT c w x y) (by simp[tbW]) (by omega) (λj hj=>?_) ?_
 ·obtain⟨z,z1,z2,z3,z4⟩:=ldT hj;have hz:z<(spT c w x y).length:=z1;unfold ldB;simp only[yZ];rw[if_pos (by omega),Q2 (by omega),Q2 (by rw[z3];omega),Q2 (by simp only[qD,QK,xA];omega),Q2 (by simp only[qD,QK,xA];omega),Q2 (by simp only[qD,QK,xA];omega),Q2 (by unfold B64;omega)];rw[Q1R,Q1R,Q1R,z3,Q9t hz];have:ldF c w x y j=trwX (tG (spT c w x y) z):=by unfold ldF;rw[z3];rfl
  rw[this];simp only[zC];rfl
 unfold ldB;simp only;rw[if_neg (by omega)]
end
section
attribute [local simp] Qa QD Qo QM Qx
abbrev LoMd:=Tc
abbrev LoSt:=Tb
abbrev LoOu:=Unit⊕Ta
def locY(c:Cat)(w:List Int)(xx:Int):LoSt→Option (Ctl LoSt (LoOu⊕LoMd)):=λs129=>
     if s129.2.2.2.2.2.2<c.n then
      (
       (QL (wD c w) xx s129.2.2.2.2.2.2).bind λv132=>
       if(v132.length:Int)>200 then
        some (yT (yS ()))
       else
        (QB (wD c w) v132).bind λv134=>
        (Qt (⟨c.n,s129.1,s129.2.1,[],[]⟩:Cat)).bind λv135=>
        ass (s129.2.2.1.length<1099511627776)<|
        ass (s129.2.2.2.1.length<1099511627776)<|
        (Qd (smB v132 v134) fuel ([],0)).bind λb139=>
        (QR v134).bind λv151=>
        (Qd (ldB v132 v151 xx s129.2.2.2.2.2.2) fuel (s129.1,s129.2.1,s129.2.2.2.2.1,0)).bind λb152=>
        if s129.2.2.2.2.2.1=true then
         some (yS (b152.1,b152.2.1,tset (⟨xx,s129.2.2.2.2.2.2⟩:Ends) v135 s129.2.2.1,tset (⟨xx,s129.2.2.2.2.2.2⟩:Ends) b139 s129.2.2.2.1,b152.2.2,decide ((b152.2.2.length:Int)≤40)))
        else
         some (yS (b152.1,b152.2.1,tset (⟨xx,s129.2.2.2.2.2.2⟩:Ends) v135 s129.2.2.1,tset (⟨xx,s129.2.2.2.2.2.2⟩:Ends) b139 s129.2.2.2.1,b152.2.2,false)):Option ((Tc)⊕(Unit⊕Ta))).bind λe131=>
      match e131 with
      | .inl b131=>
       ass (B64 (s129.2.2.2.2.2.2+1))<|
       some (yM (b131.1,b131.2.1,b131.2.2.1,b131.2.2.2.1,b131.2.2.2.2.1,b131.2.2.2.2.2,s129.2.2.2.2.2.2+1))
      | .inr p131=>
       some (yK (yS p131))
     else
      some (yK (yT (s129.1,s129.2.1,s129.2.2.1,s129.2.2.2.1,s129.2.2.2.2.1,s129.2.2.2.2.2.1)))
def ldY(c:Cat)(w:List Int)(x m:Nat):List X3:=catN (λy=>tbW (ldF c w x y) (kT c w x y)) m
def ldX(c:Cat)(w:List Int)(m:Nat):List X3:=catN (λx=>ldY c w x c.n.toNat) m
def rwA(c:Cat)(w:List Int)(x y:Nat):List (List Int):=Ql c w x++Q1W c w x y
def sY(c:Cat)(w:List Int)(x y:Nat):LoSt:=((rwA c w x y).map (ix · 0),(rwA c w x y).map (ix · 1),fmY c w (fmX c w x) x y,smY c w (smX c w x) x y,ldX c w x++ldY c w x y,decide (((rwA c w x y).length:Int)≤40),(y:Int))
theorem Q6d(c:Cat)(w:List Int)(x:Nat):∀m,(ldY c w x m).length=(Q1W c w x m).length
 |0=>rfl
 |m+1=>by
  have:=Q6d c w x m;unfold ldY Q1W at*;rw[Q12,Q12,qD,qD,this];simp[Q3n,QK]
theorem Q6c(c:Cat)(w:List Int):∀m,(ldX c w m).length=(Ql c w m).length
 |0=>rfl
 |m+1=>by
  have:=Q6c c w m;unfold ldX Ql at*;rw[Q12,Q12,qD,qD,this,Q6d]
theorem Q84(c:Cat)(w:List Int)(x y:Nat):rwA c w x (y+1)=rwA c w x y++Q3n c w x y:=by
 unfold rwA Q1W;rw[Q12,zC]
theorem col0(c:Cat)(w:List Int)(x y:Nat):(Q3n c w x y).map (ix · 0)=tbW (λ_=>(x:Int)) (kT c w x y)∧(Q3n c w x y).map (ix · 1)=tbW (λ_=>(y:Int)) (kT c w x y):=by
 constructor<;>· unfold Q3n tbW;rw[List.map_map];rfl
theorem locY_step{c:Cat}{w:List Int}(hc:c.Is)(hS:SmT c w){x y:Nat}(hx:x<c.n.toNat)(hy:y<c.n.toNat):locY c w x (sY c w x y)=some (.next (sY c w x (y+1))):=by
 have hn:=hc.nums;have hN:=hS x y hx hy;have lX:=Q32 hc hS (m:=x) (by omega);have lY:=Q6u hc hS hx (m:=y) (by omega);have lA:(rwA c w x y).length≤14400:=by unfold rwA;rw[qD];omega
 have lD:(ldX c w x++ldY c w x y).length≤14400:=by rw[qD,Q6c,Q6d];omega
 have f1:=fmX_len c w x;have f2:=Q9p c w (fmX c w x) x y;have g1:=smX_len c w x;have g2:=Q9J c w (smX c w x) x y;have xm:x*c.n.toNat≤8*8:=Nat.mul_le_mul (by omega) (by omega);have eN:((spT c w x y).map trwX).length=nT c w x y:=by simp[nT]
 have hcl:QB (wD c w) ((spT c w x y).map trwX)=some (clT c w x y):=Q5t hc (spT_ok hc w x y) hN;unfold locY sY Qt;simp only;rw[if_pos (by omega),e_spI hc];simp only[yR];rw[if_neg (by rw[eN];omega),hcl];simp only[yR];rw[Q2 (by omega),Q2 (by omega),QaO (show(spT c w x y).length≤200 from hN) (Q5X c w x y)];simp only[yR];rw[e_leadT hN];simp only[yR];rw[Qat hN (by simp only[yZ];omega) (by simp only[yZ];omega) (by omega)];simp only[yR];have q0:(rwA c w x (y+1)).map (ix · 0)=(rwA c w x y).map (ix · 0)++tbW (λ_=>(x:Int)) (kT c w x y):=by rw[Q84,List.map_append,(col0 c w x y).1]
 have q1:(rwA c w x (y+1)).map (ix · 1)=(rwA c w x y).map (ix · 1)++tbW (λ_=>(y:Int)) (kT c w x y):=by rw[Q84,List.map_append,(col0 c w x y).2]
 have q2:ldX c w x++ldY c w x (y+1)=(ldX c w x++ldY c w x y)++tbW (ldF c w x y) (kT c w x y):=by unfold ldY;rw[Q12,zC]
 have q3:(rwA c w x (y+1)).length=(rwA c w x y).length+kT c w x y:=by rw[Q84,qD];simp[Q3n,QK]
 have q4:(((ldX c w x++ldY c w x y)++tbW (ldF c w x y) (kT c w x y)).length:Int)=((rwA c w x (y+1)).length:Int):=by
  rw[q3];simp only[qD,QK,Q6c,Q6d,rwA]
 have q5:(((rwA c w x y).map (ix · 0)).length:Int)=((Ql c w x++Q1W c w x y).length:Int):=by simp[rwA]
 by_cases hg:((rwA c w x y).length:Int)≤40
 ·rw[if_pos (by simpa using hg)];simp only[yR];rw[Q2 (by unfold B64;omega),q0,q1,q2,q4,q5];rfl
 rw[if_neg (by simpa using hg)];simp only[yR];rw[Q2 (by unfold B64;omega),q0,q1,q2,q5,show decide (((rwA c w x (y+1)).length:Int)≤40)=false by simp;omega];rfl
end
section
attribute [local simp] Qa QD Qo QM Qx
def locX(c:Cat)(w:List Int):LoSt→Option (Ctl LoSt (LoMd⊕LoOu)):=λs86=>
  if s86.2.2.2.2.2.2<c.n then
   (
    (Qd (locY c w s86.2.2.2.2.2.2) fuel (s86.1,s86.2.1,s86.2.2.1,s86.2.2.2.1,s86.2.2.2.2.1,s86.2.2.2.2.2.1,0)).bind λe129=>
    match e129 with
    | .inl p129=>
     some (yT p129)
    | .inr p129=>
     some (yS p129):Option ((Tc)⊕(Unit⊕Ta))).bind λe88=>
   match e88 with
   | .inl b88=>
    ass (B64 (s86.2.2.2.2.2.2+1))<|
    some (yM (b88.1,b88.2.1,b88.2.2.1,b88.2.2.2.1,b88.2.2.2.2.1,b88.2.2.2.2.2,s86.2.2.2.2.2.2+1))
   | .inr p88=>
    some (yK (yT p88))
  else
   some (yK (yS (s86.1,s86.2.1,s86.2.2.1,s86.2.2.2.1,s86.2.2.2.2.1,s86.2.2.2.2.2.1)))
def mdX(c:Cat)(w:List Int)(x:Nat):LoMd:=((Ql c w x).map (ix · 0),(Ql c w x).map (ix · 1),fmX c w x,smX c w x,ldX c w x,decide (((Ql c w x).length:Int)≤40))
def sX(c:Cat)(w:List Int)(x:Nat):LoSt:=((Ql c w x).map (ix · 0),(Ql c w x).map (ix · 1),fmX c w x,smX c w x,ldX c w x,decide (((Ql c w x).length:Int)≤40),(x:Int))
theorem rwA_zero(c:Cat)(w:List Int)(x:Nat):rwA c w x 0=Ql c w x:=by simp[rwA,Q1W,catN]
theorem rwA_all(c:Cat)(w:List Int)(x:Nat):rwA c w x c.n.toNat=Ql c w (x+1):=by unfold rwA Ql;rw[Q12]
theorem sY_zero(c:Cat)(w:List Int)(x:Nat):sY c w x 0=((Ql c w x).map (ix · 0),(Ql c w x).map (ix · 1),fmX c w x,smX c w x,ldX c w x,decide (((Ql c w x).length:Int)≤40),0):=by
 unfold sY;rw[rwA_zero];simp[fmY,smY,ldY,catN]
theorem ldX_all(c:Cat)(w:List Int)(x:Nat):ldX c w x++ldY c w x c.n.toNat=ldX c w (x+1):=by unfold ldX;rw[Q12]
theorem locX_step{c:Cat}{w:List Int}(hc:c.Is)(hS:SmT c w){x:Nat}(hx:x<c.n.toNat):locX c w (sX c w x)=some (.next (sX c w (x+1))):=by
 have hn:=hc.nums;have key:Qd (locY c w x) fuel (sY c w x 0)=some (yT (mdX c w (x+1))):=by
  refine Q1d (λy:Nat=>sY c w x y) c.n.toNat rfl (by omega) (λy hy=>locY_step hc hS hx hy) ?_;unfold locY sY mdX;simp only;rw[if_neg (by omega),rwA_all,ldX_all];rfl
 rw[sY_zero]at key;unfold locX sX;simp only;rw[if_pos (by omega),key];simp only[yR,mdX];rw[Q2 (by unfold B64;omega)];rfl
theorem Q8N{c:Cat}{w:List Int}(hc:c.Is)(hS:SmT c w):Qd (locX c w) fuel ([],[],[],[],[],true,0)=some (yS (mdX c w c.n.toNat)):=by
 have hn:=hc.nums;refine Q1d (λx:Nat=>sX c w x) c.n.toNat (by simp[sX,Ql,catN,fmX,smX,ldX]) (by omega) (λx hx=>locX_step hc hS hx) ?_;unfold locX sX mdX;simp only;rw[if_neg (by omega)]
end
section
attribute [local simp] Qa QD Qo QM Qx
def BdS(k m:Nat)(s:LoSt):Prop:=s.1.length≤k∧s.2.1.length≤k∧s.2.2.1.length≤m∧s.2.2.2.1.length≤m∧s.2.2.2.2.1.length≤k
def BdM(k m:Nat)(s:LoMd):Prop:=s.1.length≤k∧s.2.1.length≤k∧s.2.2.1.length≤m∧s.2.2.2.1.length≤m∧s.2.2.2.2.1.length≤k
theorem locY_rel{c:Cat}{w:List Int}(hc:c.Is){x y k m:Nat}(hk:k≤90000)(hm:m≤1000){s:LoSt}(hs:BdS k m s)(ey:s.2.2.2.2.2.2=(y:Int))(hy:y<c.n.toNat):
  (¬nT c w x y≤200∧locY c w x s=some (.ret (yS (yS ()))))∨(nT c w x y≤200∧∃s',locY c w x s=some (.next s')∧BdS (k+200) (m+1) s'∧s'.2.2.2.2.2.2=((y+1:Nat):Int)):=by
 have hn:=hc.nums;obtain⟨A,B,F,M,D,g,y'⟩:=s;obtain⟨b1,b2,b3,b4,b5⟩:=hs;simp only at ey b1 b2 b3 b4 b5;subst ey;have eN:((spT c w x y).map trwX).length=nT c w x y:=by simp[nT]
 unfold locY Qt;simp only;rw[if_pos (by omega),e_spI hc];simp only[yR]
 by_cases hN:nT c w x y≤200
 case neg=>
  left;refine⟨hN,?_⟩;rw[if_pos (by rw[eN];omega)];rfl
 right;refine⟨hN,?_⟩;have hcl:QB (wD c w) ((spT c w x y).map trwX)=some (clT c w x y):=Q5t hc (spT_ok hc w x y) hN;have hkk:kT c w x y≤nT c w x y:=Q8l _ _;rw[if_neg (by rw[eN];omega),hcl];simp only[yR];rw[Q2 (by omega),Q2 (by omega),QaO (show(spT c w x y).length≤200 from hN) (Q5X c w x y)];simp only[yR];rw[e_leadT hN];simp only[yR];rw[Qat hN (by omega) (by omega) (by omega)];simp only[yR];have t1:=Q5p (⟨x,y⟩:Ends) (A.length:Int) F;have t2:=Q5p (⟨x,y⟩:Ends) (smF (spT c w x y) (clT c w x y) (spT c w x y).length) M;cases g
 ·rw[if_neg (by simp)];simp only[yR];rw[Q2 (by unfold B64;omega)];exact⟨_,rfl,⟨by simp only[qD,QK];omega,by simp only[qD,QK];omega,by simp only;omega,by simp only;omega,by simp only[qD,QK];omega⟩,by push_cast;rfl⟩
 rw[if_pos rfl];simp only[yR];rw[Q2 (by unfold B64;omega)];exact⟨_,rfl,⟨by simp only[qD,QK];omega,by simp only[qD,QK];omega,by simp only;omega,by simp only;omega,by simp only[qD,QK];omega⟩,by push_cast;rfl⟩
theorem locX_rel{c:Cat}{w:List Int}(hc:c.Is){x:Nat}{s:LoSt}(hs:BdS (1600*x) (8*x) s)(ex:s.2.2.2.2.2.2=(x:Int))(hx:x<c.n.toNat):
  ((¬∀y:Nat,y<c.n.toNat→nT c w x y≤200)∧locX c w s=some (.ret (yT (yS ()))))∨((∀y:Nat,y<c.n.toNat→nT c w x y≤200)∧∃s',locX c w s=some (.next s')∧BdS (1600*(x+1)) (8*(x+1)) s'∧s'.2.2.2.2.2.2=((x+1:Nat):Int)):=by
 have hn:=hc.nums;obtain⟨A,B,F,M,D,g,x'⟩:=s;simp only at ex;subst ex;obtain⟨e,e1,e2⟩:=Q6k (body:=locY c w x) (I:=λy s=>BdS (1600*x+200*y) (8*x+y) s∧s.2.2.2.2.2.2=(y:Int)∧∀z:Nat,z<y→nT c w x z≤200)
  (J:=λe=>((¬∀y:Nat,y<c.n.toNat→nT c w x y≤200)∧e=yS (yS ()))∨((∀y:Nat,y<c.n.toNat→nT c w x y≤200)∧∃md,e=yT md∧BdM (1600*(x+1)) (8*(x+1)) md)) (n:=c.n.toNat)
  (λy s hy hI=>by
   obtain⟨i1,i2,i3⟩:=hI;rcases locY_rel hc (by omega) (by omega) i1 i2 hy with⟨q1,q2⟩|⟨q1,s',q2,q3,q4⟩
   ·exact .inr ⟨_,q2,.inl ⟨λh=>q1 (h y hy),rfl⟩⟩
   refine .inl ⟨s',q2,?_,q4,λz hz=>?_⟩
   ·rw[show 1600*x+200*(y+1)=1600*x+200*y+200 by omega,show 8*x+(y+1)=8*x+y+1 by omega];exact q3
   rcases Nat.lt_or_ge z y with d|d
   ·exact i3 z d
   have:z=y:=(by omega);subst this;exact q1)
  (λs hI=>by
   obtain⟨⟨b1,b2,b3,b4,b5⟩,i2,i3⟩:=hI;refine⟨yT (s.1,s.2.1,s.2.2.1,s.2.2.2.1,s.2.2.2.2.1,s.2.2.2.2.2.1),?_,.inr ⟨i3,_,rfl,⟨by simp only;omega,by simp only;omega,by simp only;omega,by simp only;omega,by simp only;omega⟩⟩⟩;unfold locY;rw[i2,if_neg (by omega)])
  c.n.toNat 0 (A,B,F,M,D,g,0) fuel (by omega) (by unfold fuel;omega) ⟨hs,rfl,λz hz=>by omega⟩
 unfold locX;simp only;rw[if_pos (by omega),e1];simp only[yR];rcases e2 with⟨q1,rfl⟩|⟨q1,md,rfl,q2⟩
 ·exact .inl ⟨q1,rfl⟩
 right;refine⟨q1,?_⟩;simp only[yR];rw[Q2 (by unfold B64;omega)];exact⟨_,rfl,q2,by push_cast;rfl⟩
theorem locX_bad{c:Cat}{w:List Int}(hc:c.Is)(hS:¬SmT c w):Qd (locX c w) fuel ([],[],[],[],[],true,0)=some (yT (yS ())):=by
 have hn:=hc.nums;obtain⟨e,e1,e2⟩:=Q6k (body:=locX c w) (I:=λx s=>BdS (1600*x) (8*x) s∧s.2.2.2.2.2.2=(x:Int)∧∀z:Nat,z<x→∀y:Nat,y<c.n.toNat→nT c w z y≤200)
  (J:=λe=>e=yT (yS ())) (n:=c.n.toNat)
  (λx s hx hI=>by
   obtain⟨i1,i2,i3⟩:=hI;rcases locX_rel hc i1 i2 hx with⟨q1,q2⟩|⟨q1,s',q2,q3,q4⟩
   ·exact .inr ⟨_,q2,rfl⟩
   refine .inl ⟨s',q2,q3,q4,λz hz=>?_⟩;rcases Nat.lt_or_ge z x with d|d
   ·exact i3 z d
   have:z=x:=(by omega);subst this;exact q1)
  (λs hI=>absurd (λx y hx hy=>hI.2.2 x hx y hy) hS)
  c.n.toNat 0 ([],[],[],[],[],true,0) fuel (by omega) (by unfold fuel;omega) ⟨⟨by simp,by simp,by simp,by simp,by simp⟩,rfl,λz hz=>by omega⟩
 rw[e1,e2]
end
section
attribute [local simp] Qa QD Qo QM Qx
def vBad:Cat×XF×Int:=((⟨0,[],[],[],[]⟩:Cat),(⟨(⟨0,[],[],[],[]⟩:Cat),[],[],[],[]⟩:XF),3)
def ckY(c:Cat)(w:List Int)(s16:Int):Int→Option (Ctl Int ((Cat×XF×Int)⊕Unit)):=λs23=>
 if s23<c.n then
  (Q1C c w s16 s23).bind λv25=>
  if(v25.length:Int)>200 then
   some (yK (yS ((⟨0,[],[],[],[]⟩:Cat),(⟨(⟨0,[],[],[],[]⟩:Cat),[],[],[],[]⟩:XF),3)))
  else
   ass (B64 (s23+1))<|
   some (yM (s23+1))
 else
  some (yK (yT ()))
theorem Q7s{c:Cat}(hc:c.Is)(w:List Int){x y:Nat}(hy:y<c.n.toNat):ckY c w x y=if bo (¬nT c w x y≤200)=true then some (.ret (yS vBad))else some (.next ((y:Int)+1)):=by
 have hn:=hc.nums;have eN:((spT c w x y).map trwS).length=nT c w x y:=by simp[nT]
 unfold ckY;rw[if_pos (by omega),e_spS hc];simp only[yR]
 by_cases h:nT c w x y≤200
 ·rw[if_neg (by rw[eN];omega),Qp (λq=>q h),Q2 (by unfold B64;omega)];rfl
 rw[if_pos (by rw[eN];omega),Qu h];rfl
def ckX(c:Cat)(w:List Int):Int→Option (Ctl Int (Unit⊕(Cat×XF×Int))):=λs16=>
 if s16<c.n then
  (
   (Qd (ckY c w s16) fuel 0).bind λe23=>
   match e23 with
   | .inl p23=>
    some (yT p23)
   | .inr p23=>
    some (yS p23):Option (Unit⊕(Cat×XF×Int))).bind λe18=>
  match e18 with
  | .inl b18=>
   ass (B64 (s16+1))<|
   some (yM (s16+1))
  | .inr p18=>
   some (yK (yT p18))
 else
  some (yK (yS ()))
theorem Q7r{c:Cat}(hc:c.Is)(w:List Int){x:Nat}(hx:x<c.n.toNat):ckX c w x=if bo (∃y:Nat,0≤y∧y<c.n.toNat∧¬nT c w x y≤200)=true then some (.ret (yT vBad))else some (.next ((x:Int)+1)):=by
 have hn:=hc.nums;unfold ckX;rw[if_pos (by omega)]
 by_cases h:∃y:Nat,0≤y∧y<c.n.toNat∧¬nT c w x y≤200
 ·obtain⟨e,e1,e2⟩:=Q3Z (body:=ckY c w x) (Qe:=λe=>e=yS vBad) 0 c.n.toNat _ (by omega) h (λy _ hy hp=>by rw[Q7s hc w hy,Qp hp];rfl) λy _ hy hp=>⟨_,by rw[Q7s hc w hy,Qu hp];rfl,rfl⟩;rw[show Qd (ckY c w x) fuel 0=some e from e1,e2,Qu h];rfl
 rw[show Qd (ckY c w x) fuel 0=some (yT ()) from Q5j 0 c.n.toNat (by omega) (zV _) (λy _ hy=>by rw[Q7s hc w hy,Qp (λb=>h ⟨y,zV _,hy,b⟩)];rfl) (by unfold ckY;rw[if_neg (by omega)]),Qp h];simp only[yR,zG,if_false];rw[Q2 (by unfold B64;omega)]
theorem ckX_ok{c:Cat}(hc:c.Is){w:List Int}(hS:SmT c w):Qd (ckX c w) fuel 0=some (yS ()):=by
 have hn:=hc.nums;exact Q5j 0 c.n.toNat (by omega) (zV _) (λx _ hx=>by rw[Q7r hc w hx,Qp (λ⟨y,_,hy,q⟩=>q (hS x y hx hy))];rfl) (by unfold ckX;rw[if_neg (by omega)])
theorem ckX_bad{c:Cat}(hc:c.Is){w:List Int}(hS:¬SmT c w):Qd (ckX c w) fuel 0=some (yT vBad):=by
 have hn:=hc.nums;have hex:∃x:Nat,0≤x∧x<c.n.toNat∧∃y:Nat,0≤y∧y<c.n.toNat∧¬nT c w x y≤200:=Classical.byContradiction λq=>hS λx y hx hy=>Classical.byContradiction λk=>q ⟨x,zV _,hx,y,zV _,hy,k⟩;obtain⟨e,e1,e2⟩:=Q3Z (body:=ckX c w) (Qe:=λe=>e=yT vBad) 0 c.n.toNat _ (by omega) hex (λx _ hx hp=>by rw[Q7r hc w hx,Qp hp];rfl) λx _ hx hp=>⟨_,by rw[Q7r hc w hx,Qu hp];rfl,rfl⟩;rw[show Qd (ckX c w) fuel 0=some e from e1,e2]
end
section
attribute [local simp] Qa QD Qo QM Qx
theorem Q7F{α:Type}{n:Nat}{g:Nat→Option α}{x:α}(h:fsN n g=some x):∃i,i<n∧g i=some x:=by
 unfold fsN at h;obtain⟨i,hi,e⟩:=List.exists_of_findSome?_eq_some h;exact⟨i,List.mem_range.1 hi,e⟩
theorem sqF_ok{c:Cat}{w:List Int}{f v:Int}{t:Int×Int×Int}(h:sqF c w f v=some t):Ar c t.2.1 t.1 (ix c.fr f)∧t.2.1∈w∧Ar c t.2.2 t.1 (ix c.fr v):=by
 unfold sqF at h;obtain⟨u,hu,h⟩:=Q7F h;unfold sqR at h;obtain⟨i,hi,h⟩:=Q7F h;split at h
 ·rename_i hm;obtain⟨k,hk,h⟩:=Q7F h;split at h
  ·cases h;exact⟨Q1Y hi,hm,Q1Y hk⟩
  cases h
 cases h
theorem sp_at{c:Cat}(hc:c.Is){w:List Int}{x y:Int}{t:Tr}(h1:Ar c t.2.1 t.1 x)(h2:t.2.1∈w)(h3:Ar c t.2.2 t.1 y):∃i,i<nT c w x y∧tG (spT c w x y) i=t:=by
 obtain⟨i,hi,e⟩:=zX ((Q7S hc).2 ⟨h1,h2,h3⟩);exact⟨i,hi,by simp[tG,qB,qF hi,e]⟩
def ldS(c:Cat)(w:List Int)(x y:Nat)(j:Nat):Tr:=tG (spT c w x y) (ix (lds (rT c w x y) (nT c w x y)) j).toNat
theorem ldS_ok{c:Cat}(hc:c.Is){w:List Int}{x y j:Nat}(hj:j<kT c w x y):Ar c (ldS c w x y j).2.1 (ldS c w x y j).1 x∧(ldS c w x y j).2.1∈w∧Ar c (ldS c w x y j).2.2 (ldS c w x y j).1 y:=by
 obtain⟨z,z1,z2,z3,z4⟩:=ldT hj;unfold ldS;rw[z3,yV];exact(spT_ok hc w x y).at z1
theorem comp_ok{c:Cat}(hc:c.Is){w:List Int}(hw:InW c w)(hF:FinW c w){p q:Tr}{x y z:Int}(p1:Ar c p.2.1 p.1 x)(p2:p.2.1∈w)(p3:Ar c p.2.2 p.1 y)(q1:Ar c q.2.1 q.1 y)(q2:q.2.1∈w)(q3:Ar c q.2.2 q.1 z):
  ∃t:Int×Int×Int,sqF c w p.2.2 q.2.1=some t∧ix c.fr t.2.1=t.1∧ArW c t.2.1∧ArW c t.2.2∧∃i,i<nT c w x z∧tG (spT c w x z) i=(t.1,ix (rx c.cs t.2.1) p.2.1,ix (rx c.cs t.2.2) q.2.2):=by
 obtain⟨k,hk⟩:=yU p3.1.1;have hs:=hF.sq k (by have:=p3.1.2;omega) _ q2;rw[←hk]at hs;cases hq:sqF c w p.2.2 q.2.1 with
 |none=>exact absurd ⟨by rw[p3.2.2,q1.2.2],hq⟩ hs
 |some t=>
  obtain⟨a1,a2,a3⟩:=sqF_ok hq;rw[p3.2.1]at a1;rw[q1.2.1]at a3;refine⟨t,rfl,a1.2.1,a1.1,a3.1,sp_at hc (t:=(t.1,ix (rx c.cs t.2.1) p.2.1,ix (rx c.cs t.2.2) q.2.2)) (Ar.two hc a1 p1) ?_ (Ar.two hc a3 q3)⟩;exact hF.clo.cp _ a2 _ p2 (by rw[a1.2.2,p1.2.1])
theorem id_ok{c:Cat}(hc:c.Is){w:List Int}(hF:FinW c w){x:Nat}(hx:x<c.n.toNat):∃i,i<nT c w x x∧tG (spT c w x x) i=((x:Int),ix c.id x,ix c.id x):=by
 have hn:=hc.nums;have a:=hc.Ai (x:=x) ⟨by omega,by omega⟩;exact sp_at hc (t:=((x:Int),ix c.id x,ix c.id x)) a (hF.clo.id x (by omega)) a
theorem ar_ok{c:Cat}(hc:c.Is){w:List Int}(hF:FinW c w){f:Nat}(hf:f<c.fr.length):∃i,i<nT c w (ix c.fr f) (ix c.to f)∧tG (spT c w (ix c.fr f) (ix c.to f)) i=(ix c.fr f,ix c.id (ix c.fr f),(f:Int)):=by
 have hn:=hc.nums;have a:=hc.Af (f:=f) ⟨by omega,by omega⟩;have b:=hc.Ai (x:=ix c.fr f) a.2.1;obtain⟨k,hk⟩:=yU a.2.1.1;refine sp_at hc (t:=(ix c.fr f,ix c.id (ix c.fr f),(f:Int))) b ?_ a.1;have:=hF.clo.id k (by omega);rw[←hk]at this;exact this
end
attribute [local simp] unk unA unE unT unC flat eL eI Qh QX XF.cells
def Q17(l_:XF)(row_:List Int):Option (List Int):=
 ass ((0:Int)≤0∧0<(row_.length:Int))<|
 ass (0≤ix row_ 0∧ix row_ 0<(l_.spans_.length:Int))<|
 ass ((0:Int)≤1∧1<(row_.length:Int))<|
 ass (0≤ix row_ 1∧ix row_ 1<((gx l_.spans_ (ix row_ 0)).length:Int))<|
 ass ((0:Int)≤0∧0<(row_.length:Int))<|
 ass (0≤ix row_ 0∧ix row_ 0<(l_.classes_.length:Int))<|
 ass ((0:Int)≤1∧1<(row_.length:Int))<|
 ass (0≤ix row_ 1∧ix row_ 1<((gx l_.classes_ (ix row_ 0)).length:Int))<|
 ass ((0:Int)≤2∧2<(row_.length:Int))<|
 (Q1S (rx (gx l_.classes_ (ix row_ 0)) (ix row_ 1)) (ix row_ 2)).bind λv10=>
 ass (0≤v10∧v10<((gx (gx l_.spans_ (ix row_ 0)) (ix row_ 1)).length:Int))<|
 some (rx (gx (gx l_.spans_ (ix row_ 0)) (ix row_ 1)) v10)
theorem Q5G(l_:XF)(row_:List Int)(r:List Int)(h:Q17 l_ row_=some r):FContract Tryz.prog true 55 [.agg (l_.cells true),lI row_] (lI r):=by
 refine Q60 true (ts:=[4]) (rs:=[lI r]) Tryz.func55 rfl rfl rfl rfl (by simp[Tryz.f55]) λF hN hP=>?_;unfold Q17 at h;refine Q0 (rxF [2] hN λK hK=>?_);simp;repeat refine sdQ ?_
 refine hK _ ?_;clear hK K;refine tn (Q4 (st':=⟨[(1,lI row_),(2,.rptr (XF.cells true l_))],[],0⟩) (wkQ []) (Q0 (rxQ hN λK hK=>?_)));replace⟨a1,h⟩:=Q1 h;replace⟨a2,h⟩:=Q1 h;replace⟨a3,h⟩:=Q1 h;replace⟨a4,h⟩:=Q1 h;replace⟨a5,h⟩:=Q1 h;replace⟨a6,h⟩:=Q1 h;replace⟨a7,h⟩:=Q1 h;replace⟨a8,h⟩:=Q1 h;replace⟨a9,h⟩:=Q1 h;simp[(show(Is row_)[0]? =some [iV (ix row_ 0)] from at_I (j:=0) a1),at_E (c:=(λx=>[.lst true 1 (Es eL x)])) a2,(show(Is row_)[1]? =some [iV (ix row_ 1)] from at_I (j:=1) a3),at_E (c:=eL) a4,(show(Is row_)[0]? =some [iV (ix row_ 0)] from at_I (j:=0) a5),at_E (c:=eL) a6,(show(Is row_)[1]? =some [iV (ix row_ 1)] from at_I (j:=1) a7),at_L a8,(show(Is row_)[2]? =some [iV (ix row_ 2)] from at_I (j:=2) a9)];repeat with_reducible refine sdQ ?_
 replace⟨v10,hv10,h⟩:=bind_some h;refine QG (fz:=[]) (Q5F _ _ v10 hv10) (.cons .lst (.cons .val .nil)) ?_;replace⟨a11,h⟩:=Q1 h;simp[at_E (c:=(λx=>[.lst true 1 (Es eL x)])) a2,at_E (c:=eL) a4,at_E (c:=eL) a6,at_L a8,at_L a11];repeat refine sdQ ?_
 refine hK _ (tn (Q4 (st':=⟨[(4,lI (rx (gx (gx l_.spans_ (ix row_ 0)) (ix row_ 1)) v10))],[],0⟩) (wkQ []) (Qi ?_)));clear hK K;have hr:=yJ h;rw[←hr];exact(.two .lst .nil)
section
attribute [local simp] Qa QD Qo QM Qx
theorem Q8K{c:Cat}{w:List Int}{x:Nat}:∀{m:Nat},x<m→∃R,ldX c w m=ldX c w x++ldY c w x c.n.toNat++R
 |0,h=>by omega
 |m+1,h=>by
  unfold ldX;rw[Q12]
  by_cases e:x=m
  ·subst e;exact⟨[],by simp⟩
  obtain⟨R,hR⟩:=Q8K (c:=c) (w:=w) (x:=x) (m:=m) (by omega);unfold ldX at hR;exact⟨R++ldY c w m c.n.toNat,by rw[hR];simp⟩
theorem Q8L{c:Cat}{w:List Int}{x y:Nat}:∀{m:Nat},y<m→∃R,ldY c w x m=ldY c w x y++tbW (ldF c w x y) (kT c w x y)++R
 |0,h=>by omega
 |m+1,h=>by
  unfold ldY;rw[Q12]
  by_cases e:y=m
  ·subst e;exact⟨[],by simp⟩
  obtain⟨R,hR⟩:=Q8L (c:=c) (w:=w) (x:=x) (y:=y) (m:=m) (by omega);unfold ldY at hR;exact⟨R++tbW (ldF c w x m) (kT c w x m),by rw[hR];simp⟩
theorem ldX_at{c:Cat}{w:List Int}{x y j:Nat}(hx:x<c.n.toNat)(hy:y<c.n.toNat)(hj:j<kT c w x y):(ldX c w c.n.toNat)[(rwA c w x y).length+j]? =some (ldF c w x y j):=by
 obtain⟨R,hR⟩:=Q8K (c:=c) (w:=w) hx;obtain⟨R',hR'⟩:=Q8L (c:=c) (w:=w) (x:=x) hy;have hl:(rwA c w x y).length=(ldX c w x++ldY c w x y).length:=by unfold rwA;simp only[qD,Q6c,Q6d]
 rw[hR,hR',hl];have e:ldX c w x++(ldY c w x y++tbW (ldF c w x y) (kT c w x y)++R')++R=(ldX c w x++ldY c w x y)++(tbW (ldF c w x y) (kT c w x y)++(R'++R)):=by simp
 rw[e,List.getElem?_append_right (by omega),Nat.add_sub_cancel_left,List.getElem?_append_left (by simp[tbW];exact hj)];simp[tbW,hj]
theorem Q4B{c:Cat}{w:List Int}{i:Nat}(hi:i<(Ql c w c.n.toNat).length):∃x y j:Nat,x<c.n.toNat∧y<c.n.toNat∧j<kT c w x y∧i=(rwA c w x y).length+j∧rx (Ql c w c.n.toNat) i=row3 x y j∧gx (ldX c w c.n.toNat) i=ldF c w x y j∧ix ((Ql c w c.n.toNat).map (ix · 0)) i=(x:Int)∧ix ((Ql c w c.n.toNat).map (ix · 1)) i=(y:Int):=by
 obtain⟨x,y,j,hx,hy,hj,e⟩:=mem_rowsX.1 (List.getElem_mem hi);have h2:(Ql c w c.n.toNat)[(rwA c w x y).length+j]? =some (row3 x y j):=row_at hx hy hj;have hi2:=(List.getElem?_eq_some_iff.1 h2).1;have hij:i=(rwA c w x y).length+j:=by
  have nd:=Q7e c w c.n.toNat;have e2:=(List.getElem?_eq_some_iff.1 h2).2;rcases Nat.lt_trichotomy i ((rwA c w x y).length+j)with d|d|d
  ·exact absurd (e.trans e2.symm) (List.pairwise_iff_getElem.1 nd i _ hi hi2 d)
  ·exact d
  exact absurd (e.trans e2.symm).symm (List.pairwise_iff_getElem.1 nd _ i hi2 hi d)
 have hr:(Ql c w c.n.toNat)[i]? =some (row3 x y j):=by rw[hij];exact h2
 have hd:(ldX c w c.n.toNat)[i]? =some (ldF c w x y j):=by rw[hij];exact ldX_at hx hy hj
 refine⟨x,y,j,hx,hy,hj,hij,?_,?_,?_,?_⟩
 ·simp[rx,qB,hr]
 ·simp[gx,qB,hd]
 ·simp only[ix,qB,yV,yF,hr,yB,zL];rfl
 simp only[ix,qB,yV,yF,hr,yB,zL];rfl
theorem ldF_eq(c:Cat)(w:List Int)(x y j:Nat):ldF c w x y j=trwX (ldS c w x y j):=rfl
theorem Qad{c:Cat}(hc:c.Is){w:List Int}(hS:SmT c w){x y j:Nat}(hx:x<c.n.toNat)(hy:y<c.n.toNat)(hj:j<kT c w x y):Q17 (frW c w) (row3 x y j)=some (trwS (ldS c w x y j)):=by
 have hn:=hc.nums;have hN:=hS x y hx hy;obtain⟨z,z1,z2,z3,z4⟩:=ldT hj;have hz:z<(spT c w x y).length:=z1;unfold Q17 frW;simp only[show ix (row3 x y j) 0=(x:Int) from rfl,show ix (row3 x y j) 1=(y:Int) from rfl,show ix (row3 x y j) 2=(j:Int) from rfl,show(row3 x y j).length=3 from rfl];rw[Q2 (by omega),Q2 (by rw[QK];omega),Q2 (by omega),Q74 hx,Q2 (by rw[QK];omega),Q2 (by omega),Q2 (by rw[QK];omega),Q2 (by omega),Q74 hx,Q2 (by rw[QK];omega),Q2 (by omega),rx_tbW hy,show clW c w x y=clT c w x y from rfl,e_firstT hN hj];simp only[yR];rw[z3,Q74 hy,Q2 (by unfold spW;rw[yZ];omega)];unfold spW ldS;rw[Q9H hz,z3];rfl
end
attribute [local simp] unk unA unE unT unC flat eL eI Qh QI Q4x Qz Q1p Q13 Cat.cells Ends.cells XD.cells XL.cells X3.cells
def Qr(f_:Int)(g_:Int)(c0_:XL)(c1_:XD)(c2_:Cat):Option Int:=
 ass (0≤f_∧f_<(c0_.leaders_.length:Int))<|
 ass (0≤g_∧g_<(c0_.leaders_.length:Int))<|
 (QS c1_ ((gx c0_.leaders_ f_).c_) ((gx c0_.leaders_ g_).b_)).bind λv3=>
 ass (0≤f_∧f_<(c0_.category_.fr.length:Int))<|
 ass (0≤g_∧g_<(c0_.category_.to.length:Int))<|
 ass (0≤v3.1∧v3.1<(c2_.fr.length:Int))<|
 (Qn c2_ v3.1 ((gx c0_.leaders_ f_).b_)).bind λv7=>
 (Qn c2_ v3.2.1 ((gx c0_.leaders_ g_).c_)).bind λv8=>
 (Qy c0_ (ix c0_.category_.fr f_) (ix c0_.category_.to g_) (⟨ix c2_.fr v3.1,v7,v8⟩:X3)).bind λv9=>
 some v9
@[simp] abbrev Ys(a b:Int)(c:XL)(d:List (Nat×AV)):List (Nat×AV):=(0,iV a)::(1,iV b)::(2,.rptr [.rptr [.rptr (Y0A c []),iV c.category_.n,lI c.category_.fr,lI c.category_.to,lI c.category_.id,.lst true 1 (Ls c.category_.cs),.cmap (.st 2) (Q1h c.first_),.cmapM (.st 2) (.st 3) (EC Ends.kv Q8 c.spans_),.lst true 3 (Es (X3.cells true) c.leaders_)]])::d
theorem Q1X(f_:Int)(g_:Int)(c0_:XL)(c1_:XD)(c2_:Cat)(r:Int)(h:Qr f_ g_ c0_ c1_ c2_=some r):Contract Tryz.prog 68 [iV f_,iV g_,.rptr [.rptr [.rptr (Y0A c0_ []),iV c0_.category_.n,lI c0_.category_.fr,lI c0_.category_.to,lI c0_.category_.id,.lst true 1 (Ls c0_.category_.cs),.cmap (.st 2) (Q1h c0_.first_),.cmapM (.st 2) (.st 3) (EC Ends.kv Q8 c0_.spans_),.lst true 3 (Es (X3.cells true) c0_.leaders_)]],.rptr [.rptr (Y0s c1_ [])],.rptr (Y0v c2_ [])] (iV r):=by
 refine Q9 (rvs:=[.tmp 7]) (rs:=[iV r]) Tryz.func68 rfl rfl rfl rfl (by simp[Tryz.f68]) λF hN hP=>?_;unfold Qr at h;refine Q0 (runQ hN λK hK=>?_);simp;repeat refine sdQ ?_
 refine hK _ ?_;clear hK K;refine tn (Q4 (st':=⟨Ys f_ g_ c0_ [(3,.rptr [.rptr (Y0s c1_ [])]),(4,.rptr (Y0v c2_ []))],[],0⟩) (wkQ []) (Q0 (w_runS mo (by rw[hN];decide) λK hK=>?_)));replace⟨a1,h⟩:=Q1 h;replace⟨a2,h⟩:=Q1 h;simp[at_E (c:=(X3.cells true)) a1,at_E (c:=(X3.cells true)) a2];repeat refine sdQ ?_
 refine hK _ ?_;clear hK K;refine tn (Q4 (st':=⟨Ys f_ g_ c0_ [(3,.rptr [.rptr (Y0s c1_ [])]),(4,.rptr (Y0v c2_ [])),(8,.adr 0 0 0),(9,.adr 1 0 0)],[(0,.mix 3 [(X3.cells true (gx c0_.leaders_ f_))]),(1,.mix 3 [(X3.cells true (gx c0_.leaders_ g_))])],2⟩) (wkQ [(0,0),(1,1)]) (Q0 (runQ hN λK hK=>?_)));simp;repeat with_reducible refine sdQ ?_
 replace⟨v3,hv3,h⟩:=bind_some h;refine Q3 (Q2n _ _ _ v3 hv3) (.cons (.preT (by simp[CN])) (.cons .val (.cons .val .nil))) ?_;simp;repeat refine sdQ ?_
 refine hK _ ?_;clear hK K;refine tn (Q4 (st':=⟨Ys f_ g_ c0_ [(4,.rptr (Y0v c2_ [])),(8,.adr 0 0 0),(9,.adr 1 0 0),(10,iV v3.1),(11,iV v3.2.1)],[(0,.mix 3 [(X3.cells true (gx c0_.leaders_ f_))]),(1,.mix 3 [(X3.cells true (gx c0_.leaders_ g_))])],2⟩) (wkQ [(0,0),(1,1)]) (Q0 (runQ hN λK hK=>?_)));replace⟨a4,h⟩:=Q1 h;replace⟨a5,h⟩:=Q1 h;replace⟨a6,h⟩:=Q1 h;simp[at_I a4,at_I a5,at_I a6];repeat with_reducible refine sdQ ?_
 replace⟨v7,hv7,h⟩:=bind_some h;refine Q3 (QF _ _ _ v7 hv7) (.cons (.preT (by simp[CN])) (.cons .val (.cons .val .nil))) ?_;simp[at_I a4,at_I a5,at_I a6];repeat with_reducible refine sdQ ?_
 replace⟨v8,hv8,h⟩:=bind_some h;refine Q3 (QF _ _ _ v8 hv8) (.cons (.preT (by simp[CN])) (.cons .val (.cons .val .nil))) ?_;simp[at_I a4,at_I a5,at_I a6];repeat with_reducible refine sdQ ?_
 replace⟨v9,hv9,h⟩:=bind_some h;refine Q3 (Q1G _ _ _ _ v9 hv9) (.cons (.preT (by simp[CN])) (.cons .val (.cons .val (.cons (.aggL (.cons .val (.cons .val (.cons .val .nil)))) .nil)))) ?_;simp[at_I a4,at_I a5,at_I a6];repeat refine sdQ ?_
 refine hK _ (tn (Q4 (st':=⟨[(7,iV v9)],[],0⟩) (wkQ []) (Qi ?_)));clear hK K;have hr:=yJ h;rw[←hr];refine⟨_,(.tmp .nil),?_⟩;refine⟨(.one rfl rfl .nil),[iV v9],[],by simp[BN],by simp,(yN _)⟩
section
attribute [local simp] Qa QD Qo QM Qx
theorem e_compW{c:Cat}(hc:c.Is){w:List Int}(hw:InW c w)(hF:FinW c w)(hS:SmT c w){L:XL}(l1:L.first_=fmX c w c.n.toNat)(l2:L.spans_=smX c w c.n.toNat)(l3:L.leaders_=ldX c w c.n.toNat)(l4:L.category_.fr=(Ql c w c.n.toNat).map (ix · 0))(l5:L.category_.to=(Ql c w c.n.toNat).map (ix · 1)){i i':Nat}(hi:i<(Ql c w c.n.toNat).length)(hi':i'<(Ql c w c.n.toNat).length)(he:ix ((Ql c w c.n.toNat).map (ix · 1)) i=ix ((Ql c w c.n.toNat).map (ix · 0)) i'):
  ∃v,Qr i i' L (wD c w) c=some v∧
   ((Q17 (frW c w) (rx (Ql c w c.n.toNat) i)).bind λv103=>
    (Q17 (frW c w) (rx (Ql c w c.n.toNat) i')).bind λv104=>
    ass ((0:Int)≤2∧2<(v103.length:Int))<|
    ass ((0:Int)≤1∧1<(v104.length:Int))<|
    (Q1c c w (ix v103 2) (ix v104 1)).bind λv107=>
    ass ((0:Int)≤0∧0<((rx (Ql c w c.n.toNat) i).length:Int))<|
    ass ((0:Int)≤1∧1<((rx (Ql c w c.n.toNat) i').length:Int))<|
    ass ((0:Int)≤1∧1<(v103.length:Int))<|
    (Qs c v107.2.1 (ix v103 1)).bind λv111=>
    ass ((0:Int)≤2∧2<(v104.length:Int))<|
    (Qs c v107.2.2.1 (ix v104 2)).bind λv113=>
    (QT (frW c w) (ix (rx (Ql c w c.n.toNat) i) 0) (ix (rx (Ql c w c.n.toNat) i') 1) [v107.1,v111,v113]).bind λv114=>
    some v114)=some v∧(0≤v∧v<((Ql c w c.n.toNat).length:Int))∧ix ((Ql c w c.n.toNat).map (ix · 0)) v=ix ((Ql c w c.n.toNat).map (ix · 0)) i∧ix ((Ql c w c.n.toNat).map (ix · 1)) v=ix ((Ql c w c.n.toNat).map (ix · 1)) i':=by
 have hn:=hc.nums;obtain⟨x,y,j,hx,hy,hj,e1,e2,e3,e4,e5⟩:=Q4B hi;obtain⟨y',z,j',hy',hz,hj',f1,f2,f3,f4,f5⟩:=Q4B hi';rw[e5,f4]at he;have:y=y':=by omega
 subst this;have p:=ldS_ok hc hj;have q:=ldS_ok hc hj';obtain⟨t,t1,t2,t3,t4,k,k1,k2⟩:=comp_ok hc hw hF p.1 p.2.1 p.2.2 q.1 q.2.1 q.2.2;have hb:=Q8X hc hS hx hz k1;have hrow:(Ql c w c.n.toNat)[(numF c w x z k).toNat]? =some [(x:Int),(z:Int),ix (clT c w x z) k]:=hb.2.2.2;refine⟨numF c w x z k,?_,?_,⟨hb.1,hb.2.1⟩,?_,?_⟩
 ·have hlen:(ldX c w c.n.toNat).length=(Ql c w c.n.toNat).length:=Q6c c w _;unfold Qr;rw[l3,Q2 (by omega),Q2 (by omega),e3,f3,ldF_eq,ldF_eq,show(trwX (ldS c w x y j)).c_=(ldS c w x y j).2.2 from rfl,show(trwX (ldS c w y z j')).b_=(ldS c w y z j').2.1 from rfl,Q8q hc w p.2.2.1 q.1.1,t1];simp only[Option.elim_some,yR];rw[l4,l5,Q2 (by rw[yZ];omega),Q2 (by rw[yZ];omega),Q2 (show 0≤t.2.1∧t.2.1<(c.fr.length:Int) from t3),show(trwX (ldS c w x y j)).b_=(ldS c w x y j).2.1 from rfl,show(trwX (ldS c w y z j')).c_=(ldS c w y z j').2.2 from rfl,(Q1o hc t3 p.1.1).2];simp only[yR];rw[(Q1o hc t4 q.2.2.1).2];simp only[yR];rw[e4,f5,t2];have:=e_numI hc hS l1 l2 hx hz k1;rw[k2]at this;rw[show(⟨t.1,ix (rx c.cs t.2.1) (ldS c w x y j).2.1,ix (rx c.cs t.2.2) (ldS c w y z j').2.2⟩:X3)=trwX (t.1,ix (rx c.cs t.2.1) (ldS c w x y j).2.1,ix (rx c.cs t.2.2) (ldS c w y z j').2.2) from rfl,this];rfl
 ·rw[e2,f2,Qad hc hS hx hy hj,Qad hc hS hy hz hj'];simp only[yR];rw[Q2 (by simp[trwS,trw3]),Q2 (by simp[trwS,trw3]),show ix (trwS (ldS c w x y j)) 2=(ldS c w x y j).2.2 from rfl,show ix (trwS (ldS c w y z j')) 1=(ldS c w y z j').2.1 from rfl,Q8r hc w p.2.2.1 q.1.1,t1];simp only[Option.elim_some,yR];rw[Q2 (by simp[row3]),Q2 (by simp[row3]),Q2 (by simp[trwS,trw3]),show ix (trwS (ldS c w x y j)) 1=(ldS c w x y j).2.1 from rfl,(Q1o hc t3 p.1.1).1];simp only[yR];rw[Q2 (by simp[trwS,trw3]),show ix (trwS (ldS c w y z j')) 2=(ldS c w y z j').2.2 from rfl,(Q1o hc t4 q.2.2.1).1];simp only[yR];have:=e_numS hc hS hx hz k1;rw[k2]at this;rw[show ix (row3 x y j) 0=(x:Int) from rfl,show ix (row3 y z j') 1=(z:Int) from rfl,show[t.1,ix (rx c.cs t.2.1) (ldS c w x y j).2.1,ix (rx c.cs t.2.2) (ldS c w y z j').2.2]=trwS (t.1,ix (rx c.cs t.2.1) (ldS c w x y j).2.1,ix (rx c.cs t.2.2) (ldS c w y z j').2.2) from rfl,this];rfl
 ·rw[e4];simp only[ix,qB,yF,hrow,yB,zL];rfl
 rw[f5];simp only[ix,qB,yF,hrow,yB,zL];rfl
end
section
attribute [local simp] Qa QD Qo QM Qx
def idI(c:Cat)(w:List Int)(x:Nat):Nat:=open Classical in if h:∃i,i<nT c w x x∧tG (spT c w x x) i=((x:Int),ix c.id x,ix c.id x)then Classical.choose h else 0
def idV(c:Cat)(w:List Int)(x:Nat):Int:=numF c w x x (idI c w x)
theorem idI_ok{c:Cat}(hc:c.Is){w:List Int}(hF:FinW c w){x:Nat}(hx:x<c.n.toNat):idI c w x<nT c w x x∧tG (spT c w x x) (idI c w x)=((x:Int),ix c.id x,ix c.id x):=by
 have h:=id_ok hc hF hx;unfold idI;rw[dif_pos h];exact Classical.choose_spec h
theorem e_idI{c:Cat}(hc:c.Is){w:List Int}(hF:FinW c w)(hS:SmT c w){L:XL}(l1:L.first_=fmX c w c.n.toNat)(l2:L.spans_=smX c w c.n.toNat){x:Nat}(hx:x<c.n.toNat):
  Qy L x x (⟨x,ix c.id x,ix c.id x⟩:X3)=some (idV c w x):=by
 obtain⟨h1,h2⟩:=idI_ok hc hF hx;have:=e_numI hc hS l1 l2 hx hx h1;rw[h2]at this;exact this
theorem e_idS{c:Cat}(hc:c.Is){w:List Int}(hF:FinW c w)(hS:SmT c w){x:Nat}(hx:x<c.n.toNat):
  QT (frW c w) x x [(x:Int),ix c.id x,ix c.id x]=some (idV c w x):=by
 obtain⟨h1,h2⟩:=idI_ok hc hF hx;have:=e_numS hc hS hx hx h1;rw[h2]at this;exact this
theorem idV_b{c:Cat}(hc:c.Is){w:List Int}(hF:FinW c w)(hS:SmT c w){x:Nat}(hx:x<c.n.toNat):(0≤idV c w x∧idV c w x<((Ql c w c.n.toNat).length:Int))∧ix ((Ql c w c.n.toNat).map (ix · 0)) (idV c w x)=(x:Int)∧ix ((Ql c w c.n.toNat).map (ix · 1)) (idV c w x)=(x:Int):=by
 obtain⟨h1,h2⟩:=idI_ok hc hF hx;have hb:=Q8X hc hS hx hx h1;have hrow:(Ql c w c.n.toNat)[(idV c w x).toNat]? =some [(x:Int),(x:Int),ix (clT c w x x) (idI c w x)]:=hb.2.2.2;refine⟨⟨hb.1,hb.2.1⟩,?_,?_⟩
 ·simp only[ix,qB,yF,hrow,yB,zL];rfl
 simp only[ix,qB,yF,hrow,yB,zL];rfl
end
section
attribute [local simp] Qa QD Qo QM Qx
theorem e_idsS{c:Cat}(hc:c.Is){w:List Int}(hF:FinW c w)(hS:SmT c w){β:Type}(K:List Int→Option β):
  (Qd (σ:=List Int×Int) (ε:=List Int) (λs10=>
   if s10.2<(frW c w).c_.n then
    ass (0≤s10.2∧s10.2<((frW c w).c_.id.length:Int))<|
    ass (0≤s10.2∧s10.2<((frW c w).c_.id.length:Int))<|
    (QT (frW c w) s10.2 s10.2 [s10.2,ix (frW c w).c_.id s10.2,ix (frW c w).c_.id s10.2]).bind λv14=>
    ass ((s10.1++[v14]).length≤1073741824)<|
    ass (B64 (s10.2+1))<|
    some (yM (s10.1++[v14],s10.2+1))
   else
    some (yK s10.1)) fuel ([],0)).bind K=K (tbW (idV c w) c.n.toNat):=by
 have hn:=hc.nums;simp only[show(frW c w).c_=c from rfl];refine Q11 c.n.toNat (tbW (idV c w)) rfl (by omega) (λi hi=>?_) (by simp only;rw[if_neg (by omega)]) rfl;have l:=QK (idV c w) i;simp only;rw[if_pos (by omega),Q2 (by omega),Q2 (by omega),e_idS hc hF hS hi];simp only[yR];rw[Q2 (by simp only[qD,xA];omega),Q2 (by unfold B64;omega),Q1R]
theorem e_idsI{c:Cat}(hc:c.Is){w:List Int}(hF:FinW c w)(hS:SmT c w){β:Type}(K:List Int→Option β)(A B:List Int)(D:List X3):
  (Qd (σ:=List Int×Int) (ε:=List Int) (λs178=>
    if s178.2<(c.id.length:Int)then
     ass (0≤s178.2∧s178.2<(c.id.length:Int))<|
     (Qy (⟨wD c w,(⟨c.n,A,B,s178.1,[]⟩:Cat),fmX c w c.n.toNat,smX c w c.n.toNat,D⟩:XL) s178.2 s178.2 (⟨s178.2,ix c.id s178.2,ix c.id s178.2⟩:X3)).bind λv181=>
     ass ((s178.1++[v181]).length≤1073741824)<|
     ass (B64 (s178.2+1))<|
     some (yM (s178.1++[v181],s178.2+1))
    else
     some (yK s178.1)) fuel ([],0)).bind K=K (tbW (idV c w) c.n.toNat):=by
 have hn:=hc.nums;refine Q11 c.n.toNat (tbW (idV c w)) rfl (by omega) (λi hi=>?_) (by simp only;rw[if_neg (by omega)]) rfl;have l:=QK (idV c w) i;simp only;rw[if_pos (by omega),Q2 (by omega),e_idI hc hF hS rfl rfl hi];simp only[yR];rw[Q2 (by simp only[qD,xA];omega),Q2 (by unfold B64;omega),Q1R]
end
section
attribute [local simp] Qa QD Qo QM Qx
def cmS(c:Cat)(w:List Int)(i i':Nat):Option Int:=
 (Q17 (frW c w) (rx (Ql c w c.n.toNat) i)).bind λv103=>
    (Q17 (frW c w) (rx (Ql c w c.n.toNat) i')).bind λv104=>
    ass ((0:Int)≤2∧2<(v103.length:Int))<|
    ass ((0:Int)≤1∧1<(v104.length:Int))<|
    (Q1c c w (ix v103 2) (ix v104 1)).bind λv107=>
    ass ((0:Int)≤0∧0<((rx (Ql c w c.n.toNat) i).length:Int))<|
    ass ((0:Int)≤1∧1<((rx (Ql c w c.n.toNat) i').length:Int))<|
    ass ((0:Int)≤1∧1<(v103.length:Int))<|
    (Qs c v107.2.1 (ix v103 1)).bind λv111=>
    ass ((0:Int)≤2∧2<(v104.length:Int))<|
    (Qs c v107.2.2.1 (ix v104 2)).bind λv113=>
    (QT (frW c w) (ix (rx (Ql c w c.n.toNat) i) 0) (ix (rx (Ql c w c.n.toNat) i') 1) [v107.1,v111,v113]).bind λv114=>
    some v114
def toW(c:Cat)(w:List Int)(i:Nat):Int:=ix ((Ql c w c.n.toNat).map (ix · 1)) i
def frV(c:Cat)(w:List Int)(i:Nat):Int:=ix ((Ql c w c.n.toNat).map (ix · 0)) i
def cmV(c:Cat)(w:List Int)(i i':Nat):Int:=if toW c w i=frV c w i' then(cmS c w i i').getD (-1)else -1
theorem cmV_ok{c:Cat}(hc:c.Is){w:List Int}(hw:InW c w)(hF:FinW c w)(hS:SmT c w){L:XL}(l1:L.first_=fmX c w c.n.toNat)(l2:L.spans_=smX c w c.n.toNat)(l3:L.leaders_=ldX c w c.n.toNat)(l4:L.category_.fr=(Ql c w c.n.toNat).map (ix · 0))(l5:L.category_.to=(Ql c w c.n.toNat).map (ix · 1)){i i':Nat}(hi:i<(Ql c w c.n.toNat).length)(hi':i'<(Ql c w c.n.toNat).length)(he:toW c w i=frV c w i'):
  Qr i i' L (wD c w) c=some (cmV c w i i')∧cmS c w i i'=some (cmV c w i i')∧(0≤cmV c w i i'∧cmV c w i i'<((Ql c w c.n.toNat).length:Int))∧ix ((Ql c w c.n.toNat).map (ix · 0)) (cmV c w i i')=frV c w i∧ix ((Ql c w c.n.toNat).map (ix · 1)) (cmV c w i i')=toW c w i':=by
 obtain⟨v,v1,v2,v3,v4,v5⟩:=e_compW hc hw hF hS l1 l2 l3 l4 l5 hi hi' he;have e:cmS c w i i'=some v:=v2;have:cmV c w i i'=v:=by unfold cmV;rw[if_pos he,e];rfl
 rw[this];exact⟨v1,e,v3,v4,v5⟩
end
section
attribute [local simp] Qa QD Qo QM Qx
def rwB(c:Cat)(w:List Int)(s68:Int):List Int×Int→Option (Ctl (List Int×Int) (List Int)):=λs95=>
    if s95.2<((frW c w).rows_.length:Int)then
     ass (0≤s68∧s68<((frW c w).rows_.length:Int))<|
     ass (0≤s95.2∧s95.2<((frW c w).rows_.length:Int))<|
     ass ((0:Int)≤1∧1<((rx (frW c w).rows_ s68).length:Int))<|
     ass ((0:Int)≤0∧0<((rx (frW c w).rows_ s95.2).length:Int))<|
     (
      if(ix (rx (frW c w).rows_ s68) 1)=(ix (rx (frW c w).rows_ s95.2) 0)then
       (Q17 (frW c w) (rx (frW c w).rows_ s68)).bind λv103=>
       (Q17 (frW c w) (rx (frW c w).rows_ s95.2)).bind λv104=>
       ass ((0:Int)≤2∧2<(v103.length:Int))<|
       ass ((0:Int)≤1∧1<(v104.length:Int))<|
       (Q1c (frW c w).c_ (frW c w).w_ (ix v103 2) (ix v104 1)).bind λv107=>
       ass ((0:Int)≤0∧0<((rx (frW c w).rows_ s68).length:Int))<|
       ass ((0:Int)≤1∧1<((rx (frW c w).rows_ s95.2).length:Int))<|
       ass ((0:Int)≤1∧1<(v103.length:Int))<|
       (Qs (frW c w).c_ v107.2.1 (ix v103 1)).bind λv111=>
       ass ((0:Int)≤2∧2<(v104.length:Int))<|
       (Qs (frW c w).c_ v107.2.2.1 (ix v104 2)).bind λv113=>
       (QT (frW c w) (ix (rx (frW c w).rows_ s68) 0) (ix (rx (frW c w).rows_ s95.2) 1) [v107.1,v111,v113]).bind λv114=>
       some v114
      else
       some (-1):Option (Int)).bind λb101=>
     ass ((s95.1++[b101]).length≤1073741824)<|
     ass (B64 (s95.2+1))<|
     some (yM (s95.1++[b101],s95.2+1))
    else
     some (yK s95.1)
theorem rwB_loop{c:Cat}(hc:c.Is){w:List Int}(hw:InW c w)(hF:FinW c w)(hS:SmT c w){i:Nat}(hi:i<(Ql c w c.n.toNat).length):Qd (rwB c w i) fuel ([],0)=some (tbW (cmV c w i) (Ql c w c.n.toNat).length):=by
 have hl:=Q32 hc hS (m:=c.n.toNat) (qE _);have er:(frW c w).rows_=Ql c w c.n.toNat:=rfl;refine Q1d (λk:Nat=>(tbW (cmV c w i) k,(k:Int))) (Ql c w c.n.toNat).length rfl (by omega) (λk hk=>?_) (by unfold rwB;simp only[er];rw[if_neg (by omega)]);have l:=QK (cmV c w i) k;obtain⟨x,y,j,hx,hy,hj,e1,e2,e3,e4,e5⟩:=Q4B hi;obtain⟨y',z,j',hy',hz,hj',f1,f2,f3,f4,f5⟩:=Q4B hk;unfold rwB;simp only[er];rw[if_pos (by omega),Q2 (by omega),Q2 (by omega),Q2 (by rw[e2];simp[row3]),Q2 (by rw[f2];simp[row3])];have q1:ix (rx (Ql c w c.n.toNat) i) 1=toW c w i:=by unfold toW;rw[e5,e2];rfl
 have q2:ix (rx (Ql c w c.n.toNat) k) 0=frV c w k:=by unfold frV;rw[f4,f2];rfl
 rw[q1,q2];have fin:(if toW c w i=frV c w k then cmS c w i k else some (-1))=some (cmV c w i k):=by
  by_cases h:toW c w i=frV c w k
  ·rw[if_pos h];exact(cmV_ok hc hw hF hS (L:=⟨wD c w,⟨c.n,(Ql c w c.n.toNat).map (ix · 0),(Ql c w c.n.toNat).map (ix · 1),[],[]⟩,fmX c w c.n.toNat,smX c w c.n.toNat,ldX c w c.n.toNat⟩) rfl rfl rfl rfl rfl hi hk h).2.1
  rw[if_neg h];unfold cmV;rw[if_neg h]
 show((if toW c w i=frV c w k then cmS c w i k else some (-1)).bind _)=_;rw[fin];simp only[yR];rw[Q2 (by simp only[qD,xA];omega),Q2 (by unfold B64;omega),Q1R];rfl
end
attribute [local simp] unk unA unE unT unC flat eL eI Qh
def Q1v(lists_:List (List Int))(k_:Int):Option (List Int):=
 (Qd (σ:=List Int×Int) (ε:=List Int) (λs7=>
  if s7.2<(lists_.length:Int)then
   ass (0≤s7.2∧s7.2<(lists_.length:Int))<|
   ass (0≤k_∧k_<((rx lists_ s7.2).length:Int))<|
   ass ((s7.1++[ix (rx lists_ s7.2) k_]).length≤1073741824)<|
   ass (B64 (s7.2+1))<|
   some (yM (s7.1++[ix (rx lists_ s7.2) k_],s7.2+1))
  else
   some (yK s7.1)) fuel ([],0)).bind λb1=>
 some b1
theorem Q57(lists_:List (List Int))(k_:Int)(r:List Int)(h:Q1v lists_ k_=some r):Contract Tryz.prog 54 [.lst true 1 (Ls lists_),iV k_] (lI r):=by
 refine Q9 (rvs:=[.tmp 4]) (rs:=[lI r]) Tryz.func54 rfl rfl rfl rfl (by simp[Tryz.f54]) λF hN hP=>?_;unfold Q1v at h;refine Q0 (runQ hN λK hK=>?_);simp;repeat refine sdQ ?_
 refine hK _ ?_;clear hK K;refine tn (Q4 (st':=⟨[(0,.lst true 1 (Ls lists_)),(1,iV k_)],[],0⟩) (wkQ []) (Q0 (runQ hN λK hK=>?_)));simp;repeat refine sdQ ?_
 refine hK _ ?_;clear hK K;refine tn (Q4 (st':=⟨(0,.lst true 1 (Ls lists_))::Y0q k_ [],[(0,.mix 1 [])],1⟩) (wkQ [(0,0)]) (Q0 (Q0 (runQ hN λK hK=>?_))));simp;repeat refine sdQ ?_
 refine hK _ (tn (Q4 (st':=⟨(0,.lst true 1 (Ls lists_))::Y0q k_ [(6,iV 0)],[(0,.mix 1 [])],1⟩) (wkQ [(0,0)]) ?_));clear hK K;replace⟨e1,h,h1⟩:=bind_some h;refine Qc (λb1:List Int=>⟨Y06 b1 [],[(0,rI b1)],1⟩) (λb1=>b1=e1) ?_ ?_
 ·refine Q5 (Qm h (λs7:List Int×Int=>⟨(0,.lst true 1 (Ls lists_))::(1,iV k_)::Y0b s7 [(6,iV s7.2)],[(0,rI s7.1)],1⟩) (Q2M ⟨(0,.lst true 1 (Ls lists_))::Y0q k_ [(6,iV 0)],[(0,rI [])],1⟩ (Wk.nils [] (by simp) (by simp) (by simp[nlA]) (by simp[entN,nlL,nlA,BN]) (by simp)) (wkQ [(0,0)])) ?_);clear h;intro k7 s7 c7 h hk7;refine Q0 (Q0 (runQ hN λK hK=>?_));simp;repeat refine sdQ ?_
  refine hK _ ?_;clear hK K;refine tn (Q6 rfl (λg=>?_) λg=>?_)
  ·have g8:s7.2<(lists_.length:Int):=gQ;clear g;replace h:=if_l g8 h;refine Q7 (tn (Q0 (Q5 (runQ hN λK hK=>?_))));replace⟨a9,h⟩:=Q1 h;replace⟨a10,h⟩:=Q1 h;replace⟨a11,h⟩:=Q1 h;(try simp only[qD,qH,zS]at a11);simp[at_L a9,at_I a10,a11];(repeat refine sdQ ?_);refine hK _ ?_;clear hK K;refine bn (tn (Q4 (st':=⟨[(0,.lst true 1 (Ls lists_)),(1,iV k_),(5,.own 0 0 ((s7.1++[ix (rx lists_ s7.2) k_]).length)),(6,iV s7.2)],[(0,rI (s7.1++[ix (rx lists_ s7.2) k_]))],1⟩) (wkQ [(2,0)]) (runQ hN λK hK=>?_)));replace⟨a12,h⟩:=Q1 h;simp[Qg a12];(repeat refine sdQ ?_);refine hK _ ?_;clear hK K;cases h;exact rn (s':=(s7.1++[ix (rx lists_ s7.2) k_],s7.2+1)) hk7 (wkQ [(0,0)])
  have g8:¬(s7.2<(lists_.length:Int)):=gQ;clear g;replace h:=if_r g8 h;refine Qj (tx (lx (bh ?_)));cases h;exact jn (b:=s7.1) hk7 (wkQ [(0,0)])
 intro b1 hb1;have h:=h1;try rw[←hb1]at h
 clear h1;try dsimp only at h
 refine Q0 (runQ hN λK hK=>?_);simp;repeat refine sdQ ?_
 refine hK _ (tn (Q4 (st':=⟨[(4,.own 0 0 b1.length)],[(0,rI b1)],1⟩) (wkQ [(0,0)]) (Qi ?_)));clear hK K;have hr:=yJ h;rw[←hr];refine⟨_,(.tmp .nil),?_⟩;refine⟨(.one rfl rfl .nil),[lI b1],[0],by simp[BN],by simp,(yN _)⟩
attribute [local simp] unk unA unE unT unC flat eL eI Qh QI QX Cat.cells XF.cells
def Q1T(l_:XF):Option Cat:=
 (Q1v l_.rows_ 0).bind λv1=>
 (Q1v l_.rows_ 1).bind λv2=>
 (Qd (σ:=List Int×Int) (ε:=List Int) (λs10=>
  if s10.2<l_.c_.n then
   ass (0≤s10.2∧s10.2<(l_.c_.id.length:Int))<|
   ass (0≤s10.2∧s10.2<(l_.c_.id.length:Int))<|
   (QT l_ s10.2 s10.2 [s10.2,ix l_.c_.id s10.2,ix l_.c_.id s10.2]).bind λv14=>
   ass ((s10.1++[v14]).length≤1073741824)<|
   ass (B64 (s10.2+1))<|
   some (yM (s10.1++[v14],s10.2+1))
  else
   some (yK s10.1)) fuel ([],0)).bind λb3=>
 (Qd (σ:=List (List Int)×Int) (ε:=List (List Int)) (λs68=>
  (
   if s68.2<(l_.rows_.length:Int)then
    (Q26 (⟨l_.c_.n,v1,v2,b3,s68.1⟩:Cat)).bind λv71=>
    some v71
   else
    some false:Option (Bool)).bind λb69=>
  if b69=true then
   (Qd (σ:=List Int×Int) (ε:=List Int) (λs95=>
    if s95.2<(l_.rows_.length:Int)then
     ass (0≤s68.2∧s68.2<(l_.rows_.length:Int))<|
     ass (0≤s95.2∧s95.2<(l_.rows_.length:Int))<|
     ass ((0:Int)≤1∧1<((rx l_.rows_ s68.2).length:Int))<|
     ass ((0:Int)≤0∧0<((rx l_.rows_ s95.2).length:Int))<|
     (
      if(ix (rx l_.rows_ s68.2) 1)=(ix (rx l_.rows_ s95.2) 0)then
       (Q17 l_ (rx l_.rows_ s68.2)).bind λv103=>
       (Q17 l_ (rx l_.rows_ s95.2)).bind λv104=>
       ass ((0:Int)≤2∧2<(v103.length:Int))<|
       ass ((0:Int)≤1∧1<(v104.length:Int))<|
       (Q1c l_.c_ l_.w_ (ix v103 2) (ix v104 1)).bind λv107=>
       ass ((0:Int)≤0∧0<((rx l_.rows_ s68.2).length:Int))<|
       ass ((0:Int)≤1∧1<((rx l_.rows_ s95.2).length:Int))<|
       ass ((0:Int)≤1∧1<(v103.length:Int))<|
       (Qs l_.c_ v107.2.1 (ix v103 1)).bind λv111=>
       ass ((0:Int)≤2∧2<(v104.length:Int))<|
       (Qs l_.c_ v107.2.2.1 (ix v104 2)).bind λv113=>
       (QT l_ (ix (rx l_.rows_ s68.2) 0) (ix (rx l_.rows_ s95.2) 1) [v107.1,v111,v113]).bind λv114=>
       some v114
      else
       some (-1):Option (Int)).bind λb101=>
     ass ((s95.1++[b101]).length≤1073741824)<|
     ass (B64 (s95.2+1))<|
     some (yM (s95.1++[b101],s95.2+1))
    else
     some (yK s95.1)) fuel ([],0)).bind λb73=>
   ass ((s68.1++[b73]).length≤1073741824)<|
   ass (B64 (s68.2+1))<|
   some (yM (s68.1++[b73],s68.2+1))
  else
   some (yK s68.1)) fuel ([],0)).bind λb17=>
 some (⟨l_.c_.n,v1,v2,b3,b17⟩:Cat)
@[simp] abbrev Y0y(a:XF)(b c:List Int)(d:List (AV)):List (AV):=iV a.c_.n::.own 4 0 b.length::.own 5 0 c.length::d
@[simp] abbrev Y5(a:XF)(b c d:List Int)(e:List (List Int)×Int)(f:List (Nat×Ent)):List (Nat×Ent):=(0,.mix 9 [(XF.cells true a)])::(1,.mix 5 [(Y0w [])])::(2,.mix 5 [(Cat.cells true a.c_)])::(3,.mix 5 [(Y0y a b c [.own 6 0 d.length,.own 7 0 e.1.length])])::(4,rI b)::(5,rI c)::(6,rI d)::(7,.row 1 (Ls e.1))::f
@[simp] abbrev Yd(a:List (Nat×AV)):List (Nat×AV):=(1,.adr 0 0 0)::(2,.adr 1 0 0)::(3,.adr 2 0 0)::(4,.adr 3 0 0)::a
@[simp] abbrev Yn(a:XF)(b:List (Nat×Ent)):List (Nat×Ent):=(0,.mix 9 [(XF.cells true a)])::(1,.mix 5 [(Y0w [])])::(2,.mix 5 [(Cat.cells true a.c_)])::b
@[simp] abbrev Y00(a:List (List Int)×Int)(b:List Int×Int)(c:XF)(d:List (Nat×AV)):List (Nat×AV):=(6,iV a.2)::(7,.own 8 0 b.1.length)::(8,iV b.2)::(9,lI (rx c.rows_ a.2))::(10,lI (rx c.rows_ b.2))::d
@[simp] abbrev Y05(a:XF)(b c d:List Int)(e:List (Nat×Ent)):List (Nat×Ent):=(3,.mix 5 [(Y0y a b c [.own 6 0 d.length,.own 7 0 0])])::(4,rI b)::(5,rI c)::(6,rI d)::e
@[simp] abbrev Y0d(a:XF)(b c:List Int)(d:List (Nat×Ent)):List (Nat×Ent):=(3,.mix 5 [(Y0y a b c [.own 6 0 0,.own 7 0 0])])::(4,rI b)::(5,rI c)::d
theorem Q6G(l_:XF)(r:Cat)(h:Q1T l_=some r):Contract Tryz.prog 35 [.agg (l_.cells true)] (.agg (r.cells true)):=by
 refine Q9 (rvs:=[.cell 2 27]) (rs:=[.agg (r.cells true)]) Tryz.func35 rfl rfl rfl rfl (by simp[Tryz.f35]) λF hN hP=>?_;unfold Q1T at h;refine Q0 (runQ hN λK hK=>?_);simp;repeat refine sdQ ?_
 refine hK _ ?_;clear hK K;refine tn (Q4 (st':=⟨YK [],[(0,.mix 9 [(XF.cells true l_)]),(1,.mix 5 [(Y0w [])])],2⟩) (wkQ [(0,0),(1,1)]) (Q0 (runQ hN λK hK=>?_)));simp;repeat refine sdQ ?_
 refine hK _ ?_;clear hK K;refine tn (Q4 (st':=⟨YK [(3,.adr 2 0 0)],Yn l_ [],3⟩) (wkI 3) (Q0 (runQ hN λK hK=>?_)));simp;repeat with_reducible refine sdQ ?_
 replace⟨v1,hv1,h⟩:=bind_some h;refine Q3 (Q57 _ _ v1 hv1) (.cons .lst (.cons .val .nil)) ?_;simp;repeat with_reducible refine sdQ ?_
 replace⟨v2,hv2,h⟩:=bind_some h;refine Q3 (Q57 _ _ v2 hv2) (.cons .lst (.cons .val .nil)) ?_;simp;repeat refine sdQ ?_
 refine hK _ ?_;clear hK K;refine tn (Q4 (st':=⟨Yd [],Yn l_ (Y0d l_ v1 v2 [(6,.mix 1 []),(7,.mix 1 [])]),8⟩) (wkQ [(0,0),(1,1),(2,2),(7,3),(3,4),(4,5),(5,6),(6,7)]) (Q0 (Q0 (runQ hN λK hK=>?_))));simp;repeat refine sdQ ?_
 refine hK _ (tn (Q4 (st':=⟨Yd [(5,iV 0)],Yn l_ (Y0d l_ v1 v2 [(6,.mix 1 []),(7,.mix 1 [])]),8⟩) (wkI 8) ?_));clear hK K;replace⟨e3,h,h3⟩:=bind_some h;refine Qc (λb3:List Int=>⟨Yd [],Yn l_ (Y05 l_ v1 v2 b3 [(7,.mix 1 [])]),8⟩) (λb3=>b3=e3) ?_ ?_
 ·refine Q5 (Qm h (λs10:List Int×Int=>⟨Yd [(5,iV s10.2)],Yn l_ [(3,.mix 5 [(Y0y l_ v1 v2 [.own 6 0 s10.1.length,.own 7 0 0])]),(4,rI v1),(5,rI v2),(6,rI s10.1),(7,.mix 1 [])],8⟩) (Q2M ⟨Yd [(5,iV 0)],Yn l_ (Y0d l_ v1 v2 [(6,rI []),(7,.mix 1 [])]),8⟩ (Wk.nils [] (by simp) (by simp) (by simp[nlA]) (by simp[entN,nlL,nlA,BN]) (by simp)) (wkI 8)) ?_);clear h;intro k10 s10 c10 h hk10;refine Q0 (Q0 (runQ hN λK hK=>?_));simp;repeat refine sdQ ?_
  refine hK _ ?_;clear hK K;refine tn (Q6 rfl (λg=>?_) λg=>?_)
  ·have g11:s10.2<l_.c_.n:=gQ;clear g;replace h:=if_l g11 h;refine Q7 (tn (Q0 (Q5 (runQ hN λK hK=>?_))));replace⟨a12,h⟩:=Q1 h;replace⟨a13,h⟩:=Q1 h;simp[at_I a12,at_I a13];(repeat with_reducible refine sdQ ?_);replace⟨v14,hv14,h⟩:=bind_some h;refine Q3 (Q3X _ _ _ _ v14 hv14) (.cons (.aggL (.cons .val (.cons .lst (.cons .lst (.cons .lst (.cons .lst (.cons .lst (.cons .lst (.cons .lst (.cons .lst .nil)))))))))) (.cons .val (.cons .val (.cons (.lits (es:=_) rfl (.cons rfl (.cons .val .nil) (.cons rfl (.cons .val .nil) (.cons rfl (.cons .val .nil) .nil))) rfl) .nil)))) ?_;replace⟨a15,h⟩:=Q1 h;(try simp only[qD,qH,zS]at a15);simp[at_I a12,at_I a13,a15];(repeat refine sdQ ?_);refine hK _ ?_;clear hK K;refine bn (tn (Q4 (st':=⟨Yd [(5,iV s10.2)],Yn l_ [(3,.mix 5 [(Y0y l_ v1 v2 [.own 6 0 ((s10.1++[v14]).length),.own 7 0 0])]),(4,rI v1),(5,rI v2),(6,rI (s10.1++[v14])),(7,.mix 1 [])],8⟩) (wkQ [(0,0),(1,1),(2,2),(3,3),(4,4),(5,5),(11,6),(7,7)]) (runQ hN λK hK=>?_)));replace⟨a16,h⟩:=Q1 h;simp[Qg a16];(repeat refine sdQ ?_);refine hK _ ?_;clear hK K;cases h;exact rn (s':=(s10.1++[v14],s10.2+1)) hk10 (wkI 8)
  have g11:¬(s10.2<l_.c_.n):=gQ;clear g;replace h:=if_r g11 h;refine Qj (tx (lx (bh ?_)));cases h;exact jn (b:=s10.1) hk10 (wkI 8)
 intro b3 hb3;have h:=h3;try rw[←hb3]at h
 clear h3;try dsimp only at h
 refine Q0 (Q0 (runQ hN λK hK=>?_));simp;repeat refine sdQ ?_
 refine hK _ (tn (Q4 (st':=⟨Yd [(6,iV 0)],Yn l_ (Y05 l_ v1 v2 b3 [(7,.mix 1 [])]),8⟩) (wkI 8) ?_));clear hK K;replace⟨e17,h,h17⟩:=bind_some h;refine Qc (λb17:List (List Int)=>⟨Yw [(4,.adr 1 0 0)],[(0,.mix 5 [(Y0w [])]),(1,.mix 5 [[iV l_.c_.n,.own 2 0 v1.length,.own 3 0 v2.length,.own 4 0 b3.length,.own 5 0 b17.length]]),(2,rI v1),(3,rI v2),(4,rI b3),(5,.row 1 (Ls b17))],6⟩) (λb17=>b17=e17) ?_ ?_
 ·refine Q5 (Qm h (λs68:List (List Int)×Int=>⟨Yd [(6,iV s68.2)],Y5 l_ v1 v2 b3 s68 [],8⟩) (Q2M ⟨Yd [(6,iV 0)],Yn l_ (Y05 l_ v1 v2 b3 [(7,.row 1 (Ls []))]),8⟩ (Wk.nils [] (by simp) (by simp) (by simp[nlA]) (by simp[entN,nlL,nlA,BN]) (by simp)) (wkI 8)) ?_);clear h;intro k68 s68 c68 h hk68;refine Q0 (Q0 ?_);replace⟨e69,h,h69⟩:=bind_some h;refine Qc (λb69:Bool=>⟨Yd [(6,iV s68.2),(66,.val (.bool b69))],Y5 l_ v1 v2 b3 s68 [],8⟩) (λb69=>b69=e69) ?_ ?_
  ·refine runQ hN λK hK=>?_;simp;(repeat with_reducible refine sdQ ?_);refine Qv (λg=>?_) (λg=>?_)
   ·have g70:s68.2<(l_.rows_.length:Int):=gQ;clear g;replace h:=if_l g70 h;simp;(repeat with_reducible refine sdQ ?_);replace⟨v71,hv71,h⟩:=bind_some h;refine Q3 (Q6B _ v71 hv71) (.cons (.aggL (.cons .val (.cons .w (.cons .w (.cons .w (.cons .w .nil)))))) .nil) ?_;simp;(repeat refine sdQ ?_);refine hK _ ?_;exact jn (b:=v71) (yJ h) (wkI 8)
   have g70:¬(s68.2<(l_.rows_.length:Int)):=gQ;clear g;replace h:=if_r g70 h;simp;(repeat refine sdQ ?_);refine hK _ ?_;exact jn (b:=false) (yJ h) (wkI 8)
  intro b69 hb69;have h:=h69;try rw[←hb69]at h
  clear h69;try dsimp only at h
  refine Q6 rfl (λg=>?_) λg=>?_
  ·have g72:b69=true:=gQ;clear g;replace h:=if_l g72 h;refine Q7 (tn (Q0 (Q5 (Q0 (runQ hN λK hK=>?_)))));simp;(repeat refine sdQ ?_);refine hK _ ?_;clear hK K;refine tn (Q4 (st':=⟨Yd [(6,iV s68.2),(7,.own 8 0 0)],Y5 l_ v1 v2 b3 s68 [(8,.mix 1 [])],9⟩) (wkI 9) (Q0 (Q0 (runQ hN λK hK=>?_))));simp;(repeat refine sdQ ?_);refine hK _ (tn (Q4 (st':=⟨Yd [(6,iV s68.2),(7,.own 8 0 0),(8,iV 0)],Y5 l_ v1 v2 b3 s68 [(8,.mix 1 [])],9⟩) (wkI 9) ?_));clear hK K;replace⟨e73,h,h73⟩:=bind_some h;refine Qc (λb73:List Int=>⟨Yd [(6,iV s68.2),(7,.own 8 0 b73.length)],Y5 l_ v1 v2 b3 s68 [(8,rI b73)],9⟩) (λb73=>b73=e73) ?_ ?_
   ·refine Q5 (Qm h (λs95:List Int×Int=>⟨Yd [(6,iV s68.2),(7,.own 8 0 s95.1.length),(8,iV s95.2)],Y5 l_ v1 v2 b3 s68 [(8,rI s95.1)],9⟩) (Q2M ⟨Yd [(6,iV s68.2),(7,.own 8 0 0),(8,iV 0)],Y5 l_ v1 v2 b3 s68 [(8,rI [])],9⟩ (Wk.nils [] (by simp) (by simp) (by simp[nlA]) (by simp[entN,nlL,nlA,BN]) (by simp)) (wkI 9)) ?_);clear h;intro k95 s95 c95 h hk95;refine Q0 (Q0 (runQ hN λK hK=>?_));simp;(repeat refine sdQ ?_);refine hK _ ?_;clear hK K;refine tn (Q6 rfl (λg=>?_) λg=>?_)
    ·have g96:s95.2<(l_.rows_.length:Int):=gQ;clear g;replace h:=if_l g96 h;refine Q7 (tn (Q0 (Q5 (Q0 (runQ hN λK hK=>?_)))));replace⟨a97,h⟩:=Q1 h;replace⟨a98,h⟩:=Q1 h;simp[at_L a97,at_L a98];(repeat refine sdQ ?_);refine hK _ ?_;clear hK K;refine tn (Q4 (st':=⟨Yd (Y00 s68 s95 l_ []),Y5 l_ v1 v2 b3 s68 [(8,rI s95.1)],9⟩) (wkI 9) (Q0 (runQ hN λK hK=>?_)));simp;(repeat refine sdQ ?_);refine hK _ ?_;clear hK K;refine tn (Q4 (st':=⟨Yd (Y00 s68 s95 l_ [(11,iV (-1))]),Y5 l_ v1 v2 b3 s68 [(8,rI s95.1)],9⟩) (wkI 9) (Q0 (Q0 (runQ hN λK hK=>?_))));replace⟨a99,h⟩:=Q1 h;replace⟨a100,h⟩:=Q1 h;simp[(show(Is (rx l_.rows_ s68.2))[1]? =some [iV (ix (rx l_.rows_ s68.2) 1)] from at_I (j:=1) a99),(show(Is (rx l_.rows_ s95.2))[0]? =some [iV (ix (rx l_.rows_ s95.2) 0)] from at_I (j:=0) a100)];(repeat refine sdQ ?_);refine hK _ (tn ?_);clear hK K;replace⟨e101,h,h101⟩:=bind_some h;refine Qc (λb101:Int=>⟨Yd [(6,iV s68.2),(7,.own 8 0 s95.1.length),(8,iV s95.2),(11,iV b101)],Y5 l_ v1 v2 b3 s68 [(8,rI s95.1)],9⟩) (λb101=>b101=e101) ?_ ?_
     ·refine Q6 rfl (λg=>?_) λg=>?_
      ·have g102:(ix (rx l_.rows_ s68.2) 1)=(ix (rx l_.rows_ s95.2) 0):=gQ;clear g;replace h:=if_l g102 h;refine Q0 (rxQ hN λK hK=>?_);simp;(repeat with_reducible refine sdQ ?_);replace⟨v103,hv103,h⟩:=bind_some h;refine Q4G (fz:=[]) true (Q5G _ _ v103 hv103) (PurK.ofN (.cons (.aggL (.cons .val (.cons .lst (.cons .lst (.cons .lst (.cons .lst (.cons .lst (.cons .lst (.cons .lst (.cons .lst .nil)))))))))) (.cons .lst .nil))) ?_;simp;(repeat with_reducible refine sdQ ?_);replace⟨v104,hv104,h⟩:=bind_some h;refine Q4G (fz:=[]) true (Q5G _ _ v104 hv104) (PurK.ofN (.cons (.aggL (.cons .val (.cons .lst (.cons .lst (.cons .lst (.cons .lst (.cons .lst (.cons .lst (.cons .lst (.cons .lst .nil)))))))))) (.cons .lst .nil))) ?_;simp;(repeat refine sdQ ?_);refine hK _ ?_;clear hK K;refine tn (Q4 (st':=⟨Yd (Y00 s68 s95 l_ [(12,lI v103),(13,lI v104)]),Y5 l_ v1 v2 b3 s68 [(8,rI s95.1)],9⟩) (wkI 9) (Q0 (runQ hN λK hK=>?_)));replace⟨a105,h⟩:=Q1 h;replace⟨a106,h⟩:=Q1 h;simp[(show(Is v103)[2]? =some [iV (ix v103 2)] from at_I (j:=2) a105),(show(Is v104)[1]? =some [iV (ix v104 1)] from at_I (j:=1) a106)];(repeat with_reducible refine sdQ ?_);replace⟨v107,hv107,h⟩:=bind_some h;refine Q3 (Q58 _ _ _ _ v107 hv107) (.cons (.aggL (.cons .val (.cons .lst (.cons .lst (.cons .lst (.cons .lst .nil)))))) (.cons .lst (.cons .val (.cons .val .nil)))) ?_;simp;(repeat refine sdQ ?_);refine hK _ ?_;clear hK K;refine tn (Q4 (st':=⟨Yd (Y00 s68 s95 l_ [(12,lI v103),(13,lI v104),(14,iV v107.1),(15,iV v107.2.1),(16,iV v107.2.2.1)]),Y5 l_ v1 v2 b3 s68 [(8,rI s95.1)],9⟩) (wkI 9) (runQ hN λK hK=>?_));replace⟨a108,h⟩:=Q1 h;replace⟨a109,h⟩:=Q1 h;replace⟨a110,h⟩:=Q1 h;simp[(show(Is (rx l_.rows_ s68.2))[0]? =some [iV (ix (rx l_.rows_ s68.2) 0)] from at_I (j:=0) a108),(show(Is (rx l_.rows_ s95.2))[1]? =some [iV (ix (rx l_.rows_ s95.2) 1)] from at_I (j:=1) a109),(show(Is v103)[1]? =some [iV (ix v103 1)] from at_I (j:=1) a110)];repeat with_reducible refine sdQ ?_
       replace⟨v111,hv111,h⟩:=bind_some h;refine Q3 (QZ _ _ _ v111 hv111) (.cons (.aggL (.cons .val (.cons .lst (.cons .lst (.cons .lst (.cons .lst .nil)))))) (.cons .val (.cons .val .nil))) ?_;replace⟨a112,h⟩:=Q1 h;simp[(show(Is v104)[2]? =some [iV (ix v104 2)] from at_I (j:=2) a112)];(repeat with_reducible refine sdQ ?_);replace⟨v113,hv113,h⟩:=bind_some h;refine Q3 (QZ _ _ _ v113 hv113) (.cons (.aggL (.cons .val (.cons .lst (.cons .lst (.cons .lst (.cons .lst .nil)))))) (.cons .val (.cons .val .nil))) ?_;simp;(repeat with_reducible refine sdQ ?_);replace⟨v114,hv114,h⟩:=bind_some h;refine Q3 (Q3X _ _ _ _ v114 hv114) (.cons (.aggL (.cons .val (.cons .lst (.cons .lst (.cons .lst (.cons .lst (.cons .lst (.cons .lst (.cons .lst (.cons .lst .nil)))))))))) (.cons .val (.cons .val (.cons (.lits (es:=_) rfl (.cons rfl (.cons .val .nil) (.cons rfl (.cons .val .nil) (.cons rfl (.cons .val .nil) .nil))) rfl) .nil)))) ?_;simp;(repeat refine sdQ ?_);refine hK _ ?_;clear hK K;exact jn (b:=v114) (yJ h) (wkI 9)
      have g102:¬((ix (rx l_.rows_ s68.2) 1)=(ix (rx l_.rows_ s95.2) 0)):=gQ;clear g;replace h:=if_r g102 h;refine Q7 ?_;exact jn (b:=(-1)) (yJ h) (wkI 9)
     intro b101 hb101;have h:=h101;(try rw[←hb101]at h);clear h101;(try dsimp only at h);refine runQ hN λK hK=>?_;replace⟨a115,h⟩:=Q1 h;(try simp only[qD,qH,zS]at a115);simp[a115];(repeat refine sdQ ?_);refine hK _ ?_;clear hK K;refine bn (tn (Q4 (st':=⟨Yd [(6,iV s68.2),(7,.own 8 0 ((s95.1++[b101]).length)),(8,iV s95.2)],Y5 l_ v1 v2 b3 s68 [(8,rI (s95.1++[b101]))],9⟩) (wkQ [(0,0),(1,1),(2,2),(3,3),(4,4),(5,5),(6,6),(7,7),(10,8)]) (runQ hN λK hK=>?_)));replace⟨a116,h⟩:=Q1 h;simp[Qg a116];(repeat refine sdQ ?_);refine hK _ ?_;clear hK K;cases h;exact rn (s':=(s95.1++[b101],s95.2+1)) hk95 (wkI 9)
    have g96:¬(s95.2<(l_.rows_.length:Int)):=gQ;clear g;replace h:=if_r g96 h;refine Qj (tx (lx (bh ?_)));cases h;exact jn (b:=s95.1) hk95 (wkI 9)
   intro b73 hb73;have h:=h73;(try rw[←hb73]at h);clear h73;(try dsimp only at h);refine runQ hN λK hK=>?_;replace⟨a117,h⟩:=Q1 h;(try simp only[qD,qH,zS]at a117);simp[a117];(repeat refine sdQ ?_);refine hK _ ?_;clear hK K;refine bn (tn (Q4 (st':=⟨Yd [(6,iV s68.2)],Yn l_ [(3,.mix 5 [(Y0y l_ v1 v2 [.own 6 0 b3.length,.own 7 0 ((s68.1++[b73]).length)])]),(4,rI v1),(5,rI v2),(6,rI b3),(7,.row 1 (Ls (s68.1++[b73])))],8⟩) (wkQ [(0,0),(1,1),(2,2),(3,3),(4,4),(5,5),(6,6),(10,7)]) (runQ hN λK hK=>?_)));replace⟨a118,h⟩:=Q1 h;simp[Qg a118];(repeat refine sdQ ?_);refine hK _ ?_;clear hK K;cases h;exact rn (s':=(s68.1++[b73],s68.2+1)) hk68 (wkI 8)
  have g72:¬(b69=true):=gQ;clear g;replace h:=if_r g72 h;refine Qj (tx (lx (bh ?_)));cases h;exact jn (b:=s68.1) hk68 (wkQ [(1,0),(3,1),(4,2),(5,3),(6,4),(7,5)])
 intro b17 hb17;have h:=h17;try rw[←hb17]at h
 clear h17;try dsimp only at h
 refine Q0 (runQ hN λK hK=>?_);simp;repeat refine sdQ ?_
 refine hK _ (tn (Q4 (st':=⟨Yw [],[(0,.mix 5 [[iV l_.c_.n,.own 1 0 v1.length,.own 2 0 v2.length,.own 3 0 b3.length,.own 4 0 b17.length]]),(1,rI v1),(2,rI v2),(3,rI b3),(4,.row 1 (Ls b17))],5⟩) (wkQ [(0,0),(2,1),(3,2),(4,3),(5,4)]) (Qi ?_)));clear hK K;have hr:=yJ h;rw[←hr];refine⟨_,(.cell tf_27 rfl rfl rfl (by simp) (by simp) .nil),?_⟩;refine⟨(.agg rfl .nil),[iV l_.c_.n,lI v1,lI v2,lI b3,.lst true 1 (Ls b17)],[1,2,3,4],by simp[BN],by simp,(yN _)⟩
section
attribute [local simp] Qa QD Qo QM Qx
def csW(c:Cat)(w:List Int)(k:Nat):List (List Int):=tbW (λi=>tbW (cmV c w i) (Ql c w c.n.toNat).length) k
def lcW(c:Cat)(w:List Int)(k:Nat):Cat:=⟨c.n,(Ql c w c.n.toNat).map (ix · 0),(Ql c w c.n.toNat).map (ix · 1),tbW (idV c w) c.n.toNat,csW c w k⟩
def caB(c:Cat)(w:List Int):List (List Int)×Int→Option (Ctl (List (List Int)×Int) (List (List Int))):=λs68=>
  (
   if s68.2<((frW c w).rows_.length:Int)then
    (Q26 (⟨(frW c w).c_.n,(Ql c w c.n.toNat).map (ix · 0),(Ql c w c.n.toNat).map (ix · 1),tbW (idV c w) c.n.toNat,s68.1⟩:Cat)).bind λv71=>
    some v71
   else
    some false:Option (Bool)).bind λb69=>
  if b69=true then
   (Qd (rwB c w s68.2) fuel ([],0)).bind λb73=>
   ass ((s68.1++[b73]).length≤1073741824)<|
   ass (B64 (s68.2+1))<|
   some (yM (s68.1++[b73],s68.2+1))
  else
   some (yK s68.1)
theorem rowsX_3{c:Cat}{w:List Int}{r:List Int}(hr:r∈Ql c w c.n.toNat):r.length=3:=by
 obtain⟨i,hi,rfl⟩:=zX hr;obtain⟨x,y,j,hx,hy,hj,e1,e2,e3,e4,e5⟩:=Q4B hi;have:rx (Ql c w c.n.toNat) i=(Ql c w c.n.toNat)[i]:=by simp[rx,qB,hi]
 rw[←this,e2];rfl
theorem Q8n{L:List (List Int)}{k:Int}(hn:L.length<1000000)(h0:0≤k)(hx:∀x∈L,k<x.length):Q1v L k=some (L.map (ix · k)):=by
 unfold Q1v;refine Q11 L.length (λi=>(L.take i).map (ix · k)) (e:=L.map (ix · k)) (by simp) (by omega) (λi hi=>?_) (by simp) rfl;have h1:=hx _ (at_rxm hi);have h2:=take_rx hi;simp(disch:=omega) [Q2,B64,h2];try omega
theorem caB_step{c:Cat}(hc:c.Is){w:List Int}(hw:InW c w)(hF:FinW c w)(hS:SmT c w)(h40:(Ql c w c.n.toNat).length≤40){i:Nat}(hi:i<(Ql c w c.n.toNat).length):caB c w (csW c w i,(i:Int))=some (.next (csW c w (i+1),(i:Int)+1)):=by
 have hn:=hc.nums;have er:(frW c w).rows_=Ql c w c.n.toNat:=rfl;have ec:(frW c w).c_=c:=rfl;have hl:(csW c w i).length=i:=QK _ _;unfold caB;simp only[er,ec];rw[if_pos (by omega),Q7y,Qu (by simp only[yZ];omega)];simp only[yR,if_true];rw[rwB_loop hc hw hF hS hi];simp only[yR];rw[Q2 (by simp only[qD,xA];omega),Q2 (by unfold B64;omega)];unfold csW;rw[Q1R]
theorem caB_end{c:Cat}{w:List Int}(cs:List (List Int)){k:Int}(h:¬(k<((Ql c w c.n.toNat).length:Int)∧(Ql c w c.n.toNat).length≤40)):caB c w (cs,k)=some (.ret cs):=by
 have er:(frW c w).rows_=Ql c w c.n.toNat:=rfl;have ec:(frW c w).c_=c:=rfl;unfold caB;simp only[er,ec]
 by_cases hk:k<((Ql c w c.n.toNat).length:Int)
 ·rw[if_pos hk,Q7y,Qp (by simp only[yZ];omega)];simp only[yR,zG,if_false]
 rw[if_neg hk];simp only[yR,zG,if_false]
theorem e_catS{c:Cat}(hc:c.Is){w:List Int}(hw:InW c w)(hF:FinW c w)(hS:SmT c w):Q1T (frW c w)=some (lcW c w (if(Ql c w c.n.toNat).length≤40 then(Ql c w c.n.toNat).length else 0)):=by
 have hn:=hc.nums;have hl:=Q32 hc hS (m:=c.n.toNat) (qE _);have er:(frW c w).rows_=Ql c w c.n.toNat:=rfl;have c0:=(Q8n (L:=Ql c w c.n.toNat) (k:=0) (by omega) (by omega) λx hx=>by rw[rowsX_3 hx];omega);have c1:=(Q8n (L:=Ql c w c.n.toNat) (k:=1) (by omega) (by omega) λx hx=>by rw[rowsX_3 hx];omega);unfold Q1T;rw[show Q1v (frW c w).rows_ 0=_ from c0,show Q1v (frW c w).rows_ 1=_ from c1];simp only[yR];refine(e_idsS hc hF hS _).trans ?_;show(Qd (caB c w) fuel ([],0)).bind _=_
 by_cases h40:(Ql c w c.n.toNat).length≤40
 ·rw[if_pos h40];exact Q11 (Ql c w c.n.toNat).length (λi=>csW c w i) (e:=csW c w (Ql c w c.n.toNat).length) rfl (by omega) (λi hi=>caB_step hc hw hF hS h40 hi) (caB_end _ (by omega)) rfl
 rw[if_neg h40];exact Q11 0 (λi=>csW c w i) (e:=csW c w 0) rfl (by omega) (λi hi=>by omega) (caB_end _ (by omega)) rfl
end
section
attribute [local simp] Qa QD Qo QM Qx
def tbI(c:Cat)(w:List Int)(A B I:List Int):Option (List (List Int)):=
 (Qt (⟨c.n,A,B,I,[]⟩:Cat)).bind λv185=>
    ass (0≤v185∧v185≤1073741824)<|
    (Qd (σ:=List (List Int)×Int) (ε:=List (List Int)) (λs216=>
     if s216.2<((zF v185.toNat ([]:List Int)).length:Int)then
      (
       ass (0≤v185∧v185≤1073741824)<|
       ass (0≤s216.2∧s216.2<(s216.1.length:Int))<|
       ass (0≤s216.2∧s216.2<((s216.1.set s216.2.toNat (zF v185.toNat 0)).length:Int))<|
       (Qd (σ:=List (List Int)×Int) (ε:=List (List Int)) (λs233=>
        if s233.2<((rx (s216.1.set s216.2.toNat (zF v185.toNat 0)) s216.2).length:Int)then
         (
          ass (0≤s216.2∧s216.2<(s233.1.length:Int))<|
          ass (0≤s233.2∧s233.2<((rx s233.1 s216.2).length:Int))<|
          ass (0≤s216.2∧s216.2<(B.length:Int))<|
          ass (0≤s233.2∧s233.2<(A.length:Int))<|
          if(ix B s216.2)=(ix A s233.2)then
           ass (0≤s216.2∧s216.2<((s233.1.set s216.2.toNat ((rx s233.1 s216.2).set s233.2.toNat (-1))).length:Int))<|
           (Qr s216.2 s233.2 (⟨(wD c w),(⟨c.n,A,B,I,s233.1.set s216.2.toNat ((rx s233.1 s216.2).set s233.2.toNat (-1))⟩:Cat),(fmX c w c.n.toNat),(smX c w c.n.toNat),(ldX c w c.n.toNat)⟩:XL) (wD c w) c).bind λv242=>
           ass (0≤s233.2∧s233.2<((rx (s233.1.set s216.2.toNat ((rx s233.1 s216.2).set s233.2.toNat (-1))) s216.2).length:Int))<|
           some ((s233.1.set s216.2.toNat ((rx s233.1 s216.2).set s233.2.toNat (-1))).set s216.2.toNat ((rx (s233.1.set s216.2.toNat ((rx s233.1 s216.2).set s233.2.toNat (-1))) s216.2).set s233.2.toNat v242))
          else
           some (s233.1.set s216.2.toNat ((rx s233.1 s216.2).set s233.2.toNat (-1))):Option (List (List Int))).bind λb235=>
         ass (B64 (s233.2+1))<|
         some (yM (b235,s233.2+1))
        else
         some (yK s233.1)) fuel (s216.1.set s216.2.toNat (zF v185.toNat 0),0)).bind λp233=>
       some p233:Option (List (List Int))).bind λb218=>
      ass (B64 (s216.2+1))<|
      some (yM (b218,s216.2+1))
     else
      some (yK s216.1)) fuel (zF v185.toNat ([]:List Int),0)).bind λp216=>
    some p216
theorem e_tabI{c:Cat}(hc:c.Is){w:List Int}(hw:InW c w)(hF:FinW c w)(hS:SmT c w){A B I:List Int}(hA:A=(Ql c w c.n.toNat).map (ix · 0))(hB:B=(Ql c w c.n.toNat).map (ix · 1)):tbI c w A B I=some (csW c w (Ql c w c.n.toNat).length):=by
 have hn:=hc.nums;have hl:=Q32 hc hS (m:=c.n.toNat) (qE _);have lA:A.length=(Ql c w c.n.toNat).length:=by rw[hA,yZ]
 have lB:B.length=(Ql c w c.n.toNat).length:=by rw[hB,yZ]
 obtain⟨R,hR⟩:∃R,R=(Ql c w c.n.toNat).length:=⟨_,rfl⟩;rw[←hR]at lA lB hl⊢;have hcs:csW c w R=tab R λi=>tab R (cmV c w i):=by unfold csW;rw[←hR];rfl
 rw[hcs];unfold tbI Qt;simp only[yR,lA,yV];rw[Q2 (by omega)];refine Q11 R (λi=>mixr R i (λi=>tab R (cmV c w i)) []) (e:=tab R λi=>tab R (cmV c w i)) (Q8U _ _ _).symm (by omega) (λi hi=>?_) (by simp[Qay]) rfl;simp only;rw[if_pos (by simp;omega),Q2 (by omega),Q2 (by simp;omega),Q2 (by simp;omega),Option.bind_assoc];simp only[yV];rw[rx_set (by simp;omega)];refine Q11 R (λk=>(mixr R i (λi=>tab R (cmV c w i)) []).set i (mixr R k (cmV c w i) 0)) (e:=(mixr R i (λi=>tab R (cmV c w i)) []).set i (tab R (cmV c w i))) (by simp[Q8U]) (by omega) (λk hk=>?_) (by simp[Qay]) ?_
 ·have hl:i<(mixr R i (λi=>tab R (cmV c w i)) []).length:=by simpa using hi
  simp only;rw[if_pos (by simp;omega)];simp only[yV,rx_set hl,List.set_set];rw[Q2 (by simp;omega),Q2 (by simp;omega),Q2 (by omega),Q2 (by omega)]
  by_cases e:ix B i=ix A k
  ·have e':toW c w i=frV c w k:=(by unfold toW frV;rw[←hA,←hB];exact e);rw[if_pos e,Q2 (by simp;omega),(cmV_ok hc hw hF hS rfl rfl rfl hA hB (hR▸hi) (hR▸hk) e').1];simp only[yR];rw[Q2 (by simp;omega)];simp only[yR];rw[Q2 (by unfold B64;omega),←Q7T]
  have h7:cmV c w i k= -1:=by
   unfold cmV;exact if_neg λq=>e (by unfold toW frV at q;rw[hA,hB];exact q)
  rw[if_neg e];simp only[yR];rw[Q2 (by unfold B64;omega),←Q7T,h7]
 simp only[yR];rw[Q2 (by unfold B64;omega),←Q7T]
end
section
attribute [local simp] Qa QD Qo QM Qx
theorem e_homSh{c:Cat}(h:c.Sh)(x y:Int):QA c x y=some (flt c.fr.length λa=>ix c.fr a=x∧ix c.to a=y):=by
 have k1:=h.lt;have k2:=h.m40;unfold QA;refine Q11 c.fr.length (λi=>flt i λa=>ix c.fr a=x∧ix c.to a=y) (e:=flt c.fr.length λa=>ix c.fr a=x∧ix c.to a=y) rfl (by omega) (λi hi=>?_) (by simp) rfl;have hl:=Q2q i λa=>ix c.fr a=x∧ix c.to a=y
 by_cases h1:ix c.fr i=x
 ·by_cases h2:ix c.to i=y
  ·rw[Q2r ⟨h1,h2⟩];simp(disch:=omega) [Q2,B64,h1,h2];try omega
  rw[Q2b λq=>h2 q.2];simp(disch:=omega) [Q2,B64,h1,h2];try omega
 rw[Q2b λq=>h1 q.1];simp(disch:=omega) [Q2,B64,h1];try omega
theorem Q5Z{c:Cat}(h:c.Sh){f:Int}(h0:0≤f)(h1:f<c.fr.length):Q1i c f=some (inv c f):=by
 have k1:=h.lt;have k2:=h.m40;have k3:=h.lc;have k4:=h.li;have f1:=h.fr' h0 h1;have f2:=h.to' h0 h1;have f3:=h.row' h0 h1;unfold Q1i;rw[Q2 ⟨h0,h1⟩,Q2 (by omega),e_homSh h];simp only[yR];refine Q8v c.fr.length _ (λg=>ix (rx c.cs f) g=ix c.id (ix c.fr f)∧ix (rx c.cs g) f=ix c.id (ix c.to f)) (eb:=λv=>yT v) (eg:=yS ()) rfl (by omega) (λi k hi hn hk hp hix hq=>?_) (λi k hi hn hk hp hix hq=>?_) (by simp) (λv=>rfl) rfl
 ·have f4:=h.row' (j:=k) (by omega) (by omega)
  by_cases hq1:ix (rx c.cs f) k=ix c.id (ix c.fr f)
  ·have hq2:¬ix (rx c.cs k) f=ix c.id (ix c.to f):=λq=>hq ⟨hq1,q⟩;simp(disch:=omega) [Q2,B64,Q7x,hix,hq1,hq2,hi];try omega
  simp(disch:=omega) [Q2,B64,Q7x,hix,hq1,hi];try omega
 have f4:=h.row' (j:=k) (by omega) (by omega);simp(disch:=omega) [Q2,B64,Q7x,hix,hq.1,hq.2,hi];try omega
theorem Q4y{c:Cat}(hc:c.Sh){f:Int}(h0:0≤f)(h1:f<c.fr.length):Q2w c f=some (bo (f=ix c.id (ix c.fr f))):=by
 have:=hc.fr' h0 h1;unfold Q2w;rw[Q2 ⟨h0,h1⟩,Q2 this]
 by_cases h:ix c.id (ix c.fr f)=f
 ·rw[Qu h.symm];simp[h]
 rw[Qp (λq=>h q.symm)];simp[h]
theorem Q4t{c:Cat}(h:c.Sh){f:Int}(h0:0≤f)(h1:f<c.fr.length):Q21 c f=some (inv c f):=by
 have k1:=h.lt;have k2:=h.m40;have k3:=h.lc;have k4:=h.li;have f1:=h.fr' h0 h1;have f2:=h.to' h0 h1;have f3:=h.row' h0 h1;unfold Q21;rw[Q2 (by omega),Q2 ⟨h0,h1⟩,Qag,e_homSh h];simp only[yR];have key:∀k:Nat,k<c.fr.length→ix c.fr k=ix c.to f∧ix c.to k=ix c.fr f→(0≤ix (rx c.cs f) k∧ix (rx c.cs f) k<c.fr.length∧ix c.fr (ix (rx c.cs f) k)=ix c.fr f)∧(0≤ix (rx c.cs k) f∧ix (rx c.cs k) f<c.fr.length∧ix c.fr (ix (rx c.cs k) f)=ix c.to f):=by
  intro k hk hp;have c1:=(h.cell' (f:=f) (g:=k) h0 h1 (by omega) (by omega)).2 hp.1.symm;have c2:=(h.cell' (f:=k) (g:=f) (by omega) (by omega) h0 h1).2 hp.2;exact⟨⟨c1.1,c1.2.1,c1.2.2.1⟩,c2.1,c2.2.1,by rw[c2.2.2.1,hp.1]⟩
 refine Q8v c.fr.length _ (λg=>ix (rx c.cs f) g=ix c.id (ix c.fr f)∧ix (rx c.cs g) f=ix c.id (ix c.to f)) (eb:=λv=>yT v) (eg:=yS ()) rfl (by omega) (λi k hi hn hk hp hix hq=>?_) (λi k hi hn hk hp hix hq=>?_) (by simp) (λv=>rfl) rfl
 ·have f4:=h.row' (j:=k) (by omega) (by omega);obtain⟨⟨a1,a2,a3⟩,b1,b2,b3⟩:=key k hk hp
  by_cases hq1:ix (rx c.cs f) k=ix c.id (ix c.fr f)
  ·have hq2:¬ix (rx c.cs k) f=ix c.id (ix c.to f):=λq=>hq ⟨hq1,q⟩;have e1:bo (ix (rx c.cs f) k=ix c.id (ix c.fr (ix (rx c.cs f) k)))=true:=Qu (by rw[a3];exact hq1);have e2:bo (ix (rx c.cs k) f=ix c.id (ix c.fr (ix (rx c.cs k) f)))=false:=Qp (by rw[b3];exact hq2);simp(disch:=omega) only[Q2,B64,Q4J,Q4y h,hix,e1,e2,hi,yR,if_true,if_false,zG,if_pos,true_and]
  have e1:bo (ix (rx c.cs f) k=ix c.id (ix c.fr (ix (rx c.cs f) k)))=false:=Qp (by rw[a3];exact hq1);simp(disch:=omega) only[Q2,B64,Q4J,Q4y h,hix,e1,hi,yR,if_true,if_false,zG,if_pos,true_and]
 have f4:=h.row' (j:=k) (by omega) (by omega);obtain⟨⟨a1,a2,a3⟩,b1,b2,b3⟩:=key k hk hp;have e1:bo (ix (rx c.cs f) k=ix c.id (ix c.fr (ix (rx c.cs f) k)))=true:=Qu (by rw[a3];exact hq.1);have e2:bo (ix (rx c.cs k) f=ix c.id (ix c.fr (ix (rx c.cs k) f)))=true:=Qu (by rw[b3];exact hq.2);simp(disch:=omega) only[Q2,B64,Q4J,Q4y h,hix,e1,e2,hi,yR,if_true,if_false,zG,if_pos,true_and]
theorem e_isosSh{c:Cat}(h:c.Sh){p:List Int}(hl:p.length≤1048576)(bd:∀j:Nat,j<p.length→0≤ix p j∧ix p j<c.fr.length):Q37 c p=some (flt p.length λi=>0≤inv c (ix p i))∧Q1l c p=some (flt p.length λi=>0≤inv c (ix p i)):=by
 constructor
 ·unfold Q37;refine Q11 p.length (λi=>flt i λi=>0≤inv c (ix p i)) (e:=flt p.length λi=>0≤inv c (ix p i)) rfl (by omega) (λi hi=>?_) (by simp) rfl;have hn:=Q2q i λi=>0≤inv c (ix p i);have:=bd i hi
  by_cases hp:0≤inv c (ix p i)
  ·rw[Q2r hp];simp(disch:=omega) [Q2,B64,Q4t h,hp,hi]
  rw[Q2b hp];simp(disch:=omega) [Q2,B64,Q4t h,hp,hi]
 unfold Q1l;refine Q11 p.length (λi=>flt i λi=>0≤inv c (ix p i)) (e:=flt p.length λi=>0≤inv c (ix p i)) rfl (by omega) (λi hi=>?_) (by simp) rfl;have hn:=Q2q i λi=>0≤inv c (ix p i);have:=bd i hi
 by_cases hp:0≤inv c (ix p i)
 ·rw[Q2r hp];simp(disch:=omega) [Q2,B64,Q5Z h,hp,hi]
 rw[Q2b hp];simp(disch:=omega) [Q2,B64,Q5Z h,hp,hi]
theorem ix_tbW{g:Nat→Int}{n i:Nat}(h:i<n):ix (tbW g n) i=g i:=by simp[ix,tbW,qB,h]
theorem tbW_mem{α:Type}{g:Nat→α}{n:Nat}{p:α→Prop}(h:∀i,i<n→p (g i)):∀x∈tbW g n,p x:=by
 intro x hx;obtain⟨i,hi,rfl⟩:=List.mem_map.1 hx;exact h i (by simpa using hi)
theorem inR_of{n x:Int}(h:0≤x∧x<n):inR n x=true:=by
 simp only[inR,Bool.and_eq_true,decide_eq_true_eq];omega
theorem lcW_sh{c:Cat}(hc:c.Is){w:List Int}(hw:InW c w)(hF:FinW c w)(hS:SmT c w)(h40:(Ql c w c.n.toNat).length≤40):(lcW c w (Ql c w c.n.toNat).length).Sh:=by
 have hn:=hc.nums;have hlc:(csW c w (Ql c w c.n.toNat).length).length=(Ql c w c.n.toNat).length:=QK _ _;have e1:(lcW c w (Ql c w c.n.toNat).length).fr=(Ql c w c.n.toNat).map (ix · 0):=rfl;have e2:(lcW c w (Ql c w c.n.toNat).length).to=(Ql c w c.n.toNat).map (ix · 1):=rfl;have e3:(lcW c w (Ql c w c.n.toNat).length).id=tbW (idV c w) c.n.toNat:=rfl;have e4:(lcW c w (Ql c w c.n.toNat).length).cs=csW c w (Ql c w c.n.toNat).length:=rfl;have e5:(lcW c w (Ql c w c.n.toNat).length).n=c.n:=rfl;have l1:((Ql c w c.n.toNat).map (ix · 0)).length=(Ql c w c.n.toNat).length:=yZ ..;have l2:((Ql c w c.n.toNat).map (ix · 1)).length=(Ql c w c.n.toNat).length:=yZ ..;refine⟨hc.1.n0,hc.1.n8,?_,?_,?_,?_,?_,?_,?_,?_,?_⟩
 ·rw[e1,l1];exact h40
 ·rw[e1,e2,l1,l2]
 ·intro v hv;rw[e1]at hv;obtain⟨i,hi,rfl⟩:=zX hv;obtain⟨x,y,j,hx,hy,hj,a1,a2,a3,a4,a5⟩:=Q4B (c:=c) (w:=w) (i:=i) (by omega);rw[Q16,a4,e5];exact inR_of (by omega)
 ·intro v hv;rw[e2]at hv;obtain⟨i,hi,rfl⟩:=zX hv;obtain⟨x,y,j,hx,hy,hj,a1,a2,a3,a4,a5⟩:=Q4B (c:=c) (w:=w) (i:=i) (by omega);rw[Q16,a5,e5];exact inR_of (by omega)
 ·rw[e4,e1,l1];exact hlc
 ·rw[e3,e5,QK];omega
 ·rw[e3,e1,l1];exact tbW_mem λi hi=>inR_of (idV_b hc hF hS hi).1
 ·intro x hx;rw[e3,QK]at hx;rw[e1,e2,e3,ix_tbW hx];exact(idV_b hc hF hS hx).2
 intro f hf;rw[e1,l1]at hf;have er:rx (csW c w (Ql c w c.n.toNat).length) f=tbW (cmV c w f) (Ql c w c.n.toNat).length:=rx_tbW hf;rw[e4,e1,l1,er];refine⟨QK _ _,λg hg=>?_⟩;unfold Cat.cell;rw[e4,e1,e2,l1,er,ix_tbW hg];refine⟨λq=>if_neg q,λq=>?_⟩;obtain⟨_,_,q3,q4,q5⟩:=cmV_ok hc hw hF hS (L:=⟨wD c w,⟨c.n,(Ql c w c.n.toNat).map (ix · 0),(Ql c w c.n.toNat).map (ix · 1),[],[]⟩,fmX c w c.n.toNat,smX c w c.n.toNat,ldX c w c.n.toNat⟩) rfl rfl rfl rfl rfl hf hg q;exact⟨q3.1,q3.2,q4,q5⟩
end
attribute [local simp] unk unA unE unT unC flat eL eI Qh QI Q4x Q9j Qz Q1p Q13 Cat.cells Ends.cells Fn.cells XD.cells XL.cells X3.cells
def QQ(l_:XL):Option Fn:=
 (Qd (σ:=List Int×Int) (ε:=List Int) (λs9=>
  if s9.2<(l_.w_.c_.fr.length:Int)then
   ass (0≤s9.2∧s9.2<(l_.w_.c_.fr.length:Int))<|
   ass (0≤s9.2∧s9.2<(l_.w_.c_.to.length:Int))<|
   ass (0≤ix l_.w_.c_.fr s9.2∧ix l_.w_.c_.fr s9.2<(l_.w_.c_.id.length:Int))<|
   (Qy l_ (ix l_.w_.c_.fr s9.2) (ix l_.w_.c_.to s9.2) (⟨ix l_.w_.c_.fr s9.2,ix l_.w_.c_.id (ix l_.w_.c_.fr s9.2),s9.2⟩:X3)).bind λv14=>
   ass ((s9.1++[v14]).length≤1073741824)<|
   ass (B64 (s9.2+1))<|
   some (yM (s9.1++[v14],s9.2+1))
  else
   some (yK s9.1)) fuel ([],0)).bind λb1=>
 (Q2v l_.w_.c_.n).bind λv17=>
 (Q34 l_.w_.c_ l_.category_ v17 b1).bind λv18=>
 some v18
@[simp] abbrev Y02(a:XL)(b:List (Nat×AV)):List (Nat×AV):=(3,.rptr (Cat.cells true a.w_.c_))::b
theorem Q3H(l_:XL)(r:Fn)(h:QQ l_=some r):Contract Tryz.prog 26 [.rptr (l_.cells true)] (.agg (r.cells true)):=by
 refine Q9 (rvs:=[.cell 2 29]) (rs:=[.agg (r.cells true)]) Tryz.func26 rfl rfl rfl rfl (by simp[Tryz.f26]) λF hN hP=>?_;unfold QQ at h;refine Q0 (runQ hN λK hK=>?_);simp;repeat refine sdQ ?_
 refine hK _ ?_;clear hK K;refine tn (Q4 (st':=⟨Y3 l_ (Yw []),YA [],1⟩) (wkQ [(0,0)]) (Q0 (runQ hN λK hK=>?_)));simp;repeat refine sdQ ?_
 refine hK _ ?_;clear hK K;refine tn (Q4 (st':=⟨Y3 l_ (Yw (Y02 l_ [])),YA [],1⟩) (wkQ [(0,0)]) (Q0 (runQ hN λK hK=>?_)));simp;repeat refine sdQ ?_
 refine hK _ ?_;clear hK K;refine tn (Q4 (st':=⟨Y3 l_ (Yw (Y02 l_ [(4,.own 1 0 0)])),YA [(1,.mix 1 [])],2⟩) (wkQ [(0,0),(1,1)]) (Q0 (Q0 (runQ hN λK hK=>?_))));simp;repeat refine sdQ ?_
 refine hK _ (tn (Q4 (st':=⟨Y3 l_ (Yw (Y02 l_ [(4,.own 1 0 0),(20,iV (l_.w_.c_.fr.length:Int)),(21,iV 0)])),YA [(1,.mix 1 [])],2⟩) (wkQ [(0,0),(1,1)]) ?_));clear hK K;replace⟨e1,h,h1⟩:=bind_some h;refine Qc (λb1:List Int=>⟨Y3 l_ (Yw (Y02 l_ [(4,.own 1 0 b1.length)])),YA [(1,rI b1)],2⟩) (λb1=>b1=e1) ?_ ?_
 ·refine Q5 (Qm h (λs9:List Int×Int=>⟨Y3 l_ (Yw (Y02 l_ [(4,.own 1 0 s9.1.length),(20,iV (l_.w_.c_.fr.length:Int)),(21,iV s9.2)])),YA [(1,rI s9.1)],2⟩) (Q2M ⟨Y3 l_ (Yw (Y02 l_ [(4,.own 1 0 0),(20,iV (l_.w_.c_.fr.length:Int)),(21,iV 0)])),YA [(1,rI [])],2⟩ (Wk.nils [] (by simp) (by simp) (by simp[nlA]) (by simp[entN,nlL,nlA,BN]) (by simp)) (wkQ [(0,0),(1,1)])) ?_);clear h;intro k9 s9 c9 h hk9;refine Q0 (runQ hN λK hK=>?_);simp;repeat refine sdQ ?_
  refine hK _ ?_;clear hK K;refine tn (Q0 (Q6 rfl (λg=>?_) λg=>?_))
  ·have g10:s9.2<(l_.w_.c_.fr.length:Int):=gQ;clear g;replace h:=if_l g10 h;refine Q7 (tn (Q0 (Q5 (Q0 (runQ hN λK hK=>?_)))));simp;(repeat refine sdQ ?_);refine hK _ ?_;clear hK K;refine tn (Q4 (st':=⟨Y3 l_ (Yw (Y02 l_ [(4,.own 1 0 s9.1.length),(5,iV s9.2),(20,iV (l_.w_.c_.fr.length:Int)),(21,iV s9.2)])),YA [(1,rI s9.1)],2⟩) (wkQ [(0,0),(1,1)]) (Q0 (runQ hN λK hK=>?_)));replace⟨a11,h⟩:=Q1 h;replace⟨a12,h⟩:=Q1 h;simp[at_I a11,at_I a12];(repeat refine sdQ ?_);refine hK _ ?_;clear hK K;refine tn (Q4 (st':=⟨Y3 l_ (Yw (Y02 l_ [(4,.own 1 0 s9.1.length),(5,iV s9.2),(6,iV (ix l_.w_.c_.fr s9.2)),(7,iV (ix l_.w_.c_.to s9.2)),(20,iV (l_.w_.c_.fr.length:Int)),(21,iV s9.2)])),YA [(1,rI s9.1)],2⟩) (wkQ [(0,0),(1,1)]) (runQ hN λK hK=>?_));replace⟨a13,h⟩:=Q1 h;simp[at_I a13];(repeat with_reducible refine sdQ ?_);replace⟨v14,hv14,h⟩:=bind_some h;refine Q3 (Q1G _ _ _ _ v14 hv14) (.cons (.preT (by simp[CN])) (.cons .val (.cons .val (.cons (.aggL (.cons .val (.cons .val (.cons .val .nil)))) .nil)))) ?_;replace⟨a15,h⟩:=Q1 h;(try simp only[qD,qH,zS]at a15);simp[at_I a13,a15];(repeat refine sdQ ?_);refine hK _ ?_;clear hK K;refine bn (tn (Q4 (st':=⟨Y3 l_ (Yw (Y02 l_ [(4,.own 1 0 ((s9.1++[v14]).length)),(20,iV (l_.w_.c_.fr.length:Int)),(21,iV s9.2)])),YA [(1,rI (s9.1++[v14]))],2⟩) (wkQ [(0,0),(4,1)]) (runQ hN λK hK=>?_)));replace⟨a16,h⟩:=Q1 h
   simp[Qg a16];(repeat refine sdQ ?_);refine hK _ ?_;clear hK K;cases h;exact rn (s':=(s9.1++[v14],s9.2+1)) hk9 (wkQ [(0,0),(1,1)])
  have g10:¬(s9.2<(l_.w_.c_.fr.length:Int)):=gQ;clear g;replace h:=if_r g10 h;refine Qj (tx (lx (bh ?_)));cases h;exact jn (b:=s9.1) hk9 (wkQ [(0,0),(1,1)])
 intro b1 hb1;have h:=h1;try rw[←hb1]at h
 clear h1;try dsimp only at h
 refine Q0 (runQ hN λK hK=>?_);simp;repeat with_reducible refine sdQ ?_
 replace⟨v17,hv17,h⟩:=bind_some h;refine Q3 (Q6A _ v17 hv17) (.cons .val .nil) ?_;simp;repeat with_reducible refine sdQ ?_
 replace⟨v18,hv18,h⟩:=bind_some h;refine Q3 (Q9S _ _ _ _ v18 hv18) (.cons (.preT (by simp[CN])) (.cons (.preT (by simp[CN])) (.cons .w (.cons .w .nil)))) ?_;simp;repeat refine sdQ ?_
 refine hK _ (tn (Q4 (st':=⟨Yw [],Yo v18 [],11⟩) (wkQ [(0,0),(4,1),(5,2),(6,3),(7,4),(9,5),(10,6),(11,7),(12,8),(13,9),(14,10)]) (Qi ?_)));clear hK K;have hr:=yJ h;rw[←hr];refine⟨_,(.cell tf_29 rfl rfl rfl (by simp) (by simp) .nil),?_⟩;refine⟨(.agg rfl .nil),[iV v18.s.n,lI v18.s.fr,lI v18.s.to,lI v18.s.id,.lst true 1 (Ls v18.s.cs),iV v18.t.n,lI v18.t.fr,lI v18.t.to,lI v18.t.id,.lst true 1 (Ls v18.t.cs),lI v18.ob,lI v18.ar],[1,2,3,4,5,6,7,8,9,10],by simp[BN],by simp,(yN _)⟩
attribute [local simp] unk unA unE unT unC flat eL eI Qh QI Q9j QX Cat.cells Fn.cells XF.cells
def Q22(out_:Cat)(l_:XF):Option Fn:=
 (Qd (σ:=List Int×Int) (ε:=List Int) (λs9=>
  if s9.2<(l_.c_.fr.length:Int)then
   ass (0≤s9.2∧s9.2<(l_.c_.fr.length:Int))<|
   ass (0≤s9.2∧s9.2<(l_.c_.to.length:Int))<|
   ass (0≤ix l_.c_.fr s9.2∧ix l_.c_.fr s9.2<(l_.c_.id.length:Int))<|
   (QT l_ (ix l_.c_.fr s9.2) (ix l_.c_.to s9.2) [ix l_.c_.fr s9.2,ix l_.c_.id (ix l_.c_.fr s9.2),s9.2]).bind λv14=>
   ass ((s9.1++[v14]).length≤1073741824)<|
   ass (B64 (s9.2+1))<|
   some (yM (s9.1++[v14],s9.2+1))
  else
   some (yK s9.1)) fuel ([],0)).bind λb1=>
 (Q36 l_.c_).bind λv17=>
 (Q2x l_.c_ out_ v17.ob b1).bind λv18=>
 some v18
@[simp] abbrev Yq(a:XF)(b:List (Nat×Ent)):List (Nat×Ent):=(1,.mix 9 [(XF.cells true a)])::(2,.mix 12 [(Y0w (Y0w [nS,nS]))])::(3,.mix 5 [(Cat.cells true a.c_)])::b
@[simp] abbrev YP(a:List (Nat×AV)):List (Nat×AV):=(3,.adr 1 0 0)::(4,.adr 2 0 0)::(5,.adr 3 0 0)::a
theorem Q6U(out_:Cat)(l_:XF)(r:Fn)(h:Q22 out_ l_=some r):Contract Tryz.prog 23 (Y0u out_ [.agg (l_.cells true)]) (.agg (r.cells true)):=by
 refine Q9 (rvs:=[.cell 4 29]) (rs:=[.agg (r.cells true)]) Tryz.func23 rfl rfl rfl rfl (by simp[Tryz.f23]) λF hN hP=>?_;unfold Q22 at h;refine Q0 (runQ hN λK hK=>?_);simp;repeat refine sdQ ?_
 refine hK _ ?_;clear hK K;refine tn (Q4 (st':=⟨Yw [(3,.adr 1 0 0),(4,.adr 2 0 0)],Y6 out_ [(1,.mix 9 [(XF.cells true l_)]),(2,.mix 12 [(Y0w (Y0w [nS,nS]))])],3⟩) (wkI 3) (Q0 (runQ hN λK hK=>?_)));simp;repeat refine sdQ ?_
 refine hK _ ?_;clear hK K;refine tn (Q4 (st':=⟨Yw (YP []),Y6 out_ (Yq l_ []),4⟩) (wkI 4) (Q0 (runQ hN λK hK=>?_)));simp;repeat refine sdQ ?_
 refine hK _ ?_;clear hK K;refine tn (Q4 (st':=⟨Yw (YP [(6,.own 4 0 0)]),Y6 out_ (Yq l_ [(4,.mix 1 [])]),5⟩) (wkI 5) (Q0 (Q0 (runQ hN λK hK=>?_))));simp;repeat refine sdQ ?_
 refine hK _ (tn (Q4 (st':=⟨Yw (YP [(6,.own 4 0 0),(7,iV 0)]),Y6 out_ (Yq l_ [(4,.mix 1 [])]),5⟩) (wkI 5) ?_));clear hK K;replace⟨e1,h,h1⟩:=bind_some h;refine Qc (λb1:List Int=>⟨Yw [(4,.adr 1 0 0),(5,.adr 2 0 0),(6,.own 3 0 b1.length)],Y6 out_ (Yv [(2,.mix 5 [(Cat.cells true l_.c_)]),(3,rI b1)]),4⟩) (λb1=>b1=e1) ?_ ?_
 ·refine Q5 (Qm h (λs9:List Int×Int=>⟨Yw (YP [(6,.own 4 0 s9.1.length),(7,iV s9.2)]),Y6 out_ (Yq l_ [(4,rI s9.1)]),5⟩) (Q2M ⟨Yw (YP [(6,.own 4 0 0),(7,iV 0)]),Y6 out_ (Yq l_ [(4,rI [])]),5⟩ (Wk.nils [] (by simp) (by simp) (by simp[nlA]) (by simp[entN,nlL,nlA,BN]) (by simp)) (wkI 5)) ?_);clear h;intro k9 s9 c9 h hk9;refine Q0 (Q0 (runQ hN λK hK=>?_));simp;repeat refine sdQ ?_
  refine hK _ ?_;clear hK K;refine tn (Q6 rfl (λg=>?_) λg=>?_)
  ·have g10:s9.2<(l_.c_.fr.length:Int):=gQ;clear g;replace h:=if_l g10 h;refine Q7 (tn (Q0 (Q5 (Q0 (runQ hN λK hK=>?_)))));replace⟨a11,h⟩:=Q1 h;simp[at_I a11];(repeat refine sdQ ?_);refine hK _ ?_;clear hK K;refine tn (Q4 (st':=⟨Yw (YP [(6,.own 4 0 s9.1.length),(7,iV s9.2),(8,iV (ix l_.c_.fr s9.2))]),Y6 out_ (Yq l_ [(4,rI s9.1)]),5⟩) (wkI 5) (runQ hN λK hK=>?_));replace⟨a12,h⟩:=Q1 h;replace⟨a13,h⟩:=Q1 h;simp[at_I a12,at_I a13];(repeat with_reducible refine sdQ ?_);replace⟨v14,hv14,h⟩:=bind_some h;refine Q3 (Q3X _ _ _ _ v14 hv14) (.cons (.aggL (.cons .val (.cons .lst (.cons .lst (.cons .lst (.cons .lst (.cons .lst (.cons .lst (.cons .lst (.cons .lst .nil)))))))))) (.cons .val (.cons .val (.cons (.lits (es:=_) rfl (.cons rfl (.cons .val .nil) (.cons rfl (.cons .val .nil) (.cons rfl (.cons .val .nil) .nil))) rfl) .nil)))) ?_;replace⟨a15,h⟩:=Q1 h;(try simp only[qD,qH,zS]at a15);simp[at_I a12,at_I a13,a15];(repeat refine sdQ ?_);refine hK _ ?_;clear hK K;refine bn (tn (Q4 (st':=⟨Yw (YP [(6,.own 4 0 ((s9.1++[v14]).length)),(7,iV s9.2)]),Y6 out_ (Yq l_ [(4,rI (s9.1++[v14]))]),5⟩) (wkQ [(0,0),(1,1),(2,2),(3,3),(8,4)]) (runQ hN λK hK=>?_)));replace⟨a16,h⟩:=Q1 h;simp[Qg a16];(repeat refine sdQ ?_);refine hK _ ?_;clear hK K;cases h;exact rn (s':=(s9.1++[v14],s9.2+1)) hk9 (wkI 5)
  have g10:¬(s9.2<(l_.c_.fr.length:Int)):=gQ;clear g;replace h:=if_r g10 h;refine Qj (tx (lx (bh ?_)));cases h;exact jn (b:=s9.1) hk9 (wkQ [(0,0),(2,1),(3,2),(4,3)])
 intro b1 hb1;have h:=h1;try rw[←hb1]at h
 clear h1;try dsimp only at h
 refine Q0 (runQ hN λK hK=>?_);simp;repeat with_reducible refine sdQ ?_
 replace⟨v17,hv17,h⟩:=bind_some h;refine Q3 (Q9V _ v17 hv17) (.cons (.aggL (.cons .val (.cons .lst (.cons .lst (.cons .lst (.cons .lst .nil)))))) .nil) ?_;simp;repeat with_reducible refine sdQ ?_
 replace⟨v18,hv18,h⟩:=bind_some h;refine Q3 (Q6E _ _ _ _ v18 hv18) (.cons (.aggL (.cons .val (.cons .lst (.cons .lst (.cons .lst (.cons .lst .nil)))))) (.cons (.aggL (.cons .val (.cons .lst (.cons .lst (.cons .lst (.cons .lst .nil)))))) (.cons .w (.cons .w .nil)))) ?_;simp;repeat refine sdQ ?_
 refine hK _ (tn (Q4 (st':=⟨[(4,.adr 0 0 0)],Yo v18 [],11⟩) (wkQ [(1,0),(17,1),(18,2),(19,3),(20,4),(22,5),(23,6),(24,7),(25,8),(26,9),(27,10)]) (Qi ?_)));clear hK K;have hr:=yJ h;rw[←hr];refine⟨_,(.cell tf_29 rfl rfl rfl (by simp) (by simp) .nil),?_⟩;refine⟨(.agg rfl .nil),[iV v18.s.n,lI v18.s.fr,lI v18.s.to,lI v18.s.id,.lst true 1 (Ls v18.s.cs),iV v18.t.n,lI v18.t.fr,lI v18.t.to,lI v18.t.id,.lst true 1 (Ls v18.t.cs),lI v18.ob,lI v18.ar],[1,2,3,4,5,6,7,8,9,10],by simp[BN],by simp,(yN _)⟩
section
attribute [local simp] Qa QD Qo QM Qx
def arI(c:Cat)(w:List Int)(f:Nat):Nat:=open Classical in if h:∃i,i<nT c w (ix c.fr f) (ix c.to f)∧tG (spT c w (ix c.fr f) (ix c.to f)) i=(ix c.fr f,ix c.id (ix c.fr f),(f:Int))then Classical.choose h else 0
def arV(c:Cat)(w:List Int)(f:Nat):Int:=numF c w (ix c.fr f).toNat (ix c.to f).toNat (arI c w f)
theorem arI_ok{c:Cat}(hc:c.Is){w:List Int}(hF:FinW c w){f:Nat}(hf:f<c.fr.length):arI c w f<nT c w (ix c.fr f) (ix c.to f)∧tG (spT c w (ix c.fr f) (ix c.to f)) (arI c w f)=(ix c.fr f,ix c.id (ix c.fr f),(f:Int)):=by
 have h:=ar_ok hc hF hf;unfold arI;rw[dif_pos h];exact Classical.choose_spec h
theorem e_ar{c:Cat}(hc:c.Is){w:List Int}(hF:FinW c w)(hS:SmT c w){L:XL}(l1:L.first_=fmX c w c.n.toNat)(l2:L.spans_=smX c w c.n.toNat){f:Nat}(hf:f<c.fr.length):
  Qy L (ix c.fr f) (ix c.to f) (⟨ix c.fr f,ix c.id (ix c.fr f),f⟩:X3)=some (arV c w f)∧QT (frW c w) (ix c.fr f) (ix c.to f) [ix c.fr f,ix c.id (ix c.fr f),(f:Int)]=some (arV c w f)∧(0≤arV c w f∧arV c w f<((Ql c w c.n.toNat).length:Int)):=by
 have hn:=hc.nums;have a:=hc.Af (f:=f) ⟨by omega,by omega⟩;obtain⟨h1,h2⟩:=arI_ok hc hF hf;obtain⟨⟨a1,a2⟩,a3,a4⟩:=a.2;have v:arV c w f=numF c w (ix c.fr f).toNat (ix c.to f).toNat (arI c w f):=rfl;obtain⟨x,hx⟩:=yU a1;obtain⟨y,hy⟩:=yU a3;rw[hx,hy,yV,yV]at v;rw[hx,hy]at h1 h2;have bx:x<c.n.toNat:=by omega
 have bY:y<c.n.toNat:=by omega
 rw[v,hx,hy];have i1:=e_numI hc hS l1 l2 bx bY h1;have i2:=e_numS hc hS bx bY h1;have i3:=Q8X hc hS bx bY h1;rw[h2]at i1 i2;exact⟨i1,i2,i3.1,i3.2.1⟩
def fnW(c:Cat)(w:List Int)(d:Cat):Fn:=⟨c,d,iota c.n.toNat,tbW (arV c w) c.fr.length⟩
theorem e_funcI{c:Cat}(hc:c.Is){w:List Int}(hF:FinW c w)(hS:SmT c w){C:Cat}(ok:C.ok)(D:List X3):QQ (⟨wD c w,C,fmX c w c.n.toNat,smX c w c.n.toNat,D⟩:XL)=some (fnW c w C):=by
 have hn:=hc.nums;unfold QQ;simp only[show(wD c w).c_=c from rfl];refine Q11 c.fr.length (tbW (arV c w)) (e:=tbW (arV c w) c.fr.length) rfl (by omega) (λi hi=>?_) (by simp only;rw[if_neg (by omega)]) ?_
 ·have l:=QK (arV c w) i;have a:=hc.Af (f:=i) ⟨by omega,by omega⟩;simp only;rw[if_pos (by omega),Q2 (by omega),Q2 (by omega),Q2 (by omega),(e_ar hc hF hS (L:=⟨wD c w,C,fmX c w c.n.toNat,smX c w c.n.toNat,D⟩) rfl rfl hi).1];simp only[yR];rw[Q2 (by simp only[qD,xA];omega),Q2 (by unfold B64;omega),Q1R]
 rw[Q8p (by omega) (by omega)];simp only[yR];rw[e_functor hc.ok ok (by simp[iota];omega) (by rw[QK];omega)];rfl
theorem e_funcS{c:Cat}(hc:c.Is){w:List Int}(hF:FinW c w)(hS:SmT c w){C:Cat}(ok:C.ok):Q22 C (frW c w)=some (fnW c w C):=by
 have hn:=hc.nums;unfold Q22;simp only[show(frW c w).c_=c from rfl];refine Q11 c.fr.length (tbW (arV c w)) (e:=tbW (arV c w) c.fr.length) rfl (by omega) (λi hi=>?_) (by simp only;rw[if_neg (by omega)]) ?_
 ·have l:=QK (arV c w) i;have a:=hc.Af (f:=i) ⟨by omega,by omega⟩;simp only;rw[if_pos (by omega),Q2 (by omega),Q2 (by omega),Q2 (by omega),(e_ar hc hF hS (L:=⟨wD c w,C,fmX c w c.n.toNat,smX c w c.n.toNat,[]⟩) rfl rfl hi).2.1];simp only[yR];rw[Q2 (by simp only[qD,xA];omega),Q2 (by unfold B64;omega),Q1R]
 rw[e_l06Self hc];simp only[yR];rw[Q8o hc.ok ok (by simp[selfF,iota];omega) (by rw[QK];omega)];rfl
end
end Go.Vc.T
