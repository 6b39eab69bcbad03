/- A part of the proof. -/
import Derived.Test.YtbanpimdoabfmaaH12
set_option maxRecDepth 100000
set_option maxHeartbeats 4000000
set_option linter.unusedSimpArgs false
set_option linter.unusedVariables false
set_option linter.unusedSectionVars false
set_option linter.unnecessarySimpa false

open Option.some renaming inj→yJ
open Option renaming bind_some→yA
open Sum renaming inl→yK
open Sum renaming inr→yL
open Go.Vc.Ctl renaming ret→yM
open Go.Vc.UpL renaming refl→yN
open List renaming length_append→qD
open Go.Vc.Ctl renaming next→yO
open Int renaming eq_ofNat_of_zero_le→yT
open List renaming length_cons→qH
open List renaming length_nil→zX
open Option renaming bind_assoc→yV
open List renaming length_map→yW
noncomputable section
namespace Go.Vc.T
open Go Go.Vc Go.Proofs
attribute [local simp] unk unA unE unT unC flat eL eI Qc QS Q2i Qr Cat.cells Fn.cells XMonoidal.cells
def QU(m_:XMonoidal)(y_:Int):Option Fn:=
 (Q2Z m_.objects_ y_).bind λv1=>
 ass (0≤y_∧y_<(m_.on_.id.length:Int))<|
 (Q2Z m_.arrows_ (ix m_.on_.id y_)).bind λv3=>
 (Q26 m_.on_ m_.on_ v1 v3).bind λv4=>
 some v4
theorem Q29(m_:XMonoidal)(y_:Int)(r:Fn)(h:QU m_ y_=some r):Contract Try.prog 57 [.rptr (m_.cells true),iV y_] (.agg (r.cells true)):=by
 refine Q6 (rvs:=[.cell 4 38]) (rs:=[.agg (r.cells true)]) Try.func57 rfl rfl rfl rfl (by simp[Try.f57]) λF hN hP=>?_;unfold QU at h;refine Q0 (runQ hN λK hK=>?_);simp;repeat refine sdQ ?_
 refine hK _ ?_;clear hK K;refine tn (Q2 (st':=⟨[(0,.rptr (XMonoidal.cells true m_)),(1,iV y_),(4,.adr 0 0 0)],Y0g [],1⟩) (wkQ [(0,0)]) (Q0 (runQ hN λK hK=>?_)));simp;repeat with_reducible refine sdQ ?_
 replace⟨v1,hv1,h⟩:=bind_some h;refine Q3 (Q6K _ _ v1 hv1) (.cons .lst (.cons .val .nil)) ?_;replace⟨a2,h⟩:=Q1 h;simp[at_I a2];repeat with_reducible refine sdQ ?_
 replace⟨v3,hv3,h⟩:=bind_some h;refine Q3 (Q6K _ _ v3 hv3) (.cons .lst (.cons .val .nil)) ?_;simp[at_I a2];repeat with_reducible refine sdQ ?_
 replace⟨v4,hv4,h⟩:=bind_some h;refine Q3 (Q4x _ _ _ _ v4 hv4) (.cons (.preT (by simp[CN])) (.cons (.preT (by simp[CN])) (.cons .w (.cons .w .nil)))) ?_;simp[at_I a2];repeat refine sdQ ?_
 refine hK _ (tn (Q2 (st':=⟨[(4,.adr 0 0 0)],Y7 v4 [],11⟩) (wkQ [(0,0),(4,1),(5,2),(6,3),(7,4),(9,5),(10,6),(11,7),(12,8),(13,9),(14,10)]) (Qe ?_)));clear hK K;have hr:=yJ h;rw[←hr];refine⟨_,(.cell Q6l rfl rfl rfl (by simp) (by simp) .nil),?_⟩;refine⟨(.agg rfl .nil),[iV v4.s.n,lI v4.s.fr,lI v4.s.to,lI v4.s.id,.lst true 1 (Ls v4.s.cs),iV v4.t.n,lI v4.t.fr,lI v4.t.to,lI v4.t.id,.lst true 1 (Ls v4.t.cs),lI v4.ob,lI v4.ar],[1,2,3,4,5,6,7,8,9,10],by simp[BN],by simp,(yN _)⟩
attribute [local simp] unk unA unE unT unC flat eL eI Qc Qr XMonoidal.cells
def Q1h(m_:XMonoidal)(objects_:List Int):Option Int:=
 (QF m_).bind λv1=>
 if¬(v1=true)then
  some 1
 else
  (Q1v objects_ m_.on_.n).bind λv3=>
  if¬(v3=true)then
   some 2
  else
   some 0
theorem Q3W(m_:XMonoidal)(objects_:List Int)(r:Int)(h:Q1h m_ objects_=some r):Contract Try.prog 56 [.rptr (m_.cells true),lI objects_] (iV r):=by
 refine Q6 (rvs:=[.tmp 4]) (rs:=[iV r]) Try.func56 rfl rfl rfl rfl (by simp[Try.f56]) λF hN hP=>?_;unfold Q1h at h;refine Q0 (runQ hN λK hK=>?_);simp;repeat refine sdQ ?_
 refine hK _ ?_;clear hK K;refine tn (Q2 (st':=⟨[(0,.rptr (XMonoidal.cells true m_)),(1,lI objects_)],[],0⟩) (wkQ []) (Q0 (Q0 (runQ hN λK hK=>?_))));simp;repeat with_reducible refine sdQ ?_
 replace⟨v1,hv1,h⟩:=bind_some h;refine Q3 (Q1G _ v1 hv1) (.cons (.preT (by simp[CN])) .nil) ?_;simp;repeat refine sdQ ?_
 refine hK _ ?_;clear hK K;refine tn (Q2 (st':=⟨[(0,.rptr (XMonoidal.cells true m_)),(1,lI objects_),(7,.val (.bool (!v1)))],[],0⟩) (wkQ []) (Q7 rfl (λg=>?_) λg=>?_))
 ·have g2:¬(v1=true):=gQ;clear g;replace h:=if_l g2 h;refine Q0 (runQ hN λK hK=>?_);simp;repeat refine sdQ ?_
  refine hK _ (tn (Q2 (st':=⟨[(4,iV 1)],[],0⟩) (wkQ []) (Qe (tr ?_))));clear hK K;have hr:=yJ h;rw[←hr];refine⟨_,(.tmp .nil),?_⟩;refine⟨(.one rfl rfl .nil),[iV 1],[],by simp[BN],by simp,(yN _)⟩
 have g2:¬(¬(v1=true)):=gQ;clear g;replace h:=if_r g2 h;refine Q8 (tn (Q0 (Q0 (runQ hN λK hK=>?_))));simp;repeat with_reducible refine sdQ ?_
 replace⟨v3,hv3,h⟩:=bind_some h;refine Q3 (Q4k _ _ v3 hv3) (.cons .lst (.cons .val .nil)) ?_;simp;repeat refine sdQ ?_
 refine hK _ ?_;clear hK K;refine tn (Q2 (st':=⟨[(15,.val (.bool (!v3)))],[],0⟩) (wkQ []) (Q7 rfl (λg=>?_) λg=>?_))
 ·have g4:¬(v3=true):=gQ;clear g;replace h:=if_l g4 h;refine Q0 (runQ hN λK hK=>?_);simp;repeat refine sdQ ?_
  refine hK _ (tn (Q2 (st':=⟨[(4,iV 2)],[],0⟩) (wkQ []) (Qe (tr ?_))));clear hK K;have hr:=yJ h;rw[←hr];refine⟨_,(.tmp .nil),?_⟩;refine⟨(.one rfl rfl .nil),[iV 2],[],by simp[BN],by simp,(yN _)⟩
 have g4:¬(¬(v3=true)):=gQ;clear g;replace h:=if_r g4 h;refine Q8 (tn (Q0 (runQ hN λK hK=>?_)));simp;repeat refine sdQ ?_
 refine hK _ (tn (Q2 (st':=⟨[(4,iV 0)],[],0⟩) (wkQ []) (Qe ?_)));clear hK K;have hr:=yJ h;rw[←hr];refine⟨_,(.tmp .nil),?_⟩;refine⟨(.one rfl rfl .nil),[iV 0],[],by simp[BN],by simp,(yN _)⟩
attribute [local simp] unk unA unE unT unC flat eL eI Qc QS Q2i Qr Cat.cells Fn.cells XMonoidal.cells
def Q1C(m_:XMonoidal)(y_:Int):Option Fn:=
 (Qo (σ:=List Int×Int) (ε:=List Int) (λs7=>
  if s7.2<(m_.objects_.length:Int)then
   ass (0≤s7.2∧s7.2<(m_.objects_.length:Int))<|
   ass (0≤y_∧y_<((rx m_.objects_ s7.2).length:Int))<|
   ass ((s7.1++[ix (rx m_.objects_ s7.2) y_]).length≤1073741824)<|
   ass (B64 (s7.2+1))<|
   some (yO (s7.1++[ix (rx m_.objects_ s7.2) y_],s7.2+1))
  else
   some (yM s7.1)) fuel ([],0)).bind λb1=>
 (Qo (σ:=List Int×Int) (ε:=List Int) (λs20=>
  if s20.2<(m_.arrows_.length:Int)then
   ass (0≤s20.2∧s20.2<(m_.arrows_.length:Int))<|
   ass (0≤y_∧y_<(m_.on_.id.length:Int))<|
   ass (0≤ix m_.on_.id y_∧ix m_.on_.id y_<((rx m_.arrows_ s20.2).length:Int))<|
   ass ((s20.1++[ix (rx m_.arrows_ s20.2) (ix m_.on_.id y_)]).length≤1073741824)<|
   ass (B64 (s20.2+1))<|
   some (yO (s20.1++[ix (rx m_.arrows_ s20.2) (ix m_.on_.id y_)],s20.2+1))
  else
   some (yM s20.1)) fuel ([],0)).bind λb13=>
 (Q27 m_.on_ m_.on_ b1 b13).bind λv27=>
 some v27
@[simp] abbrev Yi(a:XMonoidal)(b:List (Nat×Ent)):List (Nat×Ent):=(0,.mix 8 [(XMonoidal.cells true a)])::(1,.mix 12 [(Y0M [nS,nS,nS,nS])])::b
@[simp] abbrev Y0z(a:List Int)(b:List (Nat×AV)):List (Nat×AV):=(4,.adr 1 0 0)::(5,.own 2 0 a.length)::b
theorem Q3R(m_:XMonoidal)(y_:Int)(r:Fn)(h:Q1C m_ y_=some r):Contract Try.prog 61 [.agg (m_.cells true),iV y_] (.agg (r.cells true)):=by
 refine Q6 (rvs:=[.cell 4 38]) (rs:=[.agg (r.cells true)]) Try.func61 rfl rfl rfl rfl (by simp[Try.f61]) λF hN hP=>?_;unfold Q1C at h;refine Q0 (runQ hN λK hK=>?_);simp;repeat refine sdQ ?_
 refine hK _ ?_;clear hK K;refine tn (Q2 (st':=⟨(1,iV y_)::YA [(4,.adr 1 0 0)],Yi m_ [],2⟩) (wkQ [(0,0),(1,1)]) (Q0 (runQ hN λK hK=>?_)));simp;repeat refine sdQ ?_
 refine hK _ ?_;clear hK K;refine tn (Q2 (st':=⟨(1,iV y_)::YA [(4,.adr 1 0 0),(5,.own 2 0 0),(6,.own 3 0 0)],Yi m_ [(2,.mix 1 []),(3,.mix 1 [])],4⟩) (wkI 4) (Q0 (Q0 (runQ hN λK hK=>?_))));simp;repeat refine sdQ ?_
 refine hK _ (tn (Q2 (st':=⟨(1,iV y_)::YA [(4,.adr 1 0 0),(5,.own 2 0 0),(6,.own 3 0 0),(7,iV 0)],Yi m_ [(2,.mix 1 []),(3,.mix 1 [])],4⟩) (wkI 4) ?_));clear hK K;replace⟨e1,h,h1⟩:=bind_some h;refine Q9 (λb1:List Int=>⟨(1,iV y_)::YA (Y0z b1 [(6,.own 3 0 0)]),Yi m_ [(2,rI b1),(3,.mix 1 [])],4⟩) (λb1=>b1=e1) ?_ ?_
 ·refine Q5 (Qj h (λs7:List Int×Int=>⟨(1,iV y_)::YA [(4,.adr 1 0 0),(5,.own 2 0 s7.1.length),(6,.own 3 0 0),(7,iV s7.2)],Yi m_ [(2,rI s7.1),(3,.mix 1 [])],4⟩) (Q2Y ⟨(1,iV y_)::YA [(4,.adr 1 0 0),(5,.own 2 0 0),(6,.own 3 0 0),(7,iV 0)],Yi m_ [(2,rI []),(3,.mix 1 [])],4⟩ (nlQ []) (wkI 4)) ?_);clear h;intro k7 s7 c7 h hk7;refine Q0 (Q0 (runQ hN λK hK=>?_));simp;repeat refine sdQ ?_
  refine hK _ ?_;clear hK K;refine tn (Q7 rfl (λg=>?_) λg=>?_)
  ·have g8:s7.2<(m_.objects_.length:Int):=gQ;clear g;replace h:=if_l g8 h;refine Q8 (tn (Q0 (Q5 (runQ hN λK hK=>?_))));replace⟨a9,h⟩:=Q1 h;replace⟨a10,h⟩:=Q1 h;replace⟨a11,h⟩:=Q1 h;(try simp only[qD,qH,zX]at a11);simp[at_L a9,at_I a10,a11];(repeat refine sdQ ?_);refine hK _ ?_;clear hK K;refine bn (tn (Q2 (st':=⟨(1,iV y_)::YA [(4,.adr 1 0 0),(5,.own 2 0 ((s7.1++[ix (rx m_.objects_ s7.2) y_]).length)),(6,.own 3 0 0),(7,iV s7.2)],Yi m_ [(2,rI (s7.1++[ix (rx m_.objects_ s7.2) y_])),(3,.mix 1 [])],4⟩) (wkQ [(0,0),(1,1),(5,2),(3,3)]) (runQ hN λK hK=>?_)));replace⟨a12,h⟩:=Q1 h;simp[Qh a12];(repeat refine sdQ ?_);refine hK _ ?_;clear hK K;cases h;exact rn (s':=(s7.1++[ix (rx m_.objects_ s7.2) y_],s7.2+1)) hk7 (wkI 4)
  have g8:¬(s7.2<(m_.objects_.length:Int)):=gQ;clear g;replace h:=if_r g8 h;refine Ql (tx (lx (bh ?_)));cases h;exact jn (b:=s7.1) hk7 (wkI 4)
 intro b1 hb1;have h:=h1;try rw[←hb1]at h
 clear h1;try dsimp only at h
 refine Q0 (Q0 (runQ hN λK hK=>?_));simp;repeat refine sdQ ?_
 refine hK _ (tn (Q2 (st':=⟨(1,iV y_)::YA (Y0z b1 [(6,.own 3 0 0),(8,iV 0)]),Yi m_ [(2,rI b1),(3,.mix 1 [])],4⟩) (wkI 4) ?_));clear hK K;replace⟨e13,h,h13⟩:=bind_some h;refine Q9 (λb13:List Int=>⟨YA (Y0z b1 [(6,.own 3 0 b13.length)]),Yi m_ [(2,rI b1),(3,rI b13)],4⟩) (λb13=>b13=e13) ?_ ?_
 ·refine Q5 (Qj h (λs20:List Int×Int=>⟨(1,iV y_)::YA (Y0z b1 [(6,.own 3 0 s20.1.length),(8,iV s20.2)]),Yi m_ [(2,rI b1),(3,rI s20.1)],4⟩) (Q2Y ⟨(1,iV y_)::YA (Y0z b1 [(6,.own 3 0 0),(8,iV 0)]),Yi m_ [(2,rI b1),(3,rI [])],4⟩ (nlQ []) (wkI 4)) ?_);clear h;intro k20 s20 c20 h hk20;refine Q0 (Q0 (runQ hN λK hK=>?_));simp;repeat refine sdQ ?_
  refine hK _ ?_;clear hK K;refine tn (Q7 rfl (λg=>?_) λg=>?_)
  ·have g21:s20.2<(m_.arrows_.length:Int):=gQ;clear g;replace h:=if_l g21 h;refine Q8 (tn (Q0 (Q5 (runQ hN λK hK=>?_))));replace⟨a22,h⟩:=Q1 h;replace⟨a23,h⟩:=Q1 h;replace⟨a24,h⟩:=Q1 h;replace⟨a25,h⟩:=Q1 h;(try simp only[qD,qH,zX]at a25);simp[at_L a22,at_I a23,at_I a24,a25];(repeat refine sdQ ?_);refine hK _ ?_;clear hK K;refine bn (tn (Q2 (st':=⟨(1,iV y_)::YA (Y0z b1 [(6,.own 3 0 ((s20.1++[ix (rx m_.arrows_ s20.2) (ix m_.on_.id y_)]).length)),(8,iV s20.2)]),Yi m_ [(2,rI b1),(3,rI (s20.1++[ix (rx m_.arrows_ s20.2) (ix m_.on_.id y_)]))],4⟩) (wkQ [(0,0),(1,1),(2,2),(5,3)]) (runQ hN λK hK=>?_)));replace⟨a26,h⟩:=Q1 h;simp[Qh a26];(repeat refine sdQ ?_);refine hK _ ?_;clear hK K;cases h;exact rn (s':=(s20.1++[ix (rx m_.arrows_ s20.2) (ix m_.on_.id y_)],s20.2+1)) hk20 (wkI 4)
  have g21:¬(s20.2<(m_.arrows_.length:Int)):=gQ;clear g;replace h:=if_r g21 h;refine Ql (tx (lx (bh ?_)));cases h;exact jn (b:=s20.1) hk20 (wkI 4)
 intro b13 hb13;have h:=h13;try rw[←hb13]at h
 clear h13;try dsimp only at h
 refine Q0 (runQ hN λK hK=>?_);simp;repeat with_reducible refine sdQ ?_
 replace⟨v27,hv27,h⟩:=bind_some h;refine Q3 (Q4z _ _ _ _ v27 hv27) (.cons (.aggL (.cons .val (.cons .lst (.cons .lst (.cons .lst (.cons .lst .nil)))))) (.cons (.aggL (.cons .val (.cons .lst (.cons .lst (.cons .lst (.cons .lst .nil)))))) (.cons .w (.cons .w .nil)))) ?_;simp;repeat refine sdQ ?_
 refine hK _ (tn (Q2 (st':=⟨[(4,.adr 0 0 0)],Y7 v27 [],11⟩) (wkQ [(1,0),(5,1),(6,2),(7,3),(8,4),(10,5),(11,6),(12,7),(13,8),(14,9),(15,10)]) (Qe ?_)));clear hK K;have hr:=yJ h;rw[←hr];refine⟨_,(.cell Q6l rfl rfl rfl (by simp) (by simp) .nil),?_⟩;refine⟨(.agg rfl .nil),[iV v27.s.n,lI v27.s.fr,lI v27.s.to,lI v27.s.id,.lst true 1 (Ls v27.s.cs),iV v27.t.n,lI v27.t.fr,lI v27.t.to,lI v27.t.id,.lst true 1 (Ls v27.t.cs),lI v27.ob,lI v27.ar],[1,2,3,4,5,6,7,8,9,10],by simp[BN],by simp,(yN _)⟩
attribute [local simp] unk unA unE unT unC flat eL eI Qc Qr XMonoidal.cells
def Q1N(m_:XMonoidal)(list_:List Int):Option Int:=
 (Q3v m_).bind λv1=>
 if¬(v1=true)then
  some 1
 else
  (Q1i m_.on_.n list_).bind λv3=>
  if¬(v3=true)then
   some 2
  else
   some 0
theorem Q4s(m_:XMonoidal)(list_:List Int)(r:Int)(h:Q1N m_ list_=some r):Contract Try.prog 59 [.agg (m_.cells true),lI list_] (iV r):=by
 refine Q6 (rvs:=[.tmp 4]) (rs:=[iV r]) Try.func59 rfl rfl rfl rfl (by simp[Try.f59]) λF hN hP=>?_;unfold Q1N at h;refine Q0 (runQ hN λK hK=>?_);simp;repeat refine sdQ ?_
 refine hK _ ?_;clear hK K;refine tn (Q2 (st':=⟨(1,lI list_)::YA [],YC m_ [],1⟩) (wkQ [(0,0)]) (Q0 (Q0 (runQ hN λK hK=>?_))));simp;repeat with_reducible refine sdQ ?_
 replace⟨v1,hv1,h⟩:=bind_some h;refine Q3 (Q87 _ v1 hv1) (.cons (.aggL (.cons .val (.cons .lst (.cons .lst (.cons .lst (.cons .lst (.cons .val (.cons .lst (.cons .lst .nil))))))))) .nil) ?_;simp;repeat refine sdQ ?_
 refine hK _ ?_;clear hK K;refine tn (Q2 (st':=⟨(1,lI list_)::YA [(7,.val (.bool (!v1)))],YC m_ [],1⟩) (wkQ [(0,0)]) (Q7 rfl (λg=>?_) λg=>?_))
 ·have g2:¬(v1=true):=gQ;clear g;replace h:=if_l g2 h;refine Q0 (runQ hN λK hK=>?_);simp;repeat refine sdQ ?_
  refine hK _ (tn (Q2 (st':=⟨[(4,iV 1)],[],0⟩) (wkQ []) (Qe (tr ?_))));clear hK K;have hr:=yJ h;rw[←hr];refine⟨_,(.tmp .nil),?_⟩;refine⟨(.one rfl rfl .nil),[iV 1],[],by simp[BN],by simp,(yN _)⟩
 have g2:¬(¬(v1=true)):=gQ;clear g;replace h:=if_r g2 h;refine Q8 (tn (Q0 (Q0 (runQ hN λK hK=>?_))));simp;repeat with_reducible refine sdQ ?_
 replace⟨v3,hv3,h⟩:=bind_some h;refine Q3 (Q4l _ _ v3 hv3) (.cons .val (.cons .lst .nil)) ?_;simp;repeat refine sdQ ?_
 refine hK _ ?_;clear hK K;refine tn (Q2 (st':=⟨[(13,.val (.bool (!v3)))],[],0⟩) (wkQ []) (Q7 rfl (λg=>?_) λg=>?_))
 ·have g4:¬(v3=true):=gQ;clear g;replace h:=if_l g4 h;refine Q0 (runQ hN λK hK=>?_);simp;repeat refine sdQ ?_
  refine hK _ (tn (Q2 (st':=⟨[(4,iV 2)],[],0⟩) (wkQ []) (Qe (tr ?_))));clear hK K;have hr:=yJ h;rw[←hr];refine⟨_,(.tmp .nil),?_⟩;refine⟨(.one rfl rfl .nil),[iV 2],[],by simp[BN],by simp,(yN _)⟩
 have g4:¬(¬(v3=true)):=gQ;clear g;replace h:=if_r g4 h;refine Q8 (tn (Q0 (runQ hN λK hK=>?_)));simp;repeat refine sdQ ?_
 refine hK _ (tn (Q2 (st':=⟨[(4,iV 0)],[],0⟩) (wkQ []) (Qe ?_)));clear hK K;have hr:=yJ h;rw[←hr];refine⟨_,(.tmp .nil),?_⟩;refine⟨(.one rfl rfl .nil),[iV 0],[],by simp[BN],by simp,(yN _)⟩
section
attribute [local simp] Qi QP Qv Q1l QN
theorem ix_mapC{L:List (List Int)}{i k:Int}(h0:0≤i)(hi:i<(L.length:Int)):ix (L.map (ix · k)) i=ix (rx L i) k:=by
 obtain⟨i,rfl⟩:=yT h0;have hi':i<L.length:=by omega
 simp[ix,rx,List.getD_eq_getElem?_getD,hi']
theorem e_colM{L:List (List Int)}{k:Int}(hn:L.length<1000000)(h0:0≤k)(hx:∀x∈L,k<x.length):Q2Z L k=some (L.map (ix · k)):=by
 unfold Q2Z;refine Q3D L.length (λi=>(L.take i).map (ix · k)) (e:=L.map (ix · k)) (by simp) (by omega) (λi hi=>?_) (by simp) rfl;have h1:=hx _ (at_rxm hi);have h2:=Q8J hi;simp(disch:=omega) [Q4,B64,h2];try omega
def tbF(m:XMonoidal)(y:Int):Fn:=⟨m.on_,m.on_,m.objects_.map (ix · y),m.arrows_.map (ix · (ix m.on_.id y))⟩
theorem Tbl.wide{t:List (List Int)}{n k:Int}(h:Tbl t n)(hk:k<n):∀x∈t,k<(x.length:Int):=by
 intro x hx;obtain⟨i,hi,rfl⟩:=List.getElem_of_mem hx;have:=(h.2 i hi).1;rw[Q3h _ _ hi]at*;omega
theorem Q4b{m:XMonoidal}(h:m.Is){y:Int}(hy:0≤y∧y<m.on_.n):QU m y=some (tbF m y)∧Q1C m y=some (tbF m y):=by
 have n:=h.pre.c.nums;have i1:=h.pre.c.idn hy;have o1:=h.pre.o.1;have a1:=h.pre.a.1;have ok:=h.pre.c.ok;constructor
 ·unfold QU;rw[e_colM (by omega) hy.1 (h.pre.o.wide hy.2)];simp only[yA];rw[Q4 (by omega),e_colM (by omega) i1.1 (h.pre.a.wide i1.2)];simp only[yA];rw[Q4E ok ok (by simp;omega) (by simp;omega)];rfl
 unfold Q1C;refine Q3D m.objects_.length (λi=>(m.objects_.take i).map (ix · y)) (e:=m.objects_.map (ix · y)) (by simp) (by omega) (λi hi=>?_) (by simp) ?_
 ·have h1:=h.pre.o.wide hy.2 _ (at_rxm hi);have h2:=Q8J hi;simp(disch:=omega) [Q4,B64,h2];try omega
 refine Q3D m.arrows_.length (λi=>(m.arrows_.take i).map (ix · (ix m.on_.id y))) (e:=m.arrows_.map (ix · (ix m.on_.id y))) (by simp) (by omega) (λi hi=>?_) (by simp) ?_
 ·have h1:=h.pre.a.wide i1.2 _ (at_rxm hi);have h2:=Q8J hi;simp(disch:=omega) [Q4,B64,h2];try omega
 rw[Q5N ok ok (by simp;omega) (by simp;omega)];rfl
theorem tb_is{m:XMonoidal}(h:m.Is){y:Int}(hy:0≤y∧y<m.on_.n):(tbF m y).Is:=by
 have n:=h.pre.c.nums;have iy:=h.pre.c.Ai hy;have o1:=h.pre.o.1;have a1:=h.pre.a.1;have eO:∀x:Int,0≤x∧x<m.on_.n→ix (tbF m y).ob x=ix (rx m.objects_ x) y:=λx hx=>ix_mapC hx.1 (by omega);have eA:∀a:Int,0≤a∧a<(m.on_.fr.length:Int)→ix (tbF m y).ar a=ix (rx m.arrows_ a) (ix m.on_.id y):=λa ha=>ix_mapC ha.1 (by omega);have lo:(tbF m y).ob.length=m.objects_.length:=by simp[tbF]
 have la:(tbF m y).ar.length=m.arrows_.length:=by simp[tbF]
 obtain⟨k,hk⟩:=yT iy.1.1;obtain⟨yn,hyn⟩:=yT hy.1;refine⟨h.pre.c,h.pre.c,?_,?_,λj hj=>?_,λj hj=>?_,λa ha=>?_,λx hx=>?_,λa ha b hb e=>?_⟩
 ·show((tbF m y).ob.length:Int)=m.on_.n;omega
 ·show(tbF m y).ar.length=m.on_.fr.length;omega
 ·rw[eO j (by omega)];exact(h.pre.ob (f:=(j:Int)) (g:=y) (by omega) hy).2.2
 ·rw[eA j (by omega)];exact(h.pre.ar (f:=(j:Int)) (g:=ix m.on_.id y) (by omega) iy.1).2.2
 ·have ha':a<m.on_.fr.length:=ha;have en:=h.pre.c.ends (a:=(a:Int)) (by omega);have:=h.ed a ha' k (by have:=iy.1;omega);rw[←hk]at this;rw[eA a (by omega)];show ix m.on_.fr _=ix (tbF m y).ob (ix m.on_.fr a)∧ix m.on_.to _=ix (tbF m y).ob (ix m.on_.to a);rw[eO _ en.1,eO _ en.2,this.1,this.2,iy.2.1,iy.2.2];exact⟨rfl,rfl⟩
 ·have hx':x<m.on_.id.length:=hx;have:=h.un x hx' yn (by omega);rw[←hyn]at this;show ix (tbF m y).ar (ix m.on_.id x)=ix m.on_.id (ix (tbF m y).ob x);rw[eA _ (h.pre.c.idn (by omega)),eO x (by omega)];exact this
 have ha':a<m.on_.fr.length:=ha;have hb':b<m.on_.fr.length:=hb;have e':ix m.on_.to a=ix m.on_.fr b:=e;have:=h.ic a ha' b hb' k (by have:=iy.1;omega) k (by have:=iy.1;omega) e' (by rw[←hk,iy.2.1,iy.2.2]);unfold XMonoidal.Ie at this;rw[←hk,(h.pre.c.idl iy).1]at this;have c1:=h.pre.c.two (f:=(a:Int)) (g:=(b:Int)) (by omega) (by omega) e';show ix (tbF m y).ar (ix (rx m.on_.cs a) b)=ix (rx m.on_.cs (ix (tbF m y).ar a)) (ix (tbF m y).ar b);rw[eA _ c1.1,eA a (by omega),eA b (by omega)];exact this
theorem e_mcode(m:XMonoidal)(L:List Int):∃r:Int,Q1h m L=some r∧Q1N m L=some r∧(r=1↔¬m.Is)∧(r≠1→(r=0∨r=2)∧(r=0↔∀x∈L,0≤x∧x<m.on_.n)):=by
 unfold Q1h Q1N;rw[Q41,e_l35Is];simp only[yA]
 by_cases h:m.Is
 case neg=>exact⟨1,by rw[Qd h];rfl,by rw[Qd h];rfl,by simp[h],λq=>absurd rfl q⟩
 have n:=h.pre.c.nums;rw[Qk h,if_neg (by simp),if_neg (by simp)];unfold Q1v Q1i;rw[Q4 (by unfold B64;omega)];simp only[yA];have e:L.all (inR m.on_.n)=true↔∀x∈L,0≤x∧x<m.on_.n:=by
  rw[List.all_eq_true];exact⟨λq x hx=>by have:=q x hx;simp[inR]at this;omega,λq x hx=>by have:=q x hx;simp[inR];omega⟩
 by_cases q:L.all (inR m.on_.n)=true
 ·exact⟨0,by rw[if_neg (by simp[q])],by rw[if_neg (by simp[q])],by simp[h],λ_=>⟨.inl rfl,by simp only[true_iff];exact e.1 q⟩⟩
 exact⟨2,by rw[if_pos q],by rw[if_pos q],by simp[h],λ_=>⟨.inr rfl,⟨λz=>by omega,λz=>absurd (e.2 z) q⟩⟩⟩
end
attribute [local simp] unk unA unE unT unC flat eL eI Qc QS Q2i Cat.cells Fn.cells
def QA(f_:Fn)(x_:Int)(e_:Int):Option Bool:=
 (Qo (σ:=Int) (ε:=Unit⊕Bool) (λs25=>
  if s25<(f_.ob.length:Int)then
   ass (0≤s25∧s25<(f_.ob.length:Int))<|
   (QR f_.s s25 x_).bind λv28=>
   (Qo (σ:=(List (Int×Bool))×Int) (ε:=List (Int×Bool)) (λs36=>
    if s36.2<(v28.length:Int)then
     ass (0≤s36.2∧s36.2<(v28.length:Int))<|
     ass (0≤ix v28 s36.2∧ix v28 s36.2<(f_.ar.length:Int))<|
     (Qq f_.t (ix f_.ar (ix v28 s36.2)) e_).bind λv40=>
     ass (s36.1.length<1099511627776)<|
     ass (B64 (s36.2+1))<|
     some (yO (tset v40 true s36.1,s36.2+1))
    else
     some (yM s36.1)) fuel ([],0)).bind λb29=>
   (
    if¬((b29.length:Int)=(v28.length:Int))then
     some true
    else
     ass (0≤e_∧e_<(f_.t.to.length:Int))<|
     (QR f_.t (ix f_.ob s25) (ix f_.t.to e_)).bind λv46=>
     some ((v28.length:Int)!=(v46.length:Int)):Option (Bool)).bind λb43=>
   if b43=true then
    some (yM (yL false))
   else
    ass (B64 (s25+1))<|
    some (yO (s25+1))
  else
   some (yM (yK ()))) fuel 0).bind λe1=>
 match e1 with
 | .inl b1=>
  some true
 | .inr p1=>
  some p1
@[simp] abbrev Yd(a:Fn)(b c:Int)(d:List (Nat×AV)):List (Nat×AV):=(0,.rptr (Fn.cells true a))::(1,iV b)::(2,iV c)::(7,.rptr (Fn.cells true a))::(8,.rptr (Y0R a []))::d
@[simp] abbrev YT(a:Fn)(b:Int)(c:List Int)(d:List (Nat×AV)):List (Nat×AV):=(10,iV (ix a.ob b))::(11,.own 0 0 c.length)::(12,.mp 1)::(24,lI a.ob)::(25,iV (a.ob.length:Int))::(26,iV b)::d
@[simp] abbrev Y0t(a:Fn)(b:List (Nat×AV)):List (Nat×AV):=(24,lI a.ob)::(25,iV (a.ob.length:Int))::b
theorem Q2X(f_:Fn)(x_:Int)(e_:Int)(r:Bool)(h:QA f_ x_ e_=some r):Contract Try.prog 105 [.rptr (f_.cells true),iV x_,iV e_] (.val (.bool r)):=by
 refine Q6 (rvs:=[.tmp 6]) (rs:=[.val (.bool r)]) Try.func105 rfl rfl rfl rfl (by simp[Try.f105]) λF hN hP=>?_;unfold QA at h;refine Q0 (runQ hN λK hK=>?_);simp;repeat refine sdQ ?_
 refine hK _ ?_;clear hK K;refine tn (Q2 (st':=⟨Yv f_ [(1,iV x_),(2,iV e_)],[],0⟩) (wkQ []) (Q0 (runQ hN λK hK=>?_)));simp;repeat refine sdQ ?_
 refine hK _ ?_;clear hK K;refine tn (Q2 (st':=⟨Yd f_ x_ e_ [],[],0⟩) (wkQ []) (Q0 (Q0 (runQ hN λK hK=>?_))));simp;repeat refine sdQ ?_
 refine hK _ (tn (Q2 (st':=⟨Yd f_ x_ e_ (Y0t f_ [(26,iV 0)]),[],0⟩) (wkQ []) ?_));clear hK K;replace⟨e1,h,h1⟩:=bind_some h;refine Q9 (λb1:Unit=>⟨[],[],0⟩) (λb1=>yK b1=e1) ?_ ?_
 ·refine Q5 (Qj h (λs25:Int=>⟨Yd f_ x_ e_ (Y0t f_ [(26,iV s25)]),[],0⟩) (wkQ []) ?_);clear h;intro k25 s25 c25 h hk25;refine Q0 (runQ hN λK hK=>?_);simp;repeat refine sdQ ?_
  refine hK _ ?_;clear hK K;refine tn (Q0 (Q7 rfl (λg=>?_) λg=>?_))
  ·have g26:s25<(f_.ob.length:Int):=gQ;clear g;replace h:=if_l g26 h;refine Q8 (tn (Q0 (Q5 (Q0 (runQ hN λK hK=>?_)))));replace⟨a27,h⟩:=Q1 h;simp[at_I a27];(repeat refine sdQ ?_);refine hK _ ?_;clear hK K;refine tn (Q2 (st':=⟨Yd f_ x_ e_ ((9,iV s25)::(10,iV (ix f_.ob s25))::Y0t f_ [(26,iV s25)]),[],0⟩) (wkQ []) (Q0 (runQ hN λK hK=>?_)));simp;(repeat with_reducible refine sdQ ?_);replace⟨v28,hv28,h⟩:=bind_some h;refine Q3 (Q22 _ _ _ v28 hv28) (.cons (.preT (by simp[CN])) (.cons .val (.cons .val .nil))) ?_;simp;(repeat refine sdQ ?_);refine hK _ ?_;clear hK K;refine tn (Q2 (st':=⟨Yd f_ x_ e_ ((10,iV (ix f_.ob s25))::(11,.own 0 0 v28.length)::Y0t f_ [(26,iV s25)]),[(0,rI v28)],1⟩) (wkQ [(0,0)]) (Q0 (rxQ hN λK hK=>?_)));simp;(repeat refine sdQ ?_);refine hK _ ?_;clear hK K;refine tn (Q2 (st':=⟨Yd f_ x_ e_ (YT f_ s25 v28 []),[(0,rI v28),(1,.mapE (.int .i64) (Mib []))],2⟩) (wkQ [(0,0),(1,1)]) (Q0 (Q0 (runQ hN λK hK=>?_))));simp;(repeat refine sdQ ?_);refine hK _ (tn (Q2 (st':=⟨Yd f_ x_ e_ (YT f_ s25 v28 [(36,.own 0 0 v28.length),(37,iV (v28.length:Int)),(38,iV 0)]),[(0,rI v28),(1,.mapE (.int .i64) (Mib []))],2⟩) (wkQ [(0,0),(1,1)]) ?_));clear hK K;replace⟨e29,h,h29⟩:=bind_some h;refine Q9 (λb29:List (Int×Bool)=>⟨Yd f_ x_ e_ (YT f_ s25 v28 []),[(0,rI v28),(1,.mapE (.int .i64) (Mib b29))],2⟩) (λb29=>b29=e29) ?_ ?_
   ·refine Q5 (Qj h (λs36:(List (Int×Bool))×Int=>⟨Yd f_ x_ e_ (YT f_ s25 v28 [(36,.own 0 0 v28.length),(37,iV (v28.length:Int)),(38,iV s36.2)]),[(0,rI v28),(1,.mapE (.int .i64) (Mib s36.1))],2⟩) (wkQ [(0,0),(1,1)]) ?_);clear h;intro k36 s36 c36 h hk36;refine Q0 (runQ hN λK hK=>?_);simp;(repeat refine sdQ ?_);refine hK _ ?_;clear hK K;refine tn (Q0 (Q7 rfl (λg=>?_) λg=>?_))
    ·have g37:s36.2<(v28.length:Int):=gQ;clear g;replace h:=if_l g37 h;refine Q8 (tn (Q0 (Q5 (Q0 (runQ hN λK hK=>?_)))));replace⟨a38,h⟩:=Q1 h;simp[at_I a38];(repeat refine sdQ ?_);refine hK _ ?_;clear hK K;refine tn (Q2 (st':=⟨Yd f_ x_ e_ ((10,iV (ix f_.ob s25))::(11,.own 0 0 v28.length)::(12,.mp 1)::(14,iV (ix v28 s36.2))::Y0t f_ [(26,iV s25),(36,.own 0 0 v28.length),(37,iV (v28.length:Int)),(38,iV s36.2)]),[(0,rI v28),(1,.mapE (.int .i64) (Mib s36.1))],2⟩) (wkQ [(0,0),(1,1)]) (rxQ hN λK hK=>?_));replace⟨a39,h⟩:=Q1 h;simp[at_I a39];(repeat with_reducible refine sdQ ?_);replace⟨v40,hv40,h⟩:=bind_some h;refine QL (fz:=[]) (Q12 _ _ _ v40 hv40) (.cons (.preT (by simp[CN])) (.cons .val (.cons .val .nil))) ?_;replace⟨a41,h⟩:=Q1 h;simp[at_I a39,a41];(repeat refine sdQ ?_);refine hK _ ?_;clear hK K;refine bn (tn (Q2 (st':=⟨Yd f_ x_ e_ (YT f_ s25 v28 [(36,.own 0 0 v28.length),(37,iV (v28.length:Int)),(38,iV s36.2)]),[(0,rI v28),(1,.mapE (.int .i64) (Mib (tset v40 true s36.1)))],2⟩) (wkQ [(0,0),(1,1)]) (runQ hN λK hK=>?_)));replace⟨a42,h⟩:=Q1 h;simp[Qh a42];(repeat refine sdQ ?_);refine hK _ ?_;clear hK K;cases h;exact rn (s':=(tset v40 true s36.1,s36.2+1)) hk36 (wkQ [(0,0),(1,1)])
    have g37:¬(s36.2<(v28.length:Int)):=gQ;clear g;replace h:=if_r g37 h;refine Ql (tx (lx (bh ?_)));cases h;exact jn (b:=s36.1) hk36 (wkQ [(0,0),(1,1)])
   intro b29 hb29;have h:=h29;(try rw[←hb29]at h);clear h29;(try dsimp only at h);refine Q0 ?_;replace⟨e43,h,h43⟩:=bind_some h;refine Q9 (λb43:Bool=>⟨Yd f_ x_ e_ (Y0t f_ [(26,iV s25),(74,.val (.bool b43))]),[],0⟩) (λb43=>b43=e43) ?_ ?_
   ·refine rxF [55] hN λK hK=>?_;simp;(repeat with_reducible refine sdQ ?_);refine Q3b (λg=>?_) (λg=>?_)
    ·have g44:¬(¬((b29.length:Int)=(v28.length:Int))):=gQ;clear g;replace h:=if_r g44 h;replace⟨a45,h⟩:=Q1 h;simp[at_I a45];(repeat with_reducible refine sdQ ?_);replace⟨v46,hv46,h⟩:=bind_some h;refine QL (fz:=[55]) (Q22 _ _ _ v46 hv46) (.cons (.preT (by simp[CN])) (.cons .val (.cons .val .nil))) ?_;simp[at_I a45];(repeat refine sdQ ?_);refine hK _ ?_;exact jn (b:=(v28.length:Int)!=(v46.length:Int)) (yJ h) (wkQ [])
    have g44:¬((b29.length:Int)=(v28.length:Int)):=gQ;clear g;replace h:=if_l g44 h;simp;(repeat refine sdQ ?_);refine hK _ ?_;exact jn (b:=true) (yJ h) (wkQ [])
   intro b43 hb43;have h:=h43;(try rw[←hb43]at h);clear h43;(try dsimp only at h);refine Q7 rfl (λg=>?_) λg=>?_
   ·have g47:b43=true:=gQ;clear g;replace h:=if_l g47 h;refine Q0 (runQ hN λK hK=>?_);simp;(repeat refine sdQ ?_);refine hK _ (tn (Q2 (st':=⟨[(6,.val (.bool false))],[],0⟩) (wkQ []) (Qe (br (tr (lr (br (tr ?_))))))));clear hK K;cases h;have q:_=e1:=hk25;have h:=h1;rw[←q]at h;clear q;(try dsimp only at h);have hr:=yJ h;rw[←hr];refine⟨_,(.tmp .nil),?_⟩;refine⟨(.one rfl rfl .nil),[.val (.bool false)],[],by simp[BN],by simp,(yN _)⟩
   have g47:¬(b43=true):=gQ;clear g;replace h:=if_r g47 h;refine Q8 (bn (tn (runQ hN λK hK=>?_)));replace⟨a48,h⟩:=Q1 h;simp[Qh a48];(repeat refine sdQ ?_);refine hK _ ?_;clear hK K;cases h;exact rn (s':=s25+1) hk25 (wkQ [])
  have g26:¬(s25<(f_.ob.length:Int)):=gQ;clear g;replace h:=if_r g26 h;refine Ql (tx (lx (bh ?_)));cases h;exact jn (b:=()) hk25 (wkQ [])
 intro b1 hb1;have h:=h1;try rw[←hb1]at h
 clear h1;try dsimp only at h
 refine Q0 (runQ hN λK hK=>?_);simp;repeat refine sdQ ?_
 refine hK _ (tn (Q2 (st':=⟨[(6,.val (.bool true))],[],0⟩) (wkQ []) (Qe ?_)));clear hK K;have hr:=yJ h;rw[←hr];refine⟨_,(.tmp .nil),?_⟩;refine⟨(.one rfl rfl .nil),[.val (.bool true)],[],by simp[BN],by simp,(yN _)⟩
attribute [local simp] unk unA unE unT unC flat eL eI Qc QS Q2i Cat.cells Fn.cells
def Q1R(f_:Fn)(from_:Int)(to_:Int)(e_:Int)(due_:Int):Option (List Int):=
 (Q1U f_.s from_ to_).bind λv1=>
 (Qo (σ:=List Int×Int) (ε:=List Int) (λs12=>
  if s12.2<(v1.length:Int)then
   (
    ass (0≤s12.2∧s12.2<(v1.length:Int))<|
    ass (0≤ix v1 s12.2∧ix v1 s12.2<(f_.ar.length:Int))<|
    (Q1A f_.t (ix f_.ar (ix v1 s12.2)) e_).bind λv17=>
    if v17=due_ then
     ass (0≤s12.2∧s12.2<(v1.length:Int))<|
     ass ((s12.1++[ix v1 s12.2]).length≤1073741824)<|
     some (s12.1++[ix v1 s12.2])
    else
     some s12.1:Option (List Int)).bind λb14=>
   ass (B64 (s12.2+1))<|
   some (yO (b14,s12.2+1))
  else
   some (yM s12.1)) fuel ([],0)).bind λb2=>
 some b2
@[simp] abbrev Y05(a b:Int)(c:List Int)(d:List (Nat×AV)):List (Nat×AV):=(3,iV a)::(4,iV b)::(5,.adr 0 0 0)::(11,.own 1 0 c.length)::d
theorem Q48(f_:Fn)(from_:Int)(to_:Int)(e_:Int)(due_:Int)(r:List Int)(h:Q1R f_ from_ to_ e_ due_=some r):Contract Try.prog 119 [.agg (f_.cells true),iV from_,iV to_,iV e_,iV due_] (lI r):=by
 refine Q6 (rvs:=[.tmp 10]) (rs:=[lI r]) Try.func119 rfl rfl rfl rfl (by simp[Try.f119]) λF hN hP=>?_;unfold Q1R at h;refine Q0 (runQ hN λK hK=>?_);simp;repeat refine sdQ ?_
 refine hK _ ?_;clear hK K;refine tn (Q2 (st':=⟨[(1,iV from_),(2,iV to_),(3,iV e_),(4,iV due_),(5,.adr 0 0 0)],Yw f_ [],1⟩) (wkQ [(0,0)]) (Q0 (runQ hN λK hK=>?_)));simp;repeat with_reducible refine sdQ ?_
 replace⟨v1,hv1,h⟩:=bind_some h;refine Q3 (Q4m _ _ _ v1 hv1) (.cons (.aggL (.cons .val (.cons .lst (.cons .lst (.cons .lst (.cons .lst .nil)))))) (.cons .val (.cons .val .nil))) ?_;simp;repeat refine sdQ ?_
 refine hK _ ?_;clear hK K;refine tn (Q2 (st':=⟨Y05 e_ due_ v1 [],Yw f_ [(1,rI v1)],2⟩) (wkQ [(0,0),(1,1)]) (Q0 (runQ hN λK hK=>?_)));simp;repeat refine sdQ ?_
 refine hK _ ?_;clear hK K;refine tn (Q2 (st':=⟨Y05 e_ due_ v1 [(12,.own 2 0 0)],Yw f_ [(1,rI v1),(2,.mix 1 [])],3⟩) (wkI 3) (Q0 (Q0 (runQ hN λK hK=>?_))));simp;repeat refine sdQ ?_
 refine hK _ (tn (Q2 (st':=⟨Y05 e_ due_ v1 [(12,.own 2 0 0),(13,iV 0)],Yw f_ [(1,rI v1),(2,.mix 1 [])],3⟩) (wkI 3) ?_));clear hK K;replace⟨e2,h,h2⟩:=bind_some h;refine Q9 (λb2:List Int=>⟨[(12,.own 0 0 b2.length)],[(0,rI b2)],1⟩) (λb2=>b2=e2) ?_ ?_
 ·refine Q5 (Qj h (λs12:List Int×Int=>⟨Y05 e_ due_ v1 [(12,.own 2 0 s12.1.length),(13,iV s12.2)],Yw f_ [(1,rI v1),(2,rI s12.1)],3⟩) (Q2Y ⟨Y05 e_ due_ v1 [(12,.own 2 0 0),(13,iV 0)],Yw f_ [(1,rI v1),(2,rI [])],3⟩ (nlQ []) (wkI 3)) ?_);clear h;intro k12 s12 c12 h hk12;refine Q0 (Q0 (runQ hN λK hK=>?_));simp;repeat refine sdQ ?_
  refine hK _ ?_;clear hK K;refine tn (Q7 rfl (λg=>?_) λg=>?_)
  ·have g13:s12.2<(v1.length:Int):=gQ;clear g;replace h:=if_l g13 h;refine Q8 (tn (Q0 ?_));replace⟨e14,h,h14⟩:=bind_some h;refine Q9 (λb14:List Int=>⟨Y05 e_ due_ v1 [(12,.own 2 0 b14.length),(13,iV s12.2)],Yw f_ [(1,rI v1),(2,rI b14)],3⟩) (λb14=>b14=e14) ?_ ?_
   ·refine Q5 (Q0 (runQ hN λK hK=>?_));replace⟨a15,h⟩:=Q1 h;replace⟨a16,h⟩:=Q1 h;simp[at_I a15,at_I a16];(repeat with_reducible refine sdQ ?_);replace⟨v17,hv17,h⟩:=bind_some h;refine Q3 (Q6f _ _ _ v17 hv17) (.cons (.aggL (.cons .val (.cons .lst (.cons .lst (.cons .lst (.cons .lst .nil)))))) (.cons .val (.cons .val .nil))) ?_;simp[at_I a15,at_I a16];(repeat refine sdQ ?_);refine hK _ ?_;clear hK K;refine tn (Q2 (st':=⟨Y05 e_ due_ v1 [(12,.own 2 0 s12.1.length),(13,iV s12.2),(39,.val (.bool (v17==due_)))],Yw f_ [(1,rI v1),(2,rI s12.1)],3⟩) (wkI 3) (Q7 rfl (λg=>?_) λg=>?_))
    ·have g18:v17=due_:=gQ;clear g;replace h:=if_l g18 h;refine runQ hN λK hK=>?_;replace⟨a19,h⟩:=Q1 h;replace⟨a20,h⟩:=Q1 h;(try simp only[qD,qH,zX]at a20);simp[at_I a19,a20];(repeat refine sdQ ?_);refine hK _ (bn ?_);clear hK K;exact jn (b:=s12.1++[ix v1 s12.2]) (yJ h) (wkQ [(0,0),(1,1),(5,2)])
    have g18:¬(v17=due_):=gQ;clear g;replace h:=if_r g18 h;refine Q8 (bn ?_);exact jn (b:=s12.1) (yJ h) (wkI 3)
   intro b14 hb14;have h:=h14;(try rw[←hb14]at h);clear h14;(try dsimp only at h);refine runQ hN λK hK=>?_;replace⟨a21,h⟩:=Q1 h;simp[Qh a21];(repeat refine sdQ ?_);refine hK _ ?_;clear hK K;cases h;exact rn (s':=(b14,s12.2+1)) hk12 (wkI 3)
  have g13:¬(s12.2<(v1.length:Int)):=gQ;clear g;replace h:=if_r g13 h;refine Ql (tx (lx (bh ?_)));cases h;exact jn (b:=s12.1) hk12 (wkQ [(2,0)])
 intro b2 hb2;have h:=h2;try rw[←hb2]at h
 clear h2;try dsimp only at h
 refine Q0 (runQ hN λK hK=>?_);simp;repeat refine sdQ ?_
 refine hK _ (tn (Q2 (st':=⟨[(10,.own 0 0 b2.length)],[(0,rI b2)],1⟩) (wkQ [(0,0)]) (Qe ?_)));clear hK K;have hr:=yJ h;rw[←hr];refine⟨_,(.tmp .nil),?_⟩;refine⟨(.one rfl rfl .nil),[lI b2],[0],by simp[BN],by simp,(yN _)⟩
attribute [local simp] unk unA unE unT unC flat eL eI Qc QS Q2i Cat.cells Fn.cells
def Q1j(f_:Fn)(y_:Int)(x_:Int)(e_:Int):Option Bool:=
 (Qo (σ:=Int) (ε:=Unit⊕Bool) (λs18=>
  if s18<f_.s.n then
   (
    ass (0≤s18∧s18<(f_.ob.length:Int))<|
    (Q1U f_.t (ix f_.ob s18) y_).bind λv22=>
    (Qo (σ:=Int) (ε:=Bool⊕Unit) (λs28=>
     if s28<(v22.length:Int)then
      ass (0≤s28∧s28<(v22.length:Int))<|
      (Q1R f_ s18 x_ e_ (ix v22 s28)).bind λv31=>
      if¬((v31.length:Int)=1)then
       some (yM (yK false))
      else
       ass (B64 (s28+1))<|
       some (yO (s28+1))
     else
      some (yM (yL ()))) fuel 0).bind λe28=>
    match e28 with
    | .inl p28=>
     some (yL p28)
    | .inr p28=>
     some (yK p28):Option (Unit⊕Bool)).bind λe20=>
   match e20 with
   | .inl b20=>
    ass (B64 (s18+1))<|
    some (yO (s18+1))
   | .inr p20=>
    some (yM (yL p20))
  else
   some (yM (yK ()))) fuel 0).bind λe1=>
 match e1 with
 | .inl b1=>
  some true
 | .inr p1=>
  some p1
@[simp] abbrev Y0h(a b c:Int)(d:List (Nat×AV)):List (Nat×AV):=(1,iV a)::(2,iV b)::(3,iV c)::(4,.adr 0 0 0)::d
theorem Q5y(f_:Fn)(y_:Int)(x_:Int)(e_:Int)(r:Bool)(h:Q1j f_ y_ x_ e_=some r):Contract Try.prog 107 [.agg (f_.cells true),iV y_,iV x_,iV e_] (.val (.bool r)):=by
 refine Q6 (rvs:=[.tmp 8]) (rs:=[.val (.bool r)]) Try.func107 rfl rfl rfl rfl (by simp[Try.f107]) λF hN hP=>?_;unfold Q1j at h;refine Q0 (runQ hN λK hK=>?_);simp;repeat refine sdQ ?_
 refine hK _ ?_;clear hK K;refine tn (Q2 (st':=⟨Y0h y_ x_ e_ [],Yw f_ [],1⟩) (wkQ [(0,0)]) (Q0 (Q0 (runQ hN λK hK=>?_))));simp;repeat refine sdQ ?_
 refine hK _ (tn (Q2 (st':=⟨Y0h y_ x_ e_ [(9,iV 0)],Yw f_ [],1⟩) (wkQ [(0,0)]) ?_));clear hK K;replace⟨e1,h,h1⟩:=bind_some h;refine Q9 (λb1:Unit=>⟨[],[],0⟩) (λb1=>yK b1=e1) ?_ ?_
 ·refine Q5 (Qj h (λs18:Int=>⟨Y0h y_ x_ e_ [(9,iV s18)],Yw f_ [],1⟩) (wkQ [(0,0)]) ?_);clear h;intro k18 s18 c18 h hk18;refine Q0 (Q0 (runQ hN λK hK=>?_));simp;repeat refine sdQ ?_
  refine hK _ ?_;clear hK K;refine tn (Q7 rfl (λg=>?_) λg=>?_)
  ·have g19:s18<f_.s.n:=gQ;clear g;replace h:=if_l g19 h;refine Q8 (tn (Q0 ?_));replace⟨e20,h,h20⟩:=bind_some h;refine Q9 (λb20:Unit=>⟨Y0h y_ x_ e_ [(9,iV s18)],Yw f_ [],1⟩) (λb20=>yK b20=e20) ?_ ?_
   ·refine Q5 (Q0 (runQ hN λK hK=>?_));replace⟨a21,h⟩:=Q1 h;simp[at_I a21];(repeat with_reducible refine sdQ ?_);replace⟨v22,hv22,h⟩:=bind_some h;refine Q3 (Q4m _ _ _ v22 hv22) (.cons (.aggL (.cons .val (.cons .lst (.cons .lst (.cons .lst (.cons .lst .nil)))))) (.cons .val (.cons .val .nil))) ?_;simp[at_I a21];(repeat refine sdQ ?_);refine hK _ ?_;clear hK K;refine tn (Q2 (st':=⟨Y0h y_ x_ e_ [(9,iV s18),(10,.own 1 0 v22.length)],Yw f_ [(1,rI v22)],2⟩) (wkQ [(0,0),(1,1)]) (Q0 (runQ hN λK hK=>?_)));simp;(repeat refine sdQ ?_);refine hK _ (tn (Q2 (st':=⟨Y0h y_ x_ e_ [(9,iV s18),(10,.own 1 0 v22.length),(11,iV 0)],Yw f_ [(1,rI v22)],2⟩) (wkQ [(0,0),(1,1)]) (Q5 ?_)));clear hK K;replace⟨e28,he28,h28⟩:=bind_some h;refine Qj he28 (λs28:Int=>⟨Y0h y_ x_ e_ [(9,iV s18),(10,.own 1 0 v22.length),(11,iV s28)],Yw f_ [(1,rI v22)],2⟩) (wkQ [(0,0),(1,1)]) ?_;intro k28 s28 c28 h hk28;refine Q0 (Q0 (runQ hN λK hK=>?_));simp;(repeat refine sdQ ?_);refine hK _ ?_;clear hK K;refine tn (Q7 rfl (λg=>?_) λg=>?_)
    ·have g29:s28<(v22.length:Int):=gQ;clear g;replace h:=if_l g29 h;refine Q8 (tn (Q0 (Q5 (Q0 (runQ hN λK hK=>?_)))));replace⟨a30,h⟩:=Q1 h;simp[at_I a30];(repeat with_reducible refine sdQ ?_);replace⟨v31,hv31,h⟩:=bind_some h;refine Q3 (Q48 _ _ _ _ _ v31 hv31) (.cons (.aggL (.cons .val (.cons .lst (.cons .lst (.cons .lst (.cons .lst (.cons .val (.cons .lst (.cons .lst (.cons .lst (.cons .lst (.cons .lst (.cons .lst .nil))))))))))))) (.cons .val (.cons .val (.cons .val (.cons .val .nil))))) ?_;simp[at_I a30];(repeat refine sdQ ?_);refine hK _ ?_;clear hK K;refine tn (Q2 (st':=⟨Y0h y_ x_ e_ [(9,iV s18),(10,.own 1 0 v22.length),(11,iV s28),(44,.val (.bool ((v31.length:Int)!=1)))],Yw f_ [(1,rI v22)],2⟩) (wkQ [(0,0),(1,1)]) (Q7 rfl (λg=>?_) λg=>?_))
     ·have g32:¬((v31.length:Int)=1):=gQ;clear g;replace h:=if_l g32 h;refine Q0 (runQ hN λK hK=>?_);simp;(repeat refine sdQ ?_);refine hK _ (tn (Q2 (st':=⟨[(8,.val (.bool false))],[],0⟩) (wkQ []) (Qe (br (tr (lr (br (br (tr (lr (br (tr ?_))))))))))));clear hK K;cases h;have q:_=e28:=hk28;have h:=h28;rw[←q]at h;clear q;(try dsimp only at h);cases h;have h:=h20;(try dsimp only at h);cases h;have q:_=e1:=hk18;have h:=h1;rw[←q]at h;clear q;(try dsimp only at h);have hr:=yJ h;rw[←hr];refine⟨_,(.tmp .nil),?_⟩;refine⟨(.one rfl rfl .nil),[.val (.bool false)],[],by simp[BN],by simp,(yN _)⟩
     have g32:¬(¬((v31.length:Int)=1)):=gQ;clear g;replace h:=if_r g32 h;refine Q8 (bn (tn (runQ hN λK hK=>?_)));replace⟨a33,h⟩:=Q1 h;simp[Qh a33];(repeat refine sdQ ?_);refine hK _ ?_;clear hK K;cases h;exact rn (s':=s28+1) hk28 (wkQ [(0,0),(1,1)])
    have g29:¬(s28<(v22.length:Int)):=gQ;clear g;replace h:=if_r g29 h;refine Ql (tx (lx (bh (bn ?_))));cases h;have q:_=e28:=hk28;have h:=h28;rw[←q]at h;clear q;(try dsimp only at h);exact jn (b:=()) (yJ h) (wkQ [(0,0)])
   intro b20 hb20;have h:=h20;(try rw[←hb20]at h);clear h20;(try dsimp only at h);refine runQ hN λK hK=>?_;replace⟨a34,h⟩:=Q1 h;simp[Qh a34];(repeat refine sdQ ?_);refine hK _ ?_;clear hK K;cases h;exact rn (s':=s18+1) hk18 (wkQ [(0,0)])
  have g19:¬(s18<f_.s.n):=gQ;clear g;replace h:=if_r g19 h;refine Ql (tx (lx (bh ?_)));cases h;exact jn (b:=()) hk18 (wkQ [])
 intro b1 hb1;have h:=h1;try rw[←hb1]at h
 clear h1;try dsimp only at h
 refine Q0 (runQ hN λK hK=>?_);simp;repeat refine sdQ ?_
 refine hK _ (tn (Q2 (st':=⟨[(8,.val (.bool true))],[],0⟩) (wkQ []) (Qe ?_)));clear hK K;have hr:=yJ h;rw[←hr];refine⟨_,(.tmp .nil),?_⟩;refine⟨(.one rfl rfl .nil),[.val (.bool true)],[],by simp[BN],by simp,(yN _)⟩
section
attribute [local simp] Qi QP Qv Q1l QN
theorem fn_ar{f:Fn}(h:f.Is){a x y:Int}(ha:Ar f.s a x y):Ar f.t (ix f.ar a) (ix f.ob x) (ix f.ob y):=by
 obtain⟨i,rfl⟩:=yT ha.1.1;have h1:=ha.1;have h2:=h.la;have h3:=h.ends i (by omega);refine⟨h.ar i (by omega),?_,?_⟩
 ·rw[h3.1,ha.2.1]
 rw[h3.2,ha.2.2]
theorem fn_ob{f:Fn}(h:f.Is){x:Int}(hx:0≤x∧x<f.s.n):x<(f.ob.length:Int)∧0≤ix f.ob x∧ix f.ob x<f.t.n:=by
 obtain⟨i,rfl⟩:=yT hx.1;have:=h.lo;exact⟨by omega,h.ob i (by omega)⟩
def hmL(c:Cat)(x y:Int):List Int:=flt c.fr.length λa=>ix c.fr a=x∧ix c.to a=y
theorem hm_mem{c:Cat}{x y a:Int}:a∈hmL c x y↔Ar c a x y:=by
 unfold hmL;rw[mem_flt];constructor
 ·rintro ⟨i,h1,h2,rfl⟩;exact⟨⟨by omega,by omega⟩,h2.1,h2.2⟩
 rintro ⟨h1,h2,h3⟩
 obtain⟨i,rfl⟩:=yT h1.1;exact⟨i,by omega,⟨h2,h3⟩,rfl⟩
theorem hm_at{c:Cat}{x y:Int}{i:Nat}(hi:i<(hmL c x y).length):Ar c (ix (hmL c x y) i) x y:=by
 have:=List.getElem_mem hi;rw[Q2e _ _ hi]at this;exact hm_mem.1 this
theorem Q7G(c:Cat)(x y:Int):(hmL c x y).length≤c.fr.length:=Q6U _ _
theorem hm_nd(c:Cat)(x y:Int):(hmL c x y).Nodup:=flt_nodup _ _
theorem e_hm{c:Cat}(h:c.Is)(x y:Int):QR c x y=some (hmL c x y)∧Q1U c x y=some (hmL c x y):=⟨e_hom h x y,e_hom h x y⟩
def phi(f:Fn)(e u:Int):Int:=ix (rx f.t.cs (ix f.ar u)) e
def lfL(f:Fn)(w x e d:Int):List Int:=(hmL f.s w x).filter λu=>bo (phi f e u=d)
def UW(f:Fn)(x y e w:Int):Prop:=∀b∈hmL f.t (ix f.ob w) y,(lfL f w x e b).length=1
def UA(f:Fn)(x y e:Int):Prop:=∀w:Nat,w<f.ob.length→UW f x y e w
theorem phi_ar{f:Fn}(h:f.Is){w x y e u:Int}(he:Ar f.t e (ix f.ob x) y)(hu:Ar f.s u w x):Ar f.t (phi f e u) (ix f.ob w) y:=(fn_ar h hu).two h.t he
theorem Q74{f:Fn}(h:f.Is){w x y e u:Int}(he:Ar f.t e (ix f.ob x) y)(hu:Ar f.s u w x):Q1A f.t (ix f.ar u) e=some (phi f e u)∧Qq f.t (ix f.ar u) e=some (phi f e u):=(fn_ar h hu).thn h.t he
theorem Q9n{L:List Int}{i:Nat}(h:i<L.length):L.take (i+1)=L.take i++[ix L i]:=by rw[List.take_succ_eq_append_getElem h,Q2e _ _ h]
theorem Q8d{f:Fn}(h:f.Is){w x y e:Int}(he:Ar f.t e (ix f.ob x) y)(d:Int):Q1R f w x e d=some (lfL f w x e d):=by
 have n:=h.s.nums;have hl:=Q7G f.s w x;have hla:=h.la;unfold Q1R;rw[(e_hm h.s w x).2];simp only[yA];refine Q3D (hmL f.s w x).length (λi=>((hmL f.s w x).take i).filter λu=>bo (phi f e u=d)) (e:=lfL f w x e d) (by simp) (by omega) (λi hi=>?_) (by simp[lfL]) rfl;have a:=hm_at hi;have b1:=(Q74 h he a).1;have lt:(((hmL f.s w x).take i).filter λu=>bo (phi f e u=d)).length≤i:=Nat.le_trans (List.length_filter_le _ _) (by simp;omega);rw[if_pos (by simp only;omega),Q4 (by simp only;omega),Q4 (by have:=a.1;simp only;omega),b1,Q9n hi,List.filter_append];simp only[yA]
 by_cases q:phi f e (ix (hmL f.s w x) i)=d
 ·rw[if_pos q,Q4 (by omega),Q4 (by simp;omega)];simp only[yA];rw[Q4 (by unfold B64;omega)];simp[Qk q]
 rw[if_neg q];simp only[yA];rw[Q4 (by unfold B64;omega)];simp[Qd q]
theorem Q98(f:Fn)(w x e d:Int):(lfL f w x e d).length=((hmL f.s w x).map (phi f e)).count d:=by
 unfold lfL;rw[List.count,List.countP_map,List.countP_eq_length_filter]
 congr 1
 refine List.filter_congr λu _=>?_
 by_cases q:phi f e u=d
 ·rw[Qk q];simp[q]
 rw[Qd q];simp[q]
theorem uw_iff{f:Fn}(h:f.Is){x y e w:Int}(he:Ar f.t e (ix f.ob x) y):UW f x y e w↔(((hmL f.s w x).map (phi f e)).Nodup∧(hmL f.s w x).length=(hmL f.t (ix f.ob w) y).length):=by
 have:=each_once (M:=(hmL f.s w x).map (phi f e)) (hm_nd f.t (ix f.ob w) y) (λz hz=>by
  obtain⟨u,hu,rfl⟩:=List.mem_map.1 hz;exact hm_mem.2 (phi_ar h he (hm_mem.1 hu)))
 rw[yW]at this;rw[this];unfold UW;exact⟨λq b hb=>by rw[←Q98];exact q b hb,λq b hb=>by rw[Q98];exact q b hb⟩
theorem e_univS{f:Fn}(h:f.Is){x y e:Int}(he:Ar f.t e (ix f.ob x) y):Q1j f y x e=some (bo (UA f x y e)):=by
 have n:=h.s.nums;have hlo:=h.lo;unfold Q1j;refine chkI f.ob.length (λw=>UW f x y e w) (yL false) (yK ()) (by omega) (λw hw=>?_) (by rw[if_neg (by omega)]) ?_
 ·have o:=fn_ob h (x:=(w:Int)) (by omega);have hl:=Q7G f.t (ix f.ob w) y;have nt:=h.t.nums;rw[if_pos (by omega),Q4 (by omega),(e_hm h.t _ _).2];simp only[yA];rw[yV];refine chkI (hmL f.t (ix f.ob w) y).length (λi=>(lfL f w x e (ix (hmL f.t (ix f.ob w) y) i)).length=1) (yK false) (yL ()) (by omega) (λi hi=>?_) (by rw[if_neg (by omega)]) ?_
  ·rw[if_pos (by omega),Q4 (by omega),Q8d h he];simp only[yA]
   by_cases q:(lfL f w x e (ix (hmL f.t (ix f.ob w) y) i)).length=1
   ·rw[if_neg (QW (by omega)),Q4 (by unfold B64;omega),Qk q];rfl
   rw[if_pos (by omega),Qd q];rfl
  have e1:(∀i:Nat,i<(hmL f.t (ix f.ob w) y).length→(lfL f w x e (ix (hmL f.t (ix f.ob w) y) i)).length=1)↔UW f x y e w:=by
   constructor
   ·intro q b hb;obtain⟨i,hi,rfl⟩:=List.getElem_of_mem hb;rw[Q2e _ _ hi];exact q i hi
   intro q i hi;refine q _ ?_;rw[←Q2e _ _ hi];exact List.getElem_mem hi
  rw[bo_iff2 e1]
  by_cases q:UW f x y e w
  ·rw[Qk q];simp only[if_true,yA];rw[Q4 (by unfold B64;omega)]
  rw[Qd q];rfl
 by_cases q:UA f x y e
 ·rw[Qk (show∀w:Nat,w<f.ob.length→UW f x y e w from q),Qk q];rfl
 rw[Qd (show¬∀w:Nat,w<f.ob.length→UW f x y e w from q),Qd q];rfl
theorem Q8Z{f:Fn}(h:f.Is){x y e:Int}(he:Ar f.t e (ix f.ob x) y):QA f x e=some (bo (UA f x y e)):=by
 have n:=h.s.nums;have nt:=h.t.nums;have hlo:=h.lo;have hla:=h.la;unfold QA;refine chkI f.ob.length (λw=>UW f x y e w) (yL false) (yK ()) (by omega) (λw hw=>?_) (by rw[if_neg (by omega)]) ?_
 ·have hl:=Q7G f.s w x;rw[if_pos (by omega),Q4 (by omega),(e_hm h.s _ _).1];simp only[yA];have hr:(Qo (σ:=(List (Int×Bool))×Int) (ε:=List (Int×Bool)) (λs36=>
    if s36.2<((hmL f.s w x).length:Int)then
     ass (0≤s36.2∧s36.2<((hmL f.s w x).length:Int))<|
     ass (0≤ix (hmL f.s w x) s36.2∧ix (hmL f.s w x) s36.2<(f.ar.length:Int))<|
     (Qq f.t (ix f.ar (ix (hmL f.s w x) s36.2)) e).bind λv40=>
     ass (s36.1.length<1099511627776)<|
     ass (B64 (s36.2+1))<|
     some (yO (tset v40 true s36.1,s36.2+1))
    else
     some (yM s36.1)) fuel ([],0))=some (imF ((hmL f.s w x).map (phi f e)).reverse):=by
   refine Q99 (λi=>imF (((hmL f.s w x).take i).map (phi f e)).reverse) (hmL f.s w x).length (e:=imF ((hmL f.s w x).map (phi f e)).reverse) (by simp[imF]) (by omega) (λi hi=>?_) (by simp);have a:=hm_at hi;have b1:=(Q74 h he a).2;have l1:=(imF_len (((hmL f.s w x).take i).map (phi f e)).reverse).1;simp only[List.length_reverse,yW,List.length_take]at l1;rw[if_pos (by simp only;omega),Q4 (by simp only;omega),Q4 (by have:=a.1;simp only;omega),b1,Q9n hi];simp only[yA];rw[Q4 (by omega),Q4 (by unfold B64;omega)];simp[imF]
  rw[hr];simp only[yA];have l2:=(imF_len ((hmL f.s w x).map (phi f e)).reverse).2;rw[(List.reverse_perm _).nodup_iff]at l2;simp only[List.length_reverse,yW]at l2;have u:=uw_iff h (w:=w) he
  by_cases q1:((hmL f.s w x).map (phi f e)).Nodup
  ·rw[if_neg (QW (by have:=l2.2 q1;omega)),Q4 (by have:=he.1;omega),(e_hm h.t _ _).1,he.2.2];simp only[yA]
   by_cases q2:(hmL f.s w x).length=(hmL f.t (ix f.ob w) y).length
   ·rw[Qk (u.2 ⟨q1,q2⟩),if_neg (by simp[q2]),Q4 (by unfold B64;omega)];rfl
   rw[Qd (λz=>q2 (u.1 z).2),if_pos (by simp;omega)];rfl
  rw[if_pos (by intro z;exact q1 (l2.1 (by omega))),Qd (λz=>q1 (u.1 z).1)];rfl
 by_cases q:UA f x y e
 ·rw[Qk (show∀w:Nat,w<f.ob.length→UW f x y e w from q),Qk q];rfl
 rw[Qd (show¬∀w:Nat,w<f.ob.length→UW f x y e w from q),Qd q];rfl
end
attribute [local simp] unk unA unE unT unC flat eL eI Qc QS Q2i Cat.cells Fn.cells
def Qs(f_:Fn)(y_:Int):Option (Int×Int×Bool):=
 (Qo (σ:=Int) (ε:=Unit⊕(Int×Int×Bool)) (λs18=>
  if s18<(f_.ob.length:Int)then
   (
    ass (0≤s18∧s18<(f_.ob.length:Int))<|
    (QR f_.t (ix f_.ob s18) y_).bind λv22=>
    (Qo (σ:=Int) (ε:=(Int×Int×Bool)⊕Unit) (λs28=>
     if s28<(v22.length:Int)then
      ass (0≤s28∧s28<(v22.length:Int))<|
      (QA f_ s18 (ix v22 s28)).bind λv31=>
      if v31=true then
       some (yM (yK (s18,ix v22 s28,true)))
      else
       ass (B64 (s28+1))<|
       some (yO (s28+1))
     else
      some (yM (yL ()))) fuel 0).bind λe28=>
    match e28 with
    | .inl p28=>
     some (yL p28)
    | .inr p28=>
     some (yK p28):Option (Unit⊕(Int×Int×Bool))).bind λe20=>
   match e20 with
   | .inl b20=>
    ass (B64 (s18+1))<|
    some (yO (s18+1))
   | .inr p20=>
    some (yM (yL p20))
  else
   some (yM (yK ()))) fuel 0).bind λe1=>
 match e1 with
 | .inl b1=>
  some (0,0,false)
 | .inr p1=>
  some p1
@[simp] abbrev Y09(a:Fn)(b:Int)(c:List Int)(d:List (Nat×AV)):List (Nat×AV):=(14,lI a.ob)::(15,iV (a.ob.length:Int))::(16,iV b)::(26,.own 0 0 c.length)::(27,iV (c.length:Int))::d
theorem Q1g(f_:Fn)(y_:Int)(r:Int×Int×Bool)(h:Qs f_ y_=some r):Contract Try.prog 58 [.rptr (f_.cells true),iV y_] (.tup [iV r.1,iV r.2.1,.val (.bool r.2.2)]):=by
 refine Q6 (rvs:=[.tmp 4,.tmp 5,.tmp 6]) (rs:=[iV r.1,iV r.2.1,.val (.bool r.2.2)]) Try.func58 rfl rfl rfl rfl (by simp[Try.f58]) λF hN hP=>?_;unfold Qs at h;refine Q0 (runQ hN λK hK=>?_);simp;repeat refine sdQ ?_
 refine hK _ ?_;clear hK K;refine tn (Q2 (st':=⟨Yv f_ [(1,iV y_)],[],0⟩) (wkQ []) (Q0 (Q0 (runQ hN λK hK=>?_))));simp;repeat refine sdQ ?_
 refine hK _ (tn (Q2 (st':=⟨Yv f_ [(1,iV y_),(14,lI f_.ob),(15,iV (f_.ob.length:Int)),(16,iV 0)],[],0⟩) (wkQ []) ?_));clear hK K;replace⟨e1,h,h1⟩:=bind_some h;refine Q9 (λb1:Unit=>⟨[],[],0⟩) (λb1=>yK b1=e1) ?_ ?_
 ·refine Q5 (Qj h (λs18:Int=>⟨Yv f_ [(1,iV y_),(14,lI f_.ob),(15,iV (f_.ob.length:Int)),(16,iV s18)],[],0⟩) (wkQ []) ?_);clear h;intro k18 s18 c18 h hk18;refine Q0 (runQ hN λK hK=>?_);simp;repeat refine sdQ ?_
  refine hK _ ?_;clear hK K;refine tn (Q0 (Q7 rfl (λg=>?_) λg=>?_))
  ·have g19:s18<(f_.ob.length:Int):=gQ;clear g;replace h:=if_l g19 h;refine Q8 (tn (Q0 ?_));replace⟨e20,h,h20⟩:=bind_some h;refine Q9 (λb20:Unit=>⟨Yv f_ [(1,iV y_),(14,lI f_.ob),(15,iV (f_.ob.length:Int)),(16,iV s18)],[],0⟩) (λb20=>yK b20=e20) ?_ ?_
   ·refine Q5 (Q0 (runQ hN λK hK=>?_));replace⟨a21,h⟩:=Q1 h;simp[at_I a21];(repeat refine sdQ ?_);refine hK _ ?_;clear hK K;refine tn (Q2 (st':=⟨Yv f_ [(1,iV y_),(7,iV s18),(8,iV (ix f_.ob s18)),(14,lI f_.ob),(15,iV (f_.ob.length:Int)),(16,iV s18)],[],0⟩) (wkQ []) (Q0 (runQ hN λK hK=>?_)));simp;(repeat with_reducible refine sdQ ?_);replace⟨v22,hv22,h⟩:=bind_some h;refine Q3 (Q22 _ _ _ v22 hv22) (.cons (.preT (by simp[CN])) (.cons .val (.cons .val .nil))) ?_;simp;(repeat refine sdQ ?_);refine hK _ (tn (Q2 (st':=⟨Yv f_ ((1,iV y_)::(7,iV s18)::Y09 f_ s18 v22 [(28,iV 0)]),[(0,rI v22)],1⟩) (wkQ [(0,0)]) (Q5 ?_)));clear hK K;replace⟨e28,he28,h28⟩:=bind_some h;refine Qj he28 (λs28:Int=>⟨Yv f_ ((1,iV y_)::(7,iV s18)::Y09 f_ s18 v22 [(28,iV s28)]),[(0,rI v22)],1⟩) (wkQ [(0,0)]) ?_;intro k28 s28 c28 h hk28;refine Q0 (runQ hN λK hK=>?_);simp;(repeat refine sdQ ?_);refine hK _ ?_;clear hK K;refine tn (Q0 (Q7 rfl (λg=>?_) λg=>?_))
    ·have g29:s28<(v22.length:Int):=gQ;clear g;replace h:=if_l g29 h;refine Q8 (tn (Q0 (Q5 (Q0 (runQ hN λK hK=>?_)))));replace⟨a30,h⟩:=Q1 h;simp[at_I a30];(repeat refine sdQ ?_);refine hK _ ?_;clear hK K;refine tn (Q2 (st':=⟨Yv f_ ((1,iV y_)::(7,iV s18)::(10,iV (ix v22 s28))::Y09 f_ s18 v22 [(28,iV s28)]),[(0,rI v22)],1⟩) (wkQ [(0,0)]) (Q0 (runQ hN λK hK=>?_)));simp;(repeat with_reducible refine sdQ ?_);replace⟨v31,hv31,h⟩:=bind_some h;refine Q3 (Q2X _ _ _ v31 hv31) (.cons (.preT (by simp[CN])) (.cons .val (.cons .val .nil))) ?_;simp;(repeat refine sdQ ?_);refine hK _ ?_;clear hK K;refine tn (Q2 (st':=⟨Yv f_ ((1,iV y_)::(7,iV s18)::(10,iV (ix v22 s28))::Y09 f_ s18 v22 [(28,iV s28),(35,.val (.bool v31))]),[(0,rI v22)],1⟩) (wkQ [(0,0)]) (Q7 rfl (λg=>?_) λg=>?_))
     ·have g32:v31=true:=gQ;clear g;replace h:=if_l g32 h;refine Q0 (runQ hN λK hK=>?_);simp;(repeat refine sdQ ?_);refine hK _ (tn (Q2 (st':=⟨[(4,iV s18),(5,iV (ix v22 s28)),(6,.val (.bool true))],[],0⟩) (wkQ []) (Qe (br (tr (lr (br (br (tr (lr (br (tr ?_))))))))))));clear hK K;cases h;have q:_=e28:=hk28;have h:=h28;rw[←q]at h;clear q;(try dsimp only at h);cases h;have h:=h20;(try dsimp only at h);cases h;have q:_=e1:=hk18;have h:=h1;rw[←q]at h;clear q;(try dsimp only at h);have hr:=yJ h;rw[←hr];refine⟨_,(.tmp (.tmp (.tmp .nil))),?_⟩;refine⟨(.one rfl rfl (.one rfl rfl (.one rfl rfl .nil))),[iV s18,iV (ix v22 s28),.val (.bool true)],[],by simp[BN],by simp,(yN _)⟩
     have g32:¬(v31=true):=gQ;clear g;replace h:=if_r g32 h;refine Q8 (bn (tn (runQ hN λK hK=>?_)));replace⟨a33,h⟩:=Q1 h;simp[Qh a33];(repeat refine sdQ ?_);refine hK _ ?_;clear hK K;cases h;exact rn (s':=s28+1) hk28 (wkQ [(0,0)])
    have g29:¬(s28<(v22.length:Int)):=gQ;clear g;replace h:=if_r g29 h;refine Ql (tx (lx (bh (bn ?_))));cases h;have q:_=e28:=hk28;have h:=h28;rw[←q]at h;clear q;(try dsimp only at h);exact jn (b:=()) (yJ h) (wkQ [])
   intro b20 hb20;have h:=h20;(try rw[←hb20]at h);clear h20;(try dsimp only at h);refine runQ hN λK hK=>?_;replace⟨a34,h⟩:=Q1 h;simp[Qh a34];(repeat refine sdQ ?_);refine hK _ ?_;clear hK K;cases h;exact rn (s':=s18+1) hk18 (wkQ [])
  have g19:¬(s18<(f_.ob.length:Int)):=gQ;clear g;replace h:=if_r g19 h;refine Ql (tx (lx (bh ?_)));cases h;exact jn (b:=()) hk18 (wkQ [])
 intro b1 hb1;have h:=h1;try rw[←hb1]at h
 clear h1;try dsimp only at h
 refine Q0 (runQ hN λK hK=>?_);simp;repeat refine sdQ ?_
 refine hK _ (tn (Q2 (st':=⟨[(4,iV 0),(5,iV 0),(6,.val (.bool false))],[],0⟩) (wkQ []) (Qe ?_)));clear hK K;have hr:=yJ h;rw[←hr];refine⟨_,(.tmp (.tmp (.tmp .nil))),?_⟩;refine⟨(.one rfl rfl (.one rfl rfl (.one rfl rfl .nil))),[iV 0,iV 0,.val (.bool false)],[],by simp[BN],by simp,(yN _)⟩
attribute [local simp] unk unA unE unT unC flat eL eI Qc Q2i Qr Fn.cells XMonoidal.cells
def Q2I(m_:XMonoidal):Option (Bool×Int):=
 (QF m_).bind λv1=>
 if¬(v1=true)then
  some (false,1)
 else
  (Qo (σ:=Int) (ε:=Unit⊕(Bool×Int)) (λs17=>
   if s17<m_.on_.n then
    (
     (QU m_ s17).bind λv20=>
     (Qo (σ:=Int) (ε:=(Bool×Int)⊕Unit) (λs25=>
      if s25<m_.on_.n then
       (Qs v20 s25).bind λv27=>
       if¬(v27.2.2=true)then
        some (yM (yK (false,0)))
       else
        ass (B64 (s25+1))<|
        some (yO (s25+1))
      else
       some (yM (yL ()))) fuel 0).bind λe25=>
     match e25 with
     | .inl p25=>
      some (yL p25)
     | .inr p25=>
      some (yK p25):Option (Unit⊕(Bool×Int))).bind λe19=>
    match e19 with
    | .inl b19=>
     ass (B64 (s17+1))<|
     some (yO (s17+1))
    | .inr p19=>
     some (yM (yL p19))
   else
    some (yM (yK ()))) fuel 0).bind λe3=>
  match e3 with
  | .inl b3=>
   some (true,0)
  | .inr p3=>
   some p3
@[simp] abbrev Y2(a:XMonoidal)(b:Fn)(c:List (Nat×Ent)):List (Nat×Ent):=(0,.mix 8 [(XMonoidal.cells true a)])::(1,.mix 12 [[iV b.s.n,.own 2 0 b.s.fr.length,.own 3 0 b.s.to.length,.own 4 0 b.s.id.length,.own 5 0 b.s.cs.length,iV b.t.n,.own 6 0 b.t.fr.length,.own 7 0 b.t.to.length,.own 8 0 b.t.id.length,.own 9 0 b.t.cs.length,.own 10 0 b.ob.length,.own 11 0 b.ar.length]])::(2,rI b.s.fr)::(3,rI b.s.to)::(4,rI b.s.id)::(5,.row 1 (Ls b.s.cs))::(6,rI b.t.fr)::(7,rI b.t.to)::(8,rI b.t.id)::(9,.row 1 (Ls b.t.cs))::(10,rI b.ob)::(11,rI b.ar)::c
theorem Q83(m_:XMonoidal)(r:Bool×Int)(h:Q2I m_=some r):Contract Try.prog 25 [.agg (m_.cells true)] (.tup [.val (.bool r.1),iV r.2]):=by
 refine Q6 (rvs:=[.tmp 2,.tmp 3]) (rs:=[.val (.bool r.1),iV r.2]) Try.func25 rfl rfl rfl rfl (by simp[Try.f25]) λF hN hP=>?_;unfold Q2I at h;refine Q0 (runQ hN λK hK=>?_);simp;repeat refine sdQ ?_
 refine hK _ ?_;clear hK K;refine tn (Q2 (st':=⟨YY [],YC m_ [],1⟩) (wkQ [(0,0)]) (Q0 (Q0 (runQ hN λK hK=>?_))));simp;repeat with_reducible refine sdQ ?_
 replace⟨v1,hv1,h⟩:=bind_some h;refine Q3 (Q1G _ v1 hv1) (.cons (.field rfl (by simp[CN]) (.cons .val (.cons .lst (.cons .lst (.cons .lst (.cons .lst (.cons .val (.cons .lst (.cons .lst .nil))))))))) .nil) ?_;simp;repeat refine sdQ ?_
 refine hK _ ?_;clear hK K;refine tn (Q2 (st':=⟨YY [(11,.val (.bool (!v1)))],YC m_ [],1⟩) (wkQ [(0,0)]) (Q7 rfl (λg=>?_) λg=>?_))
 ·have g2:¬(v1=true):=gQ;clear g;replace h:=if_l g2 h;refine Q0 (runQ hN λK hK=>?_);simp;repeat refine sdQ ?_
  refine hK _ (tn (Q2 (st':=⟨YM [(3,iV 1)],[],0⟩) (wkQ []) (Qe (tr ?_))));clear hK K;have hr:=yJ h;rw[←hr];refine⟨_,(.tmp (.tmp .nil)),?_⟩;refine⟨(.one rfl rfl (.one rfl rfl .nil)),[.val (.bool false),iV 1],[],by simp[BN],by simp,(yN _)⟩
 have g2:¬(¬(v1=true)):=gQ;clear g;replace h:=if_r g2 h;refine Q8 (tn (Q0 (Q0 (runQ hN λK hK=>?_))));simp;repeat refine sdQ ?_
 refine hK _ (tn (Q2 (st':=⟨YY [(14,iV m_.on_.n),(15,iV 0)],YC m_ [],1⟩) (wkQ [(0,0)]) ?_));clear hK K;replace⟨e3,h,h3⟩:=bind_some h;refine Q9 (λb3:Unit=>⟨[],[],0⟩) (λb3=>yK b3=e3) ?_ ?_
 ·refine Q5 (Qj h (λs17:Int=>⟨YY [(14,iV m_.on_.n),(15,iV s17)],YC m_ [],1⟩) (wkQ [(0,0)]) ?_);clear h;intro k17 s17 c17 h hk17;refine Q0 (runQ hN λK hK=>?_);simp;repeat refine sdQ ?_
  refine hK _ ?_;clear hK K;refine tn (Q0 (Q7 rfl (λg=>?_) λg=>?_))
  ·have g18:s17<m_.on_.n:=gQ;clear g;replace h:=if_l g18 h;refine Q8 (tn (Q0 ?_));replace⟨e19,h,h19⟩:=bind_some h;refine Q9 (λb19:Unit=>⟨YY [(14,iV m_.on_.n),(15,iV s17)],YC m_ [],1⟩) (λb19=>yK b19=e19) ?_ ?_
   ·refine Q5 (Q0 (runQ hN λK hK=>?_));simp;(repeat refine sdQ ?_);refine hK _ ?_;clear hK K;refine tn (Q2 (st':=⟨YY [(4,iV s17),(14,iV m_.on_.n),(15,iV s17)],YC m_ [],1⟩) (wkQ [(0,0)]) (Q0 (runQ hN λK hK=>?_)));simp;(repeat with_reducible refine sdQ ?_);replace⟨v20,hv20,h⟩:=bind_some h;refine Q3 (Q29 _ _ v20 hv20) (.cons (.field rfl (by simp[CN]) (.cons .val (.cons .lst (.cons .lst (.cons .lst (.cons .lst (.cons .val (.cons .lst (.cons .lst .nil))))))))) (.cons .val .nil)) ?_;simp;(repeat refine sdQ ?_);refine hK _ ?_;clear hK K;refine tn (Q2 (st':=⟨YY [(5,.adr 1 0 0),(14,iV m_.on_.n),(15,iV s17)],Y2 m_ v20 [],12⟩) (wkQ [(0,0),(13,1),(2,2),(3,3),(4,4),(5,5),(7,6),(8,7),(9,8),(10,9),(11,10),(12,11)]) (Q0 (runQ hN λK hK=>?_)));simp;(repeat refine sdQ ?_);refine hK _ (tn (Q2 (st':=⟨YY [(5,.adr 1 0 0),(14,iV m_.on_.n),(15,iV s17),(22,iV m_.on_.n),(23,iV 0)],Y2 m_ v20 [],12⟩) (wkI 12) (Q5 ?_)));clear hK K;replace⟨e25,he25,h25⟩:=bind_some h;refine Qj he25 (λs25:Int=>⟨YY [(5,.adr 1 0 0),(14,iV m_.on_.n),(15,iV s17),(22,iV m_.on_.n),(23,iV s25)],Y2 m_ v20 [],12⟩) (wkI 12) ?_;intro k25 s25 c25 h hk25;refine Q0 (runQ hN λK hK=>?_);simp;(repeat refine sdQ ?_);refine hK _ (tn (Q0 ?_));clear hK K
    refine Q7 rfl (λg=>?_) λg=>?_
    ·have g26:s25<m_.on_.n:=gQ;clear g;replace h:=if_l g26 h;refine Q8 (tn (Q0 (Q5 (Q0 (runQ hN λK hK=>?_)))));simp;(repeat refine sdQ ?_);refine hK _ ?_;clear hK K;refine tn (Q2 (st':=⟨YY [(5,.adr 1 0 0),(6,iV s25),(14,iV m_.on_.n),(15,iV s17),(22,iV m_.on_.n),(23,iV s25)],Y2 m_ v20 [],12⟩) (wkI 12) (Q0 (runQ hN λK hK=>?_)));simp;(repeat with_reducible refine sdQ ?_);replace⟨v27,hv27,h⟩:=bind_some h;refine Q3 (Q1g _ _ v27 hv27) (.cons (.field rfl (by simp[CN]) (.cons .val (.cons .w (.cons .w (.cons .w (.cons .w (.cons .val (.cons .w (.cons .w (.cons .w (.cons .w (.cons .w (.cons .w .nil))))))))))))) (.cons .val .nil)) ?_;simp;(repeat refine sdQ ?_);refine hK _ ?_;clear hK K;refine tn (Q2 (st':=⟨YY [(5,.adr 1 0 0),(9,.val (.bool v27.2.2)),(14,iV m_.on_.n),(15,iV s17),(22,iV m_.on_.n),(23,iV s25)],Y2 m_ v20 [],12⟩) (wkI 12) (Q0 (runQ hN λK hK=>?_)));simp;(repeat refine sdQ ?_);refine hK _ ?_;clear hK K;refine tn (Q7 rfl (λg=>?_) λg=>?_)
     ·have g28:¬(v27.2.2=true):=gQ;clear g;replace h:=if_l g28 h;refine Q0 (runQ hN λK hK=>?_);simp;(repeat refine sdQ ?_);refine hK _ (tn (Q2 (st':=⟨YM [(3,iV 0)],[],0⟩) (wkQ []) (Qe (br (tr (lr (br (br (tr (lr (br (tr ?_))))))))))));clear hK K;cases h;have q:_=e25:=hk25;have h:=h25;rw[←q]at h;clear q;(try dsimp only at h);cases h;have h:=h19;(try dsimp only at h);cases h;have q:_=e3:=hk17;have h:=h3;rw[←q]at h;clear q;(try dsimp only at h);have hr:=yJ h;rw[←hr];refine⟨_,(.tmp (.tmp .nil)),?_⟩;refine⟨(.one rfl rfl (.one rfl rfl .nil)),[.val (.bool false),iV 0],[],by simp[BN],by simp,(yN _)⟩
     have g28:¬(¬(v27.2.2=true)):=gQ;clear g;replace h:=if_r g28 h;refine Q8 (bn (tn (runQ hN λK hK=>?_)));replace⟨a29,h⟩:=Q1 h;simp[Qh a29];(repeat refine sdQ ?_);refine hK _ ?_;clear hK K;cases h;exact rn (s':=s25+1) hk25 (wkI 12)
    have g26:¬(s25<m_.on_.n):=gQ;clear g;replace h:=if_r g26 h;refine Ql (tx (lx (bh (bn ?_))));cases h;have q:_=e25:=hk25;have h:=h25;rw[←q]at h;clear q;(try dsimp only at h);exact jn (b:=()) (yJ h) (wkQ [(0,0)])
   intro b19 hb19;have h:=h19;(try rw[←hb19]at h);clear h19;(try dsimp only at h);refine runQ hN λK hK=>?_;replace⟨a30,h⟩:=Q1 h;simp[Qh a30];(repeat refine sdQ ?_);refine hK _ ?_;clear hK K;cases h;exact rn (s':=s17+1) hk17 (wkQ [(0,0)])
  have g18:¬(s17<m_.on_.n):=gQ;clear g;replace h:=if_r g18 h;refine Ql (tx (lx (bh ?_)));cases h;exact jn (b:=()) hk17 (wkQ [])
 intro b3 hb3;have h:=h3;try rw[←hb3]at h
 clear h3;try dsimp only at h
 refine Q0 (runQ hN λK hK=>?_);simp;repeat refine sdQ ?_
 refine hK _ (tn (Q2 (st':=⟨Y0u [(3,iV 0)],[],0⟩) (wkQ []) (Qe ?_)));clear hK K;have hr:=yJ h;rw[←hr];refine⟨_,(.tmp (.tmp .nil)),?_⟩;refine⟨(.one rfl rfl (.one rfl rfl .nil)),[.val (.bool true),iV 0],[],by simp[BN],by simp,(yN _)⟩
attribute [local simp] unk unA unE unT unC flat eL eI Qc QS Q2i Cat.cells Fn.cells
def Q1B(f_:Fn)(y_:Int):Option (Int×Int×Bool):=
 (Qo (σ:=Int) (ε:=Unit⊕(Int×Int×Bool)) (λs20=>
  if s20<f_.s.n then
   (
    ass (0≤s20∧s20<(f_.ob.length:Int))<|
    (Q1U f_.t (ix f_.ob s20) y_).bind λv24=>
    (Qo (σ:=Int) (ε:=(Int×Int×Bool)⊕Unit) (λs31=>
     if s31<(v24.length:Int)then
      ass (0≤s31∧s31<(v24.length:Int))<|
      (Q1j f_ y_ s20 (ix v24 s31)).bind λv34=>
      if v34=true then
       ass (0≤s31∧s31<(v24.length:Int))<|
       some (yM (yK (s20,ix v24 s31,true)))
      else
       ass (B64 (s31+1))<|
       some (yO (s31+1))
     else
      some (yM (yL ()))) fuel 0).bind λe31=>
    match e31 with
    | .inl p31=>
     some (yL p31)
    | .inr p31=>
     some (yK p31):Option (Unit⊕(Int×Int×Bool))).bind λe22=>
   match e22 with
   | .inl b22=>
    ass (B64 (s20+1))<|
    some (yO (s20+1))
   | .inr p22=>
    some (yM (yL p22))
  else
   some (yM (yK ()))) fuel 0).bind λe1=>
 match e1 with
 | .inl b1=>
  some (0,0,false)
 | .inr p1=>
  some p1
theorem Q4A(f_:Fn)(y_:Int)(r:Int×Int×Bool)(h:Q1B f_ y_=some r):Contract Try.prog 60 [.agg (f_.cells true),iV y_] (.tup [iV r.1,iV r.2.1,.val (.bool r.2.2)]):=by
 refine Q6 (rvs:=[.tmp 4,.tmp 5,.tmp 6]) (rs:=[iV r.1,iV r.2.1,.val (.bool r.2.2)]) Try.func60 rfl rfl rfl rfl (by simp[Try.f60]) λF hN hP=>?_;unfold Q1B at h;refine Q0 (runQ hN λK hK=>?_);simp;repeat refine sdQ ?_
 refine hK _ ?_;clear hK K;refine tn (Q2 (st':=⟨(1,iV y_)::YA [],Yw f_ [],1⟩) (wkQ [(0,0)]) (Q0 (Q0 (runQ hN λK hK=>?_))));simp;repeat refine sdQ ?_
 refine hK _ (tn (Q2 (st':=⟨(1,iV y_)::YA [(7,iV 0)],Yw f_ [],1⟩) (wkQ [(0,0)]) ?_));clear hK K;replace⟨e1,h,h1⟩:=bind_some h;refine Q9 (λb1:Unit=>⟨[],[],0⟩) (λb1=>yK b1=e1) ?_ ?_
 ·refine Q5 (Qj h (λs20:Int=>⟨(1,iV y_)::YA [(7,iV s20)],Yw f_ [],1⟩) (wkQ [(0,0)]) ?_);clear h;intro k20 s20 c20 h hk20;refine Q0 (Q0 (runQ hN λK hK=>?_));simp;repeat refine sdQ ?_
  refine hK _ ?_;clear hK K;refine tn (Q7 rfl (λg=>?_) λg=>?_)
  ·have g21:s20<f_.s.n:=gQ;clear g;replace h:=if_l g21 h;refine Q8 (tn (Q0 ?_));replace⟨e22,h,h22⟩:=bind_some h;refine Q9 (λb22:Unit=>⟨(1,iV y_)::YA [(7,iV s20)],Yw f_ [],1⟩) (λb22=>yK b22=e22) ?_ ?_
   ·refine Q5 (Q0 (runQ hN λK hK=>?_));replace⟨a23,h⟩:=Q1 h;simp[at_I a23];(repeat with_reducible refine sdQ ?_);replace⟨v24,hv24,h⟩:=bind_some h;refine Q3 (Q4m _ _ _ v24 hv24) (.cons (.aggL (.cons .val (.cons .lst (.cons .lst (.cons .lst (.cons .lst .nil)))))) (.cons .val (.cons .val .nil))) ?_;simp[at_I a23];(repeat refine sdQ ?_);refine hK _ ?_;clear hK K;refine tn (Q2 (st':=⟨(1,iV y_)::YA [(7,iV s20),(8,.own 1 0 v24.length)],Yw f_ [(1,rI v24)],2⟩) (wkQ [(0,0),(1,1)]) (Q0 (runQ hN λK hK=>?_)));simp;(repeat refine sdQ ?_);refine hK _ (tn (Q2 (st':=⟨(1,iV y_)::YA [(7,iV s20),(8,.own 1 0 v24.length),(9,iV 0)],Yw f_ [(1,rI v24)],2⟩) (wkQ [(0,0),(1,1)]) (Q5 ?_)));clear hK K;replace⟨e31,he31,h31⟩:=bind_some h;refine Qj he31 (λs31:Int=>⟨(1,iV y_)::YA [(7,iV s20),(8,.own 1 0 v24.length),(9,iV s31)],Yw f_ [(1,rI v24)],2⟩) (wkQ [(0,0),(1,1)]) ?_;intro k31 s31 c31 h hk31;refine Q0 (Q0 (runQ hN λK hK=>?_));simp;(repeat refine sdQ ?_);refine hK _ ?_;clear hK K;refine tn (Q7 rfl (λg=>?_) λg=>?_)
    ·have g32:s31<(v24.length:Int):=gQ;clear g;replace h:=if_l g32 h;refine Q8 (tn (Q0 (Q5 (Q0 (runQ hN λK hK=>?_)))));replace⟨a33,h⟩:=Q1 h;simp[at_I a33];(repeat with_reducible refine sdQ ?_);replace⟨v34,hv34,h⟩:=bind_some h;refine Q3 (Q5y _ _ _ _ v34 hv34) (.cons (.aggL (.cons .val (.cons .lst (.cons .lst (.cons .lst (.cons .lst (.cons .val (.cons .lst (.cons .lst (.cons .lst (.cons .lst (.cons .lst (.cons .lst .nil))))))))))))) (.cons .val (.cons .val (.cons .val .nil)))) ?_;simp[at_I a33];(repeat refine sdQ ?_);refine hK _ ?_;clear hK K;refine tn (Q2 (st':=⟨(1,iV y_)::YA [(7,iV s20),(8,.own 1 0 v24.length),(9,iV s31),(39,.val (.bool v34))],Yw f_ [(1,rI v24)],2⟩) (wkQ [(0,0),(1,1)]) (Q7 rfl (λg=>?_) λg=>?_))
     ·have g35:v34=true:=gQ;clear g;replace h:=if_l g35 h;refine Q0 (runQ hN λK hK=>?_);replace⟨a36,h⟩:=Q1 h;simp[at_I a36];(repeat refine sdQ ?_);refine hK _ (tn (Q2 (st':=⟨[(4,iV s20),(5,iV (ix v24 s31)),(6,.val (.bool true))],[],0⟩) (wkQ []) (Qe (br (tr (lr (br (br (tr (lr (br (tr ?_))))))))))));clear hK K;cases h;have q:_=e31:=hk31;have h:=h31;rw[←q]at h;clear q;(try dsimp only at h);cases h;have h:=h22;(try dsimp only at h);cases h;have q:_=e1:=hk20;have h:=h1;rw[←q]at h;clear q;(try dsimp only at h);have hr:=yJ h;rw[←hr];refine⟨_,(.tmp (.tmp (.tmp .nil))),?_⟩;refine⟨(.one rfl rfl (.one rfl rfl (.one rfl rfl .nil))),[iV s20,iV (ix v24 s31),.val (.bool true)],[],by simp[BN],by simp,(yN _)⟩
     have g35:¬(v34=true):=gQ;clear g;replace h:=if_r g35 h;refine Q8 (bn (tn (runQ hN λK hK=>?_)));replace⟨a37,h⟩:=Q1 h;simp[Qh a37];(repeat refine sdQ ?_);refine hK _ ?_;clear hK K;cases h;exact rn (s':=s31+1) hk31 (wkQ [(0,0),(1,1)])
    have g32:¬(s31<(v24.length:Int)):=gQ;clear g;replace h:=if_r g32 h;refine Ql (tx (lx (bh (bn ?_))));cases h;have q:_=e31:=hk31;have h:=h31;rw[←q]at h;clear q;(try dsimp only at h);exact jn (b:=()) (yJ h) (wkQ [(0,0)])
   intro b22 hb22;have h:=h22;(try rw[←hb22]at h);clear h22;(try dsimp only at h);refine runQ hN λK hK=>?_;replace⟨a38,h⟩:=Q1 h;simp[Qh a38];(repeat refine sdQ ?_);refine hK _ ?_;clear hK K;cases h;exact rn (s':=s20+1) hk20 (wkQ [(0,0)])
  have g21:¬(s20<f_.s.n):=gQ;clear g;replace h:=if_r g21 h;refine Ql (tx (lx (bh ?_)));cases h;exact jn (b:=()) hk20 (wkQ [])
 intro b1 hb1;have h:=h1;try rw[←hb1]at h
 clear h1;try dsimp only at h
 refine Q0 (runQ hN λK hK=>?_);simp;repeat refine sdQ ?_
 refine hK _ (tn (Q2 (st':=⟨[(4,iV 0),(5,iV 0),(6,.val (.bool false))],[],0⟩) (wkQ []) (Qe ?_)));clear hK K;have hr:=yJ h;rw[←hr];refine⟨_,(.tmp (.tmp (.tmp .nil))),?_⟩;refine⟨(.one rfl rfl (.one rfl rfl (.one rfl rfl .nil))),[iV 0,iV 0,.val (.bool false)],[],by simp[BN],by simp,(yN _)⟩
attribute [local simp] unk unA unE unT unC flat eL eI Qc Q2i Qr Fn.cells XMonoidal.cells
def Q2K(m_:XMonoidal):Option (Bool×Int):=
 (Q3v m_).bind λv1=>
 if¬(v1=true)then
  some (false,1)
 else
  (Qo (σ:=Int) (ε:=Unit⊕(Bool×Int)) (λs17=>
   if s17<m_.on_.n then
    (
     (Q1C m_ s17).bind λv20=>
     (Qo (σ:=Int) (ε:=(Bool×Int)⊕Unit) (λs25=>
      if s25<m_.on_.n then
       (Q1B v20 s25).bind λv27=>
       if¬(v27.2.2=true)then
        some (yM (yK (false,0)))
       else
        ass (B64 (s25+1))<|
        some (yO (s25+1))
      else
       some (yM (yL ()))) fuel 0).bind λe25=>
     match e25 with
     | .inl p25=>
      some (yL p25)
     | .inr p25=>
      some (yK p25):Option (Unit⊕(Bool×Int))).bind λe19=>
    match e19 with
    | .inl b19=>
     ass (B64 (s17+1))<|
     some (yO (s17+1))
    | .inr p19=>
     some (yM (yL p19))
   else
    some (yM (yK ()))) fuel 0).bind λe3=>
  match e3 with
  | .inl b3=>
   some (true,0)
  | .inr p3=>
   some p3
theorem Q85(m_:XMonoidal)(r:Bool×Int)(h:Q2K m_=some r):Contract Try.prog 26 [.agg (m_.cells true)] (.tup [.val (.bool r.1),iV r.2]):=by
 refine Q6 (rvs:=[.tmp 2,.tmp 3]) (rs:=[.val (.bool r.1),iV r.2]) Try.func26 rfl rfl rfl rfl (by simp[Try.f26]) λF hN hP=>?_;unfold Q2K at h;refine Q0 (runQ hN λK hK=>?_);simp;repeat refine sdQ ?_
 refine hK _ ?_;clear hK K;refine tn (Q2 (st':=⟨YY [],YC m_ [],1⟩) (wkQ [(0,0)]) (Q0 (Q0 (runQ hN λK hK=>?_))));simp;repeat with_reducible refine sdQ ?_
 replace⟨v1,hv1,h⟩:=bind_some h;refine Q3 (Q87 _ v1 hv1) (.cons (.aggL (.cons .val (.cons .lst (.cons .lst (.cons .lst (.cons .lst (.cons .val (.cons .lst (.cons .lst .nil))))))))) .nil) ?_;simp;repeat refine sdQ ?_
 refine hK _ ?_;clear hK K;refine tn (Q2 (st':=⟨YY [(12,.val (.bool (!v1)))],YC m_ [],1⟩) (wkQ [(0,0)]) (Q7 rfl (λg=>?_) λg=>?_))
 ·have g2:¬(v1=true):=gQ;clear g;replace h:=if_l g2 h;refine Q0 (runQ hN λK hK=>?_);simp;repeat refine sdQ ?_
  refine hK _ (tn (Q2 (st':=⟨YM [(3,iV 1)],[],0⟩) (wkQ []) (Qe (tr ?_))));clear hK K;have hr:=yJ h;rw[←hr];refine⟨_,(.tmp (.tmp .nil)),?_⟩;refine⟨(.one rfl rfl (.one rfl rfl .nil)),[.val (.bool false),iV 1],[],by simp[BN],by simp,(yN _)⟩
 have g2:¬(¬(v1=true)):=gQ;clear g;replace h:=if_r g2 h;refine Q8 (tn (Q0 (Q0 (runQ hN λK hK=>?_))));simp;repeat refine sdQ ?_
 refine hK _ (tn (Q2 (st':=⟨YY [(4,iV 0)],YC m_ [],1⟩) (wkQ [(0,0)]) ?_));clear hK K;replace⟨e3,h,h3⟩:=bind_some h;refine Q9 (λb3:Unit=>⟨[],[],0⟩) (λb3=>yK b3=e3) ?_ ?_
 ·refine Q5 (Qj h (λs17:Int=>⟨YY [(4,iV s17)],YC m_ [],1⟩) (wkQ [(0,0)]) ?_);clear h;intro k17 s17 c17 h hk17;refine Q0 (Q0 (runQ hN λK hK=>?_));simp;repeat refine sdQ ?_
  refine hK _ ?_;clear hK K;refine tn (Q7 rfl (λg=>?_) λg=>?_)
  ·have g18:s17<m_.on_.n:=gQ;clear g;replace h:=if_l g18 h;refine Q8 (tn (Q0 ?_));replace⟨e19,h,h19⟩:=bind_some h;refine Q9 (λb19:Unit=>⟨YY [(4,iV s17)],YC m_ [],1⟩) (λb19=>yK b19=e19) ?_ ?_
   ·refine Q5 (Q0 (runQ hN λK hK=>?_));simp;(repeat with_reducible refine sdQ ?_);replace⟨v20,hv20,h⟩:=bind_some h;refine Q3 (Q3R _ _ v20 hv20) (.cons (.aggL (.cons .val (.cons .lst (.cons .lst (.cons .lst (.cons .lst (.cons .val (.cons .lst (.cons .lst .nil))))))))) (.cons .val .nil)) ?_;simp;(repeat refine sdQ ?_);refine hK _ ?_;clear hK K;refine tn (Q2 (st':=⟨YY [(4,iV s17),(5,.adr 1 0 0)],Y2 m_ v20 [],12⟩) (wkQ [(0,0),(13,1),(2,2),(3,3),(4,4),(5,5),(7,6),(8,7),(9,8),(10,9),(11,10),(12,11)]) (Q0 (runQ hN λK hK=>?_)));simp;(repeat refine sdQ ?_);refine hK _ (tn (Q2 (st':=⟨YY [(4,iV s17),(5,.adr 1 0 0),(6,iV 0)],Y2 m_ v20 [],12⟩) (wkI 12) (Q5 ?_)));clear hK K;replace⟨e25,he25,h25⟩:=bind_some h;refine Qj he25 (λs25:Int=>⟨YY [(4,iV s17),(5,.adr 1 0 0),(6,iV s25)],Y2 m_ v20 [],12⟩) (wkI 12) ?_;intro k25 s25 c25 h hk25;refine Q0 (Q0 (runQ hN λK hK=>?_));simp;(repeat refine sdQ ?_);refine hK _ ?_;clear hK K;refine tn (Q7 rfl (λg=>?_) λg=>?_)
    ·have g26:s25<m_.on_.n:=gQ;clear g;replace h:=if_l g26 h;refine Q8 (tn (Q0 (Q5 (Q0 (runQ hN λK hK=>?_)))));simp;(repeat with_reducible refine sdQ ?_);replace⟨v27,hv27,h⟩:=bind_some h;refine Q3 (Q4A _ _ v27 hv27) (.cons (.aggL (.cons .val (.cons .w (.cons .w (.cons .w (.cons .w (.cons .val (.cons .w (.cons .w (.cons .w (.cons .w (.cons .w (.cons .w .nil))))))))))))) (.cons .val .nil)) ?_;simp;(repeat refine sdQ ?_);refine hK _ ?_;clear hK K;refine tn (Q2 (st':=⟨YY [(4,iV s17),(5,.adr 1 0 0),(6,iV s25),(9,.val (.bool v27.2.2))],Y2 m_ v20 [],12⟩) (wkI 12) (Q0 (runQ hN λK hK=>?_)));simp;(repeat refine sdQ ?_);refine hK _ ?_;clear hK K;refine tn (Q7 rfl (λg=>?_) λg=>?_)
     ·have g28:¬(v27.2.2=true):=gQ;clear g;replace h:=if_l g28 h;refine Q0 (runQ hN λK hK=>?_);simp;(repeat refine sdQ ?_);refine hK _ (tn (Q2 (st':=⟨YM [(3,iV 0)],[],0⟩) (wkQ []) (Qe (br (tr (lr (br (br (tr (lr (br (tr ?_))))))))))));clear hK K;cases h;have q:_=e25:=hk25;have h:=h25;rw[←q]at h;clear q;(try dsimp only at h);cases h;have h:=h19;(try dsimp only at h);cases h;have q:_=e3:=hk17;have h:=h3;rw[←q]at h;clear q;(try dsimp only at h);have hr:=yJ h;rw[←hr];refine⟨_,(.tmp (.tmp .nil)),?_⟩;refine⟨(.one rfl rfl (.one rfl rfl .nil)),[.val (.bool false),iV 0],[],by simp[BN],by simp,(yN _)⟩
     have g28:¬(¬(v27.2.2=true)):=gQ;clear g;replace h:=if_r g28 h;refine Q8 (bn (tn (runQ hN λK hK=>?_)));replace⟨a29,h⟩:=Q1 h;simp[Qh a29];(repeat refine sdQ ?_);refine hK _ ?_;clear hK K;cases h;exact rn (s':=s25+1) hk25 (wkI 12)
    have g26:¬(s25<m_.on_.n):=gQ;clear g;replace h:=if_r g26 h;refine Ql (tx (lx (bh (bn ?_))));cases h;have q:_=e25:=hk25;have h:=h25;rw[←q]at h;clear q;(try dsimp only at h);exact jn (b:=()) (yJ h) (wkQ [(0,0)])
   intro b19 hb19;have h:=h19;(try rw[←hb19]at h);clear h19;(try dsimp only at h);refine runQ hN λK hK=>?_;replace⟨a30,h⟩:=Q1 h;simp[Qh a30];(repeat refine sdQ ?_);refine hK _ ?_;clear hK K;cases h;exact rn (s':=s17+1) hk17 (wkQ [(0,0)])
  have g18:¬(s17<m_.on_.n):=gQ;clear g;replace h:=if_r g18 h;refine Ql (tx (lx (bh ?_)));cases h;exact jn (b:=()) hk17 (wkQ [])
 intro b3 hb3;have h:=h3;try rw[←hb3]at h
 clear h3;try dsimp only at h
 refine Q0 (runQ hN λK hK=>?_);simp;repeat refine sdQ ?_
 refine hK _ (tn (Q2 (st':=⟨Y0u [(3,iV 0)],[],0⟩) (wkQ []) (Qe ?_)));clear hK K;have hr:=yJ h;rw[←hr];refine⟨_,(.tmp (.tmp .nil)),?_⟩;refine⟨(.one rfl rfl (.one rfl rfl .nil)),[.val (.bool true),iV 0],[],by simp[BN],by simp,(yN _)⟩
section
attribute [local simp] Qi QP Qv Q1l QN
def FQ(f:Fn)(y:Int)(r:Int×Int×Bool):Prop:=r.2.2=true→(0≤r.1∧r.1<f.s.n)∧Ar f.t r.2.1 (ix f.ob r.1) y∧UA f r.1 y r.2.1
theorem e_findU{f:Fn}(h:f.Is)(y:Int):∃r,Qs f y=some r∧Q1B f y=some r∧FQ f y r:=by
 have n:=h.s.nums;have nt:=h.t.nums;have hlo:=h.lo;unfold Qs Q1B;refine two_bind (Q:=λa b=>∃r,a=some r∧b=some r∧FQ f y r) (λa b=>a=b∧∀p,a=yL p→FQ f y p) f.ob.length (by omega) (λx hx=>?_) ⟨.inl (),.inl (),by rw[if_neg (by omega)],by rw[if_neg (by omega)],rfl,λp q=>by cases q⟩ ?_
 case refine_2=>
  rintro a b ⟨rfl,q⟩
  rcases a with a|p
  ·exact⟨(0,0,false),rfl,rfl,λz=>by cases z⟩
  exact⟨p,rfl,rfl,q p rfl⟩
 have o:=fn_ob h (x:=(x:Int)) (by omega);have hl:=Q7G f.t (ix f.ob x) y;have inner:=Q9b (ε:=(Int×Int×Bool)⊕Unit) (δ:=(Int×Int×Bool)⊕Unit)
  (b1:=λs28=>
    if s28<((hmL f.t (ix f.ob x) y).length:Int)then
     ass (0≤s28∧s28<((hmL f.t (ix f.ob x) y).length:Int))<|
     (QA f x (ix (hmL f.t (ix f.ob x) y) s28)).bind λv31=>
     if v31=true then
      some (yM (yK ((x:Int),ix (hmL f.t (ix f.ob x) y) s28,true)))
     else
      ass (B64 (s28+1))<|
      some (yO (s28+1))
    else
     some (yM (yL ())))
  (b2:=λs31=>
    if s31<((hmL f.t (ix f.ob x) y).length:Int)then
     ass (0≤s31∧s31<((hmL f.t (ix f.ob x) y).length:Int))<|
     (Q1j f y x (ix (hmL f.t (ix f.ob x) y) s31)).bind λv34=>
     if v34=true then
      ass (0≤s31∧s31<((hmL f.t (ix f.ob x) y).length:Int))<|
      some (yM (yK ((x:Int),ix (hmL f.t (ix f.ob x) y) s31,true)))
     else
      ass (B64 (s31+1))<|
      some (yO (s31+1))
    else
     some (yM (yL ())))
  (λa b=>a=b∧∀p,a=yK p→FQ f y p) (hmL f.t (ix f.ob x) y).length (by omega) (λi hi=>?_) ⟨.inr (),.inr (),by rw[if_neg (by omega)],by rw[if_neg (by omega)],rfl,λp q=>by cases q⟩
 ·obtain⟨a,b,e1,e2,rfl,q⟩:=inner;rcases a with p|a
  ·refine .inr ⟨.inr p,.inr p,?_,?_,rfl,λp' z=>by cases z;exact q p rfl⟩
   ·rw[if_pos (by omega),Q4 (by omega),(e_hm h.t _ _).1];simp only[yA];rw[e1];rfl
   rw[if_pos (by omega),Q4 (by omega),(e_hm h.t _ _).2];simp only[yA];rw[e2];rfl
  refine .inl ⟨?_,?_⟩
  ·rw[if_pos (by omega),Q4 (by omega),(e_hm h.t _ _).1];simp only[yA];rw[e1];simp only[yA];rw[Q4 (by unfold B64;omega)]
  rw[if_pos (by omega),Q4 (by omega),(e_hm h.t _ _).2];simp only[yA];rw[e2];simp only[yA];rw[Q4 (by unfold B64;omega)]
 have a:=hm_at hi
 by_cases q:UA f x y (ix (hmL f.t (ix f.ob x) y) i)
 ·refine .inr ⟨.inl ((x:Int),ix (hmL f.t (ix f.ob x) y) i,true),_,?_,?_,rfl,λp z=>by cases z;exact λ_=>⟨⟨by omega,by omega⟩,a,q⟩⟩
  ·rw[if_pos (by omega),Q4 (by omega),Q8Z h a,Qk q];rfl
  rw[if_pos (by omega),Q4 (by omega),e_univS h a,Qk q];simp only[yA,if_true];rw[Q4 (by omega)]
 refine .inl ⟨?_,?_⟩
 ·rw[if_pos (by omega),Q4 (by omega),Q8Z h a,Qd q];simp only[yA];rw[if_neg (by simp),Q4 (by unfold B64;omega)]
 rw[if_pos (by omega),Q4 (by omega),e_univS h a,Qd q];simp only[yA];rw[if_neg (by simp),Q4 (by unfold B64;omega)]
def fd(f:Fn)(y:Int):Int×Int×Bool:=(Q1B f y).getD (0,0,false)
theorem e_fd{f:Fn}(h:f.Is)(y:Int):Qs f y=some (fd f y)∧Q1B f y=some (fd f y)∧FQ f y (fd f y):=by
 obtain⟨r,h1,h2,h3⟩:=e_findU h y;have:fd f y=r:=by rw[fd,h2];rfl
 rw[this];exact⟨h1,h2,h3⟩
def Cls(m:XMonoidal):Prop:=∀y:Nat,y<m.on_.id.length→∀z:Nat,z<m.on_.id.length→(fd (tbF m y) z).2.2=true
theorem Q5B{m:XMonoidal}(h:m.Is):Q2I m=some (bo (Cls m),0)∧Q2K m=some (bo (Cls m),0):=by
 have n:=h.pre.c.nums;constructor
 ·unfold Q2I;rw[Q41,Qk h];simp only[yA];rw[if_neg (by simp)];refine chkI m.on_.id.length (λy=>∀z:Nat,z<m.on_.id.length→(fd (tbF m y) z).2.2=true) (yL (false,0)) (yK ()) (by omega) (λy hy=>?_) (by rw[if_neg (by omega)]) ?_
  ·rw[if_pos (by omega),(Q4b h (y:=(y:Int)) (by omega)).1];simp only[yA];rw[yV];have tb:=tb_is h (y:=(y:Int)) (by omega);refine chkI m.on_.id.length (λz=>(fd (tbF m y) z).2.2=true) (yK (false,0)) (yL ()) (by omega) (λz hz=>?_) (by rw[if_neg (by omega)]) ?_
   ·rw[if_pos (by omega),(e_fd tb z).1];simp only[yA]
    by_cases q:(fd (tbF m y) z).2.2=true
    ·rw[if_neg (QW q),Q4 (by unfold B64;omega),Qk q];rfl
    rw[if_pos q,Qd q];rfl
   by_cases q:∀z:Nat,z<m.on_.id.length→(fd (tbF m y) z).2.2=true
   ·rw[Qk q];simp only[if_true,yA];rw[Q4 (by unfold B64;omega)]
   rw[Qd q];rfl
  by_cases q:Cls m
  ·rw[Qk (show∀y:Nat,y<m.on_.id.length→∀z:Nat,z<m.on_.id.length→(fd (tbF m y) z).2.2=true from q),Qk q];rfl
  rw[Qd (show¬∀y:Nat,y<m.on_.id.length→∀z:Nat,z<m.on_.id.length→(fd (tbF m y) z).2.2=true from q),Qd q];rfl
 unfold Q2K;rw[e_l35Is,Qk h];simp only[yA];rw[if_neg (by simp)];refine chkI m.on_.id.length (λy=>∀z:Nat,z<m.on_.id.length→(fd (tbF m y) z).2.2=true) (yL (false,0)) (yK ()) (by omega) (λy hy=>?_) (by rw[if_neg (by omega)]) ?_
 ·rw[if_pos (by omega),(Q4b h (y:=(y:Int)) (by omega)).2];simp only[yA];rw[yV];have tb:=tb_is h (y:=(y:Int)) (by omega);refine chkI m.on_.id.length (λz=>(fd (tbF m y) z).2.2=true) (yK (false,0)) (yL ()) (by omega) (λz hz=>?_) (by rw[if_neg (by omega)]) ?_
  ·rw[if_pos (by omega),(e_fd tb z).2.1];simp only[yA]
   by_cases q:(fd (tbF m y) z).2.2=true
   ·rw[if_neg (QW q),Q4 (by unfold B64;omega),Qk q];rfl
   rw[if_pos q,Qd q];rfl
  by_cases q:∀z:Nat,z<m.on_.id.length→(fd (tbF m y) z).2.2=true
  ·rw[Qk q];simp only[if_true,yA];rw[Q4 (by unfold B64;omega)]
  rw[Qd q];rfl
 by_cases q:Cls m
 ·rw[Qk (show∀y:Nat,y<m.on_.id.length→∀z:Nat,z<m.on_.id.length→(fd (tbF m y) z).2.2=true from q),Qk q];rfl
 rw[Qd (show¬∀y:Nat,y<m.on_.id.length→∀z:Nat,z<m.on_.id.length→(fd (tbF m y) z).2.2=true from q),Qd q];rfl
end
attribute [local simp] unk unA unE unT unC flat eL eI Qc QS Q2i Cat.cells Fn.cells
def QZ(f_:Fn)(x_:Int)(z_:Int)(e_:Int)(want_:Int):Option Int:=
 (QR f_.s x_ z_).bind λv1=>
 (Qo (σ:=Int) (ε:=Unit⊕Int) (λs9=>
  if s9<(v1.length:Int)then
   ass (0≤s9∧s9<(v1.length:Int))<|
   ass (0≤ix v1 s9∧ix v1 s9<(f_.ar.length:Int))<|
   (Qq f_.t (ix f_.ar (ix v1 s9)) e_).bind λv13=>
   if v13=want_ then
    some (yM (yL (ix v1 s9)))
   else
    ass (B64 (s9+1))<|
    some (yO (s9+1))
  else
   some (yM (yK ()))) fuel 0).bind λe2=>
 match e2 with
 | .inl b2=>
  some (-1)
 | .inr p2=>
  some p2
theorem Q35(f_:Fn)(x_:Int)(z_:Int)(e_:Int)(want_:Int)(r:Int)(h:QZ f_ x_ z_ e_ want_=some r):Contract Try.prog 117 [.rptr (f_.cells true),iV x_,iV z_,iV e_,iV want_] (iV r):=by
 refine Q6 (rvs:=[.tmp 10]) (rs:=[iV r]) Try.func117 rfl rfl rfl rfl (by simp[Try.f117]) λF hN hP=>?_;unfold QZ at h;refine Q0 (runQ hN λK hK=>?_);simp;repeat refine sdQ ?_
 refine hK _ ?_;clear hK K;refine tn (Q2 (st':=⟨Yv f_ [(1,iV x_),(2,iV z_),(3,iV e_),(4,iV want_)],[],0⟩) (wkQ []) (Q0 (Q0 (runQ hN λK hK=>?_))));simp;repeat with_reducible refine sdQ ?_
 replace⟨v1,hv1,h⟩:=bind_some h;refine Q3 (Q22 _ _ _ v1 hv1) (.cons (.preT (by simp[CN])) (.cons .val (.cons .val .nil))) ?_;simp;repeat refine sdQ ?_
 refine hK _ (tn (Q2 (st':=⟨Yv f_ [(3,iV e_),(4,iV want_),(18,.own 0 0 v1.length),(19,iV (v1.length:Int)),(20,iV 0)],[(0,rI v1)],1⟩) (wkQ [(0,0)]) ?_));clear hK K;replace⟨e2,h,h2⟩:=bind_some h;refine Q9 (λb2:Unit=>⟨[],[],0⟩) (λb2=>yK b2=e2) ?_ ?_
 ·refine Q5 (Qj h (λs9:Int=>⟨Yv f_ [(3,iV e_),(4,iV want_),(18,.own 0 0 v1.length),(19,iV (v1.length:Int)),(20,iV s9)],[(0,rI v1)],1⟩) (wkQ [(0,0)]) ?_);clear h;intro k9 s9 c9 h hk9;refine Q0 (runQ hN λK hK=>?_);simp;repeat refine sdQ ?_
  refine hK _ ?_;clear hK K;refine tn (Q0 (Q7 rfl (λg=>?_) λg=>?_))
  ·have g10:s9<(v1.length:Int):=gQ;clear g;replace h:=if_l g10 h;refine Q8 (tn (Q0 (Q5 (Q0 (runQ hN λK hK=>?_)))));replace⟨a11,h⟩:=Q1 h;simp[at_I a11];(repeat refine sdQ ?_);refine hK _ ?_;clear hK K;refine tn (Q2 (st':=⟨Yv f_ [(3,iV e_),(4,iV want_),(12,iV (ix v1 s9)),(18,.own 0 0 v1.length),(19,iV (v1.length:Int)),(20,iV s9)],[(0,rI v1)],1⟩) (wkQ [(0,0)]) (Q0 (runQ hN λK hK=>?_)));replace⟨a12,h⟩:=Q1 h;simp[at_I a12];(repeat with_reducible refine sdQ ?_);replace⟨v13,hv13,h⟩:=bind_some h;refine Q3 (Q12 _ _ _ v13 hv13) (.cons (.preT (by simp[CN])) (.cons .val (.cons .val .nil))) ?_;simp[at_I a12];(repeat refine sdQ ?_);refine hK _ ?_;clear hK K;refine tn (Q2 (st':=⟨Yv f_ [(3,iV e_),(4,iV want_),(12,iV (ix v1 s9)),(18,.own 0 0 v1.length),(19,iV (v1.length:Int)),(20,iV s9),(37,.val (.bool (v13==want_)))],[(0,rI v1)],1⟩) (wkQ [(0,0)]) (Q7 rfl (λg=>?_) λg=>?_))
   ·have g14:v13=want_:=gQ;clear g;replace h:=if_l g14 h;refine Q0 (runQ hN λK hK=>?_);simp;(repeat refine sdQ ?_);refine hK _ (tn (Q2 (st':=⟨[(10,iV (ix v1 s9))],[],0⟩) (wkQ []) (Qe (br (tr (lr (br (tr ?_))))))));clear hK K;cases h;have q:_=e2:=hk9;have h:=h2;rw[←q]at h;clear q;(try dsimp only at h);have hr:=yJ h;rw[←hr];refine⟨_,(.tmp .nil),?_⟩;refine⟨(.one rfl rfl .nil),[iV (ix v1 s9)],[],by simp[BN],by simp,(yN _)⟩
   have g14:¬(v13=want_):=gQ;clear g;replace h:=if_r g14 h;refine Q8 (bn (tn (runQ hN λK hK=>?_)));replace⟨a15,h⟩:=Q1 h;simp[Qh a15];(repeat refine sdQ ?_);refine hK _ ?_;clear hK K;cases h;exact rn (s':=s9+1) hk9 (wkQ [(0,0)])
  have g10:¬(s9<(v1.length:Int)):=gQ;clear g;replace h:=if_r g10 h;refine Ql (tx (lx (bh ?_)));cases h;exact jn (b:=()) hk9 (wkQ [])
 intro b2 hb2;have h:=h2;try rw[←hb2]at h
 clear h2;try dsimp only at h
 refine Q0 (runQ hN λK hK=>?_);simp;repeat refine sdQ ?_
 refine hK _ (tn (Q2 (st':=⟨[(10,iV (-1))],[],0⟩) (wkQ []) (Qe ?_)));clear hK K;have hr:=yJ h;rw[←hr];refine⟨_,(.tmp .nil),?_⟩;refine⟨(.one rfl rfl .nil),[iV (-1)],[],by simp[BN],by simp,(yN _)⟩
attribute [local simp] unk unA unE unT unC flat eL eI Qc Q5M QS Q2i Adj.cells Cat.cells Fn.cells
def QV(f_:Fn):Option (Adj×Bool):=
 (Qo (σ:=List Int×List Int×Int) (ε:=(List Int×List Int)⊕(Adj×Bool)) (λs8=>
  if s8.2.2<f_.t.n then
   (Qs f_ s8.2.2).bind λv10=>
   if¬(v10.2.2=true)then
    some (yM (yL ((⟨(⟨(⟨0,[],[],[],[]⟩:Cat),(⟨0,[],[],[],[]⟩:Cat),[],[]⟩:Fn),(⟨(⟨0,[],[],[],[]⟩:Cat),(⟨0,[],[],[],[]⟩:Cat),[],[]⟩:Fn),[],[]⟩:Adj),false)))
   else
    ass ((s8.1++[v10.1]).length≤1073741824)<|
    ass ((s8.2.1++[v10.2.1]).length≤1073741824)<|
    ass (B64 (s8.2.2+1))<|
    some (yO (s8.1++[v10.1],s8.2.1++[v10.2.1],s8.2.2+1))
  else
   some (yM (yK (s8.1,s8.2.1)))) fuel ([],[],0)).bind λe1=>
 match e1 with
 | .inl b1=>
  (Qo (σ:=List Int×Int) (ε:=List Int) (λs27=>
   if s27.2<(f_.t.fr.length:Int)then
    ass (0≤s27.2∧s27.2<(f_.t.fr.length:Int))<|
    ass (0≤s27.2∧s27.2<(f_.t.to.length:Int))<|
    ass (0≤ix f_.t.fr s27.2∧ix f_.t.fr s27.2<(b1.1.length:Int))<|
    ass (0≤ix f_.t.to s27.2∧ix f_.t.to s27.2<(b1.1.length:Int))<|
    ass (0≤ix f_.t.to s27.2∧ix f_.t.to s27.2<(b1.2.length:Int))<|
    ass (0≤ix f_.t.fr s27.2∧ix f_.t.fr s27.2<(b1.2.length:Int))<|
    (Qq f_.t (ix b1.2 (ix f_.t.fr s27.2)) s27.2).bind λv35=>
    (QZ f_ (ix b1.1 (ix f_.t.fr s27.2)) (ix b1.1 (ix f_.t.to s27.2)) (ix b1.2 (ix f_.t.to s27.2)) v35).bind λv36=>
    ass ((s27.1++[v36]).length≤1073741824)<|
    ass (B64 (s27.2+1))<|
    some (yO (s27.1++[v36],s27.2+1))
   else
    some (yM s27.1)) fuel ([],0)).bind λb15=>
  (Qo (σ:=List Int×Int) (ε:=List Int) (λs48=>
   if s48.2<(f_.ob.length:Int)then
    ass (0≤s48.2∧s48.2<(f_.ob.length:Int))<|
    ass (0≤ix f_.ob s48.2∧ix f_.ob s48.2<(b1.1.length:Int))<|
    ass (0≤ix f_.ob s48.2∧ix f_.ob s48.2<(b1.2.length:Int))<|
    ass (0≤ix f_.ob s48.2∧ix f_.ob s48.2<(f_.t.id.length:Int))<|
    (QZ f_ s48.2 (ix b1.1 (ix f_.ob s48.2)) (ix b1.2 (ix f_.ob s48.2)) (ix f_.t.id (ix f_.ob s48.2))).bind λv54=>
    ass ((s48.1++[v54]).length≤1073741824)<|
    ass (B64 (s48.2+1))<|
    some (yO (s48.1++[v54],s48.2+1))
   else
    some (yM s48.1)) fuel ([],0)).bind λb39=>
  (Q26 f_.t f_.s b1.1 b15).bind λv57=>
  (Q2C f_ v57 b39 b1.2).bind λv58=>
  some (v58,true)
 | .inr p1=>
  some p1
@[simp] abbrev Y3(a:Fn)(b:List (Nat×AV)):List (Nat×AV):=(0,.rptr (Fn.cells true a))::(2,.adr 0 0 0)::(4,.rptr (Fn.cells true a))::(5,.rptr (Y0R a []))::b
@[simp] abbrev Yz(a:List Int×List Int)(b:List (Nat×AV)):List (Nat×AV):=(6,.own 1 0 a.1.length)::(7,.own 2 0 a.2.length)::b
@[simp] abbrev Y0l(a:List Int×List Int)(b:List (Nat×Ent)):List (Nat×Ent):=(1,rI a.1)::(2,rI a.2)::b
@[simp] abbrev Y0A(a:Fn)(b:List (Nat×AV)):List (Nat×AV):=(106,lI a.ob)::(107,iV (a.ob.length:Int))::b
theorem Q3A(f_:Fn)(r:Adj×Bool)(h:QV f_=some r):Contract Try.prog 64 [.rptr (f_.cells true)] (.tup [.agg (r.1.cells true),.val (.bool r.2)]):=by
 refine Q6 (rvs:=[.cell 2 57,.tmp 3]) (rs:=[.agg (r.1.cells true),.val (.bool r.2)]) Try.func64 rfl rfl rfl rfl (by simp[Try.f64]) λF hN hP=>?_;unfold QV at h;refine Q0 (runQ hN λK hK=>?_);simp;repeat refine sdQ ?_
 refine hK _ ?_;clear hK K;refine tn (Q2 (st':=⟨Yv f_ (YA []),Y4 [],1⟩) (wkQ [(0,0)]) (Q0 (runQ hN λK hK=>?_)));simp;repeat refine sdQ ?_
 refine hK _ ?_;clear hK K;refine tn (Q2 (st':=⟨Y3 f_ [],Y4 [],1⟩) (wkQ [(0,0)]) (Q0 (runQ hN λK hK=>?_)));simp;repeat refine sdQ ?_
 refine hK _ ?_;clear hK K;refine tn (Q2 (st':=⟨Y3 f_ [(6,.own 1 0 0),(7,.own 2 0 0)],Y4 [(1,.mix 1 []),(2,.mix 1 [])],3⟩) (wkI 3) (Q0 (Q0 (runQ hN λK hK=>?_))));simp;repeat refine sdQ ?_
 refine hK _ (tn (Q2 (st':=⟨Y3 f_ [(6,.own 1 0 0),(7,.own 2 0 0),(8,iV 0)],Y4 [(1,.mix 1 []),(2,.mix 1 [])],3⟩) (wkI 3) ?_));clear hK K;replace⟨e1,h,h1⟩:=bind_some h;refine Q9 (λb1:List Int×List Int=>⟨Y3 f_ (Yz b1 []),Y4 (Y0l b1 []),3⟩) (λb1=>yK b1=e1) ?_ ?_
 ·refine Q5 (Qj h (λs8:List Int×List Int×Int=>⟨Y3 f_ [(6,.own 1 0 s8.1.length),(7,.own 2 0 s8.2.1.length),(8,iV s8.2.2)],Y4 [(1,rI s8.1),(2,rI s8.2.1)],3⟩) (Q2Y ⟨Y3 f_ [(6,.own 1 0 0),(7,.own 2 0 0),(8,iV 0)],Y4 [(1,rI []),(2,rI [])],3⟩ (nlQ []) (wkI 3)) ?_);clear h;intro k8 s8 c8 h hk8;refine Q0 (Q0 (runQ hN λK hK=>?_));simp;repeat refine sdQ ?_
  refine hK _ ?_;clear hK K;refine tn (Q7 rfl (λg=>?_) λg=>?_)
  ·have g9:s8.2.2<f_.t.n:=gQ;clear g;replace h:=if_l g9 h;refine Q8 (tn (Q0 (Q5 (Q0 (runQ hN λK hK=>?_)))));simp;(repeat with_reducible refine sdQ ?_);replace⟨v10,hv10,h⟩:=bind_some h;refine Q3 (Q1g _ _ v10 hv10) (.cons (.preT (by simp[CN])) (.cons .val .nil)) ?_;simp;(repeat refine sdQ ?_);refine hK _ ?_;clear hK K;refine tn (Q2 (st':=⟨Y3 f_ [(6,.own 1 0 s8.1.length),(7,.own 2 0 s8.2.1.length),(8,iV s8.2.2),(9,iV v10.1),(10,iV v10.2.1),(11,.val (.bool v10.2.2))],Y4 [(1,rI s8.1),(2,rI s8.2.1)],3⟩) (wkI 3) (Q0 (Q0 (runQ hN λK hK=>?_))));simp;(repeat refine sdQ ?_);refine hK _ ?_;clear hK K;refine tn (Q7 rfl (λg=>?_) λg=>?_)
   ·have g11:¬(v10.2.2=true):=gQ;clear g;replace h:=if_l g11 h;refine Q0 (runQ hN λK hK=>?_);simp;(repeat refine sdQ ?_);refine hK _ (tn (Q2 (st':=⟨YA [(3,.val (.bool false))],Y4 [],1⟩) (wkQ [(0,0)]) (Qe (tr (br (tr (lr (br (tr ?_)))))))));clear hK K;cases h;have q:_=e1:=hk8;have h:=h1;rw[←q]at h;clear q;(try dsimp only at h);have hr:=yJ h;rw[←hr];refine⟨_,(.cell Q69 rfl rfl rfl (by simp) (by simp) (.tmp .nil)),?_⟩;refine⟨(.agg rfl (.one rfl rfl .nil)),[iV 0,nS,nS,nS,nS,iV 0,nS,nS,nS,nS,nS,nS,iV 0,nS,nS,nS,nS,iV 0,nS,nS,nS,nS,nS,nS,nS,nS,.val (.bool false)],[],by simp[BN],by simp,(.cons .refl (.cons .nil (.cons .nil (.cons .nil (.cons .nil (.cons .refl (.cons .nil (.cons .nil (.cons .nil (.cons .nil (.cons .nil (.cons .nil (.cons .refl (.cons .nil (.cons .nil (.cons .nil (.cons .nil (.cons .refl (.cons .nil (.cons .nil (.cons .nil (.cons .nil (.cons .nil (.cons .nil (.cons .nil (.cons .nil (.cons .refl .nil)))))))))))))))))))))))))))⟩
   have g11:¬(¬(v10.2.2=true)):=gQ;clear g;replace h:=if_r g11 h;refine Q8 (tn (Q0 (runQ hN λK hK=>?_)));replace⟨a12,h⟩:=Q1 h;(try simp only[qD,qH,zX]at a12);simp[a12];(repeat refine sdQ ?_);refine hK _ ?_;clear hK K;refine tn (Q2 (st':=⟨Y3 f_ [(6,.own 1 0 ((s8.1++[v10.1]).length)),(7,.own 2 0 s8.2.1.length),(8,iV s8.2.2),(10,iV v10.2.1)],Y4 [(1,rI (s8.1++[v10.1])),(2,rI s8.2.1)],3⟩) (wkQ [(0,0),(4,1),(2,2)]) (runQ hN λK hK=>?_));replace⟨a13,h⟩:=Q1 h;(try simp only[qD,qH,zX]at a13);simp[a13];(repeat refine sdQ ?_);refine hK _ ?_;clear hK K;refine bn (tn (Q2 (st':=⟨Y3 f_ [(6,.own 1 0 ((s8.1++[v10.1]).length)),(7,.own 2 0 ((s8.2.1++[v10.2.1]).length)),(8,iV s8.2.2)],Y4 [(1,rI (s8.1++[v10.1])),(2,rI (s8.2.1++[v10.2.1]))],3⟩) (wkQ [(0,0),(1,1),(4,2)]) (runQ hN λK hK=>?_)));replace⟨a14,h⟩:=Q1 h;simp[Qh a14];(repeat refine sdQ ?_);refine hK _ ?_;clear hK K;cases h;exact rn (s':=(s8.1++[v10.1],s8.2.1++[v10.2.1],s8.2.2+1)) hk8 (wkI 3)
  have g9:¬(s8.2.2<f_.t.n):=gQ;clear g;replace h:=if_r g9 h;refine Ql (tx (lx (bh ?_)));cases h;exact jn (b:=(s8.1,s8.2.1)) hk8 (wkI 3)
 intro b1 hb1;have h:=h1;try rw[←hb1]at h
 clear h1;try dsimp only at h
 refine Q0 (runQ hN λK hK=>?_);simp;repeat refine sdQ ?_
 refine hK _ ?_;clear hK K;refine tn (Q2 (st':=⟨Y3 f_ (Yz b1 [(12,.own 3 0 0)]),Y4 (Y0l b1 [(3,.mix 1 [])]),4⟩) (wkI 4) (Q0 (Q0 (runQ hN λK hK=>?_))));simp;repeat refine sdQ ?_
 refine hK _ (tn (Q2 (st':=⟨Y3 f_ (Yz b1 [(12,.own 3 0 0),(59,iV (f_.t.fr.length:Int)),(60,iV 0)]),Y4 (Y0l b1 [(3,.mix 1 [])]),4⟩) (wkI 4) ?_));clear hK K;replace⟨e15,h,h15⟩:=bind_some h;refine Q9 (λb15:List Int=>⟨Y3 f_ (Yz b1 [(12,.own 3 0 b15.length)]),Y4 (Y0l b1 [(3,rI b15)]),4⟩) (λb15=>b15=e15) ?_ ?_
 ·refine Q5 (Qj h (λs27:List Int×Int=>⟨Y3 f_ (Yz b1 [(12,.own 3 0 s27.1.length),(59,iV (f_.t.fr.length:Int)),(60,iV s27.2)]),Y4 (Y0l b1 [(3,rI s27.1)]),4⟩) (Q2Y ⟨Y3 f_ (Yz b1 [(12,.own 3 0 0),(59,iV (f_.t.fr.length:Int)),(60,iV 0)]),Y4 (Y0l b1 [(3,rI [])]),4⟩ (nlQ []) (wkI 4)) ?_);clear h;intro k27 s27 c27 h hk27;refine Q0 (runQ hN λK hK=>?_);simp;repeat refine sdQ ?_
  refine hK _ ?_;clear hK K;refine tn (Q0 (Q7 rfl (λg=>?_) λg=>?_))
  ·have g28:s27.2<(f_.t.fr.length:Int):=gQ;clear g;replace h:=if_l g28 h;refine Q8 (tn (Q0 (Q5 (Q0 (runQ hN λK hK=>?_)))));simp;(repeat refine sdQ ?_);refine hK _ ?_;clear hK K;refine tn (Q2 (st':=⟨Y3 f_ (Yz b1 [(12,.own 3 0 s27.1.length),(13,iV s27.2),(59,iV (f_.t.fr.length:Int)),(60,iV s27.2)]),Y4 (Y0l b1 [(3,rI s27.1)]),4⟩) (wkI 4) (Q0 (runQ hN λK hK=>?_)));replace⟨a29,h⟩:=Q1 h;replace⟨a30,h⟩:=Q1 h;simp[at_I a29,at_I a30];(repeat refine sdQ ?_);refine hK _ ?_;clear hK K;refine tn (Q2 (st':=⟨Y3 f_ (Yz b1 [(12,.own 3 0 s27.1.length),(13,iV s27.2),(14,iV (ix f_.t.fr s27.2)),(15,iV (ix f_.t.to s27.2)),(59,iV (f_.t.fr.length:Int)),(60,iV s27.2)]),Y4 (Y0l b1 [(3,rI s27.1)]),4⟩) (wkI 4) (runQ hN λK hK=>?_));replace⟨a31,h⟩:=Q1 h;replace⟨a32,h⟩:=Q1 h;replace⟨a33,h⟩:=Q1 h;replace⟨a34,h⟩:=Q1 h;simp[at_I a31,at_I a32,at_I a33,at_I a34];(repeat with_reducible refine sdQ ?_);replace⟨v35,hv35,h⟩:=bind_some h;refine Q3 (Q12 _ _ _ v35 hv35) (.cons (.preT (by simp[CN])) (.cons .val (.cons .val .nil))) ?_;simp[at_I a31,at_I a32,at_I a33,at_I a34];(repeat with_reducible refine sdQ ?_);replace⟨v36,hv36,h⟩:=bind_some h;refine Q3 (Q35 _ _ _ _ _ v36 hv36) (.cons (.preT (by simp[CN])) (.cons .val (.cons .val (.cons .val (.cons .val .nil))))) ?_;replace⟨a37,h⟩:=Q1 h;(try simp only[qD,qH,zX]at a37);simp[at_I a31,at_I a32,at_I a33,at_I a34,a37];(repeat refine sdQ ?_);refine hK _ ?_;clear hK K;refine bn (tn (Q2 (st':=⟨Y3 f_ (Yz b1 [(12,.own 3 0 ((s27.1++[v36]).length)),(59,iV (f_.t.fr.length:Int)),(60,iV s27.2)]),Y4 (Y0l b1 [(3,rI (s27.1++[v36]))]),4⟩) (wkQ [(0,0),(1,1),(2,2),(11,3)]) (runQ hN λK hK=>?_)));replace h:=Q1 h
   obtain⟨a38,h⟩:=h;simp[Qh a38];(repeat refine sdQ ?_);refine hK _ ?_;clear hK K;cases h;exact rn (s':=(s27.1++[v36],s27.2+1)) hk27 (wkI 4)
  have g28:¬(s27.2<(f_.t.fr.length:Int)):=gQ;clear g;replace h:=if_r g28 h;refine Ql (tx (lx (bh ?_)));cases h;exact jn (b:=s27.1) hk27 (wkI 4)
 intro b15 hb15;have h:=h15;try rw[←hb15]at h
 clear h15;try dsimp only at h
 refine Q0 (runQ hN λK hK=>?_);simp;repeat refine sdQ ?_
 refine hK _ ?_;clear hK K;refine tn (Q2 (st':=⟨Y3 f_ (Yz b1 [(12,.own 3 0 b15.length),(16,.own 4 0 0)]),Y4 (Y0l b1 [(3,rI b15),(4,.mix 1 [])]),5⟩) (wkI 5) (Q0 (Q0 (runQ hN λK hK=>?_))));simp;repeat refine sdQ ?_
 refine hK _ (tn (Q2 (st':=⟨Y3 f_ (Yz b1 ((12,.own 3 0 b15.length)::(16,.own 4 0 0)::Y0A f_ [(108,iV 0)])),Y4 (Y0l b1 [(3,rI b15),(4,.mix 1 [])]),5⟩) (wkI 5) ?_));clear hK K;replace⟨e39,h,h39⟩:=bind_some h;refine Q9 (λb39:List Int=>⟨Y3 f_ (Yz b1 [(12,.own 3 0 b15.length),(16,.own 4 0 b39.length)]),Y4 (Y0l b1 [(3,rI b15),(4,rI b39)]),5⟩) (λb39=>b39=e39) ?_ ?_
 ·refine Q5 (Qj h (λs48:List Int×Int=>⟨Y3 f_ (Yz b1 ((12,.own 3 0 b15.length)::(16,.own 4 0 s48.1.length)::Y0A f_ [(108,iV s48.2)])),Y4 (Y0l b1 [(3,rI b15),(4,rI s48.1)]),5⟩) (Q2Y ⟨Y3 f_ (Yz b1 ((12,.own 3 0 b15.length)::(16,.own 4 0 0)::Y0A f_ [(108,iV 0)])),Y4 (Y0l b1 [(3,rI b15),(4,rI [])]),5⟩ (nlQ []) (wkI 5)) ?_);clear h;intro k48 s48 c48 h hk48;refine Q0 (runQ hN λK hK=>?_);simp;repeat refine sdQ ?_
  refine hK _ ?_;clear hK K;refine tn (Q0 (Q7 rfl (λg=>?_) λg=>?_))
  ·have g49:s48.2<(f_.ob.length:Int):=gQ;clear g;replace h:=if_l g49 h;refine Q8 (tn (Q0 (Q5 (Q0 (runQ hN λK hK=>?_)))));replace⟨a50,h⟩:=Q1 h;simp[at_I a50];(repeat refine sdQ ?_);refine hK _ ?_;clear hK K;refine tn (Q2 (st':=⟨Y3 f_ (Yz b1 ((12,.own 3 0 b15.length)::(16,.own 4 0 s48.1.length)::(17,iV s48.2)::(18,iV (ix f_.ob s48.2))::Y0A f_ [(108,iV s48.2)])),Y4 (Y0l b1 [(3,rI b15),(4,rI s48.1)]),5⟩) (wkI 5) (runQ hN λK hK=>?_));replace⟨a51,h⟩:=Q1 h;replace⟨a52,h⟩:=Q1 h;replace⟨a53,h⟩:=Q1 h;simp[at_I a51,at_I a52,at_I a53];(repeat with_reducible refine sdQ ?_);replace⟨v54,hv54,h⟩:=bind_some h;refine Q3 (Q35 _ _ _ _ _ v54 hv54) (.cons (.preT (by simp[CN])) (.cons .val (.cons .val (.cons .val (.cons .val .nil))))) ?_;replace⟨a55,h⟩:=Q1 h;(try simp only[qD,qH,zX]at a55);simp[at_I a51,at_I a52,at_I a53,a55];(repeat refine sdQ ?_);refine hK _ ?_;clear hK K;refine bn (tn (Q2 (st':=⟨Y3 f_ (Yz b1 ((12,.own 3 0 b15.length)::(16,.own 4 0 ((s48.1++[v54]).length))::Y0A f_ [(108,iV s48.2)])),Y4 (Y0l b1 [(3,rI b15),(4,rI (s48.1++[v54]))]),5⟩) (wkQ [(0,0),(1,1),(2,2),(3,3),(9,4)]) (runQ hN λK hK=>?_)));replace⟨a56,h⟩:=Q1 h;simp[Qh a56];(repeat refine sdQ ?_);refine hK _ ?_;clear hK K;cases h;exact rn (s':=(s48.1++[v54],s48.2+1)) hk48 (wkI 5)
  have g49:¬(s48.2<(f_.ob.length:Int)):=gQ;clear g;replace h:=if_r g49 h;refine Ql (tx (lx (bh ?_)));cases h;exact jn (b:=s48.1) hk48 (wkI 5)
 intro b39 hb39;have h:=h39;try rw[←hb39]at h
 clear h39;try dsimp only at h
 refine Q0 (runQ hN λK hK=>?_);simp;repeat with_reducible refine sdQ ?_
 replace⟨v57,hv57,h⟩:=bind_some h;refine Q3 (Q4x _ _ _ _ v57 hv57) (.cons (.preT (by simp[CN])) (.cons (.preT (by simp[CN])) (.cons .w (.cons .w .nil)))) ?_;simp;repeat refine sdQ ?_
 refine hK _ ?_;clear hK K;refine tn (Q2 (st':=⟨Yv f_ (YA [(7,.own 1 0 b1.2.length),(16,.own 2 0 b39.length),(19,.adr 3 0 0)]),Y4 [(1,rI b1.2),(2,rI b39),(3,.mix 12 [[iV v57.s.n,.own 4 0 v57.s.fr.length,.own 5 0 v57.s.to.length,.own 6 0 v57.s.id.length,.own 7 0 v57.s.cs.length,iV v57.t.n,.own 8 0 v57.t.fr.length,.own 9 0 v57.t.to.length,.own 10 0 v57.t.id.length,.own 11 0 v57.t.cs.length,.own 12 0 v57.ob.length,.own 13 0 v57.ar.length]]),(4,rI v57.s.fr),(5,rI v57.s.to),(6,rI v57.s.id),(7,.row 1 (Ls v57.s.cs)),(8,rI v57.t.fr),(9,rI v57.t.to),(10,rI v57.t.id),(11,.row 1 (Ls v57.t.cs)),(12,rI v57.ob),(13,rI v57.ar)],14⟩) (wkQ [(0,0),(2,1),(4,2),(17,3),(6,4),(7,5),(8,6),(9,7),(11,8),(12,9),(13,10),(14,11),(15,12),(16,13)]) (Q0 (runQ hN λK hK=>?_)));simp;repeat with_reducible refine sdQ ?_
 replace⟨v58,hv58,h⟩:=bind_some h;refine Q3 (Q6n _ _ _ _ v58 hv58) (.cons (.preT (by simp[CN])) (.cons (.field rfl (by simp[CN]) (.cons .val (.cons .w (.cons .w (.cons .w (.cons .w (.cons .val (.cons .w (.cons .w (.cons .w (.cons .w (.cons .w (.cons .w .nil))))))))))))) (.cons .w (.cons .w .nil)))) ?_;simp;repeat refine sdQ ?_
 refine hK _ (tn (Q2 (st':=⟨YA [(3,.val (.bool true))],[(0,.mix 26 [[iV v58.l.s.n,.own 1 0 v58.l.s.fr.length,.own 2 0 v58.l.s.to.length,.own 3 0 v58.l.s.id.length,.own 4 0 v58.l.s.cs.length,iV v58.l.t.n,.own 5 0 v58.l.t.fr.length,.own 6 0 v58.l.t.to.length,.own 7 0 v58.l.t.id.length,.own 8 0 v58.l.t.cs.length,.own 9 0 v58.l.ob.length,.own 10 0 v58.l.ar.length,iV v58.r.s.n,.own 11 0 v58.r.s.fr.length,.own 12 0 v58.r.s.to.length,.own 13 0 v58.r.s.id.length,.own 14 0 v58.r.s.cs.length,iV v58.r.t.n,.own 15 0 v58.r.t.fr.length,.own 16 0 v58.r.t.to.length,.own 17 0 v58.r.t.id.length,.own 18 0 v58.r.t.cs.length,.own 19 0 v58.r.ob.length,.own 20 0 v58.r.ar.length,.own 21 0 v58.u.length,.own 22 0 v58.k.length]]),(1,rI v58.l.s.fr),(2,rI v58.l.s.to),(3,rI v58.l.s.id),(4,.row 1 (Ls v58.l.s.cs)),(5,rI v58.l.t.fr),(6,rI v58.l.t.to),(7,rI v58.l.t.id),(8,.row 1 (Ls v58.l.t.cs)),(9,rI v58.l.ob),(10,rI v58.l.ar),(11,rI v58.r.s.fr),(12,rI v58.r.s.to),(13,rI v58.r.s.id),(14,.row 1 (Ls v58.r.s.cs)),(15,rI v58.r.t.fr),(16,rI v58.r.t.to),(17,rI v58.r.t.id),(18,.row 1 (Ls v58.r.t.cs)),(19,rI v58.r.ob),(20,rI v58.r.ar),(21,rI v58.u),(22,rI v58.k)],23⟩) (wkQ [(0,0),(15,1),(16,2),(17,3),(18,4),(20,5),(21,6),(22,7),(23,8),(24,9),(25,10),(27,11),(28,12),(29,13),(30,14),(32,15),(33,16),(34,17),(35,18),(36,19),(37,20),(38,21),(39,22)]) (Qe ?_)));clear hK K;have hr:=yJ h;rw[←hr];refine⟨_,(.cell Q69 rfl rfl rfl (by simp) (by simp) (.tmp .nil)),?_⟩;refine⟨(.agg rfl (.one rfl rfl .nil)),[iV v58.l.s.n,lI v58.l.s.fr,lI v58.l.s.to,lI v58.l.s.id,.lst true 1 (Ls v58.l.s.cs),iV v58.l.t.n,lI v58.l.t.fr,lI v58.l.t.to,lI v58.l.t.id,.lst true 1 (Ls v58.l.t.cs),lI v58.l.ob,lI v58.l.ar,iV v58.r.s.n,lI v58.r.s.fr,lI v58.r.s.to,lI v58.r.s.id,.lst true 1 (Ls v58.r.s.cs),iV v58.r.t.n,lI v58.r.t.fr,lI v58.r.t.to,lI v58.r.t.id,.lst true 1 (Ls v58.r.t.cs),lI v58.r.ob,lI v58.r.ar,lI v58.u,lI v58.k,.val (.bool true)],[1,2,3,4,5,6,7,8,9,10,11,12,13,14,15,16,17,18,19,20,21,22],by simp[BN],by simp,(yN _)⟩
attribute [local simp] unk unA unE unT unC flat eL eI Qc Q5M Q2i Adj.cells Fn.cells
def Q1n(f_:Fn):Option (Adj×Int):=
 (Q13 f_).bind λv1=>
 if¬(v1=true)then
  some ((⟨(⟨(⟨0,[],[],[],[]⟩:Cat),(⟨0,[],[],[],[]⟩:Cat),[],[]⟩:Fn),(⟨(⟨0,[],[],[],[]⟩:Cat),(⟨0,[],[],[],[]⟩:Cat),[],[]⟩:Fn),[],[]⟩:Adj),1)
 else
  (QV f_).bind λv3=>
  if¬(v3.2=true)then
   some ((⟨(⟨(⟨0,[],[],[],[]⟩:Cat),(⟨0,[],[],[],[]⟩:Cat),[],[]⟩:Fn),(⟨(⟨0,[],[],[],[]⟩:Cat),(⟨0,[],[],[],[]⟩:Cat),[],[]⟩:Fn),[],[]⟩:Adj),4)
  else
   some (v3.1,0)
@[simp] abbrev Yk(a:Adj×Bool)(b:List (Nat×Ent)):List (Nat×Ent):=(1,.mix 26 [[iV a.1.l.s.n,.own 2 0 a.1.l.s.fr.length,.own 3 0 a.1.l.s.to.length,.own 4 0 a.1.l.s.id.length,.own 5 0 a.1.l.s.cs.length,iV a.1.l.t.n,.own 6 0 a.1.l.t.fr.length,.own 7 0 a.1.l.t.to.length,.own 8 0 a.1.l.t.id.length,.own 9 0 a.1.l.t.cs.length,.own 10 0 a.1.l.ob.length,.own 11 0 a.1.l.ar.length,iV a.1.r.s.n,.own 12 0 a.1.r.s.fr.length,.own 13 0 a.1.r.s.to.length,.own 14 0 a.1.r.s.id.length,.own 15 0 a.1.r.s.cs.length,iV a.1.r.t.n,.own 16 0 a.1.r.t.fr.length,.own 17 0 a.1.r.t.to.length,.own 18 0 a.1.r.t.id.length,.own 19 0 a.1.r.t.cs.length,.own 20 0 a.1.r.ob.length,.own 21 0 a.1.r.ar.length,.own 22 0 a.1.u.length,.own 23 0 a.1.k.length]])::(2,rI a.1.l.s.fr)::(3,rI a.1.l.s.to)::(4,rI a.1.l.s.id)::(5,.row 1 (Ls a.1.l.s.cs))::(6,rI a.1.l.t.fr)::(7,rI a.1.l.t.to)::(8,rI a.1.l.t.id)::(9,.row 1 (Ls a.1.l.t.cs))::(10,rI a.1.l.ob)::(11,rI a.1.l.ar)::(12,rI a.1.r.s.fr)::(13,rI a.1.r.s.to)::(14,rI a.1.r.s.id)::(15,.row 1 (Ls a.1.r.s.cs))::(16,rI a.1.r.t.fr)::(17,rI a.1.r.t.to)::(18,rI a.1.r.t.id)::(19,.row 1 (Ls a.1.r.t.cs))::(20,rI a.1.r.ob)::(21,rI a.1.r.ar)::(22,rI a.1.u)::(23,rI a.1.k)::b
@[simp] abbrev Ym(a:Adj×Bool)(b:List (Nat×Ent)):List (Nat×Ent):=(0,.mix 26 [[iV a.1.l.s.n,.own 1 0 a.1.l.s.fr.length,.own 2 0 a.1.l.s.to.length,.own 3 0 a.1.l.s.id.length,.own 4 0 a.1.l.s.cs.length,iV a.1.l.t.n,.own 5 0 a.1.l.t.fr.length,.own 6 0 a.1.l.t.to.length,.own 7 0 a.1.l.t.id.length,.own 8 0 a.1.l.t.cs.length,.own 9 0 a.1.l.ob.length,.own 10 0 a.1.l.ar.length,iV a.1.r.s.n,.own 11 0 a.1.r.s.fr.length,.own 12 0 a.1.r.s.to.length,.own 13 0 a.1.r.s.id.length,.own 14 0 a.1.r.s.cs.length,iV a.1.r.t.n,.own 15 0 a.1.r.t.fr.length,.own 16 0 a.1.r.t.to.length,.own 17 0 a.1.r.t.id.length,.own 18 0 a.1.r.t.cs.length,.own 19 0 a.1.r.ob.length,.own 20 0 a.1.r.ar.length,.own 21 0 a.1.u.length,.own 22 0 a.1.k.length]])::(1,rI a.1.l.s.fr)::(2,rI a.1.l.s.to)::(3,rI a.1.l.s.id)::(4,.row 1 (Ls a.1.l.s.cs))::(5,rI a.1.l.t.fr)::(6,rI a.1.l.t.to)::(7,rI a.1.l.t.id)::(8,.row 1 (Ls a.1.l.t.cs))::(9,rI a.1.l.ob)::(10,rI a.1.l.ar)::(11,rI a.1.r.s.fr)::(12,rI a.1.r.s.to)::(13,rI a.1.r.s.id)::(14,.row 1 (Ls a.1.r.s.cs))::(15,rI a.1.r.t.fr)::(16,rI a.1.r.t.to)::(17,rI a.1.r.t.id)::(18,.row 1 (Ls a.1.r.t.cs))::(19,rI a.1.r.ob)::(20,rI a.1.r.ar)::(21,rI a.1.u)::(22,rI a.1.k)::b
@[simp] abbrev YQ(a:List (Nat×Ent)):List (Nat×Ent):=(1,.mix 26 [(Y0M (nS::nS::nS::nS::Y0M [nS,nS,nS,nS,nS,nS]))])::a
theorem Q4S(f_:Fn)(r:Adj×Int)(h:Q1n f_=some r):Contract Try.prog 29 [.agg (f_.cells true)] (.tup [.agg (r.1.cells true),iV r.2]):=by
 refine Q6 (rvs:=[.cell 2 57,.tmp 3]) (rs:=[.agg (r.1.cells true),iV r.2]) Try.func29 rfl rfl rfl rfl (by simp[Try.f29]) λF hN hP=>?_;unfold Q1n at h;refine Q0 (runQ hN λK hK=>?_);simp;repeat refine sdQ ?_
 refine hK _ ?_;clear hK K;refine tn (Q2 (st':=⟨YY (Y0I []),Yw f_ (YQ []),2⟩) (wkQ [(0,0),(1,1)]) (Q0 (Q0 (runQ hN λK hK=>?_))));simp;repeat with_reducible refine sdQ ?_
 replace⟨v1,hv1,h⟩:=bind_some h;refine Q3 (Q47 _ v1 hv1) (.cons (.field rfl (by simp[CN]) (.cons .val (.cons .lst (.cons .lst (.cons .lst (.cons .lst (.cons .val (.cons .lst (.cons .lst (.cons .lst (.cons .lst (.cons .lst (.cons .lst .nil))))))))))))) .nil) ?_;simp;repeat refine sdQ ?_
 refine hK _ ?_;clear hK K;refine tn (Q2 (st':=⟨YY (Y0I [(7,.val (.bool (!v1)))]),Yw f_ (YQ []),2⟩) (wkQ [(0,0),(1,1)]) (Q7 rfl (λg=>?_) λg=>?_))
 ·have g2:¬(v1=true):=gQ;clear g;replace h:=if_l g2 h;refine Q0 (runQ hN λK hK=>?_);simp;repeat refine sdQ ?_
  refine hK _ (tn (Q2 (st':=⟨YA [(3,iV 1)],Y4 [],1⟩) (wkQ [(1,0)]) (Qe (tr ?_))));clear hK K;have hr:=yJ h;rw[←hr];refine⟨_,(.cell Q69 rfl rfl rfl (by simp) (by simp) (.tmp .nil)),?_⟩;refine⟨(.agg rfl (.one rfl rfl .nil)),[iV 0,nS,nS,nS,nS,iV 0,nS,nS,nS,nS,nS,nS,iV 0,nS,nS,nS,nS,iV 0,nS,nS,nS,nS,nS,nS,nS,nS,iV 1],[],by simp[BN],by simp,(.cons .refl (.cons .nil (.cons .nil (.cons .nil (.cons .nil (.cons .refl (.cons .nil (.cons .nil (.cons .nil (.cons .nil (.cons .nil (.cons .nil (.cons .refl (.cons .nil (.cons .nil (.cons .nil (.cons .nil (.cons .refl (.cons .nil (.cons .nil (.cons .nil (.cons .nil (.cons .nil (.cons .nil (.cons .nil (.cons .nil (.cons .refl .nil)))))))))))))))))))))))))))⟩
 have g2:¬(¬(v1=true)):=gQ;clear g;replace h:=if_r g2 h;refine Q8 (tn (Q0 (runQ hN λK hK=>?_)));simp;repeat with_reducible refine sdQ ?_
 replace⟨v3,hv3,h⟩:=bind_some h;refine Q3 (Q3A _ v3 hv3) (.cons (.field rfl (by simp[CN]) (.cons .val (.cons .lst (.cons .lst (.cons .lst (.cons .lst (.cons .val (.cons .lst (.cons .lst (.cons .lst (.cons .lst (.cons .lst (.cons .lst .nil))))))))))))) .nil) ?_;simp;repeat refine sdQ ?_
 refine hK _ ?_;clear hK K;refine tn (Q2 (st':=⟨YA [(4,.adr 1 0 0),(5,.val (.bool v3.2))],Y4 (Yk v3 []),24⟩) (wkQ [(1,0),(29,1),(3,2),(4,3),(5,4),(6,5),(8,6),(9,7),(10,8),(11,9),(12,10),(13,11),(15,12),(16,13),(17,14),(18,15),(20,16),(21,17),(22,18),(23,19),(24,20),(25,21),(26,22),(27,23)]) (Q0 (Q0 (runQ hN λK hK=>?_))));simp;repeat refine sdQ ?_
 refine hK _ ?_;clear hK K;refine tn (Q7 rfl (λg=>?_) λg=>?_)
 ·have g4:¬(v3.2=true):=gQ;clear g;replace h:=if_l g4 h;refine Q0 (runQ hN λK hK=>?_);simp;repeat refine sdQ ?_
  refine hK _ (tn (Q2 (st':=⟨YA [(3,iV 4)],Y4 [],1⟩) (wkQ [(0,0)]) (Qe (tr ?_))));clear hK K;have hr:=yJ h;rw[←hr];refine⟨_,(.cell Q69 rfl rfl rfl (by simp) (by simp) (.tmp .nil)),?_⟩;refine⟨(.agg rfl (.one rfl rfl .nil)),[iV 0,nS,nS,nS,nS,iV 0,nS,nS,nS,nS,nS,nS,iV 0,nS,nS,nS,nS,iV 0,nS,nS,nS,nS,nS,nS,nS,nS,iV 4],[],by simp[BN],by simp,(.cons .refl (.cons .nil (.cons .nil (.cons .nil (.cons .nil (.cons .refl (.cons .nil (.cons .nil (.cons .nil (.cons .nil (.cons .nil (.cons .nil (.cons .refl (.cons .nil (.cons .nil (.cons .nil (.cons .nil (.cons .refl (.cons .nil (.cons .nil (.cons .nil (.cons .nil (.cons .nil (.cons .nil (.cons .nil (.cons .nil (.cons .refl .nil)))))))))))))))))))))))))))⟩
 have g4:¬(¬(v3.2=true)):=gQ;clear g;replace h:=if_r g4 h;refine Q8 (tn (Q0 (runQ hN λK hK=>?_)));simp;repeat refine sdQ ?_
 refine hK _ (tn (Q2 (st':=⟨YA [(3,iV 0)],Ym v3 [],23⟩) (wkQ [(0,0),(2,1),(3,2),(4,3),(5,4),(6,5),(7,6),(8,7),(9,8),(10,9),(11,10),(12,11),(13,12),(14,13),(15,14),(16,15),(17,16),(18,17),(19,18),(20,19),(21,20),(22,21),(23,22)]) (Qe ?_)));clear hK K;have hr:=yJ h;rw[←hr];refine⟨_,(.cell Q69 rfl rfl rfl (by simp) (by simp) (.tmp .nil)),?_⟩;refine⟨(.agg rfl (.one rfl rfl .nil)),[iV v3.1.l.s.n,lI v3.1.l.s.fr,lI v3.1.l.s.to,lI v3.1.l.s.id,.lst true 1 (Ls v3.1.l.s.cs),iV v3.1.l.t.n,lI v3.1.l.t.fr,lI v3.1.l.t.to,lI v3.1.l.t.id,.lst true 1 (Ls v3.1.l.t.cs),lI v3.1.l.ob,lI v3.1.l.ar,iV v3.1.r.s.n,lI v3.1.r.s.fr,lI v3.1.r.s.to,lI v3.1.r.s.id,.lst true 1 (Ls v3.1.r.s.cs),iV v3.1.r.t.n,lI v3.1.r.t.fr,lI v3.1.r.t.to,lI v3.1.r.t.id,.lst true 1 (Ls v3.1.r.t.cs),lI v3.1.r.ob,lI v3.1.r.ar,lI v3.1.u,lI v3.1.k,iV 0],[1,2,3,4,5,6,7,8,9,10,11,12,13,14,15,16,17,18,19,20,21,22],by simp[BN],by simp,(yN _)⟩
attribute [local simp] unk unA unE unT unC flat eL eI Qc QS Q2i Cat.cells Fn.cells
def Q4j(f_:Fn):Option Fn:=
 (Q27 f_.s f_.t f_.ob f_.ar).bind λv1=>
 some v1
theorem Qa0(f_:Fn)(r:Fn)(h:Q4j f_=some r):Contract Try.prog 121 [.agg (f_.cells true)] (.agg (r.cells true)):=by
 refine Q6 (rvs:=[.cell 2 38]) (rs:=[.agg (r.cells true)]) Try.func121 rfl rfl rfl rfl (by simp[Try.f121]) λF hN hP=>?_;unfold Q4j at h;refine Q0 (runQ hN λK hK=>?_);simp;repeat refine sdQ ?_
 refine hK _ ?_;clear hK K;refine tn (Q2 (st':=⟨YY (Y0I []),Yw f_ [(1,.mix 12 [(Y0M [nS,nS,nS,nS])])],2⟩) (wkQ [(0,0),(1,1)]) (Q0 (runQ hN λK hK=>?_)));simp;repeat with_reducible refine sdQ ?_
 replace⟨v1,hv1,h⟩:=bind_some h;refine Q3 (Q4z _ _ _ _ v1 hv1) (.cons (.aggL (.cons .val (.cons .lst (.cons .lst (.cons .lst (.cons .lst .nil)))))) (.cons (.aggL (.cons .val (.cons .lst (.cons .lst (.cons .lst (.cons .lst .nil)))))) (.cons .lst (.cons .lst .nil)))) ?_;simp;repeat refine sdQ ?_
 refine hK _ (tn (Q2 (st':=⟨YA [],Y7 v1 [],11⟩) (wkQ [(1,0),(3,1),(4,2),(5,3),(6,4),(8,5),(9,6),(10,7),(11,8),(12,9),(13,10)]) (Qe ?_)));clear hK K;have hr:=yJ h;rw[←hr];refine⟨_,(.cell Q6l rfl rfl rfl (by simp) (by simp) .nil),?_⟩;refine⟨(.agg rfl .nil),[iV v1.s.n,lI v1.s.fr,lI v1.s.to,lI v1.s.id,.lst true 1 (Ls v1.s.cs),iV v1.t.n,lI v1.t.fr,lI v1.t.to,lI v1.t.id,.lst true 1 (Ls v1.t.cs),lI v1.ob,lI v1.ar],[1,2,3,4,5,6,7,8,9,10],by simp[BN],by simp,(yN _)⟩
end Go.Vc.T
