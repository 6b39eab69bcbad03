/- A part of the proof. -/
import Derived.Test.YtbanpimdoabfmaaH13
set_option maxRecDepth 100000
set_option maxHeartbeats 4000000
set_option linter.unusedSimpArgs false
set_option linter.unusedVariables false
set_option linter.unusedSectionVars false
set_option linter.unnecessarySimpa false

open Option.some renaming inj→yJ
open Option renaming bind_some→yA
open Sum renaming inl→yK
open Sum renaming inr→yL
open Go.Vc.Ctl renaming ret→yM
open Go.Vc.UpL renaming refl→yN
open List renaming length_append→qD
open Int renaming eq_ofNat_of_zero_le→yT
open List renaming length_cons→qH
open Classical renaming byContradiction→yP
open List renaming length_nil→zX
noncomputable section
namespace Go.Vc.T
open Go Go.Vc Go.Proofs
attribute [local simp] unk unA unE unT unC flat eL eI Qc Q5M QS Q2i Adj.cells Cat.cells Fn.cells
def Q2L(f_:Fn):Option (Adj×Bool):=
 (Qo (σ:=List Int×List Int×Int) (ε:=(List Int×List Int)⊕(Adj×Bool)) (λs8=>
  if s8.2.2<f_.t.n then
   (Q1B f_ s8.2.2).bind λv10=>
   if¬(v10.2.2=true)then
    some (yM (yL ((⟨(⟨(⟨0,[],[],[],[]⟩:Cat),(⟨0,[],[],[],[]⟩:Cat),[],[]⟩:Fn),(⟨(⟨0,[],[],[],[]⟩:Cat),(⟨0,[],[],[],[]⟩:Cat),[],[]⟩:Fn),[],[]⟩:Adj),false)))
   else
    ass ((s8.1++[v10.1]).length≤1073741824)<|
    ass ((s8.2.1++[v10.2.1]).length≤1073741824)<|
    ass (B64 (s8.2.2+1))<|
    some (Ctl.next (s8.1++[v10.1],s8.2.1++[v10.2.1],s8.2.2+1))
  else
   some (yM (yK (s8.1,s8.2.1)))) fuel ([],[],0)).bind λe1=>
 match e1 with
 | .inl b1=>
  (Qo (σ:=List Int×Int) (ε:=List Int) (λs28=>
   if s28.2<(f_.t.fr.length:Int)then
    ass (0≤s28.2∧s28.2<(f_.t.fr.length:Int))<|
    ass (0≤s28.2∧s28.2<(f_.t.to.length:Int))<|
    ass (0≤ix f_.t.fr s28.2∧ix f_.t.fr s28.2<(b1.1.length:Int))<|
    ass (0≤ix f_.t.to s28.2∧ix f_.t.to s28.2<(b1.1.length:Int))<|
    ass (0≤ix f_.t.to s28.2∧ix f_.t.to s28.2<(b1.2.length:Int))<|
    ass (0≤ix f_.t.fr s28.2∧ix f_.t.fr s28.2<(b1.2.length:Int))<|
    (Q1A f_.t (ix b1.2 (ix f_.t.fr s28.2)) s28.2).bind λv36=>
    (Q1R f_ (ix b1.1 (ix f_.t.fr s28.2)) (ix b1.1 (ix f_.t.to s28.2)) (ix b1.2 (ix f_.t.to s28.2)) v36).bind λv37=>
    ass ((0:Int)≤0∧0<(v37.length:Int))<|
    ass ((s28.1++[ix v37 0]).length≤1073741824)<|
    ass (B64 (s28.2+1))<|
    some (Ctl.next (s28.1++[ix v37 0],s28.2+1))
   else
    some (yM s28.1)) fuel ([],0)).bind λb15=>
  (Qo (σ:=List Int×Int) (ε:=List Int) (λs51=>
   if s51.2<f_.s.n then
    ass (0≤s51.2∧s51.2<(f_.ob.length:Int))<|
    ass (0≤ix f_.ob s51.2∧ix f_.ob s51.2<(b1.1.length:Int))<|
    ass (0≤ix f_.ob s51.2∧ix f_.ob s51.2<(b1.2.length:Int))<|
    ass (0≤ix f_.ob s51.2∧ix f_.ob s51.2<(f_.t.id.length:Int))<|
    (Q1R f_ s51.2 (ix b1.1 (ix f_.ob s51.2)) (ix b1.2 (ix f_.ob s51.2)) (ix f_.t.id (ix f_.ob s51.2))).bind λv57=>
    ass ((0:Int)≤0∧0<(v57.length:Int))<|
    ass ((s51.1++[ix v57 0]).length≤1073741824)<|
    ass (B64 (s51.2+1))<|
    some (Ctl.next (s51.1++[ix v57 0],s51.2+1))
   else
    some (yM s51.1)) fuel ([],0)).bind λb41=>
  (Q4j f_).bind λv61=>
  (Q27 f_.t f_.s b1.1 b15).bind λv62=>
  some ((⟨v61,v62,b41,b1.2⟩:Adj),true)
 | .inr p1=>
  some p1
@[simp] abbrev Y1(a:Fn)(b:List (Nat×Ent)):List (Nat×Ent):=(0,.mix 12 [(Fn.cells true a)])::(1,.mix 26 [(Y0M (nS::nS::nS::nS::Y0M [nS,nS,nS,nS,nS,nS]))])::(2,.mix 5 [(Cat.cells true a.s)])::(3,.mix 5 [(Cat.cells true a.t)])::b
@[simp] abbrev Yj(a:List Int×List Int)(b:List (Nat×AV)):List (Nat×AV):=(1,.adr 0 0 0)::(2,.adr 1 0 0)::(4,.adr 2 0 0)::(5,.adr 3 0 0)::(6,.own 4 0 a.1.length)::(7,.own 5 0 a.2.length)::b
@[simp] abbrev YP(a:List (Nat×AV)):List (Nat×AV):=(1,.adr 0 0 0)::(2,.adr 1 0 0)::(4,.adr 2 0 0)::(5,.adr 3 0 0)::a
@[simp] abbrev Y0d(a:List (Nat×AV)):List (Nat×AV):=(8,.own 6 0 0)::(9,.own 7 0 0)::a
@[simp] abbrev Y0w(a:List Int×List Int)(b:List (Nat×Ent)):List (Nat×Ent):=(4,rI a.1)::(5,rI a.2)::b
@[simp] abbrev Y0x(a:List (Nat×Ent)):List (Nat×Ent):=(6,.mix 1 [])::(7,.mix 1 [])::a
theorem Q86(f_:Fn)(r:Adj×Bool)(h:Q2L f_=some r):Contract Try.prog 66 [.agg (f_.cells true)] (.tup [.agg (r.1.cells true),.val (.bool r.2)]):=by
 refine Q6 (rvs:=[.cell 2 57,.tmp 3]) (rs:=[.agg (r.1.cells true),.val (.bool r.2)]) Try.func66 rfl rfl rfl rfl (by simp[Try.f66]) λF hN hP=>?_;unfold Q2L at h;refine Q0 (runQ hN λK hK=>?_);simp;repeat refine sdQ ?_
 refine hK _ ?_;clear hK K;refine tn (Q2 (st':=⟨YY (Y0I []),Yw f_ (YQ []),2⟩) (wkQ [(0,0),(1,1)]) (Q0 (w_runS mo (by rw[hN];decide) λK hK=>?_)));simp;repeat refine sdQ ?_
 refine hK _ ?_;clear hK K;refine tn (Q2 (st':=⟨YP [],Y1 f_ [],4⟩) (wkI 4) (Q0 (runQ hN λK hK=>?_)));simp;repeat refine sdQ ?_
 refine hK _ ?_;clear hK K;refine tn (Q2 (st':=⟨YP ((6,.own 4 0 0)::(7,.own 5 0 0)::Y0d []),Y1 f_ ((4,.mix 1 [])::YW [(7,.mix 1 [])]),8⟩) (wkI 8) (Q0 (Q0 (runQ hN λK hK=>?_))));simp;repeat refine sdQ ?_
 refine hK _ (tn (Q2 (st':=⟨YP ((6,.own 4 0 0)::(7,.own 5 0 0)::Y0d [(10,iV 0)]),Y1 f_ ((4,.mix 1 [])::YW [(7,.mix 1 [])]),8⟩) (wkI 8) ?_));clear hK K;replace⟨e1,h,h1⟩:=bind_some h;refine Q9 (λb1:List Int×List Int=>⟨Yj b1 (Y0d []),Y1 f_ (Y0w b1 (Y0x [])),8⟩) (λb1=>yK b1=e1) ?_ ?_
 ·refine Q5 (Qj h (λs8:List Int×List Int×Int=>⟨YP ((6,.own 4 0 s8.1.length)::(7,.own 5 0 s8.2.1.length)::Y0d [(10,iV s8.2.2)]),Y1 f_ ((4,rI s8.1)::(5,rI s8.2.1)::Y0x []),8⟩) (Q2Y ⟨YP ((6,.own 4 0 0)::(7,.own 5 0 0)::Y0d [(10,iV 0)]),Y1 f_ ((4,rI [])::(5,rI [])::Y0x []),8⟩ (nlQ []) (wkI 8)) ?_);clear h;intro k8 s8 c8 h hk8;refine Q0 (Q0 (runQ hN λK hK=>?_));simp;repeat refine sdQ ?_
  refine hK _ ?_;clear hK K;refine tn (Q7 rfl (λg=>?_) λg=>?_)
  ·have g9:s8.2.2<f_.t.n:=gQ;clear g;replace h:=if_l g9 h;refine Q8 (tn (Q0 (Q5 (Q0 (runQ hN λK hK=>?_)))));simp;(repeat with_reducible refine sdQ ?_);replace⟨v10,hv10,h⟩:=bind_some h;refine Q3 (Q4A _ _ v10 hv10) (.cons (.aggL (.cons .val (.cons .lst (.cons .lst (.cons .lst (.cons .lst (.cons .val (.cons .lst (.cons .lst (.cons .lst (.cons .lst (.cons .lst (.cons .lst .nil))))))))))))) (.cons .val .nil)) ?_;simp;(repeat refine sdQ ?_);refine hK _ ?_;clear hK K;refine tn (Q2 (st':=⟨YP ((6,.own 4 0 s8.1.length)::(7,.own 5 0 s8.2.1.length)::Y0d [(10,iV s8.2.2),(11,iV v10.1),(12,iV v10.2.1),(13,.val (.bool v10.2.2))]),Y1 f_ ((4,rI s8.1)::(5,rI s8.2.1)::Y0x []),8⟩) (wkI 8) (Q0 (Q0 (runQ hN λK hK=>?_))));simp;(repeat refine sdQ ?_);refine hK _ ?_;clear hK K;refine tn (Q7 rfl (λg=>?_) λg=>?_)
   ·have g11:¬(v10.2.2=true):=gQ;clear g;replace h:=if_l g11 h;refine Q0 (runQ hN λK hK=>?_);simp;(repeat refine sdQ ?_);refine hK _ (tn (Q2 (st':=⟨YA [(3,.val (.bool false))],Y4 [],1⟩) (wkQ [(1,0)]) (Qe (tr (br (tr (lr (br (tr ?_)))))))));clear hK K;cases h;have q:_=e1:=hk8;have h:=h1;rw[←q]at h;clear q;(try dsimp only at h);have hr:=yJ h;rw[←hr];refine⟨_,(.cell Q69 rfl rfl rfl (by simp) (by simp) (.tmp .nil)),?_⟩;refine⟨(.agg rfl (.one rfl rfl .nil)),[iV 0,nS,nS,nS,nS,iV 0,nS,nS,nS,nS,nS,nS,iV 0,nS,nS,nS,nS,iV 0,nS,nS,nS,nS,nS,nS,nS,nS,.val (.bool false)],[],by simp[BN],by simp,(.cons .refl (.cons .nil (.cons .nil (.cons .nil (.cons .nil (.cons .refl (.cons .nil (.cons .nil (.cons .nil (.cons .nil (.cons .nil (.cons .nil (.cons .refl (.cons .nil (.cons .nil (.cons .nil (.cons .nil (.cons .refl (.cons .nil (.cons .nil (.cons .nil (.cons .nil (.cons .nil (.cons .nil (.cons .nil (.cons .nil (.cons .refl .nil)))))))))))))))))))))))))))⟩
   have g11:¬(¬(v10.2.2=true)):=gQ;clear g;replace h:=if_r g11 h;refine Q8 (tn (Q0 (runQ hN λK hK=>?_)));replace⟨a12,h⟩:=Q1 h;(try simp only[qD,qH,zX]at a12);simp[a12];(repeat refine sdQ ?_);refine hK _ ?_;clear hK K;refine tn (Q2 (st':=⟨YP ((6,.own 4 0 ((s8.1++[v10.1]).length))::(7,.own 5 0 s8.2.1.length)::Y0d [(10,iV s8.2.2),(12,iV v10.2.1)]),Y1 f_ ((4,rI (s8.1++[v10.1]))::(5,rI s8.2.1)::Y0x []),8⟩) (wkQ [(0,0),(1,1),(2,2),(3,3),(9,4),(5,5),(6,6),(7,7)]) (runQ hN λK hK=>?_));replace⟨a13,h⟩:=Q1 h;(try simp only[qD,qH,zX]at a13);simp[a13];(repeat refine sdQ ?_);refine hK _ ?_;clear hK K;refine bn (tn (Q2 (st':=⟨YP ((6,.own 4 0 ((s8.1++[v10.1]).length))::(7,.own 5 0 ((s8.2.1++[v10.2.1]).length))::Y0d [(10,iV s8.2.2)]),Y1 f_ ((4,rI (s8.1++[v10.1]))::(5,rI (s8.2.1++[v10.2.1]))::Y0x []),8⟩) (wkQ [(0,0),(1,1),(2,2),(3,3),(4,4),(9,5),(6,6),(7,7)]) (runQ hN λK hK=>?_)));replace⟨a14,h⟩:=Q1 h;simp[Qh a14];(repeat refine sdQ ?_);refine hK _ ?_;clear hK K;cases h;exact rn (s':=(s8.1++[v10.1],s8.2.1++[v10.2.1],s8.2.2+1)) hk8 (wkI 8)
  have g9:¬(s8.2.2<f_.t.n):=gQ;clear g;replace h:=if_r g9 h;refine Ql (tx (lx (bh ?_)));cases h;exact jn (b:=(s8.1,s8.2.1)) hk8 (wkI 8)
 intro b1 hb1;have h:=h1;try rw[←hb1]at h
 clear h1;try dsimp only at h
 refine Q0 (Q0 (runQ hN λK hK=>?_));simp;repeat refine sdQ ?_
 refine hK _ (tn (Q2 (st':=⟨Yj b1 (Y0d [(14,iV 0)]),Y1 f_ (Y0w b1 (Y0x [])),8⟩) (wkI 8) ?_));clear hK K;replace⟨e15,h,h15⟩:=bind_some h;refine Q9 (λb15:List Int=>⟨Yj b1 [(8,.own 6 0 b15.length),(9,.own 7 0 0)],Y1 f_ (Y0w b1 [(6,rI b15),(7,.mix 1 [])]),8⟩) (λb15=>b15=e15) ?_ ?_
 ·refine Q5 (Qj h (λs28:List Int×Int=>⟨Yj b1 [(8,.own 6 0 s28.1.length),(9,.own 7 0 0),(14,iV s28.2)],Y1 f_ (Y0w b1 [(6,rI s28.1),(7,.mix 1 [])]),8⟩) (Q2Y ⟨Yj b1 (Y0d [(14,iV 0)]),Y1 f_ (Y0w b1 [(6,rI []),(7,.mix 1 [])]),8⟩ (nlQ []) (wkI 8)) ?_);clear h;intro k28 s28 c28 h hk28;refine Q0 (Q0 (runQ hN λK hK=>?_));simp;repeat refine sdQ ?_
  refine hK _ ?_;clear hK K;refine tn (Q7 rfl (λg=>?_) λg=>?_)
  ·have g29:s28.2<(f_.t.fr.length:Int):=gQ;clear g;replace h:=if_l g29 h;refine Q8 (tn (Q0 (Q5 (Q0 (runQ hN λK hK=>?_)))));replace⟨a30,h⟩:=Q1 h;replace⟨a31,h⟩:=Q1 h;simp[at_I a30,at_I a31];(repeat refine sdQ ?_);refine hK _ ?_;clear hK K;refine tn (Q2 (st':=⟨Yj b1 [(8,.own 6 0 s28.1.length),(9,.own 7 0 0),(14,iV s28.2),(15,iV (ix f_.t.fr s28.2)),(16,iV (ix f_.t.to s28.2))],Y1 f_ (Y0w b1 [(6,rI s28.1),(7,.mix 1 [])]),8⟩) (wkI 8) (runQ hN λK hK=>?_));replace⟨a32,h⟩:=Q1 h;replace⟨a33,h⟩:=Q1 h;replace⟨a34,h⟩:=Q1 h;replace⟨a35,h⟩:=Q1 h;simp[at_I a32,at_I a33,at_I a34,at_I a35];(repeat with_reducible refine sdQ ?_);replace⟨v36,hv36,h⟩:=bind_some h;refine Q3 (Q6f _ _ _ v36 hv36) (.cons (.aggL (.cons .val (.cons .lst (.cons .lst (.cons .lst (.cons .lst .nil)))))) (.cons .val (.cons .val .nil))) ?_;simp[at_I a32,at_I a33,at_I a34,at_I a35];(repeat with_reducible refine sdQ ?_);replace⟨v37,hv37,h⟩:=bind_some h;refine Q3 (Q48 _ _ _ _ _ v37 hv37) (.cons (.aggL (.cons .val (.cons .lst (.cons .lst (.cons .lst (.cons .lst (.cons .val (.cons .lst (.cons .lst (.cons .lst (.cons .lst (.cons .lst (.cons .lst .nil))))))))))))) (.cons .val (.cons .val (.cons .val (.cons .val .nil))))) ?_;replace⟨a38,h⟩:=Q1 h;replace⟨a39,h⟩:=Q1 h;(try simp only[qD,qH,zX]at a39);simp[at_I a32,at_I a33,at_I a34,at_I a35,(show(Is v37)[0]? =some [iV (ix v37 0)] from at_I (j:=0) a38),a39];(repeat refine sdQ ?_);refine hK _ ?_;clear hK K;refine bn (tn (Q2 (st':=⟨Yj b1 [(8,.own 6 0 ((s28.1++[ix v37 0]).length)),(9,.own 7 0 0),(14,iV s28.2)],Y1 f_ (Y0w b1 [(6,rI (s28.1++[ix v37 0])),(7,.mix 1 [])]),8⟩) (wkQ [(0,0),(1,1),(2,2),(3,3),(4,4),(5,5),(16,6),(7,7)]) (runQ hN λK hK=>?_)));replace⟨a40,h⟩:=Q1 h;simp[Qh a40];(repeat refine sdQ ?_);refine hK _ ?_;clear hK K;cases h;exact rn (s':=(s28.1++[ix v37 0],s28.2+1)) hk28 (wkI 8)
  have g29:¬(s28.2<(f_.t.fr.length:Int)):=gQ;clear g;replace h:=if_r g29 h;refine Ql (tx (lx (bh ?_)));cases h;exact jn (b:=s28.1) hk28 (wkI 8)
 intro b15 hb15;have h:=h15;try rw[←hb15]at h
 clear h15;try dsimp only at h
 refine Q0 (Q0 (runQ hN λK hK=>?_));simp;repeat refine sdQ ?_
 refine hK _ (tn (Q2 (st':=⟨Yj b1 [(8,.own 6 0 b15.length),(9,.own 7 0 0),(17,iV 0)],Y1 f_ (Y0w b1 [(6,rI b15),(7,.mix 1 [])]),8⟩) (wkI 8) ?_));clear hK K;replace⟨e41,h,h41⟩:=bind_some h;refine Q9 (λb41:List Int=>⟨Yj b1 [(8,.own 6 0 b15.length),(9,.own 7 0 b41.length)],Y1 f_ (Y0w b1 [(6,rI b15),(7,rI b41)]),8⟩) (λb41=>b41=e41) ?_ ?_
 ·refine Q5 (Qj h (λs51:List Int×Int=>⟨Yj b1 [(8,.own 6 0 b15.length),(9,.own 7 0 s51.1.length),(17,iV s51.2)],Y1 f_ (Y0w b1 [(6,rI b15),(7,rI s51.1)]),8⟩) (Q2Y ⟨Yj b1 [(8,.own 6 0 b15.length),(9,.own 7 0 0),(17,iV 0)],Y1 f_ (Y0w b1 [(6,rI b15),(7,rI [])]),8⟩ (nlQ []) (wkI 8)) ?_);clear h;intro k51 s51 c51 h hk51;refine Q0 (Q0 (runQ hN λK hK=>?_));simp;repeat refine sdQ ?_
  refine hK _ ?_;clear hK K;refine tn (Q7 rfl (λg=>?_) λg=>?_)
  ·have g52:s51.2<f_.s.n:=gQ;clear g;replace h:=if_l g52 h;refine Q8 (tn (Q0 (Q5 (Q0 (runQ hN λK hK=>?_)))));replace⟨a53,h⟩:=Q1 h;simp[at_I a53];(repeat refine sdQ ?_);refine hK _ ?_;clear hK K;refine tn (Q2 (st':=⟨Yj b1 [(8,.own 6 0 b15.length),(9,.own 7 0 s51.1.length),(17,iV s51.2),(18,iV (ix f_.ob s51.2))],Y1 f_ (Y0w b1 [(6,rI b15),(7,rI s51.1)]),8⟩) (wkI 8) (runQ hN λK hK=>?_));replace⟨a54,h⟩:=Q1 h;replace⟨a55,h⟩:=Q1 h;replace⟨a56,h⟩:=Q1 h;simp[at_I a54,at_I a55,at_I a56];(repeat with_reducible refine sdQ ?_);replace⟨v57,hv57,h⟩:=bind_some h;refine Q3 (Q48 _ _ _ _ _ v57 hv57) (.cons (.aggL (.cons .val (.cons .lst (.cons .lst (.cons .lst (.cons .lst (.cons .val (.cons .lst (.cons .lst (.cons .lst (.cons .lst (.cons .lst (.cons .lst .nil))))))))))))) (.cons .val (.cons .val (.cons .val (.cons .val .nil))))) ?_;replace⟨a58,h⟩:=Q1 h;replace⟨a59,h⟩:=Q1 h;(try simp only[qD,qH,zX]at a59);simp[at_I a54,at_I a55,at_I a56,(show(Is v57)[0]? =some [iV (ix v57 0)] from at_I (j:=0) a58),a59];(repeat refine sdQ ?_);refine hK _ ?_;clear hK K;refine bn (tn (Q2 (st':=⟨Yj b1 [(8,.own 6 0 b15.length),(9,.own 7 0 ((s51.1++[ix v57 0]).length)),(17,iV s51.2)],Y1 f_ (Y0w b1 [(6,rI b15),(7,rI (s51.1++[ix v57 0]))]),8⟩) (wkQ [(0,0),(1,1),(2,2),(3,3),(4,4),(5,5),(6,6),(13,7)]) (runQ hN λK hK=>?_)));replace⟨a60,h⟩:=Q1 h;simp[Qh a60];(repeat refine sdQ ?_);refine hK _ ?_;clear hK K;cases h;exact rn (s':=(s51.1++[ix v57 0],s51.2+1)) hk51 (wkI 8)
  have g52:¬(s51.2<f_.s.n):=gQ;clear g;replace h:=if_r g52 h;refine Ql (tx (lx (bh ?_)));cases h;exact jn (b:=s51.1) hk51 (wkI 8)
 intro b41 hb41;have h:=h41;try rw[←hb41]at h
 clear h41;try dsimp only at h
 refine Q0 (runQ hN λK hK=>?_);simp;repeat with_reducible refine sdQ ?_
 replace⟨v61,hv61,h⟩:=bind_some h;refine Q3 (Qa0 _ v61 hv61) (.cons (.aggL (.cons .val (.cons .lst (.cons .lst (.cons .lst (.cons .lst (.cons .val (.cons .lst (.cons .lst (.cons .lst (.cons .lst (.cons .lst (.cons .lst .nil))))))))))))) .nil) ?_;simp;repeat with_reducible refine sdQ ?_
 replace⟨v62,hv62,h⟩:=bind_some h;refine Q3 (Q4z _ _ _ _ v62 hv62) (.cons (.aggL (.cons .val (.cons .lst (.cons .lst (.cons .lst (.cons .lst .nil)))))) (.cons (.aggL (.cons .val (.cons .lst (.cons .lst (.cons .lst (.cons .lst .nil)))))) (.cons .w (.cons .w .nil)))) ?_;simp;repeat refine sdQ ?_
 refine hK _ (tn (Q2 (st':=⟨YA [(3,.val (.bool true))],(0,.mix 26 [(Y0L v61 v62 [.own 21 0 b41.length,.own 22 0 b1.2.length])])::YU v61 v62 [(21,rI b41),(22,rI b1.2)],23⟩) (wkQ [(1,0),(9,1),(10,2),(11,3),(12,4),(14,5),(15,6),(16,7),(17,8),(18,9),(19,10),(21,11),(22,12),(23,13),(24,14),(26,15),(27,16),(28,17),(29,18),(30,19),(31,20),(7,21),(5,22)]) (Qe ?_)));clear hK K;have hr:=yJ h;rw[←hr];refine⟨_,(.cell Q69 rfl rfl rfl (by simp) (by simp) (.tmp .nil)),?_⟩;refine⟨(.agg rfl (.one rfl rfl .nil)),[iV v61.s.n,lI v61.s.fr,lI v61.s.to,lI v61.s.id,.lst true 1 (Ls v61.s.cs),iV v61.t.n,lI v61.t.fr,lI v61.t.to,lI v61.t.id,.lst true 1 (Ls v61.t.cs),lI v61.ob,lI v61.ar,iV v62.s.n,lI v62.s.fr,lI v62.s.to,lI v62.s.id,.lst true 1 (Ls v62.s.cs),iV v62.t.n,lI v62.t.fr,lI v62.t.to,lI v62.t.id,.lst true 1 (Ls v62.t.cs),lI v62.ob,lI v62.ar,lI b41,lI b1.2,.val (.bool true)],[1,2,3,4,5,6,7,8,9,10,11,12,13,14,15,16,17,18,19,20,21,22],by simp[BN],by simp,(yN _)⟩
attribute [local simp] unk unA unE unT unC flat eL eI Qc Q5M Q2i Adj.cells Fn.cells
def Q1o(f_:Fn):Option (Adj×Int):=
 (Q43 f_).bind λv1=>
 if¬(v1=true)then
  some ((⟨(⟨(⟨0,[],[],[],[]⟩:Cat),(⟨0,[],[],[],[]⟩:Cat),[],[]⟩:Fn),(⟨(⟨0,[],[],[],[]⟩:Cat),(⟨0,[],[],[],[]⟩:Cat),[],[]⟩:Fn),[],[]⟩:Adj),1)
 else
  (Q2L f_).bind λv3=>
  if¬(v3.2=true)then
   some ((⟨(⟨(⟨0,[],[],[],[]⟩:Cat),(⟨0,[],[],[],[]⟩:Cat),[],[]⟩:Fn),(⟨(⟨0,[],[],[],[]⟩:Cat),(⟨0,[],[],[],[]⟩:Cat),[],[]⟩:Fn),[],[]⟩:Adj),4)
  else
   some (v3.1,0)
theorem Q4V(f_:Fn)(r:Adj×Int)(h:Q1o f_=some r):Contract Try.prog 30 [.agg (f_.cells true)] (.tup [.agg (r.1.cells true),iV r.2]):=by
 refine Q6 (rvs:=[.cell 2 57,.tmp 3]) (rs:=[.agg (r.1.cells true),iV r.2]) Try.func30 rfl rfl rfl rfl (by simp[Try.f30]) λF hN hP=>?_;unfold Q1o at h;refine Q0 (runQ hN λK hK=>?_);simp;repeat refine sdQ ?_
 refine hK _ ?_;clear hK K;refine tn (Q2 (st':=⟨YY (Y0I []),Yw f_ (YQ []),2⟩) (wkQ [(0,0),(1,1)]) (Q0 (Q0 (runQ hN λK hK=>?_))));simp;repeat with_reducible refine sdQ ?_
 replace⟨v1,hv1,h⟩:=bind_some h;refine Q3 (w_s_l06Is _ v1 hv1) (.cons (.aggL (.cons .val (.cons .lst (.cons .lst (.cons .lst (.cons .lst (.cons .val (.cons .lst (.cons .lst (.cons .lst (.cons .lst (.cons .lst (.cons .lst .nil))))))))))))) .nil) ?_;simp;repeat refine sdQ ?_
 refine hK _ ?_;clear hK K;refine tn (Q2 (st':=⟨YY (Y0I [(8,.val (.bool (!v1)))]),Yw f_ (YQ []),2⟩) (wkQ [(0,0),(1,1)]) (Q7 rfl (λg=>?_) λg=>?_))
 ·have g2:¬(v1=true):=gQ;clear g;replace h:=if_l g2 h;refine Q0 (runQ hN λK hK=>?_);simp;repeat refine sdQ ?_
  refine hK _ (tn (Q2 (st':=⟨YA [(3,iV 1)],Y4 [],1⟩) (wkQ [(1,0)]) (Qe (tr ?_))));clear hK K;have hr:=yJ h;rw[←hr];refine⟨_,(.cell Q69 rfl rfl rfl (by simp) (by simp) (.tmp .nil)),?_⟩;refine⟨(.agg rfl (.one rfl rfl .nil)),[iV 0,nS,nS,nS,nS,iV 0,nS,nS,nS,nS,nS,nS,iV 0,nS,nS,nS,nS,iV 0,nS,nS,nS,nS,nS,nS,nS,nS,iV 1],[],by simp[BN],by simp,(.cons .refl (.cons .nil (.cons .nil (.cons .nil (.cons .nil (.cons .refl (.cons .nil (.cons .nil (.cons .nil (.cons .nil (.cons .nil (.cons .nil (.cons .refl (.cons .nil (.cons .nil (.cons .nil (.cons .nil (.cons .refl (.cons .nil (.cons .nil (.cons .nil (.cons .nil (.cons .nil (.cons .nil (.cons .nil (.cons .nil (.cons .refl .nil)))))))))))))))))))))))))))⟩
 have g2:¬(¬(v1=true)):=gQ;clear g;replace h:=if_r g2 h;refine Q8 (tn (Q0 (runQ hN λK hK=>?_)));simp;repeat with_reducible refine sdQ ?_
 replace⟨v3,hv3,h⟩:=bind_some h;refine Q3 (Q86 _ v3 hv3) (.cons (.aggL (.cons .val (.cons .lst (.cons .lst (.cons .lst (.cons .lst (.cons .val (.cons .lst (.cons .lst (.cons .lst (.cons .lst (.cons .lst (.cons .lst .nil))))))))))))) .nil) ?_;simp;repeat refine sdQ ?_
 refine hK _ ?_;clear hK K;refine tn (Q2 (st':=⟨YA [(4,.adr 1 0 0),(5,.val (.bool v3.2))],Y4 (Yk v3 []),24⟩) (wkQ [(1,0),(29,1),(3,2),(4,3),(5,4),(6,5),(8,6),(9,7),(10,8),(11,9),(12,10),(13,11),(15,12),(16,13),(17,14),(18,15),(20,16),(21,17),(22,18),(23,19),(24,20),(25,21),(26,22),(27,23)]) (Q0 (Q0 (runQ hN λK hK=>?_))));simp;repeat refine sdQ ?_
 refine hK _ ?_;clear hK K;refine tn (Q7 rfl (λg=>?_) λg=>?_)
 ·have g4:¬(v3.2=true):=gQ;clear g;replace h:=if_l g4 h;refine Q0 (runQ hN λK hK=>?_);simp;repeat refine sdQ ?_
  refine hK _ (tn (Q2 (st':=⟨YA [(3,iV 4)],Y4 [],1⟩) (wkQ [(0,0)]) (Qe (tr ?_))));clear hK K;have hr:=yJ h;rw[←hr];refine⟨_,(.cell Q69 rfl rfl rfl (by simp) (by simp) (.tmp .nil)),?_⟩;refine⟨(.agg rfl (.one rfl rfl .nil)),[iV 0,nS,nS,nS,nS,iV 0,nS,nS,nS,nS,nS,nS,iV 0,nS,nS,nS,nS,iV 0,nS,nS,nS,nS,nS,nS,nS,nS,iV 4],[],by simp[BN],by simp,(.cons .refl (.cons .nil (.cons .nil (.cons .nil (.cons .nil (.cons .refl (.cons .nil (.cons .nil (.cons .nil (.cons .nil (.cons .nil (.cons .nil (.cons .refl (.cons .nil (.cons .nil (.cons .nil (.cons .nil (.cons .refl (.cons .nil (.cons .nil (.cons .nil (.cons .nil (.cons .nil (.cons .nil (.cons .nil (.cons .nil (.cons .refl .nil)))))))))))))))))))))))))))⟩
 have g4:¬(¬(v3.2=true)):=gQ;clear g;replace h:=if_r g4 h;refine Q8 (tn (Q0 (runQ hN λK hK=>?_)));simp;repeat refine sdQ ?_
 refine hK _ (tn (Q2 (st':=⟨YA [(3,iV 0)],Ym v3 [],23⟩) (wkQ [(0,0),(2,1),(3,2),(4,3),(5,4),(6,5),(7,6),(8,7),(9,8),(10,9),(11,10),(12,11),(13,12),(14,13),(15,14),(16,15),(17,16),(18,17),(19,18),(20,19),(21,20),(22,21),(23,22)]) (Qe ?_)));clear hK K;have hr:=yJ h;rw[←hr];refine⟨_,(.cell Q69 rfl rfl rfl (by simp) (by simp) (.tmp .nil)),?_⟩;refine⟨(.agg rfl (.one rfl rfl .nil)),[iV v3.1.l.s.n,lI v3.1.l.s.fr,lI v3.1.l.s.to,lI v3.1.l.s.id,.lst true 1 (Ls v3.1.l.s.cs),iV v3.1.l.t.n,lI v3.1.l.t.fr,lI v3.1.l.t.to,lI v3.1.l.t.id,.lst true 1 (Ls v3.1.l.t.cs),lI v3.1.l.ob,lI v3.1.l.ar,iV v3.1.r.s.n,lI v3.1.r.s.fr,lI v3.1.r.s.to,lI v3.1.r.s.id,.lst true 1 (Ls v3.1.r.s.cs),iV v3.1.r.t.n,lI v3.1.r.t.fr,lI v3.1.r.t.to,lI v3.1.r.t.id,.lst true 1 (Ls v3.1.r.t.cs),lI v3.1.r.ob,lI v3.1.r.ar,lI v3.1.u,lI v3.1.k,iV 0],[1,2,3,4,5,6,7,8,9,10,11,12,13,14,15,16,17,18,19,20,21,22],by simp[BN],by simp,(yN _)⟩
section
attribute [local simp] Qi QP Qv Q1l QN
theorem Q7O{σ ε:Type}{body:σ→Option (Ctl σ ε)}(g:Nat→σ)(n:Nat)(p:Nat→Prop){eb eg:ε}{s0:σ}(h0:s0=g 0)(hn:n<4611686018427387904)(h1:∀i:Nat,i<n→p i→body (g i)=some (.next (g (i+1))))(h2:∀i:Nat,i<n→¬p i→body (g i)=some (.ret eb))(h3:body (g n)=some (.ret eg)):
  Qo body fuel s0=some (if bo (∀i:Nat,i<n→p i)=true then eg else eb):=by
 by_cases hall:∀i:Nat,i<n→p i
 ·rw[Qk hall,if_pos rfl];exact Q3J g n h0 hn (λi hi=>h1 i hi (hall i hi)) h3
 rw[Qd hall,if_neg (by simp)];have hex:∃i,i<n∧¬p i:=yP λhx=>hall λi hi=>yP λhp=>hx ⟨i,hi,hp⟩;obtain⟨m,⟨hm,hp⟩,hmin⟩:∃m,(m<n∧¬p m)∧∀k,k<m→¬(k<n∧¬p k):=by
  obtain⟨i,hi⟩:=hex
  induction i using Nat.strongRecOn with
  |_ i ih=>
   by_cases h:∃k,k<i∧k<n∧¬p k
   ·obtain⟨k,h1,h2⟩:=h;exact ih k h1 h2
   exact⟨i,hi,λk hk hh=>h ⟨k,hk,hh⟩⟩
 exact Q3J g m h0 (by omega) (λi hi=>h1 i (by omega) (yP λhh=>hmin i hi ⟨by omega,hh⟩)) (h2 m hm hp)
theorem Q7x{f:Fn}(h:f.Is){w x y e d:Int}(he:Ar f.t e (ix f.ob x) y)(h1:(lfL f w x e d).length=1):QZ f w x e d=some (ix (lfL f w x e d) 0):=by
 have n:=h.s.nums;have hl:=Q7G f.s w x;have hla:=h.la;obtain⟨u,hu⟩:=List.length_eq_one_iff.1 h1;have em:∀v,v∈lfL f w x e d↔v=u:=λv=>by rw[hu];simp
 have e0:ix (lfL f w x e d) 0=u:=by rw[hu];rfl
 unfold QZ;rw[(e_hm h.s w x).1];simp only[yA];rcases loop_fst (ε:=Unit⊕Int) (hmL f.s w x).length (λi=>¬phi f e (ix (hmL f.s w x) i)=d) (eb:=λi=>yL (ix (hmL f.s w x) i)) (eg:=yK ()) (by omega)
  (body:=λs9=>
  if s9<((hmL f.s w x).length:Int)then
   ass (0≤s9∧s9<((hmL f.s w x).length:Int))<|
   ass (0≤ix (hmL f.s w x) s9∧ix (hmL f.s w x) s9<(f.ar.length:Int))<|
   (Qq f.t (ix f.ar (ix (hmL f.s w x) s9)) e).bind λv13=>
   if v13=d then
    some (yM (yL (ix (hmL f.s w x) s9)))
   else
    ass (B64 (s9+1))<|
    some (Ctl.next (s9+1))
  else
   some (yM (yK ())))
  (λi hi q=>by
   have a:=hm_at hi;rw[if_pos (by omega),Q4 (by omega),Q4 (by have:=a.1;omega),(Q74 h he a).2];simp only[yA];rw[if_neg q,Q4 (by unfold B64;omega)])
  (λi hi q=>by
   have a:=hm_at hi;rw[if_pos (by omega),Q4 (by omega),Q4 (by have:=a.1;omega),(Q74 h he a).2];simp only[yA];rw[if_pos (Classical.not_not.1 q)])
  (by rw[if_neg (by omega)])with⟨q,_⟩|⟨i,hi,q,_,e1⟩
 ·exfalso;have:=(em u).2 rfl;unfold lfL at this;rw[List.mem_filter,bo_tt]at this;obtain⟨k,hk,rfl⟩:=List.getElem_of_mem this.1;rw[Q2e _ _ hk]at this;exact q k hk this.2
 rw[e1,e0];have hm:ix (hmL f.s w x) i∈lfL f w x e d:=by
  unfold lfL;rw[List.mem_filter,bo_tt];exact⟨by rw[←Q2e _ _ hi];exact List.getElem_mem hi,Classical.not_not.1 q⟩
 have:=(em _).1 hm;simp only[yA,this]
def raX(f:Fn)(n:Nat):List Int:=tab n λy=>(fd f y).1
def raE(f:Fn)(n:Nat):List Int:=tab n λy=>(fd f y).2.1
def Raj(f:Fn):Prop:=∀y:Nat,y<f.t.id.length→(fd f y).2.2=true
def raA(f:Fn)(g:Nat):Int:=ix (lfL f (fd f (ix f.t.fr g)).1 (fd f (ix f.t.to g)).1 (fd f (ix f.t.to g)).2.1 (ix (rx f.t.cs (fd f (ix f.t.fr g)).2.1) g)) 0
def raU(f:Fn)(x:Nat):Int:=ix (lfL f x (fd f (ix f.ob x)).1 (fd f (ix f.ob x)).2.1 (ix f.t.id (ix f.ob x))) 0
def raV(f:Fn):Adj:=⟨f,⟨f.t,f.s,raX f f.t.id.length,tab f.t.fr.length (raA f)⟩,tab f.ob.length (raU f),raE f f.t.id.length⟩
abbrev fn0:Fn:=⟨⟨0,[],[],[],[]⟩,⟨0,[],[],[],[]⟩,[],[]⟩
abbrev ad0:Adj:=⟨fn0,fn0,[],[]⟩
theorem Q61{f:Fn}(h:f.Is)(q:Raj f){y:Int}(hy:0≤y∧y<f.t.n):(0≤(fd f y).1∧(fd f y).1<f.s.n)∧Ar f.t (fd f y).2.1 (ix f.ob (fd f y).1) y∧UA f (fd f y).1 y (fd f y).2.1:=by
 obtain⟨i,rfl⟩:=yT hy.1;exact(e_fd h i).2.2 (q i (by have:=h.t.nums;omega))
theorem Q76{f:Fn}(h:f.Is)(q:Raj f){y w d:Int}(hy:0≤y∧y<f.t.n)(hw:0≤w∧w<f.s.n)(hd:Ar f.t d (ix f.ob w) y):(lfL f w (fd f y).1 (fd f y).2.1 d).length=1:=by
 obtain⟨i,rfl⟩:=yT hw.1;exact(Q61 h q hy).2.2 i (by have:=h.lo;omega) d (hm_mem.2 hd)
theorem Q60{f:Fn}{n:Nat}{y:Int}(h0:0≤y)(h1:y<n):ix (raX f n) y=(fd f y).1∧ix (raE f n) y=(fd f y).2.1:=by
 obtain⟨i,rfl⟩:=yT h0;exact⟨ix_tab n _ (by omega),ix_tab n _ (by omega)⟩
theorem e_right{f:Fn}(h:f.Is):QV f=some (if bo (Raj f)=true then(raV f,true)else(ad0,false))∧Q2L f=some (if bo (Raj f)=true then(raV f,true)else(ad0,false)):=by
 have n:=h.s.nums;have nt:=h.t.nums;have hlo:=h.lo;have hla:=h.la;have lX:(raX f f.t.id.length).length=f.t.id.length:=by simp[raX]
 have lE:(raE f f.t.id.length).length=f.t.id.length:=by simp[raE]
 constructor
 ·unfold QV;rw[Q7O (λi:Nat=>(raX f i,raE f i,(i:Int))) f.t.id.length (λy=>(fd f y).2.2=true) (eb:=yL (ad0,false)) (eg:=yK (raX f f.t.id.length,raE f f.t.id.length)) (by simp[raX,raE,tab]) (by omega)
   (λi hi q=>by
    simp only;rw[if_pos (by omega),(e_fd h i).1];simp only[yA];rw[if_neg (QW q),Q4 (by simp[raX];omega),Q4 (by simp[raE];omega),Q4 (by unfold B64;omega)];simp[raX,raE,Q7e])
   (λi hi q=>by
    simp only;rw[if_pos (by omega),(e_fd h i).1];simp only[yA];rw[if_pos q])
   (by simp only;rw[if_neg (by omega)])]
  by_cases q:Raj f
  case neg=>rw[Qd q,Qd (show¬∀i:Nat,i<f.t.id.length→(fd f i).2.2=true from q)];rfl
  rw[Qk q,Qk (show∀i:Nat,i<f.t.id.length→(fd f i).2.2=true from q)];simp only[if_true,yA];refine Q5I f.t.fr.length (raA f) (e:=tab f.t.fr.length (raA f)) (by omega) (λg hg=>?_) (by simp only;rw[if_neg (by omega)]) ?_
  ·have en:=h.t.ends (a:=(g:Int)) (by omega);have r1:=Q61 h q en.1;have r2:=Q61 h q en.2;have ga:Ar f.t g (ix f.t.fr g) (ix f.t.to g):=⟨by omega,rfl,rfl⟩;have c:=r1.2.1.two h.t ga;have x1:=Q60 (f:=f) (n:=f.t.id.length) en.1.1 (by omega);have x2:=Q60 (f:=f) (n:=f.t.id.length) en.2.1 (by omega);simp only;rw[if_pos (by omega),Q4 (by omega),Q4 (by omega),Q4 (by omega),Q4 (by omega),Q4 (by omega),Q4 (by omega),x1.1,x1.2,x2.1,x2.2,(r1.2.1.thn h.t ga).2];simp only[yA];rw[Q7x h r2.2.1 (Q76 h q en.2 r1.1 c)];rfl
  refine Q5I f.ob.length (raU f) (e:=tab f.ob.length (raU f)) (by omega) (λx hx=>?_) (by simp only;rw[if_neg (by omega)]) ?_
  ·have o:=fn_ob h (x:=(x:Int)) (by omega);have r1:=Q61 h q o.2;have x1:=Q60 (f:=f) (n:=f.t.id.length) o.2.1 (by omega);simp only;rw[if_pos (by omega),Q4 (by omega),Q4 (by omega),Q4 (by omega),Q4 (by omega),x1.1,x1.2,Q7x h r1.2.1 (Q76 h q o.2 (by omega) (h.t.Ai o.2))];rfl
  rw[Q4E h.t.ok h.s.ok (by omega) (by simp;omega)];simp only[yA];unfold Q2C Q1J Q2J;rw[Q4E h.s.ok h.t.ok (by omega) (by omega),Q4E h.t.ok h.s.ok (show(raX f f.t.id.length).length≤1048576 by omega) (by simp;omega)];simp only[yA];rw[Q4 (by simp;omega),Q4 (by omega)];rfl
 unfold Q2L;rw[Q7O (λi:Nat=>(raX f i,raE f i,(i:Int))) f.t.id.length (λy=>(fd f y).2.2=true) (eb:=yL (ad0,false)) (eg:=yK (raX f f.t.id.length,raE f f.t.id.length)) (by simp[raX,raE,tab]) (by omega)
  (λi hi q=>by
   simp only;rw[if_pos (by omega),(e_fd h i).2.1];simp only[yA];rw[if_neg (QW q),Q4 (by simp[raX];omega),Q4 (by simp[raE];omega),Q4 (by unfold B64;omega)];simp[raX,raE,Q7e])
  (λi hi q=>by
   simp only;rw[if_pos (by omega),(e_fd h i).2.1];simp only[yA];rw[if_pos q])
  (by simp only;rw[if_neg (by omega)])]
 by_cases q:Raj f
 case neg=>rw[Qd q,Qd (show¬∀i:Nat,i<f.t.id.length→(fd f i).2.2=true from q)];rfl
 rw[Qk q,Qk (show∀i:Nat,i<f.t.id.length→(fd f i).2.2=true from q)];simp only[if_true,yA];refine Q5I f.t.fr.length (raA f) (e:=tab f.t.fr.length (raA f)) (by omega) (λg hg=>?_) (by simp only;rw[if_neg (by omega)]) ?_
 ·have en:=h.t.ends (a:=(g:Int)) (by omega);have r1:=Q61 h q en.1;have r2:=Q61 h q en.2;have ga:Ar f.t g (ix f.t.fr g) (ix f.t.to g):=⟨by omega,rfl,rfl⟩;have c:=r1.2.1.two h.t ga;have x1:=Q60 (f:=f) (n:=f.t.id.length) en.1.1 (by omega);have x2:=Q60 (f:=f) (n:=f.t.id.length) en.2.1 (by omega);have l1:=Q76 h q en.2 r1.1 c;simp only;rw[if_pos (by omega),Q4 (by omega),Q4 (by omega),Q4 (by omega),Q4 (by omega),Q4 (by omega),Q4 (by omega),x1.1,x1.2,x2.1,x2.2,(r1.2.1.thn h.t ga).1];simp only[yA];rw[Q8d h r2.2.1];simp only[yA];rw[Q4 (by omega)];rfl
 refine Q5I f.ob.length (raU f) (e:=tab f.ob.length (raU f)) (by omega) (λx hx=>?_) (by simp only;rw[if_neg (by omega)]) ?_
 ·have o:=fn_ob h (x:=(x:Int)) (by omega);have r1:=Q61 h q o.2;have x1:=Q60 (f:=f) (n:=f.t.id.length) o.2.1 (by omega);have l1:=Q76 h q o.2 (w:=(x:Int)) (by omega) (h.t.Ai o.2);simp only;rw[if_pos (by omega),Q4 (by omega),Q4 (by omega),Q4 (by omega),Q4 (by omega),x1.1,x1.2,Q8d h r1.2.1];simp only[yA];rw[Q4 (by omega)];rfl
 unfold Q4j;rw[Q5N h.s.ok h.t.ok (by omega) (by omega),Q5N h.t.ok h.s.ok (by omega) (by simp;omega)];rfl
theorem Q7u{f:Fn}(h:f.Is):Q1n f=some (if bo (Raj f)=true then(raV f,0)else(ad0,4))∧Q1o f=some (if bo (Raj f)=true then(raV f,0)else(ad0,4)):=by
 unfold Q1n Q1o;rw[Q8c,e_l06Is,Qk h,(e_right h).1,(e_right h).2];simp only[yA]
 by_cases q:Raj f
 ·rw[Qk q];exact⟨rfl,rfl⟩
 rw[Qd q];exact⟨rfl,rfl⟩
end
attribute [local simp] unk unA unE unT unC flat eL eI Qc Q2i Qr Fn.cells XMonoidal.cells
def Q2n(m_:XMonoidal)(y_:Int)(z_:Int):Option (Int×Int×Int):=
 (Q1h m_ [y_,z_]).bind λv1=>
 if¬(v1=0)then
  some (0,0,v1)
 else
  (QU m_ y_).bind λv3=>
  (Qs v3 z_).bind λv4=>
  if¬(v4.2.2=true)then
   some (0,0,4)
  else
   some (v4.1,v4.2.1,0)
theorem Q6b(m_:XMonoidal)(y_:Int)(z_:Int)(r:Int×Int×Int)(h:Q2n m_ y_ z_=some r):Contract Try.prog 22 [.agg (m_.cells true),iV y_,iV z_] (.tup [iV r.1,iV r.2.1,iV r.2.2]):=by
 refine Q6 (rvs:=[.tmp 6,.tmp 7,.tmp 8]) (rs:=[iV r.1,iV r.2.1,iV r.2.2]) Try.func22 rfl rfl rfl rfl (by simp[Try.f22]) λF hN hP=>?_;unfold Q2n at h;refine Q0 (runQ hN λK hK=>?_);simp;repeat refine sdQ ?_
 refine hK _ ?_;clear hK K;refine tn (Q2 (st':=⟨Y03 y_ z_ [],YC m_ [],1⟩) (wkQ [(0,0)]) (Q0 (Q0 (runQ hN λK hK=>?_))));simp;repeat with_reducible refine sdQ ?_
 replace⟨v1,hv1,h⟩:=bind_some h;refine Q3 (Q3W _ _ v1 hv1) (.cons (.field rfl (by simp[CN]) (.cons .val (.cons .lst (.cons .lst (.cons .lst (.cons .lst (.cons .val (.cons .lst (.cons .lst .nil))))))))) (.cons (.lits (es:=_) rfl (.cons rfl (.cons .val .nil) (.cons rfl (.cons .val .nil) .nil)) rfl) .nil)) ?_;simp;repeat refine sdQ ?_
 refine hK _ ?_;clear hK K;refine tn (Q2 (st':=⟨Y03 y_ z_ [(9,iV v1)],YC m_ [],1⟩) (wkQ [(0,0)]) (Q0 (runQ hN λK hK=>?_)));simp;repeat refine sdQ ?_
 refine hK _ ?_;clear hK K;refine tn (Q7 rfl (λg=>?_) λg=>?_)
 ·have g2:¬(v1=0):=gQ;clear g;replace h:=if_l g2 h;refine Q0 (runQ hN λK hK=>?_);simp;repeat refine sdQ ?_
  refine hK _ (tn (Q2 (st':=⟨[(6,iV 0),(7,iV 0),(8,iV v1)],[],0⟩) (wkQ []) (Qe (tr ?_))));clear hK K;have hr:=yJ h;rw[←hr];refine⟨_,(.tmp (.tmp (.tmp .nil))),?_⟩;refine⟨(.one rfl rfl (.one rfl rfl (.one rfl rfl .nil))),[iV 0,iV 0,iV v1],[],by simp[BN],by simp,(yN _)⟩
 have g2:¬(¬(v1=0)):=gQ;clear g;replace h:=if_r g2 h;refine Q8 (tn (Q0 (runQ hN λK hK=>?_)));simp;repeat with_reducible refine sdQ ?_
 replace⟨v3,hv3,h⟩:=bind_some h;refine Q3 (Q29 _ _ v3 hv3) (.cons (.field rfl (by simp[CN]) (.cons .val (.cons .lst (.cons .lst (.cons .lst (.cons .lst (.cons .val (.cons .lst (.cons .lst .nil))))))))) (.cons .val .nil)) ?_;simp;repeat refine sdQ ?_
 refine hK _ ?_;clear hK K;refine tn (Q2 (st':=⟨[(2,iV z_),(10,.adr 0 0 0)],Y7 v3 [],11⟩) (wkQ [(13,0),(2,1),(3,2),(4,3),(5,4),(7,5),(8,6),(9,7),(10,8),(11,9),(12,10)]) (Q0 (runQ hN λK hK=>?_)));simp;repeat with_reducible refine sdQ ?_
 replace⟨v4,hv4,h⟩:=bind_some h;refine Q3 (Q1g _ _ v4 hv4) (.cons (.field rfl (by simp[CN]) (.cons .val (.cons .w (.cons .w (.cons .w (.cons .w (.cons .val (.cons .w (.cons .w (.cons .w (.cons .w (.cons .w (.cons .w .nil))))))))))))) (.cons .val .nil)) ?_;simp;repeat refine sdQ ?_
 refine hK _ ?_;clear hK K;refine tn (Q2 (st':=⟨[(11,iV v4.1),(12,iV v4.2.1),(13,.val (.bool v4.2.2))],[],0⟩) (wkQ []) (Q0 (Q0 (runQ hN λK hK=>?_))));simp;repeat refine sdQ ?_
 refine hK _ ?_;clear hK K;refine tn (Q7 rfl (λg=>?_) λg=>?_)
 ·have g5:¬(v4.2.2=true):=gQ;clear g;replace h:=if_l g5 h;refine Q0 (runQ hN λK hK=>?_);simp;repeat refine sdQ ?_
  refine hK _ (tn (Q2 (st':=⟨[(6,iV 0),(7,iV 0),(8,iV 4)],[],0⟩) (wkQ []) (Qe (tr ?_))));clear hK K;have hr:=yJ h;rw[←hr];refine⟨_,(.tmp (.tmp (.tmp .nil))),?_⟩;refine⟨(.one rfl rfl (.one rfl rfl (.one rfl rfl .nil))),[iV 0,iV 0,iV 4],[],by simp[BN],by simp,(yN _)⟩
 have g5:¬(¬(v4.2.2=true)):=gQ;clear g;replace h:=if_r g5 h;refine Q8 (tn (Q0 (runQ hN λK hK=>?_)));simp;repeat refine sdQ ?_
 refine hK _ (tn (Q2 (st':=⟨[(6,iV v4.1),(7,iV v4.2.1),(8,iV 0)],[],0⟩) (wkQ []) (Qe ?_)));clear hK K;have hr:=yJ h;rw[←hr];refine⟨_,(.tmp (.tmp (.tmp .nil))),?_⟩;refine⟨(.one rfl rfl (.one rfl rfl (.one rfl rfl .nil))),[iV v4.1,iV v4.2.1,iV 0],[],by simp[BN],by simp,(yN _)⟩
attribute [local simp] unk unA unE unT unC flat eL eI Qc Qr XMonoidal.cells
def Q2B(m_:XMonoidal):Option Bool:=
 (QF m_).bind λv1=>
 some v1
theorem Q6m(m_:XMonoidal)(r:Bool)(h:Q2B m_=some r):Contract Try.prog 24 [.agg (m_.cells true)] (.val (.bool r)):=by
 refine Q6 (rvs:=[.tmp 2]) (rs:=[.val (.bool r)]) Try.func24 rfl rfl rfl rfl (by simp[Try.f24]) λF hN hP=>?_;unfold Q2B at h;refine Q0 (runQ hN λK hK=>?_);simp;repeat refine sdQ ?_
 refine hK _ ?_;clear hK K;refine tn (Q2 (st':=⟨YY [],YC m_ [],1⟩) (wkQ [(0,0)]) (Q0 (runQ hN λK hK=>?_)));simp;repeat with_reducible refine sdQ ?_
 replace⟨v1,hv1,h⟩:=bind_some h;refine Q3 (Q1G _ v1 hv1) (.cons (.field rfl (by simp[CN]) (.cons .val (.cons .lst (.cons .lst (.cons .lst (.cons .lst (.cons .val (.cons .lst (.cons .lst .nil))))))))) .nil) ?_;simp;repeat refine sdQ ?_
 refine hK _ (tn (Q2 (st':=⟨[(2,.val (.bool v1))],[],0⟩) (wkQ []) (Qe ?_)));clear hK K;have hr:=yJ h;rw[←hr];refine⟨_,(.tmp .nil),?_⟩;refine⟨(.one rfl rfl .nil),[.val (.bool v1)],[],by simp[BN],by simp,(yN _)⟩
attribute [local simp] unk unA unE unT unC flat eL eI Qc Q2i Qr Fn.cells XMonoidal.cells
def Q20(m_:XMonoidal)(y_:Int):Option (Fn×Int):=
 (Q1h m_ [y_]).bind λv1=>
 if¬(v1=0)then
  some ((⟨(⟨0,[],[],[],[]⟩:Cat),(⟨0,[],[],[],[]⟩:Cat),[],[]⟩:Fn),v1)
 else
  (QU m_ y_).bind λv3=>
  some (v3,0)
theorem Q5w(m_:XMonoidal)(y_:Int)(r:Fn×Int)(h:Q20 m_ y_=some r):Contract Try.prog 27 [.agg (m_.cells true),iV y_] (.tup [.agg (r.1.cells true),iV r.2]):=by
 refine Q6 (rvs:=[.cell 4 38,.tmp 5]) (rs:=[.agg (r.1.cells true),iV r.2]) Try.func27 rfl rfl rfl rfl (by simp[Try.f27]) λF hN hP=>?_;unfold Q20 at h;refine Q0 (runQ hN λK hK=>?_);simp;repeat refine sdQ ?_
 refine hK _ ?_;clear hK K;refine tn (Q2 (st':=⟨(1,iV y_)::YA [(4,.adr 1 0 0)],Yi m_ [],2⟩) (wkQ [(0,0),(1,1)]) (Q0 (Q0 (runQ hN λK hK=>?_))));simp;repeat with_reducible refine sdQ ?_
 replace⟨v1,hv1,h⟩:=bind_some h;refine Q3 (Q3W _ _ v1 hv1) (.cons (.field rfl (by simp[CN]) (.cons .val (.cons .lst (.cons .lst (.cons .lst (.cons .lst (.cons .val (.cons .lst (.cons .lst .nil))))))))) (.cons (.lits (es:=_) rfl (.cons rfl (.cons .val .nil) .nil) rfl) .nil)) ?_;simp;repeat refine sdQ ?_
 refine hK _ ?_;clear hK K;refine tn (Q2 (st':=⟨(1,iV y_)::YA [(4,.adr 1 0 0),(6,iV v1)],Yi m_ [],2⟩) (wkQ [(0,0),(1,1)]) (Q0 (runQ hN λK hK=>?_)));simp;repeat refine sdQ ?_
 refine hK _ ?_;clear hK K;refine tn (Q7 rfl (λg=>?_) λg=>?_)
 ·have g2:¬(v1=0):=gQ;clear g;replace h:=if_l g2 h;refine Q0 (runQ hN λK hK=>?_);simp;repeat refine sdQ ?_
  refine hK _ (tn (Q2 (st':=⟨[(4,.adr 0 0 0),(5,iV v1)],Y0g [],1⟩) (wkQ [(1,0)]) (Qe (tr ?_))));clear hK K;have hr:=yJ h;rw[←hr];refine⟨_,(.cell Q6l rfl rfl rfl (by simp) (by simp) (.tmp .nil)),?_⟩;refine⟨(.agg rfl (.one rfl rfl .nil)),[iV 0,nS,nS,nS,nS,iV 0,nS,nS,nS,nS,nS,nS,iV v1],[],by simp[BN],by simp,(.cons .refl (.cons .nil (.cons .nil (.cons .nil (.cons .nil (.cons .refl (.cons .nil (.cons .nil (.cons .nil (.cons .nil (.cons .nil (.cons .nil (.cons .refl .nil)))))))))))))⟩
 have g2:¬(¬(v1=0)):=gQ;clear g;replace h:=if_r g2 h;refine Q8 (tn (Q0 (runQ hN λK hK=>?_)));simp;repeat with_reducible refine sdQ ?_
 replace⟨v3,hv3,h⟩:=bind_some h;refine Q3 (Q29 _ _ v3 hv3) (.cons (.field rfl (by simp[CN]) (.cons .val (.cons .lst (.cons .lst (.cons .lst (.cons .lst (.cons .val (.cons .lst (.cons .lst .nil))))))))) (.cons .val .nil)) ?_;simp;repeat refine sdQ ?_
 refine hK _ (tn (Q2 (st':=⟨[(4,.adr 0 0 0),(5,iV 0)],Y7 v3 [],11⟩) (wkQ [(1,0),(3,1),(4,2),(5,3),(6,4),(8,5),(9,6),(10,7),(11,8),(12,9),(13,10)]) (Qe ?_)));clear hK K;have hr:=yJ h;rw[←hr];refine⟨_,(.cell Q6l rfl rfl rfl (by simp) (by simp) (.tmp .nil)),?_⟩;refine⟨(.agg rfl (.one rfl rfl .nil)),[iV v3.s.n,lI v3.s.fr,lI v3.s.to,lI v3.s.id,.lst true 1 (Ls v3.s.cs),iV v3.t.n,lI v3.t.fr,lI v3.t.to,lI v3.t.id,.lst true 1 (Ls v3.t.cs),lI v3.ob,lI v3.ar,iV 0],[1,2,3,4,5,6,7,8,9,10],by simp[BN],by simp,(yN _)⟩
attribute [local simp] unk unA unE unT unC flat
def Q7b(code_:List Int):Option Bool:=
 some (decide ((code_.length:Int)>4096))
theorem w_l_big(code_:List Int)(r:Bool)(h:Q7b code_=some r):Contract Try.prog 6 [.lst true 1 (Us code_)] (.val (.bool r)):=by
 refine Q6 (rvs:=[.tmp 2]) (rs:=[.val (.bool r)]) Try.func6 rfl rfl rfl rfl (by simp[Try.f6]) λF hN hP=>?_;unfold Q7b at h;refine Q0 (runQ hN λK hK=>?_);simp[eL,eI,Qc];repeat refine sdQ ?_
 refine hK _ ?_;clear hK K;refine tn (Q2 (st':=⟨[(0,.lst true 1 (Us code_))],[],0⟩) (wkQ []) (Q0 (runQ hN λK hK=>?_)));simp[eL,eI,Qc];repeat refine sdQ ?_
 refine hK _ (tn (Q2 (st':=⟨[(2,.val (.bool (decide ((code_.length:Int)>4096))))],[],0⟩) (wkQ []) (Qe ?_)));clear hK K;have hr:=yJ h;rw[←hr];refine⟨_,(.tmp .nil),?_⟩;refine⟨(.one rfl rfl .nil),[.val (.bool (decide ((code_.length:Int)>4096)))],[],by simp[BN],by simp,(yN _)⟩
attribute [local simp] unk unA unE unT unC flat eL eI Qc
def QX(a_:List Int)(b_:List Int):Option Bool:=
 if¬((a_.length:Int)=(b_.length:Int))then
  some false
 else
  (Qo (σ:=Int) (ε:=Unit⊕Bool) (λs8=>
   if s8<(a_.length:Int)then
    ass (0≤s8∧s8<(a_.length:Int))<|
    ass (0≤s8∧s8<(b_.length:Int))<|
    if¬((ix a_ s8)=(ix b_ s8))then
     some (yM (yL false))
    else
     ass (B64 (s8+1))<|
     some (Ctl.next (s8+1))
   else
    some (yM (yK ()))) fuel 0).bind λe2=>
  match e2 with
  | .inl b2=>
   some true
  | .inr p2=>
   some p2
theorem Q1y(a_:List Int)(b_:List Int)(r:Bool)(h:QX a_ b_=some r):Contract Try.prog 10 [lI a_,lI b_] (.val (.bool r)):=by
 refine Q6 (rvs:=[.tmp 4]) (rs:=[.val (.bool r)]) Try.func10 rfl rfl rfl rfl (by simp[Try.f10]) λF hN hP=>?_;unfold QX at h;refine Q0 (runQ hN λK hK=>?_);simp;repeat refine sdQ ?_
 refine hK _ ?_;clear hK K;refine tn (Q2 (st':=⟨[(0,lI a_),(1,lI b_)],[],0⟩) (wkQ []) (Q0 (Q0 (runQ hN λK hK=>?_))));simp;repeat refine sdQ ?_
 refine hK _ ?_;clear hK K;refine tn (Q7 rfl (λg=>?_) λg=>?_)
 ·have g1:¬((a_.length:Int)=(b_.length:Int)):=gQ;clear g;replace h:=if_l g1 h;refine Q0 (runQ hN λK hK=>?_);simp;repeat refine sdQ ?_
  refine hK _ (tn (Q2 (st':=⟨Y0r [],[],0⟩) (wkQ []) (Qe (tr ?_))));clear hK K;have hr:=yJ h;rw[←hr];refine⟨_,(.tmp .nil),?_⟩;refine⟨(.one rfl rfl .nil),[.val (.bool false)],[],by simp[BN],by simp,(yN _)⟩
 have g1:¬(¬((a_.length:Int)=(b_.length:Int))):=gQ;clear g;replace h:=if_r g1 h;refine Q8 (tn (Q0 (Q0 (runQ hN λK hK=>?_))));simp;repeat refine sdQ ?_
 refine hK _ (tn (Q2 (st':=⟨[(0,lI a_),(1,lI b_),(5,iV 0)],[],0⟩) (wkQ []) ?_));clear hK K;replace⟨e2,h,h2⟩:=bind_some h;refine Q9 (λb2:Unit=>⟨[],[],0⟩) (λb2=>yK b2=e2) ?_ ?_
 ·refine Q5 (Qj h (λs8:Int=>⟨[(0,lI a_),(1,lI b_),(5,iV s8)],[],0⟩) (wkQ []) ?_);clear h;intro k8 s8 c8 h hk8;refine Q0 (Q0 (runQ hN λK hK=>?_));simp;repeat refine sdQ ?_
  refine hK _ ?_;clear hK K;refine tn (Q7 rfl (λg=>?_) λg=>?_)
  ·have g9:s8<(a_.length:Int):=gQ;clear g;replace h:=if_l g9 h;refine Q8 (tn (Q0 (Q5 (Q0 (runQ hN λK hK=>?_)))));replace⟨a10,h⟩:=Q1 h;replace⟨a11,h⟩:=Q1 h;simp[at_I a10,at_I a11];(repeat refine sdQ ?_);refine hK _ ?_;clear hK K;refine tn (Q7 rfl (λg=>?_) λg=>?_)
   ·have g12:¬((ix a_ s8)=(ix b_ s8)):=gQ;clear g;replace h:=if_l g12 h;refine Q0 (runQ hN λK hK=>?_);simp;(repeat refine sdQ ?_);refine hK _ (tn (Q2 (st':=⟨Y0r [],[],0⟩) (wkQ []) (Qe (br (tr (lr (br (tr ?_))))))));clear hK K;cases h;have q:_=e2:=hk8;have h:=h2;rw[←q]at h;clear q;(try dsimp only at h);have hr:=yJ h;rw[←hr];refine⟨_,(.tmp .nil),?_⟩;refine⟨(.one rfl rfl .nil),[.val (.bool false)],[],by simp[BN],by simp,(yN _)⟩
   have g12:¬(¬((ix a_ s8)=(ix b_ s8))):=gQ;clear g;replace h:=if_r g12 h;refine Q8 (bn (tn (runQ hN λK hK=>?_)));replace⟨a13,h⟩:=Q1 h;simp[Qh a13];(repeat refine sdQ ?_);refine hK _ ?_;clear hK K;cases h;exact rn (s':=s8+1) hk8 (wkQ [])
  have g9:¬(s8<(a_.length:Int)):=gQ;clear g;replace h:=if_r g9 h;refine Ql (tx (lx (bh ?_)));cases h;exact jn (b:=()) hk8 (wkQ [])
 intro b2 hb2;have h:=h2;try rw[←hb2]at h
 clear h2;try dsimp only at h
 refine Q0 (runQ hN λK hK=>?_);simp;repeat refine sdQ ?_
 refine hK _ (tn (Q2 (st':=⟨[(4,.val (.bool true))],[],0⟩) (wkQ []) (Qe ?_)));clear hK K;have hr:=yJ h;rw[←hr];refine⟨_,(.tmp .nil),?_⟩;refine⟨(.one rfl rfl .nil),[.val (.bool true)],[],by simp[BN],by simp,(yN _)⟩
attribute [local simp] unk unA unE unT unC flat eL eI Qc
def Q2o(a_:List (List Int))(b_:List (List Int)):Option Bool:=
 if¬((a_.length:Int)=(b_.length:Int))then
  some false
 else
  (Qo (σ:=Int) (ε:=Unit⊕Bool) (λs9=>
   if s9<(a_.length:Int)then
    ass (0≤s9∧s9<(a_.length:Int))<|
    ass (0≤s9∧s9<(b_.length:Int))<|
    (QX (rx a_ s9) (rx b_ s9)).bind λv13=>
    if¬(v13=true)then
     some (yM (yL false))
    else
     ass (B64 (s9+1))<|
     some (Ctl.next (s9+1))
   else
    some (yM (yK ()))) fuel 0).bind λe2=>
  match e2 with
  | .inl b2=>
   some true
  | .inr p2=>
   some p2
theorem Q7f(a_:List (List Int))(b_:List (List Int))(r:Bool)(h:Q2o a_ b_=some r):Contract Try.prog 54 (Y0W a_ (Y0W b_ [])) (.val (.bool r)):=by
 refine Q6 (rvs:=[.tmp 4]) (rs:=[.val (.bool r)]) Try.func54 rfl rfl rfl rfl (by simp[Try.f54]) λF hN hP=>?_;unfold Q2o at h;refine Q0 (runQ hN λK hK=>?_);simp;repeat refine sdQ ?_
 refine hK _ ?_;clear hK K;refine tn (Q2 (st':=⟨YB a_ [(1,.lst true 1 (Ls b_))],[],0⟩) (wkQ []) (Q0 (Q0 (runQ hN λK hK=>?_))));simp;repeat refine sdQ ?_
 refine hK _ ?_;clear hK K;refine tn (Q7 rfl (λg=>?_) λg=>?_)
 ·have g1:¬((a_.length:Int)=(b_.length:Int)):=gQ;clear g;replace h:=if_l g1 h;refine Q0 (runQ hN λK hK=>?_);simp;repeat refine sdQ ?_
  refine hK _ (tn (Q2 (st':=⟨Y0r [],[],0⟩) (wkQ []) (Qe (tr ?_))));clear hK K;have hr:=yJ h;rw[←hr];refine⟨_,(.tmp .nil),?_⟩;refine⟨(.one rfl rfl .nil),[.val (.bool false)],[],by simp[BN],by simp,(yN _)⟩
 have g1:¬(¬((a_.length:Int)=(b_.length:Int))):=gQ;clear g;replace h:=if_r g1 h;refine Q8 (tn (Q0 (Q0 (runQ hN λK hK=>?_))));simp;repeat refine sdQ ?_
 refine hK _ (tn (Q2 (st':=⟨YB a_ [(1,.lst true 1 (Ls b_)),(5,iV 0)],[],0⟩) (wkQ []) ?_));clear hK K;replace⟨e2,h,h2⟩:=bind_some h;refine Q9 (λb2:Unit=>⟨[],[],0⟩) (λb2=>yK b2=e2) ?_ ?_
 ·refine Q5 (Qj h (λs9:Int=>⟨YB a_ [(1,.lst true 1 (Ls b_)),(5,iV s9)],[],0⟩) (wkQ []) ?_);clear h;intro k9 s9 c9 h hk9;refine Q0 (Q0 (runQ hN λK hK=>?_));simp;repeat refine sdQ ?_
  refine hK _ ?_;clear hK K;refine tn (Q7 rfl (λg=>?_) λg=>?_)
  ·have g10:s9<(a_.length:Int):=gQ;clear g;replace h:=if_l g10 h;refine Q8 (tn (Q0 (Q5 (Q0 (runQ hN λK hK=>?_)))));replace⟨a11,h⟩:=Q1 h;replace⟨a12,h⟩:=Q1 h;simp[at_L a11,at_L a12];(repeat with_reducible refine sdQ ?_);replace⟨v13,hv13,h⟩:=bind_some h;refine Q3 (Q1y _ _ v13 hv13) (.cons .lst (.cons .lst .nil)) ?_;simp[at_L a11,at_L a12];(repeat refine sdQ ?_);refine hK _ ?_;clear hK K;refine tn (Q2 (st':=⟨YB a_ [(1,.lst true 1 (Ls b_)),(5,iV s9),(26,.val (.bool (!v13)))],[],0⟩) (wkQ []) (Q7 rfl (λg=>?_) λg=>?_))
   ·have g14:¬(v13=true):=gQ;clear g;replace h:=if_l g14 h;refine Q0 (runQ hN λK hK=>?_);simp;(repeat refine sdQ ?_);refine hK _ (tn (Q2 (st':=⟨Y0r [],[],0⟩) (wkQ []) (Qe (br (tr (lr (br (tr ?_))))))));clear hK K;cases h;have q:_=e2:=hk9;have h:=h2;rw[←q]at h;clear q;(try dsimp only at h);have hr:=yJ h;rw[←hr];refine⟨_,(.tmp .nil),?_⟩;refine⟨(.one rfl rfl .nil),[.val (.bool false)],[],by simp[BN],by simp,(yN _)⟩
   have g14:¬(¬(v13=true)):=gQ;clear g;replace h:=if_r g14 h;refine Q8 (bn (tn (runQ hN λK hK=>?_)));replace⟨a15,h⟩:=Q1 h;simp[Qh a15];(repeat refine sdQ ?_);refine hK _ ?_;clear hK K;cases h;exact rn (s':=s9+1) hk9 (wkQ [])
  have g10:¬(s9<(a_.length:Int)):=gQ;clear g;replace h:=if_r g10 h;refine Ql (tx (lx (bh ?_)));cases h;exact jn (b:=()) hk9 (wkQ [])
 intro b2 hb2;have h:=h2;try rw[←hb2]at h
 clear h2;try dsimp only at h
 refine Q0 (runQ hN λK hK=>?_);simp;repeat refine sdQ ?_
 refine hK _ (tn (Q2 (st':=⟨[(4,.val (.bool true))],[],0⟩) (wkQ []) (Qe ?_)));clear hK K;have hr:=yJ h;rw[←hr];refine⟨_,(.tmp .nil),?_⟩;refine⟨(.one rfl rfl .nil),[.val (.bool true)],[],by simp[BN],by simp,(yN _)⟩
attribute [local simp] unk unA unE unT unC flat eL eI Qc QS Cat.cells
def Q10(a_:Cat)(b_:Cat):Option Bool:=
 (
  if a_.n=b_.n then
   (QX a_.fr b_.fr).bind λv3=>
   if v3=true then
    (QX a_.to b_.to).bind λv5=>
    if v5=true then
     (QX a_.id b_.id).bind λv7=>
     if v7=true then
      (Q2o a_.cs b_.cs).bind λv9=>
      some v9
     else
      some false
    else
     some false
   else
    some false
  else
   some false:Option (Bool)).bind λb1=>
 some b1
theorem Q36(a_:Cat)(b_:Cat)(r:Bool)(h:Q10 a_ b_=some r):Contract Try.prog 19 [.agg (a_.cells true),.agg (b_.cells true)] (.val (.bool r)):=by
 refine Q6 (rvs:=[.tmp 4]) (rs:=[.val (.bool r)]) Try.func19 rfl rfl rfl rfl (by simp[Try.f19]) λF hN hP=>?_;unfold Q10 at h;refine Q0 (runQ hN λK hK=>?_);simp;repeat refine sdQ ?_
 refine hK _ (tn (Q2 (st':=⟨YA [(3,.adr 1 0 0)],Y04 a_ [(1,.mix 5 [(Cat.cells true b_)])],2⟩) (wkQ [(0,0),(1,1)]) (Q0 ?_)));clear hK K;replace⟨e1,h,h1⟩:=bind_some h;refine Q9 (λb1:Bool=>⟨[(4,.val (.bool b1))],[],0⟩) (λb1=>b1=e1) ?_ ?_
 ·refine runQ hN λK hK=>?_;simp;repeat with_reducible refine sdQ ?_
  refine Qa (λg=>?_) (λg=>?_)
  ·have g2:a_.n=b_.n:=gQ;clear g;replace h:=if_l g2 h;simp;(repeat with_reducible refine sdQ ?_);replace⟨v3,hv3,h⟩:=bind_some h;refine Q3 (Q1y _ _ v3 hv3) (.cons .lst (.cons .lst .nil)) ?_;simp;(repeat with_reducible refine sdQ ?_);refine Qa (λg=>?_) (λg=>?_)
   ·have g4:v3=true:=gQ;clear g;replace h:=if_l g4 h;simp;(repeat with_reducible refine sdQ ?_);replace⟨v5,hv5,h⟩:=bind_some h;refine Q3 (Q1y _ _ v5 hv5) (.cons .lst (.cons .lst .nil)) ?_;simp;(repeat with_reducible refine sdQ ?_);refine Qa (λg=>?_) (λg=>?_)
    ·have g6:v5=true:=gQ;clear g;replace h:=if_l g6 h;simp;(repeat with_reducible refine sdQ ?_);replace⟨v7,hv7,h⟩:=bind_some h;refine Q3 (Q1y _ _ v7 hv7) (.cons .lst (.cons .lst .nil)) ?_;simp;(repeat with_reducible refine sdQ ?_);refine Qa (λg=>?_) (λg=>?_)
     ·have g8:v7=true:=gQ;clear g;replace h:=if_l g8 h;simp;(repeat with_reducible refine sdQ ?_);replace⟨v9,hv9,h⟩:=bind_some h;refine Q3 (Q7f _ _ v9 hv9) (.cons .lst (.cons .lst .nil)) ?_;simp;(repeat refine sdQ ?_);refine hK _ ?_;exact jn (b:=v9) (yJ h) (wkQ [])
     have g8:¬(v7=true):=gQ;clear g;replace h:=if_r g8 h;simp;(repeat refine sdQ ?_);refine hK _ ?_;exact jn (b:=false) (yJ h) (wkQ [])
    have g6:¬(v5=true):=gQ;clear g;replace h:=if_r g6 h;simp;(repeat refine sdQ ?_);refine hK _ ?_;exact jn (b:=false) (yJ h) (wkQ [])
   have g4:¬(v3=true):=gQ;clear g;replace h:=if_r g4 h;simp;(repeat refine sdQ ?_);refine hK _ ?_;exact jn (b:=false) (yJ h) (wkQ [])
  have g2:¬(a_.n=b_.n):=gQ;clear g;replace h:=if_r g2 h;simp;repeat refine sdQ ?_
  refine hK _ ?_;exact jn (b:=false) (yJ h) (wkQ [])
 intro b1 hb1;have h:=h1;try rw[←hb1]at h
 clear h1;try dsimp only at h
 refine Qe ?_;have hr:=yJ h;rw[←hr];refine⟨_,(.tmp .nil),?_⟩;refine⟨(.one rfl rfl .nil),[.val (.bool b1)],[],by simp[BN],by simp,(yN _)⟩
attribute [local simp] unk unA unE unT unC flat eL eI Qc QS Q2i Cat.cells Fn.cells
def Q11(a_:Fn)(b_:Fn):Option Bool:=
 (
  (Q10 a_.s b_.s).bind λv2=>
  if v2=true then
   (Q10 a_.t b_.t).bind λv4=>
   if v4=true then
    (QX a_.ob b_.ob).bind λv6=>
    if v6=true then
     (QX a_.ar b_.ar).bind λv8=>
     some v8
    else
     some false
   else
    some false
  else
   some false:Option (Bool)).bind λb1=>
 some b1
theorem Q2z(a_:Fn)(b_:Fn)(r:Bool)(h:Q11 a_ b_=some r):Contract Try.prog 15 [.agg (a_.cells true),.agg (b_.cells true)] (.val (.bool r)):=by
 refine Q6 (rvs:=[.tmp 4]) (rs:=[.val (.bool r)]) Try.func15 rfl rfl rfl rfl (by simp[Try.f15]) λF hN hP=>?_;unfold Q11 at h;refine Q0 (runQ hN λK hK=>?_);simp;repeat refine sdQ ?_
 refine hK _ (tn (Q2 (st':=⟨YA [(3,.adr 1 0 0)],Yw a_ [(1,.mix 12 [(Fn.cells true b_)])],2⟩) (wkQ [(0,0),(1,1)]) (Q0 ?_)));clear hK K;replace⟨e1,h,h1⟩:=bind_some h;refine Q9 (λb1:Bool=>⟨[(4,.val (.bool b1))],[],0⟩) (λb1=>b1=e1) ?_ ?_
 ·refine runQ hN λK hK=>?_;simp;repeat with_reducible refine sdQ ?_
  replace⟨v2,hv2,h⟩:=bind_some h;refine Q3 (Q36 _ _ v2 hv2) (.cons (.aggL (.cons .val (.cons .lst (.cons .lst (.cons .lst (.cons .lst .nil)))))) (.cons (.aggL (.cons .val (.cons .lst (.cons .lst (.cons .lst (.cons .lst .nil)))))) .nil)) ?_;simp;repeat with_reducible refine sdQ ?_
  refine Qa (λg=>?_) (λg=>?_)
  ·have g3:v2=true:=gQ;clear g;replace h:=if_l g3 h;simp;(repeat with_reducible refine sdQ ?_);replace⟨v4,hv4,h⟩:=bind_some h;refine Q3 (Q36 _ _ v4 hv4) (.cons (.aggL (.cons .val (.cons .lst (.cons .lst (.cons .lst (.cons .lst .nil)))))) (.cons (.aggL (.cons .val (.cons .lst (.cons .lst (.cons .lst (.cons .lst .nil)))))) .nil)) ?_;simp;(repeat with_reducible refine sdQ ?_);refine Qa (λg=>?_) (λg=>?_)
   ·have g5:v4=true:=gQ;clear g;replace h:=if_l g5 h;simp;(repeat with_reducible refine sdQ ?_);replace⟨v6,hv6,h⟩:=bind_some h;refine Q3 (Q1y _ _ v6 hv6) (.cons .lst (.cons .lst .nil)) ?_;simp;(repeat with_reducible refine sdQ ?_);refine Qa (λg=>?_) (λg=>?_)
    ·have g7:v6=true:=gQ;clear g;replace h:=if_l g7 h;simp;(repeat with_reducible refine sdQ ?_);replace⟨v8,hv8,h⟩:=bind_some h;refine Q3 (Q1y _ _ v8 hv8) (.cons .lst (.cons .lst .nil)) ?_;simp;(repeat refine sdQ ?_);refine hK _ ?_;exact jn (b:=v8) (yJ h) (wkQ [])
    have g7:¬(v6=true):=gQ;clear g;replace h:=if_r g7 h;simp;(repeat refine sdQ ?_);refine hK _ ?_;exact jn (b:=false) (yJ h) (wkQ [])
   have g5:¬(v4=true):=gQ;clear g;replace h:=if_r g5 h;simp;(repeat refine sdQ ?_);refine hK _ ?_;exact jn (b:=false) (yJ h) (wkQ [])
  have g3:¬(v2=true):=gQ;clear g;replace h:=if_r g3 h;simp;repeat refine sdQ ?_
  refine hK _ ?_;exact jn (b:=false) (yJ h) (wkQ [])
 intro b1 hb1;have h:=h1;try rw[←hb1]at h
 clear h1;try dsimp only at h
 refine Qe ?_;have hr:=yJ h;rw[←hr];refine⟨_,(.tmp .nil),?_⟩;refine⟨(.one rfl rfl .nil),[.val (.bool b1)],[],by simp[BN],by simp,(yN _)⟩
attribute [local simp] unk unA unE unT unC flat eL eI Qc Q5M Q2i Adj.cells Fn.cells
def QM(a_:Adj)(b_:Adj):Option Bool:=
 (
  (Q11 a_.l b_.l).bind λv2=>
  if v2=true then
   (Q11 a_.r b_.r).bind λv4=>
   if v4=true then
    (QX a_.u b_.u).bind λv6=>
    if v6=true then
     (QX a_.k b_.k).bind λv8=>
     some v8
    else
     some false
   else
    some false
  else
   some false:Option (Bool)).bind λb1=>
 some b1
theorem Q4p(a_:Adj)(b_:Adj)(r:Bool)(h:QM a_ b_=some r):Contract Try.prog 31 [.agg (a_.cells true),.agg (b_.cells true)] (.val (.bool r)):=by
 refine Q6 (rvs:=[.tmp 4]) (rs:=[.val (.bool r)]) Try.func31 rfl rfl rfl rfl (by simp[Try.f31]) λF hN hP=>?_;unfold QM at h;refine Q0 (runQ hN λK hK=>?_);simp;repeat refine sdQ ?_
 refine hK _ (tn (Q2 (st':=⟨YA [(3,.adr 1 0 0)],[(0,.mix 26 [(Adj.cells true a_)]),(1,.mix 26 [(Adj.cells true b_)])],2⟩) (wkQ [(0,0),(1,1)]) (Q0 ?_)));clear hK K;replace⟨e1,h,h1⟩:=bind_some h;refine Q9 (λb1:Bool=>⟨[(4,.val (.bool b1))],[],0⟩) (λb1=>b1=e1) ?_ ?_
 ·refine runQ hN λK hK=>?_;simp;repeat with_reducible refine sdQ ?_
  replace⟨v2,hv2,h⟩:=bind_some h;refine Q3 (Q2z _ _ v2 hv2) (.cons (.aggL (.cons .val (.cons .lst (.cons .lst (.cons .lst (.cons .lst (.cons .val (.cons .lst (.cons .lst (.cons .lst (.cons .lst (.cons .lst (.cons .lst .nil))))))))))))) (.cons (.aggL (.cons .val (.cons .lst (.cons .lst (.cons .lst (.cons .lst (.cons .val (.cons .lst (.cons .lst (.cons .lst (.cons .lst (.cons .lst (.cons .lst .nil))))))))))))) .nil)) ?_;simp;repeat with_reducible refine sdQ ?_
  refine Qa (λg=>?_) (λg=>?_)
  ·have g3:v2=true:=gQ;clear g;replace h:=if_l g3 h;simp;(repeat with_reducible refine sdQ ?_);replace⟨v4,hv4,h⟩:=bind_some h;refine Q3 (Q2z _ _ v4 hv4) (.cons (.aggL (.cons .val (.cons .lst (.cons .lst (.cons .lst (.cons .lst (.cons .val (.cons .lst (.cons .lst (.cons .lst (.cons .lst (.cons .lst (.cons .lst .nil))))))))))))) (.cons (.aggL (.cons .val (.cons .lst (.cons .lst (.cons .lst (.cons .lst (.cons .val (.cons .lst (.cons .lst (.cons .lst (.cons .lst (.cons .lst (.cons .lst .nil))))))))))))) .nil)) ?_;simp;(repeat with_reducible refine sdQ ?_);refine Qa (λg=>?_) (λg=>?_)
   ·have g5:v4=true:=gQ;clear g;replace h:=if_l g5 h;simp;(repeat with_reducible refine sdQ ?_);replace⟨v6,hv6,h⟩:=bind_some h;refine Q3 (Q1y _ _ v6 hv6) (.cons .lst (.cons .lst .nil)) ?_;simp;(repeat with_reducible refine sdQ ?_);refine Qa (λg=>?_) (λg=>?_)
    ·have g7:v6=true:=gQ;clear g;replace h:=if_l g7 h;simp;(repeat with_reducible refine sdQ ?_);replace⟨v8,hv8,h⟩:=bind_some h;refine Q3 (Q1y _ _ v8 hv8) (.cons .lst (.cons .lst .nil)) ?_;simp;(repeat refine sdQ ?_);refine hK _ ?_;exact jn (b:=v8) (yJ h) (wkQ [])
    have g7:¬(v6=true):=gQ;clear g;replace h:=if_r g7 h;simp;(repeat refine sdQ ?_);refine hK _ ?_;exact jn (b:=false) (yJ h) (wkQ [])
   have g5:¬(v4=true):=gQ;clear g;replace h:=if_r g5 h;simp;(repeat refine sdQ ?_);refine hK _ ?_;exact jn (b:=false) (yJ h) (wkQ [])
  have g3:¬(v2=true):=gQ;clear g;replace h:=if_r g3 h;simp;repeat refine sdQ ?_
  refine hK _ ?_;exact jn (b:=false) (yJ h) (wkQ [])
 intro b1 hb1;have h:=h1;try rw[←hb1]at h
 clear h1;try dsimp only at h
 refine Qe ?_;have hr:=yJ h;rw[←hr];refine⟨_,(.tmp .nil),?_⟩;refine⟨(.one rfl rfl .nil),[.val (.bool b1)],[],by simp[BN],by simp,(yN _)⟩
attribute [local simp] unk unA unE unT unC flat eL eI Qc Q2i Qr Fn.cells XMonoidal.cells
def Q2p(m_:XMonoidal)(y_:Int)(z_:Int):Option (Int×Int×Int):=
 (Q1N m_ [y_,z_]).bind λv1=>
 if¬(v1=0)then
  some (0,0,v1)
 else
  (Q1C m_ y_).bind λv3=>
  (Q1B v3 z_).bind λv4=>
  if¬(v4.2.2=true)then
   some (0,0,4)
  else
   some (v4.1,v4.2.1,0)
theorem Q6d(m_:XMonoidal)(y_:Int)(z_:Int)(r:Int×Int×Int)(h:Q2p m_ y_ z_=some r):Contract Try.prog 23 [.agg (m_.cells true),iV y_,iV z_] (.tup [iV r.1,iV r.2.1,iV r.2.2]):=by
 refine Q6 (rvs:=[.tmp 6,.tmp 7,.tmp 8]) (rs:=[iV r.1,iV r.2.1,iV r.2.2]) Try.func23 rfl rfl rfl rfl (by simp[Try.f23]) λF hN hP=>?_;unfold Q2p at h;refine Q0 (runQ hN λK hK=>?_);simp;repeat refine sdQ ?_
 refine hK _ ?_;clear hK K;refine tn (Q2 (st':=⟨Y03 y_ z_ [],YC m_ [],1⟩) (wkQ [(0,0)]) (Q0 (Q0 (runQ hN λK hK=>?_))));simp;repeat with_reducible refine sdQ ?_
 replace⟨v1,hv1,h⟩:=bind_some h;refine Q3 (Q4s _ _ v1 hv1) (.cons (.aggL (.cons .val (.cons .lst (.cons .lst (.cons .lst (.cons .lst (.cons .val (.cons .lst (.cons .lst .nil))))))))) (.cons (.lits (es:=_) rfl (.cons rfl (.cons .val .nil) (.cons rfl (.cons .val .nil) .nil)) rfl) .nil)) ?_;simp;repeat refine sdQ ?_
 refine hK _ ?_;clear hK K;refine tn (Q2 (st':=⟨Y03 y_ z_ [(9,iV v1)],YC m_ [],1⟩) (wkQ [(0,0)]) (Q0 (runQ hN λK hK=>?_)));simp;repeat refine sdQ ?_
 refine hK _ ?_;clear hK K;refine tn (Q7 rfl (λg=>?_) λg=>?_)
 ·have g2:¬(v1=0):=gQ;clear g;replace h:=if_l g2 h;refine Q0 (runQ hN λK hK=>?_);simp;repeat refine sdQ ?_
  refine hK _ (tn (Q2 (st':=⟨[(6,iV 0),(7,iV 0),(8,iV v1)],[],0⟩) (wkQ []) (Qe (tr ?_))));clear hK K;have hr:=yJ h;rw[←hr];refine⟨_,(.tmp (.tmp (.tmp .nil))),?_⟩;refine⟨(.one rfl rfl (.one rfl rfl (.one rfl rfl .nil))),[iV 0,iV 0,iV v1],[],by simp[BN],by simp,(yN _)⟩
 have g2:¬(¬(v1=0)):=gQ;clear g;replace h:=if_r g2 h;refine Q8 (tn (Q0 (runQ hN λK hK=>?_)));simp;repeat with_reducible refine sdQ ?_
 replace⟨v3,hv3,h⟩:=bind_some h;refine Q3 (Q3R _ _ v3 hv3) (.cons (.aggL (.cons .val (.cons .lst (.cons .lst (.cons .lst (.cons .lst (.cons .val (.cons .lst (.cons .lst .nil))))))))) (.cons .val .nil)) ?_;simp;repeat with_reducible refine sdQ ?_
 replace⟨v4,hv4,h⟩:=bind_some h;refine Q3 (Q4A _ _ v4 hv4) (.cons (.aggL (.cons .val (.cons .w (.cons .w (.cons .w (.cons .w (.cons .val (.cons .w (.cons .w (.cons .w (.cons .w (.cons .w (.cons .w .nil))))))))))))) (.cons .val .nil)) ?_;simp;repeat refine sdQ ?_
 refine hK _ ?_;clear hK K;refine tn (Q2 (st':=⟨[(10,iV v4.1),(11,iV v4.2.1),(12,.val (.bool v4.2.2))],[],0⟩) (wkQ []) (Q0 (Q0 (runQ hN λK hK=>?_))));simp;repeat refine sdQ ?_
 refine hK _ ?_;clear hK K;refine tn (Q7 rfl (λg=>?_) λg=>?_)
 ·have g5:¬(v4.2.2=true):=gQ;clear g;replace h:=if_l g5 h;refine Q0 (runQ hN λK hK=>?_);simp;repeat refine sdQ ?_
  refine hK _ (tn (Q2 (st':=⟨[(6,iV 0),(7,iV 0),(8,iV 4)],[],0⟩) (wkQ []) (Qe (tr ?_))));clear hK K;have hr:=yJ h;rw[←hr];refine⟨_,(.tmp (.tmp (.tmp .nil))),?_⟩;refine⟨(.one rfl rfl (.one rfl rfl (.one rfl rfl .nil))),[iV 0,iV 0,iV 4],[],by simp[BN],by simp,(yN _)⟩
 have g5:¬(¬(v4.2.2=true)):=gQ;clear g;replace h:=if_r g5 h;refine Q8 (tn (Q0 (runQ hN λK hK=>?_)));simp;repeat refine sdQ ?_
 refine hK _ (tn (Q2 (st':=⟨[(6,iV v4.1),(7,iV v4.2.1),(8,iV 0)],[],0⟩) (wkQ []) (Qe ?_)));clear hK K;have hr:=yJ h;rw[←hr];refine⟨_,(.tmp (.tmp (.tmp .nil))),?_⟩;refine⟨(.one rfl rfl (.one rfl rfl (.one rfl rfl .nil))),[iV v4.1,iV v4.2.1,iV 0],[],by simp[BN],by simp,(yN _)⟩
attribute [local simp] unk unA unE unT unC flat eL eI Qc Q2i Qr Fn.cells XMonoidal.cells
def Q21(m_:XMonoidal)(y_:Int):Option (Fn×Int):=
 (Q1N m_ [y_]).bind λv1=>
 if¬(v1=0)then
  some ((⟨(⟨0,[],[],[],[]⟩:Cat),(⟨0,[],[],[],[]⟩:Cat),[],[]⟩:Fn),v1)
 else
  (Q1C m_ y_).bind λv3=>
  some (v3,0)
theorem Q5x(m_:XMonoidal)(y_:Int)(r:Fn×Int)(h:Q21 m_ y_=some r):Contract Try.prog 28 [.agg (m_.cells true),iV y_] (.tup [.agg (r.1.cells true),iV r.2]):=by
 refine Q6 (rvs:=[.cell 4 38,.tmp 5]) (rs:=[.agg (r.1.cells true),iV r.2]) Try.func28 rfl rfl rfl rfl (by simp[Try.f28]) λF hN hP=>?_;unfold Q21 at h;refine Q0 (runQ hN λK hK=>?_);simp;repeat refine sdQ ?_
 refine hK _ ?_;clear hK K;refine tn (Q2 (st':=⟨(1,iV y_)::YA [(4,.adr 1 0 0)],Yi m_ [],2⟩) (wkQ [(0,0),(1,1)]) (Q0 (Q0 (runQ hN λK hK=>?_))));simp;repeat with_reducible refine sdQ ?_
 replace⟨v1,hv1,h⟩:=bind_some h;refine Q3 (Q4s _ _ v1 hv1) (.cons (.aggL (.cons .val (.cons .lst (.cons .lst (.cons .lst (.cons .lst (.cons .val (.cons .lst (.cons .lst .nil))))))))) (.cons (.lits (es:=_) rfl (.cons rfl (.cons .val .nil) .nil) rfl) .nil)) ?_;simp;repeat refine sdQ ?_
 refine hK _ ?_;clear hK K;refine tn (Q2 (st':=⟨(1,iV y_)::YA [(4,.adr 1 0 0),(6,iV v1)],Yi m_ [],2⟩) (wkQ [(0,0),(1,1)]) (Q0 (runQ hN λK hK=>?_)));simp;repeat refine sdQ ?_
 refine hK _ ?_;clear hK K;refine tn (Q7 rfl (λg=>?_) λg=>?_)
 ·have g2:¬(v1=0):=gQ;clear g;replace h:=if_l g2 h;refine Q0 (runQ hN λK hK=>?_);simp;repeat refine sdQ ?_
  refine hK _ (tn (Q2 (st':=⟨[(4,.adr 0 0 0),(5,iV v1)],Y0g [],1⟩) (wkQ [(1,0)]) (Qe (tr ?_))));clear hK K;have hr:=yJ h;rw[←hr];refine⟨_,(.cell Q6l rfl rfl rfl (by simp) (by simp) (.tmp .nil)),?_⟩;refine⟨(.agg rfl (.one rfl rfl .nil)),[iV 0,nS,nS,nS,nS,iV 0,nS,nS,nS,nS,nS,nS,iV v1],[],by simp[BN],by simp,(.cons .refl (.cons .nil (.cons .nil (.cons .nil (.cons .nil (.cons .refl (.cons .nil (.cons .nil (.cons .nil (.cons .nil (.cons .nil (.cons .nil (.cons .refl .nil)))))))))))))⟩
 have g2:¬(¬(v1=0)):=gQ;clear g;replace h:=if_r g2 h;refine Q8 (tn (Q0 (runQ hN λK hK=>?_)));simp;repeat with_reducible refine sdQ ?_
 replace⟨v3,hv3,h⟩:=bind_some h;refine Q3 (Q3R _ _ v3 hv3) (.cons (.aggL (.cons .val (.cons .lst (.cons .lst (.cons .lst (.cons .lst (.cons .val (.cons .lst (.cons .lst .nil))))))))) (.cons .val .nil)) ?_;simp;repeat refine sdQ ?_
 refine hK _ (tn (Q2 (st':=⟨[(4,.adr 0 0 0),(5,iV 0)],Y7 v3 [],11⟩) (wkQ [(1,0),(3,1),(4,2),(5,3),(6,4),(8,5),(9,6),(10,7),(11,8),(12,9),(13,10)]) (Qe ?_)));clear hK K;have hr:=yJ h;rw[←hr];refine⟨_,(.cell Q6l rfl rfl rfl (by simp) (by simp) (.tmp .nil)),?_⟩;refine⟨(.agg rfl (.one rfl rfl .nil)),[iV v3.s.n,lI v3.s.fr,lI v3.s.to,lI v3.s.id,.lst true 1 (Ls v3.s.cs),iV v3.t.n,lI v3.t.fr,lI v3.t.to,lI v3.t.id,.lst true 1 (Ls v3.t.cs),lI v3.ob,lI v3.ar,iV 0],[1,2,3,4,5,6,7,8,9,10],by simp[BN],by simp,(yN _)⟩
attribute [local simp] unk unA unE unT unC flat eL eI Qc Q5M Q2i Qr Adj.cells Fn.cells XMonoidal.cells
def Q1O(code_:List Int):Option Bool:=
 (Q7b code_).bind λv1=>
 if v1=true then
  some true
 else
  (Q1c code_).bind λv3=>
  (Q2n v3.1 v3.2.1 v3.2.2).bind λv4=>
  (Q2p v3.1 v3.2.1 v3.2.2).bind λv5=>
  (
   if¬(v4.2.2=v5.2.2)then
    some true
   else
    if¬(v4.1=v5.1)then
     some true
    else
     some (v4.2.1 !=v5.2.1):Option (Bool)).bind λb6=>
  if b6=true then
   some false
  else
   if v4.2.2=1 then
    (Q2B v3.1).bind λv11=>
    some (!v11)
   else
    (Q2I v3.1).bind λv12=>
    (Q2K v3.1).bind λv13=>
    (
     if¬(v12.2=v13.2)then
      some true
     else
      if¬(v12.1=v13.1)then
       some true
      else
       if v13.1=true then
        some (v4.2.2==4)
       else
        some false:Option (Bool)).bind λb14=>
    if b14=true then
     some false
    else
     if¬(v4.2.2=0)then
      some true
     else
      (Q20 v3.1 v3.2.1).bind λv20=>
      (Q21 v3.1 v3.2.1).bind λv21=>
      (Q1n v21.1).bind λv22=>
      (Q1o v21.1).bind λv23=>
      (
       if¬(v20.2=0)then
        some true
       else
        (Q11 v20.1 v21.1).bind λv26=>
        if¬(v26=true)then
         some true
        else
         if¬(v22.2=v23.2)then
          some true
         else
          (QM v22.1 v23.1).bind λv29=>
          some (!v29):Option (Bool)).bind λb24=>
      if b24=true then
       some false
      else
       (
        if¬(v22.2=0)then
         some true
        else
         ass (0≤v3.2.2∧v3.2.2<(v23.1.r.ob.length:Int))<|
         if(ix v23.1.r.ob v3.2.2)=v5.1 then
          ass (0≤v3.2.2∧v3.2.2<(v23.1.k.length:Int))<|
          some ((ix v23.1.k v3.2.2)==v5.2.1)
         else
          some false:Option (Bool)).bind λb31=>
       some b31
@[simp] abbrev Y0N(a:Fn×Int)(b:List (AV)):List (AV):=iV a.1.s.n::.own 12 0 a.1.s.fr.length::.own 13 0 a.1.s.to.length::.own 14 0 a.1.s.id.length::.own 15 0 a.1.s.cs.length::iV a.1.t.n::.own 16 0 a.1.t.fr.length::.own 17 0 a.1.t.to.length::.own 18 0 a.1.t.id.length::.own 19 0 a.1.t.cs.length::.own 20 0 a.1.ob.length::.own 21 0 a.1.ar.length::b
@[simp] abbrev Y0O(a:Fn×Int)(b:List (AV)):List (AV):=iV a.1.s.n::.own 1 0 a.1.s.fr.length::.own 2 0 a.1.s.to.length::.own 3 0 a.1.s.id.length::.own 4 0 a.1.s.cs.length::iV a.1.t.n::.own 5 0 a.1.t.fr.length::.own 6 0 a.1.t.to.length::.own 7 0 a.1.t.id.length::.own 8 0 a.1.t.cs.length::.own 9 0 a.1.ob.length::.own 10 0 a.1.ar.length::b
@[simp] abbrev Ya(a b:Fn×Int)(c:Adj×Int)(d:List (Nat×Ent)):List (Nat×Ent):=(0,.mix 12 [(Y0O a [])])::(1,rI a.1.s.fr)::(2,rI a.1.s.to)::(3,rI a.1.s.id)::(4,.row 1 (Ls a.1.s.cs))::(5,rI a.1.t.fr)::(6,rI a.1.t.to)::(7,rI a.1.t.id)::(8,.row 1 (Ls a.1.t.cs))::(9,rI a.1.ob)::(10,rI a.1.ar)::(11,.mix 12 [(Y0N b [])])::(12,rI b.1.s.fr)::(13,rI b.1.s.to)::(14,rI b.1.s.id)::(15,.row 1 (Ls b.1.s.cs))::(16,rI b.1.t.fr)::(17,rI b.1.t.to)::(18,rI b.1.t.id)::(19,.row 1 (Ls b.1.t.cs))::(20,rI b.1.ob)::(21,rI b.1.ar)::(22,.mix 26 [[iV c.1.l.s.n,.own 23 0 c.1.l.s.fr.length,.own 24 0 c.1.l.s.to.length,.own 25 0 c.1.l.s.id.length,.own 26 0 c.1.l.s.cs.length,iV c.1.l.t.n,.own 27 0 c.1.l.t.fr.length,.own 28 0 c.1.l.t.to.length,.own 29 0 c.1.l.t.id.length,.own 30 0 c.1.l.t.cs.length,.own 31 0 c.1.l.ob.length,.own 32 0 c.1.l.ar.length,iV c.1.r.s.n,.own 33 0 c.1.r.s.fr.length,.own 34 0 c.1.r.s.to.length,.own 35 0 c.1.r.s.id.length,.own 36 0 c.1.r.s.cs.length,iV c.1.r.t.n,.own 37 0 c.1.r.t.fr.length,.own 38 0 c.1.r.t.to.length,.own 39 0 c.1.r.t.id.length,.own 40 0 c.1.r.t.cs.length,.own 41 0 c.1.r.ob.length,.own 42 0 c.1.r.ar.length,.own 43 0 c.1.u.length,.own 44 0 c.1.k.length]])::(23,rI c.1.l.s.fr)::(24,rI c.1.l.s.to)::(25,rI c.1.l.s.id)::(26,.row 1 (Ls c.1.l.s.cs))::(27,rI c.1.l.t.fr)::(28,rI c.1.l.t.to)::(29,rI c.1.l.t.id)::(30,.row 1 (Ls c.1.l.t.cs))::(31,rI c.1.l.ob)::(32,rI c.1.l.ar)::(33,rI c.1.r.s.fr)::(34,rI c.1.r.s.to)::(35,rI c.1.r.s.id)::(36,.row 1 (Ls c.1.r.s.cs))::(37,rI c.1.r.t.fr)::(38,rI c.1.r.t.to)::(39,rI c.1.r.t.id)::d
@[simp] abbrev Y0b(a:XMonoidal×Int×Int)(b:List (Nat×AV)):List (Nat×AV):=(3,.adr 0 0 0)::(4,iV a.2.1)::(5,iV a.2.2)::b
@[simp] abbrev Y0y(a:Int×Int×Int)(b:List (Nat×AV)):List (Nat×AV):=(9,iV a.1)::(10,iV a.2.1)::b
theorem Q4U(code_:List Int)(r:Bool)(h:Q1O code_=some r):Contract Try.prog 4 [.lst true 1 (Us code_)] (.val (.bool r)):=by
 refine Q6 (rvs:=[.tmp 2]) (rs:=[.val (.bool r)]) Try.func4 rfl rfl rfl rfl (by simp[Try.f4]) λF hN hP=>?_;unfold Q1O at h;refine Q0 (runQ hN λK hK=>?_);simp;repeat refine sdQ ?_
 refine hK _ ?_;clear hK K;refine tn (Q2 (st':=⟨[(0,.lst true 1 (Us code_))],[],0⟩) (wkQ []) (Q0 (Q0 (runQ hN λK hK=>?_))));simp;repeat with_reducible refine sdQ ?_
 replace⟨v1,hv1,h⟩:=bind_some h;refine Q3 (w_l_big _ v1 hv1) (.cons .lst .nil) ?_;simp;repeat refine sdQ ?_
 refine hK _ ?_;clear hK K;refine tn (Q2 (st':=⟨[(0,.lst true 1 (Us code_)),(25,.val (.bool v1))],[],0⟩) (wkQ []) (Q7 rfl (λg=>?_) λg=>?_))
 ·have g2:v1=true:=gQ;clear g;replace h:=if_l g2 h;refine Q0 (runQ hN λK hK=>?_);simp;repeat refine sdQ ?_
  refine hK _ (tn (Q2 (st':=⟨Y0u [],[],0⟩) (wkQ []) (Qe (tr ?_))));clear hK K;have hr:=yJ h;rw[←hr];refine⟨_,(.tmp .nil),?_⟩;refine⟨(.one rfl rfl .nil),[.val (.bool true)],[],by simp[BN],by simp,(yN _)⟩
 have g2:¬(v1=true):=gQ;clear g;replace h:=if_r g2 h;refine Q8 (tn (Q0 (rxQ hN λK hK=>?_)));simp;repeat with_reducible refine sdQ ?_
 replace⟨v3,hv3,h⟩:=bind_some h;refine Q7n (fz:=[]) true (Q4y _ v3 hv3) (PurK.ofN (.cons .lst .nil)) ?_;simp;repeat refine sdQ ?_
 refine hK _ ?_;clear hK K;refine tn (Q2 (st':=⟨Y0b v3 [],Y0a v3 [],1⟩) (wkQ [(0,0)]) (Q0 (runQ hN λK hK=>?_)));simp;repeat with_reducible refine sdQ ?_
 replace⟨v4,hv4,h⟩:=bind_some h;refine Q3 (Q6b _ _ _ v4 hv4) (.cons (.aggL (.cons .val (.cons .lst (.cons .lst (.cons .lst (.cons .lst (.cons .val (.cons .lst (.cons .lst .nil))))))))) (.cons .val (.cons .val .nil))) ?_;simp;repeat refine sdQ ?_
 refine hK _ ?_;clear hK K;refine tn (Q2 (st':=⟨Y0b v3 [(6,iV v4.1),(7,iV v4.2.1),(8,iV v4.2.2)],Y0a v3 [],1⟩) (wkQ [(0,0)]) (Q0 (runQ hN λK hK=>?_)));simp;repeat with_reducible refine sdQ ?_
 replace⟨v5,hv5,h⟩:=bind_some h;refine Q3 (Q6d _ _ _ v5 hv5) (.cons (.aggL (.cons .val (.cons .lst (.cons .lst (.cons .lst (.cons .lst (.cons .val (.cons .lst (.cons .lst .nil))))))))) (.cons .val (.cons .val .nil))) ?_;simp;repeat refine sdQ ?_
 refine hK _ (tn (Q2 (st':=⟨Y0b v3 ((6,iV v4.1)::(7,iV v4.2.1)::(8,iV v4.2.2)::Y0y v5 [(11,iV v5.2.2)]),Y0a v3 [],1⟩) (wkQ [(0,0)]) (Q0 (Q0 ?_))));clear hK K;replace⟨e6,h,h6⟩:=bind_some h;refine Q9 (λb6:Bool=>⟨Y0b v3 ((8,iV v4.2.2)::Y0y v5 [(60,.val (.bool b6))]),Y0a v3 [],1⟩) (λb6=>b6=e6) ?_ ?_
 ·refine runQ hN λK hK=>?_;simp;repeat with_reducible refine sdQ ?_
  refine Qa (λg=>?_) (λg=>?_)
  ·have g7:¬(¬(v4.2.2=v5.2.2)):=gQ;clear g;replace h:=if_r g7 h;simp;(repeat with_reducible refine sdQ ?_);refine Qa (λg=>?_) (λg=>?_)
   ·have g8:¬(¬(v4.1=v5.1)):=gQ;clear g;replace h:=if_r g8 h;simp;(repeat refine sdQ ?_);refine hK _ ?_;exact jn (b:=v4.2.1 !=v5.2.1) (yJ h) (wkQ [(0,0)])
   have g8:¬(v4.1=v5.1):=gQ;clear g;replace h:=if_l g8 h;simp;(repeat refine sdQ ?_);refine hK _ ?_;exact jn (b:=true) (yJ h) (wkQ [(0,0)])
  have g7:¬(v4.2.2=v5.2.2):=gQ;clear g;replace h:=if_l g7 h;simp;repeat refine sdQ ?_
  refine hK _ ?_;exact jn (b:=true) (yJ h) (wkQ [(0,0)])
 intro b6 hb6;have h:=h6;try rw[←hb6]at h
 clear h6;try dsimp only at h
 refine Q7 rfl (λg=>?_) λg=>?_
 ·have g9:b6=true:=gQ;clear g;replace h:=if_l g9 h;refine Q0 (runQ hN λK hK=>?_);simp;repeat refine sdQ ?_
  refine hK _ (tn (Q2 (st':=⟨YM [],[],0⟩) (wkQ []) (Qe (tr ?_))));clear hK K;have hr:=yJ h;rw[←hr];refine⟨_,(.tmp .nil),?_⟩;refine⟨(.one rfl rfl .nil),[.val (.bool false)],[],by simp[BN],by simp,(yN _)⟩
 have g9:¬(b6=true):=gQ;clear g;replace h:=if_r g9 h;refine Q8 (tn (Q0 (Q0 (runQ hN λK hK=>?_))));simp;repeat refine sdQ ?_
 refine hK _ ?_;clear hK K;refine tn (Q7 rfl (λg=>?_) λg=>?_)
 ·have g10:v4.2.2=1:=gQ;clear g;replace h:=if_l g10 h;refine Q0 (runQ hN λK hK=>?_);simp;repeat with_reducible refine sdQ ?_
  replace⟨v11,hv11,h⟩:=bind_some h;refine Q3 (Q6m _ v11 hv11) (.cons (.aggL (.cons .val (.cons .lst (.cons .lst (.cons .lst (.cons .lst (.cons .val (.cons .lst (.cons .lst .nil))))))))) .nil) ?_;simp;repeat refine sdQ ?_
  refine hK _ (tn (Q2 (st':=⟨[(2,.val (.bool (!v11)))],[],0⟩) (wkQ []) (Qe (tr ?_))));clear hK K;have hr:=yJ h;rw[←hr];refine⟨_,(.tmp .nil),?_⟩;refine⟨(.one rfl rfl .nil),[.val (.bool (!v11))],[],by simp[BN],by simp,(yN _)⟩
 have g10:¬(v4.2.2=1):=gQ;clear g;replace h:=if_r g10 h;refine Q8 (tn (Q0 (runQ hN λK hK=>?_)));simp;repeat with_reducible refine sdQ ?_
 replace⟨v12,hv12,h⟩:=bind_some h;refine Q3 (Q83 _ v12 hv12) (.cons (.aggL (.cons .val (.cons .lst (.cons .lst (.cons .lst (.cons .lst (.cons .val (.cons .lst (.cons .lst .nil))))))))) .nil) ?_;simp;repeat refine sdQ ?_
 refine hK _ ?_;clear hK K;refine tn (Q2 (st':=⟨Y0b v3 ((8,iV v4.2.2)::Y0y v5 [(12,.val (.bool v12.1)),(13,iV v12.2)]),Y0a v3 [],1⟩) (wkQ [(0,0)]) (Q0 (runQ hN λK hK=>?_)));simp;repeat with_reducible refine sdQ ?_
 replace⟨v13,hv13,h⟩:=bind_some h;refine Q3 (Q85 _ v13 hv13) (.cons (.aggL (.cons .val (.cons .lst (.cons .lst (.cons .lst (.cons .lst (.cons .val (.cons .lst (.cons .lst .nil))))))))) .nil) ?_;simp;repeat refine sdQ ?_
 refine hK _ (tn (Q2 (st':=⟨Y0b v3 ((8,iV v4.2.2)::Y0y v5 [(12,.val (.bool v12.1)),(13,iV v12.2),(14,.val (.bool v13.1)),(15,iV v13.2)]),Y0a v3 [],1⟩) (wkQ [(0,0)]) (Q0 (Q0 ?_))));clear hK K;replace⟨e14,h,h14⟩:=bind_some h;refine Q9 (λb14:Bool=>⟨Y0b v3 ((8,iV v4.2.2)::Y0y v5 [(90,.val (.bool b14))]),Y0a v3 [],1⟩) (λb14=>b14=e14) ?_ ?_
 ·refine runQ hN λK hK=>?_;simp;repeat with_reducible refine sdQ ?_
  refine Qa (λg=>?_) (λg=>?_)
  ·have g15:¬(¬(v12.2=v13.2)):=gQ;clear g;replace h:=if_r g15 h;simp;(repeat with_reducible refine sdQ ?_);refine Qa (λg=>?_) (λg=>?_)
   ·have g16:¬(¬(v12.1=v13.1)):=gQ;clear g;replace h:=if_r g16 h;simp;(repeat with_reducible refine sdQ ?_);refine Qa (λg=>?_) (λg=>?_)
    ·have g17:v13.1=true:=gQ;clear g;replace h:=if_l g17 h;simp;(repeat refine sdQ ?_);refine hK _ ?_;exact jn (b:=v4.2.2==4) (yJ h) (wkQ [(0,0)])
    have g17:¬(v13.1=true):=gQ;clear g;replace h:=if_r g17 h;simp;(repeat refine sdQ ?_);refine hK _ ?_;exact jn (b:=false) (yJ h) (wkQ [(0,0)])
   have g16:¬(v12.1=v13.1):=gQ;clear g;replace h:=if_l g16 h;simp;(repeat refine sdQ ?_);refine hK _ ?_;exact jn (b:=true) (yJ h) (wkQ [(0,0)])
  have g15:¬(v12.2=v13.2):=gQ;clear g;replace h:=if_l g15 h;simp;repeat refine sdQ ?_
  refine hK _ ?_;exact jn (b:=true) (yJ h) (wkQ [(0,0)])
 intro b14 hb14;have h:=h14;try rw[←hb14]at h
 clear h14;try dsimp only at h
 refine Q7 rfl (λg=>?_) λg=>?_
 ·have g18:b14=true:=gQ;clear g;replace h:=if_l g18 h;refine Q0 (runQ hN λK hK=>?_);simp;repeat refine sdQ ?_
  refine hK _ (tn (Q2 (st':=⟨YM [],[],0⟩) (wkQ []) (Qe (tr ?_))));clear hK K;have hr:=yJ h;rw[←hr];refine⟨_,(.tmp .nil),?_⟩;refine⟨(.one rfl rfl .nil),[.val (.bool false)],[],by simp[BN],by simp,(yN _)⟩
 have g18:¬(b14=true):=gQ;clear g;replace h:=if_r g18 h;refine Q8 (tn (Q0 (Q0 (runQ hN λK hK=>?_))));simp;repeat refine sdQ ?_
 refine hK _ ?_;clear hK K;refine tn (Q7 rfl (λg=>?_) λg=>?_)
 ·have g19:¬(v4.2.2=0):=gQ;clear g;replace h:=if_l g19 h;refine Q0 (runQ hN λK hK=>?_);simp;repeat refine sdQ ?_
  refine hK _ (tn (Q2 (st':=⟨Y0u [],[],0⟩) (wkQ []) (Qe (tr ?_))));clear hK K;have hr:=yJ h;rw[←hr];refine⟨_,(.tmp .nil),?_⟩;refine⟨(.one rfl rfl .nil),[.val (.bool true)],[],by simp[BN],by simp,(yN _)⟩
 have g19:¬(¬(v4.2.2=0)):=gQ;clear g;replace h:=if_r g19 h;refine Q8 (tn (Q0 (runQ hN λK hK=>?_)));simp;repeat with_reducible refine sdQ ?_
 replace⟨v20,hv20,h⟩:=bind_some h;refine Q3 (Q5w _ _ v20 hv20) (.cons (.aggL (.cons .val (.cons .lst (.cons .lst (.cons .lst (.cons .lst (.cons .val (.cons .lst (.cons .lst .nil))))))))) (.cons .val .nil)) ?_;simp;repeat refine sdQ ?_
 refine hK _ ?_;clear hK K;refine tn (Q2 (st':=⟨Y0b v3 (Y0y v5 [(16,.adr 1 0 0),(17,iV v20.2)]),Y0a v3 [(1,.mix 12 [[iV v20.1.s.n,.own 2 0 v20.1.s.fr.length,.own 3 0 v20.1.s.to.length,.own 4 0 v20.1.s.id.length,.own 5 0 v20.1.s.cs.length,iV v20.1.t.n,.own 6 0 v20.1.t.fr.length,.own 7 0 v20.1.t.to.length,.own 8 0 v20.1.t.id.length,.own 9 0 v20.1.t.cs.length,.own 10 0 v20.1.ob.length,.own 11 0 v20.1.ar.length]]),(2,rI v20.1.s.fr),(3,rI v20.1.s.to),(4,rI v20.1.s.id),(5,.row 1 (Ls v20.1.s.cs)),(6,rI v20.1.t.fr),(7,rI v20.1.t.to),(8,rI v20.1.t.id),(9,.row 1 (Ls v20.1.t.cs)),(10,rI v20.1.ob),(11,rI v20.1.ar)],12⟩) (wkQ [(0,0),(14,1),(2,2),(3,3),(4,4),(5,5),(7,6),(8,7),(9,8),(10,9),(11,10),(12,11)]) (Q0 (runQ hN λK hK=>?_)));simp;repeat with_reducible refine sdQ ?_
 replace⟨v21,hv21,h⟩:=bind_some h;refine Q3 (Q5x _ _ v21 hv21) (.cons (.aggL (.cons .val (.cons .lst (.cons .lst (.cons .lst (.cons .lst (.cons .val (.cons .lst (.cons .lst .nil))))))))) (.cons .val .nil)) ?_;simp;repeat refine sdQ ?_
 refine hK _ ?_;clear hK K;refine tn (Q2 (st':=⟨(5,iV v3.2.2)::Y0y v5 [(16,.adr 0 0 0),(17,iV v20.2),(18,.adr 11 0 0)],[(0,.mix 12 [(Y0O v20 [])]),(1,rI v20.1.s.fr),(2,rI v20.1.s.to),(3,rI v20.1.s.id),(4,.row 1 (Ls v20.1.s.cs)),(5,rI v20.1.t.fr),(6,rI v20.1.t.to),(7,rI v20.1.t.id),(8,.row 1 (Ls v20.1.t.cs)),(9,rI v20.1.ob),(10,rI v20.1.ar),(11,.mix 12 [(Y0N v21 [])]),(12,rI v21.1.s.fr),(13,rI v21.1.s.to),(14,rI v21.1.s.id),(15,.row 1 (Ls v21.1.s.cs)),(16,rI v21.1.t.fr),(17,rI v21.1.t.to),(18,rI v21.1.t.id),(19,.row 1 (Ls v21.1.t.cs)),(20,rI v21.1.ob),(21,rI v21.1.ar)],22⟩) (wkQ [(1,0),(2,1),(3,2),(4,3),(5,4),(6,5),(7,6),(8,7),(9,8),(10,9),(11,10),(25,11),(13,12),(14,13),(15,14),(16,15),(18,16),(19,17),(20,18),(21,19),(22,20),(23,21)]) (Q0 (runQ hN λK hK=>?_)));simp;repeat with_reducible refine sdQ ?_
 replace⟨v22,hv22,h⟩:=bind_some h;refine Q3 (Q4S _ v22 hv22) (.cons (.aggL (.cons .val (.cons .w (.cons .w (.cons .w (.cons .w (.cons .val (.cons .w (.cons .w (.cons .w (.cons .w (.cons .w (.cons .w .nil))))))))))))) .nil) ?_;simp;repeat refine sdQ ?_
 refine hK _ ?_;clear hK K;refine tn (Q2 (st':=⟨(5,iV v3.2.2)::Y0y v5 [(16,.adr 0 0 0),(17,iV v20.2),(18,.adr 11 0 0),(20,.adr 22 0 0),(21,iV v22.2)],Ya v20 v21 v22 [(40,.row 1 (Ls v22.1.r.t.cs)),(41,rI v22.1.r.ob),(42,rI v22.1.r.ar),(43,rI v22.1.u),(44,rI v22.1.k)],45⟩) (wkQ [(0,0),(1,1),(2,2),(3,3),(4,4),(5,5),(6,6),(7,7),(8,8),(9,9),(10,10),(11,11),(12,12),(13,13),(14,14),(15,15),(16,16),(17,17),(18,18),(19,19),(20,20),(21,21),(49,22),(23,23),(24,24),(25,25),(26,26),(28,27),(29,28),(30,29),(31,30),(32,31),(33,32),(35,33),(36,34),(37,35),(38,36),(40,37),(41,38),(42,39),(43,40),(44,41),(45,42),(46,43),(47,44)]) (Q0 (runQ hN λK hK=>?_)));simp;repeat with_reducible refine sdQ ?_
 replace⟨v23,hv23,h⟩:=bind_some h;refine Q3 (Q4V _ v23 hv23) (.cons (.aggL (.cons .val (.cons .w (.cons .w (.cons .w (.cons .w (.cons .val (.cons .w (.cons .w (.cons .w (.cons .w (.cons .w (.cons .w .nil))))))))))))) .nil) ?_;simp;repeat refine sdQ ?_
 refine hK _ (tn ?_);clear hK K
 refine Q2 (st':=⟨(5,iV v3.2.2)::Y0y v5 [(16,.adr 0 0 0),(17,iV v20.2),(18,.adr 11 0 0),(20,.adr 22 0 0),(21,iV v22.2),(22,.adr 45 0 0),(23,iV v23.2)],Ya v20 v21 v22 [(40,.row 1 (Ls v22.1.r.t.cs)),(41,rI v22.1.r.ob),(42,rI v22.1.r.ar),(43,rI v22.1.u),(44,rI v22.1.k),(45,.mix 26 [[iV v23.1.l.s.n,.own 46 0 v23.1.l.s.fr.length,.own 47 0 v23.1.l.s.to.length,.own 48 0 v23.1.l.s.id.length,.own 49 0 v23.1.l.s.cs.length,iV v23.1.l.t.n,.own 50 0 v23.1.l.t.fr.length,.own 51 0 v23.1.l.t.to.length,.own 52 0 v23.1.l.t.id.length,.own 53 0 v23.1.l.t.cs.length,.own 54 0 v23.1.l.ob.length,.own 55 0 v23.1.l.ar.length,iV v23.1.r.s.n,.own 56 0 v23.1.r.s.fr.length,.own 57 0 v23.1.r.s.to.length,.own 58 0 v23.1.r.s.id.length,.own 59 0 v23.1.r.s.cs.length,iV v23.1.r.t.n,.own 60 0 v23.1.r.t.fr.length,.own 61 0 v23.1.r.t.to.length,.own 62 0 v23.1.r.t.id.length,.own 63 0 v23.1.r.t.cs.length,.own 64 0 v23.1.r.ob.length,.own 65 0 v23.1.r.ar.length,.own 66 0 v23.1.u.length,.own 67 0 v23.1.k.length]]),(46,rI v23.1.l.s.fr),(47,rI v23.1.l.s.to),(48,rI v23.1.l.s.id),(49,.row 1 (Ls v23.1.l.s.cs)),(50,rI v23.1.l.t.fr),(51,rI v23.1.l.t.to),(52,rI v23.1.l.t.id),(53,.row 1 (Ls v23.1.l.t.cs)),(54,rI v23.1.l.ob),(55,rI v23.1.l.ar),(56,rI v23.1.r.s.fr),(57,rI v23.1.r.s.to),(58,rI v23.1.r.s.id),(59,.row 1 (Ls v23.1.r.s.cs)),(60,rI v23.1.r.t.fr),(61,rI v23.1.r.t.to),(62,rI v23.1.r.t.id),(63,.row 1 (Ls v23.1.r.t.cs)),(64,rI v23.1.r.ob),(65,rI v23.1.r.ar),(66,rI v23.1.u),(67,rI v23.1.k)],68⟩) (wkQ [(0,0),(1,1),(2,2),(3,3),(4,4),(5,5),(6,6),(7,7),(8,8),(9,9),(10,10),(11,11),(12,12),(13,13),(14,14),(15,15),(16,16),(17,17),(18,18),(19,19),(20,20),(21,21),(22,22),(23,23),(24,24),(25,25),(26,26),(27,27),(28,28),(29,29),(30,30),(31,31),(32,32),(33,33),(34,34),(35,35),(36,36),(37,37),(38,38),(39,39),(40,40),(41,41),(42,42),(43,43),(44,44),(72,45),(46,46),(47,47),(48,48),(49,49),(51,50),(52,51),(53,52),(54,53),(55,54),(56,55),(58,56),(59,57),(60,58),(61,59),(63,60),(64,61),(65,62),(66,63),(67,64),(68,65),(69,66),(70,67)]) ?_
 refine Q0 (Q0 ?_);replace⟨e24,h,h24⟩:=bind_some h;refine Q9 (λb24:Bool=>⟨(5,iV v3.2.2)::Y0y v5 [(21,iV v22.2),(22,.adr 0 0 0),(133,.val (.bool b24))],[(0,.mix 26 [[iV v23.1.l.s.n,.own 1 0 v23.1.l.s.fr.length,.own 2 0 v23.1.l.s.to.length,.own 3 0 v23.1.l.s.id.length,.own 4 0 v23.1.l.s.cs.length,iV v23.1.l.t.n,.own 5 0 v23.1.l.t.fr.length,.own 6 0 v23.1.l.t.to.length,.own 7 0 v23.1.l.t.id.length,.own 8 0 v23.1.l.t.cs.length,.own 9 0 v23.1.l.ob.length,.own 10 0 v23.1.l.ar.length,iV v23.1.r.s.n,.own 11 0 v23.1.r.s.fr.length,.own 12 0 v23.1.r.s.to.length,.own 13 0 v23.1.r.s.id.length,.own 14 0 v23.1.r.s.cs.length,iV v23.1.r.t.n,.own 15 0 v23.1.r.t.fr.length,.own 16 0 v23.1.r.t.to.length,.own 17 0 v23.1.r.t.id.length,.own 18 0 v23.1.r.t.cs.length,.own 19 0 v23.1.r.ob.length,.own 20 0 v23.1.r.ar.length,.own 21 0 v23.1.u.length,.own 22 0 v23.1.k.length]]),(1,rI v23.1.l.s.fr),(2,rI v23.1.l.s.to),(3,rI v23.1.l.s.id),(4,.row 1 (Ls v23.1.l.s.cs)),(5,rI v23.1.l.t.fr),(6,rI v23.1.l.t.to),(7,rI v23.1.l.t.id),(8,.row 1 (Ls v23.1.l.t.cs)),(9,rI v23.1.l.ob),(10,rI v23.1.l.ar),(11,rI v23.1.r.s.fr),(12,rI v23.1.r.s.to),(13,rI v23.1.r.s.id),(14,.row 1 (Ls v23.1.r.s.cs)),(15,rI v23.1.r.t.fr),(16,rI v23.1.r.t.to),(17,rI v23.1.r.t.id),(18,.row 1 (Ls v23.1.r.t.cs)),(19,rI v23.1.r.ob),(20,rI v23.1.r.ar),(21,rI v23.1.u),(22,rI v23.1.k)],23⟩) (λb24=>b24=e24) ?_ ?_
 ·refine runQ hN λK hK=>?_;simp;repeat with_reducible refine sdQ ?_
  refine Qa (λg=>?_) (λg=>?_)
  ·have g25:¬(¬(v20.2=0)):=gQ;clear g;replace h:=if_r g25 h;simp;(repeat with_reducible refine sdQ ?_);replace⟨v26,hv26,h⟩:=bind_some h;refine Q3 (Q2z _ _ v26 hv26) (.cons (.aggL (.cons .val (.cons .w (.cons .w (.cons .w (.cons .w (.cons .val (.cons .w (.cons .w (.cons .w (.cons .w (.cons .w (.cons .w .nil))))))))))))) (.cons (.aggL (.cons .val (.cons .w (.cons .w (.cons .w (.cons .w (.cons .val (.cons .w (.cons .w (.cons .w (.cons .w (.cons .w (.cons .w .nil))))))))))))) .nil)) ?_;simp;(repeat with_reducible refine sdQ ?_);refine Qa (λg=>?_) (λg=>?_)
   ·have g27:¬(¬(v26=true)):=gQ;clear g;replace h:=if_r g27 h;simp;(repeat with_reducible refine sdQ ?_);refine Qa (λg=>?_) (λg=>?_)
    ·have g28:¬(¬(v22.2=v23.2)):=gQ;clear g;replace h:=if_r g28 h;simp;(repeat with_reducible refine sdQ ?_);replace⟨v29,hv29,h⟩:=bind_some h;refine Q3 (Q4p _ _ v29 hv29) (.cons (.aggL (.cons .val (.cons .w (.cons .w (.cons .w (.cons .w (.cons .val (.cons .w (.cons .w (.cons .w (.cons .w (.cons .w (.cons .w (.cons .val (.cons .w (.cons .w (.cons .w (.cons .w (.cons .val (.cons .w (.cons .w (.cons .w (.cons .w (.cons .w (.cons .w (.cons .w (.cons .w .nil))))))))))))))))))))))))))) (.cons (.aggL (.cons .val (.cons .w (.cons .w (.cons .w (.cons .w (.cons .val (.cons .w (.cons .w (.cons .w (.cons .w (.cons .w (.cons .w (.cons .val (.cons .w (.cons .w (.cons .w (.cons .w (.cons .val (.cons .w (.cons .w (.cons .w (.cons .w (.cons .w (.cons .w (.cons .w (.cons .w .nil))))))))))))))))))))))))))) .nil)) ?_;simp;(repeat refine sdQ ?_);refine hK _ ?_;exact jn (b:=!v29) (yJ h) (wkQ [(45,0),(46,1),(47,2),(48,3),(49,4),(50,5),(51,6),(52,7),(53,8),(54,9),(55,10),(56,11),(57,12),(58,13),(59,14),(60,15),(61,16),(62,17),(63,18),(64,19),(65,20),(66,21),(67,22)])
    have g28:¬(v22.2=v23.2):=gQ;clear g;replace h:=if_l g28 h;simp;(repeat refine sdQ ?_);refine hK _ ?_;exact jn (b:=true) (yJ h) (wkQ [(45,0),(46,1),(47,2),(48,3),(49,4),(50,5),(51,6),(52,7),(53,8),(54,9),(55,10),(56,11),(57,12),(58,13),(59,14),(60,15),(61,16),(62,17),(63,18),(64,19),(65,20),(66,21),(67,22)])
   have g27:¬(v26=true):=gQ;clear g;replace h:=if_l g27 h;simp;(repeat refine sdQ ?_);refine hK _ ?_;exact jn (b:=true) (yJ h) (wkQ [(45,0),(46,1),(47,2),(48,3),(49,4),(50,5),(51,6),(52,7),(53,8),(54,9),(55,10),(56,11),(57,12),(58,13),(59,14),(60,15),(61,16),(62,17),(63,18),(64,19),(65,20),(66,21),(67,22)])
  have g25:¬(v20.2=0):=gQ;clear g;replace h:=if_l g25 h;simp;repeat refine sdQ ?_
  refine hK _ ?_;exact jn (b:=true) (yJ h) (wkQ [(45,0),(46,1),(47,2),(48,3),(49,4),(50,5),(51,6),(52,7),(53,8),(54,9),(55,10),(56,11),(57,12),(58,13),(59,14),(60,15),(61,16),(62,17),(63,18),(64,19),(65,20),(66,21),(67,22)])
 intro b24 hb24;have h:=h24;try rw[←hb24]at h
 clear h24;try dsimp only at h
 refine Q7 rfl (λg=>?_) λg=>?_
 ·have g30:b24=true:=gQ;clear g;replace h:=if_l g30 h;refine Q0 (runQ hN λK hK=>?_);simp;repeat refine sdQ ?_
  refine hK _ (tn (Q2 (st':=⟨YM [],[],0⟩) (wkQ []) (Qe (tr ?_))));clear hK K;have hr:=yJ h;rw[←hr];refine⟨_,(.tmp .nil),?_⟩;refine⟨(.one rfl rfl .nil),[.val (.bool false)],[],by simp[BN],by simp,(yN _)⟩
 have g30:¬(b24=true):=gQ;clear g;replace h:=if_r g30 h;refine Q8 (tn (Q0 ?_));replace⟨e31,h,h31⟩:=bind_some h;refine Q9 (λb31:Bool=>⟨[(2,.val (.bool b31))],[],0⟩) (λb31=>b31=e31) ?_ ?_
 ·refine runQ hN λK hK=>?_;simp;repeat with_reducible refine sdQ ?_
  refine Qa (λg=>?_) (λg=>?_)
  ·have g32:¬(¬(v22.2=0)):=gQ;clear g;replace h:=if_r g32 h;replace⟨a33,h⟩:=Q1 h;simp[at_I a33];(repeat with_reducible refine sdQ ?_);refine Qa (λg=>?_) (λg=>?_)
   ·have g34:(ix v23.1.r.ob v3.2.2)=v5.1:=gQ;clear g;replace h:=if_l g34 h;replace⟨a35,h⟩:=Q1 h;simp[at_I a33,at_I a35];(repeat refine sdQ ?_);refine hK _ ?_;exact jn (b:=(ix v23.1.k v3.2.2)==v5.2.1) (yJ h) (wkQ [])
   have g34:¬((ix v23.1.r.ob v3.2.2)=v5.1):=gQ;clear g;replace h:=if_r g34 h;simp[at_I a33];(repeat refine sdQ ?_);refine hK _ ?_;exact jn (b:=false) (yJ h) (wkQ [])
  have g32:¬(v22.2=0):=gQ;clear g;replace h:=if_l g32 h;simp;repeat refine sdQ ?_
  refine hK _ ?_;exact jn (b:=true) (yJ h) (wkQ [])
 intro b31 hb31;have h:=h31;try rw[←hb31]at h
 clear h31;try dsimp only at h
 refine Qe ?_;have hr:=yJ h;rw[←hr];refine⟨_,(.tmp .nil),?_⟩;refine⟨(.one rfl rfl .nil),[.val (.bool b31)],[],by simp[BN],by simp,(yN _)⟩
section
attribute [local simp] Qi QP Qv Q1l QN
theorem Q6Q{a:List Int}(h:a.length≤1000000):QX a a=some true:=by
 unfold QX;rw[if_neg (QW rfl)];refine chkI a.length (λ_=>True) (yL false) (yK ()) (by omega) (λi hi=>?_) (by rw[if_neg (by omega)]) ?_
 ·rw[if_pos (by omega),Q4 (by omega),Q4 (by omega),if_neg (QW rfl),Q4 (by unfold B64;omega),Qk trivial];rfl
 rw[Qk (λ_ _=>trivial)];rfl
theorem e_lkR{a:List (List Int)}(h:a.length≤1000000)(hr:∀i:Nat,i<a.length→(rx a i).length≤1000000):Q2o a a=some true:=by
 unfold Q2o;rw[if_neg (QW rfl)];refine chkI a.length (λ_=>True) (yL false) (yK ()) (by omega) (λi hi=>?_) (by rw[if_neg (by omega)]) ?_
 ·rw[if_pos (by omega),Q4 (by omega),Q4 (by omega),Q6Q (hr i hi)];simp only[yA];rw[if_neg (by simp),Q4 (by unfold B64;omega),Qk trivial];rfl
 rw[Qk (λ_ _=>trivial)];rfl
structure Smc(c:Cat):Prop where
 f1:c.fr.length≤1000000
 t1:c.to.length≤1000000
 i1:c.id.length≤1000000
 c1:c.cs.length≤1000000
 r1:∀i:Nat,i<c.cs.length→(rx c.cs i).length≤1000000
theorem Q6G{c:Cat}(h:c.Is):Smc c:=by
 have n:=h.nums;exact⟨by omega,by omega,by omega,by omega,λi hi=>by have:=h.1.row' (j:=(i:Int)) (by omega) (by omega);omega⟩
theorem e_lkC{c:Cat}(h:Smc c):Q10 c c=some true:=by
 unfold Q10;rw[if_pos rfl,Q6Q h.f1,Q6Q h.t1,Q6Q h.i1,e_lkR h.c1 h.r1];rfl
theorem e_lkF{f:Fn}(hs:Smc f.s)(ht:Smc f.t)(ho:f.ob.length≤1000000)(ha:f.ar.length≤1000000):Q11 f f=some true:=by
 unfold Q11;rw[e_lkC hs,e_lkC ht,Q6Q ho,Q6Q ha];rfl
theorem smc_0:Smc ⟨0,[],[],[],[]⟩:=⟨by simp,by simp,by simp,by simp,λi hi=>by simp at hi⟩
theorem e_lkA0:QM ad0 ad0=some true:=by
 unfold QM;rw[e_lkF smc_0 smc_0 (by simp) (by simp)];simp only[yA,if_true];rw[Q6Q (by simp)];rfl
theorem e_lkA{f:Fn}(h:f.Is):QM (raV f) (raV f)=some true:=by
 have n:=h.s.nums;have nt:=h.t.nums;have hlo:=h.lo;have hla:=h.la;unfold QM;rw[e_lkF (f:=(raV f).l) (Q6G h.s) (Q6G h.t) (show f.ob.length≤1000000 by omega) (show f.ar.length≤1000000 by omega),e_lkF (f:=(raV f).r) (Q6G h.t) (Q6G h.s) (by simp[raV,raX];omega) (by simp[raV];omega),Q6Q (a:=(raV f).u) (by simp[raV];omega),Q6Q (a:=(raV f).k) (by simp[raV,raE];omega)];rfl
theorem Q5s{code:List Int}(hb:∀n∈code,0≤n∧n≤255):Q1O code=some true:=by
 unfold Q1O Q7b;simp only[yA]
 by_cases hl:code.length≤4096
 case neg=>rw[if_pos (by simp;omega)]
 rw[if_neg (by simp;omega)];obtain⟨m,y,z,e⟩:=g_draw hl hb;rw[e];simp only[yA];obtain⟨r,r1,r2,r3,r4⟩:=e_mcode m [y,z];unfold Q2n Q2p;rw[r1,r2];simp only[yA]
 by_cases h0:r=0
 case neg=>
  rw[if_pos h0,if_pos h0];simp only[yA]
  by_cases h1:r=1
  ·have hn:=r3.1 h1;subst h1;unfold Q2B;rw[Q41,Qd hn];simp
  have hm:m.Is:=yP λq=>h1 (r3.2 q);have h2:r=2:=by have:=(r4 h1).1;omega
  subst h2;rw[(Q5B hm).1,(Q5B hm).2]
  by_cases q:Cls m
  ·rw[Qk q];simp
  rw[Qd q];simp
 subst h0;have hm:m.Is:=yP λq=>by have:=r3.2 q;omega
 have hyz:=(r4 (by omega)).2.1 rfl;have hy:=hyz y (by simp);have hz:=hyz z (by simp);have tb:=tb_is hm hy;have F:=e_fd tb z;rw[if_neg (QW rfl),if_neg (QW rfl),(Q4b hm hy).1,(Q4b hm hy).2];simp only[yA];rw[F.1,F.2.1,(Q5B hm).1,(Q5B hm).2];simp only[yA];have n:=hm.pre.c.nums
 by_cases q:(fd (tbF m y) z).2.2=true
 case neg=>
  have hc:¬Cls m:=λw=>by
   obtain⟨y',e1⟩:=yT hy.1;obtain⟨z',e2⟩:=yT hz.1;rw[e1,e2]at q;exact q (w y' (by omega) z' (by omega))
  rw[if_pos q,Qd hc];simp
 rw[if_neg (QW q)];obtain⟨s,s1,s2,s3,s4⟩:=e_mcode m [y];have hs1:s≠1:=λw=>(s3.1 w) hm;have s0:s=0:=(s4 hs1).2.2 (by simpa using hy);subst s0;unfold Q20 Q21;rw[s1,s2];simp only[yA,not_true_eq_false,if_false];rw[(Q4b hm hy).1,(Q4b hm hy).2];simp only[yA,not_true_eq_false,if_false];rw[(Q7u tb).1,(Q7u tb).2];have nn:(tbF m y).ob.length≤1000000∧(tbF m y).ar.length≤1000000:=by have:=tb.lo;have:=tb.la;have:=tb.s.nums;omega
 rw[e_lkF (Q6G tb.s) (Q6G tb.t) nn.1 nn.2];have ht:((tbF m y).t.id.length:Int)=m.on_.n:=n.2.2.2.2.2
 by_cases w:Raj (tbF m y)
 ·rw[Qk w];simp only[if_true,yA];rw[e_lkA tb];have x:=Q60 (f:=tbF m y) (n:=(tbF m y).t.id.length) hz.1 (by omega);have l1:((raV (tbF m y)).r.ob.length:Int)=m.on_.n:=by simp[raV,raX];exact ht
  have l2:((raV (tbF m y)).k.length:Int)=m.on_.n:=by simp[raV,raE];exact ht
  have x1:ix (raV (tbF m y)).r.ob z=(fd (tbF m y) z).1:=x.1;have x2:ix (raV (tbF m y)).k z=(fd (tbF m y) z).2.1:=x.2
  by_cases q:Cls m
  ·rw[Qk q];simp[x1,x2,l1,l2,hz,Q4]
  rw[Qd q];simp[x1,x2,l1,l2,hz,Q4]
 rw[Qd w];simp only[if_neg (show¬(false=true) by simp),yA];rw[e_lkA0]
 by_cases q:Cls m
 ·rw[Qk q];simp
 rw[Qd q];simp
end
end Go.Vc.T
