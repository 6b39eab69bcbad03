/- A part of the proof. -/
import Derived.Test.YtgaeldalleellaaGreatF8
set_option maxRecDepth 100000
set_option maxHeartbeats 4000000
set_option linter.unusedSimpArgs false
set_option linter.unusedVariables false
set_option linter.unusedSectionVars false
set_option linter.unnecessarySimpa false

open List renaming getD_eq_getElem?_getD→qB
open Option renaming bind_some→yT
open Option.some renaming inj→yJ
open List renaming length_append→qD
open Sum renaming inl→yU
open Go.Vc.Ctl renaming ret→yV
open List renaming replicate→zF
open Nat renaming le_refl→qE
open Go.Vc.Ctl renaming next→yK
open Classical renaming byContradiction→yL
open Sum renaming inr→yW
open Bool renaming false_eq_true→zG
open Go.Vc.UpL renaming refl→yM
open List renaming length_cons→qH
open List renaming length_nil→zS
open Nat renaming zero_le→zV
open List renaming getElem_mem→zW
open List renaming getElem_of_mem→zY
open Int renaming eq_ofNat_of_zero_le→yN
open Int renaming toNat_natCast→yO
open List renaming take_succ_eq_append_getElem→yP
open Int renaming pred_toNat→yX
open Nat renaming strongRecOn→yS
open Bool renaming not_true→yY
noncomputable section
namespace Go.Vc.T
open Go Go.Vc Go.Proofs
attribute [local simp] unk unA unE unT unC flat eL eI Qj
def QR(p_:List Int):Option (List Int):=
 (Qd (σ:=List Int×Int) (ε:=List Int) (λs8=>
  if s8.2<(p_.length:Int)then
   (
    ass (0≤s8.2∧s8.2<(p_.length:Int))<|
    if(ix p_ s8.2)=(s8.1.length:Int)then
     ass ((s8.1++[s8.2]).length≤1073741824)<|
     some (s8.1++[s8.2])
    else
     some s8.1:Option (List Int)).bind λb10=>
   ass (B64 (s8.2+1))<|
   some (yK (b10,s8.2+1))
  else
   some (yV s8.1)) fuel ([],0)).bind λb1=>
 some b1
theorem Q4c(p_:List Int)(r:List Int)(h:QR p_=some r):Contract Tryz.prog 66 [lI p_] (lI r):=by
 refine Q9 (rvs:=[.tmp 2]) (rs:=[lI r]) Tryz.func66 rfl rfl rfl rfl (by simp[Tryz.f66]) λF hN hP=>?_;unfold QR at h;refine Q0 (runQ hN λK hK=>?_);simp;repeat refine sdQ ?_
 refine hK _ ?_;clear hK K;refine tn (Q4 (st':=⟨[(0,lI p_)],[],0⟩) (wkQ []) (Q0 (runQ hN λK hK=>?_)));simp;repeat refine sdQ ?_
 refine hK _ ?_;clear hK K;refine tn (Q4 (st':=⟨[(0,lI p_),(3,.own 0 0 0)],[(0,.mix 1 [])],1⟩) (wkQ [(0,0)]) (Q0 (Q0 (runQ hN λK hK=>?_))));simp;repeat refine sdQ ?_
 refine hK _ (tn (Q4 (st':=⟨[(3,.own 0 0 0),(7,lI p_),(8,iV (p_.length:Int)),(9,iV 0)],[(0,.mix 1 [])],1⟩) (wkQ [(0,0)]) ?_));clear hK K;replace⟨e1,h,h1⟩:=bind_some h;refine Qc (λb1:List Int=>⟨[(3,.own 0 0 b1.length)],[(0,rI b1)],1⟩) (λb1=>b1=e1) ?_ ?_
 ·refine Q5 (Qm h (λs8:List Int×Int=>⟨[(3,.own 0 0 s8.1.length),(7,lI p_),(8,iV (p_.length:Int)),(9,iV s8.2)],[(0,rI s8.1)],1⟩) (Q31 ⟨[(3,.own 0 0 0),(7,lI p_),(8,iV (p_.length:Int)),(9,iV 0)],[(0,rI [])],1⟩ (Wk.nils [] (by simp) (by simp) (by simp[nlA]) (by simp[entN,nlL,nlA,BN]) (by simp)) (wkQ [(0,0)])) ?_);clear h;intro k8 s8 c8 h hk8;refine Q0 (runQ hN λK hK=>?_);simp;repeat refine sdQ ?_
  refine hK _ ?_;clear hK K;refine tn (Q0 (Q6 rfl (λg=>?_) λg=>?_))
  ·have g9:s8.2<(p_.length:Int):=gQ;clear g;replace h:=if_l g9 h;refine Q7 (tn (Q0 ?_));replace⟨e10,h,h10⟩:=bind_some h;refine Qc (λb10:List Int=>⟨[(3,.own 0 0 b10.length),(7,lI p_),(8,iV (p_.length:Int)),(9,iV s8.2)],[(0,rI b10)],1⟩) (λb10=>b10=e10) ?_ ?_
   ·refine Q5 (Q0 (runQ hN λK hK=>?_));replace⟨a11,h⟩:=Q1 h;simp[at_I a11];(repeat refine sdQ ?_);refine hK _ ?_;clear hK K;refine tn (Q4 (st':=⟨[(3,.own 0 0 s8.1.length),(4,iV s8.2),(5,iV (ix p_ s8.2)),(7,lI p_),(8,iV (p_.length:Int)),(9,iV s8.2)],[(0,rI s8.1)],1⟩) (wkQ [(0,0)]) (Q0 (runQ hN λK hK=>?_)));simp;(repeat refine sdQ ?_);refine hK _ ?_;clear hK K;refine tn (Q6 rfl (λg=>?_) λg=>?_)
    ·have g12:(ix p_ s8.2)=(s8.1.length:Int):=gQ;clear g;replace h:=if_l g12 h;refine runQ hN λK hK=>?_;replace⟨a13,h⟩:=Q1 h;(try simp only[qD,qH,zS]at a13);simp[a13];(repeat refine sdQ ?_);refine hK _ (bn ?_);clear hK K;exact jn (b:=s8.1++[s8.2]) (yJ h) (wkQ [(2,0)])
    have g12:¬((ix p_ s8.2)=(s8.1.length:Int)):=gQ;clear g;replace h:=if_r g12 h;refine Q7 (bn ?_);exact jn (b:=s8.1) (yJ h) (wkQ [(0,0)])
   intro b10 hb10;have h:=h10;(try rw[←hb10]at h);clear h10;(try dsimp only at h);refine runQ hN λK hK=>?_;replace⟨a14,h⟩:=Q1 h;simp[Qi a14];(repeat refine sdQ ?_);refine hK _ ?_;clear hK K;cases h;exact rn (s':=(b10,s8.2+1)) hk8 (wkQ [(0,0)])
  have g9:¬(s8.2<(p_.length:Int)):=gQ;clear g;replace h:=if_r g9 h;refine Qk (tx (lx (bh ?_)));cases h;exact jn (b:=s8.1) hk8 (wkQ [(0,0)])
 intro b1 hb1;have h:=h1;try rw[←hb1]at h
 clear h1;try dsimp only at h
 refine Q0 (runQ hN λK hK=>?_);simp;repeat refine sdQ ?_
 refine hK _ (tn (Q4 (st':=⟨[(2,.own 0 0 b1.length)],[(0,rI b1)],1⟩) (wkQ [(0,0)]) (Qh ?_)));clear hK K;have hr:=yJ h;rw[←hr];refine⟨_,(.tmp .nil),?_⟩;refine⟨(.one rfl rfl .nil),[lI b1],[0],by simp[BN],by simp,(yM _)⟩
attribute [local simp] unk unA unE unT unC flat eL eI Qj
def Q1P(list_:List Int)(n_:Int):Option Int:=
 (Qd (σ:=Int) (ε:=Unit⊕Int) (λs6=>
  if s6<(list_.length:Int)then
   ass (0≤s6∧s6<(list_.length:Int))<|
   if(ix list_ s6)=n_ then
    some (yV (yW s6))
   else
    ass (B64 (s6+1))<|
    some (yK (s6+1))
  else
   some (yV (yU ()))) fuel 0).bind λe1=>
 match e1 with
 | .inl b1=>
  some (-1)
 | .inr p1=>
  some p1
theorem Q5y(list_:List Int)(n_:Int)(r:Int)(h:Q1P list_ n_=some r):Contract Tryz.prog 82 [lI list_,iV n_] (iV r):=by
 refine Q9 (rvs:=[.tmp 4]) (rs:=[iV r]) Tryz.func82 rfl rfl rfl rfl (by simp[Tryz.f82]) λF hN hP=>?_;unfold Q1P at h;refine Q0 (runQ hN λK hK=>?_);simp;repeat refine sdQ ?_
 refine hK _ ?_;clear hK K;refine tn (Q4 (st':=⟨[(0,lI list_),(1,iV n_)],[],0⟩) (wkQ []) (Q0 (Q0 (runQ hN λK hK=>?_))));simp;repeat refine sdQ ?_
 refine hK _ (tn (Q4 (st':=⟨[(0,lI list_),(1,iV n_),(5,iV 0)],[],0⟩) (wkQ []) ?_));clear hK K;replace⟨e1,h,h1⟩:=bind_some h;refine Qc (λb1:Unit=>⟨[],[],0⟩) (λb1=>yU b1=e1) ?_ ?_
 ·refine Q5 (Qm h (λs6:Int=>⟨[(0,lI list_),(1,iV n_),(5,iV s6)],[],0⟩) (wkQ []) ?_);clear h;intro k6 s6 c6 h hk6;refine Q0 (Q0 (runQ hN λK hK=>?_));simp;repeat refine sdQ ?_
  refine hK _ ?_;clear hK K;refine tn (Q6 rfl (λg=>?_) λg=>?_)
  ·have g7:s6<(list_.length:Int):=gQ;clear g;replace h:=if_l g7 h;refine Q7 (tn (Q0 (Q5 (Q0 (runQ hN λK hK=>?_)))));replace⟨a8,h⟩:=Q1 h;simp[at_I a8];(repeat refine sdQ ?_);refine hK _ ?_;clear hK K;refine tn (Q6 rfl (λg=>?_) λg=>?_)
   ·have g9:(ix list_ s6)=n_:=gQ;clear g;replace h:=if_l g9 h;refine Q0 (runQ hN λK hK=>?_);simp;(repeat refine sdQ ?_);refine hK _ (tn (Q4 (st':=⟨[(4,iV s6)],[],0⟩) (wkQ []) (Qh (br (tr (lr (br (tr ?_))))))));clear hK K;cases h;have q:_=e1:=hk6;have h:=h1;rw[←q]at h;clear q;(try dsimp only at h);have hr:=yJ h;rw[←hr];refine⟨_,(.tmp .nil),?_⟩;refine⟨(.one rfl rfl .nil),[iV s6],[],by simp[BN],by simp,(yM _)⟩
   have g9:¬((ix list_ s6)=n_):=gQ;clear g;replace h:=if_r g9 h;refine Q7 (bn (tn (runQ hN λK hK=>?_)));replace⟨a10,h⟩:=Q1 h;simp[Qi a10];(repeat refine sdQ ?_);refine hK _ ?_;clear hK K;cases h;exact rn (s':=s6+1) hk6 (wkQ [])
  have g7:¬(s6<(list_.length:Int)):=gQ;clear g;replace h:=if_r g7 h;refine Qk (tx (lx (bh ?_)));cases h;exact jn (b:=()) hk6 (wkQ [])
 intro b1 hb1;have h:=h1;try rw[←hb1]at h
 clear h1;try dsimp only at h
 refine Q0 (runQ hN λK hK=>?_);simp;repeat refine sdQ ?_
 refine hK _ (tn (Q4 (st':=⟨[(4,iV (-1))],[],0⟩) (wkQ []) (Qh ?_)));clear hK K;have hr:=yJ h;rw[←hr];refine⟨_,(.tmp .nil),?_⟩;refine⟨(.one rfl rfl .nil),[iV (-1)],[],by simp[BN],by simp,(yM _)⟩
attribute [local simp] unk unA unE unT unC flat eL eI Qj
def Q1X(labels_:List Int):Option (List Int):=
 (Qd (σ:=List Int×List Int×Int) (ε:=List Int) (λs11=>
  if s11.2.2<(labels_.length:Int)then
   ass (0≤s11.2.2∧s11.2.2<(labels_.length:Int))<|
   (Q1P s11.2.1 (ix labels_ s11.2.2)).bind λv14=>
   (
    if v14<0 then
     ass (0≤s11.2.2∧s11.2.2<(labels_.length:Int))<|
     ass ((s11.2.1++[ix labels_ s11.2.2]).length≤1073741824)<|
     some (s11.2.1++[ix labels_ s11.2.2],(s11.2.1.length:Int))
    else
     some (s11.2.1,v14):Option (List Int×Int)).bind λb15=>
   ass ((s11.1++[b15.2]).length≤1073741824)<|
   ass (B64 (s11.2.2+1))<|
   some (yK (s11.1++[b15.2],b15.1,s11.2.2+1))
  else
   some (yV s11.1)) fuel ([],[],0)).bind λb1=>
 some b1
theorem Q6F(labels_:List Int)(r:List Int)(h:Q1X labels_=some r):Contract Tryz.prog 100 [lI labels_] (lI r):=by
 refine Q9 (rvs:=[.tmp 2]) (rs:=[lI r]) Tryz.func100 rfl rfl rfl rfl (by simp[Tryz.f100]) λF hN hP=>?_;unfold Q1X at h;refine Q0 (runQ hN λK hK=>?_);simp;repeat refine sdQ ?_
 refine hK _ ?_;clear hK K;refine tn (Q4 (st':=⟨[(0,lI labels_)],[],0⟩) (wkQ []) (Q0 (runQ hN λK hK=>?_)));simp;repeat refine sdQ ?_
 refine hK _ ?_;clear hK K;refine tn (Q4 (st':=⟨[(0,lI labels_),(3,.own 0 0 0),(4,.own 1 0 0)],[(0,.mix 1 []),(1,.mix 1 [])],2⟩) (wkQ [(0,0),(1,1)]) (Q0 (Q0 (runQ hN λK hK=>?_))));simp;repeat refine sdQ ?_
 refine hK _ (tn (Q4 (st':=⟨[(0,lI labels_),(3,.own 0 0 0),(4,.own 1 0 0),(5,iV 0)],[(0,.mix 1 []),(1,.mix 1 [])],2⟩) (wkQ [(0,0),(1,1)]) ?_));clear hK K;replace⟨e1,h,h1⟩:=bind_some h;refine Qc (λb1:List Int=>⟨[(3,.own 0 0 b1.length)],[(0,rI b1)],1⟩) (λb1=>b1=e1) ?_ ?_
 ·refine Q5 (Qm h (λs11:List Int×List Int×Int=>⟨[(0,lI labels_),(3,.own 0 0 s11.1.length),(4,.own 1 0 s11.2.1.length),(5,iV s11.2.2)],[(0,rI s11.1),(1,rI s11.2.1)],2⟩) (Q31 ⟨[(0,lI labels_),(3,.own 0 0 0),(4,.own 1 0 0),(5,iV 0)],[(0,rI []),(1,rI [])],2⟩ (Wk.nils [] (by simp) (by simp) (by simp[nlA]) (by simp[entN,nlL,nlA,BN]) (by simp)) (wkQ [(0,0),(1,1)])) ?_);clear h;intro k11 s11 c11 h hk11;refine Q0 (Q0 (runQ hN λK hK=>?_));simp;repeat refine sdQ ?_
  refine hK _ ?_;clear hK K;refine tn (Q6 rfl (λg=>?_) λg=>?_)
  ·have g12:s11.2.2<(labels_.length:Int):=gQ;clear g;replace h:=if_l g12 h;refine Q7 (tn (Q0 (Q5 (Q0 (runQ hN λK hK=>?_)))));replace⟨a13,h⟩:=Q1 h;simp[at_I a13];(repeat with_reducible refine sdQ ?_);replace⟨v14,hv14,h⟩:=bind_some h;refine Q2 (Q5y _ _ v14 hv14) (.cons .w (.cons .val .nil)) ?_;simp[at_I a13];(repeat refine sdQ ?_);refine hK _ ?_;clear hK K;refine tn (Q4 (st':=⟨[(0,lI labels_),(3,.own 0 0 s11.1.length),(4,.own 1 0 s11.2.1.length),(5,iV s11.2.2),(6,iV v14)],[(0,rI s11.1),(1,rI s11.2.1)],2⟩) (wkQ [(0,0),(1,1)]) (Q0 (Q0 (runQ hN λK hK=>?_))));simp;(repeat refine sdQ ?_);refine hK _ (tn ?_);clear hK K;replace⟨e15,h,h15⟩:=bind_some h;refine Qc (λb15:List Int×Int=>⟨[(0,lI labels_),(3,.own 0 0 s11.1.length),(4,.own 1 0 b15.1.length),(5,iV s11.2.2),(6,iV b15.2)],[(0,rI s11.1),(1,rI b15.1)],2⟩) (λb15=>b15=e15) ?_ ?_
   ·refine Q6 rfl (λg=>?_) λg=>?_
    ·have g16:v14<0:=gQ;clear g;replace h:=if_l g16 h;refine Q0 (runQ hN λK hK=>?_);simp;(repeat refine sdQ ?_);refine hK _ ?_;clear hK K;refine tn (Q4 (st':=⟨[(0,lI labels_),(3,.own 0 0 s11.1.length),(4,.own 1 0 s11.2.1.length),(5,iV s11.2.2),(6,iV (s11.2.1.length:Int))],[(0,rI s11.1),(1,rI s11.2.1)],2⟩) (wkQ [(0,0),(1,1)]) (runQ hN λK hK=>?_));replace⟨a17,h⟩:=Q1 h;replace⟨a18,h⟩:=Q1 h;(try simp only[qD,qH,zS]at a18);simp[at_I a17,a18];(repeat refine sdQ ?_);refine hK _ ?_;clear hK K;exact jn (b:=(s11.2.1++[ix labels_ s11.2.2],(s11.2.1.length:Int))) (yJ h) (wkQ [(0,0),(3,1)])
    have g16:¬(v14<0):=gQ;clear g;replace h:=if_r g16 h;refine Q7 ?_;exact jn (b:=(s11.2.1,v14)) (yJ h) (wkQ [(0,0),(1,1)])
   intro b15 hb15;have h:=h15;(try rw[←hb15]at h);clear h15;(try dsimp only at h);refine runQ hN λK hK=>?_;replace⟨a19,h⟩:=Q1 h;(try simp only[qD,qH,zS]at a19);simp[a19];(repeat refine sdQ ?_);refine hK _ ?_;clear hK K;refine bn (tn (Q4 (st':=⟨[(0,lI labels_),(3,.own 0 0 ((s11.1++[b15.2]).length)),(4,.own 1 0 b15.1.length),(5,iV s11.2.2)],[(0,rI (s11.1++[b15.2])),(1,rI b15.1)],2⟩) (wkQ [(3,0),(1,1)]) (runQ hN λK hK=>?_)));replace⟨a20,h⟩:=Q1 h;simp[Qi a20];(repeat refine sdQ ?_);refine hK _ ?_;clear hK K;cases h;exact rn (s':=(s11.1++[b15.2],b15.1,s11.2.2+1)) hk11 (wkQ [(0,0),(1,1)])
  have g12:¬(s11.2.2<(labels_.length:Int)):=gQ;clear g;replace h:=if_r g12 h;refine Qk (tx (lx (bh ?_)));cases h;exact jn (b:=s11.1) hk11 (wkQ [(0,0)])
 intro b1 hb1;have h:=h1;try rw[←hb1]at h
 clear h1;try dsimp only at h
 refine Q0 (runQ hN λK hK=>?_);simp;repeat refine sdQ ?_
 refine hK _ (tn (Q4 (st':=⟨[(2,.own 0 0 b1.length)],[(0,rI b1)],1⟩) (wkQ [(0,0)]) (Qh ?_)));clear hK K;have hr:=yJ h;rw[←hr];refine⟨_,(.tmp .nil),?_⟩;refine⟨(.one rfl rfl .nil),[lI b1],[0],by simp[BN],by simp,(yM _)⟩
section
attribute [local simp] Qa QD Qn QL Qv
theorem flt_pre{p:Nat→Prop}{y:Nat}(hp:p y):∀i,y<i→∃s,flt i p=flt y p++(y:Int)::s:=by
 intro i
 induction i with
 |zero=>intro h;omega
 |succ i ih=>
  intro h
  by_cases q:y=i
  ·subst q;exact⟨[],by rw[Q3e hp]⟩
  obtain⟨s,e⟩:=ih (by omega)
  by_cases hi:p i
  ·exact⟨s++[(i:Int)],by rw[Q3e hi,e];simp⟩
  exact⟨s,by rw[Q3d hi,e]⟩
def cn(r:Nat→Nat)(k:Nat):Nat:=(flt k λy=>r y=y).length
theorem cn_pos{r:Nat→Nat}{k:Nat}(h:r k=k):cn r (k+1)=cn r k+1:=by unfold cn;rw[Q3e (p:=λy=>r y=y) h];simp
theorem cn_neg{r:Nat→Nat}{k:Nat}(h:¬r k=k):cn r (k+1)=cn r k:=by unfold cn;rw[Q3d (p:=λy=>r y=y) h]
theorem Q88(r:Nat→Nat)(k:Nat):cn r k≤k:=Q42 _ _
theorem cn_lt{r:Nat→Nat}{y i:Nat}(h:r y=y)(hi:y<i):cn r y<cn r i:=by
 obtain⟨s,e⟩:=flt_pre (p:=λy=>r y=y) h i hi;unfold cn;rw[e];simp
def cls(r:Nat→Nat)(n:Nat):List Int:=tab n λx=>(cn r (r x):Int)
def lds(r:Nat→Nat)(n:Nat):List Int:=flt n λy=>r y=y
def idxL(L:List Int)(v:Int):Int:=fstN L.length λi=>ix L i=v
theorem Qa2{L:List Int}{v:Int}(hl:L.length≤1000000):Q1P L v=some (idxL L v):=by
 unfold Q1P;refine fstI L.length (λi=>ix L i=v) (λi=>yW i) (yU ()) (by omega) (λi hi=>?_) (by rw[if_neg (by omega)]) ?_
 ·rw[if_pos (by omega),Q3 (by omega)]
  by_cases q:ix L i=v
  ·rw[if_pos q,Qw q];rfl
  rw[if_neg q,Qp q,Q3 (by unfold B64;omega)];rfl
 unfold idxL;rcases Q4G L.length (λi=>ix L i=v)with⟨e,_⟩|⟨k,_,_,e⟩
 ·rw[e];simp
 rw[e,if_pos (by omega)]
theorem idx_no{L:List Int}{v:Int}(h:v∉L):idxL L v= -1:=fst_no λi hi e=>h (by rw[←e,←Q16 _ _ hi];exact zW hi)
theorem lds_mem{r:Nat→Nat}{n:Nat}{z:Int}:z∈lds r n↔∃k:Nat,k<n∧r k=k∧z=(k:Int):=mem_flt
theorem seen_idx{L:List Int}{r:Nat→Nat}{n i:Nat}(hr:∀x,x<n→r x≤x∧r (r x)=r x)(hq:∀x y:Nat,x<n→y<n→(ix L x=ix L y↔r x=r y))(hi:i<n):idxL ((lds r i).map (ix L)) (ix L i)=if r i=i then -1 else(cn r (r i):Int):=by
 have h:=hr i hi
 by_cases q:r i=i
 ·rw[if_pos q];refine idx_no λz=>?_;obtain⟨w,hw,e⟩:=List.mem_map.1 z;obtain⟨k,hk,pk,rfl⟩:=lds_mem.1 hw;have:=(hq k i (by omega) hi).1 e;omega
 rw[if_neg q];obtain⟨s,e⟩:=flt_pre (p:=λy=>r y=y) h.2 i (by omega);have e':lds r i=lds r (r i)++(r i:Int)::s:=e;have l1:(lds r (r i)).length=cn r (r i):=rfl;unfold idxL;refine Qa7 (by rw[e'];simp[l1]) ?_ λk hk z=>?_
 ·have:ix ((lds r i).map (ix L)) (cn r (r i):Nat)=ix L (r i:Nat):=by
   rw[e',←l1];simp[ix,qB]
  rw[this];exact(hq (r i) i (by omega) hi).2 h.2
 have hk':k<(lds r (r i)).length:=hk;have e2:ix ((lds r i).map (ix L)) k=ix L (ix (lds r (r i)) k):=by
  rw[e',List.map_append];simp only[ix,qB,yO];rw[List.getElem?_append_left (by simpa using hk')];simp[hk',ix]
 obtain⟨w,hw,pw,ew⟩:=lds_mem.1 (show ix (lds r (r i)) k∈lds r (r i) by rw[←Q16 _ _ hk'];exact zW hk');rw[e2,ew]at z;have:=(hq w i (by omega) hi).1 z;omega
theorem e_l01Cls{L:List Int}{r:Nat→Nat}{n:Nat}(hl:L.length=n)(hr:∀x,x<n→r x≤x∧r (r x)=r x)(hq:∀x y:Nat,x<n→y<n→(ix L x=ix L y↔r x=r y))(hn:n≤1000):Q1X L=some (cls r n):=by
 unfold Q1X;refine Q6b (σ:=List Int×List Int×Int) n (λi=>(cls r i,(lds r i).map (ix L),(i:Int))) rfl (by omega) (λi hi=>?_) (e:=cls r n) ?_ rfl
 ·have h:=hr i hi;have l1:(lds r i).length=cn r i:=rfl;have l2:=Q88 r i;simp only;rw[if_pos (by omega),Q3 (by omega),Qa2 (by simp;omega),seen_idx hr hq hi];simp only[yT]
  by_cases q:r i=i
  ·rw[if_pos q,if_pos (by omega),Q3 (by omega),Q3 (by simp;omega)];simp only[yT];rw[Q3 (by simp[cls];omega),Q3 (by unfold B64;omega)];have e2:cls r (i+1)=cls r i++[(((lds r i).map (ix L)).length:Int)]:=(by unfold cls;rw[Q4k,q,List.length_map,l1]);have e3:(lds r (i+1)).map (ix L)=(lds r i).map (ix L)++[ix L i]:=(by unfold lds;rw[Q3e (p:=λy=>r y=y) q];simp);rw[e2,e3];rfl
  rw[if_neg q,if_neg (by omega)];simp only[yT];rw[Q3 (by simp[cls];omega),Q3 (by unfold B64;omega)];have e2:cls r (i+1)=cls r i++[(cn r (r i):Int)]:=by unfold cls;rw[Q4k]
  have e3:lds r (i+1)=lds r i:=by unfold lds;rw[Q3d (p:=λy=>r y=y) q]
  rw[e2,e3];rfl
 simp only;rw[if_neg (by omega)]
theorem QaG{α β:Type}[DecidableEq α](k:α)(v:β):∀m:List (α×β),QN k m=none→(tset k v m).length=m.length+1:=by
 intro m
 induction m with
 |nil=>intro _;rfl
 |cons p t ih=>
  intro h;obtain⟨a,x⟩:=p;unfold QN at h;split at h
  ·cases h
  rename_i q;unfold tset;rw[if_neg q];simp[ih h]
theorem Q25{α β:Type}[DecidableEq α](k k':α)(v:β)(m:List (α×β)):QN k (tset k' v m)=if k'=k then some v else QN k m:=by
 induction m with
 |nil=>simp[tset,QN]
 |cons p t ih=>
  obtain⟨a,x⟩:=p;unfold tset;split
  ·rename_i h1;subst h1
   by_cases h2:a=k<;>simp[QN,h2]
  rename_i h1;simp only[QN,ih]
  by_cases h2:a=k
  ·subst h2;rw[if_pos rfl,if_neg (λe=>h1 e.symm),if_pos rfl]
  rw[if_neg h2,if_neg h2]
theorem e_normal{r:Nat→Nat}{n:Nat}(hr:∀x,x<n→r x≤x∧r (r x)=r x)(hn:n≤1000):Q3s (tab n λx=>(r x:Int))=some (cls r n):=by
 unfold Q3s;rw[Q3 (by simp;omega)];refine Q3p (σ:=(List (Int×Int))×List Int×Int) (Q:=λz=>z=some (cls r n)) n (λi s=>s.2=(cls r i++zF (n - i) 0,(i:Int))∧s.1.length=cn r i∧(∀y:Nat,y<i→r y=y→QN (y:Int) s.1=some (cn r y:Int))∧∀y:Nat,i≤y→QN (y:Int) s.1=none) (λe=>e=cls r n) (by omega) ⟨by simp[cls,tab_zero],rfl,λy hy=>by omega,λy _=>rfl⟩ ?_ ?_ (λe he=>by rw[he])
 ·rintro i ⟨m,L,j⟩ hi ⟨e,hm,h1,h2⟩
  simp only[Prod.mk.injEq]at e;obtain⟨rfl,rfl⟩:=e;simp only at hm h1 h2;have h:=hr i hi;have l2:=Q88 r i;have ek:n - i=(n - (i+1))+1:=by omega
  simp only[Q74];rw[if_pos (by omega),Q3 (by omega),Q8t _ _ hi]
  by_cases q:r i=i
  ·rw[q,if_pos (by rw[h2 i (qE _)];simp),Q3 (by omega)];simp only[yT];rw[Q3 (by simp[cls];omega),Q3 (by unfold B64;omega)];refine .inl ⟨_,rfl,?_,?_,λy hy hq=>?_,λy hy=>?_⟩
   ·refine Prod.ext ?_ (by push_cast;rfl);simp only[yO];rw[ek,Q6c _ _ _ _ (by simp[cls])]
    congr 1
    unfold cls;rw[Q4k,q,hm]
   ·simp only;rw[QaG _ _ _ (h2 i (qE _)),cn_pos q,hm]
   ·simp only;rw[Q25]
    by_cases z:i=y
    ·subst z;rw[if_pos rfl,hm]
    rw[if_neg (by omega)];exact h1 y (by omega) hq
   simp only;rw[Q25,if_neg (by omega)];exact h2 y (by omega)
  have e:=h1 (r i) (by omega) h.2;rw[e,if_neg (by simp)];simp only[yT,Option.getD_some];rw[Q3 (by simp[cls];omega),Q3 (by unfold B64;omega)];refine .inl ⟨_,rfl,?_,?_,λy hy hq=>?_,λy hy=>h2 y (by omega)⟩
  ·refine Prod.ext ?_ (by push_cast;rfl);simp only[yO];rw[ek,Q6c _ _ _ _ (by simp[cls])]
   congr 1
   unfold cls;rw[Q4k]
  ·simp only;rw[cn_neg q,hm]
  have:y≠i:=λz=>q (by rw[←z];exact hq);exact h1 y (by omega) hq
 rintro ⟨m,L,j⟩ ⟨e,hm,h1,h2⟩
 simp only[Prod.mk.injEq]at e;obtain⟨rfl,rfl⟩:=e;simp only[Q74];rw[if_neg (by omega)];exact⟨_,rfl,by simp⟩
theorem e_leaders{r:Nat→Nat}{n:Nat}(hr:∀x,x<n→r x≤x∧r (r x)=r x)(hn:n≤1000):QR (cls r n)=some (lds r n):=by
 unfold QR;have l0:(cls r n).length=n:=by simp[cls]
 refine Q1d n (λi=>lds r i) (e:=lds r n) rfl (by omega) (λi hi=>?_) (by simp only;rw[if_neg (by omega)]) rfl;have h:=hr i hi;have l1:(lds r i).length=cn r i:=rfl;have l2:=Q88 r i;have e:ix (cls r n) i=(cn r (r i):Int):=Q8t n _ hi;simp only;rw[if_pos (by omega),Q3 (by omega),e]
 by_cases q:r i=i
 ·rw[if_pos (by rw[q,l1]),Q3 (by simp;omega)];simp only[yT];rw[Q3 (by unfold B64;omega)];unfold lds;rw[Q3e (p:=λy=>r y=y) q]
 have:=cn_lt (r:=r) h.2 (show r i<i by omega);rw[if_neg (by omega)];simp only[yT];rw[Q3 (by unfold B64;omega)];unfold lds;rw[Q3d (p:=λy=>r y=y) q]
end
section
attribute [local simp] Qa QD Qn QL Qv
structure UI(c:Cat)(j:List Int)(r:Nat→Nat)(i:Nat):Prop where
 u:UF j r c.id.length
 io:∀x,x<c.id.length→Io c (r x) x
 st:∀a:Nat,a<i→0≤inv c a→r (ix c.fr a).toNat=r (ix c.to a).toNat
theorem UF.rr{j:List Int}{r:Nat→Nat}{n x:Nat}(h:UF j r n)(hx:x<n):r (r x)=r x:=h.tip (r x) (by have:=h.le x hx;omega) (h.fix x hx)
end
attribute [local simp] unk unA unE unT unC flat eL eI Qj
def Q2X(n_:Int)(pairs_:List (List Int)):Option (List Int):=
 (Qd (σ:=List Int×Int) (ε:=List Int) (λs5=>
  if s5.2<n_ then
   ass ((s5.1++[s5.2]).length≤1073741824)<|
   ass (B64 (s5.2+1))<|
   some (yK (s5.1++[s5.2],s5.2+1))
  else
   some (yV s5.1)) fuel ([],0)).bind λb1=>
 (Qd (σ:=List Int×Int) (ε:=List Int) (λs36=>
  if s36.2<(pairs_.length:Int)then
   (
    ass (0≤s36.2∧s36.2<(pairs_.length:Int))<|
    ass ((0:Int)≤0∧0<((rx pairs_ s36.2).length:Int))<|
    ass (0≤ix (rx pairs_ s36.2) 0∧ix (rx pairs_ s36.2) 0<(s36.1.length:Int))<|
    ass (0≤s36.2∧s36.2<(pairs_.length:Int))<|
    ass ((0:Int)≤1∧1<((rx pairs_ s36.2).length:Int))<|
    ass (0≤ix (rx pairs_ s36.2) 1∧ix (rx pairs_ s36.2) 1<(s36.1.length:Int))<|
    (Qd (σ:=List Int×Int) (ε:=List Int) (λs53=>
     (
      if s53.2<(s53.1.length:Int)then
       some ((ix s36.1 (ix (rx pairs_ s36.2) 0))!=(ix s36.1 (ix (rx pairs_ s36.2) 1)))
      else
       some false:Option (Bool)).bind λb54=>
     if b54=true then
      (
       ass (0≤s53.2∧s53.2<(s53.1.length:Int))<|
       if(ix s53.1 s53.2)=(ix s36.1 (ix (rx pairs_ s36.2) 1))then
        ass (0≤s53.2∧s53.2<(s53.1.length:Int))<|
        some (s53.1.set s53.2.toNat (ix s36.1 (ix (rx pairs_ s36.2) 0)))
       else
        some s53.1:Option (List Int)).bind λb57=>
      ass (B64 (s53.2+1))<|
      some (yK (b57,s53.2+1))
     else
      some (yV s53.1)) fuel (s36.1,0)).bind λp53=>
    some p53:Option (List Int)).bind λb38=>
   ass (B64 (s36.2+1))<|
   some (yK (b38,s36.2+1))
  else
   some (yV s36.1)) fuel (b1,0)).bind λb9=>
 (Q1X b9).bind λv63=>
 some v63
@[simp] abbrev YT(a:List Int×Int)(b:List (List Int))(c:List (Nat×AV)):List (Nat×AV):=(7,iV a.2)::(8,iV (ix a.1 (ix (rx b a.2) 0)))::(9,iV (ix a.1 (ix (rx b a.2) 1)))::c
@[simp] abbrev Y0e(a:List Int)(b:List (Nat×AV)):List (Nat×AV):=(5,.own 0 0 a.length)::b
@[simp] abbrev Y0p(a:List Int×Int)(b:List (Nat×AV)):List (Nat×AV):=(5,.own 0 0 a.1.length)::b
theorem Q9I(n_:Int)(pairs_:List (List Int))(r:List Int)(h:Q2X n_ pairs_=some r):Contract Tryz.prog 81 [iV n_,.lst true 1 (Ls pairs_)] (lI r):=by
 refine Q9 (rvs:=[.tmp 4]) (rs:=[lI r]) Tryz.func81 rfl rfl rfl rfl (by simp[Tryz.f81]) λF hN hP=>?_;unfold Q2X at h;refine Q0 (runQ hN λK hK=>?_);simp;repeat refine sdQ ?_
 refine hK _ ?_;clear hK K;refine tn (Q4 (st':=⟨[(0,iV n_),(1,.lst true 1 (Ls pairs_))],[],0⟩) (wkQ []) (Q0 (runQ hN λK hK=>?_)));simp;repeat refine sdQ ?_
 refine hK _ ?_;clear hK K;refine tn (Q4 (st':=⟨[(0,iV n_),(1,.lst true 1 (Ls pairs_)),(5,.own 0 0 0)],[(0,.mix 1 [])],1⟩) (wkQ [(0,0)]) (Q0 (Q0 (runQ hN λK hK=>?_))));simp;repeat refine sdQ ?_
 refine hK _ (tn (Q4 (st':=⟨[(0,iV n_),(1,.lst true 1 (Ls pairs_)),(5,.own 0 0 0),(6,iV 0)],[(0,.mix 1 [])],1⟩) (wkQ [(0,0)]) ?_));clear hK K;replace⟨e1,h,h1⟩:=bind_some h;refine Qc (λb1:List Int=>⟨(1,.lst true 1 (Ls pairs_))::Y0e b1 [],[(0,rI b1)],1⟩) (λb1=>b1=e1) ?_ ?_
 ·refine Q5 (Qm h (λs5:List Int×Int=>⟨(0,iV n_)::(1,.lst true 1 (Ls pairs_))::Y0p s5 [(6,iV s5.2)],[(0,rI s5.1)],1⟩) (Q31 ⟨[(0,iV n_),(1,.lst true 1 (Ls pairs_)),(5,.own 0 0 0),(6,iV 0)],[(0,rI [])],1⟩ (Wk.nils [] (by simp) (by simp) (by simp[nlA]) (by simp[entN,nlL,nlA,BN]) (by simp)) (wkQ [(0,0)])) ?_);clear h;intro k5 s5 c5 h hk5;refine Q0 (Q0 (runQ hN λK hK=>?_));simp;repeat refine sdQ ?_
  refine hK _ ?_;clear hK K;refine tn (Q6 rfl (λg=>?_) λg=>?_)
  ·have g6:s5.2<n_:=gQ;clear g;replace h:=if_l g6 h;refine Q7 (tn (Q0 (Q5 (runQ hN λK hK=>?_))));replace⟨a7,h⟩:=Q1 h;(try simp only[qD,qH,zS]at a7);simp[a7];(repeat refine sdQ ?_);refine hK _ ?_;clear hK K;refine bn (tn (Q4 (st':=⟨[(0,iV n_),(1,.lst true 1 (Ls pairs_)),(5,.own 0 0 ((s5.1++[s5.2]).length)),(6,iV s5.2)],[(0,rI (s5.1++[s5.2]))],1⟩) (wkQ [(2,0)]) (runQ hN λK hK=>?_)));replace⟨a8,h⟩:=Q1 h;simp[Qi a8];(repeat refine sdQ ?_);refine hK _ ?_;clear hK K;cases h;exact rn (s':=(s5.1++[s5.2],s5.2+1)) hk5 (wkQ [(0,0)])
  have g6:¬(s5.2<n_):=gQ;clear g;replace h:=if_r g6 h;refine Qk (tx (lx (bh ?_)));cases h;exact jn (b:=s5.1) hk5 (wkQ [(0,0)])
 intro b1 hb1;have h:=h1;try rw[←hb1]at h
 clear h1;try dsimp only at h
 refine Q0 (Q0 (runQ hN λK hK=>?_));simp;repeat refine sdQ ?_
 refine hK _ (tn (Q4 (st':=⟨(1,.lst true 1 (Ls pairs_))::Y0e b1 [(7,iV 0)],[(0,rI b1)],1⟩) (wkQ [(0,0)]) ?_));clear hK K;replace⟨e9,h,h9⟩:=bind_some h;refine Qc (λb9:List Int=>⟨Y0e b9 [],[(0,rI b9)],1⟩) (λb9=>b9=e9) ?_ ?_
 ·refine Q5 (Qm h (λs36:List Int×Int=>⟨(1,.lst true 1 (Ls pairs_))::Y0p s36 [(7,iV s36.2)],[(0,rI s36.1)],1⟩) (wkQ [(0,0)]) ?_);clear h;intro k36 s36 c36 h hk36;refine Q0 (Q0 (runQ hN λK hK=>?_));simp;repeat refine sdQ ?_
  refine hK _ ?_;clear hK K;refine tn (Q6 rfl (λg=>?_) λg=>?_)
  ·have g37:s36.2<(pairs_.length:Int):=gQ;clear g;replace h:=if_l g37 h;refine Q7 (tn (Q0 ?_));replace⟨e38,h,h38⟩:=bind_some h;refine Qc (λb38:List Int=>⟨(1,.lst true 1 (Ls pairs_))::Y0e b38 [(7,iV s36.2)],[(0,rI b38)],1⟩) (λb38=>b38=e38) ?_ ?_
   ·refine Q5 (Q0 (runQ hN λK hK=>?_));replace⟨a39,h⟩:=Q1 h;replace⟨a40,h⟩:=Q1 h;replace⟨a41,h⟩:=Q1 h;replace⟨a42,h⟩:=Q1 h;replace⟨a43,h⟩:=Q1 h;replace⟨a44,h⟩:=Q1 h;simp[at_L a39,(show(Is (rx pairs_ s36.2))[0]? =some [iV (ix (rx pairs_ s36.2) 0)] from at_I (j:=0) a40),at_I a41,at_L a42,(show(Is (rx pairs_ s36.2))[1]? =some [iV (ix (rx pairs_ s36.2) 1)] from at_I (j:=1) a43),at_I a44];(repeat refine sdQ ?_);refine hK _ ?_;clear hK K;refine tn (Q4 (st':=⟨(1,.lst true 1 (Ls pairs_))::Y0p s36 (YT s36 pairs_ []),[(0,rI s36.1)],1⟩) (wkQ [(0,0)]) (Q0 (runQ hN λK hK=>?_)));simp;(repeat refine sdQ ?_);refine hK _ (tn (Q4 (st':=⟨(1,.lst true 1 (Ls pairs_))::Y0p s36 (YT s36 pairs_ [(10,iV 0)]),[(0,rI s36.1)],1⟩) (wkQ [(0,0)]) (Q5 ?_)));clear hK K;replace⟨e53,he53,h53⟩:=bind_some h;refine Qm he53 (λs53:List Int×Int=>⟨(1,.lst true 1 (Ls pairs_))::Y0p s53 (YT s36 pairs_ [(10,iV s53.2)]),[(0,rI s53.1)],1⟩) (wkQ [(0,0)]) ?_;intro k53 s53 c53 h hk53;refine Q0 (Q0 ?_);replace⟨e54,h,h54⟩:=bind_some h;refine Qc (λb54:Bool=>⟨(1,.lst true 1 (Ls pairs_))::Y0p s53 (YT s36 pairs_ [(10,iV s53.2),(53,.val (.bool b54))]),[(0,rI s53.1)],1⟩) (λb54=>b54=e54) ?_ ?_
    ·refine runQ hN λK hK=>?_;simp;(repeat with_reducible refine sdQ ?_);refine Qy (λg=>?_) (λg=>?_)
     ·have g55:s53.2<(s53.1.length:Int):=gQ;clear g;replace h:=if_l g55 h;simp;(repeat refine sdQ ?_);refine hK _ ?_;exact jn (b:=(ix s36.1 (ix (rx pairs_ s36.2) 0))!=(ix s36.1 (ix (rx pairs_ s36.2) 1))) (yJ h) (wkQ [(0,0)])
     have g55:¬(s53.2<(s53.1.length:Int)):=gQ;clear g;replace h:=if_r g55 h;simp;(repeat refine sdQ ?_);refine hK _ ?_;exact jn (b:=false) (yJ h) (wkQ [(0,0)])
    intro b54 hb54;have h:=h54;(try rw[←hb54]at h);clear h54;(try dsimp only at h);refine Q6 rfl (λg=>?_) λg=>?_
    ·have g56:b54=true:=gQ;clear g;replace h:=if_l g56 h;refine Q7 (tn (Q0 ?_));replace⟨e57,h,h57⟩:=bind_some h;refine Qc (λb57:List Int=>⟨(1,.lst true 1 (Ls pairs_))::Y0e b57 (YT s36 pairs_ [(10,iV s53.2)]),[(0,rI b57)],1⟩) (λb57=>b57=e57) ?_ ?_
     ·refine Q5 (Q0 (runQ hN λK hK=>?_));replace⟨a58,h⟩:=Q1 h;simp[at_I a58];(repeat refine sdQ ?_);refine hK _ ?_;clear hK K;refine tn (Q6 rfl (λg=>?_) λg=>?_)
      ·have g59:(ix s53.1 s53.2)=(ix s36.1 (ix (rx pairs_ s36.2) 1)):=gQ;clear g;replace h:=if_l g59 h;refine runQ hN λK hK=>?_;replace⟨a60,h⟩:=Q1 h;simp[at_I a60];(repeat refine sdQ ?_);refine hK _ (bn ?_);clear hK K;exact jn (b:=s53.1.set s53.2.toNat (ix s36.1 (ix (rx pairs_ s36.2) 0))) (yJ h) (wkQ [(0,0)])
      have g59:¬((ix s53.1 s53.2)=(ix s36.1 (ix (rx pairs_ s36.2) 1))):=gQ;clear g;replace h:=if_r g59 h;refine Q7 (bn ?_);exact jn (b:=s53.1) (yJ h) (wkQ [(0,0)])
     intro b57 hb57;have h:=h57;(try rw[←hb57]at h);clear h57;(try dsimp only at h);refine runQ hN λK hK=>?_;replace⟨a61,h⟩:=Q1 h;simp[Qi a61];(repeat refine sdQ ?_);refine hK _ ?_;clear hK K;cases h;exact rn (s':=(b57,s53.2+1)) hk53 (wkQ [(0,0)])
    have g56:¬(b54=true):=gQ;clear g;replace h:=if_r g56 h;refine Qk (tx (lx (bh (bn ?_))));cases h;have q:_=e53:=hk53;have h:=h53;rw[←q]at h;clear q;(try dsimp only at h);exact jn (b:=s53.1) (yJ h) (wkQ [(0,0)])
   intro b38 hb38;have h:=h38;(try rw[←hb38]at h);clear h38;(try dsimp only at h);refine runQ hN λK hK=>?_;replace⟨a62,h⟩:=Q1 h;simp[Qi a62];(repeat refine sdQ ?_);refine hK _ ?_;clear hK K;cases h;exact rn (s':=(b38,s36.2+1)) hk36 (wkQ [(0,0)])
  have g37:¬(s36.2<(pairs_.length:Int)):=gQ;clear g;replace h:=if_r g37 h;refine Qk (tx (lx (bh ?_)));cases h;exact jn (b:=s36.1) hk36 (wkQ [(0,0)])
 intro b9 hb9;have h:=h9;try rw[←hb9]at h
 clear h9;try dsimp only at h
 refine Q0 (runQ hN λK hK=>?_);simp;repeat with_reducible refine sdQ ?_
 replace⟨v63,hv63,h⟩:=bind_some h;refine Q2 (Q6F _ v63 hv63) (.cons .w .nil) ?_;simp;repeat refine sdQ ?_
 refine hK _ (tn (Q4 (st':=⟨[(4,.own 0 0 v63.length)],[(0,rI v63)],1⟩) (wkQ [(1,0)]) (Qh ?_)));clear hK K;have hr:=yJ h;rw[←hr];refine⟨_,(.tmp .nil),?_⟩;refine⟨(.one rfl rfl .nil),[lI v63],[0],by simp[BN],by simp,(yM _)⟩
section
attribute [local simp] Qa QD Qn QL Qv
structure PP(c:Cat)(L:List (List Int))(i k:Nat):Prop where
 a:∀p∈L,∃y x:Nat,p=[(y:Int),(x:Int)]∧Io c x y
 b:∀y x:Nat,y<x→x<i→Io c x y→[(y:Int),(x:Int)]∈L
 d:∀y:Nat,y<k→Io c i y→[(y:Int),(i:Int)]∈L
 len:L.length≤i*8+k
def rlb(l:List Int)(a b:Int)(i:Nat):List Int:=tab l.length λz:Nat=>if z<i∧ix l z=b then a else ix l z
theorem tab_ix(l:List Int):tab l.length (λz:Nat=>ix l z)=l:=by
 refine List.ext_getElem (by simp) λi h1 h2=>?_;rw[Q16 l i h2];simp[tab]
theorem rlb_zero(l:List Int)(a b:Int):rlb l a b 0=l:=by
 have:rlb l a b 0=tab l.length (λz:Nat=>ix l z):=Q4V λi _=>by simp
 rw[this,tab_ix]
theorem rlb_all(l:List Int)(a b:Int):rlb l a b l.length=tab l.length λz:Nat=>if ix l z=b then a else ix l z:=Q4V λi hi=>by simp[hi]
theorem rlb_hit{l:List Int}{a b:Int}{i:Nat}(h:ix l i=b):(rlb l a b i).set i a=rlb l a b (i+1):=by
 refine List.ext_getElem (by simp[rlb]) λj h1 h2=>?_;simp only[rlb,tab,List.getElem_set,List.getElem_map,List.getElem_range]
 by_cases e:i=j
 ·subst e;simp[h]
 have:(j<i)=(j<i+1):=propext ⟨λ_=>by omega,λ_=>by omega⟩;simp[e,this]
theorem rlb_miss{l:List Int}{a b:Int}{i:Nat}(h:¬ix l i=b):rlb l a b i=rlb l a b (i+1):=Q4V λj _=>by
 by_cases e:i=j
 ·subst e;simp[h]
 have:(j<i)=(j<i+1):=propext ⟨λ_=>by omega,λ_=>by omega⟩;simp[this]
end
section
attribute [local simp] Qa QD Qn QL Qv
def jnr(r:Nat→Nat)(a b:Nat):Nat→Nat:=λz=>if r z=max (r a) (r b)then min (r a) (r b)else r z
def RR(P:List (List Int)):Nat→Nat:=P.foldl (λr p=>jnr r (ix p 0).toNat (ix p 1).toNat) λz=>z
theorem RR_snoc(P:List (List Int))(p:List Int):RR (P++[p])=jnr (RR P) (ix p 0).toNat (ix p 1).toNat:=by simp[RR]
theorem UF.jn{j:List Int}{r:Nat→Nat}{n a b:Nat}(h:UF j r n)(ha:a<n)(hb:b<n):UF (j.set (max (r a) (r b)) ((min (r a) (r b):Nat):Int)) (jnr r a b) n:=by
 have la:=h.le a ha;have lb:=h.le b hb;have e1:r (min (r a) (r b))=min (r a) (r b):=by
  rcases Nat.le_total (r a) (r b)with q|q
  ·rw[Nat.min_eq_left q];exact h.rr ha
  rw[Nat.min_eq_right q];exact h.rr hb
 have e2:r (max (r a) (r b))=max (r a) (r b):=by
  rcases Nat.le_total (r a) (r b)with q|q
  ·rw[Nat.max_eq_right q];exact h.rr hb
  rw[Nat.max_eq_left q];exact h.rr ha
 exact h.join (a:=min (r a) (r b)) (b:=max (r a) (r b)) (by omega) (by omega) e1 e2 (by omega)
theorem UF_id{n:Nat}:UF (iota n) (λz=>z) n:=
 ⟨by simp,λx hx=>by rw[Q60 _ (by omega) (by omega)];omega,λx _=>qE _,λx hx=>Q60 _ (by omega) (by omega),λx hx=>by rw[Q60 _ (by omega) (by omega)];simp,λx _ _=>rfl⟩
def Prs(n:Nat)(P:List (List Int)):Prop:=∀p∈P,∃a b:Nat,a<n∧b<n∧p=[(a:Int),(b:Int)]
theorem Prs.at{n:Nat}{P:List (List Int)}(h:Prs n P){i:Nat}(hi:i<P.length):∃a b:Nat,a<n∧b<n∧P[i]=[(a:Int),(b:Int)]:=h _ (zW hi)
theorem Q94{P:List (List Int)}{i:Nat}(hi:i<P.length){a b:Nat}(e:P[i]=[(a:Int),(b:Int)]):RR (P.take (i+1))=jnr (RR (P.take i)) a b:=by
 rw[yP hi,RR_snoc,e];rfl
theorem RR_ufk{n:Nat}{P:List (List Int)}(h:Prs n P):∀k,k≤P.length→∃j,UF j (RR (P.take k)) n:=by
 intro k
 induction k with
 |zero=>intro _;exact⟨iota n,UF_id⟩
 |succ k ih=>
  intro hk;obtain⟨j,u⟩:=ih (by omega);obtain⟨a,b,ha,hb,e⟩:=h.at (i:=k) (by omega);rw[Q94 (by omega) e];exact⟨_,u.jn ha hb⟩
theorem RR_uf{n:Nat}{P:List (List Int)}(h:Prs n P):∃j,UF j (RR P) n:=by
 have:=RR_ufk h P.length (qE _)
 rwa[List.take_length]at this
theorem RR_ok{n:Nat}{P:List (List Int)}(h:Prs n P):∀x,x<n→RR P x≤x∧RR P (RR P x)=RR P x:=by
 obtain⟨j,u⟩:=RR_uf h;exact λx hx=>⟨u.le x hx,u.rr hx⟩
theorem Qac{l l2:List Int}{r:Nat→Nat}{n a b:Nat}(h:∀x y:Nat,x<n→y<n→(ix l x=ix l y↔r x=r y))(ha:a<n)(hb:b<n)(e:∀z:Nat,z<n→ix l2 z=if ix l z=ix l b then ix l a else ix l z):
  ∀x y:Nat,x<n→y<n→(ix l2 x=ix l2 y↔jnr r a b x=jnr r a b y):=by
 intro x y hx hy;rw[e x hx,e y hy];have h1:=h x y hx hy;have h2:=h x a hx ha;have h3:=h x b hx hb;have h4:=h y a hy ha;have h5:=h y b hy hb;have h6:=h a b ha hb;unfold jnr;split<;>split<;>split<;>split<;>omega
theorem e_joinG{n:Nat}{P:List (List Int)}(hp:Prs n P)(hn:n≤1000)(hl:P.length≤100000000):Q2X (n:Int) P=some (cls (RR P) n):=by
 unfold Q2X;refine tabg n (λi:Nat=>(i:Int)) (e:=iota n) (by omega) (λi hi=>by simp only;rw[if_pos (by omega)]) (by simp only;rw[if_neg (by omega)];rfl) (Q3p (σ:=List Int×Int) (Q:=λz=>z=some (cls (RR P) n)) P.length (λi s=>s.2=(i:Int)∧s.1.length=n∧∀x y:Nat,x<n→y<n→(ix s.1 x=ix s.1 y↔RR (P.take i) x=RR (P.take i) y)) (λl=>l.length=n∧∀x y:Nat,x<n→y<n→(ix l x=ix l y↔RR P x=RR P y)) (by omega) ⟨rfl,by simp,λx y hx hy=>?_⟩ ?_ ?_ ?_)
 ·rw[Q60 _ (by omega) (by omega),Q60 _ (by omega) (by omega)];simp[RR];omega
 ·rintro i ⟨l,k⟩ hi ⟨hk,hll,h⟩
  simp only at hk h hll;subst hk;obtain⟨y,x,hy,hx,ep0⟩:=hp.at hi;have ep:rx P i=[(y:Int),(x:Int)]:=by rw[←ep0];simp[rx,qB,hi]
  have h0:ix [(y:Int),(x:Int)] 0=y:=rfl;have h1:ix [(y:Int),(x:Int)] 1=x:=rfl;simp only;rw[if_pos (by omega),Q3 (by omega),ep,h0,h1,Q3 (by simp),Q3 (by omega),Q3 (by omega),Q3 (by simp),Q3 (by omega)];rw[Q94 hi ep0]
  by_cases q:ix l y=ix l x
  ·have run:(Qd (σ:=List Int×Int) (ε:=List Int) (λs53=>
     (
      if s53.2<(s53.1.length:Int)then
       some ((ix l y)!=(ix l x))
      else
       some false:Option (Bool)).bind λb54=>
     if b54=true then
      (
       ass (0≤s53.2∧s53.2<(s53.1.length:Int))<|
       if(ix s53.1 s53.2)=(ix l x)then
        ass (0≤s53.2∧s53.2<(s53.1.length:Int))<|
        some (s53.1.set s53.2.toNat (ix l y))
       else
        some s53.1:Option (List Int)).bind λb57=>
      ass (B64 (s53.2+1))<|
      some (yK (b57,s53.2+1))
     else
      some (yV s53.1)) fuel (l,0))=some l:=by
    refine Q7C (λ_=>l) 0 rfl (by omega) (λz hz=>by omega) ?_;simp only[q,bne_self_eq_false];split<;>simp
   rw[run];simp only[yT];rw[Q3 (by unfold B64;omega)];refine .inl ⟨_,rfl,by push_cast;rfl,hll,Qac h hy hx λz hz=>?_⟩;simp only;split
   ·rename_i f;rw[f,q]
   rfl
  have run:(Qd (σ:=List Int×Int) (ε:=List Int) (λs53=>
    (
     if s53.2<(s53.1.length:Int)then
      some ((ix l y)!=(ix l x))
     else
      some false:Option (Bool)).bind λb54=>
    if b54=true then
     (
      ass (0≤s53.2∧s53.2<(s53.1.length:Int))<|
      if(ix s53.1 s53.2)=(ix l x)then
       ass (0≤s53.2∧s53.2<(s53.1.length:Int))<|
       some (s53.1.set s53.2.toNat (ix l y))
      else
       some s53.1:Option (List Int)).bind λb57=>
     ass (B64 (s53.2+1))<|
     some (yK (b57,s53.2+1))
    else
     some (yV s53.1)) fuel (l,0))=some (tab n λz:Nat=>if ix l z=ix l x then ix l y else ix l z):=by
   refine Q7C (λi=>rlb l (ix l y) (ix l x) i) n (rlb_zero _ _ _).symm (by omega) (λz hz=>?_) ?_
   ·have gl:(rlb l (ix l y) (ix l x) z).length=l.length:=(by simp[rlb]);have gz:ix (rlb l (ix l y) (ix l x) z) z=ix l z:=by
     unfold rlb;rw[Q8t _ _ (by omega)];simp
    simp only;rw[if_pos (by omega)];simp only[yT];rw[if_pos (by simpa using q),Q3 (by omega),gz]
    by_cases f:ix l z=ix l x
    ·rw[if_pos f,Q3 (by omega)];simp only[yT,yO];rw[Q3 (by unfold B64;omega),rlb_hit f]
    rw[if_neg f];simp only[yT];rw[Q3 (by unfold B64;omega),rlb_miss f]
   have gl:(rlb l (ix l y) (ix l x) n).length=l.length:=(by simp[rlb]);simp only;rw[if_neg (by omega)];simp only[yT,zG,if_false];rw[←hll,rlb_all]
  rw[run];simp only[yT];rw[Q3 (by unfold B64;omega)];exact .inl ⟨_,rfl,by push_cast;rfl,by simp,Qac h hy hx λz hz=>Q8t _ _ hz⟩
 ·rintro ⟨l,k⟩ ⟨hk,hll,h⟩
  simp only at hk h hll;subst hk;rw[List.take_length]at h;simp only;rw[if_neg (by omega)];exact⟨_,rfl,hll,h⟩
 rintro l ⟨hll,h⟩
 rw[e_l01Cls hll (RR_ok hp) h (by omega)];rfl
end
attribute [local simp] unk unA unE unT unC flat eL eI Qj QQ Cat.cells
def Q1s(c_:Cat)(arrows_:List Int):Option (List Bool):=
 (Qs c_).bind λv1=>
 ass (0≤v1∧v1≤1073741824)<|
 (Qd (σ:=List Bool×Int) (ε:=List Bool) (λs8=>
  if s8.2<(arrows_.length:Int)then
   ass (0≤s8.2∧s8.2<(arrows_.length:Int))<|
   ass (0≤ix arrows_ s8.2∧ix arrows_ s8.2<(s8.1.length:Int))<|
   ass (B64 (s8.2+1))<|
   some (yK (s8.1.set ((ix arrows_ s8.2).toNat) true,s8.2+1))
  else
   some (yV s8.1)) fuel (zF v1.toNat false,0)).bind λb3=>
 some b3
theorem Q4X(c_:Cat)(arrows_:List Int)(r:List Bool)(h:Q1s c_ arrows_=some r):Contract Tryz.prog 88 (Y0z c_ [lI arrows_]) (.lst true 1 (Bs r)):=by
 refine Q9 (rvs:=[.tmp 4]) (rs:=[.lst true 1 (Bs r)]) Tryz.func88 rfl rfl rfl rfl (by simp[Tryz.f88]) λF hN hP=>?_;unfold Q1s at h;refine Q0 (runQ hN λK hK=>?_);simp;repeat refine sdQ ?_
 refine hK _ ?_;clear hK K;refine tn (Q4 (st':=⟨YF c_ [(1,lI arrows_)],[],0⟩) (wkQ []) (Q0 (runQ hN λK hK=>?_)));simp;repeat with_reducible refine sdQ ?_
 replace⟨v1,hv1,h⟩:=bind_some h;refine Q2 (Q1l _ v1 hv1) (.cons (.preT (by simp[CN])) .nil) ?_;replace⟨a2,h⟩:=Q1 h;simp;repeat refine sdQ ?_
 refine hK _ ?_;clear hK K;refine tn (Q4 (st':=⟨[(1,lI arrows_),(5,.own 0 0 ((zF v1.toNat false).length))],[(0,.row 1 (Bs (zF v1.toNat false)))],1⟩) (wkQ [(1,0)]) (Q0 (Q0 (runQ hN λK hK=>?_))));simp;repeat refine sdQ ?_
 refine hK _ (tn (Q4 (st':=⟨[(5,.own 0 0 ((zF v1.toNat false).length)),(11,lI arrows_),(12,iV (arrows_.length:Int)),(13,iV 0)],[(0,.row 1 (Bs (zF v1.toNat false)))],1⟩) (wkQ [(0,0)]) ?_));clear hK K;replace⟨e3,h,h3⟩:=bind_some h;refine Qc (λb3:List Bool=>⟨[(5,.own 0 0 b3.length)],[(0,.row 1 (Bs b3))],1⟩) (λb3=>b3=e3) ?_ ?_
 ·refine Q5 (Qm h (λs8:List Bool×Int=>⟨[(5,.own 0 0 s8.1.length),(11,lI arrows_),(12,iV (arrows_.length:Int)),(13,iV s8.2)],[(0,.row 1 (Bs s8.1))],1⟩) (wkQ [(0,0)]) ?_);clear h;intro k8 s8 c8 h hk8;refine Q0 (runQ hN λK hK=>?_);simp;repeat refine sdQ ?_
  refine hK _ ?_;clear hK K;refine tn (Q0 (Q6 rfl (λg=>?_) λg=>?_))
  ·have g9:s8.2<(arrows_.length:Int):=gQ;clear g;replace h:=if_l g9 h;refine Q7 (tn (Q0 (Q5 (Q0 (runQ hN λK hK=>?_)))));replace⟨a10,h⟩:=Q1 h;simp[at_I a10];(repeat refine sdQ ?_);refine hK _ ?_;clear hK K;refine tn (Q4 (st':=⟨[(5,.own 0 0 s8.1.length),(7,iV (ix arrows_ s8.2)),(11,lI arrows_),(12,iV (arrows_.length:Int)),(13,iV s8.2)],[(0,.row 1 (Bs s8.1))],1⟩) (wkQ [(0,0)]) (runQ hN λK hK=>?_));replace⟨a11,h⟩:=Q1 h;simp[at_B a11];(repeat refine sdQ ?_);refine hK _ ?_;clear hK K;refine bn (tn (Q4 (st':=⟨[(5,.own 0 0 ((s8.1.set ((ix arrows_ s8.2).toNat) true).length)),(11,lI arrows_),(12,iV (arrows_.length:Int)),(13,iV s8.2)],[(0,.row 1 (Bs (s8.1.set ((ix arrows_ s8.2).toNat) true)))],1⟩) (wkQ [(0,0)]) (runQ hN λK hK=>?_)));replace⟨a12,h⟩:=Q1 h;simp[Qi a12];(repeat refine sdQ ?_);refine hK _ ?_;clear hK K;cases h;exact rn (s':=(s8.1.set ((ix arrows_ s8.2).toNat) true,s8.2+1)) hk8 (wkQ [(0,0)])
  have g9:¬(s8.2<(arrows_.length:Int)):=gQ;clear g;replace h:=if_r g9 h;refine Qk (tx (lx (bh ?_)));cases h;exact jn (b:=s8.1) hk8 (wkQ [(0,0)])
 intro b3 hb3;have h:=h3;try rw[←hb3]at h
 clear h3;try dsimp only at h
 refine Q0 (runQ hN λK hK=>?_);simp;repeat refine sdQ ?_
 refine hK _ (tn (Q4 (st':=⟨[(4,.own 0 0 b3.length)],[(0,.row 1 (Bs b3))],1⟩) (wkQ [(0,0)]) (Qh ?_)));clear hK K;have hr:=yJ h;rw[←hr];refine⟨_,(.tmp .nil),?_⟩;refine⟨(.one rfl rfl .nil),[.lst true 1 (Bs b3)],[0],by simp[BN],by simp,(yM _)⟩
attribute [local simp] unk unA unE unT unC flat eL eI Qj
def Q2t(lists_:List (List Int))(list_:List Int):Option Int:=
 (Qd (σ:=Int) (ε:=Unit⊕Int) (λs7=>
  if s7<(lists_.length:Int)then
   ass (0≤s7∧s7<(lists_.length:Int))<|
   (Q3Q (rx lists_ s7) list_).bind λv10=>
   if v10=true then
    some (yV (yW s7))
   else
    ass (B64 (s7+1))<|
    some (yK (s7+1))
  else
   some (yV (yU ()))) fuel 0).bind λe1=>
 match e1 with
 | .inl b1=>
  some (-1)
 | .inr p1=>
  some p1
theorem Q6u(lists_:List (List Int))(list_:List Int)(r:Int)(h:Q2t lists_ list_=some r):Contract Tryz.prog 58 [.lst true 1 (Ls lists_),lI list_] (iV r):=by
 refine Q9 (rvs:=[.tmp 4]) (rs:=[iV r]) Tryz.func58 rfl rfl rfl rfl (by simp[Tryz.f58]) λF hN hP=>?_;unfold Q2t at h;refine Q0 (runQ hN λK hK=>?_);simp;repeat refine sdQ ?_
 refine hK _ ?_;clear hK K;refine tn (Q4 (st':=⟨[(0,.lst true 1 (Ls lists_)),(1,lI list_)],[],0⟩) (wkQ []) (Q0 (Q0 (runQ hN λK hK=>?_))));simp;repeat refine sdQ ?_
 refine hK _ (tn (Q4 (st':=⟨[(0,.lst true 1 (Ls lists_)),(1,lI list_),(5,iV 0)],[],0⟩) (wkQ []) ?_));clear hK K;replace⟨e1,h,h1⟩:=bind_some h;refine Qc (λb1:Unit=>⟨[],[],0⟩) (λb1=>yU b1=e1) ?_ ?_
 ·refine Q5 (Qm h (λs7:Int=>⟨[(0,.lst true 1 (Ls lists_)),(1,lI list_),(5,iV s7)],[],0⟩) (wkQ []) ?_);clear h;intro k7 s7 c7 h hk7;refine Q0 (Q0 (runQ hN λK hK=>?_));simp;repeat refine sdQ ?_
  refine hK _ ?_;clear hK K;refine tn (Q6 rfl (λg=>?_) λg=>?_)
  ·have g8:s7<(lists_.length:Int):=gQ;clear g;replace h:=if_l g8 h;refine Q7 (tn (Q0 (Q5 (Q0 (runQ hN λK hK=>?_)))));replace⟨a9,h⟩:=Q1 h;simp[at_L a9];(repeat with_reducible refine sdQ ?_);replace⟨v10,hv10,h⟩:=bind_some h;refine Q2 (Q9J _ _ v10 hv10) (.cons .lst (.cons .lst .nil)) ?_;simp[at_L a9];(repeat refine sdQ ?_);refine hK _ ?_;clear hK K;refine tn (Q4 (st':=⟨[(0,.lst true 1 (Ls lists_)),(1,lI list_),(5,iV s7),(17,.val (.bool v10))],[],0⟩) (wkQ []) (Q6 rfl (λg=>?_) λg=>?_))
   ·have g11:v10=true:=gQ;clear g;replace h:=if_l g11 h;refine Q0 (runQ hN λK hK=>?_);simp;(repeat refine sdQ ?_);refine hK _ (tn (Q4 (st':=⟨[(4,iV s7)],[],0⟩) (wkQ []) (Qh (br (tr (lr (br (tr ?_))))))));clear hK K;cases h;have q:_=e1:=hk7;have h:=h1;rw[←q]at h;clear q;(try dsimp only at h);have hr:=yJ h;rw[←hr];refine⟨_,(.tmp .nil),?_⟩;refine⟨(.one rfl rfl .nil),[iV s7],[],by simp[BN],by simp,(yM _)⟩
   have g11:¬(v10=true):=gQ;clear g;replace h:=if_r g11 h;refine Q7 (bn (tn (runQ hN λK hK=>?_)));replace⟨a12,h⟩:=Q1 h;simp[Qi a12];(repeat refine sdQ ?_);refine hK _ ?_;clear hK K;cases h;exact rn (s':=s7+1) hk7 (wkQ [])
  have g8:¬(s7<(lists_.length:Int)):=gQ;clear g;replace h:=if_r g8 h;refine Qk (tx (lx (bh ?_)));cases h;exact jn (b:=()) hk7 (wkQ [])
 intro b1 hb1;have h:=h1;try rw[←hb1]at h
 clear h1;try dsimp only at h
 refine Q0 (runQ hN λK hK=>?_);simp;repeat refine sdQ ?_
 refine hK _ (tn (Q4 (st':=⟨[(4,iV (-1))],[],0⟩) (wkQ []) (Qh ?_)));clear hK K;have hr:=yJ h;rw[←hr];refine⟨_,(.tmp .nil),?_⟩;refine⟨(.one rfl rfl .nil),[iV (-1)],[],by simp[BN],by simp,(yM _)⟩
section
attribute [local simp] Qa QD Qn QL Qv
def posL(L:List (List Int))(x:List Int):Int:=fstN L.length λi=>rx L i=x
theorem at_rxm{L:List (List Int)}{i:Nat}(h:i<L.length):rx L i∈L:=by
 rw[←Q3k _ _ h];exact zW h
theorem fstN_at{n:Nat}{p:Nat→Prop}{m:Nat}(hm:m<n)(hp:p m)(hlt:∀k,k<m→¬p k):fstN n p=(m:Int):=by
 unfold fstN;rw[show((List.range n).find? λi=>bo (p i))=some m from List.find?_eq_some_iff_getElem.2 ⟨by rw[bo_tt];exact hp,m,by simpa using hm,by simp,λj hj=>by simp[Qp (hlt j hj)]⟩];rfl
theorem fstN_no{n:Nat}{p:Nat→Prop}(h:∀i,i<n→¬p i):fstN n p= -1:=by
 rcases Q4G n p with⟨h1,_⟩|⟨k,h1,h2,_⟩
 ·exact h1
 exact absurd h2 (h k h1)
theorem fst_bind{ε β:Type}{body:Int→Option (Ctl Int ε)}{K:ε→Option β}{r:Option β}(n:Nat)(p:Nat→Prop){eb:Nat→ε}{eg:ε}(hn:n<4611686018427387904)(h1:∀i:Nat,i<n→¬p i→body (i:Int)=some (.next ((i:Int)+1)))(h2:∀i:Nat,i<n→p i→body (i:Int)=some (.ret (eb i)))(h3:body (n:Int)=some (.ret eg))(hb:∀m,m<n→p m→(∀k,k<m→¬p k)→K (eb m)=r)(hg:(∀i,i<n→¬p i)→K eg=r):(Qd body fuel 0).bind K=r:=by
 rcases Qah n (λi=>¬p i) hn h1 (λi hi h=>h2 i hi (yL h)) h3 with⟨h,e⟩|⟨m,hm,hq,hlt,e⟩
 ·rw[e];exact hg h
 rw[e];exact hb m hm (yL hq) hlt
theorem e_find{L:List (List Int)}(hn:L.length<1000000)(x:List Int):Q2t L x=some (posL L x):=by
 unfold Q2t Q3Q posL;refine fst_bind L.length (λi=>rx L i=x) (eb:=λi=>yW (i:Int)) (eg:=yU ()) (by omega) (λi hi h=>?_) (λi hi h=>?_) (by simp) (λm hm hp hlt=>?_) λh=>?_
 ·rw[if_pos (by omega),Q3 (by omega)];simp only[yT,decide_eq_true_eq,if_neg h];rw[Q3 (by unfold B64;omega)]
 ·rw[if_pos (by omega),Q3 (by omega)];simp only[yT,decide_eq_true_eq,if_pos h]
 ·simp only;rw[fstN_at hm hp hlt]
 simp only;rw[fstN_no h]
theorem take_rx{L:List (List Int)}{i:Nat}(h:i<L.length):L.take (i+1)=L.take i++[rx L i]:=by rw[yP h,Q3k _ _ h]
end
attribute [local simp] unk unA unE unT unC flat eL eI Qj QQ Cat.cells
def Q23(c_:Cat):Option Bool:=
 (
  if c_.n≤8 then
   some (decide ((c_.fr.length:Int)≤40))
  else
   some false:Option (Bool)).bind λb1=>
 some b1
theorem Q6r(c_:Cat)(r:Bool)(h:Q23 c_=some r):Contract Tryz.prog 36 (Y0w c_ []) (.val (.bool r)):=by
 refine Q9 (rvs:=[.tmp 2]) (rs:=[.val (.bool r)]) Tryz.func36 rfl rfl rfl rfl (by simp[Tryz.f36]) λF hN hP=>?_;unfold Q23 at h;refine Q0 (runQ hN λK hK=>?_);simp;repeat refine sdQ ?_
 refine hK _ (tn (Q4 (st':=⟨[(1,.adr 0 0 0)],Y6 c_ [],1⟩) (wkQ [(0,0)]) (Q0 ?_)));clear hK K;replace⟨e1,h,h1⟩:=bind_some h;refine Qc (λb1:Bool=>⟨[(2,.val (.bool b1))],[],0⟩) (λb1=>b1=e1) ?_ ?_
 ·refine runQ hN λK hK=>?_;simp;repeat with_reducible refine sdQ ?_
  refine Qy (λg=>?_) (λg=>?_)
  ·have g2:c_.n≤8:=gQ;clear g;replace h:=if_l g2 h;simp;(repeat refine sdQ ?_);refine hK _ ?_;exact jn (b:=decide ((c_.fr.length:Int)≤40)) (yJ h) (wkQ [])
  have g2:¬(c_.n≤8):=gQ;clear g;replace h:=if_r g2 h;simp;repeat refine sdQ ?_
  refine hK _ ?_;exact jn (b:=false) (yJ h) (wkQ [])
 intro b1 hb1;have h:=h1;try rw[←hb1]at h
 clear h1;try dsimp only at h
 refine Qh ?_;have hr:=yJ h;rw[←hr];refine⟨_,(.tmp .nil),?_⟩;refine⟨(.one rfl rfl .nil),[.val (.bool b1)],[],by simp[BN],by simp,(yM _)⟩
section
attribute [local simp] Qa QD Qn QL Qv
theorem Q7l(c:Cat):Q23 c=some (bo (c.n≤8∧(c.fr.length:Int)≤40)):=by
 unfold Q23
 by_cases h1:c.n≤8<;>by_cases h2:(c.fr.length:Int)≤40<;>simp[h1,h2,bo]
end
section
attribute [local simp] Qa QD Qn QL Qv
theorem Cat.Is.Ai{c:Cat}(h:c.Is){x:Int}(hx:0≤x∧x<c.n):Ar c (ix c.id x) x x:=by
 have h1:=h.1.li;obtain⟨i,rfl⟩:=yN hx.1;have h2:=h.1.ids i (by omega);exact⟨h.1.id' (by omega) (by omega),h2.1,h2.2⟩
theorem Cat.Is.Af{c:Cat}(h:c.Is){f:Int}(hf:0≤f∧f<(c.fr.length:Int)):Ar c f (ix c.fr f) (ix c.to f)∧(0≤ix c.fr f∧ix c.fr f<c.n)∧(0≤ix c.to f∧ix c.to f<c.n):=by
 have h1:=h.1.li;have h2:=h.1.fr' hf.1 hf.2;have h3:=h.1.to' hf.1 (by have:=h.1.lt;omega);exact⟨⟨hf,rfl,rfl⟩,by omega,by omega⟩
end
attribute [local simp] unk unA unE unT unC flat
def Q11(c_:Cat)(f_:Int):Option Bool:=
 ass (0≤f_∧f_<(c_.fr.length:Int))<|
 ass (0≤ix c_.fr f_∧ix c_.fr f_<(c_.id.length:Int))<|
 some ((ix c_.id (ix c_.fr f_))==f_)
theorem Q3S(c_:Cat)(f_:Int)(r:Bool)(h:Q11 c_ f_=some r):Contract Tryz.prog 103 (Y0z c_ [iV f_]) (.val (.bool r)):=by
 refine Q9 (rvs:=[.tmp 4]) (rs:=[.val (.bool r)]) Tryz.func103 rfl rfl rfl rfl (by simp[Tryz.f103]) λF hN hP=>?_;unfold Q11 at h;refine Q0 (runQ hN λK hK=>?_);simp[eL,eI,Qj,QQ,Cat.cells];repeat refine sdQ ?_
 refine hK _ ?_;clear hK K;refine tn (Q4 (st':=⟨YF c_ [(1,iV f_)],[],0⟩) (wkQ []) (Q0 (runQ hN λK hK=>?_)));replace⟨a1,h⟩:=Q1 h;replace⟨a2,h⟩:=Q1 h;simp[eL,eI,Qj,QQ,Cat.cells,at_I a1,at_I a2];repeat refine sdQ ?_
 refine hK _ (tn (Q4 (st':=⟨[(4,.val (.bool ((ix c_.id (ix c_.fr f_))==f_)))],[],0⟩) (wkQ []) (Qh ?_)));clear hK K;have hr:=yJ h;rw[←hr];refine⟨_,(.tmp .nil),?_⟩;refine⟨(.one rfl rfl .nil),[.val (.bool ((ix c_.id (ix c_.fr f_))==f_))],[],by simp[BN],by simp,(yM _)⟩
attribute [local simp] unk unA unE unT unC flat eL eI Qj QQ Cat.cells
def Q2e(c_:Cat)(list_:List Int):Option Int:=
 (Q1j c_).bind λv1=>
 if¬(v1=true)then
  some 1
 else
  (Qs c_).bind λv3=>
  (Q2M list_ v3).bind λv4=>
  if¬(v4=true)then
   some 2
  else
   some 0
theorem Q7V(c_:Cat)(list_:List Int)(r:Int)(h:Q2e c_ list_=some r):Contract Tryz.prog 85 (Y0z c_ [lI list_]) (iV r):=by
 refine Q9 (rvs:=[.tmp 4]) (rs:=[iV r]) Tryz.func85 rfl rfl rfl rfl (by simp[Tryz.f85]) λF hN hP=>?_;unfold Q2e at h;refine Q0 (runQ hN λK hK=>?_);simp;repeat refine sdQ ?_
 refine hK _ ?_;clear hK K;refine tn (Q4 (st':=⟨YF c_ [(1,lI list_)],[],0⟩) (wkQ []) (Q0 (Q0 (runQ hN λK hK=>?_))));simp;repeat with_reducible refine sdQ ?_
 replace⟨v1,hv1,h⟩:=bind_some h;refine Q2 (Q3R _ v1 hv1) (.cons (.preT (by simp[CN])) .nil) ?_;simp;repeat refine sdQ ?_
 refine hK _ ?_;clear hK K;refine tn (Q4 (st':=⟨YF c_ [(1,lI list_),(7,.val (.bool (!v1)))],[],0⟩) (wkQ []) (Q6 rfl (λg=>?_) λg=>?_))
 ·have g2:¬(v1=true):=gQ;clear g;replace h:=if_l g2 h;refine Q0 (runQ hN λK hK=>?_);simp;repeat refine sdQ ?_
  refine hK _ (tn (Q4 (st':=⟨[(4,iV 1)],[],0⟩) (wkQ []) (Qh (tr ?_))));clear hK K;have hr:=yJ h;rw[←hr];refine⟨_,(.tmp .nil),?_⟩;refine⟨(.one rfl rfl .nil),[iV 1],[],by simp[BN],by simp,(yM _)⟩
 have g2:¬(¬(v1=true)):=gQ;clear g;replace h:=if_r g2 h;refine Q7 (tn (Q0 (Q0 (runQ hN λK hK=>?_))));simp;repeat with_reducible refine sdQ ?_
 replace⟨v3,hv3,h⟩:=bind_some h;refine Q2 (Q1l _ v3 hv3) (.cons (.preT (by simp[CN])) .nil) ?_;simp;repeat with_reducible refine sdQ ?_
 replace⟨v4,hv4,h⟩:=bind_some h;refine Q2 (Q78 _ _ v4 hv4) (.cons .lst (.cons .val .nil)) ?_;simp;repeat refine sdQ ?_
 refine hK _ ?_;clear hK K;refine tn (Q4 (st':=⟨[(12,.val (.bool (!v4)))],[],0⟩) (wkQ []) (Q6 rfl (λg=>?_) λg=>?_))
 ·have g5:¬(v4=true):=gQ;clear g;replace h:=if_l g5 h;refine Q0 (runQ hN λK hK=>?_);simp;repeat refine sdQ ?_
  refine hK _ (tn (Q4 (st':=⟨[(4,iV 2)],[],0⟩) (wkQ []) (Qh (tr ?_))));clear hK K;have hr:=yJ h;rw[←hr];refine⟨_,(.tmp .nil),?_⟩;refine⟨(.one rfl rfl .nil),[iV 2],[],by simp[BN],by simp,(yM _)⟩
 have g5:¬(¬(v4=true)):=gQ;clear g;replace h:=if_r g5 h;refine Q7 (tn (Q0 (runQ hN λK hK=>?_)));simp;repeat refine sdQ ?_
 refine hK _ (tn (Q4 (st':=⟨[(4,iV 0)],[],0⟩) (wkQ []) (Qh ?_)));clear hK K;have hr:=yJ h;rw[←hr];refine⟨_,(.tmp .nil),?_⟩;refine⟨(.one rfl rfl .nil),[iV 0],[],by simp[BN],by simp,(yM _)⟩
attribute [local simp] unk unA unE unT unC flat eL eI Qj QQ Qz Cat.cells XD.cells
def QM(w_:XD):Option (Int×Int×Bool):=
 (Qd (σ:=Int) (ε:=Unit⊕(Int×Int×Bool)) (λs9=>
  if s9<(w_.c_.fr.length:Int)then
   (
    (Q11 w_.c_ s9).bind λv12=>
    if v12=true then
     ass (0≤s9∧s9<(w_.there_.length:Int))<|
     some (!(gx w_.there_ s9))
    else
     some false:Option (Bool)).bind λb11=>
   if b11=true then
    some (yV (yW (s9,(-1),true)))
   else
    ass (B64 (s9+1))<|
    some (yK (s9+1))
  else
   some (yV (yU ()))) fuel 0).bind λe1=>
 match e1 with
 | .inl b1=>
  (Qd (σ:=Int) (ε:=Unit⊕(Int×Int×Bool)) (λs39=>
   if s39<(w_.list_.length:Int)then
    (
     ass (0≤s39∧s39<(w_.list_.length:Int))<|
     (Qd (σ:=Int) (ε:=(Int×Int×Bool)⊕Unit) (λs51=>
      if s51<(w_.list_.length:Int)then
       ass (0≤s51∧s51<(w_.list_.length:Int))<|
       (Qq w_.c_ (ix w_.list_ s39) (ix w_.list_ s51)).bind λv54=>
       (
        if v54≥0 then
         ass (0≤v54∧v54<(w_.there_.length:Int))<|
         some (!(gx w_.there_ v54))
        else
         some false:Option (Bool)).bind λb55=>
       if b55=true then
        some (yV (yU (ix w_.list_ s39,ix w_.list_ s51,true)))
       else
        ass (B64 (s51+1))<|
        some (yK (s51+1))
      else
       some (yV (yW ()))) fuel 0).bind λe51=>
     match e51 with
     | .inl p51=>
      some (yW p51)
     | .inr p51=>
      some (yU p51):Option (Unit⊕(Int×Int×Bool))).bind λe41=>
    match e41 with
    | .inl b41=>
     ass (B64 (s39+1))<|
     some (yK (s39+1))
    | .inr p41=>
     some (yV (yW p41))
   else
    some (yV (yU ()))) fuel 0).bind λe17=>
  match e17 with
  | .inl b17=>
   some (0,0,false)
  | .inr p17=>
   some p17
 | .inr p1=>
  some p1
@[simp] abbrev Y0t(a:XD)(b:List (AV)):List (AV):=.rptr (Cat.cells true a.c_)::lI a.list_::.lst true 1 (Bs a.there_)::b
@[simp] abbrev Y0(a:XD)(b:List (Nat×AV)):List (Nat×AV):=(0,.rptr (Y0t a []))::b
@[simp] abbrev YI(a:XD)(b:Int)(c:List (Nat×AV)):List (Nat×AV):=(43,lI a.list_)::(44,iV (a.list_.length:Int))::(45,iV b)::(52,lI a.list_)::(53,iV (a.list_.length:Int))::c
theorem Q2J(w_:XD)(r:Int×Int×Bool)(h:QM w_=some r):Contract Tryz.prog 89 [.rptr (w_.cells true)] (.tup [iV r.1,iV r.2.1,.val (.bool r.2.2)]):=by
 refine Q9 (rvs:=[.tmp 2,.tmp 3,.tmp 4]) (rs:=[iV r.1,iV r.2.1,.val (.bool r.2.2)]) Tryz.func89 rfl rfl rfl rfl (by simp[Tryz.f89]) λF hN hP=>?_;unfold QM at h;refine Q0 (runQ hN λK hK=>?_);simp;repeat refine sdQ ?_
 refine hK _ ?_;clear hK K;refine tn (Q4 (st':=⟨Y0 w_ [],[],0⟩) (wkQ []) (Q0 (Q0 (runQ hN λK hK=>?_))));simp;repeat refine sdQ ?_
 refine hK _ (tn (Q4 (st':=⟨Y0 w_ [(18,iV (w_.c_.fr.length:Int)),(19,iV 0)],[],0⟩) (wkQ []) ?_));clear hK K;replace⟨e1,h,h1⟩:=bind_some h;refine Qc (λb1:Unit=>⟨Y0 w_ [],[],0⟩) (λb1=>yU b1=e1) ?_ ?_
 ·refine Q5 (Qm h (λs9:Int=>⟨Y0 w_ [(18,iV (w_.c_.fr.length:Int)),(19,iV s9)],[],0⟩) (wkQ []) ?_);clear h;intro k9 s9 c9 h hk9;refine Q0 (runQ hN λK hK=>?_);simp;repeat refine sdQ ?_
  refine hK _ ?_;clear hK K;refine tn (Q0 (Q6 rfl (λg=>?_) λg=>?_))
  ·have g10:s9<(w_.c_.fr.length:Int):=gQ;clear g;replace h:=if_l g10 h;refine Q7 (tn (Q0 (Q5 (Q0 (runQ hN λK hK=>?_)))));simp;(repeat refine sdQ ?_);refine hK _ (tn (Q4 (st':=⟨Y0 w_ [(5,iV s9),(18,iV (w_.c_.fr.length:Int)),(19,iV s9)],[],0⟩) (wkQ []) (Q0 ?_)));clear hK K;replace⟨e11,h,h11⟩:=bind_some h;refine Qc (λb11:Bool=>⟨Y0 w_ [(5,iV s9),(18,iV (w_.c_.fr.length:Int)),(19,iV s9),(37,.val (.bool b11))],[],0⟩) (λb11=>b11=e11) ?_ ?_
   ·refine runQ hN λK hK=>?_;simp;(repeat with_reducible refine sdQ ?_);replace⟨v12,hv12,h⟩:=bind_some h;refine Q2 (Q3S _ _ v12 hv12) (.cons (.preT (by simp[CN])) (.cons .val .nil)) ?_;simp;(repeat with_reducible refine sdQ ?_);refine Qy (λg=>?_) (λg=>?_)
    ·have g13:v12=true:=gQ;clear g;replace h:=if_l g13 h;replace⟨a14,h⟩:=Q1 h;simp[at_B a14];(repeat refine sdQ ?_);refine hK _ ?_;exact jn (b:=!(gx w_.there_ s9)) (yJ h) (wkQ [])
    have g13:¬(v12=true):=gQ;clear g;replace h:=if_r g13 h;simp;(repeat refine sdQ ?_);refine hK _ ?_;exact jn (b:=false) (yJ h) (wkQ [])
   intro b11 hb11;have h:=h11;(try rw[←hb11]at h);clear h11;(try dsimp only at h);refine Q6 rfl (λg=>?_) λg=>?_
   ·have g15:b11=true:=gQ;clear g;replace h:=if_l g15 h;refine Q0 (runQ hN λK hK=>?_);simp;(repeat refine sdQ ?_);refine hK _ (tn (Q4 (st':=⟨[(2,iV s9),(3,iV (-1)),(4,.val (.bool true))],[],0⟩) (wkQ []) (Qh (br (tr (lr (br (tr ?_))))))));clear hK K;cases h;have q:_=e1:=hk9;have h:=h1;rw[←q]at h;clear q;(try dsimp only at h);have hr:=yJ h;rw[←hr];refine⟨_,(.tmp (.tmp (.tmp .nil))),?_⟩;refine⟨(.one rfl rfl (.one rfl rfl (.one rfl rfl .nil))),[iV s9,iV (-1),.val (.bool true)],[],by simp[BN],by simp,(yM _)⟩
   have g15:¬(b11=true):=gQ;clear g;replace h:=if_r g15 h;refine Q7 (bn (tn (runQ hN λK hK=>?_)));replace⟨a16,h⟩:=Q1 h;simp[Qi a16];(repeat refine sdQ ?_);refine hK _ ?_;clear hK K;cases h;exact rn (s':=s9+1) hk9 (wkQ [])
  have g10:¬(s9<(w_.c_.fr.length:Int)):=gQ;clear g;replace h:=if_r g10 h;refine Qk (tx (lx (bh ?_)));cases h;exact jn (b:=()) hk9 (wkQ [])
 intro b1 hb1;have h:=h1;try rw[←hb1]at h
 clear h1;try dsimp only at h
 refine Q0 (Q0 (runQ hN λK hK=>?_));simp;repeat refine sdQ ?_
 refine hK _ (tn (Q4 (st':=⟨Y0 w_ [(43,lI w_.list_),(44,iV (w_.list_.length:Int)),(45,iV 0)],[],0⟩) (wkQ []) ?_));clear hK K;replace⟨e17,h,h17⟩:=bind_some h;refine Qc (λb17:Unit=>⟨[],[],0⟩) (λb17=>yU b17=e17) ?_ ?_
 ·refine Q5 (Qm h (λs39:Int=>⟨Y0 w_ [(43,lI w_.list_),(44,iV (w_.list_.length:Int)),(45,iV s39)],[],0⟩) (wkQ []) ?_);clear h;intro k39 s39 c39 h hk39;refine Q0 (runQ hN λK hK=>?_);simp;repeat refine sdQ ?_
  refine hK _ ?_;clear hK K;refine tn (Q0 (Q6 rfl (λg=>?_) λg=>?_))
  ·have g40:s39<(w_.list_.length:Int):=gQ;clear g;replace h:=if_l g40 h;refine Q7 (tn (Q0 ?_));replace⟨e41,h,h41⟩:=bind_some h;refine Qc (λb41:Unit=>⟨Y0 w_ [(43,lI w_.list_),(44,iV (w_.list_.length:Int)),(45,iV s39)],[],0⟩) (λb41=>yU b41=e41) ?_ ?_
   ·refine Q5 (Q0 (runQ hN λK hK=>?_));replace⟨a42,h⟩:=Q1 h;simp[at_I a42];(repeat refine sdQ ?_);refine hK _ ?_;clear hK K;refine tn (Q4 (st':=⟨Y0 w_ [(7,iV (ix w_.list_ s39)),(43,lI w_.list_),(44,iV (w_.list_.length:Int)),(45,iV s39)],[],0⟩) (wkQ []) (Q0 (runQ hN λK hK=>?_)));simp;(repeat refine sdQ ?_);refine hK _ (tn (Q4 (st':=⟨Y0 w_ ((7,iV (ix w_.list_ s39))::YI w_ s39 [(54,iV 0)]),[],0⟩) (wkQ []) (Q5 ?_)));clear hK K;replace⟨e51,he51,h51⟩:=bind_some h;refine Qm he51 (λs51:Int=>⟨Y0 w_ ((7,iV (ix w_.list_ s39))::YI w_ s39 [(54,iV s51)]),[],0⟩) (wkQ []) ?_;intro k51 s51 c51 h hk51;refine Q0 (runQ hN λK hK=>?_);simp;(repeat refine sdQ ?_);refine hK _ ?_;clear hK K;refine tn (Q0 (Q6 rfl (λg=>?_) λg=>?_))
    ·have g52:s51<(w_.list_.length:Int):=gQ;clear g;replace h:=if_l g52 h;refine Q7 (tn (Q0 (Q5 (Q0 (runQ hN λK hK=>?_)))));replace⟨a53,h⟩:=Q1 h;simp[at_I a53];(repeat refine sdQ ?_);refine hK _ ?_;clear hK K;refine tn (Q4 (st':=⟨Y0 w_ ((7,iV (ix w_.list_ s39))::(9,iV (ix w_.list_ s51))::YI w_ s39 [(54,iV s51)]),[],0⟩) (wkQ []) (Q0 (runQ hN λK hK=>?_)));simp;(repeat with_reducible refine sdQ ?_);replace⟨v54,hv54,h⟩:=bind_some h;refine Q2 (QH _ _ _ v54 hv54) (.cons (.preT (by simp[CN])) (.cons .val (.cons .val .nil))) ?_;simp;(repeat refine sdQ ?_);refine hK _ (tn (Q4 (st':=⟨Y0 w_ ((7,iV (ix w_.list_ s39))::(9,iV (ix w_.list_ s51))::(10,iV v54)::YI w_ s39 [(54,iV s51)]),[],0⟩) (wkQ []) (Q0 ?_)));clear hK K;replace⟨e55,h,h55⟩:=bind_some h;refine Qc (λb55:Bool=>⟨Y0 w_ ((7,iV (ix w_.list_ s39))::(9,iV (ix w_.list_ s51))::YI w_ s39 [(54,iV s51),(76,.val (.bool b55))]),[],0⟩) (λb55=>b55=e55) ?_ ?_
     ·refine runQ hN λK hK=>?_;simp;(repeat with_reducible refine sdQ ?_);refine Qy (λg=>?_) (λg=>?_)
      ·have g56:v54≥0:=gQ;clear g;replace h:=if_l g56 h;replace⟨a57,h⟩:=Q1 h;simp[at_B a57];(repeat refine sdQ ?_);refine hK _ ?_;exact jn (b:=!(gx w_.there_ v54)) (yJ h) (wkQ [])
      have g56:¬(v54≥0):=gQ;clear g;replace h:=if_r g56 h;simp;(repeat refine sdQ ?_);refine hK _ ?_;exact jn (b:=false) (yJ h) (wkQ [])
     intro b55 hb55;have h:=h55;(try rw[←hb55]at h);clear h55;(try dsimp only at h);refine Q6 rfl (λg=>?_) λg=>?_
     ·have g58:b55=true:=gQ;clear g;replace h:=if_l g58 h;refine Q0 (runQ hN λK hK=>?_);simp;(repeat refine sdQ ?_);refine hK _ (tn (Q4 (st':=⟨[(2,iV (ix w_.list_ s39)),(3,iV (ix w_.list_ s51)),(4,.val (.bool true))],[],0⟩) (wkQ []) (Qh (br (tr (lr (br (br (tr (lr (br (tr ?_))))))))))));clear hK K;cases h;have q:_=e51:=hk51;have h:=h51;rw[←q]at h;clear q;(try dsimp only at h);cases h;have h:=h41;(try dsimp only at h);cases h;have q:_=e17:=hk39;have h:=h17;rw[←q]at h;clear q;(try dsimp only at h);have hr:=yJ h;rw[←hr];refine⟨_,(.tmp (.tmp (.tmp .nil))),?_⟩;refine⟨(.one rfl rfl (.one rfl rfl (.one rfl rfl .nil))),[iV (ix w_.list_ s39),iV (ix w_.list_ s51),.val (.bool true)],[],by simp[BN],by simp,(yM _)⟩
     have g58:¬(b55=true):=gQ;clear g;replace h:=if_r g58 h;refine Q7 (bn (tn (runQ hN λK hK=>?_)));replace⟨a59,h⟩:=Q1 h;simp[Qi a59];(repeat refine sdQ ?_);refine hK _ ?_;clear hK K;cases h;exact rn (s':=s51+1) hk51 (wkQ [])
    have g52:¬(s51<(w_.list_.length:Int)):=gQ;clear g;replace h:=if_r g52 h;refine Qk (tx (lx (bh (bn ?_))));cases h;have q:_=e51:=hk51;have h:=h51;rw[←q]at h;clear q;(try dsimp only at h);exact jn (b:=()) (yJ h) (wkQ [])
   intro b41 hb41;have h:=h41;(try rw[←hb41]at h);clear h41;(try dsimp only at h);refine runQ hN λK hK=>?_;replace⟨a60,h⟩:=Q1 h;simp[Qi a60];(repeat refine sdQ ?_);refine hK _ ?_;clear hK K;cases h;exact rn (s':=s39+1) hk39 (wkQ [])
  have g40:¬(s39<(w_.list_.length:Int)):=gQ;clear g;replace h:=if_r g40 h;refine Qk (tx (lx (bh ?_)));cases h;exact jn (b:=()) hk39 (wkQ [])
 intro b17 hb17;have h:=h17;try rw[←hb17]at h
 clear h17;try dsimp only at h
 refine Q0 (runQ hN λK hK=>?_);simp;repeat refine sdQ ?_
 refine hK _ (tn (Q4 (st':=⟨[(2,iV 0),(3,iV 0),(4,.val (.bool false))],[],0⟩) (wkQ []) (Qh ?_)));clear hK K;have hr:=yJ h;rw[←hr];refine⟨_,(.tmp (.tmp (.tmp .nil))),?_⟩;refine⟨(.one rfl rfl (.one rfl rfl (.one rfl rfl .nil))),[iV 0,iV 0,.val (.bool false)],[],by simp[BN],by simp,(yM _)⟩
attribute [local simp] unk unA unE unT unC flat
def Q3t(list_:List Int):Option Bool:=
 (Qd (σ:=Int) (ε:=Unit⊕Bool) (λs7=>
  if s7<(list_.length:Int)then
   ass (B64 (s7 - 1))<|
   ass (0≤s7 - 1∧s7 - 1<(list_.length:Int))<|
   ass (0≤s7∧s7<(list_.length:Int))<|
   if(ix list_ (s7 - 1))≥(ix list_ s7)then
    some (yV (yW false))
   else
    ass (B64 (s7+1))<|
    some (yK (s7+1))
  else
   some (yV (yU ()))) fuel 1).bind λe1=>
 match e1 with
 | .inl b1=>
  some true
 | .inr p1=>
  some p1
theorem Qbh(list_:List Int)(r:Bool)(h:Q3t list_=some r):Contract Tryz.prog 87 [lI list_] (.val (.bool r)):=by
 refine Q9 (rvs:=[.tmp 2]) (rs:=[.val (.bool r)]) Tryz.func87 rfl rfl rfl rfl (by simp[Tryz.f87]) λF hN hP=>?_;unfold Q3t at h;refine Q0 (runQ hN λK hK=>?_);simp[-yX,eL,eI,Qj];repeat refine sdQ ?_
 refine hK _ ?_;clear hK K;refine tn (Q4 (st':=⟨[(0,lI list_)],[],0⟩) (wkQ []) (Q0 (Q0 (runQ hN λK hK=>?_))));simp[-yX,eL,eI,Qj];repeat refine sdQ ?_
 refine hK _ (tn (Q4 (st':=⟨[(0,lI list_),(3,iV 1)],[],0⟩) (wkQ []) ?_));clear hK K;replace⟨e1,h,h1⟩:=bind_some h;refine Qc (λb1:Unit=>⟨[],[],0⟩) (λb1=>yU b1=e1) ?_ ?_
 ·refine Q5 (Qm h (λs7:Int=>⟨[(0,lI list_),(3,iV s7)],[],0⟩) (wkQ []) ?_);clear h;intro k7 s7 c7 h hk7;refine Q0 (Q0 (runQ hN λK hK=>?_));simp[-yX,eL,eI,Qj];repeat refine sdQ ?_
  refine hK _ ?_;clear hK K;refine tn (Q6 rfl (λg=>?_) λg=>?_)
  ·have g8:s7<(list_.length:Int):=gQ;clear g;replace h:=if_l g8 h;refine Q7 (tn (Q0 (Q5 (Q0 (runQ hN λK hK=>?_)))));replace⟨a9,h⟩:=Q1 h;replace⟨a10,h⟩:=Q1 h;replace⟨a11,h⟩:=Q1 h;simp[-yX,eL,eI,Qj,Qi a9,at_I a10,at_I a11];(repeat refine sdQ ?_);refine hK _ ?_;clear hK K;refine tn (Q6 rfl (λg=>?_) λg=>?_)
   ·have g12:(ix list_ (s7 - 1))≥(ix list_ s7):=gQ;clear g;replace h:=if_l g12 h;refine Q0 (runQ hN λK hK=>?_);simp[-yX,eL,eI,Qj];(repeat refine sdQ ?_);refine hK _ (tn (Q4 (st':=⟨[(2,.val (.bool false))],[],0⟩) (wkQ []) (Qh (br (tr (lr (br (tr ?_))))))));clear hK K;cases h;have q:_=e1:=hk7;have h:=h1;rw[←q]at h;clear q;(try dsimp only at h);have hr:=yJ h;rw[←hr];refine⟨_,(.tmp .nil),?_⟩;refine⟨(.one rfl rfl .nil),[.val (.bool false)],[],by simp[BN],by simp,(yM _)⟩
   have g12:¬((ix list_ (s7 - 1))≥(ix list_ s7)):=gQ;clear g;replace h:=if_r g12 h;refine Q7 (bn (tn (runQ hN λK hK=>?_)));replace⟨a13,h⟩:=Q1 h;simp[-yX,eL,eI,Qj,Qi a13];(repeat refine sdQ ?_);refine hK _ ?_;clear hK K;cases h;exact rn (s':=s7+1) hk7 (wkQ [])
  have g8:¬(s7<(list_.length:Int)):=gQ;clear g;replace h:=if_r g8 h;refine Qk (tx (lx (bh ?_)));cases h;exact jn (b:=()) hk7 (wkQ [])
 intro b1 hb1;have h:=h1;try rw[←hb1]at h
 clear h1;try dsimp only at h
 refine Q0 (runQ hN λK hK=>?_);simp[-yX,eL,eI,Qj];repeat refine sdQ ?_
 refine hK _ (tn (Q4 (st':=⟨[(2,.val (.bool true))],[],0⟩) (wkQ []) (Qh ?_)));clear hK K;have hr:=yJ h;rw[←hr];refine⟨_,(.tmp .nil),?_⟩;refine⟨(.one rfl rfl .nil),[.val (.bool true)],[],by simp[BN],by simp,(yM _)⟩
attribute [local simp] unk unA unE unT unC flat eL eI Qj QQ Cat.cells
def Q2f(c_:Cat)(arrows_:List Int):Option Int:=
 (Q4S c_).bind λv1=>
 if¬(v1=true)then
  some 1
 else
  (Q4i (c_.fr.length:Int) arrows_).bind λv3=>
  if¬(v3=true)then
   some 2
  else
   some 0
theorem Q7X(c_:Cat)(arrows_:List Int)(r:Int)(h:Q2f c_ arrows_=some r):Contract Tryz.prog 75 (Y0w c_ [lI arrows_]) (iV r):=by
 refine Q9 (rvs:=[.tmp 4]) (rs:=[iV r]) Tryz.func75 rfl rfl rfl rfl (by simp[Tryz.f75]) λF hN hP=>?_;unfold Q2f at h;refine Q0 (runQ hN λK hK=>?_);simp;repeat refine sdQ ?_
 refine hK _ ?_;clear hK K;refine tn (Q4 (st':=⟨(1,lI arrows_)::Y00 [],Y6 c_ [],1⟩) (wkQ [(0,0)]) (Q0 (Q0 (runQ hN λK hK=>?_))));simp;repeat with_reducible refine sdQ ?_
 replace⟨v1,hv1,h⟩:=bind_some h;refine Q2 (w_s_l02Is _ v1 hv1) (.cons (.aggL (.cons .val (.cons .lst (.cons .lst (.cons .lst (.cons .lst .nil)))))) .nil) ?_;simp;repeat refine sdQ ?_
 refine hK _ ?_;clear hK K;refine tn (Q4 (st':=⟨(1,lI arrows_)::Y00 [(7,.val (.bool (!v1)))],Y6 c_ [],1⟩) (wkQ [(0,0)]) (Q6 rfl (λg=>?_) λg=>?_))
 ·have g2:¬(v1=true):=gQ;clear g;replace h:=if_l g2 h;refine Q0 (runQ hN λK hK=>?_);simp;repeat refine sdQ ?_
  refine hK _ (tn (Q4 (st':=⟨[(4,iV 1)],[],0⟩) (wkQ []) (Qh (tr ?_))));clear hK K;have hr:=yJ h;rw[←hr];refine⟨_,(.tmp .nil),?_⟩;refine⟨(.one rfl rfl .nil),[iV 1],[],by simp[BN],by simp,(yM _)⟩
 have g2:¬(¬(v1=true)):=gQ;clear g;replace h:=if_r g2 h;refine Q7 (tn (Q0 (Q0 (runQ hN λK hK=>?_))));simp;repeat with_reducible refine sdQ ?_
 replace⟨v3,hv3,h⟩:=bind_some h;refine Q2 (Qbi _ _ v3 hv3) (.cons .val (.cons .lst .nil)) ?_;simp;repeat refine sdQ ?_
 refine hK _ ?_;clear hK K;refine tn (Q4 (st':=⟨[(13,.val (.bool (!v3)))],[],0⟩) (wkQ []) (Q6 rfl (λg=>?_) λg=>?_))
 ·have g4:¬(v3=true):=gQ;clear g;replace h:=if_l g4 h;refine Q0 (runQ hN λK hK=>?_);simp;repeat refine sdQ ?_
  refine hK _ (tn (Q4 (st':=⟨[(4,iV 2)],[],0⟩) (wkQ []) (Qh (tr ?_))));clear hK K;have hr:=yJ h;rw[←hr];refine⟨_,(.tmp .nil),?_⟩;refine⟨(.one rfl rfl .nil),[iV 2],[],by simp[BN],by simp,(yM _)⟩
 have g4:¬(¬(v3=true)):=gQ;clear g;replace h:=if_r g4 h;refine Q7 (tn (Q0 (runQ hN λK hK=>?_)));simp;repeat refine sdQ ?_
 refine hK _ (tn (Q4 (st':=⟨[(4,iV 0)],[],0⟩) (wkQ []) (Qh ?_)));clear hK K;have hr:=yJ h;rw[←hr];refine⟨_,(.tmp .nil),?_⟩;refine⟨(.one rfl rfl .nil),[iV 0],[],by simp[BN],by simp,(yM _)⟩
attribute [local simp] unk unA unE unT unC flat
def Q2B(list_:List Int):Option Bool:=
 (Qd (σ:=Int) (ε:=Unit⊕Bool) (λs7=>
  if s7<(list_.length:Int)then
   ass (0≤s7∧s7<(list_.length:Int))<|
   ass (B64 (s7 - 1))<|
   ass (0≤s7 - 1∧s7 - 1<(list_.length:Int))<|
   if(ix list_ s7)≤(ix list_ (s7 - 1))then
    some (yV (yW false))
   else
    ass (B64 (s7+1))<|
    some (yK (s7+1))
  else
   some (yV (yU ()))) fuel 1).bind λe1=>
 match e1 with
 | .inl b1=>
  some true
 | .inr p1=>
  some p1
theorem Q8W(list_:List Int)(r:Bool)(h:Q2B list_=some r):Contract Tryz.prog 76 [lI list_] (.val (.bool r)):=by
 refine Q9 (rvs:=[.tmp 2]) (rs:=[.val (.bool r)]) Tryz.func76 rfl rfl rfl rfl (by simp[Tryz.f76]) λF hN hP=>?_;unfold Q2B at h;refine Q0 (runQ hN λK hK=>?_);simp[-yX,eL,eI,Qj];repeat refine sdQ ?_
 refine hK _ ?_;clear hK K;refine tn (Q4 (st':=⟨[(0,lI list_)],[],0⟩) (wkQ []) (Q0 (Q0 (runQ hN λK hK=>?_))));simp[-yX,eL,eI,Qj];repeat refine sdQ ?_
 refine hK _ (tn (Q4 (st':=⟨[(0,lI list_),(3,iV 1)],[],0⟩) (wkQ []) ?_));clear hK K;replace⟨e1,h,h1⟩:=bind_some h;refine Qc (λb1:Unit=>⟨[],[],0⟩) (λb1=>yU b1=e1) ?_ ?_
 ·refine Q5 (Qm h (λs7:Int=>⟨[(0,lI list_),(3,iV s7)],[],0⟩) (wkQ []) ?_);clear h;intro k7 s7 c7 h hk7;refine Q0 (Q0 (runQ hN λK hK=>?_));simp[-yX,eL,eI,Qj];repeat refine sdQ ?_
  refine hK _ ?_;clear hK K;refine tn (Q6 rfl (λg=>?_) λg=>?_)
  ·have g8:s7<(list_.length:Int):=gQ;clear g;replace h:=if_l g8 h;refine Q7 (tn (Q0 (Q5 (Q0 (runQ hN λK hK=>?_)))));replace⟨a9,h⟩:=Q1 h;replace⟨a10,h⟩:=Q1 h;replace⟨a11,h⟩:=Q1 h;simp[-yX,eL,eI,Qj,at_I a9,Qi a10,at_I a11];(repeat refine sdQ ?_);refine hK _ ?_;clear hK K;refine tn (Q6 rfl (λg=>?_) λg=>?_)
   ·have g12:(ix list_ s7)≤(ix list_ (s7 - 1)):=gQ;clear g;replace h:=if_l g12 h;refine Q0 (runQ hN λK hK=>?_);simp[-yX,eL,eI,Qj];(repeat refine sdQ ?_);refine hK _ (tn (Q4 (st':=⟨[(2,.val (.bool false))],[],0⟩) (wkQ []) (Qh (br (tr (lr (br (tr ?_))))))));clear hK K;cases h;have q:_=e1:=hk7;have h:=h1;rw[←q]at h;clear q;(try dsimp only at h);have hr:=yJ h;rw[←hr];refine⟨_,(.tmp .nil),?_⟩;refine⟨(.one rfl rfl .nil),[.val (.bool false)],[],by simp[BN],by simp,(yM _)⟩
   have g12:¬((ix list_ s7)≤(ix list_ (s7 - 1))):=gQ;clear g;replace h:=if_r g12 h;refine Q7 (bn (tn (runQ hN λK hK=>?_)));replace⟨a13,h⟩:=Q1 h;simp[-yX,eL,eI,Qj,Qi a13];(repeat refine sdQ ?_);refine hK _ ?_;clear hK K;cases h;exact rn (s':=s7+1) hk7 (wkQ [])
  have g8:¬(s7<(list_.length:Int)):=gQ;clear g;replace h:=if_r g8 h;refine Qk (tx (lx (bh ?_)));cases h;exact jn (b:=()) hk7 (wkQ [])
 intro b1 hb1;have h:=h1;try rw[←hb1]at h
 clear h1;try dsimp only at h
 refine Q0 (runQ hN λK hK=>?_);simp[-yX,eL,eI,Qj];repeat refine sdQ ?_
 refine hK _ (tn (Q4 (st':=⟨[(2,.val (.bool true))],[],0⟩) (wkQ []) (Qh ?_)));clear hK K;have hr:=yJ h;rw[←hr];refine⟨_,(.tmp .nil),?_⟩;refine⟨(.one rfl rfl .nil),[.val (.bool true)],[],by simp[BN],by simp,(yM _)⟩
attribute [local simp] unk unA unE unT unC flat eL eI Qj QQ Cat.cells
def Q2g(c_:Cat)(w_:List Int):Option (Int×Int×Int):=
 (Qd (σ:=Int×Int) (ε:=Int) (λs11=>
  if s11.2<c_.n then
   (
    (
     ass (0≤s11.2∧s11.2<(c_.id.length:Int))<|
     (Q12 w_ (ix c_.id s11.2)).bind λv16=>
     if¬(v16=true)then
      if s11.1<0 then
       some true
      else
       ass (0≤s11.2∧s11.2<(c_.id.length:Int))<|
       some (decide ((ix c_.id s11.2)<s11.1))
     else
      some false:Option (Bool)).bind λb14=>
    if b14=true then
     ass (0≤s11.2∧s11.2<(c_.id.length:Int))<|
     some (ix c_.id s11.2)
    else
     some s11.1:Option (Int)).bind λb13=>
   ass (B64 (s11.2+1))<|
   some (yK (b13,s11.2+1))
  else
   some (yV s11.1)) fuel ((-1),0)).bind λb1=>
 if b1≥0 then
  some (1,b1,(-1))
 else
  (Qd (σ:=Int) (ε:=Unit⊕(Int×Int×Int)) (λs59=>
   if s59<(w_.length:Int)then
    (
     (Qd (σ:=Int) (ε:=(Int×Int×Int)⊕Unit) (λs77=>
      if s77<(w_.length:Int)then
       (
        ass (0≤s59∧s59<(w_.length:Int))<|
        ass (0≤ix w_ s59∧ix w_ s59<(c_.to.length:Int))<|
        ass (0≤s77∧s77<(w_.length:Int))<|
        ass (0≤ix w_ s77∧ix w_ s77<(c_.fr.length:Int))<|
        if(ix c_.to (ix w_ s59))=(ix c_.fr (ix w_ s77))then
         ass (0≤s59∧s59<(w_.length:Int))<|
         ass (0≤s77∧s77<(w_.length:Int))<|
         (Qt c_ (ix w_ s59) (ix w_ s77)).bind λv87=>
         (Q12 w_ v87).bind λv88=>
         some (!v88)
        else
         some false:Option (Bool)).bind λb79=>
       if b79=true then
        ass (0≤s59∧s59<(w_.length:Int))<|
        ass (0≤s77∧s77<(w_.length:Int))<|
        some (yV (yU (1,ix w_ s59,ix w_ s77)))
       else
        ass (B64 (s77+1))<|
        some (yK (s77+1))
      else
       some (yV (yW ()))) fuel 0).bind λe77=>
     match e77 with
     | .inl p77=>
      some (yW p77)
     | .inr p77=>
      some (yU p77):Option (Unit⊕(Int×Int×Int))).bind λe61=>
    match e61 with
    | .inl b61=>
     ass (B64 (s59+1))<|
     some (yK (s59+1))
    | .inr p61=>
     some (yV (yW p61))
   else
    some (yV (yU ()))) fuel 0).bind λe24=>
  match e24 with
  | .inl b24=>
   some (0,(-1),(-1))
  | .inr p24=>
   some p24
theorem Q7Y(c_:Cat)(w_:List Int)(r:Int×Int×Int)(h:Q2g c_ w_=some r):Contract Tryz.prog 77 (Y0w c_ [lI w_]) (.tup [iV r.1,iV r.2.1,iV r.2.2]):=by
 refine Q9 (rvs:=[.tmp 4,.tmp 5,.tmp 6]) (rs:=[iV r.1,iV r.2.1,iV r.2.2]) Tryz.func77 rfl rfl rfl rfl (by simp[Tryz.f77]) λF hN hP=>?_;unfold Q2g at h;refine Q0 (runQ hN λK hK=>?_);simp;repeat refine sdQ ?_
 refine hK _ ?_;clear hK K;refine tn (Q4 (st':=⟨(1,lI w_)::Y00 [],Y6 c_ [],1⟩) (wkQ [(0,0)]) (Q0 (runQ hN λK hK=>?_)));simp;repeat refine sdQ ?_
 refine hK _ ?_;clear hK K;refine tn (Q4 (st':=⟨(1,lI w_)::Y00 [(7,iV (-1))],Y6 c_ [],1⟩) (wkQ [(0,0)]) (Q0 (Q0 (runQ hN λK hK=>?_))));simp;repeat refine sdQ ?_
 refine hK _ (tn (Q4 (st':=⟨(1,lI w_)::Y00 [(7,iV (-1)),(8,iV 0)],Y6 c_ [],1⟩) (wkQ [(0,0)]) ?_));clear hK K;replace⟨e1,h,h1⟩:=bind_some h;refine Qc (λb1:Int=>⟨(1,lI w_)::Y00 [(7,iV b1)],Y6 c_ [],1⟩) (λb1=>b1=e1) ?_ ?_
 ·refine Q5 (Qm h (λs11:Int×Int=>⟨(1,lI w_)::Y00 [(7,iV s11.1),(8,iV s11.2)],Y6 c_ [],1⟩) (wkQ [(0,0)]) ?_);clear h;intro k11 s11 c11 h hk11;refine Q0 (Q0 (runQ hN λK hK=>?_));simp;repeat refine sdQ ?_
  refine hK _ ?_;clear hK K;refine tn (Q6 rfl (λg=>?_) λg=>?_)
  ·have g12:s11.2<c_.n:=gQ;clear g;replace h:=if_l g12 h;refine Q7 (tn (Q0 ?_));replace⟨e13,h,h13⟩:=bind_some h;refine Qc (λb13:Int=>⟨(1,lI w_)::Y00 [(7,iV b13),(8,iV s11.2)],Y6 c_ [],1⟩) (λb13=>b13=e13) ?_ ?_
   ·refine Q5 (Q0 ?_);replace⟨e14,h,h14⟩:=bind_some h;refine Qc (λb14:Bool=>⟨(1,lI w_)::Y00 [(7,iV s11.1),(8,iV s11.2),(37,.val (.bool b14))],Y6 c_ [],1⟩) (λb14=>b14=e14) ?_ ?_
    ·refine runQ hN λK hK=>?_;replace⟨a15,h⟩:=Q1 h;simp[at_I a15];(repeat with_reducible refine sdQ ?_);replace⟨v16,hv16,h⟩:=bind_some h;refine Q2 (Q3C _ _ v16 hv16) (.cons .lst (.cons .val .nil)) ?_;simp[at_I a15];(repeat with_reducible refine sdQ ?_);refine Qy (λg=>?_) (λg=>?_)
     ·have g17:¬(v16=true):=gQ;clear g;replace h:=if_l g17 h;simp[at_I a15];(repeat with_reducible refine sdQ ?_);refine Qy (λg=>?_) (λg=>?_)
      ·have g18:¬(s11.1<0):=gQ;clear g;replace h:=if_r g18 h;replace⟨a19,h⟩:=Q1 h;simp[at_I a15,at_I a19];(repeat refine sdQ ?_);refine hK _ ?_;exact jn (b:=decide ((ix c_.id s11.2)<s11.1)) (yJ h) (wkQ [(0,0)])
      have g18:s11.1<0:=gQ;clear g;replace h:=if_l g18 h;simp[at_I a15];(repeat refine sdQ ?_);refine hK _ ?_;exact jn (b:=true) (yJ h) (wkQ [(0,0)])
     have g17:¬(¬(v16=true)):=gQ;clear g;replace h:=if_r g17 h;simp[at_I a15];(repeat refine sdQ ?_);refine hK _ ?_;exact jn (b:=false) (yJ h) (wkQ [(0,0)])
    intro b14 hb14;have h:=h14;(try rw[←hb14]at h);clear h14;(try dsimp only at h);refine Q6 rfl (λg=>?_) λg=>?_
    ·have g20:b14=true:=gQ;clear g;replace h:=if_l g20 h;refine runQ hN λK hK=>?_;replace⟨a21,h⟩:=Q1 h;simp[at_I a21];(repeat refine sdQ ?_);refine hK _ (bn ?_);clear hK K;exact jn (b:=ix c_.id s11.2) (yJ h) (wkQ [(0,0)])
    have g20:¬(b14=true):=gQ;clear g;replace h:=if_r g20 h;refine Q7 (bn ?_);exact jn (b:=s11.1) (yJ h) (wkQ [(0,0)])
   intro b13 hb13;have h:=h13;(try rw[←hb13]at h);clear h13;(try dsimp only at h);refine runQ hN λK hK=>?_;replace⟨a22,h⟩:=Q1 h;simp[Qi a22];(repeat refine sdQ ?_);refine hK _ ?_;clear hK K;cases h;exact rn (s':=(b13,s11.2+1)) hk11 (wkQ [(0,0)])
  have g12:¬(s11.2<c_.n):=gQ;clear g;replace h:=if_r g12 h;refine Qk (tx (lx (bh ?_)));cases h;exact jn (b:=s11.1) hk11 (wkQ [(0,0)])
 intro b1 hb1;have h:=h1;try rw[←hb1]at h
 clear h1;try dsimp only at h
 refine Q0 (Q0 (runQ hN λK hK=>?_));simp;repeat refine sdQ ?_
 refine hK _ ?_;clear hK K;refine tn (Q6 rfl (λg=>?_) λg=>?_)
 ·have g23:b1≥0:=gQ;clear g;replace h:=if_l g23 h;refine Q0 (runQ hN λK hK=>?_);simp;repeat refine sdQ ?_
  refine hK _ (tn (Q4 (st':=⟨[(4,iV 1),(5,iV b1),(6,iV (-1))],[],0⟩) (wkQ []) (Qh (tr ?_))));clear hK K;have hr:=yJ h;rw[←hr];refine⟨_,(.tmp (.tmp (.tmp .nil))),?_⟩;refine⟨(.one rfl rfl (.one rfl rfl (.one rfl rfl .nil))),[iV 1,iV b1,iV (-1)],[],by simp[BN],by simp,(yM _)⟩
 have g23:¬(b1≥0):=gQ;clear g;replace h:=if_r g23 h;refine Q7 (tn (Q0 (Q0 (runQ hN λK hK=>?_))));simp;repeat refine sdQ ?_
 refine hK _ (tn (Q4 (st':=⟨(1,lI w_)::Y00 [(9,iV 0)],Y6 c_ [],1⟩) (wkQ [(0,0)]) ?_));clear hK K;replace⟨e24,h,h24⟩:=bind_some h;refine Qc (λb24:Unit=>⟨[],[],0⟩) (λb24=>yU b24=e24) ?_ ?_
 ·refine Q5 (Qm h (λs59:Int=>⟨(1,lI w_)::Y00 [(9,iV s59)],Y6 c_ [],1⟩) (wkQ [(0,0)]) ?_);clear h;intro k59 s59 c59 h hk59;refine Q0 (Q0 (runQ hN λK hK=>?_));simp;repeat refine sdQ ?_
  refine hK _ ?_;clear hK K;refine tn (Q6 rfl (λg=>?_) λg=>?_)
  ·have g60:s59<(w_.length:Int):=gQ;clear g;replace h:=if_l g60 h;refine Q7 (tn (Q0 ?_));replace⟨e61,h,h61⟩:=bind_some h;refine Qc (λb61:Unit=>⟨(1,lI w_)::Y00 [(9,iV s59)],Y6 c_ [],1⟩) (λb61=>yU b61=e61) ?_ ?_
   ·refine Q5 (Q0 (runQ hN λK hK=>?_));simp;(repeat refine sdQ ?_);refine hK _ (tn (Q4 (st':=⟨(1,lI w_)::Y00 [(9,iV s59),(10,iV 0)],Y6 c_ [],1⟩) (wkQ [(0,0)]) (Q5 ?_)));clear hK K;replace⟨e77,he77,h77⟩:=bind_some h;refine Qm he77 (λs77:Int=>⟨(1,lI w_)::Y00 [(9,iV s59),(10,iV s77)],Y6 c_ [],1⟩) (wkQ [(0,0)]) ?_;intro k77 s77 c77 h hk77;refine Q0 (Q0 (runQ hN λK hK=>?_));simp;(repeat refine sdQ ?_);refine hK _ ?_;clear hK K;refine tn (Q6 rfl (λg=>?_) λg=>?_)
    ·have g78:s77<(w_.length:Int):=gQ;clear g;replace h:=if_l g78 h;refine Q7 (tn (Q0 (Q5 (Q0 ?_))));replace⟨e79,h,h79⟩:=bind_some h;refine Qc (λb79:Bool=>⟨(1,lI w_)::Y00 [(9,iV s59),(10,iV s77),(89,.val (.bool b79))],Y6 c_ [],1⟩) (λb79=>b79=e79) ?_ ?_
     ·refine runQ hN λK hK=>?_;replace⟨a80,h⟩:=Q1 h;replace⟨a81,h⟩:=Q1 h;replace⟨a82,h⟩:=Q1 h;replace⟨a83,h⟩:=Q1 h;simp[at_I a80,at_I a81,at_I a82,at_I a83];(repeat with_reducible refine sdQ ?_);refine Qy (λg=>?_) (λg=>?_)
      ·have g84:(ix c_.to (ix w_ s59))=(ix c_.fr (ix w_ s77)):=gQ;clear g;replace h:=if_l g84 h;replace⟨a85,h⟩:=Q1 h;replace⟨a86,h⟩:=Q1 h;simp[at_I a80,at_I a81,at_I a82,at_I a83,at_I a85,at_I a86];(repeat with_reducible refine sdQ ?_);replace⟨v87,hv87,h⟩:=bind_some h;refine Q2 (Q1b _ _ _ v87 hv87) (.cons (.aggL (.cons .val (.cons .lst (.cons .lst (.cons .lst (.cons .lst .nil)))))) (.cons .val (.cons .val .nil))) ?_;simp[at_I a80,at_I a81,at_I a82,at_I a83,at_I a85,at_I a86];(repeat with_reducible refine sdQ ?_);replace⟨v88,hv88,h⟩:=bind_some h;refine Q2 (Q3C _ _ v88 hv88) (.cons .lst (.cons .val .nil)) ?_;simp[at_I a80,at_I a81,at_I a82,at_I a83,at_I a85,at_I a86];(repeat refine sdQ ?_);refine hK _ ?_;exact jn (b:=!v88) (yJ h) (wkQ [(0,0)])
      have g84:¬((ix c_.to (ix w_ s59))=(ix c_.fr (ix w_ s77))):=gQ;clear g;replace h:=if_r g84 h;simp[at_I a80,at_I a81,at_I a82,at_I a83];(repeat refine sdQ ?_);refine hK _ ?_;exact jn (b:=false) (yJ h) (wkQ [(0,0)])
     intro b79 hb79;have h:=h79;(try rw[←hb79]at h);clear h79;(try dsimp only at h);refine Q6 rfl (λg=>?_) λg=>?_
     ·have g89:b79=true:=gQ;clear g;replace h:=if_l g89 h;refine Q0 (runQ hN λK hK=>?_);replace⟨a90,h⟩:=Q1 h;replace⟨a91,h⟩:=Q1 h;simp[at_I a90,at_I a91];(repeat refine sdQ ?_);refine hK _ (tn (Q4 (st':=⟨[(4,iV 1),(5,iV (ix w_ s59)),(6,iV (ix w_ s77))],[],0⟩) (wkQ []) (Qh (br (tr (lr (br (br (tr (lr (br (tr ?_))))))))))));clear hK K;cases h;have q:_=e77:=hk77;have h:=h77;rw[←q]at h;clear q;(try dsimp only at h);cases h;have h:=h61;(try dsimp only at h);cases h;have q:_=e24:=hk59;have h:=h24;rw[←q]at h;clear q;(try dsimp only at h);have hr:=yJ h;rw[←hr];refine⟨_,(.tmp (.tmp (.tmp .nil))),?_⟩;refine⟨(.one rfl rfl (.one rfl rfl (.one rfl rfl .nil))),[iV 1,iV (ix w_ s59),iV (ix w_ s77)],[],by simp[BN],by simp,(yM _)⟩
     have g89:¬(b79=true):=gQ;clear g;replace h:=if_r g89 h;refine Q7 (bn (tn (runQ hN λK hK=>?_)));replace⟨a92,h⟩:=Q1 h;simp[Qi a92];(repeat refine sdQ ?_);refine hK _ ?_;clear hK K;cases h;exact rn (s':=s77+1) hk77 (wkQ [(0,0)])
    have g78:¬(s77<(w_.length:Int)):=gQ;clear g;replace h:=if_r g78 h;refine Qk (tx (lx (bh (bn ?_))));cases h;have q:_=e77:=hk77;have h:=h77;rw[←q]at h;clear q;(try dsimp only at h);exact jn (b:=()) (yJ h) (wkQ [(0,0)])
   intro b61 hb61;have h:=h61;(try rw[←hb61]at h);clear h61;(try dsimp only at h);refine runQ hN λK hK=>?_;replace⟨a93,h⟩:=Q1 h;simp[Qi a93];(repeat refine sdQ ?_);refine hK _ ?_;clear hK K;cases h;exact rn (s':=s59+1) hk59 (wkQ [(0,0)])
  have g60:¬(s59<(w_.length:Int)):=gQ;clear g;replace h:=if_r g60 h;refine Qk (tx (lx (bh ?_)));cases h;exact jn (b:=()) hk59 (wkQ [])
 intro b24 hb24;have h:=h24;try rw[←hb24]at h
 clear h24;try dsimp only at h
 refine Q0 (runQ hN λK hK=>?_);simp;repeat refine sdQ ?_
 refine hK _ (tn (Q4 (st':=⟨[(4,iV 0),(5,iV (-1)),(6,iV (-1))],[],0⟩) (wkQ []) (Qh ?_)));clear hK K;have hr:=yJ h;rw[←hr];refine⟨_,(.tmp (.tmp (.tmp .nil))),?_⟩;refine⟨(.one rfl rfl (.one rfl rfl (.one rfl rfl .nil))),[iV 0,iV (-1),iV (-1)],[],by simp[BN],by simp,(yM _)⟩
section
attribute [local simp] Qa QD Qn QL Qv
theorem chkW{ε β:Type}{body:Int→Option (Ctl Int ε)}{K:ε→Option β}{r:Option β}(n:Nat)(p:Nat→Prop){eb eg:ε}(hn:n<4611686018427387904)(h1:∀i:Nat,i<n→p i→body ((i:Int)+1)=some (.next ((i:Int)+1+1)))(h2:∀i:Nat,i<n→¬p i→body ((i:Int)+1)=some (.ret eb))(h3:body ((n:Int)+1)=some (.ret eg))(hb:(¬∀i:Nat,i<n→p i)→K eb=r)(hg:(∀i:Nat,i<n→p i)→K eg=r):(Qd body fuel 1).bind K=r:=by
 by_cases h:∀i:Nat,i<n→p i
 ·rw[show Qd body fuel 1=some eg from Q1e (λi:Nat=>(i:Int)+1) n rfl hn (λi hi=>by rw[h1 i hi (h i hi)];simp) h3];exact hg h
 have hex:∃i,i<n∧¬p i:=yL λhx=>h λi hi=>yL λhp=>hx ⟨i,hi,hp⟩;obtain⟨m,⟨hm,hp⟩,hmin⟩:∃m,(m<n∧¬p m)∧∀k,k<m→¬(k<n∧¬p k):=by
  obtain⟨i,hi⟩:=hex
  induction i using yS with
  |_ i ih=>
   by_cases h:∃k,k<i∧k<n∧¬p k
   ·obtain⟨k,h1,h2⟩:=h;exact ih k h1 h2
   exact⟨i,hi,λk hk hq=>h ⟨k,hk,hq⟩⟩
 rw[show Qd body fuel 1=some eb from Q1e (λi:Nat=>(i:Int)+1) m rfl (by omega) (λi hi=>by rw[h1 i (by omega) (yL λq=>hmin i hi ⟨by omega,q⟩)];simp) (h2 m hm hp)];exact hb h
def Q6y(L:List Int):Prop:=∀i:Nat,i<L.length - 1→ix L i<ix L ((i:Int)+1)
theorem e_risingW{L:List Int}(hl:L.length≤1048576):Q3t L=some (bo (Q6y L)):=by
 unfold Q3t;refine chkW (L.length - 1) (λi=>ix L i<ix L ((i:Int)+1)) (eb:=yW false) (eg:=yU ()) (by omega) (λi hi hp=>?_) (λi hi hp=>?_) (by rw[if_neg (by omega)]) (λh=>?_) λh=>?_
 ·rw[if_pos (by omega),Q3 (by unfold B64;omega),Q3 (by omega),Q3 (by omega),show(i:Int)+1 - 1=i by omega,if_neg (by omega),Q3 (by unfold B64;omega)]
 ·rw[if_pos (by omega),Q3 (by unfold B64;omega),Q3 (by omega),Q3 (by omega),show(i:Int)+1 - 1=i by omega,if_pos (by omega)]
 ·rw[Qp (show¬Q6y L from h)]
 rw[Qw (show Q6y L from h)]
theorem Q9a{L:List Int}(hl:L.length≤1048576):Q2B L=some (bo (Q6y L)):=by
 unfold Q2B;refine chkW (L.length - 1) (λi=>ix L i<ix L ((i:Int)+1)) (eb:=yW false) (eg:=yU ()) (by omega) (λi hi hp=>?_) (λi hi hp=>?_) (by rw[if_neg (by omega)]) (λh=>?_) λh=>?_
 ·rw[if_pos (by omega),Q3 (by omega),Q3 (by unfold B64;omega),Q3 (by omega),show(i:Int)+1 - 1=i by omega,if_neg (by omega),Q3 (by unfold B64;omega)]
 ·rw[if_pos (by omega),Q3 (by omega),Q3 (by unfold B64;omega),Q3 (by omega),show(i:Int)+1 - 1=i by omega,if_pos (by omega)]
 ·rw[Qp (show¬Q6y L from h)]
 rw[Qw (show Q6y L from h)]
def InW(c:Cat)(w:List Int):Prop:=w.all (inR (c.fr.length:Int))=true
theorem InW.at{c:Cat}{w:List Int}(h:InW c w){i:Nat}(hi:i<w.length):0≤ix w i∧ix w i<(c.fr.length:Int):=Q6K (List.all_eq_true.1 h) (j:=(i:Int)) (by omega) (by omega)
theorem InW.mem{c:Cat}{w:List Int}(h:InW c w){f:Int}(hf:f∈w):0≤f∧f<(c.fr.length:Int):=by
 obtain⟨k,hk,rfl⟩:=zY hf;rw[Q16];exact h.at hk
def Q6z(c:Cat)(w:List Int):Int:=if bo c.Is=true then if w.all (inR (c.fr.length:Int))=true then 0 else 2 else 1
theorem e_acode(c:Cat)(w:List Int):Q2e c w=some (Q6z c w)∧Q2f c w=some (Q6z c w):=by
 unfold Q2e Q2f Q1j Q4S Qs Q2M Q4i Q6z
 by_cases hc:c.Is
 case neg=>simp[Qp hc]
 have hn:=hc.nums;rw[Qw hc];simp only[yT,not_true_eq_false,if_false,if_true];rw[Q3 (by unfold B64;omega)];simp only[yT];cases w.all (inR (c.fr.length:Int))<;>simp
theorem e_marksW{c:Cat}(hc:c.Is){w:List Int}(hw:InW c w)(hl:w.length≤1048576):Q1s c w=some (Q1C w c.fr.length w.length):=by
 have ns:=hc.nums;unfold Q1s Qs;simp only[yT];rw[Q3 (by omega)];have e0:zF ((c.fr.length:Int)).toNat false=Q1C w c.fr.length 0:=by
  refine List.ext_getElem (by simp[Q1C]) λi h1 h2=>?_;simp[Q1C,bo]
 refine Q1d w.length (λi=>Q1C w c.fr.length i) (e:=Q1C w c.fr.length w.length) e0 (by omega) (λi hi=>?_) (by simp only;rw[if_neg (by omega)]) rfl;have q:=hw.at hi;simp only;rw[if_pos (by omega),Q3 (by omega),Q3 (by simp[Q1C];omega),Q3 (by unfold B64;omega)]
 congr 3
 refine List.ext_getElem (by simp[Q1C]) λk h1 h2=>?_;rw[List.getElem_set];simp only[Q1C,List.getElem_map,List.getElem_range];split
 ·rename_i hk;exact(Qw ⟨i,by omega,by omega⟩).symm
 rename_i hk;refine Q95 ⟨λ⟨j,a,b⟩=>⟨j,by omega,b⟩,λ⟨j,a,b⟩=>⟨j,?_,b⟩⟩;rcases Nat.lt_or_ge j i with d|d
 ·exact d
 have:j=i:=by omega
 subst this;omega
theorem Q5X{c:Cat}{w:List Int}{h:Int}(hh:0≤h∧h<(c.fr.length:Int)):gx (Q1C w c.fr.length w.length) h=bo (h∈w):=by
 obtain⟨k,rfl⟩:=yN hh.1;have hk:k<c.fr.length:=by omega
 simp only[gx,Q1C,yO,qB,List.getElem?_map,List.getElem?_range hk,Option.map_some,Option.getD_some];refine Q95 ⟨λ⟨j,hj,e⟩=>by rw[←e,←Q16 _ _ hj];exact zW hj,λhm=>?_⟩;obtain⟨j,hj,e⟩:=zY hm;exact⟨j,hj,by rw[←Q16 _ _ hj,e]⟩
def wD(c:Cat)(w:List Int):XD:=⟨c,w,Q1C w c.fr.length w.length⟩
theorem Q77(c:Cat)(w:List Int):(wD c w).there_.length=c.fr.length:=by simp[wD,Q1C]
structure Clo(c:Cat)(w:List Int):Prop where
 id:∀x:Nat,x<c.id.length→ix c.id x∈w
 cp:∀f∈w,∀g∈w,ix c.to f=ix c.fr g→ix (rx c.cs f) g∈w
theorem Q5b{ε:Type}{body:Int→Option (Ctl Int ε)}(a n:Nat){eg:ε}(hn:n<4611686018427387904)(ha:a≤n)(h1:∀i:Nat,a≤i→i<n→body (i:Int)=some (.next ((i:Int)+1)))(h3:body (n:Int)=some (.ret eg)):Qd body fuel (a:Int)=some eg:=
 Q1e (λi:Nat=>((a+i:Nat):Int)) (n - a) (by simp) (by omega) (λi hi=>by rw[h1 (a+i) (by omega) (by omega)];first|rfl|(congr 2;omega)) (by rw[show a+(n - a)=n by omega];exact h3)
theorem Q3W{ε:Type}{body:Int→Option (Ctl Int ε)}{Qe:ε→Prop}(a n:Nat)(p:Nat→Prop)(hn:n<4611686018427387904)(hex:∃i:Nat,a≤i∧i<n∧p i)(h1:∀i:Nat,a≤i→i<n→¬p i→body (i:Int)=some (.next ((i:Int)+1)))(h2:∀i:Nat,a≤i→i<n→p i→∃e,body (i:Int)=some (.ret e)∧Qe e):∃e,Qd body fuel (a:Int)=some e∧Qe e:=by
 obtain⟨m,⟨m1,m2,m3⟩,hmin⟩:∃m,(a≤m∧m<n∧p m)∧∀k,k<m→¬(a≤k∧k<n∧p k):=by
  obtain⟨i,hi⟩:=hex
  induction i using yS with
  |_ i ih=>
   by_cases h:∃k,k<i∧a≤k∧k<n∧p k
   ·obtain⟨k,h1,h2⟩:=h;exact ih k h1 h2
   exact⟨i,hi,λk hk hq=>h ⟨k,hk,hq⟩⟩
 obtain⟨e,e1,e3⟩:=h2 m m1 m2 m3;exact⟨e,Q1e (λi:Nat=>((a+i:Nat):Int)) (m - a) (by simp) (by omega) (λi hi=>by rw[h1 (a+i) (by omega) (by omega) (λq=>hmin (a+i) (by omega) ⟨by omega,by omega,q⟩)];first|rfl|(congr 2;omega)) (by rw[show a+(m - a)=m by omega];exact e1),e3⟩
theorem Q4x{ε β:Type}{body:Int→Option (Ctl Int ε)}{K:ε→Option β}{Q:β→Prop}(n:Nat)(p:Nat→Prop){eg:ε}(hn:n<4611686018427387904)(h1:∀i:Nat,i<n→¬p i→body (i:Int)=some (.next ((i:Int)+1)))(h2:∀i:Nat,i<n→p i→∃e,body (i:Int)=some (.ret e)∧∃v,K e=some v∧Q v)(h3:body (n:Int)=some (.ret eg))(hg:(∀i:Nat,i<n→¬p i)→∃v,K eg=some v∧Q v):∃v,(Qd body fuel 0).bind K=some v∧Q v:=by
 by_cases h:∃i:Nat,0≤i∧i<n∧p i
 ·obtain⟨e,e1,v,e2,e3⟩:=Q3W (Qe:=λe=>∃v,K e=some v∧Q v) 0 n p hn h (λi _ hi hp=>h1 i hi hp) λi _ hi hp=>h2 i hi hp;exact⟨v,by rw[show Qd body fuel 0=some e from e1];exact e2,e3⟩
 have h0:∀i:Nat,i<n→¬p i:=λi hi hp=>h ⟨i,zV _,hi,hp⟩;rw[show Qd body fuel 0=some eg from Q5b 0 n hn (zV _) (λi _ hi=>h1 i hi (h0 i hi)) h3];exact hg h0
def Bad2(c:Cat)(w:List Int)(f g:Int):Prop:=ix c.to f=ix c.fr g∧¬ix (rx c.cs f) g∈w
def clB(c:Cat)(w:List Int)(s39:Int):Int→Option (Ctl Int ((Int×Int×Bool)⊕Unit)):=λs51=>
 if s51<(w.length:Int)then
  ass (0≤s51∧s51<(w.length:Int))<|
  (Qq c (ix w s39) (ix w s51)).bind λv54=>
  (
   if v54≥0 then
    ass (0≤v54∧v54<((wD c w).there_.length:Int))<|
    some (!(gx (wD c w).there_ v54))
   else
    some false:Option (Bool)).bind λb55=>
  if b55=true then
   some (yV (yU (ix w s39,ix w s51,true)))
  else
   ass (B64 (s51+1))<|
   some (yK (s51+1))
 else
  some (yV (yW ()))
theorem Q7v{c:Cat}{w:List Int}{h:Int}(hh:0≤h∧h<(c.fr.length:Int)):gx (wD c w).there_ h=bo (h∈w):=Q5X hh
theorem Q7h{c:Cat}(hc:c.Is){w:List Int}(hw:InW c w)(hl:w.length≤1048576){i j:Nat}(hi:i<w.length)(hj:j<w.length):
  clB c w i j=if bo (Bad2 c w (ix w i) (ix w j))=true then some (.ret (yU (ix w i,ix w j,true)))else some (.next ((j:Int)+1)):=by
 have ht:=Q77 c w;have q:=hc.1.cell' (hw.at hi).1 (hw.at hi).2 (hw.at hj).1 (hw.at hj).2;unfold clB;rw[if_pos (by omega),Q3 (by omega),(Q1m hc (hw.at hi) (hw.at hj)).2];simp only[yT]
 by_cases h1:ix c.to (ix w i)=ix c.fr (ix w j)
 ·obtain⟨q1,q2,_⟩:=q.2 h1;rw[if_pos (by omega),Q3 (by omega),Q7v ⟨q1,q2⟩];simp only[yT]
  by_cases h2:ix (rx c.cs (ix w i)) (ix w j)∈w
  ·rw[Qw h2,Qp (λb:Bad2 c w _ _=>b.2 h2)];simp only[yY,zG,if_false];rw[Q3 (by unfold B64;omega)]
  rw[Qp h2,Qw (show Bad2 c w _ _ from⟨h1,h2⟩)];simp
 rw[q.1 h1,if_neg (by omega),Qp (λb:Bad2 c w _ _=>h1 b.1)];simp only[yT,zG,if_false];rw[Q3 (by unfold B64;omega)]
theorem clB_no{c:Cat}(hc:c.Is){w:List Int}(hw:InW c w)(hl:w.length≤1048576){i:Nat}(hi:i<w.length)(h:¬∃j:Nat,0≤j∧j<w.length∧Bad2 c w (ix w i) (ix w j)):Qd (clB c w i) fuel 0=some (yW ()):=
 Q5b 0 w.length (by omega) (zV _) (λj _ hj=>by rw[Q7h hc hw hl hi hj,Qp (λb=>h ⟨j,zV _,hj,b⟩)];rfl) (by unfold clB;rw[if_neg (by omega)])
theorem clB_yes{c:Cat}(hc:c.Is){w:List Int}(hw:InW c w)(hl:w.length≤1048576){i:Nat}(hi:i<w.length)(h:∃j:Nat,0≤j∧j<w.length∧Bad2 c w (ix w i) (ix w j)):∃e,Qd (clB c w i) fuel 0=some e∧∃p:Int×Int×Bool,e=yU p∧p.2.2=true:=
 Q3W 0 w.length _ (by omega) h (λj _ hj hp=>by rw[Q7h hc hw hl hi hj,Qp hp];rfl) λj _ hj hp=>⟨_,by rw[Q7h hc hw hl hi hj,Qw hp];rfl,_,rfl,rfl⟩
theorem e_closedI{c:Cat}(hc:c.Is){w:List Int}(hw:InW c w)(hl:w.length≤1048576):∃r,QM (wD c w)=some r∧(r.2.2=true↔¬Clo c w):=by
 have hn:=hc.nums;unfold QM;have ht:=Q77 c w;refine Q4x c.fr.length (λf:Nat=>ix c.id (ix c.fr f)=f∧¬(f:Int)∈w) (eg:=yU ()) (by omega) (λi hi hp=>?_) (λi hi hp=>?_) (by rw[if_neg (show¬((c.fr.length:Int)<((wD c w).c_.fr.length:Int)) from Int.lt_irrefl _)]) λhp=>?_
 ·have f1:=(hc.Af (f:=i) ⟨by omega,by omega⟩).2.1;rw[if_pos (show(i:Int)<((wD c w).c_.fr.length:Int) by show(i:Int)<(c.fr.length:Int);omega)];unfold Q11;show(((ass (0≤(i:Int)∧(i:Int)<(c.fr.length:Int))<|ass (0≤ix c.fr i∧ix c.fr i<(c.id.length:Int))<|some ((ix c.id (ix c.fr i))==(i:Int))).bind _).bind _)=_;rw[Q3 (by omega),Q3 (by omega)];simp only[yT]
  by_cases h1:ix c.id (ix c.fr i)=i
  ·have h2:(i:Int)∈w:=yL λq=>hp ⟨h1,q⟩;rw[if_pos (by simpa using h1),Q3 (by omega)];rw[show gx (wD c w).there_ (i:Int)=true by rw[show(wD c w).there_=Q1C w c.fr.length w.length from rfl,Q5X ⟨by omega,by omega⟩,Qw h2]];simp only[yT,yY,zG,if_false];rw[Q3 (by unfold B64;omega)]
  rw[if_neg (by simpa using h1)];simp only[yT,zG,if_false];rw[Q3 (by unfold B64;omega)]
 ·have f1:=(hc.Af (f:=i) ⟨by omega,by omega⟩).2.1;rw[if_pos (show(i:Int)<((wD c w).c_.fr.length:Int) by show(i:Int)<(c.fr.length:Int);omega)];unfold Q11;refine⟨yW ((i:Int),(-1),true),?_,((i:Int),(-1),true),rfl,⟨λ_ hC=>?_,λ_=>rfl⟩⟩
  ·show(((ass (0≤(i:Int)∧(i:Int)<(c.fr.length:Int))<|ass (0≤ix c.fr i∧ix c.fr i<(c.id.length:Int))<|some ((ix c.id (ix c.fr i))==(i:Int))).bind _).bind _)=_;rw[Q3 (by omega),Q3 (by omega)];simp only[yT];rw[if_pos (by simpa using hp.1),Q3 (by omega)];rw[show gx (wD c w).there_ (i:Int)=false by rw[show(wD c w).there_=Q1C w c.fr.length w.length from rfl,Q5X ⟨by omega,by omega⟩,Qp hp.2]];simp
  obtain⟨k,hk⟩:=yN f1.1;have:=hC.id k (by omega);rw[←hk,hp.1]at this;exact hp.2 this
 have hid:∀x:Nat,x<c.id.length→ix c.id x∈w:=by
  intro x hx;have a:=hc.Ai (x:=x) ⟨by omega,by omega⟩;obtain⟨k,hk⟩:=yN a.1.1;refine yL λq=>hp k (by omega) ⟨?_,by rw[←hk];exact q⟩;rw[←hk,a.2.1]
 simp only;refine Q4x w.length (λi:Nat=>∃j:Nat,0≤j∧j<w.length∧Bad2 c w (ix w i) (ix w j)) (eg:=yU ()) (by omega) (λi hi hq=>?_) (λi hi hq=>?_) (by rw[if_neg (show¬((w.length:Int)<((wD c w).list_.length:Int)) from Int.lt_irrefl _)]) λhq=>?_
 ·rw[if_pos (show(i:Int)<((wD c w).list_.length:Int) by show(i:Int)<(w.length:Int);omega)];show(((ass (0≤(i:Int)∧(i:Int)<(w.length:Int))<|(Qd (clB c w i) fuel 0).bind _).bind _))=_;rw[Q3 (by omega),clB_no hc hw hl hi hq];simp only[yT];rw[Q3 (by unfold B64;omega)]
 ·rw[if_pos (show(i:Int)<((wD c w).list_.length:Int) by show(i:Int)<(w.length:Int);omega)];obtain⟨e,e1,p,rfl,e3⟩:=clB_yes hc hw hl hi hq;refine⟨yW p,?_,p,rfl,⟨λ_ hC=>?_,λ_=>e3⟩⟩
  ·show(((ass (0≤(i:Int)∧(i:Int)<(w.length:Int))<|(Qd (clB c w i) fuel 0).bind _).bind _))=_;rw[Q3 (by omega),e1];rfl
  obtain⟨j,_,hj,hb⟩:=hq;exact hb.2 (hC.cp _ (by rw[←Q16 _ _ hi];exact zW hi) _ (by rw[←Q16 _ _ hj];exact zW hj) hb.1)
 refine⟨_,rfl,⟨λh=>(by cases h),λhC=>absurd ⟨hid,λf hf g hg e=>?_⟩ hC⟩⟩;obtain⟨i,hi,rfl⟩:=zY hf;obtain⟨j,hj,rfl⟩:=zY hg;rw[Q16 _ _ hi,Q16 _ _ hj]at e⊢;exact yL λq=>hq i hi ⟨j,zV _,hj,e,q⟩
def bstC(c:Cat)(w:List Int):Nat→Int
 |0=>-1
 |i+1=>if¬ix c.id i∈w∧(bstC c w i<0∨ix c.id i<bstC c w i)then ix c.id i else bstC c w i
theorem Q9T{c:Cat}(hc:c.Is){w:List Int}:∀{i:Nat},i≤c.id.length→(bstC c w i<0↔∀x:Nat,x<i→ix c.id x∈w)
 |0,_=>by simp[bstC]
 |i+1,hi=>by
  have hn:=hc.nums;have a:=hc.Ai (x:=i) ⟨by omega,by omega⟩;have h0:0≤ix c.id i:=a.1.1;have ih:=Q9T hc (w:=w) (i:=i) (by omega);unfold bstC
  by_cases hm:ix c.id i∈w
  ·rw[if_neg (λq=>q.1 hm),ih];exact⟨λh x hx=>by
    rcases Nat.lt_or_ge x i with q|q
    ·exact h x q
    have:x=i:=(by omega);subst this;exact hm,λh x hx=>h x (by omega)⟩
  by_cases hb:bstC c w i<0∨ix c.id i<bstC c w i
  ·rw[if_pos ⟨hm,hb⟩];exact⟨λh=>by omega,λh=>absurd (h i (by omega)) hm⟩
  rw[if_neg (λq=>hb q.2)];exact⟨λh=>absurd (.inl h) hb,λh=>absurd (h i (by omega)) hm⟩
def clS(c:Cat)(w:List Int)(s59:Int):Int→Option (Ctl Int ((Int×Int×Int)⊕Unit)):=λs77=>
 if s77<(w.length:Int)then
  (
   ass (0≤s59∧s59<(w.length:Int))<|
   ass (0≤ix w s59∧ix w s59<(c.to.length:Int))<|
   ass (0≤s77∧s77<(w.length:Int))<|
   ass (0≤ix w s77∧ix w s77<(c.fr.length:Int))<|
   if(ix c.to (ix w s59))=(ix c.fr (ix w s77))then
    ass (0≤s59∧s59<(w.length:Int))<|
    ass (0≤s77∧s77<(w.length:Int))<|
    (Qt c (ix w s59) (ix w s77)).bind λv87=>
    (Q12 w v87).bind λv88=>
    some (!v88)
   else
    some false:Option (Bool)).bind λb79=>
  if b79=true then
   ass (0≤s59∧s59<(w.length:Int))<|
   ass (0≤s77∧s77<(w.length:Int))<|
   some (yV (yU (1,ix w s59,ix w s77)))
  else
   ass (B64 (s77+1))<|
   some (yK (s77+1))
 else
  some (yV (yW ()))
theorem Q7i{c:Cat}(hc:c.Is){w:List Int}(hw:InW c w)(hl:w.length≤1048576){i j:Nat}(hi:i<w.length)(hj:j<w.length):
  clS c w i j=if bo (Bad2 c w (ix w i) (ix w j))=true then some (.ret (yU (1,ix w i,ix w j)))else some (.next ((j:Int)+1)):=by
 have hn:=hc.nums;have a1:=hw.at hi;have a2:=hw.at hj;unfold clS;rw[if_pos (by omega),Q3 (by omega),Q3 (by omega),Q3 (by omega),Q3 (by omega)]
 by_cases h1:ix c.to (ix w i)=ix c.fr (ix w j)
 ·rw[if_pos h1,Q3 (by omega),Q3 (by omega),(Q1m hc a1 a2).1];simp only[yT,Q12]
  by_cases h2:ix (rx c.cs (ix w i)) (ix w j)∈w
  ·rw[Qw h2,Qp (λb:Bad2 c w _ _=>b.2 h2)];simp only[yY,zG,if_false];rw[Q3 (by unfold B64;omega)]
  rw[Qp h2,Qw (show Bad2 c w _ _ from⟨h1,h2⟩)];simp only[Bool.not_false,if_true];rw[Q3 (by omega),Q3 (by omega)]
 rw[if_neg h1,Qp (λb:Bad2 c w _ _=>h1 b.1)];simp only[yT,zG,if_false];rw[Q3 (by unfold B64;omega)]
theorem clS_no{c:Cat}(hc:c.Is){w:List Int}(hw:InW c w)(hl:w.length≤1048576){i:Nat}(hi:i<w.length)(h:¬∃j:Nat,0≤j∧j<w.length∧Bad2 c w (ix w i) (ix w j)):Qd (clS c w i) fuel 0=some (yW ()):=
 Q5b 0 w.length (by omega) (zV _) (λj _ hj=>by rw[Q7i hc hw hl hi hj,Qp (λb=>h ⟨j,zV _,hj,b⟩)];rfl) (by unfold clS;rw[if_neg (by omega)])
theorem clS_yes{c:Cat}(hc:c.Is){w:List Int}(hw:InW c w)(hl:w.length≤1048576){i:Nat}(hi:i<w.length)(h:∃j:Nat,0≤j∧j<w.length∧Bad2 c w (ix w i) (ix w j)):∃e,Qd (clS c w i) fuel 0=some e∧∃p:Int×Int×Int,e=yU p∧p.1=1:=
 Q3W 0 w.length _ (by omega) h (λj _ hj hp=>by rw[Q7i hc hw hl hi hj,Qp hp];rfl) λj _ hj hp=>⟨_,by rw[Q7i hc hw hl hi hj,Qw hp];rfl,_,rfl,rfl⟩
theorem e_closedS{c:Cat}(hc:c.Is){w:List Int}(hw:InW c w)(hl:w.length≤1048576):∃r,Q2g c w=some r∧(r.1=0↔Clo c w):=by
 have hn:=hc.nums;unfold Q2g;rw[show∀(K:Int→Option (Int×Int×Int)) (B:Int×Int→Option (Ctl (Int×Int) Int)),(∀i:Nat,i<c.id.length→B (bstC c w i,(i:Int))=some (.next (bstC c w (i+1),(i:Int)+1)))→B (bstC c w c.id.length,(c.id.length:Int))=some (.ret (bstC c w c.id.length))→(Qd B fuel (-1,0)).bind K=K (bstC c w c.id.length) from λK B h1 h2=>Q1d c.id.length (bstC c w) rfl (by omega) h1 h2 rfl];rotate_left
 ·intro i hi;have a:=hc.Ai (x:=i) ⟨by omega,by omega⟩;simp only;rw[if_pos (by omega),Q3 (by omega)];simp only[yT,Q12];rw[show bstC c w (i+1)=if¬ix c.id i∈w∧(bstC c w i<0∨ix c.id i<bstC c w i)then ix c.id i else bstC c w i from rfl]
  by_cases hm:ix c.id i∈w
  ·rw[Qw hm,if_neg (by simp),if_neg (λq=>q.1 hm)];simp only[yT,zG,if_false];rw[Q3 (by unfold B64;omega)]
  rw[Qp hm,if_pos (by simp)]
  by_cases hb:bstC c w i<0
  ·rw[if_pos hb,if_pos ⟨hm,.inl hb⟩];simp only[yT,if_true];rw[Q3 (by omega)];simp only[yT];rw[Q3 (by unfold B64;omega)]
  rw[if_neg hb,Q3 (by omega)]
  by_cases h2:ix c.id i<bstC c w i
  ·rw[if_pos ⟨hm,.inr h2⟩];simp only[yT,h2,decide_true,if_true];rw[Q3 (by omega)];simp only[yT];rw[Q3 (by unfold B64;omega)]
  rw[if_neg (λq=>q.2.elim hb h2)];simp only[yT,h2,decide_false,zG,if_false];rw[Q3 (by unfold B64;omega)]
 ·simp only;rw[if_neg (by omega)]
 have hb:=Q9T hc (w:=w) (qE _)
 by_cases h0:bstC c w c.id.length<0
 case neg=>
  rw[if_pos (by omega)];exact⟨_,rfl,⟨λh=>by simp at h,λhC=>absurd (hb.2 λx hx=>hC.id x hx) h0⟩⟩
 rw[if_neg (by omega)];have hid:=hb.1 h0;refine Q4x w.length (λi:Nat=>∃j:Nat,0≤j∧j<w.length∧Bad2 c w (ix w i) (ix w j)) (eg:=yU ()) (by omega) (λi hi hq=>?_) (λi hi hq=>?_) (by rw[if_neg (Int.lt_irrefl _)]) λhq=>?_
 ·rw[if_pos (by omega)];show(((Qd (clS c w i) fuel 0).bind _).bind _)=_;rw[clS_no hc hw hl hi hq];simp only[yT];rw[Q3 (by unfold B64;omega)]
 ·rw[if_pos (by omega)];obtain⟨e,e1,p,rfl,e3⟩:=clS_yes hc hw hl hi hq;refine⟨yW p,?_,p,rfl,⟨λh=>by omega,λhC=>?_⟩⟩
  ·show(((Qd (clS c w i) fuel 0).bind _).bind _)=_;rw[e1];rfl
  obtain⟨j,_,hj,hb⟩:=hq;exact absurd (hC.cp _ (by rw[←Q16 _ _ hi];exact zW hi) _ (by rw[←Q16 _ _ hj];exact zW hj) hb.1) hb.2
 refine⟨_,rfl,⟨λ_=>⟨hid,λf hf g hg e=>?_⟩,λ_=>rfl⟩⟩;obtain⟨i,hi,rfl⟩:=zY hf;obtain⟨j,hj,rfl⟩:=zY hg;rw[Q16 _ _ hi,Q16 _ _ hj]at e⊢;exact yL λq=>hq i hi ⟨j,zV _,hj,e,q⟩
end
attribute [local simp] unk unA unE unT unC flat eL eI Qj QQ Qz Cat.cells XD.cells
def QS(w_:XD)(f_:Int)(v_:Int):Option (Int×Int×Bool):=
 (Qd (σ:=Int) (ε:=Int×Int×Bool) (λs38=>
  if s38=w_.c_.n then
   some (yV (0,0,false))
  else
   ass (0≤f_∧f_<(w_.c_.fr.length:Int))<|
   (QG w_.c_ s38 (ix w_.c_.fr f_)).bind λv41=>
   ass (0≤v_∧v_<(w_.c_.fr.length:Int))<|
   (QG w_.c_ s38 (ix w_.c_.fr v_)).bind λv43=>
   ass (B64 (s38+1))<|
   (Qd (σ:=Int×Int) (ε:=Int⊕(Int×Int×Bool)) (λs59=>
    if s59.1=(v41.length:Int)then
     some (yV (yU (s38+1)))
    else
     (
      if s59.2=(v43.length:Int)then
       some true
      else
       ass (0≤s59.1∧s59.1<(v41.length:Int))<|
       ass (0≤ix v41 s59.1∧ix v41 s59.1<(w_.there_.length:Int))<|
       some (!(gx w_.there_ (ix v41 s59.1))):Option (Bool)).bind λb61=>
     if b61=true then
      ass (B64 (s59.1+1))<|
      some (yK (s59.1+1,0))
     else
      ass (0≤s59.1∧s59.1<(v41.length:Int))<|
      (Qq w_.c_ (ix v41 s59.1) f_).bind λv68=>
      ass (0≤s59.2∧s59.2<(v43.length:Int))<|
      (Qq w_.c_ (ix v43 s59.2) v_).bind λv70=>
      if v68=v70 then
       ass (0≤s59.1∧s59.1<(v41.length:Int))<|
       ass (0≤s59.2∧s59.2<(v43.length:Int))<|
       some (yV (yW (ix v41 s59.1,ix v43 s59.2,true)))
      else
       ass (B64 (s59.2+1))<|
       some (yK (s59.1,s59.2+1))) fuel (0,0)).bind λe59=>
   match e59 with
   | .inl p59=>
    some (yK p59)
   | .inr p59=>
    some (yV p59)) fuel 0).bind λp38=>
 some p38
@[simp] abbrev YE(a b:Int)(c:XD)(d:List (Nat×AV)):List (Nat×AV):=(1,iV a)::(2,iV b)::(9,.rptr (Cat.cells true c.c_))::d
@[simp] abbrev YR(a b:List Int)(c:List (Nat×AV)):List (Nat×AV):=(13,.own 0 0 a.length)::(14,.own 1 0 b.length)::c
theorem Q2k(w_:XD)(f_:Int)(v_:Int)(r:Int×Int×Bool)(h:QS w_ f_ v_=some r):Contract Tryz.prog 69 [.rptr (w_.cells true),iV f_,iV v_] (.tup [iV r.1,iV r.2.1,.val (.bool r.2.2)]):=by
 refine Q9 (rvs:=[.tmp 6,.tmp 7,.tmp 8]) (rs:=[iV r.1,iV r.2.1,.val (.bool r.2.2)]) Tryz.func69 rfl rfl rfl rfl (by simp[Tryz.f69]) λF hN hP=>?_;unfold QS at h;refine Q0 (runQ hN λK hK=>?_);simp;repeat refine sdQ ?_
 refine hK _ (tn (Q4 (st':=⟨Y0 w_ (YX f_ v_ []),[],0⟩) (wkQ []) (w_scopeG λR1 H1=>?_)));clear hK K;refine Q0 (runQ hN λK hK=>?_);simp;repeat refine sdQ ?_
 refine hK _ ?_;clear hK K;refine tn (Q4 (st':=⟨Y0 w_ (YE f_ v_ w_ []),[],0⟩) (wkQ []) (Q0 (runQ hN λK hK=>?_)));simp;repeat refine sdQ ?_
 refine hK _ ?_;clear hK K;refine tn (Q4 (st':=⟨Y0 w_ (YE f_ v_ w_ [(10,iV 0)]),[],0⟩) (wkQ []) (Q0 (runQ hN λK hK=>?_)));simp;repeat refine sdQ ?_
 refine hK _ (tn (Q4 (st':=⟨Y0 w_ (YE f_ v_ w_ [(10,iV 0)]),[],0⟩) (wkQ []) (Q0 (w_label (tn ?_)))));clear hK K;replace⟨e38,he38,h38⟩:=bind_some h;refine QaH (l:=0) H1 (by rfl) he38 (λs38:Int=>⟨Y0 w_ (YE f_ v_ w_ [(10,iV s38)]),[],0⟩) (wkQ []) ?_;intro k38 s38 c38 h hk38 ir38;refine Q0 (Q0 (runQ hN λK hK=>?_));simp;repeat refine sdQ ?_
 refine hK _ ?_;clear hK K;refine tn (Q6 rfl (λg=>?_) λg=>?_)
 ·have g39:s38=w_.c_.n:=gQ;clear g;replace h:=if_l g39 h;refine Q0 (runQ hN λK hK=>?_);simp;repeat refine sdQ ?_
  refine hK _ (tn (Q4 (st':=⟨[(6,iV 0),(7,iV 0),(8,.val (.bool false))],[],0⟩) (wkQ []) (Qh (tr (gar ?_)))));clear hK K;cases h;have q:_=e38:=hk38;have h:=h38;rw[←q]at h;clear q;try dsimp only at h
  have hr:=yJ h;rw[←hr];refine⟨_,(.tmp (.tmp (.tmp .nil))),?_⟩;refine⟨(.one rfl rfl (.one rfl rfl (.one rfl rfl .nil))),[iV 0,iV 0,.val (.bool false)],[],by simp[BN],by simp,(yM _)⟩
 have g39:¬(s38=w_.c_.n):=gQ;clear g;replace h:=if_r g39 h;refine Q7 (tn (Q0 (runQ hN λK hK=>?_)));replace⟨a40,h⟩:=Q1 h;simp[at_I a40];repeat with_reducible refine sdQ ?_
 replace⟨v41,hv41,h⟩:=bind_some h;refine Q2 (Q21 _ _ _ v41 hv41) (.cons (.preT (by simp[CN])) (.cons .val (.cons .val .nil))) ?_;replace⟨a42,h⟩:=Q1 h;simp[at_I a40,at_I a42];repeat with_reducible refine sdQ ?_
 replace⟨v43,hv43,h⟩:=bind_some h;refine Q2 (Q21 _ _ _ v43 hv43) (.cons (.preT (by simp[CN])) (.cons .val (.cons .val .nil))) ?_;simp[at_I a40,at_I a42];repeat refine sdQ ?_
 refine hK _ ?_;clear hK K;refine tn (Q4 (st':=⟨Y0 w_ (YE f_ v_ w_ ((10,iV s38)::YR v41 v43 [])),[(0,rI v41),(1,rI v43)],2⟩) (wkQ [(0,0),(1,1)]) (Q0 (runQ hN λK hK=>?_)));replace⟨a44,h⟩:=Q1 h;simp[Qi a44];repeat refine sdQ ?_
 refine hK _ ?_;clear hK K;refine tn (Q4 (st':=⟨Y0 w_ (YE f_ v_ w_ ((10,iV (s38+1))::YR v41 v43 [])),[(0,rI v41),(1,rI v43)],2⟩) (wkQ [(0,0),(1,1)]) (Q0 (runQ hN λK hK=>?_)));simp;repeat refine sdQ ?_
 refine hK _ (tn (Q4 (st':=⟨Y0 w_ (YE f_ v_ w_ ((10,iV (s38+1))::(11,iV 0)::(12,iV 0)::YR v41 v43 [])),[(0,rI v41),(1,rI v43)],2⟩) (wkQ [(0,0),(1,1)]) (Q0 (w_label (tn ?_)))));clear hK K;replace⟨e59,he59,h59⟩:=bind_some h;refine QaH (l:=1) H1 (by rfl) he59 (λs59:Int×Int=>⟨Y0 w_ (YE f_ v_ w_ ((10,iV (s38+1))::(11,iV s59.1)::(12,iV s59.2)::YR v41 v43 [])),[(0,rI v41),(1,rI v43)],2⟩) (wkQ [(0,0),(1,1)]) ?_;intro k59 s59 c59 h hk59 ir59;refine Q0 (Q0 (runQ hN λK hK=>?_));simp;repeat refine sdQ ?_
 refine hK _ ?_;clear hK K;refine tn (Q6 rfl (λg=>?_) λg=>?_)
 ·have g60:s59.1=(v41.length:Int):=gQ;clear g;replace h:=if_l g60 h;refine w_goto ?_;cases h;have q:_=e59:=hk59;have h:=h59;rw[←q]at h;clear q;try dsimp only at h
  cases h;exact ir38 (s38+1) _ hk38 (wkQ [])
 have g60:¬(s59.1=(v41.length:Int)):=gQ;clear g;replace h:=if_r g60 h;refine Q7 (tn (Q0 (Q0 ?_)));replace⟨e61,h,h61⟩:=bind_some h;refine Qc (λb61:Bool=>⟨Y0 w_ (YE f_ v_ w_ ((10,iV (s38+1))::(11,iV s59.1)::(12,iV s59.2)::YR v41 v43 [(69,.val (.bool b61))])),[(0,rI v41),(1,rI v43)],2⟩) (λb61=>b61=e61) ?_ ?_
 ·refine runQ hN λK hK=>?_;simp;repeat with_reducible refine sdQ ?_
  refine Qy (λg=>?_) (λg=>?_)
  ·have g62:¬(s59.2=(v43.length:Int)):=gQ;clear g;replace h:=if_r g62 h;replace⟨a63,h⟩:=Q1 h;replace⟨a64,h⟩:=Q1 h;simp[at_I a63,at_B a64];(repeat refine sdQ ?_);refine hK _ ?_;exact jn (b:=!(gx w_.there_ (ix v41 s59.1))) (yJ h) (wkQ [(0,0),(1,1)])
  have g62:s59.2=(v43.length:Int):=gQ;clear g;replace h:=if_l g62 h;simp;repeat refine sdQ ?_
  refine hK _ ?_;exact jn (b:=true) (yJ h) (wkQ [(0,0),(1,1)])
 intro b61 hb61;have h:=h61;try rw[←hb61]at h
 clear h61;try dsimp only at h
 refine Q6 rfl (λg=>?_) λg=>?_
 ·have g65:b61=true:=gQ;clear g;replace h:=if_l g65 h;refine Q0 (runQ hN λK hK=>?_);replace⟨a66,h⟩:=Q1 h;simp[Qi a66];repeat refine sdQ ?_
  refine hK _ ?_;clear hK K;refine tn (Q4 (st':=⟨Y0 w_ (YE f_ v_ w_ ((10,iV (s38+1))::(11,iV (s59.1+1))::YR v41 v43 [])),[(0,rI v41),(1,rI v43)],2⟩) (wkQ [(0,0),(1,1)]) (Q0 (runQ hN λK hK=>?_)));simp;repeat refine sdQ ?_
  refine hK _ (tn (Q4 (st':=⟨Y0 w_ (YE f_ v_ w_ ((10,iV (s38+1))::(11,iV (s59.1+1))::(12,iV 0)::YR v41 v43 [])),[(0,rI v41),(1,rI v43)],2⟩) (wkQ [(0,0),(1,1)]) (w_goto ?_)));clear hK K;cases h;exact ir59 (s59.1+1,0) _ hk59 (wkQ [(0,0),(1,1)])
 have g65:¬(b61=true):=gQ;clear g;replace h:=if_r g65 h;refine Q7 (tn (Q0 (Q0 (runQ hN λK hK=>?_))));replace⟨a67,h⟩:=Q1 h;simp[at_I a67];repeat with_reducible refine sdQ ?_
 replace⟨v68,hv68,h⟩:=bind_some h;refine Q2 (QH _ _ _ v68 hv68) (.cons (.preT (by simp[CN])) (.cons .val (.cons .val .nil))) ?_;replace⟨a69,h⟩:=Q1 h;simp[at_I a67,at_I a69];repeat with_reducible refine sdQ ?_
 replace⟨v70,hv70,h⟩:=bind_some h;refine Q2 (QH _ _ _ v70 hv70) (.cons (.preT (by simp[CN])) (.cons .val (.cons .val .nil))) ?_;simp[at_I a67,at_I a69];repeat refine sdQ ?_
 refine hK _ ?_;clear hK K;refine tn (Q4 (st':=⟨Y0 w_ (YE f_ v_ w_ ((10,iV (s38+1))::(11,iV s59.1)::(12,iV s59.2)::YR v41 v43 [(86,.val (.bool (v68==v70)))])),[(0,rI v41),(1,rI v43)],2⟩) (wkQ [(0,0),(1,1)]) (Q6 rfl (λg=>?_) λg=>?_))
 ·have g71:v68=v70:=gQ;clear g;replace h:=if_l g71 h;refine Q0 (runQ hN λK hK=>?_);replace⟨a72,h⟩:=Q1 h;replace⟨a73,h⟩:=Q1 h;simp[at_I a72,at_I a73];repeat refine sdQ ?_
  refine hK _ (tn (Q4 (st':=⟨[(6,iV (ix v41 s59.1)),(7,iV (ix v43 s59.2)),(8,.val (.bool true))],[],0⟩) (wkQ []) (Qh (tr (gar ?_)))));clear hK K;cases h;have q:_=e59:=hk59;have h:=h59;rw[←q]at h;clear q;try dsimp only at h
  cases h;have q:_=e38:=hk38;have h:=h38;rw[←q]at h;clear q;try dsimp only at h
  have hr:=yJ h;rw[←hr];refine⟨_,(.tmp (.tmp (.tmp .nil))),?_⟩;refine⟨(.one rfl rfl (.one rfl rfl (.one rfl rfl .nil))),[iV (ix v41 s59.1),iV (ix v43 s59.2),.val (.bool true)],[],by simp[BN],by simp,(yM _)⟩
 have g71:¬(v68=v70):=gQ;clear g;replace h:=if_r g71 h;refine Q7 (tn (Q0 (runQ hN λK hK=>?_)));replace⟨a74,h⟩:=Q1 h;simp[Qi a74];repeat refine sdQ ?_
 refine hK _ (tn (Q4 (st':=⟨Y0 w_ (YE f_ v_ w_ ((10,iV (s38+1))::(11,iV s59.1)::(12,iV (s59.2+1))::YR v41 v43 [])),[(0,rI v41),(1,rI v43)],2⟩) (wkQ [(0,0),(1,1)]) (w_goto ?_)));clear hK K;cases h;exact ir59 (s59.1,s59.2+1) _ hk59 (wkQ [(0,0),(1,1)])
attribute [local simp] unk unA unE unT unC flat eL eI Qj QQ Cat.cells
def Q1c(c_:Cat)(w_:List Int)(f_:Int)(v_:Int):Option (Int×Int×Int×Bool):=
 (Qd (σ:=Int) (ε:=Unit⊕(Int×Int×Int×Bool)) (λs70=>
  if s70<c_.n then
   (
    ass (0≤f_∧f_<(c_.fr.length:Int))<|
    (Q1g c_ s70 (ix c_.fr f_)).bind λv74=>
    ass (0≤v_∧v_<(c_.fr.length:Int))<|
    (Q1g c_ s70 (ix c_.fr v_)).bind λv76=>
    (Qd (σ:=Int) (ε:=(Int×Int×Int×Bool)⊕Unit) (λs107=>
     if s107<(v74.length:Int)then
      (
       (Qd (σ:=Int) (ε:=(Int×Int×Int×Bool)⊕Unit) (λs123=>
        if s123<(v76.length:Int)then
         (
          ass (0≤s107∧s107<(v74.length:Int))<|
          (Q12 w_ (ix v74 s107)).bind λv127=>
          if v127=true then
           ass (0≤s107∧s107<(v74.length:Int))<|
           (Qt c_ (ix v74 s107) f_).bind λv130=>
           ass (0≤s123∧s123<(v76.length:Int))<|
           (Qt c_ (ix v76 s123) v_).bind λv132=>
           some (v130==v132)
          else
           some false:Option (Bool)).bind λb125=>
         if b125=true then
          ass (0≤s107∧s107<(v74.length:Int))<|
          ass (0≤s123∧s123<(v76.length:Int))<|
          some (yV (yU (s70,ix v74 s107,ix v76 s123,true)))
         else
          ass (B64 (s123+1))<|
          some (yK (s123+1))
        else
         some (yV (yW ()))) fuel 0).bind λe123=>
       match e123 with
       | .inl p123=>
        some (yW p123)
       | .inr p123=>
        some (yU p123):Option (Unit⊕(Int×Int×Int×Bool))).bind λe109=>
      match e109 with
      | .inl b109=>
       ass (B64 (s107+1))<|
       some (yK (s107+1))
      | .inr p109=>
       some (yV (yU p109))
     else
      some (yV (yW ()))) fuel 0).bind λe107=>
    match e107 with
    | .inl p107=>
     some (yW p107)
    | .inr p107=>
     some (yU p107):Option (Unit⊕(Int×Int×Int×Bool))).bind λe72=>
   match e72 with
   | .inl b72=>
    ass (B64 (s70+1))<|
    some (yK (s70+1))
   | .inr p72=>
    some (yV (yW p72))
  else
   some (yV (yU ()))) fuel 0).bind λe1=>
 match e1 with
 | .inl b1=>
  some (0,0,0,false)
 | .inr p1=>
  some p1
@[simp] abbrev Ym(a:List Int)(b c:Int)(d:List (Nat×AV)):List (Nat×AV):=(1,lI a)::(2,iV b)::(3,iV c)::(4,.adr 0 0 0)::d
@[simp] abbrev YW(a:Int)(b c:List Int)(d:List (Nat×AV)):List (Nat×AV):=(12,iV a)::(13,.own 1 0 b.length)::(14,.own 2 0 c.length)::d
theorem Q50(c_:Cat)(w_:List Int)(f_:Int)(v_:Int)(r:Int×Int×Int×Bool)(h:Q1c c_ w_ f_ v_=some r):Contract Tryz.prog 56 (Y0w c_ [lI w_,iV f_,iV v_]) (.tup [iV r.1,iV r.2.1,iV r.2.2.1,.val (.bool r.2.2.2)]):=by
 refine Q9 (rvs:=[.tmp 8,.tmp 9,.tmp 10,.tmp 11]) (rs:=[iV r.1,iV r.2.1,iV r.2.2.1,.val (.bool r.2.2.2)]) Tryz.func56 rfl rfl rfl rfl (by simp[Tryz.f56]) λF hN hP=>?_;unfold Q1c at h;refine Q0 (runQ hN λK hK=>?_);simp;repeat refine sdQ ?_
 refine hK _ ?_;clear hK K;refine tn (Q4 (st':=⟨Ym w_ f_ v_ [],Y6 c_ [],1⟩) (wkQ [(0,0)]) (Q0 (Q0 (runQ hN λK hK=>?_))));simp;repeat refine sdQ ?_
 refine hK _ (tn (Q4 (st':=⟨Ym w_ f_ v_ [(12,iV 0)],Y6 c_ [],1⟩) (wkQ [(0,0)]) ?_));clear hK K;replace⟨e1,h,h1⟩:=bind_some h;refine Qc (λb1:Unit=>⟨[],[],0⟩) (λb1=>yU b1=e1) ?_ ?_
 ·refine Q5 (Qm h (λs70:Int=>⟨Ym w_ f_ v_ [(12,iV s70)],Y6 c_ [],1⟩) (wkQ [(0,0)]) ?_);clear h;intro k70 s70 c70 h hk70;refine Q0 (Q0 (runQ hN λK hK=>?_));simp;repeat refine sdQ ?_
  refine hK _ ?_;clear hK K;refine tn (Q6 rfl (λg=>?_) λg=>?_)
  ·have g71:s70<c_.n:=gQ;clear g;replace h:=if_l g71 h;refine Q7 (tn (Q0 ?_));replace⟨e72,h,h72⟩:=bind_some h;refine Qc (λb72:Unit=>⟨Ym w_ f_ v_ [(12,iV s70)],Y6 c_ [],1⟩) (λb72=>yU b72=e72) ?_ ?_
   ·refine Q5 (Q0 (runQ hN λK hK=>?_));replace⟨a73,h⟩:=Q1 h;simp[at_I a73];(repeat with_reducible refine sdQ ?_);replace⟨v74,hv74,h⟩:=bind_some h;refine Q2 (Q2O _ _ _ v74 hv74) (.cons (.aggL (.cons .val (.cons .lst (.cons .lst (.cons .lst (.cons .lst .nil)))))) (.cons .val (.cons .val .nil))) ?_;replace⟨a75,h⟩:=Q1 h;simp[at_I a73,at_I a75];(repeat with_reducible refine sdQ ?_);replace⟨v76,hv76,h⟩:=bind_some h;refine Q2 (Q2O _ _ _ v76 hv76) (.cons (.aggL (.cons .val (.cons .lst (.cons .lst (.cons .lst (.cons .lst .nil)))))) (.cons .val (.cons .val .nil))) ?_;simp[at_I a73,at_I a75];(repeat refine sdQ ?_);refine hK _ ?_;clear hK K;refine tn (Q4 (st':=⟨Ym w_ f_ v_ (YW s70 v74 v76 []),Y6 c_ [(1,rI v74),(2,rI v76)],3⟩) (wkI 3) (Q0 (runQ hN λK hK=>?_)));simp;(repeat refine sdQ ?_);refine hK _ (tn (Q4 (st':=⟨Ym w_ f_ v_ (YW s70 v74 v76 [(15,iV 0)]),Y6 c_ [(1,rI v74),(2,rI v76)],3⟩) (wkI 3) (Q5 ?_)));clear hK K;replace⟨e107,he107,h107⟩:=bind_some h;refine Qm he107 (λs107:Int=>⟨Ym w_ f_ v_ (YW s70 v74 v76 [(15,iV s107)]),Y6 c_ [(1,rI v74),(2,rI v76)],3⟩) (wkI 3) ?_;intro k107 s107 c107 h hk107;refine Q0 (Q0 (runQ hN λK hK=>?_));simp;(repeat refine sdQ ?_);refine hK _ ?_;clear hK K;refine tn (Q6 rfl (λg=>?_) λg=>?_)
    ·have g108:s107<(v74.length:Int):=gQ;clear g;replace h:=if_l g108 h;refine Q7 (tn (Q0 ?_));replace⟨e109,h,h109⟩:=bind_some h;refine Qc (λb109:Unit=>⟨Ym w_ f_ v_ (YW s70 v74 v76 [(15,iV s107)]),Y6 c_ [(1,rI v74),(2,rI v76)],3⟩) (λb109=>yU b109=e109) ?_ ?_
     ·refine Q5 (Q0 (runQ hN λK hK=>?_));simp;(repeat refine sdQ ?_);refine hK _ (tn (Q4 (st':=⟨Ym w_ f_ v_ (YW s70 v74 v76 [(15,iV s107),(16,iV 0)]),Y6 c_ [(1,rI v74),(2,rI v76)],3⟩) (wkI 3) (Q5 ?_)));clear hK K;replace⟨e123,he123,h123⟩:=bind_some h;refine Qm he123 (λs123:Int=>⟨Ym w_ f_ v_ (YW s70 v74 v76 [(15,iV s107),(16,iV s123)]),Y6 c_ [(1,rI v74),(2,rI v76)],3⟩) (wkI 3) ?_;intro k123 s123 c123 h hk123;refine Q0 (Q0 (runQ hN λK hK=>?_));simp;(repeat refine sdQ ?_);refine hK _ ?_;clear hK K;refine tn (Q6 rfl (λg=>?_) λg=>?_)
      ·have g124:s123<(v76.length:Int):=gQ;clear g;replace h:=if_l g124 h;refine Q7 (tn (Q0 (Q5 (Q0 ?_))));replace⟨e125,h,h125⟩:=bind_some h;refine Qc (λb125:Bool=>⟨Ym w_ f_ v_ (YW s70 v74 v76 [(15,iV s107),(16,iV s123),(73,.val (.bool b125))]),Y6 c_ [(1,rI v74),(2,rI v76)],3⟩) (λb125=>b125=e125) ?_ ?_
       ·refine runQ hN λK hK=>?_;replace⟨a126,h⟩:=Q1 h;simp[at_I a126];(repeat with_reducible refine sdQ ?_);replace⟨v127,hv127,h⟩:=bind_some h;refine Q2 (Q3C _ _ v127 hv127) (.cons .lst (.cons .val .nil)) ?_;simp[at_I a126];(repeat with_reducible refine sdQ ?_);refine Qy (λg=>?_) (λg=>?_)
        ·have g128:v127=true:=gQ;clear g;replace h:=if_l g128 h;replace⟨a129,h⟩:=Q1 h;simp[at_I a126,at_I a129];(repeat with_reducible refine sdQ ?_);replace⟨v130,hv130,h⟩:=bind_some h;refine Q2 (Q1b _ _ _ v130 hv130) (.cons (.aggL (.cons .val (.cons .lst (.cons .lst (.cons .lst (.cons .lst .nil)))))) (.cons .val (.cons .val .nil))) ?_;replace⟨a131,h⟩:=Q1 h;simp[at_I a126,at_I a129,at_I a131];(repeat with_reducible refine sdQ ?_);replace⟨v132,hv132,h⟩:=bind_some h;refine Q2 (Q1b _ _ _ v132 hv132) (.cons (.aggL (.cons .val (.cons .lst (.cons .lst (.cons .lst (.cons .lst .nil)))))) (.cons .val (.cons .val .nil))) ?_;simp[at_I a126,at_I a129,at_I a131];(repeat refine sdQ ?_);refine hK _ ?_;exact jn (b:=v130==v132) (yJ h) (wkI 3)
        have g128:¬(v127=true):=gQ;clear g;replace h:=if_r g128 h;simp[at_I a126];(repeat refine sdQ ?_);refine hK _ ?_;exact jn (b:=false) (yJ h) (wkI 3)
       intro b125 hb125;have h:=h125;(try rw[←hb125]at h);clear h125;(try dsimp only at h);refine Q6 rfl (λg=>?_) λg=>?_
       ·have g133:b125=true:=gQ;clear g;replace h:=if_l g133 h;refine Q0 (runQ hN λK hK=>?_);replace⟨a134,h⟩:=Q1 h;replace⟨a135,h⟩:=Q1 h;simp[at_I a134,at_I a135];(repeat refine sdQ ?_);refine hK _ (tn (Q4 (st':=⟨[(8,iV s70),(9,iV (ix v74 s107)),(10,iV (ix v76 s123)),(11,.val (.bool true))],[],0⟩) (wkQ []) (Qh (br (tr (lr (br (br (tr (lr (br (br (tr (lr (br (tr ?_))))))))))))))));clear hK K;cases h;have q:_=e123:=hk123;have h:=h123;rw[←q]at h;clear q;(try dsimp only at h);cases h;have h:=h109;(try dsimp only at h);cases h;have q:_=e107:=hk107;have h:=h107;rw[←q]at h;clear q;(try dsimp only at h);cases h;have h:=h72;(try dsimp only at h);cases h;have q:_=e1:=hk70;have h:=h1;rw[←q]at h;clear q;(try dsimp only at h);have hr:=yJ h;rw[←hr];refine⟨_,(.tmp (.tmp (.tmp (.tmp .nil)))),?_⟩;refine⟨(.one rfl rfl (.one rfl rfl (.one rfl rfl (.one rfl rfl .nil)))),[iV s70,iV (ix v74 s107),iV (ix v76 s123),.val (.bool true)],[],by simp[BN],by simp,(yM _)⟩
       have g133:¬(b125=true):=gQ;clear g;replace h:=if_r g133 h;refine Q7 (bn (tn (runQ hN λK hK=>?_)));replace⟨a136,h⟩:=Q1 h;simp[Qi a136];(repeat refine sdQ ?_);refine hK _ ?_;clear hK K;cases h;exact rn (s':=s123+1) hk123 (wkI 3)
      have g124:¬(s123<(v76.length:Int)):=gQ;clear g;replace h:=if_r g124 h;refine Qk (tx (lx (bh (bn ?_))));cases h;have q:_=e123:=hk123;have h:=h123;rw[←q]at h;clear q;(try dsimp only at h);exact jn (b:=()) (yJ h) (wkI 3)
     intro b109 hb109;have h:=h109;(try rw[←hb109]at h);clear h109;(try dsimp only at h);refine runQ hN λK hK=>?_;replace⟨a137,h⟩:=Q1 h;simp[Qi a137];(repeat refine sdQ ?_);refine hK _ ?_;clear hK K;cases h;exact rn (s':=s107+1) hk107 (wkI 3)
    have g108:¬(s107<(v74.length:Int)):=gQ;clear g;replace h:=if_r g108 h;refine Qk (tx (lx (bh (bn ?_))));cases h;have q:_=e107:=hk107;have h:=h107;rw[←q]at h;clear q;(try dsimp only at h);exact jn (b:=()) (yJ h) (wkQ [(0,0)])
   intro b72 hb72;have h:=h72;(try rw[←hb72]at h);clear h72;(try dsimp only at h);refine runQ hN λK hK=>?_;replace⟨a138,h⟩:=Q1 h;simp[Qi a138];(repeat refine sdQ ?_);refine hK _ ?_;clear hK K;cases h;exact rn (s':=s70+1) hk70 (wkQ [(0,0)])
  have g71:¬(s70<c_.n):=gQ;clear g;replace h:=if_r g71 h;refine Qk (tx (lx (bh ?_)));cases h;exact jn (b:=()) hk70 (wkQ [])
 intro b1 hb1;have h:=h1;try rw[←hb1]at h
 clear h1;try dsimp only at h
 refine Q0 (runQ hN λK hK=>?_);simp;repeat refine sdQ ?_
 refine hK _ (tn (Q4 (st':=⟨[(8,iV 0),(9,iV 0),(10,iV 0),(11,.val (.bool false))],[],0⟩) (wkQ []) (Qh ?_)));clear hK K;have hr:=yJ h;rw[←hr];refine⟨_,(.tmp (.tmp (.tmp (.tmp .nil)))),?_⟩;refine⟨(.one rfl rfl (.one rfl rfl (.one rfl rfl (.one rfl rfl .nil)))),[iV 0,iV 0,iV 0,.val (.bool false)],[],by simp[BN],by simp,(yM _)⟩
section
attribute [local simp] Qa QD Qn QL Qv
def fsN{α:Type}(n:Nat)(g:Nat→Option α):Option α:=(List.range n).findSome? g
theorem Q5J{α:Type}{a n:Nat}(g:Nat→Option α)(h:a<n):(List.range' a (n - a)).findSome? g=(g a).or ((List.range' (a+1) (n - (a+1))).findSome? g):=by
 rw[show n - a=(n - (a+1))+1 by omega,List.range'_succ,List.findSome?_cons];cases g a<;>rfl
theorem fsN_eq{α:Type}(n:Nat)(g:Nat→Option α):fsN n g=(List.range' 0 (n - 0)).findSome? g:=by simp[fsN,List.range_eq_range']
theorem Q7t{ε α:Type}{body:Int→Option (Ctl Int ε)}(n:Nat)(g:Nat→Option α)(eb:α→ε){eg:ε}(hn:n<4611686018427387904)(h1:∀i:Nat,i<n→g i=none→body (i:Int)=some (.next ((i:Int)+1)))(h2:∀(i:Nat) (x:α),i<n→g i=some x→body (i:Int)=some (.ret (eb x)))(h3:body (n:Int)=some (.ret eg)):Qd body fuel 0=some ((fsN n g).elim eg eb):=by
 by_cases h:∀i:Nat,i<n→g i=none
 ·have:fsN n g=none:=by
   unfold fsN;rw[List.findSome?_eq_none_iff];exact λi hi=>h i (List.mem_range.1 hi)
  rw[this];exact Q5b 0 n hn (zV _) (λi _ hi=>h1 i hi (h i hi)) h3
 have hex:∃i,i<n∧g i≠none:=yL λhx=>h λi hi=>yL λhp=>hx ⟨i,hi,hp⟩;obtain⟨m,⟨hm,hp⟩,hmin⟩:∃m,(m<n∧g m≠none)∧∀k,k<m→¬(k<n∧g k≠none):=by
  obtain⟨i,hi⟩:=hex
  induction i using yS with
  |_ i ih=>
   by_cases h:∃k,k<i∧k<n∧g k≠none
   ·obtain⟨k,h1,h2⟩:=h;exact ih k h1 h2
   exact⟨i,hi,λk hk hh=>h ⟨k,hk,hh⟩⟩
 have hz:∀k,k<m→g k=none:=λk hk=>yL λq=>hmin k hk ⟨by omega,q⟩;obtain⟨x,hx⟩:=Option.ne_none_iff_exists'.1 hp;have key:∀d a,a+d=m→(List.range' a (n - a)).findSome? g=some x:=by
  intro d
  induction d with
  |zero=>
   intro a ha;have:a=m:=by omega
   subst this;rw[Q5J g hm,hx];rfl
  |succ d ih=>intro a ha;rw[Q5J g (by omega),hz a (by omega),ih (a+1) (by omega)];rfl
 rw[fsN_eq,key m 0 (by omega)];exact Q1e (λi:Nat=>(i:Int)) m rfl (by omega) (λi hi=>h1 i (by omega) (hz i hi)) (h2 m x hm hx)
theorem Q5a{σ ε:Type}{body:σ→Option (Ctl σ ε)}{n:Nat}{s s':σ}(h:body s=some (.next s')):Qd body (n+1) s=Qd body n s':=by rw[Qd,h]
theorem Q8C{σ ε:Type}{body:σ→Option (Ctl σ ε)}{n:Nat}{s:σ}{e:ε}(h:body s=some (.ret e)):Qd body (n+1) s=some e:=by rw[Qd,h]
theorem pair_loop{ε α:Type}{body:Int×Int→Option (Ctl (Int×Int) ε)}(n m:Nat)(ok:Nat→Prop)[DecidablePred ok](q:Nat→Nat→Option α)(eb:α→ε){eg:ε}(hN:n*(m+1)+m+2<fuel)(hskip:∀i k:Nat,i<n→k≤m→(k=m∨¬ok i)→body ((i:Int),(k:Int))=some (.next ((i:Int)+1,0)))(hnext:∀i k:Nat,i<n→k<m→ok i→q i k=none→body ((i:Int),(k:Int))=some (.next ((i:Int),(k:Int)+1)))(hret:∀(i k:Nat) (x:α),i<n→k<m→ok i→q i k=some x→body ((i:Int),(k:Int))=some (.ret (eb x)))(hend:body ((n:Int),0)=some (.ret eg)):
  Qd body fuel (0,0)=some ((fsN n λi=>if ok i then fsN m (q i)else none).elim eg eb):=by
 have rows:∀(d i:Nat),i+d=n→∀F,d*(m+1)+1≤F→Qd body F ((i:Int),0)=some (((List.range' i (n - i)).findSome? λi=>if ok i then fsN m (q i)else none).elim eg eb):=by
  intro d
  induction d with
  |zero=>
   intro i hi F hF;have:i=n:=(by omega);subst this;obtain⟨F',rfl⟩:∃F',F=F'+1:=⟨F - 1,by omega⟩;rw[Q8C hend];simp
  |succ d ih=>
   intro i hi F hF;have hin:i<n:=(by omega);have hF':d*(m+1)+1+(m+1)≤F:=(by rw[Nat.add_mul]at hF;omega);rw[Q5J _ hin]
   by_cases hok:ok i
   ·rw[if_pos hok,fsN_eq];have row:∀(e k:Nat),k+e=m→∀F,d*(m+1)+1+(e+1)≤F→Qd body F ((i:Int),(k:Int))=some ((((List.range' k (m - k)).findSome? (q i)).or ((List.range' (i+1) (n - (i+1))).findSome? λi=>if ok i then fsN m (q i)else none)).elim eg eb):=by
     intro e
     induction e with
     |zero=>
      intro k hk F hF;have:k=m:=(by omega);subst this;obtain⟨F',rfl⟩:∃F',F=F'+1:=⟨F - 1,by omega⟩;rw[Q5a (hskip i k hin (qE _) (.inl rfl))];have:=ih (i+1) (by omega) F' (by omega);rw[show((i:Int)+1)=((i+1:Nat):Int) by omega,this];simp
     |succ e ihe=>
      intro k hk F hF;obtain⟨F',rfl⟩:∃F',F=F'+1:=⟨F - 1,by omega⟩;rw[Q5J (q i) (show k<m by omega)];cases hq:q i k with
      |some x=>rw[Q8C (hret i k x hin (by omega) hok hq)];rfl
      |none=>
       rw[Q5a (hnext i k hin (by omega) hok hq),show((k:Int)+1)=((k+1:Nat):Int) by omega,ihe (k+1) (by omega) F' (by omega)];rfl
    exact row m 0 (by omega) F (by omega)
   rw[if_neg hok];obtain⟨F',rfl⟩:∃F',F=F'+1:=⟨F - 1,by omega⟩;rw[show((0:Int))=((0:Nat):Int) from rfl,Q5a (hskip i 0 hin (zV _) (.inr hok))];have:=ih (i+1) (by omega) F' (by omega);rw[show((i:Int)+1)=((i+1:Nat):Int) by omega,this];rfl
 rw[fsN_eq];exact rows n 0 (by omega) fuel (by omega)
def sqR(c:Cat)(w:List Int)(f v:Int)(u:Nat):Option (Int×Int×Int):=
 open Classical in
 fsN (homL c u (ix c.fr f)).length λi=>if ix (homL c u (ix c.fr f)) i∈w then fsN (homL c u (ix c.fr v)).length λk=>if ix (rx c.cs (ix (homL c u (ix c.fr f)) i)) f=ix (rx c.cs (ix (homL c u (ix c.fr v)) k)) v then some ((u:Int),ix (homL c u (ix c.fr f)) i,ix (homL c u (ix c.fr v)) k)else none else none
def sqF(c:Cat)(w:List Int)(f v:Int):Option (Int×Int×Int):=fsN c.n.toNat (sqR c w f v)
theorem Q1V{c:Cat}{x y:Int}{i:Nat}(hi:i<(homL c x y).length):Ar c (ix (homL c x y) i) x y:=by
 obtain⟨k,k1,k2,k3⟩:=Q8s (p:=λa:Nat=>ix c.fr a=x∧ix c.to a=y) hi;have k3':ix (homL c x y) i=(k:Int):=k3;rw[k3'];exact⟨⟨by omega,by omega⟩,k2.1,k2.2⟩
def sqB(c:Cat)(w:List Int)(f v s38:Int)(v41 v43:List Int):Int×Int→Option (Ctl (Int×Int) (Int⊕(Int×Int×Bool))):=λs59=>
 if s59.1=(v41.length:Int)then
  some (yV (yU (s38+1)))
 else
  (
   if s59.2=(v43.length:Int)then
    some true
   else
    ass (0≤s59.1∧s59.1<(v41.length:Int))<|
    ass (0≤ix v41 s59.1∧ix v41 s59.1<((wD c w).there_.length:Int))<|
    some (!(gx (wD c w).there_ (ix v41 s59.1))):Option (Bool)).bind λb61=>
  if b61=true then
   ass (B64 (s59.1+1))<|
   some (yK (s59.1+1,0))
  else
   ass (0≤s59.1∧s59.1<(v41.length:Int))<|
   (Qq c (ix v41 s59.1) f).bind λv68=>
   ass (0≤s59.2∧s59.2<(v43.length:Int))<|
   (Qq c (ix v43 s59.2) v).bind λv70=>
   if v68=v70 then
    ass (0≤s59.1∧s59.1<(v41.length:Int))<|
    ass (0≤s59.2∧s59.2<(v43.length:Int))<|
    some (yV (yW (ix v41 s59.1,ix v43 s59.2,true)))
   else
    ass (B64 (s59.2+1))<|
    some (yK (s59.1,s59.2+1))
open Classical in
theorem sqB_loop{c:Cat}(hc:c.Is)(w:List Int){f v:Int}(hf:0≤f∧f<(c.fr.length:Int))(hv:0≤v∧v<(c.fr.length:Int))(u:Nat):
  Qd (sqB c w f v u (homL c u (ix c.fr f)) (homL c u (ix c.fr v))) fuel (0,0)=some ((sqR c w f v u).elim (yU ((u:Int)+1)) λx=>yW (x.2.1,x.2.2,true)):=by
 have hn:=hc.nums;have ht:=Q77 c w;have l1:=Q1N c u (ix c.fr f);have l2:=Q1N c u (ix c.fr v);refine pair_loop (body:=sqB c w f v u (homL c u (ix c.fr f)) (homL c u (ix c.fr v))) (eg:=yU ((u:Int)+1)) (homL c u (ix c.fr f)).length (homL c u (ix c.fr v)).length (λi=>ix (homL c u (ix c.fr f)) i∈w)
  (λi k=>if ix (rx c.cs (ix (homL c u (ix c.fr f)) i)) f=ix (rx c.cs (ix (homL c u (ix c.fr v)) k)) v then some ((u:Int),ix (homL c u (ix c.fr f)) i,ix (homL c u (ix c.fr v)) k)else none) (λx=>yW (x.2.1,x.2.2,true)) ?_ (λi k hi hk h=>?_) (λi k hi hk ho hq=>?_) (λi k x hi hk ho hq=>?_) (by unfold sqB;rw[if_pos rfl])
 ·have:(homL c u (ix c.fr f)).length*((homL c u (ix c.fr v)).length+1)≤40*41:=Nat.mul_le_mul (by omega) (by omega);unfold fuel;omega
 ·have a:=Q1V hi;unfold sqB;simp only;rw[if_neg (by omega)]
  by_cases hkm:k=(homL c u (ix c.fr v)).length
  ·rw[if_pos (by omega)];simp only[yT,if_true];rw[Q3 (by unfold B64;omega)]
  have hno:=h.resolve_left hkm;rw[if_neg (by omega),Q3 (by omega),Q3 (by have:=a.1;omega),Q7v a.1,Qp hno];simp only[yT,Bool.not_false,if_true];rw[Q3 (by unfold B64;omega)]
 ·have a:=Q1V hi;have b:=Q1V hk;unfold sqB;simp only;rw[if_neg (by omega),if_neg (by omega),Q3 (by omega),Q3 (by have:=a.1;omega),Q7v a.1,Qw ho];simp only[yT,yY,zG,if_false];rw[Q3 (by omega),(Q1m hc a.1 hf).2];simp only[yT];rw[Q3 (by omega),(Q1m hc b.1 hv).2];simp only[yT];split at hq
  ·cases hq
  rename_i hne;rw[if_neg hne,Q3 (by unfold B64;omega)]
 have a:=Q1V hi;have b:=Q1V hk;unfold sqB;simp only;rw[if_neg (by omega),if_neg (by omega),Q3 (by omega),Q3 (by have:=a.1;omega),Q7v a.1,Qw ho];simp only[yT,yY,zG,if_false];rw[Q3 (by omega),(Q1m hc a.1 hf).2];simp only[yT];rw[Q3 (by omega),(Q1m hc b.1 hv).2];simp only[yT];split at hq
 ·rename_i he;cases hq;rw[if_pos he,Q3 (by omega),Q3 (by omega)]
 cases hq
def sqO(c:Cat)(w:List Int)(f v:Int):Int→Option (Ctl Int (Int×Int×Bool)):=λs38=>
 if s38=c.n then
  some (yV (0,0,false))
 else
  ass (0≤f∧f<(c.fr.length:Int))<|
  (QG c s38 (ix c.fr f)).bind λv41=>
  ass (0≤v∧v<(c.fr.length:Int))<|
  (QG c s38 (ix c.fr v)).bind λv43=>
  ass (B64 (s38+1))<|
  (Qd (sqB c w f v s38 v41 v43) fuel (0,0)).bind λe59=>
  match e59 with
  | .inl p59=>
   some (yK p59)
  | .inr p59=>
   some (yV p59)
theorem Q8d{c:Cat}(hc:c.Is)(w:List Int){f v:Int}(hf:0≤f∧f<(c.fr.length:Int))(hv:0≤v∧v<(c.fr.length:Int)):
  QS (wD c w) f v=some ((sqF c w f v).elim (0,0,false) λx=>(x.2.1,x.2.2,true)):=by
 have hn:=hc.nums;have step:∀u:Nat,u<c.n.toNat→sqO c w f v u=some ((sqR c w f v u).elim (yK ((u:Int)+1)) λx=>yV (x.2.1,x.2.2,true)):=by
  intro u hu;unfold sqO;rw[if_neg (by omega),Q3 hf,(Q4n hc _ _).2];simp only[yT];rw[Q3 hv,(Q4n hc _ _).2];simp only[yT];rw[Q3 (by unfold B64;omega),sqB_loop hc w hf hv u];cases sqR c w f v u<;>rfl
 unfold QS;show(Qd (sqO c w f v) fuel 0).bind _=_;rw[Q7t (body:=sqO c w f v) c.n.toNat (sqR c w f v) (λx=>(x.2.1,x.2.2,true)) (eg:=(0,0,false)) (by omega) (λu hu hg=>by rw[step u hu,hg];rfl) (λu x hu hg=>by rw[step u hu,hg];rfl) (by unfold sqO;rw[if_pos (by omega)])];rfl
theorem fsN_none{α:Type}{n:Nat}:fsN n (λ_:Nat=>(none:Option α))=none:=by
 unfold fsN;rw[List.findSome?_eq_none_iff];exact λ_ _=>rfl
def sS3(c:Cat)(w:List Int)(f v s70:Int)(v74 v76:List Int)(s107:Int):Int→Option (Ctl Int ((Int×Int×Int×Bool)⊕Unit)):=λs123=>
 if s123<(v76.length:Int)then
  (
   ass (0≤s107∧s107<(v74.length:Int))<|
   (Q12 w (ix v74 s107)).bind λv127=>
   if v127=true then
    ass (0≤s107∧s107<(v74.length:Int))<|
    (Qt c (ix v74 s107) f).bind λv130=>
    ass (0≤s123∧s123<(v76.length:Int))<|
    (Qt c (ix v76 s123) v).bind λv132=>
    some (v130==v132)
   else
    some false:Option (Bool)).bind λb125=>
  if b125=true then
   ass (0≤s107∧s107<(v74.length:Int))<|
   ass (0≤s123∧s123<(v76.length:Int))<|
   some (yV (yU (s70,ix v74 s107,ix v76 s123,true)))
  else
   ass (B64 (s123+1))<|
   some (yK (s123+1))
 else
  some (yV (yW ()))
open Classical in
theorem QaA{c:Cat}(hc:c.Is)(w:List Int){f v:Int}(hf:0≤f∧f<(c.fr.length:Int))(hv:0≤v∧v<(c.fr.length:Int))(u:Nat){i:Nat}(hi:i<(homL c u (ix c.fr f)).length):
  Qd (sS3 c w f v u (homL c u (ix c.fr f)) (homL c u (ix c.fr v)) i) fuel 0=some ((if ix (homL c u (ix c.fr f)) i∈w then fsN (homL c u (ix c.fr v)).length λk=>if ix (rx c.cs (ix (homL c u (ix c.fr f)) i)) f=ix (rx c.cs (ix (homL c u (ix c.fr v)) k)) v then some ((u:Int),ix (homL c u (ix c.fr f)) i,ix (homL c u (ix c.fr v)) k)else none else none).elim (yW ()) λx=>yU (x.1,x.2.1,x.2.2,true)):=by
 have hn:=hc.nums;have l2:=Q1N c u (ix c.fr v);have a:=Q1V hi;have e:(if ix (homL c u (ix c.fr f)) i∈w then fsN (homL c u (ix c.fr v)).length λk=>if ix (rx c.cs (ix (homL c u (ix c.fr f)) i)) f=ix (rx c.cs (ix (homL c u (ix c.fr v)) k)) v then some ((u:Int),ix (homL c u (ix c.fr f)) i,ix (homL c u (ix c.fr v)) k)else none else none)
   =fsN (homL c u (ix c.fr v)).length λk=>if ix (homL c u (ix c.fr f)) i∈w∧ix (rx c.cs (ix (homL c u (ix c.fr f)) i)) f=ix (rx c.cs (ix (homL c u (ix c.fr v)) k)) v then some ((u:Int),ix (homL c u (ix c.fr f)) i,ix (homL c u (ix c.fr v)) k)else none:=by
  by_cases h:ix (homL c u (ix c.fr f)) i∈w
  ·simp only[h,if_true,true_and]
  simp only[h,if_false,false_and,fsN_none]
 rw[e];have step:∀k:Nat,k<(homL c u (ix c.fr v)).length→sS3 c w f v u (homL c u (ix c.fr f)) (homL c u (ix c.fr v)) i k=some (if ix (homL c u (ix c.fr f)) i∈w∧ix (rx c.cs (ix (homL c u (ix c.fr f)) i)) f=ix (rx c.cs (ix (homL c u (ix c.fr v)) k)) v then .ret (yU ((u:Int),ix (homL c u (ix c.fr f)) i,ix (homL c u (ix c.fr v)) k,true))else .next ((k:Int)+1)):=by
  intro k hk;have b:=Q1V hk;unfold sS3;rw[if_pos (by omega),Q3 (by omega)];simp only[yT,Q12]
  by_cases h:ix (homL c u (ix c.fr f)) i∈w
  ·rw[Qw h,if_pos rfl,Q3 (by omega),(Q1m hc a.1 hf).1];simp only[yT];rw[Q3 (by omega),(Q1m hc b.1 hv).1];simp only[yT]
   by_cases h2:ix (rx c.cs (ix (homL c u (ix c.fr f)) i)) f=ix (rx c.cs (ix (homL c u (ix c.fr v)) k)) v
   ·rw[if_pos (by simpa using h2),if_pos ⟨h,h2⟩,Q3 (by omega),Q3 (by omega)]
   rw[if_neg (by simpa using h2),if_neg (λq=>h2 q.2),Q3 (by unfold B64;omega)]
  rw[Qp h,if_neg (by simp),if_neg (λq=>h q.1)];simp only[yT,zG,if_false];rw[Q3 (by unfold B64;omega)]
 refine Q7t (body:=sS3 c w f v u (homL c u (ix c.fr f)) (homL c u (ix c.fr v)) i) (eg:=yW ()) (homL c u (ix c.fr v)).length _ (λx:Int×Int×Int=>yU (x.1,x.2.1,x.2.2,true)) (by omega) (λk hk hg=>?_) (λk x hk hg=>?_) (by unfold sS3;rw[if_neg (by omega)])
 ·rw[step k hk];split at hg
  ·cases hg
  rename_i h;rw[if_neg h]
 rw[step k hk];split at hg
 ·rename_i h;cases hg;rw[if_pos h]
 cases hg
def sS2(c:Cat)(w:List Int)(f v s70:Int)(v74 v76:List Int):Int→Option (Ctl Int ((Int×Int×Int×Bool)⊕Unit)):=λs107=>
 if s107<(v74.length:Int)then
  (
   (Qd (sS3 c w f v s70 v74 v76 s107) fuel 0).bind λe123=>
   match e123 with
   | .inl p123=>
    some (yW p123)
   | .inr p123=>
    some (yU p123):Option (Unit⊕(Int×Int×Int×Bool))).bind λe109=>
  match e109 with
  | .inl b109=>
   ass (B64 (s107+1))<|
   some (yK (s107+1))
  | .inr p109=>
   some (yV (yU p109))
 else
  some (yV (yW ()))
theorem sS2_loop{c:Cat}(hc:c.Is)(w:List Int){f v:Int}(hf:0≤f∧f<(c.fr.length:Int))(hv:0≤v∧v<(c.fr.length:Int))(u:Nat):
  Qd (sS2 c w f v u (homL c u (ix c.fr f)) (homL c u (ix c.fr v))) fuel 0=some ((sqR c w f v u).elim (yW ()) λx=>yU (x.1,x.2.1,x.2.2,true)):=by
 have hn:=hc.nums;have l1:=Q1N c u (ix c.fr f);refine Q7t (body:=sS2 c w f v u (homL c u (ix c.fr f)) (homL c u (ix c.fr v))) (eg:=yW ()) (homL c u (ix c.fr f)).length _ (λx:Int×Int×Int=>yU (x.1,x.2.1,x.2.2,true)) (by omega) (λi hi hg=>?_) (λi x hi hg=>?_) (by unfold sS2;rw[if_neg (by omega)])
 ·unfold sS2;rw[if_pos (by omega),QaA hc w hf hv u hi,hg];simp only[Option.elim_none,yT];rw[Q3 (by unfold B64;omega)]
 unfold sS2;rw[if_pos (by omega),QaA hc w hf hv u hi,hg];rfl
def sS1(c:Cat)(w:List Int)(f v:Int):Int→Option (Ctl Int (Unit⊕(Int×Int×Int×Bool))):=λs70=>
 if s70<c.n then
  (
   ass (0≤f∧f<(c.fr.length:Int))<|
   (Q1g c s70 (ix c.fr f)).bind λv74=>
   ass (0≤v∧v<(c.fr.length:Int))<|
   (Q1g c s70 (ix c.fr v)).bind λv76=>
   (Qd (sS2 c w f v s70 v74 v76) fuel 0).bind λe107=>
   match e107 with
   | .inl p107=>
    some (yW p107)
   | .inr p107=>
    some (yU p107):Option (Unit⊕(Int×Int×Int×Bool))).bind λe72=>
  match e72 with
  | .inl b72=>
   ass (B64 (s70+1))<|
   some (yK (s70+1))
  | .inr p72=>
   some (yV (yW p72))
 else
  some (yV (yU ()))
theorem Q8e{c:Cat}(hc:c.Is)(w:List Int){f v:Int}(hf:0≤f∧f<(c.fr.length:Int))(hv:0≤v∧v<(c.fr.length:Int)):
  Q1c c w f v=some ((sqF c w f v).elim (0,0,0,false) λx=>(x.1,x.2.1,x.2.2,true)):=by
 have hn:=hc.nums;have step:∀u:Nat,u<c.n.toNat→sS1 c w f v u=some ((sqR c w f v u).elim (yK ((u:Int)+1)) λx=>yV (yW (x.1,x.2.1,x.2.2,true))):=by
  intro u hu;unfold sS1;rw[if_pos (by omega),Q3 hf,(Q4n hc _ _).1];simp only[yT];rw[Q3 hv,(Q4n hc _ _).1];simp only[yT];rw[sS2_loop hc w hf hv u];cases sqR c w f v u with
  |none=>simp only[Option.elim_none,yT];rw[Q3 (by unfold B64;omega)]
  |some x=>rfl
 unfold Q1c;show(Qd (sS1 c w f v) fuel 0).bind _=_;rw[Q7t (body:=sS1 c w f v) c.n.toNat (sqR c w f v) (λx=>yW (x.1,x.2.1,x.2.2,true)) (eg:=yU ()) (by omega) (λu hu hg=>by rw[step u hu,hg];rfl) (λu x hu hg=>by rw[step u hu,hg];rfl) (by unfold sS1;rw[if_neg (by omega)])];show(some ((sqF c w f v).elim _ _)).bind _=_;cases sqF c w f v<;>rfl
end
attribute [local simp] unk unA unE unT unC flat eL eI Qj QQ Cat.cells
def Q18(c_:Cat)(x_:Int):Option (List Int):=
 (Qd (σ:=List Int×Int) (ε:=List Int) (λs8=>
  if s8.2<(c_.to.length:Int)then
   (
    ass (0≤s8.2∧s8.2<(c_.to.length:Int))<|
    if(ix c_.to s8.2)=x_ then
     ass ((s8.1++[s8.2]).length≤1073741824)<|
     some (s8.1++[s8.2])
    else
     some s8.1:Option (List Int)).bind λb10=>
   ass (B64 (s8.2+1))<|
   some (yK (b10,s8.2+1))
  else
   some (yV s8.1)) fuel ([],0)).bind λb1=>
 some b1
@[simp] abbrev Y0n(a:Cat)(b:List (Nat×AV)):List (Nat×AV):=(12,lI a.to)::(13,iV (a.to.length:Int))::b
@[simp] abbrev Y0q(a:Int)(b:List (Nat×AV)):List (Nat×AV):=(1,iV a)::(5,.own 0 0 0)::b
theorem Q3z(c_:Cat)(x_:Int)(r:List Int)(h:Q18 c_ x_=some r):Contract Tryz.prog 94 (Y0z c_ [iV x_]) (lI r):=by
 refine Q9 (rvs:=[.tmp 4]) (rs:=[lI r]) Tryz.func94 rfl rfl rfl rfl (by simp[Tryz.f94]) λF hN hP=>?_;unfold Q18 at h;refine Q0 (runQ hN λK hK=>?_);simp;repeat refine sdQ ?_
 refine hK _ ?_;clear hK K;refine tn (Q4 (st':=⟨YF c_ [(1,iV x_)],[],0⟩) (wkQ []) (Q0 (runQ hN λK hK=>?_)));simp;repeat refine sdQ ?_
 refine hK _ ?_;clear hK K;refine tn (Q4 (st':=⟨YF c_ (Y0q x_ []),[(0,.mix 1 [])],1⟩) (wkQ [(0,0)]) (Q0 (Q0 (runQ hN λK hK=>?_))));simp;repeat refine sdQ ?_
 refine hK _ (tn (Q4 (st':=⟨Y0q x_ (Y0n c_ [(14,iV 0)]),[(0,.mix 1 [])],1⟩) (wkQ [(0,0)]) ?_));clear hK K;replace⟨e1,h,h1⟩:=bind_some h;refine Qc (λb1:List Int=>⟨Y0e b1 [],[(0,rI b1)],1⟩) (λb1=>b1=e1) ?_ ?_
 ·refine Q5 (Qm h (λs8:List Int×Int=>⟨(1,iV x_)::Y0p s8 (Y0n c_ [(14,iV s8.2)]),[(0,rI s8.1)],1⟩) (Q31 ⟨Y0q x_ (Y0n c_ [(14,iV 0)]),[(0,rI [])],1⟩ (Wk.nils [] (by simp) (by simp) (by simp[nlA]) (by simp[entN,nlL,nlA,BN]) (by simp)) (wkQ [(0,0)])) ?_);clear h;intro k8 s8 c8 h hk8;refine Q0 (runQ hN λK hK=>?_);simp;repeat refine sdQ ?_
  refine hK _ ?_;clear hK K;refine tn (Q0 (Q6 rfl (λg=>?_) λg=>?_))
  ·have g9:s8.2<(c_.to.length:Int):=gQ;clear g;replace h:=if_l g9 h;refine Q7 (tn (Q0 ?_));replace⟨e10,h,h10⟩:=bind_some h;refine Qc (λb10:List Int=>⟨(1,iV x_)::Y0e b10 (Y0n c_ [(14,iV s8.2)]),[(0,rI b10)],1⟩) (λb10=>b10=e10) ?_ ?_
   ·refine Q5 (Q0 (runQ hN λK hK=>?_));replace⟨a11,h⟩:=Q1 h;simp[at_I a11];(repeat refine sdQ ?_);refine hK _ ?_;clear hK K;refine tn (Q4 (st':=⟨(1,iV x_)::Y0p s8 ((6,iV s8.2)::(7,iV (ix c_.to s8.2))::Y0n c_ [(14,iV s8.2)]),[(0,rI s8.1)],1⟩) (wkQ [(0,0)]) (Q0 (runQ hN λK hK=>?_)));simp;(repeat refine sdQ ?_);refine hK _ ?_;clear hK K;refine tn (Q6 rfl (λg=>?_) λg=>?_)
    ·have g12:(ix c_.to s8.2)=x_:=gQ;clear g;replace h:=if_l g12 h;refine runQ hN λK hK=>?_;replace⟨a13,h⟩:=Q1 h;(try simp only[qD,qH,zS]at a13);simp[a13];(repeat refine sdQ ?_);refine hK _ (bn ?_);clear hK K;exact jn (b:=s8.1++[s8.2]) (yJ h) (wkQ [(2,0)])
    have g12:¬((ix c_.to s8.2)=x_):=gQ;clear g;replace h:=if_r g12 h;refine Q7 (bn ?_);exact jn (b:=s8.1) (yJ h) (wkQ [(0,0)])
   intro b10 hb10;have h:=h10;(try rw[←hb10]at h);clear h10;(try dsimp only at h);refine runQ hN λK hK=>?_;replace⟨a14,h⟩:=Q1 h;simp[Qi a14];(repeat refine sdQ ?_);refine hK _ ?_;clear hK K;cases h;exact rn (s':=(b10,s8.2+1)) hk8 (wkQ [(0,0)])
  have g9:¬(s8.2<(c_.to.length:Int)):=gQ;clear g;replace h:=if_r g9 h;refine Qk (tx (lx (bh ?_)));cases h;exact jn (b:=s8.1) hk8 (wkQ [(0,0)])
 intro b1 hb1;have h:=h1;try rw[←hb1]at h
 clear h1;try dsimp only at h
 refine Q0 (runQ hN λK hK=>?_);simp;repeat refine sdQ ?_
 refine hK _ (tn (Q4 (st':=⟨[(4,.own 0 0 b1.length)],[(0,rI b1)],1⟩) (wkQ [(0,0)]) (Qh ?_)));clear hK K;have hr:=yJ h;rw[←hr];refine⟨_,(.tmp .nil),?_⟩;refine⟨(.one rfl rfl .nil),[lI b1],[0],by simp[BN],by simp,(yM _)⟩
end Go.Vc.T
