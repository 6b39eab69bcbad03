/- A part of the proof. -/
import Derived.Test.YtbanpimdoabfmaaH8
set_option maxRecDepth 100000
set_option maxHeartbeats 4000000
set_option linter.unusedSimpArgs false
set_option linter.unusedVariables false
set_option linter.unusedSectionVars false
set_option linter.unnecessarySimpa false

open Option.some renaming inj→yJ
open Option renaming bind_some→yA
open Sum renaming inl→yK
open Sum renaming inr→yL
open Go.Vc.Ctl renaming ret→yM
open Go.Vc.UpL renaming refl→yN
open List renaming length_append→qD
open Go.Vc.Ctl renaming next→yO
open Int renaming eq_ofNat_of_zero_le→yT
open List renaming length_cons→qH
open List renaming length_nil→zX
open List renaming replicate→zL
open Int renaming pred_toNat→yU
open Option renaming bind_assoc→yV
open List renaming getElem_mem→yC
noncomputable section
namespace Go.Vc.T
open Go Go.Vc Go.Proofs
attribute [local simp] unk unA unE unT unC flat eL eI Qc QS Cat.cells
def Q1U(c_:Cat)(x_:Int)(y_:Int):Option (List Int):=
 (Qo (σ:=List Int×Int) (ε:=List Int) (λs11=>
  if s11.2<(c_.fr.length:Int)then
   (
    (
     ass (0≤s11.2∧s11.2<(c_.fr.length:Int))<|
     if(ix c_.fr s11.2)=x_ then
      ass (0≤s11.2∧s11.2<(c_.to.length:Int))<|
      some ((ix c_.to s11.2)==y_)
     else
      some false:Option (Bool)).bind λb14=>
    if b14=true then
     ass ((s11.1++[s11.2]).length≤1073741824)<|
     some (s11.1++[s11.2])
    else
     some s11.1:Option (List Int)).bind λb13=>
   ass (B64 (s11.2+1))<|
   some (yO (b13,s11.2+1))
  else
   some (yM s11.1)) fuel ([],0)).bind λb1=>
 some b1
theorem Q4m(c_:Cat)(x_:Int)(y_:Int)(r:List Int)(h:Q1U c_ x_ y_=some r):Contract Try.prog 106 [.agg (c_.cells true),iV x_,iV y_] (lI r):=by
 refine Q6 (rvs:=[.tmp 6]) (rs:=[lI r]) Try.func106 rfl rfl rfl rfl (by simp[Try.f106]) λF hN hP=>?_;unfold Q1U at h;refine Q0 (runQ hN λK hK=>?_);simp;repeat refine sdQ ?_
 refine hK _ ?_;clear hK K;refine tn (Q2 (st':=⟨Y03 x_ y_ [],Y04 c_ [],1⟩) (wkQ [(0,0)]) (Q0 (runQ hN λK hK=>?_)));simp;repeat refine sdQ ?_
 refine hK _ ?_;clear hK K;refine tn (Q2 (st':=⟨Y03 x_ y_ [(7,.own 1 0 0)],Y04 c_ [(1,.mix 1 [])],2⟩) (wkQ [(0,0),(1,1)]) (Q0 (Q0 (runQ hN λK hK=>?_))));simp;repeat refine sdQ ?_
 refine hK _ (tn (Q2 (st':=⟨Y03 x_ y_ [(7,.own 1 0 0),(8,iV 0)],Y04 c_ [(1,.mix 1 [])],2⟩) (wkQ [(0,0),(1,1)]) ?_));clear hK K;replace⟨e1,h,h1⟩:=bind_some h;refine Q9 (λb1:List Int=>⟨[(7,.own 0 0 b1.length)],[(0,rI b1)],1⟩) (λb1=>b1=e1) ?_ ?_
 ·refine Q5 (Qj h (λs11:List Int×Int=>⟨Y03 x_ y_ [(7,.own 1 0 s11.1.length),(8,iV s11.2)],Y04 c_ [(1,rI s11.1)],2⟩) (Q2Y ⟨Y03 x_ y_ [(7,.own 1 0 0),(8,iV 0)],Y04 c_ [(1,rI [])],2⟩ (nlQ []) (wkQ [(0,0),(1,1)])) ?_);clear h;intro k11 s11 c11 h hk11;refine Q0 (Q0 (runQ hN λK hK=>?_));simp;repeat refine sdQ ?_
  refine hK _ ?_;clear hK K;refine tn (Q7 rfl (λg=>?_) λg=>?_)
  ·have g12:s11.2<(c_.fr.length:Int):=gQ;clear g;replace h:=if_l g12 h;refine Q8 (tn (Q0 ?_));replace⟨e13,h,h13⟩:=bind_some h;refine Q9 (λb13:List Int=>⟨Y03 x_ y_ [(7,.own 1 0 b13.length),(8,iV s11.2)],Y04 c_ [(1,rI b13)],2⟩) (λb13=>b13=e13) ?_ ?_
   ·refine Q5 (Q0 ?_);replace⟨e14,h,h14⟩:=bind_some h;refine Q9 (λb14:Bool=>⟨Y03 x_ y_ [(7,.own 1 0 s11.1.length),(8,iV s11.2),(32,.val (.bool b14))],Y04 c_ [(1,rI s11.1)],2⟩) (λb14=>b14=e14) ?_ ?_
    ·refine runQ hN λK hK=>?_;replace⟨a15,h⟩:=Q1 h;simp[at_I a15];(repeat with_reducible refine sdQ ?_);refine Qa (λg=>?_) (λg=>?_)
     ·have g16:(ix c_.fr s11.2)=x_:=gQ;clear g;replace h:=if_l g16 h;replace⟨a17,h⟩:=Q1 h;simp[at_I a15,at_I a17];(repeat refine sdQ ?_);refine hK _ ?_;exact jn (b:=(ix c_.to s11.2)==y_) (yJ h) (wkQ [(0,0),(1,1)])
     have g16:¬((ix c_.fr s11.2)=x_):=gQ;clear g;replace h:=if_r g16 h;simp[at_I a15];(repeat refine sdQ ?_);refine hK _ ?_;exact jn (b:=false) (yJ h) (wkQ [(0,0),(1,1)])
    intro b14 hb14;have h:=h14;(try rw[←hb14]at h);clear h14;(try dsimp only at h);refine Q7 rfl (λg=>?_) λg=>?_
    ·have g18:b14=true:=gQ;clear g;replace h:=if_l g18 h;refine runQ hN λK hK=>?_;replace⟨a19,h⟩:=Q1 h;(try simp only[qD,qH,zX]at a19);simp[a19];(repeat refine sdQ ?_);refine hK _ (bn ?_);clear hK K;exact jn (b:=s11.1++[s11.2]) (yJ h) (wkQ [(0,0),(3,1)])
    have g18:¬(b14=true):=gQ;clear g;replace h:=if_r g18 h;refine Q8 (bn ?_);exact jn (b:=s11.1) (yJ h) (wkQ [(0,0),(1,1)])
   intro b13 hb13;have h:=h13;(try rw[←hb13]at h);clear h13;(try dsimp only at h);refine runQ hN λK hK=>?_;replace⟨a20,h⟩:=Q1 h;simp[Qh a20];(repeat refine sdQ ?_);refine hK _ ?_;clear hK K;cases h;exact rn (s':=(b13,s11.2+1)) hk11 (wkQ [(0,0),(1,1)])
  have g12:¬(s11.2<(c_.fr.length:Int)):=gQ;clear g;replace h:=if_r g12 h;refine Ql (tx (lx (bh ?_)));cases h;exact jn (b:=s11.1) hk11 (wkQ [(1,0)])
 intro b1 hb1;have h:=h1;try rw[←hb1]at h
 clear h1;try dsimp only at h
 refine Q0 (runQ hN λK hK=>?_);simp;repeat refine sdQ ?_
 refine hK _ (tn (Q2 (st':=⟨[(6,.own 0 0 b1.length)],[(0,rI b1)],1⟩) (wkQ [(0,0)]) (Qe ?_)));clear hK K;have hr:=yJ h;rw[←hr];refine⟨_,(.tmp .nil),?_⟩;refine⟨(.one rfl rfl .nil),[lI b1],[0],by simp[BN],by simp,(yN _)⟩
section
attribute [local simp] Qi QP Qv Q1l QN
def flt(n:Nat)(p:Nat→Prop):List Int:=((List.range n).filter λi=>bo (p i)).map Int.ofNat
theorem flt_pos{n:Nat}{p:Nat→Prop}(h:p n):flt (n+1) p=flt n p++[(n:Int)]:=by simp[flt,List.range_succ,Qk h]
theorem Q8e{n:Nat}{p:Nat→Prop}(h:¬p n):flt (n+1) p=flt n p:=by simp[flt,List.range_succ,Qd h]
theorem Q6U(n:Nat)(p:Nat→Prop):(flt n p).length≤n:=by
 unfold flt;rw[List.length_map];exact Nat.le_trans (List.length_filter_le _ _) (by simp)
theorem mem_flt{n:Nat}{p:Nat→Prop}{x:Int}:x∈flt n p↔∃i:Nat,i<n∧p i∧x=(i:Int):=by
 simp only[flt,List.mem_map,List.mem_filter,List.mem_range,bo_tt];constructor
 ·rintro ⟨i,⟨h1,h2⟩,rfl⟩;exact⟨i,h1,h2,rfl⟩
 rintro ⟨i,h1,h2,rfl⟩;exact⟨i,⟨h1,h2⟩,rfl⟩
theorem ix_flt{n:Nat}{p:Nat→Prop}{i:Nat}(h:i<(flt n p).length):∃k:Nat,k<n∧p k∧ix (flt n p) i=(k:Int):=by
 have:=yC h;rw[Q2e _ _ h]at this;exact mem_flt.1 this
theorem e_hom{c:Cat}(h:c.Is)(x y:Int):QR c x y=some (flt c.fr.length λa=>ix c.fr a=x∧ix c.to a=y):=by
 have k1:=h.1.lt;have k2:=h.1.m40;unfold QR;refine Q3D c.fr.length (λi=>flt i λa=>ix c.fr a=x∧ix c.to a=y) (e:=flt c.fr.length λa=>ix c.fr a=x∧ix c.to a=y) rfl (by omega) (λi hi=>?_) (by simp) rfl;have hl:=Q6U i λa=>ix c.fr a=x∧ix c.to a=y
 by_cases h1:ix c.fr i=x
 ·by_cases h2:ix c.to i=y
  ·rw[flt_pos ⟨h1,h2⟩];simp(disch:=omega) [Q4,B64,h1,h2];try omega
  rw[Q8e λq=>h2 q.2];simp(disch:=omega) [Q4,B64,h1,h2];try omega
 rw[Q8e λq=>h1 q.1];simp(disch:=omega) [Q4,B64,h1];try omega
end
section
attribute [local simp] Qi QP Qv Q1l QN
theorem Cat.Is.two{c:Cat}(h:c.Is){f g:Int}(f0:0≤f∧f<c.fr.length)(g0:0≤g∧g<c.fr.length)(e:ix c.to f=ix c.fr g):(0≤ix (rx c.cs f) g∧ix (rx c.cs f) g<c.fr.length)∧ix c.fr (ix (rx c.cs f) g)=ix c.fr f∧ix c.to (ix (rx c.cs f) g)=ix c.to g:=by
 have:=(h.1.cell' f0.1 f0.2 g0.1 g0.2).2 e;exact⟨⟨this.1,this.2.1⟩,this.2.2⟩
theorem Q8Y{c:Cat}(h:c.Is){f g:Int}(f0:0≤f∧f<c.fr.length)(g0:0≤g∧g<c.fr.length):Q1A c f g=some (ix (rx c.cs f) g)∧Qq c f g=some (ix (rx c.cs f) g):=by
 have h1:=h.1.lc;have h2:=h.1.row' f0.1 f0.2;exact⟨e_l02Then (by omega) (by omega),Q8b (by omega) (by omega)⟩
end
section
attribute [local simp] Qi QP Qv Q1l QN
abbrev Ar(c:Cat)(f x y:Int):Prop:=(0≤f∧f<(c.fr.length:Int))∧ix c.fr f=x∧ix c.to f=y
theorem Ar.two{c:Cat}(hc:c.Is){f g x y z:Int}(h1:Ar c f x y)(h2:Ar c g y z):Ar c (ix (rx c.cs f) g) x z:=by
 have:=hc.two h1.1 h2.1 (by rw[h1.2.2,h2.2.1]);exact⟨this.1,by rw[this.2.1,h1.2.1],by rw[this.2.2,h2.2.2]⟩
theorem Ar.thn{c:Cat}(hc:c.Is){f g x y z:Int}(h1:Ar c f x y)(h2:Ar c g y z):Q1A c f g=some (ix (rx c.cs f) g)∧Qq c f g=some (ix (rx c.cs f) g):=Q8Y hc h1.1 h2.1
end
attribute [local simp] unk unA unE unT unC flat eL eI Qc QS Cat.cells
def Q2V(c_:Cat)(x_:Int):Option Bool:=
 (
  if x_≥0 then
   some (decide (x_<c_.n))
  else
   some false:Option (Bool)).bind λb1=>
 some b1
theorem Q7h(c_:Cat)(x_:Int)(r:Bool)(h:Q2V c_ x_=some r):Contract Try.prog 113 [.agg (c_.cells true),iV x_] (.val (.bool r)):=by
 refine Q6 (rvs:=[.tmp 4]) (rs:=[.val (.bool r)]) Try.func113 rfl rfl rfl rfl (by simp[Try.f113]) λF hN hP=>?_;unfold Q2V at h;refine Q0 (runQ hN λK hK=>?_);simp;repeat refine sdQ ?_
 refine hK _ (tn (Q2 (st':=⟨(1,iV x_)::YA [],Y04 c_ [],1⟩) (wkQ [(0,0)]) (Q0 ?_)));clear hK K;replace⟨e1,h,h1⟩:=bind_some h;refine Q9 (λb1:Bool=>⟨[(4,.val (.bool b1))],[],0⟩) (λb1=>b1=e1) ?_ ?_
 ·refine runQ hN λK hK=>?_;simp;repeat with_reducible refine sdQ ?_
  refine Qa (λg=>?_) (λg=>?_)
  ·have g2:x_≥0:=gQ;clear g;replace h:=if_l g2 h;simp;(repeat refine sdQ ?_);refine hK _ ?_;exact jn (b:=decide (x_<c_.n)) (yJ h) (wkQ [])
  have g2:¬(x_≥0):=gQ;clear g;replace h:=if_r g2 h;simp;repeat refine sdQ ?_
  refine hK _ ?_;exact jn (b:=false) (yJ h) (wkQ [])
 intro b1 hb1;have h:=h1;try rw[←hb1]at h
 clear h1;try dsimp only at h
 refine Qe ?_;have hr:=yJ h;rw[←hr];refine⟨_,(.tmp .nil),?_⟩;refine⟨(.one rfl rfl .nil),[.val (.bool b1)],[],by simp[BN],by simp,(yN _)⟩
section
attribute [local simp] Qi QP Qv Q1l QN
theorem chkI{ε β:Type}{body:Int→Option (Ctl Int ε)}{K:ε→Option β}{r:Option β}(n:Nat)(p:Nat→Prop)(eb eg:ε)(hn:n<4611686018427387904)(h:∀i:Nat,i<n→body (i:Int)=if bo (p i)=true then some (.next ((i:Int)+1))else some (.ret eb))(h3:body (n:Int)=some (.ret eg))(hk:K (if bo (∀i:Nat,i<n→p i)=true then eg else eb)=r):(Qo body fuel 0).bind K=r:=by
 rw[Q9a n p (eb:=eb) (eg:=eg) hn (λi hi q=>by rw[h i hi,Qk q];simp) (λi hi q=>by rw[h i hi,Qd q];simp) h3,yA,←hk]
 congr 1
 by_cases q:∀i:Nat,i<n→p i
 ·rw[if_pos q,Qk q];simp
 rw[if_neg q,Qd q];simp
theorem Cat.Is.nums{c:Cat}(h:c.Is):0≤c.n∧c.n≤8∧c.fr.length≤40∧c.to.length=c.fr.length∧c.cs.length=c.fr.length∧(c.id.length:Int)=c.n:=⟨h.1.n0,h.1.n8,h.1.m40,h.1.lt,h.1.lc,h.1.li⟩
theorem Cat.Is.ends{c:Cat}(h:c.Is){a:Int}(ha:0≤a∧a<(c.fr.length:Int)):(0≤ix c.fr a∧ix c.fr a<c.n)∧(0≤ix c.to a∧ix c.to a<c.n):=by
 have:=h.1.fr' ha.1 ha.2;have:=h.1.to' ha.1 ha.2;have:=h.1.li;omega
theorem Cat.Is.comp{c:Cat}(h:c.Is){a b:Int}(ha:0≤a∧a<(c.fr.length:Int))(hb:0≤b∧b<(c.fr.length:Int))(h0:0≤ix (rx c.cs a) b):
  ix c.to a=ix c.fr b∧ix (rx c.cs a) b<(c.fr.length:Int)∧ix c.fr (ix (rx c.cs a) b)=ix c.fr a∧ix c.to (ix (rx c.cs a) b)=ix c.to b:=by
 by_cases e:ix c.to a=ix c.fr b
 ·have q:=h.two ha hb e;exact⟨e,q.1.2,q.2.1,q.2.2⟩
 have:=(h.1.cell' ha.1 ha.2 hb.1 hb.2).1 e;omega
theorem QW{p:Prop}(h:p):¬¬p:=λq=>q h
end
attribute [local simp] unk unA unE unT unC flat eL eI Qc
def Q2Z(list_:List (List Int))(i_:Int):Option (List Int):=
 (Qo (σ:=List Int×Int) (ε:=List Int) (λs7=>
  if s7.2<(list_.length:Int)then
   ass (0≤s7.2∧s7.2<(list_.length:Int))<|
   ass (0≤i_∧i_<((rx list_ s7.2).length:Int))<|
   ass ((s7.1++[ix (rx list_ s7.2) i_]).length≤1073741824)<|
   ass (B64 (s7.2+1))<|
   some (yO (s7.1++[ix (rx list_ s7.2) i_],s7.2+1))
  else
   some (yM s7.1)) fuel ([],0)).bind λb1=>
 some b1
@[simp] abbrev YB(a:List (List Int))(b:List (Nat×AV)):List (Nat×AV):=(0,.lst true 1 (Ls a))::b
@[simp] abbrev Y0B(a:List (List Int))(b:List (Nat×AV)):List (Nat×AV):=(9,.lst true 1 (Ls a))::(10,iV (a.length:Int))::b
theorem Q6K(list_:List (List Int))(i_:Int)(r:List Int)(h:Q2Z list_ i_=some r):Contract Try.prog 103 (Y0W list_ [iV i_]) (lI r):=by
 refine Q6 (rvs:=[.tmp 4]) (rs:=[lI r]) Try.func103 rfl rfl rfl rfl (by simp[Try.f103]) λF hN hP=>?_;unfold Q2Z at h;refine Q0 (runQ hN λK hK=>?_);simp;repeat refine sdQ ?_
 refine hK _ ?_;clear hK K;refine tn (Q2 (st':=⟨YB list_ [(1,iV i_)],[],0⟩) (wkQ []) (Q0 (runQ hN λK hK=>?_)));simp;repeat refine sdQ ?_
 refine hK _ ?_;clear hK K;refine tn (Q2 (st':=⟨YB list_ [(1,iV i_),(5,.own 0 0 0)],[(0,.mix 1 [])],1⟩) (wkQ [(0,0)]) (Q0 (Q0 (runQ hN λK hK=>?_))));simp;repeat refine sdQ ?_
 refine hK _ (tn (Q2 (st':=⟨(1,iV i_)::(5,.own 0 0 0)::Y0B list_ [(11,iV 0)],[(0,.mix 1 [])],1⟩) (wkQ [(0,0)]) ?_));clear hK K;replace⟨e1,h,h1⟩:=bind_some h;refine Q9 (λb1:List Int=>⟨[(5,.own 0 0 b1.length)],[(0,rI b1)],1⟩) (λb1=>b1=e1) ?_ ?_
 ·refine Q5 (Qj h (λs7:List Int×Int=>⟨(1,iV i_)::(5,.own 0 0 s7.1.length)::Y0B list_ [(11,iV s7.2)],[(0,rI s7.1)],1⟩) (Q2Y ⟨(1,iV i_)::(5,.own 0 0 0)::Y0B list_ [(11,iV 0)],[(0,rI [])],1⟩ (nlQ []) (wkQ [(0,0)])) ?_);clear h;intro k7 s7 c7 h hk7;refine Q0 (runQ hN λK hK=>?_);simp;repeat refine sdQ ?_
  refine hK _ ?_;clear hK K;refine tn (Q0 (Q7 rfl (λg=>?_) λg=>?_))
  ·have g8:s7.2<(list_.length:Int):=gQ;clear g;replace h:=if_l g8 h;refine Q8 (tn (Q0 (Q5 (Q0 (runQ hN λK hK=>?_)))));replace⟨a9,h⟩:=Q1 h;simp[at_L a9];(repeat refine sdQ ?_);refine hK _ ?_;clear hK K;refine tn (Q2 (st':=⟨(1,iV i_)::(5,.own 0 0 s7.1.length)::(7,lI (rx list_ s7.2))::Y0B list_ [(11,iV s7.2)],[(0,rI s7.1)],1⟩) (wkQ [(0,0)]) (runQ hN λK hK=>?_));replace⟨a10,h⟩:=Q1 h;replace⟨a11,h⟩:=Q1 h;(try simp only[qD,qH,zX]at a11);simp[at_I a10,a11];(repeat refine sdQ ?_);refine hK _ ?_;clear hK K;refine bn (tn (Q2 (st':=⟨(1,iV i_)::(5,.own 0 0 ((s7.1++[ix (rx list_ s7.2) i_]).length))::Y0B list_ [(11,iV s7.2)],[(0,rI (s7.1++[ix (rx list_ s7.2) i_]))],1⟩) (wkQ [(2,0)]) (runQ hN λK hK=>?_)));replace⟨a12,h⟩:=Q1 h;simp[Qh a12];(repeat refine sdQ ?_);refine hK _ ?_;clear hK K;cases h;exact rn (s':=(s7.1++[ix (rx list_ s7.2) i_],s7.2+1)) hk7 (wkQ [(0,0)])
  have g8:¬(s7.2<(list_.length:Int)):=gQ;clear g;replace h:=if_r g8 h;refine Ql (tx (lx (bh ?_)));cases h;exact jn (b:=s7.1) hk7 (wkQ [(0,0)])
 intro b1 hb1;have h:=h1;try rw[←hb1]at h
 clear h1;try dsimp only at h
 refine Q0 (runQ hN λK hK=>?_);simp;repeat refine sdQ ?_
 refine hK _ (tn (Q2 (st':=⟨[(4,.own 0 0 b1.length)],[(0,rI b1)],1⟩) (wkQ [(0,0)]) (Qe ?_)));clear hK K;have hr:=yJ h;rw[←hr];refine⟨_,(.tmp .nil),?_⟩;refine⟨(.one rfl rfl .nil),[lI b1],[0],by simp[BN],by simp,(yN _)⟩
section
attribute [local simp] Qi QP Qv Q1l QN
theorem Q9Z{α β:Type}[DecidableEq α](k k':α)(v:β)(m:List (α×β)):Q6a k (tset k' v m)=if k'=k then some v else Q6a k m:=by
 induction m with
 |nil=>simp[tset,Q6a]
 |cons p r ih=>
  obtain⟨a,x⟩:=p;unfold tset
  by_cases h:a=k'
  ·subst h;rw[if_pos rfl]
   by_cases h2:a=k<;>simp[Q6a,h2]
  rw[if_neg h];simp only[Q6a,ih]
  by_cases h2:a=k
  ·subst h2;rw[if_pos rfl,if_pos rfl,if_neg (λe=>h e.symm)]
  rw[if_neg h2,if_neg h2]
theorem at_rxm{L:List (List Int)}{i:Nat}(h:i<L.length):rx L i∈L:=by
 rw[←Q3h _ _ h];exact yC h
theorem flt_nodup(n:Nat)(p:Nat→Prop):(flt n p).Nodup:=by
 unfold flt;refine List.Pairwise.map (R:=λa b=>a≠b) Int.ofNat (λa b h e=>h (Int.ofNat.inj e)) ?_;exact List.nodup_range.filter _
theorem Q8J{L:List (List Int)}{i:Nat}(h:i<L.length):L.take (i+1)=L.take i++[rx L i]:=by rw[List.take_succ_eq_append_getElem h,Q3h _ _ h]
end
section
attribute [local simp] Qi QP Qv Q1l QN
structure NT(f g:Fn):Prop where
 hf:f.Is
 hg:g.Is
 e:f.t=g.t
end
attribute [local simp] unk unA unE unT unC flat eL eI Qc
def Q1a(table_:List (List Int))(unit_:Int):Option Bool:=
 (Qo (σ:=Int) (ε:=Unit⊕Bool) (λs65=>
  if s65<(table_.length:Int)then
   (
    (
     ass (0≤s65∧s65<(table_.length:Int))<|
     ass (0≤unit_∧unit_<((rx table_ s65).length:Int))<|
     if¬((ix (rx table_ s65) unit_)=s65)then
      some true
     else
      ass (0≤unit_∧unit_<(table_.length:Int))<|
      ass (0≤s65∧s65<((rx table_ unit_).length:Int))<|
      some ((ix (rx table_ unit_) s65)!=s65):Option (Bool)).bind λb68=>
    if b68=true then
     some (yL false)
    else
     (Qo (σ:=Int) (ε:=Bool⊕Unit) (λs101=>
      if s101<(table_.length:Int)then
       (
        (Qo (σ:=Int) (ε:=Bool⊕Unit) (λs115=>
         if s115<(table_.length:Int)then
          ass (0≤s65∧s65<(table_.length:Int))<|
          ass (0≤s101∧s101<((rx table_ s65).length:Int))<|
          ass (0≤ix (rx table_ s65) s101∧ix (rx table_ s65) s101<(table_.length:Int))<|
          ass (0≤s115∧s115<((rx table_ (ix (rx table_ s65) s101)).length:Int))<|
          ass (0≤s65∧s65<(table_.length:Int))<|
          ass (0≤s101∧s101<(table_.length:Int))<|
          ass (0≤s115∧s115<((rx table_ s101).length:Int))<|
          ass (0≤ix (rx table_ s101) s115∧ix (rx table_ s101) s115<((rx table_ s65).length:Int))<|
          if¬((ix (rx table_ (ix (rx table_ s65) s101)) s115)=(ix (rx table_ s65) (ix (rx table_ s101) s115)))then
           some (yM (yK false))
          else
           ass (B64 (s115+1))<|
           some (yO (s115+1))
         else
          some (yM (yL ()))) fuel 0).bind λe115=>
        match e115 with
        | .inl p115=>
         some (yL p115)
        | .inr p115=>
         some (yK p115):Option (Unit⊕Bool)).bind λe103=>
       match e103 with
       | .inl b103=>
        ass (B64 (s101+1))<|
        some (yO (s101+1))
       | .inr p103=>
        some (yM (yK p103))
      else
       some (yM (yL ()))) fuel 0).bind λe101=>
     match e101 with
     | .inl p101=>
      some (yL p101)
     | .inr p101=>
      some (yK p101):Option (Unit⊕Bool)).bind λe67=>
   match e67 with
   | .inl b67=>
    ass (B64 (s65+1))<|
    some (yO (s65+1))
   | .inr p67=>
    some (yM (yL p67))
  else
   some (yM (yK ()))) fuel 0).bind λe1=>
 match e1 with
 | .inl b1=>
  some true
 | .inr p1=>
  some p1
@[simp] abbrev Y0e(a:List (List Int))(b:Int)(c:List (Nat×AV)):List (Nat×AV):=(9,iV (a.length:Int))::(10,iV b)::(34,iV (a.length:Int))::c
@[simp] abbrev Y0r(a:List (Nat×AV)):List (Nat×AV):=(4,.val (.bool false))::a
theorem Q3B(table_:List (List Int))(unit_:Int)(r:Bool)(h:Q1a table_ unit_=some r):Contract Try.prog 111 (Y0W table_ [iV unit_]) (.val (.bool r)):=by
 refine Q6 (rvs:=[.tmp 4]) (rs:=[.val (.bool r)]) Try.func111 rfl rfl rfl rfl (by simp[Try.f111]) λF hN hP=>?_;unfold Q1a at h;refine Q0 (runQ hN λK hK=>?_);simp;repeat refine sdQ ?_
 refine hK _ ?_;clear hK K;refine tn (Q2 (st':=⟨YB table_ [(1,iV unit_)],[],0⟩) (wkQ []) (Q0 (Q0 (runQ hN λK hK=>?_))));simp;repeat refine sdQ ?_
 refine hK _ (tn (Q2 (st':=⟨YB table_ [(1,iV unit_),(9,iV (table_.length:Int)),(10,iV 0)],[],0⟩) (wkQ []) ?_));clear hK K;replace⟨e1,h,h1⟩:=bind_some h;refine Q9 (λb1:Unit=>⟨[],[],0⟩) (λb1=>yK b1=e1) ?_ ?_
 ·refine Q5 (Qj h (λs65:Int=>⟨YB table_ [(1,iV unit_),(9,iV (table_.length:Int)),(10,iV s65)],[],0⟩) (wkQ []) ?_);clear h;intro k65 s65 c65 h hk65;refine Q0 (runQ hN λK hK=>?_);simp;repeat refine sdQ ?_
  refine hK _ ?_;clear hK K;refine tn (Q0 (Q7 rfl (λg=>?_) λg=>?_))
  ·have g66:s65<(table_.length:Int):=gQ;clear g;replace h:=if_l g66 h;refine Q8 (tn (Q0 ?_));replace⟨e67,h,h67⟩:=bind_some h;refine Q9 (λb67:Unit=>⟨YB table_ [(1,iV unit_),(9,iV (table_.length:Int)),(10,iV s65)],[],0⟩) (λb67=>yK b67=e67) ?_ ?_
   ·refine Q5 (Q0 (runQ hN λK hK=>?_));simp;(repeat refine sdQ ?_);refine hK _ (tn (Q2 (st':=⟨YB table_ [(1,iV unit_),(5,iV s65),(9,iV (table_.length:Int)),(10,iV s65)],[],0⟩) (wkQ []) (Q0 (Q0 ?_))));clear hK K;replace⟨e68,h,h68⟩:=bind_some h;refine Q9 (λb68:Bool=>⟨YB table_ [(1,iV unit_),(5,iV s65),(9,iV (table_.length:Int)),(10,iV s65),(32,.val (.bool b68))],[],0⟩) (λb68=>b68=e68) ?_ ?_
    ·refine runQ hN λK hK=>?_;replace⟨a69,h⟩:=Q1 h;replace⟨a70,h⟩:=Q1 h;simp[at_L a69,at_I a70];(repeat with_reducible refine sdQ ?_);refine Qa (λg=>?_) (λg=>?_)
     ·have g71:¬(¬((ix (rx table_ s65) unit_)=s65)):=gQ;clear g;replace h:=if_r g71 h;replace⟨a72,h⟩:=Q1 h;replace⟨a73,h⟩:=Q1 h;simp[at_L a69,at_I a70,at_L a72,at_I a73];(repeat refine sdQ ?_);refine hK _ ?_;exact jn (b:=(ix (rx table_ unit_) s65)!=s65) (yJ h) (wkQ [])
     have g71:¬((ix (rx table_ s65) unit_)=s65):=gQ;clear g;replace h:=if_l g71 h;simp[at_L a69,at_I a70];(repeat refine sdQ ?_);refine hK _ ?_;exact jn (b:=true) (yJ h) (wkQ [])
    intro b68 hb68;have h:=h68;(try rw[←hb68]at h);clear h68;(try dsimp only at h);refine Q7 rfl (λg=>?_) λg=>?_
    ·have g74:b68=true:=gQ;clear g;replace h:=if_l g74 h;refine Q0 (runQ hN λK hK=>?_);simp;(repeat refine sdQ ?_);refine hK _ (tn (Q2 (st':=⟨Y0r [],[],0⟩) (wkQ []) (Qe (tr (br (tr (lr (br (tr ?_)))))))));clear hK K;cases h;have h:=h67;(try dsimp only at h);cases h;have q:_=e1:=hk65;have h:=h1;rw[←q]at h;clear q;(try dsimp only at h);have hr:=yJ h;rw[←hr];refine⟨_,(.tmp .nil),?_⟩;refine⟨(.one rfl rfl .nil),[.val (.bool false)],[],by simp[BN],by simp,(yN _)⟩
    have g74:¬(b68=true):=gQ;clear g;replace h:=if_r g74 h;refine Q8 (tn (Q0 (runQ hN λK hK=>?_)));simp;(repeat refine sdQ ?_);refine hK _ (tn (Q2 (st':=⟨YB table_ ((1,iV unit_)::(5,iV s65)::Y0e table_ s65 [(35,iV 0)]),[],0⟩) (wkQ []) (Q5 ?_)));clear hK K;replace⟨e101,he101,h101⟩:=bind_some h;refine Qj he101 (λs101:Int=>⟨YB table_ ((1,iV unit_)::(5,iV s65)::Y0e table_ s65 [(35,iV s101)]),[],0⟩) (wkQ []) ?_;intro k101 s101 c101 h hk101;refine Q0 (runQ hN λK hK=>?_);simp;(repeat refine sdQ ?_);refine hK _ ?_;clear hK K;refine tn (Q0 (Q7 rfl (λg=>?_) λg=>?_))
    ·have g102:s101<(table_.length:Int):=gQ;clear g;replace h:=if_l g102 h;refine Q8 (tn (Q0 ?_));replace⟨e103,h,h103⟩:=bind_some h;refine Q9 (λb103:Unit=>⟨YB table_ ((1,iV unit_)::(5,iV s65)::Y0e table_ s65 [(35,iV s101)]),[],0⟩) (λb103=>yK b103=e103) ?_ ?_
     ·refine Q5 (Q0 (runQ hN λK hK=>?_));simp;(repeat refine sdQ ?_);refine hK _ ?_;clear hK K;refine tn (Q2 (st':=⟨YB table_ ((1,iV unit_)::(5,iV s65)::(6,iV s101)::Y0e table_ s65 [(35,iV s101)]),[],0⟩) (wkQ []) (Q0 (runQ hN λK hK=>?_)));simp;(repeat refine sdQ ?_);refine hK _ (tn (Q2 (st':=⟨YB table_ ((1,iV unit_)::(5,iV s65)::(6,iV s101)::Y0e table_ s65 [(35,iV s101),(39,iV (table_.length:Int)),(40,iV 0)]),[],0⟩) (wkQ []) (Q5 ?_)));clear hK K;replace⟨e115,he115,h115⟩:=bind_some h;refine Qj he115 (λs115:Int=>⟨YB table_ ((1,iV unit_)::(5,iV s65)::(6,iV s101)::Y0e table_ s65 [(35,iV s101),(39,iV (table_.length:Int)),(40,iV s115)]),[],0⟩) (wkQ []) ?_;intro k115 s115 c115 h hk115;refine Q0 (runQ hN λK hK=>?_);simp;(repeat refine sdQ ?_);refine hK _ ?_;clear hK K;refine tn (Q0 (Q7 rfl (λg=>?_) λg=>?_))
      ·have g116:s115<(table_.length:Int):=gQ;clear g;replace h:=if_l g116 h;refine Q8 (tn (Q0 (Q5 (Q0 (runQ hN λK hK=>?_)))));simp;(repeat refine sdQ ?_);refine hK _ ?_;clear hK K;refine tn (Q2 (st':=⟨YB table_ ((1,iV unit_)::(5,iV s65)::(6,iV s101)::(7,iV s115)::Y0e table_ s65 [(35,iV s101),(39,iV (table_.length:Int)),(40,iV s115)]),[],0⟩) (wkQ []) (Q0 (runQ hN λK hK=>?_)));replace⟨a117,h⟩:=Q1 h;replace⟨a118,h⟩:=Q1 h;replace⟨a119,h⟩:=Q1 h;replace⟨a120,h⟩:=Q1 h;replace⟨a121,h⟩:=Q1 h;replace⟨a122,h⟩:=Q1 h;replace⟨a123,h⟩:=Q1 h;replace⟨a124,h⟩:=Q1 h;simp[at_L a117,at_I a118,at_L a119,at_I a120,at_L a121,at_L a122,at_I a123,at_I a124];(repeat refine sdQ ?_);refine hK _ ?_;clear hK K;refine tn (Q7 rfl (λg=>?_) λg=>?_)
       ·have g125:¬((ix (rx table_ (ix (rx table_ s65) s101)) s115)=(ix (rx table_ s65) (ix (rx table_ s101) s115))):=gQ;clear g;replace h:=if_l g125 h;refine Q0 (runQ hN λK hK=>?_);simp;(repeat refine sdQ ?_);refine hK _ (tn (Q2 (st':=⟨Y0r [],[],0⟩) (wkQ []) (Qe (br (tr (lr (br (br (tr (lr (br (br (tr (lr (br (tr ?_))))))))))))))));clear hK K;cases h;have q:_=e115:=hk115;have h:=h115;rw[←q]at h;clear q;(try dsimp only at h);cases h;have h:=h103;(try dsimp only at h);cases h;have q:_=e101:=hk101;have h:=h101;rw[←q]at h;clear q;(try dsimp only at h);cases h;have h:=h67;(try dsimp only at h);cases h;have q:_=e1:=hk65;have h:=h1;rw[←q]at h;clear q;(try dsimp only at h);have hr:=yJ h;rw[←hr];refine⟨_,(.tmp .nil),?_⟩;refine⟨(.one rfl rfl .nil),[.val (.bool false)],[],by simp[BN],by simp,(yN _)⟩
       have g125:¬(¬((ix (rx table_ (ix (rx table_ s65) s101)) s115)=(ix (rx table_ s65) (ix (rx table_ s101) s115)))):=gQ;clear g;replace h:=if_r g125 h;refine Q8 (bn (tn (runQ hN λK hK=>?_)));replace⟨a126,h⟩:=Q1 h;simp[Qh a126];(repeat refine sdQ ?_);refine hK _ ?_;clear hK K;cases h;exact rn (s':=s115+1) hk115 (wkQ [])
      have g116:¬(s115<(table_.length:Int)):=gQ;clear g;replace h:=if_r g116 h;refine Ql (tx (lx (bh (bn ?_))));cases h;have q:_=e115:=hk115;have h:=h115;rw[←q]at h;clear q;(try dsimp only at h);exact jn (b:=()) (yJ h) (wkQ [])
     intro b103 hb103;have h:=h103;(try rw[←hb103]at h);clear h103;(try dsimp only at h);refine runQ hN λK hK=>?_;replace⟨a127,h⟩:=Q1 h;simp[Qh a127];(repeat refine sdQ ?_);refine hK _ ?_;clear hK K;cases h;exact rn (s':=s101+1) hk101 (wkQ [])
    have g102:¬(s101<(table_.length:Int)):=gQ;clear g;replace h:=if_r g102 h;refine Ql (tx (lx (bh (bn ?_))));cases h;have q:_=e101:=hk101;have h:=h101;rw[←q]at h;clear q;(try dsimp only at h);exact jn (b:=()) (yJ h) (wkQ [])
   intro b67 hb67;have h:=h67;(try rw[←hb67]at h);clear h67;(try dsimp only at h);refine runQ hN λK hK=>?_;replace⟨a128,h⟩:=Q1 h;simp[Qh a128];(repeat refine sdQ ?_);refine hK _ ?_;clear hK K;cases h;exact rn (s':=s65+1) hk65 (wkQ [])
  have g66:¬(s65<(table_.length:Int)):=gQ;clear g;replace h:=if_r g66 h;refine Ql (tx (lx (bh ?_)));cases h;exact jn (b:=()) hk65 (wkQ [])
 intro b1 hb1;have h:=h1;try rw[←hb1]at h
 clear h1;try dsimp only at h
 refine Q0 (runQ hN λK hK=>?_);simp;repeat refine sdQ ?_
 refine hK _ (tn (Q2 (st':=⟨[(4,.val (.bool true))],[],0⟩) (wkQ []) (Qe ?_)));clear hK K;have hr:=yJ h;rw[←hr];refine⟨_,(.tmp .nil),?_⟩;refine⟨(.one rfl rfl .nil),[.val (.bool true)],[],by simp[BN],by simp,(yN _)⟩
attribute [local simp] unk unA unE unT unC flat eL eI Qc
def Q2y(list_:List (List Int))(n_:Int):Option Bool:=
 if¬((list_.length:Int)=n_)then
  some false
 else
  (Qo (σ:=Int) (ε:=Unit⊕Bool) (λs10=>
   if s10<(list_.length:Int)then
    ass (0≤s10∧s10<(list_.length:Int))<|
    (
     if¬(((rx list_ s10).length:Int)=n_)then
      some true
     else
      (Q1v (rx list_ s10) n_).bind λv15=>
      some (!v15):Option (Bool)).bind λb13=>
    if b13=true then
     some (yM (yL false))
    else
     ass (B64 (s10+1))<|
     some (yO (s10+1))
   else
    some (yM (yK ()))) fuel 0).bind λe2=>
  match e2 with
  | .inl b2=>
   some true
  | .inr p2=>
   some p2
theorem Q6c(list_:List (List Int))(n_:Int)(r:Bool)(h:Q2y list_ n_=some r):Contract Try.prog 109 (Y0W list_ [iV n_]) (.val (.bool r)):=by
 refine Q6 (rvs:=[.tmp 4]) (rs:=[.val (.bool r)]) Try.func109 rfl rfl rfl rfl (by simp[Try.f109]) λF hN hP=>?_;unfold Q2y at h;refine Q0 (runQ hN λK hK=>?_);simp;repeat refine sdQ ?_
 refine hK _ ?_;clear hK K;refine tn (Q2 (st':=⟨YB list_ [(1,iV n_)],[],0⟩) (wkQ []) (Q0 (Q0 (runQ hN λK hK=>?_))));simp;repeat refine sdQ ?_
 refine hK _ ?_;clear hK K;refine tn (Q7 rfl (λg=>?_) λg=>?_)
 ·have g1:¬((list_.length:Int)=n_):=gQ;clear g;replace h:=if_l g1 h;refine Q0 (runQ hN λK hK=>?_);simp;repeat refine sdQ ?_
  refine hK _ (tn (Q2 (st':=⟨Y0r [],[],0⟩) (wkQ []) (Qe (tr ?_))));clear hK K;have hr:=yJ h;rw[←hr];refine⟨_,(.tmp .nil),?_⟩;refine⟨(.one rfl rfl .nil),[.val (.bool false)],[],by simp[BN],by simp,(yN _)⟩
 have g1:¬(¬((list_.length:Int)=n_)):=gQ;clear g;replace h:=if_r g1 h;refine Q8 (tn (Q0 (Q0 (runQ hN λK hK=>?_))));simp;repeat refine sdQ ?_
 refine hK _ (tn (Q2 (st':=⟨[(1,iV n_),(11,.lst true 1 (Ls list_)),(12,iV (list_.length:Int)),(13,iV 0)],[],0⟩) (wkQ []) ?_));clear hK K;replace⟨e2,h,h2⟩:=bind_some h;refine Q9 (λb2:Unit=>⟨[],[],0⟩) (λb2=>yK b2=e2) ?_ ?_
 ·refine Q5 (Qj h (λs10:Int=>⟨[(1,iV n_),(11,.lst true 1 (Ls list_)),(12,iV (list_.length:Int)),(13,iV s10)],[],0⟩) (wkQ []) ?_);clear h;intro k10 s10 c10 h hk10;refine Q0 (runQ hN λK hK=>?_);simp;repeat refine sdQ ?_
  refine hK _ ?_;clear hK K;refine tn (Q0 (Q7 rfl (λg=>?_) λg=>?_))
  ·have g11:s10<(list_.length:Int):=gQ;clear g;replace h:=if_l g11 h;refine Q8 (tn (Q0 (Q5 (Q0 (runQ hN λK hK=>?_)))));replace⟨a12,h⟩:=Q1 h;simp[at_L a12];(repeat refine sdQ ?_);refine hK _ (tn (Q2 (st':=⟨[(1,iV n_),(6,lI (rx list_ s10)),(11,.lst true 1 (Ls list_)),(12,iV (list_.length:Int)),(13,iV s10)],[],0⟩) (wkQ []) (Q0 ?_)));clear hK K;replace⟨e13,h,h13⟩:=bind_some h;refine Q9 (λb13:Bool=>⟨[(1,iV n_),(11,.lst true 1 (Ls list_)),(12,iV (list_.length:Int)),(13,iV s10),(26,.val (.bool b13))],[],0⟩) (λb13=>b13=e13) ?_ ?_
   ·refine runQ hN λK hK=>?_;simp;(repeat with_reducible refine sdQ ?_);refine Qa (λg=>?_) (λg=>?_)
    ·have g14:¬(¬(((rx list_ s10).length:Int)=n_)):=gQ;clear g;replace h:=if_r g14 h;simp;(repeat with_reducible refine sdQ ?_);replace⟨v15,hv15,h⟩:=bind_some h;refine Q3 (Q4k _ _ v15 hv15) (.cons .lst (.cons .val .nil)) ?_;simp;(repeat refine sdQ ?_);refine hK _ ?_;exact jn (b:=!v15) (yJ h) (wkQ [])
    have g14:¬(((rx list_ s10).length:Int)=n_):=gQ;clear g;replace h:=if_l g14 h;simp;(repeat refine sdQ ?_);refine hK _ ?_;exact jn (b:=true) (yJ h) (wkQ [])
   intro b13 hb13;have h:=h13;(try rw[←hb13]at h);clear h13;(try dsimp only at h);refine Q7 rfl (λg=>?_) λg=>?_
   ·have g16:b13=true:=gQ;clear g;replace h:=if_l g16 h;refine Q0 (runQ hN λK hK=>?_);simp;(repeat refine sdQ ?_);refine hK _ (tn (Q2 (st':=⟨Y0r [],[],0⟩) (wkQ []) (Qe (br (tr (lr (br (tr ?_))))))));clear hK K;cases h;have q:_=e2:=hk10;have h:=h2;rw[←q]at h;clear q;(try dsimp only at h);have hr:=yJ h;rw[←hr];refine⟨_,(.tmp .nil),?_⟩;refine⟨(.one rfl rfl .nil),[.val (.bool false)],[],by simp[BN],by simp,(yN _)⟩
   have g16:¬(b13=true):=gQ;clear g;replace h:=if_r g16 h;refine Q8 (bn (tn (runQ hN λK hK=>?_)));replace⟨a17,h⟩:=Q1 h;simp[Qh a17];(repeat refine sdQ ?_);refine hK _ ?_;clear hK K;cases h;exact rn (s':=s10+1) hk10 (wkQ [])
  have g11:¬(s10<(list_.length:Int)):=gQ;clear g;replace h:=if_r g11 h;refine Ql (tx (lx (bh ?_)));cases h;exact jn (b:=()) hk10 (wkQ [])
 intro b2 hb2;have h:=h2;try rw[←hb2]at h
 clear h2;try dsimp only at h
 refine Q0 (runQ hN λK hK=>?_);simp;repeat refine sdQ ?_
 refine hK _ (tn (Q2 (st':=⟨[(4,.val (.bool true))],[],0⟩) (wkQ []) (Qe ?_)));clear hK K;have hr:=yJ h;rw[←hr];refine⟨_,(.tmp .nil),?_⟩;refine⟨(.one rfl rfl .nil),[.val (.bool true)],[],by simp[BN],by simp,(yN _)⟩
attribute [local simp] unk unA unE unT unC flat eL eI Qc
def Q1p(table_:List (List Int))(bound_:Int):Option Bool:=
 (Qo (σ:=Int) (ε:=Unit⊕Bool) (λs10=>
  if s10<(table_.length:Int)then
   (
    ass (0≤s10∧s10<(table_.length:Int))<|
    if¬(((rx table_ s10).length:Int)=(table_.length:Int))then
     some true
    else
     ass (0≤s10∧s10<(table_.length:Int))<|
     (Q1i bound_ (rx table_ s10)).bind λv16=>
     some (!v16):Option (Bool)).bind λb12=>
   if b12=true then
    some (yM (yL false))
   else
    ass (B64 (s10+1))<|
    some (yO (s10+1))
  else
   some (yM (yK ()))) fuel 0).bind λe1=>
 match e1 with
 | .inl b1=>
  some true
 | .inr p1=>
  some p1
theorem Q3Q(table_:List (List Int))(bound_:Int)(r:Bool)(h:Q1p table_ bound_=some r):Contract Try.prog 140 (Y0W table_ [iV bound_]) (.val (.bool r)):=by
 refine Q6 (rvs:=[.tmp 4]) (rs:=[.val (.bool r)]) Try.func140 rfl rfl rfl rfl (by simp[Try.f140]) λF hN hP=>?_;unfold Q1p at h;refine Q0 (runQ hN λK hK=>?_);simp;repeat refine sdQ ?_
 refine hK _ ?_;clear hK K;refine tn (Q2 (st':=⟨YB table_ [(1,iV bound_)],[],0⟩) (wkQ []) (Q0 (Q0 (runQ hN λK hK=>?_))));simp;repeat refine sdQ ?_
 refine hK _ (tn (Q2 (st':=⟨YB table_ [(1,iV bound_),(5,iV 0)],[],0⟩) (wkQ []) ?_));clear hK K;replace⟨e1,h,h1⟩:=bind_some h;refine Q9 (λb1:Unit=>⟨[],[],0⟩) (λb1=>yK b1=e1) ?_ ?_
 ·refine Q5 (Qj h (λs10:Int=>⟨YB table_ [(1,iV bound_),(5,iV s10)],[],0⟩) (wkQ []) ?_);clear h;intro k10 s10 c10 h hk10;refine Q0 (Q0 (runQ hN λK hK=>?_));simp;repeat refine sdQ ?_
  refine hK _ ?_;clear hK K;refine tn (Q7 rfl (λg=>?_) λg=>?_)
  ·have g11:s10<(table_.length:Int):=gQ;clear g;replace h:=if_l g11 h;refine Q8 (tn (Q0 (Q5 (Q0 ?_))));replace⟨e12,h,h12⟩:=bind_some h;refine Q9 (λb12:Bool=>⟨YB table_ [(1,iV bound_),(5,iV s10),(28,.val (.bool b12))],[],0⟩) (λb12=>b12=e12) ?_ ?_
   ·refine runQ hN λK hK=>?_;replace⟨a13,h⟩:=Q1 h;simp[at_L a13];(repeat with_reducible refine sdQ ?_);refine Qa (λg=>?_) (λg=>?_)
    ·have g14:¬(¬(((rx table_ s10).length:Int)=(table_.length:Int))):=gQ;clear g;replace h:=if_r g14 h;replace⟨a15,h⟩:=Q1 h;simp[at_L a13,at_L a15];(repeat with_reducible refine sdQ ?_);replace⟨v16,hv16,h⟩:=bind_some h;refine Q3 (Q4l _ _ v16 hv16) (.cons .val (.cons .lst .nil)) ?_;simp[at_L a13,at_L a15];(repeat refine sdQ ?_);refine hK _ ?_;exact jn (b:=!v16) (yJ h) (wkQ [])
    have g14:¬(((rx table_ s10).length:Int)=(table_.length:Int)):=gQ;clear g;replace h:=if_l g14 h;simp[at_L a13];(repeat refine sdQ ?_);refine hK _ ?_;exact jn (b:=true) (yJ h) (wkQ [])
   intro b12 hb12;have h:=h12;(try rw[←hb12]at h);clear h12;(try dsimp only at h);refine Q7 rfl (λg=>?_) λg=>?_
   ·have g17:b12=true:=gQ;clear g;replace h:=if_l g17 h;refine Q0 (runQ hN λK hK=>?_);simp;(repeat refine sdQ ?_);refine hK _ (tn (Q2 (st':=⟨Y0r [],[],0⟩) (wkQ []) (Qe (br (tr (lr (br (tr ?_))))))));clear hK K;cases h;have q:_=e1:=hk10;have h:=h1;rw[←q]at h;clear q;(try dsimp only at h);have hr:=yJ h;rw[←hr];refine⟨_,(.tmp .nil),?_⟩;refine⟨(.one rfl rfl .nil),[.val (.bool false)],[],by simp[BN],by simp,(yN _)⟩
   have g17:¬(b12=true):=gQ;clear g;replace h:=if_r g17 h;refine Q8 (bn (tn (runQ hN λK hK=>?_)));replace⟨a18,h⟩:=Q1 h;simp[Qh a18];(repeat refine sdQ ?_);refine hK _ ?_;clear hK K;cases h;exact rn (s':=s10+1) hk10 (wkQ [])
  have g11:¬(s10<(table_.length:Int)):=gQ;clear g;replace h:=if_r g11 h;refine Ql (tx (lx (bh ?_)));cases h;exact jn (b:=()) hk10 (wkQ [])
 intro b1 hb1;have h:=h1;try rw[←hb1]at h
 clear h1;try dsimp only at h
 refine Q0 (runQ hN λK hK=>?_);simp;repeat refine sdQ ?_
 refine hK _ (tn (Q2 (st':=⟨[(4,.val (.bool true))],[],0⟩) (wkQ []) (Qe ?_)));clear hK K;have hr:=yJ h;rw[←hr];refine⟨_,(.tmp .nil),?_⟩;refine⟨(.one rfl rfl .nil),[.val (.bool true)],[],by simp[BN],by simp,(yN _)⟩
attribute [local simp] unk unA unE unT unC flat eL eI Qc
def Q2d(table_:List (List Int))(n_:Int)(bound_:Int):Option Bool:=
 (
  if(table_.length:Int)=n_ then
   (Q1p table_ bound_).bind λv3=>
   some v3
  else
   some false:Option (Bool)).bind λb1=>
 some b1
theorem Q5o(table_:List (List Int))(n_:Int)(bound_:Int)(r:Bool)(h:Q2d table_ n_ bound_=some r):Contract Try.prog 114 (Y0W table_ [iV n_,iV bound_]) (.val (.bool r)):=by
 refine Q6 (rvs:=[.tmp 6]) (rs:=[.val (.bool r)]) Try.func114 rfl rfl rfl rfl (by simp[Try.f114]) λF hN hP=>?_;unfold Q2d at h;refine Q0 (runQ hN λK hK=>?_);simp;repeat refine sdQ ?_
 refine hK _ (tn (Q2 (st':=⟨YB table_ [(1,iV n_),(2,iV bound_)],[],0⟩) (wkQ []) (Q0 ?_)));clear hK K;replace⟨e1,h,h1⟩:=bind_some h;refine Q9 (λb1:Bool=>⟨[(6,.val (.bool b1))],[],0⟩) (λb1=>b1=e1) ?_ ?_
 ·refine runQ hN λK hK=>?_;simp;repeat with_reducible refine sdQ ?_
  refine Qa (λg=>?_) (λg=>?_)
  ·have g2:(table_.length:Int)=n_:=gQ;clear g;replace h:=if_l g2 h;simp;(repeat with_reducible refine sdQ ?_);replace⟨v3,hv3,h⟩:=bind_some h;refine Q3 (Q3Q _ _ v3 hv3) (.cons .lst (.cons .val .nil)) ?_;simp;(repeat refine sdQ ?_);refine hK _ ?_;exact jn (b:=v3) (yJ h) (wkQ [])
  have g2:¬((table_.length:Int)=n_):=gQ;clear g;replace h:=if_r g2 h;simp;repeat refine sdQ ?_
  refine hK _ ?_;exact jn (b:=false) (yJ h) (wkQ [])
 intro b1 hb1;have h:=h1;try rw[←hb1]at h
 clear h1;try dsimp only at h
 refine Qe ?_;have hr:=yJ h;rw[←hr];refine⟨_,(.tmp .nil),?_⟩;refine⟨(.one rfl rfl .nil),[.val (.bool b1)],[],by simp[BN],by simp,(yN _)⟩
attribute [local simp] unk unA unE unT unC flat eL eI Qc
def Q1S(table_:List (List Int))(unit_:Int):Option Bool:=
 (Qo (σ:=Int) (ε:=Unit⊕Bool) (λs65=>
  if s65<(table_.length:Int)then
   (
    (
     ass (0≤unit_∧unit_<(table_.length:Int))<|
     ass (0≤s65∧s65<((rx table_ unit_).length:Int))<|
     if¬((ix (rx table_ unit_) s65)=s65)then
      some true
     else
      ass (0≤s65∧s65<(table_.length:Int))<|
      ass (0≤unit_∧unit_<((rx table_ s65).length:Int))<|
      some ((ix (rx table_ s65) unit_)!=s65):Option (Bool)).bind λb68=>
    if b68=true then
     some (yL false)
    else
     (Qo (σ:=Int) (ε:=Bool⊕Unit) (λs101=>
      if s101<(table_.length:Int)then
       (
        (Qo (σ:=Int) (ε:=Bool⊕Unit) (λs115=>
         if s115<(table_.length:Int)then
          ass (0≤s65∧s65<(table_.length:Int))<|
          ass (0≤s101∧s101<((rx table_ s65).length:Int))<|
          ass (0≤ix (rx table_ s65) s101∧ix (rx table_ s65) s101<(table_.length:Int))<|
          ass (0≤s115∧s115<((rx table_ (ix (rx table_ s65) s101)).length:Int))<|
          ass (0≤s65∧s65<(table_.length:Int))<|
          ass (0≤s101∧s101<(table_.length:Int))<|
          ass (0≤s115∧s115<((rx table_ s101).length:Int))<|
          ass (0≤ix (rx table_ s101) s115∧ix (rx table_ s101) s115<((rx table_ s65).length:Int))<|
          if¬((ix (rx table_ (ix (rx table_ s65) s101)) s115)=(ix (rx table_ s65) (ix (rx table_ s101) s115)))then
           some (yM (yK false))
          else
           ass (B64 (s115+1))<|
           some (yO (s115+1))
         else
          some (yM (yL ()))) fuel 0).bind λe115=>
        match e115 with
        | .inl p115=>
         some (yL p115)
        | .inr p115=>
         some (yK p115):Option (Unit⊕Bool)).bind λe103=>
       match e103 with
       | .inl b103=>
        ass (B64 (s101+1))<|
        some (yO (s101+1))
       | .inr p103=>
        some (yM (yK p103))
      else
       some (yM (yL ()))) fuel 0).bind λe101=>
     match e101 with
     | .inl p101=>
      some (yL p101)
     | .inr p101=>
      some (yK p101):Option (Unit⊕Bool)).bind λe67=>
   match e67 with
   | .inl b67=>
    ass (B64 (s65+1))<|
    some (yO (s65+1))
   | .inr p67=>
    some (yM (yL p67))
  else
   some (yM (yK ()))) fuel 0).bind λe1=>
 match e1 with
 | .inl b1=>
  some true
 | .inr p1=>
  some p1
theorem Q49(table_:List (List Int))(unit_:Int)(r:Bool)(h:Q1S table_ unit_=some r):Contract Try.prog 116 (Y0W table_ [iV unit_]) (.val (.bool r)):=by
 refine Q6 (rvs:=[.tmp 4]) (rs:=[.val (.bool r)]) Try.func116 rfl rfl rfl rfl (by simp[Try.f116]) λF hN hP=>?_;unfold Q1S at h;refine Q0 (runQ hN λK hK=>?_);simp;repeat refine sdQ ?_
 refine hK _ ?_;clear hK K;refine tn (Q2 (st':=⟨YB table_ [(1,iV unit_)],[],0⟩) (wkQ []) (Q0 (Q0 (runQ hN λK hK=>?_))));simp;repeat refine sdQ ?_
 refine hK _ (tn (Q2 (st':=⟨YB table_ [(1,iV unit_),(5,iV 0)],[],0⟩) (wkQ []) ?_));clear hK K;replace⟨e1,h,h1⟩:=bind_some h;refine Q9 (λb1:Unit=>⟨[],[],0⟩) (λb1=>yK b1=e1) ?_ ?_
 ·refine Q5 (Qj h (λs65:Int=>⟨YB table_ [(1,iV unit_),(5,iV s65)],[],0⟩) (wkQ []) ?_);clear h;intro k65 s65 c65 h hk65;refine Q0 (Q0 (runQ hN λK hK=>?_));simp;repeat refine sdQ ?_
  refine hK _ ?_;clear hK K;refine tn (Q7 rfl (λg=>?_) λg=>?_)
  ·have g66:s65<(table_.length:Int):=gQ;clear g;replace h:=if_l g66 h;refine Q8 (tn (Q0 ?_));replace⟨e67,h,h67⟩:=bind_some h;refine Q9 (λb67:Unit=>⟨YB table_ [(1,iV unit_),(5,iV s65)],[],0⟩) (λb67=>yK b67=e67) ?_ ?_
   ·refine Q5 (Q0 (Q0 ?_));replace⟨e68,h,h68⟩:=bind_some h;refine Q9 (λb68:Bool=>⟨YB table_ [(1,iV unit_),(5,iV s65),(33,.val (.bool b68))],[],0⟩) (λb68=>b68=e68) ?_ ?_
    ·refine runQ hN λK hK=>?_;replace⟨a69,h⟩:=Q1 h;replace⟨a70,h⟩:=Q1 h;simp[at_L a69,at_I a70];(repeat with_reducible refine sdQ ?_);refine Qa (λg=>?_) (λg=>?_)
     ·have g71:¬(¬((ix (rx table_ unit_) s65)=s65)):=gQ;clear g;replace h:=if_r g71 h;replace⟨a72,h⟩:=Q1 h;replace⟨a73,h⟩:=Q1 h;simp[at_L a69,at_I a70,at_L a72,at_I a73];(repeat refine sdQ ?_);refine hK _ ?_;exact jn (b:=(ix (rx table_ s65) unit_)!=s65) (yJ h) (wkQ [])
     have g71:¬((ix (rx table_ unit_) s65)=s65):=gQ;clear g;replace h:=if_l g71 h;simp[at_L a69,at_I a70];(repeat refine sdQ ?_);refine hK _ ?_;exact jn (b:=true) (yJ h) (wkQ [])
    intro b68 hb68;have h:=h68;(try rw[←hb68]at h);clear h68;(try dsimp only at h);refine Q7 rfl (λg=>?_) λg=>?_
    ·have g74:b68=true:=gQ;clear g;replace h:=if_l g74 h;refine Q0 (runQ hN λK hK=>?_);simp;(repeat refine sdQ ?_);refine hK _ (tn (Q2 (st':=⟨Y0r [],[],0⟩) (wkQ []) (Qe (tr (br (tr (lr (br (tr ?_)))))))));clear hK K;cases h;have h:=h67;(try dsimp only at h);cases h;have q:_=e1:=hk65;have h:=h1;rw[←q]at h;clear q;(try dsimp only at h);have hr:=yJ h;rw[←hr];refine⟨_,(.tmp .nil),?_⟩;refine⟨(.one rfl rfl .nil),[.val (.bool false)],[],by simp[BN],by simp,(yN _)⟩
    have g74:¬(b68=true):=gQ;clear g;replace h:=if_r g74 h;refine Q8 (tn (Q0 (runQ hN λK hK=>?_)));simp;(repeat refine sdQ ?_);refine hK _ (tn (Q2 (st':=⟨YB table_ [(1,iV unit_),(5,iV s65),(6,iV 0)],[],0⟩) (wkQ []) (Q5 ?_)));clear hK K;replace⟨e101,he101,h101⟩:=bind_some h;refine Qj he101 (λs101:Int=>⟨YB table_ [(1,iV unit_),(5,iV s65),(6,iV s101)],[],0⟩) (wkQ []) ?_;intro k101 s101 c101 h hk101;refine Q0 (Q0 (runQ hN λK hK=>?_));simp;(repeat refine sdQ ?_);refine hK _ ?_;clear hK K;refine tn (Q7 rfl (λg=>?_) λg=>?_)
    ·have g102:s101<(table_.length:Int):=gQ;clear g;replace h:=if_l g102 h;refine Q8 (tn (Q0 ?_));replace⟨e103,h,h103⟩:=bind_some h;refine Q9 (λb103:Unit=>⟨YB table_ [(1,iV unit_),(5,iV s65),(6,iV s101)],[],0⟩) (λb103=>yK b103=e103) ?_ ?_
     ·refine Q5 (Q0 (runQ hN λK hK=>?_));simp;(repeat refine sdQ ?_);refine hK _ (tn (Q2 (st':=⟨YB table_ [(1,iV unit_),(5,iV s65),(6,iV s101),(7,iV 0)],[],0⟩) (wkQ []) (Q5 ?_)));clear hK K;replace⟨e115,he115,h115⟩:=bind_some h;refine Qj he115 (λs115:Int=>⟨YB table_ [(1,iV unit_),(5,iV s65),(6,iV s101),(7,iV s115)],[],0⟩) (wkQ []) ?_;intro k115 s115 c115 h hk115;refine Q0 (Q0 (runQ hN λK hK=>?_));simp;(repeat refine sdQ ?_);refine hK _ ?_;clear hK K;refine tn (Q7 rfl (λg=>?_) λg=>?_)
      ·have g116:s115<(table_.length:Int):=gQ;clear g;replace h:=if_l g116 h;refine Q8 (tn (Q0 (Q5 (Q0 (runQ hN λK hK=>?_)))));replace⟨a117,h⟩:=Q1 h;replace⟨a118,h⟩:=Q1 h;replace⟨a119,h⟩:=Q1 h;replace⟨a120,h⟩:=Q1 h;replace⟨a121,h⟩:=Q1 h;replace⟨a122,h⟩:=Q1 h;replace⟨a123,h⟩:=Q1 h;replace⟨a124,h⟩:=Q1 h;simp[at_L a117,at_I a118,at_L a119,at_I a120,at_L a121,at_L a122,at_I a123,at_I a124];(repeat refine sdQ ?_);refine hK _ ?_;clear hK K;refine tn (Q7 rfl (λg=>?_) λg=>?_)
       ·have g125:¬((ix (rx table_ (ix (rx table_ s65) s101)) s115)=(ix (rx table_ s65) (ix (rx table_ s101) s115))):=gQ;clear g;replace h:=if_l g125 h;refine Q0 (runQ hN λK hK=>?_);simp;(repeat refine sdQ ?_);refine hK _ (tn (Q2 (st':=⟨Y0r [],[],0⟩) (wkQ []) (Qe (br (tr (lr (br (br (tr (lr (br (br (tr (lr (br (tr ?_))))))))))))))));clear hK K;cases h;have q:_=e115:=hk115;have h:=h115;rw[←q]at h;clear q;(try dsimp only at h);cases h;have h:=h103;(try dsimp only at h);cases h;have q:_=e101:=hk101;have h:=h101;rw[←q]at h;clear q;(try dsimp only at h);cases h;have h:=h67;(try dsimp only at h);cases h;have q:_=e1:=hk65;have h:=h1;rw[←q]at h;clear q;(try dsimp only at h);have hr:=yJ h;rw[←hr];refine⟨_,(.tmp .nil),?_⟩;refine⟨(.one rfl rfl .nil),[.val (.bool false)],[],by simp[BN],by simp,(yN _)⟩
       have g125:¬(¬((ix (rx table_ (ix (rx table_ s65) s101)) s115)=(ix (rx table_ s65) (ix (rx table_ s101) s115)))):=gQ;clear g;replace h:=if_r g125 h;refine Q8 (bn (tn (runQ hN λK hK=>?_)));replace⟨a126,h⟩:=Q1 h;simp[Qh a126];(repeat refine sdQ ?_);refine hK _ ?_;clear hK K;cases h;exact rn (s':=s115+1) hk115 (wkQ [])
      have g116:¬(s115<(table_.length:Int)):=gQ;clear g;replace h:=if_r g116 h;refine Ql (tx (lx (bh (bn ?_))));cases h;have q:_=e115:=hk115;have h:=h115;rw[←q]at h;clear q;(try dsimp only at h);exact jn (b:=()) (yJ h) (wkQ [])
     intro b103 hb103;have h:=h103;(try rw[←hb103]at h);clear h103;(try dsimp only at h);refine runQ hN λK hK=>?_;replace⟨a127,h⟩:=Q1 h;simp[Qh a127];(repeat refine sdQ ?_);refine hK _ ?_;clear hK K;cases h;exact rn (s':=s101+1) hk101 (wkQ [])
    have g102:¬(s101<(table_.length:Int)):=gQ;clear g;replace h:=if_r g102 h;refine Ql (tx (lx (bh (bn ?_))));cases h;have q:_=e101:=hk101;have h:=h101;rw[←q]at h;clear q;(try dsimp only at h);exact jn (b:=()) (yJ h) (wkQ [])
   intro b67 hb67;have h:=h67;(try rw[←hb67]at h);clear h67;(try dsimp only at h);refine runQ hN λK hK=>?_;replace⟨a128,h⟩:=Q1 h;simp[Qh a128];(repeat refine sdQ ?_);refine hK _ ?_;clear hK K;cases h;exact rn (s':=s65+1) hk65 (wkQ [])
  have g66:¬(s65<(table_.length:Int)):=gQ;clear g;replace h:=if_r g66 h;refine Ql (tx (lx (bh ?_)));cases h;exact jn (b:=()) hk65 (wkQ [])
 intro b1 hb1;have h:=h1;try rw[←hb1]at h
 clear h1;try dsimp only at h
 refine Q0 (runQ hN λK hK=>?_);simp;repeat refine sdQ ?_
 refine hK _ (tn (Q2 (st':=⟨[(4,.val (.bool true))],[],0⟩) (wkQ []) (Qe ?_)));clear hK K;have hr:=yJ h;rw[←hr];refine⟨_,(.tmp .nil),?_⟩;refine⟨(.one rfl rfl .nil),[.val (.bool true)],[],by simp[BN],by simp,(yN _)⟩
section
attribute [local simp] Qi QP Qv Q1l QN
def Tbl(t:List (List Int))(n:Int):Prop:=(t.length:Int)=n∧∀i:Nat,i<t.length→((rx t i).length:Int)=n∧∀j:Nat,j<(rx t i).length→0≤ix (rx t i) j∧ix (rx t i) j<n
theorem Tbl.at{t:List (List Int)}{n:Int}(h:Tbl t n){i j:Int}(hi:0≤i∧i<n)(hj:0≤j∧j<n):i<(t.length:Int)∧j<((rx t i).length:Int)∧0≤ix (rx t i) j∧ix (rx t i) j<n:=by
 obtain⟨a,rfl⟩:=yT hi.1;obtain⟨b,rfl⟩:=yT hj.1;have l:=h.1;have q:=h.2 a (by omega);have r:=q.2 b (by omega);omega
theorem Q7w{t:List (List Int)}{n:Int}(hn:0≤n∧n≤1000):Q2y t n=some (bo (Tbl t n)):=by
 unfold Q2y
 by_cases h1:(t.length:Int)=n
 case neg=>rw[if_pos h1,Qd (λq=>h1 q.1)]
 rw[if_neg (QW h1)];refine chkI t.length (λi=>((rx t i).length:Int)=n∧∀j:Nat,j<(rx t i).length→0≤ix (rx t i) j∧ix (rx t i) j<n) (yL false) (yK ()) (by omega) (λi hi=>?_) (by rw[if_neg (by omega)]) ?_
 ·rw[if_pos (by omega),Q4 (by omega)]
  by_cases h2:((rx t i).length:Int)=n
  case neg=>rw[if_pos h2,Qd (λq=>h2 q.1)];rfl
  rw[if_neg (QW h2)];unfold Q1v;rw[Q4 (by unfold B64;omega)];simp only[yA];cases h3:(rx t i).all (inR n)with
  |true=>rw[Qk ⟨h2,all_inR.1 h3⟩,Q4 (by unfold B64;omega)];rfl
  |false=>rw[Qd (λq=>by rw[all_inR.2 q.2]at h3;cases h3)];rfl
 by_cases q:∀i:Nat,i<t.length→((rx t i).length:Int)=n∧∀j:Nat,j<(rx t i).length→0≤ix (rx t i) j∧ix (rx t i) j<n
 ·rw[Qk q,Qk (show Tbl t n from⟨h1,q⟩)];rfl
 rw[Qd q,Qd (show¬Tbl t n from λz=>q z.2)];rfl
theorem Q6q{t:List (List Int)}{n:Int}(hn:0≤n∧n≤1000):Q2d t n n=some (bo (Tbl t n)):=by
 unfold Q2d Q1p
 by_cases h1:(t.length:Int)=n
 case neg=>rw[if_neg h1,Qd (λq=>h1 q.1)];rfl
 rw[if_pos h1,yV,yV];refine chkI t.length (λi=>((rx t i).length:Int)=n∧∀j:Nat,j<(rx t i).length→0≤ix (rx t i) j∧ix (rx t i) j<n) (yL false) (yK ()) (by omega) (λi hi=>?_) (by rw[if_neg (by omega)]) ?_
 ·rw[if_pos (by omega),Q4 (by omega)]
  by_cases h2:((rx t i).length:Int)=n
  case neg=>rw[if_pos (by omega),Qd (λq=>h2 q.1)];rfl
  rw[if_neg (by omega),Q4 (by omega)];unfold Q1i;simp only[yA];cases h3:(rx t i).all (inR n)with
  |true=>rw[Qk ⟨h2,all_inR.1 h3⟩,Q4 (by unfold B64;omega)];rfl
  |false=>rw[Qd (λq=>by rw[all_inR.2 q.2]at h3;cases h3)];rfl
 by_cases q:∀i:Nat,i<t.length→((rx t i).length:Int)=n∧∀j:Nat,j<(rx t i).length→0≤ix (rx t i) j∧ix (rx t i) j<n
 ·rw[Qk q,Qk (show Tbl t n from⟨h1,q⟩)];rfl
 rw[Qd q,Qd (show¬Tbl t n from λz=>q z.2)];rfl
abbrev As3(t:List (List Int))(x y z:Int):Prop:=ix (rx t (ix (rx t x) y)) z=ix (rx t x) (ix (rx t y) z)
def AsP(t:List (List Int))(u:Int)(x:Nat):Prop:=(ix (rx t x) u=x∧ix (rx t u) x=x)∧∀y:Nat,y<t.length→∀z:Nat,z<t.length→As3 t x y z
def Aso(t:List (List Int))(u:Int):Prop:=∀x:Nat,x<t.length→AsP t u x
theorem Q7v{t:List (List Int)}{n u:Int}(h:Tbl t n)(hu:0≤u∧u<n)(hn:n≤1000):Q1a t u=some (bo (Aso t u)):=by
 have l:=h.1;unfold Q1a;refine chkI t.length (AsP t u) (yL false) (yK ()) (by omega) (λx hx=>?_) (by rw[if_neg (by omega)]) ?_
 ·have a1:=h.at (i:=x) (j:=u) (by omega) hu;have a2:=h.at (i:=u) (j:=x) hu (by omega);rw[if_pos (by omega),Q4 (by omega),Q4 (by omega)]
  by_cases h1:ix (rx t x) u=x
  case neg=>rw[if_pos h1,Qd (λq=>h1 q.1.1)];rfl
  rw[if_neg (QW h1),Q4 (by omega),Q4 (by omega)];simp only[yA]
  by_cases h2:ix (rx t u) x=x
  case neg=>rw[Qd (λq=>h2 q.1.2),show(ix (rx t u) x !=(x:Int))=true by simp[h2]];rfl
  rw[show(ix (rx t u) x !=(x:Int))=false by simp[h2],if_neg (by simp),yV];refine chkI t.length (λy=>∀z:Nat,z<t.length→As3 t x y z) (yK false) (yL ()) (by omega) (λy hy=>?_) (by rw[if_neg (by omega)]) ?_
  ·rw[if_pos (by omega),yV];refine chkI t.length (λz=>As3 t x y z) (yK false) (yL ()) (by omega) (λz hz=>?_) (by rw[if_neg (by omega)]) ?_
   ·have b1:=h.at (i:=x) (j:=y) (by omega) (by omega);have b2:=h.at (i:=y) (j:=z) (by omega) (by omega);have b3:=h.at (i:=ix (rx t x) y) (j:=z) (by omega) (by omega);have b4:=h.at (i:=x) (j:=ix (rx t y) z) (by omega) (by omega);rw[if_pos (by omega),Q4 (by omega),Q4 (by omega),Q4 (by omega),Q4 (by omega),Q4 (by omega),Q4 (by omega),Q4 (by omega),Q4 (by omega)]
    by_cases q:As3 t x y z
    ·rw[Qk q,if_neg (QW q),Q4 (by unfold B64;omega)];rfl
    rw[Qd q,if_pos q];rfl
   by_cases q:∀z:Nat,z<t.length→As3 t x y z
   ·rw[Qk q];simp only[if_true,yA];rw[Q4 (by unfold B64;omega)]
   rw[Qd q];rfl
  by_cases q:∀y:Nat,y<t.length→∀z:Nat,z<t.length→As3 t x y z
  ·rw[Qk q,Qk (show AsP t u x from⟨⟨h1,h2⟩,q⟩)];simp only[if_true,yA];rw[Q4 (by unfold B64;omega)]
  rw[Qd q,Qd (show¬AsP t u x from λz=>q z.2)];rfl
 by_cases q:Aso t u
 ·rw[Qk (show∀x:Nat,x<t.length→AsP t u x from q),Qk q];rfl
 rw[Qd (show¬∀x:Nat,x<t.length→AsP t u x from q),Qd q];rfl
theorem Q4Z{t:List (List Int)}{n u:Int}(h:Tbl t n)(hu:0≤u∧u<n)(hn:n≤1000):Q1S t u=some (bo (Aso t u)):=by
 have l:=h.1;unfold Q1S;refine chkI t.length (AsP t u) (yL false) (yK ()) (by omega) (λx hx=>?_) (by rw[if_neg (by omega)]) ?_
 ·have a1:=h.at (i:=x) (j:=u) (by omega) hu;have a2:=h.at (i:=u) (j:=x) hu (by omega);rw[if_pos (by omega),Q4 (by omega),Q4 (by omega)]
  by_cases h2:ix (rx t u) x=x
  case neg=>rw[if_pos h2,Qd (λq=>h2 q.1.2)];rfl
  rw[if_neg (QW h2),Q4 (by omega),Q4 (by omega)];simp only[yA]
  by_cases h1:ix (rx t x) u=x
  case neg=>rw[Qd (λq=>h1 q.1.1),show(ix (rx t x) u !=(x:Int))=true by simp[h1]];rfl
  rw[show(ix (rx t x) u !=(x:Int))=false by simp[h1],if_neg (by simp),yV];refine chkI t.length (λy=>∀z:Nat,z<t.length→As3 t x y z) (yK false) (yL ()) (by omega) (λy hy=>?_) (by rw[if_neg (by omega)]) ?_
  ·rw[if_pos (by omega),yV];refine chkI t.length (λz=>As3 t x y z) (yK false) (yL ()) (by omega) (λz hz=>?_) (by rw[if_neg (by omega)]) ?_
   ·have b1:=h.at (i:=x) (j:=y) (by omega) (by omega);have b2:=h.at (i:=y) (j:=z) (by omega) (by omega);have b3:=h.at (i:=ix (rx t x) y) (j:=z) (by omega) (by omega);have b4:=h.at (i:=x) (j:=ix (rx t y) z) (by omega) (by omega);rw[if_pos (by omega),Q4 (by omega),Q4 (by omega),Q4 (by omega),Q4 (by omega),Q4 (by omega),Q4 (by omega),Q4 (by omega),Q4 (by omega)]
    by_cases q:As3 t x y z
    ·rw[Qk q,if_neg (QW q),Q4 (by unfold B64;omega)];rfl
    rw[Qd q,if_pos q];rfl
   by_cases q:∀z:Nat,z<t.length→As3 t x y z
   ·rw[Qk q];simp only[if_true,yA];rw[Q4 (by unfold B64;omega)]
   rw[Qd q];rfl
  by_cases q:∀y:Nat,y<t.length→∀z:Nat,z<t.length→As3 t x y z
  ·rw[Qk q,Qk (show AsP t u x from⟨⟨h1,h2⟩,q⟩)];simp only[if_true,yA];rw[Q4 (by unfold B64;omega)]
  rw[Qd q,Qd (show¬AsP t u x from λz=>q z.2)];rfl
 by_cases q:Aso t u
 ·rw[Qk (show∀x:Nat,x<t.length→AsP t u x from q),Qk q];rfl
 rw[Qd (show¬∀x:Nat,x<t.length→AsP t u x from q),Qd q];rfl
end
attribute [local simp] unk unA unE unT unC flat eL eI Qc
def Q33(code_:List Int):Option (Int):=
 (Qo (σ:=Int×Int) (ε:=Int) (λs8=>
  (
   if s8.2<(code_.length:Int)then
    some (decide (s8.2<4096))
   else
    some false:Option (Bool)).bind λb9=>
  if b9=true then
   ass (0≤s8.2∧s8.2<(code_.length:Int))<|
   ass (B64 (s8.2+1))<|
   some (yO (IntKind.u64.wrap ((IntKind.u64.wrap ((IntKind.u64.wrap (s8.1*1099511628211))+(IntKind.u64.wrap (ix code_ s8.2))))+7),s8.2+1))
  else
   some (yM s8.1)) fuel (IntKind.u64.wrap (7019+(IntKind.u64.wrap (code_.length:Int))),0)).bind λb2=>
 some b2
@[simp] abbrev Y0U(a:List Int)(b:List (AV)):List (AV):=.lst true 1 (Us a)::iV 0::b
theorem Q8M(code_:List Int)(v14:Int)(h:Q33 code_=some v14):ICon Try.prog 68 [.lst true 1 (Us code_)] (λ_=>none) 0 {v:=.adr 0 0 0,set:=[],del:=[],new:=[(0,.mix 3 [(Y0U code_ [.val (.int .u64 v14)])])],cnt:=1}:=by
 refine Q1P (ts:=[2]) (H:=[]) Try.func68 rfl rfl rfl (by simp[Try.f68]) (by simp) (Q5r (by simp)) (newI (by rfl)) λF hN hP=>?_;unfold Q33 at h;refine Q0 (rxQ hN λK hK=>?_);simp;repeat refine sdQ ?_
 refine hK _ ?_;clear hK K;refine tn (Q2 (st':=⟨[(0,.lst true 1 (Us code_))],[],0⟩) (wkQ []) (Q0 (rxQ hN λK hK=>?_)));simp;repeat refine sdQ ?_
 refine hK _ ?_;clear hK K;refine tn (Q2 (st':=⟨[(0,.lst true 1 (Us code_)),(3,.adr 0 0 0)],[(0,.mix 3 [(Y0U code_ [.val (.int .u64 (IntKind.u64.wrap (7019+(IntKind.u64.wrap (code_.length:Int)))))])])],1⟩) (wkQ [(0,0)]) (Q0 (Q0 (rxQ hN λK hK=>?_))));simp;repeat refine sdQ ?_
 refine hK _ (tn (Q2 (st':=⟨[(0,.lst true 1 (Us code_)),(3,.adr 0 0 0),(4,iV 0)],[(0,.mix 3 [(Y0U code_ [.val (.int .u64 (IntKind.u64.wrap (7019+(IntKind.u64.wrap (code_.length:Int)))))])])],1⟩) (wkQ [(0,0)]) ?_));clear hK K;replace⟨e2,h,h2⟩:=bind_some h;refine Q9 (λb2:Int=>⟨[(3,.adr 0 0 0)],[(0,.mix 3 [(Y0U code_ [.val (.int .u64 b2)])])],1⟩) (λb2=>b2=e2) ?_ ?_
 ·refine Q5 (Qj h (λs8:Int×Int=>⟨[(0,.lst true 1 (Us code_)),(3,.adr 0 0 0),(4,iV s8.2)],[(0,.mix 3 [(Y0U code_ [.val (.int .u64 s8.1)])])],1⟩) (wkQ [(0,0)]) ?_);clear h;intro k8 s8 c8 h hk8;refine Q0 (Q0 ?_);replace⟨e9,h,h9⟩:=bind_some h;refine Q9 (λb9:Bool=>⟨[(0,.lst true 1 (Us code_)),(3,.adr 0 0 0),(4,iV s8.2),(19,.val (.bool b9))],[(0,.mix 3 [(Y0U code_ [.val (.int .u64 s8.1)])])],1⟩) (λb9=>b9=e9) ?_ ?_
  ·refine rxQ hN λK hK=>?_;simp;(repeat with_reducible refine sdQ ?_);refine Q3b (λg=>?_) (λg=>?_)
   ·have g10:s8.2<(code_.length:Int):=gQ;clear g;replace h:=if_l g10 h;simp;(repeat refine sdQ ?_);refine hK _ ?_;exact jn (b:=decide (s8.2<4096)) (yJ h) (wkQ [(0,0)])
   have g10:¬(s8.2<(code_.length:Int)):=gQ;clear g;replace h:=if_r g10 h;simp;(repeat refine sdQ ?_);refine hK _ ?_;exact jn (b:=false) (yJ h) (wkQ [(0,0)])
  intro b9 hb9;have h:=h9;try rw[←hb9]at h
  clear h9;try dsimp only at h
  refine Q7 rfl (λg=>?_) λg=>?_
  ·have g11:b9=true:=gQ;clear g;replace h:=if_l g11 h;refine Q8 (tn (Q0 (Q5 (rxQ hN λK hK=>?_))));replace⟨a12,h⟩:=Q1 h;simp[at_U a12];(repeat refine sdQ ?_);refine hK _ ?_;clear hK K;refine bn (tn (Q2 (st':=⟨[(0,.lst true 1 (Us code_)),(3,.adr 0 0 0),(4,iV s8.2)],[(0,.mix 3 [(Y0U code_ [.val (.int .u64 (IntKind.u64.wrap ((IntKind.u64.wrap ((IntKind.u64.wrap (s8.1*1099511628211))+(IntKind.u64.wrap (ix code_ s8.2))))+7)))])])],1⟩) (wkQ [(0,0)]) (rxQ hN λK hK=>?_)));replace⟨a13,h⟩:=Q1 h;simp[Qh a13];(repeat refine sdQ ?_);refine hK _ ?_;clear hK K;cases h;exact rn (s':=(IntKind.u64.wrap ((IntKind.u64.wrap ((IntKind.u64.wrap (s8.1*1099511628211))+(IntKind.u64.wrap (ix code_ s8.2))))+7),s8.2+1)) hk8 (wkQ [(0,0)])
  have g11:¬(b9=true):=gQ;clear g;replace h:=if_r g11 h;refine Ql (tx (lx (bh ?_)));cases h;exact jn (b:=s8.1) hk8 (wkQ [(0,0)])
 intro b2 hb2;have h:=h2;try rw[←hb2]at h
 clear h2;try dsimp only at h
 refine Q0 (rxQ hN λK hK=>?_);simp;repeat refine sdQ ?_
 refine hK _ (tn (Q2 (st':=⟨YA [],[(0,.mix 3 [(Y0U code_ [.val (.int .u64 b2)])])],1⟩) (wkQ [(0,0)]) (Qe ?_)));clear hK K;have hq:=yJ h;clear h;subst hq;first|refine iw_r (st':=⟨YA [],[(0,.mix 3 [(Y0U code_ [.val (.int .u64 b2)])])],1⟩) ?_ ?_|refine iw_n (st':=⟨YA [],[(0,.mix 3 [(Y0U code_ [.val (.int .u64 b2)])])],1⟩) ?_ ?_
 ·exact wkQ [(0,0)]
 exact⟨by simp[Qt],by simp,by simp⟩
attribute [local simp] unk unA unE unT unC flat eL eI Qc Qf XL01Source.cells
def Qp(k:Nat)(q0_:XL01Source)(q1_:Int):Option (Int×Int×Int):=match k with
 |0=>none
 |k+1=>
  if q1_<1 then
   some (q0_.at_,q0_.hash_,0)
  else
   (
    if q0_.at_<(q0_.code_.length:Int)then
     ass (0≤q0_.at_∧q0_.at_<(q0_.code_.length:Int))<|
     ass (B64 ((IntKind.i64.wrap (andI .u64 (shrI .u64 (IntKind.u64.wrap ((IntKind.u64.wrap (q0_.hash_*6364136223846793005))+1442695040888963407)) 33) 16777215))+(IntKind.i64.wrap (ix q0_.code_ q0_.at_))))<|
     ass (B64 (q0_.at_+1))<|
     some (q0_.at_+1,(IntKind.i64.wrap (andI .u64 (shrI .u64 (IntKind.u64.wrap ((IntKind.u64.wrap (q0_.hash_*6364136223846793005))+1442695040888963407)) 33) 16777215))+(IntKind.i64.wrap (ix q0_.code_ q0_.at_)))
    else
     some (q0_.at_,IntKind.i64.wrap (andI .u64 (shrI .u64 (IntKind.u64.wrap ((IntKind.u64.wrap (q0_.hash_*6364136223846793005))+1442695040888963407)) 33) 16777215)):Option (Int×Int)).bind λb3=>
   ass (¬(q1_=0))<|
   some (b3.1,IntKind.u64.wrap ((IntKind.u64.wrap (q0_.hash_*6364136223846793005))+1442695040888963407),b3.2.tmod q1_)
@[simp] abbrev YN(a:XL01Source)(b:Int×Int)(c:List (Nat×Ent)):List (Nat×Ent):=(0,.mix 3 [[.lst true 1 (Us a.code_),iV b.1,.val (.int .u64 (IntKind.u64.wrap ((IntKind.u64.wrap (a.hash_*6364136223846793005))+1442695040888963407)))]])::c
@[simp] abbrev YX(a:XL01Source)(b:List (Nat×Ent)):List (Nat×Ent):=(0,.mix 3 [[.lst true 1 (Us a.code_),iV a.at_,.val (.int .u64 (IntKind.u64.wrap ((IntKind.u64.wrap (a.hash_*6364136223846793005))+1442695040888963407)))]])::b
@[simp] abbrev YZ(a:XL01Source)(b:List (Nat×Ent)):List (Nat×Ent):=(0,.mix 3 [(XL01Source.cells true a)])::b
@[simp] abbrev Y0q(a:Int)(b:List (Nat×AV)):List (Nat×AV):=(0,.adr 0 0 0)::(1,iV a)::b
theorem Qw:∀(k:Nat) (q0_:XL01Source) (q1_:Int) (vR:Int×Int×Int) (h:Qp k q0_ q1_=some vR),ICon Try.prog 80 [.adr 0 0 0,iV q1_] (λid=>look id [(0,.mix 3 [(XL01Source.cells true q0_)])]) 1 {v:=.val (.int .i64 vR.2.2),set:=[(0,.mix 3 [[.lst true 1 (Us q0_.code_),iV vR.1,.val (.int .u64 vR.2.1)]])],del:=[],new:=[],cnt:=0}:=by
 intro k
 induction k with
 |zero=>
  intro q0_ q1_ vR h;simp[Qp]at h
 |succ k ih=>
  intro q0_ q1_ vR h;refine Q1P (ts:=[4]) (H:=[(0,.mix 3 [(XL01Source.cells true q0_)])]) Try.func80 rfl rfl rfl (by simp[Try.f80]) (by simp) (Q5r (by simp)) (newI (by rfl)) λF hN hP=>?_;unfold Qp at h;try dsimp only at h
  refine Q0 (rxQ hN λK hK=>?_);simp;repeat refine sdQ ?_
  refine hK _ ?_;clear hK K;refine tn (Q2 (st':=⟨Y0q q1_ [],YZ q0_ [],1⟩) (wkP [(0,0)] hP) (Q0 (Q0 (rxQ hN λK hK=>?_))));simp;repeat refine sdQ ?_
  refine hK _ ?_;clear hK K;refine tn (Q7 rfl (λg=>?_) λg=>?_)
  ·have g2:q1_<1:=gQ;clear g;replace h:=if_l g2 h;refine Q0 (rxQ hN λK hK=>?_);simp;(repeat refine sdQ ?_);refine hK _ (tn (Q2 (st':=⟨[(4,iV 0)],YZ q0_ [],1⟩) (wkP [(0,0)] hP) (Qe (tr ?_))));clear hK K;cases h;first|refine iw_r (st':=⟨[(4,iV 0)],YZ q0_ [],1⟩) ?_ ?_|refine iw_n (st':=⟨[(4,iV 0)],YZ q0_ [],1⟩) ?_ ?_
   ·exact wkP [(0,0)] hP
   exact⟨by simp[Qt],by simp,by simp[CN]⟩
  have g2:¬(q1_<1):=gQ;clear g;replace h:=if_r g2 h;refine Q8 (tn (Q0 (rxQ hN λK hK=>?_)));simp;repeat refine sdQ ?_
  refine hK _ ?_;clear hK K;refine tn (Q2 (st':=⟨Y0q q1_ [],YX q0_ [],1⟩) (wkP [(0,0)] hP) (Q0 (rxQ hN λK hK=>?_)));simp;repeat refine sdQ ?_
  refine hK _ ?_;clear hK K;refine tn (Q2 (st':=⟨Y0q q1_ [(5,iV (IntKind.i64.wrap (andI .u64 (shrI .u64 (IntKind.u64.wrap ((IntKind.u64.wrap (q0_.hash_*6364136223846793005))+1442695040888963407)) 33) 16777215)))],YX q0_ [],1⟩) (wkP [(0,0)] hP) (Q0 (Q0 (rxQ hN λK hK=>?_))));simp;repeat refine sdQ ?_
  refine hK _ (tn ?_);clear hK K;replace⟨e3,h,h3⟩:=bind_some h;refine Q9 (λb3:Int×Int=>⟨[(1,iV q1_),(5,iV b3.2)],YN q0_ b3 [],1⟩) (λb3=>b3=e3) ?_ ?_
  ·refine Q7 rfl (λg=>?_) λg=>?_
   ·have g4:q0_.at_<(q0_.code_.length:Int):=gQ;clear g;replace h:=if_l g4 h;refine Q0 (rxQ hN λK hK=>?_);replace⟨a5,h⟩:=Q1 h;replace⟨a6,h⟩:=Q1 h;simp[at_U a5,Qh a6];(repeat refine sdQ ?_);refine hK _ ?_;clear hK K;refine tn (Q2 (st':=⟨Y0q q1_ [(5,iV ((IntKind.i64.wrap (andI .u64 (shrI .u64 (IntKind.u64.wrap ((IntKind.u64.wrap (q0_.hash_*6364136223846793005))+1442695040888963407)) 33) 16777215))+(IntKind.i64.wrap (ix q0_.code_ q0_.at_))))],YX q0_ [],1⟩) (wkP [(0,0)] hP) (rxQ hN λK hK=>?_));replace⟨a7,h⟩:=Q1 h;simp[Qh a7];(repeat refine sdQ ?_);refine hK _ ?_;clear hK K;exact jn (b:=(q0_.at_+1,(IntKind.i64.wrap (andI .u64 (shrI .u64 (IntKind.u64.wrap ((IntKind.u64.wrap (q0_.hash_*6364136223846793005))+1442695040888963407)) 33) 16777215))+(IntKind.i64.wrap (ix q0_.code_ q0_.at_)))) (yJ h) (wkP [(0,0)] hP)
   have g4:¬(q0_.at_<(q0_.code_.length:Int)):=gQ;clear g;replace h:=if_r g4 h;refine Q8 ?_;exact jn (b:=(q0_.at_,IntKind.i64.wrap (andI .u64 (shrI .u64 (IntKind.u64.wrap ((IntKind.u64.wrap (q0_.hash_*6364136223846793005))+1442695040888963407)) 33) 16777215))) (yJ h) (wkP [(0,0)] hP)
  intro b3 hb3;have h:=h3;try rw[←hb3]at h
  clear h3;try dsimp only at h
  refine Q0 (rxQ hN λK hK=>?_);replace⟨a8,h⟩:=Q1 h;simp[a8];repeat refine sdQ ?_
  refine hK _ (tn (Q2 (st':=⟨[(4,iV (b3.2.tmod q1_))],YN q0_ b3 [],1⟩) (wkP [(0,0)] hP) (Qe ?_)));clear hK K;cases h;first|refine iw_r (st':=⟨[(4,iV (b3.2.tmod q1_))],YN q0_ b3 [],1⟩) ?_ ?_|refine iw_n (st':=⟨[(4,iV (b3.2.tmod q1_))],YN q0_ b3 [],1⟩) ?_ ?_
  ·exact wkP [(0,0)] hP
  exact⟨by simp[Qt],by simp,by simp[CN]⟩
attribute [local simp] unk unA unE unT unC flat eL eI Qc Qf XL01Source.cells
def Qy(k:Nat)(q0_:XL01Source)(q1_:Int):Option (List Int×Int×Int×Int):=match k with
 |0=>none
 |k+1=>
  (Qp 100 q0_ 40).bind λv2=>
  if v2.2.2=0 then
   (
    (Qp 100 (⟨q0_.code_,v2.1,v2.2.1⟩:XL01Source) ([(-1),q1_,9223372036854775807,(-9223372036854775808)].length:Int)).bind λv5=>
    ass (0≤v5.2.2∧v5.2.2<([(-1),q1_,9223372036854775807,(-9223372036854775808)].length:Int))<|
    some (v5.1,v5.2.1,ix [(-1),q1_,9223372036854775807,(-9223372036854775808)] v5.2.2):Option (Int×Int×Int)).bind λv7=>
   some (q0_.code_,v7.1,v7.2.1,v7.2.2)
  else
   (Qp 100 (⟨q0_.code_,v2.1,v2.2.1⟩:XL01Source) q1_).bind λv8=>
   some (q0_.code_,v8.1,v8.2.1,v8.2.2)
@[simp] abbrev Y0v(a:Int)(b:List (Nat×Ent)):List (Nat×Ent):=(1,rI [(-1),a,9223372036854775807,(-9223372036854775808)])::b
@[simp] abbrev Y0S(a:XL01Source)(b:List (AV)):List (AV):=.lst true 1 (Us (a.code_))::b
theorem Q16:∀(k:Nat) (q0_:XL01Source) (q1_:Int) (vR:List Int×Int×Int×Int) (h:Qy k q0_ q1_=some vR),ICon Try.prog 81 [.adr 0 0 0,iV q1_] (λid=>look id [(0,.mix 3 [(XL01Source.cells true q0_)])]) 1 {v:=.val (.int .i64 vR.2.2.2),set:=[(0,.mix 3 [[.lst true 1 (Us vR.1),iV vR.2.1,.val (.int .u64 vR.2.2.1)]])],del:=[],new:=[],cnt:=0}:=by
 intro k
 induction k with
 |zero=>
  intro q0_ q1_ vR h;simp[Qy]at h
 |succ k ih=>
  intro q0_ q1_ vR h;refine Q1P (ts:=[4]) (H:=[(0,.mix 3 [(XL01Source.cells true q0_)])]) Try.func81 rfl rfl rfl (by simp[Try.f81]) (by simp) (Q5r (by simp)) (newI (by rfl)) λF hN hP=>?_;unfold Qy at h;try dsimp only at h
  refine Q0 (rxQ hN λK hK=>?_);simp;repeat refine sdQ ?_
  refine hK _ ?_;clear hK K;refine tn (Q2 (st':=⟨Y0q q1_ [],YZ q0_ [],1⟩) (wkP [(0,0)] hP) (Q0 (Q0 (Q18 [] mo (by rw[hN];decide) λK hK=>?_))));simp;repeat with_reducible refine sdQ ?_
  replace⟨v2,hv2,h⟩:=bind_some h;refine QG (fz:=[]) (frQ (e:={v:=.val (.int .i64 v2.2.2),set:=[(0,.mix 3 [[.lst true 1 (Us q0_.code_),iV v2.1,.val (.int .u64 v2.2.1)]])],del:=[],new:=[],cnt:=0}) (Qw 100 _ _ v2 hv2) [(0,0)]) ?_;simp;repeat refine sdQ ?_
  refine hK _ ?_;clear hK K;refine tn (Q2 (st':=⟨Y0q q1_ [(7,.val (.bool (v2.2.2==0)))],[(0,.mix 3 [[.lst true 1 (Us q0_.code_),iV v2.1,.val (.int .u64 v2.2.1)]])],1⟩) (wkP [(0,0)] hP) (Q7 rfl (λg=>?_) λg=>?_))
  ·have g3:v2.2.2=0:=gQ;clear g;replace h:=if_l g3 h;refine Q0 (Q18 [] mo (by rw[hN];decide) λK hK=>?_);simp;(repeat with_reducible refine sdQ ?_);replace⟨v7,hv7,h⟩:=bind_some h;refine QG (fz:=[]) (Q1P (ts:=[4]) (e:={v:=.val (.int .i64 v7.2.2),set:=[(0,.mix 3 [(Y0S q0_ [iV v7.1,.val (.int .u64 v7.2.1)])]),(1,rI [(-1),q1_,9223372036854775807,(-9223372036854775808)])],del:=[],new:=[],cnt:=0}) Try.func133 rfl rfl rfl (by simp[Try.f133]) (by simp) (Q5r (by simp)) (newI (by rfl)) λF hN hP=>?_) ?_
   ·clear h;have h:=hv7;clear hv7;refine Q0 (rxQ hN λK hK=>?_);simp;(repeat refine sdQ ?_);refine hK _ ?_;clear hK K;refine tn (Q2 (st':=⟨[(0,.adr 0 0 0),(1,.own 1 0 4)],[(0,.mix 3 [[.lst true 1 (Us q0_.code_),iV v2.1,.val (.int .u64 v2.2.1)]]),(1,.mix 1 [[iV (-1)],[iV q1_],[iV 9223372036854775807],[iV (-9223372036854775808)]])],2⟩) (wkP [(0,0),(1,1)] hP) (Q0 (Q2 (st':=⟨[(0,.adr 0 0 0),(1,.own 1 0 ([(-1),q1_,9223372036854775807,(-9223372036854775808)].length))],(0,.mix 3 [[.lst true 1 (Us q0_.code_),iV v2.1,.val (.int .u64 v2.2.1)]])::Y0v q1_ [],2⟩) (Wk.mixRow (j:=1) rfl (by rfl) (by simp[St.get,look]) rfl (by simp[look,Is])) (Q18 [] mo (by rw[hN];decide) λK hK=>?_))));simp;(repeat with_reducible refine sdQ ?_);replace⟨v5,hv5,h⟩:=bind_some h;refine QG (fz:=[]) (frQ (e:={v:=.val (.int .i64 v5.2.2),set:=[(0,.mix 3 [(Y0S q0_ [iV v5.1,.val (.int .u64 v5.2.1)])])],del:=[],new:=[],cnt:=0}) (Qw 100 _ _ v5 hv5) [(0,0)]) ?_;replace⟨a6,h⟩:=Q1 h;simp[at_I a6];(repeat refine sdQ ?_);refine hK _ (tn (Q2 (st':=⟨[(4,iV (ix [(-1),q1_,9223372036854775807,(-9223372036854775808)] v5.2.2))],(0,.mix 3 [(Y0S q0_ [iV v5.1,.val (.int .u64 v5.2.1)])])::Y0v q1_ [],2⟩) (wkP [(0,0),(1,1)] hP) (Qe ?_)));clear hK K;cases h;first|refine iw_r (st':=⟨[(4,iV (ix [(-1),q1_,9223372036854775807,(-9223372036854775808)] v5.2.2))],(0,.mix 3 [(Y0S q0_ [iV v5.1,.val (.int .u64 v5.2.1)])])::Y0v q1_ [],2⟩) ?_ ?_|refine iw_n (st':=⟨[(4,iV (ix [(-1),q1_,9223372036854775807,(-9223372036854775808)] v5.2.2))],(0,.mix 3 [(Y0S q0_ [iV v5.1,.val (.int .u64 v5.2.1)])])::Y0v q1_ [],2⟩) ?_ ?_
    ·exact wkP [(0,0),(1,1)] hP
    exact⟨by simp[Qt],by simp,by simp[CN]⟩
   simp;(repeat refine sdQ ?_);refine hK _ (tn (Q2 (st':=⟨[(4,iV v7.2.2)],[(0,.mix 3 [(Y0S q0_ [iV v7.1,.val (.int .u64 v7.2.1)])])],1⟩) (wkP [(0,0)] hP) (Qe (tr ?_))));clear hK K;cases h;first|refine iw_r (st':=⟨[(4,iV v7.2.2)],[(0,.mix 3 [(Y0S q0_ [iV v7.1,.val (.int .u64 v7.2.1)])])],1⟩) ?_ ?_|refine iw_n (st':=⟨[(4,iV v7.2.2)],[(0,.mix 3 [(Y0S q0_ [iV v7.1,.val (.int .u64 v7.2.1)])])],1⟩) ?_ ?_
   ·exact wkP [(0,0)] hP
   exact⟨by simp[Qt],by simp,by simp[CN]⟩
  have g3:¬(v2.2.2=0):=gQ;clear g;replace h:=if_r g3 h;refine Q8 (tn (Q0 (Q18 [] mo (by rw[hN];decide) λK hK=>?_)));simp;repeat with_reducible refine sdQ ?_
  replace⟨v8,hv8,h⟩:=bind_some h;refine QG (fz:=[]) (frQ (e:={v:=.val (.int .i64 v8.2.2),set:=[(0,.mix 3 [(Y0S q0_ [iV v8.1,.val (.int .u64 v8.2.1)])])],del:=[],new:=[],cnt:=0}) (Qw 100 _ _ v8 hv8) [(0,0)]) ?_;simp;repeat refine sdQ ?_
  refine hK _ (tn (Q2 (st':=⟨[(4,iV v8.2.2)],[(0,.mix 3 [(Y0S q0_ [iV v8.1,.val (.int .u64 v8.2.1)])])],1⟩) (wkP [(0,0)] hP) (Qe ?_)));clear hK K;cases h;first|refine iw_r (st':=⟨[(4,iV v8.2.2)],[(0,.mix 3 [(Y0S q0_ [iV v8.1,.val (.int .u64 v8.2.1)])])],1⟩) ?_ ?_|refine iw_n (st':=⟨[(4,iV v8.2.2)],[(0,.mix 3 [(Y0S q0_ [iV v8.1,.val (.int .u64 v8.2.1)])])],1⟩) ?_ ?_
  ·exact wkP [(0,0)] hP
  exact⟨by simp[Qt],by simp,by simp[CN]⟩
section
attribute [local simp] Qi QP Qv Q1l QN
def Gd{α:Type}(o:Option α)(Q:α→Prop):Prop:=∃r,o=some r∧Q r
theorem Gd.som{α:Type}{r:α}{Q:α→Prop}(h:Q r):Gd (some r) Q:=⟨r,rfl,h⟩
theorem Gd.eq{α:Type}{o:Option α}{r:α}{Q:α→Prop}(h:o=some r)(q:Q r):Gd o Q:=⟨r,h,q⟩
theorem Gd.bind{α β:Type}{o:Option α}{k:α→Option β}{P:α→Prop}{Q:β→Prop}(h:Gd o P)(hk:∀r,P r→Gd (k r) Q):Gd (o.bind k) Q:=by
 obtain⟨r,rfl,hr⟩:=h;exact hk r hr
theorem Gd.ass{α:Type}{p:Prop}{k:Option α}{Q:α→Prop}(hp:p)(h:Gd k Q):Gd (Go.Vc.ass p k) Q:=by rw[Q4 hp];exact h
theorem Gd.ite{α:Type}{p:Prop}{i:Decidable p}{a b:Option α}{Q:α→Prop}(h1:p→Gd a Q)(h2:¬p→Gd b Q):Gd (@_root_.ite _ p i a b) Q:=by
 by_cases h:p
 ·rw[if_pos h];exact h1 h
 rw[if_neg h];exact h2 h
def StQ{σ ε:Type}(N:σ→Prop)(Q:ε→Prop):Ctl σ ε→Prop
 | .next s=>N s
 | .ret e=>Q e
theorem Gd.loopk{σ ε:Type}{body:σ→Option (Ctl σ ε)}{Q:ε→Prop}(n:Nat)(I:Nat→σ→Prop)(hs:∀i s,i≤n→I i s→Gd (body s) (StQ (λs'=>i<n∧I (i+1) s') Q)):∀(d i:Nat) (s:σ),d=n - i→i≤n→I i s→∀k,d<k→Gd (Qo body k s) Q:=by
 intro d
 induction d with
 |zero=>
  intro i s hd hi h k hk;obtain⟨j,rfl⟩:∃j,k=j+1:=⟨k - 1,by omega⟩;obtain⟨c,h1,h2⟩:=hs i s hi h;cases c with
  |next s'=>exact absurd h2.1 (by omega)
  |ret e=>exact⟨e,by simp only[Qo,h1],h2⟩
 |succ d ih=>
  intro i s hd hi h k hk;obtain⟨j,rfl⟩:∃j,k=j+1:=⟨k - 1,by omega⟩;obtain⟨c,h1,h2⟩:=hs i s hi h;cases c with
  |next s'=>
   have:=ih (i+1) s' (by omega) (by have:=h2.1;omega) h2.2 j (by omega);obtain⟨r,g1,g2⟩:=this;exact⟨r,by simp only[Qo,h1];exact g1,g2⟩
  |ret e=>exact⟨e,by simp only[Qo,h1],h2⟩
theorem Gd.loop{σ ε:Type}{body:σ→Option (Ctl σ ε)}{Q:ε→Prop}{s0:σ}(n:Nat)(I:Nat→σ→Prop)(hn:n<4611686018427387904)(h0:I 0 s0)(hs:∀i s,i≤n→I i s→Gd (body s) (StQ (λs'=>i<n∧I (i+1) s') Q)):Gd (Qo body fuel s0) Q:=
 Gd.loopk n I hs (n - 0) 0 s0 rfl (by omega) h0 fuel (by unfold fuel;omega)
def SQ{α β:Type}(A:α→Prop)(B:β→Prop):α⊕β→Prop
 | .inl a=>A a
 | .inr b=>B b
structure Src(q:XL01Source):Prop where
 a0:0≤q.at_
 a1:q.at_≤q.code_.length
 len:q.code_.length≤4096
 by_:∀n∈q.code_,0≤n∧n≤255
theorem and24(x:Int):0≤IntKind.i64.wrap (andI .u64 x 16777215)∧IntKind.i64.wrap (andI .u64 x 16777215)≤16777215:=by
 have h:((BitVec.ofInt 64 x&&& BitVec.ofInt 64 16777215).toNat:Nat)≤16777215:=by
  rw[BitVec.toNat_and];exact Nat.le_trans Nat.and_le_right (by decide)
 have e:andI .u64 x 16777215=IntKind.u64.wrap ((BitVec.ofInt 64 x&&& BitVec.ofInt 64 16777215).toNat:Nat):=rfl;rw[e];generalize ((BitVec.ofInt 64 x&&& BitVec.ofInt 64 16777215).toNat:Nat)=v at h;have e1:IntKind.u64.wrap (v:Int)=v:=by
  simp only[IntKind.wrap,IntKind.bits,IntKind.signed];simp;omega
 rw[e1];have e2:IntKind.i64.wrap (v:Int)=v:=by
  simp only[IntKind.wrap,IntKind.bits,IntKind.signed];simp;split<;>omega
 rw[e2];omega
theorem wrapB{n:Int}(h:0≤n∧n≤255):IntKind.i64.wrap n=n:=by
 simp only[IntKind.wrap,IntKind.bits,IntKind.signed];simp;split<;>omega
theorem mem_ixG{xs:List Int}{j:Int}(h:0≤j∧j<(xs.length:Int)):ix xs j∈xs:=by
 obtain⟨i,rfl⟩:=yT h.1;have hi:i<xs.length:=by omega
 rw[←Q2e _ _ hi];exact yC hi
theorem tmod_bnd{x n:Int}(hx:0≤x)(hn:1≤n):0≤x.tmod n∧x.tmod n<n:=by
 rw[Int.tmod_eq_emod_of_nonneg hx];exact⟨Int.emod_nonneg _ (by omega),Int.emod_lt_of_pos _ (by omega)⟩
theorem Q3p{q:XL01Source}(h:Src q)(n:Int):Gd (Qp 100 q n) λr=>Src ⟨q.code_,r.1,r.2.1⟩∧(1≤n→0≤r.2.2∧r.2.2<n):=by
 obtain⟨a0,a1,len,by_⟩:=h;unfold Qp;refine Gd.ite (λh1=>Gd.som ⟨⟨a0,a1,len,by_⟩,λh2=>by omega⟩) λh1=>?_;refine Gd.bind (P:=λb=>0≤b.1∧b.1≤(q.code_.length:Int)∧0≤b.2) (Gd.ite (λh2=>?_) λh2=>?_) λb hb=>?_
 ·have w:=and24 (shrI .u64 (IntKind.u64.wrap ((IntKind.u64.wrap (q.hash_*6364136223846793005))+1442695040888963407)) 33);have hc:=by_ _ (mem_ixG ⟨a0,h2⟩);rw[wrapB hc];refine Gd.ass ⟨a0,h2⟩ (Gd.ass (by unfold B64;omega) (Gd.ass (by unfold B64;omega) (Gd.som ⟨?_,?_,?_⟩)))
  ·show 0≤q.at_+1;omega
  ·show q.at_+1≤_;omega
  show 0≤_+ix q.code_ q.at_;omega
 ·have w:=and24 (shrI .u64 (IntKind.u64.wrap ((IntKind.u64.wrap (q.hash_*6364136223846793005))+1442695040888963407)) 33);exact Gd.som ⟨a0,a1,w.1⟩
 obtain⟨b1,b2,b3⟩:=hb;exact Gd.ass (by omega) (Gd.som ⟨⟨b1,b2,len,by_⟩,λhn=>tmod_bnd b3 hn⟩)
theorem Q4d{q:XL01Source}(h:Src q)(n:Int):Gd (Qy 100 q n) λr=>Src ⟨r.1,r.2.1,r.2.2.1⟩:=by
 unfold Qy;refine Gd.bind (Q3p h 40) λr hr=>Gd.ite (λh1=>?_) λh1=>?_
 ·refine Gd.bind (P:=λb=>Src ⟨q.code_,b.1,b.2.1⟩) (Gd.bind (Q3p hr.1 _) λb hb=>?_) λb hb=>Gd.som hb;exact Gd.ass (hb.2 (by simp)) (Gd.som hb.1)
 exact Gd.bind (Q3p hr.1 _) λb hb=>Gd.som hb.1
theorem g_from{code:List Int}(hl:code.length≤4096):Gd (Q33 code) λ_=>True:=by
 unfold Q33;refine Gd.bind (Gd.loop (Q:=λ_=>True) code.length (λi s=>s.2=(i:Int)) (by omega) rfl λi s hi hs=>?_) λr _=>Gd.som trivial;refine Gd.bind (P:=λb=>b=true→i<code.length) (Gd.ite (λh1=>Gd.som λ_=>by omega) λh1=>Gd.som λh=>by cases h) λb hb=>Gd.ite (λh1=>?_) λh1=>Gd.som trivial;have:=hb h1;refine Gd.ass (by omega) (Gd.ass (by unfold B64;omega) (Gd.som ⟨this,?_⟩));show s.2+1=_;omega
end
attribute [local simp] unk unA unE unT unC flat eL eI Qc
def Q1Q(rel_:List (List Int)):Option Bool:=
 (Q1p rel_ 2).bind λv1=>
 if¬(v1=true)then
  some false
 else
  (Qo (σ:=Int) (ε:=Unit⊕Bool) (λs67=>
   if s67<(rel_.length:Int)then
    (
     ass (0≤s67∧s67<(rel_.length:Int))<|
     ass (0≤s67∧s67<((rx rel_ s67).length:Int))<|
     if¬((ix (rx rel_ s67) s67)=1)then
      some (yL false)
     else
      (Qo (σ:=Int) (ε:=Bool⊕Unit) (λs101=>
       if s101<(rel_.length:Int)then
        (
         (Qo (σ:=Int) (ε:=Bool⊕Unit) (λs116=>
          if s116<(rel_.length:Int)then
           (
            ass (0≤s67∧s67<(rel_.length:Int))<|
            ass (0≤s101∧s101<((rx rel_ s67).length:Int))<|
            if(ix (rx rel_ s67) s101)=1 then
             ass (0≤s101∧s101<(rel_.length:Int))<|
             ass (0≤s116∧s116<((rx rel_ s101).length:Int))<|
             if(ix (rx rel_ s101) s116)=1 then
              ass (0≤s67∧s67<(rel_.length:Int))<|
              ass (0≤s116∧s116<((rx rel_ s67).length:Int))<|
              some ((ix (rx rel_ s67) s116)!=1)
             else
              some false
            else
             some false:Option (Bool)).bind λb118=>
           if b118=true then
            some (yM (yK false))
           else
            ass (B64 (s116+1))<|
            some (yO (s116+1))
          else
           some (yM (yL ()))) fuel 0).bind λe116=>
         match e116 with
         | .inl p116=>
          some (yL p116)
         | .inr p116=>
          some (yK p116):Option (Unit⊕Bool)).bind λe103=>
        match e103 with
        | .inl b103=>
         ass (B64 (s101+1))<|
         some (yO (s101+1))
        | .inr p103=>
         some (yM (yK p103))
       else
        some (yM (yL ()))) fuel 0).bind λe101=>
      match e101 with
      | .inl p101=>
       some (yL p101)
      | .inr p101=>
       some (yK p101):Option (Unit⊕Bool)).bind λe69=>
    match e69 with
    | .inl b69=>
     ass (B64 (s67+1))<|
     some (yO (s67+1))
    | .inr p69=>
     some (yM (yL p69))
   else
    some (yM (yK ()))) fuel 0).bind λe3=>
  match e3 with
  | .inl b3=>
   some true
  | .inr p3=>
   some p3
theorem Q6g(rel_:List (List Int))(r:Bool)(h:Q1Q rel_=some r):Contract Try.prog 164 (Y0W rel_ []) (.val (.bool r)):=by
 refine Q6 (rvs:=[.tmp 2]) (rs:=[.val (.bool r)]) Try.func164 rfl rfl rfl rfl (by simp[Try.f164]) λF hN hP=>?_;unfold Q1Q at h;refine Q0 (runQ hN λK hK=>?_);simp;repeat refine sdQ ?_
 refine hK _ ?_;clear hK K;refine tn (Q2 (st':=⟨YB rel_ [],[],0⟩) (wkQ []) (Q0 (Q0 (runQ hN λK hK=>?_))));simp;repeat with_reducible refine sdQ ?_
 replace⟨v1,hv1,h⟩:=bind_some h;refine Q3 (Q3Q _ _ v1 hv1) (.cons .lst (.cons .val .nil)) ?_;simp;repeat refine sdQ ?_
 refine hK _ ?_;clear hK K;refine tn (Q2 (st':=⟨YB rel_ [(8,.val (.bool (!v1)))],[],0⟩) (wkQ []) (Q7 rfl (λg=>?_) λg=>?_))
 ·have g2:¬(v1=true):=gQ;clear g;replace h:=if_l g2 h;refine Q0 (runQ hN λK hK=>?_);simp;repeat refine sdQ ?_
  refine hK _ (tn (Q2 (st':=⟨YM [],[],0⟩) (wkQ []) (Qe (tr ?_))));clear hK K;have hr:=yJ h;rw[←hr];refine⟨_,(.tmp .nil),?_⟩;refine⟨(.one rfl rfl .nil),[.val (.bool false)],[],by simp[BN],by simp,(yN _)⟩
 have g2:¬(¬(v1=true)):=gQ;clear g;replace h:=if_r g2 h;refine Q8 (tn (Q0 (Q0 (runQ hN λK hK=>?_))));simp;repeat refine sdQ ?_
 refine hK _ (tn (Q2 (st':=⟨YB rel_ [(3,iV 0)],[],0⟩) (wkQ []) ?_));clear hK K;replace⟨e3,h,h3⟩:=bind_some h;refine Q9 (λb3:Unit=>⟨[],[],0⟩) (λb3=>yK b3=e3) ?_ ?_
 ·refine Q5 (Qj h (λs67:Int=>⟨YB rel_ [(3,iV s67)],[],0⟩) (wkQ []) ?_);clear h;intro k67 s67 c67 h hk67;refine Q0 (Q0 (runQ hN λK hK=>?_));simp;repeat refine sdQ ?_
  refine hK _ ?_;clear hK K;refine tn (Q7 rfl (λg=>?_) λg=>?_)
  ·have g68:s67<(rel_.length:Int):=gQ;clear g;replace h:=if_l g68 h;refine Q8 (tn (Q0 ?_));replace⟨e69,h,h69⟩:=bind_some h;refine Q9 (λb69:Unit=>⟨YB rel_ [(3,iV s67)],[],0⟩) (λb69=>yK b69=e69) ?_ ?_
   ·refine Q5 (Q0 (Q0 (runQ hN λK hK=>?_)));replace⟨a70,h⟩:=Q1 h;replace⟨a71,h⟩:=Q1 h;simp[at_L a70,at_I a71];(repeat refine sdQ ?_);refine hK _ ?_;clear hK K;refine tn (Q7 rfl (λg=>?_) λg=>?_)
    ·have g72:¬((ix (rx rel_ s67) s67)=1):=gQ;clear g;replace h:=if_l g72 h;refine Q0 (runQ hN λK hK=>?_);simp;(repeat refine sdQ ?_);refine hK _ (tn (Q2 (st':=⟨YM [],[],0⟩) (wkQ []) (Qe (tr (br (tr (lr (br (tr ?_)))))))));clear hK K;cases h;have h:=h69;(try dsimp only at h);cases h;have q:_=e3:=hk67;have h:=h3;rw[←q]at h;clear q;(try dsimp only at h);have hr:=yJ h;rw[←hr];refine⟨_,(.tmp .nil),?_⟩;refine⟨(.one rfl rfl .nil),[.val (.bool false)],[],by simp[BN],by simp,(yN _)⟩
    have g72:¬(¬((ix (rx rel_ s67) s67)=1)):=gQ;clear g;replace h:=if_r g72 h;refine Q8 (tn (Q0 (runQ hN λK hK=>?_)));simp;(repeat refine sdQ ?_);refine hK _ (tn (Q2 (st':=⟨YB rel_ [(3,iV s67),(4,iV 0)],[],0⟩) (wkQ []) (Q5 ?_)));clear hK K;replace⟨e101,he101,h101⟩:=bind_some h;refine Qj he101 (λs101:Int=>⟨YB rel_ [(3,iV s67),(4,iV s101)],[],0⟩) (wkQ []) ?_;intro k101 s101 c101 h hk101;refine Q0 (Q0 (runQ hN λK hK=>?_));simp;(repeat refine sdQ ?_);refine hK _ ?_;clear hK K;refine tn (Q7 rfl (λg=>?_) λg=>?_)
    ·have g102:s101<(rel_.length:Int):=gQ;clear g;replace h:=if_l g102 h;refine Q8 (tn (Q0 ?_));replace⟨e103,h,h103⟩:=bind_some h;refine Q9 (λb103:Unit=>⟨YB rel_ [(3,iV s67),(4,iV s101)],[],0⟩) (λb103=>yK b103=e103) ?_ ?_
     ·refine Q5 (Q0 (runQ hN λK hK=>?_));simp;(repeat refine sdQ ?_);refine hK _ (tn (Q2 (st':=⟨YB rel_ [(3,iV s67),(4,iV s101),(5,iV 0)],[],0⟩) (wkQ []) (Q5 ?_)));clear hK K;replace⟨e116,he116,h116⟩:=bind_some h;refine Qj he116 (λs116:Int=>⟨YB rel_ [(3,iV s67),(4,iV s101),(5,iV s116)],[],0⟩) (wkQ []) ?_;intro k116 s116 c116 h hk116;refine Q0 (Q0 (runQ hN λK hK=>?_));simp;(repeat refine sdQ ?_);refine hK _ ?_;clear hK K;refine tn (Q7 rfl (λg=>?_) λg=>?_)
      ·have g117:s116<(rel_.length:Int):=gQ;clear g;replace h:=if_l g117 h;refine Q8 (tn (Q0 (Q5 (Q0 ?_))));replace⟨e118,h,h118⟩:=bind_some h;refine Q9 (λb118:Bool=>⟨YB rel_ [(3,iV s67),(4,iV s101),(5,iV s116),(62,.val (.bool b118))],[],0⟩) (λb118=>b118=e118) ?_ ?_
       ·refine runQ hN λK hK=>?_;replace⟨a119,h⟩:=Q1 h;replace⟨a120,h⟩:=Q1 h;simp[at_L a119,at_I a120];(repeat with_reducible refine sdQ ?_);refine Qa (λg=>?_) (λg=>?_)
        ·have g121:(ix (rx rel_ s67) s101)=1:=gQ;clear g;replace h:=if_l g121 h;replace⟨a122,h⟩:=Q1 h;replace⟨a123,h⟩:=Q1 h;simp[at_L a119,at_I a120,at_L a122,at_I a123];(repeat with_reducible refine sdQ ?_);refine Qa (λg=>?_) (λg=>?_)
         ·have g124:(ix (rx rel_ s101) s116)=1:=gQ;clear g;replace h:=if_l g124 h;replace⟨a125,h⟩:=Q1 h;replace⟨a126,h⟩:=Q1 h;simp[at_L a119,at_I a120,at_L a122,at_I a123,at_L a125,at_I a126];(repeat refine sdQ ?_);refine hK _ ?_;exact jn (b:=(ix (rx rel_ s67) s116)!=1) (yJ h) (wkQ [])
         have g124:¬((ix (rx rel_ s101) s116)=1):=gQ;clear g;replace h:=if_r g124 h;simp[at_L a119,at_I a120,at_L a122,at_I a123];(repeat refine sdQ ?_);refine hK _ ?_;exact jn (b:=false) (yJ h) (wkQ [])
        have g121:¬((ix (rx rel_ s67) s101)=1):=gQ;clear g;replace h:=if_r g121 h;simp[at_L a119,at_I a120];(repeat refine sdQ ?_);refine hK _ ?_;exact jn (b:=false) (yJ h) (wkQ [])
       intro b118 hb118;have h:=h118;(try rw[←hb118]at h);clear h118;(try dsimp only at h);refine Q7 rfl (λg=>?_) λg=>?_
       ·have g127:b118=true:=gQ;clear g;replace h:=if_l g127 h;refine Q0 (runQ hN λK hK=>?_);simp;(repeat refine sdQ ?_);refine hK _ (tn (Q2 (st':=⟨YM [],[],0⟩) (wkQ []) (Qe (br (tr (lr (br (br (tr (lr (br (br (tr (lr (br (tr ?_))))))))))))))));clear hK K;cases h;have q:_=e116:=hk116;have h:=h116;rw[←q]at h;clear q;(try dsimp only at h);cases h;have h:=h103;(try dsimp only at h);cases h;have q:_=e101:=hk101;have h:=h101;rw[←q]at h;clear q;(try dsimp only at h);cases h;have h:=h69;(try dsimp only at h);cases h;have q:_=e3:=hk67;have h:=h3;rw[←q]at h;clear q;(try dsimp only at h);have hr:=yJ h;rw[←hr];refine⟨_,(.tmp .nil),?_⟩;refine⟨(.one rfl rfl .nil),[.val (.bool false)],[],by simp[BN],by simp,(yN _)⟩
       have g127:¬(b118=true):=gQ;clear g;replace h:=if_r g127 h;refine Q8 (bn (tn (runQ hN λK hK=>?_)));replace⟨a128,h⟩:=Q1 h;simp[Qh a128];(repeat refine sdQ ?_);refine hK _ ?_;clear hK K;cases h;exact rn (s':=s116+1) hk116 (wkQ [])
      have g117:¬(s116<(rel_.length:Int)):=gQ;clear g;replace h:=if_r g117 h;refine Ql (tx (lx (bh (bn ?_))));cases h;have q:_=e116:=hk116;have h:=h116;rw[←q]at h;clear q;(try dsimp only at h);exact jn (b:=()) (yJ h) (wkQ [])
     intro b103 hb103;have h:=h103;(try rw[←hb103]at h);clear h103;(try dsimp only at h);refine runQ hN λK hK=>?_;replace⟨a129,h⟩:=Q1 h;simp[Qh a129];(repeat refine sdQ ?_);refine hK _ ?_;clear hK K;cases h;exact rn (s':=s101+1) hk101 (wkQ [])
    have g102:¬(s101<(rel_.length:Int)):=gQ;clear g;replace h:=if_r g102 h;refine Ql (tx (lx (bh (bn ?_))));cases h;have q:_=e101:=hk101;have h:=h101;rw[←q]at h;clear q;(try dsimp only at h);exact jn (b:=()) (yJ h) (wkQ [])
   intro b69 hb69;have h:=h69;(try rw[←hb69]at h);clear h69;(try dsimp only at h);refine runQ hN λK hK=>?_;replace⟨a130,h⟩:=Q1 h;simp[Qh a130];(repeat refine sdQ ?_);refine hK _ ?_;clear hK K;cases h;exact rn (s':=s67+1) hk67 (wkQ [])
  have g68:¬(s67<(rel_.length:Int)):=gQ;clear g;replace h:=if_r g68 h;refine Ql (tx (lx (bh ?_)));cases h;exact jn (b:=()) hk67 (wkQ [])
 intro b3 hb3;have h:=h3;try rw[←hb3]at h
 clear h3;try dsimp only at h
 refine Q0 (runQ hN λK hK=>?_);simp;repeat refine sdQ ?_
 refine hK _ (tn (Q2 (st':=⟨Y0u [],[],0⟩) (wkQ []) (Qe ?_)));clear hK K;have hr:=yJ h;rw[←hr];refine⟨_,(.tmp .nil),?_⟩;refine⟨(.one rfl rfl .nil),[.val (.bool true)],[],by simp[BN],by simp,(yN _)⟩
attribute [local simp] unk unA unE unT unC flat eL eI Qc
def Q1D(table_:List (List Int)):Option Bool:=
 (
  if(table_.length:Int)>0 then
   (Q1p table_ (table_.length:Int)).bind λv3=>
   if v3=true then
    (Q1S table_ 0).bind λv5=>
    some v5
   else
    some false
  else
   some false:Option (Bool)).bind λb1=>
 some b1
theorem Q3S(table_:List (List Int))(r:Bool)(h:Q1D table_=some r):Contract Try.prog 163 (Y0W table_ []) (.val (.bool r)):=by
 refine Q6 (rvs:=[.tmp 2]) (rs:=[.val (.bool r)]) Try.func163 rfl rfl rfl rfl (by simp[Try.f163]) λF hN hP=>?_;unfold Q1D at h;refine Q0 (runQ hN λK hK=>?_);simp;repeat refine sdQ ?_
 refine hK _ (tn (Q2 (st':=⟨YB table_ [],[],0⟩) (wkQ []) (Q0 ?_)));clear hK K;replace⟨e1,h,h1⟩:=bind_some h;refine Q9 (λb1:Bool=>⟨[(2,.val (.bool b1))],[],0⟩) (λb1=>b1=e1) ?_ ?_
 ·refine runQ hN λK hK=>?_;simp;repeat with_reducible refine sdQ ?_
  refine Qa (λg=>?_) (λg=>?_)
  ·have g2:(table_.length:Int)>0:=gQ;clear g;replace h:=if_l g2 h;simp;(repeat with_reducible refine sdQ ?_);replace⟨v3,hv3,h⟩:=bind_some h;refine Q3 (Q3Q _ _ v3 hv3) (.cons .lst (.cons .val .nil)) ?_;simp;(repeat with_reducible refine sdQ ?_);refine Qa (λg=>?_) (λg=>?_)
   ·have g4:v3=true:=gQ;clear g;replace h:=if_l g4 h;simp;(repeat with_reducible refine sdQ ?_);replace⟨v5,hv5,h⟩:=bind_some h;refine Q3 (Q49 _ _ v5 hv5) (.cons .lst (.cons .val .nil)) ?_;simp;(repeat refine sdQ ?_);refine hK _ ?_;exact jn (b:=v5) (yJ h) (wkQ [])
   have g4:¬(v3=true):=gQ;clear g;replace h:=if_r g4 h;simp;(repeat refine sdQ ?_);refine hK _ ?_;exact jn (b:=false) (yJ h) (wkQ [])
  have g2:¬((table_.length:Int)>0):=gQ;clear g;replace h:=if_r g2 h;simp;repeat refine sdQ ?_
  refine hK _ ?_;exact jn (b:=false) (yJ h) (wkQ [])
 intro b1 hb1;have h:=h1;try rw[←hb1]at h
 clear h1;try dsimp only at h
 refine Qe ?_;have hr:=yJ h;rw[←hr];refine⟨_,(.tmp .nil),?_⟩;refine⟨(.one rfl rfl .nil),[.val (.bool b1)],[],by simp[BN],by simp,(yN _)⟩
section
attribute [local simp] Qi QP Qv Q1l QN
def SqB(t:List (List Int))(b:Int):Prop:=∀i:Nat,i<t.length→((rx t i).length:Int)=t.length∧∀j:Nat,j<(rx t i).length→0≤ix (rx t i) j∧ix (rx t i) j<b
theorem Q90{t:List (List Int)}{b:Int}(hl:t.length≤1000):Q1p t b=some (bo (SqB t b)):=by
 unfold Q1p;refine chkI t.length (λi=>((rx t i).length:Int)=t.length∧∀j:Nat,j<(rx t i).length→0≤ix (rx t i) j∧ix (rx t i) j<b) (yL false) (yK ()) (by omega) (λi hi=>?_) (by rw[if_neg (by omega)]) ?_
 ·rw[if_pos (by omega),Q4 (by omega)]
  by_cases h2:((rx t i).length:Int)=t.length
  case neg=>rw[if_pos h2,Qd (λq=>h2 q.1)];rfl
  rw[if_neg (QW h2),Q4 (by omega)];unfold Q1i;simp only[yA];cases h3:(rx t i).all (inR b)with
  |true=>rw[Qk ⟨h2,all_inR.1 h3⟩,Q4 (by unfold B64;omega)];rfl
  |false=>rw[Qd (λq=>by rw[all_inR.2 q.2]at h3;cases h3)];rfl
 by_cases q:∀i:Nat,i<t.length→((rx t i).length:Int)=t.length∧∀j:Nat,j<(rx t i).length→0≤ix (rx t i) j∧ix (rx t i) j<b
 ·rw[Qk q,Qk (show SqB t b from q)];rfl
 rw[Qd q,Qd (show¬SqB t b from q)];rfl
def MonT(t:List (List Int)):Prop:=0<t.length∧Tbl t t.length∧Aso t 0
theorem e_monT{t:List (List Int)}(hl:t.length≤1000):Q1D t=some (bo (MonT t)):=by
 unfold Q1D
 by_cases h0:(t.length:Int)>0
 case neg=>rw[if_neg h0,Qd (show¬MonT t from λq=>h0 (by have:=q.1;omega))];rfl
 rw[if_pos h0,Q90 hl]
 by_cases h1:SqB t t.length
 case neg=>rw[Qd h1,Qd (show¬MonT t from λq=>h1 q.2.1.2)];rfl
 rw[Qk h1];simp only[yA,if_true];have hT:Tbl t t.length:=⟨rfl,h1⟩;rw[Q4Z hT (by omega) (by omega)]
 by_cases h2:Aso t 0
 ·rw[Qk h2,Qk (show MonT t from⟨by omega,hT,h2⟩)];rfl
 rw[Qd h2,Qd (show¬MonT t from λq=>h2 q.2.2)];rfl
abbrev Rl(t:List (List Int))(i j:Int):Prop:=ix (rx t i) j=1
structure PreO(t:List (List Int)):Prop where
 sq:SqB t 2
 rf:∀i:Nat,i<t.length→Rl t i i
 tr:∀i j k:Nat,i<t.length→j<t.length→k<t.length→Rl t i j→Rl t j k→Rl t i k
theorem Q9v{t:List (List Int)}(hl:t.length≤1000):Gd (Q1Q t) λb=>b=true→PreO t:=by
 unfold Q1Q;refine Gd.bind (Gd.eq (Q:=λb=>b=true→SqB t 2) (Q90 hl) λh=>(bo_tt _).mp h) λb hb=>Gd.ite (λ_=>Gd.som λh=>by cases h) λh1=>?_;have sq:SqB t 2:=hb (by simpa using h1);have ln:∀i:Int,0≤i→i<t.length→((rx t i).length:Int)=t.length:=λi h0 h2=>by
  obtain⟨a,rfl⟩:=yT h0;exact(sq a (by omega)).1
 have cell:∀i j:Int,0≤i→i<t.length→0≤j→j<t.length→j<((rx t i).length:Int):=λi j h0 h2 h3 h4=>by rw[ln i h0 h2];exact h4
 refine Gd.bind (P:=SQ (λ_=>PreO t) (λb=>b=false)) (Gd.loop t.length (λn s=>s=(n:Int)∧∀i:Nat,i<n→Rl t i i∧∀j:Nat,j<t.length→∀k:Nat,k<t.length→Rl t i j→Rl t j k→Rl t i k) (by omega) ⟨rfl,λi hi=>by omega⟩ λn s hn hs=>?_) λe he=>?_
 ·obtain⟨rfl,hI⟩:=hs;refine Gd.ite (λh2=>?_) λh2=>Gd.som ?_
  ·have hnt:n<t.length:=(by omega);refine Gd.bind (P:=SQ (λ_=>Rl t n n∧∀j:Nat,j<t.length→∀k:Nat,k<t.length→Rl t n j→Rl t j k→Rl t n k) (λb=>b=false)) ?_ λe he=>?_
   ·refine Gd.ass (by omega) (Gd.ass ⟨by omega,cell _ _ (by omega) h2 (by omega) h2⟩ (Gd.ite (λ_=>Gd.som rfl) λh3=>?_));have h3:Rl t n n:=Classical.not_not.1 h3;refine Gd.bind (P:=SQ (λb=>b=false) (λ_=>∀j:Nat,j<t.length→∀k:Nat,k<t.length→Rl t n j→Rl t j k→Rl t n k)) (Gd.loop t.length (λm s=>s=(m:Int)∧∀j:Nat,j<m→∀k:Nat,k<t.length→Rl t n j→Rl t j k→Rl t n k) (by omega) ⟨rfl,λi hi=>by omega⟩ λm s hm hs=>?_) λe he=>?_
    ·obtain⟨rfl,hJ⟩:=hs;refine Gd.ite (λh4=>?_) λh4=>Gd.som ?_
     ·refine Gd.bind (P:=SQ (λ_=>∀k:Nat,k<t.length→Rl t n m→Rl t m k→Rl t n k) (λb=>b=false)) ?_ λe he=>?_
      ·refine Gd.bind (P:=SQ (λb=>b=false) (λ_=>∀k:Nat,k<t.length→Rl t n m→Rl t m k→Rl t n k)) (Gd.loop t.length (λl s=>s=(l:Int)∧∀k:Nat,k<l→Rl t n m→Rl t m k→Rl t n k) (by omega) ⟨rfl,λi hi=>by omega⟩ λl s hl' hs=>?_) λe he=>?_
       ·obtain⟨rfl,hK⟩:=hs;refine Gd.ite (λh5=>?_) λh5=>Gd.som ?_
        ·refine Gd.bind (P:=λb=>b=false→Rl t n m→Rl t m l→Rl t n l) ?_ λb hb=>Gd.ite (λ_=>Gd.som rfl) λh6=>?_
         ·refine Gd.ass (by omega) (Gd.ass ⟨by omega,cell _ _ (by omega) h2 (by omega) h4⟩ (Gd.ite (λq1=>?_) λq1=>Gd.som λ_ q=>absurd q q1));refine Gd.ass (by omega) (Gd.ass ⟨by omega,cell _ _ (by omega) h4 (by omega) h5⟩ (Gd.ite (λq2=>?_) λq2=>Gd.som λ_ _ q=>absurd q q2));exact Gd.ass (by omega) (Gd.ass ⟨by omega,cell _ _ (by omega) h2 (by omega) h5⟩ (Gd.som λq _ _=>by simpa using q))
         have:=hb (by simpa using h6);refine Gd.ass (by unfold B64;omega) (Gd.som ⟨by omega,rfl,λk hk=>?_⟩)
         by_cases hkl:k=l
         ·subst hkl;exact this
         exact hK k (by omega)
        show∀k:Nat,k<t.length→_;exact λk hk=>hK k (by omega)
       cases e with
       |inl p=>exact Gd.som he
       |inr p=>exact Gd.som he
      cases e with
      |inl p=>
       refine Gd.ass (by unfold B64;omega) (Gd.som ⟨by omega,rfl,λj hj=>?_⟩)
       by_cases hjm:j=m
       ·subst hjm;exact he
       exact hJ j (by omega)
      |inr p=>exact Gd.som he
     show∀j:Nat,j<t.length→_;exact λj hj=>hJ j (by omega)
    cases e with
    |inl p=>exact Gd.som he
    |inr p=>exact Gd.som ⟨h3,he⟩
   cases e with
   |inl p=>
    refine Gd.ass (by unfold B64;omega) (Gd.som ⟨by omega,rfl,λi hi=>?_⟩)
    by_cases hin:i=n
    ·subst hin;exact he
    exact hI i (by omega)
   |inr p=>exact Gd.som he
  show PreO t;exact⟨sq,λi hi=>(hI i (by omega)).1,λi j k hi hj hk=>(hI i (by omega)).2 j hj k hk⟩
 cases e with
 |inl p=>exact Gd.som λ_=>he
 |inr p=>exact Gd.som λq=>by rw[show p=false from he]at q;cases q
end
attribute [local simp] unk unA unE unT unC flat Qf XL01Source.cells
def QC(k:Nat)(q0_:XL01Source)(q1_:Int):Option (List Int×Int×Int×List (List Int)):=match k with
 |0=>none
 |k+1=>
  (Qo (σ:=List Int×Int×Int×List (List Int)×Int) (ε:=List Int×Int×Int×List (List Int)) (λs23=>
   if s23.2.2.2.2<q1_ then
    ass (0≤q1_∧q1_≤1073741824)<|
    ass (0≤s23.2.2.2.2∧s23.2.2.2.2<((zL q1_.toNat (0:Int)).length:Int))<|
    ass (B64 (s23.2.2.2.2+1))<|
    (Qo (σ:=List Int×Int×Int×List Int×Int) (ε:=List Int×Int×Int×List Int) (λs34=>
     if s34.2.2.2.2<q1_ then
      (Qp 100 (⟨s34.1,s34.2.1,s34.2.2.1⟩:XL01Source) 2).bind λv36=>
      ass (0≤s34.2.2.2.2∧s34.2.2.2.2<(s34.2.2.2.1.length:Int))<|
      ass (B64 (s34.2.2.2.2+1))<|
      some (yO (s34.1,v36.1,v36.2.1,s34.2.2.2.1.set s34.2.2.2.2.toNat v36.2.2,s34.2.2.2.2+1))
     else
      some (yM (s34.1,s34.2.1,s34.2.2.1,s34.2.2.2.1))) fuel (s23.1,s23.2.1,s23.2.2.1,(zL q1_.toNat (0:Int)).set s23.2.2.2.2.toNat 1,s23.2.2.2.2+1)).bind λb28=>
    ass ((s23.2.2.2.1++[b28.2.2.2]).length≤1073741824)<|
    ass (B64 (s23.2.2.2.2+1))<|
    some (yO (b28.1,b28.2.1,b28.2.2.1,s23.2.2.2.1++[b28.2.2.2],s23.2.2.2.2+1))
   else
    some (yM (s23.1,s23.2.1,s23.2.2.1,s23.2.2.2.1))) fuel (q0_.code_,q0_.at_,q0_.hash_,[],0)).bind λb2=>
  (
   if q1_>1 then
    (Qp 100 (⟨b2.1,b2.2.1,b2.2.2.1⟩:XL01Source) 4).bind λv43=>
    some (b2.1,v43.1,v43.2.1,v43.2.2==0)
   else
    some (b2.1,b2.2.1,b2.2.2.1,false):Option (List Int×Int×Int×Bool)).bind λb41=>
  (
   if b41.2.2.2=true then
    ass (B64 (q1_ - 1))<|
    ass (0≤q1_ - 1∧q1_ - 1<(b2.2.2.2.length:Int))<|
    (Qp 100 (⟨b41.1,b41.2.1,b41.2.2.1⟩:XL01Source) q1_).bind λv48=>
    ass (0≤v48.2.2∧v48.2.2<((rx b2.2.2.2 (q1_ - 1)).length:Int))<|
    some (b41.1,v48.1,v48.2.1,b2.2.2.2.set ((q1_ - 1).toNat) ((rx b2.2.2.2 (q1_ - 1)).set v48.2.2.toNat 1))
   else
    some (b41.1,b41.2.1,b41.2.2.1,b2.2.2.2):Option (List Int×Int×Int×List (List Int))).bind λb44=>
  (Qo (σ:=List (List Int)×Int) (ε:=List (List Int)) (λs111=>
   if s111.2<q1_ then
    (
     (Qo (σ:=List (List Int)×Int) (ε:=List (List Int)) (λs142=>
      if s142.2<q1_ then
       (
        (Qo (σ:=List (List Int)×Int) (ε:=List (List Int)) (λs157=>
         if s157.2<q1_ then
          (
           (
            ass (0≤s142.2∧s142.2<(s157.1.length:Int))<|
            ass (0≤s111.2∧s111.2<((rx s157.1 s142.2).length:Int))<|
            if(ix (rx s157.1 s142.2) s111.2)=1 then
             ass (0≤s111.2∧s111.2<(s157.1.length:Int))<|
             ass (0≤s157.2∧s157.2<((rx s157.1 s111.2).length:Int))<|
             some ((ix (rx s157.1 s111.2) s157.2)==1)
            else
             some false:Option (Bool)).bind λb160=>
           if b160=true then
            ass (0≤s142.2∧s142.2<(s157.1.length:Int))<|
            ass (0≤s157.2∧s157.2<((rx s157.1 s142.2).length:Int))<|
            some (s157.1.set s142.2.toNat ((rx s157.1 s142.2).set s157.2.toNat 1))
           else
            some s157.1:Option (List (List Int))).bind λb159=>
          ass (B64 (s157.2+1))<|
          some (yO (b159,s157.2+1))
         else
          some (yM s157.1)) fuel (s142.1,0)).bind λp157=>
        some p157:Option (List (List Int))).bind λb144=>
       ass (B64 (s142.2+1))<|
       some (yO (b144,s142.2+1))
      else
       some (yM s142.1)) fuel (s111.1,0)).bind λp142=>
     some p142:Option (List (List Int))).bind λb113=>
    ass (B64 (s111.2+1))<|
    some (yO (b113,s111.2+1))
   else
    some (yM s111.1)) fuel (b44.2.2.2,0)).bind λb50=>
  some (b44.1,b44.2.1,b44.2.2.1,b50)
@[simp] abbrev Ys(a:List Int×Int×Int×List (List Int))(b:List (Nat×Ent)):List (Nat×Ent):=(0,.mix 3 [[.lst true 1 (Us a.1),iV a.2.1,.val (.int .u64 a.2.2.1)]])::b
@[simp] abbrev YV(a:Int)(b:List Int×Int×Int×List (List Int)×Int)(c:List (Nat×AV)):List (Nat×AV):=(0,.adr 0 0 0)::(1,iV a)::(5,.own 1 0 b.2.2.2.1.length)::(6,iV b.2.2.2.2)::c
@[simp] abbrev Y07(a:List Int×Int×Int×List (List Int)×Int)(b:List (Nat×Ent)):List (Nat×Ent):=(0,.mix 3 [[.lst true 1 (Us a.1),iV a.2.1,.val (.int .u64 a.2.2.1)]])::(1,.row 1 (Ls a.2.2.2.1))::b
theorem Q1r:∀(k:Nat) (q0_:XL01Source) (q1_:Int) (vR:List Int×Int×Int×List (List Int)) (h:QC k q0_ q1_=some vR),ICon Try.prog 156 [.adr 0 0 0,iV q1_] (λid=>look id [(0,.mix 3 [(XL01Source.cells true q0_)])]) 1 {v:=.own 1 0 vR.2.2.2.length,set:=[(0,.mix 3 [[.lst true 1 (Us vR.1),iV vR.2.1,.val (.int .u64 vR.2.2.1)]])],del:=[],new:=[(1,.row 1 (Ls vR.2.2.2))],cnt:=1}:=by
 intro k
 induction k with
 |zero=>
  intro q0_ q1_ vR h;simp[QC]at h
 |succ k ih=>
  intro q0_ q1_ vR h;refine Q1P (ts:=[4]) (H:=[(0,.mix 3 [(XL01Source.cells true q0_)])]) Try.func156 rfl rfl rfl (by simp[Try.f156]) (by simp) (Q5r (by simp)) (newI (by rfl)) λF hN hP=>?_;unfold QC at h;try dsimp only at h
  refine Q0 (rxQ hN λK hK=>?_);simp[-yU,eL,eI,Qc,Qf,XL01Source.cells];repeat refine sdQ ?_
  refine hK _ ?_;clear hK K;refine tn (Q2 (st':=⟨Y0q q1_ [],YZ q0_ [],1⟩) (wkP [(0,0)] hP) (Q0 (rxQ hN λK hK=>?_)));simp[-yU,eL,eI,Qc,Qf,XL01Source.cells];repeat refine sdQ ?_
  refine hK _ ?_;clear hK K;refine tn (Q2 (st':=⟨Y0q q1_ [(5,.own 1 0 0)],YZ q0_ [(1,.mix 1 [])],2⟩) (wkP [(0,0),(1,1)] hP) (Q0 (Q0 (rxQ hN λK hK=>?_))));simp[-yU,eL,eI,Qc,Qf,XL01Source.cells];repeat refine sdQ ?_
  refine hK _ (tn (Q2 (st':=⟨Y0q q1_ [(5,.own 1 0 0),(6,iV 0)],YZ q0_ [(1,.mix 1 [])],2⟩) (wkP [(0,0),(1,1)] hP) ?_));clear hK K;replace⟨e2,h,h2⟩:=bind_some h;refine Q9 (λb2:List Int×Int×Int×List (List Int)=>⟨Y0q q1_ [(5,.own 1 0 b2.2.2.2.length)],Ys b2 [(1,.row 1 (Ls b2.2.2.2))],2⟩) (λb2=>b2=e2) ?_ ?_
  ·refine Q5 (Qj h (λs23:List Int×Int×Int×List (List Int)×Int=>⟨YV q1_ s23 [],Y07 s23 [],2⟩) (Q2Y ⟨Y0q q1_ [(5,.own 1 0 0),(6,iV 0)],YZ q0_ [(1,.row 1 (Ls []))],2⟩ (nlQ []) (wkP [(0,0),(1,1)] hP)) ?_);clear h;intro k23 s23 c23 h hk23;refine Q0 (Q0 (rxQ hN λK hK=>?_));simp[-yU,eL,eI,Qc,Qf,XL01Source.cells];(repeat refine sdQ ?_);refine hK _ ?_;clear hK K;refine tn (Q7 rfl (λg=>?_) λg=>?_)
   ·have g24:s23.2.2.2.2<q1_:=gQ;clear g;replace h:=if_l g24 h;refine Q8 (tn (Q0 (Q5 (Q0 (rxQ hN λK hK=>?_)))));replace⟨a25,h⟩:=Q1 h;simp[-yU,eL,eI,Qc,Qf,XL01Source.cells];(repeat refine sdQ ?_);refine hK _ ?_;clear hK K;refine tn (Q2 (st':=⟨YV q1_ s23 [(7,.own 2 0 ((zL q1_.toNat (0:Int)).length))],Y07 s23 [(2,rI (zL q1_.toNat (0:Int)))],3⟩) (wkJ 3 hP) (Q0 (rxQ hN λK hK=>?_)));replace⟨a26,h⟩:=Q1 h;simp[-yU,eL,eI,Qc,Qf,XL01Source.cells,at_I a26];(repeat refine sdQ ?_);refine hK _ ?_;clear hK K;refine tn (Q2 (st':=⟨YV q1_ s23 [(7,.own 2 0 (((zL q1_.toNat (0:Int)).set s23.2.2.2.2.toNat 1).length))],Y07 s23 [(2,rI ((zL q1_.toNat (0:Int)).set s23.2.2.2.2.toNat 1))],3⟩) (wkJ 3 hP) (Q0 (Q0 (rxQ hN λK hK=>?_))));replace⟨a27,h⟩:=Q1 h;simp[-yU,eL,eI,Qc,Qf,XL01Source.cells,Qh a27];(repeat refine sdQ ?_);refine hK _ (tn (Q2 (st':=⟨YV q1_ s23 [(7,.own 2 0 (((zL q1_.toNat (0:Int)).set s23.2.2.2.2.toNat 1).length)),(8,iV (s23.2.2.2.2+1))],Y07 s23 [(2,rI ((zL q1_.toNat (0:Int)).set s23.2.2.2.2.toNat 1))],3⟩) (wkJ 3 hP) ?_));clear hK K;replace⟨e28,h,h28⟩:=bind_some h;refine Q9 (λb28:List Int×Int×Int×List Int=>⟨YV q1_ s23 [(7,.own 2 0 b28.2.2.2.length)],[(0,.mix 3 [[.lst true 1 (Us b28.1),iV b28.2.1,.val (.int .u64 b28.2.2.1)]]),(1,.row 1 (Ls s23.2.2.2.1)),(2,rI b28.2.2.2)],3⟩) (λb28=>b28=e28) ?_ ?_
    ·refine Q5 (Qj h (λs34:List Int×Int×Int×List Int×Int=>⟨YV q1_ s23 [(7,.own 2 0 s34.2.2.2.1.length),(8,iV s34.2.2.2.2)],[(0,.mix 3 [[.lst true 1 (Us s34.1),iV s34.2.1,.val (.int .u64 s34.2.2.1)]]),(1,.row 1 (Ls s23.2.2.2.1)),(2,rI s34.2.2.2.1)],3⟩) (wkJ 3 hP) ?_);clear h;intro k34 s34 c34 h hk34;refine Q0 (Q0 (rxQ hN λK hK=>?_));simp[-yU,eL,eI,Qc,Qf,XL01Source.cells];(repeat refine sdQ ?_);refine hK _ ?_;clear hK K;refine tn (Q7 rfl (λg=>?_) λg=>?_)
     ·have g35:s34.2.2.2.2<q1_:=gQ;clear g;replace h:=if_l g35 h;refine Q8 (tn (Q0 (Q5 (Q18 [] mo (by rw[hN];decide) λK hK=>?_))));simp[-yU,eL,eI,Qc,Qf,XL01Source.cells];(repeat with_reducible refine sdQ ?_);replace⟨v36,hv36,h⟩:=bind_some h;refine QG (fz:=[]) (frQ (e:={v:=.val (.int .i64 v36.2.2),set:=[(0,.mix 3 [[.lst true 1 (Us (s34.1)),iV v36.1,.val (.int .u64 v36.2.1)]])],del:=[],new:=[],cnt:=0}) (Qw 100 _ _ v36 hv36) [(0,0)]) ?_;replace⟨a37,h⟩:=Q1 h;simp[-yU,unk,unA,unE,unT,unC,flat,eL,eI,Qc,Qf,XL01Source.cells,at_I a37];(repeat refine sdQ ?_);refine hK _ ?_;clear hK K;refine bn (tn (Q2 (st':=⟨YV q1_ s23 [(7,.own 2 0 ((s34.2.2.2.1.set s34.2.2.2.2.toNat v36.2.2).length)),(8,iV s34.2.2.2.2)],[(0,.mix 3 [[.lst true 1 (Us (s34.1)),iV v36.1,.val (.int .u64 v36.2.1)]]),(1,.row 1 (Ls s23.2.2.2.1)),(2,rI (s34.2.2.2.1.set s34.2.2.2.2.toNat v36.2.2))],3⟩) (wkJ 3 hP) (rxQ hN λK hK=>?_)));replace⟨a38,h⟩:=Q1 h;simp[-yU,eL,eI,Qc,Qf,XL01Source.cells,Qh a38];(repeat refine sdQ ?_);refine hK _ ?_;clear hK K;cases h;exact rn (s':=(s34.1,v36.1,v36.2.1,s34.2.2.2.1.set s34.2.2.2.2.toNat v36.2.2,s34.2.2.2.2+1)) hk34 (wkJ 3 hP)
     have g35:¬(s34.2.2.2.2<q1_):=gQ;clear g;replace h:=if_r g35 h;refine Ql (tx (lx (bh ?_)));cases h;exact jn (b:=(s34.1,s34.2.1,s34.2.2.1,s34.2.2.2.1)) hk34 (wkJ 3 hP)
    intro b28 hb28;have h:=h28;(try rw[←hb28]at h);clear h28;(try dsimp only at h);refine rxQ hN λK hK=>?_;replace⟨a39,h⟩:=Q1 h;(try simp only[qD,qH,zX]at a39);simp[-yU,eL,eI,Qc,Qf,XL01Source.cells,a39];(repeat refine sdQ ?_);refine hK _ ?_;clear hK K;refine bn (tn (Q2 (st':=⟨Y0q q1_ [(5,.own 1 0 ((s23.2.2.2.1++[b28.2.2.2]).length)),(6,iV s23.2.2.2.2)],[(0,.mix 3 [[.lst true 1 (Us b28.1),iV b28.2.1,.val (.int .u64 b28.2.2.1)]]),(1,.row 1 (Ls (s23.2.2.2.1++[b28.2.2.2])))],2⟩) (wkP [(0,0),(4,1)] hP) (rxQ hN λK hK=>?_)));replace⟨a40,h⟩:=Q1 h;simp[-yU,eL,eI,Qc,Qf,XL01Source.cells,Qh a40];(repeat refine sdQ ?_);refine hK _ ?_;clear hK K;cases h;exact rn (s':=(b28.1,b28.2.1,b28.2.2.1,s23.2.2.2.1++[b28.2.2.2],s23.2.2.2.2+1)) hk23 (wkP [(0,0),(1,1)] hP)
   have g24:¬(s23.2.2.2.2<q1_):=gQ;clear g;replace h:=if_r g24 h;refine Ql (tx (lx (bh ?_)));cases h;exact jn (b:=(s23.1,s23.2.1,s23.2.2.1,s23.2.2.2.1)) hk23 (wkP [(0,0),(1,1)] hP)
  intro b2 hb2;have h:=h2;try rw[←hb2]at h
  clear h2;try dsimp only at h
  refine Q0 (Q0 ?_);replace⟨e41,h,h41⟩:=bind_some h;refine Q9 (λb41:List Int×Int×Int×Bool=>⟨Y0q q1_ [(5,.own 1 0 b2.2.2.2.length),(45,.val (.bool b41.2.2.2))],[(0,.mix 3 [[.lst true 1 (Us b41.1),iV b41.2.1,.val (.int .u64 b41.2.2.1)]]),(1,.row 1 (Ls b2.2.2.2))],2⟩) (λb41=>b41=e41) ?_ ?_
  ·refine Q18 [] mo (by rw[hN];decide) λK hK=>?_;simp[-yU,eL,eI,Qc,Qf,XL01Source.cells];(repeat with_reducible refine sdQ ?_);refine Q3b (λg=>?_) (λg=>?_)
   ·have g42:q1_>1:=gQ;clear g;replace h:=if_l g42 h;simp[-yU,eL,eI,Qc,Qf,XL01Source.cells];(repeat with_reducible refine sdQ ?_);replace⟨v43,hv43,h⟩:=bind_some h;refine QG (fz:=[]) (frQ (e:={v:=.val (.int .i64 v43.2.2),set:=[(0,.mix 3 [[.lst true 1 (Us (b2.1)),iV v43.1,.val (.int .u64 v43.2.1)]])],del:=[],new:=[],cnt:=0}) (Qw 100 _ _ v43 hv43) [(0,0)]) ?_;simp[-yU,unk,unA,unE,unT,unC,flat,eL,eI,Qc,Qf,XL01Source.cells];(repeat refine sdQ ?_);refine hK _ ?_;exact jn (b:=(b2.1,v43.1,v43.2.1,v43.2.2==0)) (yJ h) (wkP [(0,0),(1,1)] hP)
   have g42:¬(q1_>1):=gQ;clear g;replace h:=if_r g42 h;simp[-yU,eL,eI,Qc,Qf,XL01Source.cells];(repeat refine sdQ ?_);refine hK _ ?_;exact jn (b:=(b2.1,b2.2.1,b2.2.2.1,false)) (yJ h) (wkP [(0,0),(1,1)] hP)
  intro b41 hb41;have h:=h41;try rw[←hb41]at h
  clear h41;try dsimp only at h
  replace⟨e44,h,h44⟩:=bind_some h;refine Q9 (λb44:List Int×Int×Int×List (List Int)=>⟨[(1,iV q1_),(5,.own 1 0 b44.2.2.2.length)],Ys b44 [(1,.row 1 (Ls b44.2.2.2))],2⟩) (λb44=>b44=e44) ?_ ?_
  ·refine Q7 rfl (λg=>?_) λg=>?_
   ·have g45:b41.2.2.2=true:=gQ;clear g;replace h:=if_l g45 h;refine w_runXF false false [] [1] [3,4] [46,49] [2] [] 7 mo (by rw[hN];decide) λK hK=>?_;replace⟨a46,h⟩:=Q1 h;replace⟨a47,h⟩:=Q1 h;simp[-yU,eL,eI,Qc,Qf,XL01Source.cells,Qh a46,at_L a47];(repeat with_reducible refine sdQ ?_);replace⟨v48,hv48,h⟩:=bind_some h;refine QG (fz:=[]) (frQ (e:={v:=.val (.int .i64 v48.2.2),set:=[(0,.mix 3 [[.lst true 1 (Us (b41.1)),iV v48.1,.val (.int .u64 v48.2.1)]])],del:=[],new:=[],cnt:=0}) (Qw 100 _ _ v48 hv48) [(0,0)]) ?_;replace⟨a49,h⟩:=Q1 h;simp[-yU,unk,unA,unE,unT,unC,flat,eL,eI,Qc,Qf,XL01Source.cells,at_L a47,at_I a49];(repeat refine sdQ ?_);refine hK _ ?_;clear hK K;exact jn (b:=(b41.1,v48.1,v48.2.1,b2.2.2.2.set ((q1_ - 1).toNat) ((rx b2.2.2.2 (q1_ - 1)).set v48.2.2.toNat 1))) (yJ h) (wkP [(0,0),(1,1)] hP)
   have g45:¬(b41.2.2.2=true):=gQ;clear g;replace h:=if_r g45 h;refine Q8 ?_;exact jn (b:=(b41.1,b41.2.1,b41.2.2.1,b2.2.2.2)) (yJ h) (wkP [(0,0),(1,1)] hP)
  intro b44 hb44;have h:=h44;try rw[←hb44]at h
  clear h44;try dsimp only at h
  refine Q0 (Q0 (rxQ hN λK hK=>?_));simp[-yU,eL,eI,Qc,Qf,XL01Source.cells];repeat refine sdQ ?_
  refine hK _ (tn (Q2 (st':=⟨[(1,iV q1_),(5,.own 1 0 b44.2.2.2.length),(9,iV 0)],Ys b44 [(1,.row 1 (Ls b44.2.2.2))],2⟩) (wkP [(0,0),(1,1)] hP) ?_));clear hK K;replace⟨e50,h,h50⟩:=bind_some h;refine Q9 (λb50:List (List Int)=>⟨[(5,.own 1 0 b50.length)],Ys b44 [(1,.row 1 (Ls b50))],2⟩) (λb50=>b50=e50) ?_ ?_
  ·refine Q5 (Qj h (λs111:List (List Int)×Int=>⟨[(1,iV q1_),(5,.own 1 0 s111.1.length),(9,iV s111.2)],Ys b44 [(1,.row 1 (Ls s111.1))],2⟩) (wkP [(0,0),(1,1)] hP) ?_);clear h;intro k111 s111 c111 h hk111;refine Q0 (Q0 (rxQ hN λK hK=>?_));simp[-yU,eL,eI,Qc,Qf,XL01Source.cells];(repeat refine sdQ ?_);refine hK _ ?_;clear hK K;refine tn (Q7 rfl (λg=>?_) λg=>?_)
   ·have g112:s111.2<q1_:=gQ;clear g;replace h:=if_l g112 h;refine Q8 (tn (Q0 ?_));replace⟨e113,h,h113⟩:=bind_some h;refine Q9 (λb113:List (List Int)=>⟨[(1,iV q1_),(5,.own 1 0 b113.length),(9,iV s111.2)],Ys b44 [(1,.row 1 (Ls b113))],2⟩) (λb113=>b113=e113) ?_ ?_
    ·refine Q5 (Q0 (rxQ hN λK hK=>?_));simp[-yU,eL,eI,Qc,Qf,XL01Source.cells];(repeat refine sdQ ?_);refine hK _ (tn (Q2 (st':=⟨[(1,iV q1_),(5,.own 1 0 s111.1.length),(9,iV s111.2),(10,iV 0)],Ys b44 [(1,.row 1 (Ls s111.1))],2⟩) (wkP [(0,0),(1,1)] hP) (Q5 ?_)));clear hK K;replace⟨e142,he142,h142⟩:=bind_some h;refine Qj he142 (λs142:List (List Int)×Int=>⟨[(1,iV q1_),(5,.own 1 0 s142.1.length),(9,iV s111.2),(10,iV s142.2)],Ys b44 [(1,.row 1 (Ls s142.1))],2⟩) (wkP [(0,0),(1,1)] hP) ?_;intro k142 s142 c142 h hk142;refine Q0 (Q0 (rxQ hN λK hK=>?_));simp[-yU,eL,eI,Qc,Qf,XL01Source.cells];(repeat refine sdQ ?_);refine hK _ ?_;clear hK K;refine tn (Q7 rfl (λg=>?_) λg=>?_)
     ·have g143:s142.2<q1_:=gQ;clear g;replace h:=if_l g143 h;refine Q8 (tn (Q0 ?_));replace⟨e144,h,h144⟩:=bind_some h;refine Q9 (λb144:List (List Int)=>⟨[(1,iV q1_),(5,.own 1 0 b144.length),(9,iV s111.2),(10,iV s142.2)],Ys b44 [(1,.row 1 (Ls b144))],2⟩) (λb144=>b144=e144) ?_ ?_
      ·refine Q5 (Q0 (rxQ hN λK hK=>?_));simp[-yU,eL,eI,Qc,Qf,XL01Source.cells];(repeat refine sdQ ?_);refine hK _ (tn (Q2 (st':=⟨[(1,iV q1_),(5,.own 1 0 s142.1.length),(9,iV s111.2),(10,iV s142.2),(11,iV 0)],Ys b44 [(1,.row 1 (Ls s142.1))],2⟩) (wkP [(0,0),(1,1)] hP) (Q5 ?_)));clear hK K;replace⟨e157,he157,h157⟩:=bind_some h;refine Qj he157 (λs157:List (List Int)×Int=>⟨[(1,iV q1_),(5,.own 1 0 s157.1.length),(9,iV s111.2),(10,iV s142.2),(11,iV s157.2)],Ys b44 [(1,.row 1 (Ls s157.1))],2⟩) (wkP [(0,0),(1,1)] hP) ?_;intro k157 s157 c157 h hk157;refine Q0 (Q0 (rxQ hN λK hK=>?_));simp[-yU,eL,eI,Qc,Qf,XL01Source.cells];(repeat refine sdQ ?_);refine hK _ ?_;clear hK K;refine tn (Q7 rfl (λg=>?_) λg=>?_)
       ·have g158:s157.2<q1_:=gQ;clear g;replace h:=if_l g158 h;refine Q8 (tn (Q0 ?_));replace⟨e159,h,h159⟩:=bind_some h;refine Q9 (λb159:List (List Int)=>⟨[(1,iV q1_),(5,.own 1 0 b159.length),(9,iV s111.2),(10,iV s142.2),(11,iV s157.2)],Ys b44 [(1,.row 1 (Ls b159))],2⟩) (λb159=>b159=e159) ?_ ?_
        ·refine Q5 (Q0 ?_);replace⟨e160,h,h160⟩:=bind_some h;refine Q9 (λb160:Bool=>⟨[(1,iV q1_),(5,.own 1 0 s157.1.length),(9,iV s111.2),(10,iV s142.2),(11,iV s157.2),(87,.val (.bool b160))],Ys b44 [(1,.row 1 (Ls s157.1))],2⟩) (λb160=>b160=e160) ?_ ?_
         ·refine rxQ hN λK hK=>?_;replace⟨a161,h⟩:=Q1 h;replace⟨a162,h⟩:=Q1 h;simp[-yU,eL,eI,Qc,Qf,XL01Source.cells,at_L a161,at_I a162];(repeat with_reducible refine sdQ ?_);refine Q3b (λg=>?_) (λg=>?_)
          ·have g163:(ix (rx s157.1 s142.2) s111.2)=1:=gQ;clear g;replace h:=if_l g163 h;replace⟨a164,h⟩:=Q1 h;replace⟨a165,h⟩:=Q1 h;simp[-yU,eL,eI,Qc,Qf,XL01Source.cells,at_L a161,at_I a162,at_L a164,at_I a165];(repeat refine sdQ ?_);refine hK _ ?_;exact jn (b:=(ix (rx s157.1 s111.2) s157.2)==1) (yJ h) (wkP [(0,0),(1,1)] hP)
          have g163:¬((ix (rx s157.1 s142.2) s111.2)=1):=gQ;clear g;replace h:=if_r g163 h;simp[-yU,eL,eI,Qc,Qf,XL01Source.cells,at_L a161,at_I a162];(repeat refine sdQ ?_);refine hK _ ?_;exact jn (b:=false) (yJ h) (wkP [(0,0),(1,1)] hP)
         intro b160 hb160;have h:=h160;(try rw[←hb160]at h);clear h160;(try dsimp only at h);refine Q7 rfl (λg=>?_) λg=>?_
         ·have g166:b160=true:=gQ;clear g;replace h:=if_l g166 h;refine rxQ hN λK hK=>?_;replace⟨a167,h⟩:=Q1 h;replace⟨a168,h⟩:=Q1 h;simp[-yU,eL,eI,Qc,Qf,XL01Source.cells,at_L a167,at_I a168];(repeat refine sdQ ?_);refine hK _ (bn ?_);clear hK K;exact jn (b:=s157.1.set s142.2.toNat ((rx s157.1 s142.2).set s157.2.toNat 1)) (yJ h) (wkP [(0,0),(1,1)] hP)
         have g166:¬(b160=true):=gQ;clear g;replace h:=if_r g166 h;refine Q8 (bn ?_);exact jn (b:=s157.1) (yJ h) (wkP [(0,0),(1,1)] hP)
        intro b159 hb159;have h:=h159;(try rw[←hb159]at h);clear h159;(try dsimp only at h);refine rxQ hN λK hK=>?_;replace⟨a169,h⟩:=Q1 h;simp[-yU,eL,eI,Qc,Qf,XL01Source.cells,Qh a169];(repeat refine sdQ ?_);refine hK _ ?_;clear hK K;cases h;exact rn (s':=(b159,s157.2+1)) hk157 (wkP [(0,0),(1,1)] hP)
       have g158:¬(s157.2<q1_):=gQ;clear g;replace h:=if_r g158 h;refine Ql (tx (lx (bh (bn ?_))));cases h;have q:_=e157:=hk157;have h:=h157;rw[←q]at h;clear q;(try dsimp only at h);exact jn (b:=s157.1) (yJ h) (wkP [(0,0),(1,1)] hP)
      intro b144 hb144;have h:=h144;(try rw[←hb144]at h);clear h144;(try dsimp only at h);refine rxQ hN λK hK=>?_;replace⟨a170,h⟩:=Q1 h;simp[-yU,eL,eI,Qc,Qf,XL01Source.cells,Qh a170];(repeat refine sdQ ?_);refine hK _ ?_;clear hK K;cases h;exact rn (s':=(b144,s142.2+1)) hk142 (wkP [(0,0),(1,1)] hP)
     have g143:¬(s142.2<q1_):=gQ;clear g;replace h:=if_r g143 h;refine Ql (tx (lx (bh (bn ?_))));cases h;have q:_=e142:=hk142;have h:=h142;rw[←q]at h;clear q;(try dsimp only at h);exact jn (b:=s142.1) (yJ h) (wkP [(0,0),(1,1)] hP)
    intro b113 hb113;have h:=h113;(try rw[←hb113]at h);clear h113;(try dsimp only at h);refine rxQ hN λK hK=>?_;replace⟨a171,h⟩:=Q1 h;simp[-yU,eL,eI,Qc,Qf,XL01Source.cells,Qh a171];(repeat refine sdQ ?_);refine hK _ ?_;clear hK K;cases h;exact rn (s':=(b113,s111.2+1)) hk111 (wkP [(0,0),(1,1)] hP)
   have g112:¬(s111.2<q1_):=gQ;clear g;replace h:=if_r g112 h;refine Ql (tx (lx (bh ?_)));cases h;exact jn (b:=s111.1) hk111 (wkP [(0,0),(1,1)] hP)
  intro b50 hb50;have h:=h50;try rw[←hb50]at h
  clear h50;try dsimp only at h
  refine Q0 (rxQ hN λK hK=>?_);simp[-yU,eL,eI,Qc,Qf,XL01Source.cells];repeat refine sdQ ?_
  refine hK _ (tn (Q2 (st':=⟨[(4,.own 1 0 b50.length)],Ys b44 [(1,.row 1 (Ls b50))],2⟩) (wkP [(0,0),(1,1)] hP) (Qe ?_)));clear hK K;cases h;first|refine iw_r (st':=⟨[(4,.own 1 0 b50.length)],Ys b44 [(1,.row 1 (Ls b50))],2⟩) ?_ ?_|refine iw_n (st':=⟨[(4,.own 1 0 b50.length)],Ys b44 [(1,.row 1 (Ls b50))],2⟩) ?_ ?_
  ·exact wkP [(0,0),(1,1)] hP
  exact⟨by simp[Qt],by simp,by simp[CN]⟩
section
attribute [local simp] Qi QP Qv Q1l QN
def Sqr(t:List (List Int))(n:Nat):Prop:=t.length=n∧∀r∈t,r.length=n
theorem rx_mem{t:List (List Int)}{i:Int}(h:0≤i∧i<(t.length:Int)):rx t i∈t:=by
 obtain⟨a,rfl⟩:=yT h.1;have ha:a<t.length:=by omega
 have:rx t (a:Int)=t[a]:=by simp[rx,List.getD_eq_getElem?_getD,ha]
 rw[this];exact yC ha
theorem Sqr.row{t:List (List Int)}{n:Nat}(h:Sqr t n){i:Int}(hi:0≤i∧i<(n:Int)):i<(t.length:Int)∧(rx t i).length=n:=⟨by have:=h.1;omega,h.2 _ (rx_mem ⟨hi.1,by have:=h.1;omega⟩)⟩
theorem Sqr.set{t:List (List Int)}{n:Nat}(h:Sqr t n){r:List Int}(hr:r.length=n)(k:Nat):Sqr (t.set k r) n:=by
 refine⟨by simpa using h.1,λx hx=>?_⟩;rcases List.mem_or_eq_of_mem_set hx with h1|h1
 ·exact h.2 x h1
 rw[h1];exact hr
set_option maxHeartbeats 1000000 in
theorem Q4e{q:XL01Source}(hq:Src q){n:Nat}(hn:1≤n∧n≤100):Gd (QC 100 q n) λr=>Src ⟨r.1,r.2.1,r.2.2.1⟩∧Sqr r.2.2.2 n:=by
 unfold QC;refine Gd.bind (P:=λr=>Src ⟨r.1,r.2.1,r.2.2.1⟩∧Sqr r.2.2.2 n) (Gd.loop n (λi s=>s.2.2.2.2=(i:Int)∧Src ⟨s.1,s.2.1,s.2.2.1⟩∧s.2.2.2.1.length=i∧∀r∈s.2.2.2.1,r.length=n) (by omega) ⟨rfl,hq,rfl,λr hr=>by cases hr⟩ λi s hi hs=>?_) λb hb=>?_
 ·obtain⟨code,at',hash,rel,c⟩:=s;obtain⟨h1,h2,h3,h4⟩:=hs;simp only at h1 h2 h3 h4⊢;subst h1;refine Gd.ite (λh5=>?_) λh5=>Gd.som ⟨h2,(by show rel.length=n;omega),h4⟩;have hrow:((zL (n:Int).toNat (0:Int)).set (i:Int).toNat 1).length=n:=by simp
  refine Gd.ass (by omega) (Gd.ass ⟨by omega,by simpa using h5⟩ (Gd.ass (by unfold B64;omega) ?_));refine Gd.bind (P:=λr=>Src ⟨r.1,r.2.1,r.2.2.1⟩∧r.2.2.2.length=n) (Gd.loop (n - (i+1)) (λj s=>s.2.2.2.2=((i+1+j:Nat):Int)∧Src ⟨s.1,s.2.1,s.2.2.1⟩∧s.2.2.2.1.length=n) (by omega) ⟨by simp,h2,hrow⟩ λj s hj hs=>?_) λr hr=>?_
  ·obtain⟨code,at',hash,row,c⟩:=s;obtain⟨g1,g2,g3⟩:=hs;simp only at g1 g2 g3⊢;subst g1;refine Gd.ite (λh6=>?_) λh6=>Gd.som ⟨g2,g3⟩;refine Gd.bind (Q3p g2 2) λv hv=>Gd.ass ⟨by omega,by omega⟩ (Gd.ass (by unfold B64;omega) (Gd.som ⟨by omega,?_,hv.1,by simpa using g3⟩));show((i+1+j:Nat):Int)+1=_;omega
  obtain⟨hr1,hr2⟩:=hr;refine Gd.ass (by simp;omega) (Gd.ass (by unfold B64;omega) (Gd.som ⟨by omega,?_,hr1,by simpa using h3,λx hx=>?_⟩))
  ·show(i:Int)+1=_;omega
  rcases List.mem_append.1 hx with h|h
  ·exact h4 x h
  rw[List.mem_singleton.1 h];exact hr2
 obtain⟨hb1,hb2⟩:=hb;refine Gd.bind (P:=λr=>Src ⟨r.1,r.2.1,r.2.2.1⟩) (Gd.ite (λ_=>Gd.bind (Q3p hb1 4) λv hv=>Gd.som hv.1) λ_=>Gd.som hb1) λr hr=>?_;refine Gd.bind (P:=λr=>Src ⟨r.1,r.2.1,r.2.2.1⟩∧Sqr r.2.2.2 n) (Gd.ite (λ_=>?_) λ_=>Gd.som ⟨hr,hb2⟩) λr2 hr2=>?_
 ·have hx:=hb2.row (i:=(n:Int) - 1) (by omega);refine Gd.ass (by unfold B64;omega) (Gd.ass ⟨by omega,hx.1⟩ (Gd.bind (Q3p hr _) λv hv=>?_));have hv2:=hv.2 (by omega);exact Gd.ass ⟨hv2.1,by rw[hx.2];exact hv2.2⟩ (Gd.som ⟨hv.1,hb2.set (by simpa using hx.2) _⟩)
 obtain⟨hr3,hr4⟩:=hr2;refine Gd.bind (P:=λt=>Sqr t n) (Gd.loop n (λi s=>s.2=(i:Int)∧Sqr s.1 n) (by omega) ⟨rfl,hr4⟩ λi s hi hs=>?_) λt ht=>Gd.som ⟨hr3,ht⟩;obtain⟨t,c⟩:=s;obtain⟨h1,h2⟩:=hs;simp only at h1 h2⊢;subst h1;refine Gd.ite (λh5=>?_) λh5=>Gd.som h2;refine Gd.bind (P:=λt=>Sqr t n) (Gd.bind (P:=λt=>Sqr t n) (Gd.loop n (λi s=>s.2=(i:Int)∧Sqr s.1 n) (by omega) ⟨rfl,h2⟩ λj s hj hs=>?_) λt ht=>Gd.som ht) λt ht=>Gd.ass (by unfold B64;omega) (Gd.som ⟨by omega,rfl,ht⟩);obtain⟨t,c⟩:=s;obtain⟨h1,h2⟩:=hs;simp only at h1 h2⊢;subst h1;refine Gd.ite (λh6=>?_) λh6=>Gd.som h2;refine Gd.bind (P:=λt=>Sqr t n) (Gd.bind (P:=λt=>Sqr t n) (Gd.loop n (λi s=>s.2=(i:Int)∧Sqr s.1 n) (by omega) ⟨rfl,h2⟩ λk s hk hs=>?_) λt ht=>Gd.som ht) λt ht=>Gd.ass (by unfold B64;omega) (Gd.som ⟨by omega,rfl,ht⟩);obtain⟨t,c⟩:=s;obtain⟨h1,h2⟩:=hs;simp only at h1 h2⊢;subst h1;refine Gd.ite (λh7=>?_) λh7=>Gd.som h2;have r1:=h2.row (i:=(j:Int)) (by omega);have r2:=h2.row (i:=(i:Int)) (by omega);refine Gd.bind (P:=λt=>Sqr t n) (Gd.bind (P:=λ_=>True) ?_ λb hb=>Gd.ite (λ_=>?_) λ_=>Gd.som h2) λt ht=>Gd.ass (by unfold B64;omega) (Gd.som ⟨by omega,rfl,ht⟩)
 ·refine Gd.ass ⟨by omega,r1.1⟩ (Gd.ass ⟨by omega,by omega⟩ (Gd.ite (λ_=>?_) λ_=>Gd.som trivial));exact Gd.ass ⟨by omega,r2.1⟩ (Gd.ass ⟨by omega,by omega⟩ (Gd.som trivial))
 exact Gd.ass ⟨by omega,r1.1⟩ (Gd.ass ⟨by omega,by omega⟩ (Gd.som (h2.set (by simpa using r1.2) _)))
end
end Go.Vc.T
