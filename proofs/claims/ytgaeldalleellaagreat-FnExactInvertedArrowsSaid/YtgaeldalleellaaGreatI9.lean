/- A part of the proof. -/
import Derived.Test.YtgaeldalleellaaGreatI8
set_option maxRecDepth 100000
set_option maxHeartbeats 4000000
set_option linter.unusedSimpArgs false
set_option linter.unusedVariables false
set_option linter.unusedSectionVars false
set_option linter.unnecessarySimpa false

open List renaming getD_eq_getElem?_getD→qB
open Option renaming bind_some→yR
open Option.some renaming inj→yJ
open List renaming length_append→qD
open Sum renaming inl→yS
open Go.Vc.Ctl renaming ret→yK
open List renaming replicate→zF
open Nat renaming le_refl→qE
open Classical renaming byContradiction→yL
open Go.Vc.Ctl renaming next→yM
open Sum renaming inr→yT
open Bool renaming false_eq_true→zG
open Go.Vc.UpL renaming refl→yN
open List renaming length_cons→qH
open List renaming length_nil→zS
open Nat renaming zero_le→zV
open List renaming getElem_of_mem→zX
open List renaming getElem_mem→zY
open Int renaming eq_ofNat_of_zero_le→yU
open Int renaming toNat_natCast→yV
open List renaming take_succ_eq_append_getElem→yO
open Int renaming pred_toNat→yW
open Nat renaming strongRecOn→yX
noncomputable section
namespace Go.Vc.T
open Go Go.Vc Go.Proofs
attribute [local simp] unk unA unE unT unC flat eL eI Qh QI Cat.cells
def Q37(c_:Cat)(list_:List Int):Option (List Int):=
 (Qd (σ:=List Int×Int) (ε:=List Int) (λs9=>
  if s9.2<(list_.length:Int)then
   (
    ass (0≤s9.2∧s9.2<(list_.length:Int))<|
    (Q21 c_ (ix list_ s9.2)).bind λv13=>
    if v13≥0 then
     ass ((s9.1++[s9.2]).length≤1073741824)<|
     some (s9.1++[s9.2])
    else
     some s9.1:Option (List Int)).bind λb11=>
   ass (B64 (s9.2+1))<|
   some (yM (b11,s9.2+1))
  else
   some (yK s9.1)) fuel ([],0)).bind λb1=>
 some b1
theorem Q9W(c_:Cat)(list_:List Int)(r:List Int)(h:Q37 c_ list_=some r):Contract Tryz.prog 30 (Y0u c_ [lI list_]) (lI r):=by
 refine Q9 (rvs:=[.tmp 4]) (rs:=[lI r]) Tryz.func30 rfl rfl rfl rfl (by simp[Tryz.f30]) λF hN hP=>?_;unfold Q37 at h;refine Q0 (runQ hN λK hK=>?_);simp;repeat refine sdQ ?_
 refine hK _ ?_;clear hK K;refine tn (Q4 (st':=⟨(1,lI list_)::Yw [],Y6 c_ [],1⟩) (wkQ [(0,0)]) (Q0 (runQ hN λK hK=>?_)));simp;repeat refine sdQ ?_
 refine hK _ ?_;clear hK K;refine tn (Q4 (st':=⟨(1,lI list_)::Yw [(5,.own 1 0 0)],Y6 c_ [(1,.mix 1 [])],2⟩) (wkQ [(0,0),(1,1)]) (Q0 (Q0 (runQ hN λK hK=>?_))));simp;repeat refine sdQ ?_
 refine hK _ (tn (Q4 (st':=⟨(1,lI list_)::Yw [(5,.own 1 0 0),(6,iV 0)],Y6 c_ [(1,.mix 1 [])],2⟩) (wkQ [(0,0),(1,1)]) ?_));clear hK K;replace⟨e1,h,h1⟩:=bind_some h;refine Qc (λb1:List Int=>⟨Y06 b1 [],[(0,rI b1)],1⟩) (λb1=>b1=e1) ?_ ?_
 ·refine Q5 (Qm h (λs9:List Int×Int=>⟨(1,lI list_)::Yw [(5,.own 1 0 s9.1.length),(6,iV s9.2)],Y6 c_ [(1,rI s9.1)],2⟩) (Q2M ⟨(1,lI list_)::Yw [(5,.own 1 0 0),(6,iV 0)],Y6 c_ [(1,rI [])],2⟩ (Wk.nils [] (by simp) (by simp) (by simp[nlA]) (by simp[entN,nlL,nlA,BN]) (by simp)) (wkQ [(0,0),(1,1)])) ?_);clear h;intro k9 s9 c9 h hk9;refine Q0 (Q0 (runQ hN λK hK=>?_));simp;repeat refine sdQ ?_
  refine hK _ ?_;clear hK K;refine tn (Q6 rfl (λg=>?_) λg=>?_)
  ·have g10:s9.2<(list_.length:Int):=gQ;clear g;replace h:=if_l g10 h;refine Q7 (tn (Q0 ?_));replace⟨e11,h,h11⟩:=bind_some h;refine Qc (λb11:List Int=>⟨(1,lI list_)::Yw [(5,.own 1 0 b11.length),(6,iV s9.2)],Y6 c_ [(1,rI b11)],2⟩) (λb11=>b11=e11) ?_ ?_
   ·refine Q5 (Q0 (runQ hN λK hK=>?_));replace⟨a12,h⟩:=Q1 h;simp[at_I a12];(repeat with_reducible refine sdQ ?_);replace⟨v13,hv13,h⟩:=bind_some h;refine Q3 (Q6R _ _ v13 hv13) (.cons (.aggL (.cons .val (.cons .lst (.cons .lst (.cons .lst (.cons .lst .nil)))))) (.cons .val .nil)) ?_;simp[at_I a12];(repeat refine sdQ ?_);refine hK _ ?_;clear hK K;refine tn (Q4 (st':=⟨(1,lI list_)::Yw [(5,.own 1 0 s9.1.length),(6,iV s9.2),(20,.val (.bool (decide (v13≥0))))],Y6 c_ [(1,rI s9.1)],2⟩) (wkQ [(0,0),(1,1)]) (Q6 rfl (λg=>?_) λg=>?_))
    ·have g14:v13≥0:=gQ;clear g;replace h:=if_l g14 h;refine runQ hN λK hK=>?_;replace⟨a15,h⟩:=Q1 h;(try simp only[qD,qH,zS]at a15);simp[a15];(repeat refine sdQ ?_);refine hK _ (bn ?_);clear hK K;exact jn (b:=s9.1++[s9.2]) (yJ h) (wkQ [(0,0),(3,1)])
    have g14:¬(v13≥0):=gQ;clear g;replace h:=if_r g14 h;refine Q7 (bn ?_);exact jn (b:=s9.1) (yJ h) (wkQ [(0,0),(1,1)])
   intro b11 hb11;have h:=h11;(try rw[←hb11]at h);clear h11;(try dsimp only at h);refine runQ hN λK hK=>?_;replace⟨a16,h⟩:=Q1 h;simp[Qg a16];(repeat refine sdQ ?_);refine hK _ ?_;clear hK K;cases h;exact rn (s':=(b11,s9.2+1)) hk9 (wkQ [(0,0),(1,1)])
  have g10:¬(s9.2<(list_.length:Int)):=gQ;clear g;replace h:=if_r g10 h;refine Qj (tx (lx (bh ?_)));cases h;exact jn (b:=s9.1) hk9 (wkQ [(1,0)])
 intro b1 hb1;have h:=h1;try rw[←hb1]at h
 clear h1;try dsimp only at h
 refine Q0 (runQ hN λK hK=>?_);simp;repeat refine sdQ ?_
 refine hK _ (tn (Q4 (st':=⟨[(4,.own 0 0 b1.length)],[(0,rI b1)],1⟩) (wkQ [(0,0)]) (Qi ?_)));clear hK K;have hr:=yJ h;rw[←hr];refine⟨_,(.tmp .nil),?_⟩;refine⟨(.one rfl rfl .nil),[lI b1],[0],by simp[BN],by simp,(yN _)⟩
section
attribute [local simp] Qa QD Qo QM Qx
theorem Cat.Is.two{c:Cat}(h:c.Is){f g:Int}(f0:0≤f∧f<c.fr.length)(g0:0≤g∧g<c.fr.length)(e:ix c.to f=ix c.fr g):(0≤ix (rx c.cs f) g∧ix (rx c.cs f) g<c.fr.length)∧ix c.fr (ix (rx c.cs f) g)=ix c.fr f∧ix c.to (ix (rx c.cs f) g)=ix c.to g:=by
 have:=(h.1.cell' f0.1 f0.2 g0.1 g0.2).2 e;exact⟨⟨this.1,this.2.1⟩,this.2.2⟩
theorem Q1o{c:Cat}(h:c.Is){f g:Int}(f0:0≤f∧f<c.fr.length)(g0:0≤g∧g<c.fr.length):Qs c f g=some (ix (rx c.cs f) g)∧Qn c f g=some (ix (rx c.cs f) g):=by
 have h1:=h.1.lc;have h2:=h.1.row' f0.1 f0.2;exact⟨Q4J (by omega) (by omega),Q7x (by omega) (by omega)⟩
end
section
attribute [local simp] Qa QD Qo QM Qx
abbrev Ar(c:Cat)(f x y:Int):Prop:=(0≤f∧f<(c.fr.length:Int))∧ix c.fr f=x∧ix c.to f=y
theorem Ar.two{c:Cat}(hc:c.Is){f g x y z:Int}(h1:Ar c f x y)(h2:Ar c g y z):Ar c (ix (rx c.cs f) g) x z:=by
 have:=hc.two h1.1 h2.1 (by rw[h1.2.2,h2.2.1]);exact⟨this.1,by rw[this.2.1,h1.2.1],by rw[this.2.2,h2.2.2]⟩
end
section
attribute [local simp] Qa QD Qo QM Qx
def homL(c:Cat)(x y:Int):List Int:=flt c.fr.length λa=>ix c.fr a=x∧ix c.to a=y
theorem Q1Q(c:Cat)(x y:Int):(homL c x y).length≤c.fr.length:=Q2q _ _
theorem Q4s{c:Cat}(h:c.Is)(x y:Int):Q1b c x y=some (homL c x y)∧QA c x y=some (homL c x y):=⟨by rw[Qag,e_hom h];rfl,e_hom h x y⟩
end
section
attribute [local simp] Qa QD Qo QM Qx
def MpP(f:List Int)(m n:Int):Prop:=(f.length:Int)=m∧∀j:Nat,j<f.length→0≤ix f j∧ix f j<n
theorem Cat.Is.nums{c:Cat}(h:c.Is):0≤c.n∧c.n≤8∧c.fr.length≤40∧c.to.length=c.fr.length∧c.cs.length=c.fr.length∧(c.id.length:Int)=c.n:=⟨h.1.n0,h.1.n8,h.1.m40,h.1.lt,h.1.lc,h.1.li⟩
theorem MpP.len{f:List Int}{m n:Int}(hf:MpP f m n)(hm:m≤64):f.length≤64:=by have:=hf.1;omega
end
section
attribute [local simp] Qa QD Qo QM Qx
theorem tabg{α ε β:Type}{body:List α×Int→Option (Ctl (List α×Int) ε)}{K:ε→Option β}{r:Option β}(n:Nat)(v:Nat→α){e:ε}(hn:n<1000000)(h:∀i:Nat,i<n→body (tab i v,(i:Int))=(ass ((tab i v++[v i]).length≤1073741824)<|ass (B64 ((i:Int)+1))<|some (.next (tab i v++[v i],(i:Int)+1))))(he:body (tab n v,(n:Int))=some (.ret e))(hk:K e=r):(Qd body fuel ([],0)).bind K=r:=by
 refine Q11 n (λi=>tab i v) (e:=e) rfl (by omega) (λi hi=>?_) he hk;rw[h i hi,Q2 (by simp;omega),Q2 (by unfold B64;omega),Q4n]
end
section
attribute [local simp] Qa QD Qo QM Qx
theorem Qal{n m:Nat}{p:Nat→Prop}(hm:m<n)(hp:p m)(hl:∀k,k<m→¬p k):fstN n p=(m:Int):=by
 rcases Q4M n p with⟨_,h⟩|⟨k,hk,pk,e⟩
 ·exact absurd hp (h m hm)
 unfold fstN;rw[List.find?_range_eq_some.2 ⟨Qu hp,by simpa using hm,λj hj=>by simp[Qp (hl j hj)]⟩];rfl
theorem fst_no{n:Nat}{p:Nat→Prop}(h:∀i,i<n→¬p i):fstN n p= -1:=by
 rcases Q4M n p with⟨e,_⟩|⟨k,hk,pk,e⟩
 ·exact e
 exact absurd pk (h k hk)
theorem fstI{ε β:Type}{body:Int→Option (Ctl Int ε)}{K:ε→Option β}{r:Option β}(n:Nat)(p:Nat→Prop)(eb:Int→ε)(eg:ε)(hn:n<4611686018427387904)(h:∀i:Nat,i<n→body (i:Int)=if bo (p i)=true then some (.ret (eb i))else some (.next ((i:Int)+1)))(h3:body (n:Int)=some (.ret eg))(hk:K (if 0≤fstN n p then eb (fstN n p)else eg)=r):(Qd body fuel 0).bind K=r:=by
 rcases Q7Q n (λi=>¬p i) (eb:=λi=>eb i) (eg:=eg) hn (λi hi q=>by rw[h i hi,Qp q];simp) (λi hi q=>by rw[h i hi,Qu (yL q)];simp) h3 with⟨q,e⟩|⟨m,hm,hq,hlt,e⟩
 ·rw[e,yR,←hk,fst_no q];simp
 rw[e,yR,←hk,Qal hm (yL hq) hlt];simp
def Q1E(L:List Int)(n i:Nat):List Bool:=(List.range n).map λk:Nat=>bo (∃j:Nat,j<i∧ix L j=(k:Int))
end
section
attribute [local simp] Qa QD Qo QM Qx
theorem inv_iff{c:Cat}{a:Int}:0≤inv c a↔∃g:Nat,g<c.fr.length∧Inv c a g:=by
 unfold inv;rcases Q4M c.fr.length (Inv c a)with⟨e,h⟩|⟨k,hk,pk,e⟩
 ·rw[e];exact⟨λq=>by omega,λ⟨g,hg,q⟩=>absurd q (h g hg)⟩
 rw[e];exact⟨λ_=>⟨k,hk,pk⟩,λ_=>by omega⟩
def Io(c:Cat)(x y:Nat):Prop:=∃a:Int,Ar c a x y∧0≤inv c a
theorem Io.symm{c:Cat}(hc:c.Is){x y:Nat}(h:Io c x y):Io c y x:=by
 obtain⟨a,ha,hi⟩:=h;obtain⟨g,hg,⟨q1,q2⟩,q3,q4⟩:=inv_iff.1 hi;have n:=ha.1;refine⟨(g:Int),⟨by omega,by rw[q1,ha.2.2],by rw[q2,ha.2.1]⟩,inv_iff.2 ⟨a.toNat,by omega,?_⟩⟩;unfold Inv;rw[Int.toNat_of_nonneg n.1,q1,q2];exact⟨⟨rfl,rfl⟩,q4,q3⟩
structure UF(j:List Int)(r:Nat→Nat)(n:Nat):Prop where
 len:j.length=n
 b:∀x:Nat,x<n→0≤ix j x∧ix j x≤x
 le:∀x,x<n→r x≤x
 fix:∀x,x<n→ix j (r x:Nat)=(r x:Int)
 st:∀x:Nat,x<n→r (ix j x).toNat=r x
 tip:∀x:Nat,x<n→ix j x=x→r x=x
theorem Q2O{p:List Int}{f:Int}{i:Nat}(h:i<p.length):ix (p.set i f) i=f:=by simp[ix,qB,h]
theorem Q2P{p:List Int}{f:Int}{i j:Nat}(h:i≠j):ix (p.set i f) j=ix p j:=by simp[ix,qB,List.getElem?_set,h]
theorem UF.half{j:List Int}{r:Nat→Nat}{n x:Nat}(h:UF j r n)(hx:x<n):UF (j.set x (ix j (ix j x))) r n:=by
 have b1:=h.b x hx;obtain⟨y,hy⟩:=yU b1.1;rw[hy]at b1⊢;have b2:=h.b y (by omega);have s1:=h.st x hx;rw[hy]at s1;have s2:=h.st y (by omega);simp only[yV]at s1;refine⟨by simp[h.len],λz hz=>?_,h.le,λz hz=>?_,λz hz=>?_,λz hz e=>?_⟩
 ·by_cases q:x=z
  ·subst q;rw[Q2O (by rw[h.len];exact hx)];omega
  rw[Q2P q];exact h.b z hz
 ·by_cases q:x=r z
  ·rw[←q,Q2O (by rw[h.len];exact hx)];have f:=h.fix z hz;rw[←q,hy]at f;have:y=x:=(by omega);subst this;exact hy
  rw[Q2P q];exact h.fix z hz
 ·by_cases q:x=z
  ·subst q;rw[Q2O (by rw[h.len];exact hx),s2,s1]
  rw[Q2P q];exact h.st z hz
 by_cases q:x=z
 ·subst q;rw[Q2O (by rw[h.len];exact hx)]at e;exact h.tip x hx (by omega)
 rw[Q2P q]at e;exact h.tip z hz e
theorem Q9F{r:Nat→Nat}{n:Nat}:∀ (x:Nat) (j:List Int) (F:Nat),UF j r n→x<n→x<F→∃ j',Qd (σ:=List Int × Int) (ε:=List Int × Int) (fun s64 =>
        ass (0≤s64.2∧s64.2<(s64.1.length:Int))<|
        if¬((ix s64.1 s64.2)=s64.2)then
         ass (0≤s64.2∧s64.2<(s64.1.length:Int))<|
         ass (0≤ix s64.1 s64.2∧ix s64.1 s64.2<(s64.1.length:Int))<|
         ass (0≤s64.2∧s64.2<(s64.1.length:Int))<|
         ass (0≤s64.2∧s64.2<((s64.1.set s64.2.toNat (ix s64.1 (ix s64.1 s64.2))).length:Int))<|
         some (yM (s64.1.set s64.2.toNat (ix s64.1 (ix s64.1 s64.2)),ix (s64.1.set s64.2.toNat (ix s64.1 (ix s64.1 s64.2))) s64.2))
        else
         some (yK (s64.1,s64.2))) F (j,(x:Int))=some (j',(r x:Int))∧UF j' r n:=by
 intro x
 induction x using yX with
 |_ x ih=>
  intro j F h hx hF;obtain⟨F,rfl⟩:∃F',F=F'+1:=⟨F - 1,by omega⟩;have b1:=h.b x hx;have hl:=h.len;simp only[Qd];rw[Q2 (by omega)]
  by_cases q:ix j x=x
  ·rw[if_neg (by simp[q])];exact⟨j,by rw[h.tip x hx q],h⟩
  rw[if_pos q,Q2 (by omega),Q2 (by omega),Q2 (by omega),Q2 (by simp;omega)];obtain⟨y,hy⟩:=yU b1.1;have b2:=h.b y (by omega);obtain⟨z,hz⟩:=yU b2.1;have s1:=h.st x hx;rw[hy]at s1;simp only[yV]at s1;have s2:=h.st y (by omega);rw[hz]at s2;simp only[yV]at s2;have hh:=h.half hx;simp only[yV];rw[Q2O (by omega),hy,hz];rw[hy,hz]at hh;rw[show r x=r z by rw[s2,s1]];exact ih z (by omega) _ F hh (by omega) (by omega)
theorem UF.join{j:List Int}{r:Nat→Nat}{n a b:Nat}(h:UF j r n)(ha:a<n)(hb:b<n)(ra:r a=a)(rb:r b=b)(hab:a≤b):UF (j.set b a) (λz=>if r z=b then a else r z) n:=by
 have fa:=h.fix a ha;have fb:=h.fix b hb;rw[ra]at fa;rw[rb]at fb;refine⟨by simp[h.len],λz hz=>?_,λz hz=>?_,λz hz=>?_,λz hz=>?_,λz hz e=>?_⟩
 ·by_cases q:b=z
  ·subst q;rw[Q2O (by rw[h.len];exact hb)];omega
  rw[Q2P q];exact h.b z hz
 ·have:=h.le z hz;split<;>omega
 ·split
  ·by_cases q:b=a
   ·subst q;rw[Q2O (by rw[h.len];exact hb)]
   rw[Q2P q];exact fa
  rename_i q;rw[Q2P (λe=>q e.symm)];exact h.fix z hz
 ·by_cases q:b=z
  ·subst q;rw[Q2O (by rw[h.len];exact hb),yV,ra,rb,if_pos rfl];split<;>rfl
  rw[Q2P q,h.st z hz]
 by_cases q:b=z
 ·subst q;rw[Q2O (by rw[h.len];exact hb)]at e;rw[rb,if_pos rfl];omega
 rw[Q2P q]at e;rw[h.tip z hz e,if_neg (λx=>q x.symm)]
end
section
attribute [local simp] Qa QD Qo QM Qx
theorem Q6m{α:Type}(xs:List α)(k:Nat)(v z:α){i:Nat}(h:i=xs.length):(xs++zF (k+1) z).set i v=(xs++[v])++zF k z:=by
 subst h;simp[List.replicate_succ]
theorem Q6l{σ ε β:Type}{body:σ→Option (Ctl σ ε)}{K:ε→Option β}{r:Option β}{s0:σ}(n:Nat)(g:Nat→σ){e:ε}(h0:s0=g 0)(hn:n<4611686018427387904)(h:∀i:Nat,i<n→body (g i)=some (.next (g (i+1))))(he:body (g n)=some (.ret e))(hk:K e=r):(Qd body fuel s0).bind K=r:=by
 rw[Q1d g n h0 hn h he];exact hk
theorem Q6k{σ ε:Type}{body:σ→Option (Ctl σ ε)}{I:Nat→σ→Prop}{J:ε→Prop}{n:Nat}(hs:∀i s,i<n→I i s→(∃s',body s=some (.next s')∧I (i+1) s')∨∃e,body s=some (.ret e)∧J e)(he:∀s,I n s→∃e,body s=some (.ret e)∧J e):
  ∀(r i:Nat) (s:σ) (F:Nat),i+r=n→r<F→I i s→∃e,Qd body F s=some e∧J e:=by
 intro r
 induction r with
 |zero=>
  intro i s F hi hF hI;obtain⟨e,h1,h2⟩:=he s (by rw[show n=i by omega];exact hI);obtain⟨F',rfl⟩:∃F',F=F'+1:=⟨F - 1,by omega⟩;simp only[Qd,h1];exact⟨e,rfl,h2⟩
 |succ r ih=>
  intro i s F hi hF hI;obtain⟨F',rfl⟩:∃F',F=F'+1:=⟨F - 1,by omega⟩;rcases hs i s (by omega) hI with⟨s',h1,h2⟩|⟨e,h1,h2⟩
  ·simp only[Qd,h1];exact ih (i+1) s' F' (by omega) (by omega) h2
  simp only[Qd,h1];exact⟨e,rfl,h2⟩
theorem Q3v{σ ε β:Type}{body:σ→Option (Ctl σ ε)}{K:ε→Option β}{s0:σ}{Q:Option β→Prop}(n:Nat)(I:Nat→σ→Prop)(J:ε→Prop)(hn:n<4611686018427387904)(h0:I 0 s0)(hs:∀i s,i<n→I i s→(∃s',body s=some (.next s')∧I (i+1) s')∨∃e,body s=some (.ret e)∧J e)(he:∀s,I n s→∃e,body s=some (.ret e)∧J e)(hk:∀e,J e→Q (K e)):Q ((Qd body fuel s0).bind K):=by
 obtain⟨e,h1,h2⟩:=Q6k hs he n 0 s0 fuel (by omega) (by unfold fuel;omega) h0;rw[h1];exact hk e h2
end
attribute [local simp] unk unA unE unT unC flat eL eI Qh
def Q3y(labels_:List Int):Option (List Int):=
 ass (0≤(labels_.length:Int)∧(labels_.length:Int)≤1073741824)<|
 (Qd (σ:=(List (Int×Int))×List Int×Int) (ε:=List Int) (λs10=>
  if s10.2.2<(labels_.length:Int)then
   ass (0≤s10.2.2∧s10.2.2<(labels_.length:Int))<|
   (
    if¬(((QO (ix labels_ s10.2.2) s10.1).isSome)=true)then
     ass (s10.1.length<1099511627776)<|
     some (tset (ix labels_ s10.2.2) (s10.1.length:Int) s10.1,(s10.1.length:Int))
    else
     some (s10.1,(QO (ix labels_ s10.2.2) s10.1).getD 0):Option ((List (Int×Int))×Int)).bind λb13=>
   ass (0≤s10.2.2∧s10.2.2<(s10.2.1.length:Int))<|
   ass (B64 (s10.2.2+1))<|
   some (yM (b13.1,s10.2.1.set s10.2.2.toNat b13.2,s10.2.2+1))
  else
   some (yK s10.2.1)) fuel ([],zF ((labels_.length:Int).toNat) 0,0)).bind λb2=>
 some b2
theorem Qbs(labels_:List Int)(r:List Int)(h:Q3y labels_=some r):Contract Tryz.prog 106 [lI labels_] (lI r):=by
 refine Q9 (rvs:=[.tmp 2]) (rs:=[lI r]) Tryz.func106 rfl rfl rfl rfl (by simp[Tryz.f106]) λF hN hP=>?_;unfold Q3y at h;refine Q0 (runQ hN λK hK=>?_);simp;repeat refine sdQ ?_
 refine hK _ ?_;clear hK K;refine tn (Q4 (st':=⟨[(0,lI labels_)],[],0⟩) (wkQ []) (Q0 (rxQ hN λK hK=>?_)));simp;repeat refine sdQ ?_
 refine hK _ ?_;clear hK K;refine tn (Q4 (st':=⟨[(0,lI labels_),(3,.mp 0)],[(0,.mapE (.int .i64) (Mii []))],1⟩) (wkQ [(0,0)]) (Q0 (runQ hN λK hK=>?_)));replace⟨a1,h⟩:=Q1 h;simp;repeat refine sdQ ?_
 refine hK _ ?_;clear hK K;refine tn (Q4 (st':=⟨[(0,lI labels_),(3,.mp 0),(4,.own 1 0 ((zF ((labels_.length:Int).toNat) 0).length))],[(0,.mapE (.int .i64) (Mii [])),(1,rI (zF ((labels_.length:Int).toNat) 0))],2⟩) (wkQ [(0,0),(1,1)]) (Q0 (Q0 (runQ hN λK hK=>?_))));simp;repeat refine sdQ ?_
 refine hK _ (tn (Q4 (st':=⟨[(3,.mp 0),(4,.own 1 0 ((zF ((labels_.length:Int).toNat) 0).length)),(13,lI labels_),(14,iV (labels_.length:Int)),(15,iV 0)],[(0,.mapE (.int .i64) (Mii [])),(1,rI (zF ((labels_.length:Int).toNat) 0))],2⟩) (wkQ [(0,0),(1,1)]) ?_));clear hK K;replace⟨e2,h,h2⟩:=bind_some h;refine Qc (λb2:List Int=>⟨[(4,.own 0 0 b2.length)],[(0,rI b2)],1⟩) (λb2=>b2=e2) ?_ ?_
 ·refine Q5 (Qm h (λs10:(List (Int×Int))×List Int×Int=>⟨[(3,.mp 0),(4,.own 1 0 s10.2.1.length),(13,lI labels_),(14,iV (labels_.length:Int)),(15,iV s10.2.2)],[(0,.mapE (.int .i64) (Mii s10.1)),(1,rI s10.2.1)],2⟩) (wkQ [(0,0),(1,1)]) ?_);clear h;intro k10 s10 c10 h hk10;refine Q0 (runQ hN λK hK=>?_);simp;repeat refine sdQ ?_
  refine hK _ ?_;clear hK K;refine tn (Q0 (Q6 rfl (λg=>?_) λg=>?_))
  ·have g11:s10.2.2<(labels_.length:Int):=gQ;clear g;replace h:=if_l g11 h;refine Q7 (tn (Q0 (Q5 (Q0 (runQ hN λK hK=>?_)))));replace⟨a12,h⟩:=Q1 h;simp[at_I a12];(repeat refine sdQ ?_);refine hK _ ?_;clear hK K;refine tn (Q4 (st':=⟨[(3,.mp 0),(4,.own 1 0 s10.2.1.length),(5,iV s10.2.2),(6,iV (ix labels_ s10.2.2)),(13,lI labels_),(14,iV (labels_.length:Int)),(15,iV s10.2.2)],[(0,.mapE (.int .i64) (Mii s10.1)),(1,rI s10.2.1)],2⟩) (wkQ [(0,0),(1,1)]) (Q0 (rxQ hN λK hK=>?_)));simp;(repeat refine sdQ ?_);refine hK _ ?_;clear hK K;refine tn (Q4 (st':=⟨[(3,.mp 0),(4,.own 1 0 s10.2.1.length),(5,iV s10.2.2),(6,iV (ix labels_ s10.2.2)),(7,iV ((QO (ix labels_ s10.2.2) s10.1).getD 0)),(8,.val (.bool ((QO (ix labels_ s10.2.2) s10.1).isSome))),(13,lI labels_),(14,iV (labels_.length:Int)),(15,iV s10.2.2)],[(0,.mapE (.int .i64) (Mii s10.1)),(1,rI s10.2.1)],2⟩) (wkQ [(0,0),(1,1)]) (Q0 (Q0 (runQ hN λK hK=>?_))));simp;(repeat refine sdQ ?_);refine hK _ (tn ?_);clear hK K;replace⟨e13,h,h13⟩:=bind_some h;refine Qc (λb13:(List (Int×Int))×Int=>⟨[(3,.mp 0),(4,.own 1 0 s10.2.1.length),(5,iV s10.2.2),(7,iV b13.2),(13,lI labels_),(14,iV (labels_.length:Int)),(15,iV s10.2.2)],[(0,.mapE (.int .i64) (Mii b13.1)),(1,rI s10.2.1)],2⟩) (λb13=>b13=e13) ?_ ?_
   ·refine Q6 rfl (λg=>?_) λg=>?_
    ·have g14:¬(((QO (ix labels_ s10.2.2) s10.1).isSome)=true):=gQ;clear g;replace h:=if_l g14 h;refine Q0 (rxF [29] hN λK hK=>?_);simp;(repeat refine sdQ ?_);refine hK _ ?_;clear hK K;refine tn (Q4 (st':=⟨[(3,.mp 0),(4,.own 1 0 s10.2.1.length),(5,iV s10.2.2),(6,iV (ix labels_ s10.2.2)),(7,iV (s10.1.length:Int)),(13,lI labels_),(14,iV (labels_.length:Int)),(15,iV s10.2.2)],[(0,.mapE (.int .i64) (Mii s10.1)),(1,rI s10.2.1)],2⟩) (wkQ [(0,0),(1,1)]) (rxQ hN λK hK=>?_));replace⟨a15,h⟩:=Q1 h;simp[a15];(repeat refine sdQ ?_);refine hK _ ?_;clear hK K;exact jn (b:=(tset (ix labels_ s10.2.2) (s10.1.length:Int) s10.1,(s10.1.length:Int))) (yJ h) (wkQ [(0,0),(1,1)])
    have g14:¬(¬(((QO (ix labels_ s10.2.2) s10.1).isSome)=true)):=by first|simpa using g|(simp at g;exact g)|(simp at g;omega)|exact λq=>q (by simpa using g)
    clear g;replace h:=if_r g14 h;refine Q7 ?_;exact jn (b:=(s10.1,(QO (ix labels_ s10.2.2) s10.1).getD 0)) (yJ h) (wkQ [(0,0),(1,1)])
   intro b13 hb13;have h:=h13;(try rw[←hb13]at h);clear h13;(try dsimp only at h);refine runQ hN λK hK=>?_;replace⟨a16,h⟩:=Q1 h;simp[at_I a16];(repeat refine sdQ ?_);refine hK _ ?_;clear hK K;refine bn (tn (Q4 (st':=⟨[(3,.mp 0),(4,.own 1 0 ((s10.2.1.set s10.2.2.toNat b13.2).length)),(13,lI labels_),(14,iV (labels_.length:Int)),(15,iV s10.2.2)],[(0,.mapE (.int .i64) (Mii b13.1)),(1,rI (s10.2.1.set s10.2.2.toNat b13.2))],2⟩) (wkQ [(0,0),(1,1)]) (runQ hN λK hK=>?_)));replace⟨a17,h⟩:=Q1 h;simp[Qg a17];(repeat refine sdQ ?_);refine hK _ ?_;clear hK K;cases h;exact rn (s':=(b13.1,s10.2.1.set s10.2.2.toNat b13.2,s10.2.2+1)) hk10 (wkQ [(0,0),(1,1)])
  have g11:¬(s10.2.2<(labels_.length:Int)):=gQ;clear g;replace h:=if_r g11 h;refine Qj (tx (lx (bh ?_)));cases h;exact jn (b:=s10.2.1) hk10 (wkQ [(1,0)])
 intro b2 hb2;have h:=h2;try rw[←hb2]at h
 clear h2;try dsimp only at h
 refine Q0 (runQ hN λK hK=>?_);simp;repeat refine sdQ ?_
 refine hK _ (tn (Q4 (st':=⟨[(2,.own 0 0 b2.length)],[(0,rI b2)],1⟩) (wkQ [(0,0)]) (Qi ?_)));clear hK K;have hr:=yJ h;rw[←hr];refine⟨_,(.tmp .nil),?_⟩;refine⟨(.one rfl rfl .nil),[lI b2],[0],by simp[BN],by simp,(yN _)⟩
attribute [local simp] unk unA unE unT unC flat eL eI Qh
def QR(p_:List Int):Option (List Int):=
 (Qd (σ:=List Int×Int) (ε:=List Int) (λs8=>
  if s8.2<(p_.length:Int)then
   (
    ass (0≤s8.2∧s8.2<(p_.length:Int))<|
    if(ix p_ s8.2)=(s8.1.length:Int)then
     ass ((s8.1++[s8.2]).length≤1073741824)<|
     some (s8.1++[s8.2])
    else
     some s8.1:Option (List Int)).bind λb10=>
   ass (B64 (s8.2+1))<|
   some (yM (b10,s8.2+1))
  else
   some (yK s8.1)) fuel ([],0)).bind λb1=>
 some b1
theorem Q4f(p_:List Int)(r:List Int)(h:QR p_=some r):Contract Tryz.prog 66 [lI p_] (lI r):=by
 refine Q9 (rvs:=[.tmp 2]) (rs:=[lI r]) Tryz.func66 rfl rfl rfl rfl (by simp[Tryz.f66]) λF hN hP=>?_;unfold QR at h;refine Q0 (runQ hN λK hK=>?_);simp;repeat refine sdQ ?_
 refine hK _ ?_;clear hK K;refine tn (Q4 (st':=⟨[(0,lI p_)],[],0⟩) (wkQ []) (Q0 (runQ hN λK hK=>?_)));simp;repeat refine sdQ ?_
 refine hK _ ?_;clear hK K;refine tn (Q4 (st':=⟨[(0,lI p_),(3,.own 0 0 0)],[(0,.mix 1 [])],1⟩) (wkQ [(0,0)]) (Q0 (Q0 (runQ hN λK hK=>?_))));simp;repeat refine sdQ ?_
 refine hK _ (tn (Q4 (st':=⟨[(3,.own 0 0 0),(7,lI p_),(8,iV (p_.length:Int)),(9,iV 0)],[(0,.mix 1 [])],1⟩) (wkQ [(0,0)]) ?_));clear hK K;replace⟨e1,h,h1⟩:=bind_some h;refine Qc (λb1:List Int=>⟨[(3,.own 0 0 b1.length)],[(0,rI b1)],1⟩) (λb1=>b1=e1) ?_ ?_
 ·refine Q5 (Qm h (λs8:List Int×Int=>⟨[(3,.own 0 0 s8.1.length),(7,lI p_),(8,iV (p_.length:Int)),(9,iV s8.2)],[(0,rI s8.1)],1⟩) (Q2M ⟨[(3,.own 0 0 0),(7,lI p_),(8,iV (p_.length:Int)),(9,iV 0)],[(0,rI [])],1⟩ (Wk.nils [] (by simp) (by simp) (by simp[nlA]) (by simp[entN,nlL,nlA,BN]) (by simp)) (wkQ [(0,0)])) ?_);clear h;intro k8 s8 c8 h hk8;refine Q0 (runQ hN λK hK=>?_);simp;repeat refine sdQ ?_
  refine hK _ ?_;clear hK K;refine tn (Q0 (Q6 rfl (λg=>?_) λg=>?_))
  ·have g9:s8.2<(p_.length:Int):=gQ;clear g;replace h:=if_l g9 h;refine Q7 (tn (Q0 ?_));replace⟨e10,h,h10⟩:=bind_some h;refine Qc (λb10:List Int=>⟨[(3,.own 0 0 b10.length),(7,lI p_),(8,iV (p_.length:Int)),(9,iV s8.2)],[(0,rI b10)],1⟩) (λb10=>b10=e10) ?_ ?_
   ·refine Q5 (Q0 (runQ hN λK hK=>?_));replace⟨a11,h⟩:=Q1 h;simp[at_I a11];(repeat refine sdQ ?_);refine hK _ ?_;clear hK K;refine tn (Q4 (st':=⟨[(3,.own 0 0 s8.1.length),(4,iV s8.2),(5,iV (ix p_ s8.2)),(7,lI p_),(8,iV (p_.length:Int)),(9,iV s8.2)],[(0,rI s8.1)],1⟩) (wkQ [(0,0)]) (Q0 (runQ hN λK hK=>?_)));simp;(repeat refine sdQ ?_);refine hK _ ?_;clear hK K;refine tn (Q6 rfl (λg=>?_) λg=>?_)
    ·have g12:(ix p_ s8.2)=(s8.1.length:Int):=gQ;clear g;replace h:=if_l g12 h;refine runQ hN λK hK=>?_;replace⟨a13,h⟩:=Q1 h;(try simp only[qD,qH,zS]at a13);simp[a13];(repeat refine sdQ ?_);refine hK _ (bn ?_);clear hK K;exact jn (b:=s8.1++[s8.2]) (yJ h) (wkQ [(2,0)])
    have g12:¬((ix p_ s8.2)=(s8.1.length:Int)):=gQ;clear g;replace h:=if_r g12 h;refine Q7 (bn ?_);exact jn (b:=s8.1) (yJ h) (wkQ [(0,0)])
   intro b10 hb10;have h:=h10;(try rw[←hb10]at h);clear h10;(try dsimp only at h);refine runQ hN λK hK=>?_;replace⟨a14,h⟩:=Q1 h;simp[Qg a14];(repeat refine sdQ ?_);refine hK _ ?_;clear hK K;cases h;exact rn (s':=(b10,s8.2+1)) hk8 (wkQ [(0,0)])
  have g9:¬(s8.2<(p_.length:Int)):=gQ;clear g;replace h:=if_r g9 h;refine Qj (tx (lx (bh ?_)));cases h;exact jn (b:=s8.1) hk8 (wkQ [(0,0)])
 intro b1 hb1;have h:=h1;try rw[←hb1]at h
 clear h1;try dsimp only at h
 refine Q0 (runQ hN λK hK=>?_);simp;repeat refine sdQ ?_
 refine hK _ (tn (Q4 (st':=⟨[(2,.own 0 0 b1.length)],[(0,rI b1)],1⟩) (wkQ [(0,0)]) (Qi ?_)));clear hK K;have hr:=yJ h;rw[←hr];refine⟨_,(.tmp .nil),?_⟩;refine⟨(.one rfl rfl .nil),[lI b1],[0],by simp[BN],by simp,(yN _)⟩
attribute [local simp] unk unA unE unT unC flat eL eI Qh
def Q1S(list_:List Int)(n_:Int):Option Int:=
 (Qd (σ:=Int) (ε:=Unit⊕Int) (λs6=>
  if s6<(list_.length:Int)then
   ass (0≤s6∧s6<(list_.length:Int))<|
   if(ix list_ s6)=n_ then
    some (yK (yT s6))
   else
    ass (B64 (s6+1))<|
    some (yM (s6+1))
  else
   some (yK (yS ()))) fuel 0).bind λe1=>
 match e1 with
 | .inl b1=>
  some (-1)
 | .inr p1=>
  some p1
theorem Q5F(list_:List Int)(n_:Int)(r:Int)(h:Q1S list_ n_=some r):Contract Tryz.prog 82 [lI list_,iV n_] (iV r):=by
 refine Q9 (rvs:=[.tmp 4]) (rs:=[iV r]) Tryz.func82 rfl rfl rfl rfl (by simp[Tryz.f82]) λF hN hP=>?_;unfold Q1S at h;refine Q0 (runQ hN λK hK=>?_);simp;repeat refine sdQ ?_
 refine hK _ ?_;clear hK K;refine tn (Q4 (st':=⟨[(0,lI list_),(1,iV n_)],[],0⟩) (wkQ []) (Q0 (Q0 (runQ hN λK hK=>?_))));simp;repeat refine sdQ ?_
 refine hK _ (tn (Q4 (st':=⟨[(0,lI list_),(1,iV n_),(5,iV 0)],[],0⟩) (wkQ []) ?_));clear hK K;replace⟨e1,h,h1⟩:=bind_some h;refine Qc (λb1:Unit=>⟨[],[],0⟩) (λb1=>yS b1=e1) ?_ ?_
 ·refine Q5 (Qm h (λs6:Int=>⟨[(0,lI list_),(1,iV n_),(5,iV s6)],[],0⟩) (wkQ []) ?_);clear h;intro k6 s6 c6 h hk6;refine Q0 (Q0 (runQ hN λK hK=>?_));simp;repeat refine sdQ ?_
  refine hK _ ?_;clear hK K;refine tn (Q6 rfl (λg=>?_) λg=>?_)
  ·have g7:s6<(list_.length:Int):=gQ;clear g;replace h:=if_l g7 h;refine Q7 (tn (Q0 (Q5 (Q0 (runQ hN λK hK=>?_)))));replace⟨a8,h⟩:=Q1 h;simp[at_I a8];(repeat refine sdQ ?_);refine hK _ ?_;clear hK K;refine tn (Q6 rfl (λg=>?_) λg=>?_)
   ·have g9:(ix list_ s6)=n_:=gQ;clear g;replace h:=if_l g9 h;refine Q0 (runQ hN λK hK=>?_);simp;(repeat refine sdQ ?_);refine hK _ (tn (Q4 (st':=⟨[(4,iV s6)],[],0⟩) (wkQ []) (Qi (br (tr (lr (br (tr ?_))))))));clear hK K;cases h;have q:_=e1:=hk6;have h:=h1;rw[←q]at h;clear q;(try dsimp only at h);have hr:=yJ h;rw[←hr];refine⟨_,(.tmp .nil),?_⟩;refine⟨(.one rfl rfl .nil),[iV s6],[],by simp[BN],by simp,(yN _)⟩
   have g9:¬((ix list_ s6)=n_):=gQ;clear g;replace h:=if_r g9 h;refine Q7 (bn (tn (runQ hN λK hK=>?_)));replace⟨a10,h⟩:=Q1 h;simp[Qg a10];(repeat refine sdQ ?_);refine hK _ ?_;clear hK K;cases h;exact rn (s':=s6+1) hk6 (wkQ [])
  have g7:¬(s6<(list_.length:Int)):=gQ;clear g;replace h:=if_r g7 h;refine Qj (tx (lx (bh ?_)));cases h;exact jn (b:=()) hk6 (wkQ [])
 intro b1 hb1;have h:=h1;try rw[←hb1]at h
 clear h1;try dsimp only at h
 refine Q0 (runQ hN λK hK=>?_);simp;repeat refine sdQ ?_
 refine hK _ (tn (Q4 (st':=⟨[(4,iV (-1))],[],0⟩) (wkQ []) (Qi ?_)));clear hK K;have hr:=yJ h;rw[←hr];refine⟨_,(.tmp .nil),?_⟩;refine⟨(.one rfl rfl .nil),[iV (-1)],[],by simp[BN],by simp,(yN _)⟩
attribute [local simp] unk unA unE unT unC flat eL eI Qh
def Q20(labels_:List Int):Option (List Int):=
 (Qd (σ:=List Int×List Int×Int) (ε:=List Int) (λs11=>
  if s11.2.2<(labels_.length:Int)then
   ass (0≤s11.2.2∧s11.2.2<(labels_.length:Int))<|
   (Q1S s11.2.1 (ix labels_ s11.2.2)).bind λv14=>
   (
    if v14<0 then
     ass (0≤s11.2.2∧s11.2.2<(labels_.length:Int))<|
     ass ((s11.2.1++[ix labels_ s11.2.2]).length≤1073741824)<|
     some (s11.2.1++[ix labels_ s11.2.2],(s11.2.1.length:Int))
    else
     some (s11.2.1,v14):Option (List Int×Int)).bind λb15=>
   ass ((s11.1++[b15.2]).length≤1073741824)<|
   ass (B64 (s11.2.2+1))<|
   some (yM (s11.1++[b15.2],b15.1,s11.2.2+1))
  else
   some (yK s11.1)) fuel ([],[],0)).bind λb1=>
 some b1
theorem Q6Q(labels_:List Int)(r:List Int)(h:Q20 labels_=some r):Contract Tryz.prog 100 [lI labels_] (lI r):=by
 refine Q9 (rvs:=[.tmp 2]) (rs:=[lI r]) Tryz.func100 rfl rfl rfl rfl (by simp[Tryz.f100]) λF hN hP=>?_;unfold Q20 at h;refine Q0 (runQ hN λK hK=>?_);simp;repeat refine sdQ ?_
 refine hK _ ?_;clear hK K;refine tn (Q4 (st':=⟨[(0,lI labels_)],[],0⟩) (wkQ []) (Q0 (runQ hN λK hK=>?_)));simp;repeat refine sdQ ?_
 refine hK _ ?_;clear hK K;refine tn (Q4 (st':=⟨[(0,lI labels_),(3,.own 0 0 0),(4,.own 1 0 0)],[(0,.mix 1 []),(1,.mix 1 [])],2⟩) (wkQ [(0,0),(1,1)]) (Q0 (Q0 (runQ hN λK hK=>?_))));simp;repeat refine sdQ ?_
 refine hK _ (tn (Q4 (st':=⟨[(0,lI labels_),(3,.own 0 0 0),(4,.own 1 0 0),(5,iV 0)],[(0,.mix 1 []),(1,.mix 1 [])],2⟩) (wkQ [(0,0),(1,1)]) ?_));clear hK K;replace⟨e1,h,h1⟩:=bind_some h;refine Qc (λb1:List Int=>⟨[(3,.own 0 0 b1.length)],[(0,rI b1)],1⟩) (λb1=>b1=e1) ?_ ?_
 ·refine Q5 (Qm h (λs11:List Int×List Int×Int=>⟨[(0,lI labels_),(3,.own 0 0 s11.1.length),(4,.own 1 0 s11.2.1.length),(5,iV s11.2.2)],[(0,rI s11.1),(1,rI s11.2.1)],2⟩) (Q2M ⟨[(0,lI labels_),(3,.own 0 0 0),(4,.own 1 0 0),(5,iV 0)],[(0,rI []),(1,rI [])],2⟩ (Wk.nils [] (by simp) (by simp) (by simp[nlA]) (by simp[entN,nlL,nlA,BN]) (by simp)) (wkQ [(0,0),(1,1)])) ?_);clear h;intro k11 s11 c11 h hk11;refine Q0 (Q0 (runQ hN λK hK=>?_));simp;repeat refine sdQ ?_
  refine hK _ ?_;clear hK K;refine tn (Q6 rfl (λg=>?_) λg=>?_)
  ·have g12:s11.2.2<(labels_.length:Int):=gQ;clear g;replace h:=if_l g12 h;refine Q7 (tn (Q0 (Q5 (Q0 (runQ hN λK hK=>?_)))));replace⟨a13,h⟩:=Q1 h;simp[at_I a13];(repeat with_reducible refine sdQ ?_);replace⟨v14,hv14,h⟩:=bind_some h;refine Q3 (Q5F _ _ v14 hv14) (.cons .w (.cons .val .nil)) ?_;simp[at_I a13];(repeat refine sdQ ?_);refine hK _ ?_;clear hK K;refine tn (Q4 (st':=⟨[(0,lI labels_),(3,.own 0 0 s11.1.length),(4,.own 1 0 s11.2.1.length),(5,iV s11.2.2),(6,iV v14)],[(0,rI s11.1),(1,rI s11.2.1)],2⟩) (wkQ [(0,0),(1,1)]) (Q0 (Q0 (runQ hN λK hK=>?_))));simp;(repeat refine sdQ ?_);refine hK _ (tn ?_);clear hK K;replace⟨e15,h,h15⟩:=bind_some h;refine Qc (λb15:List Int×Int=>⟨[(0,lI labels_),(3,.own 0 0 s11.1.length),(4,.own 1 0 b15.1.length),(5,iV s11.2.2),(6,iV b15.2)],[(0,rI s11.1),(1,rI b15.1)],2⟩) (λb15=>b15=e15) ?_ ?_
   ·refine Q6 rfl (λg=>?_) λg=>?_
    ·have g16:v14<0:=gQ;clear g;replace h:=if_l g16 h;refine Q0 (runQ hN λK hK=>?_);simp;(repeat refine sdQ ?_);refine hK _ ?_;clear hK K;refine tn (Q4 (st':=⟨[(0,lI labels_),(3,.own 0 0 s11.1.length),(4,.own 1 0 s11.2.1.length),(5,iV s11.2.2),(6,iV (s11.2.1.length:Int))],[(0,rI s11.1),(1,rI s11.2.1)],2⟩) (wkQ [(0,0),(1,1)]) (runQ hN λK hK=>?_));replace⟨a17,h⟩:=Q1 h;replace⟨a18,h⟩:=Q1 h;(try simp only[qD,qH,zS]at a18);simp[at_I a17,a18];(repeat refine sdQ ?_);refine hK _ ?_;clear hK K;exact jn (b:=(s11.2.1++[ix labels_ s11.2.2],(s11.2.1.length:Int))) (yJ h) (wkQ [(0,0),(3,1)])
    have g16:¬(v14<0):=gQ;clear g;replace h:=if_r g16 h;refine Q7 ?_;exact jn (b:=(s11.2.1,v14)) (yJ h) (wkQ [(0,0),(1,1)])
   intro b15 hb15;have h:=h15;(try rw[←hb15]at h);clear h15;(try dsimp only at h);refine runQ hN λK hK=>?_;replace⟨a19,h⟩:=Q1 h;(try simp only[qD,qH,zS]at a19);simp[a19];(repeat refine sdQ ?_);refine hK _ ?_;clear hK K;refine bn (tn (Q4 (st':=⟨[(0,lI labels_),(3,.own 0 0 ((s11.1++[b15.2]).length)),(4,.own 1 0 b15.1.length),(5,iV s11.2.2)],[(0,rI (s11.1++[b15.2])),(1,rI b15.1)],2⟩) (wkQ [(3,0),(1,1)]) (runQ hN λK hK=>?_)));replace⟨a20,h⟩:=Q1 h;simp[Qg a20];(repeat refine sdQ ?_);refine hK _ ?_;clear hK K;cases h;exact rn (s':=(s11.1++[b15.2],b15.1,s11.2.2+1)) hk11 (wkQ [(0,0),(1,1)])
  have g12:¬(s11.2.2<(labels_.length:Int)):=gQ;clear g;replace h:=if_r g12 h;refine Qj (tx (lx (bh ?_)));cases h;exact jn (b:=s11.1) hk11 (wkQ [(0,0)])
 intro b1 hb1;have h:=h1;try rw[←hb1]at h
 clear h1;try dsimp only at h
 refine Q0 (runQ hN λK hK=>?_);simp;repeat refine sdQ ?_
 refine hK _ (tn (Q4 (st':=⟨[(2,.own 0 0 b1.length)],[(0,rI b1)],1⟩) (wkQ [(0,0)]) (Qi ?_)));clear hK K;have hr:=yJ h;rw[←hr];refine⟨_,(.tmp .nil),?_⟩;refine⟨(.one rfl rfl .nil),[lI b1],[0],by simp[BN],by simp,(yN _)⟩
section
attribute [local simp] Qa QD Qo QM Qx
theorem flt_pre{p:Nat→Prop}{y:Nat}(hp:p y):∀i,y<i→∃s,flt i p=flt y p++(y:Int)::s:=by
 intro i
 induction i with
 |zero=>intro h;omega
 |succ i ih=>
  intro h
  by_cases q:y=i
  ·subst q;exact⟨[],by rw[Q2r hp]⟩
  obtain⟨s,e⟩:=ih (by omega)
  by_cases hi:p i
  ·exact⟨s++[(i:Int)],by rw[Q2r hi,e];simp⟩
  exact⟨s,by rw[Q2b hi,e]⟩
def cn(r:Nat→Nat)(k:Nat):Nat:=(flt k λy=>r y=y).length
theorem cn_pos{r:Nat→Nat}{k:Nat}(h:r k=k):cn r (k+1)=cn r k+1:=by unfold cn;rw[Q2r (p:=λy=>r y=y) h];simp
theorem cn_neg{r:Nat→Nat}{k:Nat}(h:¬r k=k):cn r (k+1)=cn r k:=by unfold cn;rw[Q2b (p:=λy=>r y=y) h]
theorem Q8l(r:Nat→Nat)(k:Nat):cn r k≤k:=Q2q _ _
theorem cn_lt{r:Nat→Nat}{y i:Nat}(h:r y=y)(hi:y<i):cn r y<cn r i:=by
 obtain⟨s,e⟩:=flt_pre (p:=λy=>r y=y) h i hi;unfold cn;rw[e];simp
def cls(r:Nat→Nat)(n:Nat):List Int:=tab n λx=>(cn r (r x):Int)
def lds(r:Nat→Nat)(n:Nat):List Int:=flt n λy=>r y=y
def idxL(L:List Int)(v:Int):Int:=fstN L.length λi=>ix L i=v
theorem Qaf{L:List Int}{v:Int}(hl:L.length≤1000000):Q1S L v=some (idxL L v):=by
 unfold Q1S;refine fstI L.length (λi=>ix L i=v) (λi=>yT i) (yS ()) (by omega) (λi hi=>?_) (by rw[if_neg (by omega)]) ?_
 ·rw[if_pos (by omega),Q2 (by omega)]
  by_cases q:ix L i=v
  ·rw[if_pos q,Qu q];rfl
  rw[if_neg q,Qp q,Q2 (by unfold B64;omega)];rfl
 unfold idxL;rcases Q4M L.length (λi=>ix L i=v)with⟨e,_⟩|⟨k,_,_,e⟩
 ·rw[e];simp
 rw[e,if_pos (by omega)]
theorem idx_no{L:List Int}{v:Int}(h:v∉L):idxL L v= -1:=fst_no λi hi e=>h (by rw[←e,←Q16 _ _ hi];exact zY hi)
theorem lds_mem{r:Nat→Nat}{n:Nat}{z:Int}:z∈lds r n↔∃k:Nat,k<n∧r k=k∧z=(k:Int):=mem_flt
theorem seen_idx{L:List Int}{r:Nat→Nat}{n i:Nat}(hr:∀x,x<n→r x≤x∧r (r x)=r x)(hq:∀x y:Nat,x<n→y<n→(ix L x=ix L y↔r x=r y))(hi:i<n):idxL ((lds r i).map (ix L)) (ix L i)=if r i=i then -1 else(cn r (r i):Int):=by
 have h:=hr i hi
 by_cases q:r i=i
 ·rw[if_pos q];refine idx_no λz=>?_;obtain⟨w,hw,e⟩:=List.mem_map.1 z;obtain⟨k,hk,pk,rfl⟩:=lds_mem.1 hw;have:=(hq k i (by omega) hi).1 e;omega
 rw[if_neg q];obtain⟨s,e⟩:=flt_pre (p:=λy=>r y=y) h.2 i (by omega);have e':lds r i=lds r (r i)++(r i:Int)::s:=e;have l1:(lds r (r i)).length=cn r (r i):=rfl;unfold idxL;refine Qal (by rw[e'];simp[l1]) ?_ λk hk z=>?_
 ·have:ix ((lds r i).map (ix L)) (cn r (r i):Nat)=ix L (r i:Nat):=by
   rw[e',←l1];simp[ix,qB]
  rw[this];exact(hq (r i) i (by omega) hi).2 h.2
 have hk':k<(lds r (r i)).length:=hk;have e2:ix ((lds r i).map (ix L)) k=ix L (ix (lds r (r i)) k):=by
  rw[e',List.map_append];simp only[ix,qB,yV];rw[List.getElem?_append_left (by simpa using hk')];simp[hk',ix]
 obtain⟨w,hw,pw,ew⟩:=lds_mem.1 (show ix (lds r (r i)) k∈lds r (r i) by rw[←Q16 _ _ hk'];exact zY hk');rw[e2,ew]at z;have:=(hq w i (by omega) hi).1 z;omega
theorem e_l01Cls{L:List Int}{r:Nat→Nat}{n:Nat}(hl:L.length=n)(hr:∀x,x<n→r x≤x∧r (r x)=r x)(hq:∀x y:Nat,x<n→y<n→(ix L x=ix L y↔r x=r y))(hn:n≤1000):Q20 L=some (cls r n):=by
 unfold Q20;refine Q6l (σ:=List Int×List Int×Int) n (λi=>(cls r i,(lds r i).map (ix L),(i:Int))) rfl (by omega) (λi hi=>?_) (e:=cls r n) ?_ rfl
 ·have h:=hr i hi;have l1:(lds r i).length=cn r i:=rfl;have l2:=Q8l r i;simp only;rw[if_pos (by omega),Q2 (by omega),Qaf (by simp;omega),seen_idx hr hq hi];simp only[yR]
  by_cases q:r i=i
  ·rw[if_pos q,if_pos (by omega),Q2 (by omega),Q2 (by simp;omega)];simp only[yR];rw[Q2 (by simp[cls];omega),Q2 (by unfold B64;omega)];have e2:cls r (i+1)=cls r i++[(((lds r i).map (ix L)).length:Int)]:=(by unfold cls;rw[Q4n,q,List.length_map,l1]);have e3:(lds r (i+1)).map (ix L)=(lds r i).map (ix L)++[ix L i]:=(by unfold lds;rw[Q2r (p:=λy=>r y=y) q];simp);rw[e2,e3];rfl
  rw[if_neg q,if_neg (by omega)];simp only[yR];rw[Q2 (by simp[cls];omega),Q2 (by unfold B64;omega)];have e2:cls r (i+1)=cls r i++[(cn r (r i):Int)]:=by unfold cls;rw[Q4n]
  have e3:lds r (i+1)=lds r i:=by unfold lds;rw[Q2b (p:=λy=>r y=y) q]
  rw[e2,e3];rfl
 simp only;rw[if_neg (by omega)]
theorem QaS{α β:Type}[DecidableEq α](k:α)(v:β):∀m:List (α×β),QO k m=none→(tset k v m).length=m.length+1:=by
 intro m
 induction m with
 |nil=>intro _;rfl
 |cons p t ih=>
  intro h;obtain⟨a,x⟩:=p;unfold QO at h;split at h
  ·cases h
  rename_i q;unfold tset;rw[if_neg q];simp[ih h]
theorem Q28{α β:Type}[DecidableEq α](k k':α)(v:β)(m:List (α×β)):QO k (tset k' v m)=if k'=k then some v else QO k m:=by
 induction m with
 |nil=>simp[tset,QO]
 |cons p t ih=>
  obtain⟨a,x⟩:=p;unfold tset;split
  ·rename_i h1;subst h1
   by_cases h2:a=k<;>simp[QO,h2]
  rename_i h1;simp only[QO,ih]
  by_cases h2:a=k
  ·subst h2;rw[if_pos rfl,if_neg (λe=>h1 e.symm),if_pos rfl]
  rw[if_neg h2,if_neg h2]
theorem e_normal{r:Nat→Nat}{n:Nat}(hr:∀x,x<n→r x≤x∧r (r x)=r x)(hn:n≤1000):Q3y (tab n λx=>(r x:Int))=some (cls r n):=by
 unfold Q3y;rw[Q2 (by simp;omega)];refine Q3v (σ:=(List (Int×Int))×List Int×Int) (Q:=λz=>z=some (cls r n)) n (λi s=>s.2=(cls r i++zF (n - i) 0,(i:Int))∧s.1.length=cn r i∧(∀y:Nat,y<i→r y=y→QO (y:Int) s.1=some (cn r y:Int))∧∀y:Nat,i≤y→QO (y:Int) s.1=none) (λe=>e=cls r n) (by omega) ⟨by simp[cls,tab_zero],rfl,λy hy=>by omega,λy _=>rfl⟩ ?_ ?_ (λe he=>by rw[he])
 ·rintro i ⟨m,L,j⟩ hi ⟨e,hm,h1,h2⟩
  simp only[Prod.mk.injEq]at e;obtain⟨rfl,rfl⟩:=e;simp only at hm h1 h2;have h:=hr i hi;have l2:=Q8l r i;have ek:n - i=(n - (i+1))+1:=by omega
  simp only[Q7g];rw[if_pos (by omega),Q2 (by omega),Q8G _ _ hi]
  by_cases q:r i=i
  ·rw[q,if_pos (by rw[h2 i (qE _)];simp),Q2 (by omega)];simp only[yR];rw[Q2 (by simp[cls];omega),Q2 (by unfold B64;omega)];refine .inl ⟨_,rfl,?_,?_,λy hy hq=>?_,λy hy=>?_⟩
   ·refine Prod.ext ?_ (by push_cast;rfl);simp only[yV];rw[ek,Q6m _ _ _ _ (by simp[cls])]
    congr 1
    unfold cls;rw[Q4n,q,hm]
   ·simp only;rw[QaS _ _ _ (h2 i (qE _)),cn_pos q,hm]
   ·simp only;rw[Q28]
    by_cases z:i=y
    ·subst z;rw[if_pos rfl,hm]
    rw[if_neg (by omega)];exact h1 y (by omega) hq
   simp only;rw[Q28,if_neg (by omega)];exact h2 y (by omega)
  have e:=h1 (r i) (by omega) h.2;rw[e,if_neg (by simp)];simp only[yR,Option.getD_some];rw[Q2 (by simp[cls];omega),Q2 (by unfold B64;omega)];refine .inl ⟨_,rfl,?_,?_,λy hy hq=>?_,λy hy=>h2 y (by omega)⟩
  ·refine Prod.ext ?_ (by push_cast;rfl);simp only[yV];rw[ek,Q6m _ _ _ _ (by simp[cls])]
   congr 1
   unfold cls;rw[Q4n]
  ·simp only;rw[cn_neg q,hm]
  have:y≠i:=λz=>q (by rw[←z];exact hq);exact h1 y (by omega) hq
 rintro ⟨m,L,j⟩ ⟨e,hm,h1,h2⟩
 simp only[Prod.mk.injEq]at e;obtain⟨rfl,rfl⟩:=e;simp only[Q7g];rw[if_neg (by omega)];exact⟨_,rfl,by simp⟩
theorem e_leaders{r:Nat→Nat}{n:Nat}(hr:∀x,x<n→r x≤x∧r (r x)=r x)(hn:n≤1000):QR (cls r n)=some (lds r n):=by
 unfold QR;have l0:(cls r n).length=n:=by simp[cls]
 refine Q11 n (λi=>lds r i) (e:=lds r n) rfl (by omega) (λi hi=>?_) (by simp only;rw[if_neg (by omega)]) rfl;have h:=hr i hi;have l1:(lds r i).length=cn r i:=rfl;have l2:=Q8l r i;have e:ix (cls r n) i=(cn r (r i):Int):=Q8G n _ hi;simp only;rw[if_pos (by omega),Q2 (by omega),e]
 by_cases q:r i=i
 ·rw[if_pos (by rw[q,l1]),Q2 (by simp;omega)];simp only[yR];rw[Q2 (by unfold B64;omega)];unfold lds;rw[Q2r (p:=λy=>r y=y) q]
 have:=cn_lt (r:=r) h.2 (show r i<i by omega);rw[if_neg (by omega)];simp only[yR];rw[Q2 (by unfold B64;omega)];unfold lds;rw[Q2b (p:=λy=>r y=y) q]
end
section
attribute [local simp] Qa QD Qo QM Qx
structure UI(c:Cat)(j:List Int)(r:Nat→Nat)(i:Nat):Prop where
 u:UF j r c.id.length
 io:∀x,x<c.id.length→Io c (r x) x
 st:∀a:Nat,a<i→0≤inv c a→r (ix c.fr a).toNat=r (ix c.to a).toNat
theorem UF.rr{j:List Int}{r:Nat→Nat}{n x:Nat}(h:UF j r n)(hx:x<n):r (r x)=r x:=h.tip (r x) (by have:=h.le x hx;omega) (h.fix x hx)
end
attribute [local simp] unk unA unE unT unC flat eL eI Qh
def Q35(n_:Int)(pairs_:List (List Int)):Option (List Int):=
 (Qd (σ:=List Int×Int) (ε:=List Int) (λs5=>
  if s5.2<n_ then
   ass ((s5.1++[s5.2]).length≤1073741824)<|
   ass (B64 (s5.2+1))<|
   some (yM (s5.1++[s5.2],s5.2+1))
  else
   some (yK s5.1)) fuel ([],0)).bind λb1=>
 (Qd (σ:=List Int×Int) (ε:=List Int) (λs36=>
  if s36.2<(pairs_.length:Int)then
   (
    ass (0≤s36.2∧s36.2<(pairs_.length:Int))<|
    ass ((0:Int)≤0∧0<((rx pairs_ s36.2).length:Int))<|
    ass (0≤ix (rx pairs_ s36.2) 0∧ix (rx pairs_ s36.2) 0<(s36.1.length:Int))<|
    ass (0≤s36.2∧s36.2<(pairs_.length:Int))<|
    ass ((0:Int)≤1∧1<((rx pairs_ s36.2).length:Int))<|
    ass (0≤ix (rx pairs_ s36.2) 1∧ix (rx pairs_ s36.2) 1<(s36.1.length:Int))<|
    (Qd (σ:=List Int×Int) (ε:=List Int) (λs53=>
     (
      if s53.2<(s53.1.length:Int)then
       some ((ix s36.1 (ix (rx pairs_ s36.2) 0))!=(ix s36.1 (ix (rx pairs_ s36.2) 1)))
      else
       some false:Option (Bool)).bind λb54=>
     if b54=true then
      (
       ass (0≤s53.2∧s53.2<(s53.1.length:Int))<|
       if(ix s53.1 s53.2)=(ix s36.1 (ix (rx pairs_ s36.2) 1))then
        ass (0≤s53.2∧s53.2<(s53.1.length:Int))<|
        some (s53.1.set s53.2.toNat (ix s36.1 (ix (rx pairs_ s36.2) 0)))
       else
        some s53.1:Option (List Int)).bind λb57=>
      ass (B64 (s53.2+1))<|
      some (yM (b57,s53.2+1))
     else
      some (yK s53.1)) fuel (s36.1,0)).bind λp53=>
    some p53:Option (List Int)).bind λb38=>
   ass (B64 (s36.2+1))<|
   some (yM (b38,s36.2+1))
  else
   some (yK s36.1)) fuel (b1,0)).bind λb9=>
 (Q20 b9).bind λv63=>
 some v63
@[simp] abbrev YR(a:List Int×Int)(b:List (List Int))(c:List (Nat×AV)):List (Nat×AV):=(7,iV a.2)::(8,iV (ix a.1 (ix (rx b a.2) 0)))::(9,iV (ix a.1 (ix (rx b a.2) 1)))::c
theorem Q9T(n_:Int)(pairs_:List (List Int))(r:List Int)(h:Q35 n_ pairs_=some r):Contract Tryz.prog 81 [iV n_,.lst true 1 (Ls pairs_)] (lI r):=by
 refine Q9 (rvs:=[.tmp 4]) (rs:=[lI r]) Tryz.func81 rfl rfl rfl rfl (by simp[Tryz.f81]) λF hN hP=>?_;unfold Q35 at h;refine Q0 (runQ hN λK hK=>?_);simp;repeat refine sdQ ?_
 refine hK _ ?_;clear hK K;refine tn (Q4 (st':=⟨[(0,iV n_),(1,.lst true 1 (Ls pairs_))],[],0⟩) (wkQ []) (Q0 (runQ hN λK hK=>?_)));simp;repeat refine sdQ ?_
 refine hK _ ?_;clear hK K;refine tn (Q4 (st':=⟨[(0,iV n_),(1,.lst true 1 (Ls pairs_)),(5,.own 0 0 0)],[(0,.mix 1 [])],1⟩) (wkQ [(0,0)]) (Q0 (Q0 (runQ hN λK hK=>?_))));simp;repeat refine sdQ ?_
 refine hK _ (tn (Q4 (st':=⟨[(0,iV n_),(1,.lst true 1 (Ls pairs_)),(5,.own 0 0 0),(6,iV 0)],[(0,.mix 1 [])],1⟩) (wkQ [(0,0)]) ?_));clear hK K;replace⟨e1,h,h1⟩:=bind_some h;refine Qc (λb1:List Int=>⟨(1,.lst true 1 (Ls pairs_))::Y06 b1 [],[(0,rI b1)],1⟩) (λb1=>b1=e1) ?_ ?_
 ·refine Q5 (Qm h (λs5:List Int×Int=>⟨(0,iV n_)::(1,.lst true 1 (Ls pairs_))::Y0b s5 [(6,iV s5.2)],[(0,rI s5.1)],1⟩) (Q2M ⟨[(0,iV n_),(1,.lst true 1 (Ls pairs_)),(5,.own 0 0 0),(6,iV 0)],[(0,rI [])],1⟩ (Wk.nils [] (by simp) (by simp) (by simp[nlA]) (by simp[entN,nlL,nlA,BN]) (by simp)) (wkQ [(0,0)])) ?_);clear h;intro k5 s5 c5 h hk5;refine Q0 (Q0 (runQ hN λK hK=>?_));simp;repeat refine sdQ ?_
  refine hK _ ?_;clear hK K;refine tn (Q6 rfl (λg=>?_) λg=>?_)
  ·have g6:s5.2<n_:=gQ;clear g;replace h:=if_l g6 h;refine Q7 (tn (Q0 (Q5 (runQ hN λK hK=>?_))));replace⟨a7,h⟩:=Q1 h;(try simp only[qD,qH,zS]at a7);simp[a7];(repeat refine sdQ ?_);refine hK _ ?_;clear hK K;refine bn (tn (Q4 (st':=⟨[(0,iV n_),(1,.lst true 1 (Ls pairs_)),(5,.own 0 0 ((s5.1++[s5.2]).length)),(6,iV s5.2)],[(0,rI (s5.1++[s5.2]))],1⟩) (wkQ [(2,0)]) (runQ hN λK hK=>?_)));replace⟨a8,h⟩:=Q1 h;simp[Qg a8];(repeat refine sdQ ?_);refine hK _ ?_;clear hK K;cases h;exact rn (s':=(s5.1++[s5.2],s5.2+1)) hk5 (wkQ [(0,0)])
  have g6:¬(s5.2<n_):=gQ;clear g;replace h:=if_r g6 h;refine Qj (tx (lx (bh ?_)));cases h;exact jn (b:=s5.1) hk5 (wkQ [(0,0)])
 intro b1 hb1;have h:=h1;try rw[←hb1]at h
 clear h1;try dsimp only at h
 refine Q0 (Q0 (runQ hN λK hK=>?_));simp;repeat refine sdQ ?_
 refine hK _ (tn (Q4 (st':=⟨(1,.lst true 1 (Ls pairs_))::Y06 b1 [(7,iV 0)],[(0,rI b1)],1⟩) (wkQ [(0,0)]) ?_));clear hK K;replace⟨e9,h,h9⟩:=bind_some h;refine Qc (λb9:List Int=>⟨Y06 b9 [],[(0,rI b9)],1⟩) (λb9=>b9=e9) ?_ ?_
 ·refine Q5 (Qm h (λs36:List Int×Int=>⟨(1,.lst true 1 (Ls pairs_))::Y0b s36 [(7,iV s36.2)],[(0,rI s36.1)],1⟩) (wkQ [(0,0)]) ?_);clear h;intro k36 s36 c36 h hk36;refine Q0 (Q0 (runQ hN λK hK=>?_));simp;repeat refine sdQ ?_
  refine hK _ ?_;clear hK K;refine tn (Q6 rfl (λg=>?_) λg=>?_)
  ·have g37:s36.2<(pairs_.length:Int):=gQ;clear g;replace h:=if_l g37 h;refine Q7 (tn (Q0 ?_));replace⟨e38,h,h38⟩:=bind_some h;refine Qc (λb38:List Int=>⟨(1,.lst true 1 (Ls pairs_))::Y06 b38 [(7,iV s36.2)],[(0,rI b38)],1⟩) (λb38=>b38=e38) ?_ ?_
   ·refine Q5 (Q0 (runQ hN λK hK=>?_));replace⟨a39,h⟩:=Q1 h;replace⟨a40,h⟩:=Q1 h;replace⟨a41,h⟩:=Q1 h;replace⟨a42,h⟩:=Q1 h;replace⟨a43,h⟩:=Q1 h;replace⟨a44,h⟩:=Q1 h;simp[at_L a39,(show(Is (rx pairs_ s36.2))[0]? =some [iV (ix (rx pairs_ s36.2) 0)] from at_I (j:=0) a40),at_I a41,at_L a42,(show(Is (rx pairs_ s36.2))[1]? =some [iV (ix (rx pairs_ s36.2) 1)] from at_I (j:=1) a43),at_I a44];(repeat refine sdQ ?_);refine hK _ ?_;clear hK K;refine tn (Q4 (st':=⟨(1,.lst true 1 (Ls pairs_))::Y0b s36 (YR s36 pairs_ []),[(0,rI s36.1)],1⟩) (wkQ [(0,0)]) (Q0 (runQ hN λK hK=>?_)));simp;(repeat refine sdQ ?_);refine hK _ (tn (Q4 (st':=⟨(1,.lst true 1 (Ls pairs_))::Y0b s36 (YR s36 pairs_ [(10,iV 0)]),[(0,rI s36.1)],1⟩) (wkQ [(0,0)]) (Q5 ?_)));clear hK K;replace⟨e53,he53,h53⟩:=bind_some h;refine Qm he53 (λs53:List Int×Int=>⟨(1,.lst true 1 (Ls pairs_))::Y0b s53 (YR s36 pairs_ [(10,iV s53.2)]),[(0,rI s53.1)],1⟩) (wkQ [(0,0)]) ?_;intro k53 s53 c53 h hk53;refine Q0 (Q0 ?_);replace⟨e54,h,h54⟩:=bind_some h;refine Qc (λb54:Bool=>⟨(1,.lst true 1 (Ls pairs_))::Y0b s53 (YR s36 pairs_ [(10,iV s53.2),(53,.val (.bool b54))]),[(0,rI s53.1)],1⟩) (λb54=>b54=e54) ?_ ?_
    ·refine runQ hN λK hK=>?_;simp;(repeat with_reducible refine sdQ ?_);refine Qv (λg=>?_) (λg=>?_)
     ·have g55:s53.2<(s53.1.length:Int):=gQ;clear g;replace h:=if_l g55 h;simp;(repeat refine sdQ ?_);refine hK _ ?_;exact jn (b:=(ix s36.1 (ix (rx pairs_ s36.2) 0))!=(ix s36.1 (ix (rx pairs_ s36.2) 1))) (yJ h) (wkQ [(0,0)])
     have g55:¬(s53.2<(s53.1.length:Int)):=gQ;clear g;replace h:=if_r g55 h;simp;(repeat refine sdQ ?_);refine hK _ ?_;exact jn (b:=false) (yJ h) (wkQ [(0,0)])
    intro b54 hb54;have h:=h54;(try rw[←hb54]at h);clear h54;(try dsimp only at h);refine Q6 rfl (λg=>?_) λg=>?_
    ·have g56:b54=true:=gQ;clear g;replace h:=if_l g56 h;refine Q7 (tn (Q0 ?_));replace⟨e57,h,h57⟩:=bind_some h;refine Qc (λb57:List Int=>⟨(1,.lst true 1 (Ls pairs_))::Y06 b57 (YR s36 pairs_ [(10,iV s53.2)]),[(0,rI b57)],1⟩) (λb57=>b57=e57) ?_ ?_
     ·refine Q5 (Q0 (runQ hN λK hK=>?_));replace⟨a58,h⟩:=Q1 h;simp[at_I a58];(repeat refine sdQ ?_);refine hK _ ?_;clear hK K;refine tn (Q6 rfl (λg=>?_) λg=>?_)
      ·have g59:(ix s53.1 s53.2)=(ix s36.1 (ix (rx pairs_ s36.2) 1)):=gQ;clear g;replace h:=if_l g59 h;refine runQ hN λK hK=>?_;replace⟨a60,h⟩:=Q1 h;simp[at_I a60];(repeat refine sdQ ?_);refine hK _ (bn ?_);clear hK K;exact jn (b:=s53.1.set s53.2.toNat (ix s36.1 (ix (rx pairs_ s36.2) 0))) (yJ h) (wkQ [(0,0)])
      have g59:¬((ix s53.1 s53.2)=(ix s36.1 (ix (rx pairs_ s36.2) 1))):=gQ;clear g;replace h:=if_r g59 h;refine Q7 (bn ?_);exact jn (b:=s53.1) (yJ h) (wkQ [(0,0)])
     intro b57 hb57;have h:=h57;(try rw[←hb57]at h);clear h57;(try dsimp only at h);refine runQ hN λK hK=>?_;replace⟨a61,h⟩:=Q1 h;simp[Qg a61];(repeat refine sdQ ?_);refine hK _ ?_;clear hK K;cases h;exact rn (s':=(b57,s53.2+1)) hk53 (wkQ [(0,0)])
    have g56:¬(b54=true):=gQ;clear g;replace h:=if_r g56 h;refine Qj (tx (lx (bh (bn ?_))));cases h;have q:_=e53:=hk53;have h:=h53;rw[←q]at h;clear q;(try dsimp only at h);exact jn (b:=s53.1) (yJ h) (wkQ [(0,0)])
   intro b38 hb38;have h:=h38;(try rw[←hb38]at h);clear h38;(try dsimp only at h);refine runQ hN λK hK=>?_;replace⟨a62,h⟩:=Q1 h;simp[Qg a62];(repeat refine sdQ ?_);refine hK _ ?_;clear hK K;cases h;exact rn (s':=(b38,s36.2+1)) hk36 (wkQ [(0,0)])
  have g37:¬(s36.2<(pairs_.length:Int)):=gQ;clear g;replace h:=if_r g37 h;refine Qj (tx (lx (bh ?_)));cases h;exact jn (b:=s36.1) hk36 (wkQ [(0,0)])
 intro b9 hb9;have h:=h9;try rw[←hb9]at h
 clear h9;try dsimp only at h
 refine Q0 (runQ hN λK hK=>?_);simp;repeat with_reducible refine sdQ ?_
 replace⟨v63,hv63,h⟩:=bind_some h;refine Q3 (Q6Q _ v63 hv63) (.cons .w .nil) ?_;simp;repeat refine sdQ ?_
 refine hK _ (tn (Q4 (st':=⟨[(4,.own 0 0 v63.length)],[(0,rI v63)],1⟩) (wkQ [(1,0)]) (Qi ?_)));clear hK K;have hr:=yJ h;rw[←hr];refine⟨_,(.tmp .nil),?_⟩;refine⟨(.one rfl rfl .nil),[lI v63],[0],by simp[BN],by simp,(yN _)⟩
section
attribute [local simp] Qa QD Qo QM Qx
structure PP(c:Cat)(L:List (List Int))(i k:Nat):Prop where
 a:∀p∈L,∃y x:Nat,p=[(y:Int),(x:Int)]∧Io c x y
 b:∀y x:Nat,y<x→x<i→Io c x y→[(y:Int),(x:Int)]∈L
 d:∀y:Nat,y<k→Io c i y→[(y:Int),(i:Int)]∈L
 len:L.length≤i*8+k
def rlb(l:List Int)(a b:Int)(i:Nat):List Int:=tab l.length λz:Nat=>if z<i∧ix l z=b then a else ix l z
theorem tab_ix(l:List Int):tab l.length (λz:Nat=>ix l z)=l:=by
 refine List.ext_getElem (by simp) λi h1 h2=>?_;rw[Q16 l i h2];simp[tab]
theorem rlb_zero(l:List Int)(a b:Int):rlb l a b 0=l:=by
 have:rlb l a b 0=tab l.length (λz:Nat=>ix l z):=Q51 λi _=>by simp
 rw[this,tab_ix]
theorem rlb_all(l:List Int)(a b:Int):rlb l a b l.length=tab l.length λz:Nat=>if ix l z=b then a else ix l z:=Q51 λi hi=>by simp[hi]
theorem rlb_hit{l:List Int}{a b:Int}{i:Nat}(h:ix l i=b):(rlb l a b i).set i a=rlb l a b (i+1):=by
 refine List.ext_getElem (by simp[rlb]) λj h1 h2=>?_;simp only[rlb,tab,List.getElem_set,List.getElem_map,List.getElem_range]
 by_cases e:i=j
 ·subst e;simp[h]
 have:(j<i)=(j<i+1):=propext ⟨λ_=>by omega,λ_=>by omega⟩;simp[e,this]
theorem rlb_miss{l:List Int}{a b:Int}{i:Nat}(h:¬ix l i=b):rlb l a b i=rlb l a b (i+1):=Q51 λj _=>by
 by_cases e:i=j
 ·subst e;simp[h]
 have:(j<i)=(j<i+1):=propext ⟨λ_=>by omega,λ_=>by omega⟩;simp[this]
end
section
attribute [local simp] Qa QD Qo QM Qx
def jnr(r:Nat→Nat)(a b:Nat):Nat→Nat:=λz=>if r z=max (r a) (r b)then min (r a) (r b)else r z
def RR(P:List (List Int)):Nat→Nat:=P.foldl (λr p=>jnr r (ix p 0).toNat (ix p 1).toNat) λz=>z
theorem RR_snoc(P:List (List Int))(p:List Int):RR (P++[p])=jnr (RR P) (ix p 0).toNat (ix p 1).toNat:=by simp[RR]
theorem UF.jn{j:List Int}{r:Nat→Nat}{n a b:Nat}(h:UF j r n)(ha:a<n)(hb:b<n):UF (j.set (max (r a) (r b)) ((min (r a) (r b):Nat):Int)) (jnr r a b) n:=by
 have la:=h.le a ha;have lb:=h.le b hb;have e1:r (min (r a) (r b))=min (r a) (r b):=by
  rcases Nat.le_total (r a) (r b)with q|q
  ·rw[Nat.min_eq_left q];exact h.rr ha
  rw[Nat.min_eq_right q];exact h.rr hb
 have e2:r (max (r a) (r b))=max (r a) (r b):=by
  rcases Nat.le_total (r a) (r b)with q|q
  ·rw[Nat.max_eq_right q];exact h.rr hb
  rw[Nat.max_eq_left q];exact h.rr ha
 exact h.join (a:=min (r a) (r b)) (b:=max (r a) (r b)) (by omega) (by omega) e1 e2 (by omega)
theorem UF_id{n:Nat}:UF (iota n) (λz=>z) n:=
 ⟨by simp,λx hx=>by rw[Q69 _ (by omega) (by omega)];omega,λx _=>qE _,λx hx=>Q69 _ (by omega) (by omega),λx hx=>by rw[Q69 _ (by omega) (by omega)];simp,λx _ _=>rfl⟩
def Prs(n:Nat)(P:List (List Int)):Prop:=∀p∈P,∃a b:Nat,a<n∧b<n∧p=[(a:Int),(b:Int)]
theorem Prs.at{n:Nat}{P:List (List Int)}(h:Prs n P){i:Nat}(hi:i<P.length):∃a b:Nat,a<n∧b<n∧P[i]=[(a:Int),(b:Int)]:=h _ (zY hi)
theorem Q9f{P:List (List Int)}{i:Nat}(hi:i<P.length){a b:Nat}(e:P[i]=[(a:Int),(b:Int)]):RR (P.take (i+1))=jnr (RR (P.take i)) a b:=by
 rw[yO hi,RR_snoc,e];rfl
theorem RR_ufk{n:Nat}{P:List (List Int)}(h:Prs n P):∀k,k≤P.length→∃j,UF j (RR (P.take k)) n:=by
 intro k
 induction k with
 |zero=>intro _;exact⟨iota n,UF_id⟩
 |succ k ih=>
  intro hk;obtain⟨j,u⟩:=ih (by omega);obtain⟨a,b,ha,hb,e⟩:=h.at (i:=k) (by omega);rw[Q9f (by omega) e];exact⟨_,u.jn ha hb⟩
theorem RR_uf{n:Nat}{P:List (List Int)}(h:Prs n P):∃j,UF j (RR P) n:=by
 have:=RR_ufk h P.length (qE _)
 rwa[List.take_length]at this
theorem RR_ok{n:Nat}{P:List (List Int)}(h:Prs n P):∀x,x<n→RR P x≤x∧RR P (RR P x)=RR P x:=by
 obtain⟨j,u⟩:=RR_uf h;exact λx hx=>⟨u.le x hx,u.rr hx⟩
theorem Qaq{l l2:List Int}{r:Nat→Nat}{n a b:Nat}(h:∀x y:Nat,x<n→y<n→(ix l x=ix l y↔r x=r y))(ha:a<n)(hb:b<n)(e:∀z:Nat,z<n→ix l2 z=if ix l z=ix l b then ix l a else ix l z):
  ∀x y:Nat,x<n→y<n→(ix l2 x=ix l2 y↔jnr r a b x=jnr r a b y):=by
 intro x y hx hy;rw[e x hx,e y hy];have h1:=h x y hx hy;have h2:=h x a hx ha;have h3:=h x b hx hb;have h4:=h y a hy ha;have h5:=h y b hy hb;have h6:=h a b ha hb;unfold jnr;split<;>split<;>split<;>split<;>omega
theorem e_joinG{n:Nat}{P:List (List Int)}(hp:Prs n P)(hn:n≤1000)(hl:P.length≤100000000):Q35 (n:Int) P=some (cls (RR P) n):=by
 unfold Q35;refine tabg n (λi:Nat=>(i:Int)) (e:=iota n) (by omega) (λi hi=>by simp only;rw[if_pos (by omega)]) (by simp only;rw[if_neg (by omega)];rfl) (Q3v (σ:=List Int×Int) (Q:=λz=>z=some (cls (RR P) n)) P.length (λi s=>s.2=(i:Int)∧s.1.length=n∧∀x y:Nat,x<n→y<n→(ix s.1 x=ix s.1 y↔RR (P.take i) x=RR (P.take i) y)) (λl=>l.length=n∧∀x y:Nat,x<n→y<n→(ix l x=ix l y↔RR P x=RR P y)) (by omega) ⟨rfl,by simp,λx y hx hy=>?_⟩ ?_ ?_ ?_)
 ·rw[Q69 _ (by omega) (by omega),Q69 _ (by omega) (by omega)];simp[RR];omega
 ·rintro i ⟨l,k⟩ hi ⟨hk,hll,h⟩
  simp only at hk h hll;subst hk;obtain⟨y,x,hy,hx,ep0⟩:=hp.at hi;have ep:rx P i=[(y:Int),(x:Int)]:=by rw[←ep0];simp[rx,qB,hi]
  have h0:ix [(y:Int),(x:Int)] 0=y:=rfl;have h1:ix [(y:Int),(x:Int)] 1=x:=rfl;simp only;rw[if_pos (by omega),Q2 (by omega),ep,h0,h1,Q2 (by simp),Q2 (by omega),Q2 (by omega),Q2 (by simp),Q2 (by omega)];rw[Q9f hi ep0]
  by_cases q:ix l y=ix l x
  ·have run:(Qd (σ:=List Int×Int) (ε:=List Int) (λs53=>
     (
      if s53.2<(s53.1.length:Int)then
       some ((ix l y)!=(ix l x))
      else
       some false:Option (Bool)).bind λb54=>
     if b54=true then
      (
       ass (0≤s53.2∧s53.2<(s53.1.length:Int))<|
       if(ix s53.1 s53.2)=(ix l x)then
        ass (0≤s53.2∧s53.2<(s53.1.length:Int))<|
        some (s53.1.set s53.2.toNat (ix l y))
       else
        some s53.1:Option (List Int)).bind λb57=>
      ass (B64 (s53.2+1))<|
      some (yM (b57,s53.2+1))
     else
      some (yK s53.1)) fuel (l,0))=some l:=by
    refine Q7P (λ_=>l) 0 rfl (by omega) (λz hz=>by omega) ?_;simp only[q,bne_self_eq_false];split<;>simp
   rw[run];simp only[yR];rw[Q2 (by unfold B64;omega)];refine .inl ⟨_,rfl,by push_cast;rfl,hll,Qaq h hy hx λz hz=>?_⟩;simp only;split
   ·rename_i f;rw[f,q]
   rfl
  have run:(Qd (σ:=List Int×Int) (ε:=List Int) (λs53=>
    (
     if s53.2<(s53.1.length:Int)then
      some ((ix l y)!=(ix l x))
     else
      some false:Option (Bool)).bind λb54=>
    if b54=true then
     (
      ass (0≤s53.2∧s53.2<(s53.1.length:Int))<|
      if(ix s53.1 s53.2)=(ix l x)then
       ass (0≤s53.2∧s53.2<(s53.1.length:Int))<|
       some (s53.1.set s53.2.toNat (ix l y))
      else
       some s53.1:Option (List Int)).bind λb57=>
     ass (B64 (s53.2+1))<|
     some (yM (b57,s53.2+1))
    else
     some (yK s53.1)) fuel (l,0))=some (tab n λz:Nat=>if ix l z=ix l x then ix l y else ix l z):=by
   refine Q7P (λi=>rlb l (ix l y) (ix l x) i) n (rlb_zero _ _ _).symm (by omega) (λz hz=>?_) ?_
   ·have gl:(rlb l (ix l y) (ix l x) z).length=l.length:=(by simp[rlb]);have gz:ix (rlb l (ix l y) (ix l x) z) z=ix l z:=by
     unfold rlb;rw[Q8G _ _ (by omega)];simp
    simp only;rw[if_pos (by omega)];simp only[yR];rw[if_pos (by simpa using q),Q2 (by omega),gz]
    by_cases f:ix l z=ix l x
    ·rw[if_pos f,Q2 (by omega)];simp only[yR,yV];rw[Q2 (by unfold B64;omega),rlb_hit f]
    rw[if_neg f];simp only[yR];rw[Q2 (by unfold B64;omega),rlb_miss f]
   have gl:(rlb l (ix l y) (ix l x) n).length=l.length:=(by simp[rlb]);simp only;rw[if_neg (by omega)];simp only[yR,zG,if_false];rw[←hll,rlb_all]
  rw[run];simp only[yR];rw[Q2 (by unfold B64;omega)];exact .inl ⟨_,rfl,by push_cast;rfl,by simp,Qaq h hy hx λz hz=>Q8G _ _ hz⟩
 ·rintro ⟨l,k⟩ ⟨hk,hll,h⟩
  simp only at hk h hll;subst hk;rw[List.take_length]at h;simp only;rw[if_neg (by omega)];exact⟨_,rfl,hll,h⟩
 rintro l ⟨hll,h⟩
 rw[e_l01Cls hll (RR_ok hp) h (by omega)];rfl
end
attribute [local simp] unk unA unE unT unC flat eL eI Qh QI Cat.cells
def Q1t(c_:Cat)(arrows_:List Int):Option (List Bool):=
 (Qt c_).bind λv1=>
 ass (0≤v1∧v1≤1073741824)<|
 (Qd (σ:=List Bool×Int) (ε:=List Bool) (λs8=>
  if s8.2<(arrows_.length:Int)then
   ass (0≤s8.2∧s8.2<(arrows_.length:Int))<|
   ass (0≤ix arrows_ s8.2∧ix arrows_ s8.2<(s8.1.length:Int))<|
   ass (B64 (s8.2+1))<|
   some (yM (s8.1.set ((ix arrows_ s8.2).toNat) true,s8.2+1))
  else
   some (yK s8.1)) fuel (zF v1.toNat false,0)).bind λb3=>
 some b3
theorem Q53(c_:Cat)(arrows_:List Int)(r:List Bool)(h:Q1t c_ arrows_=some r):Contract Tryz.prog 88 (Y0x c_ [lI arrows_]) (.lst true 1 (Bs r)):=by
 refine Q9 (rvs:=[.tmp 4]) (rs:=[.lst true 1 (Bs r)]) Tryz.func88 rfl rfl rfl rfl (by simp[Tryz.f88]) λF hN hP=>?_;unfold Q1t at h;refine Q0 (runQ hN λK hK=>?_);simp;repeat refine sdQ ?_
 refine hK _ ?_;clear hK K;refine tn (Q4 (st':=⟨Yt c_ [(1,lI arrows_)],[],0⟩) (wkQ []) (Q0 (runQ hN λK hK=>?_)));simp;repeat with_reducible refine sdQ ?_
 replace⟨v1,hv1,h⟩:=bind_some h;refine Q3 (Q1n _ v1 hv1) (.cons (.preT (by simp[CN])) .nil) ?_;replace⟨a2,h⟩:=Q1 h;simp;repeat refine sdQ ?_
 refine hK _ ?_;clear hK K;refine tn (Q4 (st':=⟨[(1,lI arrows_),(5,.own 0 0 ((zF v1.toNat false).length))],[(0,.row 1 (Bs (zF v1.toNat false)))],1⟩) (wkQ [(1,0)]) (Q0 (Q0 (runQ hN λK hK=>?_))));simp;repeat refine sdQ ?_
 refine hK _ (tn (Q4 (st':=⟨[(5,.own 0 0 ((zF v1.toNat false).length)),(11,lI arrows_),(12,iV (arrows_.length:Int)),(13,iV 0)],[(0,.row 1 (Bs (zF v1.toNat false)))],1⟩) (wkQ [(0,0)]) ?_));clear hK K;replace⟨e3,h,h3⟩:=bind_some h;refine Qc (λb3:List Bool=>⟨[(5,.own 0 0 b3.length)],[(0,.row 1 (Bs b3))],1⟩) (λb3=>b3=e3) ?_ ?_
 ·refine Q5 (Qm h (λs8:List Bool×Int=>⟨[(5,.own 0 0 s8.1.length),(11,lI arrows_),(12,iV (arrows_.length:Int)),(13,iV s8.2)],[(0,.row 1 (Bs s8.1))],1⟩) (wkQ [(0,0)]) ?_);clear h;intro k8 s8 c8 h hk8;refine Q0 (runQ hN λK hK=>?_);simp;repeat refine sdQ ?_
  refine hK _ ?_;clear hK K;refine tn (Q0 (Q6 rfl (λg=>?_) λg=>?_))
  ·have g9:s8.2<(arrows_.length:Int):=gQ;clear g;replace h:=if_l g9 h;refine Q7 (tn (Q0 (Q5 (Q0 (runQ hN λK hK=>?_)))));replace⟨a10,h⟩:=Q1 h;simp[at_I a10];(repeat refine sdQ ?_);refine hK _ ?_;clear hK K;refine tn (Q4 (st':=⟨[(5,.own 0 0 s8.1.length),(7,iV (ix arrows_ s8.2)),(11,lI arrows_),(12,iV (arrows_.length:Int)),(13,iV s8.2)],[(0,.row 1 (Bs s8.1))],1⟩) (wkQ [(0,0)]) (runQ hN λK hK=>?_));replace⟨a11,h⟩:=Q1 h;simp[at_B a11];(repeat refine sdQ ?_);refine hK _ ?_;clear hK K;refine bn (tn (Q4 (st':=⟨[(5,.own 0 0 ((s8.1.set ((ix arrows_ s8.2).toNat) true).length)),(11,lI arrows_),(12,iV (arrows_.length:Int)),(13,iV s8.2)],[(0,.row 1 (Bs (s8.1.set ((ix arrows_ s8.2).toNat) true)))],1⟩) (wkQ [(0,0)]) (runQ hN λK hK=>?_)));replace⟨a12,h⟩:=Q1 h;simp[Qg a12];(repeat refine sdQ ?_);refine hK _ ?_;clear hK K;cases h;exact rn (s':=(s8.1.set ((ix arrows_ s8.2).toNat) true,s8.2+1)) hk8 (wkQ [(0,0)])
  have g9:¬(s8.2<(arrows_.length:Int)):=gQ;clear g;replace h:=if_r g9 h;refine Qj (tx (lx (bh ?_)));cases h;exact jn (b:=s8.1) hk8 (wkQ [(0,0)])
 intro b3 hb3;have h:=h3;try rw[←hb3]at h
 clear h3;try dsimp only at h
 refine Q0 (runQ hN λK hK=>?_);simp;repeat refine sdQ ?_
 refine hK _ (tn (Q4 (st':=⟨[(4,.own 0 0 b3.length)],[(0,.row 1 (Bs b3))],1⟩) (wkQ [(0,0)]) (Qi ?_)));clear hK K;have hr:=yJ h;rw[←hr];refine⟨_,(.tmp .nil),?_⟩;refine⟨(.one rfl rfl .nil),[.lst true 1 (Bs b3)],[0],by simp[BN],by simp,(yN _)⟩
attribute [local simp] unk unA unE unT unC flat eL eI Qh
def Q2y(lists_:List (List Int))(list_:List Int):Option Int:=
 (Qd (σ:=Int) (ε:=Unit⊕Int) (λs7=>
  if s7<(lists_.length:Int)then
   ass (0≤s7∧s7<(lists_.length:Int))<|
   (Q3T (rx lists_ s7) list_).bind λv10=>
   if v10=true then
    some (yK (yT s7))
   else
    ass (B64 (s7+1))<|
    some (yM (s7+1))
  else
   some (yK (yS ()))) fuel 0).bind λe1=>
 match e1 with
 | .inl b1=>
  some (-1)
 | .inr p1=>
  some p1
theorem Q6F(lists_:List (List Int))(list_:List Int)(r:Int)(h:Q2y lists_ list_=some r):Contract Tryz.prog 58 [.lst true 1 (Ls lists_),lI list_] (iV r):=by
 refine Q9 (rvs:=[.tmp 4]) (rs:=[iV r]) Tryz.func58 rfl rfl rfl rfl (by simp[Tryz.f58]) λF hN hP=>?_;unfold Q2y at h;refine Q0 (runQ hN λK hK=>?_);simp;repeat refine sdQ ?_
 refine hK _ ?_;clear hK K;refine tn (Q4 (st':=⟨[(0,.lst true 1 (Ls lists_)),(1,lI list_)],[],0⟩) (wkQ []) (Q0 (Q0 (runQ hN λK hK=>?_))));simp;repeat refine sdQ ?_
 refine hK _ (tn (Q4 (st':=⟨[(0,.lst true 1 (Ls lists_)),(1,lI list_),(5,iV 0)],[],0⟩) (wkQ []) ?_));clear hK K;replace⟨e1,h,h1⟩:=bind_some h;refine Qc (λb1:Unit=>⟨[],[],0⟩) (λb1=>yS b1=e1) ?_ ?_
 ·refine Q5 (Qm h (λs7:Int=>⟨[(0,.lst true 1 (Ls lists_)),(1,lI list_),(5,iV s7)],[],0⟩) (wkQ []) ?_);clear h;intro k7 s7 c7 h hk7;refine Q0 (Q0 (runQ hN λK hK=>?_));simp;repeat refine sdQ ?_
  refine hK _ ?_;clear hK K;refine tn (Q6 rfl (λg=>?_) λg=>?_)
  ·have g8:s7<(lists_.length:Int):=gQ;clear g;replace h:=if_l g8 h;refine Q7 (tn (Q0 (Q5 (Q0 (runQ hN λK hK=>?_)))));replace⟨a9,h⟩:=Q1 h;simp[at_L a9];(repeat with_reducible refine sdQ ?_);replace⟨v10,hv10,h⟩:=bind_some h;refine Q3 (Q9U _ _ v10 hv10) (.cons .lst (.cons .lst .nil)) ?_;simp[at_L a9];(repeat refine sdQ ?_);refine hK _ ?_;clear hK K;refine tn (Q4 (st':=⟨[(0,.lst true 1 (Ls lists_)),(1,lI list_),(5,iV s7),(17,.val (.bool v10))],[],0⟩) (wkQ []) (Q6 rfl (λg=>?_) λg=>?_))
   ·have g11:v10=true:=gQ;clear g;replace h:=if_l g11 h;refine Q0 (runQ hN λK hK=>?_);simp;(repeat refine sdQ ?_);refine hK _ (tn (Q4 (st':=⟨[(4,iV s7)],[],0⟩) (wkQ []) (Qi (br (tr (lr (br (tr ?_))))))));clear hK K;cases h;have q:_=e1:=hk7;have h:=h1;rw[←q]at h;clear q;(try dsimp only at h);have hr:=yJ h;rw[←hr];refine⟨_,(.tmp .nil),?_⟩;refine⟨(.one rfl rfl .nil),[iV s7],[],by simp[BN],by simp,(yN _)⟩
   have g11:¬(v10=true):=gQ;clear g;replace h:=if_r g11 h;refine Q7 (bn (tn (runQ hN λK hK=>?_)));replace⟨a12,h⟩:=Q1 h;simp[Qg a12];(repeat refine sdQ ?_);refine hK _ ?_;clear hK K;cases h;exact rn (s':=s7+1) hk7 (wkQ [])
  have g8:¬(s7<(lists_.length:Int)):=gQ;clear g;replace h:=if_r g8 h;refine Qj (tx (lx (bh ?_)));cases h;exact jn (b:=()) hk7 (wkQ [])
 intro b1 hb1;have h:=h1;try rw[←hb1]at h
 clear h1;try dsimp only at h
 refine Q0 (runQ hN λK hK=>?_);simp;repeat refine sdQ ?_
 refine hK _ (tn (Q4 (st':=⟨[(4,iV (-1))],[],0⟩) (wkQ []) (Qi ?_)));clear hK K;have hr:=yJ h;rw[←hr];refine⟨_,(.tmp .nil),?_⟩;refine⟨(.one rfl rfl .nil),[iV (-1)],[],by simp[BN],by simp,(yN _)⟩
section
attribute [local simp] Qa QD Qo QM Qx
def posL(L:List (List Int))(x:List Int):Int:=fstN L.length λi=>rx L i=x
theorem at_rxm{L:List (List Int)}{i:Nat}(h:i<L.length):rx L i∈L:=by
 rw[←Q3q _ _ h];exact zY h
theorem fstN_at{n:Nat}{p:Nat→Prop}{m:Nat}(hm:m<n)(hp:p m)(hlt:∀k,k<m→¬p k):fstN n p=(m:Int):=by
 unfold fstN;rw[show((List.range n).find? λi=>bo (p i))=some m from List.find?_eq_some_iff_getElem.2 ⟨by rw[QaV];exact hp,m,by simpa using hm,by simp,λj hj=>by simp[Qp (hlt j hj)]⟩];rfl
theorem fstN_no{n:Nat}{p:Nat→Prop}(h:∀i,i<n→¬p i):fstN n p= -1:=by
 rcases Q4M n p with⟨h1,_⟩|⟨k,h1,h2,_⟩
 ·exact h1
 exact absurd h2 (h k h1)
theorem fst_bind{ε β:Type}{body:Int→Option (Ctl Int ε)}{K:ε→Option β}{r:Option β}(n:Nat)(p:Nat→Prop){eb:Nat→ε}{eg:ε}(hn:n<4611686018427387904)(h1:∀i:Nat,i<n→¬p i→body (i:Int)=some (.next ((i:Int)+1)))(h2:∀i:Nat,i<n→p i→body (i:Int)=some (.ret (eb i)))(h3:body (n:Int)=some (.ret eg))(hb:∀m,m<n→p m→(∀k,k<m→¬p k)→K (eb m)=r)(hg:(∀i,i<n→¬p i)→K eg=r):(Qd body fuel 0).bind K=r:=by
 rcases Q7Q n (λi=>¬p i) hn h1 (λi hi h=>h2 i hi (yL h)) h3 with⟨h,e⟩|⟨m,hm,hq,hlt,e⟩
 ·rw[e];exact hg h
 rw[e];exact hb m hm (yL hq) hlt
theorem e_find{L:List (List Int)}(hn:L.length<1000000)(x:List Int):Q2y L x=some (posL L x):=by
 unfold Q2y Q3T posL;refine fst_bind L.length (λi=>rx L i=x) (eb:=λi=>yT (i:Int)) (eg:=yS ()) (by omega) (λi hi h=>?_) (λi hi h=>?_) (by simp) (λm hm hp hlt=>?_) λh=>?_
 ·rw[if_pos (by omega),Q2 (by omega)];simp only[yR,decide_eq_true_eq,if_neg h];rw[Q2 (by unfold B64;omega)]
 ·rw[if_pos (by omega),Q2 (by omega)];simp only[yR,decide_eq_true_eq,if_pos h]
 ·simp only;rw[fstN_at hm hp hlt]
 simp only;rw[fstN_no h]
theorem take_rx{L:List (List Int)}{i:Nat}(h:i<L.length):L.take (i+1)=L.take i++[rx L i]:=by rw[yO h,Q3q _ _ h]
end
attribute [local simp] unk unA unE unT unC flat eL eI Qh QI Cat.cells
def Q26(c_:Cat):Option Bool:=
 (
  if c_.n≤8 then
   some (decide ((c_.fr.length:Int)≤40))
  else
   some false:Option (Bool)).bind λb1=>
 some b1
theorem Q6B(c_:Cat)(r:Bool)(h:Q26 c_=some r):Contract Tryz.prog 36 (Y0u c_ []) (.val (.bool r)):=by
 refine Q9 (rvs:=[.tmp 2]) (rs:=[.val (.bool r)]) Tryz.func36 rfl rfl rfl rfl (by simp[Tryz.f36]) λF hN hP=>?_;unfold Q26 at h;refine Q0 (runQ hN λK hK=>?_);simp;repeat refine sdQ ?_
 refine hK _ (tn (Q4 (st':=⟨[(1,.adr 0 0 0)],Y6 c_ [],1⟩) (wkQ [(0,0)]) (Q0 ?_)));clear hK K;replace⟨e1,h,h1⟩:=bind_some h;refine Qc (λb1:Bool=>⟨[(2,.val (.bool b1))],[],0⟩) (λb1=>b1=e1) ?_ ?_
 ·refine runQ hN λK hK=>?_;simp;repeat with_reducible refine sdQ ?_
  refine Qv (λg=>?_) (λg=>?_)
  ·have g2:c_.n≤8:=gQ;clear g;replace h:=if_l g2 h;simp;(repeat refine sdQ ?_);refine hK _ ?_;exact jn (b:=decide ((c_.fr.length:Int)≤40)) (yJ h) (wkQ [])
  have g2:¬(c_.n≤8):=gQ;clear g;replace h:=if_r g2 h;simp;repeat refine sdQ ?_
  refine hK _ ?_;exact jn (b:=false) (yJ h) (wkQ [])
 intro b1 hb1;have h:=h1;try rw[←hb1]at h
 clear h1;try dsimp only at h
 refine Qi ?_;have hr:=yJ h;rw[←hr];refine⟨_,(.tmp .nil),?_⟩;refine⟨(.one rfl rfl .nil),[.val (.bool b1)],[],by simp[BN],by simp,(yN _)⟩
section
attribute [local simp] Qa QD Qo QM Qx
theorem Q7y(c:Cat):Q26 c=some (bo (c.n≤8∧(c.fr.length:Int)≤40)):=by
 unfold Q26
 by_cases h1:c.n≤8<;>by_cases h2:(c.fr.length:Int)≤40<;>simp[h1,h2,bo]
end
section
attribute [local simp] Qa QD Qo QM Qx
theorem Cat.Is.Ai{c:Cat}(h:c.Is){x:Int}(hx:0≤x∧x<c.n):Ar c (ix c.id x) x x:=by
 have h1:=h.1.li;obtain⟨i,rfl⟩:=yU hx.1;have h2:=h.1.ids i (by omega);exact⟨h.1.id' (by omega) (by omega),h2.1,h2.2⟩
theorem Cat.Is.Af{c:Cat}(h:c.Is){f:Int}(hf:0≤f∧f<(c.fr.length:Int)):Ar c f (ix c.fr f) (ix c.to f)∧(0≤ix c.fr f∧ix c.fr f<c.n)∧(0≤ix c.to f∧ix c.to f<c.n):=by
 have h1:=h.1.li;have h2:=h.1.fr' hf.1 hf.2;have h3:=h.1.to' hf.1 (by have:=h.1.lt;omega);exact⟨⟨hf,rfl,rfl⟩,by omega,by omega⟩
end
attribute [local simp] unk unA unE unT unC flat
def Q14(c_:Cat)(f_:Int):Option Bool:=
 ass (0≤f_∧f_<(c_.fr.length:Int))<|
 ass (0≤ix c_.fr f_∧ix c_.fr f_<(c_.id.length:Int))<|
 some ((ix c_.id (ix c_.fr f_))==f_)
theorem Q3V(c_:Cat)(f_:Int)(r:Bool)(h:Q14 c_ f_=some r):Contract Tryz.prog 103 (Y0x c_ [iV f_]) (.val (.bool r)):=by
 refine Q9 (rvs:=[.tmp 4]) (rs:=[.val (.bool r)]) Tryz.func103 rfl rfl rfl rfl (by simp[Tryz.f103]) λF hN hP=>?_;unfold Q14 at h;refine Q0 (runQ hN λK hK=>?_);simp[eL,eI,Qh,QI,Cat.cells];repeat refine sdQ ?_
 refine hK _ ?_;clear hK K;refine tn (Q4 (st':=⟨Yt c_ [(1,iV f_)],[],0⟩) (wkQ []) (Q0 (runQ hN λK hK=>?_)));replace⟨a1,h⟩:=Q1 h;replace⟨a2,h⟩:=Q1 h;simp[eL,eI,Qh,QI,Cat.cells,at_I a1,at_I a2];repeat refine sdQ ?_
 refine hK _ (tn (Q4 (st':=⟨[(4,.val (.bool ((ix c_.id (ix c_.fr f_))==f_)))],[],0⟩) (wkQ []) (Qi ?_)));clear hK K;have hr:=yJ h;rw[←hr];refine⟨_,(.tmp .nil),?_⟩;refine⟨(.one rfl rfl .nil),[.val (.bool ((ix c_.id (ix c_.fr f_))==f_))],[],by simp[BN],by simp,(yN _)⟩
attribute [local simp] unk unA unE unT unC flat eL eI Qh QI Cat.cells
def Q2h(c_:Cat)(list_:List Int):Option Int:=
 (Q1k c_).bind λv1=>
 if¬(v1=true)then
  some 1
 else
  (Qt c_).bind λv3=>
  (Q2U list_ v3).bind λv4=>
  if¬(v4=true)then
   some 2
  else
   some 0
theorem Q88(c_:Cat)(list_:List Int)(r:Int)(h:Q2h c_ list_=some r):Contract Tryz.prog 85 (Y0x c_ [lI list_]) (iV r):=by
 refine Q9 (rvs:=[.tmp 4]) (rs:=[iV r]) Tryz.func85 rfl rfl rfl rfl (by simp[Tryz.f85]) λF hN hP=>?_;unfold Q2h at h;refine Q0 (runQ hN λK hK=>?_);simp;repeat refine sdQ ?_
 refine hK _ ?_;clear hK K;refine tn (Q4 (st':=⟨Yt c_ [(1,lI list_)],[],0⟩) (wkQ []) (Q0 (Q0 (runQ hN λK hK=>?_))));simp;repeat with_reducible refine sdQ ?_
 replace⟨v1,hv1,h⟩:=bind_some h;refine Q3 (Q3U _ v1 hv1) (.cons (.preT (by simp[CN])) .nil) ?_;simp;repeat refine sdQ ?_
 refine hK _ ?_;clear hK K;refine tn (Q4 (st':=⟨Yt c_ [(1,lI list_),(7,.val (.bool (!v1)))],[],0⟩) (wkQ []) (Q6 rfl (λg=>?_) λg=>?_))
 ·have g2:¬(v1=true):=gQ;clear g;replace h:=if_l g2 h;refine Q0 (runQ hN λK hK=>?_);simp;repeat refine sdQ ?_
  refine hK _ (tn (Q4 (st':=⟨[(4,iV 1)],[],0⟩) (wkQ []) (Qi (tr ?_))));clear hK K;have hr:=yJ h;rw[←hr];refine⟨_,(.tmp .nil),?_⟩;refine⟨(.one rfl rfl .nil),[iV 1],[],by simp[BN],by simp,(yN _)⟩
 have g2:¬(¬(v1=true)):=gQ;clear g;replace h:=if_r g2 h;refine Q7 (tn (Q0 (Q0 (runQ hN λK hK=>?_))));simp;repeat with_reducible refine sdQ ?_
 replace⟨v3,hv3,h⟩:=bind_some h;refine Q3 (Q1n _ v3 hv3) (.cons (.preT (by simp[CN])) .nil) ?_;simp;repeat with_reducible refine sdQ ?_
 replace⟨v4,hv4,h⟩:=bind_some h;refine Q3 (Q7k _ _ v4 hv4) (.cons .lst (.cons .val .nil)) ?_;simp;repeat refine sdQ ?_
 refine hK _ ?_;clear hK K;refine tn (Q4 (st':=⟨[(12,.val (.bool (!v4)))],[],0⟩) (wkQ []) (Q6 rfl (λg=>?_) λg=>?_))
 ·have g5:¬(v4=true):=gQ;clear g;replace h:=if_l g5 h;refine Q0 (runQ hN λK hK=>?_);simp;repeat refine sdQ ?_
  refine hK _ (tn (Q4 (st':=⟨[(4,iV 2)],[],0⟩) (wkQ []) (Qi (tr ?_))));clear hK K;have hr:=yJ h;rw[←hr];refine⟨_,(.tmp .nil),?_⟩;refine⟨(.one rfl rfl .nil),[iV 2],[],by simp[BN],by simp,(yN _)⟩
 have g5:¬(¬(v4=true)):=gQ;clear g;replace h:=if_r g5 h;refine Q7 (tn (Q0 (runQ hN λK hK=>?_)));simp;repeat refine sdQ ?_
 refine hK _ (tn (Q4 (st':=⟨[(4,iV 0)],[],0⟩) (wkQ []) (Qi ?_)));clear hK K;have hr:=yJ h;rw[←hr];refine⟨_,(.tmp .nil),?_⟩;refine⟨(.one rfl rfl .nil),[iV 0],[],by simp[BN],by simp,(yN _)⟩
attribute [local simp] unk unA unE unT unC flat eL eI Qh QI Qz Cat.cells XD.cells
def QN(w_:XD):Option (Int×Int×Bool):=
 (Qd (σ:=Int) (ε:=Unit⊕(Int×Int×Bool)) (λs9=>
  if s9<(w_.c_.fr.length:Int)then
   (
    (Q14 w_.c_ s9).bind λv12=>
    if v12=true then
     ass (0≤s9∧s9<(w_.there_.length:Int))<|
     some (!(gx w_.there_ s9))
    else
     some false:Option (Bool)).bind λb11=>
   if b11=true then
    some (yK (yT (s9,(-1),true)))
   else
    ass (B64 (s9+1))<|
    some (yM (s9+1))
  else
   some (yK (yS ()))) fuel 0).bind λe1=>
 match e1 with
 | .inl b1=>
  (Qd (σ:=Int) (ε:=Unit⊕(Int×Int×Bool)) (λs39=>
   if s39<(w_.list_.length:Int)then
    (
     ass (0≤s39∧s39<(w_.list_.length:Int))<|
     (Qd (σ:=Int) (ε:=(Int×Int×Bool)⊕Unit) (λs51=>
      if s51<(w_.list_.length:Int)then
       ass (0≤s51∧s51<(w_.list_.length:Int))<|
       (Qn w_.c_ (ix w_.list_ s39) (ix w_.list_ s51)).bind λv54=>
       (
        if v54≥0 then
         ass (0≤v54∧v54<(w_.there_.length:Int))<|
         some (!(gx w_.there_ v54))
        else
         some false:Option (Bool)).bind λb55=>
       if b55=true then
        some (yK (yS (ix w_.list_ s39,ix w_.list_ s51,true)))
       else
        ass (B64 (s51+1))<|
        some (yM (s51+1))
      else
       some (yK (yT ()))) fuel 0).bind λe51=>
     match e51 with
     | .inl p51=>
      some (yT p51)
     | .inr p51=>
      some (yS p51):Option (Unit⊕(Int×Int×Bool))).bind λe41=>
    match e41 with
    | .inl b41=>
     ass (B64 (s39+1))<|
     some (yM (s39+1))
    | .inr p41=>
     some (yK (yT p41))
   else
    some (yK (yS ()))) fuel 0).bind λe17=>
  match e17 with
  | .inl b17=>
   some (0,0,false)
  | .inr p17=>
   some p17
 | .inr p1=>
  some p1
@[simp] abbrev Y0s(a:XD)(b:List (AV)):List (AV):=.rptr (Cat.cells true a.c_)::lI a.list_::.lst true 1 (Bs a.there_)::b
@[simp] abbrev Y0(a:XD)(b:List (Nat×AV)):List (Nat×AV):=(0,.rptr (Y0s a []))::b
@[simp] abbrev YH(a:XD)(b:Int)(c:List (Nat×AV)):List (Nat×AV):=(43,lI a.list_)::(44,iV (a.list_.length:Int))::(45,iV b)::(52,lI a.list_)::(53,iV (a.list_.length:Int))::c
theorem Q2Q(w_:XD)(r:Int×Int×Bool)(h:QN w_=some r):Contract Tryz.prog 89 [.rptr (w_.cells true)] (.tup [iV r.1,iV r.2.1,.val (.bool r.2.2)]):=by
 refine Q9 (rvs:=[.tmp 2,.tmp 3,.tmp 4]) (rs:=[iV r.1,iV r.2.1,.val (.bool r.2.2)]) Tryz.func89 rfl rfl rfl rfl (by simp[Tryz.f89]) λF hN hP=>?_;unfold QN at h;refine Q0 (runQ hN λK hK=>?_);simp;repeat refine sdQ ?_
 refine hK _ ?_;clear hK K;refine tn (Q4 (st':=⟨Y0 w_ [],[],0⟩) (wkQ []) (Q0 (Q0 (runQ hN λK hK=>?_))));simp;repeat refine sdQ ?_
 refine hK _ (tn (Q4 (st':=⟨Y0 w_ [(18,iV (w_.c_.fr.length:Int)),(19,iV 0)],[],0⟩) (wkQ []) ?_));clear hK K;replace⟨e1,h,h1⟩:=bind_some h;refine Qc (λb1:Unit=>⟨Y0 w_ [],[],0⟩) (λb1=>yS b1=e1) ?_ ?_
 ·refine Q5 (Qm h (λs9:Int=>⟨Y0 w_ [(18,iV (w_.c_.fr.length:Int)),(19,iV s9)],[],0⟩) (wkQ []) ?_);clear h;intro k9 s9 c9 h hk9;refine Q0 (runQ hN λK hK=>?_);simp;repeat refine sdQ ?_
  refine hK _ ?_;clear hK K;refine tn (Q0 (Q6 rfl (λg=>?_) λg=>?_))
  ·have g10:s9<(w_.c_.fr.length:Int):=gQ;clear g;replace h:=if_l g10 h;refine Q7 (tn (Q0 (Q5 (Q0 (runQ hN λK hK=>?_)))));simp;(repeat refine sdQ ?_);refine hK _ (tn (Q4 (st':=⟨Y0 w_ [(5,iV s9),(18,iV (w_.c_.fr.length:Int)),(19,iV s9)],[],0⟩) (wkQ []) (Q0 ?_)));clear hK K;replace⟨e11,h,h11⟩:=bind_some h;refine Qc (λb11:Bool=>⟨Y0 w_ [(5,iV s9),(18,iV (w_.c_.fr.length:Int)),(19,iV s9),(37,.val (.bool b11))],[],0⟩) (λb11=>b11=e11) ?_ ?_
   ·refine runQ hN λK hK=>?_;simp;(repeat with_reducible refine sdQ ?_);replace⟨v12,hv12,h⟩:=bind_some h;refine Q3 (Q3V _ _ v12 hv12) (.cons (.preT (by simp[CN])) (.cons .val .nil)) ?_;simp;(repeat with_reducible refine sdQ ?_);refine Qv (λg=>?_) (λg=>?_)
    ·have g13:v12=true:=gQ;clear g;replace h:=if_l g13 h;replace⟨a14,h⟩:=Q1 h;simp[at_B a14];(repeat refine sdQ ?_);refine hK _ ?_;exact jn (b:=!(gx w_.there_ s9)) (yJ h) (wkQ [])
    have g13:¬(v12=true):=gQ;clear g;replace h:=if_r g13 h;simp;(repeat refine sdQ ?_);refine hK _ ?_;exact jn (b:=false) (yJ h) (wkQ [])
   intro b11 hb11;have h:=h11;(try rw[←hb11]at h);clear h11;(try dsimp only at h);refine Q6 rfl (λg=>?_) λg=>?_
   ·have g15:b11=true:=gQ;clear g;replace h:=if_l g15 h;refine Q0 (runQ hN λK hK=>?_);simp;(repeat refine sdQ ?_);refine hK _ (tn (Q4 (st':=⟨[(2,iV s9),(3,iV (-1)),(4,.val (.bool true))],[],0⟩) (wkQ []) (Qi (br (tr (lr (br (tr ?_))))))));clear hK K;cases h;have q:_=e1:=hk9;have h:=h1;rw[←q]at h;clear q;(try dsimp only at h);have hr:=yJ h;rw[←hr];refine⟨_,(.tmp (.tmp (.tmp .nil))),?_⟩;refine⟨(.one rfl rfl (.one rfl rfl (.one rfl rfl .nil))),[iV s9,iV (-1),.val (.bool true)],[],by simp[BN],by simp,(yN _)⟩
   have g15:¬(b11=true):=gQ;clear g;replace h:=if_r g15 h;refine Q7 (bn (tn (runQ hN λK hK=>?_)));replace⟨a16,h⟩:=Q1 h;simp[Qg a16];(repeat refine sdQ ?_);refine hK _ ?_;clear hK K;cases h;exact rn (s':=s9+1) hk9 (wkQ [])
  have g10:¬(s9<(w_.c_.fr.length:Int)):=gQ;clear g;replace h:=if_r g10 h;refine Qj (tx (lx (bh ?_)));cases h;exact jn (b:=()) hk9 (wkQ [])
 intro b1 hb1;have h:=h1;try rw[←hb1]at h
 clear h1;try dsimp only at h
 refine Q0 (Q0 (runQ hN λK hK=>?_));simp;repeat refine sdQ ?_
 refine hK _ (tn (Q4 (st':=⟨Y0 w_ [(43,lI w_.list_),(44,iV (w_.list_.length:Int)),(45,iV 0)],[],0⟩) (wkQ []) ?_));clear hK K;replace⟨e17,h,h17⟩:=bind_some h;refine Qc (λb17:Unit=>⟨[],[],0⟩) (λb17=>yS b17=e17) ?_ ?_
 ·refine Q5 (Qm h (λs39:Int=>⟨Y0 w_ [(43,lI w_.list_),(44,iV (w_.list_.length:Int)),(45,iV s39)],[],0⟩) (wkQ []) ?_);clear h;intro k39 s39 c39 h hk39;refine Q0 (runQ hN λK hK=>?_);simp;repeat refine sdQ ?_
  refine hK _ ?_;clear hK K;refine tn (Q0 (Q6 rfl (λg=>?_) λg=>?_))
  ·have g40:s39<(w_.list_.length:Int):=gQ;clear g;replace h:=if_l g40 h;refine Q7 (tn (Q0 ?_));replace⟨e41,h,h41⟩:=bind_some h;refine Qc (λb41:Unit=>⟨Y0 w_ [(43,lI w_.list_),(44,iV (w_.list_.length:Int)),(45,iV s39)],[],0⟩) (λb41=>yS b41=e41) ?_ ?_
   ·refine Q5 (Q0 (runQ hN λK hK=>?_));replace⟨a42,h⟩:=Q1 h;simp[at_I a42];(repeat refine sdQ ?_);refine hK _ ?_;clear hK K;refine tn (Q4 (st':=⟨Y0 w_ [(7,iV (ix w_.list_ s39)),(43,lI w_.list_),(44,iV (w_.list_.length:Int)),(45,iV s39)],[],0⟩) (wkQ []) (Q0 (runQ hN λK hK=>?_)));simp;(repeat refine sdQ ?_);refine hK _ (tn (Q4 (st':=⟨Y0 w_ ((7,iV (ix w_.list_ s39))::YH w_ s39 [(54,iV 0)]),[],0⟩) (wkQ []) (Q5 ?_)));clear hK K;replace⟨e51,he51,h51⟩:=bind_some h;refine Qm he51 (λs51:Int=>⟨Y0 w_ ((7,iV (ix w_.list_ s39))::YH w_ s39 [(54,iV s51)]),[],0⟩) (wkQ []) ?_;intro k51 s51 c51 h hk51;refine Q0 (runQ hN λK hK=>?_);simp;(repeat refine sdQ ?_);refine hK _ ?_;clear hK K;refine tn (Q0 (Q6 rfl (λg=>?_) λg=>?_))
    ·have g52:s51<(w_.list_.length:Int):=gQ;clear g;replace h:=if_l g52 h;refine Q7 (tn (Q0 (Q5 (Q0 (runQ hN λK hK=>?_)))));replace⟨a53,h⟩:=Q1 h;simp[at_I a53];(repeat refine sdQ ?_);refine hK _ ?_;clear hK K;refine tn (Q4 (st':=⟨Y0 w_ ((7,iV (ix w_.list_ s39))::(9,iV (ix w_.list_ s51))::YH w_ s39 [(54,iV s51)]),[],0⟩) (wkQ []) (Q0 (runQ hN λK hK=>?_)));simp;(repeat with_reducible refine sdQ ?_);replace⟨v54,hv54,h⟩:=bind_some h;refine Q3 (QF _ _ _ v54 hv54) (.cons (.preT (by simp[CN])) (.cons .val (.cons .val .nil))) ?_;simp;(repeat refine sdQ ?_);refine hK _ (tn (Q4 (st':=⟨Y0 w_ ((7,iV (ix w_.list_ s39))::(9,iV (ix w_.list_ s51))::(10,iV v54)::YH w_ s39 [(54,iV s51)]),[],0⟩) (wkQ []) (Q0 ?_)));clear hK K;replace⟨e55,h,h55⟩:=bind_some h;refine Qc (λb55:Bool=>⟨Y0 w_ ((7,iV (ix w_.list_ s39))::(9,iV (ix w_.list_ s51))::YH w_ s39 [(54,iV s51),(76,.val (.bool b55))]),[],0⟩) (λb55=>b55=e55) ?_ ?_
     ·refine runQ hN λK hK=>?_;simp;(repeat with_reducible refine sdQ ?_);refine Qv (λg=>?_) (λg=>?_)
      ·have g56:v54≥0:=gQ;clear g;replace h:=if_l g56 h;replace⟨a57,h⟩:=Q1 h;simp[at_B a57];(repeat refine sdQ ?_);refine hK _ ?_;exact jn (b:=!(gx w_.there_ v54)) (yJ h) (wkQ [])
      have g56:¬(v54≥0):=gQ;clear g;replace h:=if_r g56 h;simp;(repeat refine sdQ ?_);refine hK _ ?_;exact jn (b:=false) (yJ h) (wkQ [])
     intro b55 hb55;have h:=h55;(try rw[←hb55]at h);clear h55;(try dsimp only at h);refine Q6 rfl (λg=>?_) λg=>?_
     ·have g58:b55=true:=gQ;clear g;replace h:=if_l g58 h;refine Q0 (runQ hN λK hK=>?_);simp;(repeat refine sdQ ?_);refine hK _ (tn (Q4 (st':=⟨[(2,iV (ix w_.list_ s39)),(3,iV (ix w_.list_ s51)),(4,.val (.bool true))],[],0⟩) (wkQ []) (Qi (br (tr (lr (br (br (tr (lr (br (tr ?_))))))))))));clear hK K;cases h;have q:_=e51:=hk51;have h:=h51;rw[←q]at h;clear q;(try dsimp only at h);cases h;have h:=h41;(try dsimp only at h);cases h;have q:_=e17:=hk39;have h:=h17;rw[←q]at h;clear q;(try dsimp only at h);have hr:=yJ h;rw[←hr];refine⟨_,(.tmp (.tmp (.tmp .nil))),?_⟩;refine⟨(.one rfl rfl (.one rfl rfl (.one rfl rfl .nil))),[iV (ix w_.list_ s39),iV (ix w_.list_ s51),.val (.bool true)],[],by simp[BN],by simp,(yN _)⟩
     have g58:¬(b55=true):=gQ;clear g;replace h:=if_r g58 h;refine Q7 (bn (tn (runQ hN λK hK=>?_)));replace⟨a59,h⟩:=Q1 h;simp[Qg a59];(repeat refine sdQ ?_);refine hK _ ?_;clear hK K;cases h;exact rn (s':=s51+1) hk51 (wkQ [])
    have g52:¬(s51<(w_.list_.length:Int)):=gQ;clear g;replace h:=if_r g52 h;refine Qj (tx (lx (bh (bn ?_))));cases h;have q:_=e51:=hk51;have h:=h51;rw[←q]at h;clear q;(try dsimp only at h);exact jn (b:=()) (yJ h) (wkQ [])
   intro b41 hb41;have h:=h41;(try rw[←hb41]at h);clear h41;(try dsimp only at h);refine runQ hN λK hK=>?_;replace⟨a60,h⟩:=Q1 h;simp[Qg a60];(repeat refine sdQ ?_);refine hK _ ?_;clear hK K;cases h;exact rn (s':=s39+1) hk39 (wkQ [])
  have g40:¬(s39<(w_.list_.length:Int)):=gQ;clear g;replace h:=if_r g40 h;refine Qj (tx (lx (bh ?_)));cases h;exact jn (b:=()) hk39 (wkQ [])
 intro b17 hb17;have h:=h17;try rw[←hb17]at h
 clear h17;try dsimp only at h
 refine Q0 (runQ hN λK hK=>?_);simp;repeat refine sdQ ?_
 refine hK _ (tn (Q4 (st':=⟨[(2,iV 0),(3,iV 0),(4,.val (.bool false))],[],0⟩) (wkQ []) (Qi ?_)));clear hK K;have hr:=yJ h;rw[←hr];refine⟨_,(.tmp (.tmp (.tmp .nil))),?_⟩;refine⟨(.one rfl rfl (.one rfl rfl (.one rfl rfl .nil))),[iV 0,iV 0,.val (.bool false)],[],by simp[BN],by simp,(yN _)⟩
attribute [local simp] unk unA unE unT unC flat
def Q3z(list_:List Int):Option Bool:=
 (Qd (σ:=Int) (ε:=Unit⊕Bool) (λs7=>
  if s7<(list_.length:Int)then
   ass (B64 (s7 - 1))<|
   ass (0≤s7 - 1∧s7 - 1<(list_.length:Int))<|
   ass (0≤s7∧s7<(list_.length:Int))<|
   if(ix list_ (s7 - 1))≥(ix list_ s7)then
    some (yK (yT false))
   else
    ass (B64 (s7+1))<|
    some (yM (s7+1))
  else
   some (yK (yS ()))) fuel 1).bind λe1=>
 match e1 with
 | .inl b1=>
  some true
 | .inr p1=>
  some p1
theorem Qbt(list_:List Int)(r:Bool)(h:Q3z list_=some r):Contract Tryz.prog 87 [lI list_] (.val (.bool r)):=by
 refine Q9 (rvs:=[.tmp 2]) (rs:=[.val (.bool r)]) Tryz.func87 rfl rfl rfl rfl (by simp[Tryz.f87]) λF hN hP=>?_;unfold Q3z at h;refine Q0 (runQ hN λK hK=>?_);simp[-yW,eL,eI,Qh];repeat refine sdQ ?_
 refine hK _ ?_;clear hK K;refine tn (Q4 (st':=⟨[(0,lI list_)],[],0⟩) (wkQ []) (Q0 (Q0 (runQ hN λK hK=>?_))));simp[-yW,eL,eI,Qh];repeat refine sdQ ?_
 refine hK _ (tn (Q4 (st':=⟨[(0,lI list_),(3,iV 1)],[],0⟩) (wkQ []) ?_));clear hK K;replace⟨e1,h,h1⟩:=bind_some h;refine Qc (λb1:Unit=>⟨[],[],0⟩) (λb1=>yS b1=e1) ?_ ?_
 ·refine Q5 (Qm h (λs7:Int=>⟨[(0,lI list_),(3,iV s7)],[],0⟩) (wkQ []) ?_);clear h;intro k7 s7 c7 h hk7;refine Q0 (Q0 (runQ hN λK hK=>?_));simp[-yW,eL,eI,Qh];repeat refine sdQ ?_
  refine hK _ ?_;clear hK K;refine tn (Q6 rfl (λg=>?_) λg=>?_)
  ·have g8:s7<(list_.length:Int):=gQ;clear g;replace h:=if_l g8 h;refine Q7 (tn (Q0 (Q5 (Q0 (runQ hN λK hK=>?_)))));replace⟨a9,h⟩:=Q1 h;replace⟨a10,h⟩:=Q1 h;replace⟨a11,h⟩:=Q1 h;simp[-yW,eL,eI,Qh,Qg a9,at_I a10,at_I a11];(repeat refine sdQ ?_);refine hK _ ?_;clear hK K;refine tn (Q6 rfl (λg=>?_) λg=>?_)
   ·have g12:(ix list_ (s7 - 1))≥(ix list_ s7):=gQ;clear g;replace h:=if_l g12 h;refine Q0 (runQ hN λK hK=>?_);simp[-yW,eL,eI,Qh];(repeat refine sdQ ?_);refine hK _ (tn (Q4 (st':=⟨[(2,.val (.bool false))],[],0⟩) (wkQ []) (Qi (br (tr (lr (br (tr ?_))))))));clear hK K;cases h;have q:_=e1:=hk7;have h:=h1;rw[←q]at h;clear q;(try dsimp only at h);have hr:=yJ h;rw[←hr];refine⟨_,(.tmp .nil),?_⟩;refine⟨(.one rfl rfl .nil),[.val (.bool false)],[],by simp[BN],by simp,(yN _)⟩
   have g12:¬((ix list_ (s7 - 1))≥(ix list_ s7)):=gQ;clear g;replace h:=if_r g12 h;refine Q7 (bn (tn (runQ hN λK hK=>?_)));replace⟨a13,h⟩:=Q1 h;simp[-yW,eL,eI,Qh,Qg a13];(repeat refine sdQ ?_);refine hK _ ?_;clear hK K;cases h;exact rn (s':=s7+1) hk7 (wkQ [])
  have g8:¬(s7<(list_.length:Int)):=gQ;clear g;replace h:=if_r g8 h;refine Qj (tx (lx (bh ?_)));cases h;exact jn (b:=()) hk7 (wkQ [])
 intro b1 hb1;have h:=h1;try rw[←hb1]at h
 clear h1;try dsimp only at h
 refine Q0 (runQ hN λK hK=>?_);simp[-yW,eL,eI,Qh];repeat refine sdQ ?_
 refine hK _ (tn (Q4 (st':=⟨[(2,.val (.bool true))],[],0⟩) (wkQ []) (Qi ?_)));clear hK K;have hr:=yJ h;rw[←hr];refine⟨_,(.tmp .nil),?_⟩;refine⟨(.one rfl rfl .nil),[.val (.bool true)],[],by simp[BN],by simp,(yN _)⟩
attribute [local simp] unk unA unE unT unC flat eL eI Qh QI Cat.cells
def Q2i(c_:Cat)(arrows_:List Int):Option Int:=
 (Q4Y c_).bind λv1=>
 if¬(v1=true)then
  some 1
 else
  (Q4l (c_.fr.length:Int) arrows_).bind λv3=>
  if¬(v3=true)then
   some 2
  else
   some 0
theorem Q8a(c_:Cat)(arrows_:List Int)(r:Int)(h:Q2i c_ arrows_=some r):Contract Tryz.prog 75 (Y0u c_ [lI arrows_]) (iV r):=by
 refine Q9 (rvs:=[.tmp 4]) (rs:=[iV r]) Tryz.func75 rfl rfl rfl rfl (by simp[Tryz.f75]) λF hN hP=>?_;unfold Q2i at h;refine Q0 (runQ hN λK hK=>?_);simp;repeat refine sdQ ?_
 refine hK _ ?_;clear hK K;refine tn (Q4 (st':=⟨(1,lI arrows_)::Yw [],Y6 c_ [],1⟩) (wkQ [(0,0)]) (Q0 (Q0 (runQ hN λK hK=>?_))));simp;repeat with_reducible refine sdQ ?_
 replace⟨v1,hv1,h⟩:=bind_some h;refine Q3 (w_s_l02Is _ v1 hv1) (.cons (.aggL (.cons .val (.cons .lst (.cons .lst (.cons .lst (.cons .lst .nil)))))) .nil) ?_;simp;repeat refine sdQ ?_
 refine hK _ ?_;clear hK K;refine tn (Q4 (st':=⟨(1,lI arrows_)::Yw [(7,.val (.bool (!v1)))],Y6 c_ [],1⟩) (wkQ [(0,0)]) (Q6 rfl (λg=>?_) λg=>?_))
 ·have g2:¬(v1=true):=gQ;clear g;replace h:=if_l g2 h;refine Q0 (runQ hN λK hK=>?_);simp;repeat refine sdQ ?_
  refine hK _ (tn (Q4 (st':=⟨[(4,iV 1)],[],0⟩) (wkQ []) (Qi (tr ?_))));clear hK K;have hr:=yJ h;rw[←hr];refine⟨_,(.tmp .nil),?_⟩;refine⟨(.one rfl rfl .nil),[iV 1],[],by simp[BN],by simp,(yN _)⟩
 have g2:¬(¬(v1=true)):=gQ;clear g;replace h:=if_r g2 h;refine Q7 (tn (Q0 (Q0 (runQ hN λK hK=>?_))));simp;repeat with_reducible refine sdQ ?_
 replace⟨v3,hv3,h⟩:=bind_some h;refine Q3 (Qbu _ _ v3 hv3) (.cons .val (.cons .lst .nil)) ?_;simp;repeat refine sdQ ?_
 refine hK _ ?_;clear hK K;refine tn (Q4 (st':=⟨[(13,.val (.bool (!v3)))],[],0⟩) (wkQ []) (Q6 rfl (λg=>?_) λg=>?_))
 ·have g4:¬(v3=true):=gQ;clear g;replace h:=if_l g4 h;refine Q0 (runQ hN λK hK=>?_);simp;repeat refine sdQ ?_
  refine hK _ (tn (Q4 (st':=⟨[(4,iV 2)],[],0⟩) (wkQ []) (Qi (tr ?_))));clear hK K;have hr:=yJ h;rw[←hr];refine⟨_,(.tmp .nil),?_⟩;refine⟨(.one rfl rfl .nil),[iV 2],[],by simp[BN],by simp,(yN _)⟩
 have g4:¬(¬(v3=true)):=gQ;clear g;replace h:=if_r g4 h;refine Q7 (tn (Q0 (runQ hN λK hK=>?_)));simp;repeat refine sdQ ?_
 refine hK _ (tn (Q4 (st':=⟨[(4,iV 0)],[],0⟩) (wkQ []) (Qi ?_)));clear hK K;have hr:=yJ h;rw[←hr];refine⟨_,(.tmp .nil),?_⟩;refine⟨(.one rfl rfl .nil),[iV 0],[],by simp[BN],by simp,(yN _)⟩
attribute [local simp] unk unA unE unT unC flat
def Q2H(list_:List Int):Option Bool:=
 (Qd (σ:=Int) (ε:=Unit⊕Bool) (λs7=>
  if s7<(list_.length:Int)then
   ass (0≤s7∧s7<(list_.length:Int))<|
   ass (B64 (s7 - 1))<|
   ass (0≤s7 - 1∧s7 - 1<(list_.length:Int))<|
   if(ix list_ s7)≤(ix list_ (s7 - 1))then
    some (yK (yT false))
   else
    ass (B64 (s7+1))<|
    some (yM (s7+1))
  else
   some (yK (yS ()))) fuel 1).bind λe1=>
 match e1 with
 | .inl b1=>
  some true
 | .inr p1=>
  some p1
theorem Q98(list_:List Int)(r:Bool)(h:Q2H list_=some r):Contract Tryz.prog 76 [lI list_] (.val (.bool r)):=by
 refine Q9 (rvs:=[.tmp 2]) (rs:=[.val (.bool r)]) Tryz.func76 rfl rfl rfl rfl (by simp[Tryz.f76]) λF hN hP=>?_;unfold Q2H at h;refine Q0 (runQ hN λK hK=>?_);simp[-yW,eL,eI,Qh];repeat refine sdQ ?_
 refine hK _ ?_;clear hK K;refine tn (Q4 (st':=⟨[(0,lI list_)],[],0⟩) (wkQ []) (Q0 (Q0 (runQ hN λK hK=>?_))));simp[-yW,eL,eI,Qh];repeat refine sdQ ?_
 refine hK _ (tn (Q4 (st':=⟨[(0,lI list_),(3,iV 1)],[],0⟩) (wkQ []) ?_));clear hK K;replace⟨e1,h,h1⟩:=bind_some h;refine Qc (λb1:Unit=>⟨[],[],0⟩) (λb1=>yS b1=e1) ?_ ?_
 ·refine Q5 (Qm h (λs7:Int=>⟨[(0,lI list_),(3,iV s7)],[],0⟩) (wkQ []) ?_);clear h;intro k7 s7 c7 h hk7;refine Q0 (Q0 (runQ hN λK hK=>?_));simp[-yW,eL,eI,Qh];repeat refine sdQ ?_
  refine hK _ ?_;clear hK K;refine tn (Q6 rfl (λg=>?_) λg=>?_)
  ·have g8:s7<(list_.length:Int):=gQ;clear g;replace h:=if_l g8 h;refine Q7 (tn (Q0 (Q5 (Q0 (runQ hN λK hK=>?_)))));replace⟨a9,h⟩:=Q1 h;replace⟨a10,h⟩:=Q1 h;replace⟨a11,h⟩:=Q1 h;simp[-yW,eL,eI,Qh,at_I a9,Qg a10,at_I a11];(repeat refine sdQ ?_);refine hK _ ?_;clear hK K;refine tn (Q6 rfl (λg=>?_) λg=>?_)
   ·have g12:(ix list_ s7)≤(ix list_ (s7 - 1)):=gQ;clear g;replace h:=if_l g12 h;refine Q0 (runQ hN λK hK=>?_);simp[-yW,eL,eI,Qh];(repeat refine sdQ ?_);refine hK _ (tn (Q4 (st':=⟨[(2,.val (.bool false))],[],0⟩) (wkQ []) (Qi (br (tr (lr (br (tr ?_))))))));clear hK K;cases h;have q:_=e1:=hk7;have h:=h1;rw[←q]at h;clear q;(try dsimp only at h);have hr:=yJ h;rw[←hr];refine⟨_,(.tmp .nil),?_⟩;refine⟨(.one rfl rfl .nil),[.val (.bool false)],[],by simp[BN],by simp,(yN _)⟩
   have g12:¬((ix list_ s7)≤(ix list_ (s7 - 1))):=gQ;clear g;replace h:=if_r g12 h;refine Q7 (bn (tn (runQ hN λK hK=>?_)));replace⟨a13,h⟩:=Q1 h;simp[-yW,eL,eI,Qh,Qg a13];(repeat refine sdQ ?_);refine hK _ ?_;clear hK K;cases h;exact rn (s':=s7+1) hk7 (wkQ [])
  have g8:¬(s7<(list_.length:Int)):=gQ;clear g;replace h:=if_r g8 h;refine Qj (tx (lx (bh ?_)));cases h;exact jn (b:=()) hk7 (wkQ [])
 intro b1 hb1;have h:=h1;try rw[←hb1]at h
 clear h1;try dsimp only at h
 refine Q0 (runQ hN λK hK=>?_);simp[-yW,eL,eI,Qh];repeat refine sdQ ?_
 refine hK _ (tn (Q4 (st':=⟨[(2,.val (.bool true))],[],0⟩) (wkQ []) (Qi ?_)));clear hK K;have hr:=yJ h;rw[←hr];refine⟨_,(.tmp .nil),?_⟩;refine⟨(.one rfl rfl .nil),[.val (.bool true)],[],by simp[BN],by simp,(yN _)⟩
attribute [local simp] unk unA unE unT unC flat eL eI Qh QI Cat.cells
def Q2j(c_:Cat)(w_:List Int):Option (Int×Int×Int):=
 (Qd (σ:=Int×Int) (ε:=Int) (λs11=>
  if s11.2<c_.n then
   (
    (
     ass (0≤s11.2∧s11.2<(c_.id.length:Int))<|
     (Q15 w_ (ix c_.id s11.2)).bind λv16=>
     if¬(v16=true)then
      if s11.1<0 then
       some true
      else
       ass (0≤s11.2∧s11.2<(c_.id.length:Int))<|
       some (decide ((ix c_.id s11.2)<s11.1))
     else
      some false:Option (Bool)).bind λb14=>
    if b14=true then
     ass (0≤s11.2∧s11.2<(c_.id.length:Int))<|
     some (ix c_.id s11.2)
    else
     some s11.1:Option (Int)).bind λb13=>
   ass (B64 (s11.2+1))<|
   some (yM (b13,s11.2+1))
  else
   some (yK s11.1)) fuel ((-1),0)).bind λb1=>
 if b1≥0 then
  some (1,b1,(-1))
 else
  (Qd (σ:=Int) (ε:=Unit⊕(Int×Int×Int)) (λs59=>
   if s59<(w_.length:Int)then
    (
     (Qd (σ:=Int) (ε:=(Int×Int×Int)⊕Unit) (λs77=>
      if s77<(w_.length:Int)then
       (
        ass (0≤s59∧s59<(w_.length:Int))<|
        ass (0≤ix w_ s59∧ix w_ s59<(c_.to.length:Int))<|
        ass (0≤s77∧s77<(w_.length:Int))<|
        ass (0≤ix w_ s77∧ix w_ s77<(c_.fr.length:Int))<|
        if(ix c_.to (ix w_ s59))=(ix c_.fr (ix w_ s77))then
         ass (0≤s59∧s59<(w_.length:Int))<|
         ass (0≤s77∧s77<(w_.length:Int))<|
         (Qs c_ (ix w_ s59) (ix w_ s77)).bind λv87=>
         (Q15 w_ v87).bind λv88=>
         some (!v88)
        else
         some false:Option (Bool)).bind λb79=>
       if b79=true then
        ass (0≤s59∧s59<(w_.length:Int))<|
        ass (0≤s77∧s77<(w_.length:Int))<|
        some (yK (yS (1,ix w_ s59,ix w_ s77)))
       else
        ass (B64 (s77+1))<|
        some (yM (s77+1))
      else
       some (yK (yT ()))) fuel 0).bind λe77=>
     match e77 with
     | .inl p77=>
      some (yT p77)
     | .inr p77=>
      some (yS p77):Option (Unit⊕(Int×Int×Int))).bind λe61=>
    match e61 with
    | .inl b61=>
     ass (B64 (s59+1))<|
     some (yM (s59+1))
    | .inr p61=>
     some (yK (yT p61))
   else
    some (yK (yS ()))) fuel 0).bind λe24=>
  match e24 with
  | .inl b24=>
   some (0,(-1),(-1))
  | .inr p24=>
   some p24
theorem Q8b(c_:Cat)(w_:List Int)(r:Int×Int×Int)(h:Q2j c_ w_=some r):Contract Tryz.prog 77 (Y0u c_ [lI w_]) (.tup [iV r.1,iV r.2.1,iV r.2.2]):=by
 refine Q9 (rvs:=[.tmp 4,.tmp 5,.tmp 6]) (rs:=[iV r.1,iV r.2.1,iV r.2.2]) Tryz.func77 rfl rfl rfl rfl (by simp[Tryz.f77]) λF hN hP=>?_;unfold Q2j at h;refine Q0 (runQ hN λK hK=>?_);simp;repeat refine sdQ ?_
 refine hK _ ?_;clear hK K;refine tn (Q4 (st':=⟨(1,lI w_)::Yw [],Y6 c_ [],1⟩) (wkQ [(0,0)]) (Q0 (runQ hN λK hK=>?_)));simp;repeat refine sdQ ?_
 refine hK _ ?_;clear hK K;refine tn (Q4 (st':=⟨(1,lI w_)::Yw [(7,iV (-1))],Y6 c_ [],1⟩) (wkQ [(0,0)]) (Q0 (Q0 (runQ hN λK hK=>?_))));simp;repeat refine sdQ ?_
 refine hK _ (tn (Q4 (st':=⟨(1,lI w_)::Yw [(7,iV (-1)),(8,iV 0)],Y6 c_ [],1⟩) (wkQ [(0,0)]) ?_));clear hK K;replace⟨e1,h,h1⟩:=bind_some h;refine Qc (λb1:Int=>⟨(1,lI w_)::Yw [(7,iV b1)],Y6 c_ [],1⟩) (λb1=>b1=e1) ?_ ?_
 ·refine Q5 (Qm h (λs11:Int×Int=>⟨(1,lI w_)::Yw [(7,iV s11.1),(8,iV s11.2)],Y6 c_ [],1⟩) (wkQ [(0,0)]) ?_);clear h;intro k11 s11 c11 h hk11;refine Q0 (Q0 (runQ hN λK hK=>?_));simp;repeat refine sdQ ?_
  refine hK _ ?_;clear hK K;refine tn (Q6 rfl (λg=>?_) λg=>?_)
  ·have g12:s11.2<c_.n:=gQ;clear g;replace h:=if_l g12 h;refine Q7 (tn (Q0 ?_));replace⟨e13,h,h13⟩:=bind_some h;refine Qc (λb13:Int=>⟨(1,lI w_)::Yw [(7,iV b13),(8,iV s11.2)],Y6 c_ [],1⟩) (λb13=>b13=e13) ?_ ?_
   ·refine Q5 (Q0 ?_);replace⟨e14,h,h14⟩:=bind_some h;refine Qc (λb14:Bool=>⟨(1,lI w_)::Yw [(7,iV s11.1),(8,iV s11.2),(37,.val (.bool b14))],Y6 c_ [],1⟩) (λb14=>b14=e14) ?_ ?_
    ·refine runQ hN λK hK=>?_;replace⟨a15,h⟩:=Q1 h;simp[at_I a15];(repeat with_reducible refine sdQ ?_);replace⟨v16,hv16,h⟩:=bind_some h;refine Q3 (Q3I _ _ v16 hv16) (.cons .lst (.cons .val .nil)) ?_;simp[at_I a15];(repeat with_reducible refine sdQ ?_);refine Qv (λg=>?_) (λg=>?_)
     ·have g17:¬(v16=true):=gQ;clear g;replace h:=if_l g17 h;simp[at_I a15];(repeat with_reducible refine sdQ ?_);refine Qv (λg=>?_) (λg=>?_)
      ·have g18:¬(s11.1<0):=gQ;clear g;replace h:=if_r g18 h;replace⟨a19,h⟩:=Q1 h;simp[at_I a15,at_I a19];(repeat refine sdQ ?_);refine hK _ ?_;exact jn (b:=decide ((ix c_.id s11.2)<s11.1)) (yJ h) (wkQ [(0,0)])
      have g18:s11.1<0:=gQ;clear g;replace h:=if_l g18 h;simp[at_I a15];(repeat refine sdQ ?_);refine hK _ ?_;exact jn (b:=true) (yJ h) (wkQ [(0,0)])
     have g17:¬(¬(v16=true)):=gQ;clear g;replace h:=if_r g17 h;simp[at_I a15];(repeat refine sdQ ?_);refine hK _ ?_;exact jn (b:=false) (yJ h) (wkQ [(0,0)])
    intro b14 hb14;have h:=h14;(try rw[←hb14]at h);clear h14;(try dsimp only at h);refine Q6 rfl (λg=>?_) λg=>?_
    ·have g20:b14=true:=gQ;clear g;replace h:=if_l g20 h;refine runQ hN λK hK=>?_;replace⟨a21,h⟩:=Q1 h;simp[at_I a21];(repeat refine sdQ ?_);refine hK _ (bn ?_);clear hK K;exact jn (b:=ix c_.id s11.2) (yJ h) (wkQ [(0,0)])
    have g20:¬(b14=true):=gQ;clear g;replace h:=if_r g20 h;refine Q7 (bn ?_);exact jn (b:=s11.1) (yJ h) (wkQ [(0,0)])
   intro b13 hb13;have h:=h13;(try rw[←hb13]at h);clear h13;(try dsimp only at h);refine runQ hN λK hK=>?_;replace⟨a22,h⟩:=Q1 h;simp[Qg a22];(repeat refine sdQ ?_);refine hK _ ?_;clear hK K;cases h;exact rn (s':=(b13,s11.2+1)) hk11 (wkQ [(0,0)])
  have g12:¬(s11.2<c_.n):=gQ;clear g;replace h:=if_r g12 h;refine Qj (tx (lx (bh ?_)));cases h;exact jn (b:=s11.1) hk11 (wkQ [(0,0)])
 intro b1 hb1;have h:=h1;try rw[←hb1]at h
 clear h1;try dsimp only at h
 refine Q0 (Q0 (runQ hN λK hK=>?_));simp;repeat refine sdQ ?_
 refine hK _ ?_;clear hK K;refine tn (Q6 rfl (λg=>?_) λg=>?_)
 ·have g23:b1≥0:=gQ;clear g;replace h:=if_l g23 h;refine Q0 (runQ hN λK hK=>?_);simp;repeat refine sdQ ?_
  refine hK _ (tn (Q4 (st':=⟨[(4,iV 1),(5,iV b1),(6,iV (-1))],[],0⟩) (wkQ []) (Qi (tr ?_))));clear hK K;have hr:=yJ h;rw[←hr];refine⟨_,(.tmp (.tmp (.tmp .nil))),?_⟩;refine⟨(.one rfl rfl (.one rfl rfl (.one rfl rfl .nil))),[iV 1,iV b1,iV (-1)],[],by simp[BN],by simp,(yN _)⟩
 have g23:¬(b1≥0):=gQ;clear g;replace h:=if_r g23 h;refine Q7 (tn (Q0 (Q0 (runQ hN λK hK=>?_))));simp;repeat refine sdQ ?_
 refine hK _ (tn (Q4 (st':=⟨(1,lI w_)::Yw [(9,iV 0)],Y6 c_ [],1⟩) (wkQ [(0,0)]) ?_));clear hK K;replace⟨e24,h,h24⟩:=bind_some h;refine Qc (λb24:Unit=>⟨[],[],0⟩) (λb24=>yS b24=e24) ?_ ?_
 ·refine Q5 (Qm h (λs59:Int=>⟨(1,lI w_)::Yw [(9,iV s59)],Y6 c_ [],1⟩) (wkQ [(0,0)]) ?_);clear h;intro k59 s59 c59 h hk59;refine Q0 (Q0 (runQ hN λK hK=>?_));simp;repeat refine sdQ ?_
  refine hK _ ?_;clear hK K;refine tn (Q6 rfl (λg=>?_) λg=>?_)
  ·have g60:s59<(w_.length:Int):=gQ;clear g;replace h:=if_l g60 h;refine Q7 (tn (Q0 ?_));replace⟨e61,h,h61⟩:=bind_some h;refine Qc (λb61:Unit=>⟨(1,lI w_)::Yw [(9,iV s59)],Y6 c_ [],1⟩) (λb61=>yS b61=e61) ?_ ?_
   ·refine Q5 (Q0 (runQ hN λK hK=>?_));simp;(repeat refine sdQ ?_);refine hK _ (tn (Q4 (st':=⟨(1,lI w_)::Yw [(9,iV s59),(10,iV 0)],Y6 c_ [],1⟩) (wkQ [(0,0)]) (Q5 ?_)));clear hK K;replace⟨e77,he77,h77⟩:=bind_some h;refine Qm he77 (λs77:Int=>⟨(1,lI w_)::Yw [(9,iV s59),(10,iV s77)],Y6 c_ [],1⟩) (wkQ [(0,0)]) ?_;intro k77 s77 c77 h hk77;refine Q0 (Q0 (runQ hN λK hK=>?_));simp;(repeat refine sdQ ?_);refine hK _ ?_;clear hK K;refine tn (Q6 rfl (λg=>?_) λg=>?_)
    ·have g78:s77<(w_.length:Int):=gQ;clear g;replace h:=if_l g78 h;refine Q7 (tn (Q0 (Q5 (Q0 ?_))));replace⟨e79,h,h79⟩:=bind_some h;refine Qc (λb79:Bool=>⟨(1,lI w_)::Yw [(9,iV s59),(10,iV s77),(89,.val (.bool b79))],Y6 c_ [],1⟩) (λb79=>b79=e79) ?_ ?_
     ·refine runQ hN λK hK=>?_;replace⟨a80,h⟩:=Q1 h;replace⟨a81,h⟩:=Q1 h;replace⟨a82,h⟩:=Q1 h;replace⟨a83,h⟩:=Q1 h;simp[at_I a80,at_I a81,at_I a82,at_I a83];(repeat with_reducible refine sdQ ?_);refine Qv (λg=>?_) (λg=>?_)
      ·have g84:(ix c_.to (ix w_ s59))=(ix c_.fr (ix w_ s77)):=gQ;clear g;replace h:=if_l g84 h;replace⟨a85,h⟩:=Q1 h;replace⟨a86,h⟩:=Q1 h;simp[at_I a80,at_I a81,at_I a82,at_I a83,at_I a85,at_I a86];(repeat with_reducible refine sdQ ?_);replace⟨v87,hv87,h⟩:=bind_some h;refine Q3 (QZ _ _ _ v87 hv87) (.cons (.aggL (.cons .val (.cons .lst (.cons .lst (.cons .lst (.cons .lst .nil)))))) (.cons .val (.cons .val .nil))) ?_;simp[at_I a80,at_I a81,at_I a82,at_I a83,at_I a85,at_I a86];(repeat with_reducible refine sdQ ?_);replace⟨v88,hv88,h⟩:=bind_some h;refine Q3 (Q3I _ _ v88 hv88) (.cons .lst (.cons .val .nil)) ?_;simp[at_I a80,at_I a81,at_I a82,at_I a83,at_I a85,at_I a86];(repeat refine sdQ ?_);refine hK _ ?_;exact jn (b:=!v88) (yJ h) (wkQ [(0,0)])
      have g84:¬((ix c_.to (ix w_ s59))=(ix c_.fr (ix w_ s77))):=gQ;clear g;replace h:=if_r g84 h;simp[at_I a80,at_I a81,at_I a82,at_I a83];(repeat refine sdQ ?_);refine hK _ ?_;exact jn (b:=false) (yJ h) (wkQ [(0,0)])
     intro b79 hb79;have h:=h79;(try rw[←hb79]at h);clear h79;(try dsimp only at h);refine Q6 rfl (λg=>?_) λg=>?_
     ·have g89:b79=true:=gQ;clear g;replace h:=if_l g89 h;refine Q0 (runQ hN λK hK=>?_);replace⟨a90,h⟩:=Q1 h;replace⟨a91,h⟩:=Q1 h;simp[at_I a90,at_I a91];(repeat refine sdQ ?_);refine hK _ (tn (Q4 (st':=⟨[(4,iV 1),(5,iV (ix w_ s59)),(6,iV (ix w_ s77))],[],0⟩) (wkQ []) (Qi (br (tr (lr (br (br (tr (lr (br (tr ?_))))))))))));clear hK K;cases h;have q:_=e77:=hk77;have h:=h77;rw[←q]at h;clear q;(try dsimp only at h);cases h;have h:=h61;(try dsimp only at h);cases h;have q:_=e24:=hk59;have h:=h24;rw[←q]at h;clear q;(try dsimp only at h);have hr:=yJ h;rw[←hr];refine⟨_,(.tmp (.tmp (.tmp .nil))),?_⟩;refine⟨(.one rfl rfl (.one rfl rfl (.one rfl rfl .nil))),[iV 1,iV (ix w_ s59),iV (ix w_ s77)],[],by simp[BN],by simp,(yN _)⟩
     have g89:¬(b79=true):=gQ;clear g;replace h:=if_r g89 h;refine Q7 (bn (tn (runQ hN λK hK=>?_)));replace⟨a92,h⟩:=Q1 h;simp[Qg a92];(repeat refine sdQ ?_);refine hK _ ?_;clear hK K;cases h;exact rn (s':=s77+1) hk77 (wkQ [(0,0)])
    have g78:¬(s77<(w_.length:Int)):=gQ;clear g;replace h:=if_r g78 h;refine Qj (tx (lx (bh (bn ?_))));cases h;have q:_=e77:=hk77;have h:=h77;rw[←q]at h;clear q;(try dsimp only at h);exact jn (b:=()) (yJ h) (wkQ [(0,0)])
   intro b61 hb61;have h:=h61;(try rw[←hb61]at h);clear h61;(try dsimp only at h);refine runQ hN λK hK=>?_;replace⟨a93,h⟩:=Q1 h;simp[Qg a93];(repeat refine sdQ ?_);refine hK _ ?_;clear hK K;cases h;exact rn (s':=s59+1) hk59 (wkQ [(0,0)])
  have g60:¬(s59<(w_.length:Int)):=gQ;clear g;replace h:=if_r g60 h;refine Qj (tx (lx (bh ?_)));cases h;exact jn (b:=()) hk59 (wkQ [])
 intro b24 hb24;have h:=h24;try rw[←hb24]at h
 clear h24;try dsimp only at h
 refine Q0 (runQ hN λK hK=>?_);simp;repeat refine sdQ ?_
 refine hK _ (tn (Q4 (st':=⟨[(4,iV 0),(5,iV (-1)),(6,iV (-1))],[],0⟩) (wkQ []) (Qi ?_)));clear hK K;have hr:=yJ h;rw[←hr];refine⟨_,(.tmp (.tmp (.tmp .nil))),?_⟩;refine⟨(.one rfl rfl (.one rfl rfl (.one rfl rfl .nil))),[iV 0,iV (-1),iV (-1)],[],by simp[BN],by simp,(yN _)⟩
section
attribute [local simp] Qa QD Qo QM Qx
theorem chkW{ε β:Type}{body:Int→Option (Ctl Int ε)}{K:ε→Option β}{r:Option β}(n:Nat)(p:Nat→Prop){eb eg:ε}(hn:n<4611686018427387904)(h1:∀i:Nat,i<n→p i→body ((i:Int)+1)=some (.next ((i:Int)+1+1)))(h2:∀i:Nat,i<n→¬p i→body ((i:Int)+1)=some (.ret eb))(h3:body ((n:Int)+1)=some (.ret eg))(hb:(¬∀i:Nat,i<n→p i)→K eb=r)(hg:(∀i:Nat,i<n→p i)→K eg=r):(Qd body fuel 1).bind K=r:=by
 by_cases h:∀i:Nat,i<n→p i
 ·rw[show Qd body fuel 1=some eg from Q1d (λi:Nat=>(i:Int)+1) n rfl hn (λi hi=>by rw[h1 i hi (h i hi)];simp) h3];exact hg h
 have hex:∃i,i<n∧¬p i:=yL λhx=>h λi hi=>yL λhp=>hx ⟨i,hi,hp⟩;obtain⟨m,⟨hm,hp⟩,hmin⟩:∃m,(m<n∧¬p m)∧∀k,k<m→¬(k<n∧¬p k):=by
  obtain⟨i,hi⟩:=hex
  induction i using yX with
  |_ i ih=>
   by_cases h:∃k,k<i∧k<n∧¬p k
   ·obtain⟨k,h1,h2⟩:=h;exact ih k h1 h2
   exact⟨i,hi,λk hk hq=>h ⟨k,hk,hq⟩⟩
 rw[show Qd body fuel 1=some eb from Q1d (λi:Nat=>(i:Int)+1) m rfl (by omega) (λi hi=>by rw[h1 i (by omega) (yL λq=>hmin i hi ⟨by omega,q⟩)];simp) (h2 m hm hp)];exact hb h
def Q6I(L:List Int):Prop:=∀i:Nat,i<L.length - 1→ix L i<ix L ((i:Int)+1)
theorem e_risingW{L:List Int}(hl:L.length≤1048576):Q3z L=some (bo (Q6I L)):=by
 unfold Q3z;refine chkW (L.length - 1) (λi=>ix L i<ix L ((i:Int)+1)) (eb:=yT false) (eg:=yS ()) (by omega) (λi hi hp=>?_) (λi hi hp=>?_) (by rw[if_neg (by omega)]) (λh=>?_) λh=>?_
 ·rw[if_pos (by omega),Q2 (by unfold B64;omega),Q2 (by omega),Q2 (by omega),show(i:Int)+1 - 1=i by omega,if_neg (by omega),Q2 (by unfold B64;omega)]
 ·rw[if_pos (by omega),Q2 (by unfold B64;omega),Q2 (by omega),Q2 (by omega),show(i:Int)+1 - 1=i by omega,if_pos (by omega)]
 ·rw[Qp (show¬Q6I L from h)]
 rw[Qu (show Q6I L from h)]
theorem Q9m{L:List Int}(hl:L.length≤1048576):Q2H L=some (bo (Q6I L)):=by
 unfold Q2H;refine chkW (L.length - 1) (λi=>ix L i<ix L ((i:Int)+1)) (eb:=yT false) (eg:=yS ()) (by omega) (λi hi hp=>?_) (λi hi hp=>?_) (by rw[if_neg (by omega)]) (λh=>?_) λh=>?_
 ·rw[if_pos (by omega),Q2 (by omega),Q2 (by unfold B64;omega),Q2 (by omega),show(i:Int)+1 - 1=i by omega,if_neg (by omega),Q2 (by unfold B64;omega)]
 ·rw[if_pos (by omega),Q2 (by omega),Q2 (by unfold B64;omega),Q2 (by omega),show(i:Int)+1 - 1=i by omega,if_pos (by omega)]
 ·rw[Qp (show¬Q6I L from h)]
 rw[Qu (show Q6I L from h)]
def InW(c:Cat)(w:List Int):Prop:=w.all (inR (c.fr.length:Int))=true
theorem InW.at{c:Cat}{w:List Int}(h:InW c w){i:Nat}(hi:i<w.length):0≤ix w i∧ix w i<(c.fr.length:Int):=Q6W (List.all_eq_true.1 h) (j:=(i:Int)) (by omega) (by omega)
theorem InW.mem{c:Cat}{w:List Int}(h:InW c w){f:Int}(hf:f∈w):0≤f∧f<(c.fr.length:Int):=by
 obtain⟨k,hk,rfl⟩:=zX hf;rw[Q16];exact h.at hk
def Q6J(c:Cat)(w:List Int):Int:=if bo c.Is=true then if w.all (inR (c.fr.length:Int))=true then 0 else 2 else 1
theorem e_acode(c:Cat)(w:List Int):Q2h c w=some (Q6J c w)∧Q2i c w=some (Q6J c w):=by
 unfold Q2h Q2i Q1k Q4Y Qt Q2U Q4l Q6J
 by_cases hc:c.Is
 case neg=>simp[Qp hc]
 have hn:=hc.nums;rw[Qu hc];simp only[yR,not_true_eq_false,if_false,if_true];rw[Q2 (by unfold B64;omega)];simp only[yR];cases w.all (inR (c.fr.length:Int))<;>simp
theorem e_marksW{c:Cat}(hc:c.Is){w:List Int}(hw:InW c w)(hl:w.length≤1048576):Q1t c w=some (Q1E w c.fr.length w.length):=by
 have ns:=hc.nums;unfold Q1t Qt;simp only[yR];rw[Q2 (by omega)];have e0:zF ((c.fr.length:Int)).toNat false=Q1E w c.fr.length 0:=by
  refine List.ext_getElem (by simp[Q1E]) λi h1 h2=>?_;simp[Q1E,bo]
 refine Q11 w.length (λi=>Q1E w c.fr.length i) (e:=Q1E w c.fr.length w.length) e0 (by omega) (λi hi=>?_) (by simp only;rw[if_neg (by omega)]) rfl;have q:=hw.at hi;simp only;rw[if_pos (by omega),Q2 (by omega),Q2 (by simp[Q1E];omega),Q2 (by unfold B64;omega)]
 congr 3
 refine List.ext_getElem (by simp[Q1E]) λk h1 h2=>?_;rw[List.getElem_set];simp only[Q1E,List.getElem_map,List.getElem_range];split
 ·rename_i hk;exact(Qu ⟨i,by omega,by omega⟩).symm
 rename_i hk;refine Q9g ⟨λ⟨j,a,b⟩=>⟨j,by omega,b⟩,λ⟨j,a,b⟩=>⟨j,?_,b⟩⟩;rcases Nat.lt_or_ge j i with d|d
 ·exact d
 have:j=i:=by omega
 subst this;omega
theorem Q65{c:Cat}{w:List Int}{h:Int}(hh:0≤h∧h<(c.fr.length:Int)):gx (Q1E w c.fr.length w.length) h=bo (h∈w):=by
 obtain⟨k,rfl⟩:=yU hh.1;have hk:k<c.fr.length:=by omega
 simp only[gx,Q1E,yV,qB,List.getElem?_map,List.getElem?_range hk,Option.map_some,Option.getD_some];refine Q9g ⟨λ⟨j,hj,e⟩=>by rw[←e,←Q16 _ _ hj];exact zY hj,λhm=>?_⟩;obtain⟨j,hj,e⟩:=zX hm;exact⟨j,hj,by rw[←Q16 _ _ hj,e]⟩
def wD(c:Cat)(w:List Int):XD:=⟨c,w,Q1E w c.fr.length w.length⟩
theorem Q7j(c:Cat)(w:List Int):(wD c w).there_.length=c.fr.length:=by simp[wD,Q1E]
structure Clo(c:Cat)(w:List Int):Prop where
 id:∀x:Nat,x<c.id.length→ix c.id x∈w
 cp:∀f∈w,∀g∈w,ix c.to f=ix c.fr g→ix (rx c.cs f) g∈w
theorem Q5j{ε:Type}{body:Int→Option (Ctl Int ε)}(a n:Nat){eg:ε}(hn:n<4611686018427387904)(ha:a≤n)(h1:∀i:Nat,a≤i→i<n→body (i:Int)=some (.next ((i:Int)+1)))(h3:body (n:Int)=some (.ret eg)):Qd body fuel (a:Int)=some eg:=
 Q1d (λi:Nat=>((a+i:Nat):Int)) (n - a) (by simp) (by omega) (λi hi=>by rw[h1 (a+i) (by omega) (by omega)];first|rfl|(congr 2;omega)) (by rw[show a+(n - a)=n by omega];exact h3)
theorem Q3Z{ε:Type}{body:Int→Option (Ctl Int ε)}{Qe:ε→Prop}(a n:Nat)(p:Nat→Prop)(hn:n<4611686018427387904)(hex:∃i:Nat,a≤i∧i<n∧p i)(h1:∀i:Nat,a≤i→i<n→¬p i→body (i:Int)=some (.next ((i:Int)+1)))(h2:∀i:Nat,a≤i→i<n→p i→∃e,body (i:Int)=some (.ret e)∧Qe e):∃e,Qd body fuel (a:Int)=some e∧Qe e:=by
 obtain⟨m,⟨m1,m2,m3⟩,hmin⟩:∃m,(a≤m∧m<n∧p m)∧∀k,k<m→¬(a≤k∧k<n∧p k):=by
  obtain⟨i,hi⟩:=hex
  induction i using yX with
  |_ i ih=>
   by_cases h:∃k,k<i∧a≤k∧k<n∧p k
   ·obtain⟨k,h1,h2⟩:=h;exact ih k h1 h2
   exact⟨i,hi,λk hk hq=>h ⟨k,hk,hq⟩⟩
 obtain⟨e,e1,e3⟩:=h2 m m1 m2 m3;exact⟨e,Q1d (λi:Nat=>((a+i:Nat):Int)) (m - a) (by simp) (by omega) (λi hi=>by rw[h1 (a+i) (by omega) (by omega) (λq=>hmin (a+i) (by omega) ⟨by omega,by omega,q⟩)];first|rfl|(congr 2;omega)) (by rw[show a+(m - a)=m by omega];exact e1),e3⟩
theorem Q4E{ε β:Type}{body:Int→Option (Ctl Int ε)}{K:ε→Option β}{Q:β→Prop}(n:Nat)(p:Nat→Prop){eg:ε}(hn:n<4611686018427387904)(h1:∀i:Nat,i<n→¬p i→body (i:Int)=some (.next ((i:Int)+1)))(h2:∀i:Nat,i<n→p i→∃e,body (i:Int)=some (.ret e)∧∃v,K e=some v∧Q v)(h3:body (n:Int)=some (.ret eg))(hg:(∀i:Nat,i<n→¬p i)→∃v,K eg=some v∧Q v):∃v,(Qd body fuel 0).bind K=some v∧Q v:=by
 by_cases h:∃i:Nat,0≤i∧i<n∧p i
 ·obtain⟨e,e1,v,e2,e3⟩:=Q3Z (Qe:=λe=>∃v,K e=some v∧Q v) 0 n p hn h (λi _ hi hp=>h1 i hi hp) λi _ hi hp=>h2 i hi hp;exact⟨v,by rw[show Qd body fuel 0=some e from e1];exact e2,e3⟩
 have h0:∀i:Nat,i<n→¬p i:=λi hi hp=>h ⟨i,zV _,hi,hp⟩;rw[show Qd body fuel 0=some eg from Q5j 0 n hn (zV _) (λi _ hi=>h1 i hi (h0 i hi)) h3];exact hg h0
def Bad2(c:Cat)(w:List Int)(f g:Int):Prop:=ix c.to f=ix c.fr g∧¬ix (rx c.cs f) g∈w
def clB(c:Cat)(w:List Int)(s39:Int):Int→Option (Ctl Int ((Int×Int×Bool)⊕Unit)):=λs51=>
 if s51<(w.length:Int)then
  ass (0≤s51∧s51<(w.length:Int))<|
  (Qn c (ix w s39) (ix w s51)).bind λv54=>
  (
   if v54≥0 then
    ass (0≤v54∧v54<((wD c w).there_.length:Int))<|
    some (!(gx (wD c w).there_ v54))
   else
    some false:Option (Bool)).bind λb55=>
  if b55=true then
   some (yK (yS (ix w s39,ix w s51,true)))
  else
   ass (B64 (s51+1))<|
   some (yM (s51+1))
 else
  some (yK (yT ()))
theorem Q7I{c:Cat}{w:List Int}{h:Int}(hh:0≤h∧h<(c.fr.length:Int)):gx (wD c w).there_ h=bo (h∈w):=Q65 hh
theorem Q7t{c:Cat}(hc:c.Is){w:List Int}(hw:InW c w)(hl:w.length≤1048576){i j:Nat}(hi:i<w.length)(hj:j<w.length):
  clB c w i j=if bo (Bad2 c w (ix w i) (ix w j))=true then some (.ret (yS (ix w i,ix w j,true)))else some (.next ((j:Int)+1)):=by
 have ht:=Q7j c w;have q:=hc.1.cell' (hw.at hi).1 (hw.at hi).2 (hw.at hj).1 (hw.at hj).2;unfold clB;rw[if_pos (by omega),Q2 (by omega),(Q1o hc (hw.at hi) (hw.at hj)).2];simp only[yR]
 by_cases h1:ix c.to (ix w i)=ix c.fr (ix w j)
 ·obtain⟨q1,q2,_⟩:=q.2 h1;rw[if_pos (by omega),Q2 (by omega),Q7I ⟨q1,q2⟩];simp only[yR]
  by_cases h2:ix (rx c.cs (ix w i)) (ix w j)∈w
  ·rw[Qu h2,Qp (λb:Bad2 c w _ _=>b.2 h2)];simp only[Bool.not_true,zG,if_false];rw[Q2 (by unfold B64;omega)]
  rw[Qp h2,Qu (show Bad2 c w _ _ from⟨h1,h2⟩)];simp
 rw[q.1 h1,if_neg (by omega),Qp (λb:Bad2 c w _ _=>h1 b.1)];simp only[yR,zG,if_false];rw[Q2 (by unfold B64;omega)]
theorem clB_no{c:Cat}(hc:c.Is){w:List Int}(hw:InW c w)(hl:w.length≤1048576){i:Nat}(hi:i<w.length)(h:¬∃j:Nat,0≤j∧j<w.length∧Bad2 c w (ix w i) (ix w j)):Qd (clB c w i) fuel 0=some (yT ()):=
 Q5j 0 w.length (by omega) (zV _) (λj _ hj=>by rw[Q7t hc hw hl hi hj,Qp (λb=>h ⟨j,zV _,hj,b⟩)];rfl) (by unfold clB;rw[if_neg (by omega)])
theorem clB_yes{c:Cat}(hc:c.Is){w:List Int}(hw:InW c w)(hl:w.length≤1048576){i:Nat}(hi:i<w.length)(h:∃j:Nat,0≤j∧j<w.length∧Bad2 c w (ix w i) (ix w j)):∃e,Qd (clB c w i) fuel 0=some e∧∃p:Int×Int×Bool,e=yS p∧p.2.2=true:=
 Q3Z 0 w.length _ (by omega) h (λj _ hj hp=>by rw[Q7t hc hw hl hi hj,Qp hp];rfl) λj _ hj hp=>⟨_,by rw[Q7t hc hw hl hi hj,Qu hp];rfl,_,rfl,rfl⟩
theorem e_closedI{c:Cat}(hc:c.Is){w:List Int}(hw:InW c w)(hl:w.length≤1048576):∃r,QN (wD c w)=some r∧(r.2.2=true↔¬Clo c w):=by
 have hn:=hc.nums;unfold QN;have ht:=Q7j c w;refine Q4E c.fr.length (λf:Nat=>ix c.id (ix c.fr f)=f∧¬(f:Int)∈w) (eg:=yS ()) (by omega) (λi hi hp=>?_) (λi hi hp=>?_) (by rw[if_neg (show¬((c.fr.length:Int)<((wD c w).c_.fr.length:Int)) from Int.lt_irrefl _)]) λhp=>?_
 ·have f1:=(hc.Af (f:=i) ⟨by omega,by omega⟩).2.1;rw[if_pos (show(i:Int)<((wD c w).c_.fr.length:Int) by show(i:Int)<(c.fr.length:Int);omega)];unfold Q14;show(((ass (0≤(i:Int)∧(i:Int)<(c.fr.length:Int))<|ass (0≤ix c.fr i∧ix c.fr i<(c.id.length:Int))<|some ((ix c.id (ix c.fr i))==(i:Int))).bind _).bind _)=_;rw[Q2 (by omega),Q2 (by omega)];simp only[yR]
  by_cases h1:ix c.id (ix c.fr i)=i
  ·have h2:(i:Int)∈w:=yL λq=>hp ⟨h1,q⟩;rw[if_pos (by simpa using h1),Q2 (by omega)];rw[show gx (wD c w).there_ (i:Int)=true by rw[show(wD c w).there_=Q1E w c.fr.length w.length from rfl,Q65 ⟨by omega,by omega⟩,Qu h2]];simp only[yR,Bool.not_true,zG,if_false];rw[Q2 (by unfold B64;omega)]
  rw[if_neg (by simpa using h1)];simp only[yR,zG,if_false];rw[Q2 (by unfold B64;omega)]
 ·have f1:=(hc.Af (f:=i) ⟨by omega,by omega⟩).2.1;rw[if_pos (show(i:Int)<((wD c w).c_.fr.length:Int) by show(i:Int)<(c.fr.length:Int);omega)];unfold Q14;refine⟨yT ((i:Int),(-1),true),?_,((i:Int),(-1),true),rfl,⟨λ_ hC=>?_,λ_=>rfl⟩⟩
  ·show(((ass (0≤(i:Int)∧(i:Int)<(c.fr.length:Int))<|ass (0≤ix c.fr i∧ix c.fr i<(c.id.length:Int))<|some ((ix c.id (ix c.fr i))==(i:Int))).bind _).bind _)=_;rw[Q2 (by omega),Q2 (by omega)];simp only[yR];rw[if_pos (by simpa using hp.1),Q2 (by omega)];rw[show gx (wD c w).there_ (i:Int)=false by rw[show(wD c w).there_=Q1E w c.fr.length w.length from rfl,Q65 ⟨by omega,by omega⟩,Qp hp.2]];simp
  obtain⟨k,hk⟩:=yU f1.1;have:=hC.id k (by omega);rw[←hk,hp.1]at this;exact hp.2 this
 have hid:∀x:Nat,x<c.id.length→ix c.id x∈w:=by
  intro x hx;have a:=hc.Ai (x:=x) ⟨by omega,by omega⟩;obtain⟨k,hk⟩:=yU a.1.1;refine yL λq=>hp k (by omega) ⟨?_,by rw[←hk];exact q⟩;rw[←hk,a.2.1]
 simp only;refine Q4E w.length (λi:Nat=>∃j:Nat,0≤j∧j<w.length∧Bad2 c w (ix w i) (ix w j)) (eg:=yS ()) (by omega) (λi hi hq=>?_) (λi hi hq=>?_) (by rw[if_neg (show¬((w.length:Int)<((wD c w).list_.length:Int)) from Int.lt_irrefl _)]) λhq=>?_
 ·rw[if_pos (show(i:Int)<((wD c w).list_.length:Int) by show(i:Int)<(w.length:Int);omega)];show(((ass (0≤(i:Int)∧(i:Int)<(w.length:Int))<|(Qd (clB c w i) fuel 0).bind _).bind _))=_;rw[Q2 (by omega),clB_no hc hw hl hi hq];simp only[yR];rw[Q2 (by unfold B64;omega)]
 ·rw[if_pos (show(i:Int)<((wD c w).list_.length:Int) by show(i:Int)<(w.length:Int);omega)];obtain⟨e,e1,p,rfl,e3⟩:=clB_yes hc hw hl hi hq;refine⟨yT p,?_,p,rfl,⟨λ_ hC=>?_,λ_=>e3⟩⟩
  ·show(((ass (0≤(i:Int)∧(i:Int)<(w.length:Int))<|(Qd (clB c w i) fuel 0).bind _).bind _))=_;rw[Q2 (by omega),e1];rfl
  obtain⟨j,_,hj,hb⟩:=hq;exact hb.2 (hC.cp _ (by rw[←Q16 _ _ hi];exact zY hi) _ (by rw[←Q16 _ _ hj];exact zY hj) hb.1)
 refine⟨_,rfl,⟨λh=>(by cases h),λhC=>absurd ⟨hid,λf hf g hg e=>?_⟩ hC⟩⟩;obtain⟨i,hi,rfl⟩:=zX hf;obtain⟨j,hj,rfl⟩:=zX hg;rw[Q16 _ _ hi,Q16 _ _ hj]at e⊢;exact yL λq=>hq i hi ⟨j,zV _,hj,e,q⟩
def bstC(c:Cat)(w:List Int):Nat→Int
 |0=>-1
 |i+1=>if¬ix c.id i∈w∧(bstC c w i<0∨ix c.id i<bstC c w i)then ix c.id i else bstC c w i
theorem Qa6{c:Cat}(hc:c.Is){w:List Int}:∀{i:Nat},i≤c.id.length→(bstC c w i<0↔∀x:Nat,x<i→ix c.id x∈w)
 |0,_=>by simp[bstC]
 |i+1,hi=>by
  have hn:=hc.nums;have a:=hc.Ai (x:=i) ⟨by omega,by omega⟩;have h0:0≤ix c.id i:=a.1.1;have ih:=Qa6 hc (w:=w) (i:=i) (by omega);unfold bstC
  by_cases hm:ix c.id i∈w
  ·rw[if_neg (λq=>q.1 hm),ih];exact⟨λh x hx=>by
    rcases Nat.lt_or_ge x i with q|q
    ·exact h x q
    have:x=i:=(by omega);subst this;exact hm,λh x hx=>h x (by omega)⟩
  by_cases hb:bstC c w i<0∨ix c.id i<bstC c w i
  ·rw[if_pos ⟨hm,hb⟩];exact⟨λh=>by omega,λh=>absurd (h i (by omega)) hm⟩
  rw[if_neg (λq=>hb q.2)];exact⟨λh=>absurd (.inl h) hb,λh=>absurd (h i (by omega)) hm⟩
def clS(c:Cat)(w:List Int)(s59:Int):Int→Option (Ctl Int ((Int×Int×Int)⊕Unit)):=λs77=>
 if s77<(w.length:Int)then
  (
   ass (0≤s59∧s59<(w.length:Int))<|
   ass (0≤ix w s59∧ix w s59<(c.to.length:Int))<|
   ass (0≤s77∧s77<(w.length:Int))<|
   ass (0≤ix w s77∧ix w s77<(c.fr.length:Int))<|
   if(ix c.to (ix w s59))=(ix c.fr (ix w s77))then
    ass (0≤s59∧s59<(w.length:Int))<|
    ass (0≤s77∧s77<(w.length:Int))<|
    (Qs c (ix w s59) (ix w s77)).bind λv87=>
    (Q15 w v87).bind λv88=>
    some (!v88)
   else
    some false:Option (Bool)).bind λb79=>
  if b79=true then
   ass (0≤s59∧s59<(w.length:Int))<|
   ass (0≤s77∧s77<(w.length:Int))<|
   some (yK (yS (1,ix w s59,ix w s77)))
  else
   ass (B64 (s77+1))<|
   some (yM (s77+1))
 else
  some (yK (yT ()))
theorem Q7u{c:Cat}(hc:c.Is){w:List Int}(hw:InW c w)(hl:w.length≤1048576){i j:Nat}(hi:i<w.length)(hj:j<w.length):
  clS c w i j=if bo (Bad2 c w (ix w i) (ix w j))=true then some (.ret (yS (1,ix w i,ix w j)))else some (.next ((j:Int)+1)):=by
 have hn:=hc.nums;have a1:=hw.at hi;have a2:=hw.at hj;unfold clS;rw[if_pos (by omega),Q2 (by omega),Q2 (by omega),Q2 (by omega),Q2 (by omega)]
 by_cases h1:ix c.to (ix w i)=ix c.fr (ix w j)
 ·rw[if_pos h1,Q2 (by omega),Q2 (by omega),(Q1o hc a1 a2).1];simp only[yR,Q15]
  by_cases h2:ix (rx c.cs (ix w i)) (ix w j)∈w
  ·rw[Qu h2,Qp (λb:Bad2 c w _ _=>b.2 h2)];simp only[Bool.not_true,zG,if_false];rw[Q2 (by unfold B64;omega)]
  rw[Qp h2,Qu (show Bad2 c w _ _ from⟨h1,h2⟩)];simp only[Bool.not_false,if_true];rw[Q2 (by omega),Q2 (by omega)]
 rw[if_neg h1,Qp (λb:Bad2 c w _ _=>h1 b.1)];simp only[yR,zG,if_false];rw[Q2 (by unfold B64;omega)]
theorem clS_no{c:Cat}(hc:c.Is){w:List Int}(hw:InW c w)(hl:w.length≤1048576){i:Nat}(hi:i<w.length)(h:¬∃j:Nat,0≤j∧j<w.length∧Bad2 c w (ix w i) (ix w j)):Qd (clS c w i) fuel 0=some (yT ()):=
 Q5j 0 w.length (by omega) (zV _) (λj _ hj=>by rw[Q7u hc hw hl hi hj,Qp (λb=>h ⟨j,zV _,hj,b⟩)];rfl) (by unfold clS;rw[if_neg (by omega)])
theorem clS_yes{c:Cat}(hc:c.Is){w:List Int}(hw:InW c w)(hl:w.length≤1048576){i:Nat}(hi:i<w.length)(h:∃j:Nat,0≤j∧j<w.length∧Bad2 c w (ix w i) (ix w j)):∃e,Qd (clS c w i) fuel 0=some e∧∃p:Int×Int×Int,e=yS p∧p.1=1:=
 Q3Z 0 w.length _ (by omega) h (λj _ hj hp=>by rw[Q7u hc hw hl hi hj,Qp hp];rfl) λj _ hj hp=>⟨_,by rw[Q7u hc hw hl hi hj,Qu hp];rfl,_,rfl,rfl⟩
theorem e_closedS{c:Cat}(hc:c.Is){w:List Int}(hw:InW c w)(hl:w.length≤1048576):∃r,Q2j c w=some r∧(r.1=0↔Clo c w):=by
 have hn:=hc.nums;unfold Q2j;rw[show∀(K:Int→Option (Int×Int×Int)) (B:Int×Int→Option (Ctl (Int×Int) Int)),(∀i:Nat,i<c.id.length→B (bstC c w i,(i:Int))=some (.next (bstC c w (i+1),(i:Int)+1)))→B (bstC c w c.id.length,(c.id.length:Int))=some (.ret (bstC c w c.id.length))→(Qd B fuel (-1,0)).bind K=K (bstC c w c.id.length) from λK B h1 h2=>Q11 c.id.length (bstC c w) rfl (by omega) h1 h2 rfl];rotate_left
 ·intro i hi;have a:=hc.Ai (x:=i) ⟨by omega,by omega⟩;simp only;rw[if_pos (by omega),Q2 (by omega)];simp only[yR,Q15];rw[show bstC c w (i+1)=if¬ix c.id i∈w∧(bstC c w i<0∨ix c.id i<bstC c w i)then ix c.id i else bstC c w i from rfl]
  by_cases hm:ix c.id i∈w
  ·rw[Qu hm,if_neg (by simp),if_neg (λq=>q.1 hm)];simp only[yR,zG,if_false];rw[Q2 (by unfold B64;omega)]
  rw[Qp hm,if_pos (by simp)]
  by_cases hb:bstC c w i<0
  ·rw[if_pos hb,if_pos ⟨hm,.inl hb⟩];simp only[yR,if_true];rw[Q2 (by omega)];simp only[yR];rw[Q2 (by unfold B64;omega)]
  rw[if_neg hb,Q2 (by omega)]
  by_cases h2:ix c.id i<bstC c w i
  ·rw[if_pos ⟨hm,.inr h2⟩];simp only[yR,h2,decide_true,if_true];rw[Q2 (by omega)];simp only[yR];rw[Q2 (by unfold B64;omega)]
  rw[if_neg (λq=>q.2.elim hb h2)];simp only[yR,h2,decide_false,zG,if_false];rw[Q2 (by unfold B64;omega)]
 ·simp only;rw[if_neg (by omega)]
 have hb:=Qa6 hc (w:=w) (qE _)
 by_cases h0:bstC c w c.id.length<0
 case neg=>
  rw[if_pos (by omega)];exact⟨_,rfl,⟨λh=>by simp at h,λhC=>absurd (hb.2 λx hx=>hC.id x hx) h0⟩⟩
 rw[if_neg (by omega)];have hid:=hb.1 h0;refine Q4E w.length (λi:Nat=>∃j:Nat,0≤j∧j<w.length∧Bad2 c w (ix w i) (ix w j)) (eg:=yS ()) (by omega) (λi hi hq=>?_) (λi hi hq=>?_) (by rw[if_neg (Int.lt_irrefl _)]) λhq=>?_
 ·rw[if_pos (by omega)];show(((Qd (clS c w i) fuel 0).bind _).bind _)=_;rw[clS_no hc hw hl hi hq];simp only[yR];rw[Q2 (by unfold B64;omega)]
 ·rw[if_pos (by omega)];obtain⟨e,e1,p,rfl,e3⟩:=clS_yes hc hw hl hi hq;refine⟨yT p,?_,p,rfl,⟨λh=>by omega,λhC=>?_⟩⟩
  ·show(((Qd (clS c w i) fuel 0).bind _).bind _)=_;rw[e1];rfl
  obtain⟨j,_,hj,hb⟩:=hq;exact absurd (hC.cp _ (by rw[←Q16 _ _ hi];exact zY hi) _ (by rw[←Q16 _ _ hj];exact zY hj) hb.1) hb.2
 refine⟨_,rfl,⟨λ_=>⟨hid,λf hf g hg e=>?_⟩,λ_=>rfl⟩⟩;obtain⟨i,hi,rfl⟩:=zX hf;obtain⟨j,hj,rfl⟩:=zX hg;rw[Q16 _ _ hi,Q16 _ _ hj]at e⊢;exact yL λq=>hq i hi ⟨j,zV _,hj,e,q⟩
end
attribute [local simp] unk unA unE unT unC flat eL eI Qh QI Qz Cat.cells XD.cells
def QS(w_:XD)(f_:Int)(v_:Int):Option (Int×Int×Bool):=
 (Qd (σ:=Int) (ε:=Int×Int×Bool) (λs38=>
  if s38=w_.c_.n then
   some (yK (0,0,false))
  else
   ass (0≤f_∧f_<(w_.c_.fr.length:Int))<|
   (QA w_.c_ s38 (ix w_.c_.fr f_)).bind λv41=>
   ass (0≤v_∧v_<(w_.c_.fr.length:Int))<|
   (QA w_.c_ s38 (ix w_.c_.fr v_)).bind λv43=>
   ass (B64 (s38+1))<|
   (Qd (σ:=Int×Int) (ε:=Int⊕(Int×Int×Bool)) (λs59=>
    if s59.1=(v41.length:Int)then
     some (yK (yS (s38+1)))
    else
     (
      if s59.2=(v43.length:Int)then
       some true
      else
       ass (0≤s59.1∧s59.1<(v41.length:Int))<|
       ass (0≤ix v41 s59.1∧ix v41 s59.1<(w_.there_.length:Int))<|
       some (!(gx w_.there_ (ix v41 s59.1))):Option (Bool)).bind λb61=>
     if b61=true then
      ass (B64 (s59.1+1))<|
      some (yM (s59.1+1,0))
     else
      ass (0≤s59.1∧s59.1<(v41.length:Int))<|
      (Qn w_.c_ (ix v41 s59.1) f_).bind λv68=>
      ass (0≤s59.2∧s59.2<(v43.length:Int))<|
      (Qn w_.c_ (ix v43 s59.2) v_).bind λv70=>
      if v68=v70 then
       ass (0≤s59.1∧s59.1<(v41.length:Int))<|
       ass (0≤s59.2∧s59.2<(v43.length:Int))<|
       some (yK (yT (ix v41 s59.1,ix v43 s59.2,true)))
      else
       ass (B64 (s59.2+1))<|
       some (yM (s59.1,s59.2+1))) fuel (0,0)).bind λe59=>
   match e59 with
   | .inl p59=>
    some (yM p59)
   | .inr p59=>
    some (yK p59)) fuel 0).bind λp38=>
 some p38
@[simp] abbrev YE(a b:Int)(c:XD)(d:List (Nat×AV)):List (Nat×AV):=(1,iV a)::(2,iV b)::(9,.rptr (Cat.cells true c.c_))::d
@[simp] abbrev YO(a b:List Int)(c:List (Nat×AV)):List (Nat×AV):=(13,.own 0 0 a.length)::(14,.own 1 0 b.length)::c
theorem Q2n(w_:XD)(f_:Int)(v_:Int)(r:Int×Int×Bool)(h:QS w_ f_ v_=some r):Contract Tryz.prog 69 [.rptr (w_.cells true),iV f_,iV v_] (.tup [iV r.1,iV r.2.1,.val (.bool r.2.2)]):=by
 refine Q9 (rvs:=[.tmp 6,.tmp 7,.tmp 8]) (rs:=[iV r.1,iV r.2.1,.val (.bool r.2.2)]) Tryz.func69 rfl rfl rfl rfl (by simp[Tryz.f69]) λF hN hP=>?_;unfold QS at h;refine Q0 (runQ hN λK hK=>?_);simp;repeat refine sdQ ?_
 refine hK _ (tn (Q4 (st':=⟨Y0 w_ (YV f_ v_ []),[],0⟩) (wkQ []) (w_scopeG λR1 H1=>?_)));clear hK K;refine Q0 (runQ hN λK hK=>?_);simp;repeat refine sdQ ?_
 refine hK _ ?_;clear hK K;refine tn (Q4 (st':=⟨Y0 w_ (YE f_ v_ w_ []),[],0⟩) (wkQ []) (Q0 (runQ hN λK hK=>?_)));simp;repeat refine sdQ ?_
 refine hK _ ?_;clear hK K;refine tn (Q4 (st':=⟨Y0 w_ (YE f_ v_ w_ [(10,iV 0)]),[],0⟩) (wkQ []) (Q0 (runQ hN λK hK=>?_)));simp;repeat refine sdQ ?_
 refine hK _ (tn (Q4 (st':=⟨Y0 w_ (YE f_ v_ w_ [(10,iV 0)]),[],0⟩) (wkQ []) (Q0 (w_label (tn ?_)))));clear hK K;replace⟨e38,he38,h38⟩:=bind_some h;refine QaT (l:=0) H1 (by rfl) he38 (λs38:Int=>⟨Y0 w_ (YE f_ v_ w_ [(10,iV s38)]),[],0⟩) (wkQ []) ?_;intro k38 s38 c38 h hk38 ir38;refine Q0 (Q0 (runQ hN λK hK=>?_));simp;repeat refine sdQ ?_
 refine hK _ ?_;clear hK K;refine tn (Q6 rfl (λg=>?_) λg=>?_)
 ·have g39:s38=w_.c_.n:=gQ;clear g;replace h:=if_l g39 h;refine Q0 (runQ hN λK hK=>?_);simp;repeat refine sdQ ?_
  refine hK _ (tn (Q4 (st':=⟨[(6,iV 0),(7,iV 0),(8,.val (.bool false))],[],0⟩) (wkQ []) (Qi (tr (gar ?_)))));clear hK K;cases h;have q:_=e38:=hk38;have h:=h38;rw[←q]at h;clear q;try dsimp only at h
  have hr:=yJ h;rw[←hr];refine⟨_,(.tmp (.tmp (.tmp .nil))),?_⟩;refine⟨(.one rfl rfl (.one rfl rfl (.one rfl rfl .nil))),[iV 0,iV 0,.val (.bool false)],[],by simp[BN],by simp,(yN _)⟩
 have g39:¬(s38=w_.c_.n):=gQ;clear g;replace h:=if_r g39 h;refine Q7 (tn (Q0 (runQ hN λK hK=>?_)));replace⟨a40,h⟩:=Q1 h;simp[at_I a40];repeat with_reducible refine sdQ ?_
 replace⟨v41,hv41,h⟩:=bind_some h;refine Q3 (Q1K _ _ _ v41 hv41) (.cons (.preT (by simp[CN])) (.cons .val (.cons .val .nil))) ?_;replace⟨a42,h⟩:=Q1 h;simp[at_I a40,at_I a42];repeat with_reducible refine sdQ ?_
 replace⟨v43,hv43,h⟩:=bind_some h;refine Q3 (Q1K _ _ _ v43 hv43) (.cons (.preT (by simp[CN])) (.cons .val (.cons .val .nil))) ?_;simp[at_I a40,at_I a42];repeat refine sdQ ?_
 refine hK _ ?_;clear hK K;refine tn (Q4 (st':=⟨Y0 w_ (YE f_ v_ w_ ((10,iV s38)::YO v41 v43 [])),[(0,rI v41),(1,rI v43)],2⟩) (wkQ [(0,0),(1,1)]) (Q0 (runQ hN λK hK=>?_)));replace⟨a44,h⟩:=Q1 h;simp[Qg a44];repeat refine sdQ ?_
 refine hK _ ?_;clear hK K;refine tn (Q4 (st':=⟨Y0 w_ (YE f_ v_ w_ ((10,iV (s38+1))::YO v41 v43 [])),[(0,rI v41),(1,rI v43)],2⟩) (wkQ [(0,0),(1,1)]) (Q0 (runQ hN λK hK=>?_)));simp;repeat refine sdQ ?_
 refine hK _ (tn (Q4 (st':=⟨Y0 w_ (YE f_ v_ w_ ((10,iV (s38+1))::(11,iV 0)::(12,iV 0)::YO v41 v43 [])),[(0,rI v41),(1,rI v43)],2⟩) (wkQ [(0,0),(1,1)]) (Q0 (w_label (tn ?_)))));clear hK K;replace⟨e59,he59,h59⟩:=bind_some h;refine QaT (l:=1) H1 (by rfl) he59 (λs59:Int×Int=>⟨Y0 w_ (YE f_ v_ w_ ((10,iV (s38+1))::(11,iV s59.1)::(12,iV s59.2)::YO v41 v43 [])),[(0,rI v41),(1,rI v43)],2⟩) (wkQ [(0,0),(1,1)]) ?_;intro k59 s59 c59 h hk59 ir59;refine Q0 (Q0 (runQ hN λK hK=>?_));simp;repeat refine sdQ ?_
 refine hK _ ?_;clear hK K;refine tn (Q6 rfl (λg=>?_) λg=>?_)
 ·have g60:s59.1=(v41.length:Int):=gQ;clear g;replace h:=if_l g60 h;refine w_goto ?_;cases h;have q:_=e59:=hk59;have h:=h59;rw[←q]at h;clear q;try dsimp only at h
  cases h;exact ir38 (s38+1) _ hk38 (wkQ [])
 have g60:¬(s59.1=(v41.length:Int)):=gQ;clear g;replace h:=if_r g60 h;refine Q7 (tn (Q0 (Q0 ?_)));replace⟨e61,h,h61⟩:=bind_some h;refine Qc (λb61:Bool=>⟨Y0 w_ (YE f_ v_ w_ ((10,iV (s38+1))::(11,iV s59.1)::(12,iV s59.2)::YO v41 v43 [(69,.val (.bool b61))])),[(0,rI v41),(1,rI v43)],2⟩) (λb61=>b61=e61) ?_ ?_
 ·refine runQ hN λK hK=>?_;simp;repeat with_reducible refine sdQ ?_
  refine Qv (λg=>?_) (λg=>?_)
  ·have g62:¬(s59.2=(v43.length:Int)):=gQ;clear g;replace h:=if_r g62 h;replace⟨a63,h⟩:=Q1 h;replace⟨a64,h⟩:=Q1 h;simp[at_I a63,at_B a64];(repeat refine sdQ ?_);refine hK _ ?_;exact jn (b:=!(gx w_.there_ (ix v41 s59.1))) (yJ h) (wkQ [(0,0),(1,1)])
  have g62:s59.2=(v43.length:Int):=gQ;clear g;replace h:=if_l g62 h;simp;repeat refine sdQ ?_
  refine hK _ ?_;exact jn (b:=true) (yJ h) (wkQ [(0,0),(1,1)])
 intro b61 hb61;have h:=h61;try rw[←hb61]at h
 clear h61;try dsimp only at h
 refine Q6 rfl (λg=>?_) λg=>?_
 ·have g65:b61=true:=gQ;clear g;replace h:=if_l g65 h;refine Q0 (runQ hN λK hK=>?_);replace⟨a66,h⟩:=Q1 h;simp[Qg a66];repeat refine sdQ ?_
  refine hK _ ?_;clear hK K;refine tn (Q4 (st':=⟨Y0 w_ (YE f_ v_ w_ ((10,iV (s38+1))::(11,iV (s59.1+1))::YO v41 v43 [])),[(0,rI v41),(1,rI v43)],2⟩) (wkQ [(0,0),(1,1)]) (Q0 (runQ hN λK hK=>?_)));simp;repeat refine sdQ ?_
  refine hK _ (tn (Q4 (st':=⟨Y0 w_ (YE f_ v_ w_ ((10,iV (s38+1))::(11,iV (s59.1+1))::(12,iV 0)::YO v41 v43 [])),[(0,rI v41),(1,rI v43)],2⟩) (wkQ [(0,0),(1,1)]) (w_goto ?_)));clear hK K;cases h;exact ir59 (s59.1+1,0) _ hk59 (wkQ [(0,0),(1,1)])
 have g65:¬(b61=true):=gQ;clear g;replace h:=if_r g65 h;refine Q7 (tn (Q0 (Q0 (runQ hN λK hK=>?_))));replace⟨a67,h⟩:=Q1 h;simp[at_I a67];repeat with_reducible refine sdQ ?_
 replace⟨v68,hv68,h⟩:=bind_some h;refine Q3 (QF _ _ _ v68 hv68) (.cons (.preT (by simp[CN])) (.cons .val (.cons .val .nil))) ?_;replace⟨a69,h⟩:=Q1 h;simp[at_I a67,at_I a69];repeat with_reducible refine sdQ ?_
 replace⟨v70,hv70,h⟩:=bind_some h;refine Q3 (QF _ _ _ v70 hv70) (.cons (.preT (by simp[CN])) (.cons .val (.cons .val .nil))) ?_;simp[at_I a67,at_I a69];repeat refine sdQ ?_
 refine hK _ ?_;clear hK K;refine tn (Q4 (st':=⟨Y0 w_ (YE f_ v_ w_ ((10,iV (s38+1))::(11,iV s59.1)::(12,iV s59.2)::YO v41 v43 [(86,.val (.bool (v68==v70)))])),[(0,rI v41),(1,rI v43)],2⟩) (wkQ [(0,0),(1,1)]) (Q6 rfl (λg=>?_) λg=>?_))
 ·have g71:v68=v70:=gQ;clear g;replace h:=if_l g71 h;refine Q0 (runQ hN λK hK=>?_);replace⟨a72,h⟩:=Q1 h;replace⟨a73,h⟩:=Q1 h;simp[at_I a72,at_I a73];repeat refine sdQ ?_
  refine hK _ (tn (Q4 (st':=⟨[(6,iV (ix v41 s59.1)),(7,iV (ix v43 s59.2)),(8,.val (.bool true))],[],0⟩) (wkQ []) (Qi (tr (gar ?_)))));clear hK K;cases h;have q:_=e59:=hk59;have h:=h59;rw[←q]at h;clear q;try dsimp only at h
  cases h;have q:_=e38:=hk38;have h:=h38;rw[←q]at h;clear q;try dsimp only at h
  have hr:=yJ h;rw[←hr];refine⟨_,(.tmp (.tmp (.tmp .nil))),?_⟩;refine⟨(.one rfl rfl (.one rfl rfl (.one rfl rfl .nil))),[iV (ix v41 s59.1),iV (ix v43 s59.2),.val (.bool true)],[],by simp[BN],by simp,(yN _)⟩
 have g71:¬(v68=v70):=gQ;clear g;replace h:=if_r g71 h;refine Q7 (tn (Q0 (runQ hN λK hK=>?_)));replace⟨a74,h⟩:=Q1 h;simp[Qg a74];repeat refine sdQ ?_
 refine hK _ (tn (Q4 (st':=⟨Y0 w_ (YE f_ v_ w_ ((10,iV (s38+1))::(11,iV s59.1)::(12,iV (s59.2+1))::YO v41 v43 [])),[(0,rI v41),(1,rI v43)],2⟩) (wkQ [(0,0),(1,1)]) (w_goto ?_)));clear hK K;cases h;exact ir59 (s59.1,s59.2+1) _ hk59 (wkQ [(0,0),(1,1)])
end Go.Vc.T
