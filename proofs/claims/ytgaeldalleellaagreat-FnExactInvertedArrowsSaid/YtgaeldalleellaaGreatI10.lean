/- A part of the proof. -/
import Derived.Test.YtgaeldalleellaaGreatI9
set_option maxRecDepth 100000
set_option maxHeartbeats 4000000
set_option linter.unusedSimpArgs false
set_option linter.unusedVariables false
set_option linter.unusedSectionVars false
set_option linter.unnecessarySimpa false

open Option renaming bind_some→yR
open Option.some renaming inj→yJ
open Sum renaming inl→yS
open Go.Vc.Ctl renaming ret→yK
open Classical renaming byContradiction→yL
open Go.Vc.Ctl renaming next→yM
open Sum renaming inr→yT
open Bool renaming false_eq_true→zG
open Go.Vc.UpL renaming refl→yN
open Nat renaming zero_le→zV
open List renaming getElem_of_mem→zX
open List renaming getElem_mem→zY
open Bool renaming not_true→yY
noncomputable section
namespace Go.Vc.T
open Go Go.Vc Go.Proofs
attribute [local simp] unk unA unE unT unC flat eL eI Qh QI Cat.cells
def Q1c(c_:Cat)(w_:List Int)(f_:Int)(v_:Int):Option (Int×Int×Int×Bool):=
 (Qd (σ:=Int) (ε:=Unit⊕(Int×Int×Int×Bool)) (λs70=>
  if s70<c_.n then
   (
    ass (0≤f_∧f_<(c_.fr.length:Int))<|
    (Q1b c_ s70 (ix c_.fr f_)).bind λv74=>
    ass (0≤v_∧v_<(c_.fr.length:Int))<|
    (Q1b c_ s70 (ix c_.fr v_)).bind λv76=>
    (Qd (σ:=Int) (ε:=(Int×Int×Int×Bool)⊕Unit) (λs107=>
     if s107<(v74.length:Int)then
      (
       (Qd (σ:=Int) (ε:=(Int×Int×Int×Bool)⊕Unit) (λs123=>
        if s123<(v76.length:Int)then
         (
          ass (0≤s107∧s107<(v74.length:Int))<|
          (Q15 w_ (ix v74 s107)).bind λv127=>
          if v127=true then
           ass (0≤s107∧s107<(v74.length:Int))<|
           (Qs c_ (ix v74 s107) f_).bind λv130=>
           ass (0≤s123∧s123<(v76.length:Int))<|
           (Qs c_ (ix v76 s123) v_).bind λv132=>
           some (v130==v132)
          else
           some false:Option (Bool)).bind λb125=>
         if b125=true then
          ass (0≤s107∧s107<(v74.length:Int))<|
          ass (0≤s123∧s123<(v76.length:Int))<|
          some (yK (yS (s70,ix v74 s107,ix v76 s123,true)))
         else
          ass (B64 (s123+1))<|
          some (yM (s123+1))
        else
         some (yK (yT ()))) fuel 0).bind λe123=>
       match e123 with
       | .inl p123=>
        some (yT p123)
       | .inr p123=>
        some (yS p123):Option (Unit⊕(Int×Int×Int×Bool))).bind λe109=>
      match e109 with
      | .inl b109=>
       ass (B64 (s107+1))<|
       some (yM (s107+1))
      | .inr p109=>
       some (yK (yS p109))
     else
      some (yK (yT ()))) fuel 0).bind λe107=>
    match e107 with
    | .inl p107=>
     some (yT p107)
    | .inr p107=>
     some (yS p107):Option (Unit⊕(Int×Int×Int×Bool))).bind λe72=>
   match e72 with
   | .inl b72=>
    ass (B64 (s70+1))<|
    some (yM (s70+1))
   | .inr p72=>
    some (yK (yT p72))
  else
   some (yK (yS ()))) fuel 0).bind λe1=>
 match e1 with
 | .inl b1=>
  some (0,0,0,false)
 | .inr p1=>
  some p1
@[simp] abbrev Yl(a:List Int)(b c:Int)(d:List (Nat×AV)):List (Nat×AV):=(1,lI a)::(2,iV b)::(3,iV c)::(4,.adr 0 0 0)::d
@[simp] abbrev YU(a:Int)(b c:List Int)(d:List (Nat×AV)):List (Nat×AV):=(12,iV a)::(13,.own 1 0 b.length)::(14,.own 2 0 c.length)::d
theorem Q58(c_:Cat)(w_:List Int)(f_:Int)(v_:Int)(r:Int×Int×Int×Bool)(h:Q1c c_ w_ f_ v_=some r):Contract Tryz.prog 56 (Y0u c_ [lI w_,iV f_,iV v_]) (.tup [iV r.1,iV r.2.1,iV r.2.2.1,.val (.bool r.2.2.2)]):=by
 refine Q9 (rvs:=[.tmp 8,.tmp 9,.tmp 10,.tmp 11]) (rs:=[iV r.1,iV r.2.1,iV r.2.2.1,.val (.bool r.2.2.2)]) Tryz.func56 rfl rfl rfl rfl (by simp[Tryz.f56]) λF hN hP=>?_;unfold Q1c at h;refine Q0 (runQ hN λK hK=>?_);simp;repeat refine sdQ ?_
 refine hK _ ?_;clear hK K;refine tn (Q4 (st':=⟨Yl w_ f_ v_ [],Y6 c_ [],1⟩) (wkQ [(0,0)]) (Q0 (Q0 (runQ hN λK hK=>?_))));simp;repeat refine sdQ ?_
 refine hK _ (tn (Q4 (st':=⟨Yl w_ f_ v_ [(12,iV 0)],Y6 c_ [],1⟩) (wkQ [(0,0)]) ?_));clear hK K;replace⟨e1,h,h1⟩:=bind_some h;refine Qc (λb1:Unit=>⟨[],[],0⟩) (λb1=>yS b1=e1) ?_ ?_
 ·refine Q5 (Qm h (λs70:Int=>⟨Yl w_ f_ v_ [(12,iV s70)],Y6 c_ [],1⟩) (wkQ [(0,0)]) ?_);clear h;intro k70 s70 c70 h hk70;refine Q0 (Q0 (runQ hN λK hK=>?_));simp;repeat refine sdQ ?_
  refine hK _ ?_;clear hK K;refine tn (Q6 rfl (λg=>?_) λg=>?_)
  ·have g71:s70<c_.n:=gQ;clear g;replace h:=if_l g71 h;refine Q7 (tn (Q0 ?_));replace⟨e72,h,h72⟩:=bind_some h;refine Qc (λb72:Unit=>⟨Yl w_ f_ v_ [(12,iV s70)],Y6 c_ [],1⟩) (λb72=>yS b72=e72) ?_ ?_
   ·refine Q5 (Q0 (runQ hN λK hK=>?_));replace⟨a73,h⟩:=Q1 h;simp[at_I a73];(repeat with_reducible refine sdQ ?_);replace⟨v74,hv74,h⟩:=bind_some h;refine Q3 (Q2z _ _ _ v74 hv74) (.cons (.aggL (.cons .val (.cons .lst (.cons .lst (.cons .lst (.cons .lst .nil)))))) (.cons .val (.cons .val .nil))) ?_;replace⟨a75,h⟩:=Q1 h;simp[at_I a73,at_I a75];(repeat with_reducible refine sdQ ?_);replace⟨v76,hv76,h⟩:=bind_some h;refine Q3 (Q2z _ _ _ v76 hv76) (.cons (.aggL (.cons .val (.cons .lst (.cons .lst (.cons .lst (.cons .lst .nil)))))) (.cons .val (.cons .val .nil))) ?_;simp[at_I a73,at_I a75];(repeat refine sdQ ?_);refine hK _ ?_;clear hK K;refine tn (Q4 (st':=⟨Yl w_ f_ v_ (YU s70 v74 v76 []),Y6 c_ [(1,rI v74),(2,rI v76)],3⟩) (wkI 3) (Q0 (runQ hN λK hK=>?_)));simp;(repeat refine sdQ ?_);refine hK _ (tn (Q4 (st':=⟨Yl w_ f_ v_ (YU s70 v74 v76 [(15,iV 0)]),Y6 c_ [(1,rI v74),(2,rI v76)],3⟩) (wkI 3) (Q5 ?_)));clear hK K;replace⟨e107,he107,h107⟩:=bind_some h;refine Qm he107 (λs107:Int=>⟨Yl w_ f_ v_ (YU s70 v74 v76 [(15,iV s107)]),Y6 c_ [(1,rI v74),(2,rI v76)],3⟩) (wkI 3) ?_;intro k107 s107 c107 h hk107;refine Q0 (Q0 (runQ hN λK hK=>?_));simp;(repeat refine sdQ ?_);refine hK _ ?_;clear hK K;refine tn (Q6 rfl (λg=>?_) λg=>?_)
    ·have g108:s107<(v74.length:Int):=gQ;clear g;replace h:=if_l g108 h;refine Q7 (tn (Q0 ?_));replace⟨e109,h,h109⟩:=bind_some h;refine Qc (λb109:Unit=>⟨Yl w_ f_ v_ (YU s70 v74 v76 [(15,iV s107)]),Y6 c_ [(1,rI v74),(2,rI v76)],3⟩) (λb109=>yS b109=e109) ?_ ?_
     ·refine Q5 (Q0 (runQ hN λK hK=>?_));simp;(repeat refine sdQ ?_);refine hK _ (tn (Q4 (st':=⟨Yl w_ f_ v_ (YU s70 v74 v76 [(15,iV s107),(16,iV 0)]),Y6 c_ [(1,rI v74),(2,rI v76)],3⟩) (wkI 3) (Q5 ?_)));clear hK K;replace⟨e123,he123,h123⟩:=bind_some h;refine Qm he123 (λs123:Int=>⟨Yl w_ f_ v_ (YU s70 v74 v76 [(15,iV s107),(16,iV s123)]),Y6 c_ [(1,rI v74),(2,rI v76)],3⟩) (wkI 3) ?_;intro k123 s123 c123 h hk123;refine Q0 (Q0 (runQ hN λK hK=>?_));simp;(repeat refine sdQ ?_);refine hK _ ?_;clear hK K;refine tn (Q6 rfl (λg=>?_) λg=>?_)
      ·have g124:s123<(v76.length:Int):=gQ;clear g;replace h:=if_l g124 h;refine Q7 (tn (Q0 (Q5 (Q0 ?_))));replace⟨e125,h,h125⟩:=bind_some h;refine Qc (λb125:Bool=>⟨Yl w_ f_ v_ (YU s70 v74 v76 [(15,iV s107),(16,iV s123),(73,.val (.bool b125))]),Y6 c_ [(1,rI v74),(2,rI v76)],3⟩) (λb125=>b125=e125) ?_ ?_
       ·refine runQ hN λK hK=>?_;replace⟨a126,h⟩:=Q1 h;simp[at_I a126];(repeat with_reducible refine sdQ ?_);replace⟨v127,hv127,h⟩:=bind_some h;refine Q3 (Q3I _ _ v127 hv127) (.cons .lst (.cons .val .nil)) ?_;simp[at_I a126];(repeat with_reducible refine sdQ ?_);refine Qv (λg=>?_) (λg=>?_)
        ·have g128:v127=true:=gQ;clear g;replace h:=if_l g128 h;replace⟨a129,h⟩:=Q1 h;simp[at_I a126,at_I a129];(repeat with_reducible refine sdQ ?_);replace⟨v130,hv130,h⟩:=bind_some h;refine Q3 (QZ _ _ _ v130 hv130) (.cons (.aggL (.cons .val (.cons .lst (.cons .lst (.cons .lst (.cons .lst .nil)))))) (.cons .val (.cons .val .nil))) ?_;replace⟨a131,h⟩:=Q1 h;simp[at_I a126,at_I a129,at_I a131];(repeat with_reducible refine sdQ ?_);replace⟨v132,hv132,h⟩:=bind_some h;refine Q3 (QZ _ _ _ v132 hv132) (.cons (.aggL (.cons .val (.cons .lst (.cons .lst (.cons .lst (.cons .lst .nil)))))) (.cons .val (.cons .val .nil))) ?_;simp[at_I a126,at_I a129,at_I a131];(repeat refine sdQ ?_);refine hK _ ?_;exact jn (b:=v130==v132) (yJ h) (wkI 3)
        have g128:¬(v127=true):=gQ;clear g;replace h:=if_r g128 h;simp[at_I a126];(repeat refine sdQ ?_);refine hK _ ?_;exact jn (b:=false) (yJ h) (wkI 3)
       intro b125 hb125;have h:=h125;(try rw[←hb125]at h);clear h125;(try dsimp only at h);refine Q6 rfl (λg=>?_) λg=>?_
       ·have g133:b125=true:=gQ;clear g;replace h:=if_l g133 h;refine Q0 (runQ hN λK hK=>?_);replace⟨a134,h⟩:=Q1 h;replace⟨a135,h⟩:=Q1 h;simp[at_I a134,at_I a135];(repeat refine sdQ ?_);refine hK _ (tn (Q4 (st':=⟨[(8,iV s70),(9,iV (ix v74 s107)),(10,iV (ix v76 s123)),(11,.val (.bool true))],[],0⟩) (wkQ []) (Qi (br (tr (lr (br (br (tr (lr (br (br (tr (lr (br (tr ?_))))))))))))))));clear hK K;cases h;have q:_=e123:=hk123;have h:=h123;rw[←q]at h;clear q;(try dsimp only at h);cases h;have h:=h109;(try dsimp only at h);cases h;have q:_=e107:=hk107;have h:=h107;rw[←q]at h;clear q;(try dsimp only at h);cases h;have h:=h72;(try dsimp only at h);cases h;have q:_=e1:=hk70;have h:=h1;rw[←q]at h;clear q;(try dsimp only at h);have hr:=yJ h;rw[←hr];refine⟨_,(.tmp (.tmp (.tmp (.tmp .nil)))),?_⟩;refine⟨(.one rfl rfl (.one rfl rfl (.one rfl rfl (.one rfl rfl .nil)))),[iV s70,iV (ix v74 s107),iV (ix v76 s123),.val (.bool true)],[],by simp[BN],by simp,(yN _)⟩
       have g133:¬(b125=true):=gQ;clear g;replace h:=if_r g133 h;refine Q7 (bn (tn (runQ hN λK hK=>?_)));replace⟨a136,h⟩:=Q1 h;simp[Qg a136];(repeat refine sdQ ?_);refine hK _ ?_;clear hK K;cases h;exact rn (s':=s123+1) hk123 (wkI 3)
      have g124:¬(s123<(v76.length:Int)):=gQ;clear g;replace h:=if_r g124 h;refine Qj (tx (lx (bh (bn ?_))));cases h;have q:_=e123:=hk123;have h:=h123;rw[←q]at h;clear q;(try dsimp only at h);exact jn (b:=()) (yJ h) (wkI 3)
     intro b109 hb109;have h:=h109;(try rw[←hb109]at h);clear h109;(try dsimp only at h);refine runQ hN λK hK=>?_;replace⟨a137,h⟩:=Q1 h;simp[Qg a137];(repeat refine sdQ ?_);refine hK _ ?_;clear hK K;cases h;exact rn (s':=s107+1) hk107 (wkI 3)
    have g108:¬(s107<(v74.length:Int)):=gQ;clear g;replace h:=if_r g108 h;refine Qj (tx (lx (bh (bn ?_))));cases h;have q:_=e107:=hk107;have h:=h107;rw[←q]at h;clear q;(try dsimp only at h);exact jn (b:=()) (yJ h) (wkQ [(0,0)])
   intro b72 hb72;have h:=h72;(try rw[←hb72]at h);clear h72;(try dsimp only at h);refine runQ hN λK hK=>?_;replace⟨a138,h⟩:=Q1 h;simp[Qg a138];(repeat refine sdQ ?_);refine hK _ ?_;clear hK K;cases h;exact rn (s':=s70+1) hk70 (wkQ [(0,0)])
  have g71:¬(s70<c_.n):=gQ;clear g;replace h:=if_r g71 h;refine Qj (tx (lx (bh ?_)));cases h;exact jn (b:=()) hk70 (wkQ [])
 intro b1 hb1;have h:=h1;try rw[←hb1]at h
 clear h1;try dsimp only at h
 refine Q0 (runQ hN λK hK=>?_);simp;repeat refine sdQ ?_
 refine hK _ (tn (Q4 (st':=⟨[(8,iV 0),(9,iV 0),(10,iV 0),(11,.val (.bool false))],[],0⟩) (wkQ []) (Qi ?_)));clear hK K;have hr:=yJ h;rw[←hr];refine⟨_,(.tmp (.tmp (.tmp (.tmp .nil)))),?_⟩;refine⟨(.one rfl rfl (.one rfl rfl (.one rfl rfl (.one rfl rfl .nil)))),[iV 0,iV 0,iV 0,.val (.bool false)],[],by simp[BN],by simp,(yN _)⟩
section
attribute [local simp] Qa QD Qo QM Qx
def fsN{α:Type}(n:Nat)(g:Nat→Option α):Option α:=(List.range n).findSome? g
theorem Q5Q{α:Type}{a n:Nat}(g:Nat→Option α)(h:a<n):(List.range' a (n - a)).findSome? g=(g a).or ((List.range' (a+1) (n - (a+1))).findSome? g):=by
 rw[show n - a=(n - (a+1))+1 by omega,List.range'_succ,List.findSome?_cons];cases g a<;>rfl
theorem fsN_eq{α:Type}(n:Nat)(g:Nat→Option α):fsN n g=(List.range' 0 (n - 0)).findSome? g:=by simp[fsN,List.range_eq_range']
theorem Q7G{ε α:Type}{body:Int→Option (Ctl Int ε)}(n:Nat)(g:Nat→Option α)(eb:α→ε){eg:ε}(hn:n<4611686018427387904)(h1:∀i:Nat,i<n→g i=none→body (i:Int)=some (.next ((i:Int)+1)))(h2:∀(i:Nat) (x:α),i<n→g i=some x→body (i:Int)=some (.ret (eb x)))(h3:body (n:Int)=some (.ret eg)):Qd body fuel 0=some ((fsN n g).elim eg eb):=by
 by_cases h:∀i:Nat,i<n→g i=none
 ·have:fsN n g=none:=by
   unfold fsN;rw[List.findSome?_eq_none_iff];exact λi hi=>h i (List.mem_range.1 hi)
  rw[this];exact Q5j 0 n hn (zV _) (λi _ hi=>h1 i hi (h i hi)) h3
 have hex:∃i,i<n∧g i≠none:=yL λhx=>h λi hi=>yL λhp=>hx ⟨i,hi,hp⟩;obtain⟨m,⟨hm,hp⟩,hmin⟩:∃m,(m<n∧g m≠none)∧∀k,k<m→¬(k<n∧g k≠none):=by
  obtain⟨i,hi⟩:=hex
  induction i using Nat.strongRecOn with
  |_ i ih=>
   by_cases h:∃k,k<i∧k<n∧g k≠none
   ·obtain⟨k,h1,h2⟩:=h;exact ih k h1 h2
   exact⟨i,hi,λk hk hh=>h ⟨k,hk,hh⟩⟩
 have hz:∀k,k<m→g k=none:=λk hk=>yL λq=>hmin k hk ⟨by omega,q⟩;obtain⟨x,hx⟩:=Option.ne_none_iff_exists'.1 hp;have key:∀d a,a+d=m→(List.range' a (n - a)).findSome? g=some x:=by
  intro d
  induction d with
  |zero=>
   intro a ha;have:a=m:=by omega
   subst this;rw[Q5Q g hm,hx];rfl
  |succ d ih=>intro a ha;rw[Q5Q g (by omega),hz a (by omega),ih (a+1) (by omega)];rfl
 rw[fsN_eq,key m 0 (by omega)];exact Q1d (λi:Nat=>(i:Int)) m rfl (by omega) (λi hi=>h1 i (by omega) (hz i hi)) (h2 m x hm hx)
theorem Q5i{σ ε:Type}{body:σ→Option (Ctl σ ε)}{n:Nat}{s s':σ}(h:body s=some (.next s')):Qd body (n+1) s=Qd body n s':=by rw[Qd,h]
theorem Q8P{σ ε:Type}{body:σ→Option (Ctl σ ε)}{n:Nat}{s:σ}{e:ε}(h:body s=some (.ret e)):Qd body (n+1) s=some e:=by rw[Qd,h]
theorem pair_loop{ε α:Type}{body:Int×Int→Option (Ctl (Int×Int) ε)}(n m:Nat)(ok:Nat→Prop)[DecidablePred ok](q:Nat→Nat→Option α)(eb:α→ε){eg:ε}(hN:n*(m+1)+m+2<fuel)(hskip:∀i k:Nat,i<n→k≤m→(k=m∨¬ok i)→body ((i:Int),(k:Int))=some (.next ((i:Int)+1,0)))(hnext:∀i k:Nat,i<n→k<m→ok i→q i k=none→body ((i:Int),(k:Int))=some (.next ((i:Int),(k:Int)+1)))(hret:∀(i k:Nat) (x:α),i<n→k<m→ok i→q i k=some x→body ((i:Int),(k:Int))=some (.ret (eb x)))(hend:body ((n:Int),0)=some (.ret eg)):
  Qd body fuel (0,0)=some ((fsN n λi=>if ok i then fsN m (q i)else none).elim eg eb):=by
 have rows:∀(d i:Nat),i+d=n→∀F,d*(m+1)+1≤F→Qd body F ((i:Int),0)=some (((List.range' i (n - i)).findSome? λi=>if ok i then fsN m (q i)else none).elim eg eb):=by
  intro d
  induction d with
  |zero=>
   intro i hi F hF;have:i=n:=(by omega);subst this;obtain⟨F',rfl⟩:∃F',F=F'+1:=⟨F - 1,by omega⟩;rw[Q8P hend];simp
  |succ d ih=>
   intro i hi F hF;have hin:i<n:=(by omega);have hF':d*(m+1)+1+(m+1)≤F:=(by rw[Nat.add_mul]at hF;omega);rw[Q5Q _ hin]
   by_cases hok:ok i
   ·rw[if_pos hok,fsN_eq];have row:∀(e k:Nat),k+e=m→∀F,d*(m+1)+1+(e+1)≤F→Qd body F ((i:Int),(k:Int))=some ((((List.range' k (m - k)).findSome? (q i)).or ((List.range' (i+1) (n - (i+1))).findSome? λi=>if ok i then fsN m (q i)else none)).elim eg eb):=by
     intro e
     induction e with
     |zero=>
      intro k hk F hF;have:k=m:=(by omega);subst this;obtain⟨F',rfl⟩:∃F',F=F'+1:=⟨F - 1,by omega⟩;rw[Q5i (hskip i k hin (Nat.le_refl _) (.inl rfl))];have:=ih (i+1) (by omega) F' (by omega);rw[show((i:Int)+1)=((i+1:Nat):Int) by omega,this];simp
     |succ e ihe=>
      intro k hk F hF;obtain⟨F',rfl⟩:∃F',F=F'+1:=⟨F - 1,by omega⟩;rw[Q5Q (q i) (show k<m by omega)];cases hq:q i k with
      |some x=>rw[Q8P (hret i k x hin (by omega) hok hq)];rfl
      |none=>
       rw[Q5i (hnext i k hin (by omega) hok hq),show((k:Int)+1)=((k+1:Nat):Int) by omega,ihe (k+1) (by omega) F' (by omega)];rfl
    exact row m 0 (by omega) F (by omega)
   rw[if_neg hok];obtain⟨F',rfl⟩:∃F',F=F'+1:=⟨F - 1,by omega⟩;rw[show((0:Int))=((0:Nat):Int) from rfl,Q5i (hskip i 0 hin (zV _) (.inr hok))];have:=ih (i+1) (by omega) F' (by omega);rw[show((i:Int)+1)=((i+1:Nat):Int) by omega,this];rfl
 rw[fsN_eq];exact rows n 0 (by omega) fuel (by omega)
def sqR(c:Cat)(w:List Int)(f v:Int)(u:Nat):Option (Int×Int×Int):=
 open Classical in
 fsN (homL c u (ix c.fr f)).length λi=>if ix (homL c u (ix c.fr f)) i∈w then fsN (homL c u (ix c.fr v)).length λk=>if ix (rx c.cs (ix (homL c u (ix c.fr f)) i)) f=ix (rx c.cs (ix (homL c u (ix c.fr v)) k)) v then some ((u:Int),ix (homL c u (ix c.fr f)) i,ix (homL c u (ix c.fr v)) k)else none else none
def sqF(c:Cat)(w:List Int)(f v:Int):Option (Int×Int×Int):=fsN c.n.toNat (sqR c w f v)
theorem Q1Y{c:Cat}{x y:Int}{i:Nat}(hi:i<(homL c x y).length):Ar c (ix (homL c x y) i) x y:=by
 obtain⟨k,k1,k2,k3⟩:=Q68 (p:=λa:Nat=>ix c.fr a=x∧ix c.to a=y) hi;have k3':ix (homL c x y) i=(k:Int):=k3;rw[k3'];exact⟨⟨by omega,by omega⟩,k2.1,k2.2⟩
def sqB(c:Cat)(w:List Int)(f v s38:Int)(v41 v43:List Int):Int×Int→Option (Ctl (Int×Int) (Int⊕(Int×Int×Bool))):=λs59=>
 if s59.1=(v41.length:Int)then
  some (yK (yS (s38+1)))
 else
  (
   if s59.2=(v43.length:Int)then
    some true
   else
    ass (0≤s59.1∧s59.1<(v41.length:Int))<|
    ass (0≤ix v41 s59.1∧ix v41 s59.1<((wD c w).there_.length:Int))<|
    some (!(gx (wD c w).there_ (ix v41 s59.1))):Option (Bool)).bind λb61=>
  if b61=true then
   ass (B64 (s59.1+1))<|
   some (yM (s59.1+1,0))
  else
   ass (0≤s59.1∧s59.1<(v41.length:Int))<|
   (Qn c (ix v41 s59.1) f).bind λv68=>
   ass (0≤s59.2∧s59.2<(v43.length:Int))<|
   (Qn c (ix v43 s59.2) v).bind λv70=>
   if v68=v70 then
    ass (0≤s59.1∧s59.1<(v41.length:Int))<|
    ass (0≤s59.2∧s59.2<(v43.length:Int))<|
    some (yK (yT (ix v41 s59.1,ix v43 s59.2,true)))
   else
    ass (B64 (s59.2+1))<|
    some (yM (s59.1,s59.2+1))
open Classical in
theorem sqB_loop{c:Cat}(hc:c.Is)(w:List Int){f v:Int}(hf:0≤f∧f<(c.fr.length:Int))(hv:0≤v∧v<(c.fr.length:Int))(u:Nat):
  Qd (sqB c w f v u (homL c u (ix c.fr f)) (homL c u (ix c.fr v))) fuel (0,0)=some ((sqR c w f v u).elim (yS ((u:Int)+1)) λx=>yT (x.2.1,x.2.2,true)):=by
 have hn:=hc.nums;have ht:=Q7j c w;have l1:=Q1Q c u (ix c.fr f);have l2:=Q1Q c u (ix c.fr v);refine pair_loop (body:=sqB c w f v u (homL c u (ix c.fr f)) (homL c u (ix c.fr v))) (eg:=yS ((u:Int)+1)) (homL c u (ix c.fr f)).length (homL c u (ix c.fr v)).length (λi=>ix (homL c u (ix c.fr f)) i∈w)
  (λi k=>if ix (rx c.cs (ix (homL c u (ix c.fr f)) i)) f=ix (rx c.cs (ix (homL c u (ix c.fr v)) k)) v then some ((u:Int),ix (homL c u (ix c.fr f)) i,ix (homL c u (ix c.fr v)) k)else none) (λx=>yT (x.2.1,x.2.2,true)) ?_ (λi k hi hk h=>?_) (λi k hi hk ho hq=>?_) (λi k x hi hk ho hq=>?_) (by unfold sqB;rw[if_pos rfl])
 ·have:(homL c u (ix c.fr f)).length*((homL c u (ix c.fr v)).length+1)≤40*41:=Nat.mul_le_mul (by omega) (by omega);unfold fuel;omega
 ·have a:=Q1Y hi;unfold sqB;simp only;rw[if_neg (by omega)]
  by_cases hkm:k=(homL c u (ix c.fr v)).length
  ·rw[if_pos (by omega)];simp only[yR,if_true];rw[Q2 (by unfold B64;omega)]
  have hno:=h.resolve_left hkm;rw[if_neg (by omega),Q2 (by omega),Q2 (by have:=a.1;omega),Q7I a.1,Qp hno];simp only[yR,Bool.not_false,if_true];rw[Q2 (by unfold B64;omega)]
 ·have a:=Q1Y hi;have b:=Q1Y hk;unfold sqB;simp only;rw[if_neg (by omega),if_neg (by omega),Q2 (by omega),Q2 (by have:=a.1;omega),Q7I a.1,Qu ho];simp only[yR,yY,zG,if_false];rw[Q2 (by omega),(Q1o hc a.1 hf).2];simp only[yR];rw[Q2 (by omega),(Q1o hc b.1 hv).2];simp only[yR];split at hq
  ·cases hq
  rename_i hne;rw[if_neg hne,Q2 (by unfold B64;omega)]
 have a:=Q1Y hi;have b:=Q1Y hk;unfold sqB;simp only;rw[if_neg (by omega),if_neg (by omega),Q2 (by omega),Q2 (by have:=a.1;omega),Q7I a.1,Qu ho];simp only[yR,yY,zG,if_false];rw[Q2 (by omega),(Q1o hc a.1 hf).2];simp only[yR];rw[Q2 (by omega),(Q1o hc b.1 hv).2];simp only[yR];split at hq
 ·rename_i he;cases hq;rw[if_pos he,Q2 (by omega),Q2 (by omega)]
 cases hq
def sqO(c:Cat)(w:List Int)(f v:Int):Int→Option (Ctl Int (Int×Int×Bool)):=λs38=>
 if s38=c.n then
  some (yK (0,0,false))
 else
  ass (0≤f∧f<(c.fr.length:Int))<|
  (QA c s38 (ix c.fr f)).bind λv41=>
  ass (0≤v∧v<(c.fr.length:Int))<|
  (QA c s38 (ix c.fr v)).bind λv43=>
  ass (B64 (s38+1))<|
  (Qd (sqB c w f v s38 v41 v43) fuel (0,0)).bind λe59=>
  match e59 with
  | .inl p59=>
   some (yM p59)
  | .inr p59=>
   some (yK p59)
theorem Q8q{c:Cat}(hc:c.Is)(w:List Int){f v:Int}(hf:0≤f∧f<(c.fr.length:Int))(hv:0≤v∧v<(c.fr.length:Int)):
  QS (wD c w) f v=some ((sqF c w f v).elim (0,0,false) λx=>(x.2.1,x.2.2,true)):=by
 have hn:=hc.nums;have step:∀u:Nat,u<c.n.toNat→sqO c w f v u=some ((sqR c w f v u).elim (yM ((u:Int)+1)) λx=>yK (x.2.1,x.2.2,true)):=by
  intro u hu;unfold sqO;rw[if_neg (by omega),Q2 hf,(Q4s hc _ _).2];simp only[yR];rw[Q2 hv,(Q4s hc _ _).2];simp only[yR];rw[Q2 (by unfold B64;omega),sqB_loop hc w hf hv u];cases sqR c w f v u<;>rfl
 unfold QS;show(Qd (sqO c w f v) fuel 0).bind _=_;rw[Q7G (body:=sqO c w f v) c.n.toNat (sqR c w f v) (λx=>(x.2.1,x.2.2,true)) (eg:=(0,0,false)) (by omega) (λu hu hg=>by rw[step u hu,hg];rfl) (λu x hu hg=>by rw[step u hu,hg];rfl) (by unfold sqO;rw[if_pos (by omega)])];rfl
theorem fsN_none{α:Type}{n:Nat}:fsN n (λ_:Nat=>(none:Option α))=none:=by
 unfold fsN;rw[List.findSome?_eq_none_iff];exact λ_ _=>rfl
def sS3(c:Cat)(w:List Int)(f v s70:Int)(v74 v76:List Int)(s107:Int):Int→Option (Ctl Int ((Int×Int×Int×Bool)⊕Unit)):=λs123=>
 if s123<(v76.length:Int)then
  (
   ass (0≤s107∧s107<(v74.length:Int))<|
   (Q15 w (ix v74 s107)).bind λv127=>
   if v127=true then
    ass (0≤s107∧s107<(v74.length:Int))<|
    (Qs c (ix v74 s107) f).bind λv130=>
    ass (0≤s123∧s123<(v76.length:Int))<|
    (Qs c (ix v76 s123) v).bind λv132=>
    some (v130==v132)
   else
    some false:Option (Bool)).bind λb125=>
  if b125=true then
   ass (0≤s107∧s107<(v74.length:Int))<|
   ass (0≤s123∧s123<(v76.length:Int))<|
   some (yK (yS (s70,ix v74 s107,ix v76 s123,true)))
  else
   ass (B64 (s123+1))<|
   some (yM (s123+1))
 else
  some (yK (yT ()))
open Classical in
theorem QaM{c:Cat}(hc:c.Is)(w:List Int){f v:Int}(hf:0≤f∧f<(c.fr.length:Int))(hv:0≤v∧v<(c.fr.length:Int))(u:Nat){i:Nat}(hi:i<(homL c u (ix c.fr f)).length):
  Qd (sS3 c w f v u (homL c u (ix c.fr f)) (homL c u (ix c.fr v)) i) fuel 0=some ((if ix (homL c u (ix c.fr f)) i∈w then fsN (homL c u (ix c.fr v)).length λk=>if ix (rx c.cs (ix (homL c u (ix c.fr f)) i)) f=ix (rx c.cs (ix (homL c u (ix c.fr v)) k)) v then some ((u:Int),ix (homL c u (ix c.fr f)) i,ix (homL c u (ix c.fr v)) k)else none else none).elim (yT ()) λx=>yS (x.1,x.2.1,x.2.2,true)):=by
 have hn:=hc.nums;have l2:=Q1Q c u (ix c.fr v);have a:=Q1Y hi;have e:(if ix (homL c u (ix c.fr f)) i∈w then fsN (homL c u (ix c.fr v)).length λk=>if ix (rx c.cs (ix (homL c u (ix c.fr f)) i)) f=ix (rx c.cs (ix (homL c u (ix c.fr v)) k)) v then some ((u:Int),ix (homL c u (ix c.fr f)) i,ix (homL c u (ix c.fr v)) k)else none else none)
   =fsN (homL c u (ix c.fr v)).length λk=>if ix (homL c u (ix c.fr f)) i∈w∧ix (rx c.cs (ix (homL c u (ix c.fr f)) i)) f=ix (rx c.cs (ix (homL c u (ix c.fr v)) k)) v then some ((u:Int),ix (homL c u (ix c.fr f)) i,ix (homL c u (ix c.fr v)) k)else none:=by
  by_cases h:ix (homL c u (ix c.fr f)) i∈w
  ·simp only[h,if_true,true_and]
  simp only[h,if_false,false_and,fsN_none]
 rw[e];have step:∀k:Nat,k<(homL c u (ix c.fr v)).length→sS3 c w f v u (homL c u (ix c.fr f)) (homL c u (ix c.fr v)) i k=some (if ix (homL c u (ix c.fr f)) i∈w∧ix (rx c.cs (ix (homL c u (ix c.fr f)) i)) f=ix (rx c.cs (ix (homL c u (ix c.fr v)) k)) v then .ret (yS ((u:Int),ix (homL c u (ix c.fr f)) i,ix (homL c u (ix c.fr v)) k,true))else .next ((k:Int)+1)):=by
  intro k hk;have b:=Q1Y hk;unfold sS3;rw[if_pos (by omega),Q2 (by omega)];simp only[yR,Q15]
  by_cases h:ix (homL c u (ix c.fr f)) i∈w
  ·rw[Qu h,if_pos rfl,Q2 (by omega),(Q1o hc a.1 hf).1];simp only[yR];rw[Q2 (by omega),(Q1o hc b.1 hv).1];simp only[yR]
   by_cases h2:ix (rx c.cs (ix (homL c u (ix c.fr f)) i)) f=ix (rx c.cs (ix (homL c u (ix c.fr v)) k)) v
   ·rw[if_pos (by simpa using h2),if_pos ⟨h,h2⟩,Q2 (by omega),Q2 (by omega)]
   rw[if_neg (by simpa using h2),if_neg (λq=>h2 q.2),Q2 (by unfold B64;omega)]
  rw[Qp h,if_neg (by simp),if_neg (λq=>h q.1)];simp only[yR,zG,if_false];rw[Q2 (by unfold B64;omega)]
 refine Q7G (body:=sS3 c w f v u (homL c u (ix c.fr f)) (homL c u (ix c.fr v)) i) (eg:=yT ()) (homL c u (ix c.fr v)).length _ (λx:Int×Int×Int=>yS (x.1,x.2.1,x.2.2,true)) (by omega) (λk hk hg=>?_) (λk x hk hg=>?_) (by unfold sS3;rw[if_neg (by omega)])
 ·rw[step k hk];split at hg
  ·cases hg
  rename_i h;rw[if_neg h]
 rw[step k hk];split at hg
 ·rename_i h;cases hg;rw[if_pos h]
 cases hg
def sS2(c:Cat)(w:List Int)(f v s70:Int)(v74 v76:List Int):Int→Option (Ctl Int ((Int×Int×Int×Bool)⊕Unit)):=λs107=>
 if s107<(v74.length:Int)then
  (
   (Qd (sS3 c w f v s70 v74 v76 s107) fuel 0).bind λe123=>
   match e123 with
   | .inl p123=>
    some (yT p123)
   | .inr p123=>
    some (yS p123):Option (Unit⊕(Int×Int×Int×Bool))).bind λe109=>
  match e109 with
  | .inl b109=>
   ass (B64 (s107+1))<|
   some (yM (s107+1))
  | .inr p109=>
   some (yK (yS p109))
 else
  some (yK (yT ()))
theorem sS2_loop{c:Cat}(hc:c.Is)(w:List Int){f v:Int}(hf:0≤f∧f<(c.fr.length:Int))(hv:0≤v∧v<(c.fr.length:Int))(u:Nat):
  Qd (sS2 c w f v u (homL c u (ix c.fr f)) (homL c u (ix c.fr v))) fuel 0=some ((sqR c w f v u).elim (yT ()) λx=>yS (x.1,x.2.1,x.2.2,true)):=by
 have hn:=hc.nums;have l1:=Q1Q c u (ix c.fr f);refine Q7G (body:=sS2 c w f v u (homL c u (ix c.fr f)) (homL c u (ix c.fr v))) (eg:=yT ()) (homL c u (ix c.fr f)).length _ (λx:Int×Int×Int=>yS (x.1,x.2.1,x.2.2,true)) (by omega) (λi hi hg=>?_) (λi x hi hg=>?_) (by unfold sS2;rw[if_neg (by omega)])
 ·unfold sS2;rw[if_pos (by omega),QaM hc w hf hv u hi,hg];simp only[Option.elim_none,yR];rw[Q2 (by unfold B64;omega)]
 unfold sS2;rw[if_pos (by omega),QaM hc w hf hv u hi,hg];rfl
def sS1(c:Cat)(w:List Int)(f v:Int):Int→Option (Ctl Int (Unit⊕(Int×Int×Int×Bool))):=λs70=>
 if s70<c.n then
  (
   ass (0≤f∧f<(c.fr.length:Int))<|
   (Q1b c s70 (ix c.fr f)).bind λv74=>
   ass (0≤v∧v<(c.fr.length:Int))<|
   (Q1b c s70 (ix c.fr v)).bind λv76=>
   (Qd (sS2 c w f v s70 v74 v76) fuel 0).bind λe107=>
   match e107 with
   | .inl p107=>
    some (yT p107)
   | .inr p107=>
    some (yS p107):Option (Unit⊕(Int×Int×Int×Bool))).bind λe72=>
  match e72 with
  | .inl b72=>
   ass (B64 (s70+1))<|
   some (yM (s70+1))
  | .inr p72=>
   some (yK (yT p72))
 else
  some (yK (yS ()))
theorem Q8r{c:Cat}(hc:c.Is)(w:List Int){f v:Int}(hf:0≤f∧f<(c.fr.length:Int))(hv:0≤v∧v<(c.fr.length:Int)):
  Q1c c w f v=some ((sqF c w f v).elim (0,0,0,false) λx=>(x.1,x.2.1,x.2.2,true)):=by
 have hn:=hc.nums;have step:∀u:Nat,u<c.n.toNat→sS1 c w f v u=some ((sqR c w f v u).elim (yM ((u:Int)+1)) λx=>yK (yT (x.1,x.2.1,x.2.2,true))):=by
  intro u hu;unfold sS1;rw[if_pos (by omega),Q2 hf,(Q4s hc _ _).1];simp only[yR];rw[Q2 hv,(Q4s hc _ _).1];simp only[yR];rw[sS2_loop hc w hf hv u];cases sqR c w f v u with
  |none=>simp only[Option.elim_none,yR];rw[Q2 (by unfold B64;omega)]
  |some x=>rfl
 unfold Q1c;show(Qd (sS1 c w f v) fuel 0).bind _=_;rw[Q7G (body:=sS1 c w f v) c.n.toNat (sqR c w f v) (λx=>yT (x.1,x.2.1,x.2.2,true)) (eg:=yS ()) (by omega) (λu hu hg=>by rw[step u hu,hg];rfl) (λu x hu hg=>by rw[step u hu,hg];rfl) (by unfold sS1;rw[if_neg (by omega)])];show(some ((sqF c w f v).elim _ _)).bind _=_;cases sqF c w f v<;>rfl
end
attribute [local simp] unk unA unE unT unC flat eL eI Qh QI Cat.cells
def Q1a(c_:Cat)(x_:Int):Option (List Int):=
 (Qd (σ:=List Int×Int) (ε:=List Int) (λs8=>
  if s8.2<(c_.to.length:Int)then
   (
    ass (0≤s8.2∧s8.2<(c_.to.length:Int))<|
    if(ix c_.to s8.2)=x_ then
     ass ((s8.1++[s8.2]).length≤1073741824)<|
     some (s8.1++[s8.2])
    else
     some s8.1:Option (List Int)).bind λb10=>
   ass (B64 (s8.2+1))<|
   some (yM (b10,s8.2+1))
  else
   some (yK s8.1)) fuel ([],0)).bind λb1=>
 some b1
@[simp] abbrev Y0o(a:Cat)(b:List (Nat×AV)):List (Nat×AV):=(12,lI a.to)::(13,iV (a.to.length:Int))::b
@[simp] abbrev Y0q(a:Int)(b:List (Nat×AV)):List (Nat×AV):=(1,iV a)::(5,.own 0 0 0)::b
theorem Q3F(c_:Cat)(x_:Int)(r:List Int)(h:Q1a c_ x_=some r):Contract Tryz.prog 94 (Y0x c_ [iV x_]) (lI r):=by
 refine Q9 (rvs:=[.tmp 4]) (rs:=[lI r]) Tryz.func94 rfl rfl rfl rfl (by simp[Tryz.f94]) λF hN hP=>?_;unfold Q1a at h;refine Q0 (runQ hN λK hK=>?_);simp;repeat refine sdQ ?_
 refine hK _ ?_;clear hK K;refine tn (Q4 (st':=⟨Yt c_ [(1,iV x_)],[],0⟩) (wkQ []) (Q0 (runQ hN λK hK=>?_)));simp;repeat refine sdQ ?_
 refine hK _ ?_;clear hK K;refine tn (Q4 (st':=⟨Yt c_ (Y0q x_ []),[(0,.mix 1 [])],1⟩) (wkQ [(0,0)]) (Q0 (Q0 (runQ hN λK hK=>?_))));simp;repeat refine sdQ ?_
 refine hK _ (tn (Q4 (st':=⟨Y0q x_ (Y0o c_ [(14,iV 0)]),[(0,.mix 1 [])],1⟩) (wkQ [(0,0)]) ?_));clear hK K;replace⟨e1,h,h1⟩:=bind_some h;refine Qc (λb1:List Int=>⟨Y06 b1 [],[(0,rI b1)],1⟩) (λb1=>b1=e1) ?_ ?_
 ·refine Q5 (Qm h (λs8:List Int×Int=>⟨(1,iV x_)::Y0b s8 (Y0o c_ [(14,iV s8.2)]),[(0,rI s8.1)],1⟩) (Q2M ⟨Y0q x_ (Y0o c_ [(14,iV 0)]),[(0,rI [])],1⟩ (Wk.nils [] (by simp) (by simp) (by simp[nlA]) (by simp[entN,nlL,nlA,BN]) (by simp)) (wkQ [(0,0)])) ?_);clear h;intro k8 s8 c8 h hk8;refine Q0 (runQ hN λK hK=>?_);simp;repeat refine sdQ ?_
  refine hK _ ?_;clear hK K;refine tn (Q0 (Q6 rfl (λg=>?_) λg=>?_))
  ·have g9:s8.2<(c_.to.length:Int):=gQ;clear g;replace h:=if_l g9 h;refine Q7 (tn (Q0 ?_));replace⟨e10,h,h10⟩:=bind_some h;refine Qc (λb10:List Int=>⟨(1,iV x_)::Y06 b10 (Y0o c_ [(14,iV s8.2)]),[(0,rI b10)],1⟩) (λb10=>b10=e10) ?_ ?_
   ·refine Q5 (Q0 (runQ hN λK hK=>?_));replace⟨a11,h⟩:=Q1 h;simp[at_I a11];(repeat refine sdQ ?_);refine hK _ ?_;clear hK K;refine tn (Q4 (st':=⟨(1,iV x_)::Y0b s8 ((6,iV s8.2)::(7,iV (ix c_.to s8.2))::Y0o c_ [(14,iV s8.2)]),[(0,rI s8.1)],1⟩) (wkQ [(0,0)]) (Q0 (runQ hN λK hK=>?_)));simp;(repeat refine sdQ ?_);refine hK _ ?_;clear hK K;refine tn (Q6 rfl (λg=>?_) λg=>?_)
    ·have g12:(ix c_.to s8.2)=x_:=gQ;clear g;replace h:=if_l g12 h;refine runQ hN λK hK=>?_;replace⟨a13,h⟩:=Q1 h;(try simp only[List.length_append,List.length_cons,List.length_nil]at a13);simp[a13];(repeat refine sdQ ?_);refine hK _ (bn ?_);clear hK K;exact jn (b:=s8.1++[s8.2]) (yJ h) (wkQ [(2,0)])
    have g12:¬((ix c_.to s8.2)=x_):=gQ;clear g;replace h:=if_r g12 h;refine Q7 (bn ?_);exact jn (b:=s8.1) (yJ h) (wkQ [(0,0)])
   intro b10 hb10;have h:=h10;(try rw[←hb10]at h);clear h10;(try dsimp only at h);refine runQ hN λK hK=>?_;replace⟨a14,h⟩:=Q1 h;simp[Qg a14];(repeat refine sdQ ?_);refine hK _ ?_;clear hK K;cases h;exact rn (s':=(b10,s8.2+1)) hk8 (wkQ [(0,0)])
  have g9:¬(s8.2<(c_.to.length:Int)):=gQ;clear g;replace h:=if_r g9 h;refine Qj (tx (lx (bh ?_)));cases h;exact jn (b:=s8.1) hk8 (wkQ [(0,0)])
 intro b1 hb1;have h:=h1;try rw[←hb1]at h
 clear h1;try dsimp only at h
 refine Q0 (runQ hN λK hK=>?_);simp;repeat refine sdQ ?_
 refine hK _ (tn (Q4 (st':=⟨[(4,.own 0 0 b1.length)],[(0,rI b1)],1⟩) (wkQ [(0,0)]) (Qi ?_)));clear hK K;have hr:=yJ h;rw[←hr];refine⟨_,(.tmp .nil),?_⟩;refine⟨(.one rfl rfl .nil),[lI b1],[0],by simp[BN],by simp,(yN _)⟩
attribute [local simp] unk unA unE unT unC flat eL eI Qh QI Cat.cells
def Q1u(c_:Cat)(x_:Int):Option (List Int):=
 (Qd (σ:=List Int×Int) (ε:=List Int) (λs8=>
  if s8.2<(c_.fr.length:Int)then
   (
    ass (0≤s8.2∧s8.2<(c_.fr.length:Int))<|
    if(ix c_.fr s8.2)=x_ then
     ass ((s8.1++[s8.2]).length≤1073741824)<|
     some (s8.1++[s8.2])
    else
     some s8.1:Option (List Int)).bind λb10=>
   ass (B64 (s8.2+1))<|
   some (yM (b10,s8.2+1))
  else
   some (yK s8.1)) fuel ([],0)).bind λb1=>
 some b1
@[simp] abbrev Y0p(a:Cat)(b:List (Nat×AV)):List (Nat×AV):=(12,lI a.fr)::(13,iV (a.fr.length:Int))::b
theorem Q54(c_:Cat)(x_:Int)(r:List Int)(h:Q1u c_ x_=some r):Contract Tryz.prog 104 (Y0x c_ [iV x_]) (lI r):=by
 refine Q9 (rvs:=[.tmp 4]) (rs:=[lI r]) Tryz.func104 rfl rfl rfl rfl (by simp[Tryz.f104]) λF hN hP=>?_;unfold Q1u at h;refine Q0 (runQ hN λK hK=>?_);simp;repeat refine sdQ ?_
 refine hK _ ?_;clear hK K;refine tn (Q4 (st':=⟨Yt c_ [(1,iV x_)],[],0⟩) (wkQ []) (Q0 (runQ hN λK hK=>?_)));simp;repeat refine sdQ ?_
 refine hK _ ?_;clear hK K;refine tn (Q4 (st':=⟨Yt c_ (Y0q x_ []),[(0,.mix 1 [])],1⟩) (wkQ [(0,0)]) (Q0 (Q0 (runQ hN λK hK=>?_))));simp;repeat refine sdQ ?_
 refine hK _ (tn (Q4 (st':=⟨Y0q x_ (Y0p c_ [(14,iV 0)]),[(0,.mix 1 [])],1⟩) (wkQ [(0,0)]) ?_));clear hK K;replace⟨e1,h,h1⟩:=bind_some h;refine Qc (λb1:List Int=>⟨Y06 b1 [],[(0,rI b1)],1⟩) (λb1=>b1=e1) ?_ ?_
 ·refine Q5 (Qm h (λs8:List Int×Int=>⟨(1,iV x_)::Y0b s8 (Y0p c_ [(14,iV s8.2)]),[(0,rI s8.1)],1⟩) (Q2M ⟨Y0q x_ (Y0p c_ [(14,iV 0)]),[(0,rI [])],1⟩ (Wk.nils [] (by simp) (by simp) (by simp[nlA]) (by simp[entN,nlL,nlA,BN]) (by simp)) (wkQ [(0,0)])) ?_);clear h;intro k8 s8 c8 h hk8;refine Q0 (runQ hN λK hK=>?_);simp;repeat refine sdQ ?_
  refine hK _ ?_;clear hK K;refine tn (Q0 (Q6 rfl (λg=>?_) λg=>?_))
  ·have g9:s8.2<(c_.fr.length:Int):=gQ;clear g;replace h:=if_l g9 h;refine Q7 (tn (Q0 ?_));replace⟨e10,h,h10⟩:=bind_some h;refine Qc (λb10:List Int=>⟨(1,iV x_)::Y06 b10 (Y0p c_ [(14,iV s8.2)]),[(0,rI b10)],1⟩) (λb10=>b10=e10) ?_ ?_
   ·refine Q5 (Q0 (runQ hN λK hK=>?_));replace⟨a11,h⟩:=Q1 h;simp[at_I a11];(repeat refine sdQ ?_);refine hK _ ?_;clear hK K;refine tn (Q4 (st':=⟨(1,iV x_)::Y0b s8 ((6,iV s8.2)::(7,iV (ix c_.fr s8.2))::Y0p c_ [(14,iV s8.2)]),[(0,rI s8.1)],1⟩) (wkQ [(0,0)]) (Q0 (runQ hN λK hK=>?_)));simp;(repeat refine sdQ ?_);refine hK _ ?_;clear hK K;refine tn (Q6 rfl (λg=>?_) λg=>?_)
    ·have g12:(ix c_.fr s8.2)=x_:=gQ;clear g;replace h:=if_l g12 h;refine runQ hN λK hK=>?_;replace⟨a13,h⟩:=Q1 h;(try simp only[List.length_append,List.length_cons,List.length_nil]at a13);simp[a13];(repeat refine sdQ ?_);refine hK _ (bn ?_);clear hK K;exact jn (b:=s8.1++[s8.2]) (yJ h) (wkQ [(2,0)])
    have g12:¬((ix c_.fr s8.2)=x_):=gQ;clear g;replace h:=if_r g12 h;refine Q7 (bn ?_);exact jn (b:=s8.1) (yJ h) (wkQ [(0,0)])
   intro b10 hb10;have h:=h10;(try rw[←hb10]at h);clear h10;(try dsimp only at h);refine runQ hN λK hK=>?_;replace⟨a14,h⟩:=Q1 h;simp[Qg a14];(repeat refine sdQ ?_);refine hK _ ?_;clear hK K;cases h;exact rn (s':=(b10,s8.2+1)) hk8 (wkQ [(0,0)])
  have g9:¬(s8.2<(c_.fr.length:Int)):=gQ;clear g;replace h:=if_r g9 h;refine Qj (tx (lx (bh ?_)));cases h;exact jn (b:=s8.1) hk8 (wkQ [(0,0)])
 intro b1 hb1;have h:=h1;try rw[←hb1]at h
 clear h1;try dsimp only at h
 refine Q0 (runQ hN λK hK=>?_);simp;repeat refine sdQ ?_
 refine hK _ (tn (Q4 (st':=⟨[(4,.own 0 0 b1.length)],[(0,rI b1)],1⟩) (wkQ [(0,0)]) (Qi ?_)));clear hK K;have hr:=yJ h;rw[←hr];refine⟨_,(.tmp .nil),?_⟩;refine⟨(.one rfl rfl .nil),[lI b1],[0],by simp[BN],by simp,(yN _)⟩
attribute [local simp] unk unA unE unT unC flat eL eI Qh QI Qz Cat.cells XD.cells
def QP(w_:XD)(f_:Int)(g_:Int):Option Bool:=
 ass (0≤f_∧f_<(w_.c_.to.length:Int))<|
 (Q1u w_.c_ (ix w_.c_.to f_)).bind λv2=>
 (Qd (σ:=Bool×Int) (ε:=Bool) (λs12=>
  if s12.2<(v2.length:Int)then
   (
    ass (0≤s12.2∧s12.2<(v2.length:Int))<|
    if s12.1=true then
     some true
    else
     ass (0≤ix v2 s12.2∧ix v2 s12.2<(w_.there_.length:Int))<|
     if(gx w_.there_ (ix v2 s12.2))=true then
      (Qn w_.c_ f_ (ix v2 s12.2)).bind λv19=>
      (Qn w_.c_ g_ (ix v2 s12.2)).bind λv20=>
      some (v19==v20)
     else
      some false:Option (Bool)).bind λb14=>
   ass (B64 (s12.2+1))<|
   some (yM (b14,s12.2+1))
  else
   some (yK s12.1)) fuel (false,0)).bind λb3=>
 if¬(b3=true)then
  some true
 else
  ass (0≤f_∧f_<(w_.c_.fr.length:Int))<|
  (Q1a w_.c_ (ix w_.c_.fr f_)).bind λv24=>
  (Qd (σ:=Int) (ε:=Unit⊕Bool) (λs35=>
   if s35<(v24.length:Int)then
    ass (0≤s35∧s35<(v24.length:Int))<|
    (
     ass (0≤ix v24 s35∧ix v24 s35<(w_.there_.length:Int))<|
     if(gx w_.there_ (ix v24 s35))=true then
      (Qn w_.c_ (ix v24 s35) f_).bind λv41=>
      (Qn w_.c_ (ix v24 s35) g_).bind λv42=>
      some (v41==v42)
     else
      some false:Option (Bool)).bind λb38=>
    if b38=true then
     some (yK (yT true))
    else
     ass (B64 (s35+1))<|
     some (yM (s35+1))
   else
    some (yK (yS ()))) fuel 0).bind λe25=>
  match e25 with
  | .inl b25=>
   some false
  | .inr p25=>
   some p25
@[simp] abbrev YI(a b:Int)(c:XD)(d:List (Nat×AV)):List (Nat×AV):=(1,iV a)::(2,iV b)::(7,.rptr (Cat.cells true c.c_))::d
theorem Q3G(w_:XD)(f_:Int)(g_:Int)(r:Bool)(h:QP w_ f_ g_=some r):Contract Tryz.prog 92 [.rptr (w_.cells true),iV f_,iV g_] (.val (.bool r)):=by
 refine Q9 (rvs:=[.tmp 6]) (rs:=[.val (.bool r)]) Tryz.func92 rfl rfl rfl rfl (by simp[Tryz.f92]) λF hN hP=>?_;unfold QP at h;refine Q0 (runQ hN λK hK=>?_);simp;repeat refine sdQ ?_
 refine hK _ ?_;clear hK K;refine tn (Q4 (st':=⟨Y0 w_ (YV f_ g_ []),[],0⟩) (wkQ []) (Q0 (runQ hN λK hK=>?_)));simp;repeat refine sdQ ?_
 refine hK _ ?_;clear hK K;refine tn (Q4 (st':=⟨Y0 w_ (YI f_ g_ w_ []),[],0⟩) (wkQ []) (Q0 (runQ hN λK hK=>?_)));simp;repeat refine sdQ ?_
 refine hK _ ?_;clear hK K;refine tn (Q4 (st':=⟨Y0 w_ (YI f_ g_ w_ [(8,.val (.bool false))]),[],0⟩) (wkQ []) (Q0 (Q0 (runQ hN λK hK=>?_))));replace⟨a1,h⟩:=Q1 h;simp[at_I a1];repeat with_reducible refine sdQ ?_
 replace⟨v2,hv2,h⟩:=bind_some h;refine Q3 (Q54 _ _ v2 hv2) (.cons (.preT (by simp[CN])) (.cons .val .nil)) ?_;simp[at_I a1];repeat refine sdQ ?_
 refine hK _ (tn (Q4 (st':=⟨Y0 w_ (YI f_ g_ w_ [(8,.val (.bool false)),(25,.own 0 0 v2.length),(26,iV (v2.length:Int)),(27,iV 0)]),[(0,rI v2)],1⟩) (wkQ [(0,0)]) ?_));clear hK K;replace⟨e3,h,h3⟩:=bind_some h;refine Qc (λb3:Bool=>⟨Y0 w_ (YI f_ g_ w_ [(8,.val (.bool b3))]),[],0⟩) (λb3=>b3=e3) ?_ ?_
 ·refine Q5 (Qm h (λs12:Bool×Int=>⟨Y0 w_ (YI f_ g_ w_ [(8,.val (.bool s12.1)),(25,.own 0 0 v2.length),(26,iV (v2.length:Int)),(27,iV s12.2)]),[(0,rI v2)],1⟩) (wkQ [(0,0)]) ?_);clear h;intro k12 s12 c12 h hk12;refine Q0 (runQ hN λK hK=>?_);simp;repeat refine sdQ ?_
  refine hK _ ?_;clear hK K;refine tn (Q0 (Q6 rfl (λg=>?_) λg=>?_))
  ·have g13:s12.2<(v2.length:Int):=gQ;clear g;replace h:=if_l g13 h;refine Q7 (tn (Q0 ?_));replace⟨e14,h,h14⟩:=bind_some h;refine Qc (λb14:Bool=>⟨Y0 w_ (YI f_ g_ w_ [(8,.val (.bool b14)),(25,.own 0 0 v2.length),(26,iV (v2.length:Int)),(27,iV s12.2)]),[(0,rI v2)],1⟩) (λb14=>b14=e14) ?_ ?_
   ·refine Q5 (Q0 (runQ hN λK hK=>?_));replace⟨a15,h⟩:=Q1 h;simp[at_I a15];(repeat refine sdQ ?_);refine hK _ ?_;clear hK K;refine tn (Q4 (st':=⟨Y0 w_ (YI f_ g_ w_ [(8,.val (.bool s12.1)),(10,iV (ix v2 s12.2)),(25,.own 0 0 v2.length),(26,iV (v2.length:Int)),(27,iV s12.2)]),[(0,rI v2)],1⟩) (wkQ [(0,0)]) (runQ hN λK hK=>?_));simp;(repeat with_reducible refine sdQ ?_);refine Qv (λg=>?_) (λg=>?_)
    ·have g16:¬(s12.1=true):=gQ;clear g;replace h:=if_r g16 h;replace⟨a17,h⟩:=Q1 h;simp[at_B a17];(repeat with_reducible refine sdQ ?_);refine Qv (λg=>?_) (λg=>?_)
     ·have g18:(gx w_.there_ (ix v2 s12.2))=true:=gQ;clear g;replace h:=if_l g18 h;simp[at_B a17];(repeat with_reducible refine sdQ ?_);replace⟨v19,hv19,h⟩:=bind_some h;refine Q3 (QF _ _ _ v19 hv19) (.cons (.preT (by simp[CN])) (.cons .val (.cons .val .nil))) ?_;simp[at_B a17];(repeat with_reducible refine sdQ ?_);replace⟨v20,hv20,h⟩:=bind_some h;refine Q3 (QF _ _ _ v20 hv20) (.cons (.preT (by simp[CN])) (.cons .val (.cons .val .nil))) ?_;simp[at_B a17];(repeat refine sdQ ?_);refine hK _ (bn ?_);clear hK K;exact jn (b:=v19==v20) (yJ h) (wkQ [(0,0)])
     have g18:¬((gx w_.there_ (ix v2 s12.2))=true):=gQ;clear g;replace h:=if_r g18 h;simp[at_B a17];(repeat refine sdQ ?_);refine hK _ (bn ?_);clear hK K;exact jn (b:=false) (yJ h) (wkQ [(0,0)])
    have g16:s12.1=true:=gQ;clear g;replace h:=if_l g16 h;simp;(repeat refine sdQ ?_);refine hK _ (bn ?_);clear hK K;exact jn (b:=true) (yJ h) (wkQ [(0,0)])
   intro b14 hb14;have h:=h14;(try rw[←hb14]at h);clear h14;(try dsimp only at h);refine runQ hN λK hK=>?_;replace⟨a21,h⟩:=Q1 h;simp[Qg a21];(repeat refine sdQ ?_);refine hK _ ?_;clear hK K;cases h;exact rn (s':=(b14,s12.2+1)) hk12 (wkQ [(0,0)])
  have g13:¬(s12.2<(v2.length:Int)):=gQ;clear g;replace h:=if_r g13 h;refine Qj (tx (lx (bh ?_)));cases h;exact jn (b:=s12.1) hk12 (wkQ [])
 intro b3 hb3;have h:=h3;try rw[←hb3]at h
 clear h3;try dsimp only at h
 refine Q0 (Q0 (runQ hN λK hK=>?_));simp;repeat refine sdQ ?_
 refine hK _ ?_;clear hK K;refine tn (Q6 rfl (λg=>?_) λg=>?_)
 ·have g22:¬(b3=true):=gQ;clear g;replace h:=if_l g22 h;refine Q0 (runQ hN λK hK=>?_);simp;repeat refine sdQ ?_
  refine hK _ (tn (Q4 (st':=⟨[(6,.val (.bool true))],[],0⟩) (wkQ []) (Qi (tr ?_))));clear hK K;have hr:=yJ h;rw[←hr];refine⟨_,(.tmp .nil),?_⟩;refine⟨(.one rfl rfl .nil),[.val (.bool true)],[],by simp[BN],by simp,(yN _)⟩
 have g22:¬(¬(b3=true)):=gQ;clear g;replace h:=if_r g22 h;refine Q7 (tn (Q0 (Q0 (runQ hN λK hK=>?_))));replace⟨a23,h⟩:=Q1 h;simp[at_I a23];repeat with_reducible refine sdQ ?_
 replace⟨v24,hv24,h⟩:=bind_some h;refine Q3 (Q3F _ _ v24 hv24) (.cons (.preT (by simp[CN])) (.cons .val .nil)) ?_;simp[at_I a23];repeat refine sdQ ?_
 refine hK _ (tn (Q4 (st':=⟨Y0 w_ (YI f_ g_ w_ [(63,.own 0 0 v24.length),(64,iV (v24.length:Int)),(65,iV 0)]),[(0,rI v24)],1⟩) (wkQ [(0,0)]) ?_));clear hK K;replace⟨e25,h,h25⟩:=bind_some h;refine Qc (λb25:Unit=>⟨[],[],0⟩) (λb25=>yS b25=e25) ?_ ?_
 ·refine Q5 (Qm h (λs35:Int=>⟨Y0 w_ (YI f_ g_ w_ [(63,.own 0 0 v24.length),(64,iV (v24.length:Int)),(65,iV s35)]),[(0,rI v24)],1⟩) (wkQ [(0,0)]) ?_);clear h;intro k35 s35 c35 h hk35;refine Q0 (runQ hN λK hK=>?_);simp;repeat refine sdQ ?_
  refine hK _ ?_;clear hK K;refine tn (Q0 (Q6 rfl (λg=>?_) λg=>?_))
  ·have g36:s35<(v24.length:Int):=gQ;clear g;replace h:=if_l g36 h;refine Q7 (tn (Q0 (Q5 (Q0 (runQ hN λK hK=>?_)))));replace⟨a37,h⟩:=Q1 h;simp[at_I a37];(repeat refine sdQ ?_);refine hK _ (tn (Q4 (st':=⟨Y0 w_ (YI f_ g_ w_ [(12,iV (ix v24 s35)),(63,.own 0 0 v24.length),(64,iV (v24.length:Int)),(65,iV s35)]),[(0,rI v24)],1⟩) (wkQ [(0,0)]) (Q0 ?_)));clear hK K;replace⟨e38,h,h38⟩:=bind_some h;refine Qc (λb38:Bool=>⟨Y0 w_ (YI f_ g_ w_ [(63,.own 0 0 v24.length),(64,iV (v24.length:Int)),(65,iV s35),(86,.val (.bool b38))]),[(0,rI v24)],1⟩) (λb38=>b38=e38) ?_ ?_
   ·refine runQ hN λK hK=>?_;replace⟨a39,h⟩:=Q1 h;simp[at_B a39];(repeat with_reducible refine sdQ ?_);refine Qv (λg=>?_) (λg=>?_)
    ·have g40:(gx w_.there_ (ix v24 s35))=true:=gQ;clear g;replace h:=if_l g40 h;simp[at_B a39];(repeat with_reducible refine sdQ ?_);replace⟨v41,hv41,h⟩:=bind_some h;refine Q3 (QF _ _ _ v41 hv41) (.cons (.preT (by simp[CN])) (.cons .val (.cons .val .nil))) ?_;simp[at_B a39];(repeat with_reducible refine sdQ ?_);replace⟨v42,hv42,h⟩:=bind_some h;refine Q3 (QF _ _ _ v42 hv42) (.cons (.preT (by simp[CN])) (.cons .val (.cons .val .nil))) ?_;simp[at_B a39];(repeat refine sdQ ?_);refine hK _ ?_;exact jn (b:=v41==v42) (yJ h) (wkQ [(0,0)])
    have g40:¬((gx w_.there_ (ix v24 s35))=true):=gQ;clear g;replace h:=if_r g40 h;simp[at_B a39];(repeat refine sdQ ?_);refine hK _ ?_;exact jn (b:=false) (yJ h) (wkQ [(0,0)])
   intro b38 hb38;have h:=h38;(try rw[←hb38]at h);clear h38;(try dsimp only at h);refine Q6 rfl (λg=>?_) λg=>?_
   ·have g43:b38=true:=gQ;clear g;replace h:=if_l g43 h;refine Q0 (runQ hN λK hK=>?_);simp;(repeat refine sdQ ?_);refine hK _ (tn (Q4 (st':=⟨[(6,.val (.bool true))],[],0⟩) (wkQ []) (Qi (br (tr (lr (br (tr ?_))))))));clear hK K;cases h;have q:_=e25:=hk35;have h:=h25;rw[←q]at h;clear q;(try dsimp only at h);have hr:=yJ h;rw[←hr];refine⟨_,(.tmp .nil),?_⟩;refine⟨(.one rfl rfl .nil),[.val (.bool true)],[],by simp[BN],by simp,(yN _)⟩
   have g43:¬(b38=true):=gQ;clear g;replace h:=if_r g43 h;refine Q7 (bn (tn (runQ hN λK hK=>?_)));replace⟨a44,h⟩:=Q1 h;simp[Qg a44];(repeat refine sdQ ?_);refine hK _ ?_;clear hK K;cases h;exact rn (s':=s35+1) hk35 (wkQ [(0,0)])
  have g36:¬(s35<(v24.length:Int)):=gQ;clear g;replace h:=if_r g36 h;refine Qj (tx (lx (bh ?_)));cases h;exact jn (b:=()) hk35 (wkQ [])
 intro b25 hb25;have h:=h25;try rw[←hb25]at h
 clear h25;try dsimp only at h
 refine Q0 (runQ hN λK hK=>?_);simp;repeat refine sdQ ?_
 refine hK _ (tn (Q4 (st':=⟨[(6,.val (.bool false))],[],0⟩) (wkQ []) (Qi ?_)));clear hK K;have hr:=yJ h;rw[←hr];refine⟨_,(.tmp .nil),?_⟩;refine⟨(.one rfl rfl .nil),[.val (.bool false)],[],by simp[BN],by simp,(yN _)⟩
attribute [local simp] unk unA unE unT unC flat eL eI Qh QI Cat.cells
def Q1N(c_:Cat)(w_:List Int)(f_:Int)(g_:Int):Option Bool:=
 (Qd (σ:=Bool×Int) (ε:=Bool) (λs13=>
  if s13.2<(w_.length:Int)then
   (
    if s13.1=true then
     some true
    else
     ass (0≤s13.2∧s13.2<(w_.length:Int))<|
     ass (0≤ix w_ s13.2∧ix w_ s13.2<(c_.fr.length:Int))<|
     ass (0≤f_∧f_<(c_.to.length:Int))<|
     if(ix c_.fr (ix w_ s13.2))=(ix c_.to f_)then
      ass (0≤s13.2∧s13.2<(w_.length:Int))<|
      (Qs c_ f_ (ix w_ s13.2)).bind λv22=>
      ass (0≤s13.2∧s13.2<(w_.length:Int))<|
      (Qs c_ g_ (ix w_ s13.2)).bind λv24=>
      some (v22==v24)
     else
      some false:Option (Bool)).bind λb15=>
   ass (B64 (s13.2+1))<|
   some (yM (b15,s13.2+1))
  else
   some (yK s13.1)) fuel (false,0)).bind λb1=>
 if¬(b1=true)then
  some true
 else
  (Qd (σ:=Int) (ε:=Unit⊕Bool) (λs40=>
   if s40<(w_.length:Int)then
    (
     ass (0≤s40∧s40<(w_.length:Int))<|
     ass (0≤ix w_ s40∧ix w_ s40<(c_.to.length:Int))<|
     ass (0≤f_∧f_<(c_.fr.length:Int))<|
     if(ix c_.to (ix w_ s40))=(ix c_.fr f_)then
      ass (0≤s40∧s40<(w_.length:Int))<|
      (Qs c_ (ix w_ s40) f_).bind λv48=>
      ass (0≤s40∧s40<(w_.length:Int))<|
      (Qs c_ (ix w_ s40) g_).bind λv50=>
      some (v48==v50)
     else
      some false:Option (Bool)).bind λb42=>
    if b42=true then
     some (yK (yT true))
    else
     ass (B64 (s40+1))<|
     some (yM (s40+1))
   else
    some (yK (yS ()))) fuel 0).bind λe27=>
  match e27 with
  | .inl b27=>
   some false
  | .inr p27=>
   some p27
theorem Q6S(c_:Cat)(w_:List Int)(f_:Int)(g_:Int)(r:Bool)(h:Q1N c_ w_ f_ g_=some r):Contract Tryz.prog 79 (Y0u c_ [lI w_,iV f_,iV g_]) (.val (.bool r)):=by
 refine Q9 (rvs:=[.tmp 8]) (rs:=[.val (.bool r)]) Tryz.func79 rfl rfl rfl rfl (by simp[Tryz.f79]) λF hN hP=>?_;unfold Q1N at h;refine Q0 (runQ hN λK hK=>?_);simp;repeat refine sdQ ?_
 refine hK _ ?_;clear hK K;refine tn (Q4 (st':=⟨Yl w_ f_ g_ [],Y6 c_ [],1⟩) (wkQ [(0,0)]) (Q0 (runQ hN λK hK=>?_)));simp;repeat refine sdQ ?_
 refine hK _ ?_;clear hK K;refine tn (Q4 (st':=⟨Yl w_ f_ g_ [(9,.val (.bool false))],Y6 c_ [],1⟩) (wkQ [(0,0)]) (Q0 (Q0 (runQ hN λK hK=>?_))));simp;repeat refine sdQ ?_
 refine hK _ (tn (Q4 (st':=⟨Yl w_ f_ g_ [(9,.val (.bool false)),(10,iV 0)],Y6 c_ [],1⟩) (wkQ [(0,0)]) ?_));clear hK K;replace⟨e1,h,h1⟩:=bind_some h;refine Qc (λb1:Bool=>⟨Yl w_ f_ g_ [(9,.val (.bool b1))],Y6 c_ [],1⟩) (λb1=>b1=e1) ?_ ?_
 ·refine Q5 (Qm h (λs13:Bool×Int=>⟨Yl w_ f_ g_ [(9,.val (.bool s13.1)),(10,iV s13.2)],Y6 c_ [],1⟩) (wkQ [(0,0)]) ?_);clear h;intro k13 s13 c13 h hk13;refine Q0 (Q0 (runQ hN λK hK=>?_));simp;repeat refine sdQ ?_
  refine hK _ ?_;clear hK K;refine tn (Q6 rfl (λg=>?_) λg=>?_)
  ·have g14:s13.2<(w_.length:Int):=gQ;clear g;replace h:=if_l g14 h;refine Q7 (tn (Q0 ?_));replace⟨e15,h,h15⟩:=bind_some h;refine Qc (λb15:Bool=>⟨Yl w_ f_ g_ [(9,.val (.bool b15)),(10,iV s13.2)],Y6 c_ [],1⟩) (λb15=>b15=e15) ?_ ?_
   ·refine Q5 (runQ hN λK hK=>?_);simp;(repeat with_reducible refine sdQ ?_);refine Qv (λg=>?_) (λg=>?_)
    ·have g16:¬(s13.1=true):=gQ;clear g;replace h:=if_r g16 h;replace⟨a17,h⟩:=Q1 h;replace⟨a18,h⟩:=Q1 h;replace⟨a19,h⟩:=Q1 h;simp[at_I a17,at_I a18,at_I a19];(repeat with_reducible refine sdQ ?_);refine Qv (λg=>?_) (λg=>?_)
     ·have g20:(ix c_.fr (ix w_ s13.2))=(ix c_.to f_):=gQ;clear g;replace h:=if_l g20 h;replace⟨a21,h⟩:=Q1 h;simp[at_I a17,at_I a18,at_I a19,at_I a21];(repeat with_reducible refine sdQ ?_);replace⟨v22,hv22,h⟩:=bind_some h;refine Q3 (QZ _ _ _ v22 hv22) (.cons (.aggL (.cons .val (.cons .lst (.cons .lst (.cons .lst (.cons .lst .nil)))))) (.cons .val (.cons .val .nil))) ?_;replace⟨a23,h⟩:=Q1 h;simp[at_I a17,at_I a18,at_I a19,at_I a21,at_I a23];(repeat with_reducible refine sdQ ?_);replace⟨v24,hv24,h⟩:=bind_some h;refine Q3 (QZ _ _ _ v24 hv24) (.cons (.aggL (.cons .val (.cons .lst (.cons .lst (.cons .lst (.cons .lst .nil)))))) (.cons .val (.cons .val .nil))) ?_;simp[at_I a17,at_I a18,at_I a19,at_I a21,at_I a23];(repeat refine sdQ ?_);refine hK _ (bn ?_);clear hK K;exact jn (b:=v22==v24) (yJ h) (wkQ [(0,0)])
     have g20:¬((ix c_.fr (ix w_ s13.2))=(ix c_.to f_)):=gQ;clear g;replace h:=if_r g20 h;simp[at_I a17,at_I a18,at_I a19];(repeat refine sdQ ?_);refine hK _ (bn ?_);clear hK K;exact jn (b:=false) (yJ h) (wkQ [(0,0)])
    have g16:s13.1=true:=gQ;clear g;replace h:=if_l g16 h;simp;(repeat refine sdQ ?_);refine hK _ (bn ?_);clear hK K;exact jn (b:=true) (yJ h) (wkQ [(0,0)])
   intro b15 hb15;have h:=h15;(try rw[←hb15]at h);clear h15;(try dsimp only at h);refine runQ hN λK hK=>?_;replace⟨a25,h⟩:=Q1 h;simp[Qg a25];(repeat refine sdQ ?_);refine hK _ ?_;clear hK K;cases h;exact rn (s':=(b15,s13.2+1)) hk13 (wkQ [(0,0)])
  have g14:¬(s13.2<(w_.length:Int)):=gQ;clear g;replace h:=if_r g14 h;refine Qj (tx (lx (bh ?_)));cases h;exact jn (b:=s13.1) hk13 (wkQ [(0,0)])
 intro b1 hb1;have h:=h1;try rw[←hb1]at h
 clear h1;try dsimp only at h
 refine Q0 (Q0 (runQ hN λK hK=>?_));simp;repeat refine sdQ ?_
 refine hK _ ?_;clear hK K;refine tn (Q6 rfl (λg=>?_) λg=>?_)
 ·have g26:¬(b1=true):=gQ;clear g;replace h:=if_l g26 h;refine Q0 (runQ hN λK hK=>?_);simp;repeat refine sdQ ?_
  refine hK _ (tn (Q4 (st':=⟨[(8,.val (.bool true))],[],0⟩) (wkQ []) (Qi (tr ?_))));clear hK K;have hr:=yJ h;rw[←hr];refine⟨_,(.tmp .nil),?_⟩;refine⟨(.one rfl rfl .nil),[.val (.bool true)],[],by simp[BN],by simp,(yN _)⟩
 have g26:¬(¬(b1=true)):=gQ;clear g;replace h:=if_r g26 h;refine Q7 (tn (Q0 (Q0 (runQ hN λK hK=>?_))));simp;repeat refine sdQ ?_
 refine hK _ (tn (Q4 (st':=⟨Yl w_ f_ g_ [(11,iV 0)],Y6 c_ [],1⟩) (wkQ [(0,0)]) ?_));clear hK K;replace⟨e27,h,h27⟩:=bind_some h;refine Qc (λb27:Unit=>⟨[],[],0⟩) (λb27=>yS b27=e27) ?_ ?_
 ·refine Q5 (Qm h (λs40:Int=>⟨Yl w_ f_ g_ [(11,iV s40)],Y6 c_ [],1⟩) (wkQ [(0,0)]) ?_);clear h;intro k40 s40 c40 h hk40;refine Q0 (Q0 (runQ hN λK hK=>?_));simp;repeat refine sdQ ?_
  refine hK _ ?_;clear hK K;refine tn (Q6 rfl (λg=>?_) λg=>?_)
  ·have g41:s40<(w_.length:Int):=gQ;clear g;replace h:=if_l g41 h;refine Q7 (tn (Q0 (Q5 (Q0 ?_))));replace⟨e42,h,h42⟩:=bind_some h;refine Qc (λb42:Bool=>⟨Yl w_ f_ g_ [(11,iV s40),(90,.val (.bool b42))],Y6 c_ [],1⟩) (λb42=>b42=e42) ?_ ?_
   ·refine runQ hN λK hK=>?_;replace⟨a43,h⟩:=Q1 h;replace⟨a44,h⟩:=Q1 h;replace⟨a45,h⟩:=Q1 h;simp[at_I a43,at_I a44,at_I a45];(repeat with_reducible refine sdQ ?_);refine Qv (λg=>?_) (λg=>?_)
    ·have g46:(ix c_.to (ix w_ s40))=(ix c_.fr f_):=gQ;clear g;replace h:=if_l g46 h;replace⟨a47,h⟩:=Q1 h;simp[at_I a43,at_I a44,at_I a45,at_I a47];(repeat with_reducible refine sdQ ?_);replace⟨v48,hv48,h⟩:=bind_some h;refine Q3 (QZ _ _ _ v48 hv48) (.cons (.aggL (.cons .val (.cons .lst (.cons .lst (.cons .lst (.cons .lst .nil)))))) (.cons .val (.cons .val .nil))) ?_;replace⟨a49,h⟩:=Q1 h;simp[at_I a43,at_I a44,at_I a45,at_I a47,at_I a49];(repeat with_reducible refine sdQ ?_);replace⟨v50,hv50,h⟩:=bind_some h;refine Q3 (QZ _ _ _ v50 hv50) (.cons (.aggL (.cons .val (.cons .lst (.cons .lst (.cons .lst (.cons .lst .nil)))))) (.cons .val (.cons .val .nil))) ?_;simp[at_I a43,at_I a44,at_I a45,at_I a47,at_I a49];(repeat refine sdQ ?_);refine hK _ ?_;exact jn (b:=v48==v50) (yJ h) (wkQ [(0,0)])
    have g46:¬((ix c_.to (ix w_ s40))=(ix c_.fr f_)):=gQ;clear g;replace h:=if_r g46 h;simp[at_I a43,at_I a44,at_I a45];(repeat refine sdQ ?_);refine hK _ ?_;exact jn (b:=false) (yJ h) (wkQ [(0,0)])
   intro b42 hb42;have h:=h42;(try rw[←hb42]at h);clear h42;(try dsimp only at h);refine Q6 rfl (λg=>?_) λg=>?_
   ·have g51:b42=true:=gQ;clear g;replace h:=if_l g51 h;refine Q0 (runQ hN λK hK=>?_);simp;(repeat refine sdQ ?_);refine hK _ (tn (Q4 (st':=⟨[(8,.val (.bool true))],[],0⟩) (wkQ []) (Qi (br (tr (lr (br (tr ?_))))))));clear hK K;cases h;have q:_=e27:=hk40;have h:=h27;rw[←q]at h;clear q;(try dsimp only at h);have hr:=yJ h;rw[←hr];refine⟨_,(.tmp .nil),?_⟩;refine⟨(.one rfl rfl .nil),[.val (.bool true)],[],by simp[BN],by simp,(yN _)⟩
   have g51:¬(b42=true):=gQ;clear g;replace h:=if_r g51 h;refine Q7 (bn (tn (runQ hN λK hK=>?_)));replace⟨a52,h⟩:=Q1 h;simp[Qg a52];(repeat refine sdQ ?_);refine hK _ ?_;clear hK K;cases h;exact rn (s':=s40+1) hk40 (wkQ [(0,0)])
  have g41:¬(s40<(w_.length:Int)):=gQ;clear g;replace h:=if_r g41 h;refine Qj (tx (lx (bh ?_)));cases h;exact jn (b:=()) hk40 (wkQ [])
 intro b27 hb27;have h:=h27;try rw[←hb27]at h
 clear h27;try dsimp only at h
 refine Q0 (runQ hN λK hK=>?_);simp;repeat refine sdQ ?_
 refine hK _ (tn (Q4 (st':=⟨[(8,.val (.bool false))],[],0⟩) (wkQ []) (Qi ?_)));clear hK K;have hr:=yJ h;rw[←hr];refine⟨_,(.tmp .nil),?_⟩;refine⟨(.one rfl rfl .nil),[.val (.bool false)],[],by simp[BN],by simp,(yN _)⟩
section
attribute [local simp] Qa QD Qo QM Qx
theorem bo_or(p q:Prop):(bo p||bo q)=bo (p∨q):=by
 by_cases h1:p
 ·rw[Qu h1,Qu (Or.inl h1)];rfl
 by_cases h2:q
 ·rw[Qp h1,Qu h2,Qu (Or.inr h2)];rfl
 rw[Qp h1,Qp h2,Qp (λh=>h.elim h1 h2)];rfl
theorem or_loop{body:Bool×Int→Option (Ctl (Bool×Int) Bool)}(n:Nat)(p:Nat→Prop)(hn:n<4611686018427387904)(h1:∀i:Nat,i<n→body (true,(i:Int))=some (.next (true,(i:Int)+1)))(h2:∀i:Nat,i<n→body (false,(i:Int))=some (.next (bo (p i),(i:Int)+1)))(h3:∀b,body (b,(n:Int))=some (.ret b)):Qd body fuel (false,0)=some (bo (∃j,j<n∧p j)):=by
 refine Q1d (λi:Nat=>(bo (∃j,j<i∧p j),(i:Int))) n (by rw[Qp (by rintro ⟨j,hj,_⟩;omega)];rfl) hn (λi hi=>?_) (h3 _);have e:bo (∃j,j<i+1∧p j)=(bo (∃j,j<i∧p j)||bo (p i)):=by
  rw[bo_or];refine Q9g ⟨λ⟨j,hj,hp⟩=>?_,λh=>?_⟩
  ·rcases Nat.lt_or_ge j i with q|q
   ·exact .inl ⟨j,q,hp⟩
   have:j=i:=(by omega);subst this;exact .inr hp
  rcases h with⟨j,hj,hp⟩|hp
  ·exact⟨j,by omega,hp⟩
  exact⟨i,by omega,hp⟩
 simp only[e];cases hb:bo (∃j,j<i∧p j)with
 |true=>rw[h1 i hi];simp
 |false=>rw[h2 i hi];simp
theorem e_outW{c:Cat}(hc:c.Is)(x:Int):Q1u c x=some (flt c.fr.length λa:Nat=>ix c.fr a=x):=by
 have hn:=hc.nums;unfold Q1u;refine Q11 c.fr.length (λi=>flt i λa:Nat=>ix c.fr a=x) (e:=flt c.fr.length λa:Nat=>ix c.fr a=x) rfl (by omega) (λi hi=>?_) (by simp) rfl;have hl:=Q2q i λa:Nat=>ix c.fr a=x
 by_cases h1:ix c.fr i=x
 ·rw[Q2r h1];simp(disch:=omega) [Q2,B64,h1];try omega
 rw[Q2b h1];simp(disch:=omega) [Q2,B64,h1];try omega
theorem e_intoW{c:Cat}(hc:c.Is)(x:Int):Q1a c x=some (flt c.fr.length λa:Nat=>ix c.to a=x):=by
 have hn:=hc.nums;unfold Q1a;refine Q11 c.fr.length (λi=>flt i λa:Nat=>ix c.to a=x) (e:=flt c.fr.length λa:Nat=>ix c.to a=x) rfl (by omega) (λi hi=>?_) (by simp;omega) rfl;have hl:=Q2q i λa:Nat=>ix c.to a=x
 by_cases h1:ix c.to i=x
 ·rw[Q2r h1];simp(disch:=omega) [Q2,B64,h1];try omega
 rw[Q2b h1];simp(disch:=omega) [Q2,B64,h1];try omega
theorem flt_ex{n:Nat}{P:Nat→Prop}{Q:Int→Prop}:(∃j,j<(flt n P).length∧Q (ix (flt n P) j))↔∃a:Nat,a<n∧P a∧Q a:=by
 constructor
 ·rintro ⟨j,hj,hq⟩
  obtain⟨k,k1,k2,k3⟩:=Q68 hj;exact⟨k,k1,k2,by rw[←k3];exact hq⟩
 rintro ⟨a,h1,h2,h3⟩
 have:(a:Int)∈flt n P:=mem_flt.2 ⟨a,h1,h2,rfl⟩;obtain⟨j,hj,e⟩:=zX this;refine⟨j,hj,?_⟩;rw[←Q16 _ _ hj,e];exact h3
theorem w_ex{c:Cat}{w:List Int}(hw:InW c w){Q:Int→Prop}:(∃j,j<w.length∧Q (ix w j))↔∃v∈w,Q v:=by
 constructor
 ·rintro ⟨j,hj,hq⟩
  exact⟨_,by rw[←Q16 _ _ hj];exact zY hj,hq⟩
 rintro ⟨v,hv,hq⟩
 obtain⟨j,hj,e⟩:=zX hv;exact⟨j,hj,by rw[←Q16 _ _ hj,e];exact hq⟩
def Ask(c:Cat)(w:List Int)(f g v:Int):Prop:=ix c.fr v=ix c.to f∧v∈w∧ix (rx c.cs f) v=ix (rx c.cs g) v
def Ans(c:Cat)(w:List Int)(f g v:Int):Prop:=ix c.to v=ix c.fr f∧v∈w∧ix (rx c.cs v) f=ix (rx c.cs v) g
def Cnc(c:Cat)(w:List Int)(f g:Int):Prop:=(∃v∈w,Ask c w f g v)→∃v∈w,Ans c w f g v
theorem Qb0{c:Cat}(hc:c.Is){w:List Int}(hw:InW c w){f g:Int}(hf:0≤f∧f<(c.fr.length:Int))(hg:0≤g∧g<(c.fr.length:Int)):QP (wD c w) f g=some (bo (Cnc c w f g)):=by
 have hn:=hc.nums;have ht:=Q7j c w;unfold QP;simp only[show(wD c w).c_=c from rfl];rw[Q2 (by omega),e_outW hc];simp only[yR];have lo:=Q2q c.fr.length λa:Nat=>ix c.fr a=ix c.to f;have li:=Q2q c.fr.length λa:Nat=>ix c.to a=ix c.fr f;have at1:∀i:Nat,i<(flt c.fr.length λa:Nat=>ix c.fr a=ix c.to f).length→(0≤ix (flt c.fr.length λa:Nat=>ix c.fr a=ix c.to f) i∧ix (flt c.fr.length λa:Nat=>ix c.fr a=ix c.to f) i<(c.fr.length:Int)):=λi hi=>by
  obtain⟨k,k1,_,k3⟩:=Q68 hi;rw[k3];omega
 have at2:∀i:Nat,i<(flt c.fr.length λa:Nat=>ix c.to a=ix c.fr f).length→(0≤ix (flt c.fr.length λa:Nat=>ix c.to a=ix c.fr f) i∧ix (flt c.fr.length λa:Nat=>ix c.to a=ix c.fr f) i<(c.fr.length:Int)):=λi hi=>by
  obtain⟨k,k1,_,k3⟩:=Q68 hi;rw[k3];omega
 rw[or_loop (flt c.fr.length λa:Nat=>ix c.fr a=ix c.to f).length (λi=>ix (flt c.fr.length λa:Nat=>ix c.fr a=ix c.to f) i∈w∧ix (rx c.cs f) (ix (flt c.fr.length λa:Nat=>ix c.fr a=ix c.to f) i)=ix (rx c.cs g) (ix (flt c.fr.length λa:Nat=>ix c.fr a=ix c.to f) i)) (by omega) (λi hi=>?_) (λi hi=>?_) (λb=>by simp)];rotate_left
 ·simp only;rw[if_pos (by omega),Q2 (by omega)];simp only[if_true,yR];rw[Q2 (by unfold B64;omega)]
 ·simp only;have a:=at1 i hi;rw[if_pos (by omega),Q2 (by omega),if_neg (by simp),Q2 (by omega),Q7I a]
  by_cases h1:ix (flt c.fr.length λa:Nat=>ix c.fr a=ix c.to f) i∈w
  ·rw[Qu h1,if_pos rfl,(Q1o hc hf a).2,(Q1o hc hg a).2];simp only[yR];rw[Q2 (by unfold B64;omega)]
   by_cases h2:ix (rx c.cs f) (ix (flt c.fr.length λa:Nat=>ix c.fr a=ix c.to f) i)=ix (rx c.cs g) (ix (flt c.fr.length λa:Nat=>ix c.fr a=ix c.to f) i)
   ·rw[Qu ⟨h1,h2⟩];simp[h2]
   rw[Qp (λq=>h2 q.2)];simp[h2]
  rw[Qp h1,if_neg (by simp),Qp (λq=>h1 q.1)];simp only[yR];rw[Q2 (by unfold B64;omega)]
 simp only[yR];have ask:(∃j,j<(flt c.fr.length λa:Nat=>ix c.fr a=ix c.to f).length∧ix (flt c.fr.length λa:Nat=>ix c.fr a=ix c.to f) j∈w∧ix (rx c.cs f) (ix (flt c.fr.length λa:Nat=>ix c.fr a=ix c.to f) j)=ix (rx c.cs g) (ix (flt c.fr.length λa:Nat=>ix c.fr a=ix c.to f) j))↔∃v∈w,Ask c w f g v:=by
  rw[flt_ex (Q:=λv=>v∈w∧ix (rx c.cs f) v=ix (rx c.cs g) v)];constructor
  ·rintro ⟨a,a1,a2,a3,a4⟩;exact⟨a,a3,a2,a3,a4⟩
  rintro ⟨v,v1,v2,v3,v4⟩
  obtain⟨k,rfl⟩:=Int.eq_ofNat_of_zero_le (hw.mem v1).1;exact⟨k,by have:=(hw.mem v1).2;omega,v2,v3,v4⟩
 by_cases hask:∃v∈w,Ask c w f g v
 case neg=>
  rw[Qp (λq=>hask (ask.1 q)),if_pos (by simp),Qu (show Cnc c w f g from λq=>absurd q hask)]
 rw[Qu (ask.2 hask),if_neg (by simp)];rw[Q2 hf,e_intoW hc];simp only[yR];have ans:(∃j,j<(flt c.fr.length λa:Nat=>ix c.to a=ix c.fr f).length∧ix (flt c.fr.length λa:Nat=>ix c.to a=ix c.fr f) j∈w∧ix (rx c.cs (ix (flt c.fr.length λa:Nat=>ix c.to a=ix c.fr f) j)) f=ix (rx c.cs (ix (flt c.fr.length λa:Nat=>ix c.to a=ix c.fr f) j)) g)↔∃v∈w,Ans c w f g v:=by
  rw[flt_ex (Q:=λv=>v∈w∧ix (rx c.cs v) f=ix (rx c.cs v) g)];constructor
  ·rintro ⟨a,a1,a2,a3,a4⟩;exact⟨a,a3,a2,a3,a4⟩
  rintro ⟨v,v1,v2,v3,v4⟩
  obtain⟨k,rfl⟩:=Int.eq_ofNat_of_zero_le (hw.mem v1).1;exact⟨k,by have:=(hw.mem v1).2;omega,v2,v3,v4⟩
 refine Qa9 (flt c.fr.length λa:Nat=>ix c.to a=ix c.fr f).length (λj=>¬(ix (flt c.fr.length λa:Nat=>ix c.to a=ix c.fr f) j∈w∧ix (rx c.cs (ix (flt c.fr.length λa:Nat=>ix c.to a=ix c.fr f) j)) f=ix (rx c.cs (ix (flt c.fr.length λa:Nat=>ix c.to a=ix c.fr f) j)) g)) (eb:=yT true) (eg:=yS ()) (by omega) (λi hi hp=>?_) (λi hi hp=>?_) (by rw[if_neg (by omega)]) (λh=>?_) λh=>?_
 ·have a:=at2 i hi;rw[if_pos (by omega),Q2 (by omega),Q2 (by omega),Q7I a]
  by_cases h1:ix (flt c.fr.length λa:Nat=>ix c.to a=ix c.fr f) i∈w
  ·rw[Qu h1,if_pos rfl,(Q1o hc a hf).2];simp only[yR];rw[(Q1o hc a hg).2];simp only[yR];rw[if_neg (by simpa using λq=>hp ⟨h1,q⟩),Q2 (by unfold B64;omega)]
  rw[Qp h1,if_neg (by simp)];simp only[yR,zG,if_false];rw[Q2 (by unfold B64;omega)]
 ·have a:=at2 i hi;obtain⟨h1,h2⟩:=Classical.not_not.1 hp;rw[if_pos (by omega),Q2 (by omega),Q2 (by omega),Q7I a,Qu h1,if_pos rfl,(Q1o hc a hf).2];simp only[yR];rw[(Q1o hc a hg).2];simp only[yR];rw[if_pos (by simpa using h2)]
 ·have hx:∃v∈w,Ans c w f g v:=ans.1 (yL λq=>h λi hi hh=>q ⟨i,hi,hh⟩);rw[Qu (show Cnc c w f g from λ_=>hx)]
 rw[Qp (show¬Cnc c w f g from λq=>by
  obtain⟨i,hi,hh⟩:=ans.2 (q hask);exact h i hi hh)]
theorem Qb1{c:Cat}(hc:c.Is){w:List Int}(hw:InW c w)(hl:w.length≤1048576){f g:Int}(hf:0≤f∧f<(c.fr.length:Int))(hg:0≤g∧g<(c.fr.length:Int)):Q1N c w f g=some (bo (Cnc c w f g)):=by
 have hn:=hc.nums;unfold Q1N;rw[or_loop w.length (λi=>ix c.fr (ix w i)=ix c.to f∧ix (rx c.cs f) (ix w i)=ix (rx c.cs g) (ix w i)) (by omega) (λi hi=>?_) (λi hi=>?_) (λb=>by simp)];rotate_left
 ·simp only;rw[if_pos (by omega)];simp only[if_true,yR];rw[Q2 (by unfold B64;omega)]
 ·simp only;have a:=hw.at hi;rw[if_pos (by omega),if_neg (by simp),Q2 (by omega),Q2 (by omega),Q2 (by omega)]
  by_cases h1:ix c.fr (ix w i)=ix c.to f
  ·rw[if_pos h1,Q2 (by omega),(Q1o hc hf a).1];simp only[yR];rw[Q2 (by omega),(Q1o hc hg a).1];simp only[yR];rw[Q2 (by unfold B64;omega)]
   by_cases h2:ix (rx c.cs f) (ix w i)=ix (rx c.cs g) (ix w i)
   ·rw[Qu ⟨h1,h2⟩];simp[h2]
   rw[Qp (λq=>h2 q.2)];simp[h2]
  rw[if_neg h1,Qp (λq=>h1 q.1)];simp only[yR];rw[Q2 (by unfold B64;omega)]
 simp only[yR];have ask:(∃j,j<w.length∧ix c.fr (ix w j)=ix c.to f∧ix (rx c.cs f) (ix w j)=ix (rx c.cs g) (ix w j))↔∃v∈w,Ask c w f g v:=by
  rw[w_ex hw (Q:=λv=>ix c.fr v=ix c.to f∧ix (rx c.cs f) v=ix (rx c.cs g) v)];exact⟨λ⟨v,v1,v2,v3⟩=>⟨v,v1,v2,v1,v3⟩,λ⟨v,v1,v2,_,v3⟩=>⟨v,v1,v2,v3⟩⟩
 by_cases hask:∃v∈w,Ask c w f g v
 case neg=>
  rw[Qp (λq=>hask (ask.1 q)),if_pos (by simp),Qu (show Cnc c w f g from λq=>absurd q hask)]
 rw[Qu (ask.2 hask),if_neg (by simp)];have ans:(∃j,j<w.length∧ix c.to (ix w j)=ix c.fr f∧ix (rx c.cs (ix w j)) f=ix (rx c.cs (ix w j)) g)↔∃v∈w,Ans c w f g v:=by
  rw[w_ex hw (Q:=λv=>ix c.to v=ix c.fr f∧ix (rx c.cs v) f=ix (rx c.cs v) g)];exact⟨λ⟨v,v1,v2,v3⟩=>⟨v,v1,v2,v1,v3⟩,λ⟨v,v1,v2,_,v3⟩=>⟨v,v1,v2,v3⟩⟩
 refine Qa9 w.length (λj=>¬(ix c.to (ix w j)=ix c.fr f∧ix (rx c.cs (ix w j)) f=ix (rx c.cs (ix w j)) g)) (eb:=yT true) (eg:=yS ()) (by omega) (λi hi hp=>?_) (λi hi hp=>?_) (by rw[if_neg (by omega)]) (λh=>?_) λh=>?_
 ·have a:=hw.at hi;rw[if_pos (by omega),Q2 (by omega),Q2 (by omega),Q2 (by omega)]
  by_cases h1:ix c.to (ix w i)=ix c.fr f
  ·rw[if_pos h1,Q2 (by omega),(Q1o hc a hf).1];simp only[yR];rw[Q2 (by omega),(Q1o hc a hg).1];simp only[yR];rw[if_neg (by simpa using λq=>hp ⟨h1,q⟩),Q2 (by unfold B64;omega)]
  rw[if_neg h1];simp only[yR,zG,if_false];rw[Q2 (by unfold B64;omega)]
 ·have a:=hw.at hi;obtain⟨h1,h2⟩:=Classical.not_not.1 hp;rw[if_pos (by omega),Q2 (by omega),Q2 (by omega),Q2 (by omega),if_pos h1,Q2 (by omega),(Q1o hc a hf).1];simp only[yR];rw[Q2 (by omega),(Q1o hc a hg).1];simp only[yR];rw[if_pos (by simpa using h2)]
 ·have hx:∃v∈w,Ans c w f g v:=ans.1 (yL λq=>h λi hi hh=>q ⟨i,hi,hh⟩);rw[Qu (show Cnc c w f g from λ_=>hx)]
 rw[Qp (show¬Cnc c w f g from λq=>by
  obtain⟨i,hi,hh⟩:=ans.2 (q hask);exact h i hi hh)]
end
attribute [local simp] unk unA unE unT unC flat eL eI Qh QI Cat.cells
def Q1y(c_:Cat)(list_:List Int)(objects_:List Int):Option (Int⊕(List Bool)):=
 (Q2h c_ list_).bind λv2=>
 if¬(v2=0)then
  some (yS v2)
 else
  (Q2U objects_ c_.n).bind λv4=>
  if¬(v4=true)then
   some (yS 2)
  else
   (Q3z list_).bind λv6=>
   if¬(v6=true)then
    some (yS 5)
   else
    (Q1t c_ list_).bind λv8=>
    some (yT v8)
@[simp] abbrev YL(a:List (Nat×AV)):List (Nat×AV):=(6,.val (.pointer none))::a
@[simp] abbrev Y0k(a:List (Nat×AV)):List (Nat×AV):=(6,.adr 0 0 0)::(7,iV 0)::a
@[simp] abbrev Y0v(a:Cat)(b:List (AV)):List (AV):=.rptr (Cat.cells true a)::b
theorem Q4q(c_:Cat)(list_:List Int)(objects_:List Int)(v9:Int⊕(List Bool))(h:Q1y c_ list_ objects_=some v9):ICon Tryz.prog 61 [.rptr (c_.cells true),lI list_,lI objects_] (λ_=>none) 0 (match v9 with|.inl v9=>({v:=.tup [.val (.pointer none),iV v9],set:=[],del:=[],new:=[],cnt:=0}:Eff)|.inr v9=>({v:=.tup [.adr 0 0 0,iV 0],set:=[],del:=[],new:=[(0,.mix 3 [(Y0v c_ [lI list_,.own 1 0 v9.length])]),(1,.row 1 (Bs v9))],cnt:=2}:Eff)):=by
 refine Q1D (ts:=[6,7]) (H:=[]) Tryz.func61 rfl rfl rfl (by simp[Tryz.f61]) (by simp) (Q4L (by rcases v9 with v9|v9<;>simp)) (newI (by rcases v9 with v9|v9<;>rfl)) λF hN hP=>?_;unfold Q1y at h;refine Q0 (rxQ hN λK hK=>?_);simp;repeat refine sdQ ?_
 refine hK _ ?_;clear hK K;refine tn (Q4 (st':=⟨Yt c_ [(1,lI list_),(2,lI objects_)],[],0⟩) (wkQ []) (Q0 (Q0 (rxQ hN λK hK=>?_))));simp;repeat with_reducible refine sdQ ?_
 replace⟨v2,hv2,h⟩:=bind_some h;refine QG (fz:=[]) (Q88 _ _ v2 hv2) (.cons (.preT (by simp[CN])) (.cons .lst .nil)) ?_;simp;repeat refine sdQ ?_
 refine hK _ ?_;clear hK K;refine tn (Q4 (st':=⟨Yt c_ [(1,lI list_),(2,lI objects_),(8,iV v2)],[],0⟩) (wkQ []) (Q0 (rxQ hN λK hK=>?_)));simp;repeat refine sdQ ?_
 refine hK _ ?_;clear hK K;refine tn (Q6 rfl (λg=>?_) λg=>?_)
 ·have g3:¬(v2=0):=gQ;clear g;replace h:=if_l g3 h;refine Q0 (rxQ hN λK hK=>?_);simp;repeat refine sdQ ?_
  refine hK _ (tn (Q4 (st':=⟨YL [(7,iV v2)],[],0⟩) (wkQ []) (Qi (tr ?_))));clear hK K;cases h;try dsimp only
  first|refine iw_r (st':=⟨YL [(7,iV v2)],[],0⟩) ?_ ?_|refine iw_n (st':=⟨YL [(7,iV v2)],[],0⟩) ?_ ?_
  ·exact wkQ []
  exact⟨by simp[QU],by simp,by simp[CN]⟩
 have g3:¬(¬(v2=0)):=gQ;clear g;replace h:=if_r g3 h;refine Q7 (tn (Q0 (Q0 (rxQ hN λK hK=>?_))));simp;repeat with_reducible refine sdQ ?_
 replace⟨v4,hv4,h⟩:=bind_some h;refine QG (fz:=[]) (Q7k _ _ v4 hv4) (.cons .lst (.cons .val .nil)) ?_;simp;repeat refine sdQ ?_
 refine hK _ ?_;clear hK K;refine tn (Q4 (st':=⟨Yt c_ [(1,lI list_),(21,.val (.bool (!v4)))],[],0⟩) (wkQ []) (Q6 rfl (λg=>?_) λg=>?_))
 ·have g5:¬(v4=true):=gQ;clear g;replace h:=if_l g5 h;refine Q0 (rxQ hN λK hK=>?_);simp;repeat refine sdQ ?_
  refine hK _ (tn (Q4 (st':=⟨YL [(7,iV 2)],[],0⟩) (wkQ []) (Qi (tr ?_))));clear hK K;cases h;try dsimp only
  first|refine iw_r (st':=⟨YL [(7,iV 2)],[],0⟩) ?_ ?_|refine iw_n (st':=⟨YL [(7,iV 2)],[],0⟩) ?_ ?_
  ·exact wkQ []
  exact⟨by simp[QU],by simp,by simp[CN]⟩
 have g5:¬(¬(v4=true)):=gQ;clear g;replace h:=if_r g5 h;refine Q7 (tn (Q0 (Q0 (rxQ hN λK hK=>?_))));simp;repeat with_reducible refine sdQ ?_
 replace⟨v6,hv6,h⟩:=bind_some h;refine QG (fz:=[]) (Qbt _ v6 hv6) (.cons .lst .nil) ?_;simp;repeat refine sdQ ?_
 refine hK _ ?_;clear hK K;refine tn (Q4 (st':=⟨Yt c_ [(1,lI list_),(24,.val (.bool (!v6)))],[],0⟩) (wkQ []) (Q6 rfl (λg=>?_) λg=>?_))
 ·have g7:¬(v6=true):=gQ;clear g;replace h:=if_l g7 h;refine Q0 (rxQ hN λK hK=>?_);simp;repeat refine sdQ ?_
  refine hK _ (tn (Q4 (st':=⟨YL [(7,iV 5)],[],0⟩) (wkQ []) (Qi (tr ?_))));clear hK K;cases h;try dsimp only
  first|refine iw_r (st':=⟨YL [(7,iV 5)],[],0⟩) ?_ ?_|refine iw_n (st':=⟨YL [(7,iV 5)],[],0⟩) ?_ ?_
  ·exact wkQ []
  exact⟨by simp[QU],by simp,by simp[CN]⟩
 have g7:¬(¬(v6=true)):=gQ;clear g;replace h:=if_r g7 h;refine Q7 (tn (Q0 (rxQ hN λK hK=>?_)));simp;repeat with_reducible refine sdQ ?_
 replace⟨v8,hv8,h⟩:=bind_some h;refine QG (fz:=[]) (Q53 _ _ v8 hv8) (.cons (.preT (by simp[CN])) (.cons .lst .nil)) ?_;simp;repeat refine sdQ ?_
 refine hK _ (tn (Q4 (st':=⟨Y0k [],[(0,.mix 3 [(Y0v c_ [lI list_,.own 1 0 v8.length])]),(1,.row 1 (Bs v8))],2⟩) (wkQ [(1,0),(0,1)]) (Qi ?_)));clear hK K;cases h;try dsimp only
 first|refine iw_r (st':=⟨Y0k [],[(0,.mix 3 [(Y0v c_ [lI list_,.own 1 0 v8.length])]),(1,.row 1 (Bs v8))],2⟩) ?_ ?_|refine iw_n (st':=⟨Y0k [],[(0,.mix 3 [(Y0v c_ [lI list_,.own 1 0 v8.length])]),(1,.row 1 (Bs v8))],2⟩) ?_ ?_
 ·exact wkQ [(0,0),(1,1)]
 exact⟨by simp[QU],by simp,by simp[CN]⟩
attribute [local simp] unk unA unE unT unC flat eL eI Qh QI Qz Cat.cells XD.cells
def QJ(w_:XD)(f_:Int)(v_:Int):Option Bool:=
 (QS w_ f_ v_).bind λv1=>
 some v1.2.2
theorem Q3c(w_:XD)(f_:Int)(v_:Int)(r:Bool)(h:QJ w_ f_ v_=some r):Contract Tryz.prog 90 [.rptr (w_.cells true),iV f_,iV v_] (.val (.bool r)):=by
 refine Q9 (rvs:=[.tmp 6]) (rs:=[.val (.bool r)]) Tryz.func90 rfl rfl rfl rfl (by simp[Tryz.f90]) λF hN hP=>?_;unfold QJ at h;refine Q0 (runQ hN λK hK=>?_);simp;repeat refine sdQ ?_
 refine hK _ ?_;clear hK K;refine tn (Q4 (st':=⟨Y0 w_ (YV f_ v_ []),[],0⟩) (wkQ []) (Q0 (runQ hN λK hK=>?_)));simp;repeat with_reducible refine sdQ ?_
 replace⟨v1,hv1,h⟩:=bind_some h;refine Q3 (Q2n _ _ _ v1 hv1) (.cons (.preT (by simp[CN])) (.cons .val (.cons .val .nil))) ?_;simp;repeat refine sdQ ?_
 refine hK _ ?_;clear hK K;refine tn (Q4 (st':=⟨[(9,.val (.bool v1.2.2))],[],0⟩) (wkQ []) (Q0 (runQ hN λK hK=>?_)));simp;repeat refine sdQ ?_
 refine hK _ (tn (Q4 (st':=⟨[(6,.val (.bool v1.2.2))],[],0⟩) (wkQ []) (Qi ?_)));clear hK K;have hr:=yJ h;rw[←hr];refine⟨_,(.tmp .nil),?_⟩;refine⟨(.one rfl rfl .nil),[.val (.bool v1.2.2)],[],by simp[BN],by simp,(yN _)⟩
attribute [local simp] unk unA unE unT unC flat eL eI Qh QI Q4x Qz Cat.cells Ends.cells XD.cells
def QW(w_:XD):Option (Int×Int×Int):=
 (QN w_).bind λv1=>
 if v1.2.2=true then
  some (1,v1.1,v1.2.1)
 else
  (Qt w_.c_).bind λv3=>
  (Qd (σ:=Int) (ε:=Unit⊕(Int×Int×Int)) (λs27=>
   if s27<v3 then
    (
     (Qd (σ:=Int) (ε:=(Int×Int×Int)⊕Unit) (λs39=>
      if s39<(w_.list_.length:Int)then
       ass (0≤s39∧s39<(w_.list_.length:Int))<|
       (
        ass (0≤s27∧s27<(w_.c_.to.length:Int))<|
        ass (0≤ix w_.list_ s39∧ix w_.list_ s39<(w_.c_.to.length:Int))<|
        if(ix w_.c_.to s27)=(ix w_.c_.to (ix w_.list_ s39))then
         (QJ w_ s27 (ix w_.list_ s39)).bind λv46=>
         some (!v46)
        else
         some false:Option (Bool)).bind λb42=>
       if b42=true then
        some (yK (yS (2,s27,ix w_.list_ s39)))
       else
        ass (B64 (s39+1))<|
        some (yM (s39+1))
      else
       some (yK (yT ()))) fuel 0).bind λe39=>
     match e39 with
     | .inl p39=>
      some (yT p39)
     | .inr p39=>
      some (yS p39):Option (Unit⊕(Int×Int×Int))).bind λe29=>
    match e29 with
    | .inl b29=>
     ass (B64 (s27+1))<|
     some (yM (s27+1))
    | .inr p29=>
     some (yK (yT p29))
   else
    some (yK (yS ()))) fuel 0).bind λe4=>
  match e4 with
  | .inl b4=>
   (Qd (σ:=Int) (ε:=Unit⊕(Int×Int×Int)) (λs71=>
    if s71<v3 then
     (
      ass (B64 (s71+1))<|
      (Qd (σ:=Int) (ε:=(Int×Int×Int)⊕Unit) (λs84=>
       if s84<v3 then
        (
         (Q19 w_.c_ s71).bind λv87=>
         (Q19 w_.c_ s84).bind λv88=>
         if v87.a=v88.a∧v87.b=v88.b then
          (QP w_ s71 s84).bind λv90=>
          some (!v90)
         else
          some false:Option (Bool)).bind λb86=>
        if b86=true then
         some (yK (yS (3,s71,s84)))
        else
         ass (B64 (s84+1))<|
         some (yM (s84+1))
       else
        some (yK (yT ()))) fuel (s71+1)).bind λe84=>
      match e84 with
      | .inl p84=>
       some (yT p84)
      | .inr p84=>
       some (yS p84):Option (Unit⊕(Int×Int×Int))).bind λe73=>
     match e73 with
     | .inl b73=>
      ass (B64 (s71+1))<|
      some (yM (s71+1))
     | .inr p73=>
      some (yK (yT p73))
    else
     some (yK (yS ()))) fuel 0).bind λe50=>
   match e50 with
   | .inl b50=>
    some (0,(-1),(-1))
   | .inr p50=>
    some p50
  | .inr p4=>
   some p4
@[simp] abbrev Y0i(a b:Int)(c:XD)(d:List (Nat×AV)):List (Nat×AV):=(28,iV a)::(29,iV b)::(35,lI c.list_)::(36,iV (c.list_.length:Int))::d
theorem Q44(w_:XD)(r:Int×Int×Int)(h:QW w_=some r):Contract Tryz.prog 62 [.rptr (w_.cells true)] (.tup [iV r.1,iV r.2.1,iV r.2.2]):=by
 refine Q9 (rvs:=[.tmp 2,.tmp 3,.tmp 4]) (rs:=[iV r.1,iV r.2.1,iV r.2.2]) Tryz.func62 rfl rfl rfl rfl (by simp[Tryz.f62]) λF hN hP=>?_;unfold QW at h;refine Q0 (runQ hN λK hK=>?_);simp;repeat refine sdQ ?_
 refine hK _ ?_;clear hK K;refine tn (Q4 (st':=⟨Y0 w_ [],[],0⟩) (wkQ []) (Q0 (Q0 (runQ hN λK hK=>?_))));simp;repeat with_reducible refine sdQ ?_
 replace⟨v1,hv1,h⟩:=bind_some h;refine Q3 (Q2Q _ v1 hv1) (.cons (.preT (by simp[CN])) .nil) ?_;simp;repeat refine sdQ ?_
 refine hK _ ?_;clear hK K;refine tn (Q4 (st':=⟨Y0 w_ [(5,iV v1.1),(6,iV v1.2.1),(7,.val (.bool v1.2.2))],[],0⟩) (wkQ []) (Q0 (runQ hN λK hK=>?_)));simp;repeat refine sdQ ?_
 refine hK _ ?_;clear hK K;refine tn (Q6 rfl (λg=>?_) λg=>?_)
 ·have g2:v1.2.2=true:=gQ;clear g;replace h:=if_l g2 h;refine Q0 (runQ hN λK hK=>?_);simp;repeat refine sdQ ?_
  refine hK _ (tn (Q4 (st':=⟨[(2,iV 1),(3,iV v1.1),(4,iV v1.2.1)],[],0⟩) (wkQ []) (Qi (tr ?_))));clear hK K;have hr:=yJ h;rw[←hr];refine⟨_,(.tmp (.tmp (.tmp .nil))),?_⟩;refine⟨(.one rfl rfl (.one rfl rfl (.one rfl rfl .nil))),[iV 1,iV v1.1,iV v1.2.1],[],by simp[BN],by simp,(yN _)⟩
 have g2:¬(v1.2.2=true):=gQ;clear g;replace h:=if_r g2 h;refine Q7 (tn (Q0 (runQ hN λK hK=>?_)));simp;repeat with_reducible refine sdQ ?_
 replace⟨v3,hv3,h⟩:=bind_some h;refine Q3 (Q1n _ v3 hv3) (.cons (.preT (by simp[CN])) .nil) ?_;simp;repeat refine sdQ ?_
 refine hK _ ?_;clear hK K;refine tn (Q4 (st':=⟨Y0 w_ [(8,iV v3)],[],0⟩) (wkQ []) (Q0 (Q0 (runQ hN λK hK=>?_))));simp;repeat refine sdQ ?_
 refine hK _ (tn (Q4 (st':=⟨Y0 w_ [(8,iV v3),(28,iV v3),(29,iV 0)],[],0⟩) (wkQ []) ?_));clear hK K;replace⟨e4,h,h4⟩:=bind_some h;refine Qc (λb4:Unit=>⟨Y0 w_ [(8,iV v3)],[],0⟩) (λb4=>yS b4=e4) ?_ ?_
 ·refine Q5 (Qm h (λs27:Int=>⟨Y0 w_ [(8,iV v3),(28,iV v3),(29,iV s27)],[],0⟩) (wkQ []) ?_);clear h;intro k27 s27 c27 h hk27;refine Q0 (runQ hN λK hK=>?_);simp;repeat refine sdQ ?_
  refine hK _ ?_;clear hK K;refine tn (Q0 (Q6 rfl (λg=>?_) λg=>?_))
  ·have g28:s27<v3:=gQ;clear g;replace h:=if_l g28 h;refine Q7 (tn (Q0 ?_));replace⟨e29,h,h29⟩:=bind_some h;refine Qc (λb29:Unit=>⟨Y0 w_ [(8,iV v3),(28,iV v3),(29,iV s27)],[],0⟩) (λb29=>yS b29=e29) ?_ ?_
   ·refine Q5 (Q0 (runQ hN λK hK=>?_));simp;(repeat refine sdQ ?_);refine hK _ ?_;clear hK K;refine tn (Q4 (st':=⟨Y0 w_ [(8,iV v3),(9,iV s27),(28,iV v3),(29,iV s27)],[],0⟩) (wkQ []) (Q0 (runQ hN λK hK=>?_)));simp;(repeat refine sdQ ?_);refine hK _ (tn (Q4 (st':=⟨Y0 w_ ((8,iV v3)::(9,iV s27)::Y0i v3 s27 w_ [(37,iV 0)]),[],0⟩) (wkQ []) (Q5 ?_)));clear hK K;replace⟨e39,he39,h39⟩:=bind_some h;refine Qm he39 (λs39:Int=>⟨Y0 w_ ((8,iV v3)::(9,iV s27)::Y0i v3 s27 w_ [(37,iV s39)]),[],0⟩) (wkQ []) ?_;intro k39 s39 c39 h hk39;refine Q0 (runQ hN λK hK=>?_);simp;(repeat refine sdQ ?_);refine hK _ ?_;clear hK K;refine tn (Q0 (Q6 rfl (λg=>?_) λg=>?_))
    ·have g40:s39<(w_.list_.length:Int):=gQ;clear g;replace h:=if_l g40 h;refine Q7 (tn (Q0 (Q5 (Q0 (runQ hN λK hK=>?_)))));replace⟨a41,h⟩:=Q1 h;simp[at_I a41];(repeat refine sdQ ?_);refine hK _ (tn (Q4 (st':=⟨Y0 w_ ((8,iV v3)::(9,iV s27)::(11,iV (ix w_.list_ s39))::Y0i v3 s27 w_ [(37,iV s39)]),[],0⟩) (wkQ []) (Q0 ?_)));clear hK K;replace⟨e42,h,h42⟩:=bind_some h;refine Qc (λb42:Bool=>⟨Y0 w_ ((8,iV v3)::(9,iV s27)::(11,iV (ix w_.list_ s39))::Y0i v3 s27 w_ [(37,iV s39),(68,.val (.bool b42))]),[],0⟩) (λb42=>b42=e42) ?_ ?_
     ·refine runQ hN λK hK=>?_;replace⟨a43,h⟩:=Q1 h;replace⟨a44,h⟩:=Q1 h;simp[at_I a43,at_I a44];(repeat with_reducible refine sdQ ?_);refine Qv (λg=>?_) (λg=>?_)
      ·have g45:(ix w_.c_.to s27)=(ix w_.c_.to (ix w_.list_ s39)):=gQ;clear g;replace h:=if_l g45 h;simp[at_I a43,at_I a44];(repeat with_reducible refine sdQ ?_);replace⟨v46,hv46,h⟩:=bind_some h;refine Q3 (Q3c _ _ _ v46 hv46) (.cons (.preT (by simp[CN])) (.cons .val (.cons .val .nil))) ?_;simp[at_I a43,at_I a44];(repeat refine sdQ ?_);refine hK _ ?_;exact jn (b:=!v46) (yJ h) (wkQ [])
      have g45:¬((ix w_.c_.to s27)=(ix w_.c_.to (ix w_.list_ s39))):=gQ;clear g;replace h:=if_r g45 h;simp[at_I a43,at_I a44];(repeat refine sdQ ?_);refine hK _ ?_;exact jn (b:=false) (yJ h) (wkQ [])
     intro b42 hb42;have h:=h42;(try rw[←hb42]at h);clear h42;(try dsimp only at h);refine Q6 rfl (λg=>?_) λg=>?_
     ·have g47:b42=true:=gQ;clear g;replace h:=if_l g47 h;refine Q0 (runQ hN λK hK=>?_);simp;(repeat refine sdQ ?_);refine hK _ (tn (Q4 (st':=⟨[(2,iV 2),(3,iV s27),(4,iV (ix w_.list_ s39))],[],0⟩) (wkQ []) (Qi (br (tr (lr (br (br (tr (lr (br (tr ?_))))))))))));clear hK K;cases h;have q:_=e39:=hk39;have h:=h39;rw[←q]at h;clear q;(try dsimp only at h);cases h;have h:=h29;(try dsimp only at h);cases h;have q:_=e4:=hk27;have h:=h4;rw[←q]at h;clear q;(try dsimp only at h);have hr:=yJ h;rw[←hr];refine⟨_,(.tmp (.tmp (.tmp .nil))),?_⟩;refine⟨(.one rfl rfl (.one rfl rfl (.one rfl rfl .nil))),[iV 2,iV s27,iV (ix w_.list_ s39)],[],by simp[BN],by simp,(yN _)⟩
     have g47:¬(b42=true):=gQ;clear g;replace h:=if_r g47 h;refine Q7 (bn (tn (runQ hN λK hK=>?_)));replace⟨a48,h⟩:=Q1 h;simp[Qg a48];(repeat refine sdQ ?_);refine hK _ ?_;clear hK K;cases h;exact rn (s':=s39+1) hk39 (wkQ [])
    have g40:¬(s39<(w_.list_.length:Int)):=gQ;clear g;replace h:=if_r g40 h;refine Qj (tx (lx (bh (bn ?_))));cases h;have q:_=e39:=hk39;have h:=h39;rw[←q]at h;clear q;(try dsimp only at h);exact jn (b:=()) (yJ h) (wkQ [])
   intro b29 hb29;have h:=h29;(try rw[←hb29]at h);clear h29;(try dsimp only at h);refine runQ hN λK hK=>?_;replace⟨a49,h⟩:=Q1 h;simp[Qg a49];(repeat refine sdQ ?_);refine hK _ ?_;clear hK K;cases h;exact rn (s':=s27+1) hk27 (wkQ [])
  have g28:¬(s27<v3):=gQ;clear g;replace h:=if_r g28 h;refine Qj (tx (lx (bh ?_)));cases h;exact jn (b:=()) hk27 (wkQ [])
 intro b4 hb4;have h:=h4;try rw[←hb4]at h
 clear h4;try dsimp only at h
 refine Q0 (Q0 (runQ hN λK hK=>?_));simp;repeat refine sdQ ?_
 refine hK _ (tn (Q4 (st':=⟨Y0 w_ [(8,iV v3),(73,iV v3),(74,iV 0)],[],0⟩) (wkQ []) ?_));clear hK K;replace⟨e50,h,h50⟩:=bind_some h;refine Qc (λb50:Unit=>⟨[],[],0⟩) (λb50=>yS b50=e50) ?_ ?_
 ·refine Q5 (Qm h (λs71:Int=>⟨Y0 w_ [(8,iV v3),(73,iV v3),(74,iV s71)],[],0⟩) (wkQ []) ?_);clear h;intro k71 s71 c71 h hk71;refine Q0 (runQ hN λK hK=>?_);simp;repeat refine sdQ ?_
  refine hK _ ?_;clear hK K;refine tn (Q0 (Q6 rfl (λg=>?_) λg=>?_))
  ·have g72:s71<v3:=gQ;clear g;replace h:=if_l g72 h;refine Q7 (tn (Q0 ?_));replace⟨e73,h,h73⟩:=bind_some h;refine Qc (λb73:Unit=>⟨Y0 w_ [(8,iV v3),(73,iV v3),(74,iV s71)],[],0⟩) (λb73=>yS b73=e73) ?_ ?_
   ·refine Q5 (Q0 (runQ hN λK hK=>?_));simp;(repeat refine sdQ ?_);refine hK _ ?_;clear hK K;refine tn (Q4 (st':=⟨Y0 w_ [(8,iV v3),(12,iV s71),(73,iV v3),(74,iV s71)],[],0⟩) (wkQ []) (Q0 (runQ hN λK hK=>?_)));replace⟨a74,h⟩:=Q1 h;simp[Qg a74];(repeat refine sdQ ?_);refine hK _ (tn (Q4 (st':=⟨Y0 w_ [(8,iV v3),(12,iV s71),(13,iV (s71+1)),(73,iV v3),(74,iV s71)],[],0⟩) (wkQ []) (Q5 ?_)));clear hK K;replace⟨e84,he84,h84⟩:=bind_some h;refine Qm he84 (λs84:Int=>⟨Y0 w_ [(8,iV v3),(12,iV s71),(13,iV s84),(73,iV v3),(74,iV s71)],[],0⟩) (wkQ []) ?_;intro k84 s84 c84 h hk84;refine Q0 (Q0 (runQ hN λK hK=>?_));simp;(repeat refine sdQ ?_);refine hK _ ?_;clear hK K;refine tn (Q6 rfl (λg=>?_) λg=>?_)
    ·have g85:s84<v3:=gQ;clear g;replace h:=if_l g85 h;refine Q7 (tn (Q0 (Q5 (Q0 ?_))));replace⟨e86,h,h86⟩:=bind_some h;refine Qc (λb86:Bool=>⟨Y0 w_ [(8,iV v3),(12,iV s71),(13,iV s84),(73,iV v3),(74,iV s71),(103,.val (.bool b86))],[],0⟩) (λb86=>b86=e86) ?_ ?_
     ·refine runQ hN λK hK=>?_;simp;(repeat with_reducible refine sdQ ?_);replace⟨v87,hv87,h⟩:=bind_some h;refine Q3 (Q3E _ _ v87 hv87) (.cons (.preT (by simp[CN])) (.cons .val .nil)) ?_;simp;(repeat with_reducible refine sdQ ?_);replace⟨v88,hv88,h⟩:=bind_some h;refine Q3 (Q3E _ _ v88 hv88) (.cons (.preT (by simp[CN])) (.cons .val .nil)) ?_;simp;(repeat with_reducible refine sdQ ?_);refine Qv (λg=>?_) (λg=>?_)
      ·have g89:v87.a=v88.a∧v87.b=v88.b:=gQ;clear g;replace h:=if_l g89 h;simp;(repeat with_reducible refine sdQ ?_);replace⟨v90,hv90,h⟩:=bind_some h;refine Q3 (Q3G _ _ _ v90 hv90) (.cons (.preT (by simp[CN])) (.cons .val (.cons .val .nil))) ?_;simp;(repeat refine sdQ ?_);refine hK _ ?_;exact jn (b:=!v90) (yJ h) (wkQ [])
      have g89:¬(v87.a=v88.a∧v87.b=v88.b):=gQ;clear g;replace h:=if_r g89 h;simp;(repeat refine sdQ ?_);refine hK _ ?_;exact jn (b:=false) (yJ h) (wkQ [])
     intro b86 hb86;have h:=h86;(try rw[←hb86]at h);clear h86;(try dsimp only at h);refine Q6 rfl (λg=>?_) λg=>?_
     ·have g91:b86=true:=gQ;clear g;replace h:=if_l g91 h;refine Q0 (runQ hN λK hK=>?_);simp;(repeat refine sdQ ?_);refine hK _ (tn (Q4 (st':=⟨[(2,iV 3),(3,iV s71),(4,iV s84)],[],0⟩) (wkQ []) (Qi (br (tr (lr (br (br (tr (lr (br (tr ?_))))))))))));clear hK K;cases h;have q:_=e84:=hk84;have h:=h84;rw[←q]at h;clear q;(try dsimp only at h);cases h;have h:=h73;(try dsimp only at h);cases h;have q:_=e50:=hk71;have h:=h50;rw[←q]at h;clear q;(try dsimp only at h);have hr:=yJ h;rw[←hr];refine⟨_,(.tmp (.tmp (.tmp .nil))),?_⟩;refine⟨(.one rfl rfl (.one rfl rfl (.one rfl rfl .nil))),[iV 3,iV s71,iV s84],[],by simp[BN],by simp,(yN _)⟩
     have g91:¬(b86=true):=gQ;clear g;replace h:=if_r g91 h;refine Q7 (bn (tn (runQ hN λK hK=>?_)));replace⟨a92,h⟩:=Q1 h;simp[Qg a92];(repeat refine sdQ ?_);refine hK _ ?_;clear hK K;cases h;exact rn (s':=s84+1) hk84 (wkQ [])
    have g85:¬(s84<v3):=gQ;clear g;replace h:=if_r g85 h;refine Qj (tx (lx (bh (bn ?_))));cases h;have q:_=e84:=hk84;have h:=h84;rw[←q]at h;clear q;(try dsimp only at h);exact jn (b:=()) (yJ h) (wkQ [])
   intro b73 hb73;have h:=h73;(try rw[←hb73]at h);clear h73;(try dsimp only at h);refine runQ hN λK hK=>?_;replace⟨a93,h⟩:=Q1 h;simp[Qg a93];(repeat refine sdQ ?_);refine hK _ ?_;clear hK K;cases h;exact rn (s':=s71+1) hk71 (wkQ [])
  have g72:¬(s71<v3):=gQ;clear g;replace h:=if_r g72 h;refine Qj (tx (lx (bh ?_)));cases h;exact jn (b:=()) hk71 (wkQ [])
 intro b50 hb50;have h:=h50;try rw[←hb50]at h
 clear h50;try dsimp only at h
 refine Q0 (runQ hN λK hK=>?_);simp;repeat refine sdQ ?_
 refine hK _ (tn (Q4 (st':=⟨[(2,iV 0),(3,iV (-1)),(4,iV (-1))],[],0⟩) (wkQ []) (Qi ?_)));clear hK K;have hr:=yJ h;rw[←hr];refine⟨_,(.tmp (.tmp (.tmp .nil))),?_⟩;refine⟨(.one rfl rfl (.one rfl rfl (.one rfl rfl .nil))),[iV 0,iV (-1),iV (-1)],[],by simp[BN],by simp,(yN _)⟩
attribute [local simp] unk unA unE unT unC flat eL eI Qh QI Qz Cat.cells XD.cells
def Q1J(c_:Cat)(list_:List Int)(objects_:List Int):Option (Int⊕(List Bool)):=
 (Q1y c_ list_ objects_).bind λv2=>
 match v2 with
 | .inl v2=>
  if¬(v2=0)then
   some (yS v2)
  else
   ass (False)<|
   none
 | .inr v2=>
  (QW (⟨c_,list_,v2⟩:XD)).bind λv4=>
  if¬(v4.1=0)then
   some (yS 5)
  else
   some (yT v2)
theorem Q5O(c_:Cat)(list_:List Int)(objects_:List Int)(v6:Int⊕(List Bool))(h:Q1J c_ list_ objects_=some v6):ICon Tryz.prog 40 [.rptr (c_.cells true),lI list_,lI objects_] (λ_=>none) 0 (match v6 with|.inl v6=>({v:=.tup [.val (.pointer none),iV v6],set:=[],del:=[],new:=[],cnt:=0}:Eff)|.inr v6=>({v:=.tup [.adr 0 0 0,iV 0],set:=[],del:=[],new:=[(0,.mix 3 [(Y0v c_ [lI list_,.own 1 0 v6.length])]),(1,.row 1 (Bs v6))],cnt:=2}:Eff)):=by
 refine Q1D (ts:=[6,7]) (H:=[]) Tryz.func40 rfl rfl rfl (by simp[Tryz.f40]) (by simp) (Q4L (by rcases v6 with v6|v6<;>simp)) (newI (by rcases v6 with v6|v6<;>rfl)) λF hN hP=>?_;unfold Q1J at h;refine Q0 (rxQ hN λK hK=>?_);simp;repeat refine sdQ ?_
 refine hK _ ?_;clear hK K;refine tn (Q4 (st':=⟨Yt c_ [(1,lI list_),(2,lI objects_)],[],0⟩) (wkQ []) (Q0 (Q3W [] mo (by rw[hN];decide) λK hK=>?_)));simp;repeat with_reducible refine sdQ ?_
 replace⟨v2,hv2,h⟩:=bind_some h;refine Q2B (fz:=[]) (ICon.liftL (e':=(match(generalizing:=false) v2 with|.inl v2=>{v:=.tup [.val (.pointer none),iV v2],new:=[],cnt:=0}|.inr v2=>{v:=.tup [.adr 0 0 0,iV 0],new:=[(0,.mix 3 [(Y0v c_ [lI list_,.own 1 0 v2.length])]),(1,.row 1 (Bs v2))],cnt:=2})) (Q4q _ _ _ v2 hv2) (by simp[AV.ro,rl,rlL,rlLL,Q1z,BN]) (by rcases v2 with v2|v2<;>simp) (by rcases v2 with v2|v2<;>simp) (by rcases v2 with v2|v2<;>rfl) (by rcases v2 with v2|v2<;>simp[AV.ro,rl,rlL,rlLL,Q1z,BN]) (by rcases v2 with v2|v2<;>simp[Q6M]) (by rcases v2 with v2|v2<;>rfl) (by rcases v2 with v2|v2<;>simp[AV.ro,rl,rlL,rlLL,Q1z,BN]) (Q4L (by rcases v2 with v2|v2<;>simp))) ?_;clear hv2;rcases v2 with v2|v2
 ·try dsimp only at h
  try dsimp only
  simp;repeat refine sdQ ?_
  refine hK _ ?_;clear hK K;refine tn (Q4 (st':=⟨[(8,.val (.pointer none)),(9,iV v2)],[],0⟩) (wkQ []) (Q0 (Q0 (rxQ hN λK hK=>?_))));simp;repeat refine sdQ ?_
  refine hK _ ?_;clear hK K;refine tn (Q6 rfl (λg=>?_) λg=>?_)
  ·have g3:¬(v2=0):=gQ;clear g;replace h:=if_l g3 h;refine Q0 (rxQ hN λK hK=>?_);simp;(repeat refine sdQ ?_);refine hK _ (tn (Q4 (st':=⟨YL [(7,iV v2)],[],0⟩) (wkQ []) (Qi (tr ?_))));clear hK K;cases h;(try dsimp only);first|refine iw_r (st':=⟨YL [(7,iV v2)],[],0⟩) ?_ ?_|refine iw_n (st':=⟨YL [(7,iV v2)],[],0⟩) ?_ ?_
   ·exact wkQ []
   exact⟨by simp[QU],by simp,by simp[CN]⟩
  have g3:¬(¬(v2=0)):=gQ;clear g;replace h:=if_r g3 h;refine Q7 (tn (Q0 (Q0 (rxQ hN λK hK=>?_))));exact(Q1 h).1.elim
 try dsimp only at h
 try dsimp only
 simp;repeat refine sdQ ?_
 refine hK _ ?_;clear hK K;refine tn (Q4 (st':=⟨[(8,.adr 0 0 0),(9,iV 0)],[(0,.mix 3 [(Y0v c_ [lI list_,.own 1 0 v2.length])]),(1,.row 1 (Bs v2))],2⟩) (wkQ [(0,0),(1,1)]) (Q0 (Q0 (rxQ hN λK hK=>?_))));simp;repeat refine sdQ ?_
 refine hK _ (tn (Q6 rfl (λg=>by simp at g) λ_=>?_));clear hK K;refine Q7 (tn (Q0 (Q0 (rxQ hN λK hK=>?_))));simp;repeat with_reducible refine sdQ ?_
 replace⟨v4,hv4,h⟩:=bind_some h;refine QG (fz:=[]) (Q44 _ v4 hv4) (.cons (.field rfl (by simp[CN]) (.cons (.preT (by simp[CN])) (.cons .lst (.cons .w .nil)))) .nil) ?_;simp;repeat refine sdQ ?_
 refine hK _ ?_;clear hK K;refine tn (Q4 (st':=⟨[(8,.adr 0 0 0),(10,iV v4.1)],[(0,.mix 3 [(Y0v c_ [lI list_,.own 1 0 v2.length])]),(1,.row 1 (Bs v2))],2⟩) (wkQ [(0,0),(1,1)]) (Q0 (rxQ hN λK hK=>?_)));simp;repeat refine sdQ ?_
 refine hK _ ?_;clear hK K;refine tn (Q6 rfl (λg=>?_) λg=>?_)
 ·have g5:¬(v4.1=0):=gQ;clear g;replace h:=if_l g5 h;refine Q0 (rxQ hN λK hK=>?_);simp;repeat refine sdQ ?_
  refine hK _ (tn (Q4 (st':=⟨YL [(7,iV 5)],[],0⟩) (wkQ []) (Qi (tr ?_))));clear hK K;cases h;try dsimp only
  first|refine iw_r (st':=⟨YL [(7,iV 5)],[],0⟩) ?_ ?_|refine iw_n (st':=⟨YL [(7,iV 5)],[],0⟩) ?_ ?_
  ·exact wkQ []
  exact⟨by simp[QU],by simp,by simp[CN]⟩
 have g5:¬(¬(v4.1=0)):=gQ;clear g;replace h:=if_r g5 h;refine Q7 (tn (Q0 (rxQ hN λK hK=>?_)));simp;repeat refine sdQ ?_
 refine hK _ (tn (Q4 (st':=⟨Y0k [],[(0,.mix 3 [(Y0v c_ [lI list_,.own 1 0 v2.length])]),(1,.row 1 (Bs v2))],2⟩) (wkQ [(0,0),(1,1)]) (Qi ?_)));clear hK K;cases h;try dsimp only
 first|refine iw_r (st':=⟨Y0k [],[(0,.mix 3 [(Y0v c_ [lI list_,.own 1 0 v2.length])]),(1,.row 1 (Bs v2))],2⟩) ?_ ?_|refine iw_n (st':=⟨Y0k [],[(0,.mix 3 [(Y0v c_ [lI list_,.own 1 0 v2.length])]),(1,.row 1 (Bs v2))],2⟩) ?_ ?_
 ·exact wkQ [(0,0),(1,1)]
 exact⟨by simp[QU],by simp,by simp[CN]⟩
attribute [local simp] unk unA unE unT unC flat eL eI Qh QI Cat.cells
def Q1B(c_:Cat)(f_:Int)(g_:Int):Option Bool:=
 (
  ass (0≤f_∧f_<(c_.fr.length:Int))<|
  ass (0≤g_∧g_<(c_.fr.length:Int))<|
  if(ix c_.fr f_)=(ix c_.fr g_)then
   ass (0≤f_∧f_<(c_.to.length:Int))<|
   ass (0≤g_∧g_<(c_.to.length:Int))<|
   some ((ix c_.to f_)==(ix c_.to g_))
  else
   some false:Option (Bool)).bind λb1=>
 some b1
theorem Q6D(c_:Cat)(f_:Int)(g_:Int)(r:Bool)(h:Q1B c_ f_ g_=some r):Contract Tryz.prog 78 (Y0u c_ [iV f_,iV g_]) (.val (.bool r)):=by
 refine Q9 (rvs:=[.tmp 6]) (rs:=[.val (.bool r)]) Tryz.func78 rfl rfl rfl rfl (by simp[Tryz.f78]) λF hN hP=>?_;unfold Q1B at h;refine Q0 (runQ hN λK hK=>?_);simp;repeat refine sdQ ?_
 refine hK _ (tn (Q4 (st':=⟨YV f_ g_ [(3,.adr 0 0 0)],Y6 c_ [],1⟩) (wkQ [(0,0)]) (Q0 ?_)));clear hK K;replace⟨e1,h,h1⟩:=bind_some h;refine Qc (λb1:Bool=>⟨[(6,.val (.bool b1))],[],0⟩) (λb1=>b1=e1) ?_ ?_
 ·refine runQ hN λK hK=>?_;replace⟨a2,h⟩:=Q1 h;replace⟨a3,h⟩:=Q1 h;simp[at_I a2,at_I a3];repeat with_reducible refine sdQ ?_
  refine Qv (λg=>?_) (λg=>?_)
  ·have g4:(ix c_.fr f_)=(ix c_.fr g_):=gQ;clear g;replace h:=if_l g4 h;replace⟨a5,h⟩:=Q1 h;replace⟨a6,h⟩:=Q1 h;simp[at_I a2,at_I a3,at_I a5,at_I a6];(repeat refine sdQ ?_);refine hK _ ?_;exact jn (b:=(ix c_.to f_)==(ix c_.to g_)) (yJ h) (wkQ [])
  have g4:¬((ix c_.fr f_)=(ix c_.fr g_)):=gQ;clear g;replace h:=if_r g4 h;simp[at_I a2,at_I a3];repeat refine sdQ ?_
  refine hK _ ?_;exact jn (b:=false) (yJ h) (wkQ [])
 intro b1 hb1;have h:=h1;try rw[←hb1]at h
 clear h1;try dsimp only at h
 refine Qi ?_;have hr:=yJ h;rw[←hr];refine⟨_,(.tmp .nil),?_⟩;refine⟨(.one rfl rfl .nil),[.val (.bool b1)],[],by simp[BN],by simp,(yN _)⟩
attribute [local simp] unk unA unE unT unC flat eL eI Qh QI Cat.cells
def Q2I(c_:Cat)(w_:List Int):Option (Int×Int×Int):=
 (Q2j c_ w_).bind λv1=>
 if¬(v1.1=0)then
  some (v1.1,v1.2.1,v1.2.2)
 else
  (Qd (σ:=Int) (ε:=Unit⊕(Int×Int×Int)) (λs30=>
   if s30<(c_.fr.length:Int)then
    (
     (Qd (σ:=Int) (ε:=(Int×Int×Int)⊕Unit) (λs44=>
      if s44<(w_.length:Int)then
       (
        ass (0≤s30∧s30<(c_.to.length:Int))<|
        ass (0≤s44∧s44<(w_.length:Int))<|
        ass (0≤ix w_ s44∧ix w_ s44<(c_.to.length:Int))<|
        if(ix c_.to s30)=(ix c_.to (ix w_ s44))then
         ass (0≤s44∧s44<(w_.length:Int))<|
         (Q1c c_ w_ s30 (ix w_ s44)).bind λv52=>
         if¬(v52.2.2.2=true)then
          ass (0≤s44∧s44<(w_.length:Int))<|
          some (yT (2,s30,ix w_ s44))
         else
          some (yS ())
        else
         some (yS ()):Option (Unit⊕(Int×Int×Int))).bind λe46=>
       match e46 with
       | .inl b46=>
        ass (B64 (s44+1))<|
        some (yM (s44+1))
       | .inr p46=>
        some (yK (yS p46))
      else
       some (yK (yT ()))) fuel 0).bind λe44=>
     match e44 with
     | .inl p44=>
      some (yT p44)
     | .inr p44=>
      some (yS p44):Option (Unit⊕(Int×Int×Int))).bind λe32=>
    match e32 with
    | .inl b32=>
     ass (B64 (s30+1))<|
     some (yM (s30+1))
    | .inr p32=>
     some (yK (yT p32))
   else
    some (yK (yS ()))) fuel 0).bind λe3=>
  match e3 with
  | .inl b3=>
   (Qd (σ:=Int) (ε:=Unit⊕(Int×Int×Int)) (λs76=>
    if s76<(c_.fr.length:Int)then
     (
      ass (B64 (s76+1))<|
      (Qd (σ:=Int) (ε:=(Int×Int×Int)⊕Unit) (λs88=>
       if s88<(c_.fr.length:Int)then
        (
         (Q1B c_ s76 s88).bind λv91=>
         if v91=true then
          (Q1N c_ w_ s76 s88).bind λv93=>
          some (!v93)
         else
          some false:Option (Bool)).bind λb90=>
        if b90=true then
         some (yK (yS (3,s76,s88)))
        else
         ass (B64 (s88+1))<|
         some (yM (s88+1))
       else
        some (yK (yT ()))) fuel (s76+1)).bind λe88=>
      match e88 with
      | .inl p88=>
       some (yT p88)
      | .inr p88=>
       some (yS p88):Option (Unit⊕(Int×Int×Int))).bind λe78=>
     match e78 with
     | .inl b78=>
      ass (B64 (s76+1))<|
      some (yM (s76+1))
     | .inr p78=>
      some (yK (yT p78))
    else
     some (yK (yS ()))) fuel 0).bind λe57=>
   match e57 with
   | .inl b57=>
    some (0,(-1),(-1))
   | .inr p57=>
    some p57
  | .inr p3=>
   some p3
@[simp] abbrev YW(a:Cat)(b:List (Nat×AV)):List (Nat×AV):=(10,iV (a.fr.length:Int))::b
theorem Q99(c_:Cat)(w_:List Int)(r:Int×Int×Int)(h:Q2I c_ w_=some r):Contract Tryz.prog 49 (Y0u c_ [lI w_]) (.tup [iV r.1,iV r.2.1,iV r.2.2]):=by
 refine Q9 (rvs:=[.tmp 4,.tmp 5,.tmp 6]) (rs:=[iV r.1,iV r.2.1,iV r.2.2]) Tryz.func49 rfl rfl rfl rfl (by simp[Tryz.f49]) λF hN hP=>?_;unfold Q2I at h;refine Q0 (runQ hN λK hK=>?_);simp;repeat refine sdQ ?_
 refine hK _ ?_;clear hK K;refine tn (Q4 (st':=⟨(1,lI w_)::Yw [],Y6 c_ [],1⟩) (wkQ [(0,0)]) (Q0 (runQ hN λK hK=>?_)));simp;repeat with_reducible refine sdQ ?_
 replace⟨v1,hv1,h⟩:=bind_some h;refine Q3 (Q8b _ _ v1 hv1) (.cons (.aggL (.cons .val (.cons .lst (.cons .lst (.cons .lst (.cons .lst .nil)))))) (.cons .lst .nil)) ?_;simp;repeat refine sdQ ?_
 refine hK _ ?_;clear hK K;refine tn (Q4 (st':=⟨(1,lI w_)::Yw [(7,iV v1.1),(8,iV v1.2.1),(9,iV v1.2.2)],Y6 c_ [],1⟩) (wkQ [(0,0)]) (Q0 (Q0 (runQ hN λK hK=>?_))));simp;repeat refine sdQ ?_
 refine hK _ ?_;clear hK K;refine tn (Q6 rfl (λg=>?_) λg=>?_)
 ·have g2:¬(v1.1=0):=gQ;clear g;replace h:=if_l g2 h;refine Q0 (runQ hN λK hK=>?_);simp;repeat refine sdQ ?_
  refine hK _ (tn (Q4 (st':=⟨[(4,iV v1.1),(5,iV v1.2.1),(6,iV v1.2.2)],[],0⟩) (wkQ []) (Qi (tr ?_))));clear hK K;have hr:=yJ h;rw[←hr];refine⟨_,(.tmp (.tmp (.tmp .nil))),?_⟩;refine⟨(.one rfl rfl (.one rfl rfl (.one rfl rfl .nil))),[iV v1.1,iV v1.2.1,iV v1.2.2],[],by simp[BN],by simp,(yN _)⟩
 have g2:¬(¬(v1.1=0)):=gQ;clear g;replace h:=if_r g2 h;refine Q7 (tn (Q0 (runQ hN λK hK=>?_)));simp;repeat refine sdQ ?_
 refine hK _ ?_;clear hK K;refine tn (Q4 (st':=⟨(1,lI w_)::Yw (YW c_ []),Y6 c_ [],1⟩) (wkQ [(0,0)]) (Q0 (Q0 (runQ hN λK hK=>?_))));simp;repeat refine sdQ ?_
 refine hK _ (tn (Q4 (st':=⟨(1,lI w_)::Yw (YW c_ [(11,iV 0)]),Y6 c_ [],1⟩) (wkQ [(0,0)]) ?_));clear hK K;replace⟨e3,h,h3⟩:=bind_some h;refine Qc (λb3:Unit=>⟨(1,lI w_)::Yw (YW c_ []),Y6 c_ [],1⟩) (λb3=>yS b3=e3) ?_ ?_
 ·refine Q5 (Qm h (λs30:Int=>⟨(1,lI w_)::Yw (YW c_ [(11,iV s30)]),Y6 c_ [],1⟩) (wkQ [(0,0)]) ?_);clear h;intro k30 s30 c30 h hk30;refine Q0 (Q0 (runQ hN λK hK=>?_));simp;repeat refine sdQ ?_
  refine hK _ ?_;clear hK K;refine tn (Q6 rfl (λg=>?_) λg=>?_)
  ·have g31:s30<(c_.fr.length:Int):=gQ;clear g;replace h:=if_l g31 h;refine Q7 (tn (Q0 ?_));replace⟨e32,h,h32⟩:=bind_some h;refine Qc (λb32:Unit=>⟨(1,lI w_)::Yw (YW c_ [(11,iV s30)]),Y6 c_ [],1⟩) (λb32=>yS b32=e32) ?_ ?_
   ·refine Q5 (Q0 (runQ hN λK hK=>?_));simp;(repeat refine sdQ ?_);refine hK _ (tn (Q4 (st':=⟨(1,lI w_)::Yw (YW c_ [(11,iV s30),(12,iV 0)]),Y6 c_ [],1⟩) (wkQ [(0,0)]) (Q5 ?_)));clear hK K;replace⟨e44,he44,h44⟩:=bind_some h;refine Qm he44 (λs44:Int=>⟨(1,lI w_)::Yw (YW c_ [(11,iV s30),(12,iV s44)]),Y6 c_ [],1⟩) (wkQ [(0,0)]) ?_;intro k44 s44 c44 h hk44;refine Q0 (Q0 (runQ hN λK hK=>?_));simp;(repeat refine sdQ ?_);refine hK _ ?_;clear hK K;refine tn (Q6 rfl (λg=>?_) λg=>?_)
    ·have g45:s44<(w_.length:Int):=gQ;clear g;replace h:=if_l g45 h;refine Q7 (tn (Q0 ?_));replace⟨e46,h,h46⟩:=bind_some h;refine Qc (λb46:Unit=>⟨(1,lI w_)::Yw (YW c_ [(11,iV s30),(12,iV s44)]),Y6 c_ [],1⟩) (λb46=>yS b46=e46) ?_ ?_
     ·refine Q5 (Q0 (runQ hN λK hK=>?_));replace⟨a47,h⟩:=Q1 h;replace⟨a48,h⟩:=Q1 h;replace⟨a49,h⟩:=Q1 h;simp[at_I a47,at_I a48,at_I a49];(repeat refine sdQ ?_);refine hK _ ?_;clear hK K;refine tn (Q6 rfl (λg=>?_) λg=>?_)
      ·have g50:(ix c_.to s30)=(ix c_.to (ix w_ s44)):=gQ;clear g;replace h:=if_l g50 h;refine Q0 (runQ hN λK hK=>?_);replace⟨a51,h⟩:=Q1 h;simp[at_I a51];(repeat with_reducible refine sdQ ?_);replace⟨v52,hv52,h⟩:=bind_some h;refine Q3 (Q58 _ _ _ _ v52 hv52) (.cons (.aggL (.cons .val (.cons .lst (.cons .lst (.cons .lst (.cons .lst .nil)))))) (.cons .lst (.cons .val (.cons .val .nil)))) ?_;simp[at_I a51];(repeat refine sdQ ?_);refine hK _ ?_;clear hK K;refine tn (Q4 (st':=⟨(1,lI w_)::Yw (YW c_ [(11,iV s30),(12,iV s44),(16,.val (.bool v52.2.2.2))]),Y6 c_ [],1⟩) (wkQ [(0,0)]) (Q0 (runQ hN λK hK=>?_)));simp;(repeat refine sdQ ?_);refine hK _ ?_;clear hK K;refine tn (Q6 rfl (λg=>?_) λg=>?_)
       ·have g53:¬(v52.2.2.2=true):=gQ;clear g;replace h:=if_l g53 h;refine Q0 (runQ hN λK hK=>?_);replace⟨a54,h⟩:=Q1 h;simp[at_I a54];(repeat refine sdQ ?_);refine hK _ (tn (Q4 (st':=⟨[(4,iV 2),(5,iV s30),(6,iV (ix w_ s44))],[],0⟩) (wkQ []) (Qi (br (tr (lr (br (br (tr (lr (br (tr ?_))))))))))));clear hK K;cases h;have h:=h46;(try dsimp only at h);cases h;have q:_=e44:=hk44;have h:=h44;rw[←q]at h;clear q;(try dsimp only at h);cases h;have h:=h32;(try dsimp only at h);cases h;have q:_=e3:=hk30;have h:=h3;rw[←q]at h;clear q;(try dsimp only at h);have hr:=yJ h;rw[←hr];refine⟨_,(.tmp (.tmp (.tmp .nil))),?_⟩;refine⟨(.one rfl rfl (.one rfl rfl (.one rfl rfl .nil))),[iV 2,iV s30,iV (ix w_ s44)],[],by simp[BN],by simp,(yN _)⟩
       have g53:¬(¬(v52.2.2.2=true)):=gQ;clear g;replace h:=if_r g53 h;refine Q7 (bn ?_);exact jn (b:=()) (yJ h) (wkQ [(0,0)])
      have g50:¬((ix c_.to s30)=(ix c_.to (ix w_ s44))):=gQ;clear g;replace h:=if_r g50 h;refine Q7 (bn ?_);exact jn (b:=()) (yJ h) (wkQ [(0,0)])
     intro b46 hb46;have h:=h46;(try rw[←hb46]at h);clear h46;(try dsimp only at h);refine runQ hN λK hK=>?_;replace⟨a55,h⟩:=Q1 h;simp[Qg a55];(repeat refine sdQ ?_);refine hK _ ?_;clear hK K;cases h;exact rn (s':=s44+1) hk44 (wkQ [(0,0)])
    have g45:¬(s44<(w_.length:Int)):=gQ;clear g;replace h:=if_r g45 h;refine Qj (tx (lx (bh (bn ?_))));cases h;have q:_=e44:=hk44;have h:=h44;rw[←q]at h;clear q;(try dsimp only at h);exact jn (b:=()) (yJ h) (wkQ [(0,0)])
   intro b32 hb32;have h:=h32;(try rw[←hb32]at h);clear h32;(try dsimp only at h);refine runQ hN λK hK=>?_;replace⟨a56,h⟩:=Q1 h;simp[Qg a56];(repeat refine sdQ ?_);refine hK _ ?_;clear hK K;cases h;exact rn (s':=s30+1) hk30 (wkQ [(0,0)])
  have g31:¬(s30<(c_.fr.length:Int)):=gQ;clear g;replace h:=if_r g31 h;refine Qj (tx (lx (bh ?_)));cases h;exact jn (b:=()) hk30 (wkQ [(0,0)])
 intro b3 hb3;have h:=h3;try rw[←hb3]at h
 clear h3;try dsimp only at h
 refine Q0 (Q0 (runQ hN λK hK=>?_));simp;repeat refine sdQ ?_
 refine hK _ (tn (Q4 (st':=⟨(1,lI w_)::Yw (YW c_ [(17,iV 0)]),Y6 c_ [],1⟩) (wkQ [(0,0)]) ?_));clear hK K;replace⟨e57,h,h57⟩:=bind_some h;refine Qc (λb57:Unit=>⟨[],[],0⟩) (λb57=>yS b57=e57) ?_ ?_
 ·refine Q5 (Qm h (λs76:Int=>⟨(1,lI w_)::Yw (YW c_ [(17,iV s76)]),Y6 c_ [],1⟩) (wkQ [(0,0)]) ?_);clear h;intro k76 s76 c76 h hk76;refine Q0 (Q0 (runQ hN λK hK=>?_));simp;repeat refine sdQ ?_
  refine hK _ ?_;clear hK K;refine tn (Q6 rfl (λg=>?_) λg=>?_)
  ·have g77:s76<(c_.fr.length:Int):=gQ;clear g;replace h:=if_l g77 h;refine Q7 (tn (Q0 ?_));replace⟨e78,h,h78⟩:=bind_some h;refine Qc (λb78:Unit=>⟨(1,lI w_)::Yw (YW c_ [(17,iV s76)]),Y6 c_ [],1⟩) (λb78=>yS b78=e78) ?_ ?_
   ·refine Q5 (Q0 (runQ hN λK hK=>?_));replace⟨a79,h⟩:=Q1 h;simp[Qg a79];(repeat refine sdQ ?_);refine hK _ (tn (Q4 (st':=⟨(1,lI w_)::Yw (YW c_ [(17,iV s76),(18,iV (s76+1))]),Y6 c_ [],1⟩) (wkQ [(0,0)]) (Q5 ?_)));clear hK K;replace⟨e88,he88,h88⟩:=bind_some h;refine Qm he88 (λs88:Int=>⟨(1,lI w_)::Yw (YW c_ [(17,iV s76),(18,iV s88)]),Y6 c_ [],1⟩) (wkQ [(0,0)]) ?_;intro k88 s88 c88 h hk88;refine Q0 (Q0 (runQ hN λK hK=>?_));simp;(repeat refine sdQ ?_);refine hK _ ?_;clear hK K;refine tn (Q6 rfl (λg=>?_) λg=>?_)
    ·have g89:s88<(c_.fr.length:Int):=gQ;clear g;replace h:=if_l g89 h;refine Q7 (tn (Q0 (Q5 (Q0 ?_))));replace⟨e90,h,h90⟩:=bind_some h;refine Qc (λb90:Bool=>⟨(1,lI w_)::Yw (YW c_ [(17,iV s76),(18,iV s88),(102,.val (.bool b90))]),Y6 c_ [],1⟩) (λb90=>b90=e90) ?_ ?_
     ·refine runQ hN λK hK=>?_;simp;(repeat with_reducible refine sdQ ?_);replace⟨v91,hv91,h⟩:=bind_some h;refine Q3 (Q6D _ _ _ v91 hv91) (.cons (.aggL (.cons .val (.cons .lst (.cons .lst (.cons .lst (.cons .lst .nil)))))) (.cons .val (.cons .val .nil))) ?_;simp;(repeat with_reducible refine sdQ ?_);refine Qv (λg=>?_) (λg=>?_)
      ·have g92:v91=true:=gQ;clear g;replace h:=if_l g92 h;simp;(repeat with_reducible refine sdQ ?_);replace⟨v93,hv93,h⟩:=bind_some h;refine Q3 (Q6S _ _ _ _ v93 hv93) (.cons (.aggL (.cons .val (.cons .lst (.cons .lst (.cons .lst (.cons .lst .nil)))))) (.cons .lst (.cons .val (.cons .val .nil)))) ?_;simp;(repeat refine sdQ ?_);refine hK _ ?_;exact jn (b:=!v93) (yJ h) (wkQ [(0,0)])
      have g92:¬(v91=true):=gQ;clear g;replace h:=if_r g92 h;simp;(repeat refine sdQ ?_);refine hK _ ?_;exact jn (b:=false) (yJ h) (wkQ [(0,0)])
     intro b90 hb90;have h:=h90;(try rw[←hb90]at h);clear h90;(try dsimp only at h);refine Q6 rfl (λg=>?_) λg=>?_
     ·have g94:b90=true:=gQ;clear g;replace h:=if_l g94 h;refine Q0 (runQ hN λK hK=>?_);simp;(repeat refine sdQ ?_);refine hK _ (tn (Q4 (st':=⟨[(4,iV 3),(5,iV s76),(6,iV s88)],[],0⟩) (wkQ []) (Qi (br (tr (lr (br (br (tr (lr (br (tr ?_))))))))))));clear hK K;cases h;have q:_=e88:=hk88;have h:=h88;rw[←q]at h;clear q;(try dsimp only at h);cases h;have h:=h78;(try dsimp only at h);cases h;have q:_=e57:=hk76;have h:=h57;rw[←q]at h;clear q;(try dsimp only at h);have hr:=yJ h;rw[←hr];refine⟨_,(.tmp (.tmp (.tmp .nil))),?_⟩;refine⟨(.one rfl rfl (.one rfl rfl (.one rfl rfl .nil))),[iV 3,iV s76,iV s88],[],by simp[BN],by simp,(yN _)⟩
     have g94:¬(b90=true):=gQ;clear g;replace h:=if_r g94 h;refine Q7 (bn (tn (runQ hN λK hK=>?_)));replace⟨a95,h⟩:=Q1 h;simp[Qg a95];(repeat refine sdQ ?_);refine hK _ ?_;clear hK K;cases h;exact rn (s':=s88+1) hk88 (wkQ [(0,0)])
    have g89:¬(s88<(c_.fr.length:Int)):=gQ;clear g;replace h:=if_r g89 h;refine Qj (tx (lx (bh (bn ?_))));cases h;have q:_=e88:=hk88;have h:=h88;rw[←q]at h;clear q;(try dsimp only at h);exact jn (b:=()) (yJ h) (wkQ [(0,0)])
   intro b78 hb78;have h:=h78;(try rw[←hb78]at h);clear h78;(try dsimp only at h);refine runQ hN λK hK=>?_;replace⟨a96,h⟩:=Q1 h;simp[Qg a96];(repeat refine sdQ ?_);refine hK _ ?_;clear hK K;cases h;exact rn (s':=s76+1) hk76 (wkQ [(0,0)])
  have g77:¬(s76<(c_.fr.length:Int)):=gQ;clear g;replace h:=if_r g77 h;refine Qj (tx (lx (bh ?_)));cases h;exact jn (b:=()) hk76 (wkQ [])
 intro b57 hb57;have h:=h57;try rw[←hb57]at h
 clear h57;try dsimp only at h
 refine Q0 (runQ hN λK hK=>?_);simp;repeat refine sdQ ?_
 refine hK _ (tn (Q4 (st':=⟨[(4,iV 0),(5,iV (-1)),(6,iV (-1))],[],0⟩) (wkQ []) (Qi ?_)));clear hK K;have hr:=yJ h;rw[←hr];refine⟨_,(.tmp (.tmp (.tmp .nil))),?_⟩;refine⟨(.one rfl rfl (.one rfl rfl (.one rfl rfl .nil))),[iV 0,iV (-1),iV (-1)],[],by simp[BN],by simp,(yN _)⟩
attribute [local simp] unk unA unE unT unC flat eL eI Qh QI Cat.cells
def Q4m(c_:Cat)(w_:List Int):Option Int:=
 (Q2i c_ w_).bind λv1=>
 (
  if v1=0 then
   (Q2H w_).bind λv4=>
   some (!v4)
  else
   some false:Option (Bool)).bind λb2=>
 (
  if b2=true then
   some 5
  else
   some v1:Option (Int)).bind λb5=>
 some b5
theorem Qbw(c_:Cat)(w_:List Int)(r:Int)(h:Q4m c_ w_=some r):Contract Tryz.prog 48 (Y0u c_ [lI w_]) (iV r):=by
 refine Q9 (rvs:=[.tmp 4]) (rs:=[iV r]) Tryz.func48 rfl rfl rfl rfl (by simp[Tryz.f48]) λF hN hP=>?_;unfold Q4m at h;refine Q0 (runQ hN λK hK=>?_);simp;repeat refine sdQ ?_
 refine hK _ ?_;clear hK K;refine tn (Q4 (st':=⟨(1,lI w_)::Yw [],Y6 c_ [],1⟩) (wkQ [(0,0)]) (Q0 (runQ hN λK hK=>?_)));simp;repeat with_reducible refine sdQ ?_
 replace⟨v1,hv1,h⟩:=bind_some h;refine Q3 (Q8a _ _ v1 hv1) (.cons (.aggL (.cons .val (.cons .lst (.cons .lst (.cons .lst (.cons .lst .nil)))))) (.cons .lst .nil)) ?_;simp;repeat refine sdQ ?_
 refine hK _ (tn (Q4 (st':=⟨[(1,lI w_),(5,iV v1)],[],0⟩) (wkQ []) (Q0 (Q0 ?_))));clear hK K;replace⟨e2,h,h2⟩:=bind_some h;refine Qc (λb2:Bool=>⟨[(5,iV v1),(15,.val (.bool b2))],[],0⟩) (λb2=>b2=e2) ?_ ?_
 ·refine runQ hN λK hK=>?_;simp;repeat with_reducible refine sdQ ?_
  refine Qv (λg=>?_) (λg=>?_)
  ·have g3:v1=0:=gQ;clear g;replace h:=if_l g3 h;simp;(repeat with_reducible refine sdQ ?_);replace⟨v4,hv4,h⟩:=bind_some h;refine Q3 (Q98 _ v4 hv4) (.cons .lst .nil) ?_;simp;(repeat refine sdQ ?_);refine hK _ ?_;exact jn (b:=!v4) (yJ h) (wkQ [])
  have g3:¬(v1=0):=gQ;clear g;replace h:=if_r g3 h;simp;repeat refine sdQ ?_
  refine hK _ ?_;exact jn (b:=false) (yJ h) (wkQ [])
 intro b2 hb2;have h:=h2;try rw[←hb2]at h
 clear h2;try dsimp only at h
 replace⟨e5,h,h5⟩:=bind_some h;refine Qc (λb5:Int=>⟨[(5,iV b5)],[],0⟩) (λb5=>b5=e5) ?_ ?_
 ·refine Q6 rfl (λg=>?_) λg=>?_
  ·have g6:b2=true:=gQ;clear g;replace h:=if_l g6 h;refine runQ hN λK hK=>?_;simp;(repeat refine sdQ ?_);refine hK _ ?_;clear hK K;exact jn (b:=5) (yJ h) (wkQ [])
  have g6:¬(b2=true):=gQ;clear g;replace h:=if_r g6 h;refine Q7 ?_;exact jn (b:=v1) (yJ h) (wkQ [])
 intro b5 hb5;have h:=h5;try rw[←hb5]at h
 clear h5;try dsimp only at h
 refine Q0 (runQ hN λK hK=>?_);simp;repeat refine sdQ ?_
 refine hK _ (tn (Q4 (st':=⟨[(4,iV b5)],[],0⟩) (wkQ []) (Qi ?_)));clear hK K;have hr:=yJ h;rw[←hr];refine⟨_,(.tmp .nil),?_⟩;refine⟨(.one rfl rfl .nil),[iV b5],[],by simp[BN],by simp,(yN _)⟩
attribute [local simp] unk unA unE unT unC flat eL eI Qh QI Cat.cells
def Q38(c_:Cat)(w_:List Int):Option Int:=
 (Q4m c_ w_).bind λv1=>
 (
  if v1=0 then
   (Q2I c_ w_).bind λv4=>
   if¬(v4.1=0)then
    some 5
   else
    some v1
  else
   some v1:Option (Int)).bind λb2=>
 some b2
theorem Q9X(c_:Cat)(w_:List Int)(r:Int)(h:Q38 c_ w_=some r):Contract Tryz.prog 32 (Y0u c_ [lI w_]) (iV r):=by
 refine Q9 (rvs:=[.tmp 4]) (rs:=[iV r]) Tryz.func32 rfl rfl rfl rfl (by simp[Tryz.f32]) λF hN hP=>?_;unfold Q38 at h;refine Q0 (runQ hN λK hK=>?_);simp;repeat refine sdQ ?_
 refine hK _ ?_;clear hK K;refine tn (Q4 (st':=⟨(1,lI w_)::Yw [],Y6 c_ [],1⟩) (wkQ [(0,0)]) (Q0 (runQ hN λK hK=>?_)));simp;repeat with_reducible refine sdQ ?_
 replace⟨v1,hv1,h⟩:=bind_some h;refine Q3 (Qbw _ _ v1 hv1) (.cons (.aggL (.cons .val (.cons .lst (.cons .lst (.cons .lst (.cons .lst .nil)))))) (.cons .lst .nil)) ?_;simp;repeat refine sdQ ?_
 refine hK _ ?_;clear hK K;refine tn (Q4 (st':=⟨(1,lI w_)::Yw [(5,iV v1)],Y6 c_ [],1⟩) (wkQ [(0,0)]) (Q0 (Q0 (runQ hN λK hK=>?_))));simp;repeat refine sdQ ?_
 refine hK _ (tn ?_);clear hK K;replace⟨e2,h,h2⟩:=bind_some h;refine Qc (λb2:Int=>⟨[(5,iV b2)],[],0⟩) (λb2=>b2=e2) ?_ ?_
 ·refine Q6 rfl (λg=>?_) λg=>?_
  ·have g3:v1=0:=gQ;clear g;replace h:=if_l g3 h;refine Q0 (runQ hN λK hK=>?_);simp;(repeat with_reducible refine sdQ ?_);replace⟨v4,hv4,h⟩:=bind_some h;refine Q3 (Q99 _ _ v4 hv4) (.cons (.aggL (.cons .val (.cons .lst (.cons .lst (.cons .lst (.cons .lst .nil)))))) (.cons .lst .nil)) ?_;simp;(repeat refine sdQ ?_);refine hK _ ?_;clear hK K;refine tn (Q4 (st':=⟨[(5,iV v1),(6,iV v4.1)],[],0⟩) (wkQ []) (Q0 (runQ hN λK hK=>?_)));simp;(repeat refine sdQ ?_);refine hK _ ?_;clear hK K;refine tn (Q6 rfl (λg=>?_) λg=>?_)
   ·have g5:¬(v4.1=0):=gQ;clear g;replace h:=if_l g5 h;refine runQ hN λK hK=>?_;simp;(repeat refine sdQ ?_);refine hK _ ?_;clear hK K;exact jn (b:=5) (yJ h) (wkQ [])
   have g5:¬(¬(v4.1=0)):=gQ;clear g;replace h:=if_r g5 h;refine Q7 ?_;exact jn (b:=v1) (yJ h) (wkQ [])
  have g3:¬(v1=0):=gQ;clear g;replace h:=if_r g3 h;refine Q7 ?_;exact jn (b:=v1) (yJ h) (wkQ [])
 intro b2 hb2;have h:=h2;try rw[←hb2]at h
 clear h2;try dsimp only at h
 refine Q0 (runQ hN λK hK=>?_);simp;repeat refine sdQ ?_
 refine hK _ (tn (Q4 (st':=⟨[(4,iV b2)],[],0⟩) (wkQ []) (Qi ?_)));clear hK K;have hr:=yJ h;rw[←hr];refine⟨_,(.tmp .nil),?_⟩;refine⟨(.one rfl rfl .nil),[iV b2],[],by simp[BN],by simp,(yN _)⟩
section
attribute [local simp] Qa QD Qo QM Qx
def Fb1(c:Cat)(w:List Int)(f v:Int):Prop:=ix c.to f=ix c.to v∧sqF c w f v=none
def Fb2(c:Cat)(w:List Int)(f g:Int):Prop:=(ix c.fr f=ix c.fr g∧ix c.to f=ix c.to g)∧¬Cnc c w f g
structure FinW(c:Cat)(w:List Int):Prop where
 clo:Clo c w
 sq:∀f:Nat,f<c.fr.length→∀v∈w,¬Fb1 c w f v
 cn:∀f g:Nat,f<g→g<c.fr.length→¬Fb2 c w f g
theorem e_hasSq{c:Cat}(hc:c.Is)(w:List Int){f v:Int}(hf:0≤f∧f<(c.fr.length:Int))(hv:0≤v∧v<(c.fr.length:Int)):QJ (wD c w) f v=some (bo (¬sqF c w f v=none)):=by
 unfold QJ;rw[Q8q hc w hf hv];cases h:sqF c w f v with
 |none=>rw[Qp (λq=>q rfl)];rfl
 |some x=>rw[Qu (by simp)];rfl
def fI1(c:Cat)(w:List Int)(s27:Int):Int→Option (Ctl Int ((Int×Int×Int)⊕Unit)):=λs39=>
 if s39<(w.length:Int)then
  ass (0≤s39∧s39<(w.length:Int))<|
  (
   ass (0≤s27∧s27<(c.to.length:Int))<|
   ass (0≤ix w s39∧ix w s39<(c.to.length:Int))<|
   if(ix c.to s27)=(ix c.to (ix w s39))then
    (QJ (wD c w) s27 (ix w s39)).bind λv46=>
    some (!v46)
   else
    some false:Option (Bool)).bind λb42=>
  if b42=true then
   some (yK (yS (2,s27,ix w s39)))
  else
   ass (B64 (s39+1))<|
   some (yM (s39+1))
 else
  some (yK (yT ()))
theorem Q7z{c:Cat}(hc:c.Is){w:List Int}(hw:InW c w)(hl:w.length≤1048576){f j:Nat}(hf:f<c.fr.length)(hj:j<w.length):
  fI1 c w f j=if bo (Fb1 c w f (ix w j))=true then some (.ret (yS (2,(f:Int),ix w j)))else some (.next ((j:Int)+1)):=by
 have hn:=hc.nums;have a:=hw.at hj;unfold fI1;rw[if_pos (by omega),Q2 (by omega),Q2 (by omega),Q2 (by omega)]
 by_cases h1:ix c.to f=ix c.to (ix w j)
 ·rw[if_pos h1,e_hasSq hc w ⟨by omega,by omega⟩ a];simp only[yR]
  by_cases h2:sqF c w f (ix w j)=none
  ·rw[Qp (λq=>q h2),Qu (show Fb1 c w f (ix w j) from⟨h1,h2⟩)];rfl
  rw[Qu h2,Qp (λq:Fb1 c w f (ix w j)=>h2 q.2)];simp only[yY,zG,if_false];rw[Q2 (by unfold B64;omega)]
 rw[if_neg h1,Qp (λq:Fb1 c w f (ix w j)=>h1 q.1)];simp only[yR,zG,if_false];rw[Q2 (by unfold B64;omega)]
theorem fI1_no{c:Cat}(hc:c.Is){w:List Int}(hw:InW c w)(hl:w.length≤1048576){f:Nat}(hf:f<c.fr.length)(h:¬∃j:Nat,0≤j∧j<w.length∧Fb1 c w f (ix w j)):Qd (fI1 c w f) fuel 0=some (yT ()):=
 Q5j 0 w.length (by omega) (zV _) (λj _ hj=>by rw[Q7z hc hw hl hf hj,Qp (λb=>h ⟨j,zV _,hj,b⟩)];rfl) (by unfold fI1;rw[if_neg (by omega)])
theorem fI1_yes{c:Cat}(hc:c.Is){w:List Int}(hw:InW c w)(hl:w.length≤1048576){f:Nat}(hf:f<c.fr.length)(h:∃j:Nat,0≤j∧j<w.length∧Fb1 c w f (ix w j)):∃e,Qd (fI1 c w f) fuel 0=some e∧∃p:Int×Int×Int,e=yS p∧p.1=2:=
 Q3Z 0 w.length _ (by omega) h (λj _ hj hp=>by rw[Q7z hc hw hl hf hj,Qp hp];rfl) λj _ hj hp=>⟨_,by rw[Q7z hc hw hl hf hj,Qu hp];rfl,_,rfl,rfl⟩
def fI2(c:Cat)(w:List Int)(s71:Int):Int→Option (Ctl Int ((Int×Int×Int)⊕Unit)):=λs84=>
 if s84<(c.fr.length:Int)then
  (
   (Q19 c s71).bind λv87=>
   (Q19 c s84).bind λv88=>
   if v87.a=v88.a∧v87.b=v88.b then
    (QP (wD c w) s71 s84).bind λv90=>
    some (!v90)
   else
    some false:Option (Bool)).bind λb86=>
  if b86=true then
   some (yK (yS (3,s71,s84)))
  else
   ass (B64 (s84+1))<|
   some (yM (s84+1))
 else
  some (yK (yT ()))
theorem Q7A{c:Cat}(hc:c.Is){w:List Int}(hw:InW c w){f g:Nat}(hf:f<c.fr.length)(hg:g<c.fr.length):
  fI2 c w f g=if bo (Fb2 c w f g)=true then some (.ret (yS (3,(f:Int),(g:Int))))else some (.next ((g:Int)+1)):=by
 have hn:=hc.nums;unfold fI2 Q19;rw[if_pos (by omega),Q2 (by omega),Q2 (by omega)];simp only[yR]
 by_cases h1:ix c.fr f=ix c.fr g∧ix c.to f=ix c.to g
 ·rw[if_pos h1,Qb0 hc hw ⟨by omega,by omega⟩ ⟨by omega,by omega⟩];simp only[yR]
  by_cases h2:Cnc c w f g
  ·rw[Qu h2,Qp (λq:Fb2 c w f g=>q.2 h2)];simp only[yY,zG,if_false];rw[Q2 (by unfold B64;omega)]
  rw[Qp h2,Qu (show Fb2 c w f g from⟨h1,h2⟩)];rfl
 rw[if_neg h1,Qp (λq:Fb2 c w f g=>h1 q.1)];simp only[yR,zG,if_false];rw[Q2 (by unfold B64;omega)]
theorem fI2_no{c:Cat}(hc:c.Is){w:List Int}(hw:InW c w){f:Nat}(hf:f<c.fr.length)(h:¬∃g:Nat,f+1≤g∧g<c.fr.length∧Fb2 c w f g):Qd (fI2 c w f) fuel ((f+1:Nat):Int)=some (yT ()):=
 Q5j (f+1) c.fr.length (by have:=hc.nums;omega) (by omega) (λg h1 hg=>by rw[Q7A hc hw hf hg,Qp (λb=>h ⟨g,h1,hg,b⟩)];rfl) (by unfold fI2;rw[if_neg (by omega)])
theorem fI2_yes{c:Cat}(hc:c.Is){w:List Int}(hw:InW c w){f:Nat}(hf:f<c.fr.length)(h:∃g:Nat,f+1≤g∧g<c.fr.length∧Fb2 c w f g):∃e,Qd (fI2 c w f) fuel ((f+1:Nat):Int)=some e∧∃p:Int×Int×Int,e=yS p∧p.1=3:=
 Q3Z (f+1) c.fr.length _ (by have:=hc.nums;omega) h (λg _ hg hp=>by rw[Q7A hc hw hf hg,Qp hp];rfl) λg _ hg hp=>⟨_,by rw[Q7A hc hw hf hg,Qu hp];rfl,_,rfl,rfl⟩
theorem e_faultI{c:Cat}(hc:c.Is){w:List Int}(hw:InW c w)(hl:w.length≤1048576):∃r,QW (wD c w)=some r∧(r.1=0↔FinW c w):=by
 have hn:=hc.nums;unfold QW Qt;obtain⟨r0,e0,h0⟩:=e_closedI hc hw hl;rw[e0];simp only[yR,show(wD c w).c_=c from rfl]
 by_cases hC:Clo c w
 case neg=>
  rw[if_pos (h0.2 hC)];exact⟨_,rfl,⟨λh=>by simp at h,λh=>absurd h.clo hC⟩⟩
 rw[if_neg (λq=>h0.1 q hC)];refine Q4E c.fr.length (λf:Nat=>∃j:Nat,0≤j∧j<w.length∧Fb1 c w f (ix w j)) (eg:=yS ()) (by omega) (λi hi hp=>?_) (λi hi hp=>?_) (by rw[if_neg (by omega)]) λhp=>?_
 ·rw[if_pos (by omega)];show(((Qd (fI1 c w i) fuel 0).bind _).bind _)=_;rw[fI1_no hc hw hl hi hp];simp only[yR];rw[Q2 (by unfold B64;omega)]
 ·rw[if_pos (by omega)];obtain⟨e,e1,p,rfl,e3⟩:=fI1_yes hc hw hl hi hp;refine⟨yT p,?_,p,rfl,⟨λh=>by omega,λhF=>?_⟩⟩
  ·show(((Qd (fI1 c w i) fuel 0).bind _).bind _)=_;rw[e1];rfl
  obtain⟨j,_,hj,hb⟩:=hp;exact absurd hb (hF.sq i hi _ (by rw[←Q16 _ _ hj];exact zY hj))
 simp only;refine Q4E c.fr.length (λf:Nat=>∃g:Nat,f+1≤g∧g<c.fr.length∧Fb2 c w f g) (eg:=yS ()) (by omega) (λi hi hq=>?_) (λi hi hq=>?_) (by rw[if_neg (by omega)]) λhq=>?_
 ·rw[if_pos (by omega),Q2 (by unfold B64;omega)];show(((Qd (fI2 c w i) fuel ((i:Int)+1)).bind _).bind _)=_;rw[show((i:Int)+1)=((i+1:Nat):Int) by omega,fI2_no hc hw hi hq];simp only[yR];rw[Q2 (by unfold B64;omega)]
 ·rw[if_pos (by omega),Q2 (by unfold B64;omega)];obtain⟨e,e1,p,rfl,e3⟩:=fI2_yes hc hw hi hq;refine⟨yT p,?_,p,rfl,⟨λh=>by omega,λhF=>?_⟩⟩
  ·show(((Qd (fI2 c w i) fuel ((i:Int)+1)).bind _).bind _)=_;rw[show((i:Int)+1)=((i+1:Nat):Int) by omega,e1];rfl
  obtain⟨g,hg1,hg2,hb⟩:=hq;exact absurd hb (hF.cn i g (by omega) hg2)
 refine⟨_,rfl,⟨λ_=>⟨hC,λf hf v hv hb=>?_,λf g h1 h2 hb=>hq f (by omega) ⟨g,by omega,h2,hb⟩⟩,λ_=>rfl⟩⟩;obtain⟨j,hj,e⟩:=zX hv;exact hp f hf ⟨j,zV _,hj,by rw[←Q16 _ _ hj,e];exact hb⟩
def fS1(c:Cat)(w:List Int)(s30:Int):Int→Option (Ctl Int ((Int×Int×Int)⊕Unit)):=λs44=>
 if s44<(w.length:Int)then
  (
   ass (0≤s30∧s30<(c.to.length:Int))<|
   ass (0≤s44∧s44<(w.length:Int))<|
   ass (0≤ix w s44∧ix w s44<(c.to.length:Int))<|
   if(ix c.to s30)=(ix c.to (ix w s44))then
    ass (0≤s44∧s44<(w.length:Int))<|
    (Q1c c w s30 (ix w s44)).bind λv52=>
    if¬(v52.2.2.2=true)then
     ass (0≤s44∧s44<(w.length:Int))<|
     some (yT (2,s30,ix w s44))
    else
     some (yS ())
   else
    some (yS ()):Option (Unit⊕(Int×Int×Int))).bind λe46=>
  match e46 with
  | .inl b46=>
   ass (B64 (s44+1))<|
   some (yM (s44+1))
  | .inr p46=>
   some (yK (yS p46))
 else
  some (yK (yT ()))
theorem Q7B{c:Cat}(hc:c.Is){w:List Int}(hw:InW c w)(hl:w.length≤1048576){f j:Nat}(hf:f<c.fr.length)(hj:j<w.length):
  fS1 c w f j=if bo (Fb1 c w f (ix w j))=true then some (.ret (yS (2,(f:Int),ix w j)))else some (.next ((j:Int)+1)):=by
 have hn:=hc.nums;have a:=hw.at hj;unfold fS1;rw[if_pos (by omega),Q2 (by omega),Q2 (by omega),Q2 (by omega)]
 by_cases h1:ix c.to f=ix c.to (ix w j)
 ·rw[if_pos h1,Q2 (by omega),Q8r hc w ⟨by omega,by omega⟩ a];simp only[yR];cases h2:sqF c w f (ix w j)with
  |none=>
   rw[Qu (show Fb1 c w f (ix w j) from⟨h1,h2⟩)];simp only[Option.elim_none,zG,not_false_eq_true,if_true];rw[Q2 (by omega)];rfl
  |some x=>
   rw[Qp (λq:Fb1 c w f (ix w j)=>by rw[q.2]at h2;cases h2)];simp only[Option.elim_some,not_true_eq_false,if_false,yR,zG];rw[Q2 (by unfold B64;omega)]
 rw[if_neg h1,Qp (λq:Fb1 c w f (ix w j)=>h1 q.1)];simp only[yR,zG,if_false];rw[Q2 (by unfold B64;omega)]
theorem fS1_no{c:Cat}(hc:c.Is){w:List Int}(hw:InW c w)(hl:w.length≤1048576){f:Nat}(hf:f<c.fr.length)(h:¬∃j:Nat,0≤j∧j<w.length∧Fb1 c w f (ix w j)):Qd (fS1 c w f) fuel 0=some (yT ()):=
 Q5j 0 w.length (by omega) (zV _) (λj _ hj=>by rw[Q7B hc hw hl hf hj,Qp (λb=>h ⟨j,zV _,hj,b⟩)];rfl) (by unfold fS1;rw[if_neg (by omega)])
theorem fS1_yes{c:Cat}(hc:c.Is){w:List Int}(hw:InW c w)(hl:w.length≤1048576){f:Nat}(hf:f<c.fr.length)(h:∃j:Nat,0≤j∧j<w.length∧Fb1 c w f (ix w j)):∃e,Qd (fS1 c w f) fuel 0=some e∧∃p:Int×Int×Int,e=yS p∧p.1=2:=
 Q3Z 0 w.length _ (by omega) h (λj _ hj hp=>by rw[Q7B hc hw hl hf hj,Qp hp];rfl) λj _ hj hp=>⟨_,by rw[Q7B hc hw hl hf hj,Qu hp];rfl,_,rfl,rfl⟩
def fS2(c:Cat)(w:List Int)(s76:Int):Int→Option (Ctl Int ((Int×Int×Int)⊕Unit)):=λs88=>
 if s88<(c.fr.length:Int)then
  (
   (Q1B c s76 s88).bind λv91=>
   if v91=true then
    (Q1N c w s76 s88).bind λv93=>
    some (!v93)
   else
    some false:Option (Bool)).bind λb90=>
  if b90=true then
   some (yK (yS (3,s76,s88)))
  else
   ass (B64 (s88+1))<|
   some (yM (s88+1))
 else
  some (yK (yT ()))
theorem Q9n{c:Cat}(hc:c.Is){f g:Nat}(hf:f<c.fr.length)(hg:g<c.fr.length):Q1B c f g=some (bo (ix c.fr f=ix c.fr g∧ix c.to f=ix c.to g)):=by
 have hn:=hc.nums;unfold Q1B;rw[Q2 (by omega),Q2 (by omega)]
 by_cases h1:ix c.fr f=ix c.fr g
 ·rw[if_pos h1,Q2 (by omega),Q2 (by omega)];simp only[yR]
  by_cases h2:ix c.to f=ix c.to g
  ·rw[Qu ⟨h1,h2⟩];simp[h2]
  rw[Qp (λq=>h2 q.2)];simp[h2]
 rw[if_neg h1,Qp (λq=>h1 q.1)];rfl
theorem Q7C{c:Cat}(hc:c.Is){w:List Int}(hw:InW c w)(hl:w.length≤1048576){f g:Nat}(hf:f<c.fr.length)(hg:g<c.fr.length):
  fS2 c w f g=if bo (Fb2 c w f g)=true then some (.ret (yS (3,(f:Int),(g:Int))))else some (.next ((g:Int)+1)):=by
 have hn:=hc.nums;unfold fS2;rw[if_pos (by omega),Q9n hc hf hg];simp only[yR]
 by_cases h1:ix c.fr f=ix c.fr g∧ix c.to f=ix c.to g
 ·rw[Qu h1,if_pos rfl,Qb1 hc hw hl ⟨by omega,by omega⟩ ⟨by omega,by omega⟩];simp only[yR]
  by_cases h2:Cnc c w f g
  ·rw[Qu h2,Qp (λq:Fb2 c w f g=>q.2 h2)];simp only[yY,zG,if_false];rw[Q2 (by unfold B64;omega)]
  rw[Qp h2,Qu (show Fb2 c w f g from⟨h1,h2⟩)];rfl
 rw[Qp h1,if_neg (by simp),Qp (λq:Fb2 c w f g=>h1 q.1)];simp only[yR,zG,if_false];rw[Q2 (by unfold B64;omega)]
theorem fS2_no{c:Cat}(hc:c.Is){w:List Int}(hw:InW c w)(hl:w.length≤1048576){f:Nat}(hf:f<c.fr.length)(h:¬∃g:Nat,f+1≤g∧g<c.fr.length∧Fb2 c w f g):Qd (fS2 c w f) fuel ((f+1:Nat):Int)=some (yT ()):=
 Q5j (f+1) c.fr.length (by have:=hc.nums;omega) (by omega) (λg h1 hg=>by rw[Q7C hc hw hl hf hg,Qp (λb=>h ⟨g,h1,hg,b⟩)];rfl) (by unfold fS2;rw[if_neg (by omega)])
theorem fS2_yes{c:Cat}(hc:c.Is){w:List Int}(hw:InW c w)(hl:w.length≤1048576){f:Nat}(hf:f<c.fr.length)(h:∃g:Nat,f+1≤g∧g<c.fr.length∧Fb2 c w f g):∃e,Qd (fS2 c w f) fuel ((f+1:Nat):Int)=some e∧∃p:Int×Int×Int,e=yS p∧p.1=3:=
 Q3Z (f+1) c.fr.length _ (by have:=hc.nums;omega) h (λg _ hg hp=>by rw[Q7C hc hw hl hf hg,Qp hp];rfl) λg _ hg hp=>⟨_,by rw[Q7C hc hw hl hf hg,Qu hp];rfl,_,rfl,rfl⟩
theorem e_faultS{c:Cat}(hc:c.Is){w:List Int}(hw:InW c w)(hl:w.length≤1048576):∃r,Q2I c w=some r∧(r.1=0↔FinW c w):=by
 have hn:=hc.nums;unfold Q2I;obtain⟨r0,e0,h0⟩:=e_closedS hc hw hl;rw[e0];simp only[yR]
 by_cases hC:Clo c w
 case neg=>
  rw[if_pos (λq=>hC (h0.1 q))];exact⟨_,rfl,⟨λh=>absurd (h0.1 h) hC,λh=>absurd h.clo hC⟩⟩
 rw[if_neg (λq=>q (h0.2 hC))];refine Q4E c.fr.length (λf:Nat=>∃j:Nat,0≤j∧j<w.length∧Fb1 c w f (ix w j)) (eg:=yS ()) (by omega) (λi hi hp=>?_) (λi hi hp=>?_) (by rw[if_neg (by omega)]) λhp=>?_
 ·rw[if_pos (by omega)];show(((Qd (fS1 c w i) fuel 0).bind _).bind _)=_;rw[fS1_no hc hw hl hi hp];simp only[yR];rw[Q2 (by unfold B64;omega)]
 ·rw[if_pos (by omega)];obtain⟨e,e1,p,rfl,e3⟩:=fS1_yes hc hw hl hi hp;refine⟨yT p,?_,p,rfl,⟨λh=>by omega,λhF=>?_⟩⟩
  ·show(((Qd (fS1 c w i) fuel 0).bind _).bind _)=_;rw[e1];rfl
  obtain⟨j,_,hj,hb⟩:=hp;exact absurd hb (hF.sq i hi _ (by rw[←Q16 _ _ hj];exact zY hj))
 simp only;refine Q4E c.fr.length (λf:Nat=>∃g:Nat,f+1≤g∧g<c.fr.length∧Fb2 c w f g) (eg:=yS ()) (by omega) (λi hi hq=>?_) (λi hi hq=>?_) (by rw[if_neg (by omega)]) λhq=>?_
 ·rw[if_pos (by omega),Q2 (by unfold B64;omega)];show(((Qd (fS2 c w i) fuel ((i:Int)+1)).bind _).bind _)=_;rw[show((i:Int)+1)=((i+1:Nat):Int) by omega,fS2_no hc hw hl hi hq];simp only[yR];rw[Q2 (by unfold B64;omega)]
 ·rw[if_pos (by omega),Q2 (by unfold B64;omega)];obtain⟨e,e1,p,rfl,e3⟩:=fS2_yes hc hw hl hi hq;refine⟨yT p,?_,p,rfl,⟨λh=>by omega,λhF=>?_⟩⟩
  ·show(((Qd (fS2 c w i) fuel ((i:Int)+1)).bind _).bind _)=_;rw[show((i:Int)+1)=((i+1:Nat):Int) by omega,e1];rfl
  obtain⟨g,hg1,hg2,hb⟩:=hq;exact absurd hb (hF.cn i g (by omega) hg2)
 refine⟨_,rfl,⟨λ_=>⟨hC,λf hf v hv hb=>?_,λf g h1 h2 hb=>hq f (by omega) ⟨g,by omega,h2,hb⟩⟩,λ_=>rfl⟩⟩;obtain⟨j,hj,e⟩:=zX hv;exact hp f hf ⟨j,zV _,hj,by rw[←Q16 _ _ hj,e];exact hb⟩
def Q6H(c:Cat)(w:List Int):Int:=if Q6J c w=0 then if bo (Q6I w)=true then if bo (FinW c w)=true then 0 else 5 else 5 else Q6J c w
theorem Q7n{c:Cat}{w:List Int}(h:Q6J c w=0):c.Is∧InW c w:=by
 unfold Q6J at h
 by_cases hc:c.Is
 ·rw[Qu hc,if_pos rfl]at h;refine⟨hc,?_⟩;unfold InW;cases hw:w.all (inR (c.fr.length:Int))with
  |true=>rfl
  |false=>rw[hw]at h;simp at h
 rw[Qp hc]at h;simp at h
theorem Q9l{c:Cat}{w:List Int}(hl:w.length≤1048576):Q38 c w=some (Q6H c w):=by
 unfold Q38 Q4m Q6H;rw[(e_acode c w).2];simp only[yR]
 by_cases h0:Q6J c w=0
 case neg=>simp[h0]
 obtain⟨hc,hw⟩:=Q7n h0;rw[if_pos h0,Q9m hl];simp only[yR]
 by_cases hr:Q6I w
 case neg=>rw[Qp hr];simp[h0]
 obtain⟨r,e1,e2⟩:=e_faultS hc hw hl;rw[Qu hr,e1]
 by_cases hF:FinW c w
 ·have:=e2.2 hF;rw[Qu hF];simp[h0,this]
 have:¬r.1=0:=λq=>hF (e2.1 q);rw[Qp hF];simp[h0,this]
theorem Q9k{c:Cat}{w:List Int}(hl:w.length≤1048576):Q1J c w []=some (if Q6H c w=0 then yT (Q1E w c.fr.length w.length)else yS (Q6H c w)):=by
 unfold Q1J Q1y Q2U Q6H;rw[(e_acode c w).1];simp only[yR]
 by_cases h0:Q6J c w=0
 case neg=>simp[h0]
 obtain⟨hc,hw⟩:=Q7n h0;have hn:=hc.nums;rw[if_neg (λq=>q h0),Q2 (by unfold B64;omega),e_risingW hl,e_marksW hc hw hl,if_pos h0]
 by_cases hr:Q6I w
 case neg=>rw[Qp hr];simp
 obtain⟨r,e1,e2⟩:=e_faultI hc hw hl;have e1':QW (⟨c,w,Q1E w c.fr.length w.length⟩:XD)=some r:=e1;rw[Qu hr];simp only[List.all_nil,not_true_eq_false,if_false,yR,if_true,e1']
 by_cases hF:FinW c w
 ·have:=e2.2 hF;rw[Qu hF];simp[this]
 have:¬r.1=0:=λq=>hF (e2.1 q);rw[Qp hF];simp[this]
end
end Go.Vc.T
