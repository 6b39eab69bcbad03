/- A part of the proof. -/
import Derived.Test.YtbanpimdoabfmaaH11
set_option maxRecDepth 100000
set_option maxHeartbeats 4000000
set_option linter.unusedSimpArgs false
set_option linter.unusedVariables false
set_option linter.unusedSectionVars false
set_option linter.unnecessarySimpa false

open Option.some renaming inj→yJ
open Option renaming bind_some→yA
open Sum renaming inl→yK
open Sum renaming inr→yL
open Go.Vc.Ctl renaming ret→yM
open Go.Vc.UpL renaming refl→yN
open Go.Vc.Ctl renaming next→yO
open Int renaming eq_ofNat_of_zero_le→yT
open Option renaming bind_assoc→yV
open Bool renaming false_eq_true→zM
noncomputable section
namespace Go.Vc.T
open Go Go.Vc Go.Proofs
section
attribute [local simp] Qi QP Qv Q1l QN
def MNt(fr:List Int)(ob ar:List (List Int)):Prop:=(0<ar.length∧0<(rx ar 0).length)∧0<ob.length∧fr.length≤100000
theorem monT2:MonT [[0,1],[1,0]]:=by
 refine⟨by simp,⟨rfl,?_⟩,?_⟩
 ·show∀i:Nat,i<2→_;intro i hi;rcases(show i=0∨i=1 by omega)with rfl|rfl
  ·refine⟨rfl,?_⟩;show∀j:Nat,j<2→_;intro j hj;rcases(show j=0∨j=1 by omega)with rfl|rfl<;>decide
  refine⟨rfl,?_⟩;show∀j:Nat,j<2→_;intro j hj;rcases(show j=0∨j=1 by omega)with rfl|rfl<;>decide
 show∀x:Nat,x<2→_;intro x hx;rcases(show x=0∨x=1 by omega)with rfl|rfl
 all_goals
  refine⟨by decide,?_⟩;show∀y:Nat,y<2→∀z:Nat,z<2→_;intro y hy z hz;rcases(show y=0∨y=1 by omega)with rfl|rfl<;>rcases(show z=0∨z=1 by omega)with rfl|rfl<;>decide
abbrev PkQ(code:List Int):((Int×Int)⊕(Int×Int×Int)⊕(Int×Int×Int×Int×Int×Int)⊕(Int×Int))→Prop:=SQ (λp=>Src ⟨code,p.1,p.2⟩) (SQ (λp=>Src ⟨code,p.1,p.2.1⟩) (SQ (λp=>Src ⟨code,p.1,p.2.1⟩) λp=>Src ⟨code,p.1,p.2⟩))
abbrev TryT:=List Int×Int×Int×Int×List Int×List Int×List Int×List (List Int)×Int×List (List Int)×List (List Int)×Int
abbrev SmT2:=List Int×Int×Int×Int×List Int×List Int×List Int×List (List Int)×Int×List (List Int)×List (List Int)
abbrev TryQ:TryT→Prop:=λr=>Src ⟨r.1,r.2.1,r.2.2.1⟩∧(r.2.2.2.2.2.2.2.2.2.2.2=0→MNt r.2.2.2.2.1 r.2.2.2.2.2.2.2.2.2.1 r.2.2.2.2.2.2.2.2.2.2.1)
abbrev SmQ2:SmT2→Prop:=λr=>Src ⟨r.1,r.2.1,r.2.2.1⟩∧MNt r.2.2.2.2.1 r.2.2.2.2.2.2.2.2.2.1 r.2.2.2.2.2.2.2.2.2.2
theorem g_some{q:XL01Source}(hq:Src q):Gd (Q1k 100 q) SmQ2:=by
 unfold Q1k;refine Gd.bind (P:=SQ (λb=>Src ⟨b.1,b.2.1,b.2.2⟩) SmQ2) (Gd.loop 10 (λi s=>s.2.2.2=(i:Int)∧Src ⟨s.1,s.2.1,s.2.2.1⟩) (by omega) ⟨rfl,hq⟩ λi s hi hs=>?_) λe he=>?_
 ·obtain⟨code,at',hash,c⟩:=s;obtain⟨h1,h2⟩:=hs;simp only at h1 h2⊢;subst h1;refine Gd.ite (λh3=>?_) λh3=>Gd.som h2;refine Gd.bind (Q3p h2 4) λv hv=>?_;obtain⟨hv,_⟩:=hv;refine Gd.bind (P:=TryQ) (Gd.ite (λ_=>?_) λ_=>Gd.ite (λ_=>?_) λ_=>Gd.ite (λ_=>?_) λ_=>?_) λb hb=>?_
  ·refine Gd.bind (P:=PkQ code) (Gd.bind (Q3p hv 8) λv hv=>Gd.ite (λ_=>Gd.som hv.1) λ_=>Gd.ite (λ_=>Gd.som hv.1) λ_=>Gd.ite (λ_=>Gd.som hv.1) λ_=>Gd.ite (λ_=>Gd.som hv.1) λ_=>Gd.ite (λ_=>Gd.som hv.1) λ_=>Gd.ite (λ_=>Gd.som hv.1) λ_=>Gd.ite (λ_=>Gd.som hv.1) λ_=>Gd.som hv.1) λp hp=>?_;rcases p with p|p|p|p
   all_goals exact Gd.bind (Q6s (by simp)) λm hm=>Gd.som ⟨hp,hm.1⟩
  ·refine Gd.bind (P:=PkQ code) (Gd.bind (Q3p hv 8) λv hv=>Gd.ite (λ_=>Gd.som hv.1) λ_=>Gd.ite (λ_=>Gd.som hv.1) λ_=>Gd.ite (λ_=>Gd.som hv.1) λ_=>Gd.ite (λ_=>Gd.som hv.1) λ_=>Gd.ite (λ_=>Gd.som hv.1) λ_=>Gd.ite (λ_=>Gd.som hv.1) λ_=>Gd.ite (λ_=>Gd.som hv.1) λ_=>Gd.som hv.1) λp hp=>?_;rcases p with p|p|p|p
   all_goals exact Gd.bind (Q6V (by simp)) λm hm=>Gd.som ⟨hp,hm⟩
  ·refine Gd.bind (Q3p hv 2) λv hv=>?_;obtain⟨hv,hv2⟩:=hv;have hv2:=hv2 (by omega);obtain⟨N,hN⟩:=yT (show 0≤2+v.2.2 by omega);rw[hN];have hN1:2≤N∧N≤3:=(by omega);refine Gd.ass (by unfold B64;omega) (Gd.bind (P:=λr=>Sqr r.1 N∧Sqr r.2 N) (Gd.loop N (λi s=>s.2.2=(i:Int)∧(s.1.length=i∧∀r∈s.1,r.length=N)∧(s.2.1.length=i∧∀r∈s.2.1,r.length=N)) (by omega) ⟨rfl,⟨rfl,λr hr=>by cases hr⟩,⟨rfl,λr hr=>by cases hr⟩⟩ λi s hi hs=>?_) λb hb=>?_)
   ·obtain⟨rel,tab,c⟩:=s;obtain⟨g1,⟨g2,g3⟩,g4,g5⟩:=hs;simp only at g1 g2 g3 g4 g5⊢;subst g1;refine Gd.ite (λh4=>?_) λh4=>Gd.som ⟨⟨by show rel.length=N;omega,g3⟩,⟨by show tab.length=N;omega,g5⟩⟩;refine Gd.bind (P:=λr=>r.1.length=N∧r.2.length=N) (Gd.loop N (λj s=>s.2.2=(j:Int)∧s.1.length=j∧s.2.1.length=j) (by omega) ⟨rfl,rfl,rfl⟩ λj s hj hs=>?_) λr hr=>?_
    ·obtain⟨row,line,c⟩:=s;obtain⟨k1,k2,k3⟩:=hs;simp only at k1 k2 k3⊢;subst k1;refine Gd.ite (λh5=>?_) λh5=>Gd.som ⟨by show row.length=N;omega,by show line.length=N;omega⟩;exact Gd.bind (P:=λ_=>True) (Gd.ite (λ_=>Gd.som trivial) λ_=>Gd.som trivial) λx _=>Gd.ass (by simp;omega) (Gd.ass (by simp;omega) (Gd.ass (by unfold B64;omega) (Gd.som ⟨by omega,rfl,by simpa using k2,by simpa using k3⟩)))
    refine Gd.ass (by simp;omega) (Gd.ass (by simp;omega) (Gd.ass (by unfold B64;omega) (Gd.som ⟨by omega,rfl,⟨by simpa using g2,λx hx=>?_⟩,⟨by simpa using g4,λx hx=>?_⟩⟩)))
    ·rcases List.mem_append.1 hx with h|h
     ·exact g3 x h
     rw[List.mem_singleton.1 h];exact hr.1
    rcases List.mem_append.1 hx with h|h
    ·exact g5 x h
    rw[List.mem_singleton.1 h];exact hr.2
   refine Gd.bind (Q3p hv 2) λw hw=>?_;refine Gd.bind (P:=λr=>Sqr r N) (Gd.ite (λ_=>Gd.bind (P:=λr=>Sqr r N) (Gd.loop N (λi s=>s.2=(i:Int)∧Sqr s.1 N) (by omega) ⟨rfl,hb.1⟩ λi s hi hs=>?_) λp hp=>Gd.som hp) λ_=>Gd.som hb.1) λrel hrel=>Gd.bind (Q5R hrel (by omega) (by have:=hb.2.1;omega)) λm hm=>Gd.som ⟨hw.1,hm⟩;obtain⟨rel,c⟩:=s;obtain⟨g1,g2⟩:=hs;simp only at g1 g2⊢;subst g1;have gl:=g2.1;refine Gd.ite (λh4=>?_) λh4=>Gd.som g2;refine Gd.bind (P:=λr=>Sqr r N) (Gd.bind (P:=λr=>Sqr r N) (Gd.loop i (λj s=>s.2=(j:Int)∧Sqr s.1 N) (by omega) ⟨rfl,g2⟩ λj s hj hs=>?_) λp hp=>Gd.som hp) λp hp=>Gd.ass (by unfold B64;omega) (Gd.som ⟨by omega,rfl,hp⟩);obtain⟨rel,c⟩:=s;obtain⟨k1,k2⟩:=hs;simp only at k1 k2⊢;subst k1;refine Gd.ite (λh5=>?_) λh5=>Gd.som k2;have r1:=k2.row (i:=(i:Int)) (by omega);have r2:=k2.row (i:=(j:Int)) (by omega);have s1:Sqr (rel.set (i:Int).toNat ((rx rel i).set (j:Int).toNat (ix (rx rel j) i))) N:=k2.set (by simpa using r1.2) _;have r3:=s1.row (i:=(j:Int)) (by omega);refine Gd.ass (by omega) (Gd.ass (by omega) (Gd.ass (by omega) (Gd.ass (by omega) (Gd.ass (by omega) (Gd.ass (by omega) (Gd.ass ⟨by omega,r3.1⟩ (Gd.ass ⟨by omega,by rw[r3.2];omega⟩ (Gd.ass (by unfold B64;omega) (Gd.som ⟨by omega,rfl,s1.set (by simpa using r3.2) _⟩)))))))))
  ·refine Gd.bind (P:=PkQ code) (Gd.bind (Q3p hv 8) λv hv=>Gd.ite (λ_=>Gd.som hv.1) λ_=>Gd.ite (λ_=>Gd.som hv.1) λ_=>Gd.ite (λ_=>Gd.som hv.1) λ_=>Gd.ite (λ_=>Gd.som hv.1) λ_=>Gd.ite (λ_=>Gd.som hv.1) λ_=>Gd.ite (λ_=>Gd.som hv.1) λ_=>Gd.ite (λ_=>Gd.som hv.1) λ_=>Gd.som hv.1) λp hp=>?_;rcases p with p|p|p|p
   ·exact Gd.bind (Q4e hp (n:=1) (by omega)) λr hr=>Gd.bind (Q5R hr.2 (by omega) (by simp)) λm hm=>Gd.som ⟨hr.1,hm⟩
   ·exact Gd.bind (Q4e hp (n:=2) (by omega)) λr hr=>Gd.bind (Q5R hr.2 (by omega) (by simp)) λm hm=>Gd.som ⟨hr.1,hm⟩
   ·exact Gd.bind (Q4e hp (n:=3) (by omega)) λr hr=>Gd.bind (Q5R hr.2 (by omega) (by simp)) λm hm=>Gd.som ⟨hr.1,hm⟩
   exact Gd.bind (Q4e hp (n:=4) (by omega)) λr hr=>Gd.bind (Q5R hr.2 (by omega) (by simp)) λm hm=>Gd.som ⟨hr.1,hm⟩
  refine Gd.ite (λh5=>Gd.som ⟨hb.1,hb.2 h5⟩) λh5=>Gd.ass (by unfold B64;omega) (Gd.som ⟨by omega,?_,hb.1⟩);show(i:Int)+1=_;omega
 rcases e with b|p
 ·refine Gd.bind (Q6s (by simp)) λm hm=>Gd.som ⟨he,hm.1 (hm.2 ⟨monT2,by simp⟩)⟩
 exact Gd.som he
end
attribute [local simp] unk unA unE unT unC flat eL eI Qc Qf Qr XL01Source.cells XMonoidal.cells
def Q44(code_:List Int):Option (XMonoidal×Int×Int):=
 (Q33 code_).bind λv1=>
 (
  (Q1k 100 (⟨code_,0,v1⟩:XL01Source)).bind λv3=>
  (Qp 100 (⟨v3.1,v3.2.1,v3.2.2.1⟩:XL01Source) 24).bind λv4=>
  if v4.2.2=0 then
   ass ((0:Int)≤0∧0<(v3.2.2.2.2.2.2.2.2.2.2.length:Int))<|
   ass (B64 ((v3.2.2.2.2.1.length:Int)+1))<|
   (Qy 100 (⟨v3.1,v4.1,v4.2.1⟩:XL01Source) ((v3.2.2.2.2.1.length:Int)+1)).bind λv8=>
   ass ((0:Int)≤0∧0<((rx v3.2.2.2.2.2.2.2.2.2.2 0).length:Int))<|
   some (yL (v8.1,v8.2.1,v8.2.2.1,v3.2.2.2.1,v3.2.2.2.2.1,v3.2.2.2.2.2.1,v3.2.2.2.2.2.2.1,v3.2.2.2.2.2.2.2.1,v3.2.2.2.2.2.2.2.2.1,v3.2.2.2.2.2.2.2.2.2.1,v3.2.2.2.2.2.2.2.2.2.2.set 0 ((rx v3.2.2.2.2.2.2.2.2.2.2 0).set 0 v8.2.2.2)))
  else
   if v4.2.2=1 then
    (Qy 100 (⟨v3.1,v4.1,v4.2.1⟩:XL01Source) v3.2.2.2.1).bind λv11=>
    some (yL (v11.1,v11.2.1,v11.2.2.1,v3.2.2.2.1,v3.2.2.2.2.1,v3.2.2.2.2.2.1,v3.2.2.2.2.2.2.1,v3.2.2.2.2.2.2.2.1,v11.2.2.2,v3.2.2.2.2.2.2.2.2.2.1,v3.2.2.2.2.2.2.2.2.2.2))
   else
    if v4.2.2=2 then
     ass ((0:Int)≤1∧1≤(v3.2.2.2.2.2.2.2.2.2.1.length:Int)∧(v3.2.2.2.2.2.2.2.2.2.1.length:Int)≤(v3.2.2.2.2.2.2.2.2.2.1.length:Int))<|
     some (yK (v3.1,v4.1,v4.2.1,v3.2.2.2.1,v3.2.2.2.2.1,v3.2.2.2.2.2.1,v3.2.2.2.2.2.2.1,v3.2.2.2.2.2.2.2.1,v3.2.2.2.2.2.2.2.2.1,v3.2.2.2.2.2.2.2.2.2.1,v3.2.2.2.2.2.2.2.2.2.2))
    else
     some (yL (v3.1,v4.1,v4.2.1,v3.2.2.2.1,v3.2.2.2.2.1,v3.2.2.2.2.2.1,v3.2.2.2.2.2.2.1,v3.2.2.2.2.2.2.2.1,v3.2.2.2.2.2.2.2.2.1,v3.2.2.2.2.2.2.2.2.2.1,v3.2.2.2.2.2.2.2.2.2.2)):Option ((List Int×Int×Int×Int×List Int×List Int×List Int×List (List Int)×Int×List (List Int)×List (List Int))⊕(List Int×Int×Int×Int×List Int×List Int×List Int×List (List Int)×Int×List (List Int)×List (List Int)))).bind λv14=>
 match v14 with
 | .inl v14=>
  (Qy 100 (⟨v14.1,v14.2.1,v14.2.2.1⟩:XL01Source) v14.2.2.2.1).bind λv15=>
  (Qy 100 (⟨v15.1,v15.2.1,v15.2.2.1⟩:XL01Source) v14.2.2.2.1).bind λv16=>
  some ((⟨(⟨v14.2.2.2.1,v14.2.2.2.2.1,v14.2.2.2.2.2.1,v14.2.2.2.2.2.2.1,v14.2.2.2.2.2.2.2.1⟩:Cat),v14.2.2.2.2.2.2.2.2.1,(v14.2.2.2.2.2.2.2.2.2.1.drop 1).take (((v14.2.2.2.2.2.2.2.2.2.1.length:Int) - 1).toNat),v14.2.2.2.2.2.2.2.2.2.2⟩:XMonoidal),v15.2.2.2,v16.2.2.2)
 | .inr v14=>
  (Qy 100 (⟨v14.1,v14.2.1,v14.2.2.1⟩:XL01Source) v14.2.2.2.1).bind λv17=>
  (Qy 100 (⟨v17.1,v17.2.1,v17.2.2.1⟩:XL01Source) v14.2.2.2.1).bind λv18=>
  some ((⟨(⟨v14.2.2.2.1,v14.2.2.2.2.1,v14.2.2.2.2.2.1,v14.2.2.2.2.2.2.1,v14.2.2.2.2.2.2.2.1⟩:Cat),v14.2.2.2.2.2.2.2.2.1,v14.2.2.2.2.2.2.2.2.2.1,v14.2.2.2.2.2.2.2.2.2.2⟩:XMonoidal),v17.2.2.2,v18.2.2.2)
@[simp] abbrev Y0j(a:List (Nat×Ent)):List (Nat×Ent):=(2,.mix 8 [(Y0M [])])::a
@[simp] abbrev Y0F(a:List (Nat×AV)):List (Nat×AV):=(2,.adr 2 0 0)::a
theorem w_s_l35At(code_:List Int)(r:XMonoidal×Int×Int)(h:Q44 code_=some r):FContract Try.prog true 55 [.lst true 1 (Us code_)] (.tup [.agg (r.1.cells true),iV r.2.1,iV r.2.2]):=by
 refine Q51 (rvs:=[.cell 2 48,.tmp 3,.tmp 4]) (rs:=[.agg (r.1.cells true),iV r.2.1,iV r.2.2]) Try.func55 rfl rfl rfl rfl (by simp[Try.f55]) λF hN hP hW=>?_;unfold Q44 at h;refine Q0 (rxQ hN λK hK=>?_);simp;repeat refine sdQ ?_
 refine hK _ ?_;clear hK K;refine tn (Q2 (st':=⟨(0,.lst true 1 (Us code_))::YA [],Y9 [],1⟩) (wkQ [(0,0)]) (Q0 (Q18 [] mo (by rw[hN];decide) λK hK=>?_)));simp;repeat with_reducible refine sdQ ?_
 replace⟨v1,hv1,h⟩:=bind_some h;refine QG (fz:=[]) (ICon.liftL (e':={v:=.adr 1 0 0,new:=[(1,.mix 3 [(Y0U code_ [.val (.int .u64 v1)])])],cnt:=1}) (Q8M _ v1 hv1) (by simp[AV.ro,rl,rlL,rlLL,Q4Q,BN]) (by simp) (by simp) (by rfl) (by simp[AV.ro,rl,rlL,rlLL,Q4Q,BN]) (by simp[Q54]) (by rfl) (by simp[AV.ro,rl,rlL,rlLL,Q4Q,BN]) (Q5r (by simp))) ?_;simp;repeat refine sdQ ?_
 refine hK _ ?_;clear hK K;refine tn (Q2 (st':=⟨YA [(5,.adr 1 0 0)],Y9 [(1,.mix 3 [(Y0U code_ [.val (.int .u64 v1)])])],2⟩) (wkQ [(0,0),(1,1)]) (Q0 (Q18 [] mo (by rw[hN];decide) λK hK=>?_)));simp;repeat with_reducible refine sdQ ?_
 replace⟨v14,hv14,h⟩:=bind_some h;refine QG (fz:=[]) (Q5e (rvs:=[.cell 2 48]) (e:=(match(generalizing:=false) v14 with|.inl v14=>{v:=.agg [iV v14.2.2.2.1,.own 3 0 v14.2.2.2.2.1.length,.own 4 0 v14.2.2.2.2.2.1.length,.own 5 0 v14.2.2.2.2.2.2.1.length,.own 6 0 v14.2.2.2.2.2.2.2.1.length,iV v14.2.2.2.2.2.2.2.2.1,.own 7 1 (((v14.2.2.2.2.2.2.2.2.2.1.length:Int) - 1).toNat),.own 8 0 v14.2.2.2.2.2.2.2.2.2.2.length],set:=[(1,.mix 3 [[.lst true 1 (Us v14.1),iV v14.2.1,.val (.int .u64 v14.2.2.1)]])],del:=[],new:=[(2,.mix 8 [[iV v14.2.2.2.1,.own 3 0 v14.2.2.2.2.1.length,.own 4 0 v14.2.2.2.2.2.1.length,.own 5 0 v14.2.2.2.2.2.2.1.length,.own 6 0 v14.2.2.2.2.2.2.2.1.length,iV v14.2.2.2.2.2.2.2.2.1,.own 7 1 (((v14.2.2.2.2.2.2.2.2.2.1.length:Int) - 1).toNat),.own 8 0 v14.2.2.2.2.2.2.2.2.2.2.length]]),(3,rI v14.2.2.2.2.1),(4,rI v14.2.2.2.2.2.1),(5,rI v14.2.2.2.2.2.2.1),(6,.row 1 (Ls v14.2.2.2.2.2.2.2.1)),(7,.row 1 (Ls v14.2.2.2.2.2.2.2.2.2.1)),(8,.row 1 (Ls v14.2.2.2.2.2.2.2.2.2.2))],cnt:=7}|.inr v14=>{v:=.agg [iV v14.2.2.2.1,.own 3 0 v14.2.2.2.2.1.length,.own 4 0 v14.2.2.2.2.2.1.length,.own 5 0 v14.2.2.2.2.2.2.1.length,.own 6 0 v14.2.2.2.2.2.2.2.1.length,iV v14.2.2.2.2.2.2.2.2.1,.own 7 0 v14.2.2.2.2.2.2.2.2.2.1.length,.own 8 0 v14.2.2.2.2.2.2.2.2.2.2.length],set:=[(1,.mix 3 [[.lst true 1 (Us v14.1),iV v14.2.1,.val (.int .u64 v14.2.2.1)]])],del:=[],new:=[(2,.mix 8 [[iV v14.2.2.2.1,.own 3 0 v14.2.2.2.2.1.length,.own 4 0 v14.2.2.2.2.2.1.length,.own 5 0 v14.2.2.2.2.2.2.1.length,.own 6 0 v14.2.2.2.2.2.2.2.1.length,iV v14.2.2.2.2.2.2.2.2.1,.own 7 0 v14.2.2.2.2.2.2.2.2.2.1.length,.own 8 0 v14.2.2.2.2.2.2.2.2.2.2.length]]),(3,rI v14.2.2.2.2.1),(4,rI v14.2.2.2.2.2.1),(5,rI v14.2.2.2.2.2.2.1),(6,.row 1 (Ls v14.2.2.2.2.2.2.2.1)),(7,.row 1 (Ls v14.2.2.2.2.2.2.2.2.2.1)),(8,.row 1 (Ls v14.2.2.2.2.2.2.2.2.2.2))],cnt:=7})) Try.func102 rfl rfl rfl (by simp[Try.f102]) (by simp) (Q5r (by rcases v14 with v14|v14<;>simp)) (newI (by rcases v14 with v14|v14<;>rfl)) λF hN hP=>?_) ?_
 ·clear h;have h:=hv14;clear hv14;refine Q0 (rxQ hN λK hK=>?_);simp;repeat refine sdQ ?_
  refine hK _ ?_;clear hK K;refine tn (Q2 (st':=⟨(0,.adr 1 0 0)::Y0F [],Y9 ((1,.mix 3 [(Y0U code_ [.val (.int .u64 v1)])])::Y0j []),3⟩) (wkJ 3 hP) (Q0 (Q18 [] mo (by rw[hN];decide) λK hK=>?_)));simp;repeat with_reducible refine sdQ ?_
  replace⟨v3,hv3,h⟩:=bind_some h;refine QG (fz:=[]) (frQ (e:={v:=.agg [iV v3.2.2.2.1,.own 4 0 v3.2.2.2.2.1.length,.own 5 0 v3.2.2.2.2.2.1.length,.own 6 0 v3.2.2.2.2.2.2.1.length,.own 7 0 v3.2.2.2.2.2.2.2.1.length,iV v3.2.2.2.2.2.2.2.2.1,.own 8 0 v3.2.2.2.2.2.2.2.2.2.1.length,.own 9 0 v3.2.2.2.2.2.2.2.2.2.2.length],set:=[(1,.mix 3 [[.lst true 1 (Us v3.1),iV v3.2.1,.val (.int .u64 v3.2.2.1)]])],del:=[],new:=[(3,.mix 8 [[iV v3.2.2.2.1,.own 4 0 v3.2.2.2.2.1.length,.own 5 0 v3.2.2.2.2.2.1.length,.own 6 0 v3.2.2.2.2.2.2.1.length,.own 7 0 v3.2.2.2.2.2.2.2.1.length,iV v3.2.2.2.2.2.2.2.2.1,.own 8 0 v3.2.2.2.2.2.2.2.2.2.1.length,.own 9 0 v3.2.2.2.2.2.2.2.2.2.2.length]]),(4,rI v3.2.2.2.2.1),(5,rI v3.2.2.2.2.2.1),(6,rI v3.2.2.2.2.2.2.1),(7,.row 1 (Ls v3.2.2.2.2.2.2.2.1)),(8,.row 1 (Ls v3.2.2.2.2.2.2.2.2.2.1)),(9,.row 1 (Ls v3.2.2.2.2.2.2.2.2.2.2))],cnt:=7}) (Q5z 100 _ v3 hv3) [(0,1)]) ?_;simp;repeat refine sdQ ?_
  refine hK _ ?_;clear hK K;refine tn (Q2 (st':=⟨(0,.adr 1 0 0)::Y0F [(3,.adr 3 0 0)],Y9 ((1,.mix 3 [[.lst true 1 (Us v3.1),iV v3.2.1,.val (.int .u64 v3.2.2.1)]])::Y0j [(3,.mix 8 [[iV v3.2.2.2.1,.own 4 0 v3.2.2.2.2.1.length,.own 5 0 v3.2.2.2.2.2.1.length,.own 6 0 v3.2.2.2.2.2.2.1.length,.own 7 0 v3.2.2.2.2.2.2.2.1.length,iV v3.2.2.2.2.2.2.2.2.1,.own 8 0 v3.2.2.2.2.2.2.2.2.2.1.length,.own 9 0 v3.2.2.2.2.2.2.2.2.2.2.length]]),(4,rI v3.2.2.2.2.1),(5,rI v3.2.2.2.2.2.1),(6,rI v3.2.2.2.2.2.2.1),(7,.row 1 (Ls v3.2.2.2.2.2.2.2.1)),(8,.row 1 (Ls v3.2.2.2.2.2.2.2.2.2.1)),(9,.row 1 (Ls v3.2.2.2.2.2.2.2.2.2.2))]),10⟩) (wkP [(0,0),(1,1),(2,2),(10,3),(4,4),(5,5),(6,6),(7,7),(8,8),(9,9)] hP) (Q0 (Q0 (Q18 [] mo (by rw[hN];decide) λK hK=>?_))));simp;repeat with_reducible refine sdQ ?_
  replace⟨v4,hv4,h⟩:=bind_some h;refine QG (fz:=[]) (frQ (e:={v:=.val (.int .i64 v4.2.2),set:=[(1,.mix 3 [[.lst true 1 (Us (v3.1)),iV v4.1,.val (.int .u64 v4.2.1)]])],del:=[],new:=[],cnt:=0}) (Qw 100 _ _ v4 hv4) [(0,1)]) ?_;simp;repeat refine sdQ ?_
  refine hK _ ?_;clear hK K;refine tn (Q2 (st':=⟨(0,.adr 1 0 0)::Y0F [(3,.adr 3 0 0),(7,iV v4.2.2)],Y9 ((1,.mix 3 [[.lst true 1 (Us (v3.1)),iV v4.1,.val (.int .u64 v4.2.1)]])::Y0j [(3,.mix 8 [[iV v3.2.2.2.1,.own 4 0 v3.2.2.2.2.1.length,.own 5 0 v3.2.2.2.2.2.1.length,.own 6 0 v3.2.2.2.2.2.2.1.length,.own 7 0 v3.2.2.2.2.2.2.2.1.length,iV v3.2.2.2.2.2.2.2.2.1,.own 8 0 v3.2.2.2.2.2.2.2.2.2.1.length,.own 9 0 v3.2.2.2.2.2.2.2.2.2.2.length]]),(4,rI v3.2.2.2.2.1),(5,rI v3.2.2.2.2.2.1),(6,rI v3.2.2.2.2.2.2.1),(7,.row 1 (Ls v3.2.2.2.2.2.2.2.1)),(8,.row 1 (Ls v3.2.2.2.2.2.2.2.2.2.1)),(9,.row 1 (Ls v3.2.2.2.2.2.2.2.2.2.2))]),10⟩) (wkJ 10 hP) (Q5 (Q0 (rxQ hN λK hK=>?_))));simp;repeat refine sdQ ?_
  refine hK _ ?_;clear hK K;refine tn (Q7 rfl (λg=>?_) λg=>?_)
  ·have g5:v4.2.2=0:=gQ;clear g;replace h:=if_l g5 h;refine w_runXF false false [] [3,9] [1,2,3] [10,11,12] [10] [] 10 mo (by rw[hN];decide) λK hK=>?_;replace⟨a6,h⟩:=Q1 h;replace⟨a7,h⟩:=Q1 h;simp[(show(Ls v3.2.2.2.2.2.2.2.2.2.2)[0]? =some [lI (rx v3.2.2.2.2.2.2.2.2.2.2 0)] from at_L (j:=0) a6),Qh a7];(repeat with_reducible refine sdQ ?_);replace⟨v8,hv8,h⟩:=bind_some h;refine QG (fz:=[]) (frQ (e:={v:=.val (.int .i64 v8.2.2.2),set:=[(1,.mix 3 [[.lst true 1 (Us v8.1),iV v8.2.1,.val (.int .u64 v8.2.2.1)]])],del:=[],new:=[],cnt:=0}) (Q16 100 _ _ v8 hv8) [(0,1)]) ?_;replace⟨a9,h⟩:=Q1 h;simp[(show(Ls v3.2.2.2.2.2.2.2.2.2.2)[0]? =some [lI (rx v3.2.2.2.2.2.2.2.2.2.2 0)] from at_L (j:=0) a6),(show(Is (rx v3.2.2.2.2.2.2.2.2.2.2 0))[0]? =some [iV (ix (rx v3.2.2.2.2.2.2.2.2.2.2 0) 0)] from at_I (j:=0) a9)];(repeat refine sdQ ?_);refine hK _ ?_;clear hK K;refine bn (tn (Q2 (st':=⟨Y0F [(3,.adr 3 0 0)],Y9 ((1,.mix 3 [[.lst true 1 (Us v8.1),iV v8.2.1,.val (.int .u64 v8.2.2.1)]])::Y0j [(3,.mix 8 [[iV v3.2.2.2.1,.own 4 0 v3.2.2.2.2.1.length,.own 5 0 v3.2.2.2.2.2.1.length,.own 6 0 v3.2.2.2.2.2.2.1.length,.own 7 0 v3.2.2.2.2.2.2.2.1.length,iV v3.2.2.2.2.2.2.2.2.1,.own 8 0 v3.2.2.2.2.2.2.2.2.2.1.length,.own 9 0 ((v3.2.2.2.2.2.2.2.2.2.2.set 0 ((rx v3.2.2.2.2.2.2.2.2.2.2 0).set 0 v8.2.2.2)).length)]]),(4,rI v3.2.2.2.2.1),(5,rI v3.2.2.2.2.2.1),(6,rI v3.2.2.2.2.2.2.1),(7,.row 1 (Ls v3.2.2.2.2.2.2.2.1)),(8,.row 1 (Ls v3.2.2.2.2.2.2.2.2.2.1)),(9,.row 1 (Ls (v3.2.2.2.2.2.2.2.2.2.2.set 0 ((rx v3.2.2.2.2.2.2.2.2.2.2 0).set 0 v8.2.2.2))))]),10⟩) (wkJ 10 hP) (Q0 (rxQ hN λK hK=>?_))));simp;(repeat refine sdQ ?_);refine hK _ (tn (Q2 (st':=⟨Y0F [],Y9 [(1,.mix 3 [[.lst true 1 (Us v8.1),iV v8.2.1,.val (.int .u64 v8.2.2.1)]]),(2,.mix 8 [[iV v3.2.2.2.1,.own 3 0 v3.2.2.2.2.1.length,.own 4 0 v3.2.2.2.2.2.1.length,.own 5 0 v3.2.2.2.2.2.2.1.length,.own 6 0 v3.2.2.2.2.2.2.2.1.length,iV v3.2.2.2.2.2.2.2.2.1,.own 7 0 v3.2.2.2.2.2.2.2.2.2.1.length,.own 8 0 ((v3.2.2.2.2.2.2.2.2.2.2.set 0 ((rx v3.2.2.2.2.2.2.2.2.2.2 0).set 0 v8.2.2.2)).length)]]),(3,rI v3.2.2.2.2.1),(4,rI v3.2.2.2.2.2.1),(5,rI v3.2.2.2.2.2.2.1),(6,.row 1 (Ls v3.2.2.2.2.2.2.2.1)),(7,.row 1 (Ls v3.2.2.2.2.2.2.2.2.2.1)),(8,.row 1 (Ls (v3.2.2.2.2.2.2.2.2.2.2.set 0 ((rx v3.2.2.2.2.2.2.2.2.2.2 0).set 0 v8.2.2.2))))],9⟩) (wkP [(0,0),(1,1),(2,2),(4,3),(5,4),(6,5),(7,6),(8,7),(9,8)] hP) (Qe ?_)));clear hK K;cases h;try dsimp only
   first|refine Q9z (st':=⟨Y0F [],Y9 [(1,.mix 3 [[.lst true 1 (Us v8.1),iV v8.2.1,.val (.int .u64 v8.2.2.1)]]),(2,.mix 8 [[iV v3.2.2.2.1,.own 3 0 v3.2.2.2.2.1.length,.own 4 0 v3.2.2.2.2.2.1.length,.own 5 0 v3.2.2.2.2.2.2.1.length,.own 6 0 v3.2.2.2.2.2.2.2.1.length,iV v3.2.2.2.2.2.2.2.2.1,.own 7 0 v3.2.2.2.2.2.2.2.2.2.1.length,.own 8 0 ((v3.2.2.2.2.2.2.2.2.2.2.set 0 ((rx v3.2.2.2.2.2.2.2.2.2.2 0).set 0 v8.2.2.2)).length)]]),(3,rI v3.2.2.2.2.1),(4,rI v3.2.2.2.2.2.1),(5,rI v3.2.2.2.2.2.2.1),(6,.row 1 (Ls v3.2.2.2.2.2.2.2.1)),(7,.row 1 (Ls v3.2.2.2.2.2.2.2.2.2.1)),(8,.row 1 (Ls (v3.2.2.2.2.2.2.2.2.2.2.set 0 ((rx v3.2.2.2.2.2.2.2.2.2.2 0).set 0 v8.2.2.2))))],9⟩) ?_ ?_|refine Q9y (st':=⟨Y0F [],Y9 [(1,.mix 3 [[.lst true 1 (Us v8.1),iV v8.2.1,.val (.int .u64 v8.2.2.1)]]),(2,.mix 8 [[iV v3.2.2.2.1,.own 3 0 v3.2.2.2.2.1.length,.own 4 0 v3.2.2.2.2.2.1.length,.own 5 0 v3.2.2.2.2.2.2.1.length,.own 6 0 v3.2.2.2.2.2.2.2.1.length,iV v3.2.2.2.2.2.2.2.2.1,.own 7 0 v3.2.2.2.2.2.2.2.2.2.1.length,.own 8 0 ((v3.2.2.2.2.2.2.2.2.2.2.set 0 ((rx v3.2.2.2.2.2.2.2.2.2.2 0).set 0 v8.2.2.2)).length)]]),(3,rI v3.2.2.2.2.1),(4,rI v3.2.2.2.2.2.1),(5,rI v3.2.2.2.2.2.2.1),(6,.row 1 (Ls v3.2.2.2.2.2.2.2.1)),(7,.row 1 (Ls v3.2.2.2.2.2.2.2.2.2.1)),(8,.row 1 (Ls (v3.2.2.2.2.2.2.2.2.2.2.set 0 ((rx v3.2.2.2.2.2.2.2.2.2.2 0).set 0 v8.2.2.2))))],9⟩) ?_ ?_
   ·exact wkJ 9 hP
   exact⟨⟨_,(.cell Q3x rfl rfl rfl (by simp) (by simp) .nil),by simp[Qt,CN]⟩,by simp,by simp[CN]⟩
  have g5:¬(v4.2.2=0):=gQ;clear g;replace h:=if_r g5 h;refine Q0 (rxQ hN λK hK=>?_);simp;repeat refine sdQ ?_
  refine hK _ ?_;clear hK K;refine tn (Q7 rfl (λg=>?_) λg=>?_)
  ·have g10:v4.2.2=1:=gQ;clear g;replace h:=if_l g10 h;refine Q18 [] mo (by rw[hN];decide) λK hK=>?_;simp;(repeat with_reducible refine sdQ ?_);replace⟨v11,hv11,h⟩:=bind_some h;refine QG (fz:=[]) (frQ (e:={v:=.val (.int .i64 v11.2.2.2),set:=[(1,.mix 3 [[.lst true 1 (Us v11.1),iV v11.2.1,.val (.int .u64 v11.2.2.1)]])],del:=[],new:=[],cnt:=0}) (Q16 100 _ _ v11 hv11) [(0,1)]) ?_;simp;(repeat refine sdQ ?_);refine hK _ ?_;clear hK K;refine bn (tn (Q2 (st':=⟨Y0F [(3,.adr 3 0 0)],Y9 ((1,.mix 3 [[.lst true 1 (Us v11.1),iV v11.2.1,.val (.int .u64 v11.2.2.1)]])::Y0j [(3,.mix 8 [[iV v3.2.2.2.1,.own 4 0 v3.2.2.2.2.1.length,.own 5 0 v3.2.2.2.2.2.1.length,.own 6 0 v3.2.2.2.2.2.2.1.length,.own 7 0 v3.2.2.2.2.2.2.2.1.length,iV v11.2.2.2,.own 8 0 v3.2.2.2.2.2.2.2.2.2.1.length,.own 9 0 v3.2.2.2.2.2.2.2.2.2.2.length]]),(4,rI v3.2.2.2.2.1),(5,rI v3.2.2.2.2.2.1),(6,rI v3.2.2.2.2.2.2.1),(7,.row 1 (Ls v3.2.2.2.2.2.2.2.1)),(8,.row 1 (Ls v3.2.2.2.2.2.2.2.2.2.1)),(9,.row 1 (Ls v3.2.2.2.2.2.2.2.2.2.2))]),10⟩) (wkJ 10 hP) (Q0 (rxQ hN λK hK=>?_))));simp;(repeat refine sdQ ?_);refine hK _ (tn (Q2 (st':=⟨Y0F [],Y9 [(1,.mix 3 [[.lst true 1 (Us v11.1),iV v11.2.1,.val (.int .u64 v11.2.2.1)]]),(2,.mix 8 [[iV v3.2.2.2.1,.own 3 0 v3.2.2.2.2.1.length,.own 4 0 v3.2.2.2.2.2.1.length,.own 5 0 v3.2.2.2.2.2.2.1.length,.own 6 0 v3.2.2.2.2.2.2.2.1.length,iV v11.2.2.2,.own 7 0 v3.2.2.2.2.2.2.2.2.2.1.length,.own 8 0 v3.2.2.2.2.2.2.2.2.2.2.length]]),(3,rI v3.2.2.2.2.1),(4,rI v3.2.2.2.2.2.1),(5,rI v3.2.2.2.2.2.2.1),(6,.row 1 (Ls v3.2.2.2.2.2.2.2.1)),(7,.row 1 (Ls v3.2.2.2.2.2.2.2.2.2.1)),(8,.row 1 (Ls v3.2.2.2.2.2.2.2.2.2.2))],9⟩) (wkP [(0,0),(1,1),(2,2),(4,3),(5,4),(6,5),(7,6),(8,7),(9,8)] hP) (Qe ?_)));clear hK K;cases h;try dsimp only
   first|refine Q9z (st':=⟨Y0F [],Y9 [(1,.mix 3 [[.lst true 1 (Us v11.1),iV v11.2.1,.val (.int .u64 v11.2.2.1)]]),(2,.mix 8 [[iV v3.2.2.2.1,.own 3 0 v3.2.2.2.2.1.length,.own 4 0 v3.2.2.2.2.2.1.length,.own 5 0 v3.2.2.2.2.2.2.1.length,.own 6 0 v3.2.2.2.2.2.2.2.1.length,iV v11.2.2.2,.own 7 0 v3.2.2.2.2.2.2.2.2.2.1.length,.own 8 0 v3.2.2.2.2.2.2.2.2.2.2.length]]),(3,rI v3.2.2.2.2.1),(4,rI v3.2.2.2.2.2.1),(5,rI v3.2.2.2.2.2.2.1),(6,.row 1 (Ls v3.2.2.2.2.2.2.2.1)),(7,.row 1 (Ls v3.2.2.2.2.2.2.2.2.2.1)),(8,.row 1 (Ls v3.2.2.2.2.2.2.2.2.2.2))],9⟩) ?_ ?_|refine Q9y (st':=⟨Y0F [],Y9 [(1,.mix 3 [[.lst true 1 (Us v11.1),iV v11.2.1,.val (.int .u64 v11.2.2.1)]]),(2,.mix 8 [[iV v3.2.2.2.1,.own 3 0 v3.2.2.2.2.1.length,.own 4 0 v3.2.2.2.2.2.1.length,.own 5 0 v3.2.2.2.2.2.2.1.length,.own 6 0 v3.2.2.2.2.2.2.2.1.length,iV v11.2.2.2,.own 7 0 v3.2.2.2.2.2.2.2.2.2.1.length,.own 8 0 v3.2.2.2.2.2.2.2.2.2.2.length]]),(3,rI v3.2.2.2.2.1),(4,rI v3.2.2.2.2.2.1),(5,rI v3.2.2.2.2.2.2.1),(6,.row 1 (Ls v3.2.2.2.2.2.2.2.1)),(7,.row 1 (Ls v3.2.2.2.2.2.2.2.2.2.1)),(8,.row 1 (Ls v3.2.2.2.2.2.2.2.2.2.2))],9⟩) ?_ ?_
   ·exact wkJ 9 hP
   exact⟨⟨_,(.cell Q3x rfl rfl rfl (by simp) (by simp) .nil),by simp[Qt,CN]⟩,by simp,by simp[CN]⟩
  have g10:¬(v4.2.2=1):=gQ;clear g;replace h:=if_r g10 h;refine Q0 (rxQ hN λK hK=>?_);simp;repeat refine sdQ ?_
  refine hK _ ?_;clear hK K;refine tn (Q7 rfl (λg=>?_) λg=>?_)
  ·have g12:v4.2.2=2:=gQ;clear g;replace h:=if_l g12 h;refine rxQ hN λK hK=>?_;replace⟨a13,h⟩:=Q1 h;simp;(repeat refine sdQ ?_);refine hK _ ?_;clear hK K;refine bn (tn (Q2 (st':=⟨Y0F [(3,.adr 3 0 0)],Y9 ((1,.mix 3 [[.lst true 1 (Us (v3.1)),iV v4.1,.val (.int .u64 v4.2.1)]])::Y0j [(3,.mix 8 [[iV v3.2.2.2.1,.own 4 0 v3.2.2.2.2.1.length,.own 5 0 v3.2.2.2.2.2.1.length,.own 6 0 v3.2.2.2.2.2.2.1.length,.own 7 0 v3.2.2.2.2.2.2.2.1.length,iV v3.2.2.2.2.2.2.2.2.1,.own 8 1 (((v3.2.2.2.2.2.2.2.2.2.1.length:Int) - 1).toNat),.own 9 0 v3.2.2.2.2.2.2.2.2.2.2.length]]),(4,rI v3.2.2.2.2.1),(5,rI v3.2.2.2.2.2.1),(6,rI v3.2.2.2.2.2.2.1),(7,.row 1 (Ls v3.2.2.2.2.2.2.2.1)),(8,.row 1 (Ls v3.2.2.2.2.2.2.2.2.2.1)),(9,.row 1 (Ls v3.2.2.2.2.2.2.2.2.2.2))]),10⟩) (wkJ 10 hP) (Q0 (rxQ hN λK hK=>?_))));simp;(repeat refine sdQ ?_);refine hK _ (tn (Q2 (st':=⟨Y0F [],Y9 [(1,.mix 3 [[.lst true 1 (Us (v3.1)),iV v4.1,.val (.int .u64 v4.2.1)]]),(2,.mix 8 [[iV v3.2.2.2.1,.own 3 0 v3.2.2.2.2.1.length,.own 4 0 v3.2.2.2.2.2.1.length,.own 5 0 v3.2.2.2.2.2.2.1.length,.own 6 0 v3.2.2.2.2.2.2.2.1.length,iV v3.2.2.2.2.2.2.2.2.1,.own 7 1 (((v3.2.2.2.2.2.2.2.2.2.1.length:Int) - 1).toNat),.own 8 0 v3.2.2.2.2.2.2.2.2.2.2.length]]),(3,rI v3.2.2.2.2.1),(4,rI v3.2.2.2.2.2.1),(5,rI v3.2.2.2.2.2.2.1),(6,.row 1 (Ls v3.2.2.2.2.2.2.2.1)),(7,.row 1 (Ls v3.2.2.2.2.2.2.2.2.2.1)),(8,.row 1 (Ls v3.2.2.2.2.2.2.2.2.2.2))],9⟩) (wkP [(0,0),(1,1),(2,2),(4,3),(5,4),(6,5),(7,6),(8,7),(9,8)] hP) (Qe ?_)));clear hK K;cases h;(try dsimp only);first|refine Q9z (st':=⟨Y0F [],Y9 [(1,.mix 3 [[.lst true 1 (Us (v3.1)),iV v4.1,.val (.int .u64 v4.2.1)]]),(2,.mix 8 [[iV v3.2.2.2.1,.own 3 0 v3.2.2.2.2.1.length,.own 4 0 v3.2.2.2.2.2.1.length,.own 5 0 v3.2.2.2.2.2.2.1.length,.own 6 0 v3.2.2.2.2.2.2.2.1.length,iV v3.2.2.2.2.2.2.2.2.1,.own 7 1 (((v3.2.2.2.2.2.2.2.2.2.1.length:Int) - 1).toNat),.own 8 0 v3.2.2.2.2.2.2.2.2.2.2.length]]),(3,rI v3.2.2.2.2.1),(4,rI v3.2.2.2.2.2.1),(5,rI v3.2.2.2.2.2.2.1),(6,.row 1 (Ls v3.2.2.2.2.2.2.2.1)),(7,.row 1 (Ls v3.2.2.2.2.2.2.2.2.2.1)),(8,.row 1 (Ls v3.2.2.2.2.2.2.2.2.2.2))],9⟩) ?_ ?_|refine Q9y (st':=⟨Y0F [],Y9 [(1,.mix 3 [[.lst true 1 (Us (v3.1)),iV v4.1,.val (.int .u64 v4.2.1)]]),(2,.mix 8 [[iV v3.2.2.2.1,.own 3 0 v3.2.2.2.2.1.length,.own 4 0 v3.2.2.2.2.2.1.length,.own 5 0 v3.2.2.2.2.2.2.1.length,.own 6 0 v3.2.2.2.2.2.2.2.1.length,iV v3.2.2.2.2.2.2.2.2.1,.own 7 1 (((v3.2.2.2.2.2.2.2.2.2.1.length:Int) - 1).toNat),.own 8 0 v3.2.2.2.2.2.2.2.2.2.2.length]]),(3,rI v3.2.2.2.2.1),(4,rI v3.2.2.2.2.2.1),(5,rI v3.2.2.2.2.2.2.1),(6,.row 1 (Ls v3.2.2.2.2.2.2.2.1)),(7,.row 1 (Ls v3.2.2.2.2.2.2.2.2.2.1)),(8,.row 1 (Ls v3.2.2.2.2.2.2.2.2.2.2))],9⟩) ?_ ?_
   ·exact wkJ 9 hP
   exact⟨⟨_,(.cell Q3x rfl rfl rfl (by simp) (by simp) .nil),by simp[Qt,CN]⟩,by simp,by simp[CN]⟩
  have g12:¬(v4.2.2=2):=gQ;clear g;replace h:=if_r g12 h;refine Q8 (bn (tn (Q0 (rxQ hN λK hK=>?_))));simp;repeat refine sdQ ?_
  refine hK _ (tn (Q2 (st':=⟨Y0F [],Y9 [(1,.mix 3 [[.lst true 1 (Us (v3.1)),iV v4.1,.val (.int .u64 v4.2.1)]]),(2,.mix 8 [[iV v3.2.2.2.1,.own 3 0 v3.2.2.2.2.1.length,.own 4 0 v3.2.2.2.2.2.1.length,.own 5 0 v3.2.2.2.2.2.2.1.length,.own 6 0 v3.2.2.2.2.2.2.2.1.length,iV v3.2.2.2.2.2.2.2.2.1,.own 7 0 v3.2.2.2.2.2.2.2.2.2.1.length,.own 8 0 v3.2.2.2.2.2.2.2.2.2.2.length]]),(3,rI v3.2.2.2.2.1),(4,rI v3.2.2.2.2.2.1),(5,rI v3.2.2.2.2.2.2.1),(6,.row 1 (Ls v3.2.2.2.2.2.2.2.1)),(7,.row 1 (Ls v3.2.2.2.2.2.2.2.2.2.1)),(8,.row 1 (Ls v3.2.2.2.2.2.2.2.2.2.2))],9⟩) (wkP [(0,0),(1,1),(2,2),(4,3),(5,4),(6,5),(7,6),(8,7),(9,8)] hP) (Qe ?_)));clear hK K;cases h;try dsimp only
  first|refine Q9z (st':=⟨Y0F [],Y9 [(1,.mix 3 [[.lst true 1 (Us (v3.1)),iV v4.1,.val (.int .u64 v4.2.1)]]),(2,.mix 8 [[iV v3.2.2.2.1,.own 3 0 v3.2.2.2.2.1.length,.own 4 0 v3.2.2.2.2.2.1.length,.own 5 0 v3.2.2.2.2.2.2.1.length,.own 6 0 v3.2.2.2.2.2.2.2.1.length,iV v3.2.2.2.2.2.2.2.2.1,.own 7 0 v3.2.2.2.2.2.2.2.2.2.1.length,.own 8 0 v3.2.2.2.2.2.2.2.2.2.2.length]]),(3,rI v3.2.2.2.2.1),(4,rI v3.2.2.2.2.2.1),(5,rI v3.2.2.2.2.2.2.1),(6,.row 1 (Ls v3.2.2.2.2.2.2.2.1)),(7,.row 1 (Ls v3.2.2.2.2.2.2.2.2.2.1)),(8,.row 1 (Ls v3.2.2.2.2.2.2.2.2.2.2))],9⟩) ?_ ?_|refine Q9y (st':=⟨Y0F [],Y9 [(1,.mix 3 [[.lst true 1 (Us (v3.1)),iV v4.1,.val (.int .u64 v4.2.1)]]),(2,.mix 8 [[iV v3.2.2.2.1,.own 3 0 v3.2.2.2.2.1.length,.own 4 0 v3.2.2.2.2.2.1.length,.own 5 0 v3.2.2.2.2.2.2.1.length,.own 6 0 v3.2.2.2.2.2.2.2.1.length,iV v3.2.2.2.2.2.2.2.2.1,.own 7 0 v3.2.2.2.2.2.2.2.2.2.1.length,.own 8 0 v3.2.2.2.2.2.2.2.2.2.2.length]]),(3,rI v3.2.2.2.2.1),(4,rI v3.2.2.2.2.2.1),(5,rI v3.2.2.2.2.2.2.1),(6,.row 1 (Ls v3.2.2.2.2.2.2.2.1)),(7,.row 1 (Ls v3.2.2.2.2.2.2.2.2.2.1)),(8,.row 1 (Ls v3.2.2.2.2.2.2.2.2.2.2))],9⟩) ?_ ?_
  ·exact wkJ 9 hP
  exact⟨⟨_,(.cell Q3x rfl rfl rfl (by simp) (by simp) .nil),by simp[Qt,CN]⟩,by simp,by simp[CN]⟩
 clear hv14;rcases v14 with v14|v14
 ·try dsimp only at h
  try dsimp only
  simp;repeat refine sdQ ?_
  refine hK _ ?_;clear hK K;refine tn (Q2 (st':=⟨YA [(5,.adr 1 0 0),(6,.adr 2 0 0)],Y9 [(1,.mix 3 [[.lst true 1 (Us v14.1),iV v14.2.1,.val (.int .u64 v14.2.2.1)]]),(2,.mix 8 [[iV v14.2.2.2.1,.own 3 0 v14.2.2.2.2.1.length,.own 4 0 v14.2.2.2.2.2.1.length,.own 5 0 v14.2.2.2.2.2.2.1.length,.own 6 0 v14.2.2.2.2.2.2.2.1.length,iV v14.2.2.2.2.2.2.2.2.1,.own 7 1 (((v14.2.2.2.2.2.2.2.2.2.1.length:Int) - 1).toNat),.own 8 0 v14.2.2.2.2.2.2.2.2.2.2.length]]),(3,rI v14.2.2.2.2.1),(4,rI v14.2.2.2.2.2.1),(5,rI v14.2.2.2.2.2.2.1),(6,.row 1 (Ls v14.2.2.2.2.2.2.2.1)),(7,.row 1 (Ls v14.2.2.2.2.2.2.2.2.2.1)),(8,.row 1 (Ls v14.2.2.2.2.2.2.2.2.2.2))],9⟩) (wkQ [(0,0),(1,1),(9,2),(3,3),(4,4),(5,5),(6,6),(7,7),(8,8)]) (Q0 (Q2 (st':=⟨YA [(5,.adr 1 0 0),(6,.rptr [iV v14.2.2.2.1,lI v14.2.2.2.2.1,lI v14.2.2.2.2.2.1,lI v14.2.2.2.2.2.2.1,.lst true 1 (Ls v14.2.2.2.2.2.2.2.1),iV v14.2.2.2.2.2.2.2.2.1,.lst true 1 (Ls ((v14.2.2.2.2.2.2.2.2.2.1.drop 1).take (((v14.2.2.2.2.2.2.2.2.2.1.length:Int) - 1).toNat))),.lst true 1 (Ls v14.2.2.2.2.2.2.2.2.2.2)])],Y9 [(1,.mix 3 [[.lst true 1 (Us v14.1),iV v14.2.1,.val (.int .u64 v14.2.2.1)]])],9⟩) (Wk.frzD hW [2,3,4,5,6,7,8] (Q9u (.inl rfl) (Q9u (.inl rfl) (Q9u (.inr (.inr (.adr rfl (by simp) rfl (.cons (.ro rfl) (.cons (.row rfl (by simp) (by simp)) (.cons (.row rfl (by simp) (by simp)) (.cons (.row rfl (by simp) (by simp)) (.cons (.row rfl (by simp) (by simp)) (.cons (.ro rfl) (.cons (.part' rfl (by simp) (by simp;omega) (by simp[Is,Ls,Es,List.map_drop,List.map_take])) (.cons (.row rfl (by simp) (by simp)) .nil))))))))))) frz_n))) rfl (by simp[look])) (w_runXQ false [] [] [6] [6,14,19] (by simp[St.get,look,CN]<;>(repeat' apply And.intro)<;>exact RoV_Es (by simp[CN])) mo (by rw[hN];decide) λK hK=>?_))));simp;repeat with_reducible refine sdQ ?_
  replace⟨v15,hv15,h⟩:=bind_some h;refine QG (fz:=[]) (frQ (e:={v:=.val (.int .i64 v15.2.2.2),set:=[(1,.mix 3 [[.lst true 1 (Us v15.1),iV v15.2.1,.val (.int .u64 v15.2.2.1)]])],del:=[],new:=[],cnt:=0}) (Q16 100 _ _ v15 hv15) [(0,1)]) ?_;simp;repeat with_reducible refine sdQ ?_
  replace⟨v16,hv16,h⟩:=bind_some h;refine QG (fz:=[]) (frQ (e:={v:=.val (.int .i64 v16.2.2.2),set:=[(1,.mix 3 [[.lst true 1 (Us v16.1),iV v16.2.1,.val (.int .u64 v16.2.2.1)]])],del:=[],new:=[],cnt:=0}) (Q16 100 _ _ v16 hv16) [(0,1)]) ?_;simp;repeat refine sdQ ?_
  refine hK _ (tn (Q2 (st':=⟨YA [(3,iV v15.2.2.2),(4,iV v16.2.2.2)],[(0,.mix 8 [[iV v14.2.2.2.1,lI v14.2.2.2.2.1,lI v14.2.2.2.2.2.1,lI v14.2.2.2.2.2.2.1,.lst true 1 (Ls v14.2.2.2.2.2.2.2.1),iV v14.2.2.2.2.2.2.2.2.1,.lst true 1 (Ls ((v14.2.2.2.2.2.2.2.2.2.1.drop 1).take (((v14.2.2.2.2.2.2.2.2.2.1.length:Int) - 1).toNat))),.lst true 1 (Ls v14.2.2.2.2.2.2.2.2.2.2)]])],1⟩) (wkQ [(0,0)]) (Qe ?_)));clear hK K;have hr:=yJ h;rw[←hr];exact RetFG.mk' (.cell Q3x rfl rfl rfl (by simp) (by simp) (.tmp (.tmp .nil))) (.cons (.aggL (.cons .val (.cons .lst (.cons .lst (.cons .lst (.cons .lst (.cons .val (.cons .lst (.cons .lst .nil))))))))) (.cons .val (.cons .val .nil)))
 try dsimp only at h
 try dsimp only
 simp;repeat refine sdQ ?_
 refine hK _ ?_;clear hK K;refine tn (Q2 (st':=⟨YA [(5,.adr 1 0 0),(6,.adr 2 0 0)],Y9 [(1,.mix 3 [[.lst true 1 (Us v14.1),iV v14.2.1,.val (.int .u64 v14.2.2.1)]]),(2,.mix 8 [[iV v14.2.2.2.1,.own 3 0 v14.2.2.2.2.1.length,.own 4 0 v14.2.2.2.2.2.1.length,.own 5 0 v14.2.2.2.2.2.2.1.length,.own 6 0 v14.2.2.2.2.2.2.2.1.length,iV v14.2.2.2.2.2.2.2.2.1,.own 7 0 v14.2.2.2.2.2.2.2.2.2.1.length,.own 8 0 v14.2.2.2.2.2.2.2.2.2.2.length]]),(3,rI v14.2.2.2.2.1),(4,rI v14.2.2.2.2.2.1),(5,rI v14.2.2.2.2.2.2.1),(6,.row 1 (Ls v14.2.2.2.2.2.2.2.1)),(7,.row 1 (Ls v14.2.2.2.2.2.2.2.2.2.1)),(8,.row 1 (Ls v14.2.2.2.2.2.2.2.2.2.2))],9⟩) (wkQ [(0,0),(1,1),(9,2),(3,3),(4,4),(5,5),(6,6),(7,7),(8,8)]) (Q0 (Q2 (st':=⟨YA [(5,.adr 1 0 0),(6,.rptr [iV v14.2.2.2.1,lI v14.2.2.2.2.1,lI v14.2.2.2.2.2.1,lI v14.2.2.2.2.2.2.1,.lst true 1 (Ls v14.2.2.2.2.2.2.2.1),iV v14.2.2.2.2.2.2.2.2.1,.lst true 1 (Ls v14.2.2.2.2.2.2.2.2.2.1),.lst true 1 (Ls v14.2.2.2.2.2.2.2.2.2.2)])],Y9 [(1,.mix 3 [[.lst true 1 (Us v14.1),iV v14.2.1,.val (.int .u64 v14.2.2.1)]])],9⟩) (Wk.frzD hW [2,3,4,5,6,7,8] (Q9u (.inl rfl) (Q9u (.inl rfl) (Q9u (.inr (.inr (.adr rfl (by simp) rfl (.cons (.ro rfl) (.cons (.row rfl (by simp) (by simp)) (.cons (.row rfl (by simp) (by simp)) (.cons (.row rfl (by simp) (by simp)) (.cons (.row rfl (by simp) (by simp)) (.cons (.ro rfl) (.cons (.row rfl (by simp) (by simp)) (.cons (.row rfl (by simp) (by simp)) .nil))))))))))) frz_n))) rfl (by simp[look])) (w_runXQ false [] [] [6] [6,14,19] (by simp[St.get,look,CN]<;>(repeat' apply And.intro)<;>exact RoV_Es (by simp[CN])) mo (by rw[hN];decide) λK hK=>?_))));simp;repeat with_reducible refine sdQ ?_
 replace⟨v17,hv17,h⟩:=bind_some h;refine QG (fz:=[]) (frQ (e:={v:=.val (.int .i64 v17.2.2.2),set:=[(1,.mix 3 [[.lst true 1 (Us v17.1),iV v17.2.1,.val (.int .u64 v17.2.2.1)]])],del:=[],new:=[],cnt:=0}) (Q16 100 _ _ v17 hv17) [(0,1)]) ?_;simp;repeat with_reducible refine sdQ ?_
 replace⟨v18,hv18,h⟩:=bind_some h;refine QG (fz:=[]) (frQ (e:={v:=.val (.int .i64 v18.2.2.2),set:=[(1,.mix 3 [[.lst true 1 (Us v18.1),iV v18.2.1,.val (.int .u64 v18.2.2.1)]])],del:=[],new:=[],cnt:=0}) (Q16 100 _ _ v18 hv18) [(0,1)]) ?_;simp;repeat refine sdQ ?_
 refine hK _ (tn (Q2 (st':=⟨YA [(3,iV v17.2.2.2),(4,iV v18.2.2.2)],[(0,.mix 8 [[iV v14.2.2.2.1,lI v14.2.2.2.2.1,lI v14.2.2.2.2.2.1,lI v14.2.2.2.2.2.2.1,.lst true 1 (Ls v14.2.2.2.2.2.2.2.1),iV v14.2.2.2.2.2.2.2.2.1,.lst true 1 (Ls v14.2.2.2.2.2.2.2.2.2.1),.lst true 1 (Ls v14.2.2.2.2.2.2.2.2.2.2)]])],1⟩) (wkQ [(0,0)]) (Qe ?_)));clear hK K;have hr:=yJ h;rw[←hr];exact RetFG.mk' (.cell Q3x rfl rfl rfl (by simp) (by simp) (.tmp (.tmp .nil))) (.cons (.aggL (.cons .val (.cons .lst (.cons .lst (.cons .lst (.cons .lst (.cons .val (.cons .lst (.cons .lst .nil))))))))) (.cons .val (.cons .val .nil)))
attribute [local simp] unk unA unE unT unC flat eL eI Qc Qr XMonoidal.cells
def Q1c(code_:List Int):Option (XMonoidal×Int×Int):=
 (Q44 code_).bind λv1=>
 some (v1.1,v1.2.1,v1.2.2)
@[simp] abbrev Y0a(a:XMonoidal×Int×Int)(b:List (Nat×Ent)):List (Nat×Ent):=(0,.mix 8 [(XMonoidal.cells true a.1)])::b
theorem Q4y(code_:List Int)(r:XMonoidal×Int×Int)(h:Q1c code_=some r):FContract Try.prog true 21 [.lst true 1 (Us code_)] (.tup [.agg (r.1.cells true),iV r.2.1,iV r.2.2]):=by
 refine Q5q (rvs:=[.cell 2 48,.tmp 3,.tmp 4]) (rs:=[.agg (r.1.cells true),iV r.2.1,iV r.2.2]) Try.func21 rfl rfl rfl rfl (by simp[Try.f21]) λF hN hP=>?_;unfold Q1c at h;refine Q0 (rxQ hN λK hK=>?_);simp;repeat refine sdQ ?_
 refine hK _ ?_;clear hK K;refine tn (Q2 (st':=⟨(0,.lst true 1 (Us code_))::YA [],Y9 [],1⟩) (wkQ [(0,0)]) (Q0 (rxQ hN λK hK=>?_)));simp;repeat with_reducible refine sdQ ?_
 replace⟨v1,hv1,h⟩:=bind_some h;refine Q7n (fz:=[]) true (w_s_l35At _ v1 hv1) (PurK.ofN (.cons .lst .nil)) ?_;simp;repeat refine sdQ ?_
 refine hK _ (tn (Q2 (st':=⟨YA [(3,iV v1.2.1),(4,iV v1.2.2)],Y0a v1 [],1⟩) (wkQ [(0,0)]) (Qe ?_)));clear hK K;have hr:=yJ h;rw[←hr];exact RetFG.mk' (.cell Q3x rfl rfl rfl (by simp) (by simp) (.tmp (.tmp .nil))) (.cons (.aggL (.cons .val (.cons .lst (.cons .lst (.cons .lst (.cons .lst (.cons .val (.cons .lst (.cons .lst .nil))))))))) (.cons .val (.cons .val .nil)))
section
attribute [local simp] Qi QP Qv Q1l QN
abbrev AtQ:(SmT2⊕SmT2)→Prop:=SQ (λr=>Src ⟨r.1,r.2.1,r.2.2.1⟩) λr=>Src ⟨r.1,r.2.1,r.2.2.1⟩
theorem g_at{code:List Int}(hl:code.length≤4096)(hb:∀n∈code,0≤n∧n≤255):Gd (Q44 code) λ_=>True:=by
 unfold Q44;refine Gd.bind (g_from hl) λh _=>?_;have hs:Src ⟨code,0,h⟩:=⟨by simp,by simp,hl,hb⟩;refine Gd.bind (P:=AtQ) (Gd.bind (g_some hs) λm hm=>?_) λv hv=>?_
 ·obtain⟨hm1,⟨m1,m2⟩,m3,m4⟩:=hm;refine Gd.bind (Q3p hm1 24) λv hv=>Gd.ite (λ_=>?_) λ_=>Gd.ite (λ_=>?_) λ_=>Gd.ite (λ_=>?_) λ_=>Gd.som hv.1
  ·exact Gd.ass (by omega) (Gd.ass (by unfold B64;omega) (Gd.bind (Q4d hv.1 _) λr hr=>Gd.ass (by omega) (Gd.som hr)))
  ·exact Gd.bind (Q4d hv.1 _) λr hr=>Gd.som hr
  exact Gd.ass (by omega) (Gd.som hv.1)
 rcases v with p|p
 ·exact Gd.bind (Q4d hv _) λr hr=>Gd.bind (Q4d hr _) λr hr=>Gd.som trivial
 exact Gd.bind (Q4d hv _) λr hr=>Gd.bind (Q4d hr _) λr hr=>Gd.som trivial
theorem g_draw{code:List Int}(hl:code.length≤4096)(hb:∀n∈code,0≤n∧n≤255):∃m y z,Q1c code=some (m,y,z):=by
 obtain⟨r,h,_⟩:=g_at hl hb;exact⟨r.1,r.2.1,r.2.2,by unfold Q1c;rw[h];rfl⟩
end
section
attribute [local simp] Qi QP Qv Q1l QN
theorem Q9b{ε δ:Type}{b1:Int→Option (Ctl Int ε)}{b2:Int→Option (Ctl Int δ)}(R:ε→δ→Prop)(n:Nat)(hn:n<4611686018427387904)(h:∀i:Nat,i<n→(b1 (i:Int)=some (.next ((i:Int)+1))∧b2 (i:Int)=some (.next ((i:Int)+1)))∨∃a b,b1 (i:Int)=some (.ret a)∧b2 (i:Int)=some (.ret b)∧R a b)(he:∃a b,b1 (n:Int)=some (.ret a)∧b2 (n:Int)=some (.ret b)∧R a b):∃a b,Qo b1 fuel 0=some a∧Qo b2 fuel 0=some b∧R a b:=by
 have key:∀k:Nat,∀i:Nat,i+k=n→∀m:Nat,k<m→∃a b,Qo b1 m (i:Int)=some a∧Qo b2 m (i:Int)=some b∧R a b:=by
  intro k
  induction k with
  |zero=>
   intro i hi m hm;obtain⟨j,rfl⟩:∃j,m=j+1:=⟨m - 1,by omega⟩;obtain⟨a,b,e1,e2,r⟩:=he;have:i=n:=(by omega);subst this;exact⟨a,b,by simp only[Qo,e1],by simp only[Qo,e2],r⟩
  |succ k ih=>
   intro i hi m hm;obtain⟨j,rfl⟩:∃j,m=j+1:=⟨m - 1,by omega⟩;rcases h i (by omega)with⟨e1,e2⟩|⟨a,b,e1,e2,r⟩
   ·obtain⟨a,b,q1,q2,r⟩:=ih (i+1) (by omega) j (by omega);exact⟨a,b,by simp only[Qo,e1];exact q1,by simp only[Qo,e2];exact q2,r⟩
   exact⟨a,b,by simp only[Qo,e1],by simp only[Qo,e2],r⟩
 have:=key n 0 (by omega) fuel (by unfold fuel;omega);simpa using this
theorem two_bind{ε δ β γ:Type}{b1:Int→Option (Ctl Int ε)}{b2:Int→Option (Ctl Int δ)}{K1:ε→Option β}{K2:δ→Option γ}{Q:Option β→Option γ→Prop}(R:ε→δ→Prop)(n:Nat)(hn:n<4611686018427387904)(h:∀i:Nat,i<n→(b1 (i:Int)=some (.next ((i:Int)+1))∧b2 (i:Int)=some (.next ((i:Int)+1)))∨∃a b,b1 (i:Int)=some (.ret a)∧b2 (i:Int)=some (.ret b)∧R a b)(he:∃a b,b1 (n:Int)=some (.ret a)∧b2 (n:Int)=some (.ret b)∧R a b)(hk:∀a b,R a b→Q (K1 a) (K2 b)):Q ((Qo b1 fuel 0).bind K1) ((Qo b2 fuel 0).bind K2):=by
 obtain⟨a,b,e1,e2,r⟩:=Q9b R n hn h he;rw[e1,e2];exact hk a b r
def imF:List Int→List (Int×Bool)
 |[]=>[]
 |k::r=>tset k true (imF r)
theorem tset_has{α β:Type}[DecidableEq α](k:α)(v:β)(m:List (α×β)):(tset k v m).length=if(Q6a k m).isSome=true then m.length else m.length+1:=by
 induction m with
 |nil=>simp[tset,Q6a]
 |cons p r ih=>
  obtain⟨a,x⟩:=p;unfold tset Q6a
  by_cases h:a=k
  ·simp[h]
  rw[if_neg h,if_neg h,List.length_cons,ih];split<;>simp
theorem Q93(M:List Int)(k:Int):(Q6a k (imF M)).isSome=true↔k∈M:=by
 induction M with
 |nil=>simp[imF,Q6a]
 |cons a r ih=>
  rw[imF,Q9Z]
  by_cases h:a=k
  ·simp[h]
  rw[if_neg h,ih];simp[show k≠a from λq=>h q.symm]
theorem imF_len(M:List Int):(imF M).length≤M.length∧((imF M).length=M.length↔M.Nodup):=by
 induction M with
 |nil=>simp[imF]
 |cons a r ih=>
  rw[imF,tset_has]
  by_cases h:a∈r
  ·rw[if_pos ((Q93 r a).2 h)];simp[h];omega
  rw[if_neg (λq=>h ((Q93 r a).1 q))];simp[h,←ih.2];omega
theorem Q55{M B:List Int}(h:M.Nodup)(hs:∀x∈M,x∈B):M.length≤B.length:=by
 induction M generalizing B with
 |nil=>simp
 |cons a r ih=>
  have ha:a∈B:=hs a (by simp);have:=ih (B:=B.erase a) (List.nodup_cons.1 h).2 λx hx=>by
   have:x≠a:=λq=>(List.nodup_cons.1 h).1 (q▸hx);exact(List.mem_erase_of_ne this).2 (hs x (by simp[hx]))
  rw[List.length_erase_of_mem ha]at this;have:=List.length_pos_of_mem ha;simp;omega
theorem each_once{M B:List Int}(hb:B.Nodup)(hs:∀x∈M,x∈B):(M.Nodup∧M.length=B.length)↔∀b∈B,M.count b=1:=by
 constructor
 ·rintro ⟨h1,h2⟩ b hb'
  have hm:b∈M:=Classical.byContradiction λq=>by
   have:=Q55 (B:=B.erase b) h1 λx hx=>(List.mem_erase_of_ne (show x≠b from λe=>q (by rw[←e];exact hx))).2 (hs x hx);rw[List.length_erase_of_mem hb']at this;have:=List.length_pos_of_mem hb';omega
  exact h1.count▸(if_pos hm)
 intro h;have h1:M.Nodup:=List.nodup_iff_count.2 λa=>by
  by_cases q:a∈M
  ·exact Nat.le_of_eq (h a (hs a q))
  rw[List.count_eq_zero_of_not_mem q];omega
 refine⟨h1,Nat.le_antisymm (Q55 h1 hs) (Q55 hb λx hx=>?_)⟩;have:=h x hx;exact List.count_pos_iff.1 (by omega)
end
attribute [local simp] unk unA unE unT unC flat eL eI Qc QS Qr Cat.cells XMonoidal.cells
def Q34(m_:XMonoidal):Option Bool:=
 (Qo (σ:=Int) (ε:=Unit⊕Bool) (λs40=>
  if s40<(m_.on_.fr.length:Int)then
   (
    (Qo (σ:=Int) (ε:=Bool⊕Unit) (λs60=>
     if s60<(m_.on_.fr.length:Int)then
      ass (0≤s40∧s40<(m_.arrows_.length:Int))<|
      ass (0≤s60∧s60<((rx m_.arrows_ s40).length:Int))<|
      (
       ass (0≤ix (rx m_.arrows_ s40) s60∧ix (rx m_.arrows_ s40) s60<(m_.on_.fr.length:Int))<|
       ass (0≤s40∧s40<(m_.on_.fr.length:Int))<|
       ass (0≤ix m_.on_.fr s40∧ix m_.on_.fr s40<(m_.objects_.length:Int))<|
       ass (0≤s60∧s60<(m_.on_.fr.length:Int))<|
       ass (0≤ix m_.on_.fr s60∧ix m_.on_.fr s60<((rx m_.objects_ (ix m_.on_.fr s40)).length:Int))<|
       if¬((ix m_.on_.fr (ix (rx m_.arrows_ s40) s60))=(ix (rx m_.objects_ (ix m_.on_.fr s40)) (ix m_.on_.fr s60)))then
        some true
       else
        ass (0≤ix (rx m_.arrows_ s40) s60∧ix (rx m_.arrows_ s40) s60<(m_.on_.to.length:Int))<|
        ass (0≤s40∧s40<(m_.on_.to.length:Int))<|
        ass (0≤ix m_.on_.to s40∧ix m_.on_.to s40<(m_.objects_.length:Int))<|
        ass (0≤s60∧s60<(m_.on_.to.length:Int))<|
        ass (0≤ix m_.on_.to s60∧ix m_.on_.to s60<((rx m_.objects_ (ix m_.on_.to s40)).length:Int))<|
        some ((ix m_.on_.to (ix (rx m_.arrows_ s40) s60))!=(ix (rx m_.objects_ (ix m_.on_.to s40)) (ix m_.on_.to s60))):Option (Bool)).bind λb64=>
      if b64=true then
       some (yM (yK false))
      else
       ass (B64 (s60+1))<|
       some (yO (s60+1))
     else
      some (yM (yL ()))) fuel 0).bind λe60=>
    match e60 with
    | .inl p60=>
     some (yL p60)
    | .inr p60=>
     some (yK p60):Option (Unit⊕Bool)).bind λe42=>
   match e42 with
   | .inl b42=>
    ass (B64 (s40+1))<|
    some (yO (s40+1))
   | .inr p42=>
    some (yM (yL p42))
  else
   some (yM (yK ()))) fuel 0).bind λe1=>
 match e1 with
 | .inl b1=>
  some true
 | .inr p1=>
  some p1
@[simp] abbrev Yc(a:XMonoidal)(b:List (Nat×Ent)):List (Nat×Ent):=(0,.mix 8 [(XMonoidal.cells true a)])::(1,.mix 5 [(Cat.cells true a.on_)])::b
@[simp] abbrev YC(a:XMonoidal)(b:List (Nat×Ent)):List (Nat×Ent):=(0,.mix 8 [(XMonoidal.cells true a)])::b
theorem Q8O(m_:XMonoidal)(r:Bool)(h:Q34 m_=some r):Contract Try.prog 115 [.agg (m_.cells true)] (.val (.bool r)):=by
 refine Q6 (rvs:=[.tmp 2]) (rs:=[.val (.bool r)]) Try.func115 rfl rfl rfl rfl (by simp[Try.f115]) λF hN hP=>?_;unfold Q34 at h;refine Q0 (runQ hN λK hK=>?_);simp;repeat refine sdQ ?_
 refine hK _ ?_;clear hK K;refine tn (Q2 (st':=⟨YY [],YC m_ [],1⟩) (wkQ [(0,0)]) (Q0 (runQ hN λK hK=>?_)));simp;repeat refine sdQ ?_
 refine hK _ ?_;clear hK K;refine tn (Q2 (st':=⟨Yp [],Yc m_ [],2⟩) (wkQ [(0,0),(1,1)]) (Q0 (Q0 (runQ hN λK hK=>?_))));simp;repeat refine sdQ ?_
 refine hK _ (tn (Q2 (st':=⟨Yp [(4,iV 0)],Yc m_ [],2⟩) (wkQ [(0,0),(1,1)]) ?_));clear hK K;replace⟨e1,h,h1⟩:=bind_some h;refine Q9 (λb1:Unit=>⟨[],[],0⟩) (λb1=>yK b1=e1) ?_ ?_
 ·refine Q5 (Qj h (λs40:Int=>⟨Yp [(4,iV s40)],Yc m_ [],2⟩) (wkQ [(0,0),(1,1)]) ?_);clear h;intro k40 s40 c40 h hk40;refine Q0 (Q0 (runQ hN λK hK=>?_));simp;repeat refine sdQ ?_
  refine hK _ ?_;clear hK K;refine tn (Q7 rfl (λg=>?_) λg=>?_)
  ·have g41:s40<(m_.on_.fr.length:Int):=gQ;clear g;replace h:=if_l g41 h;refine Q8 (tn (Q0 ?_));replace⟨e42,h,h42⟩:=bind_some h;refine Q9 (λb42:Unit=>⟨Yp [(4,iV s40)],Yc m_ [],2⟩) (λb42=>yK b42=e42) ?_ ?_
   ·refine Q5 (Q0 (runQ hN λK hK=>?_));simp;(repeat refine sdQ ?_);refine hK _ (tn (Q2 (st':=⟨Yp [(4,iV s40),(5,iV 0)],Yc m_ [],2⟩) (wkQ [(0,0),(1,1)]) (Q5 ?_)));clear hK K;replace⟨e60,he60,h60⟩:=bind_some h;refine Qj he60 (λs60:Int=>⟨Yp [(4,iV s40),(5,iV s60)],Yc m_ [],2⟩) (wkQ [(0,0),(1,1)]) ?_;intro k60 s60 c60 h hk60;refine Q0 (Q0 (runQ hN λK hK=>?_));simp;(repeat refine sdQ ?_);refine hK _ ?_;clear hK K;refine tn (Q7 rfl (λg=>?_) λg=>?_)
    ·have g61:s60<(m_.on_.fr.length:Int):=gQ;clear g;replace h:=if_l g61 h;refine Q8 (tn (Q0 (Q5 (Q0 (runQ hN λK hK=>?_)))));replace⟨a62,h⟩:=Q1 h;replace⟨a63,h⟩:=Q1 h;simp[at_L a62,at_I a63];(repeat refine sdQ ?_);refine hK _ (tn (Q2 (st':=⟨Yp [(4,iV s40),(5,iV s60),(6,iV (ix (rx m_.arrows_ s40) s60))],Yc m_ [],2⟩) (wkQ [(0,0),(1,1)]) (Q0 ?_)));clear hK K;replace⟨e64,h,h64⟩:=bind_some h;refine Q9 (λb64:Bool=>⟨Yp [(4,iV s40),(5,iV s60),(76,.val (.bool b64))],Yc m_ [],2⟩) (λb64=>b64=e64) ?_ ?_
     ·refine runQ hN λK hK=>?_;replace⟨a65,h⟩:=Q1 h;replace⟨a66,h⟩:=Q1 h;replace⟨a67,h⟩:=Q1 h;replace⟨a68,h⟩:=Q1 h;replace⟨a69,h⟩:=Q1 h;simp[at_I a65,at_I a66,at_L a67,at_I a68,at_I a69];(repeat with_reducible refine sdQ ?_);refine Qa (λg=>?_) (λg=>?_)
      ·have g70:¬(¬((ix m_.on_.fr (ix (rx m_.arrows_ s40) s60))=(ix (rx m_.objects_ (ix m_.on_.fr s40)) (ix m_.on_.fr s60)))):=gQ;clear g;replace h:=if_r g70 h;replace⟨a71,h⟩:=Q1 h;replace⟨a72,h⟩:=Q1 h;replace⟨a73,h⟩:=Q1 h;replace⟨a74,h⟩:=Q1 h;replace⟨a75,h⟩:=Q1 h;simp[at_I a65,at_I a66,at_L a67,at_I a68,at_I a69,at_I a71,at_I a72,at_L a73,at_I a74,at_I a75];(repeat refine sdQ ?_);refine hK _ ?_;exact jn (b:=(ix m_.on_.to (ix (rx m_.arrows_ s40) s60))!=(ix (rx m_.objects_ (ix m_.on_.to s40)) (ix m_.on_.to s60))) (yJ h) (wkQ [(0,0),(1,1)])
      have g70:¬((ix m_.on_.fr (ix (rx m_.arrows_ s40) s60))=(ix (rx m_.objects_ (ix m_.on_.fr s40)) (ix m_.on_.fr s60))):=gQ;clear g;replace h:=if_l g70 h;simp[at_I a65,at_I a66,at_L a67,at_I a68,at_I a69];(repeat refine sdQ ?_);refine hK _ ?_;exact jn (b:=true) (yJ h) (wkQ [(0,0),(1,1)])
     intro b64 hb64;have h:=h64;(try rw[←hb64]at h);clear h64;(try dsimp only at h);refine Q7 rfl (λg=>?_) λg=>?_
     ·have g76:b64=true:=gQ;clear g;replace h:=if_l g76 h;refine Q0 (runQ hN λK hK=>?_);simp;(repeat refine sdQ ?_);refine hK _ (tn (Q2 (st':=⟨YM [],[],0⟩) (wkQ []) (Qe (br (tr (lr (br (br (tr (lr (br (tr ?_))))))))))));clear hK K;cases h;have q:_=e60:=hk60;have h:=h60;rw[←q]at h;clear q;(try dsimp only at h);cases h;have h:=h42;(try dsimp only at h);cases h;have q:_=e1:=hk40;have h:=h1;rw[←q]at h;clear q;(try dsimp only at h);have hr:=yJ h;rw[←hr];refine⟨_,(.tmp .nil),?_⟩;refine⟨(.one rfl rfl .nil),[.val (.bool false)],[],by simp[BN],by simp,(yN _)⟩
     have g76:¬(b64=true):=gQ;clear g;replace h:=if_r g76 h;refine Q8 (bn (tn (runQ hN λK hK=>?_)));replace⟨a77,h⟩:=Q1 h;simp[Qh a77];(repeat refine sdQ ?_);refine hK _ ?_;clear hK K;cases h;exact rn (s':=s60+1) hk60 (wkQ [(0,0),(1,1)])
    have g61:¬(s60<(m_.on_.fr.length:Int)):=gQ;clear g;replace h:=if_r g61 h;refine Ql (tx (lx (bh (bn ?_))));cases h;have q:_=e60:=hk60;have h:=h60;rw[←q]at h;clear q;(try dsimp only at h);exact jn (b:=()) (yJ h) (wkQ [(0,0),(1,1)])
   intro b42 hb42;have h:=h42;(try rw[←hb42]at h);clear h42;(try dsimp only at h);refine runQ hN λK hK=>?_;replace⟨a78,h⟩:=Q1 h;simp[Qh a78];(repeat refine sdQ ?_);refine hK _ ?_;clear hK K;cases h;exact rn (s':=s40+1) hk40 (wkQ [(0,0),(1,1)])
  have g41:¬(s40<(m_.on_.fr.length:Int)):=gQ;clear g;replace h:=if_r g41 h;refine Ql (tx (lx (bh ?_)));cases h;exact jn (b:=()) hk40 (wkQ [])
 intro b1 hb1;have h:=h1;try rw[←hb1]at h
 clear h1;try dsimp only at h
 refine Q0 (runQ hN λK hK=>?_);simp;repeat refine sdQ ?_
 refine hK _ (tn (Q2 (st':=⟨Y0u [],[],0⟩) (wkQ []) (Qe ?_)));clear hK K;have hr:=yJ h;rw[←hr];refine⟨_,(.tmp .nil),?_⟩;refine⟨(.one rfl rfl .nil),[.val (.bool true)],[],by simp[BN],by simp,(yN _)⟩
attribute [local simp] unk unA unE unT unC flat eL eI Qc QS Qr Cat.cells XMonoidal.cells
def Q3v(m_:XMonoidal):Option Bool:=
 (
  (Q1w m_.on_).bind λv2=>
  if¬(v2=true)then
   some true
  else
   (Q2V m_.on_ m_.unit_).bind λv4=>
   if¬(v4=true)then
    some true
   else
    (Q2d m_.objects_ m_.on_.n m_.on_.n).bind λv6=>
    if¬(v6=true)then
     some true
    else
     (Q2d m_.arrows_ (m_.on_.fr.length:Int) (m_.on_.fr.length:Int)).bind λv8=>
     some (!v8):Option (Bool)).bind λb1=>
 if b1=true then
  some false
 else
  (
   (Q34 m_).bind λv11=>
   if¬(v11=true)then
    some true
   else
    (Q1S m_.objects_ m_.unit_).bind λv13=>
    if¬(v13=true)then
     some true
    else
     ass (0≤m_.unit_∧m_.unit_<(m_.on_.id.length:Int))<|
     (Q1S m_.arrows_ (ix m_.on_.id m_.unit_)).bind λv16=>
     some (!v16):Option (Bool)).bind λb10=>
  if b10=true then
   some false
  else
   (Qo (σ:=Int) (ε:=Unit⊕Bool) (λs43=>
    if s43<m_.on_.n then
     (
      (Qo (σ:=Int) (ε:=Bool⊕Unit) (λs56=>
       if s56<m_.on_.n then
        ass (0≤s43∧s43<(m_.on_.id.length:Int))<|
        ass (0≤ix m_.on_.id s43∧ix m_.on_.id s43<(m_.arrows_.length:Int))<|
        ass (0≤s56∧s56<(m_.on_.id.length:Int))<|
        ass (0≤ix m_.on_.id s56∧ix m_.on_.id s56<((rx m_.arrows_ (ix m_.on_.id s43)).length:Int))<|
        ass (0≤s43∧s43<(m_.objects_.length:Int))<|
        ass (0≤s56∧s56<((rx m_.objects_ s43).length:Int))<|
        ass (0≤ix (rx m_.objects_ s43) s56∧ix (rx m_.objects_ s43) s56<(m_.on_.id.length:Int))<|
        if¬((ix (rx m_.arrows_ (ix m_.on_.id s43)) (ix m_.on_.id s56))=(ix m_.on_.id (ix (rx m_.objects_ s43) s56)))then
         some (yM (yK false))
        else
         ass (B64 (s56+1))<|
         some (yO (s56+1))
       else
        some (yM (yL ()))) fuel 0).bind λe56=>
      match e56 with
      | .inl p56=>
       some (yL p56)
      | .inr p56=>
       some (yK p56):Option (Unit⊕Bool)).bind λe45=>
     match e45 with
     | .inl b45=>
      ass (B64 (s43+1))<|
      some (yO (s43+1))
     | .inr p45=>
      some (yM (yL p45))
    else
     some (yM (yK ()))) fuel 0).bind λe18=>
   match e18 with
   | .inl b18=>
    (Qo (σ:=Int) (ε:=Unit⊕Bool) (λs255=>
     if s255<(m_.on_.fr.length:Int)then
      (
       (Qo (σ:=Int) (ε:=Bool⊕Unit) (λs349=>
        if s349<(m_.on_.fr.length:Int)then
         (
          ass (0≤s255∧s255<(m_.on_.cs.length:Int))<|
          ass (0≤s349∧s349<((rx m_.on_.cs s255).length:Int))<|
          if(ix (rx m_.on_.cs s255) s349)<0 then
           some (yK ())
          else
           (Qo (σ:=Int) (ε:=Bool⊕Unit) (λs397=>
            if s397<(m_.on_.fr.length:Int)then
             (
              (Qo (σ:=Int) (ε:=Bool⊕Unit) (λs419=>
               if s419<(m_.on_.fr.length:Int)then
                (
                 ass (0≤s397∧s397<(m_.on_.cs.length:Int))<|
                 ass (0≤s419∧s419<((rx m_.on_.cs s397).length:Int))<|
                 if(ix (rx m_.on_.cs s397) s419)≥0 then
                  ass (0≤s255∧s255<(m_.on_.cs.length:Int))<|
                  ass (0≤s349∧s349<((rx m_.on_.cs s255).length:Int))<|
                  ass (0≤ix (rx m_.on_.cs s255) s349∧ix (rx m_.on_.cs s255) s349<(m_.arrows_.length:Int))<|
                  ass (0≤s397∧s397<(m_.on_.cs.length:Int))<|
                  ass (0≤s419∧s419<((rx m_.on_.cs s397).length:Int))<|
                  ass (0≤ix (rx m_.on_.cs s397) s419∧ix (rx m_.on_.cs s397) s419<((rx m_.arrows_ (ix (rx m_.on_.cs s255) s349)).length:Int))<|
                  ass (0≤s255∧s255<(m_.arrows_.length:Int))<|
                  ass (0≤s397∧s397<((rx m_.arrows_ s255).length:Int))<|
                  ass (0≤ix (rx m_.arrows_ s255) s397∧ix (rx m_.arrows_ s255) s397<(m_.on_.cs.length:Int))<|
                  ass (0≤s349∧s349<(m_.arrows_.length:Int))<|
                  ass (0≤s419∧s419<((rx m_.arrows_ s349).length:Int))<|
                  ass (0≤ix (rx m_.arrows_ s349) s419∧ix (rx m_.arrows_ s349) s419<((rx m_.on_.cs (ix (rx m_.arrows_ s255) s397)).length:Int))<|
                  some ((ix (rx m_.arrows_ (ix (rx m_.on_.cs s255) s349)) (ix (rx m_.on_.cs s397) s419))!=(ix (rx m_.on_.cs (ix (rx m_.arrows_ s255) s397)) (ix (rx m_.arrows_ s349) s419)))
                 else
                  some false:Option (Bool)).bind λb421=>
                if b421=true then
                 some (yM (yK false))
                else
                 ass (B64 (s419+1))<|
                 some (yO (s419+1))
               else
                some (yM (yL ()))) fuel 0).bind λe419=>
              match e419 with
              | .inl p419=>
               some (yL p419)
              | .inr p419=>
               some (yK p419):Option (Unit⊕Bool)).bind λe399=>
             match e399 with
             | .inl b399=>
              ass (B64 (s397+1))<|
              some (yO (s397+1))
             | .inr p399=>
              some (yM (yK p399))
            else
             some (yM (yL ()))) fuel 0).bind λe397=>
           match e397 with
           | .inl p397=>
            some (yL p397)
           | .inr p397=>
            some (yK p397):Option (Unit⊕Bool)).bind λe351=>
         match e351 with
         | .inl b351=>
          ass (B64 (s349+1))<|
          some (yO (s349+1))
         | .inr p351=>
          some (yM (yK p351))
        else
         some (yM (yL ()))) fuel 0).bind λe349=>
       match e349 with
       | .inl p349=>
        some (yL p349)
       | .inr p349=>
        some (yK p349):Option (Unit⊕Bool)).bind λe257=>
      match e257 with
      | .inl b257=>
       ass (B64 (s255+1))<|
       some (yO (s255+1))
      | .inr p257=>
       some (yM (yL p257))
     else
      some (yM (yK ()))) fuel 0).bind λe68=>
    match e68 with
    | .inl b68=>
     some true
    | .inr p68=>
     some p68
   | .inr p18=>
    some p18
theorem Q87(m_:XMonoidal)(r:Bool)(h:Q3v m_=some r):Contract Try.prog 63 [.agg (m_.cells true)] (.val (.bool r)):=by
 refine Q6 (rvs:=[.tmp 2]) (rs:=[.val (.bool r)]) Try.func63 rfl rfl rfl rfl (by simp[Try.f63]) λF hN hP=>?_;unfold Q3v at h;refine Q0 (runQ hN λK hK=>?_);simp;repeat refine sdQ ?_
 refine hK _ ?_;clear hK K;refine tn (Q2 (st':=⟨YY [],YC m_ [],1⟩) (wkQ [(0,0)]) (Q0 (runQ hN λK hK=>?_)));simp;repeat refine sdQ ?_
 refine hK _ (tn (Q2 (st':=⟨Yp [],Yc m_ [],2⟩) (wkQ [(0,0),(1,1)]) (Q0 (Q0 ?_))));clear hK K;replace⟨e1,h,h1⟩:=bind_some h;refine Q9 (λb1:Bool=>⟨Yp [(43,.val (.bool b1))],Yc m_ [],2⟩) (λb1=>b1=e1) ?_ ?_
 ·refine runQ hN λK hK=>?_;simp;repeat with_reducible refine sdQ ?_
  replace⟨v2,hv2,h⟩:=bind_some h;refine Q3 (Q6e _ v2 hv2) (.cons (.aggL (.cons .val (.cons .lst (.cons .lst (.cons .lst (.cons .lst .nil)))))) .nil) ?_;simp;repeat with_reducible refine sdQ ?_
  refine Qa (λg=>?_) (λg=>?_)
  ·have g3:¬(¬(v2=true)):=gQ;clear g;replace h:=if_r g3 h;simp;(repeat with_reducible refine sdQ ?_);replace⟨v4,hv4,h⟩:=bind_some h;refine Q3 (Q7h _ _ v4 hv4) (.cons (.aggL (.cons .val (.cons .lst (.cons .lst (.cons .lst (.cons .lst .nil)))))) (.cons .val .nil)) ?_;simp;(repeat with_reducible refine sdQ ?_);refine Qa (λg=>?_) (λg=>?_)
   ·have g5:¬(¬(v4=true)):=gQ;clear g;replace h:=if_r g5 h;simp;(repeat with_reducible refine sdQ ?_);replace⟨v6,hv6,h⟩:=bind_some h;refine Q3 (Q5o _ _ _ v6 hv6) (.cons .lst (.cons .val (.cons .val .nil))) ?_;simp;(repeat with_reducible refine sdQ ?_);refine Qa (λg=>?_) (λg=>?_)
    ·have g7:¬(¬(v6=true)):=gQ;clear g;replace h:=if_r g7 h;simp;(repeat with_reducible refine sdQ ?_);replace⟨v8,hv8,h⟩:=bind_some h;refine Q3 (Q5o _ _ _ v8 hv8) (.cons .lst (.cons .val (.cons .val .nil))) ?_;simp;(repeat refine sdQ ?_);refine hK _ ?_;exact jn (b:=!v8) (yJ h) (wkQ [(0,0),(1,1)])
    have g7:¬(v6=true):=gQ;clear g;replace h:=if_l g7 h;simp;(repeat refine sdQ ?_);refine hK _ ?_;exact jn (b:=true) (yJ h) (wkQ [(0,0),(1,1)])
   have g5:¬(v4=true):=gQ;clear g;replace h:=if_l g5 h;simp;(repeat refine sdQ ?_);refine hK _ ?_;exact jn (b:=true) (yJ h) (wkQ [(0,0),(1,1)])
  have g3:¬(v2=true):=gQ;clear g;replace h:=if_l g3 h;simp;repeat refine sdQ ?_
  refine hK _ ?_;exact jn (b:=true) (yJ h) (wkQ [(0,0),(1,1)])
 intro b1 hb1;have h:=h1;try rw[←hb1]at h
 clear h1;try dsimp only at h
 refine Q7 rfl (λg=>?_) λg=>?_
 ·have g9:b1=true:=gQ;clear g;replace h:=if_l g9 h;refine Q0 (runQ hN λK hK=>?_);simp;repeat refine sdQ ?_
  refine hK _ (tn (Q2 (st':=⟨YM [],[],0⟩) (wkQ []) (Qe (tr ?_))));clear hK K;have hr:=yJ h;rw[←hr];refine⟨_,(.tmp .nil),?_⟩;refine⟨(.one rfl rfl .nil),[.val (.bool false)],[],by simp[BN],by simp,(yN _)⟩
 have g9:¬(b1=true):=gQ;clear g;replace h:=if_r g9 h;refine Q8 (tn (Q0 (Q0 ?_)));replace⟨e10,h,h10⟩:=bind_some h;refine Q9 (λb10:Bool=>⟨Yp [(66,.val (.bool b10))],Yc m_ [],2⟩) (λb10=>b10=e10) ?_ ?_
 ·refine runQ hN λK hK=>?_;simp;repeat with_reducible refine sdQ ?_
  replace⟨v11,hv11,h⟩:=bind_some h;refine Q3 (Q8O _ v11 hv11) (.cons (.aggL (.cons .val (.cons .lst (.cons .lst (.cons .lst (.cons .lst (.cons .val (.cons .lst (.cons .lst .nil))))))))) .nil) ?_;simp;repeat with_reducible refine sdQ ?_
  refine Qa (λg=>?_) (λg=>?_)
  ·have g12:¬(¬(v11=true)):=gQ;clear g;replace h:=if_r g12 h;simp;(repeat with_reducible refine sdQ ?_);replace⟨v13,hv13,h⟩:=bind_some h;refine Q3 (Q49 _ _ v13 hv13) (.cons .lst (.cons .val .nil)) ?_;simp;(repeat with_reducible refine sdQ ?_);refine Qa (λg=>?_) (λg=>?_)
   ·have g14:¬(¬(v13=true)):=gQ;clear g;replace h:=if_r g14 h;replace⟨a15,h⟩:=Q1 h;simp[at_I a15];(repeat with_reducible refine sdQ ?_);replace⟨v16,hv16,h⟩:=bind_some h;refine Q3 (Q49 _ _ v16 hv16) (.cons .lst (.cons .val .nil)) ?_;simp[at_I a15];(repeat refine sdQ ?_);refine hK _ ?_;exact jn (b:=!v16) (yJ h) (wkQ [(0,0),(1,1)])
   have g14:¬(v13=true):=gQ;clear g;replace h:=if_l g14 h;simp;(repeat refine sdQ ?_);refine hK _ ?_;exact jn (b:=true) (yJ h) (wkQ [(0,0),(1,1)])
  have g12:¬(v11=true):=gQ;clear g;replace h:=if_l g12 h;simp;repeat refine sdQ ?_
  refine hK _ ?_;exact jn (b:=true) (yJ h) (wkQ [(0,0),(1,1)])
 intro b10 hb10;have h:=h10;try rw[←hb10]at h
 clear h10;try dsimp only at h
 refine Q7 rfl (λg=>?_) λg=>?_
 ·have g17:b10=true:=gQ;clear g;replace h:=if_l g17 h;refine Q0 (runQ hN λK hK=>?_);simp;repeat refine sdQ ?_
  refine hK _ (tn (Q2 (st':=⟨YM [],[],0⟩) (wkQ []) (Qe (tr ?_))));clear hK K;have hr:=yJ h;rw[←hr];refine⟨_,(.tmp .nil),?_⟩;refine⟨(.one rfl rfl .nil),[.val (.bool false)],[],by simp[BN],by simp,(yN _)⟩
 have g17:¬(b10=true):=gQ;clear g;replace h:=if_r g17 h;refine Q8 (tn (Q0 (Q0 (runQ hN λK hK=>?_))));simp;repeat refine sdQ ?_
 refine hK _ (tn (Q2 (st':=⟨Yp [(4,iV 0)],Yc m_ [],2⟩) (wkQ [(0,0),(1,1)]) ?_));clear hK K;replace⟨e18,h,h18⟩:=bind_some h;refine Q9 (λb18:Unit=>⟨Yp [],Yc m_ [],2⟩) (λb18=>yK b18=e18) ?_ ?_
 ·refine Q5 (Qj h (λs43:Int=>⟨Yp [(4,iV s43)],Yc m_ [],2⟩) (wkQ [(0,0),(1,1)]) ?_);clear h;intro k43 s43 c43 h hk43;refine Q0 (Q0 (runQ hN λK hK=>?_));simp;repeat refine sdQ ?_
  refine hK _ ?_;clear hK K;refine tn (Q7 rfl (λg=>?_) λg=>?_)
  ·have g44:s43<m_.on_.n:=gQ;clear g;replace h:=if_l g44 h;refine Q8 (tn (Q0 ?_));replace⟨e45,h,h45⟩:=bind_some h;refine Q9 (λb45:Unit=>⟨Yp [(4,iV s43)],Yc m_ [],2⟩) (λb45=>yK b45=e45) ?_ ?_
   ·refine Q5 (Q0 (runQ hN λK hK=>?_));simp;(repeat refine sdQ ?_);refine hK _ (tn (Q2 (st':=⟨Yp [(4,iV s43),(5,iV 0)],Yc m_ [],2⟩) (wkQ [(0,0),(1,1)]) (Q5 ?_)));clear hK K;replace⟨e56,he56,h56⟩:=bind_some h;refine Qj he56 (λs56:Int=>⟨Yp [(4,iV s43),(5,iV s56)],Yc m_ [],2⟩) (wkQ [(0,0),(1,1)]) ?_;intro k56 s56 c56 h hk56;refine Q0 (Q0 (runQ hN λK hK=>?_));simp;(repeat refine sdQ ?_);refine hK _ ?_;clear hK K;refine tn (Q7 rfl (λg=>?_) λg=>?_)
    ·have g57:s56<m_.on_.n:=gQ;clear g;replace h:=if_l g57 h;refine Q8 (tn (Q0 (Q5 (Q0 (runQ hN λK hK=>?_)))));replace⟨a58,h⟩:=Q1 h;replace⟨a59,h⟩:=Q1 h;replace⟨a60,h⟩:=Q1 h;replace⟨a61,h⟩:=Q1 h;replace⟨a62,h⟩:=Q1 h;replace⟨a63,h⟩:=Q1 h;replace⟨a64,h⟩:=Q1 h;simp[at_I a58,at_L a59,at_I a60,at_I a61,at_L a62,at_I a63,at_I a64];(repeat refine sdQ ?_);refine hK _ ?_;clear hK K;refine tn (Q7 rfl (λg=>?_) λg=>?_)
     ·have g65:¬((ix (rx m_.arrows_ (ix m_.on_.id s43)) (ix m_.on_.id s56))=(ix m_.on_.id (ix (rx m_.objects_ s43) s56))):=gQ;clear g;replace h:=if_l g65 h;refine Q0 (runQ hN λK hK=>?_);simp;(repeat refine sdQ ?_);refine hK _ (tn (Q2 (st':=⟨YM [],[],0⟩) (wkQ []) (Qe (br (tr (lr (br (br (tr (lr (br (tr ?_))))))))))));clear hK K;cases h;have q:_=e56:=hk56;have h:=h56;rw[←q]at h;clear q;(try dsimp only at h);cases h;have h:=h45;(try dsimp only at h);cases h;have q:_=e18:=hk43;have h:=h18;rw[←q]at h;clear q;(try dsimp only at h);have hr:=yJ h;rw[←hr];refine⟨_,(.tmp .nil),?_⟩;refine⟨(.one rfl rfl .nil),[.val (.bool false)],[],by simp[BN],by simp,(yN _)⟩
     have g65:¬(¬((ix (rx m_.arrows_ (ix m_.on_.id s43)) (ix m_.on_.id s56))=(ix m_.on_.id (ix (rx m_.objects_ s43) s56)))):=gQ;clear g;replace h:=if_r g65 h;refine Q8 (bn (tn (runQ hN λK hK=>?_)));replace⟨a66,h⟩:=Q1 h;simp[Qh a66];(repeat refine sdQ ?_);refine hK _ ?_;clear hK K;cases h;exact rn (s':=s56+1) hk56 (wkQ [(0,0),(1,1)])
    have g57:¬(s56<m_.on_.n):=gQ;clear g;replace h:=if_r g57 h;refine Ql (tx (lx (bh (bn ?_))));cases h;have q:_=e56:=hk56;have h:=h56;rw[←q]at h;clear q;(try dsimp only at h);exact jn (b:=()) (yJ h) (wkQ [(0,0),(1,1)])
   intro b45 hb45;have h:=h45;(try rw[←hb45]at h);clear h45;(try dsimp only at h);refine runQ hN λK hK=>?_;replace⟨a67,h⟩:=Q1 h;simp[Qh a67];(repeat refine sdQ ?_);refine hK _ ?_;clear hK K;cases h;exact rn (s':=s43+1) hk43 (wkQ [(0,0),(1,1)])
  have g44:¬(s43<m_.on_.n):=gQ;clear g;replace h:=if_r g44 h;refine Ql (tx (lx (bh ?_)));cases h;exact jn (b:=()) hk43 (wkQ [(0,0),(1,1)])
 intro b18 hb18;have h:=h18;try rw[←hb18]at h
 clear h18;try dsimp only at h
 refine Q0 (Q0 (runQ hN λK hK=>?_));simp;repeat refine sdQ ?_
 refine hK _ (tn (Q2 (st':=⟨Yp [(6,iV 0)],Yc m_ [],2⟩) (wkQ [(0,0),(1,1)]) ?_));clear hK K;replace⟨e68,h,h68⟩:=bind_some h;refine Q9 (λb68:Unit=>⟨[],[],0⟩) (λb68=>yK b68=e68) ?_ ?_
 ·refine Q5 (Qj h (λs255:Int=>⟨Yp [(6,iV s255)],Yc m_ [],2⟩) (wkQ [(0,0),(1,1)]) ?_);clear h;intro k255 s255 c255 h hk255;refine Q0 (Q0 (runQ hN λK hK=>?_));simp;repeat refine sdQ ?_
  refine hK _ ?_;clear hK K;refine tn (Q7 rfl (λg=>?_) λg=>?_)
  ·have g256:s255<(m_.on_.fr.length:Int):=gQ;clear g;replace h:=if_l g256 h;refine Q8 (tn (Q0 ?_));replace⟨e257,h,h257⟩:=bind_some h;refine Q9 (λb257:Unit=>⟨Yp [(6,iV s255)],Yc m_ [],2⟩) (λb257=>yK b257=e257) ?_ ?_
   ·refine Q5 (Q0 (runQ hN λK hK=>?_));simp;(repeat refine sdQ ?_);refine hK _ (tn (Q2 (st':=⟨Yp [(6,iV s255),(7,iV 0)],Yc m_ [],2⟩) (wkQ [(0,0),(1,1)]) (Q5 ?_)));clear hK K;replace⟨e349,he349,h349⟩:=bind_some h;refine Qj he349 (λs349:Int=>⟨Yp [(6,iV s255),(7,iV s349)],Yc m_ [],2⟩) (wkQ [(0,0),(1,1)]) ?_;intro k349 s349 c349 h hk349;refine Q0 (Q0 (runQ hN λK hK=>?_));simp;(repeat refine sdQ ?_);refine hK _ ?_;clear hK K;refine tn (Q7 rfl (λg=>?_) λg=>?_)
    ·have g350:s349<(m_.on_.fr.length:Int):=gQ;clear g;replace h:=if_l g350 h;refine Q8 (tn (Q0 ?_));replace⟨e351,h,h351⟩:=bind_some h;refine Q9 (λb351:Unit=>⟨Yp [(6,iV s255),(7,iV s349)],Yc m_ [],2⟩) (λb351=>yK b351=e351) ?_ ?_
     ·refine Q5 (Q0 (Q0 (runQ hN λK hK=>?_)));replace⟨a352,h⟩:=Q1 h;replace⟨a353,h⟩:=Q1 h;simp[at_L a352,at_I a353];(repeat refine sdQ ?_);refine hK _ ?_;clear hK K;refine tn (Q7 rfl (λg=>?_) λg=>?_)
      ·have g354:(ix (rx m_.on_.cs s255) s349)<0:=gQ;clear g;replace h:=if_l g354 h;refine Ql (tx (bh ?_));exact jn (b:=()) (yJ h) (wkQ [(0,0),(1,1)])
      have g354:¬((ix (rx m_.on_.cs s255) s349)<0):=gQ;clear g;replace h:=if_r g354 h;refine Q8 (tn (Q0 (runQ hN λK hK=>?_)));simp;(repeat refine sdQ ?_);refine hK _ (tn (Q2 (st':=⟨Yp [(6,iV s255),(7,iV s349),(8,iV 0)],Yc m_ [],2⟩) (wkQ [(0,0),(1,1)]) (Q5 ?_)));clear hK K;replace⟨e397,he397,h397⟩:=bind_some h;refine Qj he397 (λs397:Int=>⟨Yp [(6,iV s255),(7,iV s349),(8,iV s397)],Yc m_ [],2⟩) (wkQ [(0,0),(1,1)]) ?_;intro k397 s397 c397 h hk397;refine Q0 (Q0 (runQ hN λK hK=>?_));simp;(repeat refine sdQ ?_);refine hK _ ?_;clear hK K;refine tn (Q7 rfl (λg=>?_) λg=>?_)
      ·have g398:s397<(m_.on_.fr.length:Int):=gQ;clear g;replace h:=if_l g398 h;refine Q8 (tn (Q0 ?_));replace⟨e399,h,h399⟩:=bind_some h;refine Q9 (λb399:Unit=>⟨Yp [(6,iV s255),(7,iV s349),(8,iV s397)],Yc m_ [],2⟩) (λb399=>yK b399=e399) ?_ ?_
       ·refine Q5 (Q0 (runQ hN λK hK=>?_));simp;(repeat refine sdQ ?_);refine hK _ (tn (Q2 (st':=⟨Yp [(6,iV s255),(7,iV s349),(8,iV s397),(9,iV 0)],Yc m_ [],2⟩) (wkQ [(0,0),(1,1)]) (Q5 ?_)));clear hK K;replace⟨e419,he419,h419⟩:=bind_some h;refine Qj he419 (λs419:Int=>⟨Yp [(6,iV s255),(7,iV s349),(8,iV s397),(9,iV s419)],Yc m_ [],2⟩) (wkQ [(0,0),(1,1)]) ?_;intro k419 s419 c419 h hk419;refine Q0 (Q0 (runQ hN λK hK=>?_));simp;(repeat refine sdQ ?_);refine hK _ ?_;clear hK K;refine tn (Q7 rfl (λg=>?_) λg=>?_)
        ·have g420:s419<(m_.on_.fr.length:Int):=gQ;clear g;replace h:=if_l g420 h;refine Q8 (tn (Q0 (Q5 (Q0 ?_))));replace⟨e421,h,h421⟩:=bind_some h;refine Q9 (λb421:Bool=>⟨Yp [(6,iV s255),(7,iV s349),(8,iV s397),(9,iV s419),(200,.val (.bool b421))],Yc m_ [],2⟩) (λb421=>b421=e421) ?_ ?_
         ·refine runQ hN λK hK=>?_;replace⟨a422,h⟩:=Q1 h;replace⟨a423,h⟩:=Q1 h;simp[at_L a422,at_I a423];(repeat with_reducible refine sdQ ?_);refine Qa (λg=>?_) (λg=>?_)
          ·have g424:(ix (rx m_.on_.cs s397) s419)≥0:=gQ;clear g;replace h:=if_l g424 h;replace⟨a425,h⟩:=Q1 h;replace⟨a426,h⟩:=Q1 h;replace⟨a427,h⟩:=Q1 h;replace⟨a428,h⟩:=Q1 h;replace⟨a429,h⟩:=Q1 h;replace⟨a430,h⟩:=Q1 h;replace⟨a431,h⟩:=Q1 h;replace⟨a432,h⟩:=Q1 h;replace⟨a433,h⟩:=Q1 h;replace⟨a434,h⟩:=Q1 h;replace⟨a435,h⟩:=Q1 h;replace⟨a436,h⟩:=Q1 h;simp[at_L a422,at_I a423,at_L a425,at_I a426,at_L a427,at_L a428,at_I a429,at_I a430,at_L a431,at_I a432,at_L a433,at_L a434,at_I a435,at_I a436];(repeat refine sdQ ?_);refine hK _ ?_;exact jn (b:=(ix (rx m_.arrows_ (ix (rx m_.on_.cs s255) s349)) (ix (rx m_.on_.cs s397) s419))!=(ix (rx m_.on_.cs (ix (rx m_.arrows_ s255) s397)) (ix (rx m_.arrows_ s349) s419))) (yJ h) (wkQ [(0,0),(1,1)])
          have g424:¬((ix (rx m_.on_.cs s397) s419)≥0):=gQ;clear g;replace h:=if_r g424 h;simp[at_L a422,at_I a423];(repeat refine sdQ ?_);refine hK _ ?_;exact jn (b:=false) (yJ h) (wkQ [(0,0),(1,1)])
         intro b421 hb421;have h:=h421;(try rw[←hb421]at h);clear h421;(try dsimp only at h);refine Q7 rfl (λg=>?_) λg=>?_
         ·have g437:b421=true:=gQ;clear g;replace h:=if_l g437 h;refine Q0 (runQ hN λK hK=>?_);simp;(repeat refine sdQ ?_);refine hK _ (tn (Q2 (st':=⟨YM [],[],0⟩) (wkQ []) (Qe (br (tr (lr (br (br (tr (lr (br (br (tr (lr (br (br (tr (lr (br (tr ?_))))))))))))))))))));clear hK K;cases h;have q:_=e419:=hk419;have h:=h419;rw[←q]at h;clear q;(try dsimp only at h);cases h;have h:=h399;(try dsimp only at h);cases h;have q:_=e397:=hk397;have h:=h397;rw[←q]at h;clear q;(try dsimp only at h);cases h;have h:=h351;(try dsimp only at h);cases h;have q:_=e349:=hk349;have h:=h349;rw[←q]at h;clear q;(try dsimp only at h);cases h;have h:=h257;(try dsimp only at h);cases h;have q:_=e68:=hk255;have h:=h68;rw[←q]at h;clear q;(try dsimp only at h);have hr:=yJ h;rw[←hr];refine⟨_,(.tmp .nil),?_⟩;refine⟨(.one rfl rfl .nil),[.val (.bool false)],[],by simp[BN],by simp,(yN _)⟩
         have g437:¬(b421=true):=gQ;clear g;replace h:=if_r g437 h;refine Q8 (bn (tn (runQ hN λK hK=>?_)));replace⟨a438,h⟩:=Q1 h;simp[Qh a438];(repeat refine sdQ ?_);refine hK _ ?_;clear hK K;cases h;exact rn (s':=s419+1) hk419 (wkQ [(0,0),(1,1)])
        have g420:¬(s419<(m_.on_.fr.length:Int)):=gQ;clear g;replace h:=if_r g420 h;refine Ql (tx (lx (bh (bn ?_))));cases h;have q:_=e419:=hk419;have h:=h419;rw[←q]at h;clear q;(try dsimp only at h);exact jn (b:=()) (yJ h) (wkQ [(0,0),(1,1)])
       intro b399 hb399;have h:=h399;(try rw[←hb399]at h);clear h399;(try dsimp only at h);refine runQ hN λK hK=>?_;replace⟨a439,h⟩:=Q1 h;simp[Qh a439];(repeat refine sdQ ?_);refine hK _ ?_;clear hK K;cases h;exact rn (s':=s397+1) hk397 (wkQ [(0,0),(1,1)])
      have g398:¬(s397<(m_.on_.fr.length:Int)):=gQ;clear g;replace h:=if_r g398 h;refine Ql (tx (lx (bh (bn ?_))));cases h;have q:_=e397:=hk397;have h:=h397;rw[←q]at h;clear q;(try dsimp only at h);exact jn (b:=()) (yJ h) (wkQ [(0,0),(1,1)])
     intro b351 hb351;have h:=h351;(try rw[←hb351]at h);clear h351;(try dsimp only at h);refine runQ hN λK hK=>?_;replace⟨a440,h⟩:=Q1 h;simp[Qh a440];(repeat refine sdQ ?_);refine hK _ ?_;clear hK K;cases h;exact rn (s':=s349+1) hk349 (wkQ [(0,0),(1,1)])
    have g350:¬(s349<(m_.on_.fr.length:Int)):=gQ;clear g;replace h:=if_r g350 h;refine Ql (tx (lx (bh (bn ?_))));cases h;have q:_=e349:=hk349;have h:=h349;rw[←q]at h;clear q;(try dsimp only at h);exact jn (b:=()) (yJ h) (wkQ [(0,0),(1,1)])
   intro b257 hb257;have h:=h257;(try rw[←hb257]at h);clear h257;(try dsimp only at h);refine runQ hN λK hK=>?_;replace⟨a441,h⟩:=Q1 h;simp[Qh a441];(repeat refine sdQ ?_);refine hK _ ?_;clear hK K;cases h;exact rn (s':=s255+1) hk255 (wkQ [(0,0),(1,1)])
  have g256:¬(s255<(m_.on_.fr.length:Int)):=gQ;clear g;replace h:=if_r g256 h;refine Ql (tx (lx (bh ?_)));cases h;exact jn (b:=()) hk255 (wkQ [])
 intro b68 hb68;have h:=h68;try rw[←hb68]at h
 clear h68;try dsimp only at h
 refine Q0 (runQ hN λK hK=>?_);simp;repeat refine sdQ ?_
 refine hK _ (tn (Q2 (st':=⟨Y0u [],[],0⟩) (wkQ []) (Qe ?_)));clear hK K;have hr:=yJ h;rw[←hr];refine⟨_,(.tmp .nil),?_⟩;refine⟨(.one rfl rfl .nil),[.val (.bool true)],[],by simp[BN],by simp,(yN _)⟩
section
attribute [local simp] Qi QP Qv Q1l QN
structure XMonoidal.Pre(m:XMonoidal):Prop where
 c:m.on_.Is
 u:0≤m.unit_∧m.unit_<m.on_.n
 o:Tbl m.objects_ m.on_.n
 a:Tbl m.arrows_ (m.on_.fr.length:Int)
abbrev XMonoidal.E1(m:XMonoidal)(f g:Int):Prop:=ix m.on_.fr (ix (rx m.arrows_ f) g)=ix (rx m.objects_ (ix m.on_.fr f)) (ix m.on_.fr g)
abbrev XMonoidal.E2(m:XMonoidal)(f g:Int):Prop:=ix m.on_.to (ix (rx m.arrows_ f) g)=ix (rx m.objects_ (ix m.on_.to f)) (ix m.on_.to g)
abbrev XMonoidal.Un(m:XMonoidal)(x y:Int):Prop:=ix (rx m.arrows_ (ix m.on_.id x)) (ix m.on_.id y)=ix m.on_.id (ix (rx m.objects_ x) y)
abbrev XMonoidal.Ie(m:XMonoidal)(f h g k:Int):Prop:=ix (rx m.arrows_ (ix (rx m.on_.cs f) h)) (ix (rx m.on_.cs g) k)=ix (rx m.on_.cs (ix (rx m.arrows_ f) g)) (ix (rx m.arrows_ h) k)
def XMonoidal.Ic(m:XMonoidal)(f h g k:Int):Prop:=ix m.on_.to f=ix m.on_.fr h→ix m.on_.to g=ix m.on_.fr k→m.Ie f h g k
def XMonoidal.Ed(m:XMonoidal):Prop:=∀f:Nat,f<m.on_.fr.length→∀g:Nat,g<m.on_.fr.length→m.E1 f g∧m.E2 f g
def XMonoidal.Uq(m:XMonoidal):Prop:=∀x:Nat,x<m.on_.id.length→∀y:Nat,y<m.on_.id.length→m.Un x y
def XMonoidal.Iq(m:XMonoidal):Prop:=∀f:Nat,f<m.on_.fr.length→∀h:Nat,h<m.on_.fr.length→∀g:Nat,g<m.on_.fr.length→∀k:Nat,k<m.on_.fr.length→m.Ic f h g k
structure XMonoidal.Is(m:XMonoidal):Prop where
 pre:m.Pre
 ed:m.Ed
 ao:Aso m.objects_ m.unit_
 aa:Aso m.arrows_ (ix m.on_.id m.unit_)
 un:m.Uq
 ic:m.Iq
theorem XMonoidal.Pre.ar{m:XMonoidal}(h:m.Pre){f g:Int}(hf:0≤f∧f<(m.on_.fr.length:Int))(hg:0≤g∧g<(m.on_.fr.length:Int)):f<(m.arrows_.length:Int)∧g<((rx m.arrows_ f).length:Int)∧0≤ix (rx m.arrows_ f) g∧ix (rx m.arrows_ f) g<(m.on_.fr.length:Int):=h.a.at hf hg
theorem XMonoidal.Pre.ob{m:XMonoidal}(h:m.Pre){f g:Int}(hf:0≤f∧f<m.on_.n)(hg:0≤g∧g<m.on_.n):f<(m.objects_.length:Int)∧g<((rx m.objects_ f).length:Int)∧0≤ix (rx m.objects_ f) g∧ix (rx m.objects_ f) g<m.on_.n:=h.o.at hf hg
theorem Cat.Is.idn{c:Cat}(h:c.Is){x:Int}(hx:0≤x∧x<c.n):0≤ix c.id x∧ix c.id x<(c.fr.length:Int):=h.1.id' hx.1 (by have:=h.nums;omega)
theorem e_l35Ends{m:XMonoidal}(h:m.Pre):Q34 m=some (bo m.Ed):=by
 have n:=h.c.nums;unfold Q34;refine chkI m.on_.fr.length (λf=>∀g:Nat,g<m.on_.fr.length→m.E1 f g∧m.E2 f g) (yL false) (yK ()) (by omega) (λf hf=>?_) (by rw[if_neg (by omega)]) ?_
 ·rw[if_pos (by omega),yV];refine chkI m.on_.fr.length (λg=>m.E1 f g∧m.E2 f g) (yK false) (yL ()) (by omega) (λg hg=>?_) (by rw[if_neg (by omega)]) ?_
  ·have a1:=h.ar (f:=f) (g:=g) (by omega) (by omega);have e1:=h.c.ends (a:=f) (by omega);have e2:=h.c.ends (a:=g) (by omega);have o1:=h.ob e1.1 e2.1;have o2:=h.ob e1.2 e2.2;rw[if_pos (by omega),Q4 (by omega),Q4 (by omega),Q4 (by omega),Q4 (by omega),Q4 (by omega),Q4 (by omega),Q4 (by omega)]
   by_cases q1:m.E1 f g
   case neg=>rw[if_pos q1,Qd (λz=>q1 z.1)];rfl
   rw[if_neg (QW q1),Q4 (by omega),Q4 (by omega),Q4 (by omega),Q4 (by omega),Q4 (by omega)];simp only[yA]
   by_cases q2:m.E2 f g
   ·rw[Qk ⟨q1,q2⟩,if_neg (by simpa using q2),Q4 (by unfold B64;omega)];rfl
   rw[Qd (λz=>q2 z.2),if_pos (by simpa using q2)];rfl
  by_cases q:∀g:Nat,g<m.on_.fr.length→m.E1 f g∧m.E2 f g
  ·rw[Qk q];simp only[if_true,yA];rw[Q4 (by unfold B64;omega)]
  rw[Qd q];rfl
 by_cases q:m.Ed
 ·rw[Qk (show∀f:Nat,f<m.on_.fr.length→∀g:Nat,g<m.on_.fr.length→m.E1 f g∧m.E2 f g from q),Qk q];rfl
 rw[Qd (show¬∀f:Nat,f<m.on_.fr.length→∀g:Nat,g<m.on_.fr.length→m.E1 f g∧m.E2 f g from q),Qd q];rfl
theorem cmp_nn{c:Cat}(h:c.Is){a b:Int}(ha:0≤a∧a<(c.fr.length:Int))(hb:0≤b∧b<(c.fr.length:Int)):(0≤ix (rx c.cs a) b↔ix c.to a=ix c.fr b)∧b<((rx c.cs a).length:Int):=
 ⟨⟨λq=>(h.comp ha hb q).1,λq=>(h.two ha hb q).1.1⟩,by have:=h.1.row' ha.1 ha.2;omega⟩
theorem e_l35Is{m:XMonoidal}:Q3v m=some (bo m.Is):=by
 unfold Q3v Q1w Q2V
 by_cases h1:m.on_.Is
 case neg=>rw[Qd h1,Qd (show¬m.Is from λq=>h1 q.pre.c)];rfl
 have n:=h1.nums;rw[Qk h1];simp only[yA,not_true_eq_false,if_false]
 by_cases h2:0≤m.unit_∧m.unit_<m.on_.n
 case neg=>
  rw[Qd (show¬m.Is from λq=>h2 q.pre.u)]
  by_cases h3:m.unit_≥0
  ·rw[if_pos h3];simp[show¬m.unit_<m.on_.n by omega]
  rw[if_neg h3];simp
 rw[if_pos h2.1];simp only[yA,h2.2,decide_true,not_true_eq_false,if_false];rw[Q6q (by omega),Q6q (by omega)]
 by_cases h3:Tbl m.objects_ m.on_.n
 case neg=>rw[Qd h3,Qd (show¬m.Is from λq=>h3 q.pre.o)];simp
 by_cases h4:Tbl m.arrows_ (m.on_.fr.length:Int)
 case neg=>rw[Qd h4,Qd (show¬m.Is from λq=>h4 q.pre.a)];simp
 have h:m.Pre:=⟨h1,h2,h3,h4⟩;have iu:=h1.idn h2;rw[Qk h3,Qk h4,e_l35Ends h,Q4Z h3 h2 (by omega),Q4Z h4 iu (by omega)];simp only[yA,not_true_eq_false,if_false,Bool.not_true,zM]
 by_cases q1:m.Ed
 case neg=>rw[Qd q1,Qd (show¬m.Is from λq=>q1 q.ed)];simp
 by_cases q2:Aso m.objects_ m.unit_
 case neg=>rw[Qk q1,Qd q2,Qd (show¬m.Is from λq=>q2 q.ao)];simp
 rw[Qk q1,Qk q2,Q4 (by omega)]
 by_cases q3:Aso m.arrows_ (ix m.on_.id m.unit_)
 case neg=>rw[Qd q3,Qd (show¬m.Is from λq=>q3 q.aa)];simp
 rw[Qk q3];simp only[yA,not_true_eq_false,if_false,Bool.not_true,zM];refine chkI m.on_.id.length (λx=>∀y:Nat,y<m.on_.id.length→m.Un x y) (yL false) (yK ()) (by omega) (λx hx=>?_) (by rw[if_neg (by omega)]) ?_
 ·rw[if_pos (by omega),yV];refine chkI m.on_.id.length (λy=>m.Un x y) (yK false) (yL ()) (by omega) (λy hy=>?_) (by rw[if_neg (by omega)]) ?_
  ·have i1:=h1.idn (x:=x) (by omega);have i2:=h1.idn (x:=y) (by omega);have a1:=h.ar i1 i2;have o1:=h.ob (f:=x) (g:=y) (by omega) (by omega);rw[if_pos (by omega),Q4 (by omega),Q4 (by omega),Q4 (by omega),Q4 (by omega),Q4 (by omega),Q4 (by omega),Q4 (by omega)]
   by_cases q:m.Un x y
   ·rw[Qk q,if_neg (QW q),Q4 (by unfold B64;omega)];rfl
   rw[Qd q,if_pos q];rfl
  by_cases q:∀y:Nat,y<m.on_.id.length→m.Un x y
  ·rw[Qk q];simp only[if_true,yA];rw[Q4 (by unfold B64;omega)]
  rw[Qd q];rfl
 by_cases q4:m.Uq
 case neg=>rw[Qd (show¬∀x:Nat,x<m.on_.id.length→∀y:Nat,y<m.on_.id.length→m.Un x y from q4),Qd (show¬m.Is from λq=>q4 q.un)];rfl
 rw[Qk (show∀x:Nat,x<m.on_.id.length→∀y:Nat,y<m.on_.id.length→m.Un x y from q4)];simp only[if_true];refine chkI m.on_.fr.length (λf=>∀h:Nat,h<m.on_.fr.length→∀g:Nat,g<m.on_.fr.length→∀k:Nat,k<m.on_.fr.length→m.Ic f h g k) (yL false) (yK ()) (by omega) (λf hf=>?_) (by rw[if_neg (by omega)]) ?_
 ·rw[if_pos (by omega),yV];refine chkI m.on_.fr.length (λh=>∀g:Nat,g<m.on_.fr.length→∀k:Nat,k<m.on_.fr.length→m.Ic f h g k) (yK false) (yL ()) (by omega) (λk1 hk1=>?_) (by rw[if_neg (by omega)]) ?_
  ·have c1:=cmp_nn h1 (a:=f) (b:=k1) (by omega) (by omega);rw[if_pos (by omega),Q4 (by omega),Q4 (by omega)]
   by_cases z1:ix m.on_.to f=ix m.on_.fr k1
   case neg=>
    rw[if_pos (by have:=c1.1;omega),Qk (show∀g:Nat,g<m.on_.fr.length→∀k:Nat,k<m.on_.fr.length→m.Ic f k1 g k from λg _ k _ e=>absurd e z1)];simp only[if_true,yA];rw[Q4 (by unfold B64;omega)]
   rw[if_neg (by have:=c1.1;omega),yV];refine chkI m.on_.fr.length (λg=>∀k:Nat,k<m.on_.fr.length→m.Ic f k1 g k) (yK false) (yL ()) (by omega) (λg hg=>?_) (by rw[if_neg (by omega)]) ?_
   ·rw[if_pos (by omega),yV];refine chkI m.on_.fr.length (λk=>m.Ic f k1 g k) (yK false) (yL ()) (by omega) (λk hk=>?_) (by rw[if_neg (by omega)]) ?_
    ·have c2:=cmp_nn h1 (a:=g) (b:=k) (by omega) (by omega);rw[if_pos (by omega),Q4 (by omega),Q4 (by omega)]
     by_cases z2:ix m.on_.to g=ix m.on_.fr k
     case neg=>
      rw[if_neg (by have:=c2.1;omega),Qk (show m.Ic f k1 g k from λ_ e=>absurd e z2)];simp only[zM,if_false,if_true,yA];rw[Q4 (by unfold B64;omega)]
     have d1:=h1.comp (a:=f) (b:=k1) (by omega) (by omega) (c1.1.2 z1);have d2:=h1.comp (a:=g) (b:=k) (by omega) (by omega) (c2.1.2 z2);have w1:=c1.1.2 z1;have w2:=c2.1.2 z2;have a1:=h.ar (f:=ix (rx m.on_.cs f) k1) (g:=ix (rx m.on_.cs g) k) (by omega) (by omega);have a2:=h.ar (f:=f) (g:=g) (by omega) (by omega);have a3:=h.ar (f:=k1) (g:=k) (by omega) (by omega);have c3:=cmp_nn h1 (a:=ix (rx m.arrows_ f) g) (b:=ix (rx m.arrows_ k1) k) (by omega) (by omega);rw[if_pos (by omega),Q4 (by omega),Q4 (by omega),Q4 (by omega),Q4 (by omega),Q4 (by omega),Q4 (by omega),Q4 (by omega),Q4 (by omega),Q4 (by omega),Q4 (by omega),Q4 (by omega),Q4 (by omega)];simp only[yA]
     by_cases q:m.Ie f k1 g k
     ·rw[Qk (show m.Ic f k1 g k from λ_ _=>q),if_neg (by simpa using q),Q4 (by unfold B64;omega)];rfl
     rw[Qd (show¬m.Ic f k1 g k from λz=>q (z z1 z2)),if_pos (by simpa using q)];rfl
    by_cases q:∀k:Nat,k<m.on_.fr.length→m.Ic f k1 g k
    ·rw[Qk q];simp only[if_true,yA];rw[Q4 (by unfold B64;omega)]
    rw[Qd q];rfl
   by_cases q:∀g:Nat,g<m.on_.fr.length→∀k:Nat,k<m.on_.fr.length→m.Ic f k1 g k
   ·rw[Qk q];simp only[if_true,yA];rw[Q4 (by unfold B64;omega)]
   rw[Qd q];rfl
  by_cases q:∀h:Nat,h<m.on_.fr.length→∀g:Nat,g<m.on_.fr.length→∀k:Nat,k<m.on_.fr.length→m.Ic f h g k
  ·rw[Qk q];simp only[if_true,yA];rw[Q4 (by unfold B64;omega)]
  rw[Qd q];rfl
 by_cases q:m.Iq
 ·rw[Qk (show∀f:Nat,f<m.on_.fr.length→∀h:Nat,h<m.on_.fr.length→∀g:Nat,g<m.on_.fr.length→∀k:Nat,k<m.on_.fr.length→m.Ic f h g k from q),Qk (show m.Is from⟨h,q1,q2,q3,q4,q⟩)];rfl
 rw[Qd (show¬∀f:Nat,f<m.on_.fr.length→∀h:Nat,h<m.on_.fr.length→∀g:Nat,g<m.on_.fr.length→∀k:Nat,k<m.on_.fr.length→m.Ic f h g k from q),Qd (show¬m.Is from λz=>q z.ic)];rfl
end
attribute [local simp] unk unA unE unT unC flat
def QI(c_:Cat)(f_:Int):Option Bool:=
 ass (0≤f_∧f_<(c_.fr.length:Int))<|
 ass (0≤ix c_.fr f_∧ix c_.fr f_<(c_.id.length:Int))<|
 some ((ix c_.id (ix c_.fr f_))==f_)
theorem Q1F(c_:Cat)(f_:Int)(r:Bool)(h:QI c_ f_=some r):Contract Try.prog 110 [.rptr (c_.cells true),iV f_] (.val (.bool r)):=by
 refine Q6 (rvs:=[.tmp 4]) (rs:=[.val (.bool r)]) Try.func110 rfl rfl rfl rfl (by simp[Try.f110]) λF hN hP=>?_;unfold QI at h;refine Q0 (runQ hN λK hK=>?_);simp[eL,eI,Qc,QS,Cat.cells];repeat refine sdQ ?_
 refine hK _ ?_;clear hK K;refine tn (Q2 (st':=⟨Y00 c_ f_ [],[],0⟩) (wkQ []) (Q0 (runQ hN λK hK=>?_)));replace⟨a1,h⟩:=Q1 h;replace⟨a2,h⟩:=Q1 h;simp[eL,eI,Qc,QS,Cat.cells,at_I a1,at_I a2];repeat refine sdQ ?_
 refine hK _ (tn (Q2 (st':=⟨[(4,.val (.bool ((ix c_.id (ix c_.fr f_))==f_)))],[],0⟩) (wkQ []) (Qe ?_)));clear hK K;have hr:=yJ h;rw[←hr];refine⟨_,(.tmp .nil),?_⟩;refine⟨(.one rfl rfl .nil),[.val (.bool ((ix c_.id (ix c_.fr f_))==f_))],[],by simp[BN],by simp,(yN _)⟩
attribute [local simp] unk unA unE unT unC flat eL eI Qc QS Cat.cells
def Q15(c_:Cat)(x_:Int):Option (List Int):=
 (Qo (σ:=List Int×Int) (ε:=List Int) (λs8=>
  if s8.2<(c_.fr.length:Int)then
   (
    ass (0≤s8.2∧s8.2<(c_.fr.length:Int))<|
    if(ix c_.fr s8.2)=x_ then
     ass ((s8.1++[s8.2]).length≤1073741824)<|
     some (s8.1++[s8.2])
    else
     some s8.1:Option (List Int)).bind λb10=>
   ass (B64 (s8.2+1))<|
   some (yO (b10,s8.2+1))
  else
   some (yM s8.1)) fuel ([],0)).bind λb1=>
 some b1
@[simp] abbrev Y0C(a:Cat)(b:List (Nat×AV)):List (Nat×AV):=(12,lI a.fr)::(13,iV (a.fr.length:Int))::b
theorem Q3f(c_:Cat)(x_:Int)(r:List Int)(h:Q15 c_ x_=some r):Contract Try.prog 139 [.rptr (c_.cells true),iV x_] (lI r):=by
 refine Q6 (rvs:=[.tmp 4]) (rs:=[lI r]) Try.func139 rfl rfl rfl rfl (by simp[Try.f139]) λF hN hP=>?_;unfold Q15 at h;refine Q0 (runQ hN λK hK=>?_);simp;repeat refine sdQ ?_
 refine hK _ ?_;clear hK K;refine tn (Q2 (st':=⟨Y00 c_ x_ [],[],0⟩) (wkQ []) (Q0 (runQ hN λK hK=>?_)));simp;repeat refine sdQ ?_
 refine hK _ ?_;clear hK K;refine tn (Q2 (st':=⟨Y00 c_ x_ [(5,.own 0 0 0)],[(0,.mix 1 [])],1⟩) (wkQ [(0,0)]) (Q0 (Q0 (runQ hN λK hK=>?_))));simp;repeat refine sdQ ?_
 refine hK _ (tn (Q2 (st':=⟨(1,iV x_)::(5,.own 0 0 0)::Y0C c_ [(14,iV 0)],[(0,.mix 1 [])],1⟩) (wkQ [(0,0)]) ?_));clear hK K;replace⟨e1,h,h1⟩:=bind_some h;refine Q9 (λb1:List Int=>⟨[(5,.own 0 0 b1.length)],[(0,rI b1)],1⟩) (λb1=>b1=e1) ?_ ?_
 ·refine Q5 (Qj h (λs8:List Int×Int=>⟨(1,iV x_)::(5,.own 0 0 s8.1.length)::Y0C c_ [(14,iV s8.2)],[(0,rI s8.1)],1⟩) (Q2Y ⟨(1,iV x_)::(5,.own 0 0 0)::Y0C c_ [(14,iV 0)],[(0,rI [])],1⟩ (nlQ []) (wkQ [(0,0)])) ?_);clear h;intro k8 s8 c8 h hk8;refine Q0 (runQ hN λK hK=>?_);simp;repeat refine sdQ ?_
  refine hK _ ?_;clear hK K;refine tn (Q0 (Q7 rfl (λg=>?_) λg=>?_))
  ·have g9:s8.2<(c_.fr.length:Int):=gQ;clear g;replace h:=if_l g9 h;refine Q8 (tn (Q0 ?_));replace⟨e10,h,h10⟩:=bind_some h;refine Q9 (λb10:List Int=>⟨(1,iV x_)::(5,.own 0 0 b10.length)::Y0C c_ [(14,iV s8.2)],[(0,rI b10)],1⟩) (λb10=>b10=e10) ?_ ?_
   ·refine Q5 (Q0 (runQ hN λK hK=>?_));replace⟨a11,h⟩:=Q1 h;simp[at_I a11];(repeat refine sdQ ?_);refine hK _ ?_;clear hK K;refine tn (Q2 (st':=⟨(1,iV x_)::(5,.own 0 0 s8.1.length)::(6,iV s8.2)::(7,iV (ix c_.fr s8.2))::Y0C c_ [(14,iV s8.2)],[(0,rI s8.1)],1⟩) (wkQ [(0,0)]) (Q0 (runQ hN λK hK=>?_)));simp;(repeat refine sdQ ?_);refine hK _ ?_;clear hK K;refine tn (Q7 rfl (λg=>?_) λg=>?_)
    ·have g12:(ix c_.fr s8.2)=x_:=gQ;clear g;replace h:=if_l g12 h;refine runQ hN λK hK=>?_;replace⟨a13,h⟩:=Q1 h;(try simp only[List.length_append,List.length_cons,List.length_nil]at a13);simp[a13];(repeat refine sdQ ?_);refine hK _ (bn ?_);clear hK K;exact jn (b:=s8.1++[s8.2]) (yJ h) (wkQ [(2,0)])
    have g12:¬((ix c_.fr s8.2)=x_):=gQ;clear g;replace h:=if_r g12 h;refine Q8 (bn ?_);exact jn (b:=s8.1) (yJ h) (wkQ [(0,0)])
   intro b10 hb10;have h:=h10;(try rw[←hb10]at h);clear h10;(try dsimp only at h);refine runQ hN λK hK=>?_;replace⟨a14,h⟩:=Q1 h;simp[Qh a14];(repeat refine sdQ ?_);refine hK _ ?_;clear hK K;cases h;exact rn (s':=(b10,s8.2+1)) hk8 (wkQ [(0,0)])
  have g9:¬(s8.2<(c_.fr.length:Int)):=gQ;clear g;replace h:=if_r g9 h;refine Ql (tx (lx (bh ?_)));cases h;exact jn (b:=s8.1) hk8 (wkQ [(0,0)])
 intro b1 hb1;have h:=h1;try rw[←hb1]at h
 clear h1;try dsimp only at h
 refine Q0 (runQ hN λK hK=>?_);simp;repeat refine sdQ ?_
 refine hK _ (tn (Q2 (st':=⟨[(4,.own 0 0 b1.length)],[(0,rI b1)],1⟩) (wkQ [(0,0)]) (Qe ?_)));clear hK K;have hr:=yJ h;rw[←hr];refine⟨_,(.tmp .nil),?_⟩;refine⟨(.one rfl rfl .nil),[lI b1],[0],by simp[BN],by simp,(yN _)⟩
attribute [local simp] unk unA unE unT unC flat eL eI Qc QS Qr Cat.cells XMonoidal.cells
def QO(m_:XMonoidal):Option Bool:=
 (Qo (σ:=Int) (ε:=Unit⊕Bool) (λs146=>
  if s146<(m_.on_.fr.length:Int)then
   (
    ass (0≤s146∧s146<(m_.on_.to.length:Int))<|
    (Q15 m_.on_ (ix m_.on_.to s146)).bind λv150=>
    (Qo (σ:=Int) (ε:=Bool⊕Unit) (λs220=>
     if s220<(v150.length:Int)then
      (
       ass (0≤s220∧s220<(v150.length:Int))<|
       (Qo (σ:=Int) (ε:=Bool⊕Unit) (λs256=>
        if s256<(m_.on_.fr.length:Int)then
         (
          ass (0≤s256∧s256<(m_.on_.to.length:Int))<|
          (Q15 m_.on_ (ix m_.on_.to s256)).bind λv260=>
          (Qo (σ:=Int) (ε:=Bool⊕Unit) (λs274=>
           if s274<(v260.length:Int)then
            ass (0≤s274∧s274<(v260.length:Int))<|
            (Qq m_.on_ s146 (ix v150 s220)).bind λv277=>
            ass (0≤v277∧v277<(m_.arrows_.length:Int))<|
            (Qq m_.on_ s256 (ix v260 s274)).bind λv279=>
            ass (0≤v279∧v279<((rx m_.arrows_ v277).length:Int))<|
            ass (0≤s146∧s146<(m_.arrows_.length:Int))<|
            ass (0≤s256∧s256<((rx m_.arrows_ s146).length:Int))<|
            ass (0≤ix v150 s220∧ix v150 s220<(m_.arrows_.length:Int))<|
            ass (0≤ix v260 s274∧ix v260 s274<((rx m_.arrows_ (ix v150 s220)).length:Int))<|
            (Qq m_.on_ (ix (rx m_.arrows_ s146) s256) (ix (rx m_.arrows_ (ix v150 s220)) (ix v260 s274))).bind λv285=>
            if¬((ix (rx m_.arrows_ v277) v279)=v285)then
             some (yM (yK false))
            else
             ass (B64 (s274+1))<|
             some (yO (s274+1))
           else
            some (yM (yL ()))) fuel 0).bind λe274=>
          match e274 with
          | .inl p274=>
           some (yL p274)
          | .inr p274=>
           some (yK p274):Option (Unit⊕Bool)).bind λe258=>
         match e258 with
         | .inl b258=>
          ass (B64 (s256+1))<|
          some (yO (s256+1))
         | .inr p258=>
          some (yM (yK p258))
        else
         some (yM (yL ()))) fuel 0).bind λe256=>
       match e256 with
       | .inl p256=>
        some (yL p256)
       | .inr p256=>
        some (yK p256):Option (Unit⊕Bool)).bind λe222=>
      match e222 with
      | .inl b222=>
       ass (B64 (s220+1))<|
       some (yO (s220+1))
      | .inr p222=>
       some (yM (yK p222))
     else
      some (yM (yL ()))) fuel 0).bind λe220=>
    match e220 with
    | .inl p220=>
     some (yL p220)
    | .inr p220=>
     some (yK p220):Option (Unit⊕Bool)).bind λe148=>
   match e148 with
   | .inl b148=>
    ass (B64 (s146+1))<|
    some (yO (s146+1))
   | .inr p148=>
    some (yM (yL p148))
  else
   some (yM (yK ()))) fuel 0).bind λe1=>
 match e1 with
 | .inl b1=>
  some true
 | .inr p1=>
  some p1
@[simp] abbrev Ye(a:XMonoidal)(b:List (Nat×AV)):List (Nat×AV):=(0,.rptr (XMonoidal.cells true a))::(3,.rptr (XMonoidal.cells true a))::b
@[simp] abbrev Yu(a:XMonoidal)(b:Int)(c:List Int)(d:List (Nat×AV)):List (Nat×AV):=(17,iV (a.on_.fr.length:Int))::(18,iV b)::(29,.own 0 0 c.length)::(30,iV (c.length:Int))::d
@[simp] abbrev Y0k(a:Int)(b:XMonoidal)(c:Int)(d:List Int)(e:List (Nat×AV)):List (Nat×AV):=(31,iV a)::(39,iV (b.on_.fr.length:Int))::(40,iV c)::(51,.own 1 0 d.length)::(52,iV (d.length:Int))::e
theorem Q3k(m_:XMonoidal)(r:Bool)(h:QO m_=some r):Contract Try.prog 112 [.rptr (m_.cells true)] (.val (.bool r)):=by
 refine Q6 (rvs:=[.tmp 2]) (rs:=[.val (.bool r)]) Try.func112 rfl rfl rfl rfl (by simp[Try.f112]) λF hN hP=>?_;unfold QO at h;refine Q0 (runQ hN λK hK=>?_);simp;repeat refine sdQ ?_
 refine hK _ ?_;clear hK K;refine tn (Q2 (st':=⟨[(0,.rptr (XMonoidal.cells true m_))],[],0⟩) (wkQ []) (Q0 (runQ hN λK hK=>?_)));simp;repeat refine sdQ ?_
 refine hK _ ?_;clear hK K;refine tn (Q2 (st':=⟨Ye m_ [],[],0⟩) (wkQ []) (Q0 (Q0 (runQ hN λK hK=>?_))));simp;repeat refine sdQ ?_
 refine hK _ (tn (Q2 (st':=⟨Ye m_ [(17,iV (m_.on_.fr.length:Int)),(18,iV 0)],[],0⟩) (wkQ []) ?_));clear hK K;replace⟨e1,h,h1⟩:=bind_some h;refine Q9 (λb1:Unit=>⟨[],[],0⟩) (λb1=>yK b1=e1) ?_ ?_
 ·refine Q5 (Qj h (λs146:Int=>⟨Ye m_ [(17,iV (m_.on_.fr.length:Int)),(18,iV s146)],[],0⟩) (wkQ []) ?_);clear h;intro k146 s146 c146 h hk146;refine Q0 (runQ hN λK hK=>?_);simp;repeat refine sdQ ?_
  refine hK _ ?_;clear hK K;refine tn (Q0 (Q7 rfl (λg=>?_) λg=>?_))
  ·have g147:s146<(m_.on_.fr.length:Int):=gQ;clear g;replace h:=if_l g147 h;refine Q8 (tn (Q0 ?_));replace⟨e148,h,h148⟩:=bind_some h;refine Q9 (λb148:Unit=>⟨Ye m_ [(17,iV (m_.on_.fr.length:Int)),(18,iV s146)],[],0⟩) (λb148=>yK b148=e148) ?_ ?_
   ·refine Q5 (Q0 (runQ hN λK hK=>?_));simp;(repeat refine sdQ ?_);refine hK _ ?_;clear hK K;refine tn (Q2 (st':=⟨Ye m_ [(4,iV s146),(17,iV (m_.on_.fr.length:Int)),(18,iV s146)],[],0⟩) (wkQ []) (Q0 (runQ hN λK hK=>?_)));replace⟨a149,h⟩:=Q1 h;simp[at_I a149];(repeat with_reducible refine sdQ ?_);replace⟨v150,hv150,h⟩:=bind_some h;refine Q3 (Q3f _ _ v150 hv150) (.cons (.preT (by simp[CN])) (.cons .val .nil)) ?_;simp[at_I a149];(repeat refine sdQ ?_);refine hK _ (tn (Q2 (st':=⟨Ye m_ ((4,iV s146)::Yu m_ s146 v150 [(31,iV 0)]),[(0,rI v150)],1⟩) (wkQ [(0,0)]) (Q5 ?_)));clear hK K;replace⟨e220,he220,h220⟩:=bind_some h;refine Qj he220 (λs220:Int=>⟨Ye m_ ((4,iV s146)::Yu m_ s146 v150 [(31,iV s220)]),[(0,rI v150)],1⟩) (wkQ [(0,0)]) ?_;intro k220 s220 c220 h hk220;refine Q0 (runQ hN λK hK=>?_);simp;(repeat refine sdQ ?_);refine hK _ ?_;clear hK K;refine tn (Q0 (Q7 rfl (λg=>?_) λg=>?_))
    ·have g221:s220<(v150.length:Int):=gQ;clear g;replace h:=if_l g221 h;refine Q8 (tn (Q0 ?_));replace⟨e222,h,h222⟩:=bind_some h;refine Q9 (λb222:Unit=>⟨Ye m_ ((4,iV s146)::Yu m_ s146 v150 [(31,iV s220)]),[(0,rI v150)],1⟩) (λb222=>yK b222=e222) ?_ ?_
     ·refine Q5 (Q0 (runQ hN λK hK=>?_));replace⟨a223,h⟩:=Q1 h;simp[at_I a223];(repeat refine sdQ ?_);refine hK _ ?_;clear hK K;refine tn (Q2 (st':=⟨Ye m_ ((4,iV s146)::(6,iV (ix v150 s220))::Yu m_ s146 v150 [(31,iV s220)]),[(0,rI v150)],1⟩) (wkQ [(0,0)]) (Q0 (runQ hN λK hK=>?_)));simp;(repeat refine sdQ ?_);refine hK _ (tn (Q2 (st':=⟨Ye m_ ((4,iV s146)::(6,iV (ix v150 s220))::Yu m_ s146 v150 [(31,iV s220),(39,iV (m_.on_.fr.length:Int)),(40,iV 0)]),[(0,rI v150)],1⟩) (wkQ [(0,0)]) (Q5 ?_)));clear hK K;replace⟨e256,he256,h256⟩:=bind_some h;refine Qj he256 (λs256:Int=>⟨Ye m_ ((4,iV s146)::(6,iV (ix v150 s220))::Yu m_ s146 v150 [(31,iV s220),(39,iV (m_.on_.fr.length:Int)),(40,iV s256)]),[(0,rI v150)],1⟩) (wkQ [(0,0)]) ?_;intro k256 s256 c256 h hk256;refine Q0 (runQ hN λK hK=>?_);simp;(repeat refine sdQ ?_);refine hK _ ?_;clear hK K;refine tn (Q0 (Q7 rfl (λg=>?_) λg=>?_))
      ·have g257:s256<(m_.on_.fr.length:Int):=gQ;clear g;replace h:=if_l g257 h;refine Q8 (tn (Q0 ?_));replace⟨e258,h,h258⟩:=bind_some h;refine Q9 (λb258:Unit=>⟨Ye m_ ((4,iV s146)::(6,iV (ix v150 s220))::Yu m_ s146 v150 [(31,iV s220),(39,iV (m_.on_.fr.length:Int)),(40,iV s256)]),[(0,rI v150)],1⟩) (λb258=>yK b258=e258) ?_ ?_
       ·refine Q5 (Q0 (runQ hN λK hK=>?_));simp;(repeat refine sdQ ?_);refine hK _ ?_;clear hK K;refine tn (Q2 (st':=⟨Ye m_ ((4,iV s146)::(6,iV (ix v150 s220))::(7,iV s256)::Yu m_ s146 v150 [(31,iV s220),(39,iV (m_.on_.fr.length:Int)),(40,iV s256)]),[(0,rI v150)],1⟩) (wkQ [(0,0)]) (Q0 (runQ hN λK hK=>?_)));replace⟨a259,h⟩:=Q1 h;simp[at_I a259];(repeat with_reducible refine sdQ ?_);replace⟨v260,hv260,h⟩:=bind_some h;refine Q3 (Q3f _ _ v260 hv260) (.cons (.preT (by simp[CN])) (.cons .val .nil)) ?_;simp[at_I a259];(repeat refine sdQ ?_);refine hK _ (tn (Q2 (st':=⟨Ye m_ ((4,iV s146)::(6,iV (ix v150 s220))::(7,iV s256)::Yu m_ s146 v150 (Y0k s220 m_ s256 v260 [(53,iV 0)])),[(0,rI v150),(1,rI v260)],2⟩) (wkQ [(0,0),(1,1)]) (Q5 ?_)));clear hK K;replace⟨e274,he274,h274⟩:=bind_some h;refine Qj he274 (λs274:Int=>⟨Ye m_ ((4,iV s146)::(6,iV (ix v150 s220))::(7,iV s256)::Yu m_ s146 v150 (Y0k s220 m_ s256 v260 [(53,iV s274)])),[(0,rI v150),(1,rI v260)],2⟩) (wkQ [(0,0),(1,1)]) ?_;intro k274 s274 c274 h hk274;refine Q0 (runQ hN λK hK=>?_);simp;(repeat refine sdQ ?_);refine hK _ ?_;clear hK K;refine tn (Q0 (Q7 rfl (λg=>?_) λg=>?_))
        ·have g275:s274<(v260.length:Int):=gQ;clear g;replace h:=if_l g275 h;refine Q8 (tn (Q0 (Q5 (Q0 (runQ hN λK hK=>?_)))));replace⟨a276,h⟩:=Q1 h;simp[at_I a276];(repeat refine sdQ ?_);refine hK _ ?_;clear hK K;refine tn (Q2 (st':=⟨Ye m_ ((4,iV s146)::(6,iV (ix v150 s220))::(7,iV s256)::(9,iV (ix v260 s274))::Yu m_ s146 v150 (Y0k s220 m_ s256 v260 [(53,iV s274)])),[(0,rI v150),(1,rI v260)],2⟩) (wkQ [(0,0),(1,1)]) (Q0 (runQ hN λK hK=>?_)));simp;(repeat with_reducible refine sdQ ?_);replace⟨v277,hv277,h⟩:=bind_some h;refine Q3 (Q12 _ _ _ v277 hv277) (.cons (.preT (by simp[CN])) (.cons .val (.cons .val .nil))) ?_;replace⟨a278,h⟩:=Q1 h;simp[at_L a278];(repeat with_reducible refine sdQ ?_);replace⟨v279,hv279,h⟩:=bind_some h;refine Q3 (Q12 _ _ _ v279 hv279) (.cons (.preT (by simp[CN])) (.cons .val (.cons .val .nil))) ?_;replace⟨a280,h⟩:=Q1 h;replace⟨a281,h⟩:=Q1 h;replace⟨a282,h⟩:=Q1 h;replace⟨a283,h⟩:=Q1 h;replace⟨a284,h⟩:=Q1 h;simp[at_L a278,at_I a280,at_L a281,at_I a282,at_L a283,at_I a284];(repeat with_reducible refine sdQ ?_);replace⟨v285,hv285,h⟩:=bind_some h;refine Q3 (Q12 _ _ _ v285 hv285) (.cons (.preT (by simp[CN])) (.cons .val (.cons .val .nil))) ?_;simp[at_L a278,at_I a280,at_L a281,at_I a282,at_L a283,at_I a284];(repeat refine sdQ ?_);refine hK _ ?_;clear hK K;refine tn (Q2 (st':=⟨Ye m_ ((4,iV s146)::(6,iV (ix v150 s220))::(7,iV s256)::Yu m_ s146 v150 (Y0k s220 m_ s256 v260 [(53,iV s274),(95,.val (.bool ((ix (rx m_.arrows_ v277) v279)!=v285)))])),[(0,rI v150),(1,rI v260)],2⟩) (wkQ [(0,0),(1,1)]) (Q7 rfl (λg=>?_) λg=>?_))
         ·have g286:¬((ix (rx m_.arrows_ v277) v279)=v285):=gQ;clear g;replace h:=if_l g286 h;refine Q0 (runQ hN λK hK=>?_);simp;(repeat refine sdQ ?_);refine hK _ (tn (Q2 (st':=⟨YM [],[],0⟩) (wkQ []) (Qe (br (tr (lr (br (br (tr (lr (br (br (tr (lr (br (br (tr (lr (br (tr ?_))))))))))))))))))));clear hK K;cases h;have q:_=e274:=hk274;have h:=h274;rw[←q]at h;clear q;(try dsimp only at h);cases h;have h:=h258;(try dsimp only at h);cases h;have q:_=e256:=hk256;have h:=h256;rw[←q]at h;clear q;(try dsimp only at h);cases h;have h:=h222;(try dsimp only at h);cases h;have q:_=e220:=hk220;have h:=h220;rw[←q]at h;clear q;(try dsimp only at h);cases h;have h:=h148;(try dsimp only at h);cases h;have q:_=e1:=hk146;have h:=h1;rw[←q]at h;clear q;(try dsimp only at h);have hr:=yJ h;rw[←hr];refine⟨_,(.tmp .nil),?_⟩;refine⟨(.one rfl rfl .nil),[.val (.bool false)],[],by simp[BN],by simp,(yN _)⟩
         have g286:¬(¬((ix (rx m_.arrows_ v277) v279)=v285)):=gQ;clear g;replace h:=if_r g286 h;refine Q8 (bn (tn (runQ hN λK hK=>?_)));replace⟨a287,h⟩:=Q1 h;simp[Qh a287];(repeat refine sdQ ?_);refine hK _ ?_;clear hK K;cases h;exact rn (s':=s274+1) hk274 (wkQ [(0,0),(1,1)])
        have g275:¬(s274<(v260.length:Int)):=gQ;clear g;replace h:=if_r g275 h;refine Ql (tx (lx (bh (bn ?_))));cases h;have q:_=e274:=hk274;have h:=h274;rw[←q]at h;clear q;(try dsimp only at h);exact jn (b:=()) (yJ h) (wkQ [(0,0)])
       intro b258 hb258;have h:=h258;(try rw[←hb258]at h);clear h258;(try dsimp only at h);refine runQ hN λK hK=>?_;replace⟨a288,h⟩:=Q1 h;simp[Qh a288];(repeat refine sdQ ?_);refine hK _ ?_;clear hK K;cases h;exact rn (s':=s256+1) hk256 (wkQ [(0,0)])
      have g257:¬(s256<(m_.on_.fr.length:Int)):=gQ;clear g;replace h:=if_r g257 h;refine Ql (tx (lx (bh (bn ?_))));cases h;have q:_=e256:=hk256;have h:=h256;rw[←q]at h;clear q;(try dsimp only at h);exact jn (b:=()) (yJ h) (wkQ [(0,0)])
     intro b222 hb222;have h:=h222;(try rw[←hb222]at h);clear h222;(try dsimp only at h);refine runQ hN λK hK=>?_;replace⟨a289,h⟩:=Q1 h;simp[Qh a289];(repeat refine sdQ ?_);refine hK _ ?_;clear hK K;cases h;exact rn (s':=s220+1) hk220 (wkQ [(0,0)])
    have g221:¬(s220<(v150.length:Int)):=gQ;clear g;replace h:=if_r g221 h;refine Ql (tx (lx (bh (bn ?_))));cases h;have q:_=e220:=hk220;have h:=h220;rw[←q]at h;clear q;(try dsimp only at h);exact jn (b:=()) (yJ h) (wkQ [])
   intro b148 hb148;have h:=h148;(try rw[←hb148]at h);clear h148;(try dsimp only at h);refine runQ hN λK hK=>?_;replace⟨a290,h⟩:=Q1 h;simp[Qh a290];(repeat refine sdQ ?_);refine hK _ ?_;clear hK K;cases h;exact rn (s':=s146+1) hk146 (wkQ [])
  have g147:¬(s146<(m_.on_.fr.length:Int)):=gQ;clear g;replace h:=if_r g147 h;refine Ql (tx (lx (bh ?_)));cases h;exact jn (b:=()) hk146 (wkQ [])
 intro b1 hb1;have h:=h1;try rw[←hb1]at h
 clear h1;try dsimp only at h
 refine Q0 (runQ hN λK hK=>?_);simp;repeat refine sdQ ?_
 refine hK _ (tn (Q2 (st':=⟨Y0u [],[],0⟩) (wkQ []) (Qe ?_)));clear hK K;have hr:=yJ h;rw[←hr];refine⟨_,(.tmp .nil),?_⟩;refine⟨(.one rfl rfl .nil),[.val (.bool true)],[],by simp[BN],by simp,(yN _)⟩
attribute [local simp] unk unA unE unT unC flat eL eI Qc QS eP_Ends Qr Cat.cells Ends.cells XMonoidal.cells
def QF(m_:XMonoidal):Option Bool:=
 (
  (QE m_.on_).bind λv2=>
  if¬(v2=true)then
   some true
  else
   ass (B64 (m_.on_.n - 1))<|
   (Q3N m_.unit_ 0 (m_.on_.n - 1)).bind λv5=>
   if¬(v5=true)then
    some true
   else
    (Q2y m_.objects_ m_.on_.n).bind λv7=>
    if¬(v7=true)then
     some true
    else
     (Qz m_.on_).bind λv9=>
     (Q2y m_.arrows_ v9).bind λv10=>
     some (!v10):Option (Bool)).bind λb1=>
 if b1=true then
  some false
 else
  (Qo (σ:=Int) (ε:=Unit⊕Bool) (λs58=>
   if s58<(m_.arrows_.length:Int)then
    (
     ass (0≤s58∧s58<(m_.arrows_.length:Int))<|
     (Qo (σ:=Int) (ε:=Bool⊕Unit) (λs82=>
      if s82<((rx m_.arrows_ s58).length:Int)then
       ass (0≤s82∧s82<((rx m_.arrows_ s58).length:Int))<|
       (Q1T m_.on_ (ix (rx m_.arrows_ s58) s82)).bind λv85=>
       ass (0≤s58∧s58<(m_.on_.fr.length:Int))<|
       ass (0≤ix m_.on_.fr s58∧ix m_.on_.fr s58<(m_.objects_.length:Int))<|
       ass (0≤s82∧s82<(m_.on_.fr.length:Int))<|
       ass (0≤ix m_.on_.fr s82∧ix m_.on_.fr s82<((rx m_.objects_ (ix m_.on_.fr s58)).length:Int))<|
       ass (0≤s58∧s58<(m_.on_.to.length:Int))<|
       ass (0≤ix m_.on_.to s58∧ix m_.on_.to s58<(m_.objects_.length:Int))<|
       ass (0≤s82∧s82<(m_.on_.to.length:Int))<|
       ass (0≤ix m_.on_.to s82∧ix m_.on_.to s82<((rx m_.objects_ (ix m_.on_.to s58)).length:Int))<|
       if¬(v85.a=ix (rx m_.objects_ (ix m_.on_.fr s58)) (ix m_.on_.fr s82)∧v85.b=ix (rx m_.objects_ (ix m_.on_.to s58)) (ix m_.on_.to s82))then
        some (yM (yK false))
       else
        (
         (QI m_.on_ s58).bind λv96=>
         if v96=true then
          (QI m_.on_ s82).bind λv98=>
          if v98=true then
           (QI m_.on_ (ix (rx m_.arrows_ s58) s82)).bind λv100=>
           some (!v100)
          else
           some false
         else
          some false:Option (Bool)).bind λb95=>
        if b95=true then
         some (yM (yK false))
        else
         ass (B64 (s82+1))<|
         some (yO (s82+1))
      else
       some (yM (yL ()))) fuel 0).bind λe82=>
     match e82 with
     | .inl p82=>
      some (yL p82)
     | .inr p82=>
      some (yK p82):Option (Unit⊕Bool)).bind λe60=>
    match e60 with
    | .inl b60=>
     ass (B64 (s58+1))<|
     some (yO (s58+1))
    | .inr p60=>
     some (yM (yL p60))
   else
    some (yM (yK ()))) fuel 0).bind λe12=>
  match e12 with
  | .inl b12=>
   (
    (Q1a m_.objects_ m_.unit_).bind λv105=>
    if v105=true then
     ass (0≤m_.unit_∧m_.unit_<(m_.on_.id.length:Int))<|
     (Q1a m_.arrows_ (ix m_.on_.id m_.unit_)).bind λv108=>
     if v108=true then
      (QO m_).bind λv110=>
      some v110
     else
      some false
    else
     some false:Option (Bool)).bind λb104=>
   some b104
  | .inr p12=>
   some p12
@[simp] abbrev YD(a:XMonoidal)(b:Int)(c:List (Nat×AV)):List (Nat×AV):=(52,.lst true 1 (Ls a.arrows_))::(53,iV (a.arrows_.length:Int))::(54,iV b)::(59,lI (rx a.arrows_ b))::(60,iV ((rx a.arrows_ b).length:Int))::c
@[simp] abbrev Y0p(a:XMonoidal)(b:List (Nat×AV)):List (Nat×AV):=(52,.lst true 1 (Ls a.arrows_))::(53,iV (a.arrows_.length:Int))::b
theorem Q1G(m_:XMonoidal)(r:Bool)(h:QF m_=some r):Contract Try.prog 62 [.rptr (m_.cells true)] (.val (.bool r)):=by
 refine Q6 (rvs:=[.tmp 2]) (rs:=[.val (.bool r)]) Try.func62 rfl rfl rfl rfl (by simp[Try.f62]) λF hN hP=>?_;unfold QF at h;refine Q0 (runQ hN λK hK=>?_);simp;repeat refine sdQ ?_
 refine hK _ ?_;clear hK K;refine tn (Q2 (st':=⟨[(0,.rptr (XMonoidal.cells true m_))],[],0⟩) (wkQ []) (Q0 (runQ hN λK hK=>?_)));simp;repeat refine sdQ ?_
 refine hK _ (tn (Q2 (st':=⟨Ye m_ [],[],0⟩) (wkQ []) (Q0 (Q0 ?_))));clear hK K;replace⟨e1,h,h1⟩:=bind_some h;refine Q9 (λb1:Bool=>⟨Ye m_ [(48,.val (.bool b1))],[],0⟩) (λb1=>b1=e1) ?_ ?_
 ·refine runQ hN λK hK=>?_;simp;repeat with_reducible refine sdQ ?_
  replace⟨v2,hv2,h⟩:=bind_some h;refine Q3 (Q2r _ v2 hv2) (.cons (.preT (by simp[CN])) .nil) ?_;simp;repeat with_reducible refine sdQ ?_
  refine Qa (λg=>?_) (λg=>?_)
  ·have g3:¬(¬(v2=true)):=gQ;clear g;replace h:=if_r g3 h;replace⟨a4,h⟩:=Q1 h;simp[Qh a4];(repeat with_reducible refine sdQ ?_);replace⟨v5,hv5,h⟩:=bind_some h;refine Q3 (Q8L _ _ _ v5 hv5) (.cons .val (.cons .val (.cons .val .nil))) ?_;simp;(repeat with_reducible refine sdQ ?_);refine Qa (λg=>?_) (λg=>?_)
   ·have g6:¬(¬(v5=true)):=gQ;clear g;replace h:=if_r g6 h;simp;(repeat with_reducible refine sdQ ?_);replace⟨v7,hv7,h⟩:=bind_some h;refine Q3 (Q6c _ _ v7 hv7) (.cons .lst (.cons .val .nil)) ?_;simp;(repeat with_reducible refine sdQ ?_);refine Qa (λg=>?_) (λg=>?_)
    ·have g8:¬(¬(v7=true)):=gQ;clear g;replace h:=if_r g8 h;simp;(repeat with_reducible refine sdQ ?_);replace⟨v9,hv9,h⟩:=bind_some h;refine Q3 (Q28 _ v9 hv9) (.cons (.preT (by simp[CN])) .nil) ?_;simp;(repeat with_reducible refine sdQ ?_);replace⟨v10,hv10,h⟩:=bind_some h;refine Q3 (Q6c _ _ v10 hv10) (.cons .lst (.cons .val .nil)) ?_;simp;(repeat refine sdQ ?_);refine hK _ ?_;exact jn (b:=!v10) (yJ h) (wkQ [])
    have g8:¬(v7=true):=gQ;clear g;replace h:=if_l g8 h;simp;(repeat refine sdQ ?_);refine hK _ ?_;exact jn (b:=true) (yJ h) (wkQ [])
   have g6:¬(v5=true):=gQ;clear g;replace h:=if_l g6 h;simp;(repeat refine sdQ ?_);refine hK _ ?_;exact jn (b:=true) (yJ h) (wkQ [])
  have g3:¬(v2=true):=gQ;clear g;replace h:=if_l g3 h;simp;repeat refine sdQ ?_
  refine hK _ ?_;exact jn (b:=true) (yJ h) (wkQ [])
 intro b1 hb1;have h:=h1;try rw[←hb1]at h
 clear h1;try dsimp only at h
 refine Q7 rfl (λg=>?_) λg=>?_
 ·have g11:b1=true:=gQ;clear g;replace h:=if_l g11 h;refine Q0 (runQ hN λK hK=>?_);simp;repeat refine sdQ ?_
  refine hK _ (tn (Q2 (st':=⟨YM [],[],0⟩) (wkQ []) (Qe (tr ?_))));clear hK K;have hr:=yJ h;rw[←hr];refine⟨_,(.tmp .nil),?_⟩;refine⟨(.one rfl rfl .nil),[.val (.bool false)],[],by simp[BN],by simp,(yN _)⟩
 have g11:¬(b1=true):=gQ;clear g;replace h:=if_r g11 h;refine Q8 (tn (Q0 (Q0 (runQ hN λK hK=>?_))));simp;repeat refine sdQ ?_
 refine hK _ (tn (Q2 (st':=⟨Ye m_ (Y0p m_ [(54,iV 0)]),[],0⟩) (wkQ []) ?_));clear hK K;replace⟨e12,h,h12⟩:=bind_some h;refine Q9 (λb12:Unit=>⟨Ye m_ [],[],0⟩) (λb12=>yK b12=e12) ?_ ?_
 ·refine Q5 (Qj h (λs58:Int=>⟨Ye m_ (Y0p m_ [(54,iV s58)]),[],0⟩) (wkQ []) ?_);clear h;intro k58 s58 c58 h hk58;refine Q0 (runQ hN λK hK=>?_);simp;repeat refine sdQ ?_
  refine hK _ ?_;clear hK K;refine tn (Q0 (Q7 rfl (λg=>?_) λg=>?_))
  ·have g59:s58<(m_.arrows_.length:Int):=gQ;clear g;replace h:=if_l g59 h;refine Q8 (tn (Q0 ?_));replace⟨e60,h,h60⟩:=bind_some h;refine Q9 (λb60:Unit=>⟨Ye m_ (Y0p m_ [(54,iV s58)]),[],0⟩) (λb60=>yK b60=e60) ?_ ?_
   ·refine Q5 (Q0 (runQ hN λK hK=>?_));replace⟨a61,h⟩:=Q1 h;simp[at_L a61];(repeat refine sdQ ?_);refine hK _ ?_;clear hK K;refine tn (Q2 (st':=⟨Ye m_ ((4,iV s58)::(5,lI (rx m_.arrows_ s58))::Y0p m_ [(54,iV s58)]),[],0⟩) (wkQ []) (Q0 (runQ hN λK hK=>?_)));simp;(repeat refine sdQ ?_);refine hK _ (tn (Q2 (st':=⟨Ye m_ ((4,iV s58)::YD m_ s58 [(61,iV 0)]),[],0⟩) (wkQ []) (Q5 ?_)));clear hK K;replace⟨e82,he82,h82⟩:=bind_some h;refine Qj he82 (λs82:Int=>⟨Ye m_ ((4,iV s58)::YD m_ s58 [(61,iV s82)]),[],0⟩) (wkQ []) ?_;intro k82 s82 c82 h hk82;refine Q0 (runQ hN λK hK=>?_);simp;(repeat refine sdQ ?_);refine hK _ ?_;clear hK K;refine tn (Q0 (Q7 rfl (λg=>?_) λg=>?_))
    ·have g83:s82<((rx m_.arrows_ s58).length:Int):=gQ;clear g;replace h:=if_l g83 h;refine Q8 (tn (Q0 (Q5 (Q0 (runQ hN λK hK=>?_)))));replace⟨a84,h⟩:=Q1 h;simp[at_I a84];(repeat refine sdQ ?_);refine hK _ ?_;clear hK K;refine tn (Q2 (st':=⟨Ye m_ ((4,iV s58)::(6,iV s82)::(7,iV (ix (rx m_.arrows_ s58) s82))::YD m_ s58 [(61,iV s82)]),[],0⟩) (wkQ []) (Q0 (Q0 (runQ hN λK hK=>?_))));simp;(repeat with_reducible refine sdQ ?_);replace⟨v85,hv85,h⟩:=bind_some h;refine Q3 (Q59 _ _ v85 hv85) (.cons (.preT (by simp[CN])) (.cons .val .nil)) ?_;replace⟨a86,h⟩:=Q1 h;replace⟨a87,h⟩:=Q1 h;replace⟨a88,h⟩:=Q1 h;replace⟨a89,h⟩:=Q1 h;replace⟨a90,h⟩:=Q1 h;replace⟨a91,h⟩:=Q1 h;replace⟨a92,h⟩:=Q1 h;replace⟨a93,h⟩:=Q1 h;simp[at_I a86,at_L a87,at_I a88,at_I a89,at_I a90,at_L a91,at_I a92,at_I a93];(repeat refine sdQ ?_);refine hK _ ?_;clear hK K;refine tn (Q2 (st':=⟨Ye m_ ((4,iV s58)::(6,iV s82)::(7,iV (ix (rx m_.arrows_ s58) s82))::YD m_ s58 [(61,iV s82),(114,.val (.bool (!([v85.a,v85.b]==[ix (rx m_.objects_ (ix m_.on_.fr s58)) (ix m_.on_.fr s82),ix (rx m_.objects_ (ix m_.on_.to s58)) (ix m_.on_.to s82)]))))]),[],0⟩) (wkQ []) (Q7 rfl (λg=>?_) λg=>?_))
     ·have g94:¬(v85.a=ix (rx m_.objects_ (ix m_.on_.fr s58)) (ix m_.on_.fr s82)∧v85.b=ix (rx m_.objects_ (ix m_.on_.to s58)) (ix m_.on_.to s82)):=gQ;clear g;replace h:=if_l g94 h;refine Q0 (runQ hN λK hK=>?_);simp;(repeat refine sdQ ?_);refine hK _ (tn (Q2 (st':=⟨YM [],[],0⟩) (wkQ []) (Qe (tr (br (tr (lr (br (br (tr (lr (br (tr ?_)))))))))))));clear hK K;cases h;have q:_=e82:=hk82;have h:=h82;rw[←q]at h;clear q;(try dsimp only at h);cases h;have h:=h60;(try dsimp only at h);cases h;have q:_=e12:=hk58;have h:=h12;rw[←q]at h;clear q;(try dsimp only at h);have hr:=yJ h;rw[←hr];refine⟨_,(.tmp .nil),?_⟩;refine⟨(.one rfl rfl .nil),[.val (.bool false)],[],by simp[BN],by simp,(yN _)⟩
     have g94:¬(¬(v85.a=ix (rx m_.objects_ (ix m_.on_.fr s58)) (ix m_.on_.fr s82)∧v85.b=ix (rx m_.objects_ (ix m_.on_.to s58)) (ix m_.on_.to s82))):=gQ;clear g;replace h:=if_r g94 h;refine Q8 (tn (Q0 ?_));replace⟨e95,h,h95⟩:=bind_some h;refine Q9 (λb95:Bool=>⟨Ye m_ ((4,iV s58)::YD m_ s58 [(61,iV s82),(128,.val (.bool b95))]),[],0⟩) (λb95=>b95=e95) ?_ ?_
     ·refine runQ hN λK hK=>?_;simp;(repeat with_reducible refine sdQ ?_);replace⟨v96,hv96,h⟩:=bind_some h;refine Q3 (Q1F _ _ v96 hv96) (.cons (.preT (by simp[CN])) (.cons .val .nil)) ?_;simp;(repeat with_reducible refine sdQ ?_);refine Qa (λg=>?_) (λg=>?_)
      ·have g97:v96=true:=gQ;clear g;replace h:=if_l g97 h;simp;(repeat with_reducible refine sdQ ?_);replace⟨v98,hv98,h⟩:=bind_some h;refine Q3 (Q1F _ _ v98 hv98) (.cons (.preT (by simp[CN])) (.cons .val .nil)) ?_;simp;(repeat with_reducible refine sdQ ?_);refine Qa (λg=>?_) (λg=>?_)
       ·have g99:v98=true:=gQ;clear g;replace h:=if_l g99 h;simp;(repeat with_reducible refine sdQ ?_);replace⟨v100,hv100,h⟩:=bind_some h;refine Q3 (Q1F _ _ v100 hv100) (.cons (.preT (by simp[CN])) (.cons .val .nil)) ?_;simp;(repeat refine sdQ ?_);refine hK _ ?_;exact jn (b:=!v100) (yJ h) (wkQ [])
       have g99:¬(v98=true):=gQ;clear g;replace h:=if_r g99 h;simp;(repeat refine sdQ ?_);refine hK _ ?_;exact jn (b:=false) (yJ h) (wkQ [])
      have g97:¬(v96=true):=gQ;clear g;replace h:=if_r g97 h;simp;(repeat refine sdQ ?_);refine hK _ ?_;exact jn (b:=false) (yJ h) (wkQ [])
     intro b95 hb95;have h:=h95;(try rw[←hb95]at h);clear h95;(try dsimp only at h);refine Q7 rfl (λg=>?_) λg=>?_
     ·have g101:b95=true:=gQ;clear g;replace h:=if_l g101 h;refine Q0 (runQ hN λK hK=>?_);simp;(repeat refine sdQ ?_);refine hK _ (tn (Q2 (st':=⟨YM [],[],0⟩) (wkQ []) (Qe (br (tr (lr (br (br (tr (lr (br (tr ?_))))))))))));clear hK K;cases h;have q:_=e82:=hk82;have h:=h82;rw[←q]at h;clear q;(try dsimp only at h);cases h;have h:=h60;(try dsimp only at h);cases h;have q:_=e12:=hk58;have h:=h12;rw[←q]at h;clear q;(try dsimp only at h);have hr:=yJ h;rw[←hr];refine⟨_,(.tmp .nil),?_⟩;refine⟨(.one rfl rfl .nil),[.val (.bool false)],[],by simp[BN],by simp,(yN _)⟩
     have g101:¬(b95=true):=gQ;clear g;replace h:=if_r g101 h;refine Q8 (bn (tn (runQ hN λK hK=>?_)));replace⟨a102,h⟩:=Q1 h;simp[Qh a102];(repeat refine sdQ ?_);refine hK _ ?_;clear hK K;cases h;exact rn (s':=s82+1) hk82 (wkQ [])
    have g83:¬(s82<((rx m_.arrows_ s58).length:Int)):=gQ;clear g;replace h:=if_r g83 h;refine Ql (tx (lx (bh (bn ?_))));cases h;have q:_=e82:=hk82;have h:=h82;rw[←q]at h;clear q;(try dsimp only at h);exact jn (b:=()) (yJ h) (wkQ [])
   intro b60 hb60;have h:=h60;(try rw[←hb60]at h);clear h60;(try dsimp only at h);refine runQ hN λK hK=>?_;replace⟨a103,h⟩:=Q1 h;simp[Qh a103];(repeat refine sdQ ?_);refine hK _ ?_;clear hK K;cases h;exact rn (s':=s58+1) hk58 (wkQ [])
  have g59:¬(s58<(m_.arrows_.length:Int)):=gQ;clear g;replace h:=if_r g59 h;refine Ql (tx (lx (bh ?_)));cases h;exact jn (b:=()) hk58 (wkQ [])
 intro b12 hb12;have h:=h12;try rw[←hb12]at h
 clear h12;try dsimp only at h
 refine Q0 ?_;replace⟨e104,h,h104⟩:=bind_some h;refine Q9 (λb104:Bool=>⟨[(2,.val (.bool b104))],[],0⟩) (λb104=>b104=e104) ?_ ?_
 ·refine runQ hN λK hK=>?_;simp;repeat with_reducible refine sdQ ?_
  replace⟨v105,hv105,h⟩:=bind_some h;refine Q3 (Q3B _ _ v105 hv105) (.cons .lst (.cons .val .nil)) ?_;simp;repeat with_reducible refine sdQ ?_
  refine Qa (λg=>?_) (λg=>?_)
  ·have g106:v105=true:=gQ;clear g;replace h:=if_l g106 h;replace⟨a107,h⟩:=Q1 h;simp[at_I a107];(repeat with_reducible refine sdQ ?_);replace⟨v108,hv108,h⟩:=bind_some h;refine Q3 (Q3B _ _ v108 hv108) (.cons .lst (.cons .val .nil)) ?_;simp[at_I a107];(repeat with_reducible refine sdQ ?_);refine Qa (λg=>?_) (λg=>?_)
   ·have g109:v108=true:=gQ;clear g;replace h:=if_l g109 h;simp[at_I a107];(repeat with_reducible refine sdQ ?_);replace⟨v110,hv110,h⟩:=bind_some h;refine Q3 (Q3k _ v110 hv110) (.cons (.preT (by simp[CN])) .nil) ?_;simp[at_I a107];(repeat refine sdQ ?_);refine hK _ ?_;exact jn (b:=v110) (yJ h) (wkQ [])
   have g109:¬(v108=true):=gQ;clear g;replace h:=if_r g109 h;simp[at_I a107];(repeat refine sdQ ?_);refine hK _ ?_;exact jn (b:=false) (yJ h) (wkQ [])
  have g106:¬(v105=true):=gQ;clear g;replace h:=if_r g106 h;simp;repeat refine sdQ ?_
  refine hK _ ?_;exact jn (b:=false) (yJ h) (wkQ [])
 intro b104 hb104;have h:=h104;try rw[←hb104]at h
 clear h104;try dsimp only at h
 refine Qe ?_;have hr:=yJ h;rw[←hr];refine⟨_,(.tmp .nil),?_⟩;refine⟨(.one rfl rfl .nil),[.val (.bool b104)],[],by simp[BN],by simp,(yN _)⟩
section
attribute [local simp] Qi QP Qv Q1l QN
def outL(c:Cat)(x:Int):List Int:=flt c.fr.length λa=>ix c.fr a=x
theorem e_outOf{c:Cat}(h:c.Is)(x:Int):Q15 c x=some (outL c x):=by
 have k2:=h.1.m40;unfold Q15;refine Q3D c.fr.length (λi=>flt i λa=>ix c.fr a=x) (e:=outL c x) rfl (by omega) (λi hi=>?_) (by simp[outL]) rfl;have hl:=Q6U i λa=>ix c.fr a=x
 by_cases h1:ix c.fr i=x
 ·rw[flt_pos (p:=λa:Nat=>ix c.fr a=x) h1];simp(disch:=omega) [Q4,B64,h1];try omega
 rw[Q8e (p:=λa:Nat=>ix c.fr a=x) h1];simp(disch:=omega) [Q4,B64,h1];try omega
theorem Q9j(c:Cat)(x:Int):(outL c x).length≤c.fr.length:=Q6U _ _
theorem Q73{c:Cat}{x:Int}{i:Nat}(hi:i<(outL c x).length):∃k:Nat,k<c.fr.length∧ix c.fr k=x∧ix (outL c x) i=(k:Int):=ix_flt hi
theorem outL_in{c:Cat}{x:Int}{k:Nat}(hk:k<c.fr.length)(e:ix c.fr k=x):∃i:Nat,i<(outL c x).length∧ix (outL c x) i=(k:Int):=by
 have:(k:Int)∈outL c x:=mem_flt.2 ⟨k,hk,e,rfl⟩;obtain⟨i,hi,q⟩:=List.getElem_of_mem this;exact⟨i,hi,by rw[←Q2e _ _ hi];exact q⟩
def XMonoidal.Iw(m:XMonoidal):Prop:=∀f:Nat,f<m.on_.fr.length→∀i:Nat,i<(outL m.on_ (ix m.on_.to f)).length→∀g:Nat,g<m.on_.fr.length→∀j:Nat,j<(outL m.on_ (ix m.on_.to g)).length→m.Ie f (ix (outL m.on_ (ix m.on_.to f)) i) g (ix (outL m.on_ (ix m.on_.to g)) j)
theorem XMonoidal.iw{m:XMonoidal}:m.Iw↔m.Iq:=by
 constructor
 ·intro h f hf k1 hk1 g hg k hk e1 e2;obtain⟨i,hi,q1⟩:=outL_in hk1 e1.symm;obtain⟨j,hj,q2⟩:=outL_in hk e2.symm;have:=h f hf i hi g hg j hj
  rwa[q1,q2]at this
 intro h f hf i hi g hg j hj;obtain⟨k1,h1,e1,q1⟩:=Q73 hi;obtain⟨k2,h2,e2,q2⟩:=Q73 hj;rw[q1,q2];exact h f hf k1 h1 g hg k2 h2 e1.symm e2.symm
theorem e_inter{m:XMonoidal}(h:m.Pre):QO m=some (bo m.Iq):=by
 have n:=h.c.nums;rw[←bo_iff2 XMonoidal.iw];unfold QO;refine chkI m.on_.fr.length (λf=>∀i:Nat,i<(outL m.on_ (ix m.on_.to f)).length→∀g:Nat,g<m.on_.fr.length→∀j:Nat,j<(outL m.on_ (ix m.on_.to g)).length→m.Ie f (ix (outL m.on_ (ix m.on_.to f)) i) g (ix (outL m.on_ (ix m.on_.to g)) j)) (yL false) (yK ()) (by omega) (λf hf=>?_) (by rw[if_neg (by omega)]) ?_
 ·rw[if_pos (by omega),Q4 (by omega),e_outOf h.c];simp only[yA];rw[yV];have l1:=Q9j m.on_ (ix m.on_.to f);refine chkI (outL m.on_ (ix m.on_.to f)).length (λi=>∀g:Nat,g<m.on_.fr.length→∀j:Nat,j<(outL m.on_ (ix m.on_.to g)).length→m.Ie f (ix (outL m.on_ (ix m.on_.to f)) i) g (ix (outL m.on_ (ix m.on_.to g)) j)) (yK false) (yL ()) (by omega) (λi hi=>?_) (by rw[if_neg (by omega)]) ?_
  ·obtain⟨k1,hk1,e1,q1⟩:=Q73 hi;rw[if_pos (by omega),Q4 (by omega),yV];refine chkI m.on_.fr.length (λg=>∀j:Nat,j<(outL m.on_ (ix m.on_.to g)).length→m.Ie f (ix (outL m.on_ (ix m.on_.to f)) i) g (ix (outL m.on_ (ix m.on_.to g)) j)) (yK false) (yL ()) (by omega) (λg hg=>?_) (by rw[if_neg (by omega)]) ?_
   ·have l2:=Q9j m.on_ (ix m.on_.to g);rw[if_pos (by omega),Q4 (by omega),e_outOf h.c];simp only[yA];rw[yV];refine chkI (outL m.on_ (ix m.on_.to g)).length (λj=>m.Ie f (ix (outL m.on_ (ix m.on_.to f)) i) g (ix (outL m.on_ (ix m.on_.to g)) j)) (yK false) (yL ()) (by omega) (λj hj=>?_) (by rw[if_neg (by omega)]) ?_
    ·obtain⟨k2,hk2,e2,q2⟩:=Q73 hj;rw[q1,q2];have d1:=h.c.two (f:=f) (g:=k1) (by omega) (by omega) e1.symm;have d2:=h.c.two (f:=g) (g:=k2) (by omega) (by omega) e2.symm;have a1:=h.ar (f:=ix (rx m.on_.cs f) k1) (g:=ix (rx m.on_.cs g) k2) (by omega) (by omega);have a2:=h.ar (f:=f) (g:=g) (by omega) (by omega);have a3:=h.ar (f:=k1) (g:=k2) (by omega) (by omega);rw[if_pos (by omega),Q4 (by omega),(Q8Y h.c (by omega) (by omega)).2];simp only[yA];rw[Q4 (by omega),(Q8Y h.c (by omega) (by omega)).2];simp only[yA];rw[Q4 (by omega),Q4 (by omega),Q4 (by omega),Q4 (by omega),Q4 (by omega),(Q8Y h.c (by omega) (by omega)).2];simp only[yA]
     by_cases q:m.Ie f k1 g k2
     ·rw[Qk q,if_neg (QW q),Q4 (by unfold B64;omega)];rfl
     rw[Qd q,if_pos q];rfl
    by_cases q:∀j:Nat,j<(outL m.on_ (ix m.on_.to g)).length→m.Ie f (ix (outL m.on_ (ix m.on_.to f)) i) g (ix (outL m.on_ (ix m.on_.to g)) j)
    ·rw[Qk q];simp only[if_true,yA];rw[Q4 (by unfold B64;omega)]
    rw[Qd q];rfl
   by_cases q:∀g:Nat,g<m.on_.fr.length→∀j:Nat,j<(outL m.on_ (ix m.on_.to g)).length→m.Ie f (ix (outL m.on_ (ix m.on_.to f)) i) g (ix (outL m.on_ (ix m.on_.to g)) j)
   ·rw[Qk q];simp only[if_true,yA];rw[Q4 (by unfold B64;omega)]
   rw[Qd q];rfl
  by_cases q:∀i:Nat,i<(outL m.on_ (ix m.on_.to f)).length→∀g:Nat,g<m.on_.fr.length→∀j:Nat,j<(outL m.on_ (ix m.on_.to g)).length→m.Ie f (ix (outL m.on_ (ix m.on_.to f)) i) g (ix (outL m.on_ (ix m.on_.to g)) j)
  ·rw[Qk q];simp only[if_true,yA];rw[Q4 (by unfold B64;omega)]
  rw[Qd q];rfl
 by_cases q:m.Iw
 ·rw[Qk (show∀f:Nat,f<m.on_.fr.length→∀i:Nat,i<(outL m.on_ (ix m.on_.to f)).length→∀g:Nat,g<m.on_.fr.length→∀j:Nat,j<(outL m.on_ (ix m.on_.to g)).length→m.Ie f (ix (outL m.on_ (ix m.on_.to f)) i) g (ix (outL m.on_ (ix m.on_.to g)) j) from q),Qk q];rfl
 rw[Qd (show¬∀f:Nat,f<m.on_.fr.length→∀i:Nat,i<(outL m.on_ (ix m.on_.to f)).length→∀g:Nat,g<m.on_.fr.length→∀j:Nat,j<(outL m.on_ (ix m.on_.to g)).length→m.Ie f (ix (outL m.on_ (ix m.on_.to f)) i) g (ix (outL m.on_ (ix m.on_.to g)) j) from q),Qd q];rfl
abbrev XMonoidal.Id(m:XMonoidal)(f:Int):Prop:=ix m.on_.id (ix m.on_.fr f)=f
def XMonoidal.Ek(m:XMonoidal)(f g:Nat):Prop:=(m.E1 f g∧m.E2 f g)∧(m.Id f→m.Id g→m.Id (ix (rx m.arrows_ f) g))
def XMonoidal.Eq2(m:XMonoidal):Prop:=∀f:Nat,f<m.arrows_.length→∀g:Nat,g<(rx m.arrows_ f).length→m.Ek f g
theorem XMonoidal.eq2{m:XMonoidal}(h:m.Pre):m.Eq2↔m.Ed∧m.Uq:=by
 have n:=h.c.nums;have la:=h.a.1;have lr:∀f:Nat,f<m.on_.fr.length→(rx m.arrows_ f).length=m.on_.fr.length:=λf hf=>by have:=(h.a.2 f (by omega)).1;omega
 constructor
 ·intro q;refine⟨λf hf g hg=>(q f (by omega) g (by rw[lr f hf];exact hg)).1,λx hx y hy=>?_⟩;have i1:=h.c.idn (x:=x) (by omega);have i2:=h.c.idn (x:=y) (by omega);obtain⟨a,ea⟩:=yT i1.1;obtain⟨b,eb⟩:=yT i2.1;have s1:=h.c.1.ids x hx;have s2:=h.c.1.ids y hy;rw[ea]at s1;rw[eb]at s2;have k:=q a (by omega) b (by rw[lr a (by omega)];omega);have j:=k.2 (by unfold XMonoidal.Id;rw[s1.1];exact ea) (by unfold XMonoidal.Id;rw[s2.1];exact eb);have e1:=k.1.1;unfold XMonoidal.Id at j;unfold XMonoidal.E1 at e1;rw[e1,s1.1,s2.1]at j;unfold XMonoidal.Un;rw[ea,eb];exact j.symm
 rintro ⟨q1,q2⟩ f hf g hg
 have hf':f<m.on_.fr.length:=by omega
 have hg':g<m.on_.fr.length:=by rw[lr f hf']at hg;exact hg
 have e:=q1 f hf' g hg';refine⟨e,λi1 i2=>?_⟩;have e1:=h.c.ends (a:=f) (by omega);have e2:=h.c.ends (a:=g) (by omega);obtain⟨x,ex⟩:=yT e1.1.1;obtain⟨y,ey⟩:=yT e2.1.1;have u:=q2 x (by omega) y (by omega);unfold XMonoidal.Id at i1 i2⊢;unfold XMonoidal.Un at u;rw[←ex,←ey,i1,i2]at u;rw[e.1,←u]
theorem Q41{m:XMonoidal}:QF m=some (bo m.Is):=by
 unfold QF QE Q3N Qz
 by_cases h1:m.on_.Is
 case neg=>rw[Qd h1,Qd (show¬m.Is from λq=>h1 q.pre.c)];rfl
 have n:=h1.nums;rw[Qk h1];simp only[yA,not_true_eq_false,if_false];rw[Q4 (by unfold B64;omega)]
 by_cases h2:0≤m.unit_∧m.unit_<m.on_.n
 case neg=>
  rw[Qd (show¬m.Is from λq=>h2 q.pre.u)];have:(decide (0≤m.unit_)&&decide (m.unit_≤m.on_.n - 1))=false:=by simp;omega
  rw[this];rfl
 have e2:(decide (0≤m.unit_)&&decide (m.unit_≤m.on_.n - 1))=true:=by simp;omega
 rw[e2,Q7w (by omega),Q7w (by omega)];simp only[yA,not_true_eq_false,if_false]
 by_cases h3:Tbl m.objects_ m.on_.n
 case neg=>rw[Qd h3,Qd (show¬m.Is from λq=>h3 q.pre.o)];simp
 by_cases h4:Tbl m.arrows_ (m.on_.fr.length:Int)
 case neg=>rw[Qd h4,Qd (show¬m.Is from λq=>h4 q.pre.a)];simp
 have h:m.Pre:=⟨h1,h2,h3,h4⟩;have iu:=h1.idn h2;have la:=h.a.1;rw[Qk h3,Qk h4];simp only[yA,not_true_eq_false,if_false,Bool.not_true,zM];refine chkI m.arrows_.length (λf=>∀g:Nat,g<(rx m.arrows_ f).length→m.Ek f g) (yL false) (yK ()) (by omega) (λf hf=>?_) (by rw[if_neg (by omega)]) ?_
 ·have lr:=(h.a.2 f hf).1;rw[if_pos (by omega),Q4 (by omega),yV];refine chkI (rx m.arrows_ f).length (λg=>m.Ek f g) (yK false) (yL ()) (by omega) (λg hg=>?_) (by rw[if_neg (by omega)]) ?_
  ·have a1:=h.ar (f:=f) (g:=g) (by omega) (by omega);have e1:=h.c.ends (a:=f) (by omega);have e2:=h.c.ends (a:=g) (by omega);have e3:=h.c.ends (a:=ix (rx m.arrows_ f) g) (by omega);have o1:=h.ob e1.1 e2.1;have o2:=h.ob e1.2 e2.2;unfold Q1T QI;rw[if_pos (by omega),Q4 (by omega),Q4 (by omega)];simp only[yA];rw[Q4 (by omega),Q4 (by omega),Q4 (by omega),Q4 (by omega),Q4 (by omega),Q4 (by omega),Q4 (by omega),Q4 (by omega)]
   by_cases q1:m.E1 f g∧m.E2 f g
   case neg=>rw[if_pos q1,Qd (show¬m.Ek f g from λz=>q1 z.1)];rfl
   rw[if_neg (QW q1),Q4 (by omega),Q4 (by omega)];simp only[yA]
   by_cases k1:m.Id f
   case neg=>
    rw[Qk (show m.Ek f g from⟨q1,λz=>absurd z k1⟩),if_neg (show¬(ix m.on_.id (ix m.on_.fr f)==(f:Int))=true by simpa[XMonoidal.Id]using k1)];simp only[yA,zM,if_false,if_true];rw[Q4 (by unfold B64;omega)]
   rw[if_pos (show(ix m.on_.id (ix m.on_.fr f)==(f:Int))=true by simpa[XMonoidal.Id]using k1),Q4 (by omega),Q4 (by omega)];simp only[yA]
   by_cases k2:m.Id g
   case neg=>
    rw[Qk (show m.Ek f g from⟨q1,λ_ z=>absurd z k2⟩),if_neg (show¬(ix m.on_.id (ix m.on_.fr g)==(g:Int))=true by simpa[XMonoidal.Id]using k2)];simp only[yA,zM,if_false,if_true];rw[Q4 (by unfold B64;omega)]
   rw[if_pos (show(ix m.on_.id (ix m.on_.fr g)==(g:Int))=true by simpa[XMonoidal.Id]using k2),Q4 (by omega),Q4 (by omega)];simp only[yA]
   by_cases k3:m.Id (ix (rx m.arrows_ f) g)
   ·rw[Qk (show m.Ek f g from⟨q1,λ_ _=>k3⟩),if_neg (by simpa[XMonoidal.Id]using k3),Q4 (by unfold B64;omega)];rfl
   rw[Qd (show¬m.Ek f g from λz=>k3 (z.2 k1 k2)),if_pos (by simpa[XMonoidal.Id]using k3)];rfl
  by_cases q:∀g:Nat,g<(rx m.arrows_ f).length→m.Ek f g
  ·rw[Qk q];simp only[if_true,yA];rw[Q4 (by unfold B64;omega)]
  rw[Qd q];rfl
 by_cases q0:m.Eq2
 case neg=>rw[Qd (show¬∀f:Nat,f<m.arrows_.length→∀g:Nat,g<(rx m.arrows_ f).length→m.Ek f g from q0),Qd (show¬m.Is from λq=>q0 ((XMonoidal.eq2 h).2 ⟨q.ed,q.un⟩))];rfl
 rw[Qk (show∀f:Nat,f<m.arrows_.length→∀g:Nat,g<(rx m.arrows_ f).length→m.Ek f g from q0)];obtain⟨q1,q4⟩:=(XMonoidal.eq2 h).1 q0;simp only[if_true];rw[Q7v h3 h2 (by omega)]
 by_cases q2:Aso m.objects_ m.unit_
 case neg=>rw[Qd q2,Qd (show¬m.Is from λq=>q2 q.ao)];simp
 rw[Qk q2,Q4 (by omega),Q7v h4 iu (by omega)]
 by_cases q3:Aso m.arrows_ (ix m.on_.id m.unit_)
 case neg=>rw[Qd q3,Qd (show¬m.Is from λq=>q3 q.aa)];simp
 rw[Qk q3,e_inter h]
 by_cases q5:m.Iq
 ·rw[Qk q5,Qk (show m.Is from⟨h,q1,q2,q3,q4,q5⟩)];rfl
 rw[Qd q5,Qd (show¬m.Is from λz=>q5 z.ic)];rfl
end
section
attribute [local simp] Qi QP Qv Q1l QN
theorem Cat.Is.Ai{c:Cat}(h:c.Is){x:Int}(hx:0≤x∧x<c.n):Ar c (ix c.id x) x x:=by
 have h1:=h.1.li;obtain⟨i,rfl⟩:=yT hx.1;have h2:=h.1.ids i (by omega);exact⟨h.1.id' (by omega) (by omega),h2.1,h2.2⟩
theorem Q5I{ε β:Type}{body:List Int×Int→Option (Ctl (List Int×Int) ε)}{K:ε→Option β}{r:Option β}(n:Nat)(v:Nat→Int){e:ε}(hn:n<1000000)(h:∀i:Nat,i<n→body (tab i v,(i:Int))=(ass ((tab i v++[v i]).length≤1073741824)<|ass (B64 ((i:Int)+1))<|some (.next (tab i v++[v i],(i:Int)+1))))(he:body (tab n v,(n:Int))=some (.ret e))(hk:K e=r):(Qo body fuel ([],0)).bind K=r:=by
 refine Q3D n (λi=>tab i v) (e:=e) rfl (by omega) (λi hi=>?_) he hk;rw[h i hi,Q4 (by simp;omega),Q4 (by unfold B64;omega),Q7e]
end
section
attribute [local simp] Qi QP Qv Q1l QN
theorem Cat.Is.idl{c:Cat}(hc:c.Is){f x y:Int}(a:Ar c f x y):ix (rx c.cs (ix c.id x)) f=f∧ix (rx c.cs f) (ix c.id y)=f:=by
 obtain⟨i,rfl⟩:=yT a.1.1;have:=hc.2.1 i (by have:=a.1;omega);unfold Cat.un at this;rw[a.2.1,a.2.2]at this;exact this
end
end Go.Vc.T
