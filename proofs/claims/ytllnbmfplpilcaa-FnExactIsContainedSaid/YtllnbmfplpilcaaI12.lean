/- A part of the proof. -/
import Derived.Test.YtllnbmfplpilcaaI11
set_option maxRecDepth 100000
set_option maxHeartbeats 4000000
set_option linter.unusedSimpArgs false
set_option linter.unusedVariables false
set_option linter.unusedSectionVars false
set_option linter.unnecessarySimpa false

open Option.some renaming inj→zC
open Option renaming bind_some→zF
namespace Go.Vc.T
open Go Go.Vc Go.Proofs
attribute [local simp] unk unA unE unT unC flat eL eI Qf Q28 QZ Q6 Cat.cells SF.cells XQuery.cells
noncomputable def Q24 (c_:Cat) (p_:XQuery) (q_:XQuery):Option (Bool × Int) :=
 (
  (Q2d c_ p_).bind fun v2 =>
  if ¬ (v2=true) then
   some true
  else
   (Q2d c_ q_).bind fun v4 =>
   some (!v4):Option (Bool)).bind fun b1 =>
 if b1=true then
  some (false,1)
 else
  (Q19 p_.output_ p_.variables_).bind fun v6 =>
  (Q19 q_.output_ q_.variables_).bind fun v7 =>
  (Q2f v6 v7).bind fun v8 =>
  if ¬ (v8=true) then
   some (false,5)
  else
   (Q1y c_ p_).bind fun v10 =>
   (
    if ¬ (v10.2.2=true) then
     some true
    else
     (Q2R v10.1 q_).bind fun v13 =>
     some (!v13):Option (Bool)).bind fun b11 =>
   if b11=true then
    some (false,3)
   else
    (Q2S v10.1 q_).bind fun v15 =>
    (Q19 p_.output_ v10.2.1).bind fun v16 =>
    (Q1Y v15 v16).bind fun v17 =>
    some (decide (v17 ≥ 0),0)
@[simp] abbrev Yx (a b:XQuery) (c:SF × List Int × Bool) (d:List (Nat × Ent)):List (Nat × Ent):=(0,.mix 4 [(XQuery.cells true a)])::(1,.mix 4 [(XQuery.cells true b)])::(2,.mix 7 [[iV c.1.s.n,.own 3 0 c.1.s.fr.length,.own 4 0 c.1.s.to.length,.own 5 0 c.1.s.id.length,.own 6 0 c.1.s.cs.length,.own 7 0 c.1.sz.length,.own 8 0 c.1.ac.length]])::(3,rI c.1.s.fr)::(4,rI c.1.s.to)::(5,rI c.1.s.id)::(6,.row 1 (Ls c.1.s.cs))::(7,rI c.1.sz)::(8,.row 1 (Ls c.1.ac))::(9,rI c.2.1)::d
theorem Q6l (c_:Cat) (p_:XQuery) (q_:XQuery) (r:Bool × Int) (h:Q24 c_ p_ q_=some r):Contract Try.prog 25 (Y0q c_ p_ [.agg (q_.cells true)]) (.tup [.val (.bool r.1),iV r.2]):=by
 refine Qd (rvs:=[.tmp 6,.tmp 7]) (rs:=[.val (.bool r.1),iV r.2]) Try.func25 rfl rfl rfl rfl (by simp [Try.f25]) fun F hN hP=>?_;unfold Q24 at h;refine Q1 (runQ hN fun K hK=>?_);simp;repeat refine sdQ ?_
 refine hK _ (tn (Q4 (st':=⟨Yq [],Yn c_ p_ [(2,.mix 4 [(XQuery.cells true q_)])],3⟩) (Wk.r1 [(0,0),(1,1),(2,2)] (by simp [hP,hhOk,back,Cat.cells,SF.cells,XQuery.cells,UA,U1,IA,I1,LA,L1,BA,B1,EA,E1,E2,eB,eI,eL,Q5 _ Q6 _ (fun _=>rfl)])) (Q1 (Q1 ?_))));clear hK K;replace ⟨e1,h,h1⟩:=bind_some h;refine Qk (fun b1:Bool=>⟨Yq [(20,.val (.bool b1))],Yn c_ p_ [(2,.mix 4 [(XQuery.cells true q_)])],3⟩) (fun b1=>b1=e1) ?_ ?_
 ·refine runQ hN fun K hK=>?_;simp;repeat with_reducible refine sdQ ?_
  replace ⟨v2,hv2,h⟩:=bind_some h;refine Q3 (Q6m _ _ v2 hv2) (.cons (.aggL (.cons .val (.cons .lst (.cons .lst (.cons .lst (.cons .lst .nil)))))) (.cons (.aggL (.cons .lst (.cons .lst (.cons .lst (.cons .lst .nil))))) .nil)) ?_;simp;repeat with_reducible refine sdQ ?_
  refine QB (fun g=>?_) (fun g=>?_)
  ·have g3:¬ (¬ (v2=true)):=gQ;clear g;replace h:=if_r g3 h;simp;(repeat with_reducible refine sdQ ?_);replace ⟨v4,hv4,h⟩:=bind_some h;refine Q3 (Q6m _ _ v4 hv4) (.cons (.aggL (.cons .val (.cons .lst (.cons .lst (.cons .lst (.cons .lst .nil)))))) (.cons (.aggL (.cons .lst (.cons .lst (.cons .lst (.cons .lst .nil))))) .nil)) ?_;simp;(repeat refine sdQ ?_);refine hK _ ?_;exact jn (b:=!v4) (zC h) (Wk.r1 [(0,0),(1,1),(2,2)] (by simp [hP,hhOk,back,Cat.cells,SF.cells,XQuery.cells,UA,U1,IA,I1,LA,L1,BA,B1,EA,E1,E2,eB,eI,eL,Q5 _ Q6 _ (fun _=>rfl)]))
  have g3:¬ (v2=true):=gQ;clear g;replace h:=if_l g3 h;simp;repeat refine sdQ ?_
  refine hK _ ?_;exact jn (b:=true) (zC h) (Wk.r1 [(0,0),(1,1),(2,2)] (by simp [hP,hhOk,back,Cat.cells,SF.cells,XQuery.cells,UA,U1,IA,I1,LA,L1,BA,B1,EA,E1,E2,eB,eI,eL,Q5 _ Q6 _ (fun _=>rfl)]))
 intro b1 hb1;have h:=h1;try rw [← hb1] at h
 clear h1;try dsimp only at h
 refine Qa rfl (fun g=>?_) fun g=>?_
 ·have g5:b1=true:=gQ;clear g;replace h:=if_l g5 h;refine Q1 (runQ hN fun K hK=>?_);simp;repeat refine sdQ ?_
  refine hK _ (tn (Q4 (st':=⟨Y0h [(7,iV 1)],[],0⟩) (Wk.r1 [] (by simp [hP,hhOk,back,Cat.cells,SF.cells,XQuery.cells,UA,U1,IA,I1,LA,L1,BA,B1,EA,E1,E2,eB,eI,eL,Q5 _ Q6 _ (fun _=>rfl)])) (Ql (tr ?_))));clear hK K;have hr:=zC h;rw [← hr];refine ⟨_,(.tmp (.tmp .nil)),?_⟩;refine ⟨(.one rfl rfl (.one rfl rfl .nil)),[.val (.bool false),iV 1],[],by simp [Cat.cells,SF.cells,XQuery.cells,UA,U1,IA,I1,LA,L1,BA,B1,EA,E1,E2,eB,eI,eL,Q5 _ Q6 _ (fun _=>rfl)],by simp,(UpL.refl _)⟩
 have g5:¬ (b1=true):=gQ;clear g;replace h:=if_r g5 h;refine Qc (tn (Q1 (Q1 (runQ hN fun K hK=>?_))));simp;repeat with_reducible refine sdQ ?_
 replace ⟨v6,hv6,h⟩:=bind_some h;refine Q3 (Q2U _ _ v6 hv6) (.cons .lst (.cons .lst .nil)) ?_;simp;repeat with_reducible refine sdQ ?_
 replace ⟨v7,hv7,h⟩:=bind_some h;refine Q3 (Q2U _ _ v7 hv7) (.cons .lst (.cons .lst .nil)) ?_;simp;repeat with_reducible refine sdQ ?_
 replace ⟨v8,hv8,h⟩:=bind_some h;refine Q3 (Q6o _ _ v8 hv8) (.cons .w (.cons .w .nil)) ?_;simp;repeat refine sdQ ?_
 refine hK _ ?_;clear hK K;refine tn (Q4 (st':=⟨Yq [(32,.val (.bool (!v8)))],Yn c_ p_ [(2,.mix 4 [(XQuery.cells true q_)])],3⟩) (Wk.r1 [(0,0),(1,1),(2,2)] (by simp [hP,hhOk,back,Cat.cells,SF.cells,XQuery.cells,UA,U1,IA,I1,LA,L1,BA,B1,EA,E1,E2,eB,eI,eL,Q5 _ Q6 _ (fun _=>rfl)])) (Qa rfl (fun g=>?_) fun g=>?_))
 ·have g9:¬ (v8=true):=gQ;clear g;replace h:=if_l g9 h;refine Q1 (runQ hN fun K hK=>?_);simp;repeat refine sdQ ?_
  refine hK _ (tn (Q4 (st':=⟨Y0h [(7,iV 5)],[],0⟩) (Wk.r1 [] (by simp [hP,hhOk,back,Cat.cells,SF.cells,XQuery.cells,UA,U1,IA,I1,LA,L1,BA,B1,EA,E1,E2,eB,eI,eL,Q5 _ Q6 _ (fun _=>rfl)])) (Ql (tr ?_))));clear hK K;have hr:=zC h;rw [← hr];refine ⟨_,(.tmp (.tmp .nil)),?_⟩;refine ⟨(.one rfl rfl (.one rfl rfl .nil)),[.val (.bool false),iV 5],[],by simp [Cat.cells,SF.cells,XQuery.cells,UA,U1,IA,I1,LA,L1,BA,B1,EA,E1,E2,eB,eI,eL,Q5 _ Q6 _ (fun _=>rfl)],by simp,(UpL.refl _)⟩
 have g9:¬ (¬ (v8=true)):=gQ;clear g;replace h:=if_r g9 h;refine Qc (tn (Q1 (runQ hN fun K hK=>?_)));simp;repeat with_reducible refine sdQ ?_
 replace ⟨v10,hv10,h⟩:=bind_some h;refine Q3 (Q5v _ _ v10 hv10) (.cons (.aggL (.cons .val (.cons .lst (.cons .lst (.cons .lst (.cons .lst .nil)))))) (.cons (.aggL (.cons .lst (.cons .lst (.cons .lst (.cons .lst .nil))))) .nil)) ?_;simp;repeat refine sdQ ?_
 refine hK _ (tn (Q4 (st':=⟨[(4,.adr 0 0 0),(5,.adr 1 0 0),(8,.adr 2 0 0),(9,.own 9 0 v10.2.1.length),(10,.val (.bool v10.2.2))],Yx p_ q_ v10 [],10⟩) (Wk.r1 [(1,0),(2,1),(12,2),(4,3),(5,4),(6,5),(7,6),(8,7),(9,8),(10,9)] (by simp [hP,hhOk,back,Cat.cells,SF.cells,XQuery.cells,UA,U1,IA,I1,LA,L1,BA,B1,EA,E1,E2,eB,eI,eL,Q5 _ Q6 _ (fun _=>rfl)])) (Q1 (Q1 ?_))));clear hK K;replace ⟨e11,h,h11⟩:=bind_some h;refine Qk (fun b11:Bool=>⟨[(4,.adr 0 0 0),(5,.adr 1 0 0),(8,.adr 2 0 0),(9,.own 9 0 v10.2.1.length),(47,.val (.bool b11))],Yx p_ q_ v10 [],10⟩) (fun b11=>b11=e11) ?_ ?_
 ·refine runQ hN fun K hK=>?_;simp;repeat with_reducible refine sdQ ?_
  refine QB (fun g=>?_) (fun g=>?_)
  ·have g12:¬ (¬ (v10.2.2=true)):=gQ;clear g;replace h:=if_r g12 h;simp;(repeat with_reducible refine sdQ ?_);replace ⟨v13,hv13,h⟩:=bind_some h;refine Q3 (Q9g _ _ v13 hv13) (.cons (.aggL (.cons .val (.cons .w (.cons .w (.cons .w (.cons .w (.cons .w (.cons .w .nil)))))))) (.cons (.aggL (.cons .lst (.cons .lst (.cons .lst (.cons .lst .nil))))) .nil)) ?_;simp;(repeat refine sdQ ?_);refine hK _ ?_;exact jn (b:=!v13) (zC h) (Wk.r1 [(0,0),(1,1),(2,2),(3,3),(4,4),(5,5),(6,6),(7,7),(8,8),(9,9)] (by simp [hP,hhOk,back,Cat.cells,SF.cells,XQuery.cells,UA,U1,IA,I1,LA,L1,BA,B1,EA,E1,E2,eB,eI,eL,Q5 _ Q6 _ (fun _=>rfl)]))
  have g12:¬ (v10.2.2=true):=gQ;clear g;replace h:=if_l g12 h;simp;repeat refine sdQ ?_
  refine hK _ ?_;exact jn (b:=true) (zC h) (Wk.r1 [(0,0),(1,1),(2,2),(3,3),(4,4),(5,5),(6,6),(7,7),(8,8),(9,9)] (by simp [hP,hhOk,back,Cat.cells,SF.cells,XQuery.cells,UA,U1,IA,I1,LA,L1,BA,B1,EA,E1,E2,eB,eI,eL,Q5 _ Q6 _ (fun _=>rfl)]))
 intro b11 hb11;have h:=h11;try rw [← hb11] at h
 clear h11;try dsimp only at h
 refine Qa rfl (fun g=>?_) fun g=>?_
 ·have g14:b11=true:=gQ;clear g;replace h:=if_l g14 h;refine Q1 (runQ hN fun K hK=>?_);simp;repeat refine sdQ ?_
  refine hK _ (tn (Q4 (st':=⟨Y0h [(7,iV 3)],[],0⟩) (Wk.r1 [] (by simp [hP,hhOk,back,Cat.cells,SF.cells,XQuery.cells,UA,U1,IA,I1,LA,L1,BA,B1,EA,E1,E2,eB,eI,eL,Q5 _ Q6 _ (fun _=>rfl)])) (Ql (tr ?_))));clear hK K;have hr:=zC h;rw [← hr];refine ⟨_,(.tmp (.tmp .nil)),?_⟩;refine ⟨(.one rfl rfl (.one rfl rfl .nil)),[.val (.bool false),iV 3],[],by simp [Cat.cells,SF.cells,XQuery.cells,UA,U1,IA,I1,LA,L1,BA,B1,EA,E1,E2,eB,eI,eL,Q5 _ Q6 _ (fun _=>rfl)],by simp,(UpL.refl _)⟩
 have g14:¬ (b11=true):=gQ;clear g;replace h:=if_r g14 h;refine Qc (tn (Q1 (runQ hN fun K hK=>?_)));simp;repeat with_reducible refine sdQ ?_
 replace ⟨v15,hv15,h⟩:=bind_some h;refine Q3 (Q9h _ _ v15 hv15) (.cons (.aggL (.cons .val (.cons .w (.cons .w (.cons .w (.cons .w (.cons .w (.cons .w .nil)))))))) (.cons (.aggL (.cons .lst (.cons .lst (.cons .lst (.cons .lst .nil))))) .nil)) ?_;simp;repeat with_reducible refine sdQ ?_
 replace ⟨v16,hv16,h⟩:=bind_some h;refine Q3 (Q2U _ _ v16 hv16) (.cons .lst (.cons .w .nil)) ?_;simp;repeat with_reducible refine sdQ ?_
 replace ⟨v17,hv17,h⟩:=bind_some h;refine Q3 (Q5n _ _ v17 hv17) (.cons .w (.cons .w .nil)) ?_;simp;repeat refine sdQ ?_
 refine hK _ (tn (Q4 (st':=⟨[(6,.val (.bool (decide (v17 ≥ 0)))),(7,iV 0)],[],0⟩) (Wk.r1 [] (by simp [hP,hhOk,back,Cat.cells,SF.cells,XQuery.cells,UA,U1,IA,I1,LA,L1,BA,B1,EA,E1,E2,eB,eI,eL,Q5 _ Q6 _ (fun _=>rfl)])) (Ql ?_)));clear hK K;have hr:=zC h;rw [← hr];refine ⟨_,(.tmp (.tmp .nil)),?_⟩;refine ⟨(.one rfl rfl (.one rfl rfl .nil)),[.val (.bool (decide (v17 ≥ 0))),iV 0],[],by simp [Cat.cells,SF.cells,XQuery.cells,UA,U1,IA,I1,LA,L1,BA,B1,EA,E1,E2,eB,eI,eL,Q5 _ Q6 _ (fun _=>rfl)],by simp,(UpL.refl _)⟩
section
attribute [local simp] Qh QF Qs QT QE
theorem posL_in (L:List (List Int)) (x:List Int):decide (posL L x ≥ 0)=bo (x∈L):=by
 refine Q3n ?_;rw [decide_eq_true_eq];unfold posL;rcases Q4z L.length (fun i=>rx L i=x) with ⟨h1,h2⟩|⟨k,hk,hp,h1⟩
 ·rw [h1];refine ⟨fun h=>by omega,fun h=>?_⟩;obtain ⟨i,hi,rfl⟩:=List.getElem_of_mem h;exact absurd (Q29 _ _ hi).symm (h2 i hi)
 rw [h1];refine ⟨fun _=>?_,fun _=>by omega⟩;rw [← hp];exact Q6A hk
noncomputable def rwN (OS:List Int) (M:Nat→Prop) (k:Nat):List (List Int):=((List.range k).filter fun n:Nat=>bo (M n)).map fun n:Nat=>atT OS (n:Int)
theorem rwN_pos {OS:List Int} {M:Nat→Prop} {k:Nat} (h:M k):rwN OS M (k+1)=rwN OS M k++[atT OS (k:Int)]:=by simp [rwN,List.range_succ,List.filter_append,QX h]
theorem rwN_neg {OS:List Int} {M:Nat→Prop} {k:Nat} (h:¬ M k):rwN OS M (k+1)=rwN OS M k:=by simp [rwN,List.range_succ,List.filter_append,QH h]
theorem rwN_len (OS:List Int) (M:Nat→Prop) (k:Nat):(rwN OS M k).length≤k:=by
 have:=List.length_filter_le (fun n:Nat=>bo (M n)) (List.range k);simpa [rwN] using this
theorem mem_rw {OS:List Int} {M:Nat→Prop} {k:Nat} {T:List Int}:T∈rwN OS M k↔∃ n:Nat,n<k∧M n∧T=atT OS (n:Int):=by
 simp only [rwN,List.mem_map,List.mem_filter,List.mem_range,Q5p];constructor
 ·rintro ⟨e,⟨h1,h2⟩,rfl⟩;exact ⟨e,h1,h2,rfl⟩
 rintro ⟨e,h1,h2,rfl⟩;exact ⟨e,⟨h1,h2⟩,rfl⟩
section
variable {c:Cat} {q:XQuery} {F:SF}
theorem out_in (hq:QIs c q) {i:Nat} (hi:i<q.output_.length):0≤ix q.output_ i∧ix q.output_ i<(q.variables_.length:Int):=inR_ix hq.out i hi
theorem outM (hq:QIs c q) {n:Nat} (hn:n=q.variables_.length):∀ y∈q.output_,0≤y∧y<(n:Int):=by
 subst hn;exact mem_bnd fun j hj=>out_in hq hj
noncomputable def osQ (q:XQuery) (F:SF):List Int:=QG q.output_ (QG q.variables_ F.sz)
theorem os_at (hq:QIs c q) (hF:FQ c F) {i:Nat} (hi:i<q.output_.length):∃ j:Nat,ix q.output_ i=(j:Int)∧j<q.variables_.length∧ix (osQ q F) i=ix (QG q.variables_ F.sz) j∧ix (osQ q F) i=ix F.sz (ix q.variables_ (ix q.output_ i)):=by
 have o:=out_in hq hi;refine ⟨(ix q.output_ i).toNat,by omega,by omega,?_,?_⟩
 ·unfold osQ;rw [Q4F _ _ (by omega) (by omega),Int.toNat_of_nonneg o.1]
 unfold osQ;rw [Q4F _ _ (by omega) (by omega),Q4F _ _ o.1 o.2]
theorem os_sz (hq:QIs c q) (hF:FQ c F):SzQ (osQ q F):=by
 refine ⟨by unfold osQ;rw [QS];exact hq.nout,fun i hi=>?_⟩;unfold osQ at hi;rw [QS] at hi;obtain ⟨j,e1,e2,e3,e4⟩:=os_at hq hF hi;rw [e3];exact (szQ hq hF).b j (by rw [QS];exact e2)
theorem os_tup (hq:QIs c q) (hF:FQ c F) {T:List Int} (hT:TupQ (QG q.variables_ F.sz) T):TupQ (osQ q F) (QG q.output_ T):=by
 refine ⟨by unfold osQ;rw [QS,QS],fun i hi=>?_⟩;unfold osQ at hi;rw [QS] at hi;obtain ⟨j,e1,e2,e3,e4⟩:=os_at hq hF hi;rw [e3,Q4F _ _ (by omega) (by omega),e1];exact hT.b j (by rw [QS];exact e2)
theorem so_tup (hq:QIs c q) (hF:FQ c F) {T:List Int} (h:T∈soN q F (QG q.variables_ F.sz) (prN (QG q.variables_ F.sz) (QG q.variables_ F.sz).length).toNat):TupQ (QG q.variables_ F.sz) T:=by
 obtain ⟨n,h1,h2,rfl⟩:=mem_so.1 h;exact at_tup (szQ hq hF) (by omega) (by omega)
def mkQ (q:XQuery) (F:SF) (L:List (List Int)) (k n:Nat):Prop:=∃ j:Nat,j<k∧hoN (osQ q F) (QG q.output_ (rx L j)) (osQ q F).length=(n:Int)
theorem e_rows (hq:QIs c q) (hF:FQ c F) (h4:prN (QG q.variables_ F.sz) (QG q.variables_ F.sz).length≤4096):∃ rows,Q2S F q=some rows∧rows.length≤65536∧∀ x,x∈rows↔∃ T∈soN q F (QG q.variables_ F.sz) (prN (QG q.variables_ F.sz) (QG q.variables_ F.sz).length).toNat,QG q.output_ T=x:=by
 have hv:=hq.v.len;have ho:=hq.nout;have hz:=szQ hq hF;have oz:=os_sz hq hF;have p:=Q3K oz (Nat.le_refl _);have ol:(osQ q F).length=q.output_.length:=by unfold osQ;rw [QS]
 have st:∀ T∈soN q F (QG q.variables_ F.sz) (prN (QG q.variables_ F.sz) (QG q.variables_ F.sz).length).toNat,TupQ (QG q.variables_ F.sz) T:=fun T h=>so_tup hq hF h;have sl:=Q7r (q:=q) (F:=F) (QG q.variables_ F.sz) (prN (QG q.variables_ F.sz) (QG q.variables_ F.sz).length).toNat;unfold Q2S;rw [e_solS hq hF h4];simp only [zF];generalize soN q F (QG q.variables_ F.sz) (prN (QG q.variables_ F.sz) (QG q.variables_ F.sz).length).toNat=L at *;obtain ⟨N,hN⟩:∃ N:Nat,prN (osQ q F) (osQ q F).length=(N:Int):=⟨(prN (osQ q F) (osQ q F).length).toNat,by omega⟩;have tup:∀ j:Nat,j<L.length→TupQ (osQ q F) (QG q.output_ (rx L j)):=fun j hj=>os_tup hq hF (st _ (Q6A hj));refine ⟨rwN (osQ q F) (mkQ q F L L.length) N,?_,by have:=rwN_len (osQ q F) (mkQ q F L L.length) N;omega,fun x=>?_⟩
 ·refine QN q.output_.length (fun k=>(osQ q F).take k) (e:=osQ q F) rfl (by omega) (fun i hi=>?_) (by
   simp only;rw [if_neg (by omega),← ol,List.take_length]) ?_
  ·obtain ⟨j,e1,e2,e3,e4⟩:=os_at hq hF hi;have w:=var_sz hq hF e2;have v:=(hq.v.at' j e2).1;have o:=out_in hq hi;simp only;rw [if_pos (by omega),Q2 (by omega),Q2 o,Q2 (by rw [e1,v];omega),Q2 (by simp;omega),Q2 (by unfold B64;omega),← e4,List.take_succ_eq_append_getElem (by omega),Q1d _ _ (by omega)]
  rw [Q77 oz];simp only [zF];rw [hN,Q2 (by omega),Int.toNat_natCast];refine QN L.length (fun k=>tab N fun n=>bo (mkQ q F L k n)) (e:=tab N fun n=>bo (mkQ q F L L.length n)) ?_ (by omega) (fun i hi=>?_) (by simp only;rw [if_neg (by omega)]) ?_
  ·refine List.ext_getElem (by simp) fun i h1 h2=>?_;simp [tab]
   rintro ⟨j,hj,_⟩
   omega
  ·have t:=tup i hi;have b:=Qan t (osQ q F).length (Nat.le_refl _);have stl:=st _ (Q6A hi);have ll:=stl.len;rw [QS] at ll;simp only;rw [if_pos (by omega),Q2 (by omega)];unfold Q19;rw [Q2 (by omega),Q2 (outM hq ll)];simp only [zF];rw [e_numQ oz t];simp only [zF];rw [Q2 (by simp;omega),Q2 (by unfold B64;omega),Q5H (by omega)];refine congrArg (fun z=>some (Ctl.next (z,(i:Int)+1))) ?_;unfold tab;refine List.map_congr_left fun n hn=>?_
   by_cases e:n=(hoN (osQ q F) (QG q.output_ (rx L i)) (osQ q F).length).toNat
   ·rw [if_pos e,QX];exact ⟨i,by omega,by omega⟩
   rw [if_neg e];refine bo_iff2 ⟨fun ⟨j,hj,h⟩=>⟨j,by omega,h⟩,fun ⟨j,hj,h⟩=>?_⟩
   by_cases ej:j=i
   ·subst ej;omega
   exact ⟨j,by omega,h⟩
  refine QN N (fun k=>rwN (osQ q F) (mkQ q F L L.length) k) (e:=rwN (osQ q F) (mkQ q F L L.length) N) (by simp [rwN]) (by omega) (fun i hi=>?_) (by simp only;rw [if_neg (by omega)]) rfl;have rl:=rwN_len (osQ q F) (mkQ q F L L.length) i;have g:gx (tab N fun n=>bo (mkQ q F L L.length n)) (i:Int)=bo (mkQ q F L L.length i):=Q4Z hi _;simp only;rw [if_pos (by omega),Q2 (by simp;omega),g]
  by_cases m:mkQ q F L L.length i
  ·rw [if_pos (QX m),e_atS oz (by omega) (by omega)];simp only [zF];rw [Q2 (by simp;omega)];simp only [zF];rw [Q2 (by unfold B64;omega),rwN_pos m]
  rw [if_neg (by rw [Q5p];exact m)];simp only [zF];rw [Q2 (by unfold B64;omega),rwN_neg m]
 rw [mem_rw];constructor
 ·rintro ⟨n,h1,⟨j,hj,h2⟩,rfl⟩
  refine ⟨rx L j,Q6A hj,?_⟩;rw [← h2];exact (at_ho (tup j hj)).symm
 rintro ⟨T,hT,rfl⟩
 obtain ⟨j,hj,rfl⟩:=List.getElem_of_mem hT;rw [Q29 _ _ hj] at hT ⊢;have t:=tup j hj;have b:=Qan t (osQ q F).length (Nat.le_refl _);refine ⟨(hoN (osQ q F) (QG q.output_ (rx L j)) (osQ q F).length).toNat,by omega,⟨j,hj,by omega⟩,?_⟩;rw [Int.toNat_of_nonneg b.1];exact (at_ho t).symm
theorem find_row (hq:QIs c q) {L:List (List Int)} (hl:L.length≤65536) (ht:∀ T∈L,T.length=q.variables_.length) (x:List Int):((QA (σ:=Int) (ε:=Unit ⊕ (Bool × Int)) (fun s19 =>
      if s19<(L.length:Int) then
       ass (0≤s19∧s19<(L.length:Int)) <|
       (Q1T q.output_ (rx L s19)).bind fun v22 =>
       (Q31 v22 x).bind fun v23 =>
       if v23=true then
        some (Ctl.ret (Sum.inr (true,0)))
       else
        ass (B64 (s19+1)) <|
        some (Ctl.next (s19+1))
      else
       some (Ctl.ret (Sum.inl ()))) fuel 0).bind fun e12 =>
     match e12 with
     | .inl b12=>some (false,0)
     | .inr p12=>some p12)=some (bo (∃ T∈L,QG q.output_ T=x),(0:Int)):=by
 have ho:=hq.nout;have st:∀ i:Nat,i<L.length→Q1T q.output_ (rx L i)=some (QG q.output_ (rx L i)):=by
  intro i hi;unfold Q1T;rw [Q2 (by omega),Q2 (outM hq (ht _ (Q6A hi)))]
 refine Q42 L.length (fun i=>QG q.output_ (rx L i)=x) (eb:=fun _=>Sum.inr (true,0)) (eg:=Sum.inl ()) (by omega) (fun i hi hp=>?_) (fun i hi hp=>?_) (by rw [if_neg (by omega)]) (fun m hm hp hlt=>?_) fun hn=>?_
 ·rw [if_pos (by omega),Q2 (by omega),st i hi];unfold Q31;simp only [zF];rw [if_neg (by simpa using hp),Q2 (by unfold B64;omega)]
 ·rw [if_pos (by omega),Q2 (by omega),st i hi];unfold Q31;simp only [zF];rw [if_pos (by simpa using hp)]
 ·simp only;rw [QX ⟨_,Q6A hm,hp⟩]
 simp only;rw [QH]
 rintro ⟨T,hT,h⟩
 obtain ⟨i,hi,rfl⟩:=List.getElem_of_mem hT;rw [Q29 _ _ hi] at h;exact hn i hi h
end
theorem Q7g (c:Cat) (p q:XQuery):∃ r,Q24 c p q=some r∧Q23 c p q=some r:=by
 unfold Q24 Q23;have e1:(c.Is∧∀ i:Nat,i < [p,q].length→QIs c (gx [p,q] i))↔(c.Is∧QIs c p∧QIs c q):=by
  refine and_congr_right fun _=>⟨fun h=>⟨h 0 (by simp),h 1 (by simp)⟩,fun h i hi=>?_⟩;have hi:i<2:=hi;have:i=0∨i=1:=by omega
  rcases this with rfl|rfl
  ·exact h.1
  exact h.2
 rw [Q7E,Q7E,e_areQ c [p,q] (by simp)];simp only [e1,zF]
 by_cases hp:c.Is∧QIs c p
 case neg =>
  refine ⟨(false,1),?_,?_⟩
  ·rw [QH hp,if_pos (by simp)];rfl
  rw [QH fun h=>hp ⟨h.1,h.2.1⟩,if_pos (by simp)]
 by_cases hq:c.Is∧QIs c q
 case neg =>
  refine ⟨(false,1),?_,?_⟩
  ·rw [QX hp,if_neg (by simp),QH hq];rfl
  rw [QH fun h=>hq ⟨h.1,h.2.2⟩,if_pos (by simp)]
 obtain ⟨hc,hp⟩:=hp;obtain ⟨_,hq⟩:=hq;rw [QX ⟨hc,hp⟩,QX ⟨hc,hq⟩,QX ⟨hc,hp,hq⟩,if_neg (by simp),if_neg (by simp)];simp only [zF,Bool.not_true,Bool.false_eq_true,if_false];have np:=hp.nout;have nq:=hq.nout;unfold Q19 Q1T Q2f Q31;rw [Q2 (by omega),Q2 (outM hp rfl),Q2 (by omega),Q2 (outM hq rfl)];simp only [zF]
 by_cases hs:QG p.output_ p.variables_=QG q.output_ q.variables_
 case neg=>exact ⟨(false,5),by rw [if_pos (by simpa using hs)],by rw [if_pos (by simpa using hs)]⟩
 rw [if_neg (by simpa using hs),if_neg (by simpa using hs)];obtain ⟨R,hR,hk,es⟩:=e_canonS hc hp;rw [es];simp only [zF]
 by_cases hf:Q2X c p R
 case neg =>
  have hf':¬ mad (quoZ (clsF c p R) (clsF c p R).length)=0:=hf;rw [(Q9w hc hp hR hk).2 hf];refine ⟨(false,3),?_,rfl⟩;rw [if_pos (by simpa using hf')];rfl
 have hf':mad (quoZ (clsF c p R) (clsF c p R).length)=0:=hf;have hF:=canon_fq (q:=p) hc hf;obtain ⟨m,hm,ei⟩:=(Q9w hc hp hR hk).1 hf;rw [ei,if_neg (by simpa using hf'),e_fitsS hq hF];simp only [zF];have eF:(⟨⟨c.n,c.fr,c.to,c.id,c.cs⟩,(quoF (QM c p.variables_) (clsF c p R)).sz,(quoF (QM c p.variables_) (clsF c p R)).ac⟩:SF)=quoF (QM c p.variables_) (clsF c p R):=rfl;have gl:(genQ c p R).length=p.variables_.length:=by simp [genQ]
 have eg:QR ⟨p,quoF (QM c p.variables_) (clsF c p R),m⟩=some (genQ c p R):=e_generic hc hp hm;rw [eF,e_solI hq hF]
 by_cases h4:prN (QG q.variables_ (quoF (QM c p.variables_) (clsF c p R)).sz) (QG q.variables_ (quoF (QM c p.variables_) (clsF c p R)).sz).length≤4096
 case neg =>
  refine ⟨(false,3),?_,?_⟩
  ·rw [QH h4];rfl
  rw [if_neg h4];rfl
 obtain ⟨rows,r1,r2,r3⟩:=e_rows hq hF h4;have sl:=Q7r (q:=q) (F:=quoF (QM c p.variables_) (clsF c p R)) (QG q.variables_ (quoF (QM c p.variables_) (clsF c p R)).sz) (prN (QG q.variables_ (quoF (QM c p.variables_) (clsF c p R)).sz) (QG q.variables_ (quoF (QM c p.variables_) (clsF c p R)).sz).length).toNat;have st:∀ T∈soN q (quoF (QM c p.variables_) (clsF c p R)) (QG q.variables_ (quoF (QM c p.variables_) (clsF c p R)).sz) (prN (QG q.variables_ (quoF (QM c p.variables_) (clsF c p R)).sz) (QG q.variables_ (quoF (QM c p.variables_) (clsF c p R)).sz).length).toNat,T.length=q.variables_.length:=fun T h=>by
  have:=(so_tup hq hF h).len
  rwa [QS] at this
 rw [QX h4,if_pos h4,r1];simp only [zF];rw [eg];simp only [zF];rw [if_neg (by simp),if_neg (by simp),Q2 (by omega),Q2 (outM hp gl)];simp only [zF];rw [Q9z (by omega)];simp only [zF];have fr:=find_row hq (L:=soN q (quoF (QM c p.variables_) (clsF c p R)) (QG q.variables_ (quoF (QM c p.variables_) (clsF c p R)).sz) (prN (QG q.variables_ (quoF (QM c p.variables_) (clsF c p R)).sz) (QG q.variables_ (quoF (QM c p.variables_) (clsF c p R)).sz).length).toNat) (by omega) st (QG p.output_ (genQ c p R));refine ⟨_,rfl,?_⟩;rw [posL_in,bo_iff2 (r3 _)];exact fr
end
end Go.Vc.T
