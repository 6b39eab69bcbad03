/- A part of the proof. -/
import Derived.Test.YtllnbmfplpilcaaI7
set_option maxRecDepth 100000
set_option maxHeartbeats 4000000
set_option linter.unusedSimpArgs false
set_option linter.unusedVariables false
set_option linter.unusedSectionVars false
set_option linter.unnecessarySimpa false

open List renaming getD_eq_getElem?_getD→qB
open Option.some renaming inj→zC
open Option renaming bind_some→zF
open List renaming replicate→qW
open Nat renaming le_refl→qD
open List renaming length_append→qE
open List renaming getElem?_eq_getElem→qF
open List renaming range→zD
open Classical renaming byContradiction→zG
open List renaming length_cons→qG
open Option renaming getD_some→qY
open List renaming take_succ_eq_append_getElem→zH
open List renaming length_nil→zB
open List renaming getElem_mem→zI
open Int renaming toNat_natCast→zJ
open List renaming length_map→zL
open List renaming filter_append→zM
open List renaming length_filter_le→zN
open List renaming range_succ→zK
namespace Go.Vc.T
open Go Go.Vc Go.Proofs
section
attribute [local simp] Qh QF Qs QT QE
theorem flt_pre {p:Nat→Prop} {y:Nat} (hp:p y):∀ i,y<i→∃ s,flt i p=flt y p++(y:Int) :: s:=by
 intro i
 induction i with
 | zero=>intro h;omega
 | succ i ih =>
  intro h
  by_cases q:y=i
  ·subst q;exact ⟨[],by rw [Q79 hp]⟩
  obtain ⟨s,e⟩:=ih (by omega)
  by_cases hi:p i
  ·exact ⟨s++[(i:Int)],by rw [Q79 hi,e];simp⟩
  exact ⟨s,by rw [Q8C hi,e]⟩
noncomputable def cn (r:Nat→Nat) (k:Nat):Nat:=(flt k fun y=>r y=y).length
theorem Q9s {r:Nat→Nat} {k:Nat} (h:r k=k):cn r (k+1)=cn r k+1:=by unfold cn;rw [Q79 (p:=fun y=>r y=y) h];simp
theorem cn_neg {r:Nat→Nat} {k:Nat} (h:¬ r k=k):cn r (k+1)=cn r k:=by unfold cn;rw [Q8C (p:=fun y=>r y=y) h]
theorem cn_le (r:Nat→Nat) (k:Nat):cn r k≤k:=flt_len _ _
theorem cn_lt {r:Nat→Nat} {y i:Nat} (h:r y=y) (hi:y<i):cn r y<cn r i:=by
 obtain ⟨s,e⟩:=flt_pre (p:=fun y=>r y=y) h i hi;unfold cn;rw [e];simp
noncomputable def cls (r:Nat→Nat) (n:Nat):List Int:=tab n fun x=>(cn r (r x):Int)
noncomputable def lds (r:Nat→Nat) (n:Nat):List Int:=flt n fun y=>r y=y
noncomputable def idxL (L:List Int) (v:Int):Int:=fstN L.length fun i=>ix L i=v
theorem Q9y {L:List Int} {v:Int} (hl:L.length≤1000000):Q1f L v=some (idxL L v):=by
 unfold Q1f;refine fstI L.length (fun i=>ix L i=v) (fun i=>Sum.inr i) (Sum.inl ()) (by omega) (fun i hi=>?_) (by rw [if_neg (by omega)]) ?_
 ·rw [if_pos (by omega),Q2 (by omega)]
  by_cases q:ix L i=v
  ·rw [if_pos q,QX q];rfl
  rw [if_neg q,QH q,Q2 (by unfold B64;omega)];rfl
 unfold idxL;rcases Q4z L.length (fun i=>ix L i=v) with ⟨e,_⟩|⟨k,_,_,e⟩
 ·rw [e];simp
 rw [e,if_pos (by omega)]
theorem idx_no {L:List Int} {v:Int} (h:v ∉ L):idxL L v = -1:=fst_no fun i hi e=>h (by rw [← e,← Q1d _ _ hi];exact zI hi)
theorem lds_mem {r:Nat→Nat} {n:Nat} {z:Int}:z∈lds r n↔∃ k:Nat,k<n∧r k=k∧z=(k:Int):=mem_flt
theorem seen_idx {L:List Int} {r:Nat→Nat} {n i:Nat} (hr:∀ x,x<n→r x≤x∧r (r x)=r x) (hq:∀ x y:Nat,x<n→y<n→(ix L x=ix L y↔r x=r y)) (hi:i<n):idxL ((lds r i).map (ix L)) (ix L i)=if r i=i then -1 else (cn r (r i):Int):=by
 have h:=hr i hi
 by_cases q:r i=i
 ·rw [if_pos q];refine idx_no fun z=>?_;obtain ⟨w,hw,e⟩:=List.mem_map.1 z;obtain ⟨k,hk,pk,rfl⟩:=lds_mem.1 hw;have:=(hq k i (by omega) hi).1 e;omega
 rw [if_neg q];obtain ⟨s,e⟩:=flt_pre (p:=fun y=>r y=y) h.2 i (by omega);have e':lds r i=lds r (r i)++(r i:Int) :: s:=e;have l1:(lds r (r i)).length=cn r (r i):=rfl;unfold idxL;refine fst_eq (by rw [e'];simp [l1]) ?_ fun k hk z=>?_
 ·have:ix ((lds r i).map (ix L)) (cn r (r i):Nat)=ix L (r i:Nat):=by
   rw [e',← l1];simp [ix,qB]
  rw [this];exact (hq (r i) i (by omega) hi).2 h.2
 have hk':k<(lds r (r i)).length:=hk;have e2:ix ((lds r i).map (ix L)) k=ix L (ix (lds r (r i)) k):=by
  rw [e',List.map_append];simp only [ix,qB,zJ];rw [List.getElem?_append_left (by simpa using hk')];simp [hk',ix]
 obtain ⟨w,hw,pw,ew⟩:=lds_mem.1 (show ix (lds r (r i)) k∈lds r (r i) by rw [← Q1d _ _ hk'];exact zI hk');rw [e2,ew] at z;have:=(hq w i (by omega) hi).1 z;omega
theorem e_l01Cls {L:List Int} {r:Nat→Nat} {n:Nat} (hl:L.length=n) (hr:∀ x,x<n→r x≤x∧r (r x)=r x) (hq:∀ x y:Nat,x<n→y<n→(ix L x=ix L y↔r x=r y)) (hn:n≤1000):Q1R L=some (cls r n):=by
 unfold Q1R;refine nrun_bind (σ:=List Int × List Int × Int) n (fun i=>(cls r i,(lds r i).map (ix L),(i:Int))) rfl (by omega) (fun i hi=>?_) (e:=cls r n) ?_ rfl
 ·have h:=hr i hi;have l1:(lds r i).length=cn r i:=rfl;have l2:=cn_le r i;simp only;rw [if_pos (by omega),Q2 (by omega),Q9y (by simp;omega),seen_idx hr hq hi];simp only [zF]
  by_cases q:r i=i
  ·rw [if_pos q,if_pos (by omega),Q2 (by omega),Q2 (by simp;omega)];simp only [zF];rw [Q2 (by simp [cls];omega),Q2 (by unfold B64;omega)];have e2:cls r (i+1)=cls r i++[(((lds r i).map (ix L)).length:Int)]:=(by unfold cls;rw [Q1U,q,zL,l1]);have e3:(lds r (i+1)).map (ix L)=(lds r i).map (ix L)++[ix L i]:=(by unfold lds;rw [Q79 (p:=fun y=>r y=y) q];simp);rw [e2,e3];rfl
  rw [if_neg q,if_neg (by omega)];simp only [zF];rw [Q2 (by simp [cls];omega),Q2 (by unfold B64;omega)];have e2:cls r (i+1)=cls r i++[(cn r (r i):Int)]:=by unfold cls;rw [Q1U]
  have e3:lds r (i+1)=lds r i:=by unfold lds;rw [Q8C (p:=fun y=>r y=y) q]
  rw [e2,e3];rfl
 simp only;rw [if_neg (by omega)]
theorem tset_new {α β:Type} [DecidableEq α] (k:α) (v:β):∀ m:List (α × β),QV k m=none→(tset k v m).length=m.length+1:=by
 intro m
 induction m with
 | nil=>intro _;rfl
 | cons p t ih =>
  intro h;obtain ⟨a,x⟩:=p;unfold QV at h;split at h
  ·cases h
  rename_i q;unfold tset;rw [if_neg q];simp [ih h]
theorem Q45 {α β:Type} [DecidableEq α] (k k':α) (v:β) (m:List (α × β)):QV k (tset k' v m)=if k'=k then some v else QV k m:=by
 induction m with
 | nil=>simp [tset,QV]
 | cons p t ih =>
  obtain ⟨a,x⟩:=p;unfold tset;split
  ·rename_i h1;subst h1
   by_cases h2:a=k<;>simp [QV,h2]
  rename_i h1;simp only [QV,ih]
  by_cases h2:a=k
  ·subst h2;rw [if_pos rfl,if_neg (fun e=>h1 e.symm),if_pos rfl]
  rw [if_neg h2,if_neg h2]
end
section
attribute [local simp] Qh QF Qs QT QE
structure UI (c:Cat) (j:List Int) (r:Nat→Nat) (i:Nat):Prop where
 u:UF j r c.id.length
 io:∀ x,x<c.id.length→Io c (r x) x
 st:∀ a:Nat,a<i→0≤inv c a→r (ix c.fr a).toNat=r (ix c.to a).toNat
theorem UF.rr {j:List Int} {r:Nat→Nat} {n x:Nat} (h:UF j r n) (hx:x<n):r (r x)=r x:=h.tip (r x) (by have:=h.le x hx;omega) (h.fix x hx)
end
attribute [local simp] unk unA unE unT unC flat eL eI Qf
noncomputable def Q2e (n_:Int) (pairs_:List (List Int)):Option (List Int) :=
 (QA (σ:=List Int × Int) (ε:=List Int) (fun s5 =>
  if s5.2<n_ then
   ass ((s5.1++[s5.2]).length≤1073741824) <|
   ass (B64 (s5.2+1)) <|
   some (Ctl.next (s5.1++[s5.2],s5.2+1))
  else
   some (Ctl.ret s5.1)) fuel ([],0)).bind fun b1 =>
 (QA (σ:=List Int × Int) (ε:=List Int) (fun s36 =>
  if s36.2<(pairs_.length:Int) then
   (
    ass (0≤s36.2∧s36.2<(pairs_.length:Int)) <|
    ass ((0:Int)≤0∧0<((rx pairs_ s36.2).length:Int)) <|
    ass (0≤ix (rx pairs_ s36.2) 0∧ix (rx pairs_ s36.2) 0<(s36.1.length:Int)) <|
    ass (0≤s36.2∧s36.2<(pairs_.length:Int)) <|
    ass ((0:Int)≤1∧1<((rx pairs_ s36.2).length:Int)) <|
    ass (0≤ix (rx pairs_ s36.2) 1∧ix (rx pairs_ s36.2) 1<(s36.1.length:Int)) <|
    (QA (σ:=List Int × Int) (ε:=List Int) (fun s53 =>
     (
      if s53.2<(s53.1.length:Int) then
       some ((ix s36.1 (ix (rx pairs_ s36.2) 0)) != (ix s36.1 (ix (rx pairs_ s36.2) 1)))
      else
       some false:Option (Bool)).bind fun b54 =>
     if b54=true then
      (
       ass (0≤s53.2∧s53.2<(s53.1.length:Int)) <|
       if (ix s53.1 s53.2)=(ix s36.1 (ix (rx pairs_ s36.2) 1)) then
        ass (0≤s53.2∧s53.2<(s53.1.length:Int)) <|
        some (s53.1.set s53.2.toNat (ix s36.1 (ix (rx pairs_ s36.2) 0)))
       else
        some s53.1:Option (List Int)).bind fun b57 =>
      ass (B64 (s53.2+1)) <|
      some (Ctl.next (b57,s53.2+1))
     else
      some (Ctl.ret s53.1)) fuel (s36.1,0)).bind fun p53 =>
    some p53:Option (List Int)).bind fun b38 =>
   ass (B64 (s36.2+1)) <|
   some (Ctl.next (b38,s36.2+1))
  else
   some (Ctl.ret s36.1)) fuel (b1,0)).bind fun b9 =>
 (Q1R b9).bind fun v63 =>
 some v63
theorem wkQ8 {F : Fx} {st st' : St} (m : List (Nat × Nat)) (h : (m.map Prod.fst).Nodup ∧ (m.map Prod.snd).Nodup ∧ (∀ id, id < F.pins → look id m = some id) ∧ (∀ p ∈ m, p.2 < st'.n) ∧ (∀ p ∈ st'.h, p.1 < st'.n) ∧ (∀ p ∈ st'.s, p.2 = rl m (st.get p.1) ∨ p.2 = .bot) ∧ ∀ p ∈ st'.h, hhOk m st.h p.1 p.2 := by simp [hP, hhOk, back, idQ, UA, U1, IA, I1, LA, L1, BA, B1, EA, E1, E2, eB, eI, eL, SF.cells, Cat.cells, XQuery.cells, XTerm.cells, Q5 _ Q6 _ (fun _=>rfl), Q5 _ Qe _ (fun _=>rfl)]) : Wk F st st' := Wk.r1 m h
theorem wkI8 {F : Fx} {st st' : St} (m : Nat) (h : ((idQ m).map Prod.fst).Nodup ∧ ((idQ m).map Prod.snd).Nodup ∧ (∀ id, id < F.pins → look id (idQ m) = some id) ∧ (∀ p ∈ (idQ m), p.2 < st'.n) ∧ (∀ p ∈ st'.h, p.1 < st'.n) ∧ (∀ p ∈ st'.s, p.2 = rl (idQ m) (st.get p.1) ∨ p.2 = .bot) ∧ ∀ p ∈ st'.h, hhOk (idQ m) st.h p.1 p.2 := by simp [hP, hhOk, back, idQ, UA, U1, IA, I1, LA, L1, BA, B1, EA, E1, E2, eB, eI, eL, SF.cells, Cat.cells, XQuery.cells, XTerm.cells, Q5 _ Q6 _ (fun _=>rfl), Q5 _ Qe _ (fun _=>rfl)]) : Wk F st st' := Wk.r1 (idQ m) h
@[simp] abbrev YH (a:List Int × Int) (b:List (List Int)) (c:List (Nat × AV)):List (Nat × AV):=(7,iV a.2)::(8,iV (ix a.1 (ix (rx b a.2) 0)))::(9,iV (ix a.1 (ix (rx b a.2) 1)))::c
@[simp] abbrev Y0d (a:List (List Int)) (b:List Int × Int) (c:List (Nat × AV)):List (Nat × AV):=(1,.lst true 1 (Ls a))::(5,.own 0 0 b.1.length)::c
theorem Q6n (n_:Int) (pairs_:List (List Int)) (r:List Int) (h:Q2e n_ pairs_=some r):Contract Try.prog 64 [iV n_,.lst true 1 (Ls pairs_)] (lI r):=by
 refine Qd (rvs:=[.tmp 4]) (rs:=[lI r]) Try.func64 rfl rfl rfl rfl (by simp [Try.f64]) fun F hN hP=>?_;unfold Q2e at h;refine Q1 (runQ hN fun K hK=>?_);simp;repeat refine sdQ ?_
 refine hK _ ?_;clear hK K;refine tn (Q4 (st':=⟨[(0,iV n_),(1,.lst true 1 (Ls pairs_))],[],0⟩) (wkQ8 []) (Q1 (runQ hN fun K hK=>?_)));simp;repeat refine sdQ ?_
 refine hK _ ?_;clear hK K;refine tn (Q4 (st':=⟨[(0,iV n_),(1,.lst true 1 (Ls pairs_)),(5,.own 0 0 0)],[(0,.mix 1 [])],1⟩) (wkQ8 [(0,0)]) (Q1 (Q1 (runQ hN fun K hK=>?_))));simp;repeat refine sdQ ?_
 refine hK _ (tn (Q4 (st':=⟨[(0,iV n_),(1,.lst true 1 (Ls pairs_)),(5,.own 0 0 0),(6,iV 0)],[(0,.mix 1 [])],1⟩) (wkQ8 [(0,0)]) ?_));clear hK K;replace ⟨e1,h,h1⟩:=bind_some h;refine Qk (fun b1:List Int=>⟨[(1,.lst true 1 (Ls pairs_)),(5,.own 0 0 b1.length)],[(0,rI b1)],1⟩) (fun b1=>b1=e1) ?_ ?_
 ·refine Q7 (Qu h (fun s5:List Int × Int=>⟨(0,iV n_)::Y0d pairs_ s5 [(6,iV s5.2)],[(0,rI s5.1)],1⟩) (Q2V ⟨[(0,iV n_),(1,.lst true 1 (Ls pairs_)),(5,.own 0 0 0),(6,iV 0)],[(0,rI [])],1⟩ (Wk.nils [] (by simp) (by simp) (by simp [nlA]) (by simp [entN,nlL,nlA,UA,U1,IA,I1,LA,L1,BA,B1,EA,E1,E2,eB,eI,eL]) (by simp)) (wkQ8 [(0,0)])) ?_);clear h;intro k5 s5 c5 h hk5;refine Q1 (Q1 (runQ hN fun K hK=>?_));simp;repeat refine sdQ ?_
  refine hK _ ?_;clear hK K;refine tn (Qa rfl (fun g=>?_) fun g=>?_)
  ·have g6:s5.2<n_:=gQ;clear g;replace h:=if_l g6 h;refine Qc (tn (Q1 (Q7 (runQ hN fun K hK=>?_))));replace ⟨a7,h⟩:=Q0 h;(try simp only [qE,qG,zB] at a7);simp [a7];(repeat refine sdQ ?_);refine hK _ ?_;clear hK K;refine bn (tn (Q4 (st':=⟨[(0,iV n_),(1,.lst true 1 (Ls pairs_)),(5,.own 0 0 ((s5.1++[s5.2]).length)),(6,iV s5.2)],[(0,rI (s5.1++[s5.2]))],1⟩) (wkQ8 [(2,0)]) (runQ hN fun K hK=>?_)));replace ⟨a8,h⟩:=Q0 h;simp [Qm a8];(repeat refine sdQ ?_);refine hK _ ?_;clear hK K;cases h;exact rn (s':=(s5.1++[s5.2],s5.2+1)) hk5 (wkQ8 [(0,0)])
  have g6:¬ (s5.2<n_):=gQ;clear g;replace h:=if_r g6 h;refine Qp (tx (lx (bh ?_)));cases h;exact jn (b:=s5.1) hk5 (wkQ8 [(0,0)])
 intro b1 hb1;have h:=h1;try rw [← hb1] at h
 clear h1;try dsimp only at h
 refine Q1 (Q1 (runQ hN fun K hK=>?_));simp;repeat refine sdQ ?_
 refine hK _ (tn (Q4 (st':=⟨[(1,.lst true 1 (Ls pairs_)),(5,.own 0 0 b1.length),(7,iV 0)],[(0,rI b1)],1⟩) (wkQ8 [(0,0)]) ?_));clear hK K;replace ⟨e9,h,h9⟩:=bind_some h;refine Qk (fun b9:List Int=>⟨[(5,.own 0 0 b9.length)],[(0,rI b9)],1⟩) (fun b9=>b9=e9) ?_ ?_
 ·refine Q7 (Qu h (fun s36:List Int × Int=>⟨Y0d pairs_ s36 [(7,iV s36.2)],[(0,rI s36.1)],1⟩) (wkQ8 [(0,0)]) ?_);clear h;intro k36 s36 c36 h hk36;refine Q1 (Q1 (runQ hN fun K hK=>?_));simp;repeat refine sdQ ?_
  refine hK _ ?_;clear hK K;refine tn (Qa rfl (fun g=>?_) fun g=>?_)
  ·have g37:s36.2<(pairs_.length:Int):=gQ;clear g;replace h:=if_l g37 h;refine Qc (tn (Q1 ?_));replace ⟨e38,h,h38⟩:=bind_some h;refine Qk (fun b38:List Int=>⟨[(1,.lst true 1 (Ls pairs_)),(5,.own 0 0 b38.length),(7,iV s36.2)],[(0,rI b38)],1⟩) (fun b38=>b38=e38) ?_ ?_
   ·refine Q7 (Q1 (runQ hN fun K hK=>?_));replace ⟨a39,h⟩:=Q0 h;replace ⟨a40,h⟩:=Q0 h;replace ⟨a41,h⟩:=Q0 h;replace ⟨a42,h⟩:=Q0 h;replace ⟨a43,h⟩:=Q0 h;replace ⟨a44,h⟩:=Q0 h;simp [at_L a39,(show (Is (rx pairs_ s36.2))[0]? = some [iV (ix (rx pairs_ s36.2) 0)] from at_I (j:=0) a40),at_I a41,at_L a42,(show (Is (rx pairs_ s36.2))[1]? = some [iV (ix (rx pairs_ s36.2) 1)] from at_I (j:=1) a43),at_I a44];(repeat refine sdQ ?_);refine hK _ ?_;clear hK K;refine tn (Q4 (st':=⟨Y0d pairs_ s36 (YH s36 pairs_ []),[(0,rI s36.1)],1⟩) (wkQ8 [(0,0)]) (Q1 (runQ hN fun K hK=>?_)));simp;(repeat refine sdQ ?_);refine hK _ (tn (Q4 (st':=⟨Y0d pairs_ s36 (YH s36 pairs_ [(10,iV 0)]),[(0,rI s36.1)],1⟩) (wkQ8 [(0,0)]) (Q7 ?_)));clear hK K;replace ⟨e53,he53,h53⟩:=bind_some h;refine Qu he53 (fun s53:List Int × Int=>⟨Y0d pairs_ s53 (YH s36 pairs_ [(10,iV s53.2)]),[(0,rI s53.1)],1⟩) (wkQ8 [(0,0)]) ?_;intro k53 s53 c53 h hk53;refine Q1 (Q1 ?_);replace ⟨e54,h,h54⟩:=bind_some h;refine Qk (fun b54:Bool=>⟨Y0d pairs_ s53 (YH s36 pairs_ [(10,iV s53.2),(53,.val (.bool b54))]),[(0,rI s53.1)],1⟩) (fun b54=>b54=e54) ?_ ?_
    ·refine runQ hN fun K hK=>?_;simp;(repeat with_reducible refine sdQ ?_);refine QB (fun g=>?_) (fun g=>?_)
     ·have g55:s53.2<(s53.1.length:Int):=gQ;clear g;replace h:=if_l g55 h;simp;(repeat refine sdQ ?_);refine hK _ ?_;exact jn (b:=(ix s36.1 (ix (rx pairs_ s36.2) 0)) != (ix s36.1 (ix (rx pairs_ s36.2) 1))) (zC h) (wkQ8 [(0,0)])
     have g55:¬ (s53.2<(s53.1.length:Int)):=gQ;clear g;replace h:=if_r g55 h;simp;(repeat refine sdQ ?_);refine hK _ ?_;exact jn (b:=false) (zC h) (wkQ8 [(0,0)])
    intro b54 hb54;have h:=h54;(try rw [← hb54] at h);clear h54;(try dsimp only at h);refine Qa rfl (fun g=>?_) fun g=>?_
    ·have g56:b54=true:=gQ;clear g;replace h:=if_l g56 h;refine Qc (tn (Q1 ?_));replace ⟨e57,h,h57⟩:=bind_some h;refine Qk (fun b57:List Int=>⟨(1,.lst true 1 (Ls pairs_))::(5,.own 0 0 b57.length)::YH s36 pairs_ [(10,iV s53.2)],[(0,rI b57)],1⟩) (fun b57=>b57=e57) ?_ ?_
     ·refine Q7 (Q1 (runQ hN fun K hK=>?_));replace ⟨a58,h⟩:=Q0 h;simp [at_I a58];(repeat refine sdQ ?_);refine hK _ ?_;clear hK K;refine tn (Qa rfl (fun g=>?_) fun g=>?_)
      ·have g59:(ix s53.1 s53.2)=(ix s36.1 (ix (rx pairs_ s36.2) 1)):=gQ;clear g;replace h:=if_l g59 h;refine runQ hN fun K hK=>?_;replace ⟨a60,h⟩:=Q0 h;simp [at_I a60];(repeat refine sdQ ?_);refine hK _ (bn ?_);clear hK K;exact jn (b:=s53.1.set s53.2.toNat (ix s36.1 (ix (rx pairs_ s36.2) 0))) (zC h) (wkQ8 [(0,0)])
      have g59:¬ ((ix s53.1 s53.2)=(ix s36.1 (ix (rx pairs_ s36.2) 1))):=gQ;clear g;replace h:=if_r g59 h;refine Qc (bn ?_);exact jn (b:=s53.1) (zC h) (wkQ8 [(0,0)])
     intro b57 hb57;have h:=h57;(try rw [← hb57] at h);clear h57;(try dsimp only at h);refine runQ hN fun K hK=>?_;replace ⟨a61,h⟩:=Q0 h;simp [Qm a61];(repeat refine sdQ ?_);refine hK _ ?_;clear hK K;cases h;exact rn (s':=(b57,s53.2+1)) hk53 (wkQ8 [(0,0)])
    have g56:¬ (b54=true):=gQ;clear g;replace h:=if_r g56 h;refine Qp (tx (lx (bh (bn ?_))));cases h;have q:_=e53:=hk53;have h:=h53;rw [← q] at h;clear q;(try dsimp only at h);exact jn (b:=s53.1) (zC h) (wkQ8 [(0,0)])
   intro b38 hb38;have h:=h38;(try rw [← hb38] at h);clear h38;(try dsimp only at h);refine runQ hN fun K hK=>?_;replace ⟨a62,h⟩:=Q0 h;simp [Qm a62];(repeat refine sdQ ?_);refine hK _ ?_;clear hK K;cases h;exact rn (s':=(b38,s36.2+1)) hk36 (wkQ8 [(0,0)])
  have g37:¬ (s36.2<(pairs_.length:Int)):=gQ;clear g;replace h:=if_r g37 h;refine Qp (tx (lx (bh ?_)));cases h;exact jn (b:=s36.1) hk36 (wkQ8 [(0,0)])
 intro b9 hb9;have h:=h9;try rw [← hb9] at h
 clear h9;try dsimp only at h
 refine Q1 (runQ hN fun K hK=>?_);simp;repeat with_reducible refine sdQ ?_
 replace ⟨v63,hv63,h⟩:=bind_some h;refine Q3 (Q6x _ v63 hv63) (.cons .w .nil) ?_;simp;repeat refine sdQ ?_
 refine hK _ (tn (Q4 (st':=⟨[(4,.own 0 0 v63.length)],[(0,rI v63)],1⟩) (wkQ8 [(1,0)]) (Ql ?_)));clear hK K;have hr:=zC h;rw [← hr];refine ⟨_,(.tmp .nil),?_⟩;refine ⟨(.one rfl rfl .nil),[lI v63],[0],by simp [UA,U1,IA,I1,LA,L1,BA,B1,EA,E1,E2,eB,eI,eL],by simp,(UpL.refl _)⟩
section
attribute [local simp] Qh QF Qs QT QE
structure PP (c:Cat) (L:List (List Int)) (i k:Nat):Prop where
 a:∀ p∈L,∃ y x:Nat,p=[(y:Int),(x:Int)]∧Io c x y
 b:∀ y x:Nat,y<x→x<i→Io c x y→[(y:Int),(x:Int)]∈L
 d:∀ y:Nat,y<k→Io c i y→[(y:Int),(i:Int)]∈L
 len:L.length≤i * 8+k
def rlb (l:List Int) (a b:Int) (i:Nat):List Int:=tab l.length fun z:Nat=>if z<i∧ix l z=b then a else ix l z
theorem tab_ix (l:List Int):tab l.length (fun z:Nat=>ix l z)=l:=by
 refine List.ext_getElem (by simp) fun i h1 h2=>?_;rw [Q1d l i h2];simp [tab]
theorem rlb_zero (l:List Int) (a b:Int):rlb l a b 0=l:=by
 have:rlb l a b 0=tab l.length (fun z:Nat=>ix l z):=Q6i fun i _=>by simp
 rw [this,tab_ix]
theorem rlb_all (l:List Int) (a b:Int):rlb l a b l.length=tab l.length fun z:Nat=>if ix l z=b then a else ix l z:=Q6i fun i hi=>by simp [hi]
theorem rlb_hit {l:List Int} {a b:Int} {i:Nat} (h:ix l i=b):(rlb l a b i).set i a=rlb l a b (i+1):=by
 refine List.ext_getElem (by simp [rlb]) fun j h1 h2=>?_;simp only [rlb,tab,List.getElem_set,List.getElem_map,List.getElem_range]
 by_cases e:i=j
 ·subst e;simp [h]
 have:(j<i)=(j<i+1):=propext ⟨fun _=>by omega,fun _=>by omega⟩;simp [e,this]
theorem rlb_miss {l:List Int} {a b:Int} {i:Nat} (h:¬ ix l i=b):rlb l a b i=rlb l a b (i+1):=Q6i fun j _=>by
 by_cases e:i=j
 ·subst e;simp [h]
 have:(j<i)=(j<i+1):=propext ⟨fun _=>by omega,fun _=>by omega⟩;simp [this]
structure LB (c:Cat) (l:List Int) (P:List (List Int)) (k:Nat):Prop where
 len:l.length=c.id.length
 io:∀ x y:Nat,x<c.id.length→y<c.id.length→ix l x=ix l y→Io c x y
 st:∀ q:Nat,q<k→∀ y x:Nat,rx P q=[(y:Int),(x:Int)]→ix l y=ix l x
end
section
attribute [local simp] Qh QF Qs QT QE
def jnr (r:Nat→Nat) (a b:Nat):Nat→Nat:=fun z=>if r z=max (r a) (r b) then min (r a) (r b) else r z
def RR (P:List (List Int)):Nat→Nat:=P.foldl (fun r p=>jnr r (ix p 0).toNat (ix p 1).toNat) fun z=>z
theorem RR_snoc (P:List (List Int)) (p:List Int):RR (P++[p])=jnr (RR P) (ix p 0).toNat (ix p 1).toNat:=by simp [RR]
theorem UF.jn {j:List Int} {r:Nat→Nat} {n a b:Nat} (h:UF j r n) (ha:a<n) (hb:b<n):UF (j.set (max (r a) (r b)) ((min (r a) (r b):Nat):Int)) (jnr r a b) n:=by
 have la:=h.le a ha;have lb:=h.le b hb;have e1:r (min (r a) (r b))=min (r a) (r b):=by
  rcases Nat.le_total (r a) (r b) with q|q
  ·rw [Nat.min_eq_left q];exact h.rr ha
  rw [Nat.min_eq_right q];exact h.rr hb
 have e2:r (max (r a) (r b))=max (r a) (r b):=by
  rcases Nat.le_total (r a) (r b) with q|q
  ·rw [Nat.max_eq_right q];exact h.rr hb
  rw [Nat.max_eq_left q];exact h.rr ha
 exact h.join (a:=min (r a) (r b)) (b:=max (r a) (r b)) (by omega) (by omega) e1 e2 (by omega)
theorem UF_id {n:Nat}:UF (iota n) (fun z=>z) n :=
 ⟨by simp,fun x hx=>by rw [Q5Y _ (by omega) (by omega)];omega,fun x _=>qD _,fun x hx=>Q5Y _ (by omega) (by omega),fun x hx=>by rw [Q5Y _ (by omega) (by omega)];simp,fun x _ _=>rfl⟩
def Prs (n:Nat) (P:List (List Int)):Prop:=∀ p∈P,∃ a b:Nat,a<n∧b<n∧p=[(a:Int),(b:Int)]
theorem Prs.at {n:Nat} {P:List (List Int)} (h:Prs n P) {i:Nat} (hi:i<P.length):∃ a b:Nat,a<n∧b<n∧P[i]=[(a:Int),(b:Int)]:=h _ (zI hi)
theorem Q8u {P:List (List Int)} {i:Nat} (hi:i<P.length) {a b:Nat} (e:P[i]=[(a:Int),(b:Int)]):RR (P.take (i+1))=jnr (RR (P.take i)) a b:=by
 rw [zH hi,RR_snoc,e];rfl
theorem RR_ufk {n:Nat} {P:List (List Int)} (h:Prs n P):∀ k,k≤P.length→∃ j,UF j (RR (P.take k)) n:=by
 intro k
 induction k with
 | zero=>intro _;exact ⟨iota n,UF_id⟩
 | succ k ih =>
  intro hk;obtain ⟨j,u⟩:=ih (by omega);obtain ⟨a,b,ha,hb,e⟩:=h.at (i:=k) (by omega);rw [Q8u (by omega) e];exact ⟨_,u.jn ha hb⟩
theorem RR_uf {n:Nat} {P:List (List Int)} (h:Prs n P):∃ j,UF j (RR P) n:=by
 have:=RR_ufk h P.length (qD _)
 rwa [List.take_length] at this
theorem RR_ok {n:Nat} {P:List (List Int)} (h:Prs n P):∀ x,x<n→RR P x≤x∧RR P (RR P x)=RR P x:=by
 obtain ⟨j,u⟩:=RR_uf h;exact fun x hx=>⟨u.le x hx,u.rr hx⟩
theorem Q9I {l l2:List Int} {r:Nat→Nat} {n a b:Nat} (h:∀ x y:Nat,x<n→y<n→(ix l x=ix l y↔r x=r y)) (ha:a<n) (hb:b<n) (e:∀ z:Nat,z<n→ix l2 z=if ix l z=ix l b then ix l a else ix l z) :
  ∀ x y:Nat,x<n→y<n→(ix l2 x=ix l2 y↔jnr r a b x=jnr r a b y):=by
 intro x y hx hy;rw [e x hx,e y hy];have h1:=h x y hx hy;have h2:=h x a hx ha;have h3:=h x b hx hb;have h4:=h y a hy ha;have h5:=h y b hy hb;have h6:=h a b ha hb;unfold jnr;split<;>split<;>split<;>split<;>omega
theorem e_joinG {n:Nat} {P:List (List Int)} (hp:Prs n P) (hn:n≤1000) (hl:P.length≤100000000):Q2e (n:Int) P=some (cls (RR P) n):=by
 unfold Q2e;refine tabg n (fun i:Nat=>(i:Int)) (e:=iota n) (by omega) (fun i hi=>by simp only;rw [if_pos (by omega)]) (by simp only;rw [if_neg (by omega)];rfl) (Q1p (σ:=List Int × Int) (Q:=fun z=>z=some (cls (RR P) n)) P.length (fun i s=>s.2=(i:Int)∧s.1.length=n∧∀ x y:Nat,x<n→y<n→(ix s.1 x=ix s.1 y↔RR (P.take i) x=RR (P.take i) y)) (fun l=>l.length=n∧∀ x y:Nat,x<n→y<n→(ix l x=ix l y↔RR P x=RR P y)) (by omega) ⟨rfl,by simp,fun x y hx hy=>?_⟩ ?_ ?_ ?_)
 ·rw [Q5Y _ (by omega) (by omega),Q5Y _ (by omega) (by omega)];simp [RR];omega
 ·rintro i ⟨l,k⟩ hi ⟨hk,hll,h⟩
  simp only at hk h hll;subst hk;obtain ⟨y,x,hy,hx,ep0⟩:=hp.at hi;have ep:rx P i=[(y:Int),(x:Int)]:=by rw [← ep0];simp [rx,qB,hi]
  have h0:ix [(y:Int),(x:Int)] 0=y:=rfl;have h1:ix [(y:Int),(x:Int)] 1=x:=rfl;simp only;rw [if_pos (by omega),Q2 (by omega),ep,h0,h1,Q2 (by simp),Q2 (by omega),Q2 (by omega),Q2 (by simp),Q2 (by omega)];rw [Q8u hi ep0]
  by_cases q:ix l y=ix l x
  ·have run:(QA (σ:=List Int × Int) (ε:=List Int) (fun s53 =>
     (
      if s53.2<(s53.1.length:Int) then
       some ((ix l y) != (ix l x))
      else
       some false:Option (Bool)).bind fun b54 =>
     if b54=true then
      (
       ass (0≤s53.2∧s53.2<(s53.1.length:Int)) <|
       if (ix s53.1 s53.2)=(ix l x) then
        ass (0≤s53.2∧s53.2<(s53.1.length:Int)) <|
        some (s53.1.set s53.2.toNat (ix l y))
       else
        some s53.1:Option (List Int)).bind fun b57 =>
      ass (B64 (s53.2+1)) <|
      some (Ctl.next (b57,s53.2+1))
     else
      some (Ctl.ret s53.1)) fuel (l,0))=some l:=by
    refine Q5z (fun _=>l) 0 rfl (by omega) (fun z hz=>by omega) ?_;simp only [q,bne_self_eq_false];split<;>simp
   rw [run];simp only [zF];rw [Q2 (by unfold B64;omega)];refine .inl ⟨_,rfl,by push_cast;rfl,hll,Q9I h hy hx fun z hz=>?_⟩;simp only;split
   ·rename_i f;rw [f,q]
   rfl
  have run:(QA (σ:=List Int × Int) (ε:=List Int) (fun s53 =>
    (
     if s53.2<(s53.1.length:Int) then
      some ((ix l y) != (ix l x))
     else
      some false:Option (Bool)).bind fun b54 =>
    if b54=true then
     (
      ass (0≤s53.2∧s53.2<(s53.1.length:Int)) <|
      if (ix s53.1 s53.2)=(ix l x) then
       ass (0≤s53.2∧s53.2<(s53.1.length:Int)) <|
       some (s53.1.set s53.2.toNat (ix l y))
      else
       some s53.1:Option (List Int)).bind fun b57 =>
     ass (B64 (s53.2+1)) <|
     some (Ctl.next (b57,s53.2+1))
    else
     some (Ctl.ret s53.1)) fuel (l,0))=some (tab n fun z:Nat=>if ix l z=ix l x then ix l y else ix l z):=by
   refine Q5z (fun i=>rlb l (ix l y) (ix l x) i) n (rlb_zero _ _ _).symm (by omega) (fun z hz=>?_) ?_
   ·have gl:(rlb l (ix l y) (ix l x) z).length=l.length:=(by simp [rlb]);have gz:ix (rlb l (ix l y) (ix l x) z) z=ix l z:=by
     unfold rlb;rw [Q4k _ _ (by omega)];simp
    simp only;rw [if_pos (by omega)];simp only [zF];rw [if_pos (by simpa using q),Q2 (by omega),gz]
    by_cases f:ix l z=ix l x
    ·rw [if_pos f,Q2 (by omega)];simp only [zF,zJ];rw [Q2 (by unfold B64;omega),rlb_hit f]
    rw [if_neg f];simp only [zF];rw [Q2 (by unfold B64;omega),rlb_miss f]
   have gl:(rlb l (ix l y) (ix l x) n).length=l.length:=(by simp [rlb]);simp only;rw [if_neg (by omega)];simp only [zF,Bool.false_eq_true,if_false];rw [← hll,rlb_all]
  rw [run];simp only [zF];rw [Q2 (by unfold B64;omega)];exact .inl ⟨_,rfl,by push_cast;rfl,by simp,Q9I h hy hx fun z hz=>Q4k _ _ hz⟩
 ·rintro ⟨l,k⟩ ⟨hk,hll,h⟩
  simp only at hk h hll;subst hk;rw [List.take_length] at h;simp only;rw [if_neg (by omega)];exact ⟨_,rfl,hll,h⟩
 rintro l ⟨hll,h⟩
 rw [e_l01Cls hll (RR_ok hp) h (by omega)];rfl
end
section
attribute [local simp] Qh QF Qs QT QE
theorem QaT {α β:Type} [DecidableEq α] (k k':α) (v:β) (m:List (α × β)):QV k (tset k' v m)=if k'=k then some v else QV k m:=by
 induction m with
 | nil=>simp [tset,QV]
 | cons p r ih =>
  obtain ⟨a,x⟩:=p;unfold tset
  by_cases h:a=k'
  ·subst h;rw [if_pos rfl]
   by_cases h2:a=k<;>simp [QV,h2]
  rw [if_neg h];simp only [QV,ih]
  by_cases h2:a=k
  ·subst h2;rw [if_pos rfl,if_pos rfl,if_neg (fun e=>h e.symm)]
  rw [if_neg h2,if_neg h2]
theorem Qa9 {α β:Type} [DecidableEq α] (k:α) (v:β) (m:List (α × β)):(tset k v m).length≤m.length+1:=by
 induction m with
 | nil=>simp [tset]
 | cons p r ih =>
  obtain ⟨a,x⟩:=p;unfold tset;split<;>simp;exact ih
def plM {α:Type} [DecidableEq α] (k:Nat→α):Nat→List (α × Int)
 | 0=>[]
 | n+1=>tset (k n) (n:Int) (plM k n)
theorem plM_len {α:Type} [DecidableEq α] (k:Nat→α) (n:Nat):(plM k n).length≤n:=by
 induction n with
 | zero=>simp [plM]
 | succ n ih=>exact Nat.le_trans (Qa9 _ _ _) (by omega)
theorem plM_find {α:Type} [DecidableEq α] {k:Nat→α} {n:Nat} (h:∀ a b,a<n→b<n→k a=k b→a=b) {j:Nat} (hj:j<n):QV (k j) (plM k n)=some (j:Int):=by
 induction n with
 | zero=>omega
 | succ n ih =>
  rw [plM,QaT]
  by_cases e:k n=k j
  ·rw [if_pos e,h n j (by omega) hj e]
  rw [if_neg e];have:j ≠ n:=fun q=>e (by rw [q]);exact ih (fun a b ha hb=>h a b (by omega) (by omega)) (by omega)
structure Keyed (L:List (List Int)):Prop where
 nd:L.Nodup
 sm:∀ x∈L,∀ a∈x,0≤a∧a<256
noncomputable def posL (L:List (List Int)) (x:List Int):Int:=fstN L.length fun i=>rx L i=x
theorem Q6A {L:List (List Int)} {i:Nat} (h:i<L.length):rx L i∈L:=by
 rw [← Q29 _ _ h];exact zI h
theorem Keyed.inj {L:List (List Int)} (h:Keyed L) {i j:Nat} (hi:i<L.length) (hj:j<L.length) (e:rx L i=rx L j):i=j:=by
 rw [← Q29 _ _ hi,← Q29 _ _ hj] at e;rcases Nat.lt_trichotomy i j with q|q|q
 ·exact absurd e (List.pairwise_iff_getElem.1 h.nd i j hi hj q)
 ·exact q
 exact absurd e.symm (List.pairwise_iff_getElem.1 h.nd j i hj hi q)
theorem Q42 {ε β:Type} {body:Int→Option (Ctl Int ε)} {K:ε→Option β} {r:Option β} (n:Nat) (p:Nat→Prop) {eb:Nat→ε} {eg:ε} (hn:n<4611686018427387904) (h1:∀ i:Nat,i<n→¬ p i→body (i:Int)=some (.next ((i:Int)+1))) (h2:∀ i:Nat,i<n→p i→body (i:Int)=some (.ret (eb i))) (h3:body (n:Int)=some (.ret eg))
  (hb:∀ m,m<n→p m→(∀ k,k<m→¬ p k)→K (eb m)=r) (hg:(∀ i,i<n→¬ p i)→K eg=r):(QA body fuel 0).bind K=r:=by
 rcases Q7f n (fun i=>¬ p i) hn h1 (fun i hi h=>h2 i hi (zG h)) h3 with ⟨h,e⟩|⟨m,hm,hq,hlt,e⟩
 ·rw [e];exact hg h
 rw [e];exact hb m hm (zG hq) hlt
end
section
attribute [local simp] Qh QF Qs QT QE
structure NT (f g:Fn):Prop where
 hf:f.Is
 hg:g.Is
 e:f.t=g.t
end
section
attribute [local simp] Qh QF Qs QT QE
noncomputable def frN (c:Cat) (b:Nat):Nat:=(ix c.fr b).toNat
noncomputable def toN (c:Cat) (b:Nat):Nat:=(ix c.to b).toNat
theorem Q1o {c:Cat} (hc:c.Is) {b:Nat} (hb:b<c.fr.length):ix c.fr b=(frN c b:Int)∧frN c b<c.id.length∧ix c.to b=(toN c b:Int)∧toN c b<c.id.length:=by
 have e:=hc.ends (a:=b) (by omega);have n:=hc.nums;unfold frN toN;omega
end
section
attribute [local simp] Qh QF Qs QT QE
noncomputable def joinE (j:List Int) (a b:Int):Option (List Int × Bool) :=
 ((QA (σ:=List Int × Int) (ε:=List Int × Int) (fun s64 =>
        ass (0≤s64.2∧s64.2<(s64.1.length:Int)) <|
        if ¬ ((ix s64.1 s64.2)=s64.2) then
         ass (0≤s64.2∧s64.2<(s64.1.length:Int)) <|
         ass (0≤ix s64.1 s64.2∧ix s64.1 s64.2<(s64.1.length:Int)) <|
         ass (0≤s64.2∧s64.2<(s64.1.length:Int)) <|
         ass (0≤s64.2∧s64.2<((s64.1.set s64.2.toNat (ix s64.1 (ix s64.1 s64.2))).length:Int)) <|
         some (Ctl.next (s64.1.set s64.2.toNat (ix s64.1 (ix s64.1 s64.2)),ix (s64.1.set s64.2.toNat (ix s64.1 (ix s64.1 s64.2))) s64.2))
        else
         some (Ctl.ret (s64.1,s64.2))) fuel (j,a)).bind fun b388 =>
           some (b388.1,b388.2):Option (List Int × Int)).bind fun v403 =>
 ass (v403.1.length=j.length) <|
 ((QA (σ:=List Int × Int) (ε:=List Int × Int) (fun s64 =>
        ass (0≤s64.2∧s64.2<(s64.1.length:Int)) <|
        if ¬ ((ix s64.1 s64.2)=s64.2) then
         ass (0≤s64.2∧s64.2<(s64.1.length:Int)) <|
         ass (0≤ix s64.1 s64.2∧ix s64.1 s64.2<(s64.1.length:Int)) <|
         ass (0≤s64.2∧s64.2<(s64.1.length:Int)) <|
         ass (0≤s64.2∧s64.2<((s64.1.set s64.2.toNat (ix s64.1 (ix s64.1 s64.2))).length:Int)) <|
         some (Ctl.next (s64.1.set s64.2.toNat (ix s64.1 (ix s64.1 s64.2)),ix (s64.1.set s64.2.toNat (ix s64.1 (ix s64.1 s64.2))) s64.2))
        else
         some (Ctl.ret (s64.1,s64.2))) fuel (v403.1,b)).bind fun b406 =>
           some (b406.1,b406.2):Option (List Int × Int)).bind fun v421 =>
 ass (v421.1.length=v403.1.length) <|
 ass (0≤(if v421.2 > v403.2 then v421.2 else v403.2)∧(if v421.2 > v403.2 then v421.2 else v403.2)<(v421.1.length:Int)) <|
 some (v421.1.set ((if v421.2 > v403.2 then v421.2 else v403.2).toNat) (if v421.2<v403.2 then v421.2 else v403.2),v403.2 != v421.2)
theorem join_go {j:List Int} {r:Nat→Nat} {n a b:Nat} (h:UF j r n) (ha:a<n) (hb:b<n) (hn:n≤1000000):∃ j' d,joinE j a b=some (j',d)∧UF j' (jnr r a b) n:=by
 obtain ⟨j1,e1,w1⟩:=Q8T a j fuel h ha (by unfold fuel;omega);obtain ⟨j2,e2,w2⟩:=Q8T b j1 fuel w1 hb (by unfold fuel;omega);have l0:=h.len;have l1:=w1.len;have l2:=w2.len;have ra:=h.le a ha;have rb:=h.le b hb;have u:=w2.jn ha hb;refine ⟨_,(r a:Int) != (r b:Int),?_,u⟩;unfold joinE;rw [e1];simp only [zF];rw [Q2 (by omega),e2];simp only [zF];have m1:(if (r b:Int) > (r a:Int) then (r b:Int) else (r a:Int))=((max (r a) (r b):Nat):Int):=by split<;>omega
 have m2:(if (r b:Int)<(r a:Int) then (r b:Int) else (r a:Int))=((min (r a) (r b):Nat):Int):=by split<;>omega
 rw [Q2 (by omega),m1,m2,Q2 (by omega)];rfl
end
attribute [local simp] unk unA unE unT unC flat eL eI Qf QZ SF.cells
noncomputable def Q2Q (f_:SF):Option Int :=
 (QA (σ:=Int) (ε:=Unit ⊕ Int) (fun s6 =>
  if s6<(f_.sz.length:Int) then
   ass (0≤s6∧s6<(f_.sz.length:Int)) <|
   if (ix f_.sz s6) > 16 then
    some (Ctl.ret (Sum.inr 3))
   else
    ass (B64 (s6+1)) <|
    some (Ctl.next (s6+1))
  else
   some (Ctl.ret (Sum.inl ()))) fuel 0).bind fun e1 =>
 match e1 with
 | .inl b1 =>
  some 0
 | .inr p1 =>
  some p1
theorem Q9f (f_:SF) (r:Int) (h:Q2Q f_=some r):Contract Try.prog 68 [.agg (f_.cells true)] (iV r):=by
 refine Qd (rvs:=[.tmp 2]) (rs:=[iV r]) Try.func68 rfl rfl rfl rfl (by simp [Try.f68]) fun F hN hP=>?_;unfold Q2Q at h;refine Q1 (runQ hN fun K hK=>?_);simp;repeat refine sdQ ?_
 refine hK _ ?_;clear hK K;refine tn (Q4 (st':=⟨[(1,.adr 0 0 0)],[(0,.mix 7 [(SF.cells true f_)])],1⟩) (wkQ8 [(0,0)]) (Q1 (Q1 (runQ hN fun K hK=>?_))));simp;repeat refine sdQ ?_
 refine hK _ (tn (Q4 (st':=⟨[(1,.adr 0 0 0),(3,iV 0)],[(0,.mix 7 [(SF.cells true f_)])],1⟩) (wkQ8 [(0,0)]) ?_));clear hK K;replace ⟨e1,h,h1⟩:=bind_some h;refine Qk (fun b1:Unit=>⟨[],[],0⟩) (fun b1=>Sum.inl b1=e1) ?_ ?_
 ·refine Q7 (Qu h (fun s6:Int=>⟨[(1,.adr 0 0 0),(3,iV s6)],[(0,.mix 7 [(SF.cells true f_)])],1⟩) (wkQ8 [(0,0)]) ?_);clear h;intro k6 s6 c6 h hk6;refine Q1 (Q1 (runQ hN fun K hK=>?_));simp;repeat refine sdQ ?_
  refine hK _ ?_;clear hK K;refine tn (Qa rfl (fun g=>?_) fun g=>?_)
  ·have g7:s6<(f_.sz.length:Int):=gQ;clear g;replace h:=if_l g7 h;refine Qc (tn (Q1 (Q7 (Q1 (runQ hN fun K hK=>?_)))));replace ⟨a8,h⟩:=Q0 h;simp [at_I a8];(repeat refine sdQ ?_);refine hK _ ?_;clear hK K;refine tn (Qa rfl (fun g=>?_) fun g=>?_)
   ·have g9:(ix f_.sz s6) > 16:=gQ;clear g;replace h:=if_l g9 h;refine Q1 (runQ hN fun K hK=>?_);simp;(repeat refine sdQ ?_);refine hK _ (tn (Q4 (st':=⟨[(2,iV 3)],[],0⟩) (wkQ8 []) (Ql (br (tr (lr (br (tr ?_))))))));clear hK K;cases h;have q:_=e1:=hk6;have h:=h1;rw [← q] at h;clear q;(try dsimp only at h);have hr:=zC h;rw [← hr];refine ⟨_,(.tmp .nil),?_⟩;refine ⟨(.one rfl rfl .nil),[iV 3],[],by simp [SF.cells,UA,U1,IA,I1,LA,L1,BA,B1,EA,E1,E2,eB,eI,eL],by simp,(UpL.refl _)⟩
   have g9:¬ ((ix f_.sz s6) > 16):=gQ;clear g;replace h:=if_r g9 h;refine Qc (bn (tn (runQ hN fun K hK=>?_)));replace ⟨a10,h⟩:=Q0 h;simp [Qm a10];(repeat refine sdQ ?_);refine hK _ ?_;clear hK K;cases h;exact rn (s':=s6+1) hk6 (wkQ8 [(0,0)])
  have g7:¬ (s6<(f_.sz.length:Int)):=gQ;clear g;replace h:=if_r g7 h;refine Qp (tx (lx (bh ?_)));cases h;exact jn (b:=()) hk6 (wkQ8 [])
 intro b1 hb1;have h:=h1;try rw [← hb1] at h
 clear h1;try dsimp only at h
 refine Q1 (runQ hN fun K hK=>?_);simp;repeat refine sdQ ?_
 refine hK _ (tn (Q4 (st':=⟨[(2,iV 0)],[],0⟩) (wkQ8 []) (Ql ?_)));clear hK K;have hr:=zC h;rw [← hr];refine ⟨_,(.tmp .nil),?_⟩;refine ⟨(.one rfl rfl .nil),[iV 0],[],by simp [SF.cells,UA,U1,IA,I1,LA,L1,BA,B1,EA,E1,E2,eB,eI,eL],by simp,(UpL.refl _)⟩
section
attribute [local simp] Qh QF Qs QT QE
def mad (xs:List Int):Int:=if xs.all (fun x=>decide (x≤16))=true then 0 else 3
theorem mad_bad {xs:List Int} {i:Nat} (h:i<xs.length) (h2:16<ix xs i):mad xs=3:=by
 unfold mad;rw [if_neg];intro q;rw [List.all_eq_true] at q;have:=q _ (zI h);rw [Q1d _ _ h] at this;simp at this;omega
theorem mad_good {xs:List Int} (h:∀ y:Nat,y<xs.length→ix xs y≤16):mad xs=0:=by
 unfold mad;rw [if_pos];rw [List.all_eq_true];intro x hx;obtain ⟨i,hi,rfl⟩:=List.getElem_of_mem hx;rw [Q1d _ _ hi];simpa using h i hi
theorem Q4C {ε β:Type} {body:Int→Option (Ctl Int ε)} {K:ε→Option β} {r:Option β} (n:Nat) (p:Nat→Prop) {eb:Nat→ε} {eg:ε} (hn:n<4611686018427387904) (h1:∀ i:Nat,i<n→¬ p i→body (i:Int)=some (.next ((i:Int)+1))) (h2:∀ i:Nat,i<n→p i→body (i:Int)=some (.ret (eb i))) (h3:body (n:Int)=some (.ret eg))
  (hb:∀ m,m<n→p m→(∀ k,k<m→¬ p k)→K (eb m)=r) (hg:(∀ i,i<n→¬ p i)→K eg=r):(QA body fuel 0).bind K=r:=by
 rcases Q7f n (fun i=>¬ p i) hn h1 (fun i hi h=>h2 i hi (zG h)) h3 with ⟨h,e⟩|⟨m,hm,hq,hlt,e⟩
 ·rw [e];exact hg h
 rw [e];exact hb m hm (zG hq) hlt
theorem e_l21Made {f:SF} (h:f.sz.length≤1000):Q2Q f=some (mad f.sz):=by
 unfold Q2Q;refine Q4C f.sz.length (fun i=>16<ix f.sz i) (eb:=fun _=>Sum.inr 3) (eg:=Sum.inl ()) (by omega) (fun i hi hp=>?_) (fun i hi hp=>?_) (by simp) (fun m hm hp _=>?_) fun hp=>?_
 ·rw [if_pos (by omega),Q2 (by omega),if_neg hp,Q2 (by unfold B64;omega)]
 ·rw [if_pos (by omega),Q2 (by omega),if_pos hp]
 ·simp only;rw [mad_bad hm hp]
 simp only;rw [mad_good fun y hy=>Int.not_lt.1 (hp y hy)]
end
section
attribute [local simp] Qh QF Qs QT QE
def mvT (L:List SF) (a:Nat) (t:List Int):List Int:=tab L.length fun i:Nat=>ix (rx (gx L i).ac a) (ix t i)
structure TupP (L:List SF) (c:Cat) (E:Nat→List (List Int)):Prop where
 l0:0<L.length
 l2:L.length≤2
 sh:∀ i:Nat,i<L.length→(gx L i).Sh∧(gx L i).s=c
 len:∀ x:Nat,(x:Int)<c.n→(E x).length≤1000
 key:∀ x:Nat,(x:Int)<c.n→Keyed (E x)
 row:∀ x:Nat,(x:Int)<c.n→∀ t∈E x,t.length=L.length∧∀ i:Nat,i<L.length→0≤ix t i∧ix t i<ix (gx L i).sz x
 cl:∀ a:Nat,a<c.fr.length→∀ t∈E (ix c.fr a).toNat,mvT L a t∈E (ix c.to a).toNat
end
attribute [local simp] unk unA unE unT unC flat eL eI Qf Q28 QZ Cat.cells SF.cells
noncomputable def Q1F (f_:SF) (classes_:List (List Int)):Option SF :=
 (Q2G f_.s).bind fun v1 =>
 (QA (σ:=List Int × Int) (ε:=List Int) (fun s20 =>
  if s20.2<(classes_.length:Int) then
   (QA (σ:=Int × Int) (ε:=Int) (fun s29 =>
    ass (0≤s20.2∧s20.2<(classes_.length:Int)) <|
    if s29.2<((rx classes_ s20.2).length:Int) then
     ass (0≤s20.2∧s20.2<(classes_.length:Int)) <|
     ass (0≤s29.2∧s29.2<((rx classes_ s20.2).length:Int)) <|
     ass (B64 ((ix (rx classes_ s20.2) s29.2)+1)) <|
     ass (B64 (s29.2+1)) <|
     some (Ctl.next ((if (ix (rx classes_ s20.2) s29.2)+1 > s29.1 then (ix (rx classes_ s20.2) s29.2)+1 else s29.1),s29.2+1))
    else
     some (Ctl.ret s29.1)) fuel (0,0)).bind fun b22 =>
   ass ((s20.1++[b22]).length≤1073741824) <|
   ass (B64 (s20.2+1)) <|
   some (Ctl.next (s20.1++[b22],s20.2+1))
  else
   some (Ctl.ret s20.1)) fuel ([],0)).bind fun b2 =>
 (QA (σ:=List (List Int) × Int) (ε:=List (List Int)) (fun s68 =>
  if s68.2<(f_.ac.length:Int) then
   ass (0≤s68.2∧s68.2<(f_.s.fr.length:Int)) <|
   ass (0≤s68.2∧s68.2<(f_.s.to.length:Int)) <|
   ass (0≤ix f_.s.fr s68.2∧ix f_.s.fr s68.2<(b2.length:Int)) <|
   ass (0≤ix b2 (ix f_.s.fr s68.2)∧ix b2 (ix f_.s.fr s68.2)≤1073741824) <|
   (QA (σ:=List Int × Int) (ε:=List Int) (fun s85 =>
    ass (0≤ix f_.s.fr s68.2∧ix f_.s.fr s68.2<(classes_.length:Int)) <|
    if s85.2<((rx classes_ (ix f_.s.fr s68.2)).length:Int) then
     ass (0≤ix f_.s.fr s68.2∧ix f_.s.fr s68.2<(classes_.length:Int)) <|
     ass (0≤s85.2∧s85.2<((rx classes_ (ix f_.s.fr s68.2)).length:Int)) <|
     ass (0≤ix f_.s.to s68.2∧ix f_.s.to s68.2<(classes_.length:Int)) <|
     ass (0≤s68.2∧s68.2<(f_.ac.length:Int)) <|
     ass (0≤s85.2∧s85.2<((rx f_.ac s68.2).length:Int)) <|
     ass (0≤ix (rx f_.ac s68.2) s85.2∧ix (rx f_.ac s68.2) s85.2<((rx classes_ (ix f_.s.to s68.2)).length:Int)) <|
     ass (0≤ix (rx classes_ (ix f_.s.fr s68.2)) s85.2∧ix (rx classes_ (ix f_.s.fr s68.2)) s85.2<(s85.1.length:Int)) <|
     ass (B64 (s85.2+1)) <|
     some (Ctl.next (s85.1.set ((ix (rx classes_ (ix f_.s.fr s68.2)) s85.2).toNat) (ix (rx classes_ (ix f_.s.to s68.2)) (ix (rx f_.ac s68.2) s85.2)),s85.2+1))
    else
     some (Ctl.ret s85.1)) fuel (qW ((ix b2 (ix f_.s.fr s68.2)).toNat) 0,0)).bind fun b74 =>
   ass ((s68.1++[b74]).length≤1073741824) <|
   ass (B64 (s68.2+1)) <|
   some (Ctl.next (s68.1++[b74],s68.2+1))
  else
   some (Ctl.ret s68.1)) fuel ([],0)).bind fun b38 =>
 some (⟨v1,b2,b38⟩:SF)
@[simp] abbrev Y0l (a:Cat) (b:List (AV)):List (AV):=iV a.n::.own 3 0 a.fr.length::.own 4 0 a.to.length::.own 5 0 a.id.length::.own 6 0 a.cs.length::b
@[simp] abbrev Y2 (a:Cat) (b:List Int) (c:List (List Int) × Int) (d:List (Nat × Ent)):List (Nat × Ent):=(2,.mix 7 [(Y0l a [.own 7 0 b.length,.own 8 0 c.1.length])])::(3,rI a.fr)::(4,rI a.to)::(5,rI a.id)::(6,.row 1 (Ls a.cs))::(7,rI b)::(8,.row 1 (Ls c.1))::d
@[simp] abbrev Y5 (a:List (Nat × Ent)):List (Nat × Ent):=(0,.mix 7 [[iV 0,nS,nS,nS,nS,nS,nS]])::a
@[simp] abbrev Y9 (a:Cat) (b:List (Nat × Ent)):List (Nat × Ent):=(3,rI a.fr)::(4,rI a.to)::(5,rI a.id)::(6,.row 1 (Ls a.cs))::b
@[simp] abbrev Yc (a:SF) (b:List (Nat × Ent)):List (Nat × Ent):=(0,.mix 7 [(SF.cells true a)])::(1,.mix 7 [[iV 0,nS,nS,nS,nS,nS,nS]])::b
@[simp] abbrev Yi (a:List (List Int)) (b:List (Nat × AV)):List (Nat × AV):=(1,.lst true 1 (Ls a))::(2,.adr 0 0 0)::(4,.adr 1 0 0)::(5,.adr 2 0 0)::b
@[simp] abbrev Yo (a:Cat) (b:List Int × Int) (c:List (Nat × Ent)):List (Nat × Ent):=(2,.mix 7 [(Y0l a [.own 7 0 b.1.length,nS])])::c
@[simp] abbrev Yw (a:Cat) (b:List Int) (c:List (Nat × Ent)):List (Nat × Ent):=(2,.mix 7 [(Y0l a [.own 7 0 b.length,nS])])::c
@[simp] abbrev Yy (a:Cat) (b:List (Nat × Ent)):List (Nat × Ent):=(2,.mix 7 [(Y0l a [nS,nS])])::b
@[simp] abbrev Y0n (a:Cat) (b:List (AV)):List (AV):=iV a.n::.own 2 0 a.fr.length::.own 3 0 a.to.length::.own 4 0 a.id.length::.own 5 0 a.cs.length::b
@[simp] abbrev YQ (a:Cat) (b:List Int) (c:List (List Int)) (d:List (Nat × Ent)):List (Nat × Ent):=(1,.mix 7 [(Y0n a [.own 6 0 b.length,.own 7 0 c.length])])::(2,rI a.fr)::(3,rI a.to)::(4,rI a.id)::(5,.row 1 (Ls a.cs))::(6,rI b)::(7,.row 1 (Ls c))::d
@[simp] abbrev YR (a:Cat) (b:List Int) (c:List (List Int)) (d:List (Nat × Ent)):List (Nat × Ent):=(0,.mix 7 [[iV a.n,.own 1 0 a.fr.length,.own 2 0 a.to.length,.own 3 0 a.id.length,.own 4 0 a.cs.length,.own 5 0 b.length,.own 6 0 c.length]])::(1,rI a.fr)::(2,rI a.to)::(3,rI a.id)::(4,.row 1 (Ls a.cs))::(5,rI b)::(6,.row 1 (Ls c))::d
@[simp] abbrev YU (a:List (List Int) × Int) (b:SF) (c:List (Nat × AV)):List (Nat × AV):=(9,iV a.2)::(10,iV (ix b.s.fr a.2))::(11,iV (ix b.s.to a.2))::c
@[simp] abbrev Y0e (a:Cat) (b:List (Nat × Ent)):List (Nat × Ent):=(2,.mix 7 [(Y0l a [.own 7 0 0,nS])])::b
theorem Q6p (f_:SF) (classes_:List (List Int)) (r:SF) (h:Q1F f_ classes_=some r):Contract Try.prog 67 [.agg (f_.cells true),.lst true 1 (Ls classes_)] (.agg (r.cells true)):=by
 refine Qd (rvs:=[.cell 4 33]) (rs:=[.agg (r.cells true)]) Try.func67 rfl rfl rfl rfl (by simp [Try.f67]) fun F hN hP=>?_;unfold Q1F at h;refine Q1 (runQ hN fun K hK=>?_);simp;repeat refine sdQ ?_
 refine hK _ ?_;clear hK K;refine tn (Q4 (st':=⟨[(1,.lst true 1 (Ls classes_)),(2,.adr 0 0 0),(4,.adr 1 0 0)],Yc f_ [],2⟩) (wkQ8 [(0,0),(1,1)]) (Q1 (runQ hN fun K hK=>?_)));simp;repeat with_reducible refine sdQ ?_
 replace ⟨v1,hv1,h⟩:=bind_some h;refine Q3 (Q6Z _ v1 hv1) (.cons (.aggL (.cons .val (.cons .lst (.cons .lst (.cons .lst (.cons .lst .nil)))))) .nil) ?_;simp;repeat refine sdQ ?_
 refine hK _ ?_;clear hK K;refine tn (Q4 (st':=⟨Yi classes_ [],Yc f_ (Yy v1 (Y9 v1 [])),7⟩) (wkQ8 [(0,0),(1,1),(7,2),(3,3),(4,4),(5,5),(6,6)]) (Q1 (Q1 (runQ hN fun K hK=>?_))));simp;repeat refine sdQ ?_
 refine hK _ (tn (Q4 (st':=⟨Yi classes_ [(6,iV 0)],Yc f_ (Yy v1 (Y9 v1 [])),7⟩) (wkI8 7) ?_));clear hK K;replace ⟨e2,h,h2⟩:=bind_some h;refine Qk (fun b2:List Int=>⟨Yi classes_ [],Yc f_ (Yw v1 b2 (Y9 v1 [(7,rI b2)])),8⟩) (fun b2=>b2=e2) ?_ ?_
 ·refine Q7 (Qu h (fun s20:List Int × Int=>⟨Yi classes_ [(6,iV s20.2)],Yc f_ (Yo v1 s20 (Y9 v1 [(7,rI s20.1)])),8⟩) (Q2V ⟨Yi classes_ [(6,iV 0)],Yc f_ (Y0e v1 (Y9 v1 [(7,rI [])])),8⟩ (Wk.nils [(7,1)] (by simp) (by simp) (by simp [nlA]) (by simp [entN,nlL,nlA,Cat.cells,SF.cells,UA,U1,IA,I1,LA,L1,BA,B1,EA,E1,E2,eB,eI,eL]) (by simp)) (wkI8 8)) ?_);clear h;intro k20 s20 c20 h hk20;refine Q1 (Q1 (runQ hN fun K hK=>?_));simp;repeat refine sdQ ?_
  refine hK _ ?_;clear hK K;refine tn (Qa rfl (fun g=>?_) fun g=>?_)
  ·have g21:s20.2<(classes_.length:Int):=gQ;clear g;replace h:=if_l g21 h;refine Qc (tn (Q1 (Q7 (Q1 (runQ hN fun K hK=>?_)))));simp;(repeat refine sdQ ?_);refine hK _ ?_;clear hK K;refine tn (Q4 (st':=⟨Yi classes_ [(6,iV s20.2),(7,iV 0)],Yc f_ (Yo v1 s20 (Y9 v1 [(7,rI s20.1)])),8⟩) (wkI8 8) (Q1 (Q1 (runQ hN fun K hK=>?_))));simp;(repeat refine sdQ ?_);refine hK _ (tn (Q4 (st':=⟨Yi classes_ [(6,iV s20.2),(7,iV 0),(8,iV 0)],Yc f_ (Yo v1 s20 (Y9 v1 [(7,rI s20.1)])),8⟩) (wkI8 8) ?_));clear hK K;replace ⟨e22,h,h22⟩:=bind_some h;refine Qk (fun b22:Int=>⟨Yi classes_ [(6,iV s20.2),(7,iV b22)],Yc f_ (Yo v1 s20 (Y9 v1 [(7,rI s20.1)])),8⟩) (fun b22=>b22=e22) ?_ ?_
   ·refine Q7 (Qu h (fun s29:Int × Int=>⟨Yi classes_ [(6,iV s20.2),(7,iV s29.1),(8,iV s29.2)],Yc f_ (Yo v1 s20 (Y9 v1 [(7,rI s20.1)])),8⟩) (wkI8 8) ?_);clear h;intro k29 s29 c29 h hk29;refine Q1 (Q1 (runQ hN fun K hK=>?_));replace ⟨a30,h⟩:=Q0 h;simp [at_L a30];(repeat refine sdQ ?_);refine hK _ ?_;clear hK K;refine tn (Qa rfl (fun g=>?_) fun g=>?_)
    ·have g31:s29.2<((rx classes_ s20.2).length:Int):=gQ;clear g;replace h:=if_l g31 h;refine Qc (tn (Q1 (Q7 (runQ hN fun K hK=>?_))));replace ⟨a32,h⟩:=Q0 h;replace ⟨a33,h⟩:=Q0 h;replace ⟨a34,h⟩:=Q0 h;simp [at_L a32,at_I a33,Qm a34];(repeat refine sdQ ?_);refine hK _ ?_;clear hK K;refine bn (tn (Q4 (st':=⟨Yi classes_ [(6,iV s20.2),(7,iV (if (ix (rx classes_ s20.2) s29.2)+1 > s29.1 then (ix (rx classes_ s20.2) s29.2)+1 else s29.1)),(8,iV s29.2)],Yc f_ (Yo v1 s20 (Y9 v1 [(7,rI s20.1)])),8⟩) (wkI8 8) (runQ hN fun K hK=>?_)));replace ⟨a35,h⟩:=Q0 h;simp [Qm a35];(repeat refine sdQ ?_);refine hK _ ?_;clear hK K;cases h;exact rn (s':=((if (ix (rx classes_ s20.2) s29.2)+1 > s29.1 then (ix (rx classes_ s20.2) s29.2)+1 else s29.1),s29.2+1)) hk29 (wkI8 8)
    have g31:¬ (s29.2<((rx classes_ s20.2).length:Int)):=gQ;clear g;replace h:=if_r g31 h;refine Qp (tx (lx (bh ?_)));cases h;exact jn (b:=s29.1) hk29 (wkI8 8)
   intro b22 hb22;have h:=h22;(try rw [← hb22] at h);clear h22;(try dsimp only at h);refine runQ hN fun K hK=>?_;replace ⟨a36,h⟩:=Q0 h;(try simp only [qE,qG,zB] at a36);simp [a36];(repeat refine sdQ ?_);refine hK _ ?_;clear hK K;refine bn (tn (Q4 (st':=⟨Yi classes_ [(6,iV s20.2)],Yc f_ ((2,.mix 7 [(Y0l v1 [.own 7 0 ((s20.1++[b22]).length),nS])])::Y9 v1 [(7,rI (s20.1++[b22]))]),8⟩) (wkQ8 [(0,0),(1,1),(2,2),(3,3),(4,4),(5,5),(6,6),(9,7)]) (runQ hN fun K hK=>?_)));replace ⟨a37,h⟩:=Q0 h;simp [Qm a37];(repeat refine sdQ ?_);refine hK _ ?_;clear hK K;cases h;exact rn (s':=(s20.1++[b22],s20.2+1)) hk20 (wkI8 8)
  have g21:¬ (s20.2<(classes_.length:Int)):=gQ;clear g;replace h:=if_r g21 h;refine Qp (tx (lx (bh ?_)));cases h;exact jn (b:=s20.1) hk20 (wkI8 8)
 intro b2 hb2;have h:=h2;try rw [← hb2] at h
 clear h2;try dsimp only at h
 refine Q1 (Q1 (runQ hN fun K hK=>?_));simp;repeat refine sdQ ?_
 refine hK _ (tn (Q4 (st':=⟨Yi classes_ [(9,iV 0)],Yc f_ (Yw v1 b2 (Y9 v1 [(7,rI b2)])),8⟩) (wkI8 8) ?_));clear hK K;replace ⟨e38,h,h38⟩:=bind_some h;refine Qk (fun b38:List (List Int)=>⟨[(4,.adr 0 0 0),(5,.adr 1 0 0)],Y5 (YQ v1 b2 b38 []),8⟩) (fun b38=>b38=e38) ?_ ?_
 ·refine Q7 (Qu h (fun s68:List (List Int) × Int=>⟨Yi classes_ [(9,iV s68.2)],Yc f_ (Y2 v1 b2 s68 []),9⟩) (Q2V ⟨Yi classes_ [(9,iV 0)],Yc f_ ((2,.mix 7 [(Y0l v1 [.own 7 0 b2.length,.own 8 0 0])])::Y9 v1 [(7,rI b2),(8,.row 1 (Ls []))]),9⟩ (Wk.nils [(8,1)] (by simp) (by simp) (by simp [nlA]) (by simp [entN,nlL,nlA,Cat.cells,SF.cells,UA,U1,IA,I1,LA,L1,BA,B1,EA,E1,E2,eB,eI,eL]) (by simp)) (wkI8 9)) ?_);clear h;intro k68 s68 c68 h hk68;refine Q1 (Q1 (runQ hN fun K hK=>?_));simp;repeat refine sdQ ?_
  refine hK _ ?_;clear hK K;refine tn (Qa rfl (fun g=>?_) fun g=>?_)
  ·have g69:s68.2<(f_.ac.length:Int):=gQ;clear g;replace h:=if_l g69 h;refine Qc (tn (Q1 (Q7 (Q1 (runQ hN fun K hK=>?_)))));replace ⟨a70,h⟩:=Q0 h;replace ⟨a71,h⟩:=Q0 h;simp [at_I a70,at_I a71];(repeat refine sdQ ?_);refine hK _ ?_;clear hK K;refine tn (Q4 (st':=⟨Yi classes_ (YU s68 f_ []),Yc f_ (Y2 v1 b2 s68 []),9⟩) (wkI8 9) (Q1 (runQ hN fun K hK=>?_)));replace ⟨a72,h⟩:=Q0 h;replace ⟨a73,h⟩:=Q0 h;simp [at_I a72];(repeat refine sdQ ?_);refine hK _ ?_;clear hK K;refine tn (Q4 (st':=⟨Yi classes_ (YU s68 f_ [(12,.own 9 0 ((qW ((ix b2 (ix f_.s.fr s68.2)).toNat) 0).length))]),Yc f_ (Y2 v1 b2 s68 [(9,rI (qW ((ix b2 (ix f_.s.fr s68.2)).toNat) 0))]),10⟩) (wkQ8 [(0,0),(1,1),(2,2),(3,3),(4,4),(5,5),(6,6),(7,7),(8,8),(10,9)]) (Q1 (Q1 (runQ hN fun K hK=>?_))));simp;(repeat refine sdQ ?_);refine hK _ (tn (Q4 (st':=⟨Yi classes_ (YU s68 f_ [(12,.own 9 0 ((qW ((ix b2 (ix f_.s.fr s68.2)).toNat) 0).length)),(13,iV 0)]),Yc f_ (Y2 v1 b2 s68 [(9,rI (qW ((ix b2 (ix f_.s.fr s68.2)).toNat) 0))]),10⟩) (wkI8 10) ?_));clear hK K;replace ⟨e74,h,h74⟩:=bind_some h
   refine Qk (fun b74:List Int=>⟨Yi classes_ [(9,iV s68.2),(12,.own 9 0 b74.length)],Yc f_ (Y2 v1 b2 s68 [(9,rI b74)]),10⟩) (fun b74=>b74=e74) ?_ ?_
   ·refine Q7 (Qu h (fun s85:List Int × Int=>⟨Yi classes_ (YU s68 f_ [(12,.own 9 0 s85.1.length),(13,iV s85.2)]),Yc f_ (Y2 v1 b2 s68 [(9,rI s85.1)]),10⟩) (wkI8 10) ?_);clear h;intro k85 s85 c85 h hk85;refine Q1 (Q1 (runQ hN fun K hK=>?_));replace ⟨a86,h⟩:=Q0 h;simp [at_L a86];(repeat refine sdQ ?_);refine hK _ ?_;clear hK K;refine tn (Qa rfl (fun g=>?_) fun g=>?_)
    ·have g87:s85.2<((rx classes_ (ix f_.s.fr s68.2)).length:Int):=gQ;clear g;replace h:=if_l g87 h;refine Qc (tn (Q1 (Q7 (runQ hN fun K hK=>?_))));replace ⟨a88,h⟩:=Q0 h;replace ⟨a89,h⟩:=Q0 h;replace ⟨a90,h⟩:=Q0 h;replace ⟨a91,h⟩:=Q0 h;replace ⟨a92,h⟩:=Q0 h;replace ⟨a93,h⟩:=Q0 h;replace ⟨a94,h⟩:=Q0 h;simp [at_L a88,at_I a89,at_L a90,at_L a91,at_I a92,at_I a93,at_I a94];(repeat refine sdQ ?_);refine hK _ ?_;clear hK K;refine bn (tn (Q4 (st':=⟨Yi classes_ (YU s68 f_ [(12,.own 9 0 ((s85.1.set ((ix (rx classes_ (ix f_.s.fr s68.2)) s85.2).toNat) (ix (rx classes_ (ix f_.s.to s68.2)) (ix (rx f_.ac s68.2) s85.2))).length)),(13,iV s85.2)]),Yc f_ (Y2 v1 b2 s68 [(9,rI (s85.1.set ((ix (rx classes_ (ix f_.s.fr s68.2)) s85.2).toNat) (ix (rx classes_ (ix f_.s.to s68.2)) (ix (rx f_.ac s68.2) s85.2))))]),10⟩) (wkI8 10) (runQ hN fun K hK=>?_)));replace ⟨a95,h⟩:=Q0 h;simp [Qm a95];(repeat refine sdQ ?_);refine hK _ ?_;clear hK K;cases h;exact rn (s':=(s85.1.set ((ix (rx classes_ (ix f_.s.fr s68.2)) s85.2).toNat) (ix (rx classes_ (ix f_.s.to s68.2)) (ix (rx f_.ac s68.2) s85.2)),s85.2+1)) hk85 (wkI8 10)
    have g87:¬ (s85.2<((rx classes_ (ix f_.s.fr s68.2)).length:Int)):=gQ;clear g;replace h:=if_r g87 h;refine Qp (tx (lx (bh ?_)));cases h;exact jn (b:=s85.1) hk85 (wkI8 10)
   intro b74 hb74;have h:=h74;(try rw [← hb74] at h);clear h74;(try dsimp only at h);refine runQ hN fun K hK=>?_;replace ⟨a96,h⟩:=Q0 h;(try simp only [qE,qG,zB] at a96);simp [a96];(repeat refine sdQ ?_);refine hK _ ?_;clear hK K;refine bn (tn (Q4 (st':=⟨Yi classes_ [(9,iV s68.2)],Yc f_ ((2,.mix 7 [(Y0l v1 [.own 7 0 b2.length,.own 8 0 ((s68.1++[b74]).length)])])::Y9 v1 [(7,rI b2),(8,.row 1 (Ls (s68.1++[b74])))]),9⟩) (wkQ8 [(0,0),(1,1),(2,2),(3,3),(4,4),(5,5),(6,6),(7,7),(11,8)]) (runQ hN fun K hK=>?_)));replace ⟨a97,h⟩:=Q0 h;simp [Qm a97];(repeat refine sdQ ?_);refine hK _ ?_;clear hK K;cases h;exact rn (s':=(s68.1++[b74],s68.2+1)) hk68 (wkI8 9)
  have g69:¬ (s68.2<(f_.ac.length:Int)):=gQ;clear g;replace h:=if_r g69 h;refine Qp (tx (lx (bh ?_)));cases h;exact jn (b:=s68.1) hk68 (wkQ8 [(1,0),(2,1),(3,2),(4,3),(5,4),(6,5),(7,6),(8,7)])
 intro b38 hb38;have h:=h38;try rw [← hb38] at h
 clear h38;try dsimp only at h
 refine Q1 (runQ hN fun K hK=>?_);simp;repeat refine sdQ ?_
 refine hK _ (tn (Q4 (st':=⟨[(4,.adr 0 0 0)],YR v1 b2 b38 [],7⟩) (wkQ8 [(0,0),(2,1),(3,2),(4,3),(5,4),(6,5),(7,6)]) (Ql ?_)));clear hK K;have hr:=zC h;rw [← hr];refine ⟨_,(.cell tf_33 rfl rfl rfl (by simp) (by simp) .nil),?_⟩;refine ⟨(.agg rfl .nil),[iV v1.n,lI v1.fr,lI v1.to,lI v1.id,.lst true 1 (Ls v1.cs),lI b2,.lst true 1 (Ls b38)],[1,2,3,4,5,6],by simp [Cat.cells,SF.cells,UA,U1,IA,I1,LA,L1,BA,B1,EA,E1,E2,eB,eI,eL],by simp,(UpL.refl _)⟩
section
attribute [local simp] Qh QF Qs QT QE
def mxP (L:List Int) (k:Nat):Int:=(L.take k).foldl (fun m v=>if v+1 > m then v+1 else m) 0
theorem Q5C {L:List Int} {k:Nat} (h:k<L.length):mxP L (k+1)=if ix L k+1 > mxP L k then ix L k+1 else mxP L k:=by
 unfold mxP;rw [zH h,List.foldl_append,Q1d _ _ h];rfl
theorem mxP_bd {L:List Int} {n:Int} (hn:0≤n) (hb:∀ e:Nat,e<L.length→0≤ix L e∧ix L e<n):∀ k,k≤L.length→(0≤mxP L k∧mxP L k≤n)∧∀ e:Nat,e<k→ix L e<mxP L k:=by
 intro k
 induction k with
 | zero=>intro _;exact ⟨by simp [mxP];omega,fun e he=>absurd he (Nat.not_lt_zero e)⟩
 | succ k ih =>
  intro hk;obtain ⟨h1,h2⟩:=ih (by omega);have hb':=hb k (by omega);rw [Q5C (by omega)];refine ⟨by split<;>omega,fun e he=>?_⟩
  by_cases q:e=k
  ·subst q;split<;>omega
  have:=h2 e (by omega);split<;>omega
def quoA (f:SF) (p:List (List Int)) (a k:Nat):List Int:=(zD k).foldl (fun (acc:List Int) (e:Nat)=>acc.set (ix (rx p (ix f.s.fr a)) e).toNat (ix (rx p (ix f.s.to a)) (ix (rx f.ac a) e))) (qW (mxP (rx p (ix f.s.fr a)) (rx p (ix f.s.fr a)).length).toNat 0)
theorem Q8b (f:SF) (p:List (List Int)) (a k:Nat):quoA f p a (k+1)=(quoA f p a k).set (ix (rx p (ix f.s.fr a)) k).toNat (ix (rx p (ix f.s.to a)) (ix (rx f.ac a) k)):=by
 unfold quoA;rw [zK,List.foldl_append];rfl
theorem Q7m (f:SF) (p:List (List Int)) (a k:Nat):(quoA f p a k).length=(mxP (rx p (ix f.s.fr a)) (rx p (ix f.s.fr a)).length).toNat:=by
 induction k with
 | zero=>simp [quoA]
 | succ k ih=>rw [Q8b,List.length_set,ih]
def quoZ (p:List (List Int)) (n:Nat):List Int:=tab n fun x:Nat=>mxP (rx p x) (rx p x).length
def quoF (f:SF) (p:List (List Int)):SF:=⟨f.s,quoZ p p.length,tab f.ac.length fun a=>quoA f p a (rx f.ac a).length⟩
end
section
attribute [local simp] Qh QF Qs QT QE
inductive Con (P:List (List Int)):Nat→Nat→Prop
 | pr {a b:Nat}:[(a:Int),(b:Int)]∈P→Con P a b
 | refl (a:Nat):Con P a a
 | symm {a b:Nat}:Con P a b→Con P b a
 | trans {a b c:Nat}:Con P a b→Con P b c→Con P a c
theorem Con.mono {P Q:List (List Int)} (h:∀ a b:Nat,[(a:Int),(b:Int)]∈P→Con Q a b) {a b:Nat} (c:Con P a b):Con Q a b:=by
 induction c with
 | pr hm=>exact h _ _ hm
 | refl a=>exact .refl a
 | symm _ ih=>exact .symm ih
 | trans _ _ i1 i2=>exact .trans i1 i2
theorem jnr_ker {r:Nat→Nat} {a b x y:Nat}:jnr r a b x=jnr r a b y↔(r x=r y∨(r x=r a∧r y=r b)∨(r x=r b∧r y=r a)):=by
 unfold jnr;split<;>split<;>omega
theorem RR_con {n:Nat} {P:List (List Int)} (h:Prs n P):∀ k,k≤P.length→∀ x y:Nat,(RR (P.take k) x=RR (P.take k) y↔Con (P.take k) x y):=by
 intro k
 induction k with
 | zero =>
  intro _ x y;have e:∀ x y:Nat,Con (P.take 0) x y→x=y:=by
   intro x y c
   induction c with
   | pr hm=>simp at hm
   | refl a=>rfl
   | symm _ ih=>exact ih.symm
   | trans _ _ i1 i2=>exact i1.trans i2
  simp only [List.take_zero] at e ⊢;exact ⟨fun q=>by
   have q':x=y:=q;rw [q'];exact .refl _,fun c=>by rw [e x y c]⟩
 | succ k ih =>
  intro hk x y;obtain ⟨a,b,ha,hb,e⟩:=h.at (i:=k) (by omega);have i:=ih (by omega);have m:P.take (k+1)=P.take k++[[(a:Int),(b:Int)]]:=by rw [zH (by omega),e]
  have up:∀ {u v:Nat},Con (P.take k) u v→Con (P.take (k+1)) u v:=fun c=>c.mono fun u v hm=>.pr (by rw [m];exact List.mem_append_left _ hm);have ab:Con (P.take (k+1)) a b:=.pr (by rw [m];simp);rw [Q8u (by omega) e,jnr_ker];constructor
  ·rintro (q|⟨q1,q2⟩|⟨q1,q2⟩)
   ·exact up ((i x y).1 q)
   ·exact .trans (up ((i _ _).1 q1)) (.trans ab (.symm (up ((i _ _).1 q2))))
   exact .trans (up ((i _ _).1 q1)) (.trans (.symm ab) (.symm (up ((i _ _).1 q2))))
  intro c;rw [← jnr_ker]
  induction c with
  | @pr u v hm =>
   rw [m] at hm;rcases List.mem_append.1 hm with q|q
   ·exact jnr_ker.2 (.inl ((i _ _).2 (.pr q)))
   simp only [List.mem_singleton,List.cons.injEq,and_true] at q;have q1:u=a:=(by omega);have q2:v=b:=(by omega);subst q1;subst q2;exact jnr_ker.2 (.inr (.inl ⟨rfl,rfl⟩))
  | refl a=>rfl
  | symm _ ih=>exact ih.symm
  | trans _ _ i1 i2=>exact i1.trans i2
theorem Q6y {n:Nat} {P:List (List Int)} (h:Prs n P) (x y:Nat):RR P x=RR P y↔Con P x y:=by
 have:=RR_con h P.length (qD _) x y
 rwa [List.take_length] at this
end
section
attribute [local simp] Qh QF Qs QT QE
theorem Cat.Is.Ai {c:Cat} (h:c.Is) {x:Int} (hx:0≤x∧x<c.n):Ar c (ix c.id x) x x:=by
 have h1:=h.1.li;obtain ⟨i,rfl⟩:=Int.eq_ofNat_of_zero_le hx.1;have h2:=h.1.ids i (by omega);exact ⟨h.1.id' (by omega) (by omega),h2.1,h2.2⟩
end
section
attribute [local simp] Qh QF Qs QT QE
theorem Cat.Is.assoc {c:Cat} (hc:c.Is) {f g h w x y z:Int} (a:Ar c f w x) (b:Ar c g x y) (d:Ar c h y z):ix (rx c.cs (ix (rx c.cs f) g)) h=ix (rx c.cs f) (ix (rx c.cs g) h):=by
 obtain ⟨i,rfl⟩:=Int.eq_ofNat_of_zero_le a.1.1;obtain ⟨j,rfl⟩:=Int.eq_ofNat_of_zero_le b.1.1;obtain ⟨k,rfl⟩:=Int.eq_ofNat_of_zero_le d.1.1;have:=hc.2.2 i (by have:=a.1;omega) j (by have:=b.1;omega) k (by have:=d.1;omega);exact this (by rw [a.2.2,b.2.1]) (by rw [b.2.2,d.2.1])
theorem Cat.Is.idl {c:Cat} (hc:c.Is) {f x y:Int} (a:Ar c f x y):ix (rx c.cs (ix c.id x)) f=f∧ix (rx c.cs f) (ix c.id y)=f:=by
 obtain ⟨i,rfl⟩:=Int.eq_ofNat_of_zero_le a.1.1;have:=hc.2.1 i (by have:=a.1;omega);unfold Cat.un at this;rw [a.2.1,a.2.2] at this;exact this
end
section
attribute [local simp] Qh QF Qs QT QE
def VN (V:List Int) (i:Nat):Nat:=(ix V i).toNat
noncomputable def rowE (c:Cat) (x:Nat):List Nat:=(zD c.fr.length).filter fun h=>decide (frN c h=x)
noncomputable def allE (c:Cat) (V:List Int):Nat→List (Nat × Nat)
 | 0=>[]
 | k+1=>allE c V k++(rowE c (VN V k)).map fun h=>(k,h)
noncomputable def atE (c:Cat) (V:List Int) (k y:Nat):List (Nat × Nat):=(allE c V k).filter fun p=>decide (toN c p.2=y)
theorem mem_rowE {c:Cat} {x h:Nat}:h∈rowE c x↔h<c.fr.length∧frN c h=x:=by simp [rowE]
theorem mem_allE {c:Cat} {V:List Int} {p:Nat × Nat}:∀ {k:Nat},p∈allE c V k↔p.1<k∧p.2<c.fr.length∧frN c p.2=VN V p.1
 | 0=>by simp [allE]
 | k+1=>by
  have ih:=mem_allE (c:=c) (V:=V) (p:=p) (k:=k);simp only [allE,List.mem_append,ih,List.mem_map,mem_rowE];constructor
  ·rintro (⟨h1,h2,h3⟩|⟨h,⟨h1,h2⟩,rfl⟩)
   ·exact ⟨by omega,h2,h3⟩
   exact ⟨by simp,h1,h2⟩
  rintro ⟨h1,h2,h3⟩
  by_cases q:p.1=k
  ·right;exact ⟨p.2,⟨h2,by rw [h3,q]⟩,by rw [← q]⟩
  left;exact ⟨by omega,h2,h3⟩
theorem mem_atE {c:Cat} {V:List Int} {p:Nat × Nat} {k y:Nat}:p∈atE c V k y↔(p.1<k∧p.2<c.fr.length∧frN c p.2=VN V p.1)∧toN c p.2=y:=by
 simp [atE,mem_allE]
theorem Q6N (c:Cat) (x:Nat):(rowE c x).Nodup:=List.Nodup.sublist List.filter_sublist List.nodup_range
theorem Q52 (c:Cat) (V:List Int):∀ k,(allE c V k).Nodup
 | 0=>List.nodup_nil
 | k+1=>by
  rw [allE,List.nodup_append];refine ⟨Q52 c V k,List.pairwise_map.2 ((Q6N c _).imp fun h q=>h (by simpa using q)),fun a ha b hb q=>?_⟩;subst q;have h1:=(mem_allE.1 ha).1;obtain ⟨h,_,rfl⟩:=List.mem_map.1 hb;simp at h1
theorem Q86 (c:Cat) (V:List Int) (k y:Nat):(atE c V k y).Nodup:=List.Nodup.sublist List.filter_sublist (Q52 c V k)
theorem Q5F (c:Cat) (x:Nat):(rowE c x).length≤c.fr.length:=by
 have:=zN (fun h=>decide (frN c h=x)) (zD c.fr.length);simpa [rowE] using this
theorem Q3l {c:Cat} (hc:c.Is) (V:List Int):∀ k,(allE c V k).length≤k * 40
 | 0=>by simp [allE]
 | k+1=>by
  have:=Q3l hc V k;have h2:=Q5F c (VN V k);have h3:=hc.nums;simp only [allE,qE,zL];omega
theorem Q9n (c:Cat) (V:List Int) (k y:Nat):(atE c V k y).length≤(allE c V k).length:=zN _ _
def plc (L:List (Nat × Nat)) (p:Nat × Nat):Nat:=L.idxOf p
theorem Q3W {L:List (Nat × Nat)} {p:Nat × Nat} (h:p∈L):plc L p<L.length:=List.idxOf_lt_length_iff.2 h
theorem Q9Y {L:List (Nat × Nat)} {p:Nat × Nat} (h:p∈L):L[plc L p]'(Q3W h)=p:=List.getElem_idxOf _
theorem Q8a {L:List (Nat × Nat)} (hn:L.Nodup) {i:Nat} (h:i<L.length):plc L L[i]=i:=hn.idxOf_getElem i h
theorem Q7a {n:Nat} {p:Nat→Prop} {m:Nat} (hm:m<n) (hp:p m) (hlt:∀ k,k<m→¬ p k):fstN n p=(m:Int):=by
 unfold fstN;have:(zD n).find? (fun i=>bo (p i))=some m:=by
  rw [List.find?_range_eq_some];exact ⟨QX hp,by simpa using hm,fun k hk=>by simp [QH (hlt k hk)]⟩
 rw [this];rfl
theorem posL_map {L:List (Nat × Nat)} (hn:L.Nodup) {f:Nat × Nat→List Int} (hf:∀ p q,f p=f q→p=q) {p:Nat × Nat} (h:p∈L):posL (L.map f) (f p)=(plc L p:Int):=by
 unfold posL;refine Q7a (by simpa using Q3W h) ?_ fun k hk e=>?_
 ·have:=Q3W h;simp only [rx,zJ,qB,List.getElem?_map,qF this,Q9Y h,Option.map_some,qY]
 have hk2:k<L.length:=Nat.lt_trans hk (Q3W h);simp only [rx,zJ,qB,List.getElem?_map,qF hk2,Option.map_some,qY] at e;have:=hf _ _ e;have q:=Q8a hn hk2;rw [this] at q;omega
noncomputable def cpN (c:Cat) (f g:Nat):Nat:=(ix (rx c.cs f) g).toNat
theorem Q4h {c:Cat} (hc:c.Is) {f g:Nat} (hf:f<c.fr.length) (hg:g<c.fr.length) (e:toN c f=frN c g):ix (rx c.cs f) g=(cpN c f g:Int)∧cpN c f g<c.fr.length∧frN c (cpN c f g)=frN c f∧toN c (cpN c f g)=toN c g:=by
 obtain ⟨f1,f2,f3,f4⟩:=Q1o hc hf;obtain ⟨g1,g2,g3,g4⟩:=Q1o hc hg;obtain ⟨a1,a2,a3⟩:=hc.two (f:=f) (g:=g) (by omega) (by omega) (by rw [f3,g1,e]);have h1:ix (rx c.cs f) g=(cpN c f g:Int):=by unfold cpN;omega
 have h2:cpN c f g<c.fr.length:=by omega
 obtain ⟨k1,k2,k3,k4⟩:=Q1o hc h2;rw [h1] at a2 a3;exact ⟨h1,h2,by omega,by omega⟩
theorem cpN_assoc {c:Cat} (hc:c.Is) {f g h:Nat} (hf:f<c.fr.length) (hg:g<c.fr.length) (hh:h<c.fr.length) (e1:toN c f=frN c g) (e2:toN c g=frN c h):cpN c (cpN c f g) h=cpN c f (cpN c g h):=by
 obtain ⟨a1,a2,a3,a4⟩:=Q4h hc hf hg e1;obtain ⟨b1,b2,b3,b4⟩:=Q4h hc hg hh e2;obtain ⟨f1,f2,f3,f4⟩:=Q1o hc hf;obtain ⟨g1,g2,g3,g4⟩:=Q1o hc hg;obtain ⟨k1,k2,k3,k4⟩:=Q1o hc hh;have q:=hc.assoc (f:=f) (g:=g) (h:=h) (w:=ix c.fr f) (x:=ix c.to f) (y:=ix c.to g) (z:=ix c.to h) ⟨by omega,rfl,rfl⟩ ⟨by omega,by rw [g1,f3,e1],rfl⟩ ⟨by omega,by rw [k1,g3,e2],rfl⟩;rw [a1,b1] at q;obtain ⟨c1,_⟩:=Q4h hc a2 hh (by omega);obtain ⟨d1,_⟩:=Q4h hc hf b2 (by omega);omega
end
attribute [local simp] unk unA unE unT unC flat eL eI Qf Q28 Cat.cells
noncomputable def Q2F (c_:Cat) (x_:Int) (y_:Int):Option (List Int) :=
 (QA (σ:=List Int × Int) (ε:=List Int) (fun s11 =>
  if s11.2<(c_.fr.length:Int) then
   (
    (
     ass (0≤s11.2∧s11.2<(c_.fr.length:Int)) <|
     if (ix c_.fr s11.2)=x_ then
      ass (0≤s11.2∧s11.2<(c_.to.length:Int)) <|
      some ((ix c_.to s11.2) == y_)
     else
      some false:Option (Bool)).bind fun b14 =>
    if b14=true then
     ass ((s11.1++[s11.2]).length≤1073741824) <|
     some (s11.1++[s11.2])
    else
     some s11.1:Option (List Int)).bind fun b13 =>
   ass (B64 (s11.2+1)) <|
   some (Ctl.next (b13,s11.2+1))
  else
   some (Ctl.ret s11.1)) fuel ([],0)).bind fun b1 =>
 some b1
theorem Q6Y (c_:Cat) (x_:Int) (y_:Int) (r:List Int) (h:Q2F c_ x_ y_=some r):Contract Try.prog 102 [.agg (c_.cells true),iV x_,iV y_] (lI r):=by
 refine Qd (rvs:=[.tmp 6]) (rs:=[lI r]) Try.func102 rfl rfl rfl rfl (by simp [Try.f102]) fun F hN hP=>?_;unfold Q2F at h;refine Q1 (runQ hN fun K hK=>?_);simp;repeat refine sdQ ?_
 refine hK _ ?_;clear hK K;refine tn (Q4 (st':=⟨YZ x_ y_ [],YP c_ [],1⟩) (wkQ8 [(0,0)]) (Q1 (runQ hN fun K hK=>?_)));simp;repeat refine sdQ ?_
 refine hK _ ?_;clear hK K;refine tn (Q4 (st':=⟨YZ x_ y_ [(7,.own 1 0 0)],YP c_ [(1,.mix 1 [])],2⟩) (wkQ8 [(0,0),(1,1)]) (Q1 (Q1 (runQ hN fun K hK=>?_))));simp;repeat refine sdQ ?_
 refine hK _ (tn (Q4 (st':=⟨YZ x_ y_ [(7,.own 1 0 0),(8,iV 0)],YP c_ [(1,.mix 1 [])],2⟩) (wkQ8 [(0,0),(1,1)]) ?_));clear hK K;replace ⟨e1,h,h1⟩:=bind_some h;refine Qk (fun b1:List Int=>⟨[(7,.own 0 0 b1.length)],[(0,rI b1)],1⟩) (fun b1=>b1=e1) ?_ ?_
 ·refine Q7 (Qu h (fun s11:List Int × Int=>⟨YZ x_ y_ [(7,.own 1 0 s11.1.length),(8,iV s11.2)],YP c_ [(1,rI s11.1)],2⟩) (Q2V ⟨YZ x_ y_ [(7,.own 1 0 0),(8,iV 0)],YP c_ [(1,rI [])],2⟩ (Wk.nils [] (by simp) (by simp) (by simp [nlA]) (by simp [entN,nlL,nlA,Cat.cells,UA,U1,IA,I1,LA,L1,BA,B1,EA,E1,E2,eB,eI,eL]) (by simp)) (wkQ8 [(0,0),(1,1)])) ?_);clear h;intro k11 s11 c11 h hk11;refine Q1 (Q1 (runQ hN fun K hK=>?_));simp;repeat refine sdQ ?_
  refine hK _ ?_;clear hK K;refine tn (Qa rfl (fun g=>?_) fun g=>?_)
  ·have g12:s11.2<(c_.fr.length:Int):=gQ;clear g;replace h:=if_l g12 h;refine Qc (tn (Q1 ?_));replace ⟨e13,h,h13⟩:=bind_some h;refine Qk (fun b13:List Int=>⟨YZ x_ y_ [(7,.own 1 0 b13.length),(8,iV s11.2)],YP c_ [(1,rI b13)],2⟩) (fun b13=>b13=e13) ?_ ?_
   ·refine Q7 (Q1 ?_);replace ⟨e14,h,h14⟩:=bind_some h;refine Qk (fun b14:Bool=>⟨YZ x_ y_ [(7,.own 1 0 s11.1.length),(8,iV s11.2),(32,.val (.bool b14))],YP c_ [(1,rI s11.1)],2⟩) (fun b14=>b14=e14) ?_ ?_
    ·refine runQ hN fun K hK=>?_;replace ⟨a15,h⟩:=Q0 h;simp [at_I a15];(repeat with_reducible refine sdQ ?_);refine QB (fun g=>?_) (fun g=>?_)
     ·have g16:(ix c_.fr s11.2)=x_:=gQ;clear g;replace h:=if_l g16 h;replace ⟨a17,h⟩:=Q0 h;simp [at_I a15,at_I a17];(repeat refine sdQ ?_);refine hK _ ?_;exact jn (b:=(ix c_.to s11.2) == y_) (zC h) (wkQ8 [(0,0),(1,1)])
     have g16:¬ ((ix c_.fr s11.2)=x_):=gQ;clear g;replace h:=if_r g16 h;simp [at_I a15];(repeat refine sdQ ?_);refine hK _ ?_;exact jn (b:=false) (zC h) (wkQ8 [(0,0),(1,1)])
    intro b14 hb14;have h:=h14;(try rw [← hb14] at h);clear h14;(try dsimp only at h);refine Qa rfl (fun g=>?_) fun g=>?_
    ·have g18:b14=true:=gQ;clear g;replace h:=if_l g18 h;refine runQ hN fun K hK=>?_;replace ⟨a19,h⟩:=Q0 h;(try simp only [qE,qG,zB] at a19);simp [a19];(repeat refine sdQ ?_);refine hK _ (bn ?_);clear hK K;exact jn (b:=s11.1++[s11.2]) (zC h) (wkQ8 [(0,0),(3,1)])
    have g18:¬ (b14=true):=gQ;clear g;replace h:=if_r g18 h;refine Qc (bn ?_);exact jn (b:=s11.1) (zC h) (wkQ8 [(0,0),(1,1)])
   intro b13 hb13;have h:=h13;(try rw [← hb13] at h);clear h13;(try dsimp only at h);refine runQ hN fun K hK=>?_;replace ⟨a20,h⟩:=Q0 h;simp [Qm a20];(repeat refine sdQ ?_);refine hK _ ?_;clear hK K;cases h;exact rn (s':=(b13,s11.2+1)) hk11 (wkQ8 [(0,0),(1,1)])
  have g12:¬ (s11.2<(c_.fr.length:Int)):=gQ;clear g;replace h:=if_r g12 h;refine Qp (tx (lx (bh ?_)));cases h;exact jn (b:=s11.1) hk11 (wkQ8 [(1,0)])
 intro b1 hb1;have h:=h1;try rw [← hb1] at h
 clear h1;try dsimp only at h
 refine Q1 (runQ hN fun K hK=>?_);simp;repeat refine sdQ ?_
 refine hK _ (tn (Q4 (st':=⟨[(6,.own 0 0 b1.length)],[(0,rI b1)],1⟩) (wkQ8 [(0,0)]) (Ql ?_)));clear hK K;have hr:=zC h;rw [← hr];refine ⟨_,(.tmp .nil),?_⟩;refine ⟨(.one rfl rfl .nil),[lI b1],[0],by simp [Cat.cells,UA,U1,IA,I1,LA,L1,BA,B1,EA,E1,E2,eB,eI,eL],by simp,(UpL.refl _)⟩
attribute [local simp] unk unA unE unT unC flat eL eI Qf
noncomputable def Q1Y (list_:List (List Int)) (x_:List Int):Option Int :=
 (QA (σ:=Int) (ε:=Unit ⊕ Int) (fun s7 =>
  if s7<(list_.length:Int) then
   ass (0≤s7∧s7<(list_.length:Int)) <|
   (Q2f (rx list_ s7) x_).bind fun v10 =>
   if v10=true then
    some (Ctl.ret (Sum.inr s7))
   else
    ass (B64 (s7+1)) <|
    some (Ctl.next (s7+1))
  else
   some (Ctl.ret (Sum.inl ()))) fuel 0).bind fun e1 =>
 match e1 with
 | .inl b1 =>
  some (-1)
 | .inr p1 =>
  some p1
theorem Q5n (list_:List (List Int)) (x_:List Int) (r:Int) (h:Q1Y list_ x_=some r):Contract Try.prog 54 [.lst true 1 (Ls list_),lI x_] (iV r):=by
 refine Qd (rvs:=[.tmp 4]) (rs:=[iV r]) Try.func54 rfl rfl rfl rfl (by simp [Try.f54]) fun F hN hP=>?_;unfold Q1Y at h;refine Q1 (runQ hN fun K hK=>?_);simp;repeat refine sdQ ?_
 refine hK _ ?_;clear hK K;refine tn (Q4 (st':=⟨[(0,.lst true 1 (Ls list_)),(1,lI x_)],[],0⟩) (wkQ8 []) (Q1 (Q1 (runQ hN fun K hK=>?_))));simp;repeat refine sdQ ?_
 refine hK _ (tn (Q4 (st':=⟨[(0,.lst true 1 (Ls list_)),(1,lI x_),(5,iV 0)],[],0⟩) (wkQ8 []) ?_));clear hK K;replace ⟨e1,h,h1⟩:=bind_some h;refine Qk (fun b1:Unit=>⟨[],[],0⟩) (fun b1=>Sum.inl b1=e1) ?_ ?_
 ·refine Q7 (Qu h (fun s7:Int=>⟨[(0,.lst true 1 (Ls list_)),(1,lI x_),(5,iV s7)],[],0⟩) (wkQ8 []) ?_);clear h;intro k7 s7 c7 h hk7;refine Q1 (Q1 (runQ hN fun K hK=>?_));simp;repeat refine sdQ ?_
  refine hK _ ?_;clear hK K;refine tn (Qa rfl (fun g=>?_) fun g=>?_)
  ·have g8:s7<(list_.length:Int):=gQ;clear g;replace h:=if_l g8 h;refine Qc (tn (Q1 (Q7 (Q1 (runQ hN fun K hK=>?_)))));replace ⟨a9,h⟩:=Q0 h;simp [at_L a9];(repeat with_reducible refine sdQ ?_);replace ⟨v10,hv10,h⟩:=bind_some h;refine Q3 (Q6o _ _ v10 hv10) (.cons .lst (.cons .lst .nil)) ?_;simp [at_L a9];(repeat refine sdQ ?_);refine hK _ ?_;clear hK K;refine tn (Q4 (st':=⟨[(0,.lst true 1 (Ls list_)),(1,lI x_),(5,iV s7),(17,.val (.bool v10))],[],0⟩) (wkQ8 []) (Qa rfl (fun g=>?_) fun g=>?_))
   ·have g11:v10=true:=gQ;clear g;replace h:=if_l g11 h;refine Q1 (runQ hN fun K hK=>?_);simp;(repeat refine sdQ ?_);refine hK _ (tn (Q4 (st':=⟨[(4,iV s7)],[],0⟩) (wkQ8 []) (Ql (br (tr (lr (br (tr ?_))))))));clear hK K;cases h;have q:_=e1:=hk7;have h:=h1;rw [← q] at h;clear q;(try dsimp only at h);have hr:=zC h;rw [← hr];refine ⟨_,(.tmp .nil),?_⟩;refine ⟨(.one rfl rfl .nil),[iV s7],[],by simp [UA,U1,IA,I1,LA,L1,BA,B1,EA,E1,E2,eB,eI,eL],by simp,(UpL.refl _)⟩
   have g11:¬ (v10=true):=gQ;clear g;replace h:=if_r g11 h;refine Qc (bn (tn (runQ hN fun K hK=>?_)));replace ⟨a12,h⟩:=Q0 h;simp [Qm a12];(repeat refine sdQ ?_);refine hK _ ?_;clear hK K;cases h;exact rn (s':=s7+1) hk7 (wkQ8 [])
  have g8:¬ (s7<(list_.length:Int)):=gQ;clear g;replace h:=if_r g8 h;refine Qp (tx (lx (bh ?_)));cases h;exact jn (b:=()) hk7 (wkQ8 [])
 intro b1 hb1;have h:=h1;try rw [← hb1] at h
 clear h1;try dsimp only at h
 refine Q1 (runQ hN fun K hK=>?_);simp;repeat refine sdQ ?_
 refine hK _ (tn (Q4 (st':=⟨[(4,iV (-1))],[],0⟩) (wkQ8 []) (Ql ?_)));clear hK K;have hr:=zC h;rw [← hr];refine ⟨_,(.tmp .nil),?_⟩;refine ⟨(.one rfl rfl .nil),[iV (-1)],[],by simp [UA,U1,IA,I1,LA,L1,BA,B1,EA,E1,E2,eB,eI,eL],by simp,(UpL.refl _)⟩
attribute [local simp] unk unA unE unT unC flat eL eI Qf Q28 QZ Cat.cells SF.cells
noncomputable def Q2P (c_:Cat) (objects_:List Int):Option SF :=
 ass (0≤c_.n∧c_.n≤1073741824) <|
 (QA (σ:=List (List (List Int)) × Int) (ε:=List (List (List Int))) (fun s29 =>
  if s29.2<(objects_.length:Int) then
   (
    (QA (σ:=List (List (List Int)) × Int) (ε:=List (List (List Int))) (fun s43 =>
     if s43.2<(c_.fr.length:Int) then
      (
       ass (0≤s43.2∧s43.2<(c_.fr.length:Int)) <|
       ass (0≤s29.2∧s29.2<(objects_.length:Int)) <|
       if (ix c_.fr s43.2)=(ix objects_ s29.2) then
        ass (0≤s43.2∧s43.2<(c_.to.length:Int)) <|
        ass (0≤s43.2∧s43.2<(c_.to.length:Int)) <|
        ass (0≤ix c_.to s43.2∧ix c_.to s43.2<(s43.1.length:Int)) <|
        ass (((gx s43.1 (ix c_.to s43.2))++[[s29.2,s43.2]]).length≤1073741824) <|
        ass (0≤ix c_.to s43.2∧ix c_.to s43.2<(s43.1.length:Int)) <|
        some (s43.1.set ((ix c_.to s43.2).toNat) ((gx s43.1 (ix c_.to s43.2))++[[s29.2,s43.2]]))
       else
        some s43.1:Option (List (List (List Int)))).bind fun b45 =>
      ass (B64 (s43.2+1)) <|
      some (Ctl.next (b45,s43.2+1))
     else
      some (Ctl.ret s43.1)) fuel (s29.1,0)).bind fun p43 =>
    some p43:Option (List (List (List Int)))).bind fun b31 =>
   ass (B64 (s29.2+1)) <|
   some (Ctl.next (b31,s29.2+1))
  else
   some (Ctl.ret s29.1)) fuel (qW c_.n.toNat ([]:List (List Int)),0)).bind fun b2 =>
 (Q2G c_).bind fun v56 =>
 (QA (σ:=List Int × Int) (ε:=List Int) (fun s62 =>
  if s62.2<(b2.length:Int) then
   ass (0≤s62.2∧s62.2<(b2.length:Int)) <|
   ass ((s62.1++[((gx b2 s62.2).length:Int)]).length≤1073741824) <|
   ass (B64 (s62.2+1)) <|
   some (Ctl.next (s62.1++[((gx b2 s62.2).length:Int)],s62.2+1))
  else
   some (Ctl.ret s62.1)) fuel ([],0)).bind fun b57 =>
 (QA (σ:=List (List Int) × Int) (ε:=List (List Int)) (fun s95 =>
  if s95.2<(c_.fr.length:Int) then
   ass (0≤s95.2∧s95.2<(c_.fr.length:Int)) <|
   ass (0≤ix c_.fr s95.2∧ix c_.fr s95.2<(b2.length:Int)) <|
   ass (0≤s95.2∧s95.2<(c_.to.length:Int)) <|
   ass (0≤ix c_.to s95.2∧ix c_.to s95.2<(b2.length:Int)) <|
   (QA (σ:=List Int × Int) (ε:=List Int) (fun s111 =>
    if s111.2<((gx b2 (ix c_.fr s95.2)).length:Int) then
     ass (0≤s111.2∧s111.2<((gx b2 (ix c_.fr s95.2)).length:Int)) <|
     ass ((0:Int)≤0∧0<((rx (gx b2 (ix c_.fr s95.2)) s111.2).length:Int)) <|
     ass (0≤s111.2∧s111.2<((gx b2 (ix c_.fr s95.2)).length:Int)) <|
     ass ((0:Int)≤1∧1<((rx (gx b2 (ix c_.fr s95.2)) s111.2).length:Int)) <|
     (Q2g c_ (ix (rx (gx b2 (ix c_.fr s95.2)) s111.2) 1) s95.2).bind fun v117 =>
     (Q1Y (gx b2 (ix c_.to s95.2)) [ix (rx (gx b2 (ix c_.fr s95.2)) s111.2) 0,v117]).bind fun v118 =>
     ass ((s111.1++[v118]).length≤1073741824) <|
     ass (B64 (s111.2+1)) <|
     some (Ctl.next (s111.1++[v118],s111.2+1))
    else
     some (Ctl.ret s111.1)) fuel ([],0)).bind fun b101 =>
   ass ((s95.1++[b101]).length≤1073741824) <|
   ass (B64 (s95.2+1)) <|
   some (Ctl.next (s95.1++[b101],s95.2+1))
  else
   some (Ctl.ret s95.1)) fuel ([],0)).bind fun b67 =>
 some (⟨v56,b57,b67⟩:SF)
@[simp] abbrev Yh (a:Cat) (b:List (List (List Int))) (c:List (Nat × AV)):List (Nat × AV):=(2,.rptr (Cat.cells true a))::(4,.adr 0 0 0)::(5,.own 1 0 b.length)::(8,.adr 2 0 0)::c
@[simp] abbrev YB (a:Cat) (b:List (Nat × AV)):List (Nat × AV):=(2,.rptr (Cat.cells true a))::(4,.adr 0 0 0)::b
@[simp] abbrev YE (a:List (List (List Int))) (b:Cat) (c:List (List Int) × Int) (d:List (Nat × AV)):List (Nat × AV):=(12,.own 10 0 ((gx a (ix b.fr c.2)).length))::(13,.own 11 0 ((gx a (ix b.to c.2)).length))::d
@[simp] abbrev YI (a:Cat) (b:List (List Int) × Int) (c:List (Nat × Ent)):List (Nat × Ent):=(10,.ali 1 ((ix a.fr b.2).toNat) 0 1)::(11,.ali 1 ((ix a.to b.2).toNat) 0 1)::c
@[simp] abbrev YT (a:List (List (List Int))) (b:List (Nat × Ent)):List (Nat × Ent):=(1,.row 1 (Es eL a))::b
theorem Q9e (c_:Cat) (objects_:List Int) (r:SF) (h:Q2P c_ objects_=some r):Contract Try.prog 62 [.agg (c_.cells true),lI objects_] (.agg (r.cells true)):=by
 refine Qd (rvs:=[.cell 4 33]) (rs:=[.agg (r.cells true)]) Try.func62 rfl rfl rfl rfl (by simp [Try.f62]) fun F hN hP=>?_;unfold Q2P at h;refine Q1 (Qn [2] mo (by rw [hN];decide) fun K hK=>?_);simp;repeat refine sdQ ?_
 refine hK _ ?_;clear hK K;refine tn (Q4 (st':=⟨(1,lI objects_)::YB c_ [],Y5 [],1⟩) (wkQ8 [(0,0)]) (Q1 (Qn [17] mo (by rw [hN];decide) fun K hK=>?_)));replace ⟨a1,h⟩:=Q0 h;simp;repeat refine sdQ ?_
 refine hK _ ?_;clear hK K;refine tn (Q4 (st':=⟨(1,lI objects_)::YB c_ [(5,.own 1 0 ((qW c_.n.toNat ([]:List (List Int))).length))],Y5 [(1,.row 1 (Es eL (qW c_.n.toNat ([]:List (List Int)))))],2⟩) (wkQ8 [(0,0),(1,1)]) (Q1 (Q1 (runQ hN fun K hK=>?_))));simp;repeat refine sdQ ?_
 refine hK _ (tn (Q4 (st':=⟨(1,lI objects_)::YB c_ [(5,.own 1 0 ((qW c_.n.toNat ([]:List (List Int))).length)),(6,iV 0)],Y5 [(1,.row 1 (Es eL (qW c_.n.toNat ([]:List (List Int)))))],2⟩) (wkQ8 [(0,0),(1,1)]) ?_));clear hK K;replace ⟨e2,h,h2⟩:=bind_some h;refine Qk (fun b2:List (List (List Int))=>⟨YB c_ [(5,.own 1 0 b2.length)],Y5 (YT b2 []),2⟩) (fun b2=>b2=e2) ?_ ?_
 ·refine Q7 (Qu h (fun s29:List (List (List Int)) × Int=>⟨(1,lI objects_)::YB c_ [(5,.own 1 0 s29.1.length),(6,iV s29.2)],Y5 [(1,.row 1 (Es eL s29.1))],2⟩) (wkQ8 [(0,0),(1,1)]) ?_);clear h;intro k29 s29 c29 h hk29;refine Q1 (Q1 (runQ hN fun K hK=>?_));simp;repeat refine sdQ ?_
  refine hK _ ?_;clear hK K;refine tn (Qa rfl (fun g=>?_) fun g=>?_)
  ·have g30:s29.2<(objects_.length:Int):=gQ;clear g;replace h:=if_l g30 h;refine Qc (tn (Q1 ?_));replace ⟨e31,h,h31⟩:=bind_some h;refine Qk (fun b31:List (List (List Int))=>⟨(1,lI objects_)::YB c_ [(5,.own 1 0 b31.length),(6,iV s29.2)],Y5 (YT b31 []),2⟩) (fun b31=>b31=e31) ?_ ?_
   ·refine Q7 (Q1 (runQ hN fun K hK=>?_));simp;(repeat refine sdQ ?_);refine hK _ (tn (Q4 (st':=⟨(1,lI objects_)::YB c_ [(5,.own 1 0 s29.1.length),(6,iV s29.2),(7,iV 0)],Y5 [(1,.row 1 (Es eL s29.1))],2⟩) (wkQ8 [(0,0),(1,1)]) (Q7 ?_)));clear hK K;replace ⟨e43,he43,h43⟩:=bind_some h;refine Qu he43 (fun s43:List (List (List Int)) × Int=>⟨(1,lI objects_)::YB c_ [(5,.own 1 0 s43.1.length),(6,iV s29.2),(7,iV s43.2)],Y5 [(1,.row 1 (Es eL s43.1))],2⟩) (wkQ8 [(0,0),(1,1)]) ?_;intro k43 s43 c43 h hk43;refine Q1 (Q1 (runQ hN fun K hK=>?_));simp;(repeat refine sdQ ?_);refine hK _ ?_;clear hK K;refine tn (Qa rfl (fun g=>?_) fun g=>?_)
    ·have g44:s43.2<(c_.fr.length:Int):=gQ;clear g;replace h:=if_l g44 h;refine Qc (tn (Q1 ?_));replace ⟨e45,h,h45⟩:=bind_some h;refine Qk (fun b45:List (List (List Int))=>⟨(1,lI objects_)::YB c_ [(5,.own 1 0 b45.length),(6,iV s29.2),(7,iV s43.2)],Y5 (YT b45 []),2⟩) (fun b45=>b45=e45) ?_ ?_
     ·refine Q7 (Q1 (runQ hN fun K hK=>?_));replace ⟨a46,h⟩:=Q0 h;replace ⟨a47,h⟩:=Q0 h;simp [at_I a46,at_I a47];(repeat refine sdQ ?_);refine hK _ ?_;clear hK K;refine tn (Qa rfl (fun g=>?_) fun g=>?_)
      ·have g48:(ix c_.fr s43.2)=(ix objects_ s29.2):=gQ;clear g;replace h:=if_l g48 h;refine w_runXQ false [] [] [2] [42,43,45,48,49,51] (by simp [St.get,look,Cat.cells]<;>(repeat' apply And.intro)<;>exact RoV_Es (by simp [Cat.cells])) mo (by rw [hN];decide) fun K hK=>?_;replace ⟨a49,h⟩:=Q0 h;replace ⟨a50,h⟩:=Q0 h;replace ⟨a51,h⟩:=Q0 h;replace ⟨a52,h⟩:=Q0 h;(try simp only [qE,qG,zB] at a52);simp [at_I a49,at_I a50,at_E (c:=eL) a51,a52];(repeat with_reducible refine sdQ ?_);refine Q6S (fz:=[]) (sem_apaE (es2:=Ls (gx s43.1 (ix c_.to s43.2))) (es3:=Ls ((gx s43.1 (ix c_.to s43.2))++[[s29.2,s43.2]])) (news:=[[.lst true 1 [[iV s29.2],[iV s43.2]]]]) (c2:=True) (d2:=[3]) rfl ef_23 tf_22 rfl (by decide) rfl (by simp) rfl rfl (by simp [src,Q1x]) trivial (by first|(simp;done)|(simp;omega)|omega) (by decide) (by simp [at_E (c:=eL) a51,eL,eI]) (by simp;omega) (by simp;omega) (by simp) (by simp) (by simp) (by simp [eL,UA,U1,IA,I1,LA,L1,BA,B1,EA,E1,E2,eB,eI,eL])) ?_;replace ⟨a53,h⟩:=Q0 h;simp [at_I a49,at_I a50,at_E (c:=eL) a51,at_E (c:=eL) a53];(repeat with_reducible refine sdQ ?_);refine Qa5 (fz:=[]) [] tf_23 rfl (b:=.lst true 1 (Ls ((gx s43.1 (ix c_.to s43.2))++[[s29.2,s43.2]]))) (ds:=[5]) (es2:=Es eL (s43.1.set ((ix c_.to s43.2).toNat) ((gx s43.1 (ix c_.to s43.2))++[[s29.2,s43.2]]))) rfl (by simp) (by first|(simp;done)|(simp;omega)|omega) (by simp) (by simp) (by simp) (by simp) (holed_set (Es_st (fun _=>rfl) rfl)) ?_;simp [at_I a49,at_I a50,at_E (c:=eL) a51,at_E (c:=eL) a53];(repeat refine sdQ ?_);refine hK _ (bn ?_);clear hK K;exact jn (b:=s43.1.set ((ix c_.to s43.2).toNat) ((gx s43.1 (ix c_.to s43.2))++[[s29.2,s43.2]])) (zC h) (wkQ8 [(0,0),(1,1)])
      have g48:¬ ((ix c_.fr s43.2)=(ix objects_ s29.2)):=gQ;clear g;replace h:=if_r g48 h;refine Qc (bn ?_);exact jn (b:=s43.1) (zC h) (wkQ8 [(0,0),(1,1)])
     intro b45 hb45;have h:=h45;(try rw [← hb45] at h);clear h45;(try dsimp only at h);refine runQ hN fun K hK=>?_;replace ⟨a54,h⟩:=Q0 h;simp [Qm a54];(repeat refine sdQ ?_);refine hK _ ?_;clear hK K;cases h;exact rn (s':=(b45,s43.2+1)) hk43 (wkQ8 [(0,0),(1,1)])
    have g44:¬ (s43.2<(c_.fr.length:Int)):=gQ;clear g;replace h:=if_r g44 h;refine Qp (tx (lx (bh (bn ?_))));cases h;have q:_=e43:=hk43;have h:=h43;rw [← q] at h;clear q;(try dsimp only at h);exact jn (b:=s43.1) (zC h) (wkQ8 [(0,0),(1,1)])
   intro b31 hb31;have h:=h31;(try rw [← hb31] at h);clear h31;(try dsimp only at h);refine runQ hN fun K hK=>?_;replace ⟨a55,h⟩:=Q0 h;simp [Qm a55];(repeat refine sdQ ?_);refine hK _ ?_;clear hK K;cases h;exact rn (s':=(b31,s29.2+1)) hk29 (wkQ8 [(0,0),(1,1)])
  have g30:¬ (s29.2<(objects_.length:Int)):=gQ;clear g;replace h:=if_r g30 h;refine Qp (tx (lx (bh ?_)));cases h;exact jn (b:=s29.1) hk29 (wkQ8 [(0,0),(1,1)])
 intro b2 hb2;have h:=h2;try rw [← hb2] at h
 clear h2;try dsimp only at h
 refine Q1 (runQ hN fun K hK=>?_);simp;repeat with_reducible refine sdQ ?_
 replace ⟨v56,hv56,h⟩:=bind_some h;refine Q3 (Q6Z _ v56 hv56) (.cons (.aggL (.cons .val (.cons .lst (.cons .lst (.cons .lst (.cons .lst .nil)))))) .nil) ?_;simp;repeat refine sdQ ?_
 refine hK _ ?_;clear hK K;refine tn (Q4 (st':=⟨Yh c_ b2 [],Y5 (YT b2 (Yy v56 (Y9 v56 []))),7⟩) (wkQ8 [(0,0),(1,1),(7,2),(3,3),(4,4),(5,5),(6,6)]) (Q1 (Q1 (runQ hN fun K hK=>?_))));simp;repeat refine sdQ ?_
 refine hK _ (tn (Q4 (st':=⟨Yh c_ b2 [(9,iV 0)],Y5 (YT b2 (Yy v56 (Y9 v56 []))),7⟩) (wkI8 7) ?_));clear hK K;replace ⟨e57,h,h57⟩:=bind_some h;refine Qk (fun b57:List Int=>⟨Yh c_ b2 [],Y5 (YT b2 (Yw v56 b57 (Y9 v56 [(7,rI b57)]))),8⟩) (fun b57=>b57=e57) ?_ ?_
 ·refine Q7 (Qu h (fun s62:List Int × Int=>⟨Yh c_ b2 [(9,iV s62.2)],Y5 (YT b2 (Yo v56 s62 (Y9 v56 [(7,rI s62.1)]))),8⟩) (Q2V ⟨Yh c_ b2 [(9,iV 0)],Y5 (YT b2 (Y0e v56 (Y9 v56 [(7,rI [])]))),8⟩ (Wk.nils [(7,1)] (by simp) (by simp) (by simp [nlA]) (by simp [entN,nlL,nlA,Cat.cells,SF.cells,UA,U1,IA,I1,LA,L1,BA,B1,EA,E1,E2,eB,eI,eL]) (by simp)) (wkI8 8)) ?_);clear h;intro k62 s62 c62 h hk62;refine Q1 (Q1 (runQ hN fun K hK=>?_));simp;repeat refine sdQ ?_
  refine hK _ ?_;clear hK K;refine tn (Qa rfl (fun g=>?_) fun g=>?_)
  ·have g63:s62.2<(b2.length:Int):=gQ;clear g;replace h:=if_l g63 h;refine Qc (tn (Q1 (Q7 (runQ hN fun K hK=>?_))));replace ⟨a64,h⟩:=Q0 h;replace ⟨a65,h⟩:=Q0 h;(try simp only [qE,qG,zB] at a65);simp [at_E (c:=eL) a64,a65];(repeat refine sdQ ?_);refine hK _ ?_;clear hK K;refine bn (tn (Q4 (st':=⟨Yh c_ b2 [(9,iV s62.2)],Y5 (YT b2 ((2,.mix 7 [(Y0l v56 [.own 7 0 ((s62.1++[((gx b2 s62.2).length:Int)]).length),nS])])::Y9 v56 [(7,rI (s62.1++[((gx b2 s62.2).length:Int)]))])),8⟩) (wkQ8 [(0,0),(1,1),(2,2),(3,3),(4,4),(5,5),(6,6),(10,7)]) (runQ hN fun K hK=>?_)));replace ⟨a66,h⟩:=Q0 h;simp [Qm a66];(repeat refine sdQ ?_);refine hK _ ?_;clear hK K;cases h;exact rn (s':=(s62.1++[((gx b2 s62.2).length:Int)],s62.2+1)) hk62 (wkI8 8)
  have g63:¬ (s62.2<(b2.length:Int)):=gQ;clear g;replace h:=if_r g63 h;refine Qp (tx (lx (bh ?_)));cases h;exact jn (b:=s62.1) hk62 (wkI8 8)
 intro b57 hb57;have h:=h57;try rw [← hb57] at h
 clear h57;try dsimp only at h
 refine Q1 (Q1 (runQ hN fun K hK=>?_));simp;repeat refine sdQ ?_
 refine hK _ (tn (Q4 (st':=⟨Yh c_ b2 [(10,iV 0)],Y5 (YT b2 (Yw v56 b57 (Y9 v56 [(7,rI b57)]))),8⟩) (wkI8 8) ?_));clear hK K;replace ⟨e67,h,h67⟩:=bind_some h;refine Qk (fun b67:List (List Int)=>⟨[(4,.adr 0 0 0),(8,.adr 1 0 0)],Y5 (YQ v56 b57 b67 []),8⟩) (fun b67=>b67=e67) ?_ ?_
 ·refine Q7 (Qu h (fun s95:List (List Int) × Int=>⟨Yh c_ b2 [(10,iV s95.2)],Y5 (YT b2 (Y2 v56 b57 s95 [])),9⟩) (Q2V ⟨Yh c_ b2 [(10,iV 0)],Y5 (YT b2 ((2,.mix 7 [(Y0l v56 [.own 7 0 b57.length,.own 8 0 0])])::Y9 v56 [(7,rI b57),(8,.row 1 (Ls []))])),9⟩ (Wk.nils [(8,1)] (by simp) (by simp) (by simp [nlA]) (by simp [entN,nlL,nlA,Cat.cells,SF.cells,UA,U1,IA,I1,LA,L1,BA,B1,EA,E1,E2,eB,eI,eL]) (by simp)) (wkI8 9)) ?_);clear h;intro k95 s95 c95 h hk95;refine Q1 (Q1 (runQ hN fun K hK=>?_));simp;repeat refine sdQ ?_
  refine hK _ ?_;clear hK K;refine tn (Qa rfl (fun g=>?_) fun g=>?_)
  ·have g96:s95.2<(c_.fr.length:Int):=gQ;clear g;replace h:=if_l g96 h;refine Qc (tn (Q1 (Q7 (Q1 (runQ hN fun K hK=>?_)))));simp;(repeat refine sdQ ?_);refine hK _ ?_;clear hK K;refine tn (Q4 (st':=⟨Yh c_ b2 [(10,iV s95.2),(11,.own 9 0 0)],Y5 (YT b2 (Y2 v56 b57 s95 [(9,.mix 1 [])])),10⟩) (wkI8 10) (Q1 (runQ hN fun K hK=>?_)));replace ⟨a97,h⟩:=Q0 h;replace ⟨a98,h⟩:=Q0 h;replace ⟨a99,h⟩:=Q0 h;replace ⟨a100,h⟩:=Q0 h;simp [at_I a97,at_E (c:=eL) a98,at_I a99,at_E (c:=eL) a100];(repeat refine sdQ ?_);refine hK _ ?_;clear hK K;refine tn (Q4 (st':=⟨Yh c_ b2 ((10,iV s95.2)::(11,.own 9 0 0)::YE b2 c_ s95 []),Y5 (YT b2 (Y2 v56 b57 s95 ((9,.mix 1 [])::YI c_ s95 []))),12⟩) (wkI8 12) (Q1 (Q1 (runQ hN fun K hK=>?_))));simp;(repeat refine sdQ ?_);refine hK _ (tn (Q4 (st':=⟨Yh c_ b2 ((10,iV s95.2)::(11,.own 9 0 0)::YE b2 c_ s95 [(14,iV 0)]),Y5 (YT b2 (Y2 v56 b57 s95 ((9,.mix 1 [])::YI c_ s95 []))),12⟩) (wkI8 12) ?_));clear hK K;replace ⟨e101,h,h101⟩:=bind_some h
   refine Qk (fun b101:List Int=>⟨Yh c_ b2 [(10,iV s95.2),(11,.own 9 0 b101.length)],Y5 (YT b2 (Y2 v56 b57 s95 [(9,rI b101)])),10⟩) (fun b101=>b101=e101) ?_ ?_
   ·refine Q7 (Qu h (fun s111:List Int × Int=>⟨Yh c_ b2 ((10,iV s95.2)::(11,.own 9 0 s111.1.length)::YE b2 c_ s95 [(14,iV s111.2)]),Y5 (YT b2 (Y2 v56 b57 s95 ((9,rI s111.1)::YI c_ s95 []))),12⟩) (Q2V ⟨Yh c_ b2 ((10,iV s95.2)::(11,.own 9 0 0)::YE b2 c_ s95 [(14,iV 0)]),Y5 (YT b2 (Y2 v56 b57 s95 ((9,rI [])::YI c_ s95 []))),12⟩ (Wk.nils [] (by simp) (by simp) (by simp [nlA]) (by simp [entN,nlL,nlA,Cat.cells,SF.cells,UA,U1,IA,I1,LA,L1,BA,B1,EA,E1,E2,eB,eI,eL]) (by simp)) (wkI8 12)) ?_);clear h;intro k111 s111 c111 h hk111;refine Q1 (Q1 (runQ hN fun K hK=>?_));simp [at_E (c:=eL) a98];(repeat refine sdQ ?_);refine hK _ ?_;clear hK K;refine tn (Qa rfl (fun g=>?_) fun g=>?_)
    ·have g112:s111.2<((gx b2 (ix c_.fr s95.2)).length:Int):=gQ;clear g;replace h:=if_l g112 h;refine Qc (tn (Q1 (Q7 (runQ hN fun K hK=>?_))));replace ⟨a113,h⟩:=Q0 h;replace ⟨a114,h⟩:=Q0 h;replace ⟨a115,h⟩:=Q0 h;replace ⟨a116,h⟩:=Q0 h;simp [at_E (c:=eL) a98,at_L a113,(show (Is (rx (gx b2 (ix c_.fr s95.2)) s111.2))[0]? = some [iV (ix (rx (gx b2 (ix c_.fr s95.2)) s111.2) 0)] from at_I (j:=0) a114),at_L a115,(show (Is (rx (gx b2 (ix c_.fr s95.2)) s111.2))[1]? = some [iV (ix (rx (gx b2 (ix c_.fr s95.2)) s111.2) 1)] from at_I (j:=1) a116)];(repeat with_reducible refine sdQ ?_);replace ⟨v117,hv117,h⟩:=bind_some h;refine Q3 (Q9d _ _ _ v117 hv117) (.cons (.aggL (.cons .val (.cons .lst (.cons .lst (.cons .lst (.cons .lst .nil)))))) (.cons .val (.cons .val .nil))) ?_;simp [at_E (c:=eL) a98,at_L a113,at_L a115];(repeat with_reducible refine sdQ ?_);replace ⟨v118,hv118,h⟩:=bind_some h;refine Q3 (Q5n _ _ v118 hv118) (.cons (.whole (by simp [at_E (c:=eL) a100,eL]) (by simp) (by simp [at_E (c:=eL) a100,eL])) (.cons (.lits (es:=_) rfl (.cons rfl (.cons .val .nil) (.cons rfl (.cons .val .nil) .nil)) rfl) .nil)) ?_;replace ⟨a119,h⟩:=Q0 h;(try simp only [qE,qG,zB] at a119);simp [at_E (c:=eL) a98,at_L a113,at_L a115,a119];(repeat refine sdQ ?_);refine hK _ ?_;clear hK K;refine bn (tn (Q4 (st':=⟨Yh c_ b2 ((10,iV s95.2)::(11,.own 9 0 ((s111.1++[v118]).length))::YE b2 c_ s95 [(14,iV s111.2)]),Y5 (YT b2 (Y2 v56 b57 s95 ((9,rI (s111.1++[v118]))::YI c_ s95 []))),12⟩) (wkQ8 [(0,0),(1,1),(2,2),(3,3),(4,4),(5,5),(6,6),(7,7),(8,8),(20,9),(10,10),(11,11)]) (runQ hN fun K hK=>?_)));replace ⟨a120,h⟩:=Q0 h;simp [Qm a120];(repeat refine sdQ ?_);refine hK _ ?_;clear hK K;cases h;exact rn (s':=(s111.1++[v118],s111.2+1)) hk111 (wkI8 12)
    have g112:¬ (s111.2<((gx b2 (ix c_.fr s95.2)).length:Int)):=gQ;clear g;replace h:=if_r g112 h;refine Qp (tx (lx (bh ?_)));cases h;exact jn (b:=s111.1) hk111 (wkI8 10)
   intro b101 hb101;have h:=h101;(try rw [← hb101] at h);clear h101;(try dsimp only at h);refine runQ hN fun K hK=>?_;replace ⟨a121,h⟩:=Q0 h;(try simp only [qE,qG,zB] at a121);simp [a121];(repeat refine sdQ ?_);refine hK _ ?_;clear hK K;refine bn (tn (Q4 (st':=⟨Yh c_ b2 [(10,iV s95.2)],Y5 (YT b2 ((2,.mix 7 [(Y0l v56 [.own 7 0 b57.length,.own 8 0 ((s95.1++[b101]).length)])])::Y9 v56 [(7,rI b57),(8,.row 1 (Ls (s95.1++[b101])))])),9⟩) (wkQ8 [(0,0),(1,1),(2,2),(3,3),(4,4),(5,5),(6,6),(7,7),(11,8)]) (runQ hN fun K hK=>?_)));replace ⟨a122,h⟩:=Q0 h;simp [Qm a122];(repeat refine sdQ ?_);refine hK _ ?_;clear hK K;cases h;exact rn (s':=(s95.1++[b101],s95.2+1)) hk95 (wkI8 9)
  have g96:¬ (s95.2<(c_.fr.length:Int)):=gQ;clear g;replace h:=if_r g96 h;refine Qp (tx (lx (bh ?_)));cases h;exact jn (b:=s95.1) hk95 (wkQ8 [(0,0),(2,1),(3,2),(4,3),(5,4),(6,5),(7,6),(8,7)])
 intro b67 hb67;have h:=h67;try rw [← hb67] at h
 clear h67;try dsimp only at h
 refine Q1 (runQ hN fun K hK=>?_);simp;repeat refine sdQ ?_
 refine hK _ (tn (Q4 (st':=⟨[(4,.adr 0 0 0)],YR v56 b57 b67 [],7⟩) (wkQ8 [(0,0),(2,1),(3,2),(4,3),(5,4),(6,5),(7,6)]) (Ql ?_)));clear hK K;have hr:=zC h;rw [← hr];refine ⟨_,(.cell tf_33 rfl rfl rfl (by simp) (by simp) .nil),?_⟩;refine ⟨(.agg rfl .nil),[iV v56.n,lI v56.fr,lI v56.to,lI v56.id,.lst true 1 (Ls v56.cs),lI b57,.lst true 1 (Ls b67)],[1,2,3,4,5,6],by simp [Cat.cells,SF.cells,UA,U1,IA,I1,LA,L1,BA,B1,EA,E1,E2,eB,eI,eL],by simp,(UpL.refl _)⟩
attribute [local simp] unk unA unE unT unC flat eL eI Qf Q28 Q6 Qe Cat.cells XQuery.cells XTerm.cells
noncomputable def Q1G (c_:Cat) (q_:XQuery) (t_:XTerm):Option Int :=
 ass (0≤t_.arrow_∧t_.arrow_<(c_.to.length:Int)) <|
 (QA (σ:=Int × Int) (ε:=Int) (fun s8 =>
  if s8.2<t_.variable_ then
   ass (0≤s8.2∧s8.2<(q_.variables_.length:Int)) <|
   (Q2F c_ (ix q_.variables_ s8.2) (ix c_.to t_.arrow_)).bind fun v11 =>
   ass (B64 (s8.1+(v11.length:Int))) <|
   ass (B64 (s8.2+1)) <|
   some (Ctl.next (s8.1+(v11.length:Int),s8.2+1))
  else
   some (Ctl.ret s8.1)) fuel (0,0)).bind fun b2 =>
 ass (0≤t_.variable_∧t_.variable_<(q_.variables_.length:Int)) <|
 (Q2F c_ (ix q_.variables_ t_.variable_) (ix c_.to t_.arrow_)).bind fun v15 =>
 (Q1f v15 t_.arrow_).bind fun v16 =>
 ass (B64 (b2+v16)) <|
 some (b2+v16)
@[simp] abbrev Yn (a:Cat) (b:XQuery) (c:List (Nat × Ent)):List (Nat × Ent):=(0,.mix 5 [(Cat.cells true a)])::(1,.mix 4 [(XQuery.cells true b)])::c
@[simp] abbrev Yq (a:List (Nat × AV)):List (Nat × AV):=(3,.adr 0 0 0)::(4,.adr 1 0 0)::(5,.adr 2 0 0)::a
@[simp] abbrev Y0f (a:XTerm) (b:List (Nat × Ent)):List (Nat × Ent):=(2,.mix 2 [(XTerm.cells true a)])::b
@[simp] abbrev Y0q (a:Cat) (b:XQuery) (c:List (AV)):List (AV):=.agg (a.cells true)::.agg (b.cells true)::c
theorem Q4v (c_:Cat) (q_:XQuery) (t_:XTerm) (r:Int) (h:Q1G c_ q_ t_=some r):Contract Try.prog 63 (Y0q c_ q_ [.agg (t_.cells true)]) (iV r):=by
 refine Qd (rvs:=[.tmp 6]) (rs:=[iV r]) Try.func63 rfl rfl rfl rfl (by simp [Try.f63]) fun F hN hP=>?_;unfold Q1G at h;refine Q1 (runQ hN fun K hK=>?_);simp;repeat refine sdQ ?_
 refine hK _ ?_;clear hK K;refine tn (Q4 (st':=⟨Yq [],Yn c_ q_ (Y0f t_ []),3⟩) (wkI8 3) (Q1 (runQ hN fun K hK=>?_)));replace ⟨a1,h⟩:=Q0 h;simp [at_I a1];repeat refine sdQ ?_
 refine hK _ ?_;clear hK K;refine tn (Q4 (st':=⟨Yq [(7,iV (ix c_.to t_.arrow_)),(8,iV 0)],Yn c_ q_ (Y0f t_ []),3⟩) (wkI8 3) (Q1 (Q1 (runQ hN fun K hK=>?_))));simp;repeat refine sdQ ?_
 refine hK _ (tn (Q4 (st':=⟨Yq [(7,iV (ix c_.to t_.arrow_)),(8,iV 0),(9,iV 0)],Yn c_ q_ (Y0f t_ []),3⟩) (wkI8 3) ?_));clear hK K;replace ⟨e2,h,h2⟩:=bind_some h;refine Qk (fun b2:Int=>⟨Yq [(7,iV (ix c_.to t_.arrow_)),(8,iV b2)],Yn c_ q_ (Y0f t_ []),3⟩) (fun b2=>b2=e2) ?_ ?_
 ·refine Q7 (Qu h (fun s8:Int × Int=>⟨Yq [(7,iV (ix c_.to t_.arrow_)),(8,iV s8.1),(9,iV s8.2)],Yn c_ q_ (Y0f t_ []),3⟩) (wkI8 3) ?_);clear h;intro k8 s8 c8 h hk8;refine Q1 (Q1 (runQ hN fun K hK=>?_));simp;repeat refine sdQ ?_
  refine hK _ ?_;clear hK K;refine tn (Qa rfl (fun g=>?_) fun g=>?_)
  ·have g9:s8.2<t_.variable_:=gQ;clear g;replace h:=if_l g9 h;refine Qc (tn (Q1 (Q7 (runQ hN fun K hK=>?_))));replace ⟨a10,h⟩:=Q0 h;simp [at_I a10];(repeat with_reducible refine sdQ ?_);replace ⟨v11,hv11,h⟩:=bind_some h;refine Q3 (Q6Y _ _ _ v11 hv11) (.cons (.aggL (.cons .val (.cons .lst (.cons .lst (.cons .lst (.cons .lst .nil)))))) (.cons .val (.cons .val .nil))) ?_;replace ⟨a12,h⟩:=Q0 h;simp [at_I a10,Qm a12];(repeat refine sdQ ?_);refine hK _ ?_;clear hK K;refine bn (tn (Q4 (st':=⟨Yq [(7,iV (ix c_.to t_.arrow_)),(8,iV (s8.1+(v11.length:Int))),(9,iV s8.2)],Yn c_ q_ (Y0f t_ []),3⟩) (wkI8 3) (runQ hN fun K hK=>?_)));replace ⟨a13,h⟩:=Q0 h;simp [Qm a13];(repeat refine sdQ ?_);refine hK _ ?_;clear hK K;cases h;exact rn (s':=(s8.1+(v11.length:Int),s8.2+1)) hk8 (wkI8 3)
  have g9:¬ (s8.2<t_.variable_):=gQ;clear g;replace h:=if_r g9 h;refine Qp (tx (lx (bh ?_)));cases h;exact jn (b:=s8.1) hk8 (wkI8 3)
 intro b2 hb2;have h:=h2;try rw [← hb2] at h
 clear h2;try dsimp only at h
 refine Q1 (runQ hN fun K hK=>?_);replace ⟨a14,h⟩:=Q0 h;simp [at_I a14];repeat with_reducible refine sdQ ?_
 replace ⟨v15,hv15,h⟩:=bind_some h;refine Q3 (Q6Y _ _ _ v15 hv15) (.cons (.aggL (.cons .val (.cons .lst (.cons .lst (.cons .lst (.cons .lst .nil)))))) (.cons .val (.cons .val .nil))) ?_;simp [at_I a14];repeat with_reducible refine sdQ ?_
 replace ⟨v16,hv16,h⟩:=bind_some h;refine Q3 (Q34 _ _ v16 hv16) (.cons .w (.cons .val .nil)) ?_;replace ⟨a17,h⟩:=Q0 h;simp [at_I a14,Qm a17];repeat refine sdQ ?_
 refine hK _ (tn (Q4 (st':=⟨[(6,iV (b2+v16))],[],0⟩) (wkQ8 []) (Ql ?_)));clear hK K;have hr:=zC h;rw [← hr];refine ⟨_,(.tmp .nil),?_⟩;refine ⟨(.one rfl rfl .nil),[iV (b2+v16)],[],by simp [Cat.cells,XQuery.cells,XTerm.cells,UA,U1,IA,I1,LA,L1,BA,B1,EA,E1,E2,eB,eI,eL,Q5 _ Q6 _ (fun _=>rfl),Q5 _ Qe _ (fun _=>rfl)],by simp,(UpL.refl _)⟩
section
attribute [local simp] Qh QF Qs QT QE
def fr2 (p:Nat × Nat):List Int:=[(p.1:Int),(p.2:Int)]
theorem fr2_inj (p q:Nat × Nat) (h:fr2 p=fr2 q):p=q:=by
 simp only [fr2,List.cons.injEq,and_true] at h;exact Prod.ext (by omega) (by omega)
theorem Q5H {α:Type} {n t:Nat} (ht:t<n) (g:Nat→α) (v:α):(tab n g).set t v=tab n fun y=>if y=t then v else g y:=by
 refine List.ext_getElem (by simp) fun i h1 h2=>?_;simp only [tab,List.length_set,zL,List.length_range] at h1
 by_cases q:t=i
 ·subst q;simp [tab]
 simp [tab,q,Ne.symm q]
theorem Q4Z {α:Type} [Inhabited α] {n t:Nat} (ht:t<n) (g:Nat→α):gx (tab n g) (t:Int)=g t:=by simp [gx,tab,qB,ht]
noncomputable def rowF (c:Cat) (x y:Nat):List Nat:=(rowE c x).filter fun h=>decide (toN c h=y)
theorem mem_rowF {c:Cat} {x y h:Nat}:h∈rowF c x y↔(h<c.fr.length∧frN c h=x)∧toN c h=y:=by simp [rowF,mem_rowE]
theorem Qay (c:Cat) (x y:Nat):(rowF c x y).Nodup:=List.Nodup.sublist List.filter_sublist (Q6N c x)
theorem Q5x (c:Cat) (V:List Int) (k y:Nat):atE c V (k+1) y=atE c V k y++(rowF c (VN V k) y).map fun h=>(k,h):=by
 unfold atE rowF;rw [allE,zM,List.filter_map];rfl
noncomputable def ptE (c:Cat) (V:List Int) (k j y:Nat):List (List Int):=(atE c V k y).map fr2++(((zD j).filter fun h=>decide (frN c h=VN V k)).filter fun h=>decide (toN c h=y)).map fun h=>fr2 (k,h)
theorem ptE_zero (c:Cat) (V:List Int) (k y:Nat):ptE c V k 0 y=(atE c V k y).map fr2:=by simp [ptE]
theorem ptE_all (c:Cat) (V:List Int) (k y:Nat):ptE c V k c.fr.length y=(atE c V (k+1) y).map fr2:=by
 rw [Q5x];simp [ptE,rowF,rowE,Function.comp_def]
theorem ptE_pos {c:Cat} {V:List Int} {k j:Nat} (h:frN c j=VN V k) (y:Nat):ptE c V k (j+1) y=if y=toN c j then ptE c V k j y++[fr2 (k,j)] else ptE c V k j y:=by
 by_cases q:y=toN c j
 ·rw [if_pos q];simp [ptE,zK,zM,h,q]
 rw [if_neg q];simp [ptE,zK,zM,h,Ne.symm q]
theorem ptE_neg {c:Cat} {V:List Int} {k j:Nat} (h:¬ frN c j=VN V k) (y:Nat):ptE c V k (j+1) y=ptE c V k j y:=by
 simp [ptE,zK,zM,h]
theorem ptE_len {c:Cat} (hc:c.Is) (V:List Int) (k j y:Nat) (hj:j≤c.fr.length):(ptE c V k j y).length≤k * 40+40:=by
 have h1:=Q3l hc V k;have h2:=Q9n c V k y;have h3:=zN (fun h=>decide (toN c h=y)) ((zD j).filter fun h=>decide (frN c h=VN V k));have h4:=zN (fun h=>decide (frN c h=VN V k)) (zD j);have h5:=hc.nums;simp only [List.length_range] at h4;simp only [ptE,qE,zL];omega
noncomputable def freA (c:Cat) (V:List Int) (a:Nat):List Int:=(atE c V V.length (frN c a)).map fun p=>(plc (atE c V V.length (toN c a)) (p.1,cpN c p.2 a):Int)
noncomputable def QM (c:Cat) (V:List Int):SF:=⟨c,tab c.id.length fun y=>((atE c V V.length y).length:Int),tab c.fr.length (freA c V)⟩
theorem Q9z {L:List (List Int)} (hn:L.length≤5000000) (x:List Int):Q1Y L x=some (posL L x):=by
 unfold Q1Y Q2f posL;refine Q42 L.length (fun i=>rx L i=x) (eb:=fun i=>Sum.inr (i:Int)) (eg:=Sum.inl ()) (by omega) (fun i hi h=>?_) (fun i hi h=>?_) (by simp) (fun m hm hp hlt=>?_) fun h=>?_
 ·rw [if_pos (by omega),Q2 (by omega)];simp only [zF,decide_eq_true_eq,if_neg h];rw [Q2 (by unfold B64;omega)]
 ·rw [if_pos (by omega),Q2 (by omega)];simp only [zF,decide_eq_true_eq,if_pos h]
 ·rw [Q7a hm hp hlt]
 simp only
 congr 1
 unfold fstN;have:(zD L.length).find? (fun i:Nat=>bo (rx L i=x))=none:=by
  rw [List.find?_eq_none];intro i hi;simp [QH (h i (by simpa using hi))]
 rw [this];rfl
structure VarQ (c:Cat) (V:List Int):Prop where
 len:V.length≤4
 at':∀ i:Nat,i<V.length→ix V i=(VN V i:Int)∧VN V i<c.id.length
theorem e_l19Free {c:Cat} {V:List Int} (hc:c.Is) (hV:VarQ c V):Q2P c V=some (QM c V):=by
 have hn:=hc.nums;have hl:=hV.len;unfold Q2P;rw [Q2 (by omega)];have hcn:c.n.toNat=c.id.length:=by omega
 refine QN V.length (fun k=>tab c.id.length fun y=>(atE c V k y).map fr2) (e:=tab c.id.length fun y=>(atE c V V.length y).map fr2) (by
  rw [hcn];refine List.ext_getElem (by simp) fun i h1 h2=>?_;simp [tab,atE,allE]) (by omega) (fun k hk=>?_) (by simp only;rw [if_neg (by omega)]) ?_
 ·obtain ⟨v1,v2⟩:=hV.at' k hk;simp only;rw [if_pos (by omega),Option.bind_assoc];refine QN c.fr.length (fun j=>tab c.id.length fun y=>ptE c V k j y) (e:=tab c.id.length fun y=>(atE c V (k+1) y).map fr2) (by simp only [ptE_zero]) (by omega) (fun j hj=>?_) (by simp only;rw [if_neg (by omega)];simp only [ptE_all]) ?_
  ·obtain ⟨f1,f2,f3,f4⟩:=Q1o hc hj;have hp:=ptE_len hc V k j (toN c j) (by omega);simp only;rw [if_pos (by omega),Q2 (by omega),Q2 (by omega),f1,v1]
   by_cases q:frN c j=VN V k
   ·rw [if_pos (by omega),Q2 (by omega),Q2 (by omega),f3,Q2 (by simp;omega),Q4Z f4,Q2 (by simp;omega),Q2 (by simp;omega)];simp only [zF,zJ];rw [Q2 (by unfold B64;omega),Q5H f4];have:(fun y=>if y=toN c j then ptE c V k j (toN c j)++[[(k:Int),(j:Int)]] else ptE c V k j y)=fun y=>ptE c V k (j+1) y:=by
     funext y
     rw [ptE_pos q];split
     ·rename_i e;rw [e];rfl
     rfl
    rw [this]
   rw [if_neg (by omega)];simp only [zF];rw [Q2 (by unfold B64;omega)];simp only [ptE_neg q]
  simp only [zF];rw [Q2 (by unfold B64;omega)]
 unfold Q2G;rw [Q2 hc.1.size2.1];simp only [zF];have tl:(tab c.id.length fun y=>(atE c V V.length y).map fr2).length=c.id.length:=by simp
 have aL:∀ y,(atE c V V.length y).length≤160:=fun y=>by have h1:=Q3l hc V V.length;have h2:=Q9n c V V.length y;omega
 refine tabg c.id.length (fun y=>((atE c V V.length y).length:Int)) (e:=tab c.id.length fun y=>((atE c V V.length y).length:Int)) (by omega) (fun y hy=>?_) (by simp only;rw [if_neg (by omega)]) ?_
 ·simp only;rw [if_pos (by omega),Q2 (by omega),Q4Z hy];simp
 refine tabg c.fr.length (freA c V) (e:=tab c.fr.length (freA c V)) (by omega) (fun a ha=>?_) (by simp only;rw [if_neg (by omega)]) rfl;obtain ⟨f1,f2,f3,f4⟩:=Q1o hc ha;simp only;rw [if_pos (by omega),Q2 (by omega),f1,Q2 (by omega),Q2 (by omega),f3,Q2 (by omega),Q4Z f2,Q4Z f4];refine tabg (atE c V V.length (frN c a)).length (fun e=>ix (freA c V a) e) (e:=freA c V a) (by have:=aL (frN c a);omega) (fun e he=>?_) (by
  simp only;rw [if_neg (by simp)]
  congr 2
  refine List.ext_getElem (by simp [freA]) fun i h1 h2=>?_;simp only [tab,List.getElem_map,List.getElem_range];simp only [freA,zL] at h2;simp [ix,qB,freA,h2]) rfl
 have hm:=zI he;obtain ⟨⟨m1,m2,m3⟩,m4⟩:=mem_atE.1 hm;have hr:rx ((atE c V V.length (frN c a)).map fr2) e=fr2 (atE c V V.length (frN c a))[e]:=by simp [rx,qB,he]
 have h0:ix (fr2 (atE c V V.length (frN c a))[e]) 0=((atE c V V.length (frN c a))[e].1:Int):=rfl;have h1:ix (fr2 (atE c V V.length (frN c a))[e]) 1=((atE c V V.length (frN c a))[e].2:Int):=rfl;obtain ⟨g1,g2,g3,g4⟩:=Q1o hc m2;have hcp:=Q4h hc m2 ha m4;have hpm:((atE c V V.length (frN c a))[e].1,cpN c (atE c V V.length (frN c a))[e].2 a)∈atE c V V.length (toN c a):=mem_atE.2 ⟨⟨m1,hcp.2.1,by rw [hcp.2.2.1];exact m3⟩,hcp.2.2.2⟩;have hval:ix (freA c V a) e=(plc (atE c V V.length (toN c a)) ((atE c V V.length (frN c a))[e].1,cpN c (atE c V V.length (frN c a))[e].2 a):Int):=by simp [ix,qB,freA,he]
 simp only;rw [if_pos (by simp;omega),Q2 (by simp;omega),hr,h0,h1,Q2 (by simp [fr2]),Q2 (by simp;omega),Q2 (by simp [fr2]),(Q9v hc (by omega) (by omega)).1];simp only [zF];rw [hcp.1,Q9z (by have:=aL (toN c a);simp;omega)];have hpos:=posL_map (Q86 c V V.length (toN c a)) (f:=fr2) fr2_inj hpm;simp only [zF];rw [show [((atE c V V.length (frN c a))[e].1:Int),(cpN c (atE c V V.length (frN c a))[e].2 a:Int)]=fr2 ((atE c V V.length (frN c a))[e].1,cpN c (atE c V V.length (frN c a))[e].2 a) from rfl,hpos,hval]
theorem plc_up {c:Cat} {V:List Int} {k y:Nat} {p:Nat × Nat} (h:p∈atE c V k y):∀ d,plc (atE c V (k+d) y) p=plc (atE c V k y) p
 | 0=>rfl
 | d+1=>by
  have ih:=plc_up h d;have hm:p∈atE c V (k+d) y:=by
   rw [mem_atE] at h ⊢;exact ⟨⟨by omega,h.1.2⟩,h.2⟩
  rw [show k+(d+1)=(k+d)+1 by omega,Q5x];unfold plc at ih ⊢;rw [List.idxOf_append,if_pos hm,ih]
theorem Q9H (k a:Nat):∀ R:List Nat,(R.map fun h=>(k,h)).idxOf (k,a)=R.idxOf a
 | []=>rfl
 | x :: R=>by
  rw [List.map_cons,List.idxOf_cons,List.idxOf_cons,Q9H k a R]
  by_cases q:x=a
  ·subst q;simp
  have:((k,x) == (k,a))=false:=by simp [q]
  rw [this];have:(x == a)=false:=by simp [q]
  rw [this]
theorem plc_row {c:Cat} {V:List Int} {v a y:Nat} (hv:v<V.length) (ha:a∈rowF c (VN V v) y):plc (atE c V V.length y) (v,a)=(atE c V v y).length+(rowF c (VN V v) y).idxOf a:=by
 obtain ⟨⟨a1,a2⟩,a3⟩:=mem_rowF.1 ha;have h1:(v,a)∈atE c V (v+1) y:=mem_atE.2 ⟨⟨by simp,a1,a2⟩,a3⟩;have e:=plc_up h1 (V.length - (v+1));rw [show v+1+(V.length - (v+1))=V.length by omega] at e;rw [e,Q5x];unfold plc;rw [List.idxOf_append,if_neg (fun q=>by have:=(mem_atE.1 q).1.1;simp at this),Q9H];omega
theorem e_homQ {c:Cat} (hc:c.Is) (x y:Nat):Q2F c x y=some ((rowF c x y).map Int.ofNat):=by
 have hn:=hc.nums;unfold Q2F;refine QN c.fr.length (fun j=>(((zD j).filter fun h=>decide (frN c h=x)).filter fun h=>decide (toN c h=y)).map Int.ofNat) (e:=(rowF c x y).map Int.ofNat) (by simp) (by omega) (fun j hj=>?_) (by simp only;rw [if_neg (by omega)];rfl) rfl;obtain ⟨f1,f2,f3,f4⟩:=Q1o hc hj;have h3:=zN (fun h=>decide (toN c h=y)) ((zD j).filter fun h=>decide (frN c h=x));have h4:=zN (fun h=>decide (frN c h=x)) (zD j);simp only [List.length_range] at h4;simp only [zK,zM,List.filter_cons,List.filter_nil];rw [if_pos (by omega),Q2 (by omega),f1]
 by_cases q1:frN c j=x
 ·have q1':(frN c j:Int)=x:=by omega
  simp only [q1,q1',decide_true,if_true];rw [Q2 (by omega),f3]
  by_cases q2:toN c j=y
  ·have q2':(toN c j:Int)=y:=(by omega);simp only [q2,q2',decide_true,if_true,zF,beq_self_eq_true];rw [Q2 (by simp only [qE,zL,List.length_singleton];omega)];simp only [zF];rw [Q2 (by unfold B64;omega)];simp [q2]
  have q2':¬ (toN c j:Int)=y:=by omega
  have q3:((toN c j:Int) == y)=false:=by simpa using q2'
  simp only [q2,q2',q3,decide_false,if_false,Bool.false_eq_true,zF];rw [Q2 (by unfold B64;omega)];simp [q2]
 have q1':¬ (frN c j:Int)=x:=by omega
 simp only [q1,q1',decide_false,if_false,Bool.false_eq_true,zF,List.append_nil];rw [Q2 (by unfold B64;omega)];simp
theorem e_idxQ {L:List Int} {v:Int} (hl:L.length≤1000000):Q1f L v=some (idxL L v):=Q9y hl
theorem idxL_of {R:List Nat} (hn:R.Nodup) {a:Nat} (h:a∈R):idxL (R.map Int.ofNat) a=(R.idxOf a:Int):=by
 have hl:R.idxOf a<R.length:=List.idxOf_lt_length_iff.2 h;unfold idxL;refine Q7a (by simpa using hl) ?_ fun k hk e=>?_
 ·simp [ix,qB,hl]
 have hk2:k<R.length:=Nat.lt_trans hk hl;simp only [ix,zJ,qB,List.getElem?_map,qF hk2,Option.map_some,qY,Int.ofNat_eq_natCast] at e;have e2:R[k]=a:=by omega
 have:=hn.idxOf_getElem k hk2;rw [e2] at this;omega
theorem e_pairQ {c:Cat} {q:XQuery} (hc:c.Is) (hV:VarQ c q.variables_) {v a:Nat} (hv:v<q.variables_.length) (ha:a<c.fr.length) (hf:frN c a=VN q.variables_ v) :
  Q1G c q ⟨v,a⟩=some (plc (atE c q.variables_ q.variables_.length (toN c a)) (v,a):Int):=by
 have hn:=hc.nums;have hl:=hV.len;obtain ⟨f1,f2,f3,f4⟩:=Q1o hc ha;have aL:∀ k y,k≤4→(atE c q.variables_ k y).length≤160:=fun k y hk=>by have h1:=Q3l hc q.variables_ k;have h2:=Q9n c q.variables_ k y;omega
 have rl:∀ x y,(rowF c x y).length≤40:=fun x y=>by
  have h1:=zN (fun h=>decide (toN c h=y)) (rowE c x);have h2:=Q5F c x;unfold rowF;omega
 unfold Q1G;simp only;rw [Q2 (by omega),f3];refine QN v (fun s=>((atE c q.variables_ s (toN c a)).length:Int)) (e:=((atE c q.variables_ v (toN c a)).length:Int)) (by simp [atE,allE]) (by omega) (fun s hs=>?_) (by simp only;rw [if_neg (by omega)]) ?_
 ·obtain ⟨v1,v2⟩:=hV.at' s (by omega);have:=aL s (toN c a) (by omega);have r:=rl (VN q.variables_ s) (toN c a);simp only;rw [if_pos (by omega),Q2 (by omega),v1,e_homQ hc];simp only [zF,zL];rw [Q2 (by unfold B64;omega),Q2 (by unfold B64;omega),Q5x];simp
 obtain ⟨v1,v2⟩:=hV.at' v hv;have:=aL v (toN c a) (by omega);have hm:a∈rowF c (VN q.variables_ v) (toN c a):=mem_rowF.2 ⟨⟨ha,hf⟩,rfl⟩;have r:=rl (VN q.variables_ v) (toN c a);have hi:(rowF c (VN q.variables_ v) (toN c a)).idxOf a<(rowF c (VN q.variables_ v) (toN c a)).length:=List.idxOf_lt_length_iff.2 hm;rw [Q2 (by omega),v1,e_homQ hc];simp only [zF];rw [e_idxQ (by simp;omega),idxL_of (Qay _ _ _) hm];simp only [zF];rw [Q2 (by unfold B64;omega),plc_row hv hm];simp
end
attribute [local simp] unk unA unE unT unC flat eL eI Qf
noncomputable def Q2s (p_:List Int):Option (List (List Int)) :=
 (QA (σ:=List (List Int) × Int) (ε:=List (List Int)) (fun s7 =>
  if s7.2<(p_.length:Int) then
   ass (0≤s7.2∧s7.2<(p_.length:Int)) <|
   (Q1f p_ (ix p_ s7.2)).bind fun v10 =>
   ass ((s7.1++[[v10,s7.2]]).length≤1073741824) <|
   ass (B64 (s7.2+1)) <|
   some (Ctl.next (s7.1++[[v10,s7.2]],s7.2+1))
  else
   some (Ctl.ret s7.1)) fuel ([],0)).bind fun b1 =>
 some b1
theorem Q8o (p_:List Int) (r:List (List Int)) (h:Q2s p_=some r):Contract Try.prog 66 [lI p_] (.lst true 1 (Ls r)):=by
 refine Qd (rvs:=[.tmp 2]) (rs:=[.lst true 1 (Ls r)]) Try.func66 rfl rfl rfl rfl (by simp [Try.f66]) fun F hN hP=>?_;unfold Q2s at h;refine Q1 (runQ hN fun K hK=>?_);simp;repeat refine sdQ ?_
 refine hK _ ?_;clear hK K;refine tn (Q4 (st':=⟨[(0,lI p_)],[],0⟩) (wkQ8 []) (Q1 (runQ hN fun K hK=>?_)));simp;repeat refine sdQ ?_
 refine hK _ ?_;clear hK K;refine tn (Q4 (st':=⟨[(0,lI p_),(3,.own 0 0 0)],[(0,.mix 1 [])],1⟩) (wkQ8 [(0,0)]) (Q1 (Q1 (runQ hN fun K hK=>?_))));simp;repeat refine sdQ ?_
 refine hK _ (tn (Q4 (st':=⟨[(0,lI p_),(3,.own 0 0 0),(4,iV 0)],[(0,.mix 1 [])],1⟩) (wkQ8 [(0,0)]) ?_));clear hK K;replace ⟨e1,h,h1⟩:=bind_some h;refine Qk (fun b1:List (List Int)=>⟨[(3,.own 0 0 b1.length)],[(0,.row 1 (Ls b1))],1⟩) (fun b1=>b1=e1) ?_ ?_
 ·refine Q7 (Qu h (fun s7:List (List Int) × Int=>⟨[(0,lI p_),(3,.own 0 0 s7.1.length),(4,iV s7.2)],[(0,.row 1 (Ls s7.1))],1⟩) (Q2V ⟨[(0,lI p_),(3,.own 0 0 0),(4,iV 0)],[(0,.row 1 (Ls []))],1⟩ (Wk.nils [] (by simp) (by simp) (by simp [nlA]) (by simp [entN,nlL,nlA,UA,U1,IA,I1,LA,L1,BA,B1,EA,E1,E2,eB,eI,eL]) (by simp)) (wkQ8 [(0,0)])) ?_);clear h;intro k7 s7 c7 h hk7;refine Q1 (Q1 (runQ hN fun K hK=>?_));simp;repeat refine sdQ ?_
  refine hK _ ?_;clear hK K;refine tn (Qa rfl (fun g=>?_) fun g=>?_)
  ·have g8:s7.2<(p_.length:Int):=gQ;clear g;replace h:=if_l g8 h;refine Qc (tn (Q1 (Q7 (runQ hN fun K hK=>?_))));replace ⟨a9,h⟩:=Q0 h;simp [at_I a9];(repeat with_reducible refine sdQ ?_);replace ⟨v10,hv10,h⟩:=bind_some h;refine Q3 (Q34 _ _ v10 hv10) (.cons .lst (.cons .val .nil)) ?_;replace ⟨a11,h⟩:=Q0 h;(try simp only [qE,qG,zB] at a11);simp [at_I a9,a11];(repeat refine sdQ ?_);refine hK _ ?_;clear hK K;refine bn (tn (Q4 (st':=⟨[(0,lI p_),(3,.own 0 0 ((s7.1++[[v10,s7.2]]).length)),(4,iV s7.2)],[(0,.row 1 (Ls (s7.1++[[v10,s7.2]])))],1⟩) (wkQ8 [(4,0)]) (runQ hN fun K hK=>?_)));replace ⟨a12,h⟩:=Q0 h;simp [Qm a12];(repeat refine sdQ ?_);refine hK _ ?_;clear hK K;cases h;exact rn (s':=(s7.1++[[v10,s7.2]],s7.2+1)) hk7 (wkQ8 [(0,0)])
  have g8:¬ (s7.2<(p_.length:Int)):=gQ;clear g;replace h:=if_r g8 h;refine Qp (tx (lx (bh ?_)));cases h;exact jn (b:=s7.1) hk7 (wkQ8 [(0,0)])
 intro b1 hb1;have h:=h1;try rw [← hb1] at h
 clear h1;try dsimp only at h
 refine Q1 (runQ hN fun K hK=>?_);simp;repeat refine sdQ ?_
 refine hK _ (tn (Q4 (st':=⟨[(2,.own 0 0 b1.length)],[(0,.row 1 (Ls b1))],1⟩) (wkQ8 [(0,0)]) (Ql ?_)));clear hK K;have hr:=zC h;rw [← hr];refine ⟨_,(.tmp .nil),?_⟩;refine ⟨(.one rfl rfl .nil),[.lst true 1 (Ls b1)],[0],by simp [UA,U1,IA,I1,LA,L1,BA,B1,EA,E1,E2,eB,eI,eL],by simp,(UpL.refl _)⟩
section
attribute [local simp] Qh QF Qs QT QE
def tP (t:XTerm):Nat × Nat:=(t.variable_.toNat,t.arrow_.toNat)
def lQ (q:XQuery) (i:Nat):Nat × Nat:=tP (gx q.left_ i)
def rQ (q:XQuery) (i:Nat):Nat × Nat:=tP (gx q.right_ i)
structure TmQ (c:Cat) (V:List Int) (t:XTerm):Prop where
 v:0≤t.variable_∧t.variable_<(V.length:Int)
 a:0≤t.arrow_∧t.arrow_<(c.fr.length:Int)
 f:frN c (tP t).2=VN V (tP t).1
theorem TmQ.e {c:Cat} {V:List Int} {t:XTerm} (h:TmQ c V t):t.variable_=((tP t).1:Int)∧t.arrow_=((tP t).2:Int)∧(tP t).1<V.length∧(tP t).2<c.fr.length:=by
 have h1:=h.v;have h2:=h.a;simp only [tP];omega
structure QIs (c:Cat) (q:XQuery):Prop where
 v:VarQ c q.variables_
 nl:q.left_.length≤6
 lr:q.right_.length=q.left_.length
 cl:∀ i:Nat,i<q.left_.length→TmQ c q.variables_ (gx q.left_ i)
 cr:∀ i:Nat,i<q.left_.length→TmQ c q.variables_ (gx q.right_ i)
 ct:∀ i:Nat,i<q.left_.length→toN c (lQ q i).2=toN c (rQ q i).2
 nout:q.output_.length≤4
 out:∀ x∈q.output_,inR (q.variables_.length:Int) x=true
noncomputable def Al (c:Cat) (q:XQuery):List (Nat × Nat):=allE c q.variables_ q.variables_.length
noncomputable def At (c:Cat) (q:XQuery) (y:Nat):List (Nat × Nat):=atE c q.variables_ q.variables_.length y
theorem mem_Al {c:Cat} {q:XQuery} {p:Nat × Nat}:p∈Al c q↔p.1<q.variables_.length∧p.2<c.fr.length∧frN c p.2=VN q.variables_ p.1:=mem_allE
theorem mem_At {c:Cat} {q:XQuery} {p:Nat × Nat} {y:Nat}:p∈At c q y↔p∈Al c q∧toN c p.2=y:=by rw [mem_Al];exact mem_atE
theorem Q5L {c:Cat} {q:XQuery} (hc:c.Is) (hq:QIs c q) (y:Nat):(At c q y).length≤160:=by
 have h1:=Q3l hc q.variables_ q.variables_.length;have h2:=Q9n c q.variables_ q.variables_.length y;have h3:=hq.v.len;unfold At;omega
theorem QIs.l {c:Cat} {q:XQuery} (h:QIs c q) {i:Nat} (hi:i<q.left_.length):lQ q i∈Al c q:=by
 have t:=h.cl i hi;have e:=t.e;exact mem_Al.2 ⟨e.2.2.1,e.2.2.2,t.f⟩
theorem QIs.r {c:Cat} {q:XQuery} (h:QIs c q) {i:Nat} (hi:i<q.left_.length):rQ q i∈Al c q:=by
 have t:=h.cr i hi;have e:=t.e;exact mem_Al.2 ⟨e.2.2.1,e.2.2.2,t.f⟩
noncomputable def thn (c:Cat) (p:Nat × Nat) (k:Nat):Nat × Nat:=(p.1,cpN c p.2 k)
theorem Q3E {c:Cat} {q:XQuery} (hc:c.Is) {p:Nat × Nat} {k:Nat} (h:p∈Al c q) (hk:k<c.fr.length) (e:toN c p.2=frN c k):thn c p k∈Al c q∧toN c (thn c p k).2=toN c k:=by
 obtain ⟨h1,h2,h3⟩:=mem_Al.1 h;obtain ⟨w1,w2,w3,w4⟩:=Q4h hc h2 hk e;exact ⟨mem_Al.2 ⟨h1,w2,w3.trans h3⟩,w4⟩
theorem thn_thn {c:Cat} {q:XQuery} (hc:c.Is) {p:Nat × Nat} {k a:Nat} (h:p∈Al c q) (hk:k<c.fr.length) (ha:a<c.fr.length) (e:toN c p.2=frN c k) (e2:toN c k=frN c a):thn c (thn c p k) a=thn c p (cpN c k a):=by
 obtain ⟨h1,h2,h3⟩:=mem_Al.1 h;unfold thn;simp only;rw [cpN_assoc hc h2 hk ha e e2]
inductive CG (c:Cat) (q:XQuery):Nat × Nat→Nat × Nat→Prop
 | gen {i k:Nat}:i<q.left_.length→k<c.fr.length→toN c (lQ q i).2=frN c k→CG c q (thn c (lQ q i) k) (thn c (rQ q i) k)
 | refl (p:Nat × Nat):CG c q p p
 | symm {p p':Nat × Nat}:CG c q p p'→CG c q p' p
 | trans {p p' p'':Nat × Nat}:CG c q p p'→CG c q p' p''→CG c q p p''
theorem CG.mem {c:Cat} {q:XQuery} (hc:c.Is) (hq:QIs c q) {p p':Nat × Nat} (h:CG c q p p'):(p∈Al c q↔p'∈Al c q)∧toN c p.2=toN c p'.2:=by
 induction h with
 | gen hi hk e =>
  have h1:=Q3E hc (hq.l hi) hk e;have h2:=Q3E hc (hq.r hi) hk (by rw [← hq.ct _ hi];exact e);exact ⟨⟨fun _=>h2.1,fun _=>h1.1⟩,by rw [h1.2,h2.2]⟩
 | refl p=>exact ⟨Iff.rfl,rfl⟩
 | symm _ ih=>exact ⟨ih.1.symm,ih.2.symm⟩
 | trans _ _ i1 i2=>exact ⟨i1.1.trans i2.1,i1.2.trans i2.2⟩
theorem CG.stp {c:Cat} {q:XQuery} (hc:c.Is) (hq:QIs c q) {p p':Nat × Nat} (h:CG c q p p') {a:Nat} (ha:a<c.fr.length):p∈Al c q→toN c p.2=frN c a→CG c q (thn c p a) (thn c p' a):=by
 induction h with
 | @gen i k hi hk e =>
  intro _ he;have h1:=Q3E hc (hq.l hi) hk e;have e':toN c (rQ q i).2=frN c k:=by rw [← hq.ct _ hi];exact e
  have e2:toN c k=frN c a:=by rw [← h1.2];exact he
  rw [thn_thn hc (hq.l hi) hk ha e e2,thn_thn hc (hq.r hi) hk ha e' e2];obtain ⟨w1,w2,w3,w4⟩:=Q4h hc hk ha e2;exact .gen hi w2 (by rw [w3];exact e)
 | refl p=>intro _ _;exact .refl _
 | symm hh ih=>intro hm he;have g:=hh.mem hc hq;exact .symm (ih (g.1.2 hm) (by rw [g.2];exact he))
 | trans h1 h2 i1 i2=>intro hm he;have g:=h1.mem hc hq;exact .trans (i1 hm he) (i2 (g.1.1 hm) (by rw [← g.2];exact he))
def Rp (r:Nat→Nat) (n:Nat):Prop:=∀ x,x<n→r x≤x∧r (r x)=r x
theorem Q73 {r:Nat→Nat} {n:Nat} (hr:Rp r n) {x y:Nat} (hx:x<n) (hy:y<n):ix (cls r n) x=ix (cls r n) y↔r x=r y:=by
 have e1:ix (cls r n) x=(cn r (r x):Int):=Q4k n _ hx;have e2:ix (cls r n) y=(cn r (r y):Int):=Q4k n _ hy;rw [e1,e2];constructor
 ·intro h;have h':cn r (r x)=cn r (r y):=by omega
  rcases Nat.lt_trichotomy (r x) (r y) with q|q|q
  ·have:=cn_lt (hr x hx).2 q;omega
  ·exact q
  have:=cn_lt (hr y hy).2 q;omega
 intro h;rw [h]
theorem cls_idx {r:Nat→Nat} {n:Nat} (hr:Rp r n) {x:Nat} (hx:x<n):idxL (cls r n) (ix (cls r n) x)=(r x:Int):=by
 have h:=hr x hx;unfold idxL;refine Q7a (by simp [cls];omega) ((Q73 hr (by omega) hx).2 h.2) fun k hk e=>?_;have:=(Q73 hr (x:=k) (by omega) hx).1 e;have:=(hr k (by omega)).1;omega
theorem cn_sub {r r':Nat→Nat} {n:Nat} (hs:∀ x,x<n→r' x=x→r x=x):cn r' n≤cn r n∧((∃ z,z<n∧r z=z∧¬ r' z=z)→cn r' n<cn r n):=by
 induction n with
 | zero=>exact ⟨qD _,fun ⟨z,h,_⟩=>by omega⟩
 | succ n ih =>
  obtain ⟨i1,i2⟩:=ih fun x hx=>hs x (by omega)
  by_cases q':r' n=n
  ·have q:=hs n (by omega) q';rw [Q9s q',Q9s q];refine ⟨by omega,fun ⟨z,h1,h2,h3⟩=>?_⟩
   by_cases e:z=n
   ·subst e;exact absurd q' h3
   have:=i2 ⟨z,by omega,h2,h3⟩;omega
  rw [cn_neg q']
  by_cases q:r n=n
  ·rw [Q9s q];exact ⟨by omega,fun _=>by omega⟩
  rw [cn_neg q];refine ⟨i1,fun ⟨z,h1,h2,h3⟩=>?_⟩
  by_cases e:z=n
  ·subst e;exact absurd h2 q
  exact i2 ⟨z,by omega,h2,h3⟩
theorem cn_coarse {r r':Nat→Nat} {n:Nat} (hr:Rp r n) (hr':Rp r' n) (hc:∀ x y,x<n→y<n→r x=r y→r' x=r' y) {u v:Nat} (hu:u<n) (hv:v<n) (h1:¬ r u=r v) (h2:r' u=r' v):cn r' n<cn r n:=by
 have a:=hr u hu;have b:=hr v hv;have ea:=hc (r u) u (by omega) hu a.2;have eb:=hc (r v) v (by omega) hv b.2;refine (cn_sub fun x hx e=>?_).2 ?_
 ·have k:=hr x hx;have e2:=hc (r x) x (by omega) hx k.2;have:=(hr' (r x) (by omega)).1;omega
 by_cases q:r' (r u)=r u
 ·refine ⟨r v,by omega,b.2,fun z=>h1 ?_⟩;omega
 exact ⟨r u,by omega,a.2,q⟩
theorem e_normalG {L:List Int} {r:Nat→Nat} {n:Nat} (hl:L.length=n) (hr:Rp r n) (hq:∀ x y:Nat,x<n→y<n→(ix L x=ix L y↔r x=r y)) (hn:n≤1000):Q3e L=some (cls r n):=by
 unfold Q3e;rw [Q2 (by omega)];refine Q1p (σ:=(List (Int × Int)) × List Int × Int) (Q:=fun z=>z=some (cls r n)) n (fun i s=>s.2=(cls r i++qW (n - i) 0,(i:Int))∧s.1.length=cn r i∧(∀ y:Nat,y<i→r y=y→QV (ix L y) s.1=some (cn r y:Int))∧∀ v:Int,(∀ y:Nat,y<i→ix L y ≠ v)→QV v s.1=none) (fun e=>e=cls r n) (by omega) ⟨by simp [cls,Qa6,hl],rfl,fun y hy=>by omega,fun y _=>rfl⟩ ?_ ?_ (fun e he=>by rw [he])
 ·rintro i ⟨m,L',j⟩ hi ⟨e,hm,h1,h2⟩
  simp only [Prod.mk.injEq] at e;obtain ⟨rfl,rfl⟩:=e;simp only at hm h1 h2;have h:=hr i hi;have l2:=cn_le r i;have ek:n - i=(n - (i+1))+1:=by omega
  simp only [hl];rw [if_pos (by omega),Q2 (by omega)]
  by_cases q:r i=i
  ·have hne:∀ y:Nat,y<i→ix L y ≠ ix L i:=fun y hy z=>by
    have:=(hq y i (by omega) hi).1 z;have:=(hr y (by omega)).1;omega
   rw [if_pos (by rw [h2 _ hne];simp),Q2 (by omega)];simp only [zF];rw [Q2 (by simp [cls];omega),Q2 (by unfold B64;omega)];refine .inl ⟨_,rfl,?_,?_,fun y hy hz=>?_,fun v hv=>?_⟩
   ·refine Prod.ext ?_ (by push_cast;rfl);simp only [zJ];rw [ek,Q87 _ _ _ _ (by simp [cls])]
    congr 1
    unfold cls;rw [Q1U,q,hm]
   ·simp only;rw [tset_new _ _ _ (h2 _ hne),Q9s q,hm]
   ·simp only;rw [Q45]
    by_cases z:i=y
    ·subst z;rw [if_pos rfl,hm]
    rw [if_neg (fun z2=>hne y (by omega) z2.symm)];exact h1 y (by omega) hz
   simp only;rw [Q45,if_neg (hv i (by omega))];exact h2 v fun y hy=>hv y (by omega)
  have e0:ix L i=ix L (r i):=(hq i (r i) hi (by omega)).2 h.2.symm;have e:=h1 (r i) (by omega) h.2;rw [e0,e,if_neg (by simp)];simp only [zF,qY];rw [Q2 (by simp [cls];omega),Q2 (by unfold B64;omega)];refine .inl ⟨_,rfl,?_,?_,fun y hy hz=>?_,fun v hv=>h2 v fun y hy=>hv y (by omega)⟩
  ·refine Prod.ext ?_ (by push_cast;rfl);simp only [zJ];rw [ek,Q87 _ _ _ _ (by simp [cls])]
   congr 1
   unfold cls;rw [Q1U]
  ·simp only;rw [cn_neg q,hm]
  by_cases z:y=i
  ·subst z;exact absurd hz q
  exact h1 y (by omega) hz
 rintro ⟨m,L',j⟩ ⟨e,hm,h1,h2⟩
 simp only [Prod.mk.injEq] at e;obtain ⟨rfl,rfl⟩:=e;simp only;rw [if_neg (by omega)];exact ⟨_,rfl,by simp⟩
theorem e_pairsQ {r:Nat→Nat} {n:Nat} (hr:Rp r n) (hn:n≤1000):Q2s (cls r n)=some (tab n fun e=>[(r e:Int),(e:Int)]):=by
 have hl:(cls r n).length=n:=by simp [cls]
 unfold Q2s;refine tabg n (fun e=>[(r e:Int),(e:Int)]) (e:=tab n fun e=>[(r e:Int),(e:Int)]) (by omega) (fun e he=>?_) (by simp only;rw [if_neg (by omega)]) rfl;simp only;rw [if_pos (by omega),Q2 (by omega),e_idxQ (by omega),cls_idx hr he];simp only [zF]
end
section
attribute [local simp] Qh QF Qs QT QE
def tX (p:Nat × Nat):XTerm:=⟨(p.1:Int),(p.2:Int)⟩
theorem TmQ.x {c:Cat} {V:List Int} {t:XTerm} (h:TmQ c V t):t=tX (tP t):=by
 have e:=h.e;cases t;simp only [tX] at e ⊢;simp only [XTerm.mk.injEq];exact ⟨e.1,e.2.1⟩
theorem QIs.xl {c:Cat} {q:XQuery} (h:QIs c q) {i:Nat} (hi:i<q.left_.length):gx q.left_ i=tX (lQ q i):=(h.cl i hi).x
theorem QIs.xr {c:Cat} {q:XQuery} (h:QIs c q) {i:Nat} (hi:i<q.left_.length):gx q.right_ i=tX (rQ q i):=(h.cr i hi).x
theorem Q8x {c:Cat} {q:XQuery} (hc:c.Is) (hq:QIs c q) {p:Nat × Nat} (hp:p∈Al c q):Q1G c q (tX p)=some (plc (At c q (toN c p.2)) p:Int):=by
 obtain ⟨h1,h2,h3⟩:=mem_Al.1 hp;exact e_pairQ hc hq.v h1 h2 h3
noncomputable def gE (c:Cat) (q:XQuery) (y e:Nat):Nat × Nat:=(At c q y).getD e (0,0)
theorem Q5U {c:Cat} {q:XQuery} {y e:Nat} (h:e<(At c q y).length):gE c q y e∈Al c q∧toN c (gE c q y e).2=y∧plc (At c q y) (gE c q y e)=e:=by
 have e1:gE c q y e=(At c q y)[e]:=by simp [gE,qB,h]
 have h1:=mem_At.1 (zI h);rw [e1];exact ⟨h1.1,h1.2,Q8a (Q86 _ _ _ _) h⟩
theorem Q4D {c:Cat} {q:XQuery} {p:Nat × Nat} (h:p∈Al c q):plc (At c q (toN c p.2)) p<(At c q (toN c p.2)).length∧gE c q (toN c p.2) (plc (At c q (toN c p.2)) p)=p:=by
 have hm:p∈At c q (toN c p.2):=mem_At.2 ⟨h,rfl⟩;have hl:=Q3W hm;exact ⟨hl,by simp [gE,qB,hl,Q9Y hm]⟩
noncomputable def aN (c:Cat) (q:XQuery) (a e:Nat):Nat:=plc (At c q (toN c a)) (thn c (gE c q (frN c a) e) a)
theorem Q6r {c:Cat} {q:XQuery} (hc:c.Is) {a e:Nat} (ha:a<c.fr.length) (h:e<(At c q (frN c a)).length):aN c q a e<(At c q (toN c a)).length∧gE c q (toN c a) (aN c q a e)=thn c (gE c q (frN c a) e) a:=by
 obtain ⟨m1,m2,m3⟩:=Q5U h;obtain ⟨t1,t2⟩:=Q3E hc m1 ha m2;have g:=Q4D t1;rw [t2] at g;exact g
theorem Q8D {c:Cat} {q:XQuery} {a:Nat} (ha:a<c.fr.length):(rx (QM c q.variables_).ac a).length=(At c q (frN c a)).length∧∀ e:Nat,e<(At c q (frN c a)).length→ix (rx (QM c q.variables_).ac a) e=(aN c q a e:Int):=by
 have h1:rx (QM c q.variables_).ac a=freA c q.variables_ a:=by simp [QM,rx,tab,qB,ha]
 rw [h1];refine ⟨by simp [freA,At],fun e he=>?_⟩;simp only [At] at he;simp [ix,qB,freA,he,aN,thn,gE,At]
noncomputable def clsF (c:Cat) (q:XQuery) (R:Nat→Nat→Nat):List (List Int):=tab c.id.length fun y=>cls (R y) (At c q y).length
structure GI (c:Cat) (q:XQuery) (R:Nat→Nat→Nat):Prop where
 rp:∀ y,y<c.id.length→Rp (R y) (At c q y).length
 snd:∀ y,y<c.id.length→∀ e e',e<(At c q y).length→e' < (At c q y).length→R y e=R y e'→CG c q (gE c q y e) (gE c q y e')
 bas:∀ i,i<q.left_.length→R (toN c (lQ q i).2) (plc (At c q (toN c (lQ q i).2)) (lQ q i))=R (toN c (lQ q i).2) (plc (At c q (toN c (lQ q i).2)) (rQ q i))
def Clo (c:Cat) (q:XQuery) (R:Nat→Nat→Nat) (a:Nat):Prop:=∀ e,e<(At c q (frN c a)).length→R (toN c a) (aN c q a (R (frN c a) e))=R (toN c a) (aN c q a e)
noncomputable def mvd (c:Cat) (q:XQuery) (R:Nat→Nat→Nat) (a k:Nat):List (List Int):=((zD k).filter fun e=>decide (¬ R (toN c a) (aN c q a (R (frN c a) e))=R (toN c a) (aN c q a e))).map fun e=>[(aN c q a (R (frN c a) e):Int),(aN c q a e:Int)]
noncomputable def newP (c:Cat) (q:XQuery) (R:Nat→Nat→Nat) (a:Nat):List (List Int):=(tab (At c q (toN c a)).length fun e=>[(R (toN c a) e:Int),(e:Int)])++mvd c q R a (At c q (frN c a)).length
noncomputable def updR (c:Cat) (q:XQuery) (R:Nat→Nat→Nat) (a:Nat):Nat→Nat→Nat:=fun y=>if y=toN c a then RR (newP c q R a) else R y
theorem mem_mvd {c:Cat} {q:XQuery} {R:Nat→Nat→Nat} {a k:Nat} {p:List Int}:p∈mvd c q R a k↔∃ e,e<k∧¬ R (toN c a) (aN c q a (R (frN c a) e))=R (toN c a) (aN c q a e)∧p=[(aN c q a (R (frN c a) e):Int),(aN c q a e:Int)]:=by
 simp only [mvd,List.mem_map,List.mem_filter,List.mem_range,decide_eq_true_eq];constructor
 ·rintro ⟨e,⟨h1,h2⟩,rfl⟩;exact ⟨e,h1,h2,rfl⟩
 rintro ⟨e,h1,h2,rfl⟩;exact ⟨e,⟨h1,h2⟩,rfl⟩
theorem Q6G {c:Cat} (hc:c.Is) {a:Nat} (ha:a<c.fr.length):frN c a<c.id.length∧toN c a<c.id.length:=⟨(Q1o hc ha).2.1,(Q1o hc ha).2.2.2⟩
theorem Q5D {c:Cat} {q:XQuery} (hc:c.Is) {R:Nat→Nat→Nat} (h:GI c q R) {a:Nat} (ha:a<c.fr.length):Prs (At c q (toN c a)).length (newP c q R a):=by
 obtain ⟨l1,l2⟩:=Q6G hc ha;intro p hp;rcases List.mem_append.1 hp with hp|hp
 ·simp only [tab,List.mem_map,List.mem_range] at hp;obtain ⟨e,he,rfl⟩:=hp;have:=h.rp _ l2 e he;exact ⟨R (toN c a) e,e,by omega,he,rfl⟩
 obtain ⟨e,he,_,rfl⟩:=mem_mvd.1 hp;have:=h.rp _ l1 e he;exact ⟨_,_,(Q6r hc ha (by omega)).1,(Q6r hc ha he).1,rfl⟩
theorem newP_con {c:Cat} {q:XQuery} (hc:c.Is) (hq:QIs c q) {R:Nat→Nat→Nat} (h:GI c q R) {a:Nat} (ha:a<c.fr.length) {x y:Nat} (k:Con (newP c q R a) x y):x<(At c q (toN c a)).length→y<(At c q (toN c a)).length∧CG c q (gE c q (toN c a) x) (gE c q (toN c a) y):=by
 obtain ⟨l1,l2⟩:=Q6G hc ha;have key:∀ u v:Nat,[(u:Int),(v:Int)]∈newP c q R a→u<(At c q (toN c a)).length∧v<(At c q (toN c a)).length∧CG c q (gE c q (toN c a) u) (gE c q (toN c a) v):=by
  intro u v hm;rcases List.mem_append.1 hm with hp|hp
  ·simp only [tab,List.mem_map,List.mem_range,List.cons.injEq,and_true] at hp;obtain ⟨e,he,e1,e2⟩:=hp;have e1':u=R (toN c a) e:=(by omega);have e2':v=e:=(by omega);subst e1';subst e2';have r:=h.rp _ l2 v he;exact ⟨by omega,he,h.snd _ l2 _ _ (by omega) he r.2⟩
  obtain ⟨e,he,_,e1⟩:=mem_mvd.1 hp;simp only [List.cons.injEq,and_true] at e1;have e1':u=aN c q a (R (frN c a) e):=by omega
  have e2':v=aN c q a e:=by omega
  subst e1';subst e2';have r:=h.rp _ l1 e he;have a1:=Q6r hc ha (q:=q) (e:=R (frN c a) e) (by omega);have a2:=Q6r hc ha (q:=q) he;refine ⟨a1.1,a2.1,?_⟩;rw [a1.2,a2.2];have g:=Q5U (c:=c) (q:=q) (y:=frN c a) (e:=R (frN c a) e) (by omega);exact CG.stp hc hq (h.snd _ l1 _ _ (by omega) he r.2) ha g.1 g.2.1
 have both:∀ {x y:Nat},Con (newP c q R a) x y→(x=y∨(x<(At c q (toN c a)).length∧y<(At c q (toN c a)).length))∧CG c q (gE c q (toN c a) x) (gE c q (toN c a) y):=by
  intro x y k
  induction k with
  | pr hm=>have:=key _ _ hm;exact ⟨.inr ⟨this.1,this.2.1⟩,this.2.2⟩
  | refl a=>exact ⟨.inl rfl,.refl _⟩
  | symm _ ih=>exact ⟨ih.1.imp Eq.symm And.symm,ih.2.symm⟩
  | trans _ _ i1 i2=>exact ⟨by rcases i1.1 with r1|r1<;>rcases i2.1 with r2|r2<;>omega,i1.2.trans i2.2⟩
 intro hx;have:=both k;exact ⟨by rcases this.1 with r|r<;>omega,this.2⟩
theorem Q9P {c:Cat} {q:XQuery} (hc:c.Is) {R:Nat→Nat→Nat} (h:GI c q R) {a:Nat} (ha:a<c.fr.length) {x y:Nat} (hx:x<(At c q (toN c a)).length) (hy:y<(At c q (toN c a)).length) (e:R (toN c a) x=R (toN c a) y):RR (newP c q R a) x=RR (newP c q R a) y:=by
 have one:∀ z,z<(At c q (toN c a)).length→Con (newP c q R a) (R (toN c a) z) z:=fun z hz=>.pr (List.mem_append_left _ (by
  simp only [tab,List.mem_map,List.mem_range];exact ⟨z,hz,rfl⟩))
 have k:=(one x hx).symm;rw [e] at k;exact (Q6y (Q5D hc h ha) _ _).2 (k.trans (one y hy))
theorem GI.up {c:Cat} {q:XQuery} (hc:c.Is) (hq:QIs c q) {R:Nat→Nat→Nat} (h:GI c q R) {a:Nat} (ha:a<c.fr.length):GI c q (updR c q R a):=by
 have hp:=Q5D hc h ha;refine ⟨fun y hy=>?_,fun y hy e e' he he' k=>?_,fun i hi=>?_⟩
 ·unfold updR;split
  ·rename_i e;subst e;exact RR_ok hp
  exact h.rp y hy
 ·unfold updR at k;split at k
  ·rename_i e;subst e;exact (newP_con hc hq h ha ((Q6y hp _ _).1 k) he).2
  exact h.snd y hy e e' he he' k
 have b:=h.bas i hi;unfold updR;split
 ·rename_i e;have ml:=Q4D (hq.l hi);have mr:=Q4D (hq.r hi);rw [← hq.ct i hi] at mr;rw [e] at ml mr b ⊢;exact Q9P hc h ha ml.1 mr.1 b
 exact b
noncomputable def smR (c:Cat) (q:XQuery) (R:Nat→Nat→Nat):Nat→Nat
 | 0=>0
 | y+1=>smR c q R y+cn (R y) (At c q y).length
theorem smR_le {c:Cat} {q:XQuery} {R R':Nat→Nat→Nat} {t:Nat} (h:∀ y,¬ y=t→R' y=R y) (hlt:cn (R' t) (At c q t).length<cn (R t) (At c q t).length):∀ n,smR c q R' n≤smR c q R n∧(t<n→smR c q R' n<smR c q R n)
 | 0=>⟨qD _,fun q=>by omega⟩
 | y+1=>by
  obtain ⟨i1,i2⟩:=smR_le h hlt y;simp only [smR]
  by_cases e:y=t
  ·subst e;exact ⟨by omega,fun _=>by omega⟩
  rw [h y e];exact ⟨by omega,fun q=>by have:=i2 (by omega);omega⟩
theorem smR_bnd {c:Cat} {q:XQuery} (hc:c.Is) (hq:QIs c q) (R:Nat→Nat→Nat):∀ n,smR c q R n≤n * 160
 | 0=>by simp [smR]
 | y+1=>by
  have i:=smR_bnd hc hq R y;have h1:=cn_le (R y) (At c q y).length;have h2:=Q5L hc hq y;simp only [smR];omega
theorem up_meas {c:Cat} {q:XQuery} (hc:c.Is) {R:Nat→Nat→Nat} (h:GI c q R) {a:Nat} (ha:a<c.fr.length) (hm:mvd c q R a (At c q (frN c a)).length ≠ []):smR c q (updR c q R a) c.id.length<smR c q R c.id.length:=by
 obtain ⟨l1,l2⟩:=Q6G hc ha;have hp:=Q5D hc h ha;obtain ⟨p,hpm⟩:=List.exists_mem_of_ne_nil _ hm;obtain ⟨e,he,hne,e1⟩:=mem_mvd.1 hpm;have r:=h.rp _ l1 e he;have a1:=Q6r hc ha (q:=q) (e:=R (frN c a) e) (by omega);have a2:=Q6r hc ha (q:=q) he;refine (smR_le (t:=toN c a) (fun y hy=>by unfold updR;rw [if_neg hy]) ?_ _).2 l2;have eu:updR c q R a (toN c a)=RR (newP c q R a):=by unfold updR;rw [if_pos rfl]
 rw [eu];refine cn_coarse (h.rp _ l2) (RR_ok hp) (fun x y hx hy k=>Q9P hc h ha hx hy k) a1.1 a2.1 hne ?_;exact (Q6y hp _ _).2 (.pr (List.mem_append_right _ (e1 ▸ hpm)))
theorem clo_nil {c:Cat} {q:XQuery} {R:Nat→Nat→Nat} {a:Nat} (h:mvd c q R a (At c q (frN c a)).length=[]):Clo c q R a:=by
 intro e he
 by_cases k:R (toN c a) (aN c q a (R (frN c a) e))=R (toN c a) (aN c q a e)
 ·exact k
 have:[(aN c q a (R (frN c a) e):Int),(aN c q a e:Int)]∈mvd c q R a (At c q (frN c a)).length:=mem_mvd.2 ⟨e,he,k,rfl⟩;rw [h] at this;cases this
theorem GI.fin {c:Cat} {q:XQuery} (hc:c.Is) (hq:QIs c q) {R:Nat→Nat→Nat} (h:GI c q R) (hk:∀ a,a<c.fr.length→Clo c q R a) {p p':Nat × Nat} (k:CG c q p p'):p∈Al c q→R (toN c p.2) (plc (At c q (toN c p.2)) p)=R (toN c p.2) (plc (At c q (toN c p.2)) p'):=by
 have clo:∀ a,a<c.fr.length→∀ e e',e<(At c q (frN c a)).length→e' < (At c q (frN c a)).length→R (frN c a) e=R (frN c a) e'→R (toN c a) (aN c q a e)=R (toN c a) (aN c q a e'):=by
  intro a ha e e' he he' k;rw [← hk a ha e he,← hk a ha e' he',k]
 induction k with
 | @gen i j hi hj e =>
  intro hm;have h1:=Q3E hc (hq.l hi) hj e;have h2:=Q3E hc (hq.r hi) hj (by rw [← hq.ct _ hi];exact e);have ml:=Q4D (hq.l hi);have mr:=Q4D (hq.r hi);rw [← hq.ct i hi] at mr;have b:=h.bas i hi;rw [e] at ml mr b;have g:=clo j hj _ _ ml.1 mr.1 b;unfold aN at g;rw [ml.2,mr.2] at g;rw [h1.2];exact g
 | refl p=>intro _;rfl
 | symm hh ih=>intro hm;have g:=hh.mem hc hq;have:=ih (g.1.2 hm);rw [g.2] at this;exact this.symm
 | trans h1 h2 i1 i2=>intro hm;have g:=h1.mem hc hq;have x1:=i1 hm;have x2:=i2 (g.1.1 hm);rw [← g.2] at x2;exact x1.trans x2
end
section
attribute [local simp] Qh QF Qs QT QE
noncomputable def idn (c:Cat) (x:Nat):Nat:=(ix c.id x).toNat
theorem Q7Q {c:Cat} (hc:c.Is) {x:Nat} (hx:x<c.id.length):ix c.id x=(idn c x:Int)∧idn c x<c.fr.length∧frN c (idn c x)=x∧toN c (idn c x)=x:=by
 have n:=hc.nums;have hid:=hc.1.id' (j:=(x:Int)) (by omega) (by omega);have e:ix c.id x=(idn c x:Int):=by unfold idn;omega
 have h2:idn c x<c.fr.length:=by omega
 have k:=(hc.Ai (x:=(x:Int)) (by omega));obtain ⟨f1,f2,f3,f4⟩:=Q1o hc h2;rw [e] at k;have k1:=k.2.1;have k2:=k.2.2;exact ⟨e,h2,by omega,by omega⟩
theorem cpN_idr {c:Cat} (hc:c.Is) {f:Nat} (hf:f<c.fr.length):cpN c f (idn c (toN c f))=f:=by
 obtain ⟨f1,f2,f3,f4⟩:=Q1o hc hf;have q:=(hc.idl (f:=f) (x:=ix c.fr f) (y:=ix c.to f) ⟨by omega,rfl,rfl⟩).2;rw [f3] at q;have e:=(Q7Q hc f4).1;unfold cpN;rw [← e,q];rfl
theorem CG.one {c:Cat} {q:XQuery} (hc:c.Is) (hq:QIs c q) {i:Nat} (hi:i<q.left_.length):CG c q (lQ q i) (rQ q i):=by
 have hl:=mem_Al.1 (hq.l hi);have hr:=mem_Al.1 (hq.r hi);have lt:=(Q6G hc hl.2.1).2;obtain ⟨e1,e2,e3,e4⟩:=Q7Q hc lt;have g:=CG.gen (c:=c) (q:=q) hi e2 e3.symm;have a1:thn c (lQ q i) (idn c (toN c (lQ q i).2))=lQ q i:=by unfold thn;rw [cpN_idr hc hl.2.1]
 have a2:thn c (rQ q i) (idn c (toN c (lQ q i).2))=rQ q i:=by unfold thn;rw [hq.ct i hi,cpN_idr hc hr.2.1]
 rwa [a1,a2] at g
noncomputable def BP (c:Cat) (q:XQuery) (y k:Nat):List (List Int):=((zD k).filter fun i=>decide (toN c (lQ q i).2=y)).map fun i=>[(plc (At c q y) (lQ q i):Int),(plc (At c q y) (rQ q i):Int)]
theorem BP_pos {c:Cat} {q:XQuery} {y k:Nat} (h:toN c (lQ q k).2=y):BP c q y (k+1)=BP c q y k++[[(plc (At c q y) (lQ q k):Int),(plc (At c q y) (rQ q k):Int)]]:=by simp [BP,zK,zM,h]
theorem BP_neg {c:Cat} {q:XQuery} {y k:Nat} (h:¬ toN c (lQ q k).2=y):BP c q y (k+1)=BP c q y k:=by simp [BP,zK,zM,h]
theorem BP_len (c:Cat) (q:XQuery) (y k:Nat):(BP c q y k).length≤k:=by
 have:=zN (fun i=>decide (toN c (lQ q i).2=y)) (zD k);simpa [BP] using this
theorem mem_BP {c:Cat} {q:XQuery} {y k:Nat} {p:List Int}:p∈BP c q y k↔∃ i,i<k∧toN c (lQ q i).2=y∧p=[(plc (At c q y) (lQ q i):Int),(plc (At c q y) (rQ q i):Int)]:=by
 simp only [BP,List.mem_map,List.mem_filter,List.mem_range,decide_eq_true_eq];constructor
 ·rintro ⟨e,⟨h1,h2⟩,rfl⟩;exact ⟨e,h1,h2,rfl⟩
 rintro ⟨e,h1,h2,rfl⟩;exact ⟨e,⟨h1,h2⟩,rfl⟩
theorem BP_at {c:Cat} {q:XQuery} (hq:QIs c q) {y i:Nat} (hi:i<q.left_.length) (h:toN c (lQ q i).2=y):(plc (At c q y) (lQ q i)<(At c q y).length∧gE c q y (plc (At c q y) (lQ q i))=lQ q i)∧plc (At c q y) (rQ q i)<(At c q y).length∧gE c q y (plc (At c q y) (rQ q i))=rQ q i:=by
 have ml:=Q4D (hq.l hi);have mr:=Q4D (hq.r hi);rw [← hq.ct i hi] at mr;rw [h] at ml mr;exact ⟨ml,mr⟩
theorem Q9j {c:Cat} {q:XQuery} (hq:QIs c q) (y:Nat):Prs (At c q y).length (BP c q y q.left_.length):=by
 intro p hp;obtain ⟨i,hi,h,rfl⟩:=mem_BP.1 hp;have g:=BP_at hq hi h;exact ⟨_,_,g.1.1,g.2.1,rfl⟩
noncomputable def R0 (c:Cat) (q:XQuery):Nat→Nat→Nat:=fun y=>RR (BP c q y q.left_.length)
theorem GI0 {c:Cat} {q:XQuery} (hc:c.Is) (hq:QIs c q):GI c q (R0 c q):=by
 refine ⟨fun y _=>RR_ok (Q9j hq y),fun y _ e e' he he' k=>?_,fun i hi=>?_⟩
 ·have k':=(Q6y (Q9j hq y) _ _).1 k;clear k he he'
  induction k' with
  | @pr u v hm =>
   obtain ⟨i,hi,h,e1⟩:=mem_BP.1 hm;simp only [List.cons.injEq,and_true] at e1;have e1':u=plc (At c q y) (lQ q i):=(by omega);have e2':v=plc (At c q y) (rQ q i):=(by omega);subst e1';subst e2';have g:=BP_at hq hi h;rw [g.1.2,g.2.2];exact CG.one hc hq hi
  | refl a=>exact .refl _
  | symm _ ih=>exact ih.symm
  | trans _ _ i1 i2=>exact i1.trans i2
 exact (Q6y (Q9j hq _) _ _).2 (.pr (mem_BP.2 ⟨i,hi,rfl,rfl⟩))
structure QuoW (f:SF) (p:List (List Int)):Prop where
 hc:f.s.Is
 lp:p.length=f.s.id.length
 la:f.ac.length=f.s.fr.length
 row:∀ x:Nat,x<p.length→(rx p x).length≤160∧∀ e:Nat,e<(rx p x).length→0≤ix (rx p x) e∧ix (rx p x) e<((rx p x).length:Int)
 act:∀ a:Nat,a<f.s.fr.length→(rx f.ac a).length=(rx p (frN f.s a)).length∧∀ e:Nat,e<(rx f.ac a).length→0≤ix (rx f.ac a) e∧ix (rx f.ac a) e<((rx p (toN f.s a)).length:Int)
theorem QuoW.at {f:SF} {p:List (List Int)} (h:QuoW f p):p.length≤8∧f.ac.length≤40∧(∀ x:Nat,x<p.length→(rx p x).length≤160∧(∀ e:Nat,e<(rx p x).length→0≤ix (rx p x) e∧ix (rx p x) e<160)∧0≤mxP (rx p x) (rx p x).length∧mxP (rx p x) (rx p x).length≤160) ∧
  ∀ a:Nat,a<f.ac.length→(a<f.s.fr.length∧a<f.s.to.length)∧(ix f.s.fr a=(frN f.s a:Int)∧ix f.s.to a=(toN f.s a:Int)∧frN f.s a<p.length∧toN f.s a<p.length)∧(rx p (frN f.s a)).length=(rx f.ac a).length∧(rx f.ac a).length≤160∧ix (quoZ p p.length) (frN f.s a)=mxP (rx p (frN f.s a)) (rx p (frN f.s a)).length ∧
   ((0:Int)≤mxP (rx p (frN f.s a)) (rx p (frN f.s a)).length∧mxP (rx p (frN f.s a)) (rx p (frN f.s a)).length≤160) ∧
   ∀ k:Nat,k<(rx f.ac a).length→(0≤ix (rx f.ac a) k∧ix (rx f.ac a) k<((rx p (toN f.s a)).length:Int))∧0≤ix (rx p (frN f.s a)) k∧ix (rx p (frN f.s a)) k<mxP (rx p (frN f.s a)) (rx p (frN f.s a)).length:=by
 have n:=h.hc.nums;have lp:=h.lp;have la:=h.la;have hm:∀ x:Nat,x<p.length→(rx p x).length≤160∧(0≤mxP (rx p x) (rx p x).length∧mxP (rx p x) (rx p x).length≤160)∧(∀ e:Nat,e<(rx p x).length→ix (rx p x) e<mxP (rx p x) (rx p x).length)∧∀ e:Nat,e<(rx p x).length→0≤ix (rx p x) e∧ix (rx p x) e<160:=fun x hx=>by
  obtain ⟨r1,r2⟩:=h.row x hx;obtain ⟨m1,m2⟩:=mxP_bd (L:=rx p x) (n:=((rx p x).length:Int)) (by omega) r2 _ (qD _);exact ⟨r1,by omega,m2,fun e he=>by have:=r2 e he;omega⟩
 refine ⟨by omega,by omega,fun x hx=>⟨(hm x hx).1,(hm x hx).2.2.2,(hm x hx).2.1⟩,fun a ha=>?_⟩;obtain ⟨f1,f2,f3,f4⟩:=Q1o h.hc (b:=a) (by omega);have r1:=hm (frN f.s a) (by omega);have ac:=h.act a (by omega);have hzz:ix (quoZ p p.length) (frN f.s a)=mxP (rx p (frN f.s a)) (rx p (frN f.s a)).length:=Q4k _ _ (by omega);refine ⟨by omega,⟨f1,f3,by omega,by omega⟩,ac.1.symm,by omega,hzz,r1.2.1,fun k hk=>?_⟩;have v:=ac.2 k hk;have v1:=r1.2.2.1 k (by omega);have v2:=r1.2.2.2 k (by omega);omega
theorem Q9Z {f:SF} {p:List (List Int)} {a x y:Nat} (hx:ix f.s.fr a=(x:Int)) (hy:ix f.s.to a=(y:Int)) (k:Nat):quoA f p a (k+1)=(quoA f p a k).set (ix (rx p x) k).toNat (ix (rx p y) (ix (rx f.ac a) k)):=by rw [Q8b,hx,hy]
theorem e_quotW {f:SF} {p:List (List Int)} (h:QuoW f p):Q1F f p=some (quoF f p):=by
 obtain ⟨a1,a2,a3,a4⟩:=h.at;unfold Q1F Q2G;rw [Q2 h.hc.1.size2.1];simp only [zF];refine QN p.length (fun i=>quoZ p i) (e:=quoZ p p.length) rfl (by omega) (fun i hi=>?_) (by simp) ?_
 ·obtain ⟨b1,b2,b3,b4⟩:=a3 i hi;simp only;rw [if_pos (by omega)];refine QN (rx p i).length (fun k=>mxP (rx p i) k) (e:=mxP (rx p i) (rx p i).length) rfl (by omega) (fun k hk=>?_) (by simp only;rw [Q2 (by omega),if_neg (by omega)]) ?_
  ·have v:=b2 k hk;simp only;rw [Q2 (by omega),if_pos (by omega),Q2 (by omega),Q2 (by omega),Q2 (by unfold B64;omega),Q2 (by unfold B64;omega),Q5C hk]
  rw [Q2 (by simp [quoZ];omega),Q2 (by unfold B64;omega),quoZ,quoZ,Q1U]
 have hl:(quoZ p p.length).length=p.length:=by simp [quoZ]
 refine QN f.ac.length (fun i=>tab i fun a=>quoA f p a (rx f.ac a).length) (e:=tab f.ac.length fun a=>quoA f p a (rx f.ac a).length) rfl (by omega) (fun a ha=>?_) (by simp) rfl;obtain ⟨b1,⟨g1,g2,g3,g4⟩,b3,b4,b5,b6,b7⟩:=a4 a ha;simp only [g1,g2,b5];rw [if_pos (by omega),Q2 (by omega),Q2 (by omega),Q2 (by omega),Q2 (by omega)];refine QN (rx f.ac a).length (fun k=>quoA f p a k) (e:=quoA f p a (rx f.ac a).length) (by simp [quoA,g1]) (by omega) (fun k hk=>?_) (by simp only;rw [Q2 (by omega),if_neg (by omega)]) ?_
 ·have v:=b7 k hk;have lq:=Q7m f p a k;rw [g1] at lq;simp only;rw [Q2 (by omega),if_pos (by omega),Q2 (by omega),Q2 (by omega),Q2 (by omega),Q2 (by omega),Q2 (by omega),Q2 (by omega),Q2 (by omega),Q2 (by unfold B64;omega),Q9Z g1 g2]
 rw [Q2 (by simp;omega),Q2 (by unfold B64;omega),Q1U]
theorem Q2x {c:Cat} {q:XQuery} {R:Nat→Nat→Nat} {y:Nat} (hy:y<c.id.length):rx (clsF c q R) y=cls (R y) (At c q y).length:=by simp [clsF,rx,tab,qB,hy]
theorem Q2H (r:Nat→Nat) (n:Nat):(cls r n).length=n:=by simp [cls]
theorem Q72 {r:Nat→Nat} {n e:Nat} (hr:Rp r n) (he:e<n):0≤ix (cls r n) e∧ix (cls r n) e<(n:Int):=by
 have e1:ix (cls r n) e=(cn r (r e):Int):=Q4k n _ he;have h:=hr e he;have:=cn_le r (r e);omega
theorem quoW_cls {c:Cat} {q:XQuery} (hc:c.Is) (hq:QIs c q) {R:Nat→Nat→Nat} (h:GI c q R):QuoW (QM c q.variables_) (clsF c q R):=by
 have lc:(clsF c q R).length=c.id.length:=by simp [clsF]
 have s:(QM c q.variables_).s=c:=rfl;refine ⟨hc,lc,by simp [QM],fun x hx=>?_,fun a ha=>?_⟩
 ·rw [lc] at hx;rw [Q2x hx,Q2H];exact ⟨Q5L hc hq x,fun e he=>Q72 (h.rp x hx) he⟩
 rw [s] at ha ⊢;obtain ⟨l1,l2⟩:=Q6G hc ha;obtain ⟨f1,f2⟩:=Q8D (q:=q) ha;rw [Q2x l1,Q2x l2,Q2H,Q2H];refine ⟨f1,fun e he=>?_⟩;rw [f1] at he;rw [f2 e he];have:=(Q6r hc ha (q:=q) he).1;omega
noncomputable def genQ (c:Cat) (q:XQuery) (R:Nat→Nat→Nat):List Int:=tab q.variables_.length fun i=>ix (cls (R (VN q.variables_ i)) (At c q (VN q.variables_ i)).length) (plc (At c q (VN q.variables_ i)) (i,idn c (VN q.variables_ i)))
theorem gen_mem {c:Cat} {q:XQuery} (hc:c.Is) (hq:QIs c q) {i:Nat} (hi:i<q.variables_.length):(i,idn c (VN q.variables_ i))∈Al c q∧toN c (idn c (VN q.variables_ i))=VN q.variables_ i:=by
 obtain ⟨e1,e2,e3,e4⟩:=Q7Q hc (hq.v.at' i hi).2;exact ⟨mem_Al.2 ⟨hi,e2,e3⟩,e4⟩
end
end Go.Vc.T
