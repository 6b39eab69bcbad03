/- A part of the proof: a verified generator of conditions, and what each function of the program does. -/
import Derived.Test.YtfinipknacaojaaGreatR9
set_option maxRecDepth 100000
set_option maxHeartbeats 4000000
set_option linter.unusedSimpArgs false
set_option linter.unusedVariables false

namespace Go.Vc.T
open Go Go.Vc Go.Proofs
attribute [local simp] eL eI Qo QH Q1v Cat.cells Mnd.cells
noncomputable def Q2I (m_:Mnd):Option (List (List Int)) :=
 (QE (σ:=List (List Int) × Int) (ε:=List (List Int)) (fun s24 =>
  if s24.2<m_.f.s.n then
   (
    ass (0≤s24.2∧s24.2<(m_.f.ob.length:Int)) <|
    (Q2H m_.f.s (ix m_.f.ob s24.2) s24.2).bind fun v28 =>
    (QE (σ:=List (List Int) × Int) (ε:=List (List Int)) (fun s37 =>
     if s37.2<(v28.length:Int) then
      (
       ass (0≤s37.2∧s37.2<(v28.length:Int)) <|
       (Q3V m_ s24.2 (ix v28 s37.2)).bind fun v41 =>
       if v41=true then
        ass (0≤s37.2∧s37.2<(v28.length:Int)) <|
        ass ((s37.1++[[s24.2,ix v28 s37.2]]).length≤1073741824) <|
        some (s37.1++[[s24.2,ix v28 s37.2]])
       else
        some s37.1:Option (List (List Int))).bind fun b39 =>
      ass (B64 (s37.2+1)) <|
      some (Ctl.next (b39,s37.2+1))
     else
      some (Ctl.ret s37.1)) fuel (s24.1,0)).bind fun p37 =>
    some p37:Option (List (List Int))).bind fun b26 =>
   ass (B64 (s24.2+1)) <|
   some (Ctl.next (b26,s24.2+1))
  else
   some (Ctl.ret s24.1)) fuel ([],0)).bind fun b1 =>
 some b1
theorem Ql {F : Fx} {st st' : St} (m : List (Nat × Nat)) (h : (m.map Prod.fst).Nodup ∧ (m.map Prod.snd).Nodup ∧ (∀ id, id < F.pins → look id m = some id) ∧ (∀ p ∈ m, p.2 < st'.n) ∧ (∀ p ∈ st'.h, p.1 < st'.n) ∧ (∀ p ∈ st'.s, p.2 = rl m (st.get p.1) ∨ p.2 = .bot) ∧ ∀ p ∈ st'.h, hhOk m st.h p.1 p.2 := by simp [hP, hhOk, back, Cat.cells, Mnd.cells, UA, U1, IA, I1, LA, L1, BA, B1, EA, E1, E2, eB, eI, eL, XAlgebras.cells, Qm _ Q4 _ (fun _=>rfl), Qm _ Qh _ (fun _=>rfl), XAlgebra.cells]) : Wk F st st' := Wk.r1 m h
theorem Q9N (m_:Mnd) (r:List (List Int)) (h:Q2I m_=some r):Contract Tryz.prog 122 [.agg (m_.cells true)] (.lst true 1 (Ls r)):=by
 refine Qf (rvs:=[.tmp 2]) (rs:=[.lst true 1 (Ls r)]) Tryz.func122 rfl rfl rfl rfl (by simp [Tryz.f122]) fun F hN hP=>?_;unfold Q2I at h;refine Q5 ?_;refine runQ hN fun K hK=>?_;simp [-Q0,-Q7,-Q1,-Q8,-Q2];repeat refine sdQ ?_
 refine hK _ ?_;clear hK K;refine tn ?_;refine Q9 (st':=⟨[(1,.adr 0 0 0)],[(0,.mix 14 [(Mnd.cells true m_)])],1⟩) (Ql [(0,0)]) ?_;refine Q5 ?_;refine runQ hN fun K hK=>?_;simp [-Q0,-Q7,-Q1,-Q8,-Q2];repeat refine sdQ ?_
 refine hK _ ?_;clear hK K;refine tn ?_;refine Q9 (st':=⟨[(1,.adr 0 0 0),(3,.adr 1 0 0)],[(0,.mix 14 [(Mnd.cells true m_)]),(1,.mix 5 [(Cat.cells true m_.f.s)])],2⟩) (Ql [(0,0),(1,1)]) ?_;refine Q5 ?_;refine runQ hN fun K hK=>?_;simp [-Q0,-Q7,-Q1,-Q8,-Q2];repeat refine sdQ ?_
 refine hK _ ?_;clear hK K;refine tn ?_;refine Q9 (st':=⟨[(1,.adr 0 0 0),(3,.adr 1 0 0),(4,.own 2 0 0)],[(0,.mix 14 [(Mnd.cells true m_)]),(1,.mix 5 [(Cat.cells true m_.f.s)]),(2,.mix 1 [])],3⟩) (Ql [(0,0),(1,1),(2,2)]) ?_;refine Q5 ?_;refine Q5 ?_;refine runQ hN fun K hK=>?_;simp [-Q0,-Q7,-Q1,-Q8,-Q2];repeat refine sdQ ?_
 refine hK _ ?_;clear hK K;refine tn ?_;refine Q9 (st':=⟨[(1,.adr 0 0 0),(3,.adr 1 0 0),(4,.own 2 0 0),(5,iV 0)],[(0,.mix 14 [(Mnd.cells true m_)]),(1,.mix 5 [(Cat.cells true m_.f.s)]),(2,.mix 1 [])],3⟩) (Ql [(0,0),(1,1),(2,2)]) ?_;replace h:=bind_some h;obtain ⟨e1,h,h1⟩:=h;refine Qj (fun b1:List (List Int)=>⟨[(4,.own 0 0 b1.length)],[(0,.row 1 (Ls b1))],1⟩) (fun b1=>b1=e1) ?_ ?_
 ·refine Qc ?_;refine Qz h (fun s24:List (List Int) × Int=>⟨[(1,.adr 0 0 0),(3,.adr 1 0 0),(4,.own 2 0 s24.1.length),(5,iV s24.2)],[(0,.mix 14 [(Mnd.cells true m_)]),(1,.mix 5 [(Cat.cells true m_.f.s)]),(2,.row 1 (Ls s24.1))],3⟩) (Q2Z ⟨[(1,.adr 0 0 0),(3,.adr 1 0 0),(4,.own 2 0 0),(5,iV 0)],[(0,.mix 14 [(Mnd.cells true m_)]),(1,.mix 5 [(Cat.cells true m_.f.s)]),(2,.row 1 (Ls []))],3⟩ (Wk.nils [] (by simp) (by simp) (by simp [nlA]) (by simp [entN,nlL,nlA,Cat.cells,Mnd.cells,UA,U1,IA,I1,LA,L1,BA,B1,EA,E1,E2,eB,eI,eL]) (by simp)) (Ql [(0,0),(1,1),(2,2)])) ?_;clear h;intro k24 s24 c24 h hk24;refine Q5 ?_;refine Q5 ?_;refine runQ hN fun K hK=>?_;simp [-Q0,-Q7,-Q1,-Q8,-Q2];repeat refine sdQ ?_
  refine hK _ ?_;clear hK K;refine tn ?_;refine Q9 (st':=⟨[(1,.adr 0 0 0),(3,.adr 1 0 0),(4,.own 2 0 s24.1.length),(5,iV s24.2),(15,.val (.bool (decide (s24.2<m_.f.s.n))))],[(0,.mix 14 [(Mnd.cells true m_)]),(1,.mix 5 [(Cat.cells true m_.f.s)]),(2,.row 1 (Ls s24.1))],3⟩) (Ql [(0,0),(1,1),(2,2)]) ?_;refine Qd rfl (fun g=>?_) fun g=>?_
  ·have g25:s24.2<m_.f.s.n:=gQ;clear g;replace h:=if_l g25 h;refine Qe ?_;refine tn ?_;refine Q5 ?_;replace h:=bind_some h;obtain ⟨e26,h,h26⟩:=h;refine Qj (fun b26:List (List Int)=>⟨[(1,.adr 0 0 0),(3,.adr 1 0 0),(4,.own 2 0 b26.length),(5,iV s24.2)],[(0,.mix 14 [(Mnd.cells true m_)]),(1,.mix 5 [(Cat.cells true m_.f.s)]),(2,.row 1 (Ls b26))],3⟩) (fun b26=>b26=e26) ?_ ?_
   ·refine Qc ?_;refine Q5 ?_;refine runQ hN fun K hK=>?_;replace h:=Q6 h;obtain ⟨a27,h⟩:=h;simp [-Q0,-Q7,-Q1,-Q8,-Q2,at_I a27];(repeat with_reducible refine sdQ ?_);replace h:=bind_some h;obtain ⟨v28,hv28,h⟩:=h;refine Q3 (Q6v _ _ _ v28 hv28) (.cons (.aggL (.cons .val (.cons .lst (.cons .lst (.cons .lst (.cons .lst .nil)))))) (.cons .val (.cons .val .nil))) ?_;simp [-Q0,-Q7,-Q1,-Q8,-Q2,unk,unA,unE,unT,unC,flat,at_I a27];(repeat refine sdQ ?_);refine hK _ ?_;clear hK K;refine tn ?_;refine Q9 (st':=⟨[(1,.adr 0 0 0),(3,.adr 1 0 0),(4,.own 2 0 s24.1.length),(5,iV s24.2),(6,.own 3 0 v28.length)],[(0,.mix 14 [(Mnd.cells true m_)]),(1,.mix 5 [(Cat.cells true m_.f.s)]),(2,.row 1 (Ls s24.1)),(3,rI v28)],4⟩) (Ql [(0,0),(1,1),(2,2),(3,3)]) ?_;refine Q5 ?_;refine runQ hN fun K hK=>?_;simp [-Q0,-Q7,-Q1,-Q8,-Q2];(repeat refine sdQ ?_);refine hK _ ?_;clear hK K;refine tn ?_;refine Q9 (st':=⟨[(1,.adr 0 0 0),(3,.adr 1 0 0),(4,.own 2 0 s24.1.length),(5,iV s24.2),(6,.own 3 0 v28.length),(7,iV 0)],[(0,.mix 14 [(Mnd.cells true m_)]),(1,.mix 5 [(Cat.cells true m_.f.s)]),(2,.row 1 (Ls s24.1)),(3,rI v28)],4⟩) (Ql [(0,0),(1,1),(2,2),(3,3)]) ?_;refine Qc ?_;replace h:=bind_some h;obtain ⟨e37,he37,h37⟩:=h;refine Qz he37 (fun s37:List (List Int) × Int=>⟨[(1,.adr 0 0 0),(3,.adr 1 0 0),(4,.own 2 0 s37.1.length),(5,iV s24.2),(6,.own 3 0 v28.length),(7,iV s37.2)],[(0,.mix 14 [(Mnd.cells true m_)]),(1,.mix 5 [(Cat.cells true m_.f.s)]),(2,.row 1 (Ls s37.1)),(3,rI v28)],4⟩) (Ql [(0,0),(1,1),(2,2),(3,3)]) ?_;intro k37 s37 c37 h hk37;refine Q5 ?_;refine Q5 ?_;refine runQ hN fun K hK=>?_;simp [-Q0,-Q7,-Q1,-Q8,-Q2];(repeat refine sdQ ?_);refine hK _ ?_;clear hK K;refine tn ?_;refine Q9 (st':=⟨[(1,.adr 0 0 0),(3,.adr 1 0 0),(4,.own 2 0 s37.1.length),(5,iV s24.2),(6,.own 3 0 v28.length),(7,iV s37.2),(30,.val (.bool (decide (s37.2<(v28.length:Int)))))],[(0,.mix 14 [(Mnd.cells true m_)]),(1,.mix 5 [(Cat.cells true m_.f.s)]),(2,.row 1 (Ls s37.1)),(3,rI v28)],4⟩) (Ql [(0,0),(1,1),(2,2),(3,3)]) ?_;refine Qd rfl (fun g=>?_) fun g=>?_
    ·have g38:s37.2<(v28.length:Int):=gQ;clear g;replace h:=if_l g38 h;refine Qe ?_;refine tn ?_;refine Q5 ?_;replace h:=bind_some h;obtain ⟨e39,h,h39⟩:=h;refine Qj (fun b39:List (List Int)=>⟨[(1,.adr 0 0 0),(3,.adr 1 0 0),(4,.own 2 0 b39.length),(5,iV s24.2),(6,.own 3 0 v28.length),(7,iV s37.2)],[(0,.mix 14 [(Mnd.cells true m_)]),(1,.mix 5 [(Cat.cells true m_.f.s)]),(2,.row 1 (Ls b39)),(3,rI v28)],4⟩) (fun b39=>b39=e39) ?_ ?_
     ·refine Qc ?_;refine Q5 ?_;refine runQ hN fun K hK=>?_;replace h:=Q6 h;obtain ⟨a40,h⟩:=h;simp [-Q0,-Q7,-Q1,-Q8,-Q2,at_I a40];(repeat with_reducible refine sdQ ?_);replace h:=bind_some h;obtain ⟨v41,hv41,h⟩:=h;refine Q3 (w_s_l17Is _ _ _ v41 hv41) (.cons (.aggL (.cons .val (.cons .lst (.cons .lst (.cons .lst (.cons .lst (.cons .val (.cons .lst (.cons .lst (.cons .lst (.cons .lst (.cons .lst (.cons .lst (.cons .lst (.cons .lst .nil))))))))))))))) (.cons .val (.cons .val .nil))) ?_;simp [-Q0,-Q7,-Q1,-Q8,-Q2,unk,unA,unE,unT,unC,flat,at_I a40];(repeat refine sdQ ?_);refine hK _ ?_;clear hK K;refine tn ?_;refine Q9 (st':=⟨[(1,.adr 0 0 0),(3,.adr 1 0 0),(4,.own 2 0 s37.1.length),(5,iV s24.2),(6,.own 3 0 v28.length),(7,iV s37.2),(39,.val (.bool v41))],[(0,.mix 14 [(Mnd.cells true m_)]),(1,.mix 5 [(Cat.cells true m_.f.s)]),(2,.row 1 (Ls s37.1)),(3,rI v28)],4⟩) (Ql [(0,0),(1,1),(2,2),(3,3)]) ?_;refine Qd rfl (fun g=>?_) fun g=>?_
      ·have g42:v41=true:=gQ;clear g;replace h:=if_l g42 h;refine runQ hN fun K hK=>?_;replace h:=Q6 h;obtain ⟨a43,h⟩:=h;replace h:=Q6 h;obtain ⟨a44,h⟩:=h;(try simp only [List.length_append,List.length_cons,List.length_nil] at a44);simp [-Q0,-Q7,-Q1,-Q8,-Q2,at_I a43,a44];(repeat refine sdQ ?_);refine hK _ ?_;clear hK K;refine bn ?_;exact jn (b:=s37.1++[[s24.2,ix v28 s37.2]]) (Option.some.inj h) (Ql [(0,0),(1,1),(7,2),(3,3)])
      have g42:¬ (v41=true):=gQ;clear g;replace h:=if_r g42 h;refine Qe ?_;refine bn ?_;exact jn (b:=s37.1) (Option.some.inj h) (Ql [(0,0),(1,1),(2,2),(3,3)])
     intro b39 hb39;have h:=h39;(try rw [← hb39] at h);clear h39;(try dsimp only at h);refine runQ hN fun K hK=>?_;replace h:=Q6 h;obtain ⟨a45,h⟩:=h;simp [-Q0,-Q7,-Q1,-Q8,-Q2,Qu a45];(repeat refine sdQ ?_);refine hK _ ?_;clear hK K;cases h;exact rn (s':=(b39,s37.2+1)) hk37 (Ql [(0,0),(1,1),(2,2),(3,3)])
    have g38:¬ (s37.2<(v28.length:Int)):=gQ;clear g;replace h:=if_r g38 h;refine Qp ?_;refine tx ?_;refine lx ?_;refine bh ?_;refine bn ?_;cases h;have q:_=e37:=hk37;have h:=h37;rw [← q] at h;clear q;(try dsimp only at h);exact jn (b:=s37.1) (Option.some.inj h) (Ql [(0,0),(1,1),(2,2)])
   intro b26 hb26;have h:=h26;(try rw [← hb26] at h);clear h26;(try dsimp only at h);refine runQ hN fun K hK=>?_;replace h:=Q6 h;obtain ⟨a46,h⟩:=h;simp [-Q0,-Q7,-Q1,-Q8,-Q2,Qu a46];(repeat refine sdQ ?_);refine hK _ ?_;clear hK K;cases h;exact rn (s':=(b26,s24.2+1)) hk24 (Ql [(0,0),(1,1),(2,2)])
  have g25:¬ (s24.2<m_.f.s.n):=gQ;clear g;replace h:=if_r g25 h;refine Qp ?_;refine tx ?_;refine lx ?_;refine bh ?_;cases h;exact jn (b:=s24.1) hk24 (Ql [(2,0)])
 intro b1 hb1;have h:=h1;try rw [← hb1] at h
 clear h1;try dsimp only at h
 refine Q5 ?_;refine runQ hN fun K hK=>?_;simp [-Q0,-Q7,-Q1,-Q8,-Q2];repeat refine sdQ ?_
 refine hK _ ?_;clear hK K;refine tn ?_;refine Q9 (st':=⟨[(2,.own 0 0 b1.length)],[(0,.row 1 (Ls b1))],1⟩) (Ql [(0,0)]) ?_;refine Qi ?_;have hr:=Option.some.inj h;rw [← hr];refine ⟨_,(.tmp .nil),?_⟩;refine ⟨(.one rfl rfl .nil),[.lst true 1 (Ls b1)],[0],by simp [Cat.cells,Mnd.cells,UA,U1,IA,I1,LA,L1,BA,B1,EA,E1,E2,eB,eI,eL],by simp,(UpL.refl _)⟩
theorem fm_bind {α ε β:Type} {body:List α × Int→Option (Ctl (List α × Int) ε)} {K:ε→Option β} {r:Option β} {a0:List α} (xs:List Int) (q:Int→Prop) (v:Int→α) {e:ε} (hn:xs.length<4611686018427387904)
  (h:∀ (i:Nat) (acc:List α),i<xs.length→acc.length≤a0.length+i→(q (ix xs i)→body (acc,(i:Int))=some (.next (acc++[v (ix xs i)],(i:Int)+1)))∧(¬ q (ix xs i)→body (acc,(i:Int))=some (.next (acc,(i:Int)+1))))
  (he:body (a0++(xs.filter (fun f=>bo (q f))).map v,(xs.length:Int))=some (.ret e)) (hk:K e=r):(QE body fuel (a0,0)).bind K=r:=by
 refine QN xs.length (fun i=>a0++((xs.take i).filter fun f=>bo (q f)).map v) (e:=e) (by simp) hn (fun i hi=>?_) (by simpa using he) hk;have hl:((xs.take i).filter fun f=>bo (q f)).length≤i:=Nat.le_trans (List.length_filter_le _ _) (by simp;omega);have hs:xs.take (i+1)=xs.take i++[ix xs i]:=by rw [List.take_succ_eq_append_getElem hi,Q1G _ _ hi]
 have hf:((xs.take (i+1)).filter fun f=>bo (q f))=((xs.take i).filter fun f=>bo (q f))++(if bo (q (ix xs i))=true then [ix xs i] else []):=by rw [hs,List.filter_append];simp [List.filter_cons]
 obtain ⟨h1,h2⟩:=h i (a0++((xs.take i).filter fun f=>bo (q f)).map v) hi (by simp;exact hl)
 by_cases hq:q (ix xs i)
 ·rw [h1 hq,hf,QP hq];simp
 rw [h2 hq,hf,QA hq];simp
noncomputable def algL (m:Mnd) (x:Int):List Int:=(homL m.f.s (ix m.f.ob x) x).filter fun h=>bo (Alg m x h)
noncomputable def Q2a {α:Type} (m:Mnd) (v:Int→Int→α) (n:Nat):List α:=(List.range n).flatMap fun (x:Nat)=>(algL m (x:Int)).map (v (x:Int))
theorem Q4h {α:Type} (m:Mnd) (v:Int→Int→α) (n:Nat):Q2a m v (n+1)=Q2a m v n++(algL m n).map (v n):=by
 simp [Q2a,List.range_succ]
theorem algL_len (m:Mnd) (x:Int):(algL m x).length≤m.f.s.fr.length:=Nat.le_trans (List.length_filter_le _ _) (Q4F _ _ _)
theorem Q4U {α:Type} (m:Mnd) (v:Int→Int→α) (h:m.f.s.fr.length≤40) (n:Nat):(Q2a m v n).length≤n * 40:=by
 induction n with
 | zero=>simp [Q2a]
 | succ n ih =>
  have:=algL_len m n;rw [Q4h,List.length_append,List.length_map];omega
theorem e_l17All {m:Mnd} (hm:m.Is):Q2I m=some (Q2a m (fun x h=>[x,h]) m.f.s.n.toNat):=by
 obtain ⟨l1,l2,l3,l4,l5,l6,l7,l8,l9⟩:=hm.pre.len;have hc:=hm.pre.f.s;unfold Q2I;refine QN m.f.s.n.toNat (fun i=>Q2a m (fun x h=>[x,h]) i) (e:=Q2a m (fun x h=>[x,h]) m.f.s.n.toNat) rfl (by omega) (fun i hi=>?_) (by simp;try omega) rfl;have hL:=Q4U m (fun x h=>[x,h]) (by omega) i;have hH:=Q4F m.f.s (ix m.f.ob i) i;simp only;rw [if_pos (by omega),Qa (by omega),(Q8H hc _ _).1];simp only [Option.bind_some,Option.bind_assoc];refine fm_bind (homL m.f.s (ix m.f.ob i) i) (fun h=>Alg m i h) (fun h=>[(i:Int),h]) (e:=Q2a m (fun x h=>[x,h]) (i+1)) (by omega) (fun k acc hk ha=>?_) (by simp [Q4h,algL]) ?_
 ·have af:=Q8V Q44 hk;have b1:=af.1;have g:=(e_alg hm (x:=i) (h:=ix (homL m.f.s (ix m.f.ob i) i) k) (by omega) b1).1;refine ⟨fun hq=>?_,fun hq=>?_⟩
  ·rw [QP hq] at g;simp (disch:=omega) only [Qa,g,Option.bind_some];simp (disch:=omega) [Qa,B64,hk];try omega
  rw [QA hq] at g;simp (disch:=omega) only [Qa,g,Option.bind_some];simp (disch:=omega) [Qa,B64,hk];try omega
 try simp only [Option.bind_some]
 rw [Qa (by unfold B64;omega)]
theorem e_allAlg {m:Mnd} (hm:m.Is):QT m=some (Q2a m (fun x h=>(⟨x,h⟩:XAlgebra)) m.f.s.n.toNat):=by
 obtain ⟨l1,l2,l3,l4,l5,l6,l7,l8,l9⟩:=hm.pre.len;have hc:=hm.pre.f.s;unfold QT;refine QN m.f.s.n.toNat (fun i=>Q2a m (fun x h=>(⟨x,h⟩:XAlgebra)) i) (e:=Q2a m (fun x h=>(⟨x,h⟩:XAlgebra)) m.f.s.n.toNat) rfl (by omega) (fun i hi=>?_) (by simp;try omega) rfl;have hL:=Q4U m (fun x h=>(⟨x,h⟩:XAlgebra)) (by omega) i;have hH:=Q4F m.f.s (ix m.f.ob i) i;simp only;rw [if_pos (by omega)];unfold QJ;rw [Qa (by omega)];simp only [Option.bind_some];rw [(Q8H hc _ _).2];simp only [Option.bind_some,Option.bind_assoc];refine fm_bind (homL m.f.s (ix m.f.ob i) i) (fun h=>Alg m i h) (fun h=>(⟨(i:Int),h⟩:XAlgebra)) (e:=Q2a m (fun x h=>(⟨x,h⟩:XAlgebra)) (i+1)) (by omega) (fun k acc hk ha=>?_) (by simp [Q4h,algL]) ?_
 ·have af:=Q8V Q44 hk;have b1:=af.1;have g:=(e_alg hm (x:=i) (h:=ix (homL m.f.s (ix m.f.ob i) i) k) (by omega) b1).2;refine ⟨fun hq=>?_,fun hq=>?_⟩
  ·rw [QP hq] at g;simp (disch:=omega) only [Qa,g,Option.bind_some];simp (disch:=omega) [Qa,B64,hk];try omega
  rw [QA hq] at g;simp (disch:=omega) only [Qa,g,Option.bind_some];simp (disch:=omega) [Qa,B64,hk];try omega
 try simp only [Option.bind_some]
 rw [Qa (by unfold B64;omega)]
attribute [local simp] eL eI Qo
noncomputable def Q2c (list_:List (List Int)) (i_:Int):Option (List Int) :=
 (QE (σ:=List Int × Int) (ε:=List Int) (fun s7 =>
  if s7.2<(list_.length:Int) then
   ass (0≤s7.2∧s7.2<(list_.length:Int)) <|
   ass (0≤i_∧i_<((rx list_ s7.2).length:Int)) <|
   ass ((s7.1++[ix (rx list_ s7.2) i_]).length≤1073741824) <|
   ass (B64 (s7.2+1)) <|
   some (Ctl.next (s7.1++[ix (rx list_ s7.2) i_],s7.2+1))
  else
   some (Ctl.ret s7.1)) fuel ([],0)).bind fun b1 =>
 some b1
theorem Q54 (list_:List (List Int)) (i_:Int) (r:List Int) (h:Q2c list_ i_=some r):Contract Tryz.prog 66 [.lst true 1 (Ls list_),iV i_] (lI r):=by
 refine Qf (rvs:=[.tmp 4]) (rs:=[lI r]) Tryz.func66 rfl rfl rfl rfl (by simp [Tryz.f66]) fun F hN hP=>?_;unfold Q2c at h;refine Q5 ?_;refine runQ hN fun K hK=>?_;simp [-Q0,-Q7,-Q1,-Q8,-Q2];repeat refine sdQ ?_
 refine hK _ ?_;clear hK K;refine tn ?_;refine Q9 (st':=⟨[(0,.lst true 1 (Ls list_)),(1,iV i_)],[],0⟩) (Ql []) ?_;refine Q5 ?_;refine runQ hN fun K hK=>?_;simp [-Q0,-Q7,-Q1,-Q8,-Q2];repeat refine sdQ ?_
 refine hK _ ?_;clear hK K;refine tn ?_;refine Q9 (st':=⟨[(0,.lst true 1 (Ls list_)),(1,iV i_),(5,.own 0 0 0)],[(0,.mix 1 [])],1⟩) (Ql [(0,0)]) ?_;refine Q5 ?_;refine Q5 ?_;refine runQ hN fun K hK=>?_;simp [-Q0,-Q7,-Q1,-Q8,-Q2];repeat refine sdQ ?_
 refine hK _ ?_;clear hK K;refine tn ?_;refine Q9 (st':=⟨[(1,iV i_),(5,.own 0 0 0),(9,.lst true 1 (Ls list_)),(10,iV (list_.length:Int)),(11,iV 0)],[(0,.mix 1 [])],1⟩) (Ql [(0,0)]) ?_;replace h:=bind_some h;obtain ⟨e1,h,h1⟩:=h;refine Qj (fun b1:List Int=>⟨[(5,.own 0 0 b1.length)],[(0,rI b1)],1⟩) (fun b1=>b1=e1) ?_ ?_
 ·refine Qc ?_;refine Qz h (fun s7:List Int × Int=>⟨[(1,iV i_),(5,.own 0 0 s7.1.length),(9,.lst true 1 (Ls list_)),(10,iV (list_.length:Int)),(11,iV s7.2)],[(0,rI s7.1)],1⟩) (Q2Z ⟨[(1,iV i_),(5,.own 0 0 0),(9,.lst true 1 (Ls list_)),(10,iV (list_.length:Int)),(11,iV 0)],[(0,rI [])],1⟩ (Wk.nils [] (by simp) (by simp) (by simp [nlA]) (by simp [entN,nlL,nlA,UA,U1,IA,I1,LA,L1,BA,B1,EA,E1,E2,eB,eI,eL]) (by simp)) (Ql [(0,0)])) ?_;clear h;intro k7 s7 c7 h hk7;refine Q5 ?_;refine runQ hN fun K hK=>?_;simp [-Q0,-Q7,-Q1,-Q8,-Q2];repeat refine sdQ ?_
  refine hK _ ?_;clear hK K;refine tn ?_;refine Q9 (st':=⟨[(1,iV i_),(5,.own 0 0 s7.1.length),(9,.lst true 1 (Ls list_)),(10,iV (list_.length:Int)),(11,iV s7.2),(12,.val (.bool (decide (s7.2<(list_.length:Int)))))],[(0,rI s7.1)],1⟩) (Ql [(0,0)]) ?_;refine Q5 ?_;refine Qd rfl (fun g=>?_) fun g=>?_
  ·have g8:s7.2<(list_.length:Int):=gQ;clear g;replace h:=if_l g8 h;refine Qe ?_;refine tn ?_;refine Q5 ?_;refine Qc ?_;refine Q5 ?_;refine runQ hN fun K hK=>?_;replace h:=Q6 h;obtain ⟨a9,h⟩:=h;simp [-Q0,-Q7,-Q1,-Q8,-Q2,at_L a9];(repeat refine sdQ ?_);refine hK _ ?_;clear hK K;refine tn ?_;refine Q9 (st':=⟨[(1,iV i_),(5,.own 0 0 s7.1.length),(7,lI (rx list_ s7.2)),(9,.lst true 1 (Ls list_)),(10,iV (list_.length:Int)),(11,iV s7.2)],[(0,rI s7.1)],1⟩) (Ql [(0,0)]) ?_;refine runQ hN fun K hK=>?_;replace h:=Q6 h;obtain ⟨a10,h⟩:=h;replace h:=Q6 h;obtain ⟨a11,h⟩:=h;(try simp only [List.length_append,List.length_cons,List.length_nil] at a11);simp [-Q0,-Q7,-Q1,-Q8,-Q2,at_I a10,a11];(repeat refine sdQ ?_);refine hK _ ?_;clear hK K;refine bn ?_;refine tn ?_;refine Q9 (st':=⟨[(1,iV i_),(5,.own 0 0 ((s7.1++[ix (rx list_ s7.2) i_]).length)),(9,.lst true 1 (Ls list_)),(10,iV (list_.length:Int)),(11,iV s7.2)],[(0,rI (s7.1++[ix (rx list_ s7.2) i_]))],1⟩) (Ql [(2,0)]) ?_;refine runQ hN fun K hK=>?_;replace h:=Q6 h;obtain ⟨a12,h⟩:=h;simp [-Q0,-Q7,-Q1,-Q8,-Q2,Qu a12];(repeat refine sdQ ?_);refine hK _ ?_;clear hK K;cases h;exact rn (s':=(s7.1++[ix (rx list_ s7.2) i_],s7.2+1)) hk7 (Ql [(0,0)])
  have g8:¬ (s7.2<(list_.length:Int)):=gQ;clear g;replace h:=if_r g8 h;refine Qp ?_;refine tx ?_;refine lx ?_;refine bh ?_;cases h;exact jn (b:=s7.1) hk7 (Ql [(0,0)])
 intro b1 hb1;have h:=h1;try rw [← hb1] at h
 clear h1;try dsimp only at h
 refine Q5 ?_;refine runQ hN fun K hK=>?_;simp [-Q0,-Q7,-Q1,-Q8,-Q2];repeat refine sdQ ?_
 refine hK _ ?_;clear hK K;refine tn ?_;refine Q9 (st':=⟨[(4,.own 0 0 b1.length)],[(0,rI b1)],1⟩) (Ql [(0,0)]) ?_;refine Qi ?_;have hr:=Option.some.inj h;rw [← hr];refine ⟨_,(.tmp .nil),?_⟩;refine ⟨(.one rfl rfl .nil),[lI b1],[0],by simp [UA,U1,IA,I1,LA,L1,BA,B1,EA,E1,E2,eB,eI,eL],by simp,(UpL.refl _)⟩
attribute [local simp] eL eI Qo
noncomputable def Q50 (lists_:List (List Int)):Option ByteArray :=
 (QE (σ:=List Int × Int) (ε:=List Int) (fun s16 =>
  if s16.2<(lists_.length:Int) then
   ass (0≤s16.2∧s16.2<(lists_.length:Int)) <|
   (QE (σ:=List Int × Int) (ε:=List Int) (fun s24 =>
    if s24.2<((rx lists_ s16.2).length:Int) then
     ass (0≤s24.2∧s24.2<((rx lists_ s16.2).length:Int)) <|
     ass ((s24.1++[IntKind.u8.wrap (ix (rx lists_ s16.2) s24.2)]).length≤1073741824) <|
     ass (B64 (s24.2+1)) <|
     some (Ctl.next (s24.1++[IntKind.u8.wrap (ix (rx lists_ s16.2) s24.2)],s24.2+1))
    else
     some (Ctl.ret s24.1)) fuel (s16.1,0)).bind fun b19 =>
   ass ((b19++[255]).length≤1073741824) <|
   ass (B64 (s16.2+1)) <|
   some (Ctl.next (b19++[255],s16.2+1))
  else
   some (Ctl.ret s16.1)) fuel ([],0)).bind fun b1 =>
 some (Q24 b1)
theorem w_i_key (lists_:List (List Int)) (r:ByteArray) (h:Q50 lists_=some r):Contract Tryz.prog 53 [.lst true 1 (Ls lists_)] (.val (.string r)):=by
 refine Qf (rvs:=[.tmp 2]) (rs:=[.val (.string r)]) Tryz.func53 rfl rfl rfl rfl (by simp [Tryz.f53]) fun F hN hP=>?_;unfold Q50 at h;refine Q5 ?_;refine runQ hN fun K hK=>?_;simp [-Q0,-Q7,-Q1,-Q8,-Q2];repeat refine sdQ ?_
 refine hK _ ?_;clear hK K;refine tn ?_;refine Q9 (st':=⟨[(0,.lst true 1 (Ls lists_))],[],0⟩) (Ql []) ?_;refine Q5 ?_;refine runQ hN fun K hK=>?_;simp [-Q0,-Q7,-Q1,-Q8,-Q2];repeat refine sdQ ?_
 refine hK _ ?_;clear hK K;refine tn ?_;refine Q9 (st':=⟨[(0,.lst true 1 (Ls lists_)),(3,.own 0 0 0)],[(0,.mix 1 [])],1⟩) (Ql [(0,0)]) ?_;refine Q5 ?_;refine Q5 ?_;refine runQ hN fun K hK=>?_;simp [-Q0,-Q7,-Q1,-Q8,-Q2];repeat refine sdQ ?_
 refine hK _ ?_;clear hK K;refine tn ?_;refine Q9 (st':=⟨[(3,.own 0 0 0),(9,.lst true 1 (Ls lists_)),(10,iV (lists_.length:Int)),(11,iV 0)],[(0,.mix 1 [])],1⟩) (Ql [(0,0)]) ?_;replace h:=bind_some h;obtain ⟨e1,h,h1⟩:=h;refine Qj (fun b1:List Int=>⟨[(3,.own 0 0 b1.length)],[(0,.row 1 (Us b1))],1⟩) (fun b1=>b1=e1) ?_ ?_
 ·refine Qc ?_;refine Qz h (fun s16:List Int × Int=>⟨[(3,.own 0 0 s16.1.length),(9,.lst true 1 (Ls lists_)),(10,iV (lists_.length:Int)),(11,iV s16.2)],[(0,.row 1 (Us s16.1))],1⟩) (Q2Z ⟨[(3,.own 0 0 0),(9,.lst true 1 (Ls lists_)),(10,iV (lists_.length:Int)),(11,iV 0)],[(0,.row 1 (Us []))],1⟩ (Wk.nils [] (by simp) (by simp) (by simp [nlA]) (by simp [entN,nlL,nlA,UA,U1,IA,I1,LA,L1,BA,B1,EA,E1,E2,eB,eI,eL]) (by simp)) (Ql [(0,0)])) ?_;clear h;intro k16 s16 c16 h hk16;refine Q5 ?_;refine runQ hN fun K hK=>?_;simp [-Q0,-Q7,-Q1,-Q8,-Q2];repeat refine sdQ ?_
  refine hK _ ?_;clear hK K;refine tn ?_;refine Q9 (st':=⟨[(3,.own 0 0 s16.1.length),(9,.lst true 1 (Ls lists_)),(10,iV (lists_.length:Int)),(11,iV s16.2),(12,.val (.bool (decide (s16.2<(lists_.length:Int)))))],[(0,.row 1 (Us s16.1))],1⟩) (Ql [(0,0)]) ?_;refine Q5 ?_;refine Qd rfl (fun g=>?_) fun g=>?_
  ·have g17:s16.2<(lists_.length:Int):=gQ;clear g;replace h:=if_l g17 h;refine Qe ?_;refine tn ?_;refine Q5 ?_;refine Qc ?_;refine Q5 ?_;refine runQ hN fun K hK=>?_;replace h:=Q6 h;obtain ⟨a18,h⟩:=h;simp [-Q0,-Q7,-Q1,-Q8,-Q2,at_L a18];(repeat refine sdQ ?_);refine hK _ ?_;clear hK K;refine tn ?_;refine Q9 (st':=⟨[(3,.own 0 0 s16.1.length),(5,lI (rx lists_ s16.2)),(9,.lst true 1 (Ls lists_)),(10,iV (lists_.length:Int)),(11,iV s16.2)],[(0,.row 1 (Us s16.1))],1⟩) (Ql [(0,0)]) ?_;refine Q5 ?_;refine Q5 ?_;refine runQ hN fun K hK=>?_;simp [-Q0,-Q7,-Q1,-Q8,-Q2];(repeat refine sdQ ?_);refine hK _ ?_;clear hK K;refine tn ?_;refine Q9 (st':=⟨[(3,.own 0 0 s16.1.length),(9,.lst true 1 (Ls lists_)),(10,iV (lists_.length:Int)),(11,iV s16.2),(15,lI (rx lists_ s16.2)),(16,iV ((rx lists_ s16.2).length:Int)),(17,iV 0)],[(0,.row 1 (Us s16.1))],1⟩) (Ql [(0,0)]) ?_;replace h:=bind_some h;obtain ⟨e19,h,h19⟩:=h;refine Qj (fun b19:List Int=>⟨[(3,.own 0 0 b19.length),(9,.lst true 1 (Ls lists_)),(10,iV (lists_.length:Int)),(11,iV s16.2)],[(0,.row 1 (Us b19))],1⟩) (fun b19=>b19=e19) ?_ ?_
   ·refine Qc ?_;refine Qz h (fun s24:List Int × Int=>⟨[(3,.own 0 0 s24.1.length),(9,.lst true 1 (Ls lists_)),(10,iV (lists_.length:Int)),(11,iV s16.2),(15,lI (rx lists_ s16.2)),(16,iV ((rx lists_ s16.2).length:Int)),(17,iV s24.2)],[(0,.row 1 (Us s24.1))],1⟩) (Ql [(0,0)]) ?_;clear h;intro k24 s24 c24 h hk24;refine Q5 ?_;refine runQ hN fun K hK=>?_;simp [-Q0,-Q7,-Q1,-Q8,-Q2];(repeat refine sdQ ?_);refine hK _ ?_;clear hK K;refine tn ?_;refine Q9 (st':=⟨[(3,.own 0 0 s24.1.length),(9,.lst true 1 (Ls lists_)),(10,iV (lists_.length:Int)),(11,iV s16.2),(15,lI (rx lists_ s16.2)),(16,iV ((rx lists_ s16.2).length:Int)),(17,iV s24.2),(18,.val (.bool (decide (s24.2<((rx lists_ s16.2).length:Int)))))],[(0,.row 1 (Us s24.1))],1⟩) (Ql [(0,0)]) ?_;refine Q5 ?_;refine Qd rfl (fun g=>?_) fun g=>?_
    ·have g25:s24.2<((rx lists_ s16.2).length:Int):=gQ;clear g;replace h:=if_l g25 h;refine Qe ?_;refine tn ?_;refine Q5 ?_;refine Qc ?_;refine Q5 ?_;refine runQ hN fun K hK=>?_;replace h:=Q6 h;obtain ⟨a26,h⟩:=h;simp [-Q0,-Q7,-Q1,-Q8,-Q2,at_I a26];(repeat refine sdQ ?_);refine hK _ ?_;clear hK K;refine tn ?_;refine Q9 (st':=⟨[(3,.own 0 0 s24.1.length),(7,iV (ix (rx lists_ s16.2) s24.2)),(9,.lst true 1 (Ls lists_)),(10,iV (lists_.length:Int)),(11,iV s16.2),(15,lI (rx lists_ s16.2)),(16,iV ((rx lists_ s16.2).length:Int)),(17,iV s24.2)],[(0,.row 1 (Us s24.1))],1⟩) (Ql [(0,0)]) ?_;refine runQ hN fun K hK=>?_;replace h:=Q6 h;obtain ⟨a27,h⟩:=h;(try simp only [List.length_append,List.length_cons,List.length_nil] at a27);simp [-Q0,-Q7,-Q1,-Q8,-Q2,a27];(repeat refine sdQ ?_);refine hK _ ?_;clear hK K;refine bn ?_;refine tn ?_;refine Q9 (st':=⟨[(3,.own 0 0 ((s24.1++[IntKind.u8.wrap (ix (rx lists_ s16.2) s24.2)]).length)),(9,.lst true 1 (Ls lists_)),(10,iV (lists_.length:Int)),(11,iV s16.2),(15,lI (rx lists_ s16.2)),(16,iV ((rx lists_ s16.2).length:Int)),(17,iV s24.2)],[(0,.row 1 (Us (s24.1++[IntKind.u8.wrap (ix (rx lists_ s16.2) s24.2)])))],1⟩) (Ql [(2,0)]) ?_;refine runQ hN fun K hK=>?_;replace h:=Q6 h;obtain ⟨a28,h⟩:=h;simp [-Q0,-Q7,-Q1,-Q8,-Q2,Qu a28];(repeat refine sdQ ?_);refine hK _ ?_;clear hK K;cases h;exact rn (s':=(s24.1++[IntKind.u8.wrap (ix (rx lists_ s16.2) s24.2)],s24.2+1)) hk24 (Ql [(0,0)])
    have g25:¬ (s24.2<((rx lists_ s16.2).length:Int)):=gQ;clear g;replace h:=if_r g25 h;refine Qp ?_;refine tx ?_;refine lx ?_;refine bh ?_;cases h;exact jn (b:=s24.1) hk24 (Ql [(0,0)])
   intro b19 hb19;have h:=h19;(try rw [← hb19] at h);clear h19;(try dsimp only at h);refine runQ hN fun K hK=>?_;replace h:=Q6 h;obtain ⟨a29,h⟩:=h;(try simp only [List.length_append,List.length_cons,List.length_nil] at a29);simp [-Q0,-Q7,-Q1,-Q8,-Q2,a29];(repeat refine sdQ ?_);refine hK _ ?_;clear hK K;refine bn ?_;refine tn ?_;refine Q9 (st':=⟨[(3,.own 0 0 ((b19++[255]).length)),(9,.lst true 1 (Ls lists_)),(10,iV (lists_.length:Int)),(11,iV s16.2)],[(0,.row 1 (Us (b19++[255])))],1⟩) (Ql [(2,0)]) ?_;refine runQ hN fun K hK=>?_;replace h:=Q6 h;obtain ⟨a30,h⟩:=h;simp [-Q0,-Q7,-Q1,-Q8,-Q2,Qu a30];(repeat refine sdQ ?_);refine hK _ ?_;clear hK K;cases h;exact rn (s':=(b19++[255],s16.2+1)) hk16 (Ql [(0,0)])
  have g17:¬ (s16.2<(lists_.length:Int)):=gQ;clear g;replace h:=if_r g17 h;refine Qp ?_;refine tx ?_;refine lx ?_;refine bh ?_;cases h;exact jn (b:=s16.1) hk16 (Ql [(0,0)])
 intro b1 hb1;have h:=h1;try rw [← hb1] at h
 clear h1;try dsimp only at h
 refine Q5 ?_;refine Qv [32] mo (by rw [hN];decide) fun K hK=>?_;simp [-Q0,-Q7,-Q1,-Q8,-Q2];repeat refine sdQ ?_
 refine hK _ ?_;clear hK K;refine tn ?_;refine Q9 (st':=⟨[(2,.val (.string (Q24 b1)))],[],0⟩) (Ql []) ?_;refine Qi ?_;have hr:=Option.some.inj h;rw [← hr];refine ⟨_,(.tmp .nil),?_⟩;refine ⟨(.one rfl rfl .nil),[.val (.string (Q24 b1))],[],by simp [UA,U1,IA,I1,LA,L1,BA,B1,EA,E1,E2,eB,eI,eL],by simp,(UpL.refl _)⟩
attribute [local simp] eL eI Qo
noncomputable def Q3j (list_:List (List Int)):Option (List (ByteArray × Int)) :=
 (QE (σ:=(List (ByteArray × Int)) × Int) (ε:=List (ByteArray × Int)) (fun s7 =>
  if s7.2<(list_.length:Int) then
   ass (0≤s7.2∧s7.2<(list_.length:Int)) <|
   (Q50 [rx list_ s7.2]).bind fun v10 =>
   ass (s7.1.length<1099511627776) <|
   ass (B64 (s7.2+1)) <|
   some (Ctl.next (tset v10 s7.2 s7.1,s7.2+1))
  else
   some (Ctl.ret s7.1)) fuel ([],0)).bind fun b1 =>
 some b1
theorem Q9M (list_:List (List Int)) (r:List (ByteArray × Int)) (h:Q3j list_=some r):FContract Tryz.prog false 52 [.lst true 1 (Ls list_)] (.cmap .str (Msi r)):=by
 refine Q2K false (ts:=[2]) (rs:=[.cmap .str (Msi r)]) Tryz.func52 rfl rfl rfl rfl (by simp [Tryz.f52]) fun F hN hP=>?_;unfold Q3j at h;refine Q5 ?_;refine Qv [] mo (by rw [hN];decide) fun K hK=>?_;simp [-Q0,-Q7,-Q1,-Q8,-Q2];repeat refine sdQ ?_
 refine hK _ ?_;clear hK K;refine tn ?_;refine Q9 (st':=⟨[(0,.lst true 1 (Ls list_))],[],0⟩) (Ql []) ?_;refine Q5 ?_;refine Qv [] mo (by rw [hN];decide) fun K hK=>?_;simp [-Q0,-Q7,-Q1,-Q8,-Q2];repeat refine sdQ ?_
 refine hK _ ?_;clear hK K;refine tn ?_;refine Q9 (st':=⟨[(0,.lst true 1 (Ls list_)),(3,.mp 0)],[(0,.mapE .str (Msi []))],1⟩) (Ql [(0,0)]) ?_;refine Q5 ?_;refine Q5 ?_;refine Qv [] mo (by rw [hN];decide) fun K hK=>?_;simp [-Q0,-Q7,-Q1,-Q8,-Q2];repeat refine sdQ ?_
 refine hK _ ?_;clear hK K;refine tn ?_;refine Q9 (st':=⟨[(3,.mp 0),(7,.lst true 1 (Ls list_)),(8,iV (list_.length:Int)),(9,iV 0)],[(0,.mapE .str (Msi []))],1⟩) (Ql [(0,0)]) ?_;replace h:=bind_some h;obtain ⟨e1,h,h1⟩:=h;refine Qj (fun b1:List (ByteArray × Int)=>⟨[(3,.mp 0)],[(0,.mapE .str (Msi b1))],1⟩) (fun b1=>b1=e1) ?_ ?_
 ·refine Qc ?_;refine Qz h (fun s7:(List (ByteArray × Int)) × Int=>⟨[(3,.mp 0),(7,.lst true 1 (Ls list_)),(8,iV (list_.length:Int)),(9,iV s7.2)],[(0,.mapE .str (Msi s7.1))],1⟩) (Ql [(0,0)]) ?_;clear h;intro k7 s7 c7 h hk7;refine Q5 ?_;refine Qv [] mo (by rw [hN];decide) fun K hK=>?_;simp [-Q0,-Q7,-Q1,-Q8,-Q2];repeat refine sdQ ?_
  refine hK _ ?_;clear hK K;refine tn ?_;refine Q9 (st':=⟨[(3,.mp 0),(7,.lst true 1 (Ls list_)),(8,iV (list_.length:Int)),(9,iV s7.2),(10,.val (.bool (decide (s7.2<(list_.length:Int)))))],[(0,.mapE .str (Msi s7.1))],1⟩) (Ql [(0,0)]) ?_;refine Q5 ?_;refine Qd rfl (fun g=>?_) fun g=>?_
  ·have g8:s7.2<(list_.length:Int):=gQ;clear g;replace h:=if_l g8 h;refine Qe ?_;refine tn ?_;refine Q5 ?_;refine Qc ?_;refine Q5 ?_;refine Qv [] mo (by rw [hN];decide) fun K hK=>?_;replace h:=Q6 h;obtain ⟨a9,h⟩:=h;simp [-Q0,-Q7,-Q1,-Q8,-Q2,at_L a9];(repeat refine sdQ ?_);refine hK _ ?_;clear hK K;refine tn ?_;refine Q9 (st':=⟨[(3,.mp 0),(4,iV s7.2),(5,lI (rx list_ s7.2)),(7,.lst true 1 (Ls list_)),(8,iV (list_.length:Int)),(9,iV s7.2)],[(0,.mapE .str (Msi s7.1))],1⟩) (Ql [(0,0)]) ?_;refine Qv [] mo (by rw [hN];decide) fun K hK=>?_;simp [-Q0,-Q7,-Q1,-Q8,-Q2];(repeat with_reducible refine sdQ ?_);replace h:=bind_some h;obtain ⟨v10,hv10,h⟩:=h;refine QL (fz:=[]) (w_i_key _ v10 hv10) (.cons (.lits (es:=_) rfl (.cons rfl (.cons .lst .nil) .nil) rfl) .nil) ?_;replace h:=Q6 h;obtain ⟨a11,h⟩:=h;simp [-Q0,-Q7,-Q1,-Q8,-Q2,unk,unA,unE,unT,unC,flat,a11];(repeat refine sdQ ?_);refine hK _ ?_;clear hK K;refine bn ?_;refine tn ?_;refine Q9 (st':=⟨[(3,.mp 0),(7,.lst true 1 (Ls list_)),(8,iV (list_.length:Int)),(9,iV s7.2)],[(0,.mapE .str (Msi (tset v10 s7.2 s7.1)))],1⟩) (Ql [(0,0)]) ?_;refine Qv [] mo (by rw [hN];decide) fun K hK=>?_;replace h:=Q6 h;obtain ⟨a12,h⟩:=h;simp [-Q0,-Q7,-Q1,-Q8,-Q2,Qu a12];(repeat refine sdQ ?_);refine hK _ ?_;clear hK K;cases h;exact rn (s':=(tset v10 s7.2 s7.1,s7.2+1)) hk7 (Ql [(0,0)])
  have g8:¬ (s7.2<(list_.length:Int)):=gQ;clear g;replace h:=if_r g8 h;refine Qp ?_;refine tx ?_;refine lx ?_;refine bh ?_;cases h;exact jn (b:=s7.1) hk7 (Ql [(0,0)])
 intro b1 hb1;have h:=h1;try rw [← hb1] at h
 clear h1;try dsimp only at h
 refine Q5 ?_;refine Qv [] mo (by rw [hN];decide) fun K hK=>?_;simp [-Q0,-Q7,-Q1,-Q8,-Q2];repeat refine sdQ ?_
 refine hK _ ?_;clear hK K;refine tn ?_;refine Q9 (st':=⟨[(2,.mp 0)],[(0,.mapE .str (Msi b1))],1⟩) (Ql [(0,0)]) ?_;refine Qi ?_;have hr:=Option.some.inj h;rw [← hr];exact (.one (by simp [ownB]) (.mp rfl) .nil)
attribute [local simp] eL eI Qo
noncomputable def QY (lists_:List (List Int)) (k_:Int):Option (List Int) :=
 (QE (σ:=List Int × Int) (ε:=List Int) (fun s7 =>
  if s7.2<(lists_.length:Int) then
   ass (0≤s7.2∧s7.2<(lists_.length:Int)) <|
   ass (0≤k_∧k_<((rx lists_ s7.2).length:Int)) <|
   ass ((s7.1++[ix (rx lists_ s7.2) k_]).length≤1073741824) <|
   ass (B64 (s7.2+1)) <|
   some (Ctl.next (s7.1++[ix (rx lists_ s7.2) k_],s7.2+1))
  else
   some (Ctl.ret s7.1)) fuel ([],0)).bind fun b1 =>
 some b1
theorem Q2F (lists_:List (List Int)) (k_:Int) (r:List Int) (h:QY lists_ k_=some r):Contract Tryz.prog 62 [.lst true 1 (Ls lists_),iV k_] (lI r):=by
 refine Qf (rvs:=[.tmp 4]) (rs:=[lI r]) Tryz.func62 rfl rfl rfl rfl (by simp [Tryz.f62]) fun F hN hP=>?_;unfold QY at h;refine Q5 ?_;refine runQ hN fun K hK=>?_;simp [-Q0,-Q7,-Q1,-Q8,-Q2];repeat refine sdQ ?_
 refine hK _ ?_;clear hK K;refine tn ?_;refine Q9 (st':=⟨[(0,.lst true 1 (Ls lists_)),(1,iV k_)],[],0⟩) (Ql []) ?_;refine Q5 ?_;refine runQ hN fun K hK=>?_;simp [-Q0,-Q7,-Q1,-Q8,-Q2];repeat refine sdQ ?_
 refine hK _ ?_;clear hK K;refine tn ?_;refine Q9 (st':=⟨[(0,.lst true 1 (Ls lists_)),(1,iV k_),(5,.own 0 0 0)],[(0,.mix 1 [])],1⟩) (Ql [(0,0)]) ?_;refine Q5 ?_;refine Q5 ?_;refine runQ hN fun K hK=>?_;simp [-Q0,-Q7,-Q1,-Q8,-Q2];repeat refine sdQ ?_
 refine hK _ ?_;clear hK K;refine tn ?_;refine Q9 (st':=⟨[(0,.lst true 1 (Ls lists_)),(1,iV k_),(5,.own 0 0 0),(6,iV 0)],[(0,.mix 1 [])],1⟩) (Ql [(0,0)]) ?_;replace h:=bind_some h;obtain ⟨e1,h,h1⟩:=h;refine Qj (fun b1:List Int=>⟨[(5,.own 0 0 b1.length)],[(0,rI b1)],1⟩) (fun b1=>b1=e1) ?_ ?_
 ·refine Qc ?_;refine Qz h (fun s7:List Int × Int=>⟨[(0,.lst true 1 (Ls lists_)),(1,iV k_),(5,.own 0 0 s7.1.length),(6,iV s7.2)],[(0,rI s7.1)],1⟩) (Q2Z ⟨[(0,.lst true 1 (Ls lists_)),(1,iV k_),(5,.own 0 0 0),(6,iV 0)],[(0,rI [])],1⟩ (Wk.nils [] (by simp) (by simp) (by simp [nlA]) (by simp [entN,nlL,nlA,UA,U1,IA,I1,LA,L1,BA,B1,EA,E1,E2,eB,eI,eL]) (by simp)) (Ql [(0,0)])) ?_;clear h;intro k7 s7 c7 h hk7;refine Q5 ?_;refine Q5 ?_;refine runQ hN fun K hK=>?_;simp [-Q0,-Q7,-Q1,-Q8,-Q2];repeat refine sdQ ?_
  refine hK _ ?_;clear hK K;refine tn ?_;refine Q9 (st':=⟨[(0,.lst true 1 (Ls lists_)),(1,iV k_),(5,.own 0 0 s7.1.length),(6,iV s7.2),(11,.val (.bool (decide (s7.2<(lists_.length:Int)))))],[(0,rI s7.1)],1⟩) (Ql [(0,0)]) ?_;refine Qd rfl (fun g=>?_) fun g=>?_
  ·have g8:s7.2<(lists_.length:Int):=gQ;clear g;replace h:=if_l g8 h;refine Qe ?_;refine tn ?_;refine Q5 ?_;refine Qc ?_;refine runQ hN fun K hK=>?_;replace h:=Q6 h;obtain ⟨a9,h⟩:=h;replace h:=Q6 h;obtain ⟨a10,h⟩:=h;replace h:=Q6 h;obtain ⟨a11,h⟩:=h;(try simp only [List.length_append,List.length_cons,List.length_nil] at a11);simp [-Q0,-Q7,-Q1,-Q8,-Q2,at_L a9,at_I a10,a11];(repeat refine sdQ ?_);refine hK _ ?_;clear hK K;refine bn ?_;refine tn ?_;refine Q9 (st':=⟨[(0,.lst true 1 (Ls lists_)),(1,iV k_),(5,.own 0 0 ((s7.1++[ix (rx lists_ s7.2) k_]).length)),(6,iV s7.2)],[(0,rI (s7.1++[ix (rx lists_ s7.2) k_]))],1⟩) (Ql [(2,0)]) ?_;refine runQ hN fun K hK=>?_;replace h:=Q6 h;obtain ⟨a12,h⟩:=h;simp [-Q0,-Q7,-Q1,-Q8,-Q2,Qu a12];(repeat refine sdQ ?_);refine hK _ ?_;clear hK K;cases h;exact rn (s':=(s7.1++[ix (rx lists_ s7.2) k_],s7.2+1)) hk7 (Ql [(0,0)])
  have g8:¬ (s7.2<(lists_.length:Int)):=gQ;clear g;replace h:=if_r g8 h;refine Qp ?_;refine tx ?_;refine lx ?_;refine bh ?_;cases h;exact jn (b:=s7.1) hk7 (Ql [(0,0)])
 intro b1 hb1;have h:=h1;try rw [← hb1] at h
 clear h1;try dsimp only at h
 refine Q5 ?_;refine runQ hN fun K hK=>?_;simp [-Q0,-Q7,-Q1,-Q8,-Q2];repeat refine sdQ ?_
 refine hK _ ?_;clear hK K;refine tn ?_;refine Q9 (st':=⟨[(4,.own 0 0 b1.length)],[(0,rI b1)],1⟩) (Ql [(0,0)]) ?_;refine Qi ?_;have hr:=Option.some.inj h;rw [← hr];refine ⟨_,(.tmp .nil),?_⟩;refine ⟨(.one rfl rfl .nil),[lI b1],[0],by simp [UA,U1,IA,I1,LA,L1,BA,B1,EA,E1,E2,eB,eI,eL],by simp,(UpL.refl _)⟩
attribute [local simp] eL eI Qo
noncomputable def Q1t (lists_:List (List Int)) (list_:List Int):Option Int :=
 (QE (σ:=Int) (ε:=Unit ⊕ Int) (fun s7 =>
  if s7<(lists_.length:Int) then
   ass (0≤s7∧s7<(lists_.length:Int)) <|
   (Q3w (rx lists_ s7) list_).bind fun v10 =>
   if v10=true then
    some (Ctl.ret (Sum.inr s7))
   else
    ass (B64 (s7+1)) <|
    some (Ctl.next (s7+1))
  else
   some (Ctl.ret (Sum.inl ()))) fuel 0).bind fun e1 =>
 match e1 with
 | .inl b1 =>
  some (-1)
 | .inr p1 =>
  some p1
theorem Q2V (lists_:List (List Int)) (list_:List Int) (r:Int) (h:Q1t lists_ list_=some r):Contract Tryz.prog 45 [.lst true 1 (Ls lists_),lI list_] (iV r):=by
 refine Qf (rvs:=[.tmp 4]) (rs:=[iV r]) Tryz.func45 rfl rfl rfl rfl (by simp [Tryz.f45]) fun F hN hP=>?_;unfold Q1t at h;refine Q5 ?_;refine runQ hN fun K hK=>?_;simp [-Q0,-Q7,-Q1,-Q8,-Q2];repeat refine sdQ ?_
 refine hK _ ?_;clear hK K;refine tn ?_;refine Q9 (st':=⟨[(0,.lst true 1 (Ls lists_)),(1,lI list_)],[],0⟩) (Ql []) ?_;refine Q5 ?_;refine Q5 ?_;refine runQ hN fun K hK=>?_;simp [-Q0,-Q7,-Q1,-Q8,-Q2];repeat refine sdQ ?_
 refine hK _ ?_;clear hK K;refine tn ?_;refine Q9 (st':=⟨[(0,.lst true 1 (Ls lists_)),(1,lI list_),(5,iV 0)],[],0⟩) (Ql []) ?_;replace h:=bind_some h;obtain ⟨e1,h,h1⟩:=h;refine Qj (fun b1:Unit=>⟨[],[],0⟩) (fun b1=>Sum.inl b1=e1) ?_ ?_
 ·refine Qc ?_;refine Qz h (fun s7:Int=>⟨[(0,.lst true 1 (Ls lists_)),(1,lI list_),(5,iV s7)],[],0⟩) (Ql []) ?_;clear h;intro k7 s7 c7 h hk7;refine Q5 ?_;refine Q5 ?_;refine runQ hN fun K hK=>?_;simp [-Q0,-Q7,-Q1,-Q8,-Q2];repeat refine sdQ ?_
  refine hK _ ?_;clear hK K;refine tn ?_;refine Q9 (st':=⟨[(0,.lst true 1 (Ls lists_)),(1,lI list_),(5,iV s7),(9,.val (.bool (decide (s7<(lists_.length:Int)))))],[],0⟩) (Ql []) ?_;refine Qd rfl (fun g=>?_) fun g=>?_
  ·have g8:s7<(lists_.length:Int):=gQ;clear g;replace h:=if_l g8 h;refine Qe ?_;refine tn ?_;refine Q5 ?_;refine Qc ?_;refine Q5 ?_;refine runQ hN fun K hK=>?_;replace h:=Q6 h;obtain ⟨a9,h⟩:=h;simp [-Q0,-Q7,-Q1,-Q8,-Q2,at_L a9];(repeat with_reducible refine sdQ ?_);replace h:=bind_some h;obtain ⟨v10,hv10,h⟩:=h;refine Q3 (Q8r _ _ v10 hv10) (.cons .lst (.cons .lst .nil)) ?_;simp [-Q0,-Q7,-Q1,-Q8,-Q2,unk,unA,unE,unT,unC,flat,at_L a9];(repeat refine sdQ ?_);refine hK _ ?_;clear hK K;refine tn ?_;refine Q9 (st':=⟨[(0,.lst true 1 (Ls lists_)),(1,lI list_),(5,iV s7),(17,.val (.bool v10))],[],0⟩) (Ql []) ?_;refine Qd rfl (fun g=>?_) fun g=>?_
   ·have g11:v10=true:=gQ;clear g;replace h:=if_l g11 h;refine Q5 ?_;refine runQ hN fun K hK=>?_;simp [-Q0,-Q7,-Q1,-Q8,-Q2];(repeat refine sdQ ?_);refine hK _ ?_;clear hK K;refine tn ?_;refine Q9 (st':=⟨[(4,iV s7)],[],0⟩) (Ql []) ?_;refine Qi ?_;refine br ?_;refine tr ?_;refine lr ?_;refine br ?_;refine tr ?_;cases h;have q:_=e1:=hk7;have h:=h1;rw [← q] at h;clear q;(try dsimp only at h);have hr:=Option.some.inj h;rw [← hr];refine ⟨_,(.tmp .nil),?_⟩;refine ⟨(.one rfl rfl .nil),[iV s7],[],by simp [UA,U1,IA,I1,LA,L1,BA,B1,EA,E1,E2,eB,eI,eL],by simp,(UpL.refl _)⟩
   have g11:¬ (v10=true):=gQ;clear g;replace h:=if_r g11 h;refine Qe ?_;refine bn ?_;refine tn ?_;refine runQ hN fun K hK=>?_;replace h:=Q6 h;obtain ⟨a12,h⟩:=h;simp [-Q0,-Q7,-Q1,-Q8,-Q2,Qu a12];(repeat refine sdQ ?_);refine hK _ ?_;clear hK K;cases h;exact rn (s':=s7+1) hk7 (Ql [])
  have g8:¬ (s7<(lists_.length:Int)):=gQ;clear g;replace h:=if_r g8 h;refine Qp ?_;refine tx ?_;refine lx ?_;refine bh ?_;cases h;exact jn (b:=()) hk7 (Ql [])
 intro b1 hb1;have h:=h1;try rw [← hb1] at h
 clear h1;try dsimp only at h
 refine Q5 ?_;refine runQ hN fun K hK=>?_;simp [-Q0,-Q7,-Q1,-Q8,-Q2];repeat refine sdQ ?_
 refine hK _ ?_;clear hK K;refine tn ?_;refine Q9 (st':=⟨[(4,iV (-1))],[],0⟩) (Ql []) ?_;refine Qi ?_;have hr:=Option.some.inj h;rw [← hr];refine ⟨_,(.tmp .nil),?_⟩;refine ⟨(.one rfl rfl .nil),[iV (-1)],[],by simp [UA,U1,IA,I1,LA,L1,BA,B1,EA,E1,E2,eB,eI,eL],by simp,(UpL.refl _)⟩
theorem Q9L {α β:Type} [DecidableEq α] (k k':α) (v:β) (m:List (α × β)):Q3H k (tset k' v m)=if k'=k then some v else Q3H k m:=by
 induction m with
 | nil=>simp [tset,Q3H]
 | cons p r ih =>
  obtain ⟨a,x⟩:=p;unfold tset
  by_cases h:a=k'
  ·subst h;rw [if_pos rfl]
   by_cases h2:a=k<;>simp [Q3H,h2]
  rw [if_neg h];simp only [Q3H,ih]
  by_cases h2:a=k
  ·subst h2;rw [if_pos rfl,if_pos rfl,if_neg (fun e=>h e.symm)]
  rw [if_neg h2,if_neg h2]
theorem tset_len {α β:Type} [DecidableEq α] (k:α) (v:β) (m:List (α × β)):(tset k v m).length≤m.length+1:=by
 induction m with
 | nil=>simp [tset]
 | cons p r ih =>
  obtain ⟨a,x⟩:=p;unfold tset;split<;>simp;exact ih
def plM {α:Type} [DecidableEq α] (k:Nat→α):Nat→List (α × Int)
 | 0=>[]
 | n+1=>tset (k n) (n:Int) (plM k n)
theorem plM_len {α:Type} [DecidableEq α] (k:Nat→α) (n:Nat):(plM k n).length≤n:=by
 induction n with
 | zero=>simp [plM]
 | succ n ih=>exact Nat.le_trans (tset_len _ _ _) (by omega)
theorem plM_find {α:Type} [DecidableEq α] {k:Nat→α} {n:Nat} (h:∀ a b,a<n→b<n→k a=k b→a=b) {j:Nat} (hj:j<n):Q3H (k j) (plM k n)=some (j:Int):=by
 induction n with
 | zero=>omega
 | succ n ih =>
  rw [plM,Q9L]
  by_cases e:k n=k j
  ·rw [if_pos e,h n j (by omega) hj e]
  rw [if_neg e];have:j ≠ n:=fun q=>e (by rw [q]);exact ih (fun a b ha hb=>h a b (by omega) (by omega)) (by omega)
theorem Q7T (ns:List Int):(Q24 ns).data.toList=ns.map fun n=>UInt8.ofNat n.toNat:=by
 have:∀ (ns:List Int) (s:ByteArray),(ns.foldl (fun r n=>r.push (UInt8.ofNat n.toNat)) s).data.toList=s.data.toList++ns.map fun n=>UInt8.ofNat n.toNat:=by
  intro ns
  induction ns with
  | nil=>intro s;simp
  | cons n ns ih=>intro s;simp only [List.foldl_cons,ih,List.map_cons];simp [ByteArray.push]
 simpa [Q24] using this ns ByteArray.empty
theorem Q7r {α β:Type} {f:α→β}:∀ {a b:List α},(∀ x∈a,∀ y∈b,f x=f y→x=y)→a.map f=b.map f→a=b:=by
 intro a
 induction a with
 | nil=>intro b _ h;cases b with|nil=>rfl|cons=>simp at h
 | cons x a ih =>
  intro b hi h;cases b with
  | nil=>simp at h
  | cons y b =>
   simp only [List.map_cons,List.cons.injEq] at h;rw [hi x (by simp) y (by simp) h.1,ih (fun u hu v hv=>hi u (by simp [hu]) v (by simp [hv])) h.2]
theorem Q9b {a b:List Int} (ha:∀ x∈a,0≤x∧x<256) (hb:∀ x∈b,0≤x∧x<256) (h:Q24 a=Q24 b):a=b:=by
 have h1:=congrArg (fun s=>s.data.toList) h;simp only [Q7T] at h1;refine Q7r (fun x hx y hy e=>?_) h1;have e2:=congrArg UInt8.toNat e;have p1:=ha x hx;have p2:=hb y hy;simp only [UInt8.toNat_ofNat'] at e2;omega
theorem wrap8 {n:Int} (h0:0≤n) (h1:n<256):IntKind.u8.wrap n=n:=by
 simp [IntKind.wrap,IntKind.signed,IntKind.bits];omega
theorem wrap8_b (n:Int):0≤IntKind.u8.wrap n∧IntKind.u8.wrap n<256:=by
 simp [IntKind.wrap,IntKind.signed,IntKind.bits];omega
def keyB (x:List Int):ByteArray:=Q24 (x.map IntKind.u8.wrap++[255])
theorem keyB_inj {x y:List Int} (hx:∀ a∈x,0≤a∧a<256) (hy:∀ a∈y,0≤a∧a<256) (h:keyB x=keyB y):x=y:=by
 have hw:∀ x:List Int,∀ a∈x.map IntKind.u8.wrap++[255],0≤a∧a<256:=by
  intro x a ha;rcases List.mem_append.1 ha with ha|ha
  ·obtain ⟨b,_,rfl⟩:=List.mem_map.1 ha;exact wrap8_b b
  rw [List.mem_singleton.1 ha];omega
 have h1:=Q9b (hw x) (hw y) h;have h2:=(List.append_inj' h1 rfl).1;refine Q7r (fun a ha b hb e=>?_) h2
 rwa [wrap8 (hx a ha).1 (hx a ha).2,wrap8 (hy b hb).1 (hy b hb).2] at e
structure Keyed (L:List (List Int)):Prop where
 nd:L.Nodup
 sm:∀ x∈L,∀ a∈x,0≤a∧a<256
noncomputable def posL (L:List (List Int)) (x:List Int):Int:=fstN L.length fun i=>rx L i=x
theorem Q6c {L:List (List Int)} {i:Nat} (h:i<L.length):rx L i∈L:=by
 rw [← Q23 _ _ h];exact List.getElem_mem h
theorem Keyed.inj {L:List (List Int)} (h:Keyed L) {i j:Nat} (hi:i<L.length) (hj:j<L.length) (e:rx L i=rx L j):i=j:=by
 rw [← Q23 _ _ hi,← Q23 _ _ hj] at e;rcases Nat.lt_trichotomy i j with q|q|q
 ·exact absurd e (List.pairwise_iff_getElem.1 h.nd i j hi hj q)
 ·exact q
 exact absurd e.symm (List.pairwise_iff_getElem.1 h.nd j i hj hi q)
theorem Keyed.at {L:List (List Int)} (h:Keyed L) {x:List Int} (hx:x∈L):∃ j:Nat,j<L.length∧rx L j=x∧posL L x=j∧Q3H (keyB x) (plM (fun i=>keyB (rx L i)) L.length)=some (j:Int):=by
 obtain ⟨j,hj,rfl⟩:=List.getElem_of_mem hx;refine ⟨j,hj,(Q23 _ _ hj).symm,?_,?_⟩
 ·unfold posL;rcases Q6I L.length (fun i=>rx L i=L[j]) with ⟨_,h2⟩|⟨k,hk,h2,h3⟩
  ·exact absurd (Q23 _ _ hj).symm (h2 j hj)
  rw [h3,h.inj hk hj (by rw [h2,Q23 _ _ hj])]
 have:=plM_find (k:=fun i=>keyB (rx L i)) (n:=L.length) (fun a b ha hb e=>h.inj ha hb (keyB_inj (h.sm _ (Q6c ha)) (h.sm _ (Q6c hb)) e)) hj;rw [Q23 _ _ hj];exact this
theorem flt_nodup (n:Nat) (p:Nat→Prop):(flt n p).Nodup:=by
 unfold flt;refine List.Pairwise.map (R:=fun a b=>a ≠ b) Int.ofNat (fun a b h e=>h (Int.ofNat.inj e)) ?_;exact List.nodup_range.filter _
theorem Q5P {α β:Type} {xs:List α} {f:α→List β} (h1:∀ x∈xs,(f x).Nodup) (h2:xs.Nodup) (h3:∀ x y,x ≠ y→∀ a∈f x,∀ b∈f y,a ≠ b):(xs.flatMap f).Nodup:=by
 refine List.pairwise_flatMap.2 ⟨h1,?_⟩;exact List.Pairwise.imp (fun {a b} hne=>h3 a b hne) h2
theorem fstN_at {n:Nat} {p:Nat→Prop} {m:Nat} (hm:m<n) (hp:p m) (hlt:∀ k,k<m→¬ p k):fstN n p=(m:Int):=by
 unfold fstN;rw [show ((List.range n).find? fun i=>bo (p i))=some m from List.find?_eq_some_iff_getElem.2 ⟨by rw [Q72];exact hp,m,by simpa using hm,by simp,fun j hj=>by simp [QA (hlt j hj)]⟩];rfl
theorem fstN_no {n:Nat} {p:Nat→Prop} (h:∀ i,i<n→¬ p i):fstN n p = -1:=by
 rcases Q6I n p with ⟨h1,_⟩|⟨k,h1,h2,_⟩
 ·exact h1
 exact absurd h2 (h k h1)
theorem Q8N {ε β:Type} {body:Int→Option (Ctl Int ε)} {K:ε→Option β} {r:Option β} (n:Nat) (p:Nat→Prop) {eb:Nat→ε} {eg:ε} (hn:n<4611686018427387904) (h1:∀ i:Nat,i<n→¬ p i→body (i:Int)=some (.next ((i:Int)+1))) (h2:∀ i:Nat,i<n→p i→body (i:Int)=some (.ret (eb i))) (h3:body (n:Int)=some (.ret eg))
  (hb:∀ m,m<n→p m→(∀ k,k<m→¬ p k)→K (eb m)=r) (hg:(∀ i,i<n→¬ p i)→K eg=r):(QE body fuel 0).bind K=r:=by
 rcases Q8S n (fun i=>¬ p i) hn h1 (fun i hi h=>h2 i hi (Classical.byContradiction h)) h3 with ⟨h,e⟩|⟨m,hm,hq,hlt,e⟩
 ·rw [e];exact hg h
 rw [e];exact hb m hm (Classical.byContradiction hq) hlt
theorem take_rx {L:List (List Int)} {i:Nat} (h:i<L.length):L.take (i+1)=L.take i++[rx L i]:=by rw [List.take_succ_eq_append_getElem h,Q23 _ _ h]
theorem e_key {x:List Int} (h:x.length≤1000):Q50 [x]=some (keyB x):=by
 unfold Q50 keyB;refine QN 1 (fun i=>if i=0 then [] else x.map IntKind.u8.wrap++[255]) (e:=x.map IntKind.u8.wrap++[255]) (by simp) (by omega) (fun i hi=>?_) (by simp) rfl;have:i=0:=by omega
 subst this;have hx:rx [x] ((0:Nat):Int)=x:=by simp [rx]
 simp only [hx];rw [if_pos (by simp),Qa (by simp)];refine QN x.length (fun k=>(x.take k).map IntKind.u8.wrap) (e:=x.map IntKind.u8.wrap) (by simp) (by omega) (fun k hk=>?_) (by simp) ?_
 ·have hs:x.take (k+1)=x.take k++[ix x k]:=by rw [List.take_succ_eq_append_getElem hk,Q1G _ _ hk]
  simp (disch:=omega) [Qa,B64,hs];try omega
 simp (disch:=omega) [Qa,B64];try omega
noncomputable def plL (L:List (List Int)):List (ByteArray × Int):=plM (fun i=>keyB (rx L i)) L.length
theorem e_places {L:List (List Int)} (hn:L.length<1000000) (hx:∀ x∈L,x.length≤1000):Q3j L=some (plL L):=by
 unfold Q3j plL;refine QN L.length (fun i=>plM (fun i=>keyB (rx L i)) i) (e:=plM (fun i=>keyB (rx L i)) L.length) rfl (by omega) (fun i hi=>?_) (by simp) rfl;have h1:=plM_len (fun i:Nat=>keyB (rx L i)) i;simp only;rw [if_pos (by omega),Qa (by omega),e_key (hx _ (Q6c hi))];simp only [Option.bind_some];rw [Qa (by omega),Qa (by unfold B64;omega)];rfl
theorem Q6G {L:List (List Int)} {k:Int} (hn:L.length<1000000) (h0:0≤k) (hx:∀ x∈L,k<x.length):Q2c L k=some (L.map (ix · k))∧QY L k=some (L.map (ix · k)):=by
 unfold Q2c QY;constructor <;>
 ·refine QN L.length (fun i=>(L.take i).map (ix · k)) (e:=L.map (ix · k)) (by simp) (by omega) (fun i hi=>?_) (by simp) rfl;have h1:=hx _ (Q6c hi);have h2:=take_rx hi;simp (disch:=omega) [Qa,B64,h2];try omega
theorem homL_in {c:Cat} {f x y:Int} (h:Ar c f x y):f∈homL c x y:=by
 unfold homL;rw [mem_flt];refine ⟨f.toNat,by omega,?_,by omega⟩;rw [Int.toNat_of_nonneg h.1.1];exact h.2
noncomputable def bC (n:Int) (L:List (List Int)) (idv:Nat→Int) (cmp:List Int→List Int→Int):Cat :=
 ⟨n,L.map (ix · 0),L.map (ix · 1),tab n.toNat fun x=>posL L [(x:Int),(x:Int),idv x],
  tab L.length fun i=>tab L.length fun j=>if ix (rx L i) 1=ix (rx L j) 0 then posL L [ix (rx L i) 0,ix (rx L j) 1,cmp (rx L i) (rx L j)] else -1⟩
theorem bC_ok {n:Int} {L:List (List Int)} {idv:Nat→Int} {cmp:List Int→List Int→Int} (hn:n≤8) (hl:L.length≤40):(bC n L idv cmp).ok∧(bC n L idv cmp).size≤2000:=by
 have hr:∀ xs∈(bC n L idv cmp).cs,xs.length≤40:=by
  intro xs hx;obtain ⟨i,hi,rfl⟩:=List.mem_map.1 hx;simpa using hl
 have h7:=sumL_b hr;have h8:(bC n L idv cmp).cs.length=L.length:=by simp [bC]
 have h9:(bC n L idv cmp).cs.length * 40≤40 * 40:=Nat.mul_le_mul_right _ (by omega);have e1:(bC n L idv cmp).fr.length=L.length:=by simp [bC]
 have e2:(bC n L idv cmp).to.length=L.length:=by simp [bC]
 have e3:(bC n L idv cmp).id.length=n.toNat:=by simp [bC]
 refine ⟨⟨by omega,by omega,by omega,by omega,fun xs hx=>by have:=hr xs hx;omega,by omega⟩,?_⟩;simp only [Cat.size];omega
def mixr {α:Type} (m g:Nat) (v:Nat→α) (z:α):List α:=tab m fun j=>if j<g then v j else z
@[simp] theorem mixr_length {α:Type} (m g:Nat) (v:Nat→α) (z:α):(mixr m g v z).length=m:=by simp [mixr]
theorem Q6P {α:Type} {m g:Nat} {v:Nat→α} {z:α}:(mixr m g v z).set g (v g)=mixr m (g+1) v z:=by
 refine List.ext_getElem (by simp) fun j h1 h2=>?_;simp only [mixr,tab,List.getElem_set,List.getElem_map,List.getElem_range]
 by_cases h:g=j
 ·subst h;simp
 have:(j<g)=(j<g+1):=propext ⟨fun _=>by omega,fun _=>by omega⟩;simp [h,this]
theorem Q7v {α:Type} (m:Nat) (v:Nat→α) (z:α):mixr m 0 v z=List.replicate m z:=by
 refine List.ext_getElem (by simp) fun j h1 h2=>?_;simp [mixr,tab]
theorem Q8Y {α:Type} (m:Nat) (v:Nat→α) (z:α):mixr m m v z=tab m v:=by
 refine List.ext_getElem (by simp) fun j h1 h2=>?_;have:j<m:=by simpa using h1
 simp [mixr,tab,this]
theorem rx_set {xs:List (List Int)} {i:Nat} (h:i<xs.length) (r:List Int):rx (xs.set i r) (i:Int)=r:=by
 simp [rx,List.getD_eq_getElem?_getD,h]
def zeroA:Adj:=⟨Q8z,Q8z,[],[]⟩
attribute [local simp] eL eI Qo QH Cat.cells
noncomputable def Q2f (c_:Cat):Option Bool :=
 (
  if c_.n≤8 then
   some (decide ((c_.fr.length:Int)≤40))
  else
   some false:Option (Bool)).bind fun b1 =>
 some b1
theorem Q61 (c_:Cat) (r:Bool) (h:Q2f c_=some r):Contract Tryz.prog 79 [.agg (c_.cells true)] (.val (.bool r)):=by
 refine Qf (rvs:=[.tmp 2]) (rs:=[.val (.bool r)]) Tryz.func79 rfl rfl rfl rfl (by simp [Tryz.f79]) fun F hN hP=>?_;unfold Q2f at h;refine Q5 ?_;refine runQ hN fun K hK=>?_;simp [-Q0,-Q7,-Q1,-Q8,-Q2];repeat refine sdQ ?_
 refine hK _ ?_;clear hK K;refine tn ?_;refine Q9 (st':=⟨[(1,.adr 0 0 0)],[(0,.mix 5 [(Cat.cells true c_)])],1⟩) (Ql [(0,0)]) ?_;refine Q5 ?_;replace h:=bind_some h;obtain ⟨e1,h,h1⟩:=h;refine Qj (fun b1:Bool=>⟨[(2,.val (.bool b1))],[],0⟩) (fun b1=>b1=e1) ?_ ?_
 ·refine runQ hN fun K hK=>?_;simp [-Q0,-Q7,-Q1,-Q8,-Q2];repeat with_reducible refine sdQ ?_
  refine Qq (fun g=>?_) (fun g=>?_)
  ·have g2:c_.n≤8:=gQ;clear g;replace h:=if_l g2 h;simp [-Q0,-Q7,-Q1,-Q8,-Q2];(repeat refine sdQ ?_);refine hK _ ?_;exact jn (b:=decide ((c_.fr.length:Int)≤40)) (Option.some.inj h) (Ql [])
  have g2:¬ (c_.n≤8):=gQ;clear g;replace h:=if_r g2 h;simp [-Q0,-Q7,-Q1,-Q8,-Q2];repeat refine sdQ ?_
  refine hK _ ?_;exact jn (b:=false) (Option.some.inj h) (Ql [])
 intro b1 hb1;have h:=h1;try rw [← hb1] at h
 clear h1;try dsimp only at h
 refine Qi ?_;have hr:=Option.some.inj h;rw [← hr];refine ⟨_,(.tmp .nil),?_⟩;refine ⟨(.one rfl rfl .nil),[.val (.bool b1)],[],by simp [Cat.cells,UA,U1,IA,I1,LA,L1,BA,B1,EA,E1,E2,eB,eI,eL],by simp,(UpL.refl _)⟩
theorem Q6H (c:Cat):Q2f c=some (bo (c.n≤8∧(c.fr.length:Int)≤40)):=by
 unfold Q2f
 by_cases h1:c.n≤8<;>by_cases h2:(c.fr.length:Int)≤40<;>simp [h1,h2,bo]
theorem bC_find {L:List (List Int)} (h:Keyed L) {x:List Int} (hx:x∈L):(Q3H (keyB x) (plL L)).getD 0=posL L x:=by
 obtain ⟨j,_,_,h3,h4⟩:=h.at hx;unfold plL;rw [h3,h4];rfl
def zeroC:Cat:=⟨0,[],[],[],[]⟩
theorem Cat.Is.Ai {c:Cat} (h:c.Is) {x:Int} (hx:0≤x∧x<c.n):Ar c (ix c.id x) x x:=by
 have h1:=h.1.li;obtain ⟨i,rfl⟩:=Int.eq_ofNat_of_zero_le hx.1;have h2:=h.1.ids i (by omega);exact ⟨h.1.id' (by omega) (by omega),h2.1,h2.2⟩
theorem Cat.Is.Af {c:Cat} (h:c.Is) {f:Int} (hf:0≤f∧f<(c.fr.length:Int)):Ar c f (ix c.fr f) (ix c.to f)∧(0≤ix c.fr f∧ix c.fr f<c.n)∧(0≤ix c.to f∧ix c.to f<c.n):=by
 have h1:=h.1.li;have h2:=h.1.fr' hf.1 hf.2;have h3:=h.1.to' hf.1 (by have:=h.1.lt;omega);exact ⟨⟨hf,rfl,rfl⟩,by omega,by omega⟩
theorem Q3A {ε β:Type} {body:List Int × Int→Option (Ctl (List Int × Int) ε)} {K:ε→Option β} {r:Option β} (n:Nat) (v:Nat→Int) {e:ε} (hn:n<1000000)
  (h:∀ i:Nat,i<n→body (tab i v,(i:Int))=(ass ((tab i v++[v i]).length≤1073741824) <| ass (B64 ((i:Int)+1)) <| some (.next (tab i v++[v i],(i:Int)+1))))
  (he:body (tab n v,(n:Int))=some (.ret e)) (hk:K e=r):(QE body fuel ([],0)).bind K=r:=by
 refine QN n (fun i=>tab i v) (e:=e) rfl (by omega) (fun i hi=>?_) he hk;rw [h i hi,Qa (by simp;omega),Qa (by unfold B64;omega),Q4O]
theorem Cat.Is.assoc {c:Cat} (hc:c.Is) {f g h w x y z:Int} (a:Ar c f w x) (b:Ar c g x y) (d:Ar c h y z):ix (rx c.cs (ix (rx c.cs f) g)) h=ix (rx c.cs f) (ix (rx c.cs g) h):=by
 obtain ⟨i,rfl⟩:=Int.eq_ofNat_of_zero_le a.1.1;obtain ⟨j,rfl⟩:=Int.eq_ofNat_of_zero_le b.1.1;obtain ⟨k,rfl⟩:=Int.eq_ofNat_of_zero_le d.1.1;have:=hc.2.2 i (by have:=a.1;omega) j (by have:=b.1;omega) k (by have:=d.1;omega);exact this (by rw [a.2.2,b.2.1]) (by rw [b.2.2,d.2.1])
theorem Cat.Is.idl {c:Cat} (hc:c.Is) {f x y:Int} (a:Ar c f x y):ix (rx c.cs (ix c.id x)) f=f∧ix (rx c.cs f) (ix c.id y)=f:=by
 obtain ⟨i,rfl⟩:=Int.eq_ofNat_of_zero_le a.1.1;have:=hc.2.1 i (by have:=a.1;omega);unfold Cat.un at this;rw [a.2.1,a.2.2] at this;exact this
theorem Fn.Is.two {f:Fn} (h:f.Is) {a b x y z:Int} (ha:Ar f.s a x y) (hb:Ar f.s b y z):ix f.ar (ix (rx f.s.cs a) b)=ix (rx f.t.cs (ix f.ar a)) (ix f.ar b):=by
 obtain ⟨i,rfl⟩:=Int.eq_ofNat_of_zero_le ha.1.1;obtain ⟨j,rfl⟩:=Int.eq_ofNat_of_zero_le hb.1.1;exact h.comp i (by have:=ha.1;omega) j (by have:=hb.1;omega) (by rw [ha.2.2,hb.2.1])
theorem Fn.Is.one {f:Fn} (h:f.Is) {x:Int} (hx:0≤x∧x<f.s.n):ix f.ar (ix f.s.id x)=ix f.t.id (ix f.ob x):=by
 obtain ⟨i,rfl⟩:=Int.eq_ofNat_of_zero_le hx.1;exact h.ids i (by have:=h.s.1.li;omega)
noncomputable def av (m:Mnd):List XAlgebra:=Q2a m (fun x h=>(⟨x,h⟩:XAlgebra)) m.f.s.n.toNat
noncomputable def avL (m:Mnd):List (List Int):=Q2a m (fun x h=>[x,h]) m.f.s.n.toNat
theorem Q70 (m:Mnd):avL m=(av m).map fun a=>[a.x_,a.h_]:=by
 simp [av,avL,Q2a,List.map_flatMap,Function.comp_def]
theorem Q71 {m:Mnd} (hm:m.Is):(av m).length≤320:=by
 obtain ⟨l1,l2,l3,l4,l5,l6,l7,l8,l9⟩:=hm.pre.len;have:=Q4U m (fun x h=>(⟨x,h⟩:XAlgebra)) (by omega) m.f.s.n.toNat;unfold av;omega
structure AlgAt (m:Mnd) (a:XAlgebra):Prop where
 alg:Alg m a.x_ a.h_
 x:0≤a.x_∧a.x_<(m.f.ob.length:Int)
 h:Ar m.f.s a.h_ (ix m.f.ob a.x_) a.x_
theorem av_at {m:Mnd} (hm:m.Is):∀ a∈av m,AlgAt m a:=by
 obtain ⟨l1,l2,l3,l4,l5,l6,l7,l8,l9⟩:=hm.pre.len;intro a ha;simp only [av,Q2a,List.mem_flatMap,List.mem_range,List.mem_map,algL,List.mem_filter,Q72] at ha;obtain ⟨x,hx,h,⟨h1,h2⟩,rfl⟩:=ha;exact ⟨h2,by simp only;omega,Q44 h h1⟩
theorem gx_mem {α:Type} [Inhabited α] {xs:List α} {i:Nat} (h:i<xs.length):gx xs (i:Int)∈xs:=by
 have:gx xs (i:Int)=xs[i]:=by simp [gx,List.getD_eq_getElem?_getD,h]
 rw [this];exact List.getElem_mem h
theorem Q58 {m:Mnd} {i:Nat} (h:i<(av m).length):rx (avL m) i=[(gx (av m) i).x_,(gx (av m) i).h_]:=by
 rw [Q70];simp [rx,gx,List.getD_eq_getElem?_getD,h]
noncomputable def amp (m:Mnd) (s t:Int):List Int:=Q37 m (gx (av m) s).x_ (gx (av m) s).h_ (gx (av m) t).x_ (gx (av m) t).h_
noncomputable def alF (m:Mnd) (s t:Nat):List (List Int):=(amp m s t).map fun f=>[(s:Int),(t:Int),f]
noncomputable def alX (m:Mnd) (s k:Nat):List (List Int):=(List.range k).flatMap (alF m s)
noncomputable def alN (m:Mnd) (k:Nat):List (List Int):=(List.range k).flatMap fun s=>alX m s (av m).length
noncomputable def alL (m:Mnd):List (List Int):=alN m (av m).length
theorem Q6y (m:Mnd) (s k:Nat):alX m s (k+1)=alX m s k++alF m s k:=by simp [alX,List.range_succ]
theorem Q6x (m:Mnd) (k:Nat):alN m (k+1)=alN m k++alX m k (av m).length:=by simp [alN,List.range_succ]
theorem alF_len (m:Mnd) (h:m.f.s.fr.length≤40) (s t:Nat):(alF m s t).length≤40:=by
 have:=Q4i m (gx (av m) s).x_ (gx (av m) s).h_ (gx (av m) t).x_ (gx (av m) t).h_;simp only [alF,amp,List.length_map];omega
theorem Q7Q (m:Mnd) (h:m.f.s.fr.length≤40) (s k:Nat):(alX m s k).length≤k * 40:=by
 induction k with
 | zero=>simp [alX]
 | succ k ih =>
  have:=alF_len m h s k;rw [Q6y,List.length_append];omega
theorem Q7P {m:Mnd} (hm:m.Is) (k:Nat):(alN m k).length≤k * 12800:=by
 obtain ⟨l1,l2,l3,l4,l5,l6,l7,l8,l9⟩:=hm.pre.len;have ha:=Q71 hm
 induction k with
 | zero=>simp [alN]
 | succ k ih =>
  have:=Q7Q m (by omega) k (av m).length;rw [Q6x,List.length_append];omega
theorem mem_al {m:Mnd} {a:List Int}:a∈alL m↔∃ s t f:Int,(0≤s∧s<((av m).length:Int))∧(0≤t∧t<((av m).length:Int))∧f∈amp m s t∧a=[s,t,f]:=by
 simp only [alL,alN,alX,alF,List.mem_flatMap,List.mem_map,List.mem_range];constructor
 ·rintro ⟨s,hs,t,ht,f,hf,rfl⟩
  exact ⟨s,t,f,by omega,by omega,hf,rfl⟩
 rintro ⟨s,t,f,hs,ht,hf,rfl⟩
 refine ⟨s.toNat,by omega,t.toNat,by omega,f,?_,?_⟩
 ·rw [Int.toNat_of_nonneg hs.1,Int.toNat_of_nonneg ht.1];exact hf
 rw [Int.toNat_of_nonneg hs.1,Int.toNat_of_nonneg ht.1]
theorem Q4l {m:Mnd} {s t f:Int} (h:f∈amp m s t):Ar m.f.s f (gx (av m) s).x_ (gx (av m) t).x_∧ix (rx m.f.s.cs (gx (av m) s).h_) f=ix (rx m.f.s.cs (ix m.f.ar f)) (gx (av m) t).h_:=by
 simp only [amp,Q37,List.mem_filter,Q72] at h;exact ⟨Q44 f h.1,h.2⟩
theorem Q6N {m:Mnd} {s t f:Int} (h:Ar m.f.s f (gx (av m) s).x_ (gx (av m) t).x_) (e:ix (rx m.f.s.cs (gx (av m) s).h_) f=ix (rx m.f.s.cs (ix m.f.ar f)) (gx (av m) t).h_):f∈amp m s t:=by
 simp only [amp,Q37,List.mem_filter,Q72];exact ⟨homL_in h,e⟩
theorem gxm {m:Mnd} (hm:m.Is) {s:Int} (hs:0≤s∧s<((av m).length:Int)):AlgAt m (gx (av m) s):=by
 obtain ⟨i,rfl⟩:=Int.eq_ofNat_of_zero_le hs.1;exact av_at hm _ (gx_mem (by omega))
theorem al_two {m:Mnd} (hm:m.Is) {s t u f g:Int} (hs:0≤s∧s<((av m).length:Int)) (ht:0≤t∧t<((av m).length:Int)) (hu:0≤u∧u<((av m).length:Int)) (hf:f∈amp m s t) (hg:g∈amp m t u):ix (rx m.f.s.cs f) g∈amp m s u:=by
 have hc:=hm.pre.f.s;have hF:=hm.pre.f;obtain ⟨a1,e1⟩:=Q4l hf;obtain ⟨a2,e2⟩:=Q4l hg;have sa:=gxm hm hs;have ta:=gxm hm ht;have ua:=gxm hm hu;have T1:=hm.pre.Aa rfl a1;have T2:=hm.pre.Aa rfl a2;refine Q6N (a1.two hc a2) ?_;rw [← hc.assoc sa.h a1 a2,e1,hc.assoc T1 ta.h a2,e2,← hc.assoc T1 T2 ua.h,hF.two a1 a2,← hm.pre.e]
theorem al_one {m:Mnd} (hm:m.Is) {s:Int} (hs:0≤s∧s<((av m).length:Int)):ix m.f.s.id (gx (av m) s).x_∈amp m s s:=by
 obtain ⟨l1,l2,l3,l4,l5,l6,l7,l8,l9⟩:=hm.pre.len;have hc:=hm.pre.f.s;have sa:=gxm hm hs;have hx:=sa.x;refine Q6N (hc.Ai (by omega)) ?_;rw [(hc.idl sa.h).2,hm.pre.f.one (by omega),← hm.pre.e,(hc.idl sa.h).1]
theorem Q8A {m:Mnd} (hm:m.Is) (h8:(av m).length≤8):Keyed (alL m):=by
 obtain ⟨l1,l2,l3,l4,l5,l6,l7,l8,l9⟩:=hm.pre.len;refine ⟨?_,fun a ha b hb=>?_⟩
 ·refine Q5P (fun s _=>Q5P (fun t _=>?_) List.nodup_range fun t u hne a ha b hb=>?_) List.nodup_range fun s u hne a ha b hb=>?_
  ·exact List.Pairwise.map (R:=fun a b=>a ≠ b) _ (fun f g hne e=>hne (by simpa using e)) ((flt_nodup _ _).filter _)
  ·obtain ⟨f,_,rfl⟩:=List.mem_map.1 ha;obtain ⟨g,_,rfl⟩:=List.mem_map.1 hb;intro e;simp only [List.cons.injEq] at e;omega
  simp only [alX,alF,List.mem_flatMap,List.mem_map,List.mem_range] at ha hb;obtain ⟨_,_,f,_,rfl⟩:=ha;obtain ⟨_,_,g,_,rfl⟩:=hb;intro e;simp only [List.cons.injEq] at e;omega
 obtain ⟨s,t,f,hs,ht,hf,rfl⟩:=mem_al.1 ha;have:=(Q4l hf).1.1;simp only [List.mem_cons,List.not_mem_nil,or_false] at hb;rcases hb with rfl|rfl|rfl<;>omega
theorem al3 {m:Mnd}:∀ x∈alL m,x.length=3:=by
 intro x hx;obtain ⟨_,_,_,_,_,_,rfl⟩:=mem_al.1 hx;rfl
theorem Q8B {m:Mnd} {i:Nat} (hi:i<(alL m).length):∃ s t f:Int,(0≤s∧s<((av m).length:Int))∧(0≤t∧t<((av m).length:Int))∧f∈amp m s t∧rx (alL m) i=[s,t,f]:=mem_al.1 (Q6c hi)
noncomputable def aC (m:Mnd):Cat:=bC ((av m).length:Int) (alL m) (fun s=>ix m.f.s.id (gx (av m) s).x_) fun a b=>ix (rx m.f.s.cs (ix a 2)) (ix b 2)
theorem e_amp {m:Mnd} (hm:m.Is) {s t:Int} (hs:0≤s∧s<((av m).length:Int)) (ht:0≤t∧t<((av m).length:Int)):Q2g m (rx (avL m) s) (rx (avL m) t)=some (amp m s t)∧QS m (gx (av m) s) (gx (av m) t)=some (amp m s t):=by
 have sa:=gxm hm hs;have ta:=gxm hm ht;obtain ⟨i,rfl⟩:=Int.eq_ofNat_of_zero_le hs.1;obtain ⟨j,rfl⟩:=Int.eq_ofNat_of_zero_le ht.1;have:=e_maps hm sa.alg sa.x sa.h.1 ta.alg ta.x ta.h.1;rw [Q58 (by omega),Q58 (by omega)];exact this
attribute [local simp] eL eI Qo QH Q1v Cat.cells Mnd.cells
noncomputable def Q2q (m_:Mnd):Option (Cat × List (List Int) × List (List Int)) :=
 (Q2I m_).bind fun v1 =>
 (QE (σ:=List (List Int) × Int) (ε:=List (List Int)) (fun s37 =>
  if s37.2<(v1.length:Int) then
   (
    (QE (σ:=List (List Int) × Int) (ε:=List (List Int)) (fun s55 =>
     if s55.2<(v1.length:Int) then
      (
       ass (0≤s37.2∧s37.2<(v1.length:Int)) <|
       ass (0≤s55.2∧s55.2<(v1.length:Int)) <|
       (Q2g m_ (rx v1 s37.2) (rx v1 s55.2)).bind fun v60 =>
       (QE (σ:=List (List Int) × Int) (ε:=List (List Int)) (fun s65 =>
        if s65.2<(v60.length:Int) then
         ass (0≤s65.2∧s65.2<(v60.length:Int)) <|
         ass ((s65.1++[[s37.2,s55.2,ix v60 s65.2]]).length≤1073741824) <|
         ass (B64 (s65.2+1)) <|
         some (Ctl.next (s65.1++[[s37.2,s55.2,ix v60 s65.2]],s65.2+1))
        else
         some (Ctl.ret s65.1)) fuel (s55.1,0)).bind fun p65 =>
       some p65:Option (List (List Int))).bind fun b57 =>
      ass (B64 (s55.2+1)) <|
      some (Ctl.next (b57,s55.2+1))
     else
      some (Ctl.ret s55.1)) fuel (s37.1,0)).bind fun p55 =>
    some p55:Option (List (List Int))).bind fun b39 =>
   ass (B64 (s37.2+1)) <|
   some (Ctl.next (b39,s37.2+1))
  else
   some (Ctl.ret s37.1)) fuel ([],0)).bind fun b2 =>
 (QY b2 0).bind fun v72 =>
 (QY b2 1).bind fun v73 =>
 (QE (σ:=List Int × Int) (ε:=List Int) (fun s82 =>
  if s82.2<(v1.length:Int) then
   ass (0≤s82.2∧s82.2<(v1.length:Int)) <|
   ass ((0:Int)≤0∧0<((rx v1 s82.2).length:Int)) <|
   ass (0≤ix (rx v1 s82.2) 0∧ix (rx v1 s82.2) 0<(m_.f.s.id.length:Int)) <|
   (Q1t b2 [s82.2,s82.2,ix m_.f.s.id (ix (rx v1 s82.2) 0)]).bind fun v87 =>
   ass ((s82.1++[v87]).length≤1073741824) <|
   ass (B64 (s82.2+1)) <|
   some (Ctl.next (s82.1++[v87],s82.2+1))
  else
   some (Ctl.ret s82.1)) fuel ([],0)).bind fun b74 =>
 (QE (σ:=List (List Int) × Int) (ε:=List (List Int)) (fun s137 =>
  (
   if s137.2<(b2.length:Int) then
    (Q2f (⟨(v1.length:Int),v72,v73,b74,s137.1⟩:Cat)).bind fun v140 =>
    some v140
   else
    some false:Option (Bool)).bind fun b138 =>
  if b138=true then
   (QE (σ:=List Int × Int) (ε:=List Int) (fun s162 =>
    if s162.2<(b2.length:Int) then
     ass (0≤s137.2∧s137.2<(b2.length:Int)) <|
     ass ((0:Int)≤1∧1<((rx b2 s137.2).length:Int)) <|
     ass (0≤s162.2∧s162.2<(b2.length:Int)) <|
     ass ((0:Int)≤0∧0<((rx b2 s162.2).length:Int)) <|
     (
      if (ix (rx b2 s137.2) 1)=(ix (rx b2 s162.2) 0) then
       ass (0≤s137.2∧s137.2<(b2.length:Int)) <|
       ass ((0:Int)≤0∧0<((rx b2 s137.2).length:Int)) <|
       ass (0≤s162.2∧s162.2<(b2.length:Int)) <|
       ass ((0:Int)≤1∧1<((rx b2 s162.2).length:Int)) <|
       ass (0≤s137.2∧s137.2<(b2.length:Int)) <|
       ass ((0:Int)≤2∧2<((rx b2 s137.2).length:Int)) <|
       ass (0≤s162.2∧s162.2<(b2.length:Int)) <|
       ass ((0:Int)≤2∧2<((rx b2 s162.2).length:Int)) <|
       (QF m_.f.s (ix (rx b2 s137.2) 2) (ix (rx b2 s162.2) 2)).bind fun v178 =>
       (Q1t b2 [ix (rx b2 s137.2) 0,ix (rx b2 s162.2) 1,v178]).bind fun v179 =>
       some v179
      else
       some (-1):Option (Int)).bind fun b168 =>
     ass ((s162.1++[b168]).length≤1073741824) <|
     ass (B64 (s162.2+1)) <|
     some (Ctl.next (s162.1++[b168],s162.2+1))
    else
     some (Ctl.ret s162.1)) fuel ([],0)).bind fun b142 =>
   ass ((s137.1++[b142]).length≤1073741824) <|
   ass (B64 (s137.2+1)) <|
   some (Ctl.next (s137.1++[b142],s137.2+1))
  else
   some (Ctl.ret s137.1)) fuel ([],0)).bind fun b90 =>
 some ((⟨(v1.length:Int),v72,v73,b74,b90⟩:Cat),v1,b2)
theorem Q7M (m_:Mnd) (r:Cat × List (List Int) × List (List Int)) (h:Q2q m_=some r):Contract Tryz.prog 88 [.agg (m_.cells true)] (.tup [.agg (r.1.cells true),.lst true 1 (Ls r.2.1),.lst true 1 (Ls r.2.2)]):=by
 refine Qf (rvs:=[.cell 2 31,.tmp 3,.tmp 4]) (rs:=[.agg (r.1.cells true),.lst true 1 (Ls r.2.1),.lst true 1 (Ls r.2.2)]) Tryz.func88 rfl rfl rfl rfl (by simp [Tryz.f88]) fun F hN hP=>?_;unfold Q2q at h;refine Q5 ?_;refine runQ hN fun K hK=>?_;simp [-Q0,-Q7,-Q1,-Q8,-Q2];repeat refine sdQ ?_
 refine hK _ ?_;clear hK K;refine tn ?_;refine Q9 (st':=⟨[(1,.adr 0 0 0),(2,.adr 1 0 0)],[(0,.mix 14 [(Mnd.cells true m_)]),(1,.mix 5 [[iV 0,.val (.slice none 0 0),.val (.slice none 0 0),.val (.slice none 0 0),.val (.slice none 0 0)]])],2⟩) (Ql [(0,0),(1,1)]) ?_;refine Q5 ?_;refine runQ hN fun K hK=>?_;simp [-Q0,-Q7,-Q1,-Q8,-Q2];repeat refine sdQ ?_
 refine hK _ ?_;clear hK K;refine tn ?_;refine Q9 (st':=⟨[(1,.adr 0 0 0),(2,.adr 1 0 0),(5,.adr 2 0 0)],[(0,.mix 14 [(Mnd.cells true m_)]),(1,.mix 5 [[iV 0,.val (.slice none 0 0),.val (.slice none 0 0),.val (.slice none 0 0),.val (.slice none 0 0)]]),(2,.mix 5 [(Cat.cells true m_.f.s)])],3⟩) (Ql [(0,0),(1,1),(2,2)]) ?_;refine Q5 ?_;refine runQ hN fun K hK=>?_;simp [-Q0,-Q7,-Q1,-Q8,-Q2];repeat with_reducible refine sdQ ?_
 replace h:=bind_some h;obtain ⟨v1,hv1,h⟩:=h;refine Q3 (Q9N _ v1 hv1) (.cons (.aggL (.cons .val (.cons .lst (.cons .lst (.cons .lst (.cons .lst (.cons .val (.cons .lst (.cons .lst (.cons .lst (.cons .lst (.cons .lst (.cons .lst (.cons .lst (.cons .lst .nil))))))))))))))) .nil) ?_;simp [-Q0,-Q7,-Q1,-Q8,-Q2,unk,unA,unE,unT,unC,flat];repeat refine sdQ ?_
 refine hK _ ?_;clear hK K;refine tn ?_;refine Q9 (st':=⟨[(1,.adr 0 0 0),(2,.adr 1 0 0),(5,.adr 2 0 0),(6,.own 3 0 v1.length)],[(0,.mix 14 [(Mnd.cells true m_)]),(1,.mix 5 [[iV 0,.val (.slice none 0 0),.val (.slice none 0 0),.val (.slice none 0 0),.val (.slice none 0 0)]]),(2,.mix 5 [(Cat.cells true m_.f.s)]),(3,.row 1 (Ls v1))],4⟩) (Ql [(0,0),(1,1),(2,2),(3,3)]) ?_;refine Q5 ?_;refine runQ hN fun K hK=>?_;simp [-Q0,-Q7,-Q1,-Q8,-Q2];repeat refine sdQ ?_
 refine hK _ ?_;clear hK K;refine tn ?_;refine Q9 (st':=⟨[(1,.adr 0 0 0),(2,.adr 1 0 0),(5,.adr 2 0 0),(6,.own 3 0 v1.length),(7,.own 4 0 0)],[(0,.mix 14 [(Mnd.cells true m_)]),(1,.mix 5 [[iV 0,.val (.slice none 0 0),.val (.slice none 0 0),.val (.slice none 0 0),.val (.slice none 0 0)]]),(2,.mix 5 [(Cat.cells true m_.f.s)]),(3,.row 1 (Ls v1)),(4,.mix 1 [])],5⟩) (Ql [(0,0),(1,1),(2,2),(3,3),(4,4)]) ?_;refine Q5 ?_;refine Q5 ?_;refine runQ hN fun K hK=>?_;simp [-Q0,-Q7,-Q1,-Q8,-Q2];repeat refine sdQ ?_
 refine hK _ ?_;clear hK K;refine tn ?_;refine Q9 (st':=⟨[(1,.adr 0 0 0),(2,.adr 1 0 0),(5,.adr 2 0 0),(6,.own 3 0 v1.length),(7,.own 4 0 0),(8,iV 0)],[(0,.mix 14 [(Mnd.cells true m_)]),(1,.mix 5 [[iV 0,.val (.slice none 0 0),.val (.slice none 0 0),.val (.slice none 0 0),.val (.slice none 0 0)]]),(2,.mix 5 [(Cat.cells true m_.f.s)]),(3,.row 1 (Ls v1)),(4,.mix 1 [])],5⟩) (Ql [(0,0),(1,1),(2,2),(3,3),(4,4)]) ?_;replace h:=bind_some h;obtain ⟨e2,h,h2⟩:=h;refine Qj (fun b2:List (List Int)=>⟨[(2,.adr 0 0 0),(5,.adr 1 0 0),(6,.own 2 0 v1.length),(7,.own 3 0 b2.length)],[(0,.mix 5 [[iV 0,.val (.slice none 0 0),.val (.slice none 0 0),.val (.slice none 0 0),.val (.slice none 0 0)]]),(1,.mix 5 [(Cat.cells true m_.f.s)]),(2,.row 1 (Ls v1)),(3,.row 1 (Ls b2))],4⟩) (fun b2=>b2=e2) ?_ ?_
 ·refine Qc ?_;refine Qz h (fun s37:List (List Int) × Int=>⟨[(1,.adr 0 0 0),(2,.adr 1 0 0),(5,.adr 2 0 0),(6,.own 3 0 v1.length),(7,.own 4 0 s37.1.length),(8,iV s37.2)],[(0,.mix 14 [(Mnd.cells true m_)]),(1,.mix 5 [[iV 0,.val (.slice none 0 0),.val (.slice none 0 0),.val (.slice none 0 0),.val (.slice none 0 0)]]),(2,.mix 5 [(Cat.cells true m_.f.s)]),(3,.row 1 (Ls v1)),(4,.row 1 (Ls s37.1))],5⟩) (Q2Z ⟨[(1,.adr 0 0 0),(2,.adr 1 0 0),(5,.adr 2 0 0),(6,.own 3 0 v1.length),(7,.own 4 0 0),(8,iV 0)],[(0,.mix 14 [(Mnd.cells true m_)]),(1,.mix 5 [[iV 0,.val (.slice none 0 0),.val (.slice none 0 0),.val (.slice none 0 0),.val (.slice none 0 0)]]),(2,.mix 5 [(Cat.cells true m_.f.s)]),(3,.row 1 (Ls v1)),(4,.row 1 (Ls []))],5⟩ (Wk.nils [] (by simp) (by simp) (by simp [nlA]) (by simp [entN,nlL,nlA,Cat.cells,Mnd.cells,UA,U1,IA,I1,LA,L1,BA,B1,EA,E1,E2,eB,eI,eL]) (by simp)) (Ql [(0,0),(1,1),(2,2),(3,3),(4,4)])) ?_;clear h;intro k37 s37 c37 h hk37;refine Q5 ?_;refine Q5 ?_;refine runQ hN fun K hK=>?_;simp [-Q0,-Q7,-Q1,-Q8,-Q2];repeat refine sdQ ?_
  refine hK _ ?_;clear hK K;refine tn ?_;refine Q9 (st':=⟨[(1,.adr 0 0 0),(2,.adr 1 0 0),(5,.adr 2 0 0),(6,.own 3 0 v1.length),(7,.own 4 0 s37.1.length),(8,iV s37.2),(27,.val (.bool (decide (s37.2<(v1.length:Int)))))],[(0,.mix 14 [(Mnd.cells true m_)]),(1,.mix 5 [[iV 0,.val (.slice none 0 0),.val (.slice none 0 0),.val (.slice none 0 0),.val (.slice none 0 0)]]),(2,.mix 5 [(Cat.cells true m_.f.s)]),(3,.row 1 (Ls v1)),(4,.row 1 (Ls s37.1))],5⟩) (Ql [(0,0),(1,1),(2,2),(3,3),(4,4)]) ?_;refine Qd rfl (fun g=>?_) fun g=>?_
  ·have g38:s37.2<(v1.length:Int):=gQ;clear g;replace h:=if_l g38 h;refine Qe ?_;refine tn ?_;refine Q5 ?_;replace h:=bind_some h;obtain ⟨e39,h,h39⟩:=h;refine Qj (fun b39:List (List Int)=>⟨[(1,.adr 0 0 0),(2,.adr 1 0 0),(5,.adr 2 0 0),(6,.own 3 0 v1.length),(7,.own 4 0 b39.length),(8,iV s37.2)],[(0,.mix 14 [(Mnd.cells true m_)]),(1,.mix 5 [[iV 0,.val (.slice none 0 0),.val (.slice none 0 0),.val (.slice none 0 0),.val (.slice none 0 0)]]),(2,.mix 5 [(Cat.cells true m_.f.s)]),(3,.row 1 (Ls v1)),(4,.row 1 (Ls b39))],5⟩) (fun b39=>b39=e39) ?_ ?_
   ·refine Qc ?_;refine Q5 ?_;refine runQ hN fun K hK=>?_;simp [-Q0,-Q7,-Q1,-Q8,-Q2];(repeat refine sdQ ?_);refine hK _ ?_;clear hK K;refine tn ?_;refine Q9 (st':=⟨[(1,.adr 0 0 0),(2,.adr 1 0 0),(5,.adr 2 0 0),(6,.own 3 0 v1.length),(7,.own 4 0 s37.1.length),(8,iV s37.2),(9,iV 0)],[(0,.mix 14 [(Mnd.cells true m_)]),(1,.mix 5 [[iV 0,.val (.slice none 0 0),.val (.slice none 0 0),.val (.slice none 0 0),.val (.slice none 0 0)]]),(2,.mix 5 [(Cat.cells true m_.f.s)]),(3,.row 1 (Ls v1)),(4,.row 1 (Ls s37.1))],5⟩) (Ql [(0,0),(1,1),(2,2),(3,3),(4,4)]) ?_;refine Qc ?_;replace h:=bind_some h;obtain ⟨e55,he55,h55⟩:=h;refine Qz he55 (fun s55:List (List Int) × Int=>⟨[(1,.adr 0 0 0),(2,.adr 1 0 0),(5,.adr 2 0 0),(6,.own 3 0 v1.length),(7,.own 4 0 s55.1.length),(8,iV s37.2),(9,iV s55.2)],[(0,.mix 14 [(Mnd.cells true m_)]),(1,.mix 5 [[iV 0,.val (.slice none 0 0),.val (.slice none 0 0),.val (.slice none 0 0),.val (.slice none 0 0)]]),(2,.mix 5 [(Cat.cells true m_.f.s)]),(3,.row 1 (Ls v1)),(4,.row 1 (Ls s55.1))],5⟩) (Ql [(0,0),(1,1),(2,2),(3,3),(4,4)]) ?_;intro k55 s55 c55 h hk55;refine Q5 ?_;refine Q5 ?_;refine runQ hN fun K hK=>?_;simp [-Q0,-Q7,-Q1,-Q8,-Q2];(repeat refine sdQ ?_);refine hK _ ?_;clear hK K;refine tn ?_;refine Q9 (st':=⟨[(1,.adr 0 0 0),(2,.adr 1 0 0),(5,.adr 2 0 0),(6,.own 3 0 v1.length),(7,.own 4 0 s55.1.length),(8,iV s37.2),(9,iV s55.2),(33,.val (.bool (decide (s55.2<(v1.length:Int)))))],[(0,.mix 14 [(Mnd.cells true m_)]),(1,.mix 5 [[iV 0,.val (.slice none 0 0),.val (.slice none 0 0),.val (.slice none 0 0),.val (.slice none 0 0)]]),(2,.mix 5 [(Cat.cells true m_.f.s)]),(3,.row 1 (Ls v1)),(4,.row 1 (Ls s55.1))],5⟩) (Ql [(0,0),(1,1),(2,2),(3,3),(4,4)]) ?_;refine Qd rfl (fun g=>?_) fun g=>?_
    ·have g56:s55.2<(v1.length:Int):=gQ;clear g;replace h:=if_l g56 h;refine Qe ?_;refine tn ?_;refine Q5 ?_;replace h:=bind_some h;obtain ⟨e57,h,h57⟩:=h;refine Qj (fun b57:List (List Int)=>⟨[(1,.adr 0 0 0),(2,.adr 1 0 0),(5,.adr 2 0 0),(6,.own 3 0 v1.length),(7,.own 4 0 b57.length),(8,iV s37.2),(9,iV s55.2)],[(0,.mix 14 [(Mnd.cells true m_)]),(1,.mix 5 [[iV 0,.val (.slice none 0 0),.val (.slice none 0 0),.val (.slice none 0 0),.val (.slice none 0 0)]]),(2,.mix 5 [(Cat.cells true m_.f.s)]),(3,.row 1 (Ls v1)),(4,.row 1 (Ls b57))],5⟩) (fun b57=>b57=e57) ?_ ?_
     ·refine Qc ?_;refine Q5 ?_;refine runQ hN fun K hK=>?_;replace h:=Q6 h;obtain ⟨a58,h⟩:=h;replace h:=Q6 h;obtain ⟨a59,h⟩:=h;simp [-Q0,-Q7,-Q1,-Q8,-Q2,at_L a58,at_L a59];(repeat with_reducible refine sdQ ?_);replace h:=bind_some h;obtain ⟨v60,hv60,h⟩:=h;refine Q3 (Q8x _ _ _ v60 hv60) (.cons (.aggL (.cons .val (.cons .lst (.cons .lst (.cons .lst (.cons .lst (.cons .val (.cons .lst (.cons .lst (.cons .lst (.cons .lst (.cons .lst (.cons .lst (.cons .lst (.cons .lst .nil))))))))))))))) (.cons (.whole (by simp [at_L a58]) (by simp) (by simp [at_L a58])) (.cons (.whole (by simp [at_L a59]) (by simp) (by simp [at_L a59])) .nil))) ?_;simp [-Q0,-Q7,-Q1,-Q8,-Q2,unk,unA,unE,unT,unC,flat,at_L a58,at_L a59];(repeat refine sdQ ?_);refine hK _ ?_;clear hK K;refine tn ?_;refine Q9 (st':=⟨[(1,.adr 0 0 0),(2,.adr 1 0 0),(5,.adr 2 0 0),(6,.own 3 0 v1.length),(7,.own 4 0 s55.1.length),(8,iV s37.2),(9,iV s55.2),(10,.own 5 0 v60.length)],[(0,.mix 14 [(Mnd.cells true m_)]),(1,.mix 5 [[iV 0,.val (.slice none 0 0),.val (.slice none 0 0),.val (.slice none 0 0),.val (.slice none 0 0)]]),(2,.mix 5 [(Cat.cells true m_.f.s)]),(3,.row 1 (Ls v1)),(4,.row 1 (Ls s55.1)),(5,rI v60)],6⟩) (Ql [(0,0),(1,1),(2,2),(3,3),(4,4),(7,5)]) ?_;refine Q5 ?_;refine runQ hN fun K hK=>?_;simp [-Q0,-Q7,-Q1,-Q8,-Q2];(repeat refine sdQ ?_);refine hK _ ?_;clear hK K;refine tn ?_;refine Q9 (st':=⟨[(1,.adr 0 0 0),(2,.adr 1 0 0),(5,.adr 2 0 0),(6,.own 3 0 v1.length),(7,.own 4 0 s55.1.length),(8,iV s37.2),(9,iV s55.2),(10,.own 5 0 v60.length),(11,iV 0)],[(0,.mix 14 [(Mnd.cells true m_)]),(1,.mix 5 [[iV 0,.val (.slice none 0 0),.val (.slice none 0 0),.val (.slice none 0 0),.val (.slice none 0 0)]]),(2,.mix 5 [(Cat.cells true m_.f.s)]),(3,.row 1 (Ls v1)),(4,.row 1 (Ls s55.1)),(5,rI v60)],6⟩) (Ql [(0,0),(1,1),(2,2),(3,3),(4,4),(5,5)]) ?_;refine Qc ?_;replace h:=bind_some h;obtain ⟨e65,he65,h65⟩:=h;refine Qz he65 (fun s65:List (List Int) × Int=>⟨[(1,.adr 0 0 0),(2,.adr 1 0 0),(5,.adr 2 0 0),(6,.own 3 0 v1.length),(7,.own 4 0 s65.1.length),(8,iV s37.2),(9,iV s55.2),(10,.own 5 0 v60.length),(11,iV s65.2)],[(0,.mix 14 [(Mnd.cells true m_)]),(1,.mix 5 [[iV 0,.val (.slice none 0 0),.val (.slice none 0 0),.val (.slice none 0 0),.val (.slice none 0 0)]]),(2,.mix 5 [(Cat.cells true m_.f.s)]),(3,.row 1 (Ls v1)),(4,.row 1 (Ls s65.1)),(5,rI v60)],6⟩) (Ql [(0,0),(1,1),(2,2),(3,3),(4,4),(5,5)]) ?_;intro k65 s65 c65 h hk65;refine Q5 ?_;refine Q5 ?_;refine runQ hN fun K hK=>?_;simp [-Q0,-Q7,-Q1,-Q8,-Q2];(repeat refine sdQ ?_);refine hK _ ?_;clear hK K;refine tn ?_
      refine Q9 (st':=⟨[(1,.adr 0 0 0),(2,.adr 1 0 0),(5,.adr 2 0 0),(6,.own 3 0 v1.length),(7,.own 4 0 s65.1.length),(8,iV s37.2),(9,iV s55.2),(10,.own 5 0 v60.length),(11,iV s65.2),(49,.val (.bool (decide (s65.2<(v60.length:Int)))))],[(0,.mix 14 [(Mnd.cells true m_)]),(1,.mix 5 [[iV 0,.val (.slice none 0 0),.val (.slice none 0 0),.val (.slice none 0 0),.val (.slice none 0 0)]]),(2,.mix 5 [(Cat.cells true m_.f.s)]),(3,.row 1 (Ls v1)),(4,.row 1 (Ls s65.1)),(5,rI v60)],6⟩) (Ql [(0,0),(1,1),(2,2),(3,3),(4,4),(5,5)]) ?_;refine Qd rfl (fun g=>?_) fun g=>?_
      ·have g66:s65.2<(v60.length:Int):=gQ;clear g;replace h:=if_l g66 h;refine Qe ?_;refine tn ?_;refine Q5 ?_;refine Qc ?_;refine runQ hN fun K hK=>?_;replace h:=Q6 h;obtain ⟨a67,h⟩:=h;replace h:=Q6 h;obtain ⟨a68,h⟩:=h;(try simp only [List.length_append,List.length_cons,List.length_nil] at a68);simp [-Q0,-Q7,-Q1,-Q8,-Q2,at_I a67,a68];(repeat refine sdQ ?_);refine hK _ ?_;clear hK K;refine bn ?_;refine tn ?_;refine Q9 (st':=⟨[(1,.adr 0 0 0),(2,.adr 1 0 0),(5,.adr 2 0 0),(6,.own 3 0 v1.length),(7,.own 4 0 ((s65.1++[[s37.2,s55.2,ix v60 s65.2]]).length)),(8,iV s37.2),(9,iV s55.2),(10,.own 5 0 v60.length),(11,iV s65.2)],[(0,.mix 14 [(Mnd.cells true m_)]),(1,.mix 5 [[iV 0,.val (.slice none 0 0),.val (.slice none 0 0),.val (.slice none 0 0),.val (.slice none 0 0)]]),(2,.mix 5 [(Cat.cells true m_.f.s)]),(3,.row 1 (Ls v1)),(4,.row 1 (Ls (s65.1++[[s37.2,s55.2,ix v60 s65.2]]))),(5,rI v60)],6⟩) (Ql [(0,0),(1,1),(2,2),(3,3),(9,4),(5,5)]) ?_;refine runQ hN fun K hK=>?_;replace h:=Q6 h;obtain ⟨a69,h⟩:=h;simp [-Q0,-Q7,-Q1,-Q8,-Q2,Qu a69];(repeat refine sdQ ?_);refine hK _ ?_;clear hK K;cases h;exact rn (s':=(s65.1++[[s37.2,s55.2,ix v60 s65.2]],s65.2+1)) hk65 (Ql [(0,0),(1,1),(2,2),(3,3),(4,4),(5,5)])
      have g66:¬ (s65.2<(v60.length:Int)):=gQ;clear g;replace h:=if_r g66 h;refine Qp ?_;refine tx ?_;refine lx ?_;refine bh ?_;refine bn ?_;cases h;have q:_=e65:=hk65;have h:=h65;rw [← q] at h;clear q;(try dsimp only at h);exact jn (b:=s65.1) (Option.some.inj h) (Ql [(0,0),(1,1),(2,2),(3,3),(4,4)])
     intro b57 hb57;have h:=h57;(try rw [← hb57] at h);clear h57;(try dsimp only at h);refine runQ hN fun K hK=>?_;replace h:=Q6 h;obtain ⟨a70,h⟩:=h;simp [-Q0,-Q7,-Q1,-Q8,-Q2,Qu a70];(repeat refine sdQ ?_);refine hK _ ?_;clear hK K;cases h;exact rn (s':=(b57,s55.2+1)) hk55 (Ql [(0,0),(1,1),(2,2),(3,3),(4,4)])
    have g56:¬ (s55.2<(v1.length:Int)):=gQ;clear g;replace h:=if_r g56 h;refine Qp ?_;refine tx ?_;refine lx ?_;refine bh ?_;refine bn ?_;cases h;have q:_=e55:=hk55;have h:=h55;rw [← q] at h;clear q;(try dsimp only at h);exact jn (b:=s55.1) (Option.some.inj h) (Ql [(0,0),(1,1),(2,2),(3,3),(4,4)])
   intro b39 hb39;have h:=h39;(try rw [← hb39] at h);clear h39;(try dsimp only at h);refine runQ hN fun K hK=>?_;replace h:=Q6 h;obtain ⟨a71,h⟩:=h;simp [-Q0,-Q7,-Q1,-Q8,-Q2,Qu a71];(repeat refine sdQ ?_);refine hK _ ?_;clear hK K;cases h;exact rn (s':=(b39,s37.2+1)) hk37 (Ql [(0,0),(1,1),(2,2),(3,3),(4,4)])
  have g38:¬ (s37.2<(v1.length:Int)):=gQ;clear g;replace h:=if_r g38 h;refine Qp ?_;refine tx ?_;refine lx ?_;refine bh ?_;cases h;exact jn (b:=s37.1) hk37 (Ql [(1,0),(2,1),(3,2),(4,3)])
 intro b2 hb2;have h:=h2;try rw [← hb2] at h
 clear h2;try dsimp only at h
 refine Q5 ?_;refine runQ hN fun K hK=>?_;simp [-Q0,-Q7,-Q1,-Q8,-Q2];repeat with_reducible refine sdQ ?_
 replace h:=bind_some h;obtain ⟨v72,hv72,h⟩:=h;refine Q3 (Q2F _ _ v72 hv72) (.cons (.whole (by simp) (by simp) (by simp)) (.cons .val .nil)) ?_;simp [-Q0,-Q7,-Q1,-Q8,-Q2,unk,unA,unE,unT,unC,flat];repeat with_reducible refine sdQ ?_
 replace h:=bind_some h;obtain ⟨v73,hv73,h⟩:=h;refine Q3 (Q2F _ _ v73 hv73) (.cons (.whole (by simp) (by simp) (by simp)) (.cons .val .nil)) ?_;simp [-Q0,-Q7,-Q1,-Q8,-Q2,unk,unA,unE,unT,unC,flat];repeat refine sdQ ?_
 refine hK _ ?_;clear hK K;refine tn ?_;refine Q9 (st':=⟨[(2,.adr 0 0 0),(5,.adr 1 0 0),(6,.own 2 0 v1.length),(7,.own 3 0 b2.length),(12,.adr 4 0 0)],[(0,.mix 5 [[iV 0,.val (.slice none 0 0),.val (.slice none 0 0),.val (.slice none 0 0),.val (.slice none 0 0)]]),(1,.mix 5 [(Cat.cells true m_.f.s)]),(2,.row 1 (Ls v1)),(3,.row 1 (Ls b2)),(4,.mix 5 [[iV (v1.length:Int),.own 5 0 v72.length,.own 6 0 v73.length,.own 7 0 0,.own 8 0 0]]),(5,rI v72),(6,rI v73),(7,.mix 1 []),(8,.mix 1 [])],9⟩) (Ql [(0,0),(1,1),(2,2),(3,3),(8,4),(4,5),(5,6),(6,7),(7,8)]) ?_;refine Q5 ?_;refine Q5 ?_;refine runQ hN fun K hK=>?_;simp [-Q0,-Q7,-Q1,-Q8,-Q2];repeat refine sdQ ?_
 refine hK _ ?_;clear hK K;refine tn ?_;refine Q9 (st':=⟨[(2,.adr 0 0 0),(5,.adr 1 0 0),(6,.own 2 0 v1.length),(7,.own 3 0 b2.length),(12,.adr 4 0 0),(13,iV 0)],[(0,.mix 5 [[iV 0,.val (.slice none 0 0),.val (.slice none 0 0),.val (.slice none 0 0),.val (.slice none 0 0)]]),(1,.mix 5 [(Cat.cells true m_.f.s)]),(2,.row 1 (Ls v1)),(3,.row 1 (Ls b2)),(4,.mix 5 [[iV (v1.length:Int),.own 5 0 v72.length,.own 6 0 v73.length,.own 7 0 0,.own 8 0 0]]),(5,rI v72),(6,rI v73),(7,.mix 1 []),(8,.mix 1 [])],9⟩) (Ql [(0,0),(1,1),(2,2),(3,3),(4,4),(5,5),(6,6),(7,7),(8,8)]) ?_;replace h:=bind_some h;obtain ⟨e74,h,h74⟩:=h;refine Qj (fun b74:List Int=>⟨[(2,.adr 0 0 0),(5,.adr 1 0 0),(6,.own 2 0 v1.length),(7,.own 3 0 b2.length),(12,.adr 4 0 0)],[(0,.mix 5 [[iV 0,.val (.slice none 0 0),.val (.slice none 0 0),.val (.slice none 0 0),.val (.slice none 0 0)]]),(1,.mix 5 [(Cat.cells true m_.f.s)]),(2,.row 1 (Ls v1)),(3,.row 1 (Ls b2)),(4,.mix 5 [[iV (v1.length:Int),.own 5 0 v72.length,.own 6 0 v73.length,.own 7 0 b74.length,.own 8 0 0]]),(5,rI v72),(6,rI v73),(7,rI b74),(8,.mix 1 [])],9⟩) (fun b74=>b74=e74) ?_ ?_
 ·refine Qc ?_;refine Qz h (fun s82:List Int × Int=>⟨[(2,.adr 0 0 0),(5,.adr 1 0 0),(6,.own 2 0 v1.length),(7,.own 3 0 b2.length),(12,.adr 4 0 0),(13,iV s82.2)],[(0,.mix 5 [[iV 0,.val (.slice none 0 0),.val (.slice none 0 0),.val (.slice none 0 0),.val (.slice none 0 0)]]),(1,.mix 5 [(Cat.cells true m_.f.s)]),(2,.row 1 (Ls v1)),(3,.row 1 (Ls b2)),(4,.mix 5 [[iV (v1.length:Int),.own 5 0 v72.length,.own 6 0 v73.length,.own 7 0 s82.1.length,.own 8 0 0]]),(5,rI v72),(6,rI v73),(7,rI s82.1),(8,.mix 1 [])],9⟩) (Q2Z ⟨[(2,.adr 0 0 0),(5,.adr 1 0 0),(6,.own 2 0 v1.length),(7,.own 3 0 b2.length),(12,.adr 4 0 0),(13,iV 0)],[(0,.mix 5 [[iV 0,.val (.slice none 0 0),.val (.slice none 0 0),.val (.slice none 0 0),.val (.slice none 0 0)]]),(1,.mix 5 [(Cat.cells true m_.f.s)]),(2,.row 1 (Ls v1)),(3,.row 1 (Ls b2)),(4,.mix 5 [[iV (v1.length:Int),.own 5 0 v72.length,.own 6 0 v73.length,.own 7 0 0,.own 8 0 0]]),(5,rI v72),(6,rI v73),(7,rI []),(8,.mix 1 [])],9⟩ (Wk.nils [] (by simp) (by simp) (by simp [nlA]) (by simp [entN,nlL,nlA,Cat.cells,Mnd.cells,UA,U1,IA,I1,LA,L1,BA,B1,EA,E1,E2,eB,eI,eL]) (by simp)) (Ql [(0,0),(1,1),(2,2),(3,3),(4,4),(5,5),(6,6),(7,7),(8,8)])) ?_;clear h;intro k82 s82 c82 h hk82;refine Q5 ?_;refine Q5 ?_;refine runQ hN fun K hK=>?_;simp [-Q0,-Q7,-Q1,-Q8,-Q2];repeat refine sdQ ?_
  refine hK _ ?_;clear hK K;refine tn ?_;refine Q9 (st':=⟨[(2,.adr 0 0 0),(5,.adr 1 0 0),(6,.own 2 0 v1.length),(7,.own 3 0 b2.length),(12,.adr 4 0 0),(13,iV s82.2),(74,.val (.bool (decide (s82.2<(v1.length:Int)))))],[(0,.mix 5 [[iV 0,.val (.slice none 0 0),.val (.slice none 0 0),.val (.slice none 0 0),.val (.slice none 0 0)]]),(1,.mix 5 [(Cat.cells true m_.f.s)]),(2,.row 1 (Ls v1)),(3,.row 1 (Ls b2)),(4,.mix 5 [[iV (v1.length:Int),.own 5 0 v72.length,.own 6 0 v73.length,.own 7 0 s82.1.length,.own 8 0 0]]),(5,rI v72),(6,rI v73),(7,rI s82.1),(8,.mix 1 [])],9⟩) (Ql [(0,0),(1,1),(2,2),(3,3),(4,4),(5,5),(6,6),(7,7),(8,8)]) ?_;refine Qd rfl (fun g=>?_) fun g=>?_
  ·have g83:s82.2<(v1.length:Int):=gQ;clear g;replace h:=if_l g83 h;refine Qe ?_;refine tn ?_;refine Q5 ?_;refine Qc ?_;refine runQ hN fun K hK=>?_;replace h:=Q6 h;obtain ⟨a84,h⟩:=h;replace h:=Q6 h;obtain ⟨a85,h⟩:=h;replace h:=Q6 h;obtain ⟨a86,h⟩:=h;simp [-Q0,-Q7,-Q1,-Q8,-Q2,at_L a84,(show (Is (rx v1 s82.2))[0]? = some [iV (ix (rx v1 s82.2) 0)] from at_I (j:=0) a85),at_I a86];(repeat with_reducible refine sdQ ?_);replace h:=bind_some h;obtain ⟨v87,hv87,h⟩:=h;refine Q3 (Q2V _ _ v87 hv87) (.cons (.whole (by simp) (by simp) (by simp)) (.cons (.lits (es:=_) rfl (.cons rfl (.cons .val .nil) (.cons rfl (.cons .val .nil) (.cons rfl (.cons .val .nil) .nil))) rfl) .nil)) ?_;replace h:=Q6 h;obtain ⟨a88,h⟩:=h;(try simp only [List.length_append,List.length_cons,List.length_nil] at a88);simp [-Q0,-Q7,-Q1,-Q8,-Q2,unk,unA,unE,unT,unC,flat,at_L a84,at_I a86,a88];(repeat refine sdQ ?_);refine hK _ ?_;clear hK K;refine bn ?_;refine tn ?_;refine Q9 (st':=⟨[(2,.adr 0 0 0),(5,.adr 1 0 0),(6,.own 2 0 v1.length),(7,.own 3 0 b2.length),(12,.adr 4 0 0),(13,iV s82.2)],[(0,.mix 5 [[iV 0,.val (.slice none 0 0),.val (.slice none 0 0),.val (.slice none 0 0),.val (.slice none 0 0)]]),(1,.mix 5 [(Cat.cells true m_.f.s)]),(2,.row 1 (Ls v1)),(3,.row 1 (Ls b2)),(4,.mix 5 [[iV (v1.length:Int),.own 5 0 v72.length,.own 6 0 v73.length,.own 7 0 ((s82.1++[v87]).length),.own 8 0 0]]),(5,rI v72),(6,rI v73),(7,rI (s82.1++[v87])),(8,.mix 1 [])],9⟩) (Ql [(0,0),(1,1),(2,2),(3,3),(4,4),(5,5),(6,6),(14,7),(8,8)]) ?_;refine runQ hN fun K hK=>?_;replace h:=Q6 h;obtain ⟨a89,h⟩:=h;simp [-Q0,-Q7,-Q1,-Q8,-Q2,Qu a89];(repeat refine sdQ ?_);refine hK _ ?_;clear hK K;cases h;exact rn (s':=(s82.1++[v87],s82.2+1)) hk82 (Ql [(0,0),(1,1),(2,2),(3,3),(4,4),(5,5),(6,6),(7,7),(8,8)])
  have g83:¬ (s82.2<(v1.length:Int)):=gQ;clear g;replace h:=if_r g83 h;refine Qp ?_;refine tx ?_;refine lx ?_;refine bh ?_;cases h;exact jn (b:=s82.1) hk82 (Ql [(0,0),(1,1),(2,2),(3,3),(4,4),(5,5),(6,6),(7,7),(8,8)])
 intro b74 hb74;have h:=h74;try rw [← hb74] at h
 clear h74;try dsimp only at h
 refine Q5 ?_;refine Q5 ?_;refine runQ hN fun K hK=>?_;simp [-Q0,-Q7,-Q1,-Q8,-Q2];repeat refine sdQ ?_
 refine hK _ ?_;clear hK K;refine tn ?_;refine Q9 (st':=⟨[(2,.adr 0 0 0),(5,.adr 1 0 0),(6,.own 2 0 v1.length),(7,.own 3 0 b2.length),(12,.adr 4 0 0),(14,iV 0)],[(0,.mix 5 [[iV 0,.val (.slice none 0 0),.val (.slice none 0 0),.val (.slice none 0 0),.val (.slice none 0 0)]]),(1,.mix 5 [(Cat.cells true m_.f.s)]),(2,.row 1 (Ls v1)),(3,.row 1 (Ls b2)),(4,.mix 5 [[iV (v1.length:Int),.own 5 0 v72.length,.own 6 0 v73.length,.own 7 0 b74.length,.own 8 0 0]]),(5,rI v72),(6,rI v73),(7,rI b74),(8,.mix 1 [])],9⟩) (Ql [(0,0),(1,1),(2,2),(3,3),(4,4),(5,5),(6,6),(7,7),(8,8)]) ?_;replace h:=bind_some h;obtain ⟨e90,h,h90⟩:=h;refine Qj (fun b90:List (List Int)=>⟨[(2,.adr 0 0 0),(6,.own 1 0 v1.length),(7,.own 2 0 b2.length),(12,.adr 3 0 0)],[(0,.mix 5 [[iV 0,.val (.slice none 0 0),.val (.slice none 0 0),.val (.slice none 0 0),.val (.slice none 0 0)]]),(1,.row 1 (Ls v1)),(2,.row 1 (Ls b2)),(3,.mix 5 [[iV (v1.length:Int),.own 4 0 v72.length,.own 5 0 v73.length,.own 6 0 b74.length,.own 7 0 b90.length]]),(4,rI v72),(5,rI v73),(6,rI b74),(7,.row 1 (Ls b90))],8⟩) (fun b90=>b90=e90) ?_ ?_
 ·refine Qc ?_;refine Qz h (fun s137:List (List Int) × Int=>⟨[(2,.adr 0 0 0),(5,.adr 1 0 0),(6,.own 2 0 v1.length),(7,.own 3 0 b2.length),(12,.adr 4 0 0),(14,iV s137.2)],[(0,.mix 5 [[iV 0,.val (.slice none 0 0),.val (.slice none 0 0),.val (.slice none 0 0),.val (.slice none 0 0)]]),(1,.mix 5 [(Cat.cells true m_.f.s)]),(2,.row 1 (Ls v1)),(3,.row 1 (Ls b2)),(4,.mix 5 [[iV (v1.length:Int),.own 5 0 v72.length,.own 6 0 v73.length,.own 7 0 b74.length,.own 8 0 s137.1.length]]),(5,rI v72),(6,rI v73),(7,rI b74),(8,.row 1 (Ls s137.1))],9⟩) (Q2Z ⟨[(2,.adr 0 0 0),(5,.adr 1 0 0),(6,.own 2 0 v1.length),(7,.own 3 0 b2.length),(12,.adr 4 0 0),(14,iV 0)],[(0,.mix 5 [[iV 0,.val (.slice none 0 0),.val (.slice none 0 0),.val (.slice none 0 0),.val (.slice none 0 0)]]),(1,.mix 5 [(Cat.cells true m_.f.s)]),(2,.row 1 (Ls v1)),(3,.row 1 (Ls b2)),(4,.mix 5 [[iV (v1.length:Int),.own 5 0 v72.length,.own 6 0 v73.length,.own 7 0 b74.length,.own 8 0 0]]),(5,rI v72),(6,rI v73),(7,rI b74),(8,.row 1 (Ls []))],9⟩ (Wk.nils [] (by simp) (by simp) (by simp [nlA]) (by simp [entN,nlL,nlA,Cat.cells,Mnd.cells,UA,U1,IA,I1,LA,L1,BA,B1,EA,E1,E2,eB,eI,eL]) (by simp)) (Ql [(0,0),(1,1),(2,2),(3,3),(4,4),(5,5),(6,6),(7,7),(8,8)])) ?_;clear h;intro k137 s137 c137 h hk137;refine Q5 ?_;refine Q5 ?_;replace h:=bind_some h;obtain ⟨e138,h,h138⟩:=h;refine Qj (fun b138:Bool=>⟨[(2,.adr 0 0 0),(5,.adr 1 0 0),(6,.own 2 0 v1.length),(7,.own 3 0 b2.length),(12,.adr 4 0 0),(14,iV s137.2),(104,.val (.bool b138))],[(0,.mix 5 [[iV 0,.val (.slice none 0 0),.val (.slice none 0 0),.val (.slice none 0 0),.val (.slice none 0 0)]]),(1,.mix 5 [(Cat.cells true m_.f.s)]),(2,.row 1 (Ls v1)),(3,.row 1 (Ls b2)),(4,.mix 5 [[iV (v1.length:Int),.own 5 0 v72.length,.own 6 0 v73.length,.own 7 0 b74.length,.own 8 0 s137.1.length]]),(5,rI v72),(6,rI v73),(7,rI b74),(8,.row 1 (Ls s137.1))],9⟩) (fun b138=>b138=e138) ?_ ?_
  ·refine runQ hN fun K hK=>?_;simp [-Q0,-Q7,-Q1,-Q8,-Q2];(repeat with_reducible refine sdQ ?_);refine Qq (fun g=>?_) (fun g=>?_)
   ·have g139:s137.2<(b2.length:Int):=gQ;clear g;replace h:=if_l g139 h;simp [-Q0,-Q7,-Q1,-Q8,-Q2];(repeat with_reducible refine sdQ ?_);replace h:=bind_some h;obtain ⟨v140,hv140,h⟩:=h;refine Q3 (Q61 _ v140 hv140) (.cons (.aggL (.cons .val (.cons (.whole (by simp) (by simp) (by simp)) (.cons (.whole (by simp) (by simp) (by simp)) (.cons (.whole (by simp) (by simp) (by simp)) (.cons (.whole (by simp) (by simp) (by simp)) .nil)))))) .nil) ?_;simp [-Q0,-Q7,-Q1,-Q8,-Q2,unk,unA,unE,unT,unC,flat];(repeat refine sdQ ?_);refine hK _ ?_;exact jn (b:=v140) (Option.some.inj h) (Ql [(0,0),(1,1),(2,2),(3,3),(4,4),(5,5),(6,6),(7,7),(8,8)])
   have g139:¬ (s137.2<(b2.length:Int)):=gQ;clear g;replace h:=if_r g139 h;simp [-Q0,-Q7,-Q1,-Q8,-Q2];(repeat refine sdQ ?_);refine hK _ ?_;exact jn (b:=false) (Option.some.inj h) (Ql [(0,0),(1,1),(2,2),(3,3),(4,4),(5,5),(6,6),(7,7),(8,8)])
  intro b138 hb138;have h:=h138;try rw [← hb138] at h
  clear h138;try dsimp only at h
  refine Qd rfl (fun g=>?_) fun g=>?_
  ·have g141:b138=true:=gQ;clear g;replace h:=if_l g141 h;refine Qe ?_;refine tn ?_;refine Q5 ?_;refine Qc ?_;refine Q5 ?_;refine runQ hN fun K hK=>?_;simp [-Q0,-Q7,-Q1,-Q8,-Q2];(repeat refine sdQ ?_);refine hK _ ?_;clear hK K;refine tn ?_;refine Q9 (st':=⟨[(2,.adr 0 0 0),(5,.adr 1 0 0),(6,.own 2 0 v1.length),(7,.own 3 0 b2.length),(12,.adr 4 0 0),(14,iV s137.2),(15,.own 9 0 0)],[(0,.mix 5 [[iV 0,.val (.slice none 0 0),.val (.slice none 0 0),.val (.slice none 0 0),.val (.slice none 0 0)]]),(1,.mix 5 [(Cat.cells true m_.f.s)]),(2,.row 1 (Ls v1)),(3,.row 1 (Ls b2)),(4,.mix 5 [[iV (v1.length:Int),.own 5 0 v72.length,.own 6 0 v73.length,.own 7 0 b74.length,.own 8 0 s137.1.length]]),(5,rI v72),(6,rI v73),(7,rI b74),(8,.row 1 (Ls s137.1)),(9,.mix 1 [])],10⟩) (Ql [(0,0),(1,1),(2,2),(3,3),(4,4),(5,5),(6,6),(7,7),(8,8),(9,9)]) ?_;refine Q5 ?_;refine Q5 ?_;refine runQ hN fun K hK=>?_;simp [-Q0,-Q7,-Q1,-Q8,-Q2];(repeat refine sdQ ?_);refine hK _ ?_;clear hK K;refine tn ?_;refine Q9 (st':=⟨[(2,.adr 0 0 0),(5,.adr 1 0 0),(6,.own 2 0 v1.length),(7,.own 3 0 b2.length),(12,.adr 4 0 0),(14,iV s137.2),(15,.own 9 0 0),(16,iV 0)],[(0,.mix 5 [[iV 0,.val (.slice none 0 0),.val (.slice none 0 0),.val (.slice none 0 0),.val (.slice none 0 0)]]),(1,.mix 5 [(Cat.cells true m_.f.s)]),(2,.row 1 (Ls v1)),(3,.row 1 (Ls b2)),(4,.mix 5 [[iV (v1.length:Int),.own 5 0 v72.length,.own 6 0 v73.length,.own 7 0 b74.length,.own 8 0 s137.1.length]]),(5,rI v72),(6,rI v73),(7,rI b74),(8,.row 1 (Ls s137.1)),(9,.mix 1 [])],10⟩) (Ql [(0,0),(1,1),(2,2),(3,3),(4,4),(5,5),(6,6),(7,7),(8,8),(9,9)]) ?_;replace h:=bind_some h;obtain ⟨e142,h,h142⟩:=h;refine Qj (fun b142:List Int=>⟨[(2,.adr 0 0 0),(5,.adr 1 0 0),(6,.own 2 0 v1.length),(7,.own 3 0 b2.length),(12,.adr 4 0 0),(14,iV s137.2),(15,.own 9 0 b142.length)],[(0,.mix 5 [[iV 0,.val (.slice none 0 0),.val (.slice none 0 0),.val (.slice none 0 0),.val (.slice none 0 0)]]),(1,.mix 5 [(Cat.cells true m_.f.s)]),(2,.row 1 (Ls v1)),(3,.row 1 (Ls b2)),(4,.mix 5 [[iV (v1.length:Int),.own 5 0 v72.length,.own 6 0 v73.length,.own 7 0 b74.length,.own 8 0 s137.1.length]]),(5,rI v72),(6,rI v73),(7,rI b74),(8,.row 1 (Ls s137.1)),(9,rI b142)],10⟩) (fun b142=>b142=e142) ?_ ?_
   ·refine Qc ?_;refine Qz h (fun s162:List Int × Int=>⟨[(2,.adr 0 0 0),(5,.adr 1 0 0),(6,.own 2 0 v1.length),(7,.own 3 0 b2.length),(12,.adr 4 0 0),(14,iV s137.2),(15,.own 9 0 s162.1.length),(16,iV s162.2)],[(0,.mix 5 [[iV 0,.val (.slice none 0 0),.val (.slice none 0 0),.val (.slice none 0 0),.val (.slice none 0 0)]]),(1,.mix 5 [(Cat.cells true m_.f.s)]),(2,.row 1 (Ls v1)),(3,.row 1 (Ls b2)),(4,.mix 5 [[iV (v1.length:Int),.own 5 0 v72.length,.own 6 0 v73.length,.own 7 0 b74.length,.own 8 0 s137.1.length]]),(5,rI v72),(6,rI v73),(7,rI b74),(8,.row 1 (Ls s137.1)),(9,rI s162.1)],10⟩) (Q2Z ⟨[(2,.adr 0 0 0),(5,.adr 1 0 0),(6,.own 2 0 v1.length),(7,.own 3 0 b2.length),(12,.adr 4 0 0),(14,iV s137.2),(15,.own 9 0 0),(16,iV 0)],[(0,.mix 5 [[iV 0,.val (.slice none 0 0),.val (.slice none 0 0),.val (.slice none 0 0),.val (.slice none 0 0)]]),(1,.mix 5 [(Cat.cells true m_.f.s)]),(2,.row 1 (Ls v1)),(3,.row 1 (Ls b2)),(4,.mix 5 [[iV (v1.length:Int),.own 5 0 v72.length,.own 6 0 v73.length,.own 7 0 b74.length,.own 8 0 s137.1.length]]),(5,rI v72),(6,rI v73),(7,rI b74),(8,.row 1 (Ls s137.1)),(9,rI [])],10⟩ (Wk.nils [] (by simp) (by simp) (by simp [nlA]) (by simp [entN,nlL,nlA,Cat.cells,Mnd.cells,UA,U1,IA,I1,LA,L1,BA,B1,EA,E1,E2,eB,eI,eL]) (by simp)) (Ql [(0,0),(1,1),(2,2),(3,3),(4,4),(5,5),(6,6),(7,7),(8,8),(9,9)])) ?_;clear h;intro k162 s162 c162 h hk162;refine Q5 ?_;refine Q5 ?_;refine runQ hN fun K hK=>?_;simp [-Q0,-Q7,-Q1,-Q8,-Q2];(repeat refine sdQ ?_);refine hK _ ?_;clear hK K;refine tn ?_;refine Q9 (st':=⟨[(2,.adr 0 0 0),(5,.adr 1 0 0),(6,.own 2 0 v1.length),(7,.own 3 0 b2.length),(12,.adr 4 0 0),(14,iV s137.2),(15,.own 9 0 s162.1.length),(16,iV s162.2),(111,.val (.bool (decide (s162.2<(b2.length:Int)))))],[(0,.mix 5 [[iV 0,.val (.slice none 0 0),.val (.slice none 0 0),.val (.slice none 0 0),.val (.slice none 0 0)]]),(1,.mix 5 [(Cat.cells true m_.f.s)]),(2,.row 1 (Ls v1)),(3,.row 1 (Ls b2)),(4,.mix 5 [[iV (v1.length:Int),.own 5 0 v72.length,.own 6 0 v73.length,.own 7 0 b74.length,.own 8 0 s137.1.length]]),(5,rI v72),(6,rI v73),(7,rI b74),(8,.row 1 (Ls s137.1)),(9,rI s162.1)],10⟩) (Ql [(0,0),(1,1),(2,2),(3,3),(4,4),(5,5),(6,6),(7,7),(8,8),(9,9)]) ?_;refine Qd rfl (fun g=>?_) fun g=>?_
    ·have g163:s162.2<(b2.length:Int):=gQ;clear g;replace h:=if_l g163 h;refine Qe ?_;refine tn ?_;refine Q5 ?_;refine Qc ?_;refine Q5 ?_;refine runQ hN fun K hK=>?_;simp [-Q0,-Q7,-Q1,-Q8,-Q2];(repeat refine sdQ ?_);refine hK _ ?_;clear hK K;refine tn ?_;refine Q9 (st':=⟨[(2,.adr 0 0 0),(5,.adr 1 0 0),(6,.own 2 0 v1.length),(7,.own 3 0 b2.length),(12,.adr 4 0 0),(14,iV s137.2),(15,.own 9 0 s162.1.length),(16,iV s162.2),(17,iV (-1))],[(0,.mix 5 [[iV 0,.val (.slice none 0 0),.val (.slice none 0 0),.val (.slice none 0 0),.val (.slice none 0 0)]]),(1,.mix 5 [(Cat.cells true m_.f.s)]),(2,.row 1 (Ls v1)),(3,.row 1 (Ls b2)),(4,.mix 5 [[iV (v1.length:Int),.own 5 0 v72.length,.own 6 0 v73.length,.own 7 0 b74.length,.own 8 0 s137.1.length]]),(5,rI v72),(6,rI v73),(7,rI b74),(8,.row 1 (Ls s137.1)),(9,rI s162.1)],10⟩) (Ql [(0,0),(1,1),(2,2),(3,3),(4,4),(5,5),(6,6),(7,7),(8,8),(9,9)]) ?_;refine Q5 ?_;refine Q5 ?_;refine runQ hN fun K hK=>?_;replace h:=Q6 h;obtain ⟨a164,h⟩:=h;replace h:=Q6 h;obtain ⟨a165,h⟩:=h;replace h:=Q6 h;obtain ⟨a166,h⟩:=h;replace h:=Q6 h;obtain ⟨a167,h⟩:=h;simp [-Q0,-Q7,-Q1,-Q8,-Q2,at_L a164,(show (Is (rx b2 s137.2))[1]? = some [iV (ix (rx b2 s137.2) 1)] from at_I (j:=1) a165),at_L a166,(show (Is (rx b2 s162.2))[0]? = some [iV (ix (rx b2 s162.2) 0)] from at_I (j:=0) a167)];(repeat refine sdQ ?_);refine hK _ ?_;clear hK K;refine tn ?_;refine Q9 (st':=⟨[(2,.adr 0 0 0),(5,.adr 1 0 0),(6,.own 2 0 v1.length),(7,.own 3 0 b2.length),(12,.adr 4 0 0),(14,iV s137.2),(15,.own 9 0 s162.1.length),(16,iV s162.2),(17,iV (-1)),(126,.val (.bool ((ix (rx b2 s137.2) 1) == (ix (rx b2 s162.2) 0))))],[(0,.mix 5 [[iV 0,.val (.slice none 0 0),.val (.slice none 0 0),.val (.slice none 0 0),.val (.slice none 0 0)]]),(1,.mix 5 [(Cat.cells true m_.f.s)]),(2,.row 1 (Ls v1)),(3,.row 1 (Ls b2)),(4,.mix 5 [[iV (v1.length:Int),.own 5 0 v72.length,.own 6 0 v73.length,.own 7 0 b74.length,.own 8 0 s137.1.length]]),(5,rI v72),(6,rI v73),(7,rI b74),(8,.row 1 (Ls s137.1)),(9,rI s162.1)],10⟩) (Ql [(0,0),(1,1),(2,2),(3,3),(4,4),(5,5),(6,6),(7,7),(8,8),(9,9)]) ?_;replace h:=bind_some h;obtain ⟨e168,h,h168⟩:=h;refine Qj (fun b168:Int=>⟨[(2,.adr 0 0 0),(5,.adr 1 0 0),(6,.own 2 0 v1.length),(7,.own 3 0 b2.length),(12,.adr 4 0 0),(14,iV s137.2),(15,.own 9 0 s162.1.length),(16,iV s162.2),(17,iV b168)],[(0,.mix 5 [[iV 0,.val (.slice none 0 0),.val (.slice none 0 0),.val (.slice none 0 0),.val (.slice none 0 0)]]),(1,.mix 5 [(Cat.cells true m_.f.s)]),(2,.row 1 (Ls v1)),(3,.row 1 (Ls b2)),(4,.mix 5 [[iV (v1.length:Int),.own 5 0 v72.length,.own 6 0 v73.length,.own 7 0 b74.length,.own 8 0 s137.1.length]]),(5,rI v72),(6,rI v73),(7,rI b74),(8,.row 1 (Ls s137.1)),(9,rI s162.1)],10⟩) (fun b168=>b168=e168) ?_ ?_
     ·refine Qd rfl (fun g=>?_) fun g=>?_
      ·have g169:(ix (rx b2 s137.2) 1)=(ix (rx b2 s162.2) 0):=gQ;clear g;replace h:=if_l g169 h;refine runQ hN fun K hK=>?_;replace h:=Q6 h;obtain ⟨a170,h⟩:=h;replace h:=Q6 h;obtain ⟨a171,h⟩:=h;replace h:=Q6 h;obtain ⟨a172,h⟩:=h;replace h:=Q6 h;obtain ⟨a173,h⟩:=h;replace h:=Q6 h;obtain ⟨a174,h⟩:=h;replace h:=Q6 h;obtain ⟨a175,h⟩:=h;replace h:=Q6 h;obtain ⟨a176,h⟩:=h;replace h:=Q6 h;obtain ⟨a177,h⟩:=h;simp [-Q0,-Q7,-Q1,-Q8,-Q2,at_L a170,(show (Is (rx b2 s137.2))[0]? = some [iV (ix (rx b2 s137.2) 0)] from at_I (j:=0) a171),at_L a172,(show (Is (rx b2 s162.2))[1]? = some [iV (ix (rx b2 s162.2) 1)] from at_I (j:=1) a173),at_L a174,(show (Is (rx b2 s137.2))[2]? = some [iV (ix (rx b2 s137.2) 2)] from at_I (j:=2) a175),at_L a176,(show (Is (rx b2 s162.2))[2]? = some [iV (ix (rx b2 s162.2) 2)] from at_I (j:=2) a177)];(repeat with_reducible refine sdQ ?_);replace h:=bind_some h;obtain ⟨v178,hv178,h⟩:=h;refine Q3 (Q14 _ _ _ v178 hv178) (.cons (.aggL (.cons .val (.cons .lst (.cons .lst (.cons .lst (.cons .lst .nil)))))) (.cons .val (.cons .val .nil))) ?_;simp [-Q0,-Q7,-Q1,-Q8,-Q2,unk,unA,unE,unT,unC,flat,at_L a170,at_L a172,at_L a174,at_L a176];(repeat with_reducible refine sdQ ?_);replace h:=bind_some h;obtain ⟨v179,hv179,h⟩:=h;refine Q3 (Q2V _ _ v179 hv179) (.cons (.whole (by simp) (by simp) (by simp)) (.cons (.lits (es:=_) rfl (.cons rfl (.cons .val .nil) (.cons rfl (.cons .val .nil) (.cons rfl (.cons .val .nil) .nil))) rfl) .nil)) ?_;simp [-Q0,-Q7,-Q1,-Q8,-Q2,unk,unA,unE,unT,unC,flat,at_L a170,at_L a172,at_L a174,at_L a176];(repeat refine sdQ ?_);refine hK _ ?_;clear hK K;exact jn (b:=v179) (Option.some.inj h) (Ql [(0,0),(1,1),(2,2),(3,3),(4,4),(5,5),(6,6),(7,7),(8,8),(9,9)])
      have g169:¬ ((ix (rx b2 s137.2) 1)=(ix (rx b2 s162.2) 0)):=gQ;clear g;replace h:=if_r g169 h;refine Qe ?_;exact jn (b:=(-1)) (Option.some.inj h) (Ql [(0,0),(1,1),(2,2),(3,3),(4,4),(5,5),(6,6),(7,7),(8,8),(9,9)])
     intro b168 hb168;have h:=h168;(try rw [← hb168] at h);clear h168;(try dsimp only at h);refine runQ hN fun K hK=>?_;replace h:=Q6 h;obtain ⟨a180,h⟩:=h;(try simp only [List.length_append,List.length_cons,List.length_nil] at a180);simp [-Q0,-Q7,-Q1,-Q8,-Q2,a180];(repeat refine sdQ ?_);refine hK _ ?_;clear hK K;refine bn ?_;refine tn ?_;refine Q9 (st':=⟨[(2,.adr 0 0 0),(5,.adr 1 0 0),(6,.own 2 0 v1.length),(7,.own 3 0 b2.length),(12,.adr 4 0 0),(14,iV s137.2),(15,.own 9 0 ((s162.1++[b168]).length)),(16,iV s162.2)],[(0,.mix 5 [[iV 0,.val (.slice none 0 0),.val (.slice none 0 0),.val (.slice none 0 0),.val (.slice none 0 0)]]),(1,.mix 5 [(Cat.cells true m_.f.s)]),(2,.row 1 (Ls v1)),(3,.row 1 (Ls b2)),(4,.mix 5 [[iV (v1.length:Int),.own 5 0 v72.length,.own 6 0 v73.length,.own 7 0 b74.length,.own 8 0 s137.1.length]]),(5,rI v72),(6,rI v73),(7,rI b74),(8,.row 1 (Ls s137.1)),(9,rI (s162.1++[b168]))],10⟩) (Ql [(0,0),(1,1),(2,2),(3,3),(4,4),(5,5),(6,6),(7,7),(8,8),(11,9)]) ?_;refine runQ hN fun K hK=>?_;replace h:=Q6 h;obtain ⟨a181,h⟩:=h;simp [-Q0,-Q7,-Q1,-Q8,-Q2,Qu a181];(repeat refine sdQ ?_);refine hK _ ?_;clear hK K;cases h;exact rn (s':=(s162.1++[b168],s162.2+1)) hk162 (Ql [(0,0),(1,1),(2,2),(3,3),(4,4),(5,5),(6,6),(7,7),(8,8),(9,9)])
    have g163:¬ (s162.2<(b2.length:Int)):=gQ;clear g;replace h:=if_r g163 h;refine Qp ?_;refine tx ?_;refine lx ?_;refine bh ?_;cases h;exact jn (b:=s162.1) hk162 (Ql [(0,0),(1,1),(2,2),(3,3),(4,4),(5,5),(6,6),(7,7),(8,8),(9,9)])
   intro b142 hb142;have h:=h142;(try rw [← hb142] at h);clear h142;(try dsimp only at h);refine runQ hN fun K hK=>?_;replace h:=Q6 h;obtain ⟨a182,h⟩:=h;(try simp only [List.length_append,List.length_cons,List.length_nil] at a182);simp [-Q0,-Q7,-Q1,-Q8,-Q2,a182];(repeat refine sdQ ?_);refine hK _ ?_;clear hK K;refine bn ?_;refine tn ?_;refine Q9 (st':=⟨[(2,.adr 0 0 0),(5,.adr 1 0 0),(6,.own 2 0 v1.length),(7,.own 3 0 b2.length),(12,.adr 4 0 0),(14,iV s137.2)],[(0,.mix 5 [[iV 0,.val (.slice none 0 0),.val (.slice none 0 0),.val (.slice none 0 0),.val (.slice none 0 0)]]),(1,.mix 5 [(Cat.cells true m_.f.s)]),(2,.row 1 (Ls v1)),(3,.row 1 (Ls b2)),(4,.mix 5 [[iV (v1.length:Int),.own 5 0 v72.length,.own 6 0 v73.length,.own 7 0 b74.length,.own 8 0 ((s137.1++[b142]).length)]]),(5,rI v72),(6,rI v73),(7,rI b74),(8,.row 1 (Ls (s137.1++[b142])))],9⟩) (Ql [(0,0),(1,1),(2,2),(3,3),(4,4),(5,5),(6,6),(7,7),(11,8)]) ?_;refine runQ hN fun K hK=>?_;replace h:=Q6 h;obtain ⟨a183,h⟩:=h;simp [-Q0,-Q7,-Q1,-Q8,-Q2,Qu a183];(repeat refine sdQ ?_);refine hK _ ?_;clear hK K;cases h;exact rn (s':=(s137.1++[b142],s137.2+1)) hk137 (Ql [(0,0),(1,1),(2,2),(3,3),(4,4),(5,5),(6,6),(7,7),(8,8)])
  have g141:¬ (b138=true):=gQ;clear g;replace h:=if_r g141 h;refine Qp ?_;refine tx ?_;refine lx ?_;refine bh ?_;cases h;exact jn (b:=s137.1) hk137 (Ql [(0,0),(2,1),(3,2),(4,3),(5,4),(6,5),(7,6),(8,7)])
 intro b90 hb90;have h:=h90;try rw [← hb90] at h
 clear h90;try dsimp only at h
 refine Q5 ?_;refine runQ hN fun K hK=>?_;simp [-Q0,-Q7,-Q1,-Q8,-Q2];repeat refine sdQ ?_
 refine hK _ ?_;clear hK K;refine tn ?_;refine Q9 (st':=⟨[(2,.adr 0 0 0),(3,.own 5 0 v1.length),(4,.own 6 0 b2.length)],[(0,.mix 5 [[iV (v1.length:Int),.own 1 0 v72.length,.own 2 0 v73.length,.own 3 0 b74.length,.own 4 0 b90.length]]),(1,rI v72),(2,rI v73),(3,rI b74),(4,.row 1 (Ls b90)),(5,.row 1 (Ls v1)),(6,.row 1 (Ls b2))],7⟩) (Ql [(0,0),(4,1),(5,2),(6,3),(7,4),(1,5),(2,6)]) ?_;refine Qi ?_;have hr:=Option.some.inj h;rw [← hr];refine ⟨_,(.cell tf_31 rfl rfl rfl (by simp) (by simp) (.tmp (.tmp .nil))),?_⟩;refine ⟨(.agg rfl (.one rfl rfl (.one rfl rfl .nil))),[iV (v1.length:Int),lI v72,lI v73,lI b74,.lst true 1 (Ls b90),.lst true 1 (Ls v1),.lst true 1 (Ls b2)],[1,2,3,4,5,6],by simp [Cat.cells,Mnd.cells,UA,U1,IA,I1,LA,L1,BA,B1,EA,E1,E2,eB,eI,eL],by simp,(UpL.refl _)⟩
theorem al_bnd {m:Mnd} (hm:m.Is):(alL m).length≤5000000:=by
 have h1:=Q7P hm (av m).length;have h2:=Q71 hm;have:(av m).length * 12800≤320 * 12800:=Nat.mul_le_mul_right _ h2;unfold alL;omega
theorem Q5C {L:List (List Int)} {k:Int} (hn:L.length≤5000000) (h0:0≤k) (hx:∀ x∈L,k<x.length):QY L k=some (L.map (ix · k)):=by
 unfold QY;refine QN L.length (fun i=>(L.take i).map (ix · k)) (e:=L.map (ix · k)) (by simp) (by omega) (fun i hi=>?_) (by simp) rfl;have h1:=hx _ (Q6c hi);have h2:=take_rx hi;simp (disch:=omega) [Qa,B64,h2];try omega
theorem Q5D {L:List (List Int)} (hn:L.length≤5000000) (x:List Int):Q1t L x=some (posL L x):=by
 unfold Q1t Q3w posL;refine Q8N L.length (fun i=>rx L i=x) (eb:=fun i=>Sum.inr (i:Int)) (eg:=Sum.inl ()) (by omega) (fun i hi h=>?_) (fun i hi h=>?_) (by simp) (fun m hm hp hlt=>?_) fun h=>?_
 ·rw [if_pos (by omega),Qa (by omega)];simp only [Option.bind_some,decide_eq_true_eq,if_neg h];rw [Qa (by unfold B64;omega)]
 ·rw [if_pos (by omega),Qa (by omega)];simp only [Option.bind_some,decide_eq_true_eq,if_pos h]
 ·simp only;rw [fstN_at hm hp hlt]
 simp only;rw [fstN_no h]
theorem ix_map {L:List (List Int)} {i:Nat} (hi:i<L.length) (k:Int):ix (L.map (ix · k)) i=ix (rx L i) k:=by simp [ix,rx,List.getD_eq_getElem?_getD,hi]
noncomputable def bRow (L:List (List Int)) (cmp:List Int→List Int→Int) (i j:Nat):Int:=if ix (rx L i) 1=ix (rx L j) 0 then posL L [ix (rx L i) 0,ix (rx L j) 1,cmp (rx L i) (rx L j)] else -1
noncomputable def aCmp (m:Mnd) (a b:List Int):Int:=ix (rx m.f.s.cs (ix a 2)) (ix b 2)
theorem e_avl {m:Mnd} (hm:m.Is):Q2I m=some (avL m):=e_l17All hm
theorem Q9g {m:Mnd} (hm:m.Is):Q2q m=some (if (av m).length≤8∧(alL m).length≤40 then aC m else { aC m with cs:=[] },avL m,alL m):=by
 obtain ⟨l1,l2,l3,l4,l5,l6,l7,l8,l9⟩:=hm.pre.len;have hc:=hm.pre.f.s;have hav:=Q71 hm;have hlen:=al_bnd hm;have hal:(avL m).length=(av m).length:=by rw [Q70];simp
 have c0:=Q5C (L:=alL m) (k:=0) hlen (by omega) fun x hx=>by rw [al3 x hx];omega
 have c1:=Q5C (L:=alL m) (k:=1) hlen (by omega) fun x hx=>by rw [al3 x hx];omega
 unfold Q2q;rw [e_avl hm];simp only [Option.bind_some,hal];refine QN (av m).length (fun i=>alN m i) (e:=alL m) rfl (by omega) (fun i hi=>?_) (by simp [alL];try omega) ?_
 ·have hL:=Q7P hm i;have hL2:i * 12800≤320 * 12800:=Nat.mul_le_mul_right _ (by omega);simp only;rw [if_pos (by omega)];simp only [Option.bind_assoc];refine QN (av m).length (fun k=>alN m i++alX m i k) (e:=alN m (i+1)) (by simp [alX]) (by omega) (fun k hk=>?_) (by simp [Q6x];try omega) ?_
  ·have hX:=Q7Q m (by omega) i k;have hX2:k * 40≤320 * 40:=Nat.mul_le_mul_right _ (by omega);simp only;rw [if_pos (by omega),Qa (by omega),Qa (by omega),(e_amp hm (s:=i) (t:=k) (by omega) (by omega)).1];simp only [Option.bind_some,Option.bind_assoc];have hH:(amp m i k).length≤40:=Nat.le_trans (Q4i _ _ _ _ _) (by omega);refine QN (amp m i k).length (fun j=>(alN m i++alX m i k)++((amp m i k).take j).map fun f=>[(i:Int),(k:Int),f]) (e:=alN m i++alX m i (k+1)) (by simp) (by omega) (fun j hj=>?_) (by simp [Q6y,alF]) ?_
   ·have hs:(amp m i k).take (j+1)=(amp m i k).take j++[ix (amp m i k) j]:=(by rw [List.take_succ_eq_append_getElem hj,Q1G _ _ hj]);simp (disch:=omega) [Qa,B64,hs,hj];try omega
   (try simp only [Option.bind_some]);rw [Qa (by unfold B64;omega)]
  try simp only [Option.bind_some]
  rw [Qa (by unfold B64;omega)]
 rw [c0,c1];simp only [Option.bind_some];refine Q3A (av m).length (fun s=>posL (alL m) [(s:Int),(s:Int),ix m.f.s.id (gx (av m) s).x_]) (e:=tab (av m).length fun s=>posL (alL m) [(s:Int),(s:Int),ix m.f.s.id (gx (av m) s).x_]) (by omega) (fun i hi=>?_) (by simp;try omega) ?_
 ·have hx:=(gxm hm (s:=i) (by omega)).x;have ei:=Q58 hi;have e0:ix (rx (avL m) i) 0=(gx (av m) i).x_:=by rw [ei];rfl
  simp only;rw [if_pos (by omega),Qa (by omega),Qa (by rw [ei];simp),e0,Qa (by omega),Q5D hlen];rfl
 by_cases h40:(av m).length≤8∧(alL m).length≤40
 ·rw [if_pos h40];refine QN (alL m).length (fun i=>tab i fun i=>tab (alL m).length (bRow (alL m) (aCmp m) i)) (e:=(aC m).cs) rfl (by omega) (fun i hi=>?_) (by simp;rfl) (by simp [aC,bC]);simp only;rw [if_pos (by omega),Q6H];rw [QP (by simp only [List.length_map];omega)];simp only [Option.bind_some,if_true];obtain ⟨x,y,f,hx,hy,hf,hi3⟩:=Q8B hi;have fa:=(Q4l hf).1;refine QN (alL m).length (fun j=>tab j (bRow (alL m) (aCmp m) i)) (e:=tab (alL m).length (bRow (alL m) (aCmp m) i)) rfl (by omega) (fun j hj=>?_) (by simp) ?_
  ·obtain ⟨y',z,g,hy',hz,hg,hj3⟩:=Q8B hj;have ga:=(Q4l hg).1;simp only;rw [if_pos (by omega),Qa (by omega),Qa (by rw [hi3];simp),Qa (by omega),Qa (by rw [hj3];simp),Q4O]
   by_cases e:ix (rx (alL m) i) 1=ix (rx (alL m) j) 0
   ·have q:bRow (alL m) (aCmp m) i j=posL (alL m) [ix (rx (alL m) i) 0,ix (rx (alL m) j) 1,ix (rx m.f.s.cs (ix (rx (alL m) i) 2)) (ix (rx (alL m) j) 2)]:=(by unfold bRow;rw [if_pos e];rfl);rw [if_pos e,Qa (by omega),Qa (by rw [hi3];simp),Qa (by omega),Qa (by rw [hj3];simp),Qa (by omega),Qa (by rw [hi3];simp),Qa (by omega),Qa (by rw [hj3];simp),q];have e':y=y':=(by rw [hi3,hj3] at e;simpa [ix] using e);subst e';have b:=Ar.thn hc (f:=ix (rx (alL m) i) 2) (g:=ix (rx (alL m) j) 2) (by rw [hi3];exact fa) (by rw [hj3];exact ga);rw [b.1];simp only [Option.bind_some];rw [Q5D hlen];simp only [Option.bind_some];rw [Qa (by simp;omega),Qa (by unfold B64;omega)]
   have q:bRow (alL m) (aCmp m) i j = -1:=(by unfold bRow;rw [if_neg e]);rw [if_neg e,q];simp only [Option.bind_some];rw [Qa (by simp;omega),Qa (by unfold B64;omega)]
  try simp only
  rw [Qa (by simp;omega),Qa (by unfold B64;omega),Q4O]
 rw [if_neg h40];refine QN 0 (fun _=>[]) (e:=[]) rfl (by omega) (fun i hi=>by omega) ?_ (by simp [aC,bC]);simp only
 by_cases h0:(0:Int)<((alL m).length:Int)
 ·rw [if_pos (by simpa using h0),Q6H,QA (by simp only [List.length_map];omega)];simp
 rw [if_neg (by simpa using h0)];simp
attribute [local simp] eL eI Qo Q1v Qh Mnd.cells XAlgebras.cells
attribute [local simp] Q4 Qh XAlgebra.cells XAlgebras.cells
noncomputable def QM (k_:XAlgebras) (i_:Int) (j_:Int) (f_:Int):Option Int :=
 (Q50 [[i_,j_,f_]]).bind fun v1 =>
 some ((Q3H v1 k_.at_).getD 0)
theorem Q1F (k_:XAlgebras) (i_:Int) (j_:Int) (f_:Int) (r:Int) (h:QM k_ i_ j_ f_=some r):Contract Tryz.prog 65 [.rptr (k_.cells true),iV i_,iV j_,iV f_] (iV r):=by
 refine Qf (rvs:=[.tmp 8]) (rs:=[iV r]) Tryz.func65 rfl rfl rfl rfl (by simp [Tryz.f65]) fun F hN hP=>?_;unfold QM at h;refine Q5 ?_;refine runQ hN fun K hK=>?_;simp [-Q0,-Q7,-Q1,-Q8,-Q2];repeat refine sdQ ?_
 refine hK _ ?_;clear hK K;refine tn ?_;refine Q9 (st':=⟨[(0,.rptr [.rptr (Mnd.cells true k_.m_),iV k_.category_.n,lI k_.category_.fr,lI k_.category_.to,lI k_.category_.id,.lst true 1 (Ls k_.category_.cs),.lst true 1 (Es Q4 k_.objects_),.lst true 1 (Ls k_.arrows_),.cmap .str (Msi k_.at_)]),(1,iV i_),(2,iV j_),(3,iV f_)],[],0⟩) (Ql []) ?_;refine Q5 ?_;refine Qv [] mo (by rw [hN];decide) fun K hK=>?_;simp [-Q0,-Q7,-Q1,-Q8,-Q2];repeat with_reducible refine sdQ ?_
 replace h:=bind_some h;obtain ⟨v1,hv1,h⟩:=h;refine QL (fz:=[]) (w_i_key _ v1 hv1) (.cons (.lits (es:=_) rfl (.cons rfl (.cons (.lits (es:=_) rfl (.cons rfl (.cons .val .nil) (.cons rfl (.cons .val .nil) (.cons rfl (.cons .val .nil) .nil))) rfl) .nil) .nil) rfl) .nil) ?_;simp [-Q0,-Q7,-Q1,-Q8,-Q2,unk,unA,unE,unT,unC,flat];repeat refine sdQ ?_
 refine hK _ ?_;clear hK K;refine tn ?_;refine Q9 (st':=⟨[(8,iV ((Q3H v1 k_.at_).getD 0))],[],0⟩) (Ql []) ?_;refine Qi ?_;have hr:=Option.some.inj h;rw [← hr];refine ⟨_,(.tmp .nil),?_⟩;refine ⟨(.one rfl rfl .nil),[iV ((Q3H v1 k_.at_).getD 0)],[],by simp [Mnd.cells,XAlgebras.cells,UA,U1,IA,I1,LA,L1,BA,B1,EA,E1,E2,eB,eI,eL,Qm _ Q4 _ (fun _=>rfl),Qm _ Qh _ (fun _=>rfl)],by simp,(UpL.refl _)⟩
attribute [local simp] eL eI Qo QH Q1v Qh Cat.cells Mnd.cells XAlgebras.cells
attribute [local simp] Q4 Qh XAlgebra.cells XAlgebras.cells
noncomputable def QU (f_:Int) (g_:Int) (c0_:XAlgebras) (c1_:Cat):Option Int :=
 ass (0≤f_∧f_<(c0_.arrows_.length:Int)) <|
 ass (0≤g_∧g_<(c0_.arrows_.length:Int)) <|
 ass ((0:Int)≤0∧0<((rx c0_.arrows_ f_).length:Int)) <|
 ass ((0:Int)≤1∧1<((rx c0_.arrows_ g_).length:Int)) <|
 ass ((0:Int)≤2∧2<((rx c0_.arrows_ f_).length:Int)) <|
 ass ((0:Int)≤2∧2<((rx c0_.arrows_ g_).length:Int)) <|
 (Qn c1_ (ix (rx c0_.arrows_ f_) 2) (ix (rx c0_.arrows_ g_) 2)).bind fun v7 =>
 (QM c0_ (ix (rx c0_.arrows_ f_) 0) (ix (rx c0_.arrows_ g_) 1) v7).bind fun v8 =>
 some v8
theorem Q2C (f_:Int) (g_:Int) (c0_:XAlgebras) (c1_:Cat) (r:Int) (h:QU f_ g_ c0_ c1_=some r):Contract Tryz.prog 104 [iV f_,iV g_,.rptr [.rptr [.rptr (Mnd.cells true c0_.m_),iV c0_.category_.n,lI c0_.category_.fr,lI c0_.category_.to,lI c0_.category_.id,.lst true 1 (Ls c0_.category_.cs),.lst true 1 (Es Q4 c0_.objects_),.lst true 1 (Ls c0_.arrows_),.cmap .str (Msi c0_.at_)]],.rptr [.rptr (Cat.cells true c1_)]] (iV r):=by
 refine Qf (rvs:=[.tmp 6]) (rs:=[iV r]) Tryz.func104 rfl rfl rfl rfl (by simp [Tryz.f104]) fun F hN hP=>?_;unfold QU at h;refine Q5 ?_;refine runQ hN fun K hK=>?_;simp [-Q0,-Q7,-Q1,-Q8,-Q2];repeat refine sdQ ?_
 refine hK _ ?_;clear hK K;refine tn ?_;refine Q9 (st':=⟨[(0,iV f_),(1,iV g_),(2,.rptr [.rptr [.rptr (Mnd.cells true c0_.m_),iV c0_.category_.n,lI c0_.category_.fr,lI c0_.category_.to,lI c0_.category_.id,.lst true 1 (Ls c0_.category_.cs),.lst true 1 (Es Q4 c0_.objects_),.lst true 1 (Ls c0_.arrows_),.cmap .str (Msi c0_.at_)]]),(3,.rptr [.rptr (Cat.cells true c1_)])],[],0⟩) (Ql []) ?_;refine Q5 ?_;refine runQ hN fun K hK=>?_;replace h:=Q6 h;obtain ⟨a1,h⟩:=h;replace h:=Q6 h;obtain ⟨a2,h⟩:=h;simp [-Q0,-Q7,-Q1,-Q8,-Q2,at_L a1,at_L a2];repeat refine sdQ ?_
 refine hK _ ?_;clear hK K;refine tn ?_;refine Q9 (st':=⟨[(2,.rptr [.rptr [.rptr (Mnd.cells true c0_.m_),iV c0_.category_.n,lI c0_.category_.fr,lI c0_.category_.to,lI c0_.category_.id,.lst true 1 (Ls c0_.category_.cs),.lst true 1 (Es Q4 c0_.objects_),.lst true 1 (Ls c0_.arrows_),.cmap .str (Msi c0_.at_)]]),(3,.rptr [.rptr (Cat.cells true c1_)]),(7,lI (rx c0_.arrows_ f_)),(8,lI (rx c0_.arrows_ g_))],[],0⟩) (Ql []) ?_;refine Q5 ?_;refine runQ hN fun K hK=>?_;replace h:=Q6 h;obtain ⟨a3,h⟩:=h;replace h:=Q6 h;obtain ⟨a4,h⟩:=h;replace h:=Q6 h;obtain ⟨a5,h⟩:=h;replace h:=Q6 h;obtain ⟨a6,h⟩:=h;simp [-Q0,-Q7,-Q1,-Q8,-Q2,(show (Is (rx c0_.arrows_ f_))[0]? = some [iV (ix (rx c0_.arrows_ f_) 0)] from at_I (j:=0) a3),(show (Is (rx c0_.arrows_ g_))[1]? = some [iV (ix (rx c0_.arrows_ g_) 1)] from at_I (j:=1) a4),(show (Is (rx c0_.arrows_ f_))[2]? = some [iV (ix (rx c0_.arrows_ f_) 2)] from at_I (j:=2) a5),(show (Is (rx c0_.arrows_ g_))[2]? = some [iV (ix (rx c0_.arrows_ g_) 2)] from at_I (j:=2) a6)];repeat with_reducible refine sdQ ?_
 replace h:=bind_some h;obtain ⟨v7,hv7,h⟩:=h;refine Q3 (QB _ _ _ v7 hv7) (.cons (.preT (by simp [Cat.cells,Mnd.cells,XAlgebras.cells])) (.cons .val (.cons .val .nil))) ?_;simp [-Q0,-Q7,-Q1,-Q8,-Q2,unk,unA,unE,unT,unC,flat];repeat with_reducible refine sdQ ?_
 replace h:=bind_some h;obtain ⟨v8,hv8,h⟩:=h;refine Q3 (Q1F _ _ _ _ v8 hv8) (.cons (.preT (by simp [Cat.cells,Mnd.cells,XAlgebras.cells])) (.cons .val (.cons .val (.cons .val .nil)))) ?_;simp [-Q0,-Q7,-Q1,-Q8,-Q2,unk,unA,unE,unT,unC,flat];repeat refine sdQ ?_
 refine hK _ ?_;clear hK K;refine tn ?_;refine Q9 (st':=⟨[(6,iV v8)],[],0⟩) (Ql []) ?_;refine Qi ?_;have hr:=Option.some.inj h;rw [← hr];refine ⟨_,(.tmp .nil),?_⟩;refine ⟨(.one rfl rfl .nil),[iV v8],[],by simp [Cat.cells,Mnd.cells,XAlgebras.cells,UA,U1,IA,I1,LA,L1,BA,B1,EA,E1,E2,eB,eI,eL,Qm _ Q4 _ (fun _=>rfl),Qm _ Qh _ (fun _=>rfl)],by simp,(UpL.refl _)⟩
attribute [local simp] eL eI Qo QH Q1v Q4 Qh Cat.cells Mnd.cells XAlgebra.cells XAlgebras.cells
noncomputable def Q1g (m_:Mnd):Option (Unit ⊕ (Int × List Int × List Int × List Int × List (List Int) × List XAlgebra × List (List Int) × (List (ByteArray × Int)))) :=
 (QT m_).bind fun v2 =>
 if (v2.length:Int) > 8 then
  some (Sum.inl ())
 else
  (QE (σ:=List (List Int) × Int) (ε:=List (List Int)) (fun s38 =>
   if s38.2<(v2.length:Int) then
    (
     ass (0≤s38.2∧s38.2<(v2.length:Int)) <|
     (QE (σ:=List (List Int) × Int) (ε:=List (List Int)) (fun s56 =>
      if s56.2<(v2.length:Int) then
       (
        ass (0≤s56.2∧s56.2<(v2.length:Int)) <|
        (QS m_ (gx v2 s38.2) (gx v2 s56.2)).bind fun v60 =>
        (QE (σ:=List (List Int) × Int) (ε:=List (List Int)) (fun s65 =>
         if s65.2<(v60.length:Int) then
          ass (0≤s65.2∧s65.2<(v60.length:Int)) <|
          ass ((s65.1++[[s38.2,s56.2,ix v60 s65.2]]).length≤1073741824) <|
          ass (B64 (s65.2+1)) <|
          some (Ctl.next (s65.1++[[s38.2,s56.2,ix v60 s65.2]],s65.2+1))
         else
          some (Ctl.ret s65.1)) fuel (s56.1,0)).bind fun p65 =>
        some p65:Option (List (List Int))).bind fun b58 =>
       ass (B64 (s56.2+1)) <|
       some (Ctl.next (b58,s56.2+1))
      else
       some (Ctl.ret s56.1)) fuel (s38.1,0)).bind fun p56 =>
     some p56:Option (List (List Int))).bind fun b40 =>
    ass (B64 (s38.2+1)) <|
    some (Ctl.next (b40,s38.2+1))
   else
    some (Ctl.ret s38.1)) fuel ([],0)).bind fun b4 =>
  if (b4.length:Int) > 40 then
   some (Sum.inl ())
  else
   (Q3j b4).bind fun v73 =>
   (Q2c b4 0).bind fun v74 =>
   (Q2c b4 1).bind fun v75 =>
   (QE (σ:=List Int × Int) (ε:=List Int) (fun s83 =>
    if s83.2<(v2.length:Int) then
     ass (0≤s83.2∧s83.2<(v2.length:Int)) <|
     ass (0≤(gx v2 s83.2).x_∧(gx v2 s83.2).x_<(m_.f.s.id.length:Int)) <|
     (QM (⟨m_,(⟨(v2.length:Int),v74,v75,s83.1,[]⟩:Cat),v2,b4,v73⟩:XAlgebras) s83.2 s83.2 (ix m_.f.s.id ((gx v2 s83.2).x_))).bind fun v87 =>
     ass ((s83.1++[v87]).length≤1073741824) <|
     ass (B64 (s83.2+1)) <|
     some (Ctl.next (s83.1++[v87],s83.2+1))
    else
     some (Ctl.ret s83.1)) fuel ([],0)).bind fun b76 =>
   (
    (Qs (⟨(v2.length:Int),v74,v75,b76,[]⟩:Cat)).bind fun v91 =>
    ass (0≤v91∧v91≤1073741824) <|
    (QE (σ:=List (List Int) × Int) (ε:=List (List Int)) (fun s122 =>
     if s122.2<((List.replicate v91.toNat ([]:List Int)).length:Int) then
      (
       ass (0≤v91∧v91≤1073741824) <|
       ass (0≤s122.2∧s122.2<(s122.1.length:Int)) <|
       ass (0≤s122.2∧s122.2<((s122.1.set s122.2.toNat (List.replicate v91.toNat 0)).length:Int)) <|
       (QE (σ:=List (List Int) × Int) (ε:=List (List Int)) (fun s139 =>
        if s139.2<((rx (s122.1.set s122.2.toNat (List.replicate v91.toNat 0)) s122.2).length:Int) then
         (
          ass (0≤s122.2∧s122.2<(s139.1.length:Int)) <|
          ass (0≤s139.2∧s139.2<((rx s139.1 s122.2).length:Int)) <|
          ass (0≤s122.2∧s122.2<(v75.length:Int)) <|
          ass (0≤s139.2∧s139.2<(v74.length:Int)) <|
          if (ix v75 s122.2)=(ix v74 s139.2) then
           ass (0≤s122.2∧s122.2<((s139.1.set s122.2.toNat ((rx s139.1 s122.2).set s139.2.toNat (-1))).length:Int)) <|
           (QU s122.2 s139.2 (⟨m_,(⟨(v2.length:Int),v74,v75,b76,s139.1.set s122.2.toNat ((rx s139.1 s122.2).set s139.2.toNat (-1))⟩:Cat),v2,b4,v73⟩:XAlgebras) m_.f.s).bind fun v148 =>
           ass (0≤s139.2∧s139.2<((rx (s139.1.set s122.2.toNat ((rx s139.1 s122.2).set s139.2.toNat (-1))) s122.2).length:Int)) <|
           some ((s139.1.set s122.2.toNat ((rx s139.1 s122.2).set s139.2.toNat (-1))).set s122.2.toNat ((rx (s139.1.set s122.2.toNat ((rx s139.1 s122.2).set s139.2.toNat (-1))) s122.2).set s139.2.toNat v148))
          else
           some (s139.1.set s122.2.toNat ((rx s139.1 s122.2).set s139.2.toNat (-1))):Option (List (List Int))).bind fun b141 =>
         ass (B64 (s139.2+1)) <|
         some (Ctl.next (b141,s139.2+1))
        else
         some (Ctl.ret s139.1)) fuel (s122.1.set s122.2.toNat (List.replicate v91.toNat 0),0)).bind fun p139 =>
       some p139:Option (List (List Int))).bind fun b124 =>
      ass (B64 (s122.2+1)) <|
      some (Ctl.next (b124,s122.2+1))
     else
      some (Ctl.ret s122.1)) fuel (List.replicate v91.toNat ([]:List Int),0)).bind fun p122 =>
    some p122:Option (List (List Int))).bind fun v152 =>
   some (Sum.inr ((v2.length:Int),v74,v75,b76,v152,v2,b4,v73))
theorem Q4Q (m_:Mnd) (v153:Unit ⊕ (Int × List Int × List Int × List Int × List (List Int) × List XAlgebra × List (List Int) × (List (ByteArray × Int)))) (h:Q1g m_=some v153):ICon Tryz.prog 73 [.rptr (m_.cells true)] (fun _=>none) 0 (match v153 with|.inl v153=>({ v:=.tup [.val (.pointer none),.val (.bool false)],set:=[],del:=[],new:=[],cnt:=0 }:Eff)|.inr v153=>({ v:=.tup [.adr 0 0 0,.val (.bool true)],set:=[],del:=[],new:=[(0,.mix 9 [[.rptr (Mnd.cells true m_),iV v153.1,.own 1 0 v153.2.1.length,.own 2 0 v153.2.2.1.length,.own 3 0 v153.2.2.2.1.length,.own 4 0 v153.2.2.2.2.1.length,.lst true 1 (Es Q4 v153.2.2.2.2.2.1),.own 5 0 v153.2.2.2.2.2.2.1.length,.cmap .str (Msi v153.2.2.2.2.2.2.2)]]),(1,rI v153.2.1),(2,rI v153.2.2.1),(3,rI v153.2.2.2.1),(4,.row 1 (Ls v153.2.2.2.2.1)),(5,.row 1 (Ls v153.2.2.2.2.2.2.1))],cnt:=6 }:Eff)):=by
 refine Q4q (ts:=[2,3]) (H:=[]) Tryz.func73 rfl rfl rfl (by simp [Tryz.f73]) (by simp) (fineI (by rcases v153 with v153|v153<;>simp)) (newI (by rcases v153 with v153|v153<;>rfl)) fun F hN hP=>?_;unfold Q1g at h;refine Q5 ?_;refine Qv [] mo (by rw [hN];decide) fun K hK=>?_;simp [-Q0,-Q7,-Q1,-Q8,-Q2];repeat refine sdQ ?_
 refine hK _ ?_;clear hK K;refine tn ?_;refine Q9 (st':=⟨[(0,.rptr (Mnd.cells true m_))],[],0⟩) (Ql []) ?_;refine Q5 ?_;refine Qv [] mo (by rw [hN];decide) fun K hK=>?_;simp [-Q0,-Q7,-Q1,-Q8,-Q2];repeat with_reducible refine sdQ ?_
 replace h:=bind_some h;obtain ⟨v2,hv2,h⟩:=h;refine Q74 (fz:=[]) true (Q3Z _ v2 hv2) (PurK.ofN (.cons (.preT (by simp [Mnd.cells])) .nil)) ?_;simp [-Q0,-Q7,-Q1,-Q8,-Q2,unk,unA,unE,unT,unC,flat];repeat refine sdQ ?_
 refine hK _ ?_;clear hK K;refine tn ?_;refine Q9 (st':=⟨[(0,.rptr (Mnd.cells true m_)),(4,.adr 0 0 0)],[(0,.mix 1 [[.adr 1 0 0]]),(1,.mix 9 [[.rptr (Mnd.cells true m_),iV 0,.val (.slice none 0 0),.val (.slice none 0 0),.val (.slice none 0 0),.val (.slice none 0 0),.lst true 1 (Es Q4 v2),.val (.slice none 0 0),.val (.map none)]])],2⟩) (Ql [(1,0),(0,1)]) ?_;refine Q5 ?_;refine Q5 ?_;refine Qv [] mo (by rw [hN];decide) fun K hK=>?_;simp [-Q0,-Q7,-Q1,-Q8,-Q2];repeat refine sdQ ?_
 refine hK _ ?_;clear hK K;refine tn ?_;refine Q9 (st':=⟨[(0,.rptr (Mnd.cells true m_)),(4,.adr 0 0 0),(24,.val (.bool (decide ((v2.length:Int) > 8))))],[(0,.mix 1 [[.adr 1 0 0]]),(1,.mix 9 [[.rptr (Mnd.cells true m_),iV 0,.val (.slice none 0 0),.val (.slice none 0 0),.val (.slice none 0 0),.val (.slice none 0 0),.lst true 1 (Es Q4 v2),.val (.slice none 0 0),.val (.map none)]])],2⟩) (Ql [(0,0),(1,1)]) ?_;refine Qd rfl (fun g=>?_) fun g=>?_
 ·have g3:(v2.length:Int) > 8:=gQ;clear g;replace h:=if_l g3 h;refine Q5 ?_;refine Qv [] mo (by rw [hN];decide) fun K hK=>?_;simp [-Q0,-Q7,-Q1,-Q8,-Q2];repeat refine sdQ ?_
  refine hK _ ?_;clear hK K;refine tn ?_;refine Q9 (st':=⟨[(2,.val (.pointer none)),(3,.val (.bool false))],[],0⟩) (Ql []) ?_;refine Qi ?_;refine tr ?_;cases h;try dsimp only
  first|refine iw_r (st':=⟨[(2,.val (.pointer none)),(3,.val (.bool false))],[],0⟩) ?_ ?_|refine iw_n (st':=⟨[(2,.val (.pointer none)),(3,.val (.bool false))],[],0⟩) ?_ ?_
  ·exact Wk.r1 [] (by simp [hP,hhOk,back,Cat.cells,Mnd.cells,XAlgebra.cells,XAlgebras.cells,UA,U1,IA,I1,LA,L1,BA,B1,EA,E1,E2,eB,eI,eL,Qm _ Q4 _ (fun _=>rfl),Qm _ Qh _ (fun _=>rfl)])
  exact ⟨by simp [Q1n],by simp,by simp [Cat.cells,Mnd.cells,XAlgebra.cells,XAlgebras.cells]⟩
 have g3:¬ ((v2.length:Int) > 8):=gQ;clear g;replace h:=if_r g3 h;refine Qe ?_;refine tn ?_;refine Q5 ?_;refine Q5 ?_;refine Qv [] mo (by rw [hN];decide) fun K hK=>?_;simp [-Q0,-Q7,-Q1,-Q8,-Q2];repeat refine sdQ ?_
 refine hK _ ?_;clear hK K;refine tn ?_;refine Q9 (st':=⟨[(0,.rptr (Mnd.cells true m_)),(4,.adr 0 0 0),(28,.lst true 1 (Es Q4 v2)),(29,iV (v2.length:Int)),(30,iV 0)],[(0,.mix 1 [[.adr 1 0 0]]),(1,.mix 9 [[.rptr (Mnd.cells true m_),iV 0,.val (.slice none 0 0),.val (.slice none 0 0),.val (.slice none 0 0),.val (.slice none 0 0),.lst true 1 (Es Q4 v2),.val (.slice none 0 0),.val (.map none)]])],2⟩) (Ql [(0,0),(1,1)]) ?_;replace h:=bind_some h;obtain ⟨e4,h,h4⟩:=h;refine Qj (fun b4:List (List Int)=>⟨[(0,.rptr (Mnd.cells true m_)),(4,.adr 0 0 0)],[(0,.mix 1 [[.adr 1 0 0]]),(1,.mix 9 [[.rptr (Mnd.cells true m_),iV 0,.val (.slice none 0 0),.val (.slice none 0 0),.val (.slice none 0 0),.val (.slice none 0 0),.lst true 1 (Es Q4 v2),.own 2 0 b4.length,.val (.map none)]]),(2,.row 1 (Ls b4))],3⟩) (fun b4=>b4=e4) ?_ ?_
 ·refine Qc ?_;refine Qz h (fun s38:List (List Int) × Int=>⟨[(0,.rptr (Mnd.cells true m_)),(4,.adr 0 0 0),(28,.lst true 1 (Es Q4 v2)),(29,iV (v2.length:Int)),(30,iV s38.2)],[(0,.mix 1 [[.adr 1 0 0]]),(1,.mix 9 [[.rptr (Mnd.cells true m_),iV 0,.val (.slice none 0 0),.val (.slice none 0 0),.val (.slice none 0 0),.val (.slice none 0 0),.lst true 1 (Es Q4 v2),.own 2 0 s38.1.length,.val (.map none)]]),(2,.row 1 (Ls s38.1))],3⟩) (Q2Z ⟨[(0,.rptr (Mnd.cells true m_)),(4,.adr 0 0 0),(28,.lst true 1 (Es Q4 v2)),(29,iV (v2.length:Int)),(30,iV 0)],[(0,.mix 1 [[.adr 1 0 0]]),(1,.mix 9 [[.rptr (Mnd.cells true m_),iV 0,.val (.slice none 0 0),.val (.slice none 0 0),.val (.slice none 0 0),.val (.slice none 0 0),.lst true 1 (Es Q4 v2),.own 2 0 0,.val (.map none)]]),(2,.row 1 (Ls []))],3⟩ (Wk.nils [(2,1)] (by simp) (by simp) (by simp [nlA]) (by simp [entN,nlL,nlA,Cat.cells,Mnd.cells,XAlgebra.cells,XAlgebras.cells,UA,U1,IA,I1,LA,L1,BA,B1,EA,E1,E2,eB,eI,eL,Qm _ Q4 _ (fun _=>rfl),Qm _ Qh _ (fun _=>rfl)]) (by simp)) (Ql [(0,0),(1,1),(2,2)])) ?_;clear h;intro k38 s38 c38 h hk38;refine Q5 ?_;refine Qv [] mo (by rw [hN];decide) fun K hK=>?_;simp [-Q0,-Q7,-Q1,-Q8,-Q2];repeat refine sdQ ?_
  refine hK _ ?_;clear hK K;refine tn ?_;refine Q9 (st':=⟨[(0,.rptr (Mnd.cells true m_)),(4,.adr 0 0 0),(28,.lst true 1 (Es Q4 v2)),(29,iV (v2.length:Int)),(30,iV s38.2),(31,.val (.bool (decide (s38.2<(v2.length:Int)))))],[(0,.mix 1 [[.adr 1 0 0]]),(1,.mix 9 [[.rptr (Mnd.cells true m_),iV 0,.val (.slice none 0 0),.val (.slice none 0 0),.val (.slice none 0 0),.val (.slice none 0 0),.lst true 1 (Es Q4 v2),.own 2 0 s38.1.length,.val (.map none)]]),(2,.row 1 (Ls s38.1))],3⟩) (Ql [(0,0),(1,1),(2,2)]) ?_;refine Q5 ?_;refine Qd rfl (fun g=>?_) fun g=>?_
  ·have g39:s38.2<(v2.length:Int):=gQ;clear g;replace h:=if_l g39 h;refine Qe ?_;refine tn ?_;refine Q5 ?_;replace h:=bind_some h;obtain ⟨e40,h,h40⟩:=h;refine Qj (fun b40:List (List Int)=>⟨[(0,.rptr (Mnd.cells true m_)),(4,.adr 0 0 0),(28,.lst true 1 (Es Q4 v2)),(29,iV (v2.length:Int)),(30,iV s38.2)],[(0,.mix 1 [[.adr 1 0 0]]),(1,.mix 9 [[.rptr (Mnd.cells true m_),iV 0,.val (.slice none 0 0),.val (.slice none 0 0),.val (.slice none 0 0),.val (.slice none 0 0),.lst true 1 (Es Q4 v2),.own 2 0 b40.length,.val (.map none)]]),(2,.row 1 (Ls b40))],3⟩) (fun b40=>b40=e40) ?_ ?_
   ·refine Qc ?_;refine Q5 ?_;refine Qv [] mo (by rw [hN];decide) fun K hK=>?_;replace h:=Q6 h;obtain ⟨a41,h⟩:=h;simp [-Q0,-Q7,-Q1,-Q8,-Q2,at_E (c:=Q4) a41];(repeat refine sdQ ?_);refine hK _ ?_;clear hK K;refine tn ?_;refine Q9 (st':=⟨[(0,.rptr (Mnd.cells true m_)),(4,.adr 0 0 0),(5,iV s38.2),(6,.rptr (XAlgebra.cells true (gx v2 s38.2))),(28,.lst true 1 (Es Q4 v2)),(29,iV (v2.length:Int)),(30,iV s38.2)],[(0,.mix 1 [[.adr 1 0 0]]),(1,.mix 9 [[.rptr (Mnd.cells true m_),iV 0,.val (.slice none 0 0),.val (.slice none 0 0),.val (.slice none 0 0),.val (.slice none 0 0),.lst true 1 (Es Q4 v2),.own 2 0 s38.1.length,.val (.map none)]]),(2,.row 1 (Ls s38.1))],3⟩) (Ql [(0,0),(1,1),(2,2)]) ?_;refine Q5 ?_;refine Qv [] mo (by rw [hN];decide) fun K hK=>?_;simp [-Q0,-Q7,-Q1,-Q8,-Q2];(repeat refine sdQ ?_);refine hK _ ?_;clear hK K;refine tn ?_;refine Q9 (st':=⟨[(0,.rptr (Mnd.cells true m_)),(4,.adr 0 0 0),(5,iV s38.2),(6,.rptr (XAlgebra.cells true (gx v2 s38.2))),(28,.lst true 1 (Es Q4 v2)),(29,iV (v2.length:Int)),(30,iV s38.2),(38,.lst true 1 (Es Q4 v2)),(39,iV (v2.length:Int)),(40,iV 0)],[(0,.mix 1 [[.adr 1 0 0]]),(1,.mix 9 [[.rptr (Mnd.cells true m_),iV 0,.val (.slice none 0 0),.val (.slice none 0 0),.val (.slice none 0 0),.val (.slice none 0 0),.lst true 1 (Es Q4 v2),.own 2 0 s38.1.length,.val (.map none)]]),(2,.row 1 (Ls s38.1))],3⟩) (Ql [(0,0),(1,1),(2,2)]) ?_;refine Qc ?_;replace h:=bind_some h;obtain ⟨e56,he56,h56⟩:=h;refine Qz he56 (fun s56:List (List Int) × Int=>⟨[(0,.rptr (Mnd.cells true m_)),(4,.adr 0 0 0),(5,iV s38.2),(6,.rptr (XAlgebra.cells true (gx v2 s38.2))),(28,.lst true 1 (Es Q4 v2)),(29,iV (v2.length:Int)),(30,iV s38.2),(38,.lst true 1 (Es Q4 v2)),(39,iV (v2.length:Int)),(40,iV s56.2)],[(0,.mix 1 [[.adr 1 0 0]]),(1,.mix 9 [[.rptr (Mnd.cells true m_),iV 0,.val (.slice none 0 0),.val (.slice none 0 0),.val (.slice none 0 0),.val (.slice none 0 0),.lst true 1 (Es Q4 v2),.own 2 0 s56.1.length,.val (.map none)]]),(2,.row 1 (Ls s56.1))],3⟩) (Ql [(0,0),(1,1),(2,2)]) ?_;intro k56 s56 c56 h hk56;refine Q5 ?_;refine Qv [] mo (by rw [hN];decide) fun K hK=>?_;simp [-Q0,-Q7,-Q1,-Q8,-Q2];(repeat refine sdQ ?_);refine hK _ ?_;clear hK K;refine tn ?_;refine Q9 (st':=⟨[(0,.rptr (Mnd.cells true m_)),(4,.adr 0 0 0),(5,iV s38.2),(6,.rptr (XAlgebra.cells true (gx v2 s38.2))),(28,.lst true 1 (Es Q4 v2)),(29,iV (v2.length:Int)),(30,iV s38.2),(38,.lst true 1 (Es Q4 v2)),(39,iV (v2.length:Int)),(40,iV s56.2),(41,.val (.bool (decide (s56.2<(v2.length:Int)))))],[(0,.mix 1 [[.adr 1 0 0]]),(1,.mix 9 [[.rptr (Mnd.cells true m_),iV 0,.val (.slice none 0 0),.val (.slice none 0 0),.val (.slice none 0 0),.val (.slice none 0 0),.lst true 1 (Es Q4 v2),.own 2 0 s56.1.length,.val (.map none)]]),(2,.row 1 (Ls s56.1))],3⟩) (Ql [(0,0),(1,1),(2,2)]) ?_
    refine Q5 ?_;refine Qd rfl (fun g=>?_) fun g=>?_
    ·have g57:s56.2<(v2.length:Int):=gQ;clear g;replace h:=if_l g57 h;refine Qe ?_;refine tn ?_;refine Q5 ?_;replace h:=bind_some h;obtain ⟨e58,h,h58⟩:=h;refine Qj (fun b58:List (List Int)=>⟨[(0,.rptr (Mnd.cells true m_)),(4,.adr 0 0 0),(5,iV s38.2),(6,.rptr (XAlgebra.cells true (gx v2 s38.2))),(28,.lst true 1 (Es Q4 v2)),(29,iV (v2.length:Int)),(30,iV s38.2),(38,.lst true 1 (Es Q4 v2)),(39,iV (v2.length:Int)),(40,iV s56.2)],[(0,.mix 1 [[.adr 1 0 0]]),(1,.mix 9 [[.rptr (Mnd.cells true m_),iV 0,.val (.slice none 0 0),.val (.slice none 0 0),.val (.slice none 0 0),.val (.slice none 0 0),.lst true 1 (Es Q4 v2),.own 2 0 b58.length,.val (.map none)]]),(2,.row 1 (Ls b58))],3⟩) (fun b58=>b58=e58) ?_ ?_
     ·refine Qc ?_;refine Q5 ?_;refine Qv [] mo (by rw [hN];decide) fun K hK=>?_;replace h:=Q6 h;obtain ⟨a59,h⟩:=h;simp [-Q0,-Q7,-Q1,-Q8,-Q2,at_E (c:=Q4) a59];(repeat refine sdQ ?_);refine hK _ ?_;clear hK K;refine tn ?_;refine Q9 (st':=⟨[(0,.rptr (Mnd.cells true m_)),(4,.adr 0 0 0),(5,iV s38.2),(6,.rptr (XAlgebra.cells true (gx v2 s38.2))),(7,iV s56.2),(8,.rptr (XAlgebra.cells true (gx v2 s56.2))),(28,.lst true 1 (Es Q4 v2)),(29,iV (v2.length:Int)),(30,iV s38.2),(38,.lst true 1 (Es Q4 v2)),(39,iV (v2.length:Int)),(40,iV s56.2)],[(0,.mix 1 [[.adr 1 0 0]]),(1,.mix 9 [[.rptr (Mnd.cells true m_),iV 0,.val (.slice none 0 0),.val (.slice none 0 0),.val (.slice none 0 0),.val (.slice none 0 0),.lst true 1 (Es Q4 v2),.own 2 0 s56.1.length,.val (.map none)]]),(2,.row 1 (Ls s56.1))],3⟩) (Ql [(0,0),(1,1),(2,2)]) ?_;refine Q5 ?_;refine Qv [] mo (by rw [hN];decide) fun K hK=>?_;simp [-Q0,-Q7,-Q1,-Q8,-Q2];(repeat with_reducible refine sdQ ?_);replace h:=bind_some h;obtain ⟨v60,hv60,h⟩:=h;refine QL (fz:=[]) (Q3Y _ _ _ v60 hv60) (.cons (.preT (by simp [Mnd.cells,XAlgebra.cells])) (.cons (.preT (by simp [Mnd.cells,XAlgebra.cells])) (.cons (.preT (by simp [Mnd.cells,XAlgebra.cells])) .nil))) ?_;simp [-Q0,-Q7,-Q1,-Q8,-Q2,unk,unA,unE,unT,unC,flat];(repeat refine sdQ ?_);refine hK _ ?_;clear hK K;refine tn ?_;refine Q9 (st':=⟨[(0,.rptr (Mnd.cells true m_)),(4,.adr 0 0 0),(5,iV s38.2),(6,.rptr (XAlgebra.cells true (gx v2 s38.2))),(7,iV s56.2),(28,.lst true 1 (Es Q4 v2)),(29,iV (v2.length:Int)),(30,iV s38.2),(38,.lst true 1 (Es Q4 v2)),(39,iV (v2.length:Int)),(40,iV s56.2),(48,.own 3 0 v60.length),(49,iV (v60.length:Int)),(50,iV 0)],[(0,.mix 1 [[.adr 1 0 0]]),(1,.mix 9 [[.rptr (Mnd.cells true m_),iV 0,.val (.slice none 0 0),.val (.slice none 0 0),.val (.slice none 0 0),.val (.slice none 0 0),.lst true 1 (Es Q4 v2),.own 2 0 s56.1.length,.val (.map none)]]),(2,.row 1 (Ls s56.1)),(3,rI v60)],4⟩) (Ql [(0,0),(1,1),(2,2),(3,3)]) ?_;refine Qc ?_;replace h:=bind_some h;obtain ⟨e65,he65,h65⟩:=h;refine Qz he65 (fun s65:List (List Int) × Int=>⟨[(0,.rptr (Mnd.cells true m_)),(4,.adr 0 0 0),(5,iV s38.2),(6,.rptr (XAlgebra.cells true (gx v2 s38.2))),(7,iV s56.2),(28,.lst true 1 (Es Q4 v2)),(29,iV (v2.length:Int)),(30,iV s38.2),(38,.lst true 1 (Es Q4 v2)),(39,iV (v2.length:Int)),(40,iV s56.2),(48,.own 3 0 v60.length),(49,iV (v60.length:Int)),(50,iV s65.2)],[(0,.mix 1 [[.adr 1 0 0]]),(1,.mix 9 [[.rptr (Mnd.cells true m_),iV 0,.val (.slice none 0 0),.val (.slice none 0 0),.val (.slice none 0 0),.val (.slice none 0 0),.lst true 1 (Es Q4 v2),.own 2 0 s65.1.length,.val (.map none)]]),(2,.row 1 (Ls s65.1)),(3,rI v60)],4⟩) (Ql [(0,0),(1,1),(2,2),(3,3)]) ?_;intro k65 s65 c65 h hk65;refine Q5 ?_;refine Qv [] mo (by rw [hN];decide) fun K hK=>?_
      simp [-Q0,-Q7,-Q1,-Q8,-Q2];(repeat refine sdQ ?_);refine hK _ ?_;clear hK K;refine tn ?_;refine Q9 (st':=⟨[(0,.rptr (Mnd.cells true m_)),(4,.adr 0 0 0),(5,iV s38.2),(6,.rptr (XAlgebra.cells true (gx v2 s38.2))),(7,iV s56.2),(28,.lst true 1 (Es Q4 v2)),(29,iV (v2.length:Int)),(30,iV s38.2),(38,.lst true 1 (Es Q4 v2)),(39,iV (v2.length:Int)),(40,iV s56.2),(48,.own 3 0 v60.length),(49,iV (v60.length:Int)),(50,iV s65.2),(51,.val (.bool (decide (s65.2<(v60.length:Int)))))],[(0,.mix 1 [[.adr 1 0 0]]),(1,.mix 9 [[.rptr (Mnd.cells true m_),iV 0,.val (.slice none 0 0),.val (.slice none 0 0),.val (.slice none 0 0),.val (.slice none 0 0),.lst true 1 (Es Q4 v2),.own 2 0 s65.1.length,.val (.map none)]]),(2,.row 1 (Ls s65.1)),(3,rI v60)],4⟩) (Ql [(0,0),(1,1),(2,2),(3,3)]) ?_;refine Q5 ?_;refine Qd rfl (fun g=>?_) fun g=>?_
      ·have g66:s65.2<(v60.length:Int):=gQ;clear g;replace h:=if_l g66 h;refine Qe ?_;refine tn ?_;refine Q5 ?_;refine Qc ?_;refine Q5 ?_;refine Qv [] mo (by rw [hN];decide) fun K hK=>?_;replace h:=Q6 h;obtain ⟨a67,h⟩:=h;simp [-Q0,-Q7,-Q1,-Q8,-Q2,at_I a67];(repeat refine sdQ ?_);refine hK _ ?_;clear hK K;refine tn ?_;refine Q9 (st':=⟨[(0,.rptr (Mnd.cells true m_)),(4,.adr 0 0 0),(5,iV s38.2),(6,.rptr (XAlgebra.cells true (gx v2 s38.2))),(7,iV s56.2),(10,iV (ix v60 s65.2)),(28,.lst true 1 (Es Q4 v2)),(29,iV (v2.length:Int)),(30,iV s38.2),(38,.lst true 1 (Es Q4 v2)),(39,iV (v2.length:Int)),(40,iV s56.2),(48,.own 3 0 v60.length),(49,iV (v60.length:Int)),(50,iV s65.2)],[(0,.mix 1 [[.adr 1 0 0]]),(1,.mix 9 [[.rptr (Mnd.cells true m_),iV 0,.val (.slice none 0 0),.val (.slice none 0 0),.val (.slice none 0 0),.val (.slice none 0 0),.lst true 1 (Es Q4 v2),.own 2 0 s65.1.length,.val (.map none)]]),(2,.row 1 (Ls s65.1)),(3,rI v60)],4⟩) (Ql [(0,0),(1,1),(2,2),(3,3)]) ?_;refine w_runXK [] [4] 10 mo (by rw [hN];decide) fun K hK=>?_;replace h:=Q6 h;obtain ⟨a68,h⟩:=h;(try simp only [List.length_append,List.length_cons,List.length_nil] at a68);simp [-Q0,-Q7,-Q1,-Q8,-Q2,a68];(repeat refine sdQ ?_);refine hK _ ?_ (by rfl);clear hK K;refine bn ?_;refine tn ?_;refine Q9 (st':=⟨[(0,.rptr (Mnd.cells true m_)),(4,.adr 0 0 0),(5,iV s38.2),(6,.rptr (XAlgebra.cells true (gx v2 s38.2))),(7,iV s56.2),(28,.lst true 1 (Es Q4 v2)),(29,iV (v2.length:Int)),(30,iV s38.2),(38,.lst true 1 (Es Q4 v2)),(39,iV (v2.length:Int)),(40,iV s56.2),(48,.own 3 0 v60.length),(49,iV (v60.length:Int)),(50,iV s65.2)],[(0,.mix 1 [[.adr 1 0 0]]),(1,.mix 9 [[.rptr (Mnd.cells true m_),iV 0,.val (.slice none 0 0),.val (.slice none 0 0),.val (.slice none 0 0),.val (.slice none 0 0),.lst true 1 (Es Q4 v2),.own 2 0 ((s65.1++[[s38.2,s56.2,ix v60 s65.2]]).length),.val (.map none)]]),(2,.row 1 (Ls (s65.1++[[s38.2,s56.2,ix v60 s65.2]]))),(3,rI v60)],4⟩) (Ql [(0,0),(1,1),(6,2),(3,3)]) ?_;refine Qv [] mo (by rw [hN];decide) fun K hK=>?_;replace h:=Q6 h;obtain ⟨a69,h⟩:=h;simp [-Q0,-Q7,-Q1,-Q8,-Q2,Qu a69];(repeat refine sdQ ?_);refine hK _ ?_;clear hK K;cases h;exact rn (s':=(s65.1++[[s38.2,s56.2,ix v60 s65.2]],s65.2+1)) hk65 (Ql [(0,0),(1,1),(2,2),(3,3)])
      have g66:¬ (s65.2<(v60.length:Int)):=gQ;clear g;replace h:=if_r g66 h;refine Qp ?_;refine tx ?_;refine lx ?_;refine bh ?_;refine bn ?_;cases h;have q:_=e65:=hk65;have h:=h65;rw [← q] at h;clear q;(try dsimp only at h);exact jn (b:=s65.1) (Option.some.inj h) (Ql [(0,0),(1,1),(2,2)])
     intro b58 hb58;have h:=h58;(try rw [← hb58] at h);clear h58;(try dsimp only at h);refine Qv [] mo (by rw [hN];decide) fun K hK=>?_;replace h:=Q6 h;obtain ⟨a70,h⟩:=h;simp [-Q0,-Q7,-Q1,-Q8,-Q2,Qu a70];(repeat refine sdQ ?_);refine hK _ ?_;clear hK K;cases h;exact rn (s':=(b58,s56.2+1)) hk56 (Ql [(0,0),(1,1),(2,2)])
    have g57:¬ (s56.2<(v2.length:Int)):=gQ;clear g;replace h:=if_r g57 h;refine Qp ?_;refine tx ?_;refine lx ?_;refine bh ?_;refine bn ?_;cases h;have q:_=e56:=hk56;have h:=h56;rw [← q] at h;clear q;(try dsimp only at h);exact jn (b:=s56.1) (Option.some.inj h) (Ql [(0,0),(1,1),(2,2)])
   intro b40 hb40;have h:=h40;(try rw [← hb40] at h);clear h40;(try dsimp only at h);refine Qv [] mo (by rw [hN];decide) fun K hK=>?_;replace h:=Q6 h;obtain ⟨a71,h⟩:=h;simp [-Q0,-Q7,-Q1,-Q8,-Q2,Qu a71];(repeat refine sdQ ?_);refine hK _ ?_;clear hK K;cases h;exact rn (s':=(b40,s38.2+1)) hk38 (Ql [(0,0),(1,1),(2,2)])
  have g39:¬ (s38.2<(v2.length:Int)):=gQ;clear g;replace h:=if_r g39 h;refine Qp ?_;refine tx ?_;refine lx ?_;refine bh ?_;cases h;exact jn (b:=s38.1) hk38 (Ql [(0,0),(1,1),(2,2)])
 intro b4 hb4;have h:=h4;try rw [← hb4] at h
 clear h4;try dsimp only at h
 refine Q5 ?_;refine Q5 ?_;refine Qv [] mo (by rw [hN];decide) fun K hK=>?_;simp [-Q0,-Q7,-Q1,-Q8,-Q2];repeat refine sdQ ?_
 refine hK _ ?_;clear hK K;refine tn ?_;refine Q9 (st':=⟨[(0,.rptr (Mnd.cells true m_)),(4,.adr 0 0 0),(75,.val (.bool (decide ((b4.length:Int) > 40))))],[(0,.mix 1 [[.adr 1 0 0]]),(1,.mix 9 [[.rptr (Mnd.cells true m_),iV 0,.val (.slice none 0 0),.val (.slice none 0 0),.val (.slice none 0 0),.val (.slice none 0 0),.lst true 1 (Es Q4 v2),.own 2 0 b4.length,.val (.map none)]]),(2,.row 1 (Ls b4))],3⟩) (Ql [(0,0),(1,1),(2,2)]) ?_;refine Qd rfl (fun g=>?_) fun g=>?_
 ·have g72:(b4.length:Int) > 40:=gQ;clear g;replace h:=if_l g72 h;refine Q5 ?_;refine Qv [] mo (by rw [hN];decide) fun K hK=>?_;simp [-Q0,-Q7,-Q1,-Q8,-Q2];repeat refine sdQ ?_
  refine hK _ ?_;clear hK K;refine tn ?_;refine Q9 (st':=⟨[(2,.val (.pointer none)),(3,.val (.bool false))],[],0⟩) (Ql []) ?_;refine Qi ?_;refine tr ?_;cases h;try dsimp only
  first|refine iw_r (st':=⟨[(2,.val (.pointer none)),(3,.val (.bool false))],[],0⟩) ?_ ?_|refine iw_n (st':=⟨[(2,.val (.pointer none)),(3,.val (.bool false))],[],0⟩) ?_ ?_
  ·exact Wk.r1 [] (by simp [hP,hhOk,back,Cat.cells,Mnd.cells,XAlgebra.cells,XAlgebras.cells,UA,U1,IA,I1,LA,L1,BA,B1,EA,E1,E2,eB,eI,eL,Qm _ Q4 _ (fun _=>rfl),Qm _ Qh _ (fun _=>rfl)])
  exact ⟨by simp [Q1n],by simp,by simp [Cat.cells,Mnd.cells,XAlgebra.cells,XAlgebras.cells]⟩
 have g72:¬ ((b4.length:Int) > 40):=gQ;clear g;replace h:=if_r g72 h;refine Qe ?_;refine tn ?_;refine Q5 ?_;refine Qv [] mo (by rw [hN];decide) fun K hK=>?_;simp [-Q0,-Q7,-Q1,-Q8,-Q2];repeat refine sdQ ?_
 refine hK _ ?_;clear hK K;refine tn ?_;refine Q9 (st':=⟨[(4,.adr 0 0 0),(11,.adr 3 0 0)],[(0,.mix 1 [[.adr 1 0 0]]),(1,.mix 9 [[.rptr (Mnd.cells true m_),iV 0,.val (.slice none 0 0),.val (.slice none 0 0),.val (.slice none 0 0),.val (.slice none 0 0),.lst true 1 (Es Q4 v2),.own 2 0 b4.length,.val (.map none)]]),(2,.row 1 (Ls b4)),(3,.mix 1 [[.rptr (Mnd.cells true m_)]])],4⟩) (Ql [(0,0),(1,1),(2,2),(3,3)]) ?_;refine Q5 ?_;refine Qv [] mo (by rw [hN];decide) fun K hK=>?_;simp [-Q0,-Q7,-Q1,-Q8,-Q2];repeat with_reducible refine sdQ ?_
 replace h:=bind_some h;obtain ⟨v73,hv73,h⟩:=h;refine Q74 (fz:=[]) false (Q9M _ v73 hv73) (PurK.ofL (.cons (.whole (by simp) (by simp) (by simp)) .nil)) ?_;simp [-Q0,-Q7,-Q1,-Q8,-Q2,unk,unA,unE,unT,unC,flat];repeat refine sdQ ?_
 refine hK _ ?_;clear hK K;refine tn ?_;refine Q9 (st':=⟨[(4,.adr 0 0 0),(11,.adr 3 0 0)],[(0,.mix 1 [[.adr 1 0 0]]),(1,.mix 9 [[.rptr (Mnd.cells true m_),iV 0,.val (.slice none 0 0),.val (.slice none 0 0),.val (.slice none 0 0),.val (.slice none 0 0),.lst true 1 (Es Q4 v2),.own 2 0 b4.length,.cmap .str (Msi v73)]]),(2,.row 1 (Ls b4)),(3,.mix 1 [[.rptr (Mnd.cells true m_)]])],4⟩) (Ql [(0,0),(1,1),(2,2),(3,3)]) ?_;refine Q5 ?_;refine Qv [] mo (by rw [hN];decide) fun K hK=>?_;simp [-Q0,-Q7,-Q1,-Q8,-Q2];repeat with_reducible refine sdQ ?_
 replace h:=bind_some h;obtain ⟨v74,hv74,h⟩:=h;refine QL (fz:=[]) (Q54 _ _ v74 hv74) (.cons (.whole (by simp) (by simp) (by simp)) (.cons .val .nil)) ?_;simp [-Q0,-Q7,-Q1,-Q8,-Q2,unk,unA,unE,unT,unC,flat];repeat with_reducible refine sdQ ?_
 replace h:=bind_some h;obtain ⟨v75,hv75,h⟩:=h;refine QL (fz:=[]) (Q54 _ _ v75 hv75) (.cons (.whole (by simp) (by simp) (by simp)) (.cons .val .nil)) ?_;simp [-Q0,-Q7,-Q1,-Q8,-Q2,unk,unA,unE,unT,unC,flat];repeat refine sdQ ?_
 refine hK _ ?_;clear hK K;refine tn ?_;refine Q9 (st':=⟨[(4,.adr 0 0 0),(11,.adr 5 0 0)],[(0,.mix 1 [[.adr 1 0 0]]),(1,.mix 9 [[.rptr (Mnd.cells true m_),iV (v2.length:Int),.own 2 0 v74.length,.own 3 0 v75.length,.val (.slice none 0 0),.val (.slice none 0 0),.lst true 1 (Es Q4 v2),.own 4 0 b4.length,.cmap .str (Msi v73)]]),(2,rI v74),(3,rI v75),(4,.row 1 (Ls b4)),(5,.mix 1 [[.rptr (Mnd.cells true m_)]])],6⟩) (Ql [(0,0),(1,1),(4,2),(5,3),(2,4),(3,5)]) ?_;refine Q5 ?_;refine Q5 ?_;refine Qv [] mo (by rw [hN];decide) fun K hK=>?_;simp [-Q0,-Q7,-Q1,-Q8,-Q2];repeat refine sdQ ?_
 refine hK _ ?_;clear hK K;refine tn ?_;refine Q9 (st':=⟨[(4,.adr 0 0 0),(11,.adr 5 0 0),(110,.lst true 1 (Es Q4 v2)),(111,iV (v2.length:Int)),(112,iV 0)],[(0,.mix 1 [[.adr 1 0 0]]),(1,.mix 9 [[.rptr (Mnd.cells true m_),iV (v2.length:Int),.own 2 0 v74.length,.own 3 0 v75.length,.val (.slice none 0 0),.val (.slice none 0 0),.lst true 1 (Es Q4 v2),.own 4 0 b4.length,.cmap .str (Msi v73)]]),(2,rI v74),(3,rI v75),(4,.row 1 (Ls b4)),(5,.mix 1 [[.rptr (Mnd.cells true m_)]])],6⟩) (Ql [(0,0),(1,1),(2,2),(3,3),(4,4),(5,5)]) ?_;replace h:=bind_some h;obtain ⟨e76,h,h76⟩:=h;refine Qj (fun b76:List Int=>⟨[(4,.adr 0 0 0),(11,.adr 6 0 0)],[(0,.mix 1 [[.adr 1 0 0]]),(1,.mix 9 [[.rptr (Mnd.cells true m_),iV (v2.length:Int),.own 2 0 v74.length,.own 3 0 v75.length,.own 4 0 b76.length,.val (.slice none 0 0),.lst true 1 (Es Q4 v2),.own 5 0 b4.length,.cmap .str (Msi v73)]]),(2,rI v74),(3,rI v75),(4,rI b76),(5,.row 1 (Ls b4)),(6,.mix 1 [[.rptr (Mnd.cells true m_)]])],7⟩) (fun b76=>b76=e76) ?_ ?_
 ·refine Qc ?_;refine Qz h (fun s83:List Int × Int=>⟨[(4,.adr 0 0 0),(11,.adr 6 0 0),(110,.lst true 1 (Es Q4 v2)),(111,iV (v2.length:Int)),(112,iV s83.2)],[(0,.mix 1 [[.adr 1 0 0]]),(1,.mix 9 [[.rptr (Mnd.cells true m_),iV (v2.length:Int),.own 2 0 v74.length,.own 3 0 v75.length,.own 4 0 s83.1.length,.val (.slice none 0 0),.lst true 1 (Es Q4 v2),.own 5 0 b4.length,.cmap .str (Msi v73)]]),(2,rI v74),(3,rI v75),(4,rI s83.1),(5,.row 1 (Ls b4)),(6,.mix 1 [[.rptr (Mnd.cells true m_)]])],7⟩) (Q2Z ⟨[(4,.adr 0 0 0),(11,.adr 5 0 0),(110,.lst true 1 (Es Q4 v2)),(111,iV (v2.length:Int)),(112,iV 0)],[(0,.mix 1 [[.adr 1 0 0]]),(1,.mix 9 [[.rptr (Mnd.cells true m_),iV (v2.length:Int),.own 2 0 v74.length,.own 3 0 v75.length,.own 6 0 0,.val (.slice none 0 0),.lst true 1 (Es Q4 v2),.own 4 0 b4.length,.cmap .str (Msi v73)]]),(2,rI v74),(3,rI v75),(4,.row 1 (Ls b4)),(5,.mix 1 [[.rptr (Mnd.cells true m_)]]),(6,rI [])],7⟩ (Wk.nils [(6,1)] (by simp) (by simp) (by simp [nlA]) (by simp [entN,nlL,nlA,Cat.cells,Mnd.cells,XAlgebra.cells,XAlgebras.cells,UA,U1,IA,I1,LA,L1,BA,B1,EA,E1,E2,eB,eI,eL,Qm _ Q4 _ (fun _=>rfl),Qm _ Qh _ (fun _=>rfl)]) (by simp)) (Ql [(0,0),(1,1),(2,2),(3,3),(6,4),(4,5),(5,6)])) ?_;clear h;intro k83 s83 c83 h hk83;refine Q5 ?_;refine Qv [] mo (by rw [hN];decide) fun K hK=>?_;simp [-Q0,-Q7,-Q1,-Q8,-Q2];repeat refine sdQ ?_
  refine hK _ ?_;clear hK K;refine tn ?_;refine Q9 (st':=⟨[(4,.adr 0 0 0),(11,.adr 6 0 0),(110,.lst true 1 (Es Q4 v2)),(111,iV (v2.length:Int)),(112,iV s83.2),(113,.val (.bool (decide (s83.2<(v2.length:Int)))))],[(0,.mix 1 [[.adr 1 0 0]]),(1,.mix 9 [[.rptr (Mnd.cells true m_),iV (v2.length:Int),.own 2 0 v74.length,.own 3 0 v75.length,.own 4 0 s83.1.length,.val (.slice none 0 0),.lst true 1 (Es Q4 v2),.own 5 0 b4.length,.cmap .str (Msi v73)]]),(2,rI v74),(3,rI v75),(4,rI s83.1),(5,.row 1 (Ls b4)),(6,.mix 1 [[.rptr (Mnd.cells true m_)]])],7⟩) (Ql [(0,0),(1,1),(2,2),(3,3),(4,4),(5,5),(6,6)]) ?_;refine Q5 ?_;refine Qd rfl (fun g=>?_) fun g=>?_
  ·have g84:s83.2<(v2.length:Int):=gQ;clear g;replace h:=if_l g84 h;refine Qe ?_;refine tn ?_;refine Q5 ?_;refine Qc ?_;refine Q5 ?_;refine Qv [] mo (by rw [hN];decide) fun K hK=>?_;replace h:=Q6 h;obtain ⟨a85,h⟩:=h;simp [-Q0,-Q7,-Q1,-Q8,-Q2,at_E (c:=Q4) a85];(repeat refine sdQ ?_);refine hK _ ?_;clear hK K;refine tn ?_;refine Q9 (st':=⟨[(4,.adr 0 0 0),(11,.adr 6 0 0),(12,iV s83.2),(13,.rptr (XAlgebra.cells true (gx v2 s83.2))),(110,.lst true 1 (Es Q4 v2)),(111,iV (v2.length:Int)),(112,iV s83.2)],[(0,.mix 1 [[.adr 1 0 0]]),(1,.mix 9 [[.rptr (Mnd.cells true m_),iV (v2.length:Int),.own 2 0 v74.length,.own 3 0 v75.length,.own 4 0 s83.1.length,.val (.slice none 0 0),.lst true 1 (Es Q4 v2),.own 5 0 b4.length,.cmap .str (Msi v73)]]),(2,rI v74),(3,rI v75),(4,rI s83.1),(5,.row 1 (Ls b4)),(6,.mix 1 [[.rptr (Mnd.cells true m_)]])],7⟩) (Ql [(0,0),(1,1),(2,2),(3,3),(4,4),(5,5),(6,6)]) ?_;refine w_runXK [] [4] 21 mo (by rw [hN];decide) fun K hK=>?_;replace h:=Q6 h;obtain ⟨a86,h⟩:=h;simp [-Q0,-Q7,-Q1,-Q8,-Q2,at_I a86];(repeat with_reducible refine sdQ ?_);replace h:=bind_some h;obtain ⟨v87,hv87,h⟩:=h;refine QL (fz:=[]) (Q1F _ _ _ _ v87 hv87) (.cons (.field rfl (by simp [Mnd.cells,XAlgebra.cells,XAlgebras.cells]) (.cons (.preT (by simp [Mnd.cells,XAlgebra.cells,XAlgebras.cells])) (.cons .val (.cons (.whole (by simp) (by simp) (by simp)) (.cons (.whole (by simp) (by simp) (by simp)) (.cons (.whole (by simp) (by simp) (by simp)) (.cons .nil (.cons .lst (.cons (.whole (by simp) (by simp) (by simp)) (.cons .cmap .nil)))))))))) (.cons .val (.cons .val (.cons .val .nil)))) ?_;replace h:=Q6 h;obtain ⟨a88,h⟩:=h;(try simp only [List.length_append,List.length_cons,List.length_nil] at a88);simp [-Q0,-Q7,-Q1,-Q8,-Q2,unk,unA,unE,unT,unC,flat,at_I a86,a88];(repeat refine sdQ ?_);refine hK _ ?_ (by rfl);clear hK K;refine bn ?_;refine tn ?_;refine Q9 (st':=⟨[(4,.adr 0 0 0),(11,.adr 6 0 0),(110,.lst true 1 (Es Q4 v2)),(111,iV (v2.length:Int)),(112,iV s83.2)],[(0,.mix 1 [[.adr 1 0 0]]),(1,.mix 9 [[.rptr (Mnd.cells true m_),iV (v2.length:Int),.own 2 0 v74.length,.own 3 0 v75.length,.own 4 0 ((s83.1++[v87]).length),.val (.slice none 0 0),.lst true 1 (Es Q4 v2),.own 5 0 b4.length,.cmap .str (Msi v73)]]),(2,rI v74),(3,rI v75),(4,rI (s83.1++[v87])),(5,.row 1 (Ls b4)),(6,.mix 1 [[.rptr (Mnd.cells true m_)]])],7⟩) (Ql [(0,0),(1,1),(2,2),(3,3),(9,4),(5,5),(6,6)]) ?_;refine Qv [] mo (by rw [hN];decide) fun K hK=>?_;replace h:=Q6 h;obtain ⟨a89,h⟩:=h;simp [-Q0,-Q7,-Q1,-Q8,-Q2,Qu a89];(repeat refine sdQ ?_);refine hK _ ?_;clear hK K;cases h;exact rn (s':=(s83.1++[v87],s83.2+1)) hk83 (Ql [(0,0),(1,1),(2,2),(3,3),(4,4),(5,5),(6,6)])
  have g84:¬ (s83.2<(v2.length:Int)):=gQ;clear g;replace h:=if_r g84 h;refine Qp ?_;refine tx ?_;refine lx ?_;refine bh ?_;cases h;exact jn (b:=s83.1) hk83 (Ql [(0,0),(1,1),(2,2),(3,3),(4,4),(5,5),(6,6)])
 intro b76 hb76;have h:=h76;try rw [← hb76] at h
 clear h76;try dsimp only at h
 refine Q5 ?_;refine Q8q [] mo (by rw [hN];decide) fun K hK=>?_;simp [-Q0,-Q7,-Q1,-Q8,-Q2];repeat with_reducible refine sdQ ?_
 replace h:=bind_some h;obtain ⟨v152,hv152,h⟩:=h;refine Q6z (fz:=[]) (Q4q (ts:=[]) (e:={ v:=.tup [],set:=[(1,.mix 9 [[.rptr (Mnd.cells true m_),iV (v2.length:Int),.own 2 0 v74.length,.own 3 0 v75.length,.own 4 0 b76.length,.own 7 0 v152.length,.lst true 1 (Es Q4 v2),.own 5 0 b4.length,.cmap .str (Msi v73)]])],del:=[],new:=[(7,.row 1 (Ls v152))],cnt:=1 }) Tryz.func103 rfl rfl rfl (by simp [Tryz.f103]) (by simp) (fineI (by simp)) (newI (by rfl)) fun F hN hP=>?_) ?_
 ·clear h;have h:=hv152;clear hv152;refine Q5 ?_;refine Qv [] mo (by rw [hN];decide) fun K hK=>?_;simp [-Q0,-Q7,-Q1,-Q8,-Q2];repeat with_reducible refine sdQ ?_
  replace h:=bind_some h;obtain ⟨v91,hv91,h⟩:=h;refine QL (fz:=[]) (Q1b _ v91 hv91) (.cons (.field rfl (by simp [Cat.cells,Mnd.cells,XAlgebra.cells,XAlgebras.cells]) (.cons .val (.cons (.whole (by simp) (by simp) (by simp)) (.cons (.whole (by simp) (by simp) (by simp)) (.cons (.whole (by simp) (by simp) (by simp)) (.cons .nil .nil)))))) .nil) ?_;simp [-Q0,-Q7,-Q1,-Q8,-Q2,unk,unA,unE,unT,unC,flat];repeat refine sdQ ?_
  refine hK _ ?_;clear hK K;refine tn ?_;refine Q9 (st':=⟨[(0,.adr 1 0 1),(1,.fn 104 [.adr 0 0 0,.adr 6 0 0]),(4,iV v91)],[(0,.mix 1 [[.adr 1 0 0]]),(1,.mix 9 [[.rptr (Mnd.cells true m_),iV (v2.length:Int),.own 2 0 v74.length,.own 3 0 v75.length,.own 4 0 b76.length,.val (.slice none 0 0),.lst true 1 (Es Q4 v2),.own 5 0 b4.length,.cmap .str (Msi v73)]]),(2,rI v74),(3,rI v75),(4,rI b76),(5,.row 1 (Ls b4)),(6,.mix 1 [[.rptr (Mnd.cells true m_)]])],7⟩) (Wk.rP _ [(0,0),(1,1),(2,2),(3,3),(4,4),(5,5),(6,6)] hP (by rfl) (by simp [hhOk,back,Cat.cells,Mnd.cells,XAlgebra.cells,XAlgebras.cells,UA,U1,IA,I1,LA,L1,BA,B1,EA,E1,E2,eB,eI,eL,Qm _ Q4 _ (fun _=>rfl),Qm _ Qh _ (fun _=>rfl)])) ?_;refine Q5 ?_;refine Qv [11] mo (by rw [hN];decide) fun K hK=>?_;replace h:=Q6 h;obtain ⟨a92,h⟩:=h;simp [-Q0,-Q7,-Q1,-Q8,-Q2];repeat refine sdQ ?_
  refine hK _ ?_;clear hK K;refine tn ?_;refine Q9 (st':=⟨[(0,.adr 1 0 1),(1,.fn 104 [.adr 0 0 0,.adr 6 0 0]),(4,iV v91)],[(0,.mix 1 [[.adr 1 0 0]]),(1,.mix 9 [[.rptr (Mnd.cells true m_),iV (v2.length:Int),.own 2 0 v74.length,.own 3 0 v75.length,.own 4 0 b76.length,.own 7 0 ((List.replicate v91.toNat ([]:List Int)).length),.lst true 1 (Es Q4 v2),.own 5 0 b4.length,.cmap .str (Msi v73)]]),(2,rI v74),(3,rI v75),(4,rI b76),(5,.row 1 (Ls b4)),(6,.mix 1 [[.rptr (Mnd.cells true m_)]]),(7,.row 1 (Ls (List.replicate v91.toNat ([]:List Int))))],8⟩) (Wk.rP _ [(0,0),(1,1),(2,2),(3,3),(4,4),(7,7),(5,5),(6,6)] hP (by rfl) (by simp [hhOk,back,Cat.cells,Mnd.cells,XAlgebra.cells,XAlgebras.cells,UA,U1,IA,I1,LA,L1,BA,B1,EA,E1,E2,eB,eI,eL,Qm _ Q4 _ (fun _=>rfl),Qm _ Qh _ (fun _=>rfl)])) ?_;refine Q5 ?_;refine Qv [] mo (by rw [hN];decide) fun K hK=>?_;simp [-Q0,-Q7,-Q1,-Q8,-Q2];repeat refine sdQ ?_
  refine hK _ ?_;clear hK K;refine tn ?_;refine Q9 (st':=⟨[(0,.adr 1 0 1),(1,.fn 104 [.adr 0 0 0,.adr 6 0 0]),(4,iV v91),(18,iV ((List.replicate v91.toNat ([]:List Int)).length:Int)),(19,iV 0)],[(0,.mix 1 [[.adr 1 0 0]]),(1,.mix 9 [[.rptr (Mnd.cells true m_),iV (v2.length:Int),.own 2 0 v74.length,.own 3 0 v75.length,.own 4 0 b76.length,.own 7 0 ((List.replicate v91.toNat ([]:List Int)).length),.lst true 1 (Es Q4 v2),.own 5 0 b4.length,.cmap .str (Msi v73)]]),(2,rI v74),(3,rI v75),(4,rI b76),(5,.row 1 (Ls b4)),(6,.mix 1 [[.rptr (Mnd.cells true m_)]]),(7,.row 1 (Ls (List.replicate v91.toNat ([]:List Int))))],8⟩) (Wk.rP _ [(0,0),(1,1),(2,2),(3,3),(4,4),(7,7),(5,5),(6,6)] hP (by rfl) (by simp [hhOk,back,Cat.cells,Mnd.cells,XAlgebra.cells,XAlgebras.cells,UA,U1,IA,I1,LA,L1,BA,B1,EA,E1,E2,eB,eI,eL,Qm _ Q4 _ (fun _=>rfl),Qm _ Qh _ (fun _=>rfl)])) ?_;refine Qc ?_;replace h:=bind_some h;obtain ⟨e122,he122,h122⟩:=h;refine Qz he122 (fun s122:List (List Int) × Int=>⟨[(0,.adr 1 0 1),(1,.fn 104 [.adr 0 0 0,.adr 6 0 0]),(4,iV v91),(18,iV ((List.replicate v91.toNat ([]:List Int)).length:Int)),(19,iV s122.2)],[(0,.mix 1 [[.adr 1 0 0]]),(1,.mix 9 [[.rptr (Mnd.cells true m_),iV (v2.length:Int),.own 2 0 v74.length,.own 3 0 v75.length,.own 4 0 b76.length,.own 7 0 s122.1.length,.lst true 1 (Es Q4 v2),.own 5 0 b4.length,.cmap .str (Msi v73)]]),(2,rI v74),(3,rI v75),(4,rI b76),(5,.row 1 (Ls b4)),(6,.mix 1 [[.rptr (Mnd.cells true m_)]]),(7,.row 1 (Ls s122.1))],8⟩) (Wk.rP _ [(0,0),(1,1),(2,2),(3,3),(4,4),(7,7),(5,5),(6,6)] hP (by rfl) (by simp [hhOk,back,Cat.cells,Mnd.cells,XAlgebra.cells,XAlgebras.cells,UA,U1,IA,I1,LA,L1,BA,B1,EA,E1,E2,eB,eI,eL,Qm _ Q4 _ (fun _=>rfl),Qm _ Qh _ (fun _=>rfl)])) ?_;intro k122 s122 c122 h hk122;refine Q5 ?_;refine Qv [] mo (by rw [hN];decide) fun K hK=>?_;simp [-Q0,-Q7,-Q1,-Q8,-Q2];repeat refine sdQ ?_
  refine hK _ ?_;clear hK K;refine tn ?_;refine Q9 (st':=⟨[(0,.adr 1 0 1),(1,.fn 104 [.adr 0 0 0,.adr 6 0 0]),(4,iV v91),(18,iV ((List.replicate v91.toNat ([]:List Int)).length:Int)),(19,iV s122.2),(20,.val (.bool (decide (s122.2<((List.replicate v91.toNat ([]:List Int)).length:Int)))))],[(0,.mix 1 [[.adr 1 0 0]]),(1,.mix 9 [[.rptr (Mnd.cells true m_),iV (v2.length:Int),.own 2 0 v74.length,.own 3 0 v75.length,.own 4 0 b76.length,.own 7 0 s122.1.length,.lst true 1 (Es Q4 v2),.own 5 0 b4.length,.cmap .str (Msi v73)]]),(2,rI v74),(3,rI v75),(4,rI b76),(5,.row 1 (Ls b4)),(6,.mix 1 [[.rptr (Mnd.cells true m_)]]),(7,.row 1 (Ls s122.1))],8⟩) (Wk.rP _ [(0,0),(1,1),(2,2),(3,3),(4,4),(7,7),(5,5),(6,6)] hP (by rfl) (by simp [hhOk,back,Cat.cells,Mnd.cells,XAlgebra.cells,XAlgebras.cells,UA,U1,IA,I1,LA,L1,BA,B1,EA,E1,E2,eB,eI,eL,Qm _ Q4 _ (fun _=>rfl),Qm _ Qh _ (fun _=>rfl)])) ?_;refine Q5 ?_;refine Qd rfl (fun g=>?_) fun g=>?_
  ·have g123:s122.2<((List.replicate v91.toNat ([]:List Int)).length:Int):=gQ;clear g;replace h:=if_l g123 h;refine Qe ?_;refine tn ?_;refine Q5 ?_;replace h:=bind_some h;obtain ⟨e124,h,h124⟩:=h;refine Qj (fun b124:List (List Int)=>⟨[(0,.adr 1 0 1),(1,.fn 104 [.adr 0 0 0,.adr 6 0 0]),(4,iV v91),(18,iV ((List.replicate v91.toNat ([]:List Int)).length:Int)),(19,iV s122.2)],[(0,.mix 1 [[.adr 1 0 0]]),(1,.mix 9 [[.rptr (Mnd.cells true m_),iV (v2.length:Int),.own 2 0 v74.length,.own 3 0 v75.length,.own 4 0 b76.length,.own 7 0 b124.length,.lst true 1 (Es Q4 v2),.own 5 0 b4.length,.cmap .str (Msi v73)]]),(2,rI v74),(3,rI v75),(4,rI b76),(5,.row 1 (Ls b4)),(6,.mix 1 [[.rptr (Mnd.cells true m_)]]),(7,.row 1 (Ls b124))],8⟩) (fun b124=>b124=e124) ?_ ?_
   ·refine Qc ?_;refine Q5 ?_;refine Qv [] mo (by rw [hN];decide) fun K hK=>?_;simp [-Q0,-Q7,-Q1,-Q8,-Q2];(repeat refine sdQ ?_);refine hK _ ?_;clear hK K;refine tn ?_;refine Q9 (st':=⟨[(0,.adr 1 0 1),(1,.fn 104 [.adr 0 0 0,.adr 6 0 0]),(4,iV v91),(5,iV s122.2),(18,iV ((List.replicate v91.toNat ([]:List Int)).length:Int)),(19,iV s122.2)],[(0,.mix 1 [[.adr 1 0 0]]),(1,.mix 9 [[.rptr (Mnd.cells true m_),iV (v2.length:Int),.own 2 0 v74.length,.own 3 0 v75.length,.own 4 0 b76.length,.own 7 0 s122.1.length,.lst true 1 (Es Q4 v2),.own 5 0 b4.length,.cmap .str (Msi v73)]]),(2,rI v74),(3,rI v75),(4,rI b76),(5,.row 1 (Ls b4)),(6,.mix 1 [[.rptr (Mnd.cells true m_)]]),(7,.row 1 (Ls s122.1))],8⟩) (Wk.rP _ [(0,0),(1,1),(2,2),(3,3),(4,4),(7,7),(5,5),(6,6)] hP (by rfl) (by simp [hhOk,back,Cat.cells,Mnd.cells,XAlgebra.cells,XAlgebras.cells,UA,U1,IA,I1,LA,L1,BA,B1,EA,E1,E2,eB,eI,eL,Qm _ Q4 _ (fun _=>rfl),Qm _ Qh _ (fun _=>rfl)])) ?_;refine Q5 ?_;refine Qv [] mo (by rw [hN];decide) fun K hK=>?_;replace h:=Q6 h;obtain ⟨a125,h⟩:=h;replace h:=Q6 h;obtain ⟨a126,h⟩:=h;simp [-Q0,-Q7,-Q1,-Q8,-Q2,at_L a126];(repeat with_reducible refine sdQ ?_);refine stoX_row (fz:=[]) [] tf_22 rfl (b:=.lst true 1 (Is (List.replicate v91.toNat 0))) (ds:=[8]) (es2:=Ls (s122.1.set s122.2.toNat (List.replicate v91.toNat 0))) rfl (by simp) (by first|(simp;done)|(simp;omega)|omega) (by simp) (by simp) (by simp) (by simp) Ls_st ?_;simp [-Q0,-Q7,-Q1,-Q8,-Q2,at_L a126];(repeat refine sdQ ?_);refine hK _ ?_;clear hK K;refine tn ?_;refine Q9 (st':=⟨[(0,.adr 1 0 1),(1,.fn 104 [.adr 0 0 0,.adr 6 0 0]),(4,iV v91),(5,iV s122.2),(18,iV ((List.replicate v91.toNat ([]:List Int)).length:Int)),(19,iV s122.2)],[(0,.mix 1 [[.adr 1 0 0]]),(1,.mix 9 [[.rptr (Mnd.cells true m_),iV (v2.length:Int),.own 2 0 v74.length,.own 3 0 v75.length,.own 4 0 b76.length,.own 7 0 ((s122.1.set s122.2.toNat (List.replicate v91.toNat 0)).length),.lst true 1 (Es Q4 v2),.own 5 0 b4.length,.cmap .str (Msi v73)]]),(2,rI v74),(3,rI v75),(4,rI b76),(5,.row 1 (Ls b4)),(6,.mix 1 [[.rptr (Mnd.cells true m_)]]),(7,.row 1 (Ls (s122.1.set s122.2.toNat (List.replicate v91.toNat 0))))],8⟩) (Wk.rP _ [(0,0),(1,1),(2,2),(3,3),(4,4),(7,7),(5,5),(6,6)] hP (by rfl) (by simp [hhOk,back,Cat.cells,Mnd.cells,XAlgebra.cells,XAlgebras.cells,UA,U1,IA,I1,LA,L1,BA,B1,EA,E1,E2,eB,eI,eL,Qm _ Q4 _ (fun _=>rfl),Qm _ Qh _ (fun _=>rfl)])) ?_;refine Q5 ?_;refine Qv [] mo (by rw [hN];decide) fun K hK=>?_;replace h:=Q6 h;obtain ⟨a127,h⟩:=h;simp [-Q0,-Q7,-Q1,-Q8,-Q2,at_L a127];(repeat refine sdQ ?_);refine hK _ ?_;clear hK K;refine tn ?_
    refine Q9 (st':=⟨[(0,.adr 1 0 1),(1,.fn 104 [.adr 0 0 0,.adr 6 0 0]),(4,iV v91),(5,iV s122.2),(18,iV ((List.replicate v91.toNat ([]:List Int)).length:Int)),(19,iV s122.2),(37,iV ((rx (s122.1.set s122.2.toNat (List.replicate v91.toNat 0)) s122.2).length:Int)),(38,iV 0)],[(0,.mix 1 [[.adr 1 0 0]]),(1,.mix 9 [[.rptr (Mnd.cells true m_),iV (v2.length:Int),.own 2 0 v74.length,.own 3 0 v75.length,.own 4 0 b76.length,.own 7 0 ((s122.1.set s122.2.toNat (List.replicate v91.toNat 0)).length),.lst true 1 (Es Q4 v2),.own 5 0 b4.length,.cmap .str (Msi v73)]]),(2,rI v74),(3,rI v75),(4,rI b76),(5,.row 1 (Ls b4)),(6,.mix 1 [[.rptr (Mnd.cells true m_)]]),(7,.row 1 (Ls (s122.1.set s122.2.toNat (List.replicate v91.toNat 0))))],8⟩) (Wk.rP _ [(0,0),(1,1),(2,2),(3,3),(4,4),(7,7),(5,5),(6,6)] hP (by rfl) (by simp [hhOk,back,Cat.cells,Mnd.cells,XAlgebra.cells,XAlgebras.cells,UA,U1,IA,I1,LA,L1,BA,B1,EA,E1,E2,eB,eI,eL,Qm _ Q4 _ (fun _=>rfl),Qm _ Qh _ (fun _=>rfl)])) ?_;refine Qc ?_;replace h:=bind_some h;obtain ⟨e139,he139,h139⟩:=h;refine Qz he139 (fun s139:List (List Int) × Int=>⟨[(0,.adr 1 0 1),(1,.fn 104 [.adr 0 0 0,.adr 6 0 0]),(4,iV v91),(5,iV s122.2),(18,iV ((List.replicate v91.toNat ([]:List Int)).length:Int)),(19,iV s122.2),(37,iV ((rx (s122.1.set s122.2.toNat (List.replicate v91.toNat 0)) s122.2).length:Int)),(38,iV s139.2)],[(0,.mix 1 [[.adr 1 0 0]]),(1,.mix 9 [[.rptr (Mnd.cells true m_),iV (v2.length:Int),.own 2 0 v74.length,.own 3 0 v75.length,.own 4 0 b76.length,.own 7 0 s139.1.length,.lst true 1 (Es Q4 v2),.own 5 0 b4.length,.cmap .str (Msi v73)]]),(2,rI v74),(3,rI v75),(4,rI b76),(5,.row 1 (Ls b4)),(6,.mix 1 [[.rptr (Mnd.cells true m_)]]),(7,.row 1 (Ls s139.1))],8⟩) (Wk.rP _ [(0,0),(1,1),(2,2),(3,3),(4,4),(7,7),(5,5),(6,6)] hP (by rfl) (by simp [hhOk,back,Cat.cells,Mnd.cells,XAlgebra.cells,XAlgebras.cells,UA,U1,IA,I1,LA,L1,BA,B1,EA,E1,E2,eB,eI,eL,Qm _ Q4 _ (fun _=>rfl),Qm _ Qh _ (fun _=>rfl)])) ?_;intro k139 s139 c139 h hk139;refine Q5 ?_;refine Qv [] mo (by rw [hN];decide) fun K hK=>?_;simp [-Q0,-Q7,-Q1,-Q8,-Q2];(repeat refine sdQ ?_);refine hK _ ?_;clear hK K;refine tn ?_
    refine Q9 (st':=⟨[(0,.adr 1 0 1),(1,.fn 104 [.adr 0 0 0,.adr 6 0 0]),(4,iV v91),(5,iV s122.2),(18,iV ((List.replicate v91.toNat ([]:List Int)).length:Int)),(19,iV s122.2),(37,iV ((rx (s122.1.set s122.2.toNat (List.replicate v91.toNat 0)) s122.2).length:Int)),(38,iV s139.2),(39,.val (.bool (decide (s139.2<((rx (s122.1.set s122.2.toNat (List.replicate v91.toNat 0)) s122.2).length:Int)))))],[(0,.mix 1 [[.adr 1 0 0]]),(1,.mix 9 [[.rptr (Mnd.cells true m_),iV (v2.length:Int),.own 2 0 v74.length,.own 3 0 v75.length,.own 4 0 b76.length,.own 7 0 s139.1.length,.lst true 1 (Es Q4 v2),.own 5 0 b4.length,.cmap .str (Msi v73)]]),(2,rI v74),(3,rI v75),(4,rI b76),(5,.row 1 (Ls b4)),(6,.mix 1 [[.rptr (Mnd.cells true m_)]]),(7,.row 1 (Ls s139.1))],8⟩) (Wk.rP _ [(0,0),(1,1),(2,2),(3,3),(4,4),(7,7),(5,5),(6,6)] hP (by rfl) (by simp [hhOk,back,Cat.cells,Mnd.cells,XAlgebra.cells,XAlgebras.cells,UA,U1,IA,I1,LA,L1,BA,B1,EA,E1,E2,eB,eI,eL,Qm _ Q4 _ (fun _=>rfl),Qm _ Qh _ (fun _=>rfl)])) ?_;refine Q5 ?_;refine Qd rfl (fun g=>?_) fun g=>?_
    ·have g140:s139.2<((rx (s122.1.set s122.2.toNat (List.replicate v91.toNat 0)) s122.2).length:Int):=gQ;clear g;replace h:=if_l g140 h;refine Qe ?_;refine tn ?_;refine Q5 ?_;replace h:=bind_some h;obtain ⟨e141,h,h141⟩:=h;refine Qj (fun b141:List (List Int)=>⟨[(0,.adr 1 0 1),(1,.fn 104 [.adr 0 0 0,.adr 6 0 0]),(4,iV v91),(5,iV s122.2),(18,iV ((List.replicate v91.toNat ([]:List Int)).length:Int)),(19,iV s122.2),(37,iV ((rx (s122.1.set s122.2.toNat (List.replicate v91.toNat 0)) s122.2).length:Int)),(38,iV s139.2)],[(0,.mix 1 [[.adr 1 0 0]]),(1,.mix 9 [[.rptr (Mnd.cells true m_),iV (v2.length:Int),.own 2 0 v74.length,.own 3 0 v75.length,.own 4 0 b76.length,.own 7 0 b141.length,.lst true 1 (Es Q4 v2),.own 5 0 b4.length,.cmap .str (Msi v73)]]),(2,rI v74),(3,rI v75),(4,rI b76),(5,.row 1 (Ls b4)),(6,.mix 1 [[.rptr (Mnd.cells true m_)]]),(7,.row 1 (Ls b141))],8⟩) (fun b141=>b141=e141) ?_ ?_
     ·refine Qc ?_;refine Q5 ?_;refine Qv [] mo (by rw [hN];decide) fun K hK=>?_;simp [-Q0,-Q7,-Q1,-Q8,-Q2];(repeat refine sdQ ?_);refine hK _ ?_;clear hK K;refine tn ?_;refine Q9 (st':=⟨[(0,.adr 1 0 1),(1,.fn 104 [.adr 0 0 0,.adr 6 0 0]),(4,iV v91),(5,iV s122.2),(6,iV s139.2),(18,iV ((List.replicate v91.toNat ([]:List Int)).length:Int)),(19,iV s122.2),(37,iV ((rx (s122.1.set s122.2.toNat (List.replicate v91.toNat 0)) s122.2).length:Int)),(38,iV s139.2)],[(0,.mix 1 [[.adr 1 0 0]]),(1,.mix 9 [[.rptr (Mnd.cells true m_),iV (v2.length:Int),.own 2 0 v74.length,.own 3 0 v75.length,.own 4 0 b76.length,.own 7 0 s139.1.length,.lst true 1 (Es Q4 v2),.own 5 0 b4.length,.cmap .str (Msi v73)]]),(2,rI v74),(3,rI v75),(4,rI b76),(5,.row 1 (Ls b4)),(6,.mix 1 [[.rptr (Mnd.cells true m_)]]),(7,.row 1 (Ls s139.1))],8⟩) (Wk.rP _ [(0,0),(1,1),(2,2),(3,3),(4,4),(7,7),(5,5),(6,6)] hP (by rfl) (by simp [hhOk,back,Cat.cells,Mnd.cells,XAlgebra.cells,XAlgebras.cells,UA,U1,IA,I1,LA,L1,BA,B1,EA,E1,E2,eB,eI,eL,Qm _ Q4 _ (fun _=>rfl),Qm _ Qh _ (fun _=>rfl)])) ?_;refine Q5 ?_;refine Qv [] mo (by rw [hN];decide) fun K hK=>?_;replace h:=Q6 h;obtain ⟨a142,h⟩:=h;replace h:=Q6 h;obtain ⟨a143,h⟩:=h;simp [-Q0,-Q7,-Q1,-Q8,-Q2,at_L a142,at_I a143];(repeat refine sdQ ?_);refine hK _ ?_;clear hK K;refine tn ?_;refine Q9 (st':=⟨[(0,.adr 1 0 1),(1,.fn 104 [.adr 0 0 0,.adr 6 0 0]),(4,iV v91),(5,iV s122.2),(6,iV s139.2),(18,iV ((List.replicate v91.toNat ([]:List Int)).length:Int)),(19,iV s122.2),(37,iV ((rx (s122.1.set s122.2.toNat (List.replicate v91.toNat 0)) s122.2).length:Int)),(38,iV s139.2)],[(0,.mix 1 [[.adr 1 0 0]]),(1,.mix 9 [[.rptr (Mnd.cells true m_),iV (v2.length:Int),.own 2 0 v74.length,.own 3 0 v75.length,.own 4 0 b76.length,.own 7 0 ((s139.1.set s122.2.toNat ((rx s139.1 s122.2).set s139.2.toNat (-1))).length),.lst true 1 (Es Q4 v2),.own 5 0 b4.length,.cmap .str (Msi v73)]]),(2,rI v74),(3,rI v75),(4,rI b76),(5,.row 1 (Ls b4)),(6,.mix 1 [[.rptr (Mnd.cells true m_)]]),(7,.row 1 (Ls (s139.1.set s122.2.toNat ((rx s139.1 s122.2).set s139.2.toNat (-1)))))],8⟩) (Wk.rP _ [(0,0),(1,1),(2,2),(3,3),(4,4),(7,7),(5,5),(6,6)] hP (by rfl) (by simp [hhOk,back,Cat.cells,Mnd.cells,XAlgebra.cells,XAlgebras.cells,UA,U1,IA,I1,LA,L1,BA,B1,EA,E1,E2,eB,eI,eL,Qm _ Q4 _ (fun _=>rfl),Qm _ Qh _ (fun _=>rfl)])) ?_;refine Q5 ?_;refine Qv [] mo (by rw [hN];decide) fun K hK=>?_;replace h:=Q6 h;obtain ⟨a144,h⟩:=h;replace h:=Q6 h;obtain ⟨a145,h⟩:=h;simp [-Q0,-Q7,-Q1,-Q8,-Q2,at_I a144,at_I a145];(repeat refine sdQ ?_);refine hK _ ?_;clear hK K;refine tn ?_
      refine Q9 (st':=⟨[(0,.adr 1 0 1),(1,.fn 104 [.adr 0 0 0,.adr 6 0 0]),(4,iV v91),(5,iV s122.2),(6,iV s139.2),(18,iV ((List.replicate v91.toNat ([]:List Int)).length:Int)),(19,iV s122.2),(37,iV ((rx (s122.1.set s122.2.toNat (List.replicate v91.toNat 0)) s122.2).length:Int)),(38,iV s139.2),(64,.val (.bool ((ix v75 s122.2) == (ix v74 s139.2))))],[(0,.mix 1 [[.adr 1 0 0]]),(1,.mix 9 [[.rptr (Mnd.cells true m_),iV (v2.length:Int),.own 2 0 v74.length,.own 3 0 v75.length,.own 4 0 b76.length,.own 7 0 ((s139.1.set s122.2.toNat ((rx s139.1 s122.2).set s139.2.toNat (-1))).length),.lst true 1 (Es Q4 v2),.own 5 0 b4.length,.cmap .str (Msi v73)]]),(2,rI v74),(3,rI v75),(4,rI b76),(5,.row 1 (Ls b4)),(6,.mix 1 [[.rptr (Mnd.cells true m_)]]),(7,.row 1 (Ls (s139.1.set s122.2.toNat ((rx s139.1 s122.2).set s139.2.toNat (-1)))))],8⟩) (Wk.rP _ [(0,0),(1,1),(2,2),(3,3),(4,4),(7,7),(5,5),(6,6)] hP (by rfl) (by simp [hhOk,back,Cat.cells,Mnd.cells,XAlgebra.cells,XAlgebras.cells,UA,U1,IA,I1,LA,L1,BA,B1,EA,E1,E2,eB,eI,eL,Qm _ Q4 _ (fun _=>rfl),Qm _ Qh _ (fun _=>rfl)])) ?_;refine Qd rfl (fun g=>?_) fun g=>?_
      ·have g146:(ix v75 s122.2)=(ix v74 s139.2):=gQ;clear g;replace h:=if_l g146 h;refine Qv [] mo (by rw [hN];decide) fun K hK=>?_;replace h:=Q6 h;obtain ⟨a147,h⟩:=h;simp [-Q0,-Q7,-Q1,-Q8,-Q2,at_L a147];(repeat with_reducible refine sdQ ?_);replace h:=bind_some h;obtain ⟨v148,hv148,h⟩:=h;refine QL (fz:=[]) (Q2C _ _ _ _ v148 hv148) (.cons .val (.cons .val (.cons (.field rfl (by simp [Cat.cells,Mnd.cells,XAlgebra.cells,XAlgebras.cells]) (.cons (.field rfl (by simp [Cat.cells,Mnd.cells,XAlgebra.cells,XAlgebras.cells]) (.cons (.preT (by simp [Cat.cells,Mnd.cells,XAlgebra.cells,XAlgebras.cells])) (.cons .val (.cons (.whole (by simp) (by simp) (by simp)) (.cons (.whole (by simp) (by simp) (by simp)) (.cons (.whole (by simp) (by simp) (by simp)) (.cons (.whole (by simp) (by simp) (by simp)) (.cons .lst (.cons (.whole (by simp) (by simp) (by simp)) (.cons .cmap .nil)))))))))) .nil)) (.cons (.field rfl (by simp [Cat.cells,Mnd.cells,XAlgebra.cells,XAlgebras.cells]) (.cons (.preT (by simp [Cat.cells,Mnd.cells,XAlgebra.cells,XAlgebras.cells])) .nil)) .nil)))) ?_;replace h:=Q6 h;obtain ⟨a149,h⟩:=h;simp [-Q0,-Q7,-Q1,-Q8,-Q2,unk,unA,unE,unT,unC,flat,at_L a147,at_I a149];(repeat refine sdQ ?_);refine hK _ ?_;clear hK K;refine bn ?_;exact jn (b:=(s139.1.set s122.2.toNat ((rx s139.1 s122.2).set s139.2.toNat (-1))).set s122.2.toNat ((rx (s139.1.set s122.2.toNat ((rx s139.1 s122.2).set s139.2.toNat (-1))) s122.2).set s139.2.toNat v148)) (Option.some.inj h) (Wk.rP _ [(0,0),(1,1),(2,2),(3,3),(4,4),(7,7),(5,5),(6,6)] hP (by rfl) (by simp [hhOk,back,Cat.cells,Mnd.cells,XAlgebra.cells,XAlgebras.cells,UA,U1,IA,I1,LA,L1,BA,B1,EA,E1,E2,eB,eI,eL,Qm _ Q4 _ (fun _=>rfl),Qm _ Qh _ (fun _=>rfl)]))
      have g146:¬ ((ix v75 s122.2)=(ix v74 s139.2)):=gQ;clear g;replace h:=if_r g146 h;refine Qe ?_;refine bn ?_;exact jn (b:=s139.1.set s122.2.toNat ((rx s139.1 s122.2).set s139.2.toNat (-1))) (Option.some.inj h) (Wk.rP _ [(0,0),(1,1),(2,2),(3,3),(4,4),(7,7),(5,5),(6,6)] hP (by rfl) (by simp [hhOk,back,Cat.cells,Mnd.cells,XAlgebra.cells,XAlgebras.cells,UA,U1,IA,I1,LA,L1,BA,B1,EA,E1,E2,eB,eI,eL,Qm _ Q4 _ (fun _=>rfl),Qm _ Qh _ (fun _=>rfl)]))
     intro b141 hb141;have h:=h141;(try rw [← hb141] at h);clear h141;(try dsimp only at h);refine Qv [] mo (by rw [hN];decide) fun K hK=>?_;replace h:=Q6 h;obtain ⟨a150,h⟩:=h;simp [-Q0,-Q7,-Q1,-Q8,-Q2,Qu a150];(repeat refine sdQ ?_);refine hK _ ?_;clear hK K;cases h;exact rn (s':=(b141,s139.2+1)) hk139 (Wk.rP _ [(0,0),(1,1),(2,2),(3,3),(4,4),(7,7),(5,5),(6,6)] hP (by rfl) (by simp [hhOk,back,Cat.cells,Mnd.cells,XAlgebra.cells,XAlgebras.cells,UA,U1,IA,I1,LA,L1,BA,B1,EA,E1,E2,eB,eI,eL,Qm _ Q4 _ (fun _=>rfl),Qm _ Qh _ (fun _=>rfl)]))
    have g140:¬ (s139.2<((rx (s122.1.set s122.2.toNat (List.replicate v91.toNat 0)) s122.2).length:Int)):=gQ;clear g;replace h:=if_r g140 h;refine Qp ?_;refine tx ?_;refine lx ?_;refine bh ?_;refine bn ?_;cases h;have q:_=e139:=hk139;have h:=h139;rw [← q] at h;clear q;(try dsimp only at h);exact jn (b:=s139.1) (Option.some.inj h) (Wk.rP _ [(0,0),(1,1),(2,2),(3,3),(4,4),(7,7),(5,5),(6,6)] hP (by rfl) (by simp [hhOk,back,Cat.cells,Mnd.cells,XAlgebra.cells,XAlgebras.cells,UA,U1,IA,I1,LA,L1,BA,B1,EA,E1,E2,eB,eI,eL,Qm _ Q4 _ (fun _=>rfl),Qm _ Qh _ (fun _=>rfl)]))
   intro b124 hb124;have h:=h124;(try rw [← hb124] at h);clear h124;(try dsimp only at h);refine Qv [] mo (by rw [hN];decide) fun K hK=>?_;replace h:=Q6 h;obtain ⟨a151,h⟩:=h;simp [-Q0,-Q7,-Q1,-Q8,-Q2,Qu a151];(repeat refine sdQ ?_);refine hK _ ?_;clear hK K;cases h;exact rn (s':=(b124,s122.2+1)) hk122 (Wk.rP _ [(0,0),(1,1),(2,2),(3,3),(4,4),(7,7),(5,5),(6,6)] hP (by rfl) (by simp [hhOk,back,Cat.cells,Mnd.cells,XAlgebra.cells,XAlgebras.cells,UA,U1,IA,I1,LA,L1,BA,B1,EA,E1,E2,eB,eI,eL,Qm _ Q4 _ (fun _=>rfl),Qm _ Qh _ (fun _=>rfl)]))
  have g123:¬ (s122.2<((List.replicate v91.toNat ([]:List Int)).length:Int)):=gQ;clear g;replace h:=if_r g123 h;refine Qp ?_;refine tx ?_;refine lx ?_;refine bh ?_;cases h;have q:_=e122:=hk122;have h:=h122;rw [← q] at h;clear q;try dsimp only at h
  cases h;first|refine iw_r (st':=⟨[],[(0,.mix 1 [[.adr 1 0 0]]),(1,.mix 9 [[.rptr (Mnd.cells true m_),iV (v2.length:Int),.own 2 0 v74.length,.own 3 0 v75.length,.own 4 0 b76.length,.own 7 0 s122.1.length,.lst true 1 (Es Q4 v2),.own 5 0 b4.length,.cmap .str (Msi v73)]]),(2,rI v74),(3,rI v75),(4,rI b76),(5,.row 1 (Ls b4)),(6,.mix 1 [[.rptr (Mnd.cells true m_)]]),(7,.row 1 (Ls s122.1))],8⟩) ?_ ?_|refine iw_n (st':=⟨[],[(0,.mix 1 [[.adr 1 0 0]]),(1,.mix 9 [[.rptr (Mnd.cells true m_),iV (v2.length:Int),.own 2 0 v74.length,.own 3 0 v75.length,.own 4 0 b76.length,.own 7 0 s122.1.length,.lst true 1 (Es Q4 v2),.own 5 0 b4.length,.cmap .str (Msi v73)]]),(2,rI v74),(3,rI v75),(4,rI b76),(5,.row 1 (Ls b4)),(6,.mix 1 [[.rptr (Mnd.cells true m_)]]),(7,.row 1 (Ls s122.1))],8⟩) ?_ ?_
  ·exact Wk.rP _ [(0,0),(1,1),(2,2),(3,3),(4,4),(7,7),(5,5),(6,6)] hP (by rfl) (by simp [hhOk,back,Cat.cells,Mnd.cells,XAlgebra.cells,XAlgebras.cells,UA,U1,IA,I1,LA,L1,BA,B1,EA,E1,E2,eB,eI,eL,Qm _ Q4 _ (fun _=>rfl),Qm _ Qh _ (fun _=>rfl)])
  exact ⟨by simp [Q1n],by simp,by simp [Cat.cells,Mnd.cells,XAlgebra.cells,XAlgebras.cells]⟩
 simp [-Q0,-Q7,-Q1,-Q8,-Q2,unk,unA,unE,unT,unC,flat];repeat refine sdQ ?_
 refine hK _ ?_;clear hK K;refine tn ?_;refine Q9 (st':=⟨[(4,.adr 0 0 0)],[(0,.mix 1 [[.adr 1 0 0]]),(1,.mix 9 [[.rptr (Mnd.cells true m_),iV (v2.length:Int),.own 2 0 v74.length,.own 3 0 v75.length,.own 4 0 b76.length,.own 5 0 v152.length,.lst true 1 (Es Q4 v2),.own 6 0 b4.length,.cmap .str (Msi v73)]]),(2,rI v74),(3,rI v75),(4,rI b76),(5,.row 1 (Ls v152)),(6,.row 1 (Ls b4))],7⟩) (Ql [(0,0),(1,1),(2,2),(3,3),(4,4),(7,5),(5,6)]) ?_;refine Q5 ?_;refine Qv [] mo (by rw [hN];decide) fun K hK=>?_;simp [-Q0,-Q7,-Q1,-Q8,-Q2];repeat refine sdQ ?_
 refine hK _ ?_;clear hK K;refine tn ?_;refine Q9 (st':=⟨[(2,.adr 0 0 0),(3,.val (.bool true))],[(0,.mix 9 [[.rptr (Mnd.cells true m_),iV (v2.length:Int),.own 1 0 v74.length,.own 2 0 v75.length,.own 3 0 b76.length,.own 4 0 v152.length,.lst true 1 (Es Q4 v2),.own 5 0 b4.length,.cmap .str (Msi v73)]]),(1,rI v74),(2,rI v75),(3,rI b76),(4,.row 1 (Ls v152)),(5,.row 1 (Ls b4))],6⟩) (Ql [(1,0),(2,1),(3,2),(4,3),(5,4),(6,5)]) ?_;refine Qi ?_;cases h;try dsimp only
 first|refine iw_r (st':=⟨[(2,.adr 0 0 0),(3,.val (.bool true))],[(0,.mix 9 [[.rptr (Mnd.cells true m_),iV (v2.length:Int),.own 1 0 v74.length,.own 2 0 v75.length,.own 3 0 b76.length,.own 4 0 v152.length,.lst true 1 (Es Q4 v2),.own 5 0 b4.length,.cmap .str (Msi v73)]]),(1,rI v74),(2,rI v75),(3,rI b76),(4,.row 1 (Ls v152)),(5,.row 1 (Ls b4))],6⟩) ?_ ?_|refine iw_n (st':=⟨[(2,.adr 0 0 0),(3,.val (.bool true))],[(0,.mix 9 [[.rptr (Mnd.cells true m_),iV (v2.length:Int),.own 1 0 v74.length,.own 2 0 v75.length,.own 3 0 b76.length,.own 4 0 v152.length,.lst true 1 (Es Q4 v2),.own 5 0 b4.length,.cmap .str (Msi v73)]]),(1,rI v74),(2,rI v75),(3,rI b76),(4,.row 1 (Ls v152)),(5,.row 1 (Ls b4))],6⟩) ?_ ?_
 ·exact Wk.r1 [(0,0),(1,1),(2,2),(3,3),(4,4),(5,5)] (by simp [hP,hhOk,back,Cat.cells,Mnd.cells,XAlgebra.cells,XAlgebras.cells,UA,U1,IA,I1,LA,L1,BA,B1,EA,E1,E2,eB,eI,eL,Qm _ Q4 _ (fun _=>rfl),Qm _ Qh _ (fun _=>rfl)])
 exact ⟨by simp [Q1n],by simp,by simp [Cat.cells,Mnd.cells,XAlgebra.cells,XAlgebras.cells]⟩
end Go.Vc.T
