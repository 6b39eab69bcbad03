/- A part of the proof. -/
import Derived.Test.YtllnbmfplpilcaaI10
set_option maxRecDepth 100000
set_option maxHeartbeats 4000000
set_option linter.unusedSimpArgs false
set_option linter.unusedVariables false
set_option linter.unusedSectionVars false
set_option linter.unnecessarySimpa false

open Option.some renaming inj→zC
open Option renaming bind_some→zF
open List renaming replicate→qW
open Nat renaming le_refl→qD
open List renaming length_append→qE
open List renaming length_cons→qG
open List renaming length_nil→zB
open Int renaming pred_toNat→zO
namespace Go.Vc.T
open Go Go.Vc Go.Proofs
section
attribute [local simp] Qh QF Qs QT QE
theorem Q5I {c:Cat} (hc:c.Is) {V:List Int}:VarQ c V↔V.length≤4∧V.all (inR c.n)=true:=by
 have hn:=hc.nums;constructor
 ·intro h;refine ⟨h.len,?_⟩;rw [List.all_eq_true];intro x hx;obtain ⟨i,hi,rfl⟩:=List.getElem_of_mem hx;have:=h.at' i hi;rw [← Q1d _ _ hi] at this;simp only [inR,Bool.and_eq_true,decide_eq_true_eq];omega
 rintro ⟨h1,h2⟩
 refine ⟨h1,fun i hi=>?_⟩;have:=Q6z (List.all_eq_true.1 h2) (j:=i) (by omega) (by omega);unfold VN;omega
theorem Q3n {p:Prop} {b:Bool} (h:b=true↔p):b=bo p:=by
 by_cases q:p
 ·rw [QX q,h.2 q]
 rw [QH q];cases b with
 | false=>rfl
 | true=>exact absurd (h.1 rfl) q
theorem e_arrowQ (c:Cat) (f:Int):Q2t c f=some (bo (0≤f∧f<(c.fr.length:Int))):=by
 unfold Q2t
 by_cases h:f ≥ 0
 ·rw [if_pos h];simp only [zF]
  congr 1
  exact Q3n (by simp;omega)
 rw [if_neg h];simp only [zF];rw [QH (by omega)]
theorem Qa7 {c:Cat} (hc:c.Is) {V:List Int} (hV:VarQ c V) (t:XTerm) (h1:0≤t.variable_∧t.variable_<(V.length:Int)) (h2:0≤t.arrow_∧t.arrow_<(c.fr.length:Int)):(ix c.fr t.arrow_ == ix V t.variable_)=bo (TmQ c V t):=by
 obtain ⟨v1,v2⟩:=hV.at' t.variable_.toNat (by omega);obtain ⟨f1,f2,f3,f4⟩:=Q1o hc (b:=t.arrow_.toNat) (by omega);have e1:(t.variable_.toNat:Int)=t.variable_:=by omega
 have e2:(t.arrow_.toNat:Int)=t.arrow_:=by omega
 rw [e1] at v1;rw [e2] at f1;refine Q3n ?_;rw [beq_iff_eq,f1,v1];constructor
 ·intro h;exact ⟨h1,h2,by simp only [tP];omega⟩
 intro h;have:=h.f;simp only [tP] at this;omega
theorem var_b {V:List Int} (t:XTerm):(decide (0≤t.variable_) && decide (t.variable_≤(V.length:Int) - 1))=bo (0≤t.variable_∧t.variable_<(V.length:Int)):=Q3n (by simp;omega)
theorem arr_b {c:Cat} (t:XTerm):(decide (0≤t.arrow_) && decide (t.arrow_≤(c.fr.length:Int) - 1))=bo (0≤t.arrow_∧t.arrow_<(c.fr.length:Int)):=Q3n (by simp;omega)
theorem Q76 {c:Cat} (hc:c.Is) {V:List Int} (hV:VarQ c V) (t:XTerm):Q2h c V t=some (bo (TmQ c V t)):=by
 have hl:=hV.len;unfold Q2h Q3g;rw [Q2 (by unfold B64;omega),var_b,e_arrowQ];simp only [zF]
 by_cases h1:0≤t.variable_∧t.variable_<(V.length:Int)
 ·rw [QX h1,if_pos rfl]
  by_cases h2:0≤t.arrow_∧t.arrow_<(c.fr.length:Int)
  ·rw [QX h2,if_pos rfl,Q2 (by omega),Q2 (by omega),Qa7 hc hV t h1 h2];rfl
  rw [QH h2,if_neg (by simp),QH (fun k=>h2 k.a)];rfl
 rw [QH h1,if_neg (by simp),QH (fun k=>h1 k.v)];rfl
theorem e_termI {c:Cat} (hc:c.Is) {q:XQuery} (hV:VarQ c q.variables_) (t:XTerm):QY c q t=some (bo (TmQ c q.variables_ t)):=by
 have hl:=hV.len;have hn:=hc.nums;unfold QY Q1t Q1s;rw [Q2 (by unfold B64;omega),var_b];simp only [zF]
 by_cases h1:0≤t.variable_∧t.variable_<(q.variables_.length:Int)
 ·rw [QX h1,if_pos rfl,Q2 (by unfold B64;omega),arr_b]
  by_cases h2:0≤t.arrow_∧t.arrow_<(c.fr.length:Int)
  ·rw [QX h2,if_pos rfl,Q2 (by omega),Q2 (by omega),Qa7 hc hV t h1 h2];rfl
  rw [QH h2,if_neg (by simp),QH (fun k=>h2 k.a)];rfl
 rw [QH h1,if_neg (by simp),QH (fun k=>h1 k.v)];rfl
def CondQ (c:Cat) (V:List Int) (t t':XTerm):Prop:=TmQ c V t∧TmQ c V t'∧toN c (tP t).2=toN c (tP t').2
theorem to_b {c:Cat} (hc:c.Is) {V:List Int} {t t':XTerm} (h:TmQ c V t) (h':TmQ c V t'):(ix c.to t.arrow_=ix c.to t'.arrow_↔toN c (tP t).2=toN c (tP t').2):=by
 obtain ⟨e1,e2,e3,e4⟩:=h.e;obtain ⟨k1,k2,k3,k4⟩:=h'.e;obtain ⟨f1,f2,f3,f4⟩:=Q1o hc e4;obtain ⟨g1,g2,g3,g4⟩:=Q1o hc k4;rw [e2,k2,f3,g3];omega
theorem e_condI {c:Cat} (hc:c.Is) {q:XQuery} (hV:VarQ c q.variables_) (t t':XTerm):QP c q t t'=some (bo (CondQ c q.variables_ t t')):=by
 have hn:=hc.nums;unfold QP;rw [e_termI hc hV,e_termI hc hV];simp only [zF]
 by_cases h1:TmQ c q.variables_ t
 ·rw [QX h1,if_pos rfl]
  by_cases h2:TmQ c q.variables_ t'
  ·have a1:=h1.a;have a2:=h2.a;rw [QX h2,if_pos rfl,Q2 (by omega),Q2 (by omega)];simp only [zF]
   congr 1
   refine Q3n ?_;rw [beq_iff_eq,to_b hc h1 h2];exact ⟨fun h=>⟨h1,h2,h⟩,fun h=>h.2.2⟩
  rw [QH h2,if_neg (by simp),QH (fun k=>h2 k.2.1)];rfl
 rw [QH h1,if_neg (by simp),QH (fun k=>h1 k.1)];rfl
theorem qis_mk {c:Cat} (hc:c.Is) {q:XQuery} (hV:VarQ c q.variables_) (h1:q.left_.length≤6) (h2:q.right_.length=q.left_.length) (h3:q.output_.length≤4) (h4:q.output_.all (inR (q.variables_.length:Int))=true) (h5:∀ i:Nat,i<q.left_.length→CondQ c q.variables_ (gx q.left_ i) (gx q.right_ i)):QIs c q :=
 ⟨hV,h1,h2,fun i hi=>(h5 i hi).1,fun i hi=>(h5 i hi).2.1,fun i hi=>(h5 i hi).2.2,h3,List.all_eq_true.1 h4⟩
theorem QIs.cond {c:Cat} {q:XQuery} (h:QIs c q) {i:Nat} (hi:i<q.left_.length):CondQ c q.variables_ (gx q.left_ i) (gx q.right_ i):=⟨h.cl i hi,h.cr i hi,h.ct i hi⟩
theorem Q7E (c:Cat) (q:XQuery):Q2d c q=some (bo (c.Is∧QIs c q)):=by
 unfold Q2d Q4N Q3h
 by_cases hc:c.Is
 case neg=>simp [QH hc,QH (fun k:c.Is∧QIs c q=>hc k.1)]
 have hn:=hc.nums;rw [QX hc];simp only [zF,not_true_eq_false,if_false]
 by_cases h1:(q.variables_.length:Int) > 4
 ·rw [if_pos h1,QH (fun k=>by have:=k.2.v.len;omega)];simp
 rw [if_neg h1]
 by_cases h2:q.variables_.all (inR c.n)=true
 case neg=>rw [if_pos h2,QH (fun k=>h2 ((Q5I hc).1 k.2.v).2)];simp
 have hV:VarQ c q.variables_:=(Q5I hc).2 ⟨by omega,h2⟩;rw [h2];simp only [not_true_eq_false,if_false]
 by_cases h3:(q.left_.length:Int) > 6
 ·rw [if_pos h3,QH (fun k=>by have:=k.2.nl;omega)];simp
 rw [if_neg h3]
 by_cases h4:(q.right_.length:Int)=(q.left_.length:Int)
 case neg=>rw [if_pos h4,QH (fun k=>by have:=k.2.lr;omega)];simp
 rw [if_neg (by omega)]
 by_cases h5:(q.output_.length:Int) > 4
 ·rw [if_pos h5,QH (fun k=>by have:=k.2.nout;omega)];simp
 rw [if_neg h5]
 by_cases h6:q.output_.all (inR (q.variables_.length:Int))=true
 case neg =>
  have h6':q.output_.all (inR (q.variables_.length:Int))=false:=by simpa using h6
  rw [h6',QH (fun k=>h6 (List.all_eq_true.2 k.2.out))];simp
 rw [h6];simp only [zF,Bool.not_true,Bool.false_eq_true,if_false];refine Q4C q.left_.length (fun i=>¬ CondQ c q.variables_ (gx q.left_ i) (gx q.right_ i)) (eb:=fun _=>Sum.inr false) (eg:=Sum.inl ()) (by omega) (fun i hi hp=>?_) (fun i hi hp=>?_) (by simp) (fun m hm hp _=>?_) fun hp=>?_
 ·have k:=Classical.not_not.1 hp;have a1:=k.1.a;have a2:=k.2.1.a;rw [if_pos (by omega),Q2 (by omega),Q76 hc hV,QX k.1];simp only [zF,not_true_eq_false,if_false];rw [Q2 (by omega),Q76 hc hV,QX k.2.1];simp only [zF,not_true_eq_false,if_false];rw [Q2 (by omega),Q2 (by omega),Q2 (by omega),Q2 (by omega)];simp only [zF];rw [if_neg (by simp [(to_b hc k.1 k.2.1).2 k.2.2]),Q2 (by unfold B64;omega)]
 ·rw [if_pos (by omega),Q2 (by omega),Q76 hc hV];simp only [zF]
  by_cases k1:TmQ c q.variables_ (gx q.left_ i)
  ·rw [QX k1,if_neg (by simp),Q2 (by omega),Q76 hc hV];simp only [zF]
   by_cases k2:TmQ c q.variables_ (gx q.right_ i)
   ·have a1:=k1.a;have a2:=k2.a;rw [QX k2,if_neg (by simp),Q2 (by omega),Q2 (by omega),Q2 (by omega),Q2 (by omega)];simp only [zF];rw [if_pos (by
     simp only [bne_iff_ne,ne_eq];exact fun w=>hp ⟨k1,k2,(to_b hc k1 k2).1 w⟩)]
   rw [QH k2,if_pos (by simp)];simp
  rw [QH k1,if_pos (by simp)];simp
 ·rw [QH (fun k=>hp (k.2.cond hm))]
 rw [QX ⟨hc,qis_mk hc hV (by omega) (by omega) (by omega) h6 fun i hi=>Classical.not_not.1 (hp i hi)⟩]
theorem Q6E {c:Cat} (hc:c.Is) (q:XQuery):Q12 c q=some (bo (QIs c q)):=by
 unfold Q12 Q2c;have hn:=hc.nums
 by_cases h1:(q.variables_.length:Int) > 4
 ·rw [if_pos h1,QH (fun k=>by have:=k.v.len;omega)];simp
 rw [if_neg h1,Q2 (by unfold B64;omega)];simp only [zF]
 by_cases h2:q.variables_.all (inR c.n)=true
 case neg=>rw [if_pos h2,QH (fun k=>h2 ((Q5I hc).1 k.v).2)];simp
 have hV:VarQ c q.variables_:=(Q5I hc).2 ⟨by omega,h2⟩;rw [h2];simp only [not_true_eq_false,if_false]
 by_cases h3:(q.left_.length:Int) > 6
 ·rw [if_pos h3,QH (fun k=>by have:=k.nl;omega)];simp
 rw [if_neg h3]
 by_cases h4:(q.right_.length:Int)=(q.left_.length:Int)
 case neg =>
  have:((q.right_.length:Int) != (q.left_.length:Int))=true:=by simpa using fun w=>h4 (by omega)
  rw [this,QH (fun k=>by have:=k.lr;omega)];simp
 have h4':((q.right_.length:Int) != (q.left_.length:Int))=false:=by simp;omega
 rw [h4'];simp only [zF,Bool.false_eq_true,if_false];refine Q4C q.left_.length (fun i=>¬ CondQ c q.variables_ (gx q.left_ i) (gx q.right_ i)) (eb:=fun _=>Sum.inr false) (eg:=Sum.inl ()) (by omega) (fun i hi hp=>?_) (fun i hi hp=>?_) (by simp) (fun m hm hp _=>?_) fun hp=>?_
 ·have k:=Classical.not_not.1 hp;rw [if_pos (by omega),Q2 (by omega),Q2 (by omega),e_condI hc hV,QX k];simp only [zF,not_true_eq_false,if_false];rw [Q2 (by unfold B64;omega)]
 ·rw [if_pos (by omega),Q2 (by omega),Q2 (by omega),e_condI hc hV,QH hp];simp
 ·simp only;rw [QH (fun k=>hp (k.cond hm))]
 simp only
 by_cases h5:(q.output_.length:Int)≤4
 ·rw [if_pos h5,Q2 (by unfold B64;omega)];simp only [zF]
  congr 1
  refine Q3n ⟨fun h6=>qis_mk hc hV (by omega) (by omega) (by omega) h6 fun i hi=>Classical.not_not.1 (hp i hi),fun k=>List.all_eq_true.2 k.out⟩
 rw [if_neg h5,QH (fun k=>by have:=k.nout;omega)];simp
theorem e_areQ (c:Cat) (L:List XQuery) (hl:L.length≤1000):Q1Q c L=some (bo (c.Is∧∀ i:Nat,i<L.length→QIs c (gx L i))):=by
 unfold Q1Q Q15
 by_cases hc:c.Is
 case neg=>simp [QH hc,QH (fun k:c.Is∧∀ i:Nat,i<L.length→QIs c (gx L i)=>hc k.1)]
 rw [QX hc];simp only [zF,not_true_eq_false,if_false];refine Q4C L.length (fun i=>¬ QIs c (gx L i)) (eb:=fun _=>Sum.inr false) (eg:=Sum.inl ()) (by omega) (fun i hi hp=>?_) (fun i hi hp=>?_) (by simp) (fun m hm hp _=>?_) fun hp=>?_
 ·rw [if_pos (by omega),Q2 (by omega),Q6E hc,QX (Classical.not_not.1 hp)];simp only [zF,not_true_eq_false,if_false];rw [Q2 (by unfold B64;omega)]
 ·rw [if_pos (by omega),Q2 (by omega),Q6E hc,QH hp];simp
 ·simp only;rw [QH (fun k=>hp (k.2 m hm))]
 simp only;rw [QX ⟨hc,fun i hi=>Classical.not_not.1 (hp i hi)⟩]
end
attribute [local simp] unk unA unE unT unC flat eL eI Qf QI Qg Q6 XCanonical.cells XPairint64.cells XQuery.cells
noncomputable def QR (k_:XCanonical):Option (List Int) :=
 (QA (σ:=List Int × Int) (ε:=List Int) (fun s7 =>
  if s7.2<(k_.q_.variables_.length:Int) then
   ass (0≤s7.2∧s7.2<(k_.q_.variables_.length:Int)) <|
   ass (0≤ix k_.q_.variables_ s7.2∧ix k_.q_.variables_ s7.2<(k_.sets_.s.id.length:Int)) <|
   ass ((s7.1++[(QV (⟨s7.2,ix k_.sets_.s.id (ix k_.q_.variables_ s7.2)⟩:XPairint64) k_.class_).getD 0]).length≤1073741824) <|
   ass (B64 (s7.2+1)) <|
   some (Ctl.next (s7.1++[(QV (⟨s7.2,ix k_.sets_.s.id (ix k_.q_.variables_ s7.2)⟩:XPairint64) k_.class_).getD 0],s7.2+1))
  else
   some (Ctl.ret s7.1)) fuel ([],0)).bind fun b1 =>
 some b1
theorem Qo {F : Fx} {st st' : St} (m : List (Nat × Nat)) (h : (m.map Prod.fst).Nodup ∧ (m.map Prod.snd).Nodup ∧ (∀ id, id < F.pins → look id m = some id) ∧ (∀ p ∈ m, p.2 < st'.n) ∧ (∀ p ∈ st'.h, p.1 < st'.n) ∧ (∀ p ∈ st'.s, p.2 = rl m (st.get p.1) ∨ p.2 = .bot) ∧ ∀ p ∈ st'.h, hhOk m st.h p.1 p.2 := by simp [hP, hhOk, back, idQ, XCanonical.cells, XPairint64.cells, XQuery.cells, UA, U1, IA, I1, LA, L1, BA, B1, EA, E1, E2, eB, eI, eL, Q5 _ QI _ (fun _=>rfl), Q5 _ Qg _ (fun _=>rfl), Q5 _ Q6 _ (fun _=>rfl), SF.cells, XTerm.cells, Q5 _ Qe _ (fun _=>rfl), Qx, Q5 _ Qx _ (fun _=>rfl), Cat.cells]) : Wk F st st' := Wk.r1 m h
theorem Q1N {F : Fx} {st st' : St} (m : Nat) (h : ((idQ m).map Prod.fst).Nodup ∧ ((idQ m).map Prod.snd).Nodup ∧ (∀ id, id < F.pins → look id (idQ m) = some id) ∧ (∀ p ∈ (idQ m), p.2 < st'.n) ∧ (∀ p ∈ st'.h, p.1 < st'.n) ∧ (∀ p ∈ st'.s, p.2 = rl (idQ m) (st.get p.1) ∨ p.2 = .bot) ∧ ∀ p ∈ st'.h, hhOk (idQ m) st.h p.1 p.2 := by simp [hP, hhOk, back, idQ, XCanonical.cells, XPairint64.cells, XQuery.cells, UA, U1, IA, I1, LA, L1, BA, B1, EA, E1, E2, eB, eI, eL, Q5 _ QI _ (fun _=>rfl), Q5 _ Qg _ (fun _=>rfl), Q5 _ Q6 _ (fun _=>rfl), SF.cells, XTerm.cells, Q5 _ Qe _ (fun _=>rfl), Qx, Q5 _ Qx _ (fun _=>rfl), Cat.cells]) : Wk F st st' := Wk.r1 (idQ m) h
@[simp] abbrev Yb (a:XCanonical) (b:List (Nat × AV)):List (Nat × AV):=(0,.rptr [.rptr (XQuery.cells true a.q_),iV a.sets_.s.n,lI a.sets_.s.fr,lI a.sets_.s.to,lI a.sets_.s.id,.lst true 1 (Ls a.sets_.s.cs),lI a.sets_.sz,.lst true 1 (Ls a.sets_.ac),.cmap (.st 2) (Qi a.class_)])::b
@[simp] abbrev YL (a:XCanonical) (b:List (Nat × AV)):List (Nat × AV):=(13,lI a.q_.variables_)::(14,iV (a.q_.variables_.length:Int))::b
theorem Q3Y (k_:XCanonical) (r:List Int) (h:QR k_=some r):Contract Try.prog 37 [.rptr (k_.cells true)] (lI r):=by
 refine Qd (rvs:=[.tmp 2]) (rs:=[lI r]) Try.func37 rfl rfl rfl rfl (by simp [Try.f37]) fun F hN hP=>?_;unfold QR at h;refine Q1 (runQ hN fun K hK=>?_);simp;repeat refine sdQ ?_
 refine hK _ ?_;clear hK K;refine tn (Q4 (st':=⟨Yb k_ [],[],0⟩) (Qo []) (Q1 (runQ hN fun K hK=>?_)));simp;repeat refine sdQ ?_
 refine hK _ ?_;clear hK K;refine tn (Q4 (st':=⟨Yb k_ [(3,.own 0 0 0)],[(0,.mix 1 [])],1⟩) (Qo [(0,0)]) (Q1 (Q1 (runQ hN fun K hK=>?_))));simp;repeat refine sdQ ?_
 refine hK _ (tn (Q4 (st':=⟨Yb k_ ((3,.own 0 0 0)::YL k_ [(15,iV 0)]),[(0,.mix 1 [])],1⟩) (Qo [(0,0)]) ?_));clear hK K;replace ⟨e1,h,h1⟩:=bind_some h;refine Qk (fun b1:List Int=>⟨[(3,.own 0 0 b1.length)],[(0,rI b1)],1⟩) (fun b1=>b1=e1) ?_ ?_
 ·refine Q7 (Qu h (fun s7:List Int × Int=>⟨Yb k_ ((3,.own 0 0 s7.1.length)::YL k_ [(15,iV s7.2)]),[(0,rI s7.1)],1⟩) (Q2V ⟨Yb k_ ((3,.own 0 0 0)::YL k_ [(15,iV 0)]),[(0,rI [])],1⟩ (Wk.nils [] (by simp) (by simp) (by simp [nlA]) (by simp [entN,nlL,nlA,XCanonical.cells,XPairint64.cells,XQuery.cells,UA,U1,IA,I1,LA,L1,BA,B1,EA,E1,E2,eB,eI,eL,Q5 _ QI _ (fun _=>rfl),Q5 _ Qg _ (fun _=>rfl),Q5 _ Q6 _ (fun _=>rfl)]) (by simp)) (Qo [(0,0)])) ?_);clear h;intro k7 s7 c7 h hk7;refine Q1 (runQ hN fun K hK=>?_);simp;repeat refine sdQ ?_
  refine hK _ ?_;clear hK K;refine tn (Q1 (Qa rfl (fun g=>?_) fun g=>?_))
  ·have g8:s7.2<(k_.q_.variables_.length:Int):=gQ;clear g;replace h:=if_l g8 h;refine Qc (tn (Q1 (Q7 (Q1 (runQ hN fun K hK=>?_)))));replace ⟨a9,h⟩:=Q0 h;simp [at_I a9];(repeat refine sdQ ?_);refine hK _ ?_;clear hK K;refine tn (Q4 (st':=⟨Yb k_ ((3,.own 0 0 s7.1.length)::(4,iV s7.2)::(5,iV (ix k_.q_.variables_ s7.2))::YL k_ [(15,iV s7.2)]),[(0,rI s7.1)],1⟩) (Qo [(0,0)]) (Qn [] mo (by rw [hN];decide) fun K hK=>?_));replace ⟨a10,h⟩:=Q0 h;replace ⟨a11,h⟩:=Q0 h;(try simp only [qE,qG,zB] at a11);simp [at_I a10,a11];(repeat refine sdQ ?_);refine hK _ ?_;clear hK K;refine bn (tn (Q4 (st':=⟨Yb k_ ((3,.own 0 0 ((s7.1++[(QV (⟨s7.2,ix k_.sets_.s.id (ix k_.q_.variables_ s7.2)⟩:XPairint64) k_.class_).getD 0]).length))::YL k_ [(15,iV s7.2)]),[(0,rI (s7.1++[(QV (⟨s7.2,ix k_.sets_.s.id (ix k_.q_.variables_ s7.2)⟩:XPairint64) k_.class_).getD 0]))],1⟩) (Qo [(2,0)]) (runQ hN fun K hK=>?_)));replace ⟨a12,h⟩:=Q0 h;simp [Qm a12];(repeat refine sdQ ?_);refine hK _ ?_;clear hK K;cases h;exact rn (s':=(s7.1++[(QV (⟨s7.2,ix k_.sets_.s.id (ix k_.q_.variables_ s7.2)⟩:XPairint64) k_.class_).getD 0],s7.2+1)) hk7 (Qo [(0,0)])
  have g8:¬ (s7.2<(k_.q_.variables_.length:Int)):=gQ;clear g;replace h:=if_r g8 h;refine Qp (tx (lx (bh ?_)));cases h;exact jn (b:=s7.1) hk7 (Qo [(0,0)])
 intro b1 hb1;have h:=h1;try rw [← hb1] at h
 clear h1;try dsimp only at h
 refine Q1 (runQ hN fun K hK=>?_);simp;repeat refine sdQ ?_
 refine hK _ (tn (Q4 (st':=⟨[(2,.own 0 0 b1.length)],[(0,rI b1)],1⟩) (Qo [(0,0)]) (Ql ?_)));clear hK K;have hr:=zC h;rw [← hr];refine ⟨_,(.tmp .nil),?_⟩;refine ⟨(.one rfl rfl .nil),[lI b1],[0],by simp [XCanonical.cells,XPairint64.cells,XQuery.cells,UA,U1,IA,I1,LA,L1,BA,B1,EA,E1,E2,eB,eI,eL,Q5 _ QI _ (fun _=>rfl),Q5 _ Qg _ (fun _=>rfl),Q5 _ Q6 _ (fun _=>rfl)],by simp,(UpL.refl _)⟩
section
attribute [local simp] Qh QF Qs QT QE
theorem e_generic {c:Cat} {q:XQuery} {R:Nat→Nat→Nat} {sz:List Int} {ac:List (List Int)} {m:List (XPairint64 × Int)} (hc:c.Is) (hq:QIs c q) (hm:Kd1 c q R m) :
  QR ⟨q,⟨c,sz,ac⟩,m⟩=some (genQ c q R):=by
 have hv:=hq.v.len;unfold QR;refine QN q.variables_.length (fun k=>tab k fun i=>ix (cls (R (VN q.variables_ i)) (At c q (VN q.variables_ i)).length) (plc (At c q (VN q.variables_ i)) (i,idn c (VN q.variables_ i)))) (e:=genQ c q R) rfl (by omega) (fun i hi=>?_) (by simp only;rw [if_neg (by omega)];rfl) rfl;obtain ⟨v1,v2⟩:=hq.v.at' i hi;obtain ⟨i1,i2,i3,i4⟩:=Q7Q hc v2;obtain ⟨g1,g2⟩:=gen_mem hc hq hi;have k:=hm _ g1;have p1:(⟨(i:Int),(idn c (VN q.variables_ i):Int)⟩:XPairint64)=pX (i,idn c (VN q.variables_ i)):=rfl;simp only;rw [if_pos (by omega),Q2 (by omega),v1,Q2 (by omega),i1,p1,k];simp only [Option.getD_some];rw [Q2 (by simp;omega),Q2 (by unfold B64;omega),Q1U];unfold cl;rw [g2]
end
attribute [local simp] unk unA unE unT unC flat eL eI Qf
noncomputable def Q48 (n_:Int):Option Bool :=
 (Q1t n_ 0 256).bind fun v1 =>
 some v1
theorem QaU (n_:Int) (r:Bool) (h:Q48 n_=some r):Contract Try.prog 119 [iV n_] (.val (.bool r)):=by
 refine Qd (rvs:=[.tmp 2]) (rs:=[.val (.bool r)]) Try.func119 rfl rfl rfl rfl (by simp [Try.f119]) fun F hN hP=>?_;unfold Q48 at h;refine Q1 (runQ hN fun K hK=>?_);simp;repeat refine sdQ ?_
 refine hK _ ?_;clear hK K;refine tn (Q4 (st':=⟨[(0,iV n_)],[],0⟩) (Qo []) (Q1 (runQ hN fun K hK=>?_)));simp;repeat with_reducible refine sdQ ?_
 replace ⟨v1,hv1,h⟩:=bind_some h;refine Q3 (Q3G _ _ _ v1 hv1) (.cons .val (.cons .val (.cons .val .nil))) ?_;simp;repeat refine sdQ ?_
 refine hK _ (tn (Q4 (st':=⟨[(2,.val (.bool v1))],[],0⟩) (Qo []) (Ql ?_)));clear hK K;have hr:=zC h;rw [← hr];refine ⟨_,(.tmp .nil),?_⟩;refine ⟨(.one rfl rfl .nil),[.val (.bool v1)],[],by simp [UA,U1,IA,I1,LA,L1,BA,B1,EA,E1,E2,eB,eI,eL],by simp,(UpL.refl _)⟩
attribute [local simp] unk unA unE unT unC flat eL eI Qf
noncomputable def Q2r (sizes_:List Int):Option Bool :=
 (QA (σ:=Int) (ε:=Unit ⊕ Bool) (fun s7 =>
  if s7<(sizes_.length:Int) then
   ass (0≤s7∧s7<(sizes_.length:Int)) <|
   (Q48 (ix sizes_ s7)).bind fun v10 =>
   if ¬ (v10=true) then
    some (Ctl.ret (Sum.inr false))
   else
    ass (B64 (s7+1)) <|
    some (Ctl.next (s7+1))
  else
   some (Ctl.ret (Sum.inl ()))) fuel 0).bind fun e1 =>
 match e1 with
 | .inl b1 =>
  some true
 | .inr p1 =>
  some p1
theorem Q8j (sizes_:List Int) (r:Bool) (h:Q2r sizes_=some r):Contract Try.prog 111 [lI sizes_] (.val (.bool r)):=by
 refine Qd (rvs:=[.tmp 2]) (rs:=[.val (.bool r)]) Try.func111 rfl rfl rfl rfl (by simp [Try.f111]) fun F hN hP=>?_;unfold Q2r at h;refine Q1 (runQ hN fun K hK=>?_);simp;repeat refine sdQ ?_
 refine hK _ ?_;clear hK K;refine tn (Q4 (st':=⟨[(0,lI sizes_)],[],0⟩) (Qo []) (Q1 (Q1 (runQ hN fun K hK=>?_))));simp;repeat refine sdQ ?_
 refine hK _ (tn (Q4 (st':=⟨[(5,lI sizes_),(6,iV (sizes_.length:Int)),(7,iV 0)],[],0⟩) (Qo []) ?_));clear hK K;replace ⟨e1,h,h1⟩:=bind_some h;refine Qk (fun b1:Unit=>⟨[],[],0⟩) (fun b1=>Sum.inl b1=e1) ?_ ?_
 ·refine Q7 (Qu h (fun s7:Int=>⟨[(5,lI sizes_),(6,iV (sizes_.length:Int)),(7,iV s7)],[],0⟩) (Qo []) ?_);clear h;intro k7 s7 c7 h hk7;refine Q1 (runQ hN fun K hK=>?_);simp;repeat refine sdQ ?_
  refine hK _ ?_;clear hK K;refine tn (Q1 (Qa rfl (fun g=>?_) fun g=>?_))
  ·have g8:s7<(sizes_.length:Int):=gQ;clear g;replace h:=if_l g8 h;refine Qc (tn (Q1 (Q7 (Q1 (runQ hN fun K hK=>?_)))));replace ⟨a9,h⟩:=Q0 h;simp [at_I a9];(repeat refine sdQ ?_);refine hK _ ?_;clear hK K;refine tn (Q4 (st':=⟨[(4,iV (ix sizes_ s7)),(5,lI sizes_),(6,iV (sizes_.length:Int)),(7,iV s7)],[],0⟩) (Qo []) (Q1 (runQ hN fun K hK=>?_)));simp;(repeat with_reducible refine sdQ ?_);replace ⟨v10,hv10,h⟩:=bind_some h;refine Q3 (QaU _ v10 hv10) (.cons .val .nil) ?_;simp;(repeat refine sdQ ?_);refine hK _ ?_;clear hK K;refine tn (Q4 (st':=⟨[(5,lI sizes_),(6,iV (sizes_.length:Int)),(7,iV s7),(13,.val (.bool (!v10)))],[],0⟩) (Qo []) (Qa rfl (fun g=>?_) fun g=>?_))
   ·have g11:¬ (v10=true):=gQ;clear g;replace h:=if_l g11 h;refine Q1 (runQ hN fun K hK=>?_);simp;(repeat refine sdQ ?_);refine hK _ (tn (Q4 (st':=⟨[(2,.val (.bool false))],[],0⟩) (Qo []) (Ql (br (tr (lr (br (tr ?_))))))));clear hK K;cases h;have q:_=e1:=hk7;have h:=h1;rw [← q] at h;clear q;(try dsimp only at h);have hr:=zC h;rw [← hr];refine ⟨_,(.tmp .nil),?_⟩;refine ⟨(.one rfl rfl .nil),[.val (.bool false)],[],by simp [UA,U1,IA,I1,LA,L1,BA,B1,EA,E1,E2,eB,eI,eL],by simp,(UpL.refl _)⟩
   have g11:¬ (¬ (v10=true)):=gQ;clear g;replace h:=if_r g11 h;refine Qc (bn (tn (runQ hN fun K hK=>?_)));replace ⟨a12,h⟩:=Q0 h;simp [Qm a12];(repeat refine sdQ ?_);refine hK _ ?_;clear hK K;cases h;exact rn (s':=s7+1) hk7 (Qo [])
  have g8:¬ (s7<(sizes_.length:Int)):=gQ;clear g;replace h:=if_r g8 h;refine Qp (tx (lx (bh ?_)));cases h;exact jn (b:=()) hk7 (Qo [])
 intro b1 hb1;have h:=h1;try rw [← hb1] at h
 clear h1;try dsimp only at h
 refine Q1 (runQ hN fun K hK=>?_);simp;repeat refine sdQ ?_
 refine hK _ (tn (Q4 (st':=⟨[(2,.val (.bool true))],[],0⟩) (Qo []) (Ql ?_)));clear hK K;have hr:=zC h;rw [← hr];refine ⟨_,(.tmp .nil),?_⟩;refine ⟨(.one rfl rfl .nil),[.val (.bool true)],[],by simp [UA,U1,IA,I1,LA,L1,BA,B1,EA,E1,E2,eB,eI,eL],by simp,(UpL.refl _)⟩
attribute [local simp] unk unA unE unT unC flat eL eI Qf
noncomputable def Q1C (sizes_:List Int):Option Int :=
 (QA (σ:=Int × Int) (ε:=Int ⊕ Int) (fun s8 =>
  if s8.2<(sizes_.length:Int) then
   (
    ass (0≤s8.2∧s8.2<(sizes_.length:Int)) <|
    if (ix sizes_ s8.2)=0 then
     some (Sum.inr 0)
    else
     if s8.1≤1000000000000 then
      ass (B64 (s8.1 * (ix sizes_ s8.2))) <|
      some (Sum.inl (s8.1 * (ix sizes_ s8.2)))
     else
      some (Sum.inl s8.1):Option (Int ⊕ Int)).bind fun e10 =>
   match e10 with
   | .inl b10 =>
    ass (B64 (s8.2+1)) <|
    some (Ctl.next (b10,s8.2+1))
   | .inr p10 =>
    some (Ctl.ret (Sum.inr p10))
  else
   some (Ctl.ret (Sum.inl s8.1))) fuel (1,0)).bind fun e1 =>
 match e1 with
 | .inl b1 =>
  some (if 1000000000001<b1 then 1000000000001 else b1)
 | .inr p1 =>
  some p1
theorem Q4n (sizes_:List Int) (r:Int) (h:Q1C sizes_=some r):Contract Try.prog 92 [lI sizes_] (iV r):=by
 refine Qd (rvs:=[.tmp 2]) (rs:=[iV r]) Try.func92 rfl rfl rfl rfl (by simp [Try.f92]) fun F hN hP=>?_;unfold Q1C at h;refine Q1 (runQ hN fun K hK=>?_);simp;repeat refine sdQ ?_
 refine hK _ ?_;clear hK K;refine tn (Q4 (st':=⟨[(0,lI sizes_)],[],0⟩) (Qo []) (Q1 (runQ hN fun K hK=>?_)));simp;repeat refine sdQ ?_
 refine hK _ ?_;clear hK K;refine tn (Q4 (st':=⟨[(0,lI sizes_),(3,iV 1)],[],0⟩) (Qo []) (Q1 (Q1 (runQ hN fun K hK=>?_))));simp;repeat refine sdQ ?_
 refine hK _ (tn (Q4 (st':=⟨(3,iV 1)::Y00 sizes_ [(8,iV 0)],[],0⟩) (Qo []) ?_));clear hK K;replace ⟨e1,h,h1⟩:=bind_some h;refine Qk (fun b1:Int=>⟨[(3,iV b1)],[],0⟩) (fun b1=>Sum.inl b1=e1) ?_ ?_
 ·refine Q7 (Qu h (fun s8:Int × Int=>⟨(3,iV s8.1)::Y00 sizes_ [(8,iV s8.2)],[],0⟩) (Qo []) ?_);clear h;intro k8 s8 c8 h hk8;refine Q1 (runQ hN fun K hK=>?_);simp;repeat refine sdQ ?_
  refine hK _ ?_;clear hK K;refine tn (Q1 (Qa rfl (fun g=>?_) fun g=>?_))
  ·have g9:s8.2<(sizes_.length:Int):=gQ;clear g;replace h:=if_l g9 h;refine Qc (tn (Q1 ?_));replace ⟨e10,h,h10⟩:=bind_some h;refine Qk (fun b10:Int=>⟨(3,iV b10)::Y00 sizes_ [(8,iV s8.2)],[],0⟩) (fun b10=>Sum.inl b10=e10) ?_ ?_
   ·refine Q7 (Q1 (runQ hN fun K hK=>?_));replace ⟨a11,h⟩:=Q0 h;simp [at_I a11];(repeat refine sdQ ?_);refine hK _ ?_;clear hK K;refine tn (Q4 (st':=⟨(3,iV s8.1)::(5,iV (ix sizes_ s8.2))::Y00 sizes_ [(8,iV s8.2)],[],0⟩) (Qo []) (Q1 (Q1 (runQ hN fun K hK=>?_))));simp;(repeat refine sdQ ?_);refine hK _ ?_;clear hK K;refine tn (Qa rfl (fun g=>?_) fun g=>?_)
    ·have g12:(ix sizes_ s8.2)=0:=gQ;clear g;replace h:=if_l g12 h;refine Q1 (runQ hN fun K hK=>?_);simp;(repeat refine sdQ ?_);refine hK _ (tn (Q4 (st':=⟨[(2,iV 0)],[],0⟩) (Qo []) (Ql (tr (br (tr (lr (br (tr ?_)))))))));clear hK K;cases h;have h:=h10;(try dsimp only at h);cases h;have q:_=e1:=hk8;have h:=h1;rw [← q] at h;clear q;(try dsimp only at h);have hr:=zC h;rw [← hr];refine ⟨_,(.tmp .nil),?_⟩;refine ⟨(.one rfl rfl .nil),[iV 0],[],by simp [UA,U1,IA,I1,LA,L1,BA,B1,EA,E1,E2,eB,eI,eL],by simp,(UpL.refl _)⟩
    have g12:¬ ((ix sizes_ s8.2)=0):=gQ;clear g;replace h:=if_r g12 h;refine Qc (tn (Q1 (runQ hN fun K hK=>?_)));simp;(repeat refine sdQ ?_);refine hK _ ?_;clear hK K;refine tn (Qa rfl (fun g=>?_) fun g=>?_)
    ·have g13:s8.1≤1000000000000:=gQ;clear g;replace h:=if_l g13 h;refine runQ hN fun K hK=>?_;replace ⟨a14,h⟩:=Q0 h;simp [Qm a14];(repeat refine sdQ ?_);refine hK _ (bn ?_);clear hK K;exact jn (b:=s8.1 * (ix sizes_ s8.2)) (zC h) (Qo [])
    have g13:¬ (s8.1≤1000000000000):=gQ;clear g;replace h:=if_r g13 h;refine Qc (bn ?_);exact jn (b:=s8.1) (zC h) (Qo [])
   intro b10 hb10;have h:=h10;(try rw [← hb10] at h);clear h10;(try dsimp only at h);refine runQ hN fun K hK=>?_;replace ⟨a15,h⟩:=Q0 h;simp [Qm a15];(repeat refine sdQ ?_);refine hK _ ?_;clear hK K;cases h;exact rn (s':=(b10,s8.2+1)) hk8 (Qo [])
  have g9:¬ (s8.2<(sizes_.length:Int)):=gQ;clear g;replace h:=if_r g9 h;refine Qp (tx (lx (bh ?_)));cases h;exact jn (b:=s8.1) hk8 (Qo [])
 intro b1 hb1;have h:=h1;try rw [← hb1] at h
 clear h1;try dsimp only at h
 refine Q1 (runQ hN fun K hK=>?_);simp;repeat refine sdQ ?_
 refine hK _ (tn (Q4 (st':=⟨[(2,iV (if 1000000000001<b1 then 1000000000001 else b1))],[],0⟩) (Qo []) (Ql ?_)));clear hK K;have hr:=zC h;rw [← hr];refine ⟨_,(.tmp .nil),?_⟩;refine ⟨(.one rfl rfl .nil),[iV (if 1000000000001<b1 then 1000000000001 else b1)],[],by simp [UA,U1,IA,I1,LA,L1,BA,B1,EA,E1,E2,eB,eI,eL],by simp,(UpL.refl _)⟩
attribute [local simp] unk unA unE unT unC flat
noncomputable def Q2N (sizes_:List Int) (number_:Int):Option (List Int × Int) :=
 (Q2r sizes_).bind fun v1 =>
 if ¬ (v1=true) then
  some ([],2)
 else
  (Q1C sizes_).bind fun v3 =>
  if v3 > 1000000000000 then
   some ([],3)
  else
   ass (B64 (v3 - 1)) <|
   (Q1t number_ 0 (v3 - 1)).bind fun v6 =>
   if ¬ (v6=true) then
    some ([],4)
   else
    ass (0≤(sizes_.length:Int)∧(sizes_.length:Int)≤1073741824) <|
    ass (B64 ((sizes_.length:Int) - 1)) <|
    (QA (σ:=Int × List Int × Int) (ε:=List Int) (fun s20 =>
     if s20.2.2 ≥ 0 then
      ass (0≤s20.2.2∧s20.2.2<(sizes_.length:Int)) <|
      ass (¬ ((ix sizes_ s20.2.2)=0)) <|
      ass (0≤s20.2.2∧s20.2.2<(s20.2.1.length:Int)) <|
      ass (0≤s20.2.2∧s20.2.2<(sizes_.length:Int)) <|
      ass (¬ ((ix sizes_ s20.2.2)=0)) <|
      ass (B64 (s20.1.tdiv (ix sizes_ s20.2.2))) <|
      ass (B64 (s20.2.2 - 1)) <|
      some (Ctl.next (s20.1.tdiv (ix sizes_ s20.2.2),s20.2.1.set s20.2.2.toNat (s20.1.tmod (ix sizes_ s20.2.2)),s20.2.2 - 1))
     else
      some (Ctl.ret s20.2.1)) fuel (number_,qW ((sizes_.length:Int).toNat) 0,(sizes_.length:Int) - 1)).bind fun b10 =>
    some (b10,0)
theorem Q96 (sizes_:List Int) (number_:Int) (r:List Int × Int) (h:Q2N sizes_ number_=some r):Contract Try.prog 94 [lI sizes_,iV number_] (.tup [lI r.1,iV r.2]):=by
 refine Qd (rvs:=[.tmp 4,.tmp 5]) (rs:=[lI r.1,iV r.2]) Try.func94 rfl rfl rfl rfl (by simp [Try.f94]) fun F hN hP=>?_;unfold Q2N at h;refine Q1 (runQ hN fun K hK=>?_);simp [-zO,eL,eI,Qf];repeat refine sdQ ?_
 refine hK _ ?_;clear hK K;refine tn (Q4 (st':=⟨[(0,lI sizes_),(1,iV number_)],[],0⟩) (Qo []) (Q1 (Q1 (runQ hN fun K hK=>?_))));simp [-zO,eL,eI,Qf];repeat with_reducible refine sdQ ?_
 replace ⟨v1,hv1,h⟩:=bind_some h;refine Q3 (Q8j _ v1 hv1) (.cons .lst .nil) ?_;simp [-zO,unk,unA,unE,unT,unC,flat,eL,eI,Qf];repeat refine sdQ ?_
 refine hK _ ?_;clear hK K;refine tn (Q4 (st':=⟨[(0,lI sizes_),(1,iV number_),(11,.val (.bool (!v1)))],[],0⟩) (Qo []) (Qa rfl (fun g=>?_) fun g=>?_))
 ·have g2:¬ (v1=true):=gQ;clear g;replace h:=if_l g2 h;refine Q1 (runQ hN fun K hK=>?_);simp [-zO,eL,eI,Qf];repeat refine sdQ ?_
  refine hK _ (tn (Q4 (st':=⟨[(4,nS),(5,iV 2)],[],0⟩) (Qo []) (Ql (tr ?_))));clear hK K;have hr:=zC h;rw [← hr];refine ⟨_,(.tmp (.tmp .nil)),?_⟩;refine ⟨(.one rfl rfl (.one rfl rfl .nil)),[nS,iV 2],[],by simp [UA,U1,IA,I1,LA,L1,BA,B1,EA,E1,E2,eB,eI,eL],by simp,(.cons .nil (.cons .refl .nil))⟩
 have g2:¬ (¬ (v1=true)):=gQ;clear g;replace h:=if_r g2 h;refine Qc (tn (Q1 (runQ hN fun K hK=>?_)));simp [-zO,eL,eI,Qf];repeat with_reducible refine sdQ ?_
 replace ⟨v3,hv3,h⟩:=bind_some h;refine Q3 (Q4n _ v3 hv3) (.cons .lst .nil) ?_;simp [-zO,unk,unA,unE,unT,unC,flat,eL,eI,Qf];repeat refine sdQ ?_
 refine hK _ ?_;clear hK K;refine tn (Q4 (st':=⟨[(0,lI sizes_),(1,iV number_),(6,iV v3)],[],0⟩) (Qo []) (Q1 (Q1 (runQ hN fun K hK=>?_))));simp [-zO,eL,eI,Qf];repeat refine sdQ ?_
 refine hK _ ?_;clear hK K;refine tn (Qa rfl (fun g=>?_) fun g=>?_)
 ·have g4:v3 > 1000000000000:=gQ;clear g;replace h:=if_l g4 h;refine Q1 (runQ hN fun K hK=>?_);simp [-zO,eL,eI,Qf];repeat refine sdQ ?_
  refine hK _ (tn (Q4 (st':=⟨[(4,nS),(5,iV 3)],[],0⟩) (Qo []) (Ql (tr ?_))));clear hK K;have hr:=zC h;rw [← hr];refine ⟨_,(.tmp (.tmp .nil)),?_⟩;refine ⟨(.one rfl rfl (.one rfl rfl .nil)),[nS,iV 3],[],by simp [UA,U1,IA,I1,LA,L1,BA,B1,EA,E1,E2,eB,eI,eL],by simp,(.cons .nil (.cons .refl .nil))⟩
 have g4:¬ (v3 > 1000000000000):=gQ;clear g;replace h:=if_r g4 h;refine Qc (tn (Q1 (Q1 (runQ hN fun K hK=>?_))));replace ⟨a5,h⟩:=Q0 h;simp [-zO,eL,eI,Qf,Qm a5];repeat with_reducible refine sdQ ?_
 replace ⟨v6,hv6,h⟩:=bind_some h;refine Q3 (Q3G _ _ _ v6 hv6) (.cons .val (.cons .val (.cons .val .nil))) ?_;simp [-zO,unk,unA,unE,unT,unC,flat,eL,eI,Qf];repeat refine sdQ ?_
 refine hK _ ?_;clear hK K;refine tn (Q4 (st':=⟨[(0,lI sizes_),(1,iV number_),(20,.val (.bool (!v6)))],[],0⟩) (Qo []) (Qa rfl (fun g=>?_) fun g=>?_))
 ·have g7:¬ (v6=true):=gQ;clear g;replace h:=if_l g7 h;refine Q1 (runQ hN fun K hK=>?_);simp [-zO,eL,eI,Qf];repeat refine sdQ ?_
  refine hK _ (tn (Q4 (st':=⟨[(4,nS),(5,iV 4)],[],0⟩) (Qo []) (Ql (tr ?_))));clear hK K;have hr:=zC h;rw [← hr];refine ⟨_,(.tmp (.tmp .nil)),?_⟩;refine ⟨(.one rfl rfl (.one rfl rfl .nil)),[nS,iV 4],[],by simp [UA,U1,IA,I1,LA,L1,BA,B1,EA,E1,E2,eB,eI,eL],by simp,(.cons .nil (.cons .refl .nil))⟩
 have g7:¬ (¬ (v6=true)):=gQ;clear g;replace h:=if_r g7 h;refine Qc (tn (Q1 (runQ hN fun K hK=>?_)));replace ⟨a8,h⟩:=Q0 h;simp [-zO,eL,eI,Qf];repeat refine sdQ ?_
 refine hK _ ?_;clear hK K;refine tn (Q4 (st':=⟨[(0,lI sizes_),(1,iV number_),(7,.own 0 0 ((qW ((sizes_.length:Int).toNat) 0).length))],[(0,rI (qW ((sizes_.length:Int).toNat) 0))],1⟩) (Qo [(0,0)]) (Q1 (Q1 (runQ hN fun K hK=>?_))));replace ⟨a9,h⟩:=Q0 h;simp [-zO,eL,eI,Qf,Qm a9];repeat refine sdQ ?_
 refine hK _ (tn (Q4 (st':=⟨[(0,lI sizes_),(1,iV number_),(7,.own 0 0 ((qW ((sizes_.length:Int).toNat) 0).length)),(8,iV ((sizes_.length:Int) - 1))],[(0,rI (qW ((sizes_.length:Int).toNat) 0))],1⟩) (Qo [(0,0)]) ?_));clear hK K;replace ⟨e10,h,h10⟩:=bind_some h;refine Qk (fun b10:List Int=>⟨[(7,.own 0 0 b10.length)],[(0,rI b10)],1⟩) (fun b10=>b10=e10) ?_ ?_
 ·refine Q7 (Qu h (fun s20:Int × List Int × Int=>⟨[(0,lI sizes_),(1,iV s20.1),(7,.own 0 0 s20.2.1.length),(8,iV s20.2.2)],[(0,rI s20.2.1)],1⟩) (Qo [(0,0)]) ?_);clear h;intro k20 s20 c20 h hk20;refine Q1 (Q1 (runQ hN fun K hK=>?_));simp [-zO,eL,eI,Qf];repeat refine sdQ ?_
  refine hK _ ?_;clear hK K;refine tn (Qa rfl (fun g=>?_) fun g=>?_)
  ·have g21:s20.2.2 ≥ 0:=gQ;clear g;replace h:=if_l g21 h;refine Qc (tn (Q1 (Q7 (Q1 (runQ hN fun K hK=>?_)))));replace ⟨a22,h⟩:=Q0 h;replace ⟨a23,h⟩:=Q0 h;replace ⟨a24,h⟩:=Q0 h;simp [-zO,eL,eI,Qf,at_I a22,a23,at_I a24];(repeat refine sdQ ?_);refine hK _ ?_;clear hK K;refine tn (Q4 (st':=⟨[(0,lI sizes_),(1,iV s20.1),(7,.own 0 0 ((s20.2.1.set s20.2.2.toNat (s20.1.tmod (ix sizes_ s20.2.2))).length)),(8,iV s20.2.2)],[(0,rI (s20.2.1.set s20.2.2.toNat (s20.1.tmod (ix sizes_ s20.2.2))))],1⟩) (Qo [(0,0)]) (runQ hN fun K hK=>?_));replace ⟨a25,h⟩:=Q0 h;replace ⟨a26,h⟩:=Q0 h;replace ⟨a27,h⟩:=Q0 h;simp [-zO,eL,eI,Qf,at_I a25,a26,Qm a27];(repeat refine sdQ ?_);refine hK _ ?_;clear hK K;refine bn (tn (Q4 (st':=⟨[(0,lI sizes_),(1,iV (s20.1.tdiv (ix sizes_ s20.2.2))),(7,.own 0 0 ((s20.2.1.set s20.2.2.toNat (s20.1.tmod (ix sizes_ s20.2.2))).length)),(8,iV s20.2.2)],[(0,rI (s20.2.1.set s20.2.2.toNat (s20.1.tmod (ix sizes_ s20.2.2))))],1⟩) (Qo [(0,0)]) (runQ hN fun K hK=>?_)));replace ⟨a28,h⟩:=Q0 h;simp [-zO,eL,eI,Qf,Qm a28];(repeat refine sdQ ?_);refine hK _ ?_;clear hK K;cases h;exact rn (s':=(s20.1.tdiv (ix sizes_ s20.2.2),s20.2.1.set s20.2.2.toNat (s20.1.tmod (ix sizes_ s20.2.2)),s20.2.2 - 1)) hk20 (Qo [(0,0)])
  have g21:¬ (s20.2.2 ≥ 0):=gQ;clear g;replace h:=if_r g21 h;refine Qp (tx (lx (bh ?_)));cases h;exact jn (b:=s20.2.1) hk20 (Qo [(0,0)])
 intro b10 hb10;have h:=h10;try rw [← hb10] at h
 clear h10;try dsimp only at h
 refine Q1 (runQ hN fun K hK=>?_);simp [-zO,eL,eI,Qf];repeat refine sdQ ?_
 refine hK _ (tn (Q4 (st':=⟨[(4,.own 0 0 b10.length),(5,iV 0)],[(0,rI b10)],1⟩) (Qo [(0,0)]) (Ql ?_)));clear hK K;have hr:=zC h;rw [← hr];refine ⟨_,(.tmp (.tmp .nil)),?_⟩;refine ⟨(.one rfl rfl (.one rfl rfl .nil)),[lI b10,iV 0],[0],by simp [UA,U1,IA,I1,LA,L1,BA,B1,EA,E1,E2,eB,eI,eL],by simp,(UpL.refl _)⟩
attribute [local simp] unk unA unE unT unC flat
noncomputable def Q3f (sizes_:List Int) (number_:Int):Option (List Int) :=
 ass (0≤(sizes_.length:Int)∧(sizes_.length:Int)≤1073741824) <|
 ass (B64 ((sizes_.length:Int) - 1)) <|
 (QA (σ:=Int × List Int × Int) (ε:=List Int) (fun s13 =>
  if s13.2.2 ≥ 0 then
   ass (0≤s13.2.2∧s13.2.2<(sizes_.length:Int)) <|
   ass (¬ ((ix sizes_ s13.2.2)=0)) <|
   ass (0≤s13.2.2∧s13.2.2<(s13.2.1.length:Int)) <|
   ass (0≤s13.2.2∧s13.2.2<(sizes_.length:Int)) <|
   ass (¬ ((ix sizes_ s13.2.2)=0)) <|
   ass (B64 (s13.1.tdiv (ix sizes_ s13.2.2))) <|
   ass (B64 (s13.2.2 - 1)) <|
   some (Ctl.next (s13.1.tdiv (ix sizes_ s13.2.2),s13.2.1.set s13.2.2.toNat (s13.1.tmod (ix sizes_ s13.2.2)),s13.2.2 - 1))
  else
   some (Ctl.ret s13.2.1)) fuel (number_,qW ((sizes_.length:Int).toNat) 0,(sizes_.length:Int) - 1)).bind fun b3 =>
 some b3
theorem Q8m (sizes_:List Int) (number_:Int) (r:List Int) (h:Q3f sizes_ number_=some r):Contract Try.prog 90 [lI sizes_,iV number_] (lI r):=by
 refine Qd (rvs:=[.tmp 4]) (rs:=[lI r]) Try.func90 rfl rfl rfl rfl (by simp [Try.f90]) fun F hN hP=>?_;unfold Q3f at h;refine Q1 (runQ hN fun K hK=>?_);simp [-zO,eL,eI,Qf];repeat refine sdQ ?_
 refine hK _ ?_;clear hK K;refine tn (Q4 (st':=⟨[(0,lI sizes_),(1,iV number_)],[],0⟩) (Qo []) (Q1 (runQ hN fun K hK=>?_)));replace ⟨a1,h⟩:=Q0 h;simp [-zO,eL,eI,Qf];repeat refine sdQ ?_
 refine hK _ ?_;clear hK K;refine tn (Q4 (st':=⟨[(0,lI sizes_),(1,iV number_),(5,.own 0 0 ((qW ((sizes_.length:Int).toNat) 0).length))],[(0,rI (qW ((sizes_.length:Int).toNat) 0))],1⟩) (Qo [(0,0)]) (Q1 (Q1 (runQ hN fun K hK=>?_))));replace ⟨a2,h⟩:=Q0 h;simp [-zO,eL,eI,Qf,Qm a2];repeat refine sdQ ?_
 refine hK _ (tn (Q4 (st':=⟨[(0,lI sizes_),(1,iV number_),(5,.own 0 0 ((qW ((sizes_.length:Int).toNat) 0).length)),(6,iV ((sizes_.length:Int) - 1))],[(0,rI (qW ((sizes_.length:Int).toNat) 0))],1⟩) (Qo [(0,0)]) ?_));clear hK K;replace ⟨e3,h,h3⟩:=bind_some h;refine Qk (fun b3:List Int=>⟨[(5,.own 0 0 b3.length)],[(0,rI b3)],1⟩) (fun b3=>b3=e3) ?_ ?_
 ·refine Q7 (Qu h (fun s13:Int × List Int × Int=>⟨[(0,lI sizes_),(1,iV s13.1),(5,.own 0 0 s13.2.1.length),(6,iV s13.2.2)],[(0,rI s13.2.1)],1⟩) (Qo [(0,0)]) ?_);clear h;intro k13 s13 c13 h hk13;refine Q1 (Q1 (runQ hN fun K hK=>?_));simp [-zO,eL,eI,Qf];repeat refine sdQ ?_
  refine hK _ ?_;clear hK K;refine tn (Qa rfl (fun g=>?_) fun g=>?_)
  ·have g14:s13.2.2 ≥ 0:=gQ;clear g;replace h:=if_l g14 h;refine Qc (tn (Q1 (Q7 (Q1 (runQ hN fun K hK=>?_)))));replace ⟨a15,h⟩:=Q0 h;replace ⟨a16,h⟩:=Q0 h;replace ⟨a17,h⟩:=Q0 h;simp [-zO,eL,eI,Qf,at_I a15,a16,at_I a17];(repeat refine sdQ ?_);refine hK _ ?_;clear hK K;refine tn (Q4 (st':=⟨[(0,lI sizes_),(1,iV s13.1),(5,.own 0 0 ((s13.2.1.set s13.2.2.toNat (s13.1.tmod (ix sizes_ s13.2.2))).length)),(6,iV s13.2.2)],[(0,rI (s13.2.1.set s13.2.2.toNat (s13.1.tmod (ix sizes_ s13.2.2))))],1⟩) (Qo [(0,0)]) (runQ hN fun K hK=>?_));replace ⟨a18,h⟩:=Q0 h;replace ⟨a19,h⟩:=Q0 h;replace ⟨a20,h⟩:=Q0 h;simp [-zO,eL,eI,Qf,at_I a18,a19,Qm a20];(repeat refine sdQ ?_);refine hK _ ?_;clear hK K;refine bn (tn (Q4 (st':=⟨[(0,lI sizes_),(1,iV (s13.1.tdiv (ix sizes_ s13.2.2))),(5,.own 0 0 ((s13.2.1.set s13.2.2.toNat (s13.1.tmod (ix sizes_ s13.2.2))).length)),(6,iV s13.2.2)],[(0,rI (s13.2.1.set s13.2.2.toNat (s13.1.tmod (ix sizes_ s13.2.2))))],1⟩) (Qo [(0,0)]) (runQ hN fun K hK=>?_)));replace ⟨a21,h⟩:=Q0 h;simp [-zO,eL,eI,Qf,Qm a21];(repeat refine sdQ ?_);refine hK _ ?_;clear hK K;cases h;exact rn (s':=(s13.1.tdiv (ix sizes_ s13.2.2),s13.2.1.set s13.2.2.toNat (s13.1.tmod (ix sizes_ s13.2.2)),s13.2.2 - 1)) hk13 (Qo [(0,0)])
  have g14:¬ (s13.2.2 ≥ 0):=gQ;clear g;replace h:=if_r g14 h;refine Qp (tx (lx (bh ?_)));cases h;exact jn (b:=s13.2.1) hk13 (Qo [(0,0)])
 intro b3 hb3;have h:=h3;try rw [← hb3] at h
 clear h3;try dsimp only at h
 refine Q1 (runQ hN fun K hK=>?_);simp [-zO,eL,eI,Qf];repeat refine sdQ ?_
 refine hK _ (tn (Q4 (st':=⟨[(4,.own 0 0 b3.length)],[(0,rI b3)],1⟩) (Qo [(0,0)]) (Ql ?_)));clear hK K;have hr:=zC h;rw [← hr];refine ⟨_,(.tmp .nil),?_⟩;refine ⟨(.one rfl rfl .nil),[lI b3],[0],by simp [UA,U1,IA,I1,LA,L1,BA,B1,EA,E1,E2,eB,eI,eL],by simp,(UpL.refl _)⟩
attribute [local simp] unk unA unE unT unC flat eL eI Qf
noncomputable def Q25 (sizes_:List Int) (tuple_:List Int):Option Int :=
 (QA (σ:=Int × Int) (ε:=Int) (fun s8 =>
  if s8.2<(tuple_.length:Int) then
   ass (0≤s8.2∧s8.2<(sizes_.length:Int)) <|
   ass (B64 (s8.1 * (ix sizes_ s8.2))) <|
   ass (0≤s8.2∧s8.2<(tuple_.length:Int)) <|
   ass (B64 ((s8.1 * (ix sizes_ s8.2))+(ix tuple_ s8.2))) <|
   ass (B64 (s8.2+1)) <|
   some (Ctl.next ((s8.1 * (ix sizes_ s8.2))+(ix tuple_ s8.2),s8.2+1))
  else
   some (Ctl.ret s8.1)) fuel (0,0)).bind fun b1 =>
 some b1
theorem Q7v (sizes_:List Int) (tuple_:List Int) (r:Int) (h:Q25 sizes_ tuple_=some r):Contract Try.prog 89 [lI sizes_,lI tuple_] (iV r):=by
 refine Qd (rvs:=[.tmp 4]) (rs:=[iV r]) Try.func89 rfl rfl rfl rfl (by simp [Try.f89]) fun F hN hP=>?_;unfold Q25 at h;refine Q1 (runQ hN fun K hK=>?_);simp;repeat refine sdQ ?_
 refine hK _ ?_;clear hK K;refine tn (Q4 (st':=⟨[(0,lI sizes_),(1,lI tuple_)],[],0⟩) (Qo []) (Q1 (runQ hN fun K hK=>?_)));simp;repeat refine sdQ ?_
 refine hK _ ?_;clear hK K;refine tn (Q4 (st':=⟨[(0,lI sizes_),(1,lI tuple_),(5,iV 0)],[],0⟩) (Qo []) (Q1 (Q1 (runQ hN fun K hK=>?_))));simp;repeat refine sdQ ?_
 refine hK _ (tn (Q4 (st':=⟨[(0,lI sizes_),(1,lI tuple_),(5,iV 0),(6,iV 0)],[],0⟩) (Qo []) ?_));clear hK K;replace ⟨e1,h,h1⟩:=bind_some h;refine Qk (fun b1:Int=>⟨[(5,iV b1)],[],0⟩) (fun b1=>b1=e1) ?_ ?_
 ·refine Q7 (Qu h (fun s8:Int × Int=>⟨[(0,lI sizes_),(1,lI tuple_),(5,iV s8.1),(6,iV s8.2)],[],0⟩) (Qo []) ?_);clear h;intro k8 s8 c8 h hk8;refine Q1 (Q1 (runQ hN fun K hK=>?_));simp;repeat refine sdQ ?_
  refine hK _ ?_;clear hK K;refine tn (Qa rfl (fun g=>?_) fun g=>?_)
  ·have g9:s8.2<(tuple_.length:Int):=gQ;clear g;replace h:=if_l g9 h;refine Qc (tn (Q1 (Q7 (runQ hN fun K hK=>?_))));replace ⟨a10,h⟩:=Q0 h;replace ⟨a11,h⟩:=Q0 h;replace ⟨a12,h⟩:=Q0 h;replace ⟨a13,h⟩:=Q0 h;simp [at_I a10,Qm a11,at_I a12,Qm a13];(repeat refine sdQ ?_);refine hK _ ?_;clear hK K;refine bn (tn (Q4 (st':=⟨[(0,lI sizes_),(1,lI tuple_),(5,iV ((s8.1 * (ix sizes_ s8.2))+(ix tuple_ s8.2))),(6,iV s8.2)],[],0⟩) (Qo []) (runQ hN fun K hK=>?_)));replace ⟨a14,h⟩:=Q0 h;simp [Qm a14];(repeat refine sdQ ?_);refine hK _ ?_;clear hK K;cases h;exact rn (s':=((s8.1 * (ix sizes_ s8.2))+(ix tuple_ s8.2),s8.2+1)) hk8 (Qo [])
  have g9:¬ (s8.2<(tuple_.length:Int)):=gQ;clear g;replace h:=if_r g9 h;refine Qp (tx (lx (bh ?_)));cases h;exact jn (b:=s8.1) hk8 (Qo [])
 intro b1 hb1;have h:=h1;try rw [← hb1] at h
 clear h1;try dsimp only at h
 refine Q1 (runQ hN fun K hK=>?_);simp;repeat refine sdQ ?_
 refine hK _ (tn (Q4 (st':=⟨[(4,iV b1)],[],0⟩) (Qo []) (Ql ?_)));clear hK K;have hr:=zC h;rw [← hr];refine ⟨_,(.tmp .nil),?_⟩;refine ⟨(.one rfl rfl .nil),[iV b1],[],by simp [UA,U1,IA,I1,LA,L1,BA,B1,EA,E1,E2,eB,eI,eL],by simp,(UpL.refl _)⟩
attribute [local simp] unk unA unE unT unC flat eL eI Qf
noncomputable def Q1E (sizes_:List Int):Option Int :=
 (QA (σ:=Int) (ε:=Unit ⊕ Int) (fun s6 =>
  if s6<(sizes_.length:Int) then
   ass (0≤s6∧s6<(sizes_.length:Int)) <|
   if (ix sizes_ s6)=0 then
    some (Ctl.ret (Sum.inr 0))
   else
    ass (B64 (s6+1)) <|
    some (Ctl.next (s6+1))
  else
   some (Ctl.ret (Sum.inl ()))) fuel 0).bind fun e1 =>
 match e1 with
 | .inl b1 =>
  (QA (σ:=Int × Int) (ε:=Int ⊕ Int) (fun s20 =>
   if s20.2<(sizes_.length:Int) then
    ass (0≤s20.2∧s20.2<(sizes_.length:Int)) <|
    ass (¬ ((ix sizes_ s20.2)=0)) <|
    ass (B64 ((1000000000000:Int).tdiv (ix sizes_ s20.2))) <|
    if s20.1 > ((1000000000000:Int).tdiv (ix sizes_ s20.2)) then
     some (Ctl.ret (Sum.inr (-1)))
    else
     ass (0≤s20.2∧s20.2<(sizes_.length:Int)) <|
     ass (B64 (s20.1 * (ix sizes_ s20.2))) <|
     ass (B64 (s20.2+1)) <|
     some (Ctl.next (s20.1 * (ix sizes_ s20.2),s20.2+1))
   else
    some (Ctl.ret (Sum.inl s20.1))) fuel (1,0)).bind fun e11 =>
  match e11 with
  | .inl b11 =>
   some b11
  | .inr p11 =>
   some p11
 | .inr p1 =>
  some p1
theorem Q40 (sizes_:List Int) (r:Int) (h:Q1E sizes_=some r):Contract Try.prog 86 [lI sizes_] (iV r):=by
 refine Qd (rvs:=[.tmp 2]) (rs:=[iV r]) Try.func86 rfl rfl rfl rfl (by simp [Try.f86]) fun F hN hP=>?_;unfold Q1E at h;refine Q1 (runQ hN fun K hK=>?_);simp;repeat refine sdQ ?_
 refine hK _ ?_;clear hK K;refine tn (Q4 (st':=⟨[(0,lI sizes_)],[],0⟩) (Qo []) (Q1 (Q1 (runQ hN fun K hK=>?_))));simp;repeat refine sdQ ?_
 refine hK _ (tn (Q4 (st':=⟨[(0,lI sizes_),(3,iV 0)],[],0⟩) (Qo []) ?_));clear hK K;replace ⟨e1,h,h1⟩:=bind_some h;refine Qk (fun b1:Unit=>⟨[(0,lI sizes_)],[],0⟩) (fun b1=>Sum.inl b1=e1) ?_ ?_
 ·refine Q7 (Qu h (fun s6:Int=>⟨[(0,lI sizes_),(3,iV s6)],[],0⟩) (Qo []) ?_);clear h;intro k6 s6 c6 h hk6;refine Q1 (Q1 (runQ hN fun K hK=>?_));simp;repeat refine sdQ ?_
  refine hK _ ?_;clear hK K;refine tn (Qa rfl (fun g=>?_) fun g=>?_)
  ·have g7:s6<(sizes_.length:Int):=gQ;clear g;replace h:=if_l g7 h;refine Qc (tn (Q1 (Q7 (Q1 (runQ hN fun K hK=>?_)))));replace ⟨a8,h⟩:=Q0 h;simp [at_I a8];(repeat refine sdQ ?_);refine hK _ ?_;clear hK K;refine tn (Qa rfl (fun g=>?_) fun g=>?_)
   ·have g9:(ix sizes_ s6)=0:=gQ;clear g;replace h:=if_l g9 h;refine Q1 (runQ hN fun K hK=>?_);simp;(repeat refine sdQ ?_);refine hK _ (tn (Q4 (st':=⟨[(2,iV 0)],[],0⟩) (Qo []) (Ql (br (tr (lr (br (tr ?_))))))));clear hK K;cases h;have q:_=e1:=hk6;have h:=h1;rw [← q] at h;clear q;(try dsimp only at h);have hr:=zC h;rw [← hr];refine ⟨_,(.tmp .nil),?_⟩;refine ⟨(.one rfl rfl .nil),[iV 0],[],by simp [UA,U1,IA,I1,LA,L1,BA,B1,EA,E1,E2,eB,eI,eL],by simp,(UpL.refl _)⟩
   have g9:¬ ((ix sizes_ s6)=0):=gQ;clear g;replace h:=if_r g9 h;refine Qc (bn (tn (runQ hN fun K hK=>?_)));replace ⟨a10,h⟩:=Q0 h;simp [Qm a10];(repeat refine sdQ ?_);refine hK _ ?_;clear hK K;cases h;exact rn (s':=s6+1) hk6 (Qo [])
  have g7:¬ (s6<(sizes_.length:Int)):=gQ;clear g;replace h:=if_r g7 h;refine Qp (tx (lx (bh ?_)));cases h;exact jn (b:=()) hk6 (Qo [])
 intro b1 hb1;have h:=h1;try rw [← hb1] at h
 clear h1;try dsimp only at h
 refine Q1 (runQ hN fun K hK=>?_);simp;repeat refine sdQ ?_
 refine hK _ ?_;clear hK K;refine tn (Q4 (st':=⟨[(0,lI sizes_),(4,iV 1)],[],0⟩) (Qo []) (Q1 (Q1 (runQ hN fun K hK=>?_))));simp;repeat refine sdQ ?_
 refine hK _ (tn (Q4 (st':=⟨[(0,lI sizes_),(4,iV 1),(5,iV 0)],[],0⟩) (Qo []) ?_));clear hK K;replace ⟨e11,h,h11⟩:=bind_some h;refine Qk (fun b11:Int=>⟨[(4,iV b11)],[],0⟩) (fun b11=>Sum.inl b11=e11) ?_ ?_
 ·refine Q7 (Qu h (fun s20:Int × Int=>⟨[(0,lI sizes_),(4,iV s20.1),(5,iV s20.2)],[],0⟩) (Qo []) ?_);clear h;intro k20 s20 c20 h hk20;refine Q1 (Q1 (runQ hN fun K hK=>?_));simp;repeat refine sdQ ?_
  refine hK _ ?_;clear hK K;refine tn (Qa rfl (fun g=>?_) fun g=>?_)
  ·have g21:s20.2<(sizes_.length:Int):=gQ;clear g;replace h:=if_l g21 h;refine Qc (tn (Q1 (Q7 (Q1 (Q1 (runQ hN fun K hK=>?_))))));replace ⟨a22,h⟩:=Q0 h;replace ⟨a23,h⟩:=Q0 h;replace ⟨a24,h⟩:=Q0 h;simp [at_I a22,a23,Qm a24];(repeat refine sdQ ?_);refine hK _ ?_;clear hK K;refine tn (Qa rfl (fun g=>?_) fun g=>?_)
   ·have g25:s20.1 > ((1000000000000:Int).tdiv (ix sizes_ s20.2)):=gQ;clear g;replace h:=if_l g25 h;refine Q1 (runQ hN fun K hK=>?_);simp;(repeat refine sdQ ?_);refine hK _ (tn (Q4 (st':=⟨[(2,iV (-1))],[],0⟩) (Qo []) (Ql (tr (br (tr (lr (br (tr ?_)))))))));clear hK K;cases h;have q:_=e11:=hk20;have h:=h11;rw [← q] at h;clear q;(try dsimp only at h);have hr:=zC h;rw [← hr];refine ⟨_,(.tmp .nil),?_⟩;refine ⟨(.one rfl rfl .nil),[iV (-1)],[],by simp [UA,U1,IA,I1,LA,L1,BA,B1,EA,E1,E2,eB,eI,eL],by simp,(UpL.refl _)⟩
   have g25:¬ (s20.1 > ((1000000000000:Int).tdiv (ix sizes_ s20.2))):=gQ;clear g;replace h:=if_r g25 h;refine Qc (tn (runQ hN fun K hK=>?_));replace ⟨a26,h⟩:=Q0 h;replace ⟨a27,h⟩:=Q0 h;simp [at_I a26,Qm a27];(repeat refine sdQ ?_);refine hK _ ?_;clear hK K;refine bn (tn (Q4 (st':=⟨[(0,lI sizes_),(4,iV (s20.1 * (ix sizes_ s20.2))),(5,iV s20.2)],[],0⟩) (Qo []) (runQ hN fun K hK=>?_)));replace ⟨a28,h⟩:=Q0 h;simp [Qm a28];(repeat refine sdQ ?_);refine hK _ ?_;clear hK K;cases h;exact rn (s':=(s20.1 * (ix sizes_ s20.2),s20.2+1)) hk20 (Qo [])
  have g21:¬ (s20.2<(sizes_.length:Int)):=gQ;clear g;replace h:=if_r g21 h;refine Qp (tx (lx (bh ?_)));cases h;exact jn (b:=s20.1) hk20 (Qo [])
 intro b11 hb11;have h:=h11;try rw [← hb11] at h
 clear h11;try dsimp only at h
 refine Q1 (runQ hN fun K hK=>?_);simp;repeat refine sdQ ?_
 refine hK _ (tn (Q4 (st':=⟨[(2,iV b11)],[],0⟩) (Qo []) (Ql ?_)));clear hK K;have hr:=zC h;rw [← hr];refine ⟨_,(.tmp .nil),?_⟩;refine ⟨(.one rfl rfl .nil),[iV b11],[],by simp [UA,U1,IA,I1,LA,L1,BA,B1,EA,E1,E2,eB,eI,eL],by simp,(UpL.refl _)⟩
section
attribute [local simp] Qh QF Qs QT QE
structure SzQ (S:List Int):Prop where
 len:S.length≤4
 b:∀ i:Nat,i<S.length→0≤ix S i∧ix S i≤16
def prN (S:List Int):Nat→Int
 | 0=>1
 | i+1=>prN S i * ix S i
theorem prN_b {S:List Int} (h:SzQ S):∀ i,i≤S.length→0≤prN S i∧prN S i≤(16:Int) ^ i:=by
 intro i
 induction i with
 | zero=>intro _;simp [prN]
 | succ i ih =>
  intro hi;have h1:=ih (by omega);have h2:=h.b i (by omega);simp only [prN];refine ⟨Int.mul_nonneg h1.1 h2.1,?_⟩;rw [Int.pow_succ];exact Int.mul_le_mul h1.2 h2.2 h2.1 (Int.le_trans h1.1 h1.2)
theorem Q3K {S:List Int} (h:SzQ S) {i:Nat} (hi:i≤S.length):0≤prN S i∧prN S i≤65536:=by
 have h1:=prN_b h i hi;have h2:=h.len;have h3:i=0∨i=1∨i=2∨i=3∨i=4:=by omega
 rcases h3 with rfl|rfl|rfl|rfl|rfl<;>simp at h1<;>omega
theorem Q7l {S:List Int} {m:Nat} (h0:ix S m=0):∀ i,m<i→prN S i=0:=by
 intro i
 induction i with
 | zero=>intro h;omega
 | succ i ih =>
  intro h;simp only [prN]
  by_cases e:m=i
  ·subst e;rw [h0];simp
  rw [ih (by omega)];simp
theorem tdiv_big {v:Int} (h1:1≤v) (h2:v≤16):62500000000≤(1000000000000:Int).tdiv v∧(1000000000000:Int).tdiv v≤1000000000000:=by
 rw [Int.tdiv_eq_ediv_of_nonneg (by omega)];exact ⟨(Int.le_ediv_iff_mul_le (by omega)).2 (by omega),Int.ediv_le_self _ (by omega)⟩
theorem Q64 {x v:Int} (hx:0≤x∧x≤65536) (hv:0≤v∧v≤16):0≤x * v∧x * v≤1048576 :=
 ⟨Int.mul_nonneg hx.1 hv.1,by have:=Int.mul_le_mul hx.2 hv.2 hv.1 (by omega);omega⟩
theorem Q77 {S:List Int} (h:SzQ S):Q1E S=some (prN S S.length):=by
 have hl:=h.len;unfold Q1E;refine Q42 S.length (fun i=>ix S i=0) (eb:=fun _=>Sum.inr 0) (eg:=Sum.inl ()) (by omega) (fun i hi hp=>?_) (fun i hi hp=>?_) ?_ (fun m hm hp hlt=>?_) fun hn=>?_
 ·rw [if_pos (by omega),Q2 (by omega),if_neg hp,Q2 (by unfold B64;omega)]
 ·rw [if_pos (by omega),Q2 (by omega),if_pos hp]
 ·rw [if_neg (by omega)]
 ·simp only;rw [Q7l hp _ hm]
 simp only;refine QN S.length (fun i=>prN S i) (e:=Sum.inl (prN S S.length)) rfl (by omega) (fun i hi=>?_) (by simp only;rw [if_neg (by omega)]) rfl;have b:=h.b i hi;have n:=hn i hi;obtain ⟨t1,t2⟩:=tdiv_big (v:=ix S i) (by omega) b.2;have p:=Q3K h (i:=i) (by omega);have m:=Q64 p b;simp only;rw [if_pos (by omega),Q2 (by omega),Q2 n,Q2 (by unfold B64;omega),if_neg (by omega),Q2 (by omega),Q2 (by unfold B64;omega),Q2 (by unfold B64;omega)];rfl
theorem Q9x {S:List Int} (h:SzQ S):Q1C S=some (prN S S.length):=by
 have hl:=h.len;unfold Q1C;refine Q1p (Q:=fun o=>o=some (prN S S.length)) S.length (fun k s=>s=(prN S k,(k:Int))) (fun e=>e=Sum.inl (prN S S.length)∨(e=Sum.inr 0∧prN S S.length=0)) (by omega) rfl (fun k s hk hI=>?_) (fun s hI=>?_) fun e he=>?_
 ·subst hI;have b:=h.b k hk;have p:=Q3K h (i:=k) (by omega);have m:=Q64 p b
  by_cases z:ix S k=0
  ·refine .inr ⟨Sum.inr 0,?_,.inr ⟨rfl,Q7l z _ hk⟩⟩;simp only;rw [if_pos (by omega),Q2 (by omega),if_pos z];rfl
  refine .inl ⟨(prN S (k+1),((k+1:Nat):Int)),?_,rfl⟩;simp only;rw [if_pos (by omega),Q2 (by omega),if_neg z,if_pos (by omega),Q2 (by unfold B64;omega)];simp only [zF];rw [Q2 (by unfold B64;omega)];rfl
 ·subst hI;refine ⟨_,?_,.inl rfl⟩;simp only;rw [if_neg (by omega)]
 have p:=Q3K h (qD S.length);rcases he with rfl|⟨rfl,hz⟩
 ·simp only;rw [if_neg (by omega)]
 simp only;rw [hz]
def qN (S:List Int) (n:Int):Nat→Int
 | 0=>n
 | t+1=>(qN S n t).tdiv (ix S ((S.length:Int) - 1 - t))
def dgN (S:List Int) (n:Int) (j:Nat):Int:=(qN S n (S.length - 1 - j)).tmod (ix S j)
def atT (S:List Int) (n:Int):List Int:=tab S.length (dgN S n)
theorem nzQ {S:List Int} (h:SzQ S) (hp:0<prN S S.length) {i:Nat} (hi:i<S.length):1≤ix S i:=by
 have b:=h.b i hi
 by_cases z:ix S i=0
 ·rw [Q7l z _ hi] at hp;omega
 omega
theorem qN_b {S:List Int} (h:SzQ S) {n:Int} (h0:0≤n) (h1:n≤65536) (hp:0<prN S S.length):∀ t,t≤S.length→0≤qN S n t∧qN S n t≤65536:=by
 intro t
 induction t with
 | zero=>intro _;exact ⟨h0,h1⟩
 | succ t ih =>
  intro ht;have b:=ih (by omega);have z:=nzQ h hp (i:=S.length - 1 - t) (by omega);have e:(((S.length - 1 - t:Nat)):Int)=(S.length:Int) - 1 - t:=by omega
  rw [e] at z;simp only [qN];rw [Int.tdiv_eq_ediv_of_nonneg b.1];exact ⟨Int.ediv_nonneg b.1 (by omega),Int.le_trans (Int.ediv_le_self _ b.1) b.2⟩
noncomputable def wkA (S:List Int) (n:Int) (t:Nat):List Int:=tab S.length fun j=>if S.length - t≤j then dgN S n j else 0
theorem wkA_step {S:List Int} {n:Int} {t:Nat} (ht:t<S.length):wkA S n (t+1)=(wkA S n t).set (S.length - 1 - t) ((qN S n t).tmod (ix S ((S.length:Int) - 1 - t))):=by
 have e:(((S.length - 1 - t:Nat)):Int)=(S.length:Int) - 1 - t:=by omega
 unfold wkA;rw [Q5H (by omega)];unfold tab;refine List.map_congr_left fun j hj=>?_;have hj:=List.mem_range.1 hj
 by_cases k:j=S.length - 1 - t
 ·rw [if_pos k,if_pos (by omega),k];unfold dgN;rw [show S.length - 1 - (S.length - 1 - t)=t by omega,e]
 rw [if_neg k]
 by_cases k2:S.length - t≤j
 ·rw [if_pos k2,if_pos (by omega)]
 rw [if_neg k2,if_neg (by omega)]
theorem wkA_0 (S:List Int) (n:Int):wkA S n 0=qW S.length 0:=by
 unfold wkA tab;refine List.ext_getElem (by simp) fun i h1 h2=>?_;simp at h1;simp;omega
theorem wkA_all (S:List Int) (n:Int):wkA S n S.length=atT S n:=by
 unfold wkA atT tab;refine List.map_congr_left fun j hj=>?_;rw [if_pos (by omega)]
theorem at_loop {S:List Int} (h:SzQ S) {n:Int} (h0:0≤n) (h1:n≤65536) (hp:0<prN S S.length) {β:Type} (K:List Int→Option β) :
  (QA (σ:=Int × List Int × Int) (ε:=List Int) (fun s13 =>
  if s13.2.2 ≥ 0 then
   ass (0≤s13.2.2∧s13.2.2<(S.length:Int)) <|
   ass (¬ ((ix S s13.2.2)=0)) <|
   ass (0≤s13.2.2∧s13.2.2<(s13.2.1.length:Int)) <|
   ass (0≤s13.2.2∧s13.2.2<(S.length:Int)) <|
   ass (¬ ((ix S s13.2.2)=0)) <|
   ass (B64 (s13.1.tdiv (ix S s13.2.2))) <|
   ass (B64 (s13.2.2 - 1)) <|
   some (Ctl.next (s13.1.tdiv (ix S s13.2.2),s13.2.1.set s13.2.2.toNat (s13.1.tmod (ix S s13.2.2)),s13.2.2 - 1))
  else
   some (Ctl.ret s13.2.1)) fuel (n,qW ((S.length:Int).toNat) 0,(S.length:Int) - 1)).bind K=K (atT S n):=by
 have hl:=h.len;rw [Q3s (fun t:Nat=>(qN S n t,wkA S n t,(S.length:Int) - 1 - t)) S.length (e:=atT S n) (by rw [wkA_0];simp [qN]) (by omega) (fun t ht=>?_) (by
  simp only;rw [if_neg (by omega),wkA_all])]
 ·rfl
 have z:=nzQ h hp (i:=S.length - 1 - t) (by omega);have b2:=h.b (S.length - 1 - t) (by omega);have e:(((S.length - 1 - t:Nat)):Int)=(S.length:Int) - 1 - t:=by omega
 have e2:((S.length:Int) - 1 - t).toNat=S.length - 1 - t:=by omega
 rw [e] at z b2;have b:=qN_b h h0 h1 hp (t+1) (by omega);have lw:(wkA S n t).length=S.length:=by simp [wkA]
 simp only [qN] at b;simp only;rw [if_pos (by omega),Q2 (by omega),Q2 (by omega),Q2 (by rw [lw];omega),Q2 (by omega),Q2 (by omega),Q2 (by unfold B64;omega),Q2 (by unfold B64;omega),wkA_step ht,e2];simp only [qN]
 congr 4
 omega
theorem e_atS {S:List Int} (h:SzQ S) {n:Int} (h0:0≤n) (h1:n<prN S S.length):Q3f S n=some (atT S n):=by
 have hl:=h.len;have p:=Q3K h (qD S.length);unfold Q3f;rw [Q2 (by omega),Q2 (by unfold B64;omega)];exact at_loop h h0 (by omega) (by omega) some
theorem e_atI {S:List Int} (h:SzQ S) {n:Int} (h0:0≤n) (h1:n<prN S S.length):Q2N S n=some (atT S n,0):=by
 have hl:=h.len;have p:=Q3K h (qD S.length);have hs:Q2r S=some true:=by
  unfold Q2r Q48 Q1t;refine Q42 S.length (fun _=>False) (eb:=fun _=>Sum.inr false) (eg:=Sum.inl ()) (by omega) (fun i hi _=>?_) (fun i hi hp=>hp.elim) (by rw [if_neg (by omega)]) (fun m hm hp hlt=>hp.elim) fun hn=>rfl;have b:=h.b i hi;rw [if_pos (by omega),Q2 (by omega)];simp only [zF];rw [if_neg (by simp;omega),Q2 (by unfold B64;omega)]
 unfold Q2N Q1t;rw [hs,Q9x h];simp only [zF];rw [if_neg (by simp),if_neg (by omega),Q2 (by unfold B64;omega),if_neg (by simp;omega),Q2 (by omega),Q2 (by unfold B64;omega)];exact at_loop h h0 (by omega) (by omega) fun b=>some (b,0)
def hoN (S T:List Int):Nat→Int
 | 0=>0
 | i+1=>hoN S T i * ix S i+ix T i
structure TupQ (S T:List Int):Prop where
 len:T.length=S.length
 b:∀ i:Nat,i<S.length→0≤ix T i∧ix T i<ix S i
theorem Qan {S T:List Int} (h:TupQ S T):∀ i,i≤S.length→0≤hoN S T i∧hoN S T i+1≤prN S i:=by
 intro i
 induction i with
 | zero=>intro _;simp [hoN,prN]
 | succ i ih =>
  intro hi;have h1:=ih (by omega);have h2:=h.b i (by omega);simp only [hoN,prN];have h3:=Int.mul_le_mul_of_nonneg_right h1.2 (show 0≤ix S i by omega);rw [Int.add_mul] at h3;have h4:=Int.mul_nonneg h1.1 (show 0≤ix S i by omega);omega
theorem e_numQ {S T:List Int} (hs:SzQ S) (h:TupQ S T):Q25 S T=some (hoN S T S.length):=by
 have hl:=hs.len;have ht:=h.len;unfold Q25;refine QN S.length (fun i=>hoN S T i) (e:=hoN S T S.length) rfl (by omega) (fun i hi=>?_) (by simp only;rw [if_neg (by omega)]) rfl;have b:=hs.b i hi;have b1:=Qan h i (by omega);have b2:=Qan h (i+1) (by omega);have p1:=Q3K hs (i:=i) (by omega);have p2:=Q3K hs (i:=i+1) (by omega);have m:=Q64 (x:=hoN S T i) (by omega) b;simp only [hoN] at b2;simp only;rw [if_pos (by omega),Q2 (by omega),Q2 (by unfold B64;omega),Q2 (by omega),Q2 (by unfold B64;omega),Q2 (by unfold B64;omega)];rfl
theorem qN_ho {S T:List Int} (h:TupQ S T):∀ t,t≤S.length→qN S (hoN S T S.length) t=hoN S T (S.length - t):=by
 intro t
 induction t with
 | zero=>intro _;rfl
 | succ t ih =>
  intro ht;simp only [qN];rw [ih (by omega)];have e:(((S.length - 1 - t:Nat)):Int)=(S.length:Int) - 1 - t:=by omega
  rw [← e,show S.length - t=(S.length - 1 - t)+1 by omega,show S.length - (t+1)=S.length - 1 - t by omega];have b:=h.b (S.length - 1 - t) (by omega);have b1:=Qan h (S.length - 1 - t) (by omega);simp only [hoN];rw [Int.tdiv_eq_ediv_of_nonneg (by have:=Int.mul_nonneg b1.1 (show 0≤ix S ((S.length - 1 - t:Nat):Int) by omega);omega),Int.add_comm,Int.add_mul_ediv_right _ _ (by omega),Int.ediv_eq_zero_of_lt b.1 b.2];omega
theorem at_ho {S T:List Int} (h:TupQ S T):atT S (hoN S T S.length)=T:=by
 have ht:=h.len;refine List.ext_getElem (by simp [atT,ht]) fun i h1 h2=>?_;have hi:i<S.length:=by simpa [atT] using h1
 have b:=h.b i hi;have b1:=Qan h i (by omega);have e1:(atT S (hoN S T S.length))[i]=dgN S (hoN S T S.length) i:=by simp [atT,tab]
 rw [e1,Q1d _ _ h2];unfold dgN;rw [qN_ho h _ (by omega),show S.length - (S.length - 1 - i)=i+1 by omega];simp only [hoN];rw [Int.tmod_eq_emod_of_nonneg (by have:=Int.mul_nonneg b1.1 (show 0≤ix S (i:Int) by omega);omega),Int.add_comm,Int.add_mul_emod_self_right,Int.emod_eq_of_lt b.1 b.2]
theorem at_tup {S:List Int} (h:SzQ S) {n:Int} (h0:0≤n) (h1:n<prN S S.length):TupQ S (atT S n):=by
 have p:=Q3K h (qD S.length);refine ⟨by simp [atT],fun i hi=>?_⟩;unfold atT;rw [Q4k _ _ hi];unfold dgN;have z:=nzQ h (by omega) hi;have b:=qN_b h h0 (by omega) (by omega) (S.length - 1 - i) (by omega);rw [Int.tmod_eq_emod_of_nonneg b.1];exact ⟨Int.emod_nonneg _ (by omega),Int.emod_lt_of_pos _ (by omega)⟩
end
attribute [local simp] unk unA unE unT unC flat Q6 Qe XQuery.cells XTerm.cells
noncomputable def Q13 (q_:XQuery) (f_:SF):Option (List (SF × XTerm × XTerm)) :=
 (QA (σ:=(List (SF × XTerm × XTerm)) × Int) (ε:=List (SF × XTerm × XTerm)) (fun s7 =>
  if s7.2<(q_.left_.length:Int) then
   ass (0≤s7.2∧s7.2<(q_.left_.length:Int)) <|
   ass (0≤s7.2∧s7.2<(q_.right_.length:Int)) <|
   ass ((s7.1++[(f_,(gx q_.left_ s7.2),(gx q_.right_ s7.2))]).length≤1073741824) <|
   ass (B64 (s7.2+1)) <|
   some (Ctl.next (s7.1++[(f_,(gx q_.left_ s7.2),(gx q_.right_ s7.2))],s7.2+1))
  else
   some (Ctl.ret s7.1)) fuel ([],0)).bind fun b1 =>
 some b1
@[simp] abbrev Yt (a:XQuery) (b:SF) (c:List (Nat × AV)):List (Nat × AV):=(0,.rptr (XQuery.cells true a))::(3,.rptr [.rptr (SF.cells true b)])::c
theorem Q4f (q_:XQuery) (f_:SF) (r:List (SF × XTerm × XTerm)) (h:Q13 q_ f_=some r):FContract Try.prog true 93 [.rptr (q_.cells true),.rptr (f_.cells true)] (.lst true 1 (Es Qx r)):=by
 refine Q5q true (ts:=[4]) (rs:=[.lst true 1 (Es Qx r)]) Try.func93 rfl rfl rfl rfl (by simp [Try.f93]) fun F hN hP hW=>?_;unfold Q13 at h;refine Q1 (Qn [3] mo (by rw [hN];decide) fun K hK=>?_);simp [Qx,eL,eI,Qf,QZ,Q6,Qe,SF.cells,XQuery.cells,XTerm.cells];repeat refine sdQ ?_
 refine hK _ ?_;clear hK K;refine tn (Q4 (st':=⟨Yt q_ f_ [],[],0⟩) (Qo []) (Q1 (Qn [] mo (by rw [hN];decide) fun K hK=>?_)));simp [Qx,eL,eI,Qf,QZ,Q6,Qe,SF.cells,XQuery.cells,XTerm.cells];repeat refine sdQ ?_
 refine hK _ ?_;clear hK K;refine tn (Q4 (st':=⟨Yt q_ f_ [(5,.own 0 0 0)],[(0,.mix 1 [])],1⟩) (Qo [(0,0)]) (Q1 (Q1 (Qn [] mo (by rw [hN];decide) fun K hK=>?_))));simp [Qx,eL,eI,Qf,QZ,Q6,Qe,SF.cells,XQuery.cells,XTerm.cells];repeat refine sdQ ?_
 refine hK _ (tn (Q4 (st':=⟨Yt q_ f_ [(5,.own 0 0 0),(14,iV (q_.left_.length:Int)),(15,iV 0)],[(0,.mix 1 [])],1⟩) (Qo [(0,0)]) ?_));clear hK K;replace ⟨e1,h,h1⟩:=bind_some h;refine Qk (fun b1:List (SF × XTerm × XTerm)=>⟨[(5,.own 0 0 b1.length)],[(0,.mix 1 (Es Qx b1))],1⟩) (fun b1=>b1=e1) ?_ ?_
 ·refine Q7 (Qu h (fun s7:(List (SF × XTerm × XTerm)) × Int=>⟨Yt q_ f_ [(5,.own 0 0 s7.1.length),(14,iV (q_.left_.length:Int)),(15,iV s7.2)],[(0,.mix 1 (Es Qx s7.1))],1⟩) (Qo [(0,0)]) ?_);clear h;intro k7 s7 c7 h hk7;refine Q1 (Qn [] mo (by rw [hN];decide) fun K hK=>?_);simp [Qx,eL,eI,Qf,QZ,Q6,Qe,SF.cells,XQuery.cells,XTerm.cells];repeat refine sdQ ?_
  refine hK _ ?_;clear hK K;refine tn (Q1 (Qa rfl (fun g=>?_) fun g=>?_))
  ·have g8:s7.2<(q_.left_.length:Int):=gQ;clear g;replace h:=if_l g8 h;refine Qc (tn (Q1 (Q7 (Q1 (Qn [] mo (by rw [hN];decide) fun K hK=>?_)))));simp [Qx,eL,eI,Qf,QZ,Q6,Qe,SF.cells,XQuery.cells,XTerm.cells];(repeat refine sdQ ?_);refine hK _ ?_;clear hK K;refine tn (Q4 (st':=⟨Yt q_ f_ [(5,.own 0 0 s7.1.length),(6,iV s7.2),(14,iV (q_.left_.length:Int)),(15,iV s7.2)],[(0,.mix 1 (Es Qx s7.1))],1⟩) (Qo [(0,0)]) (Q1 (w_runXS [] mo (by rw [hN];decide) fun K hK=>?_)));replace ⟨a9,h⟩:=Q0 h;replace ⟨a10,h⟩:=Q0 h;simp [Qx,eL,eI,Qf,QZ,Q6,Qe,SF.cells,XQuery.cells,XTerm.cells,at_E (c:=(XTerm.cells true)) a9,at_E (c:=(XTerm.cells true)) a10];(repeat refine sdQ ?_);refine hK _ ?_;clear hK K;refine tn (Q4 (st':=⟨Yt q_ f_ [(5,.own 0 0 s7.1.length),(7,.adr 1 0 0),(8,.adr 2 0 0),(14,iV (q_.left_.length:Int)),(15,iV s7.2)],[(0,.mix 1 (Es Qx s7.1)),(1,.mix 2 [(XTerm.cells true (gx q_.left_ s7.2))]),(2,.mix 2 [(XTerm.cells true (gx q_.right_ s7.2))])],3⟩) (Q1N 3) (Q4 (st':=⟨Yt q_ f_ [(5,.own 0 0 s7.1.length),(7,.rptr (XTerm.cells true (gx q_.left_ s7.2))),(8,.adr 2 0 0),(14,iV (q_.left_.length:Int)),(15,iV s7.2)],[(0,.mix 1 (Es Qx s7.1)),(2,.mix 2 [(XTerm.cells true (gx q_.right_ s7.2))])],3⟩) (Wk.frzD hW [1] (Q4B (.inl rfl) (Q4B (.inl rfl) (Q4B (.inl rfl) (Q4B (.inr (.inr (.adr rfl (by simp) rfl (.cons (.ro rfl) (.cons (.ro rfl) .nil))))) (Q4B (.inl rfl) (Q4B (.inl rfl) (Q4B (.inl rfl) frz_n))))))) rfl (by simp [look])) (Q4 (st':=⟨Yt q_ f_ [(5,.own 0 0 s7.1.length),(7,.rptr (XTerm.cells true (gx q_.left_ s7.2))),(8,.rptr (XTerm.cells true (gx q_.right_ s7.2))),(14,iV (q_.left_.length:Int)),(15,iV s7.2)],[(0,.mix 1 (Es Qx s7.1))],3⟩) (Wk.frzD hW [2] (Q4B (.inl rfl) (Q4B (.inl rfl) (Q4B (.inl rfl) (Q4B (.inl rfl) (Q4B (.inr (.inr (.adr rfl (by simp) rfl (.cons (.ro rfl) (.cons (.ro rfl) .nil))))) (Q4B (.inl rfl) (Q4B (.inl rfl) frz_n))))))) rfl (by simp [look])) (Qn [35] mo (by rw [hN];decide) fun K hK=>?_))));replace ⟨a11,h⟩:=Q0 h;(try simp only [qE,qG,zB] at a11);simp [Qx,eL,eI,Qf,QZ,Q6,Qe,SF.cells,XQuery.cells,XTerm.cells,a11];(repeat refine sdQ ?_);refine hK _ (bn (tn ?_));clear hK K
   refine Q4 (st':=⟨Yt q_ f_ [(5,.own 0 0 ((s7.1++[(f_,(gx q_.left_ s7.2),(gx q_.right_ s7.2))]).length)),(14,iV (q_.left_.length:Int)),(15,iV s7.2)],[(0,.mix 1 (Es Qx (s7.1++[(f_,(gx q_.left_ s7.2),(gx q_.right_ s7.2))])))],1⟩) (Qo [(4,0)]) (Qn [] mo (by rw [hN];decide) fun K hK=>?_);replace ⟨a12,h⟩:=Q0 h;simp [Qx,eL,eI,Qf,QZ,Q6,Qe,SF.cells,XQuery.cells,XTerm.cells,Qm a12];(repeat refine sdQ ?_);refine hK _ ?_;clear hK K;cases h;exact rn (s':=(s7.1++[(f_,(gx q_.left_ s7.2),(gx q_.right_ s7.2))],s7.2+1)) hk7 (Qo [(0,0)])
  have g8:¬ (s7.2<(q_.left_.length:Int)):=gQ;clear g;replace h:=if_r g8 h;refine Qp (tx (lx (bh ?_)));cases h;exact jn (b:=s7.1) hk7 (Qo [(0,0)])
 intro b1 hb1;have h:=h1;try rw [← hb1] at h
 clear h1;try dsimp only at h
 refine Q1 (Qn [] mo (by rw [hN];decide) fun K hK=>?_);simp [Qx,eL,eI,Qf,QZ,Q6,Qe,SF.cells,XQuery.cells,XTerm.cells];repeat refine sdQ ?_
 refine hK _ (tn (Q4 (st':=⟨[(4,.own 0 0 b1.length)],[(0,.mix 1 (Es Qx b1))],1⟩) (Qo [(0,0)]) (Ql ?_)));clear hK K;have hr:=zC h;rw [← hr];exact (.two (.smix rfl (by simp) (QaC (by simp [Qx,SF.cells,XQuery.cells,XTerm.cells,QZ,Q6,Qe]))) .nil)
attribute [local simp] unk unA unE unT unC flat Qe XTerm.cells
noncomputable def QJ (assignment_:List Int) (c0_:SF) (c1_:XTerm) (c2_:XTerm):Option Bool :=
 ass (0≤c1_.arrow_∧c1_.arrow_<(c0_.ac.length:Int)) <|
 ass (0≤c1_.variable_∧c1_.variable_<(assignment_.length:Int)) <|
 ass (0≤ix assignment_ c1_.variable_∧ix assignment_ c1_.variable_<((rx c0_.ac c1_.arrow_).length:Int)) <|
 ass (0≤c2_.arrow_∧c2_.arrow_<(c0_.ac.length:Int)) <|
 ass (0≤c2_.variable_∧c2_.variable_<(assignment_.length:Int)) <|
 ass (0≤ix assignment_ c2_.variable_∧ix assignment_ c2_.variable_<((rx c0_.ac c2_.arrow_).length:Int)) <|
 some ((ix (rx c0_.ac c1_.arrow_) (ix assignment_ c1_.variable_)) == (ix (rx c0_.ac c2_.arrow_) (ix assignment_ c2_.variable_)))
theorem Q27 (assignment_:List Int) (c0_:SF) (c1_:XTerm) (c2_:XTerm) (r:Bool) (h:QJ assignment_ c0_ c1_ c2_=some r):Contract Try.prog 110 [lI assignment_,.rptr [.rptr (SF.cells true c0_)],.rptr (XTerm.cells true c1_),.rptr (XTerm.cells true c2_)] (.val (.bool r)):=by
 refine Qd (rvs:=[.tmp 5]) (rs:=[.val (.bool r)]) Try.func110 rfl rfl rfl rfl (by simp [Try.f110]) fun F hN hP=>?_;unfold QJ at h;refine Q1 (runQ hN fun K hK=>?_);simp [eL,eI,Qf,QZ,Qe,SF.cells,XTerm.cells];repeat refine sdQ ?_
 refine hK _ ?_;clear hK K;refine tn (Q4 (st':=⟨[(0,lI assignment_),(1,.rptr [.rptr (SF.cells true c0_)]),(2,.rptr (XTerm.cells true c1_)),(3,.rptr (XTerm.cells true c2_))],[],0⟩) (Qo []) (Q1 (runQ hN fun K hK=>?_)));replace ⟨a1,h⟩:=Q0 h;replace ⟨a2,h⟩:=Q0 h;replace ⟨a3,h⟩:=Q0 h;replace ⟨a4,h⟩:=Q0 h;replace ⟨a5,h⟩:=Q0 h;replace ⟨a6,h⟩:=Q0 h;simp [eL,eI,Qf,QZ,Qe,SF.cells,XTerm.cells,at_L a1,at_I a2,at_I a3,at_L a4,at_I a5,at_I a6];repeat refine sdQ ?_
 refine hK _ (tn (Q4 (st':=⟨[(5,.val (.bool ((ix (rx c0_.ac c1_.arrow_) (ix assignment_ c1_.variable_)) == (ix (rx c0_.ac c2_.arrow_) (ix assignment_ c2_.variable_)))))],[],0⟩) (Qo []) (Ql ?_)));clear hK K;have hr:=zC h;rw [← hr];refine ⟨_,(.tmp .nil),?_⟩;refine ⟨(.one rfl rfl .nil),[.val (.bool ((ix (rx c0_.ac c1_.arrow_) (ix assignment_ c1_.variable_)) == (ix (rx c0_.ac c2_.arrow_) (ix assignment_ c2_.variable_))))],[],by simp [SF.cells,XTerm.cells,UA,U1,IA,I1,LA,L1,BA,B1,EA,E1,E2,eB,eI,eL,Q5 _ Qe _ (fun _=>rfl)],by simp,(UpL.refl _)⟩
attribute [local simp] unk unA unE unT unC flat Qe XTerm.cells
noncomputable def QL (c_:SF × XTerm × XTerm) (c0_:List Int):Option Bool :=
 (QJ c0_ c_.1 c_.2.1 c_.2.2).bind fun v1 =>
 some (!v1)
theorem Q2W (c_:SF × XTerm × XTerm) (c0_:List Int) (r:Bool) (h:QL c_ c0_=some r):Contract Try.prog 96 [.fn 110 [.rptr [.rptr (SF.cells true c_.1)],.rptr (XTerm.cells true c_.2.1),.rptr (XTerm.cells true c_.2.2)],.rptr [lI c0_]] (.val (.bool r)):=by
 refine Qd (rvs:=[.tmp 3]) (rs:=[.val (.bool r)]) Try.func96 rfl rfl rfl rfl (by simp [Try.f96]) fun F hN hP=>?_;unfold QL at h;refine Q1 (runQ hN fun K hK=>?_);simp [Qx,eL,eI,Qf,QZ,Qe,SF.cells,XTerm.cells];repeat refine sdQ ?_
 refine hK _ ?_;clear hK K;refine tn (Q4 (st':=⟨[(0,.fn 110 [.rptr [.rptr (SF.cells true c_.1)],.rptr (XTerm.cells true c_.2.1),.rptr (XTerm.cells true c_.2.2)]),(1,.rptr [lI c0_])],[],0⟩) (Qo []) (Q1 (runQ hN fun K hK=>?_)));simp [Qx,eL,eI,Qf,QZ,Qe,SF.cells,XTerm.cells];repeat with_reducible refine sdQ ?_
 replace ⟨v1,hv1,h⟩:=bind_some h;refine Q3 (Q27 _ _ _ _ v1 hv1) (.cons .lst (.cons .rptr (.cons .rptr (.cons .rptr .nil)))) ?_;simp [Qx,eL,eI,Qf,QZ,Qe,SF.cells,XTerm.cells];repeat refine sdQ ?_
 refine hK _ (tn (Q4 (st':=⟨[(3,.val (.bool (!v1)))],[],0⟩) (Qo []) (Ql ?_)));clear hK K;have hr:=zC h;rw [← hr];refine ⟨_,(.tmp .nil),?_⟩;refine ⟨(.one rfl rfl .nil),[.val (.bool (!v1))],[],by simp [SF.cells,XTerm.cells,UA,U1,IA,I1,LA,L1,BA,B1,EA,E1,E2,eB,eI,eL,Q5 _ Qe _ (fun _=>rfl),Qx,Q5 _ Qx _ (fun _=>rfl)],by simp,(UpL.refl _)⟩
attribute [local simp] unk unA unE unT unC flat Qe XTerm.cells
noncomputable def Q9 (p0_:List (SF × XTerm × XTerm)) (p1_0:List Int):Option Int :=
 (QA (σ:=Int) (ε:=Unit ⊕ Int) (fun s7 =>
  if s7<(p0_.length:Int) then
   ass (0≤s7∧s7<(p0_.length:Int)) <|
   (QL (((gx p0_ s7).1),((gx p0_ s7).2.1),((gx p0_ s7).2.2)) p1_0).bind fun v10 =>
   if v10=true then
    some (Ctl.ret (Sum.inr s7))
   else
    ass (B64 (s7+1)) <|
    some (Ctl.next (s7+1))
  else
   some (Ctl.ret (Sum.inl ()))) fuel 0).bind fun e1 =>
 match e1 with
 | .inl b1 =>
  some (-1)
 | .inr p1 =>
  some p1
@[simp] abbrev YX (a:List (SF × XTerm × XTerm)) (b:List Int) (c:List (Nat × AV)):List (Nat × AV):=(0,.lst true 1 (Es Qx a))::(1,.fn 96 [.rptr [lI b]])::c
theorem Qz (p0_:List (SF × XTerm × XTerm)) (p1_0:List Int) (r:Int) (h:Q9 p0_ p1_0=some r):Contract Try.prog 113 [.lst true 1 (Es Qx p0_),.fn 96 [.rptr [lI p1_0]]] (iV r):=by
 refine Qd (rvs:=[.tmp 4]) (rs:=[iV r]) Try.func113 rfl rfl rfl rfl (by simp [Try.f113]) fun F hN hP=>?_;unfold Q9 at h;refine Q1 (runQ hN fun K hK=>?_);simp [Qx,eL,eI,Qf,QZ,Qe,SF.cells,XTerm.cells];repeat refine sdQ ?_
 refine hK _ ?_;clear hK K;refine tn (Q4 (st':=⟨YX p0_ p1_0 [],[],0⟩) (Qo []) (Q1 (Q1 (runQ hN fun K hK=>?_))));simp [Qx,eL,eI,Qf,QZ,Qe,SF.cells,XTerm.cells];repeat refine sdQ ?_
 refine hK _ (tn (Q4 (st':=⟨YX p0_ p1_0 [(7,iV (p0_.length:Int)),(8,iV 0)],[],0⟩) (Qo []) ?_));clear hK K;replace ⟨e1,h,h1⟩:=bind_some h;refine Qk (fun b1:Unit=>⟨[],[],0⟩) (fun b1=>Sum.inl b1=e1) ?_ ?_
 ·refine Q7 (Qu h (fun s7:Int=>⟨YX p0_ p1_0 [(7,iV (p0_.length:Int)),(8,iV s7)],[],0⟩) (Qo []) ?_);clear h;intro k7 s7 c7 h hk7;refine Q1 (runQ hN fun K hK=>?_);simp [Qx,eL,eI,Qf,QZ,Qe,SF.cells,XTerm.cells];repeat refine sdQ ?_
  refine hK _ ?_;clear hK K;refine tn (Q1 (Qa rfl (fun g=>?_) fun g=>?_))
  ·have g8:s7<(p0_.length:Int):=gQ;clear g;replace h:=if_l g8 h;refine Qc (tn (Q1 (Q7 (Q1 (runQ hN fun K hK=>?_)))));simp [Qx,eL,eI,Qf,QZ,Qe,SF.cells,XTerm.cells];(repeat refine sdQ ?_);refine hK _ ?_;clear hK K;refine tn (Q4 (st':=⟨YX p0_ p1_0 [(5,iV s7),(7,iV (p0_.length:Int)),(8,iV s7)],[],0⟩) (Qo []) (Q1 (runQ hN fun K hK=>?_)));replace ⟨a9,h⟩:=Q0 h;simp [Qx,eL,eI,Qf,QZ,Qe,SF.cells,XTerm.cells,at_E (c:=Qx) a9];(repeat with_reducible refine sdQ ?_);replace ⟨v10,hv10,h⟩:=bind_some h;refine Q3 (Q2W _ _ v10 hv10) (.cons (.fnL (by simp) (.cons .rptr (.cons .rptr (.cons .rptr .nil)))) (.cons .rptr .nil)) ?_;simp [Qx,eL,eI,Qf,QZ,Qe,SF.cells,XTerm.cells,at_E (c:=Qx) a9];(repeat refine sdQ ?_);refine hK _ ?_;clear hK K;refine tn (Q4 (st':=⟨YX p0_ p1_0 [(5,iV s7),(7,iV (p0_.length:Int)),(8,iV s7),(16,.val (.bool v10))],[],0⟩) (Qo []) (Qa rfl (fun g=>?_) fun g=>?_))
   ·have g11:v10=true:=gQ;clear g;replace h:=if_l g11 h;refine Q1 (runQ hN fun K hK=>?_);simp [Qx,eL,eI,Qf,QZ,Qe,SF.cells,XTerm.cells];(repeat refine sdQ ?_);refine hK _ (tn (Q4 (st':=⟨[(4,iV s7)],[],0⟩) (Qo []) (Ql (br (tr (lr (br (tr ?_))))))));clear hK K;cases h;have q:_=e1:=hk7;have h:=h1;rw [← q] at h;clear q;(try dsimp only at h);have hr:=zC h;rw [← hr];refine ⟨_,(.tmp .nil),?_⟩;refine ⟨(.one rfl rfl .nil),[iV s7],[],by simp [SF.cells,XTerm.cells,UA,U1,IA,I1,LA,L1,BA,B1,EA,E1,E2,eB,eI,eL,Q5 _ Qe _ (fun _=>rfl),Qx,Q5 _ Qx _ (fun _=>rfl)],by simp,(UpL.refl _)⟩
   have g11:¬ (v10=true):=gQ;clear g;replace h:=if_r g11 h;refine Qc (bn (tn (runQ hN fun K hK=>?_)));replace ⟨a12,h⟩:=Q0 h;simp [Qx,eL,eI,Qf,QZ,Qe,SF.cells,XTerm.cells,Qm a12];(repeat refine sdQ ?_);refine hK _ ?_;clear hK K;cases h;exact rn (s':=s7+1) hk7 (Qo [])
  have g8:¬ (s7<(p0_.length:Int)):=gQ;clear g;replace h:=if_r g8 h;refine Qp (tx (lx (bh ?_)));cases h;exact jn (b:=()) hk7 (Qo [])
 intro b1 hb1;have h:=h1;try rw [← hb1] at h
 clear h1;try dsimp only at h
 refine Q1 (runQ hN fun K hK=>?_);simp [Qx,eL,eI,Qf,QZ,Qe,SF.cells,XTerm.cells];repeat refine sdQ ?_
 refine hK _ (tn (Q4 (st':=⟨[(4,iV (-1))],[],0⟩) (Qo []) (Ql ?_)));clear hK K;have hr:=zC h;rw [← hr];refine ⟨_,(.tmp .nil),?_⟩;refine ⟨(.one rfl rfl .nil),[iV (-1)],[],by simp [SF.cells,XTerm.cells,UA,U1,IA,I1,LA,L1,BA,B1,EA,E1,E2,eB,eI,eL,Q5 _ Qe _ (fun _=>rfl),Qx,Q5 _ Qx _ (fun _=>rfl)],by simp,(UpL.refl _)⟩
attribute [local simp] unk unA unE unT unC flat
noncomputable def Q8 (p0_:List (SF × XTerm × XTerm)) (p1_0:List Int):Option Bool :=
 (Q9 p0_ p1_0).bind fun v1 =>
 some (decide (v1 ≥ 0))
theorem Qy (p0_:List (SF × XTerm × XTerm)) (p1_0:List Int) (r:Bool) (h:Q8 p0_ p1_0=some r):Contract Try.prog 95 [.lst true 1 (Es Qx p0_),.fn 96 [.rptr [lI p1_0]]] (.val (.bool r)):=by
 refine Qd (rvs:=[.tmp 4]) (rs:=[.val (.bool r)]) Try.func95 rfl rfl rfl rfl (by simp [Try.f95]) fun F hN hP=>?_;unfold Q8 at h;refine Q1 (runQ hN fun K hK=>?_);simp [Qx,eL,eI,Qf];repeat refine sdQ ?_
 refine hK _ ?_;clear hK K;refine tn (Q4 (st':=⟨YX p0_ p1_0 [],[],0⟩) (Qo []) (Q1 (runQ hN fun K hK=>?_)));simp [Qx,eL,eI,Qf];repeat with_reducible refine sdQ ?_
 replace ⟨v1,hv1,h⟩:=bind_some h;refine Q3 (Qz _ _ v1 hv1) (.cons .lst (.cons (.fnL (by simp) (.cons .rptr .nil)) .nil)) ?_;simp [Qx,eL,eI,Qf];repeat refine sdQ ?_
 refine hK _ (tn (Q4 (st':=⟨[(4,.val (.bool (decide (v1 ≥ 0))))],[],0⟩) (Qo []) (Ql ?_)));clear hK K;have hr:=zC h;rw [← hr];refine ⟨_,(.tmp .nil),?_⟩;refine ⟨(.one rfl rfl .nil),[.val (.bool (decide (v1 ≥ 0)))],[],by simp [UA,U1,IA,I1,LA,L1,BA,B1,EA,E1,E2,eB,eI,eL,Qx,Q5 _ Qx _ (fun _=>rfl)],by simp,(UpL.refl _)⟩
attribute [local simp] unk unA unE unT unC flat Q6 XQuery.cells
noncomputable def Q18 (q_:XQuery) (f_:SF):Option (List (List Int) × Bool) :=
 (Q1T q_.variables_ f_.sz).bind fun v1 =>
 (Q1C v1).bind fun v2 =>
 if v2 > 4096 then
  some ([],false)
 else
  (Q13 q_ f_).bind fun v4 =>
  (QA (σ:=List (List Int) × Int) (ε:=List (List Int)) (fun s13 =>
   if s13.2<v2 then
    (
     (Q2N v1 s13.2).bind fun v16 =>
     (Q8 v4 v16.1).bind fun v17 =>
     if ¬ (v17=true) then
      ass ((s13.1++[v16.1]).length≤1073741824) <|
      some (s13.1++[v16.1])
     else
      some s13.1:Option (List (List Int))).bind fun b15 =>
    ass (B64 (s13.2+1)) <|
    some (Ctl.next (b15,s13.2+1))
   else
    some (Ctl.ret s13.1)) fuel ([],0)).bind fun b5 =>
  some (b5,true)
@[simp] abbrev YM (a:List Int) (b:List (SF × XTerm × XTerm)) (c:List (Nat × AV)):List (Nat × AV):=(6,.own 0 0 a.length)::(8,.lst true 1 (Es Qx b))::c
theorem Q4u (q_:XQuery) (f_:SF) (r:List (List Int) × Bool) (h:Q18 q_ f_=some r):Contract Try.prog 58 [.rptr (q_.cells true),.rptr (f_.cells true)] (.tup [.lst true 1 (Ls r.1),.val (.bool r.2)]):=by
 refine Qd (rvs:=[.tmp 4,.tmp 5]) (rs:=[.lst true 1 (Ls r.1),.val (.bool r.2)]) Try.func58 rfl rfl rfl rfl (by simp [Try.f58]) fun F hN hP=>?_;unfold Q18 at h;refine Q1 (runQ hN fun K hK=>?_);simp [Qx,eL,eI,Qf,QZ,Q6,SF.cells,XQuery.cells];repeat refine sdQ ?_
 refine hK _ ?_;clear hK K;refine tn (Q4 (st':=⟨[(0,.rptr (XQuery.cells true q_)),(1,.rptr (SF.cells true f_))],[],0⟩) (Qo []) (Q1 (runQ hN fun K hK=>?_)));simp [Qx,eL,eI,Qf,QZ,Q6,SF.cells,XQuery.cells];repeat with_reducible refine sdQ ?_
 replace ⟨v1,hv1,h⟩:=bind_some h;refine Q3 (Q4S _ _ v1 hv1) (.cons .lst (.cons .lst .nil)) ?_;simp [Qx,eL,eI,Qf,QZ,Q6,SF.cells,XQuery.cells];repeat refine sdQ ?_
 refine hK _ ?_;clear hK K;refine tn (Q4 (st':=⟨[(0,.rptr (XQuery.cells true q_)),(1,.rptr (SF.cells true f_)),(6,.own 0 0 v1.length)],[(0,rI v1)],1⟩) (Qo [(0,0)]) (Q1 (runQ hN fun K hK=>?_)));simp [Qx,eL,eI,Qf,QZ,Q6,SF.cells,XQuery.cells];repeat with_reducible refine sdQ ?_
 replace ⟨v2,hv2,h⟩:=bind_some h;refine Q3 (Q4n _ v2 hv2) (.cons .w .nil) ?_;simp [Qx,eL,eI,Qf,QZ,Q6,SF.cells,XQuery.cells];repeat refine sdQ ?_
 refine hK _ ?_;clear hK K;refine tn (Q4 (st':=⟨[(0,.rptr (XQuery.cells true q_)),(1,.rptr (SF.cells true f_)),(6,.own 0 0 v1.length),(7,iV v2)],[(0,rI v1)],1⟩) (Qo [(0,0)]) (Q1 (Q1 (runQ hN fun K hK=>?_))));simp [Qx,eL,eI,Qf,QZ,Q6,SF.cells,XQuery.cells];repeat refine sdQ ?_
 refine hK _ ?_;clear hK K;refine tn (Qa rfl (fun g=>?_) fun g=>?_)
 ·have g3:v2 > 4096:=gQ;clear g;replace h:=if_l g3 h;refine Q1 (runQ hN fun K hK=>?_);simp [Qx,eL,eI,Qf,QZ,Q6,SF.cells,XQuery.cells];repeat refine sdQ ?_
  refine hK _ (tn (Q4 (st':=⟨[(4,nS),(5,.val (.bool false))],[],0⟩) (Qo []) (Ql (tr ?_))));clear hK K;have hr:=zC h;rw [← hr];refine ⟨_,(.tmp (.tmp .nil)),?_⟩;refine ⟨(.one rfl rfl (.one rfl rfl .nil)),[nS,.val (.bool false)],[],by simp [SF.cells,XQuery.cells,UA,U1,IA,I1,LA,L1,BA,B1,EA,E1,E2,eB,eI,eL,Q5 _ Q6 _ (fun _=>rfl),Qx,Q5 _ Qx _ (fun _=>rfl)],by simp,(.cons .nil (.cons .refl .nil))⟩
 have g3:¬ (v2 > 4096):=gQ;clear g;replace h:=if_r g3 h;refine Qc (tn (Q1 (Qn [] mo (by rw [hN];decide) fun K hK=>?_)));simp [Qx,eL,eI,Qf,QZ,Q6,SF.cells,XQuery.cells];repeat with_reducible refine sdQ ?_
 replace ⟨v4,hv4,h⟩:=bind_some h;refine Q5P (fz:=[]) true (Q4f _ _ v4 hv4) (PurK.ofN (.cons (.preT (by simp [SF.cells,XQuery.cells])) (.cons (.preT (by simp [SF.cells,XQuery.cells])) .nil))) ?_;simp [Qx,eL,eI,Qf,QZ,Q6,SF.cells,XQuery.cells];repeat refine sdQ ?_
 refine hK _ ?_;clear hK K;refine tn (Q4 (st':=⟨[(6,.own 0 0 v1.length),(7,iV v2),(8,.lst true 1 (Es Qx v4))],[(0,rI v1)],1⟩) (Qo [(0,0)]) (Q1 (runQ hN fun K hK=>?_)));simp [Qx,eL,eI,Qf,QZ,Q6,SF.cells,XQuery.cells];repeat refine sdQ ?_
 refine hK _ ?_;clear hK K;refine tn (Q4 (st':=⟨[(6,.own 0 0 v1.length),(7,iV v2),(8,.lst true 1 (Es Qx v4)),(9,.own 1 0 0)],[(0,rI v1),(1,.mix 1 [])],2⟩) (Qo [(0,0),(1,1)]) (Q1 (Q1 (runQ hN fun K hK=>?_))));simp [Qx,eL,eI,Qf,QZ,Q6,SF.cells,XQuery.cells];repeat refine sdQ ?_
 refine hK _ (tn (Q4 (st':=⟨YM v1 v4 [(9,.own 1 0 0),(30,iV v2),(31,iV 0)],[(0,rI v1),(1,.mix 1 [])],2⟩) (Qo [(0,0),(1,1)]) ?_));clear hK K;replace ⟨e5,h,h5⟩:=bind_some h;refine Qk (fun b5:List (List Int)=>⟨[(9,.own 0 0 b5.length)],[(0,.row 1 (Ls b5))],1⟩) (fun b5=>b5=e5) ?_ ?_
 ·refine Q7 (Qu h (fun s13:List (List Int) × Int=>⟨YM v1 v4 [(9,.own 1 0 s13.1.length),(30,iV v2),(31,iV s13.2)],[(0,rI v1),(1,.row 1 (Ls s13.1))],2⟩) (Q2V ⟨YM v1 v4 [(9,.own 1 0 0),(30,iV v2),(31,iV 0)],[(0,rI v1),(1,.row 1 (Ls []))],2⟩ (Wk.nils [] (by simp) (by simp) (by simp [nlA]) (by simp [entN,nlL,nlA,SF.cells,XQuery.cells,UA,U1,IA,I1,LA,L1,BA,B1,EA,E1,E2,eB,eI,eL,Q5 _ Q6 _ (fun _=>rfl),Qx,Q5 _ Qx _ (fun _=>rfl)]) (by simp)) (Qo [(0,0),(1,1)])) ?_);clear h;intro k13 s13 c13 h hk13;refine Q1 (runQ hN fun K hK=>?_);simp [Qx,eL,eI,Qf,QZ,Q6,SF.cells,XQuery.cells];repeat refine sdQ ?_
  refine hK _ ?_;clear hK K;refine tn (Q1 (Qa rfl (fun g=>?_) fun g=>?_))
  ·have g14:s13.2<v2:=gQ;clear g;replace h:=if_l g14 h;refine Qc (tn (Q1 ?_));replace ⟨e15,h,h15⟩:=bind_some h;refine Qk (fun b15:List (List Int)=>⟨YM v1 v4 [(9,.own 1 0 b15.length),(30,iV v2),(31,iV s13.2)],[(0,rI v1),(1,.row 1 (Ls b15))],2⟩) (fun b15=>b15=e15) ?_ ?_
   ·refine Q7 (Q1 (runQ hN fun K hK=>?_));simp [Qx,eL,eI,Qf,QZ,Q6,SF.cells,XQuery.cells];(repeat refine sdQ ?_);refine hK _ ?_;clear hK K;refine tn (Q4 (st':=⟨YM v1 v4 [(9,.own 1 0 s13.1.length),(10,iV s13.2),(30,iV v2),(31,iV s13.2)],[(0,rI v1),(1,.row 1 (Ls s13.1))],2⟩) (Qo [(0,0),(1,1)]) (Q1 (runQ hN fun K hK=>?_)));simp [Qx,eL,eI,Qf,QZ,Q6,SF.cells,XQuery.cells];(repeat with_reducible refine sdQ ?_);replace ⟨v16,hv16,h⟩:=bind_some h;refine Q3 (Q96 _ _ v16 hv16) (.cons .w (.cons .val .nil)) ?_;simp [Qx,eL,eI,Qf,QZ,Q6,SF.cells,XQuery.cells];(repeat refine sdQ ?_);refine hK _ ?_;clear hK K;refine tn (Q4 (st':=⟨YM v1 v4 [(9,.own 1 0 s13.1.length),(11,.adr 2 0 0),(30,iV v2),(31,iV s13.2)],[(0,rI v1),(1,.row 1 (Ls s13.1)),(2,.mix 1 [[.own 3 0 v16.1.length]]),(3,rI v16.1)],4⟩) (Qo [(0,0),(1,1),(4,2),(2,3)]) (Q1 (Qn [] mo (by rw [hN];decide) fun K hK=>?_)));simp [Qx,eL,eI,Qf,QZ,Q6,SF.cells,XQuery.cells];(repeat with_reducible refine sdQ ?_);replace ⟨v17,hv17,h⟩:=bind_some h;refine QU (fz:=[]) (Qy _ _ v17 hv17) (.cons .lst (.cons (.fnL (by simp) (.cons (.field rfl (by simp [SF.cells,XQuery.cells]) (.cons .w .nil)) .nil)) .nil)) ?_;simp [Qx,eL,eI,Qf,QZ,Q6,SF.cells,XQuery.cells];(repeat refine sdQ ?_);refine hK _ ?_;clear hK K;refine tn (Q4 (st':=⟨YM v1 v4 [(9,.own 1 0 s13.1.length),(11,.adr 2 0 0),(30,iV v2),(31,iV s13.2),(43,.val (.bool (!v17)))],[(0,rI v1),(1,.row 1 (Ls s13.1)),(2,.mix 1 [[.own 3 0 v16.1.length]]),(3,rI v16.1)],4⟩) (Q1N 4) (Qa rfl (fun g=>?_) fun g=>?_))
    ·have g18:¬ (v17=true):=gQ;clear g;replace h:=if_l g18 h;refine runQ hN fun K hK=>?_;replace ⟨a19,h⟩:=Q0 h;(try simp only [qE,qG,zB] at a19);simp [Qx,eL,eI,Qf,QZ,Q6,SF.cells,XQuery.cells,a19];(repeat refine sdQ ?_);refine hK _ (bn ?_);clear hK K;exact jn (b:=s13.1++[v16.1]) (zC h) (Qo [(0,0),(5,1)])
    have g18:¬ (¬ (v17=true)):=gQ;clear g;replace h:=if_r g18 h;refine Qc (bn ?_);exact jn (b:=s13.1) (zC h) (Qo [(0,0),(1,1)])
   intro b15 hb15;have h:=h15;(try rw [← hb15] at h);clear h15;(try dsimp only at h);refine runQ hN fun K hK=>?_;replace ⟨a20,h⟩:=Q0 h;simp [Qx,eL,eI,Qf,QZ,Q6,SF.cells,XQuery.cells,Qm a20];(repeat refine sdQ ?_);refine hK _ ?_;clear hK K;cases h;exact rn (s':=(b15,s13.2+1)) hk13 (Qo [(0,0),(1,1)])
  have g14:¬ (s13.2<v2):=gQ;clear g;replace h:=if_r g14 h;refine Qp (tx (lx (bh ?_)));cases h;exact jn (b:=s13.1) hk13 (Qo [(1,0)])
 intro b5 hb5;have h:=h5;try rw [← hb5] at h
 clear h5;try dsimp only at h
 refine Q1 (runQ hN fun K hK=>?_);simp [Qx,eL,eI,Qf,QZ,Q6,SF.cells,XQuery.cells];repeat refine sdQ ?_
 refine hK _ (tn (Q4 (st':=⟨[(4,.own 0 0 b5.length),(5,.val (.bool true))],[(0,.row 1 (Ls b5))],1⟩) (Qo [(0,0)]) (Ql ?_)));clear hK K;have hr:=zC h;rw [← hr];refine ⟨_,(.tmp (.tmp .nil)),?_⟩;refine ⟨(.one rfl rfl (.one rfl rfl .nil)),[.lst true 1 (Ls b5),.val (.bool true)],[0],by simp [SF.cells,XQuery.cells,UA,U1,IA,I1,LA,L1,BA,B1,EA,E1,E2,eB,eI,eL,Q5 _ Q6 _ (fun _=>rfl),Qx,Q5 _ Qx _ (fun _=>rfl)],by simp,(UpL.refl _)⟩
attribute [local simp] unk unA unE unT unC flat eL eI Qf QZ Q6 SF.cells XQuery.cells
noncomputable def Q1Z (f_:SF) (q_:XQuery):Option (List Int) :=
 (Q19 q_.variables_ f_.sz).bind fun v1 =>
 some v1
@[simp] abbrev Yf (a:SF) (b:XQuery) (c:List (Nat × Ent)):List (Nat × Ent):=(0,.mix 7 [(SF.cells true a)])::(1,.mix 4 [(XQuery.cells true b)])::c
theorem Q5o (f_:SF) (q_:XQuery) (r:List Int) (h:Q1Z f_ q_=some r):Contract Try.prog 87 [.agg (f_.cells true),.agg (q_.cells true)] (lI r):=by
 refine Qd (rvs:=[.tmp 4]) (rs:=[lI r]) Try.func87 rfl rfl rfl rfl (by simp [Try.f87]) fun F hN hP=>?_;unfold Q1Z at h;refine Q1 (runQ hN fun K hK=>?_);simp;repeat refine sdQ ?_
 refine hK _ ?_;clear hK K;refine tn (Q4 (st':=⟨Yp [],Yf f_ q_ [],2⟩) (Qo [(0,0),(1,1)]) (Q1 (runQ hN fun K hK=>?_)));simp;repeat with_reducible refine sdQ ?_
 replace ⟨v1,hv1,h⟩:=bind_some h;refine Q3 (Q2U _ _ v1 hv1) (.cons .lst (.cons .lst .nil)) ?_;simp;repeat refine sdQ ?_
 refine hK _ (tn (Q4 (st':=⟨[(4,.own 0 0 v1.length)],[(0,rI v1)],1⟩) (Qo [(2,0)]) (Ql ?_)));clear hK K;have hr:=zC h;rw [← hr];refine ⟨_,(.tmp .nil),?_⟩;refine ⟨(.one rfl rfl .nil),[lI v1],[0],by simp [SF.cells,XQuery.cells,UA,U1,IA,I1,LA,L1,BA,B1,EA,E1,E2,eB,eI,eL,Q5 _ Q6 _ (fun _=>rfl)],by simp,(UpL.refl _)⟩
attribute [local simp] unk unA unE unT unC flat eL eI Qf QZ Q6 SF.cells XQuery.cells
noncomputable def Q2R (f_:SF) (q_:XQuery):Option Bool :=
 (Q1Z f_ q_).bind fun v1 =>
 (Q1E v1).bind fun v2 =>
 (Q3g v2 0 4096).bind fun v3 =>
 some v3
theorem Q9g (f_:SF) (q_:XQuery) (r:Bool) (h:Q2R f_ q_=some r):Contract Try.prog 53 [.agg (f_.cells true),.agg (q_.cells true)] (.val (.bool r)):=by
 refine Qd (rvs:=[.tmp 4]) (rs:=[.val (.bool r)]) Try.func53 rfl rfl rfl rfl (by simp [Try.f53]) fun F hN hP=>?_;unfold Q2R at h;refine Q1 (runQ hN fun K hK=>?_);simp;repeat refine sdQ ?_
 refine hK _ ?_;clear hK K;refine tn (Q4 (st':=⟨Yp [],Yf f_ q_ [],2⟩) (Qo [(0,0),(1,1)]) (Q1 (runQ hN fun K hK=>?_)));simp;repeat with_reducible refine sdQ ?_
 replace ⟨v1,hv1,h⟩:=bind_some h;refine Q3 (Q5o _ _ v1 hv1) (.cons (.aggL (.cons .val (.cons .lst (.cons .lst (.cons .lst (.cons .lst (.cons .lst (.cons .lst .nil)))))))) (.cons (.aggL (.cons .lst (.cons .lst (.cons .lst (.cons .lst .nil))))) .nil)) ?_;simp;repeat with_reducible refine sdQ ?_
 replace ⟨v2,hv2,h⟩:=bind_some h;refine Q3 (Q40 _ v2 hv2) (.cons .w .nil) ?_;simp;repeat with_reducible refine sdQ ?_
 replace ⟨v3,hv3,h⟩:=bind_some h;refine Q3 (Q8n _ _ _ v3 hv3) (.cons .val (.cons .val (.cons .val .nil))) ?_;simp;repeat refine sdQ ?_
 refine hK _ (tn (Q4 (st':=⟨[(4,.val (.bool v3))],[],0⟩) (Qo []) (Ql ?_)));clear hK K;have hr:=zC h;rw [← hr];refine ⟨_,(.tmp .nil),?_⟩;refine ⟨(.one rfl rfl .nil),[.val (.bool v3)],[],by simp [SF.cells,XQuery.cells,UA,U1,IA,I1,LA,L1,BA,B1,EA,E1,E2,eB,eI,eL,Q5 _ Q6 _ (fun _=>rfl)],by simp,(UpL.refl _)⟩
attribute [local simp] unk unA unE unT unC flat eL eI Qf QZ Q6 Qe SF.cells XQuery.cells XTerm.cells
noncomputable def Q1z (f_:SF) (q_:XQuery):Option (List (List Int)) :=
 (Q1Z f_ q_).bind fun v1 =>
 (Q1E v1).bind fun v2 =>
 (QA (σ:=List (List Int) × Int) (ε:=List (List Int)) (fun s39 =>
  if s39.2<v2 then
   (
    (Q3f v1 s39.2).bind fun v42 =>
    (QA (σ:=Bool × Int) (ε:=Bool) (fun s57 =>
     (
      if s57.1=true then
       some (decide (s57.2<(q_.left_.length:Int)))
      else
       some false:Option (Bool)).bind fun b58 =>
     if b58=true then
      ass (0≤s57.2∧s57.2<(q_.left_.length:Int)) <|
      ass (0≤(gx q_.left_ s57.2).arrow_∧(gx q_.left_ s57.2).arrow_<(f_.ac.length:Int)) <|
      ass (0≤s57.2∧s57.2<(q_.left_.length:Int)) <|
      ass (0≤(gx q_.left_ s57.2).variable_∧(gx q_.left_ s57.2).variable_<(v42.length:Int)) <|
      ass (0≤ix v42 ((gx q_.left_ s57.2).variable_)∧ix v42 ((gx q_.left_ s57.2).variable_)<((rx f_.ac ((gx q_.left_ s57.2).arrow_)).length:Int)) <|
      ass (0≤s57.2∧s57.2<(q_.right_.length:Int)) <|
      ass (0≤(gx q_.right_ s57.2).arrow_∧(gx q_.right_ s57.2).arrow_<(f_.ac.length:Int)) <|
      ass (0≤s57.2∧s57.2<(q_.right_.length:Int)) <|
      ass (0≤(gx q_.right_ s57.2).variable_∧(gx q_.right_ s57.2).variable_<(v42.length:Int)) <|
      ass (0≤ix v42 ((gx q_.right_ s57.2).variable_)∧ix v42 ((gx q_.right_ s57.2).variable_)<((rx f_.ac ((gx q_.right_ s57.2).arrow_)).length:Int)) <|
      ass (B64 (s57.2+1)) <|
      some (Ctl.next ((ix (rx f_.ac ((gx q_.left_ s57.2).arrow_)) (ix v42 ((gx q_.left_ s57.2).variable_))) == (ix (rx f_.ac ((gx q_.right_ s57.2).arrow_)) (ix v42 ((gx q_.right_ s57.2).variable_))),s57.2+1))
     else
      some (Ctl.ret s57.1)) fuel (true,0)).bind fun b43 =>
    if b43=true then
     ass ((s39.1++[v42]).length≤1073741824) <|
     some (s39.1++[v42])
    else
     some s39.1:Option (List (List Int))).bind fun b41 =>
   ass (B64 (s39.2+1)) <|
   some (Ctl.next (b41,s39.2+1))
  else
   some (Ctl.ret s39.1)) fuel ([],0)).bind fun b3 =>
 some b3
@[simp] abbrev Yz (a:List Int) (b:List (List Int) × Int) (c:Int) (d:List Int) (e:List (Nat × AV)):List (Nat × AV):=(5,.own 2 0 a.length)::(6,.own 3 0 b.1.length)::(7,iV c)::(8,iV b.2)::(9,.own 4 0 d.length)::e
theorem Q5w (f_:SF) (q_:XQuery) (r:List (List Int)) (h:Q1z f_ q_=some r):Contract Try.prog 88 [.agg (f_.cells true),.agg (q_.cells true)] (.lst true 1 (Ls r)):=by
 refine Qd (rvs:=[.tmp 4]) (rs:=[.lst true 1 (Ls r)]) Try.func88 rfl rfl rfl rfl (by simp [Try.f88]) fun F hN hP=>?_;unfold Q1z at h;refine Q1 (runQ hN fun K hK=>?_);simp;repeat refine sdQ ?_
 refine hK _ ?_;clear hK K;refine tn (Q4 (st':=⟨Yp [],Yf f_ q_ [],2⟩) (Qo [(0,0),(1,1)]) (Q1 (runQ hN fun K hK=>?_)));simp;repeat with_reducible refine sdQ ?_
 replace ⟨v1,hv1,h⟩:=bind_some h;refine Q3 (Q5o _ _ v1 hv1) (.cons (.aggL (.cons .val (.cons .lst (.cons .lst (.cons .lst (.cons .lst (.cons .lst (.cons .lst .nil)))))))) (.cons (.aggL (.cons .lst (.cons .lst (.cons .lst (.cons .lst .nil))))) .nil)) ?_;simp;repeat refine sdQ ?_
 refine hK _ ?_;clear hK K;refine tn (Q4 (st':=⟨Yp [(5,.own 2 0 v1.length),(6,.own 3 0 0)],Yf f_ q_ [(2,rI v1),(3,.mix 1 [])],4⟩) (Q1N 4) (Q1 (runQ hN fun K hK=>?_)));simp;repeat with_reducible refine sdQ ?_
 replace ⟨v2,hv2,h⟩:=bind_some h;refine Q3 (Q40 _ v2 hv2) (.cons .w .nil) ?_;simp;repeat refine sdQ ?_
 refine hK _ ?_;clear hK K;refine tn (Q4 (st':=⟨Yp [(5,.own 2 0 v1.length),(6,.own 3 0 0),(7,iV v2)],Yf f_ q_ [(2,rI v1),(3,.mix 1 [])],4⟩) (Q1N 4) (Q1 (Q1 (runQ hN fun K hK=>?_))));simp;repeat refine sdQ ?_
 refine hK _ (tn (Q4 (st':=⟨Yp [(5,.own 2 0 v1.length),(6,.own 3 0 0),(7,iV v2),(8,iV 0)],Yf f_ q_ [(2,rI v1),(3,.mix 1 [])],4⟩) (Q1N 4) ?_));clear hK K;replace ⟨e3,h,h3⟩:=bind_some h;refine Qk (fun b3:List (List Int)=>⟨[(6,.own 0 0 b3.length)],[(0,.row 1 (Ls b3))],1⟩) (fun b3=>b3=e3) ?_ ?_
 ·refine Q7 (Qu h (fun s39:List (List Int) × Int=>⟨Yp [(5,.own 2 0 v1.length),(6,.own 3 0 s39.1.length),(7,iV v2),(8,iV s39.2)],Yf f_ q_ [(2,rI v1),(3,.row 1 (Ls s39.1))],4⟩) (Q2V ⟨Yp [(5,.own 2 0 v1.length),(6,.own 3 0 0),(7,iV v2),(8,iV 0)],Yf f_ q_ [(2,rI v1),(3,.row 1 (Ls []))],4⟩ (Wk.nils [] (by simp) (by simp) (by simp [nlA]) (by simp [entN,nlL,nlA,SF.cells,XQuery.cells,XTerm.cells,UA,U1,IA,I1,LA,L1,BA,B1,EA,E1,E2,eB,eI,eL,Q5 _ Q6 _ (fun _=>rfl),Q5 _ Qe _ (fun _=>rfl)]) (by simp)) (Q1N 4)) ?_);clear h;intro k39 s39 c39 h hk39;refine Q1 (Q1 (runQ hN fun K hK=>?_));simp;repeat refine sdQ ?_
  refine hK _ ?_;clear hK K;refine tn (Qa rfl (fun g=>?_) fun g=>?_)
  ·have g40:s39.2<v2:=gQ;clear g;replace h:=if_l g40 h;refine Qc (tn (Q1 ?_));replace ⟨e41,h,h41⟩:=bind_some h;refine Qk (fun b41:List (List Int)=>⟨Yp [(5,.own 2 0 v1.length),(6,.own 3 0 b41.length),(7,iV v2),(8,iV s39.2)],Yf f_ q_ [(2,rI v1),(3,.row 1 (Ls b41))],4⟩) (fun b41=>b41=e41) ?_ ?_
   ·refine Q7 (Q1 (runQ hN fun K hK=>?_));simp;(repeat with_reducible refine sdQ ?_);replace ⟨v42,hv42,h⟩:=bind_some h;refine Q3 (Q8m _ _ v42 hv42) (.cons .w (.cons .val .nil)) ?_;simp;(repeat refine sdQ ?_);refine hK _ ?_;clear hK K;refine tn (Q4 (st':=⟨Yp (Yz v1 s39 v2 v42 [(10,.val (.bool true))]),Yf f_ q_ [(2,rI v1),(3,.row 1 (Ls s39.1)),(4,rI v42)],5⟩) (Q1N 5) (Q1 (Q1 (runQ hN fun K hK=>?_))));simp;(repeat refine sdQ ?_);refine hK _ (tn (Q4 (st':=⟨Yp (Yz v1 s39 v2 v42 [(10,.val (.bool true)),(11,iV 0)]),Yf f_ q_ [(2,rI v1),(3,.row 1 (Ls s39.1)),(4,rI v42)],5⟩) (Q1N 5) ?_));clear hK K;replace ⟨e43,h,h43⟩:=bind_some h;refine Qk (fun b43:Bool=>⟨Yp (Yz v1 s39 v2 v42 [(10,.val (.bool b43))]),Yf f_ q_ [(2,rI v1),(3,.row 1 (Ls s39.1)),(4,rI v42)],5⟩) (fun b43=>b43=e43) ?_ ?_
    ·refine Q7 (Qu h (fun s57:Bool × Int=>⟨Yp (Yz v1 s39 v2 v42 [(10,.val (.bool s57.1)),(11,iV s57.2)]),Yf f_ q_ [(2,rI v1),(3,.row 1 (Ls s39.1)),(4,rI v42)],5⟩) (Q1N 5) ?_);clear h;intro k57 s57 c57 h hk57;refine Q1 (Q1 ?_);replace ⟨e58,h,h58⟩:=bind_some h;refine Qk (fun b58:Bool=>⟨Yp (Yz v1 s39 v2 v42 [(10,.val (.bool s57.1)),(11,iV s57.2),(33,.val (.bool b58))]),Yf f_ q_ [(2,rI v1),(3,.row 1 (Ls s39.1)),(4,rI v42)],5⟩) (fun b58=>b58=e58) ?_ ?_
     ·refine runQ hN fun K hK=>?_;simp;(repeat with_reducible refine sdQ ?_);refine QB (fun g=>?_) (fun g=>?_)
      ·have g59:s57.1=true:=gQ;clear g;replace h:=if_l g59 h;simp;(repeat refine sdQ ?_);refine hK _ ?_;exact jn (b:=decide (s57.2<(q_.left_.length:Int))) (zC h) (Q1N 5)
      have g59:¬ (s57.1=true):=gQ;clear g;replace h:=if_r g59 h;simp;(repeat refine sdQ ?_);refine hK _ ?_;exact jn (b:=false) (zC h) (Q1N 5)
     intro b58 hb58;have h:=h58;(try rw [← hb58] at h);clear h58;(try dsimp only at h);refine Qa rfl (fun g=>?_) fun g=>?_
     ·have g60:b58=true:=gQ;clear g;replace h:=if_l g60 h;refine Qc (tn (Q1 (Q7 (runQ hN fun K hK=>?_))));replace ⟨a61,h⟩:=Q0 h;replace ⟨a62,h⟩:=Q0 h;replace ⟨a63,h⟩:=Q0 h;replace ⟨a64,h⟩:=Q0 h;replace ⟨a65,h⟩:=Q0 h;replace ⟨a66,h⟩:=Q0 h;replace ⟨a67,h⟩:=Q0 h;replace ⟨a68,h⟩:=Q0 h;replace ⟨a69,h⟩:=Q0 h;replace ⟨a70,h⟩:=Q0 h;simp [at_E (c:=(XTerm.cells true)) a61,at_L a62,at_E (c:=(XTerm.cells true)) a63,at_I a64,at_I a65,at_E (c:=(XTerm.cells true)) a66,at_L a67,at_E (c:=(XTerm.cells true)) a68,at_I a69,at_I a70];(repeat refine sdQ ?_);refine hK _ ?_;clear hK K;refine bn (tn (Q4 (st':=⟨Yp (Yz v1 s39 v2 v42 [(10,.val (.bool ((ix (rx f_.ac ((gx q_.left_ s57.2).arrow_)) (ix v42 ((gx q_.left_ s57.2).variable_))) == (ix (rx f_.ac ((gx q_.right_ s57.2).arrow_)) (ix v42 ((gx q_.right_ s57.2).variable_)))))),(11,iV s57.2)]),Yf f_ q_ [(2,rI v1),(3,.row 1 (Ls s39.1)),(4,rI v42)],5⟩) (Q1N 5) (runQ hN fun K hK=>?_)));replace ⟨a71,h⟩:=Q0 h;simp [Qm a71];(repeat refine sdQ ?_);refine hK _ ?_;clear hK K;cases h;exact rn (s':=((ix (rx f_.ac ((gx q_.left_ s57.2).arrow_)) (ix v42 ((gx q_.left_ s57.2).variable_))) == (ix (rx f_.ac ((gx q_.right_ s57.2).arrow_)) (ix v42 ((gx q_.right_ s57.2).variable_))),s57.2+1)) hk57 (Q1N 5)
     have g60:¬ (b58=true):=gQ;clear g;replace h:=if_r g60 h;refine Qp (tx (lx (bh ?_)));cases h;exact jn (b:=s57.1) hk57 (Q1N 5)
    intro b43 hb43;have h:=h43;(try rw [← hb43] at h);clear h43;(try dsimp only at h);refine Q1 (runQ hN fun K hK=>?_);simp;(repeat refine sdQ ?_);refine hK _ ?_;clear hK K;refine tn (Qa rfl (fun g=>?_) fun g=>?_)
    ·have g72:b43=true:=gQ;clear g;replace h:=if_l g72 h;refine runQ hN fun K hK=>?_;replace ⟨a73,h⟩:=Q0 h;(try simp only [qE,qG,zB] at a73);simp [a73];(repeat refine sdQ ?_);refine hK _ (bn ?_);clear hK K;exact jn (b:=s39.1++[v42]) (zC h) (Qo [(0,0),(1,1),(2,2),(6,3)])
    have g72:¬ (b43=true):=gQ;clear g;replace h:=if_r g72 h;refine Qc (bn ?_);exact jn (b:=s39.1) (zC h) (Q1N 4)
   intro b41 hb41;have h:=h41;(try rw [← hb41] at h);clear h41;(try dsimp only at h);refine runQ hN fun K hK=>?_;replace ⟨a74,h⟩:=Q0 h;simp [Qm a74];(repeat refine sdQ ?_);refine hK _ ?_;clear hK K;cases h;exact rn (s':=(b41,s39.2+1)) hk39 (Q1N 4)
  have g40:¬ (s39.2<v2):=gQ;clear g;replace h:=if_r g40 h;refine Qp (tx (lx (bh ?_)));cases h;exact jn (b:=s39.1) hk39 (Qo [(3,0)])
 intro b3 hb3;have h:=h3;try rw [← hb3] at h
 clear h3;try dsimp only at h
 refine Q1 (runQ hN fun K hK=>?_);simp;repeat refine sdQ ?_
 refine hK _ (tn (Q4 (st':=⟨[(4,.own 0 0 b3.length)],[(0,.row 1 (Ls b3))],1⟩) (Qo [(0,0)]) (Ql ?_)));clear hK K;have hr:=zC h;rw [← hr];refine ⟨_,(.tmp .nil),?_⟩;refine ⟨(.one rfl rfl .nil),[.lst true 1 (Ls b3)],[0],by simp [SF.cells,XQuery.cells,XTerm.cells,UA,U1,IA,I1,LA,L1,BA,B1,EA,E1,E2,eB,eI,eL,Q5 _ Q6 _ (fun _=>rfl),Q5 _ Qe _ (fun _=>rfl)],by simp,(UpL.refl _)⟩
section
attribute [local simp] Qh QF Qs QT QE
structure FQ (c:Cat) (F:SF):Prop where
 nz:F.sz.length=c.id.length
 sz:∀ x:Nat,x<F.sz.length→0≤ix F.sz x∧ix F.sz x≤16
 na:F.ac.length=c.fr.length
 al:∀ a:Nat,a<c.fr.length→((rx F.ac a).length:Int)=ix F.sz (frN c a)
theorem mxP_nn (L:List Int):∀ k,k≤L.length→0≤mxP L k:=by
 intro k
 induction k with
 | zero=>intro _;simp [mxP]
 | succ k ih =>
  intro hk;have h:=ih (by omega);rw [Q5C (by omega)];split<;>omega
theorem canon_fq {c:Cat} {q:XQuery} (hc:c.Is) {R:Nat→Nat→Nat} (hf:Q2X c q R):FQ c (quoF (QM c q.variables_) (clsF c q R)):=by
 have al:(QM c q.variables_).ac.length=c.fr.length:=by simp [QM]
 have lc:(clsF c q R).length=c.id.length:=by simp [clsF]
 have nz:(quoF (QM c q.variables_) (clsF c q R)).sz.length=c.id.length:=by simp [quoF,quoZ,lc]
 have e1:∀ y:Nat,y<c.id.length→ix (quoF (QM c q.variables_) (clsF c q R)).sz y=mxP (rx (clsF c q R) y) (rx (clsF c q R) y).length:=fun y hy=>Q4k _ _ (by rw [lc];exact hy);have zz:∀ y:Nat,y<c.id.length→ix (quoF (QM c q.variables_) (clsF c q R)).sz y≤16:=by
  intro y hy;unfold Q2X at hf;rw [lc] at hf;have hz:(quoZ (clsF c q R) c.id.length).all (fun x=>decide (x≤16))=true:=by
   unfold mad at hf
   by_cases k:(quoZ (clsF c q R) c.id.length).all (fun x=>decide (x≤16))=true
   ·exact k
   rw [Bool.not_eq_true] at k;rw [k] at hf;simp at hf
  have ll:y<(quoZ (clsF c q R) c.id.length).length:=by simp [quoZ];omega
  have:=List.all_eq_true.1 hz _ (List.getElem_mem ll);rw [decide_eq_true_eq,Q1d _ _ ll] at this;have e:(quoF (QM c q.variables_) (clsF c q R)).sz=quoZ (clsF c q R) c.id.length:=by simp [quoF,lc]
  rw [e];exact this
 refine ⟨nz,fun x hx=>⟨?_,zz x (by omega)⟩,by simp [quoF,al],fun a ha=>?_⟩
 ·rw [e1 x (by omega)];exact mxP_nn _ _ (qD _)
 obtain ⟨f1,f2,f3,f4⟩:=Q1o hc ha;have e2:rx (quoF (QM c q.variables_) (clsF c q R)).ac a=quoA (QM c q.variables_) (clsF c q R) a (rx (QM c q.variables_).ac a).length:=by
  simp only [quoF];simp [rx,tab,List.getD_eq_getElem?_getD,al,ha]
 have sf:(QM c q.variables_).s=c:=rfl;rw [e2,Q7m,sf,f1,e1 _ f2];have:=mxP_nn (rx (clsF c q R) (frN c a)) _ (qD _);omega
section
variable {c:Cat} {q:XQuery} {F:SF}
theorem var_sz (hq:QIs c q) (hF:FQ c F) {i:Nat} (hi:i<q.variables_.length):ix (QG q.variables_ F.sz) i=ix F.sz (VN q.variables_ i)∧VN q.variables_ i<F.sz.length:=by
 obtain ⟨v1,v2⟩:=hq.v.at' i hi;rw [Q4F _ _ (by omega) (by omega),v1];exact ⟨rfl,by rw [hF.nz];exact v2⟩
theorem szQ (hq:QIs c q) (hF:FQ c F):SzQ (QG q.variables_ F.sz):=by
 refine ⟨by simpa using hq.v.len,fun i hi=>?_⟩;obtain ⟨w1,w2⟩:=var_sz hq hF (i:=i) (by simpa using hi);rw [w1];exact hF.sz _ w2
theorem var_in (hq:QIs c q) (hF:FQ c F):∀ y∈q.variables_,0≤y∧y<(F.sz.length:Int):=by
 refine mem_bnd fun j hj=>?_;obtain ⟨v1,v2⟩:=hq.v.at' j hj;rw [v1,hF.nz];omega
theorem Q7u (hq:QIs c q) (hF:FQ c F) {T:List Int} (hT:TupQ (QG q.variables_ F.sz) T) {t:XTerm} (ht:TmQ c q.variables_ t) :
  (0≤t.arrow_∧t.arrow_<(F.ac.length:Int))∧(0≤t.variable_∧t.variable_<(T.length:Int))∧(0≤ix T t.variable_∧ix T t.variable_<((rx F.ac t.arrow_).length:Int)):=by
 obtain ⟨e1,e2,e3,e4⟩:=ht.e;have hl:=hT.len;rw [QS] at hl;have w:=var_sz hq hF e3;have b:=hT.b (tP t).1 (by rw [QS];exact e3);have a:=hF.al _ e4;have f:=ht.f;have na:=hF.na;rw [e1,e2,a,f,← w.1];exact ⟨by omega,by omega,b⟩
def cdQ (q:XQuery) (F:SF) (T:List Int) (i:Nat):Prop:=ix (rx F.ac (gx q.left_ i).arrow_) (ix T (gx q.left_ i).variable_)=ix (rx F.ac (gx q.right_ i).arrow_) (ix T (gx q.right_ i).variable_)
def okQ (q:XQuery) (F:SF) (T:List Int):Prop:=∀ i:Nat,i<q.left_.length→cdQ q F T i
noncomputable def soN (q:XQuery) (F:SF) (S:List Int) (k:Nat):List (List Int):=((List.range k).filter fun n:Nat=>bo (okQ q F (atT S (n:Int)))).map fun n:Nat=>atT S (n:Int)
theorem soN_pos {S:List Int} {k:Nat} (h:okQ q F (atT S (k:Int))):soN q F S (k+1)=soN q F S k++[atT S (k:Int)]:=by simp [soN,List.range_succ,List.filter_append,QX h]
theorem soN_neg {S:List Int} {k:Nat} (h:¬ okQ q F (atT S (k:Int))):soN q F S (k+1)=soN q F S k:=by simp [soN,List.range_succ,List.filter_append,QH h]
theorem Q7r (S:List Int) (k:Nat):(soN q F S k).length≤k:=by
 have:=List.length_filter_le (fun n:Nat=>bo (okQ q F (atT S (n:Int)))) (List.range k);simpa [soN] using this
theorem mem_so {S:List Int} {k:Nat} {T:List Int}:T∈soN q F S k↔∃ n:Nat,n<k∧okQ q F (atT S (n:Int))∧T=atT S (n:Int):=by
 simp only [soN,List.mem_map,List.mem_filter,List.mem_range,Q5p];constructor
 ·rintro ⟨e,⟨h1,h2⟩,rfl⟩;exact ⟨e,h1,h2,rfl⟩
 rintro ⟨e,h1,h2,rfl⟩;exact ⟨e,⟨h1,h2⟩,rfl⟩
def cnL (q:XQuery) (F:SF) (k:Nat):List (SF × XTerm × XTerm):=tab k fun i=>(F,gx q.left_ i,gx q.right_ i)
theorem e_condsI (hq:QIs c q):Q13 q F=some (cnL q F q.left_.length):=by
 have hl:=hq.nl;have hr:=hq.lr;unfold Q13;refine QN q.left_.length (fun k=>cnL q F k) (e:=cnL q F q.left_.length) rfl (by omega) (fun i hi=>?_) (by simp only;rw [if_neg (by omega)]) rfl;have ln:(cnL q F i).length=i:=by simp [cnL]
 simp only;rw [if_pos (by omega),Q2 (by omega),Q2 (by omega),Q2 (by simp [ln];omega),Q2 (by unfold B64;omega)];unfold cnL;rw [Q1U]
theorem e_holdsI (hq:QIs c q) (hF:FQ c F) {T:List Int} (hT:TupQ (QG q.variables_ F.sz) T) :
  Q8 (cnL q F q.left_.length) T=some (bo (¬ okQ q F T)):=by
 have hl:=hq.nl;have ln:(cnL q F q.left_.length).length=q.left_.length:=by simp [cnL]
 have one:∀ i:Nat,i<q.left_.length→QL ((gx (cnL q F q.left_.length) i).1,(gx (cnL q F q.left_.length) i).2.1,(gx (cnL q F q.left_.length) i).2.2) T=some (bo (¬ cdQ q F T i)):=by
  intro i hi;obtain ⟨a1,a2,a3⟩:=Q7u hq hF hT (hq.cl i hi);obtain ⟨b1,b2,b3⟩:=Q7u hq hF hT (hq.cr i hi);have e:gx (cnL q F q.left_.length) i=(F,gx q.left_ i,gx q.right_ i):=Q4Z hi _;rw [e];unfold QL QJ;simp only;rw [Q2 a1,Q2 a2,Q2 a3,Q2 b1,Q2 b2,Q2 b3];simp only [zF]
  congr 1
  refine Q3n ?_;unfold cdQ;simp
 have key:∃ v:Int,Q9 (cnL q F q.left_.length) T=some v∧decide (v ≥ 0)=bo (¬ okQ q F T):=by
  unfold Q9
  by_cases ok:okQ q F T
  ·refine ⟨-1,?_,by rw [QH (by simpa using ok)];rfl⟩;refine Q42 q.left_.length (fun i=>¬ cdQ q F T i) (eb:=fun i=>Sum.inr (i:Int)) (eg:=Sum.inl ()) (by omega) (fun i hi hp=>?_) (fun i hi hp=>absurd (ok i hi) hp) (by rw [ln,if_neg (by omega)]) (fun m hm hp hlt=>absurd (ok m hm) hp) fun hn=>rfl;rw [ln,if_pos (by omega),Q2 (by omega),one i hi];simp only [zF];rw [if_neg (by rw [Q5p];exact hp),Q2 (by unfold B64;omega)]
  have hx:∃ m,m<q.left_.length∧¬ cdQ q F T m:=Classical.byContradiction fun h=>ok fun i hi=>Classical.byContradiction fun hp=>h ⟨i,hi,hp⟩;obtain ⟨m,hm,hp,hlt⟩:∃ m,m<q.left_.length∧¬ cdQ q F T m∧∀ k,k<m→¬ ¬ cdQ q F T k:=by
   obtain ⟨m0,h0,h1⟩:=hx
   induction m0 using Nat.strongRecOn with
   | _ m0 ih =>
    by_cases q0:∃ k,k<m0∧¬ cdQ q F T k
    ·obtain ⟨k,k1,k2⟩:=q0;exact ih k k1 (by omega) k2
    exact ⟨m0,h0,h1,fun k hk h=>q0 ⟨k,hk,h⟩⟩
  refine ⟨m,?_,by rw [QX ok];simp⟩;refine Q42 q.left_.length (fun i=>¬ cdQ q F T i) (eb:=fun i=>Sum.inr (i:Int)) (eg:=Sum.inl ()) (by omega) (fun i hi hp=>?_) (fun i hi hp=>?_) (by rw [ln,if_neg (by omega)]) (fun m' hm' hp' hlt'=>?_) fun hn=>absurd hp (hn m hm)
  ·rw [ln,if_pos (by omega),Q2 (by omega),one i hi];simp only [zF];rw [if_neg (by rw [Q5p];exact hp),Q2 (by unfold B64;omega)]
  ·rw [ln,if_pos (by omega),Q2 (by omega),one i hi];simp only [zF];rw [if_pos (by rw [Q5p];exact hp)]
  simp only;have:m'=m:=by
   rcases Nat.lt_trichotomy m' m with k|k|k
   ·exact absurd hp' (hlt m' k)
   ·exact k
   exact absurd hp (hlt' m k)
  rw [this]
 obtain ⟨v,k1,k2⟩:=key;unfold Q8;rw [k1];simp only [zF];rw [k2]
theorem e_solI (hq:QIs c q) (hF:FQ c F):Q18 q F=some (if prN (QG q.variables_ F.sz) (QG q.variables_ F.sz).length≤4096 then (soN q F (QG q.variables_ F.sz) (prN (QG q.variables_ F.sz) (QG q.variables_ F.sz).length).toNat,true) else ([],false)):=by
 have hv:=hq.v.len;have hz:=szQ hq hF;have p:=Q3K hz (qD _);unfold Q18 Q1T;rw [Q2 (by omega),Q2 (var_in hq hF)];simp only [zF];rw [Q9x hz];simp only [zF];generalize hS:QG q.variables_ F.sz=S at *
 by_cases k:prN S S.length≤4096
 case neg=>rw [if_pos (by omega),if_neg k]
 rw [if_neg (by omega),if_pos k,e_condsI hq];simp only [zF];obtain ⟨N,hN⟩:∃ N:Nat,prN S S.length=(N:Int):=⟨(prN S S.length).toNat,by omega⟩;rw [hN,Int.toNat_natCast];refine QN N (fun k=>soN q F S k) (e:=soN q F S N) (by simp [soN]) (by omega) (fun i hi=>?_) (by simp only;rw [if_neg (by omega)]) rfl;have sl:=Q7r (q:=q) (F:=F) S i;simp only;rw [if_pos (by omega),e_atI hz (by omega) (by omega)];simp only [zF];have ht:=at_tup hz (n:=(i:Int)) (by omega) (by omega);rw [e_holdsI hq hF (by rw [hS];exact ht)];simp only [zF]
 by_cases ok:okQ q F (atT S (i:Int))
 ·rw [if_pos (by rw [Q5p];simpa using ok),Q2 (by simp;omega)];simp only [zF];rw [Q2 (by unfold B64;omega),soN_pos ok]
 rw [if_neg (by rw [Q5p];simpa using ok)];simp only [zF];rw [Q2 (by unfold B64;omega),soN_neg ok]
theorem e_fitsS (hq:QIs c q) (hF:FQ c F):Q2R F q=some (bo (prN (QG q.variables_ F.sz) (QG q.variables_ F.sz).length≤4096)):=by
 have hv:=hq.v.len;have hz:=szQ hq hF;have p:=Q3K hz (qD _);unfold Q2R Q1Z Q19 Q3g;rw [Q2 (by omega),Q2 (var_in hq hF)];simp only [zF];rw [Q77 hz];simp only [zF]
 congr 1
 refine Q3n ?_;simp only [Bool.and_eq_true,decide_eq_true_eq];omega
theorem e_solS (hq:QIs c q) (hF:FQ c F) (h4:prN (QG q.variables_ F.sz) (QG q.variables_ F.sz).length≤4096):Q1z F q=some (soN q F (QG q.variables_ F.sz) (prN (QG q.variables_ F.sz) (QG q.variables_ F.sz).length).toNat):=by
 have hv:=hq.v.len;have hl:=hq.nl;have hr:=hq.lr;have hz:=szQ hq hF;have p:=Q3K hz (qD _);unfold Q1z Q1Z Q19;rw [Q2 (by omega),Q2 (var_in hq hF)];simp only [zF];rw [Q77 hz];simp only [zF];generalize hS:QG q.variables_ F.sz=S at *;obtain ⟨N,hN⟩:∃ N:Nat,prN S S.length=(N:Int):=⟨(prN S S.length).toNat,by omega⟩;rw [hN,Int.toNat_natCast];refine QN N (fun k=>soN q F S k) (e:=soN q F S N) (by simp [soN]) (by omega) (fun i hi=>?_) (by simp only;rw [if_neg (by omega)]) rfl;have sl:=Q7r (q:=q) (F:=F) S i;simp only;rw [if_pos (by omega),e_atS hz (by omega) (by omega)];simp only [zF];have ht:=at_tup hz (n:=(i:Int)) (by omega) (by omega);rw [← hS] at ht;rw [hS] at ht;generalize hT:atT S (i:Int)=T at *;have hT':TupQ (QG q.variables_ F.sz) T:=by rw [hS];exact ht
 rw [Option.bind_assoc];refine Q1p (Q:=fun o=>o=some (Ctl.next (soN q F S (i+1),(i:Int)+1))) (q.left_.length+1) (fun k s=>(s=(true,(k:Int))∧∀ j:Nat,j<k→j<q.left_.length→cdQ q F T j)∨(s=(false,(k:Int))∧¬ okQ q F T)) (fun b=>b=bo (okQ q F T)) (by omega) (.inl ⟨rfl,fun j hj=>by omega⟩) (fun k s hk hI=>?_) (fun s hI=>?_) fun e he=>?_
 ·rcases hI with ⟨rfl,hI⟩|⟨rfl,hI⟩
  ·by_cases kl:k<q.left_.length
   ·left;obtain ⟨a1,a2,a3⟩:=Q7u hq hF hT' (hq.cl k kl);obtain ⟨b1,b2,b3⟩:=Q7u hq hF hT' (hq.cr k kl);refine ⟨((ix (rx F.ac (gx q.left_ (k:Int)).arrow_) (ix T (gx q.left_ (k:Int)).variable_)) == (ix (rx F.ac (gx q.right_ (k:Int)).arrow_) (ix T (gx q.right_ (k:Int)).variable_)),(k:Int)+1),?_,?_⟩
    ·simp only;rw [if_pos trivial];simp only [zF];rw [if_pos (by simp;omega),Q2 (by omega),Q2 a1,Q2 (by omega),Q2 a2,Q2 a3,Q2 (by omega),Q2 b1,Q2 (by omega),Q2 b2,Q2 b3,Q2 (by unfold B64;omega)]
    by_cases hk':cdQ q F T k
    ·left;refine ⟨Prod.ext (by simp only [beq_iff_eq];exact hk') rfl,fun j hj hjl=>?_⟩
     by_cases e:j=k
     ·rw [e];exact hk'
     exact hI j (by omega) hjl
    right;exact ⟨Prod.ext (by simp only [beq_eq_false_iff_ne,ne_eq];exact hk') rfl,fun o=>hk' (o k kl)⟩
   right;refine ⟨true,?_,(QX fun j hj=>hI j (by omega) hj).symm⟩;simp only;rw [if_pos trivial];simp only [zF];rw [if_neg (by simp;omega)]
  right;refine ⟨false,?_,(QH hI).symm⟩;simp
 ·rcases hI with ⟨rfl,hI⟩|⟨rfl,hI⟩
  ·refine ⟨true,?_,(QX fun j hj=>hI j (by omega) hj).symm⟩;simp only;rw [if_pos trivial];simp only [zF];rw [if_neg (by simp;omega)]
  refine ⟨false,?_,(QH hI).symm⟩;simp
 subst he
 by_cases ok:okQ q F T
 ·rw [if_pos (QX ok),Q2 (by simp;omega)];simp only [zF];rw [Q2 (by unfold B64;omega),soN_pos (by rw [hT];exact ok),hT]
 rw [if_neg (by rw [Q5p];exact ok)];simp only [zF];rw [Q2 (by unfold B64;omega),soN_neg (by rw [hT];exact ok)]
end
end
attribute [local simp] unk unA unE unT unC flat eL eI Qf Q28 QZ QI Qg Q6 Cat.cells SF.cells XCanonical.cells XPairint64.cells XQuery.cells
noncomputable def Q23 (c_:Cat) (p_:XQuery) (q_:XQuery):Option (Bool × Int) :=
 (Q1Q c_ [p_,q_]).bind fun v1 =>
 if ¬ (v1=true) then
  some (false,1)
 else
  (Q1T p_.output_ p_.variables_).bind fun v3 =>
  (Q1T q_.output_ q_.variables_).bind fun v4 =>
  (Q31 v3 v4).bind fun v5 =>
  if ¬ (v5=true) then
   some (false,5)
  else
   (QO c_ p_).bind fun v7 =>
   match v7 with
   | .inl v7 =>
    some (false,3)
   | .inr v7 =>
    (Q18 q_ (⟨(⟨v7.1,v7.2.1,v7.2.2.1,v7.2.2.2.1,v7.2.2.2.2.1⟩:Cat),v7.2.2.2.2.2.1,v7.2.2.2.2.2.2.1⟩:SF)).bind fun v8 =>
    if ¬ (v8.2=true) then
     some (false,3)
    else
     (QR (⟨p_,(⟨(⟨v7.1,v7.2.1,v7.2.2.1,v7.2.2.2.1,v7.2.2.2.2.1⟩:Cat),v7.2.2.2.2.2.1,v7.2.2.2.2.2.2.1⟩:SF),v7.2.2.2.2.2.2.2⟩:XCanonical)).bind fun v10 =>
     (Q1T p_.output_ v10).bind fun v11 =>
     (QA (σ:=Int) (ε:=Unit ⊕ (Bool × Int)) (fun s19 =>
      if s19<(v8.1.length:Int) then
       ass (0≤s19∧s19<(v8.1.length:Int)) <|
       (Q1T q_.output_ (rx v8.1 s19)).bind fun v22 =>
       (Q31 v22 v11).bind fun v23 =>
       if v23=true then
        some (Ctl.ret (Sum.inr (true,0)))
       else
        ass (B64 (s19+1)) <|
        some (Ctl.next (s19+1))
      else
       some (Ctl.ret (Sum.inl ()))) fuel 0).bind fun e12 =>
     match e12 with
     | .inl b12 =>
      some (false,0)
     | .inr p12 =>
      some p12
@[simp] abbrev YC (a b:XQuery) (c:List (Nat × AV)):List (Nat × AV):=(4,.rptr (XQuery.cells true a))::(5,.rptr (XQuery.cells true b))::c
@[simp] abbrev Y04 (a:XQuery) (b:List Int) (c:List (List Int) × Bool) (d:List (Nat × AV)):List (Nat × AV):=(5,.rptr (XQuery.cells true a))::(11,.own 0 0 b.length)::(49,.own 1 0 c.1.length)::(50,iV (c.1.length:Int))::d
@[simp] abbrev Y0h (a:List (Nat × AV)):List (Nat × AV):=(6,.val (.bool false))::a
theorem Q6k (c_:Cat) (p_:XQuery) (q_:XQuery) (r:Bool × Int) (h:Q23 c_ p_ q_=some r):Contract Try.prog 26 (Y0q c_ p_ [.agg (q_.cells true)]) (.tup [.val (.bool r.1),iV r.2]):=by
 refine Qd (rvs:=[.tmp 6,.tmp 7]) (rs:=[.val (.bool r.1),iV r.2]) Try.func26 rfl rfl rfl rfl (by simp [Try.f26]) fun F hN hP=>?_;unfold Q23 at h;refine Q1 (Qn [3,4,5] mo (by rw [hN];decide) fun K hK=>?_);simp;repeat refine sdQ ?_
 refine hK _ ?_;clear hK K;refine tn (Q4 (st':=⟨(3,.rptr (Cat.cells true c_))::YC p_ q_ [],[],0⟩) (Qo []) (Q1 (Q1 (runQ hN fun K hK=>?_))));simp;repeat with_reducible refine sdQ ?_
 replace ⟨v1,hv1,h⟩:=bind_some h;refine Q3 (Q6w _ _ v1 hv1) (.cons (.preT (by simp [Cat.cells,XQuery.cells])) (.cons (.lits (es:=_) rfl (.cons rfl (.cons (.preT (by simp [Cat.cells,XQuery.cells])) .nil) (.cons rfl (.cons (.preT (by simp [Cat.cells,XQuery.cells])) .nil) .nil)) rfl) .nil)) ?_;simp;repeat refine sdQ ?_
 refine hK _ ?_;clear hK K;refine tn (Q4 (st':=⟨(3,.rptr (Cat.cells true c_))::YC p_ q_ [(16,.val (.bool (!v1)))],[],0⟩) (Qo []) (Qa rfl (fun g=>?_) fun g=>?_))
 ·have g2:¬ (v1=true):=gQ;clear g;replace h:=if_l g2 h;refine Q1 (runQ hN fun K hK=>?_);simp;repeat refine sdQ ?_
  refine hK _ (tn (Q4 (st':=⟨Y0h [(7,iV 1)],[],0⟩) (Qo []) (Ql (tr ?_))));clear hK K;have hr:=zC h;rw [← hr];refine ⟨_,(.tmp (.tmp .nil)),?_⟩;refine ⟨(.one rfl rfl (.one rfl rfl .nil)),[.val (.bool false),iV 1],[],by simp [Cat.cells,SF.cells,XCanonical.cells,XPairint64.cells,XQuery.cells,UA,U1,IA,I1,LA,L1,BA,B1,EA,E1,E2,eB,eI,eL,Q5 _ QI _ (fun _=>rfl),Q5 _ Qg _ (fun _=>rfl),Q5 _ Q6 _ (fun _=>rfl)],by simp,(UpL.refl _)⟩
 have g2:¬ (¬ (v1=true)):=gQ;clear g;replace h:=if_r g2 h;refine Qc (tn (Q1 (Q1 (runQ hN fun K hK=>?_))));simp;repeat with_reducible refine sdQ ?_
 replace ⟨v3,hv3,h⟩:=bind_some h;refine Q3 (Q4S _ _ v3 hv3) (.cons .lst (.cons .lst .nil)) ?_;simp;repeat with_reducible refine sdQ ?_
 replace ⟨v4,hv4,h⟩:=bind_some h;refine Q3 (Q4S _ _ v4 hv4) (.cons .lst (.cons .lst .nil)) ?_;simp;repeat with_reducible refine sdQ ?_
 replace ⟨v5,hv5,h⟩:=bind_some h;refine Q3 (Qab _ _ v5 hv5) (.cons .w (.cons .w .nil)) ?_;simp;repeat refine sdQ ?_
 refine hK _ ?_;clear hK K;refine tn (Q4 (st':=⟨(3,.rptr (Cat.cells true c_))::YC p_ q_ [(28,.val (.bool (!v5)))],[],0⟩) (Qo []) (Qa rfl (fun g=>?_) fun g=>?_))
 ·have g6:¬ (v5=true):=gQ;clear g;replace h:=if_l g6 h;refine Q1 (runQ hN fun K hK=>?_);simp;repeat refine sdQ ?_
  refine hK _ (tn (Q4 (st':=⟨Y0h [(7,iV 5)],[],0⟩) (Qo []) (Ql (tr ?_))));clear hK K;have hr:=zC h;rw [← hr];refine ⟨_,(.tmp (.tmp .nil)),?_⟩;refine ⟨(.one rfl rfl (.one rfl rfl .nil)),[.val (.bool false),iV 5],[],by simp [Cat.cells,SF.cells,XCanonical.cells,XPairint64.cells,XQuery.cells,UA,U1,IA,I1,LA,L1,BA,B1,EA,E1,E2,eB,eI,eL,Q5 _ QI _ (fun _=>rfl),Q5 _ Qg _ (fun _=>rfl),Q5 _ Q6 _ (fun _=>rfl)],by simp,(UpL.refl _)⟩
 have g6:¬ (¬ (v5=true)):=gQ;clear g;replace h:=if_r g6 h;refine Qc (tn (Q1 (Q9c [] mo (by rw [hN];decide) fun K hK=>?_)));simp;repeat with_reducible refine sdQ ?_
 replace ⟨v7,hv7,h⟩:=bind_some h;refine Q4w (fz:=[]) (ICon.liftL (e':=(match (generalizing:=false) v7 with|.inl v7=>{ v:=.tup [.val (.pointer none),.val (.bool false)],new:=[],cnt:=0 }|.inr v7=>{ v:=.tup [.adr 0 0 0,.val (.bool true)],new:=[(0,.mix 9 [(Y0o p_ [iV v7.1,.own 1 0 v7.2.1.length,.own 2 0 v7.2.2.1.length,.own 3 0 v7.2.2.2.1.length,.own 4 0 v7.2.2.2.2.1.length,.own 5 0 v7.2.2.2.2.2.1.length,.own 6 0 v7.2.2.2.2.2.2.1.length,.mp 7])]),(1,rI v7.2.1),(2,rI v7.2.2.1),(3,rI v7.2.2.2.1),(4,.row 1 (Ls v7.2.2.2.2.1)),(5,rI v7.2.2.2.2.2.1),(6,.row 1 (Ls v7.2.2.2.2.2.2.1)),(7,.mapE (.st 2) (Qi v7.2.2.2.2.2.2.2))],cnt:=8 })) (Q3P _ _ v7 hv7) (by simp [AV.ro,rl,rlL,rlLL,Q4P,Cat.cells,SF.cells,XCanonical.cells,XPairint64.cells,XQuery.cells,E2,eB,eI,eL,Q5 _ QI _ (fun _=>rfl),Q5 _ Qg _ (fun _=>rfl),Q5 _ Q6 _ (fun _=>rfl)]) (by rcases v7 with v7|v7<;>simp) (by rcases v7 with v7|v7<;>simp) (by rcases v7 with v7|v7<;>rfl) (by rcases v7 with v7|v7<;>simp [AV.ro,rl,rlL,rlLL,Q4P,Cat.cells,SF.cells,XCanonical.cells,XPairint64.cells,XQuery.cells,E2,eB,eI,eL,Q5 _ QI _ (fun _=>rfl),Q5 _ Qg _ (fun _=>rfl),Q5 _ Q6 _ (fun _=>rfl)]) (by rcases v7 with v7|v7<;>simp [noAli]) (by rcases v7 with v7|v7<;>rfl) (by rcases v7 with v7|v7<;>simp [AV.ro,rl,rlL,rlLL,Q4P,Cat.cells,SF.cells,XCanonical.cells,XPairint64.cells,XQuery.cells,E2,eB,eI,eL,Q5 _ QI _ (fun _=>rfl),Q5 _ Qg _ (fun _=>rfl),Q5 _ Q6 _ (fun _=>rfl)]) (Qak (by rcases v7 with v7|v7<;>simp))) ?_;clear hv7;rcases v7 with v7|v7
 ·try dsimp only at h
  try dsimp only
  simp;repeat refine sdQ ?_
  refine hK _ ?_;clear hK K;refine tn (Q4 (st':=⟨YC p_ q_ [(8,.val (.pointer none)),(9,.val (.bool false))],[],0⟩) (Qo []) (Q1 (Q1 (runQ hN fun K hK=>?_))));simp;repeat refine sdQ ?_
  refine hK _ (tn ?_);clear hK K;refine Qa rfl (fun _=>?_) fun g=>by simp at g
  refine Q1 (runQ hN fun K hK=>?_);simp;repeat refine sdQ ?_
  refine hK _ (tn (Q4 (st':=⟨Y0h [(7,iV 3)],[],0⟩) (Qo []) (Ql (tr ?_))));clear hK K;have hr:=zC h;rw [← hr];refine ⟨_,(.tmp (.tmp .nil)),?_⟩;refine ⟨(.one rfl rfl (.one rfl rfl .nil)),[.val (.bool false),iV 3],[],by simp [Cat.cells,SF.cells,XCanonical.cells,XPairint64.cells,XQuery.cells,UA,U1,IA,I1,LA,L1,BA,B1,EA,E1,E2,eB,eI,eL,Q5 _ QI _ (fun _=>rfl),Q5 _ Qg _ (fun _=>rfl),Q5 _ Q6 _ (fun _=>rfl)],by simp,(UpL.refl _)⟩
 try dsimp only at h
 try dsimp only
 simp;repeat refine sdQ ?_
 refine hK _ ?_;clear hK K;refine tn (Q4 (st':=⟨YC p_ q_ [(8,.adr 0 0 0),(9,.val (.bool true))],[(0,.mix 9 [(Y0o p_ [iV v7.1,.own 1 0 v7.2.1.length,.own 2 0 v7.2.2.1.length,.own 3 0 v7.2.2.2.1.length,.own 4 0 v7.2.2.2.2.1.length,.own 5 0 v7.2.2.2.2.2.1.length,.own 6 0 v7.2.2.2.2.2.2.1.length,.mp 7])]),(1,rI v7.2.1),(2,rI v7.2.2.1),(3,rI v7.2.2.2.1),(4,.row 1 (Ls v7.2.2.2.2.1)),(5,rI v7.2.2.2.2.2.1),(6,.row 1 (Ls v7.2.2.2.2.2.2.1)),(7,.mapE (.st 2) (Qi v7.2.2.2.2.2.2.2))],8⟩) (Q1N 8) (Q1 (Q1 (runQ hN fun K hK=>?_))));simp;repeat refine sdQ ?_
 refine hK _ (tn (Qa rfl (fun g=>by simp at g) fun _=>?_));clear hK K;refine Qc (tn (Q1 (runQ hN fun K hK=>?_)));simp;repeat with_reducible refine sdQ ?_
 replace ⟨v8,hv8,h⟩:=bind_some h;refine Q3 (Q4u _ _ v8 hv8) (.cons (.preT (by simp [Cat.cells,SF.cells,XPairint64.cells,XQuery.cells])) (.cons (.field rfl (by simp [Cat.cells,SF.cells,XPairint64.cells,XQuery.cells]) (.cons .val (.cons .w (.cons .w (.cons .w (.cons .w (.cons .w (.cons .w .nil)))))))) .nil)) ?_;simp;repeat refine sdQ ?_
 refine hK _ ?_;clear hK K;refine tn (Q4 (st':=⟨YC p_ q_ [(8,.adr 0 0 0),(9,.val (.bool v8.2)),(10,.own 8 0 v8.1.length)],[(0,.mix 9 [(Y0o p_ [iV v7.1,.own 1 0 v7.2.1.length,.own 2 0 v7.2.2.1.length,.own 3 0 v7.2.2.2.1.length,.own 4 0 v7.2.2.2.2.1.length,.own 5 0 v7.2.2.2.2.2.1.length,.own 6 0 v7.2.2.2.2.2.2.1.length,.mp 7])]),(1,rI v7.2.1),(2,rI v7.2.2.1),(3,rI v7.2.2.2.1),(4,.row 1 (Ls v7.2.2.2.2.1)),(5,rI v7.2.2.2.2.2.1),(6,.row 1 (Ls v7.2.2.2.2.2.2.1)),(7,.mapE (.st 2) (Qi v7.2.2.2.2.2.2.2)),(8,.row 1 (Ls v8.1))],9⟩) (Q1N 9) (Q1 (Q1 (runQ hN fun K hK=>?_))));simp;repeat refine sdQ ?_
 refine hK _ ?_;clear hK K;refine tn (Qa rfl (fun g=>?_) fun g=>?_)
 ·have g9:¬ (v8.2=true):=gQ;clear g;replace h:=if_l g9 h;refine Q1 (runQ hN fun K hK=>?_);simp;repeat refine sdQ ?_
  refine hK _ (tn (Q4 (st':=⟨Y0h [(7,iV 3)],[],0⟩) (Qo []) (Ql (tr ?_))));clear hK K;have hr:=zC h;rw [← hr];refine ⟨_,(.tmp (.tmp .nil)),?_⟩;refine ⟨(.one rfl rfl (.one rfl rfl .nil)),[.val (.bool false),iV 3],[],by simp [Cat.cells,SF.cells,XCanonical.cells,XPairint64.cells,XQuery.cells,UA,U1,IA,I1,LA,L1,BA,B1,EA,E1,E2,eB,eI,eL,Q5 _ QI _ (fun _=>rfl),Q5 _ Qg _ (fun _=>rfl),Q5 _ Q6 _ (fun _=>rfl)],by simp,(UpL.refl _)⟩
 have g9:¬ (¬ (v8.2=true)):=gQ;clear g;replace h:=if_r g9 h;refine Qc (tn (Q1 (runQ hN fun K hK=>?_)));simp;repeat with_reducible refine sdQ ?_
 replace ⟨v10,hv10,h⟩:=bind_some h;refine Q3 (Q3Y _ v10 hv10) (.cons (.field rfl (by simp [Cat.cells,SF.cells,XCanonical.cells,XPairint64.cells,XQuery.cells]) (.cons (.preT (by simp [Cat.cells,SF.cells,XCanonical.cells,XPairint64.cells,XQuery.cells])) (.cons .val (.cons .w (.cons .w (.cons .w (.cons .w (.cons .w (.cons .w (.cons (.mp rfl) .nil)))))))))) .nil) ?_;simp;repeat with_reducible refine sdQ ?_
 replace ⟨v11,hv11,h⟩:=bind_some h;refine Q3 (Q4S _ _ v11 hv11) (.cons .lst (.cons .w .nil)) ?_;simp;repeat refine sdQ ?_
 refine hK _ ?_;clear hK K;refine tn (Q4 (st':=⟨[(5,.rptr (XQuery.cells true q_)),(10,.own 0 0 v8.1.length),(11,.own 1 0 v11.length)],[(0,.row 1 (Ls v8.1)),(1,rI v11)],2⟩) (Qo [(8,0),(10,1)]) (Q1 (Q1 (runQ hN fun K hK=>?_))));simp;repeat refine sdQ ?_
 refine hK _ (tn (Q4 (st':=⟨Y04 q_ v11 v8 [(51,iV 0)],[(0,rI v11),(1,.row 1 (Ls v8.1))],2⟩) (Qo [(1,0),(0,1)]) ?_));clear hK K;replace ⟨e12,h,h12⟩:=bind_some h;refine Qk (fun b12:Unit=>⟨[],[],0⟩) (fun b12=>Sum.inl b12=e12) ?_ ?_
 ·refine Q7 (Qu h (fun s19:Int=>⟨Y04 q_ v11 v8 [(51,iV s19)],[(0,rI v11),(1,.row 1 (Ls v8.1))],2⟩) (Qo [(0,0),(1,1)]) ?_);clear h;intro k19 s19 c19 h hk19;refine Q1 (runQ hN fun K hK=>?_);simp;repeat refine sdQ ?_
  refine hK _ ?_;clear hK K;refine tn (Q1 (Qa rfl (fun g=>?_) fun g=>?_))
  ·have g20:s19<(v8.1.length:Int):=gQ;clear g;replace h:=if_l g20 h;refine Qc (tn (Q1 (Q7 (Q1 (runQ hN fun K hK=>?_)))));replace ⟨a21,h⟩:=Q0 h;simp [at_L a21];(repeat refine sdQ ?_);refine hK _ ?_;clear hK K;refine tn (Q4 (st':=⟨[(5,.rptr (XQuery.cells true q_)),(11,.own 0 0 v11.length),(13,.own 2 0 ((rx v8.1 s19).length)),(49,.own 1 0 v8.1.length),(50,iV (v8.1.length:Int)),(51,iV s19)],[(0,rI v11),(1,.row 1 (Ls v8.1)),(2,.ali 1 s19.toNat 0 1)],3⟩) (Qo [(0,0),(2,2),(1,1)]) (Q1 (runQ hN fun K hK=>?_)));simp;(repeat with_reducible refine sdQ ?_);replace ⟨v22,hv22,h⟩:=bind_some h;refine Q3 (Q4S _ _ v22 hv22) (.cons .lst (.cons (.whole (by simp [at_L a21]) (by simp) (by simp [at_L a21])) .nil)) ?_;simp;(repeat with_reducible refine sdQ ?_);replace ⟨v23,hv23,h⟩:=bind_some h;refine Q3 (Qab _ _ v23 hv23) (.cons .w (.cons .w .nil)) ?_;simp;(repeat refine sdQ ?_);refine hK _ ?_;clear hK K;refine tn (Q4 (st':=⟨Y04 q_ v11 v8 [(51,iV s19),(60,.val (.bool v23))],[(0,rI v11),(1,.row 1 (Ls v8.1))],2⟩) (Qo [(0,0),(1,1)]) (Qa rfl (fun g=>?_) fun g=>?_))
   ·have g24:v23=true:=gQ;clear g;replace h:=if_l g24 h;refine Q1 (runQ hN fun K hK=>?_);simp;(repeat refine sdQ ?_);refine hK _ (tn (Q4 (st':=⟨[(6,.val (.bool true)),(7,iV 0)],[],0⟩) (Qo []) (Ql (br (tr (lr (br (tr ?_))))))));clear hK K;cases h;have q:_=e12:=hk19;have h:=h12;rw [← q] at h;clear q;(try dsimp only at h);have hr:=zC h;rw [← hr];refine ⟨_,(.tmp (.tmp .nil)),?_⟩;refine ⟨(.one rfl rfl (.one rfl rfl .nil)),[.val (.bool true),iV 0],[],by simp [Cat.cells,SF.cells,XCanonical.cells,XPairint64.cells,XQuery.cells,UA,U1,IA,I1,LA,L1,BA,B1,EA,E1,E2,eB,eI,eL,Q5 _ QI _ (fun _=>rfl),Q5 _ Qg _ (fun _=>rfl),Q5 _ Q6 _ (fun _=>rfl)],by simp,(UpL.refl _)⟩
   have g24:¬ (v23=true):=gQ;clear g;replace h:=if_r g24 h;refine Qc (bn (tn (runQ hN fun K hK=>?_)));replace ⟨a25,h⟩:=Q0 h;simp [Qm a25];(repeat refine sdQ ?_);refine hK _ ?_;clear hK K;cases h;exact rn (s':=s19+1) hk19 (Qo [(0,0),(1,1)])
  have g20:¬ (s19<(v8.1.length:Int)):=gQ;clear g;replace h:=if_r g20 h;refine Qp (tx (lx (bh ?_)));cases h;exact jn (b:=()) hk19 (Qo [])
 intro b12 hb12;have h:=h12;try rw [← hb12] at h
 clear h12;try dsimp only at h
 refine Q1 (runQ hN fun K hK=>?_);simp;repeat refine sdQ ?_
 refine hK _ (tn (Q4 (st':=⟨Y0h [(7,iV 0)],[],0⟩) (Qo []) (Ql ?_)));clear hK K;have hr:=zC h;rw [← hr];refine ⟨_,(.tmp (.tmp .nil)),?_⟩;refine ⟨(.one rfl rfl (.one rfl rfl .nil)),[.val (.bool false),iV 0],[],by simp [Cat.cells,SF.cells,XCanonical.cells,XPairint64.cells,XQuery.cells,UA,U1,IA,I1,LA,L1,BA,B1,EA,E1,E2,eB,eI,eL,Q5 _ QI _ (fun _=>rfl),Q5 _ Qg _ (fun _=>rfl),Q5 _ Q6 _ (fun _=>rfl)],by simp,(UpL.refl _)⟩
attribute [local simp] unk unA unE unT unC flat eL eI Qf QZ Q6 SF.cells XQuery.cells
noncomputable def Q2S (f_:SF) (q_:XQuery):Option (List (List Int)) :=
 (Q1z f_ q_).bind fun v1 =>
 (QA (σ:=List Int × Int) (ε:=List Int) (fun s9 =>
  if s9.2<(q_.output_.length:Int) then
   ass (0≤s9.2∧s9.2<(q_.output_.length:Int)) <|
   ass (0≤ix q_.output_ s9.2∧ix q_.output_ s9.2<(q_.variables_.length:Int)) <|
   ass (0≤ix q_.variables_ (ix q_.output_ s9.2)∧ix q_.variables_ (ix q_.output_ s9.2)<(f_.sz.length:Int)) <|
   ass ((s9.1++[ix f_.sz (ix q_.variables_ (ix q_.output_ s9.2))]).length≤1073741824) <|
   ass (B64 (s9.2+1)) <|
   some (Ctl.next (s9.1++[ix f_.sz (ix q_.variables_ (ix q_.output_ s9.2))],s9.2+1))
  else
   some (Ctl.ret s9.1)) fuel ([],0)).bind fun b2 =>
 (Q1E b2).bind fun v16 =>
 ass (0≤v16∧v16≤1073741824) <|
 (QA (σ:=List Bool × Int) (ε:=List Bool) (fun s25 =>
  if s25.2<(v1.length:Int) then
   ass (0≤s25.2∧s25.2<(v1.length:Int)) <|
   (Q19 q_.output_ (rx v1 s25.2)).bind fun v28 =>
   (Q25 b2 v28).bind fun v29 =>
   ass (0≤v29∧v29<(s25.1.length:Int)) <|
   ass (B64 (s25.2+1)) <|
   some (Ctl.next (s25.1.set v29.toNat true,s25.2+1))
  else
   some (Ctl.ret s25.1)) fuel (qW v16.toNat false,0)).bind fun b18 =>
 (QA (σ:=List (List Int) × Int) (ε:=List (List Int)) (fun s40 =>
  if s40.2<v16 then
   (
    ass (0≤s40.2∧s40.2<(b18.length:Int)) <|
    if (gx b18 s40.2)=true then
     (Q3f b2 s40.2).bind fun v45 =>
     ass ((s40.1++[v45]).length≤1073741824) <|
     some (s40.1++[v45])
    else
     some s40.1:Option (List (List Int))).bind fun b42 =>
   ass (B64 (s40.2+1)) <|
   some (Ctl.next (b42,s40.2+1))
  else
   some (Ctl.ret s40.1)) fuel ([],0)).bind fun b32 =>
 some b32
@[simp] abbrev YJ (a:List (List Int)) (b:List Int) (c:List (Nat × AV)):List (Nat × AV):=(3,.adr 0 0 0)::(5,.own 1 0 a.length)::(6,.own 2 0 b.length)::c
@[simp] abbrev YN (a:XQuery) (b:List (List Int)) (c:List Int) (d:List (Nat × Ent)):List (Nat × Ent):=(0,.mix 4 [(XQuery.cells true a)])::(1,.row 1 (Ls b))::(2,rI c)::d
@[simp] abbrev Y0i (a:List Int) (b:Int) (c:List Bool) (d:List (Nat × AV)):List (Nat × AV):=(6,.own 0 0 a.length)::(8,iV b)::(9,.own 1 0 c.length)::d
theorem Q9h (f_:SF) (q_:XQuery) (r:List (List Int)) (h:Q2S f_ q_=some r):Contract Try.prog 55 [.agg (f_.cells true),.agg (q_.cells true)] (.lst true 1 (Ls r)):=by
 refine Qd (rvs:=[.tmp 4]) (rs:=[.lst true 1 (Ls r)]) Try.func55 rfl rfl rfl rfl (by simp [Try.f55]) fun F hN hP=>?_;unfold Q2S at h;refine Q1 (runQ hN fun K hK=>?_);simp;repeat refine sdQ ?_
 refine hK _ ?_;clear hK K;refine tn (Q4 (st':=⟨Yp [],Yf f_ q_ [],2⟩) (Qo [(0,0),(1,1)]) (Q1 (runQ hN fun K hK=>?_)));simp;repeat with_reducible refine sdQ ?_
 replace ⟨v1,hv1,h⟩:=bind_some h;refine Q3 (Q5w _ _ v1 hv1) (.cons (.aggL (.cons .val (.cons .lst (.cons .lst (.cons .lst (.cons .lst (.cons .lst (.cons .lst .nil)))))))) (.cons (.aggL (.cons .lst (.cons .lst (.cons .lst (.cons .lst .nil))))) .nil)) ?_;simp;repeat refine sdQ ?_
 refine hK _ ?_;clear hK K;refine tn (Q4 (st':=⟨Yp [(5,.own 2 0 v1.length)],Yf f_ q_ [(2,.row 1 (Ls v1))],3⟩) (Q1N 3) (Q1 (runQ hN fun K hK=>?_)));simp;repeat refine sdQ ?_
 refine hK _ ?_;clear hK K;refine tn (Q4 (st':=⟨Yp [(5,.own 2 0 v1.length),(6,.own 3 0 0)],Yf f_ q_ [(2,.row 1 (Ls v1)),(3,.mix 1 [])],4⟩) (Q1N 4) (Q1 (Q1 (runQ hN fun K hK=>?_))));simp;repeat refine sdQ ?_
 refine hK _ (tn (Q4 (st':=⟨Yp [(5,.own 2 0 v1.length),(6,.own 3 0 0),(7,iV 0)],Yf f_ q_ [(2,.row 1 (Ls v1)),(3,.mix 1 [])],4⟩) (Q1N 4) ?_));clear hK K;replace ⟨e2,h,h2⟩:=bind_some h;refine Qk (fun b2:List Int=>⟨YJ v1 b2 [],YN q_ v1 b2 [],3⟩) (fun b2=>b2=e2) ?_ ?_
 ·refine Q7 (Qu h (fun s9:List Int × Int=>⟨Yp [(5,.own 2 0 v1.length),(6,.own 3 0 s9.1.length),(7,iV s9.2)],Yf f_ q_ [(2,.row 1 (Ls v1)),(3,rI s9.1)],4⟩) (Q2V ⟨Yp [(5,.own 2 0 v1.length),(6,.own 3 0 0),(7,iV 0)],Yf f_ q_ [(2,.row 1 (Ls v1)),(3,rI [])],4⟩ (Wk.nils [] (by simp) (by simp) (by simp [nlA]) (by simp [entN,nlL,nlA,SF.cells,XQuery.cells,UA,U1,IA,I1,LA,L1,BA,B1,EA,E1,E2,eB,eI,eL,Q5 _ Q6 _ (fun _=>rfl)]) (by simp)) (Q1N 4)) ?_);clear h;intro k9 s9 c9 h hk9;refine Q1 (Q1 (runQ hN fun K hK=>?_));simp;repeat refine sdQ ?_
  refine hK _ ?_;clear hK K;refine tn (Qa rfl (fun g=>?_) fun g=>?_)
  ·have g10:s9.2<(q_.output_.length:Int):=gQ;clear g;replace h:=if_l g10 h;refine Qc (tn (Q1 (Q7 (runQ hN fun K hK=>?_))));replace ⟨a11,h⟩:=Q0 h;replace ⟨a12,h⟩:=Q0 h;replace ⟨a13,h⟩:=Q0 h;replace ⟨a14,h⟩:=Q0 h;(try simp only [qE,qG,zB] at a14);simp [at_I a11,at_I a12,at_I a13,a14];(repeat refine sdQ ?_);refine hK _ ?_;clear hK K;refine bn (tn (Q4 (st':=⟨Yp [(5,.own 2 0 v1.length),(6,.own 3 0 ((s9.1++[ix f_.sz (ix q_.variables_ (ix q_.output_ s9.2))]).length)),(7,iV s9.2)],Yf f_ q_ [(2,.row 1 (Ls v1)),(3,rI (s9.1++[ix f_.sz (ix q_.variables_ (ix q_.output_ s9.2))]))],4⟩) (Qo [(0,0),(1,1),(2,2),(5,3)]) (runQ hN fun K hK=>?_)));replace ⟨a15,h⟩:=Q0 h;simp [Qm a15];(repeat refine sdQ ?_);refine hK _ ?_;clear hK K;cases h;exact rn (s':=(s9.1++[ix f_.sz (ix q_.variables_ (ix q_.output_ s9.2))],s9.2+1)) hk9 (Q1N 4)
  have g10:¬ (s9.2<(q_.output_.length:Int)):=gQ;clear g;replace h:=if_r g10 h;refine Qp (tx (lx (bh ?_)));cases h;exact jn (b:=s9.1) hk9 (Qo [(1,0),(2,1),(3,2)])
 intro b2 hb2;have h:=h2;try rw [← hb2] at h
 clear h2;try dsimp only at h
 refine Q1 (runQ hN fun K hK=>?_);simp;repeat with_reducible refine sdQ ?_
 replace ⟨v16,hv16,h⟩:=bind_some h;refine Q3 (Q40 _ v16 hv16) (.cons .w .nil) ?_;simp;repeat refine sdQ ?_
 refine hK _ ?_;clear hK K;refine tn (Q4 (st':=⟨YJ v1 b2 [(8,iV v16)],YN q_ v1 b2 [],3⟩) (Q1N 3) (Q1 (runQ hN fun K hK=>?_)));replace ⟨a17,h⟩:=Q0 h;simp;repeat refine sdQ ?_
 refine hK _ ?_;clear hK K;refine tn (Q4 (st':=⟨YJ v1 b2 [(8,iV v16),(9,.own 3 0 ((qW v16.toNat false).length)),(10,.own 4 0 0)],YN q_ v1 b2 [(3,.row 1 (Bs (qW v16.toNat false))),(4,.mix 1 [])],5⟩) (Q1N 5) (Q1 (Q1 (runQ hN fun K hK=>?_))));simp;repeat refine sdQ ?_
 refine hK _ (tn (Q4 (st':=⟨YJ v1 b2 [(8,iV v16),(9,.own 3 0 ((qW v16.toNat false).length)),(10,.own 4 0 0),(11,iV 0)],YN q_ v1 b2 [(3,.row 1 (Bs (qW v16.toNat false))),(4,.mix 1 [])],5⟩) (Q1N 5) ?_));clear hK K;replace ⟨e18,h,h18⟩:=bind_some h;refine Qk (fun b18:List Bool=>⟨Y0i b2 v16 b18 [(10,.own 2 0 0)],[(0,rI b2),(1,.row 1 (Bs b18)),(2,.mix 1 [])],3⟩) (fun b18=>b18=e18) ?_ ?_
 ·refine Q7 (Qu h (fun s25:List Bool × Int=>⟨YJ v1 b2 [(8,iV v16),(9,.own 3 0 s25.1.length),(10,.own 4 0 0),(11,iV s25.2)],YN q_ v1 b2 [(3,.row 1 (Bs s25.1)),(4,.mix 1 [])],5⟩) (Q1N 5) ?_);clear h;intro k25 s25 c25 h hk25;refine Q1 (Q1 (runQ hN fun K hK=>?_));simp;repeat refine sdQ ?_
  refine hK _ ?_;clear hK K;refine tn (Qa rfl (fun g=>?_) fun g=>?_)
  ·have g26:s25.2<(v1.length:Int):=gQ;clear g;replace h:=if_l g26 h;refine Qc (tn (Q1 (Q7 (runQ hN fun K hK=>?_))));replace ⟨a27,h⟩:=Q0 h;simp [at_L a27];(repeat with_reducible refine sdQ ?_);replace ⟨v28,hv28,h⟩:=bind_some h;refine Q3 (Q2U _ _ v28 hv28) (.cons .lst (.cons (.whole (by simp [at_L a27]) (by simp) (by simp [at_L a27])) .nil)) ?_;simp [at_L a27];(repeat with_reducible refine sdQ ?_);replace ⟨v29,hv29,h⟩:=bind_some h;refine Q3 (Q7v _ _ v29 hv29) (.cons .w (.cons .w .nil)) ?_;replace ⟨a30,h⟩:=Q0 h;simp [at_L a27,at_B a30];(repeat refine sdQ ?_);refine hK _ ?_;clear hK K;refine bn (tn (Q4 (st':=⟨YJ v1 b2 [(8,iV v16),(9,.own 3 0 ((s25.1.set v29.toNat true).length)),(10,.own 4 0 0),(11,iV s25.2)],YN q_ v1 b2 [(3,.row 1 (Bs (s25.1.set v29.toNat true))),(4,.mix 1 [])],5⟩) (Q1N 5) (runQ hN fun K hK=>?_)));replace ⟨a31,h⟩:=Q0 h;simp [Qm a31];(repeat refine sdQ ?_);refine hK _ ?_;clear hK K;cases h;exact rn (s':=(s25.1.set v29.toNat true,s25.2+1)) hk25 (Q1N 5)
  have g26:¬ (s25.2<(v1.length:Int)):=gQ;clear g;replace h:=if_r g26 h;refine Qp (tx (lx (bh ?_)));cases h;exact jn (b:=s25.1) hk25 (Qo [(2,0),(3,1),(4,2)])
 intro b18 hb18;have h:=h18;try rw [← hb18] at h
 clear h18;try dsimp only at h
 refine Q1 (Q1 (runQ hN fun K hK=>?_));simp;repeat refine sdQ ?_
 refine hK _ (tn (Q4 (st':=⟨Y0i b2 v16 b18 [(10,.own 2 0 0),(12,iV 0)],[(0,rI b2),(1,.row 1 (Bs b18)),(2,.mix 1 [])],3⟩) (Q1N 3) ?_));clear hK K;replace ⟨e32,h,h32⟩:=bind_some h;refine Qk (fun b32:List (List Int)=>⟨[(10,.own 0 0 b32.length)],[(0,.row 1 (Ls b32))],1⟩) (fun b32=>b32=e32) ?_ ?_
 ·refine Q7 (Qu h (fun s40:List (List Int) × Int=>⟨Y0i b2 v16 b18 [(10,.own 2 0 s40.1.length),(12,iV s40.2)],[(0,rI b2),(1,.row 1 (Bs b18)),(2,.row 1 (Ls s40.1))],3⟩) (Q2V ⟨Y0i b2 v16 b18 [(10,.own 2 0 0),(12,iV 0)],[(0,rI b2),(1,.row 1 (Bs b18)),(2,.row 1 (Ls []))],3⟩ (Wk.nils [] (by simp) (by simp) (by simp [nlA]) (by simp [entN,nlL,nlA,SF.cells,XQuery.cells,UA,U1,IA,I1,LA,L1,BA,B1,EA,E1,E2,eB,eI,eL,Q5 _ Q6 _ (fun _=>rfl)]) (by simp)) (Q1N 3)) ?_);clear h;intro k40 s40 c40 h hk40;refine Q1 (Q1 (runQ hN fun K hK=>?_));simp;repeat refine sdQ ?_
  refine hK _ ?_;clear hK K;refine tn (Qa rfl (fun g=>?_) fun g=>?_)
  ·have g41:s40.2<v16:=gQ;clear g;replace h:=if_l g41 h;refine Qc (tn (Q1 ?_));replace ⟨e42,h,h42⟩:=bind_some h;refine Qk (fun b42:List (List Int)=>⟨Y0i b2 v16 b18 [(10,.own 2 0 b42.length),(12,iV s40.2)],[(0,rI b2),(1,.row 1 (Bs b18)),(2,.row 1 (Ls b42))],3⟩) (fun b42=>b42=e42) ?_ ?_
   ·refine Q7 (Q1 (runQ hN fun K hK=>?_));replace ⟨a43,h⟩:=Q0 h;simp [at_B a43];(repeat refine sdQ ?_);refine hK _ ?_;clear hK K;refine tn (Qa rfl (fun g=>?_) fun g=>?_)
    ·have g44:(gx b18 s40.2)=true:=gQ;clear g;replace h:=if_l g44 h;refine runQ hN fun K hK=>?_;simp;(repeat with_reducible refine sdQ ?_);replace ⟨v45,hv45,h⟩:=bind_some h;refine Q3 (Q8m _ _ v45 hv45) (.cons .w (.cons .val .nil)) ?_;replace ⟨a46,h⟩:=Q0 h;(try simp only [qE,qG,zB] at a46);simp [a46];(repeat refine sdQ ?_);refine hK _ (bn ?_);clear hK K;exact jn (b:=s40.1++[v45]) (zC h) (Qo [(0,0),(1,1),(6,2)])
    have g44:¬ ((gx b18 s40.2)=true):=gQ;clear g;replace h:=if_r g44 h;refine Qc (bn ?_);exact jn (b:=s40.1) (zC h) (Q1N 3)
   intro b42 hb42;have h:=h42;(try rw [← hb42] at h);clear h42;(try dsimp only at h);refine runQ hN fun K hK=>?_;replace ⟨a47,h⟩:=Q0 h;simp [Qm a47];(repeat refine sdQ ?_);refine hK _ ?_;clear hK K;cases h;exact rn (s':=(b42,s40.2+1)) hk40 (Q1N 3)
  have g41:¬ (s40.2<v16):=gQ;clear g;replace h:=if_r g41 h;refine Qp (tx (lx (bh ?_)));cases h;exact jn (b:=s40.1) hk40 (Qo [(2,0)])
 intro b32 hb32;have h:=h32;try rw [← hb32] at h
 clear h32;try dsimp only at h
 refine Q1 (runQ hN fun K hK=>?_);simp;repeat refine sdQ ?_
 refine hK _ (tn (Q4 (st':=⟨[(4,.own 0 0 b32.length)],[(0,.row 1 (Ls b32))],1⟩) (Qo [(0,0)]) (Ql ?_)));clear hK K;have hr:=zC h;rw [← hr];refine ⟨_,(.tmp .nil),?_⟩;refine ⟨(.one rfl rfl .nil),[.lst true 1 (Ls b32)],[0],by simp [SF.cells,XQuery.cells,UA,U1,IA,I1,LA,L1,BA,B1,EA,E1,E2,eB,eI,eL,Q5 _ Q6 _ (fun _=>rfl)],by simp,(UpL.refl _)⟩
end Go.Vc.T
