/- A part of the proof: a verified generator of conditions, and what each function of the program does. -/
import Derived.Test.YtbdkkdmlhmpffaaC18
set_option maxRecDepth 100000
set_option maxHeartbeats 4000000
set_option linter.unusedSimpArgs false
set_option linter.unusedVariables false
set_option linter.unusedSectionVars false
set_option linter.unnecessarySimpa false

namespace Go.Vc.T
open Go Go.Vc Go.Proofs
section
attribute [local simp] Qc QC Qq QP QA
theorem Q5O {c:Cat} (hc:c.Is) {V:List Int}:VarQ c V↔V.length≤4∧V.all (inR c.n)=true:=by
 have hn:=hc.nums;constructor
 ·intro h;refine ⟨h.len,?_⟩;rw [List.all_eq_true];intro x hx;obtain ⟨i,hi,rfl⟩:=List.getElem_of_mem hx;have:=h.at' i hi;rw [← Q1M _ _ hi] at this;simp only [inR,Bool.and_eq_true,decide_eq_true_eq];omega
 rintro ⟨h1,h2⟩
 refine ⟨h1,fun i hi=>?_⟩;have:=Q6J (List.all_eq_true.1 h2) (j:=i) (by omega) (by omega);unfold VN;omega
theorem Q4Y {p:Prop} {b:Bool} (h:b=true↔p):b=bo p:=by
 by_cases q:p
 ·rw [Q1w q,h.2 q]
 rw [QG q];cases b with
 | false=>rfl
 | true=>exact absurd (h.1 rfl) q
theorem e_arrowQ (c:Cat) (f:Int):Q2p c f=some (bo (0≤f∧f<(c.fr.length:Int))):=by
 unfold Q2p
 by_cases h:f ≥ 0
 ·rw [if_pos h];simp only [Option.bind_some]
  congr 1
  exact Q4Y (by simp;omega)
 rw [if_neg h];simp only [Option.bind_some];rw [QG (by omega)]
theorem Qak {c:Cat} (hc:c.Is) {V:List Int} (hV:VarQ c V) (t:XTerm) (h1:0≤t.variable_∧t.variable_<(V.length:Int)) (h2:0≤t.arrow_∧t.arrow_<(c.fr.length:Int)):(ix c.fr t.arrow_ == ix V t.variable_)=bo (TmQ c V t):=by
 obtain ⟨v1,v2⟩:=hV.at' t.variable_.toNat (by omega);obtain ⟨f1,f2,f3,f4⟩:=Q1i hc (b:=t.arrow_.toNat) (by omega);have e1:(t.variable_.toNat:Int)=t.variable_:=by omega
 have e2:(t.arrow_.toNat:Int)=t.arrow_:=by omega
 rw [e1] at v1;rw [e2] at f1;refine Q4Y ?_;rw [beq_iff_eq,f1,v1];constructor
 ·intro h;exact ⟨h1,h2,by simp only [tP];omega⟩
 intro h;have:=h.f;simp only [tP] at this;omega
theorem var_b {V:List Int} (t:XTerm):(decide (0≤t.variable_) && decide (t.variable_≤(V.length:Int) - 1))=bo (0≤t.variable_∧t.variable_<(V.length:Int)):=Q4Y (by simp;omega)
theorem arr_b {c:Cat} (t:XTerm):(decide (0≤t.arrow_) && decide (t.arrow_≤(c.fr.length:Int) - 1))=bo (0≤t.arrow_∧t.arrow_<(c.fr.length:Int)):=Q4Y (by simp;omega)
theorem Q7a {c:Cat} (hc:c.Is) {V:List Int} (hV:VarQ c V) (t:XTerm):Q2c c V t=some (bo (TmQ c V t)):=by
 have hl:=hV.len;unfold Q2c Q4M;rw [Q4 (by unfold B64;omega),var_b,e_arrowQ];simp only [Option.bind_some]
 by_cases h1:0≤t.variable_∧t.variable_<(V.length:Int)
 ·rw [Q1w h1,if_pos rfl]
  by_cases h2:0≤t.arrow_∧t.arrow_<(c.fr.length:Int)
  ·rw [Q1w h2,if_pos rfl,Q4 (by omega),Q4 (by omega),Qak hc hV t h1 h2];rfl
  rw [QG h2,if_neg (by simp),QG (fun k=>h2 k.a)];rfl
 rw [QG h1,if_neg (by simp),QG (fun k=>h1 k.v)];rfl
theorem e_termI {c:Cat} (hc:c.Is) {q:XQuery} (hV:VarQ c q.variables_) (t:XTerm):QT c q t=some (bo (TmQ c q.variables_ t)):=by
 have hl:=hV.len;have hn:=hc.nums;unfold QT Q2K Q1o;rw [Q4 (by unfold B64;omega),var_b];simp only [Option.bind_some]
 by_cases h1:0≤t.variable_∧t.variable_<(q.variables_.length:Int)
 ·rw [Q1w h1,if_pos rfl,Q4 (by unfold B64;omega),arr_b]
  by_cases h2:0≤t.arrow_∧t.arrow_<(c.fr.length:Int)
  ·rw [Q1w h2,if_pos rfl,Q4 (by omega),Q4 (by omega),Qak hc hV t h1 h2];rfl
  rw [QG h2,if_neg (by simp),QG (fun k=>h2 k.a)];rfl
 rw [QG h1,if_neg (by simp),QG (fun k=>h1 k.v)];rfl
def CondQ (c:Cat) (V:List Int) (t t':XTerm):Prop:=TmQ c V t∧TmQ c V t'∧toN c (tP t).2=toN c (tP t').2
theorem to_b {c:Cat} (hc:c.Is) {V:List Int} {t t':XTerm} (h:TmQ c V t) (h':TmQ c V t'):(ix c.to t.arrow_=ix c.to t'.arrow_↔toN c (tP t).2=toN c (tP t').2):=by
 obtain ⟨e1,e2,e3,e4⟩:=h.e;obtain ⟨k1,k2,k3,k4⟩:=h'.e;obtain ⟨f1,f2,f3,f4⟩:=Q1i hc e4;obtain ⟨g1,g2,g3,g4⟩:=Q1i hc k4;rw [e2,k2,f3,g3];omega
theorem e_condI {c:Cat} (hc:c.Is) {q:XQuery} (hV:VarQ c q.variables_) (t t':XTerm):QL c q t t'=some (bo (CondQ c q.variables_ t t')):=by
 have hn:=hc.nums;unfold QL;rw [e_termI hc hV,e_termI hc hV];simp only [Option.bind_some]
 by_cases h1:TmQ c q.variables_ t
 ·rw [Q1w h1,if_pos rfl]
  by_cases h2:TmQ c q.variables_ t'
  ·have a1:=h1.a;have a2:=h2.a;rw [Q1w h2,if_pos rfl,Q4 (by omega),Q4 (by omega)];simp only [Option.bind_some]
   congr 1
   refine Q4Y ?_;rw [beq_iff_eq,to_b hc h1 h2];exact ⟨fun h=>⟨h1,h2,h⟩,fun h=>h.2.2⟩
  rw [QG h2,if_neg (by simp),QG (fun k=>h2 k.2.1)];rfl
 rw [QG h1,if_neg (by simp),QG (fun k=>h1 k.1)];rfl
theorem qis_mk {c:Cat} (hc:c.Is) {q:XQuery} (hV:VarQ c q.variables_) (h1:q.left_.length≤6) (h2:q.right_.length=q.left_.length) (h3:q.output_.length≤4) (h4:q.output_.all (inR (q.variables_.length:Int))=true) (h5:∀ i:Nat,i<q.left_.length→CondQ c q.variables_ (gx q.left_ i) (gx q.right_ i)):QIs c q :=
 ⟨hV,h1,h2,fun i hi=>(h5 i hi).1,fun i hi=>(h5 i hi).2.1,fun i hi=>(h5 i hi).2.2,h3,List.all_eq_true.1 h4⟩
theorem QIs.cond {c:Cat} {q:XQuery} (h:QIs c q) {i:Nat} (hi:i<q.left_.length):CondQ c q.variables_ (gx q.left_ i) (gx q.right_ i):=⟨h.cl i hi,h.cr i hi,h.ct i hi⟩
theorem e_IsQuery (c:Cat) (q:XQuery):Q2M c q=some (bo (c.Is∧QIs c q)):=by
 unfold Q2M Q4N Q3a
 by_cases hc:c.Is
 case neg=>simp [QG hc,QG (fun k:c.Is∧QIs c q=>hc k.1)]
 have hn:=hc.nums;rw [Q1w hc];simp only [Option.bind_some,not_true_eq_false,if_false]
 by_cases h1:(q.variables_.length:Int) > 4
 ·rw [if_pos h1,QG (fun k=>by have:=k.2.v.len;omega)];simp
 rw [if_neg h1]
 by_cases h2:q.variables_.all (inR c.n)=true
 case neg=>rw [if_pos h2,QG (fun k=>h2 ((Q5O hc).1 k.2.v).2)];simp
 have hV:VarQ c q.variables_:=(Q5O hc).2 ⟨by omega,h2⟩;rw [h2];simp only [not_true_eq_false,if_false]
 by_cases h3:(q.left_.length:Int) > 6
 ·rw [if_pos h3,QG (fun k=>by have:=k.2.nl;omega)];simp
 rw [if_neg h3]
 by_cases h4:(q.right_.length:Int)=(q.left_.length:Int)
 case neg=>rw [if_pos h4,QG (fun k=>by have:=k.2.lr;omega)];simp
 rw [if_neg (by omega)]
 by_cases h5:(q.output_.length:Int) > 4
 ·rw [if_pos h5,QG (fun k=>by have:=k.2.nout;omega)];simp
 rw [if_neg h5]
 by_cases h6:q.output_.all (inR (q.variables_.length:Int))=true
 case neg =>
  have h6':q.output_.all (inR (q.variables_.length:Int))=false:=by simpa using h6
  rw [h6',QG (fun k=>h6 (List.all_eq_true.2 k.2.out))];simp
 rw [h6];simp only [Option.bind_some,Bool.not_true,Bool.false_eq_true,if_false];refine Q4C q.left_.length (fun i=>¬ CondQ c q.variables_ (gx q.left_ i) (gx q.right_ i)) (eb:=fun _=>Sum.inr false) (eg:=Sum.inl ()) (by omega) (fun i hi hp=>?_) (fun i hi hp=>?_) (by simp) (fun m hm hp _=>?_) fun hp=>?_
 ·have k:=Classical.not_not.1 hp;have a1:=k.1.a;have a2:=k.2.1.a;rw [if_pos (by omega),Q4 (by omega),Q7a hc hV,Q1w k.1];simp only [Option.bind_some,not_true_eq_false,if_false];rw [Q4 (by omega),Q7a hc hV,Q1w k.2.1];simp only [Option.bind_some,not_true_eq_false,if_false];rw [Q4 (by omega),Q4 (by omega),Q4 (by omega),Q4 (by omega)];simp only [Option.bind_some];rw [if_neg (by simp [(to_b hc k.1 k.2.1).2 k.2.2]),Q4 (by unfold B64;omega)]
 ·rw [if_pos (by omega),Q4 (by omega),Q7a hc hV];simp only [Option.bind_some]
  by_cases k1:TmQ c q.variables_ (gx q.left_ i)
  ·rw [Q1w k1,if_neg (by simp),Q4 (by omega),Q7a hc hV];simp only [Option.bind_some]
   by_cases k2:TmQ c q.variables_ (gx q.right_ i)
   ·have a1:=k1.a;have a2:=k2.a;rw [Q1w k2,if_neg (by simp),Q4 (by omega),Q4 (by omega),Q4 (by omega),Q4 (by omega)];simp only [Option.bind_some];rw [if_pos (by
     simp only [bne_iff_ne,ne_eq];exact fun w=>hp ⟨k1,k2,(to_b hc k1 k2).1 w⟩)]
   rw [QG k2,if_pos (by simp)];simp
  rw [QG k1,if_pos (by simp)];simp
 ·rw [QG (fun k=>hp (k.2.cond hm))]
 rw [Q1w ⟨hc,qis_mk hc hV (by omega) (by omega) (by omega) h6 fun i hi=>Classical.not_not.1 (hp i hi)⟩]
theorem Q6M {c:Cat} (hc:c.Is) (q:XQuery):QZ c q=some (bo (QIs c q)):=by
 unfold QZ Q29;have hn:=hc.nums
 by_cases h1:(q.variables_.length:Int) > 4
 ·rw [if_pos h1,QG (fun k=>by have:=k.v.len;omega)];simp
 rw [if_neg h1,Q4 (by unfold B64;omega)];simp only [Option.bind_some]
 by_cases h2:q.variables_.all (inR c.n)=true
 case neg=>rw [if_pos h2,QG (fun k=>h2 ((Q5O hc).1 k.v).2)];simp
 have hV:VarQ c q.variables_:=(Q5O hc).2 ⟨by omega,h2⟩;rw [h2];simp only [not_true_eq_false,if_false]
 by_cases h3:(q.left_.length:Int) > 6
 ·rw [if_pos h3,QG (fun k=>by have:=k.nl;omega)];simp
 rw [if_neg h3]
 by_cases h4:(q.right_.length:Int)=(q.left_.length:Int)
 case neg =>
  have:((q.right_.length:Int) != (q.left_.length:Int))=true:=by simpa using fun w=>h4 (by omega)
  rw [this,QG (fun k=>by have:=k.lr;omega)];simp
 have h4':((q.right_.length:Int) != (q.left_.length:Int))=false:=by simp;omega
 rw [h4'];simp only [Option.bind_some,Bool.false_eq_true,if_false];refine Q4C q.left_.length (fun i=>¬ CondQ c q.variables_ (gx q.left_ i) (gx q.right_ i)) (eb:=fun _=>Sum.inr false) (eg:=Sum.inl ()) (by omega) (fun i hi hp=>?_) (fun i hi hp=>?_) (by simp) (fun m hm hp _=>?_) fun hp=>?_
 ·have k:=Classical.not_not.1 hp;rw [if_pos (by omega),Q4 (by omega),Q4 (by omega),e_condI hc hV,Q1w k];simp only [Option.bind_some,not_true_eq_false,if_false];rw [Q4 (by unfold B64;omega)]
 ·rw [if_pos (by omega),Q4 (by omega),Q4 (by omega),e_condI hc hV,QG hp];simp
 ·simp only;rw [QG (fun k=>hp (k.cond hm))]
 simp only
 by_cases h5:(q.output_.length:Int)≤4
 ·rw [if_pos h5,Q4 (by unfold B64;omega)];simp only [Option.bind_some]
  congr 1
  refine Q4Y ⟨fun h6=>qis_mk hc hV (by omega) (by omega) (by omega) h6 fun i hi=>Classical.not_not.1 (hp i hi),fun k=>List.all_eq_true.2 k.out⟩
 rw [if_neg h5,QG (fun k=>by have:=k.nout;omega)];simp
theorem e_areQ (c:Cat) (L:List XQuery) (hl:L.length≤1000):Q1O c L=some (bo (c.Is∧∀ i:Nat,i<L.length→QIs c (gx L i))):=by
 unfold Q1O Q10
 by_cases hc:c.Is
 case neg=>simp [QG hc,QG (fun k:c.Is∧∀ i:Nat,i<L.length→QIs c (gx L i)=>hc k.1)]
 rw [Q1w hc];simp only [Option.bind_some,not_true_eq_false,if_false];refine Q4C L.length (fun i=>¬ QIs c (gx L i)) (eb:=fun _=>Sum.inr false) (eg:=Sum.inl ()) (by omega) (fun i hi hp=>?_) (fun i hi hp=>?_) (by simp) (fun m hm hp _=>?_) fun hp=>?_
 ·rw [if_pos (by omega),Q4 (by omega),Q6M hc,Q1w (Classical.not_not.1 hp)];simp only [Option.bind_some,not_true_eq_false,if_false];rw [Q4 (by unfold B64;omega)]
 ·rw [if_pos (by omega),Q4 (by omega),Q6M hc,QG hp];simp
 ·simp only;rw [QG (fun k=>hp (k.2 m hm))]
 simp only;rw [Q1w ⟨hc,fun i hi=>Classical.not_not.1 (hp i hi)⟩]
end
attribute [local simp] unk unA unE unT unC flat eL eI Qt QI Q9 Q8 XCanonical.cells XPairint64.cells XQuery.cells
noncomputable def QV (k_:XCanonical):Option (List Int) :=
 (QB (σ:=List Int × Int) (ε:=List Int) (fun s7 =>
  if s7.2<(k_.q_.variables_.length:Int) then
   ass (0≤s7.2∧s7.2<(k_.q_.variables_.length:Int)) <|
   ass (0≤ix k_.q_.variables_ s7.2∧ix k_.q_.variables_ s7.2<(k_.sets_.s.id.length:Int)) <|
   ass ((s7.1++[(QQ (⟨s7.2,ix k_.sets_.s.id (ix k_.q_.variables_ s7.2)⟩:XPairint64) k_.class_).getD 0]).length≤1073741824) <|
   ass (B64 (s7.2+1)) <|
   some (Ctl.next (s7.1++[(QQ (⟨s7.2,ix k_.sets_.s.id (ix k_.q_.variables_ s7.2)⟩:XPairint64) k_.class_).getD 0],s7.2+1))
  else
   some (Ctl.ret s7.1)) fuel ([],0)).bind fun b1 =>
 some b1
theorem Q3z {F : Fx} {st st' : St} (m : List (Nat × Nat)) (h : (m.map Prod.fst).Nodup ∧ (m.map Prod.snd).Nodup ∧ (∀ id, id < F.pins → look id m = some id) ∧ (∀ p ∈ m, p.2 < st'.n) ∧ (∀ p ∈ st'.h, p.1 < st'.n) ∧ (∀ p ∈ st'.s, p.2 = rl m (st.get p.1) ∨ p.2 = .bot) ∧ ∀ p ∈ st'.h, hhOk m st.h p.1 p.2 := by simp [hP, hhOk, back, idQ, XCanonical.cells, XPairint64.cells, XQuery.cells, UA, U1, IA, I1, LA, L1, BA, B1, EA, E1, E2, eB, eI, eL, Q3 _ QI _ (fun _=>rfl), Q3 _ Q9 _ (fun _=>rfl), Q3 _ Q8 _ (fun _=>rfl), Cat.cells, SF.cells]) : Wk F st st' := Wk.r1 m h
theorem wkI19 {F : Fx} {st st' : St} (m : Nat) (h : ((idQ m).map Prod.fst).Nodup ∧ ((idQ m).map Prod.snd).Nodup ∧ (∀ id, id < F.pins → look id (idQ m) = some id) ∧ (∀ p ∈ (idQ m), p.2 < st'.n) ∧ (∀ p ∈ st'.h, p.1 < st'.n) ∧ (∀ p ∈ st'.s, p.2 = rl (idQ m) (st.get p.1) ∨ p.2 = .bot) ∧ ∀ p ∈ st'.h, hhOk (idQ m) st.h p.1 p.2 := by simp [hP, hhOk, back, idQ, XCanonical.cells, XPairint64.cells, XQuery.cells, UA, U1, IA, I1, LA, L1, BA, B1, EA, E1, E2, eB, eI, eL, Q3 _ QI _ (fun _=>rfl), Q3 _ Q9 _ (fun _=>rfl), Q3 _ Q8 _ (fun _=>rfl), Cat.cells, SF.cells]) : Wk F st st' := Wk.r1 (idQ m) h
@[simp] abbrev Yc (a:XCanonical) (b:List (Nat × AV)):List (Nat × AV):=(0,.rptr [.rptr (XQuery.cells true a.q_),iV a.sets_.s.n,lI a.sets_.s.fr,lI a.sets_.s.to,lI a.sets_.s.id,.lst true 1 (Ls a.sets_.s.cs),lI a.sets_.sz,.lst true 1 (Ls a.sets_.ac),.cmap (.st 2) (Qh a.class_)])::b
@[simp] abbrev YE (a:XCanonical) (b:List (Nat × AV)):List (Nat × AV):=(13,lI a.q_.variables_)::(14,iV (a.q_.variables_.length:Int))::b
theorem Q3W [Kd Try.prog] (k_:XCanonical) (r:List Int) (h:QV k_=some r):Contract Try.prog 37 [.rptr (k_.cells true)] (lI r):=by
 refine Qe (rvs:=[.tmp 2]) (rs:=[lI r]) Try.func37 rfl rfl rfl rfl (by simp [Try.f37]) fun F hN hP=>?_;unfold QV at h;refine Q0 (runQ hN fun K hK=>?_);simp;repeat refine sdQ ?_
 refine hK _ ?_;clear hK K;refine tn (Q5 (st':=⟨Yc k_ [],[],0⟩) (Q3z []) (Q0 (runQ hN fun K hK=>?_)));simp;repeat refine sdQ ?_
 refine hK _ ?_;clear hK K;refine tn (Q5 (st':=⟨Yc k_ [(3,.own 0 0 0)],[(0,.mix 1 [])],1⟩) (Q3z [(0,0)]) (Q0 (Q0 (runQ hN fun K hK=>?_))));simp;repeat refine sdQ ?_
 refine hK _ (tn (Q5 (st':=⟨Yc k_ ((3,.own 0 0 0)::YE k_ [(15,iV 0)]),[(0,.mix 1 [])],1⟩) (Q3z [(0,0)]) ?_));clear hK K;replace ⟨e1,h,h1⟩:=bind_some h;refine Ql (fun b1:List Int=>⟨[(3,.own 0 0 b1.length)],[(0,rI b1)],1⟩) (fun b1=>b1=e1) ?_ ?_
 ·refine Q6 (Qx h (fun s7:List Int × Int=>⟨Yc k_ ((3,.own 0 0 s7.1.length)::YE k_ [(15,iV s7.2)]),[(0,rI s7.1)],1⟩) (Q3A ⟨Yc k_ ((3,.own 0 0 0)::YE k_ [(15,iV 0)]),[(0,rI [])],1⟩ (Wk.nils [] (by simp) (by simp) (by simp [nlA]) (by simp [entN,nlL,nlA,XCanonical.cells,XPairint64.cells,XQuery.cells,UA,U1,IA,I1,LA,L1,BA,B1,EA,E1,E2,eB,eI,eL,Q3 _ QI _ (fun _=>rfl),Q3 _ Q9 _ (fun _=>rfl),Q3 _ Q8 _ (fun _=>rfl)]) (by simp)) (Q3z [(0,0)])) ?_);clear h;intro k7 s7 c7 h hk7;refine Q0 (runQ hN fun K hK=>?_);simp;repeat refine sdQ ?_
  refine hK _ ?_;clear hK K;refine tn (Q0 (Q7 rfl (fun g=>?_) fun g=>?_))
  ·have g8:s7.2<(k_.q_.variables_.length:Int):=gQ;clear g;replace h:=if_l g8 h;refine Qa (tn (Q0 (Q6 (Q0 (runQ hN fun K hK=>?_)))));replace ⟨a9,h⟩:=Q1 h;simp [at_I a9];(repeat refine sdQ ?_);refine hK _ ?_;clear hK K;refine tn (Q5 (st':=⟨Yc k_ ((3,.own 0 0 s7.1.length)::(4,iV s7.2)::(5,iV (ix k_.q_.variables_ s7.2))::YE k_ [(15,iV s7.2)]),[(0,rI s7.1)],1⟩) (Q3z [(0,0)]) (Qk [] mo (by rw [hN];decide) fun K hK=>?_));replace ⟨a10,h⟩:=Q1 h;replace ⟨a11,h⟩:=Q1 h;(try simp only [List.length_append,List.length_cons,List.length_nil] at a11);simp [at_I a10,a11];(repeat refine sdQ ?_);refine hK _ ?_;clear hK K;refine bn (tn (Q5 (st':=⟨Yc k_ ((3,.own 0 0 ((s7.1++[(QQ (⟨s7.2,ix k_.sets_.s.id (ix k_.q_.variables_ s7.2)⟩:XPairint64) k_.class_).getD 0]).length))::YE k_ [(15,iV s7.2)]),[(0,rI (s7.1++[(QQ (⟨s7.2,ix k_.sets_.s.id (ix k_.q_.variables_ s7.2)⟩:XPairint64) k_.class_).getD 0]))],1⟩) (Q3z [(2,0)]) (runQ hN fun K hK=>?_)));replace ⟨a12,h⟩:=Q1 h;simp [Qp a12];(repeat refine sdQ ?_);refine hK _ ?_;clear hK K;cases h;exact rn (s':=(s7.1++[(QQ (⟨s7.2,ix k_.sets_.s.id (ix k_.q_.variables_ s7.2)⟩:XPairint64) k_.class_).getD 0],s7.2+1)) hk7 (Q3z [(0,0)])
  have g8:¬ (s7.2<(k_.q_.variables_.length:Int)):=gQ;clear g;replace h:=if_r g8 h;refine Qr (tx (lx (bh ?_)));cases h;exact jn (b:=s7.1) hk7 (Q3z [(0,0)])
 intro b1 hb1;have h:=h1;try rw [← hb1] at h
 clear h1;try dsimp only at h
 refine Q0 (runQ hN fun K hK=>?_);simp;repeat refine sdQ ?_
 refine hK _ (tn (Q5 (st':=⟨[(2,.own 0 0 b1.length)],[(0,rI b1)],1⟩) (Q3z [(0,0)]) (Qj ?_)));clear hK K;have hr:=Option.some.inj h;rw [← hr];refine ⟨_,(.tmp .nil),?_⟩;refine ⟨(.one rfl rfl .nil),[lI b1],[0],by simp [XCanonical.cells,XPairint64.cells,XQuery.cells,UA,U1,IA,I1,LA,L1,BA,B1,EA,E1,E2,eB,eI,eL,Q3 _ QI _ (fun _=>rfl),Q3 _ Q9 _ (fun _=>rfl),Q3 _ Q8 _ (fun _=>rfl)],by simp,(UpL.refl _)⟩
attribute [local simp] unk unA unE unT unC flat eL eI Qt Q24 Qat QI Q9 Q8 Cat.cells SF.cells XCanonical.cells XPairint64.cells XQuery.cells
noncomputable def Q1G (c_:Cat) (q_:XQuery):Option (SF × List Int × Int) :=
 (Q1O c_ [q_]).bind fun v1 =>
 if ¬ (v1=true) then
  some ((⟨(⟨0,[],[],[],[]⟩:Cat),[],[]⟩:SF),[],1)
 else
  (QH c_ q_).bind fun v3 =>
  match v3 with
  | .inl v3 =>
   some ((⟨(⟨0,[],[],[],[]⟩:Cat),[],[]⟩:SF),[],3)
  | .inr v3 =>
   (QV (⟨q_,(⟨(⟨v3.1,v3.2.1,v3.2.2.1,v3.2.2.2.1,v3.2.2.2.2.1⟩:Cat),v3.2.2.2.2.2.1,v3.2.2.2.2.2.2.1⟩:SF),v3.2.2.2.2.2.2.2⟩:XCanonical)).bind fun v4 =>
   some ((⟨(⟨v3.1,v3.2.1,v3.2.2.1,v3.2.2.2.1,v3.2.2.2.2.1⟩:Cat),v3.2.2.2.2.2.1,v3.2.2.2.2.2.2.1⟩:SF),v4,0)
theorem Q5e [Kd Try.prog] (c_:Cat) (q_:XQuery) (r:SF × List Int × Int) (h:Q1G c_ q_=some r):Contract Try.prog 11 (Y0d c_ q_ []) (.tup [.agg (r.1.cells true),lI r.2.1,iV r.2.2]):=by
 refine Qe (rvs:=[.cell 4 33,.tmp 5,.tmp 6]) (rs:=[.agg (r.1.cells true),lI r.2.1,iV r.2.2]) Try.func11 rfl rfl rfl rfl (by simp [Try.f11]) fun F hN hP=>?_;unfold Q1G at h;refine Q0 (Qk [2,3] mo (by rw [hN];decide) fun K hK=>?_);simp;repeat refine sdQ ?_
 refine hK _ ?_;clear hK K;refine tn (Q5 (st':=⟨Yo c_ q_ [],Y4 [],1⟩) (Q3z [(0,0)]) (Q0 (Q0 (runQ hN fun K hK=>?_))));simp;repeat with_reducible refine sdQ ?_
 replace ⟨v1,hv1,h⟩:=bind_some h;refine Q2 (Q6G _ _ v1 hv1) (.cons (.preT (by simp [Cat.cells,XQuery.cells])) (.cons (.lits (es:=_) rfl (.cons rfl (.cons (.preT (by simp [Cat.cells,XQuery.cells])) .nil) .nil) rfl) .nil)) ?_;simp;repeat refine sdQ ?_
 refine hK _ ?_;clear hK K;refine tn (Q5 (st':=⟨Yo c_ q_ [(11,.val (.bool (!v1)))],Y4 [],1⟩) (Q3z [(0,0)]) (Q7 rfl (fun g=>?_) fun g=>?_))
 ·have g2:¬ (v1=true):=gQ;clear g;replace h:=if_l g2 h;refine Q0 (runQ hN fun K hK=>?_);simp;repeat refine sdQ ?_
  refine hK _ (tn (Q5 (st':=⟨Y01 [(5,nS),(6,iV 1)],Y4 [],1⟩) (Q3z [(0,0)]) (Qj (tr ?_))));clear hK K;have hr:=Option.some.inj h;rw [← hr];refine ⟨_,(.cell Q7D rfl rfl rfl (by simp) (by simp) (.tmp (.tmp .nil))),?_⟩;refine ⟨(.agg rfl (.one rfl rfl (.one rfl rfl .nil))),[iV 0,nS,nS,nS,nS,nS,nS,nS,iV 1],[],by simp [Cat.cells,SF.cells,XCanonical.cells,XPairint64.cells,XQuery.cells,UA,U1,IA,I1,LA,L1,BA,B1,EA,E1,E2,eB,eI,eL,Q3 _ QI _ (fun _=>rfl),Q3 _ Q9 _ (fun _=>rfl),Q3 _ Q8 _ (fun _=>rfl)],by simp,(.cons .refl (.cons .nil (.cons .nil (.cons .nil (.cons .nil (.cons .nil (.cons .nil (.cons .nil (.cons .refl .nil)))))))))⟩
 have g2:¬ (¬ (v1=true)):=gQ;clear g;replace h:=if_r g2 h;refine Qa (tn (Q0 (Q9l [] mo (by rw [hN];decide) fun K hK=>?_)));simp;repeat with_reducible refine sdQ ?_
 replace ⟨v3,hv3,h⟩:=bind_some h;refine Q4x (fz:=[]) (ICon.liftL (e':=(match (generalizing:=false) v3 with|.inl v3=>{ v:=.tup [.val (.pointer none),.val (.bool false)],new:=[],cnt:=0 }|.inr v3=>{ v:=.tup [.adr 1 0 0,.val (.bool true)],new:=[(1,.mix 9 [(Y0b q_ [iV v3.1,.own 2 0 v3.2.1.length,.own 3 0 v3.2.2.1.length,.own 4 0 v3.2.2.2.1.length,.own 5 0 v3.2.2.2.2.1.length,.own 6 0 v3.2.2.2.2.2.1.length,.own 7 0 v3.2.2.2.2.2.2.1.length,.mp 8])]),(2,rI v3.2.1),(3,rI v3.2.2.1),(4,rI v3.2.2.2.1),(5,.row 1 (Ls v3.2.2.2.2.1)),(6,rI v3.2.2.2.2.2.1),(7,.row 1 (Ls v3.2.2.2.2.2.2.1)),(8,.mapE (.st 2) (Qh v3.2.2.2.2.2.2.2))],cnt:=8 })) (Q3E _ _ v3 hv3) (by simp [AV.ro,rl,rlL,rlLL,Q4P,Cat.cells,SF.cells,XCanonical.cells,XPairint64.cells,XQuery.cells,E2,eB,eI,eL,Q3 _ QI _ (fun _=>rfl),Q3 _ Q9 _ (fun _=>rfl),Q3 _ Q8 _ (fun _=>rfl)]) (by rcases v3 with v3|v3<;>simp) (by rcases v3 with v3|v3<;>simp) (by rcases v3 with v3|v3<;>rfl) (by rcases v3 with v3|v3<;>simp [AV.ro,rl,rlL,rlLL,Q4P,Cat.cells,SF.cells,XCanonical.cells,XPairint64.cells,XQuery.cells,E2,eB,eI,eL,Q3 _ QI _ (fun _=>rfl),Q3 _ Q9 _ (fun _=>rfl),Q3 _ Q8 _ (fun _=>rfl)]) (by rcases v3 with v3|v3<;>simp [noAli]) (by rcases v3 with v3|v3<;>rfl) (by rcases v3 with v3|v3<;>simp [AV.ro,rl,rlL,rlLL,Q4P,Cat.cells,SF.cells,XCanonical.cells,XPairint64.cells,XQuery.cells,E2,eB,eI,eL,Q3 _ QI _ (fun _=>rfl),Q3 _ Q9 _ (fun _=>rfl),Q3 _ Q8 _ (fun _=>rfl)]) (Qav (by rcases v3 with v3|v3<;>simp))) ?_;clear hv3;rcases v3 with v3|v3
 ·try dsimp only at h
  try dsimp only
  simp;repeat refine sdQ ?_
  refine hK _ ?_;clear hK K;refine tn (Q5 (st':=⟨Y01 [(7,.val (.pointer none)),(8,.val (.bool false))],Y4 [],1⟩) (Q3z [(0,0)]) (Q0 (Q0 (runQ hN fun K hK=>?_))));simp;repeat refine sdQ ?_
  refine hK _ (tn ?_);clear hK K;refine Q7 rfl (fun _=>?_) fun g=>by simp at g
  refine Q0 (runQ hN fun K hK=>?_);simp;repeat refine sdQ ?_
  refine hK _ (tn (Q5 (st':=⟨Y01 [(5,nS),(6,iV 3)],Y4 [],1⟩) (Q3z [(0,0)]) (Qj (tr ?_))));clear hK K;have hr:=Option.some.inj h;rw [← hr];refine ⟨_,(.cell Q7D rfl rfl rfl (by simp) (by simp) (.tmp (.tmp .nil))),?_⟩;refine ⟨(.agg rfl (.one rfl rfl (.one rfl rfl .nil))),[iV 0,nS,nS,nS,nS,nS,nS,nS,iV 3],[],by simp [Cat.cells,SF.cells,XCanonical.cells,XPairint64.cells,XQuery.cells,UA,U1,IA,I1,LA,L1,BA,B1,EA,E1,E2,eB,eI,eL,Q3 _ QI _ (fun _=>rfl),Q3 _ Q9 _ (fun _=>rfl),Q3 _ Q8 _ (fun _=>rfl)],by simp,(.cons .refl (.cons .nil (.cons .nil (.cons .nil (.cons .nil (.cons .nil (.cons .nil (.cons .nil (.cons .refl .nil)))))))))⟩
 try dsimp only at h
 try dsimp only
 simp;repeat refine sdQ ?_
 refine hK _ ?_;clear hK K;refine tn (Q5 (st':=⟨Y01 [(7,.adr 1 0 0),(8,.val (.bool true))],Y4 [(1,.mix 9 [(Y0b q_ [iV v3.1,.own 2 0 v3.2.1.length,.own 3 0 v3.2.2.1.length,.own 4 0 v3.2.2.2.1.length,.own 5 0 v3.2.2.2.2.1.length,.own 6 0 v3.2.2.2.2.2.1.length,.own 7 0 v3.2.2.2.2.2.2.1.length,.mp 8])]),(2,rI v3.2.1),(3,rI v3.2.2.1),(4,rI v3.2.2.2.1),(5,.row 1 (Ls v3.2.2.2.2.1)),(6,rI v3.2.2.2.2.2.1),(7,.row 1 (Ls v3.2.2.2.2.2.2.1)),(8,.mapE (.st 2) (Qh v3.2.2.2.2.2.2.2))],9⟩) (wkI19 9) (Q0 (Q0 (runQ hN fun K hK=>?_))));simp;repeat refine sdQ ?_
 refine hK _ (tn (Q7 rfl (fun g=>by simp at g) fun _=>?_));clear hK K;refine Qa (tn (Q0 (runQ hN fun K hK=>?_)));simp;repeat with_reducible refine sdQ ?_
 replace ⟨v4,hv4,h⟩:=bind_some h;refine Q2 (Q3W _ v4 hv4) (.cons (.field rfl (by simp [Cat.cells,SF.cells,XCanonical.cells,XPairint64.cells,XQuery.cells]) (.cons (.preT (by simp [Cat.cells,SF.cells,XCanonical.cells,XPairint64.cells,XQuery.cells])) (.cons .val (.cons .w (.cons .w (.cons .w (.cons .w (.cons .w (.cons .w (.cons (.mp rfl) .nil)))))))))) .nil) ?_;simp;repeat refine sdQ ?_
 refine hK _ (tn (Q5 (st':=⟨Y01 [(5,.own 7 0 v4.length),(6,iV 0)],[(0,.mix 7 [[iV v3.1,.own 1 0 v3.2.1.length,.own 2 0 v3.2.2.1.length,.own 3 0 v3.2.2.2.1.length,.own 4 0 v3.2.2.2.2.1.length,.own 5 0 v3.2.2.2.2.2.1.length,.own 6 0 v3.2.2.2.2.2.2.1.length]]),(1,rI v3.2.1),(2,rI v3.2.2.1),(3,rI v3.2.2.2.1),(4,.row 1 (Ls v3.2.2.2.2.1)),(5,rI v3.2.2.2.2.2.1),(6,.row 1 (Ls v3.2.2.2.2.2.2.1)),(7,rI v4)],8⟩) (Q3z [(0,0),(2,1),(3,2),(4,3),(5,4),(6,5),(7,6),(9,7)]) (Qj ?_)));clear hK K;have hr:=Option.some.inj h;rw [← hr];refine ⟨_,(.cell Q7D rfl rfl rfl (by simp) (by simp) (.tmp (.tmp .nil))),?_⟩;refine ⟨(.agg rfl (.one rfl rfl (.one rfl rfl .nil))),[iV v3.1,lI v3.2.1,lI v3.2.2.1,lI v3.2.2.2.1,.lst true 1 (Ls v3.2.2.2.2.1),lI v3.2.2.2.2.2.1,.lst true 1 (Ls v3.2.2.2.2.2.2.1),lI v4,iV 0],[1,2,3,4,5,6,7],by simp [Cat.cells,SF.cells,XCanonical.cells,XPairint64.cells,XQuery.cells,UA,U1,IA,I1,LA,L1,BA,B1,EA,E1,E2,eB,eI,eL,Q3 _ QI _ (fun _=>rfl),Q3 _ Q9 _ (fun _=>rfl),Q3 _ Q8 _ (fun _=>rfl)],by simp,(UpL.refl _)⟩
attribute [local simp] unk unA unE unT unC flat eL eI Qt Q24 Qat Q8 Cat.cells SF.cells XQuery.cells
noncomputable def Q1I (c_:Cat) (q_:XQuery):Option (SF × List Int × Int) :=
 (Q2M c_ q_).bind fun v1 =>
 if ¬ (v1=true) then
  some ((⟨(⟨0,[],[],[],[]⟩:Cat),[],[]⟩:SF),[],1)
 else
  (Q1t c_ q_).bind fun v3 =>
  if ¬ (v3.2.2=true) then
   some ((⟨(⟨0,[],[],[],[]⟩:Cat),[],[]⟩:SF),[],3)
  else
   some (v3.1,v3.2.1,0)
theorem Q5h [Kd Try.prog] (c_:Cat) (q_:XQuery) (r:SF × List Int × Int) (h:Q1I c_ q_=some r):Contract Try.prog 8 (Y0d c_ q_ []) (.tup [.agg (r.1.cells true),lI r.2.1,iV r.2.2]):=by
 refine Qe (rvs:=[.cell 4 33,.tmp 5,.tmp 6]) (rs:=[.agg (r.1.cells true),lI r.2.1,iV r.2.2]) Try.func8 rfl rfl rfl rfl (by simp [Try.f8]) fun F hN hP=>?_;unfold Q1I at h;refine Q0 (runQ hN fun K hK=>?_);simp;repeat refine sdQ ?_
 refine hK _ ?_;clear hK K;refine tn (Q5 (st':=⟨Yp [(4,.adr 2 0 0)],Yn c_ q_ [(2,.mix 7 [[iV 0,nS,nS,nS,nS,nS,nS]])],3⟩) (wkI19 3) (Q0 (Q0 (runQ hN fun K hK=>?_))));simp;repeat with_reducible refine sdQ ?_
 replace ⟨v1,hv1,h⟩:=bind_some h;refine Q2 (Q9m _ _ v1 hv1) (.cons (.aggL (.cons .val (.cons .lst (.cons .lst (.cons .lst (.cons .lst .nil)))))) (.cons (.aggL (.cons .lst (.cons .lst (.cons .lst (.cons .lst .nil))))) .nil)) ?_;simp;repeat refine sdQ ?_
 refine hK _ ?_;clear hK K;refine tn (Q5 (st':=⟨Yp [(4,.adr 2 0 0),(13,.val (.bool (!v1)))],Yn c_ q_ [(2,.mix 7 [[iV 0,nS,nS,nS,nS,nS,nS]])],3⟩) (wkI19 3) (Q7 rfl (fun g=>?_) fun g=>?_))
 ·have g2:¬ (v1=true):=gQ;clear g;replace h:=if_l g2 h;refine Q0 (runQ hN fun K hK=>?_);simp;repeat refine sdQ ?_
  refine hK _ (tn (Q5 (st':=⟨Y01 [(5,nS),(6,iV 1)],Y4 [],1⟩) (Q3z [(2,0)]) (Qj (tr ?_))));clear hK K;have hr:=Option.some.inj h;rw [← hr];refine ⟨_,(.cell Q7D rfl rfl rfl (by simp) (by simp) (.tmp (.tmp .nil))),?_⟩;refine ⟨(.agg rfl (.one rfl rfl (.one rfl rfl .nil))),[iV 0,nS,nS,nS,nS,nS,nS,nS,iV 1],[],by simp [Cat.cells,SF.cells,XQuery.cells,UA,U1,IA,I1,LA,L1,BA,B1,EA,E1,E2,eB,eI,eL,Q3 _ Q8 _ (fun _=>rfl)],by simp,(.cons .refl (.cons .nil (.cons .nil (.cons .nil (.cons .nil (.cons .nil (.cons .nil (.cons .nil (.cons .refl .nil)))))))))⟩
 have g2:¬ (¬ (v1=true)):=gQ;clear g;replace h:=if_r g2 h;refine Qa (tn (Q0 (runQ hN fun K hK=>?_)));simp;repeat with_reducible refine sdQ ?_
 replace ⟨v3,hv3,h⟩:=bind_some h;refine Q2 (Q5C _ _ v3 hv3) (.cons (.aggL (.cons .val (.cons .lst (.cons .lst (.cons .lst (.cons .lst .nil)))))) (.cons (.aggL (.cons .lst (.cons .lst (.cons .lst (.cons .lst .nil))))) .nil)) ?_;simp;repeat refine sdQ ?_
 refine hK _ ?_;clear hK K;refine tn (Q5 (st':=⟨Y01 [(7,.adr 1 0 0),(8,.own 8 0 v3.2.1.length),(9,.val (.bool v3.2.2))],Y4 [(1,.mix 7 [[iV v3.1.s.n,.own 2 0 v3.1.s.fr.length,.own 3 0 v3.1.s.to.length,.own 4 0 v3.1.s.id.length,.own 5 0 v3.1.s.cs.length,.own 6 0 v3.1.sz.length,.own 7 0 v3.1.ac.length]]),(2,rI v3.1.s.fr),(3,rI v3.1.s.to),(4,rI v3.1.s.id),(5,.row 1 (Ls v3.1.s.cs)),(6,rI v3.1.sz),(7,.row 1 (Ls v3.1.ac)),(8,rI v3.2.1)],9⟩) (Q3z [(2,0),(12,1),(4,2),(5,3),(6,4),(7,5),(8,6),(9,7),(10,8)]) (Q0 (Q0 (runQ hN fun K hK=>?_))));simp;repeat refine sdQ ?_
 refine hK _ ?_;clear hK K;refine tn (Q7 rfl (fun g=>?_) fun g=>?_)
 ·have g4:¬ (v3.2.2=true):=gQ;clear g;replace h:=if_l g4 h;refine Q0 (runQ hN fun K hK=>?_);simp;repeat refine sdQ ?_
  refine hK _ (tn (Q5 (st':=⟨Y01 [(5,nS),(6,iV 3)],Y4 [],1⟩) (Q3z [(0,0)]) (Qj (tr ?_))));clear hK K;have hr:=Option.some.inj h;rw [← hr];refine ⟨_,(.cell Q7D rfl rfl rfl (by simp) (by simp) (.tmp (.tmp .nil))),?_⟩;refine ⟨(.agg rfl (.one rfl rfl (.one rfl rfl .nil))),[iV 0,nS,nS,nS,nS,nS,nS,nS,iV 3],[],by simp [Cat.cells,SF.cells,XQuery.cells,UA,U1,IA,I1,LA,L1,BA,B1,EA,E1,E2,eB,eI,eL,Q3 _ Q8 _ (fun _=>rfl)],by simp,(.cons .refl (.cons .nil (.cons .nil (.cons .nil (.cons .nil (.cons .nil (.cons .nil (.cons .nil (.cons .refl .nil)))))))))⟩
 have g4:¬ (¬ (v3.2.2=true)):=gQ;clear g;replace h:=if_r g4 h;refine Qa (tn (Q0 (runQ hN fun K hK=>?_)));simp;repeat refine sdQ ?_
 refine hK _ (tn (Q5 (st':=⟨Y01 [(5,.own 7 0 v3.2.1.length),(6,iV 0)],[(0,.mix 7 [[iV v3.1.s.n,.own 1 0 v3.1.s.fr.length,.own 2 0 v3.1.s.to.length,.own 3 0 v3.1.s.id.length,.own 4 0 v3.1.s.cs.length,.own 5 0 v3.1.sz.length,.own 6 0 v3.1.ac.length]]),(1,rI v3.1.s.fr),(2,rI v3.1.s.to),(3,rI v3.1.s.id),(4,.row 1 (Ls v3.1.s.cs)),(5,rI v3.1.sz),(6,.row 1 (Ls v3.1.ac)),(7,rI v3.2.1)],8⟩) (Q3z [(0,0),(2,1),(3,2),(4,3),(5,4),(6,5),(7,6),(8,7)]) (Qj ?_)));clear hK K;have hr:=Option.some.inj h;rw [← hr];refine ⟨_,(.cell Q7D rfl rfl rfl (by simp) (by simp) (.tmp (.tmp .nil))),?_⟩;refine ⟨(.agg rfl (.one rfl rfl (.one rfl rfl .nil))),[iV v3.1.s.n,lI v3.1.s.fr,lI v3.1.s.to,lI v3.1.s.id,.lst true 1 (Ls v3.1.s.cs),lI v3.1.sz,.lst true 1 (Ls v3.1.ac),lI v3.2.1,iV 0],[1,2,3,4,5,6,7],by simp [Cat.cells,SF.cells,XQuery.cells,UA,U1,IA,I1,LA,L1,BA,B1,EA,E1,E2,eB,eI,eL,Q3 _ Q8 _ (fun _=>rfl)],by simp,(UpL.refl _)⟩
section
attribute [local simp] Qc QC Qq QP QA
theorem e_generic {c:Cat} {q:XQuery} {R:Nat→Nat→Nat} {sz:List Int} {ac:List (List Int)} {m:List (XPairint64 × Int)} (hc:c.Is) (hq:QIs c q) (hm:Kd1 c q R m) :
  QV ⟨q,⟨c,sz,ac⟩,m⟩=some (genQ c q R):=by
 have hv:=hq.v.len;unfold QV;refine Q15 q.variables_.length (fun k=>tab k fun i=>ix (cls (R (VN q.variables_ i)) (At c q (VN q.variables_ i)).length) (plc (At c q (VN q.variables_ i)) (i,idn c (VN q.variables_ i)))) (e:=genQ c q R) rfl (by omega) (fun i hi=>?_) (by simp only;rw [if_neg (by omega)];rfl) rfl;obtain ⟨v1,v2⟩:=hq.v.at' i hi;obtain ⟨i1,i2,i3,i4⟩:=Q7W hc v2;obtain ⟨g1,g2⟩:=gen_mem hc hq hi;have k:=hm _ g1;have p1:(⟨(i:Int),(idn c (VN q.variables_ i):Int)⟩:XPairint64)=pX (i,idn c (VN q.variables_ i)):=rfl;simp only;rw [if_pos (by omega),Q4 (by omega),v1,Q4 (by omega),i1,p1,k];simp only [Option.getD_some];rw [Q4 (by simp;omega),Q4 (by unfold B64;omega),Q23];unfold cl;rw [g2]
theorem quoW_ok {c:Cat} {q:XQuery} (hc:c.Is) (hq:QIs c q) {R:Nat→Nat→Nat} (h:GI c q R) (hf:Q2T c q R):(quoF (Q13 c q.variables_) (clsF c q R)).ok∧(quoF (Q13 c q.variables_) (clsF c q R)).size≤10000:=by
 have hn:=hc.nums;obtain ⟨c1,c2⟩:=hc.1.size2;have al:(Q13 c q.variables_).ac.length=c.fr.length:=by simp [Q13]
 have lc:(clsF c q R).length=c.id.length:=by simp [clsF]
 have zz:∀ y:Nat,y<c.id.length→mxP (cls (R y) (At c q y).length) (At c q y).length≤16:=by
  intro y hy;have e1:ix (quoZ (clsF c q R) c.id.length) y=mxP (rx (clsF c q R) y) (rx (clsF c q R) y).length:=Q4F _ _ hy;rw [Q1Z hy,Q27] at e1;unfold Q2T at hf;rw [lc] at hf;have hz:(quoZ (clsF c q R) c.id.length).all (fun x=>decide (x≤16))=true:=by
   unfold mad at hf
   by_cases k:(quoZ (clsF c q R) c.id.length).all (fun x=>decide (x≤16))=true
   ·exact k
   rw [Bool.not_eq_true] at k;rw [k] at hf;simp at hf
  have ll:y<(quoZ (clsF c q R) c.id.length).length:=by simp [quoZ];omega
  have:=List.all_eq_true.1 hz _ (List.getElem_mem ll);rw [decide_eq_true_eq,Q1M _ _ ll] at this;omega
 have b0:∀ xs∈(quoF (Q13 c q.variables_) (clsF c q R)).ac,xs.length≤16:=by
  intro xs hx;simp only [quoF,tab,List.mem_map,List.mem_range] at hx;obtain ⟨a,ha,rfl⟩:=hx;rw [al] at ha;obtain ⟨f1,f2,f3,f4⟩:=Q1i hc ha;have sf:(Q13 c q.variables_).s=c:=rfl;have z:=zz _ f2;rw [Q7t,sf,f1,Q1Z f2,Q27];omega
 have s0:=sumL_b b0;have l0:(quoF (Q13 c q.variables_) (clsF c q R)).ac.length=c.fr.length:=by simp [quoF,al]
 have lz:(quoF (Q13 c q.variables_) (clsF c q R)).sz.length=c.id.length:=by simp [quoF,quoZ,lc]
 rw [l0] at s0;have hs:(quoF (Q13 c q.variables_) (clsF c q R)).s=c:=rfl;refine ⟨⟨by rw [hs];exact c1,by omega,by omega,fun xs hx=>by have:=b0 xs hx;omega,by omega⟩,?_⟩;simp only [SF.size,hs];omega
theorem Q65 (c:Cat) (q:XQuery):∃ r,Q1I c q=some r∧Q1G c q=some r∧(r.1.ok∧r.1.size≤10000)∧(r.2.1.length≤1048576∧r.2.1.length≤100):=by
 unfold Q1I Q1G;have z1:((⟨(⟨0,[],[],[],[]⟩:Cat),[],[]⟩:SF)).ok∧((⟨(⟨0,[],[],[],[]⟩:Cat),[],[]⟩:SF)).size≤10000:=sf0_ok;have e1:(c.Is∧∀ i:Nat,i < [q].length→QIs c (gx [q] i))↔(c.Is∧QIs c q):=by
  refine and_congr_right fun _=>⟨fun h=>h 0 (by simp),fun h i hi=>?_⟩;have:i=0:=by simpa using hi
  subst this;exact h
 rw [e_IsQuery,e_areQ c [q] (by simp)];simp only [e1,Option.bind_some]
 by_cases h:c.Is∧QIs c q
 case neg=>exact ⟨_,by rw [QG h,if_pos (by simp)],by rw [QG h,if_pos (by simp)],z1,by simp⟩
 obtain ⟨hc,hq⟩:=h;rw [Q1w ⟨hc,hq⟩,if_neg (by simp),if_neg (by simp)];obtain ⟨R,hR,hk,es⟩:=e_canonS hc hq;have hv:=hq.v.len;rw [es]
 by_cases hf:Q2T c q R
 ·obtain ⟨m,hm,ei⟩:=(Q9E hc hq hR hk).1 hf;have hf':mad (quoZ (clsF c q R) (clsF c q R).length)=0:=hf;have gl:(genQ c q R).length≤4:=by simp [genQ];omega
  refine ⟨(quoF (Q13 c q.variables_) (clsF c q R),genQ c q R,0),?_,?_,quoW_ok hc hq hR hf,by simp only;omega,by simp only;omega⟩
  ·simp [hf']
  rw [ei];simp only [Option.bind_some];rw [e_generic hc hq hm];rfl
 have hf':¬ mad (quoZ (clsF c q R) (clsF c q R).length)=0:=hf;rw [(Q9E hc hq hR hk).2 hf];refine ⟨_,?_,rfl,z1,by simp⟩;simp [hf']
end
end Go.Vc.T
