/- FnExactInvertedArrows: for all categories and lists of arrows that can be read, the law returns true: InvertedArrows of the program returns the list that the reference's returns, refuses what it refuses, leaves its arguments as they were, and hands back memory that it shares with nothing. Conditions: none beyond the given row's own. -/
import Derived.Test.YtgaeldalleellaaGreatI15
import Derived.Test.YtgaeldalleellaaGreatRows
import Derived.ProofKit
import Derived.OpenShut
import Derived.Carry
set_option maxRecDepth 100000
set_option maxHeartbeats 4000000
set_option linter.unusedSimpArgs false
set_option linter.unusedVariables false
set_option linter.unusedSectionVars false
set_option linter.unnecessarySimpa false

namespace Go.Vc.T
open Go Go.Vc Go.Proofs
section
attribute [local simp] Qa QD Qo QM Qx
section
variable {H:Type}{enc:TypeId × Value→H}{w:World}
theorem u2:Tryz.prog.underlying 2=some (.int .i64):=by kernel_rfl
theorem u22:Tryz.prog.underlying 22=some (.slice 2):=by kernel_rfl
theorem u23:Tryz.prog.underlying 23=some (.slice 22):=by kernel_rfl
theorem cc2:Tryz.prog.cellsOf 2=1:=by kernel_rfl
theorem cc22:Tryz.prog.cellsOf 22=1:=by kernel_rfl
theorem cc23:Tryz.prog.cellsOf 23=1:=by kernel_rfl
theorem reads2:Q8g enc Tryz.prog w 2 (λn:Int=>[iV n]):=reads_int u2
theorem reads22(u:Bool):Q8g enc Tryz.prog w 22 (λxs:List Int=>[.lst u 1 (Is xs)]):=Q6r u u22 cc2 (by decide) (λ_=>rfl) reads2
theorem reads23(u:Bool):Q8g enc Tryz.prog w 23 (λxs:List (List Int)=>[.lst u 1 (Ls xs)]):=Q6r u u23 cc22 (by decide) (λ_=>rfl) (reads22 true)
def flds(P:Program)(t:TypeId):Option (List (Nat×TypeId)):=match P.underlying t with
 |some (.struct fs)=>some (fs.toList.map λf=>(f.offset,f.type))
 |_=>none
theorem flds_ex{P:Program}{t:TypeId}{l:List (Nat×TypeId)}(h:flds P t=some l):∃fs,P.underlying t=some (.struct fs)∧fs.toList.map (λf=>(f.offset,f.type))=l:=by
 unfold flds at h;split at h
 ·rename_i fs hfs;exact⟨fs,hfs,by simpa using h⟩
 cases h
theorem Q4K{fs:Array Field}{l:List (Nat×TypeId)}(h:fs.toList.map (λf=>(f.offset,f.type))=l){i o:Nat}{t:TypeId}(hi:l[i]? =some (o,t)):∃f,fs[i]? =some f∧f.offset=o∧f.type=t:=by
 rw[←h,List.getElem?_map]at hi;obtain⟨f,hf,he⟩:=Option.map_eq_some_iff.1 hi;simp only[Prod.mk.injEq]at he;exact⟨f,by simpa using hf,he.1,he.2⟩
end
theorem fl_zero{P:Nat→Prop}:∀k,k<0→P k:=λk hk=>absurd hk (Nat.not_lt_zero k)
theorem Q61{P:Nat→Prop}{n:Nat}(h:∀k,k<n→P k)(hn:P n):∀k,k<n+1→P k:=by
 intro k hk;rcases Nat.lt_or_ge k n with h1|h1
 ·exact h k h1
 have:k=n:=by omega
 subst this;exact hn
theorem cc25:Tryz.prog.cellsOf 25=5:=by kernel_rfl
theorem fields25:∃fs,Tryz.prog.underlying 25=some (.struct fs)∧fs.toList.map (λf=>(f.offset,f.type))=[(0,2),(1,22),(2,22),(3,22),(4,23)]:=flds_ex (by kernel_rfl)
theorem reads25{H:Type}{enc:TypeId×Value→H}{w:World}(u:Bool):Q8g enc Tryz.prog w 25 (Cat.cells u):=by
 intro fuel cs x h;obtain⟨fs,hu,hf⟩:=fields25;obtain⟨xs,n,_,_,hl,hx,hh⟩:=DataW.trod_struct hu h;rw[cc25]at hl;obtain⟨f0,e0,o0,t0⟩:=Q4K hf (i:=0) rfl;obtain⟨f1,e1,o1,t1⟩:=Q4K hf (i:=1) rfl;obtain⟨f2,e2,o2,t2⟩:=Q4K hf (i:=2) rfl;obtain⟨f3,e3,o3,t3⟩:=Q4K hf (i:=3) rfl;obtain⟨f4,e4,o4,t4⟩:=Q4K hf (i:=4) rfl;obtain⟨a0,_,r0⟩:=Q31 hx hh e0 t0 cc2 (by omega) reads2;obtain⟨a1,_,r1⟩:=Q31 hx hh e1 t1 cc22 (by omega) (reads22 u);obtain⟨a2,_,r2⟩:=Q31 hx hh e2 t2 cc22 (by omega) (reads22 u);obtain⟨a3,_,r3⟩:=Q31 hx hh e3 t3 cc22 (by omega) (reads22 u);obtain⟨a4,_,r4⟩:=Q31 hx hh e4 t4 cc23 (by omega) (reads23 u);refine⟨⟨a0,a1,a2,a3,a4⟩,by simp[Cat.cells,hl],?_⟩;rw[hl];refine Q61 ?_ (by simpa[o4,Cat.cells]using r4 0 (by omega));refine Q61 ?_ (by simpa[o3,Cat.cells]using r3 0 (by omega));refine Q61 ?_ (by simpa[o2,Cat.cells]using r2 0 (by omega));refine Q61 ?_ (by simpa[o1,Cat.cells]using r1 0 (by omega));refine Q61 ?_ (by simpa[o0,Cat.cells]using r0 0 (by omega));exact fl_zero
end
end Go.Vc.T
namespace Go.Proofs.YtgaeldalleellaaGreat
open Go.ChangeShapes Go.WideShapes Go.ChangeAt Go.RowKit Go.Vc
theorem own:ownKnob Tryz.prog.godebug=none:=by kernel_rfl
theorem laidOut:laidOutB Tryz.prog=true:=by kernel_rfl
theorem true_of{w':World}{o:Nat→Option (List Nat)}{v:Value}(h:Res w' o v (.val (.bool true))):v= .bool true:=by
 have h1:Vc.one v:=h.sh;have h2:=h.cell 0 (by decide);have e:(Q2L v).getD 0 undef=v:=by
  have:Q2L v=[v]:=by
   revert h1
   unfold Vc.one Value.oneCell';cases v<;>simp[Q2L,Value.cells]
  rw[this];rfl
 rw[e]at h2;cases h2 with
 |val=>rfl
end Go.Proofs.YtgaeldalleellaaGreat
namespace Go.Proofs.YtgaeldalleellaaGreat
open Go.ChangeShapes Go.WideShapes Go.ChangeAt Go.RowKit Go.Vc
set_option maxRecDepth 100000 in
theorem Q42(os:Os)(started:os.Started)(H:Type)(enc:TypeId×Value→H):
  ReturnsInHanded {} Tryz.checked os 4 .any (Rows.fnExactInvertedArrowsSpec.pre6 enc Tryz.prog Tryz.f4 Rows.fnExactInvertedArrowsRow.domain false) (Rows.fnExactInvertedArrowsSpec.post enc Tryz.prog Tryz.f4 false true false false):=by
 refine returnsInHanded_of_change (C:=Tryz.checked) own started (by kernel_rfl) Tryz.func4
  (ChangeSpec.witness6 (enc:=enc) (C:=Tryz.checked) false ⟨#[],#[.agg #[.int .i64 0,.slice none 0 0,.slice none 0 0,.slice none 0 0,.slice none 0 0],.slice none 0 0],[]⟩ 8 (by kernel_rfl) (by kernel_rfl) (by kernel_rfl) (by kernel_rfl)) ?_
 intro W base args ds gs before hval0 hW hcnd _;have hval:∀(j:Nat) t v,Tryz.f4.params[j]? =some t→args[j]? =some v→Value.okWide Tryz.prog W .any base t v:=hval0;have hW':=hW;obtain⟨p,q,hA0,hV,rfl,hfz,hnd⟩:=hW;have hA:DataW.TrodAll enc Tryz.prog W 0 (λ_=>true) true Tryz.f4.params.toList args.toList ds p:=hA0;rw[Tryz.params4]at hA hval;obtain⟨v0,vs0,d0,ds0,p0,q0,hargs,rfl,rfl,h0,r0⟩:=trodAll_cons hA;obtain⟨v1,vs1,d1,ds1,p1,q1,rfl,rfl,rfl,h1,r1⟩:=trodAll_cons r0;obtain⟨rfl,rfl,rfl⟩:=trodAll_nil r1;obtain rfl:args=#[v0,v1]:=by cases args;simp_all
 obtain⟨rfl,rfl⟩:=trodVars_none hV;clear hA0 hval0;simp only[List.append_nil]at hW';obtain⟨fs0,hu0,_⟩:=T.fields25;obtain⟨cs0,rfl,hsz0⟩:=okWide_struct hu0 (hval 0 25 v0 rfl rfl);have h0k:=h0;obtain⟨fuel0,hfuel0⟩:=h0;obtain⟨f0,hl0,hf0⟩:=T.reads25 false fuel0 cs0.toList _ hfuel0;have hx0:XRel W (λb=>b<W.heap.size) noρ (.agg cs0) (.agg (f0.cells false)):=by
  refine .agg (by simpa using hl0) (λk hk=>?_) λk hk=>?_
  ·have:=(hf0 k (by rw[hl0];exact hk)).1;simpa[List.getD_eq_getElem?_getD,Array.getD_eq_getD_getElem?]using this
  have:=(hf0 k (by rw[hl0];exact hk)).2;exact .r (by simpa[List.getD_eq_getElem?_getD,Array.getD_eq_getD_getElem?]using this)
 obtain⟨b1,ln1,cp1,rfl⟩:=okWide_slice T.u22 (hval 1 22 v1 rfl rfl);have h1k:=h1;obtain⟨fuel1,hfuel1⟩:=h1;obtain⟨f1,hl1,hf1⟩:=T.reads22 false fuel1 [.slice b1 ln1 cp1] _ hfuel1;have hx1:XRel W (λb=>b<W.heap.size) noρ (.slice b1 ln1 cp1) (.lst false 1 (Is f1)):=.r (hf1 0 (by simp)).2;refine((T.law4 false f0 f1).calls W (λb=>b<W.heap.size) #[.agg cs0,.slice b1 ln1 cp1] (λ_ hb=>hb) rfl λk hk=>?_).mono λe W' ⟨v,o,he,hb,_,hres⟩=>?_
 ·match k,hk with
  |0,_=>exact hx0
  |1,_=>exact hx1
 subst he;obtain rfl:=true_of hres;have hlt:∀x∈p0++p1,x.block<W.heap.size:=λx hx=>by simpa using hW'.lt x (by simpa using hx)
 exact⟨_,rfl,_,_,_,[],_,[],hW',trodAll_cons_mk (shut_bool Tryz.underlying4 _) trodAll_mk0,trodAll_cons_mk (Below.trod laidOut (by kernel_rfl) (of_decide_eq_true (by kernel_rfl)) h0k hb.below (λx hx=>hlt x (by simp[hx]))) (trodAll_cons_mk (Below.trod laidOut (by kernel_rfl) (of_decide_eq_true (by kernel_rfl)) h1k hb.below (λx hx=>hlt x (by simp[hx]))) trodAll_mk0),rfl,
  hb.below.frame _,λh=>by cases h⟩
theorem Q25{a b:Bool}(h1:a=true)(h2:b=true):(a&&b)=true:=by rw[h1,h2];rfl
set_option maxRecDepth 100000 in
set_option maxHeartbeats 20000000 in
theorem Q41:joinedFacts Tryz.checked.prog 4 Tryz.f4 Rows.fnExactInvertedArrowsSpec Rows.fnExactInvertedArrowsRow=true:=by
 unfold joinedFacts;refine(Q25 (Q25 (Q25 (Q25 (Q25 (Q25 (Q25 (Q25 (Q25 (Q25 (Q25 (Q25 (Q25 (Q25 (Q25 (Q25 (Q25 (Q25 (Q25 (Q25 (Q25 (Q25 (Q25 (Q25 (Q25 (Q25 (Q25 (Q25 (Q25 (Q25 (Q25 ?_ ?_) ?_) ?_) ?_) ?_) ?_) ?_) ?_) ?_) ?_) ?_) ?_) ?_) ?_) ?_) ?_) ?_) ?_) ?_) ?_) ?_) ?_) ?_) ?_) ?_) ?_) ?_) ?_) ?_) ?_) ?_);all_goals decide+kernel
theorem Q4o:Rows.fnExactInvertedArrowsRow.holds Tryz.pinned (OpenSpec.ofChange Rows.fnExactInvertedArrowsSpec):=
 OpenClaim.holds_of_wide 4 Tryz.f4 rfl rfl rfl rfl rfl rfl rfl ⟨rfl,rfl,rfl,rfl,rfl⟩ rfl rfl rfl rfl rfl (by kernel_rfl) Tryz.func4 Q41
  (of_decide_eq_true (by kernel_rfl)) (by unfold Func.isWrapper;first|(rw[if_pos (by decide+kernel)];kernel_rfl)|(rw[if_neg (by decide+kernel)];exact⟨rfl,rfl⟩))
  (λos started H enc _=>Q42 os started H enc)
theorem inverted_arrows_holds:Rows.FnExactInvertedArrowsSaid:=Q4o
#print axioms inverted_arrows_holds
end Go.Proofs.YtgaeldalleellaaGreat
