/- FnExactIsContained: for all categories and queries that can be read, the law returns true: IsContained of the program answers as the reference does, and leaves its arguments as they were. Conditions: none beyond the given row's own. -/
import Derived.Test.YtllnbmfplpilcaaI14
import Derived.Test.YtllnbmfplpilcaaRows
import Derived.ProofKit
import Derived.OpenShut
import Derived.Carry
set_option maxRecDepth 100000
set_option maxHeartbeats 4000000
set_option linter.unusedSimpArgs false
set_option linter.unusedVariables false
set_option linter.unusedSectionVars false
set_option linter.unnecessarySimpa false

open List renaming getD_eq_getElem?_getD→qB
open Array renaming getD_eq_getD_getElem?→zE
namespace Go.Vc.T
open Go Go.Vc Go.Proofs
section
attribute [local simp] Qh QF Qs QT QE
section
variable {H:Type} {enc:TypeId × Value→H} {w:World}
theorem u2:Try.prog.underlying 2=some (.int .i64):=by kernel_rfl
theorem u22:Try.prog.underlying 22=some (.slice 2):=by kernel_rfl
theorem u23:Try.prog.underlying 23=some (.slice 22):=by kernel_rfl
theorem cc2:Try.prog.cellsOf 2=1:=by kernel_rfl
theorem cc22:Try.prog.cellsOf 22=1:=by kernel_rfl
theorem cc23:Try.prog.cellsOf 23=1:=by kernel_rfl
theorem Qa1:Q5M enc Try.prog w 2 (fun n:Int=>[iV n]):=reads_int u2
theorem Q54 (u:Bool):Q5M enc Try.prog w 22 (fun xs:List Int=>[.lst u 1 (Is xs)]):=Q4r u u22 cc2 (by decide) (fun _=>rfl) Qa1
theorem reads23 (u:Bool):Q5M enc Try.prog w 23 (fun xs:List (List Int)=>[.lst u 1 (Ls xs)]):=Q4r u u23 cc22 (by decide) (fun _=>rfl) (Q54 true)
def flds (P:Program) (t:TypeId):Option (List (Nat × TypeId)):=match P.underlying t with
 | some (.struct fs)=>some (fs.toList.map fun f=>(f.offset,f.type))
 | _=>none
theorem Q8B {P:Program} {t:TypeId} {l:List (Nat × TypeId)} (h:flds P t=some l):∃ fs,P.underlying t=some (.struct fs)∧fs.toList.map (fun f=>(f.offset,f.type))=l:=by
 unfold flds at h;split at h
 ·rename_i fs hfs;exact ⟨fs,hfs,by simpa using h⟩
 cases h
theorem Q21 {fs:Array Field} {l:List (Nat × TypeId)} (h:fs.toList.map (fun f=>(f.offset,f.type))=l) {i o:Nat} {t:TypeId} (hi:l[i]? = some (o,t)):∃ f,fs[i]? = some f∧f.offset=o∧f.type=t:=by
 rw [← h,List.getElem?_map] at hi;obtain ⟨f,hf,he⟩:=Option.map_eq_some_iff.1 hi;simp only [Prod.mk.injEq] at he;exact ⟨f,by simpa using hf,he.1,he.2⟩
end
theorem Q8A {P:Nat→Prop}:∀ k,k<0→P k:=fun k hk=>absurd hk (Nat.not_lt_zero k)
theorem Q2I {P:Nat→Prop} {n:Nat} (h:∀ k,k<n→P k) (hn:P n):∀ k,k<n+1→P k:=by
 intro k hk;rcases Nat.lt_or_ge k n with h1|h1
 ·exact h k h1
 have:k=n:=by omega
 subst this;exact hn
theorem cc25:Try.prog.cellsOf 25=5:=by kernel_rfl
theorem fields25:∃ fs,Try.prog.underlying 25=some (.struct fs)∧fs.toList.map (fun f=>(f.offset,f.type))=[(0,2),(1,22),(2,22),(3,22),(4,23)]:=Q8B (by kernel_rfl)
theorem reads25 {H:Type} {enc:TypeId × Value→H} {w:World} (u:Bool):Q5M enc Try.prog w 25 (Cat.cells u):=by
 intro fuel cs x h;obtain ⟨fs,hu,hf⟩:=fields25;obtain ⟨xs,n,_,_,hl,hx,hh⟩:=DataW.trod_struct hu h;rw [cc25] at hl;obtain ⟨f0,e0,o0,t0⟩:=Q21 hf (i:=0) rfl;obtain ⟨f1,e1,o1,t1⟩:=Q21 hf (i:=1) rfl;obtain ⟨f2,e2,o2,t2⟩:=Q21 hf (i:=2) rfl;obtain ⟨f3,e3,o3,t3⟩:=Q21 hf (i:=3) rfl;obtain ⟨f4,e4,o4,t4⟩:=Q21 hf (i:=4) rfl;obtain ⟨a0,_,r0⟩:=Q17 hx hh e0 t0 cc2 (by omega) Qa1;obtain ⟨a1,_,r1⟩:=Q17 hx hh e1 t1 cc22 (by omega) (Q54 u);obtain ⟨a2,_,r2⟩:=Q17 hx hh e2 t2 cc22 (by omega) (Q54 u);obtain ⟨a3,_,r3⟩:=Q17 hx hh e3 t3 cc22 (by omega) (Q54 u);obtain ⟨a4,_,r4⟩:=Q17 hx hh e4 t4 cc23 (by omega) (reads23 u);refine ⟨⟨a0,a1,a2,a3,a4⟩,by simp [Cat.cells,hl],?_⟩;rw [hl];refine Q2I ?_ (by simpa [o4,Cat.cells] using r4 0 (by omega));refine Q2I ?_ (by simpa [o3,Cat.cells] using r3 0 (by omega));refine Q2I ?_ (by simpa [o2,Cat.cells] using r2 0 (by omega));refine Q2I ?_ (by simpa [o1,Cat.cells] using r1 0 (by omega));refine Q2I ?_ (by simpa [o0,Cat.cells] using r0 0 (by omega));exact Q8A
theorem cc102:Try.prog.cellsOf 102=2:=by kernel_rfl
theorem fields102:∃ fs,Try.prog.underlying 102=some (.struct fs)∧fs.toList.map (fun f=>(f.offset,f.type))=[(0,2),(1,2)]:=Q8B (by kernel_rfl)
theorem reads102 {H:Type} {enc:TypeId × Value→H} {w:World} (u:Bool):Q5M enc Try.prog w 102 (XTerm.cells u):=by
 intro fuel cs x h;obtain ⟨fs,hu,hf⟩:=fields102;obtain ⟨xs,n,_,_,hl,hx,hh⟩:=DataW.trod_struct hu h;rw [cc102] at hl;obtain ⟨f0,e0,o0,t0⟩:=Q21 hf (i:=0) rfl;obtain ⟨f1,e1,o1,t1⟩:=Q21 hf (i:=1) rfl;obtain ⟨a0,_,r0⟩:=Q17 hx hh e0 t0 cc2 (by omega) Qa1;obtain ⟨a1,_,r1⟩:=Q17 hx hh e1 t1 cc2 (by omega) Qa1;refine ⟨⟨a0,a1⟩,by simp [XTerm.cells,hl],?_⟩;rw [hl];refine Q2I ?_ (by simpa [o1,XTerm.cells] using r1 0 (by omega));refine Q2I ?_ (by simpa [o0,XTerm.cells] using r0 0 (by omega));exact Q8A
theorem un26:Try.prog.underlying 26=some (.slice 102):=by kernel_rfl
theorem cc26:Try.prog.cellsOf 26=1:=by kernel_rfl
theorem reads26 {H:Type} {enc:TypeId × Value→H} {w:World} (u:Bool):Q5M enc Try.prog w 26 (fun xs:List XTerm=>[.lst u 2 (Es (XTerm.cells true) xs)]):=Q4r u un26 cc102 (by decide) (fun _=>rfl) (reads102 true)
theorem cc28:Try.prog.cellsOf 28=4:=by kernel_rfl
theorem fields28:∃ fs,Try.prog.underlying 28=some (.struct fs)∧fs.toList.map (fun f=>(f.offset,f.type))=[(0,22),(1,26),(2,26),(3,22)]:=Q8B (by kernel_rfl)
theorem reads28 {H:Type} {enc:TypeId × Value→H} {w:World} (u:Bool):Q5M enc Try.prog w 28 (XQuery.cells u):=by
 intro fuel cs x h;obtain ⟨fs,hu,hf⟩:=fields28;obtain ⟨xs,n,_,_,hl,hx,hh⟩:=DataW.trod_struct hu h;rw [cc28] at hl;obtain ⟨f0,e0,o0,t0⟩:=Q21 hf (i:=0) rfl;obtain ⟨f1,e1,o1,t1⟩:=Q21 hf (i:=1) rfl;obtain ⟨f2,e2,o2,t2⟩:=Q21 hf (i:=2) rfl;obtain ⟨f3,e3,o3,t3⟩:=Q21 hf (i:=3) rfl;obtain ⟨a0,_,r0⟩:=Q17 hx hh e0 t0 cc22 (by omega) (Q54 u);obtain ⟨a1,_,r1⟩:=Q17 hx hh e1 t1 cc26 (by omega) (reads26 u);obtain ⟨a2,_,r2⟩:=Q17 hx hh e2 t2 cc26 (by omega) (reads26 u);obtain ⟨a3,_,r3⟩:=Q17 hx hh e3 t3 cc22 (by omega) (Q54 u);refine ⟨⟨a0,a1,a2,a3⟩,by simp [XQuery.cells,hl],?_⟩;rw [hl];refine Q2I ?_ (by simpa [o3,XQuery.cells] using r3 0 (by omega));refine Q2I ?_ (by simpa [o2,XQuery.cells] using r2 0 (by omega));refine Q2I ?_ (by simpa [o1,XQuery.cells] using r1 0 (by omega));refine Q2I ?_ (by simpa [o0,XQuery.cells] using r0 0 (by omega));exact Q8A
end
end Go.Vc.T
namespace Go.Proofs.Ytllnbmfplpilcaa
open Go.ChangeShapes Go.WideShapes Go.ChangeAt Go.RowKit Go.Vc
theorem own:ownKnob Try.prog.godebug=none:=by kernel_rfl
theorem Q8J:laidOutB Try.prog=true:=by kernel_rfl
theorem true_of {w':World} {o:Nat→Option (List Nat)} {v:Value} (h:Res w' o v (.val (.bool true))):v = .bool true:=by
 have h1:Vc.one v:=h.sh;have h2:=h.cell 0 (by decide);have e:(Q2a v).getD 0 undef=v:=by
  have:Q2a v=[v]:=by
   revert h1
   unfold Vc.one Value.oneCell';cases v<;>simp [Q2a,Value.cells]
  rw [this];rfl
 rw [e] at h2;cases h2 with
 | val=>rfl
end Go.Proofs.Ytllnbmfplpilcaa
namespace Go.Proofs.Ytllnbmfplpilcaa
open Go.ChangeShapes Go.WideShapes Go.ChangeAt Go.RowKit Go.Vc
set_option maxRecDepth 100000 in
theorem Q4q (os:Os) (started:os.Started) (H:Type) (enc:TypeId × Value→H) :
  ReturnsInHanded {} Try.checked os 5 .any (Rows.fnExactIsContainedSpec.pre6 enc Try.prog Try.f5 Rows.fnExactIsContainedRow.domain false) (Rows.fnExactIsContainedSpec.post enc Try.prog Try.f5 false true false false):=by
 refine returnsInHanded_of_change (C:=Try.checked) own started (by kernel_rfl) Try.func5
  (ChangeSpec.witness6 (enc:=enc) (C:=Try.checked) false ⟨#[],#[.agg #[.int .i64 0,.slice none 0 0,.slice none 0 0,.slice none 0 0,.slice none 0 0],.agg #[.slice none 0 0,.slice none 0 0,.slice none 0 0,.slice none 0 0],.agg #[.slice none 0 0,.slice none 0 0,.slice none 0 0,.slice none 0 0]],[]⟩ 8 (by kernel_rfl) (by kernel_rfl) (by kernel_rfl) (by kernel_rfl)) ?_
 intro W base args ds gs before hval0 hW hcnd _;have hval:∀ (j:Nat) t v,Try.f5.params[j]? = some t→args[j]? = some v→Value.okWide Try.prog W .any base t v:=hval0;have hW':=hW;obtain ⟨p,q,hA0,hV,rfl,hfz,hnd⟩:=hW;have hA:DataW.TrodAll enc Try.prog W 0 (fun _=>true) true Try.f5.params.toList args.toList ds p:=hA0;rw [Try.params5] at hA hval;obtain ⟨v0,vs0,d0,ds0,p0,q0,hargs,rfl,rfl,h0,r0⟩:=trodAll_cons hA;obtain ⟨v1,vs1,d1,ds1,p1,q1,rfl,rfl,rfl,h1,r1⟩:=trodAll_cons r0;obtain ⟨v2,vs2,d2,ds2,p2,q2,rfl,rfl,rfl,h2,r2⟩:=trodAll_cons r1;obtain ⟨rfl,rfl,rfl⟩:=trodAll_nil r2;obtain rfl:args = #[v0,v1,v2]:=by cases args;simp_all
 obtain ⟨rfl,rfl⟩:=trodVars_none hV;clear hA0 hval0;simp only [List.append_nil] at hW';obtain ⟨fs0,hu0,_⟩:=T.fields25;obtain ⟨cs0,rfl,hsz0⟩:=okWide_struct hu0 (hval 0 25 v0 rfl rfl);have h0k:=h0;obtain ⟨fuel0,hfuel0⟩:=h0;obtain ⟨f0,hl0,hf0⟩:=T.reads25 false fuel0 cs0.toList _ hfuel0;have hx0:XRel W (fun b=>b<W.heap.size) noρ (.agg cs0) (.agg (f0.cells false)):=by
  refine .agg (by simpa using hl0) (fun k hk=>?_) fun k hk=>?_
  ·have:=(hf0 k (by rw [hl0];exact hk)).1;simpa [qB,zE] using this
  have:=(hf0 k (by rw [hl0];exact hk)).2;exact .r (by simpa [qB,zE] using this)
 obtain ⟨fs1,hu1,_⟩:=T.fields28;obtain ⟨cs1,rfl,hsz1⟩:=okWide_struct hu1 (hval 1 28 v1 rfl rfl);have h1k:=h1;obtain ⟨fuel1,hfuel1⟩:=h1;obtain ⟨f1,hl1,hf1⟩:=T.reads28 false fuel1 cs1.toList _ hfuel1;have hx1:XRel W (fun b=>b<W.heap.size) noρ (.agg cs1) (.agg (f1.cells false)):=by
  refine .agg (by simpa using hl1) (fun k hk=>?_) fun k hk=>?_
  ·have:=(hf1 k (by rw [hl1];exact hk)).1;simpa [qB,zE] using this
  have:=(hf1 k (by rw [hl1];exact hk)).2;exact .r (by simpa [qB,zE] using this)
 obtain ⟨fs2,hu2,_⟩:=T.fields28;obtain ⟨cs2,rfl,hsz2⟩:=okWide_struct hu2 (hval 2 28 v2 rfl rfl);have h2k:=h2;obtain ⟨fuel2,hfuel2⟩:=h2;obtain ⟨f2,hl2,hf2⟩:=T.reads28 false fuel2 cs2.toList _ hfuel2;have hx2:XRel W (fun b=>b<W.heap.size) noρ (.agg cs2) (.agg (f2.cells false)):=by
  refine .agg (by simpa using hl2) (fun k hk=>?_) fun k hk=>?_
  ·have:=(hf2 k (by rw [hl2];exact hk)).1;simpa [qB,zE] using this
  have:=(hf2 k (by rw [hl2];exact hk)).2;exact .r (by simpa [qB,zE] using this)
 refine ((T.law5 false f0 f1 f2).calls W (fun b=>b<W.heap.size) #[.agg cs0,.agg cs1,.agg cs2] (fun _ hb=>hb) rfl fun k hk=>?_).mono fun e W' ⟨v,o,he,hb,_,hres⟩=>?_
 ·match k,hk with
  | 0,_=>exact hx0
  | 1,_=>exact hx1
  | 2,_=>exact hx2
 subst he;obtain rfl:=true_of hres;have hlt:∀ x∈p0++p1++p2,x.block<W.heap.size:=fun x hx=>by simpa using hW'.lt x (by simpa using hx)
 exact ⟨_,rfl,_,_,_,[],_,[],hW',trodAll_cons_mk (shut_bool Try.underlying4 _) trodAll_mk0,trodAll_cons_mk (Below.trod Q8J (by kernel_rfl) (of_decide_eq_true (by kernel_rfl)) h0k hb.below (fun x hx=>hlt x (by simp [hx]))) (trodAll_cons_mk (Below.trod Q8J (by kernel_rfl) (of_decide_eq_true (by kernel_rfl)) h1k hb.below (fun x hx=>hlt x (by simp [hx]))) (trodAll_cons_mk (Below.trod Q8J (by kernel_rfl) (of_decide_eq_true (by kernel_rfl)) h2k hb.below (fun x hx=>hlt x (by simp [hx]))) trodAll_mk0)),rfl,
  hb.below.frame _,fun h=>by cases h⟩
theorem Q1V {a b:Bool} (h1:a=true) (h2:b=true):(a && b)=true:=by rw [h1,h2];rfl
set_option maxRecDepth 100000 in
set_option maxHeartbeats 20000000 in
theorem Q4p:joinedFacts Try.checked.prog 5 Try.f5 Rows.fnExactIsContainedSpec Rows.fnExactIsContainedRow=true:=by
 unfold joinedFacts;refine (Q1V (Q1V (Q1V (Q1V (Q1V (Q1V (Q1V (Q1V (Q1V (Q1V (Q1V (Q1V (Q1V (Q1V (Q1V (Q1V (Q1V (Q1V (Q1V (Q1V (Q1V (Q1V (Q1V (Q1V (Q1V (Q1V (Q1V (Q1V (Q1V (Q1V (Q1V ?_ ?_) ?_) ?_) ?_) ?_) ?_) ?_) ?_) ?_) ?_) ?_) ?_) ?_) ?_) ?_) ?_) ?_) ?_) ?_) ?_) ?_) ?_) ?_) ?_) ?_) ?_) ?_) ?_) ?_) ?_) ?_);all_goals decide +kernel
theorem Q51:Rows.fnExactIsContainedRow.holds Try.pinned (OpenSpec.ofChange Rows.fnExactIsContainedSpec) :=
 OpenClaim.holds_of_wide 5 Try.f5 rfl rfl rfl rfl rfl rfl rfl ⟨rfl,rfl,rfl,rfl,rfl⟩ rfl rfl rfl rfl rfl (by kernel_rfl) Try.func5 Q4p
  (of_decide_eq_true (by kernel_rfl)) (by unfold Func.isWrapper;first|(rw [if_pos (by decide +kernel)];kernel_rfl)|(rw [if_neg (by decide +kernel)];exact ⟨rfl,rfl⟩))
  (fun os started H enc _=>Q4q os started H enc)
theorem is_contained_holds:Rows.FnExactIsContainedSaid:=Q51
#print axioms is_contained_holds
end Go.Proofs.Ytllnbmfplpilcaa
