/- FnExactCoequalizerSets: for all .. that can be read, the law returns true: CoequalizerSets of the program returns what the reference's returns, refuses what it refuses, leaves its arguments as they were, and hands back memory that it shares with nothing; the goroutines that it starts, in whatever order they move, race with nothing and only leave at its end. Conditions: none beyond the given row's own. -/
import Derived.Test.YtghefemofbipnaaGreatX24
import Derived.Test.YtghefemofbipnaaGreatRows
import Derived.ProofKit
import Derived.OpenShut
import Derived.Carry
import Derived.Conc.LeavingOf
set_option maxRecDepth 100000
set_option maxHeartbeats 4000000
set_option linter.unusedSimpArgs false
set_option linter.unusedVariables false
set_option linter.unusedSectionVars false
set_option linter.unnecessarySimpa false

open List renaming getD_eq_getElem?_getD→qG
open Array renaming getD_eq_getD_getElem?→zN
namespace Go.Vc.T
open Go Go.Vc Go.Proofs
section
attribute [local simp] Qd Qt Ql QS Qv
section
variable {H:Type} {enc:TypeId × Value→H} {w:World}
theorem u2:Tryz.prog.underlying 2=some (.int .i64):=by kernel_rfl
theorem u22:Tryz.prog.underlying 22=some (.slice 2):=by kernel_rfl
theorem u23:Tryz.prog.underlying 23=some (.slice 22):=by kernel_rfl
theorem cc2:Tryz.prog.cellsOf 2=1:=by kernel_rfl
theorem cc22:Tryz.prog.cellsOf 22=1:=by kernel_rfl
theorem cc23:Tryz.prog.cellsOf 23=1:=by kernel_rfl
theorem reads2:Q5O enc Tryz.prog w 2 (fun n:Int=>[iV n]):=reads_int u2
theorem Q5v (u:Bool):Q5O enc Tryz.prog w 22 (fun xs:List Int=>[.lst u 1 (Is xs)]):=Q5w u u22 cc2 (by decide) (fun _=>rfl) reads2
theorem Q8d (u:Bool):Q5O enc Tryz.prog w 23 (fun xs:List (List Int)=>[.lst u 1 (Ls xs)]):=Q5w u u23 cc22 (by decide) (fun _=>rfl) (Q5v true)
def flds (P:Program) (t:TypeId):Option (List (Nat × TypeId)):=match P.underlying t with
 | some (.struct fs)=>some (fs.toList.map fun f=>(f.offset,f.type))
 | _=>none
theorem Q7Y {P:Program} {t:TypeId} {l:List (Nat × TypeId)} (h:flds P t=some l):∃ fs,P.underlying t=some (.struct fs)∧fs.toList.map (fun f=>(f.offset,f.type))=l:=by
 unfold flds at h;split at h
 ·rename_i fs hfs;exact ⟨fs,hfs,by simpa using h⟩
 cases h
theorem Q1J {fs:Array Field} {l:List (Nat × TypeId)} (h:fs.toList.map (fun f=>(f.offset,f.type))=l) {i o:Nat} {t:TypeId} (hi:l[i]? = some (o,t)):∃ f,fs[i]? = some f∧f.offset=o∧f.type=t:=by
 rw [← h,List.getElem?_map] at hi;obtain ⟨f,hf,he⟩:=Option.map_eq_some_iff.1 hi;simp only [Prod.mk.injEq] at he;exact ⟨f,by simpa using hf,he.1,he.2⟩
end
theorem Q7X {P:Nat→Prop}:∀ k,k<0→P k:=fun k hk=>absurd hk (Nat.not_lt_zero k)
theorem QJ {P:Nat→Prop} {n:Nat} (h:∀ k,k<n→P k) (hn:P n):∀ k,k<n+1→P k:=by
 intro k hk;rcases Nat.lt_or_ge k n with h1|h1
 ·exact h k h1
 have:k=n:=by omega
 subst this;exact hn
theorem cc25:Tryz.prog.cellsOf 25=5:=by kernel_rfl
theorem fields25:∃ fs,Tryz.prog.underlying 25=some (.struct fs)∧fs.toList.map (fun f=>(f.offset,f.type))=[(0,2),(1,22),(2,22),(3,22),(4,23)]:=Q7Y (by kernel_rfl)
theorem reads25 {H:Type} {enc:TypeId × Value→H} {w:World} (u:Bool):Q5O enc Tryz.prog w 25 (Cat.cells u):=by
 intro fuel cs x h;obtain ⟨fs,hu,hf⟩:=fields25;obtain ⟨xs,n,_,_,hl,hx,hh⟩:=DataW.trod_struct hu h;rw [cc25] at hl;obtain ⟨f0,e0,o0,t0⟩:=Q1J hf (i:=0) rfl;obtain ⟨f1,e1,o1,t1⟩:=Q1J hf (i:=1) rfl;obtain ⟨f2,e2,o2,t2⟩:=Q1J hf (i:=2) rfl;obtain ⟨f3,e3,o3,t3⟩:=Q1J hf (i:=3) rfl;obtain ⟨f4,e4,o4,t4⟩:=Q1J hf (i:=4) rfl;obtain ⟨a0,_,r0⟩:=QY hx hh e0 t0 cc2 (by omega) reads2;obtain ⟨a1,_,r1⟩:=QY hx hh e1 t1 cc22 (by omega) (Q5v u);obtain ⟨a2,_,r2⟩:=QY hx hh e2 t2 cc22 (by omega) (Q5v u);obtain ⟨a3,_,r3⟩:=QY hx hh e3 t3 cc22 (by omega) (Q5v u);obtain ⟨a4,_,r4⟩:=QY hx hh e4 t4 cc23 (by omega) (Q8d u);refine ⟨⟨a0,a1,a2,a3,a4⟩,by simp [Cat.cells,hl],?_⟩;rw [hl];refine QJ ?_ (by simpa [o4,Cat.cells] using r4 0 (by omega));refine QJ ?_ (by simpa [o3,Cat.cells] using r3 0 (by omega));refine QJ ?_ (by simpa [o2,Cat.cells] using r2 0 (by omega));refine QJ ?_ (by simpa [o1,Cat.cells] using r1 0 (by omega));refine QJ ?_ (by simpa [o0,Cat.cells] using r0 0 (by omega));exact Q7X
theorem cc27:Tryz.prog.cellsOf 27=7:=by kernel_rfl
theorem fields27:∃ fs,Tryz.prog.underlying 27=some (.struct fs)∧fs.toList.map (fun f=>(f.offset,f.type))=[(0,25),(5,22),(6,23)]:=Q7Y (by kernel_rfl)
theorem reads27 {H:Type} {enc:TypeId × Value→H} {w:World} (u:Bool):Q5O enc Tryz.prog w 27 (SF.cells u):=by
 intro fuel cs x h;obtain ⟨fs,hu,hf⟩:=fields27;obtain ⟨xs,n,_,_,hl,hx,hh⟩:=DataW.trod_struct hu h;rw [cc27] at hl;obtain ⟨f0,e0,o0,t0⟩:=Q1J hf (i:=0) rfl;obtain ⟨f1,e1,o1,t1⟩:=Q1J hf (i:=1) rfl;obtain ⟨f2,e2,o2,t2⟩:=Q1J hf (i:=2) rfl;obtain ⟨a0,_,r0⟩:=QY hx hh e0 t0 cc25 (by omega) (reads25 u);obtain ⟨a1,_,r1⟩:=QY hx hh e1 t1 cc22 (by omega) (Q5v u);obtain ⟨a2,_,r2⟩:=QY hx hh e2 t2 cc23 (by omega) (Q8d u);refine ⟨⟨a0,a1,a2⟩,by simp [SF.cells,hl],?_⟩;rw [hl];refine QJ ?_ (by simpa [o2,SF.cells] using r2 0 (by omega));refine QJ ?_ (by simpa [o1,SF.cells] using r1 0 (by omega));refine QJ ?_ (by simpa [o0,SF.cells,Cat.cells] using r0 4 (by omega));refine QJ ?_ (by simpa [o0,SF.cells,Cat.cells] using r0 3 (by omega));refine QJ ?_ (by simpa [o0,SF.cells,Cat.cells] using r0 2 (by omega));refine QJ ?_ (by simpa [o0,SF.cells,Cat.cells] using r0 1 (by omega));refine QJ ?_ (by simpa [o0,SF.cells,Cat.cells] using r0 0 (by omega));exact Q7X
theorem cc48:Tryz.prog.cellsOf 48=15:=by kernel_rfl
theorem fields48:∃ fs,Tryz.prog.underlying 48=some (.struct fs)∧fs.toList.map (fun f=>(f.offset,f.type))=[(0,27),(7,27),(14,23)]:=Q7Y (by kernel_rfl)
theorem reads48 {H:Type} {enc:TypeId × Value→H} {w:World} (u:Bool):Q5O enc Tryz.prog w 48 (SM.cells u):=by
 intro fuel cs x h;obtain ⟨fs,hu,hf⟩:=fields48;obtain ⟨xs,n,_,_,hl,hx,hh⟩:=DataW.trod_struct hu h;rw [cc48] at hl;obtain ⟨f0,e0,o0,t0⟩:=Q1J hf (i:=0) rfl;obtain ⟨f1,e1,o1,t1⟩:=Q1J hf (i:=1) rfl;obtain ⟨f2,e2,o2,t2⟩:=Q1J hf (i:=2) rfl;obtain ⟨a0,_,r0⟩:=QY hx hh e0 t0 cc27 (by omega) (reads27 u);obtain ⟨a1,_,r1⟩:=QY hx hh e1 t1 cc27 (by omega) (reads27 u);obtain ⟨a2,_,r2⟩:=QY hx hh e2 t2 cc23 (by omega) (Q8d u);refine ⟨⟨a0,a1,a2⟩,by simp [SM.cells,hl],?_⟩;rw [hl];refine QJ ?_ (by simpa [o2,SM.cells] using r2 0 (by omega));refine QJ ?_ (by simpa [o1,SM.cells,SF.cells] using r1 6 (by omega));refine QJ ?_ (by simpa [o1,SM.cells,SF.cells] using r1 5 (by omega));refine QJ ?_ (by simpa [o1,SM.cells,SF.cells] using r1 4 (by omega));refine QJ ?_ (by simpa [o1,SM.cells,SF.cells] using r1 3 (by omega));refine QJ ?_ (by simpa [o1,SM.cells,SF.cells] using r1 2 (by omega));refine QJ ?_ (by simpa [o1,SM.cells,SF.cells] using r1 1 (by omega));refine QJ ?_ (by simpa [o1,SM.cells,SF.cells] using r1 0 (by omega));refine QJ ?_ (by simpa [o0,SM.cells,SF.cells] using r0 6 (by omega));refine QJ ?_ (by simpa [o0,SM.cells,SF.cells] using r0 5 (by omega));refine QJ ?_ (by simpa [o0,SM.cells,SF.cells] using r0 4 (by omega));refine QJ ?_ (by simpa [o0,SM.cells,SF.cells] using r0 3 (by omega));refine QJ ?_ (by simpa [o0,SM.cells,SF.cells] using r0 2 (by omega));refine QJ ?_ (by simpa [o0,SM.cells,SF.cells] using r0 1 (by omega));refine QJ ?_ (by simpa [o0,SM.cells,SF.cells] using r0 0 (by omega));exact Q7X
end
end Go.Vc.T
namespace Go.Proofs.YtghefemofbipnaaGreat
open Go.ChangeShapes Go.WideShapes Go.ChangeAt Go.RowKit Go.Vc
theorem own:ownKnob Tryz.prog.godebug=none:=by kernel_rfl
theorem laidOut:laidOutB Tryz.prog=true:=by kernel_rfl
theorem true_of {w':World} {o:Nat→Option (List Nat)} {v:Value} (h:Res w' o v (.val (.bool true))):v = .bool true:=by
 have h1:Vc.one v:=h.sh;have h2:=h.cell 0 (by decide);have e:(Q1P v).getD 0 undef=v:=by
  have:Q1P v=[v]:=by
   revert h1
   unfold Vc.one Value.oneCell';cases v<;>simp [Q1P,Value.cells]
  rw [this];rfl
 rw [e] at h2;cases h2 with
 | val=>rfl
end Go.Proofs.YtghefemofbipnaaGreat
namespace Go.Proofs.YtghefemofbipnaaGreat
open Go.ChangeShapes Go.WideShapes Go.ChangeAt Go.RowKit Go.Vc
set_option maxRecDepth 100000 in
theorem Q2S (os:Os) (started:os.Started) (H:Type) (enc:TypeId × Value→H) :
  ReturnsInLeavingWide {} Tryz.checked os 4 .any (Rows.fnExactCoequalizerSetsSpec.pre6 enc Tryz.prog Tryz.f4 Rows.fnExactCoequalizerSetsRow.domain false) (Rows.fnExactCoequalizerSetsSpec.post enc Tryz.prog Tryz.f4 false true false false):=by
 refine returnsInLeavingWide_of_change_sized (C:=Tryz.checked) own started Tryz.func4
  (ChangeSpec.witness6 (enc:=enc) (C:=Tryz.checked) false ⟨#[],#[.agg #[.int .i64 0,.slice none 0 0,.slice none 0 0,.slice none 0 0,.slice none 0 0,.slice none 0 0,.slice none 0 0,.int .i64 0,.slice none 0 0,.slice none 0 0,.slice none 0 0,.slice none 0 0,.slice none 0 0,.slice none 0 0,.slice none 0 0],.agg #[.int .i64 0,.slice none 0 0,.slice none 0 0,.slice none 0 0,.slice none 0 0,.slice none 0 0,.slice none 0 0,.int .i64 0,.slice none 0 0,.slice none 0 0,.slice none 0 0,.slice none 0 0,.slice none 0 0,.slice none 0 0,.slice none 0 0]],[]⟩ 8 (by kernel_rfl) (by kernel_rfl) (by kernel_rfl) (by kernel_rfl)) ?_
 intro W base args ds gs before hval0 hW hcnd _ _;have hfz:∀ b,b<W.heap.size→b<W.heap.size∧SameC W (Go.Vc.Ph.frz W) b:=fun b hb=>⟨hb,frz_same W b⟩;have hval:∀ (j:Nat) t v,Tryz.f4.params[j]? = some t→args[j]? = some v→Value.okWide Tryz.prog W .any base t v:=hval0;have hW':=hW;obtain ⟨p,q,hA0,hV,rfl,_,_⟩:=hW;have hA:DataW.TrodAll enc Tryz.prog W 0 (fun _=>true) true Tryz.f4.params.toList args.toList ds p:=hA0;rw [Tryz.params4] at hA hval;obtain ⟨v0,vs0,d0,ds0,p0,q0,hargs,rfl,rfl,h0,r0⟩:=trodAll_cons hA;obtain ⟨v1,vs1,d1,ds1,p1,q1,rfl,rfl,rfl,h1,r1⟩:=trodAll_cons r0;obtain ⟨rfl,rfl,rfl⟩:=trodAll_nil r1;obtain rfl:args = #[v0,v1]:=by cases args;simp_all
 obtain ⟨rfl,rfl⟩:=trodVars_none hV;clear hA0 hval0;simp only [List.append_nil] at hW';obtain ⟨fs0,hu0,_⟩:=T.fields48;obtain ⟨cs0,rfl,hsz0⟩:=okWide_struct hu0 (hval 0 48 v0 rfl rfl);have h0k:=h0;obtain ⟨fuel0,hfuel0⟩:=h0;obtain ⟨f0,hl0,hf0⟩:=T.reads48 false fuel0 cs0.toList _ hfuel0;have hx0:XRel (Go.Vc.Ph.frz W) (fun b=>b<W.heap.size) noρ (.agg cs0) (.agg (f0.cells false)):=by
  refine .agg (by simpa using hl0) (fun k hk=>?_) fun k hk=>?_
  ·have:=(hf0 k (by rw [hl0];exact hk)).1;simpa [qG,zN] using this
  have:=(hf0 k (by rw [hl0];exact hk)).2;have hn:∀ c∈f0.cells false,NoM c:=by simp [T.SM.cells,T.SF.cells,T.Cat.cells]
  exact .r (RRel.view hfz (by simpa [qG,zN] using this) (hn _ (Q2f hk)))
 obtain ⟨fs1,hu1,_⟩:=T.fields48;obtain ⟨cs1,rfl,hsz1⟩:=okWide_struct hu1 (hval 1 48 v1 rfl rfl);have h1k:=h1;obtain ⟨fuel1,hfuel1⟩:=h1;obtain ⟨f1,hl1,hf1⟩:=T.reads48 false fuel1 cs1.toList _ hfuel1;have hx1:XRel (Go.Vc.Ph.frz W) (fun b=>b<W.heap.size) noρ (.agg cs1) (.agg (f1.cells false)):=by
  refine .agg (by simpa using hl1) (fun k hk=>?_) fun k hk=>?_
  ·have:=(hf1 k (by rw [hl1];exact hk)).1;simpa [qG,zN] using this
  have:=(hf1 k (by rw [hl1];exact hk)).2;have hn:∀ c∈f1.cells false,NoM c:=by simp [T.SM.cells,T.SF.cells,T.Cat.cells]
  exact .r (RRel.view hfz (by simpa [qG,zN] using this) (hn _ (Q2f hk)))
 letI:Kd Tryz.prog:=KdM Tryz.prog W (fun b=>b<W.heap.size) (fun v W'=>Rows.fnExactCoequalizerSetsSpec.post enc Tryz.prog Tryz.f4 false true false false W #[.agg cs0,.agg cs1] v W')
 haveI:Eo Tryz.prog:=⟨⟨_,_,_,rfl⟩⟩
 refine main_run (by kernel_rfl) ((T.law4 false f0 f1).calls (Go.Vc.Ph.frz W) (fun b=>b<W.heap.size) #[.agg cs0,.agg cs1] (fun _ hb=>by rw [Go.Vc.Ph.frz_size];exact hb) rfl fun k hk=>?_) fun v w' hq=>?_
 ·match k,hk with
  | 0,_=>exact hx0
  | 1,_=>exact hx1
 obtain ⟨v',o,he,hb,_,hres⟩:=hq;cases he;obtain rfl:=true_of hres;refine ⟨hb,fun W' BW=>?_⟩;have hlt:∀ x∈p0++p1,x.block<W.heap.size:=fun x hx=>by simpa using hW'.lt x (by simpa using hx)
 exact ⟨_,_,_,[],_,[],hW',trodAll_cons_mk (shut_bool Tryz.underlying4 _) trodAll_mk0,trodAll_cons_mk (Below.trod laidOut (by kernel_rfl) (of_decide_eq_true (by kernel_rfl)) h0k BW (fun x hx=>hlt x (by simp [hx]))) (trodAll_cons_mk (Below.trod laidOut (by kernel_rfl) (of_decide_eq_true (by kernel_rfl)) h1k BW (fun x hx=>hlt x (by simp [hx]))) trodAll_mk0),rfl,
  BW.frame _,fun h=>by cases h⟩
theorem Q1A {a b:Bool} (h1:a=true) (h2:b=true):(a && b)=true:=by rw [h1,h2];rfl
set_option maxRecDepth 100000 in
set_option maxHeartbeats 20000000 in
theorem Q2R:joinedFacts Tryz.checked.prog 4 Tryz.f4 Rows.fnExactCoequalizerSetsSpec Rows.fnExactCoequalizerSetsRow=true:=by
 unfold joinedFacts;refine (Q1A (Q1A (Q1A (Q1A (Q1A (Q1A (Q1A (Q1A (Q1A (Q1A (Q1A (Q1A (Q1A (Q1A (Q1A (Q1A (Q1A (Q1A (Q1A (Q1A (Q1A (Q1A (Q1A (Q1A (Q1A (Q1A (Q1A (Q1A (Q1A (Q1A (Q1A ?_ ?_) ?_) ?_) ?_) ?_) ?_) ?_) ?_) ?_) ?_) ?_) ?_) ?_) ?_) ?_) ?_) ?_) ?_) ?_) ?_) ?_) ?_) ?_) ?_) ?_) ?_) ?_) ?_) ?_) ?_) ?_);all_goals decide +kernel
theorem Q3c:Rows.fnExactCoequalizerSetsRow.holds Tryz.pinned (OpenSpec.ofChange Rows.fnExactCoequalizerSetsSpec) :=
 OpenClaim.holds_of_wide_leaving 4 Tryz.f4 rfl rfl rfl rfl rfl rfl rfl ⟨rfl,rfl,rfl,rfl,rfl⟩ rfl rfl rfl rfl rfl (by kernel_rfl) Tryz.func4 Q2R
  (of_decide_eq_true (by kernel_rfl)) (by unfold Func.isWrapper;first|(rw [if_pos (by decide +kernel)];kernel_rfl)|(rw [if_neg (by decide +kernel)];exact ⟨rfl,rfl⟩))
  (fun os started H enc _=>Q2S os started H enc)
theorem coequalizer_sets_holds:Rows.FnExactCoequalizerSetsSaid:=Q3c
#print axioms coequalizer_sets_holds
end Go.Proofs.YtghefemofbipnaaGreat
