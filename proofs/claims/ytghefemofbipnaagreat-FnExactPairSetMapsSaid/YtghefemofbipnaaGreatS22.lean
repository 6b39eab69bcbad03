/- A part of the proof: a verified generator of conditions, and what each function of the program does. -/
import Derived.Test.YtghefemofbipnaaGreatS21
set_option maxRecDepth 100000
set_option maxHeartbeats 4000000
set_option linter.unusedSimpArgs false
set_option linter.unusedVariables false
set_option linter.unusedSectionVars false
set_option linter.unnecessarySimpa false

namespace Go.Proofs
open Go Go.Conc Go.ConcN Go.RowKit Go.Conc.Lib Go.Vc Go.Vc.Wg
section
attribute [local simp] Qi QG Qp
open Go.ConcR (KK wgBlock WgAt stA smA rd wr mk Payload DC0)
def Q9k (Wg bT bX:Nat):Deferred:={ target:=.fn (.func 95) #[.pointer (some ⟨Wg,0,none⟩),.pointer (some ⟨bT,0,none⟩),.pointer (some ⟨bX,0,none⟩)],args:=#[] }
theorem born_C (Wg bT bX:Nat) (w:World):stepG Tryz.prog false (born Tryz.prog (Q9k Wg bT bX)) w =
  .go (G ((baseD 95).at ⟨#[.pointer (some ⟨Wg,0,none⟩),.pointer (some ⟨bT,0,none⟩),.pointer (some ⟨bX,0,none⟩),undef,undef,undef],[]⟩ [.code Q9i]) [botG]) w #[]:=by
 simp [born,Q9k,stepG,unwind,callDeferred,invoke,callFunc,Tryz.func95,Tryz.f95,seen,GStep.after,G,Frame.enter,Frame.at,baseD,botG,Q9i]
theorem Q7J {Stop:Goroutine→World→Prop} {Wg bT bX fT:Nat} {caps:Array Value} {x:Value} {fn:Func} (v:World) (hT:v.cell? ⟨bT,0,none⟩=some (.func (.func fT) #[] caps)) (hX:v.cell? ⟨bX,0,none⟩=some x)
  (hf : Tryz.prog.funcs[fT]? = some fn) (hne : (fn.name == "runtime.NumGoroutine") = false) (hb : fn.body.isSome = true)
  (hn:∀ v₁,Rly v v₁→To Tryz.prog false Stop (G (Frame.enter Tryz.prog fT (#[x]++caps) .normal) [frC Wg bT bX (.func (.func fT) #[] caps) x,botG]) v₁):To Tryz.prog false Stop (born Tryz.prog (Q9k Wg bT bX)) v:=by
 refine To.ctl rfl (born_C Wg bT bX) ?_;simp only [Q9i,Tryz.f95,Option.getD_some];refine To.ctl rfl (fun _=>stepG_seq) ?_;refine To.ctl rfl (fun _=>stepG_region) ?_;simp only [List.size_toArray,List.length_cons,List.length_nil,Nat.reduceAdd,Nat.zero_add,List.range,List.range.loop];refine To.ctl rfl (fun _=>stepG_defer rfl rfl (by decide) rfl) ?_
 walk_nrm
 refine To.ctl rfl (fun _=>stepG_region_end) ?_;refine To.ctl rfl (fun _=>stepG_region) ?_;simp only [List.size_toArray,List.length_cons,List.length_nil,Nat.reduceAdd,Nat.zero_add,List.range,List.range.loop];have ag:∀ u,(isAgg 87).run Tryz.prog u = .ok false u:=Tryz.isAgg87;refine To.oper rfl rfl (by decide) (fun v₁ r₁=>⟨(Q2n _ _).bind fun _=>.pure _,.func (.func fT) #[] caps,v₁,?_,?_⟩)
 ·have h1:=r₁.cell hT;simp [execOp,go_sem,Act.eval,h1,ag]
 walk_nrm
 refine To.oper rfl rfl (by decide) (fun v₂ r₂=>⟨(Q2n _ _).bind fun _=>.pure _,x,v₂,?_,?_⟩)
 ·have h1:=r₂.cell (r₁.cell hX);simp [execOp,go_sem,Act.eval,h1]
 walk_nrm
 have hcf:=fun w=>Q1H (P:=Tryz.prog) (args:=#[x]++caps) hf hne hb w;refine To.enter (f:=fT) (args:=#[x]++caps) rfl rfl (by decide) (fun w=>?_) (fun w=>?_) ?_
 ·simp [execOp,go_sem,Act.eval,(hcf w).1]
 ·simp [execOp,go_sem,Act.eval,(hcf w).2]
 have:=hn v₂ (r₁.trans r₂);simp only [frC,opsC,Q9i,Tryz.f95,Option.getD_some] at this;exact this
end
end Go.Proofs
namespace Go.Proofs
open Go Go.Conc Go.ConcN Go.RowKit Go.Conc.Lib Go.ConcR.Gen Go.ConcN.Gen Go.Vc Go.Vc.Wg Go.Vc.Ph
section
attribute [local simp] Qi QG Qp
open Go.ConcR (KK wgBlock WgAt stA smA rd wr mk Payload DC0)
noncomputable def Q39:Code:=Tryz.f60.body.getD .skip
noncomputable def Q40:Code:=match Q39 with|.seq _ (.seq _ (.seq (.seq _ (.block _ (.loop c))) _))=>c|_=>.skip
noncomputable def Q41:Code:=match Q39 with|.seq _ (.seq _ (.seq _ c))=>c|_=>.skip
noncomputable def opsW:Array Oper:=match Q41 with|.region _ ops _=>ops|_=>#[]
section
variable [PS] {cs:List Frame} {Wg bT:Nat} {n:Nat} {tr:Value}
noncomputable def frW (T:Array Value):Frame:=(base 60).at ⟨T,[]⟩ [.inRegion opsW [0]]
noncomputable def gW (cs:List Frame) (T:Array Value):Goroutine:=G ((base 60).at ((⟨T,[]⟩:Act).put ((opsW[0]?).bind (·.dst)) (.tuple #[])) [.inRegion opsW []]) cs
def Q6n (cs:List Frame) (Wg:Nat) (g:Goroutine) (w:World):Prop:=∃ T,AnchW Tryz.link Wg (frW T) cs g w
def EndE (cs:List Frame) (g:Goroutine):Prop:=∃ T,g=gW cs T
noncomputable def gL (cs:List Frame) (T:Array Value):Goroutine:=G ((base 60).at ⟨T,[]⟩ [.code Q40,.inLoop Q40,.inBlock 0,.code Q41]) cs
theorem Q6S (g:Goroutine) (w:World) (h:Q6n cs Wg g w):g.status = .running:=by
 obtain ⟨T,T',rfl,_⟩:=h;rfl
theorem Q9g (g:Goroutine) (w:World) (hl:WgLive 123 Wg w) (h:Q6n cs Wg g w):∃ m,GP Tryz.prog 123 Wg (AtW1 Tryz.prog 123 Wg (Q6n cs Wg) (IsE (EndE cs))) m g w:=by
 obtain ⟨T,h⟩:=h;exact waitRound (mT:=0) (L:=Tryz.link) (Next:=IsE (EndE cs)) (Anch:=Q6n cs Wg) (b₀:=base 60) (a₀:=⟨T,[]⟩) (ops₀:=opsW) (i₀:=0) (rest₀:=[]) (k₀:=[]) (fun g w h=>⟨T,h⟩) Tryz.wgLib (fun w _=>fun w₁ _=>⟨⟨T,rfl⟩,rfl⟩) g w hl h
end
end
end Go.Proofs
namespace Go.Proofs
open Go Go.Conc Go.ConcN Go.RowKit Go.Conc.Lib Go.ConcR.Gen Go.ConcN.Gen Go.Vc Go.Vc.Wg Go.Vc.Ph
section
attribute [local simp] Qi QG Qp
open Go.ConcR (KK wgBlock WgAt stA smA rd wr mk Payload DC0)
theorem array14 (T:Array Value) (h:T.size=14):∃ v0 v1 v2 v3 v4 v5 v6 v7 v8 v9 v10 v11 v12 v13:Value,T = #[v0,v1,v2,v3,v4,v5,v6,v7,v8,v9,v10,v11,v12,v13]:=by
 obtain ⟨l⟩:=T;simp only [List.size_toArray] at h;iterate 14
  rcases l with _|⟨_,l⟩
  simp at h
 rcases l with _|⟨x,l⟩
 ·exact ⟨_,_,_,_,_,_,_,_,_,_,_,_,_,_,rfl⟩
 simp at h
theorem frz_cell {v:World} {a:Addr} {x:Value} (h:v.cell? a=some x):(frz v).cell? a=some x:=by
 unfold World.cell? at h ⊢;rw [Q2i];cases hv:v.heap[a.block]? with
 | none=>simp [hv] at h
 | some o =>
  rw [hv] at h;cases o<;>first|exact h|(simp at h)
set_option maxRecDepth 100000 in
theorem enterW (Wg:Nat):Frame.enter Tryz.prog Tryz.link.wait #[.pointer (some ⟨Wg,0,none⟩)] .normal=(base Tryz.link.wait).at ⟨#[.pointer (some ⟨Wg,0,none⟩),undef,undef,undef,undef,undef,undef,undef,undef,undef,undef,undef,undef,undef,undef,undef,undef,undef,undef,undef,undef,undef,undef,undef,undef,undef,undef,undef,undef,undef,undef,undef,undef,undef,undef,undef,undef,undef,undef,undef,undef,undef,undef,undef,undef,undef,undef,undef,undef,undef,undef,undef,undef,undef,undef,undef,undef,undef,undef,undef,undef,undef,undef,undef,undef,undef,undef,undef,undef,undef,undef,undef,undef,undef,undef,undef,undef,undef,undef,undef,undef,undef,undef,undef],[]⟩ [.code (body_wait Tryz.link)]:=by
 rw [enter_at _ Tryz.wgLib.f_wait (c:=body_wait Tryz.link) (by simp only [body_wait,waitFn,Option.getD_some])];simp only [body_wait]
 walk_nrmf waitFn
set_option maxRecDepth 100000 in
theorem enterA (Wg:Nat):Frame.enter Tryz.prog Tryz.link.add #[.pointer (some ⟨Wg,0,none⟩),.int .i64 1] .normal=(base Tryz.link.add).at ⟨#[.pointer (some ⟨Wg,0,none⟩),.int .i64 1,undef,undef,undef,undef,undef,undef,undef,undef,undef,undef,undef,undef,undef,undef,undef,undef,undef,undef,undef,undef,undef,undef,undef,undef,undef,undef,undef,undef,undef,undef,undef,undef,undef,undef,undef,undef,undef,undef,undef,undef,undef,undef,undef,undef,undef,undef,undef,undef,undef,undef,undef,undef,undef,undef,undef,undef,undef,undef,undef,undef,undef,undef,undef,undef,undef,undef,undef,undef,undef,undef,undef,undef,undef,undef,undef,undef,undef,undef,undef,undef,undef,undef,undef,undef,undef,undef,undef,undef,undef,undef,undef,undef,undef,undef,undef,undef,undef,undef,undef,undef,undef,undef,undef,undef,undef,undef,undef,undef,undef,undef,undef,undef,undef,undef,undef],[]⟩ [.code (body_add Tryz.link)]:=by
 rw [enter_at _ Tryz.wgLib.f_add (c:=body_add Tryz.link) (by simp only [body_add,addFn,Option.getD_some])];simp only [body_add]
 walk_nrmf addFn
noncomputable def Q9m:Code:=match Q40 with|.seq _ (.seq _ (.seq (.block _ (.seq _ c)) _))=>c|_=>.skip
noncomputable def opsA:Array Oper:=match Q9m with|.seq (.region _ ops _) _=>ops|_=>#[]
noncomputable def Q9n:Code:=match Q9m with|.seq _ c=>c|_=>.skip
noncomputable def opsG:Array Oper:=match Q9n with|.region _ ops _=>ops|_=>#[]
noncomputable def Q9o:Code:=match Q40 with|.seq _ (.seq _ (.seq _ c))=>c|_=>.skip
noncomputable def kA:List Item:=[.code Q9n,.inBlock 1,.code Q9o,.inLoop Q40,.inBlock 0,.code Q41]
section
variable [PS] {cs:List Frame} {Wg bT C:Nat} {n:Nat} {tr:Value} {K:Nat→Nat→Value→World→Prop}
set_option maxRecDepth 100000 in
theorem loopE (s : World) (hs : Frzn s) (hn : n < 2147483648) {fT : Nat} {caps : Array Value} (hfT : ∃ fn, Tryz.prog.funcs[fT]? = some fn ∧ (fn.name == "runtime.NumGoroutine") = false ∧ fn.body.isSome = true) (hbT : 0 < n → s.cell? ⟨bT, 0, none⟩ = some (.func (.func fT) #[] caps))
  (hwork:∀ k,k<n→∀ β v bX,s.heap.size≤β→β≤v.heap.size→Ext1 s v→To Tryz.prog false (Q6R Tryz.prog 123 Wg C n K β k) (G (Frame.enter Tryz.prog fT (#[.int .i64 k]++caps) .normal) [frC Wg bT bX (.func (.func fT) #[] caps) (.int .i64 k),botG]) v) :
  ∀ r,r≤n→∀ (T:Array Value) (v:World),Ext1 s v→T.size=14→T[3]? = some (.pointer (some ⟨bT,0,none⟩))→T[4]? = some (.pointer (some ⟨Wg,0,none⟩))→T[6]? = some (.int .i64 n)→T[7]? = some (.int .i64 (n - r:Nat)) →
   To Tryz.prog true (Scr Tryz.prog 123 Wg C n K (Q6n cs Wg) r) (gL cs T) v:=by
 obtain ⟨fn,hfT⟩:=hfT;intro r
 induction r with
 | zero =>
  intro _ T v hv hT t3 t4 t6 t7;obtain ⟨v0,v1,v2,v3,v4,v5,v6,v7,v8,v9,v10,v11,v12,v13,rfl⟩:=array14 T hT;simp only [List.getElem?_toArray,List.getElem?_cons_succ,List.getElem?_cons_zero,Option.some.injEq,Nat.sub_zero] at t3 t4 t6 t7;subst t3 t4 t6 t7;have hnl:¬ ((n:Int)<(n:Int)):=by omega
  simp only [gL,Q40,Q41,Q39,Tryz.f60,Option.getD_some];refine To.ctl rfl (fun _=>stepG_seq) ?_;refine To.ctl rfl (fun _=>stepG_region) ?_;simp only [List.size_toArray,List.length_cons,List.length_nil,Nat.reduceAdd,Nat.zero_add,List.range,List.range.loop];refine To.value (.bool false) rfl rfl (by decide) (fun w=>by simp [execOp,go_sem,Act.eval,hnl]) (fun w=>by simp [execOp,go_sem,Act.eval]) ?_
  walk_nrm
  refine To.ctl rfl (fun _=>stepG_region_end) ?_;refine To.ctl rfl (fun _=>stepG_seq) ?_;refine To.ctl rfl (fun _=>stepG_cond (t:=false) rfl) ?_;simp only [Bool.false_eq_true,if_false,↓reduceIte];refine To.ctl rfl (fun _=>stepG_exit rfl) ?_;refine To.ctl rfl (fun _=>stepG_region) ?_;simp only [List.size_toArray,List.length_cons,List.length_nil,Nat.reduceAdd,Nat.zero_add,List.range,List.range.loop];have hcf:=fun w=>Q1H (P:=Tryz.prog) (args:=#[.pointer (some ⟨Wg,0,none⟩)]) Tryz.wgLib.f_wait (nm_wait Tryz.link) (by simp [waitFn]) w;refine To.enter (f:=Tryz.link.wait) (args:=#[.pointer (some ⟨Wg,0,none⟩)]) rfl rfl (by decide) (fun w=>?_) (fun w=>?_) ?_
  ·simpa [execOp,go_sem,Act.eval] using (hcf w).1
  ·simpa [execOp,go_sem,Act.eval] using (hcf w).2
  refine To.stop fun v₁ r₁=>⟨rfl,fun w U hl=>⟨6,?_⟩⟩;rw [enterW];have h:=waitStart (L:=Tryz.link) (Anch:=Q6n cs Wg) (b₀:=base 60) (a₀:=⟨#[v0,v1,v2,.pointer (some ⟨bT,0,none⟩),.pointer (some ⟨Wg,0,none⟩),v5,.int .i64 n,.int .i64 n,.bool false,v9,v10,v11,v12,v13],[]⟩) (ops₀:=opsW) (i₀:=0) (rest₀:=[]) (k₀:=[]) (cs:=cs) (fun g w h=>⟨_,h⟩) Tryz.wgLib w hl;simp only [opsW,Q41,Q39,Tryz.f60,Option.getD_some] at h;exact h
 | succ r ih =>
  intro hr T v hv hT t3 t4 t6 t7;obtain ⟨v0,v1,v2,v3,v4,v5,v6,v7,v8,v9,v10,v11,v12,v13,rfl⟩:=array14 T hT;simp only [List.getElem?_toArray,List.getElem?_cons_succ,List.getElem?_cons_zero,Option.some.injEq] at t3 t4 t6 t7;subst t3 t4 t6 t7;obtain ⟨i,hi⟩:∃ i,i=n - (r+1):=⟨_,rfl⟩;rw [← hi];have hnl:((i:Int)<(n:Int)):=by omega
  simp only [gL,Q40,Q41,Q39,Tryz.f60,Option.getD_some];refine To.ctl rfl (fun _=>stepG_seq) ?_;refine To.ctl rfl (fun _=>stepG_region) ?_;simp only [List.size_toArray,List.length_cons,List.length_nil,Nat.reduceAdd,Nat.zero_add,List.range,List.range.loop];refine To.value (.bool true) rfl rfl (by decide) (fun w=>by simp [execOp,go_sem,Act.eval,hnl]) (fun w=>by simp [execOp,go_sem,Act.eval]) ?_
  walk_nrm
  refine To.ctl rfl (fun _=>stepG_region_end) ?_;refine To.ctl rfl (fun _=>stepG_seq) ?_;refine To.ctl rfl (fun _=>stepG_cond (t:=true) rfl) ?_;simp only [if_true,↓reduceIte];refine To.ctl rfl (fun _=>stepG_skip) ?_;refine To.ctl rfl (fun _=>stepG_seq) ?_;refine To.ctl rfl (fun _=>stepG_block) ?_;refine To.ctl rfl (fun _=>stepG_seq) ?_;refine To.ctl rfl (fun _=>stepG_region) ?_;simp only [List.size_toArray,List.length_cons,List.length_nil,Nat.reduceAdd,Nat.zero_add,List.range,List.range.loop];refine To.value (.int .i64 i) rfl rfl (by decide) (fun w=>by simp [execOp,go_sem,Act.eval]) (fun w=>by simp [execOp,go_sem,Act.eval]) ?_
  walk_nrm
  refine To.oper rfl rfl (by decide) (fun v₁ r₁=>⟨(Q6j _).bind fun _=>.pure _,.pointer (some ⟨v₁.heap.size,0,none⟩),{ v₁ with heap:=v₁.heap.push (.cells #[.int .i64 0] 3) },by simp [execOp,go_sem,Act.eval],?_⟩);have hv1:=hv.rly r₁;have hv2:Ext1 s { v₁ with heap:=v₁.heap.push (.cells #[.int .i64 0] 3) }:=⟨by simp;exact Nat.le_succ_of_le hv1.size,fun b hb=>by
   have:=hv1.size;simp only [Array.getElem?_push];rw [if_neg (by omega)];exact hv1.old b hb,hv1.rest⟩
  have hnew:({ v₁ with heap:=v₁.heap.push (.cells #[.int .i64 0] 3) }:World).heap[v₁.heap.size]? = some (.cells #[.int .i64 0] 3):=by simp
  have hbx:s.heap.size≤v₁.heap.size:=hv1.size;generalize hbX:v₁.heap.size=bX at hnew hbx ⊢;generalize ({ v₁ with heap:=v₁.heap.push (.cells #[.int .i64 0] 3) }:World)=u at hv2 hnew ⊢;clear hv hv1 r₁ hbX v₁
  walk_nrm
  refine To.operS rfl rfl (by decide) (fun v₁ r₁=>?_);have hn1:v₁.heap[bX]? = some (.cells #[.int .i64 0] 3):=(r₁.old _ (Array.getElem?_eq_some_iff.1 hnew).1).trans hnew;refine ⟨(Q2y _ _ _).bind fun _=>.pure _,v₁.setCell ⟨bX,0,none⟩ (.int .i64 i),?_,?_⟩
  ·have h1:v₁.cell? ⟨bX,0,none⟩=some (.int .i64 0):=(by simp [World.cell?,hn1]);have h2:v₁.frozen? ⟨bX,0,none⟩=false:=(by simp [World.frozen?,hn1]);simp [execOp,go_sem,Act.eval,stored,h1,h2]
  have hv1:=hv2.rly r₁;have hv3:Ext1 s (v₁.setCell ⟨bX,0,none⟩ (.int .i64 i)):=⟨by simp [World.setCell];exact hv1.size,fun b hb=>by
   simp only [World.setCell,Q29];rw [if_neg (by show ¬ bX=b;omega)];exact hv1.old b hb,hv1.rest⟩
  have hcx:(v₁.setCell ⟨bX,0,none⟩ (.int .i64 i)).cell? ⟨bX,0,none⟩=some (.int .i64 i):=by simp [World.cell?,World.setCell,Q29,hn1]
  generalize (v₁.setCell ⟨bX,0,none⟩ (.int .i64 i))=y at hv3 hcx ⊢;clear hv1 hn1 r₁ v₁ hnew hv2 u
  walk_nrm
  refine To.ctl rfl (fun _=>stepG_region_end) ?_;refine To.ctl rfl (fun _=>stepG_seq) ?_;refine To.ctl rfl (fun _=>stepG_region) ?_;simp only [List.size_toArray,List.length_cons,List.length_nil,Nat.reduceAdd,Nat.zero_add,List.range,List.range.loop];have hcf:=fun w=>Q1H (P:=Tryz.prog) (args:=#[.pointer (some ⟨Wg,0,none⟩),.int .i64 1]) Tryz.wgLib.f_add (nm_add Tryz.link) (by simp [addFn]) w;refine To.enter (f:=Tryz.link.add) (args:=#[.pointer (some ⟨Wg,0,none⟩),.int .i64 1]) rfl rfl (by decide) (fun w=>?_) (fun w=>?_) ?_
  ·simpa [execOp,go_sem,Act.eval] using (hcf w).1
  ·simpa [execOp,go_sem,Act.eval] using (hcf w).2
  clear hcf;refine To.stop fun v₁ r₁=>?_;have hv4:=hv3.rly r₁;have hcx1:=r₁.cell hcx;clear hv3 hcx r₁ y;rw [enterA];refine ⟨rfl,?_⟩;have way:To Tryz.prog true (AtGo Tryz.prog 123 Wg C n K r (Scr Tryz.prog 123 Wg C n K (Q6n cs Wg) r)) (G ((base 60).at ((⟨#[v0,v1,v2,.pointer (some ⟨bT,0,none⟩),.pointer (some ⟨Wg,0,none⟩),.pointer (some ⟨bX,0,none⟩),.int .i64 n,.int .i64 i,.bool true,.int .i64 i,v10,v11,v12,v13],[]⟩:Act).put ((opsA[0]?).bind (·.dst)) (.tuple #[])) (.inRegion opsA [] :: kA)) cs) v₁:=by
   simp only [opsA,kA,Q9m,Q9n,Q9o,Q40,Q41,Q39,Tryz.f60,Option.getD_some]
   walk_nrm
   refine To.ctl rfl (fun _=>stepG_region_end) ?_;refine To.ctl rfl (fun _=>stepG_region) ?_;simp only [List.size_toArray,List.length_cons,List.length_nil,Nat.reduceAdd,Nat.zero_add,List.range,List.range.loop];refine To.value (.func (.func 95) #[] #[.pointer (some ⟨Wg,0,none⟩),.pointer (some ⟨bT,0,none⟩),.pointer (some ⟨bX,0,none⟩)]) rfl rfl (by decide) (fun w=>by simp [execOp,go_sem,Act.eval]<;>rfl) (fun w=>by simp [execOp,go_sem,Act.eval]<;>rfl) ?_
   walk_nrm
   refine To.stop fun v₂ r₂=>?_;have hv5:=hv4.rly r₂;have hcx2:=r₂.cell hcx1;refine ⟨rfl,G ((base 60).at ⟨#[v0,v1,v2,.pointer (some ⟨bT,0,none⟩),.pointer (some ⟨Wg,0,none⟩),.pointer (some ⟨bX,0,none⟩),.int .i64 n,.int .i64 i,.bool true,.int .i64 i,.tuple #[],.func (.func 95) #[] #[.pointer (some ⟨Wg,0,none⟩),.pointer (some ⟨bT,0,none⟩),.pointer (some ⟨bX,0,none⟩)],v12,v13],[]⟩ (.inRegion opsG [] :: [.inBlock 1,.code Q9o,.inLoop Q40,.inBlock 0,.code Q41])) cs,born Tryz.prog (Q9k Wg bT bX),fun w U=>?_,rfl,?_,?_⟩
   ·rw [stepG_spawn (b:=base 60) (d:=Q9k Wg bT bX) (w':=w) (f:=.func 95) (c:=#[.pointer (some ⟨Wg,0,none⟩),.pointer (some ⟨bT,0,none⟩),.pointer (some ⟨bX,0,none⟩)]) rfl rfl (by decide) (by simp [execOp,go_sem,Act.eval,Q9k,Deferred.ofValue]) rfl];simp only [opsG,Q9n,Q9m,Q9o,Q40,Q41,Q39,Tryz.f60,Option.getD_some];simp [listed,execOp,go_sem,Act.eval,seen,Deferred.ofValue];rfl
   ·rw [← hi];have hvf:=hv5.frz hs;refine Q7J (caps:=caps) (fT:=fT) (x:=.int .i64 i) _ ?_ ?_ hfT.1 hfT.2.1 hfT.2.2 fun v₃ r₃=>?_
    ·have hbT':=hbT (by omega);exact (Q2g (hvf.old bT (Q2K hbT'))).trans hbT'
    ·exact frz_cell hcx2
    exact hwork i (by omega) _ v₃ bX hv5.size (by have:=r₃.size;rw [frz_size] at this;exact this) (hvf.rly r₃)
   have hvf:=hv5.frz hs;simp only [opsG,Q9n,Q9m,Q9o,Q40,Q41,Q39,Tryz.f60,Option.getD_some];refine To.ctl rfl (fun _=>stepG_region_end) ?_;refine To.ctl rfl (fun _=>stepG_inBlock) ?_;refine To.ctl rfl (fun _=>stepG_region) ?_;simp only [List.size_toArray,List.length_cons,List.length_nil,Nat.reduceAdd,Nat.zero_add,List.range,List.range.loop];have e1:IntKind.i64.wrap ((i:Int)+1)=((n - r:Nat):Int):=(by rw [IntKind.wrap_i64];omega);refine To.value (.int .i64 (n - r:Nat)) rfl rfl (by decide) (fun w=>by simp [execOp,go_sem,Act.eval,e1]) (fun w=>by simp [execOp,go_sem,Act.eval]) ?_
   walk_nrm
   refine To.value (.int .i64 (n - r:Nat)) rfl rfl (by decide) (fun w=>by simp [execOp,go_sem,Act.eval]) (fun w=>by simp [execOp,go_sem,Act.eval]) ?_
   walk_nrm
   refine To.ctl rfl (fun _=>stepG_region_end) ?_;refine To.ctl rfl (fun _=>stepG_inLoop) ?_;have:=ih (by omega) #[v0,v1,v2,.pointer (some ⟨bT,0,none⟩),.pointer (some ⟨Wg,0,none⟩),.pointer (some ⟨bX,0,none⟩),.int .i64 n,.int .i64 (n - r:Nat),.bool true,.int .i64 i,.tuple #[],.func (.func 95) #[] #[.pointer (some ⟨Wg,0,none⟩),.pointer (some ⟨bT,0,none⟩),.pointer (some ⟨bX,0,none⟩)],.int .i64 (n - r:Nat),v13] _ hvf (by rfl) (by rfl) (by rfl) (by rfl) (by rfl);simp only [gL,Q40,Q41,Q39,Tryz.f60,Option.getD_some] at this;exact this
  obtain ⟨T1,way⟩:=way;refine ⟨_,T1,fun w U hl=>⟨20,?_⟩,way⟩;have h:=addPos (L:=Tryz.link) (Next:=Is (G ((base 60).at ((⟨#[v0,v1,v2,.pointer (some ⟨bT,0,none⟩),.pointer (some ⟨Wg,0,none⟩),.pointer (some ⟨bX,0,none⟩),.int .i64 n,.int .i64 i,.bool true,.int .i64 i,v10,v11,v12,v13],[]⟩:Act).put ((opsA[0]?).bind (·.dst)) (.tuple #[])) (.inRegion opsA [] :: kA)) cs)) (mT:=0) (b₀:=base 60) (a₀:=⟨#[v0,v1,v2,.pointer (some ⟨bT,0,none⟩),.pointer (some ⟨Wg,0,none⟩),.pointer (some ⟨bX,0,none⟩),.int .i64 n,.int .i64 i,.bool true,.int .i64 i,v10,v11,v12,v13],[]⟩) (ops₀:=opsA) (i₀:=0) (rest₀:=[]) (k₀:=kA) (cs:=cs) Tryz.wgLib (fun w _=>fun w₁ _=>⟨rfl,rfl⟩) w hl;simp only [opsA,kA,Q9m,Q9n,Q9o,Q40,Q41,Q39,Tryz.f60,Option.getD_some] at h ⊢;exact h
end
end
end Go.Proofs
namespace Go.Proofs
open Go Go.Conc Go.ConcN Go.RowKit Go.Conc.Lib Go.ConcR.Gen Go.ConcN.Gen Go.Vc Go.Vc.Wg Go.Vc.Ph
section
attribute [local simp] Qi QG Qp
open Go.ConcR (KK wgBlock WgAt stA smA rd wr mk Payload DC0)
noncomputable def codeS:Code:=match Q39 with|.seq _ (.seq c _)=>c|_=>.skip
noncomputable def opsS:Array Oper:=match codeS with|.region _ ops _=>ops|_=>#[]
noncomputable def codeR:Code:=match Q39 with|.seq _ (.seq _ c)=>c|_=>.skip
section
variable [PS] {cs:List Frame} {C:Nat→Nat} {n:Nat} {K:Nat→Nat→Value→World→Prop} {Post:Value→World→Prop} {W0:World} {S0:Nat→Prop} {fT:Nat} {caps:Array Value}
set_option maxRecDepth 100000 in
theorem eoCall (hn : n < 2147483648) (hK : ∀ β k val v v', Rly v v' → K β k val v → K β k val v') (v : World) (hC : ∀ v₁ bT, Ext0 v v₁ → v.heap.size ≤ bT → v₁.heap[bT]? = some (.cells #[.func (.func fT) #[] caps] 87) → PayAt (C bT) PS.z v₁ ∧ (0 < n → C bT ≠ bT)) (hfT : ∃ fn, Tryz.prog.funcs[fT]? = some fn ∧ (fn.name == "runtime.NumGoroutine") = false ∧ fn.body.isSome = true)
  (hwork:∀ v₁ bT,Ext0 v v₁→∀ k,k<n→∀ β u bX,v₁.heap.size+1≤β→β≤u.heap.size→Ext1 (Go.Vc.Ph.start v₁ (C bT)) u→To Tryz.prog false (Q6R Tryz.prog 123 v₁.heap.size (C bT) n K β k) (G (Frame.enter Tryz.prog fT (#[.int .i64 k]++caps) .normal) [frC v₁.heap.size bT bX (.func (.func fT) #[] caps) (.int .i64 k),botG]) u)
  (hk:∀ v₁ bT v₂ fr,Ext0 v v₁→v.heap.size≤bT→bT<v₁.heap.size→Brought K (C bT) n v₁ v₂→fr.fn=60→fr.leaving Tryz.prog v₂ (.returned (.tuple #[]))→TM Tryz.prog W0 S0 Post (G fr cs) v₂) :
  TM Tryz.prog W0 S0 Post (G (Frame.enter Tryz.prog 60 #[.int .i64 n,.func (.func fT) #[] caps] .normal) cs) v:=by
 letI:Kd Tryz.prog:=KdM Tryz.prog W0 S0 Post
 have hT:Kd.adm Tryz.prog (TM Tryz.prog W0 S0 Post):=rfl;rw [enter_at _ Tryz.func60 (c:=Q39) (by simp only [Q39,Tryz.f60,Option.getD_some])];simp only [Q39]
 walk_nrmf Tryz.f60
 refine Kd.ctl hT rfl (fun _=>stepG_seq) ?_;refine Kd.ctl hT rfl (fun _=>stepG_region) ?_;simp only [List.size_toArray,List.length_cons,List.length_nil,Nat.reduceAdd,Nat.zero_add,List.range,List.range.loop];refine koper hT rfl rfl (by decide) (fun v₁ r₁=>⟨(Q6J _ _).bind fun _=>.pure _,.pointer (some ⟨v₁.heap.size,0,none⟩),{ v₁ with heap:=v₁.heap.push (.cells #[.func (.func fT) #[] caps] 87) },by simp [execOp,go_sem,Act.eval],?_⟩)
 walk_nrm
 refine Kd.ctl hT rfl (fun _=>stepG_region_end) ?_;refine Kd.ctl hT rfl (fun _=>stepG_seq) ?_;refine Kd.ctl hT rfl (fun _=>stepG_region) ?_;simp only [List.size_toArray,List.length_cons,List.length_nil,Nat.reduceAdd,Nat.zero_add,List.range,List.range.loop];refine tm_phase (ty:=123) (C:=C v₁.heap.size) (n:=n) (K:=K) hn hK rfl fun v₂ r₂=>?_;have x1:Ext0 v { v₁ with heap:=v₁.heap.push (.cells #[.func (.func fT) #[] caps] 87) }:=⟨by simp;exact Nat.le_succ_of_le r₁.size,fun b hb=>by
  have:=r₁.size;simp only [Array.getElem?_push];rw [if_neg (by omega)];exact r₁.old b hb,r₁.tape,r₁.os,r₁.output,r₁.drawn⟩
 have x2:=x1.rly r₂;have hbT:v₂.heap[v₁.heap.size]? = some (.cells #[.func (.func fT) #[] caps] 87):=by rw [r₂.old _ (by simp)];simp
 have hbv:v.heap.size≤v₁.heap.size:=r₁.size;generalize v₁.heap.size=bT at hbT hbv ⊢;clear x1 r₂ r₁ v₁;obtain ⟨hC2,hCne⟩:=hC v₂ bT x2 hbv hbT;have hClt:C bT<v₂.heap.size:=by obtain ⟨c0,h1,_⟩:=hC2;exact (Array.getElem?_eq_some_iff.1 h1).1
 have hbl:bT<v₂.heap.size:=(Array.getElem?_eq_some_iff.1 hbT).1;have hw:=hwork v₂ bT x2;have way:=loopE (cs:=cs) (Wg:=v₂.heap.size) (bT:=bT) (C:=C bT) (n:=n) (K:=K) (Go.Vc.Ph.start v₂ (C bT)) (Q9w v₂ (C bT)) hn hfT (caps:=caps) (by
   intro hn0;have hne:=hCne hn0;have h1:(Go.Vc.Ph.start v₂ (C bT)).heap[bT]? = some (frzO (.cells #[.func (.func fT) #[] caps] 87)):=by
    rw [Q1o (by omega) (by omega),if_neg (by omega),if_neg (by omega),Q2i,hbT];rfl
   simp [World.cell?,h1,frzO]) (fun k hk β u bX h1 h2 h3=>hw k hk β u bX (by rw [Q2Q] at h1;exact h1) h2 h3) n (Nat.le_refl _) #[.int .i64 n,.func (.func fT) #[] caps,undef,.pointer (some ⟨bT,0,none⟩),.pointer (some ⟨v₂.heap.size,0,none⟩),undef,.int .i64 n,.int .i64 0,undef,undef,undef,undef,undef,undef] (Go.Vc.Ph.start v₂ (C bT)) ⟨Nat.le_refl _,fun _ _=>rfl,rfl,rfl,rfl,Nat.le_refl _⟩ rfl rfl rfl rfl (by simp)
 have way2:To Tryz.prog true (Scr Tryz.prog 123 v₂.heap.size (C bT) n K (Q6n cs v₂.heap.size) n) (G ((base 60).at ⟨#[.int .i64 n,.func (.func fT) #[] caps,undef,.pointer (some ⟨bT,0,none⟩),.pointer (some ⟨v₂.heap.size,0,none⟩),undef,undef,undef,undef,undef,undef,undef,undef,undef],[]⟩ [.inRegion opsS [],.code codeR]) cs) (Go.Vc.Ph.start v₂ (C bT)):=by
  simp only [gL,opsS,codeR,Q40,Q41,Q39,Tryz.f60,Option.getD_some] at way ⊢;refine To.ctl rfl (fun _=>stepG_region_end) ?_;refine To.ctl rfl (fun _=>stepG_seq) ?_;refine To.ctl rfl (fun _=>stepG_seq) ?_;refine To.ctl rfl (fun _=>stepG_region) ?_;simp only [List.size_toArray,List.length_cons,List.length_nil,Nat.reduceAdd,Nat.zero_add,List.range,List.range.loop];refine To.value (.int .i64 n) rfl rfl (by decide) (fun w=>by simp [execOp,go_sem,Act.eval]) (fun w=>by simp [execOp,go_sem,Act.eval]) ?_
  walk_nrm
  refine To.value (.int .i64 0) rfl rfl (by decide) (fun w=>by simp [execOp,go_sem,Act.eval]) (fun w=>by simp [execOp,go_sem,Act.eval]) ?_
  walk_nrm
  refine To.ctl rfl (fun _=>stepG_region_end) ?_;refine To.ctl rfl (fun _=>stepG_block) ?_;refine To.ctl rfl (fun _=>stepG_loop) ?_;exact way
 obtain ⟨Tr,way2⟩:=way2;refine ⟨_,Q6n cs v₂.heap.size,EndE cs,Tr,fun w U=>?_,hC2,Q6S,Q9g,way2,fun v₃ hb g hg=>?_⟩
 ·have ez:∀ w,(zeroValue 123).run Tryz.prog w = .ok (.agg #[.int .u64 0,.int .u32 0]) w:=Tryz.zeroValue123;rw [stepG_value (b:=base 60) (v:=.pointer (some ⟨v₂.heap.size,0,none⟩)) (w':={ w with heap:=w.heap.push (wgBlock 123 0 0) }) rfl rfl (by decide) (by simp [execOp,go_sem,Act.eval,ez,wgBlock,U.size])];simp only [opsS,codeR,Q39,Tryz.f60,Option.getD_some];simp [listed,execOp,go_sem,Act.eval,seen];exact ⟨rfl,rfl⟩
 obtain ⟨T,rfl⟩:=hg;simp only [gW,opsW,Q41,Q39,Tryz.f60,Option.getD_some];refine Kd.ctl hT rfl (fun _=>stepG_region_end) ?_;refine Kd.ctl hT rfl (fun _=>stepG_end) ?_;exact hk v₂ bT v₃ _ x2 hbv hbl hb rfl ⟨rfl,rfl,rfl,Tryz.f60,Tryz.func60,by simp [results,Tryz.f60]⟩
end
end
end Go.Proofs
namespace Go.Proofs
open Go Go.Conc Go.ConcN Go.RowKit Go.Conc.Lib Go.ConcR.Gen Go.ConcN.Gen Go.Vc Go.Vc.Wg Go.Vc.Ph
section
attribute [local simp] Qi QG Qp
open Go.ConcR (KK wgBlock WgAt stA smA rd wr mk Payload DC0)
noncomputable def Q2E:Code:=Tryz.f114.body.getD .skip
noncomputable def opsT:Array Oper:=match Q2E with|.region _ ops _=>ops|_=>#[]
theorem rdy (b0 b1 b2 b3 b4 b5:Bool):Region.ready .any opsT #[b0,b1,b2,b3,b4,b5,false] ≠ [] ∧
  ∀ i∈Region.ready .any opsT #[b0,b1,b2,b3,b4,b5,false],(i=0∧b0=false)∨(i=1∧b1=false)∨(i=2∧b2=false)∨(i=3∧b3=false)∨(i=4∧b4=false∧b2=true∧b3=true)∨(i=5∧b5=false∧b0=true∧b1=true)∨(i=6∧b4=true∧b5=true):=by
 simp only [opsT,Q2E,Tryz.f114,Option.getD_some];cases b0<;>cases b1<;>cases b2<;>cases b3<;>cases b4<;>cases b5<;>decide +kernel
def cnt6 (b0 b1 b2 b3 b4 b5:Bool):Nat:=(if b0 then 0 else 1)+(if b1 then 0 else 1)+(if b2 then 0 else 1)+(if b3 then 0 else 1)+(if b4 then 0 else 1)+(if b5 then 0 else 1)
def IT (s:World) (K:Nat→Nat→Value→World→Prop) (β k bA xA bEl C n cap:Nat) (fv:Value) (d:Nat) (l:Array Bool) (a:Act) (w:World):Prop :=
 ∃ b0 b1 b2 b3 b4 b5 x4 x5 x6 x7 x8 x9,l = #[b0,b1,b2,b3,b4,b5,false]∧d=cnt6 b0 b1 b2 b3 b4 b5∧a=⟨#[.int .i64 k,.pointer (some ⟨bA,xA,none⟩),.pointer (some ⟨bEl,0,none⟩),undef,x4,x5,x6,x7,x8,x9],[]⟩∧Ext1 s w∧β≤w.heap.size ∧
  (b0=true→x4 = .slice (some ⟨C,0,none⟩) n cap)∧(b1=true→x5 = .int .i64 k)∧(b2=true→x6=fv)∧(b3=true→x7 = .int .i64 k)∧(b4=true→(b2=true∧b3=true)∧K β k x8 w)∧(b5=true→(b0=true∧b1=true)∧x9 = .pointer (some ⟨C,k,none⟩))
section
variable [PS] {s:World} {K:Nat→Nat→Value→World→Prop} {β k bA xA bEl C n cap Wg bT bX fAt:Nat} {capsAt:Array Value} {f x:Value}
set_option maxRecDepth 100000 in
theorem Qa9 (hkn:k<n) (hkz:k<PS.z) (hKr:∀ {val v v'},Rly v v'→K β k val v→K β k val v') (hKs:∀ {val v},K β k val v→∃ a m c,val = .slice a m c) (hA:s.cell? ⟨bA,xA,none⟩=some (.func (.func fAt) #[] capsAt)) (hE:s.cell? ⟨bEl,0,none⟩=some (.slice (some ⟨C,0,none⟩) n cap)) (u:World) (hu:Ext1 s u) (hβ:β≤u.heap.size)
  (hat:∀ u₁,Ext1 s u₁→β≤u₁.heap.size→@Callz Tryz.prog (KdG Tryz.prog false) fAt (#[.int .i64 k]++capsAt) u₁ fun e u₂=>∃ v,e = .returned v∧Ext1 s u₂∧u₁.heap.size≤u₂.heap.size∧K β k v u₂)
  (hfA : ∃ fn, Tryz.prog.funcs[fAt]? = some fn ∧ (fn.name == "runtime.NumGoroutine") = false ∧ fn.body.isSome = true) :
  To Tryz.prog false (Q6R Tryz.prog 123 Wg C n K β k) (G (Frame.enter Tryz.prog 114 (#[.int .i64 k]++#[.pointer (some ⟨bA,xA,none⟩),.pointer (some ⟨bEl,0,none⟩)]) .normal) [frC Wg bT bX f x,botG]) u:=by
 letI:Kd Tryz.prog:=KdG Tryz.prog false
 have hT:Kd.adm Tryz.prog (To Tryz.prog false (Q6R Tryz.prog 123 Wg C n K β k)):=⟨_,rfl⟩;rw [enter_at _ Tryz.func114 (c:=Q2E) (by simp only [Q2E,Tryz.f114,Option.getD_some])];simp only [Q2E]
 walk_nrmf Tryz.f114
 refine Q83 hT (by rfl) fun w₁ r₁ t=>?_;have hu1:Ext1 s w₁.drew:=(hu.rly r₁).rly (.at (Nat.le_succ _));have hβ1:β≤w₁.drew.heap.size:=Nat.le_trans hβ r₁.size;have eR:∀ (l:Array Bool),Region.ready .any opsT l=Region.ready .any opsT l:=fun _=>rfl;refine any_last hT (ops:=opsT) (last:=6) (by decide) (IT s K β k bA xA bEl C n cap (.func (.func fAt) #[] capsAt)) ?_ ?_ ?_ ?_ 6 7 t _ _ _ (by decide) ⟨false,false,false,false,false,false,_,_,_,_,_,_,rfl,rfl,rfl,hu1,hβ1,nofun,nofun,nofun,nofun,nofun,nofun⟩
 ·rintro d l a w ⟨b0,b1,b2,b3,b4,b5,_,_,_,_,_,_,rfl,_⟩
  exact (rdy b0 b1 b2 b3 b4 b5).1
 ·rintro l a w i ⟨b0,b1,b2,b3,b4,b5,_,_,_,_,_,_,rfl,hd,_⟩ hi
  rcases (rdy b0 b1 b2 b3 b4 b5).2 i hi with ⟨rfl,rfl⟩|⟨rfl,rfl⟩|⟨rfl,rfl⟩|⟨rfl,rfl⟩|⟨rfl,rfl,_⟩|⟨rfl,rfl,_⟩|⟨rfl,_⟩<;>first|rfl|(simp [cnt6] at hd;try omega)
 ·rintro d l a w i ⟨b0,b1,b2,b3,b4,b5,x4,x5,x6,x7,x8,x9,rfl,hd,rfl,he,hb,h0,h1,h2,h3,h4,h5⟩ hi hne w₂ r₂
  have he2:=he.rly r₂;have hb2:β≤w₂.heap.size:=Nat.le_trans hb r₂.size;rcases (rdy b0 b1 b2 b3 b4 b5).2 i hi with ⟨rfl,rfl⟩|⟨rfl,rfl⟩|⟨rfl,rfl⟩|⟨rfl,rfl⟩|⟨rfl,rfl,rfl,rfl⟩|⟨rfl,rfl,rfl,rfl⟩|⟨rfl,_⟩
  ·have c1:=(Q2g (he2.old bEl (Q2K hE))).trans hE;refine Q4n (x:=.slice (some ⟨C,0,none⟩) n cap) (w':=w₂) rfl rfl (((Q2n _ _).bind fun _=>.pure _).at _) (by simp [opsT,Q2E,Tryz.f114,execOp,go_sem,Act.eval,c1]) ?_;exact ⟨true,b1,b2,b3,b4,b5,_,_,_,_,_,_,rfl,by simp [cnt6] at hd ⊢;omega,by simp [opsT,Q2E,Tryz.f114,Act.put],he2,hb2,fun _=>rfl,h1,h2,h3,fun e=>⟨(h4 e).1,hKr r₂ (h4 e).2⟩,fun e=>⟨⟨rfl,(h5 e).1.2⟩,(h5 e).2⟩⟩
  ·refine Q4n (x:=.int .i64 k) (w':=w₂) rfl rfl ((Tame.pure _).at _) (by simp [opsT,Q2E,Tryz.f114,execOp,go_sem,Act.eval]) ?_;exact ⟨b0,true,b2,b3,b4,b5,_,_,_,_,_,_,rfl,by simp [cnt6] at hd ⊢;omega,by simp [opsT,Q2E,Tryz.f114,Act.put],he2,hb2,h0,fun _=>rfl,h2,h3,fun e=>⟨(h4 e).1,hKr r₂ (h4 e).2⟩,fun e=>⟨⟨(h5 e).1.1,rfl⟩,(h5 e).2⟩⟩
  ·have c1:=(Q2g (he2.old bA (Q2K hA))).trans hA;refine Q4n (x:=.func (.func fAt) #[] capsAt) (w':=w₂) rfl rfl (((Q2n _ _).bind fun _=>.pure _).at _) (by simp [opsT,Q2E,Tryz.f114,execOp,go_sem,Act.eval,c1]) ?_;exact ⟨b0,b1,true,b3,b4,b5,_,_,_,_,_,_,rfl,by simp [cnt6] at hd ⊢;omega,by simp [opsT,Q2E,Tryz.f114,Act.put],he2,hb2,h0,h1,fun _=>rfl,h3,fun e=>⟨⟨rfl,(h4 e).1.2⟩,hKr r₂ (h4 e).2⟩,h5⟩
  ·refine Q4n (x:=.int .i64 k) (w':=w₂) rfl rfl ((Tame.pure _).at _) (by simp [opsT,Q2E,Tryz.f114,execOp,go_sem,Act.eval]) ?_;exact ⟨b0,b1,b2,true,b4,b5,_,_,_,_,_,_,rfl,by simp [cnt6] at hd ⊢;omega,by simp [opsT,Q2E,Tryz.f114,Act.put],he2,hb2,h0,h1,h2,fun _=>rfl,fun e=>⟨⟨(h4 e).1.1,rfl⟩,hKr r₂ (h4 e).2⟩,h5⟩
  ·obtain rfl:=h2 rfl;obtain rfl:=h3 rfl;obtain ⟨fn,f1,f2,f3⟩:=hfA;have hcf:=fun w=>Q1H (P:=Tryz.prog) (args:=#[.int .i64 k]++capsAt) f1 f2 f3 w;refine wpOp_call (f:=fAt) (args:=#[.int .i64 k]++capsAt) rfl rfl ?_ (by simpa [opsT,Q2E,Tryz.f114,execOp,go_sem,Act.eval] using (hcf w₂).1) ((hat w₂ he2 hb2).mono ?_)
   ·exact Q1v rfl rfl rfl ⟨fn,f1,f2,f3⟩
   rintro e u₂ ⟨v,he,hv1,hv2,hv3⟩
   refine ⟨v,he,?_⟩;exact ⟨b0,b1,true,true,true,b5,_,_,_,_,_,_,rfl,by simp [cnt6] at hd ⊢;omega,by simp [opsT,Q2E,Tryz.f114,Act.put],hv1,Nat.le_trans hb2 hv2,h0,h1,fun _=>rfl,fun _=>rfl,fun _=>⟨⟨rfl,rfl⟩,hv3⟩,h5⟩
  ·obtain rfl:=h0 rfl;obtain rfl:=h1 rfl;refine Q4n (x:=.pointer (some ⟨C,k,none⟩)) (w':=w₂) rfl rfl ?_ (by simp [opsT,Q2E,Tryz.f114,execOp,go_sem,Act.eval,hkn]) ?_
   ·exact ((Q4Q _ _ _).bind fun _=>.pure _).at _
   exact ⟨true,true,b2,b3,b4,true,_,_,_,_,_,_,rfl,by simp [cnt6] at hd ⊢;omega,by simp [opsT,Q2E,Tryz.f114,Act.put],he2,hb2,fun _=>rfl,fun _=>rfl,h2,h3,fun e=>⟨(h4 e).1,hKr r₂ (h4 e).2⟩,fun _=>⟨⟨rfl,rfl⟩,rfl⟩⟩
  exact absurd rfl hne
 rintro d l a w ⟨b0,b1,b2,b3,b4,b5,x4,x5,x6,x7,x8,x9,rfl,hd,rfl,he,hb,h0,h1,h2,h3,h4,h5⟩ hi fuel t'
 have h45:b4=true∧b5=true:=by rcases (rdy b0 b1 b2 b3 b4 b5).2 6 hi with ⟨e,_⟩|⟨e,_⟩|⟨e,_⟩|⟨e,_⟩|⟨e,_⟩|⟨e,_⟩|⟨_,e⟩<;>first|exact e|(exact absurd e (by decide))
 obtain ⟨rfl,rfl⟩:=h45;obtain ⟨⟨rfl,rfl⟩,hK⟩:=h4 rfl;obtain ⟨⟨rfl,rfl⟩,rfl⟩:=h5 rfl;obtain ⟨xa,xm,xc,rfl⟩:=hKs hK;have hnil:Region.ready .any opsT ((#[true,true,true,true,true,true,false]:Array Bool).setIfInBounds 6 true)=[]:=by
  simp only [opsT,Q2E,Tryz.f114,Option.getD_some];decide +kernel
 rw [Q6w hnil];refine To.stop fun v₁ r₁=>⟨rfl,⟨hkn,hkz⟩,.slice xa xm xc,G ((base 114).at ⟨#[.int .i64 k,.pointer (some ⟨bA,xA,none⟩),.pointer (some ⟨bEl,0,none⟩),undef,x4,x5,x6,x7,.slice xa xm xc,.pointer (some ⟨C,k,none⟩)],[]⟩ [.inRegion opsT []]) [frC Wg bT bX f x,botG],hKr r₁ hK,fun w' U hp=>?_,fun w' hl hh=>⟨43,?_⟩⟩
 ·obtain ⟨cs,hc1,hc2⟩:=hp;have hkc:k<cs.size:=by omega
  have h1:w'.cell? ⟨C,k,none⟩=some cs[k]:=by simp [World.cell?,hc1,hkc]
  have h2:w'.frozen? ⟨C,k,none⟩=false:=by simp [World.frozen?,hc1]
  rw [stepG_none (w':=w'.setCell ⟨C,k,none⟩ (.slice xa xm xc)) rfl rfl (by decide) (by simp [opsT,Q2E,Tryz.f114,execOp,go_sem,Act.eval,stored,h1,h2])];have hev:=events_store Tryz.prog w' #[] ⟨C,k,none⟩ (.slice xa xm xc) .plain rfl;simp [opsT,Q2E,Tryz.f114,Tryz.func114,Go.Conc.base,listed,execOp,go_sem,Act.eval,seen,stored,hev,storedEv,h1,h2]
 have hK':WgLive 123 Wg w'∧Has C k (.slice xa xm xc) w':=⟨hl,hh⟩
 u_c stepG_region_end kn_rely hK'
 u_c stepG_end kn_rely hK'
 u_in kn_rely hK'
 refine goes_leave0 rfl rfl Tryz.func114 rfl ⟨by u_nil,?_⟩;exact Qag _ hK'
end
end
end Go.Proofs
namespace Go.Vc.T
open Go Go.Vc Go.Vc.Wg Go.Vc.Ph Go.Proofs
section
attribute [local simp] Qi QG Qp Q1r QR
open Go.ConcR (Payload)
theorem KA_slice {A:Nat→AV} {β k:Nat} {val:Value} {v:World} {sz:Nat} {es:List (List AV)} (hA:A k = .lst true sz es) (h:KA A β k val v):∃ a m c,val = .slice a m c:=by
 obtain ⟨o,_,h⟩:=h;rw [hA] at h;cases h with
 | nil=>exact ⟨_,_,_,rfl⟩
 | own=>exact ⟨_,_,_,rfl⟩
theorem pair_eq {vals:Array Value} {a b:Value} (h:vals.size=2) (h0:vals.getD 0 undef=a) (h1:vals.getD 1 undef=b):vals = #[a,b]:=by
 obtain ⟨l⟩:=vals;rcases l with _|⟨x,_|⟨y,_|⟨z,l⟩⟩⟩<;>simp_all
theorem eoTuples {W0:World} {S0:Nat→Prop} {Post:Value→World→Prop} {H:List (Nat × Ent)} {nn n e Ln X:Nat} {c0:AV} {bs:List AV} {es0:List (List AV)} {A:Nat→AV}
  (hH:∀ p∈H,p.1<nn) (he:look e H=some (.mix 1 [[.own Ln 0 n]])) (hL:look Ln H=some (.row 1 es0)) (hlen:es0.length=n) (hn:n≤1073741824) (hal:∀ p∈H,Q5V p.2=false)
  (hc : PurTo (fun id => look id (delH Ln H)) c0 (.rptr [.fn X bs])) (hm : ∀ a ∈ bs, NoM a) (hX : ∃ fn, Tryz.prog.funcs[X]? = some fn ∧ (fn.name == "runtime.NumGoroutine") = false ∧ fn.body.isSome = true)
  (hcon:∀ k,k<n→∃ sz es,A k = .lst true sz es∧@Contract Tryz.prog (KdG Tryz.prog false) X (iV k :: bs) (A k)) :
  @ICon Tryz.prog (KdM Tryz.prog W0 S0 Post) 60 [iV n,.fn 114 [c0,.adr e 0 0]] (fun id=>look id H) nn { v:=.tup [],set:=[(Ln,.row 1 (Q51 n A))] }:=by
 letI:Kd Tryz.prog:=KdM Tryz.prog W0 S0 Post
 have helt:e<nn:=hH _ (Ql he);have hLlt:Ln<nn:=hH _ (Ql hL);have hne:e ≠ Ln:=fun q=>by rw [q,hL] at he;cases he
 refine ⟨⟨_,Tryz.func60,rfl,by simp [Tryz.f60]⟩,fun _=>fineI ⟨by simp,by simp,by simp,by simp,by simpa using hLlt⟩,fun C v g h' vals hag hnew hlim W HH hsz hargs=>?_⟩;intro cs T hT kk;obtain rfl:T=TM Tryz.prog W0 S0 Post:=hT;have a0:=hargs 0 (by simp);have a1:=hargs 1 (by simp);simp only [List.getD_cons_zero,List.getD_cons_succ] at a0 a1;obtain ⟨v0,_⟩:=a0.val_eq;obtain ⟨caps,v1,hcs,hcr⟩:=a1.fn_eq;have hvals:=pair_eq (by simpa using hsz) v0 v1;subst hvals;have c0r:=hcr 0 (by simp);have c1r:=hcr 1 (by simp);simp only [List.getD_cons_zero,List.getD_cons_succ] at c0r c1r;have hlk:∀ id x,look id H=some x→h' id=some x:=fun id x hx=>(hag id (hH _ (Ql hx))).trans hx;have hlim':∀ id bk,g.ρ id=some bk→h' id=look id H:=fun id bk hb=>hag id (hlim id bk hb);have hali:∀ id bk,g.ρ id=some bk→∀ c i k s,h' id ≠ some (.ali c i k s):=fun id bk hb c i k s hx=>by
  rw [hlim' id bk hb] at hx;have:=hal _ (Ql hx);cases this
 have HL:HRel v ⟨g.R,Q74 g.o Ln,g.ρ⟩ (fun id=>look id (delH Ln H)):=by
  have hsub:∀ id x,look id (delH Ln H)=some x→id ≠ Ln∧look id H=some x:=fun id x hx=>by
   rw [Q7k] at hx;split at hx
   ·cases hx
   exact ⟨by assumption,hx⟩
  exact HH.less (fun id x hx=>⟨(hsub id x hx).1,hlk id x (hsub id x hx).2⟩) fun id c i k s hx=>by
   have:=hal _ (Ql (hsub id _ hx).2);cases this
 have P0:=(Q5w HL hc c0r).2 (fun _ q=>by cases q);obtain ⟨bE,bsz,bcap,hρe,c1v⟩:=c1r.adr_eq;obtain ⟨bE',curE,elE,usE,cpE,hbkE,hoE,hhE,_,_,_,_,hcurE,_,hxrE⟩:=(HH.mix e 1 _ _ (hlk _ _ he) hρe).ex (by simp);simp only [Bk.mk.injEq,Option.some.injEq] at hbkE;obtain ⟨rfl,rfl,_⟩:=hbkE;have hx0:=hxrE 0 0 (by simp) (by simp);have hc0:=hcurE 0 0 (by simp) (by simp);simp only [List.getD_cons_zero] at hx0;generalize usE 0 0=xE at hx0 hc0;generalize hq1:caps.getD 1 undef=q1 at c1v;subst c1v;generalize hq0:caps.getD 0 undef=q0 at P0;clear c0r c1r a0 a1;cases P0 with
 | @rptr _ bA xA curA elA frA usA hRA hhA hcA _ hrA =>
  have hA0:=hcA 0 (by simp);have hrA0:=hrA 0 (by simp);simp only [List.getD_cons_zero,Nat.add_zero] at hA0 hrA0;generalize usA 0=xf at hA0 hrA0;cases hrA0 with
  | @fn _ cs2 _ hcs2 hr2 =>
   have hcaps:=pair_eq (by simpa using hcs) hq0 hq1;subst hcaps;have hRlt:∀ b,RAll ⟨g.R,Q74 g.o Ln,g.ρ⟩ b→b<v.heap.size∧∀ L,g.o b=some L→∀ M,L ≠ Ln :: M:=fun b hb=>by
    rcases hb with hb|⟨L,hb⟩
    ·exact ⟨(W.R b hb).1,fun L hL2=>by rw [(W.R b hb).2] at hL2;cases hL2⟩
    obtain ⟨h1,h2⟩:=Q9p hb;exact ⟨(W.o b L h1).1,fun L' hL' M=>by rw [h1] at hL';cases hL';exact h2 M⟩
   rcases hx0.own_eq with ⟨s0,cp0,hρ0,rfl,_,rfl⟩|⟨C0,szL,cap,cc,x0,hρL,rfl,k1,k2,k3,k4,k5⟩
   ·
    letI:PS:={ ety:=87,z:=1 }
    refine eoCall (C:=fun bT=>bT) (n:=0) (K:=KA A) (fT:=114) (by decide) (fun β k val v v' r h=>KA.rly r h) v (fun v₁ bT XE hb hbT=>⟨⟨_,hbT,rfl⟩,fun h0=>absurd h0 (by decide)⟩) ⟨_,Tryz.func114,rfl,by simp [Tryz.f114]⟩ (fun v₁ bT XE k hk=>absurd hk (Nat.not_lt_zero k)) fun v₁ bT v₂ fr XE hb1 hb2 B hfr hl=>?_;have X2:Ext0 v v₂:=⟨Nat.le_trans XE.size (Nat.le_of_lt B.size),fun b hb=>(B.old b (Nat.lt_of_lt_of_le hb XE.size) (by omega)).trans (XE.old b hb),B.rest.1.trans XE.rest.1,B.rest.2.1.trans XE.rest.2.1,B.rest.2.2.1.trans XE.rest.2.2.1,Nat.le_trans XE.rest.2.2.2 B.rest.2.2.2⟩;obtain ⟨W2,H2⟩:=grown_rel W HH X2;have hes:es0=[]:=List.eq_nil_of_length_eq_zero hlen;have hh2:happ { v:=.tup [],set:=[(Ln,.row 1 (Q51 0 A))] } h'=h':=by
     funext id
     simp only [happ,look];split
     ·rename_i x hx;split at hx
      ·rename_i e1;cases hx;rw [← e1,hlk Ln _ hL,hes];rfl
      cases hx
     simp
    exact kk (.tuple #[]) v₂ fr ⟨_,g.R,g.o,g.ρ,rfl,RX.refl,W2,by rw [hh2];exact H2,fun _ _ h=>h,fun _ _ h=>.inl h,.tup rfl (fun k hk=>by simp at hk),fun b hb=>X2.old b (W.R b hb).1⟩ hfr hl
   obtain ⟨vL,htL,hhdL⟩:=HH.row Ln 1 es0 _ (hlk _ _ hL) hρL;cases hhdL;cases htL with
   | @own _ _ _ _ _ curC eC usC hoC hhC hszC hleC hcmC _ _ _ _ =>
    obtain rfl:x0=0:=k4 rfl;have hbEC:bE ≠ C0:=fun q=>by rw [q,hoC] at hoE;simp at hoE;exact hne hoE.symm
    have hClt:C0<v.heap.size:=(Array.getElem?_eq_some_iff.1 hhC).1;have hElt:bE<v.heap.size:=(Array.getElem?_eq_some_iff.1 hhE).1
    letI:PS:={ ety:=eC,z:=curC.size }
    refine eoCall (C:=fun _=>C0) (n:=n) (K:=KA A) (fT:=114) (by omega) (fun β k val v v' r h=>KA.rly r h) v (fun v₁ bT XE hb hbT=>⟨⟨curC,(XE.old C0 hClt).trans hhC,rfl⟩,fun _=>by omega⟩) ⟨_,Tryz.func114,rfl,by simp [Tryz.f114]⟩ (fun v₁ bT XE k hk β u bX h1 h2 h3=>?_) fun v₁ bT v₂ fr XE hb1 hb2 B hfr hl=>?_
    ·obtain ⟨szA,esA,hAk,hCon⟩:=hcon k hk;have hCl1:C0<v₁.heap.size:=Nat.lt_of_lt_of_le hClt XE.size;have hstart:Ext0 (Go.Vc.Ph.start v₁ C0) (Go.Vc.Ph.start v₁ C0):=⟨Nat.le_refl _,fun _ _=>rfl,rfl,rfl,rfl,Nat.le_refl _⟩;have hAC:bA ≠ C0:=fun q=>(hRlt bA hRA).2 _ (q ▸ hoC) [] rfl;obtain ⟨fA,hsA⟩:=Q5L XE hstart hCl1 (hRlt bA hRA).1 hAC _ _ _ hhA;obtain ⟨fE,hsE⟩:=Q5L XE hstart hCl1 hElt hbEC _ _ _ hhE;have hwk:=Qa9 (s:=Go.Vc.Ph.start v₁ C0) (K:=KA A) (β:=β) (k:=k) (bA:=bA) (xA:=xA) (bEl:=bE) (C:=C0) (n:=n) (cap:=cc) (Wg:=v₁.heap.size) (bT:=bT) (bX:=bX) (fAt:=X) (capsAt:=cs2) (f:=.func (.func 114) #[] #[.pointer (some ⟨bA,xA,none⟩),.pointer (some ⟨bE,0,none⟩)]) (x:=.int .i64 k) hk
      (by show k<curC.size;omega) (fun r h=>KA.rly r h) (fun h=>KA_slice hAk h) ((QX hsA).trans hA0) ((QX hsE).trans hc0) u h3 h2 (fun u₁ E hβ=>?_) hX
     ·simpa using hwk
     letI:Kd Tryz.prog:=KdG Tryz.prog false
     refine Callz.mono (hCon.calls u₁ (RAll ⟨g.R,Q74 g.o Ln,g.ρ⟩) (#[Value.int .i64 k]++cs2) (fun b hb=>?_) (by simp;omega) (fun i hi=>?_)) ?_
     ·have h5:=(hRlt b hb).1;have h6:=XE.size;have h7:=E.size;rw [Q2Q] at h7;omega
     ·cases i with
      | zero =>
       refine .r ?_;have:((#[Value.int .i64 k]++cs2).getD 0 undef) = .int .i64 k:=(by simp [Array.getElem?_append]);rw [this];refine .val ?_;show IntKind.i64.min≤(k:Int)∧(k:Int)≤IntKind.i64.max;have e1:IntKind.i64.min = -9223372036854775808:=(by decide);have e2:IntKind.i64.max=9223372036854775807:=(by decide);rw [e1,e2];omega
      | succ i =>
       refine .r ?_;have hi':i<bs.length:=(by simpa using hi);have:((#[Value.int .i64 k]++cs2).getD (i+1) undef)=cs2.getD i undef:=(by simp [Array.getElem?_append]);rw [this,List.getD_cons_succ];exact (hr2 i hi').view (fun b hb=>⟨hb,Q5L XE E hCl1 (hRlt b hb).1 fun q=>(hRlt b hb).2 _ (q ▸ hoC) [] rfl⟩) (hm _ (Q1Y hi'))
     rintro ex u₂ ⟨y,o,hy,hb,ho,hr⟩
     rw [hAk] at hr;exact ⟨y,hy,E.blw hb,hb.size,KA.of hAk hβ ho hr⟩
    obtain ⟨o',W2,H2,hR2⟩:=Q7M W HH XE B (hlk _ _ hL) hlen hρL hali (by show cap≤curC.size;omega) (by omega) hcmC hoC { v:=.tup [],set:=[(Ln,.row 1 (Q51 n A))] } rfl rfl;exact kk (.tuple #[]) v₂ fr ⟨_,g.R,o',g.ρ,rfl,RX.refl,W2,H2,fun _ _ h=>h,fun _ _ h=>.inl h,.tup rfl (fun k hk=>by simp at hk),hR2⟩ hfr hl
end
end Go.Vc.T
namespace Go.Vc.T
open Go Go.Vc Go.Proofs
section
attribute [local simp] Qi QG Qp Q1r QR
def eM (x:List (ByteArray × Int)):List AV:=[.cmap .str (Msi x)]
@[simp] theorem rlLL_eM (m:List (Nat × Nat)) (xs:List (List (ByteArray × Int))):rlLL m (Es eM xs)=Es eM xs:=rlLL_Es m eM xs fun _=>rfl
def eoF {α:Type} (f:Int→Option α):Nat→Option (List α)
 | 0=>some []
 | n+1=>(eoF f n).bind fun r=>(f n).map fun y=>r++[y]
theorem eoF_get {α:Type} (d:α) {f:Int→Option α}:∀ {n:Nat} {r:List α},eoF f n=some r→r.length=n∧∀ k,k<n→f k=some (r.getD k d):=by
 intro n
 induction n with
 | zero=>intro r h;simp only [eoF,Option.some.injEq] at h;subst h;exact ⟨rfl,fun k hk=>absurd hk (Nat.not_lt_zero k)⟩
 | succ n ih =>
  intro r h;obtain ⟨r0,h1,h2⟩:=Option.bind_eq_some_iff.1 h;obtain ⟨y,h3,rfl⟩:=Option.map_eq_some_iff.1 h2;obtain ⟨e1,e2⟩:=ih h1;refine ⟨by simp [e1],fun k hk=>?_⟩
  by_cases hkn:k<n
  ·rw [e2 k hkn];simp [List.getD_eq_getElem?_getD,List.getElem?_append,e1,hkn]
  have:k=n:=by omega
  subst this;rw [h3];simp [List.getD_eq_getElem?_getD,List.getElem?_append,e1]
theorem rows_L {r:List (List (List Int))} {n:Nat} (h:r.length=n):Q51 n (fun k=>.lst true 1 (Ls (r.getD k [])))=Es eL r:=by
 subst h;apply List.ext_getElem?;intro i;simp only [Q51,Es,eL,List.getElem?_map,List.getElem?_range]
 by_cases hi:i<r.length
 ·simp [hi,List.getD_eq_getElem?_getD,eL]
 simp [hi]
section
variable {α:Type} {u:Bool}
@[simp] theorem nom_val {v:Value}:NoM (.val v):=.val
theorem nom_Es {sz:Nat} {c:α→List AV} (h:∀ x,∀ y∈c x,NoM y) (xs:List α):NoM (.lst u sz (xs.map c)):=.lst fun e he y hy=>by
 obtain ⟨x,_,rfl⟩:=List.mem_map.1 he;exact h x y hy
@[simp] theorem nom_Is {sz:Nat} (xs:List Int):NoM (.lst u sz (Is xs)):=nom_Es (by simp) xs
@[simp] theorem nom_Ls {sz:Nat} (xs:List (List Int)):NoM (.lst u sz (Ls xs)):=nom_Es (by simp) xs
@[simp] theorem nom_rptr {cs:List AV}:NoM (.rptr cs)↔∀ c∈cs,NoM c:=⟨fun h=>by cases h;assumption,.rptr⟩
end
theorem eoT [Kd Tryz.prog] [Eo Tryz.prog] {H:List (Nat × Ent)} {nn e Ln X m:Nat} {n:Int} {c0:AV} {bs:List AV} {es0:List (List AV)} {f:Int→Option (List (List Int))} {r:List (List (List Int))} (hr:eoF f n.toNat=some r) (hn:0≤n∧n≤1073741824)
  (hcon : ∀ (k : Int) y, f k = some y → @Contract Tryz.prog (KdG Tryz.prog false) X (iV k :: bs) (.lst true 1 (Ls y))) (hX : ∃ fn, Tryz.prog.funcs[X]? = some fn ∧ (fn.name == "runtime.NumGoroutine") = false ∧ fn.body.isSome = true)
  (hc:PurTo (fun id=>look id (delH Ln H)) c0 (.rptr [.fn X bs])) (hm:∀ a∈bs,NoM a) (hH:∀ p∈H,p.1<nn) (he:look e H=some (.mix 1 [[.own Ln 0 m]])) (hL:look Ln H=some (.row 1 es0)) (hlen:es0.length=n.toNat) (hmm:m=n.toNat)
  (hal:∀ p∈H,Q5V p.2=false):ICon Tryz.prog 60 [iV n,.fn 114 [c0,.adr e 0 0]] (fun id=>look id H) nn { v:=.tup [],set:=[(Ln,.row 1 (Es eL r))] }:=by
 rename_i i1 i2;obtain ⟨W0,S0,Post,hi⟩:=i2.isM;subst hi hmm;obtain ⟨g1,g2⟩:=eoF_get [] hr;have e1:(n.toNat:Int)=n:=Int.toNat_of_nonneg hn.1;have:=eoTuples (W0:=W0) (S0:=S0) (Post:=Post) (A:=fun k=>.lst true 1 (Ls (r.getD k []))) hH he hL hlen (by omega) hal hc hm hX fun k hk=>⟨1,Ls (r.getD k []),rfl,hcon k _ (g2 k hk)⟩;rw [rows_L g1,e1] at this;exact this
end
end Go.Vc.T
namespace Go.Vc.T
open Go Go.Vc Go.Proofs
section
attribute [local simp] Qi QG Qp Q1r QR
def Qm (x:Cat):List AV:=[.rptr (x.cells true)]
def Qf (x:SF):List AV:=[.rptr (x.cells true)]
def Qu (x:SM):List AV:=[.rptr (x.cells true)]
instance:Inhabited Cat:=⟨⟨0,[],[],[],[]⟩⟩
instance:Inhabited SF:=⟨⟨default,[],[]⟩⟩
instance:Inhabited SM:=⟨⟨default,default,[]⟩⟩
structure Ends where
 a:Int
 b:Int
def Ends.cells (u:Bool) (f:Ends):List AV:=[iV f.a,iV f.b]
structure XPart where
 members_:List (List Int)
def XPart.cells (u:Bool) (f:XPart):List AV:=[.lst u 1 (Ls f.members_)]
end
end Go.Vc.T
namespace Go.Vc.T
open Go Go.Vc Go.Proofs
section
attribute [local simp] Qi QG Qp Q1r QR
@[simp] theorem bf_175_9:byS Tryz.prog 175 9=some 5:=by kernel_rfl
@[simp] theorem ef_23:elm Tryz.prog 23=some 22:=by kernel_rfl
@[simp] theorem ef_99:elm Tryz.prog 99=some 23:=by kernel_rfl
@[simp] theorem ef_141:elm Tryz.prog 141=some 142:=by kernel_rfl
@[simp] theorem ef_175:elm Tryz.prog 175=some 5:=by kernel_rfl
@[simp] theorem ff_25_0:fld Tryz.prog 25 0=some (0,1,false):=by kernel_rfl
@[simp] theorem ff_25_1:fld Tryz.prog 25 1=some (1,1,false):=by kernel_rfl
@[simp] theorem ff_25_2:fld Tryz.prog 25 2=some (2,1,false):=by kernel_rfl
@[simp] theorem ff_25_3:fld Tryz.prog 25 3=some (3,1,false):=by kernel_rfl
@[simp] theorem ff_25_4:fld Tryz.prog 25 4=some (4,1,false):=by kernel_rfl
@[simp] theorem ff_29_0:fld Tryz.prog 29 0=some (0,1,false):=by kernel_rfl
@[simp] theorem ff_32_0:fld Tryz.prog 32 0=some (0,1,false):=by kernel_rfl
@[simp] theorem ff_32_1:fld Tryz.prog 32 1=some (1,1,false):=by kernel_rfl
@[simp] theorem ff_32_2:fld Tryz.prog 32 2=some (2,1,false):=by kernel_rfl
@[simp] theorem ff_32_3:fld Tryz.prog 32 3=some (3,1,false):=by kernel_rfl
@[simp] theorem ff_32_4:fld Tryz.prog 32 4=some (4,1,false):=by kernel_rfl
@[simp] theorem ff_34_0:fld Tryz.prog 34 0=some (0,5,true):=by kernel_rfl
@[simp] theorem ff_34_1:fld Tryz.prog 34 1=some (5,1,false):=by kernel_rfl
@[simp] theorem ff_34_2:fld Tryz.prog 34 2=some (6,1,false):=by kernel_rfl
@[simp] theorem ff_38_0:fld Tryz.prog 38 0=some (0,1,false):=by kernel_rfl
@[simp] theorem ff_52_0:fld Tryz.prog 52 0=some (0,7,true):=by kernel_rfl
@[simp] theorem ff_52_1:fld Tryz.prog 52 1=some (7,7,true):=by kernel_rfl
@[simp] theorem ff_52_2:fld Tryz.prog 52 2=some (14,1,false):=by kernel_rfl
@[simp] theorem kf_2:intk Tryz.prog 2=some .i64:=by kernel_rfl
@[simp] theorem kf_5:intk Tryz.prog 5=some .u8:=by kernel_rfl
@[simp] theorem mf_142:mty Tryz.prog 142=some (.str,.int .i64 0):=by kernel_rfl
@[simp] theorem tf_5:tyi Tryz.prog 5=some ⟨false,1,1,[.int .u8 0]⟩:=by kernel_rfl
@[simp] theorem tf_22:tyi Tryz.prog 22=some ⟨false,1,24,[.slice none 0 0]⟩:=by kernel_rfl
@[simp] theorem tf_23:tyi Tryz.prog 23=some ⟨false,1,24,[.slice none 0 0]⟩:=by kernel_rfl
@[simp] theorem tf_34:tyi Tryz.prog 34=some ⟨true,7,152,[.int .i64 0,.slice none 0 0,.slice none 0 0,.slice none 0 0,.slice none 0 0,.slice none 0 0,.slice none 0 0]⟩:=by kernel_rfl
@[simp] theorem Q6M:tyi Tryz.prog 52=some ⟨true,15,328,[.int .i64 0,.slice none 0 0,.slice none 0 0,.slice none 0 0,.slice none 0 0,.slice none 0 0,.slice none 0 0,.int .i64 0,.slice none 0 0,.slice none 0 0,.slice none 0 0,.slice none 0 0,.slice none 0 0,.slice none 0 0,.slice none 0 0]⟩:=by kernel_rfl
@[simp] theorem tf_99:tyi Tryz.prog 99=some ⟨false,1,24,[.slice none 0 0]⟩:=by kernel_rfl
@[simp] theorem tf_142:tyi Tryz.prog 142=some ⟨false,1,8,[.map none]⟩:=by kernel_rfl
end
end Go.Vc.T
namespace Go.Vc.T
open Go Go.Vc Go.Proofs
section
attribute [local simp] Qi QG Qp Q1r QR
noncomputable def Q3u (xs:List Int) (n:Int):Option (Bool) :=
 ass (B64 (n - 1)) <| some ((xs.all (inR n)))
theorem Qae [Kd Tryz.prog] (xs:List Int) (n:Int) (r:Bool) (h:Q3u xs n=some r):Contract Tryz.prog 131 [lI xs,iV n] (.val (.bool r)):=by
 unfold Q3u at h;replace ⟨hn,h⟩:=Q8 h;cases h;exact c22 true xs n hn
noncomputable def Q33 (xs:List (List Int)):Option (List (List Int)) :=
 ass (xs.length≤1048576) <| ass (∀ x∈xs,x.length≤1048576) <| some (xs)
theorem Q8x [Kd Tryz.prog] (xs:List (List Int)) (r:List (List Int)) (h:Q33 xs=some r):Contract Tryz.prog 43 [.lst true 1 (Ls xs)] (.lst true 1 (Ls r)):=by
 unfold Q33 at h;replace ⟨hx,h⟩:=Q8 h;replace ⟨hx',h⟩:=Q8 h;cases h;exact c59 true xs hx hx'
noncomputable def Q3s (xs:List (List Int)):Option (List (List Int)) :=
 ass (xs.length≤1048576) <| ass (∀ x∈xs,x.length≤1048576) <| some (xs)
theorem Qaa [Kd Tryz.prog] (xs:List (List Int)) (r:List (List Int)) (h:Q3s xs=some r):Contract Tryz.prog 123 [.lst true 1 (Ls xs)] (.lst true 1 (Ls r)):=by
 unfold Q3s at h;replace ⟨hx,h⟩:=Q8 h;replace ⟨hx',h⟩:=Q8 h;cases h;exact c48 true xs hx hx'
noncomputable def Q3v (c:Cat):Option (Cat) :=
 ass (c.ok) <| some (c)
theorem Qaf [Kd Tryz.prog] (c:Cat) (r:Cat) (h:Q3v c=some r):Contract Tryz.prog 87 [.agg (c.cells true)] (.agg (r.cells true)):=by
 unfold Q3v at h;replace ⟨hc,h⟩:=Q8 h;cases h;exact c41 true c hc
noncomputable def Q17 (c:Cat):Option (Cat) :=
 ass (c.ok) <| some (c)
theorem Q4C [Kd Tryz.prog] (c:Cat) (r:Cat) (h:Q17 c=some r):Contract Tryz.prog 102 [.rptr (c.cells true)] (.agg (r.cells true)):=by
 unfold Q17 at h;replace ⟨hc,h⟩:=Q8 h;cases h;have q:=c23 true c [] hc;simp only [List.append_nil] at q;exact q
noncomputable def Q1R (c:SF) (d:SF):Option (Bool) :=
 some ((bo (c=d)))
theorem Q3V [Kd Tryz.prog] (c:SF) (d:SF) (r:Bool) (h:Q1R c d=some r):Contract Tryz.prog 92 [.agg (c.cells true),.agg (d.cells true)] (.val (.bool r)):=by
 unfold Q1R at h;cases h;exact n20 true true c d
noncomputable def Q21 (m:SM):Option (Bool) :=
 some ((bo m.Is))
theorem Q4U [Kd Tryz.prog] (m:SM) (r:Bool) (h:Q21 m=some r):Contract Tryz.prog 65 [.agg (m.cells true)] (.val (.bool r)):=by
 unfold Q21 at h;cases h;exact n19 true m
noncomputable def Q2P (f:SF):Option (SF) :=
 ass (f.ok) <| some (f)
theorem Q6m [Kd Tryz.prog] (f:SF) (r:SF) (h:Q2P f=some r):Contract Tryz.prog 119 [.agg (f.cells true)] (.agg (r.cells true)):=by
 unfold Q2P at h;replace ⟨hf,h⟩:=Q8 h;cases h;exact n56 true f hf
noncomputable def QT (f:SF):Option (SF) :=
 ass (f.ok) <| some (f)
theorem Q2p [Kd Tryz.prog] (f:SF) (r:SF) (h:QT f=some r):Contract Tryz.prog 122 [.rptr (f.cells true)] (.agg (r.cells true)):=by
 unfold QT at h;replace ⟨hf,h⟩:=Q8 h;cases h;have q:=n63 true f [] hf;simp only [List.append_nil] at q;exact q
noncomputable def Q2v (f:SF) (g:SF):Option (Bool) :=
 ass (f.s.cs.length≤1048576) <| ass (f.ac.length≤1048576) <| some ((bo (f=g)))
theorem Q7I [Kd Tryz.prog] (f:SF) (g:SF) (r:Bool) (h:Q2v f g=some r):Contract Tryz.prog 77 [.rptr (f.cells true),.rptr (g.cells true)] (.val (.bool r)):=by
 unfold Q2v at h;replace ⟨hl,h⟩:=Q8 h;replace ⟨hl2,h⟩:=Q8 h;cases h;have q:=n26 true true f g [] [] hl hl2;simp only [List.append_nil] at q;exact q
noncomputable def Q1V (fs:List SM):Option (Bool) :=
 ass (fs.length≤1048576) <| some ((bo (∀ f∈fs,f.Is)))
theorem Q62 [Kd Tryz.prog] (fs:List SM) (r:Bool) (h:Q1V fs=some r):Contract Tryz.prog 76 [.lst true 1 (Es Qu fs)] (.val (.bool r)):=by
 unfold Q1V at h;replace ⟨hl,h⟩:=Q8 h;cases h;exact n25 true true fs hl
end
end Go.Vc.T
namespace Go.Vc.T
open Go Go.Vc Go.Proofs
section
attribute [local simp] Qi QG Qp Q1r QR
@[simp] theorem ass_true {α:Type} {k:Option α}:ass True k=k:=Q9 trivial
theorem bo_tt (p:Prop):(bo p=true)=p:=by simp [bo]
theorem Q4E {p:Prop} (h:p):bo p=true:=by simp [bo,h]
theorem Q6V {p:Prop} (h:¬ p):bo p=false:=by simp [bo,h]
theorem loop_go {σ ε:Type} {body:σ→Option (Ctl σ ε)} (g:Nat→σ) (m:Nat):∀ (k:Nat),m≤k→(∀ i,i<m→body (g i)=some (.next (g (i+1))))→Q11 body k (g 0)=Q11 body (k - m) (g m):=by
 induction m with
 | zero=>intro k _ _;rfl
 | succ m ih =>
  intro k hk h;rw [ih k (by omega) fun i hi=>h i (by omega)];obtain ⟨j,hj⟩:∃ j,k - m=j+1:=⟨k - m - 1,by omega⟩;rw [hj,show k - (m+1)=j by omega];simp only [Q11,h m (by omega)]
theorem Q57 {σ ε:Type} {body:σ→Option (Ctl σ ε)} (g:Nat→σ) (n:Nat) {e:ε} {s0:σ} (h0:s0=g 0) (hn:n<4611686018427387904) (h:∀ i,i<n→body (g i)=some (.next (g (i+1)))) (he:body (g n)=some (.ret e)):Q11 body fuel s0=some e:=by
 subst h0;rw [loop_go g n fuel (by unfold fuel;omega) h];obtain ⟨j,hj⟩:∃ j,fuel - n=j+1:=⟨fuel - n - 1,by unfold fuel;omega⟩;rw [hj];simp only [Q11,he]
theorem loop_fst {ε:Type} {body:Int→Option (Ctl Int ε)} (n:Nat) (p:Nat→Prop) {eb:Nat→ε} {eg:ε} (hn:n<4611686018427387904) (h1:∀ i:Nat,i<n→p i→body (i:Int)=some (.next ((i:Int)+1))) (h2:∀ i:Nat,i<n→¬ p i→body (i:Int)=some (.ret (eb i))) (h3:body (n:Int)=some (.ret eg)) :
  ((∀ i:Nat,i<n→p i)∧Q11 body fuel 0=some eg)∨∃ m,m<n∧¬ p m∧(∀ k,k<m→p k)∧Q11 body fuel 0=some (eb m):=by
 by_cases hall:∀ i:Nat,i<n→p i
 ·exact .inl ⟨hall,Q57 (fun i:Nat=>(i:Int)) n rfl hn (fun i hi=>h1 i hi (hall i hi)) h3⟩
 right;have hex:∃ i,i<n∧¬ p i:=Classical.byContradiction fun hx=>hall fun i hi=>Classical.byContradiction fun hp=>hx ⟨i,hi,hp⟩;obtain ⟨m,⟨hm,hp⟩,hmin⟩:∃ m,(m<n∧¬ p m)∧∀ k,k<m→¬ (k<n∧¬ p k):=by
  obtain ⟨i,hi⟩:=hex
  induction i using Nat.strongRecOn with
  | _ i ih =>
   by_cases h:∃ k,k<i∧k<n∧¬ p k
   ·obtain ⟨k,h1,h2⟩:=h;exact ih k h1 h2
   exact ⟨i,hi,fun k hk hh=>h ⟨k,hk,hh⟩⟩
 have hlt:∀ k,k<m→p k:=fun k hk=>Classical.byContradiction fun hh=>hmin k hk ⟨by omega,hh⟩;exact ⟨m,hm,hp,hlt,Q57 (fun i:Nat=>(i:Int)) m rfl (by omega) (fun i hi=>h1 i (by omega) (hlt i hi)) (h2 m hm hp)⟩
theorem loop_acc {α ε:Type} {body:α × Int→Option (Ctl (α × Int) ε)} (g:Nat→α) (n:Nat) {e:ε} {a0:α} (h0:a0=g 0) (hn:n<4611686018427387904) (h:∀ i:Nat,i<n→body (g i,(i:Int))=some (.next (g (i+1),(i:Int)+1))) (he:body (g n,(n:Int))=some (.ret e)):Q11 body fuel (a0,0)=some e:=by
 subst h0;exact Q57 (fun i:Nat=>(g i,(i:Int))) n rfl hn h he
theorem Q15 {α ε β:Type} {body:α × Int→Option (Ctl (α × Int) ε)} {K:ε→Option β} {r:Option β} {a0:α} (n:Nat) (g:Nat→α) {e:ε} (h0:a0=g 0) (hn:n<4611686018427387904) (h:∀ i:Nat,i<n→body (g i,(i:Int))=some (.next (g (i+1),(i:Int)+1))) (he:body (g n,(n:Int))=some (.ret e)) (hk:K e=r):(Q11 body fuel (a0,0)).bind K=r:=by
 rw [loop_acc g n h0 hn h he];exact hk
end
end Go.Vc.T
namespace Go.Vc.T
open Go Go.Vc Go.Proofs
section
attribute [local simp] Qi QG Qp Q1r QR
structure Fn.Is (f:Fn):Prop where
 s:f.s.Is
 t:f.t.Is
 lo:(f.ob.length:Int)=f.s.n
 la:f.ar.length=f.s.fr.length
 ob:∀ j:Nat,j<f.ob.length→0≤ix f.ob j∧ix f.ob j<f.t.n
 ar:∀ j:Nat,j<f.ar.length→0≤ix f.ar j∧ix f.ar j<f.t.fr.length
 ends:∀ a:Nat,a<f.s.fr.length→ix f.t.fr (ix f.ar a)=ix f.ob (ix f.s.fr a)∧ix f.t.to (ix f.ar a)=ix f.ob (ix f.s.to a)
 ids:∀ x:Nat,x<f.s.id.length→ix f.ar (ix f.s.id x)=ix f.t.id (ix f.ob x)
 comp:∀ a:Nat,a<f.s.fr.length→∀ b:Nat,b<f.s.fr.length→ix f.s.to a=ix f.s.fr b→ix f.ar (ix (rx f.s.cs a) b)=ix (rx f.t.cs (ix f.ar a)) (ix f.ar b)
theorem Cat.Sh.frn {c:Cat} (h:c.Sh) {a:Nat} (ha:a<c.fr.length):(0≤ix c.fr a∧ix c.fr a<c.id.length)∧(0≤ix c.to a∧ix c.to a<c.id.length):=⟨h.fr' (by omega) (by omega),h.to' (by omega) (by omega)⟩
end
end Go.Vc.T
namespace Go.Vc.T
open Go Go.Vc Go.Proofs
section
attribute [local simp] Qi QG Qp Q1r QR
structure Para (f g:Fn):Prop where
 hf:f.Is
 hg:g.Is
 s:f.s=g.s
 t:f.t=g.t
theorem gx_nat {α:Type} [Inhabited α] (xs:List α) {i:Nat} (h:i<xs.length):gx xs i=xs[i]:=by simp [gx,List.getD_eq_getElem?_getD,h]
end
end Go.Vc.T
namespace Go.Vc.T
open Go Go.Vc Go.Proofs
section
attribute [local simp] Qi QG Qp Q1r QR
def tab {α:Type} (n:Nat) (g:Nat→α):List α:=(List.range n).map g
@[simp] theorem Q4z {α:Type} (n:Nat) (g:Nat→α):(tab n g).length=n:=by simp [tab]
theorem QZ {α:Type} (n:Nat) (g:Nat→α):tab (n+1) g=tab n g++[g n]:=by simp [tab,List.range_succ]
theorem tab_zero {α:Type} (g:Nat→α):tab 0 g=[]:=rfl
theorem ix_tab (n:Nat) (g:Nat→Int) {i:Nat} (h:i<n):ix (tab n g) i=g i:=by
 rw [← QN _ _ (show i<(tab n g).length by simpa using h)];simp [tab]
end
end Go.Vc.T
namespace Go.Vc.T
open Go Go.Vc Go.Proofs
section
attribute [local simp] Qi QG Qp Q1r QR
noncomputable def fstN (n:Nat) (p:Nat→Prop):Int:=(((List.range n).find? fun i=>bo (p i)).map Int.ofNat).getD (-1)
theorem first_or (n:Nat) (p:Nat→Prop):(fstN n p = -1∧∀ i,i<n→¬ p i)∨∃ k:Nat,k<n∧p k∧fstN n p=(k:Int):=by
 unfold fstN;cases h:(List.range n).find? fun i=>bo (p i) with
 | none =>
  refine .inl ⟨rfl,fun i hi=>?_⟩;have:=List.find?_eq_none.1 h i (by simpa using hi);simpa [bo_tt] using this
 | some k =>
  have h1:=List.find?_some h;have h2:=List.mem_of_find?_eq_some h;exact .inr ⟨k,by simpa using h2,by simpa [bo_tt] using h1,rfl⟩
end
end Go.Vc.T
namespace Go.Vc.T
open Go Go.Vc Go.Proofs
section
attribute [local simp] Qi QG Qp Q1r QR
theorem run_bind {σ ε β:Type} {body:σ→Option (Ctl σ ε)} {K:ε→Option β} {r:Option β} {s0:σ} (n:Nat) (g:Nat→σ) {e:ε} (h0:s0=g 0) (hn:n<4611686018427387904) (h:∀ i:Nat,i<n→body (g i)=some (.next (g (i+1)))) (he:body (g n)=some (.ret e)) (hk:K e=r):(Q11 body fuel s0).bind K=r:=by
 rw [Q57 g n h0 hn h he];exact hk
end
end Go.Vc.T
namespace Go.Vc.T
open Go Go.Vc Go.Proofs
attribute [local simp] unk unA unE unT unC flat
noncomputable def Q1S (f_:SF):Option Int :=
 (Q11 (σ:=Int) (ε:=Unit ⊕ Int) (fun s6 =>
  if s6<(f_.sz.length:Int) then
   ass (0≤s6∧s6<(f_.sz.length:Int)) <|
   if (ix f_.sz s6) > 16 then
    some (Ctl.ret (Sum.inr 3))
   else
    ass (B64 (s6+1)) <|
    some (Ctl.next (s6+1))
  else
   some (Ctl.ret (Sum.inl ()))) fuel 0).bind fun e1 =>
 match e1 with
 | .inl b1 =>
  some 0
 | .inr p1 =>
  some p1
theorem QE {F : Fx} {st st' : St} (m : List (Nat × Nat)) (h : (m.map Prod.fst).Nodup ∧ (m.map Prod.snd).Nodup ∧ (∀ id, id < F.pins → look id m = some id) ∧ (∀ p ∈ m, p.2 < st'.n) ∧ (∀ p ∈ st'.h, p.1 < st'.n) ∧ (∀ p ∈ st'.s, p.2 = rl m (st.get p.1) ∨ p.2 = .bot) ∧ ∀ p ∈ st'.h, hhOk m st.h p.1 p.2 := by simp [hP, hhOk, back, idQ, SF.cells, UA, U1, IA, I1, LA, L1, BA, B1, EA, E1, E2, eB, eI, eL, eM, Cat.cells]) : Wk F st st' := Wk.r1 m h
theorem wkI22 {F : Fx} {st st' : St} (m : Nat) (h : ((idQ m).map Prod.fst).Nodup ∧ ((idQ m).map Prod.snd).Nodup ∧ (∀ id, id < F.pins → look id (idQ m) = some id) ∧ (∀ p ∈ (idQ m), p.2 < st'.n) ∧ (∀ p ∈ st'.h, p.1 < st'.n) ∧ (∀ p ∈ st'.s, p.2 = rl (idQ m) (st.get p.1) ∨ p.2 = .bot) ∧ ∀ p ∈ st'.h, hhOk (idQ m) st.h p.1 p.2 := by simp [hP, hhOk, back, idQ, SF.cells, UA, U1, IA, I1, LA, L1, BA, B1, EA, E1, E2, eB, eI, eL, eM, Cat.cells]) : Wk F st st' := Wk.r1 (idQ m) h
theorem Q8z [Kd Tryz.prog] (f_:SF) (r:Int) (h:Q1S f_=some r):Contract Tryz.prog 75 [.agg (f_.cells true)] (iV r):=by
 refine Qq (rvs:=[.tmp 2]) (rs:=[iV r]) Tryz.func75 rfl rfl rfl rfl (by simp [Tryz.f75]) fun F hN hP=>?_;unfold Q1S at h;refine Q3 (runQ hN fun K hK=>?_);simp [eM,eL,eI,Q2,Qf,SF.cells];repeat refine sdQ ?_
 refine hK _ ?_;clear hK K;refine tn (Qc (st':=⟨YH [],[(0,.mix 7 [(SF.cells true f_)])],1⟩) (QE [(0,0)]) (Q3 (Q3 (runQ hN fun K hK=>?_))));simp [eM,eL,eI,Q2,Qf,SF.cells];repeat refine sdQ ?_
 refine hK _ (tn (Qc (st':=⟨YH [(3,iV 0)],[(0,.mix 7 [(SF.cells true f_)])],1⟩) (QE [(0,0)]) ?_));clear hK K;replace ⟨e1,h,h1⟩:=bind_some h;refine QQ (fun b1:Unit=>⟨[],[],0⟩) (fun b1=>Sum.inl b1=e1) ?_ ?_
 ·refine Q5 (Q13 h (fun s6:Int=>⟨YH [(3,iV s6)],[(0,.mix 7 [(SF.cells true f_)])],1⟩) (QE [(0,0)]) ?_);clear h;intro k6 s6 c6 h hk6;refine Q3 (Q3 (runQ hN fun K hK=>?_));simp [eM,eL,eI,Q2,Qf,SF.cells];repeat refine sdQ ?_
  refine hK _ ?_;clear hK K;refine tn (Q6 rfl (fun g=>?_) fun g=>?_)
  ·have g7:s6<(f_.sz.length:Int):=gQ;clear g;replace h:=if_l g7 h;refine Q7 (tn (Q3 (Q5 (Q3 (runQ hN fun K hK=>?_)))));replace ⟨a8,h⟩:=Q8 h;simp [eM,eL,eI,Q2,Qf,SF.cells,at_I a8];(repeat refine sdQ ?_);refine hK _ ?_;clear hK K;refine tn (Q6 rfl (fun g=>?_) fun g=>?_)
   ·have g9:(ix f_.sz s6) > 16:=gQ;clear g;replace h:=if_l g9 h;refine Q3 (runQ hN fun K hK=>?_);simp [eM,eL,eI,Q2,Qf,SF.cells];(repeat refine sdQ ?_);refine hK _ (tn (Qc (st':=⟨[(2,iV 3)],[],0⟩) (QE []) (Qg (br (tr (lr (br (tr ?_))))))));clear hK K;cases h;have q:_=e1:=hk6;have h:=h1;rw [← q] at h;clear q;(try dsimp only at h);have hr:=Option.some.inj h;rw [← hr];refine ⟨_,(.tmp .nil),?_⟩;refine ⟨(.one rfl rfl .nil),[iV 3],[],by simp [SF.cells,UA,U1,IA,I1,LA,L1,BA,B1,EA,E1,E2,eB,eI,eL,eM],by simp,(UpL.refl _)⟩
   have g9:¬ ((ix f_.sz s6) > 16):=gQ;clear g;replace h:=if_r g9 h;refine Q7 (bn (tn (runQ hN fun K hK=>?_)));replace ⟨a10,h⟩:=Q8 h;simp [eM,eL,eI,Q2,Qf,SF.cells,QA a10];(repeat refine sdQ ?_);refine hK _ ?_;clear hK K;cases h;exact rn (s':=s6+1) hk6 (QE [(0,0)])
  have g7:¬ (s6<(f_.sz.length:Int)):=gQ;clear g;replace h:=if_r g7 h;refine Qk (tx (lx (bh ?_)));cases h;exact jn (b:=()) hk6 (QE [])
 intro b1 hb1;have h:=h1;try rw [← hb1] at h
 clear h1;try dsimp only at h
 refine Q3 (runQ hN fun K hK=>?_);simp [eM,eL,eI,Q2,Qf,SF.cells];repeat refine sdQ ?_
 refine hK _ (tn (Qc (st':=⟨[(2,iV 0)],[],0⟩) (QE []) (Qg ?_)));clear hK K;have hr:=Option.some.inj h;rw [← hr];refine ⟨_,(.tmp .nil),?_⟩;refine ⟨(.one rfl rfl .nil),[iV 0],[],by simp [SF.cells,UA,U1,IA,I1,LA,L1,BA,B1,EA,E1,E2,eB,eI,eL,eM],by simp,(UpL.refl _)⟩
end Go.Vc.T
namespace Go.Vc.T
open Go Go.Vc Go.Proofs
section
attribute [local simp] Qi QG Qp Q1r QR
structure Two (f g:SF):Prop where
 pf:f.Sh
 pg:g.Sh
 e:f.s=g.s
theorem Two.fact {f g:SF} (h:Two f g):f.ok∧(f.sz.length:Int)=f.s.n∧g.sz.length=f.sz.length∧f.ac.length=f.s.fr.length∧g.ac.length=f.ac.length∧f.sz.length≤8∧f.ac.length≤40∧f.s.to.length=f.ac.length:=by
 have h1:=h.pf.ls;have h2:=h.pg.ls;have h3:=h.pf.la;have h4:=h.pg.la;have h5:=h.pf.cat.1;rw [← h.e] at h2 h4;have:=h5.n8;have:=h5.m40;have:=h5.lt;exact ⟨h.pf.ok.1,h1,by omega,h3,by omega,by omega,by omega,by omega⟩
theorem Two.sizes {f g:SF} (h:Two f g) {x:Nat} (hx:x<f.sz.length):(0≤ix f.sz x∧ix f.sz x≤16)∧(0≤ix g.sz x∧ix g.sz x≤16):=by
 obtain ⟨_,k1,k2,k3,k4,k5,k6,k7⟩:=h.fact;have h1:=Q1y h.pf.sz (j:=x) (by omega) (by omega);have h2:=Q1y h.pg.sz (j:=x) (by omega) (by omega);omega
def mad (xs:List Int):Int:=if xs.all (fun x=>decide (x≤16))=true then 0 else 3
theorem mad_bad {xs:List Int} {i:Nat} (h:i<xs.length) (h2:16<ix xs i):mad xs=3:=by
 unfold mad;rw [if_neg];intro q;rw [List.all_eq_true] at q;have:=q _ (List.getElem_mem h);rw [QN _ _ h] at this;simp at this;omega
theorem mad_good {xs:List Int} (h:∀ y:Nat,y<xs.length→ix xs y≤16):mad xs=0:=by
 unfold mad;rw [if_pos];rw [List.all_eq_true];intro x hx;obtain ⟨i,hi,rfl⟩:=List.getElem_of_mem hx;rw [QN _ _ hi];simpa using h i hi
theorem fst_bind2 {ε β:Type} {body:Int→Option (Ctl Int ε)} {K:ε→Option β} {r:Option β} (n:Nat) (p:Nat→Prop) {eb:Nat→ε} {eg:ε} (hn:n<4611686018427387904) (h1:∀ i:Nat,i<n→¬ p i→body (i:Int)=some (.next ((i:Int)+1))) (h2:∀ i:Nat,i<n→p i→body (i:Int)=some (.ret (eb i))) (h3:body (n:Int)=some (.ret eg))
  (hb:∀ m,m<n→p m→(∀ k,k<m→¬ p k)→K (eb m)=r) (hg:(∀ i,i<n→¬ p i)→K eg=r):(Q11 body fuel 0).bind K=r:=by
 rcases loop_fst n (fun i=>¬ p i) hn h1 (fun i hi h=>h2 i hi (Classical.byContradiction h)) h3 with ⟨h,e⟩|⟨m,hm,hq,hlt,e⟩
 ·rw [e];exact hg h
 rw [e];exact hb m hm (Classical.byContradiction hq) hlt
theorem e_l21Made {f:SF} (h:f.sz.length≤1000):Q1S f=some (mad f.sz):=by
 unfold Q1S;refine fst_bind2 f.sz.length (fun i=>16<ix f.sz i) (eb:=fun _=>Sum.inr 3) (eg:=Sum.inl ()) (by omega) (fun i hi hp=>?_) (fun i hi hp=>?_) (by simp) (fun m hm hp _=>?_) fun hp=>?_
 ·rw [if_pos (by omega),Q9 (by omega),if_neg hp,Q9 (by unfold B64;omega)]
 ·rw [if_pos (by omega),Q9 (by omega),if_pos hp]
 ·simp only;rw [mad_bad hm hp]
 simp only;rw [mad_good fun y hy=>Int.not_lt.1 (hp y hy)]
end
end Go.Vc.T
namespace Go.Vc.T
open Go Go.Vc Go.Proofs
attribute [local simp] unk unA unE unT unC flat
noncomputable def Q3O (lists_:List (List Int)):Option ByteArray :=
 (Q11 (σ:=List Int × Int) (ε:=List Int) (fun s16 =>
  if s16.2<(lists_.length:Int) then
   ass (0≤s16.2∧s16.2<(lists_.length:Int)) <|
   (Q11 (σ:=List Int × Int) (ε:=List Int) (fun s24 =>
    if s24.2<((rx lists_ s16.2).length:Int) then
     ass (0≤s24.2∧s24.2<((rx lists_ s16.2).length:Int)) <|
     ass ((s24.1++[IntKind.u8.wrap (ix (rx lists_ s16.2) s24.2)]).length≤1073741824) <|
     ass (B64 (s24.2+1)) <|
     some (Ctl.next (s24.1++[IntKind.u8.wrap (ix (rx lists_ s16.2) s24.2)],s24.2+1))
    else
     some (Ctl.ret s24.1)) fuel (s16.1,0)).bind fun b19 =>
   ass ((b19++[255]).length≤1073741824) <|
   ass (B64 (s16.2+1)) <|
   some (Ctl.next (b19++[255],s16.2+1))
  else
   some (Ctl.ret s16.1)) fuel ([],0)).bind fun b1 =>
 some (Q1E b1)
@[simp] abbrev Yp (a:List (List Int)) (b:List (Nat × AV)):List (Nat × AV):=(9,.lst true 1 (Ls a))::(10,iV (a.length:Int))::b
@[simp] abbrev YU (a:List Int × Int) (b:List (List Int)) (c:List (Nat × AV)):List (Nat × AV):=(11,iV a.2)::(15,lI (rx b a.2))::(16,iV ((rx b a.2).length:Int))::c
theorem w_i_key [Kd Tryz.prog] (lists_:List (List Int)) (r:ByteArray) (h:Q3O lists_=some r):Contract Tryz.prog 118 [.lst true 1 (Ls lists_)] (.val (.string r)):=by
 refine Qq (rvs:=[.tmp 2]) (rs:=[.val (.string r)]) Tryz.func118 rfl rfl rfl rfl (by simp [Tryz.f118]) fun F hN hP=>?_;unfold Q3O at h;refine Q3 (runQ hN fun K hK=>?_);simp [eM,eL,eI,Q2];repeat refine sdQ ?_
 refine hK _ ?_;clear hK K;refine tn (Qc (st':=⟨[(0,.lst true 1 (Ls lists_))],[],0⟩) (QE []) (Q3 (runQ hN fun K hK=>?_)));simp [eM,eL,eI,Q2];repeat refine sdQ ?_
 refine hK _ ?_;clear hK K;refine tn (Qc (st':=⟨[(0,.lst true 1 (Ls lists_)),(3,.own 0 0 0)],[(0,.mix 1 [])],1⟩) (QE [(0,0)]) (Q3 (Q3 (runQ hN fun K hK=>?_))));simp [eM,eL,eI,Q2];repeat refine sdQ ?_
 refine hK _ (tn (Qc (st':=⟨(3,.own 0 0 0)::Yp lists_ [(11,iV 0)],[(0,.mix 1 [])],1⟩) (QE [(0,0)]) ?_));clear hK K;replace ⟨e1,h,h1⟩:=bind_some h;refine QQ (fun b1:List Int=>⟨[(3,.own 0 0 b1.length)],[(0,.row 1 (Us b1))],1⟩) (fun b1=>b1=e1) ?_ ?_
 ·refine Q5 (Q13 h (fun s16:List Int × Int=>⟨(3,.own 0 0 s16.1.length)::Yp lists_ [(11,iV s16.2)],[(0,.row 1 (Us s16.1))],1⟩) (Q3W ⟨(3,.own 0 0 0)::Yp lists_ [(11,iV 0)],[(0,.row 1 (Us []))],1⟩ (Wk.nils [] (by simp) (by simp) (by simp [nlA]) (by simp [entN,nlL,nlA,UA,U1,IA,I1,LA,L1,BA,B1,EA,E1,E2,eB,eI,eL,eM]) (by simp)) (QE [(0,0)])) ?_);clear h;intro k16 s16 c16 h hk16;refine Q3 (runQ hN fun K hK=>?_);simp [eM,eL,eI,Q2];repeat refine sdQ ?_
  refine hK _ ?_;clear hK K;refine tn (Q3 (Q6 rfl (fun g=>?_) fun g=>?_))
  ·have g17:s16.2<(lists_.length:Int):=gQ;clear g;replace h:=if_l g17 h;refine Q7 (tn (Q3 (Q5 (Q3 (runQ hN fun K hK=>?_)))));replace ⟨a18,h⟩:=Q8 h;simp [eM,eL,eI,Q2,at_L a18];(repeat refine sdQ ?_);refine hK _ ?_;clear hK K;refine tn (Qc (st':=⟨(3,.own 0 0 s16.1.length)::(5,lI (rx lists_ s16.2))::Yp lists_ [(11,iV s16.2)],[(0,.row 1 (Us s16.1))],1⟩) (QE [(0,0)]) (Q3 (Q3 (runQ hN fun K hK=>?_))));simp [eM,eL,eI,Q2];(repeat refine sdQ ?_);refine hK _ (tn (Qc (st':=⟨(3,.own 0 0 s16.1.length)::Yp lists_ (YU s16 lists_ [(17,iV 0)]),[(0,.row 1 (Us s16.1))],1⟩) (QE [(0,0)]) ?_));clear hK K;replace ⟨e19,h,h19⟩:=bind_some h;refine QQ (fun b19:List Int=>⟨(3,.own 0 0 b19.length)::Yp lists_ [(11,iV s16.2)],[(0,.row 1 (Us b19))],1⟩) (fun b19=>b19=e19) ?_ ?_
   ·refine Q5 (Q13 h (fun s24:List Int × Int=>⟨(3,.own 0 0 s24.1.length)::Yp lists_ (YU s16 lists_ [(17,iV s24.2)]),[(0,.row 1 (Us s24.1))],1⟩) (QE [(0,0)]) ?_);clear h;intro k24 s24 c24 h hk24;refine Q3 (runQ hN fun K hK=>?_);simp [eM,eL,eI,Q2];(repeat refine sdQ ?_);refine hK _ ?_;clear hK K;refine tn (Q3 (Q6 rfl (fun g=>?_) fun g=>?_))
    ·have g25:s24.2<((rx lists_ s16.2).length:Int):=gQ;clear g;replace h:=if_l g25 h;refine Q7 (tn (Q3 (Q5 (Q3 (runQ hN fun K hK=>?_)))));replace ⟨a26,h⟩:=Q8 h;simp [eM,eL,eI,Q2,at_I a26];(repeat refine sdQ ?_);refine hK _ ?_;clear hK K;refine tn (Qc (st':=⟨(3,.own 0 0 s24.1.length)::(7,iV (ix (rx lists_ s16.2) s24.2))::Yp lists_ (YU s16 lists_ [(17,iV s24.2)]),[(0,.row 1 (Us s24.1))],1⟩) (QE [(0,0)]) (runQ hN fun K hK=>?_));replace ⟨a27,h⟩:=Q8 h;(try simp only [List.length_append,List.length_cons,List.length_nil] at a27);simp [eM,eL,eI,Q2,a27];(repeat refine sdQ ?_);refine hK _ ?_;clear hK K;refine bn (tn (Qc (st':=⟨(3,.own 0 0 ((s24.1++[IntKind.u8.wrap (ix (rx lists_ s16.2) s24.2)]).length))::Yp lists_ (YU s16 lists_ [(17,iV s24.2)]),[(0,.row 1 (Us (s24.1++[IntKind.u8.wrap (ix (rx lists_ s16.2) s24.2)])))],1⟩) (QE [(2,0)]) (runQ hN fun K hK=>?_)));replace ⟨a28,h⟩:=Q8 h;simp [eM,eL,eI,Q2,QA a28];(repeat refine sdQ ?_);refine hK _ ?_;clear hK K;cases h;exact rn (s':=(s24.1++[IntKind.u8.wrap (ix (rx lists_ s16.2) s24.2)],s24.2+1)) hk24 (QE [(0,0)])
    have g25:¬ (s24.2<((rx lists_ s16.2).length:Int)):=gQ;clear g;replace h:=if_r g25 h;refine Qk (tx (lx (bh ?_)));cases h;exact jn (b:=s24.1) hk24 (QE [(0,0)])
   intro b19 hb19;have h:=h19;(try rw [← hb19] at h);clear h19;(try dsimp only at h);refine runQ hN fun K hK=>?_;replace ⟨a29,h⟩:=Q8 h;(try simp only [List.length_append,List.length_cons,List.length_nil] at a29);simp [eM,eL,eI,Q2,a29];(repeat refine sdQ ?_);refine hK _ ?_;clear hK K;refine bn (tn (Qc (st':=⟨(3,.own 0 0 ((b19++[255]).length))::Yp lists_ [(11,iV s16.2)],[(0,.row 1 (Us (b19++[255])))],1⟩) (QE [(2,0)]) (runQ hN fun K hK=>?_)));replace ⟨a30,h⟩:=Q8 h;simp [eM,eL,eI,Q2,QA a30];(repeat refine sdQ ?_);refine hK _ ?_;clear hK K;cases h;exact rn (s':=(b19++[255],s16.2+1)) hk16 (QE [(0,0)])
  have g17:¬ (s16.2<(lists_.length:Int)):=gQ;clear g;replace h:=if_r g17 h;refine Qk (tx (lx (bh ?_)));cases h;exact jn (b:=s16.1) hk16 (QE [(0,0)])
 intro b1 hb1;have h:=h1;try rw [← hb1] at h
 clear h1;try dsimp only at h
 refine Q3 (Q2z [32] mo (by rw [hN];decide) fun K hK=>?_);simp [eM,eL,eI,Q2];repeat refine sdQ ?_
 refine hK _ (tn (Qc (st':=⟨[(2,.val (.string (Q1E b1)))],[],0⟩) (QE []) (Qg ?_)));clear hK K;have hr:=Option.some.inj h;rw [← hr];refine ⟨_,(.tmp .nil),?_⟩;refine ⟨(.one rfl rfl .nil),[.val (.string (Q1E b1))],[],by simp [UA,U1,IA,I1,LA,L1,BA,B1,EA,E1,E2,eB,eI,eL,eM],by simp,(UpL.refl _)⟩
end Go.Vc.T
namespace Go.Vc.T
open Go Go.Vc Go.Proofs
attribute [local simp] unk unA unE unT unC flat
noncomputable def Q2b (list_:List (List Int)):Option (List (ByteArray × Int)) :=
 (Q11 (σ:=(List (ByteArray × Int)) × Int) (ε:=List (ByteArray × Int)) (fun s7 =>
  if s7.2<(list_.length:Int) then
   ass (0≤s7.2∧s7.2<(list_.length:Int)) <|
   (Q3O [rx list_ s7.2]).bind fun v10 =>
   ass (s7.1.length<1099511627776) <|
   ass (B64 (s7.2+1)) <|
   some (Ctl.next (tset v10 s7.2 s7.1,s7.2+1))
  else
   some (Ctl.ret s7.1)) fuel ([],0)).bind fun b1 =>
 some b1
theorem Qac [Kd Tryz.prog] (list_:List (List Int)) (r:List (ByteArray × Int)) (h:Q2b list_=some r):FContract Tryz.prog false 115 [.lst true 1 (Ls list_)] (.cmap .str (Msi r)):=by
 refine Q5i false (ts:=[2]) (rs:=[.cmap .str (Msi r)]) Tryz.func115 rfl rfl rfl rfl (by simp [Tryz.f115]) fun F hN hP=>?_;unfold Q2b at h;refine Q3 (Q2z [] mo (by rw [hN];decide) fun K hK=>?_);simp [eM,eL,eI,Q2];repeat refine sdQ ?_
 refine hK _ ?_;clear hK K;refine tn (Qc (st':=⟨[(0,.lst true 1 (Ls list_))],[],0⟩) (QE []) (Q3 (Q2z [] mo (by rw [hN];decide) fun K hK=>?_)));simp [eM,eL,eI,Q2];repeat refine sdQ ?_
 refine hK _ ?_;clear hK K;refine tn (Qc (st':=⟨[(0,.lst true 1 (Ls list_)),(3,.mp 0)],[(0,.mapE .str (Msi []))],1⟩) (QE [(0,0)]) (Q3 (Q3 (Q2z [] mo (by rw [hN];decide) fun K hK=>?_))));simp [eM,eL,eI,Q2];repeat refine sdQ ?_
 refine hK _ (tn (Qc (st':=⟨[(3,.mp 0),(7,.lst true 1 (Ls list_)),(8,iV (list_.length:Int)),(9,iV 0)],[(0,.mapE .str (Msi []))],1⟩) (QE [(0,0)]) ?_));clear hK K;replace ⟨e1,h,h1⟩:=bind_some h;refine QQ (fun b1:List (ByteArray × Int)=>⟨[(3,.mp 0)],[(0,.mapE .str (Msi b1))],1⟩) (fun b1=>b1=e1) ?_ ?_
 ·refine Q5 (Q13 h (fun s7:(List (ByteArray × Int)) × Int=>⟨[(3,.mp 0),(7,.lst true 1 (Ls list_)),(8,iV (list_.length:Int)),(9,iV s7.2)],[(0,.mapE .str (Msi s7.1))],1⟩) (QE [(0,0)]) ?_);clear h;intro k7 s7 c7 h hk7;refine Q3 (Q2z [] mo (by rw [hN];decide) fun K hK=>?_);simp [eM,eL,eI,Q2];repeat refine sdQ ?_
  refine hK _ ?_;clear hK K;refine tn (Q3 (Q6 rfl (fun g=>?_) fun g=>?_))
  ·have g8:s7.2<(list_.length:Int):=gQ;clear g;replace h:=if_l g8 h;refine Q7 (tn (Q3 (Q5 (Q3 (Q2z [] mo (by rw [hN];decide) fun K hK=>?_)))));replace ⟨a9,h⟩:=Q8 h;simp [eM,eL,eI,Q2,at_L a9];(repeat refine sdQ ?_);refine hK _ ?_;clear hK K;refine tn (Qc (st':=⟨[(3,.mp 0),(4,iV s7.2),(5,lI (rx list_ s7.2)),(7,.lst true 1 (Ls list_)),(8,iV (list_.length:Int)),(9,iV s7.2)],[(0,.mapE .str (Msi s7.1))],1⟩) (QE [(0,0)]) (Q2z [] mo (by rw [hN];decide) fun K hK=>?_));simp [eM,eL,eI,Q2];(repeat with_reducible refine sdQ ?_);replace ⟨v10,hv10,h⟩:=bind_some h;refine Q2U (fz:=[]) (w_i_key _ v10 hv10) (.cons (.lits (es:=_) rfl (.cons rfl (.cons .lst .nil) .nil) rfl) .nil) ?_;replace ⟨a11,h⟩:=Q8 h;simp [eM,eL,eI,Q2,a11];(repeat refine sdQ ?_);refine hK _ ?_;clear hK K;refine bn (tn (Qc (st':=⟨[(3,.mp 0),(7,.lst true 1 (Ls list_)),(8,iV (list_.length:Int)),(9,iV s7.2)],[(0,.mapE .str (Msi (tset v10 s7.2 s7.1)))],1⟩) (QE [(0,0)]) (Q2z [] mo (by rw [hN];decide) fun K hK=>?_)));replace ⟨a12,h⟩:=Q8 h;simp [eM,eL,eI,Q2,QA a12];(repeat refine sdQ ?_);refine hK _ ?_;clear hK K;cases h;exact rn (s':=(tset v10 s7.2 s7.1,s7.2+1)) hk7 (QE [(0,0)])
  have g8:¬ (s7.2<(list_.length:Int)):=gQ;clear g;replace h:=if_r g8 h;refine Qk (tx (lx (bh ?_)));cases h;exact jn (b:=s7.1) hk7 (QE [(0,0)])
 intro b1 hb1;have h:=h1;try rw [← hb1] at h
 clear h1;try dsimp only at h
 refine Q3 (Q2z [] mo (by rw [hN];decide) fun K hK=>?_);simp [eM,eL,eI,Q2];repeat refine sdQ ?_
 refine hK _ (tn (Qc (st':=⟨[(2,.mp 0)],[(0,.mapE .str (Msi b1))],1⟩) (QE [(0,0)]) (Qg ?_)));clear hK K;have hr:=Option.some.inj h;rw [← hr];exact (.one (by simp [ownB]) (.mp rfl) .nil)
end Go.Vc.T
namespace Go.Vc.T
open Go Go.Vc Go.Proofs
section
attribute [local simp] Qi QG Qp Q1r QR
theorem Qa8 {α β:Type} [DecidableEq α] (k k':α) (v:β) (m:List (α × β)):Q2r k (tset k' v m)=if k'=k then some v else Q2r k m:=by
 induction m with
 | nil=>simp [tset,Q2r]
 | cons p r ih =>
  obtain ⟨a,x⟩:=p;unfold tset
  by_cases h:a=k'
  ·subst h;rw [if_pos rfl]
   by_cases h2:a=k<;>simp [Q2r,h2]
  rw [if_neg h];simp only [Q2r,ih]
  by_cases h2:a=k
  ·subst h2;rw [if_pos rfl,if_pos rfl,if_neg (fun e=>h e.symm)]
  rw [if_neg h2,if_neg h2]
theorem tset_len {α β:Type} [DecidableEq α] (k:α) (v:β) (m:List (α × β)):(tset k v m).length≤m.length+1:=by
 induction m with
 | nil=>simp [tset]
 | cons p r ih =>
  obtain ⟨a,x⟩:=p;unfold tset;split<;>simp;exact ih
def plM {α:Type} [DecidableEq α] (k:Nat→α):Nat→List (α × Int)
 | 0=>[]
 | n+1=>tset (k n) (n:Int) (plM k n)
theorem plM_len {α:Type} [DecidableEq α] (k:Nat→α) (n:Nat):(plM k n).length≤n:=by
 induction n with
 | zero=>simp [plM]
 | succ n ih=>exact Nat.le_trans (tset_len _ _ _) (by omega)
theorem plM_find {α:Type} [DecidableEq α] {k:Nat→α} {n:Nat} (h:∀ a b,a<n→b<n→k a=k b→a=b) {j:Nat} (hj:j<n):Q2r (k j) (plM k n)=some (j:Int):=by
 induction n with
 | zero=>omega
 | succ n ih =>
  rw [plM,Qa8]
  by_cases e:k n=k j
  ·rw [if_pos e,h n j (by omega) hj e]
  rw [if_neg e];have:j ≠ n:=fun q=>e (by rw [q]);exact ih (fun a b ha hb=>h a b (by omega) (by omega)) (by omega)
theorem Q7N (ns:List Int):(Q1E ns).data.toList=ns.map fun n=>UInt8.ofNat n.toNat:=by
 have:∀ (ns:List Int) (s:ByteArray),(ns.foldl (fun r n=>r.push (UInt8.ofNat n.toNat)) s).data.toList=s.data.toList++ns.map fun n=>UInt8.ofNat n.toNat:=by
  intro ns
  induction ns with
  | nil=>intro s;simp
  | cons n ns ih=>intro s;simp only [List.foldl_cons,ih,List.map_cons];simp [ByteArray.push]
 simpa [Q1E] using this ns ByteArray.empty
theorem Q7n {α β:Type} {f:α→β}:∀ {a b:List α},(∀ x∈a,∀ y∈b,f x=f y→x=y)→a.map f=b.map f→a=b:=by
 intro a
 induction a with
 | nil=>intro b _ h;cases b with|nil=>rfl|cons=>simp at h
 | cons x a ih =>
  intro b hi h;cases b with
  | nil=>simp at h
  | cons y b =>
   simp only [List.map_cons,List.cons.injEq] at h;rw [hi x (by simp) y (by simp) h.1,ih (fun u hu v hv=>hi u (by simp [hu]) v (by simp [hv])) h.2]
theorem Q9j {a b:List Int} (ha:∀ x∈a,0≤x∧x<256) (hb:∀ x∈b,0≤x∧x<256) (h:Q1E a=Q1E b):a=b:=by
 have h1:=congrArg (fun s=>s.data.toList) h;simp only [Q7N] at h1;refine Q7n (fun x hx y hy e=>?_) h1;have e2:=congrArg UInt8.toNat e;have p1:=ha x hx;have p2:=hb y hy;simp only [UInt8.toNat_ofNat'] at e2;omega
theorem wrap8 {n:Int} (h0:0≤n) (h1:n<256):IntKind.u8.wrap n=n:=by
 simp [IntKind.wrap,IntKind.signed,IntKind.bits];omega
theorem wrap8_b (n:Int):0≤IntKind.u8.wrap n∧IntKind.u8.wrap n<256:=by
 simp [IntKind.wrap,IntKind.signed,IntKind.bits];omega
def keyB (x:List Int):ByteArray:=Q1E (x.map IntKind.u8.wrap++[255])
theorem keyB_inj {x y:List Int} (hx:∀ a∈x,0≤a∧a<256) (hy:∀ a∈y,0≤a∧a<256) (h:keyB x=keyB y):x=y:=by
 have hw:∀ x:List Int,∀ a∈x.map IntKind.u8.wrap++[255],0≤a∧a<256:=by
  intro x a ha;rcases List.mem_append.1 ha with ha|ha
  ·obtain ⟨b,_,rfl⟩:=List.mem_map.1 ha;exact wrap8_b b
  rw [List.mem_singleton.1 ha];omega
 have h1:=Q9j (hw x) (hw y) h;have h2:=(List.append_inj' h1 rfl).1;refine Q7n (fun a ha b hb e=>?_) h2
 rwa [wrap8 (hx a ha).1 (hx a ha).2,wrap8 (hy b hb).1 (hy b hb).2] at e
structure Keyed (L:List (List Int)):Prop where
 nd:L.Nodup
 sm:∀ x∈L,∀ a∈x,0≤a∧a<256
noncomputable def posL (L:List (List Int)) (x:List Int):Int:=fstN L.length fun i=>rx L i=x
theorem Q6T {L:List (List Int)} {i:Nat} (h:i<L.length):rx L i∈L:=by
 rw [← QK _ _ h];exact List.getElem_mem h
theorem Keyed.inj {L:List (List Int)} (h:Keyed L) {i j:Nat} (hi:i<L.length) (hj:j<L.length) (e:rx L i=rx L j):i=j:=by
 rw [← QK _ _ hi,← QK _ _ hj] at e;rcases Nat.lt_trichotomy i j with q|q|q
 ·exact absurd e (List.pairwise_iff_getElem.1 h.nd i j hi hj q)
 ·exact q
 exact absurd e.symm (List.pairwise_iff_getElem.1 h.nd j i hj hi q)
theorem Keyed.at {L:List (List Int)} (h:Keyed L) {x:List Int} (hx:x∈L):∃ j:Nat,j<L.length∧rx L j=x∧posL L x=j∧Q2r (keyB x) (plM (fun i=>keyB (rx L i)) L.length)=some (j:Int):=by
 obtain ⟨j,hj,rfl⟩:=List.getElem_of_mem hx;refine ⟨j,hj,(QK _ _ hj).symm,?_,?_⟩
 ·unfold posL;rcases first_or L.length (fun i=>rx L i=L[j]) with ⟨_,h2⟩|⟨k,hk,h2,h3⟩
  ·exact absurd (QK _ _ hj).symm (h2 j hj)
  rw [h3,h.inj hk hj (by rw [h2,QK _ _ hj])]
 have:=plM_find (k:=fun i=>keyB (rx L i)) (n:=L.length) (fun a b ha hb e=>h.inj ha hb (keyB_inj (h.sm _ (Q6T ha)) (h.sm _ (Q6T hb)) e)) hj;rw [QK _ _ hj];exact this
theorem take_rx {L:List (List Int)} {i:Nat} (h:i<L.length):L.take (i+1)=L.take i++[rx L i]:=by rw [List.take_succ_eq_append_getElem h,QK _ _ h]
theorem e_key {x:List Int} (h:x.length≤1000):Q3O [x]=some (keyB x):=by
 unfold Q3O keyB;refine Q15 1 (fun i=>if i=0 then [] else x.map IntKind.u8.wrap++[255]) (e:=x.map IntKind.u8.wrap++[255]) (by simp) (by omega) (fun i hi=>?_) (by simp) rfl;have:i=0:=by omega
 subst this;have hx:rx [x] ((0:Nat):Int)=x:=by simp [rx]
 simp only [hx];rw [if_pos (by simp),Q9 (by simp)];refine Q15 x.length (fun k=>(x.take k).map IntKind.u8.wrap) (e:=x.map IntKind.u8.wrap) (by simp) (by omega) (fun k hk=>?_) (by simp) ?_
 ·have hs:x.take (k+1)=x.take k++[ix x k]:=by rw [List.take_succ_eq_append_getElem hk,QN _ _ hk]
  simp (disch:=omega) [Q9,B64,hs];try omega
 simp (disch:=omega) [Q9,B64];try omega
noncomputable def plL (L:List (List Int)):List (ByteArray × Int):=plM (fun i=>keyB (rx L i)) L.length
theorem e_places {L:List (List Int)} (hn:L.length<1000000) (hx:∀ x∈L,x.length≤1000):Q2b L=some (plL L):=by
 unfold Q2b plL;refine Q15 L.length (fun i=>plM (fun i=>keyB (rx L i)) i) (e:=plM (fun i=>keyB (rx L i)) L.length) rfl (by omega) (fun i hi=>?_) (by simp) rfl;have h1:=plM_len (fun i:Nat=>keyB (rx L i)) i;simp only;rw [if_pos (by omega),Q9 (by omega),e_key (hx _ (Q6T hi))];simp only [Option.bind_some];rw [Q9 (by omega),Q9 (by unfold B64;omega)];rfl
end
end Go.Vc.T
namespace Go.Vc.T
open Go Go.Vc Go.Proofs
attribute [local simp] unk unA unE unT unC flat
noncomputable def Q2a (list_:List (List Int)) (i_:Int):Option (List Int) :=
 (Q11 (σ:=List Int × Int) (ε:=List Int) (fun s7 =>
  if s7.2<(list_.length:Int) then
   ass (0≤s7.2∧s7.2<(list_.length:Int)) <|
   ass (0≤i_∧i_<((rx list_ s7.2).length:Int)) <|
   ass ((s7.1++[ix (rx list_ s7.2) i_]).length≤1073741824) <|
   ass (B64 (s7.2+1)) <|
   some (Ctl.next (s7.1++[ix (rx list_ s7.2) i_],s7.2+1))
  else
   some (Ctl.ret s7.1)) fuel ([],0)).bind fun b1 =>
 some b1
theorem Qab [Kd Tryz.prog] (list_:List (List Int)) (i_:Int) (r:List Int) (h:Q2a list_ i_=some r):Contract Tryz.prog 116 [.lst true 1 (Ls list_),iV i_] (lI r):=by
 refine Qq (rvs:=[.tmp 4]) (rs:=[lI r]) Tryz.func116 rfl rfl rfl rfl (by simp [Tryz.f116]) fun F hN hP=>?_;unfold Q2a at h;refine Q3 (runQ hN fun K hK=>?_);simp [eM,eL,eI,Q2];repeat refine sdQ ?_
 refine hK _ ?_;clear hK K;refine tn (Qc (st':=⟨[(0,.lst true 1 (Ls list_)),(1,iV i_)],[],0⟩) (QE []) (Q3 (runQ hN fun K hK=>?_)));simp [eM,eL,eI,Q2];repeat refine sdQ ?_
 refine hK _ ?_;clear hK K;refine tn (Qc (st':=⟨[(0,.lst true 1 (Ls list_)),(1,iV i_),(5,.own 0 0 0)],[(0,.mix 1 [])],1⟩) (QE [(0,0)]) (Q3 (Q3 (runQ hN fun K hK=>?_))));simp [eM,eL,eI,Q2];repeat refine sdQ ?_
 refine hK _ (tn (Qc (st':=⟨(1,iV i_)::(5,.own 0 0 0)::Yp list_ [(11,iV 0)],[(0,.mix 1 [])],1⟩) (QE [(0,0)]) ?_));clear hK K;replace ⟨e1,h,h1⟩:=bind_some h;refine QQ (fun b1:List Int=>⟨[(5,.own 0 0 b1.length)],[(0,rI b1)],1⟩) (fun b1=>b1=e1) ?_ ?_
 ·refine Q5 (Q13 h (fun s7:List Int × Int=>⟨(1,iV i_)::(5,.own 0 0 s7.1.length)::Yp list_ [(11,iV s7.2)],[(0,rI s7.1)],1⟩) (Q3W ⟨(1,iV i_)::(5,.own 0 0 0)::Yp list_ [(11,iV 0)],[(0,rI [])],1⟩ (Wk.nils [] (by simp) (by simp) (by simp [nlA]) (by simp [entN,nlL,nlA,UA,U1,IA,I1,LA,L1,BA,B1,EA,E1,E2,eB,eI,eL,eM]) (by simp)) (QE [(0,0)])) ?_);clear h;intro k7 s7 c7 h hk7;refine Q3 (runQ hN fun K hK=>?_);simp [eM,eL,eI,Q2];repeat refine sdQ ?_
  refine hK _ ?_;clear hK K;refine tn (Q3 (Q6 rfl (fun g=>?_) fun g=>?_))
  ·have g8:s7.2<(list_.length:Int):=gQ;clear g;replace h:=if_l g8 h;refine Q7 (tn (Q3 (Q5 (Q3 (runQ hN fun K hK=>?_)))));replace ⟨a9,h⟩:=Q8 h;simp [eM,eL,eI,Q2,at_L a9];(repeat refine sdQ ?_);refine hK _ ?_;clear hK K;refine tn (Qc (st':=⟨(1,iV i_)::(5,.own 0 0 s7.1.length)::(7,lI (rx list_ s7.2))::Yp list_ [(11,iV s7.2)],[(0,rI s7.1)],1⟩) (QE [(0,0)]) (runQ hN fun K hK=>?_));replace ⟨a10,h⟩:=Q8 h;replace ⟨a11,h⟩:=Q8 h;(try simp only [List.length_append,List.length_cons,List.length_nil] at a11);simp [eM,eL,eI,Q2,at_I a10,a11];(repeat refine sdQ ?_);refine hK _ ?_;clear hK K;refine bn (tn (Qc (st':=⟨(1,iV i_)::(5,.own 0 0 ((s7.1++[ix (rx list_ s7.2) i_]).length))::Yp list_ [(11,iV s7.2)],[(0,rI (s7.1++[ix (rx list_ s7.2) i_]))],1⟩) (QE [(2,0)]) (runQ hN fun K hK=>?_)));replace ⟨a12,h⟩:=Q8 h;simp [eM,eL,eI,Q2,QA a12];(repeat refine sdQ ?_);refine hK _ ?_;clear hK K;cases h;exact rn (s':=(s7.1++[ix (rx list_ s7.2) i_],s7.2+1)) hk7 (QE [(0,0)])
  have g8:¬ (s7.2<(list_.length:Int)):=gQ;clear g;replace h:=if_r g8 h;refine Qk (tx (lx (bh ?_)));cases h;exact jn (b:=s7.1) hk7 (QE [(0,0)])
 intro b1 hb1;have h:=h1;try rw [← hb1] at h
 clear h1;try dsimp only at h
 refine Q3 (runQ hN fun K hK=>?_);simp [eM,eL,eI,Q2];repeat refine sdQ ?_
 refine hK _ (tn (Qc (st':=⟨[(4,.own 0 0 b1.length)],[(0,rI b1)],1⟩) (QE [(0,0)]) (Qg ?_)));clear hK K;have hr:=Option.some.inj h;rw [← hr];refine ⟨_,(.tmp .nil),?_⟩;refine ⟨(.one rfl rfl .nil),[lI b1],[0],by simp [UA,U1,IA,I1,LA,L1,BA,B1,EA,E1,E2,eB,eI,eL,eM],by simp,(UpL.refl _)⟩
end Go.Vc.T
namespace Go.Vc.T
open Go Go.Vc Go.Proofs
attribute [local simp] unk unA unE unT unC flat
noncomputable def Q2l (sizes_:List Int):Option Bool :=
 (Q3u sizes_ 17).bind fun v1 =>
 some v1
theorem Q8w [Kd Tryz.prog] (sizes_:List Int) (r:Bool) (h:Q2l sizes_=some r):Contract Tryz.prog 117 [lI sizes_] (.val (.bool r)):=by
 refine Qq (rvs:=[.tmp 2]) (rs:=[.val (.bool r)]) Tryz.func117 rfl rfl rfl rfl (by simp [Tryz.f117]) fun F hN hP=>?_;unfold Q2l at h;refine Q3 (runQ hN fun K hK=>?_);simp [eM,eL,eI,Q2];repeat refine sdQ ?_
 refine hK _ ?_;clear hK K;refine tn (Qc (st':=⟨[(0,lI sizes_)],[],0⟩) (QE []) (Q3 (runQ hN fun K hK=>?_)));simp [eM,eL,eI,Q2];repeat with_reducible refine sdQ ?_
 replace ⟨v1,hv1,h⟩:=bind_some h;refine Q0 (Qae _ _ v1 hv1) (.cons .lst (.cons .val .nil)) ?_;simp [eM,eL,eI,Q2];repeat refine sdQ ?_
 refine hK _ (tn (Qc (st':=⟨[(2,.val (.bool v1))],[],0⟩) (QE []) (Qg ?_)));clear hK K;have hr:=Option.some.inj h;rw [← hr];refine ⟨_,(.tmp .nil),?_⟩;refine ⟨(.one rfl rfl .nil),[.val (.bool v1)],[],by simp [UA,U1,IA,I1,LA,L1,BA,B1,EA,E1,E2,eB,eI,eL,eM],by simp,(UpL.refl _)⟩
end Go.Vc.T
namespace Go.Vc.T
open Go Go.Vc Go.Proofs
section
attribute [local simp] Qi QG Qp Q1r QR
theorem eoF_tab {α:Type} {f:Int→Option α} {E:Nat→α}:∀ n:Nat,(∀ k:Nat,k<n→f k=some (E k))→eoF f n=some (tab n E):=by
 intro n
 induction n with
 | zero=>intro _;rfl
 | succ n ih=>intro h;rw [eoF,ih fun k hk=>h k (by omega),h n (by omega),QZ];rfl
theorem gx_tab {α:Type} [Inhabited α] (n:Nat) (g:Nat→α) {i:Nat} (h:i<n):gx (tab n g) i=g i:=by
 rw [gx_nat _ (by simpa using h)];simp [tab]
theorem gx_tabZ {α:Type} [Inhabited α] (n:Nat) (g:Nat→α) {j:Int} (h0:0≤j) (h1:j<n):gx (tab n g) j=g j.toNat:=by
 have e:j=(j.toNat:Int):=(Int.toNat_of_nonneg h0).symm;rw [e,gx_tab n g (by omega)];rfl
theorem set_tab {α:Type} (n:Nat) (g:Nat→α) (i:Nat) (v:α):(tab n g).set i v=tab n fun j=>if j=i then v else g j:=by
 apply List.ext_getElem?;intro j;simp only [tab,List.getElem?_set,List.length_map,List.length_range,List.getElem?_map,List.getElem?_range]
 by_cases h:i=j
 ·subst h
  by_cases h2:i<n<;>simp [h2]
 rw [if_neg h]
 by_cases h2:j<n
 ·simp [h2,Ne.symm h]
 simp [h2]
theorem Q3l {α:Type} {n:Nat} {f g:Nat→α} (h:∀ i,i<n→f i=g i):tab n f=tab n g:=by
 simp only [tab];exact List.map_congr_left fun i hi=>h i (List.mem_range.1 hi)
theorem rep_tab {α:Type} (n:Nat) (x:α):List.replicate n x=tab n fun _=>x:=by
 induction n with
 | zero=>rfl
 | succ n ih=>rw [QZ,← ih,List.replicate_succ']
theorem par_step {α:Type} (F:Nat→Nat→α) (n k i:Nat) (h:k<n):(tab n fun j=>tab (if j<k then i+1 else i) (F j)).set k (tab i (F k)++[F k i])=tab n fun j=>tab (if j<k+1 then i+1 else i) (F j):=by
 rw [set_tab];refine Q3l fun j hj=>?_
 by_cases e:j=k
 ·subst e;rw [if_pos rfl,if_pos (by omega),QZ]
 rw [if_neg e]
 by_cases e2:j<k
 ·rw [if_pos e2,if_pos (by omega)]
 rw [if_neg e2,if_neg (by omega)]
theorem e_colI {L:List (List Int)} {k:Int} (hn:L.length<1000000) (h0:0≤k) (hx:∀ x∈L,k<x.length):Q2a L k=some (L.map (ix · k)):=by
 unfold Q2a;refine Q15 L.length (fun i=>(L.take i).map (ix · k)) (e:=L.map (ix · k)) (by simp) (by omega) (fun i hi=>?_) (by simp) rfl;have h1:=hx _ (Q6T hi);have h2:=take_rx hi;simp (disch:=omega) [Q9,B64,h2];try omega
def sf0:SF:=⟨⟨0,[],[],[],[]⟩,[],[]⟩
noncomputable def tupG (list_:List SF) (at_:Int→Option (List (List Int))):Option (SF × List (List (List Int)) × Bool) :=
 ass ((0:Int)≤0∧0<(list_.length:Int)) <|
 ass (0≤(gx list_ 0).s.n∧(gx list_ 0).s.n≤1073741824) <|
 ass (0≤(gx list_ 0).s.n∧(gx list_ 0).s.n≤1073741824) <|
 ass ((List.replicate (((gx list_ 0).s.n).toNat) ([]:List (List Int))).length=(((gx list_ 0).s.n).toNat)) <|
 (eoF at_ (((gx list_ 0).s.n).toNat)).bind fun v3 =>
 ass (v3.length=(List.replicate (((gx list_ 0).s.n).toNat) ([]:List (List Int))).length) <|
 (Q17 ((gx list_ 0).s)).bind fun v7 =>
 ass (0≤(list_.length:Int)∧(list_.length:Int)≤1073741824) <|
 (Q11 (σ:=List Int × List (List (List Int)) × (List (List (ByteArray × Int))) × Int) (ε:=List Int × List (List (List Int)) × (List (List (ByteArray × Int)))) (fun s30 =>
  if s30.2.2.2<(v3.length:Int) then
   (
    ass (0≤s30.2.2.2∧s30.2.2.2<(v3.length:Int)) <|
    ass ((s30.1++[((gx v3 s30.2.2.2).length:Int)]).length≤1073741824) <|
    (Q2b (gx v3 s30.2.2.2)).bind fun v35 =>
    ass ((s30.2.2.1++[v35]).length≤1073741824) <|
    (Q11 (σ:=List (List (List Int)) × Int) (ε:=List (List (List Int)) × (List (List (ByteArray × Int)))) (fun s43 =>
     if s43.2<(list_.length:Int) then
      ass (0≤s43.2∧s43.2<(s43.1.length:Int)) <|
      (Q2a (gx v3 s30.2.2.2) s43.2).bind fun v46 =>
      ass (((gx s43.1 s43.2)++[v46]).length≤1073741824) <|
      ass (0≤s43.2∧s43.2<(s43.1.length:Int)) <|
      ass (B64 (s43.2+1)) <|
      some (Ctl.next (s43.1.set s43.2.toNat ((gx s43.1 s43.2)++[v46]),s43.2+1))
     else
      some (Ctl.ret (s43.1,s30.2.2.1++[v35]))) fuel (s30.2.1,0)).bind fun p43 =>
    some p43:Option (List (List (List Int)) × (List (List (ByteArray × Int))))).bind fun b32 =>
   ass (B64 (s30.2.2.2+1)) <|
   some (Ctl.next (s30.1++[((gx v3 s30.2.2.2).length:Int)],b32.1,b32.2,s30.2.2.2+1))
  else
   some (Ctl.ret (s30.1,s30.2.1,s30.2.2.1))) fuel ([],List.replicate ((list_.length:Int).toNat) ([]:List (List Int)),[],0)).bind fun b9 =>
 (Q2l b9.1).bind fun v51 =>
 if ¬ (v51=true) then
  some ((⟨(⟨0,[],[],[],[]⟩:Cat),[],[]⟩:SF),[],false)
 else
  (Q11 (σ:=List (List Int) × Int) (ε:=List (List Int)) (fun s107 =>
   if s107.2<(((gx list_ 0).s.fr).length:Int) then
    ass (0≤s107.2∧s107.2<(((gx list_ 0).s.fr).length:Int)) <|
    ass (0≤ix ((gx list_ 0).s.fr) s107.2∧ix ((gx list_ 0).s.fr) s107.2<(v3.length:Int)) <|
    (Q11 (σ:=List Int × Int) (ε:=List Int) (fun s135 =>
     if s135.2<((gx v3 (ix ((gx list_ 0).s.fr) s107.2)).length:Int) then
      ass (0≤s135.2∧s135.2<((gx v3 (ix ((gx list_ 0).s.fr) s107.2)).length:Int)) <|
      (Q11 (σ:=List Int × Int) (ε:=List Int) (fun s146 =>
       if s146.2<((rx (gx v3 (ix ((gx list_ 0).s.fr) s107.2)) s135.2).length:Int) then
        ass (0≤s146.2∧s146.2<((rx (gx v3 (ix ((gx list_ 0).s.fr) s107.2)) s135.2).length:Int)) <|
        ass (0≤s146.2∧s146.2<(list_.length:Int)) <|
        ass (0≤s107.2∧s107.2<(((gx list_ s146.2).ac).length:Int)) <|
        ass (0≤ix (rx (gx v3 (ix ((gx list_ 0).s.fr) s107.2)) s135.2) s146.2∧ix (rx (gx v3 (ix ((gx list_ 0).s.fr) s107.2)) s135.2) s146.2<((rx ((gx list_ s146.2).ac) s107.2).length:Int)) <|
        ass ((s146.1++[ix (rx ((gx list_ s146.2).ac) s107.2) (ix (rx (gx v3 (ix ((gx list_ 0).s.fr) s107.2)) s135.2) s146.2)]).length≤1073741824) <|
        ass (B64 (s146.2+1)) <|
        some (Ctl.next (s146.1++[ix (rx ((gx list_ s146.2).ac) s107.2) (ix (rx (gx v3 (ix ((gx list_ 0).s.fr) s107.2)) s135.2) s146.2)],s146.2+1))
       else
        some (Ctl.ret s146.1)) fuel ([],0)).bind fun b138 =>
      ass (0≤s107.2∧s107.2<(((gx list_ 0).s.to).length:Int)) <|
      ass (0≤ix ((gx list_ 0).s.to) s107.2∧ix ((gx list_ 0).s.to) s107.2<(b9.2.2.length:Int)) <|
      (Q3O [b138]).bind fun v156 =>
      ass ((s135.1++[(Q2r v156 (gx b9.2.2 (ix ((gx list_ 0).s.to) s107.2))).getD 0]).length≤1073741824) <|
      ass (B64 (s135.2+1)) <|
      some (Ctl.next (s135.1++[(Q2r v156 (gx b9.2.2 (ix ((gx list_ 0).s.to) s107.2))).getD 0],s135.2+1))
     else
      some (Ctl.ret s135.1)) fuel ([],0)).bind fun b111 =>
    ass ((s107.1++[b111]).length≤1073741824) <|
    ass (B64 (s107.2+1)) <|
    some (Ctl.next (s107.1++[b111],s107.2+1))
   else
    some (Ctl.ret s107.1)) fuel ([],0)).bind fun b53 =>
  some ((⟨v7,b9.1,b53⟩:SF),b9.2.1,true)
def mvT (L:List SF) (a:Nat) (t:List Int):List Int:=tab L.length fun i:Nat=>ix (rx (gx L i).ac a) (ix t i)
structure TupP (L:List SF) (c:Cat) (E:Nat→List (List Int)):Prop where
 l0:0<L.length
 l2:L.length≤2
 sh:∀ i:Nat,i<L.length→(gx L i).Sh∧(gx L i).s=c
 len:∀ x:Nat,(x:Int)<c.n→(E x).length≤1000
 key:∀ x:Nat,(x:Int)<c.n→Keyed (E x)
 row:∀ x:Nat,(x:Int)<c.n→∀ t∈E x,t.length=L.length∧∀ i:Nat,i<L.length→0≤ix t i∧ix t i<ix (gx L i).sz x
 cl:∀ a:Nat,a<c.fr.length→∀ t∈E (ix c.fr a).toNat,mvT L a t∈E (ix c.to a).toNat
def tupZ (c:Cat) (E:Nat→List (List Int)):List Int:=tab c.n.toNat fun x=>((E x).length:Int)
def tupR (L:List SF) (c:Cat) (E:Nat→List (List Int)):List (List (List Int)):=tab L.length fun i:Nat=>tab c.n.toNat fun x=>(E x).map fun t=>ix t i
noncomputable def tupA (L:List SF) (c:Cat) (E:Nat→List (List Int)):List (List Int):=tab c.fr.length fun a=>(E (ix c.fr a).toNat).map fun t=>posL (E (ix c.to a).toNat) (mvT L a t)
theorem TupP.cat {L:List SF} {c:Cat} {E:Nat→List (List Int)} (h:TupP L c E):c.Is∧(c.n.toNat:Int)=c.n∧c.n.toNat≤8∧c.fr.length≤40∧c.to.length=c.fr.length∧∀ a:Nat,a<c.fr.length→(0≤ix c.fr a∧ix c.fr a<c.n)∧(0≤ix c.to a∧ix c.to a<c.n):=by
 obtain ⟨h1,h2⟩:=h.sh 0 h.l0;have hC:c.Is:=h2 ▸ h1.cat;have n8:=hC.1.n8;have m40:=hC.1.m40;have li:=hC.1.li;have lt:=hC.1.lt;refine ⟨hC,by omega,by omega,by omega,by omega,fun a ha=>?_⟩;obtain ⟨q1,q2⟩:=hC.1.frn ha;omega
theorem e_tupG {L:List SF} {c:Cat} {E:Nat→List (List Int)} (h:TupP L c E) {at_:Int→Option (List (List Int))} (hat:∀ x:Nat,(x:Int)<c.n→at_ x=some (E x)):tupG L at_=some (if (tupZ c E).all (inR 17)=true then (⟨c,tupZ c E,tupA L c E⟩,tupR L c E,true) else (sf0,[],false)):=by
 obtain ⟨hC,hN,hN8,hM,hT,hft⟩:=h.cat;have f0:(gx L 0).s=c:=by simpa using (h.sh 0 h.l0).2
 have l0:=h.l0;have l2:=h.l2;generalize hn:c.n.toNat=N at hN hN8;unfold tupG;rw [f0,hn];rw [Q9 (by omega),Q9 (by omega),Q9 (by omega),Q9 (by simp),eoF_tab N fun k hk=>hat k (by omega)];simp only [Option.bind_some];rw [Q9 (by simp)];unfold Q17;rw [Q9 hC.1.size2.1];simp only [Option.bind_some];rw [Q9 (by omega)];refine run_bind N (fun i:Nat=>(tab i (fun x=>((E x).length:Int)),tab L.length (fun j:Nat=>tab i fun x=>(E x).map fun t=>ix t j),tab i (fun x=>plL (E x)),(i:Int))) (e:=(tupZ c E,tupR L c E,tab N fun x=>plL (E x))) ?_ (by omega) (fun i hi=>?_) (by simp [tupZ,tupR,hn]) ?_
 ·simp [rep_tab,tab_zero]
 ·have hE:=h.len i (by omega);have hrow:=h.row i (by omega);simp only;rw [if_pos (by simp;omega),Q9 (by simp;omega),Q9 (by simp;omega),gx_tab N E hi,e_places (by omega) (fun x hx=>by have:=(hrow x hx).1;omega)];simp only [Option.bind_some];rw [Q9 (by simp;omega),Option.bind_assoc];refine Q15 L.length (fun k=>tab L.length (fun j:Nat=>tab (if j<k then i+1 else i) fun x=>(E x).map fun t=>ix t j)) (e:=(tab L.length (fun j:Nat=>tab (i+1) fun x=>(E x).map fun t=>ix t j),tab i (fun x=>plL (E x))++[plL (E i)])) (by simp) (by omega) (fun k hk=>?_) ?_ ?_
  ·have hg:gx (tab L.length (fun j:Nat=>tab (if j<k then i+1 else i) fun x=>(E x).map fun t=>ix t j)) (k:Int)=tab i fun x=>(E x).map fun t=>ix t k:=by
    rw [gx_tab _ _ hk,if_neg (by omega)]
   simp only;rw [if_pos (by omega),Q9 (by simp;omega),e_colI (by omega) (by omega) (fun x hx=>by have:=(hrow x hx).1;omega)];simp only [Option.bind_some,hg];rw [Q9 (by simp;omega),Q9 (by simp;omega),Q9 (by unfold B64;omega)];have:=par_step (fun j x=>(E x).map fun t=>ix t j) L.length k i hk;rw [Int.toNat_natCast,this]
  ·simp only;rw [if_neg (by omega)]
   congr 3
   exact Q3l fun j hj=>by rw [if_pos hj]
  simp only [Option.bind_some];rw [Q9 (by unfold B64;omega),QZ,QZ];rfl
 simp only;unfold Q2l Q3u;rw [Q9 (by unfold B64;omega)];simp only [Option.bind_some]
 by_cases hf:(tupZ c E).all (inR 17)=true
 case neg=>rw [if_pos hf,if_neg hf];rfl
 rw [if_neg (fun q=>q hf),if_pos hf];refine Q15 c.fr.length (fun a=>tab a fun a=>(E (ix c.fr a).toNat).map fun t=>posL (E (ix c.to a).toNat) (mvT L a t)) (e:=tupA L c E) rfl (by omega) (fun a ha=>?_) (by simp [tupA]) rfl;obtain ⟨q1,q2⟩:=hft a ha;have hEf:=h.len (ix c.fr a).toNat (by omega);have hrow:=h.row (ix c.fr a).toNat (by omega);have hcl:=h.cl a ha;have hkey:=h.key (ix c.to a).toNat (by omega);have hgE:gx (tab N E) (ix c.fr a)=E (ix c.fr a).toNat:=gx_tabZ N E (by omega) (by omega);have hgP:gx (tab N fun x=>plL (E x)) (ix c.to a)=plL (E (ix c.to a).toNat):=gx_tabZ N _ (by omega) (by omega);simp only [hgE];rw [if_pos (by omega),Q9 (by omega),Q9 (by simp;omega)];generalize hEE:E (ix c.fr a).toNat=T at hEf hrow hcl;refine Q15 T.length (fun k=>(T.take k).map fun t=>posL (E (ix c.to a).toNat) (mvT L a t)) (e:=T.map fun t=>posL (E (ix c.to a).toNat) (mvT L a t)) (by simp) (by omega) (fun k hk=>?_) (by simp) ?_
 ·have ht:=Q6T hk;obtain ⟨r1,r2⟩:=hrow _ ht;have hin:=hcl _ ht;obtain ⟨j,hj,hj2,hj3,hj4⟩:=hkey.at hin;simp only;rw [if_pos (by omega),Q9 (by omega)];refine Q15 (rx T k).length (fun i=>tab i fun i:Nat=>ix (rx (gx L i).ac a) (ix (rx T k) i)) (e:=mvT L a (rx T k)) rfl (by omega) (fun i hi=>?_) (by simp [mvT,r1]) ?_
  ·obtain ⟨s1,s2⟩:=h.sh i (by omega);have hla:=s1.la;have hac:=(s1.act a (by rw [hla,s2];exact ha)).1;have hb:=r2 i (by omega);rw [s2] at hla hac;have e1:((ix c.fr a).toNat:Int)=ix c.fr a:=Int.toNat_of_nonneg q1.1;rw [e1] at hb;simp only;rw [if_pos (by omega),Q9 (by omega),Q9 (by omega),Q9 (by omega),Q9 (by omega),Q9 (by simp;omega),Q9 (by unfold B64;omega),QZ]
  simp only [hgP];rw [Q9 (by omega),Q9 (by simp;omega),e_key (by simp [mvT];omega)];simp only [Option.bind_some];have hfind:(Q2r (keyB (mvT L a (rx T k))) (plL (E (ix c.to a).toNat))).getD 0=posL (E (ix c.to a).toNat) (mvT L a (rx T k)):=by
   rw [hj3];unfold plL;rw [hj4];rfl
  rw [hfind,Q9 (by simp;omega),Q9 (by unfold B64;omega),take_rx hk,List.map_append];rfl
 rw [Q9 (by simp;omega),Q9 (by unfold B64;omega),QZ,hEE]
end
end Go.Vc.T
namespace Go.Vc.T
open Go Go.Vc Go.Proofs
attribute [local simp] unk unA unE unT unC flat
noncomputable def QY (e_:Int) (d_:Int):Option Bool :=
 some true
theorem Q3o [Kd Tryz.prog] (e_:Int) (d_:Int) (r:Bool) (h:QY e_ d_=some r):Contract Tryz.prog 121 [iV e_,iV d_] (.val (.bool r)):=by
 refine Qq (rvs:=[.tmp 4]) (rs:=[.val (.bool r)]) Tryz.func121 rfl rfl rfl rfl (by simp [Tryz.f121]) fun F hN hP=>?_;unfold QY at h;refine Q3 (runQ hN fun K hK=>?_);simp [eM,eL,eI,Q2];repeat refine sdQ ?_
 refine hK _ ?_;clear hK K;refine tn (Qc (st':=⟨[],[],0⟩) (QE []) (Q3 (runQ hN fun K hK=>?_)));simp [eM,eL,eI,Q2];repeat refine sdQ ?_
 refine hK _ (tn (Qc (st':=⟨[(4,.val (.bool true))],[],0⟩) (QE []) (Qg ?_)));clear hK K;have hr:=Option.some.inj h;rw [← hr];refine ⟨_,(.tmp .nil),?_⟩;refine ⟨(.one rfl rfl .nil),[.val (.bool true)],[],by simp [UA,U1,IA,I1,LA,L1,BA,B1,EA,E1,E2,eB,eI,eL,eM],by simp,(UpL.refl _)⟩
end Go.Vc.T
namespace Go.Vc.T
open Go Go.Vc Go.Proofs
attribute [local simp] unk unA unE unT unC flat
noncomputable def Qr (n_:Int) (m_:Int):Option (List (List Int)) :=
 (Q11 (σ:=List (List Int) × Int) (ε:=List (List Int)) (fun s18 =>
  if s18.2<n_ then
   (
    (Q11 (σ:=List (List Int) × Int) (ε:=List (List Int)) (fun s27 =>
     if s27.2<m_ then
      (
       (QY s18.2 s27.2).bind fun v30 =>
       if v30=true then
        ass ((s27.1++[[s18.2,s27.2]]).length≤1073741824) <|
        some (s27.1++[[s18.2,s27.2]])
       else
        some s27.1:Option (List (List Int))).bind fun b29 =>
      ass (B64 (s27.2+1)) <|
      some (Ctl.next (b29,s27.2+1))
     else
      some (Ctl.ret s27.1)) fuel (s18.1,0)).bind fun p27 =>
    some p27:Option (List (List Int))).bind fun b20 =>
   ass (B64 (s18.2+1)) <|
   some (Ctl.next (b20,s18.2+1))
  else
   some (Ctl.ret s18.1)) fuel ([],0)).bind fun b1 =>
 some b1
@[simp] abbrev YC (a b:Int) (c:List (Nat × AV)):List (Nat × AV):=(0,iV a)::(1,iV b)::(2,.fn 121 [])::c
theorem Q1M [Kd Tryz.prog] (n_:Int) (m_:Int) (r:List (List Int)) (h:Qr n_ m_=some r):Contract Tryz.prog 80 [iV n_,iV m_,.fn 121 []] (.lst true 1 (Ls r)):=by
 refine Qq (rvs:=[.tmp 6]) (rs:=[.lst true 1 (Ls r)]) Tryz.func80 rfl rfl rfl rfl (by simp [Tryz.f80]) fun F hN hP=>?_;unfold Qr at h;refine Q3 (runQ hN fun K hK=>?_);simp [eM,eL,eI,Q2];repeat refine sdQ ?_
 refine hK _ ?_;clear hK K;refine tn (Qc (st':=⟨YC n_ m_ [],[],0⟩) (QE []) (Q3 (runQ hN fun K hK=>?_)));simp [eM,eL,eI,Q2];repeat refine sdQ ?_
 refine hK _ ?_;clear hK K;refine tn (Qc (st':=⟨YC n_ m_ [(7,.own 0 0 0)],[(0,.mix 1 [])],1⟩) (QE [(0,0)]) (Q3 (Q3 (runQ hN fun K hK=>?_))));simp [eM,eL,eI,Q2];repeat refine sdQ ?_
 refine hK _ (tn (Qc (st':=⟨YC n_ m_ [(7,.own 0 0 0),(8,iV 0)],[(0,.mix 1 [])],1⟩) (QE [(0,0)]) ?_));clear hK K;replace ⟨e1,h,h1⟩:=bind_some h;refine QQ (fun b1:List (List Int)=>⟨[(7,.own 0 0 b1.length)],[(0,.row 1 (Ls b1))],1⟩) (fun b1=>b1=e1) ?_ ?_
 ·refine Q5 (Q13 h (fun s18:List (List Int) × Int=>⟨YC n_ m_ [(7,.own 0 0 s18.1.length),(8,iV s18.2)],[(0,.row 1 (Ls s18.1))],1⟩) (Q3W ⟨YC n_ m_ [(7,.own 0 0 0),(8,iV 0)],[(0,.row 1 (Ls []))],1⟩ (Wk.nils [] (by simp) (by simp) (by simp [nlA]) (by simp [entN,nlL,nlA,UA,U1,IA,I1,LA,L1,BA,B1,EA,E1,E2,eB,eI,eL,eM]) (by simp)) (QE [(0,0)])) ?_);clear h;intro k18 s18 c18 h hk18;refine Q3 (Q3 (runQ hN fun K hK=>?_));simp [eM,eL,eI,Q2];repeat refine sdQ ?_
  refine hK _ ?_;clear hK K;refine tn (Q6 rfl (fun g=>?_) fun g=>?_)
  ·have g19:s18.2<n_:=gQ;clear g;replace h:=if_l g19 h;refine Q7 (tn (Q3 ?_));replace ⟨e20,h,h20⟩:=bind_some h;refine QQ (fun b20:List (List Int)=>⟨YC n_ m_ [(7,.own 0 0 b20.length),(8,iV s18.2)],[(0,.row 1 (Ls b20))],1⟩) (fun b20=>b20=e20) ?_ ?_
   ·refine Q5 (Q3 (runQ hN fun K hK=>?_));simp [eM,eL,eI,Q2];(repeat refine sdQ ?_);refine hK _ (tn (Qc (st':=⟨YC n_ m_ [(7,.own 0 0 s18.1.length),(8,iV s18.2),(9,iV 0)],[(0,.row 1 (Ls s18.1))],1⟩) (QE [(0,0)]) (Q5 ?_)));clear hK K;replace ⟨e27,he27,h27⟩:=bind_some h;refine Q13 he27 (fun s27:List (List Int) × Int=>⟨YC n_ m_ [(7,.own 0 0 s27.1.length),(8,iV s18.2),(9,iV s27.2)],[(0,.row 1 (Ls s27.1))],1⟩) (QE [(0,0)]) ?_;intro k27 s27 c27 h hk27;refine Q3 (Q3 (runQ hN fun K hK=>?_));simp [eM,eL,eI,Q2];(repeat refine sdQ ?_);refine hK _ ?_;clear hK K;refine tn (Q6 rfl (fun g=>?_) fun g=>?_)
    ·have g28:s27.2<m_:=gQ;clear g;replace h:=if_l g28 h;refine Q7 (tn (Q3 ?_));replace ⟨e29,h,h29⟩:=bind_some h;refine QQ (fun b29:List (List Int)=>⟨YC n_ m_ [(7,.own 0 0 b29.length),(8,iV s18.2),(9,iV s27.2)],[(0,.row 1 (Ls b29))],1⟩) (fun b29=>b29=e29) ?_ ?_
     ·refine Q5 (Q3 (runQ hN fun K hK=>?_));simp [eM,eL,eI,Q2];(repeat with_reducible refine sdQ ?_);replace ⟨v30,hv30,h⟩:=bind_some h;refine Q0 (Q3o _ _ v30 hv30) (.cons .val (.cons .val .nil)) ?_;simp [eM,eL,eI,Q2];(repeat refine sdQ ?_);refine hK _ ?_;clear hK K;refine tn (Qc (st':=⟨YC n_ m_ [(7,.own 0 0 s27.1.length),(8,iV s18.2),(9,iV s27.2),(24,.val (.bool v30))],[(0,.row 1 (Ls s27.1))],1⟩) (QE [(0,0)]) (Q6 rfl (fun g=>?_) fun g=>?_))
      ·have g31:v30=true:=gQ;clear g;replace h:=if_l g31 h;refine runQ hN fun K hK=>?_;replace ⟨a32,h⟩:=Q8 h;(try simp only [List.length_append,List.length_cons,List.length_nil] at a32);simp [eM,eL,eI,Q2,a32];(repeat refine sdQ ?_);refine hK _ (bn ?_);clear hK K;exact jn (b:=s27.1++[[s18.2,s27.2]]) (Option.some.inj h) (QE [(3,0)])
      have g31:¬ (v30=true):=gQ;clear g;replace h:=if_r g31 h;refine Q7 (bn ?_);exact jn (b:=s27.1) (Option.some.inj h) (QE [(0,0)])
     intro b29 hb29;have h:=h29;(try rw [← hb29] at h);clear h29;(try dsimp only at h);refine runQ hN fun K hK=>?_;replace ⟨a33,h⟩:=Q8 h;simp [eM,eL,eI,Q2,QA a33];(repeat refine sdQ ?_);refine hK _ ?_;clear hK K;cases h;exact rn (s':=(b29,s27.2+1)) hk27 (QE [(0,0)])
    have g28:¬ (s27.2<m_):=gQ;clear g;replace h:=if_r g28 h;refine Qk (tx (lx (bh (bn ?_))));cases h;have q:_=e27:=hk27;have h:=h27;rw [← q] at h;clear q;(try dsimp only at h);exact jn (b:=s27.1) (Option.some.inj h) (QE [(0,0)])
   intro b20 hb20;have h:=h20;(try rw [← hb20] at h);clear h20;(try dsimp only at h);refine runQ hN fun K hK=>?_;replace ⟨a34,h⟩:=Q8 h;simp [eM,eL,eI,Q2,QA a34];(repeat refine sdQ ?_);refine hK _ ?_;clear hK K;cases h;exact rn (s':=(b20,s18.2+1)) hk18 (QE [(0,0)])
  have g19:¬ (s18.2<n_):=gQ;clear g;replace h:=if_r g19 h;refine Qk (tx (lx (bh ?_)));cases h;exact jn (b:=s18.1) hk18 (QE [(0,0)])
 intro b1 hb1;have h:=h1;try rw [← hb1] at h
 clear h1;try dsimp only at h
 refine Q3 (runQ hN fun K hK=>?_);simp [eM,eL,eI,Q2];repeat refine sdQ ?_
 refine hK _ (tn (Qc (st':=⟨[(6,.own 0 0 b1.length)],[(0,.row 1 (Ls b1))],1⟩) (QE [(0,0)]) (Qg ?_)));clear hK K;have hr:=Option.some.inj h;rw [← hr];refine ⟨_,(.tmp .nil),?_⟩;refine ⟨(.one rfl rfl .nil),[.lst true 1 (Ls b1)],[0],by simp [UA,U1,IA,I1,LA,L1,BA,B1,EA,E1,E2,eB,eI,eL,eM],by simp,(UpL.refl _)⟩
end Go.Vc.T
namespace Go.Vc.T
open Go Go.Vc Go.Proofs
attribute [local simp] unk unA unE unT unC flat
noncomputable def Qx (x_:Int) (c0_:SF) (c1_:SF):Option (List (List Int)) :=
 ass (0≤x_∧x_<(c0_.sz.length:Int)) <|
 ass (0≤x_∧x_<(c1_.sz.length:Int)) <|
 (Qr (ix c0_.sz x_) (ix c1_.sz x_)).bind fun v3 =>
 some v3
@[simp] abbrev Y00 (a:SF) (b:List (AV)):List (AV):=.rptr (SF.cells true a)::b
theorem Q2D [Kd Tryz.prog] (x_:Int) (c0_:SF) (c1_:SF) (r:List (List Int)) (h:Qx x_ c0_ c1_=some r):Contract Tryz.prog 120 [iV x_,.rptr (Y00 c0_ []),.rptr (Y00 c1_ [])] (.lst true 1 (Ls r)):=by
 refine Qq (rvs:=[.tmp 4]) (rs:=[.lst true 1 (Ls r)]) Tryz.func120 rfl rfl rfl rfl (by simp [Tryz.f120]) fun F hN hP=>?_;unfold Qx at h;refine Q3 (runQ hN fun K hK=>?_);simp [eM,eL,eI,Q2,Qf,SF.cells];repeat refine sdQ ?_
 refine hK _ ?_;clear hK K;refine tn (Qc (st':=⟨[(0,iV x_),(1,.rptr (Y00 c0_ [])),(2,.rptr (Y00 c1_ []))],[],0⟩) (QE []) (Q3 (runQ hN fun K hK=>?_)));replace ⟨a1,h⟩:=Q8 h;replace ⟨a2,h⟩:=Q8 h;simp [eM,eL,eI,Q2,Qf,SF.cells,at_I a1,at_I a2];repeat with_reducible refine sdQ ?_
 replace ⟨v3,hv3,h⟩:=bind_some h;refine Q0 (Q1M _ _ v3 hv3) (.cons .val (.cons .val (.cons (.fnL (by simp) .nil) .nil))) ?_;simp [eM,eL,eI,Q2,Qf,SF.cells,at_I a1,at_I a2];repeat refine sdQ ?_
 refine hK _ (tn (Qc (st':=⟨[(4,.own 0 0 v3.length)],[(0,.row 1 (Ls v3))],1⟩) (QE [(0,0)]) (Qg ?_)));clear hK K;have hr:=Option.some.inj h;rw [← hr];refine ⟨_,(.tmp .nil),?_⟩;refine ⟨(.one rfl rfl .nil),[.lst true 1 (Ls v3)],[0],by simp [SF.cells,UA,U1,IA,I1,LA,L1,BA,B1,EA,E1,E2,eB,eI,eL,eM],by simp,(UpL.refl _)⟩
end Go.Vc.T
namespace Go.Vc.T
open Go Go.Vc Go.Proofs
attribute [local simp] unk unA unE unT unC flat
noncomputable def Qv (list_:List SF) (at_0:SF) (at_1:SF):Option (SF × List (List (List Int)) × Bool) :=
 ass ((0:Int)≤0∧0<(list_.length:Int)) <|
 ass (0≤(gx list_ 0).s.n∧(gx list_ 0).s.n≤1073741824) <|
 ass (0≤(gx list_ 0).s.n∧(gx list_ 0).s.n≤1073741824) <|
 ass ((List.replicate (((gx list_ 0).s.n).toNat) ([]:List (List Int))).length=(((gx list_ 0).s.n).toNat)) <|
 (eoF (fun k=>Qx k at_0 at_1) (((gx list_ 0).s.n).toNat)).bind fun v3 =>
 ass (v3.length=(List.replicate (((gx list_ 0).s.n).toNat) ([]:List (List Int))).length) <|
 (Q17 ((gx list_ 0).s)).bind fun v7 =>
 ass (0≤(list_.length:Int)∧(list_.length:Int)≤1073741824) <|
 (Q11 (σ:=List Int × List (List (List Int)) × (List (List (ByteArray × Int))) × Int) (ε:=List Int × List (List (List Int)) × (List (List (ByteArray × Int)))) (fun s30 =>
  if s30.2.2.2<(v3.length:Int) then
   (
    ass (0≤s30.2.2.2∧s30.2.2.2<(v3.length:Int)) <|
    ass ((s30.1++[((gx v3 s30.2.2.2).length:Int)]).length≤1073741824) <|
    (Q2b (gx v3 s30.2.2.2)).bind fun v35 =>
    ass ((s30.2.2.1++[v35]).length≤1073741824) <|
    (Q11 (σ:=List (List (List Int)) × Int) (ε:=List (List (List Int)) × (List (List (ByteArray × Int)))) (fun s43 =>
     if s43.2<(list_.length:Int) then
      ass (0≤s43.2∧s43.2<(s43.1.length:Int)) <|
      (Q2a (gx v3 s30.2.2.2) s43.2).bind fun v46 =>
      ass (((gx s43.1 s43.2)++[v46]).length≤1073741824) <|
      ass (0≤s43.2∧s43.2<(s43.1.length:Int)) <|
      ass (B64 (s43.2+1)) <|
      some (Ctl.next (s43.1.set s43.2.toNat ((gx s43.1 s43.2)++[v46]),s43.2+1))
     else
      some (Ctl.ret (s43.1,s30.2.2.1++[v35]))) fuel (s30.2.1,0)).bind fun p43 =>
    some p43:Option (List (List (List Int)) × (List (List (ByteArray × Int))))).bind fun b32 =>
   ass (B64 (s30.2.2.2+1)) <|
   some (Ctl.next (s30.1++[((gx v3 s30.2.2.2).length:Int)],b32.1,b32.2,s30.2.2.2+1))
  else
   some (Ctl.ret (s30.1,s30.2.1,s30.2.2.1))) fuel ([],List.replicate ((list_.length:Int).toNat) ([]:List (List Int)),[],0)).bind fun b9 =>
 (Q2l b9.1).bind fun v51 =>
 if ¬ (v51=true) then
  some ((⟨(⟨0,[],[],[],[]⟩:Cat),[],[]⟩:SF),[],false)
 else
  (Q11 (σ:=List (List Int) × Int) (ε:=List (List Int)) (fun s107 =>
   if s107.2<(((gx list_ 0).s.fr).length:Int) then
    ass (0≤s107.2∧s107.2<(((gx list_ 0).s.fr).length:Int)) <|
    ass (0≤ix ((gx list_ 0).s.fr) s107.2∧ix ((gx list_ 0).s.fr) s107.2<(v3.length:Int)) <|
    (Q11 (σ:=List Int × Int) (ε:=List Int) (fun s135 =>
     if s135.2<((gx v3 (ix ((gx list_ 0).s.fr) s107.2)).length:Int) then
      ass (0≤s135.2∧s135.2<((gx v3 (ix ((gx list_ 0).s.fr) s107.2)).length:Int)) <|
      (Q11 (σ:=List Int × Int) (ε:=List Int) (fun s146 =>
       if s146.2<((rx (gx v3 (ix ((gx list_ 0).s.fr) s107.2)) s135.2).length:Int) then
        ass (0≤s146.2∧s146.2<((rx (gx v3 (ix ((gx list_ 0).s.fr) s107.2)) s135.2).length:Int)) <|
        ass (0≤s146.2∧s146.2<(list_.length:Int)) <|
        ass (0≤s107.2∧s107.2<(((gx list_ s146.2).ac).length:Int)) <|
        ass (0≤ix (rx (gx v3 (ix ((gx list_ 0).s.fr) s107.2)) s135.2) s146.2∧ix (rx (gx v3 (ix ((gx list_ 0).s.fr) s107.2)) s135.2) s146.2<((rx ((gx list_ s146.2).ac) s107.2).length:Int)) <|
        ass ((s146.1++[ix (rx ((gx list_ s146.2).ac) s107.2) (ix (rx (gx v3 (ix ((gx list_ 0).s.fr) s107.2)) s135.2) s146.2)]).length≤1073741824) <|
        ass (B64 (s146.2+1)) <|
        some (Ctl.next (s146.1++[ix (rx ((gx list_ s146.2).ac) s107.2) (ix (rx (gx v3 (ix ((gx list_ 0).s.fr) s107.2)) s135.2) s146.2)],s146.2+1))
       else
        some (Ctl.ret s146.1)) fuel ([],0)).bind fun b138 =>
      ass (0≤s107.2∧s107.2<(((gx list_ 0).s.to).length:Int)) <|
      ass (0≤ix ((gx list_ 0).s.to) s107.2∧ix ((gx list_ 0).s.to) s107.2<(b9.2.2.length:Int)) <|
      (Q3O [b138]).bind fun v156 =>
      ass ((s135.1++[(Q2r v156 (gx b9.2.2 (ix ((gx list_ 0).s.to) s107.2))).getD 0]).length≤1073741824) <|
      ass (B64 (s135.2+1)) <|
      some (Ctl.next (s135.1++[(Q2r v156 (gx b9.2.2 (ix ((gx list_ 0).s.to) s107.2))).getD 0],s135.2+1))
     else
      some (Ctl.ret s135.1)) fuel ([],0)).bind fun b111 =>
    ass ((s107.1++[b111]).length≤1073741824) <|
    ass (B64 (s107.2+1)) <|
    some (Ctl.next (s107.1++[b111],s107.2+1))
   else
    some (Ctl.ret s107.1)) fuel ([],0)).bind fun b53 =>
  some ((⟨v7,b9.1,b53⟩:SF),b9.2.1,true)
@[simp] abbrev YV (a:Cat) (b:List (AV)):List (AV):=iV a.n::.own 4 0 a.fr.length::.own 5 0 a.to.length::.own 6 0 a.id.length::.own 7 0 a.cs.length::b
@[simp] abbrev Y4 (a:Cat) (b:List Int × List (List (List Int)) × (List (List (ByteArray × Int)))) (c:List (List Int) × Int) (d:List (Nat × Ent)):List (Nat × Ent):=(3,.mix 7 [(YV a [.own 8 0 b.1.length,.own 9 0 c.1.length])])::(4,rI a.fr)::(5,rI a.to)::(6,rI a.id)::(7,.row 1 (Ls a.cs))::(8,rI b.1)::(9,.row 1 (Ls c.1))::(10,.row 1 (Es eL b.2.1))::(11,.mix 1 (Es eM b.2.2))::d
@[simp] abbrev Y5 (a:List SF) (b:List (Nat × AV)):List (Nat × AV):=(0,.lst true 1 (Es Qf a))::(4,.adr 0 0 0)::(7,.rptr (SF.cells true (gx a 0)))::(8,.adr 1 0 0)::(9,.adr 3 0 0)::b
@[simp] abbrev Y9 (a:Cat) (b:List (Nat × Ent)):List (Nat × Ent):=(4,rI a.fr)::(5,rI a.to)::(6,rI a.id)::(7,.row 1 (Ls a.cs))::b
@[simp] abbrev YZ (a:List (AV)):List (AV):=iV 0::nS::nS::nS::nS::nS::nS::a
@[simp] abbrev Yd (a:List (Nat × Ent)):List (Nat × Ent):=(0,.mix 7 [(YZ [])])::a
@[simp] abbrev Yi (a:List Int × List (List (List Int)) × (List (List (ByteArray × Int)))) (b:List (Nat × AV)):List (Nat × AV):=(10,.own 10 0 a.2.1.length)::(11,.own 11 0 a.2.2.length)::b
@[simp] abbrev Yn (a:Cat) (b:List (Nat × Ent)):List (Nat × Ent):=(3,.mix 7 [(YV a [nS,nS])])::b
@[simp] abbrev Yo (a:List SF) (b:List (List Int) × Int) (c:List (Nat × AV)):List (Nat × AV):=(91,iV (((gx a 0).s.fr).length:Int))::(92,iV b.2)::c
@[simp] abbrev Yz (a b:SF) (c:List (Nat × Ent)):List (Nat × Ent):=(0,.mix 1 [[.fn 120 [.rptr (Y00 a []),.rptr (Y00 b [])]]])::(1,.mix 7 [(YZ [])])::c
@[simp] abbrev YB (a:List SF) (b:List (Nat × AV)):List (Nat × AV):=(10,.own 8 0 ((List.replicate ((a.length:Int).toNat) ([]:List (List Int))).length))::b
@[simp] abbrev YD (a:List SF) (b:List (Nat × Ent)):List (Nat × Ent):=(8,.row 1 (Es eL (List.replicate ((a.length:Int).toNat) ([]:List (List Int)))))::b
@[simp] abbrev YI (a:Cat) (b:List Int × List (List (List Int)) × (List (List (ByteArray × Int)))) (c:List (Nat × Ent)):List (Nat × Ent):=(3,.mix 7 [(YV a [.own 8 0 b.1.length,nS])])::c
@[simp] abbrev YJ (a:List SF) (b:List (List Int) × Int) (c:List Int × Int) (d:List (Nat × Ent)):List (Nat × Ent):=(14,.ali 2 ((ix ((gx a 0).s.fr) b.2).toNat) 0 1)::(15,.ali 14 c.2.toNat 0 1)::d
@[simp] abbrev YO (a:List (List Int) × Int) (b:List Int × Int) (c:List (Nat × AV)):List (Nat × AV):=(15,iV a.2)::(16,.own 12 0 b.1.length)::c
@[simp] abbrev YP (a:List (Nat × AV)):List (Nat × AV):=(4,.adr 0 0 0)::a
@[simp] abbrev YR (a:Cat) (b:List (Nat × Ent)):List (Nat × Ent):=(3,.mix 7 [(YV a [.own 10 0 0,nS])])::b
@[simp] abbrev YS (a:List SF) (b:List (List Int) × Int) (c:List (Nat × Ent)):List (Nat × Ent):=(13,.ali 2 ((ix ((gx a 0).s.fr) b.2).toNat) 0 1)::c
theorem Q1w [Kd Tryz.prog] [Eo Tryz.prog] (list_:List SF) (at_0:SF) (at_1:SF) (r:SF × List (List (List Int)) × Bool) (h:Qv list_ at_0 at_1=some r):Contract Tryz.prog 78 [.lst true 1 (Es Qf list_),.fn 120 [.rptr (Y00 at_0 []),.rptr (Y00 at_1 [])]] (.tup [.agg (r.1.cells true),.lst true 1 (Es eL r.2.1),.val (.bool r.2.2)]):=by
 refine Qq (rvs:=[.cell 4 34,.tmp 5,.tmp 6]) (rs:=[.agg (r.1.cells true),.lst true 1 (Es eL r.2.1),.val (.bool r.2.2)]) Tryz.func78 rfl rfl rfl rfl (by simp [Tryz.f78]) fun F hN hP=>?_;unfold Qv at h;refine Q3 (runQ hN fun K hK=>?_);simp [eM,eL,eI,Q2,Qm,Qf,Cat.cells,SF.cells];repeat refine sdQ ?_
 refine hK _ ?_;clear hK K;refine tn (Qc (st':=⟨(0,.lst true 1 (Es Qf list_))::YF [],Yz at_0 at_1 [],2⟩) (QE [(0,0),(1,1)]) (Q3 (runQ hN fun K hK=>?_)));replace ⟨a1,h⟩:=Q8 h;simp [eM,eL,eI,Q2,Qm,Qf,Cat.cells,SF.cells,(show (Es Qf list_)[0]? = some (Qf (gx list_ 0)) from at_E (j:=0) a1)];repeat refine sdQ ?_
 refine hK _ ?_;clear hK K;refine tn (Qc (st':=⟨(0,.lst true 1 (Es Qf list_))::YF [(7,.rptr (SF.cells true (gx list_ 0)))],Yz at_0 at_1 [],2⟩) (QE [(0,0),(1,1)]) (Q3 (Q2z [31] mo (by rw [hN];decide) fun K hK=>?_)));replace ⟨a2,h⟩:=Q8 h;simp [eM,eL,eI,Q2,Qm,Qf,Cat.cells,SF.cells];repeat refine sdQ ?_
 refine hK _ ?_;clear hK K;refine tn (Qc (st':=⟨(0,.lst true 1 (Es Qf list_))::YF [(7,.rptr (SF.cells true (gx list_ 0))),(8,.adr 2 0 0)],Yz at_0 at_1 [(2,.mix 1 [[.own 3 0 ((List.replicate (((gx list_ 0).s.n).toNat) ([]:List (List Int))).length)]]),(3,.row 1 (Es eL (List.replicate (((gx list_ 0).s.n).toNat) ([]:List (List Int)))))],4⟩) (QE [(0,0),(1,1),(3,2),(2,3)]) (Q3 (w_runXM [] mo (by rw [hN];decide) fun K hK=>?_)));simp [eM,eL,eI,Q2,Qm,Qf,Cat.cells,SF.cells];repeat with_reducible refine sdQ ?_
 replace ⟨a4,h⟩:=Q8 h;replace ⟨a5,h⟩:=Q8 h;replace ⟨v3,hv3,h⟩:=bind_some h;replace ⟨a6,h⟩:=Q8 h;refine callX_in (fz:=[]) (eoT (e:=2) (Ln:=3) hv3 a4 (fun k y hy=>@Q2D (KdG Tryz.prog false) k _ _ y hy) ⟨_,Tryz.func120,rfl,by simp [Tryz.f120]⟩ (.field rfl (by simp [Cat.cells,SF.cells]) (.cons (.fnL (by simp) (.cons .rptr (.cons .rptr .nil))) .nil)) (by simp [Cat.cells,SF.cells,Qm,Qf]) (by simp) rfl rfl (by simpa using a5) (by simpa using a5) (by simp [Q5V])) ?_;simp [eM,eL,eI,Q2,Qm,Qf,Cat.cells,SF.cells];repeat refine sdQ ?_
 refine hK _ ?_;clear hK K;refine tn (Qc (st':=⟨(0,.lst true 1 (Es Qf list_))::YP [(7,.rptr (SF.cells true (gx list_ 0))),(8,.adr 1 0 0)],Yd [(1,.mix 1 [[.own 2 0 v3.length]]),(2,.row 1 (Es eL v3))],3⟩) (Wk.r1 [(1,0),(2,1),(3,2)] (by simp [hP,hhOk,back,Cat.cells,SF.cells,UA,U1,IA,I1,LA,L1,BA,B1,EA,E1,E2,eB,eI,eL,eM,a6])) (Q3 (runQ hN fun K hK=>?_)));simp [eM,eL,eI,Q2,Qm,Qf,Cat.cells,SF.cells];repeat with_reducible refine sdQ ?_
 replace ⟨v7,hv7,h⟩:=bind_some h;refine Q0 (Q4C _ v7 hv7) (.cons (.preT (by simp [Cat.cells,SF.cells])) .nil) ?_;simp [eM,eL,eI,Q2,Qm,Qf,Cat.cells,SF.cells];repeat refine sdQ ?_
 refine hK _ ?_;clear hK K;refine tn (Qc (st':=⟨Y5 list_ [],Yd ((1,.mix 1 [[.own 2 0 v3.length]])::(2,.row 1 (Es eL v3))::Yn v7 (Y9 v7 [])),8⟩) (Wk.r1 [(0,0),(1,1),(2,2),(8,3),(4,4),(5,5),(6,6),(7,7)] (by simp [hP,hhOk,back,Cat.cells,SF.cells,UA,U1,IA,I1,LA,L1,BA,B1,EA,E1,E2,eB,eI,eL,eM,a6])) (Q3 (Q2z [43] mo (by rw [hN];decide) fun K hK=>?_)));replace ⟨a8,h⟩:=Q8 h;simp [eM,eL,eI,Q2,Qm,Qf,Cat.cells,SF.cells];repeat refine sdQ ?_
 refine hK _ ?_;clear hK K;refine tn (Qc (st':=⟨Y5 list_ (YB list_ []),Yd ((1,.mix 1 [[.own 2 0 v3.length]])::(2,.row 1 (Es eL v3))::Yn v7 (Y9 v7 (YD list_ []))),9⟩) (Wk.r1 [(0,0),(1,1),(2,2),(3,3),(4,4),(5,5),(6,6),(7,7),(8,8)] (by simp [hP,hhOk,back,Cat.cells,SF.cells,UA,U1,IA,I1,LA,L1,BA,B1,EA,E1,E2,eB,eI,eL,eM,a6])) (Q3 (runQ hN fun K hK=>?_)));simp [eM,eL,eI,Q2,Qm,Qf,Cat.cells,SF.cells];repeat refine sdQ ?_
 refine hK _ ?_;clear hK K;refine tn (Qc (st':=⟨Y5 list_ (YB list_ [(11,.own 9 0 0)]),Yd ((1,.mix 1 [[.own 2 0 v3.length]])::(2,.row 1 (Es eL v3))::Yn v7 (Y9 v7 (YD list_ [(9,.mix 1 [])]))),10⟩) (Wk.r1 [(0,0),(1,1),(2,2),(3,3),(4,4),(5,5),(6,6),(7,7),(8,8),(9,9)] (by simp [hP,hhOk,back,Cat.cells,SF.cells,UA,U1,IA,I1,LA,L1,BA,B1,EA,E1,E2,eB,eI,eL,eM,a6])) (Q3 (Q3 (runQ hN fun K hK=>?_))));simp [eM,eL,eI,Q2,Qm,Qf,Cat.cells,SF.cells];repeat refine sdQ ?_
 refine hK _ (tn (Qc (st':=⟨Y5 list_ (YB list_ [(11,.own 9 0 0),(45,.own 2 0 v3.length),(46,iV (v3.length:Int)),(47,iV 0)]),Yd ((1,.mix 1 [[.own 2 0 v3.length]])::(2,.row 1 (Es eL v3))::Yn v7 (Y9 v7 (YD list_ [(9,.mix 1 [])]))),10⟩) (Wk.r1 [(0,0),(1,1),(2,2),(3,3),(4,4),(5,5),(6,6),(7,7),(8,8),(9,9)] (by simp [hP,hhOk,back,Cat.cells,SF.cells,UA,U1,IA,I1,LA,L1,BA,B1,EA,E1,E2,eB,eI,eL,eM,a6])) ?_));clear hK K;replace ⟨e9,h,h9⟩:=bind_some h;refine QQ (fun b9:List Int × List (List (List Int)) × (List (List (ByteArray × Int)))=>⟨Y5 list_ [(10,.own 9 0 b9.2.1.length),(11,.own 10 0 b9.2.2.length)],Yd ((1,.mix 1 [[.own 2 0 v3.length]])::(2,.row 1 (Es eL v3))::YI v7 b9 (Y9 v7 [(8,rI b9.1),(9,.row 1 (Es eL b9.2.1)),(10,.mix 1 (Es eM b9.2.2))])),11⟩) (fun b9=>b9=e9) ?_ ?_
 ·refine Q5 (Q13 h (fun s30:List Int × List (List (List Int)) × (List (List (ByteArray × Int))) × Int=>⟨Y5 list_ [(10,.own 9 0 s30.2.1.length),(11,.own 10 0 s30.2.2.1.length),(45,.own 2 0 v3.length),(46,iV (v3.length:Int)),(47,iV s30.2.2.2)],Yd ((1,.mix 1 [[.own 2 0 v3.length]])::(2,.row 1 (Es eL v3))::(3,.mix 7 [(YV v7 [.own 8 0 s30.1.length,nS])])::Y9 v7 [(8,rI s30.1),(9,.row 1 (Es eL s30.2.1)),(10,.mix 1 (Es eM s30.2.2.1))]),11⟩) (Q3W ⟨Y5 list_ (YB list_ [(11,.own 9 0 0),(45,.own 2 0 v3.length),(46,iV (v3.length:Int)),(47,iV 0)]),Yd ((1,.mix 1 [[.own 2 0 v3.length]])::(2,.row 1 (Es eL v3))::YR v7 (Y9 v7 (YD list_ [(9,.mix 1 []),(10,rI [])]))),11⟩ (Wk.nils [(10,1)] (by simp) (by simp) (by simp [nlA]) (by simp [entN,nlL,nlA,Cat.cells,SF.cells,UA,U1,IA,I1,LA,L1,BA,B1,EA,E1,E2,eB,eI,eL,eM,a6]) (by simp)) (Wk.r1 [(0,0),(1,1),(2,2),(3,3),(4,4),(5,5),(6,6),(7,7),(10,8),(8,9),(9,10)] (by simp [hP,hhOk,back,Cat.cells,SF.cells,UA,U1,IA,I1,LA,L1,BA,B1,EA,E1,E2,eB,eI,eL,eM,a6]))) ?_);clear h;intro k30 s30 c30 h hk30;refine Q3 (runQ hN fun K hK=>?_);simp [eM,eL,eI,Q2,Qm,Qf,Cat.cells,SF.cells];repeat refine sdQ ?_
  refine hK _ ?_;clear hK K;refine tn (Q3 (Q6 rfl (fun g=>?_) fun g=>?_))
  ·have g31:s30.2.2.2<(v3.length:Int):=gQ;clear g;replace h:=if_l g31 h;refine Q7 (tn (Q3 ?_));replace ⟨e32,h,h32⟩:=bind_some h;refine QQ (fun b32:List (List (List Int)) × (List (List (ByteArray × Int)))=>⟨Y5 list_ [(10,.own 9 0 b32.1.length),(11,.own 10 0 b32.2.length),(45,.own 2 0 v3.length),(46,iV (v3.length:Int)),(47,iV s30.2.2.2)],Yd ((1,.mix 1 [[.own 2 0 v3.length]])::(2,.row 1 (Es eL v3))::(3,.mix 7 [(YV v7 [.own 8 0 ((s30.1++[((gx v3 s30.2.2.2).length:Int)]).length),nS])])::Y9 v7 [(8,rI (s30.1++[((gx v3 s30.2.2.2).length:Int)])),(9,.row 1 (Es eL b32.1)),(10,.mix 1 (Es eM b32.2))]),11⟩) (fun b32=>b32=e32) ?_ ?_
   ·refine Q5 (Q3 (runQ hN fun K hK=>?_));replace ⟨a33,h⟩:=Q8 h;simp [eM,eL,eI,Q2,Qm,Qf,Cat.cells,SF.cells,at_E (c:=eL) a33];(repeat refine sdQ ?_);refine hK _ ?_;clear hK K;refine tn (Qc (st':=⟨Y5 list_ [(10,.own 9 0 s30.2.1.length),(11,.own 10 0 s30.2.2.1.length),(13,.own 11 0 ((gx v3 s30.2.2.2).length)),(45,.own 2 0 v3.length),(46,iV (v3.length:Int)),(47,iV s30.2.2.2)],Yd ((1,.mix 1 [[.own 2 0 v3.length]])::(2,.row 1 (Es eL v3))::(3,.mix 7 [(YV v7 [.own 8 0 s30.1.length,nS])])::Y9 v7 [(8,rI s30.1),(9,.row 1 (Es eL s30.2.1)),(10,.mix 1 (Es eM s30.2.2.1)),(11,.ali 2 s30.2.2.2.toNat 0 1)]),12⟩) (Wk.r1 [(0,0),(1,1),(2,2),(3,3),(4,4),(5,5),(6,6),(7,7),(8,8),(9,9),(10,10),(11,11)] (by simp [hP,hhOk,back,Cat.cells,SF.cells,UA,U1,IA,I1,LA,L1,BA,B1,EA,E1,E2,eB,eI,eL,eM,a6])) (Q3 (runQ hN fun K hK=>?_)));replace ⟨a34,h⟩:=Q8 h;(try simp only [List.length_append,List.length_cons,List.length_nil] at a34);simp [eM,eL,eI,Q2,Qm,Qf,Cat.cells,SF.cells,at_E (c:=eL) a33,a34];(repeat refine sdQ ?_);refine hK _ ?_;clear hK K;refine tn (Qc (st':=⟨Y5 list_ [(10,.own 9 0 s30.2.1.length),(11,.own 10 0 s30.2.2.1.length),(13,.own 11 0 ((gx v3 s30.2.2.2).length)),(45,.own 2 0 v3.length),(46,iV (v3.length:Int)),(47,iV s30.2.2.2)],Yd ((1,.mix 1 [[.own 2 0 v3.length]])::(2,.row 1 (Es eL v3))::(3,.mix 7 [(YV v7 [.own 8 0 ((s30.1++[((gx v3 s30.2.2.2).length:Int)]).length),nS])])::Y9 v7 [(8,rI (s30.1++[((gx v3 s30.2.2.2).length:Int)])),(9,.row 1 (Es eL s30.2.1)),(10,.mix 1 (Es eM s30.2.2.1)),(11,.ali 2 s30.2.2.2.toNat 0 1)]),12⟩) (Wk.r1 [(0,0),(1,1),(2,2),(3,3),(4,4),(5,5),(6,6),(7,7),(13,8),(9,9),(10,10),(11,11)] (by simp [hP,hhOk,back,Cat.cells,SF.cells,UA,U1,IA,I1,LA,L1,BA,B1,EA,E1,E2,eB,eI,eL,eM,a6])) (Q3 (Q2z [62] mo (by rw [hN];decide) fun K hK=>?_)));simp [eM,eL,eI,Q2,Qm,Qf,Cat.cells,SF.cells];(repeat with_reducible refine sdQ ?_);replace ⟨v35,hv35,h⟩:=bind_some h;refine callX_fro (fz:=[62]) false (Qac _ v35 hv35) (PurK.ofL (.cons (.whole (by simp [at_E (c:=eL) a33,eL]) (by simp) (by simp [at_E (c:=eL) a33,eL])) .nil)) ?_;replace ⟨a36,h⟩:=Q8 h;(try simp only [List.length_append,List.length_cons,List.length_nil] at a36);simp [eM,eL,eI,Q2,Qm,Qf,Cat.cells,SF.cells,a36];(repeat refine sdQ ?_);refine hK _ ?_;clear hK K
    refine tn (Qc (st':=⟨Y5 list_ [(10,.own 9 0 s30.2.1.length),(11,.own 10 0 ((s30.2.2.1++[v35]).length)),(13,.own 11 0 ((gx v3 s30.2.2.2).length)),(45,.own 2 0 v3.length),(46,iV (v3.length:Int)),(47,iV s30.2.2.2)],Yd ((1,.mix 1 [[.own 2 0 v3.length]])::(2,.row 1 (Es eL v3))::(3,.mix 7 [(YV v7 [.own 8 0 ((s30.1++[((gx v3 s30.2.2.2).length:Int)]).length),nS])])::Y9 v7 [(8,rI (s30.1++[((gx v3 s30.2.2.2).length:Int)])),(9,.row 1 (Es eL s30.2.1)),(10,.mix 1 (Es eM (s30.2.2.1++[v35]))),(11,.ali 2 s30.2.2.2.toNat 0 1)]),12⟩) (Wk.r1 [(0,0),(1,1),(2,2),(3,3),(4,4),(5,5),(6,6),(7,7),(8,8),(9,9),(13,10),(11,11)] (by simp [hP,hhOk,back,Cat.cells,SF.cells,UA,U1,IA,I1,LA,L1,BA,B1,EA,E1,E2,eB,eI,eL,eM,a6])) (Q3 (runQ hN fun K hK=>?_)));simp [eM,eL,eI,Q2,Qm,Qf,Cat.cells,SF.cells];(repeat refine sdQ ?_);refine hK _ (tn (Qc (st':=⟨Y5 list_ [(10,.own 9 0 s30.2.1.length),(11,.own 10 0 ((s30.2.2.1++[v35]).length)),(13,.own 11 0 ((gx v3 s30.2.2.2).length)),(45,.own 2 0 v3.length),(46,iV (v3.length:Int)),(47,iV s30.2.2.2),(64,iV (list_.length:Int)),(65,iV 0)],Yd ((1,.mix 1 [[.own 2 0 v3.length]])::(2,.row 1 (Es eL v3))::(3,.mix 7 [(YV v7 [.own 8 0 ((s30.1++[((gx v3 s30.2.2.2).length:Int)]).length),nS])])::Y9 v7 [(8,rI (s30.1++[((gx v3 s30.2.2.2).length:Int)])),(9,.row 1 (Es eL s30.2.1)),(10,.mix 1 (Es eM (s30.2.2.1++[v35]))),(11,.ali 2 s30.2.2.2.toNat 0 1)]),12⟩) (Wk.r1 [(0,0),(1,1),(2,2),(3,3),(4,4),(5,5),(6,6),(7,7),(8,8),(9,9),(10,10),(11,11)] (by simp [hP,hhOk,back,Cat.cells,SF.cells,UA,U1,IA,I1,LA,L1,BA,B1,EA,E1,E2,eB,eI,eL,eM,a6])) (Q5 ?_)));clear hK K;replace ⟨e43,he43,h43⟩:=bind_some h
    refine Q13 he43 (fun s43:List (List (List Int)) × Int=>⟨Y5 list_ [(10,.own 9 0 s43.1.length),(11,.own 10 0 ((s30.2.2.1++[v35]).length)),(13,.own 11 0 ((gx v3 s30.2.2.2).length)),(45,.own 2 0 v3.length),(46,iV (v3.length:Int)),(47,iV s30.2.2.2),(64,iV (list_.length:Int)),(65,iV s43.2)],Yd ((1,.mix 1 [[.own 2 0 v3.length]])::(2,.row 1 (Es eL v3))::(3,.mix 7 [(YV v7 [.own 8 0 ((s30.1++[((gx v3 s30.2.2.2).length:Int)]).length),nS])])::Y9 v7 [(8,rI (s30.1++[((gx v3 s30.2.2.2).length:Int)])),(9,.row 1 (Es eL s43.1)),(10,.mix 1 (Es eM (s30.2.2.1++[v35]))),(11,.ali 2 s30.2.2.2.toNat 0 1)]),12⟩) (Wk.r1 [(0,0),(1,1),(2,2),(3,3),(4,4),(5,5),(6,6),(7,7),(8,8),(9,9),(10,10),(11,11)] (by simp [hP,hhOk,back,Cat.cells,SF.cells,UA,U1,IA,I1,LA,L1,BA,B1,EA,E1,E2,eB,eI,eL,eM,a6])) ?_;intro k43 s43 c43 h hk43;refine Q3 (runQ hN fun K hK=>?_);simp [eM,eL,eI,Q2,Qm,Qf,Cat.cells,SF.cells];(repeat refine sdQ ?_);refine hK _ ?_;clear hK K;refine tn (Q3 (Q6 rfl (fun g=>?_) fun g=>?_))
    ·have g44:s43.2<(list_.length:Int):=gQ;clear g;replace h:=if_l g44 h;refine Q7 (tn (Q3 (Q5 (Q3 (runQ hN fun K hK=>?_)))));simp [eM,eL,eI,Q2,Qm,Qf,Cat.cells,SF.cells];(repeat refine sdQ ?_);refine hK _ ?_;clear hK K;refine tn (Qc (st':=⟨Y5 list_ [(10,.own 9 0 s43.1.length),(11,.own 10 0 ((s30.2.2.1++[v35]).length)),(13,.own 11 0 ((gx v3 s30.2.2.2).length)),(14,iV s43.2),(45,.own 2 0 v3.length),(46,iV (v3.length:Int)),(47,iV s30.2.2.2),(64,iV (list_.length:Int)),(65,iV s43.2)],Yd ((1,.mix 1 [[.own 2 0 v3.length]])::(2,.row 1 (Es eL v3))::(3,.mix 7 [(YV v7 [.own 8 0 ((s30.1++[((gx v3 s30.2.2.2).length:Int)]).length),nS])])::Y9 v7 [(8,rI (s30.1++[((gx v3 s30.2.2.2).length:Int)])),(9,.row 1 (Es eL s43.1)),(10,.mix 1 (Es eM (s30.2.2.1++[v35]))),(11,.ali 2 s30.2.2.2.toNat 0 1)]),12⟩) (Wk.r1 [(0,0),(1,1),(2,2),(3,3),(4,4),(5,5),(6,6),(7,7),(8,8),(9,9),(10,10),(11,11)] (by simp [hP,hhOk,back,Cat.cells,SF.cells,UA,U1,IA,I1,LA,L1,BA,B1,EA,E1,E2,eB,eI,eL,eM,a6])) (w_runXR false [] [116] mo (by rw [hN];decide) fun K hK=>?_));replace ⟨a45,h⟩:=Q8 h;simp [eM,eL,eI,Q2,Qm,Qf,Cat.cells,SF.cells,at_E (c:=eL) a45];(repeat with_reducible refine sdQ ?_);replace ⟨v46,hv46,h⟩:=bind_some h;refine Q2U (fz:=[]) (Qab _ _ v46 hv46) (.cons (.whole (by simp [at_E (c:=eL) a33,eL]) (by simp) (by simp [at_E (c:=eL) a33,eL])) (.cons .val .nil)) ?_;replace ⟨a47,h⟩:=Q8 h;(try simp only [List.length_append,List.length_cons,List.length_nil] at a47);simp [eM,eL,eI,Q2,Qm,Qf,Cat.cells,SF.cells,at_E (c:=eL) a45,a47];(repeat with_reducible refine sdQ ?_);refine Q9L (fz:=[]) (sem_apaE (es2:=Ls (gx s43.1 s43.2)) (es3:=Ls ((gx s43.1 s43.2)++[v46])) (news:=[[lI v46]]) (c2:=True) (d2:=[13]) rfl ef_23 tf_22 rfl (by decide) rfl (by simp) rfl rfl (by simp [src,Q19]) trivial (by first|(simp;done)|(simp;omega)|omega) (by decide) (by simp [at_E (c:=eL) a45,eL,eI]) (by simp;omega) (by simp;omega) (by simp) (by simp) (by simp) (by simp [eL,UA,U1,IA,I1,LA,L1,BA,B1,EA,E1,E2,eB,eI,eL,eM])) ?_;replace ⟨a48,h⟩:=Q8 h;simp [eM,eL,eI,Q2,Qm,Qf,Cat.cells,SF.cells,at_E (c:=eL) a45,at_E (c:=eL) a48];(repeat with_reducible refine sdQ ?_);refine stoX_rowK (fz:=[]) [] tf_23 rfl (b:=.lst true 1 (Ls ((gx s43.1 s43.2)++[v46]))) (ds:=[15]) (es2:=Es eL (s43.1.set s43.2.toNat ((gx s43.1 s43.2)++[v46]))) rfl (by simp) (by first|(simp;done)|(simp;omega)|omega) (by simp) (by simp) (by simp) rfl (holed_set (Es_st (fun _=>rfl) rfl)) ?_;simp [eM,eL,eI,Q2,Qm,Qf,Cat.cells,SF.cells,at_E (c:=eL) a45,at_E (c:=eL) a48]
     (repeat refine sdQ ?_);refine hK _ ?_;clear hK K;refine bn (tn (Qc (st':=⟨Y5 list_ [(10,.own 9 0 ((s43.1.set s43.2.toNat ((gx s43.1 s43.2)++[v46])).length)),(11,.own 10 0 ((s30.2.2.1++[v35]).length)),(13,.own 11 0 ((gx v3 s30.2.2.2).length)),(45,.own 2 0 v3.length),(46,iV (v3.length:Int)),(47,iV s30.2.2.2),(64,iV (list_.length:Int)),(65,iV s43.2)],Yd ((1,.mix 1 [[.own 2 0 v3.length]])::(2,.row 1 (Es eL v3))::(3,.mix 7 [(YV v7 [.own 8 0 ((s30.1++[((gx v3 s30.2.2.2).length:Int)]).length),nS])])::Y9 v7 [(8,rI (s30.1++[((gx v3 s30.2.2.2).length:Int)])),(9,.row 1 (Es eL (s43.1.set s43.2.toNat ((gx s43.1 s43.2)++[v46])))),(10,.mix 1 (Es eM (s30.2.2.1++[v35]))),(11,.ali 2 s30.2.2.2.toNat 0 1)]),12⟩) (Wk.r1 [(0,0),(1,1),(2,2),(3,3),(4,4),(5,5),(6,6),(7,7),(8,8),(9,9),(10,10),(11,11)] (by simp [hP,hhOk,back,Cat.cells,SF.cells,UA,U1,IA,I1,LA,L1,BA,B1,EA,E1,E2,eB,eI,eL,eM,a6])) (runQ hN fun K hK=>?_)));replace ⟨a49,h⟩:=Q8 h;simp [eM,eL,eI,Q2,Qm,Qf,Cat.cells,SF.cells,QA a49];(repeat refine sdQ ?_);refine hK _ ?_;clear hK K;cases h;exact rn (s':=(s43.1.set s43.2.toNat ((gx s43.1 s43.2)++[v46]),s43.2+1)) hk43 (Wk.r1 [(0,0),(1,1),(2,2),(3,3),(4,4),(5,5),(6,6),(7,7),(8,8),(9,9),(10,10),(11,11)] (by simp [hP,hhOk,back,Cat.cells,SF.cells,UA,U1,IA,I1,LA,L1,BA,B1,EA,E1,E2,eB,eI,eL,eM,a6]))
    have g44:¬ (s43.2<(list_.length:Int)):=gQ;clear g;replace h:=if_r g44 h;refine Qk (tx (lx (bh (bn ?_))));cases h;have q:_=e43:=hk43;have h:=h43;rw [← q] at h;clear q;(try dsimp only at h);exact jn (b:=(s43.1,s30.2.2.1++[v35])) (Option.some.inj h) (Wk.r1 [(0,0),(1,1),(2,2),(3,3),(4,4),(5,5),(6,6),(7,7),(8,8),(9,9),(10,10)] (by simp [hP,hhOk,back,Cat.cells,SF.cells,UA,U1,IA,I1,LA,L1,BA,B1,EA,E1,E2,eB,eI,eL,eM,a6]))
   intro b32 hb32;have h:=h32;(try rw [← hb32] at h);clear h32;(try dsimp only at h);refine runQ hN fun K hK=>?_;replace ⟨a50,h⟩:=Q8 h;simp [eM,eL,eI,Q2,Qm,Qf,Cat.cells,SF.cells,QA a50];(repeat refine sdQ ?_);refine hK _ ?_;clear hK K;cases h;exact rn (s':=(s30.1++[((gx v3 s30.2.2.2).length:Int)],b32.1,b32.2,s30.2.2.2+1)) hk30 (Wk.r1 [(0,0),(1,1),(2,2),(3,3),(4,4),(5,5),(6,6),(7,7),(8,8),(9,9),(10,10)] (by simp [hP,hhOk,back,Cat.cells,SF.cells,UA,U1,IA,I1,LA,L1,BA,B1,EA,E1,E2,eB,eI,eL,eM,a6]))
  have g31:¬ (s30.2.2.2<(v3.length:Int)):=gQ;clear g;replace h:=if_r g31 h;refine Qk (tx (lx (bh ?_)));cases h;exact jn (b:=(s30.1,s30.2.1,s30.2.2.1)) hk30 (Wk.r1 [(0,0),(1,1),(2,2),(3,3),(4,4),(5,5),(6,6),(7,7),(8,8),(9,9),(10,10)] (by simp [hP,hhOk,back,Cat.cells,SF.cells,UA,U1,IA,I1,LA,L1,BA,B1,EA,E1,E2,eB,eI,eL,eM,a6]))
 intro b9 hb9;have h:=h9;try rw [← hb9] at h
 clear h9;try dsimp only at h
 refine Q3 (Q3 (runQ hN fun K hK=>?_));simp [eM,eL,eI,Q2,Qm,Qf,Cat.cells,SF.cells];repeat with_reducible refine sdQ ?_
 replace ⟨v51,hv51,h⟩:=bind_some h;refine Q0 (Q8w _ v51 hv51) (.cons .w .nil) ?_;simp [eM,eL,eI,Q2,Qm,Qf,Cat.cells,SF.cells];repeat refine sdQ ?_
 refine hK _ ?_;clear hK K;refine tn (Qc (st':=⟨Y5 list_ [(10,.own 9 0 b9.2.1.length),(11,.own 10 0 b9.2.2.length),(85,.val (.bool (!v51)))],Yd ((1,.mix 1 [[.own 2 0 v3.length]])::(2,.row 1 (Es eL v3))::YI v7 b9 (Y9 v7 [(8,rI b9.1),(9,.row 1 (Es eL b9.2.1)),(10,.mix 1 (Es eM b9.2.2))])),11⟩) (Wk.r1 [(0,0),(1,1),(2,2),(3,3),(4,4),(5,5),(6,6),(7,7),(8,8),(9,9),(10,10)] (by simp [hP,hhOk,back,Cat.cells,SF.cells,UA,U1,IA,I1,LA,L1,BA,B1,EA,E1,E2,eB,eI,eL,eM,a6])) (Q6 rfl (fun g=>?_) fun g=>?_))
 ·have g52:¬ (v51=true):=gQ;clear g;replace h:=if_l g52 h;refine Q3 (runQ hN fun K hK=>?_);simp [eM,eL,eI,Q2,Qm,Qf,Cat.cells,SF.cells];repeat refine sdQ ?_
  refine hK _ (tn (Qc (st':=⟨YP [(5,nS),(6,.val (.bool false))],Yd [],1⟩) (Wk.r1 [(0,0)] (by simp [hP,hhOk,back,Cat.cells,SF.cells,UA,U1,IA,I1,LA,L1,BA,B1,EA,E1,E2,eB,eI,eL,eM,a6])) (Qg (tr ?_))));clear hK K;have hr:=Option.some.inj h;rw [← hr];refine ⟨_,(.cell tf_34 rfl rfl rfl (by simp) (by simp) (.tmp (.tmp .nil))),?_⟩;refine ⟨(.agg rfl (.one rfl rfl (.one rfl rfl .nil))),[iV 0,nS,nS,nS,nS,nS,nS,nS,.val (.bool false)],[],by simp [Cat.cells,SF.cells,UA,U1,IA,I1,LA,L1,BA,B1,EA,E1,E2,eB,eI,eL,eM],by simp,(.cons .refl (.cons .nil (.cons .nil (.cons .nil (.cons .nil (.cons .nil (.cons .nil (.cons .nil (.cons .refl .nil)))))))))⟩
 have g52:¬ (¬ (v51=true)):=gQ;clear g;replace h:=if_r g52 h;refine Q7 (tn (Q3 (Q3 (runQ hN fun K hK=>?_))));simp [eM,eL,eI,Q2,Qm,Qf,Cat.cells,SF.cells];repeat refine sdQ ?_
 refine hK _ (tn (Qc (st':=⟨Y5 list_ [(10,.own 9 0 b9.2.1.length),(11,.own 10 0 b9.2.2.length),(91,iV (((gx list_ 0).s.fr).length:Int)),(92,iV 0)],Yd ((1,.mix 1 [[.own 2 0 v3.length]])::(2,.row 1 (Es eL v3))::YI v7 b9 (Y9 v7 [(8,rI b9.1),(9,.row 1 (Es eL b9.2.1)),(10,.mix 1 (Es eM b9.2.2))])),11⟩) (Wk.r1 [(0,0),(1,1),(2,2),(3,3),(4,4),(5,5),(6,6),(7,7),(8,8),(9,9),(10,10)] (by simp [hP,hhOk,back,Cat.cells,SF.cells,UA,U1,IA,I1,LA,L1,BA,B1,EA,E1,E2,eB,eI,eL,eM,a6])) ?_));clear hK K;replace ⟨e53,h,h53⟩:=bind_some h;refine QQ (fun b53:List (List Int)=>⟨YP [(9,.adr 1 0 0),(10,.own 8 0 b9.2.1.length)],Yd [(1,.mix 7 [[iV v7.n,.own 2 0 v7.fr.length,.own 3 0 v7.to.length,.own 4 0 v7.id.length,.own 5 0 v7.cs.length,.own 6 0 b9.1.length,.own 7 0 b53.length]]),(2,rI v7.fr),(3,rI v7.to),(4,rI v7.id),(5,.row 1 (Ls v7.cs)),(6,rI b9.1),(7,.row 1 (Ls b53)),(8,.row 1 (Es eL b9.2.1))],9⟩) (fun b53=>b53=e53) ?_ ?_
 ·refine Q5 (Q13 h (fun s107:List (List Int) × Int=>⟨Y5 list_ (Yi b9 (Yo list_ s107 [])),Yd ((1,.mix 1 [[.own 2 0 v3.length]])::(2,.row 1 (Es eL v3))::Y4 v7 b9 s107 []),12⟩) (Q3W ⟨Y5 list_ [(10,.own 9 0 b9.2.1.length),(11,.own 10 0 b9.2.2.length),(91,iV (((gx list_ 0).s.fr).length:Int)),(92,iV 0)],Yd ((1,.mix 1 [[.own 2 0 v3.length]])::(2,.row 1 (Es eL v3))::(3,.mix 7 [(YV v7 [.own 8 0 b9.1.length,.own 11 0 0])])::Y9 v7 [(8,rI b9.1),(9,.row 1 (Es eL b9.2.1)),(10,.mix 1 (Es eM b9.2.2)),(11,.row 1 (Ls []))]),12⟩ (Wk.nils [(11,1)] (by simp) (by simp) (by simp [nlA]) (by simp [Q5h,Q7R,Q7S,nlL,nlA,Cat.cells,SF.cells,UA,U1,IA,I1,LA,L1,BA,B1,EA,E1,E2,eB,eI,eL,eM,a6]) (by simp)) (Wk.r1 [(0,0),(1,1),(2,2),(3,3),(4,4),(5,5),(6,6),(7,7),(8,8),(11,9),(9,10),(10,11)] (by simp [hP,hhOk,back,Cat.cells,SF.cells,UA,U1,IA,I1,LA,L1,BA,B1,EA,E1,E2,eB,eI,eL,eM,a6]))) ?_);clear h;intro k107 s107 c107 h hk107;refine Q3 (runQ hN fun K hK=>?_);simp [eM,eL,eI,Q2,Qm,Qf,Cat.cells,SF.cells];repeat refine sdQ ?_
  refine hK _ ?_;clear hK K;refine tn (Q3 (Q6 rfl (fun g=>?_) fun g=>?_))
  ·have g108:s107.2<(((gx list_ 0).s.fr).length:Int):=gQ;clear g;replace h:=if_l g108 h;refine Q7 (tn (Q3 (Q5 (Q3 (runQ hN fun K hK=>?_)))));simp [eM,eL,eI,Q2,Qm,Qf,Cat.cells,SF.cells];(repeat refine sdQ ?_);refine hK _ ?_;clear hK K;refine tn (Qc (st':=⟨Y5 list_ (Yi b9 ((15,iV s107.2)::Yo list_ s107 [])),Yd ((1,.mix 1 [[.own 2 0 v3.length]])::(2,.row 1 (Es eL v3))::Y4 v7 b9 s107 []),12⟩) (Wk.r1 [(0,0),(1,1),(2,2),(3,3),(4,4),(5,5),(6,6),(7,7),(8,8),(9,9),(10,10),(11,11)] (by simp [hP,hhOk,back,Cat.cells,SF.cells,UA,U1,IA,I1,LA,L1,BA,B1,EA,E1,E2,eB,eI,eL,eM,a6])) (Q3 (runQ hN fun K hK=>?_)));simp [eM,eL,eI,Q2,Qm,Qf,Cat.cells,SF.cells];(repeat refine sdQ ?_);refine hK _ ?_;clear hK K;refine tn (Qc (st':=⟨Y5 list_ (Yi b9 ((15,iV s107.2)::(16,.own 12 0 0)::Yo list_ s107 [])),Yd ((1,.mix 1 [[.own 2 0 v3.length]])::(2,.row 1 (Es eL v3))::Y4 v7 b9 s107 [(12,.mix 1 [])]),13⟩) (Wk.r1 [(0,0),(1,1),(2,2),(3,3),(4,4),(5,5),(6,6),(7,7),(8,8),(9,9),(10,10),(11,11),(12,12)] (by simp [hP,hhOk,back,Cat.cells,SF.cells,UA,U1,IA,I1,LA,L1,BA,B1,EA,E1,E2,eB,eI,eL,eM,a6])) (Q3 (Q3 (runQ hN fun K hK=>?_))));replace ⟨a109,h⟩:=Q8 h;replace ⟨a110,h⟩:=Q8 h;simp [eM,eL,eI,Q2,Qm,Qf,Cat.cells,SF.cells,at_I a109,at_E (c:=eL) a110];(repeat refine sdQ ?_);refine hK _ (tn ?_);clear hK K
   refine Qc (st':=⟨Y5 list_ (Yi b9 ((15,iV s107.2)::(16,.own 12 0 0)::Yo list_ s107 [(105,.own 13 0 ((gx v3 (ix ((gx list_ 0).s.fr) s107.2)).length)),(106,iV ((gx v3 (ix ((gx list_ 0).s.fr) s107.2)).length:Int)),(107,iV 0)])),Yd ((1,.mix 1 [[.own 2 0 v3.length]])::(2,.row 1 (Es eL v3))::Y4 v7 b9 s107 ((12,.mix 1 [])::YS list_ s107 [])),14⟩) (Wk.r1 [(0,0),(1,1),(2,2),(3,3),(4,4),(5,5),(6,6),(7,7),(8,8),(9,9),(10,10),(11,11),(12,12),(13,13)] (by simp [hP,hhOk,back,Cat.cells,SF.cells,UA,U1,IA,I1,LA,L1,BA,B1,EA,E1,E2,eB,eI,eL,eM,a6])) ?_;replace ⟨e111,h,h111⟩:=bind_some h;refine QQ (fun b111:List Int=>⟨Y5 list_ (Yi b9 ((16,.own 12 0 b111.length)::Yo list_ s107 [])),Yd ((1,.mix 1 [[.own 2 0 v3.length]])::(2,.row 1 (Es eL v3))::Y4 v7 b9 s107 [(12,rI b111)]),13⟩) (fun b111=>b111=e111) ?_ ?_
   ·refine Q5 (Q13 h (fun s135:List Int × Int=>⟨Y5 list_ (Yi b9 (YO s107 s135 (Yo list_ s107 [(105,.own 13 0 ((gx v3 (ix ((gx list_ 0).s.fr) s107.2)).length)),(106,iV ((gx v3 (ix ((gx list_ 0).s.fr) s107.2)).length:Int)),(107,iV s135.2)]))),Yd ((1,.mix 1 [[.own 2 0 v3.length]])::(2,.row 1 (Es eL v3))::Y4 v7 b9 s107 ((12,rI s135.1)::YS list_ s107 [])),14⟩) (Q3W ⟨Y5 list_ (Yi b9 ((15,iV s107.2)::(16,.own 12 0 0)::Yo list_ s107 [(105,.own 13 0 ((gx v3 (ix ((gx list_ 0).s.fr) s107.2)).length)),(106,iV ((gx v3 (ix ((gx list_ 0).s.fr) s107.2)).length:Int)),(107,iV 0)])),Yd ((1,.mix 1 [[.own 2 0 v3.length]])::(2,.row 1 (Es eL v3))::Y4 v7 b9 s107 ((12,rI [])::YS list_ s107 [])),14⟩ (Wk.nils [] (by simp) (by simp) (by simp [nlA]) (by simp [Q5h,Q7R,Q7S,nlL,nlA,Cat.cells,SF.cells,UA,U1,IA,I1,LA,L1,BA,B1,EA,E1,E2,eB,eI,eL,eM,a6]) (by simp)) (Wk.r1 [(0,0),(1,1),(2,2),(3,3),(4,4),(5,5),(6,6),(7,7),(8,8),(9,9),(10,10),(11,11),(12,12),(13,13)] (by simp [hP,hhOk,back,Cat.cells,SF.cells,UA,U1,IA,I1,LA,L1,BA,B1,EA,E1,E2,eB,eI,eL,eM,a6]))) ?_);clear h;intro k135 s135 c135 h hk135;refine Q3 (runQ hN fun K hK=>?_);simp [eM,eL,eI,Q2,Qm,Qf,Cat.cells,SF.cells];(repeat refine sdQ ?_);refine hK _ ?_;clear hK K;refine tn (Q3 (Q6 rfl (fun g=>?_) fun g=>?_))
    ·have g136:s135.2<((gx v3 (ix ((gx list_ 0).s.fr) s107.2)).length:Int):=gQ;clear g;replace h:=if_l g136 h;refine Q7 (tn (Q3 (Q5 (Q3 (runQ hN fun K hK=>?_)))));replace ⟨a137,h⟩:=Q8 h;simp [eM,eL,eI,Q2,Qm,Qf,Cat.cells,SF.cells,at_E (c:=eL) a110,at_L a137];(repeat refine sdQ ?_);refine hK _ ?_;clear hK K;refine tn (Qc (st':=⟨Y5 list_ (Yi b9 (YO s107 s135 ((18,.own 14 0 ((rx (gx v3 (ix ((gx list_ 0).s.fr) s107.2)) s135.2).length))::Yo list_ s107 [(105,.own 13 0 ((gx v3 (ix ((gx list_ 0).s.fr) s107.2)).length)),(106,iV ((gx v3 (ix ((gx list_ 0).s.fr) s107.2)).length:Int)),(107,iV s135.2)]))),Yd ((1,.mix 1 [[.own 2 0 v3.length]])::(2,.row 1 (Es eL v3))::Y4 v7 b9 s107 ((12,rI s135.1)::YS list_ s107 [(14,.ali 13 s135.2.toNat 0 1)])),15⟩) (Wk.r1 [(0,0),(1,1),(2,2),(3,3),(4,4),(5,5),(6,6),(7,7),(8,8),(9,9),(10,10),(11,11),(12,12),(14,14),(13,13)] (by simp [hP,hhOk,back,Cat.cells,SF.cells,UA,U1,IA,I1,LA,L1,BA,B1,EA,E1,E2,eB,eI,eL,eM,a6])) (Q3 (runQ hN fun K hK=>?_)));simp [eM,eL,eI,Q2,Qm,Qf,Cat.cells,SF.cells];(repeat refine sdQ ?_);refine hK _ (tn ?_);clear hK K
     refine Qc (st':=⟨Y5 list_ (Yi b9 (YO s107 s135 ((18,.own 14 0 ((rx (gx v3 (ix ((gx list_ 0).s.fr) s107.2)) s135.2).length))::(19,.own 15 0 0)::Yo list_ s107 [(105,.own 13 0 ((gx v3 (ix ((gx list_ 0).s.fr) s107.2)).length)),(106,iV ((gx v3 (ix ((gx list_ 0).s.fr) s107.2)).length:Int)),(107,iV s135.2)]))),Yd ((1,.mix 1 [[.own 2 0 v3.length]])::(2,.row 1 (Es eL v3))::Y4 v7 b9 s107 ((12,rI s135.1)::YS list_ s107 [(14,.ali 13 s135.2.toNat 0 1),(15,.mix 1 [])])),16⟩) (Wk.r1 [(0,0),(1,1),(2,2),(3,3),(4,4),(5,5),(6,6),(7,7),(8,8),(9,9),(10,10),(11,11),(12,12),(14,14),(13,13),(15,15)] (by simp [hP,hhOk,back,Cat.cells,SF.cells,UA,U1,IA,I1,LA,L1,BA,B1,EA,E1,E2,eB,eI,eL,eM,a6])) (Q3 (Q3 (runQ hN fun K hK=>?_)));simp [eM,eL,eI,Q2,Qm,Qf,Cat.cells,SF.cells,at_E (c:=eL) a110,at_L a137];(repeat refine sdQ ?_);refine hK _ (tn (Qc (st':=⟨Y5 list_ (Yi b9 (YO s107 s135 ((19,.own 13 0 0)::Yo list_ s107 [(105,.own 14 0 ((gx v3 (ix ((gx list_ 0).s.fr) s107.2)).length)),(106,iV ((gx v3 (ix ((gx list_ 0).s.fr) s107.2)).length:Int)),(107,iV s135.2),(112,.own 15 0 ((rx (gx v3 (ix ((gx list_ 0).s.fr) s107.2)) s135.2).length)),(113,iV ((rx (gx v3 (ix ((gx list_ 0).s.fr) s107.2)) s135.2).length:Int)),(114,iV 0)]))),Yd ((1,.mix 1 [[.own 2 0 v3.length]])::(2,.row 1 (Es eL v3))::Y4 v7 b9 s107 ((12,rI s135.1)::(13,.mix 1 [])::YJ list_ s107 s135 [])),16⟩) (Wk.r1 [(0,0),(1,1),(2,2),(3,3),(4,4),(5,5),(6,6),(7,7),(8,8),(9,9),(10,10),(11,11),(12,12),(15,13),(13,14),(14,15)] (by simp [hP,hhOk,back,Cat.cells,SF.cells,UA,U1,IA,I1,LA,L1,BA,B1,EA,E1,E2,eB,eI,eL,eM,a6])) ?_));clear hK K;replace ⟨e138,h,h138⟩:=bind_some h
     refine QQ (fun b138:List Int=>⟨Y5 list_ (Yi b9 (YO s107 s135 ((19,.own 13 0 b138.length)::Yo list_ s107 [(105,.own 14 0 ((gx v3 (ix ((gx list_ 0).s.fr) s107.2)).length)),(106,iV ((gx v3 (ix ((gx list_ 0).s.fr) s107.2)).length:Int)),(107,iV s135.2)]))),Yd ((1,.mix 1 [[.own 2 0 v3.length]])::(2,.row 1 (Es eL v3))::Y4 v7 b9 s107 [(12,rI s135.1),(13,rI b138),(14,.ali 2 ((ix ((gx list_ 0).s.fr) s107.2).toNat) 0 1)]),15⟩) (fun b138=>b138=e138) ?_ ?_
     ·refine Q5 (Q13 h (fun s146:List Int × Int=>⟨Y5 list_ (Yi b9 (YO s107 s135 ((19,.own 13 0 s146.1.length)::Yo list_ s107 [(105,.own 14 0 ((gx v3 (ix ((gx list_ 0).s.fr) s107.2)).length)),(106,iV ((gx v3 (ix ((gx list_ 0).s.fr) s107.2)).length:Int)),(107,iV s135.2),(112,.own 15 0 ((rx (gx v3 (ix ((gx list_ 0).s.fr) s107.2)) s135.2).length)),(113,iV ((rx (gx v3 (ix ((gx list_ 0).s.fr) s107.2)) s135.2).length:Int)),(114,iV s146.2)]))),Yd ((1,.mix 1 [[.own 2 0 v3.length]])::(2,.row 1 (Es eL v3))::Y4 v7 b9 s107 ((12,rI s135.1)::(13,rI s146.1)::YJ list_ s107 s135 [])),16⟩) (Q3W ⟨Y5 list_ (Yi b9 (YO s107 s135 ((19,.own 13 0 0)::Yo list_ s107 [(105,.own 14 0 ((gx v3 (ix ((gx list_ 0).s.fr) s107.2)).length)),(106,iV ((gx v3 (ix ((gx list_ 0).s.fr) s107.2)).length:Int)),(107,iV s135.2),(112,.own 15 0 ((rx (gx v3 (ix ((gx list_ 0).s.fr) s107.2)) s135.2).length)),(113,iV ((rx (gx v3 (ix ((gx list_ 0).s.fr) s107.2)) s135.2).length:Int)),(114,iV 0)]))),Yd ((1,.mix 1 [[.own 2 0 v3.length]])::(2,.row 1 (Es eL v3))::Y4 v7 b9 s107 ((12,rI s135.1)::(13,rI [])::YJ list_ s107 s135 [])),16⟩ (Wk.nils [] (by simp) (by simp) (by simp [nlA]) (by simp [Q5h,Q7R,Q7S,nlL,nlA,Cat.cells,SF.cells,UA,U1,IA,I1,LA,L1,BA,B1,EA,E1,E2,eB,eI,eL,eM,a6]) (by simp)) (Wk.r1 [(0,0),(1,1),(2,2),(3,3),(4,4),(5,5),(6,6),(7,7),(8,8),(9,9),(10,10),(11,11),(12,12),(13,13),(14,14),(15,15)] (by simp [hP,hhOk,back,Cat.cells,SF.cells,UA,U1,IA,I1,LA,L1,BA,B1,EA,E1,E2,eB,eI,eL,eM,a6]))) ?_);clear h;intro k146 s146 c146 h hk146;refine Q3 (runQ hN fun K hK=>?_);simp [eM,eL,eI,Q2,Qm,Qf,Cat.cells,SF.cells];(repeat refine sdQ ?_);refine hK _ ?_;clear hK K;refine tn (Q3 (Q6 rfl (fun g=>?_) fun g=>?_))
      ·have g147:s146.2<((rx (gx v3 (ix ((gx list_ 0).s.fr) s107.2)) s135.2).length:Int):=gQ;clear g;replace h:=if_l g147 h;refine Q7 (tn (Q3 (Q5 (Q3 (runQ hN fun K hK=>?_)))));replace ⟨a148,h⟩:=Q8 h;simp [eM,eL,eI,Q2,Qm,Qf,Cat.cells,SF.cells,at_E (c:=eL) a110,at_L a137,at_I a148];(repeat refine sdQ ?_);refine hK _ ?_;clear hK K;refine tn (Qc (st':=⟨Y5 list_ (Yi b9 (YO s107 s135 ((19,.own 13 0 s146.1.length)::(20,iV s146.2)::(21,iV (ix (rx (gx v3 (ix ((gx list_ 0).s.fr) s107.2)) s135.2) s146.2))::Yo list_ s107 [(105,.own 14 0 ((gx v3 (ix ((gx list_ 0).s.fr) s107.2)).length)),(106,iV ((gx v3 (ix ((gx list_ 0).s.fr) s107.2)).length:Int)),(107,iV s135.2),(112,.own 15 0 ((rx (gx v3 (ix ((gx list_ 0).s.fr) s107.2)) s135.2).length)),(113,iV ((rx (gx v3 (ix ((gx list_ 0).s.fr) s107.2)) s135.2).length:Int)),(114,iV s146.2)]))),Yd ((1,.mix 1 [[.own 2 0 v3.length]])::(2,.row 1 (Es eL v3))::Y4 v7 b9 s107 ((12,rI s135.1)::(13,rI s146.1)::YJ list_ s107 s135 [])),16⟩) (Wk.r1 [(0,0),(1,1),(2,2),(3,3),(4,4),(5,5),(6,6),(7,7),(8,8),(9,9),(10,10),(11,11),(12,12),(13,13),(14,14),(15,15)] (by simp [hP,hhOk,back,Cat.cells,SF.cells,UA,U1,IA,I1,LA,L1,BA,B1,EA,E1,E2,eB,eI,eL,eM,a6])) (runQ hN fun K hK=>?_));replace ⟨a149,h⟩:=Q8 h;replace ⟨a150,h⟩:=Q8 h;replace ⟨a151,h⟩:=Q8 h;replace ⟨a152,h⟩:=Q8 h;(try simp only [List.length_append,List.length_cons,List.length_nil] at a152);simp [eM,eL,eI,Q2,Qm,Qf,Cat.cells,SF.cells,at_E (c:=Qf) a149,at_L a150,at_I a151,a152];(repeat refine sdQ ?_);refine hK _ (bn (tn ?_));clear hK K
       refine Qc (st':=⟨Y5 list_ (Yi b9 (YO s107 s135 ((19,.own 13 0 ((s146.1++[ix (rx ((gx list_ s146.2).ac) s107.2) (ix (rx (gx v3 (ix ((gx list_ 0).s.fr) s107.2)) s135.2) s146.2)]).length))::Yo list_ s107 [(105,.own 14 0 ((gx v3 (ix ((gx list_ 0).s.fr) s107.2)).length)),(106,iV ((gx v3 (ix ((gx list_ 0).s.fr) s107.2)).length:Int)),(107,iV s135.2),(112,.own 15 0 ((rx (gx v3 (ix ((gx list_ 0).s.fr) s107.2)) s135.2).length)),(113,iV ((rx (gx v3 (ix ((gx list_ 0).s.fr) s107.2)) s135.2).length:Int)),(114,iV s146.2)]))),Yd ((1,.mix 1 [[.own 2 0 v3.length]])::(2,.row 1 (Es eL v3))::Y4 v7 b9 s107 ((12,rI s135.1)::(13,rI (s146.1++[ix (rx ((gx list_ s146.2).ac) s107.2) (ix (rx (gx v3 (ix ((gx list_ 0).s.fr) s107.2)) s135.2) s146.2)]))::YJ list_ s107 s135 [])),16⟩) (Wk.r1 [(0,0),(1,1),(2,2),(3,3),(4,4),(5,5),(6,6),(7,7),(8,8),(9,9),(10,10),(11,11),(12,12),(17,13),(14,14),(15,15)] (by simp [hP,hhOk,back,Cat.cells,SF.cells,UA,U1,IA,I1,LA,L1,BA,B1,EA,E1,E2,eB,eI,eL,eM,a6])) (runQ hN fun K hK=>?_);replace ⟨a153,h⟩:=Q8 h;simp [eM,eL,eI,Q2,Qm,Qf,Cat.cells,SF.cells,QA a153];(repeat refine sdQ ?_);refine hK _ ?_;clear hK K;cases h;exact rn (s':=(s146.1++[ix (rx ((gx list_ s146.2).ac) s107.2) (ix (rx (gx v3 (ix ((gx list_ 0).s.fr) s107.2)) s135.2) s146.2)],s146.2+1)) hk146 (Wk.r1 [(0,0),(1,1),(2,2),(3,3),(4,4),(5,5),(6,6),(7,7),(8,8),(9,9),(10,10),(11,11),(12,12),(13,13),(14,14),(15,15)] (by simp [hP,hhOk,back,Cat.cells,SF.cells,UA,U1,IA,I1,LA,L1,BA,B1,EA,E1,E2,eB,eI,eL,eM,a6]))
      have g147:¬ (s146.2<((rx (gx v3 (ix ((gx list_ 0).s.fr) s107.2)) s135.2).length:Int)):=gQ;clear g;replace h:=if_r g147 h;refine Qk (tx (lx (bh ?_)));cases h;exact jn (b:=s146.1) hk146 (Wk.r1 [(0,0),(1,1),(2,2),(3,3),(4,4),(5,5),(6,6),(7,7),(8,8),(9,9),(10,10),(11,11),(12,12),(13,13),(14,14)] (by simp [hP,hhOk,back,Cat.cells,SF.cells,UA,U1,IA,I1,LA,L1,BA,B1,EA,E1,E2,eB,eI,eL,eM,a6]))
     intro b138 hb138;have h:=h138;(try rw [← hb138] at h);clear h138;(try dsimp only at h);refine Q2z [] mo (by rw [hN];decide) fun K hK=>?_;replace ⟨a154,h⟩:=Q8 h;replace ⟨a155,h⟩:=Q8 h;simp [eM,eL,eI,Q2,Qm,Qf,Cat.cells,SF.cells,at_I a154,at_E (c:=eM) a155];(repeat with_reducible refine sdQ ?_);replace ⟨v156,hv156,h⟩:=bind_some h;refine Q2U (fz:=[]) (w_i_key _ v156 hv156) (.cons (.lits (es:=_) rfl (.cons rfl (.cons .w .nil) .nil) rfl) .nil) ?_;replace ⟨a157,h⟩:=Q8 h;(try simp only [List.length_append,List.length_cons,List.length_nil] at a157);simp [eM,eL,eI,Q2,Qm,Qf,Cat.cells,SF.cells,at_I a154,at_E (c:=eM) a155,a157];(repeat refine sdQ ?_);refine hK _ ?_;clear hK K;refine bn (tn (Qc (st':=⟨Y5 list_ (Yi b9 ((15,iV s107.2)::(16,.own 12 0 ((s135.1++[(Q2r v156 (gx b9.2.2 (ix ((gx list_ 0).s.to) s107.2))).getD 0]).length))::Yo list_ s107 [(105,.own 13 0 ((gx v3 (ix ((gx list_ 0).s.fr) s107.2)).length)),(106,iV ((gx v3 (ix ((gx list_ 0).s.fr) s107.2)).length:Int)),(107,iV s135.2)])),Yd ((1,.mix 1 [[.own 2 0 v3.length]])::(2,.row 1 (Es eL v3))::Y4 v7 b9 s107 ((12,rI (s135.1++[(Q2r v156 (gx b9.2.2 (ix ((gx list_ 0).s.to) s107.2))).getD 0]))::YS list_ s107 [])),14⟩) (Wk.r1 [(0,0),(1,1),(2,2),(3,3),(4,4),(5,5),(6,6),(7,7),(8,8),(9,9),(10,10),(11,11),(18,12),(14,13)] (by simp [hP,hhOk,back,Cat.cells,SF.cells,UA,U1,IA,I1,LA,L1,BA,B1,EA,E1,E2,eB,eI,eL,eM,a6])) (runQ hN fun K hK=>?_)));replace ⟨a158,h⟩:=Q8 h;simp [eM,eL,eI,Q2,Qm,Qf,Cat.cells,SF.cells,QA a158];(repeat refine sdQ ?_);refine hK _ ?_;clear hK K;cases h;exact rn (s':=(s135.1++[(Q2r v156 (gx b9.2.2 (ix ((gx list_ 0).s.to) s107.2))).getD 0],s135.2+1)) hk135 (Wk.r1 [(0,0),(1,1),(2,2),(3,3),(4,4),(5,5),(6,6),(7,7),(8,8),(9,9),(10,10),(11,11),(12,12),(13,13)] (by simp [hP,hhOk,back,Cat.cells,SF.cells,UA,U1,IA,I1,LA,L1,BA,B1,EA,E1,E2,eB,eI,eL,eM,a6]))
    have g136:¬ (s135.2<((gx v3 (ix ((gx list_ 0).s.fr) s107.2)).length:Int)):=gQ;clear g;replace h:=if_r g136 h;refine Qk (tx (lx (bh ?_)));cases h;exact jn (b:=s135.1) hk135 (Wk.r1 [(0,0),(1,1),(2,2),(3,3),(4,4),(5,5),(6,6),(7,7),(8,8),(9,9),(10,10),(11,11),(12,12)] (by simp [hP,hhOk,back,Cat.cells,SF.cells,UA,U1,IA,I1,LA,L1,BA,B1,EA,E1,E2,eB,eI,eL,eM,a6]))
   intro b111 hb111;have h:=h111;(try rw [← hb111] at h);clear h111;(try dsimp only at h);refine runQ hN fun K hK=>?_;replace ⟨a159,h⟩:=Q8 h;(try simp only [List.length_append,List.length_cons,List.length_nil] at a159);simp [eM,eL,eI,Q2,Qm,Qf,Cat.cells,SF.cells,a159];(repeat refine sdQ ?_);refine hK _ ?_;clear hK K;refine bn (tn (Qc (st':=⟨Y5 list_ (Yi b9 (Yo list_ s107 [])),Yd ((1,.mix 1 [[.own 2 0 v3.length]])::(2,.row 1 (Es eL v3))::(3,.mix 7 [(YV v7 [.own 8 0 b9.1.length,.own 9 0 ((s107.1++[b111]).length)])])::Y9 v7 [(8,rI b9.1),(9,.row 1 (Ls (s107.1++[b111]))),(10,.row 1 (Es eL b9.2.1)),(11,.mix 1 (Es eM b9.2.2))]),12⟩) (Wk.r1 [(0,0),(1,1),(2,2),(3,3),(4,4),(5,5),(6,6),(7,7),(8,8),(14,9),(10,10),(11,11)] (by simp [hP,hhOk,back,Cat.cells,SF.cells,UA,U1,IA,I1,LA,L1,BA,B1,EA,E1,E2,eB,eI,eL,eM,a6])) (runQ hN fun K hK=>?_)));replace ⟨a160,h⟩:=Q8 h;simp [eM,eL,eI,Q2,Qm,Qf,Cat.cells,SF.cells,QA a160];(repeat refine sdQ ?_);refine hK _ ?_;clear hK K;cases h;exact rn (s':=(s107.1++[b111],s107.2+1)) hk107 (Wk.r1 [(0,0),(1,1),(2,2),(3,3),(4,4),(5,5),(6,6),(7,7),(8,8),(9,9),(10,10),(11,11)] (by simp [hP,hhOk,back,Cat.cells,SF.cells,UA,U1,IA,I1,LA,L1,BA,B1,EA,E1,E2,eB,eI,eL,eM,a6]))
  have g108:¬ (s107.2<(((gx list_ 0).s.fr).length:Int)):=gQ;clear g;replace h:=if_r g108 h;refine Qk (tx (lx (bh ?_)));cases h;exact jn (b:=s107.1) hk107 (Wk.r1 [(0,0),(3,1),(4,2),(5,3),(6,4),(7,5),(8,6),(9,7),(10,8)] (by simp [hP,hhOk,back,Cat.cells,SF.cells,UA,U1,IA,I1,LA,L1,BA,B1,EA,E1,E2,eB,eI,eL,eM,a6]))
 intro b53 hb53;have h:=h53;try rw [← hb53] at h
 clear h53;try dsimp only at h
 refine Q3 (runQ hN fun K hK=>?_);simp [eM,eL,eI,Q2,Qm,Qf,Cat.cells,SF.cells];repeat refine sdQ ?_
 refine hK _ (tn (Qc (st':=⟨YP [(5,.own 7 0 b9.2.1.length),(6,.val (.bool true))],[(0,.mix 7 [[iV v7.n,.own 1 0 v7.fr.length,.own 2 0 v7.to.length,.own 3 0 v7.id.length,.own 4 0 v7.cs.length,.own 5 0 b9.1.length,.own 6 0 b53.length]]),(1,rI v7.fr),(2,rI v7.to),(3,rI v7.id),(4,.row 1 (Ls v7.cs)),(5,rI b9.1),(6,.row 1 (Ls b53)),(7,.row 1 (Es eL b9.2.1))],8⟩) (Wk.r1 [(0,0),(2,1),(3,2),(4,3),(5,4),(6,5),(7,6),(8,7)] (by simp [hP,hhOk,back,Cat.cells,SF.cells,UA,U1,IA,I1,LA,L1,BA,B1,EA,E1,E2,eB,eI,eL,eM,a6])) (Qg ?_)));clear hK K;have hr:=Option.some.inj h;rw [← hr];refine ⟨_,(.cell tf_34 rfl rfl rfl (by simp) (by simp) (.tmp (.tmp .nil))),?_⟩;refine ⟨(.agg rfl (.one rfl rfl (.one rfl rfl .nil))),[iV v7.n,lI v7.fr,lI v7.to,lI v7.id,.lst true 1 (Ls v7.cs),lI b9.1,.lst true 1 (Ls b53),.lst true 1 (Es eL b9.2.1),.val (.bool true)],[1,2,3,4,5,6,7],by simp [Cat.cells,SF.cells,UA,U1,IA,I1,LA,L1,BA,B1,EA,E1,E2,eB,eI,eL,eM],by simp,(UpL.refl _)⟩
end Go.Vc.T
namespace Go.Vc.T
open Go Go.Vc Go.Proofs
attribute [local simp] unk unA unE unT unC flat
noncomputable def Q1f (f_:SF) (g_:SF):Option (SF × List (List (List Int)) × Bool) :=
 (Qv [f_,g_] f_ g_).bind fun v1 =>
 some (v1.1,v1.2.1,v1.2.2)
@[simp] abbrev YG (a:List (Nat × AV)):List (Nat × AV):=(2,.adr 0 0 0)::(3,.adr 1 0 0)::(4,.adr 2 0 0)::a
theorem Q5N [Kd Tryz.prog] [Eo Tryz.prog] (f_:SF) (g_:SF) (r:SF × List (List (List Int)) × Bool) (h:Q1f f_ g_=some r):Contract Tryz.prog 83 [.rptr (f_.cells true),.rptr (g_.cells true)] (.tup [.agg (r.1.cells true),.lst true 1 (Es eL r.2.1),.val (.bool r.2.2)]):=by
 refine Qq (rvs:=[.cell 4 34,.tmp 5,.tmp 6]) (rs:=[.agg (r.1.cells true),.lst true 1 (Es eL r.2.1),.val (.bool r.2.2)]) Tryz.func83 rfl rfl rfl rfl (by simp [Tryz.f83]) fun F hN hP=>?_;unfold Q1f at h;refine Q3 (runQ hN fun K hK=>?_);simp [eM,eL,eI,Q2,Qf,SF.cells];repeat refine sdQ ?_
 refine hK _ ?_;clear hK K;refine tn (Qc (st':=⟨YG [],[(0,.mix 1 [(Y00 f_ [])]),(1,.mix 1 [(Y00 g_ [])]),(2,.mix 7 [(YZ [])])],3⟩) (wkI22 3) (Q3 (Q2z [] mo (by rw [hN];decide) fun K hK=>?_)));simp [eM,eL,eI,Q2,Qf,SF.cells];repeat with_reducible refine sdQ ?_
 replace ⟨v1,hv1,h⟩:=bind_some h;refine Q2U (fz:=[]) (Q1w _ _ _ v1 hv1) (.cons (.lits (es:=_) rfl (.cons rfl (.cons (.preT (by simp [SF.cells])) .nil) (.cons rfl (.cons (.preT (by simp [SF.cells])) .nil) .nil)) rfl) (.cons (.fnL (by simp) (.cons (.field rfl (by simp [SF.cells]) (.cons (.preT (by simp [SF.cells])) .nil)) (.cons (.field rfl (by simp [SF.cells]) (.cons (.preT (by simp [SF.cells])) .nil)) .nil))) .nil)) ?_;simp [eM,eL,eI,Q2,Qf,SF.cells];repeat refine sdQ ?_
 refine hK _ (tn (Qc (st':=⟨YP [(5,.own 7 0 v1.2.1.length),(6,.val (.bool v1.2.2))],[(0,.mix 7 [[iV v1.1.s.n,.own 1 0 v1.1.s.fr.length,.own 2 0 v1.1.s.to.length,.own 3 0 v1.1.s.id.length,.own 4 0 v1.1.s.cs.length,.own 5 0 v1.1.sz.length,.own 6 0 v1.1.ac.length]]),(1,rI v1.1.s.fr),(2,rI v1.1.s.to),(3,rI v1.1.s.id),(4,.row 1 (Ls v1.1.s.cs)),(5,rI v1.1.sz),(6,.row 1 (Ls v1.1.ac)),(7,.row 1 (Es eL v1.2.1))],8⟩) (QE [(2,0),(5,1),(6,2),(7,3),(8,4),(9,5),(10,6),(11,7)]) (Qg ?_)));clear hK K;have hr:=Option.some.inj h;rw [← hr];refine ⟨_,(.cell tf_34 rfl rfl rfl (by simp) (by simp) (.tmp (.tmp .nil))),?_⟩;refine ⟨(.agg rfl (.one rfl rfl (.one rfl rfl .nil))),[iV v1.1.s.n,lI v1.1.s.fr,lI v1.1.s.to,lI v1.1.s.id,.lst true 1 (Ls v1.1.s.cs),lI v1.1.sz,.lst true 1 (Ls v1.1.ac),.lst true 1 (Es eL v1.2.1),.val (.bool v1.2.2)],[1,2,3,4,5,6,7],by simp [SF.cells,UA,U1,IA,I1,LA,L1,BA,B1,EA,E1,E2,eB,eI,eL,eM],by simp,(UpL.refl _)⟩
end Go.Vc.T
