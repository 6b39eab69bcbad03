/- A part of the proof. -/
import Derived.Test.YtghefemofbipnaaGreatX21
set_option maxRecDepth 100000
set_option maxHeartbeats 4000000
set_option linter.unusedSimpArgs false
set_option linter.unusedVariables false
set_option linter.unusedSectionVars false
set_option linter.unnecessarySimpa false

open Option.some renaming injEq→qA
open List renaming getD_eq_getElem?_getD→qG
open Prod.mk renaming injEq→qH
open Nat renaming le_refl→qC
open Option.some renaming inj→zE
open List renaming replicate→qZ
open Option renaming getD_some→qB
open Classical renaming byContradiction→zG
open List renaming length_cons→qI
open List renaming range→zF
open List renaming length_nil→zD
open List renaming length_append→qL
open Option renaming bind_some→zL
open Nat renaming zero_add→qN
open List renaming size_toArray→qU
open List.range renaming loop→zM
open List renaming getElem_mem→zJ
open Int renaming toNat_of_nonneg→zK
namespace Go.Proofs
open Go Go.Conc Go.ConcN Go.RowKit Go.Conc.Lib Go.Vc Go.Vc.Wg
section
attribute [local simp] Qd Qt Ql
open Go.ConcR (KK wgBlock WgAt stA smA rd wr mk Payload DC0)
def Q9m (Wg bT bX:Nat):Deferred:={ target:=.fn (.func 95) #[.pointer (some ⟨Wg,0,none⟩),.pointer (some ⟨bT,0,none⟩),.pointer (some ⟨bX,0,none⟩)],args:=#[] }
theorem born_C (Wg bT bX:Nat) (w:World):stepG Tryz.prog false (born Tryz.prog (Q9m Wg bT bX)) w =
  .go (G ((baseD 95).at ⟨#[.pointer (some ⟨Wg,0,none⟩),.pointer (some ⟨bT,0,none⟩),.pointer (some ⟨bX,0,none⟩),undef,undef,undef],[]⟩ [.code Q9k]) [botG]) w #[]:=by
 simp [born,Q9m,stepG,unwind,callDeferred,invoke,callFunc,Tryz.func95,Tryz.f95,seen,GStep.after,G,Frame.enter,Frame.at,baseD,botG,Q9k]
theorem Q7M {Stop:Goroutine→World→Prop} {Wg bT bX fT:Nat} {caps:Array Value} {x:Value} {fn:Func} (v:World) (hT:v.cell? ⟨bT,0,none⟩=some (.func (.func fT) #[] caps)) (hX:v.cell? ⟨bX,0,none⟩=some x)
  (hf : Tryz.prog.funcs[fT]? = some fn) (hne : (fn.name == "runtime.NumGoroutine") = false) (hb : fn.body.isSome = true)
  (hn:∀ v₁,Rly v v₁→To Tryz.prog false Stop (G (Frame.enter Tryz.prog fT (#[x]++caps) .normal) [frC Wg bT bX (.func (.func fT) #[] caps) x,botG]) v₁):To Tryz.prog false Stop (born Tryz.prog (Q9m Wg bT bX)) v:=by
 refine To.ctl rfl (born_C Wg bT bX) ?_;simp only [Q9k,Tryz.f95,qB];refine To.ctl rfl (fun _=>stepG_seq) ?_;refine To.ctl rfl (fun _=>stepG_region) ?_;simp only [qU,qI,zD,Nat.reduceAdd,qN,zF,zM];refine To.ctl rfl (fun _=>stepG_defer rfl rfl (by decide) rfl) ?_
 walk_nrm
 refine To.ctl rfl (fun _=>stepG_region_end) ?_;refine To.ctl rfl (fun _=>stepG_region) ?_;simp only [qU,qI,zD,Nat.reduceAdd,qN,zF,zM];have ag:∀ u,(isAgg 87).run Tryz.prog u = .ok false u:=Tryz.isAgg87;refine To.oper rfl rfl (by decide) (fun v₁ r₁=>⟨(Q34 _ _).bind fun _=>.pure _,.func (.func fT) #[] caps,v₁,?_,?_⟩)
 ·have h1:=r₁.cell hT;simp [execOp,go_sem,Act.eval,h1,ag]
 walk_nrm
 refine To.oper rfl rfl (by decide) (fun v₂ r₂=>⟨(Q34 _ _).bind fun _=>.pure _,x,v₂,?_,?_⟩)
 ·have h1:=r₂.cell (r₁.cell hX);simp [execOp,go_sem,Act.eval,h1]
 walk_nrm
 have hcf:=fun w=>Q2j (P:=Tryz.prog) (args:=#[x]++caps) hf hne hb w;refine To.enter (f:=fT) (args:=#[x]++caps) rfl rfl (by decide) (fun w=>?_) (fun w=>?_) ?_
 ·simp [execOp,go_sem,Act.eval,(hcf w).1]
 ·simp [execOp,go_sem,Act.eval,(hcf w).2]
 have:=hn v₂ (r₁.trans r₂);simp only [frC,opsC,Q9k,Tryz.f95,qB] at this;exact this
end
end Go.Proofs
namespace Go.Proofs
open Go Go.Conc Go.ConcN Go.RowKit Go.Conc.Lib Go.ConcR.Gen Go.ConcN.Gen Go.Vc Go.Vc.Wg Go.Vc.Ph
section
attribute [local simp] Qd Qt Ql
open Go.ConcR (KK wgBlock WgAt stA smA rd wr mk Payload DC0)
noncomputable def Q37:Code:=Tryz.f60.body.getD .skip
noncomputable def Q40:Code:=match Q37 with|.seq _ (.seq _ (.seq (.seq _ (.block _ (.loop c))) _))=>c|_=>.skip
noncomputable def Q41:Code:=match Q37 with|.seq _ (.seq _ (.seq _ c))=>c|_=>.skip
noncomputable def opsW:Array Oper:=match Q41 with|.region _ ops _=>ops|_=>#[]
section
variable [PS] {cs:List Frame} {Wg bT:Nat} {n:Nat} {tr:Value}
noncomputable def frW (T:Array Value):Frame:=(base 60).at ⟨T,[]⟩ [.inRegion opsW [0]]
noncomputable def gW (cs:List Frame) (T:Array Value):Goroutine:=G ((base 60).at ((⟨T,[]⟩:Act).put ((opsW[0]?).bind (·.dst)) (.tuple #[])) [.inRegion opsW []]) cs
def Q6r (cs:List Frame) (Wg:Nat) (g:Goroutine) (w:World):Prop:=∃ T,AnchW Tryz.link Wg (frW T) cs g w
def EndE (cs:List Frame) (g:Goroutine):Prop:=∃ T,g=gW cs T
noncomputable def gL (cs:List Frame) (T:Array Value):Goroutine:=G ((base 60).at ⟨T,[]⟩ [.code Q40,.inLoop Q40,.inBlock 0,.code Q41]) cs
theorem Q6Y (g:Goroutine) (w:World) (h:Q6r cs Wg g w):g.status = .running:=by
 obtain ⟨T,T',rfl,_⟩:=h;rfl
theorem Q9i (g:Goroutine) (w:World) (hl:WgLive 123 Wg w) (h:Q6r cs Wg g w):∃ m,GP Tryz.prog 123 Wg (AtW1 Tryz.prog 123 Wg (Q6r cs Wg) (IsE (EndE cs))) m g w:=by
 obtain ⟨T,h⟩:=h;exact waitRound (mT:=0) (L:=Tryz.link) (Next:=IsE (EndE cs)) (Anch:=Q6r cs Wg) (b₀:=base 60) (a₀:=⟨T,[]⟩) (ops₀:=opsW) (i₀:=0) (rest₀:=[]) (k₀:=[]) (fun g w h=>⟨T,h⟩) Tryz.wgLib (fun w _=>fun w₁ _=>⟨⟨T,rfl⟩,rfl⟩) g w hl h
end
end
end Go.Proofs
namespace Go.Proofs
open Go Go.Conc Go.ConcN Go.RowKit Go.Conc.Lib Go.ConcR.Gen Go.ConcN.Gen Go.Vc Go.Vc.Wg Go.Vc.Ph
section
attribute [local simp] Qd Qt Ql
open Go.ConcR (KK wgBlock WgAt stA smA rd wr mk Payload DC0)
theorem array14 (T:Array Value) (h:T.size=14):∃ v0 v1 v2 v3 v4 v5 v6 v7 v8 v9 v10 v11 v12 v13:Value,T = #[v0,v1,v2,v3,v4,v5,v6,v7,v8,v9,v10,v11,v12,v13]:=by
 obtain ⟨l⟩:=T;simp only [qU] at h;iterate 14
  rcases l with _|⟨_,l⟩
  simp at h
 rcases l with _|⟨x,l⟩
 ·exact ⟨_,_,_,_,_,_,_,_,_,_,_,_,_,_,rfl⟩
 simp at h
theorem frz_cell {v:World} {a:Addr} {x:Value} (h:v.cell? a=some x):(frz v).cell? a=some x:=by
 unfold World.cell? at h ⊢;rw [Q2e];cases hv:v.heap[a.block]? with
 | none=>simp [hv] at h
 | some o =>
  rw [hv] at h;cases o<;>first|exact h|(simp at h)
set_option maxRecDepth 100000 in
theorem enterW (Wg:Nat):Frame.enter Tryz.prog Tryz.link.wait #[.pointer (some ⟨Wg,0,none⟩)] .normal=(base Tryz.link.wait).at ⟨#[.pointer (some ⟨Wg,0,none⟩),undef,undef,undef,undef,undef,undef,undef,undef,undef,undef,undef,undef,undef,undef,undef,undef,undef,undef,undef,undef,undef,undef,undef,undef,undef,undef,undef,undef,undef,undef,undef,undef,undef,undef,undef,undef,undef,undef,undef,undef,undef,undef,undef,undef,undef,undef,undef,undef,undef,undef,undef,undef,undef,undef,undef,undef,undef,undef,undef,undef,undef,undef,undef,undef,undef,undef,undef,undef,undef,undef,undef,undef,undef,undef,undef,undef,undef,undef,undef,undef,undef,undef,undef],[]⟩ [.code (body_wait Tryz.link)]:=by
 rw [enter_at _ Tryz.wgLib.f_wait (c:=body_wait Tryz.link) (by simp only [body_wait,waitFn,qB])];simp only [body_wait]
 walk_nrmf waitFn
set_option maxRecDepth 100000 in
theorem enterA (Wg:Nat):Frame.enter Tryz.prog Tryz.link.add #[.pointer (some ⟨Wg,0,none⟩),.int .i64 1] .normal=(base Tryz.link.add).at ⟨#[.pointer (some ⟨Wg,0,none⟩),.int .i64 1,undef,undef,undef,undef,undef,undef,undef,undef,undef,undef,undef,undef,undef,undef,undef,undef,undef,undef,undef,undef,undef,undef,undef,undef,undef,undef,undef,undef,undef,undef,undef,undef,undef,undef,undef,undef,undef,undef,undef,undef,undef,undef,undef,undef,undef,undef,undef,undef,undef,undef,undef,undef,undef,undef,undef,undef,undef,undef,undef,undef,undef,undef,undef,undef,undef,undef,undef,undef,undef,undef,undef,undef,undef,undef,undef,undef,undef,undef,undef,undef,undef,undef,undef,undef,undef,undef,undef,undef,undef,undef,undef,undef,undef,undef,undef,undef,undef,undef,undef,undef,undef,undef,undef,undef,undef,undef,undef,undef,undef,undef,undef,undef,undef,undef,undef],[]⟩ [.code (body_add Tryz.link)]:=by
 rw [enter_at _ Tryz.wgLib.f_add (c:=body_add Tryz.link) (by simp only [body_add,addFn,qB])];simp only [body_add]
 walk_nrmf addFn
noncomputable def Q9o:Code:=match Q40 with|.seq _ (.seq _ (.seq (.block _ (.seq _ c)) _))=>c|_=>.skip
noncomputable def opsA:Array Oper:=match Q9o with|.seq (.region _ ops _) _=>ops|_=>#[]
noncomputable def Q9p:Code:=match Q9o with|.seq _ c=>c|_=>.skip
noncomputable def opsG:Array Oper:=match Q9p with|.region _ ops _=>ops|_=>#[]
noncomputable def Q9q:Code:=match Q40 with|.seq _ (.seq _ (.seq _ c))=>c|_=>.skip
noncomputable def kA:List Item:=[.code Q9p,.inBlock 1,.code Q9q,.inLoop Q40,.inBlock 0,.code Q41]
section
variable [PS] {cs:List Frame} {Wg bT C:Nat} {n:Nat} {tr:Value} {K:Nat→Nat→Value→World→Prop}
set_option maxRecDepth 100000 in
theorem loopE (s : World) (hs : Frzn s) (hn : n < 2147483648) {fT : Nat} {caps : Array Value} (hfT : ∃ fn, Tryz.prog.funcs[fT]? = some fn ∧ (fn.name == "runtime.NumGoroutine") = false ∧ fn.body.isSome = true) (hbT : 0 < n → s.cell? ⟨bT, 0, none⟩ = some (.func (.func fT) #[] caps))
  (hwork:∀ k,k<n→∀ β v bX,s.heap.size≤β→β≤v.heap.size→Ext1 s v→To Tryz.prog false (Q5P Tryz.prog 123 Wg C n K β k) (G (Frame.enter Tryz.prog fT (#[.int .i64 k]++caps) .normal) [frC Wg bT bX (.func (.func fT) #[] caps) (.int .i64 k),botG]) v) :
  ∀ r,r≤n→∀ (T:Array Value) (v:World),Ext1 s v→T.size=14→T[3]? = some (.pointer (some ⟨bT,0,none⟩))→T[4]? = some (.pointer (some ⟨Wg,0,none⟩))→T[6]? = some (.int .i64 n)→T[7]? = some (.int .i64 (n - r:Nat)) →
   To Tryz.prog true (Scr Tryz.prog 123 Wg C n K (Q6r cs Wg) r) (gL cs T) v:=by
 obtain ⟨fn,hfT⟩:=hfT;intro r
 induction r with
 | zero =>
  intro _ T v hv hT t3 t4 t6 t7;obtain ⟨v0,v1,v2,v3,v4,v5,v6,v7,v8,v9,v10,v11,v12,v13,rfl⟩:=array14 T hT;simp only [List.getElem?_toArray,List.getElem?_cons_succ,List.getElem?_cons_zero,qA,Nat.sub_zero] at t3 t4 t6 t7;subst t3 t4 t6 t7;have hnl:¬ ((n:Int)<(n:Int)):=by omega
  simp only [gL,Q40,Q41,Q37,Tryz.f60,qB];refine To.ctl rfl (fun _=>stepG_seq) ?_;refine To.ctl rfl (fun _=>stepG_region) ?_;simp only [qU,qI,zD,Nat.reduceAdd,qN,zF,zM];refine To.value (.bool false) rfl rfl (by decide) (fun w=>by simp [execOp,go_sem,Act.eval,hnl]) (fun w=>by simp [execOp,go_sem,Act.eval]) ?_
  walk_nrm
  refine To.ctl rfl (fun _=>stepG_region_end) ?_;refine To.ctl rfl (fun _=>stepG_seq) ?_;refine To.ctl rfl (fun _=>stepG_cond (t:=false) rfl) ?_;simp only [Bool.false_eq_true,if_false,↓reduceIte];refine To.ctl rfl (fun _=>stepG_exit rfl) ?_;refine To.ctl rfl (fun _=>stepG_region) ?_;simp only [qU,qI,zD,Nat.reduceAdd,qN,zF,zM];have hcf:=fun w=>Q2j (P:=Tryz.prog) (args:=#[.pointer (some ⟨Wg,0,none⟩)]) Tryz.wgLib.f_wait (nm_wait Tryz.link) (by simp [waitFn]) w;refine To.enter (f:=Tryz.link.wait) (args:=#[.pointer (some ⟨Wg,0,none⟩)]) rfl rfl (by decide) (fun w=>?_) (fun w=>?_) ?_
  ·simpa [execOp,go_sem,Act.eval] using (hcf w).1
  ·simpa [execOp,go_sem,Act.eval] using (hcf w).2
  refine To.stop fun v₁ r₁=>⟨rfl,fun w U hl=>⟨6,?_⟩⟩;rw [enterW];have h:=waitStart (L:=Tryz.link) (Anch:=Q6r cs Wg) (b₀:=base 60) (a₀:=⟨#[v0,v1,v2,.pointer (some ⟨bT,0,none⟩),.pointer (some ⟨Wg,0,none⟩),v5,.int .i64 n,.int .i64 n,.bool false,v9,v10,v11,v12,v13],[]⟩) (ops₀:=opsW) (i₀:=0) (rest₀:=[]) (k₀:=[]) (cs:=cs) (fun g w h=>⟨_,h⟩) Tryz.wgLib w hl;simp only [opsW,Q41,Q37,Tryz.f60,qB] at h;exact h
 | succ r ih =>
  intro hr T v hv hT t3 t4 t6 t7;obtain ⟨v0,v1,v2,v3,v4,v5,v6,v7,v8,v9,v10,v11,v12,v13,rfl⟩:=array14 T hT;simp only [List.getElem?_toArray,List.getElem?_cons_succ,List.getElem?_cons_zero,qA] at t3 t4 t6 t7;subst t3 t4 t6 t7;obtain ⟨i,hi⟩:∃ i,i=n - (r+1):=⟨_,rfl⟩;rw [← hi];have hnl:((i:Int)<(n:Int)):=by omega
  simp only [gL,Q40,Q41,Q37,Tryz.f60,qB];refine To.ctl rfl (fun _=>stepG_seq) ?_;refine To.ctl rfl (fun _=>stepG_region) ?_;simp only [qU,qI,zD,Nat.reduceAdd,qN,zF,zM];refine To.value (.bool true) rfl rfl (by decide) (fun w=>by simp [execOp,go_sem,Act.eval,hnl]) (fun w=>by simp [execOp,go_sem,Act.eval]) ?_
  walk_nrm
  refine To.ctl rfl (fun _=>stepG_region_end) ?_;refine To.ctl rfl (fun _=>stepG_seq) ?_;refine To.ctl rfl (fun _=>stepG_cond (t:=true) rfl) ?_;simp only [if_true,↓reduceIte];refine To.ctl rfl (fun _=>stepG_skip) ?_;refine To.ctl rfl (fun _=>stepG_seq) ?_;refine To.ctl rfl (fun _=>stepG_block) ?_;refine To.ctl rfl (fun _=>stepG_seq) ?_;refine To.ctl rfl (fun _=>stepG_region) ?_;simp only [qU,qI,zD,Nat.reduceAdd,qN,zF,zM];refine To.value (.int .i64 i) rfl rfl (by decide) (fun w=>by simp [execOp,go_sem,Act.eval]) (fun w=>by simp [execOp,go_sem,Act.eval]) ?_
  walk_nrm
  refine To.oper rfl rfl (by decide) (fun v₁ r₁=>⟨(Q6o _).bind fun _=>.pure _,.pointer (some ⟨v₁.heap.size,0,none⟩),{ v₁ with heap:=v₁.heap.push (.cells #[.int .i64 0] 3) },by simp [execOp,go_sem,Act.eval],?_⟩);have hv1:=hv.rly r₁;have hv2:Ext1 s { v₁ with heap:=v₁.heap.push (.cells #[.int .i64 0] 3) }:=⟨by simp;exact Nat.le_succ_of_le hv1.size,fun b hb=>by
   have:=hv1.size;simp only [Array.getElem?_push];rw [if_neg (by omega)];exact hv1.old b hb,hv1.rest⟩
  have hnew:({ v₁ with heap:=v₁.heap.push (.cells #[.int .i64 0] 3) }:World).heap[v₁.heap.size]? = some (.cells #[.int .i64 0] 3):=by simp
  have hbx:s.heap.size≤v₁.heap.size:=hv1.size;generalize hbX:v₁.heap.size=bX at hnew hbx ⊢;generalize ({ v₁ with heap:=v₁.heap.push (.cells #[.int .i64 0] 3) }:World)=u at hv2 hnew ⊢;clear hv hv1 r₁ hbX v₁
  walk_nrm
  refine To.operS rfl rfl (by decide) (fun v₁ r₁=>?_);have hn1:v₁.heap[bX]? = some (.cells #[.int .i64 0] 3):=(r₁.old _ (Array.getElem?_eq_some_iff.1 hnew).1).trans hnew;refine ⟨(Q2w _ _ _).bind fun _=>.pure _,v₁.setCell ⟨bX,0,none⟩ (.int .i64 i),?_,?_⟩
  ·have h1:v₁.cell? ⟨bX,0,none⟩=some (.int .i64 0):=(by simp [World.cell?,hn1]);have h2:v₁.frozen? ⟨bX,0,none⟩=false:=(by simp [World.frozen?,hn1]);simp [execOp,go_sem,Act.eval,stored,h1,h2]
  have hv1:=hv2.rly r₁;have hv3:Ext1 s (v₁.setCell ⟨bX,0,none⟩ (.int .i64 i)):=⟨by simp [World.setCell];exact hv1.size,fun b hb=>by
   simp only [World.setCell,Q29];rw [if_neg (by show ¬ bX=b;omega)];exact hv1.old b hb,hv1.rest⟩
  have hcx:(v₁.setCell ⟨bX,0,none⟩ (.int .i64 i)).cell? ⟨bX,0,none⟩=some (.int .i64 i):=by simp [World.cell?,World.setCell,Q29,hn1]
  generalize (v₁.setCell ⟨bX,0,none⟩ (.int .i64 i))=y at hv3 hcx ⊢;clear hv1 hn1 r₁ v₁ hnew hv2 u
  walk_nrm
  refine To.ctl rfl (fun _=>stepG_region_end) ?_;refine To.ctl rfl (fun _=>stepG_seq) ?_;refine To.ctl rfl (fun _=>stepG_region) ?_;simp only [qU,qI,zD,Nat.reduceAdd,qN,zF,zM];have hcf:=fun w=>Q2j (P:=Tryz.prog) (args:=#[.pointer (some ⟨Wg,0,none⟩),.int .i64 1]) Tryz.wgLib.f_add (nm_add Tryz.link) (by simp [addFn]) w;refine To.enter (f:=Tryz.link.add) (args:=#[.pointer (some ⟨Wg,0,none⟩),.int .i64 1]) rfl rfl (by decide) (fun w=>?_) (fun w=>?_) ?_
  ·simpa [execOp,go_sem,Act.eval] using (hcf w).1
  ·simpa [execOp,go_sem,Act.eval] using (hcf w).2
  clear hcf;refine To.stop fun v₁ r₁=>?_;have hv4:=hv3.rly r₁;have hcx1:=r₁.cell hcx;clear hv3 hcx r₁ y;rw [enterA];refine ⟨rfl,?_⟩;have way:To Tryz.prog true (AtGo Tryz.prog 123 Wg C n K r (Scr Tryz.prog 123 Wg C n K (Q6r cs Wg) r)) (G ((base 60).at ((⟨#[v0,v1,v2,.pointer (some ⟨bT,0,none⟩),.pointer (some ⟨Wg,0,none⟩),.pointer (some ⟨bX,0,none⟩),.int .i64 n,.int .i64 i,.bool true,.int .i64 i,v10,v11,v12,v13],[]⟩:Act).put ((opsA[0]?).bind (·.dst)) (.tuple #[])) (.inRegion opsA [] :: kA)) cs) v₁:=by
   simp only [opsA,kA,Q9o,Q9p,Q9q,Q40,Q41,Q37,Tryz.f60,qB]
   walk_nrm
   refine To.ctl rfl (fun _=>stepG_region_end) ?_;refine To.ctl rfl (fun _=>stepG_region) ?_;simp only [qU,qI,zD,Nat.reduceAdd,qN,zF,zM];refine To.value (.func (.func 95) #[] #[.pointer (some ⟨Wg,0,none⟩),.pointer (some ⟨bT,0,none⟩),.pointer (some ⟨bX,0,none⟩)]) rfl rfl (by decide) (fun w=>by simp [execOp,go_sem,Act.eval]<;>rfl) (fun w=>by simp [execOp,go_sem,Act.eval]<;>rfl) ?_
   walk_nrm
   refine To.stop fun v₂ r₂=>?_;have hv5:=hv4.rly r₂;have hcx2:=r₂.cell hcx1;refine ⟨rfl,G ((base 60).at ⟨#[v0,v1,v2,.pointer (some ⟨bT,0,none⟩),.pointer (some ⟨Wg,0,none⟩),.pointer (some ⟨bX,0,none⟩),.int .i64 n,.int .i64 i,.bool true,.int .i64 i,.tuple #[],.func (.func 95) #[] #[.pointer (some ⟨Wg,0,none⟩),.pointer (some ⟨bT,0,none⟩),.pointer (some ⟨bX,0,none⟩)],v12,v13],[]⟩ (.inRegion opsG [] :: [.inBlock 1,.code Q9q,.inLoop Q40,.inBlock 0,.code Q41])) cs,born Tryz.prog (Q9m Wg bT bX),fun w U=>?_,rfl,?_,?_⟩
   ·rw [stepG_spawn (b:=base 60) (d:=Q9m Wg bT bX) (w':=w) (f:=.func 95) (c:=#[.pointer (some ⟨Wg,0,none⟩),.pointer (some ⟨bT,0,none⟩),.pointer (some ⟨bX,0,none⟩)]) rfl rfl (by decide) (by simp [execOp,go_sem,Act.eval,Q9m,Deferred.ofValue]) rfl];simp only [opsG,Q9p,Q9o,Q9q,Q40,Q41,Q37,Tryz.f60,qB];simp [listed,execOp,go_sem,Act.eval,seen,Deferred.ofValue];rfl
   ·rw [← hi];have hvf:=hv5.frz hs;refine Q7M (caps:=caps) (fT:=fT) (x:=.int .i64 i) _ ?_ ?_ hfT.1 hfT.2.1 hfT.2.2 fun v₃ r₃=>?_
    ·have hbT':=hbT (by omega);exact (Q2B (hvf.old bT (Q3p hbT'))).trans hbT'
    ·exact frz_cell hcx2
    exact hwork i (by omega) _ v₃ bX hv5.size (by have:=r₃.size;rw [frz_size] at this;exact this) (hvf.rly r₃)
   have hvf:=hv5.frz hs;simp only [opsG,Q9p,Q9o,Q9q,Q40,Q41,Q37,Tryz.f60,qB];refine To.ctl rfl (fun _=>stepG_region_end) ?_;refine To.ctl rfl (fun _=>stepG_inBlock) ?_;refine To.ctl rfl (fun _=>stepG_region) ?_;simp only [qU,qI,zD,Nat.reduceAdd,qN,zF,zM];have e1:IntKind.i64.wrap ((i:Int)+1)=((n - r:Nat):Int):=(by rw [IntKind.wrap_i64];omega);refine To.value (.int .i64 (n - r:Nat)) rfl rfl (by decide) (fun w=>by simp [execOp,go_sem,Act.eval,e1]) (fun w=>by simp [execOp,go_sem,Act.eval]) ?_
   walk_nrm
   refine To.value (.int .i64 (n - r:Nat)) rfl rfl (by decide) (fun w=>by simp [execOp,go_sem,Act.eval]) (fun w=>by simp [execOp,go_sem,Act.eval]) ?_
   walk_nrm
   refine To.ctl rfl (fun _=>stepG_region_end) ?_;refine To.ctl rfl (fun _=>stepG_inLoop) ?_;have:=ih (by omega) #[v0,v1,v2,.pointer (some ⟨bT,0,none⟩),.pointer (some ⟨Wg,0,none⟩),.pointer (some ⟨bX,0,none⟩),.int .i64 n,.int .i64 (n - r:Nat),.bool true,.int .i64 i,.tuple #[],.func (.func 95) #[] #[.pointer (some ⟨Wg,0,none⟩),.pointer (some ⟨bT,0,none⟩),.pointer (some ⟨bX,0,none⟩)],.int .i64 (n - r:Nat),v13] _ hvf (by rfl) (by rfl) (by rfl) (by rfl) (by rfl);simp only [gL,Q40,Q41,Q37,Tryz.f60,qB] at this;exact this
  obtain ⟨T1,way⟩:=way;refine ⟨_,T1,fun w U hl=>⟨20,?_⟩,way⟩;have h:=addPos (L:=Tryz.link) (Next:=Is (G ((base 60).at ((⟨#[v0,v1,v2,.pointer (some ⟨bT,0,none⟩),.pointer (some ⟨Wg,0,none⟩),.pointer (some ⟨bX,0,none⟩),.int .i64 n,.int .i64 i,.bool true,.int .i64 i,v10,v11,v12,v13],[]⟩:Act).put ((opsA[0]?).bind (·.dst)) (.tuple #[])) (.inRegion opsA [] :: kA)) cs)) (mT:=0) (b₀:=base 60) (a₀:=⟨#[v0,v1,v2,.pointer (some ⟨bT,0,none⟩),.pointer (some ⟨Wg,0,none⟩),.pointer (some ⟨bX,0,none⟩),.int .i64 n,.int .i64 i,.bool true,.int .i64 i,v10,v11,v12,v13],[]⟩) (ops₀:=opsA) (i₀:=0) (rest₀:=[]) (k₀:=kA) (cs:=cs) Tryz.wgLib (fun w _=>fun w₁ _=>⟨rfl,rfl⟩) w hl;simp only [opsA,kA,Q9o,Q9p,Q9q,Q40,Q41,Q37,Tryz.f60,qB] at h ⊢;exact h
end
end
end Go.Proofs
namespace Go.Proofs
open Go Go.Conc Go.ConcN Go.RowKit Go.Conc.Lib Go.ConcR.Gen Go.ConcN.Gen Go.Vc Go.Vc.Wg Go.Vc.Ph
section
attribute [local simp] Qd Qt Ql
open Go.ConcR (KK wgBlock WgAt stA smA rd wr mk Payload DC0)
noncomputable def codeS:Code:=match Q37 with|.seq _ (.seq c _)=>c|_=>.skip
noncomputable def opsS:Array Oper:=match codeS with|.region _ ops _=>ops|_=>#[]
noncomputable def codeR:Code:=match Q37 with|.seq _ (.seq _ c)=>c|_=>.skip
section
variable [PS] {cs:List Frame} {C:Nat→Nat} {n:Nat} {K:Nat→Nat→Value→World→Prop} {Post:Value→World→Prop} {W0:World} {S0:Nat→Prop} {fT:Nat} {caps:Array Value}
set_option maxRecDepth 100000 in
theorem eoCall (hn : n < 2147483648) (hK : ∀ β k val v v', Rly v v' → K β k val v → K β k val v') (v : World) (hC : ∀ v₁ bT, Ext0 v v₁ → v.heap.size ≤ bT → v₁.heap[bT]? = some (.cells #[.func (.func fT) #[] caps] 87) → PayAt (C bT) PS.z v₁ ∧ (0 < n → C bT ≠ bT)) (hfT : ∃ fn, Tryz.prog.funcs[fT]? = some fn ∧ (fn.name == "runtime.NumGoroutine") = false ∧ fn.body.isSome = true)
  (hwork:∀ v₁ bT,Ext0 v v₁→∀ k,k<n→∀ β u bX,v₁.heap.size+1≤β→β≤u.heap.size→Ext1 (Go.Vc.Ph.start v₁ (C bT)) u→To Tryz.prog false (Q5P Tryz.prog 123 v₁.heap.size (C bT) n K β k) (G (Frame.enter Tryz.prog fT (#[.int .i64 k]++caps) .normal) [frC v₁.heap.size bT bX (.func (.func fT) #[] caps) (.int .i64 k),botG]) u)
  (hk:∀ v₁ bT v₂ fr,Ext0 v v₁→v.heap.size≤bT→bT<v₁.heap.size→Brought K (C bT) n v₁ v₂→fr.fn=60→fr.leaving Tryz.prog v₂ (.returned (.tuple #[]))→TM Tryz.prog W0 S0 Post (G fr cs) v₂) :
  TM Tryz.prog W0 S0 Post (G (Frame.enter Tryz.prog 60 #[.int .i64 n,.func (.func fT) #[] caps] .normal) cs) v:=by
 letI:Kd Tryz.prog:=KdM Tryz.prog W0 S0 Post
 have hT:Kd.adm Tryz.prog (TM Tryz.prog W0 S0 Post):=rfl;rw [enter_at _ Tryz.func60 (c:=Q37) (by simp only [Q37,Tryz.f60,qB])];simp only [Q37]
 walk_nrmf Tryz.f60
 refine Kd.ctl hT rfl (fun _=>stepG_seq) ?_;refine Kd.ctl hT rfl (fun _=>stepG_region) ?_;simp only [qU,qI,zD,Nat.reduceAdd,qN,zF,zM];refine koper hT rfl rfl (by decide) (fun v₁ r₁=>⟨(Q6S _ _).bind fun _=>.pure _,.pointer (some ⟨v₁.heap.size,0,none⟩),{ v₁ with heap:=v₁.heap.push (.cells #[.func (.func fT) #[] caps] 87) },by simp [execOp,go_sem,Act.eval],?_⟩)
 walk_nrm
 refine Kd.ctl hT rfl (fun _=>stepG_region_end) ?_;refine Kd.ctl hT rfl (fun _=>stepG_seq) ?_;refine Kd.ctl hT rfl (fun _=>stepG_region) ?_;simp only [qU,qI,zD,Nat.reduceAdd,qN,zF,zM];refine tm_phase (ty:=123) (C:=C v₁.heap.size) (n:=n) (K:=K) hn hK rfl fun v₂ r₂=>?_;have x1:Ext0 v { v₁ with heap:=v₁.heap.push (.cells #[.func (.func fT) #[] caps] 87) }:=⟨by simp;exact Nat.le_succ_of_le r₁.size,fun b hb=>by
  have:=r₁.size;simp only [Array.getElem?_push];rw [if_neg (by omega)];exact r₁.old b hb,r₁.tape,r₁.os,r₁.output,r₁.drawn⟩
 have x2:=x1.rly r₂;have hbT:v₂.heap[v₁.heap.size]? = some (.cells #[.func (.func fT) #[] caps] 87):=by rw [r₂.old _ (by simp)];simp
 have hbv:v.heap.size≤v₁.heap.size:=r₁.size;generalize v₁.heap.size=bT at hbT hbv ⊢;clear x1 r₂ r₁ v₁;obtain ⟨hC2,hCne⟩:=hC v₂ bT x2 hbv hbT;have hClt:C bT<v₂.heap.size:=by obtain ⟨c0,h1,_⟩:=hC2;exact (Array.getElem?_eq_some_iff.1 h1).1
 have hbl:bT<v₂.heap.size:=(Array.getElem?_eq_some_iff.1 hbT).1;have hw:=hwork v₂ bT x2;have way:=loopE (cs:=cs) (Wg:=v₂.heap.size) (bT:=bT) (C:=C bT) (n:=n) (K:=K) (Go.Vc.Ph.start v₂ (C bT)) (Q9v v₂ (C bT)) hn hfT (caps:=caps) (by
   intro hn0;have hne:=hCne hn0;have h1:(Go.Vc.Ph.start v₂ (C bT)).heap[bT]? = some (frzO (.cells #[.func (.func fT) #[] caps] 87)):=by
    rw [Q1w (by omega) (by omega),if_neg (by omega),if_neg (by omega),Q2e,hbT];rfl
   simp [World.cell?,h1,frzO]) (fun k hk β u bX h1 h2 h3=>hw k hk β u bX (by rw [Q2L] at h1;exact h1) h2 h3) n (qC _) #[.int .i64 n,.func (.func fT) #[] caps,undef,.pointer (some ⟨bT,0,none⟩),.pointer (some ⟨v₂.heap.size,0,none⟩),undef,.int .i64 n,.int .i64 0,undef,undef,undef,undef,undef,undef] (Go.Vc.Ph.start v₂ (C bT)) ⟨qC _,fun _ _=>rfl,rfl,rfl,rfl,qC _⟩ rfl rfl rfl rfl (by simp)
 have way2:To Tryz.prog true (Scr Tryz.prog 123 v₂.heap.size (C bT) n K (Q6r cs v₂.heap.size) n) (G ((base 60).at ⟨#[.int .i64 n,.func (.func fT) #[] caps,undef,.pointer (some ⟨bT,0,none⟩),.pointer (some ⟨v₂.heap.size,0,none⟩),undef,undef,undef,undef,undef,undef,undef,undef,undef],[]⟩ [.inRegion opsS [],.code codeR]) cs) (Go.Vc.Ph.start v₂ (C bT)):=by
  simp only [gL,opsS,codeR,Q40,Q41,Q37,Tryz.f60,qB] at way ⊢;refine To.ctl rfl (fun _=>stepG_region_end) ?_;refine To.ctl rfl (fun _=>stepG_seq) ?_;refine To.ctl rfl (fun _=>stepG_seq) ?_;refine To.ctl rfl (fun _=>stepG_region) ?_;simp only [qU,qI,zD,Nat.reduceAdd,qN,zF,zM];refine To.value (.int .i64 n) rfl rfl (by decide) (fun w=>by simp [execOp,go_sem,Act.eval]) (fun w=>by simp [execOp,go_sem,Act.eval]) ?_
  walk_nrm
  refine To.value (.int .i64 0) rfl rfl (by decide) (fun w=>by simp [execOp,go_sem,Act.eval]) (fun w=>by simp [execOp,go_sem,Act.eval]) ?_
  walk_nrm
  refine To.ctl rfl (fun _=>stepG_region_end) ?_;refine To.ctl rfl (fun _=>stepG_block) ?_;refine To.ctl rfl (fun _=>stepG_loop) ?_;exact way
 obtain ⟨Tr,way2⟩:=way2;refine ⟨_,Q6r cs v₂.heap.size,EndE cs,Tr,fun w U=>?_,hC2,Q6Y,Q9i,way2,fun v₃ hb g hg=>?_⟩
 ·have ez:∀ w,(zeroValue 123).run Tryz.prog w = .ok (.agg #[.int .u64 0,.int .u32 0]) w:=Tryz.zeroValue123;rw [stepG_value (b:=base 60) (v:=.pointer (some ⟨v₂.heap.size,0,none⟩)) (w':={ w with heap:=w.heap.push (wgBlock 123 0 0) }) rfl rfl (by decide) (by simp [execOp,go_sem,Act.eval,ez,wgBlock,U.size])];simp only [opsS,codeR,Q37,Tryz.f60,qB];simp [listed,execOp,go_sem,Act.eval,seen];exact ⟨rfl,rfl⟩
 obtain ⟨T,rfl⟩:=hg;simp only [gW,opsW,Q41,Q37,Tryz.f60,qB];refine Kd.ctl hT rfl (fun _=>stepG_region_end) ?_;refine Kd.ctl hT rfl (fun _=>stepG_end) ?_;exact hk v₂ bT v₃ _ x2 hbv hbl hb rfl ⟨rfl,rfl,rfl,Tryz.f60,Tryz.func60,by simp [results,Tryz.f60]⟩
end
end
end Go.Proofs
namespace Go.Vc.T
open Go Go.Vc Go.Vc.Wg Go.Vc.Ph Go.Proofs
section
attribute [local simp] Qd Qt Ql QS Qv
open Go.ConcR (Payload)
theorem KA_slice {A:Nat→AV} {β k:Nat} {val:Value} {v:World} {sz:Nat} {es:List (List AV)} (hA:A k = .lst true sz es) (h:KA A β k val v):∃ a m c,val = .slice a m c:=by
 obtain ⟨o,_,h⟩:=h;rw [hA] at h;cases h with
 | nil=>exact ⟨_,_,_,rfl⟩
 | own=>exact ⟨_,_,_,rfl⟩
theorem pair_eq {vals:Array Value} {a b:Value} (h:vals.size=2) (h0:vals.getD 0 undef=a) (h1:vals.getD 1 undef=b):vals = #[a,b]:=by
 obtain ⟨l⟩:=vals;rcases l with _|⟨x,_|⟨y,_|⟨z,l⟩⟩⟩<;>simp_all
end
end Go.Vc.T
namespace Go.Vc.T
open Go Go.Vc Go.Proofs
section
attribute [local simp] Qd Qt Ql QS Qv
def eM (x:List (ByteArray × Int)):List AV:=[.cmap .str (Msi x)]
def eoF {α:Type} (f:Int→Option α):Nat→Option (List α)
 | 0=>some []
 | n+1=>(eoF f n).bind fun r=>(f n).map fun y=>r++[y]
theorem eoF_get {α:Type} (d:α) {f:Int→Option α}:∀ {n:Nat} {r:List α},eoF f n=some r→r.length=n∧∀ k,k<n→f k=some (r.getD k d):=by
 intro n
 induction n with
 | zero=>intro r h;simp only [eoF,qA] at h;subst h;exact ⟨rfl,fun k hk=>absurd hk (Nat.not_lt_zero k)⟩
 | succ n ih =>
  intro r h;obtain ⟨r0,h1,h2⟩:=Option.bind_eq_some_iff.1 h;obtain ⟨y,h3,rfl⟩:=Option.map_eq_some_iff.1 h2;obtain ⟨e1,e2⟩:=ih h1;refine ⟨by simp [e1],fun k hk=>?_⟩
  by_cases hkn:k<n
  ·rw [e2 k hkn];simp [qG,List.getElem?_append,e1,hkn]
  have:k=n:=by omega
  subst this;rw [h3];simp [qG,List.getElem?_append,e1]
section
variable {α:Type} {u:Bool}
@[simp] theorem nom_val {v:Value}:NoM (.val v):=.val
theorem nom_Es {sz:Nat} {c:α→List AV} (h:∀ x,∀ y∈c x,NoM y) (xs:List α):NoM (.lst u sz (xs.map c)):=.lst fun e he y hy=>by
 obtain ⟨x,_,rfl⟩:=List.mem_map.1 he;exact h x y hy
@[simp] theorem nom_Is {sz:Nat} (xs:List Int):NoM (.lst u sz (Is xs)):=nom_Es (by simp) xs
@[simp] theorem nom_Ls {sz:Nat} (xs:List (List Int)):NoM (.lst u sz (Ls xs)):=nom_Es (by simp) xs
@[simp] theorem nom_rptr {cs:List AV}:NoM (.rptr cs)↔∀ c∈cs,NoM c:=⟨fun h=>by cases h;assumption,.rptr⟩
end
end
end Go.Vc.T
namespace Go.Vc.T
open Go Go.Vc Go.Proofs
section
attribute [local simp] Qd Qt Ql QS Qv
def Qy (x:Cat):List AV:=[.rptr (x.cells true)]
def Qo (x:SF):List AV:=[.rptr (x.cells true)]
def QC (x:SM):List AV:=[.rptr (x.cells true)]
instance:Inhabited Cat:=⟨⟨0,[],[],[],[]⟩⟩
instance:Inhabited SF:=⟨⟨default,[],[]⟩⟩
instance:Inhabited SM:=⟨⟨default,default,[]⟩⟩
structure Ends where
 a:Int
 b:Int
def Ends.cells (u:Bool) (f:Ends):List AV:=[iV f.a,iV f.b]
structure XPart where
 members_:List (List Int)
def XPart.cells (u:Bool) (f:XPart):List AV:=[.lst u 1 (Ls f.members_)]
end
end Go.Vc.T
namespace Go.Vc.T
open Go Go.Vc Go.Proofs
section
attribute [local simp] Qd Qt Ql QS Qv
@[simp] theorem ef_82:elm Tryz.prog 82=some 86:=by kernel_rfl
@[simp] theorem ef_86:elm Tryz.prog 86=some 2:=by kernel_rfl
@[simp] theorem ef_125:elm Tryz.prog 125=some 2:=by kernel_rfl
@[simp] theorem ff_25_0:fld Tryz.prog 25 0=some (0,1,false):=by kernel_rfl
@[simp] theorem ff_25_1:fld Tryz.prog 25 1=some (1,1,false):=by kernel_rfl
@[simp] theorem ff_25_2:fld Tryz.prog 25 2=some (2,1,false):=by kernel_rfl
@[simp] theorem ff_25_3:fld Tryz.prog 25 3=some (3,1,false):=by kernel_rfl
@[simp] theorem ff_25_4:fld Tryz.prog 25 4=some (4,1,false):=by kernel_rfl
@[simp] theorem ff_29_0:fld Tryz.prog 29 0=some (0,1,false):=by kernel_rfl
@[simp] theorem ff_32_0:fld Tryz.prog 32 0=some (0,1,false):=by kernel_rfl
@[simp] theorem ff_32_1:fld Tryz.prog 32 1=some (1,1,false):=by kernel_rfl
@[simp] theorem ff_32_2:fld Tryz.prog 32 2=some (2,1,false):=by kernel_rfl
@[simp] theorem ff_32_3:fld Tryz.prog 32 3=some (3,1,false):=by kernel_rfl
@[simp] theorem ff_32_4:fld Tryz.prog 32 4=some (4,1,false):=by kernel_rfl
@[simp] theorem ff_34_0:fld Tryz.prog 34 0=some (0,5,true):=by kernel_rfl
@[simp] theorem ff_34_1:fld Tryz.prog 34 1=some (5,1,false):=by kernel_rfl
@[simp] theorem ff_34_2:fld Tryz.prog 34 2=some (6,1,false):=by kernel_rfl
@[simp] theorem ff_38_0:fld Tryz.prog 38 0=some (0,1,false):=by kernel_rfl
@[simp] theorem ff_52_0:fld Tryz.prog 52 0=some (0,7,true):=by kernel_rfl
@[simp] theorem ff_52_1:fld Tryz.prog 52 1=some (7,7,true):=by kernel_rfl
@[simp] theorem ff_52_2:fld Tryz.prog 52 2=some (14,1,false):=by kernel_rfl
@[simp] theorem mf_186:mty Tryz.prog 186=some ((.int .i64),.int .i64 0):=by kernel_rfl
@[simp] theorem Qa5:tyi Tryz.prog 34=some ⟨true,7,152,[.int .i64 0,.slice none 0 0,.slice none 0 0,.slice none 0 0,.slice none 0 0,.slice none 0 0,.slice none 0 0]⟩:=by kernel_rfl
@[simp] theorem tf_82:tyi Tryz.prog 82=some ⟨false,1,24,[.slice none 0 0]⟩:=by kernel_rfl
@[simp] theorem tf_86:tyi Tryz.prog 86=some ⟨false,1,24,[.slice none 0 0]⟩:=by kernel_rfl
end
end Go.Vc.T
namespace Go.Vc.T
open Go Go.Vc Go.Proofs
section
attribute [local simp] Qd Qt Ql QS Qv
noncomputable def Q30 (x:Int) (a:Int) (b:Int):Option (Bool) :=
 some ((decide (a≤x) && decide (x≤b)))
theorem Q8y [Kd Tryz.prog] (x:Int) (a:Int) (b:Int) (r:Bool) (h:Q30 x a b=some r):Contract Tryz.prog 167 [iV x,iV a,iV b] (.val (.bool r)):=by
 unfold Q30 at h;cases h;exact c46 x a b
noncomputable def Q3v (xs:List Int) (n:Int):Option (Bool) :=
 ass (B64 (n - 1)) <| some ((xs.all (inR n)))
theorem Qa8 [Kd Tryz.prog] (xs:List Int) (n:Int) (r:Bool) (h:Q3v xs n=some r):Contract Tryz.prog 131 [lI xs,iV n] (.val (.bool r)):=by
 unfold Q3v at h;replace ⟨hn,h⟩:=Q5 h;cases h;exact c22 true xs n hn
noncomputable def Q3w (c:Cat):Option (Cat) :=
 ass (c.ok) <| some (c)
theorem Qa9 [Kd Tryz.prog] (c:Cat) (r:Cat) (h:Q3w c=some r):Contract Tryz.prog 87 [.agg (c.cells true)] (.agg (r.cells true)):=by
 unfold Q3w at h;replace ⟨hc,h⟩:=Q5 h;cases h;exact c41 true c hc
noncomputable def Q1m (c:Cat):Option (Cat) :=
 ass (c.ok) <| some (c)
theorem Q4z [Kd Tryz.prog] (c:Cat) (r:Cat) (h:Q1m c=some r):Contract Tryz.prog 102 [.rptr (c.cells true)] (.agg (r.cells true)):=by
 unfold Q1m at h;replace ⟨hc,h⟩:=Q5 h;cases h;have q:=c23 true c [] hc;simp only [List.append_nil] at q;exact q
noncomputable def Q1C (c:SF) (d:SF):Option (Bool) :=
 some ((bo (c=d)))
theorem Q3W [Kd Tryz.prog] (c:SF) (d:SF) (r:Bool) (h:Q1C c d=some r):Contract Tryz.prog 92 [.agg (c.cells true),.agg (d.cells true)] (.val (.bool r)):=by
 unfold Q1C at h;cases h;exact n20 true true c d
noncomputable def Q11 (m:SM):Option (Bool) :=
 some ((bo m.Is))
theorem Q4R [Kd Tryz.prog] (m:SM) (r:Bool) (h:Q11 m=some r):Contract Tryz.prog 65 [.agg (m.cells true)] (.val (.bool r)):=by
 unfold Q11 at h;cases h;exact n19 true m
noncomputable def Q19 (f:SF) (g:SF):Option (Bool) :=
 ass (f.s.cs.length≤1048576) <| ass (f.ac.length≤1048576) <| some ((bo (f=g)))
theorem Q4Q [Kd Tryz.prog] (f:SF) (g:SF) (r:Bool) (h:Q19 f g=some r):Contract Tryz.prog 77 [.rptr (f.cells true),.rptr (g.cells true)] (.val (.bool r)):=by
 unfold Q19 at h;replace ⟨hl,h⟩:=Q5 h;replace ⟨hl2,h⟩:=Q5 h;cases h;have q:=n26 true true f g [] [] hl hl2;simp only [List.append_nil] at q;exact q
noncomputable def Q1d (fs:List SM):Option (Bool) :=
 ass (fs.length≤1048576) <| some ((bo (∀ f∈fs,f.Is)))
theorem Q63 [Kd Tryz.prog] (fs:List SM) (r:Bool) (h:Q1d fs=some r):Contract Tryz.prog 76 [.lst true 1 (Es QC fs)] (.val (.bool r)):=by
 unfold Q1d at h;replace ⟨hl,h⟩:=Q5 h;cases h;exact n25 true true fs hl
end
end Go.Vc.T
namespace Go.Vc.T
open Go Go.Vc Go.Proofs
section
attribute [local simp] Qd Qt Ql QS Qv
@[simp] theorem ass_true {α:Type} {k:Option α}:ass True k=k:=Q9 trivial
theorem bo_tt (p:Prop):(bo p=true)=p:=by simp [bo]
theorem Q2p {p:Prop} (h:p):bo p=true:=by simp [bo,h]
theorem Q39 {p:Prop} (h:¬ p):bo p=false:=by simp [bo,h]
theorem loop_go {σ ε:Type} {body:σ→Option (Ctl σ ε)} (g:Nat→σ) (m:Nat):∀ (k:Nat),m≤k→(∀ i,i<m→body (g i)=some (.next (g (i+1))))→QK body k (g 0)=QK body (k - m) (g m):=by
 induction m with
 | zero=>intro k _ _;rfl
 | succ m ih =>
  intro k hk h;rw [ih k (by omega) fun i hi=>h i (by omega)];obtain ⟨j,hj⟩:∃ j,k - m=j+1:=⟨k - m - 1,by omega⟩;rw [hj,show k - (m+1)=j by omega];simp only [QK,h m (by omega)]
theorem Q53 {σ ε:Type} {body:σ→Option (Ctl σ ε)} (g:Nat→σ) (n:Nat) {e:ε} {s0:σ} (h0:s0=g 0) (hn:n<4611686018427387904) (h:∀ i,i<n→body (g i)=some (.next (g (i+1)))) (he:body (g n)=some (.ret e)):QK body fuel s0=some e:=by
 subst h0;rw [loop_go g n fuel (by unfold fuel;omega) h];obtain ⟨j,hj⟩:∃ j,fuel - n=j+1:=⟨fuel - n - 1,by unfold fuel;omega⟩;rw [hj];simp only [QK,he]
theorem Q8U {ε:Type} {body:Int→Option (Ctl Int ε)} (n:Nat) (p:Nat→Prop) {eb:Nat→ε} {eg:ε} (hn:n<4611686018427387904) (h1:∀ i:Nat,i<n→p i→body (i:Int)=some (.next ((i:Int)+1))) (h2:∀ i:Nat,i<n→¬ p i→body (i:Int)=some (.ret (eb i))) (h3:body (n:Int)=some (.ret eg)) :
  ((∀ i:Nat,i<n→p i)∧QK body fuel 0=some eg)∨∃ m,m<n∧¬ p m∧(∀ k,k<m→p k)∧QK body fuel 0=some (eb m):=by
 by_cases hall:∀ i:Nat,i<n→p i
 ·exact .inl ⟨hall,Q53 (fun i:Nat=>(i:Int)) n rfl hn (fun i hi=>h1 i hi (hall i hi)) h3⟩
 right;have hex:∃ i,i<n∧¬ p i:=zG fun hx=>hall fun i hi=>zG fun hp=>hx ⟨i,hi,hp⟩;obtain ⟨m,⟨hm,hp⟩,hmin⟩:∃ m,(m<n∧¬ p m)∧∀ k,k<m→¬ (k<n∧¬ p k):=by
  obtain ⟨i,hi⟩:=hex
  induction i using Nat.strongRecOn with
  | _ i ih =>
   by_cases h:∃ k,k<i∧k<n∧¬ p k
   ·obtain ⟨k,h1,h2⟩:=h;exact ih k h1 h2
   exact ⟨i,hi,fun k hk hh=>h ⟨k,hk,hh⟩⟩
 have hlt:∀ k,k<m→p k:=fun k hk=>zG fun hh=>hmin k hk ⟨by omega,hh⟩;exact ⟨m,hm,hp,hlt,Q53 (fun i:Nat=>(i:Int)) m rfl (by omega) (fun i hi=>h1 i (by omega) (hlt i hi)) (h2 m hm hp)⟩
theorem Q6E {α ε:Type} {body:α × Int→Option (Ctl (α × Int) ε)} (g:Nat→α) (n:Nat) {e:ε} {a0:α} (h0:a0=g 0) (hn:n<4611686018427387904) (h:∀ i:Nat,i<n→body (g i,(i:Int))=some (.next (g (i+1),(i:Int)+1))) (he:body (g n,(n:Int))=some (.ret e)):QK body fuel (a0,0)=some e:=by
 subst h0;exact Q53 (fun i:Nat=>(g i,(i:Int))) n rfl hn h he
theorem Q1l {α ε β:Type} {body:α × Int→Option (Ctl (α × Int) ε)} {K:ε→Option β} {r:Option β} {a0:α} (n:Nat) (g:Nat→α) {e:ε} (h0:a0=g 0) (hn:n<4611686018427387904) (h:∀ i:Nat,i<n→body (g i,(i:Int))=some (.next (g (i+1),(i:Int)+1))) (he:body (g n,(n:Int))=some (.ret e)) (hk:K e=r):(QK body fuel (a0,0)).bind K=r:=by
 rw [Q6E g n h0 hn h he];exact hk
end
end Go.Vc.T
namespace Go.Vc.T
open Go Go.Vc Go.Proofs
section
attribute [local simp] Qd Qt Ql QS Qv
structure Fn.Is (f:Fn):Prop where
 s:f.s.Is
 t:f.t.Is
 lo:(f.ob.length:Int)=f.s.n
 la:f.ar.length=f.s.fr.length
 ob:∀ j:Nat,j<f.ob.length→0≤ix f.ob j∧ix f.ob j<f.t.n
 ar:∀ j:Nat,j<f.ar.length→0≤ix f.ar j∧ix f.ar j<f.t.fr.length
 ends:∀ a:Nat,a<f.s.fr.length→ix f.t.fr (ix f.ar a)=ix f.ob (ix f.s.fr a)∧ix f.t.to (ix f.ar a)=ix f.ob (ix f.s.to a)
 ids:∀ x:Nat,x<f.s.id.length→ix f.ar (ix f.s.id x)=ix f.t.id (ix f.ob x)
 comp:∀ a:Nat,a<f.s.fr.length→∀ b:Nat,b<f.s.fr.length→ix f.s.to a=ix f.s.fr b→ix f.ar (ix (rx f.s.cs a) b)=ix (rx f.t.cs (ix f.ar a)) (ix f.ar b)
theorem Cat.Sh.frn {c:Cat} (h:c.Sh) {a:Nat} (ha:a<c.fr.length):(0≤ix c.fr a∧ix c.fr a<c.id.length)∧(0≤ix c.to a∧ix c.to a<c.id.length):=⟨h.fr' (by omega) (by omega),h.to' (by omega) (by omega)⟩
end
end Go.Vc.T
namespace Go.Vc.T
open Go Go.Vc Go.Proofs
attribute [local simp] unk unA unE unT unC flat
noncomputable def Q2k (n_:Int):Option (List Int) :=
 ass (0≤n_∧n_≤1073741824) <|
 (QK (σ:=List Int × Int) (ε:=List Int) (fun s6 =>
  if s6.2<((qZ n_.toNat 0).length:Int) then
   ass (0≤s6.2∧s6.2<(s6.1.length:Int)) <|
   ass (B64 (s6.2+1)) <|
   some (Ctl.next (s6.1.set s6.2.toNat s6.2,s6.2+1))
  else
   some (Ctl.ret s6.1)) fuel (qZ n_.toNat 0,0)).bind fun b2 =>
 some b2
theorem Qn {F : Fx} {st st' : St} (m : List (Nat × Nat)) (h : (m.map Prod.fst).Nodup ∧ (m.map Prod.snd).Nodup ∧ (∀ id, id < F.pins → look id m = some id) ∧ (∀ p ∈ m, p.2 < st'.n) ∧ (∀ p ∈ st'.h, p.1 < st'.n) ∧ (∀ p ∈ st'.s, p.2 = rl m (st.get p.1) ∨ p.2 = .bot) ∧ ∀ p ∈ st'.h, hhOk m st.h p.1 p.2 := by simp [hP, hhOk, back, idQ, UA, U1, IA, I1, LA, L1, BA, B1, EA, E1, E2, eB, eI, eL, eM, Cat.cells, SF.cells]) : Wk F st st' := Wk.r1 m h
theorem Q3n {F : Fx} {st st' : St} (m : Nat) (h : ((idQ m).map Prod.fst).Nodup ∧ ((idQ m).map Prod.snd).Nodup ∧ (∀ id, id < F.pins → look id (idQ m) = some id) ∧ (∀ p ∈ (idQ m), p.2 < st'.n) ∧ (∀ p ∈ st'.h, p.1 < st'.n) ∧ (∀ p ∈ st'.s, p.2 = rl (idQ m) (st.get p.1) ∨ p.2 = .bot) ∧ ∀ p ∈ st'.h, hhOk (idQ m) st.h p.1 p.2 := by simp [hP, hhOk, back, idQ, UA, U1, IA, I1, LA, L1, BA, B1, EA, E1, E2, eB, eI, eL, eM, Cat.cells, SF.cells]) : Wk F st st' := Wk.r1 (idQ m) h
@[simp] abbrev YC (a:Int) (b:List (Nat × AV)):List (Nat × AV):=(8,iV ((qZ a.toNat 0).length:Int))::b
theorem Q8A [Kd Tryz.prog] (n_:Int) (r:List Int) (h:Q2k n_=some r):Contract Tryz.prog 155 [iV n_] (lI r):=by
 refine Qm (rvs:=[.tmp 2]) (rs:=[lI r]) Tryz.func155 rfl rfl rfl rfl (by simp [Tryz.f155]) fun F hN hP=>?_;unfold Q2k at h;refine Q3 (runQ hN fun K hK=>?_);simp [eM,eL,eI,Q1];repeat refine sdQ ?_
 refine hK _ ?_;clear hK K;refine tn (Qa (st':=⟨[(0,iV n_)],[],0⟩) (Qn []) (Q3 (runQ hN fun K hK=>?_)));replace ⟨a1,h⟩:=Q5 h;simp [eM,eL,eI,Q1];repeat refine sdQ ?_
 refine hK _ ?_;clear hK K;refine tn (Qa (st':=⟨[(3,.own 0 0 ((qZ n_.toNat 0).length))],[(0,rI (qZ n_.toNat 0))],1⟩) (Qn [(0,0)]) (Q3 (Q3 (runQ hN fun K hK=>?_))));simp [eM,eL,eI,Q1];repeat refine sdQ ?_
 refine hK _ (tn (Qa (st':=⟨(3,.own 0 0 ((qZ n_.toNat 0).length))::YC n_ [(9,iV 0)],[(0,rI (qZ n_.toNat 0))],1⟩) (Qn [(0,0)]) ?_));clear hK K;replace ⟨e2,h,h2⟩:=bind_some h;refine Qz (fun b2:List Int=>⟨[(3,.own 0 0 b2.length)],[(0,rI b2)],1⟩) (fun b2=>b2=e2) ?_ ?_
 ·refine Q6 (QW h (fun s6:List Int × Int=>⟨(3,.own 0 0 s6.1.length)::YC n_ [(9,iV s6.2)],[(0,rI s6.1)],1⟩) (Qn [(0,0)]) ?_);clear h;intro k6 s6 c6 h hk6;refine Q3 (runQ hN fun K hK=>?_);simp [eM,eL,eI,Q1];repeat refine sdQ ?_
  refine hK _ ?_;clear hK K;refine tn (Q3 (Q7 rfl (fun g=>?_) fun g=>?_))
  ·have g7:s6.2<((qZ n_.toNat 0).length:Int):=gQ;clear g;replace h:=if_l g7 h;refine Q8 (tn (Q3 (Q6 (Q3 (runQ hN fun K hK=>?_)))));simp [eM,eL,eI,Q1];(repeat refine sdQ ?_);refine hK _ ?_;clear hK K;refine tn (Qa (st':=⟨(3,.own 0 0 s6.1.length)::(4,iV s6.2)::YC n_ [(9,iV s6.2)],[(0,rI s6.1)],1⟩) (Qn [(0,0)]) (runQ hN fun K hK=>?_));replace ⟨a8,h⟩:=Q5 h;simp [eM,eL,eI,Q1,at_I a8];(repeat refine sdQ ?_);refine hK _ ?_;clear hK K;refine bn (tn (Qa (st':=⟨(3,.own 0 0 ((s6.1.set s6.2.toNat s6.2).length))::YC n_ [(9,iV s6.2)],[(0,rI (s6.1.set s6.2.toNat s6.2))],1⟩) (Qn [(0,0)]) (runQ hN fun K hK=>?_)));replace ⟨a9,h⟩:=Q5 h;simp [eM,eL,eI,Q1,QF a9];(repeat refine sdQ ?_);refine hK _ ?_;clear hK K;cases h;exact rn (s':=(s6.1.set s6.2.toNat s6.2,s6.2+1)) hk6 (Qn [(0,0)])
  have g7:¬ (s6.2<((qZ n_.toNat 0).length:Int)):=gQ;clear g;replace h:=if_r g7 h;refine Qk (tx (lx (bh ?_)));cases h;exact jn (b:=s6.1) hk6 (Qn [(0,0)])
 intro b2 hb2;have h:=h2;try rw [← hb2] at h
 clear h2;try dsimp only at h
 refine Q3 (runQ hN fun K hK=>?_);simp [eM,eL,eI,Q1];repeat refine sdQ ?_
 refine hK _ (tn (Qa (st':=⟨[(2,.own 0 0 b2.length)],[(0,rI b2)],1⟩) (Qn [(0,0)]) (Qg ?_)));clear hK K;have hr:=zE h;rw [← hr];refine ⟨_,(.tmp .nil),?_⟩;refine ⟨(.one rfl rfl .nil),[lI b2],[0],by simp [UA,U1,IA,I1,LA,L1,BA,B1,EA,E1,E2,eB,eI,eL,eM],by simp,(UpL.refl _)⟩
end Go.Vc.T
namespace Go.Vc.T
open Go Go.Vc Go.Proofs
section
attribute [local simp] Qd Qt Ql QS Qv
theorem Q5k (n:Nat) {j:Int} (h0:0≤j) (h1:j<n):ix (iota n) j=j:=by
 obtain ⟨i,rfl⟩:∃ i:Nat,j=i:=⟨j.toNat,by omega⟩;rw [← QP _ _ (show i<(iota n).length by simp [iota];omega)];simp [iota]
theorem set_fill {α:Type} (xs:List α) (k:Nat) (v z:α) {i:Nat} (h:i=xs.length):(xs++qZ (k+1) z).set i v=(xs++[v])++qZ k z:=by
 subst h;simp [List.replicate_succ]
theorem e_numbers {n:Int} (h0:0≤n) (h1:n≤1048576):Q2k n=some (iota n.toNat):=by
 unfold Q2k;rw [Q9 (by omega)];simp only [List.length_replicate];refine Q1l n.toNat (fun i:Nat=>iota i++qZ (n.toNat - i) 0) (e:=iota n.toNat) (by simp [iota]) (by omega) (fun i hi=>?_) (by simp) (by simp);obtain ⟨k,hk⟩:∃ k,n.toNat - i=k+1:=⟨n.toNat - i - 1,by omega⟩;have hl:(iota i).length=i:=by simp [iota]
 have hs:=set_fill (iota i) k (i:Int) 0 (i:=i) (by rw [hl]);rw [iota_succ,hk,show n.toNat - (i+1)=k by omega,← hs];simp (disch:=omega) [Q9,B64,hl];omega
end
end Go.Vc.T
namespace Go.Vc.T
open Go Go.Vc Go.Proofs
section
attribute [local simp] Qd Qt Ql QS Qv
structure Para (f g:Fn):Prop where
 hf:f.Is
 hg:g.Is
 s:f.s=g.s
 t:f.t=g.t
end
end Go.Vc.T
namespace Go.Vc.T
open Go Go.Vc Go.Proofs
section
attribute [local simp] Qd Qt Ql QS Qv
def tab {α:Type} (n:Nat) (g:Nat→α):List α:=(zF n).map g
@[simp] theorem Q6m {α:Type} (n:Nat) (g:Nat→α):(tab n g).length=n:=by simp [tab]
theorem Q1e {α:Type} (n:Nat) (g:Nat→α):tab (n+1) g=tab n g++[g n]:=by simp [tab,List.range_succ]
theorem Q9d {α:Type} (g:Nat→α):tab 0 g=[]:=rfl
theorem Q7k (n:Nat) (g:Nat→Int) {i:Nat} (h:i<n):ix (tab n g) i=g i:=by
 rw [← QP _ _ (show i<(tab n g).length by simpa using h)];simp [tab]
end
end Go.Vc.T
namespace Go.Vc.T
open Go Go.Vc Go.Proofs
section
attribute [local simp] Qd Qt Ql QS Qv
theorem Q5C {α:Type} {n:Nat} {f g:Nat→α} (h:∀ i,i<n→f i=g i):tab n f=tab n g:=by
 unfold tab;exact List.map_congr_left fun i hi=>h i (by simpa using hi)
end
end Go.Vc.T
namespace Go.Vc.T
open Go Go.Vc Go.Proofs
section
attribute [local simp] Qd Qt Ql QS Qv
noncomputable def flt (n:Nat) (p:Nat→Prop):List Int:=((zF n).filter fun i=>bo (p i)).map Int.ofNat
noncomputable def fstN (n:Nat) (p:Nat→Prop):Int:=(((zF n).find? fun i=>bo (p i)).map Int.ofNat).getD (-1)
theorem Q6v {n:Nat} {p:Nat→Prop} (h:p n):flt (n+1) p=flt n p++[(n:Int)]:=by simp [flt,List.range_succ,Q2p h]
theorem Q7Z {n:Nat} {p:Nat→Prop} (h:¬ p n):flt (n+1) p=flt n p:=by simp [flt,List.range_succ,Q39 h]
theorem flt_len (n:Nat) (p:Nat→Prop):(flt n p).length≤n:=by
 unfold flt;rw [List.length_map];exact Nat.le_trans (List.length_filter_le _ _) (by simp)
theorem mem_flt {n:Nat} {p:Nat→Prop} {x:Int}:x∈flt n p↔∃ i:Nat,i<n∧p i∧x=(i:Int):=by
 simp only [flt,List.mem_map,List.mem_filter,List.mem_range,bo_tt];constructor
 ·rintro ⟨i,⟨h1,h2⟩,rfl⟩;exact ⟨i,h1,h2,rfl⟩
 rintro ⟨i,h1,h2,rfl⟩;exact ⟨i,⟨h1,h2⟩,rfl⟩
theorem Q51 (n:Nat) (p:Nat→Prop):(fstN n p = -1∧∀ i,i<n→¬ p i)∨∃ k:Nat,k<n∧p k∧fstN n p=(k:Int):=by
 unfold fstN;cases h:(zF n).find? fun i=>bo (p i) with
 | none =>
  refine .inl ⟨rfl,fun i hi=>?_⟩;have:=List.find?_eq_none.1 h i (by simpa using hi);simpa [bo_tt] using this
 | some k =>
  have h1:=List.find?_some h;have h2:=List.mem_of_find?_eq_some h;exact .inr ⟨k,by simpa using h2,by simpa [bo_tt] using h1,rfl⟩
def Inv (c:Cat) (f:Int) (g:Nat):Prop:=(ix c.fr g=ix c.to f∧ix c.to g=ix c.fr f)∧ix (rx c.cs f) g=ix c.id (ix c.fr f)∧ix (rx c.cs g) f=ix c.id (ix c.to f)
noncomputable def inv (c:Cat) (f:Int):Int:=fstN c.fr.length (Inv c f)
end
end Go.Vc.T
namespace Go.Vc.T
open Go Go.Vc Go.Proofs
section
attribute [local simp] Qd Qt Ql QS Qv
abbrev Ar (c:Cat) (f x y:Int):Prop:=(0≤f∧f<(c.fr.length:Int))∧ix c.fr f=x∧ix c.to f=y
end
end Go.Vc.T
namespace Go.Vc.T
open Go Go.Vc Go.Proofs
section
attribute [local simp] Qd Qt Ql QS Qv
def MpP (f:List Int) (m n:Int):Prop:=(f.length:Int)=m∧∀ j:Nat,j<f.length→0≤ix f j∧ix f j<n
theorem MpP.len {f:List Int} {m n:Int} (hf:MpP f m n) (hm:m≤64):f.length≤64:=by have:=hf.1;omega
end
end Go.Vc.T
namespace Go.Vc.T
open Go Go.Vc Go.Proofs
section
attribute [local simp] Qd Qt Ql QS Qv
theorem tabg {α ε β:Type} {body:List α × Int→Option (Ctl (List α × Int) ε)} {K:ε→Option β} {r:Option β} (n:Nat) (v:Nat→α) {e:ε} (hn:n<1000000)
  (h:∀ i:Nat,i<n→body (tab i v,(i:Int))=(ass ((tab i v++[v i]).length≤1073741824) <| ass (B64 ((i:Int)+1)) <| some (.next (tab i v++[v i],(i:Int)+1))))
  (he:body (tab n v,(n:Int))=some (.ret e)) (hk:K e=r):(QK body fuel ([],0)).bind K=r:=by
 refine Q1l n (fun i=>tab i v) (e:=e) rfl (by omega) (fun i hi=>?_) he hk;rw [h i hi,Q9 (by simp;omega),Q9 (by unfold B64;omega),Q1e]
end
end Go.Vc.T
namespace Go.Vc.T
open Go Go.Vc Go.Proofs
section
attribute [local simp] Qd Qt Ql QS Qv
theorem fst_eq {n m:Nat} {p:Nat→Prop} (hm:m<n) (hp:p m) (hl:∀ k,k<m→¬ p k):fstN n p=(m:Int):=by
 rcases Q51 n p with ⟨_,h⟩|⟨k,hk,pk,e⟩
 ·exact absurd hp (h m hm)
 unfold fstN;rw [List.find?_range_eq_some.2 ⟨Q2p hp,by simpa using hm,fun j hj=>by simp [Q39 (hl j hj)]⟩];rfl
theorem fst_no {n:Nat} {p:Nat→Prop} (h:∀ i,i<n→¬ p i):fstN n p = -1:=by
 rcases Q51 n p with ⟨e,_⟩|⟨k,hk,pk,e⟩
 ·exact e
 exact absurd pk (h k hk)
theorem fstI {ε β:Type} {body:Int→Option (Ctl Int ε)} {K:ε→Option β} {r:Option β} (n:Nat) (p:Nat→Prop) (eb:Int→ε) (eg:ε) (hn:n<4611686018427387904)
  (h:∀ i:Nat,i<n→body (i:Int)=if bo (p i)=true then some (.ret (eb i)) else some (.next ((i:Int)+1))) (h3:body (n:Int)=some (.ret eg)) (hk:K (if 0≤fstN n p then eb (fstN n p) else eg)=r):(QK body fuel 0).bind K=r:=by
 rcases Q8U n (fun i=>¬ p i) (eb:=fun i=>eb i) (eg:=eg) hn (fun i hi q=>by rw [h i hi,Q39 q];simp) (fun i hi q=>by rw [h i hi,Q2p (zG q)];simp) h3 with ⟨q,e⟩|⟨m,hm,hq,hlt,e⟩
 ·rw [e,zL,← hk,fst_no q];simp
 rw [e,zL,← hk,fst_eq hm (zG hq) hlt];simp
end
end Go.Vc.T
namespace Go.Vc.T
open Go Go.Vc Go.Proofs
section
attribute [local simp] Qd Qt Ql QS Qv
theorem inv_iff {c:Cat} {a:Int}:0≤inv c a↔∃ g:Nat,g<c.fr.length∧Inv c a g:=by
 unfold inv;rcases Q51 c.fr.length (Inv c a) with ⟨e,h⟩|⟨k,hk,pk,e⟩
 ·rw [e];exact ⟨fun q=>by omega,fun ⟨g,hg,q⟩=>absurd q (h g hg)⟩
 rw [e];exact ⟨fun _=>⟨k,hk,pk⟩,fun _=>by omega⟩
def Io (c:Cat) (x y:Nat):Prop:=∃ a:Int,Ar c a x y∧0≤inv c a
theorem Io.symm {c:Cat} (hc:c.Is) {x y:Nat} (h:Io c x y):Io c y x:=by
 obtain ⟨a,ha,hi⟩:=h;obtain ⟨g,hg,⟨q1,q2⟩,q3,q4⟩:=inv_iff.1 hi;have n:=ha.1;refine ⟨(g:Int),⟨by omega,by rw [q1,ha.2.2],by rw [q2,ha.2.1]⟩,inv_iff.2 ⟨a.toNat,by omega,?_⟩⟩;unfold Inv;rw [zK n.1,q1,q2];exact ⟨⟨rfl,rfl⟩,q4,q3⟩
structure UF (j:List Int) (r:Nat→Nat) (n:Nat):Prop where
 len:j.length=n
 b:∀ x:Nat,x<n→0≤ix j x∧ix j x≤x
 le:∀ x,x<n→r x≤x
 fix:∀ x,x<n→ix j (r x:Nat)=(r x:Int)
 st:∀ x:Nat,x<n→r (ix j x).toNat=r x
 tip:∀ x:Nat,x<n→ix j x=x→r x=x
theorem Q27 {p:List Int} {f:Int} {i:Nat} (h:i<p.length):ix (p.set i f) i=f:=by simp [ix,qG,h]
theorem Q28 {p:List Int} {f:Int} {i j:Nat} (h:i ≠ j):ix (p.set i f) j=ix p j:=by simp [ix,qG,List.getElem?_set,h]
theorem UF.half {j:List Int} {r:Nat→Nat} {n x:Nat} (h:UF j r n) (hx:x<n):UF (j.set x (ix j (ix j x))) r n:=by
 have b1:=h.b x hx;obtain ⟨y,hy⟩:=Int.eq_ofNat_of_zero_le b1.1;rw [hy] at b1 ⊢;have b2:=h.b y (by omega);have s1:=h.st x hx;rw [hy] at s1;have s2:=h.st y (by omega);simp only [Int.toNat_natCast] at s1;refine ⟨by simp [h.len],fun z hz=>?_,h.le,fun z hz=>?_,fun z hz=>?_,fun z hz e=>?_⟩
 ·by_cases q:x=z
  ·subst q;rw [Q27 (by rw [h.len];exact hx)];omega
  rw [Q28 q];exact h.b z hz
 ·by_cases q:x=r z
  ·rw [← q,Q27 (by rw [h.len];exact hx)];have f:=h.fix z hz;rw [← q,hy] at f;have:y=x:=(by omega);subst this;exact hy
  rw [Q28 q];exact h.fix z hz
 ·by_cases q:x=z
  ·subst q;rw [Q27 (by rw [h.len];exact hx),s2,s1]
  rw [Q28 q];exact h.st z hz
 by_cases q:x=z
 ·subst q;rw [Q27 (by rw [h.len];exact hx)] at e;exact h.tip x hx (by omega)
 rw [Q28 q] at e;exact h.tip z hz e
theorem Q8f {r:Nat→Nat} {n:Nat}:∀ (x:Nat) (j:List Int) (F:Nat),UF j r n→x<n→x<F→∃ j',QK (σ:=List Int × Int) (ε:=List Int × Int) (fun s64 =>
        ass (0≤s64.2∧s64.2<(s64.1.length:Int)) <|
        if ¬ ((ix s64.1 s64.2)=s64.2) then
         ass (0≤s64.2∧s64.2<(s64.1.length:Int)) <|
         ass (0≤ix s64.1 s64.2∧ix s64.1 s64.2<(s64.1.length:Int)) <|
         ass (0≤s64.2∧s64.2<(s64.1.length:Int)) <|
         ass (0≤s64.2∧s64.2<((s64.1.set s64.2.toNat (ix s64.1 (ix s64.1 s64.2))).length:Int)) <|
         some (Ctl.next (s64.1.set s64.2.toNat (ix s64.1 (ix s64.1 s64.2)),ix (s64.1.set s64.2.toNat (ix s64.1 (ix s64.1 s64.2))) s64.2))
        else
         some (Ctl.ret (s64.1,s64.2))) F (j,(x:Int))=some (j',(r x:Int))∧UF j' r n:=by
 intro x
 induction x using Nat.strongRecOn with
 | _ x ih =>
  intro j F h hx hF;obtain ⟨F,rfl⟩:∃ F',F=F' + 1:=⟨F - 1,by omega⟩;have b1:=h.b x hx;have hl:=h.len;simp only [QK];rw [Q9 (by omega)]
  by_cases q:ix j x=x
  ·rw [if_neg (by simp [q])];exact ⟨j,by rw [h.tip x hx q],h⟩
  rw [if_pos q,Q9 (by omega),Q9 (by omega),Q9 (by omega),Q9 (by simp;omega)];obtain ⟨y,hy⟩:=Int.eq_ofNat_of_zero_le b1.1;have b2:=h.b y (by omega);obtain ⟨z,hz⟩:=Int.eq_ofNat_of_zero_le b2.1;have s1:=h.st x hx;rw [hy] at s1;simp only [Int.toNat_natCast] at s1;have s2:=h.st y (by omega);rw [hz] at s2;simp only [Int.toNat_natCast] at s2;have hh:=h.half hx;simp only [Int.toNat_natCast];rw [Q27 (by omega),hy,hz];rw [hy,hz] at hh;rw [show r x=r z by rw [s2,s1]];exact ih z (by omega) _ F hh (by omega) (by omega)
theorem UF.join {j:List Int} {r:Nat→Nat} {n a b:Nat} (h:UF j r n) (ha:a<n) (hb:b<n) (ra:r a=a) (rb:r b=b) (hab:a≤b):UF (j.set b a) (fun z=>if r z=b then a else r z) n:=by
 have fa:=h.fix a ha;have fb:=h.fix b hb;rw [ra] at fa;rw [rb] at fb;refine ⟨by simp [h.len],fun z hz=>?_,fun z hz=>?_,fun z hz=>?_,fun z hz=>?_,fun z hz e=>?_⟩
 ·by_cases q:b=z
  ·subst q;rw [Q27 (by rw [h.len];exact hb)];omega
  rw [Q28 q];exact h.b z hz
 ·have:=h.le z hz;split<;>omega
 ·split
  ·by_cases q:b=a
   ·subst q;rw [Q27 (by rw [h.len];exact hb)]
   rw [Q28 q];exact fa
  rename_i q;rw [Q28 (fun e=>q e.symm)];exact h.fix z hz
 ·by_cases q:b=z
  ·subst q;rw [Q27 (by rw [h.len];exact hb),Int.toNat_natCast,ra,rb,if_pos rfl];split<;>rfl
  rw [Q28 q,h.st z hz]
 by_cases q:b=z
 ·subst q;rw [Q27 (by rw [h.len];exact hb)] at e;rw [rb,if_pos rfl];omega
 rw [Q28 q] at e;rw [h.tip z hz e,if_neg (fun x=>q x.symm)]
end
end Go.Vc.T
namespace Go.Vc.T
open Go Go.Vc Go.Proofs
section
attribute [local simp] Qd Qt Ql QS Qv
theorem Q5q {α:Type} (xs:List α) (k:Nat) (v z:α) {i:Nat} (h:i=xs.length):(xs++qZ (k+1) z).set i v=(xs++[v])++qZ k z:=by
 subst h;simp [List.replicate_succ]
theorem nrun_bind {σ ε β:Type} {body:σ→Option (Ctl σ ε)} {K:ε→Option β} {r:Option β} {s0:σ} (n:Nat) (g:Nat→σ) {e:ε} (h0:s0=g 0) (hn:n<4611686018427387904) (h:∀ i:Nat,i<n→body (g i)=some (.next (g (i+1)))) (he:body (g n)=some (.ret e)) (hk:K e=r):(QK body fuel s0).bind K=r:=by
 rw [Q53 g n h0 hn h he];exact hk
theorem nloop_rel {σ ε:Type} {body:σ→Option (Ctl σ ε)} {I:Nat→σ→Prop} {J:ε→Prop} {n:Nat} (hs:∀ i s,i<n→I i s→(∃ s',body s=some (.next s')∧I (i+1) s')∨∃ e,body s=some (.ret e)∧J e) (he:∀ s,I n s→∃ e,body s=some (.ret e)∧J e) :
  ∀ (r i:Nat) (s:σ) (F:Nat),i+r=n→r<F→I i s→∃ e,QK body F s=some e∧J e:=by
 intro r
 induction r with
 | zero =>
  intro i s F hi hF hI;obtain ⟨e,h1,h2⟩:=he s (by rw [show n=i by omega];exact hI);obtain ⟨F',rfl⟩:∃ F',F=F' + 1:=⟨F - 1,by omega⟩;simp only [QK,h1];exact ⟨e,rfl,h2⟩
 | succ r ih =>
  intro i s F hi hF hI;obtain ⟨F',rfl⟩:∃ F',F=F' + 1:=⟨F - 1,by omega⟩;rcases hs i s (by omega) hI with ⟨s',h1,h2⟩|⟨e,h1,h2⟩
  ·simp only [QK,h1];exact ih (i+1) s' F' (by omega) (by omega) h2
  simp only [QK,h1];exact ⟨e,rfl,h2⟩
theorem Q3q {σ ε β:Type} {body:σ→Option (Ctl σ ε)} {K:ε→Option β} {s0:σ} {Q:Option β→Prop} (n:Nat) (I:Nat→σ→Prop) (J:ε→Prop) (hn:n<4611686018427387904) (h0:I 0 s0) (hs:∀ i s,i<n→I i s→(∃ s',body s=some (.next s')∧I (i+1) s')∨∃ e,body s=some (.ret e)∧J e)
  (he:∀ s,I n s→∃ e,body s=some (.ret e)∧J e) (hk:∀ e,J e→Q (K e)):Q ((QK body fuel s0).bind K):=by
 obtain ⟨e,h1,h2⟩:=nloop_rel hs he n 0 s0 fuel (by omega) (by unfold fuel;omega) h0;rw [h1];exact hk e h2
end
end Go.Vc.T
namespace Go.Vc.T
open Go Go.Vc Go.Proofs
attribute [local simp] unk unA unE unT unC flat
noncomputable def Q2K (labels_:List Int):Option (List Int) :=
 ass (0≤(labels_.length:Int)∧(labels_.length:Int)≤1073741824) <|
 (QK (σ:=(List (Int × Int)) × List Int × Int) (ε:=List Int) (fun s10 =>
  if s10.2.2<(labels_.length:Int) then
   ass (0≤s10.2.2∧s10.2.2<(labels_.length:Int)) <|
   (
    if ¬ (((Q2o (ix labels_ s10.2.2) s10.1).isSome)=true) then
     ass (s10.1.length<1099511627776) <|
     some (tset (ix labels_ s10.2.2) (s10.1.length:Int) s10.1,(s10.1.length:Int))
    else
     some (s10.1,(Q2o (ix labels_ s10.2.2) s10.1).getD 0):Option ((List (Int × Int)) × Int)).bind fun b13 =>
   ass (0≤s10.2.2∧s10.2.2<(s10.2.1.length:Int)) <|
   ass (B64 (s10.2.2+1)) <|
   some (Ctl.next (b13.1,s10.2.1.set s10.2.2.toNat b13.2,s10.2.2+1))
  else
   some (Ctl.ret s10.2.1)) fuel ([],qZ ((labels_.length:Int).toNat) 0,0)).bind fun b2 =>
 some b2
theorem Qa7 [Kd Tryz.prog] (labels_:List Int) (r:List Int) (h:Q2K labels_=some r):Contract Tryz.prog 157 [lI labels_] (lI r):=by
 refine Qm (rvs:=[.tmp 2]) (rs:=[lI r]) Tryz.func157 rfl rfl rfl rfl (by simp [Tryz.f157]) fun F hN hP=>?_;unfold Q2K at h;refine Q3 (runQ hN fun K hK=>?_);simp [eM,eL,eI,Q1];repeat refine sdQ ?_
 refine hK _ ?_;clear hK K;refine tn (Qa (st':=⟨[(0,lI labels_)],[],0⟩) (Qn []) (Q3 (QI [] mo (by rw [hN];decide) fun K hK=>?_)));simp [eM,eL,eI,Q1];repeat refine sdQ ?_
 refine hK _ ?_;clear hK K;refine tn (Qa (st':=⟨[(0,lI labels_),(3,.mp 0)],[(0,.mapE (.int .i64) (Mii []))],1⟩) (Qn [(0,0)]) (Q3 (runQ hN fun K hK=>?_)));replace ⟨a1,h⟩:=Q5 h;simp [eM,eL,eI,Q1];repeat refine sdQ ?_
 refine hK _ ?_;clear hK K;refine tn (Qa (st':=⟨[(0,lI labels_),(3,.mp 0),(4,.own 1 0 ((qZ ((labels_.length:Int).toNat) 0).length))],[(0,.mapE (.int .i64) (Mii [])),(1,rI (qZ ((labels_.length:Int).toNat) 0))],2⟩) (Qn [(0,0),(1,1)]) (Q3 (Q3 (runQ hN fun K hK=>?_))));simp [eM,eL,eI,Q1];repeat refine sdQ ?_
 refine hK _ (tn (Qa (st':=⟨[(3,.mp 0),(4,.own 1 0 ((qZ ((labels_.length:Int).toNat) 0).length)),(13,lI labels_),(14,iV (labels_.length:Int)),(15,iV 0)],[(0,.mapE (.int .i64) (Mii [])),(1,rI (qZ ((labels_.length:Int).toNat) 0))],2⟩) (Qn [(0,0),(1,1)]) ?_));clear hK K;replace ⟨e2,h,h2⟩:=bind_some h;refine Qz (fun b2:List Int=>⟨[(4,.own 0 0 b2.length)],[(0,rI b2)],1⟩) (fun b2=>b2=e2) ?_ ?_
 ·refine Q6 (QW h (fun s10:(List (Int × Int)) × List Int × Int=>⟨[(3,.mp 0),(4,.own 1 0 s10.2.1.length),(13,lI labels_),(14,iV (labels_.length:Int)),(15,iV s10.2.2)],[(0,.mapE (.int .i64) (Mii s10.1)),(1,rI s10.2.1)],2⟩) (Qn [(0,0),(1,1)]) ?_);clear h;intro k10 s10 c10 h hk10;refine Q3 (runQ hN fun K hK=>?_);simp [eM,eL,eI,Q1];repeat refine sdQ ?_
  refine hK _ ?_;clear hK K;refine tn (Q3 (Q7 rfl (fun g=>?_) fun g=>?_))
  ·have g11:s10.2.2<(labels_.length:Int):=gQ;clear g;replace h:=if_l g11 h;refine Q8 (tn (Q3 (Q6 (Q3 (runQ hN fun K hK=>?_)))));replace ⟨a12,h⟩:=Q5 h;simp [eM,eL,eI,Q1,at_I a12];(repeat refine sdQ ?_);refine hK _ ?_;clear hK K;refine tn (Qa (st':=⟨[(3,.mp 0),(4,.own 1 0 s10.2.1.length),(5,iV s10.2.2),(6,iV (ix labels_ s10.2.2)),(13,lI labels_),(14,iV (labels_.length:Int)),(15,iV s10.2.2)],[(0,.mapE (.int .i64) (Mii s10.1)),(1,rI s10.2.1)],2⟩) (Qn [(0,0),(1,1)]) (Q3 (QI [] mo (by rw [hN];decide) fun K hK=>?_)));simp [eM,eL,eI,Q1];(repeat refine sdQ ?_);refine hK _ ?_;clear hK K;refine tn (Qa (st':=⟨[(3,.mp 0),(4,.own 1 0 s10.2.1.length),(5,iV s10.2.2),(6,iV (ix labels_ s10.2.2)),(7,iV ((Q2o (ix labels_ s10.2.2) s10.1).getD 0)),(8,.val (.bool ((Q2o (ix labels_ s10.2.2) s10.1).isSome))),(13,lI labels_),(14,iV (labels_.length:Int)),(15,iV s10.2.2)],[(0,.mapE (.int .i64) (Mii s10.1)),(1,rI s10.2.1)],2⟩) (Qn [(0,0),(1,1)]) (Q3 (Q3 (runQ hN fun K hK=>?_))));simp [eM,eL,eI,Q1];(repeat refine sdQ ?_);refine hK _ (tn ?_);clear hK K;replace ⟨e13,h,h13⟩:=bind_some h;refine Qz (fun b13:(List (Int × Int)) × Int=>⟨[(3,.mp 0),(4,.own 1 0 s10.2.1.length),(5,iV s10.2.2),(7,iV b13.2),(13,lI labels_),(14,iV (labels_.length:Int)),(15,iV s10.2.2)],[(0,.mapE (.int .i64) (Mii b13.1)),(1,rI s10.2.1)],2⟩) (fun b13=>b13=e13) ?_ ?_
   ·refine Q7 rfl (fun g=>?_) fun g=>?_
    ·have g14:¬ (((Q2o (ix labels_ s10.2.2) s10.1).isSome)=true):=gQ;clear g;replace h:=if_l g14 h;refine Q3 (QI [29] mo (by rw [hN];decide) fun K hK=>?_);simp [eM,eL,eI,Q1];(repeat refine sdQ ?_);refine hK _ ?_;clear hK K;refine tn (Qa (st':=⟨[(3,.mp 0),(4,.own 1 0 s10.2.1.length),(5,iV s10.2.2),(6,iV (ix labels_ s10.2.2)),(7,iV (s10.1.length:Int)),(13,lI labels_),(14,iV (labels_.length:Int)),(15,iV s10.2.2)],[(0,.mapE (.int .i64) (Mii s10.1)),(1,rI s10.2.1)],2⟩) (Qn [(0,0),(1,1)]) (QI [] mo (by rw [hN];decide) fun K hK=>?_));replace ⟨a15,h⟩:=Q5 h;simp [eM,eL,eI,Q1,a15];(repeat refine sdQ ?_);refine hK _ ?_;clear hK K;exact jn (b:=(tset (ix labels_ s10.2.2) (s10.1.length:Int) s10.1,(s10.1.length:Int))) (zE h) (Qn [(0,0),(1,1)])
    have g14:¬ (¬ (((Q2o (ix labels_ s10.2.2) s10.1).isSome)=true)):=by first|simpa using g|(simp at g;exact g)|(simp at g;omega)|exact fun q=>q (by simpa using g)
    clear g;replace h:=if_r g14 h;refine Q8 ?_;exact jn (b:=(s10.1,(Q2o (ix labels_ s10.2.2) s10.1).getD 0)) (zE h) (Qn [(0,0),(1,1)])
   intro b13 hb13;have h:=h13;(try rw [← hb13] at h);clear h13;(try dsimp only at h);refine runQ hN fun K hK=>?_;replace ⟨a16,h⟩:=Q5 h;simp [eM,eL,eI,Q1,at_I a16];(repeat refine sdQ ?_);refine hK _ ?_;clear hK K;refine bn (tn (Qa (st':=⟨[(3,.mp 0),(4,.own 1 0 ((s10.2.1.set s10.2.2.toNat b13.2).length)),(13,lI labels_),(14,iV (labels_.length:Int)),(15,iV s10.2.2)],[(0,.mapE (.int .i64) (Mii b13.1)),(1,rI (s10.2.1.set s10.2.2.toNat b13.2))],2⟩) (Qn [(0,0),(1,1)]) (runQ hN fun K hK=>?_)));replace ⟨a17,h⟩:=Q5 h;simp [eM,eL,eI,Q1,QF a17];(repeat refine sdQ ?_);refine hK _ ?_;clear hK K;cases h;exact rn (s':=(b13.1,s10.2.1.set s10.2.2.toNat b13.2,s10.2.2+1)) hk10 (Qn [(0,0),(1,1)])
  have g11:¬ (s10.2.2<(labels_.length:Int)):=gQ;clear g;replace h:=if_r g11 h;refine Qk (tx (lx (bh ?_)));cases h;exact jn (b:=s10.2.1) hk10 (Qn [(1,0)])
 intro b2 hb2;have h:=h2;try rw [← hb2] at h
 clear h2;try dsimp only at h
 refine Q3 (runQ hN fun K hK=>?_);simp [eM,eL,eI,Q1];repeat refine sdQ ?_
 refine hK _ (tn (Qa (st':=⟨[(2,.own 0 0 b2.length)],[(0,rI b2)],1⟩) (Qn [(0,0)]) (Qg ?_)));clear hK K;have hr:=zE h;rw [← hr];refine ⟨_,(.tmp .nil),?_⟩;refine ⟨(.one rfl rfl .nil),[lI b2],[0],by simp [UA,U1,IA,I1,LA,L1,BA,B1,EA,E1,E2,eB,eI,eL,eM],by simp,(UpL.refl _)⟩
end Go.Vc.T
namespace Go.Vc.T
open Go Go.Vc Go.Proofs
attribute [local simp] unk unA unE unT unC flat
noncomputable def Q21 (list_:List Int) (n_:Int):Option Int :=
 (QK (σ:=Int) (ε:=Unit ⊕ Int) (fun s6 =>
  if s6<(list_.length:Int) then
   ass (0≤s6∧s6<(list_.length:Int)) <|
   if (ix list_ s6)=n_ then
    some (Ctl.ret (Sum.inr s6))
   else
    ass (B64 (s6+1)) <|
    some (Ctl.next (s6+1))
  else
   some (Ctl.ret (Sum.inl ()))) fuel 0).bind fun e1 =>
 match e1 with
 | .inl b1 =>
  some (-1)
 | .inr p1 =>
  some p1
theorem Q7L [Kd Tryz.prog] (list_:List Int) (n_:Int) (r:Int) (h:Q21 list_ n_=some r):Contract Tryz.prog 67 [lI list_,iV n_] (iV r):=by
 refine Qm (rvs:=[.tmp 4]) (rs:=[iV r]) Tryz.func67 rfl rfl rfl rfl (by simp [Tryz.f67]) fun F hN hP=>?_;unfold Q21 at h;refine Q3 (runQ hN fun K hK=>?_);simp [eM,eL,eI,Q1];repeat refine sdQ ?_
 refine hK _ ?_;clear hK K;refine tn (Qa (st':=⟨[(0,lI list_),(1,iV n_)],[],0⟩) (Qn []) (Q3 (Q3 (runQ hN fun K hK=>?_))));simp [eM,eL,eI,Q1];repeat refine sdQ ?_
 refine hK _ (tn (Qa (st':=⟨[(0,lI list_),(1,iV n_),(5,iV 0)],[],0⟩) (Qn []) ?_));clear hK K;replace ⟨e1,h,h1⟩:=bind_some h;refine Qz (fun b1:Unit=>⟨[],[],0⟩) (fun b1=>Sum.inl b1=e1) ?_ ?_
 ·refine Q6 (QW h (fun s6:Int=>⟨[(0,lI list_),(1,iV n_),(5,iV s6)],[],0⟩) (Qn []) ?_);clear h;intro k6 s6 c6 h hk6;refine Q3 (Q3 (runQ hN fun K hK=>?_));simp [eM,eL,eI,Q1];repeat refine sdQ ?_
  refine hK _ ?_;clear hK K;refine tn (Q7 rfl (fun g=>?_) fun g=>?_)
  ·have g7:s6<(list_.length:Int):=gQ;clear g;replace h:=if_l g7 h;refine Q8 (tn (Q3 (Q6 (Q3 (runQ hN fun K hK=>?_)))));replace ⟨a8,h⟩:=Q5 h;simp [eM,eL,eI,Q1,at_I a8];(repeat refine sdQ ?_);refine hK _ ?_;clear hK K;refine tn (Q7 rfl (fun g=>?_) fun g=>?_)
   ·have g9:(ix list_ s6)=n_:=gQ;clear g;replace h:=if_l g9 h;refine Q3 (runQ hN fun K hK=>?_);simp [eM,eL,eI,Q1];(repeat refine sdQ ?_);refine hK _ (tn (Qa (st':=⟨[(4,iV s6)],[],0⟩) (Qn []) (Qg (br (tr (lr (br (tr ?_))))))));clear hK K;cases h;have q:_=e1:=hk6;have h:=h1;rw [← q] at h;clear q;(try dsimp only at h);have hr:=zE h;rw [← hr];refine ⟨_,(.tmp .nil),?_⟩;refine ⟨(.one rfl rfl .nil),[iV s6],[],by simp [UA,U1,IA,I1,LA,L1,BA,B1,EA,E1,E2,eB,eI,eL,eM],by simp,(UpL.refl _)⟩
   have g9:¬ ((ix list_ s6)=n_):=gQ;clear g;replace h:=if_r g9 h;refine Q8 (bn (tn (runQ hN fun K hK=>?_)));replace ⟨a10,h⟩:=Q5 h;simp [eM,eL,eI,Q1,QF a10];(repeat refine sdQ ?_);refine hK _ ?_;clear hK K;cases h;exact rn (s':=s6+1) hk6 (Qn [])
  have g7:¬ (s6<(list_.length:Int)):=gQ;clear g;replace h:=if_r g7 h;refine Qk (tx (lx (bh ?_)));cases h;exact jn (b:=()) hk6 (Qn [])
 intro b1 hb1;have h:=h1;try rw [← hb1] at h
 clear h1;try dsimp only at h
 refine Q3 (runQ hN fun K hK=>?_);simp [eM,eL,eI,Q1];repeat refine sdQ ?_
 refine hK _ (tn (Qa (st':=⟨[(4,iV (-1))],[],0⟩) (Qn []) (Qg ?_)));clear hK K;have hr:=zE h;rw [← hr];refine ⟨_,(.tmp .nil),?_⟩;refine ⟨(.one rfl rfl .nil),[iV (-1)],[],by simp [UA,U1,IA,I1,LA,L1,BA,B1,EA,E1,E2,eB,eI,eL,eM],by simp,(UpL.refl _)⟩
end Go.Vc.T
namespace Go.Vc.T
open Go Go.Vc Go.Proofs
attribute [local simp] unk unA unE unT unC flat
noncomputable def Q1u (labels_:List Int):Option (List Int) :=
 (QK (σ:=List Int × List Int × Int) (ε:=List Int) (fun s11 =>
  if s11.2.2<(labels_.length:Int) then
   ass (0≤s11.2.2∧s11.2.2<(labels_.length:Int)) <|
   (Q21 s11.2.1 (ix labels_ s11.2.2)).bind fun v14 =>
   (
    if v14<0 then
     ass (0≤s11.2.2∧s11.2.2<(labels_.length:Int)) <|
     ass ((s11.2.1++[ix labels_ s11.2.2]).length≤1073741824) <|
     some (s11.2.1++[ix labels_ s11.2.2],(s11.2.1.length:Int))
    else
     some (s11.2.1,v14):Option (List Int × Int)).bind fun b15 =>
   ass ((s11.1++[b15.2]).length≤1073741824) <|
   ass (B64 (s11.2.2+1)) <|
   some (Ctl.next (s11.1++[b15.2],b15.1,s11.2.2+1))
  else
   some (Ctl.ret s11.1)) fuel ([],[],0)).bind fun b1 =>
 some b1
theorem Q64 [Kd Tryz.prog] (labels_:List Int) (r:List Int) (h:Q1u labels_=some r):Contract Tryz.prog 93 [lI labels_] (lI r):=by
 refine Qm (rvs:=[.tmp 2]) (rs:=[lI r]) Tryz.func93 rfl rfl rfl rfl (by simp [Tryz.f93]) fun F hN hP=>?_;unfold Q1u at h;refine Q3 (runQ hN fun K hK=>?_);simp [eM,eL,eI,Q1];repeat refine sdQ ?_
 refine hK _ ?_;clear hK K;refine tn (Qa (st':=⟨[(0,lI labels_)],[],0⟩) (Qn []) (Q3 (runQ hN fun K hK=>?_)));simp [eM,eL,eI,Q1];repeat refine sdQ ?_
 refine hK _ ?_;clear hK K;refine tn (Qa (st':=⟨[(0,lI labels_),(3,.own 0 0 0),(4,.own 1 0 0)],[(0,.mix 1 []),(1,.mix 1 [])],2⟩) (Qn [(0,0),(1,1)]) (Q3 (Q3 (runQ hN fun K hK=>?_))));simp [eM,eL,eI,Q1];repeat refine sdQ ?_
 refine hK _ (tn (Qa (st':=⟨[(0,lI labels_),(3,.own 0 0 0),(4,.own 1 0 0),(5,iV 0)],[(0,.mix 1 []),(1,.mix 1 [])],2⟩) (Qn [(0,0),(1,1)]) ?_));clear hK K;replace ⟨e1,h,h1⟩:=bind_some h;refine Qz (fun b1:List Int=>⟨[(3,.own 0 0 b1.length)],[(0,rI b1)],1⟩) (fun b1=>b1=e1) ?_ ?_
 ·refine Q6 (QW h (fun s11:List Int × List Int × Int=>⟨[(0,lI labels_),(3,.own 0 0 s11.1.length),(4,.own 1 0 s11.2.1.length),(5,iV s11.2.2)],[(0,rI s11.1),(1,rI s11.2.1)],2⟩) (Q65 ⟨[(0,lI labels_),(3,.own 0 0 0),(4,.own 1 0 0),(5,iV 0)],[(0,rI []),(1,rI [])],2⟩ (Wk.nils [] (by simp) (by simp) (by simp [nlA]) (by simp [entN,nlL,nlA,UA,U1,IA,I1,LA,L1,BA,B1,EA,E1,E2,eB,eI,eL,eM]) (by simp)) (Qn [(0,0),(1,1)])) ?_);clear h;intro k11 s11 c11 h hk11;refine Q3 (Q3 (runQ hN fun K hK=>?_));simp [eM,eL,eI,Q1];repeat refine sdQ ?_
  refine hK _ ?_;clear hK K;refine tn (Q7 rfl (fun g=>?_) fun g=>?_)
  ·have g12:s11.2.2<(labels_.length:Int):=gQ;clear g;replace h:=if_l g12 h;refine Q8 (tn (Q3 (Q6 (Q3 (runQ hN fun K hK=>?_)))));replace ⟨a13,h⟩:=Q5 h;simp [eM,eL,eI,Q1,at_I a13];(repeat with_reducible refine sdQ ?_);replace ⟨v14,hv14,h⟩:=bind_some h;refine Q0 (Q7L _ _ v14 hv14) (.cons .w (.cons .val .nil)) ?_;simp [eM,eL,eI,Q1,at_I a13];(repeat refine sdQ ?_);refine hK _ ?_;clear hK K;refine tn (Qa (st':=⟨[(0,lI labels_),(3,.own 0 0 s11.1.length),(4,.own 1 0 s11.2.1.length),(5,iV s11.2.2),(6,iV v14)],[(0,rI s11.1),(1,rI s11.2.1)],2⟩) (Qn [(0,0),(1,1)]) (Q3 (Q3 (runQ hN fun K hK=>?_))));simp [eM,eL,eI,Q1];(repeat refine sdQ ?_);refine hK _ (tn ?_);clear hK K;replace ⟨e15,h,h15⟩:=bind_some h;refine Qz (fun b15:List Int × Int=>⟨[(0,lI labels_),(3,.own 0 0 s11.1.length),(4,.own 1 0 b15.1.length),(5,iV s11.2.2),(6,iV b15.2)],[(0,rI s11.1),(1,rI b15.1)],2⟩) (fun b15=>b15=e15) ?_ ?_
   ·refine Q7 rfl (fun g=>?_) fun g=>?_
    ·have g16:v14<0:=gQ;clear g;replace h:=if_l g16 h;refine Q3 (runQ hN fun K hK=>?_);simp [eM,eL,eI,Q1];(repeat refine sdQ ?_);refine hK _ ?_;clear hK K;refine tn (Qa (st':=⟨[(0,lI labels_),(3,.own 0 0 s11.1.length),(4,.own 1 0 s11.2.1.length),(5,iV s11.2.2),(6,iV (s11.2.1.length:Int))],[(0,rI s11.1),(1,rI s11.2.1)],2⟩) (Qn [(0,0),(1,1)]) (runQ hN fun K hK=>?_));replace ⟨a17,h⟩:=Q5 h;replace ⟨a18,h⟩:=Q5 h;(try simp only [qL,qI,zD] at a18);simp [eM,eL,eI,Q1,at_I a17,a18];(repeat refine sdQ ?_);refine hK _ ?_;clear hK K;exact jn (b:=(s11.2.1++[ix labels_ s11.2.2],(s11.2.1.length:Int))) (zE h) (Qn [(0,0),(3,1)])
    have g16:¬ (v14<0):=gQ;clear g;replace h:=if_r g16 h;refine Q8 ?_;exact jn (b:=(s11.2.1,v14)) (zE h) (Qn [(0,0),(1,1)])
   intro b15 hb15;have h:=h15;(try rw [← hb15] at h);clear h15;(try dsimp only at h);refine runQ hN fun K hK=>?_;replace ⟨a19,h⟩:=Q5 h;(try simp only [qL,qI,zD] at a19);simp [eM,eL,eI,Q1,a19];(repeat refine sdQ ?_);refine hK _ ?_;clear hK K;refine bn (tn (Qa (st':=⟨[(0,lI labels_),(3,.own 0 0 ((s11.1++[b15.2]).length)),(4,.own 1 0 b15.1.length),(5,iV s11.2.2)],[(0,rI (s11.1++[b15.2])),(1,rI b15.1)],2⟩) (Qn [(3,0),(1,1)]) (runQ hN fun K hK=>?_)));replace ⟨a20,h⟩:=Q5 h;simp [eM,eL,eI,Q1,QF a20];(repeat refine sdQ ?_);refine hK _ ?_;clear hK K;cases h;exact rn (s':=(s11.1++[b15.2],b15.1,s11.2.2+1)) hk11 (Qn [(0,0),(1,1)])
  have g12:¬ (s11.2.2<(labels_.length:Int)):=gQ;clear g;replace h:=if_r g12 h;refine Qk (tx (lx (bh ?_)));cases h;exact jn (b:=s11.1) hk11 (Qn [(0,0)])
 intro b1 hb1;have h:=h1;try rw [← hb1] at h
 clear h1;try dsimp only at h
 refine Q3 (runQ hN fun K hK=>?_);simp [eM,eL,eI,Q1];repeat refine sdQ ?_
 refine hK _ (tn (Qa (st':=⟨[(2,.own 0 0 b1.length)],[(0,rI b1)],1⟩) (Qn [(0,0)]) (Qg ?_)));clear hK K;have hr:=zE h;rw [← hr];refine ⟨_,(.tmp .nil),?_⟩;refine ⟨(.one rfl rfl .nil),[lI b1],[0],by simp [UA,U1,IA,I1,LA,L1,BA,B1,EA,E1,E2,eB,eI,eL,eM],by simp,(UpL.refl _)⟩
end Go.Vc.T
namespace Go.Vc.T
open Go Go.Vc Go.Proofs
section
attribute [local simp] Qd Qt Ql QS Qv
theorem flt_pre {p:Nat→Prop} {y:Nat} (hp:p y):∀ i,y<i→∃ s,flt i p=flt y p++(y:Int) :: s:=by
 intro i
 induction i with
 | zero=>intro h;omega
 | succ i ih =>
  intro h
  by_cases q:y=i
  ·subst q;exact ⟨[],by rw [Q6v hp]⟩
  obtain ⟨s,e⟩:=ih (by omega)
  by_cases hi:p i
  ·exact ⟨s++[(i:Int)],by rw [Q6v hi,e];simp⟩
  exact ⟨s,by rw [Q7Z hi,e]⟩
noncomputable def cn (r:Nat→Nat) (k:Nat):Nat:=(flt k fun y=>r y=y).length
theorem cn_pos {r:Nat→Nat} {k:Nat} (h:r k=k):cn r (k+1)=cn r k+1:=by unfold cn;rw [Q6v (p:=fun y=>r y=y) h];simp
theorem cn_neg {r:Nat→Nat} {k:Nat} (h:¬ r k=k):cn r (k+1)=cn r k:=by unfold cn;rw [Q7Z (p:=fun y=>r y=y) h]
theorem cn_le (r:Nat→Nat) (k:Nat):cn r k≤k:=flt_len _ _
noncomputable def cls (r:Nat→Nat) (n:Nat):List Int:=tab n fun x=>(cn r (r x):Int)
noncomputable def lds (r:Nat→Nat) (n:Nat):List Int:=flt n fun y=>r y=y
noncomputable def idxL (L:List Int) (v:Int):Int:=fstN L.length fun i=>ix L i=v
theorem e_l01Idx {L:List Int} {v:Int} (hl:L.length≤1000000):Q21 L v=some (idxL L v):=by
 unfold Q21;refine fstI L.length (fun i=>ix L i=v) (fun i=>Sum.inr i) (Sum.inl ()) (by omega) (fun i hi=>?_) (by rw [if_neg (by omega)]) ?_
 ·rw [if_pos (by omega),Q9 (by omega)]
  by_cases q:ix L i=v
  ·rw [if_pos q,Q2p q];rfl
  rw [if_neg q,Q39 q,Q9 (by unfold B64;omega)];rfl
 unfold idxL;rcases Q51 L.length (fun i=>ix L i=v) with ⟨e,_⟩|⟨k,_,_,e⟩
 ·rw [e];simp
 rw [e,if_pos (by omega)]
theorem idx_no {L:List Int} {v:Int} (h:v ∉ L):idxL L v = -1:=fst_no fun i hi e=>h (by rw [← e,← QP _ _ hi];exact zJ hi)
theorem lds_mem {r:Nat→Nat} {n:Nat} {z:Int}:z∈lds r n↔∃ k:Nat,k<n∧r k=k∧z=(k:Int):=mem_flt
theorem seen_idx {L:List Int} {r:Nat→Nat} {n i:Nat} (hr:∀ x,x<n→r x≤x∧r (r x)=r x) (hq:∀ x y:Nat,x<n→y<n→(ix L x=ix L y↔r x=r y)) (hi:i<n):idxL ((lds r i).map (ix L)) (ix L i)=if r i=i then -1 else (cn r (r i):Int):=by
 have h:=hr i hi
 by_cases q:r i=i
 ·rw [if_pos q];refine idx_no fun z=>?_;obtain ⟨w,hw,e⟩:=List.mem_map.1 z;obtain ⟨k,hk,pk,rfl⟩:=lds_mem.1 hw;have:=(hq k i (by omega) hi).1 e;omega
 rw [if_neg q];obtain ⟨s,e⟩:=flt_pre (p:=fun y=>r y=y) h.2 i (by omega);have e':lds r i=lds r (r i)++(r i:Int) :: s:=e;have l1:(lds r (r i)).length=cn r (r i):=rfl;unfold idxL;refine fst_eq (by rw [e'];simp [l1]) ?_ fun k hk z=>?_
 ·have:ix ((lds r i).map (ix L)) (cn r (r i):Nat)=ix L (r i:Nat):=by
   rw [e',← l1];simp [ix,qG]
  rw [this];exact (hq (r i) i (by omega) hi).2 h.2
 have hk':k<(lds r (r i)).length:=hk;have e2:ix ((lds r i).map (ix L)) k=ix L (ix (lds r (r i)) k):=by
  rw [e',List.map_append];simp only [ix,qG,Int.toNat_natCast];rw [List.getElem?_append_left (by simpa using hk')];simp [hk',ix]
 obtain ⟨w,hw,pw,ew⟩:=lds_mem.1 (show ix (lds r (r i)) k∈lds r (r i) by rw [← QP _ _ hk'];exact zJ hk');rw [e2,ew] at z;have:=(hq w i (by omega) hi).1 z;omega
theorem e_l01Cls {L:List Int} {r:Nat→Nat} {n:Nat} (hl:L.length=n) (hr:∀ x,x<n→r x≤x∧r (r x)=r x) (hq:∀ x y:Nat,x<n→y<n→(ix L x=ix L y↔r x=r y)) (hn:n≤1000):Q1u L=some (cls r n):=by
 unfold Q1u;refine nrun_bind (σ:=List Int × List Int × Int) n (fun i=>(cls r i,(lds r i).map (ix L),(i:Int))) rfl (by omega) (fun i hi=>?_) (e:=cls r n) ?_ rfl
 ·have h:=hr i hi;have l1:(lds r i).length=cn r i:=rfl;have l2:=cn_le r i;simp only;rw [if_pos (by omega),Q9 (by omega),e_l01Idx (by simp;omega),seen_idx hr hq hi];simp only [zL]
  by_cases q:r i=i
  ·rw [if_pos q,if_pos (by omega),Q9 (by omega),Q9 (by simp;omega)];simp only [zL];rw [Q9 (by simp [cls];omega),Q9 (by unfold B64;omega)];have e2:cls r (i+1)=cls r i++[(((lds r i).map (ix L)).length:Int)]:=(by unfold cls;rw [Q1e,q,List.length_map,l1]);have e3:(lds r (i+1)).map (ix L)=(lds r i).map (ix L)++[ix L i]:=(by unfold lds;rw [Q6v (p:=fun y=>r y=y) q];simp);rw [e2,e3];rfl
  rw [if_neg q,if_neg (by omega)];simp only [zL];rw [Q9 (by simp [cls];omega),Q9 (by unfold B64;omega)];have e2:cls r (i+1)=cls r i++[(cn r (r i):Int)]:=by unfold cls;rw [Q1e]
  have e3:lds r (i+1)=lds r i:=by unfold lds;rw [Q7Z (p:=fun y=>r y=y) q]
  rw [e2,e3];rfl
 simp only;rw [if_neg (by omega)]
theorem tset_new {α β:Type} [DecidableEq α] (k:α) (v:β):∀ m:List (α × β),Q2o k m=none→(tset k v m).length=m.length+1:=by
 intro m
 induction m with
 | nil=>intro _;rfl
 | cons p t ih =>
  intro h;obtain ⟨a,x⟩:=p;unfold Q2o at h;split at h
  ·cases h
  rename_i q;unfold tset;rw [if_neg q];simp [ih h]
theorem Q6g {α β:Type} [DecidableEq α] (k k':α) (v:β) (m:List (α × β)):Q2o k (tset k' v m)=if k'=k then some v else Q2o k m:=by
 induction m with
 | nil=>simp [tset,Q2o]
 | cons p t ih =>
  obtain ⟨a,x⟩:=p;unfold tset;split
  ·rename_i h1;subst h1
   by_cases h2:a=k<;>simp [Q2o,h2]
  rename_i h1;simp only [Q2o,ih]
  by_cases h2:a=k
  ·subst h2;rw [if_pos rfl,if_neg (fun e=>h1 e.symm),if_pos rfl]
  rw [if_neg h2,if_neg h2]
theorem e_normal {r:Nat→Nat} {n:Nat} (hr:∀ x,x<n→r x≤x∧r (r x)=r x) (hn:n≤1000):Q2K (tab n fun x=>(r x:Int))=some (cls r n):=by
 unfold Q2K;rw [Q9 (by simp;omega)];refine Q3q (σ:=(List (Int × Int)) × List Int × Int) (Q:=fun z=>z=some (cls r n)) n (fun i s=>s.2=(cls r i++qZ (n - i) 0,(i:Int))∧s.1.length=cn r i∧(∀ y:Nat,y<i→r y=y→Q2o (y:Int) s.1=some (cn r y:Int))∧∀ y:Nat,i≤y→Q2o (y:Int) s.1=none) (fun e=>e=cls r n) (by omega) ⟨by simp [cls,Q9d],rfl,fun y hy=>by omega,fun y _=>rfl⟩ ?_ ?_ (fun e he=>by rw [he])
 ·rintro i ⟨m,L,j⟩ hi ⟨e,hm,h1,h2⟩
  simp only [qH] at e;obtain ⟨rfl,rfl⟩:=e;simp only at hm h1 h2;have h:=hr i hi;have l2:=cn_le r i;have ek:n - i=(n - (i+1))+1:=by omega
  simp only [Q6m];rw [if_pos (by omega),Q9 (by omega),Q7k _ _ hi]
  by_cases q:r i=i
  ·rw [q,if_pos (by rw [h2 i (qC _)];simp),Q9 (by omega)];simp only [zL];rw [Q9 (by simp [cls];omega),Q9 (by unfold B64;omega)];refine .inl ⟨_,rfl,?_,?_,fun y hy hq=>?_,fun y hy=>?_⟩
   ·refine Prod.ext ?_ (by push_cast;rfl);simp only [Int.toNat_natCast];rw [ek,Q5q _ _ _ _ (by simp [cls])]
    congr 1
    unfold cls;rw [Q1e,q,hm]
   ·simp only;rw [tset_new _ _ _ (h2 i (qC _)),cn_pos q,hm]
   ·simp only;rw [Q6g]
    by_cases z:i=y
    ·subst z;rw [if_pos rfl,hm]
    rw [if_neg (by omega)];exact h1 y (by omega) hq
   simp only;rw [Q6g,if_neg (by omega)];exact h2 y (by omega)
  have e:=h1 (r i) (by omega) h.2;rw [e,if_neg (by simp)];simp only [zL,qB];rw [Q9 (by simp [cls];omega),Q9 (by unfold B64;omega)];refine .inl ⟨_,rfl,?_,?_,fun y hy hq=>?_,fun y hy=>h2 y (by omega)⟩
  ·refine Prod.ext ?_ (by push_cast;rfl);simp only [Int.toNat_natCast];rw [ek,Q5q _ _ _ _ (by simp [cls])]
   congr 1
   unfold cls;rw [Q1e]
  ·simp only;rw [cn_neg q,hm]
  have:y ≠ i:=fun z=>q (by rw [← z];exact hq);exact h1 y (by omega) hq
 rintro ⟨m,L,j⟩ ⟨e,hm,h1,h2⟩
 simp only [qH] at e;obtain ⟨rfl,rfl⟩:=e;simp only [Q6m];rw [if_neg (by omega)];exact ⟨_,rfl,by simp⟩
end
end Go.Vc.T
namespace Go.Vc.T
open Go Go.Vc Go.Proofs
section
attribute [local simp] Qd Qt Ql QS Qv
structure UI (c:Cat) (j:List Int) (r:Nat→Nat) (i:Nat):Prop where
 u:UF j r c.id.length
 io:∀ x,x<c.id.length→Io c (r x) x
 st:∀ a:Nat,a<i→0≤inv c a→r (ix c.fr a).toNat=r (ix c.to a).toNat
theorem UF.rr {j:List Int} {r:Nat→Nat} {n x:Nat} (h:UF j r n) (hx:x<n):r (r x)=r x:=h.tip (r x) (by have:=h.le x hx;omega) (h.fix x hx)
end
end Go.Vc.T
namespace Go.Vc.T
open Go Go.Vc Go.Proofs
attribute [local simp] unk unA unE unT unC flat
noncomputable def Q2l (n_:Int) (pairs_:List (List Int)):Option (List Int) :=
 (QK (σ:=List Int × Int) (ε:=List Int) (fun s5 =>
  if s5.2<n_ then
   ass ((s5.1++[s5.2]).length≤1073741824) <|
   ass (B64 (s5.2+1)) <|
   some (Ctl.next (s5.1++[s5.2],s5.2+1))
  else
   some (Ctl.ret s5.1)) fuel ([],0)).bind fun b1 =>
 (QK (σ:=List Int × Int) (ε:=List Int) (fun s36 =>
  if s36.2<(pairs_.length:Int) then
   (
    ass (0≤s36.2∧s36.2<(pairs_.length:Int)) <|
    ass ((0:Int)≤0∧0<((rx pairs_ s36.2).length:Int)) <|
    ass (0≤ix (rx pairs_ s36.2) 0∧ix (rx pairs_ s36.2) 0<(s36.1.length:Int)) <|
    ass (0≤s36.2∧s36.2<(pairs_.length:Int)) <|
    ass ((0:Int)≤1∧1<((rx pairs_ s36.2).length:Int)) <|
    ass (0≤ix (rx pairs_ s36.2) 1∧ix (rx pairs_ s36.2) 1<(s36.1.length:Int)) <|
    (QK (σ:=List Int × Int) (ε:=List Int) (fun s53 =>
     (
      if s53.2<(s53.1.length:Int) then
       some ((ix s36.1 (ix (rx pairs_ s36.2) 0)) != (ix s36.1 (ix (rx pairs_ s36.2) 1)))
      else
       some false:Option (Bool)).bind fun b54 =>
     if b54=true then
      (
       ass (0≤s53.2∧s53.2<(s53.1.length:Int)) <|
       if (ix s53.1 s53.2)=(ix s36.1 (ix (rx pairs_ s36.2) 1)) then
        ass (0≤s53.2∧s53.2<(s53.1.length:Int)) <|
        some (s53.1.set s53.2.toNat (ix s36.1 (ix (rx pairs_ s36.2) 0)))
       else
        some s53.1:Option (List Int)).bind fun b57 =>
      ass (B64 (s53.2+1)) <|
      some (Ctl.next (b57,s53.2+1))
     else
      some (Ctl.ret s53.1)) fuel (s36.1,0)).bind fun p53 =>
    some p53:Option (List Int)).bind fun b38 =>
   ass (B64 (s36.2+1)) <|
   some (Ctl.next (b38,s36.2+1))
  else
   some (Ctl.ret s36.1)) fuel (b1,0)).bind fun b9 =>
 (Q1u b9).bind fun v63 =>
 some v63
@[simp] abbrev Yq (a:List Int × Int) (b:List (List Int)) (c:List (Nat × AV)):List (Nat × AV):=(7,iV a.2)::(8,iV (ix a.1 (ix (rx b a.2) 0)))::(9,iV (ix a.1 (ix (rx b a.2) 1)))::c
@[simp] abbrev Yy (a:List (List Int)) (b:List (Nat × AV)):List (Nat × AV):=(1,.lst true 1 (Ls a))::b
theorem Q8B [Kd Tryz.prog] (n_:Int) (pairs_:List (List Int)) (r:List Int) (h:Q2l n_ pairs_=some r):Contract Tryz.prog 57 [iV n_,.lst true 1 (Ls pairs_)] (lI r):=by
 refine Qm (rvs:=[.tmp 4]) (rs:=[lI r]) Tryz.func57 rfl rfl rfl rfl (by simp [Tryz.f57]) fun F hN hP=>?_;unfold Q2l at h;refine Q3 (runQ hN fun K hK=>?_);simp [eM,eL,eI,Q1];repeat refine sdQ ?_
 refine hK _ ?_;clear hK K;refine tn (Qa (st':=⟨(0,iV n_)::Yy pairs_ [],[],0⟩) (Qn []) (Q3 (runQ hN fun K hK=>?_)));simp [eM,eL,eI,Q1];repeat refine sdQ ?_
 refine hK _ ?_;clear hK K;refine tn (Qa (st':=⟨(0,iV n_)::Yy pairs_ [(5,.own 0 0 0)],[(0,.mix 1 [])],1⟩) (Qn [(0,0)]) (Q3 (Q3 (runQ hN fun K hK=>?_))));simp [eM,eL,eI,Q1];repeat refine sdQ ?_
 refine hK _ (tn (Qa (st':=⟨(0,iV n_)::Yy pairs_ [(5,.own 0 0 0),(6,iV 0)],[(0,.mix 1 [])],1⟩) (Qn [(0,0)]) ?_));clear hK K;replace ⟨e1,h,h1⟩:=bind_some h;refine Qz (fun b1:List Int=>⟨Yy pairs_ [(5,.own 0 0 b1.length)],[(0,rI b1)],1⟩) (fun b1=>b1=e1) ?_ ?_
 ·refine Q6 (QW h (fun s5:List Int × Int=>⟨(0,iV n_)::Yy pairs_ [(5,.own 0 0 s5.1.length),(6,iV s5.2)],[(0,rI s5.1)],1⟩) (Q65 ⟨(0,iV n_)::Yy pairs_ [(5,.own 0 0 0),(6,iV 0)],[(0,rI [])],1⟩ (Wk.nils [] (by simp) (by simp) (by simp [nlA]) (by simp [entN,nlL,nlA,UA,U1,IA,I1,LA,L1,BA,B1,EA,E1,E2,eB,eI,eL,eM]) (by simp)) (Qn [(0,0)])) ?_);clear h;intro k5 s5 c5 h hk5;refine Q3 (Q3 (runQ hN fun K hK=>?_));simp [eM,eL,eI,Q1];repeat refine sdQ ?_
  refine hK _ ?_;clear hK K;refine tn (Q7 rfl (fun g=>?_) fun g=>?_)
  ·have g6:s5.2<n_:=gQ;clear g;replace h:=if_l g6 h;refine Q8 (tn (Q3 (Q6 (runQ hN fun K hK=>?_))));replace ⟨a7,h⟩:=Q5 h;(try simp only [qL,qI,zD] at a7);simp [eM,eL,eI,Q1,a7];(repeat refine sdQ ?_);refine hK _ ?_;clear hK K;refine bn (tn (Qa (st':=⟨(0,iV n_)::Yy pairs_ [(5,.own 0 0 ((s5.1++[s5.2]).length)),(6,iV s5.2)],[(0,rI (s5.1++[s5.2]))],1⟩) (Qn [(2,0)]) (runQ hN fun K hK=>?_)));replace ⟨a8,h⟩:=Q5 h;simp [eM,eL,eI,Q1,QF a8];(repeat refine sdQ ?_);refine hK _ ?_;clear hK K;cases h;exact rn (s':=(s5.1++[s5.2],s5.2+1)) hk5 (Qn [(0,0)])
  have g6:¬ (s5.2<n_):=gQ;clear g;replace h:=if_r g6 h;refine Qk (tx (lx (bh ?_)));cases h;exact jn (b:=s5.1) hk5 (Qn [(0,0)])
 intro b1 hb1;have h:=h1;try rw [← hb1] at h
 clear h1;try dsimp only at h
 refine Q3 (Q3 (runQ hN fun K hK=>?_));simp [eM,eL,eI,Q1];repeat refine sdQ ?_
 refine hK _ (tn (Qa (st':=⟨Yy pairs_ [(5,.own 0 0 b1.length),(7,iV 0)],[(0,rI b1)],1⟩) (Qn [(0,0)]) ?_));clear hK K;replace ⟨e9,h,h9⟩:=bind_some h;refine Qz (fun b9:List Int=>⟨[(5,.own 0 0 b9.length)],[(0,rI b9)],1⟩) (fun b9=>b9=e9) ?_ ?_
 ·refine Q6 (QW h (fun s36:List Int × Int=>⟨Yy pairs_ [(5,.own 0 0 s36.1.length),(7,iV s36.2)],[(0,rI s36.1)],1⟩) (Qn [(0,0)]) ?_);clear h;intro k36 s36 c36 h hk36;refine Q3 (Q3 (runQ hN fun K hK=>?_));simp [eM,eL,eI,Q1];repeat refine sdQ ?_
  refine hK _ ?_;clear hK K;refine tn (Q7 rfl (fun g=>?_) fun g=>?_)
  ·have g37:s36.2<(pairs_.length:Int):=gQ;clear g;replace h:=if_l g37 h;refine Q8 (tn (Q3 ?_));replace ⟨e38,h,h38⟩:=bind_some h;refine Qz (fun b38:List Int=>⟨Yy pairs_ [(5,.own 0 0 b38.length),(7,iV s36.2)],[(0,rI b38)],1⟩) (fun b38=>b38=e38) ?_ ?_
   ·refine Q6 (Q3 (runQ hN fun K hK=>?_));replace ⟨a39,h⟩:=Q5 h;replace ⟨a40,h⟩:=Q5 h;replace ⟨a41,h⟩:=Q5 h;replace ⟨a42,h⟩:=Q5 h;replace ⟨a43,h⟩:=Q5 h;replace ⟨a44,h⟩:=Q5 h;simp [eM,eL,eI,Q1,at_L a39,(show (Is (rx pairs_ s36.2))[0]? = some [iV (ix (rx pairs_ s36.2) 0)] from at_I (j:=0) a40),at_I a41,at_L a42,(show (Is (rx pairs_ s36.2))[1]? = some [iV (ix (rx pairs_ s36.2) 1)] from at_I (j:=1) a43),at_I a44];(repeat refine sdQ ?_);refine hK _ ?_;clear hK K;refine tn (Qa (st':=⟨Yy pairs_ ((5,.own 0 0 s36.1.length)::Yq s36 pairs_ []),[(0,rI s36.1)],1⟩) (Qn [(0,0)]) (Q3 (runQ hN fun K hK=>?_)));simp [eM,eL,eI,Q1];(repeat refine sdQ ?_);refine hK _ (tn (Qa (st':=⟨Yy pairs_ ((5,.own 0 0 s36.1.length)::Yq s36 pairs_ [(10,iV 0)]),[(0,rI s36.1)],1⟩) (Qn [(0,0)]) (Q6 ?_)));clear hK K;replace ⟨e53,he53,h53⟩:=bind_some h;refine QW he53 (fun s53:List Int × Int=>⟨Yy pairs_ ((5,.own 0 0 s53.1.length)::Yq s36 pairs_ [(10,iV s53.2)]),[(0,rI s53.1)],1⟩) (Qn [(0,0)]) ?_;intro k53 s53 c53 h hk53;refine Q3 (Q3 ?_);replace ⟨e54,h,h54⟩:=bind_some h;refine Qz (fun b54:Bool=>⟨Yy pairs_ ((5,.own 0 0 s53.1.length)::Yq s36 pairs_ [(10,iV s53.2),(53,.val (.bool b54))]),[(0,rI s53.1)],1⟩) (fun b54=>b54=e54) ?_ ?_
    ·refine runQ hN fun K hK=>?_;simp [eM,eL,eI,Q1];(repeat with_reducible refine sdQ ?_);refine Q1a (fun g=>?_) (fun g=>?_)
     ·have g55:s53.2<(s53.1.length:Int):=gQ;clear g;replace h:=if_l g55 h;simp [eM,eL,eI,Q1];(repeat refine sdQ ?_);refine hK _ ?_;exact jn (b:=(ix s36.1 (ix (rx pairs_ s36.2) 0)) != (ix s36.1 (ix (rx pairs_ s36.2) 1))) (zE h) (Qn [(0,0)])
     have g55:¬ (s53.2<(s53.1.length:Int)):=gQ;clear g;replace h:=if_r g55 h;simp [eM,eL,eI,Q1];(repeat refine sdQ ?_);refine hK _ ?_;exact jn (b:=false) (zE h) (Qn [(0,0)])
    intro b54 hb54;have h:=h54;(try rw [← hb54] at h);clear h54;(try dsimp only at h);refine Q7 rfl (fun g=>?_) fun g=>?_
    ·have g56:b54=true:=gQ;clear g;replace h:=if_l g56 h;refine Q8 (tn (Q3 ?_));replace ⟨e57,h,h57⟩:=bind_some h;refine Qz (fun b57:List Int=>⟨Yy pairs_ ((5,.own 0 0 b57.length)::Yq s36 pairs_ [(10,iV s53.2)]),[(0,rI b57)],1⟩) (fun b57=>b57=e57) ?_ ?_
     ·refine Q6 (Q3 (runQ hN fun K hK=>?_));replace ⟨a58,h⟩:=Q5 h;simp [eM,eL,eI,Q1,at_I a58];(repeat refine sdQ ?_);refine hK _ ?_;clear hK K;refine tn (Q7 rfl (fun g=>?_) fun g=>?_)
      ·have g59:(ix s53.1 s53.2)=(ix s36.1 (ix (rx pairs_ s36.2) 1)):=gQ;clear g;replace h:=if_l g59 h;refine runQ hN fun K hK=>?_;replace ⟨a60,h⟩:=Q5 h;simp [eM,eL,eI,Q1,at_I a60];(repeat refine sdQ ?_);refine hK _ (bn ?_);clear hK K;exact jn (b:=s53.1.set s53.2.toNat (ix s36.1 (ix (rx pairs_ s36.2) 0))) (zE h) (Qn [(0,0)])
      have g59:¬ ((ix s53.1 s53.2)=(ix s36.1 (ix (rx pairs_ s36.2) 1))):=gQ;clear g;replace h:=if_r g59 h;refine Q8 (bn ?_);exact jn (b:=s53.1) (zE h) (Qn [(0,0)])
     intro b57 hb57;have h:=h57;(try rw [← hb57] at h);clear h57;(try dsimp only at h);refine runQ hN fun K hK=>?_;replace ⟨a61,h⟩:=Q5 h;simp [eM,eL,eI,Q1,QF a61];(repeat refine sdQ ?_);refine hK _ ?_;clear hK K;cases h;exact rn (s':=(b57,s53.2+1)) hk53 (Qn [(0,0)])
    have g56:¬ (b54=true):=gQ;clear g;replace h:=if_r g56 h;refine Qk (tx (lx (bh (bn ?_))));cases h;have q:_=e53:=hk53;have h:=h53;rw [← q] at h;clear q;(try dsimp only at h);exact jn (b:=s53.1) (zE h) (Qn [(0,0)])
   intro b38 hb38;have h:=h38;(try rw [← hb38] at h);clear h38;(try dsimp only at h);refine runQ hN fun K hK=>?_;replace ⟨a62,h⟩:=Q5 h;simp [eM,eL,eI,Q1,QF a62];(repeat refine sdQ ?_);refine hK _ ?_;clear hK K;cases h;exact rn (s':=(b38,s36.2+1)) hk36 (Qn [(0,0)])
  have g37:¬ (s36.2<(pairs_.length:Int)):=gQ;clear g;replace h:=if_r g37 h;refine Qk (tx (lx (bh ?_)));cases h;exact jn (b:=s36.1) hk36 (Qn [(0,0)])
 intro b9 hb9;have h:=h9;try rw [← hb9] at h
 clear h9;try dsimp only at h
 refine Q3 (runQ hN fun K hK=>?_);simp [eM,eL,eI,Q1];repeat with_reducible refine sdQ ?_
 replace ⟨v63,hv63,h⟩:=bind_some h;refine Q0 (Q64 _ v63 hv63) (.cons .w .nil) ?_;simp [eM,eL,eI,Q1];repeat refine sdQ ?_
 refine hK _ (tn (Qa (st':=⟨[(4,.own 0 0 v63.length)],[(0,rI v63)],1⟩) (Qn [(1,0)]) (Qg ?_)));clear hK K;have hr:=zE h;rw [← hr];refine ⟨_,(.tmp .nil),?_⟩;refine ⟨(.one rfl rfl .nil),[lI v63],[0],by simp [UA,U1,IA,I1,LA,L1,BA,B1,EA,E1,E2,eB,eI,eL,eM],by simp,(UpL.refl _)⟩
end Go.Vc.T
namespace Go.Vc.T
open Go Go.Vc Go.Proofs
section
attribute [local simp] Qd Qt Ql QS Qv
structure PP (c:Cat) (L:List (List Int)) (i k:Nat):Prop where
 a:∀ p∈L,∃ y x:Nat,p=[(y:Int),(x:Int)]∧Io c x y
 b:∀ y x:Nat,y<x→x<i→Io c x y→[(y:Int),(x:Int)]∈L
 d:∀ y:Nat,y<k→Io c i y→[(y:Int),(i:Int)]∈L
 len:L.length≤i * 8+k
def rlb (l:List Int) (a b:Int) (i:Nat):List Int:=tab l.length fun z:Nat=>if z<i∧ix l z=b then a else ix l z
theorem tab_ix (l:List Int):tab l.length (fun z:Nat=>ix l z)=l:=by
 refine List.ext_getElem (by simp) fun i h1 h2=>?_;rw [QP l i h2];simp [tab]
theorem rlb_zero (l:List Int) (a b:Int):rlb l a b 0=l:=by
 have:rlb l a b 0=tab l.length (fun z:Nat=>ix l z):=Q5C fun i _=>by simp
 rw [this,tab_ix]
theorem rlb_all (l:List Int) (a b:Int):rlb l a b l.length=tab l.length fun z:Nat=>if ix l z=b then a else ix l z:=Q5C fun i hi=>by simp [hi]
theorem rlb_hit {l:List Int} {a b:Int} {i:Nat} (h:ix l i=b):(rlb l a b i).set i a=rlb l a b (i+1):=by
 refine List.ext_getElem (by simp [rlb]) fun j h1 h2=>?_;simp only [rlb,tab,List.getElem_set,List.getElem_map,List.getElem_range]
 by_cases e:i=j
 ·subst e;simp [h]
 have:(j<i)=(j<i+1):=propext ⟨fun _=>by omega,fun _=>by omega⟩;simp [e,this]
theorem rlb_miss {l:List Int} {a b:Int} {i:Nat} (h:¬ ix l i=b):rlb l a b i=rlb l a b (i+1):=Q5C fun j _=>by
 by_cases e:i=j
 ·subst e;simp [h]
 have:(j<i)=(j<i+1):=propext ⟨fun _=>by omega,fun _=>by omega⟩;simp [this]
structure LB (c:Cat) (l:List Int) (P:List (List Int)) (k:Nat):Prop where
 len:l.length=c.id.length
 io:∀ x y:Nat,x<c.id.length→y<c.id.length→ix l x=ix l y→Io c x y
 st:∀ q:Nat,q<k→∀ y x:Nat,rx P q=[(y:Int),(x:Int)]→ix l y=ix l x
end
end Go.Vc.T
namespace Go.Vc.T
open Go Go.Vc Go.Proofs
section
attribute [local simp] Qd Qt Ql QS Qv
def jnr (r:Nat→Nat) (a b:Nat):Nat→Nat:=fun z=>if r z=max (r a) (r b) then min (r a) (r b) else r z
def RR (P:List (List Int)):Nat→Nat:=P.foldl (fun r p=>jnr r (ix p 0).toNat (ix p 1).toNat) fun z=>z
theorem RR_snoc (P:List (List Int)) (p:List Int):RR (P++[p])=jnr (RR P) (ix p 0).toNat (ix p 1).toNat:=by simp [RR]
theorem UF.jn {j:List Int} {r:Nat→Nat} {n a b:Nat} (h:UF j r n) (ha:a<n) (hb:b<n):UF (j.set (max (r a) (r b)) ((min (r a) (r b):Nat):Int)) (jnr r a b) n:=by
 have la:=h.le a ha;have lb:=h.le b hb;have e1:r (min (r a) (r b))=min (r a) (r b):=by
  rcases Nat.le_total (r a) (r b) with q|q
  ·rw [Nat.min_eq_left q];exact h.rr ha
  rw [Nat.min_eq_right q];exact h.rr hb
 have e2:r (max (r a) (r b))=max (r a) (r b):=by
  rcases Nat.le_total (r a) (r b) with q|q
  ·rw [Nat.max_eq_right q];exact h.rr hb
  rw [Nat.max_eq_left q];exact h.rr ha
 exact h.join (a:=min (r a) (r b)) (b:=max (r a) (r b)) (by omega) (by omega) e1 e2 (by omega)
theorem UF_id {n:Nat}:UF (iota n) (fun z=>z) n :=
 ⟨by simp,fun x hx=>by rw [Q5k _ (by omega) (by omega)];omega,fun x _=>qC _,fun x hx=>Q5k _ (by omega) (by omega),fun x hx=>by rw [Q5k _ (by omega) (by omega)];simp,fun x _ _=>rfl⟩
def Prs (n:Nat) (P:List (List Int)):Prop:=∀ p∈P,∃ a b:Nat,a<n∧b<n∧p=[(a:Int),(b:Int)]
theorem Prs.at {n:Nat} {P:List (List Int)} (h:Prs n P) {i:Nat} (hi:i<P.length):∃ a b:Nat,a<n∧b<n∧P[i]=[(a:Int),(b:Int)]:=h _ (zJ hi)
theorem RR_take {P:List (List Int)} {i:Nat} (hi:i<P.length) {a b:Nat} (e:P[i]=[(a:Int),(b:Int)]):RR (P.take (i+1))=jnr (RR (P.take i)) a b:=by
 rw [List.take_succ_eq_append_getElem hi,RR_snoc,e];rfl
theorem RR_ufk {n:Nat} {P:List (List Int)} (h:Prs n P):∀ k,k≤P.length→∃ j,UF j (RR (P.take k)) n:=by
 intro k
 induction k with
 | zero=>intro _;exact ⟨iota n,UF_id⟩
 | succ k ih =>
  intro hk;obtain ⟨j,u⟩:=ih (by omega);obtain ⟨a,b,ha,hb,e⟩:=h.at (i:=k) (by omega);rw [RR_take (by omega) e];exact ⟨_,u.jn ha hb⟩
theorem RR_uf {n:Nat} {P:List (List Int)} (h:Prs n P):∃ j,UF j (RR P) n:=by
 have:=RR_ufk h P.length (qC _)
 rwa [List.take_length] at this
theorem RR_ok {n:Nat} {P:List (List Int)} (h:Prs n P):∀ x,x<n→RR P x≤x∧RR P (RR P x)=RR P x:=by
 obtain ⟨j,u⟩:=RR_uf h;exact fun x hx=>⟨u.le x hx,u.rr hx⟩
theorem Q8R {l l2:List Int} {r:Nat→Nat} {n a b:Nat} (h:∀ x y:Nat,x<n→y<n→(ix l x=ix l y↔r x=r y)) (ha:a<n) (hb:b<n) (e:∀ z:Nat,z<n→ix l2 z=if ix l z=ix l b then ix l a else ix l z) :
  ∀ x y:Nat,x<n→y<n→(ix l2 x=ix l2 y↔jnr r a b x=jnr r a b y):=by
 intro x y hx hy;rw [e x hx,e y hy];have h1:=h x y hx hy;have h2:=h x a hx ha;have h3:=h x b hx hb;have h4:=h y a hy ha;have h5:=h y b hy hb;have h6:=h a b ha hb;unfold jnr;split<;>split<;>split<;>split<;>omega
theorem e_joinG {n:Nat} {P:List (List Int)} (hp:Prs n P) (hn:n≤1000) (hl:P.length≤100000000):Q2l (n:Int) P=some (cls (RR P) n):=by
 unfold Q2l;refine tabg n (fun i:Nat=>(i:Int)) (e:=iota n) (by omega) (fun i hi=>by simp only;rw [if_pos (by omega)]) (by simp only;rw [if_neg (by omega)];rfl) (Q3q (σ:=List Int × Int) (Q:=fun z=>z=some (cls (RR P) n)) P.length (fun i s=>s.2=(i:Int)∧s.1.length=n∧∀ x y:Nat,x<n→y<n→(ix s.1 x=ix s.1 y↔RR (P.take i) x=RR (P.take i) y)) (fun l=>l.length=n∧∀ x y:Nat,x<n→y<n→(ix l x=ix l y↔RR P x=RR P y)) (by omega) ⟨rfl,by simp,fun x y hx hy=>?_⟩ ?_ ?_ ?_)
 ·rw [Q5k _ (by omega) (by omega),Q5k _ (by omega) (by omega)];simp [RR];omega
 ·rintro i ⟨l,k⟩ hi ⟨hk,hll,h⟩
  simp only at hk h hll;subst hk;obtain ⟨y,x,hy,hx,ep0⟩:=hp.at hi;have ep:rx P i=[(y:Int),(x:Int)]:=by rw [← ep0];simp [rx,qG,hi]
  have h0:ix [(y:Int),(x:Int)] 0=y:=rfl;have h1:ix [(y:Int),(x:Int)] 1=x:=rfl;simp only;rw [if_pos (by omega),Q9 (by omega),ep,h0,h1,Q9 (by simp),Q9 (by omega),Q9 (by omega),Q9 (by simp),Q9 (by omega)];rw [RR_take hi ep0]
  by_cases q:ix l y=ix l x
  ·have run:(QK (σ:=List Int × Int) (ε:=List Int) (fun s53 =>
     (
      if s53.2<(s53.1.length:Int) then
       some ((ix l y) != (ix l x))
      else
       some false:Option (Bool)).bind fun b54 =>
     if b54=true then
      (
       ass (0≤s53.2∧s53.2<(s53.1.length:Int)) <|
       if (ix s53.1 s53.2)=(ix l x) then
        ass (0≤s53.2∧s53.2<(s53.1.length:Int)) <|
        some (s53.1.set s53.2.toNat (ix l y))
       else
        some s53.1:Option (List Int)).bind fun b57 =>
      ass (B64 (s53.2+1)) <|
      some (Ctl.next (b57,s53.2+1))
     else
      some (Ctl.ret s53.1)) fuel (l,0))=some l:=by
    refine Q6E (fun _=>l) 0 rfl (by omega) (fun z hz=>by omega) ?_;simp only [q,bne_self_eq_false];split<;>simp
   rw [run];simp only [zL];rw [Q9 (by unfold B64;omega)];refine .inl ⟨_,rfl,by push_cast;rfl,hll,Q8R h hy hx fun z hz=>?_⟩;simp only;split
   ·rename_i f;rw [f,q]
   rfl
  have run:(QK (σ:=List Int × Int) (ε:=List Int) (fun s53 =>
    (
     if s53.2<(s53.1.length:Int) then
      some ((ix l y) != (ix l x))
     else
      some false:Option (Bool)).bind fun b54 =>
    if b54=true then
     (
      ass (0≤s53.2∧s53.2<(s53.1.length:Int)) <|
      if (ix s53.1 s53.2)=(ix l x) then
       ass (0≤s53.2∧s53.2<(s53.1.length:Int)) <|
       some (s53.1.set s53.2.toNat (ix l y))
      else
       some s53.1:Option (List Int)).bind fun b57 =>
     ass (B64 (s53.2+1)) <|
     some (Ctl.next (b57,s53.2+1))
    else
     some (Ctl.ret s53.1)) fuel (l,0))=some (tab n fun z:Nat=>if ix l z=ix l x then ix l y else ix l z):=by
   refine Q6E (fun i=>rlb l (ix l y) (ix l x) i) n (rlb_zero _ _ _).symm (by omega) (fun z hz=>?_) ?_
   ·have gl:(rlb l (ix l y) (ix l x) z).length=l.length:=(by simp [rlb]);have gz:ix (rlb l (ix l y) (ix l x) z) z=ix l z:=by
     unfold rlb;rw [Q7k _ _ (by omega)];simp
    simp only;rw [if_pos (by omega)];simp only [zL];rw [if_pos (by simpa using q),Q9 (by omega),gz]
    by_cases f:ix l z=ix l x
    ·rw [if_pos f,Q9 (by omega)];simp only [zL,Int.toNat_natCast];rw [Q9 (by unfold B64;omega),rlb_hit f]
    rw [if_neg f];simp only [zL];rw [Q9 (by unfold B64;omega),rlb_miss f]
   have gl:(rlb l (ix l y) (ix l x) n).length=l.length:=(by simp [rlb]);simp only;rw [if_neg (by omega)];simp only [zL,Bool.false_eq_true,if_false];rw [← hll,rlb_all]
  rw [run];simp only [zL];rw [Q9 (by unfold B64;omega)];exact .inl ⟨_,rfl,by push_cast;rfl,by simp,Q8R h hy hx fun z hz=>Q7k _ _ hz⟩
 ·rintro ⟨l,k⟩ ⟨hk,hll,h⟩
  simp only at hk h hll;subst hk;rw [List.take_length] at h;simp only;rw [if_neg (by omega)];exact ⟨_,rfl,hll,h⟩
 rintro l ⟨hll,h⟩
 rw [e_l01Cls hll (RR_ok hp) h (by omega)];rfl
end
end Go.Vc.T
namespace Go.Vc.T
open Go Go.Vc Go.Proofs
section
attribute [local simp] Qd Qt Ql QS Qv
structure Keyed (L:List (List Int)):Prop where
 nd:L.Nodup
 sm:∀ x∈L,∀ a∈x,0≤a∧a<256
end
end Go.Vc.T
namespace Go.Vc.T
open Go Go.Vc Go.Proofs
section
attribute [local simp] Qd Qt Ql QS Qv
structure NT (f g:Fn):Prop where
 hf:f.Is
 hg:g.Is
 e:f.t=g.t
theorem rx_tab {n:Nat} (v:Nat→List Int) {i:Nat} (hi:i<n):rx (tab n v) i=v i:=by simp [rx,tab,qG,hi]
end
end Go.Vc.T
namespace Go.Vc.T
open Go Go.Vc Go.Proofs
section
attribute [local simp] Qd Qt Ql QS Qv
noncomputable def joinE (j:List Int) (a b:Int):Option (List Int × Bool) :=
 ((QK (σ:=List Int × Int) (ε:=List Int × Int) (fun s64 =>
        ass (0≤s64.2∧s64.2<(s64.1.length:Int)) <|
        if ¬ ((ix s64.1 s64.2)=s64.2) then
         ass (0≤s64.2∧s64.2<(s64.1.length:Int)) <|
         ass (0≤ix s64.1 s64.2∧ix s64.1 s64.2<(s64.1.length:Int)) <|
         ass (0≤s64.2∧s64.2<(s64.1.length:Int)) <|
         ass (0≤s64.2∧s64.2<((s64.1.set s64.2.toNat (ix s64.1 (ix s64.1 s64.2))).length:Int)) <|
         some (Ctl.next (s64.1.set s64.2.toNat (ix s64.1 (ix s64.1 s64.2)),ix (s64.1.set s64.2.toNat (ix s64.1 (ix s64.1 s64.2))) s64.2))
        else
         some (Ctl.ret (s64.1,s64.2))) fuel (j,a)).bind fun b388 =>
           some (b388.1,b388.2):Option (List Int × Int)).bind fun v403 =>
 ass (v403.1.length=j.length) <|
 ((QK (σ:=List Int × Int) (ε:=List Int × Int) (fun s64 =>
        ass (0≤s64.2∧s64.2<(s64.1.length:Int)) <|
        if ¬ ((ix s64.1 s64.2)=s64.2) then
         ass (0≤s64.2∧s64.2<(s64.1.length:Int)) <|
         ass (0≤ix s64.1 s64.2∧ix s64.1 s64.2<(s64.1.length:Int)) <|
         ass (0≤s64.2∧s64.2<(s64.1.length:Int)) <|
         ass (0≤s64.2∧s64.2<((s64.1.set s64.2.toNat (ix s64.1 (ix s64.1 s64.2))).length:Int)) <|
         some (Ctl.next (s64.1.set s64.2.toNat (ix s64.1 (ix s64.1 s64.2)),ix (s64.1.set s64.2.toNat (ix s64.1 (ix s64.1 s64.2))) s64.2))
        else
         some (Ctl.ret (s64.1,s64.2))) fuel (v403.1,b)).bind fun b406 =>
           some (b406.1,b406.2):Option (List Int × Int)).bind fun v421 =>
 ass (v421.1.length=v403.1.length) <|
 ass (0≤(if v421.2 > v403.2 then v421.2 else v403.2)∧(if v421.2 > v403.2 then v421.2 else v403.2)<(v421.1.length:Int)) <|
 some (v421.1.set ((if v421.2 > v403.2 then v421.2 else v403.2).toNat) (if v421.2<v403.2 then v421.2 else v403.2),v403.2 != v421.2)
theorem join_go {j:List Int} {r:Nat→Nat} {n a b:Nat} (h:UF j r n) (ha:a<n) (hb:b<n) (hn:n≤1000000):∃ j' d,joinE j a b=some (j',d)∧UF j' (jnr r a b) n:=by
 obtain ⟨j1,e1,w1⟩:=Q8f a j fuel h ha (by unfold fuel;omega);obtain ⟨j2,e2,w2⟩:=Q8f b j1 fuel w1 hb (by unfold fuel;omega);have l0:=h.len;have l1:=w1.len;have l2:=w2.len;have ra:=h.le a ha;have rb:=h.le b hb;have u:=w2.jn ha hb;refine ⟨_,(r a:Int) != (r b:Int),?_,u⟩;unfold joinE;rw [e1];simp only [zL];rw [Q9 (by omega),e2];simp only [zL];have m1:(if (r b:Int) > (r a:Int) then (r b:Int) else (r a:Int))=((max (r a) (r b):Nat):Int):=by split<;>omega
 have m2:(if (r b:Int)<(r a:Int) then (r b:Int) else (r a:Int))=((min (r a) (r b):Nat):Int):=by split<;>omega
 rw [Q9 (by omega),m1,m2,Q9 (by omega)];rfl
end
end Go.Vc.T
namespace Go.Vc.T
open Go Go.Vc Go.Proofs
section
attribute [local simp] Qd Qt Ql QS Qv
structure Two (f g:SF):Prop where
 pf:f.Sh
 pg:g.Sh
 e:f.s=g.s
theorem fst_bind2 {ε β:Type} {body:Int→Option (Ctl Int ε)} {K:ε→Option β} {r:Option β} (n:Nat) (p:Nat→Prop) {eb:Nat→ε} {eg:ε} (hn:n<4611686018427387904) (h1:∀ i:Nat,i<n→¬ p i→body (i:Int)=some (.next ((i:Int)+1))) (h2:∀ i:Nat,i<n→p i→body (i:Int)=some (.ret (eb i))) (h3:body (n:Int)=some (.ret eg))
  (hb:∀ m,m<n→p m→(∀ k,k<m→¬ p k)→K (eb m)=r) (hg:(∀ i,i<n→¬ p i)→K eg=r):(QK body fuel 0).bind K=r:=by
 rcases Q8U n (fun i=>¬ p i) hn h1 (fun i hi h=>h2 i hi (zG h)) h3 with ⟨h,e⟩|⟨m,hm,hq,hlt,e⟩
 ·rw [e];exact hg h
 rw [e];exact hb m hm (zG hq) hlt
end
end Go.Vc.T
namespace Go.Vc.T
open Go Go.Vc Go.Proofs
section
attribute [local simp] Qd Qt Ql QS Qv
theorem eoF_tab {α:Type} {f:Int→Option α} {E:Nat→α}:∀ n:Nat,(∀ k:Nat,k<n→f k=some (E k))→eoF f n=some (tab n E):=by
 intro n
 induction n with
 | zero=>intro _;rfl
 | succ n ih=>intro h;rw [eoF,ih fun k hk=>h k (by omega),h n (by omega),Q1e];rfl
def sf0:SF:=⟨⟨0,[],[],[],[]⟩,[],[]⟩
def mvT (L:List SF) (a:Nat) (t:List Int):List Int:=tab L.length fun i:Nat=>ix (rx (gx L i).ac a) (ix t i)
structure TupP (L:List SF) (c:Cat) (E:Nat→List (List Int)):Prop where
 l0:0<L.length
 l2:L.length≤2
 sh:∀ i:Nat,i<L.length→(gx L i).Sh∧(gx L i).s=c
 len:∀ x:Nat,(x:Int)<c.n→(E x).length≤1000
 key:∀ x:Nat,(x:Int)<c.n→Keyed (E x)
 row:∀ x:Nat,(x:Int)<c.n→∀ t∈E x,t.length=L.length∧∀ i:Nat,i<L.length→0≤ix t i∧ix t i<ix (gx L i).sz x
 cl:∀ a:Nat,a<c.fr.length→∀ t∈E (ix c.fr a).toNat,mvT L a t∈E (ix c.to a).toNat
end
end Go.Vc.T
namespace Go.Vc.T
open Go Go.Vc Go.Proofs
section
attribute [local simp] Qd Qt Ql QS Qv
def szN (f:SF) (x:Nat):Nat:=(ix f.sz x).toNat
end
end Go.Vc.T
namespace Go.Vc.T
open Go Go.Vc Go.Proofs
section
attribute [local simp] Qd Qt Ql QS Qv
theorem sf0_ok:(sf0.ok∧sf0.size≤10000):=by simp [sf0,SF.ok,SF.size,Cat.ok,Cat.size,sumL]
theorem nil_ok:((([]:List (List Int)).length≤1048576∧∀ x∈([]:List (List Int)),x.length≤1048576)∧sumL ([]:List (List Int))≤10000):=by simp [sumL]
end
end Go.Vc.T
namespace Go.Vc.T
open Go Go.Vc Go.Proofs
attribute [local simp] unk unA unE unT unC flat
noncomputable def Q2t (n_:Int):Option (List Int) :=
 (Q2k n_).bind fun v1 =>
 some v1
theorem Q7J [Kd Tryz.prog] (n_:Int) (r:List Int) (h:Q2t n_=some r):Contract Tryz.prog 99 [iV n_] (lI r):=by
 refine Qm (rvs:=[.tmp 2]) (rs:=[lI r]) Tryz.func99 rfl rfl rfl rfl (by simp [Tryz.f99]) fun F hN hP=>?_;unfold Q2t at h;refine Q3 (runQ hN fun K hK=>?_);simp [eM,eL,eI,Q1];repeat refine sdQ ?_
 refine hK _ ?_;clear hK K;refine tn (Qa (st':=⟨[(0,iV n_)],[],0⟩) (Qn []) (Q3 (runQ hN fun K hK=>?_)));simp [eM,eL,eI,Q1];repeat with_reducible refine sdQ ?_
 replace ⟨v1,hv1,h⟩:=bind_some h;refine Q0 (Q8A _ v1 hv1) (.cons .val .nil) ?_;simp [eM,eL,eI,Q1];repeat refine sdQ ?_
 refine hK _ (tn (Qa (st':=⟨[(2,.own 0 0 v1.length)],[(0,rI v1)],1⟩) (Qn [(0,0)]) (Qg ?_)));clear hK K;have hr:=zE h;rw [← hr];refine ⟨_,(.tmp .nil),?_⟩;refine ⟨(.one rfl rfl .nil),[lI v1],[0],by simp [UA,U1,IA,I1,LA,L1,BA,B1,EA,E1,E2,eB,eI,eL,eM],by simp,(UpL.refl _)⟩
end Go.Vc.T
namespace Go.Vc.T
open Go Go.Vc Go.Proofs
attribute [local simp] unk unA unE unT unC flat
noncomputable def Q3u (n_:Int):Option Bool :=
 (Q30 n_ 0 256).bind fun v1 =>
 some v1
theorem Qa6 [Kd Tryz.prog] (n_:Int) (r:Bool) (h:Q3u n_=some r):Contract Tryz.prog 173 [iV n_] (.val (.bool r)):=by
 refine Qm (rvs:=[.tmp 2]) (rs:=[.val (.bool r)]) Tryz.func173 rfl rfl rfl rfl (by simp [Tryz.f173]) fun F hN hP=>?_;unfold Q3u at h;refine Q3 (runQ hN fun K hK=>?_);simp [eM,eL,eI,Q1];repeat refine sdQ ?_
 refine hK _ ?_;clear hK K;refine tn (Qa (st':=⟨[(0,iV n_)],[],0⟩) (Qn []) (Q3 (runQ hN fun K hK=>?_)));simp [eM,eL,eI,Q1];repeat with_reducible refine sdQ ?_
 replace ⟨v1,hv1,h⟩:=bind_some h;refine Q0 (Q8y _ _ _ v1 hv1) (.cons .val (.cons .val (.cons .val .nil))) ?_;simp [eM,eL,eI,Q1];repeat refine sdQ ?_
 refine hK _ (tn (Qa (st':=⟨[(2,.val (.bool v1))],[],0⟩) (Qn []) (Qg ?_)));clear hK K;have hr:=zE h;rw [← hr];refine ⟨_,(.tmp .nil),?_⟩;refine ⟨(.one rfl rfl .nil),[.val (.bool v1)],[],by simp [UA,U1,IA,I1,LA,L1,BA,B1,EA,E1,E2,eB,eI,eL,eM],by simp,(UpL.refl _)⟩
end Go.Vc.T
namespace Go.Vc.T
open Go Go.Vc Go.Proofs
attribute [local simp] unk unA unE unT unC flat
noncomputable def Q32 (n_:Int) (f_:List Int):Option Bool :=
 (
  if (f_.length:Int)≤256 then
   (Q3v f_ n_).bind fun v3 =>
   some v3
  else
   some false:Option (Bool)).bind fun b1 =>
 some b1
theorem w_i_maps [Kd Tryz.prog] (n_:Int) (f_:List Int) (r:Bool) (h:Q32 n_ f_=some r):Contract Tryz.prog 174 [iV n_,lI f_] (.val (.bool r)):=by
 refine Qm (rvs:=[.tmp 4]) (rs:=[.val (.bool r)]) Tryz.func174 rfl rfl rfl rfl (by simp [Tryz.f174]) fun F hN hP=>?_;unfold Q32 at h;refine Q3 (runQ hN fun K hK=>?_);simp [eM,eL,eI,Q1];repeat refine sdQ ?_
 refine hK _ (tn (Qa (st':=⟨[(0,iV n_),(1,lI f_)],[],0⟩) (Qn []) (Q3 ?_)));clear hK K;replace ⟨e1,h,h1⟩:=bind_some h;refine Qz (fun b1:Bool=>⟨[(4,.val (.bool b1))],[],0⟩) (fun b1=>b1=e1) ?_ ?_
 ·refine runQ hN fun K hK=>?_;simp [eM,eL,eI,Q1];repeat with_reducible refine sdQ ?_
  refine Q1a (fun g=>?_) (fun g=>?_)
  ·have g2:(f_.length:Int)≤256:=gQ;clear g;replace h:=if_l g2 h;simp [eM,eL,eI,Q1];(repeat with_reducible refine sdQ ?_);replace ⟨v3,hv3,h⟩:=bind_some h;refine Q0 (Qa8 _ _ v3 hv3) (.cons .lst (.cons .val .nil)) ?_;simp [eM,eL,eI,Q1];(repeat refine sdQ ?_);refine hK _ ?_;exact jn (b:=v3) (zE h) (Qn [])
  have g2:¬ ((f_.length:Int)≤256):=gQ;clear g;replace h:=if_r g2 h;simp [eM,eL,eI,Q1];repeat refine sdQ ?_
  refine hK _ ?_;exact jn (b:=false) (zE h) (Qn [])
 intro b1 hb1;have h:=h1;try rw [← hb1] at h
 clear h1;try dsimp only at h
 refine Qg ?_;have hr:=zE h;rw [← hr];refine ⟨_,(.tmp .nil),?_⟩;refine ⟨(.one rfl rfl .nil),[.val (.bool b1)],[],by simp [UA,U1,IA,I1,LA,L1,BA,B1,EA,E1,E2,eB,eI,eL,eM],by simp,(UpL.refl _)⟩
end Go.Vc.T
namespace Go.Vc.T
open Go Go.Vc Go.Proofs
attribute [local simp] unk unA unE unT unC flat
noncomputable def Q31 (n_:Int) (list_:List (List Int)):Option Int :=
 (Q3u n_).bind fun v1 =>
 if ¬ (v1=true) then
  some 2
 else
  (QK (σ:=Int) (ε:=Unit ⊕ Int) (fun s9 =>
   if s9<(list_.length:Int) then
    ass (0≤s9∧s9<(list_.length:Int)) <|
    (Q32 n_ (rx list_ s9)).bind fun v12 =>
    if ¬ (v12=true) then
     some (Ctl.ret (Sum.inr 1))
    else
     ass (B64 (s9+1)) <|
     some (Ctl.next (s9+1))
   else
    some (Ctl.ret (Sum.inl ()))) fuel 0).bind fun e3 =>
  match e3 with
  | .inl b3 =>
   some 0
  | .inr p3 =>
   some p3
theorem Q8z [Kd Tryz.prog] (n_:Int) (list_:List (List Int)) (r:Int) (h:Q31 n_ list_=some r):Contract Tryz.prog 154 [iV n_,.lst true 1 (Ls list_)] (iV r):=by
 refine Qm (rvs:=[.tmp 4]) (rs:=[iV r]) Tryz.func154 rfl rfl rfl rfl (by simp [Tryz.f154]) fun F hN hP=>?_;unfold Q31 at h;refine Q3 (runQ hN fun K hK=>?_);simp [eM,eL,eI,Q1];repeat refine sdQ ?_
 refine hK _ ?_;clear hK K;refine tn (Qa (st':=⟨(0,iV n_)::Yy list_ [],[],0⟩) (Qn []) (Q3 (Q3 (runQ hN fun K hK=>?_))));simp [eM,eL,eI,Q1];repeat with_reducible refine sdQ ?_
 replace ⟨v1,hv1,h⟩:=bind_some h;refine Q0 (Qa6 _ v1 hv1) (.cons .val .nil) ?_;simp [eM,eL,eI,Q1];repeat refine sdQ ?_
 refine hK _ ?_;clear hK K;refine tn (Qa (st':=⟨(0,iV n_)::Yy list_ [(9,.val (.bool (!v1)))],[],0⟩) (Qn []) (Q7 rfl (fun g=>?_) fun g=>?_))
 ·have g2:¬ (v1=true):=gQ;clear g;replace h:=if_l g2 h;refine Q3 (runQ hN fun K hK=>?_);simp [eM,eL,eI,Q1];repeat refine sdQ ?_
  refine hK _ (tn (Qa (st':=⟨[(4,iV 2)],[],0⟩) (Qn []) (Qg (tr ?_))));clear hK K;have hr:=zE h;rw [← hr];refine ⟨_,(.tmp .nil),?_⟩;refine ⟨(.one rfl rfl .nil),[iV 2],[],by simp [UA,U1,IA,I1,LA,L1,BA,B1,EA,E1,E2,eB,eI,eL,eM],by simp,(UpL.refl _)⟩
 have g2:¬ (¬ (v1=true)):=gQ;clear g;replace h:=if_r g2 h;refine Q8 (tn (Q3 (Q3 (runQ hN fun K hK=>?_))));simp [eM,eL,eI,Q1];repeat refine sdQ ?_
 refine hK _ (tn (Qa (st':=⟨[(0,iV n_),(10,.lst true 1 (Ls list_)),(11,iV (list_.length:Int)),(12,iV 0)],[],0⟩) (Qn []) ?_));clear hK K;replace ⟨e3,h,h3⟩:=bind_some h;refine Qz (fun b3:Unit=>⟨[],[],0⟩) (fun b3=>Sum.inl b3=e3) ?_ ?_
 ·refine Q6 (QW h (fun s9:Int=>⟨[(0,iV n_),(10,.lst true 1 (Ls list_)),(11,iV (list_.length:Int)),(12,iV s9)],[],0⟩) (Qn []) ?_);clear h;intro k9 s9 c9 h hk9;refine Q3 (runQ hN fun K hK=>?_);simp [eM,eL,eI,Q1];repeat refine sdQ ?_
  refine hK _ ?_;clear hK K;refine tn (Q3 (Q7 rfl (fun g=>?_) fun g=>?_))
  ·have g10:s9<(list_.length:Int):=gQ;clear g;replace h:=if_l g10 h;refine Q8 (tn (Q3 (Q6 (Q3 (runQ hN fun K hK=>?_)))));replace ⟨a11,h⟩:=Q5 h;simp [eM,eL,eI,Q1,at_L a11];(repeat refine sdQ ?_);refine hK _ ?_;clear hK K;refine tn (Qa (st':=⟨[(0,iV n_),(6,lI (rx list_ s9)),(10,.lst true 1 (Ls list_)),(11,iV (list_.length:Int)),(12,iV s9)],[],0⟩) (Qn []) (Q3 (runQ hN fun K hK=>?_)));simp [eM,eL,eI,Q1];(repeat with_reducible refine sdQ ?_);replace ⟨v12,hv12,h⟩:=bind_some h;refine Q0 (w_i_maps _ _ v12 hv12) (.cons .val (.cons .lst .nil)) ?_;simp [eM,eL,eI,Q1];(repeat refine sdQ ?_);refine hK _ ?_;clear hK K;refine tn (Qa (st':=⟨[(0,iV n_),(10,.lst true 1 (Ls list_)),(11,iV (list_.length:Int)),(12,iV s9),(19,.val (.bool (!v12)))],[],0⟩) (Qn []) (Q7 rfl (fun g=>?_) fun g=>?_))
   ·have g13:¬ (v12=true):=gQ;clear g;replace h:=if_l g13 h;refine Q3 (runQ hN fun K hK=>?_);simp [eM,eL,eI,Q1];(repeat refine sdQ ?_);refine hK _ (tn (Qa (st':=⟨[(4,iV 1)],[],0⟩) (Qn []) (Qg (br (tr (lr (br (tr ?_))))))));clear hK K;cases h;have q:_=e3:=hk9;have h:=h3;rw [← q] at h;clear q;(try dsimp only at h);have hr:=zE h;rw [← hr];refine ⟨_,(.tmp .nil),?_⟩;refine ⟨(.one rfl rfl .nil),[iV 1],[],by simp [UA,U1,IA,I1,LA,L1,BA,B1,EA,E1,E2,eB,eI,eL,eM],by simp,(UpL.refl _)⟩
   have g13:¬ (¬ (v12=true)):=gQ;clear g;replace h:=if_r g13 h;refine Q8 (bn (tn (runQ hN fun K hK=>?_)));replace ⟨a14,h⟩:=Q5 h;simp [eM,eL,eI,Q1,QF a14];(repeat refine sdQ ?_);refine hK _ ?_;clear hK K;cases h;exact rn (s':=s9+1) hk9 (Qn [])
  have g10:¬ (s9<(list_.length:Int)):=gQ;clear g;replace h:=if_r g10 h;refine Qk (tx (lx (bh ?_)));cases h;exact jn (b:=()) hk9 (Qn [])
 intro b3 hb3;have h:=h3;try rw [← hb3] at h
 clear h3;try dsimp only at h
 refine Q3 (runQ hN fun K hK=>?_);simp [eM,eL,eI,Q1];repeat refine sdQ ?_
 refine hK _ (tn (Qa (st':=⟨[(4,iV 0)],[],0⟩) (Qn []) (Qg ?_)));clear hK K;have hr:=zE h;rw [← hr];refine ⟨_,(.tmp .nil),?_⟩;refine ⟨(.one rfl rfl .nil),[iV 0],[],by simp [UA,U1,IA,I1,LA,L1,BA,B1,EA,E1,E2,eB,eI,eL,eM],by simp,(UpL.refl _)⟩
end Go.Vc.T
namespace Go.Vc.T
open Go Go.Vc Go.Proofs
attribute [local simp] unk unA unE unT unC flat
noncomputable def Q20 (n_:Int) (f_:List Int) (g_:List Int):Option Int :=
 (Q31 n_ [f_,g_]).bind fun v1 =>
 (
  if v1=0 then
   some ((f_.length:Int) != (g_.length:Int))
  else
   some false:Option (Bool)).bind fun b2 =>
 if b2=true then
  some 1
 else
  some v1
theorem Q7K [Kd Tryz.prog] (n_:Int) (f_:List Int) (g_:List Int) (r:Int) (h:Q20 n_ f_ g_=some r):Contract Tryz.prog 98 [iV n_,lI f_,lI g_] (iV r):=by
 refine Qm (rvs:=[.tmp 6]) (rs:=[iV r]) Tryz.func98 rfl rfl rfl rfl (by simp [Tryz.f98]) fun F hN hP=>?_;unfold Q20 at h;refine Q3 (runQ hN fun K hK=>?_);simp [eM,eL,eI,Q1];repeat refine sdQ ?_
 refine hK _ ?_;clear hK K;refine tn (Qa (st':=⟨[(0,iV n_),(1,lI f_),(2,lI g_)],[],0⟩) (Qn []) (Q3 (runQ hN fun K hK=>?_)));simp [eM,eL,eI,Q1];repeat with_reducible refine sdQ ?_
 replace ⟨v1,hv1,h⟩:=bind_some h;refine Q0 (Q8z _ _ v1 hv1) (.cons .val (.cons (.lits (es:=_) rfl (.cons rfl (.cons .lst .nil) (.cons rfl (.cons .lst .nil) .nil)) rfl) .nil)) ?_;simp [eM,eL,eI,Q1];repeat refine sdQ ?_
 refine hK _ (tn (Qa (st':=⟨[(1,lI f_),(2,lI g_),(7,iV v1)],[],0⟩) (Qn []) (Q3 (Q3 ?_))));clear hK K;replace ⟨e2,h,h2⟩:=bind_some h;refine Qz (fun b2:Bool=>⟨[(7,iV v1),(21,.val (.bool b2))],[],0⟩) (fun b2=>b2=e2) ?_ ?_
 ·refine runQ hN fun K hK=>?_;simp [eM,eL,eI,Q1];repeat with_reducible refine sdQ ?_
  refine Q1a (fun g=>?_) (fun g=>?_)
  ·have g3:v1=0:=gQ;clear g;replace h:=if_l g3 h;simp [eM,eL,eI,Q1];(repeat refine sdQ ?_);refine hK _ ?_;exact jn (b:=(f_.length:Int) != (g_.length:Int)) (zE h) (Qn [])
  have g3:¬ (v1=0):=gQ;clear g;replace h:=if_r g3 h;simp [eM,eL,eI,Q1];repeat refine sdQ ?_
  refine hK _ ?_;exact jn (b:=false) (zE h) (Qn [])
 intro b2 hb2;have h:=h2;try rw [← hb2] at h
 clear h2;try dsimp only at h
 refine Q7 rfl (fun g=>?_) fun g=>?_
 ·have g4:b2=true:=gQ;clear g;replace h:=if_l g4 h;refine Q3 (runQ hN fun K hK=>?_);simp [eM,eL,eI,Q1];repeat refine sdQ ?_
  refine hK _ (tn (Qa (st':=⟨[(6,iV 1)],[],0⟩) (Qn []) (Qg (tr ?_))));clear hK K;have hr:=zE h;rw [← hr];refine ⟨_,(.tmp .nil),?_⟩;refine ⟨(.one rfl rfl .nil),[iV 1],[],by simp [UA,U1,IA,I1,LA,L1,BA,B1,EA,E1,E2,eB,eI,eL,eM],by simp,(UpL.refl _)⟩
 have g4:¬ (b2=true):=gQ;clear g;replace h:=if_r g4 h;refine Q8 (tn (Q3 (runQ hN fun K hK=>?_)));simp [eM,eL,eI,Q1];repeat refine sdQ ?_
 refine hK _ (tn (Qa (st':=⟨[(6,iV v1)],[],0⟩) (Qn []) (Qg ?_)));clear hK K;have hr:=zE h;rw [← hr];refine ⟨_,(.tmp .nil),?_⟩;refine ⟨(.one rfl rfl .nil),[iV v1],[],by simp [UA,U1,IA,I1,LA,L1,BA,B1,EA,E1,E2,eB,eI,eL,eM],by simp,(UpL.refl _)⟩
end Go.Vc.T
namespace Go.Vc.T
open Go Go.Vc Go.Proofs
attribute [local simp] unk unA unE unT unC flat
noncomputable def s_i_CoequalizerOf (n_:Int) (f_:List Int) (g_:List Int):Option (List Int × Int) :=
 (Q20 n_ f_ g_).bind fun v1 =>
 if ¬ (v1=0) then
  some ([],v1)
 else
  (Q2t n_).bind fun v3 =>
  (QK (σ:=List Int × Int) (ε:=List Int) (fun s49 =>
   if s49.2<(f_.length:Int) then
    ass (0≤s49.2∧s49.2<(f_.length:Int)) <|
    ass (0≤s49.2∧s49.2<(g_.length:Int)) <|
    (
     (
      (QK (σ:=List Int × Int) (ε:=List Int × Int) (fun s63 =>
       ass (0≤s63.2∧s63.2<(s63.1.length:Int)) <|
       if ¬ ((ix s63.1 s63.2)=s63.2) then
        ass (0≤s63.2∧s63.2<(s63.1.length:Int)) <|
        ass (0≤ix s63.1 s63.2∧ix s63.1 s63.2<(s63.1.length:Int)) <|
        ass (0≤s63.2∧s63.2<(s63.1.length:Int)) <|
        ass (0≤s63.2∧s63.2<((s63.1.set s63.2.toNat (ix s63.1 (ix s63.1 s63.2))).length:Int)) <|
        some (Ctl.next (s63.1.set s63.2.toNat (ix s63.1 (ix s63.1 s63.2)),ix (s63.1.set s63.2.toNat (ix s63.1 (ix s63.1 s63.2))) s63.2))
       else
        some (Ctl.ret (s63.1,s63.2))) fuel (s49.1,ix f_ s49.2)).bind fun b55 =>
      some (b55.1,b55.2):Option (List Int × Int)).bind fun v70 =>
     ass (v70.1.length=s49.1.length) <|
     (
      (QK (σ:=List Int × Int) (ε:=List Int × Int) (fun s81 =>
       ass (0≤s81.2∧s81.2<(s81.1.length:Int)) <|
       if ¬ ((ix s81.1 s81.2)=s81.2) then
        ass (0≤s81.2∧s81.2<(s81.1.length:Int)) <|
        ass (0≤ix s81.1 s81.2∧ix s81.1 s81.2<(s81.1.length:Int)) <|
        ass (0≤s81.2∧s81.2<(s81.1.length:Int)) <|
        ass (0≤s81.2∧s81.2<((s81.1.set s81.2.toNat (ix s81.1 (ix s81.1 s81.2))).length:Int)) <|
        some (Ctl.next (s81.1.set s81.2.toNat (ix s81.1 (ix s81.1 s81.2)),ix (s81.1.set s81.2.toNat (ix s81.1 (ix s81.1 s81.2))) s81.2))
       else
        some (Ctl.ret (s81.1,s81.2))) fuel (v70.1,ix g_ s49.2)).bind fun b73 =>
      some (b73.1,b73.2):Option (List Int × Int)).bind fun v88 =>
     ass (v88.1.length=v70.1.length) <|
     ass (0≤(if v88.2 > v70.2 then v88.2 else v70.2)∧(if v88.2 > v70.2 then v88.2 else v70.2)<(v88.1.length:Int)) <|
     some (v88.1.set ((if v88.2 > v70.2 then v88.2 else v70.2).toNat) (if v88.2<v70.2 then v88.2 else v70.2),v70.2 != v88.2):Option (List Int × Bool)).bind fun v91 =>
    ass (v91.1.length=s49.1.length) <|
    ass (B64 (s49.2+1)) <|
    some (Ctl.next (v91.1,s49.2+1))
   else
    some (Ctl.ret s49.1)) fuel (v3,0)).bind fun b4 =>
  (
   ass (0≤(b4.length:Int)∧(b4.length:Int)≤1073741824) <|
   (QK (σ:=List Int × List Int × Int) (ε:=List Int × List Int) (fun s118 =>
    if s118.2.2<(b4.length:Int) then
     (
      (QK (σ:=List Int × Int) (ε:=List Int × Int) (fun s129 =>
       ass (0≤s129.2∧s129.2<(s129.1.length:Int)) <|
       if ¬ ((ix s129.1 s129.2)=s129.2) then
        ass (0≤s129.2∧s129.2<(s129.1.length:Int)) <|
        ass (0≤ix s129.1 s129.2∧ix s129.1 s129.2<(s129.1.length:Int)) <|
        ass (0≤s129.2∧s129.2<(s129.1.length:Int)) <|
        ass (0≤s129.2∧s129.2<((s129.1.set s129.2.toNat (ix s129.1 (ix s129.1 s129.2))).length:Int)) <|
        some (Ctl.next (s129.1.set s129.2.toNat (ix s129.1 (ix s129.1 s129.2)),ix (s129.1.set s129.2.toNat (ix s129.1 (ix s129.1 s129.2))) s129.2))
       else
        some (Ctl.ret (s129.1,s129.2))) fuel (s118.1,s118.2.2)).bind fun b121 =>
      some (b121.1,b121.2):Option (List Int × Int)).bind fun v136 =>
     ass (v136.1.length=s118.1.length) <|
     ass (0≤s118.2.2∧s118.2.2<(s118.2.1.length:Int)) <|
     ass (B64 (s118.2.2+1)) <|
     some (Ctl.next (v136.1,s118.2.1.set s118.2.2.toNat v136.2,s118.2.2+1))
    else
     some (Ctl.ret (s118.1,s118.2.1))) fuel (b4,qZ ((b4.length:Int).toNat) 0,0)).bind fun b96 =>
   (Q2K b96.2).bind fun v140 =>
   some (b96.1,v140):Option (List Int × List Int)).bind fun v141 =>
  ass (v141.1.length=b4.length) <|
  some (v141.2,0)
@[simp] abbrev YB (a:List Int × Int) (b:List (Nat × AV)):List (Nat × AV):=(0,.own 0 0 ((a.1.set a.2.toNat (ix a.1 (ix a.1 a.2))).length))::(1,iV a.2)::b
theorem Q4A [Kd Tryz.prog] (n_:Int) (f_:List Int) (g_:List Int) (r:List Int × Int) (h:s_i_CoequalizerOf n_ f_ g_=some r):Contract Tryz.prog 62 [iV n_,lI f_,lI g_] (.tup [lI r.1,iV r.2]):=by
 refine Qm (rvs:=[.tmp 6,.tmp 7]) (rs:=[lI r.1,iV r.2]) Tryz.func62 rfl rfl rfl rfl (by simp [Tryz.f62]) fun F hN hP=>?_;unfold s_i_CoequalizerOf at h;refine Q3 (runQ hN fun K hK=>?_);simp [eM,eL,eI,Q1];repeat refine sdQ ?_
 refine hK _ ?_;clear hK K;refine tn (Qa (st':=⟨[(0,iV n_),(1,lI f_),(2,lI g_)],[],0⟩) (Qn []) (Q3 (Q3 (runQ hN fun K hK=>?_))));simp [eM,eL,eI,Q1];repeat with_reducible refine sdQ ?_
 replace ⟨v1,hv1,h⟩:=bind_some h;refine Q0 (Q7K _ _ _ v1 hv1) (.cons .val (.cons .lst (.cons .lst .nil))) ?_;simp [eM,eL,eI,Q1];repeat refine sdQ ?_
 refine hK _ ?_;clear hK K;refine tn (Qa (st':=⟨[(0,iV n_),(1,lI f_),(2,lI g_),(8,iV v1)],[],0⟩) (Qn []) (Q3 (runQ hN fun K hK=>?_)));simp [eM,eL,eI,Q1];repeat refine sdQ ?_
 refine hK _ ?_;clear hK K;refine tn (Q7 rfl (fun g=>?_) fun g=>?_)
 ·have g2:¬ (v1=0):=gQ;clear g;replace h:=if_l g2 h;refine Q3 (runQ hN fun K hK=>?_);simp [eM,eL,eI,Q1];repeat refine sdQ ?_
  refine hK _ (tn (Qa (st':=⟨[(6,nS),(7,iV v1)],[],0⟩) (Qn []) (Qg (tr ?_))));clear hK K;have hr:=zE h;rw [← hr];refine ⟨_,(.tmp (.tmp .nil)),?_⟩;refine ⟨(.one rfl rfl (.one rfl rfl .nil)),[nS,iV v1],[],by simp [UA,U1,IA,I1,LA,L1,BA,B1,EA,E1,E2,eB,eI,eL,eM],by simp,(.cons .nil (.cons .refl .nil))⟩
 have g2:¬ (¬ (v1=0)):=gQ;clear g;replace h:=if_r g2 h;refine Q8 (tn (Q3 (runQ hN fun K hK=>?_)));simp [eM,eL,eI,Q1];repeat with_reducible refine sdQ ?_
 replace ⟨v3,hv3,h⟩:=bind_some h;refine Q0 (Q7J _ v3 hv3) (.cons .val .nil) ?_;simp [eM,eL,eI,Q1];repeat refine sdQ ?_
 refine hK _ ?_;clear hK K;refine tn (Qa (st':=⟨[(1,lI f_),(2,lI g_),(9,.own 0 0 v3.length)],[(0,rI v3)],1⟩) (Qn [(0,0)]) (Q3 (Q3 (runQ hN fun K hK=>?_))));simp [eM,eL,eI,Q1];repeat refine sdQ ?_
 refine hK _ (tn (Qa (st':=⟨[(2,lI g_),(9,.own 0 0 v3.length),(21,lI f_),(22,iV (f_.length:Int)),(23,iV 0)],[(0,rI v3)],1⟩) (Qn [(0,0)]) ?_));clear hK K;replace ⟨e4,h,h4⟩:=bind_some h;refine Qz (fun b4:List Int=>⟨[(9,.own 0 0 b4.length)],[(0,rI b4)],1⟩) (fun b4=>b4=e4) ?_ ?_
 ·refine Q6 (QW h (fun s49:List Int × Int=>⟨[(2,lI g_),(9,.own 0 0 s49.1.length),(21,lI f_),(22,iV (f_.length:Int)),(23,iV s49.2)],[(0,rI s49.1)],1⟩) (Qn [(0,0)]) ?_);clear h;intro k49 s49 c49 h hk49;refine Q3 (runQ hN fun K hK=>?_);simp [eM,eL,eI,Q1];repeat refine sdQ ?_
  refine hK _ ?_;clear hK K;refine tn (Q3 (Q7 rfl (fun g=>?_) fun g=>?_))
  ·have g50:s49.2<(f_.length:Int):=gQ;clear g;replace h:=if_l g50 h;refine Q8 (tn (Q3 (Q6 (Q3 (runQ hN fun K hK=>?_)))));replace ⟨a51,h⟩:=Q5 h;simp [eM,eL,eI,Q1,at_I a51];(repeat refine sdQ ?_);refine hK _ ?_;clear hK K;refine tn (Qa (st':=⟨[(2,lI g_),(9,.own 0 0 s49.1.length),(10,iV s49.2),(11,iV (ix f_ s49.2)),(21,lI f_),(22,iV (f_.length:Int)),(23,iV s49.2)],[(0,rI s49.1)],1⟩) (Qn [(0,0)]) (Q5L [] mo (by rw [hN];decide) fun K hK=>?_));replace ⟨a52,h⟩:=Q5 h;simp [eM,eL,eI,Q1,at_I a52];(repeat with_reducible refine sdQ ?_);replace ⟨v91,hv91,h⟩:=bind_some h;refine Q2Q (fz:=[]) (Q2g (ts:=[6]) (e:={ v:=.val (.bool v91.2),set:=[(0,rI v91.1)],del:=[],new:=[],cnt:=0 }) Tryz.func100 rfl rfl rfl (by simp [Tryz.f100]) (by simp) (Q7a (by simp)) (newI (by rfl)) fun F hN hP=>?_) ?_
   ·clear h;have h:=hv91;clear hv91;refine Q3 (QI [] mo (by rw [hN];decide) fun K hK=>?_);simp [eM,eL,eI,Q1];(repeat refine sdQ ?_);refine hK _ ?_;clear hK K;refine tn (Qa (st':=⟨[(0,.own 0 0 s49.1.length),(1,iV (ix f_ s49.2)),(2,iV (ix g_ s49.2))],[(0,rI s49.1)],1⟩) (Wk.rP _ [(0,0)] hP (by rfl) (by simp [hhOk,back,UA,U1,IA,I1,LA,L1,BA,B1,EA,E1,E2,eB,eI,eL,eM])) (Q3 (Q5L [] mo (by rw [hN];decide) fun K hK=>?_)));simp [eM,eL,eI,Q1];(repeat with_reducible refine sdQ ?_);replace ⟨v70,hv70,h⟩:=bind_some h;refine Q2Q (fz:=[]) (Q2g (ts:=[4]) (e:={ v:=.val (.int .i64 v70.2),set:=[(0,rI v70.1)],del:=[],new:=[],cnt:=0 }) Tryz.func156 rfl rfl rfl (by simp [Tryz.f156]) (by simp) (Q7a (by simp)) (newI (by rfl)) fun F hN hP=>?_) ?_
    ·clear h;have h:=hv70;clear hv70;refine Q3 (QI [] mo (by rw [hN];decide) fun K hK=>?_);simp [eM,eL,eI,Q1];(repeat refine sdQ ?_);refine hK _ (tn (Qa (st':=⟨[(0,.own 0 0 s49.1.length),(1,iV (ix f_ s49.2))],[(0,rI s49.1)],1⟩) (Wk.rP _ [(0,0)] hP (by rfl) (by simp [hhOk,back,UA,U1,IA,I1,LA,L1,BA,B1,EA,E1,E2,eB,eI,eL,eM])) (Q3 ?_)));clear hK K;replace ⟨e55,h,h55⟩:=bind_some h;refine Qz (fun b55:List Int × Int=>⟨[(1,iV b55.2)],[(0,rI b55.1)],1⟩) (fun b55=>b55=e55) ?_ ?_
     ·refine Q6 (QW h (fun s63:List Int × Int=>⟨[(0,.own 0 0 s63.1.length),(1,iV s63.2)],[(0,rI s63.1)],1⟩) (Wk.rP _ [(0,0)] hP (by rfl) (by simp [hhOk,back,UA,U1,IA,I1,LA,L1,BA,B1,EA,E1,E2,eB,eI,eL,eM])) ?_);clear h;intro k63 s63 c63 h hk63;refine Q3 (Q3 (QI [] mo (by rw [hN];decide) fun K hK=>?_));replace ⟨a64,h⟩:=Q5 h;simp [eM,eL,eI,Q1,at_I a64];(repeat refine sdQ ?_);refine hK _ ?_;clear hK K;refine tn (Q7 rfl (fun g=>?_) fun g=>?_)
      ·have g65:¬ ((ix s63.1 s63.2)=s63.2):=gQ;clear g;replace h:=if_l g65 h;refine Q8 (tn (Q6 (Q3 (QI [] mo (by rw [hN];decide) fun K hK=>?_))));replace ⟨a66,h⟩:=Q5 h;replace ⟨a67,h⟩:=Q5 h;replace ⟨a68,h⟩:=Q5 h;simp [eM,eL,eI,Q1,at_I a66,at_I a67,at_I a68];(repeat refine sdQ ?_);refine hK _ ?_;clear hK K;refine tn (Qa (st':=⟨YB s63 [],[(0,rI (s63.1.set s63.2.toNat (ix s63.1 (ix s63.1 s63.2))))],1⟩) (Wk.rP _ [(0,0)] hP (by rfl) (by simp [hhOk,back,UA,U1,IA,I1,LA,L1,BA,B1,EA,E1,E2,eB,eI,eL,eM])) (QI [] mo (by rw [hN];decide) fun K hK=>?_));replace ⟨a69,h⟩:=Q5 h;simp [eM,eL,eI,Q1,at_I a69];(repeat refine sdQ ?_);refine hK _ (bn ?_);clear hK K;cases h;exact rn (s':=(s63.1.set s63.2.toNat (ix s63.1 (ix s63.1 s63.2)),ix (s63.1.set s63.2.toNat (ix s63.1 (ix s63.1 s63.2))) s63.2)) hk63 (Wk.rP _ [(0,0)] hP (by rfl) (by simp [hhOk,back,UA,U1,IA,I1,LA,L1,BA,B1,EA,E1,E2,eB,eI,eL,eM]))
      have g65:¬ (¬ ((ix s63.1 s63.2)=s63.2)):=gQ;clear g;replace h:=if_r g65 h;refine Qk (tx (lx (bh ?_)));cases h;exact jn (b:=(s63.1,s63.2)) hk63 (Wk.rP _ [(0,0)] hP (by rfl) (by simp [hhOk,back,UA,U1,IA,I1,LA,L1,BA,B1,EA,E1,E2,eB,eI,eL,eM]))
     intro b55 hb55;have h:=h55;(try rw [← hb55] at h);clear h55;(try dsimp only at h);refine Q3 (QI [] mo (by rw [hN];decide) fun K hK=>?_);simp [eM,eL,eI,Q1];(repeat refine sdQ ?_);refine hK _ (tn (Qa (st':=⟨[(4,iV b55.2)],[(0,rI b55.1)],1⟩) (Wk.rP _ [(0,0)] hP (by rfl) (by simp [hhOk,back,UA,U1,IA,I1,LA,L1,BA,B1,EA,E1,E2,eB,eI,eL,eM])) (Qg ?_)));clear hK K;cases h;first|refine iw_r (st':=⟨[(4,iV b55.2)],[(0,rI b55.1)],1⟩) ?_ ?_|refine iw_n (st':=⟨[(4,iV b55.2)],[(0,rI b55.1)],1⟩) ?_ ?_
     ·exact Wk.rP _ [(0,0)] hP (by rfl) (by simp [hhOk,back,UA,U1,IA,I1,LA,L1,BA,B1,EA,E1,E2,eB,eI,eL,eM])
     exact ⟨by simp [Q14],by simp,by simp⟩
    replace ⟨a71,h⟩:=Q5 h;simp [eM,eL,eI,Q1];(repeat with_reducible refine sdQ ?_);replace ⟨v88,hv88,h⟩:=bind_some h;refine Q2Q (fz:=[]) (Q2g (ts:=[4]) (e:={ v:=.val (.int .i64 v88.2),set:=[(0,rI v88.1)],del:=[],new:=[],cnt:=0 }) Tryz.func156 rfl rfl rfl (by simp [Tryz.f156]) (by simp) (Q7a (by simp)) (newI (by rfl)) fun F hN hP=>?_) ?_
    ·clear h;have h:=hv88;clear hv88;refine Q3 (QI [] mo (by rw [hN];decide) fun K hK=>?_);simp [eM,eL,eI,Q1];(repeat refine sdQ ?_);refine hK _ (tn (Qa (st':=⟨[(0,.own 0 0 v70.1.length),(1,iV (ix g_ s49.2))],[(0,rI v70.1)],1⟩) (Wk.rP _ [(0,0)] hP (by rfl) (by simp [hhOk,back,UA,U1,IA,I1,LA,L1,BA,B1,EA,E1,E2,eB,eI,eL,eM,a71])) (Q3 ?_)));clear hK K;replace ⟨e73,h,h73⟩:=bind_some h;refine Qz (fun b73:List Int × Int=>⟨[(1,iV b73.2)],[(0,rI b73.1)],1⟩) (fun b73=>b73=e73) ?_ ?_
     ·refine Q6 (QW h (fun s81:List Int × Int=>⟨[(0,.own 0 0 s81.1.length),(1,iV s81.2)],[(0,rI s81.1)],1⟩) (Wk.rP _ [(0,0)] hP (by rfl) (by simp [hhOk,back,UA,U1,IA,I1,LA,L1,BA,B1,EA,E1,E2,eB,eI,eL,eM,a71])) ?_);clear h;intro k81 s81 c81 h hk81;refine Q3 (Q3 (QI [] mo (by rw [hN];decide) fun K hK=>?_));replace ⟨a82,h⟩:=Q5 h;simp [eM,eL,eI,Q1,at_I a82];(repeat refine sdQ ?_);refine hK _ ?_;clear hK K;refine tn (Q7 rfl (fun g=>?_) fun g=>?_)
      ·have g83:¬ ((ix s81.1 s81.2)=s81.2):=gQ;clear g;replace h:=if_l g83 h;refine Q8 (tn (Q6 (Q3 (QI [] mo (by rw [hN];decide) fun K hK=>?_))));replace ⟨a84,h⟩:=Q5 h;replace ⟨a85,h⟩:=Q5 h;replace ⟨a86,h⟩:=Q5 h;simp [eM,eL,eI,Q1,at_I a84,at_I a85,at_I a86];(repeat refine sdQ ?_);refine hK _ ?_;clear hK K;refine tn (Qa (st':=⟨YB s81 [],[(0,rI (s81.1.set s81.2.toNat (ix s81.1 (ix s81.1 s81.2))))],1⟩) (Wk.rP _ [(0,0)] hP (by rfl) (by simp [hhOk,back,UA,U1,IA,I1,LA,L1,BA,B1,EA,E1,E2,eB,eI,eL,eM,a71])) (QI [] mo (by rw [hN];decide) fun K hK=>?_));replace ⟨a87,h⟩:=Q5 h;simp [eM,eL,eI,Q1,at_I a87];(repeat refine sdQ ?_);refine hK _ (bn ?_);clear hK K;cases h;exact rn (s':=(s81.1.set s81.2.toNat (ix s81.1 (ix s81.1 s81.2)),ix (s81.1.set s81.2.toNat (ix s81.1 (ix s81.1 s81.2))) s81.2)) hk81 (Wk.rP _ [(0,0)] hP (by rfl) (by simp [hhOk,back,UA,U1,IA,I1,LA,L1,BA,B1,EA,E1,E2,eB,eI,eL,eM,a71]))
      have g83:¬ (¬ ((ix s81.1 s81.2)=s81.2)):=gQ;clear g;replace h:=if_r g83 h;refine Qk (tx (lx (bh ?_)));cases h;exact jn (b:=(s81.1,s81.2)) hk81 (Wk.rP _ [(0,0)] hP (by rfl) (by simp [hhOk,back,UA,U1,IA,I1,LA,L1,BA,B1,EA,E1,E2,eB,eI,eL,eM,a71]))
     intro b73 hb73;have h:=h73;(try rw [← hb73] at h);clear h73;(try dsimp only at h);refine Q3 (QI [] mo (by rw [hN];decide) fun K hK=>?_);simp [eM,eL,eI,Q1];(repeat refine sdQ ?_);refine hK _ (tn (Qa (st':=⟨[(4,iV b73.2)],[(0,rI b73.1)],1⟩) (Wk.rP _ [(0,0)] hP (by rfl) (by simp [hhOk,back,UA,U1,IA,I1,LA,L1,BA,B1,EA,E1,E2,eB,eI,eL,eM,a71])) (Qg ?_)));clear hK K;cases h;first|refine iw_r (st':=⟨[(4,iV b73.2)],[(0,rI b73.1)],1⟩) ?_ ?_|refine iw_n (st':=⟨[(4,iV b73.2)],[(0,rI b73.1)],1⟩) ?_ ?_
     ·exact Wk.rP _ [(0,0)] hP (by rfl) (by simp [hhOk,back,UA,U1,IA,I1,LA,L1,BA,B1,EA,E1,E2,eB,eI,eL,eM,a71])
     exact ⟨by simp [Q14],by simp,by simp⟩
    replace ⟨a89,h⟩:=Q5 h;simp [eM,eL,eI,Q1];(repeat refine sdQ ?_);refine hK _ ?_;clear hK K;refine tn (Qa (st':=⟨[(0,.own 0 0 v88.1.length),(7,iV v70.2),(8,iV v88.2)],[(0,rI v88.1)],1⟩) (Wk.rP _ [(0,0)] hP (by rfl) (by simp [hhOk,back,UA,U1,IA,I1,LA,L1,BA,B1,EA,E1,E2,eB,eI,eL,eM,a71,a89])) (Q3 (QI [] mo (by rw [hN];decide) fun K hK=>?_)));replace ⟨a90,h⟩:=Q5 h;simp [eM,eL,eI,Q1,at_I a90];(repeat refine sdQ ?_);refine hK _ ?_;clear hK K;refine tn (Qa (st':=⟨[(7,iV v70.2),(8,iV v88.2)],[(0,rI (v88.1.set ((if v88.2 > v70.2 then v88.2 else v70.2).toNat) (if v88.2<v70.2 then v88.2 else v70.2)))],1⟩) (Wk.rP _ [(0,0)] hP (by rfl) (by simp [hhOk,back,UA,U1,IA,I1,LA,L1,BA,B1,EA,E1,E2,eB,eI,eL,eM,a71,a89])) (Q3 (QI [] mo (by rw [hN];decide) fun K hK=>?_)));simp [eM,eL,eI,Q1];(repeat refine sdQ ?_);refine hK _ (tn (Qa (st':=⟨[(6,.val (.bool (v70.2 != v88.2)))],[(0,rI (v88.1.set ((if v88.2 > v70.2 then v88.2 else v70.2).toNat) (if v88.2<v70.2 then v88.2 else v70.2)))],1⟩) (Wk.rP _ [(0,0)] hP (by rfl) (by simp [hhOk,back,UA,U1,IA,I1,LA,L1,BA,B1,EA,E1,E2,eB,eI,eL,eM,a71,a89])) (Qg ?_)));clear hK K;cases h;first|refine iw_r (st':=⟨[(6,.val (.bool (v70.2 != v88.2)))],[(0,rI (v88.1.set ((if v88.2 > v70.2 then v88.2 else v70.2).toNat) (if v88.2<v70.2 then v88.2 else v70.2)))],1⟩) ?_ ?_|refine iw_n (st':=⟨[(6,.val (.bool (v70.2 != v88.2)))],[(0,rI (v88.1.set ((if v88.2 > v70.2 then v88.2 else v70.2).toNat) (if v88.2<v70.2 then v88.2 else v70.2)))],1⟩) ?_ ?_
    ·exact Wk.rP _ [(0,0)] hP (by rfl) (by simp [hhOk,back,UA,U1,IA,I1,LA,L1,BA,B1,EA,E1,E2,eB,eI,eL,eM,a71,a89])
    exact ⟨by simp [Q14],by simp,by simp⟩
   replace ⟨a92,h⟩:=Q5 h;simp [eM,eL,eI,Q1];(repeat refine sdQ ?_);refine hK _ ?_;clear hK K;refine bn (tn (Qa (st':=⟨[(2,lI g_),(9,.own 0 0 v91.1.length),(21,lI f_),(22,iV (f_.length:Int)),(23,iV s49.2)],[(0,rI v91.1)],1⟩) (Wk.r1 [(0,0)] (by simp [hP,hhOk,back,UA,U1,IA,I1,LA,L1,BA,B1,EA,E1,E2,eB,eI,eL,eM,a92])) (runQ hN fun K hK=>?_)));replace ⟨a93,h⟩:=Q5 h;simp [eM,eL,eI,Q1,QF a93];(repeat refine sdQ ?_);refine hK _ ?_;clear hK K;cases h;exact rn (s':=(v91.1,s49.2+1)) hk49 (Wk.r1 [(0,0)] (by simp [hP,hhOk,back,UA,U1,IA,I1,LA,L1,BA,B1,EA,E1,E2,eB,eI,eL,eM,a92]))
  have g50:¬ (s49.2<(f_.length:Int)):=gQ;clear g;replace h:=if_r g50 h;refine Qk (tx (lx (bh ?_)));cases h;exact jn (b:=s49.1) hk49 (Qn [(0,0)])
 intro b4 hb4;have h:=h4;try rw [← hb4] at h
 clear h4;try dsimp only at h
 refine Q3 (Q5L [] mo (by rw [hN];decide) fun K hK=>?_);simp [eM,eL,eI,Q1];repeat with_reducible refine sdQ ?_
 replace ⟨v141,hv141,h⟩:=bind_some h;refine Q2Q (fz:=[]) (Q2g (ts:=[2]) (e:={ v:=.own 1 0 v141.2.length,set:=[(0,rI v141.1)],del:=[],new:=[(1,rI v141.2)],cnt:=1 }) Tryz.func101 rfl rfl rfl (by simp [Tryz.f101]) (by simp) (Q7a (by simp)) (newI (by rfl)) fun F hN hP=>?_) ?_
 ·clear h;have h:=hv141;clear hv141;refine Q3 (QI [] mo (by rw [hN];decide) fun K hK=>?_);simp [eM,eL,eI,Q1];repeat refine sdQ ?_
  refine hK _ ?_;clear hK K;refine tn (Qa (st':=⟨[(0,.own 0 0 b4.length)],[(0,rI b4)],1⟩) (Wk.rP _ [(0,0)] hP (by rfl) (by simp [hhOk,back,UA,U1,IA,I1,LA,L1,BA,B1,EA,E1,E2,eB,eI,eL,eM])) (Q3 (QI [] mo (by rw [hN];decide) fun K hK=>?_)));replace ⟨a95,h⟩:=Q5 h;simp [eM,eL,eI,Q1];repeat refine sdQ ?_
  refine hK _ ?_;clear hK K;refine tn (Qa (st':=⟨[(0,.own 0 0 b4.length),(3,.own 1 0 ((qZ ((b4.length:Int).toNat) 0).length))],[(0,rI b4),(1,rI (qZ ((b4.length:Int).toNat) 0))],2⟩) (Wk.rP _ [(0,0),(1,1)] hP (by rfl) (by simp [hhOk,back,UA,U1,IA,I1,LA,L1,BA,B1,EA,E1,E2,eB,eI,eL,eM])) (Q3 (Q3 (QI [] mo (by rw [hN];decide) fun K hK=>?_))));simp [eM,eL,eI,Q1];repeat refine sdQ ?_
  refine hK _ (tn (Qa (st':=⟨[(0,.own 0 0 b4.length),(3,.own 1 0 ((qZ ((b4.length:Int).toNat) 0).length)),(9,iV (b4.length:Int)),(10,iV 0)],[(0,rI b4),(1,rI (qZ ((b4.length:Int).toNat) 0))],2⟩) (Wk.rP _ [(0,0),(1,1)] hP (by rfl) (by simp [hhOk,back,UA,U1,IA,I1,LA,L1,BA,B1,EA,E1,E2,eB,eI,eL,eM])) ?_));clear hK K;replace ⟨e96,h,h96⟩:=bind_some h;refine Qz (fun b96:List Int × List Int=>⟨[(3,.own 1 0 b96.2.length)],[(0,rI b96.1),(1,rI b96.2)],2⟩) (fun b96=>b96=e96) ?_ ?_
  ·refine Q6 (QW h (fun s118:List Int × List Int × Int=>⟨[(0,.own 0 0 s118.1.length),(3,.own 1 0 s118.2.1.length),(9,iV (b4.length:Int)),(10,iV s118.2.2)],[(0,rI s118.1),(1,rI s118.2.1)],2⟩) (Wk.rP _ [(0,0),(1,1)] hP (by rfl) (by simp [hhOk,back,UA,U1,IA,I1,LA,L1,BA,B1,EA,E1,E2,eB,eI,eL,eM])) ?_);clear h;intro k118 s118 c118 h hk118;refine Q3 (QI [] mo (by rw [hN];decide) fun K hK=>?_);simp [eM,eL,eI,Q1];(repeat refine sdQ ?_);refine hK _ ?_;clear hK K;refine tn (Q3 (Q7 rfl (fun g=>?_) fun g=>?_))
   ·have g119:s118.2.2<(b4.length:Int):=gQ;clear g;replace h:=if_l g119 h;refine Q8 (tn (Q3 (Q6 (Q3 (QI [] mo (by rw [hN];decide) fun K hK=>?_)))));simp [eM,eL,eI,Q1];(repeat refine sdQ ?_);refine hK _ ?_;clear hK K;refine tn (Qa (st':=⟨[(0,.own 0 0 s118.1.length),(3,.own 1 0 s118.2.1.length),(4,iV s118.2.2),(9,iV (b4.length:Int)),(10,iV s118.2.2)],[(0,rI s118.1),(1,rI s118.2.1)],2⟩) (Wk.rP _ [(0,0),(1,1)] hP (by rfl) (by simp [hhOk,back,UA,U1,IA,I1,LA,L1,BA,B1,EA,E1,E2,eB,eI,eL,eM])) (Q5L [] mo (by rw [hN];decide) fun K hK=>?_));simp [eM,eL,eI,Q1];(repeat with_reducible refine sdQ ?_);replace ⟨v136,hv136,h⟩:=bind_some h;refine Q2Q (fz:=[]) (Q2g (ts:=[4]) (e:={ v:=.val (.int .i64 v136.2),set:=[(0,rI v136.1)],del:=[],new:=[],cnt:=0 }) Tryz.func156 rfl rfl rfl (by simp [Tryz.f156]) (by simp) (Q7a (by simp)) (newI (by rfl)) fun F hN hP=>?_) ?_
    ·clear h;have h:=hv136;clear hv136;refine Q3 (QI [] mo (by rw [hN];decide) fun K hK=>?_);simp [eM,eL,eI,Q1];(repeat refine sdQ ?_);refine hK _ (tn (Qa (st':=⟨[(0,.own 0 0 s118.1.length),(1,iV s118.2.2)],[(0,rI s118.1),(1,rI s118.2.1)],2⟩) (Wk.rP _ [(0,0),(1,1)] hP (by rfl) (by simp [hhOk,back,UA,U1,IA,I1,LA,L1,BA,B1,EA,E1,E2,eB,eI,eL,eM])) (Q3 ?_)));clear hK K;replace ⟨e121,h,h121⟩:=bind_some h;refine Qz (fun b121:List Int × Int=>⟨[(1,iV b121.2)],[(0,rI b121.1),(1,rI s118.2.1)],2⟩) (fun b121=>b121=e121) ?_ ?_
     ·refine Q6 (QW h (fun s129:List Int × Int=>⟨[(0,.own 0 0 s129.1.length),(1,iV s129.2)],[(0,rI s129.1),(1,rI s118.2.1)],2⟩) (Wk.rP _ [(0,0),(1,1)] hP (by rfl) (by simp [hhOk,back,UA,U1,IA,I1,LA,L1,BA,B1,EA,E1,E2,eB,eI,eL,eM])) ?_);clear h;intro k129 s129 c129 h hk129;refine Q3 (Q3 (QI [] mo (by rw [hN];decide) fun K hK=>?_));replace ⟨a130,h⟩:=Q5 h;simp [eM,eL,eI,Q1,at_I a130];(repeat refine sdQ ?_);refine hK _ ?_;clear hK K;refine tn (Q7 rfl (fun g=>?_) fun g=>?_)
      ·have g131:¬ ((ix s129.1 s129.2)=s129.2):=gQ;clear g;replace h:=if_l g131 h;refine Q8 (tn (Q6 (Q3 (QI [] mo (by rw [hN];decide) fun K hK=>?_))));replace ⟨a132,h⟩:=Q5 h;replace ⟨a133,h⟩:=Q5 h;replace ⟨a134,h⟩:=Q5 h;simp [eM,eL,eI,Q1,at_I a132,at_I a133,at_I a134];(repeat refine sdQ ?_);refine hK _ ?_;clear hK K;refine tn (Qa (st':=⟨YB s129 [],[(0,rI (s129.1.set s129.2.toNat (ix s129.1 (ix s129.1 s129.2)))),(1,rI s118.2.1)],2⟩) (Wk.rP _ [(0,0),(1,1)] hP (by rfl) (by simp [hhOk,back,UA,U1,IA,I1,LA,L1,BA,B1,EA,E1,E2,eB,eI,eL,eM])) (QI [] mo (by rw [hN];decide) fun K hK=>?_));replace ⟨a135,h⟩:=Q5 h;simp [eM,eL,eI,Q1,at_I a135];(repeat refine sdQ ?_);refine hK _ (bn ?_);clear hK K;cases h;exact rn (s':=(s129.1.set s129.2.toNat (ix s129.1 (ix s129.1 s129.2)),ix (s129.1.set s129.2.toNat (ix s129.1 (ix s129.1 s129.2))) s129.2)) hk129 (Wk.rP _ [(0,0),(1,1)] hP (by rfl) (by simp [hhOk,back,UA,U1,IA,I1,LA,L1,BA,B1,EA,E1,E2,eB,eI,eL,eM]))
      have g131:¬ (¬ ((ix s129.1 s129.2)=s129.2)):=gQ;clear g;replace h:=if_r g131 h;refine Qk (tx (lx (bh ?_)));cases h;exact jn (b:=(s129.1,s129.2)) hk129 (Wk.rP _ [(0,0),(1,1)] hP (by rfl) (by simp [hhOk,back,UA,U1,IA,I1,LA,L1,BA,B1,EA,E1,E2,eB,eI,eL,eM]))
     intro b121 hb121;have h:=h121;(try rw [← hb121] at h);clear h121;(try dsimp only at h);refine Q3 (QI [] mo (by rw [hN];decide) fun K hK=>?_);simp [eM,eL,eI,Q1];(repeat refine sdQ ?_);refine hK _ (tn (Qa (st':=⟨[(4,iV b121.2)],[(0,rI b121.1),(1,rI s118.2.1)],2⟩) (Wk.rP _ [(0,0),(1,1)] hP (by rfl) (by simp [hhOk,back,UA,U1,IA,I1,LA,L1,BA,B1,EA,E1,E2,eB,eI,eL,eM])) (Qg ?_)));clear hK K;cases h;first|refine iw_r (st':=⟨[(4,iV b121.2)],[(0,rI b121.1),(1,rI s118.2.1)],2⟩) ?_ ?_|refine iw_n (st':=⟨[(4,iV b121.2)],[(0,rI b121.1),(1,rI s118.2.1)],2⟩) ?_ ?_
     ·exact Wk.rP _ [(0,0),(1,1)] hP (by rfl) (by simp [hhOk,back,UA,U1,IA,I1,LA,L1,BA,B1,EA,E1,E2,eB,eI,eL,eM])
     exact ⟨by simp [Q14],by simp,by simp⟩
    replace ⟨a137,h⟩:=Q5 h;replace ⟨a138,h⟩:=Q5 h;simp [eM,eL,eI,Q1,at_I a138];(repeat refine sdQ ?_);refine hK _ ?_;clear hK K;refine bn (tn (Qa (st':=⟨[(0,.own 0 0 v136.1.length),(3,.own 1 0 ((s118.2.1.set s118.2.2.toNat v136.2).length)),(9,iV (b4.length:Int)),(10,iV s118.2.2)],[(0,rI v136.1),(1,rI (s118.2.1.set s118.2.2.toNat v136.2))],2⟩) (Wk.rP _ [(0,0),(1,1)] hP (by rfl) (by simp [hhOk,back,UA,U1,IA,I1,LA,L1,BA,B1,EA,E1,E2,eB,eI,eL,eM,a137])) (QI [] mo (by rw [hN];decide) fun K hK=>?_)));replace ⟨a139,h⟩:=Q5 h;simp [eM,eL,eI,Q1,QF a139];(repeat refine sdQ ?_);refine hK _ ?_;clear hK K;cases h;exact rn (s':=(v136.1,s118.2.1.set s118.2.2.toNat v136.2,s118.2.2+1)) hk118 (Wk.rP _ [(0,0),(1,1)] hP (by rfl) (by simp [hhOk,back,UA,U1,IA,I1,LA,L1,BA,B1,EA,E1,E2,eB,eI,eL,eM,a137]))
   have g119:¬ (s118.2.2<(b4.length:Int)):=gQ;clear g;replace h:=if_r g119 h;refine Qk (tx (lx (bh ?_)));cases h;exact jn (b:=(s118.1,s118.2.1)) hk118 (Wk.rP _ [(0,0),(1,1)] hP (by rfl) (by simp [hhOk,back,UA,U1,IA,I1,LA,L1,BA,B1,EA,E1,E2,eB,eI,eL,eM]))
  intro b96 hb96;have h:=h96;try rw [← hb96] at h
  clear h96;try dsimp only at h
  refine Q3 (QI [] mo (by rw [hN];decide) fun K hK=>?_);simp [eM,eL,eI,Q1];repeat with_reducible refine sdQ ?_
  replace ⟨v140,hv140,h⟩:=bind_some h;refine Q5d (fz:=[]) (Qa7 _ v140 hv140) (.cons .w .nil) ?_;simp [eM,eL,eI,Q1];repeat refine sdQ ?_
  refine hK _ (tn (Qa (st':=⟨[(2,.own 1 0 v140.length)],[(0,rI b96.1),(1,rI v140)],2⟩) (Wk.rP _ [(0,0),(2,1)] hP (by rfl) (by simp [hhOk,back,UA,U1,IA,I1,LA,L1,BA,B1,EA,E1,E2,eB,eI,eL,eM])) (Qg ?_)));clear hK K;cases h;first|refine iw_r (st':=⟨[(2,.own 1 0 v140.length)],[(0,rI b96.1),(1,rI v140)],2⟩) ?_ ?_|refine iw_n (st':=⟨[(2,.own 1 0 v140.length)],[(0,rI b96.1),(1,rI v140)],2⟩) ?_ ?_
  ·exact Wk.rP _ [(0,0),(1,1)] hP (by rfl) (by simp [hhOk,back,UA,U1,IA,I1,LA,L1,BA,B1,EA,E1,E2,eB,eI,eL,eM])
  exact ⟨by simp [Q14],by simp,by simp⟩
 replace ⟨a142,h⟩:=Q5 h;simp [eM,eL,eI,Q1];repeat refine sdQ ?_
 refine hK _ (tn (Qa (st':=⟨[(6,.own 0 0 v141.2.length),(7,iV 0)],[(0,rI v141.2)],1⟩) (Wk.r1 [(1,0)] (by simp [hP,hhOk,back,UA,U1,IA,I1,LA,L1,BA,B1,EA,E1,E2,eB,eI,eL,eM,a142])) (Qg ?_)));clear hK K;have hr:=zE h;rw [← hr];refine ⟨_,(.tmp (.tmp .nil)),?_⟩;refine ⟨(.one rfl rfl (.one rfl rfl .nil)),[lI v141.2,iV 0],[0],by simp [UA,U1,IA,I1,LA,L1,BA,B1,EA,E1,E2,eB,eI,eL,eM],by simp,(UpL.refl _)⟩
end Go.Vc.T
namespace Go.Vc.T
open Go Go.Vc Go.Proofs
section
attribute [local simp] Qd Qt Ql QS Qv
def cqL (f g:List Int) (k:Nat):List (List Int):=tab k fun e:Nat=>[ix f e,ix g e]
theorem cqL_prs {f g:List Int} {n:Nat} (hf:∀ e:Nat,e<f.length→0≤ix f e∧ix f e<n) (hg:∀ e:Nat,e<f.length→0≤ix g e∧ix g e<n):Prs n (cqL f g f.length):=by
 intro p hp;simp only [cqL,tab,List.mem_map,List.mem_range] at hp;obtain ⟨e,he,rfl⟩:=hp;have h1:=hf e he;have h2:=hg e he;refine ⟨(ix f e).toNat,(ix g e).toNat,by omega,by omega,?_⟩;rw [zK h1.1,zK h2.1]
theorem e_mapsQ {n:Int} {f:List Int} (hn:0≤n∧n≤16) (hf:∀ y∈f,inR n y=true) (hl:f.length≤16):Q32 n f=some true:=by
 unfold Q32 Q3v;rw [if_pos (by omega),Q9 (by unfold B64;omega)];simp only [zL];rw [List.all_eq_true.2 hf]
theorem Q7T {n:Int} {f g:List Int} (hn:0≤n∧n≤16) (hf:∀ y∈f,inR n y=true) (hg:∀ y∈g,inR n y=true) (hl:f.length≤16) (he:g.length=f.length):Q20 n f g=some 0:=by
 unfold Q20 Q31 Q3u Q30;have hsz:(decide ((0:Int)≤n) && decide (n≤256))=true:=by simp;omega
 rw [hsz];simp only [zL,not_true_eq_false,if_false];have hcode:∀ {K:(Unit ⊕ Int)→Option Int},K (Sum.inl ())=some 0→(QK (σ:=Int) (ε:=Unit ⊕ Int) (fun s9 =>
   if s9<(([f,g]:List (List Int)).length:Int) then
    ass (0≤s9∧s9<(([f,g]:List (List Int)).length:Int)) <|
    (Q32 n (rx [f,g] s9)).bind fun v12 =>
    if ¬ (v12=true) then
     some (Ctl.ret (Sum.inr 1))
    else
     ass (B64 (s9+1)) <|
     some (Ctl.next (s9+1))
   else
    some (Ctl.ret (Sum.inl ()))) fuel 0).bind K=some 0:=by
  intro K hK;refine fst_bind2 2 (fun _=>False) (eb:=fun _=>Sum.inl ()) (eg:=Sum.inl ()) (by omega) (fun i hi _=>?_) (fun i hi hp=>hp.elim) (by simp) (fun m hm hp _=>hp.elim) (fun _=>hK);have hm:Q32 n (rx [f,g] i)=some true:=by
   have:i=0∨i=1:=(by omega);rcases this with rfl|rfl
   ·exact e_mapsQ (f:=f) hn hf hl
   exact e_mapsQ (f:=g) hn hg (by omega)
  rw [hm,if_pos (by simp;omega),Q9 (by simp;omega)];simp only [zL,not_true_eq_false,if_false];rw [Q9 (by unfold B64;omega)]
 rw [hcode rfl];simp only [zL,if_true];rw [show ((f.length:Int) != (g.length:Int))=false by simp [he]];simp
theorem e_coeqOf {n:Nat} {f g:List Int} (hn:n≤16) (hf:∀ y∈f,inR n y=true) (hg:∀ y∈g,inR n y=true) (hl:f.length≤16) (he:g.length=f.length):s_i_CoequalizerOf (n:Int) f g=some (cls (RR (cqL f g f.length)) n,0):=by
 unfold s_i_CoequalizerOf Q2t;rw [Q7T (by omega) hf hg hl he,e_numbers (by omega) (by omega)];simp only [zL,not_true_eq_false,if_false,Int.toNat_natCast];have bf:∀ e:Nat,e<f.length→0≤ix f e∧ix f e<n:=fun e h=>Q1o hf (j:=e) (by omega) (by omega);have bg:∀ e:Nat,e<f.length→0≤ix g e∧ix g e<n:=fun e h=>Q1o hg (j:=e) (by omega) (by omega);have hP:=cqL_prs bf bg;have hPl:(cqL f g f.length).length=f.length:=by simp [cqL]
 refine Q3q (σ:=List Int × Int) (Q:=fun o=>o=some (cls (RR (cqL f g f.length)) n,0)) f.length (fun i s=>s.2=(i:Int)∧UF s.1 (RR (cqL f g i)) n) (fun j=>UF j (RR (cqL f g f.length)) n) (by omega) ⟨rfl,UF_id⟩ ?_ ?_ ?_
 ·rintro i ⟨j,k⟩ hi ⟨hk,u⟩
  simp only at hk u;subst hk;left;have b1:=bf i hi;have b2:=bg i hi;have l1:=u.len;obtain ⟨j',d,e1,w⟩:=join_go u (a:=(ix f i).toNat) (b:=(ix g i).toNat) (by omega) (by omega) (by omega);rw [zK b1.1,zK b2.1] at e1;have l2:=w.len;have hs:RR (cqL f g (i+1))=jnr (RR (cqL f g i)) (ix f i).toNat (ix g i).toNat:=by
   have:cqL f g (i+1)=cqL f g i++[[ix f i,ix g i]]:=Q1e _ _;rw [this,RR_snoc];rfl
  simp only;rw [if_pos (by omega),Q9 (by omega),Q9 (by omega)];have hj:∀ {K:List Int × Bool→Option (Ctl (List Int × Int) (List Int))},(joinE j (ix f i) (ix g i)).bind K=K (j',d):=fun {K}=>by rw [e1];rfl
  refine ⟨(j',(i:Int)+1),?_,by push_cast;rfl,by rw [hs];exact w⟩;refine (hj (K:=fun v91=>ass (v91.1.length=j.length) <| ass (B64 ((i:Int)+1)) <| some (Ctl.next (v91.1,(i:Int)+1)))).trans ?_;rw [Q9 (show j'.length=j.length by omega),Q9 (by unfold B64;omega)]
 ·rintro ⟨j,k⟩ ⟨hk,u⟩
  simp only at hk u;subst hk;simp only;rw [if_neg (by omega)];exact ⟨_,rfl,u⟩
 intro j u;have l:=u.len;try simp only
 rw [Q9 (by omega),l];generalize hr:RR (cqL f g f.length)=r at u;rw [Option.bind_assoc];refine Q3q (σ:=List Int × List Int × Int) (Q:=fun o=>o=some (cls r n,0)) n (fun i s=>s.2=(tab i (fun x=>(r x:Int))++qZ (n - i) 0,(i:Int))∧UF s.1 r n) (fun e=>e.2=tab n (fun x=>(r x:Int))∧UF e.1 r n) (by omega) ⟨by simp [Q9d],u⟩ ?_ ?_ ?_
 ·rintro i ⟨j,o,k⟩ hi ⟨hk,u⟩
  simp only [qH] at hk u;obtain ⟨rfl,rfl⟩:=hk;left;obtain ⟨j1,e1,w1⟩:=Q8f i j fuel u hi (by unfold fuel;omega);have l1:=u.len;have l2:=w1.len;simp only;rw [if_pos (by omega),e1];simp only [zL];rw [Q9 (by omega),Q9 (by simp;omega),Q9 (by unfold B64;omega)];refine ⟨_,rfl,?_,w1⟩;refine Prod.ext ?_ (by push_cast;rfl);simp only [Int.toNat_natCast];rw [show n - i=(n - (i+1))+1 by omega,Q5q _ _ _ _ (by simp),Q1e]
 ·rintro ⟨j,o,k⟩ ⟨hk,u⟩
  simp only [qH] at hk u;obtain ⟨rfl,rfl⟩:=hk;simp only;rw [if_neg (by omega)];exact ⟨_,rfl,by simp,u⟩
 rintro ⟨j,o⟩ ⟨ho,u⟩
 try simp only at ho u
 have l1:=u.len;rw [ho];simp only;rw [e_normal (fun x hx=>⟨u.le x hx,u.rr hx⟩) (by omega)];simp only [zL];rw [Q9 (by omega)]
end
end Go.Vc.T
namespace Go.Vc.T
open Go Go.Vc Go.Proofs
attribute [local simp] unk unA unE unT unC flat
noncomputable def QQ (p_:List Int):Option Int :=
 (QK (σ:=Int × Int) (ε:=Int) (fun s6 =>
  if s6.2<(p_.length:Int) then
   ass (0≤s6.2∧s6.2<(p_.length:Int)) <|
   ass (B64 ((ix p_ s6.2)+1)) <|
   ass (B64 (s6.2+1)) <|
   some (Ctl.next ((if (ix p_ s6.2)+1 > s6.1 then (ix p_ s6.2)+1 else s6.1),s6.2+1))
  else
   some (Ctl.ret s6.1)) fuel (0,0)).bind fun b1 =>
 some b1
theorem Q3m [Kd Tryz.prog] (p_:List Int) (r:Int) (h:QQ p_=some r):Contract Tryz.prog 103 [lI p_] (iV r):=by
 refine Qm (rvs:=[.tmp 2]) (rs:=[iV r]) Tryz.func103 rfl rfl rfl rfl (by simp [Tryz.f103]) fun F hN hP=>?_;unfold QQ at h;refine Q3 (runQ hN fun K hK=>?_);simp [eM,eL,eI,Q1];repeat refine sdQ ?_
 refine hK _ ?_;clear hK K;refine tn (Qa (st':=⟨[(0,lI p_)],[],0⟩) (Qn []) (Q3 (runQ hN fun K hK=>?_)));simp [eM,eL,eI,Q1];repeat refine sdQ ?_
 refine hK _ ?_;clear hK K;refine tn (Qa (st':=⟨[(0,lI p_),(3,iV 0)],[],0⟩) (Qn []) (Q3 (Q3 (runQ hN fun K hK=>?_))));simp [eM,eL,eI,Q1];repeat refine sdQ ?_
 refine hK _ (tn (Qa (st':=⟨[(3,iV 0),(6,lI p_),(7,iV (p_.length:Int)),(8,iV 0)],[],0⟩) (Qn []) ?_));clear hK K;replace ⟨e1,h,h1⟩:=bind_some h;refine Qz (fun b1:Int=>⟨[(3,iV b1)],[],0⟩) (fun b1=>b1=e1) ?_ ?_
 ·refine Q6 (QW h (fun s6:Int × Int=>⟨[(3,iV s6.1),(6,lI p_),(7,iV (p_.length:Int)),(8,iV s6.2)],[],0⟩) (Qn []) ?_);clear h;intro k6 s6 c6 h hk6;refine Q3 (runQ hN fun K hK=>?_);simp [eM,eL,eI,Q1];repeat refine sdQ ?_
  refine hK _ ?_;clear hK K;refine tn (Q3 (Q7 rfl (fun g=>?_) fun g=>?_))
  ·have g7:s6.2<(p_.length:Int):=gQ;clear g;replace h:=if_l g7 h;refine Q8 (tn (Q3 (Q6 (Q3 (runQ hN fun K hK=>?_)))));replace ⟨a8,h⟩:=Q5 h;simp [eM,eL,eI,Q1,at_I a8];(repeat refine sdQ ?_);refine hK _ ?_;clear hK K;refine tn (Qa (st':=⟨[(3,iV s6.1),(5,iV (ix p_ s6.2)),(6,lI p_),(7,iV (p_.length:Int)),(8,iV s6.2)],[],0⟩) (Qn []) (runQ hN fun K hK=>?_));replace ⟨a9,h⟩:=Q5 h;simp [eM,eL,eI,Q1,QF a9];(repeat refine sdQ ?_);refine hK _ ?_;clear hK K;refine bn (tn (Qa (st':=⟨[(3,iV (if (ix p_ s6.2)+1 > s6.1 then (ix p_ s6.2)+1 else s6.1)),(6,lI p_),(7,iV (p_.length:Int)),(8,iV s6.2)],[],0⟩) (Qn []) (runQ hN fun K hK=>?_)));replace ⟨a10,h⟩:=Q5 h;simp [eM,eL,eI,Q1,QF a10];(repeat refine sdQ ?_);refine hK _ ?_;clear hK K;cases h;exact rn (s':=((if (ix p_ s6.2)+1 > s6.1 then (ix p_ s6.2)+1 else s6.1),s6.2+1)) hk6 (Qn [])
  have g7:¬ (s6.2<(p_.length:Int)):=gQ;clear g;replace h:=if_r g7 h;refine Qk (tx (lx (bh ?_)));cases h;exact jn (b:=s6.1) hk6 (Qn [])
 intro b1 hb1;have h:=h1;try rw [← hb1] at h
 clear h1;try dsimp only at h
 refine Q3 (runQ hN fun K hK=>?_);simp [eM,eL,eI,Q1];repeat refine sdQ ?_
 refine hK _ (tn (Qa (st':=⟨[(2,iV b1)],[],0⟩) (Qn []) (Qg ?_)));clear hK K;have hr:=zE h;rw [← hr];refine ⟨_,(.tmp .nil),?_⟩;refine ⟨(.one rfl rfl .nil),[iV b1],[],by simp [UA,U1,IA,I1,LA,L1,BA,B1,EA,E1,E2,eB,eI,eL,eM],by simp,(UpL.refl _)⟩
end Go.Vc.T
namespace Go.Vc.T
open Go Go.Vc Go.Proofs
attribute [local simp] unk unA unE unT unC flat
noncomputable def QG (f_:SF) (p_:List (List Int)):Option SF :=
 (Q1m f_.s).bind fun v1 =>
 (QK (σ:=List Int × Int) (ε:=List Int) (fun s8 =>
  if s8.2<(p_.length:Int) then
   ass (0≤s8.2∧s8.2<(p_.length:Int)) <|
   (QQ (rx p_ s8.2)).bind fun v11 =>
   ass ((s8.1++[v11]).length≤1073741824) <|
   ass (B64 (s8.2+1)) <|
   some (Ctl.next (s8.1++[v11],s8.2+1))
  else
   some (Ctl.ret s8.1)) fuel ([],0)).bind fun b2 =>
 (QK (σ:=List (List Int) × Int) (ε:=List (List Int)) (fun s41 =>
  if s41.2<(f_.ac.length:Int) then
   ass (0≤s41.2∧s41.2<(f_.ac.length:Int)) <|
   ass (0≤s41.2∧s41.2<(f_.s.fr.length:Int)) <|
   ass (0≤s41.2∧s41.2<(f_.s.to.length:Int)) <|
   ass (0≤ix f_.s.fr s41.2∧ix f_.s.fr s41.2<(b2.length:Int)) <|
   ass (0≤ix b2 (ix f_.s.fr s41.2)∧ix b2 (ix f_.s.fr s41.2)≤1073741824) <|
   (QK (σ:=List Int × Int) (ε:=List Int) (fun s57 =>
    if s57.2<((rx f_.ac s41.2).length:Int) then
     ass (0≤s57.2∧s57.2<((rx f_.ac s41.2).length:Int)) <|
     ass (0≤ix f_.s.fr s41.2∧ix f_.s.fr s41.2<(p_.length:Int)) <|
     ass (0≤s57.2∧s57.2<((rx p_ (ix f_.s.fr s41.2)).length:Int)) <|
     ass (0≤ix f_.s.to s41.2∧ix f_.s.to s41.2<(p_.length:Int)) <|
     ass (0≤ix (rx f_.ac s41.2) s57.2∧ix (rx f_.ac s41.2) s57.2<((rx p_ (ix f_.s.to s41.2)).length:Int)) <|
     ass (0≤ix (rx p_ (ix f_.s.fr s41.2)) s57.2∧ix (rx p_ (ix f_.s.fr s41.2)) s57.2<(s57.1.length:Int)) <|
     ass (B64 (s57.2+1)) <|
     some (Ctl.next (s57.1.set ((ix (rx p_ (ix f_.s.fr s41.2)) s57.2).toNat) (ix (rx p_ (ix f_.s.to s41.2)) (ix (rx f_.ac s41.2) s57.2)),s57.2+1))
    else
     some (Ctl.ret s57.1)) fuel (qZ ((ix b2 (ix f_.s.fr s41.2)).toNat) 0,0)).bind fun b48 =>
   ass ((s41.1++[b48]).length≤1073741824) <|
   ass (B64 (s41.2+1)) <|
   some (Ctl.next (s41.1++[b48],s41.2+1))
  else
   some (Ctl.ret s41.1)) fuel ([],0)).bind fun b14 =>
 some (⟨v1,b2,b14⟩:SF)
@[simp] abbrev YE (a:Cat) (b:List (AV)):List (AV):=iV a.n::.own 2 0 a.fr.length::.own 3 0 a.to.length::.own 4 0 a.id.length::.own 5 0 a.cs.length::b
@[simp] abbrev YI (a:List (AV)):List (AV):=iV 0::nS::nS::nS::nS::nS::nS::a
@[simp] abbrev Y2 (a:Cat) (b:List Int) (c:List (List Int) × Int) (d:List (Nat × Ent)):List (Nat × Ent):=(0,.mix 7 [(YI [])])::(1,.mix 7 [(YE a [.own 6 0 b.length,.own 7 0 c.1.length])])::(2,rI a.fr)::(3,rI a.to)::(4,rI a.id)::(5,.row 1 (Ls a.cs))::(6,rI b)::(7,.row 1 (Ls c.1))::d
@[simp] abbrev Y8 (a:SF) (b:List (List Int)) (c:List (Nat × AV)):List (Nat × AV):=(0,.rptr (SF.cells true a))::(1,.lst true 1 (Ls b))::(4,.adr 0 0 0)::(5,.adr 1 0 0)::c
@[simp] abbrev Yf (a:Cat) (b:List (Nat × Ent)):List (Nat × Ent):=(2,rI a.fr)::(3,rI a.to)::(4,rI a.id)::(5,.row 1 (Ls a.cs))::b
@[simp] abbrev Yg (a:SF) (b:List (Nat × AV)):List (Nat × AV):=(37,.lst true 1 (Ls a.ac))::(38,iV (a.ac.length:Int))::b
@[simp] abbrev Yi (a:List (Nat × Ent)):List (Nat × Ent):=(0,.mix 7 [(YI [])])::a
@[simp] abbrev Yl (a:SF) (b:List (List Int) × Int) (c:List (Nat × AV)):List (Nat × AV):=(10,iV (ix a.s.fr b.2))::(11,iV (ix a.s.to b.2))::c
@[simp] abbrev Ys (a:Cat) (b:List Int) (c:List (List Int)) (d:List (Nat × Ent)):List (Nat × Ent):=(0,.mix 7 [[iV a.n,.own 1 0 a.fr.length,.own 2 0 a.to.length,.own 3 0 a.id.length,.own 4 0 a.cs.length,.own 5 0 b.length,.own 6 0 c.length]])::(1,rI a.fr)::(2,rI a.to)::(3,rI a.id)::(4,.row 1 (Ls a.cs))::(5,rI b)::(6,.row 1 (Ls c))::d
@[simp] abbrev Yu (a:List (List Int) × Int) (b:SF) (c:List (Nat × AV)):List (Nat × AV):=(39,iV a.2)::(66,lI (rx b.ac a.2))::(67,iV ((rx b.ac a.2).length:Int))::c
@[simp] abbrev Yw (a:List (List Int)) (b:List (Nat × AV)):List (Nat × AV):=(20,.lst true 1 (Ls a))::(21,iV (a.length:Int))::b
theorem Q36 [Kd Tryz.prog] (f_:SF) (p_:List (List Int)) (r:SF) (h:QG f_ p_=some r):Contract Tryz.prog 63 [.rptr (f_.cells true),.lst true 1 (Ls p_)] (.agg (r.cells true)):=by
 refine Qm (rvs:=[.cell 4 34]) (rs:=[.agg (r.cells true)]) Tryz.func63 rfl rfl rfl rfl (by simp [Tryz.f63]) fun F hN hP=>?_;unfold QG at h;refine Q3 (runQ hN fun K hK=>?_);simp [eM,eL,eI,Q1,Qy,Qo,Cat.cells,SF.cells];repeat refine sdQ ?_
 refine hK _ ?_;clear hK K;refine tn (Qa (st':=⟨(0,.rptr (SF.cells true f_))::Yy p_ [(4,.adr 0 0 0)],Yi [],1⟩) (Qn [(0,0)]) (Q3 (runQ hN fun K hK=>?_)));simp [eM,eL,eI,Q1,Qy,Qo,Cat.cells,SF.cells];repeat with_reducible refine sdQ ?_
 replace ⟨v1,hv1,h⟩:=bind_some h;refine Q0 (Q4z _ v1 hv1) (.cons (.preT (by simp [Cat.cells,SF.cells])) .nil) ?_;simp [eM,eL,eI,Q1,Qy,Qo,Cat.cells,SF.cells];repeat refine sdQ ?_
 refine hK _ ?_;clear hK K;refine tn (Qa (st':=⟨Y8 f_ p_ [],Yi ((1,.mix 7 [(YE v1 [nS,nS])])::Yf v1 []),6⟩) (Qn [(0,0),(6,1),(2,2),(3,3),(4,4),(5,5)]) (Q3 (Q3 (runQ hN fun K hK=>?_))));simp [eM,eL,eI,Q1,Qy,Qo,Cat.cells,SF.cells];repeat refine sdQ ?_
 refine hK _ (tn (Qa (st':=⟨Y8 f_ p_ (Yw p_ [(22,iV 0)]),Yi ((1,.mix 7 [(YE v1 [nS,nS])])::Yf v1 []),6⟩) (Q3n 6) ?_));clear hK K;replace ⟨e2,h,h2⟩:=bind_some h;refine Qz (fun b2:List Int=>⟨Y8 f_ p_ [],Yi ((1,.mix 7 [(YE v1 [.own 6 0 b2.length,nS])])::Yf v1 [(6,rI b2)]),7⟩) (fun b2=>b2=e2) ?_ ?_
 ·refine Q6 (QW h (fun s8:List Int × Int=>⟨Y8 f_ p_ (Yw p_ [(22,iV s8.2)]),Yi ((1,.mix 7 [(YE v1 [.own 6 0 s8.1.length,nS])])::Yf v1 [(6,rI s8.1)]),7⟩) (Q65 ⟨Y8 f_ p_ (Yw p_ [(22,iV 0)]),Yi ((1,.mix 7 [(YE v1 [.own 6 0 0,nS])])::Yf v1 [(6,rI [])]),7⟩ (Wk.nils [(6,1)] (by simp) (by simp) (by simp [nlA]) (by simp [entN,nlL,nlA,Cat.cells,SF.cells,UA,U1,IA,I1,LA,L1,BA,B1,EA,E1,E2,eB,eI,eL,eM]) (by simp)) (Q3n 7)) ?_);clear h;intro k8 s8 c8 h hk8;refine Q3 (runQ hN fun K hK=>?_);simp [eM,eL,eI,Q1,Qy,Qo,Cat.cells,SF.cells];repeat refine sdQ ?_
  refine hK _ ?_;clear hK K;refine tn (Q3 (Q7 rfl (fun g=>?_) fun g=>?_))
  ·have g9:s8.2<(p_.length:Int):=gQ;clear g;replace h:=if_l g9 h;refine Q8 (tn (Q3 (Q6 (Q3 (runQ hN fun K hK=>?_)))));replace ⟨a10,h⟩:=Q5 h;simp [eM,eL,eI,Q1,Qy,Qo,Cat.cells,SF.cells,at_L a10];(repeat refine sdQ ?_);refine hK _ ?_;clear hK K;refine tn (Qa (st':=⟨Y8 f_ p_ ((7,lI (rx p_ s8.2))::Yw p_ [(22,iV s8.2)]),Yi ((1,.mix 7 [(YE v1 [.own 6 0 s8.1.length,nS])])::Yf v1 [(6,rI s8.1)]),7⟩) (Q3n 7) (runQ hN fun K hK=>?_));simp [eM,eL,eI,Q1,Qy,Qo,Cat.cells,SF.cells];(repeat with_reducible refine sdQ ?_);replace ⟨v11,hv11,h⟩:=bind_some h;refine Q0 (Q3m _ v11 hv11) (.cons .lst .nil) ?_;replace ⟨a12,h⟩:=Q5 h;(try simp only [qL,qI,zD] at a12);simp [eM,eL,eI,Q1,Qy,Qo,Cat.cells,SF.cells,a12];(repeat refine sdQ ?_);refine hK _ ?_;clear hK K;refine bn (tn (Qa (st':=⟨Y8 f_ p_ (Yw p_ [(22,iV s8.2)]),Yi ((1,.mix 7 [(YE v1 [.own 6 0 ((s8.1++[v11]).length),nS])])::Yf v1 [(6,rI (s8.1++[v11]))]),7⟩) (Qn [(0,0),(1,1),(2,2),(3,3),(4,4),(5,5),(9,6)]) (runQ hN fun K hK=>?_)));replace ⟨a13,h⟩:=Q5 h;simp [eM,eL,eI,Q1,Qy,Qo,Cat.cells,SF.cells,QF a13];(repeat refine sdQ ?_);refine hK _ ?_;clear hK K;cases h;exact rn (s':=(s8.1++[v11],s8.2+1)) hk8 (Q3n 7)
  have g9:¬ (s8.2<(p_.length:Int)):=gQ;clear g;replace h:=if_r g9 h;refine Qk (tx (lx (bh ?_)));cases h;exact jn (b:=s8.1) hk8 (Q3n 7)
 intro b2 hb2;have h:=h2;try rw [← hb2] at h
 clear h2;try dsimp only at h
 refine Q3 (Q3 (runQ hN fun K hK=>?_));simp [eM,eL,eI,Q1,Qy,Qo,Cat.cells,SF.cells];repeat refine sdQ ?_
 refine hK _ (tn (Qa (st':=⟨Y8 f_ p_ (Yg f_ [(39,iV 0)]),Yi ((1,.mix 7 [(YE v1 [.own 6 0 b2.length,nS])])::Yf v1 [(6,rI b2)]),7⟩) (Q3n 7) ?_));clear hK K;replace ⟨e14,h,h14⟩:=bind_some h;refine Qz (fun b14:List (List Int)=>⟨[(4,.adr 0 0 0),(5,.adr 1 0 0)],Yi ((1,.mix 7 [(YE v1 [.own 6 0 b2.length,.own 7 0 b14.length])])::Yf v1 [(6,rI b2),(7,.row 1 (Ls b14))]),8⟩) (fun b14=>b14=e14) ?_ ?_
 ·refine Q6 (QW h (fun s41:List (List Int) × Int=>⟨Y8 f_ p_ (Yg f_ [(39,iV s41.2)]),Y2 v1 b2 s41 [],8⟩) (Q65 ⟨Y8 f_ p_ (Yg f_ [(39,iV 0)]),Yi ((1,.mix 7 [(YE v1 [.own 6 0 b2.length,.own 7 0 0])])::Yf v1 [(6,rI b2),(7,.row 1 (Ls []))]),8⟩ (Wk.nils [(7,1)] (by simp) (by simp) (by simp [nlA]) (by simp [entN,nlL,nlA,Cat.cells,SF.cells,UA,U1,IA,I1,LA,L1,BA,B1,EA,E1,E2,eB,eI,eL,eM]) (by simp)) (Q3n 8)) ?_);clear h;intro k41 s41 c41 h hk41;refine Q3 (runQ hN fun K hK=>?_);simp [eM,eL,eI,Q1,Qy,Qo,Cat.cells,SF.cells];repeat refine sdQ ?_
  refine hK _ ?_;clear hK K;refine tn (Q3 (Q7 rfl (fun g=>?_) fun g=>?_))
  ·have g42:s41.2<(f_.ac.length:Int):=gQ;clear g;replace h:=if_l g42 h;refine Q8 (tn (Q3 (Q6 (Q3 (runQ hN fun K hK=>?_)))));replace ⟨a43,h⟩:=Q5 h;simp [eM,eL,eI,Q1,Qy,Qo,Cat.cells,SF.cells,at_L a43];(repeat refine sdQ ?_);refine hK _ ?_;clear hK K;refine tn (Qa (st':=⟨Y8 f_ p_ ((8,iV s41.2)::(9,lI (rx f_.ac s41.2))::Yg f_ [(39,iV s41.2)]),Y2 v1 b2 s41 [],8⟩) (Q3n 8) (Q3 (runQ hN fun K hK=>?_)));replace ⟨a44,h⟩:=Q5 h;replace ⟨a45,h⟩:=Q5 h;simp [eM,eL,eI,Q1,Qy,Qo,Cat.cells,SF.cells,at_I a44,at_I a45];(repeat refine sdQ ?_);refine hK _ ?_;clear hK K;refine tn (Qa (st':=⟨Y8 f_ p_ ((9,lI (rx f_.ac s41.2))::Yl f_ s41 (Yg f_ [(39,iV s41.2)])),Y2 v1 b2 s41 [],8⟩) (Q3n 8) (Q3 (runQ hN fun K hK=>?_)));replace ⟨a46,h⟩:=Q5 h;replace ⟨a47,h⟩:=Q5 h;simp [eM,eL,eI,Q1,Qy,Qo,Cat.cells,SF.cells,at_I a46];(repeat refine sdQ ?_);refine hK _ ?_;clear hK K;refine tn (Qa (st':=⟨Y8 f_ p_ ((9,lI (rx f_.ac s41.2))::Yl f_ s41 ((12,.own 8 0 ((qZ ((ix b2 (ix f_.s.fr s41.2)).toNat) 0).length))::Yg f_ [(39,iV s41.2)])),Y2 v1 b2 s41 [(8,rI (qZ ((ix b2 (ix f_.s.fr s41.2)).toNat) 0))],9⟩) (Qn [(0,0),(1,1),(2,2),(3,3),(4,4),(5,5),(6,6),(7,7),(9,8)]) (Q3 (Q3 (runQ hN fun K hK=>?_))));simp [eM,eL,eI,Q1,Qy,Qo,Cat.cells,SF.cells];(repeat refine sdQ ?_);refine hK _ (tn ?_);clear hK K
   refine Qa (st':=⟨Y8 f_ p_ (Yl f_ s41 ((12,.own 8 0 ((qZ ((ix b2 (ix f_.s.fr s41.2)).toNat) 0).length))::Yg f_ (Yu s41 f_ [(68,iV 0)]))),Y2 v1 b2 s41 [(8,rI (qZ ((ix b2 (ix f_.s.fr s41.2)).toNat) 0))],9⟩) (Q3n 9) ?_;replace ⟨e48,h,h48⟩:=bind_some h;refine Qz (fun b48:List Int=>⟨Y8 f_ p_ ((12,.own 8 0 b48.length)::Yg f_ [(39,iV s41.2)]),Y2 v1 b2 s41 [(8,rI b48)],9⟩) (fun b48=>b48=e48) ?_ ?_
   ·refine Q6 (QW h (fun s57:List Int × Int=>⟨Y8 f_ p_ (Yl f_ s41 ((12,.own 8 0 s57.1.length)::Yg f_ (Yu s41 f_ [(68,iV s57.2)]))),Y2 v1 b2 s41 [(8,rI s57.1)],9⟩) (Q3n 9) ?_);clear h;intro k57 s57 c57 h hk57;refine Q3 (runQ hN fun K hK=>?_);simp [eM,eL,eI,Q1,Qy,Qo,Cat.cells,SF.cells];(repeat refine sdQ ?_);refine hK _ ?_;clear hK K;refine tn (Q3 (Q7 rfl (fun g=>?_) fun g=>?_))
    ·have g58:s57.2<((rx f_.ac s41.2).length:Int):=gQ;clear g;replace h:=if_l g58 h;refine Q8 (tn (Q3 (Q6 (Q3 (runQ hN fun K hK=>?_)))));replace ⟨a59,h⟩:=Q5 h;simp [eM,eL,eI,Q1,Qy,Qo,Cat.cells,SF.cells,at_I a59];(repeat refine sdQ ?_);refine hK _ ?_;clear hK K;refine tn (Qa (st':=⟨Y8 f_ p_ (Yl f_ s41 ((12,.own 8 0 s57.1.length)::(13,iV s57.2)::(14,iV (ix (rx f_.ac s41.2) s57.2))::Yg f_ (Yu s41 f_ [(68,iV s57.2)]))),Y2 v1 b2 s41 [(8,rI s57.1)],9⟩) (Q3n 9) (runQ hN fun K hK=>?_));replace ⟨a60,h⟩:=Q5 h;replace ⟨a61,h⟩:=Q5 h;replace ⟨a62,h⟩:=Q5 h;replace ⟨a63,h⟩:=Q5 h;replace ⟨a64,h⟩:=Q5 h;simp [eM,eL,eI,Q1,Qy,Qo,Cat.cells,SF.cells,at_L a60,at_I a61,at_L a62,at_I a63,at_I a64];(repeat refine sdQ ?_);refine hK _ ?_;clear hK K;refine bn (tn (Qa (st':=⟨Y8 f_ p_ (Yl f_ s41 ((12,.own 8 0 ((s57.1.set ((ix (rx p_ (ix f_.s.fr s41.2)) s57.2).toNat) (ix (rx p_ (ix f_.s.to s41.2)) (ix (rx f_.ac s41.2) s57.2))).length))::Yg f_ (Yu s41 f_ [(68,iV s57.2)]))),Y2 v1 b2 s41 [(8,rI (s57.1.set ((ix (rx p_ (ix f_.s.fr s41.2)) s57.2).toNat) (ix (rx p_ (ix f_.s.to s41.2)) (ix (rx f_.ac s41.2) s57.2))))],9⟩) (Q3n 9) (runQ hN fun K hK=>?_)));replace ⟨a65,h⟩:=Q5 h;simp [eM,eL,eI,Q1,Qy,Qo,Cat.cells,SF.cells,QF a65];(repeat refine sdQ ?_);refine hK _ ?_;clear hK K;cases h;exact rn (s':=(s57.1.set ((ix (rx p_ (ix f_.s.fr s41.2)) s57.2).toNat) (ix (rx p_ (ix f_.s.to s41.2)) (ix (rx f_.ac s41.2) s57.2)),s57.2+1)) hk57 (Q3n 9)
    have g58:¬ (s57.2<((rx f_.ac s41.2).length:Int)):=gQ;clear g;replace h:=if_r g58 h;refine Qk (tx (lx (bh ?_)));cases h;exact jn (b:=s57.1) hk57 (Q3n 9)
   intro b48 hb48;have h:=h48;(try rw [← hb48] at h);clear h48;(try dsimp only at h);refine runQ hN fun K hK=>?_;replace ⟨a66,h⟩:=Q5 h;(try simp only [qL,qI,zD] at a66);simp [eM,eL,eI,Q1,Qy,Qo,Cat.cells,SF.cells,a66];(repeat refine sdQ ?_);refine hK _ ?_;clear hK K;refine bn (tn (Qa (st':=⟨Y8 f_ p_ (Yg f_ [(39,iV s41.2)]),Yi ((1,.mix 7 [(YE v1 [.own 6 0 b2.length,.own 7 0 ((s41.1++[b48]).length)])])::Yf v1 [(6,rI b2),(7,.row 1 (Ls (s41.1++[b48])))]),8⟩) (Qn [(0,0),(1,1),(2,2),(3,3),(4,4),(5,5),(6,6),(10,7)]) (runQ hN fun K hK=>?_)));replace ⟨a67,h⟩:=Q5 h;simp [eM,eL,eI,Q1,Qy,Qo,Cat.cells,SF.cells,QF a67];(repeat refine sdQ ?_);refine hK _ ?_;clear hK K;cases h;exact rn (s':=(s41.1++[b48],s41.2+1)) hk41 (Q3n 8)
  have g42:¬ (s41.2<(f_.ac.length:Int)):=gQ;clear g;replace h:=if_r g42 h;refine Qk (tx (lx (bh ?_)));cases h;exact jn (b:=s41.1) hk41 (Q3n 8)
 intro b14 hb14;have h:=h14;try rw [← hb14] at h
 clear h14;try dsimp only at h
 refine Q3 (runQ hN fun K hK=>?_);simp [eM,eL,eI,Q1,Qy,Qo,Cat.cells,SF.cells];repeat refine sdQ ?_
 refine hK _ (tn (Qa (st':=⟨[(4,.adr 0 0 0)],Ys v1 b2 b14 [],7⟩) (Qn [(0,0),(2,1),(3,2),(4,3),(5,4),(6,5),(7,6)]) (Qg ?_)));clear hK K;have hr:=zE h;rw [← hr];refine ⟨_,(.cell Qa5 rfl rfl rfl (by simp) (by simp) .nil),?_⟩;refine ⟨(.agg rfl .nil),[iV v1.n,lI v1.fr,lI v1.to,lI v1.id,.lst true 1 (Ls v1.cs),lI b2,.lst true 1 (Ls b14)],[1,2,3,4,5,6],by simp [Cat.cells,SF.cells,UA,U1,IA,I1,LA,L1,BA,B1,EA,E1,E2,eB,eI,eL,eM],by simp,(UpL.refl _)⟩
end Go.Vc.T
