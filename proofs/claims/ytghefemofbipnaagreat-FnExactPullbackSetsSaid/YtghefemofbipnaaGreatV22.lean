/- A part of the proof. -/
import Derived.Test.YtghefemofbipnaaGreatV21
set_option maxRecDepth 100000
set_option maxHeartbeats 4000000
set_option linter.unusedSimpArgs false
set_option linter.unusedVariables false
set_option linter.unusedSectionVars false
set_option linter.unnecessarySimpa false

open Option.some renaming injEq→qA
open List renaming getD_eq_getElem?_getD→qG
open Nat renaming le_refl→qC
open List renaming length_cons→qI
open List renaming length_append→qJ
open Option renaming getD_some→qB
open List renaming length_nil→zE
open Option.some renaming inj→zH
open Classical renaming byContradiction→zI
open List renaming take_succ_eq_append_getElem→zJ
open Nat renaming le_trans→qL
open List renaming range→zG
open Option renaming bind_some→zN
open Nat renaming zero_add→qO
open List renaming replicate→zA
open List renaming getD_cons_zero→qS
open List renaming getElem_mem→zL
open Int renaming toNat_of_nonneg→zM
open List renaming size_toArray→qW
open List renaming all_eq_true→qX
namespace Go.Proofs
open Go Go.Conc Go.ConcN Go.RowKit Go.Conc.Lib Go.Vc Go.Vc.Wg
section
attribute [local simp] Qf QF Qs
open Go.ConcR (KK wgBlock WgAt stA smA rd wr mk Payload DC0)
def Q9S (Wg bT bX:Nat):Deferred:={ target:=.fn (.func 95) #[.pointer (some ⟨Wg,0,none⟩),.pointer (some ⟨bT,0,none⟩),.pointer (some ⟨bX,0,none⟩)],args:=#[] }
theorem born_C (Wg bT bX:Nat) (w:World):stepG Tryz.prog false (born Tryz.prog (Q9S Wg bT bX)) w =
  .go (G ((baseD 95).at ⟨#[.pointer (some ⟨Wg,0,none⟩),.pointer (some ⟨bT,0,none⟩),.pointer (some ⟨bX,0,none⟩),undef,undef,undef],[]⟩ [.code Q9Q]) [botG]) w #[]:=by
 simp [born,Q9S,stepG,unwind,callDeferred,invoke,callFunc,Tryz.func95,Tryz.f95,seen,GStep.after,G,Frame.enter,Frame.at,baseD,botG,Q9Q]
theorem Q89 {Stop:Goroutine→World→Prop} {Wg bT bX fT:Nat} {caps:Array Value} {x:Value} {fn:Func} (v:World) (hT:v.cell? ⟨bT,0,none⟩=some (.func (.func fT) #[] caps)) (hX:v.cell? ⟨bX,0,none⟩=some x)
  (hf : Tryz.prog.funcs[fT]? = some fn) (hne : (fn.name == "runtime.NumGoroutine") = false) (hb : fn.body.isSome = true)
  (hn:∀ v₁,Rly v v₁→To Tryz.prog false Stop (G (Frame.enter Tryz.prog fT (#[x]++caps) .normal) [frC Wg bT bX (.func (.func fT) #[] caps) x,botG]) v₁):To Tryz.prog false Stop (born Tryz.prog (Q9S Wg bT bX)) v:=by
 refine To.ctl rfl (born_C Wg bT bX) ?_;simp only [Q9Q,Tryz.f95,qB];refine To.ctl rfl (fun _=>stepG_seq) ?_;refine To.ctl rfl (fun _=>stepG_region) ?_;simp only [qW,qI,zE,Nat.reduceAdd,qO,zG,List.range.loop];refine To.ctl rfl (fun _=>stepG_defer rfl rfl (by decide) rfl) ?_
 walk_nrm
 refine To.ctl rfl (fun _=>stepG_region_end) ?_;refine To.ctl rfl (fun _=>stepG_region) ?_;simp only [qW,qI,zE,Nat.reduceAdd,qO,zG,List.range.loop];have ag:∀ u,(isAgg 87).run Tryz.prog u = .ok false u:=Tryz.isAgg87;refine To.oper rfl rfl (by decide) (fun v₁ r₁=>⟨(Q2v _ _).bind fun _=>.pure _,.func (.func fT) #[] caps,v₁,?_,?_⟩)
 ·have h1:=r₁.cell hT;simp [execOp,go_sem,Act.eval,h1,ag]
 walk_nrm
 refine To.oper rfl rfl (by decide) (fun v₂ r₂=>⟨(Q2v _ _).bind fun _=>.pure _,x,v₂,?_,?_⟩)
 ·have h1:=r₂.cell (r₁.cell hX);simp [execOp,go_sem,Act.eval,h1]
 walk_nrm
 have hcf:=fun w=>Q1O (P:=Tryz.prog) (args:=#[x]++caps) hf hne hb w;refine To.enter (f:=fT) (args:=#[x]++caps) rfl rfl (by decide) (fun w=>?_) (fun w=>?_) ?_
 ·simp [execOp,go_sem,Act.eval,(hcf w).1]
 ·simp [execOp,go_sem,Act.eval,(hcf w).2]
 have:=hn v₂ (r₁.trans r₂);simp only [frC,opsC,Q9Q,Tryz.f95,qB] at this;exact this
end
end Go.Proofs
namespace Go.Proofs
open Go Go.Conc Go.ConcN Go.RowKit Go.Conc.Lib Go.ConcR.Gen Go.ConcN.Gen Go.Vc Go.Vc.Wg Go.Vc.Ph
section
attribute [local simp] Qf QF Qs
open Go.ConcR (KK wgBlock WgAt stA smA rd wr mk Payload DC0)
noncomputable def Q3f:Code:=Tryz.f60.body.getD .skip
noncomputable def Q48:Code:=match Q3f with|.seq _ (.seq _ (.seq (.seq _ (.block _ (.loop c))) _))=>c|_=>.skip
noncomputable def Q49:Code:=match Q3f with|.seq _ (.seq _ (.seq _ c))=>c|_=>.skip
noncomputable def opsW:Array Oper:=match Q49 with|.region _ ops _=>ops|_=>#[]
section
variable [PS] {cs:List Frame} {Wg bT:Nat} {n:Nat} {tr:Value}
noncomputable def frW (T:Array Value):Frame:=(base 60).at ⟨T,[]⟩ [.inRegion opsW [0]]
noncomputable def gW (cs:List Frame) (T:Array Value):Goroutine:=G ((base 60).at ((⟨T,[]⟩:Act).put ((opsW[0]?).bind (·.dst)) (.tuple #[])) [.inRegion opsW []]) cs
def Q6J (cs:List Frame) (Wg:Nat) (g:Goroutine) (w:World):Prop:=∃ T,AnchW Tryz.link Wg (frW T) cs g w
def EndE (cs:List Frame) (g:Goroutine):Prop:=∃ T,g=gW cs T
noncomputable def gL (cs:List Frame) (T:Array Value):Goroutine:=G ((base 60).at ⟨T,[]⟩ [.code Q48,.inLoop Q48,.inBlock 0,.code Q49]) cs
theorem Q7d (g:Goroutine) (w:World) (h:Q6J cs Wg g w):g.status = .running:=by
 obtain ⟨T,T',rfl,_⟩:=h;rfl
theorem Q9O (g:Goroutine) (w:World) (hl:WgLive 123 Wg w) (h:Q6J cs Wg g w):∃ m,GP Tryz.prog 123 Wg (AtW1 Tryz.prog 123 Wg (Q6J cs Wg) (IsE (EndE cs))) m g w:=by
 obtain ⟨T,h⟩:=h;exact waitRound (mT:=0) (L:=Tryz.link) (Next:=IsE (EndE cs)) (Anch:=Q6J cs Wg) (b₀:=base 60) (a₀:=⟨T,[]⟩) (ops₀:=opsW) (i₀:=0) (rest₀:=[]) (k₀:=[]) (fun g w h=>⟨T,h⟩) Tryz.wgLib (fun w _=>fun w₁ _=>⟨⟨T,rfl⟩,rfl⟩) g w hl h
end
end
end Go.Proofs
namespace Go.Proofs
open Go Go.Conc Go.ConcN Go.RowKit Go.Conc.Lib Go.ConcR.Gen Go.ConcN.Gen Go.Vc Go.Vc.Wg Go.Vc.Ph
section
attribute [local simp] Qf QF Qs
open Go.ConcR (KK wgBlock WgAt stA smA rd wr mk Payload DC0)
theorem array14 (T:Array Value) (h:T.size=14):∃ v0 v1 v2 v3 v4 v5 v6 v7 v8 v9 v10 v11 v12 v13:Value,T = #[v0,v1,v2,v3,v4,v5,v6,v7,v8,v9,v10,v11,v12,v13]:=by
 obtain ⟨l⟩:=T;simp only [qW] at h;iterate 14
  rcases l with _|⟨_,l⟩
  simp at h
 rcases l with _|⟨x,l⟩
 ·exact ⟨_,_,_,_,_,_,_,_,_,_,_,_,_,_,rfl⟩
 simp at h
theorem frz_cell {v:World} {a:Addr} {x:Value} (h:v.cell? a=some x):(frz v).cell? a=some x:=by
 unfold World.cell? at h ⊢;rw [Q2p];cases hv:v.heap[a.block]? with
 | none=>simp [hv] at h
 | some o =>
  rw [hv] at h;cases o<;>first|exact h|(simp at h)
set_option maxRecDepth 100000 in
theorem enterW (Wg:Nat):Frame.enter Tryz.prog Tryz.link.wait #[.pointer (some ⟨Wg,0,none⟩)] .normal=(base Tryz.link.wait).at ⟨#[.pointer (some ⟨Wg,0,none⟩),undef,undef,undef,undef,undef,undef,undef,undef,undef,undef,undef,undef,undef,undef,undef,undef,undef,undef,undef,undef,undef,undef,undef,undef,undef,undef,undef,undef,undef,undef,undef,undef,undef,undef,undef,undef,undef,undef,undef,undef,undef,undef,undef,undef,undef,undef,undef,undef,undef,undef,undef,undef,undef,undef,undef,undef,undef,undef,undef,undef,undef,undef,undef,undef,undef,undef,undef,undef,undef,undef,undef,undef,undef,undef,undef,undef,undef,undef,undef,undef,undef,undef,undef],[]⟩ [.code (body_wait Tryz.link)]:=by
 rw [enter_at _ Tryz.wgLib.f_wait (c:=body_wait Tryz.link) (by simp only [body_wait,waitFn,qB])];simp only [body_wait]
 walk_nrmf waitFn
set_option maxRecDepth 100000 in
theorem enterA (Wg:Nat):Frame.enter Tryz.prog Tryz.link.add #[.pointer (some ⟨Wg,0,none⟩),.int .i64 1] .normal=(base Tryz.link.add).at ⟨#[.pointer (some ⟨Wg,0,none⟩),.int .i64 1,undef,undef,undef,undef,undef,undef,undef,undef,undef,undef,undef,undef,undef,undef,undef,undef,undef,undef,undef,undef,undef,undef,undef,undef,undef,undef,undef,undef,undef,undef,undef,undef,undef,undef,undef,undef,undef,undef,undef,undef,undef,undef,undef,undef,undef,undef,undef,undef,undef,undef,undef,undef,undef,undef,undef,undef,undef,undef,undef,undef,undef,undef,undef,undef,undef,undef,undef,undef,undef,undef,undef,undef,undef,undef,undef,undef,undef,undef,undef,undef,undef,undef,undef,undef,undef,undef,undef,undef,undef,undef,undef,undef,undef,undef,undef,undef,undef,undef,undef,undef,undef,undef,undef,undef,undef,undef,undef,undef,undef,undef,undef,undef,undef,undef,undef],[]⟩ [.code (body_add Tryz.link)]:=by
 rw [enter_at _ Tryz.wgLib.f_add (c:=body_add Tryz.link) (by simp only [body_add,addFn,qB])];simp only [body_add]
 walk_nrmf addFn
noncomputable def Q9U:Code:=match Q48 with|.seq _ (.seq _ (.seq (.block _ (.seq _ c)) _))=>c|_=>.skip
noncomputable def opsA:Array Oper:=match Q9U with|.seq (.region _ ops _) _=>ops|_=>#[]
noncomputable def Q9V:Code:=match Q9U with|.seq _ c=>c|_=>.skip
noncomputable def opsG:Array Oper:=match Q9V with|.region _ ops _=>ops|_=>#[]
noncomputable def Q9W:Code:=match Q48 with|.seq _ (.seq _ (.seq _ c))=>c|_=>.skip
noncomputable def kA:List Item:=[.code Q9V,.inBlock 1,.code Q9W,.inLoop Q48,.inBlock 0,.code Q49]
section
variable [PS] {cs:List Frame} {Wg bT C:Nat} {n:Nat} {tr:Value} {K:Nat→Nat→Value→World→Prop}
set_option maxRecDepth 100000 in
theorem loopE (s : World) (hs : Frzn s) (hn : n < 2147483648) {fT : Nat} {caps : Array Value} (hfT : ∃ fn, Tryz.prog.funcs[fT]? = some fn ∧ (fn.name == "runtime.NumGoroutine") = false ∧ fn.body.isSome = true) (hbT : 0 < n → s.cell? ⟨bT, 0, none⟩ = some (.func (.func fT) #[] caps))
  (hwork:∀ k,k<n→∀ β v bX,s.heap.size≤β→β≤v.heap.size→Ext1 s v→To Tryz.prog false (Q7c Tryz.prog 123 Wg C n K β k) (G (Frame.enter Tryz.prog fT (#[.int .i64 k]++caps) .normal) [frC Wg bT bX (.func (.func fT) #[] caps) (.int .i64 k),botG]) v) :
  ∀ r,r≤n→∀ (T:Array Value) (v:World),Ext1 s v→T.size=14→T[3]? = some (.pointer (some ⟨bT,0,none⟩))→T[4]? = some (.pointer (some ⟨Wg,0,none⟩))→T[6]? = some (.int .i64 n)→T[7]? = some (.int .i64 (n - r:Nat)) →
   To Tryz.prog true (Scr Tryz.prog 123 Wg C n K (Q6J cs Wg) r) (gL cs T) v:=by
 obtain ⟨fn,hfT⟩:=hfT;intro r
 induction r with
 | zero =>
  intro _ T v hv hT t3 t4 t6 t7;obtain ⟨v0,v1,v2,v3,v4,v5,v6,v7,v8,v9,v10,v11,v12,v13,rfl⟩:=array14 T hT;simp only [List.getElem?_toArray,List.getElem?_cons_succ,List.getElem?_cons_zero,qA,Nat.sub_zero] at t3 t4 t6 t7;subst t3 t4 t6 t7;have hnl:¬ ((n:Int)<(n:Int)):=by omega
  simp only [gL,Q48,Q49,Q3f,Tryz.f60,qB];refine To.ctl rfl (fun _=>stepG_seq) ?_;refine To.ctl rfl (fun _=>stepG_region) ?_;simp only [qW,qI,zE,Nat.reduceAdd,qO,zG,List.range.loop];refine To.value (.bool false) rfl rfl (by decide) (fun w=>by simp [execOp,go_sem,Act.eval,hnl]) (fun w=>by simp [execOp,go_sem,Act.eval]) ?_
  walk_nrm
  refine To.ctl rfl (fun _=>stepG_region_end) ?_;refine To.ctl rfl (fun _=>stepG_seq) ?_;refine To.ctl rfl (fun _=>stepG_cond (t:=false) rfl) ?_;simp only [Bool.false_eq_true,if_false,↓reduceIte];refine To.ctl rfl (fun _=>stepG_exit rfl) ?_;refine To.ctl rfl (fun _=>stepG_region) ?_;simp only [qW,qI,zE,Nat.reduceAdd,qO,zG,List.range.loop];have hcf:=fun w=>Q1O (P:=Tryz.prog) (args:=#[.pointer (some ⟨Wg,0,none⟩)]) Tryz.wgLib.f_wait (nm_wait Tryz.link) (by simp [waitFn]) w;refine To.enter (f:=Tryz.link.wait) (args:=#[.pointer (some ⟨Wg,0,none⟩)]) rfl rfl (by decide) (fun w=>?_) (fun w=>?_) ?_
  ·simpa [execOp,go_sem,Act.eval] using (hcf w).1
  ·simpa [execOp,go_sem,Act.eval] using (hcf w).2
  refine To.stop fun v₁ r₁=>⟨rfl,fun w U hl=>⟨6,?_⟩⟩;rw [enterW];have h:=waitStart (L:=Tryz.link) (Anch:=Q6J cs Wg) (b₀:=base 60) (a₀:=⟨#[v0,v1,v2,.pointer (some ⟨bT,0,none⟩),.pointer (some ⟨Wg,0,none⟩),v5,.int .i64 n,.int .i64 n,.bool false,v9,v10,v11,v12,v13],[]⟩) (ops₀:=opsW) (i₀:=0) (rest₀:=[]) (k₀:=[]) (cs:=cs) (fun g w h=>⟨_,h⟩) Tryz.wgLib w hl;simp only [opsW,Q49,Q3f,Tryz.f60,qB] at h;exact h
 | succ r ih =>
  intro hr T v hv hT t3 t4 t6 t7;obtain ⟨v0,v1,v2,v3,v4,v5,v6,v7,v8,v9,v10,v11,v12,v13,rfl⟩:=array14 T hT;simp only [List.getElem?_toArray,List.getElem?_cons_succ,List.getElem?_cons_zero,qA] at t3 t4 t6 t7;subst t3 t4 t6 t7;obtain ⟨i,hi⟩:∃ i,i=n - (r+1):=⟨_,rfl⟩;rw [← hi];have hnl:((i:Int)<(n:Int)):=by omega
  simp only [gL,Q48,Q49,Q3f,Tryz.f60,qB];refine To.ctl rfl (fun _=>stepG_seq) ?_;refine To.ctl rfl (fun _=>stepG_region) ?_;simp only [qW,qI,zE,Nat.reduceAdd,qO,zG,List.range.loop];refine To.value (.bool true) rfl rfl (by decide) (fun w=>by simp [execOp,go_sem,Act.eval,hnl]) (fun w=>by simp [execOp,go_sem,Act.eval]) ?_
  walk_nrm
  refine To.ctl rfl (fun _=>stepG_region_end) ?_;refine To.ctl rfl (fun _=>stepG_seq) ?_;refine To.ctl rfl (fun _=>stepG_cond (t:=true) rfl) ?_;simp only [if_true,↓reduceIte];refine To.ctl rfl (fun _=>stepG_skip) ?_;refine To.ctl rfl (fun _=>stepG_seq) ?_;refine To.ctl rfl (fun _=>stepG_block) ?_;refine To.ctl rfl (fun _=>stepG_seq) ?_;refine To.ctl rfl (fun _=>stepG_region) ?_;simp only [qW,qI,zE,Nat.reduceAdd,qO,zG,List.range.loop];refine To.value (.int .i64 i) rfl rfl (by decide) (fun w=>by simp [execOp,go_sem,Act.eval]) (fun w=>by simp [execOp,go_sem,Act.eval]) ?_
  walk_nrm
  refine To.oper rfl rfl (by decide) (fun v₁ r₁=>⟨(Q6E _).bind fun _=>.pure _,.pointer (some ⟨v₁.heap.size,0,none⟩),{ v₁ with heap:=v₁.heap.push (.cells #[.int .i64 0] 3) },by simp [execOp,go_sem,Act.eval],?_⟩);have hv1:=hv.rly r₁;have hv2:Ext1 s { v₁ with heap:=v₁.heap.push (.cells #[.int .i64 0] 3) }:=⟨by simp;exact Nat.le_succ_of_le hv1.size,fun b hb=>by
   have:=hv1.size;simp only [Array.getElem?_push];rw [if_neg (by omega)];exact hv1.old b hb,hv1.rest⟩
  have hnew:({ v₁ with heap:=v₁.heap.push (.cells #[.int .i64 0] 3) }:World).heap[v₁.heap.size]? = some (.cells #[.int .i64 0] 3):=by simp
  have hbx:s.heap.size≤v₁.heap.size:=hv1.size;generalize hbX:v₁.heap.size=bX at hnew hbx ⊢;generalize ({ v₁ with heap:=v₁.heap.push (.cells #[.int .i64 0] 3) }:World)=u at hv2 hnew ⊢;clear hv hv1 r₁ hbX v₁
  walk_nrm
  refine To.operS rfl rfl (by decide) (fun v₁ r₁=>?_);have hn1:v₁.heap[bX]? = some (.cells #[.int .i64 0] 3):=(r₁.old _ (Array.getElem?_eq_some_iff.1 hnew).1).trans hnew;refine ⟨(Q2I _ _ _).bind fun _=>.pure _,v₁.setCell ⟨bX,0,none⟩ (.int .i64 i),?_,?_⟩
  ·have h1:v₁.cell? ⟨bX,0,none⟩=some (.int .i64 0):=(by simp [World.cell?,hn1]);have h2:v₁.frozen? ⟨bX,0,none⟩=false:=(by simp [World.frozen?,hn1]);simp [execOp,go_sem,Act.eval,stored,h1,h2]
  have hv1:=hv2.rly r₁;have hv3:Ext1 s (v₁.setCell ⟨bX,0,none⟩ (.int .i64 i)):=⟨by simp [World.setCell];exact hv1.size,fun b hb=>by
   simp only [World.setCell,Q2f];rw [if_neg (by show ¬ bX=b;omega)];exact hv1.old b hb,hv1.rest⟩
  have hcx:(v₁.setCell ⟨bX,0,none⟩ (.int .i64 i)).cell? ⟨bX,0,none⟩=some (.int .i64 i):=by simp [World.cell?,World.setCell,Q2f,hn1]
  generalize (v₁.setCell ⟨bX,0,none⟩ (.int .i64 i))=y at hv3 hcx ⊢;clear hv1 hn1 r₁ v₁ hnew hv2 u
  walk_nrm
  refine To.ctl rfl (fun _=>stepG_region_end) ?_;refine To.ctl rfl (fun _=>stepG_seq) ?_;refine To.ctl rfl (fun _=>stepG_region) ?_;simp only [qW,qI,zE,Nat.reduceAdd,qO,zG,List.range.loop];have hcf:=fun w=>Q1O (P:=Tryz.prog) (args:=#[.pointer (some ⟨Wg,0,none⟩),.int .i64 1]) Tryz.wgLib.f_add (nm_add Tryz.link) (by simp [addFn]) w;refine To.enter (f:=Tryz.link.add) (args:=#[.pointer (some ⟨Wg,0,none⟩),.int .i64 1]) rfl rfl (by decide) (fun w=>?_) (fun w=>?_) ?_
  ·simpa [execOp,go_sem,Act.eval] using (hcf w).1
  ·simpa [execOp,go_sem,Act.eval] using (hcf w).2
  clear hcf;refine To.stop fun v₁ r₁=>?_;have hv4:=hv3.rly r₁;have hcx1:=r₁.cell hcx;clear hv3 hcx r₁ y;rw [enterA];refine ⟨rfl,?_⟩;have way:To Tryz.prog true (AtGo Tryz.prog 123 Wg C n K r (Scr Tryz.prog 123 Wg C n K (Q6J cs Wg) r)) (G ((base 60).at ((⟨#[v0,v1,v2,.pointer (some ⟨bT,0,none⟩),.pointer (some ⟨Wg,0,none⟩),.pointer (some ⟨bX,0,none⟩),.int .i64 n,.int .i64 i,.bool true,.int .i64 i,v10,v11,v12,v13],[]⟩:Act).put ((opsA[0]?).bind (·.dst)) (.tuple #[])) (.inRegion opsA [] :: kA)) cs) v₁:=by
   simp only [opsA,kA,Q9U,Q9V,Q9W,Q48,Q49,Q3f,Tryz.f60,qB]
   walk_nrm
   refine To.ctl rfl (fun _=>stepG_region_end) ?_;refine To.ctl rfl (fun _=>stepG_region) ?_;simp only [qW,qI,zE,Nat.reduceAdd,qO,zG,List.range.loop];refine To.value (.func (.func 95) #[] #[.pointer (some ⟨Wg,0,none⟩),.pointer (some ⟨bT,0,none⟩),.pointer (some ⟨bX,0,none⟩)]) rfl rfl (by decide) (fun w=>by simp [execOp,go_sem,Act.eval]<;>rfl) (fun w=>by simp [execOp,go_sem,Act.eval]<;>rfl) ?_
   walk_nrm
   refine To.stop fun v₂ r₂=>?_;have hv5:=hv4.rly r₂;have hcx2:=r₂.cell hcx1;refine ⟨rfl,G ((base 60).at ⟨#[v0,v1,v2,.pointer (some ⟨bT,0,none⟩),.pointer (some ⟨Wg,0,none⟩),.pointer (some ⟨bX,0,none⟩),.int .i64 n,.int .i64 i,.bool true,.int .i64 i,.tuple #[],.func (.func 95) #[] #[.pointer (some ⟨Wg,0,none⟩),.pointer (some ⟨bT,0,none⟩),.pointer (some ⟨bX,0,none⟩)],v12,v13],[]⟩ (.inRegion opsG [] :: [.inBlock 1,.code Q9W,.inLoop Q48,.inBlock 0,.code Q49])) cs,born Tryz.prog (Q9S Wg bT bX),fun w U=>?_,rfl,?_,?_⟩
   ·rw [stepG_spawn (b:=base 60) (d:=Q9S Wg bT bX) (w':=w) (f:=.func 95) (c:=#[.pointer (some ⟨Wg,0,none⟩),.pointer (some ⟨bT,0,none⟩),.pointer (some ⟨bX,0,none⟩)]) rfl rfl (by decide) (by simp [execOp,go_sem,Act.eval,Q9S,Deferred.ofValue]) rfl];simp only [opsG,Q9V,Q9U,Q9W,Q48,Q49,Q3f,Tryz.f60,qB];simp [listed,execOp,go_sem,Act.eval,seen,Deferred.ofValue];rfl
   ·rw [← hi];have hvf:=hv5.frz hs;refine Q89 (caps:=caps) (fT:=fT) (x:=.int .i64 i) _ ?_ ?_ hfT.1 hfT.2.1 hfT.2.2 fun v₃ r₃=>?_
    ·have hbT':=hbT (by omega);exact (Q2n (hvf.old bT (Q2U hbT'))).trans hbT'
    ·exact frz_cell hcx2
    exact hwork i (by omega) _ v₃ bX hv5.size (by have:=r₃.size;rw [frz_size] at this;exact this) (hvf.rly r₃)
   have hvf:=hv5.frz hs;simp only [opsG,Q9V,Q9U,Q9W,Q48,Q49,Q3f,Tryz.f60,qB];refine To.ctl rfl (fun _=>stepG_region_end) ?_;refine To.ctl rfl (fun _=>stepG_inBlock) ?_;refine To.ctl rfl (fun _=>stepG_region) ?_;simp only [qW,qI,zE,Nat.reduceAdd,qO,zG,List.range.loop];have e1:IntKind.i64.wrap ((i:Int)+1)=((n - r:Nat):Int):=(by rw [IntKind.wrap_i64];omega);refine To.value (.int .i64 (n - r:Nat)) rfl rfl (by decide) (fun w=>by simp [execOp,go_sem,Act.eval,e1]) (fun w=>by simp [execOp,go_sem,Act.eval]) ?_
   walk_nrm
   refine To.value (.int .i64 (n - r:Nat)) rfl rfl (by decide) (fun w=>by simp [execOp,go_sem,Act.eval]) (fun w=>by simp [execOp,go_sem,Act.eval]) ?_
   walk_nrm
   refine To.ctl rfl (fun _=>stepG_region_end) ?_;refine To.ctl rfl (fun _=>stepG_inLoop) ?_;have:=ih (by omega) #[v0,v1,v2,.pointer (some ⟨bT,0,none⟩),.pointer (some ⟨Wg,0,none⟩),.pointer (some ⟨bX,0,none⟩),.int .i64 n,.int .i64 (n - r:Nat),.bool true,.int .i64 i,.tuple #[],.func (.func 95) #[] #[.pointer (some ⟨Wg,0,none⟩),.pointer (some ⟨bT,0,none⟩),.pointer (some ⟨bX,0,none⟩)],.int .i64 (n - r:Nat),v13] _ hvf (by rfl) (by rfl) (by rfl) (by rfl) (by rfl);simp only [gL,Q48,Q49,Q3f,Tryz.f60,qB] at this;exact this
  obtain ⟨T1,way⟩:=way;refine ⟨_,T1,fun w U hl=>⟨20,?_⟩,way⟩;have h:=addPos (L:=Tryz.link) (Next:=Is (G ((base 60).at ((⟨#[v0,v1,v2,.pointer (some ⟨bT,0,none⟩),.pointer (some ⟨Wg,0,none⟩),.pointer (some ⟨bX,0,none⟩),.int .i64 n,.int .i64 i,.bool true,.int .i64 i,v10,v11,v12,v13],[]⟩:Act).put ((opsA[0]?).bind (·.dst)) (.tuple #[])) (.inRegion opsA [] :: kA)) cs)) (mT:=0) (b₀:=base 60) (a₀:=⟨#[v0,v1,v2,.pointer (some ⟨bT,0,none⟩),.pointer (some ⟨Wg,0,none⟩),.pointer (some ⟨bX,0,none⟩),.int .i64 n,.int .i64 i,.bool true,.int .i64 i,v10,v11,v12,v13],[]⟩) (ops₀:=opsA) (i₀:=0) (rest₀:=[]) (k₀:=kA) (cs:=cs) Tryz.wgLib (fun w _=>fun w₁ _=>⟨rfl,rfl⟩) w hl;simp only [opsA,kA,Q9U,Q9V,Q9W,Q48,Q49,Q3f,Tryz.f60,qB] at h ⊢;exact h
end
end
end Go.Proofs
namespace Go.Proofs
open Go Go.Conc Go.ConcN Go.RowKit Go.Conc.Lib Go.ConcR.Gen Go.ConcN.Gen Go.Vc Go.Vc.Wg Go.Vc.Ph
section
attribute [local simp] Qf QF Qs
open Go.ConcR (KK wgBlock WgAt stA smA rd wr mk Payload DC0)
noncomputable def codeS:Code:=match Q3f with|.seq _ (.seq c _)=>c|_=>.skip
noncomputable def opsS:Array Oper:=match codeS with|.region _ ops _=>ops|_=>#[]
noncomputable def codeR:Code:=match Q3f with|.seq _ (.seq _ c)=>c|_=>.skip
section
variable [PS] {cs:List Frame} {C:Nat→Nat} {n:Nat} {K:Nat→Nat→Value→World→Prop} {Post:Value→World→Prop} {W0:World} {S0:Nat→Prop} {fT:Nat} {caps:Array Value}
set_option maxRecDepth 100000 in
theorem eoCall (hn : n < 2147483648) (hK : ∀ β k val v v', Rly v v' → K β k val v → K β k val v') (v : World) (hC : ∀ v₁ bT, Ext0 v v₁ → v.heap.size ≤ bT → v₁.heap[bT]? = some (.cells #[.func (.func fT) #[] caps] 87) → PayAt (C bT) PS.z v₁ ∧ (0 < n → C bT ≠ bT)) (hfT : ∃ fn, Tryz.prog.funcs[fT]? = some fn ∧ (fn.name == "runtime.NumGoroutine") = false ∧ fn.body.isSome = true)
  (hwork:∀ v₁ bT,Ext0 v v₁→∀ k,k<n→∀ β u bX,v₁.heap.size+1≤β→β≤u.heap.size→Ext1 (Go.Vc.Ph.start v₁ (C bT)) u→To Tryz.prog false (Q7c Tryz.prog 123 v₁.heap.size (C bT) n K β k) (G (Frame.enter Tryz.prog fT (#[.int .i64 k]++caps) .normal) [frC v₁.heap.size bT bX (.func (.func fT) #[] caps) (.int .i64 k),botG]) u)
  (hk:∀ v₁ bT v₂ fr,Ext0 v v₁→v.heap.size≤bT→bT<v₁.heap.size→Brought K (C bT) n v₁ v₂→fr.fn=60→fr.leaving Tryz.prog v₂ (.returned (.tuple #[]))→TM Tryz.prog W0 S0 Post (G fr cs) v₂) :
  TM Tryz.prog W0 S0 Post (G (Frame.enter Tryz.prog 60 #[.int .i64 n,.func (.func fT) #[] caps] .normal) cs) v:=by
 letI:Kd Tryz.prog:=KdM Tryz.prog W0 S0 Post
 have hT:Kd.adm Tryz.prog (TM Tryz.prog W0 S0 Post):=rfl;rw [enter_at _ Tryz.func60 (c:=Q3f) (by simp only [Q3f,Tryz.f60,qB])];simp only [Q3f]
 walk_nrmf Tryz.f60
 refine Kd.ctl hT rfl (fun _=>stepG_seq) ?_;refine Kd.ctl hT rfl (fun _=>stepG_region) ?_;simp only [qW,qI,zE,Nat.reduceAdd,qO,zG,List.range.loop];refine koper hT rfl rfl (by decide) (fun v₁ r₁=>⟨(Q75 _ _).bind fun _=>.pure _,.pointer (some ⟨v₁.heap.size,0,none⟩),{ v₁ with heap:=v₁.heap.push (.cells #[.func (.func fT) #[] caps] 87) },by simp [execOp,go_sem,Act.eval],?_⟩)
 walk_nrm
 refine Kd.ctl hT rfl (fun _=>stepG_region_end) ?_;refine Kd.ctl hT rfl (fun _=>stepG_seq) ?_;refine Kd.ctl hT rfl (fun _=>stepG_region) ?_;simp only [qW,qI,zE,Nat.reduceAdd,qO,zG,List.range.loop];refine tm_phase (ty:=123) (C:=C v₁.heap.size) (n:=n) (K:=K) hn hK rfl fun v₂ r₂=>?_;have x1:Ext0 v { v₁ with heap:=v₁.heap.push (.cells #[.func (.func fT) #[] caps] 87) }:=⟨by simp;exact Nat.le_succ_of_le r₁.size,fun b hb=>by
  have:=r₁.size;simp only [Array.getElem?_push];rw [if_neg (by omega)];exact r₁.old b hb,r₁.tape,r₁.os,r₁.output,r₁.drawn⟩
 have x2:=x1.rly r₂;have hbT:v₂.heap[v₁.heap.size]? = some (.cells #[.func (.func fT) #[] caps] 87):=by rw [r₂.old _ (by simp)];simp
 have hbv:v.heap.size≤v₁.heap.size:=r₁.size;generalize v₁.heap.size=bT at hbT hbv ⊢;clear x1 r₂ r₁ v₁;obtain ⟨hC2,hCne⟩:=hC v₂ bT x2 hbv hbT;have hClt:C bT<v₂.heap.size:=by obtain ⟨c0,h1,_⟩:=hC2;exact (Array.getElem?_eq_some_iff.1 h1).1
 have hbl:bT<v₂.heap.size:=(Array.getElem?_eq_some_iff.1 hbT).1;have hw:=hwork v₂ bT x2;have way:=loopE (cs:=cs) (Wg:=v₂.heap.size) (bT:=bT) (C:=C bT) (n:=n) (K:=K) (Go.Vc.Ph.start v₂ (C bT)) (Qa2 v₂ (C bT)) hn hfT (caps:=caps) (by
   intro hn0;have hne:=hCne hn0;have h1:(Go.Vc.Ph.start v₂ (C bT)).heap[bT]? = some (frzO (.cells #[.func (.func fT) #[] caps] 87)):=by
    rw [Q1w (by omega) (by omega),if_neg (by omega),if_neg (by omega),Q2p,hbT];rfl
   simp [World.cell?,h1,frzO]) (fun k hk β u bX h1 h2 h3=>hw k hk β u bX (by rw [Q2X] at h1;exact h1) h2 h3) n (qC _) #[.int .i64 n,.func (.func fT) #[] caps,undef,.pointer (some ⟨bT,0,none⟩),.pointer (some ⟨v₂.heap.size,0,none⟩),undef,.int .i64 n,.int .i64 0,undef,undef,undef,undef,undef,undef] (Go.Vc.Ph.start v₂ (C bT)) ⟨qC _,fun _ _=>rfl,rfl,rfl,rfl,qC _⟩ rfl rfl rfl rfl (by simp)
 have way2:To Tryz.prog true (Scr Tryz.prog 123 v₂.heap.size (C bT) n K (Q6J cs v₂.heap.size) n) (G ((base 60).at ⟨#[.int .i64 n,.func (.func fT) #[] caps,undef,.pointer (some ⟨bT,0,none⟩),.pointer (some ⟨v₂.heap.size,0,none⟩),undef,undef,undef,undef,undef,undef,undef,undef,undef],[]⟩ [.inRegion opsS [],.code codeR]) cs) (Go.Vc.Ph.start v₂ (C bT)):=by
  simp only [gL,opsS,codeR,Q48,Q49,Q3f,Tryz.f60,qB] at way ⊢;refine To.ctl rfl (fun _=>stepG_region_end) ?_;refine To.ctl rfl (fun _=>stepG_seq) ?_;refine To.ctl rfl (fun _=>stepG_seq) ?_;refine To.ctl rfl (fun _=>stepG_region) ?_;simp only [qW,qI,zE,Nat.reduceAdd,qO,zG,List.range.loop];refine To.value (.int .i64 n) rfl rfl (by decide) (fun w=>by simp [execOp,go_sem,Act.eval]) (fun w=>by simp [execOp,go_sem,Act.eval]) ?_
  walk_nrm
  refine To.value (.int .i64 0) rfl rfl (by decide) (fun w=>by simp [execOp,go_sem,Act.eval]) (fun w=>by simp [execOp,go_sem,Act.eval]) ?_
  walk_nrm
  refine To.ctl rfl (fun _=>stepG_region_end) ?_;refine To.ctl rfl (fun _=>stepG_block) ?_;refine To.ctl rfl (fun _=>stepG_loop) ?_;exact way
 obtain ⟨Tr,way2⟩:=way2;refine ⟨_,Q6J cs v₂.heap.size,EndE cs,Tr,fun w U=>?_,hC2,Q7d,Q9O,way2,fun v₃ hb g hg=>?_⟩
 ·have ez:∀ w,(zeroValue 123).run Tryz.prog w = .ok (.agg #[.int .u64 0,.int .u32 0]) w:=Tryz.zeroValue123;rw [stepG_value (b:=base 60) (v:=.pointer (some ⟨v₂.heap.size,0,none⟩)) (w':={ w with heap:=w.heap.push (wgBlock 123 0 0) }) rfl rfl (by decide) (by simp [execOp,go_sem,Act.eval,ez,wgBlock,U.size])];simp only [opsS,codeR,Q3f,Tryz.f60,qB];simp [listed,execOp,go_sem,Act.eval,seen];exact ⟨rfl,rfl⟩
 obtain ⟨T,rfl⟩:=hg;simp only [gW,opsW,Q49,Q3f,Tryz.f60,qB];refine Kd.ctl hT rfl (fun _=>stepG_region_end) ?_;refine Kd.ctl hT rfl (fun _=>stepG_end) ?_;exact hk v₂ bT v₃ _ x2 hbv hbl hb rfl ⟨rfl,rfl,rfl,Tryz.f60,Tryz.func60,by simp [results,Tryz.f60]⟩
end
end
end Go.Proofs
namespace Go.Proofs
open Go Go.Conc Go.ConcN Go.RowKit Go.Conc.Lib Go.ConcR.Gen Go.ConcN.Gen Go.Vc Go.Vc.Wg Go.Vc.Ph
section
attribute [local simp] Qf QF Qs
open Go.ConcR (KK wgBlock WgAt stA smA rd wr mk Payload DC0)
noncomputable def Q2N:Code:=Tryz.f114.body.getD .skip
noncomputable def opsT:Array Oper:=match Q2N with|.region _ ops _=>ops|_=>#[]
theorem rdy (b0 b1 b2 b3 b4 b5:Bool):Region.ready .any opsT #[b0,b1,b2,b3,b4,b5,false] ≠ [] ∧
  ∀ i∈Region.ready .any opsT #[b0,b1,b2,b3,b4,b5,false],(i=0∧b0=false)∨(i=1∧b1=false)∨(i=2∧b2=false)∨(i=3∧b3=false)∨(i=4∧b4=false∧b2=true∧b3=true)∨(i=5∧b5=false∧b0=true∧b1=true)∨(i=6∧b4=true∧b5=true):=by
 simp only [opsT,Q2N,Tryz.f114,qB];cases b0<;>cases b1<;>cases b2<;>cases b3<;>cases b4<;>cases b5<;>decide +kernel
def cnt6 (b0 b1 b2 b3 b4 b5:Bool):Nat:=(if b0 then 0 else 1)+(if b1 then 0 else 1)+(if b2 then 0 else 1)+(if b3 then 0 else 1)+(if b4 then 0 else 1)+(if b5 then 0 else 1)
def IT (s:World) (K:Nat→Nat→Value→World→Prop) (β k bA xA bEl C n cap:Nat) (fv:Value) (d:Nat) (l:Array Bool) (a:Act) (w:World):Prop :=
 ∃ b0 b1 b2 b3 b4 b5 x4 x5 x6 x7 x8 x9,l = #[b0,b1,b2,b3,b4,b5,false]∧d=cnt6 b0 b1 b2 b3 b4 b5∧a=⟨#[.int .i64 k,.pointer (some ⟨bA,xA,none⟩),.pointer (some ⟨bEl,0,none⟩),undef,x4,x5,x6,x7,x8,x9],[]⟩∧Ext1 s w∧β≤w.heap.size ∧
  (b0=true→x4 = .slice (some ⟨C,0,none⟩) n cap)∧(b1=true→x5 = .int .i64 k)∧(b2=true→x6=fv)∧(b3=true→x7 = .int .i64 k)∧(b4=true→(b2=true∧b3=true)∧K β k x8 w)∧(b5=true→(b0=true∧b1=true)∧x9 = .pointer (some ⟨C,k,none⟩))
section
variable [PS] {s:World} {K:Nat→Nat→Value→World→Prop} {β k bA xA bEl C n cap Wg bT bX fAt:Nat} {capsAt:Array Value} {f x:Value}
set_option maxRecDepth 100000 in
theorem QaH (hkn:k<n) (hkz:k<PS.z) (hKr:∀ {val v v'},Rly v v'→K β k val v→K β k val v') (hKs:∀ {val v},K β k val v→∃ a m c,val = .slice a m c) (hA:s.cell? ⟨bA,xA,none⟩=some (.func (.func fAt) #[] capsAt)) (hE:s.cell? ⟨bEl,0,none⟩=some (.slice (some ⟨C,0,none⟩) n cap)) (u:World) (hu:Ext1 s u) (hβ:β≤u.heap.size)
  (hat:∀ u₁,Ext1 s u₁→β≤u₁.heap.size→@Callz Tryz.prog (KdG Tryz.prog false) fAt (#[.int .i64 k]++capsAt) u₁ fun e u₂=>∃ v,e = .returned v∧Ext1 s u₂∧u₁.heap.size≤u₂.heap.size∧K β k v u₂)
  (hfA : ∃ fn, Tryz.prog.funcs[fAt]? = some fn ∧ (fn.name == "runtime.NumGoroutine") = false ∧ fn.body.isSome = true) :
  To Tryz.prog false (Q7c Tryz.prog 123 Wg C n K β k) (G (Frame.enter Tryz.prog 114 (#[.int .i64 k]++#[.pointer (some ⟨bA,xA,none⟩),.pointer (some ⟨bEl,0,none⟩)]) .normal) [frC Wg bT bX f x,botG]) u:=by
 letI:Kd Tryz.prog:=KdG Tryz.prog false
 have hT:Kd.adm Tryz.prog (To Tryz.prog false (Q7c Tryz.prog 123 Wg C n K β k)):=⟨_,rfl⟩;rw [enter_at _ Tryz.func114 (c:=Q2N) (by simp only [Q2N,Tryz.f114,qB])];simp only [Q2N]
 walk_nrmf Tryz.f114
 refine Q8w hT (by rfl) fun w₁ r₁ t=>?_;have hu1:Ext1 s w₁.drew:=(hu.rly r₁).rly (.at (Nat.le_succ _));have hβ1:β≤w₁.drew.heap.size:=qL hβ r₁.size;have eR:∀ (l:Array Bool),Region.ready .any opsT l=Region.ready .any opsT l:=fun _=>rfl;refine any_last hT (ops:=opsT) (last:=6) (by decide) (IT s K β k bA xA bEl C n cap (.func (.func fAt) #[] capsAt)) ?_ ?_ ?_ ?_ 6 7 t _ _ _ (by decide) ⟨false,false,false,false,false,false,_,_,_,_,_,_,rfl,rfl,rfl,hu1,hβ1,nofun,nofun,nofun,nofun,nofun,nofun⟩
 ·rintro d l a w ⟨b0,b1,b2,b3,b4,b5,_,_,_,_,_,_,rfl,_⟩
  exact (rdy b0 b1 b2 b3 b4 b5).1
 ·rintro l a w i ⟨b0,b1,b2,b3,b4,b5,_,_,_,_,_,_,rfl,hd,_⟩ hi
  rcases (rdy b0 b1 b2 b3 b4 b5).2 i hi with ⟨rfl,rfl⟩|⟨rfl,rfl⟩|⟨rfl,rfl⟩|⟨rfl,rfl⟩|⟨rfl,rfl,_⟩|⟨rfl,rfl,_⟩|⟨rfl,_⟩<;>first|rfl|(simp [cnt6] at hd;try omega)
 ·rintro d l a w i ⟨b0,b1,b2,b3,b4,b5,x4,x5,x6,x7,x8,x9,rfl,hd,rfl,he,hb,h0,h1,h2,h3,h4,h5⟩ hi hne w₂ r₂
  have he2:=he.rly r₂;have hb2:β≤w₂.heap.size:=qL hb r₂.size;rcases (rdy b0 b1 b2 b3 b4 b5).2 i hi with ⟨rfl,rfl⟩|⟨rfl,rfl⟩|⟨rfl,rfl⟩|⟨rfl,rfl⟩|⟨rfl,rfl,rfl,rfl⟩|⟨rfl,rfl,rfl,rfl⟩|⟨rfl,_⟩
  ·have c1:=(Q2n (he2.old bEl (Q2U hE))).trans hE;refine Q4x (x:=.slice (some ⟨C,0,none⟩) n cap) (w':=w₂) rfl rfl (((Q2v _ _).bind fun _=>.pure _).at _) (by simp [opsT,Q2N,Tryz.f114,execOp,go_sem,Act.eval,c1]) ?_;exact ⟨true,b1,b2,b3,b4,b5,_,_,_,_,_,_,rfl,by simp [cnt6] at hd ⊢;omega,by simp [opsT,Q2N,Tryz.f114,Act.put],he2,hb2,fun _=>rfl,h1,h2,h3,fun e=>⟨(h4 e).1,hKr r₂ (h4 e).2⟩,fun e=>⟨⟨rfl,(h5 e).1.2⟩,(h5 e).2⟩⟩
  ·refine Q4x (x:=.int .i64 k) (w':=w₂) rfl rfl ((Tame.pure _).at _) (by simp [opsT,Q2N,Tryz.f114,execOp,go_sem,Act.eval]) ?_;exact ⟨b0,true,b2,b3,b4,b5,_,_,_,_,_,_,rfl,by simp [cnt6] at hd ⊢;omega,by simp [opsT,Q2N,Tryz.f114,Act.put],he2,hb2,h0,fun _=>rfl,h2,h3,fun e=>⟨(h4 e).1,hKr r₂ (h4 e).2⟩,fun e=>⟨⟨(h5 e).1.1,rfl⟩,(h5 e).2⟩⟩
  ·have c1:=(Q2n (he2.old bA (Q2U hA))).trans hA;refine Q4x (x:=.func (.func fAt) #[] capsAt) (w':=w₂) rfl rfl (((Q2v _ _).bind fun _=>.pure _).at _) (by simp [opsT,Q2N,Tryz.f114,execOp,go_sem,Act.eval,c1]) ?_;exact ⟨b0,b1,true,b3,b4,b5,_,_,_,_,_,_,rfl,by simp [cnt6] at hd ⊢;omega,by simp [opsT,Q2N,Tryz.f114,Act.put],he2,hb2,h0,h1,fun _=>rfl,h3,fun e=>⟨⟨rfl,(h4 e).1.2⟩,hKr r₂ (h4 e).2⟩,h5⟩
  ·refine Q4x (x:=.int .i64 k) (w':=w₂) rfl rfl ((Tame.pure _).at _) (by simp [opsT,Q2N,Tryz.f114,execOp,go_sem,Act.eval]) ?_;exact ⟨b0,b1,b2,true,b4,b5,_,_,_,_,_,_,rfl,by simp [cnt6] at hd ⊢;omega,by simp [opsT,Q2N,Tryz.f114,Act.put],he2,hb2,h0,h1,h2,fun _=>rfl,fun e=>⟨⟨(h4 e).1.1,rfl⟩,hKr r₂ (h4 e).2⟩,h5⟩
  ·obtain rfl:=h2 rfl;obtain rfl:=h3 rfl;obtain ⟨fn,f1,f2,f3⟩:=hfA;have hcf:=fun w=>Q1O (P:=Tryz.prog) (args:=#[.int .i64 k]++capsAt) f1 f2 f3 w;refine wpOp_call (f:=fAt) (args:=#[.int .i64 k]++capsAt) rfl rfl ?_ (by simpa [opsT,Q2N,Tryz.f114,execOp,go_sem,Act.eval] using (hcf w₂).1) ((hat w₂ he2 hb2).mono ?_)
   ·exact Q1E rfl rfl rfl ⟨fn,f1,f2,f3⟩
   rintro e u₂ ⟨v,he,hv1,hv2,hv3⟩
   refine ⟨v,he,?_⟩;exact ⟨b0,b1,true,true,true,b5,_,_,_,_,_,_,rfl,by simp [cnt6] at hd ⊢;omega,by simp [opsT,Q2N,Tryz.f114,Act.put],hv1,qL hb2 hv2,h0,h1,fun _=>rfl,fun _=>rfl,fun _=>⟨⟨rfl,rfl⟩,hv3⟩,h5⟩
  ·obtain rfl:=h0 rfl;obtain rfl:=h1 rfl;refine Q4x (x:=.pointer (some ⟨C,k,none⟩)) (w':=w₂) rfl rfl ?_ (by simp [opsT,Q2N,Tryz.f114,execOp,go_sem,Act.eval,hkn]) ?_
   ·exact ((Q53 _ _ _).bind fun _=>.pure _).at _
   exact ⟨true,true,b2,b3,b4,true,_,_,_,_,_,_,rfl,by simp [cnt6] at hd ⊢;omega,by simp [opsT,Q2N,Tryz.f114,Act.put],he2,hb2,fun _=>rfl,fun _=>rfl,h2,h3,fun e=>⟨(h4 e).1,hKr r₂ (h4 e).2⟩,fun _=>⟨⟨rfl,rfl⟩,rfl⟩⟩
  exact absurd rfl hne
 rintro d l a w ⟨b0,b1,b2,b3,b4,b5,x4,x5,x6,x7,x8,x9,rfl,hd,rfl,he,hb,h0,h1,h2,h3,h4,h5⟩ hi fuel t'
 have h45:b4=true∧b5=true:=by rcases (rdy b0 b1 b2 b3 b4 b5).2 6 hi with ⟨e,_⟩|⟨e,_⟩|⟨e,_⟩|⟨e,_⟩|⟨e,_⟩|⟨e,_⟩|⟨_,e⟩<;>first|exact e|(exact absurd e (by decide))
 obtain ⟨rfl,rfl⟩:=h45;obtain ⟨⟨rfl,rfl⟩,hK⟩:=h4 rfl;obtain ⟨⟨rfl,rfl⟩,rfl⟩:=h5 rfl;obtain ⟨xa,xm,xc,rfl⟩:=hKs hK;have hnil:Region.ready .any opsT ((#[true,true,true,true,true,true,false]:Array Bool).setIfInBounds 6 true)=[]:=by
  simp only [opsT,Q2N,Tryz.f114,qB];decide +kernel
 rw [Q6T hnil];refine To.stop fun v₁ r₁=>⟨rfl,⟨hkn,hkz⟩,.slice xa xm xc,G ((base 114).at ⟨#[.int .i64 k,.pointer (some ⟨bA,xA,none⟩),.pointer (some ⟨bEl,0,none⟩),undef,x4,x5,x6,x7,.slice xa xm xc,.pointer (some ⟨C,k,none⟩)],[]⟩ [.inRegion opsT []]) [frC Wg bT bX f x,botG],hKr r₁ hK,fun w' U hp=>?_,fun w' hl hh=>⟨43,?_⟩⟩
 ·obtain ⟨cs,hc1,hc2⟩:=hp;have hkc:k<cs.size:=by omega
  have h1:w'.cell? ⟨C,k,none⟩=some cs[k]:=by simp [World.cell?,hc1,hkc]
  have h2:w'.frozen? ⟨C,k,none⟩=false:=by simp [World.frozen?,hc1]
  rw [stepG_none (w':=w'.setCell ⟨C,k,none⟩ (.slice xa xm xc)) rfl rfl (by decide) (by simp [opsT,Q2N,Tryz.f114,execOp,go_sem,Act.eval,stored,h1,h2])];have hev:=events_store Tryz.prog w' #[] ⟨C,k,none⟩ (.slice xa xm xc) .plain rfl;simp [opsT,Q2N,Tryz.f114,Tryz.func114,Go.Conc.base,listed,execOp,go_sem,Act.eval,seen,stored,hev,storedEv,h1,h2]
 have hK':WgLive 123 Wg w'∧Has C k (.slice xa xm xc) w':=⟨hl,hh⟩
 u_c stepG_region_end kn_rely hK'
 u_c stepG_end kn_rely hK'
 u_in kn_rely hK'
 refine goes_leave0 rfl rfl Tryz.func114 rfl ⟨by u_nil,?_⟩;exact QaL _ hK'
end
end
end Go.Proofs
namespace Go.Vc.T
open Go Go.Vc Go.Vc.Wg Go.Vc.Ph Go.Proofs
section
attribute [local simp] Qf QF Qs Q1m QO
open Go.ConcR (Payload)
theorem KA_slice {A:Nat→AV} {β k:Nat} {val:Value} {v:World} {sz:Nat} {es:List (List AV)} (hA:A k = .lst true sz es) (h:KA A β k val v):∃ a m c,val = .slice a m c:=by
 obtain ⟨o,_,h⟩:=h;rw [hA] at h;cases h with
 | nil=>exact ⟨_,_,_,rfl⟩
 | own=>exact ⟨_,_,_,rfl⟩
theorem pair_eq {vals:Array Value} {a b:Value} (h:vals.size=2) (h0:vals.getD 0 undef=a) (h1:vals.getD 1 undef=b):vals = #[a,b]:=by
 obtain ⟨l⟩:=vals;rcases l with _|⟨x,_|⟨y,_|⟨z,l⟩⟩⟩<;>simp_all
theorem eoTuples {W0:World} {S0:Nat→Prop} {Post:Value→World→Prop} {H:List (Nat × Ent)} {nn n e Ln X:Nat} {c0:AV} {bs:List AV} {es0:List (List AV)} {A:Nat→AV}
  (hH:∀ p∈H,p.1<nn) (he:look e H=some (.mix 1 [[.own Ln 0 n]])) (hL:look Ln H=some (.row 1 es0)) (hlen:es0.length=n) (hn:n≤1073741824) (hal:∀ p∈H,Q6a p.2=false)
  (hc : PurTo (fun id => look id (delH Ln H)) c0 (.rptr [.fn X bs])) (hm : ∀ a ∈ bs, NoM a) (hX : ∃ fn, Tryz.prog.funcs[X]? = some fn ∧ (fn.name == "runtime.NumGoroutine") = false ∧ fn.body.isSome = true)
  (hcon:∀ k,k<n→∃ sz es,A k = .lst true sz es∧@Contract Tryz.prog (KdG Tryz.prog false) X (iV k :: bs) (A k)) :
  @ICon Tryz.prog (KdM Tryz.prog W0 S0 Post) 60 [iV n,.fn 114 [c0,.adr e 0 0]] (fun id=>look id H) nn { v:=.tup [],set:=[(Ln,.row 1 (Q5b n A))] }:=by
 letI:Kd Tryz.prog:=KdM Tryz.prog W0 S0 Post
 have helt:e<nn:=hH _ (Qj he);have hLlt:Ln<nn:=hH _ (Qj hL);have hne:e ≠ Ln:=fun q=>by rw [q,hL] at he;cases he
 refine ⟨⟨_,Tryz.func60,rfl,by simp [Tryz.f60]⟩,fun _=>fineI ⟨by simp,by simp,by simp,by simp,by simpa using hLlt⟩,fun C v g h' vals hag hnew hlim W HH hsz hargs=>?_⟩;intro cs T hT kk;obtain rfl:T=TM Tryz.prog W0 S0 Post:=hT;have a0:=hargs 0 (by simp);have a1:=hargs 1 (by simp);simp only [qS,List.getD_cons_succ] at a0 a1;obtain ⟨v0,_⟩:=a0.val_eq;obtain ⟨caps,v1,hcs,hcr⟩:=a1.fn_eq;have hvals:=pair_eq (by simpa using hsz) v0 v1;subst hvals;have c0r:=hcr 0 (by simp);have c1r:=hcr 1 (by simp);simp only [qS,List.getD_cons_succ] at c0r c1r;have hlk:∀ id x,look id H=some x→h' id=some x:=fun id x hx=>(hag id (hH _ (Qj hx))).trans hx;have hlim':∀ id bk,g.ρ id=some bk→h' id=look id H:=fun id bk hb=>hag id (hlim id bk hb);have hali:∀ id bk,g.ρ id=some bk→∀ c i k s,h' id ≠ some (.ali c i k s):=fun id bk hb c i k s hx=>by
  rw [hlim' id bk hb] at hx;have:=hal _ (Qj hx);cases this
 have HL:HRel v ⟨g.R,Q7p g.o Ln,g.ρ⟩ (fun id=>look id (delH Ln H)):=by
  have hsub:∀ id x,look id (delH Ln H)=some x→id ≠ Ln∧look id H=some x:=fun id x hx=>by
   rw [Q7I] at hx;split at hx
   ·cases hx
   exact ⟨by assumption,hx⟩
  exact HH.less (fun id x hx=>⟨(hsub id x hx).1,hlk id x (hsub id x hx).2⟩) fun id c i k s hx=>by
   have:=hal _ (Qj (hsub id _ hx).2);cases this
 have P0:=(Q5M HL hc c0r).2 (fun _ q=>by cases q);obtain ⟨bE,bsz,bcap,hρe,c1v⟩:=c1r.adr_eq;obtain ⟨bE',curE,elE,usE,cpE,hbkE,hoE,hhE,_,_,_,_,hcurE,_,hxrE⟩:=(HH.mix e 1 _ _ (hlk _ _ he) hρe).ex (by simp);simp only [Bk.mk.injEq,qA] at hbkE;obtain ⟨rfl,rfl,_⟩:=hbkE;have hx0:=hxrE 0 0 (by simp) (by simp);have hc0:=hcurE 0 0 (by simp) (by simp);simp only [qS] at hx0;generalize usE 0 0=xE at hx0 hc0;generalize hq1:caps.getD 1 undef=q1 at c1v;subst c1v;generalize hq0:caps.getD 0 undef=q0 at P0;clear c0r c1r a0 a1;cases P0 with
 | @rptr _ bA xA curA elA frA usA hRA hhA hcA _ hrA =>
  have hA0:=hcA 0 (by simp);have hrA0:=hrA 0 (by simp);simp only [qS,Nat.add_zero] at hA0 hrA0;generalize usA 0=xf at hA0 hrA0;cases hrA0 with
  | @fn _ cs2 _ hcs2 hr2 =>
   have hcaps:=pair_eq (by simpa using hcs) hq0 hq1;subst hcaps;have hRlt:∀ b,RAll ⟨g.R,Q7p g.o Ln,g.ρ⟩ b→b<v.heap.size∧∀ L,g.o b=some L→∀ M,L ≠ Ln :: M:=fun b hb=>by
    rcases hb with hb|⟨L,hb⟩
    ·exact ⟨(W.R b hb).1,fun L hL2=>by rw [(W.R b hb).2] at hL2;cases hL2⟩
    obtain ⟨h1,h2⟩:=Q9X hb;exact ⟨(W.o b L h1).1,fun L' hL' M=>by rw [h1] at hL';cases hL';exact h2 M⟩
   rcases hx0.own_eq with ⟨s0,cp0,hρ0,rfl,_,rfl⟩|⟨C0,szL,cap,cc,x0,hρL,rfl,k1,k2,k3,k4,k5⟩
   ·
    letI:PS:={ ety:=87,z:=1 }
    refine eoCall (C:=fun bT=>bT) (n:=0) (K:=KA A) (fT:=114) (by decide) (fun β k val v v' r h=>KA.rly r h) v (fun v₁ bT XE hb hbT=>⟨⟨_,hbT,rfl⟩,fun h0=>absurd h0 (by decide)⟩) ⟨_,Tryz.func114,rfl,by simp [Tryz.f114]⟩ (fun v₁ bT XE k hk=>absurd hk (Nat.not_lt_zero k)) fun v₁ bT v₂ fr XE hb1 hb2 B hfr hl=>?_;have X2:Ext0 v v₂:=⟨qL XE.size (Nat.le_of_lt B.size),fun b hb=>(B.old b (Nat.lt_of_lt_of_le hb XE.size) (by omega)).trans (XE.old b hb),B.rest.1.trans XE.rest.1,B.rest.2.1.trans XE.rest.2.1,B.rest.2.2.1.trans XE.rest.2.2.1,qL XE.rest.2.2.2 B.rest.2.2.2⟩;obtain ⟨W2,H2⟩:=grown_rel W HH X2;have hes:es0=[]:=List.eq_nil_of_length_eq_zero hlen;have hh2:happ { v:=.tup [],set:=[(Ln,.row 1 (Q5b 0 A))] } h'=h':=by
     funext id
     simp only [happ,look];split
     ·rename_i x hx;split at hx
      ·rename_i e1;cases hx;rw [← e1,hlk Ln _ hL,hes];rfl
      cases hx
     simp
    exact kk (.tuple #[]) v₂ fr ⟨_,g.R,g.o,g.ρ,rfl,RX.refl,W2,by rw [hh2];exact H2,fun _ _ h=>h,fun _ _ h=>.inl h,.tup rfl (fun k hk=>by simp at hk),fun b hb=>X2.old b (W.R b hb).1⟩ hfr hl
   obtain ⟨vL,htL,hhdL⟩:=HH.row Ln 1 es0 _ (hlk _ _ hL) hρL;cases hhdL;cases htL with
   | @own _ _ _ _ _ curC eC usC hoC hhC hszC hleC hcmC _ _ _ _ =>
    obtain rfl:x0=0:=k4 rfl;have hbEC:bE ≠ C0:=fun q=>by rw [q,hoC] at hoE;simp at hoE;exact hne hoE.symm
    have hClt:C0<v.heap.size:=(Array.getElem?_eq_some_iff.1 hhC).1;have hElt:bE<v.heap.size:=(Array.getElem?_eq_some_iff.1 hhE).1
    letI:PS:={ ety:=eC,z:=curC.size }
    refine eoCall (C:=fun _=>C0) (n:=n) (K:=KA A) (fT:=114) (by omega) (fun β k val v v' r h=>KA.rly r h) v (fun v₁ bT XE hb hbT=>⟨⟨curC,(XE.old C0 hClt).trans hhC,rfl⟩,fun _=>by omega⟩) ⟨_,Tryz.func114,rfl,by simp [Tryz.f114]⟩ (fun v₁ bT XE k hk β u bX h1 h2 h3=>?_) fun v₁ bT v₂ fr XE hb1 hb2 B hfr hl=>?_
    ·obtain ⟨szA,esA,hAk,hCon⟩:=hcon k hk;have hCl1:C0<v₁.heap.size:=Nat.lt_of_lt_of_le hClt XE.size;have hstart:Ext0 (Go.Vc.Ph.start v₁ C0) (Go.Vc.Ph.start v₁ C0):=⟨qC _,fun _ _=>rfl,rfl,rfl,rfl,qC _⟩;have hAC:bA ≠ C0:=fun q=>(hRlt bA hRA).2 _ (q ▸ hoC) [] rfl;obtain ⟨fA,hsA⟩:=Q64 XE hstart hCl1 (hRlt bA hRA).1 hAC _ _ _ hhA;obtain ⟨fE,hsE⟩:=Q64 XE hstart hCl1 hElt hbEC _ _ _ hhE;have hwk:=QaH (s:=Go.Vc.Ph.start v₁ C0) (K:=KA A) (β:=β) (k:=k) (bA:=bA) (xA:=xA) (bEl:=bE) (C:=C0) (n:=n) (cap:=cc) (Wg:=v₁.heap.size) (bT:=bT) (bX:=bX) (fAt:=X) (capsAt:=cs2) (f:=.func (.func 114) #[] #[.pointer (some ⟨bA,xA,none⟩),.pointer (some ⟨bE,0,none⟩)]) (x:=.int .i64 k) hk
      (by show k<curC.size;omega) (fun r h=>KA.rly r h) (fun h=>KA_slice hAk h) ((Q10 hsA).trans hA0) ((Q10 hsE).trans hc0) u h3 h2 (fun u₁ E hβ=>?_) hX
     ·simpa using hwk
     letI:Kd Tryz.prog:=KdG Tryz.prog false
     refine Callz.mono (hCon.calls u₁ (RAll ⟨g.R,Q7p g.o Ln,g.ρ⟩) (#[Value.int .i64 k]++cs2) (fun b hb=>?_) (by simp;omega) (fun i hi=>?_)) ?_
     ·have h5:=(hRlt b hb).1;have h6:=XE.size;have h7:=E.size;rw [Q2X] at h7;omega
     ·cases i with
      | zero =>
       refine .r ?_;have:((#[Value.int .i64 k]++cs2).getD 0 undef) = .int .i64 k:=(by simp [Array.getElem?_append]);rw [this];refine .val ?_;show IntKind.i64.min≤(k:Int)∧(k:Int)≤IntKind.i64.max;have e1:IntKind.i64.min = -9223372036854775808:=(by decide);have e2:IntKind.i64.max=9223372036854775807:=(by decide);rw [e1,e2];omega
      | succ i =>
       refine .r ?_;have hi':i<bs.length:=(by simpa using hi);have:((#[Value.int .i64 k]++cs2).getD (i+1) undef)=cs2.getD i undef:=(by simp [Array.getElem?_append]);rw [this,List.getD_cons_succ];exact (hr2 i hi').view (fun b hb=>⟨hb,Q64 XE E hCl1 (hRlt b hb).1 fun q=>(hRlt b hb).2 _ (q ▸ hoC) [] rfl⟩) (hm _ (Q21 hi'))
     rintro ex u₂ ⟨y,o,hy,hb,ho,hr⟩
     rw [hAk] at hr;exact ⟨y,hy,E.blw hb,hb.size,KA.of hAk hβ ho hr⟩
    obtain ⟨o',W2,H2,hR2⟩:=Q8e W HH XE B (hlk _ _ hL) hlen hρL hali (by show cap≤curC.size;omega) (by omega) hcmC hoC { v:=.tup [],set:=[(Ln,.row 1 (Q5b n A))] } rfl rfl;exact kk (.tuple #[]) v₂ fr ⟨_,g.R,o',g.ρ,rfl,RX.refl,W2,H2,fun _ _ h=>h,fun _ _ h=>.inl h,.tup rfl (fun k hk=>by simp at hk),hR2⟩ hfr hl
end
end Go.Vc.T
namespace Go.Vc.T
open Go Go.Vc Go.Proofs
section
attribute [local simp] Qf QF Qs Q1m QO
def eM (x:List (ByteArray × Int)):List AV:=[.cmap .str (Msi x)]
@[simp] theorem rlLL_eM (m:List (Nat × Nat)) (xs:List (List (ByteArray × Int))):rlLL m (Es eM xs)=Es eM xs:=rlLL_Es m eM xs fun _=>rfl
def eoF {α:Type} (f:Int→Option α):Nat→Option (List α)
 | 0=>some []
 | n+1=>(eoF f n).bind fun r=>(f n).map fun y=>r++[y]
theorem eoF_get {α:Type} (d:α) {f:Int→Option α}:∀ {n:Nat} {r:List α},eoF f n=some r→r.length=n∧∀ k,k<n→f k=some (r.getD k d):=by
 intro n
 induction n with
 | zero=>intro r h;simp only [eoF,qA] at h;subst h;exact ⟨rfl,fun k hk=>absurd hk (Nat.not_lt_zero k)⟩
 | succ n ih =>
  intro r h;obtain ⟨r0,h1,h2⟩:=Option.bind_eq_some_iff.1 h;obtain ⟨y,h3,rfl⟩:=Option.map_eq_some_iff.1 h2;obtain ⟨e1,e2⟩:=ih h1;refine ⟨by simp [e1],fun k hk=>?_⟩
  by_cases hkn:k<n
  ·rw [e2 k hkn];simp [qG,List.getElem?_append,e1,hkn]
  have:k=n:=by omega
  subst this;rw [h3];simp [qG,List.getElem?_append,e1]
theorem rows_L {r:List (List (List Int))} {n:Nat} (h:r.length=n):Q5b n (fun k=>.lst true 1 (Ls (r.getD k [])))=Es eL r:=by
 subst h;apply List.ext_getElem?;intro i;simp only [Q5b,Es,eL,List.getElem?_map,List.getElem?_range]
 by_cases hi:i<r.length
 ·simp [hi,qG,eL]
 simp [hi]
section
variable {α:Type} {u:Bool}
@[simp] theorem nom_val {v:Value}:NoM (.val v):=.val
theorem nom_Es {sz:Nat} {c:α→List AV} (h:∀ x,∀ y∈c x,NoM y) (xs:List α):NoM (.lst u sz (xs.map c)):=.lst fun e he y hy=>by
 obtain ⟨x,_,rfl⟩:=List.mem_map.1 he;exact h x y hy
@[simp] theorem nom_Is {sz:Nat} (xs:List Int):NoM (.lst u sz (Is xs)):=nom_Es (by simp) xs
@[simp] theorem nom_Ls {sz:Nat} (xs:List (List Int)):NoM (.lst u sz (Ls xs)):=nom_Es (by simp) xs
@[simp] theorem nom_rptr {cs:List AV}:NoM (.rptr cs)↔∀ c∈cs,NoM c:=⟨fun h=>by cases h;assumption,.rptr⟩
end
theorem eoT [Kd Tryz.prog] [Eo Tryz.prog] {H:List (Nat × Ent)} {nn e Ln X m:Nat} {n:Int} {c0:AV} {bs:List AV} {es0:List (List AV)} {f:Int→Option (List (List Int))} {r:List (List (List Int))} (hr:eoF f n.toNat=some r) (hn:0≤n∧n≤1073741824)
  (hcon : ∀ (k : Int) y, f k = some y → @Contract Tryz.prog (KdG Tryz.prog false) X (iV k :: bs) (.lst true 1 (Ls y))) (hX : ∃ fn, Tryz.prog.funcs[X]? = some fn ∧ (fn.name == "runtime.NumGoroutine") = false ∧ fn.body.isSome = true)
  (hc:PurTo (fun id=>look id (delH Ln H)) c0 (.rptr [.fn X bs])) (hm:∀ a∈bs,NoM a) (hH:∀ p∈H,p.1<nn) (he:look e H=some (.mix 1 [[.own Ln 0 m]])) (hL:look Ln H=some (.row 1 es0)) (hlen:es0.length=n.toNat) (hmm:m=n.toNat)
  (hal:∀ p∈H,Q6a p.2=false):ICon Tryz.prog 60 [iV n,.fn 114 [c0,.adr e 0 0]] (fun id=>look id H) nn { v:=.tup [],set:=[(Ln,.row 1 (Es eL r))] }:=by
 rename_i i1 i2;obtain ⟨W0,S0,Post,hi⟩:=i2.isM;subst hi hmm;obtain ⟨g1,g2⟩:=eoF_get [] hr;have e1:(n.toNat:Int)=n:=zM hn.1;have:=eoTuples (W0:=W0) (S0:=S0) (Post:=Post) (A:=fun k=>.lst true 1 (Ls (r.getD k []))) hH he hL hlen (by omega) hal hc hm hX fun k hk=>⟨1,Ls (r.getD k []),rfl,hcon k _ (g2 k hk)⟩;rw [rows_L g1,e1] at this;exact this
end
end Go.Vc.T
namespace Go.Vc.T
open Go Go.Vc Go.Proofs
section
attribute [local simp] Qf QF Qs Q1m QO
def Qk (x:Cat):List AV:=[.rptr (x.cells true)]
def Qi (x:SF):List AV:=[.rptr (x.cells true)]
def Qm (x:SM):List AV:=[.rptr (x.cells true)]
instance:Inhabited Cat:=⟨⟨0,[],[],[],[]⟩⟩
instance:Inhabited SF:=⟨⟨default,[],[]⟩⟩
instance:Inhabited SM:=⟨⟨default,default,[]⟩⟩
structure Ends where
 a:Int
 b:Int
def Ends.cells (u:Bool) (f:Ends):List AV:=[iV f.a,iV f.b]
structure XPart where
 members_:List (List Int)
def XPart.cells (u:Bool) (f:XPart):List AV:=[.lst u 1 (Ls f.members_)]
end
end Go.Vc.T
namespace Go.Vc.T
open Go Go.Vc Go.Proofs
section
attribute [local simp] Qf QF Qs Q1m QO
@[simp] theorem bf_175_9:byS Tryz.prog 175 9=some 5:=by kernel_rfl
@[simp] theorem ef_23:elm Tryz.prog 23=some 22:=by kernel_rfl
@[simp] theorem ef_99:elm Tryz.prog 99=some 23:=by kernel_rfl
@[simp] theorem ef_141:elm Tryz.prog 141=some 142:=by kernel_rfl
@[simp] theorem ef_175:elm Tryz.prog 175=some 5:=by kernel_rfl
@[simp] theorem ff_25_0:fld Tryz.prog 25 0=some (0,1,false):=by kernel_rfl
@[simp] theorem ff_25_1:fld Tryz.prog 25 1=some (1,1,false):=by kernel_rfl
@[simp] theorem ff_25_2:fld Tryz.prog 25 2=some (2,1,false):=by kernel_rfl
@[simp] theorem ff_25_3:fld Tryz.prog 25 3=some (3,1,false):=by kernel_rfl
@[simp] theorem ff_25_4:fld Tryz.prog 25 4=some (4,1,false):=by kernel_rfl
@[simp] theorem ff_29_0:fld Tryz.prog 29 0=some (0,1,false):=by kernel_rfl
@[simp] theorem ff_32_0:fld Tryz.prog 32 0=some (0,1,false):=by kernel_rfl
@[simp] theorem ff_32_1:fld Tryz.prog 32 1=some (1,1,false):=by kernel_rfl
@[simp] theorem ff_32_2:fld Tryz.prog 32 2=some (2,1,false):=by kernel_rfl
@[simp] theorem ff_32_3:fld Tryz.prog 32 3=some (3,1,false):=by kernel_rfl
@[simp] theorem ff_32_4:fld Tryz.prog 32 4=some (4,1,false):=by kernel_rfl
@[simp] theorem ff_34_0:fld Tryz.prog 34 0=some (0,5,true):=by kernel_rfl
@[simp] theorem ff_34_1:fld Tryz.prog 34 1=some (5,1,false):=by kernel_rfl
@[simp] theorem ff_34_2:fld Tryz.prog 34 2=some (6,1,false):=by kernel_rfl
@[simp] theorem ff_38_0:fld Tryz.prog 38 0=some (0,1,false):=by kernel_rfl
@[simp] theorem ff_52_0:fld Tryz.prog 52 0=some (0,7,true):=by kernel_rfl
@[simp] theorem ff_52_1:fld Tryz.prog 52 1=some (7,7,true):=by kernel_rfl
@[simp] theorem ff_52_2:fld Tryz.prog 52 2=some (14,1,false):=by kernel_rfl
@[simp] theorem kf_2:intk Tryz.prog 2=some .i64:=by kernel_rfl
@[simp] theorem kf_5:intk Tryz.prog 5=some .u8:=by kernel_rfl
@[simp] theorem mf_142:mty Tryz.prog 142=some (.str,.int .i64 0):=by kernel_rfl
@[simp] theorem tf_3:tyi Tryz.prog 3=some ⟨false,1,8,[.int .i64 0]⟩:=by kernel_rfl
@[simp] theorem tf_5:tyi Tryz.prog 5=some ⟨false,1,1,[.int .u8 0]⟩:=by kernel_rfl
@[simp] theorem tf_22:tyi Tryz.prog 22=some ⟨false,1,24,[.slice none 0 0]⟩:=by kernel_rfl
@[simp] theorem tf_23:tyi Tryz.prog 23=some ⟨false,1,24,[.slice none 0 0]⟩:=by kernel_rfl
@[simp] theorem Q62:tyi Tryz.prog 34=some ⟨true,7,152,[.int .i64 0,.slice none 0 0,.slice none 0 0,.slice none 0 0,.slice none 0 0,.slice none 0 0,.slice none 0 0]⟩:=by kernel_rfl
@[simp] theorem tf_99:tyi Tryz.prog 99=some ⟨false,1,24,[.slice none 0 0]⟩:=by kernel_rfl
@[simp] theorem tf_142:tyi Tryz.prog 142=some ⟨false,1,8,[.map none]⟩:=by kernel_rfl
end
end Go.Vc.T
namespace Go.Vc.T
open Go Go.Vc Go.Proofs
section
attribute [local simp] Qf QF Qs Q1m QO
noncomputable def Q3x (xs:List Int) (n:Int):Option (Bool) :=
 ass (B64 (n - 1)) <| some ((xs.all (inR n)))
theorem QaK [Kd Tryz.prog] (xs:List Int) (n:Int) (r:Bool) (h:Q3x xs n=some r):Contract Tryz.prog 131 [lI xs,iV n] (.val (.bool r)):=by
 unfold Q3x at h;replace ⟨hn,h⟩:=Q5 h;cases h;exact c22 true xs n hn
noncomputable def Q2i (c:Cat):Option (Cat) :=
 ass (c.ok) <| some (c)
theorem Q6I [Kd Tryz.prog] (c:Cat) (r:Cat) (h:Q2i c=some r):Contract Tryz.prog 87 [.agg (c.cells true)] (.agg (r.cells true)):=by
 unfold Q2i at h;replace ⟨hc,h⟩:=Q5 h;cases h;exact c41 true c hc
noncomputable def Q18 (c:Cat):Option (Cat) :=
 ass (c.ok) <| some (c)
theorem Q4O [Kd Tryz.prog] (c:Cat) (r:Cat) (h:Q18 c=some r):Contract Tryz.prog 102 [.rptr (c.cells true)] (.agg (r.cells true)):=by
 unfold Q18 at h;replace ⟨hc,h⟩:=Q5 h;cases h;have q:=c23 true c [] hc;simp only [List.append_nil] at q;exact q
noncomputable def Q1C (c:SF) (d:SF):Option (Bool) :=
 some ((bo (c=d)))
theorem Q41 [Kd Tryz.prog] (c:SF) (d:SF) (r:Bool) (h:Q1C c d=some r):Contract Tryz.prog 92 [.agg (c.cells true),.agg (d.cells true)] (.val (.bool r)):=by
 unfold Q1C at h;cases h;exact n20 true true c d
noncomputable def Q13 (m:SM):Option (Bool) :=
 some ((bo m.Is))
theorem Q57 [Kd Tryz.prog] (m:SM) (r:Bool) (h:Q13 m=some r):Contract Tryz.prog 65 [.agg (m.cells true)] (.val (.bool r)):=by
 unfold Q13 at h;cases h;exact n19 true m
noncomputable def Q25 (f:SF) (g:SF):Option (Bool) :=
 ass (f.s.cs.length≤1048576) <| ass (f.ac.length≤1048576) <| some ((bo (f=g)))
theorem Q87 [Kd Tryz.prog] (f:SF) (g:SF) (r:Bool) (h:Q25 f g=some r):Contract Tryz.prog 77 [.rptr (f.cells true),.rptr (g.cells true)] (.val (.bool r)):=by
 unfold Q25 at h;replace ⟨hl,h⟩:=Q5 h;replace ⟨hl2,h⟩:=Q5 h;cases h;have q:=n26 true true f g [] [] hl hl2;simp only [List.append_nil] at q;exact q
noncomputable def Q1g (fs:List SM):Option (Bool) :=
 ass (fs.length≤1048576) <| some ((bo (∀ f∈fs,f.Is)))
theorem Q6i [Kd Tryz.prog] (fs:List SM) (r:Bool) (h:Q1g fs=some r):Contract Tryz.prog 76 [.lst true 1 (Es Qm fs)] (.val (.bool r)):=by
 unfold Q1g at h;replace ⟨hl,h⟩:=Q5 h;cases h;exact n25 true true fs hl
end
end Go.Vc.T
namespace Go.Vc.T
open Go Go.Vc Go.Proofs
section
attribute [local simp] Qf QF Qs Q1m QO
@[simp] theorem ass_true {α:Type} {k:Option α}:ass True k=k:=Q9 trivial
theorem bo_tt (p:Prop):(bo p=true)=p:=by simp [bo]
theorem Q45 {p:Prop} (h:p):bo p=true:=by simp [bo,h]
theorem Q44 {p:Prop} (h:¬ p):bo p=false:=by simp [bo,h]
theorem bo_iff2 {p q:Prop} (h:p↔q):bo p=bo q:=by simp [bo,h]
theorem loop_go {σ ε:Type} {body:σ→Option (Ctl σ ε)} (g:Nat→σ) (m:Nat):∀ (k:Nat),m≤k→(∀ i,i<m→body (g i)=some (.next (g (i+1))))→QX body k (g 0)=QX body (k - m) (g m):=by
 induction m with
 | zero=>intro k _ _;rfl
 | succ m ih =>
  intro k hk h;rw [ih k (by omega) fun i hi=>h i (by omega)];obtain ⟨j,hj⟩:∃ j,k - m=j+1:=⟨k - m - 1,by omega⟩;rw [hj,show k - (m+1)=j by omega];simp only [QX,h m (by omega)]
theorem Q5k {σ ε:Type} {body:σ→Option (Ctl σ ε)} (g:Nat→σ) (n:Nat) {e:ε} {s0:σ} (h0:s0=g 0) (hn:n<4611686018427387904) (h:∀ i,i<n→body (g i)=some (.next (g (i+1)))) (he:body (g n)=some (.ret e)):QX body fuel s0=some e:=by
 subst h0;rw [loop_go g n fuel (by unfold fuel;omega) h];obtain ⟨j,hj⟩:∃ j,fuel - n=j+1:=⟨fuel - n - 1,by unfold fuel;omega⟩;rw [hj];simp only [QX,he]
theorem Q9n {ε:Type} {body:Int→Option (Ctl Int ε)} (n:Nat) (p:Nat→Prop) {eb:Nat→ε} {eg:ε} (hn:n<4611686018427387904) (h1:∀ i:Nat,i<n→p i→body (i:Int)=some (.next ((i:Int)+1))) (h2:∀ i:Nat,i<n→¬ p i→body (i:Int)=some (.ret (eb i))) (h3:body (n:Int)=some (.ret eg)) :
  ((∀ i:Nat,i<n→p i)∧QX body fuel 0=some eg)∨∃ m,m<n∧¬ p m∧(∀ k,k<m→p k)∧QX body fuel 0=some (eb m):=by
 by_cases hall:∀ i:Nat,i<n→p i
 ·exact .inl ⟨hall,Q5k (fun i:Nat=>(i:Int)) n rfl hn (fun i hi=>h1 i hi (hall i hi)) h3⟩
 right;have hex:∃ i,i<n∧¬ p i:=zI fun hx=>hall fun i hi=>zI fun hp=>hx ⟨i,hi,hp⟩;obtain ⟨m,⟨hm,hp⟩,hmin⟩:∃ m,(m<n∧¬ p m)∧∀ k,k<m→¬ (k<n∧¬ p k):=by
  obtain ⟨i,hi⟩:=hex
  induction i using Nat.strongRecOn with
  | _ i ih =>
   by_cases h:∃ k,k<i∧k<n∧¬ p k
   ·obtain ⟨k,h1,h2⟩:=h;exact ih k h1 h2
   exact ⟨i,hi,fun k hk hh=>h ⟨k,hk,hh⟩⟩
 have hlt:∀ k,k<m→p k:=fun k hk=>zI fun hh=>hmin k hk ⟨by omega,hh⟩;exact ⟨m,hm,hp,hlt,Q5k (fun i:Nat=>(i:Int)) m rfl (by omega) (fun i hi=>h1 i (by omega) (hlt i hi)) (h2 m hm hp)⟩
theorem loop_acc {α ε:Type} {body:α × Int→Option (Ctl (α × Int) ε)} (g:Nat→α) (n:Nat) {e:ε} {a0:α} (h0:a0=g 0) (hn:n<4611686018427387904) (h:∀ i:Nat,i<n→body (g i,(i:Int))=some (.next (g (i+1),(i:Int)+1))) (he:body (g n,(n:Int))=some (.ret e)):QX body fuel (a0,0)=some e:=by
 subst h0;exact Q5k (fun i:Nat=>(g i,(i:Int))) n rfl hn h he
theorem Q1a {α ε β:Type} {body:α × Int→Option (Ctl (α × Int) ε)} {K:ε→Option β} {r:Option β} {a0:α} (n:Nat) (g:Nat→α) {e:ε} (h0:a0=g 0) (hn:n<4611686018427387904) (h:∀ i:Nat,i<n→body (g i,(i:Int))=some (.next (g (i+1),(i:Int)+1))) (he:body (g n,(n:Int))=some (.ret e)) (hk:K e=r):(QX body fuel (a0,0)).bind K=r:=by
 rw [loop_acc g n h0 hn h he];exact hk
end
end Go.Vc.T
namespace Go.Vc.T
open Go Go.Vc Go.Proofs
section
attribute [local simp] Qf QF Qs Q1m QO
structure Fn.Is (f:Fn):Prop where
 s:f.s.Is
 t:f.t.Is
 lo:(f.ob.length:Int)=f.s.n
 la:f.ar.length=f.s.fr.length
 ob:∀ j:Nat,j<f.ob.length→0≤ix f.ob j∧ix f.ob j<f.t.n
 ar:∀ j:Nat,j<f.ar.length→0≤ix f.ar j∧ix f.ar j<f.t.fr.length
 ends:∀ a:Nat,a<f.s.fr.length→ix f.t.fr (ix f.ar a)=ix f.ob (ix f.s.fr a)∧ix f.t.to (ix f.ar a)=ix f.ob (ix f.s.to a)
 ids:∀ x:Nat,x<f.s.id.length→ix f.ar (ix f.s.id x)=ix f.t.id (ix f.ob x)
 comp:∀ a:Nat,a<f.s.fr.length→∀ b:Nat,b<f.s.fr.length→ix f.s.to a=ix f.s.fr b→ix f.ar (ix (rx f.s.cs a) b)=ix (rx f.t.cs (ix f.ar a)) (ix f.ar b)
theorem Cat.Sh.frn {c:Cat} (h:c.Sh) {a:Nat} (ha:a<c.fr.length):(0≤ix c.fr a∧ix c.fr a<c.id.length)∧(0≤ix c.to a∧ix c.to a<c.id.length):=⟨h.fr' (by omega) (by omega),h.to' (by omega) (by omega)⟩
end
end Go.Vc.T
namespace Go.Vc.T
open Go Go.Vc Go.Proofs
section
attribute [local simp] Qf QF Qs Q1m QO
structure Para (f g:Fn):Prop where
 hf:f.Is
 hg:g.Is
 s:f.s=g.s
 t:f.t=g.t
theorem gx_nat {α:Type} [Inhabited α] (xs:List α) {i:Nat} (h:i<xs.length):gx xs i=xs[i]:=by simp [gx,qG,h]
end
end Go.Vc.T
namespace Go.Vc.T
open Go Go.Vc Go.Proofs
section
attribute [local simp] Qf QF Qs Q1m QO
def tab {α:Type} (n:Nat) (g:Nat→α):List α:=(zG n).map g
@[simp] theorem Q2Z {α:Type} (n:Nat) (g:Nat→α):(tab n g).length=n:=by simp [tab]
theorem Q1b {α:Type} (n:Nat) (g:Nat→α):tab (n+1) g=tab n g++[g n]:=by simp [tab,List.range_succ]
theorem tab_zero {α:Type} (g:Nat→α):tab 0 g=[]:=rfl
theorem Q7C (n:Nat) (g:Nat→Int) {i:Nat} (h:i<n):ix (tab n g) i=g i:=by
 rw [← QN _ _ (show i<(tab n g).length by simpa using h)];simp [tab]
end
end Go.Vc.T
namespace Go.Vc.T
open Go Go.Vc Go.Proofs
section
attribute [local simp] Qf QF Qs Q1m QO
noncomputable def flt (n:Nat) (p:Nat→Prop):List Int:=((zG n).filter fun i=>bo (p i)).map Int.ofNat
noncomputable def fstN (n:Nat) (p:Nat→Prop):Int:=(((zG n).find? fun i=>bo (p i)).map Int.ofNat).getD (-1)
theorem Q9h (p:Nat→Prop):flt 0 p=[]:=rfl
theorem flt_pos {n:Nat} {p:Nat→Prop} (h:p n):flt (n+1) p=flt n p++[(n:Int)]:=by simp [flt,List.range_succ,Q45 h]
theorem flt_neg {n:Nat} {p:Nat→Prop} (h:¬ p n):flt (n+1) p=flt n p:=by simp [flt,List.range_succ,Q44 h]
theorem Q8q (n:Nat) (p:Nat→Prop):(flt n p).length≤n:=by
 unfold flt;rw [List.length_map];exact qL (List.length_filter_le _ _) (by simp)
theorem mem_flt {n:Nat} {p:Nat→Prop} {x:Int}:x∈flt n p↔∃ i:Nat,i<n∧p i∧x=(i:Int):=by
 simp only [flt,List.mem_map,List.mem_filter,List.mem_range,bo_tt];constructor
 ·rintro ⟨i,⟨h1,h2⟩,rfl⟩;exact ⟨i,h1,h2,rfl⟩
 rintro ⟨i,h1,h2,rfl⟩;exact ⟨i,⟨h1,h2⟩,rfl⟩
theorem Q8n {n:Nat} {p q:Nat→Prop} (h:∀ i,i<n→(p i↔q i)):fstN n p=fstN n q:=by
 unfold fstN
 congr 2
 induction n with
 | zero=>rfl
 | succ n ih =>
  rw [List.range_succ,List.find?_append,List.find?_append,ih fun i hi=>h i (by omega)];simp only [List.find?_cons,List.find?_nil,bo_iff2 (h n (by omega))]
theorem Q6N (n:Nat) (p:Nat→Prop):(fstN n p = -1∧∀ i,i<n→¬ p i)∨∃ k:Nat,k<n∧p k∧fstN n p=(k:Int):=by
 unfold fstN;cases h:(zG n).find? fun i=>bo (p i) with
 | none =>
  refine .inl ⟨rfl,fun i hi=>?_⟩;have:=List.find?_eq_none.1 h i (by simpa using hi);simpa [bo_tt] using this
 | some k =>
  have h1:=List.find?_some h;have h2:=List.mem_of_find?_eq_some h;exact .inr ⟨k,by simpa using h2,by simpa [bo_tt] using h1,rfl⟩
end
end Go.Vc.T
namespace Go.Vc.T
open Go Go.Vc Go.Proofs
section
attribute [local simp] Qf QF Qs Q1m QO
theorem run_bind {σ ε β:Type} {body:σ→Option (Ctl σ ε)} {K:ε→Option β} {r:Option β} {s0:σ} (n:Nat) (g:Nat→σ) {e:ε} (h0:s0=g 0) (hn:n<4611686018427387904) (h:∀ i:Nat,i<n→body (g i)=some (.next (g (i+1)))) (he:body (g n)=some (.ret e)) (hk:K e=r):(QX body fuel s0).bind K=r:=by
 rw [Q5k g n h0 hn h he];exact hk
end
end Go.Vc.T
namespace Go.Vc.T
open Go Go.Vc Go.Proofs
attribute [local simp] unk unA unE unT unC flat
noncomputable def Q1D (f_:SF):Option Int :=
 (QX (σ:=Int) (ε:=Unit ⊕ Int) (fun s6 =>
  if s6<(f_.sz.length:Int) then
   ass (0≤s6∧s6<(f_.sz.length:Int)) <|
   if (ix f_.sz s6) > 16 then
    some (Ctl.ret (Sum.inr 3))
   else
    ass (B64 (s6+1)) <|
    some (Ctl.next (s6+1))
  else
   some (Ctl.ret (Sum.inl ()))) fuel 0).bind fun e1 =>
 match e1 with
 | .inl b1 =>
  some 0
 | .inr p1 =>
  some p1
theorem Qw {F : Fx} {st st' : St} (m : List (Nat × Nat)) (h : (m.map Prod.fst).Nodup ∧ (m.map Prod.snd).Nodup ∧ (∀ id, id < F.pins → look id m = some id) ∧ (∀ p ∈ m, p.2 < st'.n) ∧ (∀ p ∈ st'.h, p.1 < st'.n) ∧ (∀ p ∈ st'.s, p.2 = rl m (st.get p.1) ∨ p.2 = .bot) ∧ ∀ p ∈ st'.h, hhOk m st.h p.1 p.2 := by simp [hP, hhOk, back, idQ, SF.cells, UA, U1, IA, I1, LA, L1, BA, B1, EA, E1, E2, eB, eI, eL, eM, Cat.cells, SM.cells]) : Wk F st st' := Wk.r1 m h
theorem Q1y {F : Fx} {st st' : St} (m : Nat) (h : ((idQ m).map Prod.fst).Nodup ∧ ((idQ m).map Prod.snd).Nodup ∧ (∀ id, id < F.pins → look id (idQ m) = some id) ∧ (∀ p ∈ (idQ m), p.2 < st'.n) ∧ (∀ p ∈ st'.h, p.1 < st'.n) ∧ (∀ p ∈ st'.s, p.2 = rl (idQ m) (st.get p.1) ∨ p.2 = .bot) ∧ ∀ p ∈ st'.h, hhOk (idQ m) st.h p.1 p.2 := by simp [hP, hhOk, back, idQ, SF.cells, UA, U1, IA, I1, LA, L1, BA, B1, EA, E1, E2, eB, eI, eL, eM, Cat.cells, SM.cells]) : Wk F st st' := Wk.r1 (idQ m) h
theorem Q92 [Kd Tryz.prog] (f_:SF) (r:Int) (h:Q1D f_=some r):Contract Tryz.prog 75 [.agg (f_.cells true)] (iV r):=by
 refine Qt (rvs:=[.tmp 2]) (rs:=[iV r]) Tryz.func75 rfl rfl rfl rfl (by simp [Tryz.f75]) fun F hN hP=>?_;unfold Q1D at h;refine Q3 (runQ hN fun K hK=>?_);simp [eM,eL,eI,Q2,Qi,SF.cells];repeat refine sdQ ?_
 refine hK _ ?_;clear hK K;refine tn (Qa (st':=⟨YH [],[(0,.mix 7 [(SF.cells true f_)])],1⟩) (Qw [(0,0)]) (Q3 (Q3 (runQ hN fun K hK=>?_))));simp [eM,eL,eI,Q2,Qi,SF.cells];repeat refine sdQ ?_
 refine hK _ (tn (Qa (st':=⟨YH [(3,iV 0)],[(0,.mix 7 [(SF.cells true f_)])],1⟩) (Qw [(0,0)]) ?_));clear hK K;replace ⟨e1,h,h1⟩:=bind_some h;refine QM (fun b1:Unit=>⟨[],[],0⟩) (fun b1=>Sum.inl b1=e1) ?_ ?_
 ·refine Q6 (QW h (fun s6:Int=>⟨YH [(3,iV s6)],[(0,.mix 7 [(SF.cells true f_)])],1⟩) (Qw [(0,0)]) ?_);clear h;intro k6 s6 c6 h hk6;refine Q3 (Q3 (runQ hN fun K hK=>?_));simp [eM,eL,eI,Q2,Qi,SF.cells];repeat refine sdQ ?_
  refine hK _ ?_;clear hK K;refine tn (Q7 rfl (fun g=>?_) fun g=>?_)
  ·have g7:s6<(f_.sz.length:Int):=gQ;clear g;replace h:=if_l g7 h;refine Q8 (tn (Q3 (Q6 (Q3 (runQ hN fun K hK=>?_)))));replace ⟨a8,h⟩:=Q5 h;simp [eM,eL,eI,Q2,Qi,SF.cells,at_I a8];(repeat refine sdQ ?_);refine hK _ ?_;clear hK K;refine tn (Q7 rfl (fun g=>?_) fun g=>?_)
   ·have g9:(ix f_.sz s6) > 16:=gQ;clear g;replace h:=if_l g9 h;refine Q3 (runQ hN fun K hK=>?_);simp [eM,eL,eI,Q2,Qi,SF.cells];(repeat refine sdQ ?_);refine hK _ (tn (Qa (st':=⟨[(2,iV 3)],[],0⟩) (Qw []) (Qh (br (tr (lr (br (tr ?_))))))));clear hK K;cases h;have q:_=e1:=hk6;have h:=h1;rw [← q] at h;clear q;(try dsimp only at h);have hr:=zH h;rw [← hr];refine ⟨_,(.tmp .nil),?_⟩;refine ⟨(.one rfl rfl .nil),[iV 3],[],by simp [SF.cells,UA,U1,IA,I1,LA,L1,BA,B1,EA,E1,E2,eB,eI,eL,eM],by simp,(UpL.refl _)⟩
   have g9:¬ ((ix f_.sz s6) > 16):=gQ;clear g;replace h:=if_r g9 h;refine Q8 (bn (tn (runQ hN fun K hK=>?_)));replace ⟨a10,h⟩:=Q5 h;simp [eM,eL,eI,Q2,Qi,SF.cells,QE a10];(repeat refine sdQ ?_);refine hK _ ?_;clear hK K;cases h;exact rn (s':=s6+1) hk6 (Qw [(0,0)])
  have g7:¬ (s6<(f_.sz.length:Int)):=gQ;clear g;replace h:=if_r g7 h;refine Qo (tx (lx (bh ?_)));cases h;exact jn (b:=()) hk6 (Qw [])
 intro b1 hb1;have h:=h1;try rw [← hb1] at h
 clear h1;try dsimp only at h
 refine Q3 (runQ hN fun K hK=>?_);simp [eM,eL,eI,Q2,Qi,SF.cells];repeat refine sdQ ?_
 refine hK _ (tn (Qa (st':=⟨[(2,iV 0)],[],0⟩) (Qw []) (Qh ?_)));clear hK K;have hr:=zH h;rw [← hr];refine ⟨_,(.tmp .nil),?_⟩;refine ⟨(.one rfl rfl .nil),[iV 0],[],by simp [SF.cells,UA,U1,IA,I1,LA,L1,BA,B1,EA,E1,E2,eB,eI,eL,eM],by simp,(UpL.refl _)⟩
end Go.Vc.T
namespace Go.Vc.T
open Go Go.Vc Go.Proofs
section
attribute [local simp] Qf QF Qs Q1m QO
structure Two (f g:SF):Prop where
 pf:f.Sh
 pg:g.Sh
 e:f.s=g.s
theorem Two.fact {f g:SF} (h:Two f g):f.ok∧(f.sz.length:Int)=f.s.n∧g.sz.length=f.sz.length∧f.ac.length=f.s.fr.length∧g.ac.length=f.ac.length∧f.sz.length≤8∧f.ac.length≤40∧f.s.to.length=f.ac.length:=by
 have h1:=h.pf.ls;have h2:=h.pg.ls;have h3:=h.pf.la;have h4:=h.pg.la;have h5:=h.pf.cat.1;rw [← h.e] at h2 h4;have:=h5.n8;have:=h5.m40;have:=h5.lt;exact ⟨h.pf.ok.1,h1,by omega,h3,by omega,by omega,by omega,by omega⟩
theorem Two.sizes {f g:SF} (h:Two f g) {x:Nat} (hx:x<f.sz.length):(0≤ix f.sz x∧ix f.sz x≤16)∧(0≤ix g.sz x∧ix g.sz x≤16):=by
 obtain ⟨_,k1,k2,k3,k4,k5,k6,k7⟩:=h.fact;have h1:=Q1p h.pf.sz (j:=x) (by omega) (by omega);have h2:=Q1p h.pg.sz (j:=x) (by omega) (by omega);omega
def mad (xs:List Int):Int:=if xs.all (fun x=>decide (x≤16))=true then 0 else 3
theorem mad_bad {xs:List Int} {i:Nat} (h:i<xs.length) (h2:16<ix xs i):mad xs=3:=by
 unfold mad;rw [if_neg];intro q;rw [qX] at q;have:=q _ (zL h);rw [QN _ _ h] at this;simp at this;omega
theorem mad_good {xs:List Int} (h:∀ y:Nat,y<xs.length→ix xs y≤16):mad xs=0:=by
 unfold mad;rw [if_pos];rw [qX];intro x hx;obtain ⟨i,hi,rfl⟩:=List.getElem_of_mem hx;rw [QN _ _ hi];simpa using h i hi
theorem Q6G {s t:SM} (h:s.Is∧t.Is) (h2:s.t=t.t):Two s.s t.s:=⟨h.1.1.hs.1,h.2.1.hs.1,by rw [h.1.1.eq,h.2.1.eq,h2]⟩
theorem fst_bind2 {ε β:Type} {body:Int→Option (Ctl Int ε)} {K:ε→Option β} {r:Option β} (n:Nat) (p:Nat→Prop) {eb:Nat→ε} {eg:ε} (hn:n<4611686018427387904) (h1:∀ i:Nat,i<n→¬ p i→body (i:Int)=some (.next ((i:Int)+1))) (h2:∀ i:Nat,i<n→p i→body (i:Int)=some (.ret (eb i))) (h3:body (n:Int)=some (.ret eg))
  (hb:∀ m,m<n→p m→(∀ k,k<m→¬ p k)→K (eb m)=r) (hg:(∀ i,i<n→¬ p i)→K eg=r):(QX body fuel 0).bind K=r:=by
 rcases Q9n n (fun i=>¬ p i) hn h1 (fun i hi h=>h2 i hi (zI h)) h3 with ⟨h,e⟩|⟨m,hm,hq,hlt,e⟩
 ·rw [e];exact hg h
 rw [e];exact hb m hm (zI hq) hlt
theorem e_l21Made {f:SF} (h:f.sz.length≤1000):Q1D f=some (mad f.sz):=by
 unfold Q1D;refine fst_bind2 f.sz.length (fun i=>16<ix f.sz i) (eb:=fun _=>Sum.inr 3) (eg:=Sum.inl ()) (by omega) (fun i hi hp=>?_) (fun i hi hp=>?_) (by simp) (fun m hm hp _=>?_) fun hp=>?_
 ·rw [if_pos (by omega),Q9 (by omega),if_neg hp,Q9 (by unfold B64;omega)]
 ·rw [if_pos (by omega),Q9 (by omega),if_pos hp]
 ·simp only;rw [mad_bad hm hp]
 simp only;rw [mad_good fun y hy=>Int.not_lt.1 (hp y hy)]
end
end Go.Vc.T
namespace Go.Vc.T
open Go Go.Vc Go.Proofs
attribute [local simp] unk unA unE unT unC flat
noncomputable def Q3U (lists_:List (List Int)):Option ByteArray :=
 (QX (σ:=List Int × Int) (ε:=List Int) (fun s16 =>
  if s16.2<(lists_.length:Int) then
   ass (0≤s16.2∧s16.2<(lists_.length:Int)) <|
   (QX (σ:=List Int × Int) (ε:=List Int) (fun s24 =>
    if s24.2<((rx lists_ s16.2).length:Int) then
     ass (0≤s24.2∧s24.2<((rx lists_ s16.2).length:Int)) <|
     ass ((s24.1++[IntKind.u8.wrap (ix (rx lists_ s16.2) s24.2)]).length≤1073741824) <|
     ass (B64 (s24.2+1)) <|
     some (Ctl.next (s24.1++[IntKind.u8.wrap (ix (rx lists_ s16.2) s24.2)],s24.2+1))
    else
     some (Ctl.ret s24.1)) fuel (s16.1,0)).bind fun b19 =>
   ass ((b19++[255]).length≤1073741824) <|
   ass (B64 (s16.2+1)) <|
   some (Ctl.next (b19++[255],s16.2+1))
  else
   some (Ctl.ret s16.1)) fuel ([],0)).bind fun b1 =>
 some (Q1K b1)
@[simp] abbrev Yq (a:List (List Int)) (b:List (Nat × AV)):List (Nat × AV):=(9,.lst true 1 (Ls a))::(10,iV (a.length:Int))::b
@[simp] abbrev YW (a:List Int × Int) (b:List (List Int)) (c:List (Nat × AV)):List (Nat × AV):=(11,iV a.2)::(15,lI (rx b a.2))::(16,iV ((rx b a.2).length:Int))::c
theorem w_i_key [Kd Tryz.prog] (lists_:List (List Int)) (r:ByteArray) (h:Q3U lists_=some r):Contract Tryz.prog 118 [.lst true 1 (Ls lists_)] (.val (.string r)):=by
 refine Qt (rvs:=[.tmp 2]) (rs:=[.val (.string r)]) Tryz.func118 rfl rfl rfl rfl (by simp [Tryz.f118]) fun F hN hP=>?_;unfold Q3U at h;refine Q3 (runQ hN fun K hK=>?_);simp [eM,eL,eI,Q2];repeat refine sdQ ?_
 refine hK _ ?_;clear hK K;refine tn (Qa (st':=⟨[(0,.lst true 1 (Ls lists_))],[],0⟩) (Qw []) (Q3 (runQ hN fun K hK=>?_)));simp [eM,eL,eI,Q2];repeat refine sdQ ?_
 refine hK _ ?_;clear hK K;refine tn (Qa (st':=⟨[(0,.lst true 1 (Ls lists_)),(3,.own 0 0 0)],[(0,.mix 1 [])],1⟩) (Qw [(0,0)]) (Q3 (Q3 (runQ hN fun K hK=>?_))));simp [eM,eL,eI,Q2];repeat refine sdQ ?_
 refine hK _ (tn (Qa (st':=⟨(3,.own 0 0 0)::Yq lists_ [(11,iV 0)],[(0,.mix 1 [])],1⟩) (Qw [(0,0)]) ?_));clear hK K;replace ⟨e1,h,h1⟩:=bind_some h;refine QM (fun b1:List Int=>⟨[(3,.own 0 0 b1.length)],[(0,.row 1 (Us b1))],1⟩) (fun b1=>b1=e1) ?_ ?_
 ·refine Q6 (QW h (fun s16:List Int × Int=>⟨(3,.own 0 0 s16.1.length)::Yq lists_ [(11,iV s16.2)],[(0,.row 1 (Us s16.1))],1⟩) (Q3C ⟨(3,.own 0 0 0)::Yq lists_ [(11,iV 0)],[(0,.row 1 (Us []))],1⟩ (Wk.nils [] (by simp) (by simp) (by simp [nlA]) (by simp [entN,nlL,nlA,UA,U1,IA,I1,LA,L1,BA,B1,EA,E1,E2,eB,eI,eL,eM]) (by simp)) (Qw [(0,0)])) ?_);clear h;intro k16 s16 c16 h hk16;refine Q3 (runQ hN fun K hK=>?_);simp [eM,eL,eI,Q2];repeat refine sdQ ?_
  refine hK _ ?_;clear hK K;refine tn (Q3 (Q7 rfl (fun g=>?_) fun g=>?_))
  ·have g17:s16.2<(lists_.length:Int):=gQ;clear g;replace h:=if_l g17 h;refine Q8 (tn (Q3 (Q6 (Q3 (runQ hN fun K hK=>?_)))));replace ⟨a18,h⟩:=Q5 h;simp [eM,eL,eI,Q2,at_L a18];(repeat refine sdQ ?_);refine hK _ ?_;clear hK K;refine tn (Qa (st':=⟨(3,.own 0 0 s16.1.length)::(5,lI (rx lists_ s16.2))::Yq lists_ [(11,iV s16.2)],[(0,.row 1 (Us s16.1))],1⟩) (Qw [(0,0)]) (Q3 (Q3 (runQ hN fun K hK=>?_))));simp [eM,eL,eI,Q2];(repeat refine sdQ ?_);refine hK _ (tn (Qa (st':=⟨(3,.own 0 0 s16.1.length)::Yq lists_ (YW s16 lists_ [(17,iV 0)]),[(0,.row 1 (Us s16.1))],1⟩) (Qw [(0,0)]) ?_));clear hK K;replace ⟨e19,h,h19⟩:=bind_some h;refine QM (fun b19:List Int=>⟨(3,.own 0 0 b19.length)::Yq lists_ [(11,iV s16.2)],[(0,.row 1 (Us b19))],1⟩) (fun b19=>b19=e19) ?_ ?_
   ·refine Q6 (QW h (fun s24:List Int × Int=>⟨(3,.own 0 0 s24.1.length)::Yq lists_ (YW s16 lists_ [(17,iV s24.2)]),[(0,.row 1 (Us s24.1))],1⟩) (Qw [(0,0)]) ?_);clear h;intro k24 s24 c24 h hk24;refine Q3 (runQ hN fun K hK=>?_);simp [eM,eL,eI,Q2];(repeat refine sdQ ?_);refine hK _ ?_;clear hK K;refine tn (Q3 (Q7 rfl (fun g=>?_) fun g=>?_))
    ·have g25:s24.2<((rx lists_ s16.2).length:Int):=gQ;clear g;replace h:=if_l g25 h;refine Q8 (tn (Q3 (Q6 (Q3 (runQ hN fun K hK=>?_)))));replace ⟨a26,h⟩:=Q5 h;simp [eM,eL,eI,Q2,at_I a26];(repeat refine sdQ ?_);refine hK _ ?_;clear hK K;refine tn (Qa (st':=⟨(3,.own 0 0 s24.1.length)::(7,iV (ix (rx lists_ s16.2) s24.2))::Yq lists_ (YW s16 lists_ [(17,iV s24.2)]),[(0,.row 1 (Us s24.1))],1⟩) (Qw [(0,0)]) (runQ hN fun K hK=>?_));replace ⟨a27,h⟩:=Q5 h;(try simp only [qJ,qI,zE] at a27);simp [eM,eL,eI,Q2,a27];(repeat refine sdQ ?_);refine hK _ ?_;clear hK K;refine bn (tn (Qa (st':=⟨(3,.own 0 0 ((s24.1++[IntKind.u8.wrap (ix (rx lists_ s16.2) s24.2)]).length))::Yq lists_ (YW s16 lists_ [(17,iV s24.2)]),[(0,.row 1 (Us (s24.1++[IntKind.u8.wrap (ix (rx lists_ s16.2) s24.2)])))],1⟩) (Qw [(2,0)]) (runQ hN fun K hK=>?_)));replace ⟨a28,h⟩:=Q5 h;simp [eM,eL,eI,Q2,QE a28];(repeat refine sdQ ?_);refine hK _ ?_;clear hK K;cases h;exact rn (s':=(s24.1++[IntKind.u8.wrap (ix (rx lists_ s16.2) s24.2)],s24.2+1)) hk24 (Qw [(0,0)])
    have g25:¬ (s24.2<((rx lists_ s16.2).length:Int)):=gQ;clear g;replace h:=if_r g25 h;refine Qo (tx (lx (bh ?_)));cases h;exact jn (b:=s24.1) hk24 (Qw [(0,0)])
   intro b19 hb19;have h:=h19;(try rw [← hb19] at h);clear h19;(try dsimp only at h);refine runQ hN fun K hK=>?_;replace ⟨a29,h⟩:=Q5 h;(try simp only [qJ,qI,zE] at a29);simp [eM,eL,eI,Q2,a29];(repeat refine sdQ ?_);refine hK _ ?_;clear hK K;refine bn (tn (Qa (st':=⟨(3,.own 0 0 ((b19++[255]).length))::Yq lists_ [(11,iV s16.2)],[(0,.row 1 (Us (b19++[255])))],1⟩) (Qw [(2,0)]) (runQ hN fun K hK=>?_)));replace ⟨a30,h⟩:=Q5 h;simp [eM,eL,eI,Q2,QE a30];(repeat refine sdQ ?_);refine hK _ ?_;clear hK K;cases h;exact rn (s':=(b19++[255],s16.2+1)) hk16 (Qw [(0,0)])
  have g17:¬ (s16.2<(lists_.length:Int)):=gQ;clear g;replace h:=if_r g17 h;refine Qo (tx (lx (bh ?_)));cases h;exact jn (b:=s16.1) hk16 (Qw [(0,0)])
 intro b1 hb1;have h:=h1;try rw [← hb1] at h
 clear h1;try dsimp only at h
 refine Q3 (Q2x [32] mo (by rw [hN];decide) fun K hK=>?_);simp [eM,eL,eI,Q2];repeat refine sdQ ?_
 refine hK _ (tn (Qa (st':=⟨[(2,.val (.string (Q1K b1)))],[],0⟩) (Qw []) (Qh ?_)));clear hK K;have hr:=zH h;rw [← hr];refine ⟨_,(.tmp .nil),?_⟩;refine ⟨(.one rfl rfl .nil),[.val (.string (Q1K b1))],[],by simp [UA,U1,IA,I1,LA,L1,BA,B1,EA,E1,E2,eB,eI,eL,eM],by simp,(UpL.refl _)⟩
end Go.Vc.T
namespace Go.Vc.T
open Go Go.Vc Go.Proofs
attribute [local simp] unk unA unE unT unC flat
noncomputable def Q2h (list_:List (List Int)):Option (List (ByteArray × Int)) :=
 (QX (σ:=(List (ByteArray × Int)) × Int) (ε:=List (ByteArray × Int)) (fun s7 =>
  if s7.2<(list_.length:Int) then
   ass (0≤s7.2∧s7.2<(list_.length:Int)) <|
   (Q3U [rx list_ s7.2]).bind fun v10 =>
   ass (s7.1.length<1099511627776) <|
   ass (B64 (s7.2+1)) <|
   some (Ctl.next (tset v10 s7.2 s7.1,s7.2+1))
  else
   some (Ctl.ret s7.1)) fuel ([],0)).bind fun b1 =>
 some b1
theorem QaJ [Kd Tryz.prog] (list_:List (List Int)) (r:List (ByteArray × Int)) (h:Q2h list_=some r):FContract Tryz.prog false 115 [.lst true 1 (Ls list_)] (.cmap .str (Msi r)):=by
 refine Q5w false (ts:=[2]) (rs:=[.cmap .str (Msi r)]) Tryz.func115 rfl rfl rfl rfl (by simp [Tryz.f115]) fun F hN hP=>?_;unfold Q2h at h;refine Q3 (Q2x [] mo (by rw [hN];decide) fun K hK=>?_);simp [eM,eL,eI,Q2];repeat refine sdQ ?_
 refine hK _ ?_;clear hK K;refine tn (Qa (st':=⟨[(0,.lst true 1 (Ls list_))],[],0⟩) (Qw []) (Q3 (Q2x [] mo (by rw [hN];decide) fun K hK=>?_)));simp [eM,eL,eI,Q2];repeat refine sdQ ?_
 refine hK _ ?_;clear hK K;refine tn (Qa (st':=⟨[(0,.lst true 1 (Ls list_)),(3,.mp 0)],[(0,.mapE .str (Msi []))],1⟩) (Qw [(0,0)]) (Q3 (Q3 (Q2x [] mo (by rw [hN];decide) fun K hK=>?_))));simp [eM,eL,eI,Q2];repeat refine sdQ ?_
 refine hK _ (tn (Qa (st':=⟨[(3,.mp 0),(7,.lst true 1 (Ls list_)),(8,iV (list_.length:Int)),(9,iV 0)],[(0,.mapE .str (Msi []))],1⟩) (Qw [(0,0)]) ?_));clear hK K;replace ⟨e1,h,h1⟩:=bind_some h;refine QM (fun b1:List (ByteArray × Int)=>⟨[(3,.mp 0)],[(0,.mapE .str (Msi b1))],1⟩) (fun b1=>b1=e1) ?_ ?_
 ·refine Q6 (QW h (fun s7:(List (ByteArray × Int)) × Int=>⟨[(3,.mp 0),(7,.lst true 1 (Ls list_)),(8,iV (list_.length:Int)),(9,iV s7.2)],[(0,.mapE .str (Msi s7.1))],1⟩) (Qw [(0,0)]) ?_);clear h;intro k7 s7 c7 h hk7;refine Q3 (Q2x [] mo (by rw [hN];decide) fun K hK=>?_);simp [eM,eL,eI,Q2];repeat refine sdQ ?_
  refine hK _ ?_;clear hK K;refine tn (Q3 (Q7 rfl (fun g=>?_) fun g=>?_))
  ·have g8:s7.2<(list_.length:Int):=gQ;clear g;replace h:=if_l g8 h;refine Q8 (tn (Q3 (Q6 (Q3 (Q2x [] mo (by rw [hN];decide) fun K hK=>?_)))));replace ⟨a9,h⟩:=Q5 h;simp [eM,eL,eI,Q2,at_L a9];(repeat refine sdQ ?_);refine hK _ ?_;clear hK K;refine tn (Qa (st':=⟨[(3,.mp 0),(4,iV s7.2),(5,lI (rx list_ s7.2)),(7,.lst true 1 (Ls list_)),(8,iV (list_.length:Int)),(9,iV s7.2)],[(0,.mapE .str (Msi s7.1))],1⟩) (Qw [(0,0)]) (Q2x [] mo (by rw [hN];decide) fun K hK=>?_));simp [eM,eL,eI,Q2];(repeat with_reducible refine sdQ ?_);replace ⟨v10,hv10,h⟩:=bind_some h;refine Q2l (fz:=[]) (w_i_key _ v10 hv10) (.cons (.lits (es:=_) rfl (.cons rfl (.cons .lst .nil) .nil) rfl) .nil) ?_;replace ⟨a11,h⟩:=Q5 h;simp [eM,eL,eI,Q2,a11];(repeat refine sdQ ?_);refine hK _ ?_;clear hK K;refine bn (tn (Qa (st':=⟨[(3,.mp 0),(7,.lst true 1 (Ls list_)),(8,iV (list_.length:Int)),(9,iV s7.2)],[(0,.mapE .str (Msi (tset v10 s7.2 s7.1)))],1⟩) (Qw [(0,0)]) (Q2x [] mo (by rw [hN];decide) fun K hK=>?_)));replace ⟨a12,h⟩:=Q5 h;simp [eM,eL,eI,Q2,QE a12];(repeat refine sdQ ?_);refine hK _ ?_;clear hK K;cases h;exact rn (s':=(tset v10 s7.2 s7.1,s7.2+1)) hk7 (Qw [(0,0)])
  have g8:¬ (s7.2<(list_.length:Int)):=gQ;clear g;replace h:=if_r g8 h;refine Qo (tx (lx (bh ?_)));cases h;exact jn (b:=s7.1) hk7 (Qw [(0,0)])
 intro b1 hb1;have h:=h1;try rw [← hb1] at h
 clear h1;try dsimp only at h
 refine Q3 (Q2x [] mo (by rw [hN];decide) fun K hK=>?_);simp [eM,eL,eI,Q2];repeat refine sdQ ?_
 refine hK _ (tn (Qa (st':=⟨[(2,.mp 0)],[(0,.mapE .str (Msi b1))],1⟩) (Qw [(0,0)]) (Qh ?_)));clear hK K;have hr:=zH h;rw [← hr];exact (.one (by simp [ownB]) (.mp rfl) .nil)
end Go.Vc.T
namespace Go.Vc.T
open Go Go.Vc Go.Proofs
section
attribute [local simp] Qf QF Qs Q1m QO
theorem QaG {α β:Type} [DecidableEq α] (k k':α) (v:β) (m:List (α × β)):Q2A k (tset k' v m)=if k'=k then some v else Q2A k m:=by
 induction m with
 | nil=>simp [tset,Q2A]
 | cons p r ih =>
  obtain ⟨a,x⟩:=p;unfold tset
  by_cases h:a=k'
  ·subst h;rw [if_pos rfl]
   by_cases h2:a=k<;>simp [Q2A,h2]
  rw [if_neg h];simp only [Q2A,ih]
  by_cases h2:a=k
  ·subst h2;rw [if_pos rfl,if_pos rfl,if_neg (fun e=>h e.symm)]
  rw [if_neg h2,if_neg h2]
theorem tset_len {α β:Type} [DecidableEq α] (k:α) (v:β) (m:List (α × β)):(tset k v m).length≤m.length+1:=by
 induction m with
 | nil=>simp [tset]
 | cons p r ih =>
  obtain ⟨a,x⟩:=p;unfold tset;split<;>simp;exact ih
def plM {α:Type} [DecidableEq α] (k:Nat→α):Nat→List (α × Int)
 | 0=>[]
 | n+1=>tset (k n) (n:Int) (plM k n)
theorem plM_len {α:Type} [DecidableEq α] (k:Nat→α) (n:Nat):(plM k n).length≤n:=by
 induction n with
 | zero=>simp [plM]
 | succ n ih=>exact qL (tset_len _ _ _) (by omega)
theorem plM_find {α:Type} [DecidableEq α] {k:Nat→α} {n:Nat} (h:∀ a b,a<n→b<n→k a=k b→a=b) {j:Nat} (hj:j<n):Q2A (k j) (plM k n)=some (j:Int):=by
 induction n with
 | zero=>omega
 | succ n ih =>
  rw [plM,QaG]
  by_cases e:k n=k j
  ·rw [if_pos e,h n j (by omega) hj e]
  rw [if_neg e];have:j ≠ n:=fun q=>e (by rw [q]);exact ih (fun a b ha hb=>h a b (by omega) (by omega)) (by omega)
theorem Q8f (ns:List Int):(Q1K ns).data.toList=ns.map fun n=>UInt8.ofNat n.toNat:=by
 have:∀ (ns:List Int) (s:ByteArray),(ns.foldl (fun r n=>r.push (UInt8.ofNat n.toNat)) s).data.toList=s.data.toList++ns.map fun n=>UInt8.ofNat n.toNat:=by
  intro ns
  induction ns with
  | nil=>intro s;simp
  | cons n ns ih=>intro s;simp only [List.foldl_cons,ih,List.map_cons];simp [ByteArray.push]
 simpa [Q1K] using this ns ByteArray.empty
theorem Q7L {α β:Type} {f:α→β}:∀ {a b:List α},(∀ x∈a,∀ y∈b,f x=f y→x=y)→a.map f=b.map f→a=b:=by
 intro a
 induction a with
 | nil=>intro b _ h;cases b with|nil=>rfl|cons=>simp at h
 | cons x a ih =>
  intro b hi h;cases b with
  | nil=>simp at h
  | cons y b =>
   simp only [List.map_cons,List.cons.injEq] at h;rw [hi x (by simp) y (by simp) h.1,ih (fun u hu v hv=>hi u (by simp [hu]) v (by simp [hv])) h.2]
theorem Q9R {a b:List Int} (ha:∀ x∈a,0≤x∧x<256) (hb:∀ x∈b,0≤x∧x<256) (h:Q1K a=Q1K b):a=b:=by
 have h1:=congrArg (fun s=>s.data.toList) h;simp only [Q8f] at h1;refine Q7L (fun x hx y hy e=>?_) h1;have e2:=congrArg UInt8.toNat e;have p1:=ha x hx;have p2:=hb y hy;simp only [UInt8.toNat_ofNat'] at e2;omega
theorem wrap8 {n:Int} (h0:0≤n) (h1:n<256):IntKind.u8.wrap n=n:=by
 simp [IntKind.wrap,IntKind.signed,IntKind.bits];omega
theorem wrap8_b (n:Int):0≤IntKind.u8.wrap n∧IntKind.u8.wrap n<256:=by
 simp [IntKind.wrap,IntKind.signed,IntKind.bits];omega
def keyB (x:List Int):ByteArray:=Q1K (x.map IntKind.u8.wrap++[255])
theorem keyB_inj {x y:List Int} (hx:∀ a∈x,0≤a∧a<256) (hy:∀ a∈y,0≤a∧a<256) (h:keyB x=keyB y):x=y:=by
 have hw:∀ x:List Int,∀ a∈x.map IntKind.u8.wrap++[255],0≤a∧a<256:=by
  intro x a ha;rcases List.mem_append.1 ha with ha|ha
  ·obtain ⟨b,_,rfl⟩:=List.mem_map.1 ha;exact wrap8_b b
  rw [List.mem_singleton.1 ha];omega
 have h1:=Q9R (hw x) (hw y) h;have h2:=(List.append_inj' h1 rfl).1;refine Q7L (fun a ha b hb e=>?_) h2
 rwa [wrap8 (hx a ha).1 (hx a ha).2,wrap8 (hy b hb).1 (hy b hb).2] at e
structure Keyed (L:List (List Int)):Prop where
 nd:L.Nodup
 sm:∀ x∈L,∀ a∈x,0≤a∧a<256
noncomputable def posL (L:List (List Int)) (x:List Int):Int:=fstN L.length fun i=>rx L i=x
theorem Q7e {L:List (List Int)} {i:Nat} (h:i<L.length):rx L i∈L:=by
 rw [← QJ _ _ h];exact zL h
theorem Keyed.inj {L:List (List Int)} (h:Keyed L) {i j:Nat} (hi:i<L.length) (hj:j<L.length) (e:rx L i=rx L j):i=j:=by
 rw [← QJ _ _ hi,← QJ _ _ hj] at e;rcases Nat.lt_trichotomy i j with q|q|q
 ·exact absurd e (List.pairwise_iff_getElem.1 h.nd i j hi hj q)
 ·exact q
 exact absurd e.symm (List.pairwise_iff_getElem.1 h.nd j i hj hi q)
theorem Keyed.at {L:List (List Int)} (h:Keyed L) {x:List Int} (hx:x∈L):∃ j:Nat,j<L.length∧rx L j=x∧posL L x=j∧Q2A (keyB x) (plM (fun i=>keyB (rx L i)) L.length)=some (j:Int):=by
 obtain ⟨j,hj,rfl⟩:=List.getElem_of_mem hx;refine ⟨j,hj,(QJ _ _ hj).symm,?_,?_⟩
 ·unfold posL;rcases Q6N L.length (fun i=>rx L i=L[j]) with ⟨_,h2⟩|⟨k,hk,h2,h3⟩
  ·exact absurd (QJ _ _ hj).symm (h2 j hj)
  rw [h3,h.inj hk hj (by rw [h2,QJ _ _ hj])]
 have:=plM_find (k:=fun i=>keyB (rx L i)) (n:=L.length) (fun a b ha hb e=>h.inj ha hb (keyB_inj (h.sm _ (Q7e ha)) (h.sm _ (Q7e hb)) e)) hj;rw [QJ _ _ hj];exact this
theorem flt_nodup (n:Nat) (p:Nat→Prop):(flt n p).Nodup:=by
 unfold flt;refine List.Pairwise.map (R:=fun a b=>a ≠ b) Int.ofNat (fun a b h e=>h (Int.ofNat.inj e)) ?_;exact List.nodup_range.filter _
theorem fstN_at {n:Nat} {p:Nat→Prop} {m:Nat} (hm:m<n) (hp:p m) (hlt:∀ k,k<m→¬ p k):fstN n p=(m:Int):=by
 unfold fstN;rw [show ((zG n).find? fun i=>bo (p i))=some m from List.find?_eq_some_iff_getElem.2 ⟨by rw [bo_tt];exact hp,m,by simpa using hm,by simp,fun j hj=>by simp [Q44 (hlt j hj)]⟩];rfl
theorem fstN_no {n:Nat} {p:Nat→Prop} (h:∀ i,i<n→¬ p i):fstN n p = -1:=by
 rcases Q6N n p with ⟨h1,_⟩|⟨k,h1,h2,_⟩
 ·exact h1
 exact absurd h2 (h k h1)
theorem take_rx {L:List (List Int)} {i:Nat} (h:i<L.length):L.take (i+1)=L.take i++[rx L i]:=by rw [zJ h,QJ _ _ h]
theorem e_key {x:List Int} (h:x.length≤1000):Q3U [x]=some (keyB x):=by
 unfold Q3U keyB;refine Q1a 1 (fun i=>if i=0 then [] else x.map IntKind.u8.wrap++[255]) (e:=x.map IntKind.u8.wrap++[255]) (by simp) (by omega) (fun i hi=>?_) (by simp) rfl;have:i=0:=by omega
 subst this;have hx:rx [x] ((0:Nat):Int)=x:=by simp [rx]
 simp only [hx];rw [if_pos (by simp),Q9 (by simp)];refine Q1a x.length (fun k=>(x.take k).map IntKind.u8.wrap) (e:=x.map IntKind.u8.wrap) (by simp) (by omega) (fun k hk=>?_) (by simp) ?_
 ·have hs:x.take (k+1)=x.take k++[ix x k]:=by rw [zJ hk,QN _ _ hk]
  simp (disch:=omega) [Q9,B64,hs];try omega
 simp (disch:=omega) [Q9,B64];try omega
noncomputable def plL (L:List (List Int)):List (ByteArray × Int):=plM (fun i=>keyB (rx L i)) L.length
theorem e_places {L:List (List Int)} (hn:L.length<1000000) (hx:∀ x∈L,x.length≤1000):Q2h L=some (plL L):=by
 unfold Q2h plL;refine Q1a L.length (fun i=>plM (fun i=>keyB (rx L i)) i) (e:=plM (fun i=>keyB (rx L i)) L.length) rfl (by omega) (fun i hi=>?_) (by simp) rfl;have h1:=plM_len (fun i:Nat=>keyB (rx L i)) i;simp only;rw [if_pos (by omega),Q9 (by omega),e_key (hx _ (Q7e hi))];simp only [zN];rw [Q9 (by omega),Q9 (by unfold B64;omega)];rfl
end
end Go.Vc.T
namespace Go.Vc.T
open Go Go.Vc Go.Proofs
attribute [local simp] unk unA unE unT unC flat
noncomputable def Q2g (list_:List (List Int)) (i_:Int):Option (List Int) :=
 (QX (σ:=List Int × Int) (ε:=List Int) (fun s7 =>
  if s7.2<(list_.length:Int) then
   ass (0≤s7.2∧s7.2<(list_.length:Int)) <|
   ass (0≤i_∧i_<((rx list_ s7.2).length:Int)) <|
   ass ((s7.1++[ix (rx list_ s7.2) i_]).length≤1073741824) <|
   ass (B64 (s7.2+1)) <|
   some (Ctl.next (s7.1++[ix (rx list_ s7.2) i_],s7.2+1))
  else
   some (Ctl.ret s7.1)) fuel ([],0)).bind fun b1 =>
 some b1
theorem QaI [Kd Tryz.prog] (list_:List (List Int)) (i_:Int) (r:List Int) (h:Q2g list_ i_=some r):Contract Tryz.prog 116 [.lst true 1 (Ls list_),iV i_] (lI r):=by
 refine Qt (rvs:=[.tmp 4]) (rs:=[lI r]) Tryz.func116 rfl rfl rfl rfl (by simp [Tryz.f116]) fun F hN hP=>?_;unfold Q2g at h;refine Q3 (runQ hN fun K hK=>?_);simp [eM,eL,eI,Q2];repeat refine sdQ ?_
 refine hK _ ?_;clear hK K;refine tn (Qa (st':=⟨[(0,.lst true 1 (Ls list_)),(1,iV i_)],[],0⟩) (Qw []) (Q3 (runQ hN fun K hK=>?_)));simp [eM,eL,eI,Q2];repeat refine sdQ ?_
 refine hK _ ?_;clear hK K;refine tn (Qa (st':=⟨[(0,.lst true 1 (Ls list_)),(1,iV i_),(5,.own 0 0 0)],[(0,.mix 1 [])],1⟩) (Qw [(0,0)]) (Q3 (Q3 (runQ hN fun K hK=>?_))));simp [eM,eL,eI,Q2];repeat refine sdQ ?_
 refine hK _ (tn (Qa (st':=⟨(1,iV i_)::(5,.own 0 0 0)::Yq list_ [(11,iV 0)],[(0,.mix 1 [])],1⟩) (Qw [(0,0)]) ?_));clear hK K;replace ⟨e1,h,h1⟩:=bind_some h;refine QM (fun b1:List Int=>⟨[(5,.own 0 0 b1.length)],[(0,rI b1)],1⟩) (fun b1=>b1=e1) ?_ ?_
 ·refine Q6 (QW h (fun s7:List Int × Int=>⟨(1,iV i_)::(5,.own 0 0 s7.1.length)::Yq list_ [(11,iV s7.2)],[(0,rI s7.1)],1⟩) (Q3C ⟨(1,iV i_)::(5,.own 0 0 0)::Yq list_ [(11,iV 0)],[(0,rI [])],1⟩ (Wk.nils [] (by simp) (by simp) (by simp [nlA]) (by simp [entN,nlL,nlA,UA,U1,IA,I1,LA,L1,BA,B1,EA,E1,E2,eB,eI,eL,eM]) (by simp)) (Qw [(0,0)])) ?_);clear h;intro k7 s7 c7 h hk7;refine Q3 (runQ hN fun K hK=>?_);simp [eM,eL,eI,Q2];repeat refine sdQ ?_
  refine hK _ ?_;clear hK K;refine tn (Q3 (Q7 rfl (fun g=>?_) fun g=>?_))
  ·have g8:s7.2<(list_.length:Int):=gQ;clear g;replace h:=if_l g8 h;refine Q8 (tn (Q3 (Q6 (Q3 (runQ hN fun K hK=>?_)))));replace ⟨a9,h⟩:=Q5 h;simp [eM,eL,eI,Q2,at_L a9];(repeat refine sdQ ?_);refine hK _ ?_;clear hK K;refine tn (Qa (st':=⟨(1,iV i_)::(5,.own 0 0 s7.1.length)::(7,lI (rx list_ s7.2))::Yq list_ [(11,iV s7.2)],[(0,rI s7.1)],1⟩) (Qw [(0,0)]) (runQ hN fun K hK=>?_));replace ⟨a10,h⟩:=Q5 h;replace ⟨a11,h⟩:=Q5 h;(try simp only [qJ,qI,zE] at a11);simp [eM,eL,eI,Q2,at_I a10,a11];(repeat refine sdQ ?_);refine hK _ ?_;clear hK K;refine bn (tn (Qa (st':=⟨(1,iV i_)::(5,.own 0 0 ((s7.1++[ix (rx list_ s7.2) i_]).length))::Yq list_ [(11,iV s7.2)],[(0,rI (s7.1++[ix (rx list_ s7.2) i_]))],1⟩) (Qw [(2,0)]) (runQ hN fun K hK=>?_)));replace ⟨a12,h⟩:=Q5 h;simp [eM,eL,eI,Q2,QE a12];(repeat refine sdQ ?_);refine hK _ ?_;clear hK K;cases h;exact rn (s':=(s7.1++[ix (rx list_ s7.2) i_],s7.2+1)) hk7 (Qw [(0,0)])
  have g8:¬ (s7.2<(list_.length:Int)):=gQ;clear g;replace h:=if_r g8 h;refine Qo (tx (lx (bh ?_)));cases h;exact jn (b:=s7.1) hk7 (Qw [(0,0)])
 intro b1 hb1;have h:=h1;try rw [← hb1] at h
 clear h1;try dsimp only at h
 refine Q3 (runQ hN fun K hK=>?_);simp [eM,eL,eI,Q2];repeat refine sdQ ?_
 refine hK _ (tn (Qa (st':=⟨[(4,.own 0 0 b1.length)],[(0,rI b1)],1⟩) (Qw [(0,0)]) (Qh ?_)));clear hK K;have hr:=zH h;rw [← hr];refine ⟨_,(.tmp .nil),?_⟩;refine ⟨(.one rfl rfl .nil),[lI b1],[0],by simp [UA,U1,IA,I1,LA,L1,BA,B1,EA,E1,E2,eB,eI,eL,eM],by simp,(UpL.refl _)⟩
end Go.Vc.T
namespace Go.Vc.T
open Go Go.Vc Go.Proofs
attribute [local simp] unk unA unE unT unC flat
noncomputable def Q2t (sizes_:List Int):Option Bool :=
 (Q3x sizes_ 17).bind fun v1 =>
 some v1
theorem Q91 [Kd Tryz.prog] (sizes_:List Int) (r:Bool) (h:Q2t sizes_=some r):Contract Tryz.prog 117 [lI sizes_] (.val (.bool r)):=by
 refine Qt (rvs:=[.tmp 2]) (rs:=[.val (.bool r)]) Tryz.func117 rfl rfl rfl rfl (by simp [Tryz.f117]) fun F hN hP=>?_;unfold Q2t at h;refine Q3 (runQ hN fun K hK=>?_);simp [eM,eL,eI,Q2];repeat refine sdQ ?_
 refine hK _ ?_;clear hK K;refine tn (Qa (st':=⟨[(0,lI sizes_)],[],0⟩) (Qw []) (Q3 (runQ hN fun K hK=>?_)));simp [eM,eL,eI,Q2];repeat with_reducible refine sdQ ?_
 replace ⟨v1,hv1,h⟩:=bind_some h;refine Q0 (QaK _ _ v1 hv1) (.cons .lst (.cons .val .nil)) ?_;simp [eM,eL,eI,Q2];repeat refine sdQ ?_
 refine hK _ (tn (Qa (st':=⟨[(2,.val (.bool v1))],[],0⟩) (Qw []) (Qh ?_)));clear hK K;have hr:=zH h;rw [← hr];refine ⟨_,(.tmp .nil),?_⟩;refine ⟨(.one rfl rfl .nil),[.val (.bool v1)],[],by simp [UA,U1,IA,I1,LA,L1,BA,B1,EA,E1,E2,eB,eI,eL,eM],by simp,(UpL.refl _)⟩
end Go.Vc.T
namespace Go.Vc.T
open Go Go.Vc Go.Proofs
section
attribute [local simp] Qf QF Qs Q1m QO
theorem eoF_tab {α:Type} {f:Int→Option α} {E:Nat→α}:∀ n:Nat,(∀ k:Nat,k<n→f k=some (E k))→eoF f n=some (tab n E):=by
 intro n
 induction n with
 | zero=>intro _;rfl
 | succ n ih=>intro h;rw [eoF,ih fun k hk=>h k (by omega),h n (by omega),Q1b];rfl
theorem gx_tab {α:Type} [Inhabited α] (n:Nat) (g:Nat→α) {i:Nat} (h:i<n):gx (tab n g) i=g i:=by
 rw [gx_nat _ (by simpa using h)];simp [tab]
theorem gx_tabZ {α:Type} [Inhabited α] (n:Nat) (g:Nat→α) {j:Int} (h0:0≤j) (h1:j<n):gx (tab n g) j=g j.toNat:=by
 have e:j=(j.toNat:Int):=(zM h0).symm;rw [e,gx_tab n g (by omega)];rfl
theorem set_tab {α:Type} (n:Nat) (g:Nat→α) (i:Nat) (v:α):(tab n g).set i v=tab n fun j=>if j=i then v else g j:=by
 apply List.ext_getElem?;intro j;simp only [tab,List.getElem?_set,List.length_map,List.length_range,List.getElem?_map,List.getElem?_range]
 by_cases h:i=j
 ·subst h
  by_cases h2:i<n<;>simp [h2]
 rw [if_neg h]
 by_cases h2:j<n
 ·simp [h2,Ne.symm h]
 simp [h2]
theorem Q4n {α:Type} {n:Nat} {f g:Nat→α} (h:∀ i,i<n→f i=g i):tab n f=tab n g:=by
 simp only [tab];exact List.map_congr_left fun i hi=>h i (List.mem_range.1 hi)
theorem rep_tab {α:Type} (n:Nat) (x:α):zA n x=tab n fun _=>x:=by
 induction n with
 | zero=>rfl
 | succ n ih=>rw [Q1b,← ih,List.replicate_succ']
theorem par_step {α:Type} (F:Nat→Nat→α) (n k i:Nat) (h:k<n):(tab n fun j=>tab (if j<k then i+1 else i) (F j)).set k (tab i (F k)++[F k i])=tab n fun j=>tab (if j<k+1 then i+1 else i) (F j):=by
 rw [set_tab];refine Q4n fun j hj=>?_
 by_cases e:j=k
 ·subst e;rw [if_pos rfl,if_pos (by omega),Q1b]
 rw [if_neg e]
 by_cases e2:j<k
 ·rw [if_pos e2,if_pos (by omega)]
 rw [if_neg e2,if_neg (by omega)]
theorem e_colI {L:List (List Int)} {k:Int} (hn:L.length<1000000) (h0:0≤k) (hx:∀ x∈L,k<x.length):Q2g L k=some (L.map (ix · k)):=by
 unfold Q2g;refine Q1a L.length (fun i=>(L.take i).map (ix · k)) (e:=L.map (ix · k)) (by simp) (by omega) (fun i hi=>?_) (by simp) rfl;have h1:=hx _ (Q7e hi);have h2:=take_rx hi;simp (disch:=omega) [Q9,B64,h2];try omega
def sf0:SF:=⟨⟨0,[],[],[],[]⟩,[],[]⟩
noncomputable def tupG (list_:List SF) (at_:Int→Option (List (List Int))):Option (SF × List (List (List Int)) × Bool) :=
 ass ((0:Int)≤0∧0<(list_.length:Int)) <|
 ass (0≤(gx list_ 0).s.n∧(gx list_ 0).s.n≤1073741824) <|
 ass (0≤(gx list_ 0).s.n∧(gx list_ 0).s.n≤1073741824) <|
 ass ((zA (((gx list_ 0).s.n).toNat) ([]:List (List Int))).length=(((gx list_ 0).s.n).toNat)) <|
 (eoF at_ (((gx list_ 0).s.n).toNat)).bind fun v3 =>
 ass (v3.length=(zA (((gx list_ 0).s.n).toNat) ([]:List (List Int))).length) <|
 (Q18 ((gx list_ 0).s)).bind fun v7 =>
 ass (0≤(list_.length:Int)∧(list_.length:Int)≤1073741824) <|
 (QX (σ:=List Int × List (List (List Int)) × (List (List (ByteArray × Int))) × Int) (ε:=List Int × List (List (List Int)) × (List (List (ByteArray × Int)))) (fun s30 =>
  if s30.2.2.2<(v3.length:Int) then
   (
    ass (0≤s30.2.2.2∧s30.2.2.2<(v3.length:Int)) <|
    ass ((s30.1++[((gx v3 s30.2.2.2).length:Int)]).length≤1073741824) <|
    (Q2h (gx v3 s30.2.2.2)).bind fun v35 =>
    ass ((s30.2.2.1++[v35]).length≤1073741824) <|
    (QX (σ:=List (List (List Int)) × Int) (ε:=List (List (List Int)) × (List (List (ByteArray × Int)))) (fun s43 =>
     if s43.2<(list_.length:Int) then
      ass (0≤s43.2∧s43.2<(s43.1.length:Int)) <|
      (Q2g (gx v3 s30.2.2.2) s43.2).bind fun v46 =>
      ass (((gx s43.1 s43.2)++[v46]).length≤1073741824) <|
      ass (0≤s43.2∧s43.2<(s43.1.length:Int)) <|
      ass (B64 (s43.2+1)) <|
      some (Ctl.next (s43.1.set s43.2.toNat ((gx s43.1 s43.2)++[v46]),s43.2+1))
     else
      some (Ctl.ret (s43.1,s30.2.2.1++[v35]))) fuel (s30.2.1,0)).bind fun p43 =>
    some p43:Option (List (List (List Int)) × (List (List (ByteArray × Int))))).bind fun b32 =>
   ass (B64 (s30.2.2.2+1)) <|
   some (Ctl.next (s30.1++[((gx v3 s30.2.2.2).length:Int)],b32.1,b32.2,s30.2.2.2+1))
  else
   some (Ctl.ret (s30.1,s30.2.1,s30.2.2.1))) fuel ([],zA ((list_.length:Int).toNat) ([]:List (List Int)),[],0)).bind fun b9 =>
 (Q2t b9.1).bind fun v51 =>
 if ¬ (v51=true) then
  some ((⟨(⟨0,[],[],[],[]⟩:Cat),[],[]⟩:SF),[],false)
 else
  (QX (σ:=List (List Int) × Int) (ε:=List (List Int)) (fun s107 =>
   if s107.2<(((gx list_ 0).s.fr).length:Int) then
    ass (0≤s107.2∧s107.2<(((gx list_ 0).s.fr).length:Int)) <|
    ass (0≤ix ((gx list_ 0).s.fr) s107.2∧ix ((gx list_ 0).s.fr) s107.2<(v3.length:Int)) <|
    (QX (σ:=List Int × Int) (ε:=List Int) (fun s135 =>
     if s135.2<((gx v3 (ix ((gx list_ 0).s.fr) s107.2)).length:Int) then
      ass (0≤s135.2∧s135.2<((gx v3 (ix ((gx list_ 0).s.fr) s107.2)).length:Int)) <|
      (QX (σ:=List Int × Int) (ε:=List Int) (fun s146 =>
       if s146.2<((rx (gx v3 (ix ((gx list_ 0).s.fr) s107.2)) s135.2).length:Int) then
        ass (0≤s146.2∧s146.2<((rx (gx v3 (ix ((gx list_ 0).s.fr) s107.2)) s135.2).length:Int)) <|
        ass (0≤s146.2∧s146.2<(list_.length:Int)) <|
        ass (0≤s107.2∧s107.2<(((gx list_ s146.2).ac).length:Int)) <|
        ass (0≤ix (rx (gx v3 (ix ((gx list_ 0).s.fr) s107.2)) s135.2) s146.2∧ix (rx (gx v3 (ix ((gx list_ 0).s.fr) s107.2)) s135.2) s146.2<((rx ((gx list_ s146.2).ac) s107.2).length:Int)) <|
        ass ((s146.1++[ix (rx ((gx list_ s146.2).ac) s107.2) (ix (rx (gx v3 (ix ((gx list_ 0).s.fr) s107.2)) s135.2) s146.2)]).length≤1073741824) <|
        ass (B64 (s146.2+1)) <|
        some (Ctl.next (s146.1++[ix (rx ((gx list_ s146.2).ac) s107.2) (ix (rx (gx v3 (ix ((gx list_ 0).s.fr) s107.2)) s135.2) s146.2)],s146.2+1))
       else
        some (Ctl.ret s146.1)) fuel ([],0)).bind fun b138 =>
      ass (0≤s107.2∧s107.2<(((gx list_ 0).s.to).length:Int)) <|
      ass (0≤ix ((gx list_ 0).s.to) s107.2∧ix ((gx list_ 0).s.to) s107.2<(b9.2.2.length:Int)) <|
      (Q3U [b138]).bind fun v156 =>
      ass ((s135.1++[(Q2A v156 (gx b9.2.2 (ix ((gx list_ 0).s.to) s107.2))).getD 0]).length≤1073741824) <|
      ass (B64 (s135.2+1)) <|
      some (Ctl.next (s135.1++[(Q2A v156 (gx b9.2.2 (ix ((gx list_ 0).s.to) s107.2))).getD 0],s135.2+1))
     else
      some (Ctl.ret s135.1)) fuel ([],0)).bind fun b111 =>
    ass ((s107.1++[b111]).length≤1073741824) <|
    ass (B64 (s107.2+1)) <|
    some (Ctl.next (s107.1++[b111],s107.2+1))
   else
    some (Ctl.ret s107.1)) fuel ([],0)).bind fun b53 =>
  some ((⟨v7,b9.1,b53⟩:SF),b9.2.1,true)
def mvT (L:List SF) (a:Nat) (t:List Int):List Int:=tab L.length fun i:Nat=>ix (rx (gx L i).ac a) (ix t i)
structure TupP (L:List SF) (c:Cat) (E:Nat→List (List Int)):Prop where
 l0:0<L.length
 l2:L.length≤2
 sh:∀ i:Nat,i<L.length→(gx L i).Sh∧(gx L i).s=c
 len:∀ x:Nat,(x:Int)<c.n→(E x).length≤1000
 key:∀ x:Nat,(x:Int)<c.n→Keyed (E x)
 row:∀ x:Nat,(x:Int)<c.n→∀ t∈E x,t.length=L.length∧∀ i:Nat,i<L.length→0≤ix t i∧ix t i<ix (gx L i).sz x
 cl:∀ a:Nat,a<c.fr.length→∀ t∈E (ix c.fr a).toNat,mvT L a t∈E (ix c.to a).toNat
def tupZ (c:Cat) (E:Nat→List (List Int)):List Int:=tab c.n.toNat fun x=>((E x).length:Int)
def tupR (L:List SF) (c:Cat) (E:Nat→List (List Int)):List (List (List Int)):=tab L.length fun i:Nat=>tab c.n.toNat fun x=>(E x).map fun t=>ix t i
noncomputable def tupA (L:List SF) (c:Cat) (E:Nat→List (List Int)):List (List Int):=tab c.fr.length fun a=>(E (ix c.fr a).toNat).map fun t=>posL (E (ix c.to a).toNat) (mvT L a t)
theorem TupP.cat {L:List SF} {c:Cat} {E:Nat→List (List Int)} (h:TupP L c E):c.Is∧(c.n.toNat:Int)=c.n∧c.n.toNat≤8∧c.fr.length≤40∧c.to.length=c.fr.length∧∀ a:Nat,a<c.fr.length→(0≤ix c.fr a∧ix c.fr a<c.n)∧(0≤ix c.to a∧ix c.to a<c.n):=by
 obtain ⟨h1,h2⟩:=h.sh 0 h.l0;have hC:c.Is:=h2 ▸ h1.cat;have n8:=hC.1.n8;have m40:=hC.1.m40;have li:=hC.1.li;have lt:=hC.1.lt;refine ⟨hC,by omega,by omega,by omega,by omega,fun a ha=>?_⟩;obtain ⟨q1,q2⟩:=hC.1.frn ha;omega
theorem e_tupG {L:List SF} {c:Cat} {E:Nat→List (List Int)} (h:TupP L c E) {at_:Int→Option (List (List Int))} (hat:∀ x:Nat,(x:Int)<c.n→at_ x=some (E x)):tupG L at_=some (if (tupZ c E).all (inR 17)=true then (⟨c,tupZ c E,tupA L c E⟩,tupR L c E,true) else (sf0,[],false)):=by
 obtain ⟨hC,hN,hN8,hM,hT,hft⟩:=h.cat;have f0:(gx L 0).s=c:=by simpa using (h.sh 0 h.l0).2
 have l0:=h.l0;have l2:=h.l2;generalize hn:c.n.toNat=N at hN hN8;unfold tupG;rw [f0,hn];rw [Q9 (by omega),Q9 (by omega),Q9 (by omega),Q9 (by simp),eoF_tab N fun k hk=>hat k (by omega)];simp only [zN];rw [Q9 (by simp)];unfold Q18;rw [Q9 hC.1.size2.1];simp only [zN];rw [Q9 (by omega)];refine run_bind N (fun i:Nat=>(tab i (fun x=>((E x).length:Int)),tab L.length (fun j:Nat=>tab i fun x=>(E x).map fun t=>ix t j),tab i (fun x=>plL (E x)),(i:Int))) (e:=(tupZ c E,tupR L c E,tab N fun x=>plL (E x))) ?_ (by omega) (fun i hi=>?_) (by simp [tupZ,tupR,hn]) ?_
 ·simp [rep_tab,tab_zero]
 ·have hE:=h.len i (by omega);have hrow:=h.row i (by omega);simp only;rw [if_pos (by simp;omega),Q9 (by simp;omega),Q9 (by simp;omega),gx_tab N E hi,e_places (by omega) (fun x hx=>by have:=(hrow x hx).1;omega)];simp only [zN];rw [Q9 (by simp;omega),Option.bind_assoc];refine Q1a L.length (fun k=>tab L.length (fun j:Nat=>tab (if j<k then i+1 else i) fun x=>(E x).map fun t=>ix t j)) (e:=(tab L.length (fun j:Nat=>tab (i+1) fun x=>(E x).map fun t=>ix t j),tab i (fun x=>plL (E x))++[plL (E i)])) (by simp) (by omega) (fun k hk=>?_) ?_ ?_
  ·have hg:gx (tab L.length (fun j:Nat=>tab (if j<k then i+1 else i) fun x=>(E x).map fun t=>ix t j)) (k:Int)=tab i fun x=>(E x).map fun t=>ix t k:=by
    rw [gx_tab _ _ hk,if_neg (by omega)]
   simp only;rw [if_pos (by omega),Q9 (by simp;omega),e_colI (by omega) (by omega) (fun x hx=>by have:=(hrow x hx).1;omega)];simp only [zN,hg];rw [Q9 (by simp;omega),Q9 (by simp;omega),Q9 (by unfold B64;omega)];have:=par_step (fun j x=>(E x).map fun t=>ix t j) L.length k i hk;rw [Int.toNat_natCast,this]
  ·simp only;rw [if_neg (by omega)]
   congr 3
   exact Q4n fun j hj=>by rw [if_pos hj]
  simp only [zN];rw [Q9 (by unfold B64;omega),Q1b,Q1b];rfl
 simp only;unfold Q2t Q3x;rw [Q9 (by unfold B64;omega)];simp only [zN]
 by_cases hf:(tupZ c E).all (inR 17)=true
 case neg=>rw [if_pos hf,if_neg hf];rfl
 rw [if_neg (fun q=>q hf),if_pos hf];refine Q1a c.fr.length (fun a=>tab a fun a=>(E (ix c.fr a).toNat).map fun t=>posL (E (ix c.to a).toNat) (mvT L a t)) (e:=tupA L c E) rfl (by omega) (fun a ha=>?_) (by simp [tupA]) rfl;obtain ⟨q1,q2⟩:=hft a ha;have hEf:=h.len (ix c.fr a).toNat (by omega);have hrow:=h.row (ix c.fr a).toNat (by omega);have hcl:=h.cl a ha;have hkey:=h.key (ix c.to a).toNat (by omega);have hgE:gx (tab N E) (ix c.fr a)=E (ix c.fr a).toNat:=gx_tabZ N E (by omega) (by omega);have hgP:gx (tab N fun x=>plL (E x)) (ix c.to a)=plL (E (ix c.to a).toNat):=gx_tabZ N _ (by omega) (by omega);simp only [hgE];rw [if_pos (by omega),Q9 (by omega),Q9 (by simp;omega)];generalize hEE:E (ix c.fr a).toNat=T at hEf hrow hcl;refine Q1a T.length (fun k=>(T.take k).map fun t=>posL (E (ix c.to a).toNat) (mvT L a t)) (e:=T.map fun t=>posL (E (ix c.to a).toNat) (mvT L a t)) (by simp) (by omega) (fun k hk=>?_) (by simp) ?_
 ·have ht:=Q7e hk;obtain ⟨r1,r2⟩:=hrow _ ht;have hin:=hcl _ ht;obtain ⟨j,hj,hj2,hj3,hj4⟩:=hkey.at hin;simp only;rw [if_pos (by omega),Q9 (by omega)];refine Q1a (rx T k).length (fun i=>tab i fun i:Nat=>ix (rx (gx L i).ac a) (ix (rx T k) i)) (e:=mvT L a (rx T k)) rfl (by omega) (fun i hi=>?_) (by simp [mvT,r1]) ?_
  ·obtain ⟨s1,s2⟩:=h.sh i (by omega);have hla:=s1.la;have hac:=(s1.act a (by rw [hla,s2];exact ha)).1;have hb:=r2 i (by omega);rw [s2] at hla hac;have e1:((ix c.fr a).toNat:Int)=ix c.fr a:=zM q1.1;rw [e1] at hb;simp only;rw [if_pos (by omega),Q9 (by omega),Q9 (by omega),Q9 (by omega),Q9 (by omega),Q9 (by simp;omega),Q9 (by unfold B64;omega),Q1b]
  simp only [hgP];rw [Q9 (by omega),Q9 (by simp;omega),e_key (by simp [mvT];omega)];simp only [zN];have hfind:(Q2A (keyB (mvT L a (rx T k))) (plL (E (ix c.to a).toNat))).getD 0=posL (E (ix c.to a).toNat) (mvT L a (rx T k)):=by
   rw [hj3];unfold plL;rw [hj4];rfl
  rw [hfind,Q9 (by simp;omega),Q9 (by unfold B64;omega),take_rx hk,List.map_append];rfl
 rw [Q9 (by simp;omega),Q9 (by unfold B64;omega),Q1b,hEE]
end
end Go.Vc.T
namespace Go.Vc.T
open Go Go.Vc Go.Proofs
attribute [local simp] unk unA unE unT unC flat
noncomputable def Q1u (f_:SF) (g_:SF):Option (SF × List (List Int) × List (List Int)) :=
 (Q2i f_.s).bind fun v1 =>
 (QX (σ:=List Int × List (List Int) × List (List Int) × Int) (ε:=List Int × List (List Int) × List (List Int)) (fun s40 =>
  if s40.2.2.2<(f_.sz.length:Int) then
   (QX (σ:=List Int × List Int × Int) (ε:=List Int × List Int) (fun s58 =>
    ass (0≤s40.2.2.2∧s40.2.2.2<(f_.sz.length:Int)) <|
    if s58.2.2<(ix f_.sz s40.2.2.2) then
     (
      (QX (σ:=List Int × List Int × Int) (ε:=List Int × List Int) (fun s67 =>
       ass (0≤s40.2.2.2∧s40.2.2.2<(g_.sz.length:Int)) <|
       if s67.2.2<(ix g_.sz s40.2.2.2) then
        ass ((s67.1++[s58.2.2]).length≤1073741824) <|
        ass ((s67.2.1++[s67.2.2]).length≤1073741824) <|
        ass (B64 (s67.2.2+1)) <|
        some (Ctl.next (s67.1++[s58.2.2],s67.2.1++[s67.2.2],s67.2.2+1))
       else
        some (Ctl.ret (s67.1,s67.2.1))) fuel (s58.1,s58.2.1,0)).bind fun p67 =>
      some p67:Option (List Int × List Int)).bind fun b61 =>
     ass (B64 (s58.2.2+1)) <|
     some (Ctl.next (b61.1,b61.2,s58.2.2+1))
    else
     some (Ctl.ret (s58.1,s58.2.1))) fuel ([],[],0)).bind fun b42 =>
   ass ((s40.1++[(b42.1.length:Int)]).length≤1073741824) <|
   ass ((s40.2.1++[b42.1]).length≤1073741824) <|
   ass ((s40.2.2.1++[b42.2]).length≤1073741824) <|
   ass (B64 (s40.2.2.2+1)) <|
   some (Ctl.next (s40.1++[(b42.1.length:Int)],s40.2.1++[b42.1],s40.2.2.1++[b42.2],s40.2.2.2+1))
  else
   some (Ctl.ret (s40.1,s40.2.1,s40.2.2.1))) fuel ([],[],[],0)).bind fun b2 =>
 (QX (σ:=List (List Int) × Int) (ε:=List (List Int)) (fun s116 =>
  if s116.2<(f_.ac.length:Int) then
   ass (0≤s116.2∧s116.2<(f_.s.fr.length:Int)) <|
   ass (0≤s116.2∧s116.2<(f_.s.to.length:Int)) <|
   (QX (σ:=List Int × Int) (ε:=List Int) (fun s136 =>
    ass (0≤ix f_.s.fr s116.2∧ix f_.s.fr s116.2<(b2.2.1.length:Int)) <|
    if s136.2<((rx b2.2.1 (ix f_.s.fr s116.2)).length:Int) then
     ass (0≤s116.2∧s116.2<(f_.ac.length:Int)) <|
     ass (0≤ix f_.s.fr s116.2∧ix f_.s.fr s116.2<(b2.2.1.length:Int)) <|
     ass (0≤s136.2∧s136.2<((rx b2.2.1 (ix f_.s.fr s116.2)).length:Int)) <|
     ass (0≤ix (rx b2.2.1 (ix f_.s.fr s116.2)) s136.2∧ix (rx b2.2.1 (ix f_.s.fr s116.2)) s136.2<((rx f_.ac s116.2).length:Int)) <|
     ass (0≤ix f_.s.to s116.2∧ix f_.s.to s116.2<(g_.sz.length:Int)) <|
     ass (B64 ((ix (rx f_.ac s116.2) (ix (rx b2.2.1 (ix f_.s.fr s116.2)) s136.2)) * (ix g_.sz (ix f_.s.to s116.2)))) <|
     ass (0≤s116.2∧s116.2<(g_.ac.length:Int)) <|
     ass (0≤ix f_.s.fr s116.2∧ix f_.s.fr s116.2<(b2.2.2.length:Int)) <|
     ass (0≤s136.2∧s136.2<((rx b2.2.2 (ix f_.s.fr s116.2)).length:Int)) <|
     ass (0≤ix (rx b2.2.2 (ix f_.s.fr s116.2)) s136.2∧ix (rx b2.2.2 (ix f_.s.fr s116.2)) s136.2<((rx g_.ac s116.2).length:Int)) <|
     ass (B64 (((ix (rx f_.ac s116.2) (ix (rx b2.2.1 (ix f_.s.fr s116.2)) s136.2)) * (ix g_.sz (ix f_.s.to s116.2)))+(ix (rx g_.ac s116.2) (ix (rx b2.2.2 (ix f_.s.fr s116.2)) s136.2)))) <|
     ass ((s136.1++[((ix (rx f_.ac s116.2) (ix (rx b2.2.1 (ix f_.s.fr s116.2)) s136.2)) * (ix g_.sz (ix f_.s.to s116.2)))+(ix (rx g_.ac s116.2) (ix (rx b2.2.2 (ix f_.s.fr s116.2)) s136.2))]).length≤1073741824) <|
     ass (B64 (s136.2+1)) <|
     some (Ctl.next (s136.1++[((ix (rx f_.ac s116.2) (ix (rx b2.2.1 (ix f_.s.fr s116.2)) s136.2)) * (ix g_.sz (ix f_.s.to s116.2)))+(ix (rx g_.ac s116.2) (ix (rx b2.2.2 (ix f_.s.fr s116.2)) s136.2))],s136.2+1))
    else
     some (Ctl.ret s136.1)) fuel ([],0)).bind fun b120 =>
   ass ((s116.1++[b120]).length≤1073741824) <|
   ass (B64 (s116.2+1)) <|
   some (Ctl.next (s116.1++[b120],s116.2+1))
  else
   some (Ctl.ret s116.1)) fuel ([],0)).bind fun b78 =>
 some ((⟨v1,b2.1,b78⟩:SF),b2.2.1,b2.2.2)
@[simp] abbrev YX (a:Cat) (b:List (AV)):List (AV):=iV a.n::.own 4 0 a.fr.length::.own 5 0 a.to.length::.own 6 0 a.id.length::.own 7 0 a.cs.length::b
@[simp] abbrev Y04 (a:List (AV)):List (AV):=iV 0::nS::nS::nS::nS::nS::nS::a
@[simp] abbrev Y5 (a b:SF) (c:Cat) (d:List Int × List (List Int) × List (List Int) × Int) (e:List (Nat × Ent)):List (Nat × Ent):=(0,.mix 7 [(SF.cells true a)])::(1,.mix 7 [(SF.cells true b)])::(2,.mix 7 [(Y04 [])])::(3,.mix 7 [(YX c [.own 8 0 d.1.length,nS])])::(4,rI c.fr)::(5,rI c.to)::(6,rI c.id)::(7,.row 1 (Ls c.cs))::(8,rI d.1)::(9,.row 1 (Ls d.2.1))::(10,.row 1 (Ls d.2.2.1))::e
@[simp] abbrev Y6 (a b:SF) (c:Cat) (d:List Int × List (List Int) × List (List Int)) (e:List (List Int) × Int) (f:List (Nat × Ent)):List (Nat × Ent):=(0,.mix 7 [(SF.cells true a)])::(1,.mix 7 [(SF.cells true b)])::(2,.mix 7 [(Y04 [])])::(3,.mix 7 [(YX c [.own 8 0 d.1.length,.own 9 0 e.1.length])])::(4,rI c.fr)::(5,rI c.to)::(6,rI c.id)::(7,.row 1 (Ls c.cs))::(8,rI d.1)::(9,.row 1 (Ls e.1))::(10,.row 1 (Ls d.2.1))::(11,.row 1 (Ls d.2.2))::f
@[simp] abbrev Y7 (a:List (Nat × AV)):List (Nat × AV):=(2,.adr 0 0 0)::(3,.adr 1 0 0)::(4,.adr 2 0 0)::a
@[simp] abbrev Y9 (a:List (Nat × Ent)):List (Nat × Ent):=(0,.mix 7 [(Y04 [])])::a
@[simp] abbrev Ya (a:Cat) (b:List (Nat × Ent)):List (Nat × Ent):=(4,rI a.fr)::(5,rI a.to)::(6,rI a.id)::(7,.row 1 (Ls a.cs))::b
@[simp] abbrev Yg (a b:SF) (c:List (Nat × Ent)):List (Nat × Ent):=(0,.mix 7 [(SF.cells true a)])::(1,.mix 7 [(SF.cells true b)])::(2,.mix 7 [(Y04 [])])::c
@[simp] abbrev Yh (a:List Int × List (List Int) × List (List Int) × Int) (b:List (Nat × AV)):List (Nat × AV):=(7,.adr 3 0 0)::(8,.own 9 0 a.2.1.length)::(9,.own 10 0 a.2.2.1.length)::(10,iV a.2.2.2)::b
@[simp] abbrev Yo (a:Cat) (b:List (Nat × Ent)):List (Nat × Ent):=(3,.mix 7 [(YX a [nS,nS])])::b
@[simp] abbrev Yu (a:List Int × List (List Int) × List (List Int)) (b:List (List Int) × Int) (c:List (Nat × AV)):List (Nat × AV):=(7,.adr 3 0 0)::(8,.own 10 0 a.2.1.length)::(9,.own 11 0 a.2.2.length)::(15,iV b.2)::c
@[simp] abbrev YF (a:Cat) (b:List Int × List (List Int) × List (List Int) × Int) (c:List Int × List Int) (d:List (Nat × Ent)):List (Nat × Ent):=(3,.mix 7 [(YX a [.own 8 0 ((b.1++[(c.1.length:Int)]).length),nS])])::d
@[simp] abbrev YK (a:List (Nat × AV)):List (Nat × AV):=(4,.adr 0 0 0)::a
@[simp] abbrev YS (a:Cat) (b:List (Nat × Ent)):List (Nat × Ent):=(3,.mix 7 [(YX a [.own 10 0 0,nS])])::b
@[simp] abbrev YU (a:SF) (b:List (List Int) × Int) (c:List (Nat × AV)):List (Nat × AV):=(16,iV (ix a.s.fr b.2))::(17,iV (ix a.s.to b.2))::c
@[simp] abbrev Y02 (a:Cat) (b:List (AV)):List (AV):=iV a.n::.own 2 0 a.fr.length::.own 3 0 a.to.length::.own 4 0 a.id.length::.own 5 0 a.cs.length::b
@[simp] abbrev Y03 (a:Cat) (b:List (AV)):List (AV):=iV a.n::.own 1 0 a.fr.length::.own 2 0 a.to.length::.own 3 0 a.id.length::.own 4 0 a.cs.length::b
theorem Q6j [Kd Tryz.prog] (f_:SF) (g_:SF) (r:SF × List (List Int) × List (List Int)) (h:Q1u f_ g_=some r):Contract Tryz.prog 74 [.agg (f_.cells true),.agg (g_.cells true)] (.tup [.agg (r.1.cells true),.lst true 1 (Ls r.2.1),.lst true 1 (Ls r.2.2)]):=by
 refine Qt (rvs:=[.cell 4 34,.tmp 5,.tmp 6]) (rs:=[.agg (r.1.cells true),.lst true 1 (Ls r.2.1),.lst true 1 (Ls r.2.2)]) Tryz.func74 rfl rfl rfl rfl (by simp [Tryz.f74]) fun F hN hP=>?_;unfold Q1u at h;refine Q3 (runQ hN fun K hK=>?_);simp [eM,eL,eI,Q2,Qk,Qi,Cat.cells,SF.cells];repeat refine sdQ ?_
 refine hK _ ?_;clear hK K;refine tn (Qa (st':=⟨Y7 [],Yg f_ g_ [],3⟩) (Q1y 3) (Q3 (runQ hN fun K hK=>?_)));simp [eM,eL,eI,Q2,Qk,Qi,Cat.cells,SF.cells];repeat with_reducible refine sdQ ?_
 replace ⟨v1,hv1,h⟩:=bind_some h;refine Q0 (Q6I _ v1 hv1) (.cons (.aggL (.cons .val (.cons .lst (.cons .lst (.cons .lst (.cons .lst .nil)))))) .nil) ?_;simp [eM,eL,eI,Q2,Qk,Qi,Cat.cells,SF.cells];repeat refine sdQ ?_
 refine hK _ ?_;clear hK K;refine tn (Qa (st':=⟨Y7 [(7,.adr 3 0 0),(8,.own 8 0 0),(9,.own 9 0 0)],Yg f_ g_ (Yo v1 (Ya v1 [(8,.mix 1 []),(9,.mix 1 [])])),10⟩) (Qw [(0,0),(1,1),(2,2),(10,3),(4,4),(5,5),(6,6),(7,7),(8,8),(9,9)]) (Q3 (Q3 (runQ hN fun K hK=>?_))));simp [eM,eL,eI,Q2,Qk,Qi,Cat.cells,SF.cells];repeat refine sdQ ?_
 refine hK _ (tn (Qa (st':=⟨Y7 [(7,.adr 3 0 0),(8,.own 8 0 0),(9,.own 9 0 0),(10,iV 0)],Yg f_ g_ (Yo v1 (Ya v1 [(8,.mix 1 []),(9,.mix 1 [])])),10⟩) (Q1y 10) ?_));clear hK K;replace ⟨e2,h,h2⟩:=bind_some h;refine QM (fun b2:List Int × List (List Int) × List (List Int)=>⟨Y7 [(7,.adr 3 0 0),(8,.own 9 0 b2.2.1.length),(9,.own 10 0 b2.2.2.length)],Yg f_ g_ ((3,.mix 7 [(YX v1 [.own 8 0 b2.1.length,nS])])::Ya v1 [(8,rI b2.1),(9,.row 1 (Ls b2.2.1)),(10,.row 1 (Ls b2.2.2))]),11⟩) (fun b2=>b2=e2) ?_ ?_
 ·refine Q6 (QW h (fun s40:List Int × List (List Int) × List (List Int) × Int=>⟨Y7 (Yh s40 []),Y5 f_ g_ v1 s40 [],11⟩) (Q3C ⟨Y7 [(7,.adr 3 0 0),(8,.own 8 0 0),(9,.own 9 0 0),(10,iV 0)],Yg f_ g_ (YS v1 (Ya v1 [(8,.row 1 (Ls [])),(9,.row 1 (Ls [])),(10,rI [])])),11⟩ (Wk.nils [(10,1)] (by simp) (by simp) (by simp [nlA]) (by simp [entN,nlL,nlA,Cat.cells,SF.cells,UA,U1,IA,I1,LA,L1,BA,B1,EA,E1,E2,eB,eI,eL,eM]) (by simp)) (Qw [(0,0),(1,1),(2,2),(3,3),(4,4),(5,5),(6,6),(7,7),(10,8),(8,9),(9,10)])) ?_);clear h;intro k40 s40 c40 h hk40;refine Q3 (Q3 (runQ hN fun K hK=>?_));simp [eM,eL,eI,Q2,Qk,Qi,Cat.cells,SF.cells];repeat refine sdQ ?_
  refine hK _ ?_;clear hK K;refine tn (Q7 rfl (fun g=>?_) fun g=>?_)
  ·have g41:s40.2.2.2<(f_.sz.length:Int):=gQ;clear g;replace h:=if_l g41 h;refine Q8 (tn (Q3 (Q6 (Q3 (runQ hN fun K hK=>?_)))));simp [eM,eL,eI,Q2,Qk,Qi,Cat.cells,SF.cells];(repeat refine sdQ ?_);refine hK _ ?_;clear hK K;refine tn (Qa (st':=⟨Y7 (Yh s40 [(11,.own 11 0 0),(12,.own 12 0 0)]),Y5 f_ g_ v1 s40 [(11,.mix 1 []),(12,.mix 1 [])],13⟩) (Q1y 13) (Q3 (Q3 (runQ hN fun K hK=>?_))));simp [eM,eL,eI,Q2,Qk,Qi,Cat.cells,SF.cells];(repeat refine sdQ ?_);refine hK _ (tn (Qa (st':=⟨Y7 (Yh s40 [(11,.own 11 0 0),(12,.own 12 0 0),(13,iV 0)]),Y5 f_ g_ v1 s40 [(11,.mix 1 []),(12,.mix 1 [])],13⟩) (Q1y 13) ?_));clear hK K;replace ⟨e42,h,h42⟩:=bind_some h;refine QM (fun b42:List Int × List Int=>⟨Y7 (Yh s40 [(11,.own 11 0 b42.1.length),(12,.own 12 0 b42.2.length)]),Y5 f_ g_ v1 s40 [(11,rI b42.1),(12,rI b42.2)],13⟩) (fun b42=>b42=e42) ?_ ?_
   ·refine Q6 (QW h (fun s58:List Int × List Int × Int=>⟨Y7 (Yh s40 [(11,.own 11 0 s58.1.length),(12,.own 12 0 s58.2.1.length),(13,iV s58.2.2)]),Y5 f_ g_ v1 s40 [(11,rI s58.1),(12,rI s58.2.1)],13⟩) (Q3C ⟨Y7 (Yh s40 [(11,.own 11 0 0),(12,.own 12 0 0),(13,iV 0)]),Y5 f_ g_ v1 s40 [(11,rI []),(12,rI [])],13⟩ (Wk.nils [] (by simp) (by simp) (by simp [nlA]) (by simp [entN,nlL,nlA,Cat.cells,SF.cells,UA,U1,IA,I1,LA,L1,BA,B1,EA,E1,E2,eB,eI,eL,eM]) (by simp)) (Q1y 13)) ?_);clear h;intro k58 s58 c58 h hk58;refine Q3 (Q3 (runQ hN fun K hK=>?_));replace ⟨a59,h⟩:=Q5 h;simp [eM,eL,eI,Q2,Qk,Qi,Cat.cells,SF.cells,at_I a59];(repeat refine sdQ ?_);refine hK _ ?_;clear hK K;refine tn (Q7 rfl (fun g=>?_) fun g=>?_)
    ·have g60:s58.2.2<(ix f_.sz s40.2.2.2):=gQ;clear g;replace h:=if_l g60 h;refine Q8 (tn (Q3 ?_));replace ⟨e61,h,h61⟩:=bind_some h;refine QM (fun b61:List Int × List Int=>⟨Y7 (Yh s40 [(11,.own 11 0 b61.1.length),(12,.own 12 0 b61.2.length),(13,iV s58.2.2)]),Y5 f_ g_ v1 s40 [(11,rI b61.1),(12,rI b61.2)],13⟩) (fun b61=>b61=e61) ?_ ?_
     ·refine Q6 (Q3 (runQ hN fun K hK=>?_));simp [eM,eL,eI,Q2,Qk,Qi,Cat.cells,SF.cells];(repeat refine sdQ ?_);refine hK _ (tn (Qa (st':=⟨Y7 (Yh s40 [(11,.own 11 0 s58.1.length),(12,.own 12 0 s58.2.1.length),(13,iV s58.2.2),(14,iV 0)]),Y5 f_ g_ v1 s40 [(11,rI s58.1),(12,rI s58.2.1)],13⟩) (Q1y 13) (Q6 ?_)));clear hK K;replace ⟨e67,he67,h67⟩:=bind_some h;refine QW he67 (fun s67:List Int × List Int × Int=>⟨Y7 (Yh s40 [(11,.own 11 0 s67.1.length),(12,.own 12 0 s67.2.1.length),(13,iV s58.2.2),(14,iV s67.2.2)]),Y5 f_ g_ v1 s40 [(11,rI s67.1),(12,rI s67.2.1)],13⟩) (Q1y 13) ?_;intro k67 s67 c67 h hk67;refine Q3 (Q3 (runQ hN fun K hK=>?_));replace ⟨a68,h⟩:=Q5 h;simp [eM,eL,eI,Q2,Qk,Qi,Cat.cells,SF.cells,at_I a68];(repeat refine sdQ ?_);refine hK _ ?_;clear hK K;refine tn (Q7 rfl (fun g=>?_) fun g=>?_)
      ·have g69:s67.2.2<(ix g_.sz s40.2.2.2):=gQ;clear g;replace h:=if_l g69 h;refine Q8 (tn (Q3 (Q6 (Q3 (runQ hN fun K hK=>?_)))));replace ⟨a70,h⟩:=Q5 h;(try simp only [qJ,qI,zE] at a70);simp [eM,eL,eI,Q2,Qk,Qi,Cat.cells,SF.cells,a70];(repeat refine sdQ ?_);refine hK _ ?_;clear hK K;refine tn (Qa (st':=⟨Y7 (Yh s40 [(11,.own 11 0 ((s67.1++[s58.2.2]).length)),(12,.own 12 0 s67.2.1.length),(13,iV s58.2.2),(14,iV s67.2.2)]),Y5 f_ g_ v1 s40 [(11,rI (s67.1++[s58.2.2])),(12,rI s67.2.1)],13⟩) (Qw [(0,0),(1,1),(2,2),(3,3),(4,4),(5,5),(6,6),(7,7),(8,8),(9,9),(10,10),(14,11),(12,12)]) (runQ hN fun K hK=>?_));replace ⟨a71,h⟩:=Q5 h;(try simp only [qJ,qI,zE] at a71);simp [eM,eL,eI,Q2,Qk,Qi,Cat.cells,SF.cells,a71];(repeat refine sdQ ?_);refine hK _ ?_;clear hK K;refine bn (tn (Qa (st':=⟨Y7 (Yh s40 [(11,.own 11 0 ((s67.1++[s58.2.2]).length)),(12,.own 12 0 ((s67.2.1++[s67.2.2]).length)),(13,iV s58.2.2),(14,iV s67.2.2)]),Y5 f_ g_ v1 s40 [(11,rI (s67.1++[s58.2.2])),(12,rI (s67.2.1++[s67.2.2]))],13⟩) (Qw [(0,0),(1,1),(2,2),(3,3),(4,4),(5,5),(6,6),(7,7),(8,8),(9,9),(10,10),(11,11),(14,12)]) (runQ hN fun K hK=>?_)));replace ⟨a72,h⟩:=Q5 h;simp [eM,eL,eI,Q2,Qk,Qi,Cat.cells,SF.cells,QE a72];(repeat refine sdQ ?_);refine hK _ ?_;clear hK K;cases h;exact rn (s':=(s67.1++[s58.2.2],s67.2.1++[s67.2.2],s67.2.2+1)) hk67 (Q1y 13)
      have g69:¬ (s67.2.2<(ix g_.sz s40.2.2.2)):=gQ;clear g;replace h:=if_r g69 h;refine Qo (tx (lx (bh (bn ?_))));cases h;have q:_=e67:=hk67;have h:=h67;rw [← q] at h;clear q;(try dsimp only at h);exact jn (b:=(s67.1,s67.2.1)) (zH h) (Q1y 13)
     intro b61 hb61;have h:=h61;(try rw [← hb61] at h);clear h61;(try dsimp only at h);refine runQ hN fun K hK=>?_;replace ⟨a73,h⟩:=Q5 h;simp [eM,eL,eI,Q2,Qk,Qi,Cat.cells,SF.cells,QE a73];(repeat refine sdQ ?_);refine hK _ ?_;clear hK K;cases h;exact rn (s':=(b61.1,b61.2,s58.2.2+1)) hk58 (Q1y 13)
    have g60:¬ (s58.2.2<(ix f_.sz s40.2.2.2)):=gQ;clear g;replace h:=if_r g60 h;refine Qo (tx (lx (bh ?_)));cases h;exact jn (b:=(s58.1,s58.2.1)) hk58 (Q1y 13)
   intro b42 hb42;have h:=h42;(try rw [← hb42] at h);clear h42;(try dsimp only at h);refine Q3 (runQ hN fun K hK=>?_);replace ⟨a74,h⟩:=Q5 h;(try simp only [qJ,qI,zE] at a74);simp [eM,eL,eI,Q2,Qk,Qi,Cat.cells,SF.cells,a74];(repeat refine sdQ ?_);refine hK _ ?_;clear hK K;refine tn (Qa (st':=⟨Y7 (Yh s40 [(11,.own 11 0 b42.1.length),(12,.own 12 0 b42.2.length)]),Yg f_ g_ (YF v1 s40 b42 (Ya v1 [(8,rI (s40.1++[(b42.1.length:Int)])),(9,.row 1 (Ls s40.2.1)),(10,.row 1 (Ls s40.2.2.1)),(11,rI b42.1),(12,rI b42.2)])),13⟩) (Qw [(0,0),(1,1),(2,2),(3,3),(4,4),(5,5),(6,6),(7,7),(14,8),(9,9),(10,10),(11,11),(12,12)]) (Q3 (runQ hN fun K hK=>?_)));replace ⟨a75,h⟩:=Q5 h;(try simp only [qJ,qI,zE] at a75);simp [eM,eL,eI,Q2,Qk,Qi,Cat.cells,SF.cells,a75];(repeat refine sdQ ?_);refine hK _ ?_;clear hK K;refine tn (Qa (st':=⟨Y7 [(7,.adr 3 0 0),(8,.own 9 0 ((s40.2.1++[b42.1]).length)),(9,.own 10 0 s40.2.2.1.length),(10,iV s40.2.2.2),(12,.own 11 0 b42.2.length)],Yg f_ g_ (YF v1 s40 b42 (Ya v1 [(8,rI (s40.1++[(b42.1.length:Int)])),(9,.row 1 (Ls (s40.2.1++[b42.1]))),(10,.row 1 (Ls s40.2.2.1)),(11,rI b42.2)])),12⟩) (Qw [(0,0),(1,1),(2,2),(3,3),(4,4),(5,5),(6,6),(7,7),(8,8),(14,9),(10,10),(12,11)]) (runQ hN fun K hK=>?_));replace ⟨a76,h⟩:=Q5 h;(try simp only [qJ,qI,zE] at a76);simp [eM,eL,eI,Q2,Qk,Qi,Cat.cells,SF.cells,a76];(repeat refine sdQ ?_);refine hK _ (bn (tn ?_));clear hK K
   refine Qa (st':=⟨Y7 [(7,.adr 3 0 0),(8,.own 9 0 ((s40.2.1++[b42.1]).length)),(9,.own 10 0 ((s40.2.2.1++[b42.2]).length)),(10,iV s40.2.2.2)],Yg f_ g_ (YF v1 s40 b42 (Ya v1 [(8,rI (s40.1++[(b42.1.length:Int)])),(9,.row 1 (Ls (s40.2.1++[b42.1]))),(10,.row 1 (Ls (s40.2.2.1++[b42.2])))])),11⟩) (Qw [(0,0),(1,1),(2,2),(3,3),(4,4),(5,5),(6,6),(7,7),(8,8),(9,9),(13,10)]) (runQ hN fun K hK=>?_);replace ⟨a77,h⟩:=Q5 h;simp [eM,eL,eI,Q2,Qk,Qi,Cat.cells,SF.cells,QE a77];(repeat refine sdQ ?_);refine hK _ ?_;clear hK K;cases h;exact rn (s':=(s40.1++[(b42.1.length:Int)],s40.2.1++[b42.1],s40.2.2.1++[b42.2],s40.2.2.2+1)) hk40 (Q1y 11)
  have g41:¬ (s40.2.2.2<(f_.sz.length:Int)):=gQ;clear g;replace h:=if_r g41 h;refine Qo (tx (lx (bh ?_)));cases h;exact jn (b:=(s40.1,s40.2.1,s40.2.2.1)) hk40 (Q1y 11)
 intro b2 hb2;have h:=h2;try rw [← hb2] at h
 clear h2;try dsimp only at h
 refine Q3 (Q3 (runQ hN fun K hK=>?_));simp [eM,eL,eI,Q2,Qk,Qi,Cat.cells,SF.cells];repeat refine sdQ ?_
 refine hK _ (tn (Qa (st':=⟨Y7 [(7,.adr 3 0 0),(8,.own 9 0 b2.2.1.length),(9,.own 10 0 b2.2.2.length),(15,iV 0)],Yg f_ g_ ((3,.mix 7 [(YX v1 [.own 8 0 b2.1.length,nS])])::Ya v1 [(8,rI b2.1),(9,.row 1 (Ls b2.2.1)),(10,.row 1 (Ls b2.2.2))]),11⟩) (Q1y 11) ?_));clear hK K;replace ⟨e78,h,h78⟩:=bind_some h;refine QM (fun b78:List (List Int)=>⟨YK [(7,.adr 1 0 0),(8,.own 8 0 b2.2.1.length),(9,.own 9 0 b2.2.2.length)],Y9 [(1,.mix 7 [(Y02 v1 [.own 6 0 b2.1.length,.own 7 0 b78.length])]),(2,rI v1.fr),(3,rI v1.to),(4,rI v1.id),(5,.row 1 (Ls v1.cs)),(6,rI b2.1),(7,.row 1 (Ls b78)),(8,.row 1 (Ls b2.2.1)),(9,.row 1 (Ls b2.2.2))],10⟩) (fun b78=>b78=e78) ?_ ?_
 ·refine Q6 (QW h (fun s116:List (List Int) × Int=>⟨Y7 (Yu b2 s116 []),Y6 f_ g_ v1 b2 s116 [],12⟩) (Q3C ⟨Y7 [(7,.adr 3 0 0),(8,.own 9 0 b2.2.1.length),(9,.own 10 0 b2.2.2.length),(15,iV 0)],Yg f_ g_ ((3,.mix 7 [(YX v1 [.own 8 0 b2.1.length,.own 11 0 0])])::Ya v1 [(8,rI b2.1),(9,.row 1 (Ls b2.2.1)),(10,.row 1 (Ls b2.2.2)),(11,.row 1 (Ls []))]),12⟩ (Wk.nils [(11,1)] (by simp) (by simp) (by simp [nlA]) (by simp [entN,nlL,nlA,Cat.cells,SF.cells,UA,U1,IA,I1,LA,L1,BA,B1,EA,E1,E2,eB,eI,eL,eM]) (by simp)) (Qw [(0,0),(1,1),(2,2),(3,3),(4,4),(5,5),(6,6),(7,7),(8,8),(11,9),(9,10),(10,11)])) ?_);clear h;intro k116 s116 c116 h hk116;refine Q3 (Q3 (runQ hN fun K hK=>?_));simp [eM,eL,eI,Q2,Qk,Qi,Cat.cells,SF.cells];repeat refine sdQ ?_
  refine hK _ ?_;clear hK K;refine tn (Q7 rfl (fun g=>?_) fun g=>?_)
  ·have g117:s116.2<(f_.ac.length:Int):=gQ;clear g;replace h:=if_l g117 h;refine Q8 (tn (Q3 (Q6 (Q3 (runQ hN fun K hK=>?_)))));replace ⟨a118,h⟩:=Q5 h;replace ⟨a119,h⟩:=Q5 h;simp [eM,eL,eI,Q2,Qk,Qi,Cat.cells,SF.cells,at_I a118,at_I a119];(repeat refine sdQ ?_);refine hK _ ?_;clear hK K;refine tn (Qa (st':=⟨Y7 (Yu b2 s116 (YU f_ s116 [(18,.own 12 0 0)])),Y6 f_ g_ v1 b2 s116 [(12,.mix 1 [])],13⟩) (Q1y 13) (Q3 (Q3 (runQ hN fun K hK=>?_))));simp [eM,eL,eI,Q2,Qk,Qi,Cat.cells,SF.cells];(repeat refine sdQ ?_);refine hK _ (tn (Qa (st':=⟨Y7 (Yu b2 s116 (YU f_ s116 [(18,.own 12 0 0),(19,iV 0)])),Y6 f_ g_ v1 b2 s116 [(12,.mix 1 [])],13⟩) (Q1y 13) ?_));clear hK K;replace ⟨e120,h,h120⟩:=bind_some h;refine QM (fun b120:List Int=>⟨Y7 (Yu b2 s116 [(18,.own 12 0 b120.length)]),Y6 f_ g_ v1 b2 s116 [(12,rI b120)],13⟩) (fun b120=>b120=e120) ?_ ?_
   ·refine Q6 (QW h (fun s136:List Int × Int=>⟨Y7 (Yu b2 s116 (YU f_ s116 [(18,.own 12 0 s136.1.length),(19,iV s136.2)])),Y6 f_ g_ v1 b2 s116 [(12,rI s136.1)],13⟩) (Q3C ⟨Y7 (Yu b2 s116 (YU f_ s116 [(18,.own 12 0 0),(19,iV 0)])),Y6 f_ g_ v1 b2 s116 [(12,rI [])],13⟩ (Wk.nils [] (by simp) (by simp) (by simp [nlA]) (by simp [entN,nlL,nlA,Cat.cells,SF.cells,UA,U1,IA,I1,LA,L1,BA,B1,EA,E1,E2,eB,eI,eL,eM]) (by simp)) (Q1y 13)) ?_);clear h;intro k136 s136 c136 h hk136;refine Q3 (Q3 (runQ hN fun K hK=>?_));replace ⟨a137,h⟩:=Q5 h;simp [eM,eL,eI,Q2,Qk,Qi,Cat.cells,SF.cells,at_L a137];(repeat refine sdQ ?_);refine hK _ ?_;clear hK K;refine tn (Q7 rfl (fun g=>?_) fun g=>?_)
    ·have g138:s136.2<((rx b2.2.1 (ix f_.s.fr s116.2)).length:Int):=gQ;clear g;replace h:=if_l g138 h;refine Q8 (tn (Q3 (Q6 (runQ hN fun K hK=>?_))));replace ⟨a139,h⟩:=Q5 h;replace ⟨a140,h⟩:=Q5 h;replace ⟨a141,h⟩:=Q5 h;replace ⟨a142,h⟩:=Q5 h;replace ⟨a143,h⟩:=Q5 h;replace ⟨a144,h⟩:=Q5 h;replace ⟨a145,h⟩:=Q5 h;replace ⟨a146,h⟩:=Q5 h;replace ⟨a147,h⟩:=Q5 h;replace ⟨a148,h⟩:=Q5 h;replace ⟨a149,h⟩:=Q5 h;replace ⟨a150,h⟩:=Q5 h;(try simp only [qJ,qI,zE] at a150);simp [eM,eL,eI,Q2,Qk,Qi,Cat.cells,SF.cells,at_L a139,at_L a140,at_I a141,at_I a142,at_I a143,QE a144,at_L a145,at_L a146,at_I a147,at_I a148,QE a149,a150];(repeat refine sdQ ?_);refine hK _ ?_;clear hK K;refine bn (tn (Qa (st':=⟨Y7 (Yu b2 s116 (YU f_ s116 [(18,.own 12 0 ((s136.1++[((ix (rx f_.ac s116.2) (ix (rx b2.2.1 (ix f_.s.fr s116.2)) s136.2)) * (ix g_.sz (ix f_.s.to s116.2)))+(ix (rx g_.ac s116.2) (ix (rx b2.2.2 (ix f_.s.fr s116.2)) s136.2))]).length)),(19,iV s136.2)])),Y6 f_ g_ v1 b2 s116 [(12,rI (s136.1++[((ix (rx f_.ac s116.2) (ix (rx b2.2.1 (ix f_.s.fr s116.2)) s136.2)) * (ix g_.sz (ix f_.s.to s116.2)))+(ix (rx g_.ac s116.2) (ix (rx b2.2.2 (ix f_.s.fr s116.2)) s136.2))]))],13⟩) (Qw [(0,0),(1,1),(2,2),(3,3),(4,4),(5,5),(6,6),(7,7),(8,8),(9,9),(10,10),(11,11),(19,12)]) (runQ hN fun K hK=>?_)));replace ⟨a151,h⟩:=Q5 h;simp [eM,eL,eI,Q2,Qk,Qi,Cat.cells,SF.cells,QE a151];(repeat refine sdQ ?_);refine hK _ ?_;clear hK K;cases h;exact rn (s':=(s136.1++[((ix (rx f_.ac s116.2) (ix (rx b2.2.1 (ix f_.s.fr s116.2)) s136.2)) * (ix g_.sz (ix f_.s.to s116.2)))+(ix (rx g_.ac s116.2) (ix (rx b2.2.2 (ix f_.s.fr s116.2)) s136.2))],s136.2+1)) hk136 (Q1y 13)
    have g138:¬ (s136.2<((rx b2.2.1 (ix f_.s.fr s116.2)).length:Int)):=gQ;clear g;replace h:=if_r g138 h;refine Qo (tx (lx (bh ?_)));cases h;exact jn (b:=s136.1) hk136 (Q1y 13)
   intro b120 hb120;have h:=h120;(try rw [← hb120] at h);clear h120;(try dsimp only at h);refine runQ hN fun K hK=>?_;replace ⟨a152,h⟩:=Q5 h;(try simp only [qJ,qI,zE] at a152);simp [eM,eL,eI,Q2,Qk,Qi,Cat.cells,SF.cells,a152];(repeat refine sdQ ?_);refine hK _ ?_;clear hK K;refine bn (tn (Qa (st':=⟨Y7 (Yu b2 s116 []),Yg f_ g_ ((3,.mix 7 [(YX v1 [.own 8 0 b2.1.length,.own 9 0 ((s116.1++[b120]).length)])])::Ya v1 [(8,rI b2.1),(9,.row 1 (Ls (s116.1++[b120]))),(10,.row 1 (Ls b2.2.1)),(11,.row 1 (Ls b2.2.2))]),12⟩) (Qw [(0,0),(1,1),(2,2),(3,3),(4,4),(5,5),(6,6),(7,7),(8,8),(14,9),(10,10),(11,11)]) (runQ hN fun K hK=>?_)));replace ⟨a153,h⟩:=Q5 h;simp [eM,eL,eI,Q2,Qk,Qi,Cat.cells,SF.cells,QE a153];(repeat refine sdQ ?_);refine hK _ ?_;clear hK K;cases h;exact rn (s':=(s116.1++[b120],s116.2+1)) hk116 (Q1y 12)
  have g117:¬ (s116.2<(f_.ac.length:Int)):=gQ;clear g;replace h:=if_r g117 h;refine Qo (tx (lx (bh ?_)));cases h;exact jn (b:=s116.1) hk116 (Qw [(2,0),(3,1),(4,2),(5,3),(6,4),(7,5),(8,6),(9,7),(10,8),(11,9)])
 intro b78 hb78;have h:=h78;try rw [← hb78] at h
 clear h78;try dsimp only at h
 refine Q3 (runQ hN fun K hK=>?_);simp [eM,eL,eI,Q2,Qk,Qi,Cat.cells,SF.cells];repeat refine sdQ ?_
 refine hK _ (tn (Qa (st':=⟨YK [(5,.own 7 0 b2.2.1.length),(6,.own 8 0 b2.2.2.length)],[(0,.mix 7 [(Y03 v1 [.own 5 0 b2.1.length,.own 6 0 b78.length])]),(1,rI v1.fr),(2,rI v1.to),(3,rI v1.id),(4,.row 1 (Ls v1.cs)),(5,rI b2.1),(6,.row 1 (Ls b78)),(7,.row 1 (Ls b2.2.1)),(8,.row 1 (Ls b2.2.2))],9⟩) (Qw [(0,0),(2,1),(3,2),(4,3),(5,4),(6,5),(7,6),(8,7),(9,8)]) (Qh ?_)));clear hK K;have hr:=zH h;rw [← hr];refine ⟨_,(.cell Q62 rfl rfl rfl (by simp) (by simp) (.tmp (.tmp .nil))),?_⟩;refine ⟨(.agg rfl (.one rfl rfl (.one rfl rfl .nil))),[iV v1.n,lI v1.fr,lI v1.to,lI v1.id,.lst true 1 (Ls v1.cs),lI b2.1,.lst true 1 (Ls b78),.lst true 1 (Ls b2.2.1),.lst true 1 (Ls b2.2.2)],[1,2,3,4,5,6,7,8],by simp [Cat.cells,SF.cells,UA,U1,IA,I1,LA,L1,BA,B1,EA,E1,E2,eB,eI,eL,eM],by simp,(UpL.refl _)⟩
end Go.Vc.T
namespace Go.Vc.T
open Go Go.Vc Go.Proofs
section
attribute [local simp] Qf QF Qs Q1m QO
def prF (M k:Nat):Int:=((k / M:Nat):Int)
def prS (M k:Nat):Int:=((k % M:Nat):Int)
def pr (M k:Nat):List Int:=[prF M k,prS M k]
def prs (n M:Nat):List (List Int):=tab (n * M) (pr M)
theorem pr_at {M e d:Nat} (h:d<M):pr M (e * M+d)=[(e:Int),(d:Int)]:=by
 have h1:(e * M+d) / M=e:=by
  rw [Nat.mul_comm,Nat.mul_add_div (by omega),Nat.div_eq_of_lt h];rfl
 have h2:(e * M+d) % M=d:=by
  rw [Nat.mul_comm,Nat.mul_add_mod,Nat.mod_eq_of_lt h]
 simp only [pr,prF,prS,h1,h2]
theorem prF_at {M e d:Nat} (h:d<M):prF M (e * M+d)=e∧prS M (e * M+d)=d:=by
 have:=pr_at (e:=e) h;simp only [pr,List.cons.injEq,and_true] at this;exact this
theorem Qaf {n M k:Nat} (h:k<n * M):k / M<n∧k % M<M∧k / M * M+k % M=k:=by
 have hM:0<M:=by
  rcases Nat.eq_zero_or_pos M with e|e
  ·subst e;omega
  exact e
 exact ⟨(Nat.div_lt_iff_lt_mul hM).2 h,Nat.mod_lt _ hM,by rw [Nat.mul_comm];exact Nat.div_add_mod k M⟩
theorem Q6Y {n M e d:Nat} (he:e<n) (hd:d<M):e * M+d<n * M:=by
 have h1:(e+1) * M≤n * M:=Nat.mul_le_mul_right _ he;rw [Nat.succ_mul] at h1;omega
theorem Q9z {n M k:Nat} (h:k<n * M):(0≤prF M k∧prF M k<n)∧0≤prS M k∧prS M k<M:=by
 have q:=Qaf h;unfold prF prS;generalize k / M=a at *;generalize k % M=b at *;omega
theorem Q5Q (n:Nat) (g:Nat→List Int) {i:Nat} (h:i<n):rx (tab n g) i=g i:=by
 rw [← QJ _ _ (show i<(tab n g).length by simpa using h)];simp [tab]
theorem prs_keyed {n M:Nat} (hn:n≤16) (hM:M≤16):Keyed (prs n M):=by
 refine ⟨?_,fun x hx a ha=>?_⟩
 ·rw [List.Nodup,List.pairwise_iff_getElem];intro i j hi hj hij e;simp only [prs,tab,List.getElem_map,List.getElem_range,pr,prF,prS,List.cons.injEq,and_true] at e;simp only [prs,Q2Z] at hi hj;have q1:=Qaf hi;have q2:=Qaf hj;have e1:i / M=j / M:=by omega
  have e2:i % M=j % M:=by omega
  rw [e1,e2] at q1;omega
 simp only [prs,tab,List.mem_map,List.mem_range] at hx;obtain ⟨k,hk,rfl⟩:=hx;have q:=Q9z hk;simp only [pr,List.mem_cons,List.not_mem_nil,or_false] at ha;rcases ha with rfl|rfl<;>omega
theorem prs_mem {n M:Nat} {t:List Int} (h:t∈prs n M):∃ k,k<n * M∧t=pr M k:=by
 simp only [prs,tab,List.mem_map,List.mem_range] at h;obtain ⟨k,hk,rfl⟩:=h;exact ⟨k,hk,rfl⟩
theorem prs_in {n M:Nat} {u v:Int} (hu:0≤u∧u<n) (hv:0≤v∧v<M):[u,v]∈prs n M:=by
 simp only [prs,tab,List.mem_map,List.mem_range];refine ⟨u.toNat * M+v.toNat,Q6Y (by omega) (by omega),?_⟩;rw [pr_at (by omega)]
 congr 1<;>simp<;>omega
def szN (f:SF) (x:Nat):Nat:=(ix f.sz x).toNat
def prE (f g:SF) (x:Nat):List (List Int):=prs (szN f x) (szN g x)
theorem Two.szn {f g:SF} (h:Two f g) {x:Nat} (hx:(x:Int)<f.s.n):((szN f x:Int)=ix f.sz x∧szN f x≤16)∧(szN g x:Int)=ix g.sz x∧szN g x≤16:=by
 obtain ⟨_,k1,k2,k3,k4,k5,k6,k7⟩:=h.fact;have:=h.sizes (x:=x) (by omega);unfold szN;omega
theorem Q8C {a b:Nat} (ha:a≤16) (hb:b≤16):a * b≤256:=Nat.mul_le_mul ha hb
theorem prE_len (f g:SF) (x:Nat):(prE f g x).length=szN f x * szN g x:=by simp [prE,prs]
theorem mvT_pr (f g:SF) (a:Nat) (M k:Nat):mvT [f,g] a (pr M k)=[ix (rx f.ac a) (prF M k),ix (rx g.ac a) (prS M k)]:=by
 simp [mvT,tab,List.range_succ,pr,gx,ix]
theorem Two.mv {f g:SF} (h:Two f g) {a:Nat} (ha:a<f.s.fr.length) {k:Nat} (hk:k<szN f (ix f.s.fr a).toNat * szN g (ix f.s.fr a).toNat) :
  (0≤ix (rx f.ac a) (prF (szN g (ix f.s.fr a).toNat) k)∧ix (rx f.ac a) (prF (szN g (ix f.s.fr a).toNat) k)<(szN f (ix f.s.to a).toNat:Int))∧0≤ix (rx g.ac a) (prS (szN g (ix f.s.fr a).toNat) k)∧ix (rx g.ac a) (prS (szN g (ix f.s.fr a).toNat) k)<(szN g (ix f.s.to a).toNat:Int) ∧
  (0≤prF (szN g (ix f.s.fr a).toNat) k∧prF (szN g (ix f.s.fr a).toNat) k<((rx f.ac a).length:Int))∧0≤prS (szN g (ix f.s.fr a).toNat) k∧prS (szN g (ix f.s.fr a).toNat) k<((rx g.ac a).length:Int):=by
 obtain ⟨_,k1,k2,k3,k4,k5,k6,k7⟩:=h.fact;have hC:=h.pf.cat.1;have li:=hC.li;obtain ⟨q1,q2⟩:=hC.frn ha;have e1:((ix f.s.fr a).toNat:Int)=ix f.s.fr a:=zM q1.1;have e2:((ix f.s.to a).toNat:Int)=ix f.s.to a:=zM q2.1;have z1:=h.szn (x:=(ix f.s.fr a).toNat) (by omega);have z2:=h.szn (x:=(ix f.s.to a).toNat) (by omega);rw [e1] at z1;rw [e2] at z2;have p:=Q9z hk;have w1:=h.pf.len' (j:=a) (by omega) (by omega);have w2:=h.pg.len' (j:=a) (by omega) (by rw [← h.e];omega);rw [← h.e] at w2;have b1:0≤prF (szN g (ix f.s.fr a).toNat) k∧prF (szN g (ix f.s.fr a).toNat) k<((rx f.ac a).length:Int):=by omega
 have b2:0≤prS (szN g (ix f.s.fr a).toNat) k∧prS (szN g (ix f.s.fr a).toNat) k<((rx g.ac a).length:Int):=by omega
 have v1:=h.pf.val' (j:=a) (e:=prF (szN g (ix f.s.fr a).toNat) k) (by omega) (by omega) b1.1 b1.2;have v2:=h.pg.val' (j:=a) (e:=prS (szN g (ix f.s.fr a).toNat) k) (by omega) (by rw [← h.e];omega) b2.1 b2.2;rw [← h.e] at v2;omega
theorem Two.tup {f g:SF} (h:Two f g):TupP [f,g] f.s (prE f g):=by
 obtain ⟨_,k1,k2,k3,k4,k5,k6,k7⟩:=h.fact;refine ⟨by simp,by simp,fun i hi=>?_,fun x hx=>?_,fun x hx=>?_,fun x hx t ht=>?_,fun a ha t ht=>?_⟩
 ·match i,hi with
  | 0,_=>exact ⟨h.pf,rfl⟩
  | 1,_=>exact ⟨h.pg,h.e.symm⟩
 ·have z:=h.szn hx;rw [prE_len];have:=Q8C z.1.2 z.2.2;omega
 ·have z:=h.szn hx;exact prs_keyed z.1.2 z.2.2
 ·have z:=h.szn hx;obtain ⟨k,hk,rfl⟩:=prs_mem ht;have p:=Q9z hk;refine ⟨by simp [pr],fun i hi=>?_⟩
  match i,hi with
  | 0,_=>show 0≤prF _ k∧prF _ k<ix f.sz x;omega
  | 1,_=>show 0≤prS _ k∧prS _ k<ix g.sz x;omega
 obtain ⟨k,hk,rfl⟩:=prs_mem ht;obtain ⟨m1,m2,m3,_⟩:=h.mv ha hk;rw [mvT_pr];exact prs_in m1 ⟨m2,m3⟩
def prodZ (f g:SF) (n:Nat):List Int:=tab n fun x=>((szN f x * szN g x:Nat):Int)
def Q4Y (f g:SF) (a:Nat) (n:Nat):List Int:=tab n fun k=>ix (rx f.ac a) (prF (szN g (ix f.s.fr a).toNat) k) * ix g.sz (ix f.s.to a)+ix (rx g.ac a) (prS (szN g (ix f.s.fr a).toNat) k)
def Q8F (f g:SF) (n:Nat):List (List Int):=tab n fun a=>Q4Y f g a (szN f (ix f.s.fr a).toNat * szN g (ix f.s.fr a).toNat)
def Q4H (f g:SF) (n:Nat):List (List Int):=tab n fun x=>tab (szN f x * szN g x) (prF (szN g x))
def Q5L (f g:SF) (n:Nat):List (List Int):=tab n fun x=>tab (szN f x * szN g x) (prS (szN g x))
def Q24 (f g:SF):SF:=⟨f.s,prodZ f g f.sz.length,Q8F f g f.ac.length⟩
theorem Q9Y {f g:SF} (h:Two f g):Q1u f g=some (Q24 f g,Q4H f g f.sz.length,Q5L f g f.sz.length):=by
 obtain ⟨k0,k1,k2,k3,k4,k5,k6,k7⟩:=h.fact;unfold Q1u Q2i;rw [Q9 h.pf.cat.1.size2.1];simp only [zN];refine run_bind f.sz.length (fun i:Nat=>(prodZ f g i,Q4H f g i,Q5L f g i,(i:Int))) (e:=(prodZ f g f.sz.length,Q4H f g f.sz.length,Q5L f g f.sz.length)) rfl (by omega) (fun i hi=>?_) (by simp) ?_
 ·have s:=h.sizes hi;have z:=h.szn (x:=i) (by omega);have hNM:=Q8C z.1.2 z.2.2;generalize hN:szN f i=N at z hNM;generalize hM:szN g i=M at z hNM;simp only;rw [if_pos (by omega)];refine run_bind N (fun e:Nat=>(tab (e * M) (prF M),tab (e * M) (prS M),(e:Int))) (e:=(tab (N * M) (prF M),tab (N * M) (prS M))) (by simp [tab]) (by omega) (fun e he=>?_) (by simp only;rw [Q9 (by omega),if_neg (by omega)]) ?_
  ·simp only;rw [Q9 (by omega),if_pos (by omega),Option.bind_assoc];refine run_bind M (fun d:Nat=>(tab (e * M+d) (prF M),tab (e * M+d) (prS M),(d:Int))) (e:=(tab ((e+1) * M) (prF M),tab ((e+1) * M) (prS M))) (by simp) (by omega) (fun d hd=>?_) ?_ ?_
   ·have hs:=Q6Y he hd;obtain ⟨a1,a2⟩:=prF_at (e:=e) hd;have t1:=Q1b (e * M+d) (prF M);have t2:=Q1b (e * M+d) (prS M);rw [a1] at t1;rw [a2] at t2;simp only;rw [Q9 (by omega),if_pos (by omega),Q9 (by simp;omega),Q9 (by simp;omega),Q9 (by unfold B64;omega),← t1,← t2];rfl
   ·simp only;rw [Q9 (by omega),if_neg (by omega),Nat.succ_mul]
   simp only [zN];rw [Q9 (by unfold B64;omega)];rfl
  simp only;rw [Q9 (by simp [prodZ];omega),Q9 (by simp [Q4H];omega),Q9 (by simp [Q5L];omega),Q9 (by unfold B64;omega)];simp only [prodZ,Q4H,Q5L,Q1b,hN,hM,Q2Z];rfl
 simp only;refine Q1a f.ac.length (fun i=>Q8F f g i) (e:=Q8F f g f.ac.length) rfl (by omega) (fun a ha=>?_) (by simp) rfl;have hC:=h.pf.cat.1;have li:=hC.li;obtain ⟨q1,q2⟩:=hC.frn (a:=a) (by omega);have e1:((ix f.s.fr a).toNat:Int)=ix f.s.fr a:=zM q1.1;have e2:((ix f.s.to a).toNat:Int)=ix f.s.to a:=zM q2.1;have z1:=h.szn (x:=(ix f.s.fr a).toNat) (by omega);have z2:=h.szn (x:=(ix f.s.to a).toNat) (by omega);have hNM:=Q8C z1.1.2 z1.2.2;have r1:rx (Q4H f g f.sz.length) (ix f.s.fr a)=tab (szN f (ix f.s.fr a).toNat * szN g (ix f.s.fr a).toNat) (prF (szN g (ix f.s.fr a).toNat)):=by
  rw [← e1,Q4H,Q5Q _ _ (by omega)];rfl
 have r2:rx (Q5L f g f.sz.length) (ix f.s.fr a)=tab (szN f (ix f.s.fr a).toNat * szN g (ix f.s.fr a).toNat) (prS (szN g (ix f.s.fr a).toNat)):=by
  rw [← e1,Q5L,Q5Q _ _ (by omega)];rfl
 have mv:=fun k hk=>h.mv (a:=a) (by omega) (k:=k) hk;rw [e2] at z2;simp only [r1,r2];rw [if_pos (by omega),Q9 (by omega),Q9 (by omega)];have hA:Q8F f g (a+1)=Q8F f g a++[Q4Y f g a (szN f (ix f.s.fr a).toNat * szN g (ix f.s.fr a).toNat)]:=Q1b _ _;generalize hL:szN f (ix f.s.fr a).toNat * szN g (ix f.s.fr a).toNat=L at *;refine Q1a L (fun k=>Q4Y f g a k) (e:=Q4Y f g a L) rfl (by omega) (fun k hk=>?_) ?_ ?_
 ·obtain ⟨m1,m2,m3,m4,m5⟩:=mv k hk;have s2:=h.sizes (x:=(ix f.s.to a).toNat) (by omega);rw [e2] at s2;have i1:ix (tab L (prF (szN g (ix f.s.fr a).toNat))) (k:Int)=prF (szN g (ix f.s.fr a).toNat) k:=Q7C L _ hk;have i2:ix (tab L (prS (szN g (ix f.s.fr a).toNat))) (k:Int)=prS (szN g (ix f.s.fr a).toNat) k:=Q7C L _ hk;have hmul:0≤ix (rx f.ac a) (prF (szN g (ix f.s.fr a).toNat) k) * ix g.sz (ix f.s.to a)∧ix (rx f.ac a) (prF (szN g (ix f.s.fr a).toNat) k) * ix g.sz (ix f.s.to a)≤16 * 16:=by
   have u1:ix (rx f.ac a) (prF (szN g (ix f.s.fr a).toNat) k)≤16:=(by omega);exact ⟨Int.mul_nonneg m1.1 s2.2.1,Int.mul_le_mul u1 s2.2.2 s2.2.1 (by omega)⟩
  simp only [i1,i2];rw [Q9 (by simp [Q4H];omega),if_pos (by simp;omega),Q9 (by omega),Q9 (by simp [Q4H];omega),Q9 (by simp;omega),Q9 (by omega),Q9 (by omega),Q9 (by unfold B64;omega),Q9 (by omega),Q9 (by simp [Q5L];omega),Q9 (by simp;omega),Q9 (by omega),Q9 (by unfold B64;omega),Q9 (by simp [Q4Y];omega),Q9 (by unfold B64;omega)];have:=Q1b k fun k=>ix (rx f.ac a) (prF (szN g (ix f.s.fr a).toNat) k) * ix g.sz (ix f.s.to a)+ix (rx g.ac a) (prS (szN g (ix f.s.fr a).toNat) k);simp only [Q4Y,this]
 ·simp only;rw [Q9 (by simp [Q4H];omega),if_neg (by simp)]
 rw [Q9 (by simp [Q8F];omega),Q9 (by unfold B64;omega),hA]
end
end Go.Vc.T
namespace Go.Vc.T
open Go Go.Vc Go.Proofs
section
attribute [local simp] Qf QF Qs Q1m QO
theorem all_mad {xs:List Int} (h:∀ x∈xs,0≤x):(xs.all (inR 17)=true→mad xs=0)∧(¬ xs.all (inR 17)=true→mad xs=3):=by
 have e:xs.all (inR 17)=xs.all fun x=>decide (x≤16):=by
  rw [Bool.eq_iff_iff,qX,qX];constructor
  ·intro q x hx;have:=q x hx;simp only [inR,Bool.and_eq_true,decide_eq_true_eq] at this ⊢;omega
  intro q x hx;have:=q x hx;have:=h x hx;simp only [inR,Bool.and_eq_true,decide_eq_true_eq] at *;omega
 unfold mad;rw [e];exact ⟨fun q=>if_pos q,fun q=>if_neg q⟩
theorem sf0_ok:(sf0.ok∧sf0.size≤10000):=by simp [sf0,SF.ok,SF.size,Cat.ok,Cat.size,sumL]
theorem Q6u:((([]:List (List Int)).length≤1048576∧∀ x∈([]:List (List Int)),x.length≤1048576)∧sumL ([]:List (List Int))≤10000):=by simp [sumL]
end
end Go.Vc.T
namespace Go.Vc.T
open Go Go.Vc Go.Proofs
attribute [local simp] unk unA unE unT unC flat
noncomputable def Q1V (s_:SM) (t_:SM) (sources_:Bool) (targets_:Bool):Option Int :=
 (
  (Q13 s_).bind fun v2 =>
  if ¬ (v2=true) then
   some true
  else
   (Q13 t_).bind fun v4 =>
   some (!v4):Option (Bool)).bind fun b1 =>
 if b1=true then
  some 1
 else
  (
   if sources_=true then
    (Q1C s_.s t_.s).bind fun v8 =>
    if ¬ (v8=true) then
     some true
    else
     if targets_=true then
      (Q1C s_.t t_.t).bind fun v11 =>
      some (!v11)
     else
      some false
   else
    if targets_=true then
     (Q1C s_.t t_.t).bind fun v13 =>
     some (!v13)
    else
     some false:Option (Bool)).bind fun b6 =>
  if b6=true then
   some 5
  else
   some 0
@[simp] abbrev YC (a b:SM) (c:List (Nat × Ent)):List (Nat × Ent):=(0,.mix 15 [(SM.cells true a)])::(1,.mix 15 [(SM.cells true b)])::c
@[simp] abbrev Y06 (a b:SM) (c:List (AV)):List (AV):=.agg (a.cells true)::.agg (b.cells true)::c
theorem Q93 [Kd Tryz.prog] (s_:SM) (t_:SM) (sources_:Bool) (targets_:Bool) (r:Int) (h:Q1V s_ t_ sources_ targets_=some r):Contract Tryz.prog 56 (Y06 s_ t_ [.val (.bool sources_),.val (.bool targets_)]) (iV r):=by
 refine Qt (rvs:=[.tmp 8]) (rs:=[iV r]) Tryz.func56 rfl rfl rfl rfl (by simp [Tryz.f56]) fun F hN hP=>?_;unfold Q1V at h;refine Q3 (runQ hN fun K hK=>?_);simp [eM,eL,eI,Q2,Qi,Qm,SF.cells,SM.cells];repeat refine sdQ ?_
 refine hK _ (tn (Qa (st':=⟨(2,.val (.bool sources_))::(3,.val (.bool targets_))::YK [(5,.adr 1 0 0)],YC s_ t_ [],2⟩) (Qw [(0,0),(1,1)]) (Q3 (Q6 (Q3 ?_)))));clear hK K;replace ⟨e1,h,h1⟩:=bind_some h;refine QM (fun b1:Bool=>⟨(2,.val (.bool sources_))::(3,.val (.bool targets_))::YK [(5,.adr 1 0 0),(9,.val (.bool b1))],YC s_ t_ [],2⟩) (fun b1=>b1=e1) ?_ ?_
 ·refine runQ hN fun K hK=>?_;simp [eM,eL,eI,Q2,Qi,Qm,SF.cells,SM.cells];repeat with_reducible refine sdQ ?_
  replace ⟨v2,hv2,h⟩:=bind_some h;refine Q0 (Q57 _ v2 hv2) (.cons (.aggL (.cons .val (.cons .lst (.cons .lst (.cons .lst (.cons .lst (.cons .lst (.cons .lst (.cons .val (.cons .lst (.cons .lst (.cons .lst (.cons .lst (.cons .lst (.cons .lst (.cons .lst .nil)))))))))))))))) .nil) ?_;simp [eM,eL,eI,Q2,Qi,Qm,SF.cells,SM.cells];repeat with_reducible refine sdQ ?_
  refine Q2q (fun g=>?_) (fun g=>?_)
  ·have g3:¬ (¬ (v2=true)):=gQ;clear g;replace h:=if_r g3 h;simp [eM,eL,eI,Q2,Qi,Qm,SF.cells,SM.cells];(repeat with_reducible refine sdQ ?_);replace ⟨v4,hv4,h⟩:=bind_some h;refine Q0 (Q57 _ v4 hv4) (.cons (.aggL (.cons .val (.cons .lst (.cons .lst (.cons .lst (.cons .lst (.cons .lst (.cons .lst (.cons .val (.cons .lst (.cons .lst (.cons .lst (.cons .lst (.cons .lst (.cons .lst (.cons .lst .nil)))))))))))))))) .nil) ?_;simp [eM,eL,eI,Q2,Qi,Qm,SF.cells,SM.cells];(repeat refine sdQ ?_);refine hK _ ?_;exact jn (b:=!v4) (zH h) (Qw [(0,0),(1,1)])
  have g3:¬ (v2=true):=gQ;clear g;replace h:=if_l g3 h;simp [eM,eL,eI,Q2,Qi,Qm,SF.cells,SM.cells];repeat refine sdQ ?_
  refine hK _ ?_;exact jn (b:=true) (zH h) (Qw [(0,0),(1,1)])
 intro b1 hb1;have h:=h1;try rw [← hb1] at h
 clear h1;try dsimp only at h
 refine Q7 rfl (fun g=>?_) fun g=>?_
 ·have g5:b1=true:=gQ;clear g;replace h:=if_l g5 h;refine Q3 (runQ hN fun K hK=>?_);simp [eM,eL,eI,Q2,Qi,Qm,SF.cells,SM.cells];repeat refine sdQ ?_
  refine hK _ (tn (Qa (st':=⟨[(8,iV 1)],[],0⟩) (Qw []) (Qh (br (tr ?_)))));clear hK K;have hr:=zH h;rw [← hr];refine ⟨_,(.tmp .nil),?_⟩;refine ⟨(.one rfl rfl .nil),[iV 1],[],by simp [SF.cells,SM.cells,UA,U1,IA,I1,LA,L1,BA,B1,EA,E1,E2,eB,eI,eL,eM],by simp,(UpL.refl _)⟩
 have g5:¬ (b1=true):=gQ;clear g;replace h:=if_r g5 h;refine Q3 ?_;replace ⟨e6,h,h6⟩:=bind_some h;refine QM (fun b6:Bool=>⟨[(18,.val (.bool b6))],[],0⟩) (fun b6=>b6=e6) ?_ ?_
 ·refine runQ hN fun K hK=>?_;simp [eM,eL,eI,Q2,Qi,Qm,SF.cells,SM.cells];repeat with_reducible refine sdQ ?_
  refine Q2q (fun g=>?_) (fun g=>?_)
  ·have g7:sources_=true:=gQ;clear g;replace h:=if_l g7 h;simp [eM,eL,eI,Q2,Qi,Qm,SF.cells,SM.cells];(repeat with_reducible refine sdQ ?_);replace ⟨v8,hv8,h⟩:=bind_some h;refine Q0 (Q41 _ _ v8 hv8) (.cons (.aggL (.cons .val (.cons .lst (.cons .lst (.cons .lst (.cons .lst (.cons .lst (.cons .lst .nil)))))))) (.cons (.aggL (.cons .val (.cons .lst (.cons .lst (.cons .lst (.cons .lst (.cons .lst (.cons .lst .nil)))))))) .nil)) ?_;simp [eM,eL,eI,Q2,Qi,Qm,SF.cells,SM.cells];(repeat with_reducible refine sdQ ?_);refine Q2q (fun g=>?_) (fun g=>?_)
   ·have g9:¬ (¬ (v8=true)):=gQ;clear g;replace h:=if_r g9 h;simp [eM,eL,eI,Q2,Qi,Qm,SF.cells,SM.cells];(repeat with_reducible refine sdQ ?_);refine Q2q (fun g=>?_) (fun g=>?_)
    ·have g10:targets_=true:=gQ;clear g;replace h:=if_l g10 h;simp [eM,eL,eI,Q2,Qi,Qm,SF.cells,SM.cells];(repeat with_reducible refine sdQ ?_);replace ⟨v11,hv11,h⟩:=bind_some h;refine Q0 (Q41 _ _ v11 hv11) (.cons (.aggL (.cons .val (.cons .lst (.cons .lst (.cons .lst (.cons .lst (.cons .lst (.cons .lst .nil)))))))) (.cons (.aggL (.cons .val (.cons .lst (.cons .lst (.cons .lst (.cons .lst (.cons .lst (.cons .lst .nil)))))))) .nil)) ?_;simp [eM,eL,eI,Q2,Qi,Qm,SF.cells,SM.cells];(repeat refine sdQ ?_);refine hK _ ?_;exact jn (b:=!v11) (zH h) (Qw [])
    have g10:¬ (targets_=true):=gQ;clear g;replace h:=if_r g10 h;simp [eM,eL,eI,Q2,Qi,Qm,SF.cells,SM.cells];(repeat refine sdQ ?_);refine hK _ ?_;exact jn (b:=false) (zH h) (Qw [])
   have g9:¬ (v8=true):=gQ;clear g;replace h:=if_l g9 h;simp [eM,eL,eI,Q2,Qi,Qm,SF.cells,SM.cells];(repeat refine sdQ ?_);refine hK _ ?_;exact jn (b:=true) (zH h) (Qw [])
  have g7:¬ (sources_=true):=gQ;clear g;replace h:=if_r g7 h;simp [eM,eL,eI,Q2,Qi,Qm,SF.cells,SM.cells];repeat with_reducible refine sdQ ?_
  refine Q2q (fun g=>?_) (fun g=>?_)
  ·have g12:targets_=true:=gQ;clear g;replace h:=if_l g12 h;simp [eM,eL,eI,Q2,Qi,Qm,SF.cells,SM.cells];(repeat with_reducible refine sdQ ?_);replace ⟨v13,hv13,h⟩:=bind_some h;refine Q0 (Q41 _ _ v13 hv13) (.cons (.aggL (.cons .val (.cons .lst (.cons .lst (.cons .lst (.cons .lst (.cons .lst (.cons .lst .nil)))))))) (.cons (.aggL (.cons .val (.cons .lst (.cons .lst (.cons .lst (.cons .lst (.cons .lst (.cons .lst .nil)))))))) .nil)) ?_;simp [eM,eL,eI,Q2,Qi,Qm,SF.cells,SM.cells];(repeat refine sdQ ?_);refine hK _ ?_;exact jn (b:=!v13) (zH h) (Qw [])
  have g12:¬ (targets_=true):=gQ;clear g;replace h:=if_r g12 h;simp [eM,eL,eI,Q2,Qi,Qm,SF.cells,SM.cells];repeat refine sdQ ?_
  refine hK _ ?_;exact jn (b:=false) (zH h) (Qw [])
 intro b6 hb6;have h:=h6;try rw [← hb6] at h
 clear h6;try dsimp only at h
 refine Q7 rfl (fun g=>?_) fun g=>?_
 ·have g14:b6=true:=gQ;clear g;replace h:=if_l g14 h;refine Q3 (runQ hN fun K hK=>?_);simp [eM,eL,eI,Q2,Qi,Qm,SF.cells,SM.cells];repeat refine sdQ ?_
  refine hK _ (tn (Qa (st':=⟨[(8,iV 5)],[],0⟩) (Qw []) (Qh (br (tr ?_)))));clear hK K;have hr:=zH h;rw [← hr];refine ⟨_,(.tmp .nil),?_⟩;refine ⟨(.one rfl rfl .nil),[iV 5],[],by simp [SF.cells,SM.cells,UA,U1,IA,I1,LA,L1,BA,B1,EA,E1,E2,eB,eI,eL,eM],by simp,(UpL.refl _)⟩
 have g14:¬ (b6=true):=gQ;clear g;replace h:=if_r g14 h;refine Q8 (bn (tn (Q3 (runQ hN fun K hK=>?_))));simp [eM,eL,eI,Q2,Qi,Qm,SF.cells,SM.cells];repeat refine sdQ ?_
 refine hK _ (tn (Qa (st':=⟨[(8,iV 0)],[],0⟩) (Qw []) (Qh ?_)));clear hK K;have hr:=zH h;rw [← hr];refine ⟨_,(.tmp .nil),?_⟩;refine ⟨(.one rfl rfl .nil),[iV 0],[],by simp [SF.cells,SM.cells,UA,U1,IA,I1,LA,L1,BA,B1,EA,E1,E2,eB,eI,eL,eM],by simp,(UpL.refl _)⟩
end Go.Vc.T
namespace Go.Vc.T
open Go Go.Vc Go.Proofs
attribute [local simp] unk unA unE unT unC flat
noncomputable def Q26 (list_:List Int) (n_:Int):Option Int :=
 (QX (σ:=Int) (ε:=Unit ⊕ Int) (fun s6 =>
  if s6<(list_.length:Int) then
   ass (0≤s6∧s6<(list_.length:Int)) <|
   if (ix list_ s6)=n_ then
    some (Ctl.ret (Sum.inr s6))
   else
    ass (B64 (s6+1)) <|
    some (Ctl.next (s6+1))
  else
   some (Ctl.ret (Sum.inl ()))) fuel 0).bind fun e1 =>
 match e1 with
 | .inl b1 =>
  some (-1)
 | .inr p1 =>
  some p1
theorem Q88 [Kd Tryz.prog] (list_:List Int) (n_:Int) (r:Int) (h:Q26 list_ n_=some r):Contract Tryz.prog 67 [lI list_,iV n_] (iV r):=by
 refine Qt (rvs:=[.tmp 4]) (rs:=[iV r]) Tryz.func67 rfl rfl rfl rfl (by simp [Tryz.f67]) fun F hN hP=>?_;unfold Q26 at h;refine Q3 (runQ hN fun K hK=>?_);simp [eM,eL,eI,Q2];repeat refine sdQ ?_
 refine hK _ ?_;clear hK K;refine tn (Qa (st':=⟨[(0,lI list_),(1,iV n_)],[],0⟩) (Qw []) (Q3 (Q3 (runQ hN fun K hK=>?_))));simp [eM,eL,eI,Q2];repeat refine sdQ ?_
 refine hK _ (tn (Qa (st':=⟨[(0,lI list_),(1,iV n_),(5,iV 0)],[],0⟩) (Qw []) ?_));clear hK K;replace ⟨e1,h,h1⟩:=bind_some h;refine QM (fun b1:Unit=>⟨[],[],0⟩) (fun b1=>Sum.inl b1=e1) ?_ ?_
 ·refine Q6 (QW h (fun s6:Int=>⟨[(0,lI list_),(1,iV n_),(5,iV s6)],[],0⟩) (Qw []) ?_);clear h;intro k6 s6 c6 h hk6;refine Q3 (Q3 (runQ hN fun K hK=>?_));simp [eM,eL,eI,Q2];repeat refine sdQ ?_
  refine hK _ ?_;clear hK K;refine tn (Q7 rfl (fun g=>?_) fun g=>?_)
  ·have g7:s6<(list_.length:Int):=gQ;clear g;replace h:=if_l g7 h;refine Q8 (tn (Q3 (Q6 (Q3 (runQ hN fun K hK=>?_)))));replace ⟨a8,h⟩:=Q5 h;simp [eM,eL,eI,Q2,at_I a8];(repeat refine sdQ ?_);refine hK _ ?_;clear hK K;refine tn (Q7 rfl (fun g=>?_) fun g=>?_)
   ·have g9:(ix list_ s6)=n_:=gQ;clear g;replace h:=if_l g9 h;refine Q3 (runQ hN fun K hK=>?_);simp [eM,eL,eI,Q2];(repeat refine sdQ ?_);refine hK _ (tn (Qa (st':=⟨[(4,iV s6)],[],0⟩) (Qw []) (Qh (br (tr (lr (br (tr ?_))))))));clear hK K;cases h;have q:_=e1:=hk6;have h:=h1;rw [← q] at h;clear q;(try dsimp only at h);have hr:=zH h;rw [← hr];refine ⟨_,(.tmp .nil),?_⟩;refine ⟨(.one rfl rfl .nil),[iV s6],[],by simp [UA,U1,IA,I1,LA,L1,BA,B1,EA,E1,E2,eB,eI,eL,eM],by simp,(UpL.refl _)⟩
   have g9:¬ ((ix list_ s6)=n_):=gQ;clear g;replace h:=if_r g9 h;refine Q8 (bn (tn (runQ hN fun K hK=>?_)));replace ⟨a10,h⟩:=Q5 h;simp [eM,eL,eI,Q2,QE a10];(repeat refine sdQ ?_);refine hK _ ?_;clear hK K;cases h;exact rn (s':=s6+1) hk6 (Qw [])
  have g7:¬ (s6<(list_.length:Int)):=gQ;clear g;replace h:=if_r g7 h;refine Qo (tx (lx (bh ?_)));cases h;exact jn (b:=()) hk6 (Qw [])
 intro b1 hb1;have h:=h1;try rw [← hb1] at h
 clear h1;try dsimp only at h
 refine Q3 (runQ hN fun K hK=>?_);simp [eM,eL,eI,Q2];repeat refine sdQ ?_
 refine hK _ (tn (Qa (st':=⟨[(4,iV (-1))],[],0⟩) (Qw []) (Qh ?_)));clear hK K;have hr:=zH h;rw [← hr];refine ⟨_,(.tmp .nil),?_⟩;refine ⟨(.one rfl rfl .nil),[iV (-1)],[],by simp [UA,U1,IA,I1,LA,L1,BA,B1,EA,E1,E2,eB,eI,eL,eM],by simp,(UpL.refl _)⟩
end Go.Vc.T
namespace Go.Vc.T
open Go Go.Vc Go.Proofs
attribute [local simp] unk unA unE unT unC flat
noncomputable def Q1P (f_:SF) (members_:List (List Int)):Option SF :=
 (Q2i f_.s).bind fun v1 =>
 (QX (σ:=List Int × Int) (ε:=List Int) (fun s7 =>
  if s7.2<(members_.length:Int) then
   ass (0≤s7.2∧s7.2<(members_.length:Int)) <|
   ass ((s7.1++[((rx members_ s7.2).length:Int)]).length≤1073741824) <|
   ass (B64 (s7.2+1)) <|
   some (Ctl.next (s7.1++[((rx members_ s7.2).length:Int)],s7.2+1))
  else
   some (Ctl.ret s7.1)) fuel ([],0)).bind fun b2 =>
 (QX (σ:=List (List Int) × Int) (ε:=List (List Int)) (fun s40 =>
  if s40.2<(f_.ac.length:Int) then
   ass (0≤s40.2∧s40.2<(f_.s.fr.length:Int)) <|
   ass (0≤s40.2∧s40.2<(f_.s.to.length:Int)) <|
   (QX (σ:=List Int × Int) (ε:=List Int) (fun s55 =>
    ass (0≤ix f_.s.fr s40.2∧ix f_.s.fr s40.2<(members_.length:Int)) <|
    if s55.2<((rx members_ (ix f_.s.fr s40.2)).length:Int) then
     ass (0≤ix f_.s.to s40.2∧ix f_.s.to s40.2<(members_.length:Int)) <|
     ass (0≤s40.2∧s40.2<(f_.ac.length:Int)) <|
     ass (0≤ix f_.s.fr s40.2∧ix f_.s.fr s40.2<(members_.length:Int)) <|
     ass (0≤s55.2∧s55.2<((rx members_ (ix f_.s.fr s40.2)).length:Int)) <|
     ass (0≤ix (rx members_ (ix f_.s.fr s40.2)) s55.2∧ix (rx members_ (ix f_.s.fr s40.2)) s55.2<((rx f_.ac s40.2).length:Int)) <|
     (Q26 (rx members_ (ix f_.s.to s40.2)) (ix (rx f_.ac s40.2) (ix (rx members_ (ix f_.s.fr s40.2)) s55.2))).bind fun v63 =>
     ass ((s55.1++[v63]).length≤1073741824) <|
     ass (B64 (s55.2+1)) <|
     some (Ctl.next (s55.1++[v63],s55.2+1))
    else
     some (Ctl.ret s55.1)) fuel ([],0)).bind fun b44 =>
   ass ((s40.1++[b44]).length≤1073741824) <|
   ass (B64 (s40.2+1)) <|
   some (Ctl.next (s40.1++[b44],s40.2+1))
  else
   some (Ctl.ret s40.1)) fuel ([],0)).bind fun b12 =>
 some (⟨v1,b2,b12⟩:SF)
@[simp] abbrev YZ (a:Cat) (b:List (AV)):List (AV):=iV a.n::.own 3 0 a.fr.length::.own 4 0 a.to.length::.own 5 0 a.id.length::.own 6 0 a.cs.length::b
@[simp] abbrev Y8 (a:SF) (b:Cat) (c:List Int) (d:List (List Int) × Int) (e:List (Nat × Ent)):List (Nat × Ent):=(0,.mix 7 [(SF.cells true a)])::(1,.mix 7 [(Y04 [])])::(2,.mix 7 [(YZ b [.own 7 0 c.length,.own 8 0 d.1.length])])::(3,rI b.fr)::(4,rI b.to)::(5,rI b.id)::(6,.row 1 (Ls b.cs))::(7,rI c)::(8,.row 1 (Ls d.1))::e
@[simp] abbrev Yi (a:List (List Int)) (b:List (Nat × AV)):List (Nat × AV):=(1,.lst true 1 (Ls a))::(2,.adr 0 0 0)::(4,.adr 1 0 0)::(5,.adr 2 0 0)::b
@[simp] abbrev Yn (a:SF) (b:List (Nat × Ent)):List (Nat × Ent):=(0,.mix 7 [(SF.cells true a)])::(1,.mix 7 [(Y04 [])])::b
@[simp] abbrev Yt (a:Cat) (b:List (Nat × Ent)):List (Nat × Ent):=(3,rI a.fr)::(4,rI a.to)::(5,rI a.id)::(6,.row 1 (Ls a.cs))::b
@[simp] abbrev YJ (a:List (List Int) × Int) (b:SF) (c:List (Nat × AV)):List (Nat × AV):=(7,iV a.2)::(8,iV (ix b.s.fr a.2))::(9,iV (ix b.s.to a.2))::c
theorem Q79 [Kd Tryz.prog] (f_:SF) (members_:List (List Int)) (r:SF) (h:Q1P f_ members_=some r):Contract Tryz.prog 42 [.agg (f_.cells true),.lst true 1 (Ls members_)] (.agg (r.cells true)):=by
 refine Qt (rvs:=[.cell 4 34]) (rs:=[.agg (r.cells true)]) Tryz.func42 rfl rfl rfl rfl (by simp [Tryz.f42]) fun F hN hP=>?_;unfold Q1P at h;refine Q3 (runQ hN fun K hK=>?_);simp [eM,eL,eI,Q2,Qk,Qi,Cat.cells,SF.cells];repeat refine sdQ ?_
 refine hK _ ?_;clear hK K;refine tn (Qa (st':=⟨[(1,.lst true 1 (Ls members_)),(2,.adr 0 0 0),(4,.adr 1 0 0)],Yn f_ [],2⟩) (Qw [(0,0),(1,1)]) (Q3 (runQ hN fun K hK=>?_)));simp [eM,eL,eI,Q2,Qk,Qi,Cat.cells,SF.cells];repeat with_reducible refine sdQ ?_
 replace ⟨v1,hv1,h⟩:=bind_some h;refine Q0 (Q6I _ v1 hv1) (.cons (.aggL (.cons .val (.cons .lst (.cons .lst (.cons .lst (.cons .lst .nil)))))) .nil) ?_;simp [eM,eL,eI,Q2,Qk,Qi,Cat.cells,SF.cells];repeat refine sdQ ?_
 refine hK _ ?_;clear hK K;refine tn (Qa (st':=⟨Yi members_ [],Yn f_ ((2,.mix 7 [(YZ v1 [nS,nS])])::Yt v1 []),7⟩) (Qw [(0,0),(1,1),(7,2),(3,3),(4,4),(5,5),(6,6)]) (Q3 (Q3 (runQ hN fun K hK=>?_))));simp [eM,eL,eI,Q2,Qk,Qi,Cat.cells,SF.cells];repeat refine sdQ ?_
 refine hK _ (tn (Qa (st':=⟨Yi members_ [(6,iV 0)],Yn f_ ((2,.mix 7 [(YZ v1 [nS,nS])])::Yt v1 []),7⟩) (Q1y 7) ?_));clear hK K;replace ⟨e2,h,h2⟩:=bind_some h;refine QM (fun b2:List Int=>⟨Yi members_ [],Yn f_ ((2,.mix 7 [(YZ v1 [.own 7 0 b2.length,nS])])::Yt v1 [(7,rI b2)]),8⟩) (fun b2=>b2=e2) ?_ ?_
 ·refine Q6 (QW h (fun s7:List Int × Int=>⟨Yi members_ [(6,iV s7.2)],Yn f_ ((2,.mix 7 [(YZ v1 [.own 7 0 s7.1.length,nS])])::Yt v1 [(7,rI s7.1)]),8⟩) (Q3C ⟨Yi members_ [(6,iV 0)],Yn f_ ((2,.mix 7 [(YZ v1 [.own 7 0 0,nS])])::Yt v1 [(7,rI [])]),8⟩ (Wk.nils [(7,1)] (by simp) (by simp) (by simp [nlA]) (by simp [entN,nlL,nlA,Cat.cells,SF.cells,UA,U1,IA,I1,LA,L1,BA,B1,EA,E1,E2,eB,eI,eL,eM]) (by simp)) (Q1y 8)) ?_);clear h;intro k7 s7 c7 h hk7;refine Q3 (Q3 (runQ hN fun K hK=>?_));simp [eM,eL,eI,Q2,Qk,Qi,Cat.cells,SF.cells];repeat refine sdQ ?_
  refine hK _ ?_;clear hK K;refine tn (Q7 rfl (fun g=>?_) fun g=>?_)
  ·have g8:s7.2<(members_.length:Int):=gQ;clear g;replace h:=if_l g8 h;refine Q8 (tn (Q3 (Q6 (runQ hN fun K hK=>?_))));replace ⟨a9,h⟩:=Q5 h;replace ⟨a10,h⟩:=Q5 h;(try simp only [qJ,qI,zE] at a10);simp [eM,eL,eI,Q2,Qk,Qi,Cat.cells,SF.cells,at_L a9,a10];(repeat refine sdQ ?_);refine hK _ ?_;clear hK K;refine bn (tn (Qa (st':=⟨Yi members_ [(6,iV s7.2)],Yn f_ ((2,.mix 7 [(YZ v1 [.own 7 0 ((s7.1++[((rx members_ s7.2).length:Int)]).length),nS])])::Yt v1 [(7,rI (s7.1++[((rx members_ s7.2).length:Int)]))]),8⟩) (Qw [(0,0),(1,1),(2,2),(3,3),(4,4),(5,5),(6,6),(9,7)]) (runQ hN fun K hK=>?_)));replace ⟨a11,h⟩:=Q5 h;simp [eM,eL,eI,Q2,Qk,Qi,Cat.cells,SF.cells,QE a11];(repeat refine sdQ ?_);refine hK _ ?_;clear hK K;cases h;exact rn (s':=(s7.1++[((rx members_ s7.2).length:Int)],s7.2+1)) hk7 (Q1y 8)
  have g8:¬ (s7.2<(members_.length:Int)):=gQ;clear g;replace h:=if_r g8 h;refine Qo (tx (lx (bh ?_)));cases h;exact jn (b:=s7.1) hk7 (Q1y 8)
 intro b2 hb2;have h:=h2;try rw [← hb2] at h
 clear h2;try dsimp only at h
 refine Q3 (Q3 (runQ hN fun K hK=>?_));simp [eM,eL,eI,Q2,Qk,Qi,Cat.cells,SF.cells];repeat refine sdQ ?_
 refine hK _ (tn (Qa (st':=⟨Yi members_ [(7,iV 0)],Yn f_ ((2,.mix 7 [(YZ v1 [.own 7 0 b2.length,nS])])::Yt v1 [(7,rI b2)]),8⟩) (Q1y 8) ?_));clear hK K;replace ⟨e12,h,h12⟩:=bind_some h;refine QM (fun b12:List (List Int)=>⟨YK [(5,.adr 1 0 0)],Y9 [(1,.mix 7 [(Y02 v1 [.own 6 0 b2.length,.own 7 0 b12.length])]),(2,rI v1.fr),(3,rI v1.to),(4,rI v1.id),(5,.row 1 (Ls v1.cs)),(6,rI b2),(7,.row 1 (Ls b12))],8⟩) (fun b12=>b12=e12) ?_ ?_
 ·refine Q6 (QW h (fun s40:List (List Int) × Int=>⟨Yi members_ [(7,iV s40.2)],Y8 f_ v1 b2 s40 [],9⟩) (Q3C ⟨Yi members_ [(7,iV 0)],Yn f_ ((2,.mix 7 [(YZ v1 [.own 7 0 b2.length,.own 8 0 0])])::Yt v1 [(7,rI b2),(8,.row 1 (Ls []))]),9⟩ (Wk.nils [(8,1)] (by simp) (by simp) (by simp [nlA]) (by simp [entN,nlL,nlA,Cat.cells,SF.cells,UA,U1,IA,I1,LA,L1,BA,B1,EA,E1,E2,eB,eI,eL,eM]) (by simp)) (Q1y 9)) ?_);clear h;intro k40 s40 c40 h hk40;refine Q3 (Q3 (runQ hN fun K hK=>?_));simp [eM,eL,eI,Q2,Qk,Qi,Cat.cells,SF.cells];repeat refine sdQ ?_
  refine hK _ ?_;clear hK K;refine tn (Q7 rfl (fun g=>?_) fun g=>?_)
  ·have g41:s40.2<(f_.ac.length:Int):=gQ;clear g;replace h:=if_l g41 h;refine Q8 (tn (Q3 (Q6 (Q3 (runQ hN fun K hK=>?_)))));replace ⟨a42,h⟩:=Q5 h;replace ⟨a43,h⟩:=Q5 h;simp [eM,eL,eI,Q2,Qk,Qi,Cat.cells,SF.cells,at_I a42,at_I a43];(repeat refine sdQ ?_);refine hK _ ?_;clear hK K;refine tn (Qa (st':=⟨Yi members_ (YJ s40 f_ [(10,.own 9 0 0)]),Y8 f_ v1 b2 s40 [(9,.mix 1 [])],10⟩) (Q1y 10) (Q3 (Q3 (runQ hN fun K hK=>?_))));simp [eM,eL,eI,Q2,Qk,Qi,Cat.cells,SF.cells];(repeat refine sdQ ?_);refine hK _ (tn (Qa (st':=⟨Yi members_ (YJ s40 f_ [(10,.own 9 0 0),(11,iV 0)]),Y8 f_ v1 b2 s40 [(9,.mix 1 [])],10⟩) (Q1y 10) ?_));clear hK K;replace ⟨e44,h,h44⟩:=bind_some h;refine QM (fun b44:List Int=>⟨Yi members_ [(7,iV s40.2),(10,.own 9 0 b44.length)],Y8 f_ v1 b2 s40 [(9,rI b44)],10⟩) (fun b44=>b44=e44) ?_ ?_
   ·refine Q6 (QW h (fun s55:List Int × Int=>⟨Yi members_ (YJ s40 f_ [(10,.own 9 0 s55.1.length),(11,iV s55.2)]),Y8 f_ v1 b2 s40 [(9,rI s55.1)],10⟩) (Q3C ⟨Yi members_ (YJ s40 f_ [(10,.own 9 0 0),(11,iV 0)]),Y8 f_ v1 b2 s40 [(9,rI [])],10⟩ (Wk.nils [] (by simp) (by simp) (by simp [nlA]) (by simp [entN,nlL,nlA,Cat.cells,SF.cells,UA,U1,IA,I1,LA,L1,BA,B1,EA,E1,E2,eB,eI,eL,eM]) (by simp)) (Q1y 10)) ?_);clear h;intro k55 s55 c55 h hk55;refine Q3 (Q3 (runQ hN fun K hK=>?_));replace ⟨a56,h⟩:=Q5 h;simp [eM,eL,eI,Q2,Qk,Qi,Cat.cells,SF.cells,at_L a56];(repeat refine sdQ ?_);refine hK _ ?_;clear hK K;refine tn (Q7 rfl (fun g=>?_) fun g=>?_)
    ·have g57:s55.2<((rx members_ (ix f_.s.fr s40.2)).length:Int):=gQ;clear g;replace h:=if_l g57 h;refine Q8 (tn (Q3 (Q6 (runQ hN fun K hK=>?_))));replace ⟨a58,h⟩:=Q5 h;replace ⟨a59,h⟩:=Q5 h;replace ⟨a60,h⟩:=Q5 h;replace ⟨a61,h⟩:=Q5 h;replace ⟨a62,h⟩:=Q5 h;simp [eM,eL,eI,Q2,Qk,Qi,Cat.cells,SF.cells,at_L a58,at_L a59,at_L a60,at_I a61,at_I a62];(repeat with_reducible refine sdQ ?_);replace ⟨v63,hv63,h⟩:=bind_some h;refine Q0 (Q88 _ _ v63 hv63) (.cons .lst (.cons .val .nil)) ?_;replace ⟨a64,h⟩:=Q5 h;(try simp only [qJ,qI,zE] at a64);simp [eM,eL,eI,Q2,Qk,Qi,Cat.cells,SF.cells,at_L a58,at_L a59,at_L a60,at_I a61,at_I a62,a64];(repeat refine sdQ ?_);refine hK _ ?_;clear hK K;refine bn (tn (Qa (st':=⟨Yi members_ (YJ s40 f_ [(10,.own 9 0 ((s55.1++[v63]).length)),(11,iV s55.2)]),Y8 f_ v1 b2 s40 [(9,rI (s55.1++[v63]))],10⟩) (Qw [(0,0),(1,1),(2,2),(3,3),(4,4),(5,5),(6,6),(7,7),(8,8),(12,9)]) (runQ hN fun K hK=>?_)));replace ⟨a65,h⟩:=Q5 h;simp [eM,eL,eI,Q2,Qk,Qi,Cat.cells,SF.cells,QE a65];(repeat refine sdQ ?_);refine hK _ ?_;clear hK K;cases h;exact rn (s':=(s55.1++[v63],s55.2+1)) hk55 (Q1y 10)
    have g57:¬ (s55.2<((rx members_ (ix f_.s.fr s40.2)).length:Int)):=gQ;clear g;replace h:=if_r g57 h;refine Qo (tx (lx (bh ?_)));cases h;exact jn (b:=s55.1) hk55 (Q1y 10)
   intro b44 hb44;have h:=h44;(try rw [← hb44] at h);clear h44;(try dsimp only at h);refine runQ hN fun K hK=>?_;replace ⟨a66,h⟩:=Q5 h;(try simp only [qJ,qI,zE] at a66);simp [eM,eL,eI,Q2,Qk,Qi,Cat.cells,SF.cells,a66];(repeat refine sdQ ?_);refine hK _ ?_;clear hK K;refine bn (tn (Qa (st':=⟨Yi members_ [(7,iV s40.2)],Yn f_ ((2,.mix 7 [(YZ v1 [.own 7 0 b2.length,.own 8 0 ((s40.1++[b44]).length)])])::Yt v1 [(7,rI b2),(8,.row 1 (Ls (s40.1++[b44])))]),9⟩) (Qw [(0,0),(1,1),(2,2),(3,3),(4,4),(5,5),(6,6),(7,7),(11,8)]) (runQ hN fun K hK=>?_)));replace ⟨a67,h⟩:=Q5 h;simp [eM,eL,eI,Q2,Qk,Qi,Cat.cells,SF.cells,QE a67];(repeat refine sdQ ?_);refine hK _ ?_;clear hK K;cases h;exact rn (s':=(s40.1++[b44],s40.2+1)) hk40 (Q1y 9)
  have g41:¬ (s40.2<(f_.ac.length:Int)):=gQ;clear g;replace h:=if_r g41 h;refine Qo (tx (lx (bh ?_)));cases h;exact jn (b:=s40.1) hk40 (Qw [(1,0),(2,1),(3,2),(4,3),(5,4),(6,5),(7,6),(8,7)])
 intro b12 hb12;have h:=h12;try rw [← hb12] at h
 clear h12;try dsimp only at h
 refine Q3 (runQ hN fun K hK=>?_);simp [eM,eL,eI,Q2,Qk,Qi,Cat.cells,SF.cells];repeat refine sdQ ?_
 refine hK _ (tn (Qa (st':=⟨YK [],[(0,.mix 7 [(Y03 v1 [.own 5 0 b2.length,.own 6 0 b12.length])]),(1,rI v1.fr),(2,rI v1.to),(3,rI v1.id),(4,.row 1 (Ls v1.cs)),(5,rI b2),(6,.row 1 (Ls b12))],7⟩) (Qw [(0,0),(2,1),(3,2),(4,3),(5,4),(6,5),(7,6)]) (Qh ?_)));clear hK K;have hr:=zH h;rw [← hr];refine ⟨_,(.cell Q62 rfl rfl rfl (by simp) (by simp) .nil),?_⟩;refine ⟨(.agg rfl .nil),[iV v1.n,lI v1.fr,lI v1.to,lI v1.id,.lst true 1 (Ls v1.cs),lI b2,.lst true 1 (Ls b12)],[1,2,3,4,5,6],by simp [Cat.cells,SF.cells,UA,U1,IA,I1,LA,L1,BA,B1,EA,E1,E2,eB,eI,eL,eM],by simp,(UpL.refl _)⟩
end Go.Vc.T
namespace Go.Vc.T
open Go Go.Vc Go.Proofs
section
attribute [local simp] Qf QF Qs Q1m QO
theorem fstJ {ε β:Type} {body:Int→Option (Ctl Int ε)} {K:ε→Option β} {r:Option β} (n:Nat) (p:Nat→Prop) (eb:Int→ε) (eg:ε) (hn:n<4611686018427387904)
  (h:∀ i:Nat,i<n→body (i:Int)=if bo (p i)=true then some (.ret (eb i)) else some (.next ((i:Int)+1))) (h3:body (n:Int)=some (.ret eg)) (hk:K (if 0≤fstN n p then eb (fstN n p) else eg)=r):(QX body fuel 0).bind K=r:=by
 rcases Q9n n (fun i=>¬ p i) (eb:=fun i=>eb i) (eg:=eg) hn (fun i hi q=>by rw [h i hi,Q44 q];simp) (fun i hi q=>by rw [h i hi,Q45 (zI q)];simp) h3 with ⟨q,e⟩|⟨m,hm,hq,hlt,e⟩
 ·rw [e,zN,← hk,fstN_no q];simp
 rw [e,zN,← hk,fstN_at hm (zI hq) hlt];simp
noncomputable def idxL (L:List Int) (v:Int):Int:=fstN L.length fun i=>ix L i=v
theorem e_l01Idx {L:List Int} {v:Int} (hl:L.length≤1000000):Q26 L v=some (idxL L v):=by
 unfold Q26;refine fstJ L.length (fun i=>ix L i=v) (fun i=>Sum.inr i) (Sum.inl ()) (by omega) (fun i hi=>?_) (by rw [if_neg (by omega)]) ?_
 ·rw [if_pos (by omega),Q9 (by omega)]
  by_cases q:ix L i=v
  ·rw [if_pos q,Q45 q];rfl
  rw [if_neg q,Q44 q,Q9 (by unfold B64;omega)];rfl
 unfold idxL;rcases Q6N L.length (fun i=>ix L i=v) with ⟨e,_⟩|⟨k,_,_,e⟩
 ·rw [e];simp
 rw [e,if_pos (by omega)]
structure SubP (f:SF) (M:Nat→List Int):Prop where
 cat:f.s.Is
 la:f.ac.length=f.s.fr.length
 len:∀ x:Nat,(x:Int)<f.s.n→(M x).length≤256
 rng:∀ a:Nat,a<f.s.fr.length→∀ y∈M (ix f.s.fr a).toNat,0≤y∧y<((rx f.ac a).length:Int)
noncomputable def subA (f:SF) (M:Nat→List Int) (n:Nat):List (List Int):=tab n fun a:Nat=>(M (ix f.s.fr a).toNat).map fun y=>idxL (M (ix f.s.to a).toNat) (ix (rx f.ac a) y)
noncomputable def subF (f:SF) (M:Nat→List Int):SF:=⟨f.s,tab f.s.n.toNat fun x=>((M x).length:Int),subA f M f.s.fr.length⟩
def subM (f:SF) (M:Nat→List Int):List (List Int):=tab f.s.n.toNat M
theorem SubP.cats {f:SF} {M:Nat→List Int} (h:SubP f M):(f.s.n.toNat:Int)=f.s.n∧f.s.n.toNat≤8∧f.s.fr.length≤40∧f.s.to.length=f.s.fr.length∧∀ a:Nat,a<f.s.fr.length→(0≤ix f.s.fr a∧ix f.s.fr a<f.s.n)∧(0≤ix f.s.to a∧ix f.s.to a<f.s.n):=by
 have hC:=h.cat.1;have n8:=hC.n8;have m40:=hC.m40;have li:=hC.li;have lt:=hC.lt;refine ⟨by omega,by omega,by omega,by omega,fun a ha=>?_⟩;obtain ⟨q1,q2⟩:=hC.frn ha;omega
theorem rx_tabZ (n:Nat) (g:Nat→List Int) {j:Int} (h0:0≤j) (h1:j<n):rx (tab n g) j=g j.toNat:=by
 have e:j=(j.toNat:Int):=(zM h0).symm;rw [e,Q5Q n g (by omega)];rfl
theorem e_subset {f:SF} {M:Nat→List Int} (h:SubP f M):Q1P f (subM f M)=some (subF f M):=by
 obtain ⟨hN,hN8,hM,hT,hft⟩:=h.cats;have hla:=h.la;unfold Q1P Q2i;rw [Q9 h.cat.1.size2.1];simp only [zN];have hl:(subM f M).length=f.s.n.toNat:=by simp [subM]
 refine Q1a f.s.n.toNat (fun i=>tab i fun x=>((M x).length:Int)) (e:=tab f.s.n.toNat fun x=>((M x).length:Int)) rfl (by omega) (fun i hi=>?_) (by simp [hl]) ?_
 ·simp only;rw [if_pos (by omega),Q9 (by omega),subM,Q5Q _ _ hi,Q9 (by simp;omega),Q9 (by unfold B64;omega),Q1b]
 refine Q1a f.ac.length (fun i=>subA f M i) (e:=subA f M f.s.fr.length) rfl (by omega) (fun a ha=>?_) (by simp [hla]) rfl;obtain ⟨q1,q2⟩:=hft a (by omega);have hr:=h.rng a (by omega);have h1:rx (subM f M) (ix f.s.fr a)=M (ix f.s.fr a).toNat:=rx_tabZ _ _ q1.1 (by omega);have h2:rx (subM f M) (ix f.s.to a)=M (ix f.s.to a).toNat:=rx_tabZ _ _ q2.1 (by omega);have l1:=h.len (ix f.s.fr a).toNat (by omega);have l2:=h.len (ix f.s.to a).toNat (by omega);simp only [h1,h2,hl];rw [if_pos (by omega),Q9 (by omega),Q9 (by omega)];refine Q1a (M (ix f.s.fr a).toNat).length (fun k=>((M (ix f.s.fr a).toNat).take k).map fun y=>idxL (M (ix f.s.to a).toNat) (ix (rx f.ac a) y)) (e:=(M (ix f.s.fr a).toNat).map fun y=>idxL (M (ix f.s.to a).toNat) (ix (rx f.ac a) y)) (by simp) (by omega) (fun k hk=>?_) (by simp only;rw [Q9 (by omega),if_neg (by omega)];simp) ?_
 ·have hm:ix (M (ix f.s.fr a).toNat) k∈M (ix f.s.fr a).toNat:=by rw [← QN _ _ hk];exact zL hk
  have hb:=hr _ hm;have ht:(M (ix f.s.fr a).toNat).take (k+1)=(M (ix f.s.fr a).toNat).take k++[ix (M (ix f.s.fr a).toNat) k]:=by rw [zJ hk,QN _ _ hk]
  simp only;rw [Q9 (by omega),if_pos (by omega),Q9 (by omega),Q9 (by omega),Q9 (by omega),Q9 (by omega),Q9 (by omega),e_l01Idx (by omega)];simp only [zN];rw [Q9 (by simp;omega),Q9 (by unfold B64;omega),ht,List.map_append];rfl
 have:(subA f M a).length=a:=by simp [subA]
 rw [Q9 (by simp;omega),Q9 (by unfold B64;omega),subA,subA,Q1b]
theorem sub_ok {f:SF} {M:Nat→List Int} (h:SubP f M) (h16:∀ x:Nat,(x:Int)<f.s.n→(M x).length≤16):((subF f M).ok∧(subF f M).size≤10000)∧((subM f M).length≤1048576∧∀ x∈subM f M,x.length≤1048576)∧sumL (subM f M)≤10000:=by
 obtain ⟨hN,hN8,hM,hT,hft⟩:=h.cats;obtain ⟨c1,c2⟩:=h.cat.1.size2;have b0:∀ xs∈subA f M f.s.fr.length,xs.length≤16:=by
  intro xs hx;simp only [subA,tab,List.mem_map,List.mem_range] at hx;obtain ⟨a,ha,rfl⟩:=hx;have:=h16 (ix f.s.fr a).toNat (by have:=hft a ha;omega);simpa using this
 have b1:∀ xs∈subM f M,xs.length≤16:=by
  intro xs hx;simp only [subM,tab,List.mem_map,List.mem_range] at hx;obtain ⟨a,ha,rfl⟩:=hx;exact h16 a (by omega)
 have s0:=Q81 b0;have s1:=Q81 b1;have l0:(subA f M f.s.fr.length).length=f.s.fr.length:=by simp [subA]
 have l1:(subM f M).length=f.s.n.toNat:=by simp [subM]
 rw [l0] at s0;rw [l1] at s1;refine ⟨⟨⟨c1,by simp [subF];omega,by simp only [subF];omega,fun xs hx=>by have:=b0 xs hx;omega,by simp only [subF];omega⟩,?_⟩,⟨by omega,fun xs hx=>by have:=b1 xs hx;omega⟩,by omega⟩;simp only [SF.size,subF,Q2Z];omega
end
end Go.Vc.T
namespace Go.Vc.T
open Go Go.Vc Go.Proofs
section
attribute [local simp] Qf QF Qs Q1m QO
theorem SM.Is.at {s:SM} (h:s.Is):s.p.length=s.s.sz.length∧(s.p.length:Int)=s.s.s.n∧s.p.length≤8∧s.t.sz.length=s.p.length∧s.s.s=s.t.s ∧
  ∀ x:Nat,x<s.p.length→(rx s.p x).length≤16∧((rx s.p x).length:Int)=ix s.s.sz x∧(0≤ix s.t.sz x∧ix s.t.sz x≤16)∧(∀ y∈rx s.p x,inR (ix s.t.sz x) y=true)∧∀ e:Nat,e<(rx s.p x).length→0≤ix (rx s.p x) e∧ix (rx s.p x) e<ix s.t.sz x:=by
 have l1:=h.1.lens;have hl:=h.1.lp;have hp:=h.1.plen;refine ⟨hl,by omega,hp,by omega,h.1.eq,fun x hx=>?_⟩;have r1:=h.1.rows hx;obtain ⟨a1,a2⟩:=h.1.part' (j:=x) (by omega) (by omega);have s2:=Q1p h.1.ht.1.sz (j:=x) (by omega) (by omega);refine ⟨r1,a1,by omega,(h.1.pt x hx).2,fun e he=>?_⟩;have c1:=a2 e (by omega) (by omega);omega
theorem SM.Is.mv {s:SM} (h:s.Is) {a:Nat} (ha:a<s.s.s.fr.length) {e:Nat} (he:e<(rx s.p (ix s.s.s.fr a)).length) :
  ((0≤ix s.s.s.fr a∧ix s.s.s.fr a<s.p.length)∧0≤ix s.s.s.to a∧ix s.s.s.to a<s.p.length)∧(0≤ix (rx s.s.ac a) e∧ix (rx s.s.ac a) e<(rx s.p (ix s.s.s.to a)).length)∧s.nat a e:=by
 obtain ⟨k1,k2,k3,k4,k5,k6⟩:=h.at;have hC:=h.1.hs.1.cat.1;have li:=hC.li;obtain ⟨q1,q2⟩:=hC.frn ha;have f1:=k6 (ix s.s.s.fr a).toNat (by omega);have f2:=k6 (ix s.s.s.to a).toNat (by omega);have e1:((ix s.s.s.fr a).toNat:Int)=ix s.s.s.fr a:=by omega
 have e2:((ix s.s.s.to a).toNat:Int)=ix s.s.s.to a:=by omega
 rw [e1] at f1;rw [e2] at f2;have hac:=h.1.hs.1.act a (by rw [h.1.hs.1.la];exact ha);have hla:e<s.s.la a:=by have:=hac.1;simp only [SF.la];omega
 have hb:=Q1p hac.2 (j:=e) (by omega) (by have:=hac.1;omega);exact ⟨by omega,by omega,h.2 a ha e hla⟩
end
end Go.Vc.T
namespace Go.Vc.T
open Go Go.Vc Go.Proofs
section
attribute [local simp] Qf QF Qs Q1m QO
def pbQ (s t:SM) (x k:Nat):Prop:=ix (rx s.p x) (prF (szN t.s x) k)=ix (rx t.p x) (prS (szN t.s x) k)
noncomputable def pbM (s t:SM) (x:Nat):List Int:=flt (szN s.s x * szN t.s x) (pbQ s t x)
def prI (M:Nat) (k:Int):List Int:=pr M k.toNat
def pfI (M:Nat) (k:Int):Int:=prF M k.toNat
def psI (M:Nat) (k:Int):Int:=prS M k.toNat
noncomputable def pbE (s t:SM) (x:Nat):List (List Int):=(pbM s t x).map (prI (szN t.s x))
noncomputable def pbL (s t:SM) (x:Nat):List Int:=(pbM s t x).map (pfI (szN t.s x))
noncomputable def pbR (s t:SM) (x:Nat):List Int:=(pbM s t x).map (psI (szN t.s x))
theorem pr_inj {n M k j:Nat} (hk:k<n * M) (hj:j<n * M) (h:pr M k=pr M j):k=j:=by
 simp only [pr,prF,prS,List.cons.injEq,and_true] at h;have q1:=Qaf hk;have q2:=Qaf hj;have e1:k / M=j / M:=by omega
 have e2:k % M=j % M:=by omega
 rw [e1,e2] at q1;omega
theorem pr_mem {n M k:Nat} (hk:k<n * M):pr M k∈prs n M:=by
 simp only [prs,tab,List.mem_map,List.mem_range];exact ⟨k,hk,rfl⟩
theorem mem_pbM {s t:SM} {x:Nat} {y:Int}:y∈pbM s t x↔∃ k:Nat,k<szN s.s x * szN t.s x∧pbQ s t x k∧y=(k:Int):=mem_flt
theorem mem_pbE {s t:SM} {x:Nat} {y:List Int}:y∈pbE s t x↔∃ k:Nat,k<szN s.s x * szN t.s x∧pbQ s t x k∧y=pr (szN t.s x) k:=by
 simp only [pbE,List.mem_map];constructor
 ·rintro ⟨_,hk,rfl⟩
  obtain ⟨k,h1,h2,rfl⟩:=mem_pbM.1 hk;exact ⟨k,h1,h2,rfl⟩
 rintro ⟨k,h1,h2,rfl⟩
 exact ⟨(k:Int),mem_pbM.2 ⟨k,h1,h2,rfl⟩,rfl⟩
theorem Q8E (s t:SM) (x:Nat):(pbM s t x).length≤szN s.s x * szN t.s x:=Q8q _ _
theorem pb_mv {s t:SM} (h:s.Is∧t.Is) (ht:s.t=t.t) {a:Nat} (ha:a<s.s.s.fr.length) {k:Nat} (hk:k<szN s.s (ix s.s.s.fr a).toNat * szN t.s (ix s.s.s.fr a).toNat) :
  ∃ k',k' < szN s.s (ix s.s.s.to a).toNat * szN t.s (ix s.s.s.to a).toNat∧mvT [s.s,t.s] a (pr (szN t.s (ix s.s.s.fr a).toNat) k)=pr (szN t.s (ix s.s.s.to a).toNat) k' ∧
   ix (rx s.s.ac a) (prF (szN t.s (ix s.s.s.fr a).toNat) k) * ix t.s.sz (ix s.s.s.to a)+ix (rx t.s.ac a) (prS (szN t.s (ix s.s.s.fr a).toNat) k)=(k':Int)∧(pbQ s t (ix s.s.s.fr a).toNat k→pbQ s t (ix s.s.s.to a).toNat k'):=by
 have hT:=Q6G h ht;obtain ⟨k0,k1,k2,k3,k4,k5,k6,k7⟩:=hT.fact;obtain ⟨m1,m2,m3,m4⟩:=hT.mv ha hk;have hC:=hT.pf.cat.1;have li:=hC.li;obtain ⟨q1,q2⟩:=hC.frn ha;have e1:((ix s.s.s.fr a).toNat:Int)=ix s.s.s.fr a:=by omega
 have e2:((ix s.s.s.to a).toNat:Int)=ix s.s.s.to a:=by omega
 have z1:=hT.szn (x:=(ix s.s.s.fr a).toNat) (by omega);have z2:=hT.szn (x:=(ix s.s.s.to a).toNat) (by omega);have p:=Qaf hk;have hx1:=h.1.at.2.2.2.2.2 (ix s.s.s.fr a).toNat (by have:=h.1.at.1;omega);have hx2:=h.2.at.2.2.2.2.2 (ix s.s.s.fr a).toNat (by have:=h.2.at.1;omega);rw [e1] at hx1 hx2 z1;have g1:(rx s.p (ix s.s.s.fr a)).length=szN s.s (ix s.s.s.fr a).toNat:=by omega
 have g2:(rx t.p (ix s.s.s.fr a)).length=szN t.s (ix s.s.s.fr a).toNat:=by omega
 have n1:s.nat a (k / szN t.s (ix s.s.s.fr a).toNat):=(h.1.mv ha (e:=k / szN t.s (ix s.s.s.fr a).toNat) (by rw [g1];exact p.1)).2.2;have n2:t.nat a (k % szN t.s (ix s.s.s.fr a).toNat):=(h.2.mv (a:=a) (by rw [← hT.e];exact ha) (e:=k % szN t.s (ix s.s.s.fr a).toNat) (by rw [← hT.e,g2];exact p.2.1)).2.2;replace n1:ix (rx s.p (ix s.s.s.to a)) (ix (rx s.s.ac a) (prF (szN t.s (ix s.s.s.fr a).toNat) k))=ix (rx s.t.ac a) (ix (rx s.p (ix s.s.s.fr a)) (prF (szN t.s (ix s.s.s.fr a).toNat) k)):=n1;replace n2:ix (rx t.p (ix t.s.s.to a)) (ix (rx t.s.ac a) (prS (szN t.s (ix s.s.s.fr a).toNat) k))=ix (rx t.t.ac a) (ix (rx t.p (ix t.s.s.fr a)) (prS (szN t.s (ix s.s.s.fr a).toNat) k)):=n2;rw [← hT.e,← ht] at n2;rw [mvT_pr];generalize hU:ix (rx s.s.ac a) (prF (szN t.s (ix s.s.s.fr a).toNat) k)=u at *;generalize hV:ix (rx t.s.ac a) (prS (szN t.s (ix s.s.s.fr a).toNat) k)=v at *;have eu:((u.toNat:Nat):Int)=u:=by omega
 have ev:((v.toNat:Nat):Int)=v:=by omega
 have hv:v.toNat<szN t.s (ix s.s.s.to a).toNat:=by omega
 refine ⟨u.toNat * szN t.s (ix s.s.s.to a).toNat+v.toNat,Q6Y (by omega) hv,?_,?_,fun hq=>?_⟩
 ·rw [pr_at hv,eu,ev]
 ·rw [Int.natCast_add,Int.natCast_mul,eu,ev,z2.2.1,e2]
 unfold pbQ at hq ⊢;obtain ⟨c1,c2⟩:=prF_at (e:=u.toNat) hv;rw [c1,c2,eu,ev,e2,n1,n2];rw [e1] at hq;rw [hq]
theorem pb_tup {s t:SM} (h:s.Is∧t.Is) (ht:s.t=t.t):TupP [s.s,t.s] s.s.s (pbE s t):=by
 have hT:=Q6G h ht;have TT:=hT.tup;have sub:∀ x:Nat,∀ y∈pbE s t x,y∈prE s.s t.s x:=fun x y hy=>by
  obtain ⟨k,hk,_,rfl⟩:=mem_pbE.1 hy;exact pr_mem hk
 refine ⟨TT.l0,TT.l2,TT.sh,fun x hx=>?_,fun x hx=>⟨?_,fun y hy a ha=>(TT.key x hx).sm y (sub x y hy) a ha⟩,fun x hx y hy=>TT.row x hx y (sub x y hy),fun a ha y hy=>?_⟩
 ·have z:=hT.szn hx;have:=Q8C z.1.2 z.2.2;have:=Q8E s t x;simp only [pbE,List.length_map];omega
 ·unfold pbE;rw [List.Nodup,List.pairwise_map];refine List.Pairwise.imp_of_mem (R:=fun a b=>a ≠ b) (fun {a b} ha hb hab e=>hab ?_) (flt_nodup _ _);obtain ⟨k,hk,_,rfl⟩:=mem_pbM.1 ha;obtain ⟨j,hj,_,rfl⟩:=mem_pbM.1 hb;rw [pr_inj hk hj (by simpa [prI] using e)]
 obtain ⟨k,hk,hq,rfl⟩:=mem_pbE.1 hy;obtain ⟨k',h1,h2,_,h4⟩:=pb_mv h ht ha hk;rw [h2];exact mem_pbE.2 ⟨k',h1,h4 hq,rfl⟩
theorem Q9A {f g:SF} {a:Nat} (ha:a<f.ac.length):rx (Q24 f g).ac a=Q4Y f g a (szN f (ix f.s.fr a).toNat * szN g (ix f.s.fr a).toNat):=Q5Q _ _ ha
theorem pb_sub {s t:SM} (h:s.Is∧t.Is) (ht:s.t=t.t):SubP (Q24 s.s t.s) (pbM s t):=by
 have hT:=Q6G h ht;obtain ⟨k0,k1,k2,k3,k4,k5,k6,k7⟩:=hT.fact;refine ⟨hT.pf.cat,by simp [Q24,Q8F];omega,fun x hx=>?_,fun a ha y hy=>?_⟩
 ·have z:=hT.szn (x:=x) hx;have:=Q8C z.1.2 z.2.2;have:=Q8E s t x;omega
 have ha':a<s.s.s.fr.length:=ha;obtain ⟨k,hk,_,rfl⟩:=mem_pbM.1 hy;rw [Q9A (by omega)];have hk':k<szN s.s (ix s.s.s.fr a).toNat * szN t.s (ix s.s.s.fr a).toNat:=hk;simp only [Q4Y,Q2Z];omega
theorem pb_eq {s t:SM} (h:s.Is∧t.Is) (ht:s.t=t.t):(⟨s.s.s,tupZ s.s.s (pbE s t),tupA [s.s,t.s] s.s.s (pbE s t)⟩:SF)=subF (Q24 s.s t.s) (pbM s t):=by
 have hT:=Q6G h ht;obtain ⟨k0,k1,k2,k3,k4,k5,k6,k7⟩:=hT.fact;have hz:tupZ s.s.s (pbE s t)=tab (Q24 s.s t.s).s.n.toNat fun x=>((pbM s t x).length:Int):=Q4n fun x hx=>by simp [pbE]
 have hA:tupA [s.s,t.s] s.s.s (pbE s t)=subA (Q24 s.s t.s) (pbM s t) (Q24 s.s t.s).s.fr.length:=by
  unfold tupA subA;refine Q4n fun a ha=>?_;show (pbE s t (ix s.s.s.fr a).toNat).map _=(pbM s t (ix s.s.s.fr a).toNat).map fun y=>idxL (pbM s t (ix s.s.s.to a).toNat) (ix (rx (Q24 s.s t.s).ac a) y);unfold pbE;rw [List.map_map];refine List.map_congr_left fun y hy=>?_;obtain ⟨k,hk,_,rfl⟩:=mem_pbM.1 hy;obtain ⟨k',h1,h2,h3,_⟩:=pb_mv h ht ha hk;have e1:ix (rx (Q24 s.s t.s).ac a) (k:Int)=(k':Int):=by
   rw [Q9A (by omega),← h3];exact Q7C _ _ hk
  show posL _ (mvT [s.s,t.s] a (pr (szN t.s (ix s.s.s.fr a).toNat) k))=_;rw [h2,e1];unfold posL idxL;rw [List.length_map];refine Q8n fun i hi=>?_;have hr:rx ((pbM s t (ix s.s.s.to a).toNat).map (prI (szN t.s (ix s.s.s.to a).toNat))) i=prI (szN t.s (ix s.s.s.to a).toNat) (ix (pbM s t (ix s.s.s.to a).toNat) i):=by
   rw [← QJ _ _ (by simpa using hi)];simp [QN _ _ hi]
  rw [hr];have hm:ix (pbM s t (ix s.s.s.to a).toNat) i∈pbM s t (ix s.s.s.to a).toNat:=by rw [← QN _ _ hi];exact zL hi
  obtain ⟨j,hj,_,ej⟩:=mem_pbM.1 hm;rw [ej];constructor
  ·intro e;rw [pr_inj hj h1 (by simpa [prI] using e)]
  intro e;have:j=k':=by omega
  rw [this];rfl
 rw [hz,hA];rfl
end
end Go.Vc.T
namespace Go.Vc.T
open Go Go.Vc Go.Proofs
attribute [local simp] unk unA unE unT unC flat
noncomputable def QB (e_:Int) (d_:Int) (c0_:SM) (c1_:Int) (c2_:SM):Option Bool :=
 ass (0≤c1_∧c1_<(c0_.p.length:Int)) <|
 ass (0≤e_∧e_<((rx c0_.p c1_).length:Int)) <|
 ass (0≤c1_∧c1_<(c2_.p.length:Int)) <|
 ass (0≤d_∧d_<((rx c2_.p c1_).length:Int)) <|
 some ((ix (rx c0_.p c1_) e_) == (ix (rx c2_.p c1_) d_))
theorem Q1X [Kd Tryz.prog] (e_:Int) (d_:Int) (c0_:SM) (c1_:Int) (c2_:SM) (r:Bool) (h:QB e_ d_ c0_ c1_ c2_=some r):Contract Tryz.prog 81 [iV e_,iV d_,.rptr (SM.cells true c0_),.rptr [iV c1_],.rptr (SM.cells true c2_)] (.val (.bool r)):=by
 refine Qt (rvs:=[.tmp 7]) (rs:=[.val (.bool r)]) Tryz.func81 rfl rfl rfl rfl (by simp [Tryz.f81]) fun F hN hP=>?_;unfold QB at h;refine Q3 (runQ hN fun K hK=>?_);simp [eM,eL,eI,Q2,Qm,SM.cells];repeat refine sdQ ?_
 refine hK _ ?_;clear hK K;refine tn (Qa (st':=⟨[(0,iV e_),(1,iV d_),(2,.rptr (SM.cells true c0_)),(3,.rptr [iV c1_]),(4,.rptr (SM.cells true c2_))],[],0⟩) (Qw []) (Q3 (runQ hN fun K hK=>?_)));replace ⟨a1,h⟩:=Q5 h;replace ⟨a2,h⟩:=Q5 h;replace ⟨a3,h⟩:=Q5 h;replace ⟨a4,h⟩:=Q5 h;simp [eM,eL,eI,Q2,Qm,SM.cells,at_L a1,at_I a2,at_L a3,at_I a4];repeat refine sdQ ?_
 refine hK _ (tn (Qa (st':=⟨[(7,.val (.bool ((ix (rx c0_.p c1_) e_) == (ix (rx c2_.p c1_) d_))))],[],0⟩) (Qw []) (Qh ?_)));clear hK K;have hr:=zH h;rw [← hr];refine ⟨_,(.tmp .nil),?_⟩;refine ⟨(.one rfl rfl .nil),[.val (.bool ((ix (rx c0_.p c1_) e_) == (ix (rx c2_.p c1_) d_)))],[],by simp [SM.cells,UA,U1,IA,I1,LA,L1,BA,B1,EA,E1,E2,eB,eI,eL,eM],by simp,(UpL.refl _)⟩
end Go.Vc.T
