/- A part of the proof. -/
import Derived.Test.YtghefemofbipnaaGreatW20
set_option maxRecDepth 100000
set_option maxHeartbeats 4000000
set_option linter.unusedSimpArgs false
set_option linter.unusedVariables false
set_option linter.unusedSectionVars false
set_option linter.unnecessarySimpa false

open Option.some renaming injEq→qA
open List renaming getD_eq_getElem?_getD→qG
open Nat renaming le_refl→qC
open Option.some renaming inj→zH
open Option renaming getD_some→qB
open Classical renaming byContradiction→zI
open List renaming length_cons→qJ
open List renaming length_append→qK
open List renaming length_nil→zD
open Nat renaming le_trans→qL
open Option renaming bind_some→zM
open List renaming range→zG
open Nat renaming zero_add→qO
open List renaming take_succ_eq_append_getElem→zJ
open List renaming replicate→qZ
open List renaming getD_cons_zero→qS
open List renaming getElem_mem→zL
open List renaming size_toArray→qW
namespace Go.Proofs
open Go Go.Conc Go.ConcN Go.RowKit Go.Conc.Lib Go.Vc Go.Vc.Wg
section
attribute [local simp] Qf QF Qs
open Go.ConcR (KK wgBlock WgAt stA smA rd wr mk Payload DC0)
def Q9H (Wg bT bX:Nat):Deferred:={ target:=.fn (.func 95) #[.pointer (some ⟨Wg,0,none⟩),.pointer (some ⟨bT,0,none⟩),.pointer (some ⟨bX,0,none⟩)],args:=#[] }
theorem born_C (Wg bT bX:Nat) (w:World):stepG Tryz.prog false (born Tryz.prog (Q9H Wg bT bX)) w =
  .go (G ((baseD 95).at ⟨#[.pointer (some ⟨Wg,0,none⟩),.pointer (some ⟨bT,0,none⟩),.pointer (some ⟨bX,0,none⟩),undef,undef,undef],[]⟩ [.code Q9F]) [botG]) w #[]:=by
 simp [born,Q9H,stepG,unwind,callDeferred,invoke,callFunc,Tryz.func95,Tryz.f95,seen,GStep.after,G,Frame.enter,Frame.at,baseD,botG,Q9F]
theorem Q80 {Stop:Goroutine→World→Prop} {Wg bT bX fT:Nat} {caps:Array Value} {x:Value} {fn:Func} (v:World) (hT:v.cell? ⟨bT,0,none⟩=some (.func (.func fT) #[] caps)) (hX:v.cell? ⟨bX,0,none⟩=some x)
  (hf : Tryz.prog.funcs[fT]? = some fn) (hne : (fn.name == "runtime.NumGoroutine") = false) (hb : fn.body.isSome = true)
  (hn:∀ v₁,Rly v v₁→To Tryz.prog false Stop (G (Frame.enter Tryz.prog fT (#[x]++caps) .normal) [frC Wg bT bX (.func (.func fT) #[] caps) x,botG]) v₁):To Tryz.prog false Stop (born Tryz.prog (Q9H Wg bT bX)) v:=by
 refine To.ctl rfl (born_C Wg bT bX) ?_;simp only [Q9F,Tryz.f95,qB];refine To.ctl rfl (fun _=>stepG_seq) ?_;refine To.ctl rfl (fun _=>stepG_region) ?_;simp only [qW,qJ,zD,Nat.reduceAdd,qO,zG,List.range.loop];refine To.ctl rfl (fun _=>stepG_defer rfl rfl (by decide) rfl) ?_
 walk_nrm
 refine To.ctl rfl (fun _=>stepG_region_end) ?_;refine To.ctl rfl (fun _=>stepG_region) ?_;simp only [qW,qJ,zD,Nat.reduceAdd,qO,zG,List.range.loop];have ag:∀ u,(isAgg 87).run Tryz.prog u = .ok false u:=Tryz.isAgg87;refine To.oper rfl rfl (by decide) (fun v₁ r₁=>⟨(Q2v _ _).bind fun _=>.pure _,.func (.func fT) #[] caps,v₁,?_,?_⟩)
 ·have h1:=r₁.cell hT;simp [execOp,go_sem,Act.eval,h1,ag]
 walk_nrm
 refine To.oper rfl rfl (by decide) (fun v₂ r₂=>⟨(Q2v _ _).bind fun _=>.pure _,x,v₂,?_,?_⟩)
 ·have h1:=r₂.cell (r₁.cell hX);simp [execOp,go_sem,Act.eval,h1]
 walk_nrm
 have hcf:=fun w=>Q1M (P:=Tryz.prog) (args:=#[x]++caps) hf hne hb w;refine To.enter (f:=fT) (args:=#[x]++caps) rfl rfl (by decide) (fun w=>?_) (fun w=>?_) ?_
 ·simp [execOp,go_sem,Act.eval,(hcf w).1]
 ·simp [execOp,go_sem,Act.eval,(hcf w).2]
 have:=hn v₂ (r₁.trans r₂);simp only [frC,opsC,Q9F,Tryz.f95,qB] at this;exact this
end
end Go.Proofs
namespace Go.Proofs
open Go Go.Conc Go.ConcN Go.RowKit Go.Conc.Lib Go.ConcR.Gen Go.ConcN.Gen Go.Vc Go.Vc.Wg Go.Vc.Ph
section
attribute [local simp] Qf QF Qs
open Go.ConcR (KK wgBlock WgAt stA smA rd wr mk Payload DC0)
noncomputable def Q3f:Code:=Tryz.f60.body.getD .skip
noncomputable def Q4a:Code:=match Q3f with|.seq _ (.seq _ (.seq (.seq _ (.block _ (.loop c))) _))=>c|_=>.skip
noncomputable def Q4b:Code:=match Q3f with|.seq _ (.seq _ (.seq _ c))=>c|_=>.skip
noncomputable def opsW:Array Oper:=match Q4b with|.region _ ops _=>ops|_=>#[]
section
variable [PS] {cs:List Frame} {Wg bT:Nat} {n:Nat} {tr:Value}
noncomputable def frW (T:Array Value):Frame:=(base 60).at ⟨T,[]⟩ [.inRegion opsW [0]]
noncomputable def gW (cs:List Frame) (T:Array Value):Goroutine:=G ((base 60).at ((⟨T,[]⟩:Act).put ((opsW[0]?).bind (·.dst)) (.tuple #[])) [.inRegion opsW []]) cs
def Q6D (cs:List Frame) (Wg:Nat) (g:Goroutine) (w:World):Prop:=∃ T,AnchW Tryz.link Wg (frW T) cs g w
def EndE (cs:List Frame) (g:Goroutine):Prop:=∃ T,g=gW cs T
noncomputable def gL (cs:List Frame) (T:Array Value):Goroutine:=G ((base 60).at ⟨T,[]⟩ [.code Q4a,.inLoop Q4a,.inBlock 0,.code Q4b]) cs
theorem Q76 (g:Goroutine) (w:World) (h:Q6D cs Wg g w):g.status = .running:=by
 obtain ⟨T,T',rfl,_⟩:=h;rfl
theorem Q9D (g:Goroutine) (w:World) (hl:WgLive 123 Wg w) (h:Q6D cs Wg g w):∃ m,GP Tryz.prog 123 Wg (AtW1 Tryz.prog 123 Wg (Q6D cs Wg) (IsE (EndE cs))) m g w:=by
 obtain ⟨T,h⟩:=h;exact waitRound (mT:=0) (L:=Tryz.link) (Next:=IsE (EndE cs)) (Anch:=Q6D cs Wg) (b₀:=base 60) (a₀:=⟨T,[]⟩) (ops₀:=opsW) (i₀:=0) (rest₀:=[]) (k₀:=[]) (fun g w h=>⟨T,h⟩) Tryz.wgLib (fun w _=>fun w₁ _=>⟨⟨T,rfl⟩,rfl⟩) g w hl h
end
end
end Go.Proofs
namespace Go.Proofs
open Go Go.Conc Go.ConcN Go.RowKit Go.Conc.Lib Go.ConcR.Gen Go.ConcN.Gen Go.Vc Go.Vc.Wg Go.Vc.Ph
section
attribute [local simp] Qf QF Qs
open Go.ConcR (KK wgBlock WgAt stA smA rd wr mk Payload DC0)
theorem array14 (T:Array Value) (h:T.size=14):∃ v0 v1 v2 v3 v4 v5 v6 v7 v8 v9 v10 v11 v12 v13:Value,T = #[v0,v1,v2,v3,v4,v5,v6,v7,v8,v9,v10,v11,v12,v13]:=by
 obtain ⟨l⟩:=T;simp only [qW] at h;iterate 14
  rcases l with _|⟨_,l⟩
  simp at h
 rcases l with _|⟨x,l⟩
 ·exact ⟨_,_,_,_,_,_,_,_,_,_,_,_,_,_,rfl⟩
 simp at h
theorem frz_cell {v:World} {a:Addr} {x:Value} (h:v.cell? a=some x):(frz v).cell? a=some x:=by
 unfold World.cell? at h ⊢;rw [Q2p];cases hv:v.heap[a.block]? with
 | none=>simp [hv] at h
 | some o =>
  rw [hv] at h;cases o<;>first|exact h|(simp at h)
set_option maxRecDepth 100000 in
theorem enterW (Wg:Nat):Frame.enter Tryz.prog Tryz.link.wait #[.pointer (some ⟨Wg,0,none⟩)] .normal=(base Tryz.link.wait).at ⟨#[.pointer (some ⟨Wg,0,none⟩),undef,undef,undef,undef,undef,undef,undef,undef,undef,undef,undef,undef,undef,undef,undef,undef,undef,undef,undef,undef,undef,undef,undef,undef,undef,undef,undef,undef,undef,undef,undef,undef,undef,undef,undef,undef,undef,undef,undef,undef,undef,undef,undef,undef,undef,undef,undef,undef,undef,undef,undef,undef,undef,undef,undef,undef,undef,undef,undef,undef,undef,undef,undef,undef,undef,undef,undef,undef,undef,undef,undef,undef,undef,undef,undef,undef,undef,undef,undef,undef,undef,undef,undef],[]⟩ [.code (body_wait Tryz.link)]:=by
 rw [enter_at _ Tryz.wgLib.f_wait (c:=body_wait Tryz.link) (by simp only [body_wait,waitFn,qB])];simp only [body_wait]
 walk_nrmf waitFn
set_option maxRecDepth 100000 in
theorem enterA (Wg:Nat):Frame.enter Tryz.prog Tryz.link.add #[.pointer (some ⟨Wg,0,none⟩),.int .i64 1] .normal=(base Tryz.link.add).at ⟨#[.pointer (some ⟨Wg,0,none⟩),.int .i64 1,undef,undef,undef,undef,undef,undef,undef,undef,undef,undef,undef,undef,undef,undef,undef,undef,undef,undef,undef,undef,undef,undef,undef,undef,undef,undef,undef,undef,undef,undef,undef,undef,undef,undef,undef,undef,undef,undef,undef,undef,undef,undef,undef,undef,undef,undef,undef,undef,undef,undef,undef,undef,undef,undef,undef,undef,undef,undef,undef,undef,undef,undef,undef,undef,undef,undef,undef,undef,undef,undef,undef,undef,undef,undef,undef,undef,undef,undef,undef,undef,undef,undef,undef,undef,undef,undef,undef,undef,undef,undef,undef,undef,undef,undef,undef,undef,undef,undef,undef,undef,undef,undef,undef,undef,undef,undef,undef,undef,undef,undef,undef,undef,undef,undef,undef],[]⟩ [.code (body_add Tryz.link)]:=by
 rw [enter_at _ Tryz.wgLib.f_add (c:=body_add Tryz.link) (by simp only [body_add,addFn,qB])];simp only [body_add]
 walk_nrmf addFn
noncomputable def Q9J:Code:=match Q4a with|.seq _ (.seq _ (.seq (.block _ (.seq _ c)) _))=>c|_=>.skip
noncomputable def opsA:Array Oper:=match Q9J with|.seq (.region _ ops _) _=>ops|_=>#[]
noncomputable def Q9K:Code:=match Q9J with|.seq _ c=>c|_=>.skip
noncomputable def opsG:Array Oper:=match Q9K with|.region _ ops _=>ops|_=>#[]
noncomputable def Q9L:Code:=match Q4a with|.seq _ (.seq _ (.seq _ c))=>c|_=>.skip
noncomputable def kA:List Item:=[.code Q9K,.inBlock 1,.code Q9L,.inLoop Q4a,.inBlock 0,.code Q4b]
section
variable [PS] {cs:List Frame} {Wg bT C:Nat} {n:Nat} {tr:Value} {K:Nat→Nat→Value→World→Prop}
set_option maxRecDepth 100000 in
theorem loopE (s : World) (hs : Frzn s) (hn : n < 2147483648) {fT : Nat} {caps : Array Value} (hfT : ∃ fn, Tryz.prog.funcs[fT]? = some fn ∧ (fn.name == "runtime.NumGoroutine") = false ∧ fn.body.isSome = true) (hbT : 0 < n → s.cell? ⟨bT, 0, none⟩ = some (.func (.func fT) #[] caps))
  (hwork:∀ k,k<n→∀ β v bX,s.heap.size≤β→β≤v.heap.size→Ext1 s v→To Tryz.prog false (Q75 Tryz.prog 123 Wg C n K β k) (G (Frame.enter Tryz.prog fT (#[.int .i64 k]++caps) .normal) [frC Wg bT bX (.func (.func fT) #[] caps) (.int .i64 k),botG]) v) :
  ∀ r,r≤n→∀ (T:Array Value) (v:World),Ext1 s v→T.size=14→T[3]? = some (.pointer (some ⟨bT,0,none⟩))→T[4]? = some (.pointer (some ⟨Wg,0,none⟩))→T[6]? = some (.int .i64 n)→T[7]? = some (.int .i64 (n - r:Nat)) →
   To Tryz.prog true (Scr Tryz.prog 123 Wg C n K (Q6D cs Wg) r) (gL cs T) v:=by
 obtain ⟨fn,hfT⟩:=hfT;intro r
 induction r with
 | zero =>
  intro _ T v hv hT t3 t4 t6 t7;obtain ⟨v0,v1,v2,v3,v4,v5,v6,v7,v8,v9,v10,v11,v12,v13,rfl⟩:=array14 T hT;simp only [List.getElem?_toArray,List.getElem?_cons_succ,List.getElem?_cons_zero,qA,Nat.sub_zero] at t3 t4 t6 t7;subst t3 t4 t6 t7;have hnl:¬ ((n:Int)<(n:Int)):=by omega
  simp only [gL,Q4a,Q4b,Q3f,Tryz.f60,qB];refine To.ctl rfl (fun _=>stepG_seq) ?_;refine To.ctl rfl (fun _=>stepG_region) ?_;simp only [qW,qJ,zD,Nat.reduceAdd,qO,zG,List.range.loop];refine To.value (.bool false) rfl rfl (by decide) (fun w=>by simp [execOp,go_sem,Act.eval,hnl]) (fun w=>by simp [execOp,go_sem,Act.eval]) ?_
  walk_nrm
  refine To.ctl rfl (fun _=>stepG_region_end) ?_;refine To.ctl rfl (fun _=>stepG_seq) ?_;refine To.ctl rfl (fun _=>stepG_cond (t:=false) rfl) ?_;simp only [Bool.false_eq_true,if_false,↓reduceIte];refine To.ctl rfl (fun _=>stepG_exit rfl) ?_;refine To.ctl rfl (fun _=>stepG_region) ?_;simp only [qW,qJ,zD,Nat.reduceAdd,qO,zG,List.range.loop];have hcf:=fun w=>Q1M (P:=Tryz.prog) (args:=#[.pointer (some ⟨Wg,0,none⟩)]) Tryz.wgLib.f_wait (nm_wait Tryz.link) (by simp [waitFn]) w;refine To.enter (f:=Tryz.link.wait) (args:=#[.pointer (some ⟨Wg,0,none⟩)]) rfl rfl (by decide) (fun w=>?_) (fun w=>?_) ?_
  ·simpa [execOp,go_sem,Act.eval] using (hcf w).1
  ·simpa [execOp,go_sem,Act.eval] using (hcf w).2
  refine To.stop fun v₁ r₁=>⟨rfl,fun w U hl=>⟨6,?_⟩⟩;rw [enterW];have h:=waitStart (L:=Tryz.link) (Anch:=Q6D cs Wg) (b₀:=base 60) (a₀:=⟨#[v0,v1,v2,.pointer (some ⟨bT,0,none⟩),.pointer (some ⟨Wg,0,none⟩),v5,.int .i64 n,.int .i64 n,.bool false,v9,v10,v11,v12,v13],[]⟩) (ops₀:=opsW) (i₀:=0) (rest₀:=[]) (k₀:=[]) (cs:=cs) (fun g w h=>⟨_,h⟩) Tryz.wgLib w hl;simp only [opsW,Q4b,Q3f,Tryz.f60,qB] at h;exact h
 | succ r ih =>
  intro hr T v hv hT t3 t4 t6 t7;obtain ⟨v0,v1,v2,v3,v4,v5,v6,v7,v8,v9,v10,v11,v12,v13,rfl⟩:=array14 T hT;simp only [List.getElem?_toArray,List.getElem?_cons_succ,List.getElem?_cons_zero,qA] at t3 t4 t6 t7;subst t3 t4 t6 t7;obtain ⟨i,hi⟩:∃ i,i=n - (r+1):=⟨_,rfl⟩;rw [← hi];have hnl:((i:Int)<(n:Int)):=by omega
  simp only [gL,Q4a,Q4b,Q3f,Tryz.f60,qB];refine To.ctl rfl (fun _=>stepG_seq) ?_;refine To.ctl rfl (fun _=>stepG_region) ?_;simp only [qW,qJ,zD,Nat.reduceAdd,qO,zG,List.range.loop];refine To.value (.bool true) rfl rfl (by decide) (fun w=>by simp [execOp,go_sem,Act.eval,hnl]) (fun w=>by simp [execOp,go_sem,Act.eval]) ?_
  walk_nrm
  refine To.ctl rfl (fun _=>stepG_region_end) ?_;refine To.ctl rfl (fun _=>stepG_seq) ?_;refine To.ctl rfl (fun _=>stepG_cond (t:=true) rfl) ?_;simp only [if_true,↓reduceIte];refine To.ctl rfl (fun _=>stepG_skip) ?_;refine To.ctl rfl (fun _=>stepG_seq) ?_;refine To.ctl rfl (fun _=>stepG_block) ?_;refine To.ctl rfl (fun _=>stepG_seq) ?_;refine To.ctl rfl (fun _=>stepG_region) ?_;simp only [qW,qJ,zD,Nat.reduceAdd,qO,zG,List.range.loop];refine To.value (.int .i64 i) rfl rfl (by decide) (fun w=>by simp [execOp,go_sem,Act.eval]) (fun w=>by simp [execOp,go_sem,Act.eval]) ?_
  walk_nrm
  refine To.oper rfl rfl (by decide) (fun v₁ r₁=>⟨(Q6z _).bind fun _=>.pure _,.pointer (some ⟨v₁.heap.size,0,none⟩),{ v₁ with heap:=v₁.heap.push (.cells #[.int .i64 0] 3) },by simp [execOp,go_sem,Act.eval],?_⟩);have hv1:=hv.rly r₁;have hv2:Ext1 s { v₁ with heap:=v₁.heap.push (.cells #[.int .i64 0] 3) }:=⟨by simp;exact Nat.le_succ_of_le hv1.size,fun b hb=>by
   have:=hv1.size;simp only [Array.getElem?_push];rw [if_neg (by omega)];exact hv1.old b hb,hv1.rest⟩
  have hnew:({ v₁ with heap:=v₁.heap.push (.cells #[.int .i64 0] 3) }:World).heap[v₁.heap.size]? = some (.cells #[.int .i64 0] 3):=by simp
  have hbx:s.heap.size≤v₁.heap.size:=hv1.size;generalize hbX:v₁.heap.size=bX at hnew hbx ⊢;generalize ({ v₁ with heap:=v₁.heap.push (.cells #[.int .i64 0] 3) }:World)=u at hv2 hnew ⊢;clear hv hv1 r₁ hbX v₁
  walk_nrm
  refine To.operS rfl rfl (by decide) (fun v₁ r₁=>?_);have hn1:v₁.heap[bX]? = some (.cells #[.int .i64 0] 3):=(r₁.old _ (Array.getElem?_eq_some_iff.1 hnew).1).trans hnew;refine ⟨(Q2G _ _ _).bind fun _=>.pure _,v₁.setCell ⟨bX,0,none⟩ (.int .i64 i),?_,?_⟩
  ·have h1:v₁.cell? ⟨bX,0,none⟩=some (.int .i64 0):=(by simp [World.cell?,hn1]);have h2:v₁.frozen? ⟨bX,0,none⟩=false:=(by simp [World.frozen?,hn1]);simp [execOp,go_sem,Act.eval,stored,h1,h2]
  have hv1:=hv2.rly r₁;have hv3:Ext1 s (v₁.setCell ⟨bX,0,none⟩ (.int .i64 i)):=⟨by simp [World.setCell];exact hv1.size,fun b hb=>by
   simp only [World.setCell,Q2f];rw [if_neg (by show ¬ bX=b;omega)];exact hv1.old b hb,hv1.rest⟩
  have hcx:(v₁.setCell ⟨bX,0,none⟩ (.int .i64 i)).cell? ⟨bX,0,none⟩=some (.int .i64 i):=by simp [World.cell?,World.setCell,Q2f,hn1]
  generalize (v₁.setCell ⟨bX,0,none⟩ (.int .i64 i))=y at hv3 hcx ⊢;clear hv1 hn1 r₁ v₁ hnew hv2 u
  walk_nrm
  refine To.ctl rfl (fun _=>stepG_region_end) ?_;refine To.ctl rfl (fun _=>stepG_seq) ?_;refine To.ctl rfl (fun _=>stepG_region) ?_;simp only [qW,qJ,zD,Nat.reduceAdd,qO,zG,List.range.loop];have hcf:=fun w=>Q1M (P:=Tryz.prog) (args:=#[.pointer (some ⟨Wg,0,none⟩),.int .i64 1]) Tryz.wgLib.f_add (nm_add Tryz.link) (by simp [addFn]) w;refine To.enter (f:=Tryz.link.add) (args:=#[.pointer (some ⟨Wg,0,none⟩),.int .i64 1]) rfl rfl (by decide) (fun w=>?_) (fun w=>?_) ?_
  ·simpa [execOp,go_sem,Act.eval] using (hcf w).1
  ·simpa [execOp,go_sem,Act.eval] using (hcf w).2
  clear hcf;refine To.stop fun v₁ r₁=>?_;have hv4:=hv3.rly r₁;have hcx1:=r₁.cell hcx;clear hv3 hcx r₁ y;rw [enterA];refine ⟨rfl,?_⟩;have way:To Tryz.prog true (AtGo Tryz.prog 123 Wg C n K r (Scr Tryz.prog 123 Wg C n K (Q6D cs Wg) r)) (G ((base 60).at ((⟨#[v0,v1,v2,.pointer (some ⟨bT,0,none⟩),.pointer (some ⟨Wg,0,none⟩),.pointer (some ⟨bX,0,none⟩),.int .i64 n,.int .i64 i,.bool true,.int .i64 i,v10,v11,v12,v13],[]⟩:Act).put ((opsA[0]?).bind (·.dst)) (.tuple #[])) (.inRegion opsA [] :: kA)) cs) v₁:=by
   simp only [opsA,kA,Q9J,Q9K,Q9L,Q4a,Q4b,Q3f,Tryz.f60,qB]
   walk_nrm
   refine To.ctl rfl (fun _=>stepG_region_end) ?_;refine To.ctl rfl (fun _=>stepG_region) ?_;simp only [qW,qJ,zD,Nat.reduceAdd,qO,zG,List.range.loop];refine To.value (.func (.func 95) #[] #[.pointer (some ⟨Wg,0,none⟩),.pointer (some ⟨bT,0,none⟩),.pointer (some ⟨bX,0,none⟩)]) rfl rfl (by decide) (fun w=>by simp [execOp,go_sem,Act.eval]<;>rfl) (fun w=>by simp [execOp,go_sem,Act.eval]<;>rfl) ?_
   walk_nrm
   refine To.stop fun v₂ r₂=>?_;have hv5:=hv4.rly r₂;have hcx2:=r₂.cell hcx1;refine ⟨rfl,G ((base 60).at ⟨#[v0,v1,v2,.pointer (some ⟨bT,0,none⟩),.pointer (some ⟨Wg,0,none⟩),.pointer (some ⟨bX,0,none⟩),.int .i64 n,.int .i64 i,.bool true,.int .i64 i,.tuple #[],.func (.func 95) #[] #[.pointer (some ⟨Wg,0,none⟩),.pointer (some ⟨bT,0,none⟩),.pointer (some ⟨bX,0,none⟩)],v12,v13],[]⟩ (.inRegion opsG [] :: [.inBlock 1,.code Q9L,.inLoop Q4a,.inBlock 0,.code Q4b])) cs,born Tryz.prog (Q9H Wg bT bX),fun w U=>?_,rfl,?_,?_⟩
   ·rw [stepG_spawn (b:=base 60) (d:=Q9H Wg bT bX) (w':=w) (f:=.func 95) (c:=#[.pointer (some ⟨Wg,0,none⟩),.pointer (some ⟨bT,0,none⟩),.pointer (some ⟨bX,0,none⟩)]) rfl rfl (by decide) (by simp [execOp,go_sem,Act.eval,Q9H,Deferred.ofValue]) rfl];simp only [opsG,Q9K,Q9J,Q9L,Q4a,Q4b,Q3f,Tryz.f60,qB];simp [listed,execOp,go_sem,Act.eval,seen,Deferred.ofValue];rfl
   ·rw [← hi];have hvf:=hv5.frz hs;refine Q80 (caps:=caps) (fT:=fT) (x:=.int .i64 i) _ ?_ ?_ hfT.1 hfT.2.1 hfT.2.2 fun v₃ r₃=>?_
    ·have hbT':=hbT (by omega);exact (Q2o (hvf.old bT (Q2S hbT'))).trans hbT'
    ·exact frz_cell hcx2
    exact hwork i (by omega) _ v₃ bX hv5.size (by have:=r₃.size;rw [frz_size] at this;exact this) (hvf.rly r₃)
   have hvf:=hv5.frz hs;simp only [opsG,Q9K,Q9J,Q9L,Q4a,Q4b,Q3f,Tryz.f60,qB];refine To.ctl rfl (fun _=>stepG_region_end) ?_;refine To.ctl rfl (fun _=>stepG_inBlock) ?_;refine To.ctl rfl (fun _=>stepG_region) ?_;simp only [qW,qJ,zD,Nat.reduceAdd,qO,zG,List.range.loop];have e1:IntKind.i64.wrap ((i:Int)+1)=((n - r:Nat):Int):=(by rw [IntKind.wrap_i64];omega);refine To.value (.int .i64 (n - r:Nat)) rfl rfl (by decide) (fun w=>by simp [execOp,go_sem,Act.eval,e1]) (fun w=>by simp [execOp,go_sem,Act.eval]) ?_
   walk_nrm
   refine To.value (.int .i64 (n - r:Nat)) rfl rfl (by decide) (fun w=>by simp [execOp,go_sem,Act.eval]) (fun w=>by simp [execOp,go_sem,Act.eval]) ?_
   walk_nrm
   refine To.ctl rfl (fun _=>stepG_region_end) ?_;refine To.ctl rfl (fun _=>stepG_inLoop) ?_;have:=ih (by omega) #[v0,v1,v2,.pointer (some ⟨bT,0,none⟩),.pointer (some ⟨Wg,0,none⟩),.pointer (some ⟨bX,0,none⟩),.int .i64 n,.int .i64 (n - r:Nat),.bool true,.int .i64 i,.tuple #[],.func (.func 95) #[] #[.pointer (some ⟨Wg,0,none⟩),.pointer (some ⟨bT,0,none⟩),.pointer (some ⟨bX,0,none⟩)],.int .i64 (n - r:Nat),v13] _ hvf (by rfl) (by rfl) (by rfl) (by rfl) (by rfl);simp only [gL,Q4a,Q4b,Q3f,Tryz.f60,qB] at this;exact this
  obtain ⟨T1,way⟩:=way;refine ⟨_,T1,fun w U hl=>⟨20,?_⟩,way⟩;have h:=addPos (L:=Tryz.link) (Next:=Is (G ((base 60).at ((⟨#[v0,v1,v2,.pointer (some ⟨bT,0,none⟩),.pointer (some ⟨Wg,0,none⟩),.pointer (some ⟨bX,0,none⟩),.int .i64 n,.int .i64 i,.bool true,.int .i64 i,v10,v11,v12,v13],[]⟩:Act).put ((opsA[0]?).bind (·.dst)) (.tuple #[])) (.inRegion opsA [] :: kA)) cs)) (mT:=0) (b₀:=base 60) (a₀:=⟨#[v0,v1,v2,.pointer (some ⟨bT,0,none⟩),.pointer (some ⟨Wg,0,none⟩),.pointer (some ⟨bX,0,none⟩),.int .i64 n,.int .i64 i,.bool true,.int .i64 i,v10,v11,v12,v13],[]⟩) (ops₀:=opsA) (i₀:=0) (rest₀:=[]) (k₀:=kA) (cs:=cs) Tryz.wgLib (fun w _=>fun w₁ _=>⟨rfl,rfl⟩) w hl;simp only [opsA,kA,Q9J,Q9K,Q9L,Q4a,Q4b,Q3f,Tryz.f60,qB] at h ⊢;exact h
end
end
end Go.Proofs
namespace Go.Proofs
open Go Go.Conc Go.ConcN Go.RowKit Go.Conc.Lib Go.ConcR.Gen Go.ConcN.Gen Go.Vc Go.Vc.Wg Go.Vc.Ph
section
attribute [local simp] Qf QF Qs
open Go.ConcR (KK wgBlock WgAt stA smA rd wr mk Payload DC0)
noncomputable def codeS:Code:=match Q3f with|.seq _ (.seq c _)=>c|_=>.skip
noncomputable def opsS:Array Oper:=match codeS with|.region _ ops _=>ops|_=>#[]
noncomputable def codeR:Code:=match Q3f with|.seq _ (.seq _ c)=>c|_=>.skip
section
variable [PS] {cs:List Frame} {C:Nat→Nat} {n:Nat} {K:Nat→Nat→Value→World→Prop} {Post:Value→World→Prop} {W0:World} {S0:Nat→Prop} {fT:Nat} {caps:Array Value}
set_option maxRecDepth 100000 in
theorem eoCall (hn : n < 2147483648) (hK : ∀ β k val v v', Rly v v' → K β k val v → K β k val v') (v : World) (hC : ∀ v₁ bT, Ext0 v v₁ → v.heap.size ≤ bT → v₁.heap[bT]? = some (.cells #[.func (.func fT) #[] caps] 87) → PayAt (C bT) PS.z v₁ ∧ (0 < n → C bT ≠ bT)) (hfT : ∃ fn, Tryz.prog.funcs[fT]? = some fn ∧ (fn.name == "runtime.NumGoroutine") = false ∧ fn.body.isSome = true)
  (hwork:∀ v₁ bT,Ext0 v v₁→∀ k,k<n→∀ β u bX,v₁.heap.size+1≤β→β≤u.heap.size→Ext1 (Go.Vc.Ph.start v₁ (C bT)) u→To Tryz.prog false (Q75 Tryz.prog 123 v₁.heap.size (C bT) n K β k) (G (Frame.enter Tryz.prog fT (#[.int .i64 k]++caps) .normal) [frC v₁.heap.size bT bX (.func (.func fT) #[] caps) (.int .i64 k),botG]) u)
  (hk:∀ v₁ bT v₂ fr,Ext0 v v₁→v.heap.size≤bT→bT<v₁.heap.size→Brought K (C bT) n v₁ v₂→fr.fn=60→fr.leaving Tryz.prog v₂ (.returned (.tuple #[]))→TM Tryz.prog W0 S0 Post (G fr cs) v₂) :
  TM Tryz.prog W0 S0 Post (G (Frame.enter Tryz.prog 60 #[.int .i64 n,.func (.func fT) #[] caps] .normal) cs) v:=by
 letI:Kd Tryz.prog:=KdM Tryz.prog W0 S0 Post
 have hT:Kd.adm Tryz.prog (TM Tryz.prog W0 S0 Post):=rfl;rw [enter_at _ Tryz.func60 (c:=Q3f) (by simp only [Q3f,Tryz.f60,qB])];simp only [Q3f]
 walk_nrmf Tryz.f60
 refine Kd.ctl hT rfl (fun _=>stepG_seq) ?_;refine Kd.ctl hT rfl (fun _=>stepG_region) ?_;simp only [qW,qJ,zD,Nat.reduceAdd,qO,zG,List.range.loop];refine koper hT rfl rfl (by decide) (fun v₁ r₁=>⟨(Q6X _ _).bind fun _=>.pure _,.pointer (some ⟨v₁.heap.size,0,none⟩),{ v₁ with heap:=v₁.heap.push (.cells #[.func (.func fT) #[] caps] 87) },by simp [execOp,go_sem,Act.eval],?_⟩)
 walk_nrm
 refine Kd.ctl hT rfl (fun _=>stepG_region_end) ?_;refine Kd.ctl hT rfl (fun _=>stepG_seq) ?_;refine Kd.ctl hT rfl (fun _=>stepG_region) ?_;simp only [qW,qJ,zD,Nat.reduceAdd,qO,zG,List.range.loop];refine tm_phase (ty:=123) (C:=C v₁.heap.size) (n:=n) (K:=K) hn hK rfl fun v₂ r₂=>?_;have x1:Ext0 v { v₁ with heap:=v₁.heap.push (.cells #[.func (.func fT) #[] caps] 87) }:=⟨by simp;exact Nat.le_succ_of_le r₁.size,fun b hb=>by
  have:=r₁.size;simp only [Array.getElem?_push];rw [if_neg (by omega)];exact r₁.old b hb,r₁.tape,r₁.os,r₁.output,r₁.drawn⟩
 have x2:=x1.rly r₂;have hbT:v₂.heap[v₁.heap.size]? = some (.cells #[.func (.func fT) #[] caps] 87):=by rw [r₂.old _ (by simp)];simp
 have hbv:v.heap.size≤v₁.heap.size:=r₁.size;generalize v₁.heap.size=bT at hbT hbv ⊢;clear x1 r₂ r₁ v₁;obtain ⟨hC2,hCne⟩:=hC v₂ bT x2 hbv hbT;have hClt:C bT<v₂.heap.size:=by obtain ⟨c0,h1,_⟩:=hC2;exact (Array.getElem?_eq_some_iff.1 h1).1
 have hbl:bT<v₂.heap.size:=(Array.getElem?_eq_some_iff.1 hbT).1;have hw:=hwork v₂ bT x2;have way:=loopE (cs:=cs) (Wg:=v₂.heap.size) (bT:=bT) (C:=C bT) (n:=n) (K:=K) (Go.Vc.Ph.start v₂ (C bT)) (Q9P v₂ (C bT)) hn hfT (caps:=caps) (by
   intro hn0;have hne:=hCne hn0;have h1:(Go.Vc.Ph.start v₂ (C bT)).heap[bT]? = some (frzO (.cells #[.func (.func fT) #[] caps] 87)):=by
    rw [Q1u (by omega) (by omega),if_neg (by omega),if_neg (by omega),Q2p,hbT];rfl
   simp [World.cell?,h1,frzO]) (fun k hk β u bX h1 h2 h3=>hw k hk β u bX (by rw [Q2X] at h1;exact h1) h2 h3) n (qC _) #[.int .i64 n,.func (.func fT) #[] caps,undef,.pointer (some ⟨bT,0,none⟩),.pointer (some ⟨v₂.heap.size,0,none⟩),undef,.int .i64 n,.int .i64 0,undef,undef,undef,undef,undef,undef] (Go.Vc.Ph.start v₂ (C bT)) ⟨qC _,fun _ _=>rfl,rfl,rfl,rfl,qC _⟩ rfl rfl rfl rfl (by simp)
 have way2:To Tryz.prog true (Scr Tryz.prog 123 v₂.heap.size (C bT) n K (Q6D cs v₂.heap.size) n) (G ((base 60).at ⟨#[.int .i64 n,.func (.func fT) #[] caps,undef,.pointer (some ⟨bT,0,none⟩),.pointer (some ⟨v₂.heap.size,0,none⟩),undef,undef,undef,undef,undef,undef,undef,undef,undef],[]⟩ [.inRegion opsS [],.code codeR]) cs) (Go.Vc.Ph.start v₂ (C bT)):=by
  simp only [gL,opsS,codeR,Q4a,Q4b,Q3f,Tryz.f60,qB] at way ⊢;refine To.ctl rfl (fun _=>stepG_region_end) ?_;refine To.ctl rfl (fun _=>stepG_seq) ?_;refine To.ctl rfl (fun _=>stepG_seq) ?_;refine To.ctl rfl (fun _=>stepG_region) ?_;simp only [qW,qJ,zD,Nat.reduceAdd,qO,zG,List.range.loop];refine To.value (.int .i64 n) rfl rfl (by decide) (fun w=>by simp [execOp,go_sem,Act.eval]) (fun w=>by simp [execOp,go_sem,Act.eval]) ?_
  walk_nrm
  refine To.value (.int .i64 0) rfl rfl (by decide) (fun w=>by simp [execOp,go_sem,Act.eval]) (fun w=>by simp [execOp,go_sem,Act.eval]) ?_
  walk_nrm
  refine To.ctl rfl (fun _=>stepG_region_end) ?_;refine To.ctl rfl (fun _=>stepG_block) ?_;refine To.ctl rfl (fun _=>stepG_loop) ?_;exact way
 obtain ⟨Tr,way2⟩:=way2;refine ⟨_,Q6D cs v₂.heap.size,EndE cs,Tr,fun w U=>?_,hC2,Q76,Q9D,way2,fun v₃ hb g hg=>?_⟩
 ·have ez:∀ w,(zeroValue 123).run Tryz.prog w = .ok (.agg #[.int .u64 0,.int .u32 0]) w:=Tryz.zeroValue123;rw [stepG_value (b:=base 60) (v:=.pointer (some ⟨v₂.heap.size,0,none⟩)) (w':={ w with heap:=w.heap.push (wgBlock 123 0 0) }) rfl rfl (by decide) (by simp [execOp,go_sem,Act.eval,ez,wgBlock,U.size])];simp only [opsS,codeR,Q3f,Tryz.f60,qB];simp [listed,execOp,go_sem,Act.eval,seen];exact ⟨rfl,rfl⟩
 obtain ⟨T,rfl⟩:=hg;simp only [gW,opsW,Q4b,Q3f,Tryz.f60,qB];refine Kd.ctl hT rfl (fun _=>stepG_region_end) ?_;refine Kd.ctl hT rfl (fun _=>stepG_end) ?_;exact hk v₂ bT v₃ _ x2 hbv hbl hb rfl ⟨rfl,rfl,rfl,Tryz.f60,Tryz.func60,by simp [results,Tryz.f60]⟩
end
end
end Go.Proofs
namespace Go.Proofs
open Go Go.Conc Go.ConcN Go.RowKit Go.Conc.Lib Go.ConcR.Gen Go.ConcN.Gen Go.Vc Go.Vc.Wg Go.Vc.Ph
section
attribute [local simp] Qf QF Qs
open Go.ConcR (KK wgBlock WgAt stA smA rd wr mk Payload DC0)
noncomputable def Q2L:Code:=Tryz.f114.body.getD .skip
noncomputable def opsT:Array Oper:=match Q2L with|.region _ ops _=>ops|_=>#[]
theorem rdy (b0 b1 b2 b3 b4 b5:Bool):Region.ready .any opsT #[b0,b1,b2,b3,b4,b5,false] ≠ [] ∧
  ∀ i∈Region.ready .any opsT #[b0,b1,b2,b3,b4,b5,false],(i=0∧b0=false)∨(i=1∧b1=false)∨(i=2∧b2=false)∨(i=3∧b3=false)∨(i=4∧b4=false∧b2=true∧b3=true)∨(i=5∧b5=false∧b0=true∧b1=true)∨(i=6∧b4=true∧b5=true):=by
 simp only [opsT,Q2L,Tryz.f114,qB];cases b0<;>cases b1<;>cases b2<;>cases b3<;>cases b4<;>cases b5<;>decide +kernel
def cnt6 (b0 b1 b2 b3 b4 b5:Bool):Nat:=(if b0 then 0 else 1)+(if b1 then 0 else 1)+(if b2 then 0 else 1)+(if b3 then 0 else 1)+(if b4 then 0 else 1)+(if b5 then 0 else 1)
def IT (s:World) (K:Nat→Nat→Value→World→Prop) (β k bA xA bEl C n cap:Nat) (fv:Value) (d:Nat) (l:Array Bool) (a:Act) (w:World):Prop :=
 ∃ b0 b1 b2 b3 b4 b5 x4 x5 x6 x7 x8 x9,l = #[b0,b1,b2,b3,b4,b5,false]∧d=cnt6 b0 b1 b2 b3 b4 b5∧a=⟨#[.int .i64 k,.pointer (some ⟨bA,xA,none⟩),.pointer (some ⟨bEl,0,none⟩),undef,x4,x5,x6,x7,x8,x9],[]⟩∧Ext1 s w∧β≤w.heap.size ∧
  (b0=true→x4 = .slice (some ⟨C,0,none⟩) n cap)∧(b1=true→x5 = .int .i64 k)∧(b2=true→x6=fv)∧(b3=true→x7 = .int .i64 k)∧(b4=true→(b2=true∧b3=true)∧K β k x8 w)∧(b5=true→(b0=true∧b1=true)∧x9 = .pointer (some ⟨C,k,none⟩))
section
variable [PS] {s:World} {K:Nat→Nat→Value→World→Prop} {β k bA xA bEl C n cap Wg bT bX fAt:Nat} {capsAt:Array Value} {f x:Value}
set_option maxRecDepth 100000 in
theorem Qav (hkn:k<n) (hkz:k<PS.z) (hKr:∀ {val v v'},Rly v v'→K β k val v→K β k val v') (hKs:∀ {val v},K β k val v→∃ a m c,val = .slice a m c) (hA:s.cell? ⟨bA,xA,none⟩=some (.func (.func fAt) #[] capsAt)) (hE:s.cell? ⟨bEl,0,none⟩=some (.slice (some ⟨C,0,none⟩) n cap)) (u:World) (hu:Ext1 s u) (hβ:β≤u.heap.size)
  (hat:∀ u₁,Ext1 s u₁→β≤u₁.heap.size→@Callz Tryz.prog (KdG Tryz.prog false) fAt (#[.int .i64 k]++capsAt) u₁ fun e u₂=>∃ v,e = .returned v∧Ext1 s u₂∧u₁.heap.size≤u₂.heap.size∧K β k v u₂)
  (hfA : ∃ fn, Tryz.prog.funcs[fAt]? = some fn ∧ (fn.name == "runtime.NumGoroutine") = false ∧ fn.body.isSome = true) :
  To Tryz.prog false (Q75 Tryz.prog 123 Wg C n K β k) (G (Frame.enter Tryz.prog 114 (#[.int .i64 k]++#[.pointer (some ⟨bA,xA,none⟩),.pointer (some ⟨bEl,0,none⟩)]) .normal) [frC Wg bT bX f x,botG]) u:=by
 letI:Kd Tryz.prog:=KdG Tryz.prog false
 have hT:Kd.adm Tryz.prog (To Tryz.prog false (Q75 Tryz.prog 123 Wg C n K β k)):=⟨_,rfl⟩;rw [enter_at _ Tryz.func114 (c:=Q2L) (by simp only [Q2L,Tryz.f114,qB])];simp only [Q2L]
 walk_nrmf Tryz.f114
 refine Q8m hT (by rfl) fun w₁ r₁ t=>?_;have hu1:Ext1 s w₁.drew:=(hu.rly r₁).rly (.at (Nat.le_succ _));have hβ1:β≤w₁.drew.heap.size:=qL hβ r₁.size;have eR:∀ (l:Array Bool),Region.ready .any opsT l=Region.ready .any opsT l:=fun _=>rfl;refine any_last hT (ops:=opsT) (last:=6) (by decide) (IT s K β k bA xA bEl C n cap (.func (.func fAt) #[] capsAt)) ?_ ?_ ?_ ?_ 6 7 t _ _ _ (by decide) ⟨false,false,false,false,false,false,_,_,_,_,_,_,rfl,rfl,rfl,hu1,hβ1,nofun,nofun,nofun,nofun,nofun,nofun⟩
 ·rintro d l a w ⟨b0,b1,b2,b3,b4,b5,_,_,_,_,_,_,rfl,_⟩
  exact (rdy b0 b1 b2 b3 b4 b5).1
 ·rintro l a w i ⟨b0,b1,b2,b3,b4,b5,_,_,_,_,_,_,rfl,hd,_⟩ hi
  rcases (rdy b0 b1 b2 b3 b4 b5).2 i hi with ⟨rfl,rfl⟩|⟨rfl,rfl⟩|⟨rfl,rfl⟩|⟨rfl,rfl⟩|⟨rfl,rfl,_⟩|⟨rfl,rfl,_⟩|⟨rfl,_⟩<;>first|rfl|(simp [cnt6] at hd;try omega)
 ·rintro d l a w i ⟨b0,b1,b2,b3,b4,b5,x4,x5,x6,x7,x8,x9,rfl,hd,rfl,he,hb,h0,h1,h2,h3,h4,h5⟩ hi hne w₂ r₂
  have he2:=he.rly r₂;have hb2:β≤w₂.heap.size:=qL hb r₂.size;rcases (rdy b0 b1 b2 b3 b4 b5).2 i hi with ⟨rfl,rfl⟩|⟨rfl,rfl⟩|⟨rfl,rfl⟩|⟨rfl,rfl⟩|⟨rfl,rfl,rfl,rfl⟩|⟨rfl,rfl,rfl,rfl⟩|⟨rfl,_⟩
  ·have c1:=(Q2o (he2.old bEl (Q2S hE))).trans hE;refine Q4u (x:=.slice (some ⟨C,0,none⟩) n cap) (w':=w₂) rfl rfl (((Q2v _ _).bind fun _=>.pure _).at _) (by simp [opsT,Q2L,Tryz.f114,execOp,go_sem,Act.eval,c1]) ?_;exact ⟨true,b1,b2,b3,b4,b5,_,_,_,_,_,_,rfl,by simp [cnt6] at hd ⊢;omega,by simp [opsT,Q2L,Tryz.f114,Act.put],he2,hb2,fun _=>rfl,h1,h2,h3,fun e=>⟨(h4 e).1,hKr r₂ (h4 e).2⟩,fun e=>⟨⟨rfl,(h5 e).1.2⟩,(h5 e).2⟩⟩
  ·refine Q4u (x:=.int .i64 k) (w':=w₂) rfl rfl ((Tame.pure _).at _) (by simp [opsT,Q2L,Tryz.f114,execOp,go_sem,Act.eval]) ?_;exact ⟨b0,true,b2,b3,b4,b5,_,_,_,_,_,_,rfl,by simp [cnt6] at hd ⊢;omega,by simp [opsT,Q2L,Tryz.f114,Act.put],he2,hb2,h0,fun _=>rfl,h2,h3,fun e=>⟨(h4 e).1,hKr r₂ (h4 e).2⟩,fun e=>⟨⟨(h5 e).1.1,rfl⟩,(h5 e).2⟩⟩
  ·have c1:=(Q2o (he2.old bA (Q2S hA))).trans hA;refine Q4u (x:=.func (.func fAt) #[] capsAt) (w':=w₂) rfl rfl (((Q2v _ _).bind fun _=>.pure _).at _) (by simp [opsT,Q2L,Tryz.f114,execOp,go_sem,Act.eval,c1]) ?_;exact ⟨b0,b1,true,b3,b4,b5,_,_,_,_,_,_,rfl,by simp [cnt6] at hd ⊢;omega,by simp [opsT,Q2L,Tryz.f114,Act.put],he2,hb2,h0,h1,fun _=>rfl,h3,fun e=>⟨⟨rfl,(h4 e).1.2⟩,hKr r₂ (h4 e).2⟩,h5⟩
  ·refine Q4u (x:=.int .i64 k) (w':=w₂) rfl rfl ((Tame.pure _).at _) (by simp [opsT,Q2L,Tryz.f114,execOp,go_sem,Act.eval]) ?_;exact ⟨b0,b1,b2,true,b4,b5,_,_,_,_,_,_,rfl,by simp [cnt6] at hd ⊢;omega,by simp [opsT,Q2L,Tryz.f114,Act.put],he2,hb2,h0,h1,h2,fun _=>rfl,fun e=>⟨⟨(h4 e).1.1,rfl⟩,hKr r₂ (h4 e).2⟩,h5⟩
  ·obtain rfl:=h2 rfl;obtain rfl:=h3 rfl;obtain ⟨fn,f1,f2,f3⟩:=hfA;have hcf:=fun w=>Q1M (P:=Tryz.prog) (args:=#[.int .i64 k]++capsAt) f1 f2 f3 w;refine wpOp_call (f:=fAt) (args:=#[.int .i64 k]++capsAt) rfl rfl ?_ (by simpa [opsT,Q2L,Tryz.f114,execOp,go_sem,Act.eval] using (hcf w₂).1) ((hat w₂ he2 hb2).mono ?_)
   ·exact Q1A rfl rfl rfl ⟨fn,f1,f2,f3⟩
   rintro e u₂ ⟨v,he,hv1,hv2,hv3⟩
   refine ⟨v,he,?_⟩;exact ⟨b0,b1,true,true,true,b5,_,_,_,_,_,_,rfl,by simp [cnt6] at hd ⊢;omega,by simp [opsT,Q2L,Tryz.f114,Act.put],hv1,qL hb2 hv2,h0,h1,fun _=>rfl,fun _=>rfl,fun _=>⟨⟨rfl,rfl⟩,hv3⟩,h5⟩
  ·obtain rfl:=h0 rfl;obtain rfl:=h1 rfl;refine Q4u (x:=.pointer (some ⟨C,k,none⟩)) (w':=w₂) rfl rfl ?_ (by simp [opsT,Q2L,Tryz.f114,execOp,go_sem,Act.eval,hkn]) ?_
   ·exact ((Q51 _ _ _).bind fun _=>.pure _).at _
   exact ⟨true,true,b2,b3,b4,true,_,_,_,_,_,_,rfl,by simp [cnt6] at hd ⊢;omega,by simp [opsT,Q2L,Tryz.f114,Act.put],he2,hb2,fun _=>rfl,fun _=>rfl,h2,h3,fun e=>⟨(h4 e).1,hKr r₂ (h4 e).2⟩,fun _=>⟨⟨rfl,rfl⟩,rfl⟩⟩
  exact absurd rfl hne
 rintro d l a w ⟨b0,b1,b2,b3,b4,b5,x4,x5,x6,x7,x8,x9,rfl,hd,rfl,he,hb,h0,h1,h2,h3,h4,h5⟩ hi fuel t'
 have h45:b4=true∧b5=true:=by rcases (rdy b0 b1 b2 b3 b4 b5).2 6 hi with ⟨e,_⟩|⟨e,_⟩|⟨e,_⟩|⟨e,_⟩|⟨e,_⟩|⟨e,_⟩|⟨_,e⟩<;>first|exact e|(exact absurd e (by decide))
 obtain ⟨rfl,rfl⟩:=h45;obtain ⟨⟨rfl,rfl⟩,hK⟩:=h4 rfl;obtain ⟨⟨rfl,rfl⟩,rfl⟩:=h5 rfl;obtain ⟨xa,xm,xc,rfl⟩:=hKs hK;have hnil:Region.ready .any opsT ((#[true,true,true,true,true,true,false]:Array Bool).setIfInBounds 6 true)=[]:=by
  simp only [opsT,Q2L,Tryz.f114,qB];decide +kernel
 rw [Q6M hnil];refine To.stop fun v₁ r₁=>⟨rfl,⟨hkn,hkz⟩,.slice xa xm xc,G ((base 114).at ⟨#[.int .i64 k,.pointer (some ⟨bA,xA,none⟩),.pointer (some ⟨bEl,0,none⟩),undef,x4,x5,x6,x7,.slice xa xm xc,.pointer (some ⟨C,k,none⟩)],[]⟩ [.inRegion opsT []]) [frC Wg bT bX f x,botG],hKr r₁ hK,fun w' U hp=>?_,fun w' hl hh=>⟨43,?_⟩⟩
 ·obtain ⟨cs,hc1,hc2⟩:=hp;have hkc:k<cs.size:=by omega
  have h1:w'.cell? ⟨C,k,none⟩=some cs[k]:=by simp [World.cell?,hc1,hkc]
  have h2:w'.frozen? ⟨C,k,none⟩=false:=by simp [World.frozen?,hc1]
  rw [stepG_none (w':=w'.setCell ⟨C,k,none⟩ (.slice xa xm xc)) rfl rfl (by decide) (by simp [opsT,Q2L,Tryz.f114,execOp,go_sem,Act.eval,stored,h1,h2])];have hev:=events_store Tryz.prog w' #[] ⟨C,k,none⟩ (.slice xa xm xc) .plain rfl;simp [opsT,Q2L,Tryz.f114,Tryz.func114,Go.Conc.base,listed,execOp,go_sem,Act.eval,seen,stored,hev,storedEv,h1,h2]
 have hK':WgLive 123 Wg w'∧Has C k (.slice xa xm xc) w':=⟨hl,hh⟩
 u_c stepG_region_end kn_rely hK'
 u_c stepG_end kn_rely hK'
 u_in kn_rely hK'
 refine goes_leave0 rfl rfl Tryz.func114 rfl ⟨by u_nil,?_⟩;exact QaD _ hK'
end
end
end Go.Proofs
namespace Go.Vc.T
open Go Go.Vc Go.Vc.Wg Go.Vc.Ph Go.Proofs
section
attribute [local simp] Qf QF Qs Q1o QS
open Go.ConcR (Payload)
theorem KA_slice {A:Nat→AV} {β k:Nat} {val:Value} {v:World} {sz:Nat} {es:List (List AV)} (hA:A k = .lst true sz es) (h:KA A β k val v):∃ a m c,val = .slice a m c:=by
 obtain ⟨o,_,h⟩:=h;rw [hA] at h;cases h with
 | nil=>exact ⟨_,_,_,rfl⟩
 | own=>exact ⟨_,_,_,rfl⟩
theorem pair_eq {vals:Array Value} {a b:Value} (h:vals.size=2) (h0:vals.getD 0 undef=a) (h1:vals.getD 1 undef=b):vals = #[a,b]:=by
 obtain ⟨l⟩:=vals;rcases l with _|⟨x,_|⟨y,_|⟨z,l⟩⟩⟩<;>simp_all
theorem eoTuples {W0:World} {S0:Nat→Prop} {Post:Value→World→Prop} {H:List (Nat × Ent)} {nn n e Ln X:Nat} {c0:AV} {bs:List AV} {es0:List (List AV)} {A:Nat→AV}
  (hH:∀ p∈H,p.1<nn) (he:look e H=some (.mix 1 [[.own Ln 0 n]])) (hL:look Ln H=some (.row 1 es0)) (hlen:es0.length=n) (hn:n≤1073741824) (hal:∀ p∈H,Q67 p.2=false)
  (hc : PurTo (fun id => look id (delH Ln H)) c0 (.rptr [.fn X bs])) (hm : ∀ a ∈ bs, NoM a) (hX : ∃ fn, Tryz.prog.funcs[X]? = some fn ∧ (fn.name == "runtime.NumGoroutine") = false ∧ fn.body.isSome = true)
  (hcon:∀ k,k<n→∃ sz es,A k = .lst true sz es∧@Contract Tryz.prog (KdG Tryz.prog false) X (iV k :: bs) (A k)) :
  @ICon Tryz.prog (KdM Tryz.prog W0 S0 Post) 60 [iV n,.fn 114 [c0,.adr e 0 0]] (fun id=>look id H) nn { v:=.tup [],set:=[(Ln,.row 1 (Q59 n A))] }:=by
 letI:Kd Tryz.prog:=KdM Tryz.prog W0 S0 Post
 have helt:e<nn:=hH _ (Qk he);have hLlt:Ln<nn:=hH _ (Qk hL);have hne:e ≠ Ln:=fun q=>by rw [q,hL] at he;cases he
 refine ⟨⟨_,Tryz.func60,rfl,by simp [Tryz.f60]⟩,fun _=>fineI ⟨by simp,by simp,by simp,by simp,by simpa using hLlt⟩,fun C v g h' vals hag hnew hlim W HH hsz hargs=>?_⟩;intro cs T hT kk;obtain rfl:T=TM Tryz.prog W0 S0 Post:=hT;have a0:=hargs 0 (by simp);have a1:=hargs 1 (by simp);simp only [qS,List.getD_cons_succ] at a0 a1;obtain ⟨v0,_⟩:=a0.val_eq;obtain ⟨caps,v1,hcs,hcr⟩:=a1.fn_eq;have hvals:=pair_eq (by simpa using hsz) v0 v1;subst hvals;have c0r:=hcr 0 (by simp);have c1r:=hcr 1 (by simp);simp only [qS,List.getD_cons_succ] at c0r c1r;have hlk:∀ id x,look id H=some x→h' id=some x:=fun id x hx=>(hag id (hH _ (Qk hx))).trans hx;have hlim':∀ id bk,g.ρ id=some bk→h' id=look id H:=fun id bk hb=>hag id (hlim id bk hb);have hali:∀ id bk,g.ρ id=some bk→∀ c i k s,h' id ≠ some (.ali c i k s):=fun id bk hb c i k s hx=>by
  rw [hlim' id bk hb] at hx;have:=hal _ (Qk hx);cases this
 have HL:HRel v ⟨g.R,Q7f g.o Ln,g.ρ⟩ (fun id=>look id (delH Ln H)):=by
  have hsub:∀ id x,look id (delH Ln H)=some x→id ≠ Ln∧look id H=some x:=fun id x hx=>by
   rw [Q7x] at hx;split at hx
   ·cases hx
   exact ⟨by assumption,hx⟩
  exact HH.less (fun id x hx=>⟨(hsub id x hx).1,hlk id x (hsub id x hx).2⟩) fun id c i k s hx=>by
   have:=hal _ (Qk (hsub id _ hx).2);cases this
 have P0:=(Q5J HL hc c0r).2 (fun _ q=>by cases q);obtain ⟨bE,bsz,bcap,hρe,c1v⟩:=c1r.adr_eq;obtain ⟨bE',curE,elE,usE,cpE,hbkE,hoE,hhE,_,_,_,_,hcurE,_,hxrE⟩:=(HH.mix e 1 _ _ (hlk _ _ he) hρe).ex (by simp);simp only [Bk.mk.injEq,qA] at hbkE;obtain ⟨rfl,rfl,_⟩:=hbkE;have hx0:=hxrE 0 0 (by simp) (by simp);have hc0:=hcurE 0 0 (by simp) (by simp);simp only [qS] at hx0;generalize usE 0 0=xE at hx0 hc0;generalize hq1:caps.getD 1 undef=q1 at c1v;subst c1v;generalize hq0:caps.getD 0 undef=q0 at P0;clear c0r c1r a0 a1;cases P0 with
 | @rptr _ bA xA curA elA frA usA hRA hhA hcA _ hrA =>
  have hA0:=hcA 0 (by simp);have hrA0:=hrA 0 (by simp);simp only [qS,Nat.add_zero] at hA0 hrA0;generalize usA 0=xf at hA0 hrA0;cases hrA0 with
  | @fn _ cs2 _ hcs2 hr2 =>
   have hcaps:=pair_eq (by simpa using hcs) hq0 hq1;subst hcaps;have hRlt:∀ b,RAll ⟨g.R,Q7f g.o Ln,g.ρ⟩ b→b<v.heap.size∧∀ L,g.o b=some L→∀ M,L ≠ Ln :: M:=fun b hb=>by
    rcases hb with hb|⟨L,hb⟩
    ·exact ⟨(W.R b hb).1,fun L hL2=>by rw [(W.R b hb).2] at hL2;cases hL2⟩
    obtain ⟨h1,h2⟩:=Q9M hb;exact ⟨(W.o b L h1).1,fun L' hL' M=>by rw [h1] at hL';cases hL';exact h2 M⟩
   rcases hx0.own_eq with ⟨s0,cp0,hρ0,rfl,_,rfl⟩|⟨C0,szL,cap,cc,x0,hρL,rfl,k1,k2,k3,k4,k5⟩
   ·
    letI:PS:={ ety:=87,z:=1 }
    refine eoCall (C:=fun bT=>bT) (n:=0) (K:=KA A) (fT:=114) (by decide) (fun β k val v v' r h=>KA.rly r h) v (fun v₁ bT XE hb hbT=>⟨⟨_,hbT,rfl⟩,fun h0=>absurd h0 (by decide)⟩) ⟨_,Tryz.func114,rfl,by simp [Tryz.f114]⟩ (fun v₁ bT XE k hk=>absurd hk (Nat.not_lt_zero k)) fun v₁ bT v₂ fr XE hb1 hb2 B hfr hl=>?_;have X2:Ext0 v v₂:=⟨qL XE.size (Nat.le_of_lt B.size),fun b hb=>(B.old b (Nat.lt_of_lt_of_le hb XE.size) (by omega)).trans (XE.old b hb),B.rest.1.trans XE.rest.1,B.rest.2.1.trans XE.rest.2.1,B.rest.2.2.1.trans XE.rest.2.2.1,qL XE.rest.2.2.2 B.rest.2.2.2⟩;obtain ⟨W2,H2⟩:=grown_rel W HH X2;have hes:es0=[]:=List.eq_nil_of_length_eq_zero hlen;have hh2:happ { v:=.tup [],set:=[(Ln,.row 1 (Q59 0 A))] } h'=h':=by
     funext id
     simp only [happ,look];split
     ·rename_i x hx;split at hx
      ·rename_i e1;cases hx;rw [← e1,hlk Ln _ hL,hes];rfl
      cases hx
     simp
    exact kk (.tuple #[]) v₂ fr ⟨_,g.R,g.o,g.ρ,rfl,RX.refl,W2,by rw [hh2];exact H2,fun _ _ h=>h,fun _ _ h=>.inl h,.tup rfl (fun k hk=>by simp at hk),fun b hb=>X2.old b (W.R b hb).1⟩ hfr hl
   obtain ⟨vL,htL,hhdL⟩:=HH.row Ln 1 es0 _ (hlk _ _ hL) hρL;cases hhdL;cases htL with
   | @own _ _ _ _ _ curC eC usC hoC hhC hszC hleC hcmC _ _ _ _ =>
    obtain rfl:x0=0:=k4 rfl;have hbEC:bE ≠ C0:=fun q=>by rw [q,hoC] at hoE;simp at hoE;exact hne hoE.symm
    have hClt:C0<v.heap.size:=(Array.getElem?_eq_some_iff.1 hhC).1;have hElt:bE<v.heap.size:=(Array.getElem?_eq_some_iff.1 hhE).1
    letI:PS:={ ety:=eC,z:=curC.size }
    refine eoCall (C:=fun _=>C0) (n:=n) (K:=KA A) (fT:=114) (by omega) (fun β k val v v' r h=>KA.rly r h) v (fun v₁ bT XE hb hbT=>⟨⟨curC,(XE.old C0 hClt).trans hhC,rfl⟩,fun _=>by omega⟩) ⟨_,Tryz.func114,rfl,by simp [Tryz.f114]⟩ (fun v₁ bT XE k hk β u bX h1 h2 h3=>?_) fun v₁ bT v₂ fr XE hb1 hb2 B hfr hl=>?_
    ·obtain ⟨szA,esA,hAk,hCon⟩:=hcon k hk;have hCl1:C0<v₁.heap.size:=Nat.lt_of_lt_of_le hClt XE.size;have hstart:Ext0 (Go.Vc.Ph.start v₁ C0) (Go.Vc.Ph.start v₁ C0):=⟨qC _,fun _ _=>rfl,rfl,rfl,rfl,qC _⟩;have hAC:bA ≠ C0:=fun q=>(hRlt bA hRA).2 _ (q ▸ hoC) [] rfl;obtain ⟨fA,hsA⟩:=Q60 XE hstart hCl1 (hRlt bA hRA).1 hAC _ _ _ hhA;obtain ⟨fE,hsE⟩:=Q60 XE hstart hCl1 hElt hbEC _ _ _ hhE;have hwk:=Qav (s:=Go.Vc.Ph.start v₁ C0) (K:=KA A) (β:=β) (k:=k) (bA:=bA) (xA:=xA) (bEl:=bE) (C:=C0) (n:=n) (cap:=cc) (Wg:=v₁.heap.size) (bT:=bT) (bX:=bX) (fAt:=X) (capsAt:=cs2) (f:=.func (.func 114) #[] #[.pointer (some ⟨bA,xA,none⟩),.pointer (some ⟨bE,0,none⟩)]) (x:=.int .i64 k) hk
      (by show k<curC.size;omega) (fun r h=>KA.rly r h) (fun h=>KA_slice hAk h) ((QZ hsA).trans hA0) ((QZ hsE).trans hc0) u h3 h2 (fun u₁ E hβ=>?_) hX
     ·simpa using hwk
     letI:Kd Tryz.prog:=KdG Tryz.prog false
     refine Callz.mono (hCon.calls u₁ (RAll ⟨g.R,Q7f g.o Ln,g.ρ⟩) (#[Value.int .i64 k]++cs2) (fun b hb=>?_) (by simp;omega) (fun i hi=>?_)) ?_
     ·have h5:=(hRlt b hb).1;have h6:=XE.size;have h7:=E.size;rw [Q2X] at h7;omega
     ·cases i with
      | zero =>
       refine .r ?_;have:((#[Value.int .i64 k]++cs2).getD 0 undef) = .int .i64 k:=(by simp [Array.getElem?_append]);rw [this];refine .val ?_;show IntKind.i64.min≤(k:Int)∧(k:Int)≤IntKind.i64.max;have e1:IntKind.i64.min = -9223372036854775808:=(by decide);have e2:IntKind.i64.max=9223372036854775807:=(by decide);rw [e1,e2];omega
      | succ i =>
       refine .r ?_;have hi':i<bs.length:=(by simpa using hi);have:((#[Value.int .i64 k]++cs2).getD (i+1) undef)=cs2.getD i undef:=(by simp [Array.getElem?_append]);rw [this,List.getD_cons_succ];exact (hr2 i hi').view (fun b hb=>⟨hb,Q60 XE E hCl1 (hRlt b hb).1 fun q=>(hRlt b hb).2 _ (q ▸ hoC) [] rfl⟩) (hm _ (Q20 hi'))
     rintro ex u₂ ⟨y,o,hy,hb,ho,hr⟩
     rw [hAk] at hr;exact ⟨y,hy,E.blw hb,hb.size,KA.of hAk hβ ho hr⟩
    obtain ⟨o',W2,H2,hR2⟩:=Q85 W HH XE B (hlk _ _ hL) hlen hρL hali (by show cap≤curC.size;omega) (by omega) hcmC hoC { v:=.tup [],set:=[(Ln,.row 1 (Q59 n A))] } rfl rfl;exact kk (.tuple #[]) v₂ fr ⟨_,g.R,o',g.ρ,rfl,RX.refl,W2,H2,fun _ _ h=>h,fun _ _ h=>.inl h,.tup rfl (fun k hk=>by simp at hk),hR2⟩ hfr hl
end
end Go.Vc.T
namespace Go.Vc.T
open Go Go.Vc Go.Proofs
section
attribute [local simp] Qf QF Qs Q1o QS
def eM (x:List (ByteArray × Int)):List AV:=[.cmap .str (Msi x)]
@[simp] theorem rlLL_eM (m:List (Nat × Nat)) (xs:List (List (ByteArray × Int))):rlLL m (Es eM xs)=Es eM xs:=QT m eM xs fun _=>rfl
def eoF {α:Type} (f:Int→Option α):Nat→Option (List α)
 | 0=>some []
 | n+1=>(eoF f n).bind fun r=>(f n).map fun y=>r++[y]
theorem eoF_get {α:Type} (d:α) {f:Int→Option α}:∀ {n:Nat} {r:List α},eoF f n=some r→r.length=n∧∀ k,k<n→f k=some (r.getD k d):=by
 intro n
 induction n with
 | zero=>intro r h;simp only [eoF,qA] at h;subst h;exact ⟨rfl,fun k hk=>absurd hk (Nat.not_lt_zero k)⟩
 | succ n ih =>
  intro r h;obtain ⟨r0,h1,h2⟩:=Option.bind_eq_some_iff.1 h;obtain ⟨y,h3,rfl⟩:=Option.map_eq_some_iff.1 h2;obtain ⟨e1,e2⟩:=ih h1;refine ⟨by simp [e1],fun k hk=>?_⟩
  by_cases hkn:k<n
  ·rw [e2 k hkn];simp [qG,List.getElem?_append,e1,hkn]
  have:k=n:=by omega
  subst this;rw [h3];simp [qG,List.getElem?_append,e1]
theorem rows_L {r:List (List (List Int))} {n:Nat} (h:r.length=n):Q59 n (fun k=>.lst true 1 (Ls (r.getD k [])))=Es eL r:=by
 subst h;apply List.ext_getElem?;intro i;simp only [Q59,Es,eL,List.getElem?_map,List.getElem?_range]
 by_cases hi:i<r.length
 ·simp [hi,qG,eL]
 simp [hi]
section
variable {α:Type} {u:Bool}
@[simp] theorem nom_val {v:Value}:NoM (.val v):=.val
theorem nom_Es {sz:Nat} {c:α→List AV} (h:∀ x,∀ y∈c x,NoM y) (xs:List α):NoM (.lst u sz (xs.map c)):=.lst fun e he y hy=>by
 obtain ⟨x,_,rfl⟩:=List.mem_map.1 he;exact h x y hy
@[simp] theorem nom_Is {sz:Nat} (xs:List Int):NoM (.lst u sz (Is xs)):=nom_Es (by simp) xs
@[simp] theorem nom_Ls {sz:Nat} (xs:List (List Int)):NoM (.lst u sz (Ls xs)):=nom_Es (by simp) xs
@[simp] theorem nom_rptr {cs:List AV}:NoM (.rptr cs)↔∀ c∈cs,NoM c:=⟨fun h=>by cases h;assumption,.rptr⟩
@[simp] theorem nom_fn {f:Nat} {cs:List AV}:NoM (.fn f cs)↔∀ c∈cs,NoM c:=⟨fun h=>by cases h;assumption,.fn⟩
end
theorem eoT [Kd Tryz.prog] [Eo Tryz.prog] {H:List (Nat × Ent)} {nn e Ln X m:Nat} {n:Int} {c0:AV} {bs:List AV} {es0:List (List AV)} {f:Int→Option (List (List Int))} {r:List (List (List Int))} (hr:eoF f n.toNat=some r) (hn:0≤n∧n≤1073741824)
  (hcon : ∀ (k : Int) y, f k = some y → @Contract Tryz.prog (KdG Tryz.prog false) X (iV k :: bs) (.lst true 1 (Ls y))) (hX : ∃ fn, Tryz.prog.funcs[X]? = some fn ∧ (fn.name == "runtime.NumGoroutine") = false ∧ fn.body.isSome = true)
  (hc:PurTo (fun id=>look id (delH Ln H)) c0 (.rptr [.fn X bs])) (hm:∀ a∈bs,NoM a) (hH:∀ p∈H,p.1<nn) (he:look e H=some (.mix 1 [[.own Ln 0 m]])) (hL:look Ln H=some (.row 1 es0)) (hlen:es0.length=n.toNat) (hmm:m=n.toNat)
  (hal:∀ p∈H,Q67 p.2=false):ICon Tryz.prog 60 [iV n,.fn 114 [c0,.adr e 0 0]] (fun id=>look id H) nn { v:=.tup [],set:=[(Ln,.row 1 (Es eL r))] }:=by
 rename_i i1 i2;obtain ⟨W0,S0,Post,hi⟩:=i2.isM;subst hi hmm;obtain ⟨g1,g2⟩:=eoF_get [] hr;have e1:(n.toNat:Int)=n:=Int.toNat_of_nonneg hn.1;have:=eoTuples (W0:=W0) (S0:=S0) (Post:=Post) (A:=fun k=>.lst true 1 (Ls (r.getD k []))) hH he hL hlen (by omega) hal hc hm hX fun k hk=>⟨1,Ls (r.getD k []),rfl,hcon k _ (g2 k hk)⟩;rw [rows_L g1,e1] at this;exact this
end
end Go.Vc.T
namespace Go.Vc.T
open Go Go.Vc Go.Proofs
section
attribute [local simp] Qf QF Qs Q1o QS
def Qq (x:Cat):List AV:=[.rptr (x.cells true)]
def Qg (x:SF):List AV:=[.rptr (x.cells true)]
instance:Inhabited Cat:=⟨⟨0,[],[],[],[]⟩⟩
instance:Inhabited SF:=⟨⟨default,[],[]⟩⟩
structure Ends where
 a:Int
 b:Int
def Ends.cells (u:Bool) (f:Ends):List AV:=[iV f.a,iV f.b]
structure XPart where
 members_:List (List Int)
def XPart.cells (u:Bool) (f:XPart):List AV:=[.lst u 1 (Ls f.members_)]
instance:Inhabited XPart:=⟨⟨default⟩⟩
def Qc (x:XPart):List AV:=[.rptr (x.cells true)]
end
end Go.Vc.T
namespace Go.Vc.T
open Go Go.Vc Go.Proofs
section
attribute [local simp] Qf QF Qs Q1o QS
@[simp] theorem bf_175_9:byS Tryz.prog 175 9=some 5:=by kernel_rfl
@[simp] theorem ef_23:elm Tryz.prog 23=some 22:=by kernel_rfl
@[simp] theorem ef_99:elm Tryz.prog 99=some 23:=by kernel_rfl
@[simp] theorem ef_112:elm Tryz.prog 112=some 38:=by kernel_rfl
@[simp] theorem ef_141:elm Tryz.prog 141=some 142:=by kernel_rfl
@[simp] theorem ef_175:elm Tryz.prog 175=some 5:=by kernel_rfl
@[simp] theorem ff_25_0:fld Tryz.prog 25 0=some (0,1,false):=by kernel_rfl
@[simp] theorem ff_25_1:fld Tryz.prog 25 1=some (1,1,false):=by kernel_rfl
@[simp] theorem ff_25_2:fld Tryz.prog 25 2=some (2,1,false):=by kernel_rfl
@[simp] theorem ff_25_3:fld Tryz.prog 25 3=some (3,1,false):=by kernel_rfl
@[simp] theorem ff_25_4:fld Tryz.prog 25 4=some (4,1,false):=by kernel_rfl
@[simp] theorem ff_29_0:fld Tryz.prog 29 0=some (0,1,false):=by kernel_rfl
@[simp] theorem ff_32_0:fld Tryz.prog 32 0=some (0,1,false):=by kernel_rfl
@[simp] theorem ff_32_1:fld Tryz.prog 32 1=some (1,1,false):=by kernel_rfl
@[simp] theorem ff_32_2:fld Tryz.prog 32 2=some (2,1,false):=by kernel_rfl
@[simp] theorem ff_32_3:fld Tryz.prog 32 3=some (3,1,false):=by kernel_rfl
@[simp] theorem ff_32_4:fld Tryz.prog 32 4=some (4,1,false):=by kernel_rfl
@[simp] theorem ff_34_0:fld Tryz.prog 34 0=some (0,5,true):=by kernel_rfl
@[simp] theorem ff_34_1:fld Tryz.prog 34 1=some (5,1,false):=by kernel_rfl
@[simp] theorem ff_34_2:fld Tryz.prog 34 2=some (6,1,false):=by kernel_rfl
@[simp] theorem ff_38_0:fld Tryz.prog 38 0=some (0,1,false):=by kernel_rfl
@[simp] theorem ff_52_0:fld Tryz.prog 52 0=some (0,7,true):=by kernel_rfl
@[simp] theorem ff_52_1:fld Tryz.prog 52 1=some (7,7,true):=by kernel_rfl
@[simp] theorem ff_52_2:fld Tryz.prog 52 2=some (14,1,false):=by kernel_rfl
@[simp] theorem kf_2:intk Tryz.prog 2=some .i64:=by kernel_rfl
@[simp] theorem kf_5:intk Tryz.prog 5=some .u8:=by kernel_rfl
@[simp] theorem mf_142:mty Tryz.prog 142=some (.str,.int .i64 0):=by kernel_rfl
@[simp] theorem tf_5:tyi Tryz.prog 5=some ⟨false,1,1,[.int .u8 0]⟩:=by kernel_rfl
@[simp] theorem tf_22:tyi Tryz.prog 22=some ⟨false,1,24,[.slice none 0 0]⟩:=by kernel_rfl
@[simp] theorem tf_23:tyi Tryz.prog 23=some ⟨false,1,24,[.slice none 0 0]⟩:=by kernel_rfl
@[simp] theorem Q7V:tyi Tryz.prog 34=some ⟨true,7,152,[.int .i64 0,.slice none 0 0,.slice none 0 0,.slice none 0 0,.slice none 0 0,.slice none 0 0,.slice none 0 0]⟩:=by kernel_rfl
@[simp] theorem tf_38:tyi Tryz.prog 38=some ⟨true,1,24,[.slice none 0 0]⟩:=by kernel_rfl
@[simp] theorem tf_74:tyi Tryz.prog 74=some ⟨false,1,8,[.nilFunc]⟩:=by kernel_rfl
@[simp] theorem tf_99:tyi Tryz.prog 99=some ⟨false,1,24,[.slice none 0 0]⟩:=by kernel_rfl
@[simp] theorem tf_142:tyi Tryz.prog 142=some ⟨false,1,8,[.map none]⟩:=by kernel_rfl
end
end Go.Vc.T
namespace Go.Vc.T
open Go Go.Vc Go.Proofs
section
attribute [local simp] Qf QF Qs Q1o QS
theorem mu_len {ms:List Mu} (h:∀ u∈ms,u.fs.length=u.es.length):∀ j,j<ms.length→(ms.getD j .none).fs.length=(ms.getD j .none).es.length:=fun j hj=>by rw [qG,List.getElem?_eq_getElem hj];exact h _ (zL hj)
theorem XPart.pur {h:HP} {u v:Bool} {c:XPart}:PurL h (c.cells u) (c.cells v):=.cons .lst .nil
def XPart.mark (k:Int) (f:XPart):XPart:=⟨runs (k) f.members_⟩
def XPart.size (f:XPart):Nat:=sumL f.members_
def XPart.ok (f:XPart):Prop:=f.members_.length≤1048576∧(∀ xs∈f.members_,xs.length≤1048576)∧sumL f.members_≤1099511627776
def XPart.mu (f:XPart) (k:Int):List Mu:=[⟨1,Ls f.members_,Ls (f.mark k).members_⟩]
theorem XPart.ok_size {f:XPart} (h:f.ok):f.size≤1099511627776:=by
 obtain ⟨hmembers_1,hmembers_2,hmembers_3⟩:=h;simp only [XPart.size];omega
theorem eqXPart [Kd Tryz.prog] (u v:Bool) (f:XPart):Contract Tryz.prog 17 [.agg (f.cells u),.agg (f.cells v)] (.val (.bool true)):=by
 refine Q9 (rs:=[.val (.bool true)]) Tryz.func17 rfl rfl rfl rfl (by simp [Tryz.f17]) fun F hN hP=>?_;refine srQ hN fun K hK=>?_;simp [XPart.cells];refine hK _ ?_;clear hK K;refine Q3 (srQ hN fun K hK=>?_);simp;refine Q0 (c30 u v f.members_) (.cons .lst (.cons .lst .nil)) ?_;simp [unk,unA,unE,flat];refine hK _ (Q7 rfl (fun h=>by simp at h) fun _=>?_);clear hK K;refine Q8 (srQ hN fun K hK=>?_);simp;refine hK _ ?_;clear hK K;refine Qj (Qh rfl rfl)
theorem Q70 [Kd Tryz.prog] (u:Bool) (f:XPart) (hf:f.ok):Contract Tryz.prog 13 [.agg (f.cells u)] (.agg (f.cells true)):=by
 obtain ⟨hmembers_1,hmembers_2,hmembers_3⟩:=hf;refine Q14 Tryz.func13 rfl rfl tf_38 rfl rfl (by simp [Tryz.f13]) fun F hN hP=>?_;refine srQ hN fun K hK=>?_;simp [XPart.cells];refine hK _ ?_;clear hK K;refine srQ hN fun K hK=>?_;simp;refine hK _ ?_;clear hK K;refine srQ hN fun K hK=>?_;simp;refine Q0 (c20 u f.members_ hmembers_1 hmembers_2) (.cons .lst .nil) ?_;simp [unk,unA,unE,flat];refine hK _ ?_;clear hK K;refine srQ hN fun K hK=>?_;simp;refine hK _ (Qj ⟨_,_,_,_,_,rfl,rfl,by simp,by simp,?_⟩);clear hK K;exact ⟨.agg rfl .nil,[.lst true 1 (Ls f.members_)],[3],by simp,by simp,UpL.refl _⟩
def Q42 (l:Int) (f:XPart):Int:=nn (Q2C l f.members_) fun a0=>a0
theorem Qal {l:Int} {f:XPart} (hl:l≤1048576) (h:0≤Q42 l f):f.ok:=by
 unfold Q42 at h;obtain ⟨p0,q0,_⟩:=Q7E h;obtain ⟨e0,e0a,e0b,_⟩:=Q5y p0;have b0:=Q5x (xs:=f.members_) hl;exact ⟨by omega,fun x hx=>by have:=e0b x hx;omega,by omega⟩
theorem cszXPart [Kd Tryz.prog] (u:Bool) (f:XPart) (l:Int) (h1:0≤l) (h2:l≤1048576):Contract Tryz.prog 10 [.agg (f.cells u),iV l] (iV (Q42 l f)):=by
 refine Q9 (rs:=[iV (Q42 l f)]) Tryz.func10 rfl rfl rfl rfl (by simp [Tryz.f10]) fun F hN hP=>?_;refine srQ hN fun K hK=>?_;simp [XPart.cells];refine hK _ ?_;clear hK K;refine srQ hN fun K hK=>?_;simp;refine Q0 (c15 u f.members_ (l) h1 (h2)) (.cons .lst (.cons .val .nil)) ?_;simp [unk,unA,unE,flat];refine hK _ ?_;clear hK K;refine Q3 (srQ hN fun K hK=>?_);simp;refine hK _ ?_;clear hK K;refine Q7 rfl (fun g1=>?_) fun g1=>?_
 ·simp at g1;refine srQ hN fun K hK=>?_;simp;refine hK _ (Qj (Qh rfl ?_));clear hK K;simp only [Q42,nn];rw [if_pos g1]
 simp at g1;refine Q8 (srQ hN fun K hK=>?_);simp;refine hK _ (Qj (Qh rfl ?_));clear hK K;simp only [Q42,nn];rw [if_neg (Int.not_lt.2 g1)]
theorem markXPart [Kd Tryz.prog] (f:XPart) (k:Int) (hf:f.ok) (h2:0≤k) (h3:k+f.size≤576460752303423488) :
  MContract Tryz.prog 19 [.agg [.own 0 0 f.members_.length],iV k] (f.mu k) (iV (k+f.size)):=by
 obtain ⟨hmembers_1,hmembers_2,hmembers_3⟩:=hf;have hz:f.size=sumL f.members_:=rfl;refine Q1g (ts:=[4]) (rv:=.int .i64 (k+f.size)) Tryz.func19 rfl rfl ?_ rfl (by simp [Tryz.f19]) ?_ fun F hN hP=>?_
 ·have:(-9223372036854775808≤k+f.size)∧k+f.size≤9223372036854775807:=by omega
  simp [resV,this]
 ·exact mu_len (by simp [XPart.mu,XPart.mark])
 refine srQ hN fun K hK=>?_;simp [Q4D,XPart.mu];refine hK _ ?_;clear hK K;refine Q5d mo (by rw [hN];decide) fun K hK=>?_;simp;refine Q1C (m33 f.members_ (k) hmembers_1 hmembers_2 (by omega) (by omega)) rfl (by simp) ?_;simp;refine hK _ ?_;clear hK K;refine srQ hN fun K hK=>?_;simp;refine hK _ ?_;clear hK K;refine Qj (mret ?_ ?_)
 ·simp [hz,Int.add_assoc]
 exact (.cons rfl .nil)
end
end Go.Vc.T
namespace Go.Vc.T
open Go Go.Vc Go.Proofs
section
attribute [local simp] Qf QF Qs Q1o QS
noncomputable def Q1U (xs:List Int) (n:Int):Option (Bool) :=
 ass (B64 (n - 1)) <| some ((xs.all (inR n)))
theorem Q6C [Kd Tryz.prog] (xs:List Int) (n:Int) (r:Bool) (h:Q1U xs n=some r):Contract Tryz.prog 131 [lI xs,iV n] (.val (.bool r)):=by
 unfold Q1U at h;replace ⟨hn,h⟩:=Q5 h;cases h;exact c22 true xs n hn
noncomputable def Q2W (n:Int) (xs:List Int):Option (Bool) :=
 some ((xs.all (inR n)))
theorem QaB [Kd Tryz.prog] (n:Int) (xs:List Int) (r:Bool) (h:Q2W n xs=some r):Contract Tryz.prog 127 [iV n,lI xs] (.val (.bool r)):=by
 unfold Q2W at h;cases h;exact c57 true xs n
noncomputable def Q3b (xs:List (List Int)):Option (List (List Int)) :=
 ass (xs.length≤1048576) <| ass (∀ x∈xs,x.length≤1048576) <| some (xs)
theorem Q8P [Kd Tryz.prog] (xs:List (List Int)) (r:List (List Int)) (h:Q3b xs=some r):Contract Tryz.prog 43 [.lst true 1 (Ls xs)] (.lst true 1 (Ls r)):=by
 unfold Q3b at h;replace ⟨hx,h⟩:=Q5 h;replace ⟨hx',h⟩:=Q5 h;cases h;exact c59 true xs hx hx'
noncomputable def Q3F (c:Cat):Option (Cat) :=
 ass (c.ok) <| some (c)
theorem QaC [Kd Tryz.prog] (c:Cat) (r:Cat) (h:Q3F c=some r):Contract Tryz.prog 87 [.agg (c.cells true)] (.agg (r.cells true)):=by
 unfold Q3F at h;replace ⟨hc,h⟩:=Q5 h;cases h;exact c41 true c hc
noncomputable def Q15 (c:Cat):Option (Cat) :=
 ass (c.ok) <| some (c)
theorem Q4N [Kd Tryz.prog] (c:Cat) (r:Cat) (h:Q15 c=some r):Contract Tryz.prog 102 [.rptr (c.cells true)] (.agg (r.cells true)):=by
 unfold Q15 at h;replace ⟨hc,h⟩:=Q5 h;cases h;have q:=c23 true c [] hc;simp only [List.append_nil] at q;exact q
noncomputable def Q3s (f:SF):Option (Bool) :=
 some ((bo f.Is))
theorem w_s_l19Is [Kd Tryz.prog] (f:SF) (r:Bool) (h:Q3s f=some r):Contract Tryz.prog 85 [.agg (f.cells true)] (.val (.bool r)):=by
 unfold Q3s at h;cases h;exact c16 true f
noncomputable def Qx (f:SF):Option (Bool) :=
 some ((bo f.Is))
theorem Q2x [Kd Tryz.prog] (f:SF) (r:Bool) (h:Qx f=some r):Contract Tryz.prog 89 [.rptr (f.cells true)] (.val (.bool r)):=by
 unfold Qx at h;cases h;exact c21 true f
noncomputable def Q2j (xs:List Int) (n:Int):Option (Bool) :=
 some ((bo (n∈xs)))
theorem QaA [Kd Tryz.prog] (xs:List Int) (n:Int) (r:Bool) (h:Q2j xs n=some r):Contract Tryz.prog 107 [lI xs,iV n] (.val (.bool r)):=by
 unfold Q2j at h;cases h;exact iq72 true xs n
end
end Go.Vc.T
namespace Go.Vc.T
open Go Go.Vc Go.Proofs
section
attribute [local simp] Qf QF Qs Q1o QS
@[simp] theorem ass_true {α:Type} {k:Option α}:ass True k=k:=Q4 trivial
theorem bo_tt (p:Prop):(bo p=true)=p:=by simp [bo]
theorem Q1m {p:Prop} (h:p):bo p=true:=by simp [bo,h]
theorem Q1f {p:Prop} (h:¬ p):bo p=false:=by simp [bo,h]
theorem bo_iff2 {p q:Prop} (h:p↔q):bo p=bo q:=by simp [bo,h]
theorem loop_go {σ ε:Type} {body:σ→Option (Ctl σ ε)} (g:Nat→σ) (m:Nat):∀ (k:Nat),m≤k→(∀ i,i<m→body (g i)=some (.next (g (i+1))))→QM body k (g 0)=QM body (k - m) (g m):=by
 induction m with
 | zero=>intro k _ _;rfl
 | succ m ih =>
  intro k hk h;rw [ih k (by omega) fun i hi=>h i (by omega)];obtain ⟨j,hj⟩:∃ j,k - m=j+1:=⟨k - m - 1,by omega⟩;rw [hj,show k - (m+1)=j by omega];simp only [QM,h m (by omega)]
theorem Q3B {σ ε:Type} {body:σ→Option (Ctl σ ε)} (g:Nat→σ) (n:Nat) {e:ε} {s0:σ} (h0:s0=g 0) (hn:n<4611686018427387904) (h:∀ i,i<n→body (g i)=some (.next (g (i+1)))) (he:body (g n)=some (.ret e)):QM body fuel s0=some e:=by
 subst h0;rw [loop_go g n fuel (by unfold fuel;omega) h];obtain ⟨j,hj⟩:∃ j,fuel - n=j+1:=⟨fuel - n - 1,by unfold fuel;omega⟩;rw [hj];simp only [QM,he]
theorem Q9e {ε:Type} {body:Int→Option (Ctl Int ε)} (n:Nat) (p:Nat→Prop) {eb:Nat→ε} {eg:ε} (hn:n<4611686018427387904) (h1:∀ i:Nat,i<n→p i→body (i:Int)=some (.next ((i:Int)+1))) (h2:∀ i:Nat,i<n→¬ p i→body (i:Int)=some (.ret (eb i))) (h3:body (n:Int)=some (.ret eg)) :
  ((∀ i:Nat,i<n→p i)∧QM body fuel 0=some eg)∨∃ m,m<n∧¬ p m∧(∀ k,k<m→p k)∧QM body fuel 0=some (eb m):=by
 by_cases hall:∀ i:Nat,i<n→p i
 ·exact .inl ⟨hall,Q3B (fun i:Nat=>(i:Int)) n rfl hn (fun i hi=>h1 i hi (hall i hi)) h3⟩
 right;have hex:∃ i,i<n∧¬ p i:=zI fun hx=>hall fun i hi=>zI fun hp=>hx ⟨i,hi,hp⟩;obtain ⟨m,⟨hm,hp⟩,hmin⟩:∃ m,(m<n∧¬ p m)∧∀ k,k<m→¬ (k<n∧¬ p k):=by
  obtain ⟨i,hi⟩:=hex
  induction i using Nat.strongRecOn with
  | _ i ih =>
   by_cases h:∃ k,k<i∧k<n∧¬ p k
   ·obtain ⟨k,h1,h2⟩:=h;exact ih k h1 h2
   exact ⟨i,hi,fun k hk hh=>h ⟨k,hk,hh⟩⟩
 have hlt:∀ k,k<m→p k:=fun k hk=>zI fun hh=>hmin k hk ⟨by omega,hh⟩;exact ⟨m,hm,hp,hlt,Q3B (fun i:Nat=>(i:Int)) m rfl (by omega) (fun i hi=>h1 i (by omega) (hlt i hi)) (h2 m hm hp)⟩
theorem loop_acc {α ε:Type} {body:α × Int→Option (Ctl (α × Int) ε)} (g:Nat→α) (n:Nat) {e:ε} {a0:α} (h0:a0=g 0) (hn:n<4611686018427387904) (h:∀ i:Nat,i<n→body (g i,(i:Int))=some (.next (g (i+1),(i:Int)+1))) (he:body (g n,(n:Int))=some (.ret e)):QM body fuel (a0,0)=some e:=by
 subst h0;exact Q3B (fun i:Nat=>(g i,(i:Int))) n rfl hn h he
theorem Q1v {α ε β:Type} {body:α × Int→Option (Ctl (α × Int) ε)} {K:ε→Option β} {r:Option β} {a0:α} (n:Nat) (g:Nat→α) {e:ε} (h0:a0=g 0) (hn:n<4611686018427387904) (h:∀ i:Nat,i<n→body (g i,(i:Int))=some (.next (g (i+1),(i:Int)+1))) (he:body (g n,(n:Int))=some (.ret e)) (hk:K e=r):(QM body fuel (a0,0)).bind K=r:=by
 rw [loop_acc g n h0 hn h he];exact hk
end
end Go.Vc.T
namespace Go.Vc.T
open Go Go.Vc Go.Proofs
section
attribute [local simp] Qf QF Qs Q1o QS
structure Fn.Is (f:Fn):Prop where
 s:f.s.Is
 t:f.t.Is
 lo:(f.ob.length:Int)=f.s.n
 la:f.ar.length=f.s.fr.length
 ob:∀ j:Nat,j<f.ob.length→0≤ix f.ob j∧ix f.ob j<f.t.n
 ar:∀ j:Nat,j<f.ar.length→0≤ix f.ar j∧ix f.ar j<f.t.fr.length
 ends:∀ a:Nat,a<f.s.fr.length→ix f.t.fr (ix f.ar a)=ix f.ob (ix f.s.fr a)∧ix f.t.to (ix f.ar a)=ix f.ob (ix f.s.to a)
 ids:∀ x:Nat,x<f.s.id.length→ix f.ar (ix f.s.id x)=ix f.t.id (ix f.ob x)
 comp:∀ a:Nat,a<f.s.fr.length→∀ b:Nat,b<f.s.fr.length→ix f.s.to a=ix f.s.fr b→ix f.ar (ix (rx f.s.cs a) b)=ix (rx f.t.cs (ix f.ar a)) (ix f.ar b)
theorem Cat.Sh.frn {c:Cat} (h:c.Sh) {a:Nat} (ha:a<c.fr.length):(0≤ix c.fr a∧ix c.fr a<c.id.length)∧(0≤ix c.to a∧ix c.to a<c.id.length):=⟨h.fr' (by omega) (by omega),h.to' (by omega) (by omega)⟩
end
end Go.Vc.T
namespace Go.Vc.T
open Go Go.Vc Go.Proofs
section
attribute [local simp] Qf QF Qs Q1o QS
structure Para (f g:Fn):Prop where
 hf:f.Is
 hg:g.Is
 s:f.s=g.s
 t:f.t=g.t
theorem gx_nat {α:Type} [Inhabited α] (xs:List α) {i:Nat} (h:i<xs.length):gx xs i=xs[i]:=by simp [gx,qG,h]
end
end Go.Vc.T
namespace Go.Vc.T
open Go Go.Vc Go.Proofs
section
attribute [local simp] Qf QF Qs Q1o QS
def tab {α:Type} (n:Nat) (g:Nat→α):List α:=(zG n).map g
@[simp] theorem Qam {α:Type} (n:Nat) (g:Nat→α):(tab n g).length=n:=by simp [tab]
theorem Q1X {α:Type} (n:Nat) (g:Nat→α):tab (n+1) g=tab n g++[g n]:=by simp [tab,List.range_succ]
theorem Q9y {α:Type} (g:Nat→α):tab 0 g=[]:=rfl
end
end Go.Vc.T
namespace Go.Vc.T
open Go Go.Vc Go.Proofs
section
attribute [local simp] Qf QF Qs Q1o QS
noncomputable def fstN (n:Nat) (p:Nat→Prop):Int:=(((zG n).find? fun i=>bo (p i)).map Int.ofNat).getD (-1)
theorem Q8e {n:Nat} {p q:Nat→Prop} (h:∀ i,i<n→(p i↔q i)):fstN n p=fstN n q:=by
 unfold fstN
 congr 2
 induction n with
 | zero=>rfl
 | succ n ih =>
  rw [List.range_succ,List.find?_append,List.find?_append,ih fun i hi=>h i (by omega)];simp only [List.find?_cons,List.find?_nil,bo_iff2 (h n (by omega))]
theorem Q5g (n:Nat) (p:Nat→Prop):(fstN n p = -1∧∀ i,i<n→¬ p i)∨∃ k:Nat,k<n∧p k∧fstN n p=(k:Int):=by
 unfold fstN;cases h:(zG n).find? fun i=>bo (p i) with
 | none =>
  refine .inl ⟨rfl,fun i hi=>?_⟩;have:=List.find?_eq_none.1 h i (by simpa using hi);simpa [bo_tt] using this
 | some k =>
  have h1:=List.find?_some h;have h2:=List.mem_of_find?_eq_some h;exact .inr ⟨k,by simpa using h2,by simpa [bo_tt] using h1,rfl⟩
end
end Go.Vc.T
namespace Go.Vc.T
open Go Go.Vc Go.Proofs
section
attribute [local simp] Qf QF Qs Q1o QS
theorem run_bind {σ ε β:Type} {body:σ→Option (Ctl σ ε)} {K:ε→Option β} {r:Option β} {s0:σ} (n:Nat) (g:Nat→σ) {e:ε} (h0:s0=g 0) (hn:n<4611686018427387904) (h:∀ i:Nat,i<n→body (g i)=some (.next (g (i+1)))) (he:body (g n)=some (.ret e)) (hk:K e=r):(QM body fuel s0).bind K=r:=by
 rw [Q3B g n h0 hn h he];exact hk
end
end Go.Vc.T
namespace Go.Vc.T
open Go Go.Vc Go.Proofs
section
attribute [local simp] Qf QF Qs Q1o QS
structure Two (f g:SF):Prop where
 pf:f.Sh
 pg:g.Sh
 e:f.s=g.s
theorem Q1q {ε β:Type} {body:Int→Option (Ctl Int ε)} {K:ε→Option β} {r:Option β} (n:Nat) (p:Nat→Prop) {eb:Nat→ε} {eg:ε} (hn:n<4611686018427387904) (h1:∀ i:Nat,i<n→¬ p i→body (i:Int)=some (.next ((i:Int)+1))) (h2:∀ i:Nat,i<n→p i→body (i:Int)=some (.ret (eb i))) (h3:body (n:Int)=some (.ret eg))
  (hb:∀ m,m<n→p m→(∀ k,k<m→¬ p k)→K (eb m)=r) (hg:(∀ i,i<n→¬ p i)→K eg=r):(QM body fuel 0).bind K=r:=by
 rcases Q9e n (fun i=>¬ p i) hn h1 (fun i hi h=>h2 i hi (zI h)) h3 with ⟨h,e⟩|⟨m,hm,hq,hlt,e⟩
 ·rw [e];exact hg h
 rw [e];exact hb m hm (zI hq) hlt
end
end Go.Vc.T
namespace Go.Vc.T
open Go Go.Vc Go.Proofs
attribute [local simp] unk unA unE unT unC flat
noncomputable def Q40 (lists_:List (List Int)):Option ByteArray :=
 (QM (σ:=List Int × Int) (ε:=List Int) (fun s16 =>
  if s16.2<(lists_.length:Int) then
   ass (0≤s16.2∧s16.2<(lists_.length:Int)) <|
   (QM (σ:=List Int × Int) (ε:=List Int) (fun s24 =>
    if s24.2<((rx lists_ s16.2).length:Int) then
     ass (0≤s24.2∧s24.2<((rx lists_ s16.2).length:Int)) <|
     ass ((s24.1++[IntKind.u8.wrap (ix (rx lists_ s16.2) s24.2)]).length≤1073741824) <|
     ass (B64 (s24.2+1)) <|
     some (Ctl.next (s24.1++[IntKind.u8.wrap (ix (rx lists_ s16.2) s24.2)],s24.2+1))
    else
     some (Ctl.ret s24.1)) fuel (s16.1,0)).bind fun b19 =>
   ass ((b19++[255]).length≤1073741824) <|
   ass (B64 (s16.2+1)) <|
   some (Ctl.next (b19++[255],s16.2+1))
  else
   some (Ctl.ret s16.1)) fuel ([],0)).bind fun b1 =>
 some (Q1I b1)
theorem Qp {F : Fx} {st st' : St} (m : List (Nat × Nat)) (h : (m.map Prod.fst).Nodup ∧ (m.map Prod.snd).Nodup ∧ (∀ id, id < F.pins → look id m = some id) ∧ (∀ p ∈ m, p.2 < st'.n) ∧ (∀ p ∈ st'.h, p.1 < st'.n) ∧ (∀ p ∈ st'.s, p.2 = rl m (st.get p.1) ∨ p.2 = .bot) ∧ ∀ p ∈ st'.h, hhOk m st.h p.1 p.2 := by simp [hP, hhOk, back, idQ, UA, U1, IA, I1, LA, L1, BA, B1, EA, E1, E2, eB, eI, eL, eM, Cat.cells, SF.cells, XPart.cells, QT _ Qc _ (fun _=>rfl)]) : Wk F st st' := Wk.r1 m h
theorem Q5e {F : Fx} {st st' : St} (m : Nat) (h : ((idQ m).map Prod.fst).Nodup ∧ ((idQ m).map Prod.snd).Nodup ∧ (∀ id, id < F.pins → look id (idQ m) = some id) ∧ (∀ p ∈ (idQ m), p.2 < st'.n) ∧ (∀ p ∈ st'.h, p.1 < st'.n) ∧ (∀ p ∈ st'.s, p.2 = rl (idQ m) (st.get p.1) ∨ p.2 = .bot) ∧ ∀ p ∈ st'.h, hhOk (idQ m) st.h p.1 p.2 := by simp [hP, hhOk, back, idQ, UA, U1, IA, I1, LA, L1, BA, B1, EA, E1, E2, eB, eI, eL, eM, Cat.cells, SF.cells, XPart.cells, QT _ Qc _ (fun _=>rfl)]) : Wk F st st' := Wk.r1 (idQ m) h
@[simp] abbrev Yg (a:List (List Int)) (b:List (Nat × AV)):List (Nat × AV):=(9,.lst true 1 (Ls a))::(10,iV (a.length:Int))::b
@[simp] abbrev YI (a:List Int × Int) (b:List (List Int)) (c:List (Nat × AV)):List (Nat × AV):=(11,iV a.2)::(15,lI (rx b a.2))::(16,iV ((rx b a.2).length:Int))::c
theorem w_i_key [Kd Tryz.prog] (lists_:List (List Int)) (r:ByteArray) (h:Q40 lists_=some r):Contract Tryz.prog 118 [.lst true 1 (Ls lists_)] (.val (.string r)):=by
 refine Qn (rvs:=[.tmp 2]) (rs:=[.val (.string r)]) Tryz.func118 rfl rfl rfl rfl (by simp [Tryz.f118]) fun F hN hP=>?_;unfold Q40 at h;refine Q3 (runQ hN fun K hK=>?_);simp [eM,eL,eI,Q2];repeat refine sdQ ?_
 refine hK _ ?_;clear hK K;refine tn (Qa (st':=⟨[(0,.lst true 1 (Ls lists_))],[],0⟩) (Qp []) (Q3 (runQ hN fun K hK=>?_)));simp [eM,eL,eI,Q2];repeat refine sdQ ?_
 refine hK _ ?_;clear hK K;refine tn (Qa (st':=⟨[(0,.lst true 1 (Ls lists_)),(3,.own 0 0 0)],[(0,.mix 1 [])],1⟩) (Qp [(0,0)]) (Q3 (Q3 (runQ hN fun K hK=>?_))));simp [eM,eL,eI,Q2];repeat refine sdQ ?_
 refine hK _ (tn (Qa (st':=⟨(3,.own 0 0 0)::Yg lists_ [(11,iV 0)],[(0,.mix 1 [])],1⟩) (Qp [(0,0)]) ?_));clear hK K;replace ⟨e1,h,h1⟩:=bind_some h;refine QI (fun b1:List Int=>⟨[(3,.own 0 0 b1.length)],[(0,.row 1 (Us b1))],1⟩) (fun b1=>b1=e1) ?_ ?_
 ·refine Q6 (QR h (fun s16:List Int × Int=>⟨(3,.own 0 0 s16.1.length)::Yg lists_ [(11,iV s16.2)],[(0,.row 1 (Us s16.1))],1⟩) (Q6e ⟨(3,.own 0 0 0)::Yg lists_ [(11,iV 0)],[(0,.row 1 (Us []))],1⟩ (Wk.nils [] (by simp) (by simp) (by simp [nlA]) (by simp [entN,nlL,nlA,UA,U1,IA,I1,LA,L1,BA,B1,EA,E1,E2,eB,eI,eL,eM]) (by simp)) (Qp [(0,0)])) ?_);clear h;intro k16 s16 c16 h hk16;refine Q3 (runQ hN fun K hK=>?_);simp [eM,eL,eI,Q2];repeat refine sdQ ?_
  refine hK _ ?_;clear hK K;refine tn (Q3 (Q7 rfl (fun g=>?_) fun g=>?_))
  ·have g17:s16.2<(lists_.length:Int):=gQ;clear g;replace h:=if_l g17 h;refine Q8 (tn (Q3 (Q6 (Q3 (runQ hN fun K hK=>?_)))));replace ⟨a18,h⟩:=Q5 h;simp [eM,eL,eI,Q2,at_L a18];(repeat refine sdQ ?_);refine hK _ ?_;clear hK K;refine tn (Qa (st':=⟨(3,.own 0 0 s16.1.length)::(5,lI (rx lists_ s16.2))::Yg lists_ [(11,iV s16.2)],[(0,.row 1 (Us s16.1))],1⟩) (Qp [(0,0)]) (Q3 (Q3 (runQ hN fun K hK=>?_))));simp [eM,eL,eI,Q2];(repeat refine sdQ ?_);refine hK _ (tn (Qa (st':=⟨(3,.own 0 0 s16.1.length)::Yg lists_ (YI s16 lists_ [(17,iV 0)]),[(0,.row 1 (Us s16.1))],1⟩) (Qp [(0,0)]) ?_));clear hK K;replace ⟨e19,h,h19⟩:=bind_some h;refine QI (fun b19:List Int=>⟨(3,.own 0 0 b19.length)::Yg lists_ [(11,iV s16.2)],[(0,.row 1 (Us b19))],1⟩) (fun b19=>b19=e19) ?_ ?_
   ·refine Q6 (QR h (fun s24:List Int × Int=>⟨(3,.own 0 0 s24.1.length)::Yg lists_ (YI s16 lists_ [(17,iV s24.2)]),[(0,.row 1 (Us s24.1))],1⟩) (Qp [(0,0)]) ?_);clear h;intro k24 s24 c24 h hk24;refine Q3 (runQ hN fun K hK=>?_);simp [eM,eL,eI,Q2];(repeat refine sdQ ?_);refine hK _ ?_;clear hK K;refine tn (Q3 (Q7 rfl (fun g=>?_) fun g=>?_))
    ·have g25:s24.2<((rx lists_ s16.2).length:Int):=gQ;clear g;replace h:=if_l g25 h;refine Q8 (tn (Q3 (Q6 (Q3 (runQ hN fun K hK=>?_)))));replace ⟨a26,h⟩:=Q5 h;simp [eM,eL,eI,Q2,at_I a26];(repeat refine sdQ ?_);refine hK _ ?_;clear hK K;refine tn (Qa (st':=⟨(3,.own 0 0 s24.1.length)::(7,iV (ix (rx lists_ s16.2) s24.2))::Yg lists_ (YI s16 lists_ [(17,iV s24.2)]),[(0,.row 1 (Us s24.1))],1⟩) (Qp [(0,0)]) (runQ hN fun K hK=>?_));replace ⟨a27,h⟩:=Q5 h;(try simp only [qK,qJ,zD] at a27);simp [eM,eL,eI,Q2,a27];(repeat refine sdQ ?_);refine hK _ ?_;clear hK K;refine bn (tn (Qa (st':=⟨(3,.own 0 0 ((s24.1++[IntKind.u8.wrap (ix (rx lists_ s16.2) s24.2)]).length))::Yg lists_ (YI s16 lists_ [(17,iV s24.2)]),[(0,.row 1 (Us (s24.1++[IntKind.u8.wrap (ix (rx lists_ s16.2) s24.2)])))],1⟩) (Qp [(2,0)]) (runQ hN fun K hK=>?_)));replace ⟨a28,h⟩:=Q5 h;simp [eM,eL,eI,Q2,QB a28];(repeat refine sdQ ?_);refine hK _ ?_;clear hK K;cases h;exact rn (s':=(s24.1++[IntKind.u8.wrap (ix (rx lists_ s16.2) s24.2)],s24.2+1)) hk24 (Qp [(0,0)])
    have g25:¬ (s24.2<((rx lists_ s16.2).length:Int)):=gQ;clear g;replace h:=if_r g25 h;refine Qo (tx (lx (bh ?_)));cases h;exact jn (b:=s24.1) hk24 (Qp [(0,0)])
   intro b19 hb19;have h:=h19;(try rw [← hb19] at h);clear h19;(try dsimp only at h);refine runQ hN fun K hK=>?_;replace ⟨a29,h⟩:=Q5 h;(try simp only [qK,qJ,zD] at a29);simp [eM,eL,eI,Q2,a29];(repeat refine sdQ ?_);refine hK _ ?_;clear hK K;refine bn (tn (Qa (st':=⟨(3,.own 0 0 ((b19++[255]).length))::Yg lists_ [(11,iV s16.2)],[(0,.row 1 (Us (b19++[255])))],1⟩) (Qp [(2,0)]) (runQ hN fun K hK=>?_)));replace ⟨a30,h⟩:=Q5 h;simp [eM,eL,eI,Q2,QB a30];(repeat refine sdQ ?_);refine hK _ ?_;clear hK K;cases h;exact rn (s':=(b19++[255],s16.2+1)) hk16 (Qp [(0,0)])
  have g17:¬ (s16.2<(lists_.length:Int)):=gQ;clear g;replace h:=if_r g17 h;refine Qo (tx (lx (bh ?_)));cases h;exact jn (b:=s16.1) hk16 (Qp [(0,0)])
 intro b1 hb1;have h:=h1;try rw [← hb1] at h
 clear h1;try dsimp only at h
 refine Q3 (Q1R [32] mo (by rw [hN];decide) fun K hK=>?_);simp [eM,eL,eI,Q2];repeat refine sdQ ?_
 refine hK _ (tn (Qa (st':=⟨[(2,.val (.string (Q1I b1)))],[],0⟩) (Qp []) (Qj ?_)));clear hK K;have hr:=zH h;rw [← hr];refine ⟨_,(.tmp .nil),?_⟩;refine ⟨(.one rfl rfl .nil),[.val (.string (Q1I b1))],[],by simp [UA,U1,IA,I1,LA,L1,BA,B1,EA,E1,E2,eB,eI,eL,eM],by simp,(UpL.refl _)⟩
end Go.Vc.T
namespace Go.Vc.T
open Go Go.Vc Go.Proofs
attribute [local simp] unk unA unE unT unC flat
noncomputable def Q2h (list_:List (List Int)):Option (List (ByteArray × Int)) :=
 (QM (σ:=(List (ByteArray × Int)) × Int) (ε:=List (ByteArray × Int)) (fun s7 =>
  if s7.2<(list_.length:Int) then
   ass (0≤s7.2∧s7.2<(list_.length:Int)) <|
   (Q40 [rx list_ s7.2]).bind fun v10 =>
   ass (s7.1.length<1099511627776) <|
   ass (B64 (s7.2+1)) <|
   some (Ctl.next (tset v10 s7.2 s7.1,s7.2+1))
  else
   some (Ctl.ret s7.1)) fuel ([],0)).bind fun b1 =>
 some b1
theorem Qax [Kd Tryz.prog] (list_:List (List Int)) (r:List (ByteArray × Int)) (h:Q2h list_=some r):FContract Tryz.prog false 115 [.lst true 1 (Ls list_)] (.cmap .str (Msi r)):=by
 refine Q3k false (ts:=[2]) (rs:=[.cmap .str (Msi r)]) Tryz.func115 rfl rfl rfl rfl (by simp [Tryz.f115]) fun F hN hP=>?_;unfold Q2h at h;refine Q3 (Q1R [] mo (by rw [hN];decide) fun K hK=>?_);simp [eM,eL,eI,Q2];repeat refine sdQ ?_
 refine hK _ ?_;clear hK K;refine tn (Qa (st':=⟨[(0,.lst true 1 (Ls list_))],[],0⟩) (Qp []) (Q3 (Q1R [] mo (by rw [hN];decide) fun K hK=>?_)));simp [eM,eL,eI,Q2];repeat refine sdQ ?_
 refine hK _ ?_;clear hK K;refine tn (Qa (st':=⟨[(0,.lst true 1 (Ls list_)),(3,.mp 0)],[(0,.mapE .str (Msi []))],1⟩) (Qp [(0,0)]) (Q3 (Q3 (Q1R [] mo (by rw [hN];decide) fun K hK=>?_))));simp [eM,eL,eI,Q2];repeat refine sdQ ?_
 refine hK _ (tn (Qa (st':=⟨[(3,.mp 0),(7,.lst true 1 (Ls list_)),(8,iV (list_.length:Int)),(9,iV 0)],[(0,.mapE .str (Msi []))],1⟩) (Qp [(0,0)]) ?_));clear hK K;replace ⟨e1,h,h1⟩:=bind_some h;refine QI (fun b1:List (ByteArray × Int)=>⟨[(3,.mp 0)],[(0,.mapE .str (Msi b1))],1⟩) (fun b1=>b1=e1) ?_ ?_
 ·refine Q6 (QR h (fun s7:(List (ByteArray × Int)) × Int=>⟨[(3,.mp 0),(7,.lst true 1 (Ls list_)),(8,iV (list_.length:Int)),(9,iV s7.2)],[(0,.mapE .str (Msi s7.1))],1⟩) (Qp [(0,0)]) ?_);clear h;intro k7 s7 c7 h hk7;refine Q3 (Q1R [] mo (by rw [hN];decide) fun K hK=>?_);simp [eM,eL,eI,Q2];repeat refine sdQ ?_
  refine hK _ ?_;clear hK K;refine tn (Q3 (Q7 rfl (fun g=>?_) fun g=>?_))
  ·have g8:s7.2<(list_.length:Int):=gQ;clear g;replace h:=if_l g8 h;refine Q8 (tn (Q3 (Q6 (Q3 (Q1R [] mo (by rw [hN];decide) fun K hK=>?_)))));replace ⟨a9,h⟩:=Q5 h;simp [eM,eL,eI,Q2,at_L a9];(repeat refine sdQ ?_);refine hK _ ?_;clear hK K;refine tn (Qa (st':=⟨[(3,.mp 0),(4,iV s7.2),(5,lI (rx list_ s7.2)),(7,.lst true 1 (Ls list_)),(8,iV (list_.length:Int)),(9,iV s7.2)],[(0,.mapE .str (Msi s7.1))],1⟩) (Qp [(0,0)]) (Q1R [] mo (by rw [hN];decide) fun K hK=>?_));simp [eM,eL,eI,Q2];(repeat with_reducible refine sdQ ?_);replace ⟨v10,hv10,h⟩:=bind_some h;refine Q2m (fz:=[]) (w_i_key _ v10 hv10) (.cons (.lits (es:=_) rfl (.cons rfl (.cons .lst .nil) .nil) rfl) .nil) ?_;replace ⟨a11,h⟩:=Q5 h;simp [eM,eL,eI,Q2,a11];(repeat refine sdQ ?_);refine hK _ ?_;clear hK K;refine bn (tn (Qa (st':=⟨[(3,.mp 0),(7,.lst true 1 (Ls list_)),(8,iV (list_.length:Int)),(9,iV s7.2)],[(0,.mapE .str (Msi (tset v10 s7.2 s7.1)))],1⟩) (Qp [(0,0)]) (Q1R [] mo (by rw [hN];decide) fun K hK=>?_)));replace ⟨a12,h⟩:=Q5 h;simp [eM,eL,eI,Q2,QB a12];(repeat refine sdQ ?_);refine hK _ ?_;clear hK K;cases h;exact rn (s':=(tset v10 s7.2 s7.1,s7.2+1)) hk7 (Qp [(0,0)])
  have g8:¬ (s7.2<(list_.length:Int)):=gQ;clear g;replace h:=if_r g8 h;refine Qo (tx (lx (bh ?_)));cases h;exact jn (b:=s7.1) hk7 (Qp [(0,0)])
 intro b1 hb1;have h:=h1;try rw [← hb1] at h
 clear h1;try dsimp only at h
 refine Q3 (Q1R [] mo (by rw [hN];decide) fun K hK=>?_);simp [eM,eL,eI,Q2];repeat refine sdQ ?_
 refine hK _ (tn (Qa (st':=⟨[(2,.mp 0)],[(0,.mapE .str (Msi b1))],1⟩) (Qp [(0,0)]) (Qj ?_)));clear hK K;have hr:=zH h;rw [← hr];exact (.one (by simp [ownB]) (.mp rfl) .nil)
end Go.Vc.T
namespace Go.Vc.T
open Go Go.Vc Go.Proofs
section
attribute [local simp] Qf QF Qs Q1o QS
theorem Qau {α β:Type} [DecidableEq α] (k k':α) (v:β) (m:List (α × β)):Q2z k (tset k' v m)=if k'=k then some v else Q2z k m:=by
 induction m with
 | nil=>simp [tset,Q2z]
 | cons p r ih =>
  obtain ⟨a,x⟩:=p;unfold tset
  by_cases h:a=k'
  ·subst h;rw [if_pos rfl]
   by_cases h2:a=k<;>simp [Q2z,h2]
  rw [if_neg h];simp only [Q2z,ih]
  by_cases h2:a=k
  ·subst h2;rw [if_pos rfl,if_pos rfl,if_neg (fun e=>h e.symm)]
  rw [if_neg h2,if_neg h2]
theorem tset_len {α β:Type} [DecidableEq α] (k:α) (v:β) (m:List (α × β)):(tset k v m).length≤m.length+1:=by
 induction m with
 | nil=>simp [tset]
 | cons p r ih =>
  obtain ⟨a,x⟩:=p;unfold tset;split<;>simp;exact ih
def plM {α:Type} [DecidableEq α] (k:Nat→α):Nat→List (α × Int)
 | 0=>[]
 | n+1=>tset (k n) (n:Int) (plM k n)
theorem plM_len {α:Type} [DecidableEq α] (k:Nat→α) (n:Nat):(plM k n).length≤n:=by
 induction n with
 | zero=>simp [plM]
 | succ n ih=>exact qL (tset_len _ _ _) (by omega)
theorem plM_find {α:Type} [DecidableEq α] {k:Nat→α} {n:Nat} (h:∀ a b,a<n→b<n→k a=k b→a=b) {j:Nat} (hj:j<n):Q2z (k j) (plM k n)=some (j:Int):=by
 induction n with
 | zero=>omega
 | succ n ih =>
  rw [plM,Qau]
  by_cases e:k n=k j
  ·rw [if_pos e,h n j (by omega) hj e]
  rw [if_neg e];have:j ≠ n:=fun q=>e (by rw [q]);exact ih (fun a b ha hb=>h a b (by omega) (by omega)) (by omega)
theorem Q86 (ns:List Int):(Q1I ns).data.toList=ns.map fun n=>UInt8.ofNat n.toNat:=by
 have:∀ (ns:List Int) (s:ByteArray),(ns.foldl (fun r n=>r.push (UInt8.ofNat n.toNat)) s).data.toList=s.data.toList++ns.map fun n=>UInt8.ofNat n.toNat:=by
  intro ns
  induction ns with
  | nil=>intro s;simp
  | cons n ns ih=>intro s;simp only [List.foldl_cons,ih,List.map_cons];simp [ByteArray.push]
 simpa [Q1I] using this ns ByteArray.empty
theorem Q7B {α β:Type} {f:α→β}:∀ {a b:List α},(∀ x∈a,∀ y∈b,f x=f y→x=y)→a.map f=b.map f→a=b:=by
 intro a
 induction a with
 | nil=>intro b _ h;cases b with|nil=>rfl|cons=>simp at h
 | cons x a ih =>
  intro b hi h;cases b with
  | nil=>simp at h
  | cons y b =>
   simp only [List.map_cons,List.cons.injEq] at h;rw [hi x (by simp) y (by simp) h.1,ih (fun u hu v hv=>hi u (by simp [hu]) v (by simp [hv])) h.2]
theorem Q9G {a b:List Int} (ha:∀ x∈a,0≤x∧x<256) (hb:∀ x∈b,0≤x∧x<256) (h:Q1I a=Q1I b):a=b:=by
 have h1:=congrArg (fun s=>s.data.toList) h;simp only [Q86] at h1;refine Q7B (fun x hx y hy e=>?_) h1;have e2:=congrArg UInt8.toNat e;have p1:=ha x hx;have p2:=hb y hy;simp only [UInt8.toNat_ofNat'] at e2;omega
theorem wrap8 {n:Int} (h0:0≤n) (h1:n<256):IntKind.u8.wrap n=n:=by
 simp [IntKind.wrap,IntKind.signed,IntKind.bits];omega
theorem wrap8_b (n:Int):0≤IntKind.u8.wrap n∧IntKind.u8.wrap n<256:=by
 simp [IntKind.wrap,IntKind.signed,IntKind.bits];omega
def keyB (x:List Int):ByteArray:=Q1I (x.map IntKind.u8.wrap++[255])
theorem keyB_inj {x y:List Int} (hx:∀ a∈x,0≤a∧a<256) (hy:∀ a∈y,0≤a∧a<256) (h:keyB x=keyB y):x=y:=by
 have hw:∀ x:List Int,∀ a∈x.map IntKind.u8.wrap++[255],0≤a∧a<256:=by
  intro x a ha;rcases List.mem_append.1 ha with ha|ha
  ·obtain ⟨b,_,rfl⟩:=List.mem_map.1 ha;exact wrap8_b b
  rw [List.mem_singleton.1 ha];omega
 have h1:=Q9G (hw x) (hw y) h;have h2:=(List.append_inj' h1 rfl).1;refine Q7B (fun a ha b hb e=>?_) h2
 rwa [wrap8 (hx a ha).1 (hx a ha).2,wrap8 (hy b hb).1 (hy b hb).2] at e
structure Keyed (L:List (List Int)):Prop where
 nd:L.Nodup
 sm:∀ x∈L,∀ a∈x,0≤a∧a<256
noncomputable def posL (L:List (List Int)) (x:List Int):Int:=fstN L.length fun i=>rx L i=x
theorem Q46 {L:List (List Int)} {i:Nat} (h:i<L.length):rx L i∈L:=by
 rw [← QV _ _ h];exact zL h
theorem Keyed.inj {L:List (List Int)} (h:Keyed L) {i j:Nat} (hi:i<L.length) (hj:j<L.length) (e:rx L i=rx L j):i=j:=by
 rw [← QV _ _ hi,← QV _ _ hj] at e;rcases Nat.lt_trichotomy i j with q|q|q
 ·exact absurd e (List.pairwise_iff_getElem.1 h.nd i j hi hj q)
 ·exact q
 exact absurd e.symm (List.pairwise_iff_getElem.1 h.nd j i hj hi q)
theorem Keyed.at {L:List (List Int)} (h:Keyed L) {x:List Int} (hx:x∈L):∃ j:Nat,j<L.length∧rx L j=x∧posL L x=j∧Q2z (keyB x) (plM (fun i=>keyB (rx L i)) L.length)=some (j:Int):=by
 obtain ⟨j,hj,rfl⟩:=List.getElem_of_mem hx;refine ⟨j,hj,(QV _ _ hj).symm,?_,?_⟩
 ·unfold posL;rcases Q5g L.length (fun i=>rx L i=L[j]) with ⟨_,h2⟩|⟨k,hk,h2,h3⟩
  ·exact absurd (QV _ _ hj).symm (h2 j hj)
  rw [h3,h.inj hk hj (by rw [h2,QV _ _ hj])]
 have:=plM_find (k:=fun i=>keyB (rx L i)) (n:=L.length) (fun a b ha hb e=>h.inj ha hb (keyB_inj (h.sm _ (Q46 ha)) (h.sm _ (Q46 hb)) e)) hj;rw [QV _ _ hj];exact this
theorem fstN_at {n:Nat} {p:Nat→Prop} {m:Nat} (hm:m<n) (hp:p m) (hlt:∀ k,k<m→¬ p k):fstN n p=(m:Int):=by
 unfold fstN;rw [show ((zG n).find? fun i=>bo (p i))=some m from List.find?_eq_some_iff_getElem.2 ⟨by rw [bo_tt];exact hp,m,by simpa using hm,by simp,fun j hj=>by simp [Q1f (hlt j hj)]⟩];rfl
theorem fstN_no {n:Nat} {p:Nat→Prop} (h:∀ i,i<n→¬ p i):fstN n p = -1:=by
 rcases Q5g n p with ⟨h1,_⟩|⟨k,h1,h2,_⟩
 ·exact h1
 exact absurd h2 (h k h1)
theorem take_rx {L:List (List Int)} {i:Nat} (h:i<L.length):L.take (i+1)=L.take i++[rx L i]:=by rw [zJ h,QV _ _ h]
theorem e_key {x:List Int} (h:x.length≤1000):Q40 [x]=some (keyB x):=by
 unfold Q40 keyB;refine Q1v 1 (fun i=>if i=0 then [] else x.map IntKind.u8.wrap++[255]) (e:=x.map IntKind.u8.wrap++[255]) (by simp) (by omega) (fun i hi=>?_) (by simp) rfl;have:i=0:=by omega
 subst this;have hx:rx [x] ((0:Nat):Int)=x:=by simp [rx]
 simp only [hx];rw [if_pos (by simp),Q4 (by simp)];refine Q1v x.length (fun k=>(x.take k).map IntKind.u8.wrap) (e:=x.map IntKind.u8.wrap) (by simp) (by omega) (fun k hk=>?_) (by simp) ?_
 ·have hs:x.take (k+1)=x.take k++[ix x k]:=by rw [zJ hk,QO _ _ hk]
  simp (disch:=omega) [Q4,B64,hs];try omega
 simp (disch:=omega) [Q4,B64];try omega
noncomputable def plL (L:List (List Int)):List (ByteArray × Int):=plM (fun i=>keyB (rx L i)) L.length
theorem e_places {L:List (List Int)} (hn:L.length<1000000) (hx:∀ x∈L,x.length≤1000):Q2h L=some (plL L):=by
 unfold Q2h plL;refine Q1v L.length (fun i=>plM (fun i=>keyB (rx L i)) i) (e:=plM (fun i=>keyB (rx L i)) L.length) rfl (by omega) (fun i hi=>?_) (by simp) rfl;have h1:=plM_len (fun i:Nat=>keyB (rx L i)) i;simp only;rw [if_pos (by omega),Q4 (by omega),e_key (hx _ (Q46 hi))];simp only [zM];rw [Q4 (by omega),Q4 (by unfold B64;omega)];rfl
end
end Go.Vc.T
namespace Go.Vc.T
open Go Go.Vc Go.Proofs
attribute [local simp] unk unA unE unT unC flat
noncomputable def Q2g (list_:List (List Int)) (i_:Int):Option (List Int) :=
 (QM (σ:=List Int × Int) (ε:=List Int) (fun s7 =>
  if s7.2<(list_.length:Int) then
   ass (0≤s7.2∧s7.2<(list_.length:Int)) <|
   ass (0≤i_∧i_<((rx list_ s7.2).length:Int)) <|
   ass ((s7.1++[ix (rx list_ s7.2) i_]).length≤1073741824) <|
   ass (B64 (s7.2+1)) <|
   some (Ctl.next (s7.1++[ix (rx list_ s7.2) i_],s7.2+1))
  else
   some (Ctl.ret s7.1)) fuel ([],0)).bind fun b1 =>
 some b1
theorem Qaw [Kd Tryz.prog] (list_:List (List Int)) (i_:Int) (r:List Int) (h:Q2g list_ i_=some r):Contract Tryz.prog 116 [.lst true 1 (Ls list_),iV i_] (lI r):=by
 refine Qn (rvs:=[.tmp 4]) (rs:=[lI r]) Tryz.func116 rfl rfl rfl rfl (by simp [Tryz.f116]) fun F hN hP=>?_;unfold Q2g at h;refine Q3 (runQ hN fun K hK=>?_);simp [eM,eL,eI,Q2];repeat refine sdQ ?_
 refine hK _ ?_;clear hK K;refine tn (Qa (st':=⟨[(0,.lst true 1 (Ls list_)),(1,iV i_)],[],0⟩) (Qp []) (Q3 (runQ hN fun K hK=>?_)));simp [eM,eL,eI,Q2];repeat refine sdQ ?_
 refine hK _ ?_;clear hK K;refine tn (Qa (st':=⟨[(0,.lst true 1 (Ls list_)),(1,iV i_),(5,.own 0 0 0)],[(0,.mix 1 [])],1⟩) (Qp [(0,0)]) (Q3 (Q3 (runQ hN fun K hK=>?_))));simp [eM,eL,eI,Q2];repeat refine sdQ ?_
 refine hK _ (tn (Qa (st':=⟨(1,iV i_)::(5,.own 0 0 0)::Yg list_ [(11,iV 0)],[(0,.mix 1 [])],1⟩) (Qp [(0,0)]) ?_));clear hK K;replace ⟨e1,h,h1⟩:=bind_some h;refine QI (fun b1:List Int=>⟨[(5,.own 0 0 b1.length)],[(0,rI b1)],1⟩) (fun b1=>b1=e1) ?_ ?_
 ·refine Q6 (QR h (fun s7:List Int × Int=>⟨(1,iV i_)::(5,.own 0 0 s7.1.length)::Yg list_ [(11,iV s7.2)],[(0,rI s7.1)],1⟩) (Q6e ⟨(1,iV i_)::(5,.own 0 0 0)::Yg list_ [(11,iV 0)],[(0,rI [])],1⟩ (Wk.nils [] (by simp) (by simp) (by simp [nlA]) (by simp [entN,nlL,nlA,UA,U1,IA,I1,LA,L1,BA,B1,EA,E1,E2,eB,eI,eL,eM]) (by simp)) (Qp [(0,0)])) ?_);clear h;intro k7 s7 c7 h hk7;refine Q3 (runQ hN fun K hK=>?_);simp [eM,eL,eI,Q2];repeat refine sdQ ?_
  refine hK _ ?_;clear hK K;refine tn (Q3 (Q7 rfl (fun g=>?_) fun g=>?_))
  ·have g8:s7.2<(list_.length:Int):=gQ;clear g;replace h:=if_l g8 h;refine Q8 (tn (Q3 (Q6 (Q3 (runQ hN fun K hK=>?_)))));replace ⟨a9,h⟩:=Q5 h;simp [eM,eL,eI,Q2,at_L a9];(repeat refine sdQ ?_);refine hK _ ?_;clear hK K;refine tn (Qa (st':=⟨(1,iV i_)::(5,.own 0 0 s7.1.length)::(7,lI (rx list_ s7.2))::Yg list_ [(11,iV s7.2)],[(0,rI s7.1)],1⟩) (Qp [(0,0)]) (runQ hN fun K hK=>?_));replace ⟨a10,h⟩:=Q5 h;replace ⟨a11,h⟩:=Q5 h;(try simp only [qK,qJ,zD] at a11);simp [eM,eL,eI,Q2,at_I a10,a11];(repeat refine sdQ ?_);refine hK _ ?_;clear hK K;refine bn (tn (Qa (st':=⟨(1,iV i_)::(5,.own 0 0 ((s7.1++[ix (rx list_ s7.2) i_]).length))::Yg list_ [(11,iV s7.2)],[(0,rI (s7.1++[ix (rx list_ s7.2) i_]))],1⟩) (Qp [(2,0)]) (runQ hN fun K hK=>?_)));replace ⟨a12,h⟩:=Q5 h;simp [eM,eL,eI,Q2,QB a12];(repeat refine sdQ ?_);refine hK _ ?_;clear hK K;cases h;exact rn (s':=(s7.1++[ix (rx list_ s7.2) i_],s7.2+1)) hk7 (Qp [(0,0)])
  have g8:¬ (s7.2<(list_.length:Int)):=gQ;clear g;replace h:=if_r g8 h;refine Qo (tx (lx (bh ?_)));cases h;exact jn (b:=s7.1) hk7 (Qp [(0,0)])
 intro b1 hb1;have h:=h1;try rw [← hb1] at h
 clear h1;try dsimp only at h
 refine Q3 (runQ hN fun K hK=>?_);simp [eM,eL,eI,Q2];repeat refine sdQ ?_
 refine hK _ (tn (Qa (st':=⟨[(4,.own 0 0 b1.length)],[(0,rI b1)],1⟩) (Qp [(0,0)]) (Qj ?_)));clear hK K;have hr:=zH h;rw [← hr];refine ⟨_,(.tmp .nil),?_⟩;refine ⟨(.one rfl rfl .nil),[lI b1],[0],by simp [UA,U1,IA,I1,LA,L1,BA,B1,EA,E1,E2,eB,eI,eL,eM],by simp,(UpL.refl _)⟩
end Go.Vc.T
namespace Go.Vc.T
open Go Go.Vc Go.Proofs
attribute [local simp] unk unA unE unT unC flat
noncomputable def Q2s (sizes_:List Int):Option Bool :=
 (Q1U sizes_ 17).bind fun v1 =>
 some v1
theorem Q8O [Kd Tryz.prog] (sizes_:List Int) (r:Bool) (h:Q2s sizes_=some r):Contract Tryz.prog 117 [lI sizes_] (.val (.bool r)):=by
 refine Qn (rvs:=[.tmp 2]) (rs:=[.val (.bool r)]) Tryz.func117 rfl rfl rfl rfl (by simp [Tryz.f117]) fun F hN hP=>?_;unfold Q2s at h;refine Q3 (runQ hN fun K hK=>?_);simp [eM,eL,eI,Q2];repeat refine sdQ ?_
 refine hK _ ?_;clear hK K;refine tn (Qa (st':=⟨[(0,lI sizes_)],[],0⟩) (Qp []) (Q3 (runQ hN fun K hK=>?_)));simp [eM,eL,eI,Q2];repeat with_reducible refine sdQ ?_
 replace ⟨v1,hv1,h⟩:=bind_some h;refine Q0 (Q6C _ _ v1 hv1) (.cons .lst (.cons .val .nil)) ?_;simp [eM,eL,eI,Q2];repeat refine sdQ ?_
 refine hK _ (tn (Qa (st':=⟨[(2,.val (.bool v1))],[],0⟩) (Qp []) (Qj ?_)));clear hK K;have hr:=zH h;rw [← hr];refine ⟨_,(.tmp .nil),?_⟩;refine ⟨(.one rfl rfl .nil),[.val (.bool v1)],[],by simp [UA,U1,IA,I1,LA,L1,BA,B1,EA,E1,E2,eB,eI,eL,eM],by simp,(UpL.refl _)⟩
end Go.Vc.T
namespace Go.Vc.T
open Go Go.Vc Go.Proofs
section
attribute [local simp] Qf QF Qs Q1o QS
theorem eoF_tab {α:Type} {f:Int→Option α} {E:Nat→α}:∀ n:Nat,(∀ k:Nat,k<n→f k=some (E k))→eoF f n=some (tab n E):=by
 intro n
 induction n with
 | zero=>intro _;rfl
 | succ n ih=>intro h;rw [eoF,ih fun k hk=>h k (by omega),h n (by omega),Q1X];rfl
theorem gx_tab {α:Type} [Inhabited α] (n:Nat) (g:Nat→α) {i:Nat} (h:i<n):gx (tab n g) i=g i:=by
 rw [gx_nat _ (by simpa using h)];simp [tab]
theorem gx_tabZ {α:Type} [Inhabited α] (n:Nat) (g:Nat→α) {j:Int} (h0:0≤j) (h1:j<n):gx (tab n g) j=g j.toNat:=by
 have e:j=(j.toNat:Int):=(Int.toNat_of_nonneg h0).symm;rw [e,gx_tab n g (by omega)];rfl
theorem set_tab {α:Type} (n:Nat) (g:Nat→α) (i:Nat) (v:α):(tab n g).set i v=tab n fun j=>if j=i then v else g j:=by
 apply List.ext_getElem?;intro j;simp only [tab,List.getElem?_set,List.length_map,List.length_range,List.getElem?_map,List.getElem?_range]
 by_cases h:i=j
 ·subst h
  by_cases h2:i<n<;>simp [h2]
 rw [if_neg h]
 by_cases h2:j<n
 ·simp [h2,Ne.symm h]
 simp [h2]
theorem Q3u {α:Type} {n:Nat} {f g:Nat→α} (h:∀ i,i<n→f i=g i):tab n f=tab n g:=by
 simp only [tab];exact List.map_congr_left fun i hi=>h i (List.mem_range.1 hi)
theorem rep_tab {α:Type} (n:Nat) (x:α):qZ n x=tab n fun _=>x:=by
 induction n with
 | zero=>rfl
 | succ n ih=>rw [Q1X,← ih,List.replicate_succ']
theorem par_step {α:Type} (F:Nat→Nat→α) (n k i:Nat) (h:k<n):(tab n fun j=>tab (if j<k then i+1 else i) (F j)).set k (tab i (F k)++[F k i])=tab n fun j=>tab (if j<k+1 then i+1 else i) (F j):=by
 rw [set_tab];refine Q3u fun j hj=>?_
 by_cases e:j=k
 ·subst e;rw [if_pos rfl,if_pos (by omega),Q1X]
 rw [if_neg e]
 by_cases e2:j<k
 ·rw [if_pos e2,if_pos (by omega)]
 rw [if_neg e2,if_neg (by omega)]
theorem e_colI {L:List (List Int)} {k:Int} (hn:L.length<1000000) (h0:0≤k) (hx:∀ x∈L,k<x.length):Q2g L k=some (L.map (ix · k)):=by
 unfold Q2g;refine Q1v L.length (fun i=>(L.take i).map (ix · k)) (e:=L.map (ix · k)) (by simp) (by omega) (fun i hi=>?_) (by simp) rfl;have h1:=hx _ (Q46 hi);have h2:=take_rx hi;simp (disch:=omega) [Q4,B64,h2];try omega
def sf0:SF:=⟨⟨0,[],[],[],[]⟩,[],[]⟩
noncomputable def tupG (list_:List SF) (at_:Int→Option (List (List Int))):Option (SF × List (List (List Int)) × Bool) :=
 ass ((0:Int)≤0∧0<(list_.length:Int)) <|
 ass (0≤(gx list_ 0).s.n∧(gx list_ 0).s.n≤1073741824) <|
 ass (0≤(gx list_ 0).s.n∧(gx list_ 0).s.n≤1073741824) <|
 ass ((qZ (((gx list_ 0).s.n).toNat) ([]:List (List Int))).length=(((gx list_ 0).s.n).toNat)) <|
 (eoF at_ (((gx list_ 0).s.n).toNat)).bind fun v3 =>
 ass (v3.length=(qZ (((gx list_ 0).s.n).toNat) ([]:List (List Int))).length) <|
 (Q15 ((gx list_ 0).s)).bind fun v7 =>
 ass (0≤(list_.length:Int)∧(list_.length:Int)≤1073741824) <|
 (QM (σ:=List Int × List (List (List Int)) × (List (List (ByteArray × Int))) × Int) (ε:=List Int × List (List (List Int)) × (List (List (ByteArray × Int)))) (fun s30 =>
  if s30.2.2.2<(v3.length:Int) then
   (
    ass (0≤s30.2.2.2∧s30.2.2.2<(v3.length:Int)) <|
    ass ((s30.1++[((gx v3 s30.2.2.2).length:Int)]).length≤1073741824) <|
    (Q2h (gx v3 s30.2.2.2)).bind fun v35 =>
    ass ((s30.2.2.1++[v35]).length≤1073741824) <|
    (QM (σ:=List (List (List Int)) × Int) (ε:=List (List (List Int)) × (List (List (ByteArray × Int)))) (fun s43 =>
     if s43.2<(list_.length:Int) then
      ass (0≤s43.2∧s43.2<(s43.1.length:Int)) <|
      (Q2g (gx v3 s30.2.2.2) s43.2).bind fun v46 =>
      ass (((gx s43.1 s43.2)++[v46]).length≤1073741824) <|
      ass (0≤s43.2∧s43.2<(s43.1.length:Int)) <|
      ass (B64 (s43.2+1)) <|
      some (Ctl.next (s43.1.set s43.2.toNat ((gx s43.1 s43.2)++[v46]),s43.2+1))
     else
      some (Ctl.ret (s43.1,s30.2.2.1++[v35]))) fuel (s30.2.1,0)).bind fun p43 =>
    some p43:Option (List (List (List Int)) × (List (List (ByteArray × Int))))).bind fun b32 =>
   ass (B64 (s30.2.2.2+1)) <|
   some (Ctl.next (s30.1++[((gx v3 s30.2.2.2).length:Int)],b32.1,b32.2,s30.2.2.2+1))
  else
   some (Ctl.ret (s30.1,s30.2.1,s30.2.2.1))) fuel ([],qZ ((list_.length:Int).toNat) ([]:List (List Int)),[],0)).bind fun b9 =>
 (Q2s b9.1).bind fun v51 =>
 if ¬ (v51=true) then
  some ((⟨(⟨0,[],[],[],[]⟩:Cat),[],[]⟩:SF),[],false)
 else
  (QM (σ:=List (List Int) × Int) (ε:=List (List Int)) (fun s107 =>
   if s107.2<(((gx list_ 0).s.fr).length:Int) then
    ass (0≤s107.2∧s107.2<(((gx list_ 0).s.fr).length:Int)) <|
    ass (0≤ix ((gx list_ 0).s.fr) s107.2∧ix ((gx list_ 0).s.fr) s107.2<(v3.length:Int)) <|
    (QM (σ:=List Int × Int) (ε:=List Int) (fun s135 =>
     if s135.2<((gx v3 (ix ((gx list_ 0).s.fr) s107.2)).length:Int) then
      ass (0≤s135.2∧s135.2<((gx v3 (ix ((gx list_ 0).s.fr) s107.2)).length:Int)) <|
      (QM (σ:=List Int × Int) (ε:=List Int) (fun s146 =>
       if s146.2<((rx (gx v3 (ix ((gx list_ 0).s.fr) s107.2)) s135.2).length:Int) then
        ass (0≤s146.2∧s146.2<((rx (gx v3 (ix ((gx list_ 0).s.fr) s107.2)) s135.2).length:Int)) <|
        ass (0≤s146.2∧s146.2<(list_.length:Int)) <|
        ass (0≤s107.2∧s107.2<(((gx list_ s146.2).ac).length:Int)) <|
        ass (0≤ix (rx (gx v3 (ix ((gx list_ 0).s.fr) s107.2)) s135.2) s146.2∧ix (rx (gx v3 (ix ((gx list_ 0).s.fr) s107.2)) s135.2) s146.2<((rx ((gx list_ s146.2).ac) s107.2).length:Int)) <|
        ass ((s146.1++[ix (rx ((gx list_ s146.2).ac) s107.2) (ix (rx (gx v3 (ix ((gx list_ 0).s.fr) s107.2)) s135.2) s146.2)]).length≤1073741824) <|
        ass (B64 (s146.2+1)) <|
        some (Ctl.next (s146.1++[ix (rx ((gx list_ s146.2).ac) s107.2) (ix (rx (gx v3 (ix ((gx list_ 0).s.fr) s107.2)) s135.2) s146.2)],s146.2+1))
       else
        some (Ctl.ret s146.1)) fuel ([],0)).bind fun b138 =>
      ass (0≤s107.2∧s107.2<(((gx list_ 0).s.to).length:Int)) <|
      ass (0≤ix ((gx list_ 0).s.to) s107.2∧ix ((gx list_ 0).s.to) s107.2<(b9.2.2.length:Int)) <|
      (Q40 [b138]).bind fun v156 =>
      ass ((s135.1++[(Q2z v156 (gx b9.2.2 (ix ((gx list_ 0).s.to) s107.2))).getD 0]).length≤1073741824) <|
      ass (B64 (s135.2+1)) <|
      some (Ctl.next (s135.1++[(Q2z v156 (gx b9.2.2 (ix ((gx list_ 0).s.to) s107.2))).getD 0],s135.2+1))
     else
      some (Ctl.ret s135.1)) fuel ([],0)).bind fun b111 =>
    ass ((s107.1++[b111]).length≤1073741824) <|
    ass (B64 (s107.2+1)) <|
    some (Ctl.next (s107.1++[b111],s107.2+1))
   else
    some (Ctl.ret s107.1)) fuel ([],0)).bind fun b53 =>
  some ((⟨v7,b9.1,b53⟩:SF),b9.2.1,true)
def mvT (L:List SF) (a:Nat) (t:List Int):List Int:=tab L.length fun i:Nat=>ix (rx (gx L i).ac a) (ix t i)
structure TupP (L:List SF) (c:Cat) (E:Nat→List (List Int)):Prop where
 l0:0<L.length
 l2:L.length≤2
 sh:∀ i:Nat,i<L.length→(gx L i).Sh∧(gx L i).s=c
 len:∀ x:Nat,(x:Int)<c.n→(E x).length≤1000
 key:∀ x:Nat,(x:Int)<c.n→Keyed (E x)
 row:∀ x:Nat,(x:Int)<c.n→∀ t∈E x,t.length=L.length∧∀ i:Nat,i<L.length→0≤ix t i∧ix t i<ix (gx L i).sz x
 cl:∀ a:Nat,a<c.fr.length→∀ t∈E (ix c.fr a).toNat,mvT L a t∈E (ix c.to a).toNat
def tupZ (c:Cat) (E:Nat→List (List Int)):List Int:=tab c.n.toNat fun x=>((E x).length:Int)
def tupR (L:List SF) (c:Cat) (E:Nat→List (List Int)):List (List (List Int)):=tab L.length fun i:Nat=>tab c.n.toNat fun x=>(E x).map fun t=>ix t i
noncomputable def tupA (L:List SF) (c:Cat) (E:Nat→List (List Int)):List (List Int):=tab c.fr.length fun a=>(E (ix c.fr a).toNat).map fun t=>posL (E (ix c.to a).toNat) (mvT L a t)
theorem TupP.cat {L:List SF} {c:Cat} {E:Nat→List (List Int)} (h:TupP L c E):c.Is∧(c.n.toNat:Int)=c.n∧c.n.toNat≤8∧c.fr.length≤40∧c.to.length=c.fr.length∧∀ a:Nat,a<c.fr.length→(0≤ix c.fr a∧ix c.fr a<c.n)∧(0≤ix c.to a∧ix c.to a<c.n):=by
 obtain ⟨h1,h2⟩:=h.sh 0 h.l0;have hC:c.Is:=h2 ▸ h1.cat;have n8:=hC.1.n8;have m40:=hC.1.m40;have li:=hC.1.li;have lt:=hC.1.lt;refine ⟨hC,by omega,by omega,by omega,by omega,fun a ha=>?_⟩;obtain ⟨q1,q2⟩:=hC.1.frn ha;omega
theorem e_tupG {L:List SF} {c:Cat} {E:Nat→List (List Int)} (h:TupP L c E) {at_:Int→Option (List (List Int))} (hat:∀ x:Nat,(x:Int)<c.n→at_ x=some (E x)):tupG L at_=some (if (tupZ c E).all (inR 17)=true then (⟨c,tupZ c E,tupA L c E⟩,tupR L c E,true) else (sf0,[],false)):=by
 obtain ⟨hC,hN,hN8,hM,hT,hft⟩:=h.cat;have f0:(gx L 0).s=c:=by simpa using (h.sh 0 h.l0).2
 have l0:=h.l0;have l2:=h.l2;generalize hn:c.n.toNat=N at hN hN8;unfold tupG;rw [f0,hn];rw [Q4 (by omega),Q4 (by omega),Q4 (by omega),Q4 (by simp),eoF_tab N fun k hk=>hat k (by omega)];simp only [zM];rw [Q4 (by simp)];unfold Q15;rw [Q4 hC.1.size2.1];simp only [zM];rw [Q4 (by omega)];refine run_bind N (fun i:Nat=>(tab i (fun x=>((E x).length:Int)),tab L.length (fun j:Nat=>tab i fun x=>(E x).map fun t=>ix t j),tab i (fun x=>plL (E x)),(i:Int))) (e:=(tupZ c E,tupR L c E,tab N fun x=>plL (E x))) ?_ (by omega) (fun i hi=>?_) (by simp [tupZ,tupR,hn]) ?_
 ·simp [rep_tab,Q9y]
 ·have hE:=h.len i (by omega);have hrow:=h.row i (by omega);simp only;rw [if_pos (by simp;omega),Q4 (by simp;omega),Q4 (by simp;omega),gx_tab N E hi,e_places (by omega) (fun x hx=>by have:=(hrow x hx).1;omega)];simp only [zM];rw [Q4 (by simp;omega),Option.bind_assoc];refine Q1v L.length (fun k=>tab L.length (fun j:Nat=>tab (if j<k then i+1 else i) fun x=>(E x).map fun t=>ix t j)) (e:=(tab L.length (fun j:Nat=>tab (i+1) fun x=>(E x).map fun t=>ix t j),tab i (fun x=>plL (E x))++[plL (E i)])) (by simp) (by omega) (fun k hk=>?_) ?_ ?_
  ·have hg:gx (tab L.length (fun j:Nat=>tab (if j<k then i+1 else i) fun x=>(E x).map fun t=>ix t j)) (k:Int)=tab i fun x=>(E x).map fun t=>ix t k:=by
    rw [gx_tab _ _ hk,if_neg (by omega)]
   simp only;rw [if_pos (by omega),Q4 (by simp;omega),e_colI (by omega) (by omega) (fun x hx=>by have:=(hrow x hx).1;omega)];simp only [zM,hg];rw [Q4 (by simp;omega),Q4 (by simp;omega),Q4 (by unfold B64;omega)];have:=par_step (fun j x=>(E x).map fun t=>ix t j) L.length k i hk;rw [Int.toNat_natCast,this]
  ·simp only;rw [if_neg (by omega)]
   congr 3
   exact Q3u fun j hj=>by rw [if_pos hj]
  simp only [zM];rw [Q4 (by unfold B64;omega),Q1X,Q1X];rfl
 simp only;unfold Q2s Q1U;rw [Q4 (by unfold B64;omega)];simp only [zM]
 by_cases hf:(tupZ c E).all (inR 17)=true
 case neg=>rw [if_pos hf,if_neg hf];rfl
 rw [if_neg (fun q=>q hf),if_pos hf];refine Q1v c.fr.length (fun a=>tab a fun a=>(E (ix c.fr a).toNat).map fun t=>posL (E (ix c.to a).toNat) (mvT L a t)) (e:=tupA L c E) rfl (by omega) (fun a ha=>?_) (by simp [tupA]) rfl;obtain ⟨q1,q2⟩:=hft a ha;have hEf:=h.len (ix c.fr a).toNat (by omega);have hrow:=h.row (ix c.fr a).toNat (by omega);have hcl:=h.cl a ha;have hkey:=h.key (ix c.to a).toNat (by omega);have hgE:gx (tab N E) (ix c.fr a)=E (ix c.fr a).toNat:=gx_tabZ N E (by omega) (by omega);have hgP:gx (tab N fun x=>plL (E x)) (ix c.to a)=plL (E (ix c.to a).toNat):=gx_tabZ N _ (by omega) (by omega);simp only [hgE];rw [if_pos (by omega),Q4 (by omega),Q4 (by simp;omega)];generalize hEE:E (ix c.fr a).toNat=T at hEf hrow hcl;refine Q1v T.length (fun k=>(T.take k).map fun t=>posL (E (ix c.to a).toNat) (mvT L a t)) (e:=T.map fun t=>posL (E (ix c.to a).toNat) (mvT L a t)) (by simp) (by omega) (fun k hk=>?_) (by simp) ?_
 ·have ht:=Q46 hk;obtain ⟨r1,r2⟩:=hrow _ ht;have hin:=hcl _ ht;obtain ⟨j,hj,hj2,hj3,hj4⟩:=hkey.at hin;simp only;rw [if_pos (by omega),Q4 (by omega)];refine Q1v (rx T k).length (fun i=>tab i fun i:Nat=>ix (rx (gx L i).ac a) (ix (rx T k) i)) (e:=mvT L a (rx T k)) rfl (by omega) (fun i hi=>?_) (by simp [mvT,r1]) ?_
  ·obtain ⟨s1,s2⟩:=h.sh i (by omega);have hla:=s1.la;have hac:=(s1.act a (by rw [hla,s2];exact ha)).1;have hb:=r2 i (by omega);rw [s2] at hla hac;have e1:((ix c.fr a).toNat:Int)=ix c.fr a:=Int.toNat_of_nonneg q1.1;rw [e1] at hb;simp only;rw [if_pos (by omega),Q4 (by omega),Q4 (by omega),Q4 (by omega),Q4 (by omega),Q4 (by simp;omega),Q4 (by unfold B64;omega),Q1X]
  simp only [hgP];rw [Q4 (by omega),Q4 (by simp;omega),e_key (by simp [mvT];omega)];simp only [zM];have hfind:(Q2z (keyB (mvT L a (rx T k))) (plL (E (ix c.to a).toNat))).getD 0=posL (E (ix c.to a).toNat) (mvT L a (rx T k)):=by
   rw [hj3];unfold plL;rw [hj4];rfl
  rw [hfind,Q4 (by simp;omega),Q4 (by unfold B64;omega),take_rx hk,List.map_append];rfl
 rw [Q4 (by simp;omega),Q4 (by unfold B64;omega),Q1X,hEE]
end
end Go.Vc.T
namespace Go.Vc.T
open Go Go.Vc Go.Proofs
section
attribute [local simp] Qf QF Qs Q1o QS
theorem rx_tab (n:Nat) (g:Nat→List Int) {i:Nat} (h:i<n):rx (tab n g) i=g i:=by
 rw [← QV _ _ (show i<(tab n g).length by simpa using h)];simp [tab]
end
end Go.Vc.T
namespace Go.Vc.T
open Go Go.Vc Go.Proofs
section
attribute [local simp] Qf QF Qs Q1o QS
theorem sf0_ok:(sf0.ok∧sf0.size≤10000):=by simp [sf0,SF.ok,SF.size,Cat.ok,Cat.size,sumL]
theorem nil_ok:((([]:List (List Int)).length≤1048576∧∀ x∈([]:List (List Int)),x.length≤1048576)∧sumL ([]:List (List Int))≤10000):=by simp [sumL]
end
end Go.Vc.T
namespace Go.Vc.T
open Go Go.Vc Go.Proofs
attribute [local simp] unk unA unE unT unC flat
noncomputable def Q23 (list_:List Int) (n_:Int):Option Int :=
 (QM (σ:=Int) (ε:=Unit ⊕ Int) (fun s6 =>
  if s6<(list_.length:Int) then
   ass (0≤s6∧s6<(list_.length:Int)) <|
   if (ix list_ s6)=n_ then
    some (Ctl.ret (Sum.inr s6))
   else
    ass (B64 (s6+1)) <|
    some (Ctl.next (s6+1))
  else
   some (Ctl.ret (Sum.inl ()))) fuel 0).bind fun e1 =>
 match e1 with
 | .inl b1 =>
  some (-1)
 | .inr p1 =>
  some p1
theorem Q7Y [Kd Tryz.prog] (list_:List Int) (n_:Int) (r:Int) (h:Q23 list_ n_=some r):Contract Tryz.prog 67 [lI list_,iV n_] (iV r):=by
 refine Qn (rvs:=[.tmp 4]) (rs:=[iV r]) Tryz.func67 rfl rfl rfl rfl (by simp [Tryz.f67]) fun F hN hP=>?_;unfold Q23 at h;refine Q3 (runQ hN fun K hK=>?_);simp [eM,eL,eI,Q2];repeat refine sdQ ?_
 refine hK _ ?_;clear hK K;refine tn (Qa (st':=⟨[(0,lI list_),(1,iV n_)],[],0⟩) (Qp []) (Q3 (Q3 (runQ hN fun K hK=>?_))));simp [eM,eL,eI,Q2];repeat refine sdQ ?_
 refine hK _ (tn (Qa (st':=⟨[(0,lI list_),(1,iV n_),(5,iV 0)],[],0⟩) (Qp []) ?_));clear hK K;replace ⟨e1,h,h1⟩:=bind_some h;refine QI (fun b1:Unit=>⟨[],[],0⟩) (fun b1=>Sum.inl b1=e1) ?_ ?_
 ·refine Q6 (QR h (fun s6:Int=>⟨[(0,lI list_),(1,iV n_),(5,iV s6)],[],0⟩) (Qp []) ?_);clear h;intro k6 s6 c6 h hk6;refine Q3 (Q3 (runQ hN fun K hK=>?_));simp [eM,eL,eI,Q2];repeat refine sdQ ?_
  refine hK _ ?_;clear hK K;refine tn (Q7 rfl (fun g=>?_) fun g=>?_)
  ·have g7:s6<(list_.length:Int):=gQ;clear g;replace h:=if_l g7 h;refine Q8 (tn (Q3 (Q6 (Q3 (runQ hN fun K hK=>?_)))));replace ⟨a8,h⟩:=Q5 h;simp [eM,eL,eI,Q2,at_I a8];(repeat refine sdQ ?_);refine hK _ ?_;clear hK K;refine tn (Q7 rfl (fun g=>?_) fun g=>?_)
   ·have g9:(ix list_ s6)=n_:=gQ;clear g;replace h:=if_l g9 h;refine Q3 (runQ hN fun K hK=>?_);simp [eM,eL,eI,Q2];(repeat refine sdQ ?_);refine hK _ (tn (Qa (st':=⟨[(4,iV s6)],[],0⟩) (Qp []) (Qj (br (tr (lr (br (tr ?_))))))));clear hK K;cases h;have q:_=e1:=hk6;have h:=h1;rw [← q] at h;clear q;(try dsimp only at h);have hr:=zH h;rw [← hr];refine ⟨_,(.tmp .nil),?_⟩;refine ⟨(.one rfl rfl .nil),[iV s6],[],by simp [UA,U1,IA,I1,LA,L1,BA,B1,EA,E1,E2,eB,eI,eL,eM],by simp,(UpL.refl _)⟩
   have g9:¬ ((ix list_ s6)=n_):=gQ;clear g;replace h:=if_r g9 h;refine Q8 (bn (tn (runQ hN fun K hK=>?_)));replace ⟨a10,h⟩:=Q5 h;simp [eM,eL,eI,Q2,QB a10];(repeat refine sdQ ?_);refine hK _ ?_;clear hK K;cases h;exact rn (s':=s6+1) hk6 (Qp [])
  have g7:¬ (s6<(list_.length:Int)):=gQ;clear g;replace h:=if_r g7 h;refine Qo (tx (lx (bh ?_)));cases h;exact jn (b:=()) hk6 (Qp [])
 intro b1 hb1;have h:=h1;try rw [← hb1] at h
 clear h1;try dsimp only at h
 refine Q3 (runQ hN fun K hK=>?_);simp [eM,eL,eI,Q2];repeat refine sdQ ?_
 refine hK _ (tn (Qa (st':=⟨[(4,iV (-1))],[],0⟩) (Qp []) (Qj ?_)));clear hK K;have hr:=zH h;rw [← hr];refine ⟨_,(.tmp .nil),?_⟩;refine ⟨(.one rfl rfl .nil),[iV (-1)],[],by simp [UA,U1,IA,I1,LA,L1,BA,B1,EA,E1,E2,eB,eI,eL,eM],by simp,(UpL.refl _)⟩
end Go.Vc.T
namespace Go.Vc.T
open Go Go.Vc Go.Proofs
attribute [local simp] unk unA unE unT unC flat
noncomputable def Q1N (f_:SF) (members_:List (List Int)):Option SF :=
 (Q3F f_.s).bind fun v1 =>
 (QM (σ:=List Int × Int) (ε:=List Int) (fun s7 =>
  if s7.2<(members_.length:Int) then
   ass (0≤s7.2∧s7.2<(members_.length:Int)) <|
   ass ((s7.1++[((rx members_ s7.2).length:Int)]).length≤1073741824) <|
   ass (B64 (s7.2+1)) <|
   some (Ctl.next (s7.1++[((rx members_ s7.2).length:Int)],s7.2+1))
  else
   some (Ctl.ret s7.1)) fuel ([],0)).bind fun b2 =>
 (QM (σ:=List (List Int) × Int) (ε:=List (List Int)) (fun s40 =>
  if s40.2<(f_.ac.length:Int) then
   ass (0≤s40.2∧s40.2<(f_.s.fr.length:Int)) <|
   ass (0≤s40.2∧s40.2<(f_.s.to.length:Int)) <|
   (QM (σ:=List Int × Int) (ε:=List Int) (fun s55 =>
    ass (0≤ix f_.s.fr s40.2∧ix f_.s.fr s40.2<(members_.length:Int)) <|
    if s55.2<((rx members_ (ix f_.s.fr s40.2)).length:Int) then
     ass (0≤ix f_.s.to s40.2∧ix f_.s.to s40.2<(members_.length:Int)) <|
     ass (0≤s40.2∧s40.2<(f_.ac.length:Int)) <|
     ass (0≤ix f_.s.fr s40.2∧ix f_.s.fr s40.2<(members_.length:Int)) <|
     ass (0≤s55.2∧s55.2<((rx members_ (ix f_.s.fr s40.2)).length:Int)) <|
     ass (0≤ix (rx members_ (ix f_.s.fr s40.2)) s55.2∧ix (rx members_ (ix f_.s.fr s40.2)) s55.2<((rx f_.ac s40.2).length:Int)) <|
     (Q23 (rx members_ (ix f_.s.to s40.2)) (ix (rx f_.ac s40.2) (ix (rx members_ (ix f_.s.fr s40.2)) s55.2))).bind fun v63 =>
     ass ((s55.1++[v63]).length≤1073741824) <|
     ass (B64 (s55.2+1)) <|
     some (Ctl.next (s55.1++[v63],s55.2+1))
    else
     some (Ctl.ret s55.1)) fuel ([],0)).bind fun b44 =>
   ass ((s40.1++[b44]).length≤1073741824) <|
   ass (B64 (s40.2+1)) <|
   some (Ctl.next (s40.1++[b44],s40.2+1))
  else
   some (Ctl.ret s40.1)) fuel ([],0)).bind fun b12 =>
 some (⟨v1,b2,b12⟩:SF)
@[simp] abbrev YK (a:Cat) (b:List (AV)):List (AV):=iV a.n::.own 3 0 a.fr.length::.own 4 0 a.to.length::.own 5 0 a.id.length::.own 6 0 a.cs.length::b
@[simp] abbrev YP (a:List (AV)):List (AV):=iV 0::nS::nS::nS::nS::nS::nS::a
@[simp] abbrev Y3 (a:SF) (b:Cat) (c:List Int) (d:List (List Int) × Int) (e:List (Nat × Ent)):List (Nat × Ent):=(0,.mix 7 [(SF.cells true a)])::(1,.mix 7 [(YP [])])::(2,.mix 7 [(YK b [.own 7 0 c.length,.own 8 0 d.1.length])])::(3,rI b.fr)::(4,rI b.to)::(5,rI b.id)::(6,.row 1 (Ls b.cs))::(7,rI c)::(8,.row 1 (Ls d.1))::e
@[simp] abbrev Y5 (a:List (Nat × Ent)):List (Nat × Ent):=(0,.mix 7 [(YP [])])::a
@[simp] abbrev Ya (a:List (List Int)) (b:List (Nat × AV)):List (Nat × AV):=(1,.lst true 1 (Ls a))::(2,.adr 0 0 0)::(4,.adr 1 0 0)::(5,.adr 2 0 0)::b
@[simp] abbrev Yc (a:SF) (b:List (Nat × Ent)):List (Nat × Ent):=(0,.mix 7 [(SF.cells true a)])::(1,.mix 7 [(YP [])])::b
@[simp] abbrev Yi (a:Cat) (b:List (Nat × Ent)):List (Nat × Ent):=(3,rI a.fr)::(4,rI a.to)::(5,rI a.id)::(6,.row 1 (Ls a.cs))::b
@[simp] abbrev Yp (a:List (List Int)) (b:List (Nat × AV)):List (Nat × AV):=(1,.lst true 1 (Ls a))::(2,.adr 0 0 0)::b
@[simp] abbrev Yw (a:List (List Int) × Int) (b:SF) (c:List (Nat × AV)):List (Nat × AV):=(7,iV a.2)::(8,iV (ix b.s.fr a.2))::(9,iV (ix b.s.to a.2))::c
theorem Q72 [Kd Tryz.prog] (f_:SF) (members_:List (List Int)) (r:SF) (h:Q1N f_ members_=some r):Contract Tryz.prog 42 [.agg (f_.cells true),.lst true 1 (Ls members_)] (.agg (r.cells true)):=by
 refine Qn (rvs:=[.cell 4 34]) (rs:=[.agg (r.cells true)]) Tryz.func42 rfl rfl rfl rfl (by simp [Tryz.f42]) fun F hN hP=>?_;unfold Q1N at h;refine Q3 (runQ hN fun K hK=>?_);simp [eM,eL,eI,Q2,Qq,Qg,Cat.cells,SF.cells];repeat refine sdQ ?_
 refine hK _ ?_;clear hK K;refine tn (Qa (st':=⟨Yp members_ [(4,.adr 1 0 0)],Yc f_ [],2⟩) (Qp [(0,0),(1,1)]) (Q3 (runQ hN fun K hK=>?_)));simp [eM,eL,eI,Q2,Qq,Qg,Cat.cells,SF.cells];repeat with_reducible refine sdQ ?_
 replace ⟨v1,hv1,h⟩:=bind_some h;refine Q0 (QaC _ v1 hv1) (.cons (.aggL (.cons .val (.cons .lst (.cons .lst (.cons .lst (.cons .lst .nil)))))) .nil) ?_;simp [eM,eL,eI,Q2,Qq,Qg,Cat.cells,SF.cells];repeat refine sdQ ?_
 refine hK _ ?_;clear hK K;refine tn (Qa (st':=⟨Ya members_ [],Yc f_ ((2,.mix 7 [(YK v1 [nS,nS])])::Yi v1 []),7⟩) (Qp [(0,0),(1,1),(7,2),(3,3),(4,4),(5,5),(6,6)]) (Q3 (Q3 (runQ hN fun K hK=>?_))));simp [eM,eL,eI,Q2,Qq,Qg,Cat.cells,SF.cells];repeat refine sdQ ?_
 refine hK _ (tn (Qa (st':=⟨Ya members_ [(6,iV 0)],Yc f_ ((2,.mix 7 [(YK v1 [nS,nS])])::Yi v1 []),7⟩) (Q5e 7) ?_));clear hK K;replace ⟨e2,h,h2⟩:=bind_some h;refine QI (fun b2:List Int=>⟨Ya members_ [],Yc f_ ((2,.mix 7 [(YK v1 [.own 7 0 b2.length,nS])])::Yi v1 [(7,rI b2)]),8⟩) (fun b2=>b2=e2) ?_ ?_
 ·refine Q6 (QR h (fun s7:List Int × Int=>⟨Ya members_ [(6,iV s7.2)],Yc f_ ((2,.mix 7 [(YK v1 [.own 7 0 s7.1.length,nS])])::Yi v1 [(7,rI s7.1)]),8⟩) (Q6e ⟨Ya members_ [(6,iV 0)],Yc f_ ((2,.mix 7 [(YK v1 [.own 7 0 0,nS])])::Yi v1 [(7,rI [])]),8⟩ (Wk.nils [(7,1)] (by simp) (by simp) (by simp [nlA]) (by simp [entN,nlL,nlA,Cat.cells,SF.cells,UA,U1,IA,I1,LA,L1,BA,B1,EA,E1,E2,eB,eI,eL,eM]) (by simp)) (Q5e 8)) ?_);clear h;intro k7 s7 c7 h hk7;refine Q3 (Q3 (runQ hN fun K hK=>?_));simp [eM,eL,eI,Q2,Qq,Qg,Cat.cells,SF.cells];repeat refine sdQ ?_
  refine hK _ ?_;clear hK K;refine tn (Q7 rfl (fun g=>?_) fun g=>?_)
  ·have g8:s7.2<(members_.length:Int):=gQ;clear g;replace h:=if_l g8 h;refine Q8 (tn (Q3 (Q6 (runQ hN fun K hK=>?_))));replace ⟨a9,h⟩:=Q5 h;replace ⟨a10,h⟩:=Q5 h;(try simp only [qK,qJ,zD] at a10);simp [eM,eL,eI,Q2,Qq,Qg,Cat.cells,SF.cells,at_L a9,a10];(repeat refine sdQ ?_);refine hK _ ?_;clear hK K;refine bn (tn (Qa (st':=⟨Ya members_ [(6,iV s7.2)],Yc f_ ((2,.mix 7 [(YK v1 [.own 7 0 ((s7.1++[((rx members_ s7.2).length:Int)]).length),nS])])::Yi v1 [(7,rI (s7.1++[((rx members_ s7.2).length:Int)]))]),8⟩) (Qp [(0,0),(1,1),(2,2),(3,3),(4,4),(5,5),(6,6),(9,7)]) (runQ hN fun K hK=>?_)));replace ⟨a11,h⟩:=Q5 h;simp [eM,eL,eI,Q2,Qq,Qg,Cat.cells,SF.cells,QB a11];(repeat refine sdQ ?_);refine hK _ ?_;clear hK K;cases h;exact rn (s':=(s7.1++[((rx members_ s7.2).length:Int)],s7.2+1)) hk7 (Q5e 8)
  have g8:¬ (s7.2<(members_.length:Int)):=gQ;clear g;replace h:=if_r g8 h;refine Qo (tx (lx (bh ?_)));cases h;exact jn (b:=s7.1) hk7 (Q5e 8)
 intro b2 hb2;have h:=h2;try rw [← hb2] at h
 clear h2;try dsimp only at h
 refine Q3 (Q3 (runQ hN fun K hK=>?_));simp [eM,eL,eI,Q2,Qq,Qg,Cat.cells,SF.cells];repeat refine sdQ ?_
 refine hK _ (tn (Qa (st':=⟨Ya members_ [(7,iV 0)],Yc f_ ((2,.mix 7 [(YK v1 [.own 7 0 b2.length,nS])])::Yi v1 [(7,rI b2)]),8⟩) (Q5e 8) ?_));clear hK K;replace ⟨e12,h,h12⟩:=bind_some h;refine QI (fun b12:List (List Int)=>⟨[(4,.adr 0 0 0),(5,.adr 1 0 0)],Y5 [(1,.mix 7 [[iV v1.n,.own 2 0 v1.fr.length,.own 3 0 v1.to.length,.own 4 0 v1.id.length,.own 5 0 v1.cs.length,.own 6 0 b2.length,.own 7 0 b12.length]]),(2,rI v1.fr),(3,rI v1.to),(4,rI v1.id),(5,.row 1 (Ls v1.cs)),(6,rI b2),(7,.row 1 (Ls b12))],8⟩) (fun b12=>b12=e12) ?_ ?_
 ·refine Q6 (QR h (fun s40:List (List Int) × Int=>⟨Ya members_ [(7,iV s40.2)],Y3 f_ v1 b2 s40 [],9⟩) (Q6e ⟨Ya members_ [(7,iV 0)],Yc f_ ((2,.mix 7 [(YK v1 [.own 7 0 b2.length,.own 8 0 0])])::Yi v1 [(7,rI b2),(8,.row 1 (Ls []))]),9⟩ (Wk.nils [(8,1)] (by simp) (by simp) (by simp [nlA]) (by simp [entN,nlL,nlA,Cat.cells,SF.cells,UA,U1,IA,I1,LA,L1,BA,B1,EA,E1,E2,eB,eI,eL,eM]) (by simp)) (Q5e 9)) ?_);clear h;intro k40 s40 c40 h hk40;refine Q3 (Q3 (runQ hN fun K hK=>?_));simp [eM,eL,eI,Q2,Qq,Qg,Cat.cells,SF.cells];repeat refine sdQ ?_
  refine hK _ ?_;clear hK K;refine tn (Q7 rfl (fun g=>?_) fun g=>?_)
  ·have g41:s40.2<(f_.ac.length:Int):=gQ;clear g;replace h:=if_l g41 h;refine Q8 (tn (Q3 (Q6 (Q3 (runQ hN fun K hK=>?_)))));replace ⟨a42,h⟩:=Q5 h;replace ⟨a43,h⟩:=Q5 h;simp [eM,eL,eI,Q2,Qq,Qg,Cat.cells,SF.cells,at_I a42,at_I a43];(repeat refine sdQ ?_);refine hK _ ?_;clear hK K;refine tn (Qa (st':=⟨Ya members_ (Yw s40 f_ [(10,.own 9 0 0)]),Y3 f_ v1 b2 s40 [(9,.mix 1 [])],10⟩) (Q5e 10) (Q3 (Q3 (runQ hN fun K hK=>?_))));simp [eM,eL,eI,Q2,Qq,Qg,Cat.cells,SF.cells];(repeat refine sdQ ?_);refine hK _ (tn (Qa (st':=⟨Ya members_ (Yw s40 f_ [(10,.own 9 0 0),(11,iV 0)]),Y3 f_ v1 b2 s40 [(9,.mix 1 [])],10⟩) (Q5e 10) ?_));clear hK K;replace ⟨e44,h,h44⟩:=bind_some h;refine QI (fun b44:List Int=>⟨Ya members_ [(7,iV s40.2),(10,.own 9 0 b44.length)],Y3 f_ v1 b2 s40 [(9,rI b44)],10⟩) (fun b44=>b44=e44) ?_ ?_
   ·refine Q6 (QR h (fun s55:List Int × Int=>⟨Ya members_ (Yw s40 f_ [(10,.own 9 0 s55.1.length),(11,iV s55.2)]),Y3 f_ v1 b2 s40 [(9,rI s55.1)],10⟩) (Q6e ⟨Ya members_ (Yw s40 f_ [(10,.own 9 0 0),(11,iV 0)]),Y3 f_ v1 b2 s40 [(9,rI [])],10⟩ (Wk.nils [] (by simp) (by simp) (by simp [nlA]) (by simp [entN,nlL,nlA,Cat.cells,SF.cells,UA,U1,IA,I1,LA,L1,BA,B1,EA,E1,E2,eB,eI,eL,eM]) (by simp)) (Q5e 10)) ?_);clear h;intro k55 s55 c55 h hk55;refine Q3 (Q3 (runQ hN fun K hK=>?_));replace ⟨a56,h⟩:=Q5 h;simp [eM,eL,eI,Q2,Qq,Qg,Cat.cells,SF.cells,at_L a56];(repeat refine sdQ ?_);refine hK _ ?_;clear hK K;refine tn (Q7 rfl (fun g=>?_) fun g=>?_)
    ·have g57:s55.2<((rx members_ (ix f_.s.fr s40.2)).length:Int):=gQ;clear g;replace h:=if_l g57 h;refine Q8 (tn (Q3 (Q6 (runQ hN fun K hK=>?_))));replace ⟨a58,h⟩:=Q5 h;replace ⟨a59,h⟩:=Q5 h;replace ⟨a60,h⟩:=Q5 h;replace ⟨a61,h⟩:=Q5 h;replace ⟨a62,h⟩:=Q5 h;simp [eM,eL,eI,Q2,Qq,Qg,Cat.cells,SF.cells,at_L a58,at_L a59,at_L a60,at_I a61,at_I a62];(repeat with_reducible refine sdQ ?_);replace ⟨v63,hv63,h⟩:=bind_some h;refine Q0 (Q7Y _ _ v63 hv63) (.cons .lst (.cons .val .nil)) ?_;replace ⟨a64,h⟩:=Q5 h;(try simp only [qK,qJ,zD] at a64);simp [eM,eL,eI,Q2,Qq,Qg,Cat.cells,SF.cells,at_L a58,at_L a59,at_L a60,at_I a61,at_I a62,a64];(repeat refine sdQ ?_);refine hK _ ?_;clear hK K;refine bn (tn (Qa (st':=⟨Ya members_ (Yw s40 f_ [(10,.own 9 0 ((s55.1++[v63]).length)),(11,iV s55.2)]),Y3 f_ v1 b2 s40 [(9,rI (s55.1++[v63]))],10⟩) (Qp [(0,0),(1,1),(2,2),(3,3),(4,4),(5,5),(6,6),(7,7),(8,8),(12,9)]) (runQ hN fun K hK=>?_)));replace ⟨a65,h⟩:=Q5 h;simp [eM,eL,eI,Q2,Qq,Qg,Cat.cells,SF.cells,QB a65];(repeat refine sdQ ?_);refine hK _ ?_;clear hK K;cases h;exact rn (s':=(s55.1++[v63],s55.2+1)) hk55 (Q5e 10)
    have g57:¬ (s55.2<((rx members_ (ix f_.s.fr s40.2)).length:Int)):=gQ;clear g;replace h:=if_r g57 h;refine Qo (tx (lx (bh ?_)));cases h;exact jn (b:=s55.1) hk55 (Q5e 10)
   intro b44 hb44;have h:=h44;(try rw [← hb44] at h);clear h44;(try dsimp only at h);refine runQ hN fun K hK=>?_;replace ⟨a66,h⟩:=Q5 h;(try simp only [qK,qJ,zD] at a66);simp [eM,eL,eI,Q2,Qq,Qg,Cat.cells,SF.cells,a66];(repeat refine sdQ ?_);refine hK _ ?_;clear hK K;refine bn (tn (Qa (st':=⟨Ya members_ [(7,iV s40.2)],Yc f_ ((2,.mix 7 [(YK v1 [.own 7 0 b2.length,.own 8 0 ((s40.1++[b44]).length)])])::Yi v1 [(7,rI b2),(8,.row 1 (Ls (s40.1++[b44])))]),9⟩) (Qp [(0,0),(1,1),(2,2),(3,3),(4,4),(5,5),(6,6),(7,7),(11,8)]) (runQ hN fun K hK=>?_)));replace ⟨a67,h⟩:=Q5 h;simp [eM,eL,eI,Q2,Qq,Qg,Cat.cells,SF.cells,QB a67];(repeat refine sdQ ?_);refine hK _ ?_;clear hK K;cases h;exact rn (s':=(s40.1++[b44],s40.2+1)) hk40 (Q5e 9)
  have g41:¬ (s40.2<(f_.ac.length:Int)):=gQ;clear g;replace h:=if_r g41 h;refine Qo (tx (lx (bh ?_)));cases h;exact jn (b:=s40.1) hk40 (Qp [(1,0),(2,1),(3,2),(4,3),(5,4),(6,5),(7,6),(8,7)])
 intro b12 hb12;have h:=h12;try rw [← hb12] at h
 clear h12;try dsimp only at h
 refine Q3 (runQ hN fun K hK=>?_);simp [eM,eL,eI,Q2,Qq,Qg,Cat.cells,SF.cells];repeat refine sdQ ?_
 refine hK _ (tn (Qa (st':=⟨[(4,.adr 0 0 0)],[(0,.mix 7 [[iV v1.n,.own 1 0 v1.fr.length,.own 2 0 v1.to.length,.own 3 0 v1.id.length,.own 4 0 v1.cs.length,.own 5 0 b2.length,.own 6 0 b12.length]]),(1,rI v1.fr),(2,rI v1.to),(3,rI v1.id),(4,.row 1 (Ls v1.cs)),(5,rI b2),(6,.row 1 (Ls b12))],7⟩) (Qp [(0,0),(2,1),(3,2),(4,3),(5,4),(6,5),(7,6)]) (Qj ?_)));clear hK K;have hr:=zH h;rw [← hr];refine ⟨_,(.cell Q7V rfl rfl rfl (by simp) (by simp) .nil),?_⟩;refine ⟨(.agg rfl .nil),[iV v1.n,lI v1.fr,lI v1.to,lI v1.id,.lst true 1 (Ls v1.cs),lI b2,.lst true 1 (Ls b12)],[1,2,3,4,5,6],by simp [Cat.cells,SF.cells,UA,U1,IA,I1,LA,L1,BA,B1,EA,E1,E2,eB,eI,eL,eM],by simp,(UpL.refl _)⟩
end Go.Vc.T
namespace Go.Vc.T
open Go Go.Vc Go.Proofs
section
attribute [local simp] Qf QF Qs Q1o QS
theorem fstJ {ε β:Type} {body:Int→Option (Ctl Int ε)} {K:ε→Option β} {r:Option β} (n:Nat) (p:Nat→Prop) (eb:Int→ε) (eg:ε) (hn:n<4611686018427387904)
  (h:∀ i:Nat,i<n→body (i:Int)=if bo (p i)=true then some (.ret (eb i)) else some (.next ((i:Int)+1))) (h3:body (n:Int)=some (.ret eg)) (hk:K (if 0≤fstN n p then eb (fstN n p) else eg)=r):(QM body fuel 0).bind K=r:=by
 rcases Q9e n (fun i=>¬ p i) (eb:=fun i=>eb i) (eg:=eg) hn (fun i hi q=>by rw [h i hi,Q1f q];simp) (fun i hi q=>by rw [h i hi,Q1m (zI q)];simp) h3 with ⟨q,e⟩|⟨m,hm,hq,hlt,e⟩
 ·rw [e,zM,← hk,fstN_no q];simp
 rw [e,zM,← hk,fstN_at hm (zI hq) hlt];simp
noncomputable def idxL (L:List Int) (v:Int):Int:=fstN L.length fun i=>ix L i=v
theorem e_l01Idx {L:List Int} {v:Int} (hl:L.length≤1000000):Q23 L v=some (idxL L v):=by
 unfold Q23;refine fstJ L.length (fun i=>ix L i=v) (fun i=>Sum.inr i) (Sum.inl ()) (by omega) (fun i hi=>?_) (by rw [if_neg (by omega)]) ?_
 ·rw [if_pos (by omega),Q4 (by omega)]
  by_cases q:ix L i=v
  ·rw [if_pos q,Q1m q];rfl
  rw [if_neg q,Q1f q,Q4 (by unfold B64;omega)];rfl
 unfold idxL;rcases Q5g L.length (fun i=>ix L i=v) with ⟨e,_⟩|⟨k,_,_,e⟩
 ·rw [e];simp
 rw [e,if_pos (by omega)]
structure SubP (f:SF) (M:Nat→List Int):Prop where
 cat:f.s.Is
 la:f.ac.length=f.s.fr.length
 len:∀ x:Nat,(x:Int)<f.s.n→(M x).length≤256
 rng:∀ a:Nat,a<f.s.fr.length→∀ y∈M (ix f.s.fr a).toNat,0≤y∧y<((rx f.ac a).length:Int)
noncomputable def subA (f:SF) (M:Nat→List Int) (n:Nat):List (List Int):=tab n fun a:Nat=>(M (ix f.s.fr a).toNat).map fun y=>idxL (M (ix f.s.to a).toNat) (ix (rx f.ac a) y)
noncomputable def subF (f:SF) (M:Nat→List Int):SF:=⟨f.s,tab f.s.n.toNat fun x=>((M x).length:Int),subA f M f.s.fr.length⟩
def subM (f:SF) (M:Nat→List Int):List (List Int):=tab f.s.n.toNat M
theorem SubP.cats {f:SF} {M:Nat→List Int} (h:SubP f M):(f.s.n.toNat:Int)=f.s.n∧f.s.n.toNat≤8∧f.s.fr.length≤40∧f.s.to.length=f.s.fr.length∧∀ a:Nat,a<f.s.fr.length→(0≤ix f.s.fr a∧ix f.s.fr a<f.s.n)∧(0≤ix f.s.to a∧ix f.s.to a<f.s.n):=by
 have hC:=h.cat.1;have n8:=hC.n8;have m40:=hC.m40;have li:=hC.li;have lt:=hC.lt;refine ⟨by omega,by omega,by omega,by omega,fun a ha=>?_⟩;obtain ⟨q1,q2⟩:=hC.frn ha;omega
theorem rx_tabZ (n:Nat) (g:Nat→List Int) {j:Int} (h0:0≤j) (h1:j<n):rx (tab n g) j=g j.toNat:=by
 have e:j=(j.toNat:Int):=(Int.toNat_of_nonneg h0).symm;rw [e,rx_tab n g (by omega)];rfl
theorem e_subset {f:SF} {M:Nat→List Int} (h:SubP f M):Q1N f (subM f M)=some (subF f M):=by
 obtain ⟨hN,hN8,hM,hT,hft⟩:=h.cats;have hla:=h.la;unfold Q1N Q3F;rw [Q4 h.cat.1.size2.1];simp only [zM];have hl:(subM f M).length=f.s.n.toNat:=by simp [subM]
 refine Q1v f.s.n.toNat (fun i=>tab i fun x=>((M x).length:Int)) (e:=tab f.s.n.toNat fun x=>((M x).length:Int)) rfl (by omega) (fun i hi=>?_) (by simp [hl]) ?_
 ·simp only;rw [if_pos (by omega),Q4 (by omega),subM,rx_tab _ _ hi,Q4 (by simp;omega),Q4 (by unfold B64;omega),Q1X]
 refine Q1v f.ac.length (fun i=>subA f M i) (e:=subA f M f.s.fr.length) rfl (by omega) (fun a ha=>?_) (by simp [hla]) rfl;obtain ⟨q1,q2⟩:=hft a (by omega);have hr:=h.rng a (by omega);have h1:rx (subM f M) (ix f.s.fr a)=M (ix f.s.fr a).toNat:=rx_tabZ _ _ q1.1 (by omega);have h2:rx (subM f M) (ix f.s.to a)=M (ix f.s.to a).toNat:=rx_tabZ _ _ q2.1 (by omega);have l1:=h.len (ix f.s.fr a).toNat (by omega);have l2:=h.len (ix f.s.to a).toNat (by omega);simp only [h1,h2,hl];rw [if_pos (by omega),Q4 (by omega),Q4 (by omega)];refine Q1v (M (ix f.s.fr a).toNat).length (fun k=>((M (ix f.s.fr a).toNat).take k).map fun y=>idxL (M (ix f.s.to a).toNat) (ix (rx f.ac a) y)) (e:=(M (ix f.s.fr a).toNat).map fun y=>idxL (M (ix f.s.to a).toNat) (ix (rx f.ac a) y)) (by simp) (by omega) (fun k hk=>?_) (by simp only;rw [Q4 (by omega),if_neg (by omega)];simp) ?_
 ·have hm:ix (M (ix f.s.fr a).toNat) k∈M (ix f.s.fr a).toNat:=by rw [← QO _ _ hk];exact zL hk
  have hb:=hr _ hm;have ht:(M (ix f.s.fr a).toNat).take (k+1)=(M (ix f.s.fr a).toNat).take k++[ix (M (ix f.s.fr a).toNat) k]:=by rw [zJ hk,QO _ _ hk]
  simp only;rw [Q4 (by omega),if_pos (by omega),Q4 (by omega),Q4 (by omega),Q4 (by omega),Q4 (by omega),Q4 (by omega),e_l01Idx (by omega)];simp only [zM];rw [Q4 (by simp;omega),Q4 (by unfold B64;omega),ht,List.map_append];rfl
 have:(subA f M a).length=a:=by simp [subA]
 rw [Q4 (by simp;omega),Q4 (by unfold B64;omega),subA,subA,Q1X]
theorem sub_ok {f:SF} {M:Nat→List Int} (h:SubP f M) (h16:∀ x:Nat,(x:Int)<f.s.n→(M x).length≤16):((subF f M).ok∧(subF f M).size≤10000)∧((subM f M).length≤1048576∧∀ x∈subM f M,x.length≤1048576)∧sumL (subM f M)≤10000:=by
 obtain ⟨hN,hN8,hM,hT,hft⟩:=h.cats;obtain ⟨c1,c2⟩:=h.cat.1.size2;have b0:∀ xs∈subA f M f.s.fr.length,xs.length≤16:=by
  intro xs hx;simp only [subA,tab,List.mem_map,List.mem_range] at hx;obtain ⟨a,ha,rfl⟩:=hx;have:=h16 (ix f.s.fr a).toNat (by have:=hft a ha;omega);simpa using this
 have b1:∀ xs∈subM f M,xs.length≤16:=by
  intro xs hx;simp only [subM,tab,List.mem_map,List.mem_range] at hx;obtain ⟨a,ha,rfl⟩:=hx;exact h16 a (by omega)
 have s0:=sumL_b b0;have s1:=sumL_b b1;have l0:(subA f M f.s.fr.length).length=f.s.fr.length:=by simp [subA]
 have l1:(subM f M).length=f.s.n.toNat:=by simp [subM]
 rw [l0] at s0;rw [l1] at s1;refine ⟨⟨⟨c1,by simp [subF];omega,by simp only [subF];omega,fun xs hx=>by have:=b0 xs hx;omega,by simp only [subF];omega⟩,?_⟩,⟨by omega,fun xs hx=>by have:=b1 xs hx;omega⟩,by omega⟩;simp only [SF.size,subF,Qam];omega
structure PartP (f:SF) (M:Nat→List Int):Prop where
 sh:f.Sh
 nd:∀ x:Nat,(x:Int)<f.s.n→(M x).Nodup
 len:∀ x:Nat,(x:Int)<f.s.n→(M x).length≤16
 rng:∀ x:Nat,(x:Int)<f.s.n→∀ y∈M x,0≤y∧y<ix f.sz x
 cl:∀ a:Nat,a<f.s.fr.length→∀ y∈M (ix f.s.fr a).toNat,ix (rx f.ac a) y∈M (ix f.s.to a).toNat
theorem PartP.sub {f:SF} {M:Nat→List Int} (h:PartP f M):SubP f M:=by
 have hC:=h.sh.cat.1;refine ⟨h.sh.cat,h.sh.la,fun x hx=>by have:=h.len x hx;omega,fun a ha y hy=>?_⟩;obtain ⟨q1,q2⟩:=hC.frn ha;have li:=hC.li;have e:((ix f.s.fr a).toNat:Int)=ix f.s.fr a:=by omega
 have:=h.rng _ (by omega) y hy;have hac:=(h.sh.act a (by rw [h.sh.la];exact ha)).1;rw [e] at this;omega
def sgs (L:List Int):List (List Int):=L.map fun y=>[y]
theorem rx_sgs {L:List Int} {i:Nat} (h:i<L.length):rx (sgs L) i=[ix L i]:=by
 rw [← QV _ _ (show i<(sgs L).length by simpa [sgs] using h)];simp [sgs,QO _ _ h]
theorem pos_sgs (L:List Int) (y:Int):posL (sgs L) [y]=idxL L y:=by
 unfold posL idxL;rw [show (sgs L).length=L.length by simp [sgs]];exact Q8e fun i hi=>by rw [rx_sgs hi];simp
theorem PartP.tup {f:SF} {M:Nat→List Int} (h:PartP f M):TupP [f] f.s fun x=>sgs (M x):=by
 have g0:gx [f] ((0:Nat):Int)=f:=rfl;have sz16:∀ x:Nat,(x:Int)<f.s.n→ix f.sz x≤16:=fun x hx=>by
  have:=Q1p h.sh.sz (j:=x) (by omega) (by have:=h.sh.ls;omega);omega
 refine ⟨by simp,by simp,fun i hi=>?_,fun x hx=>by have:=h.len x hx;simp [sgs];omega,fun x hx=>⟨?_,fun t ht a ha=>?_⟩,fun x hx t ht=>?_,fun a ha t ht=>?_⟩
 ·have:i=0:=by simpa using hi
  subst this;rw [g0];exact ⟨h.sh,rfl⟩
 ·exact List.Pairwise.map _ (fun a b hab e=>hab (by simpa using e)) (h.nd x hx)
 ·simp only [sgs,List.mem_map] at ht;obtain ⟨y,hy,rfl⟩:=ht;simp only [List.mem_singleton] at ha;subst ha;have:=h.rng x hx _ hy;have:=sz16 x hx;omega
 ·simp only [sgs,List.mem_map] at ht;obtain ⟨y,hy,rfl⟩:=ht;refine ⟨rfl,fun i hi=>?_⟩;have:i=0:=by simpa using hi
  subst this;rw [g0];exact h.rng x hx y hy
 simp only [sgs,List.mem_map] at ht ⊢;obtain ⟨y,hy,rfl⟩:=ht;exact ⟨_,h.cl a ha y hy,rfl⟩
theorem e_part {f:SF} {M:Nat→List Int} (h:PartP f M) {at_:Int→Option (List (List Int))} (hat:∀ x:Nat,(x:Int)<f.s.n→at_ x=some (sgs (M x))) :
  ((tupG [f] at_).bind fun v1=>ass ((0:Int)≤0∧0<(v1.2.1.length:Int)) <| some (v1.1,gx v1.2.1 0))=some (subF f M,subM f M):=by
 obtain ⟨hN,hN8,hM,hT,hft⟩:=h.sub.cats;have hz:tupZ f.s (fun x=>sgs (M x))=tab f.s.n.toNat fun x=>((M x).length:Int):=by
  unfold tupZ;exact Q3u fun x hx=>by simp [sgs]
 have hfit:(tupZ f.s fun x=>sgs (M x)).all (inR 17)=true:=by
  rw [hz,List.all_eq_true];intro v hv;simp only [tab,List.mem_map,List.mem_range] at hv;obtain ⟨x,hx,rfl⟩:=hv;have:=h.len x (by omega);simp only [inR,Bool.and_eq_true,decide_eq_true_eq];omega
 have hA:tupA [f] f.s (fun x=>sgs (M x))=subA f M f.s.fr.length:=by
  unfold tupA subA;refine Q3u fun a ha=>?_;simp only [sgs,List.map_map];refine List.map_congr_left fun y hy=>?_;exact pos_sgs _ _
 have hR:tupR [f] f.s (fun x=>sgs (M x))=[subM f M]:=by
  unfold tupR;rw [show [f].length=0+1 from rfl,Q1X,Q9y,List.nil_append]
  congr 1
  refine Q3u fun x hx=>?_;simp only [sgs,List.map_map];exact List.map_id' _
 rw [e_tupG h.tup hat,if_pos hfit,hz,hA,hR,zM,Q4 (by simp)];rfl
theorem e_sgs {L:List Int} (hl:L.length≤1000) {K:List (List Int)→Option (List (List Int))} (hK:K=some):(QM (σ:=List (List Int) × Int) (ε:=List (List Int)) (fun s7 =>
  if s7.2<(L.length:Int) then
   ass (0≤s7.2∧s7.2<(L.length:Int)) <|
   ass ((s7.1++[[ix L s7.2]]).length≤1073741824) <|
   ass (B64 (s7.2+1)) <|
   some (Ctl.next (s7.1++[[ix L s7.2]],s7.2+1))
  else
   some (Ctl.ret s7.1)) fuel ([],0)).bind K=some (sgs L):=by
 subst hK;refine Q1v L.length (fun i=>sgs (L.take i)) (e:=sgs L) (by simp [sgs]) (by omega) (fun i hi=>?_) (by simp) rfl;simp only;rw [if_pos (by omega),Q4 (by omega),Q4 (by simp [sgs];omega),Q4 (by unfold B64;omega)];simp only [sgs];rw [zJ hi,List.map_append,QO _ _ hi];rfl
end
end Go.Vc.T
namespace Go.Vc.T
open Go Go.Vc Go.Proofs
attribute [local simp] unk unA unE unT unC flat
noncomputable def Q5N (list_:List Int) (n_:Int):Option Bool :=
 (QM (σ:=Int) (ε:=Unit ⊕ Bool) (fun s6 =>
  if s6<(list_.length:Int) then
   ass (0≤s6∧s6<(list_.length:Int)) <|
   if (ix list_ s6)=n_ then
    some (Ctl.ret (Sum.inr true))
   else
    ass (B64 (s6+1)) <|
    some (Ctl.next (s6+1))
  else
   some (Ctl.ret (Sum.inl ()))) fuel 0).bind fun e1 =>
 match e1 with
 | .inl b1 =>
  some false
 | .inr p1 =>
  some p1
@[simp] abbrev YF (a:List (Nat × AV)):List (Nat × AV):=(4,.val (.bool false))::a
theorem w_i_has [Kd Tryz.prog] (list_:List Int) (n_:Int) (r:Bool) (h:Q5N list_ n_=some r):Contract Tryz.prog 132 [lI list_,iV n_] (.val (.bool r)):=by
 refine Qn (rvs:=[.tmp 4]) (rs:=[.val (.bool r)]) Tryz.func132 rfl rfl rfl rfl (by simp [Tryz.f132]) fun F hN hP=>?_;unfold Q5N at h;refine Q3 (runQ hN fun K hK=>?_);simp [eM,eL,eI,Q2];repeat refine sdQ ?_
 refine hK _ ?_;clear hK K;refine tn (Qa (st':=⟨[(0,lI list_),(1,iV n_)],[],0⟩) (Qp []) (Q3 (Q3 (runQ hN fun K hK=>?_))));simp [eM,eL,eI,Q2];repeat refine sdQ ?_
 refine hK _ (tn (Qa (st':=⟨[(1,iV n_),(7,lI list_),(8,iV (list_.length:Int)),(9,iV 0)],[],0⟩) (Qp []) ?_));clear hK K;replace ⟨e1,h,h1⟩:=bind_some h;refine QI (fun b1:Unit=>⟨[],[],0⟩) (fun b1=>Sum.inl b1=e1) ?_ ?_
 ·refine Q6 (QR h (fun s6:Int=>⟨[(1,iV n_),(7,lI list_),(8,iV (list_.length:Int)),(9,iV s6)],[],0⟩) (Qp []) ?_);clear h;intro k6 s6 c6 h hk6;refine Q3 (runQ hN fun K hK=>?_);simp [eM,eL,eI,Q2];repeat refine sdQ ?_
  refine hK _ ?_;clear hK K;refine tn (Q3 (Q7 rfl (fun g=>?_) fun g=>?_))
  ·have g7:s6<(list_.length:Int):=gQ;clear g;replace h:=if_l g7 h;refine Q8 (tn (Q3 (Q6 (Q3 (runQ hN fun K hK=>?_)))));replace ⟨a8,h⟩:=Q5 h;simp [eM,eL,eI,Q2,at_I a8];(repeat refine sdQ ?_);refine hK _ ?_;clear hK K;refine tn (Qa (st':=⟨[(1,iV n_),(6,iV (ix list_ s6)),(7,lI list_),(8,iV (list_.length:Int)),(9,iV s6)],[],0⟩) (Qp []) (Q3 (runQ hN fun K hK=>?_)));simp [eM,eL,eI,Q2];(repeat refine sdQ ?_);refine hK _ ?_;clear hK K;refine tn (Q7 rfl (fun g=>?_) fun g=>?_)
   ·have g9:(ix list_ s6)=n_:=gQ;clear g;replace h:=if_l g9 h;refine Q3 (runQ hN fun K hK=>?_);simp [eM,eL,eI,Q2];(repeat refine sdQ ?_);refine hK _ (tn (Qa (st':=⟨[(4,.val (.bool true))],[],0⟩) (Qp []) (Qj (br (tr (lr (br (tr ?_))))))));clear hK K;cases h;have q:_=e1:=hk6;have h:=h1;rw [← q] at h;clear q;(try dsimp only at h);have hr:=zH h;rw [← hr];refine ⟨_,(.tmp .nil),?_⟩;refine ⟨(.one rfl rfl .nil),[.val (.bool true)],[],by simp [UA,U1,IA,I1,LA,L1,BA,B1,EA,E1,E2,eB,eI,eL,eM],by simp,(UpL.refl _)⟩
   have g9:¬ ((ix list_ s6)=n_):=gQ;clear g;replace h:=if_r g9 h;refine Q8 (bn (tn (runQ hN fun K hK=>?_)));replace ⟨a10,h⟩:=Q5 h;simp [eM,eL,eI,Q2,QB a10];(repeat refine sdQ ?_);refine hK _ ?_;clear hK K;cases h;exact rn (s':=s6+1) hk6 (Qp [])
  have g7:¬ (s6<(list_.length:Int)):=gQ;clear g;replace h:=if_r g7 h;refine Qo (tx (lx (bh ?_)));cases h;exact jn (b:=()) hk6 (Qp [])
 intro b1 hb1;have h:=h1;try rw [← hb1] at h
 clear h1;try dsimp only at h
 refine Q3 (runQ hN fun K hK=>?_);simp [eM,eL,eI,Q2];repeat refine sdQ ?_
 refine hK _ (tn (Qa (st':=⟨YF [],[],0⟩) (Qp []) (Qj ?_)));clear hK K;have hr:=zH h;rw [← hr];refine ⟨_,(.tmp .nil),?_⟩;refine ⟨(.one rfl rfl .nil),[.val (.bool false)],[],by simp [UA,U1,IA,I1,LA,L1,BA,B1,EA,E1,E2,eB,eI,eL,eM],by simp,(UpL.refl _)⟩
end Go.Vc.T
namespace Go.Vc.T
open Go Go.Vc Go.Proofs
attribute [local simp] unk unA unE unT unC flat
noncomputable def Q2V (list_:List Int):Option Bool :=
 (QM (σ:=Int) (ε:=Unit ⊕ Bool) (fun s7 =>
  if s7<(list_.length:Int) then
   ass (B64 (s7 - 1)) <|
   ass (0≤s7 - 1∧s7 - 1<(list_.length:Int)) <|
   ass (0≤s7∧s7<(list_.length:Int)) <|
   if (ix list_ (s7 - 1)) ≥ (ix list_ s7) then
    some (Ctl.ret (Sum.inr false))
   else
    ass (B64 (s7+1)) <|
    some (Ctl.next (s7+1))
  else
   some (Ctl.ret (Sum.inl ()))) fuel 1).bind fun e1 =>
 match e1 with
 | .inl b1 =>
  some true
 | .inr p1 =>
  some p1
theorem Qay [Kd Tryz.prog] (list_:List Int) (r:Bool) (h:Q2V list_=some r):Contract Tryz.prog 130 [lI list_] (.val (.bool r)):=by
 refine Qn (rvs:=[.tmp 2]) (rs:=[.val (.bool r)]) Tryz.func130 rfl rfl rfl rfl (by simp [Tryz.f130]) fun F hN hP=>?_;unfold Q2V at h;refine Q3 (runQ hN fun K hK=>?_);simp [-Int.pred_toNat,eM,eL,eI,Q2];repeat refine sdQ ?_
 refine hK _ ?_;clear hK K;refine tn (Qa (st':=⟨[(0,lI list_)],[],0⟩) (Qp []) (Q3 (Q3 (runQ hN fun K hK=>?_))));simp [-Int.pred_toNat,eM,eL,eI,Q2];repeat refine sdQ ?_
 refine hK _ (tn (Qa (st':=⟨[(0,lI list_),(3,iV 1)],[],0⟩) (Qp []) ?_));clear hK K;replace ⟨e1,h,h1⟩:=bind_some h;refine QI (fun b1:Unit=>⟨[],[],0⟩) (fun b1=>Sum.inl b1=e1) ?_ ?_
 ·refine Q6 (QR h (fun s7:Int=>⟨[(0,lI list_),(3,iV s7)],[],0⟩) (Qp []) ?_);clear h;intro k7 s7 c7 h hk7;refine Q3 (Q3 (runQ hN fun K hK=>?_));simp [-Int.pred_toNat,eM,eL,eI,Q2];repeat refine sdQ ?_
  refine hK _ ?_;clear hK K;refine tn (Q7 rfl (fun g=>?_) fun g=>?_)
  ·have g8:s7<(list_.length:Int):=gQ;clear g;replace h:=if_l g8 h;refine Q8 (tn (Q3 (Q6 (Q3 (runQ hN fun K hK=>?_)))));replace ⟨a9,h⟩:=Q5 h;replace ⟨a10,h⟩:=Q5 h;replace ⟨a11,h⟩:=Q5 h;simp [-Int.pred_toNat,eM,eL,eI,Q2,QB a9,at_I a10,at_I a11];(repeat refine sdQ ?_);refine hK _ ?_;clear hK K;refine tn (Q7 rfl (fun g=>?_) fun g=>?_)
   ·have g12:(ix list_ (s7 - 1)) ≥ (ix list_ s7):=gQ;clear g;replace h:=if_l g12 h;refine Q3 (runQ hN fun K hK=>?_);simp [-Int.pred_toNat,eM,eL,eI,Q2];(repeat refine sdQ ?_);refine hK _ (tn (Qa (st':=⟨[(2,.val (.bool false))],[],0⟩) (Qp []) (Qj (br (tr (lr (br (tr ?_))))))));clear hK K;cases h;have q:_=e1:=hk7;have h:=h1;rw [← q] at h;clear q;(try dsimp only at h);have hr:=zH h;rw [← hr];refine ⟨_,(.tmp .nil),?_⟩;refine ⟨(.one rfl rfl .nil),[.val (.bool false)],[],by simp [UA,U1,IA,I1,LA,L1,BA,B1,EA,E1,E2,eB,eI,eL,eM],by simp,(UpL.refl _)⟩
   have g12:¬ ((ix list_ (s7 - 1)) ≥ (ix list_ s7)):=gQ;clear g;replace h:=if_r g12 h;refine Q8 (bn (tn (runQ hN fun K hK=>?_)));replace ⟨a13,h⟩:=Q5 h;simp [-Int.pred_toNat,eM,eL,eI,Q2,QB a13];(repeat refine sdQ ?_);refine hK _ ?_;clear hK K;cases h;exact rn (s':=s7+1) hk7 (Qp [])
  have g8:¬ (s7<(list_.length:Int)):=gQ;clear g;replace h:=if_r g8 h;refine Qo (tx (lx (bh ?_)));cases h;exact jn (b:=()) hk7 (Qp [])
 intro b1 hb1;have h:=h1;try rw [← hb1] at h
 clear h1;try dsimp only at h
 refine Q3 (runQ hN fun K hK=>?_);simp [-Int.pred_toNat,eM,eL,eI,Q2];repeat refine sdQ ?_
 refine hK _ (tn (Qa (st':=⟨[(2,.val (.bool true))],[],0⟩) (Qp []) (Qj ?_)));clear hK K;have hr:=zH h;rw [← hr];refine ⟨_,(.tmp .nil),?_⟩;refine ⟨(.one rfl rfl .nil),[.val (.bool true)],[],by simp [UA,U1,IA,I1,LA,L1,BA,B1,EA,E1,E2,eB,eI,eL,eM],by simp,(UpL.refl _)⟩
end Go.Vc.T
namespace Go.Vc.T
open Go Go.Vc Go.Proofs
attribute [local simp] unk unA unE unT unC flat Qc XPart.cells
noncomputable def QK (f_:SF) (p_:XPart):Option Bool :=
 if ¬ ((p_.members_.length:Int)=(f_.sz.length:Int)) then
  some false
 else
  (QM (σ:=Int) (ε:=Unit ⊕ Bool) (fun s12 =>
   if s12<(p_.members_.length:Int) then
    ass (0≤s12∧s12<(p_.members_.length:Int)) <|
    (
     (Q2V (rx p_.members_ s12)).bind fun v16 =>
     if ¬ (v16=true) then
      some true
     else
      ass (0≤s12∧s12<(f_.sz.length:Int)) <|
      (Q1U (rx p_.members_ s12) (ix f_.sz s12)).bind fun v19 =>
      some (!v19):Option (Bool)).bind fun b15 =>
    if b15=true then
     some (Ctl.ret (Sum.inr false))
    else
     ass (B64 (s12+1)) <|
     some (Ctl.next (s12+1))
   else
    some (Ctl.ret (Sum.inl ()))) fuel 0).bind fun e2 =>
  match e2 with
  | .inl b2 =>
   (QM (σ:=Int) (ε:=Unit ⊕ Bool) (fun s46 =>
    if s46<(f_.ac.length:Int) then
     (
      ass (0≤s46∧s46<(f_.ac.length:Int)) <|
      ass (0≤s46∧s46<(f_.s.fr.length:Int)) <|
      ass (0≤ix f_.s.fr s46∧ix f_.s.fr s46<(p_.members_.length:Int)) <|
      (QM (σ:=Int) (ε:=Bool ⊕ Unit) (fun s60 =>
       if s60<((rx p_.members_ (ix f_.s.fr s46)).length:Int) then
        ass (0≤s60∧s60<((rx p_.members_ (ix f_.s.fr s46)).length:Int)) <|
        ass (0≤s46∧s46<(f_.s.to.length:Int)) <|
        ass (0≤ix f_.s.to s46∧ix f_.s.to s46<(p_.members_.length:Int)) <|
        ass (0≤ix (rx p_.members_ (ix f_.s.fr s46)) s60∧ix (rx p_.members_ (ix f_.s.fr s46)) s60<((rx f_.ac s46).length:Int)) <|
        (Q5N (rx p_.members_ (ix f_.s.to s46)) (ix (rx f_.ac s46) (ix (rx p_.members_ (ix f_.s.fr s46)) s60))).bind fun v66 =>
        if ¬ (v66=true) then
         some (Ctl.ret (Sum.inl false))
        else
         ass (B64 (s60+1)) <|
         some (Ctl.next (s60+1))
       else
        some (Ctl.ret (Sum.inr ()))) fuel 0).bind fun e60 =>
      match e60 with
      | .inl p60 =>
       some (Sum.inr p60)
      | .inr p60 =>
       some (Sum.inl p60):Option (Unit ⊕ Bool)).bind fun e48 =>
     match e48 with
     | .inl b48 =>
      ass (B64 (s46+1)) <|
      some (Ctl.next (s46+1))
     | .inr p48 =>
      some (Ctl.ret (Sum.inr p48))
    else
     some (Ctl.ret (Sum.inl ()))) fuel 0).bind fun e22 =>
   match e22 with
   | .inl b22 =>
    some true
   | .inr p22 =>
    some p22
  | .inr p2 =>
   some p2
@[simp] abbrev Yf (a:SF) (b:List (Nat × AV)):List (Nat × AV):=(0,.rptr (SF.cells true a))::(3,.adr 0 0 0)::b
@[simp] abbrev YM (a:XPart) (b:List (AV)):List (AV):=.lst true 1 (Ls a.members_)::b
@[simp] abbrev Yj (a:XPart) (b:List (Nat × Ent)):List (Nat × Ent):=(0,.mix 1 [(YM a [])])::b
@[simp] abbrev Yk (a:SF) (b:Int) (c:XPart) (d:List (Nat × AV)):List (Nat × AV):=(47,.lst true 1 (Ls a.ac))::(48,iV (a.ac.length:Int))::(49,iV b)::(65,lI (rx c.members_ (ix a.s.fr b)))::(66,iV ((rx c.members_ (ix a.s.fr b)).length:Int))::d
@[simp] abbrev Yu (a:XPart) (b:List (Nat × AV)):List (Nat × AV):=(21,.lst true 1 (Ls a.members_))::(22,iV (a.members_.length:Int))::b
@[simp] abbrev YC (a:SF) (b:List (Nat × AV)):List (Nat × AV):=(47,.lst true 1 (Ls a.ac))::(48,iV (a.ac.length:Int))::b
theorem Q3y [Kd Tryz.prog] (f_:SF) (p_:XPart) (r:Bool) (h:QK f_ p_=some r):Contract Tryz.prog 90 [.rptr (f_.cells true),.agg (p_.cells true)] (.val (.bool r)):=by
 refine Qn (rvs:=[.tmp 4]) (rs:=[.val (.bool r)]) Tryz.func90 rfl rfl rfl rfl (by simp [Tryz.f90]) fun F hN hP=>?_;unfold QK at h;refine Q3 (runQ hN fun K hK=>?_);simp [eM,eL,eI,Q2,Qg,Qc,SF.cells,XPart.cells];repeat refine sdQ ?_
 refine hK _ ?_;clear hK K;refine tn (Qa (st':=⟨Yf f_ [],Yj p_ [],1⟩) (Qp [(0,0)]) (Q3 (Q3 (runQ hN fun K hK=>?_))));simp [eM,eL,eI,Q2,Qg,Qc,SF.cells,XPart.cells];repeat refine sdQ ?_
 refine hK _ ?_;clear hK K;refine tn (Q7 rfl (fun g=>?_) fun g=>?_)
 ·have g1:¬ ((p_.members_.length:Int)=(f_.sz.length:Int)):=gQ;clear g;replace h:=if_l g1 h;refine Q3 (runQ hN fun K hK=>?_);simp [eM,eL,eI,Q2,Qg,Qc,SF.cells,XPart.cells];repeat refine sdQ ?_
  refine hK _ (tn (Qa (st':=⟨YF [],[],0⟩) (Qp []) (Qj (tr ?_))));clear hK K;have hr:=zH h;rw [← hr];refine ⟨_,(.tmp .nil),?_⟩;refine ⟨(.one rfl rfl .nil),[.val (.bool false)],[],by simp [SF.cells,XPart.cells,UA,U1,IA,I1,LA,L1,BA,B1,EA,E1,E2,eB,eI,eL,QT _ Qc _ (fun _=>rfl),eM],by simp,(UpL.refl _)⟩
 have g1:¬ (¬ ((p_.members_.length:Int)=(f_.sz.length:Int))):=gQ;clear g;replace h:=if_r g1 h;refine Q8 (tn (Q3 (Q3 (runQ hN fun K hK=>?_))));simp [eM,eL,eI,Q2,Qg,Qc,SF.cells,XPart.cells];repeat refine sdQ ?_
 refine hK _ (tn (Qa (st':=⟨Yf f_ (Yu p_ [(23,iV 0)]),Yj p_ [],1⟩) (Qp [(0,0)]) ?_));clear hK K;replace ⟨e2,h,h2⟩:=bind_some h;refine QI (fun b2:Unit=>⟨Yf f_ [],Yj p_ [],1⟩) (fun b2=>Sum.inl b2=e2) ?_ ?_
 ·refine Q6 (QR h (fun s12:Int=>⟨Yf f_ (Yu p_ [(23,iV s12)]),Yj p_ [],1⟩) (Qp [(0,0)]) ?_);clear h;intro k12 s12 c12 h hk12;refine Q3 (runQ hN fun K hK=>?_);simp [eM,eL,eI,Q2,Qg,Qc,SF.cells,XPart.cells];repeat refine sdQ ?_
  refine hK _ ?_;clear hK K;refine tn (Q3 (Q7 rfl (fun g=>?_) fun g=>?_))
  ·have g13:s12<(p_.members_.length:Int):=gQ;clear g;replace h:=if_l g13 h;refine Q8 (tn (Q3 (Q6 (Q3 (runQ hN fun K hK=>?_)))));replace ⟨a14,h⟩:=Q5 h;simp [eM,eL,eI,Q2,Qg,Qc,SF.cells,XPart.cells,at_L a14];(repeat refine sdQ ?_);refine hK _ (tn (Qa (st':=⟨Yf f_ ((5,iV s12)::(6,lI (rx p_.members_ s12))::Yu p_ [(23,iV s12)]),Yj p_ [],1⟩) (Qp [(0,0)]) (Q3 ?_)));clear hK K;replace ⟨e15,h,h15⟩:=bind_some h;refine QI (fun b15:Bool=>⟨Yf f_ (Yu p_ [(23,iV s12),(42,.val (.bool b15))]),Yj p_ [],1⟩) (fun b15=>b15=e15) ?_ ?_
   ·refine runQ hN fun K hK=>?_;simp [eM,eL,eI,Q2,Qg,Qc,SF.cells,XPart.cells];(repeat with_reducible refine sdQ ?_);replace ⟨v16,hv16,h⟩:=bind_some h;refine Q0 (Qay _ v16 hv16) (.cons .lst .nil) ?_;simp [eM,eL,eI,Q2,Qg,Qc,SF.cells,XPart.cells];(repeat with_reducible refine sdQ ?_);refine Q3V (fun g=>?_) (fun g=>?_)
    ·have g17:¬ (¬ (v16=true)):=gQ;clear g;replace h:=if_r g17 h;replace ⟨a18,h⟩:=Q5 h;simp [eM,eL,eI,Q2,Qg,Qc,SF.cells,XPart.cells,at_I a18];(repeat with_reducible refine sdQ ?_);replace ⟨v19,hv19,h⟩:=bind_some h;refine Q0 (Q6C _ _ v19 hv19) (.cons .lst (.cons .val .nil)) ?_;simp [eM,eL,eI,Q2,Qg,Qc,SF.cells,XPart.cells,at_I a18];(repeat refine sdQ ?_);refine hK _ ?_;exact jn (b:=!v19) (zH h) (Qp [(0,0)])
    have g17:¬ (v16=true):=gQ;clear g;replace h:=if_l g17 h;simp [eM,eL,eI,Q2,Qg,Qc,SF.cells,XPart.cells];(repeat refine sdQ ?_);refine hK _ ?_;exact jn (b:=true) (zH h) (Qp [(0,0)])
   intro b15 hb15;have h:=h15;(try rw [← hb15] at h);clear h15;(try dsimp only at h);refine Q7 rfl (fun g=>?_) fun g=>?_
   ·have g20:b15=true:=gQ;clear g;replace h:=if_l g20 h;refine Q3 (runQ hN fun K hK=>?_);simp [eM,eL,eI,Q2,Qg,Qc,SF.cells,XPart.cells];(repeat refine sdQ ?_);refine hK _ (tn (Qa (st':=⟨YF [],[],0⟩) (Qp []) (Qj (br (tr (lr (br (tr ?_))))))));clear hK K;cases h;have q:_=e2:=hk12;have h:=h2;rw [← q] at h;clear q;(try dsimp only at h);have hr:=zH h;rw [← hr];refine ⟨_,(.tmp .nil),?_⟩;refine ⟨(.one rfl rfl .nil),[.val (.bool false)],[],by simp [SF.cells,XPart.cells,UA,U1,IA,I1,LA,L1,BA,B1,EA,E1,E2,eB,eI,eL,QT _ Qc _ (fun _=>rfl),eM],by simp,(UpL.refl _)⟩
   have g20:¬ (b15=true):=gQ;clear g;replace h:=if_r g20 h;refine Q8 (bn (tn (runQ hN fun K hK=>?_)));replace ⟨a21,h⟩:=Q5 h;simp [eM,eL,eI,Q2,Qg,Qc,SF.cells,XPart.cells,QB a21];(repeat refine sdQ ?_);refine hK _ ?_;clear hK K;cases h;exact rn (s':=s12+1) hk12 (Qp [(0,0)])
  have g13:¬ (s12<(p_.members_.length:Int)):=gQ;clear g;replace h:=if_r g13 h;refine Qo (tx (lx (bh ?_)));cases h;exact jn (b:=()) hk12 (Qp [(0,0)])
 intro b2 hb2;have h:=h2;try rw [← hb2] at h
 clear h2;try dsimp only at h
 refine Q3 (Q3 (runQ hN fun K hK=>?_));simp [eM,eL,eI,Q2,Qg,Qc,SF.cells,XPart.cells];repeat refine sdQ ?_
 refine hK _ (tn (Qa (st':=⟨Yf f_ (YC f_ [(49,iV 0)]),Yj p_ [],1⟩) (Qp [(0,0)]) ?_));clear hK K;replace ⟨e22,h,h22⟩:=bind_some h;refine QI (fun b22:Unit=>⟨[],[],0⟩) (fun b22=>Sum.inl b22=e22) ?_ ?_
 ·refine Q6 (QR h (fun s46:Int=>⟨Yf f_ (YC f_ [(49,iV s46)]),Yj p_ [],1⟩) (Qp [(0,0)]) ?_);clear h;intro k46 s46 c46 h hk46;refine Q3 (runQ hN fun K hK=>?_);simp [eM,eL,eI,Q2,Qg,Qc,SF.cells,XPart.cells];repeat refine sdQ ?_
  refine hK _ ?_;clear hK K;refine tn (Q3 (Q7 rfl (fun g=>?_) fun g=>?_))
  ·have g47:s46<(f_.ac.length:Int):=gQ;clear g;replace h:=if_l g47 h;refine Q8 (tn (Q3 ?_));replace ⟨e48,h,h48⟩:=bind_some h;refine QI (fun b48:Unit=>⟨Yf f_ (YC f_ [(49,iV s46)]),Yj p_ [],1⟩) (fun b48=>Sum.inl b48=e48) ?_ ?_
   ·refine Q6 (Q3 (runQ hN fun K hK=>?_));replace ⟨a49,h⟩:=Q5 h;simp [eM,eL,eI,Q2,Qg,Qc,SF.cells,XPart.cells,at_L a49];(repeat refine sdQ ?_);refine hK _ ?_;clear hK K;refine tn (Qa (st':=⟨Yf f_ ((7,iV s46)::(8,lI (rx f_.ac s46))::YC f_ [(49,iV s46)]),Yj p_ [],1⟩) (Qp [(0,0)]) (Q3 (runQ hN fun K hK=>?_)));replace ⟨a50,h⟩:=Q5 h;replace ⟨a51,h⟩:=Q5 h;simp [eM,eL,eI,Q2,Qg,Qc,SF.cells,XPart.cells,at_I a50,at_L a51];(repeat refine sdQ ?_);refine hK _ (tn (Qa (st':=⟨Yf f_ ((7,iV s46)::(8,lI (rx f_.ac s46))::Yk f_ s46 p_ [(67,iV 0)]),Yj p_ [],1⟩) (Qp [(0,0)]) (Q6 ?_)));clear hK K;replace ⟨e60,he60,h60⟩:=bind_some h;refine QR he60 (fun s60:Int=>⟨Yf f_ ((7,iV s46)::(8,lI (rx f_.ac s46))::Yk f_ s46 p_ [(67,iV s60)]),Yj p_ [],1⟩) (Qp [(0,0)]) ?_;intro k60 s60 c60 h hk60;refine Q3 (runQ hN fun K hK=>?_);simp [eM,eL,eI,Q2,Qg,Qc,SF.cells,XPart.cells];(repeat refine sdQ ?_);refine hK _ ?_;clear hK K;refine tn (Q3 (Q7 rfl (fun g=>?_) fun g=>?_))
    ·have g61:s60<((rx p_.members_ (ix f_.s.fr s46)).length:Int):=gQ;clear g;replace h:=if_l g61 h;refine Q8 (tn (Q3 (Q6 (Q3 (runQ hN fun K hK=>?_)))));replace ⟨a62,h⟩:=Q5 h;simp [eM,eL,eI,Q2,Qg,Qc,SF.cells,XPart.cells,at_I a62];(repeat refine sdQ ?_);refine hK _ ?_;clear hK K;refine tn (Qa (st':=⟨Yf f_ ((7,iV s46)::(8,lI (rx f_.ac s46))::(10,iV (ix (rx p_.members_ (ix f_.s.fr s46)) s60))::Yk f_ s46 p_ [(67,iV s60)]),Yj p_ [],1⟩) (Qp [(0,0)]) (Q3 (runQ hN fun K hK=>?_)));replace ⟨a63,h⟩:=Q5 h;replace ⟨a64,h⟩:=Q5 h;replace ⟨a65,h⟩:=Q5 h;simp [eM,eL,eI,Q2,Qg,Qc,SF.cells,XPart.cells,at_I a63,at_L a64,at_I a65];(repeat with_reducible refine sdQ ?_);replace ⟨v66,hv66,h⟩:=bind_some h;refine Q0 (w_i_has _ _ v66 hv66) (.cons .lst (.cons .val .nil)) ?_;simp [eM,eL,eI,Q2,Qg,Qc,SF.cells,XPart.cells,at_I a63,at_L a64,at_I a65];(repeat refine sdQ ?_);refine hK _ ?_;clear hK K;refine tn (Qa (st':=⟨Yf f_ ((7,iV s46)::(8,lI (rx f_.ac s46))::Yk f_ s46 p_ [(67,iV s60),(88,.val (.bool (!v66)))]),Yj p_ [],1⟩) (Qp [(0,0)]) (Q7 rfl (fun g=>?_) fun g=>?_))
     ·have g67:¬ (v66=true):=gQ;clear g;replace h:=if_l g67 h;refine Q3 (runQ hN fun K hK=>?_);simp [eM,eL,eI,Q2,Qg,Qc,SF.cells,XPart.cells];(repeat refine sdQ ?_);refine hK _ (tn (Qa (st':=⟨YF [],[],0⟩) (Qp []) (Qj (br (tr (lr (br (br (tr (lr (br (tr ?_))))))))))));clear hK K;cases h;have q:_=e60:=hk60;have h:=h60;rw [← q] at h;clear q;(try dsimp only at h);cases h;have h:=h48;(try dsimp only at h);cases h;have q:_=e22:=hk46;have h:=h22;rw [← q] at h;clear q;(try dsimp only at h);have hr:=zH h;rw [← hr];refine ⟨_,(.tmp .nil),?_⟩;refine ⟨(.one rfl rfl .nil),[.val (.bool false)],[],by simp [SF.cells,XPart.cells,UA,U1,IA,I1,LA,L1,BA,B1,EA,E1,E2,eB,eI,eL,QT _ Qc _ (fun _=>rfl),eM],by simp,(UpL.refl _)⟩
     have g67:¬ (¬ (v66=true)):=gQ;clear g;replace h:=if_r g67 h;refine Q8 (bn (tn (runQ hN fun K hK=>?_)));replace ⟨a68,h⟩:=Q5 h;simp [eM,eL,eI,Q2,Qg,Qc,SF.cells,XPart.cells,QB a68];(repeat refine sdQ ?_);refine hK _ ?_;clear hK K;cases h;exact rn (s':=s60+1) hk60 (Qp [(0,0)])
    have g61:¬ (s60<((rx p_.members_ (ix f_.s.fr s46)).length:Int)):=gQ;clear g;replace h:=if_r g61 h;refine Qo (tx (lx (bh (bn ?_))));cases h;have q:_=e60:=hk60;have h:=h60;rw [← q] at h;clear q;(try dsimp only at h);exact jn (b:=()) (zH h) (Qp [(0,0)])
   intro b48 hb48;have h:=h48;(try rw [← hb48] at h);clear h48;(try dsimp only at h);refine runQ hN fun K hK=>?_;replace ⟨a69,h⟩:=Q5 h;simp [eM,eL,eI,Q2,Qg,Qc,SF.cells,XPart.cells,QB a69];(repeat refine sdQ ?_);refine hK _ ?_;clear hK K;cases h;exact rn (s':=s46+1) hk46 (Qp [(0,0)])
  have g47:¬ (s46<(f_.ac.length:Int)):=gQ;clear g;replace h:=if_r g47 h;refine Qo (tx (lx (bh ?_)));cases h;exact jn (b:=()) hk46 (Qp [])
 intro b22 hb22;have h:=h22;try rw [← hb22] at h
 clear h22;try dsimp only at h
 refine Q3 (runQ hN fun K hK=>?_);simp [eM,eL,eI,Q2,Qg,Qc,SF.cells,XPart.cells];repeat refine sdQ ?_
 refine hK _ (tn (Qa (st':=⟨[(4,.val (.bool true))],[],0⟩) (Qp []) (Qj ?_)));clear hK K;have hr:=zH h;rw [← hr];refine ⟨_,(.tmp .nil),?_⟩;refine ⟨(.one rfl rfl .nil),[.val (.bool true)],[],by simp [SF.cells,XPart.cells,UA,U1,IA,I1,LA,L1,BA,B1,EA,E1,E2,eB,eI,eL,QT _ Qc _ (fun _=>rfl),eM],by simp,(UpL.refl _)⟩
end Go.Vc.T
namespace Go.Vc.T
open Go Go.Vc Go.Proofs
attribute [local simp] unk unA unE unT unC flat
noncomputable def Q24 (list_:List Int):Option Bool :=
 (QM (σ:=Int) (ε:=Unit ⊕ Bool) (fun s7 =>
  if s7<(list_.length:Int) then
   ass (0≤s7∧s7<(list_.length:Int)) <|
   ass (B64 (s7 - 1)) <|
   ass (0≤s7 - 1∧s7 - 1<(list_.length:Int)) <|
   if (ix list_ s7)≤(ix list_ (s7 - 1)) then
    some (Ctl.ret (Sum.inr false))
   else
    ass (B64 (s7+1)) <|
    some (Ctl.next (s7+1))
  else
   some (Ctl.ret (Sum.inl ()))) fuel 1).bind fun e1 =>
 match e1 with
 | .inl b1 =>
  some true
 | .inr p1 =>
  some p1
theorem Q7Z [Kd Tryz.prog] (list_:List Int) (r:Bool) (h:Q24 list_=some r):Contract Tryz.prog 126 [lI list_] (.val (.bool r)):=by
 refine Qn (rvs:=[.tmp 2]) (rs:=[.val (.bool r)]) Tryz.func126 rfl rfl rfl rfl (by simp [Tryz.f126]) fun F hN hP=>?_;unfold Q24 at h;refine Q3 (runQ hN fun K hK=>?_);simp [-Int.pred_toNat,eM,eL,eI,Q2];repeat refine sdQ ?_
 refine hK _ ?_;clear hK K;refine tn (Qa (st':=⟨[(0,lI list_)],[],0⟩) (Qp []) (Q3 (Q3 (runQ hN fun K hK=>?_))));simp [-Int.pred_toNat,eM,eL,eI,Q2];repeat refine sdQ ?_
 refine hK _ (tn (Qa (st':=⟨[(0,lI list_),(3,iV 1)],[],0⟩) (Qp []) ?_));clear hK K;replace ⟨e1,h,h1⟩:=bind_some h;refine QI (fun b1:Unit=>⟨[],[],0⟩) (fun b1=>Sum.inl b1=e1) ?_ ?_
 ·refine Q6 (QR h (fun s7:Int=>⟨[(0,lI list_),(3,iV s7)],[],0⟩) (Qp []) ?_);clear h;intro k7 s7 c7 h hk7;refine Q3 (Q3 (runQ hN fun K hK=>?_));simp [-Int.pred_toNat,eM,eL,eI,Q2];repeat refine sdQ ?_
  refine hK _ ?_;clear hK K;refine tn (Q7 rfl (fun g=>?_) fun g=>?_)
  ·have g8:s7<(list_.length:Int):=gQ;clear g;replace h:=if_l g8 h;refine Q8 (tn (Q3 (Q6 (Q3 (runQ hN fun K hK=>?_)))));replace ⟨a9,h⟩:=Q5 h;replace ⟨a10,h⟩:=Q5 h;replace ⟨a11,h⟩:=Q5 h;simp [-Int.pred_toNat,eM,eL,eI,Q2,at_I a9,QB a10,at_I a11];(repeat refine sdQ ?_);refine hK _ ?_;clear hK K;refine tn (Q7 rfl (fun g=>?_) fun g=>?_)
   ·have g12:(ix list_ s7)≤(ix list_ (s7 - 1)):=gQ;clear g;replace h:=if_l g12 h;refine Q3 (runQ hN fun K hK=>?_);simp [-Int.pred_toNat,eM,eL,eI,Q2];(repeat refine sdQ ?_);refine hK _ (tn (Qa (st':=⟨[(2,.val (.bool false))],[],0⟩) (Qp []) (Qj (br (tr (lr (br (tr ?_))))))));clear hK K;cases h;have q:_=e1:=hk7;have h:=h1;rw [← q] at h;clear q;(try dsimp only at h);have hr:=zH h;rw [← hr];refine ⟨_,(.tmp .nil),?_⟩;refine ⟨(.one rfl rfl .nil),[.val (.bool false)],[],by simp [UA,U1,IA,I1,LA,L1,BA,B1,EA,E1,E2,eB,eI,eL,eM],by simp,(UpL.refl _)⟩
   have g12:¬ ((ix list_ s7)≤(ix list_ (s7 - 1))):=gQ;clear g;replace h:=if_r g12 h;refine Q8 (bn (tn (runQ hN fun K hK=>?_)));replace ⟨a13,h⟩:=Q5 h;simp [-Int.pred_toNat,eM,eL,eI,Q2,QB a13];(repeat refine sdQ ?_);refine hK _ ?_;clear hK K;cases h;exact rn (s':=s7+1) hk7 (Qp [])
  have g8:¬ (s7<(list_.length:Int)):=gQ;clear g;replace h:=if_r g8 h;refine Qo (tx (lx (bh ?_)));cases h;exact jn (b:=()) hk7 (Qp [])
 intro b1 hb1;have h:=h1;try rw [← hb1] at h
 clear h1;try dsimp only at h
 refine Q3 (runQ hN fun K hK=>?_);simp [-Int.pred_toNat,eM,eL,eI,Q2];repeat refine sdQ ?_
 refine hK _ (tn (Qa (st':=⟨[(2,.val (.bool true))],[],0⟩) (Qp []) (Qj ?_)));clear hK K;have hr:=zH h;rw [← hr];refine ⟨_,(.tmp .nil),?_⟩;refine ⟨(.one rfl rfl .nil),[.val (.bool true)],[],by simp [UA,U1,IA,I1,LA,L1,BA,B1,EA,E1,E2,eB,eI,eL,eM],by simp,(UpL.refl _)⟩
end Go.Vc.T
namespace Go.Vc.T
open Go Go.Vc Go.Proofs
section
attribute [local simp] Qf QF Qs Q1o QS
theorem Q6E {α β:Type} {o:Option α} {x:α} {K:α→Option β} {r:Option β} (h:o=some x) (k:K x=r):o.bind K=r:=by rw [h];exact k
theorem chk1 {ε β:Type} {body:Int→Option (Ctl Int ε)} {K:ε→Option β} {r:Option β} (n:Nat) (p:Nat→Prop) {eb eg:ε} (hn:n<4611686018427387904)
  (h1:∀ i:Nat,i<n→p i→body ((i:Int)+1)=some (.next ((i:Int)+1+1))) (h2:∀ i:Nat,i<n→¬ p i→body ((i:Int)+1)=some (.ret eb)) (h3:body ((n:Int)+1)=some (.ret eg))
  (hb:(¬ ∀ i:Nat,i<n→p i)→K eb=r) (hg:(∀ i:Nat,i<n→p i)→K eg=r):(QM body fuel 1).bind K=r:=by
 by_cases h:∀ i:Nat,i<n→p i
 ·rw [show QM body fuel 1=some eg from Q3B (fun i:Nat=>(i:Int)+1) n rfl hn (fun i hi=>by rw [h1 i hi (h i hi)];simp) h3];exact hg h
 have hex:∃ i,i<n∧¬ p i:=zI fun hx=>h fun i hi=>zI fun hp=>hx ⟨i,hi,hp⟩;obtain ⟨m,⟨hm,hp⟩,hmin⟩:∃ m,(m<n∧¬ p m)∧∀ k,k<m→¬ (k<n∧¬ p k):=by
  obtain ⟨i,hi⟩:=hex
  induction i using Nat.strongRecOn with
  | _ i ih =>
   by_cases h:∃ k,k<i∧k<n∧¬ p k
   ·obtain ⟨k,h1,h2⟩:=h;exact ih k h1 h2
   exact ⟨i,hi,fun k hk hq=>h ⟨k,hk,hq⟩⟩
 rw [show QM body fuel 1=some eb from Q3B (fun i:Nat=>(i:Int)+1) m rfl (by omega) (fun i hi=>by rw [h1 i (by omega) (zI fun q=>hmin i hi ⟨by omega,q⟩)];simp) (h2 m hm hp)];exact hb h
def Rise (L:List Int):Prop:=∀ i:Nat,i<L.length - 1→ix L i<ix L ((i:Int)+1)
theorem Q94 {L:List Int} (hl:L.length≤1048576):Q2V L=some (bo (Rise L)):=by
 unfold Q2V;refine chk1 (L.length - 1) (fun i=>ix L i<ix L ((i:Int)+1)) (eb:=Sum.inr false) (eg:=Sum.inl ()) (by omega) (fun i hi hp=>?_) (fun i hi hp=>?_) (by rw [if_neg (by omega)]) (fun h=>?_) fun h=>?_
 ·rw [if_pos (by omega),Q4 (by unfold B64;omega),Q4 (by omega),Q4 (by omega),show (i:Int)+1 - 1=i by omega,if_neg (by omega),Q4 (by unfold B64;omega)]
 ·rw [if_pos (by omega),Q4 (by unfold B64;omega),Q4 (by omega),Q4 (by omega),show (i:Int)+1 - 1=i by omega,if_pos (by omega)]
 ·rw [Q1f (show ¬ Rise L from h)]
 rw [Q1m (show Rise L from h)]
theorem Q6i {L:List Int} (hl:L.length≤1048576):Q24 L=some (bo (Rise L)):=by
 unfold Q24;refine chk1 (L.length - 1) (fun i=>ix L i<ix L ((i:Int)+1)) (eb:=Sum.inr false) (eg:=Sum.inl ()) (by omega) (fun i hi hp=>?_) (fun i hi hp=>?_) (by rw [if_neg (by omega)]) (fun h=>?_) fun h=>?_
 ·rw [if_pos (by omega),Q4 (by omega),Q4 (by unfold B64;omega),Q4 (by omega),show (i:Int)+1 - 1=i by omega,if_neg (by omega),Q4 (by unfold B64;omega)]
 ·rw [if_pos (by omega),Q4 (by omega),Q4 (by unfold B64;omega),Q4 (by omega),show (i:Int)+1 - 1=i by omega,if_pos (by omega)]
 ·rw [Q1f (show ¬ Rise L from h)]
 rw [Q1m (show Rise L from h)]
theorem Rise.lt {L:List Int} (h:Rise L) {i d:Nat} (hd:i+d+1<L.length):ix L i<ix L ((i+d+1:Nat):Int):=by
 induction d with
 | zero=>have:=h i (by omega);simpa using this
 | succ d ih =>
  have h1:=ih (by omega);have h2:=h (i+d+1) (by omega);have e:((i+(d+1)+1:Nat):Int)=((i+d+1:Nat):Int)+1:=by omega
  rw [e];omega
theorem Rise.nd {L:List Int} (h:Rise L):L.Nodup:=by
 rw [List.Nodup,List.pairwise_iff_getElem];intro i j hi hj hij e;have:=h.lt (i:=i) (d:=j - i - 1) (by omega);rw [show i+(j - i - 1)+1=j by omega,← QO _ _ hi,← QO _ _ hj] at this;omega
theorem Rise.len {L:List Int} (h:Rise L) {n:Int} (hr:L.all (inR n)=true) (hn:0≤n):(L.length:Int)≤n:=by
 have hx:∀ y∈L,inR n y=true:=List.all_eq_true.1 hr;have key:∀ k:Nat,k<L.length→(k:Int)≤ix L k:=by
  intro k
  induction k with
  | zero=>intro hk;have:=Q1p hx (j:=0) (by omega) (by omega);simpa using this.1
  | succ k ih =>
   intro hk;have h1:=ih (by omega);have h2:=h k (by omega);have e:((k+1:Nat):Int)=(k:Int)+1:=(by omega);rw [e];omega
 rcases Nat.eq_zero_or_pos L.length with h0|h0
 ·omega
 have h1:=key (L.length - 1) (by omega);have h2:=Q1p hx (j:=((L.length - 1:Nat):Int)) (by omega) (by omega);omega
def RowQ (f:SF) (m:List (List Int)) (x:Nat):Prop:=Rise (rx m x)∧(rx m x).all (inR (ix f.sz x))=true
def ArQ (f:SF) (m:List (List Int)) (a:Nat):Prop:=∀ k:Nat,k<(rx m (ix f.s.fr a)).length→ix (rx f.ac a) (ix (rx m (ix f.s.fr a)) k)∈rx m (ix f.s.to a)
def PartQ (f:SF) (m:List (List Int)):Prop:=m.length=f.sz.length∧(∀ x:Nat,x<m.length→RowQ f m x)∧∀ a:Nat,a<f.ac.length→ArQ f m a
theorem e_has {L:List Int} {v:Int} (hl:L.length≤1048576):Q5N L v=some (bo (v∈L)):=by
 unfold Q5N;refine fstJ L.length (fun i=>ix L i=v) (fun _=>Sum.inr true) (Sum.inl ()) (by omega) (fun i hi=>?_) (by rw [if_neg (by omega)]) ?_
 ·rw [if_pos (by omega),Q4 (by omega)]
  by_cases q:ix L i=v
  ·rw [if_pos q,Q1m q];rfl
  rw [if_neg q,Q1f q,Q4 (by unfold B64;omega)];rfl
 by_cases h:v∈L
 ·obtain ⟨i,hi,e⟩:=List.getElem_of_mem h;rcases Q5g L.length (fun i=>ix L i=v) with ⟨_,q⟩|⟨k,_,_,e2⟩
  ·exact absurd (by rw [← QO _ _ hi,e]) (q i hi)
  rw [e2,if_pos (by omega),Q1m h]
 rw [fstN_no fun i hi e=>h (by rw [← e,← QO _ _ hi];exact zL hi),Q1f h];rfl
theorem Q5G {f:SF} (hf:f.Sh) {m:List (List Int)} (hl:m.length=f.sz.length) (hr:∀ x:Nat,x<m.length→RowQ f m x):∀ a:Nat,a<f.ac.length→((0≤ix f.s.fr a∧ix f.s.fr a<m.length)∧0≤ix f.s.to a∧ix f.s.to a<m.length)∧(rx m (ix f.s.fr a)).length≤16∧(rx m (ix f.s.to a)).length≤16∧(a<f.s.fr.length∧a<f.s.to.length) ∧
  ∀ k:Nat,k<(rx m (ix f.s.fr a)).length→0≤ix (rx m (ix f.s.fr a)) k∧ix (rx m (ix f.s.fr a)) k<((rx f.ac a).length:Int):=by
 intro a ha;have hC:=hf.cat.1;have li:=hC.li;have lt:=hC.lt;have ls:=hf.ls;have hla:=hf.la;obtain ⟨q1,q2⟩:=hC.frn (a:=a) (by omega);have e1:((ix f.s.fr a).toNat:Int)=ix f.s.fr a:=by omega
 have e2:((ix f.s.to a).toNat:Int)=ix f.s.to a:=by omega
 have r1:=hr (ix f.s.fr a).toNat (by omega);have r2:=hr (ix f.s.to a).toNat (by omega);unfold RowQ at r1 r2;rw [e1] at r1;rw [e2] at r2;have s1:=Q1p hf.sz (j:=ix f.s.fr a) (by omega) (by omega);have s2:=Q1p hf.sz (j:=ix f.s.to a) (by omega) (by omega);have l1:=r1.1.len r1.2 s1.1;have l2:=r2.1.len r2.2 s2.1;have hac:=(hf.act a ha).1;refine ⟨by omega,by omega,by omega,by omega,fun k hk=>?_⟩;have:=Q1p (List.all_eq_true.1 r1.2) (j:=k) (by omega) (by omega);omega
theorem Q93 {f:SF} (hf:f.Sh) {p:XPart} (hp:∀ x∈p.members_,x.length≤1048576):QK f p=some (bo (PartQ f p.members_)):=by
 unfold QK;generalize hm:p.members_=m at *
 by_cases hl:m.length=f.sz.length
 case neg =>
  rw [if_pos (by omega),Q1f fun q=>hl q.1]
 rw [if_neg (by omega)];have n8:=hf.cat.1.n8;have ls:=hf.ls;have m40:=hf.cat.1.m40;have hla:=hf.la;refine Q1q m.length (fun x=>¬ RowQ f m x) (eb:=fun _=>Sum.inr false) (eg:=Sum.inl ()) (by omega) (fun i hi hq=>?_) (fun i hi hq=>?_) (by rw [if_neg (by omega)]) (fun x hx hq _=>?_) fun hq=>?_
 ·obtain ⟨h1,h2⟩:=Classical.not_not.1 hq;have hs:=Q1p hf.sz (j:=i) (by omega) (by omega);unfold Q1U;rw [if_pos (by omega),Q4 (by omega),Q94 (hp _ (Q46 hi)),Q1m h1];simp only [zM,not_true_eq_false,if_false];rw [Q4 (by omega),Q4 (by unfold B64;omega),h2];simp only [zM,Bool.not_true,Bool.false_eq_true,if_false];rw [Q4 (by unfold B64;omega)]
 ·have hs:=Q1p hf.sz (j:=i) (by omega) (by omega);unfold Q1U;rw [if_pos (by omega),Q4 (by omega),Q94 (hp _ (Q46 hi))];simp only [zM]
  by_cases h1:Rise (rx m i)
  ·have h2:(rx m i).all (inR (ix f.sz i))=false:=by
    cases hh:(rx m i).all (inR (ix f.sz i)) with
    | true=>exact absurd ⟨h1,hh⟩ hq
    | false=>rfl
   rw [Q1m h1];simp only [not_true_eq_false,if_false];rw [Q4 (by omega),Q4 (by unfold B64;omega),h2];rfl
  rw [Q1f h1];rfl
 ·rw [Q1f fun q=>hq (q.2.1 x hx)]
 have hq':∀ x:Nat,x<m.length→RowQ f m x:=fun x hx=>Classical.not_not.1 (hq x hx);have hF:=Q5G hf hl hq';simp only;refine Q1q f.ac.length (fun a=>¬ ArQ f m a) (eb:=fun _=>Sum.inr false) (eg:=Sum.inl ()) (by omega) (fun a ha hr=>?_) (fun a ha hr=>?_) (by rw [if_neg (by omega)]) (fun a ha hr _=>?_) fun hr=>?_
 ·obtain ⟨b1,b2,b3,b4,b5⟩:=hF a ha;rw [if_pos (by omega),Q4 (by omega),Q4 (by omega),Q4 (by omega)];refine Q6E (x:=Sum.inl ()) ?_ (by simp only;rw [Q4 (by unfold B64;omega)]);refine Q1q (rx m (ix f.s.fr a)).length (fun _=>False) (eb:=fun _=>Sum.inr ()) (eg:=Sum.inr ()) (by omega) (fun k hk _=>?_) (fun k hk q=>q.elim) (by rw [if_neg (by omega)]) (fun k hk q _=>q.elim) fun _=>rfl;have hb:=b5 k hk;rw [if_pos (by omega),Q4 (by omega),Q4 (by omega),Q4 (by omega),Q4 (by omega),e_has (by omega),Q1m (Classical.not_not.1 hr k hk)];simp only [zM,not_true_eq_false,if_false];rw [Q4 (by unfold B64;omega)]
 ·obtain ⟨b1,b2,b3,b4,b5⟩:=hF a ha;rw [if_pos (by omega),Q4 (by omega),Q4 (by omega),Q4 (by omega)];refine Q6E (x:=Sum.inr false) ?_ rfl;refine Q1q (rx m (ix f.s.fr a)).length (fun k=>¬ ix (rx f.ac a) (ix (rx m (ix f.s.fr a)) k)∈rx m (ix f.s.to a)) (eb:=fun _=>Sum.inl false) (eg:=Sum.inr ()) (by omega) (fun k hk q=>?_) (fun k hk q=>?_) (by rw [if_neg (by omega)]) (fun k hk q _=>rfl) fun q=>absurd (fun k hk=>Classical.not_not.1 (q k hk)) hr
  ·have hb:=b5 k hk;rw [if_pos (by omega),Q4 (by omega),Q4 (by omega),Q4 (by omega),Q4 (by omega),e_has (by omega),Q1m (Classical.not_not.1 q)];simp only [zM,not_true_eq_false,if_false];rw [Q4 (by unfold B64;omega)]
  have hb:=b5 k hk;rw [if_pos (by omega),Q4 (by omega),Q4 (by omega),Q4 (by omega),Q4 (by omega),e_has (by omega),Q1f q];simp
 ·simp only;rw [Q1f fun q=>hr (q.2.2 a ha)]
 simp only;rw [Q1m ⟨hl,hq',fun a ha=>Classical.not_not.1 (hr a ha)⟩]
end
end Go.Vc.T
namespace Go.Vc.T
open Go Go.Vc Go.Proofs
attribute [local simp] unk unA unE unT unC flat Qc XPart.cells
noncomputable def Q11 (x_:Int) (c0_:XPart):Option (List Int) :=
 ass (0≤x_∧x_<(c0_.members_.length:Int)) <|
 some (rx c0_.members_ x_)
theorem Q3x [Kd Tryz.prog] (x_:Int) (c0_:XPart) (r:List Int) (h:Q11 x_ c0_=some r):FContract Tryz.prog true 49 [iV x_,.rptr (YM c0_ [])] (lI r):=by
 refine Q3k true (ts:=[3]) (rs:=[lI r]) Tryz.func49 rfl rfl rfl rfl (by simp [Tryz.f49]) fun F hN hP=>?_;unfold Q11 at h;refine Q3 (Q1R [] mo (by rw [hN];decide) fun K hK=>?_);simp [eM,eL,eI,Q2,Qc,XPart.cells];repeat refine sdQ ?_
 refine hK _ ?_;clear hK K;refine tn (Qa (st':=⟨[(0,iV x_),(1,.rptr (YM c0_ []))],[],0⟩) (Qp []) (Q3 (Q1R [] mo (by rw [hN];decide) fun K hK=>?_)));replace ⟨a1,h⟩:=Q5 h;simp [eM,eL,eI,Q2,Qc,XPart.cells,at_L a1];repeat refine sdQ ?_
 refine hK _ (tn (Qa (st':=⟨[(3,lI (rx c0_.members_ x_))],[],0⟩) (Qp []) (Qj ?_)));clear hK K;have hr:=zH h;rw [← hr];exact (.two .lst .nil)
end Go.Vc.T
namespace Go.Vc.T
open Go Go.Vc Go.Proofs
attribute [local simp] unk unA unE unT unC flat
noncomputable def Qv (x_:Int) (c0_:XPart):Option (List (List Int)) :=
 (Q11 x_ c0_).bind fun v1 =>
 (QM (σ:=List (List Int) × Int) (ε:=List (List Int)) (fun s7 =>
  if s7.2<(v1.length:Int) then
   ass (0≤s7.2∧s7.2<(v1.length:Int)) <|
   ass ((s7.1++[[ix v1 s7.2]]).length≤1073741824) <|
   ass (B64 (s7.2+1)) <|
   some (Ctl.next (s7.1++[[ix v1 s7.2]],s7.2+1))
  else
   some (Ctl.ret s7.1)) fuel ([],0)).bind fun b2 =>
 some b2
theorem Q25 [Kd Tryz.prog] (x_:Int) (c0_:XPart) (r:List (List Int)) (h:Qv x_ c0_=some r):Contract Tryz.prog 91 [iV x_,.rptr [.fn 49 [.rptr (YM c0_ [])]]] (.lst true 1 (Ls r)):=by
 refine Qn (rvs:=[.tmp 3]) (rs:=[.lst true 1 (Ls r)]) Tryz.func91 rfl rfl rfl rfl (by simp [Tryz.f91]) fun F hN hP=>?_;unfold Qv at h;refine Q3 (runQ hN fun K hK=>?_);simp [eM,eL,eI,Q2];repeat refine sdQ ?_
 refine hK _ ?_;clear hK K;refine tn (Qa (st':=⟨[(0,iV x_),(1,.rptr [.fn 49 [.rptr (YM c0_ [])]])],[],0⟩) (Qp []) (Q3 (runQ hN fun K hK=>?_)));simp [eM,eL,eI,Q2];repeat refine sdQ ?_
 refine hK _ ?_;clear hK K;refine tn (Qa (st':=⟨[(0,iV x_),(1,.rptr [.fn 49 [.rptr (YM c0_ [])]]),(4,.own 0 0 0)],[(0,.mix 1 [])],1⟩) (Qp [(0,0)]) (Q3 (Q3 (Q1R [] mo (by rw [hN];decide) fun K hK=>?_))));simp [eM,eL,eI,Q2];repeat with_reducible refine sdQ ?_
 replace ⟨v1,hv1,h⟩:=bind_some h;refine Q7a (fz:=[]) true (Q3x _ _ v1 hv1) (PurK.ofN (.cons .val (.cons .rptr .nil))) ?_;simp [eM,eL,eI,Q2];repeat refine sdQ ?_
 refine hK _ (tn (Qa (st':=⟨[(4,.own 0 0 0),(10,lI v1),(11,iV (v1.length:Int)),(12,iV 0)],[(0,.mix 1 [])],1⟩) (Qp [(0,0)]) ?_));clear hK K;replace ⟨e2,h,h2⟩:=bind_some h;refine QI (fun b2:List (List Int)=>⟨[(4,.own 0 0 b2.length)],[(0,.row 1 (Ls b2))],1⟩) (fun b2=>b2=e2) ?_ ?_
 ·refine Q6 (QR h (fun s7:List (List Int) × Int=>⟨[(4,.own 0 0 s7.1.length),(10,lI v1),(11,iV (v1.length:Int)),(12,iV s7.2)],[(0,.row 1 (Ls s7.1))],1⟩) (Q6e ⟨[(4,.own 0 0 0),(10,lI v1),(11,iV (v1.length:Int)),(12,iV 0)],[(0,.row 1 (Ls []))],1⟩ (Wk.nils [] (by simp) (by simp) (by simp [nlA]) (by simp [entN,nlL,nlA,UA,U1,IA,I1,LA,L1,BA,B1,EA,E1,E2,eB,eI,eL,eM]) (by simp)) (Qp [(0,0)])) ?_);clear h;intro k7 s7 c7 h hk7;refine Q3 (runQ hN fun K hK=>?_);simp [eM,eL,eI,Q2];repeat refine sdQ ?_
  refine hK _ ?_;clear hK K;refine tn (Q3 (Q7 rfl (fun g=>?_) fun g=>?_))
  ·have g8:s7.2<(v1.length:Int):=gQ;clear g;replace h:=if_l g8 h;refine Q8 (tn (Q3 (Q6 (Q3 (runQ hN fun K hK=>?_)))));replace ⟨a9,h⟩:=Q5 h;simp [eM,eL,eI,Q2,at_I a9];(repeat refine sdQ ?_);refine hK _ ?_;clear hK K;refine tn (Qa (st':=⟨[(4,.own 0 0 s7.1.length),(6,iV (ix v1 s7.2)),(10,lI v1),(11,iV (v1.length:Int)),(12,iV s7.2)],[(0,.row 1 (Ls s7.1))],1⟩) (Qp [(0,0)]) (runQ hN fun K hK=>?_));replace ⟨a10,h⟩:=Q5 h;(try simp only [qK,qJ,zD] at a10);simp [eM,eL,eI,Q2,a10];(repeat refine sdQ ?_);refine hK _ ?_;clear hK K;refine bn (tn (Qa (st':=⟨[(4,.own 0 0 ((s7.1++[[ix v1 s7.2]]).length)),(10,lI v1),(11,iV (v1.length:Int)),(12,iV s7.2)],[(0,.row 1 (Ls (s7.1++[[ix v1 s7.2]])))],1⟩) (Qp [(3,0)]) (runQ hN fun K hK=>?_)));replace ⟨a11,h⟩:=Q5 h;simp [eM,eL,eI,Q2,QB a11];(repeat refine sdQ ?_);refine hK _ ?_;clear hK K;cases h;exact rn (s':=(s7.1++[[ix v1 s7.2]],s7.2+1)) hk7 (Qp [(0,0)])
  have g8:¬ (s7.2<(v1.length:Int)):=gQ;clear g;replace h:=if_r g8 h;refine Qo (tx (lx (bh ?_)));cases h;exact jn (b:=s7.1) hk7 (Qp [(0,0)])
 intro b2 hb2;have h:=h2;try rw [← hb2] at h
 clear h2;try dsimp only at h
 refine Q3 (runQ hN fun K hK=>?_);simp [eM,eL,eI,Q2];repeat refine sdQ ?_
 refine hK _ (tn (Qa (st':=⟨[(3,.own 0 0 b2.length)],[(0,.row 1 (Ls b2))],1⟩) (Qp [(0,0)]) (Qj ?_)));clear hK K;have hr:=zH h;rw [← hr];refine ⟨_,(.tmp .nil),?_⟩;refine ⟨(.one rfl rfl .nil),[.lst true 1 (Ls b2)],[0],by simp [UA,U1,IA,I1,LA,L1,BA,B1,EA,E1,E2,eB,eI,eL,eM],by simp,(UpL.refl _)⟩
end Go.Vc.T
