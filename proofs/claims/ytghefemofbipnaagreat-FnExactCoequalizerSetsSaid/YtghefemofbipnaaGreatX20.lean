/- A part of the proof. -/
import Derived.Test.YtghefemofbipnaaGreatX19
import Derived.Conc.BesideWords
set_option maxRecDepth 100000
set_option maxHeartbeats 4000000
set_option linter.unusedSimpArgs false
set_option linter.unusedVariables false
set_option linter.unusedSectionVars false
set_option linter.unnecessarySimpa false

namespace Go.Proofs
open Go Go.Conc Go.ConcN Go.RowKit Go.Conc.Lib Go.ConcR.Gen Go.ConcN.Gen Go.Vc Go.Vc.Wg
section
attribute [local simp] Qd Qt Ql
open Go.ConcR (KK wgBlock WgAt stA smA rd wr mk Payload DC0)
variable [Payload]
noncomputable def Q9k:Code:=Tryz.f95.body.getD .skip
noncomputable def opsC:Array Oper:=match Q9k with|.seq _ (.region _ ops _)=>ops|_=>#[]
noncomputable def botG:Frame:={ (default:Frame) with fn:=Tryz.prog.funcs.size,defers:=[],mode:=.panicking [goexitEntry] }
noncomputable def frC (Wg bT bX:Nat) (f x:Value):Frame:=(baseD 95).at ⟨#[.pointer (some ⟨Wg,0,none⟩),.pointer (some ⟨bT,0,none⟩),.pointer (some ⟨bX,0,none⟩),f,x,undef],[dcall 96 #[.pointer (some ⟨Wg,0,none⟩)]]⟩ [.inRegion opsC [2]]
theorem quitsTail (T:Array Value) (k:List Item):QuitsD Tryz.prog 2 0 (G { (baseD 95).at ⟨T,[]⟩ k with mode:=.returning } [botG]):=by
 refine QuitsD.ctl (g':=G botG []) rfl (fun w=>?_) ?_
 ·simp [G,stepG,unwind,doReturn,results,Frame.at,baseD,botG,Tryz.func95,Tryz.f95,seen,GStep.after,goexitEntry]
 refine QuitsD.ctl (g':={ G botG [] with status:=.finished }) rfl (fun w=>?_) ⟨rfl,rfl⟩;simp [G,stepG,unwind,botG,goexitEntry,Frame.catches];rfl
set_option maxRecDepth 100000 in
theorem Qaa {Wg C n k bT bX:Nat} {val f x:Value} (w:World) (hK:WgLive 123 Wg w∧Has C k val w) :
  Goes Tryz.prog false (RW 123 Wg C n 0 k) DC0 (AtR0 Tryz.prog 123 Wg C n 0 (k+1) val) 40 (G ((frC Wg bT bX f x).finish (.tuple #[])) [botG]) w:=by
 have hA:=fun (c:Frame) (h1:c.mode = .returning) (h2:QuitsD Tryz.prog 2 0 (G c [botG])) (w:World) (h3:WgLive 123 Wg w∧Has C k val w)=>done (L:=Tryz.link) Tryz.wgLib (C:=C) (n:=n) h1 h2 w h3.1 h3.2;simp only [frC,opsC,Q9k,Tryz.f95,Option.getD_some,body_done,doneFn] at hA ⊢;simp only [Frame.finish_at]
 walk_nrm
 u_c stepG_region_end kn_rely hK
 u_c stepG_end kn_rely hK
 u_unwB kn_rely hK Tryz.func96 (nm_done Tryz.link) Tryz.f96
 exact (hA _ rfl (quitsTail _ _) _ hK).mono (by omega)
end
end Go.Proofs
