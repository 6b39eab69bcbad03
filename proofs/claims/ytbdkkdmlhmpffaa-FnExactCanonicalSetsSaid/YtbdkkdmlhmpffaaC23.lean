/- A part of the proof: a verified generator of conditions, and what each function of the program does. -/
import Derived.Test.YtbdkkdmlhmpffaaC22
import Derived.Conc.Fork
set_option maxRecDepth 100000
set_option maxHeartbeats 4000000
set_option linter.unusedSimpArgs false
set_option linter.unusedVariables false
set_option linter.unusedSectionVars false
set_option linter.unnecessarySimpa false

namespace Go.Vc
open Go Go.Conc Go.Vc.Ph
section
attribute [local simp] Qc QC Qq
theorem Qb3 {P:Program} {a a':Goroutine} {w w':World} {es:Array Event} (hs:a.status = .running) (h:stepG P true a w = .go a' w' es):step P (solo a w) = .next (solo a' w'):=by
 rw [Go.step,stepT_solo hs,runT_solo_go h]
def TA (P:Program) (W0:World) (S0:Nat→Prop) (f:FuncId) (cs:List Frame) (Post:Value→World→Prop) (g:Goroutine) (v:World):Prop :=
 ∀ v₁,Rly v v₁→∀ w,Under v₁ w→(∀ b,S0 b→Shut v₁ b∧w.heap[b]? = W0.heap[b]?) →
  ∃ fr x w',Steps P (solo g w) (lone fr cs w')∧fr.fn=f∧fr.leaving P w' (.returned x)∧Post x w'
theorem TA.step {P:Program} {W0:World} {S0:Nat→Prop} {f:FuncId} {cs:List Frame} {Post:Value→World→Prop} {g:Goroutine} {v:World} (hg:g.status = .running)
  (h:∀ v₁,Rly v v₁→∃ g' v',SimStep P true g v₁ g' v'∧TA P W0 S0 f cs Post g' v'):TA P W0 S0 f cs Post g v:=by
 intro v₁ r w U k;obtain ⟨g',v',hs,hT⟩:=h v₁ r;obtain ⟨w',es,hgo,U',K',_⟩:=hs w U;obtain ⟨fr,x,w2,h1,h2⟩:=hT v' (.refl _) w' U' fun b hb=>by
  obtain ⟨k1,k2⟩:=k b hb;exact ⟨K'.shut' k1,(K'.shut b k1).2.trans k2⟩
 exact ⟨fr,x,w2,.head (Qb3 hg hgo) h1,h2⟩
@[reducible] def KdA (P:Program) (W0:World) (S0:Nat→Prop):Kd P where
 main:=true
 adm:=fun T=>∃ f cs Post,T=TA P W0 S0 f cs Post
 rly:=by rintro T ⟨f,cs,Post,rfl⟩ g v v₁ h r v₂ r2;exact h v₂ (r.trans r2)
 step:=by rintro T ⟨f,cs,Post,rfl⟩ g v hg h;exact TA.step hg h
theorem Q8x {P:Program} {W:World} {f:FuncId} {vals:Array Value} {R:Ending→World→Prop} {R':Ending→World→Prop}
  (h : @Callz P (KdA P W (fun b=>b<W.heap.size)) f vals (frz W) R)
  (hR:∀ v w',R (.returned v) w'→Blw (frz W).heap.size (frz W) w'∧∀ w,RowKit.Below W.heap.size W w→R' (.returned v) w):Calls P f vals W R':=by
 letI:Kd P:=KdA P W (fun b=>b<W.heap.size)
 intro cs;have key:TA P W (fun b=>b<W.heap.size) f cs (fun v w=>R' (.returned v) w) (G (Frame.enter P f vals .normal) cs) (frz W):=by
  refine h cs _ ⟨f,cs,_,rfl⟩ fun v w' fr hr hfn hl=>?_;intro v₁ r w U k;obtain ⟨hb,hp⟩:=hR v w' hr;obtain ⟨hm,hdf,hk,fn,hf,hrr⟩:=hl;have hL:=Q3i fn fr.tmps;obtain ⟨_,h1⟩:=hL.run r U hrr;obtain ⟨w2,h2,h3,h4,h5⟩:=hL.tame.sim U h1;have e0:w2=w:=by first|exact hL.world h2|exact (hL.world h2).symm
  rw [e0] at h2;have hs:W.heap.size≤w.heap.size:=by
   rw [U.size];have:=hb.size;rw [frz_size] at this;exact Nat.le_trans this r.size
  exact ⟨fr,v,w,.refl _ _,hfn,⟨hm,hdf,hk,fn,hf,h2⟩,hp w ⟨U.os.trans (r.os.trans hb.os),U.tape.trans (r.tape.trans hb.tape.1),U.output.trans (r.output.trans hb.output),hs,fun k' hk'=>(k k' hk').2⟩⟩
 obtain ⟨fr,x,w',h1,h2,h3,h4⟩:=key (frz W) (.refl _) W (under_frz W) fun b hb=>⟨frz_shut hb,rfl⟩;exact ⟨.returned x,w',fr,h4,h1,h2,h3⟩
end
end Go.Vc
