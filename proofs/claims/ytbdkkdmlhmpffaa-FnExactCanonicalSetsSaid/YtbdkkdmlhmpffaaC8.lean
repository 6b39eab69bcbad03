/- A part of the proof: a verified generator of conditions, and what each function of the program does. -/
import Derived.Test.YtbdkkdmlhmpffaaC7
import Derived.Conc.CrowdStepC2
import Derived.Conc.FxEnd
set_option maxRecDepth 100000
set_option maxHeartbeats 4000000
set_option linter.unusedSimpArgs false
set_option linter.unusedVariables false
set_option linter.unusedSectionVars false
set_option linter.unnecessarySimpa false

namespace Go.Vc.Ph
open Go Go.Conc
open Go.ConcN (fork_knows RelBy)
open Go.ConcR (stA smA)
open Go.ConcX (OfWg)
def Q8y:Loc→Option Nat
 | .cell a=>some a.block
 | .obj r=>some r
 | _=>none
def Vis (t:Trace) (g:Nat) (v:World):Prop:=∀ i x b,touchAt t i=some x→x.loc.isMemory=true→Q8y x.loc=some b→¬ Blk v b→(x.write=true∨¬ Shut v b)→Knows t g i
theorem Q64 {act:MemAct} {x:Touch} {b B:Nat} (h:act.low B) (hx:act.touch? = some x) (hb:Q8y x.loc=some b):b<B:=by
 cases act with
 | access e =>
  simp only [MemAct.touch?,Option.some.injEq] at hx;subst hx;obtain ⟨loc,w,s⟩:=e;cases loc<;>simp_all [Q8y,MemAct.low,Loc.low]
 | mark m =>
  cases m<;>simp_all [MemAct.touch?];all_goals (subst hx;simp_all [Q8y,MemAct.low])
 | _=>simp [MemAct.touch?] at hx
theorem Vis.mono {t:Trace} {g B:Nat} {v v':World} (h:Vis t g v) (low:∀ op∈t,op.act.low B) (hb:∀ b,b<B→Blk v b→Blk v' b) (hs:∀ b,b<B→Shut v b→Shut v' b):Vis t g v':=by
 intro i x b hx hm hl hn hw;obtain ⟨op,ho,hox⟩:=touch_of hx;have hlt:=Q64 (low op (Array.mem_of_getElem? ho)) hox hl;exact h i x b hx hm hl (fun q=>hn (hb b hlt q)) (hw.imp id fun q r=>q (hs b hlt r))
def Part (c j g:Nat):Prop:=g=0∨(c≤g∧g<c+j)
def Apart (c j:Nat) (V:Nat→World) (B:Nat):Prop:=∀ g g',Part c j g→Part c j g'→g ≠ g'→∀ b,b<B→Shut (V g) b∨Blk (V g') b
structure Trc (Wg C c j:Nat) (Shun:Loc→Prop) (V:Nat→World) (B:Nat) (t:Trace):Prop where
 nr:∀ said,¬ Race said t
 low:∀ op∈t,op.act.low B
 vis:∀ g,Part c j g→Vis t g (V g)
 wg:Quiet (OfWg Wg) t
 cell:∀ k,k<j→Perm t (c+k) (.cell ⟨C,k,none⟩)
 rest:∀ k,j≤k→Perm t 0 (.cell ⟨C,k,none⟩)
 past:∀ i x,touchAt t i=some x→x.loc.isMemory=true→(∃ k,k<j∧t.g? i=some (c+k))∨Knows t 0 i∨(Shun x.loc∧x.kind = .atomic)
 over:∀ i g,t.g? i=some g→g ≠ 0→(∀ k,k<j→g ≠ c+k)→t.counts i→∃ j',t.g? j'=some 0∧HappensBefore t i j'
 norel:NoRelease (stA Wg) t
def Okt (Wg C c j:Nat) (V:Nat→World) (B g:Nat) (x:Touch):Prop :=
 (OfWg Wg x.loc∧x.kind ≠ .plain∧(x.kind = .said→g=0)) ∨
 (∃ b,Q8y x.loc=some b∧b ≠ Wg∧b ≠ C∧(b<B→¬ Blk (V g) b∧(x.write=true→¬ Shut (V g) b))) ∨
 (∃ k,k<j∧g=c+k∧x.loc = .cell ⟨C,k,none⟩)
section
variable {Wg C c j B B':Nat} {Shun:Loc→Prop} {V V':Nat→World} {t u:Trace} {g:Nat}
theorem Trc.app (h:Trc Wg C c j Shun V B t) (hc:0<c) (hCW:C ≠ Wg) (hCB:C<B) (A:Apart c j V B) (hWB:∀ g,Part c j g→Blk (V g) Wg∧Blk (V g) C) (hBB:B≤B')
  (hg:Part c j g) (hu:∀ op∈u,op.g=g∧op.act.low B'∧op.act ≠ .mark (.release (stA Wg))∧∀ x,op.act.touch? = some x→Okt Wg C c j V B g x)
  (mb:∀ g',Part c j g'→∀ b,b<B→(Blk (V g') b→Blk (V' g') b)∧(Shut (V g') b→Shut (V' g') b))
  (new:∀ g',Part c j g'→g' ≠ g→∀ b,B≤b→b<B'→Blk (V' g') b):Trc Wg C c j Shun V' B' (t++u):=by
 have ug:∀ op∈u,op.g=g:=fun op hop=>(hu op hop).1;have old:∀ {i:Nat} {x:Touch},touchAt (t++u) i=some x→(touchAt t i=some x)∨∃ op∈u,op.act.touch? = some x∧Knows (t++u) g i∧(t++u).g? i=some g:=by
  intro i x hx;obtain ⟨op,ho,hox⟩:=touch_of hx;rcases getElem?_append_cases ho with ⟨_,ho'⟩|⟨_,hou⟩
  ·exact .inl (by rw [touchAt_of ho'];exact hox)
  have:=knows_own ho;rw [ug op hou] at this;exact .inr ⟨op,hou,hox,this,by simp [Trace.g?,ho,ug op hou]⟩
 have lowt:∀ {i:Nat} {x:Touch} {b:Nat},touchAt t i=some x→Q8y x.loc=some b→b<B:=by
  intro i x b hx hb;obtain ⟨op,ho,hox⟩:=touch_of hx;exact Q64 (h.low op (Array.mem_of_getElem? ho)) hox hb
 refine ⟨fun said=>noRace_append (h.nr said) ug fun i a ha op hop b hb hcf=>?_,seen_app (fun op hop=>MemAct.low_mono hBB (h.low op hop)) fun op hop=>(hu op hop).2.1,fun g' hg' i x b hx hm hl hn hw=>?_,?_,fun k hk i x hx hl=>?_,fun k hk i x hx hl=>?_,fun i x hx hm=>?_,fun i g' hgi hne hnk hct=>?_,h.norel.app fun op hop=>(hu op hop).2.2.1⟩
 ·
  rcases (hu op hop).2.2.2 b hb with ⟨hs,hk,hsd⟩|⟨bb,hl,hbW,hbC,hok⟩|⟨k,hk,hgk,hl⟩
  ·exact h.wg.known hs hk hsd i a ha hcf
  ·have hl':Q8y a.loc=some bb:=(by rw [hcf.1];exact hl);obtain ⟨h1,h2⟩:=hok (lowt ha hl');refine h.vis g hg i a bb ha hcf.2.1 hl' h1 ?_;rcases hcf.2.2.1 with e|e
   ·exact .inl e
   exact .inr (h2 e)
  rw [hgk];exact h.cell k hk i a ha (hcf.1.trans hl)
 ·
  rcases old hx with hx'|⟨op,hop,hox,hkn,_⟩
  ·exact ((h.vis g' hg').mono h.low (fun b hb=>(mb g' hg' b hb).1) (fun b hb=>(mb g' hg' b hb).2) i x b hx' hm hl hn hw).app u
  by_cases e:g'=g
  ·rw [e];exact hkn
  exfalso;rcases Nat.lt_or_ge b B with hb|hb
  ·rcases (hu op hop).2.2.2 x hox with ⟨⟨a,ha,hab⟩,_⟩|⟨bb,hbl,hbW,hbC,hok⟩|⟨k,hk,hgk,hlc⟩
   ·rw [ha] at hl;cases hl;have:=(hWB g' hg').1;rw [← hab] at this;exact hn ((mb g' hg' _ hb).1 this)
   ·rw [hl] at hbl;cases hbl;obtain ⟨h1,h2⟩:=hok hb;rcases hw with e1|e1
    ·rcases A g g' hg hg' (Ne.symm e) b hb with q|q
     ·exact h2 e1 q
     exact hn ((mb g' hg' _ hb).1 q)
    rcases A g' g hg' hg e b hb with q|q
    ·exact e1 ((mb g' hg' _ hb).2 q)
    exact h1 q
   rw [hlc] at hl;cases hl;exact hn ((mb g' hg' _ hb).1 (hWB g' hg').2)
  exact hn (new g' hg' e b hb (Q64 (hu op hop).2.1 hox hl))
 ·refine h.wg.app fun op hop x hx hs=>?_;rcases (hu op hop).2.2.2 x hx with ⟨_,hk,hsd⟩|⟨bb,hl,hbW,hbC,hok⟩|⟨k,hk,hgk,hl⟩
  ·exact ⟨hk,fun e=>(ug op hop).trans (hsd e)⟩
  ·obtain ⟨a,ha,hab⟩:=hs;rw [ha] at hl;cases hl;exact absurd hab hbW
  obtain ⟨a,ha,hab⟩:=hs;rw [ha] at hl;cases hl;exact absurd hab hCW
 ·rcases old hx with hx'|⟨op,hop,hox,hkn,_⟩
  ·exact (h.cell k hk i x hx' hl).app u
  rcases (hu op hop).2.2.2 x hox with ⟨⟨a,ha,hab⟩,_⟩|⟨bb,hbl,hbW,hbC,hok⟩|⟨k',hk',hgk,hl'⟩
  ·rw [hl] at ha;cases ha;exact absurd hab hCW
  ·rw [hl] at hbl;cases hbl;exact absurd rfl hbC
  rw [hl] at hl';cases hl';rw [← hgk];exact hkn
 ·rcases old hx with hx'|⟨op,hop,hox,hkn,_⟩
  ·exact (h.rest k hk i x hx' hl).app u
  rcases (hu op hop).2.2.2 x hox with ⟨⟨a,ha,hab⟩,_⟩|⟨bb,hbl,hbW,hbC,hok⟩|⟨k',hk',hgk,hl'⟩
  ·rw [hl] at ha;cases ha;exact absurd hab hCW
  ·rw [hl] at hbl;cases hbl;exact absurd rfl hbC
  rw [hl] at hl';cases hl';omega
 ·rcases old hx with hx'|⟨op,hop,hox,hkn,hgi⟩
  ·have hi:i<t.size:=(by obtain ⟨op,ho,_⟩:=touch_of hx';exact lt_size_of_getElem? ho);rcases h.past i x hx' hm with ⟨k,hk,hgk⟩|hk|hk
   ·exact .inl ⟨k,hk,by rw [g?_old hi];exact hgk⟩
   ·exact .inr (.inl (hk.app u))
   exact .inr (.inr hk)
  rcases hg with e|⟨h1,h2⟩
  ·rw [e] at hkn;exact .inr (.inl hkn)
  exact .inl ⟨g - c,by omega,by rw [hgi];congr 1;omega⟩
 rcases Nat.lt_or_ge i t.size with hi|hi
 ·obtain ⟨j',h1,h2⟩:=h.over i g' (by rw [← g?_old (u:=u) hi];exact hgi) hne hnk ((counts_old hi).1 hct);have hj':j' < t.size:=by
   obtain ⟨z,hz,_⟩:=Option.map_eq_some_iff.1 h1;exact lt_size_of_getElem? hz
  exact ⟨j',by rw [g?_old hj'];exact h1,hb_app u h2⟩
 obtain ⟨op,ho,hog⟩:=Option.map_eq_some_iff.1 hgi;rcases getElem?_append_cases ho with ⟨hlt,_⟩|⟨_,hou⟩
 ·omega
 rw [ug op hou] at hog;subst hog;rcases hg with e|⟨h1,h2⟩
 ·exact absurd e hne
 exact absurd (show g=c+(g - c) by omega) (hnk (g - c) (by omega))
end
structure RelC (Wg:Nat) (t:Trace) (k r:Nat):Prop where
 rel:RelBy (stA Wg) t k r
 own:∀ i x,r<i→t.g? i=some k→touchAt t i=some x→OfWg Wg x.loc
theorem RelC.new {Wg:Nat} {t:Trace} {k:Nat} (hd:Deaf t k=0) (fn:FuncId) (pos:String):RelC Wg (t++MemOp.ofEvents k fn pos #[Go.ConcR.mk (.releaseMerge (stA Wg))]) k t.size:=by
 refine ⟨RelBy.new hd fn pos,fun i x hi hg hx=>?_⟩;obtain ⟨op,ho,hox⟩:=touch_of hx;have e1:MemOp.ofEvents k fn pos #[Go.ConcR.mk (.releaseMerge (stA Wg))] = #[{ g:=k,fn,pos,act:=.mark (.releaseMerge (stA Wg)) }]:=by rw [ofEvents_eq];simp [Go.ConcR.ofEvent_mk]
 rw [e1] at ho;have:=lt_size_of_getElem? ho;simp at this;omega
end Go.Vc.Ph
