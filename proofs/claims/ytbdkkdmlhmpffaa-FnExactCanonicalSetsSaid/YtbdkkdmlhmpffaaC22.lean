/- A part of the proof: a verified generator of conditions, and what each function of the program does. -/
import Derived.Test.YtbdkkdmlhmpffaaC21
set_option maxRecDepth 100000
set_option maxHeartbeats 4000000
set_option linter.unusedSimpArgs false
set_option linter.unusedVariables false
set_option linter.unusedSectionVars false
set_option linter.unnecessarySimpa false

namespace Go.Vc
open Go Go.Conc Go.Vc.Ph Go.Vc.Wg
section
attribute [local simp] Qc QC Qq
inductive NoM:AV→Prop
 | val {v}:NoM (.val v)
 | lst {u sz es}:(∀ e∈es,∀ c∈e,NoM c)→NoM (.lst u sz es)
 | rptr {cs}:(∀ c∈cs,NoM c)→NoM (.rptr cs)
 | fn {f az}:(∀ c∈az,NoM c)→NoM (.fn f az)
 | bnd {f az}:(∀ c∈az,NoM c)→NoM (.bnd f az)
theorem Q2G {α:Type} {l:List α} {i:Nat} {d:α} (h:i<l.length):l.getD i d∈l:=by
 rw [List.getD_eq_getElem?_getD,List.getElem?_eq_getElem h,Option.getD_some];exact List.getElem_mem h
def SameC (w w':World) (b:Nat):Prop:=∀ c e f,w.heap[b]? = some (.cells c e f)→∃ f',w'.heap[b]? = some (.cells c e f')
theorem RRel.view {w w':World} {R R':Nat→Prop} (hR:∀ b,R b→R' b∧SameC w w' b) {v:Value} {a:AV} (h:RRel w R v a):NoM a→RRel w' R' v a:=by
 induction h with
 | val h=>exact fun _=>.val h
 | nil h=>exact fun _=>.nil h
 | @lst u sz es b x cap cur e fr us hb hh h1 h2 h3 h4 h5 _ ih =>
  intro hn;obtain ⟨f',hh'⟩:=(hR _ hb).2 _ _ _ hh;cases hn with
  | lst hn=>exact .lst us (hR _ hb).1 hh' h1 h2 h3 h4 h5 fun i k hi hk=>ih i k hi hk (hn _ (Q2G hi) _ (Q2G (by rw [h3 i hi];exact hk)))
 | @rptr cs b x cur e fr us hb hh h1 h2 _ ih =>
  intro hn;obtain ⟨f',hh'⟩:=(hR _ hb).2 _ _ _ hh;cases hn with
  | rptr hn=>exact .rptr us (hR _ hb).1 hh' h1 h2 fun k hk=>ih k hk (hn _ (Q2G hk))
 | fn h1 _ ih =>
  intro hn;cases hn with
  | fn hn=>exact .fn h1 fun k hk=>ih k hk (hn _ (Q2G hk))
 | bnd h1 _ ih =>
  intro hn;cases hn with
  | bnd hn=>exact .bnd h1 fun k hk=>ih k hk (hn _ (Q2G hk))
 | ifc=>intro hn;cases hn
 | ifs=>intro hn;cases hn
 | cmap=>intro hn;cases hn
 | bot=>intro hn;cases hn
section
variable {C:Ctx} {v v₁ v₂:World} {g:Gh} {h:HP} {Ln C0 n nn cap:Nat} {A:Nat→AV} {es0:List (List AV)}
end
end
end Go.Vc
namespace Go.Vc
open Go Go.Conc Go.Vc.Ph
section
attribute [local simp] Qc QC Qq
theorem under_frz (W:World):Under (frz W) W:=⟨(frz_size W).symm,fun b ov h=>by
 rw [Q3K] at h;obtain ⟨o,ho,rfl⟩:=Option.map_eq_some_iff.1 h;refine ⟨o,ho,?_⟩;cases o with
 | cells c e f =>
  refine .cells ?_;split
  ·exact .inl rfl
  exact .inr ⟨by omega,fun i hi=>⟨Nat.zero_le _,hi⟩⟩
 | _=>exact .blank,rfl,rfl,rfl,rfl⟩
theorem frz_same (W:World) (b:Nat):SameC W (frz W) b:=fun c e f h=>⟨_,by rw [Q3K,h];rfl⟩
end
end Go.Vc
