/- A part of the proof: a verified generator of conditions, and what each function of the program does. -/
import Derived.Test.YtbdkkdmlhmpffaaC1
import Derived.Conc.Events
import Derived.Conc.Own
set_option maxRecDepth 100000
set_option maxHeartbeats 4000000
set_option linter.unusedSimpArgs false
set_option linter.unusedVariables false
set_option linter.unusedSectionVars false
set_option linter.unnecessarySimpa false

namespace Go.Vc
open Go
inductive OU:Obj→Obj→Prop
 | blank {e o}:OU (.cells #[] e (1,0)) o
 | cells {c e} {fv fw:Nat × Nat}:(fv=fw∨(0<c.size∧∀ i,i<c.size→fv.1≤i∧i<fv.2))→OU (.cells c e fv) (.cells c e fw)
 | same {o:Obj}:(∀ c e f,o ≠ .cells c e f)→(∀ a t,o ≠ .view a t)→OU o o
structure Under (v w:World):Prop where
 size:w.heap.size=v.heap.size
 blk:∀ (b:Nat) (ov:Obj),v.heap[b]? = some ov→∃ ow,w.heap[b]? = some ow∧OU ov ow
 tape:w.tape=v.tape
 drawn:w.drawn=v.drawn
 os:w.os=v.os
 output:w.output=v.output
def Shut (v:World) (b:Nat):Prop:=∃ c e,∃ f:Nat × Nat,v.heap[b]? = some (.cells c e f)∧∀ i,i<c.size→f.1≤i∧i<f.2
def Blk (v:World) (b:Nat):Prop:=∃ e,v.heap[b]? = some (.cells #[] e (1,0))
def isCl (v:World) (b:Nat):Prop:=∃ c e f,v.heap[b]? = some (.cells c e f)
theorem Blk.shut {v:World} {b:Nat} (h:Blk v b):Shut v b:=by
 obtain ⟨e,h⟩:=h;exact ⟨_,_,_,h,fun i hi=>by simp at hi⟩
structure Kept (v v' w w':World):Prop where
 size:v.heap.size≤v'.heap.size
 shut:∀ b,Shut v b→v'.heap[b]? = v.heap[b]?∧w'.heap[b]? = w.heap[b]?
 cl:∀ b,isCl v b→isCl v' b
 rest:v'.tape=v.tape∧v'.os=v.os∧v'.output=v.output∧v.drawn≤v'.drawn
theorem Kept.refl (v w:World):Kept v v w w:=⟨Nat.le_refl _,fun _ _=>⟨rfl,rfl⟩,fun _ h=>h,rfl,rfl,rfl,Nat.le_refl _⟩
theorem Kept.shut' {v v' w w':World} (h:Kept v v' w w') {b:Nat} (hb:Shut v b):Shut v' b:=by
 obtain ⟨c,e,f,h1,h2⟩:=hb;exact ⟨c,e,f,(h.shut b ⟨c,e,f,h1,h2⟩).1.trans h1,h2⟩
theorem Kept.blk' {v v' w w':World} (h:Kept v v' w w') {b:Nat} (hb:Blk v b):Blk v' b:=by
 obtain ⟨e,h1⟩:=hb;exact ⟨e,(h.shut b (Blk.shut ⟨e,h1⟩)).1.trans h1⟩
theorem Kept.trans {v v' v'' w w' w'':World} (h:Kept v v' w w') (h':Kept v' v'' w' w''):Kept v v'' w w'' :=
 ⟨Nat.le_trans h.size h'.size,fun b hb=>⟨(h'.shut b (h.shut' hb)).1.trans (h.shut b hb).1,(h'.shut b (h.shut' hb)).2.trans (h.shut b hb).2⟩,fun b hb=>h'.cl b (h.cl b hb),h'.rest.1.trans h.rest.1,h'.rest.2.1.trans h.rest.2.1,h'.rest.2.2.1.trans h.rest.2.2.1,Nat.le_trans h.rest.2.2.2 h'.rest.2.2.2⟩
def EvS (v:World) (B:Nat) (e:Event):Prop :=
 e.loc = .mark .noRoom∨(∃ a,e.loc = .cell a∧a.block<B∧e.sync=false∧¬ Blk v a.block∧(e.write=true→¬ Shut v a.block))∨(∃ r,e.loc = .obj r∧r<B∧¬ isCl v r)
theorem EvS.back {v v' w w':World} {B:Nat} (k:Kept v v' w w') {e:Event} (h:EvS v' B e):EvS v B e:=by
 rcases h with h|⟨a,h1,hB,h2,h3,h4⟩|⟨r,h1,hB,h2⟩
 ·exact .inl h
 ·exact .inr (.inl ⟨a,h1,hB,h2,fun h=>h3 (k.blk' h),fun hw h=>h4 hw (k.shut' h)⟩)
 exact .inr (.inr ⟨r,h1,hB,fun h=>h2 (k.cl r h)⟩)
theorem Q6T {v:World} {a:Addr} {x:Value} (h:v.cell? a=some x):a.block<v.heap.size:=by
 unfold World.cell? at h;cases hv:v.heap[a.block]? with
 | none=>simp [hv] at h
 | some o=>exact (Array.getElem?_eq_some_iff.1 hv).1
inductive Tame {α:Type}:Sem α→Prop
 | pure (a:α):Tame (.pure a)
 | load {a k}:(∀ v,Tame (k v))→Tame (.load .plain a k)
 | store {a v k}:Tame k→Tame (.store .plain a v k)
 | new {o k}:(∀ a t,o ≠ .view a t)→(∀ r,Tame (k r))→Tame (.new o k)
 | getObj {r k}:(∀ o,Tame (k o))→Tame (.getObj r k)
 | setObj {r o k}:(∀ a t,o ≠ .view a t)→Tame k→Tame (.setObj r o k)
 | choose {q k}:(∀ n,Tame (k n))→Tame (.choose q k)
 | program {k}:(∀ p,Tame (k p))→Tame (.program k)
 | mark {k}:Tame k→Tame (.mark .noRoom k)
 | halt (h:Halt):Tame (.halt h)
 | doomed {x}:(∀ P w a w',x.run P w ≠ .ok a w')→Tame x
theorem Q40 {α:Type} (xs:Array α) (i j:Nat) (f:α→α):(xs.modify i f)[j]? = if i=j then xs[j]?.map f else xs[j]?:=by
 rw [Array.getElem?_modify]
section
variable {P:Program} {v w:World}
theorem Under.none {b:Nat} (U:Under v w) (h:v.heap[b]? = none):w.heap[b]? = none:=by
 rw [Array.getElem?_eq_none_iff] at h ⊢;rw [U.size];exact h
theorem Under.cell {a:Addr} {x:Value} (U:Under v w) (h:v.cell? a=some x):w.cell? a=some x∧¬ Blk v a.block:=by
 unfold World.cell? at h ⊢;cases hv:v.heap[a.block]? with
 | none=>simp [hv] at h
 | some ov =>
  obtain ⟨ow,hw,hu⟩:=U.blk _ _ hv;rw [hv] at h;cases ov with
  | cells c e f =>
   simp only at h;split at h
   ·cases h
   rename_i hs;have hnb:¬ Blk v a.block:=by
    rintro ⟨e',hb⟩
    rw [hv] at hb;simp only [Option.some.injEq,Obj.cells.injEq] at hb;obtain ⟨rfl,_⟩:=hb;simp at h
   cases hu with
   | blank=>exact absurd ⟨_,hv⟩ hnb
   | cells hf=>rw [hw];simp only [hs,Bool.false_eq_true,if_false];exact ⟨h,hnb⟩
   | same h1=>exact absurd rfl (h1 _ _ _)
  | _=>simp at h
theorem Under.noview (U:Under v w) {b:Nat} {a:Addr} {t:TypeId}:v.heap[b]? ≠ some (.view a t):=by
 intro h;obtain ⟨ow,_,hu⟩:=U.blk _ _ h;cases hu with
 | same _ h2=>exact h2 _ _ rfl
theorem Under.farLoad (U:Under v w) {a:Addr} {at_:Bool} {r:Value × List Addr}:v.farLoad P a at_ ≠ .ok r:=by
 unfold World.farLoad;cases h:v.heap[a.block]? with
 | none=>simp
 | some o=>cases o<;>simp<;>exact fun _=>U.noview h
theorem Under.farStore (U:Under v w) {a:Addr} {x:Value} {at_:Bool} {r:World × List Addr}:v.farStore P a x at_ ≠ .ok r:=by
 unfold World.farStore;cases h:v.heap[a.block]? with
 | none=>simp
 | some o=>cases o<;>simp<;>exact fun _=>U.noview h
theorem Under.set {a:Addr} {x y:Value} (U:Under v w) (h:v.cell? a=some y) (hf:v.frozen? a=false) :
  w.frozen? a=false∧Under (v.setCell a x) (w.setCell a x)∧Kept v (v.setCell a x) w (w.setCell a x)∧¬ Shut v a.block:=by
 obtain ⟨hw0,hnb⟩:=U.cell h;cases hv:v.heap[a.block]? with
 | none=>simp [World.cell?,hv] at h
 | some ov =>
  obtain ⟨ow,hw,hu⟩:=U.blk _ _ hv;cases ov with
  | cells c e f =>
   have hlt:a.off<c.size:=by
    simp only [World.cell?,hv] at h;split at h
    ·cases h
    exact (Array.getElem?_eq_some_iff.1 h).1
   have hns:¬ Shut v a.block:=by
    rintro ⟨c',e',f',h1,h2⟩
    rw [hv] at h1;simp only [Option.some.injEq,Obj.cells.injEq] at h1;obtain ⟨rfl,rfl,rfl⟩:=h1;have:=h2 a.off hlt;simp [World.frozen?,hv,this.1,this.2] at hf
   cases hu with
   | blank=>exact absurd ⟨_,hv⟩ hnb
   | same h1=>exact absurd rfl (h1 _ _ _)
   | @cells _ _ _ fw hff =>
    refine ⟨?_,⟨by simp [World.setCell,U.size],fun b ov hb=>?_,U.tape,U.drawn,U.os,U.output⟩,⟨by simp [World.setCell],fun b hb=>?_,fun b hb=>?_,rfl,rfl,rfl,Nat.le_refl _⟩,hns⟩
    ·simp only [World.frozen?,hv,hw,Bool.and_eq_false_iff,decide_eq_false_iff_not] at hf ⊢;rcases hff with rfl|hff
     ·exact hf
     have:=hff.2 a.off hlt;omega
    ·simp only [World.setCell,Q40] at hb ⊢
     by_cases hab:a.block=b
     ·subst hab;rw [if_pos rfl,hv] at hb;rw [if_pos rfl,hw];simp only [Option.map_some,Option.some.injEq] at hb ⊢;subst hb;refine ⟨_,rfl,.cells (hff.imp id fun q=>?_)⟩;split
      ·exact q
      simpa using q
     rw [if_neg hab] at hb ⊢;exact U.blk b ov hb
    ·have hne:a.block ≠ b:=(by rintro rfl;exact hns hb);simp only [World.setCell,Q40,if_neg hne,and_self]
    obtain ⟨c1,e1,f1,h1⟩:=hb
    by_cases hab:a.block=b
    ·subst hab;rw [hv] at h1;cases h1;exact ⟨if a.spot.isSome then c else c.setIfInBounds a.off x,e,f,by simp only [World.setCell,Q40,if_true,hv,Option.map_some]⟩
    exact ⟨c1,e1,f1,by simp only [World.setCell,Q40,if_neg hab,h1]⟩
  | _=>simp [World.cell?,hv] at h
theorem Under.new {o:Obj} (U:Under v w) (ho:∀ a t,o ≠ .view a t):Under { v with heap:=v.heap.push o } { w with heap:=w.heap.push o }∧Kept v { v with heap:=v.heap.push o } w { w with heap:=w.heap.push o }:=by
 have hlt:∀ {b:Nat} {x:Obj},v.heap[b]? = some x→b<v.heap.size:=fun h=>(Array.getElem?_eq_some_iff.1 h).1;refine ⟨⟨by simp [U.size],fun b ov hb=>?_,U.tape,U.drawn,U.os,U.output⟩,⟨by simp,fun b hb=>?_,fun b hb=>?_,rfl,rfl,rfl,Nat.le_refl _⟩⟩
 ·simp only [Array.getElem?_push] at hb ⊢;rw [U.size];split at hb
  ·rename_i h;rw [if_pos h];cases hb;refine ⟨_,rfl,?_⟩;cases o with
   | cells c e f=>exact .cells (.inl rfl)
   | _=>first|exact .same (fun _ _ _ h=>by cases h) (fun a t h=>ho a t h)
  rename_i h;rw [if_neg h];exact U.blk b ov hb
 ·obtain ⟨c,e,f,h1,_⟩:=hb;have:=hlt h1;simp only [Array.getElem?_push];rw [if_neg (by omega),if_neg (by rw [U.size];omega)];exact ⟨rfl,rfl⟩
 obtain ⟨c,e,f,h1⟩:=hb;have:=hlt h1;refine ⟨c,e,f,?_⟩;simp only [Array.getElem?_push];rw [if_neg (by omega)];exact h1
theorem Under.setObj {r:Nat} {o o':Obj} (U:Under v w) (h:v.heap[r]? = some o') (hc:∀ c e f,o' ≠ .cells c e f) (ho:∀ a t,o ≠ .view a t) :
  w.heap[r]? = some o'∧Under { v with heap:=v.heap.setIfInBounds r o } { w with heap:=w.heap.setIfInBounds r o }∧Kept v { v with heap:=v.heap.setIfInBounds r o } w { w with heap:=w.heap.setIfInBounds r o }∧¬ isCl v r:=by
 obtain ⟨ow,hw,hu⟩:=U.blk _ _ h;have hr:=(Array.getElem?_eq_some_iff.1 h).1;have hncl:¬ isCl v r:=by
  rintro ⟨c,e,f,h1⟩
  rw [h] at h1;exact hc _ _ _ (Option.some.inj h1)
 have hwo:w.heap[r]? = some o':=by
  cases hu with
  | blank=>exact absurd rfl (hc _ _ _)
  | cells=>exact absurd rfl (hc _ _ _)
  | same=>exact hw
 refine ⟨hwo,⟨by simp [U.size],fun b ov hb=>?_,U.tape,U.drawn,U.os,U.output⟩,⟨by simp,fun b hb=>?_,fun b hb=>?_,rfl,rfl,rfl,Nat.le_refl _⟩,hncl⟩
 ·by_cases hbr:r=b
  ·subst hbr;simp only [Array.getElem?_setIfInBounds_self] at hb ⊢;rw [if_pos hr] at hb;rw [if_pos (by rw [U.size];exact hr)];cases hb;refine ⟨_,rfl,?_⟩;cases o with
   | cells c e f=>exact .cells (.inl rfl)
   | _=>first|exact .same (fun _ _ _ h=>by cases h) (fun a t h=>ho a t h)
  simp only [Array.getElem?_setIfInBounds_ne hbr] at hb ⊢;exact U.blk b ov hb
 ·have hbr:r ≠ b:=by
   rintro rfl
   obtain ⟨c,e,f,h1,_⟩:=hb;exact hncl ⟨c,e,f,h1⟩
  simp only [Array.getElem?_setIfInBounds_ne hbr,and_self]
 obtain ⟨c,e,f,h1⟩:=hb;have hbr:r ≠ b:=by rintro rfl;exact hncl ⟨c,e,f,h1⟩
 exact ⟨c,e,f,by simp only [Array.getElem?_setIfInBounds_ne hbr];exact h1⟩
theorem Under.drew (U:Under v w):Under { v with drawn:=v.drawn+1 } { w with drawn:=w.drawn+1 }:=⟨U.size,U.blk,U.tape,by simp [U.drawn],U.os,U.output⟩
inductive TameAt {α:Type} (P:Program):Sem α→World→Prop
 | pure {a w}:TameAt P (.pure a) w
 | load {a k w v}:w.cell? a=some v→TameAt P (k v) w→TameAt P (.load .plain a k) w
 | loadN {a k w}:w.cell? a=none→TameAt P (.load .plain a k) w
 | store {a v k w y}:w.cell? a=some y→TameAt P k (w.setCell a v)→TameAt P (.store .plain a v k) w
 | storeN {a v k w}:w.cell? a=none→TameAt P (.store .plain a v k) w
 | new {o k w}:(∀ a t,o ≠ .view a t)→TameAt P (k w.heap.size) { w with heap:=w.heap.push o }→TameAt P (.new o k) w
 | getObj {r k w o}:w.heap[r]? = some o→TameAt P (k o) w→TameAt P (.getObj r k) w
 | setObj {r o k w}:(∀ a t,o ≠ .view a t)→TameAt P k { w with heap:=w.heap.setIfInBounds r o }→TameAt P (.setObj r o k) w
 | choose0 {q k w}:q.forced=true→TameAt P (k 0) w→TameAt P (.choose q k) w
 | choose {q k w}:q.forced=false→TameAt P (k (q.cut (w.tape w.drawn q))) { w with drawn:=w.drawn+1 }→TameAt P (.choose q k) w
 | program {k w}:TameAt P (k P) w→TameAt P (.program k) w
 | mark {k w}:TameAt P k w→TameAt P (.mark .noRoom k) w
 | doomed {x w}:(∀ a w',x.run P w ≠ .ok a w')→TameAt P x w
theorem Tame.at {α:Type} {x:Sem α} (h:Tame x):∀ w,TameAt P x w:=by
 induction h with
 | pure a=>exact fun w=>.pure
 | @load a k _ ih =>
  intro w;cases hc:w.cell? a with
  | none=>exact .loadN hc
  | some v=>exact .load hc (ih v w)
 | @store a v k _ ih =>
  intro w;cases hc:w.cell? a with
  | none=>exact .storeN hc
  | some y=>exact .store hc (ih _)
 | new ho _ ih=>exact fun w=>.new ho (ih _ _)
 | @getObj r k _ ih =>
  intro w;cases hc:w.heap[r]? with
  | none=>exact .doomed fun a w' h=>by simp [Sem.run,hc] at h
  | some o=>exact .getObj hc (ih o w)
 | setObj ho _ ih=>exact fun w=>.setObj ho (ih _)
 | @choose q k _ ih =>
  intro w;cases hq:q.forced with
  | true=>exact .choose0 hq (ih _ _)
  | false=>exact .choose hq (ih _ _)
 | program _ ih=>exact fun w=>.program (ih P w)
 | mark _ ih=>exact fun w=>.mark (ih w)
 | halt h=>exact fun w=>.doomed fun a w' h=>by cases h
 | doomed hd=>exact fun w=>.doomed fun a w'=>hd _ _ _ _
theorem TameAt.bind {α β:Type} {x:Sem α} {f:α→Sem β} {w0:World} (h:TameAt P x w0):(∀ a w',x.run P w0 = .ok a w'→TameAt P (f a) w')→TameAt P (x >>= f) w0:=by
 show _→TameAt P (x.bind f) w0
 induction h with
 | pure=>exact fun hf=>hf _ _ rfl
 | load hc _ ih=>exact fun hf=>.load hc (ih fun a w' hr=>hf a w' (by simp only [Sem.run,hc];exact hr))
 | loadN hc=>exact fun _=>.loadN hc
 | @store a v k w y hc _ ih =>
  intro hf;cases hz:w.frozen? a with
  | true=>exact .doomed fun b w' h=>by cases v<;>simp [Sem.bind,Sem.run,hc,hz] at h
  | false =>
   by_cases hv:(∃ cs,v = .agg cs)∨∃ cs,v = .tuple cs
   ·exact .doomed fun b w' h=>by rcases hv with ⟨cs,rfl⟩|⟨cs,rfl⟩<;>simp [Sem.bind,Sem.run] at h
   exact .store hc (ih fun a w' hr=>hf a w' (by
    cases v<;>first|(simp only [Sem.run,hc,hz];exact hr)|exact absurd (.inl ⟨_,rfl⟩) hv|exact absurd (.inr ⟨_,rfl⟩) hv))
 | storeN hc=>exact fun _=>.storeN hc
 | new ho _ ih=>exact fun hf=>.new ho (ih fun a w' hr=>hf a w' hr)
 | @getObj r k w o hc _ ih =>
  intro hf
  by_cases ho:∃ c e f,o = .cells c e f
  ·obtain ⟨c,e,fz,rfl⟩:=ho;exact .doomed fun b w' h=>by simp [Sem.bind,Sem.run,hc] at h
  exact .getObj hc (ih fun a w' hr=>hf a w' (by simp only [Sem.run,hc];cases o<;>first|exact hr|exact absurd ⟨_,_,_,rfl⟩ ho))
 | @setObj r o k w ho _ ih =>
  intro hf;cases hv:w.heap[r]? with
  | none=>exact .doomed fun b w' h=>by simp [Sem.bind,Sem.run,hv] at h
  | some o' =>
   by_cases hc:∃ c e f,o' = .cells c e f
   ·obtain ⟨c,e,fz,rfl⟩:=hc;exact .doomed fun b w' h=>by simp [Sem.bind,Sem.run,hv] at h
   exact .setObj ho (ih fun a w' hr=>hf a w' (by simp only [Sem.run,hv];cases o'<;>first|exact hr|exact absurd ⟨_,_,_,rfl⟩ hc))
 | choose0 hq _ ih=>exact fun hf=>.choose0 hq (ih fun a w' hr=>hf a w' (by simp only [Sem.run];rw [if_pos hq];exact hr))
 | choose hq _ ih=>exact fun hf=>.choose hq (ih fun a w' hr=>hf a w' (by simp only [Sem.run];rw [if_neg (by rw [hq];simp)];exact hr))
 | program _ ih=>exact fun hf=>.program (ih hf)
 | mark _ ih=>exact fun hf=>.mark (ih hf)
 | @doomed x w hd =>
  refine fun _=>.doomed fun a w' h=>?_;have h2:(x >>= f).run P w = .ok a w':=h;rw [Sem.run_bind] at h2;cases hx:x.run P w with
  | ok b u=>exact hd _ _ hx
  | halt q u=>rw [hx] at h2;cases h2
theorem TameAt.sim {α:Type} {x:Sem α} {v0:World} (hx:TameAt P x v0):∀ {v' w:World} {a:α},Under v0 w→x.run P v0 = .ok a v' →
  ∃ w',x.run P w = .ok a w'∧Under v' w'∧Kept v0 v' w w'∧∀ e∈x.events P w #[],EvS v0 v'.heap.size e:=by
 induction hx with
 | pure=>intro v' w b U h;cases h;exact ⟨w,rfl,U,.refl _ _,fun e he=>by simp [Sem.events,Sem.runT,-Sem.runT_eq] at he⟩
 | @load a k v y hc _ ih =>
  intro v' w b U h;simp only [Sem.run,hc] at h;obtain ⟨hw,hnb⟩:=U.cell hc;obtain ⟨w',h1,h2,h3,h4⟩:=ih U h;refine ⟨w',by simp only [Sem.run,hw];exact h1,h2,h3,fun e he=>?_⟩;simp only [Sem.events,Sem.runT,hw] at he;have he:e∈(k y).events P w (#[].push ⟨.cell a,false,Mode.plain == .atomic⟩):=he;rw [Sem.events_acc] at he;rcases Array.mem_append.1 he with he|he
  ·simp at he;subst he;exact .inr (.inl ⟨a,rfl,Nat.lt_of_lt_of_le (Q6T hc) h3.size,rfl,hnb,fun h=>by cases h⟩)
  exact h4 e he
 | @loadN a k v hc =>
  intro v' w b U h;simp only [Sem.run,hc] at h;cases hf:v.farLoad P a (Mode.plain == .atomic) with
  | ok r=>exact absurd hf U.farLoad
  | error e=>rw [hf] at h;cases h
 | @storeN a y k v hc =>
  intro v' w b U h;have fin:(∀ cs,y ≠ .agg cs)→(∀ cs,y ≠ .tuple cs)→False:=by
   intro n1 n2;have er:(Sem.store Mode.plain a y k).run P v=match v.farStore P a y (Mode.plain == .atomic) with|.ok (u,_)=>k.run P u|.error h=>.halt h v:=by
    cases y<;>first|exact absurd rfl (n1 _)|exact absurd rfl (n2 _)|(simp only [Sem.run,hc];rfl)
   rw [er] at h;cases hf:v.farStore P a y (Mode.plain == .atomic) with
   | ok r=>exact absurd hf U.farStore
   | error e=>rw [hf] at h;cases h
  cases y with
  | agg cs=>simp [Sem.run] at h
  | tuple cs=>simp [Sem.run] at h
  | _=>exact (fin (fun _ h=>by cases h) (fun _ h=>by cases h)).elim
 | @store a y k v z0 hz0 _ ih =>
  intro v' w b U h;have key : ∀ z, v.cell? a = some z → (if v.frozen? a then (.halt (.unsupported (.unsafePointer "a write to bytes that a string shares")) v : Result _) else k.run P (v.setCell a y)) = .ok b v' →
    ∃ w', (if w.frozen? a then (.halt (.unsupported (.unsafePointer "a write to bytes that a string shares")) w : Result _) else k.run P (w.setCell a y)) = .ok b w' ∧ Under v' w' ∧ Kept v v' w w' ∧
     w.cell? a=some z∧w.frozen? a=false∧EvS v v'.heap.size ⟨.cell a,true,Mode.plain == .atomic⟩∧∀ e∈k.events P (w.setCell a y) #[],EvS v v'.heap.size e:=by
   intro z hz h;cases hf:v.frozen? a with
   | true=>rw [hf] at h;simp at h
   | false =>
    rw [hf] at h;simp only [Bool.false_eq_true,if_false] at h;obtain ⟨hwf,U',K',hns⟩:=U.set (x:=y) hz hf;obtain ⟨w',h1,h2,h3,h4⟩:=ih U' h;exact ⟨w',by rw [hwf];simpa using h1,h2,K'.trans h3,(U.cell hz).1,hwf,.inr (.inl ⟨a,rfl,Nat.lt_of_lt_of_le (Q6T hz) (K'.trans h3).size,rfl,fun hb=>hns hb.shut,fun _=>hns⟩),fun e he=>(h4 e he).back K'⟩
  have fin:(∀ cs,y ≠ .agg cs)→(∀ cs,y ≠ .tuple cs)→∃ w',(Sem.store Mode.plain a y k).run P w = .ok b w'∧Under v' w'∧Kept v v' w w'∧∀ e∈(Sem.store Mode.plain a y k).events P w #[],EvS v v'.heap.size e:=by
   intro n1 n2;have er:∀ u:World,(Sem.store Mode.plain a y k).run P u=match u.cell? a with
     | some _ => if u.frozen? a then .halt (.unsupported (.unsafePointer "a write to bytes that a string shares")) u else k.run P (u.setCell a y)
     | none=>match u.farStore P a y (Mode.plain == .atomic) with|.ok (u,_)=>k.run P u|.error h=>.halt h u:=by
    intro u;cases y<;>first|rfl|exact absurd rfl (n1 _)|exact absurd rfl (n2 _)
   have ee:∀ z,w.cell? a=some z→w.frozen? a=false→(Sem.store Mode.plain a y k).events P w #[]=k.events P (w.setCell a y) (#[].push ⟨.cell a,true,Mode.plain == .atomic⟩):=by
    intro z hz hf;cases y<;>first|exact absurd rfl (n1 _)|exact absurd rfl (n2 _)|(simp only [Sem.events,Sem.runT,hz,hf];rfl)
   rw [er] at h;cases hc:v.cell? a with
   | none =>
    rw [hc] at h;simp only at h;cases hf:v.farStore P a y (Mode.plain == .atomic) with
    | ok r=>exact absurd hf U.farStore
    | error e=>rw [hf] at h;cases h
   | some z =>
    rw [hc] at h;obtain ⟨w',h1,h2,h3,h4,h5,h6,h7⟩:=key z hc h;refine ⟨w',by rw [er,h4];exact h1,h2,h3,fun e he=>?_⟩;rw [ee z h4 h5,Sem.events_acc] at he;rcases Array.mem_append.1 he with he|he
    ·simp at he;subst he;exact h6
    exact h7 e he
  cases y with
  | agg cs=>simp [Sem.run] at h
  | tuple cs=>simp [Sem.run] at h
  | _=>exact fin (fun _ h=>by cases h) (fun _ h=>by cases h)
 | @new o k v ho _ ih =>
  intro v' w b U h;simp only [Sem.run] at h;obtain ⟨U',K'⟩:=U.new ho;obtain ⟨w',h1,h2,h3,h4⟩:=ih U' h;refine ⟨w',by simp only [Sem.run,U.size];exact h1,h2,K'.trans h3,fun e he=>?_⟩;simp only [Sem.events,Sem.runT,U.size] at he;exact (h4 e he).back K'
 | @getObj r k v o hv _ ih =>
  intro v' w b U h;simp only [Sem.run] at h
  focus
   by_cases hc:∃ c e f,o = .cells c e f
   ·obtain ⟨c,e,f,rfl⟩:=hc;rw [hv] at h;cases h
   obtain ⟨hw,_,_,hn⟩:=U.setObj (o:=.pending #[] 0) hv (fun c e f h=>hc ⟨c,e,f,h⟩) (fun _ _ h=>by cases h);have h':(k o).run P v = .ok b v':=by
    rw [hv] at h;cases o<;>first|exact h|exact absurd ⟨_,_,_,rfl⟩ hc
   obtain ⟨w',h1,h2,h3,h4⟩:=ih U h';refine ⟨w',?_,h2,h3,fun e he=>?_⟩
   ·simp only [Sem.run,hw];cases o<;>first|exact h1|exact absurd ⟨_,_,_,rfl⟩ hc
   have he:e∈(k o).events P w (#[].push ⟨.obj r,false,o.isChan⟩):=by
    simp only [Sem.events,Sem.runT,hw] at he;cases o<;>first|exact he|exact absurd ⟨_,_,_,rfl⟩ hc
   rw [Sem.events_acc] at he;rcases Array.mem_append.1 he with he|he
   ·simp at he;subst he;exact .inr (.inr ⟨r,rfl,Nat.lt_of_lt_of_le (Array.getElem?_eq_some_iff.1 hv).1 h3.size,hn⟩)
   exact h4 e he
 | @setObj r o k v ho _ ih =>
  intro v' w b U h;simp only [Sem.run] at h;cases hv:v.heap[r]? with
  | none=>rw [hv] at h;cases h
  | some o' =>
   by_cases hc:∃ c e f,o' = .cells c e f
   ·obtain ⟨c,e,f,rfl⟩:=hc;rw [hv] at h;cases h
   obtain ⟨hw,U',K',hn⟩:=U.setObj hv (fun c e f h=>hc ⟨c,e,f,h⟩) ho;have h':k.run P { v with heap:=v.heap.setIfInBounds r o } = .ok b v':=by
    rw [hv] at h;cases o'<;>first|exact h|exact absurd ⟨_,_,_,rfl⟩ hc
   obtain ⟨w',h1,h2,h3,h4⟩:=ih U' h';refine ⟨w',?_,h2,K'.trans h3,fun e he=>?_⟩
   ·simp only [Sem.run,hw];cases o'<;>first|exact h1|exact absurd ⟨_,_,_,rfl⟩ hc
   have he:e∈k.events P { w with heap:=w.heap.setIfInBounds r o } (#[].push ⟨.obj r,true,o.isChan⟩):=by
    simp only [Sem.events,Sem.runT,hw] at he;cases o'<;>first|exact he|exact absurd ⟨_,_,_,rfl⟩ hc
   rw [Sem.events_acc] at he;rcases Array.mem_append.1 he with he|he
   ·simp at he;subst he;exact .inr (.inr ⟨r,rfl,Nat.lt_of_lt_of_le (Array.getElem?_eq_some_iff.1 hv).1 (K'.trans h3).size,hn⟩)
   exact (h4 e he).back K'
 | @choose0 q k v hq _ ih =>
  intro v' w b U h;simp only [Sem.run] at h;rw [if_pos hq] at h;obtain ⟨w',h1,h2,h3,h4⟩:=ih U h;refine ⟨w',by simp only [Sem.run];rw [if_pos hq];exact h1,h2,h3,fun e he=>?_⟩;simp only [Sem.events,Sem.runT] at he;rw [if_pos hq] at he;exact h4 e he
 | @choose q k v hq _ ih =>
  intro v' w b U h;have hq:¬ q.forced=true:=by rw [hq];simp
  simp only [Sem.run] at h;rw [if_neg hq] at h;obtain ⟨w',h1,h2,h3,h4⟩:=ih U.drew h;have K0:Kept v { v with drawn:=v.drawn+1 } w { w with drawn:=w.drawn+1 }:=⟨Nat.le_refl _,fun _ _=>⟨rfl,rfl⟩,fun _ h=>h,rfl,rfl,rfl,Nat.le_succ _⟩;have hcut:q.cut (w.tape w.drawn q)=q.cut (v.tape v.drawn q):=by rw [U.tape,U.drawn]
  refine ⟨w',by simp only [Sem.run];rw [if_neg hq,hcut];exact h1,h2,K0.trans h3,fun e he=>?_⟩;simp only [Sem.events,Sem.runT] at he;rw [if_neg hq,hcut] at he;exact (h4 e he).back K0
 | program _ ih=>intro v' w b U h;exact ih U h
 | @mark k v _ ih =>
  intro v' w b U h;obtain ⟨w',h1,h2,h3,h4⟩:=ih U h;refine ⟨w',h1,h2,h3,fun e he=>?_⟩;have he:e∈k.events P w (#[].push ⟨.mark .noRoom,false,true⟩):=he;rw [Sem.events_acc] at he;rcases Array.mem_append.1 he with he|he
  ·simp at he;subst he;exact .inl rfl
  exact h4 e he
 | doomed hd=>intro v' w b U h;exact absurd h (hd _ _)
theorem Tame.sim {α:Type} {x:Sem α} (hx:Tame x) {v v' w:World} {a:α} (U:Under v w) (h:x.run P v = .ok a v'):∃ w',x.run P w = .ok a w'∧Under v' w'∧Kept v v' w w'∧∀ e∈x.events P w #[],EvS v v'.heap.size e:=(hx.at v).sim U h
end
end Go.Vc
