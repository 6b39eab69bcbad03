/- A part of the proof. -/
import Derived.Test.YtghefemofbipnaaGreatX20
set_option maxRecDepth 100000
set_option maxHeartbeats 4000000
set_option linter.unusedSimpArgs false
set_option linter.unusedVariables false
set_option linter.unusedSectionVars false
set_option linter.unnecessarySimpa false

open Nat renaming lt_of_lt_of_le→qD
open Nat renaming le_trans→qK
namespace Go.Vc
open Go Go.Conc Go.Vc.Ph Go.Vc.Wg
section
attribute [local simp] Qd Qt Ql
theorem frzO_frzO (o:Obj):frzO (frzO o)=frzO o:=by
 cases o with
 | cells c e f=>simp only [frzO];congr 1;split<;>rfl
 | _=>rfl
def Frzn (s:World):Prop:=frz s=s
theorem Q9v (v:World) (C:Nat):Frzn (Go.Vc.Ph.start v C):=by
 have hb:frzO Q1W=Q1W:=rfl;simp only [Frzn,frz,Go.Vc.Ph.start]
 congr 1
 apply Array.ext_getElem?;intro i;simp only [Array.getElem?_map,Array.getElem?_push,Array.getElem?_setIfInBounds,Array.size_setIfInBounds,Array.size_map];split
 ·rfl
 split
 ·split<;>rfl
 cases v.heap[i]? with
 | none=>rfl
 | some o=>simp [frzO_frzO]
structure Ext0 (v v₁:World):Prop where
 size:v.heap.size≤v₁.heap.size
 old:∀ b,b<v.heap.size→v₁.heap[b]? = v.heap[b]?
 rest:v₁.tape=v.tape∧v₁.os=v.os∧v₁.output=v.output∧v.drawn≤v₁.drawn
theorem Ext0.rly {s v v₁:World} (h:Ext0 s v) (r:Rly v v₁):Ext0 s v₁ :=
 ⟨qK h.size r.size,fun b hb=>(r.old b (qD hb h.size)).trans (h.old b hb),r.tape.trans h.rest.1,r.os.trans h.rest.2.1,r.output.trans h.rest.2.2.1,qK h.rest.2.2.2 r.drawn⟩
abbrev Ext1:=Ext0
theorem Ext0.blw {s v v₁:World} (h:Ext0 s v) (r:Blw v.heap.size v v₁):Ext0 s v₁ :=
 ⟨qK h.size r.size,fun b hb=>(r.block b (qD hb h.size)).trans (h.old b hb),r.tape.1.trans h.rest.1,r.os.trans h.rest.2.1,r.output.trans h.rest.2.2.1,qK h.rest.2.2.2 r.tape.2⟩
theorem Ext0.frz {s v:World} (h:Ext0 s v) (hs:Frzn s):Ext0 s (frz v) :=
 ⟨by rw [frz_size];exact h.size,fun b hb=>by rw [Q2e,h.old b hb,← Q2e,hs],h.rest⟩
class Eo (P:Program) [i:Kd P]:Prop where
 isM:∃ W0 S0 Post,i=KdM P W0 S0 Post
inductive NoM:AV→Prop
 | val {v}:NoM (.val v)
 | lst {u sz es}:(∀ e∈es,∀ c∈e,NoM c)→NoM (.lst u sz es)
 | rptr {cs}:(∀ c∈cs,NoM c)→NoM (.rptr cs)
 | fn {f az}:(∀ c∈az,NoM c)→NoM (.fn f az)
 | bnd {f az}:(∀ c∈az,NoM c)→NoM (.bnd f az)
theorem Q2f {α:Type} {l:List α} {i:Nat} {d:α} (h:i<l.length):l.getD i d∈l:=by
 rw [List.getD_eq_getElem?_getD,List.getElem?_eq_getElem h,Option.getD_some];exact List.getElem_mem h
def SameC (w w':World) (b:Nat):Prop:=∀ c e f,w.heap[b]? = some (.cells c e f)→∃ f',w'.heap[b]? = some (.cells c e f')
theorem RRel.view {w w':World} {R R':Nat→Prop} (hR:∀ b,R b→R' b∧SameC w w' b) {v:Value} {a:AV} (h:RRel w R v a):NoM a→RRel w' R' v a:=by
 induction h with
 | val h=>exact fun _=>.val h
 | nil h=>exact fun _=>.nil h
 | @lst u sz es b x cap cur e fr us hb hh h1 h2 h3 h4 h5 _ ih =>
  intro hn;obtain ⟨f',hh'⟩:=(hR _ hb).2 _ _ _ hh;cases hn with
  | lst hn=>exact .lst us (hR _ hb).1 hh' h1 h2 h3 h4 h5 fun i k hi hk=>ih i k hi hk (hn _ (Q2f hi) _ (Q2f (by rw [h3 i hi];exact hk)))
 | @rptr cs b x cur e fr us hb hh h1 h2 _ ih =>
  intro hn;obtain ⟨f',hh'⟩:=(hR _ hb).2 _ _ _ hh;cases hn with
  | rptr hn=>exact .rptr us (hR _ hb).1 hh' h1 h2 fun k hk=>ih k hk (hn _ (Q2f hk))
 | fn h1 _ ih =>
  intro hn;cases hn with
  | fn hn=>exact .fn h1 fun k hk=>ih k hk (hn _ (Q2f hk))
 | bnd h1 _ ih =>
  intro hn;cases hn with
  | bnd hn=>exact .bnd h1 fun k hk=>ih k hk (hn _ (Q2f hk))
 | ifc=>intro hn;cases hn
 | ifs=>intro hn;cases hn
 | cmap=>intro hn;cases hn
 | bot=>intro hn;cases hn
theorem Q7I [PS] {v v₁ u:World} {C b:Nat} (X:Ext0 v v₁) (E:Ext0 (Go.Vc.Ph.start v₁ C) u) (hC:C<v₁.heap.size) (hb:b<v.heap.size) (hbC:b ≠ C):SameC v u b:=by
 intro c e f h;have hlt:b<v₁.heap.size:=qD hb X.size;have h1:v₁.heap[b]? = some (.cells c e f):=(X.old b hb).trans h;refine ⟨if c.size=0 then f else (0,c.size),?_⟩;rw [E.old b (by rw [Q2L];omega),Q1w hC (by omega),if_neg (by omega),if_neg hbC,Q2e,h1];rfl
def KA (A:Nat→AV) (β k:Nat) (val:Value) (U:World):Prop :=
 ∃ o:Nat→Option (List Nat),(∀ b L,o b=some L→β≤b∧b<U.heap.size∧¬ Blk U b)∧TRel U (fun _=>False) o [0] val (A k)
theorem KA.rly {A:Nat→AV} {β k:Nat} {val:Value} {v v':World} (r:Rly v v') (h:KA A β k val v):KA A β k val v':=by
 obtain ⟨o,h1,h2⟩:=h;have e:∀ b L,o b=some L→v'.heap[b]? = v.heap[b]?:=fun b L hb=>r.old b (h1 b L hb).2.1;refine ⟨o,fun b L hb=>?_,h2.same fun b M hb=>⟨hb,e b _ hb⟩⟩;obtain ⟨q1,q2,q3⟩:=h1 b L hb;refine ⟨q1,qD q2 r.size,fun ⟨x,hx⟩=>q3 ⟨x,?_⟩⟩;rw [← e b L hb];exact hx
theorem TRel.unblk {w:World} {R:Nat→Prop} {o:Nat→Option (List Nat)} {L:List Nat} {v:Value} {a:AV} (h:TRel w R o L v a):TRel w R (open Classical in fun b=>if Blk w b then none else o b) L v a:=by
 induction h with
 | val h=>exact .val h
 | nil=>exact .nil
 | bot h=>exact .bot h
 | @own L sz es b cap cur e us hb hh h1 h2 h3 h4 h5 h6 _ ih =>
  refine .own us ?_ hh h1 h2 h3 h4 h5 h6 ih;have hn:¬ Blk w b:=fun ⟨x,hx⟩=>by
   rw [hh] at hx;simp at hx
  rw [if_neg hn];exact hb
theorem KA.of {A:Nat→AV} {β k:Nat} {u u₂:World} {x:Value} {sz:Nat} {es:List (List AV)} (hA:A k = .lst true sz es) (hβ:β≤u.heap.size) {o:Nat→Option (List Nat)} (ho:∀ b L,o b=some L→u.heap.size≤b∧b<u₂.heap.size) (hr:Res u₂ o x (.lst true sz es)):KA A β k x u₂:=by
 have h0:=hr.cell 0 (by simp [flat,AV.cells]);have h1:one x:=hr.sh;have e1:(Q1P x).getD 0 undef=x:=by
  revert h1
  unfold one Value.oneCell';cases x<;>simp [Q1P,Value.cells]
 have e2:(flat (.lst true sz es)).getD 0 .bot = .lst true sz es:=by simp [flat,AV.cells]
 rw [e1,e2] at h0;refine ⟨_,fun b L hb=>?_,by rw [hA];exact h0.unblk⟩;split at hb
 ·cases hb
 rename_i hn;obtain ⟨q1,q2⟩:=ho b L hb;exact ⟨qK hβ q1,q2,hn⟩
def Q5T (o:Nat→Option (List Nat)) (Ln:Nat):Nat→Option (List Nat):=fun b=>match o b with
 | some (x :: M)=>if x=Ln then none else some (x :: M)
 | _=>none
theorem Q6t {o:Nat→Option (List Nat)} {Ln b id:Nat} {M:List Nat} (h:o b=some (id :: M)) (hne:id ≠ Ln):Q5T o Ln b=some (id :: M):=by simp [Q5T,h,hne]
theorem Q9s {o:Nat→Option (List Nat)} {Ln b:Nat} {L:List Nat} (h:Q5T o Ln b=some L):o b=some L∧∀ M,L ≠ Ln :: M:=by
 simp only [Q5T] at h;split at h
 ·rename_i x M hx;split at h
  ·cases h
  rename_i hne;cases h;exact ⟨hx,fun M' e=>hne (by simpa using (List.cons.inj e).1)⟩
 cases h
theorem HRel.less {w:World} {g:Gh} {h h2:HP} {Ln:Nat} (H:HRel w g h) (hs:∀ id x,h2 id=some x→id ≠ Ln∧h id=some x) (hal:∀ id c i k s,h2 id ≠ some (.ali c i k s)):HRel w ⟨g.R,Q5T g.o Ln,g.ρ⟩ h2:=by
 refine ⟨fun id sz es bk he hb=>?_,fun id sz es bk he hb=>?_,fun id c i k sz bk he hb=>absurd he (hal id c i k sz),fun id kd es bk he hb=>?_⟩
 ·obtain ⟨h0,h1⟩:=hs id _ he;exact (H.mix id sz es bk h1 hb).mono (fun _ _=>rfl) (fun _ _ q=>q) fun b hbo=>⟨Q6t hbo h0,rfl⟩
 ·obtain ⟨h0,h1⟩:=hs id _ he;obtain ⟨x,hx,hh⟩:=H.row id sz es bk h1 hb;exact ⟨x,hx.same fun b M hbo=>⟨Q6t hbo h0,rfl⟩,hh⟩
 obtain ⟨h0,h1⟩:=hs id _ he;exact (H.map id kd es bk h1 hb).move (fun b hb=>⟨hb,rfl⟩) fun b M h2=>⟨Q6t h2 h0,rfl⟩
def Q4X (n:Nat) (A:Nat→AV):List (List AV):=(List.range n).map fun k=>[A k]
theorem Q1F (n:Nat) (A:Nat→AV):(Q4X n A).length=n:=by simp [Q4X]
theorem Q7A {n k:Nat} (A:Nat→AV) (h:k<n):(Q4X n A).getD k []=[A k]:=by simp [Q4X,List.getD_eq_getElem?_getD,h]
section
variable {C:Ctx} {v v₁ v₂:World} {g:Gh} {h:HP} {Ln C0 n nn cap:Nat} {A:Nat→AV} {es0:List (List AV)}
theorem grown_rel (W:WF C v g) (H:HRel v g h) (X:Ext0 v v₂):WF C v₂ g∧HRel v₂ g h:=by
 have ho:∀ b L,g.o b=some L→v₂.heap[b]? = v.heap[b]?:=fun b L hb=>X.old b (W.o b L hb).1;have hR:∀ b,g.R b→v₂.heap[b]? = v.heap[b]?:=fun b hb=>X.old b (W.R b hb).1;refine ⟨⟨fun b hb=>⟨qD (W.R b hb).1 X.size,(W.R b hb).2⟩,fun b L hb=>⟨qD (W.o b L hb).1 X.size,(W.o b L hb).2⟩,X.rest.2.1.trans W.os,tpt ⟨X.rest.1,X.rest.2.2.2⟩ W.tape,X.rest.2.2.1.trans W.output,qK W.size X.size,fun b hb hw=>(X.old b (qD hb W.size)).trans (W.keep b hb hw)⟩,?_⟩;exact H.mono hR (fun b L hb=>⟨hb,ho b L hb⟩) (fun _ _ h=>h) (fun id sz es bk _ h0 h1=>by rw [h0] at h1;cases h1) (fun id sz es bk _ h0 h1=>by rw [h0] at h1;cases h1) (fun id c i k sz bk _ h0 h1=>by rw [h0] at h1;cases h1)
theorem Q7O (W:WF C v g) (H:HRel v g h) (X:Ext0 v v₁) [PS] (B:Brought (KA A) C0 n v₁ v₂) (hL:h Ln=some (.row 1 es0)) (hlen:es0.length=n) (hρ:g.ρ Ln=some ⟨some C0,1,cap⟩) (hal:∀ id bk,g.ρ id=some bk→∀ c i k s,h id ≠ some (.ali c i k s))
  (hcz:cap≤PS.z) (hnc:n≤cap) (hcm:cap≤maxLen) (hoC:g.o C0=some [Ln]) (e:Eff) (he:e.set=[(Ln,.row 1 (Q4X n A))]) (hd:e.del=[]) :
  ∃ o',WF C v₂ ⟨g.R,o',g.ρ⟩∧HRel v₂ ⟨g.R,o',g.ρ⟩ (happ e h)∧∀ b,g.R b→v₂.heap[b]? = v.heap[b]?:=by
 classical
 obtain ⟨val,β,U,⟨cs,hc1,hc2,hc3⟩,hK,hap,hU⟩:=B.vals;have hsz:v.heap.size<v₂.heap.size:=Nat.lt_of_le_of_lt X.size B.size;have hClt:C0<v.heap.size:=(W.o C0 _ hoC).1
 let oo:Nat→Nat→Option (List Nat):=fun k=>if hk:k<n then Classical.choose (hK k hk).1 else fun _=>none
 have hoo:∀ k (hk:k<n),(∀ b L,oo k b=some L→β k≤b∧b<(U k).heap.size∧¬ Blk (U k) b)∧TRel (U k) (fun _=>False) (oo k) [0] (val k) (A k):=fun k hk=>by
  simp only [oo,dif_pos hk];exact Classical.choose_spec (hK k hk).1
 let Qb:Nat→Nat→List Nat→Prop:=fun b k M=>k<n∧oo k b=some (0 :: M)
 have qlow:∀ {b k M},Qb b k M→v₁.heap.size<b∧b<v₂.heap.size:=fun {b k M} q=>by
  obtain ⟨q1,q2⟩:=q;obtain ⟨p1,p2,_⟩:=(hoo k q1).1 b _ q2;rw [hU k q1] at p2;exact ⟨qD (hK k q1).2.1 p1,p2⟩
 have quniq:∀ {b k M k' M'},Qb b k M→Qb b k' M'→k=k'∧M=M':=fun {b k M k' M'} q q'=>by
  have hk:k=k':=by
   rcases Classical.em (k=k') with e|e
   ·exact e
   exfalso;obtain ⟨p1,p2,p3⟩:=(hoo k q.1).1 b _ q.2;obtain ⟨p4,p5,p6⟩:=(hoo k' q'.1).1 b _ q'.2;rcases hap k k' q.1 q'.1 e b p1 (by rw [hU k q.1] at p2;exact p2) with x|x
   ·exact p3 x
   exact p6 x
  subst hk;have:=q.2.symm.trans q'.2;simpa using this
 let o':Nat→Option (List Nat):=fun b=>if b<v.heap.size then g.o b else if hq:∃ p:Nat × List Nat,Qb b p.1 p.2 then some (Ln :: hq.choose.1 :: 0 :: hq.choose.2) else none
 have o1:∀ b,b<v.heap.size→o' b=g.o b:=fun b hb=>if_pos hb;have o2:∀ b k M,Qb b k M→o' b=some (Ln :: k :: 0 :: M):=fun b k M q=>by
  have hq:∃ p:Nat × List Nat,Qb b p.1 p.2:=⟨(k,M),q⟩;have hnl:¬ b<v.heap.size:=by have:=(qlow q).1;have:=X.size;omega
  simp only [o'];rw [if_neg hnl,dif_pos hq];obtain ⟨e1,e2⟩:=quniq hq.choose_spec q;rw [e1,e2]
 have o3:∀ b L,o' b=some L→(b<v.heap.size∧g.o b=some L)∨(v.heap.size≤b∧b<v₂.heap.size):=fun b L hb=>by
  simp only [o'] at hb;split at hb
  ·exact .inl ⟨by assumption,hb⟩
  split at hb
  ·rename_i h1 h2;exact .inr ⟨by omega,(qlow h2.choose_spec).2⟩
  cases hb
 have same:∀ b,b<v.heap.size→b ≠ C0→v₂.heap[b]? = v.heap[b]?:=fun b hb hne=>(B.old b (qD hb X.size) hne).trans (X.old b hb);have hRC:∀ b,g.R b→b<v.heap.size∧b ≠ C0:=fun b hb=>⟨(W.R b hb).1,fun e=>by have:=(W.R b hb).2;rw [e,hoC] at this;cases this⟩;have hR:∀ b,g.R b→v₂.heap[b]? = v.heap[b]?:=fun b hb=>same b (hRC b hb).1 (hRC b hb).2;have keepo:∀ b id M,id ≠ Ln→g.o b=some (id :: M)→o' b=some (id :: M)∧v₂.heap[b]? = v.heap[b]?:=fun b id M hne hb=>by
  have hlt:=(W.o b _ hb).1;refine ⟨(o1 b hlt).trans hb,same b hlt fun e=>hne ?_⟩;rw [e,hoC] at hb;simp at hb;exact hb.1.symm
 have hapn:∀ id,id ≠ Ln→happ e h id=h id:=fun id hne=>by simp [happ,he,hd,look,Ne.symm hne]
 have hapL:happ e h Ln=some (.row 1 (Q4X n A)):=by simp [happ,he,look]
 refine ⟨o',⟨fun b hb=>⟨Nat.lt_trans (hRC b hb).1 hsz,(o1 b (hRC b hb).1).trans (W.R b hb).2⟩,fun b L hb=>?_,B.rest.2.1.trans (X.rest.2.1.trans W.os),tpt ⟨B.rest.1,B.rest.2.2.2⟩ (tpt ⟨X.rest.1,X.rest.2.2.2⟩ W.tape),B.rest.2.2.1.trans (X.rest.2.2.1.trans W.output),qK W.size (Nat.le_of_lt hsz),fun b hb hw=>?_⟩,⟨fun id sz es bk hi hb=>?_,fun id sz es bk hi hb=>?_,fun id c i k s bk hi hb=>?_,fun id kd es bk hi hb=>?_⟩,hR⟩
 ·rcases o3 b L hb with ⟨h1,h2⟩|⟨h1,h2⟩
  ·exact ⟨Nat.lt_trans h1 hsz,(W.o b L h2).2⟩
  exact ⟨h2,.inl (qK W.size h1)⟩
 ·rw [same b (qD hb W.size) fun e=>?_]
  ·exact W.keep b hb hw
  subst e;rcases (W.o _ _ hoC).2 with h1|h1
  ·omega
  exact hw h1
 ·have hne:id ≠ Ln:=fun e'=>by rw [e',hapL] at hi;cases hi
  rw [hapn id hne] at hi;exact (H.mix id sz es bk hi hb).mono hR (fun _ _ h=>h) fun b hbo=>keepo b id [] hne hbo
 ·by_cases hne:id=Ln
  ·subst hne;rw [hapL] at hi;simp only [Option.some.injEq,Ent.row.injEq] at hi;obtain ⟨rfl,rfl⟩:=hi;rw [hρ] at hb;cases hb;refine ⟨.slice (some ⟨C0,0,none⟩) n cap,?_,.own⟩;have:=TRel.own (w:=v₂) (R:=g.R) (o:=o') (L:=[id]) (sz:=1) (es:=Q4X n A) (b:=C0) (cap:=cap) (cur:=cs) (e:=PS.toPayload.ety) (fun i _=>val i) ((o1 C0 hClt).trans hoC) hc1 (by rw [hc2];omega) (by rw [Q1F];exact hnc) hcm
    (fun i hi=>by rw [Q1F] at hi;rw [Q7A A hi];rfl)
    (fun i k hi hk=>by
     rw [Q1F] at hi;obtain rfl:k=0:=by omega
     simpa using hc3 i hi)
    (fun i k hi hk=>by rw [Q1F] at hi;exact (hoo i hi).2.one)
    (fun i k hi hk=>by
     rw [Q1F] at hi;obtain rfl:k=0:=by omega
     rw [Q7A A hi];refine (hoo i hi).2.mono (R':=g.R) _ fun b M hb=>?_;have q:Qb b i M:=⟨hi,by simpa using hb⟩;refine ⟨by rw [o2 b i M q];simp,?_⟩;obtain ⟨p1,p2,p3⟩:=(hoo i hi).1 b _ hb;exact (hK i hi).2.2 b p1 (by rw [hU i hi] at p2;exact p2) p3)
   rw [Q1F] at this;exact this
  rw [hapn id hne] at hi;obtain ⟨x,hx,hh⟩:=H.row id sz es bk hi hb;exact ⟨x,hx.same fun b M hbo=>keepo b id M hne hbo,hh⟩
 ·have hne:id ≠ Ln:=fun e'=>by rw [e',hapL] at hi;cases hi
  rw [hapn id hne] at hi;exact absurd hi (hal id bk hb c i k s)
 have hne:id ≠ Ln:=fun e'=>by rw [e',hapL] at hi;cases hi
 rw [hapn id hne] at hi;exact (H.map id kd es bk hi hb).move (fun b hb=>⟨hb,hR b hb⟩) fun b M h2=>keepo b id M hne h2
end
end
end Go.Vc
namespace Go.Vc
open Go Go.Conc Go.Vc.Ph
section
attribute [local simp] Qd Qt Ql
theorem under_frz (W:World):Under (frz W) W:=⟨(frz_size W).symm,fun b ov h=>by
 rw [Q2e] at h;obtain ⟨o,ho,rfl⟩:=Option.map_eq_some_iff.1 h;refine ⟨o,ho,?_⟩;cases o with
 | cells c e f =>
  refine .cells ?_;split
  ·exact .inl rfl
  exact .inr ⟨by omega,fun i hi=>⟨Nat.zero_le _,hi⟩⟩
 | _=>exact .blank,rfl,rfl,rfl,rfl⟩
theorem frz_same (W:World) (b:Nat):SameC W (frz W) b:=fun c e f h=>⟨_,by rw [Q2e,h];rfl⟩
theorem main_run {P:Program} {W:World} {f:FuncId} {vals:Array Value} {Post:Value→World→Prop} (hinit:P.inits.idxOf? f=none) {R:Ending→World→Prop}
  (h : @Callz P (KdM P W (fun b=>b<W.heap.size) Post) f vals (frz W) R) (hR:∀ v w',R (.returned v) w'→Blw (frz W).heap.size (frz W) w'∧∀ w,RowKit.Below W.heap.size W w→Post v w) :
  ∃ M last o w' t',runNT P (M+1) (solo (G (Frame.enter P f vals .normal) []) W) #[]=(.ended o w',t')∧runN P M (solo (G (Frame.enter P f vals .normal) []) W) = .next last∧step P last = .ended o w'∧Go.Conc.Good P Post last o w' t':=by
 letI:Kd P:=KdM P W (fun b=>b<W.heap.size) Post
 have key:TM P W (fun b=>b<W.heap.size) Post (G (Frame.enter P f vals .normal) []) (frz W):=by
  refine h [] _ rfl fun v w' fr hr hfn hl=>TM.done hl (by rw [hfn];exact hinit) fun v₁ w r U hk=>?_;obtain ⟨hb,hp⟩:=hR v w' hr;have hs:W.heap.size≤w.heap.size:=by
   rw [U.size];have:=hb.size;rw [frz_size] at this;exact qK this r.size
  exact hp w ⟨U.os.trans (r.os.trans hb.os),U.tape.trans (r.tape.trans hb.tape.1),U.output.trans (r.output.trans hb.output),hs,fun k hk'=>(hk k hk').2⟩
 have g0:(#[G (Frame.enter P f vals .normal) []]:Array Goroutine)[0]? = some (G (Frame.enter P f vals .normal) []):=rfl;have c:Cfg P W (fun b=>b<W.heap.size) (G (Frame.enter P f vals .normal) []) (frz W) #[G (Frame.enter P f vals .normal) []] W #[] (fun _=>0) (fun _=>False):=by
  refine ⟨g0,⟨fun i g hi hg=>?_,fun j hj=>rfl⟩,past_nil.mono (Nat.zero_le _),under_frz W,fun l hl=>hl.elim,fun b hb=>⟨Q6w hb,rfl⟩⟩;have:=(Array.getElem?_eq_some_iff.1 hg).1;simp at this;omega
 have:=key (frz W) (.refl _) _ W none #[] _ _ c;rw [← solo_eq_crowd] at this;exact this
end
end Go.Vc
