/- A part of the proof. -/
import Derived.Test.YtghefemofbipnaaGreatX14
set_option maxRecDepth 100000
set_option maxHeartbeats 4000000
set_option linter.unusedSimpArgs false
set_option linter.unusedVariables false
set_option linter.unusedSectionVars false
set_option linter.unnecessarySimpa false

open Option.some renaming injEq→qA
open List renaming getD_eq_getElem?_getD→qG
open Prod.mk renaming injEq→qH
open Option.some renaming inj→zE
open Option renaming getD_some→qB
open List renaming range→zF
namespace Go.Vc
open Go
section
attribute [local simp] Qd Qt Ql
def mxt (m:List (Nat × Nat)) (n0 n cnt:Nat):List (Nat × Nat):=m++(zF cnt).map fun i=>(n0+i,n+i)
theorem ICon.frame {P:Program} [Kd P] {f:Nat} {as0 az:List AV} {H0:List (Nat × Ent)} {n0:Nat} {e0 e:Eff} {h:HP} {n:Nat} (hc:ICon P f as0 (fun id=>look id H0) n0 e0) (m:List (Nat × Nat))
  (hm1:m.map Prod.fst=zF n0) (hm2:(m.map Prod.snd).Nodup) (hm3:∀ p∈m,p.2<n) (hH0:∀ p∈H0,p.1<n0)
  (hpre:∀ p∈m,∃ x y,look p.1 H0=some x∧h p.2=some y∧rlE (back m) y=some x∧rlE (mxt m n0 n e0.cnt) x=some y) (has:as0=rlL (back m) az) (hali:∀ id,id<n→∀ c i k sz,h id ≠ some (.ali c i k sz))
  (hcnt:e.cnt=e0.cnt) (hv:e.v=rl (mxt m n0 n e0.cnt) e0.v) (hset:∀ i j,look i m=some j→look j e.set=(look i e0.set).map (rlE' (mxt m n0 n e0.cnt))) (hset2:∀ j,(∀ i,look i m ≠ some j)→look j e.set=none)
  (hdel:∀ i j,look i m=some j→(j∈e.del↔i∈e0.del)) (hdel2:∀ j,(∀ i,look i m ≠ some j)→¬ j∈e.del) (hna:(∀ p∈e0.set,Q6I p.2=true)∧∀ p∈e0.new,Q6I p.2=true)
  (hcomp:∀ i,i<e0.cnt→∃ x,look (n0+i) e0.new=some x∧(n+i,rlE' (mxt m n0 n e0.cnt) x)∈e.new) (hfine:e.fine n):ICon P f az h n e:=by
 refine ⟨hc.enters,fun _=>hfine,fun C w g h' vals hag hnw hlim W H hsz hargs=>?_⟩;have hf0:=hc.fine (fun id x hx=>hH0 _ (Qe hx));generalize hmx:mxt m n0 n e0.cnt=mx at *;have hm1n:(m.map Prod.fst).Nodup:=by rw [hm1];exact List.nodup_range
 have hb2:((back m).map Prod.snd).Nodup:=by
  have:(back m).map Prod.snd=m.map Prod.fst:=by simp [back,Function.comp_def]
  rw [this];exact hm1n
 have hb1:((back m).map Prod.fst).Nodup:=by
  have:(back m).map Prod.fst=m.map Prod.snd:=by simp [back,Function.comp_def]
  rw [this];exact hm2
 have hml:∀ i,i<n0→∃ j,look i m=some j:=by
  intro i hi;have:i∈m.map Prod.fst:=by rw [hm1];simpa using hi
  obtain ⟨p,hp,rfl⟩:=List.mem_map.1 this;exact ⟨p.2,QR hm1n hp⟩
 have hmlt:∀ i j,look i m=some j→i<n0∧j<n:=by
  intro i j hij;have hp:=Qe hij;refine ⟨?_,hm3 _ hp⟩;have:i∈m.map Prod.fst:=List.mem_map.2 ⟨_,hp,rfl⟩;rw [hm1] at this;simpa using this
 have hxl:∀ i,look i mx=match look i m with|some j=>some j|none=>if n0≤i∧i<n0+e0.cnt then some (n+(i - n0)) else none:=by
  intro i;rw [← hmx];unfold mxt;have hr:∀ (k s:Nat),look i ((List.range' s k).map fun q=>(n0+q,n+q))=if n0+s≤i∧i<n0+(s+k) then some (n+(i - n0)) else none:=by
   intro k
   induction k with
   | zero=>intro s;simp [look]
   | succ k ih =>
    intro s;rw [List.range'_succ];simp only [List.map_cons,look]
    by_cases hq:n0+s=i
    ·subst hq;simp
    rw [if_neg (by simpa using hq),ih (s+1)]
    by_cases hz:n0+(s+1)≤i∧i<n0+(s+1+k)
    ·rw [if_pos hz,if_pos (by omega)]
    rw [if_neg hz,if_neg (by omega)]
  have happd:∀ (a b:List (Nat × Nat)),look i (a++b)=match look i a with|some j=>some j|none=>look i b:=by
   intro a b
   induction a with
   | nil=>simp [look]
   | cons p r ih =>
    simp only [List.cons_append,look]
    by_cases hq:p.1=i
    ·simp [hq]
    simp only [hq,if_false,ih]
  rw [happd,List.range_eq_range',hr];simp
 have hx1:∀ i id,look i mx=some id→(look i m=some id∧i<n0∧id<n)∨(n0≤i∧i<n0+e0.cnt∧id=n+(i - n0)):=by
  intro i id hi;rw [hxl] at hi;cases hl:look i m with
  | some j =>
   rw [hl] at hi;simp only [qA] at hi;subst hi;exact .inl ⟨rfl,(hmlt i j hl).1,(hmlt i j hl).2⟩
  | none =>
   rw [hl] at hi;simp only at hi;split at hi
   ·rename_i hq;simp only [qA] at hi;exact .inr ⟨hq.1,hq.2,hi.symm⟩
   cases hi
 have hxm:∀ i j,look i m=some j→look i mx=some j:=by intro i j hij;rw [hxl,hij]
 have hx1n:(mx.map Prod.fst).Nodup:=by
  have:mx.map Prod.fst=zF (n0+e0.cnt):=by rw [← hmx];simp [mxt,hm1,Function.comp_def,List.range_add]
  rw [this];exact List.nodup_range
 have hx2n:(mx.map Prod.snd).Nodup:=by
  have:mx.map Prod.snd=m.map Prod.snd++(zF e0.cnt).map (n + ·):=by rw [← hmx];simp [mxt,Function.comp_def]
  rw [this,List.nodup_append];refine ⟨hm2,List.Pairwise.map (R:=fun a b=>a ≠ b) _ (fun a b h e=>h (by omega)) List.nodup_range,?_⟩;intro a ha b hb e;obtain ⟨p,hp,rfl⟩:=List.mem_map.1 ha;obtain ⟨q,_,rfl⟩:=List.mem_map.1 hb;have:=hm3 p hp;omega
 have ho0:∀ b L,rlo (back m) g.o b=some L→∃ M,g.o b=some M:=by
  intro b L hb;simp only [rlo] at hb;split at hb
  ·rename_i hq;exact ⟨_,hq⟩
  cases hb
 let C0:Ctx:=⟨w,fun b=>∃ L,rlo (back m) g.o b=some L,fun _=>none,0⟩
 let g0:Gh:=⟨g.R,rlo (back m) g.o,rlρ (back m) g.ρ⟩
 let h0':HP:=fun id=>if id<n0 then look id H0 else look id e0.new
 have W0:WF C0 w g0:=by
  refine ⟨fun b hb=>⟨(W.R b hb).1,?_⟩,fun b L hb=>?_,rfl,⟨rfl,Nat.le_refl _⟩,rfl,Nat.le_refl _,fun b _ _=>rfl⟩
  ·show rlo (back m) g.o b=none;simp only [rlo,(W.R b hb).2]
  obtain ⟨M,hM⟩:=ho0 b L hb;exact ⟨(W.o b M hM).1,.inr ⟨L,hb⟩⟩
 have hρb:∀ i k,rlρ (back m) g.ρ i=some k→∃ j,look i m=some j∧g.ρ j=some k:=by
  intro i k hk;simp only [rlρ] at hk;split at hk
  ·rename_i j hj;exact ⟨j,Q2x hm1n (Q2x hb1 hj),hk⟩
  cases hk
 have hρb2:∀ i j,look i m=some j→rlρ (back m) g.ρ i=g.ρ j:=by
  intro i j hij;have:=Q1r hb2 (Q1r hm2 hij);simp only [rlρ,this]
 have H00:HRel w g0 h0':=by
  have q:HRel w g0 (fun id=>look id H0):=by
   refine HRel.relabel (w:=w) (R:=g.R) (o:=g.o) (ρ:=g.ρ) H (back m) hb2 fun i x hx=>?_;obtain ⟨j,hij⟩:=hml i (hH0 _ (Qe hx));obtain ⟨x',y,z1,z2,z3,_⟩:=hpre _ (Qe hij);simp only at z1 z2;rw [hx] at z1;cases z1;exact ⟨j,y,Q1r hm2 hij,by rw [hag j (hmlt i j hij).2];exact z2,z3⟩
  refine q.grow fun i k hk=>?_;obtain ⟨j,hij,_⟩:=hρb i k hk;exact if_pos (hmlt i j hij).1
 have hsz0:vals.size=as0.length:=by rw [has,Qu];exact hsz
 have hargs0:∀ k,k<as0.length→XRel w g0.R g0.ρ (vals.getD k undef) (as0.getD k .bot):=fun k hk=>by
  rw [has,Qu] at hk;rw [has,Q1V];exact Q94 hb2 (hargs k hk)
 refine (hc.calls C0 w g0 h0' vals (fun i hi=>if_pos hi) (fun p hp=>?_) (fun i k hk=>?_) W0 H00 hsz0 hargs0).mono fun ex w' ⟨v,R',o1,ρ1,q0,q1,q2,q3,q4,q5,q6,q7⟩=>?_
 ·have:=(hf0.new p hp).1;show (if p.1<n0 then look p.1 H0 else look p.1 e0.new)=some p.2;rw [if_neg (by omega)];exact QR hf0.nodup hp
 ·obtain ⟨j,hij,_⟩:=hρb i k hk;exact (hmlt i j hij).1
 have q1':RX g.R R' w.heap.size:=q1;have hwR:∀ b L,g.o b=some L→b<w.heap.size:=fun b L hb=>(W.o b L hb).1;have hRo:∀ b L,g.o b=some L→¬ R' b:=by
  intro b L hb hR;rcases q1'.2 b hR with h1|h1
  ·have:=(W.R b h1).2;rw [hb] at this;cases this
  have:=hwR b L hb;omega
 have hkeep:∀ b,b<w.heap.size→rlo (back m) g.o b=none→w'.heap[b]? = w.heap[b]?∧o1 b=none:=by
  intro b hb ho;have hn:¬ C0.wrb b:=by rintro ⟨L,hL⟩;rw [ho] at hL;cases hL
  refine ⟨q2.keep b hb hn,?_⟩;cases hq:o1 b with
  | none=>rfl
  | some L =>
   rcases (q2.o b L hq).2 with h1|h1
   ·have:w.heap.size≤b:=h1;omega
   exact absurd h1 hn
 haveI:∀ b,Decidable ((∃ L,rlo (back m) g.o b=some L)∨R' b):=fun b=>Classical.propDecidable _
 let o2:Nat→Option (List Nat):=fun b=>match rlo mx o1 b with
  | some L=>some L
  | none=>if (∃ L,rlo (back m) g.o b=some L)∨R' b then none else g.o b
 let ρ2:Nat→Option Bk:=fun id=>match g.ρ id with|some k=>some k|none=>rlρ mx ρ1 id
 have hρ2:∀ id k,g.ρ id=some k→ρ2 id=some k:=fun id k hk=>by simp only [ρ2,hk]
 have ho2:∀ b L,rlo mx o1 b=some L→o2 b=some L:=fun b L hb=>by simp only [o2,hb]
 have hρx:∀ i id,look i mx=some id→rlρ mx ρ1 id=ρ1 i:=fun i id hi=>by simp only [rlρ,Q1r hx2n hi]
 have hρx2:∀ id k,rlρ mx ρ1 id=some k→∃ i,look i mx=some id∧ρ1 i=some k:=by
  intro id k hk;simp only [rlρ] at hk;split at hk
  ·rename_i i hi;exact ⟨i,Q2x hx1n hi,hk⟩
  cases hk
 have hgx:∀ i id k,look i mx=some id→g.ρ id=some k→ρ1 i=some k:=by
  intro i id k hi hk;rcases hx1 i id hi with ⟨h1,_,_⟩|⟨h1,_,h3⟩
  ·exact q4 i k (by show rlρ (back m) g.ρ i=some k;rw [hρb2 i id h1];exact hk)
  have:=hlim id k hk;omega
 have hρ3:∀ id k,rlρ mx ρ1 id=some k→ρ2 id=some k:=by
  intro id k hk;cases hg:g.ρ id with
  | none=>simp only [ρ2,hg];exact hk
  | some k2 =>
   obtain ⟨i,hi,h1⟩:=hρx2 id k hk;have:=hgx i id k2 hi hg;rw [h1] at this;cases this;exact hρ2 id _ hg
 have hρ4:∀ i id k,look i mx=some id→ρ2 id=some k→rlρ mx ρ1 id=some k:=by
  intro i id k hi hk;cases hg:g.ρ id with
  | none=>simpa only [ρ2,hg] using hk
  | some k2 =>
   have e1:ρ2 id=some k2:=hρ2 id _ hg;rw [hk] at e1;cases e1;rw [hρx i id hi];exact hgx i id _ hi hg
 have hX:∀ v a,XRel w' R' ρ1 v a→XRel w' R' ρ2 v (rl mx a):=fun v a hx=>(Q94 hx2n hx).mono (fun b hb=>⟨hb,rfl⟩) hρ3
 let hF:HP:=fun id=>match look id (back mx) with|some i=>(happ e0 h0' i).bind (rlE mx)|none=>none
 have HF:HRel w' ⟨R',rlo mx o1,rlρ mx ρ1⟩ hF:=by
  refine HRel.relabel (w:=w') (R:=R') (o:=o1) (ρ:=ρ1) q3 mx hx2n fun id x hx=>?_;simp only [hF] at hx;split at hx
  ·rename_i i hi;obtain ⟨y,h1,h2⟩:=Option.bind_eq_some_iff.1 hx;exact ⟨i,y,Q2x hx1n hi,h1,h2⟩
  cases hx
 have hno:∀ id x k,hF id=some x→rlρ mx ρ1 id=none→ρ2 id=some k→False:=by
  intro id x k hx h1 h2;simp only [hF] at hx;split at hx
  ·rename_i i hi;rw [hρ4 i id k (Q2x hx1n hi) h2] at h1;cases h1
  cases hx
 have HF2:HRel w' ⟨R',o2,ρ2⟩ hF:=HF.mono (fun _ _=>rfl) (fun b L hb=>⟨ho2 b L hb,rfl⟩) hρ3 (fun id sz es bk h1 h2 h3=>(hno id _ bk h1 h2 h3).elim) (fun id sz es bk h1 h2 h3=>(hno id _ bk h1 h2 h3).elim)
  (fun id c i k sz bk h1 h2 h3=>(hno id _ bk h1 h2 h3).elim) (fun id kd es bk h1 h2 h3=>(hno id _ bk h1 h2 h3).elim)
 have hE:∀ x,Q6I x=true→rlE mx x=some (rlE' mx x):=by
  intro x hx;cases x with
  | ali=>cases hx
  | _=>rfl
 have hT:∀ i id,look i mx=some id→happ e h' id=(happ e0 h0' i).bind (rlE mx):=by
  intro i id hi;rcases hx1 i id hi with ⟨h1,h2,h3⟩|⟨h1,h2,h3⟩
  ·simp only [happ,hset i id h1];cases hs:look i e0.set with
   | some x=>simp only [Option.map_some,Option.bind_some];exact (hE x (hna.1 _ (Qe hs))).symm
   | none =>
    simp only [Option.map_none]
    by_cases hd:i∈e0.del
    ·rw [if_pos ((hdel i id h1).2 hd),if_pos hd];rfl
    rw [if_neg (fun q=>hd ((hdel i id h1).1 q)),if_neg hd];obtain ⟨x,y,z1,z2,_,z4⟩:=hpre _ (Qe h1);simp only at z1 z2;have:h0' i=some x:=(by show (if i<n0 then look i H0 else look i e0.new)=some x;rw [if_pos h2];exact z1);rw [hag id h3,z2,this];exact z4.symm
  have hs:look id e.set=none:=hset2 id fun i' hi'=>by have:=(hmlt i' id hi').2;omega
  have hd:¬ id∈e.del:=hdel2 id fun i' hi'=>by have:=(hmlt i' id hi').2;omega
  have hs0:look i e0.set=none:=by
   cases hq:look i e0.set with
   | none=>rfl
   | some x=>have:=hf0.sets.2 _ (Qe hq);simp only at this;omega
  have hd0:¬ i∈e0.del:=fun q=>by have:=hf0.del i q;omega
  simp only [happ,hs,hs0];rw [if_neg hd,if_neg hd0];obtain ⟨x,z1,z2⟩:=hcomp (i - n0) (by omega);rw [show n0+(i - n0)=i by omega] at z1;have e1:h0' i=some x:=by show (if i<n0 then look i H0 else look i e0.new)=some x;rw [if_neg (by omega)];exact z1
  rw [← h3] at z2;rw [hnw _ z2,e1];exact (hE x (hna.2 _ (Qe z1))).symm
 have hI:∀ id,look id (back mx)=none→(look id (back m)=none)∧(id<n→happ e h' id=h' id)∧rlρ mx ρ1 id=none:=by
  intro id hid;have h1:∀ i,look i m ≠ some id:=fun i hi=>by
   have:=Q1r hx2n (hxm i id hi);rw [hid] at this;cases this
  refine ⟨?_,fun _=>?_,by simp only [rlρ,hid]⟩
  ·cases hq:look id (back m) with
   | none=>rfl
   | some i=>exact absurd (Q2x hm1n hq) (h1 i)
  simp only [happ,hset2 id h1];rw [if_neg (hdel2 id h1)]
 have hirr:∀ id b M,look id (back m)=none→g.o b=some (id :: M)→o2 b=some (id :: M)∧w'.heap[b]? = w.heap[b]?:=by
  intro id b M hid hb;have h0:rlo (back m) g.o b=none:=by simp only [rlo,hb,hid]
  obtain ⟨k1,k2⟩:=hkeep b (hwR b _ hb) h0;refine ⟨?_,k1⟩;have h1:rlo mx o1 b=none:=by simp only [rlo,k2]
  simp only [o2,h1];rw [if_neg]
  ·exact hb
  rintro (⟨L,hL⟩|hR)
  ·rw [h0] at hL;cases hL
  exact hRo b _ hb hR
 have hXi:∀ v a,XRel w g.R g.ρ v a→XRel w' R' ρ2 v a:=fun v a hx=>hx.mono (fun b hb=>⟨q1'.1 b hb,q7 b hb⟩) hρ2;have hsplit:∀ id x k,happ e h' id=some x→ρ2 id=some k→hF id=some x∨(look id (back m)=none∧id<n∧h' id=some x∧g.ρ id=some k):=by
  intro id x k hx hk;cases hl:look id (back mx) with
  | some i =>
   left;simp only [hF,hl];rw [← hT i id (Q2x hx1n hl)];exact hx
  | none =>
   right;obtain ⟨i1,i2,i3⟩:=hI id hl;have hg:g.ρ id=some k:=by
    cases hg:g.ρ id with
    | none=>simp only [ρ2,hg,i3] at hk;cases hk
    | some k2=>have:=hρ2 id _ hg;rw [hk] at this;exact this.symm
   have hlt:=hlim id k hg;exact ⟨i1,hlt,by rw [← i2 hlt];exact hx,hg⟩
 refine ⟨v,R',o2,ρ2,q0,⟨q1'.1,fun b hb=>(q1'.2 b hb).imp id (Nat.le_trans W.size)⟩,⟨fun b hb=>⟨(q2.R b hb).1,?_⟩,fun b L hb=>?_,q2.os.trans W.os,tpt q2.tape W.tape,q2.output.trans W.output,Nat.le_trans W.size q2.size,fun b hb hw=>?_⟩,
  ⟨fun id sz es bk he hb=>?_,fun id sz es bk he hb=>?_,fun id c i k sz bk he hb=>?_,fun id kd es bk he hb=>?_⟩,hρ2,fun id k hk=>?_,by rw [hv];exact hX _ _ q6,q7⟩
 ·have h1:o1 b=none:=(q2.R b hb).2;show o2 b=none;have h2:rlo mx o1 b=none:=by simp only [rlo,h1]
  simp only [o2,h2];rw [if_pos (.inr hb)]
 ·have hb':o2 b=some L:=hb;cases hq:rlo mx o1 b with
  | some M =>
   have:∃ L1,o1 b=some L1:=by
    simp only [rlo] at hq;split at hq
    ·rename_i h3;exact ⟨_,h3⟩
    cases hq
   obtain ⟨L1,h1⟩:=this;obtain ⟨k1,k2⟩:=q2.o b L1 h1;refine ⟨k1,?_⟩;rcases k2 with k2|⟨L2,k2⟩
   ·exact .inl (Nat.le_trans W.size k2)
   obtain ⟨M2,h3⟩:=ho0 b L2 k2;exact (W.o b M2 h3).2
  | none =>
   simp only [o2,hq] at hb';split at hb'
   ·cases hb'
   exact ⟨Nat.lt_of_lt_of_le (hwR b L hb') q2.size,(W.o b L hb').2⟩
 ·have h1:b<w.heap.size:=Nat.lt_of_lt_of_le hb W.size;have h2:rlo (back m) g.o b=none:=by
   cases hq:rlo (back m) g.o b with
   | none=>rfl
   | some L =>
    obtain ⟨M,hM⟩:=ho0 b L hq;rcases (W.o b M hM).2 with h3|h3
    ·omega
    exact absurd h3 hw
  exact (hkeep b h1 h2).1.trans (W.keep b hb hw)
 ·rcases hsplit id _ bk he hb with h1|⟨h1,_,h3,h4⟩
  ·exact HF2.mix id sz es bk h1 hb
  rcases (H.mix id sz es bk h3 h4).ex0 with h0|⟨b,cur,el,us,cpm,p1,p2,p3,p4,p5,p5',p6,p7,p8,p9⟩
  ·exact ⟨.inl h0⟩
  obtain ⟨k1,k2⟩:=hirr id b [] h1 p2;exact .mk' ⟨b,cur,el,us,cpm,p1,k1,k2.trans p3,p4,p5,p5',p6,p7,p8,fun j l hj hl=>hXi _ _ (p9 j l hj hl)⟩
 ·rcases hsplit id _ bk he hb with h1|⟨h1,_,h3,h4⟩
  ·exact HF2.row id sz es bk h1 hb
  obtain ⟨v,hv,hh⟩:=H.row id sz es bk h3 h4;exact ⟨v,hv.mono (R':=R') [id] fun b M hbo=>hirr id b M h1 hbo,hh⟩
 ·rcases hsplit id _ bk he hb with h1|⟨h1,h2,h3,h4⟩
  ·exfalso;simp only [hF] at h1;split at h1
   ·rename_i i0 hi0;obtain ⟨y,h5,h6⟩:=Option.bind_eq_some_iff.1 h1;have hy:Q6I y=true:=by
     have hi:=Q2x hx1n hi0;simp only [happ] at h5;split at h5
     ·rename_i z hz;simp only [qA] at h5;subst h5;exact hna.1 _ (Qe hz)
     split at h5
     ·cases h5
     have h5':(if i0<n0 then look i0 H0 else look i0 e0.new)=some y:=h5;split at h5'
     ·rename_i hlt;obtain ⟨j,hij⟩:=hml i0 hlt;obtain ⟨x,y',z1,z2,z3,z4⟩:=hpre _ (Qe hij);simp only at z1 z2;rw [h5'] at z1;cases z1;cases y with
      | ali c2 i2 k2 s2 =>
       exfalso;cases y' with
       | ali c3 i3 k3 s3=>exact hali j (hmlt i0 j hij).2 _ _ _ _ z2
       | mix=>simp [rlE] at z3
       | row=>simp [rlE] at z3
       | mapE=>simp [rlE] at z3
      | _=>rfl
     exact hna.2 _ (Qe h5')
    rw [hE y hy] at h6;cases y with
    | ali=>cases hy
    | mix=>simp [rlE',rlE] at h6
    | row=>simp [rlE',rlE] at h6
    | mapE=>simp [rlE',rlE] at h6
   cases h1
  rw [hag id h2] at h3;exact absurd h3 (hali id h2 _ _ _ _)
 ·rcases hsplit id _ bk he hb with h1|⟨h1,_,h3,h4⟩
  ·exact HF2.map id kd es bk h1 hb
  exact (H.map id kd es bk h3 h4).move (fun b hb=>⟨q1'.1 b hb,q7 b hb⟩) fun b M p2=>hirr id b M h1 p2
 cases hg:g.ρ id with
 | some k2=>have:=hρ2 id _ hg;rw [hk] at this;exact .inl this.symm
 | none =>
  right;simp only [ρ2,hg] at hk;obtain ⟨i,hi,h1⟩:=hρx2 id k hk;rcases q5 i k h1 with h2|h2
  ·obtain ⟨j,hij,h3⟩:=hρb i k h2;have:=hxm i j hij;rw [hi] at this;cases this;rw [hg] at h3;cases h3
  rcases hx1 i id hi with ⟨_,h4,_⟩|⟨_,h4,h5⟩
  ·omega
  rw [hcnt];omega
def trm (m:List (Nat × Nat)) (i:Nat):Nat:=(look i m).getD 0
theorem ICon.frameL {P:Program} [Kd P] {f:Nat} {as0 az:List AV} {H0 H:List (Nat × Ent)} {n0:Nat} {e0 e:Eff} {n:Nat} (hc:ICon P f as0 (fun id=>look id H0) n0 e0) (m:List (Nat × Nat)) (hm1:m.map Prod.fst=zF n0) (hm2:(m.map Prod.snd).Nodup∧(∀ p∈m,p.2<n)∧(∀ p∈H0,p.1<n0))
  (hpre:∀ p∈m,(look p.1 H0).isSome=true∧(look p.2 H).bind (rlE (back m))=look p.1 H0∧(look p.1 H0).bind (rlE (mxt m n0 n e0.cnt))=look p.2 H) (has:as0=rlL (back m) az) (hali:∀ p∈H,Q6I p.2=true)
  (hcnt:e.cnt=e0.cnt) (hv:e.v=rl (mxt m n0 n e0.cnt) e0.v) (hset:e.set=e0.set.map fun p=>(trm m p.1,rlE' (mxt m n0 n e0.cnt) p.2)) (hdel:e.del=e0.del.map (trm m)) (hnew:e.new=e0.new.map fun p=>(n+(p.1 - n0),rlE' (mxt m n0 n e0.cnt) p.2))
  (hna:(∀ p∈e0.set,Q6I p.2=true)∧∀ p∈e0.new,Q6I p.2=true) (hcomp:newB n0 e0.cnt (e0.new.map Prod.fst)=true) (hfine:e.fine n):ICon P f az (fun id=>look id H) n e:=by
 have hf0:=hc.fine (fun id x hx=>hm2.2.2 _ (Qe hx));have hm1n:(m.map Prod.fst).Nodup:=by rw [hm1];exact List.nodup_range
 have hin:∀ i,i<n0→∃ j,look i m=some j:=by
  intro i hi;have:i∈m.map Prod.fst:=by rw [hm1];simpa using hi
  obtain ⟨p,hp,rfl⟩:=List.mem_map.1 this;exact ⟨p.2,QR hm1n hp⟩
 have hlt:∀ i j,look i m=some j→i<n0:=by
  intro i j hij;have:i∈m.map Prod.fst:=List.mem_map.2 ⟨_,Qe hij,rfl⟩;rw [hm1] at this;simpa using this
 have tr:∀ i j,look i m=some j→trm m i=j:=fun i j h=>by simp [trm,h]
 have inj:∀ i i' j,look i m=some j→i' < n0→trm m i'=j→i'=i:=by
  intro i i' j hij hi' h;obtain ⟨j',hj'⟩:=hin i' hi';have:=tr i' j' hj';rw [h] at this;subst this;exact Q6D hm2.1 hj' hij
 have lm:∀ (l:List (Nat × Ent)) (F:Ent→Ent) (i j:Nat),look i m=some j→(∀ p∈l,p.1<n0)→look j (l.map fun p=>(trm m p.1,F p.2))=(look i l).map F:=by
  intro l F i j hij
  induction l with
  | nil=>intro _;rfl
  | cons p r ih =>
   intro hl;simp only [List.map_cons,look]
   by_cases hq:p.1=i
   ·rw [if_pos hq,if_pos (by rw [hq];exact tr i j hij)];rfl
   rw [if_neg hq,if_neg (fun h=>hq (inj i p.1 j hij (hl p (by simp)) h))];exact ih fun q hq'=>hl q (by simp [hq'])
 refine ICon.frame hc m hm1 hm2.1 hm2.2.1 hm2.2.2 (fun p hp=>?_) has (fun id hid c i k sz he=>?_) hcnt hv (fun i j hij=>?_) (fun j hj=>?_) (fun i j hij=>?_) (fun j hj hd=>?_) hna (fun i hi=>?_) hfine
 ·obtain ⟨z1,z2,z3⟩:=hpre p hp;obtain ⟨x,hx⟩:=Option.isSome_iff_exists.1 z1;rw [hx] at z2 z3;obtain ⟨y,hy,hyx⟩:=Option.bind_eq_some_iff.1 z2;exact ⟨x,y,hx,hy,hyx,by rw [← hy,← z3];rfl⟩
 ·have:=hali _ (Qe he);cases this
 ·rw [hset];exact lm e0.set _ i j hij hf0.sets.2
 ·rw [hset];cases hq:look j (e0.set.map fun p=>(trm m p.1,rlE' (mxt m n0 n e0.cnt) p.2)) with
  | none=>rfl
  | some x =>
   exfalso;obtain ⟨p,hp,he⟩:=List.mem_map.1 (Qe hq);simp only [qH] at he;obtain ⟨j',hj'⟩:=hin p.1 (hf0.sets.2 p hp);rw [tr _ _ hj'] at he;exact hj p.1 (by rw [hj',he.1])
 ·rw [hdel,List.mem_map];constructor
  ·rintro ⟨i',hi',h⟩
   have:=inj i i' j hij (hf0.del i' hi') h;subst this;exact hi'
  intro h;exact ⟨i,h,tr i j hij⟩
 ·rw [hdel,List.mem_map] at hd;obtain ⟨i',hi',h⟩:=hd;obtain ⟨j',hj'⟩:=hin i' (hf0.del i' hi');rw [tr _ _ hj'] at h;exact hj i' (by rw [hj',h])
 have:=newI (n:=n0) (e:=e0) hcomp (n0+i) (by omega) (by omega);obtain ⟨p,hp,he⟩:=List.mem_map.1 this;refine ⟨p.2,by rw [← he];exact QR hf0.nodup hp,?_⟩;rw [hnew];refine List.mem_map.2 ⟨p,hp,?_⟩;rw [show p.1 - n0=i by omega]
inductive PreL:List AV→List AV→Prop
 | nil:PreL [] []
 | eq {a az bs}:PreL az bs→PreL (a :: az) (a :: bs)
 | pre {xs cs az bs}:xs.take cs.length=cs→PreL az bs→PreL (.rptr xs :: az) (.rptr cs :: bs)
 | nl {id u sz az bs}:PreL az bs→PreL (.own id 0 0 :: az) (.lst u sz [] :: bs)
theorem PreL.at {az bs:List AV} (h:PreL az bs):az.length=bs.length∧∀ k,k<az.length→∀ {w:World} {R:Nat→Prop} {ρ:Nat→Option Bk} {v:Value},XRel w R ρ v (az.getD k .bot)→XRel w R ρ v (bs.getD k .bot):=by
 induction h with
 | nil=>exact ⟨rfl,fun k hk=>by simp at hk⟩
 | eq _ ih =>
  refine ⟨by simp [ih.1],fun k hk=>?_⟩;cases k with
  | zero=>intro w R ρ v hx;exact hx
  | succ k=>intro w R ρ v hx;exact ih.2 k (by simpa using hk) hx
 | @pre xs cs az bs e _ ih =>
  refine ⟨by simp [ih.1],fun k hk=>?_⟩;cases k with
  | succ k=>intro w R ρ v hx;exact ih.2 k (by simpa using hk) hx
  | zero =>
   intro w R ρ v hx;have hx':XRel w R ρ v (.rptr xs):=hx;obtain ⟨b,x,cur,el,fr,us,h1,h2,h3,h4,h5,h6⟩:=hx'.rptr_eq;have hl:cs.length≤xs.length:=by
    have:=congrArg List.length e;simp at this;omega
   subst h1;show XRel w R ρ _ (.rptr cs);refine .r (.rptr us h2 h3 (fun k hk=>h4 k (by omega)) (fun k hk=>h5 k (by omega)) fun k hk=>?_);have:=h6 k (by omega);have e2:cs.getD k .bot=xs.getD k .bot:=by
    rw [← e];simp [qG,hk]
   rw [e2];exact this
 | @nl id u sz az bs _ ih =>
  refine ⟨by simp [ih.1],fun k hk=>?_⟩;cases k with
  | succ k=>intro w R ρ v hx;exact ih.2 k (by simpa using hk) hx
  | zero =>
   intro w R ρ v hx;have hx':XRel w R ρ v (.own id 0 0):=hx;show XRel w R ρ _ (.lst u sz []);rcases hx'.own_eq with ⟨_,_,_,e2,_,_⟩|⟨b,_,cap,cc,x,_,e2,e3,_,_,_,e7⟩
   ·rw [e2];exact .r (.nil (by simp))
   rw [e2];exact .r (.nil (by omega))
end
section
attribute [local simp] Qd Qt Ql
structure RetFG (P:Program) (rvs:List ResultVar) (st:St) (rs:List AV):Prop where
 ex:∃ az,RGet P st rvs az∧PurL st.hp az rs
theorem RetFG.mk' {P:Program} [Kd P] {rvs:List ResultVar} {st:St} {az rs:List AV} (hg:RGet P st rvs az) (hp:PurL st.hp az rs):RetFG P rvs st rs:=⟨_,hg,hp⟩
def pko (p i k j:Nat) (o:Nat→Option (List Nat)):Nat→Option (List Nat):=fun b=>match o b with
 | some (x :: M)=>if x=p then (match M with
  | i' :: k' :: M'=>if i'=i∧k'=k then some (j :: M') else none
  | _=>none) else some (x :: M)
 | _=>none
theorem Q5r {p i k j:Nat} {o:Nat→Option (List Nat)} {b x:Nat} {M:List Nat} (h:o b=some (x :: M)) (hx:x ≠ p):pko p i k j o b=some (x :: M):=by
 simp only [pko,h,if_neg hx]
theorem pko_cell {p i k j:Nat} {o:Nat→Option (List Nat)} {b:Nat} {M:List Nat} (h:o b=some (p :: i :: k :: M)):pko p i k j o b=some (j :: M):=by
 simp [pko,h]
theorem pko_some {p i k j:Nat} {o:Nat→Option (List Nat)} {b:Nat} {L:List Nat} (h:pko p i k j o b=some L):∃ L',o b=some L':=by
 unfold pko at h;split at h
 ·rename_i hb;exact ⟨_,hb⟩
 cases h
theorem Wk.pick {F:Fx} {st st':St} {p j i k sz sz2:Nat} {es es2:List (List AV)} (hp:look p st.h=some (.row sz es)) (hj:look j st.h=some (.ali p i k sz2)) (hi:i<es.length) (hk:k<sz) (hc:(es.getD i []).getD k .bot = .lst true sz2 es2)
  (hs:∀ q∈st'.s,st.get q.1=q.2∨q.2 = .bot) (hn:st'.n=st.n) (hh:∀ q∈st'.h,q=(j,.row sz2 es2)∨(q.1 ≠ p∧look q.1 st.h=some q.2∧(match q.2 with|.ali _ _ _ _=>False|_=>True))):Wk F st st':=by
 intro a w ⟨R,hX,hr⟩;obtain ⟨r1,r2,r3,o,ρ,W,H,hx,hρ,hpn⟩:=hr;have hent:∀ id e,st'.hp id=some e→(id=j∧e = .row sz2 es2)∨(id ≠ p∧st.hp id=some e∧(match e with|.ali _ _ _ _=>False|_=>True)):=fun id e h=>by
  rcases hh (id,e) (Qe h) with q|q
  ·simp only [qH] at q;exact .inl q
  exact .inr q
 refine ⟨R,hX,r1,r2,fun id x hx'=>?_,pko p i k j o,ρ,⟨fun b hb=>⟨(W.R b hb).1,?_⟩,fun b L hb=>?_,W.os,W.tape,W.output,W.size,W.keep⟩,⟨fun id z xs bk h1 h2=>?_,fun id z xs bk h1 h2=>?_,fun id c i' k' z bk h1 h2=>?_,fun id kd xs bk h1 h2=>?_⟩,fun t=>?_,fun id kk hk'=>?_,fun id hid=>hpn.1 id hid,by rw [hn];exact hpn.2⟩
 ·rw [hn];rcases hent id x hx' with ⟨rfl,_⟩|⟨_,q,_⟩
  ·exact r3 _ _ hj
  exact r3 _ _ q
 ·have h3:o b=none:=(W.R b hb).2;simp only [pko,h3]
 ·obtain ⟨L',h3⟩:=pko_some hb;exact W.o b L' h3
 ·rcases hent id _ h1 with ⟨_,q⟩|⟨q1,q2,_⟩
  ·cases q
  rcases (H.mix id z xs bk q2 h2).ex0 with h0|⟨b,cur,el,us,cp,p1,p2,p3⟩
  ·exact ⟨.inl h0⟩
  exact .mk' ⟨b,cur,el,us,cp,p1,Q5r p2 q1,p3⟩
 ·rcases hent id _ h1 with ⟨rfl,q⟩|⟨q1,q2,_⟩
  ·simp only [Ent.row.injEq] at q;obtain ⟨rfl,rfl⟩:=q;obtain ⟨e1,bkc,e2,e3⟩:=H.ali id p i k z bk hj h2;obtain ⟨bc,cur,el,v,c1,c2,c3,c4⟩:=e3 1 sz es (by simp only [cont];rw [show st.hp p=some (.row sz es) from hp]) (by rw [show st.hp p=some (.row sz es) from hp];rfl) hi hk;obtain ⟨vp,t1,t2⟩:=H.row p sz es bkc hp e2;generalize hL:([p]:List Nat)=L at t1;cases t1 with
   | nil=>simp at hi
   | @own _ _ _ b cap cur' el' us u1 u2 u3 u4 u5 u6 u7 u8 u9 =>
    subst hL;cases t2;simp only [qA] at c1;subst c1;rw [u2] at c2;simp only [qA,Obj.cells.injEq] at c2;obtain ⟨rfl,_,_⟩:=c2;have hv:us i k=v:=by
     have:=u7 i k hi hk;rw [c3] at this;exact (zE this).symm
    have T:=u9 i k hi hk;rw [hc,hv] at T;refine ⟨v,T.mono [id] fun b' M hb'=>⟨?_,rfl⟩,?_⟩
    ·have:o b'=some (p :: i :: k :: M):=(by simpa using hb');simpa using pko_cell (j:=id) this
    rcases c4 with c4|c4
    ·exact c4
    exact (T.scn_lst c4).elim
  obtain ⟨v,t1,t2⟩:=H.row id z xs bk q2 h2;exact ⟨v,t1.same fun b M hb=>⟨by
   have h3:o b=some (id :: M):=(by simpa using hb);simpa using Q5r h3 q1,rfl⟩,t2⟩
 ·rcases hent id _ h1 with ⟨_,q⟩|⟨_,_,q⟩
  ·cases q
  exact q.elim
 ·rcases hent id _ h1 with ⟨_,q⟩|⟨q1,q2,_⟩
  ·cases q
  exact (H.map id kd xs bk q2 h2).move (fun b hb=>⟨hb,rfl⟩) fun b M p2=>⟨Q5r p2 q1,rfl⟩
 ·cases hl:look t st'.s with
  | none=>simp only [St.get,hl,Option.getD_none];exact .bot
  | some v =>
   simp only [St.get,hl,qB];rcases hs _ (Qe hl) with h|h
   ·simp only at h;rw [← h];exact hx t
   simp only at h;rw [h];exact .bot
 rw [hn];exact hρ id kk hk'
end
section
attribute [local simp] Qd Qt Ql
def pkt (p i k j:Nat) (o:Nat→Option (List Nat)):Nat→Option (List Nat):=fun b=>match o b with
 | some (x :: M)=>if x=p then (match M with
  | []=>some [p]
  | i' :: k' :: M'=>if i'=i∧k'=k then some (j :: M') else none
  | _=>none) else some (x :: M)
 | _=>none
theorem Q5s {p i k j:Nat} {o:Nat→Option (List Nat)} {b x:Nat} {M:List Nat} (h:o b=some (x :: M)) (hx:x ≠ p):pkt p i k j o b=some (x :: M):=by
 simp only [pkt,h,if_neg hx]
theorem pkt_cell {p i k j:Nat} {o:Nat→Option (List Nat)} {b:Nat} {M:List Nat} (h:o b=some (p :: i :: k :: M)):pkt p i k j o b=some (j :: M):=by
 simp [pkt,h]
theorem pkt_root {p i k j:Nat} {o:Nat→Option (List Nat)} {b:Nat} (h:o b=some [p]):pkt p i k j o b=some [p]:=by
 simp [pkt,h]
theorem pkt_some {p i k j:Nat} {o:Nat→Option (List Nat)} {b:Nat} {L:List Nat} (h:pkt p i k j o b=some L):∃ L',o b=some L':=by
 unfold pkt at h;split at h
 ·rename_i hb;exact ⟨_,hb⟩
 cases h
theorem Wk.take {F:Fx} {st st':St} {p j i k sz sz2:Nat} {es es2 es':List (List AV)} (hp:look p st.h=some (.row sz es)) (hj:look j st.h=some (.ali p i k sz2)) (hpj:p ≠ j) (hi:i<es.length) (hk:k<sz) (hc:(es.getD i []).getD k .bot = .lst true sz2 es2)
  (hl:es'.length=es.length) (hz:∀ i,i<es.length→(es'.getD i []).length=sz) (hb:∀ i k,(es'.getD i []).getD k .bot = .bot)
  (hs:∀ q∈st'.s,st.get q.1=q.2∨q.2 = .bot) (hn:st'.n=st.n) (hh:∀ q∈st'.h,q=(j,.row sz2 es2)∨q=(p,.mix sz es')∨(q.1 ≠ p∧look q.1 st.h=some q.2∧(match q.2 with|.ali _ _ _ _=>False|_=>True))):Wk F st st':=by
 intro a w ⟨R,hX,hr⟩;obtain ⟨r1,r2,r3,o,ρ,W,H,hx,hρ,hpn⟩:=hr;have hent:∀ id e,st'.hp id=some e→(id=j∧e = .row sz2 es2)∨(id=p∧e = .mix sz es')∨(id ≠ p∧st.hp id=some e∧(match e with|.ali _ _ _ _=>False|_=>True)):=fun id e h=>by
  rcases hh (id,e) (Qe h) with q|q|q
  ·simp only [qH] at q;exact .inl q
  ·simp only [qH] at q;exact .inr (.inl q)
  exact .inr (.inr q)
 refine ⟨R,hX,r1,r2,fun id x hx'=>?_,pkt p i k j o,ρ,⟨fun b hb=>⟨(W.R b hb).1,?_⟩,fun b L hb=>?_,W.os,W.tape,W.output,W.size,W.keep⟩,⟨fun id z xs bk h1 h2=>?_,fun id z xs bk h1 h2=>?_,fun id c i' k' z bk h1 h2=>?_,fun id kd xs bk h1 h2=>?_⟩,fun t=>?_,fun id kk hk'=>?_,fun id hid=>hpn.1 id hid,by rw [hn];exact hpn.2⟩
 ·rw [hn];rcases hent id x hx' with ⟨rfl,_⟩|⟨rfl,_⟩|⟨_,q,_⟩
  ·exact r3 _ _ hj
  ·exact r3 _ _ hp
  exact r3 _ _ q
 ·have h3:o b=none:=(W.R b hb).2;simp only [pkt,h3]
 ·obtain ⟨L',h3⟩:=pkt_some hb;exact W.o b L' h3
 ·rcases hent id _ h1 with ⟨_,q⟩|⟨rfl,q⟩|⟨q1,q2,_⟩
  ·cases q
  ·simp only [Ent.mix.injEq] at q;obtain ⟨rfl,rfl⟩:=q;obtain ⟨vp,t1,t2⟩:=H.row id z es bk hp h2;generalize hL:([id]:List Nat)=L at t1;cases t1 with
   | nil=>simp at hi
   | @own _ _ _ b cap cur' el' us u1 u2 u3 u4 u5 u6 u7 u8 u9 =>
    subst hL;cases t2;exact .mk' ⟨b,cur',el',us,cap,rfl,pkt_root u1,u2,u3,by omega,u5,fun i hi=>hz i (by omega),fun i k hi hk=>u7 i k (by omega) hk,fun i k hi hk=>u8 i k (by omega) hk,fun i k hi hk=>by rw [hb i k];exact .bot⟩
  rcases (H.mix id z xs bk q2 h2).ex0 with h0|⟨b,cur,el,us,cp,p1,p2,p3⟩
  ·exact ⟨.inl h0⟩
  exact .mk' ⟨b,cur,el,us,cp,p1,Q5s p2 q1,p3⟩
 ·rcases hent id _ h1 with ⟨rfl,q⟩|⟨_,q⟩|⟨q1,q2,_⟩
  ·simp only [Ent.row.injEq] at q;obtain ⟨rfl,rfl⟩:=q;obtain ⟨e1,bkc,e2,e3⟩:=H.ali id p i k z bk hj h2;obtain ⟨bc,cur,el,v,c1,c2,c3,c4⟩:=e3 1 sz es (by simp only [cont];rw [show st.hp p=some (.row sz es) from hp]) (by rw [show st.hp p=some (.row sz es) from hp];rfl) hi hk;obtain ⟨vp,t1,t2⟩:=H.row p sz es bkc hp e2;generalize hL:([p]:List Nat)=L at t1;cases t1 with
   | nil=>simp at hi
   | @own _ _ _ b cap cur' el' us u1 u2 u3 u4 u5 u6 u7 u8 u9 =>
    subst hL;cases t2;simp only [qA] at c1;subst c1;rw [u2] at c2;simp only [qA,Obj.cells.injEq] at c2;obtain ⟨rfl,_,_⟩:=c2;have hv:us i k=v:=by
     have:=u7 i k hi hk;rw [c3] at this;exact (zE this).symm
    have T:=u9 i k hi hk;rw [hc,hv] at T;refine ⟨v,T.mono [id] fun b' M hb'=>⟨?_,rfl⟩,?_⟩
    ·have:o b'=some (p :: i :: k :: M):=(by simpa using hb');simpa using pkt_cell (j:=id) this
    rcases c4 with c4|c4
    ·exact c4
    exact (T.scn_lst c4).elim
  ·cases q
  obtain ⟨v,t1,t2⟩:=H.row id z xs bk q2 h2;exact ⟨v,t1.same fun b M hb=>⟨by
   have h3:o b=some (id :: M):=(by simpa using hb);simpa using Q5s h3 q1,rfl⟩,t2⟩
 ·rcases hent id _ h1 with ⟨_,q⟩|⟨_,q⟩|⟨_,_,q⟩
  ·cases q
  ·cases q
  exact q.elim
 ·rcases hent id _ h1 with ⟨_,q⟩|⟨_,q⟩|⟨q1,q2,_⟩
  ·cases q
  ·cases q
  exact (H.map id kd xs bk q2 h2).move (fun b hb=>⟨hb,rfl⟩) fun b M p2=>⟨Q5s p2 q1,rfl⟩
 ·cases hl:look t st'.s with
  | none=>simp only [St.get,hl,Option.getD_none];exact .bot
  | some v =>
   simp only [St.get,hl,qB];rcases hs _ (Qe hl) with h|h
   ·simp only at h;rw [← h];exact hx t
   simp only at h;rw [h];exact .bot
 rw [hn];exact hρ id kk hk'
end
section
attribute [local simp] Qd Qt Ql
theorem WF.labels {C:Ctx} {w:World} {g:Gh} (W:WF C w g) {o':Nat→Option (List Nat)} {ρ':Nat→Option Bk} (h0:∀ b,g.o b=none→o' b=none) (h1:∀ b L,o' b=some L→∃ L',g.o b=some L'):WF C w ⟨g.R,o',ρ'⟩ :=
 ⟨fun b hb=>⟨(W.R b hb).1,h0 b (W.R b hb).2⟩,fun b L hb=>by obtain ⟨L',h2⟩:=h1 b L hb;exact W.o b L' h2,W.os,W.tape,W.output,W.size,W.keep⟩
def Q3H (es:List (List AV)) (i k:Nat):List (List AV):=es.set i ((es.getD i []).set k .bot)
theorem Q18 (es:List (List AV)) (i k:Nat):(Q3H es i k).length=es.length:=by simp [Q3H]
theorem holed_row (es:List (List AV)) (i k j:Nat):((Q3H es i k).getD j []).length=(es.getD j []).length:=by
 unfold Q3H
 by_cases h:i=j
 ·subst h
  by_cases hi:i<es.length
  ·simp [qG,hi]
  simp [qG,hi]
 simp [qG,h]
theorem Q68 (es:List (List AV)) {i k i' k':Nat} (h:(i',k') ≠ (i,k)):((Q3H es i k).getD i' []).getD k' .bot=(es.getD i' []).getD k' .bot:=by
 unfold Q3H
 by_cases e:i=i'
 ·subst e;have hk:k ≠ k':=fun q=>h (by rw [q])
  by_cases hi:i<es.length
  ·simp [qG,hi,hk]
  simp [qG,hi]
 simp [qG,e]
theorem Q7i (es:List (List AV)) (i k:Nat):((Q3H es i k).getD i []).getD k .bot = .bot:=by
 unfold Q3H
 by_cases hi:i<es.length
 ·by_cases hk:k<(es.getD i []).length
  ·simp only [qG,List.getElem?_eq_getElem hi,qB] at hk;simp [qG,hi,hk]
  simp only [qG,List.getElem?_eq_getElem hi,qB] at hk;simp [qG,hi,hk]
 simp [qG,hi]
def tkl (p i k j:Nat) (o:Nat→Option (List Nat)):Nat→Option (List Nat):=fun b=>match o b with
 | some (x :: i' :: k' :: M)=>if x=p∧i'=i∧k'=k then some (j :: M) else some (x :: i' :: k' :: M)
 | y=>y
theorem Q5K {p i k j:Nat} {o:Nat→Option (List Nat)} {b x:Nat} {M:List Nat} (h:o b=some (x :: M)) (hx:x ≠ p):tkl p i k j o b=some (x :: M):=by
 unfold tkl;rw [h];cases M with
 | nil=>rfl
 | cons y M =>
  cases M with
  | nil=>rfl
  | cons z M=>simp [hx]
theorem tkl_root {p i k j:Nat} {o:Nat→Option (List Nat)} {b:Nat} (h:o b=some [p]):tkl p i k j o b=some [p]:=by simp [tkl,h]
theorem tkl_cell {p i k j:Nat} {o:Nat→Option (List Nat)} {b:Nat} {M:List Nat} (h:o b=some (p :: i :: k :: M)):tkl p i k j o b=some (j :: M):=by simp [tkl,h]
theorem tkl_rest {p i k j i' k':Nat} {o:Nat→Option (List Nat)} {b:Nat} {M:List Nat} (h:o b=some (p :: i' :: k' :: M)) (hne:(i',k') ≠ (i,k)):tkl p i k j o b=some (p :: i' :: k' :: M):=by
 simp only [tkl,h];rw [if_neg]
 rintro ⟨_,rfl,rfl⟩
 exact hne rfl
theorem Q9f {p i k j:Nat} {o:Nat→Option (List Nat)} {b:Nat} (h:o b=none):tkl p i k j o b=none:=by simp [tkl,h]
theorem tkl_some {p i k j:Nat} {o:Nat→Option (List Nat)} {b:Nat} {L:List Nat} (h:tkl p i k j o b=some L):∃ L',o b=some L':=by
 cases hb:o b with
 | none=>rw [Q9f hb] at h;cases h
 | some L'=>exact ⟨L',rfl⟩
def Q1Q (h:HP) (p i k j sz sz2:Nat) (es es2:List (List AV)):HP:=fun c=>if c=p then some (.row sz (Q3H es i k)) else if c=j then some (.row sz2 es2) else h c
theorem Q7g {h:HP} {p i k j sz sz2:Nat} {es es2:List (List AV)} (hp:h p=some (.row sz es)) (hj:h j=some (.ali p i k sz2)) (c:Nat):Qw (Q1Q h p i k j sz sz2 es es2 c)=Qw (h c):=by
 unfold Q1Q;split
 ·rename_i e;subst e;rw [hp];rfl
 split
 ·rename_i e;subst e;rw [hj];rfl
 rfl
theorem cont_take {h:HP} {p i k j sz sz2:Nat} {es es2:List (List AV)} (hp:h p=some (.row sz es)) (hj:h j=some (.ali p i k sz2)) (hpj:p ≠ j) (hc:(es.getD i []).getD k .bot = .lst true sz2 es2) :
  ∀ (d c:Nat) (q:Nat × List (List AV)),cont (Q1Q h p i k j sz sz2 es es2) d c=some q→(c=p∧q=(sz,Q3H es i k))∨∃ d',cont h d' c=some q:=by
 intro d
 induction d with
 | zero=>intro c q hx;simp [cont] at hx
 | succ d ih =>
  intro c q hx
  by_cases hcp:c=p
  ·subst hcp;refine .inl ⟨rfl,?_⟩;simpa [cont,Q1Q,eq_comm] using hx
  by_cases hcj:c=j
  ·subst hcj;have e1:Q1Q h p i k c sz sz2 es es2 c=some (.row sz2 es2):=(by simp [Q1Q,hcp]);unfold cont at hx;rw [e1] at hx;simp only [qA] at hx;subst hx;refine .inr ⟨2,?_⟩;have h1:cont h 1 p=some (sz,es):=(by simp [cont,hp]);have h2:Qw (h p)=false:=(by rw [hp];rfl);rw [cont,hj];simp only [h1,h2,Bool.false_eq_true,if_false,hc,if_true]
  have e1:Q1Q h p i k j sz sz2 es es2 c=h c:=by simp [Q1Q,hcp,hcj]
  unfold cont at hx;rw [e1] at hx;cases he:h c with
  | none=>simp [he] at hx
  | some x =>
   cases x with
   | mix=>exact .inr ⟨1,by simpa [cont,he] using hx⟩
   | row=>exact .inr ⟨1,by simpa [cont,he] using hx⟩
   | mapE=>simp [he] at hx
   | ali c2 i2 k2 s2 =>
    simp only [he] at hx;split at hx
    ·cases hx
    rename_i hm;rw [Q7g hp hj] at hm;cases hcc:cont (Q1Q h p i k j sz sz2 es es2) d c2 with
    | none=>simp [hcc] at hx
    | some q2 =>
     rw [hcc] at hx;rcases ih c2 q2 hcc with ⟨rfl,rfl⟩|⟨d',i1⟩
     ·by_cases hik:(i2,k2)=(i,k)
      ·cases hik;simp only [Q7i] at hx;cases hx
      refine .inr ⟨2,?_⟩;simp only [Q68 es hik] at hx;have h1:cont h 1 c2=some (sz,es):=(by simp [cont,hp]);rw [cont,he];simp only [h1,if_neg hm];exact hx
     refine .inr ⟨d' + 1,?_⟩;unfold cont;rw [he];simp only;rw [if_neg hm,i1];exact hx
theorem HRel.takeA {C:Ctx} {w:World} {g:Gh} {h:HP} (W:WF C w g) (H:HRel w g h) {p i k j sz sz2:Nat} {es es2:List (List AV)} (hp:h p=some (.row sz es)) (hj:h j=some (.ali p i k sz2)) (hpj:p ≠ j) (hi:i<es.length) (hk:k<sz)
  (hc:(es.getD i []).getD k .bot = .lst true sz2 es2):WF C w ⟨g.R,tkl p i k j g.o,g.ρ⟩∧HRel w ⟨g.R,tkl p i k j g.o,g.ρ⟩ (Q1Q h p i k j sz sz2 es es2):=by
 refine ⟨W.labels (fun b hb=>Q9f hb) fun b L hb=>tkl_some hb,⟨fun id z xs bk he hb=>?_,fun id z xs bk he hb=>?_,fun id c i' k' z bk he hb=>?_,fun id kd xs bk he hb=>?_⟩⟩
 ·have hidp:id ≠ p:=by rintro rfl;simp [Q1Q] at he
  have hidj:id ≠ j:=by rintro rfl;simp [Q1Q,hidp] at he
  have he':h id=some (.mix z xs):=by simpa [Q1Q,hidp,hidj] using he
  exact (H.mix id z xs bk he' hb).mono (fun _ _=>rfl) (fun _ _ h=>h) fun b hb=>⟨Q5K hb hidp,rfl⟩
 ·by_cases hidp:id=p
  ·subst hidp;have:z=sz∧xs=Q3H es i k:=(by simpa [Q1Q,eq_comm] using he);obtain ⟨rfl,rfl⟩:=this;obtain ⟨vp,t1,t2⟩:=H.row id z es bk hp hb;refine ⟨vp,?_,t2⟩;generalize hL:([id]:List Nat)=L at t1;cases t1 with
   | nil=>simp at hi
   | @own _ _ _ b cap cur' el' us u1 u2 u3 u4 u5 u6 u7 u8 u9 =>
    subst hL;have:=TRel.own (w:=w) (R:=g.R) (o:=tkl id i k j g.o) (L:=[id]) (sz:=z) (es:=Q3H es i k) (b:=b) (cap:=cap) (cur:=cur') (e:=el') us (tkl_root u1) u2 u3 (by rw [Q18];exact u4) u5
     (fun i' hi'=>by rw [Q18] at hi';rw [holed_row];exact u6 i' hi') (fun i' k' hi' hk'=>by rw [Q18] at hi';exact u7 i' k' hi' hk') (fun i' k' hi' hk'=>by rw [Q18] at hi';exact u8 i' k' hi' hk')
     (fun i' k' hi' hk'=>by
      rw [Q18] at hi'
      by_cases hik:(i',k')=(i,k)
      ·cases hik;rw [Q7i];exact .bot (u8 _ _ hi' hk')
      rw [Q68 es hik];refine (u9 i' k' hi' hk').mono [id,i',k'] fun b' M hb'=>⟨?_,rfl⟩;have:g.o b'=some (id :: i' :: k' :: M):=(by simpa using hb');simpa using tkl_rest (j:=j) this hik)
    rw [Q18] at this;exact this
  by_cases hidj:id=j
  ·subst hidj;have:z=sz2∧xs=es2:=(by simpa [Q1Q,hidp,eq_comm] using he);obtain ⟨rfl,rfl⟩:=this;obtain ⟨e1,bkc,e2,e3⟩:=H.ali id p i k z bk hj hb;obtain ⟨bc,cur,el,v,c1,c2,c3,c4⟩:=e3 1 sz es (by simp [cont,hp]) (by rw [hp];rfl) hi hk;obtain ⟨vp,t1,t2⟩:=H.row p sz es bkc hp e2;generalize hL:([p]:List Nat)=L at t1;cases t1 with
   | nil=>simp at hi
   | @own _ _ _ b cap cur' el' us u1 u2 u3 u4 u5 u6 u7 u8 u9 =>
    subst hL;cases t2;simp only [qA] at c1;subst c1;rw [u2] at c2;simp only [qA,Obj.cells.injEq] at c2;obtain ⟨rfl,_,_⟩:=c2;have hv:us i k=v:=by
     have:=u7 i k hi hk;rw [c3] at this;exact (zE this).symm
    have T:=u9 i k hi hk;rw [hc,hv] at T;refine ⟨v,T.mono [id] fun b' M hb'=>⟨?_,rfl⟩,?_⟩
    ·have:g.o b'=some (p :: i :: k :: M):=(by simpa using hb');simpa using tkl_cell (j:=id) this
    rcases c4 with c4|c4
    ·exact c4
    exact (T.scn_lst c4).elim
  have he':h id=some (.row z xs):=by simpa [Q1Q,hidp,hidj] using he
  obtain ⟨v,t1,t2⟩:=H.row id z xs bk he' hb;exact ⟨v,t1.same fun b M hb=>⟨by
   have h3:g.o b=some (id :: M):=(by simpa using hb);simpa using Q5K h3 hidp,rfl⟩,t2⟩
 ·have hidp:id ≠ p:=by rintro rfl;simp [Q1Q] at he
  have hidj:id ≠ j:=by rintro rfl;simp [Q1Q,hidp] at he
  have he':h id=some (.ali c i' k' z):=by simpa [Q1Q,hidp,hidj] using he
  obtain ⟨e1,bkc,e2,e3⟩:=H.ali id c i' k' z bk he' hb;refine ⟨e1,bkc,e2,fun d szc esc hcc hm hi' hk'=>?_⟩;rw [Q7g hp hj] at hm;rcases cont_take hp hj hpj hc d c _ hcc with ⟨rfl,q⟩|⟨d',q1⟩
  ·cases q;rw [Q18] at hi';exact e3 1 _ es (by simp [cont,hp]) hm hi' hk'
  exact e3 d' szc esc q1 hm hi' hk'
 have hidp:id ≠ p:=by rintro rfl;simp [Q1Q] at he
 have hidj:id ≠ j:=by rintro rfl;simp [Q1Q,hidp] at he
 have he':h id=some (.mapE kd xs):=by simpa [Q1Q,hidp,hidj] using he
 exact (H.map id kd xs bk he' hb).move (fun b hb=>⟨hb,rfl⟩) fun b M hb=>⟨Q5K hb hidp,rfl⟩
end
section
attribute [local simp] Qd Qt Ql
attribute [simp] Q18
theorem HRel.sub {w:World} {g:Gh} {h h2:HP} (H:HRel w g h) (hs:∀ id x,h2 id=some x→h id=some x):HRel w g h2:=by
 refine ⟨fun id sz es bk he hb=>H.mix id sz es bk (hs _ _ he) hb,fun id sz es bk he hb=>H.row id sz es bk (hs _ _ he) hb,fun id c i k sz bk he hb=>?_,fun id kd es bk he hb=>H.map id kd es bk (hs _ _ he) hb⟩;obtain ⟨e1,bkc,e2,e3⟩:=H.ali id c i k sz bk (hs _ _ he) hb;refine ⟨e1,bkc,e2,fun d szc esc hcc hm hi hk=>e3 d szc esc (Q1q hs hcc) ?_ hi hk⟩;cases hc:h2 c with
 | none =>
  cases d with
  | zero=>simp [cont] at hcc
  | succ d=>simp [cont,hc] at hcc
 | some x=>rw [hs _ _ hc,← hc];exact hm
theorem Wk.takeA {F:Fx} {st st':St} {p j i k sz sz2:Nat} {es es2:List (List AV)} (hp:look p st.h=some (.row sz es)) (hj:look j st.h=some (.ali p i k sz2)) (hpj:p ≠ j) (hi:i<es.length) (hk:k<sz) (hc:(es.getD i []).getD k .bot = .lst true sz2 es2)
  (hs:∀ q∈st'.s,st.get q.1=q.2∨q.2 = .bot) (hn:st'.n=st.n) (hh:∀ q∈st'.h,q=(p,.row sz (Q3H es i k))∨q=(j,.row sz2 es2)∨(q.1 ≠ p∧q.1 ≠ j∧look q.1 st.h=some q.2)):Wk F st st':=by
 intro a w ⟨R,hX,hr⟩;obtain ⟨r1,r2,r3,o,ρ,W,H,hx,hρ,hpn⟩:=hr;obtain ⟨W1,H1⟩:=HRel.takeA W H (show st.hp p=_ from hp) (show st.hp j=_ from hj) hpj hi hk hc;have hsub:∀ id x,st'.hp id=some x→Q1Q st.hp p i k j sz sz2 es es2 id=some x:=fun id x h=>by
  rcases hh (id,x) (Qe h) with q|q|⟨q1,q2,q3⟩
  ·simp only [qH] at q;obtain ⟨rfl,rfl⟩:=q;simp [Q1Q]
  ·simp only [qH] at q;obtain ⟨rfl,rfl⟩:=q;simp [Q1Q,Ne.symm hpj]
  simp only at q1 q2 q3;simp only [Q1Q,if_neg q1,if_neg q2];exact q3
 refine ⟨R,hX,r1,r2,fun id x hx'=>?_,tkl p i k j o,ρ,W1,H1.sub hsub,fun t=>?_,fun id kk hk'=>?_,fun id hid=>hpn.1 id hid,by rw [hn];exact hpn.2⟩
 ·rw [hn];have h1:=hsub id x hx';unfold Q1Q at h1;split at h1
  ·rename_i e;rw [e];exact r3 _ _ hp
  split at h1
  ·rename_i e;rw [e];exact r3 _ _ hj
  exact r3 _ _ h1
 ·cases hl:look t st'.s with
  | none=>simp only [St.get,hl,Option.getD_none];exact .bot
  | some v =>
   simp only [St.get,hl,qB];rcases hs _ (Qe hl) with h|h
   ·simp only at h;rw [← h];exact hx t
   simp only at h;rw [h];exact .bot
 rw [hn];exact hρ id kk hk'
end
end Go.Vc
