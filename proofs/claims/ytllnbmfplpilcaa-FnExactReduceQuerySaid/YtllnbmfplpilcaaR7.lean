/- A part of the proof. -/
import Derived.Test.YtllnbmfplpilcaaR6
set_option maxRecDepth 100000
set_option maxHeartbeats 4000000
set_option linter.unusedSimpArgs false
set_option linter.unusedVariables false
set_option linter.unusedSectionVars false
set_option linter.unnecessarySimpa false

open List renaming getD_eq_getElem?_getD→qB
open Option.some renaming injEq→qA
open Prod.mk renaming injEq→qC
open Option.some renaming inj→zF
open Nat renaming le_refl→qE
open List renaming getElem?_eq_getElem→qF
open List renaming range→zD
open Option renaming getD_some→qZ
namespace Go.Vc
open Go
section
attribute [local simp] Qd QD Qq
def mxt (m:List (Nat × Nat)) (n0 n cnt:Nat):List (Nat × Nat):=m++(zD cnt).map fun i=>(n0+i,n+i)
theorem ICon.frame {P:Program} {f:Nat} {as0 az:List AV} {H0:List (Nat × Ent)} {n0:Nat} {e0 e:Eff} {h:HP} {n:Nat} (hc:ICon P f as0 (fun id=>look id H0) n0 e0) (m:List (Nat × Nat))
  (hm1:m.map Prod.fst=zD n0) (hm2:(m.map Prod.snd).Nodup) (hm3:∀ p∈m,p.2<n) (hH0:∀ p∈H0,p.1<n0)
  (hpre:∀ p∈m,∃ x y,look p.1 H0=some x∧h p.2=some y∧rlE (back m) y=some x∧rlE (mxt m n0 n e0.cnt) x=some y) (has:as0=rlL (back m) az) (hali:∀ id,id<n→∀ c i k sz,h id ≠ some (.ali c i k sz))
  (hcnt:e.cnt=e0.cnt) (hv:e.v=rl (mxt m n0 n e0.cnt) e0.v) (hset:∀ i j,look i m=some j→look j e.set=(look i e0.set).map (rlE' (mxt m n0 n e0.cnt))) (hset2:∀ j,(∀ i,look i m ≠ some j)→look j e.set=none)
  (hdel:∀ i j,look i m=some j→(j∈e.del↔i∈e0.del)) (hdel2:∀ j,(∀ i,look i m ≠ some j)→¬ j∈e.del) (hna:(∀ p∈e0.set,Q5J p.2=true)∧∀ p∈e0.new,Q5J p.2=true)
  (hcomp:∀ i,i<e0.cnt→∃ x,look (n0+i) e0.new=some x∧(n+i,rlE' (mxt m n0 n e0.cnt) x)∈e.new) (hfine:e.fine n):ICon P f az h n e:=by
 refine ⟨hc.enters,fun _=>hfine,fun C w g h' vals hag hnw hlim W H hsz hargs=>?_⟩;have hf0:=hc.fine (fun id x hx=>hH0 _ (Qg hx));generalize hmx:mxt m n0 n e0.cnt=mx at *;have hm1n:(m.map Prod.fst).Nodup:=by rw [hm1];exact List.nodup_range
 have hb2:((back m).map Prod.snd).Nodup:=by
  have:(back m).map Prod.snd=m.map Prod.fst:=by simp [back,Function.comp_def]
  rw [this];exact hm1n
 have hb1:((back m).map Prod.fst).Nodup:=by
  have:(back m).map Prod.fst=m.map Prod.snd:=by simp [back,Function.comp_def]
  rw [this];exact hm2
 have hml:∀ i,i<n0→∃ j,look i m=some j:=by
  intro i hi;have:i∈m.map Prod.fst:=by rw [hm1];simpa using hi
  obtain ⟨p,hp,rfl⟩:=List.mem_map.1 this;exact ⟨p.2,QO hm1n hp⟩
 have hmlt:∀ i j,look i m=some j→i<n0∧j<n:=by
  intro i j hij;have hp:=Qg hij;refine ⟨?_,hm3 _ hp⟩;have:i∈m.map Prod.fst:=List.mem_map.2 ⟨_,hp,rfl⟩;rw [hm1] at this;simpa using this
 have hxl:∀ i,look i mx=match look i m with|some j=>some j|none=>if n0≤i∧i<n0+e0.cnt then some (n+(i - n0)) else none:=by
  intro i;rw [← hmx];unfold mxt;have hr:∀ (k s:Nat),look i ((List.range' s k).map fun q=>(n0+q,n+q))=if n0+s≤i∧i<n0+(s+k) then some (n+(i - n0)) else none:=by
   intro k
   induction k with
   | zero=>intro s;simp [look]
   | succ k ih =>
    intro s;rw [List.range'_succ];simp only [List.map_cons,look]
    by_cases hq:n0+s=i
    ·subst hq;simp
    rw [if_neg (by simpa using hq),ih (s+1)]
    by_cases hz:n0+(s+1)≤i∧i<n0+(s+1+k)
    ·rw [if_pos hz,if_pos (by omega)]
    rw [if_neg hz,if_neg (by omega)]
  have happd:∀ (a b:List (Nat × Nat)),look i (a++b)=match look i a with|some j=>some j|none=>look i b:=by
   intro a b
   induction a with
   | nil=>simp [look]
   | cons p r ih =>
    simp only [List.cons_append,look]
    by_cases hq:p.1=i
    ·simp [hq]
    simp only [hq,if_false,ih]
  rw [happd,List.range_eq_range',hr];simp
 have hx1:∀ i id,look i mx=some id→(look i m=some id∧i<n0∧id<n)∨(n0≤i∧i<n0+e0.cnt∧id=n+(i - n0)):=by
  intro i id hi;rw [hxl] at hi;cases hl:look i m with
  | some j =>
   rw [hl] at hi;simp only [qA] at hi;subst hi;exact .inl ⟨rfl,(hmlt i j hl).1,(hmlt i j hl).2⟩
  | none =>
   rw [hl] at hi;simp only at hi;split at hi
   ·rename_i hq;simp only [qA] at hi;exact .inr ⟨hq.1,hq.2,hi.symm⟩
   cases hi
 have hxm:∀ i j,look i m=some j→look i mx=some j:=by intro i j hij;rw [hxl,hij]
 have hx1n:(mx.map Prod.fst).Nodup:=by
  have:mx.map Prod.fst=zD (n0+e0.cnt):=by rw [← hmx];simp [mxt,hm1,Function.comp_def,List.range_add]
  rw [this];exact List.nodup_range
 have hx2n:(mx.map Prod.snd).Nodup:=by
  have:mx.map Prod.snd=m.map Prod.snd++(zD e0.cnt).map (n + ·):=by rw [← hmx];simp [mxt,Function.comp_def]
  rw [this,List.nodup_append];refine ⟨hm2,List.Pairwise.map (R:=fun a b=>a ≠ b) _ (fun a b h e=>h (by omega)) List.nodup_range,?_⟩;intro a ha b hb e;obtain ⟨p,hp,rfl⟩:=List.mem_map.1 ha;obtain ⟨q,_,rfl⟩:=List.mem_map.1 hb;have:=hm3 p hp;omega
 have ho0:∀ b L,rlo (back m) g.o b=some L→∃ M,g.o b=some M:=by
  intro b L hb;simp only [rlo] at hb;split at hb
  ·rename_i hq;exact ⟨_,hq⟩
  cases hb
 let C0:Ctx:=⟨w,fun b=>∃ L,rlo (back m) g.o b=some L,fun _=>none,0⟩
 let g0:Gh:=⟨g.R,rlo (back m) g.o,rlρ (back m) g.ρ⟩
 let h0':HP:=fun id=>if id<n0 then look id H0 else look id e0.new
 have W0:WF C0 w g0:=by
  refine ⟨fun b hb=>⟨(W.R b hb).1,?_⟩,fun b L hb=>?_,rfl,⟨rfl,qE _⟩,rfl,qE _,fun b _ _=>rfl⟩
  ·show rlo (back m) g.o b=none;simp only [rlo,(W.R b hb).2]
  obtain ⟨M,hM⟩:=ho0 b L hb;exact ⟨(W.o b M hM).1,.inr ⟨L,hb⟩⟩
 have hρb:∀ i k,rlρ (back m) g.ρ i=some k→∃ j,look i m=some j∧g.ρ j=some k:=by
  intro i k hk;simp only [rlρ] at hk;split at hk
  ·rename_i j hj;exact ⟨j,Q2x hm1n (Q2x hb1 hj),hk⟩
  cases hk
 have hρb2:∀ i j,look i m=some j→rlρ (back m) g.ρ i=g.ρ j:=by
  intro i j hij;have:=Q1E hb2 (Q1E hm2 hij);simp only [rlρ,this]
 have H00:HRel w g0 h0':=by
  have q:HRel w g0 (fun id=>look id H0):=by
   refine HRel.relabel (w:=w) (R:=g.R) (o:=g.o) (ρ:=g.ρ) H (back m) hb2 fun i x hx=>?_;obtain ⟨j,hij⟩:=hml i (hH0 _ (Qg hx));obtain ⟨x',y,z1,z2,z3,_⟩:=hpre _ (Qg hij);simp only at z1 z2;rw [hx] at z1;cases z1;exact ⟨j,y,Q1E hm2 hij,by rw [hag j (hmlt i j hij).2];exact z2,z3⟩
  refine q.grow fun i k hk=>?_;obtain ⟨j,hij,_⟩:=hρb i k hk;exact if_pos (hmlt i j hij).1
 have hsz0:vals.size=as0.length:=by rw [has,QE];exact hsz
 have hargs0:∀ k,k<as0.length→XRel w g0.R g0.ρ (vals.getD k undef) (as0.getD k .bot):=fun k hk=>by
  rw [has,QE] at hk;rw [has,Q27];exact Q9J hb2 (hargs k hk)
 refine (hc.calls C0 w g0 h0' vals (fun i hi=>if_pos hi) (fun p hp=>?_) (fun i k hk=>?_) W0 H00 hsz0 hargs0).mono fun ex w' ⟨v,R',o1,ρ1,q0,q1,q2,q3,q4,q5,q6,q7⟩=>?_
 ·have:=(hf0.new p hp).1;show (if p.1<n0 then look p.1 H0 else look p.1 e0.new)=some p.2;rw [if_neg (by omega)];exact QO hf0.nodup hp
 ·obtain ⟨j,hij,_⟩:=hρb i k hk;exact (hmlt i j hij).1
 have q1':RX g.R R' w.heap.size:=q1;have hwR:∀ b L,g.o b=some L→b<w.heap.size:=fun b L hb=>(W.o b L hb).1;have hRo:∀ b L,g.o b=some L→¬ R' b:=by
  intro b L hb hR;rcases q1'.2 b hR with h1|h1
  ·have:=(W.R b h1).2;rw [hb] at this;cases this
  have:=hwR b L hb;omega
 have hkeep:∀ b,b<w.heap.size→rlo (back m) g.o b=none→w'.heap[b]? = w.heap[b]?∧o1 b=none:=by
  intro b hb ho;have hn:¬ C0.wrb b:=by rintro ⟨L,hL⟩;rw [ho] at hL;cases hL
  refine ⟨q2.keep b hb hn,?_⟩;cases hq:o1 b with
  | none=>rfl
  | some L =>
   rcases (q2.o b L hq).2 with h1|h1
   ·have:w.heap.size≤b:=h1;omega
   exact absurd h1 hn
 haveI:∀ b,Decidable ((∃ L,rlo (back m) g.o b=some L)∨R' b):=fun b=>Classical.propDecidable _
 let o2:Nat→Option (List Nat):=fun b=>match rlo mx o1 b with
  | some L=>some L
  | none=>if (∃ L,rlo (back m) g.o b=some L)∨R' b then none else g.o b
 let ρ2:Nat→Option Bk:=fun id=>match g.ρ id with|some k=>some k|none=>rlρ mx ρ1 id
 have hρ2:∀ id k,g.ρ id=some k→ρ2 id=some k:=fun id k hk=>by simp only [ρ2,hk]
 have ho2:∀ b L,rlo mx o1 b=some L→o2 b=some L:=fun b L hb=>by simp only [o2,hb]
 have hρx:∀ i id,look i mx=some id→rlρ mx ρ1 id=ρ1 i:=fun i id hi=>by simp only [rlρ,Q1E hx2n hi]
 have hρx2:∀ id k,rlρ mx ρ1 id=some k→∃ i,look i mx=some id∧ρ1 i=some k:=by
  intro id k hk;simp only [rlρ] at hk;split at hk
  ·rename_i i hi;exact ⟨i,Q2x hx1n hi,hk⟩
  cases hk
 have hgx:∀ i id k,look i mx=some id→g.ρ id=some k→ρ1 i=some k:=by
  intro i id k hi hk;rcases hx1 i id hi with ⟨h1,_,_⟩|⟨h1,_,h3⟩
  ·exact q4 i k (by show rlρ (back m) g.ρ i=some k;rw [hρb2 i id h1];exact hk)
  have:=hlim id k hk;omega
 have hρ3:∀ id k,rlρ mx ρ1 id=some k→ρ2 id=some k:=by
  intro id k hk;cases hg:g.ρ id with
  | none=>simp only [ρ2,hg];exact hk
  | some k2 =>
   obtain ⟨i,hi,h1⟩:=hρx2 id k hk;have:=hgx i id k2 hi hg;rw [h1] at this;cases this;exact hρ2 id _ hg
 have hρ4:∀ i id k,look i mx=some id→ρ2 id=some k→rlρ mx ρ1 id=some k:=by
  intro i id k hi hk;cases hg:g.ρ id with
  | none=>simpa only [ρ2,hg] using hk
  | some k2 =>
   have e1:ρ2 id=some k2:=hρ2 id _ hg;rw [hk] at e1;cases e1;rw [hρx i id hi];exact hgx i id _ hi hg
 have hX:∀ v a,XRel w' R' ρ1 v a→XRel w' R' ρ2 v (rl mx a):=fun v a hx=>(Q9J hx2n hx).mono (fun b hb=>⟨hb,rfl⟩) hρ3
 let hF:HP:=fun id=>match look id (back mx) with|some i=>(happ e0 h0' i).bind (rlE mx)|none=>none
 have HF:HRel w' ⟨R',rlo mx o1,rlρ mx ρ1⟩ hF:=by
  refine HRel.relabel (w:=w') (R:=R') (o:=o1) (ρ:=ρ1) q3 mx hx2n fun id x hx=>?_;simp only [hF] at hx;split at hx
  ·rename_i i hi;obtain ⟨y,h1,h2⟩:=Option.bind_eq_some_iff.1 hx;exact ⟨i,y,Q2x hx1n hi,h1,h2⟩
  cases hx
 have hno:∀ id x k,hF id=some x→rlρ mx ρ1 id=none→ρ2 id=some k→False:=by
  intro id x k hx h1 h2;simp only [hF] at hx;split at hx
  ·rename_i i hi;rw [hρ4 i id k (Q2x hx1n hi) h2] at h1;cases h1
  cases hx
 have HF2:HRel w' ⟨R',o2,ρ2⟩ hF:=HF.mono (fun _ _=>rfl) (fun b L hb=>⟨ho2 b L hb,rfl⟩) hρ3 (fun id sz es bk h1 h2 h3=>(hno id _ bk h1 h2 h3).elim) (fun id sz es bk h1 h2 h3=>(hno id _ bk h1 h2 h3).elim)
  (fun id c i k sz bk h1 h2 h3=>(hno id _ bk h1 h2 h3).elim) (fun id kd es bk h1 h2 h3=>(hno id _ bk h1 h2 h3).elim)
 have hE:∀ x,Q5J x=true→rlE mx x=some (rlE' mx x):=by
  intro x hx;cases x with
  | ali=>cases hx
  | _=>rfl
 have hT:∀ i id,look i mx=some id→happ e h' id=(happ e0 h0' i).bind (rlE mx):=by
  intro i id hi;rcases hx1 i id hi with ⟨h1,h2,h3⟩|⟨h1,h2,h3⟩
  ·simp only [happ,hset i id h1];cases hs:look i e0.set with
   | some x=>simp only [Option.map_some,Option.bind_some];exact (hE x (hna.1 _ (Qg hs))).symm
   | none =>
    simp only [Option.map_none]
    by_cases hd:i∈e0.del
    ·rw [if_pos ((hdel i id h1).2 hd),if_pos hd];rfl
    rw [if_neg (fun q=>hd ((hdel i id h1).1 q)),if_neg hd];obtain ⟨x,y,z1,z2,_,z4⟩:=hpre _ (Qg h1);simp only at z1 z2;have:h0' i=some x:=(by show (if i<n0 then look i H0 else look i e0.new)=some x;rw [if_pos h2];exact z1);rw [hag id h3,z2,this];exact z4.symm
  have hs:look id e.set=none:=hset2 id fun i' hi'=>by have:=(hmlt i' id hi').2;omega
  have hd:¬ id∈e.del:=hdel2 id fun i' hi'=>by have:=(hmlt i' id hi').2;omega
  have hs0:look i e0.set=none:=by
   cases hq:look i e0.set with
   | none=>rfl
   | some x=>have:=hf0.sets.2 _ (Qg hq);simp only at this;omega
  have hd0:¬ i∈e0.del:=fun q=>by have:=hf0.del i q;omega
  simp only [happ,hs,hs0];rw [if_neg hd,if_neg hd0];obtain ⟨x,z1,z2⟩:=hcomp (i - n0) (by omega);rw [show n0+(i - n0)=i by omega] at z1;have e1:h0' i=some x:=by show (if i<n0 then look i H0 else look i e0.new)=some x;rw [if_neg (by omega)];exact z1
  rw [← h3] at z2;rw [hnw _ z2,e1];exact (hE x (hna.2 _ (Qg z1))).symm
 have hI:∀ id,look id (back mx)=none→(look id (back m)=none)∧(id<n→happ e h' id=h' id)∧rlρ mx ρ1 id=none:=by
  intro id hid;have h1:∀ i,look i m ≠ some id:=fun i hi=>by
   have:=Q1E hx2n (hxm i id hi);rw [hid] at this;cases this
  refine ⟨?_,fun _=>?_,by simp only [rlρ,hid]⟩
  ·cases hq:look id (back m) with
   | none=>rfl
   | some i=>exact absurd (Q2x hm1n hq) (h1 i)
  simp only [happ,hset2 id h1];rw [if_neg (hdel2 id h1)]
 have hirr:∀ id b M,look id (back m)=none→g.o b=some (id :: M)→o2 b=some (id :: M)∧w'.heap[b]? = w.heap[b]?:=by
  intro id b M hid hb;have h0:rlo (back m) g.o b=none:=by simp only [rlo,hb,hid]
  obtain ⟨k1,k2⟩:=hkeep b (hwR b _ hb) h0;refine ⟨?_,k1⟩;have h1:rlo mx o1 b=none:=by simp only [rlo,k2]
  simp only [o2,h1];rw [if_neg]
  ·exact hb
  rintro (⟨L,hL⟩|hR)
  ·rw [h0] at hL;cases hL
  exact hRo b _ hb hR
 have hXi:∀ v a,XRel w g.R g.ρ v a→XRel w' R' ρ2 v a:=fun v a hx=>hx.mono (fun b hb=>⟨q1'.1 b hb,q7 b hb⟩) hρ2;have hsplit:∀ id x k,happ e h' id=some x→ρ2 id=some k→hF id=some x∨(look id (back m)=none∧id<n∧h' id=some x∧g.ρ id=some k):=by
  intro id x k hx hk;cases hl:look id (back mx) with
  | some i =>
   left;simp only [hF,hl];rw [← hT i id (Q2x hx1n hl)];exact hx
  | none =>
   right;obtain ⟨i1,i2,i3⟩:=hI id hl;have hg:g.ρ id=some k:=by
    cases hg:g.ρ id with
    | none=>simp only [ρ2,hg,i3] at hk;cases hk
    | some k2=>have:=hρ2 id _ hg;rw [hk] at this;exact this.symm
   have hlt:=hlim id k hg;exact ⟨i1,hlt,by rw [← i2 hlt];exact hx,hg⟩
 refine ⟨v,R',o2,ρ2,q0,⟨q1'.1,fun b hb=>(q1'.2 b hb).imp id (Nat.le_trans W.size)⟩,⟨fun b hb=>⟨(q2.R b hb).1,?_⟩,fun b L hb=>?_,q2.os.trans W.os,tpt q2.tape W.tape,q2.output.trans W.output,Nat.le_trans W.size q2.size,fun b hb hw=>?_⟩,
  ⟨fun id sz es bk he hb=>?_,fun id sz es bk he hb=>?_,fun id c i k sz bk he hb=>?_,fun id kd es bk he hb=>?_⟩,hρ2,fun id k hk=>?_,by rw [hv];exact hX _ _ q6,q7⟩
 ·have h1:o1 b=none:=(q2.R b hb).2;show o2 b=none;have h2:rlo mx o1 b=none:=by simp only [rlo,h1]
  simp only [o2,h2];rw [if_pos (.inr hb)]
 ·have hb':o2 b=some L:=hb;cases hq:rlo mx o1 b with
  | some M =>
   have:∃ L1,o1 b=some L1:=by
    simp only [rlo] at hq;split at hq
    ·rename_i h3;exact ⟨_,h3⟩
    cases hq
   obtain ⟨L1,h1⟩:=this;obtain ⟨k1,k2⟩:=q2.o b L1 h1;refine ⟨k1,?_⟩;rcases k2 with k2|⟨L2,k2⟩
   ·exact .inl (Nat.le_trans W.size k2)
   obtain ⟨M2,h3⟩:=ho0 b L2 k2;exact (W.o b M2 h3).2
  | none =>
   simp only [o2,hq] at hb';split at hb'
   ·cases hb'
   exact ⟨Nat.lt_of_lt_of_le (hwR b L hb') q2.size,(W.o b L hb').2⟩
 ·have h1:b<w.heap.size:=Nat.lt_of_lt_of_le hb W.size;have h2:rlo (back m) g.o b=none:=by
   cases hq:rlo (back m) g.o b with
   | none=>rfl
   | some L =>
    obtain ⟨M,hM⟩:=ho0 b L hq;rcases (W.o b M hM).2 with h3|h3
    ·omega
    exact absurd h3 hw
  exact (hkeep b h1 h2).1.trans (W.keep b hb hw)
 ·rcases hsplit id _ bk he hb with h1|⟨h1,_,h3,h4⟩
  ·exact HF2.mix id sz es bk h1 hb
  rcases (H.mix id sz es bk h3 h4).ex0 with h0|⟨b,cur,el,us,cpm,p1,p2,p3,p4,p5,p5',p6,p7,p8,p9⟩
  ·exact ⟨.inl h0⟩
  obtain ⟨k1,k2⟩:=hirr id b [] h1 p2;exact .mk' ⟨b,cur,el,us,cpm,p1,k1,k2.trans p3,p4,p5,p5',p6,p7,p8,fun j l hj hl=>hXi _ _ (p9 j l hj hl)⟩
 ·rcases hsplit id _ bk he hb with h1|⟨h1,_,h3,h4⟩
  ·exact HF2.row id sz es bk h1 hb
  obtain ⟨v,hv,hh⟩:=H.row id sz es bk h3 h4;exact ⟨v,hv.mono (R':=R') [id] fun b M hbo=>hirr id b M h1 hbo,hh⟩
 ·rcases hsplit id _ bk he hb with h1|⟨h1,h2,h3,h4⟩
  ·exfalso;simp only [hF] at h1;split at h1
   ·rename_i i0 hi0;obtain ⟨y,h5,h6⟩:=Option.bind_eq_some_iff.1 h1;have hy:Q5J y=true:=by
     have hi:=Q2x hx1n hi0;simp only [happ] at h5;split at h5
     ·rename_i z hz;simp only [qA] at h5;subst h5;exact hna.1 _ (Qg hz)
     split at h5
     ·cases h5
     have h5':(if i0<n0 then look i0 H0 else look i0 e0.new)=some y:=h5;split at h5'
     ·rename_i hlt;obtain ⟨j,hij⟩:=hml i0 hlt;obtain ⟨x,y',z1,z2,z3,z4⟩:=hpre _ (Qg hij);simp only at z1 z2;rw [h5'] at z1;cases z1;cases y with
      | ali c2 i2 k2 s2 =>
       exfalso;cases y' with
       | ali c3 i3 k3 s3=>exact hali j (hmlt i0 j hij).2 _ _ _ _ z2
       | mix=>simp [rlE] at z3
       | row=>simp [rlE] at z3
       | mapE=>simp [rlE] at z3
      | _=>rfl
     exact hna.2 _ (Qg h5')
    rw [hE y hy] at h6;cases y with
    | ali=>cases hy
    | mix=>simp [rlE',rlE] at h6
    | row=>simp [rlE',rlE] at h6
    | mapE=>simp [rlE',rlE] at h6
   cases h1
  rw [hag id h2] at h3;exact absurd h3 (hali id h2 _ _ _ _)
 ·rcases hsplit id _ bk he hb with h1|⟨h1,_,h3,h4⟩
  ·exact HF2.map id kd es bk h1 hb
  exact (H.map id kd es bk h3 h4).move (fun b hb=>⟨q1'.1 b hb,q7 b hb⟩) fun b M p2=>hirr id b M h1 p2
 cases hg:g.ρ id with
 | some k2=>have:=hρ2 id _ hg;rw [hk] at this;exact .inl this.symm
 | none =>
  right;simp only [ρ2,hg] at hk;obtain ⟨i,hi,h1⟩:=hρx2 id k hk;rcases q5 i k h1 with h2|h2
  ·obtain ⟨j,hij,h3⟩:=hρb i k h2;have:=hxm i j hij;rw [hi] at this;cases this;rw [hg] at h3;cases h3
  rcases hx1 i id hi with ⟨_,h4,_⟩|⟨_,h4,h5⟩
  ·omega
  rw [hcnt];omega
def trm (m:List (Nat × Nat)) (i:Nat):Nat:=(look i m).getD 0
theorem ICon.frameL {P:Program} {f:Nat} {as0 az:List AV} {H0 H:List (Nat × Ent)} {n0:Nat} {e0 e:Eff} {n:Nat} (hc:ICon P f as0 (fun id=>look id H0) n0 e0) (m:List (Nat × Nat)) (hm1:m.map Prod.fst=zD n0) (hm2:(m.map Prod.snd).Nodup∧(∀ p∈m,p.2<n)∧(∀ p∈H0,p.1<n0))
  (hpre:∀ p∈m,(look p.1 H0).isSome=true∧(look p.2 H).bind (rlE (back m))=look p.1 H0∧(look p.1 H0).bind (rlE (mxt m n0 n e0.cnt))=look p.2 H) (has:as0=rlL (back m) az) (hali:∀ p∈H,Q5J p.2=true)
  (hcnt:e.cnt=e0.cnt) (hv:e.v=rl (mxt m n0 n e0.cnt) e0.v) (hset:e.set=e0.set.map fun p=>(trm m p.1,rlE' (mxt m n0 n e0.cnt) p.2)) (hdel:e.del=e0.del.map (trm m)) (hnew:e.new=e0.new.map fun p=>(n+(p.1 - n0),rlE' (mxt m n0 n e0.cnt) p.2))
  (hna:(∀ p∈e0.set,Q5J p.2=true)∧∀ p∈e0.new,Q5J p.2=true) (hcomp:newB n0 e0.cnt (e0.new.map Prod.fst)=true) (hfine:e.fine n):ICon P f az (fun id=>look id H) n e:=by
 have hf0:=hc.fine (fun id x hx=>hm2.2.2 _ (Qg hx));have hm1n:(m.map Prod.fst).Nodup:=by rw [hm1];exact List.nodup_range
 have hin:∀ i,i<n0→∃ j,look i m=some j:=by
  intro i hi;have:i∈m.map Prod.fst:=by rw [hm1];simpa using hi
  obtain ⟨p,hp,rfl⟩:=List.mem_map.1 this;exact ⟨p.2,QO hm1n hp⟩
 have hlt:∀ i j,look i m=some j→i<n0:=by
  intro i j hij;have:i∈m.map Prod.fst:=List.mem_map.2 ⟨_,Qg hij,rfl⟩;rw [hm1] at this;simpa using this
 have tr:∀ i j,look i m=some j→trm m i=j:=fun i j h=>by simp [trm,h]
 have inj:∀ i i' j,look i m=some j→i' < n0→trm m i'=j→i'=i:=by
  intro i i' j hij hi' h;obtain ⟨j',hj'⟩:=hin i' hi';have:=tr i' j' hj';rw [h] at this;subst this;exact Q6X hm2.1 hj' hij
 have lm:∀ (l:List (Nat × Ent)) (F:Ent→Ent) (i j:Nat),look i m=some j→(∀ p∈l,p.1<n0)→look j (l.map fun p=>(trm m p.1,F p.2))=(look i l).map F:=by
  intro l F i j hij
  induction l with
  | nil=>intro _;rfl
  | cons p r ih =>
   intro hl;simp only [List.map_cons,look]
   by_cases hq:p.1=i
   ·rw [if_pos hq,if_pos (by rw [hq];exact tr i j hij)];rfl
   rw [if_neg hq,if_neg (fun h=>hq (inj i p.1 j hij (hl p (by simp)) h))];exact ih fun q hq'=>hl q (by simp [hq'])
 refine ICon.frame hc m hm1 hm2.1 hm2.2.1 hm2.2.2 (fun p hp=>?_) has (fun id hid c i k sz he=>?_) hcnt hv (fun i j hij=>?_) (fun j hj=>?_) (fun i j hij=>?_) (fun j hj hd=>?_) hna (fun i hi=>?_) hfine
 ·obtain ⟨z1,z2,z3⟩:=hpre p hp;obtain ⟨x,hx⟩:=Option.isSome_iff_exists.1 z1;rw [hx] at z2 z3;obtain ⟨y,hy,hyx⟩:=Option.bind_eq_some_iff.1 z2;exact ⟨x,y,hx,hy,hyx,by rw [← hy,← z3];rfl⟩
 ·have:=hali _ (Qg he);cases this
 ·rw [hset];exact lm e0.set _ i j hij hf0.sets.2
 ·rw [hset];cases hq:look j (e0.set.map fun p=>(trm m p.1,rlE' (mxt m n0 n e0.cnt) p.2)) with
  | none=>rfl
  | some x =>
   exfalso;obtain ⟨p,hp,he⟩:=List.mem_map.1 (Qg hq);simp only [qC] at he;obtain ⟨j',hj'⟩:=hin p.1 (hf0.sets.2 p hp);rw [tr _ _ hj'] at he;exact hj p.1 (by rw [hj',he.1])
 ·rw [hdel,List.mem_map];constructor
  ·rintro ⟨i',hi',h⟩
   have:=inj i i' j hij (hf0.del i' hi') h;subst this;exact hi'
  intro h;exact ⟨i,h,tr i j hij⟩
 ·rw [hdel,List.mem_map] at hd;obtain ⟨i',hi',h⟩:=hd;obtain ⟨j',hj'⟩:=hin i' (hf0.del i' hi');rw [tr _ _ hj'] at h;exact hj i' (by rw [hj',h])
 have:=newI (n:=n0) (e:=e0) hcomp (n0+i) (by omega) (by omega);obtain ⟨p,hp,he⟩:=List.mem_map.1 this;refine ⟨p.2,by rw [← he];exact QO hf0.nodup hp,?_⟩;rw [hnew];refine List.mem_map.2 ⟨p,hp,?_⟩;rw [show p.1 - n0=i by omega]
inductive PreL:List AV→List AV→Prop
 | nil:PreL [] []
 | eq {a az bs}:PreL az bs→PreL (a :: az) (a :: bs)
 | pre {xs cs az bs}:xs.take cs.length=cs→PreL az bs→PreL (.rptr xs :: az) (.rptr cs :: bs)
 | nl {id u sz az bs}:PreL az bs→PreL (.own id 0 0 :: az) (.lst u sz [] :: bs)
theorem PreL.at {az bs:List AV} (h:PreL az bs):az.length=bs.length∧∀ k,k<az.length→∀ {w:World} {R:Nat→Prop} {ρ:Nat→Option Bk} {v:Value},XRel w R ρ v (az.getD k .bot)→XRel w R ρ v (bs.getD k .bot):=by
 induction h with
 | nil=>exact ⟨rfl,fun k hk=>by simp at hk⟩
 | eq _ ih =>
  refine ⟨by simp [ih.1],fun k hk=>?_⟩;cases k with
  | zero=>intro w R ρ v hx;exact hx
  | succ k=>intro w R ρ v hx;exact ih.2 k (by simpa using hk) hx
 | @pre xs cs az bs e _ ih =>
  refine ⟨by simp [ih.1],fun k hk=>?_⟩;cases k with
  | succ k=>intro w R ρ v hx;exact ih.2 k (by simpa using hk) hx
  | zero =>
   intro w R ρ v hx;have hx':XRel w R ρ v (.rptr xs):=hx;obtain ⟨b,x,cur,el,fr,us,h1,h2,h3,h4,h5,h6⟩:=hx'.rptr_eq;have hl:cs.length≤xs.length:=by
    have:=congrArg List.length e;simp at this;omega
   subst h1;show XRel w R ρ _ (.rptr cs);refine .r (.rptr us h2 h3 (fun k hk=>h4 k (by omega)) (fun k hk=>h5 k (by omega)) fun k hk=>?_);have:=h6 k (by omega);have e2:cs.getD k .bot=xs.getD k .bot:=by
    rw [← e];simp [qB,hk]
   rw [e2];exact this
 | @nl id u sz az bs _ ih =>
  refine ⟨by simp [ih.1],fun k hk=>?_⟩;cases k with
  | succ k=>intro w R ρ v hx;exact ih.2 k (by simpa using hk) hx
  | zero =>
   intro w R ρ v hx;have hx':XRel w R ρ v (.own id 0 0):=hx;show XRel w R ρ _ (.lst u sz []);rcases hx'.own_eq with ⟨_,_,_,e2,_,_⟩|⟨b,_,cap,cc,x,_,e2,e3,_,_,_,e7⟩
   ·rw [e2];exact .r (.nil (by simp))
   rw [e2];exact .r (.nil (by omega))
end
section
attribute [local simp] Qd QD Qq
structure RetFG (P:Program) (rvs:List ResultVar) (st:St) (rs:List AV):Prop where
 ex:∃ az,RGet P st rvs az∧PurL st.hp az rs
theorem RetFG.mk' {P:Program} {rvs:List ResultVar} {st:St} {az rs:List AV} (hg:RGet P st rvs az) (hp:PurL st.hp az rs):RetFG P rvs st rs:=⟨_,hg,hp⟩
def pko (p i k j:Nat) (o:Nat→Option (List Nat)):Nat→Option (List Nat):=fun b=>match o b with
 | some (x :: M)=>if x=p then (match M with
  | i' :: k' :: M'=>if i'=i∧k'=k then some (j :: M') else none
  | _=>none) else some (x :: M)
 | _=>none
theorem Q5M {p i k j:Nat} {o:Nat→Option (List Nat)} {b x:Nat} {M:List Nat} (h:o b=some (x :: M)) (hx:x ≠ p):pko p i k j o b=some (x :: M):=by
 simp only [pko,h,if_neg hx]
theorem pko_cell {p i k j:Nat} {o:Nat→Option (List Nat)} {b:Nat} {M:List Nat} (h:o b=some (p :: i :: k :: M)):pko p i k j o b=some (j :: M):=by
 simp [pko,h]
theorem pko_some {p i k j:Nat} {o:Nat→Option (List Nat)} {b:Nat} {L:List Nat} (h:pko p i k j o b=some L):∃ L',o b=some L':=by
 unfold pko at h;split at h
 ·rename_i hb;exact ⟨_,hb⟩
 cases h
theorem Wk.pick {F:Fx} {st st':St} {p j i k sz sz2:Nat} {es es2:List (List AV)} (hp:look p st.h=some (.row sz es)) (hj:look j st.h=some (.ali p i k sz2)) (hi:i<es.length) (hk:k<sz) (hc:(es.getD i []).getD k .bot = .lst true sz2 es2)
  (hs:∀ q∈st'.s,st.get q.1=q.2∨q.2 = .bot) (hn:st'.n=st.n) (hh:∀ q∈st'.h,q=(j,.row sz2 es2)∨(q.1 ≠ p∧look q.1 st.h=some q.2∧(match q.2 with|.ali _ _ _ _=>False|_=>True))):Wk F st st':=by
 intro a w ⟨R,hX,hr⟩;obtain ⟨r1,r2,r3,o,ρ,W,H,hx,hρ,hpn⟩:=hr;have hent:∀ id e,st'.hp id=some e→(id=j∧e = .row sz2 es2)∨(id ≠ p∧st.hp id=some e∧(match e with|.ali _ _ _ _=>False|_=>True)):=fun id e h=>by
  rcases hh (id,e) (Qg h) with q|q
  ·simp only [qC] at q;exact .inl q
  exact .inr q
 refine ⟨R,hX,r1,r2,fun id x hx'=>?_,pko p i k j o,ρ,⟨fun b hb=>⟨(W.R b hb).1,?_⟩,fun b L hb=>?_,W.os,W.tape,W.output,W.size,W.keep⟩,⟨fun id z xs bk h1 h2=>?_,fun id z xs bk h1 h2=>?_,fun id c i' k' z bk h1 h2=>?_,fun id kd xs bk h1 h2=>?_⟩,fun t=>?_,fun id kk hk'=>?_,fun id hid=>hpn.1 id hid,by rw [hn];exact hpn.2⟩
 ·rw [hn];rcases hent id x hx' with ⟨rfl,_⟩|⟨_,q,_⟩
  ·exact r3 _ _ hj
  exact r3 _ _ q
 ·have h3:o b=none:=(W.R b hb).2;simp only [pko,h3]
 ·obtain ⟨L',h3⟩:=pko_some hb;exact W.o b L' h3
 ·rcases hent id _ h1 with ⟨_,q⟩|⟨q1,q2,_⟩
  ·cases q
  rcases (H.mix id z xs bk q2 h2).ex0 with h0|⟨b,cur,el,us,cp,p1,p2,p3⟩
  ·exact ⟨.inl h0⟩
  exact .mk' ⟨b,cur,el,us,cp,p1,Q5M p2 q1,p3⟩
 ·rcases hent id _ h1 with ⟨rfl,q⟩|⟨q1,q2,_⟩
  ·simp only [Ent.row.injEq] at q;obtain ⟨rfl,rfl⟩:=q;obtain ⟨e1,bkc,e2,e3⟩:=H.ali id p i k z bk hj h2;obtain ⟨bc,cur,el,v,c1,c2,c3,c4⟩:=e3 1 sz es (by simp only [cont];rw [show st.hp p=some (.row sz es) from hp]) (by rw [show st.hp p=some (.row sz es) from hp];rfl) hi hk;obtain ⟨vp,t1,t2⟩:=H.row p sz es bkc hp e2;generalize hL:([p]:List Nat)=L at t1;cases t1 with
   | nil=>simp at hi
   | @own _ _ _ b cap cur' el' us u1 u2 u3 u4 u5 u6 u7 u8 u9 =>
    subst hL;cases t2;simp only [qA] at c1;subst c1;rw [u2] at c2;simp only [qA,Obj.cells.injEq] at c2;obtain ⟨rfl,_,_⟩:=c2;have hv:us i k=v:=by
     have:=u7 i k hi hk;rw [c3] at this;exact (zF this).symm
    have T:=u9 i k hi hk;rw [hc,hv] at T;refine ⟨v,T.mono [id] fun b' M hb'=>⟨?_,rfl⟩,?_⟩
    ·have:o b'=some (p :: i :: k :: M):=(by simpa using hb');simpa using pko_cell (j:=id) this
    rcases c4 with c4|c4
    ·exact c4
    exact (T.scn_lst c4).elim
  obtain ⟨v,t1,t2⟩:=H.row id z xs bk q2 h2;exact ⟨v,t1.same fun b M hb=>⟨by
   have h3:o b=some (id :: M):=(by simpa using hb);simpa using Q5M h3 q1,rfl⟩,t2⟩
 ·rcases hent id _ h1 with ⟨_,q⟩|⟨_,_,q⟩
  ·cases q
  exact q.elim
 ·rcases hent id _ h1 with ⟨_,q⟩|⟨q1,q2,_⟩
  ·cases q
  exact (H.map id kd xs bk q2 h2).move (fun b hb=>⟨hb,rfl⟩) fun b M p2=>⟨Q5M p2 q1,rfl⟩
 ·cases hl:look t st'.s with
  | none=>simp only [St.get,hl,Option.getD_none];exact .bot
  | some v =>
   simp only [St.get,hl,qZ];rcases hs _ (Qg hl) with h|h
   ·simp only at h;rw [← h];exact hx t
   simp only at h;rw [h];exact .bot
 rw [hn];exact hρ id kk hk'
end
section
attribute [local simp] Qd QD Qq
def pkt (p i k j:Nat) (o:Nat→Option (List Nat)):Nat→Option (List Nat):=fun b=>match o b with
 | some (x :: M)=>if x=p then (match M with
  | []=>some [p]
  | i' :: k' :: M'=>if i'=i∧k'=k then some (j :: M') else none
  | _=>none) else some (x :: M)
 | _=>none
theorem Q5N {p i k j:Nat} {o:Nat→Option (List Nat)} {b x:Nat} {M:List Nat} (h:o b=some (x :: M)) (hx:x ≠ p):pkt p i k j o b=some (x :: M):=by
 simp only [pkt,h,if_neg hx]
theorem pkt_cell {p i k j:Nat} {o:Nat→Option (List Nat)} {b:Nat} {M:List Nat} (h:o b=some (p :: i :: k :: M)):pkt p i k j o b=some (j :: M):=by
 simp [pkt,h]
theorem pkt_root {p i k j:Nat} {o:Nat→Option (List Nat)} {b:Nat} (h:o b=some [p]):pkt p i k j o b=some [p]:=by
 simp [pkt,h]
theorem pkt_some {p i k j:Nat} {o:Nat→Option (List Nat)} {b:Nat} {L:List Nat} (h:pkt p i k j o b=some L):∃ L',o b=some L':=by
 unfold pkt at h;split at h
 ·rename_i hb;exact ⟨_,hb⟩
 cases h
theorem Wk.take {F:Fx} {st st':St} {p j i k sz sz2:Nat} {es es2 es':List (List AV)} (hp:look p st.h=some (.row sz es)) (hj:look j st.h=some (.ali p i k sz2)) (hpj:p ≠ j) (hi:i<es.length) (hk:k<sz) (hc:(es.getD i []).getD k .bot = .lst true sz2 es2)
  (hl:es'.length=es.length) (hz:∀ i,i<es.length→(es'.getD i []).length=sz) (hb:∀ i k,(es'.getD i []).getD k .bot = .bot)
  (hs:∀ q∈st'.s,st.get q.1=q.2∨q.2 = .bot) (hn:st'.n=st.n) (hh:∀ q∈st'.h,q=(j,.row sz2 es2)∨q=(p,.mix sz es')∨(q.1 ≠ p∧look q.1 st.h=some q.2∧(match q.2 with|.ali _ _ _ _=>False|_=>True))):Wk F st st':=by
 intro a w ⟨R,hX,hr⟩;obtain ⟨r1,r2,r3,o,ρ,W,H,hx,hρ,hpn⟩:=hr;have hent:∀ id e,st'.hp id=some e→(id=j∧e = .row sz2 es2)∨(id=p∧e = .mix sz es')∨(id ≠ p∧st.hp id=some e∧(match e with|.ali _ _ _ _=>False|_=>True)):=fun id e h=>by
  rcases hh (id,e) (Qg h) with q|q|q
  ·simp only [qC] at q;exact .inl q
  ·simp only [qC] at q;exact .inr (.inl q)
  exact .inr (.inr q)
 refine ⟨R,hX,r1,r2,fun id x hx'=>?_,pkt p i k j o,ρ,⟨fun b hb=>⟨(W.R b hb).1,?_⟩,fun b L hb=>?_,W.os,W.tape,W.output,W.size,W.keep⟩,⟨fun id z xs bk h1 h2=>?_,fun id z xs bk h1 h2=>?_,fun id c i' k' z bk h1 h2=>?_,fun id kd xs bk h1 h2=>?_⟩,fun t=>?_,fun id kk hk'=>?_,fun id hid=>hpn.1 id hid,by rw [hn];exact hpn.2⟩
 ·rw [hn];rcases hent id x hx' with ⟨rfl,_⟩|⟨rfl,_⟩|⟨_,q,_⟩
  ·exact r3 _ _ hj
  ·exact r3 _ _ hp
  exact r3 _ _ q
 ·have h3:o b=none:=(W.R b hb).2;simp only [pkt,h3]
 ·obtain ⟨L',h3⟩:=pkt_some hb;exact W.o b L' h3
 ·rcases hent id _ h1 with ⟨_,q⟩|⟨rfl,q⟩|⟨q1,q2,_⟩
  ·cases q
  ·simp only [Ent.mix.injEq] at q;obtain ⟨rfl,rfl⟩:=q;obtain ⟨vp,t1,t2⟩:=H.row id z es bk hp h2;generalize hL:([id]:List Nat)=L at t1;cases t1 with
   | nil=>simp at hi
   | @own _ _ _ b cap cur' el' us u1 u2 u3 u4 u5 u6 u7 u8 u9 =>
    subst hL;cases t2;exact .mk' ⟨b,cur',el',us,cap,rfl,pkt_root u1,u2,u3,by omega,u5,fun i hi=>hz i (by omega),fun i k hi hk=>u7 i k (by omega) hk,fun i k hi hk=>u8 i k (by omega) hk,fun i k hi hk=>by rw [hb i k];exact .bot⟩
  rcases (H.mix id z xs bk q2 h2).ex0 with h0|⟨b,cur,el,us,cp,p1,p2,p3⟩
  ·exact ⟨.inl h0⟩
  exact .mk' ⟨b,cur,el,us,cp,p1,Q5N p2 q1,p3⟩
 ·rcases hent id _ h1 with ⟨rfl,q⟩|⟨_,q⟩|⟨q1,q2,_⟩
  ·simp only [Ent.row.injEq] at q;obtain ⟨rfl,rfl⟩:=q;obtain ⟨e1,bkc,e2,e3⟩:=H.ali id p i k z bk hj h2;obtain ⟨bc,cur,el,v,c1,c2,c3,c4⟩:=e3 1 sz es (by simp only [cont];rw [show st.hp p=some (.row sz es) from hp]) (by rw [show st.hp p=some (.row sz es) from hp];rfl) hi hk;obtain ⟨vp,t1,t2⟩:=H.row p sz es bkc hp e2;generalize hL:([p]:List Nat)=L at t1;cases t1 with
   | nil=>simp at hi
   | @own _ _ _ b cap cur' el' us u1 u2 u3 u4 u5 u6 u7 u8 u9 =>
    subst hL;cases t2;simp only [qA] at c1;subst c1;rw [u2] at c2;simp only [qA,Obj.cells.injEq] at c2;obtain ⟨rfl,_,_⟩:=c2;have hv:us i k=v:=by
     have:=u7 i k hi hk;rw [c3] at this;exact (zF this).symm
    have T:=u9 i k hi hk;rw [hc,hv] at T;refine ⟨v,T.mono [id] fun b' M hb'=>⟨?_,rfl⟩,?_⟩
    ·have:o b'=some (p :: i :: k :: M):=(by simpa using hb');simpa using pkt_cell (j:=id) this
    rcases c4 with c4|c4
    ·exact c4
    exact (T.scn_lst c4).elim
  ·cases q
  obtain ⟨v,t1,t2⟩:=H.row id z xs bk q2 h2;exact ⟨v,t1.same fun b M hb=>⟨by
   have h3:o b=some (id :: M):=(by simpa using hb);simpa using Q5N h3 q1,rfl⟩,t2⟩
 ·rcases hent id _ h1 with ⟨_,q⟩|⟨_,q⟩|⟨_,_,q⟩
  ·cases q
  ·cases q
  exact q.elim
 ·rcases hent id _ h1 with ⟨_,q⟩|⟨_,q⟩|⟨q1,q2,_⟩
  ·cases q
  ·cases q
  exact (H.map id kd xs bk q2 h2).move (fun b hb=>⟨hb,rfl⟩) fun b M p2=>⟨Q5N p2 q1,rfl⟩
 ·cases hl:look t st'.s with
  | none=>simp only [St.get,hl,Option.getD_none];exact .bot
  | some v =>
   simp only [St.get,hl,qZ];rcases hs _ (Qg hl) with h|h
   ·simp only at h;rw [← h];exact hx t
   simp only at h;rw [h];exact .bot
 rw [hn];exact hρ id kk hk'
end
section
attribute [local simp] Qd QD Qq
theorem WF.labels {C:Ctx} {w:World} {g:Gh} (W:WF C w g) {o':Nat→Option (List Nat)} {ρ':Nat→Option Bk} (h0:∀ b,g.o b=none→o' b=none) (h1:∀ b L,o' b=some L→∃ L',g.o b=some L'):WF C w ⟨g.R,o',ρ'⟩ :=
 ⟨fun b hb=>⟨(W.R b hb).1,h0 b (W.R b hb).2⟩,fun b L hb=>by obtain ⟨L',h2⟩:=h1 b L hb;exact W.o b L' h2,W.os,W.tape,W.output,W.size,W.keep⟩
def Q3u (es:List (List AV)) (i k:Nat):List (List AV):=es.set i ((es.getD i []).set k .bot)
theorem Q1g (es:List (List AV)) (i k:Nat):(Q3u es i k).length=es.length:=by simp [Q3u]
theorem holed_row (es:List (List AV)) (i k j:Nat):((Q3u es i k).getD j []).length=(es.getD j []).length:=by
 unfold Q3u
 by_cases h:i=j
 ·subst h
  by_cases hi:i<es.length
  ·simp [qB,hi]
  simp [qB,hi]
 simp [qB,h]
theorem Q6o (es:List (List AV)) {i k i' k':Nat} (h:(i',k') ≠ (i,k)):((Q3u es i k).getD i' []).getD k' .bot=(es.getD i' []).getD k' .bot:=by
 unfold Q3u
 by_cases e:i=i'
 ·subst e;have hk:k ≠ k':=fun q=>h (by rw [q])
  by_cases hi:i<es.length
  ·simp [qB,hi,hk]
  simp [qB,hi]
 simp [qB,e]
theorem Q7z (es:List (List AV)) (i k:Nat):((Q3u es i k).getD i []).getD k .bot = .bot:=by
 unfold Q3u
 by_cases hi:i<es.length
 ·by_cases hk:k<(es.getD i []).length
  ·simp only [qB,qF hi,qZ] at hk;simp [qB,hi,hk]
  simp only [qB,qF hi,qZ] at hk;simp [qB,hi,hk]
 simp [qB,hi]
def tkl (p i k j:Nat) (o:Nat→Option (List Nat)):Nat→Option (List Nat):=fun b=>match o b with
 | some (x :: i' :: k' :: M)=>if x=p∧i'=i∧k'=k then some (j :: M) else some (x :: i' :: k' :: M)
 | y=>y
theorem Q5V {p i k j:Nat} {o:Nat→Option (List Nat)} {b x:Nat} {M:List Nat} (h:o b=some (x :: M)) (hx:x ≠ p):tkl p i k j o b=some (x :: M):=by
 unfold tkl;rw [h];cases M with
 | nil=>rfl
 | cons y M =>
  cases M with
  | nil=>rfl
  | cons z M=>simp [hx]
theorem tkl_root {p i k j:Nat} {o:Nat→Option (List Nat)} {b:Nat} (h:o b=some [p]):tkl p i k j o b=some [p]:=by simp [tkl,h]
theorem tkl_cell {p i k j:Nat} {o:Nat→Option (List Nat)} {b:Nat} {M:List Nat} (h:o b=some (p :: i :: k :: M)):tkl p i k j o b=some (j :: M):=by simp [tkl,h]
theorem tkl_rest {p i k j i' k':Nat} {o:Nat→Option (List Nat)} {b:Nat} {M:List Nat} (h:o b=some (p :: i' :: k' :: M)) (hne:(i',k') ≠ (i,k)):tkl p i k j o b=some (p :: i' :: k' :: M):=by
 simp only [tkl,h];rw [if_neg]
 rintro ⟨_,rfl,rfl⟩
 exact hne rfl
theorem Q9U {p i k j:Nat} {o:Nat→Option (List Nat)} {b:Nat} (h:o b=none):tkl p i k j o b=none:=by simp [tkl,h]
theorem tkl_some {p i k j:Nat} {o:Nat→Option (List Nat)} {b:Nat} {L:List Nat} (h:tkl p i k j o b=some L):∃ L',o b=some L':=by
 cases hb:o b with
 | none=>rw [Q9U hb] at h;cases h
 | some L'=>exact ⟨L',rfl⟩
def Q1m (h:HP) (p i k j sz sz2:Nat) (es es2:List (List AV)):HP:=fun c=>if c=p then some (.row sz (Q3u es i k)) else if c=j then some (.row sz2 es2) else h c
theorem Q7x {h:HP} {p i k j sz sz2:Nat} {es es2:List (List AV)} (hp:h p=some (.row sz es)) (hj:h j=some (.ali p i k sz2)) (c:Nat):Qp (Q1m h p i k j sz sz2 es es2 c)=Qp (h c):=by
 unfold Q1m;split
 ·rename_i e;subst e;rw [hp];rfl
 split
 ·rename_i e;subst e;rw [hj];rfl
 rfl
theorem cont_take {h:HP} {p i k j sz sz2:Nat} {es es2:List (List AV)} (hp:h p=some (.row sz es)) (hj:h j=some (.ali p i k sz2)) (hpj:p ≠ j) (hc:(es.getD i []).getD k .bot = .lst true sz2 es2) :
  ∀ (d c:Nat) (q:Nat × List (List AV)),cont (Q1m h p i k j sz sz2 es es2) d c=some q→(c=p∧q=(sz,Q3u es i k))∨∃ d',cont h d' c=some q:=by
 intro d
 induction d with
 | zero=>intro c q hx;simp [cont] at hx
 | succ d ih =>
  intro c q hx
  by_cases hcp:c=p
  ·subst hcp;refine .inl ⟨rfl,?_⟩;simpa [cont,Q1m,eq_comm] using hx
  by_cases hcj:c=j
  ·subst hcj;have e1:Q1m h p i k c sz sz2 es es2 c=some (.row sz2 es2):=(by simp [Q1m,hcp]);unfold cont at hx;rw [e1] at hx;simp only [qA] at hx;subst hx;refine .inr ⟨2,?_⟩;have h1:cont h 1 p=some (sz,es):=(by simp [cont,hp]);have h2:Qp (h p)=false:=(by rw [hp];rfl);rw [cont,hj];simp only [h1,h2,Bool.false_eq_true,if_false,hc,if_true]
  have e1:Q1m h p i k j sz sz2 es es2 c=h c:=by simp [Q1m,hcp,hcj]
  unfold cont at hx;rw [e1] at hx;cases he:h c with
  | none=>simp [he] at hx
  | some x =>
   cases x with
   | mix=>exact .inr ⟨1,by simpa [cont,he] using hx⟩
   | row=>exact .inr ⟨1,by simpa [cont,he] using hx⟩
   | mapE=>simp [he] at hx
   | ali c2 i2 k2 s2 =>
    simp only [he] at hx;split at hx
    ·cases hx
    rename_i hm;rw [Q7x hp hj] at hm;cases hcc:cont (Q1m h p i k j sz sz2 es es2) d c2 with
    | none=>simp [hcc] at hx
    | some q2 =>
     rw [hcc] at hx;rcases ih c2 q2 hcc with ⟨rfl,rfl⟩|⟨d',i1⟩
     ·by_cases hik:(i2,k2)=(i,k)
      ·cases hik;simp only [Q7z] at hx;cases hx
      refine .inr ⟨2,?_⟩;simp only [Q6o es hik] at hx;have h1:cont h 1 c2=some (sz,es):=(by simp [cont,hp]);rw [cont,he];simp only [h1,if_neg hm];exact hx
     refine .inr ⟨d' + 1,?_⟩;unfold cont;rw [he];simp only;rw [if_neg hm,i1];exact hx
theorem HRel.takeA {C:Ctx} {w:World} {g:Gh} {h:HP} (W:WF C w g) (H:HRel w g h) {p i k j sz sz2:Nat} {es es2:List (List AV)} (hp:h p=some (.row sz es)) (hj:h j=some (.ali p i k sz2)) (hpj:p ≠ j) (hi:i<es.length) (hk:k<sz)
  (hc:(es.getD i []).getD k .bot = .lst true sz2 es2):WF C w ⟨g.R,tkl p i k j g.o,g.ρ⟩∧HRel w ⟨g.R,tkl p i k j g.o,g.ρ⟩ (Q1m h p i k j sz sz2 es es2):=by
 refine ⟨W.labels (fun b hb=>Q9U hb) fun b L hb=>tkl_some hb,⟨fun id z xs bk he hb=>?_,fun id z xs bk he hb=>?_,fun id c i' k' z bk he hb=>?_,fun id kd xs bk he hb=>?_⟩⟩
 ·have hidp:id ≠ p:=by rintro rfl;simp [Q1m] at he
  have hidj:id ≠ j:=by rintro rfl;simp [Q1m,hidp] at he
  have he':h id=some (.mix z xs):=by simpa [Q1m,hidp,hidj] using he
  exact (H.mix id z xs bk he' hb).mono (fun _ _=>rfl) (fun _ _ h=>h) fun b hb=>⟨Q5V hb hidp,rfl⟩
 ·by_cases hidp:id=p
  ·subst hidp;have:z=sz∧xs=Q3u es i k:=(by simpa [Q1m,eq_comm] using he);obtain ⟨rfl,rfl⟩:=this;obtain ⟨vp,t1,t2⟩:=H.row id z es bk hp hb;refine ⟨vp,?_,t2⟩;generalize hL:([id]:List Nat)=L at t1;cases t1 with
   | nil=>simp at hi
   | @own _ _ _ b cap cur' el' us u1 u2 u3 u4 u5 u6 u7 u8 u9 =>
    subst hL;have:=TRel.own (w:=w) (R:=g.R) (o:=tkl id i k j g.o) (L:=[id]) (sz:=z) (es:=Q3u es i k) (b:=b) (cap:=cap) (cur:=cur') (e:=el') us (tkl_root u1) u2 u3 (by rw [Q1g];exact u4) u5
     (fun i' hi'=>by rw [Q1g] at hi';rw [holed_row];exact u6 i' hi') (fun i' k' hi' hk'=>by rw [Q1g] at hi';exact u7 i' k' hi' hk') (fun i' k' hi' hk'=>by rw [Q1g] at hi';exact u8 i' k' hi' hk')
     (fun i' k' hi' hk'=>by
      rw [Q1g] at hi'
      by_cases hik:(i',k')=(i,k)
      ·cases hik;rw [Q7z];exact .bot (u8 _ _ hi' hk')
      rw [Q6o es hik];refine (u9 i' k' hi' hk').mono [id,i',k'] fun b' M hb'=>⟨?_,rfl⟩;have:g.o b'=some (id :: i' :: k' :: M):=(by simpa using hb');simpa using tkl_rest (j:=j) this hik)
    rw [Q1g] at this;exact this
  by_cases hidj:id=j
  ·subst hidj;have:z=sz2∧xs=es2:=(by simpa [Q1m,hidp,eq_comm] using he);obtain ⟨rfl,rfl⟩:=this;obtain ⟨e1,bkc,e2,e3⟩:=H.ali id p i k z bk hj hb;obtain ⟨bc,cur,el,v,c1,c2,c3,c4⟩:=e3 1 sz es (by simp [cont,hp]) (by rw [hp];rfl) hi hk;obtain ⟨vp,t1,t2⟩:=H.row p sz es bkc hp e2;generalize hL:([p]:List Nat)=L at t1;cases t1 with
   | nil=>simp at hi
   | @own _ _ _ b cap cur' el' us u1 u2 u3 u4 u5 u6 u7 u8 u9 =>
    subst hL;cases t2;simp only [qA] at c1;subst c1;rw [u2] at c2;simp only [qA,Obj.cells.injEq] at c2;obtain ⟨rfl,_,_⟩:=c2;have hv:us i k=v:=by
     have:=u7 i k hi hk;rw [c3] at this;exact (zF this).symm
    have T:=u9 i k hi hk;rw [hc,hv] at T;refine ⟨v,T.mono [id] fun b' M hb'=>⟨?_,rfl⟩,?_⟩
    ·have:g.o b'=some (p :: i :: k :: M):=(by simpa using hb');simpa using tkl_cell (j:=id) this
    rcases c4 with c4|c4
    ·exact c4
    exact (T.scn_lst c4).elim
  have he':h id=some (.row z xs):=by simpa [Q1m,hidp,hidj] using he
  obtain ⟨v,t1,t2⟩:=H.row id z xs bk he' hb;exact ⟨v,t1.same fun b M hb=>⟨by
   have h3:g.o b=some (id :: M):=(by simpa using hb);simpa using Q5V h3 hidp,rfl⟩,t2⟩
 ·have hidp:id ≠ p:=by rintro rfl;simp [Q1m] at he
  have hidj:id ≠ j:=by rintro rfl;simp [Q1m,hidp] at he
  have he':h id=some (.ali c i' k' z):=by simpa [Q1m,hidp,hidj] using he
  obtain ⟨e1,bkc,e2,e3⟩:=H.ali id c i' k' z bk he' hb;refine ⟨e1,bkc,e2,fun d szc esc hcc hm hi' hk'=>?_⟩;rw [Q7x hp hj] at hm;rcases cont_take hp hj hpj hc d c _ hcc with ⟨rfl,q⟩|⟨d',q1⟩
  ·cases q;rw [Q1g] at hi';exact e3 1 _ es (by simp [cont,hp]) hm hi' hk'
  exact e3 d' szc esc q1 hm hi' hk'
 have hidp:id ≠ p:=by rintro rfl;simp [Q1m] at he
 have hidj:id ≠ j:=by rintro rfl;simp [Q1m,hidp] at he
 have he':h id=some (.mapE kd xs):=by simpa [Q1m,hidp,hidj] using he
 exact (H.map id kd xs bk he' hb).move (fun b hb=>⟨hb,rfl⟩) fun b M hb=>⟨Q5V hb hidp,rfl⟩
theorem Qa7 {h h':HP} {p i k j sz sz2:Nat} {es es2:List (List AV)} (hs:∀ id x,h id=some x→h' id=some x):∀ id x,Q1m h p i k j sz sz2 es es2 id=some x→Q1m h' p i k j sz sz2 es es2 id=some x:=by
 intro id x hx
 by_cases h0:id=p
 ·simpa [Q1m,h0] using hx
 by_cases h1:id=j
 ·simpa [Q1m,h0,h1] using hx
 have:h id=some x:=by simpa [Q1m,h0,h1] using hx
 simpa [Q1m,h0,h1] using hs _ _ this
open Classical in
theorem sem_apa {P:Program} {op:Op} {ev:Operand→AV} {h:HP} {n:Nat} {c:Prop} {e:Eff} {s x:Operand} {t:TypeId} {p j i k sz sz2:Nat} {es es2:List (List AV)} (ho:op = .call ⟨.builtin .append,#[s,x],#[t,t]⟩)
  (hj:h j=some (.ali p i k sz2)) (hp:h p=some (.row sz es)) (hpj:p ≠ j) (hi:i<es.length) (hk:k<sz) (hc:(es.getD i []).getD k .bot = .lst true sz2 es2) (hpn:p<n)
  (he:opF P op ev (Q1m h p i k j sz sz2 es es2) n=some (c,e)) (hcc:c) (hse:e.set=[]) (hpd:p ∉ e.del) (hjd:j∈e.del) (hf:e.fine n) :
  SemOp P op ev h n { v:=e.v,set:=[(p,.row sz (Q3u es i k))],del:=e.del,new:=e.new,cnt:=e.cnt }:=by
 subst ho;have up:∀ {g:Gh} {w:World} {a:Act} {h':HP},(∀ id x,h id=some x→h' id=some x)→(∀ y∈(Op.call ⟨.builtin .append,#[s,x],#[t,t]⟩).operands,XRel w g.R g.ρ (a.eval y) (ev y)) →
   ∃ ev':Operand→AV,(∀ y,XRel w g.R g.ρ (a.eval y) (ev' y))∧opF P (.call ⟨.builtin .append,#[s,x],#[t,t]⟩) ev' (Q1m h' p i k j sz sz2 es es2) n=some (c,e):=by
  intro g w a h' q2 q5;refine ⟨fun y=>if y=s∨y=x then ev y else .bot,fun y=>?_,?_⟩
  ·simp only;split
   ·rename_i hy;exact q5 y (by rcases hy with rfl|rfl<;>simp [Op.operands,Call.operands])
   exact .bot
  rw [← Q7P (ev:=ev) (fun y hy=>by
   have hy':y=s∨y=x:=(by simpa [Op.operands,Call.operands] using hy);exact (if_pos hy').symm)]
  exact opF_up (Qa7 q2) he
 refine ⟨by simp [Q1h],⟨hf.new,hf.nodup,hf.del,by simp [hpn]⟩,fun {C o a w g h'} q1 q2 q3 q4 q5 W H q6 q7=>?_⟩;obtain ⟨W1,H1⟩:=HRel.takeA W H (q2 _ _ hp) (q2 _ _ hj) hpj hi hk hc;have hjn:j<n:=hf.del j hjd;obtain ⟨ev',hev,he2⟩:=up (g:=g) (w:=w) (a:=a) q2 q5;have St:=Q9C (g:=⟨g.R,tkl p i k j g.o,g.ρ⟩) (a:=a) (ev:=ev') hev W1 H1 (e:=e) (c:=c) (n:=n) (fun p0 hp0=>by
  have h0:=(hf.new p0 hp0).1;have h1:p0.1 ≠ p:=by omega
  have h2:p0.1 ≠ j:=by omega
  simp only [Q1m,if_neg h1,if_neg h2];exact q6 p0 hp0) q7 (o:=o) (by rw [q1];exact he2) hcc
 have hh:happ e (Q1m h' p i k j sz sz2 es es2)=happ { v:=e.v,set:=[(p,.row sz (Q3u es i k))],del:=e.del,new:=e.new,cnt:=e.cnt } h':=by
  funext y
  simp only [happ,hse,look]
  by_cases h0:p=y
  ·subst h0;simp [hpd,Q1m]
  rw [if_neg h0];simp only
  by_cases h1:y=j
  ·subst h1;simp [hjd]
  simp [Q1m,Ne.symm h0,h1]
 intro K Q kk;refine St.step K Q fun v w' R' o' ρ' r1 r2 r3 r4 r5 r6 r7=>kk v w' R' o' ρ' r1 r2 ?_ r4 r5 r6 r7;rw [← hh];exact r3
theorem sem_apaE {P:Program} {op:Op} {ev:Operand→AV} {h:HP} {n:Nat} {s x:Operand} {t et:TypeId} {ty:Tyi} {p j i k sz sz2 m:Nat} {es es2 news es3:List (List AV)} {d2:List Nat} {c2:Prop}
  (ho:op = .call ⟨.builtin .append,#[s,x],#[t,t]⟩) (hel:elm P t=some et) (hty:tyi P et=some ty) (hsz:ty.sz=sz2) (h0:0<sz2) (hs:ev s = .own j 0 m) (hm:m=es2.length) (hj:h j=some (.ali p i k sz2)) (hp:h p=some (.row sz es))
  (hx:src (Q1m h p i k j sz sz2 es es2) sz2 (ev x)=some (c2,news,d2)) (hc2:c2) (hi:i<es.length) (hk:k<sz) (hc:(es.getD i []).getD k .bot = .lst true sz2 es2)
  (hb:es3.length * ty.bytes≤140737488355328) (hb':es3.length≤140737488355328) (hpn:p<n) (hnd:(n :: p :: j :: d2).Nodup) (hd:∀ y∈j :: d2,y<n) (he3:es2++news=es3) :
  SemOp P op ev h n { v:=.own n 0 es3.length,set:=[(p,.row sz (Q3u es i k))],del:=j :: d2,new:=[(n,.row sz2 es3)],cnt:=1 }:=by
 subst he3 hm;have hpj:p ≠ j:=by
  have:=(List.nodup_cons.1 hnd).2;simp only [List.nodup_cons,List.mem_cons,not_or] at this;exact this.1.1
 have hnd':(n :: ([j]++([]++d2))).Nodup:=by
  simp only [List.nodup_cons,List.mem_cons,not_or] at hnd ⊢;simp only [List.nil_append,List.singleton_append,List.mem_cons,not_or,List.nodup_cons];exact ⟨⟨hnd.1.2.1,hnd.1.2.2⟩,hnd.2.2⟩
 have hhj:Q1m h p i k j sz sz2 es es2 j=some (.row sz2 es2):=by simp [Q1m,Ne.symm hpj]
 have key:=sem_apa (P:=P) (ev:=ev) (n:=n) (c:=(es2.length≤es2.length)∧c2∧(es2.length+news.length) * ty.bytes≤140737488355328∧es2.length+news.length≤140737488355328∧0<ty.sz) (e:={ v:=.own n 0 (es2.length+news.length),del:=[j]++([]++d2),new:=[(n,.row ty.sz (es2++news))],cnt:=1 }) ho hj hp hpj hi hk hc hpn
  (by
   subst ho;simp only [opF,bltF,hel,if_true,hty,hs,Q2j];simp only [base,hhj,hsz,hx,if_true,hnd',List.take_length])
  (by simp only [List.length_append] at hb hb';exact ⟨qE _,hc2,hb,hb',by omega⟩) rfl (by
   simp only [List.nodup_cons,List.mem_cons,not_or] at hnd;simpa using hnd.2.1) (by simp) ⟨by simp,by simp,by simpa using hd,by simp⟩
 simpa [hsz] using key
theorem holed_set {es:List (List AV)} {i k:Nat} {b:AV} {es2:List (List AV)} (h:es.set i ((es.getD i []).set k b)=es2):(Q3u es i k).set i (((Q3u es i k).getD i []).set k b)=es2:=by
 rw [← h];unfold Q3u
 by_cases hi:i<es.length
 ·simp [qB,hi]
 simp [hi]
end
section
attribute [local simp] Qd QD Qq
attribute [simp] Q1g
theorem HRel.sub {w:World} {g:Gh} {h h2:HP} (H:HRel w g h) (hs:∀ id x,h2 id=some x→h id=some x):HRel w g h2:=by
 refine ⟨fun id sz es bk he hb=>H.mix id sz es bk (hs _ _ he) hb,fun id sz es bk he hb=>H.row id sz es bk (hs _ _ he) hb,fun id c i k sz bk he hb=>?_,fun id kd es bk he hb=>H.map id kd es bk (hs _ _ he) hb⟩;obtain ⟨e1,bkc,e2,e3⟩:=H.ali id c i k sz bk (hs _ _ he) hb;refine ⟨e1,bkc,e2,fun d szc esc hcc hm hi hk=>e3 d szc esc (Q1D hs hcc) ?_ hi hk⟩;cases hc:h2 c with
 | none =>
  cases d with
  | zero=>simp [cont] at hcc
  | succ d=>simp [cont,hc] at hcc
 | some x=>rw [hs _ _ hc,← hc];exact hm
end
section
attribute [local simp] Qd QD Qq
theorem HRel.beyond {w:World} {g:Gh} {h1 h2:HP} (H:HRel w g h1) (he:∀ id bk,g.ρ id=some bk→h2 id=h1 id):HRel w g h2:=by
 have hc:∀ (d c:Nat) (bk:Bk),g.ρ c=some bk→cont h2 d c=cont h1 d c:=by
  intro d
  induction d with
  | zero=>intro c bk _;rfl
  | succ d ih =>
   intro c bk hb;have e:=he c bk hb;unfold cont;rw [e];cases hx:h1 c with
   | none=>rfl
   | some x =>
    cases x with
    | ali c2 i k sz =>
     obtain ⟨_,bkc,e2,_⟩:=H.ali c c2 i k sz bk hx hb;simp only;rw [he c2 bkc e2,ih c2 bkc e2]
    | _=>rfl
 refine ⟨fun id sz es bk hx hb=>H.mix id sz es bk (by rw [← he id bk hb];exact hx) hb,fun id sz es bk hx hb=>H.row id sz es bk (by rw [← he id bk hb];exact hx) hb,fun id c i k sz bk hx hb=>?_,fun id kd es bk hx hb=>H.map id kd es bk (by rw [← he id bk hb];exact hx) hb⟩;obtain ⟨e1,bkc,e2,e3⟩:=H.ali id c i k sz bk (by rw [← he id bk hb];exact hx) hb;exact ⟨e1,bkc,e2,fun d szc esc hcc hm=>e3 d szc esc (by rw [← hc d c bkc e2];exact hcc) (by rw [← he c bkc e2];exact hm)⟩
def opl (p N:Nat) (o:Nat→Option (List Nat)):Nat→Option (List Nat):=fun b=>match o b with
 | some (x :: i :: k :: M)=>if x=p∧k=0 then some ((N+i) :: M) else some (x :: i :: k :: M)
 | y=>y
theorem Q5L {p N:Nat} {o:Nat→Option (List Nat)} {b x:Nat} {M:List Nat} (h:o b=some (x :: M)) (hx:x ≠ p):opl p N o b=some (x :: M):=by
 unfold opl;rw [h];cases M with
 | nil=>rfl
 | cons y M =>
  cases M with
  | nil=>rfl
  | cons z M=>simp [hx]
theorem opl_cell {p N i:Nat} {o:Nat→Option (List Nat)} {b:Nat} {M:List Nat} (h:o b=some (p :: i :: 0 :: M)):opl p N o b=some ((N+i) :: M):=by simp [opl,h]
theorem Q9E {p N:Nat} {o:Nat→Option (List Nat)} {b:Nat} (h:o b=none):opl p N o b=none:=by simp [opl,h]
theorem opl_some {p N:Nat} {o:Nat→Option (List Nat)} {b:Nat} {L:List Nat} (h:opl p N o b=some L):∃ L',o b=some L':=by
 cases hb:o b with
 | none=>rw [Q9E hb] at h;cases h
 | some L'=>exact ⟨L',rfl⟩
theorem HRel.opl {w:World} {g:Gh} {h:HP} {p:Nat} (N:Nat) (H:HRel w g h) (hp:h p=none):HRel w ⟨g.R,opl p N g.o,g.ρ⟩ h:=by
 have hne:∀ {id:Nat} {x:Ent},h id=some x→id ≠ p:=fun hx hq=>by rw [hq,hp] at hx;cases hx
 refine ⟨fun id sz es bk hx hb=>(H.mix id sz es bk hx hb).mono (fun _ _=>rfl) (fun _ _ h=>h) fun b h2=>⟨Q5L h2 (hne hx),rfl⟩,fun id sz es bk hx hb=>?_,fun id c i k sz bk hx hb=>H.ali id c i k sz bk hx hb,fun id kd es bk hx hb=>(H.map id kd es bk hx hb).move (fun b h2=>⟨h2,rfl⟩) fun b M h2=>⟨Q5L h2 (hne hx),rfl⟩⟩;obtain ⟨v,t1,t2⟩:=H.row id sz es bk hx hb;exact ⟨v,t1.same fun b M h2=>⟨by
  have h3:g.o b=some (id :: M):=by simpa using h2
  simpa using Q5L h3 (hne hx),rfl⟩,t2⟩
theorem Qah (N:Nat):∀ k,((zD k).map fun i=>N+i).Nodup:=by
 intro k;exact List.pairwise_map.2 (List.Pairwise.imp (fun {a b} h h2=>h (by omega)) (List.nodup_range (n:=k)))
open Classical in
theorem sem_apr {P:Program} {op:Op} {ev:Operand→AV} {h:HP} {n:Nat} {s x:Operand} {t et:TypeId} {ty:Tyi} {j p m mx:Nat} {es news es3:List (List AV)}
  (ho:op = .call ⟨.builtin .append,#[s,x],#[t,t]⟩) (hel:elm P t=some et) (hty:tyi P et=some ty) (hsz:ty.sz=1) (hs:ev s = .own j 0 m) (hm:m=es.length) (hj:h j=some (.row 1 es))
  (hx:ev x = .own p 0 mx) (hmx:mx=news.length) (hp:h p=some (.row 1 news)) (hb:es3.length * ty.bytes≤140737488355328) (hb':es3.length≤140737488355328) (hjp:j ≠ p) (hjn:j<n) (hpn:p<n) (he3:es++news=es3) :
  SemOp P op ev h n { v:=.own n 0 es3.length,del:=[j,p],new:=[(n,.row 1 es3)],cnt:=1 }:=by
 subst ho he3 hm hmx;refine ⟨by simp [Q1h],⟨by simp,by simp,by simp;omega,by simp⟩,fun {C o a w g h'} q1 q2 q3 q4 q5 W H q6 q7=>?_⟩
 let ev':Operand→AV:=fun y=>if y=s∨y=x then ev y else .bot
 have hev:∀ y,XRel w g.R g.ρ (a.eval y) (ev' y):=by
  intro y;simp only [ev'];split
  ·rename_i hy;exact q5 y (by rcases hy with rfl|rfl<;>simp [Op.operands,Call.operands])
  exact .bot
 have e1:ev' s = .own j 0 es.length:=by simp only [ev',true_or,if_true];exact hs
 have hxr:=q5 x (by simp [Op.operands,Call.operands]);rw [hx] at hxr
 let h2:HP:=fun id=>if id=p then none else if id≤n then h' id else none
 have hsub:∀ id y,h2 id=some y→h' id=some y:=by
  intro id y hy;simp only [h2] at hy;split at hy
  ·cases hy
  split at hy
  ·exact hy
  cases hy
 have H2:HRel w ⟨g.R,opl p (n+1) g.o,g.ρ⟩ h2:=(H.sub hsub).opl (n+1) (by simp [h2]);have W2:WF C w ⟨g.R,opl p (n+1) g.o,g.ρ⟩:=W.labels (fun b hb=>Q9E hb) fun b L hb=>opl_some hb;have hbase:base h2 ty.sz (ev' s)=some (es.length≤es.length,es,[j],[]):=by
  have hj2:h2 j=some (.row 1 es):=by
   simp only [h2,if_neg hjp,if_pos (Nat.le_of_lt hjn)];exact q2 _ _ hj
  rw [e1,hsz];simp only [base,hj2,if_true,List.take_length]
 have hsrc:∃ (ad:Option Addr) (cx:Nat) (us2:Nat→Nat→Value),a.eval x = .slice ad news.length cx∧(∀ j,j<news.length→(news.getD j []).length=1) ∧
   (∀ j k,j<news.length→k<1→∃ b x0,ad=some ⟨b,x0,none⟩∧w.cell? ⟨b,x0+(j * 1+k),none⟩=some (us2 j k))∧(∀ j k,j<news.length→k<1→one (us2 j k)) ∧
   ∀ j k,j<news.length→k<1→TRel w g.R g.o [p,j,k] (us2 j k) ((news.getD j []).getD k .bot):=by
  rcases hxr.own_eq with ⟨sz,cap,r1,r2,r3,r4⟩|⟨b,sz,cap,cc,x0,r1,r2,r3,r4,r5,r6,r7⟩
  ·have hn:news=[]:=List.eq_nil_of_length_eq_zero r4;subst hn;exact ⟨none,0,fun _ _=>undef,r2,by simp,by simp,by simp,by simp⟩
  obtain ⟨v,t1,t2⟩:=H.row p 1 news _ (q2 _ _ hp) r1;have hx0:x0=0:=r6 rfl;subst hx0;generalize hL:([p]:List Nat)=L at t1;cases t1 with
  | nil=>exact ⟨some ⟨b,0,none⟩,cc,fun _ _=>undef,r2,by simp,by simp,by simp,by simp⟩
  | @own _ _ _ b' cap' cur el us u1 u2 u3 u4 u5 u6 u7 u8 u9 =>
   subst hL;cases t2;refine ⟨some ⟨b,0,none⟩,cc,us,r2,u6,fun j k hj hk=>⟨b,0,rfl,?_⟩,u8,fun j k hj hk=>by simpa using u9 j k hj hk⟩;have:=u7 j k hj hk;simp only [Nat.zero_add,World.cell?,u2];simpa using this
 obtain ⟨ad,cx,us2,hxv,s1,s2,s3,s4⟩:=hsrc;have hd2:((zD news.length).map fun i=>(n+1+i,[n,es.length+i,0])).map Prod.fst=(zD news.length).map fun i=>n+1+i:=by simp [Function.comp_def]
 have St:=Q50 (g:=⟨g.R,opl p (n+1) g.o,g.ρ⟩) (a:=a) (ev:=ev') (h:=h2) (n:=n) (C:=C) (o:=o) (e:={ v:=.own n 0 (es.length+news.length),del:=[j]++([]++(zD news.length).map fun i=>n+1+i),new:=[(n,.row ty.sz (es++news))],cnt:=1 })
  hev W2 H2 (fun q hq=>by
   have hq':q=(n,.row ty.sz (es++news)):=(by simpa using hq);subst hq';have:=q6 (n,.row 1 (es++news)) (by simp);simp only [h2,if_neg (show n ≠ p by omega),qE,if_true,hsz];exact this) q7 q1 hel hty hbase (qE _) hxv (by rw [hsz];exact s1) (by rw [hsz];exact s2) (by rw [hsz];exact s3) hd2
  (fun j' k hj' hk=>by
   rw [hsz] at hk;have hk0:k=0:=(by omega);subst hk0;intro w' o' hR hky;refine (s4 j' 0 hj' hk).mono [n,es.length+j',0] fun b M hM=>?_;have h3:opl p (n+1) g.o b=some ((n+1+j') :: M):=opl_cell (by simpa using hM);exact hky (n+1+j',[n,es.length+j',0]) (List.mem_map.2 ⟨j',by simpa using hj',rfl⟩) b M h3)
  (by
   simp only [List.nil_append,List.singleton_append,List.nodup_cons,List.mem_cons,List.mem_map,List.mem_range,not_or];refine ⟨⟨by omega,?_⟩,?_,Qah _ _⟩
   ·rintro ⟨i,_,hi⟩;omega
   rintro ⟨i,_,hi⟩;omega)
  (by simpa using hb) (by simpa using hb') (by omega) rfl
 intro K Q kk;refine St.step K Q fun v w' R' o' ρ' r1 r2 r3 r4 r5 r6 r7=>kk v w' R' o' ρ' r1 r2 ?_ r4 r5 (by simpa using r6) r7;refine r3.beyond fun id bk hbk=>?_;have hle:id≤n:=by
  rcases r5 id bk hbk with h3|h3
  ·have:=q4 id bk h3;omega
  have:=h3.2;simp only at this;omega
 simp only [happ,look];have hnm:id ∉ (zD news.length).map fun i=>n+1+i:=by
  simp only [List.mem_map,List.mem_range]
  rintro ⟨i,_,hi⟩
  omega
 by_cases h3:id=j
 ·subst h3;simp
 by_cases h4:id=p
 ·subst h4;simp [h3,hnm,h2]
 simp [h3,h4,hnm,h2,hle]
@[simp] theorem baseME_row {sz id m sz':Nat} {es:List (List AV)}:baseME sz id m (some (.row sz' es))=none:=rfl
@[simp] theorem srcME_row {sz off m sz':Nat} {es:List (List AV)}:srcME sz off m (some (.row sz' es))=none:=rfl
@[simp] theorem appME_no {t:Tyi} {n:Nat} {q:Option (Prop × List (List AV))}:appME t n none q=none:=rfl
end
section
attribute [local simp] Qd QD Qq
mutual
inductive FrA (h:HP) (T:List Nat):AV→AV→Prop
 | ro {a}:a.ro=true→FrA h T a a
 | row {id sz es n}:h id=some (.row sz es)→id∈T→n=es.length→FrA h T (.own id 0 n) (.lst true sz es)
 | lit {id sz es n}:h id=some (.mix sz es)→id∈T→n=es.length→roRows sz es→FrA h T (.own id 0 n) (.lst true sz es)
 | mp {id kd es}:h id=some (.mapE kd es)→id∈T→kd.plain=true→FrA h T (.mp id) (.cmap kd es)
 | adr {id sz cs cs'}:h id=some (.mix sz [cs])→id∈T→cs.length=sz→FrL h T cs cs'→FrA h T (.adr id 0 0) (.rptr cs')
inductive FrL (h:HP) (T:List Nat):List AV→List AV→Prop
 | nil:FrL h T [] []
 | cons {a a' cs cs'}:FrA h T a a'→FrL h T cs cs'→FrL h T (a :: cs) (a' :: cs')
end
def fzd (T:List Nat) (o:Nat→Option (List Nat)):Nat→Option (List Nat):=fun b=>match o b with
 | some (x :: M)=>if x∈T then none else some (x :: M)
 | y=>y
theorem Q5x {T:List Nat} {o:Nat→Option (List Nat)} {b x:Nat} {M:List Nat} (h:o b=some (x :: M)) (hx:x ∉ T):fzd T o b=some (x :: M):=by
 simp only [fzd,h,if_neg hx]
theorem fzd_none {T:List Nat} {o:Nat→Option (List Nat)} {b x:Nat} {M:List Nat} (h:o b=some (x :: M)) (hx:x∈T):fzd T o b=none:=by
 simp [fzd,h,hx]
theorem fzd_some {T:List Nat} {o:Nat→Option (List Nat)} {b:Nat} {L:List Nat} (h:fzd T o b=some L):o b=some L:=by
 unfold fzd at h;split at h
 ·split at h
  ·cases h
  rename_i hb _;rw [hb];exact h
 exact h
def only (id:Nat) (o:Nat→Option (List Nat)):Nat→Option (List Nat):=fun b=>match o b with
 | some (x :: M)=>if x=id then some (x :: M) else none
 | _=>none
theorem only_some {id:Nat} {o:Nat→Option (List Nat)} {b:Nat} {L:List Nat} (h:only id o b=some L):∃ M,o b=some (id :: M):=by
 unfold only at h;split at h
 ·rename_i x M hb
  by_cases hx:x=id
  ·exact ⟨M,by rw [hb,hx]⟩
  simp [hx] at h
 cases h
def RT (g:Gh) (T:List Nat):Nat→Prop:=fun b=>g.R b∨∃ id M,id∈T∧g.o b=some (id :: M)
mutual
theorem FrA.rel {w:World} {g:Gh} {h:HP} {T:List Nat} (H:HRel w g h):∀ {a a':AV} {v:Value},FrA h T a a'→XRel w g.R g.ρ v a→RRel w (RT g T) v a'
 | a,_,v,.ro hr,hv=>(hv.toR hr).mono fun b hb=>⟨.inl hb,rfl⟩
 | _,_,v,.row (id:=id) (sz:=sz) (es:=es) (n:=n) hi hT hn,hv=>by
  rcases hv.own_eq with ⟨sz',cap,e1,e2,_,e4⟩|⟨b,sz',cap,cc,x,e1,e2,e3,e4,e5,e6,e7⟩
  ·rw [e2];have:es=[]:=List.length_eq_zero_iff.1 (by omega);subst this;exact .nil (by simp)
  obtain ⟨v0,t1,t2⟩:=H.row id sz es _ hi e1;have hx0:x=0:=e6 rfl;subst hx0;rw [e2];have t1':RRel w (RT g T) v0 (.lst true sz es):=(t1.mono (R':=g.R) (o':=only id g.o) [id] (fun b M hb=>⟨by
   have h3:g.o b=some (id :: M):=(by simpa using hb);simp [only,h3],rfl⟩)).pure fun b hb=>by
    rcases hb with hb|⟨L,hb⟩
    ·exact .inl hb
    obtain ⟨M,hM⟩:=only_some hb;exact .inr ⟨id,M,hT,hM⟩
  cases t2 with
  | own =>
   cases t1' with
   | nil h1=>subst hn;exact .nil (by omega)
   | lst us q1 q2 q3 q4 q5 q6 q7 q8 =>
    subst hn;exact .lst us q1 q2 (by omega) (by omega) q5 q6 q7 q8
 | _,_,v,.lit (id:=id) (sz:=sz) (es:=es) (n:=n) hi hT hn hr,hv=>by
  rcases hv.own_eq with ⟨sz',cap,e1,e2,_,e4⟩|⟨b,sz',cap,cc,x,e1,e2,e3,e4,e5,e6,e7⟩
  ·rw [e2];have:es=[]:=List.length_eq_zero_iff.1 (by omega);subst this;exact .nil (by simp)
  obtain ⟨b',cur,el,us,cp,p1,p2,p3,p4,p5,p6,p7,p8,p9,p10⟩:=(H.mix id sz es _ hi e1).ex (by simp);simp only [Bk.mk.injEq,qA] at p1;obtain ⟨rfl,rfl,rfl⟩:=p1;have hx0:x=0:=e6 rfl;subst hx0;rw [e2];subst hn;refine .lst us (.inr ⟨id,[],hT,p2⟩) p3 e4 (by omega) p7 (fun i k hi hk=>by rw [Nat.zero_add];exact p8 i k hi hk) p9 fun i k hi hk=>?_;have hm:es.getD i []∈es:=by simp [qB,qF hi]
  have hk':k<(es.getD i []).length:=by rw [(hr _ hm).1];exact hk
  have hro:((es.getD i []).getD k .bot).ro=true:=(hr _ hm).2 _ (by
   generalize es.getD i []=q at hk';simp [qB,qF hk'])
  exact ((p10 i k hi hk).toR hro).mono fun b hb=>⟨.inl hb,rfl⟩
 | _,_,v,.mp (id:=id) (kd:=kd) (es:=es) hi hT hp,hv=>by
  cases hv with
  | r h=>cases h
  | mp e =>
   obtain ⟨b',h1,h2,h3,h4⟩:=(H.map id kd es _ hi e).plain (MK.plain_ne hp);simp only [Bk.mk.injEq,qA] at h1;obtain ⟨rfl,_,_⟩:=h1;exact .cmap (.inr ⟨id,[],hT,h2⟩) h3 h4
 | _,_,v,.adr (id:=id) (sz:=sz) (cs:=cs) (cs':=cs') hi hT hz hl,hv=>by
  cases hv with
  | r h=>cases h
  | @adr _ b sz' cap _ _ e =>
   obtain ⟨b',cur,el,us,cp,p1,p2,p3,p4,p5,p6,p7,p8,p9,p10⟩:=(H.mix id sz [cs] _ hi e).ex (by simp);simp only [Bk.mk.injEq,qA] at p1;obtain ⟨rfl,rfl,rfl⟩:=p1;have hL:=hl.rel H (vs:=us 0) fun k hk=>by
    have:=p10 0 k (by simp) (by omega);simpa using this
   refine .rptr (us 0) (.inr ⟨id,[],hT,p2⟩) p3 (fun k hk=>?_) (fun k hk=>?_) fun k hk=>hL.2 k hk
   ·have:=p8 0 k (by simp) (by rw [← hz,← hL.1];exact hk);simpa using this
   exact p9 0 k (by simp) (by rw [← hz,← hL.1];exact hk)
theorem FrL.rel {w:World} {g:Gh} {h:HP} {T:List Nat} (H:HRel w g h):∀ {cs cs':List AV} {vs:Nat→Value},FrL h T cs cs'→(∀ k,k<cs.length→XRel w g.R g.ρ (vs k) (cs.getD k .bot)) →
  cs'.length=cs.length∧∀ k,k<cs'.length→RRel w (RT g T) (vs k) (cs'.getD k .bot)
 | _,_,vs,.nil,_=>⟨rfl,fun k hk=>by simp at hk⟩
 | _,_,vs,.cons (a:=a) (a':=a') (cs:=cs) (cs':=cs') h1 h2,hv=>by
  have hh:=h1.rel H (v:=vs 0) (hv 0 (by simp));have ht:=h2.rel H (vs:=fun k=>vs (k+1)) fun k hk=>by
   have:=hv (k+1) (by simpa using hk);simpa using this
  refine ⟨by simp [ht.1],fun k hk=>?_⟩;cases k with
  | zero=>exact hh
  | succ k=>simpa using ht.2 k (by simpa using hk)
end
theorem frz_n {α:Type} {p:α→Prop}:∀ x∈([]:List α),p x:=by simp
theorem frz_c {α:Type} {p:α→Prop} {q:α} {l:List α} (h:p q) (t:∀ x∈l,p x):∀ x∈q :: l,p x:=by simpa using ⟨h,t⟩
theorem Wk.frzD {F:Fx} {st st':St} (hW:∀ b,¬ F.C.wrb b) (T:List Nat)
  (hs:∀ q∈st'.s,st.get q.1=q.2∨q.2 = .bot∨FrA st.hp T (st.get q.1) q.2) (hn:st'.n=st.n)
  (hh:∀ q∈st'.h,q.1 ∉ T∧look q.1 st.h=some q.2∧(match q.2 with|.ali _ _ _ _=>False|_=>True)):Wk F st st':=by
 intro a w ⟨R,hX,hr0⟩;obtain ⟨r1,r2,r3,o,ρ,W,H,hx,hρ,hpn⟩:=hr0;have hent:∀ id e,st'.hp id=some e→id ∉ T∧st.hp id=some e∧(match e with|.ali _ _ _ _=>False|_=>True):=fun id e h=>hh (id,e) (Qg h);have hRR:∀ b,R b→RT ⟨R,o,ρ⟩ T b∧w.heap[b]? = w.heap[b]?:=fun b hb=>⟨.inl hb,rfl⟩;refine ⟨RT ⟨R,o,ρ⟩ T,⟨fun b hb=>.inl (hX.1 b hb),fun b hb=>?_⟩,r1,r2,fun id x hx'=>?_,fzd T o,ρ,⟨fun b hb=>?_,fun b L hb=>W.o b L (fzd_some hb),W.os,W.tape,W.output,W.size,W.keep⟩,
  ⟨fun id z xs bk h1 h2=>?_,fun id z xs bk h1 h2=>?_,fun id c i' k' z bk h1 h2=>?_,fun id kd xs bk h1 h2=>?_⟩,fun t=>?_,fun id kk hk'=>?_,fun id hid=>hpn.1 id hid,by rw [hn];exact hpn.2⟩
 ·rcases hb with hb|⟨id,M,hT,hb⟩
  ·exact hX.2 b hb
  rcases (W.o b _ hb).2 with h|h
  ·exact .inr h
  exact absurd h (hW b)
 ·rw [hn];exact r3 _ _ (hent id x hx').2.1
 ·rcases hb with hb|⟨id,M,hT,hb⟩
  ·have h3:o b=none:=(W.R b hb).2;exact ⟨(W.R b hb).1,by simp only [fzd,h3]⟩
  exact ⟨(W.o b _ hb).1,fzd_none hb hT⟩
 ·obtain ⟨q1,q2,_⟩:=hent id _ h1;rcases (H.mix id z xs bk q2 h2).ex0 with h0|⟨b,cur,el,us,cp,p1,p2,p3,p4,p5,p6,p7,p8,p9,p10⟩
  ·exact ⟨.inl h0⟩
  exact .mk' ⟨b,cur,el,us,cp,p1,Q5x p2 q1,p3,p4,p5,p6,p7,p8,p9,fun i k hi hk=>(p10 i k hi hk).mono hRR (fun _ _ h=>h)⟩
 ·obtain ⟨q1,q2,_⟩:=hent id _ h1;obtain ⟨v,t1,t2⟩:=H.row id z xs bk q2 h2;exact ⟨v,t1.mono [id] fun b M hb=>⟨by
   have h3:o b=some (id :: M):=(by simpa using hb);simpa using Q5x h3 q1,rfl⟩,t2⟩
 ·exact (hent id _ h1).2.2.elim
 ·obtain ⟨q1,q2,_⟩:=hent id _ h1;exact (H.map id kd xs bk q2 h2).move hRR fun b M p2=>⟨Q5x p2 q1,rfl⟩
 ·cases hl:look t st'.s with
  | none=>simp only [St.get,hl,Option.getD_none];exact .bot
  | some v =>
   simp only [St.get,hl,qZ];rcases hs _ (Qg hl) with h|h|h
   ·simp only at h;rw [← h];exact (hx t).mono hRR (fun _ _ h=>h)
   ·simp only at h;rw [h];exact .bot
   exact .r (h.rel H (hx t))
 rw [hn];exact hρ id kk hk'
end
end Go.Vc
