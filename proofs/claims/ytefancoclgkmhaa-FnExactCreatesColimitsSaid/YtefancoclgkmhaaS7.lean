/- A part of the proof: a verified generator of conditions, and what each function of the program does. -/
import Derived.Test.YtefancoclgkmhaaS6
import Derived.Scope
set_option maxRecDepth 100000
set_option maxHeartbeats 4000000
set_option linter.unusedSimpArgs false
set_option linter.unusedVariables false

namespace Go.Vc
open Go
section
attribute [local simp] Qf QG Qu
theorem stoX_row {P:Program} {mt:Bool} {fz:List Nat} {all:Array Oper} {t:TypeId} {ty:Tyi} {xv b:AV} {id i k sz:Nat} {es es2:List (List AV)} {ds:List Nat} {dst:Option Nat} {os:List Oper} {st:St} {K:St→Prop} (dels:List Nat) (h1:tyi P t=some ty) (h2:ty.sz=1)
  (he:look id st.h=some (.row sz es)) (hl:layC st.hp xv=some (b,ds)) (hi:i<es.length) (hk:k<sz) (hn:(id :: ds).Nodup) (hlt:∀ y∈ds++dels,y<st.n) (ha:∀ p∈st.h,isAli p.2=true→p.1∈dels)
  (h2':es.set i ((es.getD i []).set k b)=es2)
  (h:runX P mt fz all os (st.app dst { v:=.bot,set:=[(id,.row sz es2)],del:=ds++dels }) K):stoA P mt all t (.adr id i k) xv dst os st K:=by
 subst h2';exact Q9s dels h1 h2 ⟨he,hl,hi,hk,hn,hlt,fun id' _ _ _ _ _ h3=>.inl (ha (id',_) (Qc h3) rfl)⟩ h
def scopeA (AQ:Exit→St→Prop):Exit→St→Prop
 | .goto _,_=>False
 | e,st=>AQ e st
theorem w_scope {P:Program} {F:Fx} {AQ:Exit→St→Prop} {st:St} {c:Code} (h:Wp P F c (scopeA AQ) st):Wp P F (.scope c) AQ st:=by
 intro a w hr;refine wp_scope_straight (wp_mono (h a w hr) fun e a w he=>?_);obtain ⟨st',h1,h2⟩:=he;cases e with
 | goto l=>exact h2.elim
 | _=>exact ⟨st',h1,h2⟩
theorem w_label {P:Program} {F:Fx} {AQ:Exit→St→Prop} {st:St} {l:Nat} (h:AQ .normal st):Wp P F (.label l) AQ st:=fun _ _ hr=>wp_label ⟨st,hr,h⟩
theorem pcr {AQ:Exit→St→Prop} {st:St} (h:AQ .ret st):scopeA AQ .ret st:=h
end
section
attribute [local simp] Qf QG Qu
def Q3C:Ent→Bool
 | .ali _ _ _ _=>false
 | _=>true
def rlE' (m:List (Nat × Nat)) (x:Ent):Ent:=(rlE m x).getD x
@[simp] theorem rlE'_mix {m:List (Nat × Nat)} {sz:Nat} {es:List (List AV)}:rlE' m (.mix sz es) = .mix sz (rlLL m es):=rfl
@[simp] theorem rlE'_row {m:List (Nat × Nat)} {sz:Nat} {es:List (List AV)}:rlE' m (.row sz es) = .row sz es:=rfl
@[simp] theorem rlE'_map {m:List (Nat × Nat)} {kd:MK} {es:List (Value × Value)}:rlE' m (.mapE kd es) = .mapE kd es:=rfl
end
section
attribute [local simp] Qf QG Qu
theorem Contract.toF1 {P:Program} {f:Nat} {args:List AV} {u:Bool} {sz:Nat} {es:List (List AV)} (hc:Contract P f args (.lst u sz es)):FContract P false f args (.lst u sz es):=by
 refine ⟨hc.enters,fun w R vals hR hsz hx=>?_⟩;refine (hc.calls w R vals hR hsz hx).mono fun e w' ⟨v,o,he,hb,ho,hres⟩=>?_;refine ⟨v,fun b=>∃ L,o b=some L,he,hb,fun b ⟨L,hL⟩=>⟨(ho b L hL).2,.inr (ho b L hL).1⟩,?_⟩;have h1:one v:=hres.sh;have h:=hres.cell 0 (by simp [flat,AV.cells]);have e1:(Q26 v).getD 0 undef=v:=by
  revert h1
  unfold one Value.oneCell' Q26;cases v<;>simp [Value.cells]
 rw [e1] at h;exact .r (h.pure fun b hb=>hb.resolve_left id)
end
section
attribute [local simp] Qf QG Qu
def mxt (m:List (Nat × Nat)) (n0 n cnt:Nat):List (Nat × Nat):=m++(List.range cnt).map fun i=>(n0+i,n+i)
theorem ICon.frame {P:Program} {f:Nat} {as0 az:List AV} {H0:List (Nat × Ent)} {n0:Nat} {e0 e:Eff} {h:HP} {n:Nat} (hc:ICon P f as0 (fun id=>look id H0) n0 e0) (m:List (Nat × Nat))
  (hm1:m.map Prod.fst=List.range n0) (hm2:(m.map Prod.snd).Nodup) (hm3:∀ p∈m,p.2<n) (hH0:∀ p∈H0,p.1<n0)
  (hpre:∀ p∈m,∃ x y,look p.1 H0=some x∧h p.2=some y∧rlE (back m) y=some x∧rlE (mxt m n0 n e0.cnt) x=some y) (has:as0=rlL (back m) az) (hali:∀ id,id<n→∀ c i k sz,h id ≠ some (.ali c i k sz))
  (hcnt:e.cnt=e0.cnt) (hv:e.v=rl (mxt m n0 n e0.cnt) e0.v) (hset:∀ i j,look i m=some j→look j e.set=(look i e0.set).map (rlE' (mxt m n0 n e0.cnt))) (hset2:∀ j,(∀ i,look i m ≠ some j)→look j e.set=none)
  (hdel:∀ i j,look i m=some j→(j∈e.del↔i∈e0.del)) (hdel2:∀ j,(∀ i,look i m ≠ some j)→¬ j∈e.del) (hna:(∀ p∈e0.set,Q3C p.2=true)∧∀ p∈e0.new,Q3C p.2=true)
  (hcomp:∀ i,i<e0.cnt→∃ x,look (n0+i) e0.new=some x∧(n+i,rlE' (mxt m n0 n e0.cnt) x)∈e.new) (hfine:e.fine n):ICon P f az h n e:=by
 refine ⟨hc.enters,fun _=>hfine,fun C w g h' vals hag hnw hlim W H hsz hargs=>?_⟩;have hf0:=hc.fine (fun id x hx=>hH0 _ (Qc hx));generalize hmx:mxt m n0 n e0.cnt=mx at *;have hm1n:(m.map Prod.fst).Nodup:=by rw [hm1];exact List.nodup_range
 have hb2:((back m).map Prod.snd).Nodup:=by
  have:(back m).map Prod.snd=m.map Prod.fst:=by simp [back,Function.comp_def]
  rw [this];exact hm1n
 have hb1:((back m).map Prod.fst).Nodup:=by
  have:(back m).map Prod.fst=m.map Prod.snd:=by simp [back,Function.comp_def]
  rw [this];exact hm2
 have hml:∀ i,i<n0→∃ j,look i m=some j:=by
  intro i hi;have:i∈m.map Prod.fst:=by rw [hm1];simpa using hi
  obtain ⟨p,hp,rfl⟩:=List.mem_map.1 this;exact ⟨p.2,QM hm1n hp⟩
 have hmlt:∀ i j,look i m=some j→i<n0∧j<n:=by
  intro i j hij;have hp:=Qc hij;refine ⟨?_,hm3 _ hp⟩;have:i∈m.map Prod.fst:=List.mem_map.2 ⟨_,hp,rfl⟩;rw [hm1] at this;simpa using this
 have hxl:∀ i,look i mx=match look i m with|some j=>some j|none=>if n0≤i∧i<n0+e0.cnt then some (n+(i - n0)) else none:=by
  intro i;rw [← hmx];unfold mxt;have hr:∀ (k s:Nat),look i ((List.range' s k).map fun q=>(n0+q,n+q))=if n0+s≤i∧i<n0+(s+k) then some (n+(i - n0)) else none:=by
   intro k
   induction k with
   | zero=>intro s;simp [look]
   | succ k ih =>
    intro s;rw [List.range'_succ];simp only [List.map_cons,look]
    by_cases hq:n0+s=i
    ·subst hq;simp
    rw [if_neg (by simpa using hq),ih (s+1)]
    by_cases hz:n0+(s+1)≤i∧i<n0+(s+1+k)
    ·rw [if_pos hz,if_pos (by omega)]
    rw [if_neg hz,if_neg (by omega)]
  have happd:∀ (a b:List (Nat × Nat)),look i (a++b)=match look i a with|some j=>some j|none=>look i b:=by
   intro a b
   induction a with
   | nil=>simp [look]
   | cons p r ih =>
    simp only [List.cons_append,look]
    by_cases hq:p.1=i
    ·simp [hq]
    simp only [hq,if_false,ih]
  rw [happd,List.range_eq_range',hr];simp
 have hx1:∀ i id,look i mx=some id→(look i m=some id∧i<n0∧id<n)∨(n0≤i∧i<n0+e0.cnt∧id=n+(i - n0)):=by
  intro i id hi;rw [hxl] at hi;cases hl:look i m with
  | some j =>
   rw [hl] at hi;simp only [Option.some.injEq] at hi;subst hi;exact .inl ⟨rfl,(hmlt i j hl).1,(hmlt i j hl).2⟩
  | none =>
   rw [hl] at hi;simp only at hi;split at hi
   ·rename_i hq;simp only [Option.some.injEq] at hi;exact .inr ⟨hq.1,hq.2,hi.symm⟩
   cases hi
 have hxm:∀ i j,look i m=some j→look i mx=some j:=by intro i j hij;rw [hxl,hij]
 have hx1n:(mx.map Prod.fst).Nodup:=by
  have:mx.map Prod.fst=List.range (n0+e0.cnt):=by rw [← hmx];simp [mxt,hm1,Function.comp_def,List.range_add]
  rw [this];exact List.nodup_range
 have hx2n:(mx.map Prod.snd).Nodup:=by
  have:mx.map Prod.snd=m.map Prod.snd++(List.range e0.cnt).map (n + ·):=by rw [← hmx];simp [mxt,Function.comp_def]
  rw [this,List.nodup_append];refine ⟨hm2,List.Pairwise.map (R:=fun a b=>a ≠ b) _ (fun a b h e=>h (by omega)) List.nodup_range,?_⟩;intro a ha b hb e;obtain ⟨p,hp,rfl⟩:=List.mem_map.1 ha;obtain ⟨q,_,rfl⟩:=List.mem_map.1 hb;have:=hm3 p hp;omega
 have ho0:∀ b L,rlo (back m) g.o b=some L→∃ M,g.o b=some M:=by
  intro b L hb;simp only [rlo] at hb;split at hb
  ·rename_i hq;exact ⟨_,hq⟩
  cases hb
 let C0:Ctx:=⟨w,fun b=>∃ L,rlo (back m) g.o b=some L,fun _=>none,0⟩
 let g0:Gh:=⟨g.R,rlo (back m) g.o,rlρ (back m) g.ρ⟩
 let h0':HP:=fun id=>if id<n0 then look id H0 else look id e0.new
 have W0:WF C0 w g0:=by
  refine ⟨fun b hb=>⟨(W.R b hb).1,?_⟩,fun b L hb=>?_,rfl,rfl,rfl,Nat.le_refl _,fun b _ _=>rfl⟩
  ·show rlo (back m) g.o b=none;simp only [rlo,(W.R b hb).2]
  obtain ⟨M,hM⟩:=ho0 b L hb;exact ⟨(W.o b M hM).1,.inr ⟨L,hb⟩⟩
 have hρb:∀ i k,rlρ (back m) g.ρ i=some k→∃ j,look i m=some j∧g.ρ j=some k:=by
  intro i k hk;simp only [rlρ] at hk;split at hk
  ·rename_i j hj;exact ⟨j,Q2z hm1n (Q2z hb1 hj),hk⟩
  cases hk
 have hρb2:∀ i j,look i m=some j→rlρ (back m) g.ρ i=g.ρ j:=by
  intro i j hij;have:=Q1C hb2 (Q1C hm2 hij);simp only [rlρ,this]
 have H00:HRel w g0 h0':=by
  have q:HRel w g0 (fun id=>look id H0):=by
   refine HRel.relabel (w:=w) (R:=g.R) (o:=g.o) (ρ:=g.ρ) H (back m) hb2 fun i x hx=>?_;obtain ⟨j,hij⟩:=hml i (hH0 _ (Qc hx));obtain ⟨x',y,z1,z2,z3,_⟩:=hpre _ (Qc hij);simp only at z1 z2;rw [hx] at z1;cases z1;exact ⟨j,y,Q1C hm2 hij,by rw [hag j (hmlt i j hij).2];exact z2,z3⟩
  refine q.grow fun i k hk=>?_;obtain ⟨j,hij,_⟩:=hρb i k hk;exact if_pos (hmlt i j hij).1
 have hsz0:vals.size=as0.length:=by rw [has,Qz];exact hsz
 have hargs0:∀ k,k<as0.length→XRel w g0.R g0.ρ (vals.getD k undef) (as0.getD k .bot):=fun k hk=>by
  rw [has,Qz] at hk;rw [has,Q2d];exact Q8M hb2 (hargs k hk)
 refine (hc.calls C0 w g0 h0' vals (fun i hi=>if_pos hi) (fun p hp=>?_) (fun i k hk=>?_) W0 H00 hsz0 hargs0).mono fun ex w' ⟨v,R',o1,ρ1,q0,q1,q2,q3,q4,q5,q6,q7⟩=>?_
 ·have:=(hf0.new p hp).1;show (if p.1<n0 then look p.1 H0 else look p.1 e0.new)=some p.2;rw [if_neg (by omega)];exact QM hf0.nodup hp
 ·obtain ⟨j,hij,_⟩:=hρb i k hk;exact (hmlt i j hij).1
 have q1':RX g.R R' w.heap.size:=q1;have hwR:∀ b L,g.o b=some L→b<w.heap.size:=fun b L hb=>(W.o b L hb).1;have hRo:∀ b L,g.o b=some L→¬ R' b:=by
  intro b L hb hR;rcases q1'.2 b hR with h1|h1
  ·have:=(W.R b h1).2;rw [hb] at this;cases this
  have:=hwR b L hb;omega
 have hkeep:∀ b,b<w.heap.size→rlo (back m) g.o b=none→w'.heap[b]? = w.heap[b]?∧o1 b=none:=by
  intro b hb ho;have hn:¬ C0.wrb b:=by rintro ⟨L,hL⟩;rw [ho] at hL;cases hL
  refine ⟨q2.keep b hb hn,?_⟩;cases hq:o1 b with
  | none=>rfl
  | some L =>
   rcases (q2.o b L hq).2 with h1|h1
   ·have:w.heap.size≤b:=h1;omega
   exact absurd h1 hn
 haveI:∀ b,Decidable ((∃ L,rlo (back m) g.o b=some L)∨R' b):=fun b=>Classical.propDecidable _
 let o2:Nat→Option (List Nat):=fun b=>match rlo mx o1 b with
  | some L=>some L
  | none=>if (∃ L,rlo (back m) g.o b=some L)∨R' b then none else g.o b
 let ρ2:Nat→Option Bk:=fun id=>match g.ρ id with|some k=>some k|none=>rlρ mx ρ1 id
 have hρ2:∀ id k,g.ρ id=some k→ρ2 id=some k:=fun id k hk=>by simp only [ρ2,hk]
 have ho2:∀ b L,rlo mx o1 b=some L→o2 b=some L:=fun b L hb=>by simp only [o2,hb]
 have hρx:∀ i id,look i mx=some id→rlρ mx ρ1 id=ρ1 i:=fun i id hi=>by simp only [rlρ,Q1C hx2n hi]
 have hρx2:∀ id k,rlρ mx ρ1 id=some k→∃ i,look i mx=some id∧ρ1 i=some k:=by
  intro id k hk;simp only [rlρ] at hk;split at hk
  ·rename_i i hi;exact ⟨i,Q2z hx1n hi,hk⟩
  cases hk
 have hgx:∀ i id k,look i mx=some id→g.ρ id=some k→ρ1 i=some k:=by
  intro i id k hi hk;rcases hx1 i id hi with ⟨h1,_,_⟩|⟨h1,_,h3⟩
  ·exact q4 i k (by show rlρ (back m) g.ρ i=some k;rw [hρb2 i id h1];exact hk)
  have:=hlim id k hk;omega
 have hρ3:∀ id k,rlρ mx ρ1 id=some k→ρ2 id=some k:=by
  intro id k hk;cases hg:g.ρ id with
  | none=>simp only [ρ2,hg];exact hk
  | some k2 =>
   obtain ⟨i,hi,h1⟩:=hρx2 id k hk;have:=hgx i id k2 hi hg;rw [h1] at this;cases this;exact hρ2 id _ hg
 have hρ4:∀ i id k,look i mx=some id→ρ2 id=some k→rlρ mx ρ1 id=some k:=by
  intro i id k hi hk;cases hg:g.ρ id with
  | none=>simpa only [ρ2,hg] using hk
  | some k2 =>
   have e1:ρ2 id=some k2:=hρ2 id _ hg;rw [hk] at e1;cases e1;rw [hρx i id hi];exact hgx i id _ hi hg
 have hX:∀ v a,XRel w' R' ρ1 v a→XRel w' R' ρ2 v (rl mx a):=fun v a hx=>(Q8M hx2n hx).mono (fun b hb=>⟨hb,rfl⟩) hρ3
 let hF:HP:=fun id=>match look id (back mx) with|some i=>(happ e0 h0' i).bind (rlE mx)|none=>none
 have HF:HRel w' ⟨R',rlo mx o1,rlρ mx ρ1⟩ hF:=by
  refine HRel.relabel (w:=w') (R:=R') (o:=o1) (ρ:=ρ1) q3 mx hx2n fun id x hx=>?_;simp only [hF] at hx;split at hx
  ·rename_i i hi;obtain ⟨y,h1,h2⟩:=Option.bind_eq_some_iff.1 hx;exact ⟨i,y,Q2z hx1n hi,h1,h2⟩
  cases hx
 have hno:∀ id x k,hF id=some x→rlρ mx ρ1 id=none→ρ2 id=some k→False:=by
  intro id x k hx h1 h2;simp only [hF] at hx;split at hx
  ·rename_i i hi;rw [hρ4 i id k (Q2z hx1n hi) h2] at h1;cases h1
  cases hx
 have HF2:HRel w' ⟨R',o2,ρ2⟩ hF:=HF.mono (fun _ _=>rfl) (fun b L hb=>⟨ho2 b L hb,rfl⟩) hρ3 (fun id sz es bk h1 h2 h3=>(hno id _ bk h1 h2 h3).elim) (fun id sz es bk h1 h2 h3=>(hno id _ bk h1 h2 h3).elim)
  (fun id c i k sz bk h1 h2 h3=>(hno id _ bk h1 h2 h3).elim) (fun id kd es bk h1 h2 h3=>(hno id _ bk h1 h2 h3).elim)
 have hE:∀ x,Q3C x=true→rlE mx x=some (rlE' mx x):=by
  intro x hx;cases x with
  | ali=>cases hx
  | _=>rfl
 have hT:∀ i id,look i mx=some id→happ e h' id=(happ e0 h0' i).bind (rlE mx):=by
  intro i id hi;rcases hx1 i id hi with ⟨h1,h2,h3⟩|⟨h1,h2,h3⟩
  ·simp only [happ,hset i id h1];cases hs:look i e0.set with
   | some x=>simp only [Option.map_some,Option.bind_some];exact (hE x (hna.1 _ (Qc hs))).symm
   | none =>
    simp only [Option.map_none]
    by_cases hd:i∈e0.del
    ·rw [if_pos ((hdel i id h1).2 hd),if_pos hd];rfl
    rw [if_neg (fun q=>hd ((hdel i id h1).1 q)),if_neg hd];obtain ⟨x,y,z1,z2,_,z4⟩:=hpre _ (Qc h1);simp only at z1 z2;have:h0' i=some x:=(by show (if i<n0 then look i H0 else look i e0.new)=some x;rw [if_pos h2];exact z1);rw [hag id h3,z2,this];exact z4.symm
  have hs:look id e.set=none:=hset2 id fun i' hi'=>by have:=(hmlt i' id hi').2;omega
  have hd:¬ id∈e.del:=hdel2 id fun i' hi'=>by have:=(hmlt i' id hi').2;omega
  have hs0:look i e0.set=none:=by
   cases hq:look i e0.set with
   | none=>rfl
   | some x=>have:=hf0.sets.2 _ (Qc hq);simp only at this;omega
  have hd0:¬ i∈e0.del:=fun q=>by have:=hf0.del i q;omega
  simp only [happ,hs,hs0];rw [if_neg hd,if_neg hd0];obtain ⟨x,z1,z2⟩:=hcomp (i - n0) (by omega);rw [show n0+(i - n0)=i by omega] at z1;have e1:h0' i=some x:=by show (if i<n0 then look i H0 else look i e0.new)=some x;rw [if_neg (by omega)];exact z1
  rw [← h3] at z2;rw [hnw _ z2,e1];exact (hE x (hna.2 _ (Qc z1))).symm
 have hI:∀ id,look id (back mx)=none→(look id (back m)=none)∧(id<n→happ e h' id=h' id)∧rlρ mx ρ1 id=none:=by
  intro id hid;have h1:∀ i,look i m ≠ some id:=fun i hi=>by
   have:=Q1C hx2n (hxm i id hi);rw [hid] at this;cases this
  refine ⟨?_,fun _=>?_,by simp only [rlρ,hid]⟩
  ·cases hq:look id (back m) with
   | none=>rfl
   | some i=>exact absurd (Q2z hm1n hq) (h1 i)
  simp only [happ,hset2 id h1];rw [if_neg (hdel2 id h1)]
 have hirr:∀ id b M,look id (back m)=none→g.o b=some (id :: M)→o2 b=some (id :: M)∧w'.heap[b]? = w.heap[b]?:=by
  intro id b M hid hb;have h0:rlo (back m) g.o b=none:=by simp only [rlo,hb,hid]
  obtain ⟨k1,k2⟩:=hkeep b (hwR b _ hb) h0;refine ⟨?_,k1⟩;have h1:rlo mx o1 b=none:=by simp only [rlo,k2]
  simp only [o2,h1];rw [if_neg]
  ·exact hb
  rintro (⟨L,hL⟩|hR)
  ·rw [h0] at hL;cases hL
  exact hRo b _ hb hR
 have hXi:∀ v a,XRel w g.R g.ρ v a→XRel w' R' ρ2 v a:=fun v a hx=>hx.mono (fun b hb=>⟨q1'.1 b hb,q7 b hb⟩) hρ2;have hsplit:∀ id x k,happ e h' id=some x→ρ2 id=some k→hF id=some x∨(look id (back m)=none∧id<n∧h' id=some x∧g.ρ id=some k):=by
  intro id x k hx hk;cases hl:look id (back mx) with
  | some i =>
   left;simp only [hF,hl];rw [← hT i id (Q2z hx1n hl)];exact hx
  | none =>
   right;obtain ⟨i1,i2,i3⟩:=hI id hl;have hg:g.ρ id=some k:=by
    cases hg:g.ρ id with
    | none=>simp only [ρ2,hg,i3] at hk;cases hk
    | some k2=>have:=hρ2 id _ hg;rw [hk] at this;exact this.symm
   have hlt:=hlim id k hg;exact ⟨i1,hlt,by rw [← i2 hlt];exact hx,hg⟩
 refine ⟨v,R',o2,ρ2,q0,⟨q1'.1,fun b hb=>(q1'.2 b hb).imp id (Nat.le_trans W.size)⟩,⟨fun b hb=>⟨(q2.R b hb).1,?_⟩,fun b L hb=>?_,q2.os.trans W.os,q2.tape.trans W.tape,q2.output.trans W.output,Nat.le_trans W.size q2.size,fun b hb hw=>?_⟩,
  ⟨fun id sz es bk he hb=>?_,fun id sz es bk he hb=>?_,fun id c i k sz bk he hb=>?_,fun id kd es bk he hb=>?_⟩,hρ2,fun id k hk=>?_,by rw [hv];exact hX _ _ q6,q7⟩
 ·have h1:o1 b=none:=(q2.R b hb).2;show o2 b=none;have h2:rlo mx o1 b=none:=by simp only [rlo,h1]
  simp only [o2,h2];rw [if_pos (.inr hb)]
 ·have hb':o2 b=some L:=hb;cases hq:rlo mx o1 b with
  | some M =>
   have:∃ L1,o1 b=some L1:=by
    simp only [rlo] at hq;split at hq
    ·rename_i h3;exact ⟨_,h3⟩
    cases hq
   obtain ⟨L1,h1⟩:=this;obtain ⟨k1,k2⟩:=q2.o b L1 h1;refine ⟨k1,?_⟩;rcases k2 with k2|⟨L2,k2⟩
   ·exact .inl (Nat.le_trans W.size k2)
   obtain ⟨M2,h3⟩:=ho0 b L2 k2;exact (W.o b M2 h3).2
  | none =>
   simp only [o2,hq] at hb';split at hb'
   ·cases hb'
   exact ⟨Nat.lt_of_lt_of_le (hwR b L hb') q2.size,(W.o b L hb').2⟩
 ·have h1:b<w.heap.size:=Nat.lt_of_lt_of_le hb W.size;have h2:rlo (back m) g.o b=none:=by
   cases hq:rlo (back m) g.o b with
   | none=>rfl
   | some L =>
    obtain ⟨M,hM⟩:=ho0 b L hq;rcases (W.o b M hM).2 with h3|h3
    ·omega
    exact absurd h3 hw
  exact (hkeep b h1 h2).1.trans (W.keep b hb hw)
 ·rcases hsplit id _ bk he hb with h1|⟨h1,_,h3,h4⟩
  ·exact HF2.mix id sz es bk h1 hb
  rcases (H.mix id sz es bk h3 h4).ex0 with h0|⟨b,cur,el,us,cpm,p1,p2,p3,p4,p5,p5',p6,p7,p8,p9⟩
  ·exact ⟨.inl h0⟩
  obtain ⟨k1,k2⟩:=hirr id b [] h1 p2;exact .mk' ⟨b,cur,el,us,cpm,p1,k1,k2.trans p3,p4,p5,p5',p6,p7,p8,fun j l hj hl=>hXi _ _ (p9 j l hj hl)⟩
 ·rcases hsplit id _ bk he hb with h1|⟨h1,_,h3,h4⟩
  ·exact HF2.row id sz es bk h1 hb
  obtain ⟨v,hv,hh⟩:=H.row id sz es bk h3 h4;exact ⟨v,hv.mono (R':=R') [id] fun b M hbo=>hirr id b M h1 hbo,hh⟩
 ·rcases hsplit id _ bk he hb with h1|⟨h1,h2,h3,h4⟩
  ·exfalso;simp only [hF] at h1;split at h1
   ·rename_i i0 hi0;obtain ⟨y,h5,h6⟩:=Option.bind_eq_some_iff.1 h1;have hy:Q3C y=true:=by
     have hi:=Q2z hx1n hi0;simp only [happ] at h5;split at h5
     ·rename_i z hz;simp only [Option.some.injEq] at h5;subst h5;exact hna.1 _ (Qc hz)
     split at h5
     ·cases h5
     have h5':(if i0<n0 then look i0 H0 else look i0 e0.new)=some y:=h5;split at h5'
     ·rename_i hlt;obtain ⟨j,hij⟩:=hml i0 hlt;obtain ⟨x,y',z1,z2,z3,z4⟩:=hpre _ (Qc hij);simp only at z1 z2;rw [h5'] at z1;cases z1;cases y with
      | ali c2 i2 k2 s2 =>
       exfalso;cases y' with
       | ali c3 i3 k3 s3=>exact hali j (hmlt i0 j hij).2 _ _ _ _ z2
       | mix=>simp [rlE] at z3
       | row=>simp [rlE] at z3
       | mapE=>simp [rlE] at z3
      | _=>rfl
     exact hna.2 _ (Qc h5')
    rw [hE y hy] at h6;cases y with
    | ali=>cases hy
    | mix=>simp [rlE',rlE] at h6
    | row=>simp [rlE',rlE] at h6
    | mapE=>simp [rlE',rlE] at h6
   cases h1
  rw [hag id h2] at h3;exact absurd h3 (hali id h2 _ _ _ _)
 ·rcases hsplit id _ bk he hb with h1|⟨h1,_,h3,h4⟩
  ·exact HF2.map id kd es bk h1 hb
  exact (H.map id kd es bk h3 h4).move (fun b hb=>⟨q1'.1 b hb,q7 b hb⟩) fun b M p2=>hirr id b M h1 p2
 cases hg:g.ρ id with
 | some k2=>have:=hρ2 id _ hg;rw [hk] at this;exact .inl this.symm
 | none =>
  right;simp only [ρ2,hg] at hk;obtain ⟨i,hi,h1⟩:=hρx2 id k hk;rcases q5 i k h1 with h2|h2
  ·obtain ⟨j,hij,h3⟩:=hρb i k h2;have:=hxm i j hij;rw [hi] at this;cases this;rw [hg] at h3;cases h3
  rcases hx1 i id hi with ⟨_,h4,_⟩|⟨_,h4,h5⟩
  ·omega
  rw [hcnt];omega
def trm (m:List (Nat × Nat)) (i:Nat):Nat:=(look i m).getD 0
theorem ICon.frameL {P:Program} {f:Nat} {as0 az:List AV} {H0 H:List (Nat × Ent)} {n0:Nat} {e0 e:Eff} {n:Nat} (hc:ICon P f as0 (fun id=>look id H0) n0 e0) (m:List (Nat × Nat)) (hm1:m.map Prod.fst=List.range n0) (hm2:(m.map Prod.snd).Nodup∧(∀ p∈m,p.2<n)∧(∀ p∈H0,p.1<n0))
  (hpre:∀ p∈m,(look p.1 H0).isSome=true∧(look p.2 H).bind (rlE (back m))=look p.1 H0∧(look p.1 H0).bind (rlE (mxt m n0 n e0.cnt))=look p.2 H) (has:as0=rlL (back m) az) (hali:∀ p∈H,Q3C p.2=true)
  (hcnt:e.cnt=e0.cnt) (hv:e.v=rl (mxt m n0 n e0.cnt) e0.v) (hset:e.set=e0.set.map fun p=>(trm m p.1,rlE' (mxt m n0 n e0.cnt) p.2)) (hdel:e.del=e0.del.map (trm m)) (hnew:e.new=e0.new.map fun p=>(n+(p.1 - n0),rlE' (mxt m n0 n e0.cnt) p.2))
  (hna:(∀ p∈e0.set,Q3C p.2=true)∧∀ p∈e0.new,Q3C p.2=true) (hcomp:newB n0 e0.cnt (e0.new.map Prod.fst)=true) (hfine:e.fine n):ICon P f az (fun id=>look id H) n e:=by
 have hf0:=hc.fine (fun id x hx=>hm2.2.2 _ (Qc hx));have hm1n:(m.map Prod.fst).Nodup:=by rw [hm1];exact List.nodup_range
 have hin:∀ i,i<n0→∃ j,look i m=some j:=by
  intro i hi;have:i∈m.map Prod.fst:=by rw [hm1];simpa using hi
  obtain ⟨p,hp,rfl⟩:=List.mem_map.1 this;exact ⟨p.2,QM hm1n hp⟩
 have hlt:∀ i j,look i m=some j→i<n0:=by
  intro i j hij;have:i∈m.map Prod.fst:=List.mem_map.2 ⟨_,Qc hij,rfl⟩;rw [hm1] at this;simpa using this
 have tr:∀ i j,look i m=some j→trm m i=j:=fun i j h=>by simp [trm,h]
 have inj:∀ i i' j,look i m=some j→i' < n0→trm m i'=j→i'=i:=by
  intro i i' j hij hi' h;obtain ⟨j',hj'⟩:=hin i' hi';have:=tr i' j' hj';rw [h] at this;subst this;exact Q6v hm2.1 hj' hij
 have lm:∀ (l:List (Nat × Ent)) (F:Ent→Ent) (i j:Nat),look i m=some j→(∀ p∈l,p.1<n0)→look j (l.map fun p=>(trm m p.1,F p.2))=(look i l).map F:=by
  intro l F i j hij
  induction l with
  | nil=>intro _;rfl
  | cons p r ih =>
   intro hl;simp only [List.map_cons,look]
   by_cases hq:p.1=i
   ·rw [if_pos hq,if_pos (by rw [hq];exact tr i j hij)];rfl
   rw [if_neg hq,if_neg (fun h=>hq (inj i p.1 j hij (hl p (by simp)) h))];exact ih fun q hq'=>hl q (by simp [hq'])
 refine ICon.frame hc m hm1 hm2.1 hm2.2.1 hm2.2.2 (fun p hp=>?_) has (fun id hid c i k sz he=>?_) hcnt hv (fun i j hij=>?_) (fun j hj=>?_) (fun i j hij=>?_) (fun j hj hd=>?_) hna (fun i hi=>?_) hfine
 ·obtain ⟨z1,z2,z3⟩:=hpre p hp;obtain ⟨x,hx⟩:=Option.isSome_iff_exists.1 z1;rw [hx] at z2 z3;obtain ⟨y,hy,hyx⟩:=Option.bind_eq_some_iff.1 z2;exact ⟨x,y,hx,hy,hyx,by rw [← hy,← z3];rfl⟩
 ·have:=hali _ (Qc he);cases this
 ·rw [hset];exact lm e0.set _ i j hij hf0.sets.2
 ·rw [hset];cases hq:look j (e0.set.map fun p=>(trm m p.1,rlE' (mxt m n0 n e0.cnt) p.2)) with
  | none=>rfl
  | some x =>
   exfalso;obtain ⟨p,hp,he⟩:=List.mem_map.1 (Qc hq);simp only [Prod.mk.injEq] at he;obtain ⟨j',hj'⟩:=hin p.1 (hf0.sets.2 p hp);rw [tr _ _ hj'] at he;exact hj p.1 (by rw [hj',he.1])
 ·rw [hdel,List.mem_map];constructor
  ·rintro ⟨i',hi',h⟩
   have:=inj i i' j hij (hf0.del i' hi') h;subst this;exact hi'
  intro h;exact ⟨i,h,tr i j hij⟩
 ·rw [hdel,List.mem_map] at hd;obtain ⟨i',hi',h⟩:=hd;obtain ⟨j',hj'⟩:=hin i' (hf0.del i' hi');rw [tr _ _ hj'] at h;exact hj i' (by rw [hj',h])
 have:=newI (n:=n0) (e:=e0) hcomp (n0+i) (by omega) (by omega);obtain ⟨p,hp,he⟩:=List.mem_map.1 this;refine ⟨p.2,by rw [← he];exact QM hf0.nodup hp,?_⟩;rw [hnew];refine List.mem_map.2 ⟨p,hp,?_⟩;rw [show p.1 - n0=i by omega]
def pinsM (n:Nat) (m:List (Nat × Nat)):Bool:=m.all fun p=>if p.2<n then p.1=p.2 else true
theorem Wk.rQ {F:Fx} {st st':St} (n:Nat) (m:List (Nat × Nat)) (hP:F.pins=n) (hpin:pinsM n m=true)
  (h:n≤st'.n∧(m.map Prod.fst).Nodup∧(m.map Prod.snd).Nodup∧(∀ p∈m,p.2<st'.n)∧(∀ p∈st'.h,p.1<st'.n)∧(∀ p∈st'.s,p.2=rl m (st.get p.1)∨p.2 = .bot)∧∀ p∈st'.h,hhOk m st.h p.1 p.2):Wk F st st':=by
 obtain ⟨h0,h1,h2,hn,hok,hs,hh⟩:=h;refine Wk.relabelP m h1 h2 (fun p hp hlt=>?_) (by rw [hP];exact h0) hn hok hs fun p hp=>?_
 ·have:=List.all_eq_true.1 hpin p hp;rw [hP] at hlt;simpa [hlt] using this
 have:=hh p hp;unfold hhOk at this;obtain ⟨e,he,hr⟩:=Option.bind_eq_some_iff.1 this;obtain ⟨i,hi,hl⟩:=Option.bind_eq_some_iff.1 he;exact ⟨i,e,Q2z h1 hi,hl,hr⟩
inductive PreL:List AV→List AV→Prop
 | nil:PreL [] []
 | eq {a az bs}:PreL az bs→PreL (a :: az) (a :: bs)
 | pre {xs cs az bs}:xs.take cs.length=cs→PreL az bs→PreL (.rptr xs :: az) (.rptr cs :: bs)
theorem PreL.at {az bs:List AV} (h:PreL az bs):az.length=bs.length∧∀ k,k<az.length→∀ {w:World} {R:Nat→Prop} {ρ:Nat→Option Bk} {v:Value},XRel w R ρ v (az.getD k .bot)→XRel w R ρ v (bs.getD k .bot):=by
 induction h with
 | nil=>exact ⟨rfl,fun k hk=>by simp at hk⟩
 | eq _ ih =>
  refine ⟨by simp [ih.1],fun k hk=>?_⟩;cases k with
  | zero=>intro w R ρ v hx;exact hx
  | succ k=>intro w R ρ v hx;exact ih.2 k (by simpa using hk) hx
 | @pre xs cs az bs e _ ih =>
  refine ⟨by simp [ih.1],fun k hk=>?_⟩;cases k with
  | succ k=>intro w R ρ v hx;exact ih.2 k (by simpa using hk) hx
  | zero =>
   intro w R ρ v hx;have hx':XRel w R ρ v (.rptr xs):=hx;obtain ⟨b,x,cur,el,fr,us,h1,h2,h3,h4,h5,h6⟩:=hx'.rptr_eq;have hl:cs.length≤xs.length:=by
    have:=congrArg List.length e;simp at this;omega
   subst h1;show XRel w R ρ _ (.rptr cs);refine .r (.rptr us h2 h3 (fun k hk=>h4 k (by omega)) (fun k hk=>h5 k (by omega)) fun k hk=>?_);have:=h6 k (by omega);have e2:cs.getD k .bot=xs.getD k .bot:=by
    rw [← e];simp [List.getD_eq_getElem?_getD,hk]
   rw [e2];exact this
end
section
attribute [local simp] Qf QG Qu
structure RetFG (P:Program) (rvs:List ResultVar) (st:St) (rs:List AV):Prop where
 ex:∃ az,RGet P st rvs az∧PurL st.hp az rs
theorem RetFG.mk' {P:Program} {rvs:List ResultVar} {st:St} {az rs:List AV} (hg:RGet P st rvs az) (hp:PurL st.hp az rs):RetFG P rvs st rs:=⟨_,hg,hp⟩
def pko (p i k j:Nat) (o:Nat→Option (List Nat)):Nat→Option (List Nat):=fun b=>match o b with
 | some (x :: M)=>if x=p then (match M with
  | i' :: k' :: M'=>if i'=i∧k'=k then some (j :: M') else none
  | _=>none) else some (x :: M)
 | _=>none
theorem Q5o {p i k j:Nat} {o:Nat→Option (List Nat)} {b x:Nat} {M:List Nat} (h:o b=some (x :: M)) (hx:x ≠ p):pko p i k j o b=some (x :: M):=by
 simp only [pko,h,if_neg hx]
theorem pko_cell {p i k j:Nat} {o:Nat→Option (List Nat)} {b:Nat} {M:List Nat} (h:o b=some (p :: i :: k :: M)):pko p i k j o b=some (j :: M):=by
 simp [pko,h]
theorem pko_some {p i k j:Nat} {o:Nat→Option (List Nat)} {b:Nat} {L:List Nat} (h:pko p i k j o b=some L):∃ L',o b=some L':=by
 unfold pko at h;split at h
 ·rename_i hb;exact ⟨_,hb⟩
 cases h
theorem Wk.pick {F:Fx} {st st':St} {p j i k sz sz2:Nat} {es es2:List (List AV)} (hp:look p st.h=some (.row sz es)) (hj:look j st.h=some (.ali p i k sz2)) (hi:i<es.length) (hk:k<sz) (hc:(es.getD i []).getD k .bot = .lst true sz2 es2)
  (hs:∀ q∈st'.s,st.get q.1=q.2∨q.2 = .bot) (hn:st'.n=st.n) (hh:∀ q∈st'.h,q=(j,.row sz2 es2)∨(q.1 ≠ p∧look q.1 st.h=some q.2∧(match q.2 with|.ali _ _ _ _=>False|_=>True))):Wk F st st':=by
 intro a w ⟨R,hX,hr⟩;obtain ⟨r1,r2,r3,o,ρ,W,H,hx,hρ,hpn⟩:=hr;have hent:∀ id e,st'.hp id=some e→(id=j∧e = .row sz2 es2)∨(id ≠ p∧st.hp id=some e∧(match e with|.ali _ _ _ _=>False|_=>True)):=fun id e h=>by
  rcases hh (id,e) (Qc h) with q|q
  ·simp only [Prod.mk.injEq] at q;exact .inl q
  exact .inr q
 refine ⟨R,hX,r1,r2,fun id x hx'=>?_,pko p i k j o,ρ,⟨fun b hb=>⟨(W.R b hb).1,?_⟩,fun b L hb=>?_,W.os,W.tape,W.output,W.size,W.keep⟩,⟨fun id z xs bk h1 h2=>?_,fun id z xs bk h1 h2=>?_,fun id c i' k' z bk h1 h2=>?_,fun id kd xs bk h1 h2=>?_⟩,fun t=>?_,fun id kk hk'=>?_,fun id hid=>hpn.1 id hid,by rw [hn];exact hpn.2⟩
 ·rw [hn];rcases hent id x hx' with ⟨rfl,_⟩|⟨_,q,_⟩
  ·exact r3 _ _ hj
  exact r3 _ _ q
 ·have h3:o b=none:=(W.R b hb).2;simp only [pko,h3]
 ·obtain ⟨L',h3⟩:=pko_some hb;exact W.o b L' h3
 ·rcases hent id _ h1 with ⟨_,q⟩|⟨q1,q2,_⟩
  ·cases q
  rcases (H.mix id z xs bk q2 h2).ex0 with h0|⟨b,cur,el,us,cp,p1,p2,p3⟩
  ·exact ⟨.inl h0⟩
  exact .mk' ⟨b,cur,el,us,cp,p1,Q5o p2 q1,p3⟩
 ·rcases hent id _ h1 with ⟨rfl,q⟩|⟨q1,q2,_⟩
  ·simp only [Ent.row.injEq] at q;obtain ⟨rfl,rfl⟩:=q;obtain ⟨e1,bkc,e2,e3⟩:=H.ali id p i k z bk hj h2;obtain ⟨bc,cur,el,v,c1,c2,c3,c4⟩:=e3 1 sz es (by simp only [cont];rw [show st.hp p=some (.row sz es) from hp]) (by rw [show st.hp p=some (.row sz es) from hp];rfl) hi hk;obtain ⟨vp,t1,t2⟩:=H.row p sz es bkc hp e2;generalize hL:([p]:List Nat)=L at t1;cases t1 with
   | nil=>simp at hi
   | @own _ _ _ b cap cur' el' us u1 u2 u3 u4 u5 u6 u7 u8 u9 =>
    subst hL;cases t2;simp only [Option.some.injEq] at c1;subst c1;rw [u2] at c2;simp only [Option.some.injEq,Obj.cells.injEq] at c2;obtain ⟨rfl,_,_⟩:=c2;have hv:us i k=v:=by
     have:=u7 i k hi hk;rw [c3] at this;exact (Option.some.inj this).symm
    have T:=u9 i k hi hk;rw [hc,hv] at T;refine ⟨v,T.mono [id] fun b' M hb'=>⟨?_,rfl⟩,?_⟩
    ·have:o b'=some (p :: i :: k :: M):=(by simpa using hb');simpa using pko_cell (j:=id) this
    rcases c4 with c4|c4
    ·exact c4
    exact (T.scn_lst c4).elim
  obtain ⟨v,t1,t2⟩:=H.row id z xs bk q2 h2;exact ⟨v,t1.same fun b M hb=>⟨by
   have h3:o b=some (id :: M):=(by simpa using hb);simpa using Q5o h3 q1,rfl⟩,t2⟩
 ·rcases hent id _ h1 with ⟨_,q⟩|⟨_,_,q⟩
  ·cases q
  exact q.elim
 ·rcases hent id _ h1 with ⟨_,q⟩|⟨q1,q2,_⟩
  ·cases q
  exact (H.map id kd xs bk q2 h2).move (fun b hb=>⟨hb,rfl⟩) fun b M p2=>⟨Q5o p2 q1,rfl⟩
 ·cases hl:look t st'.s with
  | none=>simp only [St.get,hl,Option.getD_none];exact .bot
  | some v =>
   simp only [St.get,hl,Option.getD_some];rcases hs _ (Qc hl) with h|h
   ·simp only at h;rw [← h];exact hx t
   simp only at h;rw [h];exact .bot
 rw [hn];exact hρ id kk hk'
end
section
attribute [local simp] Qf QG Qu
open Classical in
noncomputable def Q2S {β:Type} (k:Value):List (Value × β)→Option β
 | []=>none
 | (a,v) :: r=>if a=k then some v else Q2S k r
open Classical in
noncomputable def kset {β:Type} (k:Value) (v:β):List (Value × β)→List (Value × β)
 | []=>[(k,v)]
 | (a,x) :: r=>if a=k then (a,v) :: r else (a,x) :: kset k v r
theorem Q92 {β:Type} {k:Value} {es:List (Value × β)} (h:∀ p∈es,p.1 ≠ k):Q2S k es=none∧∀ v,kset k v es=es++[(k,v)]:=by
 induction es with
 | nil=>exact ⟨rfl,fun _=>rfl⟩
 | cons p r ih =>
  obtain ⟨a,x⟩:=p;have h1:a ≠ k:=h (a,x) (by simp);obtain ⟨i1,i2⟩:=ih fun q hq=>h q (by simp [hq]);exact ⟨by simp only [Q2S,if_neg h1];exact i1,fun v=>by simp only [kset,if_neg h1,i2];rfl⟩
theorem kfind_at {β:Type} {k:Value} {es:List (Value × β)} (hn:(es.map Prod.fst).Nodup) {j:Nat} {a:Value} {x:β} (hj:es[j]? = some (a,x)) (ha:a=k):Q2S k es=some x∧∀ v,kset k v es=es.set j (k,v):=by
 induction es generalizing j with
 | nil=>simp at hj
 | cons p r ih =>
  obtain ⟨b,y⟩:=p;cases j with
  | zero =>
   simp only [List.getElem?_cons_zero,Option.some.injEq,Prod.mk.injEq] at hj;obtain ⟨rfl,rfl⟩:=hj;subst ha;exact ⟨by simp [Q2S],fun v=>by simp [kset]⟩
  | succ j =>
   simp only [List.getElem?_cons_succ] at hj;simp only [List.map_cons,List.nodup_cons] at hn;have hb:b ≠ k:=by
    rintro rfl
    subst ha;exact hn.1 (List.mem_map.2 ⟨_,List.mem_of_getElem? hj,rfl⟩)
   obtain ⟨i1,i2⟩:=ih hn.2 hj;exact ⟨by simp only [Q2S,if_neg hb];exact i1,fun v=>by simp only [kset,if_neg hb,i2];rfl⟩
def LstL (w:World) (R:Nat→Prop) (l:Nat→Option (List Nat)) (j:Nat) (v:Value) (sz:Nat) (es:List (List AV)):Prop :=
 (es=[]∧v = .slice none 0 0)∨∃ (b:Nat) (cur:Array Value) (e:TypeId) (us:Nat→Nat→Value) (cp:Nat),v = .slice (some ⟨b,0,none⟩) es.length cp∧l b=some [j]∧w.heap[b]? = some (.cells cur e (0,0))∧cp * sz≤cur.size∧es.length≤cp∧cp≤maxLen ∧
  (∀ i,i<es.length→(es.getD i []).length=sz)∧(∀ i k,i<es.length→k<sz→cur[i * sz+k]? = some (us i k)) ∧
  (∀ i k,i<es.length→k<sz→one (us i k))∧(∀ i k,i<es.length→k<sz→RRel w R (us i k) ((es.getD i []).getD k .bot))
theorem LstL.move {w w':World} {R R':Nat→Prop} {l l':Nat→Option (List Nat)} {j:Nat} {v:Value} {sz:Nat} {es:List (List AV)} (h:LstL w R l j v sz es) (hR:∀ b,R b→R' b∧w'.heap[b]? = w.heap[b]?)
  (hl:∀ b,l b=some [j]→l' b=some [j]∧w'.heap[b]? = w.heap[b]?):LstL w' R' l' j v sz es:=by
 rcases h with h|⟨b,cur,e,us,cp,h1,h2,h3,h4,h5,h6,h7,h8,h9,h10⟩
 ·exact .inl h
 exact .inr ⟨b,cur,e,us,cp,h1,(hl b h2).1,(hl b h2).2.trans h3,h4,h5,h6,h7,h8,h9,fun i k hi hk=>(h10 i k hi hk).mono hR⟩
def MapLP (kd:MK) (sz:Nat) (ks:List (Value × Option (List (List AV)))) (w:World) (R:Nat→Prop) (l:Nat→Option (List Nat)) (bk:Bk):Prop :=
 ∃ b ents clk,bk=⟨some b,0,0⟩∧l b=some []∧w.heap[b]? = some (.map ents clk)∧ents.toList.map (·.key)=ks.map Prod.fst∧(ks.map Prod.fst).Nodup∧ks.length≤1099511627776∧(∀ p∈ks,kd.ok p.1) ∧
  ∀ (j:Nat) (kv:Value) (es:List (List AV)) (en:MapEntry),ks[j]? = some (kv,some es)→ents[j]? = some en→LstL w R l j en.val sz es
def Q2q (kd:MK) (sz:Nat) (ks:List (Value × Option (List (List AV)))):XP where
 p:=MapLP kd sz ks
 st:=by
  rintro w w' R R' l l' bk ⟨b,ents,clk,h1,h2,h3,h4,h5,h6,h7,h8⟩ hR hl
  exact ⟨b,ents,clk,h1,(hl b _ h2).1,(hl b _ h2).2.trans h3,h4,h5,h6,h7,fun j kv es en g1 g2=>(h8 j kv es en g1 g2).move hR fun b hb=>hl b _ hb⟩
def MapFP (kd:MK) (ks:List (Value × AV)) (w:World) (R:Nat→Prop) (l:Nat→Option (List Nat)) (bk:Bk):Prop :=
 ∃ b ents clk,bk=⟨some b,0,0⟩∧l b=some []∧w.heap[b]? = some (.map ents clk)∧ents.toList.map (·.key)=ks.map Prod.fst∧(ks.map Prod.fst).Nodup∧ks.length≤1099511627776∧(∀ p∈ks,kd.ok p.1) ∧
  ∀ (j:Nat) (kv:Value) (a:AV) (en:MapEntry),ks[j]? = some (kv,a)→ents[j]? = some en→RRel w R en.val a
def Q6K (kd:MK) (ks:List (Value × AV)):XP where
 p:=MapFP kd ks
 st:=by
  rintro w w' R R' l l' bk ⟨b,ents,clk,h1,h2,h3,h4,h5,h6,h7,h8⟩ hR hl
  exact ⟨b,ents,clk,h1,(hl b _ h2).1,(hl b _ h2).2.trans h3,h4,h5,h6,h7,fun j kv es en g1 g2=>(h8 j kv es en g1 g2).mono hR⟩
theorem cont_turn {h h':HP} (hh:∀ id,h' id=h id∨h' id=none∨((∃ kd es,h id=some (.mapE kd es))∧∃ kd es,h' id=some (.mapE kd es))):∀ (d c:Nat) (q:Nat × List (List AV)),cont h' d c=some q→cont h d c=some q∧h' c=h c:=by
 intro d
 induction d with
 | zero=>intro c q hx;simp [cont] at hx
 | succ d ih =>
  intro c q hx;rcases hh c with e|e|⟨_,kd,es,e⟩
  ·refine ⟨?_,e⟩;unfold cont at hx ⊢;rw [e] at hx;cases he:h c with
   | none=>simp [he] at hx
   | some x =>
    cases x with
    | mix=>simpa [he] using hx
    | row=>simpa [he] using hx
    | mapE=>simp [he] at hx
    | ali c2 i k s =>
     simp only [he] at hx ⊢;split at hx
     ·cases hx
     rename_i hm;cases hc:cont h' d c2 with
     | none=>simp [hc] at hx
     | some p =>
      obtain ⟨i1,i2⟩:=ih c2 p hc;rw [i2] at hm;rw [hc] at hx;rw [if_neg hm,i1];exact hx
  ·simp [cont,e] at hx
  simp [cont,e] at hx
theorem HRel.turn {w w':World} {g:Gh} {h h':HP} {o':Nat→Option (List Nat)} {ρ':Nat→Option Bk} (H:HRel w g h) (T:Nat→Prop)
  (hR:∀ b,g.R b→w'.heap[b]? = w.heap[b]?) (hc:∀ (b:Nat) (cur:Array Value) (e:TypeId),w.heap[b]? = some (.cells cur e (0,0))→w'.heap[b]? = some (.cells cur e (0,0)))
  (ho:∀ b id M,¬ T id→g.o b=some (id :: M)→o' b=some (id :: M)∧w'.heap[b]? = w.heap[b]?)
  (hρ:∀ id k,g.ρ id=some k→ρ' id=some k) (hρ':∀ id k,¬ T id→ρ' id=some k→g.ρ id=some k)
  (hh:∀ id,h' id=h id∨h' id=none∨((∃ kd es,h id=some (.mapE kd es))∧∃ kd es,h' id=some (.mapE kd es)))
  (hT:∀ id,¬ T id→h' id=h id)
  (hmap:∀ id kd es bk,T id→h' id=some (.mapE kd es)→ρ' id=some bk→MapRel w' ⟨g.R,o',ρ'⟩ id bk kd es)
  (hmix:∀ id sz es bk,T id→h' id=some (.mix sz es)→ρ' id=some bk→MixRel w' ⟨g.R,o',ρ'⟩ id bk sz es)
  (hrow:∀ id sz es,T id→h' id ≠ some (.row sz es)) (hali:∀ id c i k s,T id→h' id ≠ some (.ali c i k s)):HRel w' ⟨g.R,o',ρ'⟩ h':=by
 refine ⟨fun id sz es bk he hb=>?_,fun id sz es bk he hb=>?_,fun id c i k s bk he hb=>?_,fun id kd es bk he hb=>?_⟩
 ·by_cases ht:T id
  ·exact hmix id sz es bk ht he hb
  exact (H.mix id sz es bk (by rw [← hT id ht];exact he) (hρ' id bk ht hb)).mono hR hρ fun b hb=>ho b id [] ht hb
 ·by_cases ht:T id
  ·exact absurd he (hrow id sz es ht)
  obtain ⟨v,h1,h2⟩:=H.row id sz es bk (by rw [← hT id ht];exact he) (hρ' id bk ht hb);exact ⟨v,h1.same fun b M hb=>ho b id M ht hb,h2⟩
 ·by_cases ht:T id
  ·exact absurd he (hali id c i k s ht)
  obtain ⟨e1,bkc,e2,e3⟩:=H.ali id c i k s bk (by rw [← hT id ht];exact he) (hρ' id bk ht hb);refine ⟨e1,bkc,hρ _ _ e2,fun d szc esc hcc hm hi hk=>?_⟩;obtain ⟨q1,q2⟩:=cont_turn hh d c _ hcc;obtain ⟨bc,cur,el,v,c1,c2,c3,c4⟩:=e3 d szc esc q1 (by rw [← q2];exact hm) hi hk;exact ⟨bc,cur,el,v,c1,hc _ _ _ c2,c3,c4⟩
 by_cases ht:T id
 ·exact hmap id kd es bk ht he hb
 exact (H.map id kd es bk (by rw [← hT id ht];exact he) (hρ' id bk ht hb)).move (fun b hb=>⟨hb,hR b hb⟩) fun b M hb=>ho b id M ht hb
noncomputable def kcont (k:Value) (ks:List (Value × Option (List (List AV)))):Option (List (List AV)):=match Q2S k ks with
 | none=>some []
 | some x=>x
noncomputable def Q4k (k:Value) (ks:List (Value × Option (List (List AV)))):List (Value × Option (List (List AV))):=match Q2S k ks with
 | none=>ks
 | some _=>kset k none ks
theorem kset_take {k:Value} {ks:List (Value × Option (List (List AV)))} {x:Option (List (List AV))}:kset k x (Q4k k ks)=kset k x ks:=by
 unfold Q4k;cases hf:Q2S k ks with
 | none=>rfl
 | some y =>
  simp only;clear hf y
  induction ks with
  | nil=>simp [kset]
  | cons p r ih =>
   obtain ⟨a,z⟩:=p
   by_cases ha:a=k
   ·simp [kset,ha]
   simp [kset,ha,ih]
section
variable {P:Program} {op:Op} {ev:Operand→AV} {h:HP} {n:Nat}
theorem Q6x {w:World} {g:Gh} {h:HP} (H:HRel w g h) {id b:Nat} {x:XP} (hh:h id=some (.mapE (.ext x) [])) (hb:g.ρ id=some ⟨some b,0,0⟩):x.p w g.R (ownl g.o id) ⟨some b,0,0⟩:=by
 rcases H.map id _ _ _ hh hb with ⟨x',h1,h2⟩|⟨h1,_⟩
 ·cases h1;exact h2
 exact absurd rfl (h1 x)
theorem Q6s {kt:TypeId} {kd:MK} (hr:KeyRun P kt kd) (w:World) {β:Type} {ks:List (Value × β)} {ents:Array MapEntry} {kv:Value} (hk:ents.toList.map (·.key)=ks.map Prod.fst) (hn:(ks.map Prod.fst).Nodup) (hok:∀ p∈ks,kd.ok p.1) (hkv:kd.ok kv) :
  ((Instr.findKey kt kv ents.toList).run P w = .ok none w∧Q2S kv ks=none∧∀ v,kset kv v ks=ks++[(kv,v)]) ∨
  ∃ j en y,(Instr.findKey kt kv ents.toList).run P w = .ok (some (j,en.val)) w∧ents[j]? = some en∧en.key=kv∧ks[j]? = some (kv,y)∧Q2S kv ks=some y∧∀ v,kset kv v ks=ks.set j (kv,v):=by
 have hmem:∀ e∈ents.toList,∃ p∈ks,p.1=e.key:=fun e he=>by
  have:e.key∈ks.map Prod.fst:=by rw [← hk];exact List.mem_map.2 ⟨e,he,rfl⟩
  obtain ⟨p,hp,q⟩:=List.mem_map.1 this;exact ⟨p,hp,q⟩
 rcases hr.find w hkv ents.toList (fun e he=>by obtain ⟨p,hp,q⟩:=hmem e he;rw [← q];exact hok p hp) with ⟨h1,h2⟩|⟨j,en,h1,h2,h3⟩
 ·obtain ⟨q1,q2⟩:=Q92 (k:=kv) (es:=ks) fun p hp hpk=>by
   have:p.1∈ents.toList.map (·.key):=(by rw [hk];exact List.mem_map.2 ⟨p,hp,rfl⟩);obtain ⟨e,he,q⟩:=List.mem_map.1 this;exact h2 e he (by simpa using q.trans hpk)
  exact .inl ⟨h1,q1,q2⟩
 have hj:(ks.map Prod.fst)[j]? = some kv:=by rw [← hk];simp only [List.getElem?_map,h2,Option.map_some,h3]
 simp only [List.getElem?_map] at hj;obtain ⟨⟨k2,y⟩,g1,g2⟩:=Option.map_eq_some_iff.1 hj;simp only at g2;subst g2;obtain ⟨q1,q2⟩:=kfind_at hn g1 rfl;exact .inr ⟨j,en,y,h1,by simpa using h2,h3,g1,q1,q2⟩
theorem WF.labels {C:Ctx} {w:World} {g:Gh} (W:WF C w g) {o':Nat→Option (List Nat)} {ρ':Nat→Option Bk} (h0:∀ b,g.o b=none→o' b=none) (h1:∀ b L,o' b=some L→∃ L',g.o b=some L'):WF C w ⟨g.R,o',ρ'⟩ :=
 ⟨fun b hb=>⟨(W.R b hb).1,h0 b (W.R b hb).2⟩,fun b L hb=>by obtain ⟨L',h2⟩:=h1 b L hb;exact W.o b L' h2,W.os,W.tape,W.output,W.size,W.keep⟩
theorem sem_take {t:TypeId} {x k:Operand} {id sz:Nat} {kd:MK} {ks:List (Value × Option (List (List AV)))} {kv:Value} {es:List (List AV)} (ho:op = .lookup t x k false) (hx:ev x = .mp id)
  (hh:h id=some (.mapE (.ext (Q2q kd sz ks)) [])) (hm:mty P t=some (kd,.slice none 0 0)) (hk:keyV (ev k)=some kv) (his:kd.is kv=true) (hcn:kcont kv ks=some es) (hn:id<n) :
  SemOp P op ev h n { v:=.own n 0 es.length,set:=[(id,.mapE (.ext (Q2q kd sz (Q4k kv ks))) [])],new:=[(n,.mix sz es)],cnt:=1 }:=by
 subst ho;refine ⟨by simp [Q1b,Q2C],⟨by simp,by simp,by simp,by simp [hn]⟩,fun {C o a w g h'} q1 q2 q3 q4 q5 W H q6 q7=>?_⟩;have hne:id ≠ n:=by omega
 obtain ⟨kt,et,h1,h2,h3,h4⟩:=Q3O hm;have hxx:=q5 x (by simp [Op.operands]);rw [hx] at hxx;obtain ⟨b,hv,hb⟩:=hxx.mp_eq;obtain ⟨hkv,hkok⟩:=Q5i hk his (q5 k (by simp [Op.operands]));have hid:=q2 _ _ hh;obtain ⟨b',ents,clk,e1,e2,e3,e4,e5,e6,e7,e8⟩:=Q6x H hid hb;simp only [Bk.mk.injEq,Option.some.injEq,and_true] at e1;subst e1;have hnn:h' n=some (.mix sz es):=q6 (n,_) (by simp);have hρn:g.ρ n=none:=q7 n (Nat.le_refl _) (by simp);have hob:=ownl_iff.1 e2;have key:∃ v o' bk,(Instr.lookup t (a.eval x) (a.eval k) false).run P w = .ok v w∧(∀ b,g.o b=none→o' b=none)∧(∀ b L,o' b=some L→∃ L',g.o b=some L') ∧
   (∀ b x M,x ≠ id→g.o b=some (x :: M)→o' b=some (x :: M))∧XRel w g.R (upd g.ρ n bk) v (.own n 0 es.length)∧MixRel w ⟨g.R,o',upd g.ρ n bk⟩ n bk sz es ∧
   MapLP kd sz (Q4k kv ks) w g.R (ownl o' id) ⟨some b,0,0⟩:=by
  have hbk:∀ bk,upd g.ρ n bk n=some bk:=fun bk=>by simp [upd]
  rw [hv,hkv];rcases Q6s h2 w e4 e5 e7 hkok with ⟨f1,f2,f3⟩|⟨j,en,y,f1,f2,f3,f4,f5,f6⟩
  ·simp only [kcont,f2,Option.some.injEq] at hcn;subst hcn;refine ⟨.slice none 0 0,g.o,⟨none,sz,0⟩,?_,fun _ h=>h,fun _ L h=>⟨L,h⟩,fun _ _ _ _ h=>h,.own0 (hbk _),⟨.inl ⟨rfl,0,rfl⟩⟩,?_⟩
   ·simp [Instr.lookup,run_underlying h1,MapKept.run_getObj_map e3,h2.check w _ hkok,f1,h4,Result.andThen]
   simp only [Q4k,f2];exact ⟨b,ents,clk,rfl,e2,e3,e4,e5,e6,e7,e8⟩
  simp only [kcont,f5] at hcn;subst hcn;have hrun:(Instr.lookup t (.map (some b)) kv false).run P w = .ok en.val w:=by
   simp [Instr.lookup,run_underlying h1,MapKept.run_getObj_map e3,h2.check w _ hkok,f1,Result.andThen]
  have hkk:Q4k kv ks=ks.set j (kv,none):=by simp only [Q4k,f5,f6]
  have hfst:(ks.set j (kv,(none:Option (List (List AV))))).map Prod.fst=ks.map Prod.fst:=by
   apply List.ext_getElem?;intro i;simp only [List.getElem?_map,List.getElem?_set]
   by_cases hij:j=i
   ·subst hij;have hlt:j<ks.length:=(List.getElem?_eq_some_iff.1 f4).1;rw [if_pos rfl,if_pos hlt,f4];rfl
   simp [hij]
  have rest:∀ {o':Nat→Option (List Nat)},(∀ c,g.o c=some [id]→o' c=some [id])→(∀ c i,i ≠ j→g.o c=some [id,i]→o' c=some [id,i])→MapLP kd sz (Q4k kv ks) w g.R (ownl o' id) ⟨some b,0,0⟩:=by
   intro o' g1 g2;rw [hkk];refine ⟨b,ents,clk,rfl,ownl_iff.2 (g1 b hob),e3,e4.trans hfst.symm,by rw [hfst];exact e5,by simpa using e6,fun p hp=>?_,fun i k2 es2 en2 i1 i2=>?_⟩
   ·rcases List.mem_or_eq_of_mem_set hp with hp|rfl
    ·exact e7 p hp
    exact hkok
   have hij:i ≠ j:=by
    rintro rfl
    rw [List.getElem?_set_self (List.getElem?_eq_some_iff.1 f4).1] at i1;cases i1
   rw [List.getElem?_set_ne (Ne.symm hij)] at i1;exact (e8 i k2 es2 en2 i1 i2).move (fun c hc=>⟨hc,rfl⟩) fun c hc=>⟨ownl_iff.2 (g2 c i hij (ownl_iff.1 hc)),rfl⟩
  rcases e8 j kv es en f4 f2 with ⟨rfl,p2⟩|⟨bj,cur,el,us,cp,p1,p2,p3,p4,p5,p6,p7,p8,p9,p10⟩
  ·rw [p2] at hrun;exact ⟨.slice none 0 0,g.o,⟨none,sz,0⟩,hrun,fun _ h=>h,fun _ L h=>⟨L,h⟩,fun _ _ _ _ h=>h,.own0 (hbk _),⟨.inl ⟨rfl,0,rfl⟩⟩,rest (fun _ h=>h) fun _ _ _ h=>h⟩
  rw [p1] at hrun;have hbj:=ownl_iff.1 p2;refine ⟨_,upd g.o bj [n],⟨some bj,sz,cp⟩,hrun,fun c hc=>?_,fun c L hc=>?_,fun c y M hy hc=>?_,.own (hbk _) (by omega) p5 (by simp) (fun _=>rfl) p6,?_,rest (fun c hc=>?_) fun c i hi hc=>?_⟩
  ·simp only [upd];rw [if_neg (by rintro rfl;rw [hbj] at hc;cases hc)];exact hc
  ·simp only [upd] at hc;split at hc
   ·rename_i h0;subst h0;exact ⟨_,hbj⟩
   exact ⟨L,hc⟩
  ·simp only [upd];rw [if_neg (by rintro rfl;rw [hbj] at hc;simp only [Option.some.injEq,List.cons.injEq] at hc;exact hy hc.1.symm)];exact hc
  ·exact .mk' ⟨bj,cur,el,us,cp,rfl,by simp [upd],p3,p4,p5,p6,p7,p8,p9,fun i l hi hl=>.r (p10 i l hi hl)⟩
  ·simp only [upd];rw [if_neg (by rintro rfl;rw [hbj] at hc;simp at hc)];exact hc
  simp only [upd];rw [if_neg (by rintro rfl;rw [hbj] at hc;simp only [Option.some.injEq,List.cons.injEq,and_true,true_and] at hc;exact hi hc.symm)];exact hc
 obtain ⟨v,o',bk,r1,r2,r3,r4,r5,r6,r7⟩:=key;intro K Q kk;have hset:∀ c,happ { v:=AV.own n 0 es.length,set:=[(id,.mapE (.ext (Q2q kd sz (Q4k kv ks))) [])],new:=[(n,.mix sz es)],cnt:=1 } h' c=if c=id then some (.mapE (.ext (Q2q kd sz (Q4k kv ks))) []) else h' c:=by
  intro c;simp only [happ,look]
  by_cases hc:id=c
  ·simp [hc]
  simp [hc,Ne.symm hc]
 have hρu:∀ i k,g.ρ i=some k→upd g.ρ n bk i=some k:=fun i k hk=>by
  simp only [upd];rw [if_neg (by rintro rfl;rw [hρn] at hk;cases hk)];exact hk
 refine Q1i (v:=v) (w':=w) (by simp [execOp,q1,r1]) (kk v w g.R o' (upd g.ρ n bk) .refl (W.labels r2 r3) ?_ hρu (fun i k hk=>?_) r5 fun _ _=>rfl)
 ·refine H.turn (fun c=>c=id∨c=n) (fun _ _=>rfl) (fun _ _ _ h=>h) (fun c i M hi hc=>⟨r4 c i M (fun h0=>hi (.inl h0)) hc,rfl⟩) hρu (fun i k hi hk=>?_) (fun i=>?_) (fun i hi=>?_) (fun i kd2 es2 bk2 hi he hbk=>?_) (fun i s2 es2 bk2 hi he hbk=>?_) (fun i s2 es2 hi he=>?_) fun i c2 i2 k2 s2 hi he=>?_
  ·simp only [upd] at hk;rw [if_neg fun h0=>hi (.inr h0)] at hk;exact hk
  ·rw [hset]
   by_cases hi:i=id
   ·subst hi;exact .inr (.inr ⟨⟨_,_,hid⟩,⟨_,_,if_pos rfl⟩⟩)
   exact .inl (if_neg hi)
  ·rw [hset,if_neg fun h0=>hi (.inl h0)]
  ·rw [hset] at he;rcases hi with rfl|rfl
   ·rw [if_pos rfl] at he;cases he;rw [hρu _ _ hb] at hbk;cases hbk;exact .inl ⟨_,rfl,r7⟩
   rw [if_neg (Ne.symm hne),hnn] at he;cases he
  ·rw [hset] at he;rcases hi with rfl|rfl
   ·rw [if_pos rfl] at he;cases he
   rw [if_neg (Ne.symm hne),hnn] at he;cases he;have:bk2=bk:=(by simp only [upd] at hbk;simpa using hbk.symm);subst this;exact r6
  ·rw [hset] at he;rcases hi with rfl|rfl
   ·rw [if_pos rfl] at he;cases he
   rw [if_neg (Ne.symm hne),hnn] at he;cases he
  rw [hset] at he;rcases hi with rfl|rfl
  ·rw [if_pos rfl] at he;cases he
  rw [if_neg (Ne.symm hne),hnn] at he;cases he
 simp only [upd] at hk;split at hk
 ·rename_i h0;subst h0;exact .inr ⟨Nat.le_refl _,by simp⟩
 exact .inl hk
theorem sem_put {t:TypeId} {x k y:Operand} {id m sz:Nat} {kd:MK} {z:Value} {ks:List (Value × Option (List (List AV)))} {kv:Value} {es:List (List AV)} (ho:op = .mapUpdate t x k y) (hx:ev x = .mp id)
  (hh:h id=some (.mapE (.ext (Q2q kd sz ks)) [])) (hm:mty P t=some (kd,z)) (hk:keyV (ev k)=some kv) (his:kd.is kv=true) (hy:ev y = .own m 0 es.length) (hmm:h m=some (.mix sz es))
  (hro:∀ r∈es,∀ c∈r,AV.ro c=true) (hlen:ks.length<1099511627776) (hn:id<n) (hmn:m<n) :
  SemOp P op ev h n { v:=.bot,set:=[(id,.mapE (.ext (Q2q kd sz (kset kv (some es) ks))) [])],del:=[m] }:=by
 subst ho;have hne:m ≠ id:=by rintro rfl;rw [hh] at hmm;cases hmm
 refine ⟨by simp [Q1b,Q2C],⟨by simp,by simp,by simp [hmn],by simp [hn]⟩,fun {C o a w g h'} q1 q2 q3 q4 q5 W H q6 q7=>?_⟩;obtain ⟨kt,et,h1,h2,h3,h4⟩:=Q3O hm;have hxx:=q5 x (by simp [Op.operands]);rw [hx] at hxx;obtain ⟨b,hv,hb⟩:=hxx.mp_eq;obtain ⟨hkv,hkok⟩:=Q5i hk his (q5 k (by simp [Op.operands]));have hid:=q2 _ _ hh;have hmi:=q2 _ _ hmm;obtain ⟨b',ents,clk,e1,e2,e3,e4,e5,e6,e7,e8⟩:=Q6x H hid hb;simp only [Bk.mk.injEq,Option.some.injEq,and_true] at e1;subst e1;have hob:=ownl_iff.1 e2;have hyy:=q5 y (by simp [Op.operands]);rw [hy] at hyy;have hlst:∃ o':Nat→Nat→Option (List Nat),∀ j,(∀ b,g.o b=none→o' j b=none)∧(∀ b L,o' j b=some L→∃ L',g.o b=some L')∧(∀ b x M,x ≠ m→g.o b=some (x :: M)→o' j b=some (x :: M)) ∧
   LstL w g.R (ownl (o' j) id) j (a.eval y) sz es:=by
  generalize a.eval y=u at hyy;generalize hL:es.length=L at hyy;cases hyy with
  | r h0=>cases h0
  | @own0 _ s0 cp0 hbk =>
   have hes:es=[]:=(by simpa using hL);subst hes;exact ⟨fun _=>g.o,fun j=>⟨fun _ h=>h,fun _ L h=>⟨L,h⟩,fun _ _ _ _ h=>h,.inl ⟨rfl,rfl⟩⟩⟩
  | @own _ bm s0 cap0 _ _ c0 x0 hbk g1 g2 g3 g4 g5 =>
   subst hL;have hx0:x0=0:=g4 rfl;subst hx0;rcases (H.mix m _ _ _ hmi hbk).ex0 with ⟨_,cp,h0⟩|⟨b1,cur,el,us,cp,p1,p2,p3,p4,p5,p6,p7,p8,p9,p10⟩
   ·cases h0
   cases p1;have hmul:c0 * sz≤cap0 * sz:=Nat.mul_le_mul_right _ (by omega);refine ⟨fun j=>upd g.o bm [id,j],fun j=>⟨fun c hc=>?_,fun c L hc=>?_,fun c y M hy hc=>?_,.inr ⟨bm,cur,el,us,c0,rfl,ownl_iff.2 (by simp [upd]),p3,by omega,g2,by omega,p7,p8,p9,fun i l hi hl=>(p10 i l hi hl).toR ?_⟩⟩⟩
   ·simp only [upd];rw [if_neg (by rintro rfl;rw [p2] at hc;cases hc)];exact hc
   ·simp only [upd] at hc;split at hc
    ·rename_i h0;subst h0;exact ⟨_,p2⟩
    exact ⟨L,hc⟩
   ·simp only [upd];rw [if_neg (by rintro rfl;rw [p2] at hc;simp only [Option.some.injEq,List.cons.injEq] at hc;exact hy hc.1.symm)];exact hc
   have hr:=p7 i hi;refine hro (es.getD i []) ?_ _ ?_
   ·simp [List.getD_eq_getElem?_getD,hi]
   have hl':l<(es.getD i []).length:=(by omega);rw [List.getD_eq_getElem?_getD (l:=es.getD i []),List.getElem?_eq_getElem hl'];exact List.getElem_mem hl'
 obtain ⟨o',ho'⟩:=hlst;have hsz:ents.size=ks.length:=by have:=congrArg List.length e4;simpa using this
 have hrun:∃ (j:Nat) (ents':Array MapEntry) (clk':Nat) (en':MapEntry),(Instr.mapUpdate t (a.eval x) (a.eval k) (a.eval y)).run P w = .ok () { w with heap:=w.heap.setIfInBounds b (.map ents' clk') } ∧
   ents'.toList.map (·.key)=(kset kv (some es) ks).map Prod.fst∧ents'[j]? = some en'∧en'.val=a.eval y∧(kset kv (some es) ks)[j]? = some (kv,some es)∧(∀ i,i ≠ j→ents'[i]? = ents[i]?∧(kset kv (some es) ks)[i]? = ks[i]?) ∧
   ((kset kv (some es) ks).map Prod.fst).Nodup∧(kset kv (some es) ks).length≤ks.length+1∧∀ p∈kset kv (some es) ks,kd.ok p.1:=by
  rw [hv,hkv];generalize a.eval y=yv;rcases Q6s h2 w e4 e5 e7 hkok with ⟨f1,f2,f3⟩|⟨j,en,y,f1,f2,f3,f4,f5,f6⟩
  ·have hnk:kv ∉ ks.map Prod.fst:=by
    intro hin;obtain ⟨p,hp,q⟩:=List.mem_map.1 hin;have:∀ l:List (Value × Option (List (List AV))),Q2S kv l=none→∀ p∈l,p.1 ≠ kv:=by
     intro l
     induction l with
     | nil=>intro _ p hp;cases hp
     | cons c r ih =>
      obtain ⟨a1,a2⟩:=c;intro hl p hp;simp only [Q2S] at hl;split at hl
      ·cases hl
      rename_i hne;rcases List.mem_cons.1 hp with rfl|hp
      ·exact hne
      exact ih hl p hp
    exact this ks f2 p hp q
   refine ⟨ks.length,ents.push { key:=kv,val:=yv,born:=clk },clk+1,{ key:=kv,val:=yv,born:=clk },?_,?_,?_,rfl,?_,fun i hi=>?_,?_,?_,fun p hp=>?_⟩
   ·simp [Instr.mapUpdate,run_underlying h1,MapKept.run_getObj_map e3,h2.check w _ hkok,f1,MapKept.run_setObj_map _ e3,Result.andThen]
   ·rw [f3];simp [e4]
   ·rw [← hsz];simp
   ·rw [f3];simp
   ·rw [f3];constructor
    ·rw [Array.getElem?_push];rw [if_neg (by omega)]
    by_cases hlt:i<ks.length
    ·rw [List.getElem?_append_left hlt]
    rw [List.getElem?_eq_none (by simp;omega),List.getElem?_eq_none (by omega)]
   ·rw [f3,List.map_append,List.nodup_append];refine ⟨e5,by simp,fun a ha c hc=>?_⟩;simp only [List.map_cons,List.map_nil,List.mem_singleton] at hc
    rintro rfl
    subst hc;exact hnk ha
   ·rw [f3];simp
   rw [f3] at hp;rcases List.mem_append.1 hp with hp|hp
   ·exact e7 p hp
   simp only [List.mem_singleton] at hp;subst hp;exact hkok
  have hlt:j<ents.size:=(Array.getElem?_eq_some_iff.1 f2).1;have hlt2:j<ks.length:=by omega
  have hfst:(ks.set j (kv,some es)).map Prod.fst=ks.map Prod.fst:=by
   apply List.ext_getElem?;intro i;simp only [List.getElem?_map,List.getElem?_set]
   by_cases hij:j=i
   ·subst hij;rw [if_pos rfl,if_pos hlt2,f4];rfl
   simp [hij]
  refine ⟨j,ents.modify j fun e=>{ e with key:=kv,val:=yv },clk,{ en with key:=kv,val:=yv },?_,?_,?_,?_,?_,fun i hi=>?_,?_,?_,fun p hp=>?_⟩
  ·simp [Instr.mapUpdate,run_underlying h1,MapKept.run_getObj_map e3,h2.check w _ hkok,f1,f2,f3,h2.stays w hkok,MapKept.run_setObj_map _ e3,Result.andThen]
  ·rw [f6,hfst,← e4];apply List.ext_getElem?;intro i;simp only [List.getElem?_map,Array.getElem?_toList,Array.getElem?_modify]
   by_cases hij:j=i
   ·subst hij;simp [f2,f3]
   simp [hij]
  ·simp [Array.getElem?_modify,f2]
  ·rfl
  ·rw [f6,List.getElem?_set_self hlt2]
  ·rw [f6];exact ⟨by simp [Array.getElem?_modify,Ne.symm hi],List.getElem?_set_ne (Ne.symm hi)⟩
  ·rw [f6,hfst];exact e5
  ·rw [f6];simp
  rw [f6] at hp;rcases List.mem_or_eq_of_mem_set hp with hp|rfl
  ·exact e7 p hp
  exact hkok
 obtain ⟨j,ents',clk',en',r1,r2,r3,r4,r5,r6,r7,r8,r9⟩:=hrun;obtain ⟨u1,u2,u3,u4⟩:=ho' j;obtain ⟨hs1,hs2⟩:=MapKept.heap_set (o':=.map ents' clk') e3;have hcell:∀ (c:Nat) (cur:Array Value) (e:TypeId),w.heap[c]? = some (.cells cur e (0,0))→(w.heap.setIfInBounds b (.map ents' clk'))[c]? = some (.cells cur e (0,0)):=fun c cur e hc=>(hs2 c (by rintro rfl;rw [e3] at hc;cases hc)).trans hc;have hRr:∀ c,g.R c→(w.heap.setIfInBounds b (.map ents' clk'))[c]? = w.heap[c]?:=fun c hc=>hs2 c (by rintro rfl;have:=(W.R c hc).2;rw [hob] at this;cases this);have hoth:∀ c L,g.o c=some L→L ≠ [id]→(w.heap.setIfInBounds b (.map ents' clk'))[c]? = w.heap[c]?:=fun c L hc hL=>hs2 c (by rintro rfl;rw [hob] at hc;cases hc;exact hL rfl);have hexec:(execOp a.eval o).run P w = .ok .skip { w with heap:=w.heap.setIfInBounds b (.map ents' clk') }:=by simp [execOp,q1,r1]
 intro K Q kk;have hset:∀ c,happ { v:=AV.bot,set:=[(id,.mapE (.ext (Q2q kd sz (kset kv (some es) ks))) [])],del:=[m] } h' c=if c=id then some (.mapE (.ext (Q2q kd sz (kset kv (some es) ks))) []) else if c=m then none else h' c:=by
  intro c;simp only [happ,look]
  by_cases hc:id=c
  ·simp [hc]
  simp [hc,Ne.symm hc]
 have W1:WF C w ⟨g.R,o' j,g.ρ⟩:=W.labels u1 u2;refine Q2x hexec (kk undef { w with heap:=w.heap.setIfInBounds b (.map ents' clk') } g.R (o' j) g.ρ .refl ⟨fun c hc=>⟨by simpa using (W1.R c hc).1,(W1.R c hc).2⟩,fun c L hc=>⟨by simpa using (W1.o c L hc).1,(W1.o c L hc).2⟩,W.os,W.tape,W.output,by simpa using W.size,fun c hc hw=>?_⟩ ?_ (fun _ _ h=>h) (fun i k hk=>.inl hk) .bot hRr)
 ·exact (hs2 c (by
   rintro rfl
   rcases (W.o c _ hob).2 with h0|h0
   ·omega
   exact hw h0)).trans (W.keep c hc hw)
 refine H.turn (fun c=>c=id∨c=m) hRr hcell (fun c i M hi hc=>⟨u3 c i M (fun h0=>hi (.inr h0)) hc,hoth c _ hc (by intro h0;simp only [List.cons.injEq] at h0;exact hi (.inl h0.1))⟩) (fun _ _ h=>h) (fun i k hi hk=>hk) (fun i=>?_) (fun i hi=>?_) (fun i kd2 es2 bk2 hi he hbk=>?_) (fun i s2 es2 bk2 hi he hbk=>?_) (fun i s2 es2 hi he=>?_) fun i c2 i2 k2 s2 hi he=>?_
 ·rw [hset]
  by_cases hi:i=id
  ·subst hi;exact .inr (.inr ⟨⟨_,_,hid⟩,⟨_,_,if_pos rfl⟩⟩)
  rw [if_neg hi]
  by_cases hi2:i=m
  ·rw [if_pos hi2];exact .inr (.inl rfl)
  rw [if_neg hi2];exact .inl rfl
 ·rw [hset,if_neg fun h0=>hi (.inl h0),if_neg fun h0=>hi (.inr h0)]
 ·rw [hset] at he;rcases hi with rfl|rfl
  ·rw [if_pos rfl] at he;cases he;rw [hb] at hbk;cases hbk;refine .inl ⟨_,rfl,b,ents',clk',rfl,ownl_iff.2 (u3 b _ _ (Ne.symm hne) hob),hs1,r2,r7,by omega,r9,fun i kv2 es2 en2 g1 g2=>?_⟩
   by_cases hij:i=j
   ·subst hij;rw [r3] at g2;rw [r5] at g1;cases g1;cases g2;rw [r4];exact u4.move (fun c hc=>⟨hc,hRr c hc⟩) fun c hc=>⟨hc,by
     obtain ⟨L',hL'⟩:=u2 c _ (ownl_iff.1 hc);refine hs2 c ?_
     rintro rfl
     have:=u3 c _ _ (Ne.symm hne) hob;rw [ownl_iff.1 hc] at this;simp at this⟩
   obtain ⟨g3,g4⟩:=r6 i hij;rw [g4] at g1;rw [g3] at g2;exact (e8 i kv2 es2 en2 g1 g2).move (fun c hc=>⟨hc,hRr c hc⟩) fun c hc=>⟨ownl_iff.2 (u3 c _ _ (Ne.symm hne) (ownl_iff.1 hc)),hoth c _ (ownl_iff.1 hc) (by simp)⟩
  rw [if_neg hne,if_pos rfl] at he;cases he
 ·rw [hset] at he;rcases hi with rfl|rfl
  ·rw [if_pos rfl] at he;cases he
  rw [if_neg hne,if_pos rfl] at he;cases he
 ·rw [hset] at he;rcases hi with rfl|rfl
  ·rw [if_pos rfl] at he;cases he
  rw [if_neg hne,if_pos rfl] at he;cases he
 rw [hset] at he;rcases hi with rfl|rfl
 ·rw [if_pos rfl] at he;cases he
 rw [if_neg hne,if_pos rfl] at he;cases he
theorem sem_lookF {t:TypeId} {x k:Operand} {id sz:Nat} {kd:MK} {ks:List (Value × AV)} {kv:Value} (ho:op = .lookup t x k false) (hx:ev x = .mp id)
  (hh:h id=some (.mapE (.ext (Q6K kd ks)) [])) (hm:mty P t=some (kd,.slice none 0 0)) (hk:keyV (ev k)=some kv) (his:kd.is kv=true) :
  SemOp P op ev h n { v:=(Q2S kv ks).getD (.lst true sz []) }:=by
 subst ho;refine ⟨by simp [Q1b,Q2C],⟨by simp,by simp,by simp,by simp⟩,fun {C o a w g h'} q1 q2 q3 q4 q5 W H q6 q7=>?_⟩;obtain ⟨kt,et,h1,h2,h3,h4⟩:=Q3O hm;have hxx:=q5 x (by simp [Op.operands]);rw [hx] at hxx;obtain ⟨b,hv,hb⟩:=hxx.mp_eq;obtain ⟨hkv,hkok⟩:=Q5i hk his (q5 k (by simp [Op.operands]));obtain ⟨b',ents,clk,e1,e2,e3,e4,e5,e6,e7,e8⟩:=Q6x H (q2 _ _ hh) hb;simp only [Bk.mk.injEq,Option.some.injEq,and_true] at e1;subst e1;have key:∃ v,(Instr.lookup t (a.eval x) (a.eval k) false).run P w = .ok v w∧XRel w g.R g.ρ v ((Q2S kv ks).getD (.lst true sz [])):=by
  rw [hv,hkv];rcases Q6s h2 w e4 e5 e7 hkok with ⟨f1,f2,_⟩|⟨j,en,y,f1,f2,f3,f4,f5,_⟩
  ·refine ⟨.slice none 0 0,?_,?_⟩
   ·simp [Instr.lookup,run_underlying h1,MapKept.run_getObj_map e3,h2.check w _ hkok,f1,h4,Result.andThen]
   rw [f2];exact .r (.nil (by decide))
  refine ⟨en.val,?_,?_⟩
  ·simp [Instr.lookup,run_underlying h1,MapKept.run_getObj_map e3,h2.check w _ hkok,f1,Result.andThen]
  rw [f5];exact .r (e8 j kv y en f4 f2)
 obtain ⟨v,r1,r2⟩:=key;exact (Qn W H rfl rfl (v:=v) (by simp [execOp,q1,r1]) r2).step
theorem sem_clear {t:TypeId} {x:Operand} {id:Nat} {kd:MK} {ks:List (Value × AV)} (ho:op = .call ⟨.builtin .clear,#[x],#[t]⟩) (hx:ev x = .mp id)
  (hh:h id=some (.mapE (.ext (Q6K kd ks)) [])) (hu:(P.underlying t).isSome=true) (hpl:kd.plain=true) (hn:id<n) :
  SemOp P op ev h n { v:=.tup [],set:=[(id,.mapE kd [])] }:=by
 subst ho;refine ⟨by simp [Q2C],⟨by simp,by simp,by simp,by simp [hn]⟩,fun {C o a w g h'} q1 q2 q3 q4 q5 W H q6 q7=>?_⟩;have hxx:=q5 x (by simp [Op.operands,Call.operands]);rw [hx] at hxx;obtain ⟨b,hv,hb⟩:=hxx.mp_eq;have hid:=q2 _ _ hh;obtain ⟨b',ents,clk,e1,e2,e3,e4,e5,e6,e7,e8⟩:=Q6x H hid hb;simp only [Bk.mk.injEq,Option.some.injEq,and_true] at e1;subst e1;have hob:=ownl_iff.1 e2;obtain ⟨ut,hut⟩:=Option.isSome_iff_exists.1 hu;obtain ⟨hs1,hs2⟩:=MapKept.heap_set (o':=.map #[] clk) e3;have hexec:(execOp a.eval o).run P w = .ok (.value (.tuple #[])) { w with heap:=w.heap.setIfInBounds b (.map #[] clk) }:=by
  have h5:=MapKept.run_getObj_map (P:=P) e3;have h6:=MapKept.run_setObj_map (P:=P) (.map #[] clk) e3;have h7:=run_underlying (w:=w) hut;cases ut<;>simp [execOp,q1,resolve,invoke,builtin,Builtin.clear_,hv,h7,h5,h6,Result.andThen]
 have hcell:∀ (c:Nat) (cur:Array Value) (e:TypeId),w.heap[c]? = some (.cells cur e (0,0))→(w.heap.setIfInBounds b (.map #[] clk))[c]? = some (.cells cur e (0,0)):=fun c cur e hc=>(hs2 c (by rintro rfl;rw [e3] at hc;cases hc)).trans hc;have hRr:∀ c,g.R c→(w.heap.setIfInBounds b (.map #[] clk))[c]? = w.heap[c]?:=fun c hc=>hs2 c (by rintro rfl;have:=(W.R c hc).2;rw [hob] at this;cases this);have hoth:∀ c L,g.o c=some L→L ≠ [id]→(w.heap.setIfInBounds b (.map #[] clk))[c]? = w.heap[c]?:=fun c L hc hL=>hs2 c (by rintro rfl;rw [hob] at hc;cases hc;exact hL rfl);intro K Q kk;have hset:∀ c,happ { v:=AV.tup [],set:=[(id,.mapE kd [])] } h' c=if c=id then some (.mapE kd []) else h' c:=by
  intro c;simp only [happ,look]
  by_cases hc:id=c
  ·simp [hc]
  simp [hc,Ne.symm hc]
 refine Q1i hexec (kk (.tuple #[]) { w with heap:=w.heap.setIfInBounds b (.map #[] clk) } g.R g.o g.ρ .refl ⟨fun c hc=>⟨by simpa using (W.R c hc).1,(W.R c hc).2⟩,fun c L hc=>⟨by simpa using (W.o c L hc).1,(W.o c L hc).2⟩,W.os,W.tape,W.output,by simpa using W.size,fun c hc hw=>?_⟩ ?_ (fun _ _ h=>h) (fun i k hk=>.inl hk) (.tup rfl fun k hk=>by cases hk) hRr)
 ·exact (hs2 c (by
   rintro rfl
   rcases (W.o c _ hob).2 with h0|h0
   ·omega
   exact hw h0)).trans (W.keep c hc hw)
 refine H.turn (fun c=>c=id) hRr hcell (fun c i M hi hc=>⟨hc,hoth c _ hc (by intro h0;simp only [List.cons.injEq] at h0;exact hi h0.1)⟩) (fun _ _ h=>h) (fun i k hi hk=>hk) (fun i=>?_) (fun i hi=>?_) (fun i kd2 es2 bk2 hi he hbk=>?_) (fun i s2 es2 bk2 hi he hbk=>?_) (fun i s2 es2 hi he=>?_) fun i c2 i2 k2 s2 hi he=>?_
 ·rw [hset]
  by_cases hi:i=id
  ·subst hi;exact .inr (.inr ⟨⟨_,_,hid⟩,⟨_,_,if_pos rfl⟩⟩)
  exact .inl (if_neg hi)
 ·rw [hset,if_neg hi]
 ·rw [hset,if_pos hi] at he;subst hi;cases he;rw [hb] at hbk;cases hbk;exact .inr ⟨MK.plain_ne hpl,b,rfl,hob,⟨#[],clk,hs1,rfl⟩,by simp,by simp,fun p hp=>by cases hp⟩
 ·rw [hset,if_pos hi] at he;cases he
 ·rw [hset,if_pos hi] at he;cases he
 rw [hset,if_pos hi] at he;cases he
end
theorem Wk.kind {F:Fx} {st st':St} {j:Nat} {kd kd':MK} {es es':List (Value × Value)} (hj:look j st.h=some (.mapE kd es)) (hk:∀ (w:World) (g:Gh) (bk:Bk),MapRel w g j bk kd es→MapRel w g j bk kd' es')
  (hs:∀ q∈st'.s,st.get q.1=q.2∨q.2 = .bot) (hn:st'.n=st.n)
  (hh:∀ q∈st'.h,(q.1=j∧q.2 = .mapE kd' es')∨(look q.1 st.h=some q.2∧(match q.2 with|.ali _ _ _ _=>False|_=>True))):Wk F st st':=by
 intro a w ⟨R,hX,hr0⟩;obtain ⟨r1,r2,r3,o,ρ,W,H,hx,hρ,hpn⟩:=hr0;have hent:∀ id e,st'.hp id=some e→(id=j∧e = .mapE kd' es')∨(st.hp id=some e∧(match e with|.ali _ _ _ _=>False|_=>True)):=fun id e h=>hh (id,e) (Qc h);refine ⟨R,hX,r1,r2,fun id x hx'=>?_,o,ρ,⟨W.R,W.o,W.os,W.tape,W.output,W.size,W.keep⟩,
  ⟨fun id z xs bk h1 h2=>?_,fun id z xs bk h1 h2=>?_,fun id c i' k' z bk h1 h2=>?_,fun id kd xs bk h1 h2=>?_⟩,fun t=>?_,fun id kk hk'=>?_,fun id hid=>hpn.1 id hid,by rw [hn];exact hpn.2⟩
 ·rw [hn];rcases hent id x hx' with ⟨rfl,_⟩|⟨h,_⟩
  ·exact r3 _ _ hj
  exact r3 _ _ h
 ·rcases hent id _ h1 with ⟨_,h⟩|⟨h,_⟩
  ·cases h
  exact H.mix id z xs bk h h2
 ·rcases hent id _ h1 with ⟨_,h⟩|⟨h,_⟩
  ·cases h
  exact H.row id z xs bk h h2
 ·rcases hent id _ h1 with ⟨_,h⟩|⟨_,h⟩
  ·cases h
  exact h.elim
 ·rcases hent id _ h1 with ⟨rfl,h⟩|⟨h,_⟩
  ·cases h;exact hk w _ bk (H.map id _ _ bk hj h2)
  exact H.map id kd xs bk h h2
 ·cases hl:look t st'.s with
  | none=>simp only [St.get,hl,Option.getD_none];exact .bot
  | some v =>
   simp only [St.get,hl,Option.getD_some];rcases hs _ (Qc hl) with h|h
   ·simp only at h;rw [← h];exact hx t
   simp only at h;rw [h];exact .bot
 rw [hn];exact hρ id kk hk'
theorem mapL_new {kd:MK} (hpl:kd.plain=true) {sz j:Nat} (w:World) (g:Gh) (bk:Bk) (h:MapRel w g j bk kd []):MapRel w g j bk (.ext (Q2q kd sz [])) []:=by
 obtain ⟨b,h1,h2,⟨ents,clk,h3,h4⟩,h5⟩:=h.plain (MK.plain_ne hpl);have he:ents = #[]:=by
  have:ents.toList.length=0:=by have:=congrArg List.length h4;simpa using this
  exact Array.eq_empty_of_size_eq_zero (by simpa using this)
 subst he;exact .inl ⟨_,rfl,b,#[],clk,h1,ownl_iff.2 h2,h3,rfl,by simp,by simp,(fun p hp=>by cases hp),fun j kv es en g1=>by simp at g1⟩
def fzm (j:Nat) (o:Nat→Option (List Nat)):Nat→Option (List Nat):=fun b=>match o b with
 | some (x :: y :: M)=>if x=j then none else some (x :: y :: M)
 | y=>y
theorem Q5d {j:Nat} {o:Nat→Option (List Nat)} {b x:Nat} {M:List Nat} (h:o b=some (x :: M)) (hx:x ≠ j):fzm j o b=some (x :: M):=by
 unfold fzm;rw [h];cases M with
 | nil=>rfl
 | cons y M=>simp only [if_neg hx]
theorem fzm_root {j:Nat} {o:Nat→Option (List Nat)} {b:Nat} (h:o b=some [j]):fzm j o b=some [j]:=by simp [fzm,h]
theorem fzm_none {j:Nat} {o:Nat→Option (List Nat)} {b y:Nat} {M:List Nat} (h:o b=some (j :: y :: M)):fzm j o b=none:=by simp [fzm,h]
theorem fzm_some {j:Nat} {o:Nat→Option (List Nat)} {b:Nat} {L:List Nat} (h:fzm j o b=some L):o b=some L:=by
 unfold fzm at h;split at h
 ·split at h
  ·cases h
  rename_i hb _;rw [hb];exact h
 exact h
theorem Wk.frzM {F:Fx} {st st':St} (hW:∀ b,¬ F.C.wrb b) {j sz:Nat} {kd:MK} {ks:List (Value × Option (List (List AV)))} (hj:look j st.h=some (.mapE (.ext (Q2q kd sz ks)) [])) (hks:∀ p∈ks,p.2 ≠ none)
  (hs:∀ q∈st'.s,st.get q.1=q.2∨q.2 = .bot) (hn:st'.n=st.n)
  (hh:∀ q∈st'.h,(q.1=j∧q.2 = .mapE (.ext (Q6K kd (ks.map fun p=>(p.1,.lst true sz (p.2.getD []))))) [])∨(q.1 ≠ j∧look q.1 st.h=some q.2∧(match q.2 with|.ali _ _ _ _=>False|_=>True))):Wk F st st':=by
 intro a w ⟨R,hX,hr0⟩;obtain ⟨r1,r2,r3,o,ρ,W,H,hx,hρ,hpn⟩:=hr0;have hent:∀ id e,st'.hp id=some e→(id=j∧e = .mapE (.ext (Q6K kd (ks.map fun p=>(p.1,.lst true sz (p.2.getD []))))) [])∨(id ≠ j∧st.hp id=some e∧(match e with|.ali _ _ _ _=>False|_=>True)):=fun id e h=>hh (id,e) (Qc h);have hRR:∀ b,R b→(R b∨∃ y M,o b=some (j :: y :: M))∧w.heap[b]? = w.heap[b]?:=fun b hb=>⟨.inl hb,rfl⟩;refine ⟨fun b=>R b∨∃ y M,o b=some (j :: y :: M),⟨fun b hb=>.inl (hX.1 b hb),fun b hb=>?_⟩,r1,r2,fun id x hx'=>?_,fzm j o,ρ,⟨fun b hb=>?_,fun b L hb=>W.o b L (fzm_some hb),W.os,W.tape,W.output,W.size,W.keep⟩,
  ⟨fun id z xs bk h1 h2=>?_,fun id z xs bk h1 h2=>?_,fun id c i' k' z bk h1 h2=>?_,fun id kd xs bk h1 h2=>?_⟩,fun t=>?_,fun id kk hk'=>?_,fun id hid=>hpn.1 id hid,by rw [hn];exact hpn.2⟩
 ·rcases hb with hb|⟨y,M,hb⟩
  ·exact hX.2 b hb
  rcases (W.o b _ hb).2 with h|h
  ·exact .inr h
  exact absurd h (hW b)
 ·rw [hn];rcases hent id x hx' with ⟨rfl,_⟩|⟨_,h,_⟩
  ·exact r3 _ _ hj
  exact r3 _ _ h
 ·rcases hb with hb|⟨y,M,hb⟩
  ·have h3:o b=none:=(W.R b hb).2;exact ⟨(W.R b hb).1,by simp only [fzm,h3]⟩
  exact ⟨(W.o b _ hb).1,fzm_none hb⟩
 ·rcases hent id _ h1 with ⟨_,h⟩|⟨q1,q2,_⟩
  ·cases h
  rcases (H.mix id z xs bk q2 h2).ex0 with h0|⟨b,cur,el,us,cp,p1,p2,p3,p4,p5,p6,p7,p8,p9,p10⟩
  ·exact ⟨.inl h0⟩
  exact .mk' ⟨b,cur,el,us,cp,p1,Q5d p2 q1,p3,p4,p5,p6,p7,p8,p9,fun i k hi hk=>(p10 i k hi hk).mono hRR (fun _ _ h=>h)⟩
 ·rcases hent id _ h1 with ⟨_,h⟩|⟨q1,q2,_⟩
  ·cases h
  obtain ⟨v,t1,t2⟩:=H.row id z xs bk q2 h2;exact ⟨v,t1.mono [id] fun b M hb=>⟨by
   have h3:o b=some (id :: M):=(by simpa using hb);simpa using Q5d h3 q1,rfl⟩,t2⟩
 ·rcases hent id _ h1 with ⟨_,h⟩|⟨_,_,h⟩
  ·cases h
  exact h.elim
 ·rcases hent id _ h1 with ⟨rfl,h⟩|⟨q1,q2,_⟩
  ·cases h;rcases H.map id _ _ bk hj h2 with ⟨x',hx',hp⟩|⟨h0,_⟩
   ·cases hx';obtain ⟨b,ents,clk,e1,e2,e3,e4,e5,e6,e7,e8⟩:=hp;refine .inl ⟨_,rfl,b,ents,clk,e1,ownl_iff.2 (fzm_root (ownl_iff.1 e2)),e3,by rw [e4];simp [Function.comp_def],by simpa [Function.comp_def] using e5,by simpa using e6,fun p hp=>?_,fun i kv a2 en g1 g2=>?_⟩
    ·obtain ⟨p0,hp0,rfl⟩:=List.mem_map.1 hp;exact e7 p0 hp0
    simp only [List.getElem?_map,Option.map_eq_some_iff] at g1;obtain ⟨⟨k1,x1⟩,g3,g4⟩:=g1;simp only [Prod.mk.injEq] at g4;obtain ⟨rfl,rfl⟩:=g4;cases x1 with
    | none=>exact absurd rfl (hks _ (List.mem_of_getElem? g3))
    | some es =>
     rcases e8 i k1 es en g3 g2 with ⟨rfl,p2⟩|⟨bj,cur,el,us,cp,p1,p2,p3,p4,p5,p6,p7,p8,p9,p10⟩
     ·rw [p2];exact .nil (by decide)
     rw [p1];exact .lst us (.inr ⟨i,[],ownl_iff.1 p2⟩) p3 p5 p6 p7 (fun i k hi hk=>by rw [Nat.zero_add];exact p8 i k hi hk) p9 fun i k hi hk=>(p10 i k hi hk).mono fun b hb=>⟨.inl hb,rfl⟩
   exact absurd rfl (h0 _)
  exact (H.map id kd xs bk q2 h2).move hRR fun b M p2=>⟨Q5d p2 q1,rfl⟩
 ·cases hl:look t st'.s with
  | none=>simp only [St.get,hl,Option.getD_none];exact .bot
  | some v =>
   simp only [St.get,hl,Option.getD_some];rcases hs _ (Qc hl) with h|h
   ·simp only at h;rw [← h];exact (hx t).mono hRR (fun _ _ h=>h)
   simp only at h;rw [h];exact .bot
 rw [hn];exact hρ id kk hk'
end
end Go.Vc
