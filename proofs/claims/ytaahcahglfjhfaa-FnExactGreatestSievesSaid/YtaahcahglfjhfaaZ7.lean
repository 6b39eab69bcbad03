/- A part of the proof: a verified generator of conditions, and what each function of the program does. -/
import Derived.Test.YtaahcahglfjhfaaZ6
import Derived.Scope
set_option maxRecDepth 100000
set_option maxHeartbeats 4000000
set_option linter.unusedSimpArgs false
set_option linter.unusedVariables false

namespace Go.Vc
open Go
section
attribute [local simp] Qc Qw Qm
def shm (n cnt:Nat):List (Nat × Nat):=(List.range cnt).map fun i=>(i,n+i)
theorem look_map {n:Nat}:∀ (l:List Nat) (i:Nat),look i (l.map fun i=>(i,n+i))=if i∈l then some (n+i) else none:=by
 intro l
 induction l with
 | nil=>intro i;simp [look]
 | cons a r ih =>
  intro i;simp only [List.map_cons,look,ih,List.mem_cons]
  by_cases h:a=i
  ·subst h;simp
  have:¬ i=a:=fun q=>h q.symm;simp [h,this]
theorem Q3p {n cnt i:Nat}:look i (shm n cnt)=if i<cnt then some (n+i) else none:=by
 unfold shm;rw [look_map];simp
theorem shm_fst (n cnt:Nat):((shm n cnt).map Prod.fst).Nodup:=by
 have:(shm n cnt).map Prod.fst=List.range cnt:=by simp [shm,Function.comp_def]
 rw [this];exact List.nodup_range
theorem shm_snd (n cnt:Nat):((shm n cnt).map Prod.snd).Nodup:=by
 have:(shm n cnt).map Prod.snd=(List.range cnt).map (n + ·):=by simp [shm,Function.comp_def]
 rw [this];exact List.Pairwise.map (R:=fun a b=>a ≠ b) _ (fun a b h e=>h (by omega)) List.nodup_range
theorem ro_rel {w:World} {R:Nat→Prop} {ρ ρ':Nat→Option Bk} {v:Value} {a:AV} (h:XRel w R ρ v a) (ha:AV.ro a=true):XRel w R ρ' v a:=by
 cases h with
 | r h=>exact .r h
 | _=>simp [AV.ro] at ha
def Q32:Ent→Bool
 | .ali _ _ _ _=>false
 | _=>true
theorem ICon.lift {P:Program} {f:Nat} {vs:List AV} {e e':Eff} {h:HP} {n:Nat} (hc:ICon P f vs (fun _=>none) 0 e) (hro:∀ a∈vs,AV.ro a=true) (hs:e.set=[]∧e.del=[]) (hs':e'.set=[]∧e'.del=[]) (hcnt:e'.cnt=e.cnt)
  (hv:e'.v=rl (shm n e.cnt) e.v) (hna:∀ p∈e.new,Q32 p.2=true) (hnew:∀ i,i<e.cnt→∃ x y,look i e.new=some x∧rlE (shm n e.cnt) x=some y∧(n+i,y)∈e'.new) (hfine:e'.fine n):ICon P f vs h n e':=by
 refine ⟨hc.enters,fun _=>hfine,fun C w g h' vals hag hnw hlim W H hsz hargs=>?_⟩;have hf0:=hc.fine (fun id x hx=>by cases hx);have W0:WF ⟨w,fun _=>False,fun _=>none,0⟩ w ⟨g.R,fun _=>none,fun _=>none⟩:=⟨fun b hb=>⟨(W.R b hb).1,rfl⟩,(fun b L hb=>by cases hb),rfl,⟨rfl,Nat.le_refl _⟩,rfl,Nat.le_refl _,fun b _ _=>rfl⟩;have H0:HRel w ⟨g.R,fun _=>none,fun _=>none⟩ (fun id=>look id e.new):=⟨(fun id sz es bk _ hb=>by cases hb),(fun id sz es bk _ hb=>by cases hb),(fun id c i k sz bk _ hb=>by cases hb),(fun id kd es bk _ hb=>by cases hb)⟩;refine (hc.calls _ w _ _ vals (fun id hid=>absurd hid (Nat.not_lt_zero _)) (fun p hp=>QG hf0.nodup hp) (fun id k hk=>by cases hk) W0 H0 hsz (fun k hk=>ro_rel (hargs k hk) (hro _ (by
  rw [List.getD_eq_getElem?_getD,List.getElem?_eq_getElem hk];exact List.getElem_mem hk)))).mono fun ex w' ⟨v,R',o',ρ',q0,q1,q2,q3,q4,q5,q6,q7⟩=>?_
 rw [Q18 hs.1 hs.2] at q3;have ho':∀ b L,o' b=some L→w.heap.size≤b∧b<w'.heap.size:=fun b L hb=>⟨(q2.o b L hb).2.resolve_right id,(q2.o b L hb).1⟩;have hkeep:∀ b,b<w.heap.size→w'.heap[b]? = w.heap[b]?:=fun b hb=>q2.keep b hb id;have hgo:∀ b L,o' b=some L→g.o b=none:=by
  intro b L hb;cases hg:g.o b with
  | none=>rfl
  | some M=>have:=(W.o b M hg).1;have:=(ho' b L hb).1;omega
 have hm2:=shm_snd n e.cnt;have hrρ:∀ j bk,rlρ (shm n e.cnt) ρ' j=some bk→∃ i,i<e.cnt∧j=n+i∧look i (shm n e.cnt)=some j∧ρ' i=some bk:=by
  intro j bk hj;simp only [rlρ] at hj;split at hj
  ·rename_i i hi;have hl:=Q1A (shm_fst n e.cnt) hi;have hl2:=hl;rw [Q3p] at hl2;split at hl2
   ·rename_i hlt;simp only [Option.some.injEq] at hl2;exact ⟨i,hlt,hl2.symm,hl,hj⟩
   cases hl2
  cases hj
 have hgρ:∀ j bk,rlρ (shm n e.cnt) ρ' j=some bk→g.ρ j=none:=by
  intro j bk hj;obtain ⟨i,hi,rfl,_⟩:=hrρ j bk hj;cases hg:g.ρ (n+i) with
  | none=>rfl
  | some k=>have:=hlim _ _ hg;omega
 let o2:Nat→Option (List Nat):=fun b=>match g.o b with|some L=>some L|none=>rlo (shm n e.cnt) o' b
 let ρ2:Nat→Option Bk:=fun id=>match g.ρ id with|some k=>some k|none=>rlρ (shm n e.cnt) ρ' id
 have ho2:∀ b L,g.o b=some L→o2 b=some L:=fun b L hb=>by simp only [o2,hb]
 have ho3:∀ b i M,i<e.cnt→o' b=some (i :: M)→o2 b=some ((n+i) :: M):=by
  intro b i M hi hb;simp only [o2,hgo b _ hb,rlo,hb,Q3p,if_pos hi]
 have hρ2:∀ id k,g.ρ id=some k→ρ2 id=some k:=fun id k hk=>by simp only [ρ2,hk]
 have hρ3:∀ id k,rlρ (shm n e.cnt) ρ' id=some k→ρ2 id=some k:=fun id k hk=>by simp only [ρ2,hgρ id k hk,hk]
 have hX:∀ v a,XRel w' R' ρ' v a→XRel w' R' ρ2 v (rl (shm n e.cnt) a):=fun v a hx=>(Q5O hm2 hx).mono (fun b hb=>⟨hb,rfl⟩) hρ3;have hent:∀ id x bk,h' id=some x→g.ρ id=none→ρ2 id=some bk→∃ i y,i<e.cnt∧id=n+i∧ρ' i=some bk∧look i e.new=some y∧rlE (shm n e.cnt) y=some x∧Q32 y=true:=by
  intro id x bk hx hg hb;simp only [ρ2,hg] at hb;obtain ⟨i,hi,rfl,_,hr⟩:=hrρ id bk hb;obtain ⟨y,z,h1,h2,h3⟩:=hnew i hi;have:=hnw _ h3;simp only at this;rw [this] at hx;cases hx;exact ⟨i,y,hi,rfl,hr,h1,h2,hna _ (Qd h1)⟩
 have H1:HRel w' ⟨g.R,o2,g.ρ⟩ h':=H.mono (fun b hb=>hkeep b (W.R b hb).1) (fun b L hb=>⟨ho2 b L hb,hkeep b (W.o b L hb).1⟩) (fun _ _ hk=>hk) (fun id sz es bk _ h1 h2=>by rw [h1] at h2;cases h2) (fun id sz es bk _ h1 h2=>by rw [h1] at h2;cases h2)
  (fun id c i k sz bk _ h1 h2=>by rw [h1] at h2;cases h2)
 have H2:HRel w' ⟨R',o2,g.ρ⟩ h':=H1.growR q1.1;have H3:HRel w' ⟨R',o2,ρ2⟩ h':=by
  refine H2.mono (fun _ _=>rfl) (fun b L hb=>⟨hb,rfl⟩) hρ2 (fun id sz es bk he hg hb=>?_) (fun id sz es bk he hg hb=>?_) (fun id c i k sz bk he hg hb=>?_) (fun id kd es bk he hg hb=>?_)
  ·obtain ⟨i,y,hi,rfl,hr,h1,h2,h3⟩:=hent id _ bk he hg hb;cases y with
   | mix s2 e2 =>
    simp only [rlE,Option.some.injEq,Ent.mix.injEq] at h2;obtain ⟨rfl,rfl⟩:=h2;rcases (q3.mix i _ _ bk h1 hr).ex0 with ⟨rfl,h0⟩|⟨b,cur,el,us,cpm,p1,p2,p3,p4,p5,p5',p6,p7,p8,p9⟩
    ·exact ⟨.inl ⟨rfl,h0⟩⟩
    refine .mk' ⟨b,cur,el,us,cpm,p1,ho3 b i [] hi p2,p3,p4,by rw [QX];exact p5,p5',fun j hj=>?_,fun j l hj hl=>?_,fun j l hj hl=>?_,fun j l hj hl=>?_⟩
    ·rw [QX] at hj;rw [Q3m,Qs];exact p6 j hj
    ·rw [QX] at hj;exact p7 j l hj hl
    ·rw [QX] at hj;exact p8 j l hj hl
    rw [QX] at hj;rw [Q3m,Q1r];exact hX _ _ (p9 j l hj hl)
   | row=>simp [rlE] at h2
   | mapE=>simp [rlE] at h2
   | ali=>cases h3
  ·obtain ⟨i,y,hi,rfl,hr,h1,h2,h3⟩:=hent id _ bk he hg hb;cases y with
   | mix=>simp [rlE] at h2
   | row s2 e2 =>
    simp only [rlE,Option.some.injEq,Ent.row.injEq] at h2;obtain ⟨rfl,rfl⟩:=h2;obtain ⟨v,hv,hh2⟩:=q3.row i _ _ bk h1 hr;exact ⟨v,hv.mono (R':=R') [n+i] fun b M hbo=>⟨ho3 b i M hi hbo,rfl⟩,hh2⟩
   | mapE=>simp [rlE] at h2
   | ali=>cases h3
  ·obtain ⟨i0,y,hi,rfl,hr,h1,h2,h3⟩:=hent id _ bk he hg hb;cases y with
   | mix=>simp [rlE] at h2
   | row=>simp [rlE] at h2
   | mapE=>simp [rlE] at h2
   | ali=>cases h3
  obtain ⟨i,y,hi,rfl,hr,h1,h2,h3⟩:=hent id _ bk he hg hb;cases y with
  | mix=>simp [rlE] at h2
  | row=>simp [rlE] at h2
  | mapE kd2 e2 =>
   simp only [rlE,Option.some.injEq,Ent.mapE.injEq] at h2;obtain ⟨rfl,rfl⟩:=h2;exact (q3.map i _ _ bk h1 hr).move (fun b hb=>⟨hb,rfl⟩) fun b M p2=>⟨ho3 b i M hi p2,rfl⟩
  | ali=>cases h3
 refine ⟨v,R',o2,ρ2,q0,⟨q1.1,fun b hb=>(q1.2 b hb).imp id (Nat.le_trans W.size)⟩,⟨fun b hb=>⟨(q2.R b hb).1,?_⟩,fun b L hb=>?_,q2.os.trans W.os,tpt q2.tape W.tape,q2.output.trans W.output,Nat.le_trans W.size q2.size,fun b hb hw=>(hkeep b (Nat.lt_of_lt_of_le hb W.size)).trans (W.keep b hb hw)⟩,by rw [Q18 hs'.1 hs'.2];exact H3,hρ2,fun id k hk=>?_,by rw [hv];exact hX _ _ q6,q7⟩
 ·have h1:o' b=none:=(q2.R b hb).2;show o2 b=none;rcases q1.2 b hb with hg|hg
  ·simp only [o2,show g.o b=none from (W.R b hg).2,rlo,h1]
  have hg':g.o b=none:=by
   cases hq:g.o b with
   | none=>rfl
   | some M=>have:=(W.o b M hq).1;simp only at hg;omega
  simp only [o2,hg',rlo,h1]
 ·have hb':o2 b=some L:=hb;cases hq:g.o b with
  | some M=>exact ⟨Nat.lt_of_lt_of_le (W.o b M hq).1 q2.size,(W.o b M hq).2⟩
  | none =>
   simp only [o2,hq,rlo] at hb';split at hb'
   ·rename_i x M hx;exact ⟨(ho' b _ hx).2,.inl (Nat.le_trans W.size (ho' b _ hx).1)⟩
   cases hb'
 have hk':ρ2 id=some k:=hk;cases hg:g.ρ id with
 | some k2=>simp only [ρ2,hg] at hk';exact .inl hk'
 | none =>
  simp only [ρ2,hg] at hk';obtain ⟨i,hi,rfl,_⟩:=hrρ id k hk';exact .inr ⟨by omega,by omega⟩
def rlE' (m:List (Nat × Nat)) (x:Ent):Ent:=(rlE m x).getD x
@[simp] theorem rlE'_mix {m:List (Nat × Nat)} {sz:Nat} {es:List (List AV)}:rlE' m (.mix sz es) = .mix sz (rlLL m es):=rfl
@[simp] theorem rlE'_row {m:List (Nat × Nat)} {sz:Nat} {es:List (List AV)}:rlE' m (.row sz es) = .row sz es:=rfl
@[simp] theorem rlE'_map {m:List (Nat × Nat)} {kd:MK} {es:List (Value × Value)}:rlE' m (.mapE kd es) = .mapE kd es:=rfl
theorem ICon.liftL {P:Program} {f:Nat} {vs:List AV} {e e':Eff} {h:HP} {n:Nat} (hc:ICon P f vs (fun _=>none) 0 e) (hro:∀ a∈vs,AV.ro a=true) (hs:e.set=[]∧e.del=[]) (hs':e'.set=[]∧e'.del=[]) (hcnt:e'.cnt=e.cnt)
  (hv:e'.v=rl (shm n e.cnt) e.v) (hna:∀ p∈e.new,Q32 p.2=true) (hcomp:newB 0 e.cnt (e.new.map Prod.fst)=true) (hn:e'.new=e.new.map fun p=>(n+p.1,rlE' (shm n e.cnt) p.2)) (hfine:e'.fine n):ICon P f vs h n e':=by
 refine hc.lift hro hs hs' hcnt hv hna (fun i hi=>?_) hfine;have hm:=newI (n:=0) (e:=e) hcomp i (Nat.zero_le _) (by omega);obtain ⟨p,hp,rfl⟩:=List.mem_map.1 hm;have hf0:=hc.fine (fun id x hx=>by cases hx);refine ⟨p.2,rlE' (shm n e.cnt) p.2,QG hf0.nodup hp,?_,by rw [hn];exact List.mem_map.2 ⟨p,hp,rfl⟩⟩;have:=hna p hp;generalize p.2=x at this;cases x with
 | ali=>cases this
 | _=>rfl
end
section
attribute [local simp] Qc Qw Qm
theorem Contract.toF1 {P:Program} {f:Nat} {args:List AV} {u:Bool} {sz:Nat} {es:List (List AV)} (hc:Contract P f args (.lst u sz es)):FContract P false f args (.lst u sz es):=by
 refine ⟨hc.enters,fun w R vals hR hsz hx=>?_⟩;refine (hc.calls w R vals hR hsz hx).mono fun e w' ⟨v,o,he,hb,ho,hres⟩=>?_;refine ⟨v,fun b=>∃ L,o b=some L,he,hb,fun b ⟨L,hL⟩=>⟨(ho b L hL).2,.inr (ho b L hL).1⟩,?_⟩;have h1:one v:=hres.sh;have h:=hres.cell 0 (by simp [flat,AV.cells]);have e1:(Q1f v).getD 0 undef=v:=by
  revert h1
  unfold one Value.oneCell' Q1f;cases v<;>simp [Value.cells]
 rw [e1] at h;exact .r (h.pure fun b hb=>hb.resolve_left id)
theorem Wk.frz {F:Fx} {st st':St} (hW:∀ b,¬ F.C.wrb b) (fz:List (Nat × List AV)) (m:List (Nat × Nat)) (hz:∀ q∈fz,look q.1 m=none∧look q.1 st.h=some (.mix q.2.length [q.2])∧∀ c∈q.2,c.ro=true)
  (h:(m.map Prod.fst).Nodup∧(m.map Prod.snd).Nodup∧(∀ id,id<F.pins→look id m=some id)∧(∀ p∈m,p.2<st'.n)∧(∀ p∈st'.h,p.1<st'.n)∧(∀ p∈st'.s,p.2=rl m (st.get p.1)∨p.2 = .bot∨∃ q∈fz,st.get p.1 = .adr q.1 0 0∧p.2 = .rptr q.2)∧∀ p∈st'.h,hhOk m st.h p.1 p.2):Wk F st st':=by
 obtain ⟨h1,h2,hpin,hn,hok,hs,hh⟩:=h;refine Wk.relabelZ fz (.inr hW) m (fun q hq=>⟨(hz q hq).1,(hz q hq).2.1,fun c hc {_ _ _ _} hx=>hx.toR ((hz q hq).2.2 c hc)⟩) h1 h2 (Q72 h1 h2 hpin hn).1 (Q72 h1 h2 hpin hn).2 hn hok hs fun p hp=>?_;have:=hh p hp;unfold hhOk at this;obtain ⟨e,he,hr⟩:=Option.bind_eq_some_iff.1 this;obtain ⟨i,hi,hl⟩:=Option.bind_eq_some_iff.1 he;exact ⟨i,e,Q1A h1 hi,hl,hr⟩
end
section
attribute [local simp] Qc Qw Qm
def mxt (m:List (Nat × Nat)) (n0 n cnt:Nat):List (Nat × Nat):=m++(List.range cnt).map fun i=>(n0+i,n+i)
theorem ICon.frame {P:Program} {f:Nat} {as0 az:List AV} {H0:List (Nat × Ent)} {n0:Nat} {e0 e:Eff} {h:HP} {n:Nat} (hc:ICon P f as0 (fun id=>look id H0) n0 e0) (m:List (Nat × Nat))
  (hm1:m.map Prod.fst=List.range n0) (hm2:(m.map Prod.snd).Nodup) (hm3:∀ p∈m,p.2<n) (hH0:∀ p∈H0,p.1<n0)
  (hpre:∀ p∈m,∃ x y,look p.1 H0=some x∧h p.2=some y∧rlE (back m) y=some x∧rlE (mxt m n0 n e0.cnt) x=some y) (has:as0=rlL (back m) az) (hali:∀ id,id<n→∀ c i k sz,h id ≠ some (.ali c i k sz))
  (hcnt:e.cnt=e0.cnt) (hv:e.v=rl (mxt m n0 n e0.cnt) e0.v) (hset:∀ i j,look i m=some j→look j e.set=(look i e0.set).map (rlE' (mxt m n0 n e0.cnt))) (hset2:∀ j,(∀ i,look i m ≠ some j)→look j e.set=none)
  (hdel:∀ i j,look i m=some j→(j∈e.del↔i∈e0.del)) (hdel2:∀ j,(∀ i,look i m ≠ some j)→¬ j∈e.del) (hna:(∀ p∈e0.set,Q32 p.2=true)∧∀ p∈e0.new,Q32 p.2=true)
  (hcomp:∀ i,i<e0.cnt→∃ x,look (n0+i) e0.new=some x∧(n+i,rlE' (mxt m n0 n e0.cnt) x)∈e.new) (hfine:e.fine n):ICon P f az h n e:=by
 refine ⟨hc.enters,fun _=>hfine,fun C w g h' vals hag hnw hlim W H hsz hargs=>?_⟩;have hf0:=hc.fine (fun id x hx=>hH0 _ (Qd hx));generalize hmx:mxt m n0 n e0.cnt=mx at *;have hm1n:(m.map Prod.fst).Nodup:=by rw [hm1];exact List.nodup_range
 have hb2:((back m).map Prod.snd).Nodup:=by
  have:(back m).map Prod.snd=m.map Prod.fst:=by simp [back,Function.comp_def]
  rw [this];exact hm1n
 have hb1:((back m).map Prod.fst).Nodup:=by
  have:(back m).map Prod.fst=m.map Prod.snd:=by simp [back,Function.comp_def]
  rw [this];exact hm2
 have hml:∀ i,i<n0→∃ j,look i m=some j:=by
  intro i hi;have:i∈m.map Prod.fst:=by rw [hm1];simpa using hi
  obtain ⟨p,hp,rfl⟩:=List.mem_map.1 this;exact ⟨p.2,QG hm1n hp⟩
 have hmlt:∀ i j,look i m=some j→i<n0∧j<n:=by
  intro i j hij;have hp:=Qd hij;refine ⟨?_,hm3 _ hp⟩;have:i∈m.map Prod.fst:=List.mem_map.2 ⟨_,hp,rfl⟩;rw [hm1] at this;simpa using this
 have hxl:∀ i,look i mx=match look i m with|some j=>some j|none=>if n0≤i∧i<n0+e0.cnt then some (n+(i - n0)) else none:=by
  intro i;rw [← hmx];unfold mxt;have hr:∀ (k s:Nat),look i ((List.range' s k).map fun q=>(n0+q,n+q))=if n0+s≤i∧i<n0+(s+k) then some (n+(i - n0)) else none:=by
   intro k
   induction k with
   | zero=>intro s;simp [look]
   | succ k ih =>
    intro s;rw [List.range'_succ];simp only [List.map_cons,look]
    by_cases hq:n0+s=i
    ·subst hq;simp
    rw [if_neg (by simpa using hq),ih (s+1)]
    by_cases hz:n0+(s+1)≤i∧i<n0+(s+1+k)
    ·rw [if_pos hz,if_pos (by omega)]
    rw [if_neg hz,if_neg (by omega)]
  have happd:∀ (a b:List (Nat × Nat)),look i (a++b)=match look i a with|some j=>some j|none=>look i b:=by
   intro a b
   induction a with
   | nil=>simp [look]
   | cons p r ih =>
    simp only [List.cons_append,look]
    by_cases hq:p.1=i
    ·simp [hq]
    simp only [hq,if_false,ih]
  rw [happd,List.range_eq_range',hr];simp
 have hx1:∀ i id,look i mx=some id→(look i m=some id∧i<n0∧id<n)∨(n0≤i∧i<n0+e0.cnt∧id=n+(i - n0)):=by
  intro i id hi;rw [hxl] at hi;cases hl:look i m with
  | some j =>
   rw [hl] at hi;simp only [Option.some.injEq] at hi;subst hi;exact .inl ⟨rfl,(hmlt i j hl).1,(hmlt i j hl).2⟩
  | none =>
   rw [hl] at hi;simp only at hi;split at hi
   ·rename_i hq;simp only [Option.some.injEq] at hi;exact .inr ⟨hq.1,hq.2,hi.symm⟩
   cases hi
 have hxm:∀ i j,look i m=some j→look i mx=some j:=by intro i j hij;rw [hxl,hij]
 have hx1n:(mx.map Prod.fst).Nodup:=by
  have:mx.map Prod.fst=List.range (n0+e0.cnt):=by rw [← hmx];simp [mxt,hm1,Function.comp_def,List.range_add]
  rw [this];exact List.nodup_range
 have hx2n:(mx.map Prod.snd).Nodup:=by
  have:mx.map Prod.snd=m.map Prod.snd++(List.range e0.cnt).map (n + ·):=by rw [← hmx];simp [mxt,Function.comp_def]
  rw [this,List.nodup_append];refine ⟨hm2,List.Pairwise.map (R:=fun a b=>a ≠ b) _ (fun a b h e=>h (by omega)) List.nodup_range,?_⟩;intro a ha b hb e;obtain ⟨p,hp,rfl⟩:=List.mem_map.1 ha;obtain ⟨q,_,rfl⟩:=List.mem_map.1 hb;have:=hm3 p hp;omega
 have ho0:∀ b L,rlo (back m) g.o b=some L→∃ M,g.o b=some M:=by
  intro b L hb;simp only [rlo] at hb;split at hb
  ·rename_i hq;exact ⟨_,hq⟩
  cases hb
 let C0:Ctx:=⟨w,fun b=>∃ L,rlo (back m) g.o b=some L,fun _=>none,0⟩
 let g0:Gh:=⟨g.R,rlo (back m) g.o,rlρ (back m) g.ρ⟩
 let h0':HP:=fun id=>if id<n0 then look id H0 else look id e0.new
 have W0:WF C0 w g0:=by
  refine ⟨fun b hb=>⟨(W.R b hb).1,?_⟩,fun b L hb=>?_,rfl,⟨rfl,Nat.le_refl _⟩,rfl,Nat.le_refl _,fun b _ _=>rfl⟩
  ·show rlo (back m) g.o b=none;simp only [rlo,(W.R b hb).2]
  obtain ⟨M,hM⟩:=ho0 b L hb;exact ⟨(W.o b M hM).1,.inr ⟨L,hb⟩⟩
 have hρb:∀ i k,rlρ (back m) g.ρ i=some k→∃ j,look i m=some j∧g.ρ j=some k:=by
  intro i k hk;simp only [rlρ] at hk;split at hk
  ·rename_i j hj;exact ⟨j,Q1A hm1n (Q1A hb1 hj),hk⟩
  cases hk
 have hρb2:∀ i j,look i m=some j→rlρ (back m) g.ρ i=g.ρ j:=by
  intro i j hij;have:=Q1e hb2 (Q1e hm2 hij);simp only [rlρ,this]
 have H00:HRel w g0 h0':=by
  have q:HRel w g0 (fun id=>look id H0):=by
   refine HRel.relabel (w:=w) (R:=g.R) (o:=g.o) (ρ:=g.ρ) H (back m) hb2 fun i x hx=>?_;obtain ⟨j,hij⟩:=hml i (hH0 _ (Qd hx));obtain ⟨x',y,z1,z2,z3,_⟩:=hpre _ (Qd hij);simp only at z1 z2;rw [hx] at z1;cases z1;exact ⟨j,y,Q1e hm2 hij,by rw [hag j (hmlt i j hij).2];exact z2,z3⟩
  refine q.grow fun i k hk=>?_;obtain ⟨j,hij,_⟩:=hρb i k hk;exact if_pos (hmlt i j hij).1
 have hsz0:vals.size=as0.length:=by rw [has,Qs];exact hsz
 have hargs0:∀ k,k<as0.length→XRel w g0.R g0.ρ (vals.getD k undef) (as0.getD k .bot):=fun k hk=>by
  rw [has,Qs] at hk;rw [has,Q1r];exact Q5O hb2 (hargs k hk)
 refine (hc.calls C0 w g0 h0' vals (fun i hi=>if_pos hi) (fun p hp=>?_) (fun i k hk=>?_) W0 H00 hsz0 hargs0).mono fun ex w' ⟨v,R',o1,ρ1,q0,q1,q2,q3,q4,q5,q6,q7⟩=>?_
 ·have:=(hf0.new p hp).1;show (if p.1<n0 then look p.1 H0 else look p.1 e0.new)=some p.2;rw [if_neg (by omega)];exact QG hf0.nodup hp
 ·obtain ⟨j,hij,_⟩:=hρb i k hk;exact (hmlt i j hij).1
 have q1':RX g.R R' w.heap.size:=q1;have hwR:∀ b L,g.o b=some L→b<w.heap.size:=fun b L hb=>(W.o b L hb).1;have hRo:∀ b L,g.o b=some L→¬ R' b:=by
  intro b L hb hR;rcases q1'.2 b hR with h1|h1
  ·have:=(W.R b h1).2;rw [hb] at this;cases this
  have:=hwR b L hb;omega
 have hkeep:∀ b,b<w.heap.size→rlo (back m) g.o b=none→w'.heap[b]? = w.heap[b]?∧o1 b=none:=by
  intro b hb ho;have hn:¬ C0.wrb b:=by rintro ⟨L,hL⟩;rw [ho] at hL;cases hL
  refine ⟨q2.keep b hb hn,?_⟩;cases hq:o1 b with
  | none=>rfl
  | some L =>
   rcases (q2.o b L hq).2 with h1|h1
   ·have:w.heap.size≤b:=h1;omega
   exact absurd h1 hn
 haveI:∀ b,Decidable ((∃ L,rlo (back m) g.o b=some L)∨R' b):=fun b=>Classical.propDecidable _
 let o2:Nat→Option (List Nat):=fun b=>match rlo mx o1 b with
  | some L=>some L
  | none=>if (∃ L,rlo (back m) g.o b=some L)∨R' b then none else g.o b
 let ρ2:Nat→Option Bk:=fun id=>match g.ρ id with|some k=>some k|none=>rlρ mx ρ1 id
 have hρ2:∀ id k,g.ρ id=some k→ρ2 id=some k:=fun id k hk=>by simp only [ρ2,hk]
 have ho2:∀ b L,rlo mx o1 b=some L→o2 b=some L:=fun b L hb=>by simp only [o2,hb]
 have hρx:∀ i id,look i mx=some id→rlρ mx ρ1 id=ρ1 i:=fun i id hi=>by simp only [rlρ,Q1e hx2n hi]
 have hρx2:∀ id k,rlρ mx ρ1 id=some k→∃ i,look i mx=some id∧ρ1 i=some k:=by
  intro id k hk;simp only [rlρ] at hk;split at hk
  ·rename_i i hi;exact ⟨i,Q1A hx1n hi,hk⟩
  cases hk
 have hgx:∀ i id k,look i mx=some id→g.ρ id=some k→ρ1 i=some k:=by
  intro i id k hi hk;rcases hx1 i id hi with ⟨h1,_,_⟩|⟨h1,_,h3⟩
  ·exact q4 i k (by show rlρ (back m) g.ρ i=some k;rw [hρb2 i id h1];exact hk)
  have:=hlim id k hk;omega
 have hρ3:∀ id k,rlρ mx ρ1 id=some k→ρ2 id=some k:=by
  intro id k hk;cases hg:g.ρ id with
  | none=>simp only [ρ2,hg];exact hk
  | some k2 =>
   obtain ⟨i,hi,h1⟩:=hρx2 id k hk;have:=hgx i id k2 hi hg;rw [h1] at this;cases this;exact hρ2 id _ hg
 have hρ4:∀ i id k,look i mx=some id→ρ2 id=some k→rlρ mx ρ1 id=some k:=by
  intro i id k hi hk;cases hg:g.ρ id with
  | none=>simpa only [ρ2,hg] using hk
  | some k2 =>
   have e1:ρ2 id=some k2:=hρ2 id _ hg;rw [hk] at e1;cases e1;rw [hρx i id hi];exact hgx i id _ hi hg
 have hX:∀ v a,XRel w' R' ρ1 v a→XRel w' R' ρ2 v (rl mx a):=fun v a hx=>(Q5O hx2n hx).mono (fun b hb=>⟨hb,rfl⟩) hρ3
 let hF:HP:=fun id=>match look id (back mx) with|some i=>(happ e0 h0' i).bind (rlE mx)|none=>none
 have HF:HRel w' ⟨R',rlo mx o1,rlρ mx ρ1⟩ hF:=by
  refine HRel.relabel (w:=w') (R:=R') (o:=o1) (ρ:=ρ1) q3 mx hx2n fun id x hx=>?_;simp only [hF] at hx;split at hx
  ·rename_i i hi;obtain ⟨y,h1,h2⟩:=Option.bind_eq_some_iff.1 hx;exact ⟨i,y,Q1A hx1n hi,h1,h2⟩
  cases hx
 have hno:∀ id x k,hF id=some x→rlρ mx ρ1 id=none→ρ2 id=some k→False:=by
  intro id x k hx h1 h2;simp only [hF] at hx;split at hx
  ·rename_i i hi;rw [hρ4 i id k (Q1A hx1n hi) h2] at h1;cases h1
  cases hx
 have HF2:HRel w' ⟨R',o2,ρ2⟩ hF:=HF.mono (fun _ _=>rfl) (fun b L hb=>⟨ho2 b L hb,rfl⟩) hρ3 (fun id sz es bk h1 h2 h3=>(hno id _ bk h1 h2 h3).elim) (fun id sz es bk h1 h2 h3=>(hno id _ bk h1 h2 h3).elim)
  (fun id c i k sz bk h1 h2 h3=>(hno id _ bk h1 h2 h3).elim) (fun id kd es bk h1 h2 h3=>(hno id _ bk h1 h2 h3).elim)
 have hE:∀ x,Q32 x=true→rlE mx x=some (rlE' mx x):=by
  intro x hx;cases x with
  | ali=>cases hx
  | _=>rfl
 have hT:∀ i id,look i mx=some id→happ e h' id=(happ e0 h0' i).bind (rlE mx):=by
  intro i id hi;rcases hx1 i id hi with ⟨h1,h2,h3⟩|⟨h1,h2,h3⟩
  ·simp only [happ,hset i id h1];cases hs:look i e0.set with
   | some x=>simp only [Option.map_some,Option.bind_some];exact (hE x (hna.1 _ (Qd hs))).symm
   | none =>
    simp only [Option.map_none]
    by_cases hd:i∈e0.del
    ·rw [if_pos ((hdel i id h1).2 hd),if_pos hd];rfl
    rw [if_neg (fun q=>hd ((hdel i id h1).1 q)),if_neg hd];obtain ⟨x,y,z1,z2,_,z4⟩:=hpre _ (Qd h1);simp only at z1 z2;have:h0' i=some x:=(by show (if i<n0 then look i H0 else look i e0.new)=some x;rw [if_pos h2];exact z1);rw [hag id h3,z2,this];exact z4.symm
  have hs:look id e.set=none:=hset2 id fun i' hi'=>by have:=(hmlt i' id hi').2;omega
  have hd:¬ id∈e.del:=hdel2 id fun i' hi'=>by have:=(hmlt i' id hi').2;omega
  have hs0:look i e0.set=none:=by
   cases hq:look i e0.set with
   | none=>rfl
   | some x=>have:=hf0.sets.2 _ (Qd hq);simp only at this;omega
  have hd0:¬ i∈e0.del:=fun q=>by have:=hf0.del i q;omega
  simp only [happ,hs,hs0];rw [if_neg hd,if_neg hd0];obtain ⟨x,z1,z2⟩:=hcomp (i - n0) (by omega);rw [show n0+(i - n0)=i by omega] at z1;have e1:h0' i=some x:=by show (if i<n0 then look i H0 else look i e0.new)=some x;rw [if_neg (by omega)];exact z1
  rw [← h3] at z2;rw [hnw _ z2,e1];exact (hE x (hna.2 _ (Qd z1))).symm
 have hI:∀ id,look id (back mx)=none→(look id (back m)=none)∧(id<n→happ e h' id=h' id)∧rlρ mx ρ1 id=none:=by
  intro id hid;have h1:∀ i,look i m ≠ some id:=fun i hi=>by
   have:=Q1e hx2n (hxm i id hi);rw [hid] at this;cases this
  refine ⟨?_,fun _=>?_,by simp only [rlρ,hid]⟩
  ·cases hq:look id (back m) with
   | none=>rfl
   | some i=>exact absurd (Q1A hm1n hq) (h1 i)
  simp only [happ,hset2 id h1];rw [if_neg (hdel2 id h1)]
 have hirr:∀ id b M,look id (back m)=none→g.o b=some (id :: M)→o2 b=some (id :: M)∧w'.heap[b]? = w.heap[b]?:=by
  intro id b M hid hb;have h0:rlo (back m) g.o b=none:=by simp only [rlo,hb,hid]
  obtain ⟨k1,k2⟩:=hkeep b (hwR b _ hb) h0;refine ⟨?_,k1⟩;have h1:rlo mx o1 b=none:=by simp only [rlo,k2]
  simp only [o2,h1];rw [if_neg]
  ·exact hb
  rintro (⟨L,hL⟩|hR)
  ·rw [h0] at hL;cases hL
  exact hRo b _ hb hR
 have hXi:∀ v a,XRel w g.R g.ρ v a→XRel w' R' ρ2 v a:=fun v a hx=>hx.mono (fun b hb=>⟨q1'.1 b hb,q7 b hb⟩) hρ2;have hsplit:∀ id x k,happ e h' id=some x→ρ2 id=some k→hF id=some x∨(look id (back m)=none∧id<n∧h' id=some x∧g.ρ id=some k):=by
  intro id x k hx hk;cases hl:look id (back mx) with
  | some i =>
   left;simp only [hF,hl];rw [← hT i id (Q1A hx1n hl)];exact hx
  | none =>
   right;obtain ⟨i1,i2,i3⟩:=hI id hl;have hg:g.ρ id=some k:=by
    cases hg:g.ρ id with
    | none=>simp only [ρ2,hg,i3] at hk;cases hk
    | some k2=>have:=hρ2 id _ hg;rw [hk] at this;exact this.symm
   have hlt:=hlim id k hg;exact ⟨i1,hlt,by rw [← i2 hlt];exact hx,hg⟩
 refine ⟨v,R',o2,ρ2,q0,⟨q1'.1,fun b hb=>(q1'.2 b hb).imp id (Nat.le_trans W.size)⟩,⟨fun b hb=>⟨(q2.R b hb).1,?_⟩,fun b L hb=>?_,q2.os.trans W.os,tpt q2.tape W.tape,q2.output.trans W.output,Nat.le_trans W.size q2.size,fun b hb hw=>?_⟩,
  ⟨fun id sz es bk he hb=>?_,fun id sz es bk he hb=>?_,fun id c i k sz bk he hb=>?_,fun id kd es bk he hb=>?_⟩,hρ2,fun id k hk=>?_,by rw [hv];exact hX _ _ q6,q7⟩
 ·have h1:o1 b=none:=(q2.R b hb).2;show o2 b=none;have h2:rlo mx o1 b=none:=by simp only [rlo,h1]
  simp only [o2,h2];rw [if_pos (.inr hb)]
 ·have hb':o2 b=some L:=hb;cases hq:rlo mx o1 b with
  | some M =>
   have:∃ L1,o1 b=some L1:=by
    simp only [rlo] at hq;split at hq
    ·rename_i h3;exact ⟨_,h3⟩
    cases hq
   obtain ⟨L1,h1⟩:=this;obtain ⟨k1,k2⟩:=q2.o b L1 h1;refine ⟨k1,?_⟩;rcases k2 with k2|⟨L2,k2⟩
   ·exact .inl (Nat.le_trans W.size k2)
   obtain ⟨M2,h3⟩:=ho0 b L2 k2;exact (W.o b M2 h3).2
  | none =>
   simp only [o2,hq] at hb';split at hb'
   ·cases hb'
   exact ⟨Nat.lt_of_lt_of_le (hwR b L hb') q2.size,(W.o b L hb').2⟩
 ·have h1:b<w.heap.size:=Nat.lt_of_lt_of_le hb W.size;have h2:rlo (back m) g.o b=none:=by
   cases hq:rlo (back m) g.o b with
   | none=>rfl
   | some L =>
    obtain ⟨M,hM⟩:=ho0 b L hq;rcases (W.o b M hM).2 with h3|h3
    ·omega
    exact absurd h3 hw
  exact (hkeep b h1 h2).1.trans (W.keep b hb hw)
 ·rcases hsplit id _ bk he hb with h1|⟨h1,_,h3,h4⟩
  ·exact HF2.mix id sz es bk h1 hb
  rcases (H.mix id sz es bk h3 h4).ex0 with h0|⟨b,cur,el,us,cpm,p1,p2,p3,p4,p5,p5',p6,p7,p8,p9⟩
  ·exact ⟨.inl h0⟩
  obtain ⟨k1,k2⟩:=hirr id b [] h1 p2;exact .mk' ⟨b,cur,el,us,cpm,p1,k1,k2.trans p3,p4,p5,p5',p6,p7,p8,fun j l hj hl=>hXi _ _ (p9 j l hj hl)⟩
 ·rcases hsplit id _ bk he hb with h1|⟨h1,_,h3,h4⟩
  ·exact HF2.row id sz es bk h1 hb
  obtain ⟨v,hv,hh⟩:=H.row id sz es bk h3 h4;exact ⟨v,hv.mono (R':=R') [id] fun b M hbo=>hirr id b M h1 hbo,hh⟩
 ·rcases hsplit id _ bk he hb with h1|⟨h1,h2,h3,h4⟩
  ·exfalso;simp only [hF] at h1;split at h1
   ·rename_i i0 hi0;obtain ⟨y,h5,h6⟩:=Option.bind_eq_some_iff.1 h1;have hy:Q32 y=true:=by
     have hi:=Q1A hx1n hi0;simp only [happ] at h5;split at h5
     ·rename_i z hz;simp only [Option.some.injEq] at h5;subst h5;exact hna.1 _ (Qd hz)
     split at h5
     ·cases h5
     have h5':(if i0<n0 then look i0 H0 else look i0 e0.new)=some y:=h5;split at h5'
     ·rename_i hlt;obtain ⟨j,hij⟩:=hml i0 hlt;obtain ⟨x,y',z1,z2,z3,z4⟩:=hpre _ (Qd hij);simp only at z1 z2;rw [h5'] at z1;cases z1;cases y with
      | ali c2 i2 k2 s2 =>
       exfalso;cases y' with
       | ali c3 i3 k3 s3=>exact hali j (hmlt i0 j hij).2 _ _ _ _ z2
       | mix=>simp [rlE] at z3
       | row=>simp [rlE] at z3
       | mapE=>simp [rlE] at z3
      | _=>rfl
     exact hna.2 _ (Qd h5')
    rw [hE y hy] at h6;cases y with
    | ali=>cases hy
    | mix=>simp [rlE',rlE] at h6
    | row=>simp [rlE',rlE] at h6
    | mapE=>simp [rlE',rlE] at h6
   cases h1
  rw [hag id h2] at h3;exact absurd h3 (hali id h2 _ _ _ _)
 ·rcases hsplit id _ bk he hb with h1|⟨h1,_,h3,h4⟩
  ·exact HF2.map id kd es bk h1 hb
  exact (H.map id kd es bk h3 h4).move (fun b hb=>⟨q1'.1 b hb,q7 b hb⟩) fun b M p2=>hirr id b M h1 p2
 cases hg:g.ρ id with
 | some k2=>have:=hρ2 id _ hg;rw [hk] at this;exact .inl this.symm
 | none =>
  right;simp only [ρ2,hg] at hk;obtain ⟨i,hi,h1⟩:=hρx2 id k hk;rcases q5 i k h1 with h2|h2
  ·obtain ⟨j,hij,h3⟩:=hρb i k h2;have:=hxm i j hij;rw [hi] at this;cases this;rw [hg] at h3;cases h3
  rcases hx1 i id hi with ⟨_,h4,_⟩|⟨_,h4,h5⟩
  ·omega
  rw [hcnt];omega
def trm (m:List (Nat × Nat)) (i:Nat):Nat:=(look i m).getD 0
theorem ICon.frameL {P:Program} {f:Nat} {as0 az:List AV} {H0 H:List (Nat × Ent)} {n0:Nat} {e0 e:Eff} {n:Nat} (hc:ICon P f as0 (fun id=>look id H0) n0 e0) (m:List (Nat × Nat)) (hm1:m.map Prod.fst=List.range n0) (hm2:(m.map Prod.snd).Nodup∧(∀ p∈m,p.2<n)∧(∀ p∈H0,p.1<n0))
  (hpre:∀ p∈m,(look p.1 H0).isSome=true∧(look p.2 H).bind (rlE (back m))=look p.1 H0∧(look p.1 H0).bind (rlE (mxt m n0 n e0.cnt))=look p.2 H) (has:as0=rlL (back m) az) (hali:∀ p∈H,Q32 p.2=true)
  (hcnt:e.cnt=e0.cnt) (hv:e.v=rl (mxt m n0 n e0.cnt) e0.v) (hset:e.set=e0.set.map fun p=>(trm m p.1,rlE' (mxt m n0 n e0.cnt) p.2)) (hdel:e.del=e0.del.map (trm m)) (hnew:e.new=e0.new.map fun p=>(n+(p.1 - n0),rlE' (mxt m n0 n e0.cnt) p.2))
  (hna:(∀ p∈e0.set,Q32 p.2=true)∧∀ p∈e0.new,Q32 p.2=true) (hcomp:newB n0 e0.cnt (e0.new.map Prod.fst)=true) (hfine:e.fine n):ICon P f az (fun id=>look id H) n e:=by
 have hf0:=hc.fine (fun id x hx=>hm2.2.2 _ (Qd hx));have hm1n:(m.map Prod.fst).Nodup:=by rw [hm1];exact List.nodup_range
 have hin:∀ i,i<n0→∃ j,look i m=some j:=by
  intro i hi;have:i∈m.map Prod.fst:=by rw [hm1];simpa using hi
  obtain ⟨p,hp,rfl⟩:=List.mem_map.1 this;exact ⟨p.2,QG hm1n hp⟩
 have hlt:∀ i j,look i m=some j→i<n0:=by
  intro i j hij;have:i∈m.map Prod.fst:=List.mem_map.2 ⟨_,Qd hij,rfl⟩;rw [hm1] at this;simpa using this
 have tr:∀ i j,look i m=some j→trm m i=j:=fun i j h=>by simp [trm,h]
 have inj:∀ i i' j,look i m=some j→i' < n0→trm m i'=j→i'=i:=by
  intro i i' j hij hi' h;obtain ⟨j',hj'⟩:=hin i' hi';have:=tr i' j' hj';rw [h] at this;subst this;exact Q56 hm2.1 hj' hij
 have lm:∀ (l:List (Nat × Ent)) (F:Ent→Ent) (i j:Nat),look i m=some j→(∀ p∈l,p.1<n0)→look j (l.map fun p=>(trm m p.1,F p.2))=(look i l).map F:=by
  intro l F i j hij
  induction l with
  | nil=>intro _;rfl
  | cons p r ih =>
   intro hl;simp only [List.map_cons,look]
   by_cases hq:p.1=i
   ·rw [if_pos hq,if_pos (by rw [hq];exact tr i j hij)];rfl
   rw [if_neg hq,if_neg (fun h=>hq (inj i p.1 j hij (hl p (by simp)) h))];exact ih fun q hq'=>hl q (by simp [hq'])
 refine ICon.frame hc m hm1 hm2.1 hm2.2.1 hm2.2.2 (fun p hp=>?_) has (fun id hid c i k sz he=>?_) hcnt hv (fun i j hij=>?_) (fun j hj=>?_) (fun i j hij=>?_) (fun j hj hd=>?_) hna (fun i hi=>?_) hfine
 ·obtain ⟨z1,z2,z3⟩:=hpre p hp;obtain ⟨x,hx⟩:=Option.isSome_iff_exists.1 z1;rw [hx] at z2 z3;obtain ⟨y,hy,hyx⟩:=Option.bind_eq_some_iff.1 z2;exact ⟨x,y,hx,hy,hyx,by rw [← hy,← z3];rfl⟩
 ·have:=hali _ (Qd he);cases this
 ·rw [hset];exact lm e0.set _ i j hij hf0.sets.2
 ·rw [hset];cases hq:look j (e0.set.map fun p=>(trm m p.1,rlE' (mxt m n0 n e0.cnt) p.2)) with
  | none=>rfl
  | some x =>
   exfalso;obtain ⟨p,hp,he⟩:=List.mem_map.1 (Qd hq);simp only [Prod.mk.injEq] at he;obtain ⟨j',hj'⟩:=hin p.1 (hf0.sets.2 p hp);rw [tr _ _ hj'] at he;exact hj p.1 (by rw [hj',he.1])
 ·rw [hdel,List.mem_map];constructor
  ·rintro ⟨i',hi',h⟩
   have:=inj i i' j hij (hf0.del i' hi') h;subst this;exact hi'
  intro h;exact ⟨i,h,tr i j hij⟩
 ·rw [hdel,List.mem_map] at hd;obtain ⟨i',hi',h⟩:=hd;obtain ⟨j',hj'⟩:=hin i' (hf0.del i' hi');rw [tr _ _ hj'] at h;exact hj i' (by rw [hj',h])
 have:=newI (n:=n0) (e:=e0) hcomp (n0+i) (by omega) (by omega);obtain ⟨p,hp,he⟩:=List.mem_map.1 this;refine ⟨p.2,by rw [← he];exact QG hf0.nodup hp,?_⟩;rw [hnew];refine List.mem_map.2 ⟨p,hp,?_⟩;rw [show p.1 - n0=i by omega]
def pinsM (n:Nat) (m:List (Nat × Nat)):Bool:=m.all fun p=>if p.2<n then p.1=p.2 else true
theorem Wk.rQ {F:Fx} {st st':St} (n:Nat) (m:List (Nat × Nat)) (hP:F.pins=n) (hpin:pinsM n m=true)
  (h:n≤st'.n∧(m.map Prod.fst).Nodup∧(m.map Prod.snd).Nodup∧(∀ p∈m,p.2<st'.n)∧(∀ p∈st'.h,p.1<st'.n)∧(∀ p∈st'.s,p.2=rl m (st.get p.1)∨p.2 = .bot)∧∀ p∈st'.h,hhOk m st.h p.1 p.2):Wk F st st':=by
 obtain ⟨h0,h1,h2,hn,hok,hs,hh⟩:=h;refine Wk.relabelP m h1 h2 (fun p hp hlt=>?_) (by rw [hP];exact h0) hn hok hs fun p hp=>?_
 ·have:=List.all_eq_true.1 hpin p hp;rw [hP] at hlt;simpa [hlt] using this
 have:=hh p hp;unfold hhOk at this;obtain ⟨e,he,hr⟩:=Option.bind_eq_some_iff.1 this;obtain ⟨i,hi,hl⟩:=Option.bind_eq_some_iff.1 he;exact ⟨i,e,Q1A h1 hi,hl,hr⟩
inductive PreL:List AV→List AV→Prop
 | nil:PreL [] []
 | eq {a az bs}:PreL az bs→PreL (a :: az) (a :: bs)
 | pre {xs cs az bs}:xs.take cs.length=cs→PreL az bs→PreL (.rptr xs :: az) (.rptr cs :: bs)
 | nl {id u sz az bs}:PreL az bs→PreL (.own id 0 0 :: az) (.lst u sz [] :: bs)
theorem PreL.at {az bs:List AV} (h:PreL az bs):az.length=bs.length∧∀ k,k<az.length→∀ {w:World} {R:Nat→Prop} {ρ:Nat→Option Bk} {v:Value},XRel w R ρ v (az.getD k .bot)→XRel w R ρ v (bs.getD k .bot):=by
 induction h with
 | nil=>exact ⟨rfl,fun k hk=>by simp at hk⟩
 | eq _ ih =>
  refine ⟨by simp [ih.1],fun k hk=>?_⟩;cases k with
  | zero=>intro w R ρ v hx;exact hx
  | succ k=>intro w R ρ v hx;exact ih.2 k (by simpa using hk) hx
 | @pre xs cs az bs e _ ih =>
  refine ⟨by simp [ih.1],fun k hk=>?_⟩;cases k with
  | succ k=>intro w R ρ v hx;exact ih.2 k (by simpa using hk) hx
  | zero =>
   intro w R ρ v hx;have hx':XRel w R ρ v (.rptr xs):=hx;obtain ⟨b,x,cur,el,fr,us,h1,h2,h3,h4,h5,h6⟩:=hx'.rptr_eq;have hl:cs.length≤xs.length:=by
    have:=congrArg List.length e;simp at this;omega
   subst h1;show XRel w R ρ _ (.rptr cs);refine .r (.rptr us h2 h3 (fun k hk=>h4 k (by omega)) (fun k hk=>h5 k (by omega)) fun k hk=>?_);have:=h6 k (by omega);have e2:cs.getD k .bot=xs.getD k .bot:=by
    rw [← e];simp [List.getD_eq_getElem?_getD,hk]
   rw [e2];exact this
 | @nl id u sz az bs _ ih =>
  refine ⟨by simp [ih.1],fun k hk=>?_⟩;cases k with
  | succ k=>intro w R ρ v hx;exact ih.2 k (by simpa using hk) hx
  | zero =>
   intro w R ρ v hx;have hx':XRel w R ρ v (.own id 0 0):=hx;show XRel w R ρ _ (.lst u sz []);rcases hx'.own_eq with ⟨_,_,_,e2,_,_⟩|⟨b,_,cap,cc,x,_,e2,e3,_,_,_,e7⟩
   ·rw [e2];exact .r (.nil (by simp))
   rw [e2];exact .r (.nil (by omega))
theorem ICon.preL {P:Program} {f:Nat} {az bs:List AV} {h:HP} {n:Nat} {e:Eff} (hp:PreL az bs) (hc:ICon P f bs h n e):ICon P f az h n e :=
 ⟨hc.enters,hc.fine,fun C w g h' vals h1 h2 h3 W H hsz hx=>hc.calls C w g h' vals h1 h2 h3 W H (by rw [← hp.at.1];exact hsz) fun k hk=>hp.at.2 k (by rw [hp.at.1];exact hk) (hx k (by rw [hp.at.1];exact hk))⟩
end
section
attribute [local simp] Qc Qw Qm
structure RetFG (P:Program) (rvs:List ResultVar) (st:St) (rs:List AV):Prop where
 ex:∃ az,RGet P st rvs az∧PurL st.hp az rs
theorem RetFG.mk' {P:Program} {rvs:List ResultVar} {st:St} {az rs:List AV} (hg:RGet P st rvs az) (hp:PurL st.hp az rs):RetFG P rvs st rs:=⟨_,hg,hp⟩
def pko (p i k j:Nat) (o:Nat→Option (List Nat)):Nat→Option (List Nat):=fun b=>match o b with
 | some (x :: M)=>if x=p then (match M with
  | i' :: k' :: M'=>if i'=i∧k'=k then some (j :: M') else none
  | _=>none) else some (x :: M)
 | _=>none
theorem Q4n {p i k j:Nat} {o:Nat→Option (List Nat)} {b x:Nat} {M:List Nat} (h:o b=some (x :: M)) (hx:x ≠ p):pko p i k j o b=some (x :: M):=by
 simp only [pko,h,if_neg hx]
theorem pko_cell {p i k j:Nat} {o:Nat→Option (List Nat)} {b:Nat} {M:List Nat} (h:o b=some (p :: i :: k :: M)):pko p i k j o b=some (j :: M):=by
 simp [pko,h]
theorem pko_some {p i k j:Nat} {o:Nat→Option (List Nat)} {b:Nat} {L:List Nat} (h:pko p i k j o b=some L):∃ L',o b=some L':=by
 unfold pko at h;split at h
 ·rename_i hb;exact ⟨_,hb⟩
 cases h
theorem Wk.pick {F:Fx} {st st':St} {p j i k sz sz2:Nat} {es es2:List (List AV)} (hp:look p st.h=some (.row sz es)) (hj:look j st.h=some (.ali p i k sz2)) (hi:i<es.length) (hk:k<sz) (hc:(es.getD i []).getD k .bot = .lst true sz2 es2)
  (hs:∀ q∈st'.s,st.get q.1=q.2∨q.2 = .bot) (hn:st'.n=st.n) (hh:∀ q∈st'.h,q=(j,.row sz2 es2)∨(q.1 ≠ p∧look q.1 st.h=some q.2∧(match q.2 with|.ali _ _ _ _=>False|_=>True))):Wk F st st':=by
 intro a w ⟨R,hX,hr⟩;obtain ⟨r1,r2,r3,o,ρ,W,H,hx,hρ,hpn⟩:=hr;have hent:∀ id e,st'.hp id=some e→(id=j∧e = .row sz2 es2)∨(id ≠ p∧st.hp id=some e∧(match e with|.ali _ _ _ _=>False|_=>True)):=fun id e h=>by
  rcases hh (id,e) (Qd h) with q|q
  ·simp only [Prod.mk.injEq] at q;exact .inl q
  exact .inr q
 refine ⟨R,hX,r1,r2,fun id x hx'=>?_,pko p i k j o,ρ,⟨fun b hb=>⟨(W.R b hb).1,?_⟩,fun b L hb=>?_,W.os,W.tape,W.output,W.size,W.keep⟩,⟨fun id z xs bk h1 h2=>?_,fun id z xs bk h1 h2=>?_,fun id c i' k' z bk h1 h2=>?_,fun id kd xs bk h1 h2=>?_⟩,fun t=>?_,fun id kk hk'=>?_,fun id hid=>hpn.1 id hid,by rw [hn];exact hpn.2⟩
 ·rw [hn];rcases hent id x hx' with ⟨rfl,_⟩|⟨_,q,_⟩
  ·exact r3 _ _ hj
  exact r3 _ _ q
 ·have h3:o b=none:=(W.R b hb).2;simp only [pko,h3]
 ·obtain ⟨L',h3⟩:=pko_some hb;exact W.o b L' h3
 ·rcases hent id _ h1 with ⟨_,q⟩|⟨q1,q2,_⟩
  ·cases q
  rcases (H.mix id z xs bk q2 h2).ex0 with h0|⟨b,cur,el,us,cp,p1,p2,p3⟩
  ·exact ⟨.inl h0⟩
  exact .mk' ⟨b,cur,el,us,cp,p1,Q4n p2 q1,p3⟩
 ·rcases hent id _ h1 with ⟨rfl,q⟩|⟨q1,q2,_⟩
  ·simp only [Ent.row.injEq] at q;obtain ⟨rfl,rfl⟩:=q;obtain ⟨e1,bkc,e2,e3⟩:=H.ali id p i k z bk hj h2;obtain ⟨bc,cur,el,v,c1,c2,c3,c4⟩:=e3 1 sz es (by simp only [cont];rw [show st.hp p=some (.row sz es) from hp]) (by rw [show st.hp p=some (.row sz es) from hp];rfl) hi hk;obtain ⟨vp,t1,t2⟩:=H.row p sz es bkc hp e2;generalize hL:([p]:List Nat)=L at t1;cases t1 with
   | nil=>simp at hi
   | @own _ _ _ b cap cur' el' us u1 u2 u3 u4 u5 u6 u7 u8 u9 =>
    subst hL;cases t2;simp only [Option.some.injEq] at c1;subst c1;rw [u2] at c2;simp only [Option.some.injEq,Obj.cells.injEq] at c2;obtain ⟨rfl,_,_⟩:=c2;have hv:us i k=v:=by
     have:=u7 i k hi hk;rw [c3] at this;exact (Option.some.inj this).symm
    have T:=u9 i k hi hk;rw [hc,hv] at T;refine ⟨v,T.mono [id] fun b' M hb'=>⟨?_,rfl⟩,?_⟩
    ·have:o b'=some (p :: i :: k :: M):=(by simpa using hb');simpa using pko_cell (j:=id) this
    rcases c4 with c4|c4
    ·exact c4
    exact (T.scn_lst c4).elim
  obtain ⟨v,t1,t2⟩:=H.row id z xs bk q2 h2;exact ⟨v,t1.same fun b M hb=>⟨by
   have h3:o b=some (id :: M):=(by simpa using hb);simpa using Q4n h3 q1,rfl⟩,t2⟩
 ·rcases hent id _ h1 with ⟨_,q⟩|⟨_,_,q⟩
  ·cases q
  exact q.elim
 ·rcases hent id _ h1 with ⟨_,q⟩|⟨q1,q2,_⟩
  ·cases q
  exact (H.map id kd xs bk q2 h2).move (fun b hb=>⟨hb,rfl⟩) fun b M p2=>⟨Q4n p2 q1,rfl⟩
 ·cases hl:look t st'.s with
  | none=>simp only [St.get,hl,Option.getD_none];exact .bot
  | some v =>
   simp only [St.get,hl,Option.getD_some];rcases hs _ (Qd hl) with h|h
   ·simp only at h;rw [← h];exact hx t
   simp only at h;rw [h];exact .bot
 rw [hn];exact hρ id kk hk'
end
section
attribute [local simp] Qc Qw Qm
def fzo (j:Nat) (o:Nat→Option (List Nat)):Nat→Option (List Nat):=fun b=>match o b with
 | some (x :: M)=>if x=j then none else some (x :: M)
 | y=>y
theorem Q4e {j:Nat} {o:Nat→Option (List Nat)} {b x:Nat} {M:List Nat} (h:o b=some (x :: M)) (hx:x ≠ j):fzo j o b=some (x :: M):=by
 simp only [fzo,h,if_neg hx]
theorem fzo_none {j:Nat} {o:Nat→Option (List Nat)} {b:Nat} {M:List Nat} (h:o b=some (j :: M)):fzo j o b=none:=by
 simp [fzo,h]
theorem fzo_some {j:Nat} {o:Nat→Option (List Nat)} {b:Nat} {L:List Nat} (h:fzo j o b=some L):o b=some L:=by
 unfold fzo at h;split at h
 ·split at h
  ·cases h
  rename_i hb _;rw [hb];exact h
 exact h
theorem Wk.frzL {F:Fx} {st st':St} (hW:∀ b,¬ F.C.wrb b) {j sz:Nat} {es:List (List AV)} (hj:look j st.h=some (.mix sz es)) (hr:Q5P sz es)
  (hs:∀ q∈st'.s,st.get q.1=q.2∨q.2 = .bot∨(st.get q.1 = .own j 0 es.length∧q.2 = .lst true sz es)) (hn:st'.n=st.n)
  (hh:∀ q∈st'.h,q.1 ≠ j∧look q.1 st.h=some q.2∧(match q.2 with|.ali _ _ _ _=>False|_=>True)):Wk F st st':=by
 intro a w ⟨R,hX,hr0⟩;obtain ⟨r1,r2,r3,o,ρ,W,H,hx,hρ,hpn⟩:=hr0;have hent:∀ id e,st'.hp id=some e→id ≠ j∧st.hp id=some e∧(match e with|.ali _ _ _ _=>False|_=>True):=fun id e h=>hh (id,e) (Qd h);have hRR:∀ b,R b→(R b∨∃ M,o b=some (j :: M))∧w.heap[b]? = w.heap[b]?:=fun b hb=>⟨.inl hb,rfl⟩;refine ⟨fun b=>R b∨∃ M,o b=some (j :: M),⟨fun b hb=>.inl (hX.1 b hb),fun b hb=>?_⟩,r1,r2,fun id x hx'=>?_,fzo j o,ρ,⟨fun b hb=>?_,fun b L hb=>W.o b L (fzo_some hb),W.os,W.tape,W.output,W.size,W.keep⟩,
  ⟨fun id z xs bk h1 h2=>?_,fun id z xs bk h1 h2=>?_,fun id c i' k' z bk h1 h2=>?_,fun id kd xs bk h1 h2=>?_⟩,fun t=>?_,fun id kk hk'=>?_,fun id hid=>hpn.1 id hid,by rw [hn];exact hpn.2⟩
 ·rcases hb with hb|⟨M,hb⟩
  ·exact hX.2 b hb
  rcases (W.o b _ hb).2 with h|h
  ·exact .inr h
  exact absurd h (hW b)
 ·rw [hn];exact r3 _ _ (hent id x hx').2.1
 ·rcases hb with hb|⟨M,hb⟩
  ·have h3:o b=none:=(W.R b hb).2;exact ⟨(W.R b hb).1,by simp only [fzo,h3]⟩
  exact ⟨(W.o b _ hb).1,fzo_none hb⟩
 ·obtain ⟨q1,q2,_⟩:=hent id _ h1;rcases (H.mix id z xs bk q2 h2).ex0 with h0|⟨b,cur,el,us,cp,p1,p2,p3,p4,p5,p6,p7,p8,p9,p10⟩
  ·exact ⟨.inl h0⟩
  exact .mk' ⟨b,cur,el,us,cp,p1,Q4e p2 q1,p3,p4,p5,p6,p7,p8,p9,fun i k hi hk=>(p10 i k hi hk).mono hRR (fun _ _ h=>h)⟩
 ·obtain ⟨q1,q2,_⟩:=hent id _ h1;obtain ⟨v,t1,t2⟩:=H.row id z xs bk q2 h2;exact ⟨v,t1.mono [id] fun b M hb=>⟨by
   have h3:o b=some (id :: M):=(by simpa using hb);simpa using Q4e h3 q1,rfl⟩,t2⟩
 ·exact (hent id _ h1).2.2.elim
 ·obtain ⟨q1,q2,_⟩:=hent id _ h1;exact (H.map id kd xs bk q2 h2).move hRR fun b M p2=>⟨Q4e p2 q1,rfl⟩
 ·cases hl:look t st'.s with
  | none=>simp only [St.get,hl,Option.getD_none];exact .bot
  | some v =>
   simp only [St.get,hl,Option.getD_some];rcases hs _ (Qd hl) with h|h|⟨h,h'⟩
   ·simp only at h;rw [← h];exact (hx t).mono hRR (fun _ _ h=>h)
   ·simp only at h;rw [h];exact .bot
   simp only at h h';rw [h'];have hv:=hx t;rw [h] at hv;rcases hv.own_eq with ⟨sz',cap,e1,e2,_,e4⟩|⟨b,sz',cap,cc,x,e1,e2,e3,e4,e5,e6,e7⟩
   ·rw [e2];have:es=[]:=List.length_eq_zero_iff.1 e4;subst this;exact .r (.nil (by simp))
   obtain ⟨b',cur,el,us,cp,p1,p2,p3,p4,p5,p6,p7,p8,p9,p10⟩:=(H.mix j sz es _ (show st.hp j=_ from hj) e1).ex (by simp);simp only [Bk.mk.injEq,Option.some.injEq] at p1;obtain ⟨rfl,rfl,rfl⟩:=p1;have hx0:x=0:=e6 rfl;subst hx0;rw [e2];refine .r (.lst us (.inr ⟨[],p2⟩) p3 e4 (by omega) p7 (fun i k hi hk=>by rw [Nat.zero_add];exact p8 i k hi hk) p9 fun i k hi hk=>?_);have hm:es.getD i []∈es:=(by simp [List.getD_eq_getElem?_getD,List.getElem?_eq_getElem hi]);have hk':k<(es.getD i []).length:=(by rw [(hr _ hm).1];exact hk);have hro:((es.getD i []).getD k .bot).ro=true:=(hr _ hm).2 _ (by
    generalize es.getD i []=q at hk';simp [List.getD_eq_getElem?_getD,List.getElem?_eq_getElem hk'])
   exact ((p10 i k hi hk).toR hro).mono fun b hb=>⟨.inl hb,rfl⟩
 rw [hn];exact hρ id kk hk'
end
section
attribute [local simp] Qc Qw Qm
theorem nlA_self {news:List (Nat × Nat)} {a:AV}:nlA news a a:=.inl rfl
theorem Q6X {news:List (Nat × Nat)}:∀ {l:List AV},nlL news l l
 | []=>trivial
 | _ :: _=>⟨nlA_self,Q6X⟩
theorem entN_mm {news:List (Nat × Nat)} {sz sz':Nat} {cs ds:List AV}:entN news (.mix sz [cs]) (.mix sz' [ds])=(sz=sz'∧nlL news cs ds):=rfl
theorem entN_mr {news:List (Nat × Nat)} {sz sz':Nat} {es:List (List AV)}:entN news (.mix sz []) (.row sz' es)=(sz=sz'∧es=[]):=rfl
theorem Q5s {news:List (Nat × Nat)} {e:Ent}:entN news e e:=by
 cases e with
 | mix sz es =>
  cases es with
  | nil=>rfl
  | cons a r =>
   cases r with
   | nil=>exact ⟨rfl,Q6X⟩
   | cons b s=>rfl
 | row sz es=>rfl
 | ali c i k sz=>rfl
 | mapE kd es=>rfl
theorem Wk.rowMix {F:Fx} {st st':St} (hs:∀ q∈st'.s,st.get q.1=q.2∨q.2 = .bot) (hn:st'.n=st.n)
  (hh:∀ q∈st'.h,(look q.1 st.h=some q.2∧(match q.2 with|.ali _ _ _ _=>False|_=>True))∨∃ sz,look q.1 st.h=some (.row sz [])∧q.2 = .mix sz []):Wk F st st':=by
 intro a w ⟨R,hX,hr0⟩;obtain ⟨r1,r2,r3,o,ρ,W,H,hx,hρ,hpn⟩:=hr0;have hent:∀ id e,st'.hp id=some e→(st.hp id=some e∧(match e with|.ali _ _ _ _=>False|_=>True))∨∃ sz,st.hp id=some (.row sz [])∧e = .mix sz []:=fun id e h=>hh (id,e) (Qd h);refine ⟨R,hX,r1,r2,fun id x hx'=>?_,o,ρ,W,⟨fun id z xs bk h1 h2=>?_,fun id z xs bk h1 h2=>?_,fun id c i' k' z bk h1 h2=>?_,fun id kd xs bk h1 h2=>?_⟩,fun t=>?_,fun id kk hk'=>?_,fun id hid=>hpn.1 id hid,by rw [hn];exact hpn.2⟩
 ·rw [hn];rcases hent id x hx' with ⟨h,_⟩|⟨sz,h,_⟩
  ·exact r3 _ _ h
  exact r3 _ _ h
 ·rcases hent id _ h1 with ⟨h,_⟩|⟨sz,h,e⟩
  ·exact H.mix id z xs bk h h2
  simp only [Ent.mix.injEq] at e;obtain ⟨rfl,rfl⟩:=e;obtain ⟨v,t1,t2⟩:=H.row id z [] bk h h2;generalize hL:([id]:List Nat)=L at t1;cases t2 with
  | @nil sz' cap=>exact ⟨.inl ⟨rfl,_,rfl⟩⟩
  | @own b n cap sz' =>
   cases t1 with
   | @own _ _ _ _ _ cur el us u1 u2 u3 u4 u5 u6 u7 u8 u9 =>
    subst hL;exact .mk' ⟨b,cur,el,us,cap,rfl,u1,u2,u3,Nat.zero_le _,u5,fun i hi=>by simp at hi,fun i k hi=>by simp at hi,fun i k hi=>by simp at hi,fun i k hi=>by simp at hi⟩
 ·rcases hent id _ h1 with ⟨h,_⟩|⟨sz,h,e⟩
  ·exact H.row id z xs bk h h2
  cases e
 ·rcases hent id _ h1 with ⟨h,q⟩|⟨sz,h,e⟩
  ·exact q.elim
  cases e
 ·rcases hent id _ h1 with ⟨h,_⟩|⟨sz,h,e⟩
  ·exact H.map id kd xs bk h h2
  cases e
 ·cases hl:look t st'.s with
  | none=>simp only [St.get,hl,Option.getD_none];exact .bot
  | some v =>
   simp only [St.get,hl,Option.getD_some];rcases hs _ (Qd hl) with h|h
   ·simp only at h;rw [← h];exact hx t
   simp only at h;rw [h];exact .bot
 rw [hn];exact hρ id kk hk'
end
section
attribute [local simp] Qc Qw Qm
theorem cont_turn {h h':HP} (hh:∀ id,h' id=h id∨h' id=none∨((∃ kd es,h id=some (.mapE kd es))∧∃ kd es,h' id=some (.mapE kd es))):∀ (d c:Nat) (q:Nat × List (List AV)),cont h' d c=some q→cont h d c=some q∧h' c=h c:=by
 intro d
 induction d with
 | zero=>intro c q hx;simp [cont] at hx
 | succ d ih =>
  intro c q hx;rcases hh c with e|e|⟨_,kd,es,e⟩
  ·refine ⟨?_,e⟩;unfold cont at hx ⊢;rw [e] at hx;cases he:h c with
   | none=>simp [he] at hx
   | some x =>
    cases x with
    | mix=>simpa [he] using hx
    | row=>simpa [he] using hx
    | mapE=>simp [he] at hx
    | ali c2 i k s =>
     simp only [he] at hx ⊢;split at hx
     ·cases hx
     rename_i hm;cases hc:cont h' d c2 with
     | none=>simp [hc] at hx
     | some p =>
      obtain ⟨i1,i2⟩:=ih c2 p hc;rw [i2] at hm;rw [hc] at hx;rw [if_neg hm,i1];exact hx
  ·simp [cont,e] at hx
  simp [cont,e] at hx
theorem HRel.turn {w w':World} {g:Gh} {h h':HP} {o':Nat→Option (List Nat)} {ρ':Nat→Option Bk} (H:HRel w g h) (T:Nat→Prop)
  (hR:∀ b,g.R b→w'.heap[b]? = w.heap[b]?) (hc:∀ (b:Nat) (cur:Array Value) (e:TypeId),w.heap[b]? = some (.cells cur e (0,0))→w'.heap[b]? = some (.cells cur e (0,0)))
  (ho:∀ b id M,¬ T id→g.o b=some (id :: M)→o' b=some (id :: M)∧w'.heap[b]? = w.heap[b]?)
  (hρ:∀ id k,g.ρ id=some k→ρ' id=some k) (hρ':∀ id k,¬ T id→ρ' id=some k→g.ρ id=some k)
  (hh:∀ id,h' id=h id∨h' id=none∨((∃ kd es,h id=some (.mapE kd es))∧∃ kd es,h' id=some (.mapE kd es)))
  (hT:∀ id,¬ T id→h' id=h id)
  (hmap:∀ id kd es bk,T id→h' id=some (.mapE kd es)→ρ' id=some bk→MapRel w' ⟨g.R,o',ρ'⟩ id bk kd es)
  (hmix:∀ id sz es bk,T id→h' id=some (.mix sz es)→ρ' id=some bk→MixRel w' ⟨g.R,o',ρ'⟩ id bk sz es)
  (hrow:∀ id sz es,T id→h' id ≠ some (.row sz es)) (hali:∀ id c i k s,T id→h' id ≠ some (.ali c i k s)):HRel w' ⟨g.R,o',ρ'⟩ h':=by
 refine ⟨fun id sz es bk he hb=>?_,fun id sz es bk he hb=>?_,fun id c i k s bk he hb=>?_,fun id kd es bk he hb=>?_⟩
 ·by_cases ht:T id
  ·exact hmix id sz es bk ht he hb
  exact (H.mix id sz es bk (by rw [← hT id ht];exact he) (hρ' id bk ht hb)).mono hR hρ fun b hb=>ho b id [] ht hb
 ·by_cases ht:T id
  ·exact absurd he (hrow id sz es ht)
  obtain ⟨v,h1,h2⟩:=H.row id sz es bk (by rw [← hT id ht];exact he) (hρ' id bk ht hb);exact ⟨v,h1.same fun b M hb=>ho b id M ht hb,h2⟩
 ·by_cases ht:T id
  ·exact absurd he (hali id c i k s ht)
  obtain ⟨e1,bkc,e2,e3⟩:=H.ali id c i k s bk (by rw [← hT id ht];exact he) (hρ' id bk ht hb);refine ⟨e1,bkc,hρ _ _ e2,fun d szc esc hcc hm hi hk=>?_⟩;obtain ⟨q1,q2⟩:=cont_turn hh d c _ hcc;obtain ⟨bc,cur,el,v,c1,c2,c3,c4⟩:=e3 d szc esc q1 (by rw [← q2];exact hm) hi hk;exact ⟨bc,cur,el,v,c1,hc _ _ _ c2,c3,c4⟩
 by_cases ht:T id
 ·exact hmap id kd es bk ht he hb
 exact (H.map id kd es bk (by rw [← hT id ht];exact he) (hρ' id bk ht hb)).move (fun b hb=>⟨hb,hR b hb⟩) fun b M hb=>ho b id M ht hb
section
variable {P:Program} {op:Op} {ev:Operand→AV} {h:HP} {n:Nat}
end
end
section
attribute [local simp] Qc Qw Qm
mutual
inductive FrA (h:HP) (T:List Nat):AV→AV→Prop
 | ro {a}:a.ro=true→FrA h T a a
 | row {id sz es n}:h id=some (.row sz es)→id∈T→n=es.length→FrA h T (.own id 0 n) (.lst true sz es)
 | lit {id sz es n}:h id=some (.mix sz es)→id∈T→n=es.length→Q5P sz es→FrA h T (.own id 0 n) (.lst true sz es)
 | mp {id kd es}:h id=some (.mapE kd es)→id∈T→kd.plain=true→FrA h T (.mp id) (.cmap kd es)
 | adr {id sz cs cs'}:h id=some (.mix sz [cs])→id∈T→cs.length=sz→FrL h T cs cs'→FrA h T (.adr id 0 0) (.rptr cs')
inductive FrL (h:HP) (T:List Nat):List AV→List AV→Prop
 | nil:FrL h T [] []
 | cons {a a' cs cs'}:FrA h T a a'→FrL h T cs cs'→FrL h T (a :: cs) (a' :: cs')
end
def fzd (T:List Nat) (o:Nat→Option (List Nat)):Nat→Option (List Nat):=fun b=>match o b with
 | some (x :: M)=>if x∈T then none else some (x :: M)
 | y=>y
theorem Q3g {T:List Nat} {o:Nat→Option (List Nat)} {b x:Nat} {M:List Nat} (h:o b=some (x :: M)) (hx:x ∉ T):fzd T o b=some (x :: M):=by
 simp only [fzd,h,if_neg hx]
theorem fzd_none {T:List Nat} {o:Nat→Option (List Nat)} {b x:Nat} {M:List Nat} (h:o b=some (x :: M)) (hx:x∈T):fzd T o b=none:=by
 simp [fzd,h,hx]
theorem fzd_some {T:List Nat} {o:Nat→Option (List Nat)} {b:Nat} {L:List Nat} (h:fzd T o b=some L):o b=some L:=by
 unfold fzd at h;split at h
 ·split at h
  ·cases h
  rename_i hb _;rw [hb];exact h
 exact h
def only (id:Nat) (o:Nat→Option (List Nat)):Nat→Option (List Nat):=fun b=>match o b with
 | some (x :: M)=>if x=id then some (x :: M) else none
 | _=>none
theorem only_some {id:Nat} {o:Nat→Option (List Nat)} {b:Nat} {L:List Nat} (h:only id o b=some L):∃ M,o b=some (id :: M):=by
 unfold only at h;split at h
 ·rename_i x M hb
  by_cases hx:x=id
  ·exact ⟨M,by rw [hb,hx]⟩
  simp [hx] at h
 cases h
def RT (g:Gh) (T:List Nat):Nat→Prop:=fun b=>g.R b∨∃ id M,id∈T∧g.o b=some (id :: M)
mutual
theorem FrA.rel {w:World} {g:Gh} {h:HP} {T:List Nat} (H:HRel w g h):∀ {a a':AV} {v:Value},FrA h T a a'→XRel w g.R g.ρ v a→RRel w (RT g T) v a'
 | a,_,v,.ro hr,hv=>(hv.toR hr).mono fun b hb=>⟨.inl hb,rfl⟩
 | _,_,v,.row (id:=id) (sz:=sz) (es:=es) (n:=n) hi hT hn,hv=>by
  rcases hv.own_eq with ⟨sz',cap,e1,e2,_,e4⟩|⟨b,sz',cap,cc,x,e1,e2,e3,e4,e5,e6,e7⟩
  ·rw [e2];have:es=[]:=List.length_eq_zero_iff.1 (by omega);subst this;exact .nil (by simp)
  obtain ⟨v0,t1,t2⟩:=H.row id sz es _ hi e1;have hx0:x=0:=e6 rfl;subst hx0;rw [e2];have t1':RRel w (RT g T) v0 (.lst true sz es):=(t1.mono (R':=g.R) (o':=only id g.o) [id] (fun b M hb=>⟨by
   have h3:g.o b=some (id :: M):=(by simpa using hb);simp [only,h3],rfl⟩)).pure fun b hb=>by
    rcases hb with hb|⟨L,hb⟩
    ·exact .inl hb
    obtain ⟨M,hM⟩:=only_some hb;exact .inr ⟨id,M,hT,hM⟩
  cases t2 with
  | own =>
   cases t1' with
   | nil h1=>subst hn;exact .nil (by omega)
   | lst us q1 q2 q3 q4 q5 q6 q7 q8 =>
    subst hn;exact .lst us q1 q2 (by omega) (by omega) q5 q6 q7 q8
 | _,_,v,.lit (id:=id) (sz:=sz) (es:=es) (n:=n) hi hT hn hr,hv=>by
  rcases hv.own_eq with ⟨sz',cap,e1,e2,_,e4⟩|⟨b,sz',cap,cc,x,e1,e2,e3,e4,e5,e6,e7⟩
  ·rw [e2];have:es=[]:=List.length_eq_zero_iff.1 (by omega);subst this;exact .nil (by simp)
  obtain ⟨b',cur,el,us,cp,p1,p2,p3,p4,p5,p6,p7,p8,p9,p10⟩:=(H.mix id sz es _ hi e1).ex (by simp);simp only [Bk.mk.injEq,Option.some.injEq] at p1;obtain ⟨rfl,rfl,rfl⟩:=p1;have hx0:x=0:=e6 rfl;subst hx0;rw [e2];subst hn;refine .lst us (.inr ⟨id,[],hT,p2⟩) p3 e4 (by omega) p7 (fun i k hi hk=>by rw [Nat.zero_add];exact p8 i k hi hk) p9 fun i k hi hk=>?_;have hm:es.getD i []∈es:=by simp [List.getD_eq_getElem?_getD,List.getElem?_eq_getElem hi]
  have hk':k<(es.getD i []).length:=by rw [(hr _ hm).1];exact hk
  have hro:((es.getD i []).getD k .bot).ro=true:=(hr _ hm).2 _ (by
   generalize es.getD i []=q at hk';simp [List.getD_eq_getElem?_getD,List.getElem?_eq_getElem hk'])
  exact ((p10 i k hi hk).toR hro).mono fun b hb=>⟨.inl hb,rfl⟩
 | _,_,v,.mp (id:=id) (kd:=kd) (es:=es) hi hT hp,hv=>by
  cases hv with
  | r h=>cases h
  | mp e =>
   obtain ⟨b',h1,h2,h3,h4⟩:=(H.map id kd es _ hi e).plain (MK.plain_ne hp);simp only [Bk.mk.injEq,Option.some.injEq] at h1;obtain ⟨rfl,_,_⟩:=h1;exact .cmap (.inr ⟨id,[],hT,h2⟩) h3 h4
 | _,_,v,.adr (id:=id) (sz:=sz) (cs:=cs) (cs':=cs') hi hT hz hl,hv=>by
  cases hv with
  | r h=>cases h
  | @adr _ b sz' cap _ _ e =>
   obtain ⟨b',cur,el,us,cp,p1,p2,p3,p4,p5,p6,p7,p8,p9,p10⟩:=(H.mix id sz [cs] _ hi e).ex (by simp);simp only [Bk.mk.injEq,Option.some.injEq] at p1;obtain ⟨rfl,rfl,rfl⟩:=p1;have hL:=hl.rel H (vs:=us 0) fun k hk=>by
    have:=p10 0 k (by simp) (by omega);simpa using this
   refine .rptr (us 0) (.inr ⟨id,[],hT,p2⟩) p3 (fun k hk=>?_) (fun k hk=>?_) fun k hk=>hL.2 k hk
   ·have:=p8 0 k (by simp) (by rw [← hz,← hL.1];exact hk);simpa using this
   exact p9 0 k (by simp) (by rw [← hz,← hL.1];exact hk)
theorem FrL.rel {w:World} {g:Gh} {h:HP} {T:List Nat} (H:HRel w g h):∀ {cs cs':List AV} {vs:Nat→Value},FrL h T cs cs'→(∀ k,k<cs.length→XRel w g.R g.ρ (vs k) (cs.getD k .bot)) →
  cs'.length=cs.length∧∀ k,k<cs'.length→RRel w (RT g T) (vs k) (cs'.getD k .bot)
 | _,_,vs,.nil,_=>⟨rfl,fun k hk=>by simp at hk⟩
 | _,_,vs,.cons (a:=a) (a':=a') (cs:=cs) (cs':=cs') h1 h2,hv=>by
  have hh:=h1.rel H (v:=vs 0) (hv 0 (by simp));have ht:=h2.rel H (vs:=fun k=>vs (k+1)) fun k hk=>by
   have:=hv (k+1) (by simpa using hk);simpa using this
  refine ⟨by simp [ht.1],fun k hk=>?_⟩;cases k with
  | zero=>exact hh
  | succ k=>simpa using ht.2 k (by simpa using hk)
end
theorem frz_n {α:Type} {p:α→Prop}:∀ x∈([]:List α),p x:=by simp
theorem frz_c {α:Type} {p:α→Prop} {q:α} {l:List α} (h:p q) (t:∀ x∈l,p x):∀ x∈q :: l,p x:=by simpa using ⟨h,t⟩
end
section
attribute [local simp] Qc Qw Qm
theorem Q2v {P:Program} (keep:Bool) {f:Nat} {fn:Func} {c:Code} {args:List AV} {ts:List Nat} {rs:List AV} {res:AV} (hf:P.funcs[f]? = some fn) (hb:fn.body=some c) (hrt:resT fn.results=some ts) (hrs:res=QF rs)
  (hname : (fn.name == "runtime.NumGoroutine") = false) (hN : args.length ≤ fn.ntmps) (h : ∀ F : Fx, F.N = fn.ntmps → F.pins = 0 → (∀ b, ¬ F.C.wrb b) → Wp P F c (retFQ keep ts rs) ⟨Q27 0 args, [], 0⟩) : FContract P keep f args res := by
 subst hrs;refine ⟨⟨fn,hf,hname,by rw [hb];rfl⟩,fun w R vals hR hsz hx=>?_⟩;refine calls_of_wp hf hb ?_
 let C:Ctx:=⟨w,fun _=>False,fun _=>none,0⟩
 have hrel:Rel C R fn.ntmps { tmps:=vals++Array.replicate (fn.ntmps - vals.size) undef,defers:=[] } w ⟨Q27 0 args,[],0⟩:=by
  refine ⟨by simp;omega,rfl,(fun id x h=>by cases h),fun _=>none,noρ,⟨fun b hb=>⟨hR b hb,rfl⟩,(fun b L hb=>by cases hb),rfl,⟨rfl,Nat.le_refl _⟩,rfl,Nat.le_refl _,fun b _ _=>rfl⟩,⟨(fun id sz es bk _ hb=>by cases hb),(fun id sz es bk _ hb=>by cases hb),(fun id c i k sz bk _ hb=>by cases hb),(fun id kd es bk _ hb=>by cases hb)⟩,fun t=>?_,(fun id k hk=>by cases hk),(fun id hid=>by cases hid),Nat.le_refl _⟩;simp only [St.get,Q1B]
  by_cases ht:t<args.length
  ·rw [if_pos (by omega)];simp only [Nat.sub_zero,Option.getD_some];have:=hx t ht;have h2:(vals++Array.replicate (fn.ntmps - vals.size) undef).getD t undef=vals.getD t undef:=by
    simp [Array.getElem?_append,show t<vals.size by omega]
   rw [h2];exact this
  rw [if_neg (by omega)];exact .bot
 refine Code.wp_mono (fun e a w' hq=>?_) (h ⟨C,R,fn.ntmps,0,rfl⟩ rfl rfl (fun _ q=>q) _ w (.of hrel));obtain ⟨st,⟨R',hX,hr⟩,hq⟩:=hq;have fin:RetF keep ts st rs→a.defers=[]∧∃ v,(results fn a.tmps).run P w' = .ok v w'∧∃ v' R1,Ending.returned v = .returned v'∧Blw w.heap.size w w'∧(∀ b,R1 b→b<w'.heap.size∧((keep=true∧R b)∨w.heap.size≤b))∧XRel w' R1 noρ v' (QF rs):=by
  intro hA;obtain ⟨_,hdef,_,o,ρ,W,H,hxx,_⟩:=hr
  let R1:Nat→Prop:=if keep then RAll ⟨R',o,ρ⟩ else fun b=>∃ L,o b=some L
  have hown:∀ b L,o b=some L→b<w'.heap.size∧w.heap.size≤b:=fun b L hb=>by
   obtain ⟨q1,q2⟩:=W.o b L hb;exact ⟨q1,q2.resolve_right id⟩
  have hR1:∀ b,R1 b→b<w'.heap.size∧((keep=true∧R b)∨w.heap.size≤b):=fun b hb=>by
   cases keep with
   | true =>
    rcases (show RAll ⟨R',o,ρ⟩ b from hb) with hb|⟨L,hb⟩
    ·exact ⟨(W.R b hb).1,(hX.2 b hb).imp (fun h=>⟨rfl,h⟩) id⟩
    exact ⟨(hown b L hb).1,.inr (hown b L hb).2⟩
   | false =>
    obtain ⟨L,hb⟩:=hb;exact ⟨(hown b L hb).1,.inr (hown b L hb).2⟩
  have hcell:∀ k,k<ts.length→XRel w' R1 noρ (a.tmps.getD (ts.getD k 0) undef) (rs.getD k .bot):=by
   intro k hk;have h1:=hA.pur k hk;have h2:=hxx (ts.getD k 0);cases hkp:keep with
   | true=>subst hkp;exact (Q4o H h1 h2).1
   | false =>
    subst hkp;have h3:=hA.own rfl k hk;generalize st.get (ts.getD k 0)=av at h1 h2 h3;generalize rs.getD k .bot=rv at h1 ⊢;generalize a.tmps.getD (ts.getD k 0) undef=vv at h2 ⊢;cases av with
    | val v =>
     cases h1 with
     | val=>obtain ⟨rfl,hs⟩:=h2.val_eq;exact .r (.val hs)
     | nil=>obtain ⟨rfl,hs⟩:=h2.val_eq;exact .r (.nil (by decide))
    | mp id =>
     cases h1 with
     | mp he hk =>
      obtain ⟨b,rfl,hb⟩:=h2.mp_eq;obtain ⟨b',q1,q2,q3,q4⟩:=(H.map _ _ _ _ he hb).plain hk;simp only [Bk.mk.injEq,Option.some.injEq,and_true] at q1;subst q1;exact .r (.cmap ⟨_,q2⟩ q3 q4)
    | _=>exact h3.elim
  refine ⟨hdef,_,Q1X hrt _,_,R1,rfl,⟨W.os,W.tape,W.output,W.size,fun b hb=>W.keep b hb id⟩,hR1,?_⟩;have hl:=hA.len
  match ts,rs,hl,hcell with
  | [],[],_,_=>exact .tup rfl fun k hk=>by simp at hk
  | [t],[r],_,hcell=>exact hcell 0 (by simp)
  | t :: u :: ts,r :: s :: rs,hl,hcell =>
   simp only [List.map_cons,Q1P,QF];refine .tup (by simp at hl;simp;omega) fun k hk=>?_;have hk':k<(t :: u :: ts).length:=(by simp at hl hk;simp;omega);have:=hcell k hk';have h1:((a.tmps.getD t undef :: a.tmps.getD u undef :: ts.map fun t=>a.tmps.getD t undef).toArray).getD k undef=a.tmps.getD ((t :: u :: ts).getD k 0) undef:=by
    have e1:(a.tmps.getD t undef :: a.tmps.getD u undef :: ts.map fun t=>a.tmps.getD t undef)=(t :: u :: ts).map fun t=>a.tmps.getD t undef:=rfl;rw [e1];have hk2:k<(List.map (fun t=>a.tmps.getD t undef) (t :: u :: ts)).toArray.size:=(by simpa using hk');rw [Array.getD_eq_getD_getElem?,Array.getElem?_eq_getElem hk2,Option.getD_some];simp only [List.getElem_toArray,List.getElem_map];rw [List.getD_eq_getElem?_getD,List.getElem?_eq_getElem hk',Option.getD_some]
   rw [h1];exact this
 cases e with
 | normal=>exact fin hq
 | ret=>exact fin hq
 | _=>exact hq.elim
end
section
attribute [local simp] Qc Qw Qm
theorem Wk.frz1 {F:Fx} {st st':St} (hW:∀ b,¬ F.C.wrb b) {j e n:Nat} {c':AV} (hj:look j st.h=some (.mix 1 [[.own e 0 n]])) (hje:j ≠ e) (hf:FrA st.hp [e] (.own e 0 n) c')
  (hs:∀ q∈st'.s,st.get q.1=q.2∨q.2 = .bot) (hn:st'.n=st.n)
  (hh:∀ q∈st'.h,q.1 ≠ e∧((q.1=j∧q.2 = .mix 1 [[c']])∨(q.1 ≠ j∧look q.1 st.h=some q.2))∧(match q.2 with|.ali _ _ _ _=>False|_=>True)):Wk F st st':=by
 intro a w ⟨R,hX,hr0⟩;obtain ⟨r1,r2,r3,o,ρ,W,H,hx,hρ,hpn⟩:=hr0;have hent:∀ id x,st'.hp id=some x→id ∉ [e]∧((id=j∧x = .mix 1 [[c']])∨(id ≠ j∧st.hp id=some x))∧(match x with|.ali _ _ _ _=>False|_=>True):=fun id x h=>by
  obtain ⟨h1,h2,h3⟩:=hh (id,x) (Qd h);exact ⟨by simpa using h1,h2,h3⟩
 have hRR:∀ b,R b→RT ⟨R,o,ρ⟩ [e] b∧w.heap[b]? = w.heap[b]?:=fun b hb=>⟨.inl hb,rfl⟩;refine ⟨RT ⟨R,o,ρ⟩ [e],⟨fun b hb=>.inl (hX.1 b hb),fun b hb=>?_⟩,r1,r2,fun id x hx'=>?_,fzd [e] o,ρ,⟨fun b hb=>?_,fun b L hb=>W.o b L (fzd_some hb),W.os,W.tape,W.output,W.size,W.keep⟩,
  ⟨fun id z xs bk h1 h2=>?_,fun id z xs bk h1 h2=>?_,fun id c i' k' z bk h1 h2=>?_,fun id kd xs bk h1 h2=>?_⟩,fun t=>?_,fun id kk hk'=>?_,fun id hid=>hpn.1 id hid,by rw [hn];exact hpn.2⟩
 ·rcases hb with hb|⟨id,M,hT,hb⟩
  ·exact hX.2 b hb
  rcases (W.o b _ hb).2 with h|h
  ·exact .inr h
  exact absurd h (hW b)
 ·rw [hn];rcases (hent id x hx').2.1 with ⟨rfl,_⟩|⟨_,h⟩
  ·exact r3 _ _ hj
  exact r3 _ _ h
 ·rcases hb with hb|⟨id,M,hT,hb⟩
  ·have h3:o b=none:=(W.R b hb).2;exact ⟨(W.R b hb).1,by simp only [fzd,h3]⟩
  exact ⟨(W.o b _ hb).1,fzd_none hb hT⟩
 ·obtain ⟨q1,q2,_⟩:=hent id _ h1;rcases q2 with ⟨rfl,q2⟩|⟨_,q2⟩
  ·cases q2;rcases (H.mix id 1 [[.own e 0 n]] bk (show st.hp id=_ from hj) h2).ex0 with ⟨h0,_⟩|⟨b,cur,el,us,cp,p1,p2,p3,p4,p5,p6,p7,p8,p9,p10⟩
   ·cases h0
   refine .mk' ⟨b,cur,el,us,cp,p1,Q3g p2 q1,p3,p4,p5,p6,fun i hi=>?_,p8,p9,fun i k hi hk=>?_⟩
   ·have:i=0:=(by simp at hi;omega);subst this;rfl
   have:i=0:=(by simp at hi;omega);subst this;have:k=0:=(by omega);subst this;exact .r (hf.rel H (p10 0 0 (by simp) (by omega)))
  rcases (H.mix id z xs bk q2 h2).ex0 with h0|⟨b,cur,el,us,cp,p1,p2,p3,p4,p5,p6,p7,p8,p9,p10⟩
  ·exact ⟨.inl h0⟩
  exact .mk' ⟨b,cur,el,us,cp,p1,Q3g p2 q1,p3,p4,p5,p6,p7,p8,p9,fun i k hi hk=>(p10 i k hi hk).mono hRR (fun _ _ h=>h)⟩
 ·obtain ⟨q1,q2,_⟩:=hent id _ h1;rcases q2 with ⟨_,q2⟩|⟨_,q2⟩
  ·cases q2
  obtain ⟨v,t1,t2⟩:=H.row id z xs bk q2 h2;exact ⟨v,t1.mono [id] fun b M hb=>⟨by
   have h3:o b=some (id :: M):=(by simpa using hb);simpa using Q3g h3 q1,rfl⟩,t2⟩
 ·exact (hent id _ h1).2.2.elim
 ·obtain ⟨q1,q2,_⟩:=hent id _ h1;rcases q2 with ⟨_,q2⟩|⟨_,q2⟩
  ·cases q2
  exact (H.map id kd xs bk q2 h2).move hRR fun b M p2=>⟨Q3g p2 q1,rfl⟩
 ·cases hl:look t st'.s with
  | none=>simp only [St.get,hl,Option.getD_none];exact .bot
  | some v =>
   simp only [St.get,hl,Option.getD_some];rcases hs _ (Qd hl) with h|h
   ·simp only at h;rw [← h];exact (hx t).mono hRR (fun _ _ h=>h)
   simp only at h;rw [h];exact .bot
 rw [hn];exact hρ id kk hk'
end
section
attribute [local simp] Qc Qw Qm
theorem Contract.toFv {P:Program} {f:Nat} {args:List AV} {x:Value} (hc:Contract P f args (.val x)):FContract P false f args (.val x):=by
 refine ⟨hc.enters,fun w R vals h1 h2 h3=>(hc.calls w R vals h1 h2 h3).mono fun e w' ⟨v,o,he,hb,ho,hres⟩=>⟨v,fun _=>False,he,hb,fun b q=>q.elim,?_⟩⟩;have h1:one v:=hres.sh;have h2:=hres.cell 0 (Nat.zero_lt_one);have e:(Q1f v).getD 0 undef=v:=by
  have:Q1f v=[v]:=by
   revert h1
   unfold one Value.oneCell';cases v<;>simp [Q1f,Value.cells]
  rw [this];rfl
 rw [e] at h2;cases h2 with
 | val h=>exact .r (.val h)
end
end Go.Vc
