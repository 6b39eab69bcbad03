/- A part of the proof: a verified generator of conditions, and what each function of the program does. -/
import Derived.Test.YtbpjpnccoeedoaaJ6
import Derived.Scope
set_option maxRecDepth 100000
set_option maxHeartbeats 4000000
set_option linter.unusedSimpArgs false
set_option linter.unusedVariables false

namespace Go.Vc
open Go
theorem stoX_row {P:Program} {mt:Bool} {fz:List Nat} {all:Array Oper} {t:TypeId} {ty:Tyi} {xv b:AV} {id i k sz:Nat} {es es2:List (List AV)} {ds:List Nat} {dst:Option Nat} {os:List Oper} {st:St} {K:St→Prop} (dels:List Nat) (h1:tyi P t=some ty) (h2:ty.sz=1)
  (he:look id st.h=some (.row sz es)) (hl:layC st.hp xv=some (b,ds)) (hi:i<es.length) (hk:k<sz) (hn:(id :: ds).Nodup) (hlt:∀ y∈ds++dels,y<st.n) (ha:∀ p∈st.h,Q5A p.2=true→p.1∈dels)
  (h2':es.set i ((es.getD i []).set k b)=es2)
  (h:runX P mt fz all os (st.app dst { v:=.bot,set:=[(id,.row sz es2)],del:=ds++dels }) K):stoA P mt all t (.adr id i k) xv dst os st K:=by
 subst h2';exact Q9z dels h1 h2 ⟨he,hl,hi,hk,hn,hlt,fun id' _ _ _ _ _ h3=>.inl (ha (id',_) (Qo h3) rfl)⟩ h
theorem Q8T {P:Program} {mt:Bool} {fz:List Nat} {all:Array Oper} {t:TypeId} {ty:Tyi} {az bs:List AV} {id i sz:Nat} {es es2:List (List AV)} {ds:List Nat} {dst:Option Nat} {os:List Oper} {st:St} {K:St→Prop} (dels:List Nat) (h1:tyi P t=some ty) (h2:ty.sz=sz)
  (he:look id st.h=some (.row sz es)) (hl:layCs st.hp az=some (bs,ds)) (hi:i<es.length) (hk:az.length=sz) (hn:(id :: ds).Nodup) (hlt:∀ y∈ds++dels,y<st.n) (ha:∀ p∈st.h,Q5A p.2=true→p.1∈dels)
  (h2':es.set i bs=es2)
  (h:runX P mt fz all os (st.app dst { v:=.bot,set:=[(id,.row sz es2)],del:=ds++dels }) K):stoA P mt all t (.adr id i 0) (.agg az) dst os st K:=by
 subst h2';exact Q88 dels h1 h2 ⟨he,hl,hi,hk,hn,hlt,fun id' _ _ _ _ _ h3=>.inl (ha (id',_) (Qo h3) rfl)⟩ h
def shm (n cnt:Nat):List (Nat × Nat):=(List.range cnt).map fun i=>(i,n+i)
theorem look_map {n:Nat}:∀ (l:List Nat) (i:Nat),look i (l.map fun i=>(i,n+i))=if i∈l then some (n+i) else none:=by
 intro l
 induction l with
 | nil=>intro i;simp [look]
 | cons a r ih =>
  intro i;simp only [List.map_cons,look,ih,List.mem_cons]
  by_cases h:a=i
  ·subst h;simp
  have:¬ i=a:=fun q=>h q.symm;simp [h,this]
theorem Q4k {n cnt i:Nat}:look i (shm n cnt)=if i<cnt then some (n+i) else none:=by
 unfold shm;rw [look_map];simp
theorem shm_fst (n cnt:Nat):((shm n cnt).map Prod.fst).Nodup:=by
 have:(shm n cnt).map Prod.fst=List.range cnt:=by simp [shm,Function.comp_def]
 rw [this];exact List.nodup_range
theorem shm_snd (n cnt:Nat):((shm n cnt).map Prod.snd).Nodup:=by
 have:(shm n cnt).map Prod.snd=(List.range cnt).map (n + ·):=by simp [shm,Function.comp_def]
 rw [this];exact List.Pairwise.map (R:=fun a b=>a ≠ b) _ (fun a b h e=>h (by omega)) List.nodup_range
theorem ro_rel {w:World} {R:Nat→Prop} {ρ ρ':Nat→Option Bk} {v:Value} {a:AV} (h:XRel w R ρ v a) (ha:AV.ro a=true):XRel w R ρ' v a:=by
 cases h with
 | r h=>exact .r h
 | _=>simp [AV.ro] at ha
def noAli:Ent→Bool
 | .ali _ _ _ _=>false
 | _=>true
theorem ICon.lift {P:Program} {f:Nat} {vs:List AV} {e e':Eff} {h:HP} {n:Nat} (hc:ICon P f vs (fun _=>none) 0 e) (hro:∀ a∈vs,AV.ro a=true) (hs:e.set=[]∧e.del=[]) (hs':e'.set=[]∧e'.del=[]) (hcnt:e'.cnt=e.cnt)
  (hv:e'.v=rl (shm n e.cnt) e.v) (hna:∀ p∈e.new,noAli p.2=true) (hnew:∀ i,i<e.cnt→∃ x y,look i e.new=some x∧rlE (shm n e.cnt) x=some y∧(n+i,y)∈e'.new) (hfine:e'.fine n):ICon P f vs h n e':=by
 refine ⟨hc.enters,fun _=>hfine,fun C w g h' vals hag hnw hlim W H hsz hargs=>?_⟩;have hf0:=hc.fine (fun id x hx=>by cases hx);have W0:WF ⟨w,fun _=>False,fun _=>none,0⟩ w ⟨g.R,fun _=>none,fun _=>none⟩:=⟨fun b hb=>⟨(W.R b hb).1,rfl⟩,(fun b L hb=>by cases hb),rfl,rfl,rfl,Nat.le_refl _,fun b _ _=>rfl⟩;have H0:HRel w ⟨g.R,fun _=>none,fun _=>none⟩ (fun id=>look id e.new):=⟨(fun id sz es bk _ hb=>by cases hb),(fun id sz es bk _ hb=>by cases hb),(fun id c i k sz bk _ hb=>by cases hb),(fun id kd es bk _ hb=>by cases hb)⟩;refine (hc.calls _ w _ _ vals (fun id hid=>absurd hid (Nat.not_lt_zero _)) (fun p hp=>QR hf0.nodup hp) (fun id k hk=>by cases hk) W0 H0 hsz (fun k hk=>ro_rel (hargs k hk) (hro _ (by
  rw [List.getD_eq_getElem?_getD,List.getElem?_eq_getElem hk];exact List.getElem_mem hk)))).mono fun ex w' ⟨v,R',o',ρ',q0,q1,q2,q3,q4,q5,q6,q7⟩=>?_
 rw [QQ hs.1 hs.2] at q3;have ho':∀ b L,o' b=some L→w.heap.size≤b∧b<w'.heap.size:=fun b L hb=>⟨(q2.o b L hb).2.resolve_right id,(q2.o b L hb).1⟩;have hkeep:∀ b,b<w.heap.size→w'.heap[b]? = w.heap[b]?:=fun b hb=>q2.keep b hb id;have hgo:∀ b L,o' b=some L→g.o b=none:=by
  intro b L hb;cases hg:g.o b with
  | none=>rfl
  | some M=>have:=(W.o b M hg).1;have:=(ho' b L hb).1;omega
 have hm2:=shm_snd n e.cnt;have hrρ:∀ j bk,rlρ (shm n e.cnt) ρ' j=some bk→∃ i,i<e.cnt∧j=n+i∧look i (shm n e.cnt)=some j∧ρ' i=some bk:=by
  intro j bk hj;simp only [rlρ] at hj;split at hj
  ·rename_i i hi;have hl:=Q7t (shm_fst n e.cnt) hi;have hl2:=hl;rw [Q4k] at hl2;split at hl2
   ·rename_i hlt;simp only [Option.some.injEq] at hl2;exact ⟨i,hlt,hl2.symm,hl,hj⟩
   cases hl2
  cases hj
 have hgρ:∀ j bk,rlρ (shm n e.cnt) ρ' j=some bk→g.ρ j=none:=by
  intro j bk hj;obtain ⟨i,hi,rfl,_⟩:=hrρ j bk hj;cases hg:g.ρ (n+i) with
  | none=>rfl
  | some k=>have:=hlim _ _ hg;omega
 let o2:Nat→Option (List Nat):=fun b=>match g.o b with|some L=>some L|none=>rlo (shm n e.cnt) o' b
 let ρ2:Nat→Option Bk:=fun id=>match g.ρ id with|some k=>some k|none=>rlρ (shm n e.cnt) ρ' id
 have ho2:∀ b L,g.o b=some L→o2 b=some L:=fun b L hb=>by simp only [o2,hb]
 have ho3:∀ b i M,i<e.cnt→o' b=some (i :: M)→o2 b=some ((n+i) :: M):=by
  intro b i M hi hb;simp only [o2,hgo b _ hb,rlo,hb,Q4k,if_pos hi]
 have hρ2:∀ id k,g.ρ id=some k→ρ2 id=some k:=fun id k hk=>by simp only [ρ2,hk]
 have hρ3:∀ id k,rlρ (shm n e.cnt) ρ' id=some k→ρ2 id=some k:=fun id k hk=>by simp only [ρ2,hgρ id k hk,hk]
 have hX:∀ v a,XRel w' R' ρ' v a→XRel w' R' ρ2 v (rl (shm n e.cnt) a):=fun v a hx=>(rl_rel hm2 hx).mono (fun b hb=>⟨hb,rfl⟩) hρ3;have hent:∀ id x bk,h' id=some x→g.ρ id=none→ρ2 id=some bk→∃ i y,i<e.cnt∧id=n+i∧ρ' i=some bk∧look i e.new=some y∧rlE (shm n e.cnt) y=some x∧noAli y=true:=by
  intro id x bk hx hg hb;simp only [ρ2,hg] at hb;obtain ⟨i,hi,rfl,_,hr⟩:=hrρ id bk hb;obtain ⟨y,z,h1,h2,h3⟩:=hnew i hi;have:=hnw _ h3;simp only at this;rw [this] at hx;cases hx;exact ⟨i,y,hi,rfl,hr,h1,h2,hna _ (Qo h1)⟩
 have H1:HRel w' ⟨g.R,o2,g.ρ⟩ h':=H.mono (fun b hb=>hkeep b (W.R b hb).1) (fun b L hb=>⟨ho2 b L hb,hkeep b (W.o b L hb).1⟩) (fun _ _ hk=>hk) (fun id sz es bk _ h1 h2=>by rw [h1] at h2;cases h2) (fun id sz es bk _ h1 h2=>by rw [h1] at h2;cases h2)
  (fun id c i k sz bk _ h1 h2=>by rw [h1] at h2;cases h2)
 have H2:HRel w' ⟨R',o2,g.ρ⟩ h':=H1.growR q1.1;have H3:HRel w' ⟨R',o2,ρ2⟩ h':=by
  refine H2.mono (fun _ _=>rfl) (fun b L hb=>⟨hb,rfl⟩) hρ2 (fun id sz es bk he hg hb=>?_) (fun id sz es bk he hg hb=>?_) (fun id c i k sz bk he hg hb=>?_) (fun id kd es bk he hg hb=>?_)
  ·obtain ⟨i,y,hi,rfl,hr,h1,h2,h3⟩:=hent id _ bk he hg hb;cases y with
   | mix s2 e2 =>
    simp only [rlE,Option.some.injEq,Ent.mix.injEq] at h2;obtain ⟨rfl,rfl⟩:=h2;obtain ⟨b,cur,el,us,cpm,p1,p2,p3,p4,p5,p5',p6,p7,p8,p9⟩:=(q3.mix i _ _ bk h1 hr).ex;refine ⟨b,cur,el,us,cpm,p1,ho3 b i [] hi p2,p3,p4,by rw [Q13];exact p5,p5',fun j hj=>?_,fun j l hj hl=>?_,fun j l hj hl=>?_,fun j l hj hl=>?_⟩
    ·rw [Q13] at hj;rw [Q4f,QE];exact p6 j hj
    ·rw [Q13] at hj;exact p7 j l hj hl
    ·rw [Q13] at hj;exact p8 j l hj hl
    rw [Q13] at hj;rw [Q4f,Q21];exact hX _ _ (p9 j l hj hl)
   | row=>simp [rlE] at h2
   | mapE=>simp [rlE] at h2
   | ali=>cases h3
  ·obtain ⟨i,y,hi,rfl,hr,h1,h2,h3⟩:=hent id _ bk he hg hb;cases y with
   | mix=>simp [rlE] at h2
   | row s2 e2 =>
    simp only [rlE,Option.some.injEq,Ent.row.injEq] at h2;obtain ⟨rfl,rfl⟩:=h2;obtain ⟨v,hv,hh2⟩:=q3.row i _ _ bk h1 hr;exact ⟨v,hv.mono (R':=R') [n+i] fun b M hbo=>⟨ho3 b i M hi hbo,rfl⟩,hh2⟩
   | mapE=>simp [rlE] at h2
   | ali=>cases h3
  ·obtain ⟨i0,y,hi,rfl,hr,h1,h2,h3⟩:=hent id _ bk he hg hb;cases y with
   | mix=>simp [rlE] at h2
   | row=>simp [rlE] at h2
   | mapE=>simp [rlE] at h2
   | ali=>cases h3
  obtain ⟨i,y,hi,rfl,hr,h1,h2,h3⟩:=hent id _ bk he hg hb;cases y with
  | mix=>simp [rlE] at h2
  | row=>simp [rlE] at h2
  | mapE kd2 e2 =>
   simp only [rlE,Option.some.injEq,Ent.mapE.injEq] at h2;obtain ⟨rfl,rfl⟩:=h2;obtain ⟨b,p1,p2,p3,p4⟩:=q3.map i _ _ bk h1 hr;exact ⟨b,p1,ho3 b i [] hi p2,p3,p4⟩
  | ali=>cases h3
 refine ⟨v,R',o2,ρ2,q0,⟨q1.1,fun b hb=>(q1.2 b hb).imp id (Nat.le_trans W.size)⟩,⟨fun b hb=>⟨(q2.R b hb).1,?_⟩,fun b L hb=>?_,q2.os.trans W.os,q2.tape.trans W.tape,q2.output.trans W.output,Nat.le_trans W.size q2.size,fun b hb hw=>(hkeep b (Nat.lt_of_lt_of_le hb W.size)).trans (W.keep b hb hw)⟩,by rw [QQ hs'.1 hs'.2];exact H3,hρ2,fun id k hk=>?_,by rw [hv];exact hX _ _ q6,q7⟩
 ·have h1:o' b=none:=(q2.R b hb).2;show o2 b=none;rcases q1.2 b hb with hg|hg
  ·simp only [o2,show g.o b=none from (W.R b hg).2,rlo,h1]
  have hg':g.o b=none:=by
   cases hq:g.o b with
   | none=>rfl
   | some M=>have:=(W.o b M hq).1;simp only at hg;omega
  simp only [o2,hg',rlo,h1]
 ·have hb':o2 b=some L:=hb;cases hq:g.o b with
  | some M=>exact ⟨Nat.lt_of_lt_of_le (W.o b M hq).1 q2.size,(W.o b M hq).2⟩
  | none =>
   simp only [o2,hq,rlo] at hb';split at hb'
   ·rename_i x M hx;exact ⟨(ho' b _ hx).2,.inl (Nat.le_trans W.size (ho' b _ hx).1)⟩
   cases hb'
 have hk':ρ2 id=some k:=hk;cases hg:g.ρ id with
 | some k2=>simp only [ρ2,hg] at hk';exact .inl hk'
 | none =>
  simp only [ρ2,hg] at hk';obtain ⟨i,hi,rfl,_⟩:=hrρ id k hk';exact .inr ⟨by omega,by omega⟩
def rlE' (m:List (Nat × Nat)) (x:Ent):Ent:=(rlE m x).getD x
@[simp] theorem rlE'_mix {m:List (Nat × Nat)} {sz:Nat} {es:List (List AV)}:rlE' m (.mix sz es) = .mix sz (rlLL m es):=rfl
@[simp] theorem rlE'_row {m:List (Nat × Nat)} {sz:Nat} {es:List (List AV)}:rlE' m (.row sz es) = .row sz es:=rfl
@[simp] theorem rlE'_map {m:List (Nat × Nat)} {kd:MK} {es:List (Value × Value)}:rlE' m (.mapE kd es) = .mapE kd es:=rfl
theorem ICon.liftL {P:Program} {f:Nat} {vs:List AV} {e e':Eff} {h:HP} {n:Nat} (hc:ICon P f vs (fun _=>none) 0 e) (hro:∀ a∈vs,AV.ro a=true) (hs:e.set=[]∧e.del=[]) (hs':e'.set=[]∧e'.del=[]) (hcnt:e'.cnt=e.cnt)
  (hv:e'.v=rl (shm n e.cnt) e.v) (hna:∀ p∈e.new,noAli p.2=true) (hcomp:newB 0 e.cnt (e.new.map Prod.fst)=true) (hn:e'.new=e.new.map fun p=>(n+p.1,rlE' (shm n e.cnt) p.2)) (hfine:e'.fine n):ICon P f vs h n e':=by
 refine hc.lift hro hs hs' hcnt hv hna (fun i hi=>?_) hfine;have hm:=newI (n:=0) (e:=e) hcomp i (Nat.zero_le _) (by omega);obtain ⟨p,hp,rfl⟩:=List.mem_map.1 hm;have hf0:=hc.fine (fun id x hx=>by cases hx);refine ⟨p.2,rlE' (shm n e.cnt) p.2,QR hf0.nodup hp,?_,by rw [hn];exact List.mem_map.2 ⟨p,hp,rfl⟩⟩;have:=hna p hp;generalize p.2=x at this;cases x with
 | ali=>cases this
 | _=>rfl
end Go.Vc
