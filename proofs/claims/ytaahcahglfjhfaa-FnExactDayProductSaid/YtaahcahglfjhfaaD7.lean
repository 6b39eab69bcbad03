/- A part of the proof: a verified generator of conditions, and what each function of the program does. -/
import Derived.Test.YtaahcahglfjhfaaD6
import Derived.Scope
set_option maxRecDepth 100000
set_option maxHeartbeats 4000000
set_option linter.unusedSimpArgs false
set_option linter.unusedVariables false

namespace Go.Vc
open Go
section
attribute [local simp] Qa Qy Qq
def shm (n cnt:Nat):List (Nat × Nat):=(List.range cnt).map fun i=>(i,n+i)
theorem look_map {n:Nat}:∀ (l:List Nat) (i:Nat),look i (l.map fun i=>(i,n+i))=if i∈l then some (n+i) else none:=by
 intro l
 induction l with
 | nil=>intro i;simp [look]
 | cons a r ih =>
  intro i;simp only [List.map_cons,look,ih,List.mem_cons]
  by_cases h:a=i
  ·subst h;simp
  have:¬ i=a:=fun q=>h q.symm;simp [h,this]
theorem Q3O {n cnt i:Nat}:look i (shm n cnt)=if i<cnt then some (n+i) else none:=by
 unfold shm;rw [look_map];simp
theorem shm_fst (n cnt:Nat):((shm n cnt).map Prod.fst).Nodup:=by
 have:(shm n cnt).map Prod.fst=List.range cnt:=by simp [shm,Function.comp_def]
 rw [this];exact List.nodup_range
theorem shm_snd (n cnt:Nat):((shm n cnt).map Prod.snd).Nodup:=by
 have:(shm n cnt).map Prod.snd=(List.range cnt).map (n + ·):=by simp [shm,Function.comp_def]
 rw [this];exact List.Pairwise.map (R:=fun a b=>a ≠ b) _ (fun a b h e=>h (by omega)) List.nodup_range
theorem ro_rel {w:World} {R:Nat→Prop} {ρ ρ':Nat→Option Bk} {v:Value} {a:AV} (h:XRel w R ρ v a) (ha:AV.ro a=true):XRel w R ρ' v a:=by
 cases h with
 | r h=>exact .r h
 | _=>simp [AV.ro] at ha
def noAli:Ent→Bool
 | .ali _ _ _ _=>false
 | _=>true
theorem ICon.lift {P:Program} {f:Nat} {vs:List AV} {e e':Eff} {h:HP} {n:Nat} (hc:ICon P f vs (fun _=>none) 0 e) (hro:∀ a∈vs,AV.ro a=true) (hs:e.set=[]∧e.del=[]) (hs':e'.set=[]∧e'.del=[]) (hcnt:e'.cnt=e.cnt)
  (hv:e'.v=rl (shm n e.cnt) e.v) (hna:∀ p∈e.new,noAli p.2=true) (hnew:∀ i,i<e.cnt→∃ x y,look i e.new=some x∧rlE (shm n e.cnt) x=some y∧(n+i,y)∈e'.new) (hfine:e'.fine n):ICon P f vs h n e':=by
 refine ⟨hc.enters,fun _=>hfine,fun C w g h' vals hag hnw hlim W H hsz hargs=>?_⟩;have hf0:=hc.fine (fun id x hx=>by cases hx);have W0:WF ⟨w,fun _=>False,fun _=>none,0⟩ w ⟨g.R,fun _=>none,fun _=>none⟩:=⟨fun b hb=>⟨(W.R b hb).1,rfl⟩,(fun b L hb=>by cases hb),rfl,rfl,rfl,Nat.le_refl _,fun b _ _=>rfl⟩;have H0:HRel w ⟨g.R,fun _=>none,fun _=>none⟩ (fun id=>look id e.new):=⟨(fun id sz es bk _ hb=>by cases hb),(fun id sz es bk _ hb=>by cases hb),(fun id c i k sz bk _ hb=>by cases hb),(fun id kd es bk _ hb=>by cases hb)⟩;refine (hc.calls _ w _ _ vals (fun id hid=>absurd hid (Nat.not_lt_zero _)) (fun p hp=>QY hf0.nodup hp) (fun id k hk=>by cases hk) W0 H0 hsz (fun k hk=>ro_rel (hargs k hk) (hro _ (by
  rw [List.getD_eq_getElem?_getD,List.getElem?_eq_getElem hk];exact List.getElem_mem hk)))).mono fun ex w' ⟨v,R',o',ρ',q0,q1,q2,q3,q4,q5,q6,q7⟩=>?_
 rw [Q1j hs.1 hs.2] at q3;have ho':∀ b L,o' b=some L→w.heap.size≤b∧b<w'.heap.size:=fun b L hb=>⟨(q2.o b L hb).2.resolve_right id,(q2.o b L hb).1⟩;have hkeep:∀ b,b<w.heap.size→w'.heap[b]? = w.heap[b]?:=fun b hb=>q2.keep b hb id;have hgo:∀ b L,o' b=some L→g.o b=none:=by
  intro b L hb;cases hg:g.o b with
  | none=>rfl
  | some M=>have:=(W.o b M hg).1;have:=(ho' b L hb).1;omega
 have hm2:=shm_snd n e.cnt;have hrρ:∀ j bk,rlρ (shm n e.cnt) ρ' j=some bk→∃ i,i<e.cnt∧j=n+i∧look i (shm n e.cnt)=some j∧ρ' i=some bk:=by
  intro j bk hj;simp only [rlρ] at hj;split at hj
  ·rename_i i hi;have hl:=Q6I (shm_fst n e.cnt) hi;have hl2:=hl;rw [Q3O] at hl2;split at hl2
   ·rename_i hlt;simp only [Option.some.injEq] at hl2;exact ⟨i,hlt,hl2.symm,hl,hj⟩
   cases hl2
  cases hj
 have hgρ:∀ j bk,rlρ (shm n e.cnt) ρ' j=some bk→g.ρ j=none:=by
  intro j bk hj;obtain ⟨i,hi,rfl,_⟩:=hrρ j bk hj;cases hg:g.ρ (n+i) with
  | none=>rfl
  | some k=>have:=hlim _ _ hg;omega
 let o2:Nat→Option (List Nat):=fun b=>match g.o b with|some L=>some L|none=>rlo (shm n e.cnt) o' b
 let ρ2:Nat→Option Bk:=fun id=>match g.ρ id with|some k=>some k|none=>rlρ (shm n e.cnt) ρ' id
 have ho2:∀ b L,g.o b=some L→o2 b=some L:=fun b L hb=>by simp only [o2,hb]
 have ho3:∀ b i M,i<e.cnt→o' b=some (i :: M)→o2 b=some ((n+i) :: M):=by
  intro b i M hi hb;simp only [o2,hgo b _ hb,rlo,hb,Q3O,if_pos hi]
 have hρ2:∀ id k,g.ρ id=some k→ρ2 id=some k:=fun id k hk=>by simp only [ρ2,hk]
 have hρ3:∀ id k,rlρ (shm n e.cnt) ρ' id=some k→ρ2 id=some k:=fun id k hk=>by simp only [ρ2,hgρ id k hk,hk]
 have hX:∀ v a,XRel w' R' ρ' v a→XRel w' R' ρ2 v (rl (shm n e.cnt) a):=fun v a hx=>(rl_rel hm2 hx).mono (fun b hb=>⟨hb,rfl⟩) hρ3;have hent:∀ id x bk,h' id=some x→g.ρ id=none→ρ2 id=some bk→∃ i y,i<e.cnt∧id=n+i∧ρ' i=some bk∧look i e.new=some y∧rlE (shm n e.cnt) y=some x∧noAli y=true:=by
  intro id x bk hx hg hb;simp only [ρ2,hg] at hb;obtain ⟨i,hi,rfl,_,hr⟩:=hrρ id bk hb;obtain ⟨y,z,h1,h2,h3⟩:=hnew i hi;have:=hnw _ h3;simp only at this;rw [this] at hx;cases hx;exact ⟨i,y,hi,rfl,hr,h1,h2,hna _ (Qr h1)⟩
 have H1:HRel w' ⟨g.R,o2,g.ρ⟩ h':=H.mono (fun b hb=>hkeep b (W.R b hb).1) (fun b L hb=>⟨ho2 b L hb,hkeep b (W.o b L hb).1⟩) (fun _ _ hk=>hk) (fun id sz es bk _ h1 h2=>by rw [h1] at h2;cases h2) (fun id sz es bk _ h1 h2=>by rw [h1] at h2;cases h2)
  (fun id c i k sz bk _ h1 h2=>by rw [h1] at h2;cases h2)
 have H2:HRel w' ⟨R',o2,g.ρ⟩ h':=H1.growR q1.1;have H3:HRel w' ⟨R',o2,ρ2⟩ h':=by
  refine H2.mono (fun _ _=>rfl) (fun b L hb=>⟨hb,rfl⟩) hρ2 (fun id sz es bk he hg hb=>?_) (fun id sz es bk he hg hb=>?_) (fun id c i k sz bk he hg hb=>?_) (fun id kd es bk he hg hb=>?_)
  ·obtain ⟨i,y,hi,rfl,hr,h1,h2,h3⟩:=hent id _ bk he hg hb;cases y with
   | mix s2 e2 =>
    simp only [rlE,Option.some.injEq,Ent.mix.injEq] at h2;obtain ⟨rfl,rfl⟩:=h2;rcases (q3.mix i _ _ bk h1 hr).ex0 with ⟨rfl,h0⟩|⟨b,cur,el,us,cpm,p1,p2,p3,p4,p5,p5',p6,p7,p8,p9⟩
    ·exact ⟨.inl ⟨rfl,h0⟩⟩
    refine .mk' ⟨b,cur,el,us,cpm,p1,ho3 b i [] hi p2,p3,p4,by rw [Q14];exact p5,p5',fun j hj=>?_,fun j l hj hl=>?_,fun j l hj hl=>?_,fun j l hj hl=>?_⟩
    ·rw [Q14] at hj;rw [Q3L,QA];exact p6 j hj
    ·rw [Q14] at hj;exact p7 j l hj hl
    ·rw [Q14] at hj;exact p8 j l hj hl
    rw [Q14] at hj;rw [Q3L,Q1Z];exact hX _ _ (p9 j l hj hl)
   | row=>simp [rlE] at h2
   | mapE=>simp [rlE] at h2
   | ali=>cases h3
  ·obtain ⟨i,y,hi,rfl,hr,h1,h2,h3⟩:=hent id _ bk he hg hb;cases y with
   | mix=>simp [rlE] at h2
   | row s2 e2 =>
    simp only [rlE,Option.some.injEq,Ent.row.injEq] at h2;obtain ⟨rfl,rfl⟩:=h2;obtain ⟨v,hv,hh2⟩:=q3.row i _ _ bk h1 hr;exact ⟨v,hv.mono (R':=R') [n+i] fun b M hbo=>⟨ho3 b i M hi hbo,rfl⟩,hh2⟩
   | mapE=>simp [rlE] at h2
   | ali=>cases h3
  ·obtain ⟨i0,y,hi,rfl,hr,h1,h2,h3⟩:=hent id _ bk he hg hb;cases y with
   | mix=>simp [rlE] at h2
   | row=>simp [rlE] at h2
   | mapE=>simp [rlE] at h2
   | ali=>cases h3
  obtain ⟨i,y,hi,rfl,hr,h1,h2,h3⟩:=hent id _ bk he hg hb;cases y with
  | mix=>simp [rlE] at h2
  | row=>simp [rlE] at h2
  | mapE kd2 e2 =>
   simp only [rlE,Option.some.injEq,Ent.mapE.injEq] at h2;obtain ⟨rfl,rfl⟩:=h2;exact (q3.map i _ _ bk h1 hr).move (fun b hb=>⟨hb,rfl⟩) fun b M p2=>⟨ho3 b i M hi p2,rfl⟩
  | ali=>cases h3
 refine ⟨v,R',o2,ρ2,q0,⟨q1.1,fun b hb=>(q1.2 b hb).imp id (Nat.le_trans W.size)⟩,⟨fun b hb=>⟨(q2.R b hb).1,?_⟩,fun b L hb=>?_,q2.os.trans W.os,q2.tape.trans W.tape,q2.output.trans W.output,Nat.le_trans W.size q2.size,fun b hb hw=>(hkeep b (Nat.lt_of_lt_of_le hb W.size)).trans (W.keep b hb hw)⟩,by rw [Q1j hs'.1 hs'.2];exact H3,hρ2,fun id k hk=>?_,by rw [hv];exact hX _ _ q6,q7⟩
 ·have h1:o' b=none:=(q2.R b hb).2;show o2 b=none;rcases q1.2 b hb with hg|hg
  ·simp only [o2,show g.o b=none from (W.R b hg).2,rlo,h1]
  have hg':g.o b=none:=by
   cases hq:g.o b with
   | none=>rfl
   | some M=>have:=(W.o b M hq).1;simp only at hg;omega
  simp only [o2,hg',rlo,h1]
 ·have hb':o2 b=some L:=hb;cases hq:g.o b with
  | some M=>exact ⟨Nat.lt_of_lt_of_le (W.o b M hq).1 q2.size,(W.o b M hq).2⟩
  | none =>
   simp only [o2,hq,rlo] at hb';split at hb'
   ·rename_i x M hx;exact ⟨(ho' b _ hx).2,.inl (Nat.le_trans W.size (ho' b _ hx).1)⟩
   cases hb'
 have hk':ρ2 id=some k:=hk;cases hg:g.ρ id with
 | some k2=>simp only [ρ2,hg] at hk';exact .inl hk'
 | none =>
  simp only [ρ2,hg] at hk';obtain ⟨i,hi,rfl,_⟩:=hrρ id k hk';exact .inr ⟨by omega,by omega⟩
def rlE' (m:List (Nat × Nat)) (x:Ent):Ent:=(rlE m x).getD x
@[simp] theorem rlE'_mix {m:List (Nat × Nat)} {sz:Nat} {es:List (List AV)}:rlE' m (.mix sz es) = .mix sz (rlLL m es):=rfl
@[simp] theorem rlE'_row {m:List (Nat × Nat)} {sz:Nat} {es:List (List AV)}:rlE' m (.row sz es) = .row sz es:=rfl
@[simp] theorem rlE'_map {m:List (Nat × Nat)} {kd:MK} {es:List (Value × Value)}:rlE' m (.mapE kd es) = .mapE kd es:=rfl
theorem ICon.liftL {P:Program} {f:Nat} {vs:List AV} {e e':Eff} {h:HP} {n:Nat} (hc:ICon P f vs (fun _=>none) 0 e) (hro:∀ a∈vs,AV.ro a=true) (hs:e.set=[]∧e.del=[]) (hs':e'.set=[]∧e'.del=[]) (hcnt:e'.cnt=e.cnt)
  (hv:e'.v=rl (shm n e.cnt) e.v) (hna:∀ p∈e.new,noAli p.2=true) (hcomp:newB 0 e.cnt (e.new.map Prod.fst)=true) (hn:e'.new=e.new.map fun p=>(n+p.1,rlE' (shm n e.cnt) p.2)) (hfine:e'.fine n):ICon P f vs h n e':=by
 refine hc.lift hro hs hs' hcnt hv hna (fun i hi=>?_) hfine;have hm:=newI (n:=0) (e:=e) hcomp i (Nat.zero_le _) (by omega);obtain ⟨p,hp,rfl⟩:=List.mem_map.1 hm;have hf0:=hc.fine (fun id x hx=>by cases hx);refine ⟨p.2,rlE' (shm n e.cnt) p.2,QY hf0.nodup hp,?_,by rw [hn];exact List.mem_map.2 ⟨p,hp,rfl⟩⟩;have:=hna p hp;generalize p.2=x at this;cases x with
 | ali=>cases this
 | _=>rfl
end
section
attribute [local simp] Qa Qy Qq
inductive PreL:List AV→List AV→Prop
 | nil:PreL [] []
 | eq {a az bs}:PreL az bs→PreL (a :: az) (a :: bs)
 | pre {xs cs az bs}:xs.take cs.length=cs→PreL az bs→PreL (.rptr xs :: az) (.rptr cs :: bs)
theorem PreL.at {az bs:List AV} (h:PreL az bs):az.length=bs.length∧∀ k,k<az.length→∀ {w:World} {R:Nat→Prop} {ρ:Nat→Option Bk} {v:Value},XRel w R ρ v (az.getD k .bot)→XRel w R ρ v (bs.getD k .bot):=by
 induction h with
 | nil=>exact ⟨rfl,fun k hk=>by simp at hk⟩
 | eq _ ih =>
  refine ⟨by simp [ih.1],fun k hk=>?_⟩;cases k with
  | zero=>intro w R ρ v hx;exact hx
  | succ k=>intro w R ρ v hx;exact ih.2 k (by simpa using hk) hx
 | @pre xs cs az bs e _ ih =>
  refine ⟨by simp [ih.1],fun k hk=>?_⟩;cases k with
  | succ k=>intro w R ρ v hx;exact ih.2 k (by simpa using hk) hx
  | zero =>
   intro w R ρ v hx;have hx':XRel w R ρ v (.rptr xs):=hx;obtain ⟨b,x,cur,el,fr,us,h1,h2,h3,h4,h5,h6⟩:=hx'.rptr_eq;have hl:cs.length≤xs.length:=by
    have:=congrArg List.length e;simp at this;omega
   subst h1;show XRel w R ρ _ (.rptr cs);refine .r (.rptr us h2 h3 (fun k hk=>h4 k (by omega)) (fun k hk=>h5 k (by omega)) fun k hk=>?_);have:=h6 k (by omega);have e2:cs.getD k .bot=xs.getD k .bot:=by
    rw [← e];simp [List.getD_eq_getElem?_getD,hk]
   rw [e2];exact this
end
section
attribute [local simp] Qa Qy Qq
structure RetFG (P:Program) (rvs:List ResultVar) (st:St) (rs:List AV):Prop where
 ex:∃ az,RGet P st rvs az∧PurL st.hp az rs
theorem RetFG.mk' {P:Program} {rvs:List ResultVar} {st:St} {az rs:List AV} (hg:RGet P st rvs az) (hp:PurL st.hp az rs):RetFG P rvs st rs:=⟨_,hg,hp⟩
def pko (p i k j:Nat) (o:Nat→Option (List Nat)):Nat→Option (List Nat):=fun b=>match o b with
 | some (x :: M)=>if x=p then (match M with
  | i' :: k' :: M'=>if i'=i∧k'=k then some (j :: M') else none
  | _=>none) else some (x :: M)
 | _=>none
theorem Q4Q {p i k j:Nat} {o:Nat→Option (List Nat)} {b x:Nat} {M:List Nat} (h:o b=some (x :: M)) (hx:x ≠ p):pko p i k j o b=some (x :: M):=by
 simp only [pko,h,if_neg hx]
theorem pko_cell {p i k j:Nat} {o:Nat→Option (List Nat)} {b:Nat} {M:List Nat} (h:o b=some (p :: i :: k :: M)):pko p i k j o b=some (j :: M):=by
 simp [pko,h]
theorem pko_some {p i k j:Nat} {o:Nat→Option (List Nat)} {b:Nat} {L:List Nat} (h:pko p i k j o b=some L):∃ L',o b=some L':=by
 unfold pko at h;split at h
 ·rename_i hb;exact ⟨_,hb⟩
 cases h
theorem Wk.pick {F:Fx} {st st':St} {p j i k sz sz2:Nat} {es es2:List (List AV)} (hp:look p st.h=some (.row sz es)) (hj:look j st.h=some (.ali p i k sz2)) (hi:i<es.length) (hk:k<sz) (hc:(es.getD i []).getD k .bot = .lst true sz2 es2)
  (hs:∀ q∈st'.s,st.get q.1=q.2∨q.2 = .bot) (hn:st'.n=st.n) (hh:∀ q∈st'.h,q=(j,.row sz2 es2)∨(q.1 ≠ p∧look q.1 st.h=some q.2∧(match q.2 with|.ali _ _ _ _=>False|_=>True))):Wk F st st':=by
 intro a w ⟨R,hX,hr⟩;obtain ⟨r1,r2,r3,o,ρ,W,H,hx,hρ,hpn⟩:=hr;have hent:∀ id e,st'.hp id=some e→(id=j∧e = .row sz2 es2)∨(id ≠ p∧st.hp id=some e∧(match e with|.ali _ _ _ _=>False|_=>True)):=fun id e h=>by
  rcases hh (id,e) (Qr h) with q|q
  ·simp only [Prod.mk.injEq] at q;exact .inl q
  exact .inr q
 refine ⟨R,hX,r1,r2,fun id x hx'=>?_,pko p i k j o,ρ,⟨fun b hb=>⟨(W.R b hb).1,?_⟩,fun b L hb=>?_,W.os,W.tape,W.output,W.size,W.keep⟩,⟨fun id z xs bk h1 h2=>?_,fun id z xs bk h1 h2=>?_,fun id c i' k' z bk h1 h2=>?_,fun id kd xs bk h1 h2=>?_⟩,fun t=>?_,fun id kk hk'=>?_,fun id hid=>hpn.1 id hid,by rw [hn];exact hpn.2⟩
 ·rw [hn];rcases hent id x hx' with ⟨rfl,_⟩|⟨_,q,_⟩
  ·exact r3 _ _ hj
  exact r3 _ _ q
 ·have h3:o b=none:=(W.R b hb).2;simp only [pko,h3]
 ·obtain ⟨L',h3⟩:=pko_some hb;exact W.o b L' h3
 ·rcases hent id _ h1 with ⟨_,q⟩|⟨q1,q2,_⟩
  ·cases q
  rcases (H.mix id z xs bk q2 h2).ex0 with h0|⟨b,cur,el,us,cp,p1,p2,p3⟩
  ·exact ⟨.inl h0⟩
  exact .mk' ⟨b,cur,el,us,cp,p1,Q4Q p2 q1,p3⟩
 ·rcases hent id _ h1 with ⟨rfl,q⟩|⟨q1,q2,_⟩
  ·simp only [Ent.row.injEq] at q;obtain ⟨rfl,rfl⟩:=q;obtain ⟨e1,bkc,e2,e3⟩:=H.ali id p i k z bk hj h2;obtain ⟨bc,cur,el,v,c1,c2,c3,c4⟩:=e3 1 sz es (by simp only [cont];rw [show st.hp p=some (.row sz es) from hp]) (by rw [show st.hp p=some (.row sz es) from hp];rfl) hi hk;obtain ⟨vp,t1,t2⟩:=H.row p sz es bkc hp e2;generalize hL:([p]:List Nat)=L at t1;cases t1 with
   | nil=>simp at hi
   | @own _ _ _ b cap cur' el' us u1 u2 u3 u4 u5 u6 u7 u8 u9 =>
    subst hL;cases t2;simp only [Option.some.injEq] at c1;subst c1;rw [u2] at c2;simp only [Option.some.injEq,Obj.cells.injEq] at c2;obtain ⟨rfl,_,_⟩:=c2;have hv:us i k=v:=by
     have:=u7 i k hi hk;rw [c3] at this;exact (Option.some.inj this).symm
    have T:=u9 i k hi hk;rw [hc,hv] at T;refine ⟨v,T.mono [id] fun b' M hb'=>⟨?_,rfl⟩,?_⟩
    ·have:o b'=some (p :: i :: k :: M):=(by simpa using hb');simpa using pko_cell (j:=id) this
    rcases c4 with c4|c4
    ·exact c4
    exact (T.scn_lst c4).elim
  obtain ⟨v,t1,t2⟩:=H.row id z xs bk q2 h2;exact ⟨v,t1.same fun b M hb=>⟨by
   have h3:o b=some (id :: M):=(by simpa using hb);simpa using Q4Q h3 q1,rfl⟩,t2⟩
 ·rcases hent id _ h1 with ⟨_,q⟩|⟨_,_,q⟩
  ·cases q
  exact q.elim
 ·rcases hent id _ h1 with ⟨_,q⟩|⟨q1,q2,_⟩
  ·cases q
  exact (H.map id kd xs bk q2 h2).move (fun b hb=>⟨hb,rfl⟩) fun b M p2=>⟨Q4Q p2 q1,rfl⟩
 ·cases hl:look t st'.s with
  | none=>simp only [St.get,hl,Option.getD_none];exact .bot
  | some v =>
   simp only [St.get,hl,Option.getD_some];rcases hs _ (Qr hl) with h|h
   ·simp only at h;rw [← h];exact hx t
   simp only at h;rw [h];exact .bot
 rw [hn];exact hρ id kk hk'
end
section
attribute [local simp] Qa Qy Qq
theorem nlA_self {news:List (Nat × Nat)} {a:AV}:nlA news a a:=.inl rfl
theorem Q7W {news:List (Nat × Nat)}:∀ {l:List AV},nlL news l l
 | []=>trivial
 | _ :: _=>⟨nlA_self,Q7W⟩
theorem entN_mm {news:List (Nat × Nat)} {sz sz':Nat} {cs ds:List AV}:entN news (.mix sz [cs]) (.mix sz' [ds])=(sz=sz'∧nlL news cs ds):=rfl
theorem entN_mr {news:List (Nat × Nat)} {sz sz':Nat} {es:List (List AV)}:entN news (.mix sz []) (.row sz' es)=(sz=sz'∧es=[]):=rfl
theorem Q6b {news:List (Nat × Nat)} {e:Ent}:entN news e e:=by
 cases e with
 | mix sz es =>
  cases es with
  | nil=>rfl
  | cons a r =>
   cases r with
   | nil=>exact ⟨rfl,Q7W⟩
   | cons b s=>rfl
 | row sz es=>rfl
 | ali c i k sz=>rfl
 | mapE kd es=>rfl
end
section
attribute [local simp] Qa Qy Qq
mutual
inductive FrA (h:HP) (T:List Nat):AV→AV→Prop
 | ro {a}:a.ro=true→FrA h T a a
 | row {id sz es n}:h id=some (.row sz es)→id∈T→n=es.length→FrA h T (.own id 0 n) (.lst true sz es)
 | lit {id sz es n}:h id=some (.mix sz es)→id∈T→n=es.length→roRows sz es→FrA h T (.own id 0 n) (.lst true sz es)
 | mp {id kd es}:h id=some (.mapE kd es)→id∈T→kd.plain=true→FrA h T (.mp id) (.cmap kd es)
 | adr {id sz cs cs'}:h id=some (.mix sz [cs])→id∈T→cs.length=sz→FrL h T cs cs'→FrA h T (.adr id 0 0) (.rptr cs')
inductive FrL (h:HP) (T:List Nat):List AV→List AV→Prop
 | nil:FrL h T [] []
 | cons {a a' cs cs'}:FrA h T a a'→FrL h T cs cs'→FrL h T (a :: cs) (a' :: cs')
end
def fzd (T:List Nat) (o:Nat→Option (List Nat)):Nat→Option (List Nat):=fun b=>match o b with
 | some (x :: M)=>if x∈T then none else some (x :: M)
 | y=>y
theorem Q4I {T:List Nat} {o:Nat→Option (List Nat)} {b x:Nat} {M:List Nat} (h:o b=some (x :: M)) (hx:x ∉ T):fzd T o b=some (x :: M):=by
 simp only [fzd,h,if_neg hx]
theorem fzd_none {T:List Nat} {o:Nat→Option (List Nat)} {b x:Nat} {M:List Nat} (h:o b=some (x :: M)) (hx:x∈T):fzd T o b=none:=by
 simp [fzd,h,hx]
theorem fzd_some {T:List Nat} {o:Nat→Option (List Nat)} {b:Nat} {L:List Nat} (h:fzd T o b=some L):o b=some L:=by
 unfold fzd at h;split at h
 ·split at h
  ·cases h
  rename_i hb _;rw [hb];exact h
 exact h
def only (id:Nat) (o:Nat→Option (List Nat)):Nat→Option (List Nat):=fun b=>match o b with
 | some (x :: M)=>if x=id then some (x :: M) else none
 | _=>none
theorem only_some {id:Nat} {o:Nat→Option (List Nat)} {b:Nat} {L:List Nat} (h:only id o b=some L):∃ M,o b=some (id :: M):=by
 unfold only at h;split at h
 ·rename_i x M hb
  by_cases hx:x=id
  ·exact ⟨M,by rw [hb,hx]⟩
  simp [hx] at h
 cases h
def RT (g:Gh) (T:List Nat):Nat→Prop:=fun b=>g.R b∨∃ id M,id∈T∧g.o b=some (id :: M)
mutual
theorem FrA.rel {w:World} {g:Gh} {h:HP} {T:List Nat} (H:HRel w g h):∀ {a a':AV} {v:Value},FrA h T a a'→XRel w g.R g.ρ v a→RRel w (RT g T) v a'
 | a,_,v,.ro hr,hv=>(hv.toR hr).mono fun b hb=>⟨.inl hb,rfl⟩
 | _,_,v,.row (id:=id) (sz:=sz) (es:=es) (n:=n) hi hT hn,hv=>by
  rcases hv.own_eq with ⟨sz',cap,e1,e2,_,e4⟩|⟨b,sz',cap,cc,x,e1,e2,e3,e4,e5,e6,e7⟩
  ·rw [e2];have:es=[]:=List.length_eq_zero_iff.1 (by omega);subst this;exact .nil (by simp)
  obtain ⟨v0,t1,t2⟩:=H.row id sz es _ hi e1;have hx0:x=0:=e6 rfl;subst hx0;rw [e2];have t1':RRel w (RT g T) v0 (.lst true sz es):=(t1.mono (R':=g.R) (o':=only id g.o) [id] (fun b M hb=>⟨by
   have h3:g.o b=some (id :: M):=(by simpa using hb);simp [only,h3],rfl⟩)).pure fun b hb=>by
    rcases hb with hb|⟨L,hb⟩
    ·exact .inl hb
    obtain ⟨M,hM⟩:=only_some hb;exact .inr ⟨id,M,hT,hM⟩
  cases t2 with
  | own =>
   cases t1' with
   | nil h1=>subst hn;exact .nil (by omega)
   | lst us q1 q2 q3 q4 q5 q6 q7 q8 =>
    subst hn;exact .lst us q1 q2 (by omega) (by omega) q5 q6 q7 q8
 | _,_,v,.lit (id:=id) (sz:=sz) (es:=es) (n:=n) hi hT hn hr,hv=>by
  rcases hv.own_eq with ⟨sz',cap,e1,e2,_,e4⟩|⟨b,sz',cap,cc,x,e1,e2,e3,e4,e5,e6,e7⟩
  ·rw [e2];have:es=[]:=List.length_eq_zero_iff.1 (by omega);subst this;exact .nil (by simp)
  obtain ⟨b',cur,el,us,cp,p1,p2,p3,p4,p5,p6,p7,p8,p9,p10⟩:=(H.mix id sz es _ hi e1).ex (by simp);simp only [Bk.mk.injEq,Option.some.injEq] at p1;obtain ⟨rfl,rfl,rfl⟩:=p1;have hx0:x=0:=e6 rfl;subst hx0;rw [e2];subst hn;refine .lst us (.inr ⟨id,[],hT,p2⟩) p3 e4 (by omega) p7 (fun i k hi hk=>by rw [Nat.zero_add];exact p8 i k hi hk) p9 fun i k hi hk=>?_;have hm:es.getD i []∈es:=by simp [List.getD_eq_getElem?_getD,List.getElem?_eq_getElem hi]
  have hk':k<(es.getD i []).length:=by rw [(hr _ hm).1];exact hk
  have hro:((es.getD i []).getD k .bot).ro=true:=(hr _ hm).2 _ (by
   generalize es.getD i []=q at hk';simp [List.getD_eq_getElem?_getD,List.getElem?_eq_getElem hk'])
  exact ((p10 i k hi hk).toR hro).mono fun b hb=>⟨.inl hb,rfl⟩
 | _,_,v,.mp (id:=id) (kd:=kd) (es:=es) hi hT hp,hv=>by
  cases hv with
  | r h=>cases h
  | mp e =>
   obtain ⟨b',h1,h2,h3,h4⟩:=(H.map id kd es _ hi e).plain (MK.plain_ne hp);simp only [Bk.mk.injEq,Option.some.injEq] at h1;obtain ⟨rfl,_,_⟩:=h1;exact .cmap (.inr ⟨id,[],hT,h2⟩) h3 h4
 | _,_,v,.adr (id:=id) (sz:=sz) (cs:=cs) (cs':=cs') hi hT hz hl,hv=>by
  cases hv with
  | r h=>cases h
  | @adr _ b sz' cap _ _ e =>
   obtain ⟨b',cur,el,us,cp,p1,p2,p3,p4,p5,p6,p7,p8,p9,p10⟩:=(H.mix id sz [cs] _ hi e).ex (by simp);simp only [Bk.mk.injEq,Option.some.injEq] at p1;obtain ⟨rfl,rfl,rfl⟩:=p1;have hL:=hl.rel H (vs:=us 0) fun k hk=>by
    have:=p10 0 k (by simp) (by omega);simpa using this
   refine .rptr (us 0) (.inr ⟨id,[],hT,p2⟩) p3 (fun k hk=>?_) (fun k hk=>?_) fun k hk=>hL.2 k hk
   ·have:=p8 0 k (by simp) (by rw [← hz,← hL.1];exact hk);simpa using this
   exact p9 0 k (by simp) (by rw [← hz,← hL.1];exact hk)
theorem FrL.rel {w:World} {g:Gh} {h:HP} {T:List Nat} (H:HRel w g h):∀ {cs cs':List AV} {vs:Nat→Value},FrL h T cs cs'→(∀ k,k<cs.length→XRel w g.R g.ρ (vs k) (cs.getD k .bot)) →
  cs'.length=cs.length∧∀ k,k<cs'.length→RRel w (RT g T) (vs k) (cs'.getD k .bot)
 | _,_,vs,.nil,_=>⟨rfl,fun k hk=>by simp at hk⟩
 | _,_,vs,.cons (a:=a) (a':=a') (cs:=cs) (cs':=cs') h1 h2,hv=>by
  have hh:=h1.rel H (v:=vs 0) (hv 0 (by simp));have ht:=h2.rel H (vs:=fun k=>vs (k+1)) fun k hk=>by
   have:=hv (k+1) (by simpa using hk);simpa using this
  refine ⟨by simp [ht.1],fun k hk=>?_⟩;cases k with
  | zero=>exact hh
  | succ k=>simpa using ht.2 k (by simpa using hk)
end
theorem frz_n {α:Type} {p:α→Prop}:∀ x∈([]:List α),p x:=by simp
theorem Q2l {α:Type} {p:α→Prop} {q:α} {l:List α} (h:p q) (t:∀ x∈l,p x):∀ x∈q :: l,p x:=by simpa using ⟨h,t⟩
theorem Wk.frzD {F:Fx} {st st':St} (hW:∀ b,¬ F.C.wrb b) (T:List Nat)
  (hs:∀ q∈st'.s,st.get q.1=q.2∨q.2 = .bot∨FrA st.hp T (st.get q.1) q.2) (hn:st'.n=st.n)
  (hh:∀ q∈st'.h,q.1 ∉ T∧look q.1 st.h=some q.2∧(match q.2 with|.ali _ _ _ _=>False|_=>True)):Wk F st st':=by
 intro a w ⟨R,hX,hr0⟩;obtain ⟨r1,r2,r3,o,ρ,W,H,hx,hρ,hpn⟩:=hr0;have hent:∀ id e,st'.hp id=some e→id ∉ T∧st.hp id=some e∧(match e with|.ali _ _ _ _=>False|_=>True):=fun id e h=>hh (id,e) (Qr h);have hRR:∀ b,R b→RT ⟨R,o,ρ⟩ T b∧w.heap[b]? = w.heap[b]?:=fun b hb=>⟨.inl hb,rfl⟩;refine ⟨RT ⟨R,o,ρ⟩ T,⟨fun b hb=>.inl (hX.1 b hb),fun b hb=>?_⟩,r1,r2,fun id x hx'=>?_,fzd T o,ρ,⟨fun b hb=>?_,fun b L hb=>W.o b L (fzd_some hb),W.os,W.tape,W.output,W.size,W.keep⟩,
  ⟨fun id z xs bk h1 h2=>?_,fun id z xs bk h1 h2=>?_,fun id c i' k' z bk h1 h2=>?_,fun id kd xs bk h1 h2=>?_⟩,fun t=>?_,fun id kk hk'=>?_,fun id hid=>hpn.1 id hid,by rw [hn];exact hpn.2⟩
 ·rcases hb with hb|⟨id,M,hT,hb⟩
  ·exact hX.2 b hb
  rcases (W.o b _ hb).2 with h|h
  ·exact .inr h
  exact absurd h (hW b)
 ·rw [hn];exact r3 _ _ (hent id x hx').2.1
 ·rcases hb with hb|⟨id,M,hT,hb⟩
  ·have h3:o b=none:=(W.R b hb).2;exact ⟨(W.R b hb).1,by simp only [fzd,h3]⟩
  exact ⟨(W.o b _ hb).1,fzd_none hb hT⟩
 ·obtain ⟨q1,q2,_⟩:=hent id _ h1;rcases (H.mix id z xs bk q2 h2).ex0 with h0|⟨b,cur,el,us,cp,p1,p2,p3,p4,p5,p6,p7,p8,p9,p10⟩
  ·exact ⟨.inl h0⟩
  exact .mk' ⟨b,cur,el,us,cp,p1,Q4I p2 q1,p3,p4,p5,p6,p7,p8,p9,fun i k hi hk=>(p10 i k hi hk).mono hRR (fun _ _ h=>h)⟩
 ·obtain ⟨q1,q2,_⟩:=hent id _ h1;obtain ⟨v,t1,t2⟩:=H.row id z xs bk q2 h2;exact ⟨v,t1.mono [id] fun b M hb=>⟨by
   have h3:o b=some (id :: M):=(by simpa using hb);simpa using Q4I h3 q1,rfl⟩,t2⟩
 ·exact (hent id _ h1).2.2.elim
 ·obtain ⟨q1,q2,_⟩:=hent id _ h1;exact (H.map id kd xs bk q2 h2).move hRR fun b M p2=>⟨Q4I p2 q1,rfl⟩
 ·cases hl:look t st'.s with
  | none=>simp only [St.get,hl,Option.getD_none];exact .bot
  | some v =>
   simp only [St.get,hl,Option.getD_some];rcases hs _ (Qr hl) with h|h|h
   ·simp only at h;rw [← h];exact (hx t).mono hRR (fun _ _ h=>h)
   ·simp only at h;rw [h];exact .bot
   exact .r (h.rel H (hx t))
 rw [hn];exact hρ id kk hk'
end
end Go.Vc
