/- A part of the proof: a verified generator of conditions, and what each function of the program does. -/
import Derived.Test.YtjfnifbgmcjjkaaGreatS6
import Derived.Scope
set_option maxRecDepth 100000
set_option maxHeartbeats 4000000
set_option linter.unusedSimpArgs false
set_option linter.unusedVariables false

namespace Go.Vc
open Go
section
attribute [local simp] Ql Q11 QE
def shm (n cnt:Nat):List (Nat × Nat):=(List.range cnt).map fun i=>(i,n+i)
theorem look_map {n:Nat}:∀ (l:List Nat) (i:Nat),look i (l.map fun i=>(i,n+i))=if i∈l then some (n+i) else none:=by
 intro l
 induction l with
 | nil=>intro i;simp [look]
 | cons a r ih =>
  intro i;simp only [List.map_cons,look,ih,List.mem_cons]
  by_cases h:a=i
  ·subst h;simp
  have:¬ i=a:=fun q=>h q.symm;simp [h,this]
theorem Q5g {n cnt i:Nat}:look i (shm n cnt)=if i<cnt then some (n+i) else none:=by
 unfold shm;rw [look_map];simp
theorem shm_fst (n cnt:Nat):((shm n cnt).map Prod.fst).Nodup:=by
 have:(shm n cnt).map Prod.fst=List.range cnt:=by simp [shm,Function.comp_def]
 rw [this];exact List.nodup_range
theorem shm_snd (n cnt:Nat):((shm n cnt).map Prod.snd).Nodup:=by
 have:(shm n cnt).map Prod.snd=(List.range cnt).map (n + ·):=by simp [shm,Function.comp_def]
 rw [this];exact List.Pairwise.map (R:=fun a b=>a ≠ b) _ (fun a b h e=>h (by omega)) List.nodup_range
theorem ro_rel {w:World} {R:Nat→Prop} {ρ ρ':Nat→Option Bk} {v:Value} {a:AV} (h:XRel w R ρ v a) (ha:AV.ro a=true):XRel w R ρ' v a:=by
 cases h with
 | r h=>exact .r h
 | _=>simp [AV.ro] at ha
def noAli:Ent→Bool
 | .ali _ _ _ _=>false
 | _=>true
def rlE' (m:List (Nat × Nat)) (x:Ent):Ent:=(rlE m x).getD x
@[simp] theorem rlE'_mix {m:List (Nat × Nat)} {sz:Nat} {es:List (List AV)}:rlE' m (.mix sz es) = .mix sz (rlLL m es):=rfl
@[simp] theorem rlE'_row {m:List (Nat × Nat)} {sz:Nat} {es:List (List AV)}:rlE' m (.row sz es) = .row sz es:=rfl
@[simp] theorem rlE'_map {m:List (Nat × Nat)} {kd:MK} {es:List (Value × Value)}:rlE' m (.mapE kd es) = .mapE kd es:=rfl
end
section
attribute [local simp] Ql Q11 QE
theorem Contract.toF {P:Program} {f:Nat} {args az:List AV} (hc:Contract P f args (.agg az)):FContract P false f args (.agg az):=by
 refine ⟨hc.enters,fun w R vals hR hsz hx=>?_⟩;refine (hc.calls w R vals hR hsz hx).mono fun e w' ⟨v,o,he,hb,ho,hres⟩=>?_;refine ⟨v,fun b=>∃ L,o b=some L,he,hb,fun b ⟨L,hL⟩=>⟨(ho b L hL).2,.inr (ho b L hL).1⟩,?_⟩;obtain ⟨cs,rfl,hl⟩:∃ cs:Array Value,v = .agg cs∧cs.size=az.length:=hres.sh;have hk:∀ k,k<az.length→TRel w' (fun _=>False) o [k] (cs.getD k undef) (az.getD k .bot):=by
  intro k hk;have h:=hres.cell k (by simpa [flat,AV.cells] using hk);have e1:(Q2C (.agg cs)).getD k undef=cs.getD k undef:=by
   simp [Q2C,Value.cells,List.getD_eq_getElem?_getD]
  have e2:(flat (.agg az)).getD k .bot=az.getD k .bot:=rfl;rw [e1,e2] at h;exact h
 exact .agg hl (fun k h=>(hk k h).one) fun k h=>.r ((hk k h).pure fun b hb=>hb.resolve_left id)
theorem Contract.toF1 {P:Program} {f:Nat} {args:List AV} {u:Bool} {sz:Nat} {es:List (List AV)} (hc:Contract P f args (.lst u sz es)):FContract P false f args (.lst u sz es):=by
 refine ⟨hc.enters,fun w R vals hR hsz hx=>?_⟩;refine (hc.calls w R vals hR hsz hx).mono fun e w' ⟨v,o,he,hb,ho,hres⟩=>?_;refine ⟨v,fun b=>∃ L,o b=some L,he,hb,fun b ⟨L,hL⟩=>⟨(ho b L hL).2,.inr (ho b L hL).1⟩,?_⟩;have h1:one v:=hres.sh;have h:=hres.cell 0 (by simp [flat,AV.cells]);have e1:(Q2C v).getD 0 undef=v:=by
  revert h1
  unfold one Value.oneCell' Q2C;cases v<;>simp [Value.cells]
 rw [e1] at h;exact .r (h.pure fun b hb=>hb.resolve_left id)
theorem Wk.frz {F:Fx} {st st':St} (hW:∀ b,¬ F.C.wrb b) (fz:List (Nat × List AV)) (m:List (Nat × Nat)) (hz:∀ q∈fz,look q.1 m=none∧look q.1 st.h=some (.mix q.2.length [q.2])∧∀ c∈q.2,c.ro=true)
  (h:(m.map Prod.fst).Nodup∧(m.map Prod.snd).Nodup∧(∀ id,id<F.pins→look id m=some id)∧(∀ p∈m,p.2<st'.n)∧(∀ p∈st'.h,p.1<st'.n)∧(∀ p∈st'.s,p.2=rl m (st.get p.1)∨p.2 = .bot∨∃ q∈fz,st.get p.1 = .adr q.1 0 0∧p.2 = .rptr q.2)∧∀ p∈st'.h,hhOk m st.h p.1 p.2):Wk F st st':=by
 obtain ⟨h1,h2,hpin,hn,hok,hs,hh⟩:=h;refine Wk.relabelZ fz (.inr hW) m (fun q hq=>⟨(hz q hq).1,(hz q hq).2.1,fun c hc {_ _ _ _} hx=>hx.toR ((hz q hq).2.2 c hc)⟩) h1 h2 (Q9R h1 h2 hpin hn).1 (Q9R h1 h2 hpin hn).2 hn hok hs fun p hp=>?_;have:=hh p hp;unfold hhOk at this;obtain ⟨e,he,hr⟩:=Option.bind_eq_some_iff.1 this;obtain ⟨i,hi,hl⟩:=Option.bind_eq_some_iff.1 he;exact ⟨i,e,Q7d h1 hi,hl,hr⟩
end
section
attribute [local simp] Ql Q11 QE
inductive PreL:List AV→List AV→Prop
 | nil:PreL [] []
 | eq {a az bs}:PreL az bs→PreL (a :: az) (a :: bs)
 | pre {xs cs az bs}:xs.take cs.length=cs→PreL az bs→PreL (.rptr xs :: az) (.rptr cs :: bs)
theorem PreL.at {az bs:List AV} (h:PreL az bs):az.length=bs.length∧∀ k,k<az.length→∀ {w:World} {R:Nat→Prop} {ρ:Nat→Option Bk} {v:Value},XRel w R ρ v (az.getD k .bot)→XRel w R ρ v (bs.getD k .bot):=by
 induction h with
 | nil=>exact ⟨rfl,fun k hk=>by simp at hk⟩
 | eq _ ih =>
  refine ⟨by simp [ih.1],fun k hk=>?_⟩;cases k with
  | zero=>intro w R ρ v hx;exact hx
  | succ k=>intro w R ρ v hx;exact ih.2 k (by simpa using hk) hx
 | @pre xs cs az bs e _ ih =>
  refine ⟨by simp [ih.1],fun k hk=>?_⟩;cases k with
  | succ k=>intro w R ρ v hx;exact ih.2 k (by simpa using hk) hx
  | zero =>
   intro w R ρ v hx;have hx':XRel w R ρ v (.rptr xs):=hx;obtain ⟨b,x,cur,el,fr,us,h1,h2,h3,h4,h5,h6⟩:=hx'.rptr_eq;have hl:cs.length≤xs.length:=by
    have:=congrArg List.length e;simp at this;omega
   subst h1;show XRel w R ρ _ (.rptr cs);refine .r (.rptr us h2 h3 (fun k hk=>h4 k (by omega)) (fun k hk=>h5 k (by omega)) fun k hk=>?_);have:=h6 k (by omega);have e2:cs.getD k .bot=xs.getD k .bot:=by
    rw [← e];simp [List.getD_eq_getElem?_getD,hk]
   rw [e2];exact this
end
section
attribute [local simp] Ql Q11 QE
structure RetFG (P:Program) (rvs:List ResultVar) (st:St) (rs:List AV):Prop where
 ex:∃ az,RGet P st rvs az∧PurL st.hp az rs
theorem RetFG.mk' {P:Program} {rvs:List ResultVar} {st:St} {az rs:List AV} (hg:RGet P st rvs az) (hp:PurL st.hp az rs):RetFG P rvs st rs:=⟨_,hg,hp⟩
def pko (p i k j:Nat) (o:Nat→Option (List Nat)):Nat→Option (List Nat):=fun b=>match o b with
 | some (x :: M)=>if x=p then (match M with
  | i' :: k' :: M'=>if i'=i∧k'=k then some (j :: M') else none
  | _=>none) else some (x :: M)
 | _=>none
theorem Q6n {p i k j:Nat} {o:Nat→Option (List Nat)} {b x:Nat} {M:List Nat} (h:o b=some (x :: M)) (hx:x ≠ p):pko p i k j o b=some (x :: M):=by
 simp only [pko,h,if_neg hx]
theorem pko_cell {p i k j:Nat} {o:Nat→Option (List Nat)} {b:Nat} {M:List Nat} (h:o b=some (p :: i :: k :: M)):pko p i k j o b=some (j :: M):=by
 simp [pko,h]
theorem pko_some {p i k j:Nat} {o:Nat→Option (List Nat)} {b:Nat} {L:List Nat} (h:pko p i k j o b=some L):∃ L',o b=some L':=by
 unfold pko at h;split at h
 ·rename_i hb;exact ⟨_,hb⟩
 cases h
theorem Wk.pick {F:Fx} {st st':St} {p j i k sz sz2:Nat} {es es2:List (List AV)} (hp:look p st.h=some (.row sz es)) (hj:look j st.h=some (.ali p i k sz2)) (hi:i<es.length) (hk:k<sz) (hc:(es.getD i []).getD k .bot = .lst true sz2 es2)
  (hs:∀ q∈st'.s,st.get q.1=q.2∨q.2 = .bot) (hn:st'.n=st.n) (hh:∀ q∈st'.h,q=(j,.row sz2 es2)∨(q.1 ≠ p∧look q.1 st.h=some q.2∧(match q.2 with|.ali _ _ _ _=>False|_=>True))):Wk F st st':=by
 intro a w ⟨R,hX,hr⟩;obtain ⟨r1,r2,r3,o,ρ,W,H,hx,hρ,hpn⟩:=hr;have hent:∀ id e,st'.hp id=some e→(id=j∧e = .row sz2 es2)∨(id ≠ p∧st.hp id=some e∧(match e with|.ali _ _ _ _=>False|_=>True)):=fun id e h=>by
  rcases hh (id,e) (Qq h) with q|q
  ·simp only [Prod.mk.injEq] at q;exact .inl q
  exact .inr q
 refine ⟨R,hX,r1,r2,fun id x hx'=>?_,pko p i k j o,ρ,⟨fun b hb=>⟨(W.R b hb).1,?_⟩,fun b L hb=>?_,W.os,W.tape,W.output,W.size,W.keep⟩,⟨fun id z xs bk h1 h2=>?_,fun id z xs bk h1 h2=>?_,fun id c i' k' z bk h1 h2=>?_,fun id kd xs bk h1 h2=>?_⟩,fun t=>?_,fun id kk hk'=>?_,fun id hid=>hpn.1 id hid,by rw [hn];exact hpn.2⟩
 ·rw [hn];rcases hent id x hx' with ⟨rfl,_⟩|⟨_,q,_⟩
  ·exact r3 _ _ hj
  exact r3 _ _ q
 ·have h3:o b=none:=(W.R b hb).2;simp only [pko,h3]
 ·obtain ⟨L',h3⟩:=pko_some hb;exact W.o b L' h3
 ·rcases hent id _ h1 with ⟨_,q⟩|⟨q1,q2,_⟩
  ·cases q
  rcases (H.mix id z xs bk q2 h2).ex0 with h0|⟨b,cur,el,us,cp,p1,p2,p3⟩
  ·exact ⟨.inl h0⟩
  exact .mk' ⟨b,cur,el,us,cp,p1,Q6n p2 q1,p3⟩
 ·rcases hent id _ h1 with ⟨rfl,q⟩|⟨q1,q2,_⟩
  ·simp only [Ent.row.injEq] at q;obtain ⟨rfl,rfl⟩:=q;obtain ⟨e1,bkc,e2,e3⟩:=H.ali id p i k z bk hj h2;obtain ⟨bc,cur,el,v,c1,c2,c3,c4⟩:=e3 1 sz es (by simp only [cont];rw [show st.hp p=some (.row sz es) from hp]) (by rw [show st.hp p=some (.row sz es) from hp];rfl) hi hk;obtain ⟨vp,t1,t2⟩:=H.row p sz es bkc hp e2;generalize hL:([p]:List Nat)=L at t1;cases t1 with
   | nil=>simp at hi
   | @own _ _ _ b cap cur' el' us u1 u2 u3 u4 u5 u6 u7 u8 u9 =>
    subst hL;cases t2;simp only [Option.some.injEq] at c1;subst c1;rw [u2] at c2;simp only [Option.some.injEq,Obj.cells.injEq] at c2;obtain ⟨rfl,_,_⟩:=c2;have hv:us i k=v:=by
     have:=u7 i k hi hk;rw [c3] at this;exact (Option.some.inj this).symm
    have T:=u9 i k hi hk;rw [hc,hv] at T;refine ⟨v,T.mono [id] fun b' M hb'=>⟨?_,rfl⟩,?_⟩
    ·have:o b'=some (p :: i :: k :: M):=(by simpa using hb');simpa using pko_cell (j:=id) this
    rcases c4 with c4|c4
    ·exact c4
    exact (T.scn_lst c4).elim
  obtain ⟨v,t1,t2⟩:=H.row id z xs bk q2 h2;exact ⟨v,t1.same fun b M hb=>⟨by
   have h3:o b=some (id :: M):=(by simpa using hb);simpa using Q6n h3 q1,rfl⟩,t2⟩
 ·rcases hent id _ h1 with ⟨_,q⟩|⟨_,_,q⟩
  ·cases q
  exact q.elim
 ·rcases hent id _ h1 with ⟨_,q⟩|⟨q1,q2,_⟩
  ·cases q
  obtain ⟨b,p1,p2,p3⟩:=H.map id kd xs bk q2 h2;exact ⟨b,p1,Q6n p2 q1,p3⟩
 ·cases hl:look t st'.s with
  | none=>simp only [St.get,hl,Option.getD_none];exact .bot
  | some v =>
   simp only [St.get,hl,Option.getD_some];rcases hs _ (Qq hl) with h|h
   ·simp only at h;rw [← h];exact hx t
   simp only at h;rw [h];exact .bot
 rw [hn];exact hρ id kk hk'
end
section
attribute [local simp] Ql Q11 QE
def fzo (j:Nat) (o:Nat→Option (List Nat)):Nat→Option (List Nat):=fun b=>match o b with
 | some (x :: M)=>if x=j then none else some (x :: M)
 | y=>y
theorem Q6e {j:Nat} {o:Nat→Option (List Nat)} {b x:Nat} {M:List Nat} (h:o b=some (x :: M)) (hx:x ≠ j):fzo j o b=some (x :: M):=by
 simp only [fzo,h,if_neg hx]
theorem fzo_none {j:Nat} {o:Nat→Option (List Nat)} {b:Nat} {M:List Nat} (h:o b=some (j :: M)):fzo j o b=none:=by
 simp [fzo,h]
theorem fzo_some {j:Nat} {o:Nat→Option (List Nat)} {b:Nat} {L:List Nat} (h:fzo j o b=some L):o b=some L:=by
 unfold fzo at h;split at h
 ·split at h
  ·cases h
  rename_i hb _;rw [hb];exact h
 exact h
theorem Wk.frzL {F:Fx} {st st':St} (hW:∀ b,¬ F.C.wrb b) {j sz:Nat} {es:List (List AV)} (hj:look j st.h=some (.mix sz es)) (hr:roRows sz es)
  (hs:∀ q∈st'.s,st.get q.1=q.2∨q.2 = .bot∨(st.get q.1 = .own j 0 es.length∧q.2 = .lst true sz es)) (hn:st'.n=st.n)
  (hh:∀ q∈st'.h,q.1 ≠ j∧look q.1 st.h=some q.2∧(match q.2 with|.ali _ _ _ _=>False|_=>True)):Wk F st st':=by
 intro a w ⟨R,hX,hr0⟩;obtain ⟨r1,r2,r3,o,ρ,W,H,hx,hρ,hpn⟩:=hr0;have hent:∀ id e,st'.hp id=some e→id ≠ j∧st.hp id=some e∧(match e with|.ali _ _ _ _=>False|_=>True):=fun id e h=>hh (id,e) (Qq h);have hRR:∀ b,R b→(R b∨∃ M,o b=some (j :: M))∧w.heap[b]? = w.heap[b]?:=fun b hb=>⟨.inl hb,rfl⟩;refine ⟨fun b=>R b∨∃ M,o b=some (j :: M),⟨fun b hb=>.inl (hX.1 b hb),fun b hb=>?_⟩,r1,r2,fun id x hx'=>?_,fzo j o,ρ,⟨fun b hb=>?_,fun b L hb=>W.o b L (fzo_some hb),W.os,W.tape,W.output,W.size,W.keep⟩,
  ⟨fun id z xs bk h1 h2=>?_,fun id z xs bk h1 h2=>?_,fun id c i' k' z bk h1 h2=>?_,fun id kd xs bk h1 h2=>?_⟩,fun t=>?_,fun id kk hk'=>?_,fun id hid=>hpn.1 id hid,by rw [hn];exact hpn.2⟩
 ·rcases hb with hb|⟨M,hb⟩
  ·exact hX.2 b hb
  rcases (W.o b _ hb).2 with h|h
  ·exact .inr h
  exact absurd h (hW b)
 ·rw [hn];exact r3 _ _ (hent id x hx').2.1
 ·rcases hb with hb|⟨M,hb⟩
  ·have h3:o b=none:=(W.R b hb).2;exact ⟨(W.R b hb).1,by simp only [fzo,h3]⟩
  exact ⟨(W.o b _ hb).1,fzo_none hb⟩
 ·obtain ⟨q1,q2,_⟩:=hent id _ h1;rcases (H.mix id z xs bk q2 h2).ex0 with h0|⟨b,cur,el,us,cp,p1,p2,p3,p4,p5,p6,p7,p8,p9,p10⟩
  ·exact ⟨.inl h0⟩
  exact .mk' ⟨b,cur,el,us,cp,p1,Q6e p2 q1,p3,p4,p5,p6,p7,p8,p9,fun i k hi hk=>(p10 i k hi hk).mono hRR (fun _ _ h=>h)⟩
 ·obtain ⟨q1,q2,_⟩:=hent id _ h1;obtain ⟨v,t1,t2⟩:=H.row id z xs bk q2 h2;exact ⟨v,t1.mono [id] fun b M hb=>⟨by
   have h3:o b=some (id :: M):=(by simpa using hb);simpa using Q6e h3 q1,rfl⟩,t2⟩
 ·exact (hent id _ h1).2.2.elim
 ·obtain ⟨q1,q2,_⟩:=hent id _ h1;obtain ⟨b,p1,p2,p3⟩:=H.map id kd xs bk q2 h2;exact ⟨b,p1,Q6e p2 q1,p3⟩
 ·cases hl:look t st'.s with
  | none=>simp only [St.get,hl,Option.getD_none];exact .bot
  | some v =>
   simp only [St.get,hl,Option.getD_some];rcases hs _ (Qq hl) with h|h|⟨h,h'⟩
   ·simp only at h;rw [← h];exact (hx t).mono hRR (fun _ _ h=>h)
   ·simp only at h;rw [h];exact .bot
   simp only at h h';rw [h'];have hv:=hx t;rw [h] at hv;rcases hv.own_eq with ⟨sz',cap,e1,e2,_,e4⟩|⟨b,sz',cap,cc,x,e1,e2,e3,e4,e5,e6,e7⟩
   ·rw [e2];have:es=[]:=List.length_eq_zero_iff.1 e4;subst this;exact .r (.nil (by simp))
   obtain ⟨b',cur,el,us,cp,p1,p2,p3,p4,p5,p6,p7,p8,p9,p10⟩:=(H.mix j sz es _ (show st.hp j=_ from hj) e1).ex (by simp);simp only [Bk.mk.injEq,Option.some.injEq] at p1;obtain ⟨rfl,rfl,rfl⟩:=p1;have hx0:x=0:=e6 rfl;subst hx0;rw [e2];refine .r (.lst us (.inr ⟨[],p2⟩) p3 e4 (by omega) p7 (fun i k hi hk=>by rw [Nat.zero_add];exact p8 i k hi hk) p9 fun i k hi hk=>?_);have hm:es.getD i []∈es:=(by simp [List.getD_eq_getElem?_getD,List.getElem?_eq_getElem hi]);have hk':k<(es.getD i []).length:=(by rw [(hr _ hm).1];exact hk);have hro:((es.getD i []).getD k .bot).ro=true:=(hr _ hm).2 _ (by
    generalize es.getD i []=q at hk';simp [List.getD_eq_getElem?_getD,List.getElem?_eq_getElem hk'])
   exact ((p10 i k hi hk).toR hro).mono fun b hb=>⟨.inl hb,rfl⟩
 rw [hn];exact hρ id kk hk'
end
section
attribute [local simp] Ql Q11 QE
def pkt (p i k j:Nat) (o:Nat→Option (List Nat)):Nat→Option (List Nat):=fun b=>match o b with
 | some (x :: M)=>if x=p then (match M with
  | []=>some [p]
  | i' :: k' :: M'=>if i'=i∧k'=k then some (j :: M') else none
  | _=>none) else some (x :: M)
 | _=>none
theorem Q6o {p i k j:Nat} {o:Nat→Option (List Nat)} {b x:Nat} {M:List Nat} (h:o b=some (x :: M)) (hx:x ≠ p):pkt p i k j o b=some (x :: M):=by
 simp only [pkt,h,if_neg hx]
theorem pkt_cell {p i k j:Nat} {o:Nat→Option (List Nat)} {b:Nat} {M:List Nat} (h:o b=some (p :: i :: k :: M)):pkt p i k j o b=some (j :: M):=by
 simp [pkt,h]
theorem pkt_root {p i k j:Nat} {o:Nat→Option (List Nat)} {b:Nat} (h:o b=some [p]):pkt p i k j o b=some [p]:=by
 simp [pkt,h]
theorem pkt_some {p i k j:Nat} {o:Nat→Option (List Nat)} {b:Nat} {L:List Nat} (h:pkt p i k j o b=some L):∃ L',o b=some L':=by
 unfold pkt at h;split at h
 ·rename_i hb;exact ⟨_,hb⟩
 cases h
theorem Wk.take {F:Fx} {st st':St} {p j i k sz sz2:Nat} {es es2 es':List (List AV)} (hp:look p st.h=some (.row sz es)) (hj:look j st.h=some (.ali p i k sz2)) (hpj:p ≠ j) (hi:i<es.length) (hk:k<sz) (hc:(es.getD i []).getD k .bot = .lst true sz2 es2)
  (hl:es'.length=es.length) (hz:∀ i,i<es.length→(es'.getD i []).length=sz) (hb:∀ i k,(es'.getD i []).getD k .bot = .bot)
  (hs:∀ q∈st'.s,st.get q.1=q.2∨q.2 = .bot) (hn:st'.n=st.n) (hh:∀ q∈st'.h,q=(j,.row sz2 es2)∨q=(p,.mix sz es')∨(q.1 ≠ p∧look q.1 st.h=some q.2∧(match q.2 with|.ali _ _ _ _=>False|_=>True))):Wk F st st':=by
 intro a w ⟨R,hX,hr⟩;obtain ⟨r1,r2,r3,o,ρ,W,H,hx,hρ,hpn⟩:=hr;have hent:∀ id e,st'.hp id=some e→(id=j∧e = .row sz2 es2)∨(id=p∧e = .mix sz es')∨(id ≠ p∧st.hp id=some e∧(match e with|.ali _ _ _ _=>False|_=>True)):=fun id e h=>by
  rcases hh (id,e) (Qq h) with q|q|q
  ·simp only [Prod.mk.injEq] at q;exact .inl q
  ·simp only [Prod.mk.injEq] at q;exact .inr (.inl q)
  exact .inr (.inr q)
 refine ⟨R,hX,r1,r2,fun id x hx'=>?_,pkt p i k j o,ρ,⟨fun b hb=>⟨(W.R b hb).1,?_⟩,fun b L hb=>?_,W.os,W.tape,W.output,W.size,W.keep⟩,⟨fun id z xs bk h1 h2=>?_,fun id z xs bk h1 h2=>?_,fun id c i' k' z bk h1 h2=>?_,fun id kd xs bk h1 h2=>?_⟩,fun t=>?_,fun id kk hk'=>?_,fun id hid=>hpn.1 id hid,by rw [hn];exact hpn.2⟩
 ·rw [hn];rcases hent id x hx' with ⟨rfl,_⟩|⟨rfl,_⟩|⟨_,q,_⟩
  ·exact r3 _ _ hj
  ·exact r3 _ _ hp
  exact r3 _ _ q
 ·have h3:o b=none:=(W.R b hb).2;simp only [pkt,h3]
 ·obtain ⟨L',h3⟩:=pkt_some hb;exact W.o b L' h3
 ·rcases hent id _ h1 with ⟨_,q⟩|⟨rfl,q⟩|⟨q1,q2,_⟩
  ·cases q
  ·simp only [Ent.mix.injEq] at q;obtain ⟨rfl,rfl⟩:=q;obtain ⟨vp,t1,t2⟩:=H.row id z es bk hp h2;generalize hL:([id]:List Nat)=L at t1;cases t1 with
   | nil=>simp at hi
   | @own _ _ _ b cap cur' el' us u1 u2 u3 u4 u5 u6 u7 u8 u9 =>
    subst hL;cases t2;exact .mk' ⟨b,cur',el',us,cap,rfl,pkt_root u1,u2,u3,by omega,u5,fun i hi=>hz i (by omega),fun i k hi hk=>u7 i k (by omega) hk,fun i k hi hk=>u8 i k (by omega) hk,fun i k hi hk=>by rw [hb i k];exact .bot⟩
  rcases (H.mix id z xs bk q2 h2).ex0 with h0|⟨b,cur,el,us,cp,p1,p2,p3⟩
  ·exact ⟨.inl h0⟩
  exact .mk' ⟨b,cur,el,us,cp,p1,Q6o p2 q1,p3⟩
 ·rcases hent id _ h1 with ⟨rfl,q⟩|⟨_,q⟩|⟨q1,q2,_⟩
  ·simp only [Ent.row.injEq] at q;obtain ⟨rfl,rfl⟩:=q;obtain ⟨e1,bkc,e2,e3⟩:=H.ali id p i k z bk hj h2;obtain ⟨bc,cur,el,v,c1,c2,c3,c4⟩:=e3 1 sz es (by simp only [cont];rw [show st.hp p=some (.row sz es) from hp]) (by rw [show st.hp p=some (.row sz es) from hp];rfl) hi hk;obtain ⟨vp,t1,t2⟩:=H.row p sz es bkc hp e2;generalize hL:([p]:List Nat)=L at t1;cases t1 with
   | nil=>simp at hi
   | @own _ _ _ b cap cur' el' us u1 u2 u3 u4 u5 u6 u7 u8 u9 =>
    subst hL;cases t2;simp only [Option.some.injEq] at c1;subst c1;rw [u2] at c2;simp only [Option.some.injEq,Obj.cells.injEq] at c2;obtain ⟨rfl,_,_⟩:=c2;have hv:us i k=v:=by
     have:=u7 i k hi hk;rw [c3] at this;exact (Option.some.inj this).symm
    have T:=u9 i k hi hk;rw [hc,hv] at T;refine ⟨v,T.mono [id] fun b' M hb'=>⟨?_,rfl⟩,?_⟩
    ·have:o b'=some (p :: i :: k :: M):=(by simpa using hb');simpa using pkt_cell (j:=id) this
    rcases c4 with c4|c4
    ·exact c4
    exact (T.scn_lst c4).elim
  ·cases q
  obtain ⟨v,t1,t2⟩:=H.row id z xs bk q2 h2;exact ⟨v,t1.same fun b M hb=>⟨by
   have h3:o b=some (id :: M):=(by simpa using hb);simpa using Q6o h3 q1,rfl⟩,t2⟩
 ·rcases hent id _ h1 with ⟨_,q⟩|⟨_,q⟩|⟨_,_,q⟩
  ·cases q
  ·cases q
  exact q.elim
 ·rcases hent id _ h1 with ⟨_,q⟩|⟨_,q⟩|⟨q1,q2,_⟩
  ·cases q
  ·cases q
  obtain ⟨b,p1,p2,p3⟩:=H.map id kd xs bk q2 h2;exact ⟨b,p1,Q6o p2 q1,p3⟩
 ·cases hl:look t st'.s with
  | none=>simp only [St.get,hl,Option.getD_none];exact .bot
  | some v =>
   simp only [St.get,hl,Option.getD_some];rcases hs _ (Qq hl) with h|h
   ·simp only at h;rw [← h];exact hx t
   simp only at h;rw [h];exact .bot
 rw [hn];exact hρ id kk hk'
end
section
attribute [local simp] Ql Q11 QE
theorem nlA_self {news:List (Nat × Nat)} {a:AV}:nlA news a a:=.inl rfl
theorem Q9O {news:List (Nat × Nat)}:∀ {l:List AV},nlL news l l
 | []=>trivial
 | _ :: _=>⟨nlA_self,Q9O⟩
theorem entN_mm {news:List (Nat × Nat)} {sz sz':Nat} {cs ds:List AV}:entN news (.mix sz [cs]) (.mix sz' [ds])=(sz=sz'∧nlL news cs ds):=rfl
theorem entN_mr {news:List (Nat × Nat)} {sz sz':Nat} {es:List (List AV)}:entN news (.mix sz []) (.row sz' es)=(sz=sz'∧es=[]):=rfl
theorem entN_self {news:List (Nat × Nat)} {e:Ent}:entN news e e:=by
 cases e with
 | mix sz es =>
  cases es with
  | nil=>rfl
  | cons a r =>
   cases r with
   | nil=>exact ⟨rfl,Q9O⟩
   | cons b s=>rfl
 | row sz es=>rfl
 | ali c i k sz=>rfl
 | mapE kd es=>rfl
theorem Wk.rowMix {F:Fx} {st st':St} (hs:∀ q∈st'.s,st.get q.1=q.2∨q.2 = .bot) (hn:st'.n=st.n)
  (hh:∀ q∈st'.h,(look q.1 st.h=some q.2∧(match q.2 with|.ali _ _ _ _=>False|_=>True))∨∃ sz,look q.1 st.h=some (.row sz [])∧q.2 = .mix sz []):Wk F st st':=by
 intro a w ⟨R,hX,hr0⟩;obtain ⟨r1,r2,r3,o,ρ,W,H,hx,hρ,hpn⟩:=hr0;have hent:∀ id e,st'.hp id=some e→(st.hp id=some e∧(match e with|.ali _ _ _ _=>False|_=>True))∨∃ sz,st.hp id=some (.row sz [])∧e = .mix sz []:=fun id e h=>hh (id,e) (Qq h);refine ⟨R,hX,r1,r2,fun id x hx'=>?_,o,ρ,W,⟨fun id z xs bk h1 h2=>?_,fun id z xs bk h1 h2=>?_,fun id c i' k' z bk h1 h2=>?_,fun id kd xs bk h1 h2=>?_⟩,fun t=>?_,fun id kk hk'=>?_,fun id hid=>hpn.1 id hid,by rw [hn];exact hpn.2⟩
 ·rw [hn];rcases hent id x hx' with ⟨h,_⟩|⟨sz,h,_⟩
  ·exact r3 _ _ h
  exact r3 _ _ h
 ·rcases hent id _ h1 with ⟨h,_⟩|⟨sz,h,e⟩
  ·exact H.mix id z xs bk h h2
  simp only [Ent.mix.injEq] at e;obtain ⟨rfl,rfl⟩:=e;obtain ⟨v,t1,t2⟩:=H.row id z [] bk h h2;generalize hL:([id]:List Nat)=L at t1;cases t2 with
  | @nil sz' cap=>exact ⟨.inl ⟨rfl,_,rfl⟩⟩
  | @own b n cap sz' =>
   cases t1 with
   | @own _ _ _ _ _ cur el us u1 u2 u3 u4 u5 u6 u7 u8 u9 =>
    subst hL;exact .mk' ⟨b,cur,el,us,cap,rfl,u1,u2,u3,Nat.zero_le _,u5,fun i hi=>by simp at hi,fun i k hi=>by simp at hi,fun i k hi=>by simp at hi,fun i k hi=>by simp at hi⟩
 ·rcases hent id _ h1 with ⟨h,_⟩|⟨sz,h,e⟩
  ·exact H.row id z xs bk h h2
  cases e
 ·rcases hent id _ h1 with ⟨h,q⟩|⟨sz,h,e⟩
  ·exact q.elim
  cases e
 ·rcases hent id _ h1 with ⟨h,_⟩|⟨sz,h,e⟩
  ·exact H.map id kd xs bk h h2
  cases e
 ·cases hl:look t st'.s with
  | none=>simp only [St.get,hl,Option.getD_none];exact .bot
  | some v =>
   simp only [St.get,hl,Option.getD_some];rcases hs _ (Qq hl) with h|h
   ·simp only at h;rw [← h];exact hx t
   simp only at h;rw [h];exact .bot
 rw [hn];exact hρ id kk hk'
end
section
attribute [local simp] Ql Q11 QE
structure ICon0 (P:Program) (f:Nat) (az:List AV) (h:HP) (n:Nat) (e:Eff):Prop where
 enters : ∃ fn, P.funcs[f]? = some fn ∧ (fn.name == "runtime.NumGoroutine") = false ∧ fn.body.isSome = true
 fine:(∀ id x,h id=some x→id<n)→e.fine n
 calls:∀ (C:Ctx) (w:World) (g:Gh) (h':HP) (vals:Array Value),(∀ id,id<n→h' id=h id)→(∀ p∈e.new,h' p.1=some p.2)→(∀ id k,g.ρ id=some k→id<n)→WF C w g→HRel w g h'→(∀ b,g.o b=none)→vals.size=az.length →
  (∀ k,k<az.length→XRel w g.R g.ρ (vals.getD k undef) (az.getD k .bot)) →
  Calls P f vals w fun ex w'=>∃ v R' o' ρ',ex = .returned v∧RX g.R R' C.w0.heap.size∧WF C w' ⟨R',o',ρ'⟩∧HRel w' ⟨R',o',ρ'⟩ (happ e h')∧(∀ id k,g.ρ id=some k→ρ' id=some k) ∧
   (∀ id k,ρ' id=some k→g.ρ id=some k∨(n≤id∧id<n+e.cnt))∧XRel w' R' ρ' v e.v∧(∀ b,g.R b→w'.heap[b]? = w.heap[b]?)
theorem Q8K {P:Program} {f:Nat} {fn:Func} {c:Code} {az:List AV} {ts:List Nat} {H:List (Nat × Ent)} {n:Nat} {e:Eff} (hf:P.funcs[f]? = some fn) (hb:fn.body=some c) (hrt:resT fn.results=some ts)
  (hname : (fn.name == "runtime.NumGoroutine") = false) (hN : az.length ≤ fn.ntmps) (hH : ∀ p ∈ H, p.1 < n) (hfine : e.fine n) (hnew : ∀ id, n ≤ id → id < n + e.cnt → id ∈ e.new.map Prod.fst)
  (h:∀ F:Fx,F.N=fn.ntmps→F.pins=n→(∀ b,¬ F.C.wrb b)→Wp P F c (iretQ ts H n e) ⟨Q3y 0 az,H,n⟩):ICon0 P f az (fun id=>look id H) n e:=by
 refine ⟨⟨fn,hf,hname,by rw [hb];rfl⟩,fun _=>hfine,fun C w g h' vals hag hne hlim W HH hgo hsz hargs=>?_⟩;refine calls_of_wp hf hb ?_
 let C':Ctx:=⟨w,fun b=>∃ L,g.o b=some L,g.ρ,n⟩
 have hrel:Rel C' g.R fn.ntmps { tmps:=vals++Array.replicate (fn.ntmps - vals.size) undef,defers:=[] } w ⟨Q3y 0 az,H,n⟩:=by
  refine ⟨by simp;omega,rfl,fun id x hx=>hH (id,x) (Qq hx),g.o,g.ρ,⟨W.R,fun b L hb=>⟨(W.o b L hb).1,.inr ⟨L,hb⟩⟩,rfl,rfl,rfl,Nat.le_refl _,fun b _ _=>rfl⟩,
   HH.grow fun id k hk=>(hag id (hlim id k hk)).symm,fun t=>?_,hlim,fun id _=>rfl,Nat.le_refl _⟩
  simp only [St.get,Q2P]
  by_cases ht:t<az.length
  ·rw [if_pos (by omega)];simp only [Nat.sub_zero,Option.getD_some];have h2:(vals++Array.replicate (fn.ntmps - vals.size) undef).getD t undef=vals.getD t undef:=by
    simp [Array.getElem?_append,show t<vals.size by omega]
   rw [h2];exact hargs t ht
  rw [if_neg (by omega)];exact .bot
 refine Code.wp_mono (fun ex a w' hq=>?_) (h ⟨C',g.R,fn.ntmps,n,rfl⟩ rfl rfl (fun b ⟨L,hL⟩=>by rw [hgo b] at hL;cases hL) _ w (.of hrel));obtain ⟨st,⟨R',hX,hr⟩,hq⟩:=hq;have fin:IRet ts H n e st→a.defers=[]∧∃ v,(results fn a.tmps).run P w' = .ok v w'∧∃ v' R' o' ρ',Ending.returned v = .returned v'∧RX g.R R' C.w0.heap.size∧WF C w' ⟨R',o',ρ'⟩∧HRel w' ⟨R',o',ρ'⟩ (happ e h')∧(∀ id k,g.ρ id=some k→ρ' id=some k) ∧
   (∀ id k,ρ' id=some k→g.ρ id=some k∨(n≤id∧id<n+e.cnt))∧XRel w' R' ρ' v' e.v∧(∀ b,g.R b→w'.heap[b]? = w.heap[b]?):=by
  intro hA;obtain ⟨_,hdef,_,o',ρ',W',HH',hx,hlt',hpin⟩:=hr;obtain ⟨a1,a2,a3⟩:=hA;have hρ1:∀ id,id<n→ρ' id=g.ρ id:=hpin.1;have hcC:∀ b,b<C.w0.heap.size→¬ C.wrb b→g.o b=none:=by
   intro b hb hw;cases ho:g.o b with
   | none=>rfl
   | some L =>
    rcases (W.o b L ho).2 with h|h
    ·omega
    exact absurd h hw
  have hkeep:∀ b,b<w.heap.size→g.o b=none→w'.heap[b]? = w.heap[b]?:=fun b hb ho=>W'.keep b hb (by rintro ⟨L,hL⟩;rw [ho] at hL;cases hL);refine ⟨hdef,_,Q3p hrt _,_,R',o',ρ',rfl,⟨hX.1,fun b hb=>(hX.2 b hb).imp id (Nat.le_trans W.size)⟩,⟨W'.R,fun b L hb=>⟨(W'.o b L hb).1,?_⟩,W'.os.trans W.os,W'.tape.trans W.tape,W'.output.trans W.output,Nat.le_trans W.size W'.size,fun b hb hw=>?_⟩,
   HH'.grow fun id k hk=>?_,fun id k hk=>(hρ1 id (hlim id k hk)).trans hk,fun id k hk=>?_,?_,fun b hb=>hkeep b (W.R b hb).1 (W.R b hb).2⟩
  ·rcases (W'.o b L hb).2 with h|⟨L',h⟩
   ·exact .inl (Nat.le_trans W.size h)
   exact (W.o b L' h).2
  ·exact (hkeep b (Nat.lt_of_lt_of_le hb W.size) (hcC b hb hw)).trans (W.keep b hb hw)
  ·have hid:id<n+e.cnt:=(by rw [← a2];exact hlt' id k hk);have hl:look id st.h=match happ e (fun id=>look id H) id with|some x=>some x|none=>look id e.new:=by
    have:=Q2X (st:=⟨[],H,n⟩) none hfine id;simp only [St.app] at this;rw [a3];exact this
   show happ e h' id=look id st.h;rw [hl]
   by_cases hlt:id<n
   ·have hn:look id e.new=none:=by
     cases hq:look id e.new with
     | none=>rfl
     | some x=>have:=(hfine.new _ (Qq hq)).1;simp only at this;omega
    have he:happ e h' id=happ e (fun id=>look id H) id:=by
     simp only [happ,hag id hlt]
    rw [he,hn];cases happ e (fun id=>look id H) id<;>rfl
   obtain ⟨p,hp,hpe⟩:=List.mem_map.1 (hnew id (by omega) hid);have h1:happ e (fun id=>look id H) id=none:=by
    simp only [happ];have h2:look id e.set=none:=by
     cases hq:look id e.set with
     | none=>rfl
     | some x=>have:=hfine.sets.2 _ (Qq hq);simp only at this;omega
    have h3:look id H=none:=by
     cases hq:look id H with
     | none=>rfl
     | some x=>have:=hH _ (Qq hq);simp only at this;omega
    rw [h2,h3];simp
   have h2:happ e h' id=h' id:=by
    simp only [happ];have h2:look id e.set=none:=by
     cases hq:look id e.set with
     | none=>rfl
     | some x=>have:=hfine.sets.2 _ (Qq hq);simp only at this;omega
    rw [h2,if_neg];intro hd;have:=hfine.del id hd;omega
   rw [h1,h2];obtain ⟨i,x⟩:=p;simp only at hpe;subst hpe;rw [hne _ hp,Q1h hfine.nodup hp]
  ·by_cases hlt:id<n
   ·exact .inl ((hρ1 id hlt).symm.trans hk)
   exact .inr ⟨by omega,by rw [← a2];exact hlt' id k hk⟩
  rw [← a1];exact res_rel hx ts
 cases ex with
 | normal=>exact fin hq
 | ret=>exact fin hq
 | _=>exact hq.elim
theorem Q7U {P:Program} {f:Nat} {fn:Func} {c:Code} {az:List AV} {ts:List Nat} {H:List (Nat × Ent)} {n:Nat} {e:Eff} (hf:P.funcs[f]? = some fn) (hb:fn.body=some c) (hrt:resT fn.results=some ts)
  (hname : (fn.name == "runtime.NumGoroutine") = false) (hN : az.length ≤ fn.ntmps) (hH : ∀ p ∈ H, p.1 < n) (hfine : e.fine n) (hnew : ∀ id, n ≤ id → id < n + e.cnt → id ∈ e.new.map Prod.fst)
  (h:∀ F:Fx,F.N=fn.ntmps→F.pins=n→(∀ b,¬ F.C.wrb b)→Wp P F c (Q9D F ts H n e) ⟨Q3y 0 az,H,n⟩):ICon0 P f az (fun id=>look id H) n e:=by
 refine Q8K hf hb hrt hname hN hH hfine hnew fun F h1 h2 h3=>wp_wk (Wp.mono ?_ (h F h1 h2 h3));intro ex st hq;cases ex with
 | normal=>exact hq
 | ret=>exact hq
 | _=>exact hq.elim
theorem ICon0.lift {P:Program} {f:Nat} {vs:List AV} {e e':Eff} {h:HP} {n:Nat} (hc:ICon0 P f vs (fun _=>none) 0 e) (hro:∀ a∈vs,AV.ro a=true) (hs:e.set=[]∧e.del=[]) (hs':e'.set=[]∧e'.del=[]) (hcnt:e'.cnt=e.cnt)
  (hv:e'.v=rl (shm n e.cnt) e.v) (hna:∀ p∈e.new,noAli p.2=true) (hnew:∀ i,i<e.cnt→∃ x y,look i e.new=some x∧rlE (shm n e.cnt) x=some y∧(n+i,y)∈e'.new) (hfine:e'.fine n):ICon P f vs h n e':=by
 refine ⟨hc.enters,fun _=>hfine,fun C w g h' vals hag hnw hlim W H hsz hargs=>?_⟩;have hf0:=hc.fine (fun id x hx=>by cases hx);have W0:WF ⟨w,fun _=>False,fun _=>none,0⟩ w ⟨g.R,fun _=>none,fun _=>none⟩:=⟨fun b hb=>⟨(W.R b hb).1,rfl⟩,(fun b L hb=>by cases hb),rfl,rfl,rfl,Nat.le_refl _,fun b _ _=>rfl⟩;have H0:HRel w ⟨g.R,fun _=>none,fun _=>none⟩ (fun id=>look id e.new):=⟨(fun id sz es bk _ hb=>by cases hb),(fun id sz es bk _ hb=>by cases hb),(fun id c i k sz bk _ hb=>by cases hb),(fun id kd es bk _ hb=>by cases hb)⟩;refine (hc.calls _ w _ _ vals (fun id hid=>absurd hid (Nat.not_lt_zero _)) (fun p hp=>Q1h hf0.nodup hp) (fun id k hk=>by cases hk) W0 H0 (fun _=>rfl) hsz (fun k hk=>ro_rel (hargs k hk) (hro _ (by
  rw [List.getD_eq_getElem?_getD,List.getElem?_eq_getElem hk];exact List.getElem_mem hk)))).mono fun ex w' ⟨v,R',o',ρ',q0,q1,q2,q3,q4,q5,q6,q7⟩=>?_
 rw [Q1l hs.1 hs.2] at q3;have ho':∀ b L,o' b=some L→w.heap.size≤b∧b<w'.heap.size:=fun b L hb=>⟨(q2.o b L hb).2.resolve_right id,(q2.o b L hb).1⟩;have hkeep:∀ b,b<w.heap.size→w'.heap[b]? = w.heap[b]?:=fun b hb=>q2.keep b hb id;have hgo:∀ b L,o' b=some L→g.o b=none:=by
  intro b L hb;cases hg:g.o b with
  | none=>rfl
  | some M=>have:=(W.o b M hg).1;have:=(ho' b L hb).1;omega
 have hm2:=shm_snd n e.cnt;have hrρ:∀ j bk,rlρ (shm n e.cnt) ρ' j=some bk→∃ i,i<e.cnt∧j=n+i∧look i (shm n e.cnt)=some j∧ρ' i=some bk:=by
  intro j bk hj;simp only [rlρ] at hj;split at hj
  ·rename_i i hi;have hl:=Q7d (shm_fst n e.cnt) hi;have hl2:=hl;rw [Q5g] at hl2;split at hl2
   ·rename_i hlt;simp only [Option.some.injEq] at hl2;exact ⟨i,hlt,hl2.symm,hl,hj⟩
   cases hl2
  cases hj
 have hgρ:∀ j bk,rlρ (shm n e.cnt) ρ' j=some bk→g.ρ j=none:=by
  intro j bk hj;obtain ⟨i,hi,rfl,_⟩:=hrρ j bk hj;cases hg:g.ρ (n+i) with
  | none=>rfl
  | some k=>have:=hlim _ _ hg;omega
 let o2:Nat→Option (List Nat):=fun b=>match g.o b with|some L=>some L|none=>rlo (shm n e.cnt) o' b
 let ρ2:Nat→Option Bk:=fun id=>match g.ρ id with|some k=>some k|none=>rlρ (shm n e.cnt) ρ' id
 have ho2:∀ b L,g.o b=some L→o2 b=some L:=fun b L hb=>by simp only [o2,hb]
 have ho3:∀ b i M,i<e.cnt→o' b=some (i :: M)→o2 b=some ((n+i) :: M):=by
  intro b i M hi hb;simp only [o2,hgo b _ hb,rlo,hb,Q5g,if_pos hi]
 have hρ2:∀ id k,g.ρ id=some k→ρ2 id=some k:=fun id k hk=>by simp only [ρ2,hk]
 have hρ3:∀ id k,rlρ (shm n e.cnt) ρ' id=some k→ρ2 id=some k:=fun id k hk=>by simp only [ρ2,hgρ id k hk,hk]
 have hX:∀ v a,XRel w' R' ρ' v a→XRel w' R' ρ2 v (rl (shm n e.cnt) a):=fun v a hx=>(rl_rel hm2 hx).mono (fun b hb=>⟨hb,rfl⟩) hρ3;have hent:∀ id x bk,h' id=some x→g.ρ id=none→ρ2 id=some bk→∃ i y,i<e.cnt∧id=n+i∧ρ' i=some bk∧look i e.new=some y∧rlE (shm n e.cnt) y=some x∧noAli y=true:=by
  intro id x bk hx hg hb;simp only [ρ2,hg] at hb;obtain ⟨i,hi,rfl,_,hr⟩:=hrρ id bk hb;obtain ⟨y,z,h1,h2,h3⟩:=hnew i hi;have:=hnw _ h3;simp only at this;rw [this] at hx;cases hx;exact ⟨i,y,hi,rfl,hr,h1,h2,hna _ (Qq h1)⟩
 have H1:HRel w' ⟨g.R,o2,g.ρ⟩ h':=H.mono (fun b hb=>hkeep b (W.R b hb).1) (fun b L hb=>⟨ho2 b L hb,hkeep b (W.o b L hb).1⟩) (fun _ _ hk=>hk) (fun id sz es bk _ h1 h2=>by rw [h1] at h2;cases h2) (fun id sz es bk _ h1 h2=>by rw [h1] at h2;cases h2)
  (fun id c i k sz bk _ h1 h2=>by rw [h1] at h2;cases h2)
 have H2:HRel w' ⟨R',o2,g.ρ⟩ h':=H1.growR q1.1;have H3:HRel w' ⟨R',o2,ρ2⟩ h':=by
  refine H2.mono (fun _ _=>rfl) (fun b L hb=>⟨hb,rfl⟩) hρ2 (fun id sz es bk he hg hb=>?_) (fun id sz es bk he hg hb=>?_) (fun id c i k sz bk he hg hb=>?_) (fun id kd es bk he hg hb=>?_)
  ·obtain ⟨i,y,hi,rfl,hr,h1,h2,h3⟩:=hent id _ bk he hg hb;cases y with
   | mix s2 e2 =>
    simp only [rlE,Option.some.injEq,Ent.mix.injEq] at h2;obtain ⟨rfl,rfl⟩:=h2;rcases (q3.mix i _ _ bk h1 hr).ex0 with ⟨rfl,h0⟩|⟨b,cur,el,us,cpm,p1,p2,p3,p4,p5,p5',p6,p7,p8,p9⟩
    ·exact ⟨.inl ⟨rfl,h0⟩⟩
    refine .mk' ⟨b,cur,el,us,cpm,p1,ho3 b i [] hi p2,p3,p4,by rw [Q1H];exact p5,p5',fun j hj=>?_,fun j l hj hl=>?_,fun j l hj hl=>?_,fun j l hj hl=>?_⟩
    ·rw [Q1H] at hj;rw [Q5e,QX];exact p6 j hj
    ·rw [Q1H] at hj;exact p7 j l hj hl
    ·rw [Q1H] at hj;exact p8 j l hj hl
    rw [Q1H] at hj;rw [Q5e,Q2Y];exact hX _ _ (p9 j l hj hl)
   | row=>simp [rlE] at h2
   | mapE=>simp [rlE] at h2
   | ali=>cases h3
  ·obtain ⟨i,y,hi,rfl,hr,h1,h2,h3⟩:=hent id _ bk he hg hb;cases y with
   | mix=>simp [rlE] at h2
   | row s2 e2 =>
    simp only [rlE,Option.some.injEq,Ent.row.injEq] at h2;obtain ⟨rfl,rfl⟩:=h2;obtain ⟨v,hv,hh2⟩:=q3.row i _ _ bk h1 hr;exact ⟨v,hv.mono (R':=R') [n+i] fun b M hbo=>⟨ho3 b i M hi hbo,rfl⟩,hh2⟩
   | mapE=>simp [rlE] at h2
   | ali=>cases h3
  ·obtain ⟨i0,y,hi,rfl,hr,h1,h2,h3⟩:=hent id _ bk he hg hb;cases y with
   | mix=>simp [rlE] at h2
   | row=>simp [rlE] at h2
   | mapE=>simp [rlE] at h2
   | ali=>cases h3
  obtain ⟨i,y,hi,rfl,hr,h1,h2,h3⟩:=hent id _ bk he hg hb;cases y with
  | mix=>simp [rlE] at h2
  | row=>simp [rlE] at h2
  | mapE kd2 e2 =>
   simp only [rlE,Option.some.injEq,Ent.mapE.injEq] at h2;obtain ⟨rfl,rfl⟩:=h2;obtain ⟨b,p1,p2,p3,p4⟩:=q3.map i _ _ bk h1 hr;exact ⟨b,p1,ho3 b i [] hi p2,p3,p4⟩
  | ali=>cases h3
 refine ⟨v,R',o2,ρ2,q0,⟨q1.1,fun b hb=>(q1.2 b hb).imp id (Nat.le_trans W.size)⟩,⟨fun b hb=>⟨(q2.R b hb).1,?_⟩,fun b L hb=>?_,q2.os.trans W.os,q2.tape.trans W.tape,q2.output.trans W.output,Nat.le_trans W.size q2.size,fun b hb hw=>(hkeep b (Nat.lt_of_lt_of_le hb W.size)).trans (W.keep b hb hw)⟩,by rw [Q1l hs'.1 hs'.2];exact H3,hρ2,fun id k hk=>?_,by rw [hv];exact hX _ _ q6,q7⟩
 ·have h1:o' b=none:=(q2.R b hb).2;show o2 b=none;rcases q1.2 b hb with hg|hg
  ·simp only [o2,show g.o b=none from (W.R b hg).2,rlo,h1]
  have hg':g.o b=none:=by
   cases hq:g.o b with
   | none=>rfl
   | some M=>have:=(W.o b M hq).1;simp only at hg;omega
  simp only [o2,hg',rlo,h1]
 ·have hb':o2 b=some L:=hb;cases hq:g.o b with
  | some M=>exact ⟨Nat.lt_of_lt_of_le (W.o b M hq).1 q2.size,(W.o b M hq).2⟩
  | none =>
   simp only [o2,hq,rlo] at hb';split at hb'
   ·rename_i x M hx;exact ⟨(ho' b _ hx).2,.inl (Nat.le_trans W.size (ho' b _ hx).1)⟩
   cases hb'
 have hk':ρ2 id=some k:=hk;cases hg:g.ρ id with
 | some k2=>simp only [ρ2,hg] at hk';exact .inl hk'
 | none =>
  simp only [ρ2,hg] at hk';obtain ⟨i,hi,rfl,_⟩:=hrρ id k hk';exact .inr ⟨by omega,by omega⟩
theorem ICon0.liftL {P:Program} {f:Nat} {vs:List AV} {e e':Eff} {h:HP} {n:Nat} (hc:ICon0 P f vs (fun _=>none) 0 e) (hro:∀ a∈vs,AV.ro a=true) (hs:e.set=[]∧e.del=[]) (hs':e'.set=[]∧e'.del=[]) (hcnt:e'.cnt=e.cnt)
  (hv:e'.v=rl (shm n e.cnt) e.v) (hna:∀ p∈e.new,noAli p.2=true) (hcomp:newB 0 e.cnt (e.new.map Prod.fst)=true) (hn:e'.new=e.new.map fun p=>(n+p.1,rlE' (shm n e.cnt) p.2)) (hfine:e'.fine n):ICon P f vs h n e':=by
 refine hc.lift hro hs hs' hcnt hv hna (fun i hi=>?_) hfine;have hm:=newI (n:=0) (e:=e) hcomp i (Nat.zero_le _) (by omega);obtain ⟨p,hp,rfl⟩:=List.mem_map.1 hm;have hf0:=hc.fine (fun id x hx=>by cases hx);refine ⟨p.2,rlE' (shm n e.cnt) p.2,Q1h hf0.nodup hp,?_,by rw [hn];exact List.mem_map.2 ⟨p,hp,rfl⟩⟩;have:=hna p hp;generalize p.2=x at this;cases x with
 | ali=>cases this
 | _=>rfl
end
end Go.Vc
