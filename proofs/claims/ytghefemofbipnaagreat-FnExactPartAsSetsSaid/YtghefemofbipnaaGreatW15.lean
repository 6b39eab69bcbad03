/- A part of the proof. -/
import Derived.Test.YtghefemofbipnaaGreatW14
set_option maxRecDepth 100000
set_option maxHeartbeats 4000000
set_option linter.unusedSimpArgs false
set_option linter.unusedVariables false
set_option linter.unusedSectionVars false
set_option linter.unnecessarySimpa false

open Option.some renaming injEq→qA
open List renaming getD_eq_getElem?_getD→qG
open Option.some renaming inj→zH
open Option renaming getD_some→qB
namespace Go.Vc
open Go
section
attribute [local simp] Qf QF Qs
inductive PreL:List AV→List AV→Prop
 | nil:PreL [] []
 | eq {a az bs}:PreL az bs→PreL (a :: az) (a :: bs)
 | pre {xs cs az bs}:xs.take cs.length=cs→PreL az bs→PreL (.rptr xs :: az) (.rptr cs :: bs)
 | nl {id u sz az bs}:PreL az bs→PreL (.own id 0 0 :: az) (.lst u sz [] :: bs)
theorem PreL.at {az bs:List AV} (h:PreL az bs):az.length=bs.length∧∀ k,k<az.length→∀ {w:World} {R:Nat→Prop} {ρ:Nat→Option Bk} {v:Value},XRel w R ρ v (az.getD k .bot)→XRel w R ρ v (bs.getD k .bot):=by
 induction h with
 | nil=>exact ⟨rfl,fun k hk=>by simp at hk⟩
 | eq _ ih =>
  refine ⟨by simp [ih.1],fun k hk=>?_⟩;cases k with
  | zero=>intro w R ρ v hx;exact hx
  | succ k=>intro w R ρ v hx;exact ih.2 k (by simpa using hk) hx
 | @pre xs cs az bs e _ ih =>
  refine ⟨by simp [ih.1],fun k hk=>?_⟩;cases k with
  | succ k=>intro w R ρ v hx;exact ih.2 k (by simpa using hk) hx
  | zero =>
   intro w R ρ v hx;have hx':XRel w R ρ v (.rptr xs):=hx;obtain ⟨b,x,cur,el,fr,us,h1,h2,h3,h4,h5,h6⟩:=hx'.rptr_eq;have hl:cs.length≤xs.length:=by
    have:=congrArg List.length e;simp at this;omega
   subst h1;show XRel w R ρ _ (.rptr cs);refine .r (.rptr us h2 h3 (fun k hk=>h4 k (by omega)) (fun k hk=>h5 k (by omega)) fun k hk=>?_);have:=h6 k (by omega);have e2:cs.getD k .bot=xs.getD k .bot:=by
    rw [← e];simp [qG,hk]
   rw [e2];exact this
 | @nl id u sz az bs _ ih =>
  refine ⟨by simp [ih.1],fun k hk=>?_⟩;cases k with
  | succ k=>intro w R ρ v hx;exact ih.2 k (by simpa using hk) hx
  | zero =>
   intro w R ρ v hx;have hx':XRel w R ρ v (.own id 0 0):=hx;show XRel w R ρ _ (.lst u sz []);rcases hx'.own_eq with ⟨_,_,_,e2,_,_⟩|⟨b,_,cap,cc,x,_,e2,e3,_,_,_,e7⟩
   ·rw [e2];exact .r (.nil (by simp))
   rw [e2];exact .r (.nil (by omega))
end
section
attribute [local simp] Qf QF Qs
structure RetFG (P:Program) (rvs:List ResultVar) (st:St) (rs:List AV):Prop where
 ex:∃ az,RGet P st rvs az∧PurL st.hp az rs
theorem RetFG.mk' {P:Program} [Kd P] {rvs:List ResultVar} {st:St} {az rs:List AV} (hg:RGet P st rvs az) (hp:PurL st.hp az rs):RetFG P rvs st rs:=⟨_,hg,hp⟩
def pko (p i k j:Nat) (o:Nat→Option (List Nat)):Nat→Option (List Nat):=fun b=>match o b with
 | some (x :: M)=>if x=p then (match M with
  | i' :: k' :: M'=>if i'=i∧k'=k then some (j :: M') else none
  | _=>none) else some (x :: M)
 | _=>none
theorem Q5H {p i k j:Nat} {o:Nat→Option (List Nat)} {b x:Nat} {M:List Nat} (h:o b=some (x :: M)) (hx:x ≠ p):pko p i k j o b=some (x :: M):=by
 simp only [pko,h,if_neg hx]
theorem pko_cell {p i k j:Nat} {o:Nat→Option (List Nat)} {b:Nat} {M:List Nat} (h:o b=some (p :: i :: k :: M)):pko p i k j o b=some (j :: M):=by
 simp [pko,h]
theorem pko_some {p i k j:Nat} {o:Nat→Option (List Nat)} {b:Nat} {L:List Nat} (h:pko p i k j o b=some L):∃ L',o b=some L':=by
 unfold pko at h;split at h
 ·rename_i hb;exact ⟨_,hb⟩
 cases h
theorem Wk.pick {F:Fx} {st st':St} {p j i k sz sz2:Nat} {es es2:List (List AV)} (hp:look p st.h=some (.row sz es)) (hj:look j st.h=some (.ali p i k sz2)) (hi:i<es.length) (hk:k<sz) (hc:(es.getD i []).getD k .bot = .lst true sz2 es2)
  (hs:∀ q∈st'.s,st.get q.1=q.2∨q.2 = .bot) (hn:st'.n=st.n) (hh:∀ q∈st'.h,q=(j,.row sz2 es2)∨(q.1 ≠ p∧look q.1 st.h=some q.2∧(match q.2 with|.ali _ _ _ _=>False|_=>True))):Wk F st st':=by
 intro a w ⟨R,hX,hr⟩;obtain ⟨r1,r2,r3,o,ρ,W,H,hx,hρ,hpn⟩:=hr;have hent:∀ id e,st'.hp id=some e→(id=j∧e = .row sz2 es2)∨(id ≠ p∧st.hp id=some e∧(match e with|.ali _ _ _ _=>False|_=>True)):=fun id e h=>by
  rcases hh (id,e) (Qk h) with q|q
  ·simp only [Prod.mk.injEq] at q;exact .inl q
  exact .inr q
 refine ⟨R,hX,r1,r2,fun id x hx'=>?_,pko p i k j o,ρ,⟨fun b hb=>⟨(W.R b hb).1,?_⟩,fun b L hb=>?_,W.os,W.tape,W.output,W.size,W.keep⟩,⟨fun id z xs bk h1 h2=>?_,fun id z xs bk h1 h2=>?_,fun id c i' k' z bk h1 h2=>?_,fun id kd xs bk h1 h2=>?_⟩,fun t=>?_,fun id kk hk'=>?_,fun id hid=>hpn.1 id hid,by rw [hn];exact hpn.2⟩
 ·rw [hn];rcases hent id x hx' with ⟨rfl,_⟩|⟨_,q,_⟩
  ·exact r3 _ _ hj
  exact r3 _ _ q
 ·have h3:o b=none:=(W.R b hb).2;simp only [pko,h3]
 ·obtain ⟨L',h3⟩:=pko_some hb;exact W.o b L' h3
 ·rcases hent id _ h1 with ⟨_,q⟩|⟨q1,q2,_⟩
  ·cases q
  rcases (H.mix id z xs bk q2 h2).ex0 with h0|⟨b,cur,el,us,cp,p1,p2,p3⟩
  ·exact ⟨.inl h0⟩
  exact .mk' ⟨b,cur,el,us,cp,p1,Q5H p2 q1,p3⟩
 ·rcases hent id _ h1 with ⟨rfl,q⟩|⟨q1,q2,_⟩
  ·simp only [Ent.row.injEq] at q;obtain ⟨rfl,rfl⟩:=q;obtain ⟨e1,bkc,e2,e3⟩:=H.ali id p i k z bk hj h2;obtain ⟨bc,cur,el,v,c1,c2,c3,c4⟩:=e3 1 sz es (by simp only [cont];rw [show st.hp p=some (.row sz es) from hp]) (by rw [show st.hp p=some (.row sz es) from hp];rfl) hi hk;obtain ⟨vp,t1,t2⟩:=H.row p sz es bkc hp e2;generalize hL:([p]:List Nat)=L at t1;cases t1 with
   | nil=>simp at hi
   | @own _ _ _ b cap cur' el' us u1 u2 u3 u4 u5 u6 u7 u8 u9 =>
    subst hL;cases t2;simp only [qA] at c1;subst c1;rw [u2] at c2;simp only [qA,Obj.cells.injEq] at c2;obtain ⟨rfl,_,_⟩:=c2;have hv:us i k=v:=by
     have:=u7 i k hi hk;rw [c3] at this;exact (zH this).symm
    have T:=u9 i k hi hk;rw [hc,hv] at T;refine ⟨v,T.mono [id] fun b' M hb'=>⟨?_,rfl⟩,?_⟩
    ·have:o b'=some (p :: i :: k :: M):=(by simpa using hb');simpa using pko_cell (j:=id) this
    rcases c4 with c4|c4
    ·exact c4
    exact (T.scn_lst c4).elim
  obtain ⟨v,t1,t2⟩:=H.row id z xs bk q2 h2;exact ⟨v,t1.same fun b M hb=>⟨by
   have h3:o b=some (id :: M):=(by simpa using hb);simpa using Q5H h3 q1,rfl⟩,t2⟩
 ·rcases hent id _ h1 with ⟨_,q⟩|⟨_,_,q⟩
  ·cases q
  exact q.elim
 ·rcases hent id _ h1 with ⟨_,q⟩|⟨q1,q2,_⟩
  ·cases q
  exact (H.map id kd xs bk q2 h2).move (fun b hb=>⟨hb,rfl⟩) fun b M p2=>⟨Q5H p2 q1,rfl⟩
 ·cases hl:look t st'.s with
  | none=>simp only [St.get,hl,Option.getD_none];exact .bot
  | some v =>
   simp only [St.get,hl,qB];rcases hs _ (Qk hl) with h|h
   ·simp only at h;rw [← h];exact hx t
   simp only at h;rw [h];exact .bot
 rw [hn];exact hρ id kk hk'
end
section
attribute [local simp] Qf QF Qs
def pkt (p i k j:Nat) (o:Nat→Option (List Nat)):Nat→Option (List Nat):=fun b=>match o b with
 | some (x :: M)=>if x=p then (match M with
  | []=>some [p]
  | i' :: k' :: M'=>if i'=i∧k'=k then some (j :: M') else none
  | _=>none) else some (x :: M)
 | _=>none
theorem Q5I {p i k j:Nat} {o:Nat→Option (List Nat)} {b x:Nat} {M:List Nat} (h:o b=some (x :: M)) (hx:x ≠ p):pkt p i k j o b=some (x :: M):=by
 simp only [pkt,h,if_neg hx]
theorem pkt_cell {p i k j:Nat} {o:Nat→Option (List Nat)} {b:Nat} {M:List Nat} (h:o b=some (p :: i :: k :: M)):pkt p i k j o b=some (j :: M):=by
 simp [pkt,h]
theorem pkt_root {p i k j:Nat} {o:Nat→Option (List Nat)} {b:Nat} (h:o b=some [p]):pkt p i k j o b=some [p]:=by
 simp [pkt,h]
theorem pkt_some {p i k j:Nat} {o:Nat→Option (List Nat)} {b:Nat} {L:List Nat} (h:pkt p i k j o b=some L):∃ L',o b=some L':=by
 unfold pkt at h;split at h
 ·rename_i hb;exact ⟨_,hb⟩
 cases h
theorem Wk.take {F:Fx} {st st':St} {p j i k sz sz2:Nat} {es es2 es':List (List AV)} (hp:look p st.h=some (.row sz es)) (hj:look j st.h=some (.ali p i k sz2)) (hpj:p ≠ j) (hi:i<es.length) (hk:k<sz) (hc:(es.getD i []).getD k .bot = .lst true sz2 es2)
  (hl:es'.length=es.length) (hz:∀ i,i<es.length→(es'.getD i []).length=sz) (hb:∀ i k,(es'.getD i []).getD k .bot = .bot)
  (hs:∀ q∈st'.s,st.get q.1=q.2∨q.2 = .bot) (hn:st'.n=st.n) (hh:∀ q∈st'.h,q=(j,.row sz2 es2)∨q=(p,.mix sz es')∨(q.1 ≠ p∧look q.1 st.h=some q.2∧(match q.2 with|.ali _ _ _ _=>False|_=>True))):Wk F st st':=by
 intro a w ⟨R,hX,hr⟩;obtain ⟨r1,r2,r3,o,ρ,W,H,hx,hρ,hpn⟩:=hr;have hent:∀ id e,st'.hp id=some e→(id=j∧e = .row sz2 es2)∨(id=p∧e = .mix sz es')∨(id ≠ p∧st.hp id=some e∧(match e with|.ali _ _ _ _=>False|_=>True)):=fun id e h=>by
  rcases hh (id,e) (Qk h) with q|q|q
  ·simp only [Prod.mk.injEq] at q;exact .inl q
  ·simp only [Prod.mk.injEq] at q;exact .inr (.inl q)
  exact .inr (.inr q)
 refine ⟨R,hX,r1,r2,fun id x hx'=>?_,pkt p i k j o,ρ,⟨fun b hb=>⟨(W.R b hb).1,?_⟩,fun b L hb=>?_,W.os,W.tape,W.output,W.size,W.keep⟩,⟨fun id z xs bk h1 h2=>?_,fun id z xs bk h1 h2=>?_,fun id c i' k' z bk h1 h2=>?_,fun id kd xs bk h1 h2=>?_⟩,fun t=>?_,fun id kk hk'=>?_,fun id hid=>hpn.1 id hid,by rw [hn];exact hpn.2⟩
 ·rw [hn];rcases hent id x hx' with ⟨rfl,_⟩|⟨rfl,_⟩|⟨_,q,_⟩
  ·exact r3 _ _ hj
  ·exact r3 _ _ hp
  exact r3 _ _ q
 ·have h3:o b=none:=(W.R b hb).2;simp only [pkt,h3]
 ·obtain ⟨L',h3⟩:=pkt_some hb;exact W.o b L' h3
 ·rcases hent id _ h1 with ⟨_,q⟩|⟨rfl,q⟩|⟨q1,q2,_⟩
  ·cases q
  ·simp only [Ent.mix.injEq] at q;obtain ⟨rfl,rfl⟩:=q;obtain ⟨vp,t1,t2⟩:=H.row id z es bk hp h2;generalize hL:([id]:List Nat)=L at t1;cases t1 with
   | nil=>simp at hi
   | @own _ _ _ b cap cur' el' us u1 u2 u3 u4 u5 u6 u7 u8 u9 =>
    subst hL;cases t2;exact .mk' ⟨b,cur',el',us,cap,rfl,pkt_root u1,u2,u3,by omega,u5,fun i hi=>hz i (by omega),fun i k hi hk=>u7 i k (by omega) hk,fun i k hi hk=>u8 i k (by omega) hk,fun i k hi hk=>by rw [hb i k];exact .bot⟩
  rcases (H.mix id z xs bk q2 h2).ex0 with h0|⟨b,cur,el,us,cp,p1,p2,p3⟩
  ·exact ⟨.inl h0⟩
  exact .mk' ⟨b,cur,el,us,cp,p1,Q5I p2 q1,p3⟩
 ·rcases hent id _ h1 with ⟨rfl,q⟩|⟨_,q⟩|⟨q1,q2,_⟩
  ·simp only [Ent.row.injEq] at q;obtain ⟨rfl,rfl⟩:=q;obtain ⟨e1,bkc,e2,e3⟩:=H.ali id p i k z bk hj h2;obtain ⟨bc,cur,el,v,c1,c2,c3,c4⟩:=e3 1 sz es (by simp only [cont];rw [show st.hp p=some (.row sz es) from hp]) (by rw [show st.hp p=some (.row sz es) from hp];rfl) hi hk;obtain ⟨vp,t1,t2⟩:=H.row p sz es bkc hp e2;generalize hL:([p]:List Nat)=L at t1;cases t1 with
   | nil=>simp at hi
   | @own _ _ _ b cap cur' el' us u1 u2 u3 u4 u5 u6 u7 u8 u9 =>
    subst hL;cases t2;simp only [qA] at c1;subst c1;rw [u2] at c2;simp only [qA,Obj.cells.injEq] at c2;obtain ⟨rfl,_,_⟩:=c2;have hv:us i k=v:=by
     have:=u7 i k hi hk;rw [c3] at this;exact (zH this).symm
    have T:=u9 i k hi hk;rw [hc,hv] at T;refine ⟨v,T.mono [id] fun b' M hb'=>⟨?_,rfl⟩,?_⟩
    ·have:o b'=some (p :: i :: k :: M):=(by simpa using hb');simpa using pkt_cell (j:=id) this
    rcases c4 with c4|c4
    ·exact c4
    exact (T.scn_lst c4).elim
  ·cases q
  obtain ⟨v,t1,t2⟩:=H.row id z xs bk q2 h2;exact ⟨v,t1.same fun b M hb=>⟨by
   have h3:o b=some (id :: M):=(by simpa using hb);simpa using Q5I h3 q1,rfl⟩,t2⟩
 ·rcases hent id _ h1 with ⟨_,q⟩|⟨_,q⟩|⟨_,_,q⟩
  ·cases q
  ·cases q
  exact q.elim
 ·rcases hent id _ h1 with ⟨_,q⟩|⟨_,q⟩|⟨q1,q2,_⟩
  ·cases q
  ·cases q
  exact (H.map id kd xs bk q2 h2).move (fun b hb=>⟨hb,rfl⟩) fun b M p2=>⟨Q5I p2 q1,rfl⟩
 ·cases hl:look t st'.s with
  | none=>simp only [St.get,hl,Option.getD_none];exact .bot
  | some v =>
   simp only [St.get,hl,qB];rcases hs _ (Qk hl) with h|h
   ·simp only at h;rw [← h];exact hx t
   simp only at h;rw [h];exact .bot
 rw [hn];exact hρ id kk hk'
end
section
attribute [local simp] Qf QF Qs
theorem nlA_self {news:List (Nat × Nat)} {a:AV}:nlA news a a:=.inl rfl
theorem Q9j {news:List (Nat × Nat)}:∀ {l:List AV},nlL news l l
 | []=>trivial
 | _ :: _=>⟨nlA_self,Q9j⟩
theorem Q8a {news:List (Nat × Nat)} {sz sz':Nat} {cs ds:List AV}:entN news (.mix sz [cs]) (.mix sz' [ds])=(sz=sz'∧nlL news cs ds):=rfl
theorem Q8b {news:List (Nat × Nat)} {sz sz':Nat} {es:List (List AV)}:entN news (.mix sz []) (.row sz' es)=(sz=sz'∧es=[]):=rfl
theorem Q5t {news:List (Nat × Nat)} {e:Ent}:entN news e e:=by
 cases e with
 | mix sz es =>
  cases es with
  | nil=>rfl
  | cons a r =>
   cases r with
   | nil=>exact ⟨rfl,Q9j⟩
   | cons b s=>rfl
 | row sz es=>rfl
 | ali c i k sz=>rfl
 | mapE kd es=>rfl
end
section
attribute [local simp] Qf QF Qs
theorem WF.labels {C:Ctx} {w:World} {g:Gh} (W:WF C w g) {o':Nat→Option (List Nat)} {ρ':Nat→Option Bk} (h0:∀ b,g.o b=none→o' b=none) (h1:∀ b L,o' b=some L→∃ L',g.o b=some L'):WF C w ⟨g.R,o',ρ'⟩ :=
 ⟨fun b hb=>⟨(W.R b hb).1,h0 b (W.R b hb).2⟩,fun b L hb=>by obtain ⟨L',h2⟩:=h1 b L hb;exact W.o b L' h2,W.os,W.tape,W.output,W.size,W.keep⟩
def Q3g (es:List (List AV)) (i k:Nat):List (List AV):=es.set i ((es.getD i []).set k .bot)
theorem Q16 (es:List (List AV)) (i k:Nat):(Q3g es i k).length=es.length:=by simp [Q3g]
theorem holed_row (es:List (List AV)) (i k j:Nat):((Q3g es i k).getD j []).length=(es.getD j []).length:=by
 unfold Q3g
 by_cases h:i=j
 ·subst h
  by_cases hi:i<es.length
  ·simp [qG,hi]
  simp [qG,hi]
 simp [qG,h]
theorem Q6j (es:List (List AV)) {i k i' k':Nat} (h:(i',k') ≠ (i,k)):((Q3g es i k).getD i' []).getD k' .bot=(es.getD i' []).getD k' .bot:=by
 unfold Q3g
 by_cases e:i=i'
 ·subst e;have hk:k ≠ k':=fun q=>h (by rw [q])
  by_cases hi:i<es.length
  ·simp [qG,hi,hk]
  simp [qG,hi]
 simp [qG,e]
theorem Q7q (es:List (List AV)) (i k:Nat):((Q3g es i k).getD i []).getD k .bot = .bot:=by
 unfold Q3g
 by_cases hi:i<es.length
 ·by_cases hk:k<(es.getD i []).length
  ·simp only [qG,List.getElem?_eq_getElem hi,qB] at hk;simp [qG,hi,hk]
  simp only [qG,List.getElem?_eq_getElem hi,qB] at hk;simp [qG,hi,hk]
 simp [qG,hi]
def tkl (p i k j:Nat) (o:Nat→Option (List Nat)):Nat→Option (List Nat):=fun b=>match o b with
 | some (x :: i' :: k' :: M)=>if x=p∧i'=i∧k'=k then some (j :: M) else some (x :: i' :: k' :: M)
 | y=>y
theorem Q5Z {p i k j:Nat} {o:Nat→Option (List Nat)} {b x:Nat} {M:List Nat} (h:o b=some (x :: M)) (hx:x ≠ p):tkl p i k j o b=some (x :: M):=by
 unfold tkl;rw [h];cases M with
 | nil=>rfl
 | cons y M =>
  cases M with
  | nil=>rfl
  | cons z M=>simp [hx]
theorem tkl_root {p i k j:Nat} {o:Nat→Option (List Nat)} {b:Nat} (h:o b=some [p]):tkl p i k j o b=some [p]:=by simp [tkl,h]
theorem tkl_cell {p i k j:Nat} {o:Nat→Option (List Nat)} {b:Nat} {M:List Nat} (h:o b=some (p :: i :: k :: M)):tkl p i k j o b=some (j :: M):=by simp [tkl,h]
theorem tkl_rest {p i k j i' k':Nat} {o:Nat→Option (List Nat)} {b:Nat} {M:List Nat} (h:o b=some (p :: i' :: k' :: M)) (hne:(i',k') ≠ (i,k)):tkl p i k j o b=some (p :: i' :: k' :: M):=by
 simp only [tkl,h];rw [if_neg]
 rintro ⟨_,rfl,rfl⟩
 exact hne rfl
theorem Q9A {p i k j:Nat} {o:Nat→Option (List Nat)} {b:Nat} (h:o b=none):tkl p i k j o b=none:=by simp [tkl,h]
theorem tkl_some {p i k j:Nat} {o:Nat→Option (List Nat)} {b:Nat} {L:List Nat} (h:tkl p i k j o b=some L):∃ L',o b=some L':=by
 cases hb:o b with
 | none=>rw [Q9A hb] at h;cases h
 | some L'=>exact ⟨L',rfl⟩
def Q17 (h:HP) (p i k j sz sz2:Nat) (es es2:List (List AV)):HP:=fun c=>if c=p then some (.row sz (Q3g es i k)) else if c=j then some (.row sz2 es2) else h c
theorem Q7o {h:HP} {p i k j sz sz2:Nat} {es es2:List (List AV)} (hp:h p=some (.row sz es)) (hj:h j=some (.ali p i k sz2)) (c:Nat):Ql (Q17 h p i k j sz sz2 es es2 c)=Ql (h c):=by
 unfold Q17;split
 ·rename_i e;subst e;rw [hp];rfl
 split
 ·rename_i e;subst e;rw [hj];rfl
 rfl
theorem cont_take {h:HP} {p i k j sz sz2:Nat} {es es2:List (List AV)} (hp:h p=some (.row sz es)) (hj:h j=some (.ali p i k sz2)) (hpj:p ≠ j) (hc:(es.getD i []).getD k .bot = .lst true sz2 es2) :
  ∀ (d c:Nat) (q:Nat × List (List AV)),cont (Q17 h p i k j sz sz2 es es2) d c=some q→(c=p∧q=(sz,Q3g es i k))∨∃ d',cont h d' c=some q:=by
 intro d
 induction d with
 | zero=>intro c q hx;simp [cont] at hx
 | succ d ih =>
  intro c q hx
  by_cases hcp:c=p
  ·subst hcp;refine .inl ⟨rfl,?_⟩;simpa [cont,Q17,eq_comm] using hx
  by_cases hcj:c=j
  ·subst hcj;have e1:Q17 h p i k c sz sz2 es es2 c=some (.row sz2 es2):=(by simp [Q17,hcp]);unfold cont at hx;rw [e1] at hx;simp only [qA] at hx;subst hx;refine .inr ⟨2,?_⟩;have h1:cont h 1 p=some (sz,es):=(by simp [cont,hp]);have h2:Ql (h p)=false:=(by rw [hp];rfl);rw [cont,hj];simp only [h1,h2,Bool.false_eq_true,if_false,hc,if_true]
  have e1:Q17 h p i k j sz sz2 es es2 c=h c:=by simp [Q17,hcp,hcj]
  unfold cont at hx;rw [e1] at hx;cases he:h c with
  | none=>simp [he] at hx
  | some x =>
   cases x with
   | mix=>exact .inr ⟨1,by simpa [cont,he] using hx⟩
   | row=>exact .inr ⟨1,by simpa [cont,he] using hx⟩
   | mapE=>simp [he] at hx
   | ali c2 i2 k2 s2 =>
    simp only [he] at hx;split at hx
    ·cases hx
    rename_i hm;rw [Q7o hp hj] at hm;cases hcc:cont (Q17 h p i k j sz sz2 es es2) d c2 with
    | none=>simp [hcc] at hx
    | some q2 =>
     rw [hcc] at hx;rcases ih c2 q2 hcc with ⟨rfl,rfl⟩|⟨d',i1⟩
     ·by_cases hik:(i2,k2)=(i,k)
      ·cases hik;simp only [Q7q] at hx;cases hx
      refine .inr ⟨2,?_⟩;simp only [Q6j es hik] at hx;have h1:cont h 1 c2=some (sz,es):=(by simp [cont,hp]);rw [cont,he];simp only [h1,if_neg hm];exact hx
     refine .inr ⟨d' + 1,?_⟩;unfold cont;rw [he];simp only;rw [if_neg hm,i1];exact hx
theorem HRel.takeA {C:Ctx} {w:World} {g:Gh} {h:HP} (W:WF C w g) (H:HRel w g h) {p i k j sz sz2:Nat} {es es2:List (List AV)} (hp:h p=some (.row sz es)) (hj:h j=some (.ali p i k sz2)) (hpj:p ≠ j) (hi:i<es.length) (hk:k<sz)
  (hc:(es.getD i []).getD k .bot = .lst true sz2 es2):WF C w ⟨g.R,tkl p i k j g.o,g.ρ⟩∧HRel w ⟨g.R,tkl p i k j g.o,g.ρ⟩ (Q17 h p i k j sz sz2 es es2):=by
 refine ⟨W.labels (fun b hb=>Q9A hb) fun b L hb=>tkl_some hb,⟨fun id z xs bk he hb=>?_,fun id z xs bk he hb=>?_,fun id c i' k' z bk he hb=>?_,fun id kd xs bk he hb=>?_⟩⟩
 ·have hidp:id ≠ p:=by rintro rfl;simp [Q17] at he
  have hidj:id ≠ j:=by rintro rfl;simp [Q17,hidp] at he
  have he':h id=some (.mix z xs):=by simpa [Q17,hidp,hidj] using he
  exact (H.mix id z xs bk he' hb).mono (fun _ _=>rfl) (fun _ _ h=>h) fun b hb=>⟨Q5Z hb hidp,rfl⟩
 ·by_cases hidp:id=p
  ·subst hidp;have:z=sz∧xs=Q3g es i k:=(by simpa [Q17,eq_comm] using he);obtain ⟨rfl,rfl⟩:=this;obtain ⟨vp,t1,t2⟩:=H.row id z es bk hp hb;refine ⟨vp,?_,t2⟩;generalize hL:([id]:List Nat)=L at t1;cases t1 with
   | nil=>simp at hi
   | @own _ _ _ b cap cur' el' us u1 u2 u3 u4 u5 u6 u7 u8 u9 =>
    subst hL;have:=TRel.own (w:=w) (R:=g.R) (o:=tkl id i k j g.o) (L:=[id]) (sz:=z) (es:=Q3g es i k) (b:=b) (cap:=cap) (cur:=cur') (e:=el') us (tkl_root u1) u2 u3 (by rw [Q16];exact u4) u5
     (fun i' hi'=>by rw [Q16] at hi';rw [holed_row];exact u6 i' hi') (fun i' k' hi' hk'=>by rw [Q16] at hi';exact u7 i' k' hi' hk') (fun i' k' hi' hk'=>by rw [Q16] at hi';exact u8 i' k' hi' hk')
     (fun i' k' hi' hk'=>by
      rw [Q16] at hi'
      by_cases hik:(i',k')=(i,k)
      ·cases hik;rw [Q7q];exact .bot (u8 _ _ hi' hk')
      rw [Q6j es hik];refine (u9 i' k' hi' hk').mono [id,i',k'] fun b' M hb'=>⟨?_,rfl⟩;have:g.o b'=some (id :: i' :: k' :: M):=(by simpa using hb');simpa using tkl_rest (j:=j) this hik)
    rw [Q16] at this;exact this
  by_cases hidj:id=j
  ·subst hidj;have:z=sz2∧xs=es2:=(by simpa [Q17,hidp,eq_comm] using he);obtain ⟨rfl,rfl⟩:=this;obtain ⟨e1,bkc,e2,e3⟩:=H.ali id p i k z bk hj hb;obtain ⟨bc,cur,el,v,c1,c2,c3,c4⟩:=e3 1 sz es (by simp [cont,hp]) (by rw [hp];rfl) hi hk;obtain ⟨vp,t1,t2⟩:=H.row p sz es bkc hp e2;generalize hL:([p]:List Nat)=L at t1;cases t1 with
   | nil=>simp at hi
   | @own _ _ _ b cap cur' el' us u1 u2 u3 u4 u5 u6 u7 u8 u9 =>
    subst hL;cases t2;simp only [qA] at c1;subst c1;rw [u2] at c2;simp only [qA,Obj.cells.injEq] at c2;obtain ⟨rfl,_,_⟩:=c2;have hv:us i k=v:=by
     have:=u7 i k hi hk;rw [c3] at this;exact (zH this).symm
    have T:=u9 i k hi hk;rw [hc,hv] at T;refine ⟨v,T.mono [id] fun b' M hb'=>⟨?_,rfl⟩,?_⟩
    ·have:g.o b'=some (p :: i :: k :: M):=(by simpa using hb');simpa using tkl_cell (j:=id) this
    rcases c4 with c4|c4
    ·exact c4
    exact (T.scn_lst c4).elim
  have he':h id=some (.row z xs):=by simpa [Q17,hidp,hidj] using he
  obtain ⟨v,t1,t2⟩:=H.row id z xs bk he' hb;exact ⟨v,t1.same fun b M hb=>⟨by
   have h3:g.o b=some (id :: M):=(by simpa using hb);simpa using Q5Z h3 hidp,rfl⟩,t2⟩
 ·have hidp:id ≠ p:=by rintro rfl;simp [Q17] at he
  have hidj:id ≠ j:=by rintro rfl;simp [Q17,hidp] at he
  have he':h id=some (.ali c i' k' z):=by simpa [Q17,hidp,hidj] using he
  obtain ⟨e1,bkc,e2,e3⟩:=H.ali id c i' k' z bk he' hb;refine ⟨e1,bkc,e2,fun d szc esc hcc hm hi' hk'=>?_⟩;rw [Q7o hp hj] at hm;rcases cont_take hp hj hpj hc d c _ hcc with ⟨rfl,q⟩|⟨d',q1⟩
  ·cases q;rw [Q16] at hi';exact e3 1 _ es (by simp [cont,hp]) hm hi' hk'
  exact e3 d' szc esc q1 hm hi' hk'
 have hidp:id ≠ p:=by rintro rfl;simp [Q17] at he
 have hidj:id ≠ j:=by rintro rfl;simp [Q17,hidp] at he
 have he':h id=some (.mapE kd xs):=by simpa [Q17,hidp,hidj] using he
 exact (H.map id kd xs bk he' hb).move (fun b hb=>⟨hb,rfl⟩) fun b M hb=>⟨Q5Z hb hidp,rfl⟩
theorem Q9Q {h h':HP} {p i k j sz sz2:Nat} {es es2:List (List AV)} (hs:∀ id x,h id=some x→h' id=some x):∀ id x,Q17 h p i k j sz sz2 es es2 id=some x→Q17 h' p i k j sz sz2 es es2 id=some x:=by
 intro id x hx
 by_cases h0:id=p
 ·simpa [Q17,h0] using hx
 by_cases h1:id=j
 ·simpa [Q17,h0,h1] using hx
 have:h id=some x:=by simpa [Q17,h0,h1] using hx
 simpa [Q17,h0,h1] using hs _ _ this
open Classical in
theorem sem_apa {P:Program} [Kd P] {op:Op} {ev:Operand→AV} {h:HP} {n:Nat} {c:Prop} {e:Eff} {s x:Operand} {t:TypeId} {p j i k sz sz2:Nat} {es es2:List (List AV)} (ho:op = .call ⟨.builtin .append,#[s,x],#[t,t]⟩)
  (hj:h j=some (.ali p i k sz2)) (hp:h p=some (.row sz es)) (hpj:p ≠ j) (hi:i<es.length) (hk:k<sz) (hc:(es.getD i []).getD k .bot = .lst true sz2 es2) (hpn:p<n)
  (he:opF P op ev (Q17 h p i k j sz sz2 es es2) n=some (c,e)) (hcc:c) (hse:e.set=[]) (hpd:p ∉ e.del) (hjd:j∈e.del) (hf:e.fine n) :
  SemOp P op ev h n { v:=e.v,set:=[(p,.row sz (Q3g es i k))],del:=e.del,new:=e.new,cnt:=e.cnt }:=by
 subst ho;have up:∀ {g:Gh} {w:World} {a:Act} {h':HP},(∀ id x,h id=some x→h' id=some x)→(∀ y∈(Op.call ⟨.builtin .append,#[s,x],#[t,t]⟩).operands,XRel w g.R g.ρ (a.eval y) (ev y)) →
   ∃ ev':Operand→AV,(∀ y,XRel w g.R g.ρ (a.eval y) (ev' y))∧opF P (.call ⟨.builtin .append,#[s,x],#[t,t]⟩) ev' (Q17 h' p i k j sz sz2 es es2) n=some (c,e):=by
  intro g w a h' q2 q5;refine ⟨fun y=>if y=s∨y=x then ev y else .bot,fun y=>?_,?_⟩
  ·simp only;split
   ·rename_i hy;exact q5 y (by rcases hy with rfl|rfl<;>simp [Op.operands,Call.operands])
   exact .bot
  rw [← Q7G (ev:=ev) (fun y hy=>by
   have hy':y=s∨y=x:=(by simpa [Op.operands,Call.operands] using hy);exact (if_pos hy').symm)]
  exact opF_up (Q9Q q2) he
 refine ⟨by simp [Q1j],⟨hf.new,hf.nodup,hf.del,by simp [hpn]⟩,fun {C o a w g h'} q1 q2 q3 q4 q5 W H q6 q7=>?_,fun {C o a w g h'} q1 q2 q3 q4 q5 W H q6 q7=>?_⟩;rotate_left
 ·obtain ⟨ev',u1,u2⟩:=up (g:=g) (w:=w) (a:=a) q2 q5;exact Q9o (g:=g) (ev:=ev') (h:=Q17 h' p i k j sz sz2 es es2) (n:=n) (c:=c) (e:=e) u1 (by rw [q1];exact u2)
 obtain ⟨W1,H1⟩:=HRel.takeA W H (q2 _ _ hp) (q2 _ _ hj) hpj hi hk hc;have hjn:j<n:=hf.del j hjd;obtain ⟨ev',hev,he2⟩:=up (g:=g) (w:=w) (a:=a) q2 q5;have St:=Q9n (g:=⟨g.R,tkl p i k j g.o,g.ρ⟩) (a:=a) (ev:=ev') hev W1 H1 (e:=e) (c:=c) (n:=n) (fun p0 hp0=>by
  have h0:=(hf.new p0 hp0).1;have h1:p0.1 ≠ p:=by omega
  have h2:p0.1 ≠ j:=by omega
  simp only [Q17,if_neg h1,if_neg h2];exact q6 p0 hp0) q7 (o:=o) (by rw [q1];exact he2) hcc
 have hh:happ e (Q17 h' p i k j sz sz2 es es2)=happ { v:=e.v,set:=[(p,.row sz (Q3g es i k))],del:=e.del,new:=e.new,cnt:=e.cnt } h':=by
  funext y
  simp only [happ,hse,look]
  by_cases h0:p=y
  ·subst h0;simp [hpd,Q17]
  rw [if_neg h0];simp only
  by_cases h1:y=j
  ·subst h1;simp [hjd]
  simp [Q17,Ne.symm h0,h1]
 intro K Q kk;refine St.step K Q fun v w' R' o' ρ' r1 r2 r3 r4 r5 r6 r7=>kk v w' R' o' ρ' r1 r2 ?_ r4 r5 r6 r7;rw [← hh];exact r3
theorem sem_apaE {P:Program} [Kd P] {op:Op} {ev:Operand→AV} {h:HP} {n:Nat} {s x:Operand} {t et:TypeId} {ty:Tyi} {p j i k sz sz2 m:Nat} {es es2 news es3:List (List AV)} {d2:List Nat} {c2:Prop}
  (ho:op = .call ⟨.builtin .append,#[s,x],#[t,t]⟩) (hel:elm P t=some et) (hty:tyi P et=some ty) (hsz:ty.sz=sz2) (h0:0<sz2) (hs:ev s = .own j 0 m) (hm:m=es2.length) (hj:h j=some (.ali p i k sz2)) (hp:h p=some (.row sz es))
  (hx:src (Q17 h p i k j sz sz2 es es2) sz2 (ev x)=some (c2,news,d2)) (hc2:c2) (hi:i<es.length) (hk:k<sz) (hc:(es.getD i []).getD k .bot = .lst true sz2 es2)
  (hb:es3.length * ty.bytes≤140737488355328) (hb':es3.length≤140737488355328) (hpn:p<n) (hnd:(n :: p :: j :: d2).Nodup) (hd:∀ y∈j :: d2,y<n) (he3:es2++news=es3) :
  SemOp P op ev h n { v:=.own n 0 es3.length,set:=[(p,.row sz (Q3g es i k))],del:=j :: d2,new:=[(n,.row sz2 es3)],cnt:=1 }:=by
 subst he3 hm;have hpj:p ≠ j:=by
  have:=(List.nodup_cons.1 hnd).2;simp only [List.nodup_cons,List.mem_cons,not_or] at this;exact this.1.1
 have hnd':(n :: ([j]++([]++d2))).Nodup:=by
  simp only [List.nodup_cons,List.mem_cons,not_or] at hnd ⊢;simp only [List.nil_append,List.singleton_append,List.mem_cons,not_or,List.nodup_cons];exact ⟨⟨hnd.1.2.1,hnd.1.2.2⟩,hnd.2.2⟩
 have hhj:Q17 h p i k j sz sz2 es es2 j=some (.row sz2 es2):=by simp [Q17,Ne.symm hpj]
 have key:=sem_apa (P:=P) (ev:=ev) (n:=n) (c:=(es2.length≤es2.length)∧c2∧(es2.length+news.length) * ty.bytes≤140737488355328∧es2.length+news.length≤140737488355328∧0<ty.sz) (e:={ v:=.own n 0 (es2.length+news.length),del:=[j]++([]++d2),new:=[(n,.row ty.sz (es2++news))],cnt:=1 }) ho hj hp hpj hi hk hc hpn
  (by
   subst ho;simp only [opF,bltF,hel,if_true,hty,hs,Q26];simp only [base,hhj,hsz,hx,if_true,hnd',List.take_length])
  (by simp only [List.length_append] at hb hb';exact ⟨Nat.le_refl _,hc2,hb,hb',by omega⟩) rfl (by
   simp only [List.nodup_cons,List.mem_cons,not_or] at hnd;simpa using hnd.2.1) (by simp) ⟨by simp,by simp,by simpa using hd,by simp⟩
 simpa [hsz] using key
theorem holed_set {es:List (List AV)} {i k:Nat} {b:AV} {es2:List (List AV)} (h:es.set i ((es.getD i []).set k b)=es2):(Q3g es i k).set i (((Q3g es i k).getD i []).set k b)=es2:=by
 rw [← h];unfold Q3g
 by_cases hi:i<es.length
 ·simp [qG,hi]
 simp [hi]
end
section
attribute [local simp] Qf QF Qs
attribute [simp] Q16
def aliB (H:List (Nat × Ent)) (id:Nat) (dels:List Nat):Bool:=H.all fun p=>match p.2 with
 | .ali c _ _ _=>dels.contains p.1 || (match root (fun x=>look x H) depth c with
  | some r=>!Nat.beq r id
  | none=>false)
 | _=>true
theorem aliB_ok {H:List (Nat × Ent)} {id:Nat} {dels:List Nat} (h:aliB H id dels=true):∀ id' c i' k' s,look id' H=some (.ali c i' k' s)→id'∈dels∨∃ d r,root (fun x=>look x H) d c=some r∧r ≠ id:=by
 intro id' c i' k' s hl;have:=List.all_eq_true.1 h _ (Qk hl);simp only [Bool.or_eq_true] at this;rcases this with h1|h1
 ·exact .inl (by simpa using h1)
 refine .inr ⟨depth,?_⟩;cases hr:root (fun x=>look x H) depth c with
 | none=>rw [hr] at h1;cases h1
 | some r =>
  rw [hr] at h1;refine ⟨r,rfl,fun e=>?_⟩;subst e;simp at h1
theorem stoX_rowK {op:Op} {P:Program} [Kd P] {mt:MT} {fz:List Nat} {all:Array Oper} {t:TypeId} {ty:Tyi} {xv b:AV} {id i k sz:Nat} {es es2:List (List AV)} {ds:List Nat} {dst:Option Nat} {os:List Oper} {st:St} {K:St→Prop} (dels:List Nat) (h1:tyi P t=some ty) (h2:ty.sz=1)
  (he:look id st.h=some (.row sz es)) (hl:layC st.hp xv=some (b,ds)) (hi:i<es.length) (hk:k<sz) (hn:(id :: ds).Nodup) (hlt:∀ y∈ds++dels,y<st.n) (ha:aliB st.h id dels=true)
  (h2':es.set i ((es.getD i []).set k b)=es2)
  (h:runX P mt fz all os (st.app dst { v:=.bot,set:=[(id,.row sz es2)],del:=ds++dels }) K):stoZ P mt all op t (.adr id i k) xv dst os st K:=by
 subst h2';exact Qak dels h1 h2 ⟨he,hl,hi,hk,hn,hlt,fun id' c i' k' s _ h3=>aliB_ok ha id' c i' k' s h3⟩ h
end
section
attribute [local simp] Qf QF Qs
mutual
inductive FrA (h:HP) (T:List Nat):AV→AV→Prop
 | ro {a}:a.ro=true→FrA h T a a
 | row {id sz es n}:h id=some (.row sz es)→id∈T→n=es.length→FrA h T (.own id 0 n) (.lst true sz es)
 | lit {id sz es n}:h id=some (.mix sz es)→id∈T→n=es.length→roRows sz es→FrA h T (.own id 0 n) (.lst true sz es)
 | mp {id kd es}:h id=some (.mapE kd es)→id∈T→kd.plain=true→FrA h T (.mp id) (.cmap kd es)
 | adr {id sz cs cs'}:h id=some (.mix sz [cs])→id∈T→cs.length=sz→FrL h T cs cs'→FrA h T (.adr id 0 0) (.rptr cs')
inductive FrL (h:HP) (T:List Nat):List AV→List AV→Prop
 | nil:FrL h T [] []
 | cons {a a' cs cs'}:FrA h T a a'→FrL h T cs cs'→FrL h T (a :: cs) (a' :: cs')
end
def only (id:Nat) (o:Nat→Option (List Nat)):Nat→Option (List Nat):=fun b=>match o b with
 | some (x :: M)=>if x=id then some (x :: M) else none
 | _=>none
end
end Go.Vc
