/- A part of the proof: a verified generator of conditions, and what each function of the program does. -/
import Derived.Test.YtbdkkdmlhmpffaaC5
import Derived.Conc.Beside
set_option maxRecDepth 100000
set_option maxHeartbeats 4000000
set_option linter.unusedSimpArgs false
set_option linter.unusedVariables false
set_option linter.unusedSectionVars false
set_option linter.unnecessarySimpa false

namespace Go.Vc
open Go Go.Conc
open Go.ConcN (sumTo upd sumTo_upd upd_ne upd_same)
def EndsW (P:Program) (Post:Value→World→Prop) (m:Machine) (t:Trace):Prop :=
 ∃ N last o w' t',runNT P (N+1) m t=(.ended o w',t')∧runN P N m = .next last∧step P last = .ended o w'∧Go.Conc.Good P Post last o w' t'
theorem EndsW.back {P:Program} {Post:Value→World→Prop} {m m':Machine} {t ops:Trace} (h:stepT P m=(.next m',ops)) (e:EndsW P Post m' (t++ops)):EndsW P Post m t:=by
 obtain ⟨n,last,o,w,t',h1,h2,h3,h4⟩:=e;exact ⟨n+1,last,o,w,t',by rw [runNT_succ_next h];exact h1,by rw [runN_succ_next h];exact h2,h3,h4⟩
theorem EndsW.now {P:Program} {Post:Value→World→Prop} {m:Machine} {t ops:Trace} {o:Outcome} {w:World} (h:stepT P m=(.ended o w,ops)) (g:Go.Conc.Good P Post m o w (t++ops)):EndsW P Post m t :=
 ⟨0,m,o,w,t++ops,by simp [runNT,h],rfl,by simp [step,h],g⟩
theorem Q5S {P:Program} {m:Machine} {rs:List Nat} (h0:m.rest.watch=false) (h2:due m.rest.timers m.world.os.mono=[]) (h3:ahead m true=none) (hrs:runnable m.gs m.world.os.mono=rs) (hne:rs ≠ []) :
  ∃ i∈rs,∃ d sl,m.world.drawn≤d∧ask P m = .goroutine (m.at d sl) i:=by
 obtain ⟨i,hi,d,sl,h⟩:=ask_pick (P:=P) h0 h2 h3 hrs hne;refine ⟨i,hi,d,sl,?_,h⟩;obtain ⟨world,gs,⟨timers,alone,slice,watch⟩⟩:=m;simp only at h0 h2 h3 hrs;subst h0;cases rs with
 | nil=>exact absurd rfl hne
 | cons r rest =>
  by_cases hl:(r :: rest).length≤1
  ·have hq:(Question.sched (r :: rest).length).forced=true:=(by simpa [Question.forced] using hl);simp only [ask,askOn,Bool.false_eq_true,h2,h3,hrs,choose,Sem.run,hq,Machine.at,hl,pure,List.isEmpty_nil,if_true,List.length_nil,Nat.lt_irrefl,if_false] at h;simp at h;have:=h.1.1;have e:=congrArg World.drawn this;simp at e;simp only;omega
  simp only [ask,askOn,Bool.false_eq_true,h2,h3,hrs,choose,Sem.run,Machine.at,hl,pure,List.isEmpty_nil,if_true,List.length_nil,Nat.lt_irrefl,if_false,Question.forced] at h;simp at h;have:=h.1.1.2.1;simp only;omega
theorem Q7y {P:Program} {m:Machine} {rs:List Nat} (h0:m.rest.watch=false) (h1:m.rest.alone=none) (h2:due m.rest.timers m.world.os.mono=[]) (h3:ahead m true=none) (hrs:runnable m.gs m.world.os.mono=rs) (hne:rs ≠ []) :
  ∃ i∈rs,∃ d sl,m.world.drawn≤d∧stepT P m=runT P (m.at d sl) i:=by
 have key:∃ i∈rs,∃ d sl,m.world.drawn≤d∧move P m = .goroutine (m.at d sl) i:=by
  unfold move;rw [h1];simp only;split
  ·rename_i i n hs;split
   ·rename_i hc;refine ⟨i,?_,m.world.drawn,_,Nat.le_refl _,rfl⟩;rw [← hrs];exact mem_runnable.2 hc
   obtain ⟨j,hj,d,sl,hd,h⟩:=Q5S (P:=P) (m:={ m with rest:={ m.rest with slice:=none } }) h0 h2 h3 hrs hne;exact ⟨j,hj,d,sl,hd,h⟩
  exact Q5S h0 h2 h3 hrs hne
 obtain ⟨i,hi,d,sl,hd,h⟩:=key;exact ⟨i,hi,d,sl,hd,by simp [stepT,h]⟩
theorem pick_le {P:Program} {gs:Array Goroutine} {w:World} {sl:Option (Nat × Nat)} (ha:∀ g∈gs,awake g) (some1:∃ (i:Nat) (g:Goroutine),gs[i]? = some g∧g.status = .running) :
  ∃ (i:Nat) (g:Goroutine) (d:Nat) (sl':Option (Nat × Nat)),gs[i]? = some g∧g.status = .running∧w.drawn≤d∧stepT P (crowd gs w sl)=runT P (crowd gs (w.at d) sl') i:=by
 have hne:runnable (crowd gs w sl).gs (crowd gs w sl).world.os.mono ≠ []:=by
  intro h;obtain ⟨i,g,hi,hg⟩:=some1;have:i∈runnable (crowd gs w sl).gs (crowd gs w sl).world.os.mono:=mem_runnable.2 (by simp [crowd,hi,Goroutine.canRun,hg]);rw [h] at this;cases this
 obtain ⟨i,hi,d,sl',hd,hs⟩:=Q7y (P:=P) (m:=crowd gs w sl) rfl rfl (by simp [due,crowd]) (ahead_crowd ha) rfl hne;have hc:=mem_runnable.1 hi;simp only [crowd] at hc;cases hg:gs[i]? with
 | none=>simp [hg] at hc
 | some g =>
  simp only [hg,Option.any_some] at hc;exact ⟨i,g,d,sl',hg,(canRun_iff (ha g (Array.mem_of_getElem? hg)) _).1 hc,hd,by rw [hs,crowd_at]⟩
theorem Rly.trans {a b c:World} (h:Rly a b) (k:Rly b c):Rly a c :=
 ⟨Nat.le_trans h.size k.size,fun i hi=>(k.old i (Nat.lt_of_lt_of_le hi h.size)).trans (h.old i hi),fun i h1 h2=>by
  rcases Nat.lt_or_ge i b.heap.size with q|q
  ·obtain ⟨e,hb⟩:=h.new i h1 q;exact ⟨e,(k.old i q).trans hb⟩
  exact k.new i q h2,k.tape.trans h.tape,Nat.le_trans h.drawn k.drawn,k.os.trans h.os,k.output.trans h.output⟩
theorem Rly.at {v:World} {d:Nat} (h:v.drawn≤d):Rly v (v.at d):=⟨Nat.le_refl _,fun _ _=>rfl,fun b h1 h2=>absurd h2 (Nat.not_lt.2 h1),rfl,h,rfl,rfl⟩
theorem Under.at {v w:World} (U:Under v w) (d:Nat):Under (v.at d) (w.at d):=⟨U.size,U.blk,U.tape,rfl,U.os,U.output⟩
theorem Rly.blk {v v₁:World} (r:Rly v v₁) {b:Nat} (h:Blk v b):Blk v₁ b:=by
 obtain ⟨e,h⟩:=h;exact ⟨e,(r.old b (Array.getElem?_eq_some_iff.1 h).1).trans h⟩
structure Cfg (P:Program) (W0:World) (S0:Nat→Prop) (g:Goroutine) (v:World) (gs:Array Goroutine) (w:World) (t:Trace) (q:Nat→Nat) (Shun:Loc→Prop):Prop where
 g0:gs[0]? = some g
 leav:Leavers P t gs q
 past:Past Shun w.heap.size t
 und:Under v w
 shun:∀ l,Shun l→∃ a,l = .cell a∧Blk v a.block
 keep:∀ b,S0 b→Shut v b∧w.heap[b]? = W0.heap[b]?
def TM (P:Program) (W0:World) (S0:Nat→Prop) (Post:Value→World→Prop) (g:Goroutine) (v:World):Prop :=
 ∀ v₁,Rly v v₁→∀ gs w sl t q Shun,Cfg P W0 S0 g v₁ gs w t q Shun→EndsW P Post (crowd gs w sl) t
theorem evL_of {Shun:Loc→Prop} {v:World} {B:Nat} {e:Event} (h:EvS v B e) (hs:∀ l,Shun l→∃ a,l = .cell a∧Blk v a.block):EvL Shun B e:=by
 obtain ⟨loc,wr,sy⟩:=e;rcases h with h|⟨a,h1,hB,h2,h3,_⟩|⟨r,h1,hB,_⟩
 ·simp only at h;subst h;exact ⟨fun x hx=>by simp [MemAct.ofEvent,MemAct.touch?] at hx,by simp,by simp,trivial⟩
 ·simp only at h1 h2;subst h1 h2;refine ⟨fun x hx hsx=>?_,by simp,by simp,hB⟩;simp only [MemAct.ofEvent,MemAct.touch?,Option.some.injEq] at hx;subst hx;obtain ⟨a',e,hb⟩:=hs _ hsx;cases e;exact absurd hb h3
 simp only at h1;subst h1;cases wr<;>cases sy<;>refine ⟨fun x hx hsx=>?_,by simp,by simp,hB⟩<;>simp only [MemAct.ofEvent,MemAct.touch?,Option.some.injEq,reduceCtorEq] at hx<;>(subst hx;obtain ⟨a',e,hb⟩:=hs _ hsx;cases e)
theorem Cfg.awake {P:Program} {W0 v w:World} {S0:Nat→Prop} {g:Goroutine} {gs:Array Goroutine} {t:Trace} {q:Nat→Nat} {Shun:Loc→Prop} (c:Cfg P W0 S0 g v gs w t q Shun) (hr:g.status = .running):∀ x∈gs,awake x:=by
 intro x hx;obtain ⟨i,hi,rfl⟩:=Array.mem_iff_getElem.1 hx;rcases Nat.eq_zero_or_pos i with rfl|hpos
 ·have:gs[0]=g:=by simpa [Array.getElem?_eq_getElem hi] using c.g0
  rw [this];exact awake_of (.inl hr)
 exact awake_of ((c.leav.old i _ hpos (Array.getElem?_eq_getElem hi)).status.elim .inl fun x=>.inr (.inr x))
theorem Cfg.pick {P:Program} {W0 v w:World} {S0:Nat→Prop} {g:Goroutine} {gs:Array Goroutine} {t:Trace} {q:Nat→Nat} {Shun:Loc→Prop} {sl:Option (Nat × Nat)} (c:Cfg P W0 S0 g v gs w t q Shun) (hr:g.status = .running) :
  (∃ d sl',v.drawn≤d∧stepT P (crowd gs w sl)=runT P (crowd gs (w.at d) sl') 0) ∨
  ∃ gs' d sl' ops q',v.drawn≤d∧stepT P (crowd gs w sl)=(.next (crowd gs' (w.at d) sl'),ops)∧sumTo gs'.size q' < sumTo gs.size q∧Cfg P W0 S0 g (v.at d) gs' (w.at d) (t++ops) q' Shun:=by
 obtain ⟨i,g1,d,sl',hi,hg,hd,hst⟩:=pick_le (P:=P) (w:=w) (sl:=sl) (c.awake hr) ⟨0,g,c.g0,hr⟩;have hdv:v.drawn≤d:=by rw [← c.und.drawn];exact hd
 rcases Nat.eq_zero_or_pos i with rfl|hpos
 ·exact .inl ⟨d,sl',hdv,hst⟩
 right;have hq:=c.leav.old i g1 hpos hi;have hi0:(i == 0)=false:=by simp;omega
 have hlt:i<gs.size:=(Array.getElem?_eq_some_iff.1 hi).1;cases hqi:q i with
 | zero=>rw [hqi] at hq;rw [hq.1] at hg;cases hg
 | succ k =>
  rw [hqi] at hq;rcases hq with ⟨hf,_⟩|⟨_,g',es,hm,hstp,hq'⟩
  ·rw [hf] at hg;cases hg
  have hrunT:=runT_crowd_go (P:=P) (sl:=sl') (i:=i) hi (by rw [hi0];exact hstp (w.at d));have hsz:((gs.map (woken P g1 g' (w.at d))).setIfInBounds i g').size=gs.size:=by simp
  have hsum:sumTo gs.size (Go.ConcN.upd q i k)+(k+1)=sumTo gs.size q+k:=by
   have:=sumTo_upd q k id hlt;simpa [hqi] using this
  refine ⟨(gs.map (woken P g1 g' (w.at d))).setIfInBounds i g',d,sl',_,Go.ConcN.upd q i k,hdv,hst.trans hrunT,by rw [hsz];omega,⟨?_,⟨fun j x hj hx=>?_,fun j hj=>?_⟩,c.past.mute (by omega) hm,c.und.at d,fun l hl=>?_,c.keep⟩⟩
  ·have hne:i ≠ 0:=(by omega);rw [Array.getElem?_setIfInBounds_ne hne,Array.getElem?_map,c.g0];simp [woken_run hr]
  ·by_cases hji:i=j
   ·subst hji;rw [Array.getElem?_setIfInBounds_self_of_lt (by simpa using hlt)] at hx;obtain rfl:=Option.some.inj hx;rw [upd_same,Deaf_own];exact hq'
   rw [Array.getElem?_setIfInBounds_ne hji,Array.getElem?_map] at hx;obtain ⟨y,hy,rfl⟩:=Option.map_eq_some_iff.1 hx;have hqj:=c.leav.old j y hj hy;rw [woken_quitsD hqj,upd_ne q k (Ne.symm hji),Deaf_other t hji _ (fun op hop=>by obtain ⟨e,_,rfl⟩:=Go.Conc.mem_ofEvents hop;rfl)];exact hqj
  ·rw [Deaf_other t (g':=i) (by simp at hj;omega) _ (fun op hop=>by obtain ⟨e,_,rfl⟩:=Go.Conc.mem_ofEvents hop;rfl)];exact c.leav.above j (by simpa using hj)
  obtain ⟨a,h1,h2⟩:=c.shun l hl;exact ⟨a,h1,h2⟩
theorem TM.done {P:Program} {W0:World} {S0:Nat→Prop} {Post:Value→World→Prop} {fr:Frame} {v:World} {x:Value} (h:fr.leaving P v (.returned x)) (hi:P.inits.idxOf? fr.fn=none)
  (hp:∀ v₁ w,Rly v v₁→Under v₁ w→(∀ b,S0 b→Shut v₁ b∧w.heap[b]? = W0.heap[b]?)→Post x w):TM P W0 S0 Post (G fr []) v:=by
 intro v₁ r gs w sl t q Shun c;generalize hn:sumTo gs.size q=n
 induction n using Nat.strongRecOn generalizing v₁ gs w sl t q with
 | _ n ih =>
  rcases c.pick (sl:=sl) rfl with ⟨d,sl',hd,hst⟩|⟨gs',d,sl',ops,q',hd,hst,hlt,c'⟩
  ·have c1:Cfg P W0 S0 (G fr []) (v₁.at d) gs (w.at d) t q Shun:=⟨c.g0,c.leav,c.past,c.und.at d,c.shun,c.keep⟩;obtain ⟨hm,hdf,hk,fn,hf,hr⟩:=h;have hL:=Q3i fn fr.tmps;obtain ⟨_,h1⟩:=hL.run (r.trans (.at hd)) c1.und hr;obtain ⟨w',h2,h3,h4,h5⟩:=hL.tame.sim c1.und h1;obtain rfl:=hL.world h2;have hend:stepG P (0 == 0) (G fr []) (w.at d) = .ended (.done x) (w.at d) (seen P fr.fn ((results fn fr.tmps).events P (w.at d) #[])):=by
    simp [G,stepG,unwind,doReturn,hm,hdf,hk,hf,h2,hi,GStep.after]
   have hrunT:=runT_many_ended (P:=P) (sl:=sl') (i:=0) c1.g0 hend;have hP':=c1.past.own (fn:=fr.fn) (pos:=(G fr []).frame.place) (es:=seen P fr.fn ((results fn fr.tmps).events P (w.at d) #[])) fun e he=>by
    have:=h5 e (mem_seen he);rw [← h3.size] at this;exact evL_of this c1.shun
   refine .now (hst.trans hrunT) ⟨x,rfl,hp _ _ (r.trans (.at hd)) c1.und c1.keep,hP'.clean,hP'.over,⟨fun y hy=>?_,rfl⟩,fun j y hy hj=>?_⟩
   ·obtain ⟨j,hj⟩:=List.mem_iff_getElem?.1 hy;rw [List.getElem?_drop] at hj;exact ⟨_,(c.leav.old (1+j) y (by omega) (by simpa [crowd] using hj)).leaves⟩
   have hq:=c.leav.old j y (by omega) hy;refine ⟨q j,?_⟩;have e:(t++MemOp.ofEvents 0 (G fr []).frame.fn (G fr []).frame.place (seen P fr.fn ((results fn fr.tmps).events P (w.at d) #[]))).deaf j (t++MemOp.ofEvents 0 (G fr []).frame.fn (G fr []).frame.place (seen P fr.fn ((results fn fr.tmps).events P (w.at d) #[]))).size=Deaf t j :=
    Deaf_other t (g:=j) (g':=0) (by omega) _ (fun op hop=>by obtain ⟨e,_,rfl⟩:=Go.Conc.mem_ofEvents hop;rfl)
   rw [e];exact hq.hears _
  exact .back hst (ih _ (by omega) (v₁.at d) (r.trans (.at hd)) gs' (w.at d) sl' _ q' c' rfl)
inductive Tree:Type
 | leaf
 | node (f:World→Tree)
def Sub (t' t:Tree):Prop:=∃ f v,t = .node f∧t'=f v
theorem Sub.wf:WellFounded Sub:=⟨fun t=>by
 induction t with
 | leaf=>exact ⟨_,fun y ⟨f,v,h,_⟩=>by cases h⟩
 | node f ih=>exact ⟨_,fun y ⟨g,v,h,e⟩=>by cases h;subst e;exact ih v⟩⟩
def Tree.nat:Nat→Tree
 | 0=>.leaf
 | n+1=>.node fun _=>Tree.nat n
theorem Sub.nat (n:Nat):Sub (Tree.nat n) (Tree.nat (n+1)):=⟨_,default,rfl,rfl⟩
def LSub (l' l:List Tree):Prop:=∃ i t t',l[i]? = some t∧Sub t' t∧l'=l.set i t'
theorem LSub.acc:∀ l:List Tree,Acc LSub l
 | []=>⟨_,fun y ⟨i,t,t',h,_⟩=>by simp at h⟩
 | a :: l=>by
  have ha:=Sub.wf.apply a;have hl:=LSub.acc l
  induction ha generalizing l with
  | intro a _ iha =>
   induction hl with
   | intro l hl0 ihl =>
    refine ⟨_,fun y ⟨i,t,t',h,hs,e⟩=>?_⟩;subst e;cases i with
    | zero =>
     simp only [List.getElem?_cons_zero,Option.some.injEq] at h;subst h;exact iha t' hs l ⟨_,hl0⟩
    | succ i =>
     simp only [List.getElem?_cons_succ] at h;exact ihl _ ⟨i,t,t',h,hs,rfl⟩
def MLt (p' p:Nat × List Tree):Prop:=p'.1<p.1∨(p'.1=p.1∧LSub p'.2 p.2)
theorem MLt.wf:WellFounded MLt:=⟨fun ⟨n,l⟩=>by
 induction n using Nat.strongRecOn generalizing l with
 | _ n ih =>
  have hl:=LSub.acc l
  induction hl with
  | intro l _ ihl =>
   refine ⟨_,fun ⟨n',l'⟩ h=>?_⟩;rcases h with h|⟨h,hs⟩
   ·exact ih n' h l'
   simp only at h;subst h;exact ihl l' hs⟩
def GoesR (P:Program) (mn:Bool) (Stop:Goroutine→World→Prop):Tree→Goroutine→World→Prop
 | .leaf,g,v=>∀ v₁,Rly v v₁→Stop g v₁
 | .node f,g,v=>(∀ v₁,Rly v v₁→Stop g v₁)∨(g.status = .running∧∀ v₁,Rly v v₁→∃ g' v',SimStep P mn g v₁ g' v'∧GoesR P mn Stop (f v₁) g' v')
theorem GoesR.rly {P:Program} {mn:Bool} {Stop:Goroutine→World→Prop} {t:Tree} {g:Goroutine} {v v₁:World} (h:GoesR P mn Stop t g v) (r:Rly v v₁):GoesR P mn Stop t g v₁:=by
 cases t with
 | leaf=>exact fun v₂ r2=>h v₂ (r.trans r2)
 | node f =>
  rcases h with h|⟨hs,h⟩
  ·exact .inl fun v₂ r2=>h v₂ (r.trans r2)
  exact .inr ⟨hs,fun v₂ r2=>h v₂ (r.trans r2)⟩
end Go.Vc
