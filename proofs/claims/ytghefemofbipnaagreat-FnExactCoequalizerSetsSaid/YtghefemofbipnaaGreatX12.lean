/- A part of the proof. -/
import Derived.Test.YtghefemofbipnaaGreatX11
import Derived.Conc.CrowdRun
set_option maxRecDepth 100000
set_option maxHeartbeats 4000000
set_option linter.unusedSimpArgs false
set_option linter.unusedVariables false
set_option linter.unusedSectionVars false
set_option linter.unnecessarySimpa false

open Nat renaming le_refl→qC
open Array renaming getElem?_eq_getElem→zA
open Nat renaming lt_or_ge→zB
namespace Go.Vc.Ph
open Go Go.Conc Go.Vc.Wg
open Go.ConcN (WD CTag phi pend isOpen isW3 isFin Vc Ssum Fsum cnt WSit WgLive PayAt Has RW AtR0 DWs RelBy sumTo upd upd_same upd_ne ShN deafBehind_idle Vc_upd sumTo_upd sumTo_upd_out sumTo_congr OpenSt AllQuit others_uncounted le_sumTo bk_cell bk_rw bk_rd bk_dis bk_en bk_sem Vc_le get_map_set_same exists_counted)
open Go.ConcR (KK WgAt stA smA rd wr mk Payload DC0 g_of_ofEvents Bk bk_of_mute ofEvent_loc_mark ofEvent_cell ofEvent_mk)
open Go.ConcX (OfWg)
variable [PS]
theorem Lt.via {m m1 m0:Mu} (h:Lt m m1) (h1:m1.1.1<m0.1.1):Lt m m0:=by
 obtain ⟨⟨a,b⟩,c⟩:=m;obtain ⟨⟨a1,b1⟩,c1⟩:=m1;obtain ⟨⟨a0,b0⟩,c0⟩:=m0;refine .a ?_;rcases Prod.lex_def.1 h with h|⟨h,_⟩
 ·rcases h with h|⟨h,_⟩
  ·simp only at h h1;omega
  simp only at h h1;omega
 simp only [Prod.mk.injEq] at h h1;omega
section
variable {P:Program} {ty:TypeId} {Wg C n:Nat} {K:Nat→Nat→Value→World→Prop} {Anch:Goroutine→World→Prop} {E1:Goroutine→Prop} {c Be:Nat} {we:World} {Shun:Loc→Prop}
 {gs:Array Goroutine} {w w':World} {sl:Option (Nat × Nat)} {t:Trace} {j:Nat} {D D':Nat→WD} {PH PH':Nat→Nat} {TR TR':Nat→Tree} {val val':Nat→Value} {V V':Nat→World} {q β:Nat→Nat}
 {tag tag':CTag} {x x':Nat} {T T':Tree} {f0 f' d0:Nat} {a a':Goroutine} {st sm st' sm':Int} {es:Array Event}
abbrev Q59 (P:Program) (ty:TypeId) (Wg C n:Nat) (K:Nat→Nat→Value→World→Prop) (Anch:Goroutine→World→Prop) (E1:Goroutine→Prop) (c Be:Nat) (we:World) (Shun:Loc→Prop) (gs:Array Goroutine) (w:World) (sl:Option (Nat × Nat)) (t:Trace) (μ:Mu):Prop :=
 ∃ m₁ ops μ',runT P (crowd gs w sl) 0=(.next m₁,ops)∧Lt μ' μ∧Inv P ty Wg C n K Anch E1 c Be we Shun μ' m₁ (t++ops)
theorem cLib (G:Lie Wg C K c Be) (ha:gs[0]? = some a) (H:Core P ty Wg C n K c Be we Shun gs w t j D PH TR val V q β) (hd0:Deaf t 0=d0) (hgo:stepG P true a w = .go a' w' es)
  (hAs:Aside Wg w w') (hdr:w'.drawn=w.drawn) (hwg:WgAt ty Wg w' st' sm') (hbk:∀ e∈es,Go.ConcR.Bk Wg e∨e=mk (.releaseMerge (stA Wg))∨e=mk (.acquire (stA Wg))∨(e=Q8i Wg∨e=Q8j Wg))
  (hcs:∀ v,Rly (V 0) v→CS P ty Wg C n K Anch E1 tag' x' j T' f' (deafBehind d0 es) a' v w') (hmode:Go.ConcN.Mode j D tag' st' sm')
  (hacq:tag' = .ret→AcqC Wg c j (t++MemOp.ofEvents 0 a.frame.fn a.frame.place es))
  (hlt:phi n (Vc j D) tag' + x' < phi n (Vc j D) tag+x∨(phi n (Vc j D) tag' + x'=phi n (Vc j D) tag+x∧T'=T∧f' < f0)) :
  Q59 P ty Wg C n K Anch E1 c Be we Shun gs w sl t (mu n tag x T f0 c j D PH TR q):=by
 have hWs:Wg<w.heap.size:=Nat.lt_of_lt_of_le G.wB H.big;have hc0:=G.c0;obtain ⟨cs,hc1,hc2⟩:=H.pay;obtain ⟨V',hr,H'⟩:=H.one G (.inl rfl) ha (fn:=a.frame.fn) (pos:=a.frame.place) (g':=a') (es:=es) (w':=w') (D':=D) (PH':=PH) (TR':=TR) (val':=val) (.inl rfl) hAs.size ⟨hAs.tape,hAs.os,hAs.output,hdr⟩ hAs.block
   ⟨_,_,hwg⟩ ⟨cs,(hAs.block C G.cw).trans hc1,hc2⟩ (fun k' _ _=>Q2B (hAs.block C G.cw)) (fun e he=>okt_bk hWs ((hbk e he).imp id (Or.imp id (Or.imp id fun h=>⟨rfl,h⟩)))) (fun k _ _=>⟨rfl,rfl,rfl,rfl⟩)
   (fun k _ e=>by omega)
 have hrun:=runT_crowd_go (P:=P) (sl:=sl) (i:=0) ha (by simpa using hgo);refine ⟨_,_,mu n tag' x' T' f' c j D PH TR q,hrun,?_,_,w',sl,j,D,PH,TR,val,V',q,β,tag',x',T',f',deafBehind d0 es,a',st',sm',rfl,get_map_set_same _ _ _ (by rw [H.size];omega),hcs _ hr,H',hwg,hmode,by rw [Deaf_own,hd0],hacq,rfl⟩;unfold mu;rcases hlt with h|⟨h1,rfl,h2⟩
 ·exact .a (by omega)
 exact .c (by omega) rfl (by omega)
theorem Q3F (G:Lie Wg C K c Be) (ha:gs[0]? = some a) (H:Core P ty Wg C n K c Be we Shun gs w t j D PH TR val V q β) (hd0:Deaf t 0=d0) (hwg:WgAt ty Wg w st sm) (hmode:Go.ConcN.Mode j D tag st sm) (hgo:stepG P true a w = .go a' w' es) (hD:DC0 w w' es)
  (hcs:∀ v,Rly (V 0) v→CS P ty Wg C n K Anch E1 tag x j T f' d0 a' v w') (hacq:tag = .ret→AcqC Wg c j t) (hf:f' < f0) :
  Q59 P ty Wg C n K Anch E1 c Be we Shun gs w sl t (mu n tag x T f0 c j D PH TR q):=by
 obtain ⟨rfl,rfl⟩:=hD;refine cLib G ha H hd0 hgo (.refl Wg _) rfl hwg (by simp) hcs hmode (fun e=>?_) (.inr ⟨rfl,rfl,hf⟩);have:MemOp.ofEvents 0 a.frame.fn a.frame.place #[] = #[]:=by rw [ofEvents_eq];simp
 rw [this,Array.append_empty];exact hacq e
theorem cSim (G:Lie Wg C K c Be) (ha:gs[0]? = some a) (H:Core P ty Wg C n K c Be we Shun gs w t j D PH TR val V q β) (hd0:Deaf t 0=d0) (hwg:WgAt ty Wg w st sm) (hmode:Go.ConcN.Mode j D tag st sm) (hr:tag ≠ .ret) {v':World} (hs:SimStep P true a (V 0) a' v')
  (hcs:∀ w,CS P ty Wg C n K Anch E1 tag x j T' f0 d0 a' v' w) (hT:Sub T' T) :
  Q59 P ty Wg C n K Anch E1 c Be we Shun gs w sl t (mu n tag x T f0 c j D PH TR q):=by
 have hc0:=G.c0;obtain ⟨w',es,V',hgo,hv',hry,hwa,hdf,hnr,H'⟩:=H.sim G ⟨_,_,hwg⟩ (.inl rfl) ha (D':=D) (PH':=PH) (TR':=TR) (val':=val) (by simpa using hs) (fun k _ _=>⟨rfl,rfl,rfl,rfl⟩) (fun k _ e=>by omega);have hrun:=runT_crowd_go (P:=P) (sl:=sl) (i:=0) ha hgo;refine ⟨_,_,mu n tag x T' f0 c j D PH TR q,hrun,?_,_,w',sl,j,D,PH,TR,val,V',q,β,tag,x,T',f0,d0,a',st,sm,rfl,get_map_set_same _ _ _ (by rw [H.size];omega),by rw [hv'];exact hcs w',H',hwa _ _ hwg,hmode,by rw [Deaf_own,hdf,hd0],fun e=>absurd e hr,rfl⟩;unfold mu;exact .b rfl ⟨0,T,T',rfl,hT,rfl⟩
theorem bk1 {e:Event} (h:∀ e'∈#[e],Go.ConcR.Bk Wg e'):∀ e'∈#[e],Go.ConcR.Bk Wg e'∨e'=mk (.releaseMerge (stA Wg))∨e'=mk (.acquire (stA Wg))∨(e'=Q8i Wg∨e'=Q8j Wg):=fun e' he=>.inl (h e' he)
theorem goC {r:Nat} (G:Lie Wg C K c Be) (hn:n<2147483648) (hr:r<n) (ej:j=n - (r+1)) (ha:gs[0]? = some a) (H:Core P ty Wg C n K c Be we Shun gs w t j D PH TR val V q β) (hwg:WgAt ty Wg w st sm) (hmode:Go.ConcN.Mode j D (.sp (r+1) 0) st sm) (hd0:Deaf t 0=0)
  (h:GoesR P true (AtGo P ty Wg C n K r (Scr P ty Wg C n K Anch r)) T a (V 0)) :
  Q59 P ty Wg C n K Anch E1 c Be we Shun gs w sl t (mu n (.sp (r+1) 0) 0 T 0 c j D PH TR q):=by
 have hc0:=G.c0;have stop:AtGo P ty Wg C n K r (Scr P ty Wg C n K Anch r) a (V 0)→Q59 P ty Wg C n K Anch E1 c Be we Shun gs w sl t (mu n (.sp (r+1) 0) 0 T 0 c j D PH TR q):=by
  rintro ⟨_,a',child,hsp,hcr,⟨T1,h1⟩,T2,h2⟩
  obtain ⟨ho,rfl,rfl,_⟩:=hmode.open_inv trivial;have hrun':=runT_crowd_spawn (P:=P) (sl:=sl) (i:=0) ha (by simpa using hsp w (H.und 0 (.inl rfl)));rw [H.size] at hrun';have e0:MemOp.ofEvents 0 a.frame.fn a.frame.place #[] = #[]:=by rw [ofEvents_eq];simp
  rw [← ej,← (H.und 0 (.inl rfl)).size] at h1;have H':=H.fork G (a':=a') (child:=child) (x:={ g:=0,fn:=a.frame.fn,pos:=a.frame.place,act:=.go (c+j) }) (y:={ g:=c+j,fn:=child.frame.fn,pos:=a.frame.place,act:=.start }) ⟨rfl,rfl⟩ ⟨rfl,rfl⟩ hd0 h1;have eV:Vc (j+1) (Go.ConcN.upd D j ⟨7,0,0⟩)=Vc j D+1:=by
   simp only [Vc,sumTo,upd_same];rw [sumTo_upd_out D _ cnt (qC _)];rfl
  have eS:Ssum (j+1) (Go.ConcN.upd D j ⟨7,0,0⟩)=Ssum j D+7:=by
   simp only [Ssum,sumTo,upd_same];rw [sumTo_upd_out D _ WD.stage (qC _)]
  have eP:sumTo (j+1) (Go.ConcN.upd PH j 1)=sumTo j PH+1:=by
   simp only [sumTo,upd_same];rw [show (Go.ConcN.upd PH j 1)=fun a=>id (Go.ConcN.upd PH j 1 a) from rfl,sumTo_upd_out PH _ id (qC _)];rfl
  have ho':OpenSt (j+1) (Go.ConcN.upd D j ⟨7,0,0⟩):=fun i hi=>by
   by_cases e:i=j
   ·subst e;rw [upd_same];simp
   rw [upd_ne D _ e];exact ho i (by omega)
  refine ⟨_,_,mu n (.sp r 6) 0 T2 0 c (j+1) (Go.ConcN.upd D j ⟨7,0,0⟩) (Go.ConcN.upd PH j 1) (Go.ConcN.upd TR j T1) q,hrun',?_,_,w,sl,j+1,_,_,_,val,fun i=>if i=0∨i=c+j then frz (V 0) else V i,q,Go.ConcN.upd β j w.heap.size,.sp r 6,0,T2,0,0,a',_,_,rfl,?_,?_,?_,hwg,?_,?_,fun e=>by simp at e,rfl⟩
  ·unfold mu;refine .a ?_;rw [eS,eP];simp only [phi];omega
  ·rw [Array.getElem?_push,if_neg (by simp [H.size];omega),Array.getElem?_setIfInBounds_self_of_lt (by rw [H.size];omega)]
  ·have ej2:j+1=n - r:=(by omega);rw [ej2];show CS P ty Wg C n K Anch E1 (.sp r 6) 0 (n - r) T2 0 0 a' (if 0=0∨0=c+j then frz (V 0) else V 0) w;rw [if_pos (Or.inl rfl)];exact .v (by omega) h2
  ·rw [e0];exact H'
  ·have est:((Vc j D+pend (.sp (r+1) 0):Nat):Int) * KK=((Vc (j+1) (Go.ConcN.upd D j ⟨7,0,0⟩)+pend (.sp r 6):Nat):Int) * KK:=(by rw [eV];simp [pend]);rw [est];exact .opn trivial ho' (by simp)
  rw [e0];have:Deaf (t++#[({ g:=0,fn:=a.frame.fn,pos:=a.frame.place,act:=.go (c+j) }:MemOp),{ g:=c+j,fn:=child.frame.fn,pos:=a.frame.place,act:=.start }]) 0=Deaf t 0:=Go.ConcN.Deaf_still t 0 _ (by
   intro op hop;simp only [List.mem_toArray,List.mem_cons,List.not_mem_nil,or_false] at hop;rcases hop with rfl|rfl<;>simp)
  exact this.trans hd0
 cases T with
 | leaf=>exact stop (h _ (.refl _))
 | node f =>
  rcases h with h|⟨_,h⟩
  ·exact stop (h _ (.refl _))
  obtain ⟨a',v',hs,hG⟩:=h _ (.refl _);exact cSim G ha H hd0 hwg hmode (by simp) hs (fun w=>by rw [ej];exact .go hr hG) ⟨f,_,rfl,rfl⟩
set_option maxHeartbeats 1600000 in
theorem stepC (G:Lie Wg C K c Be) (hn:n<2147483648) (hAn:∀ g w,WgLive ty Wg w→Anch g w→∃ m,GP P ty Wg (AtW1 P ty Wg Anch (IsE E1)) m g w)
  (ha:gs[0]? = some a) (hcs:CS P ty Wg C n K Anch E1 tag x j T f0 d0 a (V 0) w) (H:Core P ty Wg C n K c Be we Shun gs w t j D PH TR val V q β) (hwg:WgAt ty Wg w st sm) (hmode:Go.ConcN.Mode j D tag st sm) (hd0:Deaf t 0=d0)
  (hacq:tag = .ret→AcqC Wg c j t) (hrun:a.status = .running) :
  (tag = .ret∧j=n∧E1 a)∨Q59 P ty Wg C n K Anch E1 c Be we Shun gs w sl t (mu n tag x T f0 c j D PH TR q):=by
 have hVj:=Vc_le j D;have hbd:=hcs.bound;have kdC:∀ {T:Tree} {m:Nat} {st sm:Int},j=n→Deaf t 0=0→WgAt ty Wg w st sm→Go.ConcN.Mode j D .kd st sm→GP P ty Wg (AtMk P ty Wg (mk .disable) Anch) m a w→Q59 P ty Wg C n K Anch E1 c Be we Shun gs w sl t (mu n .kd 0 T m c j D PH TR q):=by
  intro T m st sm ej hd hwg hmode h;subst ej;rcases Goes.cases h with hstop|⟨m',rfl,hstep⟩
  ·obtain ⟨_,a',hgo,m₂,hk⟩:=hstop w (RL.refl w);exact cLib G ha H hd hgo (.refl Wg w) rfl hwg (bk1 bk_dis) (T':=T) (tag':=.anch) (x':=0) (fun v _=>.anch hk) (hmode.reopen trivial trivial rfl (by simp)) (by simp) (.inl (by simp only [phi];omega))
  obtain ⟨a',w',es,hgo,hD,hg'⟩:=hstep w (RL.refl w);exact Q3F G ha H hd hwg hmode hgo hD (fun v _=>.kd hg') (by simp) (by omega)
 have s5C:∀ {T:Tree} {m r:Nat} {g₁:Goroutine} {st sm:Int},r<n→j=n - (r+1)→Deaf t 0=0→WgAt ty Wg w st sm→Go.ConcN.Mode j D (.sp (r+1) 5) st sm→GP P ty Wg (AtMk P ty Wg (mk .disable) (AtAdd P ty Wg (Is g₁))) m a w →
   GoesR P true (AtGo P ty Wg C n K r (Scr P ty Wg C n K Anch r)) T g₁ (V 0)→Q59 P ty Wg C n K Anch E1 c Be we Shun gs w sl t (mu n (.sp (r+1) 5) 0 T m c j D PH TR q):=by
  intro T m r g₁ st sm hr ej hd hwg hmode h hG;rcases Goes.cases h with hstop|⟨m',rfl,hstep⟩
  ·obtain ⟨_,a',hgo,m₂,hk⟩:=hstop w (RL.refl w);exact cLib G ha H hd hgo (.refl Wg w) rfl hwg (bk1 bk_dis) (T':=T) (tag':=.sp (r+1) 4) (x':=0) (fun v hv=>by rw [ej];exact .s4 hr hk (hG.rly hv)) (hmode.reopen trivial trivial rfl (by simp)) (by simp) (.inl (by simp only [phi];omega))
  obtain ⟨a',w',es,hgo,hD,hg'⟩:=hstep w (RL.refl w);exact Q3F G ha H hd hwg hmode hgo hD (fun v hv=>by rw [ej];exact .s5 hr hg' (hG.rly hv)) (by simp) (by omega)
 have w1C:∀ {T:Tree} {m:Nat} {st sm:Int},j=n→Deaf t 0=1→WgAt ty Wg w st sm→Go.ConcN.Mode j D .w1 st sm→GP P ty Wg (AtW1 P ty Wg Anch (IsE E1)) m a w→Q59 P ty Wg C n K Anch E1 c Be we Shun gs w sl t (mu n .w1 0 T m c j D PH TR q):=by
  intro T m st sm ej hd hwg hmode h;subst ej;rcases Goes.cases h with hstop|⟨m',rfl,hstep⟩
  ·obtain ⟨_,hall⟩:=hstop w (RL.refl w);obtain ⟨ho,rfl,rfl,_⟩:=hmode.open_inv trivial;obtain ⟨a',hgo,h0,h1⟩:=hall (Vc j D) (by omega) (by simpa [pend] using hwg)
   by_cases e:Vc j D=0
   ·obtain ⟨m₂,hk⟩:=h0 e;have hq:AllQuit j D:=fun i hi=>by
     have h1:=le_sumTo (f:=fun x=>cnt (D x)) hi;have h2:=ho i hi;have h3:cnt (D i)=0:=(by simp only [Vc] at e;omega);simp only [cnt] at h3;split at h3<;>omega
    refine cLib G ha H hd hgo (.refl Wg w) rfl (st':=0) (sm':=0) (by simpa [e,pend] using hwg) (bk1 bk_rd) (T':=T) (tag':=.ke) (x':=0) (fun v _=>.ke hk) (.fin trivial hq) (by simp) (.inl (by simp only [phi];omega))
   obtain ⟨m₂,hk⟩:=h1 e;exact cLib G ha H hd hgo (.refl Wg w) rfl hwg (bk1 bk_rd) (T':=T) (tag':=.w2 (Vc j D)) (x':=0) (fun v _=>.w2 hk) (by
    have:=Go.ConcN.Mode.opn (j:=j) (D:=D) (tag:=.w2 (Vc j D)) trivial ho (fun vs ev=>by cases ev;omega);exact this) (by simp) (.inl (by simp only [phi];omega))
  obtain ⟨a',w',es,hgo,hD,hg'⟩:=hstep w (RL.refl w);exact Q3F G ha H hd hwg hmode hgo hD (fun v _=>.w1 hg') (by simp) (by omega)
 cases hcs with
 | v hr h =>
  rename_i r;refine .inr ?_;have stop:Scr P ty Wg C n K Anch r a (V 0)→Q59 P ty Wg C n K Anch E1 c Be we Shun gs w sl t (mu n (.sp r 6) 0 T 0 c (n - r) D PH TR q):=by
   intro h;cases r with
   | zero =>
    obtain ⟨_,h⟩:=h;obtain ⟨m,h⟩:=h w (H.und 0 (.inl rfl)) ⟨_,_,hwg⟩;obtain ⟨m₁,ops,μ',h1,h2,h3⟩:=kdC (T:=T) (m:=m) (by omega) hd0 hwg (hmode.reopen trivial trivial rfl (by simp)) h;exact ⟨m₁,ops,μ',h1,h2.via (by simp only [mu,phi];omega),h3⟩
   | succ r =>
    obtain ⟨_,g₁,T1,h,hG⟩:=h;obtain ⟨m,h⟩:=h w (H.und 0 (.inl rfl)) ⟨_,_,hwg⟩;obtain ⟨m₁,ops,μ',h1,h2,h3⟩:=s5C (T:=T1) (m:=m) (by omega) (by omega) hd0 hwg (hmode.reopen trivial trivial rfl (by simp)) h hG;exact ⟨m₁,ops,μ',h1,h2.via (by simp only [mu,phi];omega),h3⟩
  cases T with
  | leaf=>exact stop (h _ (.refl _))
  | node f =>
   rcases h with h|⟨_,h⟩
   ·exact stop (h _ (.refl _))
   obtain ⟨a',v',hs,hG⟩:=h _ (.refl _);exact cSim G ha H hd0 hwg hmode (by simp) hs (fun w=>.v hr hG) ⟨f,_,rfl,rfl⟩
 | s5 hr h hG=>exact .inr (s5C hr rfl hd0 hwg hmode h hG)
 | s4 hr h hG =>
  rename_i r g₁;rcases Goes.cases h with hstop|⟨m',rfl,hstep⟩
  ·obtain ⟨_,hall⟩:=hstop w (RL.refl w);obtain ⟨ho,rfl,rfl,_⟩:=hmode.open_inv trivial;obtain ⟨a',hgo,h0,h1⟩:=hall (Vc (n - (r+1)) D) (by omega) (by simpa [pend] using hwg);have e3:(((Vc (n - (r+1)) D:Nat):Int)+1) * KK=((Vc (n - (r+1)) D+pend (.sp (r+1) 3):Nat):Int) * KK:=(by simp [pend]);have e2:(((Vc (n - (r+1)) D:Nat):Int)+1) * KK=((Vc (n - (r+1)) D+pend (.sp (r+1) 2):Nat):Int) * KK:=by simp [pend]
   by_cases e:Vc (n - (r+1)) D=0
   ·obtain ⟨m₂,hk⟩:=h0 e;exact .inr (cLib G ha H hd0 hgo (aside_setCell w (stA Wg) _) rfl (hwg.setSt _) (fun e he=>.inl (bk_rw e he)) (T':=T) (tag':=.sp (r+1) 3) (x':=0) (fun v hv=>.s3 hr hk (hG.rly hv)) (by rw [e3];exact .opn trivial ho (by simp)) (by simp) (.inl (by simp only [phi];omega)))
   obtain ⟨m₂,hk⟩:=h1 e;exact .inr (cLib G ha H hd0 hgo (aside_setCell w (stA Wg) _) rfl (hwg.setSt _) (fun e he=>.inl (bk_rw e he)) (T':=T) (tag':=.sp (r+1) 2) (x':=0) (fun v hv=>.s2 hr hk (hG.rly hv)) (by rw [e2];exact .opn trivial ho (by simp)) (by simp) (.inl (by simp only [phi];omega)))
  obtain ⟨a',w',es,hgo,hD,hg'⟩:=hstep w (RL.refl w);exact .inr (Q3F G ha H hd0 hwg hmode hgo hD (fun v hv=>.s4 hr hg' (hG.rly hv)) (by simp) (by omega))
 | s3 hr h hG =>
  rcases Goes.cases h with hstop|⟨m',rfl,hstep⟩
  ·obtain ⟨_,a',hgo,m₂,hk⟩:=hstop w (RL.refl w);exact .inr (cLib G ha H hd0 hgo (.refl Wg w) rfl hwg (fun e he=>by simp at he;exact .inr (.inr (.inr (.inl he)))) (T':=T) (fun v hv=>.s2 hr hk (hG.rly hv)) (hmode.reopen trivial trivial rfl (by simp)) (by simp) (.inl (by simp only [phi];omega)))
  obtain ⟨a',w',es,hgo,hD,hg'⟩:=hstep w (RL.refl w);exact .inr (Q3F G ha H hd0 hwg hmode hgo hD (fun v hv=>.s3 hr hg' (hG.rly hv)) (by simp) (by omega))
 | s2 hr h hG =>
  rcases Goes.cases h with hstop|⟨m',rfl,hstep⟩
  ·obtain ⟨_,a',hgo,m₂,hk⟩:=hstop w (RL.refl w);exact .inr (cLib G ha H hd0 hgo (.refl Wg w) rfl hwg (bk1 bk_en) (T':=T) (fun v hv=>.s1 hr hk (hG.rly hv)) (hmode.reopen trivial trivial rfl (by simp)) (by simp) (.inl (by simp only [phi];omega)))
  obtain ⟨a',w',es,hgo,hD,hg'⟩:=hstep w (RL.refl w);exact .inr (Q3F G ha H hd0 hwg hmode hgo hD (fun v hv=>.s2 hr hg' (hG.rly hv)) (by simp) (by omega))
 | s1 hr h hG =>
  rename_i r g₁;rcases Goes.cases h with hstop|⟨m',rfl,hstep⟩
  ·obtain ⟨rfl,_⟩:=hstop w (RL.refl w);obtain ⟨m₁,ops,μ',h1,h2,h3⟩:=goC (sl:=sl) (E1:=E1) G hn hr rfl ha H hwg (hmode.reopen trivial trivial rfl (by simp)) hd0 hG;exact .inr ⟨m₁,ops,μ',h1,h2.via (by simp only [mu,phi];omega),h3⟩
  obtain ⟨a',w',es,hgo,hD,hg'⟩:=hstep w (RL.refl w);exact .inr (Q3F G ha H hd0 hwg hmode hgo hD (fun v hv=>.s1 hr hg' (hG.rly hv)) (by simp) (by omega))
 | go hr h=>exact .inr (goC G hn hr rfl ha H hwg hmode hd0 h)
 | kd h=>exact .inr (kdC rfl hd0 hwg hmode h)
 | anch h =>
  rcases Goes.cases h with hstop|⟨m',rfl,hstep⟩
  ·obtain ⟨m₂,hk⟩:=hAn a w ⟨_,_,hwg⟩ (hstop w (RL.refl w));obtain ⟨m₁,ops,μ',h1,h2,h3⟩:=w1C (T:=T) (m:=m₂) rfl hd0 hwg (hmode.reopen trivial trivial rfl (by simp)) hk;exact .inr ⟨m₁,ops,μ',h1,h2.via (by simp only [mu,phi];omega),h3⟩
  obtain ⟨a',w',es,hgo,hD,hg'⟩:=hstep w (RL.refl w);exact .inr (Q3F G ha H hd0 hwg hmode hgo hD (fun v hv=>.anch hg') (by simp) (by omega))
 | w1 h=>exact .inr (w1C rfl hd0 hwg hmode h)
 | w2 h =>
  rename_i vs;rcases Goes.cases h with hstop|⟨m',rfl,hstep⟩
  ·obtain ⟨_,hall⟩:=hstop w (RL.refl w);obtain ⟨ho,rfl,rfl,hw2⟩:=hmode.open_inv trivial;obtain ⟨hle,h1⟩:=hw2 vs rfl;obtain ⟨hhit,hmiss⟩:=hall (Vc n D) (by omega) (by simpa [pend] using hwg)
   by_cases e:Vc n D=vs
   ·obtain ⟨a',hgo,m₂,hk⟩:=hhit e;exact .inr (cLib G ha H hd0 hgo (aside_setCell w (stA Wg) _) rfl (hwg.setSt _) (fun e he=>.inl (bk_rw e he)) (T':=T) (tag':=.w3) (x':=1) (fun v hv=>.sw hk) (.reg trivial ho (by omega)) (by simp) (.inl (by simp only [phi];omega)))
   obtain ⟨a',hgo,m₂,hk⟩:=hmiss e;exact .inr (cLib G ha H hd0 hgo (.refl Wg w) rfl hwg (bk1 bk_rd) (T':=T) (tag':=.anch) (x':=0) (fun v hv=>.anch hk) (hmode.reopen trivial trivial rfl (by simp)) (by simp) (.inl (by simp only [phi];omega)))
  obtain ⟨a',w',es,hgo,hD,hg'⟩:=hstep w (RL.refl w);exact .inr (Q3F G ha H hd0 hwg hmode hgo hD (fun v hv=>.w2 hg') (by simp) (by omega))
 | sw h =>
  rcases Goes.cases h with hstop|⟨m',rfl,hstep⟩
  ·obtain ⟨_,a',hgo,m₂,hk⟩:=hstop w (RL.refl w);exact .inr (cLib G ha H hd0 hgo (.refl Wg w) rfl hwg (fun e he=>by simp at he;exact .inr (.inr (.inr (.inr he)))) (T':=T) (tag':=.w3) (x':=0) (fun v hv=>.w3 hk) hmode (by simp) (.inl (by omega)))
  obtain ⟨a',w',es,hgo,hD,hg'⟩:=hstep w (RL.refl w);exact .inr (Q3F G ha H hd0 hwg hmode hgo hD (fun v hv=>.sw hg') (by simp) (by omega))
 | @w3 _ mm _ _ _ h =>
  rcases Goes.cases h with hstop|⟨m',rfl,hstep⟩
  ·obtain ⟨_,hoff,hblk,htake⟩:=hstop w (RL.refl w);have blk:Go.ConcN.Mode n D .blk st sm→(∃ st,WgAt ty Wg w st 0)→Q59 P ty Wg C n K Anch E1 c Be we Shun gs w sl t (mu n .w3 0 T (mm+1) c n D PH TR q):=fun hm hz =>
    cLib G ha H hd0 (hblk hz) (.refl Wg w) rfl hwg (by simp) (T':=T) (tag':=.blk) (x':=0) (f':=0) (fun v hv=>.blk hstop) hm (by simp) (.inr ⟨rfl,rfl,by omega⟩)
   cases hmode with
   | opn h1 _ _=>exact h1.elim
   | reg h1 h2 h3=>exact .inr (blk (.reg trivial h2 h3) ⟨_,hwg⟩)
   | last L h1 h2 h3 h4=>exact .inr (blk (.last L trivial h2 h3 h4) ⟨_,hwg⟩)
   | sema h2 =>
    obtain ⟨a',hgo,m₂,hk⟩:=htake hwg;exact .inr (cLib G ha H hd0 hgo (aside_setCell w (smA Wg) _) rfl (hwg.setSm 0) (fun e he=>.inl (bk_sem e he)) (T':=T) (tag':=.w4) (x':=0) (fun v hv=>by rw [show deafBehind 1 (semEvents (smA Wg))=1 by simp [deafBehind,semEvents]];exact .w4 hk) (.fin trivial h2) (by simp) (.inl (by simp only [phi];omega)))
   | fin h1 _=>exact h1.elim
  obtain ⟨a',w',es,hgo,hD,hg'⟩:=hstep w (RL.refl w);exact .inr (Q3F G ha H hd0 hwg hmode hgo hD (fun v hv=>.w3 hg') (by simp) (by omega))
 | blk h=>simp at hrun
 | w4 h =>
  rcases Goes.cases h with hstop|⟨m',rfl,hstep⟩
  ·obtain ⟨_,hx⟩:=hstop w (RL.refl w);obtain ⟨hq,rfl,rfl⟩:=hmode.fin_inv trivial;obtain ⟨a',hgo,m₂,hk⟩:=hx hwg;exact .inr (cLib G ha H hd0 hgo (.refl Wg w) rfl hwg (bk1 bk_rd) (T':=T) (tag':=.ke) (x':=0) (fun v hv=>.ke hk) (.fin trivial hq) (by simp) (.inl (by simp only [phi];omega)))
  obtain ⟨a',w',es,hgo,hD,hg'⟩:=hstep w (RL.refl w);exact .inr (Q3F G ha H hd0 hwg hmode hgo hD (fun v hv=>.w4 hg') (by simp) (by omega))
 | ke h =>
  rcases Goes.cases h with hstop|⟨m',rfl,hstep⟩
  ·obtain ⟨_,a',hgo,m₂,hk⟩:=hstop w (RL.refl w);obtain ⟨hq,rfl,rfl⟩:=hmode.fin_inv trivial;exact .inr (cLib G ha H hd0 hgo (.refl Wg w) rfl hwg (bk1 bk_en) (T':=T) (tag':=.acq) (x':=0) (fun v hv=>.acq hk) (.fin trivial hq) (by simp) (.inl (by simp only [phi];omega)))
  obtain ⟨a',w',es,hgo,hD,hg'⟩:=hstep w (RL.refl w);exact .inr (Q3F G ha H hd0 hwg hmode hgo hD (fun v hv=>.ke hg') (by simp) (by omega))
 | acq h =>
  rcases Goes.cases h with hstop|⟨m',rfl,hstep⟩
  ·obtain ⟨_,a',hgo,m₂,hk⟩:=hstop w (RL.refl w);obtain ⟨hq,rfl,rfl⟩:=hmode.fin_inv trivial;refine .inr (cLib G ha H hd0 hgo (.refl Wg w) rfl hwg (fun e he=>by simp at he;exact .inr (.inr (.inl he))) (T':=T) (tag':=.ret) (x':=0) (fun v hv=>.ret hk) (.fin trivial hq) (fun _=>?_) (.inl (by simp only [phi];omega)));have e1:MemOp.ofEvents 0 a.frame.fn a.frame.place #[mk (.acquire (stA Wg))] = #[{ g:=0,fn:=a.frame.fn,pos:=a.frame.place,act:=.mark (.acquire (stA Wg)) }]:=(by rw [ofEvents_eq];simp [ofEvent_mk]);have hy:(t++#[({ g:=0,fn:=a.frame.fn,pos:=a.frame.place,act:=.mark (.acquire (stA Wg)) }:MemOp)])[t.size]? = some { g:=0,fn:=a.frame.fn,pos:=a.frame.place,act:=.mark (.acquire (stA Wg)) }:=(by simp);have hc0:=G.c0;refine ⟨t.size,by rw [e1,act?_of hy],by rw [e1];simp [Trace.g?],by rw [e1];exact ⟨0,by simp [Trace.g?],by rw [deaf_old (qC _)];exact hd0⟩,fun k hk=>?_⟩;obtain ⟨r,hr⟩:=H.rel k hk (by rw [hq k hk];omega);exact ⟨r,hr.appOther g_of_ofEvents (by omega),lt_of_act? hr.rel.act⟩
  obtain ⟨a',w',es,hgo,hD,hg'⟩:=hstep w (RL.refl w);exact .inr (Q3F G ha H hd0 hwg hmode hgo hD (fun v hv=>.acq hg') (by simp) (by omega))
 | ret h =>
  rcases Goes.cases h with hstop|⟨m',rfl,hstep⟩
  ·exact .inl ⟨rfl,rfl,(hstop w (RL.refl w)).1⟩
  obtain ⟨a',w',es,hgo,hD,hg'⟩:=hstep w (RL.refl w);exact .inr (Q3F G ha H hd0 hwg hmode hgo hD (fun v hv=>.ret hg') hacq (by omega))
end
end Go.Vc.Ph
namespace Go.Vc.Ph
open Go Go.Conc Go.Vc.Wg
open Go.ConcN (WD CTag phi pend isOpen isW3 isFin Vc Ssum Fsum cnt WSit WgLive PayAt Has RW AtR0 sumTo upd upd_same upd_ne sumTo_upd OpenSt AllQuit get_map_set exists_counted)
open Go.ConcR (KK WgAt stA smA rd wr mk Payload DC0 g_of_ofEvents)
open Go.ConcX (OfWg)
variable [PS]
section
variable {P:Program} {ty:TypeId} {Wg C n:Nat} {K:Nat→Nat→Value→World→Prop} {Anch:Goroutine→World→Prop} {E1:Goroutine→Prop} {c Be:Nat} {we:World} {Shun:Loc→Prop} {Post:Value→World→Prop}
 {gs:Array Goroutine} {w w':World} {sl:Option (Nat × Nat)} {t:Trace} {j:Nat} {D D':Nat→WD} {PH PH':Nat→Nat} {TR TR':Nat→Tree} {val val':Nat→Value} {V V':Nat→World} {q β:Nat→Nat}
 {tag tag':CTag} {x x':Nat} {T T':Tree} {f0 f' d0:Nat} {a a':Goroutine} {st sm st' sm':Int} {es:Array Event}
theorem WS.running_of {b k:Nat} {d:WD} {p:Nat} {T:Tree} {vl:Value} {g:Goroutine} {v:World} (h:WS P ty Wg C n K b k d p T vl g v w) (hs:d.stage ≠ 1):g.status = .running:=by
 cases h with
 | v h=>exact h.running fun _ _ x=>x.1
 | r h _=>exact Goes.running (fun _ _ x=>x.1) w (Go.ConcN.RW.refl w) h
 | l _ h _=>exact h.running_of hs
theorem someone (hA:∀ g w,Anch g w→g.status = .running) (ha:gs[0]? = some a) (hcs:CS P ty Wg C n K Anch E1 tag x j T f0 d0 a (V 0) w) (H:Core P ty Wg C n K c Be we Shun gs w t j D PH TR val V q β) (hmode:Go.ConcN.Mode j D tag st sm) :
  ∃ (i:Nat) (g:Goroutine),gs[i]? = some g∧g.status = .running:=by
 rcases hcs.running hA with hs|⟨rfl,_⟩
 ·exact ⟨0,a,ha,hs⟩
 cases hmode with
 | opn h1 _ _=>exact h1.elim
 | reg _ _ h3 =>
  obtain ⟨i,hi,h5⟩:=exists_counted h3;obtain ⟨g,hg,hs⟩:=H.wk i hi;exact ⟨_,g,hg,hs.running_of (by omega)⟩
 | last L _ h2 h3 _ =>
  obtain ⟨g,hg,hs⟩:=H.wk L h2;exact ⟨_,g,hg,hs.running_of (by omega)⟩
 | fin h1 _=>exact h1.elim
theorem allAwake (hA:∀ g w,Anch g w→g.status = .running) (ha:gs[0]? = some a) (hcs:CS P ty Wg C n K Anch E1 tag x j T f0 d0 a (V 0) w) (H:Core P ty Wg C n K c Be we Shun gs w t j D PH TR val V q β):∀ g∈gs,awake g:=by
 intro g hg tm;obtain ⟨i,hi⟩:=Array.mem_iff_getElem?.1 hg;rcases Nat.eq_zero_or_pos i with rfl|h0
 ·rw [ha] at hi;cases hi;rcases hcs.running hA with hs|⟨_,hs⟩<;>rw [hs]<;>simp
 rcases zB i c with hc|hc
 ·rcases (H.old i g h0 hc hi).status with h|h<;>rw [h]<;>simp
 have hlt:=(Array.getElem?_eq_some_iff.1 hi).1;rw [H.size] at hlt;obtain ⟨g',hg',hs⟩:=H.wk (i - c) (by omega);rw [show c+(i - c)=i by omega,hi] at hg';cases hg';rcases hs.status with h|h<;>rw [h]<;>simp
def FinOk (P:Program) (ty:TypeId) (Wg C n:Nat) (K:Nat→Nat→Value→World→Prop) (E1:Goroutine→Prop) (c Be:Nat) (we:World) (Shun:Loc→Prop) (Post:Value→World→Prop):Prop :=
 ∀ (gs:Array Goroutine) (w:World) (sl:Option (Nat × Nat)) (t:Trace) (D:Nat→WD) (PH:Nat→Nat) (TR:Nat→Tree) (val:Nat→Value) (V:Nat→World) (q β:Nat→Nat) (a:Goroutine),
  Core P ty Wg C n K c Be we Shun gs w t n D PH TR val V q β→gs[0]? = some a→E1 a→(∀ k,k<n→(D k).stage=1)→AcqC Wg c n t→Deaf t 0=0→EndsW P Post (crowd gs w sl) t
theorem stepI (G:Lie Wg C K c Be) (hn:n<2147483648) (hA:∀ g w,Anch g w→g.status = .running) (hAn:∀ g w,WgLive ty Wg w→Anch g w→∃ m,GP P ty Wg (AtW1 P ty Wg Anch (IsE E1)) m g w)
  (hFin:FinOk P ty Wg C n K E1 c Be we Shun Post) (μ:Mu) (m:Machine) (t:Trace) (h:Inv P ty Wg C n K Anch E1 c Be we Shun μ m t) :
  EndsW P Post m t∨∃ m' ops μ',stepT P m=(.next m',ops)∧Lt μ' μ∧Inv P ty Wg C n K Anch E1 c Be we Shun μ' m' (t++ops):=by
 obtain ⟨gs,w,sl,j,D,PH,TR,val,V,q,β,tag,x,T,f0,d0,a,st,sm,rfl,ha,hcs,H,hwg,hmode,hd0,hacq,rfl⟩:=h;obtain ⟨i,g,d,sl',hg,hrun,hd,hst⟩:=pick_le (P:=P) (w:=w) (sl:=sl) (allAwake hA ha hcs H) (someone hA ha hcs H hmode);have hp0:Part c j 0:=.inl rfl;have hcs':CS P ty Wg C n K Anch E1 tag x j T f0 d0 a ((V 0).at d) (w.at d):=hcs.move (.at (by rw [← (H.und 0 hp0).drawn];exact hd)) (fun h=>h);have H':=H.at G hd;have hwg':WgAt ty Wg (w.at d) st sm:=hwg;rcases Nat.eq_zero_or_pos i with rfl|hi0
 ·obtain rfl:g=a:=by rw [ha] at hg;exact (Option.some.inj hg).symm
  rcases stepC (sl:=sl') G hn hAn ha hcs' H' hwg' hmode hd0 hacq hrun with ⟨rfl,rfl,hE⟩|⟨m₁,ops,μ',h1,h2,h3⟩
  ·obtain ⟨hq,_,_⟩:=hmode.fin_inv trivial;refine .inl (hFin gs w sl t D PH TR val V q β _ H ha hE hq (hacq rfl) ?_);cases hcs with
   | ret _=>exact hd0
  exact .inr ⟨m₁,ops,μ',hst.trans h1,h2,h3⟩
 rcases zB i c with hic|hic
 ·
  have hq:=H.old i g hi0 hic hg;cases hqi:q i with
  | zero=>rw [hqi] at hq;rw [hq.1] at hrun;cases hrun
  | succ k =>
   rw [hqi] at hq;rcases hq with ⟨hf,_⟩|⟨_,g',es,hm,hstp,hq'⟩
   ·rw [hf] at hrun;cases hrun
   have hb:(i == 0)=false:=(by simp;omega);have hrunT:=runT_crowd_go (P:=P) (sl:=sl') (i:=i) hg (by rw [hb];exact hstp (w.at d));obtain ⟨tag',f',hcs2,hf',htag,hwk⟩:=hcs'.wokenBy (V:=fun i=>(V i).at d) hA g g' (w.at d);have hsum:sumTo c (Go.ConcN.upd q i k)+(k+1)=sumTo c q+k:=by
    have:=sumTo_upd q k id hic;simpa [hqi] using this
   refine .inr ⟨_,_,mu n tag' x T f' c j D PH TR (Go.ConcN.upd q i k),hst.trans hrunT,?_,_,w.at d,sl',j,D,PH,TR,val,_,_,β,tag',x,T,f',d0,_,st,sm,rfl,?_,hcs2,H'.mute G hi0 hic hg hqi hm hq',hwg',hmode.retag htag,?_,fun e=>?_,rfl⟩
   ·have hp:=Go.ConcN.phi_retag n (Vc j D) htag;unfold mu;exact .c (by omega) rfl (by omega)
   ·rw [get_map_set _ _ _ _ (by omega),ha];rfl
   ·rw [Deaf_other t (g':=i) (by omega) _ g_of_ofEvents];exact hd0
   exact (hacq (hcs'.retag (V:=fun i=>(V i).at d) htag e)).app fun k' r _ hr=>hr.appOther g_of_ofEvents (by omega)
 have hlt:=(Array.getElem?_eq_some_iff.1 hg).1;rw [H.size] at hlt;obtain ⟨k,rfl⟩:∃ k,i=c+k:=⟨i - c,by omega⟩;obtain ⟨m₁,ops,μ',h1,h2,h3⟩:=stepW (sl:=sl') (V:=fun i=>(V i).at d) G hA hn ha hcs' H' hwg' hmode hd0 hacq (k:=k) (by omega) hg hrun;exact .inr ⟨m₁,ops,μ',hst.trans h1,h2,h3⟩
theorem Q9G (G:Lie Wg C K c Be) (hn:n<2147483648) (hA:∀ g w,Anch g w→g.status = .running) (hAn:∀ g w,WgLive ty Wg w→Anch g w→∃ m,GP P ty Wg (AtW1 P ty Wg Anch (IsE E1)) m g w)
  (hFin:FinOk P ty Wg C n K E1 c Be we Shun Post):∀ (μ:Mu) (m:Machine) (t:Trace),Inv P ty Wg C n K Anch E1 c Be we Shun μ m t→EndsW P Post m t:=by
 intro μ
 induction μ using Lt.wf.induction with
 | _ μ ih =>
  intro m t h;rcases stepI G hn hA hAn hFin μ m t h with h|⟨m',ops,μ',h1,h2,h3⟩
  ·exact h
  exact .back h1 (ih μ' h2 m' _ h3)
end
end Go.Vc.Ph
namespace Go.Vc.Ph
open Go Go.Conc Go.Vc.Wg
open Go.ConcN (WD CTag phi pend isOpen isW3 isFin Vc Ssum Fsum cnt WSit WgLive PayAt Has RW AtR0 sumTo upd upd_same upd_ne OpenSt AllQuit)
open Go.ConcR (KK WgAt wgBlock stA smA rd wr mk Payload DC0 g_of_ofEvents)
open Go.ConcX (OfWg)
variable [PS]
section
variable {P:Program} {ty:TypeId} {Wg C n:Nat} {K:Nat→Nat→Value→World→Prop} {Anch:Goroutine→World→Prop} {E1:Goroutine→Prop} {c Be:Nat} {we:World} {Shun:Loc→Prop} {Post:Value→World→Prop}
 {gs:Array Goroutine} {w w' we':World} {sl:Option (Nat × Nat)} {t:Trace} {j:Nat} {D:Nat→WD} {PH:Nat→Nat} {TR:Nat→Tree} {val:Nat→Value} {V:Nat→World} {q β:Nat→Nat}
theorem past_of (H:Core P ty Wg C n K c Be we Shun gs w t n D PH TR val V q β) (hA:AcqC Wg c n t) (hd:Deaf t 0=0):Past (fun l=>Shun l∨OfWg Wg l) w.heap.size t:=by
 obtain ⟨p,hp,hpg,hph,hall⟩:=hA;obtain ⟨z,hz,hzg⟩:=Option.map_eq_some_iff.1 hpg;have edge:∀ {k r},RelC Wg t (c+k) r→r<p→∀ i,t.g? i=some (c+k)→i≤r→HappensBefore t i p:=by
  intro k r hr hrp i hgi hle;have e:HappensBefore t r p:=.single (.inr ⟨.marked hrp (.inr hr.rel.act) hp (fun y _ _=>H.trc.norel y),hr.rel.heard,hph⟩);rcases zB i r with hlt|hge
  ·exact .trans (.single (.inl ⟨hlt,_,hgi,hr.rel.g⟩)) e
  obtain rfl:i=r:=by omega
  exact e
 refine ⟨H.trc.nr,fun i x hx hm=>?_,fun i g hgi hne hct=>?_,hd,H.trc.low⟩
 ·rcases H.trc.past i x hx hm with ⟨k,hk,hgk⟩|h|⟨h1,h2⟩
  ·obtain ⟨r,hr,hrp⟩:=hall k hk;rcases zB r i with hlt|hle
   ·refine .inr ⟨.inr (hr.own i x hlt hgk hx),?_⟩;have hnc:=hr.rel.after i hlt hgk
    by_cases hk:x.kind = .atomic
    ·exact hk
    exact absurd ⟨x,hx,hm,.inl hk⟩ hnc
   exact .inl ⟨p,z,hz,hzg,.inr (edge hr hrp i hgk hle)⟩
  ·exact .inl h
  exact .inr ⟨.inl h1,h2⟩
 by_cases hg:∃ k,k<n∧g=c+k
 ·obtain ⟨k,hk,rfl⟩:=hg;obtain ⟨r,hr,hrp⟩:=hall k hk;have hle:i≤r:=Nat.le_of_not_lt fun hlt=>hr.rel.after i hlt hgi hct;exact ⟨p,hpg,edge hr hrp i hgi hle⟩
 exact H.trc.over i g hgi hne (fun k hk e=>hg ⟨k,hk,e⟩) hct
theorem Q9y (H:Core P ty Wg C n K c Be we Shun gs w t n D PH TR val V q β) (hq:∀ k,k<n→(D k).stage=1):Leavers P t gs (fun i=>if i<c then q i else (D (i - c)).fuel):=by
 refine ⟨fun i g h0 hg=>?_,fun i hi=>H.above i (by rw [← H.size];exact hi)⟩
 by_cases hc:i<c
 ·simp only [if_pos hc];exact H.old i g h0 hc hg
 simp only [if_neg hc];have hlt:=(Array.getElem?_eq_some_iff.1 hg).1;rw [H.size] at hlt;obtain ⟨g',hg',hs⟩:=H.wk (i - c) (by omega);have e:c+(i - c)=i:=by omega
 rw [e,hg] at hg';cases hg';have h1:=hq (i - c) (by omega);have hd:=H.deafW (i - c) (by omega);rw [e] at hd;rw [hd];generalize D (i - c)=d at hs h1;generalize PH (i - c)=p at hs;generalize TR (i - c)=T at hs;cases hs with
 | v _=>simp at h1
 | r _ _=>simp at h1
 | l _ h _=>exact h.quits h1
noncomputable def vEnd (v₁:World) (C n c:Nat) (w:World) (V:Nat→World) (β:Nat→Nat):World :=
 open Classical in
 { v₁ with drawn:=w.drawn,heap:=Array.ofFn (n:=w.heap.size) fun b =>
   if b.1=C then w.heap[b.1]
   else if b.1<v₁.heap.size then (v₁.heap[b.1]?).getD Q1W
   else if h:∃ k,k<n∧β k≤b.1∧¬ Blk (V (c+k)) b.1 then ((V (c+h.choose)).heap[b.1]?).getD Q1W else Q1W }
structure Brought (K:Nat→Nat→Value→World→Prop) (C n:Nat) (v₁ v₂:World):Prop where
 size:v₁.heap.size<v₂.heap.size
 old:∀ b,b<v₁.heap.size→b ≠ C→v₂.heap[b]? = v₁.heap[b]?
 rest:v₂.tape=v₁.tape∧v₂.os=v₁.os∧v₂.output=v₁.output∧v₁.drawn≤v₂.drawn
 vals:∃ (val:Nat→Value) (β:Nat→Nat) (U:Nat→World),(∃ cs:Array Value,v₂.heap[C]? = some (.cells cs Payload.ety)∧cs.size=PS.z∧∀ k,k<n→cs[k]? = some (val k)) ∧
  (∀ k,k<n→K (β k) k (val k) (U k)∧v₁.heap.size<β k∧∀ b,β k≤b→b<v₂.heap.size→¬ Blk (U k) b→v₂.heap[b]? = (U k).heap[b]?) ∧
  (∀ k k',k<n→k' < n→k ≠ k'→∀ b,β k≤b→b<v₂.heap.size→Blk (U k) b∨Blk (U k') b)∧(∀ k,k<n→(U k).heap.size=v₂.heap.size)
section
variable {v₁:World}
theorem vEnd_size:(vEnd v₁ C n c w V β).heap.size=w.heap.size:=by simp [vEnd]
theorem Q4i {b:Nat} (hb:b<w.heap.size):(vEnd v₁ C n c w V β).heap[b]? = some (open Classical in
   if b=C then w.heap[b]
   else if b<v₁.heap.size then (v₁.heap[b]?).getD Q1W
   else if h:∃ k,k<n∧β k≤b∧¬ Blk (V (c+k)) b then ((V (c+h.choose)).heap[b]?).getD Q1W else Q1W):=by
 simp only [vEnd,Array.getElem?_ofFn,hb,dite_true]
end
theorem PayAt.notBlk {v:World} {b m:Nat} (h:PayAt b m v):¬ Blk v b:=by
 obtain ⟨cs,h,_⟩:=h
 rintro ⟨e,he⟩
 rw [h] at he;simp at he
theorem fin_ok {W0 v₁:World} {S0:Nat→Prop} (G:Lie Wg C K c (v₁.heap.size+1)) (hWg:Wg=v₁.heap.size) (hU:Under v₁ we') (hwe:we = { we' with heap:=we'.heap.push (wgBlock ty 0 0) }) (hC:PayAt C PS.z v₁) (hClt:C<v₁.heap.size)
  (hs:∀ l,Shun l→∃ a,l = .cell a∧Blk v₁ a.block) (hk:∀ b,S0 b→Shut v₁ b∧we'.heap[b]? = W0.heap[b]?)
  (hTM:∀ v₂,Brought K C n v₁ v₂→∀ g,E1 g→TM P W0 S0 Post g v₂):FinOk P ty Wg C n K E1 c (v₁.heap.size+1) we Shun Post:=by
 intro gs w sl t D PH TR val V q β a H hg0 hE hq hA hd;have hsz:=H.big;have hpart:∀ k,k<n→Part c n (c+k):=fun k hk=>.inr ⟨by omega,by omega⟩;have hCw:C ≠ Wg:=G.cw;have weget:∀ b,b<v₁.heap.size→we.heap[b]? = we'.heap[b]?:=fun b hb=>by
  rw [hwe];simp only [Array.getElem?_push];rw [if_neg (by rw [hU.size];omega)]
 have same:∀ b,b<v₁.heap.size→b ≠ C→w.heap[b]? = we'.heap[b]?:=fun b hb hbC=>(H.same b (by omega) (by omega) hbC).trans (weget b hb);obtain ⟨cs,hc1,hc2⟩:=H.pay;have getOld:∀ b,b<v₁.heap.size→b ≠ C→(vEnd v₁ C n c w V β).heap[b]? = v₁.heap[b]?:=fun b hb hbC=>by
  rw [Q4i (by omega),if_neg hbC,if_pos hb,zA hb];rfl
 have getC:(vEnd v₁ C n c w V β).heap[C]? = some (.cells cs Payload.ety):=by
  rw [Q4i (by omega),if_pos rfl,← hc1,zA]
 have getNew:∀ k,k<n→∀ b,β k≤b→b<w.heap.size→¬ Blk (V (c+k)) b→(vEnd v₁ C n c w V β).heap[b]? = (V (c+k)).heap[b]?:=by
  intro k hk b hβ hb hnb;have hbb:=H.born k hk;have hex:∃ k,k<n∧β k≤b∧¬ Blk (V (c+k)) b:=⟨k,hk,hβ,hnb⟩;rw [Q4i hb,if_neg (by omega),if_neg (by omega),dif_pos hex];have hch:=hex.choose_spec;have e:hex.choose=k:=by
   by_cases e:hex.choose=k
   ·exact e
   exfalso;rcases H.mine k hk _ (hpart _ hch.1) (by omega) b hβ hb with h|h
   ·exact hnb h
   exact hch.2.2 h
  rw [e];have hlt:b<(V (c+k)).heap.size:=by rw [← (H.und _ (hpart k hk)).size];exact hb
  rw [zA hlt];rfl
 have getWg:(vEnd v₁ C n c w V β).heap[Wg]? = some Q1W:=by
  have hno:¬ ∃ k,k<n∧β k≤Wg∧¬ Blk (V (c+k)) Wg:=by
   rintro ⟨k,hk,h,_⟩
   have:=H.born k hk;omega
  rw [Q4i (by omega),if_neg (Ne.symm hCw),if_neg (by omega),dif_neg hno]
 have hwr:=H.rest;have hwt:we.tape=we'.tape∧we.os=we'.os∧we.output=we'.output∧we.drawn=we'.drawn:=by rw [hwe];exact ⟨rfl,rfl,rfl,rfl⟩
 have U2:Under (vEnd v₁ C n c w V β) w:=by
  refine ⟨vEnd_size.symm,fun b ov hb=>?_,hwr.1.trans (hwt.1.trans hU.tape),rfl,hwr.2.1.trans (hwt.2.1.trans hU.os),hwr.2.2.1.trans (hwt.2.2.1.trans hU.output)⟩;have hlt:b<w.heap.size:=by rw [← vEnd_size (v₁:=v₁) (C:=C) (n:=n) (c:=c) (w:=w) (V:=V) (β:=β)];exact (Array.getElem?_eq_some_iff.1 hb).1
  by_cases hbC:b=C
  ·subst hbC;rw [getC] at hb;cases hb;exact ⟨_,hc1,.cells (.inl rfl)⟩
  by_cases hbo:b<v₁.heap.size
  ·rw [getOld b hbo hbC] at hb;rw [same b hbo hbC];exact hU.blk b ov hb
  rw [Q4i hlt,if_neg hbC,if_neg hbo] at hb;split at hb
  ·rename_i hex;have hch:=hex.choose_spec;have hUk:=H.und _ (hpart _ hch.1);have hlt':b<(V (c+hex.choose)).heap.size:=(by rw [← hUk.size];exact hlt);rw [zA hlt'] at hb;simp only [Option.getD_some,Option.some.injEq] at hb;exact hUk.blk b ov (by rw [zA hlt',hb])
  cases hb;exact ⟨_,zA hlt,.blank⟩
 have br:Brought K C n v₁ (vEnd v₁ C n c w V β):=by
  refine ⟨by rw [vEnd_size];omega,getOld,⟨rfl,rfl,rfl,?_⟩,val,β,fun k=>V (c+k),⟨cs,getC,hc2,fun k hk=>?_⟩,fun k hk=>⟨?_,H.born k hk,fun b hβ hb hnb=>getNew k hk b hβ (by rw [vEnd_size] at hb;exact hb) hnb⟩,fun k k' hk hk' hne b hβ hb=>?_,fun k hk=>?_⟩
  ·show v₁.drawn≤w.drawn;rw [← hU.drawn,← hwt.2.2.2];exact hwr.2.2.2
  ·have:=H.has k hk (by rw [hq k hk];omega);simpa [Has,World.cell?,hc1] using this
  ·obtain ⟨g,_,hs⟩:=H.wk k hk;have h1:=hq k hk;generalize D k=d at hs h1;generalize PH k=p at hs;generalize TR k=T at hs;cases hs with
   | v _=>simp at h1
   | r _ _=>simp at h1
   | l _ _ h=>exact h
  ·exact H.mine k hk _ (hpart k' hk') (by omega) b hβ (by rw [vEnd_size] at hb;exact hb)
  rw [vEnd_size];exact (H.und _ (hpart k hk)).size.symm
 refine hTM _ br _ hE _ (.refl _) gs w sl t _ _ ⟨hg0,Q9y H hq,past_of H hA hd,U2,fun l hl=>?_,fun b hb=>?_⟩
 ·rcases hl with hl|⟨a,rfl,ha⟩
  ·obtain ⟨a,e,hb⟩:=hs l hl;have h1:=blk_lt hb;refine ⟨a,e,?_⟩;obtain ⟨e',he⟩:=id hb;exact ⟨e',(getOld _ h1 (fun e=>PayAt.notBlk hC (e ▸ hb))).trans he⟩
  exact ⟨a,rfl,0,by rw [ha];exact getWg⟩
 obtain ⟨h1,h2⟩:=hk b hb;have h3:=shut_lt h1
 by_cases hbC:b=C
 ·subst hbC;obtain ⟨cs',h4,h5⟩:=hC;obtain ⟨c',e',f',h6,h7⟩:=h1;rw [h4] at h6;simp only [Option.some.injEq,Obj.cells.injEq] at h6;obtain ⟨rfl,rfl,rfl⟩:=h6;have hn0:cs'.size=0:=Nat.eq_zero_of_not_pos fun h=>by have:=h7 0 h;simp at this
  obtain ⟨ow,h8,h9⟩:=hU.blk _ _ h4;have e1:cs' = #[]:=Array.eq_empty_of_size_eq_zero hn0;have e2:cs = #[]:=Array.eq_empty_of_size_eq_zero (by omega);subst e1 e2;refine ⟨⟨#[],_,_,getC,fun i hi=>by simp at hi⟩,?_⟩;rw [hc1,← h2,h8];cases h9 with
  | cells hf=>rcases hf with rfl|hf;rfl;exact absurd hf.1 (by simp)
  | same h=>exact absurd rfl (h _ _ _)
 refine ⟨?_,(same b h3 hbC).trans h2⟩;obtain ⟨c',e',f',h6,h7⟩:=h1;exact ⟨c',e',f',(getOld b h3 hbC).trans h6,h7⟩
end
end Go.Vc.Ph
