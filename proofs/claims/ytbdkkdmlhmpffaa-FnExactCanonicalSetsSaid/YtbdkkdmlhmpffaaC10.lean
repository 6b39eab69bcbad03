/- A part of the proof: a verified generator of conditions, and what each function of the program does. -/
import Derived.Test.YtbdkkdmlhmpffaaC9
set_option maxRecDepth 100000
set_option maxHeartbeats 4000000
set_option linter.unusedSimpArgs false
set_option linter.unusedVariables false
set_option linter.unusedSectionVars false
set_option linter.unnecessarySimpa false

namespace Go.Vc.Ph
open Go Go.Conc Go.Vc.Wg
open Go.ConcN (WD Mode CTag phi pend isOpen isW3 isFin Vc Ssum Fsum cnt WSit WgLive PayAt Has RW AtR0 DWs RelBy sumTo upd upd_same upd_ne ShN)
open Go.ConcR (KK WgAt stA smA rd wr mk Payload DC0)
open Go.ConcX (OfWg)
def blankO:Obj:=.cells #[] 0 (1,0)
def ext (v w:World):World:={ v with heap:=v.heap++Array.replicate (w.heap.size - v.heap.size) blankO,drawn:=w.drawn }
theorem ext_old {v w:World} {b:Nat} (h:b<v.heap.size):(ext v w).heap[b]? = v.heap[b]?:=by simp [ext,Array.getElem?_append,h]
theorem Q9G {v w:World} (h:v.heap.size≤w.heap.size):(ext v w).heap.size=w.heap.size:=by simp [ext];omega
theorem ext_new {v w:World} {b:Nat} (h:v.heap.size≤b) (hb:b<w.heap.size):(ext v w).heap[b]? = some blankO:=by
 simp [ext,Array.getElem?_append,Nat.not_lt.2 h,Array.getElem?_replicate];omega
theorem _root_.Go.Vc.Under.ext {v w w':World} (U:Under v w) (h:w.heap.size≤w'.heap.size) (ht:w'.tape=w.tape) (ho:w'.os=w.os) (hp:w'.output=w.output) (hk:∀ b,b<w.heap.size→¬ Blk v b→w'.heap[b]? = w.heap[b]?):Under (ext v w') w':=by
 have hs:v.heap.size≤w'.heap.size:=by rw [← U.size];exact h
 refine ⟨(Q9G hs).symm,fun b ov hb=>?_,ht.trans U.tape,rfl,ho.trans U.os,hp.trans U.output⟩;rcases Nat.lt_or_ge b v.heap.size with hlt|hge
 ·rw [ext_old hlt] at hb
  by_cases hbl:Blk v b
  ·obtain ⟨e,hbl⟩:=hbl;rw [hb] at hbl;cases hbl;exact ⟨_,Array.getElem?_eq_getElem (by omega),.blank⟩
  obtain ⟨ow,h1,h2⟩:=U.blk b ov hb;exact ⟨ow,(hk b (by rw [U.size];exact hlt) hbl).trans h1,h2⟩
 have hlt:b<w'.heap.size:=by
  rw [← Q9G hs];exact (Array.getElem?_eq_some_iff.1 hb).1
 rw [ext_new hge hlt] at hb;cases hb;exact ⟨_,Array.getElem?_eq_getElem hlt,.blank⟩
def frzO:Obj→Obj
 | .cells c e f=>.cells c e (if c.size=0 then f else (0,c.size))
 | _=>blankO
def frz (v:World):World:={ v with heap:=v.heap.map frzO }
theorem Q3K (v:World) (b:Nat):(frz v).heap[b]? = v.heap[b]?.map frzO:=by simp [frz]
theorem frz_size (v:World):(frz v).heap.size=v.heap.size:=by simp [frz]
theorem frz_blk {v:World} {b:Nat} (h:Blk v b):Blk (frz v) b:=by
 obtain ⟨e,h⟩:=h;exact ⟨e,by rw [Q3K,h];rfl⟩
theorem frz_shut {v:World} {b:Nat} (h:b<v.heap.size):Shut (frz v) b:=by
 have hg:=Array.getElem?_eq_getElem h;cases ho:v.heap[b] with
 | cells c e f=>exact ⟨c,e,if c.size=0 then f else (0,c.size),by rw [Q3K,hg,ho];rfl,fun i hi=>by rw [if_neg (by omega)];exact ⟨Nat.zero_le _,hi⟩⟩
 | _=>exact ⟨#[],0,(1,0),by rw [Q3K,hg,ho];rfl,fun i hi=>by simp at hi⟩
theorem _root_.Go.Vc.Under.frz {v w:World} (U:Under v w):Under (frz v) w:=by
 refine ⟨by rw [frz_size];exact U.size,fun b ov hb=>?_,U.tape,U.drawn,U.os,U.output⟩;rw [Q3K] at hb;obtain ⟨o,ho,rfl⟩:=Option.map_eq_some_iff.1 hb;obtain ⟨ow,h1,h2⟩:=U.blk b o ho;refine ⟨ow,h1,?_⟩;cases o with
 | cells c e f =>
  cases h2 with
  | blank=>exact .blank
  | cells hf =>
   refine .cells ?_;split
   ·rename_i h0;exact hf.imp id fun q=>absurd q.1 (by omega)
   exact .inr ⟨by omega,fun i hi=>⟨Nat.zero_le _,hi⟩⟩
  | same q=>exact absurd rfl (q _ _ _)
 | _=>exact .blank
theorem _root_.Go.Vc.Rly.frz {v v₁:World} (r:Rly v v₁):Rly (frz v) (frz v₁) :=
 ⟨by simp only [frz_size];exact r.size,fun b hb=>by rw [frz_size] at hb;rw [Q3K,Q3K,r.old b hb],fun b h1 h2=>by rw [frz_size] at h1 h2;exact frz_blk (r.new b h1 h2),r.tape,r.drawn,r.os,r.output⟩
variable [PS]
section
variable (P:Program) (ty:TypeId) (Wg C n:Nat) (K:Nat→Nat→Value→World→Prop) (Anch:Goroutine→World→Prop) (E1:Goroutine→Prop)
def OwnC (C k:Nat) (l:Loc):Prop:=l = .cell ⟨C,k - 1,none⟩
def NoRd (_:Nat) (_:Loc):Prop:=False
def StopW (β k:Nat) (g:Goroutine) (v:World):Prop :=
 g.status = .running∧(k<n∧k<PS.z)∧∃ val g₁,K β k val v∧(∀ w,Under v w→PayAt C PS.z w→stepG P false g w = .go g₁ (w.setCell ⟨C,k,none⟩ val) #[⟨.cell ⟨C,k,none⟩,true,false⟩]) ∧
  ∀ w,WgLive ty Wg w→Has C k val w→∃ m,Goes P false (RW ty Wg C PS.z 0 k) DC0 (AtR0 P ty Wg C PS.z 0 (k+1) val) m g₁ w
def AtGo (r:Nat) (Nx:Goroutine→World→Prop) (g:Goroutine) (v:World):Prop :=
 g.status = .running∧∃ g' child,(∀ w,Under v w→stepG P true g w = .spawn g' child w #[])∧child.status = .running ∧
  (∃ T,GoesR P false (StopW P ty Wg C n K v.heap.size (n - (r+1))) T child (frz v))∧∃ T,GoesR P true Nx T g' (frz v)
def Is (g₁:Goroutine) (g:Goroutine) (_:World):Prop:=g=g₁∧g.status = .running
def IsE (E:Goroutine→Prop) (g:Goroutine) (_:World):Prop:=E g∧g.status = .running
def Scr:Nat→Goroutine→World→Prop
 | 0,g,v=>g.status = .running∧∀ w,Under v w→WgLive ty Wg w→∃ m,GP P ty Wg (AtMk P ty Wg (mk .disable) Anch) m g w
 | r+1,g,v=>g.status = .running∧∃ g₁ T,(∀ w,Under v w→WgLive ty Wg w→∃ m,GP P ty Wg (AtMk P ty Wg (mk .disable) (AtAdd P ty Wg (Is g₁))) m g w)∧GoesR P true (AtGo P ty Wg C n K r (Scr r)) T g₁ v
inductive CS:CTag→Nat→Nat→Tree→Nat→Nat→Goroutine→World→World→Prop
 | v {r T g v w}:r≤n→GoesR P true (Scr P ty Wg C n K Anch r) T g v→CS (.sp r 6) 0 (n - r) T 0 0 g v w
 | s5 {r g₁ T m g v w}:r<n→GP P ty Wg (AtMk P ty Wg (mk .disable) (AtAdd P ty Wg (Is g₁))) m g w→GoesR P true (AtGo P ty Wg C n K r (Scr P ty Wg C n K Anch r)) T g₁ v→CS (.sp (r+1) 5) 0 (n - (r+1)) T m 0 g v w
 | s4 {r g₁ T m g v w}:r<n→GP P ty Wg (AtAdd P ty Wg (Is g₁)) m g w→GoesR P true (AtGo P ty Wg C n K r (Scr P ty Wg C n K Anch r)) T g₁ v→CS (.sp (r+1) 4) 0 (n - (r+1)) T m 1 g v w
 | s3 {r g₁ T m g v w}:r<n→GP P ty Wg (AtMk P ty Wg (saidR Wg) (AtMk P ty Wg (mk .enable) (Is g₁))) m g w→GoesR P true (AtGo P ty Wg C n K r (Scr P ty Wg C n K Anch r)) T g₁ v→CS (.sp (r+1) 3) 0 (n - (r+1)) T m 1 g v w
 | s2 {r g₁ T m g v w}:r<n→GP P ty Wg (AtMk P ty Wg (mk .enable) (Is g₁)) m g w→GoesR P true (AtGo P ty Wg C n K r (Scr P ty Wg C n K Anch r)) T g₁ v→CS (.sp (r+1) 2) 0 (n - (r+1)) T m 1 g v w
 | s1 {r g₁ T m g v w}:r<n→GP P ty Wg (Is g₁) m g w→GoesR P true (AtGo P ty Wg C n K r (Scr P ty Wg C n K Anch r)) T g₁ v→CS (.sp (r+1) 1) 0 (n - (r+1)) T m 0 g v w
 | go {r T g v w}:r<n→GoesR P true (AtGo P ty Wg C n K r (Scr P ty Wg C n K Anch r)) T g v→CS (.sp (r+1) 0) 0 (n - (r+1)) T 0 0 g v w
 | kd {T m g v w}:GP P ty Wg (AtMk P ty Wg (mk .disable) Anch) m g w→CS .kd 0 n T m 0 g v w
 | anch {T m g v w}:GP P ty Wg Anch m g w→CS .anch 0 n T m 1 g v w
 | w1 {T m g v w}:GP P ty Wg (AtW1 P ty Wg Anch (IsE E1)) m g w→CS .w1 0 n T m 1 g v w
 | w2 {vs T m g v w}:GP P ty Wg (AtW2 P ty Wg Anch (IsE E1) vs) m g w→CS (.w2 vs) 0 n T m 1 g v w
 | sw {T m g v w}:GP P ty Wg (AtMk P ty Wg (saidW Wg) (AtW3 P ty Wg (IsE E1))) m g w→CS .w3 1 n T m 1 g v w
 | w3 {T m g v w}:GP P ty Wg (AtW3 P ty Wg (IsE E1)) m g w→CS .w3 0 n T (m+1) 1 g v w
 | blk {T g v w}:(∀ w₁,RL ty Wg w w₁→AtW3 P ty Wg (IsE E1) g w₁)→CS .blk 0 n T 0 1 { g with status:=.blocked } v w
 | w4 {T m g v w}:GP P ty Wg (AtW4 P ty Wg (IsE E1)) m g w→CS .w4 0 n T m 1 g v w
 | ke {T m g v w}:GP P ty Wg (AtMk P ty Wg (mk .enable) (AtMk P ty Wg (mk (.acquire (stA Wg))) (IsE E1))) m g w→CS .ke 0 n T m 1 g v w
 | acq {T m g v w}:GP P ty Wg (AtMk P ty Wg (mk (.acquire (stA Wg))) (IsE E1)) m g w→CS .acq 0 n T m 0 g v w
 | ret {T m g v w}:GP P ty Wg (IsE E1) m g w→CS .ret 0 n T m 0 g v w
inductive WS (β k:Nat):WD→Nat→Tree→Value→Goroutine→World→World→Prop
 | v {T val g v w}:GoesR P false (StopW P ty Wg C n K β k) T g v→WS β k ⟨7,0,0⟩ 1 T val g v w
 | r {m T val g v w}:Goes P false (RW ty Wg C PS.z 0 k) DC0 (AtR0 P ty Wg C PS.z 0 (k+1) val) m g w→K β k val v→WS β k ⟨7,m,0⟩ 0 T val g v w
 | l {s m d T val g v w}:s≤6→WSit P ty Wg C PS.z (OwnC C) NoRd 0 (k+1) val s m d g w→K β k val v→WS β k ⟨s,m,d⟩ 0 T val g v w
end
section
variable {P:Program} {ty:TypeId} {Wg C n:Nat} {K:Nat→Nat→Value→World→Prop} {Anch:Goroutine→World→Prop} {E1:Goroutine→Prop}
theorem gpr {Next:Goroutine→World→Prop} {m:Nat} {g:Goroutine} {w w₁:World} (h:GP P ty Wg Next m g w) (hr:RL ty Wg w w₁):GP P ty Wg Next m g w₁:=Goes.rely RL.trans h hr
theorem CS.move {tag:CTag} {x j:Nat} {T:Tree} {f d:Nat} {g:Goroutine} {v w v' w':World} (h:CS P ty Wg C n K Anch E1 tag x j T f d g v w) (hv:Rly v v') (hw:RL ty Wg w w'):CS P ty Wg C n K Anch E1 tag x j T f d g v' w':=by
 cases h with
 | v h1 h2=>exact .v h1 (h2.rly hv)
 | s5 h1 h2 h3=>exact .s5 h1 (gpr h2 hw) (h3.rly hv)
 | s4 h1 h2 h3=>exact .s4 h1 (gpr h2 hw) (h3.rly hv)
 | s3 h1 h2 h3=>exact .s3 h1 (gpr h2 hw) (h3.rly hv)
 | s2 h1 h2 h3=>exact .s2 h1 (gpr h2 hw) (h3.rly hv)
 | s1 h1 h2 h3=>exact .s1 h1 (gpr h2 hw) (h3.rly hv)
 | go h1 h2=>exact .go h1 (h2.rly hv)
 | kd h=>exact .kd (gpr h hw)
 | anch h=>exact .anch (gpr h hw)
 | w1 h=>exact .w1 (gpr h hw)
 | w2 h=>exact .w2 (gpr h hw)
 | sw h=>exact .sw (gpr h hw)
 | w3 h=>exact .w3 (gpr h hw)
 | blk h=>exact .blk fun w₁ r=>h w₁ (RL.trans _ _ _ hw r)
 | w4 h=>exact .w4 (gpr h hw)
 | ke h=>exact .ke (gpr h hw)
 | acq h=>exact .acq (gpr h hw)
 | ret h=>exact .ret (gpr h hw)
theorem WS.move (hK:∀ β k val v v',Rly v v'→K β k val v→K β k val v') {β k:Nat} {d:WD} {p:Nat} {T:Tree} {val:Value} {g:Goroutine} {v w v' w':World} (h:WS P ty Wg C n K β k d p T val g v w) (hv:Rly v v')
  (hw:RW ty Wg C PS.z 0 k w w'):WS P ty Wg C n K β k d p T val g v' w':=by
 cases h with
 | v h=>exact .v (h.rly hv)
 | r h1 h2=>exact .r (Goes.rely (fun _ _ _ a b=>a.trans b) h1 hw) (hK _ _ _ _ _ hv h2)
 | l h0 h1 h2=>exact .l h0 (h1.rely (by simpa using hw)) (hK _ _ _ _ _ hv h2)
end
end Go.Vc.Ph
namespace Go.Vc.Ph
open Go Go.Conc Go.Vc.Wg
open Go.ConcN (WD Mode CTag phi pend isOpen isW3 isFin Vc Ssum Fsum cnt WSit WgLive PayAt Has RW AtR0 DWs RelBy sumTo upd upd_same upd_ne ShN get_map_set get_map_set_same)
open Go.ConcR (KK WgAt stA smA rd wr mk Payload DC0 g_of_ofEvents)
open Go.ConcX (OfWg)
variable [PS]
section
variable (P:Program) (ty:TypeId) (Wg C n:Nat) (K:Nat→Nat→Value→World→Prop) (c Be:Nat) (we:World) (Shun:Loc→Prop)
structure Core (gs:Array Goroutine) (w:World) (t:Trace) (j:Nat) (D:Nat→WD) (PH:Nat→Nat) (TR:Nat→Tree) (val:Nat→Value) (V:Nat→World) (q:Nat→Nat) (β:Nat→Nat):Prop where
 size:gs.size=c+j
 old:∀ i g,0<i→i<c→gs[i]? = some g→QuitsD P (q i) (Deaf t i) g
 above:∀ i,c+j≤i→Deaf t i=0
 wk:∀ k,k<j→∃ g,gs[c+k]? = some g∧WS P ty Wg C n K (β k) k (D k) (PH k) (TR k) (val k) g (V (c+k)) w
 deafW:∀ k,k<j→Deaf t (c+k)=(D k).deaf
 und:∀ g,Part c j g→Under (V g) w
 apart:Apart c j V w.heap.size
 wgc:∀ g,Part c j g→Blk (V g) Wg∧Blk (V g) C
 base:∀ g,Part c j g→∀ b,b<Be→Shut (V g) b
 same:∀ b,b<Be→b ≠ Wg→b ≠ C→w.heap[b]? = we.heap[b]?
 big:Be≤w.heap.size
 trc:Trc Wg C c j Shun V w.heap.size t
 rel:∀ k,k<j→(D k).stage≤6→∃ r,RelC Wg t (c+k) r
 has:∀ k,k<j→(D k).stage≤6→Has C k (val k) w
 pay:PayAt C PS.z w
 mine:∀ k,k<j→∀ g,Part c j g→g ≠ c+k→∀ b,β k≤b→b<w.heap.size→Blk (V (c+k)) b∨Blk (V g) b
 born:∀ k,k<j→Be≤β k
 rest:w.tape=we.tape∧w.os=we.os∧w.output=we.output∧we.drawn≤w.drawn
structure Lie:Prop where
 c0:0<c
 cw:C ≠ Wg
 cB:C<Be
 wB:Wg<Be
 K:∀ β k val v v',Rly v v'→K β k val v→K β k val v'
end
section
variable {P:Program} {ty:TypeId} {Wg C n:Nat} {K:Nat→Nat→Value→World→Prop} {c Be:Nat} {we:World} {Shun:Loc→Prop}
 {gs:Array Goroutine} {w w':World} {t:Trace} {j:Nat} {D D':Nat→WD} {PH PH':Nat→Nat} {TR TR':Nat→Tree} {val val':Nat→Value} {V:Nat→World} {q β:Nat→Nat}
end
end Go.Vc.Ph
namespace Go.Vc.Ph
open Go Go.Conc Go.Vc.Wg
open Go.ConcN (WD Mode CTag phi pend isOpen isW3 isFin Vc Ssum Fsum cnt WSit WgLive PayAt Has RW AtR0 DWs RelBy sumTo upd upd_same upd_ne ShN get_map_set get_map_set_same deafBehind_idle)
open Go.ConcR (KK WgAt stA smA rd wr mk Payload DC0 g_of_ofEvents)
open Go.ConcX (OfWg)
variable [PS]
section
variable {P:Program} {ty:TypeId} {Wg C n:Nat} {K:Nat→Nat→Value→World→Prop} {c Be:Nat} {we:World} {Shun:Loc→Prop}
 {gs:Array Goroutine} {w w':World} {t:Trace} {j:Nat} {D D':Nat→WD} {PH PH':Nat→Nat} {TR TR':Nat→Tree} {val val':Nat→Value} {V:Nat→World} {q β:Nat→Nat}
theorem Core.at (G:Lie Wg C K c Be) (H:Core P ty Wg C n K c Be we Shun gs w t j D PH TR val V q β) {d:Nat} (hd:w.drawn≤d):Core P ty Wg C n K c Be we Shun gs (w.at d) t j D PH TR val (fun i=>(V i).at d) q β :=
 ⟨H.size,H.old,H.above,fun k hk=>by
  obtain ⟨g,hg,hs⟩:=H.wk k hk;exact ⟨g,hg,hs.move G.K (.at (by rw [← (H.und _ (.inr ⟨by omega,by omega⟩)).drawn];exact hd)) ⟨fun _ _ _ _=>rfl,id,id,rfl⟩⟩,H.deafW,fun i hi=>(H.und i hi).at d,H.apart,H.wgc,H.base,H.same,H.big,
  ⟨H.trc.nr,H.trc.low,H.trc.vis,H.trc.wg,H.trc.cell,H.trc.rest,H.trc.past,H.trc.over,H.trc.norel⟩,H.rel,H.has,H.pay,H.mine,H.born,H.rest.1,H.rest.2.1,H.rest.2.2.1,Nat.le_trans H.rest.2.2.2 hd⟩
end
end Go.Vc.Ph
namespace Go.Vc.Ph
open Go Go.Conc Go.Vc.Wg
open Go.ConcN (WD Mode CTag phi pend isOpen isW3 isFin Vc Ssum Fsum cnt WSit WgLive PayAt Has RW AtR0 DWs RelBy sumTo upd upd_same upd_ne ShN get_map_set get_map_set_same deafBehind_idle phi_mono phi_retag Vc_upd sumTo_upd sumTo_congr OpenSt AllQuit others_uncounted le_sumTo bk_cell)
open Go.ConcR (KK WgAt stA smA rd wr mk Payload DC0 g_of_ofEvents Bk bk_of_mute ofEvent_loc_mark ofEvent_cell again_blocked)
open Go.ConcX (OfWg)
variable [PS]
abbrev Mu:=(Nat × List Tree) × Nat
def Lt:Mu→Mu→Prop:=Prod.Lex MLt (· < ·)
theorem Lt.wf:WellFounded Lt:=(Prod.lex ⟨MLt,MLt.wf⟩ Nat.lt_wfRel).wf
theorem Lt.a {a a':Nat} {b b':List Tree} {c c':Nat} (h:a' < a):Lt ((a',b'),c') ((a,b),c):=Prod.Lex.left _ _ (.inl h)
theorem Lt.b {a a':Nat} {b b':List Tree} {c c':Nat} (e:a'=a) (h:LSub b' b):Lt ((a',b'),c') ((a,b),c):=Prod.Lex.left _ _ (.inr ⟨e,h⟩)
theorem Lt.c {a a':Nat} {b b':List Tree} {c c':Nat} (e:a'=a) (e':b'=b) (h:c' < c):Lt ((a',b'),c') ((a,b),c):=by subst e e';exact Prod.Lex.right _ h
def AcqC (Wg c j:Nat) (t:Trace):Prop:=∃ q,t.act? q=some (.mark (.acquire (stA Wg)))∧t.g? q=some 0∧t.heard q∧∀ k,k<j→∃ r,RelC Wg t (c+k) r∧r<q
omit [PS] in
theorem AcqC.app {Wg c j:Nat} {t u:Trace} (h:AcqC Wg c j t) (hu:∀ k r,k<j→RelC Wg t (c+k) r→RelC Wg (t++u) (c+k) r):AcqC Wg c j (t++u):=by
 obtain ⟨q,h1,h2,h3,h4⟩:=h;have hq:=lt_of_act? h1;exact ⟨q,by rw [act?_old hq];exact h1,by rw [g?_old hq];exact h2,(heard_old hq).2 h3,fun k hk=>let ⟨r,hr,hrq⟩:=h4 k hk;⟨r,hu k r hk hr,hrq⟩⟩
section
variable (P:Program) (ty:TypeId) (Wg C n:Nat) (K:Nat→Nat→Value→World→Prop) (Anch:Goroutine→World→Prop) (E1:Goroutine→Prop) (c Be:Nat) (we:World) (Shun:Loc→Prop)
def mu (n:Nat) (tag:CTag) (x:Nat) (T:Tree) (f0:Nat) (c j:Nat) (D:Nat→WD) (PH:Nat→Nat) (TR:Nat→Tree) (q:Nat→Nat):Mu :=
 ((phi n (Vc j D) tag+x+Ssum j D+sumTo j PH,T :: (List.range j).map TR),f0+2 * Fsum j D+2 * sumTo c q)
def Inv (μ:Mu) (m:Machine) (t:Trace):Prop :=
 ∃ (gs:Array Goroutine) (w:World) (sl:Option (Nat × Nat)) (j:Nat) (D:Nat→WD) (PH:Nat→Nat) (TR:Nat→Tree) (val:Nat→Value) (V:Nat→World) (q β:Nat→Nat) (tag:CTag) (x:Nat) (T:Tree) (f0 d0:Nat) (a:Goroutine) (st sm:Int),
  m=crowd gs w sl∧gs[0]? = some a∧CS P ty Wg C n K Anch E1 tag x j T f0 d0 a (V 0) w∧Core P ty Wg C n K c Be we Shun gs w t j D PH TR val V q β∧WgAt ty Wg w st sm∧Go.ConcN.Mode j D tag st sm∧Deaf t 0=d0∧(tag = .ret→AcqC Wg c j t) ∧
   μ=mu n tag x T f0 c j D PH TR q
end
section
variable {P:Program} {ty:TypeId} {Wg C n:Nat} {K:Nat→Nat→Value→World→Prop} {Anch:Goroutine→World→Prop} {E1:Goroutine→Prop} {c Be:Nat} {we:World} {Shun:Loc→Prop}
 {gs:Array Goroutine} {w w':World} {sl:Option (Nat × Nat)} {t:Trace} {j:Nat} {D D':Nat→WD} {PH PH':Nat→Nat} {TR TR':Nat→Tree} {val val':Nat→Value} {V V':Nat→World} {q β:Nat→Nat}
 {tag:CTag} {x:Nat} {T:Tree} {f0 d0:Nat} {a:Goroutine} {st sm:Int}
end
end Go.Vc.Ph
