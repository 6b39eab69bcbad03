/- A part of the proof. -/
import Derived.Test.YtghefemofbipnaaGreatX9
set_option maxRecDepth 100000
set_option maxHeartbeats 4000000
set_option linter.unusedSimpArgs false
set_option linter.unusedVariables false
set_option linter.unusedSectionVars false
set_option linter.unnecessarySimpa false

open Option.some renaming injEq→qA
open Array renaming getElem?_eq_getElem→zA
open Nat renaming lt_of_lt_of_le→qD
open Nat renaming lt_or_ge→zB
open Array renaming getElem?_setIfInBounds_ne→qE
namespace Go.Vc.Ph
open Go Go.Conc Go.Vc.Wg
open Go.ConcN (WD Mode CTag phi pend isOpen isW3 isFin Vc Ssum Fsum cnt WSit WgLive PayAt Has RW AtR0 DWs RelBy sumTo upd upd_same upd_ne ShN)
open Go.ConcR (KK WgAt stA smA rd wr mk Payload DC0)
open Go.ConcX (OfWg)
def Q1W:Obj:=.cells #[] 0 (1,0)
def ext (v w:World):World:={ v with heap:=v.heap++Array.replicate (w.heap.size - v.heap.size) Q1W,drawn:=w.drawn }
theorem Q6u {v w:World} {b:Nat} (h:b<v.heap.size):(ext v w).heap[b]? = v.heap[b]?:=by simp [ext,Array.getElem?_append,h]
theorem Q25 {v w:World} (h:v.heap.size≤w.heap.size):(ext v w).heap.size=w.heap.size:=by simp [ext];omega
theorem ext_new {v w:World} {b:Nat} (h:v.heap.size≤b) (hb:b<w.heap.size):(ext v w).heap[b]? = some Q1W:=by
 simp [ext,Array.getElem?_append,Nat.not_lt.2 h,Array.getElem?_replicate];omega
theorem ext_blk {v w:World} {b:Nat} (h:b<v.heap.size):Blk (ext v w) b↔Blk v b:=by simp only [Blk,Q6u h]
theorem ext_shut {v w:World} {b:Nat} (h:b<v.heap.size):Shut (ext v w) b↔Shut v b:=by simp only [Shut,Q6u h]
theorem Q7W {v w:World} (h:v.heap.size≤w.heap.size) (d:v.drawn≤w.drawn):Rly v (ext v w) :=
 ⟨by rw [Q25 h];exact h,fun b hb=>Q6u hb,fun b h1 h2=>⟨_,ext_new h1 (by rwa [Q25 h] at h2)⟩,rfl,d,rfl,rfl⟩
theorem _root_.Go.Vc.Under.ext {v w w':World} (U:Under v w) (h:w.heap.size≤w'.heap.size) (ht:w'.tape=w.tape) (ho:w'.os=w.os) (hp:w'.output=w.output) (hk:∀ b,b<w.heap.size→¬ Blk v b→w'.heap[b]? = w.heap[b]?):Under (ext v w') w':=by
 have hs:v.heap.size≤w'.heap.size:=by rw [← U.size];exact h
 refine ⟨(Q25 hs).symm,fun b ov hb=>?_,ht.trans U.tape,rfl,ho.trans U.os,hp.trans U.output⟩;rcases zB b v.heap.size with hlt|hge
 ·rw [Q6u hlt] at hb
  by_cases hbl:Blk v b
  ·obtain ⟨e,hbl⟩:=hbl;rw [hb] at hbl;cases hbl;exact ⟨_,zA (by omega),.blank⟩
  obtain ⟨ow,h1,h2⟩:=U.blk b ov hb;exact ⟨ow,(hk b (by rw [U.size];exact hlt) hbl).trans h1,h2⟩
 have hlt:b<w'.heap.size:=by
  rw [← Q25 hs];exact (Array.getElem?_eq_some_iff.1 hb).1
 rw [ext_new hge hlt] at hb;cases hb;exact ⟨_,zA hlt,.blank⟩
def frzO:Obj→Obj
 | .cells c e f=>.cells c e (if c.size=0 then f else (0,c.size))
 | _=>Q1W
def frz (v:World):World:={ v with heap:=v.heap.map frzO }
theorem Q2e (v:World) (b:Nat):(frz v).heap[b]? = v.heap[b]?.map frzO:=by simp [frz]
theorem frz_size (v:World):(frz v).heap.size=v.heap.size:=by simp [frz]
theorem Q3G {v:World} {b:Nat} (h:Blk v b):Blk (frz v) b:=by
 obtain ⟨e,h⟩:=h;exact ⟨e,by rw [Q2e,h];rfl⟩
theorem Q6w {v:World} {b:Nat} (h:b<v.heap.size):Shut (frz v) b:=by
 have hg:=zA h;cases ho:v.heap[b] with
 | cells c e f=>exact ⟨c,e,if c.size=0 then f else (0,c.size),by rw [Q2e,hg,ho];rfl,fun i hi=>by rw [if_neg (by omega)];exact ⟨Nat.zero_le _,hi⟩⟩
 | _=>exact ⟨#[],0,(1,0),by rw [Q2e,hg,ho];rfl,fun i hi=>by simp at hi⟩
theorem _root_.Go.Vc.Under.frz {v w:World} (U:Under v w):Under (frz v) w:=by
 refine ⟨by rw [frz_size];exact U.size,fun b ov hb=>?_,U.tape,U.drawn,U.os,U.output⟩;rw [Q2e] at hb;obtain ⟨o,ho,rfl⟩:=Option.map_eq_some_iff.1 hb;obtain ⟨ow,h1,h2⟩:=U.blk b o ho;refine ⟨ow,h1,?_⟩;cases o with
 | cells c e f =>
  cases h2 with
  | blank=>exact .blank
  | cells hf =>
   refine .cells ?_;split
   ·rename_i h0;exact hf.imp id fun q=>absurd q.1 (by omega)
   exact .inr ⟨by omega,fun i hi=>⟨Nat.zero_le _,hi⟩⟩
  | same q=>exact absurd rfl (q _ _ _)
 | _=>exact .blank
variable [PS]
section
variable (P:Program) (ty:TypeId) (Wg C n:Nat) (K:Nat→Nat→Value→World→Prop) (Anch:Goroutine→World→Prop) (E1:Goroutine→Prop)
def OwnC (C k:Nat) (l:Loc):Prop:=l = .cell ⟨C,k - 1,none⟩
def NoRd (_:Nat) (_:Loc):Prop:=False
def Q5P (β k:Nat) (g:Goroutine) (v:World):Prop :=
 g.status = .running∧(k<n∧k<PS.z)∧∃ val g₁,K β k val v∧(∀ w,Under v w→PayAt C PS.z w→stepG P false g w = .go g₁ (w.setCell ⟨C,k,none⟩ val) #[⟨.cell ⟨C,k,none⟩,true,false⟩]) ∧
  ∀ w,WgLive ty Wg w→Has C k val w→∃ m,Goes P false (RW ty Wg C PS.z 0 k) DC0 (AtR0 P ty Wg C PS.z 0 (k+1) val) m g₁ w
def AtGo (r:Nat) (Nx:Goroutine→World→Prop) (g:Goroutine) (v:World):Prop :=
 g.status = .running∧∃ g' child,(∀ w,Under v w→stepG P true g w = .spawn g' child w #[])∧child.status = .running ∧
  (∃ T,GoesR P false (Q5P P ty Wg C n K v.heap.size (n - (r+1))) T child (frz v))∧∃ T,GoesR P true Nx T g' (frz v)
def Is (g₁:Goroutine) (g:Goroutine) (_:World):Prop:=g=g₁∧g.status = .running
def IsE (E:Goroutine→Prop) (g:Goroutine) (_:World):Prop:=E g∧g.status = .running
def Scr:Nat→Goroutine→World→Prop
 | 0,g,v=>g.status = .running∧∀ w,Under v w→WgLive ty Wg w→∃ m,GP P ty Wg (AtMk P ty Wg (mk .disable) Anch) m g w
 | r+1,g,v=>g.status = .running∧∃ g₁ T,(∀ w,Under v w→WgLive ty Wg w→∃ m,GP P ty Wg (AtMk P ty Wg (mk .disable) (AtAdd P ty Wg (Is g₁))) m g w)∧GoesR P true (AtGo P ty Wg C n K r (Scr r)) T g₁ v
inductive CS:CTag→Nat→Nat→Tree→Nat→Nat→Goroutine→World→World→Prop
 | v {r T g v w}:r≤n→GoesR P true (Scr P ty Wg C n K Anch r) T g v→CS (.sp r 6) 0 (n - r) T 0 0 g v w
 | s5 {r g₁ T m g v w}:r<n→GP P ty Wg (AtMk P ty Wg (mk .disable) (AtAdd P ty Wg (Is g₁))) m g w→GoesR P true (AtGo P ty Wg C n K r (Scr P ty Wg C n K Anch r)) T g₁ v→CS (.sp (r+1) 5) 0 (n - (r+1)) T m 0 g v w
 | s4 {r g₁ T m g v w}:r<n→GP P ty Wg (AtAdd P ty Wg (Is g₁)) m g w→GoesR P true (AtGo P ty Wg C n K r (Scr P ty Wg C n K Anch r)) T g₁ v→CS (.sp (r+1) 4) 0 (n - (r+1)) T m 1 g v w
 | s3 {r g₁ T m g v w}:r<n→GP P ty Wg (AtMk P ty Wg (Q8i Wg) (AtMk P ty Wg (mk .enable) (Is g₁))) m g w→GoesR P true (AtGo P ty Wg C n K r (Scr P ty Wg C n K Anch r)) T g₁ v→CS (.sp (r+1) 3) 0 (n - (r+1)) T m 1 g v w
 | s2 {r g₁ T m g v w}:r<n→GP P ty Wg (AtMk P ty Wg (mk .enable) (Is g₁)) m g w→GoesR P true (AtGo P ty Wg C n K r (Scr P ty Wg C n K Anch r)) T g₁ v→CS (.sp (r+1) 2) 0 (n - (r+1)) T m 1 g v w
 | s1 {r g₁ T m g v w}:r<n→GP P ty Wg (Is g₁) m g w→GoesR P true (AtGo P ty Wg C n K r (Scr P ty Wg C n K Anch r)) T g₁ v→CS (.sp (r+1) 1) 0 (n - (r+1)) T m 0 g v w
 | go {r T g v w}:r<n→GoesR P true (AtGo P ty Wg C n K r (Scr P ty Wg C n K Anch r)) T g v→CS (.sp (r+1) 0) 0 (n - (r+1)) T 0 0 g v w
 | kd {T m g v w}:GP P ty Wg (AtMk P ty Wg (mk .disable) Anch) m g w→CS .kd 0 n T m 0 g v w
 | anch {T m g v w}:GP P ty Wg Anch m g w→CS .anch 0 n T m 1 g v w
 | w1 {T m g v w}:GP P ty Wg (AtW1 P ty Wg Anch (IsE E1)) m g w→CS .w1 0 n T m 1 g v w
 | w2 {vs T m g v w}:GP P ty Wg (AtW2 P ty Wg Anch (IsE E1) vs) m g w→CS (.w2 vs) 0 n T m 1 g v w
 | sw {T m g v w}:GP P ty Wg (AtMk P ty Wg (Q8j Wg) (AtW3 P ty Wg (IsE E1))) m g w→CS .w3 1 n T m 1 g v w
 | w3 {T m g v w}:GP P ty Wg (AtW3 P ty Wg (IsE E1)) m g w→CS .w3 0 n T (m+1) 1 g v w
 | blk {T g v w}:(∀ w₁,RL ty Wg w w₁→AtW3 P ty Wg (IsE E1) g w₁)→CS .blk 0 n T 0 1 { g with status:=.blocked } v w
 | w4 {T m g v w}:GP P ty Wg (AtW4 P ty Wg (IsE E1)) m g w→CS .w4 0 n T m 1 g v w
 | ke {T m g v w}:GP P ty Wg (AtMk P ty Wg (mk .enable) (AtMk P ty Wg (mk (.acquire (stA Wg))) (IsE E1))) m g w→CS .ke 0 n T m 1 g v w
 | acq {T m g v w}:GP P ty Wg (AtMk P ty Wg (mk (.acquire (stA Wg))) (IsE E1)) m g w→CS .acq 0 n T m 0 g v w
 | ret {T m g v w}:GP P ty Wg (IsE E1) m g w→CS .ret 0 n T m 0 g v w
inductive WS (β k:Nat):WD→Nat→Tree→Value→Goroutine→World→World→Prop
 | v {T val g v w}:GoesR P false (Q5P P ty Wg C n K β k) T g v→WS β k ⟨7,0,0⟩ 1 T val g v w
 | r {m T val g v w}:Goes P false (RW ty Wg C PS.z 0 k) DC0 (AtR0 P ty Wg C PS.z 0 (k+1) val) m g w→K β k val v→WS β k ⟨7,m,0⟩ 0 T val g v w
 | l {s m d T val g v w}:s≤6→WSit P ty Wg C PS.z (OwnC C) NoRd 0 (k+1) val s m d g w→K β k val v→WS β k ⟨s,m,d⟩ 0 T val g v w
end
section
variable {P:Program} {ty:TypeId} {Wg C n:Nat} {K:Nat→Nat→Value→World→Prop} {Anch:Goroutine→World→Prop} {E1:Goroutine→Prop}
theorem gpr {Next:Goroutine→World→Prop} {m:Nat} {g:Goroutine} {w w₁:World} (h:GP P ty Wg Next m g w) (hr:RL ty Wg w w₁):GP P ty Wg Next m g w₁:=Goes.rely RL.trans h hr
theorem CS.move {tag:CTag} {x j:Nat} {T:Tree} {f d:Nat} {g:Goroutine} {v w v' w':World} (h:CS P ty Wg C n K Anch E1 tag x j T f d g v w) (hv:Rly v v') (hw:RL ty Wg w w'):CS P ty Wg C n K Anch E1 tag x j T f d g v' w':=by
 cases h with
 | v h1 h2=>exact .v h1 (h2.rly hv)
 | s5 h1 h2 h3=>exact .s5 h1 (gpr h2 hw) (h3.rly hv)
 | s4 h1 h2 h3=>exact .s4 h1 (gpr h2 hw) (h3.rly hv)
 | s3 h1 h2 h3=>exact .s3 h1 (gpr h2 hw) (h3.rly hv)
 | s2 h1 h2 h3=>exact .s2 h1 (gpr h2 hw) (h3.rly hv)
 | s1 h1 h2 h3=>exact .s1 h1 (gpr h2 hw) (h3.rly hv)
 | go h1 h2=>exact .go h1 (h2.rly hv)
 | kd h=>exact .kd (gpr h hw)
 | anch h=>exact .anch (gpr h hw)
 | w1 h=>exact .w1 (gpr h hw)
 | w2 h=>exact .w2 (gpr h hw)
 | sw h=>exact .sw (gpr h hw)
 | w3 h=>exact .w3 (gpr h hw)
 | blk h=>exact .blk fun w₁ r=>h w₁ (RL.trans _ _ _ hw r)
 | w4 h=>exact .w4 (gpr h hw)
 | ke h=>exact .ke (gpr h hw)
 | acq h=>exact .acq (gpr h hw)
 | ret h=>exact .ret (gpr h hw)
theorem WS.move (hK:∀ β k val v v',Rly v v'→K β k val v→K β k val v') {β k:Nat} {d:WD} {p:Nat} {T:Tree} {val:Value} {g:Goroutine} {v w v' w':World} (h:WS P ty Wg C n K β k d p T val g v w) (hv:Rly v v')
  (hw:RW ty Wg C PS.z 0 k w w'):WS P ty Wg C n K β k d p T val g v' w':=by
 cases h with
 | v h=>exact .v (h.rly hv)
 | r h1 h2=>exact .r (Goes.rely (fun _ _ _ a b=>a.trans b) h1 hw) (hK _ _ _ _ _ hv h2)
 | l h0 h1 h2=>exact .l h0 (h1.rely (by simpa using hw)) (hK _ _ _ _ _ hv h2)
theorem _root_.Go.Vc.GoesR.running {mn:Bool} {Stop:Goroutine→World→Prop} {T:Tree} {g:Goroutine} {v:World} (hs:∀ g v,Stop g v→g.status = .running) (h:GoesR P mn Stop T g v):g.status = .running:=by
 cases T with
 | leaf=>exact hs _ _ (h v (.refl _))
 | node f =>
  rcases h with h|⟨h,_⟩
  ·exact hs _ _ (h v (.refl _))
  exact h
theorem WS.status {β k:Nat} {d:WD} {p:Nat} {T:Tree} {val:Value} {g:Goroutine} {v w:World} (h:WS P ty Wg C n K β k d p T val g v w):g.status = .running∨g.status = .finished:=by
 cases h with
 | v h=>exact .inl (h.running fun _ _ x=>x.1)
 | r h _=>exact .inl (Goes.running (fun _ _ x=>x.1) w (Go.ConcN.RW.refl w) h)
 | l _ h _=>exact h.status
theorem WS.woken {β k:Nat} {d:WD} {p:Nat} {T:Tree} {val:Value} {g:Goroutine} {v w:World} (h:WS P ty Wg C n K β k d p T val g v w) (a a':Goroutine) (w':World):woken P a a' w' g=g:=by
 unfold Go.Conc.woken;split
 ·exact again_running _ h.status
 rfl
theorem Q8k {r:Nat} {g:Goroutine} {v:World} (h:Scr P ty Wg C n K Anch r g v):g.status = .running:=by cases r<;>exact h.1
theorem CS.running (hA:∀ g w,Anch g w→g.status = .running) {tag:CTag} {x j:Nat} {T:Tree} {f d:Nat} {g:Goroutine} {v w:World} (h:CS P ty Wg C n K Anch E1 tag x j T f d g v w):g.status = .running∨tag = .blk∧g.status = .blocked:=by
 have rn:∀ {Next:Goroutine→World→Prop} {m:Nat},(∀ g w,Next g w→g.status = .running)→GP P ty Wg Next m g w→g.status = .running:=fun hs h=>Goes.running hs w (RL.refl w) h;cases h with
 | v _ h=>exact .inl (h.running fun _ _=>Q8k)
 | go _ h=>exact .inl (h.running fun _ _ x=>x.1)
 | s5 _ h _=>exact .inl (rn (fun _ _ x=>x.1) h)
 | s4 _ h _=>exact .inl (rn (fun _ _ x=>x.1) h)
 | s3 _ h _=>exact .inl (rn (fun _ _ x=>x.1) h)
 | s2 _ h _=>exact .inl (rn (fun _ _ x=>x.1) h)
 | s1 _ h _=>exact .inl (rn (fun _ _ x=>x.2) h)
 | kd h=>exact .inl (rn (fun _ _ x=>x.1) h)
 | anch h=>exact .inl (rn hA h)
 | w1 h=>exact .inl (rn (fun _ _ x=>x.1) h)
 | w2 h=>exact .inl (rn (fun _ _ x=>x.1) h)
 | sw h=>exact .inl (rn (fun _ _ x=>x.1) h)
 | w3 h=>exact .inl (rn (fun _ _ x=>x.1) h)
 | blk h=>exact .inr ⟨rfl,rfl⟩
 | w4 h=>exact .inl (rn (fun _ _ x=>x.1) h)
 | ke h=>exact .inl (rn (fun _ _ x=>x.1) h)
 | acq h=>exact .inl (rn (fun _ _ x=>x.1) h)
 | ret h=>exact .inl (rn (fun _ _ x=>x.2) h)
theorem CS.bound {tag:CTag} {x j:Nat} {T:Tree} {f d:Nat} {g:Goroutine} {v w:World} (h:CS P ty Wg C n K Anch E1 tag x j T f d g v w):j+pend tag≤n:=by
 cases h<;>simp only [pend]<;>(try simp)<;>omega
end
end Go.Vc.Ph
namespace Go.Vc.Ph
open Go Go.Conc Go.Vc.Wg
open Go.ConcN (WD Mode CTag phi pend isOpen isW3 isFin Vc Ssum Fsum cnt WSit WgLive PayAt Has RW AtR0 DWs RelBy sumTo upd upd_same upd_ne ShN get_map_set get_map_set_same)
open Go.ConcR (KK WgAt stA smA rd wr mk Payload DC0 g_of_ofEvents)
open Go.ConcX (OfWg)
variable [PS]
section
variable (P:Program) (ty:TypeId) (Wg C n:Nat) (K:Nat→Nat→Value→World→Prop) (c Be:Nat) (we:World) (Shun:Loc→Prop)
structure Core (gs:Array Goroutine) (w:World) (t:Trace) (j:Nat) (D:Nat→WD) (PH:Nat→Nat) (TR:Nat→Tree) (val:Nat→Value) (V:Nat→World) (q:Nat→Nat) (β:Nat→Nat):Prop where
 size:gs.size=c+j
 old:∀ i g,0<i→i<c→gs[i]? = some g→QuitsD P (q i) (Deaf t i) g
 above:∀ i,c+j≤i→Deaf t i=0
 wk:∀ k,k<j→∃ g,gs[c+k]? = some g∧WS P ty Wg C n K (β k) k (D k) (PH k) (TR k) (val k) g (V (c+k)) w
 deafW:∀ k,k<j→Deaf t (c+k)=(D k).deaf
 und:∀ g,Part c j g→Under (V g) w
 apart:Apart c j V w.heap.size
 wgc:∀ g,Part c j g→Blk (V g) Wg∧Blk (V g) C
 base:∀ g,Part c j g→∀ b,b<Be→Shut (V g) b
 same:∀ b,b<Be→b ≠ Wg→b ≠ C→w.heap[b]? = we.heap[b]?
 big:Be≤w.heap.size
 trc:Trc Wg C c j Shun V w.heap.size t
 rel:∀ k,k<j→(D k).stage≤6→∃ r,RelC Wg t (c+k) r
 has:∀ k,k<j→(D k).stage≤6→Has C k (val k) w
 pay:PayAt C PS.z w
 mine:∀ k,k<j→∀ g,Part c j g→g ≠ c+k→∀ b,β k≤b→b<w.heap.size→Blk (V (c+k)) b∨Blk (V g) b
 born:∀ k,k<j→Be≤β k
 rest:w.tape=we.tape∧w.os=we.os∧w.output=we.output∧we.drawn≤w.drawn
structure Lie:Prop where
 c0:0<c
 cw:C ≠ Wg
 cB:C<Be
 wB:Wg<Be
 K:∀ β k val v v',Rly v v'→K β k val v→K β k val v'
end
section
variable {P:Program} {ty:TypeId} {Wg C n:Nat} {K:Nat→Nat→Value→World→Prop} {c Be:Nat} {we:World} {Shun:Loc→Prop}
 {gs:Array Goroutine} {w w':World} {t:Trace} {j:Nat} {D D':Nat→WD} {PH PH':Nat→Nat} {TR TR':Nat→Tree} {val val':Nat→Value} {V:Nat→World} {q β:Nat→Nat}
theorem shut_lt {v:World} {b:Nat} (h:Shut v b):b<v.heap.size:=by
 obtain ⟨_,_,_,h,_⟩:=h;exact (Array.getElem?_eq_some_iff.1 h).1
theorem blk_lt {v:World} {b:Nat} (h:Blk v b):b<v.heap.size:=shut_lt h.shut
theorem Core.turn (G:Lie Wg C K c Be) (H:Core P ty Wg C n K c Be we Shun gs w t j D PH TR val V q β) {X:Nat} (hX:Part c j X) {g g':Goroutine} {es:Array Event} (hgX:gs[X]? = some g) {fn:FuncId} {pos:String}
  {vX:World} (U':Under vX w') (hmono:∀ b,b<w.heap.size→(Blk (V X) b→Blk vX b)∧(Shut (V X) b→Shut vX b))
  (hsz:w.heap.size≤w'.heap.size) (hrest:w'.tape=w.tape∧w'.os=w.os∧w'.output=w.output∧w.drawn≤w'.drawn)
  (hkeep:∀ b,b<w.heap.size→b ≠ Wg→b ≠ C→Shut (V X) b→w'.heap[b]? = w.heap[b]?)
  (hlive:WgLive ty Wg w') (hpay:PayAt C PS.z w') (hcell:∀ k,k<j→X ≠ c+k→w'.cell? ⟨C,k,none⟩=w.cell? ⟨C,k,none⟩)
  (hev:∀ e∈es,(MemAct.ofEvent e).low w'.heap.size∧e.loc ≠ .mark (.release (stA Wg))∧∀ x,(MemAct.ofEvent e).touch? = some x→Okt Wg C c j V w.heap.size X x)
  (hD:∀ k,k<j→X ≠ c+k→D' k=D k∧PH' k=PH k∧TR' k=TR k∧val' k=val k)
  (hW:∀ k,k<j→X=c+k→WS P ty Wg C n K (β k) k (D' k) (PH' k) (TR' k) (val' k) g' vX w'∧deafBehind (D k).deaf es=(D' k).deaf ∧
   ((D' k).stage≤6→(∃ r,RelC Wg (t++MemOp.ofEvents X fn pos es) (c+k) r)∧Has C k (val' k) w')) :
  Core P ty Wg C n K c Be we Shun ((gs.map (woken P g g' w')).setIfInBounds X g') w' (t++MemOp.ofEvents X fn pos es) j D' PH' TR' val' (fun i=>if i=X then vX else ext (V i) w') q β:=by
 have vsz:∀ {g},Part c j g→(V g).heap.size=w.heap.size:=fun hg=>(H.und _ hg).size.symm;have hother:∀ i,i ≠ X→Deaf (t++MemOp.ofEvents X fn pos es) i=Deaf t i:=fun i hi=>Deaf_other t (g:=i) (g':=X) (Ne.symm hi) _ g_of_ofEvents;have hXlt:X<gs.size:=(Array.getElem?_eq_some_iff.1 hgX).1;have er:∀ {i},Part c j i→Rly (V i) (ext (V i) w'):=fun hi=>Q7W (by rw [vsz hi];exact hsz) (by rw [← (H.und _ hi).drawn];exact hrest.2.2.2);have eu:∀ {i},Part c j i→i ≠ X→Under (ext (V i) w') w':=fun hi hne=>(H.und _ hi).ext hsz hrest.1 hrest.2.1 hrest.2.2.1 fun b hb hnb=>by
  refine hkeep b hb (fun e=>hnb (e ▸ (H.wgc _ hi).1)) (fun e=>hnb (e ▸ (H.wgc _ hi).2)) ?_;rcases H.apart X _ hX hi (Ne.symm hne) b hb with p|p
  ·exact p
  exact absurd p hnb
 have mono:∀ i,Part c j i→∀ b,b<w.heap.size→(Blk (V i) b→Blk (if i=X then vX else ext (V i) w') b)∧(Shut (V i) b→Shut (if i=X then vX else ext (V i) w') b):=by
  intro i hi b hb
  by_cases e:i=X
  ·subst e;simp only [if_true];exact hmono b hb
  simp only [if_neg e];have:b<(V i).heap.size:=by rw [vsz hi];exact hb
  exact ⟨(ext_blk this).2,(ext_shut this).2⟩
 refine ⟨by simp [H.size],fun i g0 h0 hic hgi=>?_,fun i hi=>?_,fun k hk=>?_,fun k hk=>?_,fun i hi=>?_,fun i i' hi hi' hne b hb'=>?_,fun i hi=>?_,fun i hi b hb=>?_,fun b hb hbW hbC=>?_,Nat.le_trans H.big hsz,?_,fun k hk hs=>?_,fun k hk hs=>?_,hpay,fun k hk i hi hne b hβ hb'=>?_,H.born,
  hrest.1.trans H.rest.1,hrest.2.1.trans H.rest.2.1,hrest.2.2.1.trans H.rest.2.2.1,Nat.le_trans H.rest.2.2.2 hrest.2.2.2⟩
 ·have hne:X ≠ i:=by rcases hX with e|⟨e,_⟩<;>omega
  rw [get_map_set _ _ _ _ hne] at hgi;obtain ⟨y,hy,rfl⟩:=Option.map_eq_some_iff.1 hgi;have hq:=H.old i y h0 hic hy;rw [woken_quitsD hq,hother i hne.symm];exact hq
 ·rw [hother i (by rcases hX with e|⟨_,e⟩<;>have:=G.c0<;>omega)];exact H.above i hi
 ·obtain ⟨g0,hg0,hs⟩:=H.wk k hk
  by_cases e:X=c+k
  ·refine ⟨g',by rw [e,get_map_set_same _ _ _ (by rw [← e];exact hXlt)],?_⟩;simp only [e,if_true];exact (hW k hk e).1
  obtain ⟨e1,e2,e3,e4⟩:=hD k hk e;refine ⟨g0,by rw [get_map_set _ _ _ _ e,hg0];simp [hs.woken],?_⟩;have hp:Part c j (c+k):=.inr ⟨by omega,by omega⟩;rw [e1,e2,e3,e4];simp only [if_neg (Ne.symm e)];exact hs.move G.K (er hp) ⟨fun b hb=>absurd hb (Nat.not_lt_zero _),fun _=>hlive,fun _=>hpay,hcell k hk e⟩
 ·by_cases e:X=c+k
  ·subst e;rw [Deaf_own,H.deafW k hk];exact (hW k hk rfl).2.1
  rw [hother _ (Ne.symm e),H.deafW k hk,(hD k hk e).1]
 ·by_cases e:i=X
  ·simp only [e,if_true];exact U'
  simp only [if_neg e];exact eu hi e
 ·rcases zB b w.heap.size with hb|hb
  ·rcases H.apart i i' hi hi' hne b hb with p|p
   ·exact .inl ((mono i hi b hb).2 p)
   exact .inr ((mono i' hi' b hb).1 p)
  by_cases e:i'=X
  ·have e':i ≠ X:=fun q=>hne (q.trans e.symm);simp only [if_neg e'];exact .inl (Blk.shut ((er hi).new b (by rw [vsz hi];exact hb) (by rw [Q25 (by rw [vsz hi];exact hsz)];exact hb')))
  simp only [if_neg e];exact .inr ((er hi').new b (by rw [vsz hi'];exact hb) (by rw [Q25 (by rw [vsz hi'];exact hsz)];exact hb'))
 ·have hW1:Wg<w.heap.size:=qD G.wB H.big;have hC1:C<w.heap.size:=qD G.cB H.big;exact ⟨(mono i hi Wg hW1).1 (H.wgc i hi).1,(mono i hi C hC1).1 (H.wgc i hi).2⟩
 ·exact (mono i hi b (qD hb H.big)).2 (H.base i hi b hb)
 ·rw [hkeep b (qD hb H.big) hbW hbC (H.base X hX b hb)];exact H.same b hb hbW hbC
 ·refine H.trc.app G.c0 G.cw (qD G.cB H.big) H.apart H.wgc hsz hX (fun op hop=>?_) mono fun i hi hne b hb hb'=>?_
  ·obtain ⟨e,he,rfl⟩:=Go.Conc.mem_ofEvents hop;obtain ⟨h1,h2,h3⟩:=hev e he;refine ⟨rfl,h1,?_,h3⟩;intro hm;exact h2 (Go.ConcR.loc_of_ofEvent hm)
  simp only [if_neg hne];exact (er hi).new b (by rw [vsz hi];exact hb) (by rw [Q25 (by rw [vsz hi];exact hsz)];exact hb')
 ·by_cases e:X=c+k
  ·exact ((hW k hk e).2.2 hs).1
  obtain ⟨r,hr⟩:=H.rel k hk (by rw [← (hD k hk e).1];exact hs);exact ⟨r,hr.appOther g_of_ofEvents e⟩
 ·by_cases e:X=c+k
  ·exact ((hW k hk e).2.2 hs).2
  obtain ⟨e1,_,_,e4⟩:=hD k hk e;have:=H.has k hk (by rw [← e1];exact hs);rw [e4];exact (hcell k hk e).trans this
 have hp:Part c j (c+k):=.inr ⟨by omega,by omega⟩;rcases zB b w.heap.size with hb|hb
 ·exact (H.mine k hk i hi hne b hβ hb).imp (mono _ hp b hb).1 (mono i hi b hb).1
 by_cases e:i=X
 ·have e':c+k ≠ X:=fun q=>hne (e.trans q.symm);simp only [if_neg e'];exact .inl ((er hp).new b (by rw [vsz hp];exact hb) (by rw [Q25 (by rw [vsz hp];exact hsz)];exact hb'))
 simp only [if_neg e];exact .inr ((er hi).new b (by rw [vsz hi];exact hb) (by rw [Q25 (by rw [vsz hi];exact hsz)];exact hb'))
end
end Go.Vc.Ph
namespace Go.Vc.Ph
open Go Go.Conc Go.Vc.Wg
open Go.ConcN (WD Mode CTag phi pend isOpen isW3 isFin Vc Ssum Fsum cnt WSit WgLive PayAt Has RW AtR0 DWs RelBy sumTo upd upd_same upd_ne ShN get_map_set get_map_set_same deafBehind_idle)
open Go.ConcR (KK WgAt stA smA rd wr mk Payload DC0 g_of_ofEvents)
open Go.ConcX (OfWg)
variable [PS]
theorem Q2r {v:World} {b:Nat} (h:Shut v b):isCl v b:=by
 obtain ⟨c,e,f,h,_⟩:=h;exact ⟨c,e,f,h⟩
section
variable {P:Program} {ty:TypeId} {Wg C n:Nat} {K:Nat→Nat→Value→World→Prop} {c Be:Nat} {we:World} {Shun:Loc→Prop}
 {gs:Array Goroutine} {w w':World} {t:Trace} {j:Nat} {D D':Nat→WD} {PH PH':Nat→Nat} {TR TR':Nat→Tree} {val val':Nat→Value} {V:Nat→World} {q β:Nat→Nat}
theorem okt_evS {X:Nat} (hW:Blk (V X) Wg∧Blk (V X) C) {B':Nat} {e:Event} (h:EvS (V X) B' e) :
  (MemAct.ofEvent e).low B'∧e.loc ≠ .mark (.release (stA Wg))∧(e.loc ≠ .mark .disable∧e.loc ≠ .mark .enable)∧∀ x,(MemAct.ofEvent e).touch? = some x→Okt Wg C c j V w.heap.size X x:=by
 obtain ⟨loc,wr,sy⟩:=e;rcases h with h|⟨a,h1,hB,h2,h3,h4⟩|⟨r,h1,hB,h2⟩
 ·simp only at h;subst h;exact ⟨trivial,by simp,by simp,fun x hx=>by simp [MemAct.ofEvent,MemAct.touch?] at hx⟩
 ·simp only at h1 h2;subst h1 h2;refine ⟨hB,by simp,by simp,fun x hx=>?_⟩;simp only [MemAct.ofEvent,MemAct.touch?,qA] at hx;subst hx;exact .inr (.inl ⟨a.block,rfl,fun e=>h3 (e ▸ hW.1),fun e=>h3 (e ▸ hW.2),fun _=>⟨h3,h4⟩⟩)
 simp only at h1;subst h1;refine ⟨by cases wr<;>cases sy<;>exact hB,by simp,by simp,fun x hx=>?_⟩;have hx':x.loc = .obj r:=by
  cases wr<;>cases sy<;>simp only [MemAct.ofEvent,MemAct.touch?,qA,reduceCtorEq] at hx<;>subst hx<;>rfl
 refine .inr (.inl ⟨r,by rw [hx'];rfl,fun e=>h2 (e ▸ Q2r hW.1.shut),fun e=>h2 (e ▸ Q2r hW.2.shut),fun _=>⟨fun e=>h2 (Q2r e.shut),fun _ e=>h2 (Q2r e)⟩⟩)
theorem Q2B {w w':World} {b o:Nat} (e:w'.heap[b]? = w.heap[b]?):w'.cell? ⟨b,o,none⟩=w.cell? ⟨b,o,none⟩:=by simp [World.cell?,e]
theorem Core.sim (G:Lie Wg C K c Be) (H:Core P ty Wg C n K c Be we Shun gs w t j D PH TR val V q β) (hwl:WgLive ty Wg w) {X:Nat} (hX:Part c j X) {g g':Goroutine} (hgX:gs[X]? = some g) {v':World}
  (hs:SimStep P (X == 0) g (V X) g' v')
  (hD:∀ k,k<j→X ≠ c+k→D' k=D k∧PH' k=PH k∧TR' k=TR k∧val' k=val k)
  (hW:∀ k,k<j→X=c+k→(∀ w',WS P ty Wg C n K (β k) k (D' k) (PH' k) (TR' k) (val' k) g' v' w')∧(D k).deaf=(D' k).deaf∧6<(D' k).stage) :
  ∃ w' es V',stepG P (X == 0) g w = .go g' w' es∧V' X=v'∧(∀ i,Part c j i→i ≠ X→Rly (V i) (V' i))∧(∀ st sm,WgAt ty Wg w st sm→WgAt ty Wg w' st sm)∧deafBehind (Deaf t X) es=Deaf t X ∧
   (∀ e∈es,e.loc ≠ .mark (.release (stA Wg))) ∧
   Core P ty Wg C n K c Be we Shun ((gs.map (woken P g g' w')).setIfInBounds X g') w' (t++MemOp.ofEvents X g.frame.fn g.frame.place es) j D' PH' TR' val' V' q β:=by
 obtain ⟨w',es,hgo,U',Kp,ev⟩:=hs w (H.und X hX);have U:=H.und X hX;obtain ⟨hbW,hbC⟩:=H.wgc X hX;have eW:w'.heap[Wg]? = w.heap[Wg]?:=(Kp.shut Wg hbW.shut).2;have eC:w'.heap[C]? = w.heap[C]?:=(Kp.shut C hbC.shut).2;have hsz:w.heap.size≤w'.heap.size:=by rw [U.size,U'.size];exact Kp.size
 have hdr:w.drawn≤w'.drawn:=by rw [U.drawn,U'.drawn];exact Kp.rest.2.2.2
 obtain ⟨st,sm,hwg⟩:=hwl;have hev:∀ e∈es,_:=fun e he=>okt_evS (c:=c) (j:=j) (w:=w) (V:=V) ⟨hbW,hbC⟩ (U'.size ▸ ev e he);have hdf:∀ d,deafBehind d es=d:=deafBehind_idle fun e he=>(hev e he).2.2.1;refine ⟨w',es,_,hgo,if_pos rfl,fun i hi hne=>?_,fun st sm h=>h.of_block eW,hdf _,fun e he=>(hev e he).2.1,H.turn G hX hgX U' (fun b _=>⟨Kp.blk',Kp.shut'⟩) hsz
  ⟨U'.tape.trans (Kp.rest.1.trans U.tape.symm),U'.os.trans (Kp.rest.2.1.trans U.os.symm),U'.output.trans (Kp.rest.2.2.1.trans U.output.symm),hdr⟩ (fun b _ _ _ h=>(Kp.shut b h).2) ⟨_,_,hwg.of_block eW⟩ ?_ (fun k _ _=>Q2B eC) (fun e he=>⟨(hev e he).1,(hev e he).2.1,(hev e he).2.2.2⟩) hD
  fun k hk e=>⟨(hW k hk e).1 w',(hdf _).trans (hW k hk e).2.1,fun h=>absurd h (Nat.not_le.2 (hW k hk e).2.2)⟩⟩
 ·simp only [if_neg hne];exact Q7W (by rw [← (H.und i hi).size];exact hsz) (by rw [← (H.und i hi).drawn];exact hdr)
 obtain ⟨cs,h1,h2⟩:=H.pay;exact ⟨cs,eC.trans h1,h2⟩
theorem Core.at (G:Lie Wg C K c Be) (H:Core P ty Wg C n K c Be we Shun gs w t j D PH TR val V q β) {d:Nat} (hd:w.drawn≤d):Core P ty Wg C n K c Be we Shun gs (w.at d) t j D PH TR val (fun i=>(V i).at d) q β :=
 ⟨H.size,H.old,H.above,fun k hk=>by
  obtain ⟨g,hg,hs⟩:=H.wk k hk;exact ⟨g,hg,hs.move G.K (.at (by rw [← (H.und _ (.inr ⟨by omega,by omega⟩)).drawn];exact hd)) ⟨fun _ _ _ _=>rfl,id,id,rfl⟩⟩,H.deafW,fun i hi=>(H.und i hi).at d,H.apart,H.wgc,H.base,H.same,H.big,
  ⟨H.trc.nr,H.trc.low,H.trc.vis,H.trc.wg,H.trc.cell,H.trc.rest,H.trc.past,H.trc.over,H.trc.norel⟩,H.rel,H.has,H.pay,H.mine,H.born,H.rest.1,H.rest.2.1,H.rest.2.2.1,Nat.le_trans H.rest.2.2.2 hd⟩
theorem Core.mute (G:Lie Wg C K c Be) (H:Core P ty Wg C n K c Be we Shun gs w t j D PH TR val V q β) {i k':Nat} (h0:0<i) (hi:i<c) {g g':Goroutine} {es:Array Event} (hg:gs[i]? = some g) (hqi:q i=k' + 1)
  (hm:∀ e∈es,e.mute=true) (hq:QuitsD P k' (deafBehind (Deaf t i) es) g') {fn:FuncId} {pos:String} :
  Core P ty Wg C n K c Be we Shun ((gs.map (woken P g g' w)).setIfInBounds i g') w (t++MemOp.ofEvents i fn pos es) j D PH TR val V (Go.ConcN.upd q i k') β:=by
 have hother:∀ i',i' ≠ i→Deaf (t++MemOp.ofEvents i fn pos es) i'=Deaf t i':=fun i' hi'=>Deaf_other t (g:=i') (g':=i) (Ne.symm hi') _ g_of_ofEvents;refine ⟨by simp [H.size],fun i' g0 h0' hic hgi=>?_,fun i' hi'=>?_,fun k hk=>?_,fun k hk=>?_,H.und,H.apart,H.wgc,H.base,H.same,H.big,?_,fun k hk hs=>?_,H.has,H.pay,H.mine,H.born,H.rest⟩
 ·by_cases e:i=i'
  ·subst e;rw [get_map_set_same _ _ _ (Array.getElem?_eq_some_iff.1 hg).1] at hgi;cases hgi;rw [upd_same,Deaf_own];exact hq
  rw [get_map_set _ _ _ _ e] at hgi;obtain ⟨y,hy,rfl⟩:=Option.map_eq_some_iff.1 hgi;have hq':=H.old i' y h0' hic hy;rw [woken_quitsD hq',hother i' (Ne.symm e),upd_ne q k' (Ne.symm e)];exact hq'
 ·rw [hother i' (by omega)];exact H.above i' hi'
 ·obtain ⟨g0,hg0,hs⟩:=H.wk k hk;exact ⟨g0,by rw [get_map_set _ _ _ _ (by omega),hg0];simp [hs.woken],hs⟩
 ·rw [hother _ (by omega)];exact H.deafW k hk
 ·refine H.trc.mute (g':=i) fun op hop=>?_;obtain ⟨e,he,rfl⟩:=Go.Conc.mem_ofEvents hop;refine ⟨rfl,touch_mute (hm e he),low_mute (hm e he) _,fun h=>?_⟩;have:=hm e he;obtain ⟨loc,wr,sy⟩:=e;cases loc with
  | mark m=>cases m<;>simp_all [Event.mute,MemAct.ofEvent]
  | _=>cases wr<;>cases sy<;>simp_all [Event.mute,MemAct.ofEvent]
 obtain ⟨r,hr⟩:=H.rel k hk hs;exact ⟨r,hr.appOther g_of_ofEvents (by omega)⟩
theorem Core.fork (G:Lie Wg C K c Be) (H:Core P ty Wg C n K c Be we Shun gs w t j D PH TR val V q β) {a' child:Goroutine} {T:Tree} {x y:MemOp} (hx:x.g=0∧x.act = .go (c+j)) (hy:y.g=c+j∧y.act = .start) (h0:Deaf t 0=0)
  (hT:GoesR P false (Q5P P ty Wg C n K w.heap.size j) T child (frz (V 0))) :
  Core P ty Wg C n K c Be we Shun ((gs.setIfInBounds 0 a').push child) w (t++#[x,y]) (j+1) (Go.ConcN.upd D j ⟨7,0,0⟩) (Go.ConcN.upd PH j 1) (Go.ConcN.upd TR j T) val (fun i=>if i=0∨i=c+j then frz (V 0) else V i) q (Go.ConcN.upd β j w.heap.size):=by
 have keep:∀ op∈#[x,y],op.act ≠ .mark .disable∧op.act ≠ .mark .enable:=by
  intro op hop;simp only [List.mem_toArray,List.mem_cons,List.not_mem_nil,or_false] at hop;rcases hop with rfl|rfl
  ·rw [hx.2];simp
  rw [hy.2];simp
 have hdf:∀ i,Deaf (t++#[x,y]) i=Deaf t i:=fun i=>Go.ConcN.Deaf_still t i _ keep;have p0:Part c j 0:=.inl rfl;have U0:=H.und 0 p0;have hc0:=G.c0;have part:∀ {i},Part c (j+1) i→(i=0∨i=c+j)∨(¬ (i=0∨i=c+j)∧Part c j i):=by
  rintro i (h|⟨h1,h2⟩)
  ·exact .inl (.inl h)
  by_cases e:i=c+j
  ·exact .inl (.inr e)
  by_cases e0:i=0
  ·exact .inl (.inl e0)
  exact .inr ⟨by omega,.inr ⟨h1,by omega⟩⟩
 have fs:∀ b,b<w.heap.size→Shut (frz (V 0)) b:=fun b hb=>Q6w (by rw [← U0.size];exact hb);have hgs:∀ i g,i ≠ 0→i<c+j→((gs.setIfInBounds 0 a').push child)[i]? = some g→gs[i]? = some g:=fun i g hi hlt h=>by
  rw [Array.getElem?_push,if_neg (by simp [H.size];omega),qE (Ne.symm hi)] at h;exact h
 have hgs':∀ i g,i ≠ 0→i<c+j→gs[i]? = some g→((gs.setIfInBounds 0 a').push child)[i]? = some g:=fun i g hi hlt h=>by
  rw [Array.getElem?_push,if_neg (by simp [H.size];omega),qE (Ne.symm hi)];exact h
 refine ⟨by simp [H.size];omega,fun i g h1 hic hg=>?_,fun i hi=>?_,fun k hk=>?_,fun k hk=>?_,fun i hi=>?_,fun i i' hi hi' hne b hb=>?_,fun i hi=>?_,fun i hi b hb=>?_,H.same,H.big,?_,fun k hk hs=>?_,fun k hk hs=>?_,H.pay,fun k hk i hi hne b hβ hb=>?_,fun k hk=>?_,H.rest⟩
 ·rw [hdf];exact H.old i g h1 hic (hgs i g (by omega) (by omega) hg)
 ·rw [hdf];exact H.above i (by omega)
 ·by_cases e:k=j
  ·subst e;refine ⟨child,?_,?_⟩
   ·have:c+k=(gs.setIfInBounds 0 a').size:=(by simp [H.size]);rw [this,Array.getElem?_push_size]
   simp only [upd_same,or_true,if_true];exact .v hT
  obtain ⟨g,hg,hs⟩:=H.wk k (by omega);refine ⟨g,hgs' _ g (by omega) (by omega) hg,?_⟩;rw [upd_ne D _ e,upd_ne PH _ e,upd_ne TR _ e,upd_ne β _ e];simp only [show ¬ (c+k=0∨c+k=c+j) by omega,if_false];exact hs
 ·rw [hdf]
  by_cases e:k=j
  ·subst e;rw [upd_same];exact H.above _ (Nat.le_refl _)
  rw [upd_ne D _ e];exact H.deafW k (by omega)
 ·rcases part hi with e|⟨e,hp⟩
  ·simp only [if_pos e];exact U0.frz
  simp only [if_neg e];exact H.und i hp
 ·rcases part hi with e|⟨e,hp⟩
  ·simp only [if_pos e];exact .inl (fs b hb)
  simp only [if_neg e];rcases part hi' with e'|⟨e',hp'⟩
  ·simp only [if_pos e'];rcases H.apart i 0 hp p0 (by rintro rfl;exact e (.inl rfl)) b hb with p|p
   ·exact .inl p
   exact .inr (Q3G p)
  simp only [if_neg e'];exact H.apart i i' hp hp' hne b hb
 ·rcases part hi with e|⟨e,hp⟩
  ·simp only [if_pos e];exact ⟨Q3G (H.wgc 0 p0).1,Q3G (H.wgc 0 p0).2⟩
  simp only [if_neg e];exact H.wgc i hp
 ·rcases part hi with e|⟨e,hp⟩
  ·simp only [if_pos e];exact fs b (qD hb H.big)
  simp only [if_neg e];exact H.base i hp b hb
 ·refine H.trc.fork G.c0 hx hy h0 (H.above _ (Nat.le_refl _)) (fun i hi b hb=>?_) fun b hb=>?_
  ·by_cases e:i=0∨i=c+j
   ·have e0:i=0:=by rcases e with e|e;exact e;rcases hi with h|⟨_,h⟩<;>omega
    subst e0;simp only [true_or,if_true];exact ⟨Q3G,fun _=>fs b hb⟩
   simp only [if_neg e];exact ⟨id,id⟩
  simp only [or_true,if_true];exact ⟨Q3G,fs b hb⟩
 ·by_cases e:k=j
  ·subst e;rw [upd_same] at hs;simp at hs
  rw [upd_ne D _ e] at hs;obtain ⟨r,hr⟩:=H.rel k (by omega) hs;refine ⟨r,hr.appNot fun op hop=>?_⟩;simp only [List.mem_toArray,List.mem_cons,List.not_mem_nil,or_false] at hop;rcases hop with rfl|rfl
  ·rw [hx.1];omega
  rw [hy.1];omega
 ·by_cases e:k=j
  ·subst e;rw [upd_same] at hs;simp at hs
  rw [upd_ne D _ e] at hs;exact H.has k (by omega) hs
 ·by_cases e:k=j
  ·subst e;rw [upd_same] at hβ;omega
  rw [upd_ne β _ e] at hβ;simp only [show ¬ (c+k=0∨c+k=c+j) by omega,if_false];rcases part hi with e1|⟨e1,hp⟩
  ·simp only [if_pos e1];exact (H.mine k (by omega) 0 p0 (by omega) b hβ hb).imp id Q3G
  simp only [if_neg e1];exact H.mine k (by omega) i hp hne b hβ hb
 by_cases e:k=j
 ·subst e;rw [upd_same];exact H.big
 rw [upd_ne β _ e];exact H.born k (by omega)
end
end Go.Vc.Ph
namespace Go.Vc.Ph
open Go Go.Conc Go.Vc.Wg
open Go.ConcN (WD Mode CTag phi pend isOpen isW3 isFin Vc Ssum Fsum cnt WSit WgLive PayAt Has RW AtR0 DWs RelBy sumTo upd upd_same upd_ne ShN get_map_set get_map_set_same deafBehind_idle phi_mono phi_retag Vc_upd sumTo_upd sumTo_congr OpenSt AllQuit others_uncounted le_sumTo bk_cell)
open Go.ConcR (KK WgAt stA smA rd wr mk Payload DC0 g_of_ofEvents Bk bk_of_mute ofEvent_loc_mark ofEvent_cell again_blocked)
open Go.ConcX (OfWg)
variable [PS]
abbrev Mu:=(Nat × List Tree) × Nat
def Lt:Mu→Mu→Prop:=Prod.Lex MLt (· < ·)
theorem Lt.wf:WellFounded Lt:=(Prod.lex ⟨MLt,MLt.wf⟩ Nat.lt_wfRel).wf
theorem Lt.a {a a':Nat} {b b':List Tree} {c c':Nat} (h:a' < a):Lt ((a',b'),c') ((a,b),c):=Prod.Lex.left _ _ (.inl h)
theorem Lt.b {a a':Nat} {b b':List Tree} {c c':Nat} (e:a'=a) (h:LSub b' b):Lt ((a',b'),c') ((a,b),c):=Prod.Lex.left _ _ (.inr ⟨e,h⟩)
theorem Lt.c {a a':Nat} {b b':List Tree} {c c':Nat} (e:a'=a) (e':b'=b) (h:c' < c):Lt ((a',b'),c') ((a,b),c):=by subst e e';exact Prod.Lex.right _ h
def AcqC (Wg c j:Nat) (t:Trace):Prop:=∃ q,t.act? q=some (.mark (.acquire (stA Wg)))∧t.g? q=some 0∧t.heard q∧∀ k,k<j→∃ r,RelC Wg t (c+k) r∧r<q
omit [PS] in
theorem AcqC.app {Wg c j:Nat} {t u:Trace} (h:AcqC Wg c j t) (hu:∀ k r,k<j→RelC Wg t (c+k) r→RelC Wg (t++u) (c+k) r):AcqC Wg c j (t++u):=by
 obtain ⟨q,h1,h2,h3,h4⟩:=h;have hq:=lt_of_act? h1;exact ⟨q,by rw [act?_old hq];exact h1,by rw [g?_old hq];exact h2,(heard_old hq).2 h3,fun k hk=>let ⟨r,hr,hrq⟩:=h4 k hk;⟨r,hu k r hk hr,hrq⟩⟩
section
variable (P:Program) (ty:TypeId) (Wg C n:Nat) (K:Nat→Nat→Value→World→Prop) (Anch:Goroutine→World→Prop) (E1:Goroutine→Prop) (c Be:Nat) (we:World) (Shun:Loc→Prop)
def mu (n:Nat) (tag:CTag) (x:Nat) (T:Tree) (f0:Nat) (c j:Nat) (D:Nat→WD) (PH:Nat→Nat) (TR:Nat→Tree) (q:Nat→Nat):Mu :=
 ((phi n (Vc j D) tag+x+Ssum j D+sumTo j PH,T :: (List.range j).map TR),f0+2 * Fsum j D+2 * sumTo c q)
def Inv (μ:Mu) (m:Machine) (t:Trace):Prop :=
 ∃ (gs:Array Goroutine) (w:World) (sl:Option (Nat × Nat)) (j:Nat) (D:Nat→WD) (PH:Nat→Nat) (TR:Nat→Tree) (val:Nat→Value) (V:Nat→World) (q β:Nat→Nat) (tag:CTag) (x:Nat) (T:Tree) (f0 d0:Nat) (a:Goroutine) (st sm:Int),
  m=crowd gs w sl∧gs[0]? = some a∧CS P ty Wg C n K Anch E1 tag x j T f0 d0 a (V 0) w∧Core P ty Wg C n K c Be we Shun gs w t j D PH TR val V q β∧WgAt ty Wg w st sm∧Go.ConcN.Mode j D tag st sm∧Deaf t 0=d0∧(tag = .ret→AcqC Wg c j t) ∧
   μ=mu n tag x T f0 c j D PH TR q
end
section
variable {P:Program} {ty:TypeId} {Wg C n:Nat} {K:Nat→Nat→Value→World→Prop} {Anch:Goroutine→World→Prop} {E1:Goroutine→Prop} {c Be:Nat} {we:World} {Shun:Loc→Prop}
 {gs:Array Goroutine} {w w':World} {sl:Option (Nat × Nat)} {t:Trace} {j:Nat} {D D':Nat→WD} {PH PH':Nat→Nat} {TR TR':Nat→Tree} {val val':Nat→Value} {V V':Nat→World} {q β:Nat→Nat}
 {tag:CTag} {x:Nat} {T:Tree} {f0 d0:Nat} {a:Goroutine} {st sm:Int}
theorem CS.wokenBy (hA:∀ g w,Anch g w→g.status = .running) (h:CS P ty Wg C n K Anch E1 tag x j T f0 d0 a (V 0) w) (g g':Goroutine) (u:World) :
  ∃ tag' f',CS P ty Wg C n K Anch E1 tag' x j T f' d0 (woken P g g' u a) (V 0) w∧f'≤f0+1∧(tag'=tag∨(tag = .blk∧tag' = .w3))∧(mayWake P g=true→g'.status = .running→tag' ≠ .blk):=by
 unfold Go.Conc.woken;split
 ·rcases h.running hA with hr|⟨ht,_⟩
  ·refine ⟨tag,f0,by rw [again_running _ (.inl hr)];exact h,by omega,.inl rfl,fun _ _ e=>?_⟩;subst e;cases h with
   | blk _=>simp at hr
  subst ht;cases h with
  | blk hb =>
   have h3:=hb w (RL.refl w);exact ⟨.w3,0+1,by rw [again_blocked h3.1 h3.2.1];exact .w3 (Goes.stop hb),by omega,.inr ⟨rfl,rfl⟩,fun _ _=>by simp⟩
 rename_i hc;exact ⟨tag,f0,h,by omega,.inl rfl,fun h1 h2=>absurd (by simp [h1,h2]) hc⟩
theorem CS.retag {tag':CTag} (h:CS P ty Wg C n K Anch E1 tag x j T f0 d0 a (V 0) w) (e:tag'=tag∨(tag = .blk∧tag' = .w3)) (hr:tag' = .ret):tag = .ret:=by
 rcases e with e|⟨_,e⟩
 ·rw [← e];exact hr
 rw [hr] at e;cases e
def Down (j:Nat) (D D':Nat→WD) (PH PH':Nat→Nat) (TR TR':Nat→Tree):Prop :=
 (Ssum j D' + sumTo j PH' < Ssum j D+sumTo j PH∧Vc j D'≤Vc j D) ∨
 (Ssum j D' + sumTo j PH'=Ssum j D+sumTo j PH∧Vc j D'=Vc j D∧((∃ k T',k<j∧Sub T' (TR k)∧TR'=Go.ConcN.upd TR k T')∨TR'=TR∧Fsum j D' + 1≤Fsum j D))
theorem Down.lt (h:Down j D D' PH PH' TR TR') {tag':CTag} {f':Nat} (ht:tag'=tag∨(tag = .blk∧tag' = .w3)) (hf:f'≤f0+1):Lt (mu n tag' x T f' c j D' PH' TR' q) (mu n tag x T f0 c j D PH TR q):=by
 have hp:=phi_retag n (Vc j D') ht;unfold mu;rcases h with ⟨h1,h2⟩|⟨h1,h2,h3⟩
 ·have:=phi_mono n h2 tag;exact .a (by omega)
 rw [h2] at hp;rcases h3 with ⟨k,T',hk,hs,rfl⟩|⟨rfl,h3⟩
 ·refine .b (by rw [h2];omega) ⟨k+1,TR k,T',by simp [hk],hs,?_⟩;rw [List.set_cons_succ]
  congr 1
  apply List.ext_getElem?;intro i;simp only [List.getElem?_map,List.getElem?_set,List.length_map,List.length_range,hk,if_true]
  by_cases e:k=i
  ·subst e;simp [hk,upd_same]
  simp only [if_neg e];cases h:(List.range j)[i]? with
  | none=>rfl
  | some y =>
   have:y=i:=by rw [List.getElem?_range] at h;exact (Option.some.inj h).symm;rcases zB i j with q|q;exact q;simp [q] at h
   subst this;simp [upd_ne TR T' (Ne.symm e)]
 exact .c (by rw [h2];omega) rfl (by omega)
theorem wDone (hA:∀ g w,Anch g w→g.status = .running) (ha:gs[0]? = some a) (hsz:gs.size=c+j) (hc0:0<c) (hcs:CS P ty Wg C n K Anch E1 tag x j T f0 d0 a (V 0) w) (hd0:Deaf t 0=d0) (hacq:tag = .ret→AcqC Wg c j t)
  {k:Nat} (hk:k<j) {g g':Goroutine} (hg:gs[c+k]? = some g) {es:Array Event} (hgo:stepG P false g w = .go g' w' es)
  (H':Core P ty Wg C n K c Be we Shun ((gs.map (woken P g g' w')).setIfInBounds (c+k) g') w' (t++MemOp.ofEvents (c+k) g.frame.fn g.frame.place es) j D' PH' TR' val' V' q β)
  (hr:Rly (V 0) (V' 0)) (hl:RL ty Wg w w') {st' sm':Int} (hwg:WgAt ty Wg w' st' sm')
  (hmode:∀ tag',(tag'=tag∨(tag = .blk∧tag' = .w3))→(mayWake P g=true→g'.status = .running→tag' ≠ .blk)→Go.ConcN.Mode j D' tag' st' sm')
  (hrel:tag = .ret→∀ r,RelC Wg t (c+k) r→RelC Wg (t++MemOp.ofEvents (c+k) g.frame.fn g.frame.place es) (c+k) r)
  (hlt:Down j D D' PH PH' TR TR') :
  ∃ m₁ ops μ',runT P (crowd gs w sl) (c+k)=(.next m₁,ops)∧Lt μ' (mu n tag x T f0 c j D PH TR q)∧Inv P ty Wg C n K Anch E1 c Be we Shun μ' m₁ (t++ops):=by
 obtain ⟨tag',f',hcs',hf',htag,hwk⟩:=hcs.wokenBy hA g g' w';have hrun:=runT_crowd_go (P:=P) (sl:=sl) (i:=c+k) hg (by rw [show (c+k == 0)=false by simp;omega];exact hgo);refine ⟨_,_,mu n tag' x T f' c j D' PH' TR' q,hrun,hlt.lt htag hf',_,w',sl,j,D',PH',TR',val',V',q,β,tag',x,T,f',d0,woken P g g' w' a,st',sm',rfl,?_,hcs'.move hr hl,H',hwg,hmode tag' htag hwk,?_,fun e=>?_,rfl⟩
 ·rw [get_map_set _ _ _ _ (by omega),ha];rfl
 ·rw [Deaf_other t (g':=c+k) (by omega) _ g_of_ofEvents];exact hd0
 have et:=hcs.retag htag e;refine (hacq et).app fun k' r _ hr'=>?_
 by_cases e':k'=k
 ·subst e';exact hrel et r hr'
 exact hr'.appOther g_of_ofEvents (by omega)
omit [PS] in
theorem _root_.Go.Vc.Under.one {v:World} (U:Under v w) {b0:Nat} (hb:Blk v b0) (hsz:w'.heap.size=w.heap.size) (hrest:w'.tape=w.tape∧w'.os=w.os∧w'.output=w.output∧w'.drawn=w.drawn) (h:∀ b,b ≠ b0→w'.heap[b]? = w.heap[b]?):Under v w':=by
 refine ⟨hsz.trans U.size,fun b ov hv=>?_,hrest.1.trans U.tape,hrest.2.2.2.trans U.drawn,hrest.2.1.trans U.os,hrest.2.2.1.trans U.output⟩
 by_cases e:b=b0
 ·subst e;obtain ⟨e',hb⟩:=hb;rw [hv] at hb;cases hb;have hlt:b<w'.heap.size:=by rw [hsz,U.size];exact (Array.getElem?_eq_some_iff.1 hv).1
  exact ⟨_,zA hlt,.blank⟩
 obtain ⟨ow,h1,h2⟩:=U.blk b ov hv;exact ⟨ow,(h b e).trans h1,h2⟩
omit [PS] in
theorem okt_bk {X:Nat} {e:Event} (hW:Wg<w.heap.size) (h:Go.ConcR.Bk Wg e∨e=mk (.releaseMerge (stA Wg))∨e=mk (.acquire (stA Wg))∨(X=0∧(e=Q8i Wg∨e=Q8j Wg))) :
  (MemAct.ofEvent e).low w.heap.size∧e.loc ≠ .mark (.release (stA Wg))∧∀ x,(MemAct.ofEvent e).touch? = some x→Okt Wg C c j V w.heap.size X x:=by
 rcases h with (h|h|⟨a,wr,rfl,ha⟩)|rfl|rfl|⟨h0,rfl|rfl⟩
 ·rw [ofEvent_loc_mark h,h];exact ⟨trivial,by simp,fun x hx=>by cases hx⟩
 ·rw [ofEvent_loc_mark h,h];exact ⟨trivial,by simp,fun x hx=>by cases hx⟩
 ·refine ⟨by rw [ofEvent_cell];exact (by rw [ha];exact hW:a.block<w.heap.size),by simp,fun x hx=>?_⟩;simp only [ofEvent_cell,MemAct.touch?,qA] at hx;subst hx;exact .inl ⟨⟨a,rfl,ha⟩,by simp,by simp⟩
 ·exact ⟨hW,by simp [mk],fun x hx=>by cases hx⟩
 ·exact ⟨hW,by simp [mk],fun x hx=>by cases hx⟩
 ·refine ⟨hW,by simp [Q8i,mk],fun x hx=>?_⟩;simp only [Q8i,Go.ConcR.ofEvent_mk,MemAct.touch?,qA] at hx;subst hx;exact .inl ⟨⟨_,rfl,rfl⟩,by simp,fun _=>h0⟩
 refine ⟨hW,by simp [Q8j,mk],fun x hx=>?_⟩;simp only [Q8j,Go.ConcR.ofEvent_mk,MemAct.touch?,qA] at hx;subst hx;exact .inl ⟨⟨_,rfl,rfl⟩,by simp,fun _=>h0⟩
theorem Core.one (G:Lie Wg C K c Be) (H:Core P ty Wg C n K c Be we Shun gs w t j D PH TR val V q β) {X:Nat} (hX:Part c j X) {g g':Goroutine} {es:Array Event} (hgX:gs[X]? = some g) {fn:FuncId} {pos:String} {b0:Nat} (hb0:b0=Wg∨b0=C)
  (hsz:w'.heap.size=w.heap.size) (hrest:w'.tape=w.tape∧w'.os=w.os∧w'.output=w.output∧w'.drawn=w.drawn) (hblk:∀ b,b ≠ b0→w'.heap[b]? = w.heap[b]?)
  (hlive:WgLive ty Wg w') (hpay:PayAt C PS.z w') (hcell:∀ k,k<j→X ≠ c+k→w'.cell? ⟨C,k,none⟩=w.cell? ⟨C,k,none⟩)
  (hev:∀ e∈es,(MemAct.ofEvent e).low w.heap.size∧e.loc ≠ .mark (.release (stA Wg))∧∀ x,(MemAct.ofEvent e).touch? = some x→Okt Wg C c j V w.heap.size X x)
  (hD:∀ k,k<j→X ≠ c+k→D' k=D k∧PH' k=PH k∧TR' k=TR k∧val' k=val k)
  (hW:∀ k,k<j→X=c+k→WS P ty Wg C n K (β k) k (D' k) (PH' k) (TR' k) (val' k) g' (V X) w'∧deafBehind (D k).deaf es=(D' k).deaf ∧
   ((D' k).stage≤6→(∃ r,RelC Wg (t++MemOp.ofEvents X fn pos es) (c+k) r)∧Has C k (val' k) w')) :
  ∃ V',Rly (V 0) (V' 0)∧Core P ty Wg C n K c Be we Shun ((gs.map (woken P g g' w')).setIfInBounds X g') w' (t++MemOp.ofEvents X fn pos es) j D' PH' TR' val' V' q β:=by
 have U':Under (V X) w':=(H.und X hX).one (b0:=b0) (by rcases hb0 with rfl|rfl;exact (H.wgc X hX).1;exact (H.wgc X hX).2) hsz hrest hblk;have h:=H.turn G hX hgX (fn:=fn) (pos:=pos) U' (fun b _=>⟨id,id⟩) (by omega) ⟨hrest.1,hrest.2.1,hrest.2.2.1,by omega⟩ (fun b _ h1 h2 _=>hblk b (by rcases hb0 with rfl|rfl<;>assumption)) hlive hpay hcell (by rw [hsz];exact hev) hD hW;refine ⟨_,?_,h⟩
 by_cases e:0=X
 ·subst e;simp only [if_true];exact .refl _
 simp only [if_neg e];exact Q7W (by rw [← (H.und 0 (.inl rfl)).size];omega) (by rw [← (H.und 0 (.inl rfl)).drawn];omega)
end
end Go.Vc.Ph
namespace Go.Vc.Ph
open Go Go.Conc Go.Vc.Wg
open Go.ConcN (WD CTag phi pend isOpen isW3 isFin Vc Ssum Fsum cnt WSit WgLive PayAt Has RW AtR0 DWs RelBy sumTo upd upd_same upd_ne ShN deafBehind_idle Vc_upd sumTo_upd sumTo_congr OpenSt AllQuit others_uncounted le_sumTo bk_cell bk_rw bk_rd bk_dis bk_en bk_sem Vc_le)
open Go.ConcR (KK WgAt stA smA rd wr mk Payload DC0 g_of_ofEvents Bk bk_of_mute ofEvent_loc_mark ofEvent_cell)
open Go.ConcX (OfWg)
variable [PS]
section
variable {P:Program} {ty:TypeId} {Wg C n:Nat} {K:Nat→Nat→Value→World→Prop} {Anch:Goroutine→World→Prop} {E1:Goroutine→Prop} {c Be:Nat} {we:World} {Shun:Loc→Prop}
 {gs:Array Goroutine} {w w':World} {sl:Option (Nat × Nat)} {t:Trace} {j:Nat} {D D':Nat→WD} {PH PH':Nat→Nat} {TR TR':Nat→Tree} {val val':Nat→Value} {V V':Nat→World} {q β:Nat→Nat}
 {tag:CTag} {x:Nat} {T:Tree} {f0 d0:Nat} {a:Goroutine} {st sm:Int}
omit [PS] in
theorem Q6V {α:Type} (f:Nat→α) (i:Nat):Go.ConcN.upd f i (f i)=f:=by
 funext y
 by_cases e:y=i
 ·subst e;rw [upd_same]
 rw [upd_ne _ _ e]
theorem Q9b {i:Nat} (d:WD) (hi:i<j):Ssum j (Go.ConcN.upd D i d)+(D i).stage=Ssum j D+d.stage:=sumTo_upd D d WD.stage hi
theorem fsum_upd {i:Nat} (d:WD) (hi:i<j):Fsum j (Go.ConcN.upd D i d)+(D i).fuel=Fsum j D+d.fuel:=sumTo_upd D d WD.fuel hi
theorem ph_upd {i y:Nat} (hi:i<j):sumTo j (Go.ConcN.upd PH i y)+PH i=sumTo j PH+y:=sumTo_upd PH y id hi
set_option maxHeartbeats 1600000 in
theorem stepW (G:Lie Wg C K c Be) (hA:∀ g w,Anch g w→g.status = .running) (hn:n<2147483648)
  (ha:gs[0]? = some a) (hcs:CS P ty Wg C n K Anch E1 tag x j T f0 d0 a (V 0) w) (H:Core P ty Wg C n K c Be we Shun gs w t j D PH TR val V q β) (hwg:WgAt ty Wg w st sm) (hmode:Go.ConcN.Mode j D tag st sm) (hd0:Deaf t 0=d0)
  (hacq:tag = .ret→AcqC Wg c j t) {k:Nat} (hk:k<j) {g:Goroutine} (hg:gs[c+k]? = some g) (hrun:g.status = .running) :
  ∃ m₁ ops μ',runT P (crowd gs w sl) (c+k)=(.next m₁,ops)∧Lt μ' (mu n tag x T f0 c j D PH TR q)∧Inv P ty Wg C n K Anch E1 c Be we Shun μ' m₁ (t++ops):=by
 have hb:=hcs.bound;have hVj:=Vc_le j D;have hX:Part c j (c+k):=.inr ⟨by omega,by omega⟩;have hWs:Wg<w.heap.size:=qD G.wB H.big;have hc0:=G.c0;have hX0:((c+k) == 0)=false:=by simp;omega
 have oth:∀ {d:WD} {p:Nat} {T':Tree} {v:Value},∀ k',k' < j→c+k ≠ c+k'→Go.ConcN.upd D k d k'=D k'∧Go.ConcN.upd PH k p k'=PH k'∧Go.ConcN.upd TR k T' k'=TR k'∧Go.ConcN.upd val k v k'=val k' :=
  fun k' _ hne=>⟨upd_ne _ _ (by omega),upd_ne _ _ (by omega),upd_ne _ _ (by omega),upd_ne _ _ (by omega)⟩
 have eqk:∀ {k'},c+k=c+k'→k'=k:=by omega
 obtain ⟨g₁,hg₁,hs⟩:=H.wk k hk;obtain rfl:g=g₁:=by rw [hg] at hg₁;exact Option.some.inj hg₁
 have hdk:=H.deafW k hk;generalize hdd:D k=dk at hs;generalize hpp:PH k=pk at hs;generalize htt:TR k=tk at hs;have lib:∀ {g':Goroutine} {w':World} {es:Array Event} {s' m' dd':Nat} {st' sm':Int},PH k=0→stepG P false g w = .go g' w' es→Aside Wg w w'→w'.drawn=w.drawn→WgAt ty Wg w' st' sm'→(∀ e∈es,Go.ConcR.Bk Wg e∨e=mk (.releaseMerge (stA Wg))) →
   WS P ty Wg C n K (β k) k ⟨s',m',dd'⟩ 0 (TR k) (val k) g' (V (c+k)) w'→deafBehind (D k).deaf es=dd' →
   (s'≤6→(∃ r,RelC Wg (t++MemOp.ofEvents (c+k) g.frame.fn g.frame.place es) (c+k) r)∧Has C k (val k) w') →
   (∀ tag',(tag'=tag∨(tag = .blk∧tag' = .w3))→(mayWake P g=true→g'.status = .running→tag' ≠ .blk)→Go.ConcN.Mode j (Go.ConcN.upd D k ⟨s',m',dd'⟩) tag' st' sm') →
   (tag = .ret→∀ r,RelC Wg t (c+k) r→RelC Wg (t++MemOp.ofEvents (c+k) g.frame.fn g.frame.place es) (c+k) r) →
   ((s' < (D k).stage∧cnt ⟨s',m',dd'⟩≤cnt (D k))∨(s'=(D k).stage∧m' + 1=(D k).fuel)) →
   ∃ m₁ ops μ',runT P (crowd gs w sl) (c+k)=(.next m₁,ops)∧Lt μ' (mu n tag x T f0 c j D PH TR q)∧Inv P ty Wg C n K Anch E1 c Be we Shun μ' m₁ (t++ops):=by
  intro g' w' es s' m' dd' st' sm' hph hgo hAs hdr hwg' hbk hs' hdf hrh hmode' hrel hlt;obtain ⟨cs,hc1,hc2⟩:=H.pay;obtain ⟨V',hr,H'⟩:=H.one G hX hg (fn:=g.frame.fn) (pos:=g.frame.place) (es:=es) (w':=w') (D':=Go.ConcN.upd D k ⟨s',m',dd'⟩) (PH':=Go.ConcN.upd PH k 0) (TR':=Go.ConcN.upd TR k (TR k)) (val':=Go.ConcN.upd val k (val k)) (.inl rfl) hAs.size ⟨hAs.tape,hAs.os,hAs.output,hdr⟩ hAs.block
   ⟨_,_,hwg'⟩ ⟨cs,(hAs.block C G.cw).trans hc1,hc2⟩ (fun k' _ _=>Q2B (hAs.block C G.cw)) (fun e he=>okt_bk hWs ((hbk e he).imp id .inl)) oth
   (fun k' _ e=>by obtain rfl:=eqk e;simp only [upd_same];exact ⟨hs',hdf,hrh⟩)
  refine wDone hA ha H.size hc0 hcs hd0 hacq hk hg hgo H' hr (fun _=>⟨_,_,hwg'⟩) hwg' hmode' hrel ?_;have e2:=Q9b (D:=D) ⟨s',m',dd'⟩ hk;have e3:=fsum_upd (D:=D) ⟨s',m',dd'⟩ hk;have e4:=ph_upd (PH:=PH) (y:=0) hk;have e5:=Vc_upd D ⟨s',m',dd'⟩ hk;have e6:Go.ConcN.upd TR k (TR k)=TR:=Q6V _ _;simp only at e2 e3;rcases hlt with ⟨h1,h2⟩|⟨h1,h2⟩
  ·exact .inl ⟨by omega,by omega⟩
  have ec:cnt (⟨s',m',dd'⟩:WD)=cnt (D k):=by simp only [cnt,h1]
  exact .inr ⟨by omega,by omega,.inr ⟨e6,by omega⟩⟩
 have nr:(D k).stage ≠ 1→tag ≠ .ret:=fun h=>hmode.not_ret hk h;cases hs with
 | v h =>
  have nr7:tag ≠ .ret:=nr (by rw [hdd];simp [cnt]);have stop:Q5P P ty Wg C n K (β k) k g (V (c+k))→∃ m₁ ops μ',runT P (crowd gs w sl) (c+k)=(.next m₁,ops)∧Lt μ' (mu n tag x T f0 c j D PH TR q)∧Inv P ty Wg C n K Anch E1 c Be we Shun μ' m₁ (t++ops):=by
   rintro ⟨_,⟨_,hkn⟩,vl,g',hK,hst,hgo⟩
   obtain ⟨cs,hc1,hc2⟩:=H.pay;have hlt:C<w.heap.size:=(Array.getElem?_eq_some_iff.1 hc1).1;have hnew:(w.setCell ⟨C,k,none⟩ vl).heap[C]? = some (.cells (cs.setIfInBounds k vl) Payload.ety):=by
    simp [World.setCell,Array.getElem?_modify,hc1]
   have hoth:∀ b,b ≠ C→(w.setCell ⟨C,k,none⟩ vl).heap[b]? = w.heap[b]?:=fun b hb=>by
    simp [World.setCell,Array.getElem?_modify,Ne.symm hb]
   have hwg':WgAt ty Wg (w.setCell ⟨C,k,none⟩ vl) st sm:=hwg.of_block (hoth Wg (Ne.symm G.cw));have hhas:Has C k vl (w.setCell ⟨C,k,none⟩ vl):=by
    simp [Has,World.cell?,hnew,hc2,hkn]
   obtain ⟨m,hm⟩:=hgo _ ⟨_,_,hwg'⟩ hhas;obtain ⟨V',hr,H'⟩:=H.one G hX hg (fn:=g.frame.fn) (pos:=g.frame.place) (es:=#[⟨.cell ⟨C,k,none⟩,true,false⟩]) (w':=w.setCell ⟨C,k,none⟩ vl) (D':=Go.ConcN.upd D k ⟨7,m,0⟩) (PH':=Go.ConcN.upd PH k 0) (TR':=Go.ConcN.upd TR k (TR k)) (val':=Go.ConcN.upd val k vl) (.inr rfl) (by simp [World.setCell]) ⟨rfl,rfl,rfl,rfl⟩ hoth
    ⟨_,_,hwg'⟩ ⟨_,hnew,by simp [hc2]⟩ (fun k' _ hne=>by
     have hkk:k ≠ k':=(by omega);simp [World.cell?,hnew,hc1,qE hkk]) (fun e he=>by
     simp only [List.mem_toArray,List.mem_singleton] at he;subst he;refine ⟨hlt,by simp,fun x hx=>?_⟩;simp only [ofEvent_cell,MemAct.touch?,qA] at hx;subst hx;exact .inr (.inr ⟨k,hk,rfl,rfl⟩)) oth
    (fun k' _ e=>by
     obtain rfl:=eqk e;simp only [upd_same];refine ⟨.r hm hK,?_,fun h=>absurd h (by decide)⟩;rw [hdd];exact deafBehind_idle (by simp) 0)
   refine wDone hA ha H.size hc0 hcs hd0 hacq hk hg (hst w (H.und _ hX) H.pay) H' hr (fun _=>⟨_,_,hwg'⟩) hwg' (fun tag' ht _=>?_) (fun e=>absurd e nr7) ?_
   ·exact (hmode.congr fun y hy=>by
     by_cases e:y=k
     ·subst e;rw [upd_same,hdd]
     rw [upd_ne _ _ e]).retag ht
   have e2:=Q9b (D:=D) ⟨7,m,0⟩ hk;have e4:=ph_upd (PH:=PH) (y:=0) hk;have e5:=Vc_upd D ⟨7,m,0⟩ hk;have c1:cnt (D k)=1:=(by rw [hdd];rfl);have c2:cnt (⟨7,m,0⟩:WD)=1:=rfl;rw [hdd] at e2;simp only at e2;exact .inl ⟨by omega,by omega⟩
  cases tk with
  | leaf=>exact stop (h _ (.refl _))
  | node f =>
   rcases h with h|⟨_,h⟩
   ·exact stop (h _ (.refl _))
   obtain ⟨g',v',hss,hG⟩:=h _ (.refl _);obtain ⟨w',es,V',hgo,hv',hry,hwa,hdf,hnr,H'⟩:=H.sim G ⟨_,_,hwg⟩ hX hg (D':=Go.ConcN.upd D k (D k)) (PH':=Go.ConcN.upd PH k (PH k)) (TR':=Go.ConcN.upd TR k (f (V (c+k)))) (val':=Go.ConcN.upd val k (val k)) (by rw [hX0];exact hss) oth
    (fun k' _ e=>by
     obtain rfl:=eqk e;simp only [upd_same];refine ⟨fun w'=>?_,by trivial,by rw [hdd];simp [cnt]⟩;rw [hdd,hpp];exact .v hG)
   rw [hX0] at hgo;refine wDone hA ha H.size hc0 hcs hd0 hacq hk hg hgo H' (hry 0 (.inl rfl) (by omega)) (fun _=>⟨_,_,hwa _ _ hwg⟩) (hwa _ _ hwg) (fun tag' ht _=>?_) (fun e=>absurd e nr7) ?_
   ·exact (hmode.congr fun y hy=>by
     by_cases e:y=k
     ·subst e;rw [upd_same]
     rw [upd_ne _ _ e]).retag ht
   have e6:Go.ConcN.upd D k (D k)=D:=Q6V _ _;have e7:Go.ConcN.upd PH k (PH k)=PH:=Q6V _ _;rw [e6,e7];exact .inr ⟨rfl,rfl,.inl ⟨k,_,hk,⟨f,_,htt,rfl⟩,rfl⟩⟩
 | @r m _ _ _ _ _ h hK =>
  have nr7:tag ≠ .ret:=nr (by rw [hdd];simp [cnt]);rcases Goes.cases h with hstop|⟨m',rfl,hstep⟩
  ·obtain ⟨_,hhas,g',hgo,m₂,hk1⟩:=hstop w (Go.ConcN.RW.refl w);refine lib (s':=6) (m':=m₂) (dd':=0) hpp hgo (.refl Wg w) rfl hwg (by intro e he;simp at he;exact .inr he) (.l (by omega) (.k1 hk1) hK) (by rw [hdd];rfl) (fun _=>⟨⟨t.size,RelC.new (by rw [hdk,hdd]) _ _⟩,by simpa using hhas⟩)
    (fun _ ht _=>(hmode.counted hk (by rw [hdd];simp [cnt]) (.inl rfl) _ _).retag ht) (fun e=>absurd e nr7) (.inl ⟨by rw [hdd];simp [cnt],by rw [hdd];simp [cnt]⟩)
  obtain ⟨g',w',es,hgo,⟨rfl,rfl⟩,hg'⟩:=hstep w (Go.ConcN.RW.refl w);refine lib (s':=7) (m':=m') (dd':=0) hpp hgo (.refl Wg _) rfl hwg (by simp) (.r hg' hK) (by rw [hdd];rfl) (fun h=>absurd h (by decide))
   (fun _ ht _=>Go.ConcN.Mode.retag (by have:=hmode.same (i:=k) m' 0;rw [hdd] at this;exact this) ht) (fun e=>absurd e nr7) (.inr ⟨by rw [hdd],by rw [hdd]⟩)
 | @l s m d _ _ _ _ _ h6 h hK =>
  have hst:(D k).stage=s:=by rw [hdd]
  have hfu:(D k).fuel=m:=by rw [hdd]
  have hde:(D k).deaf=d:=by rw [hdd]
  obtain ⟨r0,hr0⟩:=H.rel k hk (by rw [hst];exact h6);have hh0:=H.has k hk (by rw [hst];exact h6);have hdk':Deaf t (c+k)=d:=by rw [hdk,hde]
  have book:∀ {g':Goroutine} {w':World} {es:Array Event} {s' m' dd':Nat} {st' sm':Int},stepG P false g w = .go g' w' es→Aside Wg w w'→w'.drawn=w.drawn→WgAt ty Wg w' st' sm'→(∀ e∈es,Go.ConcR.Bk Wg e) →
    (∀ i e,es[i]? = some e→(MemAct.ofEvent e).touch? = none∨0<deafBehind d (es.extract 0 i))→WSit P ty Wg C PS.z (OwnC C) NoRd 0 (k+1) (val k) s' m' dd' g' w'→s'≤6→deafBehind d es=dd' →
    (∀ tag',(tag'=tag∨(tag = .blk∧tag' = .w3))→(mayWake P g=true→g'.status = .running→tag' ≠ .blk)→Go.ConcN.Mode j (Go.ConcN.upd D k ⟨s',m',dd'⟩) tag' st' sm') →
    ((s' < s∧cnt ⟨s',m',dd'⟩≤cnt (D k))∨(s'=s∧m' + 1=m)) →
    ∃ m₁ ops μ',runT P (crowd gs w sl) (c+k)=(.next m₁,ops)∧Lt μ' (mu n tag x T f0 c j D PH TR q)∧Inv P ty Wg C n K Anch E1 c Be we Shun μ' m₁ (t++ops):=by
   intro g' w' es s' m' dd' st' sm' hgo hAs hdr hwg' hbk hno hs' h6' hdf hmode' hlt;refine lib hpp hgo hAs hdr hwg' (fun e he=>.inl (hbk e he)) (.l h6' hs' hK) (by rw [hde];exact hdf) (fun _=>⟨⟨r0,hr0.book hdk' _ _ hbk hno⟩,(Q2B (hAs.block C G.cw)).trans hh0⟩) hmode' (fun _ r hr=>hr.book hdk' _ _ hbk hno) (by rw [hst,hfu];exact hlt)
  have idle:∀ {g':Goroutine} {m':Nat},stepG P false g w = .go g' w #[]→WSit P ty Wg C PS.z (OwnC C) NoRd 0 (k+1) (val k) s m' d g' w→m' + 1=m →
    ∃ m₁ ops μ',runT P (crowd gs w sl) (c+k)=(.next m₁,ops)∧Lt μ' (mu n tag x T f0 c j D PH TR q)∧Inv P ty Wg C n K Anch E1 c Be we Shun μ' m₁ (t++ops):=by
   intro g' m' hgo hs' hm;exact book hgo (.refl Wg w) rfl hwg (by simp) (by simp) hs' h6 rfl (fun _ ht _=>Go.ConcN.Mode.retag (by have:=hmode.same (i:=k) m' d;rwa [hst] at this) ht) (.inr ⟨rfl,hm⟩)
  have one1:∀ (b:Event),(∀ a wr,b=⟨.cell a,wr,true⟩→0<d)→Go.ConcR.Bk Wg b→∀ i e,(#[b]:Array Event)[i]? = some e→(MemAct.ofEvent e).touch? = none∨0<deafBehind d ((#[b]:Array Event).extract 0 i):=by
   intro b hb hbk i e he
   match i,he with
   | 0,he =>
    simp at he;subst he;rcases hbk with h1|h1|⟨a,wr,rfl,_⟩
    ·exact .inl (by rw [ofEvent_loc_mark h1];rfl)
    ·exact .inl (by rw [ofEvent_loc_mark h1];rfl)
    exact .inr (by simpa [deafBehind] using hb _ _ rfl)
   | i+1,he=>simp at he
  cases h with
  | r0 h=>omega
  | k1 h =>
   rcases Goes.cases h with hstop|⟨m',rfl,hstep⟩
   ·obtain ⟨_,g',hgo,m₂,hk1⟩:=hstop w (Go.ConcN.RW.refl w);exact book hgo (.refl Wg w) rfl hwg bk_dis (one1 _ (by intro a wr e;simp [mk] at e) (.inl rfl)) (.d1 hk1) (by omega) rfl (fun _ ht _=>(hmode.counted hk (by rw [hst];decide) (.inr rfl) _ _).retag ht) (.inl ⟨by omega,by rw [hdd];simp [cnt]⟩)
   obtain ⟨g',w',es,hgo,⟨rfl,rfl⟩,hg'⟩:=hstep w (Go.ConcN.RW.refl w);exact idle hgo (.k1 hg') rfl
  | d1 h =>
   rcases Goes.cases h with hstop|⟨m',rfl,hstep⟩
   ·obtain ⟨_,hall⟩:=hstop w (Go.ConcN.RW.refl w);have hc1:cnt (D k)=1:=(by rw [hdd];rfl);have hV1:1≤Vc j D:=(by have:=le_sumTo (f:=fun x=>cnt (D x)) hk;simp only [Vc];omega);have df2:∀ i e,(#[rd (stA Wg),Go.ConcR.wr (stA Wg)]:Array Event)[i]? = some e→(MemAct.ofEvent e).touch? = none∨0<deafBehind 1 ((#[rd (stA Wg),Go.ConcR.wr (stA Wg)]:Array Event).extract 0 i):=by
     intro i e he
     match i,he with
     | 0,_=>exact .inr (by simp [deafBehind])
     | 1,_=>exact .inr (by simp [deafBehind,rd])
     | i+2,he=>simp at he
    have opq:∀ z,OpenSt j D→OpenSt j (Go.ConcN.upd D k ⟨1,z,1⟩):=fun z h y hy=>by
     by_cases e:y=k
     ·subst e;rw [upd_same];simp
     rw [upd_ne D _ e];exact h y hy
    have vq:∀ z,Vc j (Go.ConcN.upd D k ⟨1,z,1⟩)+1=Vc j D:=fun z=>by have:=Vc_upd D (⟨1,z,1⟩:WD) hk;have:cnt (⟨1,z,1⟩:WD)=0:=rfl;omega
    cases hmode with
    | opn h1 h2 h3 =>
     obtain ⟨v,hv⟩:∃ v,Vc j D+pend tag=v+1:=⟨Vc j D+pend tag - 1,by omega⟩;rw [hv] at hwg;have hw1:WgAt ty Wg w (((v:Nat)+1) * KK+((0:Nat):Int)) 0:=(by simpa using hwg);obtain ⟨g',hgo,_,hz⟩:=hall v 0 (by omega) (by omega) hw1;obtain ⟨z,hz⟩:=hz (by omega);have hv':Vc j (Go.ConcN.upd D k ⟨1,z,1⟩)+pend tag=v:=(by have:=vq z;omega);refine book hgo (aside_setCell w (stA Wg) _) rfl (hwg.setSt _) bk_rw df2 (.quit hz) (by omega) rfl (fun tag' ht _=>Go.ConcN.Mode.retag ?_ ht) (.inl ⟨by omega,by rw [hdd];simp [cnt]⟩);have e:((v:Nat):Int) * KK+((0:Nat):Int)=((Vc j (Go.ConcN.upd D k ⟨1,z,1⟩)+pend tag:Nat):Int) * KK:=(by rw [hv'];simp);rw [e];exact .opn h1 (opq z h2) (fun vs ev=>by have:=h3 vs ev;have:=vq z;omega)
    | reg h1 h2 h3 =>
     obtain ⟨v,hv⟩:∃ v,Vc j D=v+1:=⟨Vc j D - 1,by omega⟩;rw [hv] at hwg;have hw1:WgAt ty Wg w (((v:Nat)+1) * KK+((1:Nat):Int)) 0:=(by simpa using hwg);obtain ⟨g',hgo,hl,hz⟩:=hall v 1 (by omega) (by omega) hw1
     by_cases hv0:v=0
     ·subst hv0;obtain ⟨m₂,hk2⟩:=hl ⟨rfl,rfl⟩;refine book hgo (aside_setCell w (stA Wg) _) rfl (hwg.setSt _) bk_rw df2 (.d2 hk2) (by omega) rfl (fun tag' ht _=>Go.ConcN.Mode.retag ?_ ht) (.inl ⟨by omega,by rw [hdd];simp [cnt]⟩);have hoth:∀ y,y<j→y ≠ k→(D y).stage=1:=fun y hy e=>by
       have c0:=others_uncounted hk hv hc1 y hy e;have:=h2 y hy;simp only [cnt] at c0;split at c0<;>omega
      have:=Go.ConcN.Mode.last (j:=j) (D:=Go.ConcN.upd D k ⟨4,m₂,1⟩) (tag:=tag) k h1 hk (by rw [upd_same];simp) (fun y hy e=>by rw [upd_ne D _ e];exact hoth y hy e);rw [upd_same] at this;simpa using this
     obtain ⟨z,hz⟩:=hz (by omega);refine book hgo (aside_setCell w (stA Wg) _) rfl (hwg.setSt _) bk_rw df2 (.quit hz) (by omega) rfl (fun tag' ht _=>Go.ConcN.Mode.retag ?_ ht) (.inl ⟨by omega,by rw [hdd];simp [cnt]⟩);have hv':Vc j (Go.ConcN.upd D k ⟨1,z,1⟩)=v:=(by have:=vq z;omega);have e:((v:Nat):Int) * KK+((1:Nat):Int)=((Vc j (Go.ConcN.upd D k ⟨1,z,1⟩):Nat):Int) * KK+1:=(by rw [hv'];simp);rw [e];exact .reg h1 (opq z h2) (by omega)
    | last L _ h2 h3 h4 =>
     by_cases e:k=L
     ·subst e;omega
     have:=h4 k hk e;omega
    | sema h2=>have:=h2 k hk;omega
    | fin _ h2=>have:=h2 k hk;omega
   obtain ⟨g',w',es,hgo,⟨rfl,rfl⟩,hg'⟩:=hstep w (Go.ConcN.RW.refl w);exact idle hgo (.d1 hg') rfl
  | d2 h =>
   rcases Goes.cases h with hstop|⟨m',rfl,hstep⟩
   ·obtain ⟨_,hx⟩:=hstop w (Go.ConcN.RW.refl w);obtain ⟨hW3,hoth,rfl,rfl⟩:=hmode.isLast hk (by omega);simp only [hst] at hwg;obtain ⟨g',hgo,m₂,hk2⟩:=hx (by simpa using hwg);refine book hgo (.refl Wg w) rfl hwg bk_rd (one1 _ (fun _ _ _=>by decide) (bk_rd _ (by simp))) (.d3 hk2) (by omega) rfl (fun tag' ht _=>Go.ConcN.Mode.retag ?_ ht) (.inl ⟨by omega,by rw [hdd];simp [cnt]⟩);have:=Go.ConcN.Mode.last (j:=j) (D:=Go.ConcN.upd D k ⟨3,m₂,1⟩) (tag:=tag) k hW3 hk (by rw [upd_same];simp) (fun y hy e=>by rw [upd_ne D _ e];exact hoth y hy e);rw [upd_same] at this;simpa using this
   obtain ⟨g',w',es,hgo,⟨rfl,rfl⟩,hg'⟩:=hstep w (Go.ConcN.RW.refl w);exact idle hgo (.d2 hg') rfl
  | d3 h =>
   rcases Goes.cases h with hstop|⟨m',rfl,hstep⟩
   ·obtain ⟨_,hx⟩:=hstop w (Go.ConcN.RW.refl w);obtain ⟨hW3,hoth,rfl,rfl⟩:=hmode.isLast hk (by omega);simp only [hst] at hwg;obtain ⟨g',hgo,m₂,hk2⟩:=hx (by simpa using hwg);refine book hgo (aside_setCell w (stA Wg) _) rfl (hwg.setSt 0) (by intro e he;simp at he;subst he;exact bk_cell _ _ rfl) (one1 _ (fun _ _ _=>by decide) (bk_cell _ _ rfl)) (.d4 hk2) (by omega) rfl (fun tag' ht _=>Go.ConcN.Mode.retag ?_ ht) (.inl ⟨by omega,by rw [hdd];simp [cnt]⟩);have:=Go.ConcN.Mode.last (j:=j) (D:=Go.ConcN.upd D k ⟨2,m₂,1⟩) (tag:=tag) k hW3 hk (by rw [upd_same];simp) (fun y hy e=>by rw [upd_ne D _ e];exact hoth y hy e);rw [upd_same] at this;simpa using this
   obtain ⟨g',w',es,hgo,⟨rfl,rfl⟩,hg'⟩:=hstep w (Go.ConcN.RW.refl w);exact idle hgo (.d3 hg') rfl
  | d4 h =>
   rcases Goes.cases h with hstop|⟨m',rfl,hstep⟩
   ·obtain ⟨_,hmw,hx⟩:=hstop w (Go.ConcN.RW.refl w);obtain ⟨hW3,hoth,rfl,rfl⟩:=hmode.isLast hk (by omega);simp only [hst] at hwg;obtain ⟨g',hgo,z,hz⟩:=hx (by simpa using hwg);have hrun':g'.status = .running:=by
     cases z with
     | zero=>exact absurd hz.2 (by decide)
     | succ z=>exact hz.elim (fun x=>absurd x.2 (by decide)) (fun x=>x.1)
    refine book hgo (aside_setCell w (smA Wg) _) rfl (hwg.setSm 1) (es:=semEvents (smA Wg)) bk_sem ?_ (.quit hz) (by omega) (by simp [deafBehind,semEvents]) (fun tag' ht hw=>?_) (.inl ⟨by omega,by rw [hdd];simp [cnt]⟩)
    ·intro i e he
     match i,he with
     | 0,he=>simp [semEvents] at he;subst he;exact .inl rfl
     | 1,_=>exact .inr (by simp [deafBehind,semEvents])
     | 2,_=>exact .inr (by simp [deafBehind,semEvents])
     | 3,he=>simp [semEvents] at he;subst he;exact .inl rfl
     | i+4,he=>simp [semEvents] at he
    have hnb:=hw hmw hrun';have e3:tag' = .w3:=by
     rcases ht with rfl|⟨_,rfl⟩
     ·cases tag'<;>first|rfl|exact hW3.elim|exact absurd rfl hnb
     rfl
    subst e3;simp only [hst,if_true];exact .sema fun y hy=>by
     by_cases e:y=k
     ·subst e;rw [upd_same]
     rw [upd_ne D _ e];exact hoth y hy e
   obtain ⟨g',w',es,hgo,⟨rfl,rfl⟩,hg'⟩:=hstep w (Go.ConcN.RW.refl w);exact idle hgo (.d4 hg') rfl
  | quit h =>
   cases m with
   | zero=>rw [h.1] at hrun;cases hrun
   | succ z =>
    rcases h with ⟨hf,_⟩|⟨_,g',es,hmute,hstep,hz⟩
    ·rw [hf] at hrun;cases hrun
    have hbk:∀ e∈es,Go.ConcR.Bk Wg e:=fun e he=>bk_of_mute (hmute e he);have hno:∀ i e,es[i]? = some e→(MemAct.ofEvent e).touch? = none∨0<deafBehind d (es.extract 0 i):=fun i e he=>.inl (touch_mute (hmute e (Array.mem_of_getElem? he)));exact book (hstep w) (.refl Wg w) rfl hwg hbk hno (.quit hz) (by omega) rfl (fun _ ht _=>Go.ConcN.Mode.retag (by have:=hmode.same (i:=k) z (deafBehind d es);rwa [hst] at this) ht) (.inr ⟨rfl,rfl⟩)
end
end Go.Vc.Ph
