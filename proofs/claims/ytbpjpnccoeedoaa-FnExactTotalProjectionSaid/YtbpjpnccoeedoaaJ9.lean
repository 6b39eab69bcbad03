/- A part of the proof: a verified generator of conditions, and what each function of the program does. -/
import Derived.Test.YtbpjpnccoeedoaaJ8
set_option maxRecDepth 100000
set_option maxHeartbeats 4000000
set_option linter.unusedSimpArgs false
set_option linter.unusedVariables false

namespace Go.Vc.T
open Go Go.Vc Go.Proofs
attribute [local simp] eL eI Qw QH Q2e Cat.cells Fn.cells
noncomputable def Q2A (f_:Fn) (g_:Fn):Option Fn :=
 (Q2y f_.ob g_.ob).bind fun v1 =>
 (Q2y f_.ar g_.ar).bind fun v2 =>
 (Q1D f_.s g_.t v1 v2).bind fun v3 =>
 some v3
theorem wkQ9 {F : Fx} {st st' : St} (m : List (Nat × Nat)) (h : (m.map Prod.fst).Nodup ∧ (m.map Prod.snd).Nodup ∧ (∀ id, id < F.pins → look id m = some id) ∧ (∀ p ∈ m, p.2 < st'.n) ∧ (∀ p ∈ st'.h, p.1 < st'.n) ∧ (∀ p ∈ st'.s, p.2 = rl m (st.get p.1) ∨ p.2 = .bot) ∧ ∀ p ∈ st'.h, hhOk m st.h p.1 p.2 := by simp [hP, hhOk, back, Cat.cells, Fn.cells, UA, U1, IA, I1, LA, L1, BA, B1, EA, E1, E2, eB, eI, eL, Fam.cells]) : Wk F st st' := Wk.r1 m h
theorem Q8e (f_:Fn) (g_:Fn) (r:Fn) (h:Q2A f_ g_=some r):Contract Try.prog 139 [.agg (f_.cells true),.agg (g_.cells true)] (.agg (r.cells true)):=by
 refine Qf (rvs:=[.cell 4 44]) (rs:=[.agg (r.cells true)]) Try.func139 rfl rfl rfl rfl (by simp [Try.f139]) fun F hN hP=>?_;unfold Q2A at h;refine Q4 ?_;refine runQ hN fun K hK=>?_;simp [-Q0,-Q6,-Q1,-Q7,-Q2];repeat refine sdQ ?_
 refine hK _ ?_;clear hK K;refine tn ?_;refine Q8 (st':=⟨[(2,.adr 0 0 0),(3,.adr 1 0 0),(4,.adr 2 0 0)],[(0,.mix 12 [(Fn.cells true f_)]),(1,.mix 12 [(Fn.cells true g_)]),(2,.mix 12 [[iV 0,.val (.slice none 0 0),.val (.slice none 0 0),.val (.slice none 0 0),.val (.slice none 0 0),iV 0,.val (.slice none 0 0),.val (.slice none 0 0),.val (.slice none 0 0),.val (.slice none 0 0),.val (.slice none 0 0),.val (.slice none 0 0)]])],3⟩) (wkQ9 [(0,0),(1,1),(2,2)]) ?_;refine Q4 ?_;refine runQ hN fun K hK=>?_;simp [-Q0,-Q6,-Q1,-Q7,-Q2];repeat with_reducible refine sdQ ?_
 replace h:=bind_some h;obtain ⟨v1,hv1,h⟩:=h;refine Q3 (Q5v _ _ v1 hv1) (.cons .lst (.cons .lst .nil)) ?_;simp [-Q0,-Q6,-Q1,-Q7,-Q2,unk,unA,unE,unT,unC,flat];repeat with_reducible refine sdQ ?_
 replace h:=bind_some h;obtain ⟨v2,hv2,h⟩:=h;refine Q3 (Q5v _ _ v2 hv2) (.cons .lst (.cons .lst .nil)) ?_;simp [-Q0,-Q6,-Q1,-Q7,-Q2,unk,unA,unE,unT,unC,flat];repeat with_reducible refine sdQ ?_
 replace h:=bind_some h;obtain ⟨v3,hv3,h⟩:=h;refine Q3 (Q41 _ _ _ _ v3 hv3) (.cons (.aggL (.cons .val (.cons .lst (.cons .lst (.cons .lst (.cons .lst .nil)))))) (.cons (.aggL (.cons .val (.cons .lst (.cons .lst (.cons .lst (.cons .lst .nil)))))) (.cons (.whole (by simp) (by simp) (by simp)) (.cons (.whole (by simp) (by simp) (by simp)) .nil)))) ?_;simp [-Q0,-Q6,-Q1,-Q7,-Q2,unk,unA,unE,unT,unC,flat];repeat refine sdQ ?_
 refine hK _ ?_;clear hK K;refine tn ?_;refine Q8 (st':=⟨[(4,.adr 0 0 0)],[(0,.mix 12 [[iV v3.s.n,.own 1 0 v3.s.fr.length,.own 2 0 v3.s.to.length,.own 3 0 v3.s.id.length,.own 4 0 v3.s.cs.length,iV v3.t.n,.own 5 0 v3.t.fr.length,.own 6 0 v3.t.to.length,.own 7 0 v3.t.id.length,.own 8 0 v3.t.cs.length,.own 9 0 v3.ob.length,.own 10 0 v3.ar.length]]),(1,rI v3.s.fr),(2,rI v3.s.to),(3,rI v3.s.id),(4,.row 1 (Ls v3.s.cs)),(5,rI v3.t.fr),(6,rI v3.t.to),(7,rI v3.t.id),(8,.row 1 (Ls v3.t.cs)),(9,rI v3.ob),(10,rI v3.ar)],11⟩) (wkQ9 [(2,0),(6,1),(7,2),(8,3),(9,4),(11,5),(12,6),(13,7),(14,8),(15,9),(16,10)]) ?_;refine Qg ?_;have hr:=Option.some.inj h;rw [← hr];refine ⟨_,(.cell Q3U rfl rfl rfl (by simp) (by simp) .nil),?_⟩;refine ⟨(.agg rfl .nil),[iV v3.s.n,lI v3.s.fr,lI v3.s.to,lI v3.s.id,.lst true 1 (Ls v3.s.cs),iV v3.t.n,lI v3.t.fr,lI v3.t.to,lI v3.t.id,.lst true 1 (Ls v3.t.cs),lI v3.ob,lI v3.ar],[1,2,3,4,5,6,7,8,9,10],by simp [Cat.cells,Fn.cells,UA,U1,IA,I1,LA,L1,BA,B1,EA,E1,E2,eB,eI,eL],by simp,(UpL.refl _)⟩
theorem ix_thenL (f g:List Int) {j:Int} (h0:0≤j) (h1:j<f.length):ix (Q1q f g) j=ix g (ix f j):=by
 obtain ⟨i,rfl⟩:∃ i:Nat,j=i:=⟨j.toNat,by omega⟩;have hi:i<f.length:=by omega
 rw [← Q1p _ _ (show i<(Q1q f g).length by simpa [Q1q] using hi),← Q1p _ _ hi];simp [Q1q]
theorem ix_iota (n:Nat) {j:Int} (h0:0≤j) (h1:j<n):ix (iota n) j=j:=by
 obtain ⟨i,rfl⟩:∃ i:Nat,j=i:=⟨j.toNat,by omega⟩;rw [← Q1p _ _ (show i<(iota n).length by simp [iota];omega)];simp [iota]
theorem set_fill {α:Type} (xs:List α) (k:Nat) (v z:α) {i:Nat} (h:i=xs.length):(xs++List.replicate (k+1) z).set i v=(xs++[v])++List.replicate k z:=by
 subst h;simp [List.replicate_succ]
theorem Q6c {f:List Int} {n:Int} (h:∀ j:Nat,j<f.length→0≤ix f j∧ix f j<n):∀ y∈f,0≤y∧y<n:=by
 intro y hy;obtain ⟨i,hi,rfl⟩:=List.getElem_of_mem hy;rw [Q1p _ _ hi];exact h i hi
def Q5o (c:Cat):Fn:=⟨c,c,iota c.n.toNat,iota c.fr.length⟩
def Q9D (f g:Fn):Fn:=⟨f.s,g.t,Q1q f.ob g.ob,Q1q f.ar g.ar⟩
theorem Cat.Is.ok {c:Cat} (h:c.Is):c.ok:=h.1.size2.1
theorem Fn.Is.lob {f:Fn} (h:f.Is):f.ob.length≤8:=by have:=h.lo;have:=h.s.1.n8;omega
theorem Fn.Is.lar {f:Fn} (h:f.Is):f.ar.length≤40:=by have:=h.la;have:=h.s.1.m40;omega
theorem Q5b {c d:Cat} {ob ar:List Int} (hc:c.ok) (hd:d.ok) (ho:ob.length≤1048576) (ha:ar.length≤1048576):Q1D c d ob ar=some ⟨c,d,ob,ar⟩:=by
 simp [Q1D,Q2S,Q2R,hc,hd,ho,ha]
theorem Q5a {c d:Cat} {ob ar:List Int} (hc:c.ok) (hd:d.ok) (ho:ob.length≤1048576) (ha:ar.length≤1048576):Q1B c d ob ar=some ⟨c,d,ob,ar⟩:=by
 simp [Q1B,Q15,Q3o,hc,hd,ho,ha]
theorem e_numbers {n:Int} (h0:0≤n) (h1:n≤1048576):Q1V n=some (iota n.toNat):=by
 unfold Q1V;rw [Q9 (by omega)];simp only [List.length_replicate];refine QG n.toNat (fun i:Nat=>iota i++List.replicate (n.toNat - i) 0) (e:=iota n.toNat) (by simp [iota]) (by omega) (fun i hi=>?_) (by simp) (by simp);obtain ⟨k,hk⟩:∃ k,n.toNat - i=k+1:=⟨n.toNat - i - 1,by omega⟩;have hl:(iota i).length=i:=by simp [iota]
 have hs:=set_fill (iota i) k (i:Int) 0 (i:=i) (by rw [hl]);rw [Q5g,hk,show n.toNat - (i+1)=k by omega,← hs];simp (disch:=omega) [Q9,B64,hl];omega
theorem Q91 {c:Cat} (h:c.Is):Q28 c=some (Q5o c):=by
 have:=h.1.n0;have:=h.1.n8;have:=h.1.m40;simp (disch:=(first|exact h.ok|(simp [iota];omega)|omega)) only [Q28,Qr,e_numbers,Q5a,Option.bind_some];simp [Q5o]
theorem e_l06Self {c:Cat} (h:c.Is):Q2z c=some (Q5o c):=by
 have n0:=h.1.n0;have n8:=h.1.n8;have m40:=h.1.m40;unfold Q2z;refine QG c.n.toNat (fun i:Nat=>iota i) (e:=iota c.n.toNat) (by simp [iota]) (by omega) (fun i hi=>?_) (by simp;omega) ?_
 ·have hl:(iota i).length=i:=by simp [iota]
  simp (disch:=omega) [Q9,B64,Q5g,hl];omega
 refine QG c.fr.length (fun i:Nat=>iota i) (e:=iota c.fr.length) (by simp [iota]) (by omega) (fun i hi=>?_) (by simp) ?_
 ·have hl:(iota i).length=i:=by simp [iota]
  simp (disch:=omega) [Q9,B64,Q5g,hl];omega
 rw [Q5b h.ok h.ok (by simp [iota];omega) (by simp [iota];omega)];rfl
theorem e_l06Then {f g:Fn} (hf:f.Is) (hg:g.Is) (h:f.t=g.s):Q2A f g=some (Q9D f g):=by
 have h1:=hf.lob;have h2:=hf.lar;have h3:∀ y∈f.ob,0≤y∧y<(g.ob.length:Int):=Q6c (by rw [hg.lo,← h];exact hf.ob);have h4:∀ y∈f.ar,0≤y∧y<(g.ar.length:Int):=Q6c (by rw [hg.la,← h];exact hf.ar);unfold Q2A Q2y;rw [Q9 (by omega),Q9 h3,Q9 (by omega),Q9 h4];simp only [Option.bind_some];rw [Q5b hf.s.ok hg.t.ok (by simp [Q1q];omega) (by simp [Q1q];omega)];rfl
theorem e_Fthen {f g:Fn} (hf:f.Is) (hg:g.Is) (h:f.t=g.s):Q1g f g=some (Q9D f g):=by
 have h1:=hf.lob;have h2:=hf.lar;have h3:∀ y∈f.ob,0≤y∧y<(g.ob.length:Int):=Q6c (by rw [hg.lo,← h];exact hf.ob);have h4:∀ y∈f.ar,0≤y∧y<(g.ar.length:Int):=Q6c (by rw [hg.la,← h];exact hf.ar);unfold Q1g Q4i;rw [Q9 (by omega),Q9 h3,Q9 (by omega),Q9 h4];simp only [Option.bind_some];rw [Q5a hf.s.ok hg.t.ok (by simp [Q1q];omega) (by simp [Q1q];omega)];rfl
attribute [local simp] eL eI Qw QH Q2e Cat.cells Fn.cells
noncomputable def Q1f (f_:Fn):Option Bool :=
 (
  if ¬ ((f_.ob.length:Int)=f_.s.n) then
   some true
  else
   (Qr f_.s).bind fun v3 =>
   if ¬ ((f_.ar.length:Int)=v3) then
    some true
   else
    (Q1W f_.ob f_.t.n).bind fun v5 =>
    if ¬ (v5=true) then
     some true
    else
     (Qr f_.t).bind fun v7 =>
     (Q1W f_.ar v7).bind fun v8 =>
     some (!v8):Option (Bool)).bind fun b1 =>
 if b1=true then
  some false
 else
  (QC (σ:=Int) (ε:=Unit ⊕ Bool) (fun s23 =>
   if s23<(f_.ar.length:Int) then
    ass (0≤s23∧s23<(f_.ar.length:Int)) <|
    (
     ass (0≤ix f_.ar s23∧ix f_.ar s23<(f_.t.fr.length:Int)) <|
     ass (0≤s23∧s23<(f_.s.fr.length:Int)) <|
     ass (0≤ix f_.s.fr s23∧ix f_.s.fr s23<(f_.ob.length:Int)) <|
     if ¬ ((ix f_.t.fr (ix f_.ar s23))=(ix f_.ob (ix f_.s.fr s23))) then
      some true
     else
      ass (0≤ix f_.ar s23∧ix f_.ar s23<(f_.t.to.length:Int)) <|
      ass (0≤s23∧s23<(f_.s.to.length:Int)) <|
      ass (0≤ix f_.s.to s23∧ix f_.s.to s23<(f_.ob.length:Int)) <|
      some ((ix f_.t.to (ix f_.ar s23)) != (ix f_.ob (ix f_.s.to s23))):Option (Bool)).bind fun b26 =>
    if b26=true then
     some (Ctl.ret (Sum.inr false))
    else
     ass (B64 (s23+1)) <|
     some (Ctl.next (s23+1))
   else
    some (Ctl.ret (Sum.inl ()))) fuel 0).bind fun e10 =>
  match e10 with
  | .inl b10 =>
   (QC (σ:=Int) (ε:=Unit ⊕ Bool) (fun s44 =>
    if s44<(f_.s.id.length:Int) then
     ass (0≤s44∧s44<(f_.s.id.length:Int)) <|
     ass (0≤ix f_.s.id s44∧ix f_.s.id s44<(f_.ar.length:Int)) <|
     ass (0≤s44∧s44<(f_.ob.length:Int)) <|
     ass (0≤ix f_.ob s44∧ix f_.ob s44<(f_.t.id.length:Int)) <|
     if ¬ ((ix f_.ar (ix f_.s.id s44))=(ix f_.t.id (ix f_.ob s44))) then
      some (Ctl.ret (Sum.inr false))
     else
      ass (B64 (s44+1)) <|
      some (Ctl.next (s44+1))
    else
     some (Ctl.ret (Sum.inl ()))) fuel 0).bind fun e36 =>
   match e36 with
   | .inl b36 =>
    (QC (σ:=Int) (ε:=Unit ⊕ Bool) (fun s78 =>
     if s78<(f_.s.cs.length:Int) then
      (
       ass (0≤s78∧s78<(f_.s.cs.length:Int)) <|
       (QC (σ:=Int) (ε:=Bool ⊕ Unit) (fun s92 =>
        if s92<((rx f_.s.cs s78).length:Int) then
         ass (0≤s92∧s92<((rx f_.s.cs s78).length:Int)) <|
         (
          if (ix (rx f_.s.cs s78) s92) ≥ 0 then
           ass (0≤ix (rx f_.s.cs s78) s92∧ix (rx f_.s.cs s78) s92<(f_.ar.length:Int)) <|
           ass (0≤s78∧s78<(f_.ar.length:Int)) <|
           ass (0≤s92∧s92<(f_.ar.length:Int)) <|
           (QA f_.t (ix f_.ar s78) (ix f_.ar s92)).bind fun v100 =>
           some ((ix f_.ar (ix (rx f_.s.cs s78) s92)) != v100)
          else
           some false:Option (Bool)).bind fun b95 =>
         if b95=true then
          some (Ctl.ret (Sum.inl false))
         else
          ass (B64 (s92+1)) <|
          some (Ctl.next (s92+1))
        else
         some (Ctl.ret (Sum.inr ()))) fuel 0).bind fun e92 =>
       match e92 with
       | .inl p92 =>
        some (Sum.inr p92)
       | .inr p92 =>
        some (Sum.inl p92):Option (Unit ⊕ Bool)).bind fun e80 =>
      match e80 with
      | .inl b80 =>
       ass (B64 (s78+1)) <|
       some (Ctl.next (s78+1))
      | .inr p80 =>
       some (Ctl.ret (Sum.inr p80))
     else
      some (Ctl.ret (Sum.inl ()))) fuel 0).bind fun e52 =>
    match e52 with
    | .inl b52 =>
     some true
    | .inr p52 =>
     some p52
   | .inr p36 =>
    some p36
  | .inr p10 =>
   some p10
theorem Q4S (f_:Fn) (r:Bool) (h:Q1f f_=some r):Contract Try.prog 154 [.rptr (f_.cells true)] (.val (.bool r)):=by
 refine Qf (rvs:=[.tmp 2]) (rs:=[.val (.bool r)]) Try.func154 rfl rfl rfl rfl (by simp [Try.f154]) fun F hN hP=>?_;unfold Q1f at h;refine Q4 ?_;refine runQ hN fun K hK=>?_;simp [-Q0,-Q6,-Q1,-Q7,-Q2];repeat refine sdQ ?_
 refine hK _ ?_;clear hK K;refine tn ?_;refine Q8 (st':=⟨[(0,.rptr (Fn.cells true f_))],[],0⟩) (wkQ9 []) ?_;refine Q4 ?_;refine runQ hN fun K hK=>?_;simp [-Q0,-Q6,-Q1,-Q7,-Q2];repeat refine sdQ ?_
 refine hK _ ?_;clear hK K;refine tn ?_;refine Q8 (st':=⟨[(0,.rptr (Fn.cells true f_)),(3,.rptr (Fn.cells true f_)),(4,.rptr [iV f_.t.n,lI f_.t.fr,lI f_.t.to,lI f_.t.id,.lst true 1 (Ls f_.t.cs),lI f_.ob,lI f_.ar])],[],0⟩) (wkQ9 []) ?_;refine Q4 ?_;refine Q4 ?_;replace h:=bind_some h;obtain ⟨e1,h,h1⟩:=h;refine Qh (fun b1:Bool=>⟨[(0,.rptr (Fn.cells true f_)),(3,.rptr (Fn.cells true f_)),(4,.rptr [iV f_.t.n,lI f_.t.fr,lI f_.t.to,lI f_.t.id,.lst true 1 (Ls f_.t.cs),lI f_.ob,lI f_.ar]),(60,.val (.bool b1))],[],0⟩) (fun b1=>b1=e1) ?_ ?_
 ·refine runQ hN fun K hK=>?_;simp [-Q0,-Q6,-Q1,-Q7,-Q2];repeat with_reducible refine sdQ ?_
  refine Qq (fun g=>?_) (fun g=>?_)
  ·have g2:¬ (¬ ((f_.ob.length:Int)=f_.s.n)):=gQ;clear g;replace h:=if_r g2 h;simp [-Q0,-Q6,-Q1,-Q7,-Q2];(repeat with_reducible refine sdQ ?_);replace h:=bind_some h;obtain ⟨v3,hv3,h⟩:=h;refine Q3 (QX _ v3 hv3) (.cons (.preT (by simp [Cat.cells,Fn.cells])) .nil) ?_;simp [-Q0,-Q6,-Q1,-Q7,-Q2,unk,unA,unE,unT,unC,flat];(repeat with_reducible refine sdQ ?_);refine Qq (fun g=>?_) (fun g=>?_)
   ·have g4:¬ (¬ ((f_.ar.length:Int)=v3)):=gQ;clear g;replace h:=if_r g4 h;simp [-Q0,-Q6,-Q1,-Q7,-Q2];(repeat with_reducible refine sdQ ?_);replace h:=bind_some h;obtain ⟨v5,hv5,h⟩:=h;refine Q3 (Q5Y _ _ v5 hv5) (.cons .lst (.cons .val .nil)) ?_;simp [-Q0,-Q6,-Q1,-Q7,-Q2,unk,unA,unE,unT,unC,flat];(repeat with_reducible refine sdQ ?_);refine Qq (fun g=>?_) (fun g=>?_)
    ·have g6:¬ (¬ (v5=true)):=gQ;clear g;replace h:=if_r g6 h;simp [-Q0,-Q6,-Q1,-Q7,-Q2];(repeat with_reducible refine sdQ ?_);replace h:=bind_some h;obtain ⟨v7,hv7,h⟩:=h;refine Q3 (QX _ v7 hv7) (.cons (.preT (by simp [Cat.cells,Fn.cells])) .nil) ?_;simp [-Q0,-Q6,-Q1,-Q7,-Q2,unk,unA,unE,unT,unC,flat];(repeat with_reducible refine sdQ ?_);replace h:=bind_some h;obtain ⟨v8,hv8,h⟩:=h;refine Q3 (Q5Y _ _ v8 hv8) (.cons .lst (.cons .val .nil)) ?_;simp [-Q0,-Q6,-Q1,-Q7,-Q2,unk,unA,unE,unT,unC,flat];(repeat refine sdQ ?_);refine hK _ ?_;exact jn (b:=!v8) (Option.some.inj h) (wkQ9 [])
    have g6:¬ (v5=true):=gQ;clear g;replace h:=if_l g6 h;simp [-Q0,-Q6,-Q1,-Q7,-Q2];(repeat refine sdQ ?_);refine hK _ ?_;exact jn (b:=true) (Option.some.inj h) (wkQ9 [])
   have g4:¬ ((f_.ar.length:Int)=v3):=gQ;clear g;replace h:=if_l g4 h;simp [-Q0,-Q6,-Q1,-Q7,-Q2];(repeat refine sdQ ?_);refine hK _ ?_;exact jn (b:=true) (Option.some.inj h) (wkQ9 [])
  have g2:¬ ((f_.ob.length:Int)=f_.s.n):=gQ;clear g;replace h:=if_l g2 h;simp [-Q0,-Q6,-Q1,-Q7,-Q2];repeat refine sdQ ?_
  refine hK _ ?_;exact jn (b:=true) (Option.some.inj h) (wkQ9 [])
 intro b1 hb1;have h:=h1;try rw [← hb1] at h
 clear h1;try dsimp only at h
 refine Qc rfl (fun g=>?_) fun g=>?_
 ·have g9:b1=true:=gQ;clear g;replace h:=if_l g9 h;refine Q4 ?_;refine runQ hN fun K hK=>?_;simp [-Q0,-Q6,-Q1,-Q7,-Q2];repeat refine sdQ ?_
  refine hK _ ?_;clear hK K;refine tn ?_;refine Q8 (st':=⟨[(2,.val (.bool false))],[],0⟩) (wkQ9 []) ?_;refine Qg ?_;refine tr ?_;have hr:=Option.some.inj h;rw [← hr];refine ⟨_,(.tmp .nil),?_⟩;refine ⟨(.one rfl rfl .nil),[.val (.bool false)],[],by simp [Cat.cells,Fn.cells,UA,U1,IA,I1,LA,L1,BA,B1,EA,E1,E2,eB,eI,eL],by simp,(UpL.refl _)⟩
 have g9:¬ (b1=true):=gQ;clear g;replace h:=if_r g9 h;refine Qd ?_;refine tn ?_;refine Q4 ?_;refine Q4 ?_;refine runQ hN fun K hK=>?_;simp [-Q0,-Q6,-Q1,-Q7,-Q2];repeat refine sdQ ?_
 refine hK _ ?_;clear hK K;refine tn ?_;refine Q8 (st':=⟨[(0,.rptr (Fn.cells true f_)),(3,.rptr (Fn.cells true f_)),(4,.rptr [iV f_.t.n,lI f_.t.fr,lI f_.t.to,lI f_.t.id,.lst true 1 (Ls f_.t.cs),lI f_.ob,lI f_.ar]),(64,lI f_.ar),(65,iV (f_.ar.length:Int)),(66,iV 0)],[],0⟩) (wkQ9 []) ?_;replace h:=bind_some h;obtain ⟨e10,h,h10⟩:=h;refine Qh (fun b10:Unit=>⟨[(0,.rptr (Fn.cells true f_)),(3,.rptr (Fn.cells true f_)),(4,.rptr [iV f_.t.n,lI f_.t.fr,lI f_.t.to,lI f_.t.id,.lst true 1 (Ls f_.t.cs),lI f_.ob,lI f_.ar])],[],0⟩) (fun b10=>Sum.inl b10=e10) ?_ ?_
 ·refine Qa ?_;refine Qu h (fun s23:Int=>⟨[(0,.rptr (Fn.cells true f_)),(3,.rptr (Fn.cells true f_)),(4,.rptr [iV f_.t.n,lI f_.t.fr,lI f_.t.to,lI f_.t.id,.lst true 1 (Ls f_.t.cs),lI f_.ob,lI f_.ar]),(64,lI f_.ar),(65,iV (f_.ar.length:Int)),(66,iV s23)],[],0⟩) (wkQ9 []) ?_;clear h;intro k23 s23 c23 h hk23;refine Q4 ?_;refine runQ hN fun K hK=>?_;simp [-Q0,-Q6,-Q1,-Q7,-Q2];repeat refine sdQ ?_
  refine hK _ ?_;clear hK K;refine tn ?_;refine Q8 (st':=⟨[(0,.rptr (Fn.cells true f_)),(3,.rptr (Fn.cells true f_)),(4,.rptr [iV f_.t.n,lI f_.t.fr,lI f_.t.to,lI f_.t.id,.lst true 1 (Ls f_.t.cs),lI f_.ob,lI f_.ar]),(64,lI f_.ar),(65,iV (f_.ar.length:Int)),(66,iV s23),(67,.val (.bool (decide (s23<(f_.ar.length:Int)))))],[],0⟩) (wkQ9 []) ?_;refine Q4 ?_;refine Qc rfl (fun g=>?_) fun g=>?_
  ·have g24:s23<(f_.ar.length:Int):=gQ;clear g;replace h:=if_l g24 h;refine Qd ?_;refine tn ?_;refine Q4 ?_;refine Qa ?_;refine Q4 ?_;refine runQ hN fun K hK=>?_;replace h:=Q5 h;obtain ⟨a25,h⟩:=h;simp [-Q0,-Q6,-Q1,-Q7,-Q2,at_I a25];(repeat refine sdQ ?_);refine hK _ ?_;clear hK K;refine tn ?_;refine Q8 (st':=⟨[(0,.rptr (Fn.cells true f_)),(3,.rptr (Fn.cells true f_)),(4,.rptr [iV f_.t.n,lI f_.t.fr,lI f_.t.to,lI f_.t.id,.lst true 1 (Ls f_.t.cs),lI f_.ob,lI f_.ar]),(5,iV s23),(6,iV (ix f_.ar s23)),(64,lI f_.ar),(65,iV (f_.ar.length:Int)),(66,iV s23)],[],0⟩) (wkQ9 []) ?_;refine Q4 ?_;replace h:=bind_some h;obtain ⟨e26,h,h26⟩:=h;refine Qh (fun b26:Bool=>⟨[(0,.rptr (Fn.cells true f_)),(3,.rptr (Fn.cells true f_)),(4,.rptr [iV f_.t.n,lI f_.t.fr,lI f_.t.to,lI f_.t.id,.lst true 1 (Ls f_.t.cs),lI f_.ob,lI f_.ar]),(64,lI f_.ar),(65,iV (f_.ar.length:Int)),(66,iV s23),(114,.val (.bool b26))],[],0⟩) (fun b26=>b26=e26) ?_ ?_
   ·refine runQ hN fun K hK=>?_;replace h:=Q5 h;obtain ⟨a27,h⟩:=h;replace h:=Q5 h;obtain ⟨a28,h⟩:=h;replace h:=Q5 h;obtain ⟨a29,h⟩:=h;simp [-Q0,-Q6,-Q1,-Q7,-Q2,at_I a27,at_I a28,at_I a29];(repeat with_reducible refine sdQ ?_);refine Qq (fun g=>?_) (fun g=>?_)
    ·have g30:¬ (¬ ((ix f_.t.fr (ix f_.ar s23))=(ix f_.ob (ix f_.s.fr s23)))):=gQ;clear g;replace h:=if_r g30 h;replace h:=Q5 h;obtain ⟨a31,h⟩:=h;replace h:=Q5 h;obtain ⟨a32,h⟩:=h;replace h:=Q5 h;obtain ⟨a33,h⟩:=h;simp [-Q0,-Q6,-Q1,-Q7,-Q2,at_I a27,at_I a28,at_I a29,at_I a31,at_I a32,at_I a33];(repeat refine sdQ ?_);refine hK _ ?_;exact jn (b:=(ix f_.t.to (ix f_.ar s23)) != (ix f_.ob (ix f_.s.to s23))) (Option.some.inj h) (wkQ9 [])
    have g30:¬ ((ix f_.t.fr (ix f_.ar s23))=(ix f_.ob (ix f_.s.fr s23))):=gQ;clear g;replace h:=if_l g30 h;simp [-Q0,-Q6,-Q1,-Q7,-Q2,at_I a27,at_I a28,at_I a29];(repeat refine sdQ ?_);refine hK _ ?_;exact jn (b:=true) (Option.some.inj h) (wkQ9 [])
   intro b26 hb26;have h:=h26;(try rw [← hb26] at h);clear h26;(try dsimp only at h);refine Qc rfl (fun g=>?_) fun g=>?_
   ·have g34:b26=true:=gQ;clear g;replace h:=if_l g34 h;refine Q4 ?_;refine runQ hN fun K hK=>?_;simp [-Q0,-Q6,-Q1,-Q7,-Q2];(repeat refine sdQ ?_);refine hK _ ?_;clear hK K;refine tn ?_;refine Q8 (st':=⟨[(2,.val (.bool false))],[],0⟩) (wkQ9 []) ?_;refine Qg ?_;refine br ?_;refine tr ?_;refine lr ?_;refine br ?_;refine tr ?_;cases h;have q:_=e10:=hk23;have h:=h10;rw [← q] at h;clear q;(try dsimp only at h);have hr:=Option.some.inj h;rw [← hr];refine ⟨_,(.tmp .nil),?_⟩;refine ⟨(.one rfl rfl .nil),[.val (.bool false)],[],by simp [Cat.cells,Fn.cells,UA,U1,IA,I1,LA,L1,BA,B1,EA,E1,E2,eB,eI,eL],by simp,(UpL.refl _)⟩
   have g34:¬ (b26=true):=gQ;clear g;replace h:=if_r g34 h;refine Qd ?_;refine bn ?_;refine tn ?_;refine runQ hN fun K hK=>?_;replace h:=Q5 h;obtain ⟨a35,h⟩:=h;simp [-Q0,-Q6,-Q1,-Q7,-Q2,Qk a35];(repeat refine sdQ ?_);refine hK _ ?_;clear hK K;cases h;exact rn (s':=s23+1) hk23 (wkQ9 [])
  have g24:¬ (s23<(f_.ar.length:Int)):=gQ;clear g;replace h:=if_r g24 h;refine Qj ?_;refine tx ?_;refine lx ?_;refine bh ?_;cases h;exact jn (b:=()) hk23 (wkQ9 [])
 intro b10 hb10;have h:=h10;try rw [← hb10] at h
 clear h10;try dsimp only at h
 refine Q4 ?_;refine Q4 ?_;refine runQ hN fun K hK=>?_;simp [-Q0,-Q6,-Q1,-Q7,-Q2];repeat refine sdQ ?_
 refine hK _ ?_;clear hK K;refine tn ?_;refine Q8 (st':=⟨[(0,.rptr (Fn.cells true f_)),(3,.rptr (Fn.cells true f_)),(4,.rptr [iV f_.t.n,lI f_.t.fr,lI f_.t.to,lI f_.t.id,.lst true 1 (Ls f_.t.cs),lI f_.ob,lI f_.ar]),(119,lI f_.s.id),(120,iV (f_.s.id.length:Int)),(121,iV 0)],[],0⟩) (wkQ9 []) ?_;replace h:=bind_some h;obtain ⟨e36,h,h36⟩:=h;refine Qh (fun b36:Unit=>⟨[(0,.rptr (Fn.cells true f_)),(3,.rptr (Fn.cells true f_)),(4,.rptr [iV f_.t.n,lI f_.t.fr,lI f_.t.to,lI f_.t.id,.lst true 1 (Ls f_.t.cs),lI f_.ob,lI f_.ar])],[],0⟩) (fun b36=>Sum.inl b36=e36) ?_ ?_
 ·refine Qa ?_;refine Qu h (fun s44:Int=>⟨[(0,.rptr (Fn.cells true f_)),(3,.rptr (Fn.cells true f_)),(4,.rptr [iV f_.t.n,lI f_.t.fr,lI f_.t.to,lI f_.t.id,.lst true 1 (Ls f_.t.cs),lI f_.ob,lI f_.ar]),(119,lI f_.s.id),(120,iV (f_.s.id.length:Int)),(121,iV s44)],[],0⟩) (wkQ9 []) ?_;clear h;intro k44 s44 c44 h hk44;refine Q4 ?_;refine runQ hN fun K hK=>?_;simp [-Q0,-Q6,-Q1,-Q7,-Q2];repeat refine sdQ ?_
  refine hK _ ?_;clear hK K;refine tn ?_;refine Q8 (st':=⟨[(0,.rptr (Fn.cells true f_)),(3,.rptr (Fn.cells true f_)),(4,.rptr [iV f_.t.n,lI f_.t.fr,lI f_.t.to,lI f_.t.id,.lst true 1 (Ls f_.t.cs),lI f_.ob,lI f_.ar]),(119,lI f_.s.id),(120,iV (f_.s.id.length:Int)),(121,iV s44),(122,.val (.bool (decide (s44<(f_.s.id.length:Int)))))],[],0⟩) (wkQ9 []) ?_;refine Q4 ?_;refine Qc rfl (fun g=>?_) fun g=>?_
  ·have g45:s44<(f_.s.id.length:Int):=gQ;clear g;replace h:=if_l g45 h;refine Qd ?_;refine tn ?_;refine Q4 ?_;refine Qa ?_;refine Q4 ?_;refine runQ hN fun K hK=>?_;replace h:=Q5 h;obtain ⟨a46,h⟩:=h;simp [-Q0,-Q6,-Q1,-Q7,-Q2,at_I a46];(repeat refine sdQ ?_);refine hK _ ?_;clear hK K;refine tn ?_;refine Q8 (st':=⟨[(0,.rptr (Fn.cells true f_)),(3,.rptr (Fn.cells true f_)),(4,.rptr [iV f_.t.n,lI f_.t.fr,lI f_.t.to,lI f_.t.id,.lst true 1 (Ls f_.t.cs),lI f_.ob,lI f_.ar]),(7,iV s44),(8,iV (ix f_.s.id s44)),(119,lI f_.s.id),(120,iV (f_.s.id.length:Int)),(121,iV s44)],[],0⟩) (wkQ9 []) ?_;refine Q4 ?_;refine runQ hN fun K hK=>?_;replace h:=Q5 h;obtain ⟨a47,h⟩:=h;replace h:=Q5 h;obtain ⟨a48,h⟩:=h;replace h:=Q5 h;obtain ⟨a49,h⟩:=h;simp [-Q0,-Q6,-Q1,-Q7,-Q2,at_I a47,at_I a48,at_I a49];(repeat refine sdQ ?_);refine hK _ ?_;clear hK K;refine tn ?_;refine Q8 (st':=⟨[(0,.rptr (Fn.cells true f_)),(3,.rptr (Fn.cells true f_)),(4,.rptr [iV f_.t.n,lI f_.t.fr,lI f_.t.to,lI f_.t.id,.lst true 1 (Ls f_.t.cs),lI f_.ob,lI f_.ar]),(119,lI f_.s.id),(120,iV (f_.s.id.length:Int)),(121,iV s44),(146,.val (.bool ((ix f_.ar (ix f_.s.id s44)) != (ix f_.t.id (ix f_.ob s44)))))],[],0⟩) (wkQ9 []) ?_;refine Qc rfl (fun g=>?_) fun g=>?_
   ·have g50:¬ ((ix f_.ar (ix f_.s.id s44))=(ix f_.t.id (ix f_.ob s44))):=gQ;clear g;replace h:=if_l g50 h;refine Q4 ?_;refine runQ hN fun K hK=>?_;simp [-Q0,-Q6,-Q1,-Q7,-Q2];(repeat refine sdQ ?_);refine hK _ ?_;clear hK K;refine tn ?_;refine Q8 (st':=⟨[(2,.val (.bool false))],[],0⟩) (wkQ9 []) ?_;refine Qg ?_;refine br ?_;refine tr ?_;refine lr ?_;refine br ?_;refine tr ?_;cases h;have q:_=e36:=hk44;have h:=h36;rw [← q] at h;clear q;(try dsimp only at h);have hr:=Option.some.inj h;rw [← hr];refine ⟨_,(.tmp .nil),?_⟩;refine ⟨(.one rfl rfl .nil),[.val (.bool false)],[],by simp [Cat.cells,Fn.cells,UA,U1,IA,I1,LA,L1,BA,B1,EA,E1,E2,eB,eI,eL],by simp,(UpL.refl _)⟩
   have g50:¬ (¬ ((ix f_.ar (ix f_.s.id s44))=(ix f_.t.id (ix f_.ob s44)))):=gQ;clear g;replace h:=if_r g50 h;refine Qd ?_;refine bn ?_;refine tn ?_;refine runQ hN fun K hK=>?_;replace h:=Q5 h;obtain ⟨a51,h⟩:=h;simp [-Q0,-Q6,-Q1,-Q7,-Q2,Qk a51];(repeat refine sdQ ?_);refine hK _ ?_;clear hK K;cases h;exact rn (s':=s44+1) hk44 (wkQ9 [])
  have g45:¬ (s44<(f_.s.id.length:Int)):=gQ;clear g;replace h:=if_r g45 h;refine Qj ?_;refine tx ?_;refine lx ?_;refine bh ?_;cases h;exact jn (b:=()) hk44 (wkQ9 [])
 intro b36 hb36;have h:=h36;try rw [← hb36] at h
 clear h36;try dsimp only at h
 refine Q4 ?_;refine Q4 ?_;refine runQ hN fun K hK=>?_;simp [-Q0,-Q6,-Q1,-Q7,-Q2];repeat refine sdQ ?_
 refine hK _ ?_;clear hK K;refine tn ?_;refine Q8 (st':=⟨[(0,.rptr (Fn.cells true f_)),(4,.rptr [iV f_.t.n,lI f_.t.fr,lI f_.t.to,lI f_.t.id,.lst true 1 (Ls f_.t.cs),lI f_.ob,lI f_.ar]),(151,.lst true 1 (Ls f_.s.cs)),(152,iV (f_.s.cs.length:Int)),(153,iV 0)],[],0⟩) (wkQ9 []) ?_;replace h:=bind_some h;obtain ⟨e52,h,h52⟩:=h;refine Qh (fun b52:Unit=>⟨[],[],0⟩) (fun b52=>Sum.inl b52=e52) ?_ ?_
 ·refine Qa ?_;refine Qu h (fun s78:Int=>⟨[(0,.rptr (Fn.cells true f_)),(4,.rptr [iV f_.t.n,lI f_.t.fr,lI f_.t.to,lI f_.t.id,.lst true 1 (Ls f_.t.cs),lI f_.ob,lI f_.ar]),(151,.lst true 1 (Ls f_.s.cs)),(152,iV (f_.s.cs.length:Int)),(153,iV s78)],[],0⟩) (wkQ9 []) ?_;clear h;intro k78 s78 c78 h hk78;refine Q4 ?_;refine runQ hN fun K hK=>?_;simp [-Q0,-Q6,-Q1,-Q7,-Q2];repeat refine sdQ ?_
  refine hK _ ?_;clear hK K;refine tn ?_;refine Q8 (st':=⟨[(0,.rptr (Fn.cells true f_)),(4,.rptr [iV f_.t.n,lI f_.t.fr,lI f_.t.to,lI f_.t.id,.lst true 1 (Ls f_.t.cs),lI f_.ob,lI f_.ar]),(151,.lst true 1 (Ls f_.s.cs)),(152,iV (f_.s.cs.length:Int)),(153,iV s78),(154,.val (.bool (decide (s78<(f_.s.cs.length:Int)))))],[],0⟩) (wkQ9 []) ?_;refine Q4 ?_;refine Qc rfl (fun g=>?_) fun g=>?_
  ·have g79:s78<(f_.s.cs.length:Int):=gQ;clear g;replace h:=if_l g79 h;refine Qd ?_;refine tn ?_;refine Q4 ?_;replace h:=bind_some h;obtain ⟨e80,h,h80⟩:=h;refine Qh (fun b80:Unit=>⟨[(0,.rptr (Fn.cells true f_)),(4,.rptr [iV f_.t.n,lI f_.t.fr,lI f_.t.to,lI f_.t.id,.lst true 1 (Ls f_.t.cs),lI f_.ob,lI f_.ar]),(151,.lst true 1 (Ls f_.s.cs)),(152,iV (f_.s.cs.length:Int)),(153,iV s78)],[],0⟩) (fun b80=>Sum.inl b80=e80) ?_ ?_
   ·refine Qa ?_;refine Q4 ?_;refine runQ hN fun K hK=>?_;replace h:=Q5 h;obtain ⟨a81,h⟩:=h;simp [-Q0,-Q6,-Q1,-Q7,-Q2,at_L a81];(repeat refine sdQ ?_);refine hK _ ?_;clear hK K;refine tn ?_;refine Q8 (st':=⟨[(0,.rptr (Fn.cells true f_)),(4,.rptr [iV f_.t.n,lI f_.t.fr,lI f_.t.to,lI f_.t.id,.lst true 1 (Ls f_.t.cs),lI f_.ob,lI f_.ar]),(9,iV s78),(10,lI (rx f_.s.cs s78)),(151,.lst true 1 (Ls f_.s.cs)),(152,iV (f_.s.cs.length:Int)),(153,iV s78)],[],0⟩) (wkQ9 []) ?_;refine Q4 ?_;refine runQ hN fun K hK=>?_;simp [-Q0,-Q6,-Q1,-Q7,-Q2];(repeat refine sdQ ?_);refine hK _ ?_;clear hK K;refine tn ?_;refine Q8 (st':=⟨[(0,.rptr (Fn.cells true f_)),(4,.rptr [iV f_.t.n,lI f_.t.fr,lI f_.t.to,lI f_.t.id,.lst true 1 (Ls f_.t.cs),lI f_.ob,lI f_.ar]),(9,iV s78),(151,.lst true 1 (Ls f_.s.cs)),(152,iV (f_.s.cs.length:Int)),(153,iV s78),(158,lI (rx f_.s.cs s78)),(159,iV ((rx f_.s.cs s78).length:Int)),(160,iV 0)],[],0⟩) (wkQ9 []) ?_;refine Qa ?_;replace h:=bind_some h;obtain ⟨e92,he92,h92⟩:=h;refine Qu he92 (fun s92:Int=>⟨[(0,.rptr (Fn.cells true f_)),(4,.rptr [iV f_.t.n,lI f_.t.fr,lI f_.t.to,lI f_.t.id,.lst true 1 (Ls f_.t.cs),lI f_.ob,lI f_.ar]),(9,iV s78),(151,.lst true 1 (Ls f_.s.cs)),(152,iV (f_.s.cs.length:Int)),(153,iV s78),(158,lI (rx f_.s.cs s78)),(159,iV ((rx f_.s.cs s78).length:Int)),(160,iV s92)],[],0⟩) (wkQ9 []) ?_;intro k92 s92 c92 h hk92;refine Q4 ?_;refine runQ hN fun K hK=>?_;simp [-Q0,-Q6,-Q1,-Q7,-Q2];(repeat refine sdQ ?_);refine hK _ ?_;clear hK K;refine tn ?_;refine Q8 (st':=⟨[(0,.rptr (Fn.cells true f_)),(4,.rptr [iV f_.t.n,lI f_.t.fr,lI f_.t.to,lI f_.t.id,.lst true 1 (Ls f_.t.cs),lI f_.ob,lI f_.ar]),(9,iV s78),(151,.lst true 1 (Ls f_.s.cs)),(152,iV (f_.s.cs.length:Int)),(153,iV s78),(158,lI (rx f_.s.cs s78)),(159,iV ((rx f_.s.cs s78).length:Int)),(160,iV s92),(161,.val (.bool (decide (s92<((rx f_.s.cs s78).length:Int)))))],[],0⟩) (wkQ9 []) ?_;refine Q4 ?_;refine Qc rfl (fun g=>?_) fun g=>?_
    ·have g93:s92<((rx f_.s.cs s78).length:Int):=gQ;clear g;replace h:=if_l g93 h;refine Qd ?_;refine tn ?_;refine Q4 ?_;refine Qa ?_;refine Q4 ?_;refine runQ hN fun K hK=>?_;replace h:=Q5 h;obtain ⟨a94,h⟩:=h;simp [-Q0,-Q6,-Q1,-Q7,-Q2,at_I a94];(repeat refine sdQ ?_);refine hK _ ?_;clear hK K;refine tn ?_;refine Q8 (st':=⟨[(0,.rptr (Fn.cells true f_)),(4,.rptr [iV f_.t.n,lI f_.t.fr,lI f_.t.to,lI f_.t.id,.lst true 1 (Ls f_.t.cs),lI f_.ob,lI f_.ar]),(9,iV s78),(11,iV s92),(12,iV (ix (rx f_.s.cs s78) s92)),(151,.lst true 1 (Ls f_.s.cs)),(152,iV (f_.s.cs.length:Int)),(153,iV s78),(158,lI (rx f_.s.cs s78)),(159,iV ((rx f_.s.cs s78).length:Int)),(160,iV s92)],[],0⟩) (wkQ9 []) ?_;refine Q4 ?_;replace h:=bind_some h;obtain ⟨e95,h,h95⟩:=h;refine Qh (fun b95:Bool=>⟨[(0,.rptr (Fn.cells true f_)),(4,.rptr [iV f_.t.n,lI f_.t.fr,lI f_.t.to,lI f_.t.id,.lst true 1 (Ls f_.t.cs),lI f_.ob,lI f_.ar]),(9,iV s78),(151,.lst true 1 (Ls f_.s.cs)),(152,iV (f_.s.cs.length:Int)),(153,iV s78),(158,lI (rx f_.s.cs s78)),(159,iV ((rx f_.s.cs s78).length:Int)),(160,iV s92),(192,.val (.bool b95))],[],0⟩) (fun b95=>b95=e95) ?_ ?_
     ·refine runQ hN fun K hK=>?_;simp [-Q0,-Q6,-Q1,-Q7,-Q2];(repeat with_reducible refine sdQ ?_);refine Qq (fun g=>?_) (fun g=>?_)
      ·have g96:(ix (rx f_.s.cs s78) s92) ≥ 0:=gQ;clear g;replace h:=if_l g96 h;replace h:=Q5 h;obtain ⟨a97,h⟩:=h;replace h:=Q5 h;obtain ⟨a98,h⟩:=h;replace h:=Q5 h;obtain ⟨a99,h⟩:=h;simp [-Q0,-Q6,-Q1,-Q7,-Q2,at_I a97,at_I a98,at_I a99];(repeat with_reducible refine sdQ ?_);replace h:=bind_some h;obtain ⟨v100,hv100,h⟩:=h;refine Q3 (Q1Z _ _ _ v100 hv100) (.cons (.preT (by simp [Cat.cells,Fn.cells])) (.cons .val (.cons .val .nil))) ?_;simp [-Q0,-Q6,-Q1,-Q7,-Q2,unk,unA,unE,unT,unC,flat,at_I a97,at_I a98,at_I a99];(repeat refine sdQ ?_);refine hK _ ?_;exact jn (b:=(ix f_.ar (ix (rx f_.s.cs s78) s92)) != v100) (Option.some.inj h) (wkQ9 [])
      have g96:¬ ((ix (rx f_.s.cs s78) s92) ≥ 0):=gQ;clear g;replace h:=if_r g96 h;simp [-Q0,-Q6,-Q1,-Q7,-Q2];(repeat refine sdQ ?_);refine hK _ ?_;exact jn (b:=false) (Option.some.inj h) (wkQ9 [])
     intro b95 hb95;have h:=h95;(try rw [← hb95] at h);clear h95;(try dsimp only at h);refine Qc rfl (fun g=>?_) fun g=>?_
     ·have g101:b95=true:=gQ;clear g;replace h:=if_l g101 h;refine Q4 ?_;refine runQ hN fun K hK=>?_;simp [-Q0,-Q6,-Q1,-Q7,-Q2];(repeat refine sdQ ?_);refine hK _ ?_;clear hK K;refine tn ?_;refine Q8 (st':=⟨[(2,.val (.bool false))],[],0⟩) (wkQ9 []) ?_;refine Qg ?_;refine br ?_;refine tr ?_;refine lr ?_;refine br ?_;refine br ?_;refine tr ?_;refine lr ?_;refine br ?_;refine tr ?_;cases h;have q:_=e92:=hk92;have h:=h92;rw [← q] at h;clear q;(try dsimp only at h);cases h;have h:=h80;(try dsimp only at h);cases h;have q:_=e52:=hk78;have h:=h52;rw [← q] at h;clear q;(try dsimp only at h);have hr:=Option.some.inj h;rw [← hr];refine ⟨_,(.tmp .nil),?_⟩;refine ⟨(.one rfl rfl .nil),[.val (.bool false)],[],by simp [Cat.cells,Fn.cells,UA,U1,IA,I1,LA,L1,BA,B1,EA,E1,E2,eB,eI,eL],by simp,(UpL.refl _)⟩
     have g101:¬ (b95=true):=gQ;clear g;replace h:=if_r g101 h;refine Qd ?_;refine bn ?_;refine tn ?_;refine runQ hN fun K hK=>?_;replace h:=Q5 h;obtain ⟨a102,h⟩:=h;simp [-Q0,-Q6,-Q1,-Q7,-Q2,Qk a102];(repeat refine sdQ ?_);refine hK _ ?_;clear hK K;cases h;exact rn (s':=s92+1) hk92 (wkQ9 [])
    have g93:¬ (s92<((rx f_.s.cs s78).length:Int)):=gQ;clear g;replace h:=if_r g93 h;refine Qj ?_;refine tx ?_;refine lx ?_;refine bh ?_;refine bn ?_;cases h;have q:_=e92:=hk92;have h:=h92;rw [← q] at h;clear q;(try dsimp only at h);exact jn (b:=()) (Option.some.inj h) (wkQ9 [])
   intro b80 hb80;have h:=h80;(try rw [← hb80] at h);clear h80;(try dsimp only at h);refine runQ hN fun K hK=>?_;replace h:=Q5 h;obtain ⟨a103,h⟩:=h;simp [-Q0,-Q6,-Q1,-Q7,-Q2,Qk a103];(repeat refine sdQ ?_);refine hK _ ?_;clear hK K;cases h;exact rn (s':=s78+1) hk78 (wkQ9 [])
  have g79:¬ (s78<(f_.s.cs.length:Int)):=gQ;clear g;replace h:=if_r g79 h;refine Qj ?_;refine tx ?_;refine lx ?_;refine bh ?_;cases h;exact jn (b:=()) hk78 (wkQ9 [])
 intro b52 hb52;have h:=h52;try rw [← hb52] at h
 clear h52;try dsimp only at h
 refine Q4 ?_;refine runQ hN fun K hK=>?_;simp [-Q0,-Q6,-Q1,-Q7,-Q2];repeat refine sdQ ?_
 refine hK _ ?_;clear hK K;refine tn ?_;refine Q8 (st':=⟨[(2,.val (.bool true))],[],0⟩) (wkQ9 []) ?_;refine Qg ?_;have hr:=Option.some.inj h;rw [← hr];refine ⟨_,(.tmp .nil),?_⟩;refine ⟨(.one rfl rfl .nil),[.val (.bool true)],[],by simp [Cat.cells,Fn.cells,UA,U1,IA,I1,LA,L1,BA,B1,EA,E1,E2,eB,eI,eL],by simp,(UpL.refl _)⟩
attribute [local simp] eL eI Qw QH Cat.cells
noncomputable def Q16 (list_:List Cat):Option Bool :=
 (QC (σ:=Int) (ε:=Unit ⊕ Bool) (fun s7 =>
  if s7<(list_.length:Int) then
   ass (0≤s7∧s7<(list_.length:Int)) <|
   (Qy (gx list_ s7)).bind fun v10 =>
   if ¬ (v10=true) then
    some (Ctl.ret (Sum.inr false))
   else
    ass (B64 (s7+1)) <|
    some (Ctl.next (s7+1))
  else
   some (Ctl.ret (Sum.inl ()))) fuel 0).bind fun e1 =>
 match e1 with
 | .inl b1 =>
  some true
 | .inr p1 =>
  some p1
theorem Q4w (list_:List Cat) (r:Bool) (h:Q16 list_=some r):Contract Try.prog 153 [.lst true 1 (Es QH list_)] (.val (.bool r)):=by
 refine Qf (rvs:=[.tmp 2]) (rs:=[.val (.bool r)]) Try.func153 rfl rfl rfl rfl (by simp [Try.f153]) fun F hN hP=>?_;unfold Q16 at h;refine Q4 ?_;refine runQ hN fun K hK=>?_;simp [-Q0,-Q6,-Q1,-Q7,-Q2];repeat refine sdQ ?_
 refine hK _ ?_;clear hK K;refine tn ?_;refine Q8 (st':=⟨[(0,.lst true 1 (Es QH list_))],[],0⟩) (wkQ9 []) ?_;refine Q4 ?_;refine Q4 ?_;refine runQ hN fun K hK=>?_;simp [-Q0,-Q6,-Q1,-Q7,-Q2];repeat refine sdQ ?_
 refine hK _ ?_;clear hK K;refine tn ?_;refine Q8 (st':=⟨[(5,.lst true 1 (Es QH list_)),(6,iV (list_.length:Int)),(7,iV 0)],[],0⟩) (wkQ9 []) ?_;replace h:=bind_some h;obtain ⟨e1,h,h1⟩:=h;refine Qh (fun b1:Unit=>⟨[],[],0⟩) (fun b1=>Sum.inl b1=e1) ?_ ?_
 ·refine Qa ?_;refine Qu h (fun s7:Int=>⟨[(5,.lst true 1 (Es QH list_)),(6,iV (list_.length:Int)),(7,iV s7)],[],0⟩) (wkQ9 []) ?_;clear h;intro k7 s7 c7 h hk7;refine Q4 ?_;refine runQ hN fun K hK=>?_;simp [-Q0,-Q6,-Q1,-Q7,-Q2];repeat refine sdQ ?_
  refine hK _ ?_;clear hK K;refine tn ?_;refine Q8 (st':=⟨[(5,.lst true 1 (Es QH list_)),(6,iV (list_.length:Int)),(7,iV s7),(8,.val (.bool (decide (s7<(list_.length:Int)))))],[],0⟩) (wkQ9 []) ?_;refine Q4 ?_;refine Qc rfl (fun g=>?_) fun g=>?_
  ·have g8:s7<(list_.length:Int):=gQ;clear g;replace h:=if_l g8 h;refine Qd ?_;refine tn ?_;refine Q4 ?_;refine Qa ?_;refine Q4 ?_;refine runQ hN fun K hK=>?_;replace h:=Q5 h;obtain ⟨a9,h⟩:=h;simp [-Q0,-Q6,-Q1,-Q7,-Q2,at_E (c:=QH) a9];(repeat refine sdQ ?_);refine hK _ ?_;clear hK K;refine tn ?_;refine Q8 (st':=⟨[(4,.rptr (Cat.cells true (gx list_ s7))),(5,.lst true 1 (Es QH list_)),(6,iV (list_.length:Int)),(7,iV s7)],[],0⟩) (wkQ9 []) ?_;refine Q4 ?_;refine runQ hN fun K hK=>?_;simp [-Q0,-Q6,-Q1,-Q7,-Q2];(repeat with_reducible refine sdQ ?_);replace h:=bind_some h;obtain ⟨v10,hv10,h⟩:=h;refine Q3 (Q1c _ v10 hv10) (.cons (.preT (by simp [Cat.cells])) .nil) ?_;simp [-Q0,-Q6,-Q1,-Q7,-Q2,unk,unA,unE,unT,unC,flat];(repeat refine sdQ ?_);refine hK _ ?_;clear hK K;refine tn ?_;refine Q8 (st':=⟨[(5,.lst true 1 (Es QH list_)),(6,iV (list_.length:Int)),(7,iV s7),(13,.val (.bool (!v10)))],[],0⟩) (wkQ9 []) ?_;refine Qc rfl (fun g=>?_) fun g=>?_
   ·have g11:¬ (v10=true):=gQ;clear g;replace h:=if_l g11 h;refine Q4 ?_;refine runQ hN fun K hK=>?_;simp [-Q0,-Q6,-Q1,-Q7,-Q2];(repeat refine sdQ ?_);refine hK _ ?_;clear hK K;refine tn ?_;refine Q8 (st':=⟨[(2,.val (.bool false))],[],0⟩) (wkQ9 []) ?_;refine Qg ?_;refine br ?_;refine tr ?_;refine lr ?_;refine br ?_;refine tr ?_;cases h;have q:_=e1:=hk7;have h:=h1;rw [← q] at h;clear q;(try dsimp only at h);have hr:=Option.some.inj h;rw [← hr];refine ⟨_,(.tmp .nil),?_⟩;refine ⟨(.one rfl rfl .nil),[.val (.bool false)],[],by simp [Cat.cells,UA,U1,IA,I1,LA,L1,BA,B1,EA,E1,E2,eB,eI,eL],by simp,(UpL.refl _)⟩
   have g11:¬ (¬ (v10=true)):=gQ;clear g;replace h:=if_r g11 h;refine Qd ?_;refine bn ?_;refine tn ?_;refine runQ hN fun K hK=>?_;replace h:=Q5 h;obtain ⟨a12,h⟩:=h;simp [-Q0,-Q6,-Q1,-Q7,-Q2,Qk a12];(repeat refine sdQ ?_);refine hK _ ?_;clear hK K;cases h;exact rn (s':=s7+1) hk7 (wkQ9 [])
  have g8:¬ (s7<(list_.length:Int)):=gQ;clear g;replace h:=if_r g8 h;refine Qj ?_;refine tx ?_;refine lx ?_;refine bh ?_;cases h;exact jn (b:=()) hk7 (wkQ9 [])
 intro b1 hb1;have h:=h1;try rw [← hb1] at h
 clear h1;try dsimp only at h
 refine Q4 ?_;refine runQ hN fun K hK=>?_;simp [-Q0,-Q6,-Q1,-Q7,-Q2];repeat refine sdQ ?_
 refine hK _ ?_;clear hK K;refine tn ?_;refine Q8 (st':=⟨[(2,.val (.bool true))],[],0⟩) (wkQ9 []) ?_;refine Qg ?_;have hr:=Option.some.inj h;rw [← hr];refine ⟨_,(.tmp .nil),?_⟩;refine ⟨(.one rfl rfl .nil),[.val (.bool true)],[],by simp [Cat.cells,UA,U1,IA,I1,LA,L1,BA,B1,EA,E1,E2,eB,eI,eL],by simp,(UpL.refl _)⟩
attribute [local simp] eL eI Qw QH Q2e Cat.cells Fn.cells
noncomputable def QL (f_:Fn):Option Bool :=
 (
  (Q16 [f_.s,f_.t]).bind fun v2 =>
  if v2=true then
   (Q1f f_).bind fun v4 =>
   some v4
  else
   some false:Option (Bool)).bind fun b1 =>
 some b1
theorem Q3t (f_:Fn) (r:Bool) (h:QL f_=some r):Contract Try.prog 103 [.rptr (f_.cells true)] (.val (.bool r)):=by
 refine Qf (rvs:=[.tmp 2]) (rs:=[.val (.bool r)]) Try.func103 rfl rfl rfl rfl (by simp [Try.f103]) fun F hN hP=>?_;unfold QL at h;refine Q4 ?_;refine runQ hN fun K hK=>?_;simp [-Q0,-Q6,-Q1,-Q7,-Q2];repeat refine sdQ ?_
 refine hK _ ?_;clear hK K;refine tn ?_;refine Q8 (st':=⟨[(0,.rptr (Fn.cells true f_))],[],0⟩) (wkQ9 []) ?_;refine Q4 ?_;replace h:=bind_some h;obtain ⟨e1,h,h1⟩:=h;refine Qh (fun b1:Bool=>⟨[(2,.val (.bool b1))],[],0⟩) (fun b1=>b1=e1) ?_ ?_
 ·refine runQ hN fun K hK=>?_;simp [-Q0,-Q6,-Q1,-Q7,-Q2];repeat with_reducible refine sdQ ?_
  replace h:=bind_some h;obtain ⟨v2,hv2,h⟩:=h;refine Q3 (Q4w _ v2 hv2) (.cons (.lits (es:=_) rfl (.cons rfl (.cons (.preT (by simp [Cat.cells,Fn.cells])) .nil) (.cons rfl (.cons (.preT (by simp [Cat.cells,Fn.cells])) .nil) .nil)) rfl) .nil) ?_;simp [-Q0,-Q6,-Q1,-Q7,-Q2,unk,unA,unE,unT,unC,flat];repeat with_reducible refine sdQ ?_
  refine Qq (fun g=>?_) (fun g=>?_)
  ·have g3:v2=true:=gQ;clear g;replace h:=if_l g3 h;simp [-Q0,-Q6,-Q1,-Q7,-Q2];(repeat with_reducible refine sdQ ?_);replace h:=bind_some h;obtain ⟨v4,hv4,h⟩:=h;refine Q3 (Q4S _ v4 hv4) (.cons (.preT (by simp [Cat.cells,Fn.cells])) .nil) ?_;simp [-Q0,-Q6,-Q1,-Q7,-Q2,unk,unA,unE,unT,unC,flat];(repeat refine sdQ ?_);refine hK _ ?_;exact jn (b:=v4) (Option.some.inj h) (wkQ9 [])
  have g3:¬ (v2=true):=gQ;clear g;replace h:=if_r g3 h;simp [-Q0,-Q6,-Q1,-Q7,-Q2];repeat refine sdQ ?_
  refine hK _ ?_;exact jn (b:=false) (Option.some.inj h) (wkQ9 [])
 intro b1 hb1;have h:=h1;try rw [← hb1] at h
 clear h1;try dsimp only at h
 refine Qg ?_;have hr:=Option.some.inj h;rw [← hr];refine ⟨_,(.tmp .nil),?_⟩;refine ⟨(.one rfl rfl .nil),[.val (.bool b1)],[],by simp [Cat.cells,Fn.cells,UA,U1,IA,I1,LA,L1,BA,B1,EA,E1,E2,eB,eI,eL],by simp,(UpL.refl _)⟩
noncomputable def Q14 (c_:Cat) (f_:Int) (g_:Int):Option Int :=
 ass (0≤f_∧f_<(c_.cs.length:Int)) <|
 ass (0≤g_∧g_<((rx c_.cs f_).length:Int)) <|
 some (ix (rx c_.cs f_) g_)
theorem Q5w (c_:Cat) (f_:Int) (g_:Int) (r:Int) (h:Q14 c_ f_ g_=some r):Contract Try.prog 141 [.agg (c_.cells true),iV f_,iV g_] (iV r):=by
 refine Qf (rvs:=[.tmp 6]) (rs:=[iV r]) Try.func141 rfl rfl rfl rfl (by simp [Try.f141]) fun F hN hP=>?_;unfold Q14 at h;refine Q4 ?_;refine runQ hN fun K hK=>?_;simp [-Q0,-Q6,-Q1,-Q7,-Q2,eL,eI,Qw,QH,Cat.cells];repeat refine sdQ ?_
 refine hK _ ?_;clear hK K;refine tn ?_;refine Q8 (st':=⟨[(1,iV f_),(2,iV g_),(3,.adr 0 0 0)],[(0,.mix 5 [(Cat.cells true c_)])],1⟩) (wkQ9 [(0,0)]) ?_;refine Q4 ?_;refine runQ hN fun K hK=>?_;replace h:=Q5 h;obtain ⟨a1,h⟩:=h;replace h:=Q5 h;obtain ⟨a2,h⟩:=h;simp [-Q0,-Q6,-Q1,-Q7,-Q2,eL,eI,Qw,QH,Cat.cells,at_L a1,at_I a2];repeat refine sdQ ?_
 refine hK _ ?_;clear hK K;refine tn ?_;refine Q8 (st':=⟨[(6,iV (ix (rx c_.cs f_) g_))],[],0⟩) (wkQ9 []) ?_;refine Qg ?_;have hr:=Option.some.inj h;rw [← hr];refine ⟨_,(.tmp .nil),?_⟩;refine ⟨(.one rfl rfl .nil),[iV (ix (rx c_.cs f_) g_)],[],by simp [Cat.cells,UA,U1,IA,I1,LA,L1,BA,B1,EA,E1,E2,eB,eI,eL],by simp,(UpL.refl _)⟩
structure Para (f g:Fn):Prop where
 hf:f.Is
 hg:g.Is
 s:f.s=g.s
 t:f.t=g.t
theorem e_l02Then {c:Cat} {f g:Int} (h0:0≤f∧f<(c.cs.length:Int)) (h1:0≤g∧g<((rx c.cs f).length:Int)):Q14 c f g=some (ix (rx c.cs f) g):=by
 unfold Q14;rw [Q9 h0,Q9 h1]
theorem Q7x {c:Cat} {f g:Int} (h0:0≤f∧f<(c.cs.length:Int)) (h1:0≤g∧g<((rx c.cs f).length:Int)):QA c f g=some (ix (rx c.cs f) g):=by
 unfold QA;rw [Q9 h0.1,Q9 h0.2,Q9 h1.1,Q9 h1.2]
theorem e_fits {f:Fn} (h1:f.s.Is) (h2:f.t.Is):Q1f f=some (bo f.Is):=by
 have hs:=h1.1;have ht:=h2.1;have k0:=hs.n0;have k1:=hs.n8;have k2:=hs.m40;have k3:=hs.li;have k4:=hs.lt;have k5:=hs.lc;have k6:=ht.li;have k7:=ht.lt;have k8:=ht.lc;have k9:=ht.m40;have k10:=ht.n0;have k11:=ht.n8;have b1:B64 (f.t.n - 1):=⟨by omega,by omega⟩;have b2:B64 ((f.t.fr.length:Int) - 1):=⟨by omega,by omega⟩;unfold Q1f
 by_cases h3:(f.ob.length:Int)=f.s.n
 case neg=>rw [Qm (show ¬ f.Is from fun q=>h3 q.lo)];simp [h3]
 by_cases h4:(f.ar.length:Int)=f.s.fr.length
 case neg=>rw [Qm (show ¬ f.Is from fun q=>h4 (by rw [q.la]))];simp [Qr,h3,h4]
 by_cases h5:f.ob.all (inR f.t.n)=true
 case neg=>rw [Qm (show ¬ f.Is from fun q=>h5 (all_inR.2 q.ob))];simp [Qr,Q1W,Q9 b1,h3,h4,h5]
 by_cases h6:f.ar.all (inR f.t.fr.length)=true
 case neg=>rw [Qm (show ¬ f.Is from fun q=>h6 (all_inR.2 q.ar))];simp [Qr,Q1W,Q9 b1,Q9 b2,h3,h4,h5,h6]
 have ho:=all_inR.1 h5;have ha:=all_inR.1 h6;simp only [Qr,Q1W,Q9 b1,Q9 b2,h3,h4,h5,h6,Option.bind_some,if_true,if_false,not_true_eq_false,Bool.not_true,Bool.false_eq_true];refine Q2j f.s.fr.length (fun a:Nat=>ix f.t.fr (ix f.ar a)=ix f.ob (ix f.s.fr a)∧ix f.t.to (ix f.ar a)=ix f.ob (ix f.s.to a)) (eb:=Sum.inr false) (eg:=Sum.inl ()) (by omega) (fun a hi hp=>?_) (fun a hi hp=>?_) (by simp) (fun hx=>?_) fun q1=>?_
 ·have:=hs.frn hi;have:=ha a (by omega);simp (disch:=omega) [Q9,B64,hp.1,hp.2,hi]
 ·have:=hs.frn hi;have:=ha a (by omega)
  by_cases hp1:ix f.t.fr (ix f.ar a)=ix f.ob (ix f.s.fr a)
  ·have hp2:¬ ix f.t.to (ix f.ar a)=ix f.ob (ix f.s.to a):=fun h=>hp ⟨hp1,h⟩;simp (disch:=omega) [Q9,B64,hp1,hp2,hi]
  simp (disch:=omega) [Q9,B64,hp1,hi]
 ·rw [Qm (show ¬ f.Is from fun q=>hx q.ends)]
 simp only;refine Q2j f.s.id.length (fun x:Nat=>ix f.ar (ix f.s.id x)=ix f.t.id (ix f.ob x)) (eb:=Sum.inr false) (eg:=Sum.inl ()) (by omega) (fun a hi hp=>?_) (fun a hi hp=>?_) (by simp) (fun hx=>?_) fun q2=>?_
 ·have:=hs.idn hi;have:=ho a (by omega);simp (disch:=omega) [Q9,B64,hp,hi]
 ·have:=hs.idn hi;have:=ho a (by omega);simp (disch:=omega) [Q9,B64,hp,hi]
 ·rw [Qm (show ¬ f.Is from fun q=>hx q.ids)]
 simp only;refine Q2j f.s.fr.length (fun a:Nat=>∀ b:Nat,b<f.s.fr.length→ix f.s.to a=ix f.s.fr b→ix f.ar (ix (rx f.s.cs a) b)=ix (rx f.t.cs (ix f.ar a)) (ix f.ar b)) (eb:=Sum.inr false) (eg:=Sum.inl ()) (by omega) (fun a hi hp=>?_) (fun a hi hp=>?_) (by simp;omega) (fun hx=>?_) fun q3=>?_;rotate_left 2
 ·rw [Qm (show ¬ f.Is from fun q=>hx q.comp)]
 ·rw [QD (show f.Is from ⟨h1,h2,h3,by omega,ho,ha,q1,q2,q3⟩)]
 all_goals
  have h8:=ha a (by omega);have h11:=hs.row' (j:=a) (by omega) (by omega);have h12:=ht.row' (j:=ix f.ar a) (by omega) (by omega);rw [if_pos (by omega),Q9 (by omega),Option.bind_assoc];refine Q2j f.s.fr.length (fun b:Nat=>ix f.s.to a=ix f.s.fr b→ix f.ar (ix (rx f.s.cs a) b)=ix (rx f.t.cs (ix f.ar a)) (ix f.ar b)) (eb:=Sum.inl false) (eg:=Sum.inr ()) (by omega) (fun b hb hq=>?_) (fun b hb hq=>?_) ?_ (fun hn=>?_) fun hn=>?_
 all_goals first
  | exact absurd hp hn
  | exact absurd hn hp
  | (simp (disch:=omega) [Q9,B64,h11];done)
  | skip
 all_goals
  have h13:=ha b (by omega);have h16:=hs.cell' (f:=a) (g:=b) (by omega) (by omega) (by omega) (by omega)
  by_cases h14:ix f.s.to a=ix f.s.fr b
  ·have h15:=hs.cmp (f:=a) (g:=b) (by omega) (by omega) (by omega) (by omega) h14;have h17:ix (rx f.s.cs a) b ≥ 0:=h15.1;first
    | (have hq1:=hq h14;simp (disch:=omega) [Q9,B64,Q7x,h14,hq1,hb,h11,h17];done)
    | (have hq1:=fun e=>hq (fun _=>e);simp (disch:=omega) [Q9,B64,Q7x,h14,hq1,hb,h11,h17];exact hq1)
  have h17:=h16.1 h14;first
   | (simp (disch:=omega) [Q9,B64,h14,hb,h11,h17];done)
   | exact absurd (fun e=>absurd e h14) hq
theorem gx_nat {α:Type} [Inhabited α] (xs:List α) {i:Nat} (h:i<xs.length):gx xs i=xs[i]:=by simp [gx,List.getD_eq_getElem?_getD,h]
theorem e_areCats (cs:List Cat) (hl:cs.length≤1048576):Q16 cs=some (bo (∀ c∈cs,c.Is)):=by
 unfold Q16;refine Q2j cs.length (fun i:Nat=>(gx cs i).Is) (eb:=Sum.inr false) (eg:=Sum.inl ()) (by omega) (fun a hi hp=>?_) (fun a hi hp=>?_) (by simp) (fun hx=>?_) fun q1=>?_
 ·simp (disch:=omega) [Q9,B64,Qy,QD hp,hi]
 ·simp (disch:=omega) [Q9,B64,Qy,Qm hp,hi]
 ·rw [Qm (show ¬ ∀ c∈cs,c.Is from fun q=>hx fun i hi=>q _ (by rw [gx_nat _ hi];exact List.getElem_mem hi))]
 rw [QD (show ∀ c∈cs,c.Is from fun c hc=>by obtain ⟨i,hi,rfl⟩:=List.getElem_of_mem hc;have:=q1 i hi;rwa [gx_nat _ hi] at this)]
theorem Q7y (f:Fn):QL f=some (bo f.Is):=by
 unfold QL;rw [e_areCats _ (by simp)]
 by_cases h:f.s.Is∧f.t.Is
 ·rw [QD (show ∀ c∈[f.s,f.t],c.Is by simpa using h)];simp [e_fits h.1 h.2]
 rw [Qm (show ¬ ∀ c∈[f.s,f.t],c.Is by simpa using h),Qm (show ¬ f.Is from fun q=>h ⟨q.s,q.t⟩)];simp
theorem Cat.Is.lcs {c:Cat} (h:c.Is):c.cs.length≤1048576:=by have:=h.1.lc;have:=h.1.m40;omega
theorem Q47 {c d:Cat} (h:c.Is):QI c d=some (bo (c=d)):=by
 unfold QI;rw [Q9 h.lcs]
def tab {α:Type} (n:Nat) (g:Nat→α):List α:=(List.range n).map g
@[simp] theorem tab_length {α:Type} (n:Nat) (g:Nat→α):(tab n g).length=n:=by simp [tab]
theorem Q6o {α:Type} (n:Nat) (g:Nat→α):tab (n+1) g=tab n g++[g n]:=by simp [tab,List.range_succ]
theorem Cat.Is.size {c:Cat} (h:c.Is):c.size≤2000:=h.1.size2.2
def zeroF:Fn:=⟨⟨0,[],[],[],[]⟩,⟨0,[],[],[],[]⟩,[],[]⟩
def mixr {α:Type} (m g:Nat) (v:Nat→α) (z:α):List α:=tab m fun j=>if j<g then v j else z
@[simp] theorem mixr_length {α:Type} (m g:Nat) (v:Nat→α) (z:α):(mixr m g v z).length=m:=by simp [mixr]
theorem Q6d {α:Type} {m g:Nat} {v:Nat→α} {z:α}:(mixr m g v z).set g (v g)=mixr m (g+1) v z:=by
 refine List.ext_getElem (by simp) fun j h1 h2=>?_;simp only [mixr,tab,List.getElem_set,List.getElem_map,List.getElem_range]
 by_cases h:g=j
 ·subst h;simp
 have:(j<g)=(j<g+1):=propext ⟨fun _=>by omega,fun _=>by omega⟩;simp [h,this]
theorem Q6Y {α:Type} (m:Nat) (v:Nat→α) (z:α):mixr m 0 v z=List.replicate m z:=by
 refine List.ext_getElem (by simp) fun j h1 h2=>?_;simp [mixr,tab]
theorem Q8K {α:Type} (m:Nat) (v:Nat→α) (z:α):mixr m m v z=tab m v:=by
 refine List.ext_getElem (by simp) fun j h1 h2=>?_;have:j<m:=by simpa using h1
 simp [mixr,tab,this]
theorem rx_set {xs:List (List Int)} {i:Nat} (h:i<xs.length) (r:List Int):rx (xs.set i r) (i:Int)=r:=by
 simp [rx,List.getD_eq_getElem?_getD,h]
attribute [local simp] eL eI Qw QH Cat.cells
noncomputable def QF (c_:Cat) (x_:Int) (y_:Int):Option (List Int) :=
 (QC (σ:=List Int × Int) (ε:=List Int) (fun s11 =>
  if s11.2<(c_.fr.length:Int) then
   (
    (
     ass (0≤s11.2∧s11.2<(c_.fr.length:Int)) <|
     if (ix c_.fr s11.2)=x_ then
      ass (0≤s11.2∧s11.2<(c_.to.length:Int)) <|
      some ((ix c_.to s11.2) == y_)
     else
      some false:Option (Bool)).bind fun b14 =>
    if b14=true then
     ass ((s11.1++[s11.2]).length≤1073741824) <|
     some (s11.1++[s11.2])
    else
     some s11.1:Option (List Int)).bind fun b13 =>
   ass (B64 (s11.2+1)) <|
   some (Ctl.next (b13,s11.2+1))
  else
   some (Ctl.ret s11.1)) fuel ([],0)).bind fun b1 =>
 some b1
theorem Q3c (c_:Cat) (x_:Int) (y_:Int) (r:List Int) (h:QF c_ x_ y_=some r):Contract Try.prog 86 [.rptr (c_.cells true),iV x_,iV y_] (lI r):=by
 refine Qf (rvs:=[.tmp 6]) (rs:=[lI r]) Try.func86 rfl rfl rfl rfl (by simp [Try.f86]) fun F hN hP=>?_;unfold QF at h;refine Q4 ?_;refine runQ hN fun K hK=>?_;simp [-Q0,-Q6,-Q1,-Q7,-Q2];repeat refine sdQ ?_
 refine hK _ ?_;clear hK K;refine tn ?_;refine Q8 (st':=⟨[(0,.rptr (Cat.cells true c_)),(1,iV x_),(2,iV y_)],[],0⟩) (wkQ9 []) ?_;refine Q4 ?_;refine runQ hN fun K hK=>?_;simp [-Q0,-Q6,-Q1,-Q7,-Q2];repeat refine sdQ ?_
 refine hK _ ?_;clear hK K;refine tn ?_;refine Q8 (st':=⟨[(0,.rptr (Cat.cells true c_)),(1,iV x_),(2,iV y_),(7,.own 0 0 0)],[(0,.mix 1 [])],1⟩) (wkQ9 [(0,0)]) ?_;refine Q4 ?_;refine Q4 ?_;refine runQ hN fun K hK=>?_;simp [-Q0,-Q6,-Q1,-Q7,-Q2];repeat refine sdQ ?_
 refine hK _ ?_;clear hK K;refine tn ?_;refine Q8 (st':=⟨[(0,.rptr (Cat.cells true c_)),(1,iV x_),(2,iV y_),(7,.own 0 0 0),(14,iV (c_.fr.length:Int)),(15,iV 0)],[(0,.mix 1 [])],1⟩) (wkQ9 [(0,0)]) ?_;replace h:=bind_some h;obtain ⟨e1,h,h1⟩:=h;refine Qh (fun b1:List Int=>⟨[(7,.own 0 0 b1.length)],[(0,rI b1)],1⟩) (fun b1=>b1=e1) ?_ ?_
 ·refine Qa ?_;refine Qu h (fun s11:List Int × Int=>⟨[(0,.rptr (Cat.cells true c_)),(1,iV x_),(2,iV y_),(7,.own 0 0 s11.1.length),(14,iV (c_.fr.length:Int)),(15,iV s11.2)],[(0,rI s11.1)],1⟩) (Q3F ⟨[(0,.rptr (Cat.cells true c_)),(1,iV x_),(2,iV y_),(7,.own 0 0 0),(14,iV (c_.fr.length:Int)),(15,iV 0)],[(0,rI [])],1⟩ (Wk.nils [] (by simp) (by simp) (by simp [nlA]) (by simp [entN,nlL,nlA,Cat.cells,UA,U1,IA,I1,LA,L1,BA,B1,EA,E1,E2,eB,eI,eL]) (by simp)) (wkQ9 [(0,0)])) ?_;clear h;intro k11 s11 c11 h hk11;refine Q4 ?_;refine runQ hN fun K hK=>?_;simp [-Q0,-Q6,-Q1,-Q7,-Q2];repeat refine sdQ ?_
  refine hK _ ?_;clear hK K;refine tn ?_;refine Q8 (st':=⟨[(0,.rptr (Cat.cells true c_)),(1,iV x_),(2,iV y_),(7,.own 0 0 s11.1.length),(14,iV (c_.fr.length:Int)),(15,iV s11.2),(16,.val (.bool (decide (s11.2<(c_.fr.length:Int)))))],[(0,rI s11.1)],1⟩) (wkQ9 [(0,0)]) ?_;refine Q4 ?_;refine Qc rfl (fun g=>?_) fun g=>?_
  ·have g12:s11.2<(c_.fr.length:Int):=gQ;clear g;replace h:=if_l g12 h;refine Qd ?_;refine tn ?_;refine Q4 ?_;replace h:=bind_some h;obtain ⟨e13,h,h13⟩:=h;refine Qh (fun b13:List Int=>⟨[(0,.rptr (Cat.cells true c_)),(1,iV x_),(2,iV y_),(7,.own 0 0 b13.length),(14,iV (c_.fr.length:Int)),(15,iV s11.2)],[(0,rI b13)],1⟩) (fun b13=>b13=e13) ?_ ?_
   ·refine Qa ?_;refine Q4 ?_;refine runQ hN fun K hK=>?_;simp [-Q0,-Q6,-Q1,-Q7,-Q2];(repeat refine sdQ ?_);refine hK _ ?_;clear hK K;refine tn ?_;refine Q8 (st':=⟨[(0,.rptr (Cat.cells true c_)),(1,iV x_),(2,iV y_),(7,.own 0 0 s11.1.length),(8,iV s11.2),(14,iV (c_.fr.length:Int)),(15,iV s11.2)],[(0,rI s11.1)],1⟩) (wkQ9 [(0,0)]) ?_;refine Q4 ?_;replace h:=bind_some h;obtain ⟨e14,h,h14⟩:=h;refine Qh (fun b14:Bool=>⟨[(0,.rptr (Cat.cells true c_)),(1,iV x_),(2,iV y_),(7,.own 0 0 s11.1.length),(8,iV s11.2),(14,iV (c_.fr.length:Int)),(15,iV s11.2),(37,.val (.bool b14))],[(0,rI s11.1)],1⟩) (fun b14=>b14=e14) ?_ ?_
    ·refine runQ hN fun K hK=>?_;replace h:=Q5 h;obtain ⟨a15,h⟩:=h;simp [-Q0,-Q6,-Q1,-Q7,-Q2,at_I a15];(repeat with_reducible refine sdQ ?_);refine Qq (fun g=>?_) (fun g=>?_)
     ·have g16:(ix c_.fr s11.2)=x_:=gQ;clear g;replace h:=if_l g16 h;replace h:=Q5 h;obtain ⟨a17,h⟩:=h;simp [-Q0,-Q6,-Q1,-Q7,-Q2,at_I a15,at_I a17];(repeat refine sdQ ?_);refine hK _ ?_;exact jn (b:=(ix c_.to s11.2) == y_) (Option.some.inj h) (wkQ9 [(0,0)])
     have g16:¬ ((ix c_.fr s11.2)=x_):=gQ;clear g;replace h:=if_r g16 h;simp [-Q0,-Q6,-Q1,-Q7,-Q2,at_I a15];(repeat refine sdQ ?_);refine hK _ ?_;exact jn (b:=false) (Option.some.inj h) (wkQ9 [(0,0)])
    intro b14 hb14;have h:=h14;(try rw [← hb14] at h);clear h14;(try dsimp only at h);refine Qc rfl (fun g=>?_) fun g=>?_
    ·have g18:b14=true:=gQ;clear g;replace h:=if_l g18 h;refine runQ hN fun K hK=>?_;replace h:=Q5 h;obtain ⟨a19,h⟩:=h;(try simp only [List.length_append,List.length_cons,List.length_nil] at a19);simp [-Q0,-Q6,-Q1,-Q7,-Q2,a19];(repeat refine sdQ ?_);refine hK _ ?_;clear hK K;refine bn ?_;exact jn (b:=s11.1++[s11.2]) (Option.some.inj h) (wkQ9 [(2,0)])
    have g18:¬ (b14=true):=gQ;clear g;replace h:=if_r g18 h;refine Qd ?_;refine bn ?_;exact jn (b:=s11.1) (Option.some.inj h) (wkQ9 [(0,0)])
   intro b13 hb13;have h:=h13;(try rw [← hb13] at h);clear h13;(try dsimp only at h);refine runQ hN fun K hK=>?_;replace h:=Q5 h;obtain ⟨a20,h⟩:=h;simp [-Q0,-Q6,-Q1,-Q7,-Q2,Qk a20];(repeat refine sdQ ?_);refine hK _ ?_;clear hK K;cases h;exact rn (s':=(b13,s11.2+1)) hk11 (wkQ9 [(0,0)])
  have g12:¬ (s11.2<(c_.fr.length:Int)):=gQ;clear g;replace h:=if_r g12 h;refine Qj ?_;refine tx ?_;refine lx ?_;refine bh ?_;cases h;exact jn (b:=s11.1) hk11 (wkQ9 [(0,0)])
 intro b1 hb1;have h:=h1;try rw [← hb1] at h
 clear h1;try dsimp only at h
 refine Q4 ?_;refine runQ hN fun K hK=>?_;simp [-Q0,-Q6,-Q1,-Q7,-Q2];repeat refine sdQ ?_
 refine hK _ ?_;clear hK K;refine tn ?_;refine Q8 (st':=⟨[(6,.own 0 0 b1.length)],[(0,rI b1)],1⟩) (wkQ9 [(0,0)]) ?_;refine Qg ?_;have hr:=Option.some.inj h;rw [← hr];refine ⟨_,(.tmp .nil),?_⟩;refine ⟨(.one rfl rfl .nil),[lI b1],[0],by simp [Cat.cells,UA,U1,IA,I1,LA,L1,BA,B1,EA,E1,E2,eB,eI,eL],by simp,(UpL.refl _)⟩
attribute [local simp] eL eI Qw QH Cat.cells
noncomputable def Q1I (c_:Cat) (x_:Int) (y_:Int):Option (List Int) :=
 (QC (σ:=List Int × Int) (ε:=List Int) (fun s11 =>
  if s11.2<(c_.fr.length:Int) then
   (
    (
     ass (0≤s11.2∧s11.2<(c_.fr.length:Int)) <|
     if (ix c_.fr s11.2)=x_ then
      ass (0≤s11.2∧s11.2<(c_.to.length:Int)) <|
      some ((ix c_.to s11.2) == y_)
     else
      some false:Option (Bool)).bind fun b14 =>
    if b14=true then
     ass ((s11.1++[s11.2]).length≤1073741824) <|
     some (s11.1++[s11.2])
    else
     some s11.1:Option (List Int)).bind fun b13 =>
   ass (B64 (s11.2+1)) <|
   some (Ctl.next (b13,s11.2+1))
  else
   some (Ctl.ret s11.1)) fuel ([],0)).bind fun b1 =>
 some b1
theorem Q61 (c_:Cat) (x_:Int) (y_:Int) (r:List Int) (h:Q1I c_ x_ y_=some r):Contract Try.prog 83 [.agg (c_.cells true),iV x_,iV y_] (lI r):=by
 refine Qf (rvs:=[.tmp 6]) (rs:=[lI r]) Try.func83 rfl rfl rfl rfl (by simp [Try.f83]) fun F hN hP=>?_;unfold Q1I at h;refine Q4 ?_;refine runQ hN fun K hK=>?_;simp [-Q0,-Q6,-Q1,-Q7,-Q2];repeat refine sdQ ?_
 refine hK _ ?_;clear hK K;refine tn ?_;refine Q8 (st':=⟨[(1,iV x_),(2,iV y_),(3,.adr 0 0 0)],[(0,.mix 5 [(Cat.cells true c_)])],1⟩) (wkQ9 [(0,0)]) ?_;refine Q4 ?_;refine runQ hN fun K hK=>?_;simp [-Q0,-Q6,-Q1,-Q7,-Q2];repeat refine sdQ ?_
 refine hK _ ?_;clear hK K;refine tn ?_;refine Q8 (st':=⟨[(1,iV x_),(2,iV y_),(3,.adr 0 0 0),(7,.own 1 0 0)],[(0,.mix 5 [(Cat.cells true c_)]),(1,.mix 1 [])],2⟩) (wkQ9 [(0,0),(1,1)]) ?_;refine Q4 ?_;refine Q4 ?_;refine runQ hN fun K hK=>?_;simp [-Q0,-Q6,-Q1,-Q7,-Q2];repeat refine sdQ ?_
 refine hK _ ?_;clear hK K;refine tn ?_;refine Q8 (st':=⟨[(1,iV x_),(2,iV y_),(3,.adr 0 0 0),(7,.own 1 0 0),(8,iV 0)],[(0,.mix 5 [(Cat.cells true c_)]),(1,.mix 1 [])],2⟩) (wkQ9 [(0,0),(1,1)]) ?_;replace h:=bind_some h;obtain ⟨e1,h,h1⟩:=h;refine Qh (fun b1:List Int=>⟨[(7,.own 0 0 b1.length)],[(0,rI b1)],1⟩) (fun b1=>b1=e1) ?_ ?_
 ·refine Qa ?_;refine Qu h (fun s11:List Int × Int=>⟨[(1,iV x_),(2,iV y_),(3,.adr 0 0 0),(7,.own 1 0 s11.1.length),(8,iV s11.2)],[(0,.mix 5 [(Cat.cells true c_)]),(1,rI s11.1)],2⟩) (Q3F ⟨[(1,iV x_),(2,iV y_),(3,.adr 0 0 0),(7,.own 1 0 0),(8,iV 0)],[(0,.mix 5 [(Cat.cells true c_)]),(1,rI [])],2⟩ (Wk.nils [] (by simp) (by simp) (by simp [nlA]) (by simp [entN,nlL,nlA,Cat.cells,UA,U1,IA,I1,LA,L1,BA,B1,EA,E1,E2,eB,eI,eL]) (by simp)) (wkQ9 [(0,0),(1,1)])) ?_;clear h;intro k11 s11 c11 h hk11;refine Q4 ?_;refine Q4 ?_;refine runQ hN fun K hK=>?_;simp [-Q0,-Q6,-Q1,-Q7,-Q2];repeat refine sdQ ?_
  refine hK _ ?_;clear hK K;refine tn ?_;refine Q8 (st':=⟨[(1,iV x_),(2,iV y_),(3,.adr 0 0 0),(7,.own 1 0 s11.1.length),(8,iV s11.2),(14,.val (.bool (decide (s11.2<(c_.fr.length:Int)))))],[(0,.mix 5 [(Cat.cells true c_)]),(1,rI s11.1)],2⟩) (wkQ9 [(0,0),(1,1)]) ?_;refine Qc rfl (fun g=>?_) fun g=>?_
  ·have g12:s11.2<(c_.fr.length:Int):=gQ;clear g;replace h:=if_l g12 h;refine Qd ?_;refine tn ?_;refine Q4 ?_;replace h:=bind_some h;obtain ⟨e13,h,h13⟩:=h;refine Qh (fun b13:List Int=>⟨[(1,iV x_),(2,iV y_),(3,.adr 0 0 0),(7,.own 1 0 b13.length),(8,iV s11.2)],[(0,.mix 5 [(Cat.cells true c_)]),(1,rI b13)],2⟩) (fun b13=>b13=e13) ?_ ?_
   ·refine Qa ?_;refine Q4 ?_;replace h:=bind_some h;obtain ⟨e14,h,h14⟩:=h;refine Qh (fun b14:Bool=>⟨[(1,iV x_),(2,iV y_),(3,.adr 0 0 0),(7,.own 1 0 s11.1.length),(8,iV s11.2),(32,.val (.bool b14))],[(0,.mix 5 [(Cat.cells true c_)]),(1,rI s11.1)],2⟩) (fun b14=>b14=e14) ?_ ?_
    ·refine runQ hN fun K hK=>?_;replace h:=Q5 h;obtain ⟨a15,h⟩:=h;simp [-Q0,-Q6,-Q1,-Q7,-Q2,at_I a15];(repeat with_reducible refine sdQ ?_);refine Qq (fun g=>?_) (fun g=>?_)
     ·have g16:(ix c_.fr s11.2)=x_:=gQ;clear g;replace h:=if_l g16 h;replace h:=Q5 h;obtain ⟨a17,h⟩:=h;simp [-Q0,-Q6,-Q1,-Q7,-Q2,at_I a15,at_I a17];(repeat refine sdQ ?_);refine hK _ ?_;exact jn (b:=(ix c_.to s11.2) == y_) (Option.some.inj h) (wkQ9 [(0,0),(1,1)])
     have g16:¬ ((ix c_.fr s11.2)=x_):=gQ;clear g;replace h:=if_r g16 h;simp [-Q0,-Q6,-Q1,-Q7,-Q2,at_I a15];(repeat refine sdQ ?_);refine hK _ ?_;exact jn (b:=false) (Option.some.inj h) (wkQ9 [(0,0),(1,1)])
    intro b14 hb14;have h:=h14;(try rw [← hb14] at h);clear h14;(try dsimp only at h);refine Qc rfl (fun g=>?_) fun g=>?_
    ·have g18:b14=true:=gQ;clear g;replace h:=if_l g18 h;refine runQ hN fun K hK=>?_;replace h:=Q5 h;obtain ⟨a19,h⟩:=h;(try simp only [List.length_append,List.length_cons,List.length_nil] at a19);simp [-Q0,-Q6,-Q1,-Q7,-Q2,a19];(repeat refine sdQ ?_);refine hK _ ?_;clear hK K;refine bn ?_;exact jn (b:=s11.1++[s11.2]) (Option.some.inj h) (wkQ9 [(0,0),(3,1)])
    have g18:¬ (b14=true):=gQ;clear g;replace h:=if_r g18 h;refine Qd ?_;refine bn ?_;exact jn (b:=s11.1) (Option.some.inj h) (wkQ9 [(0,0),(1,1)])
   intro b13 hb13;have h:=h13;(try rw [← hb13] at h);clear h13;(try dsimp only at h);refine runQ hN fun K hK=>?_;replace h:=Q5 h;obtain ⟨a20,h⟩:=h;simp [-Q0,-Q6,-Q1,-Q7,-Q2,Qk a20];(repeat refine sdQ ?_);refine hK _ ?_;clear hK K;cases h;exact rn (s':=(b13,s11.2+1)) hk11 (wkQ9 [(0,0),(1,1)])
  have g12:¬ (s11.2<(c_.fr.length:Int)):=gQ;clear g;replace h:=if_r g12 h;refine Qj ?_;refine tx ?_;refine lx ?_;refine bh ?_;cases h;exact jn (b:=s11.1) hk11 (wkQ9 [(1,0)])
 intro b1 hb1;have h:=h1;try rw [← hb1] at h
 clear h1;try dsimp only at h
 refine Q4 ?_;refine runQ hN fun K hK=>?_;simp [-Q0,-Q6,-Q1,-Q7,-Q2];repeat refine sdQ ?_
 refine hK _ ?_;clear hK K;refine tn ?_;refine Q8 (st':=⟨[(6,.own 0 0 b1.length)],[(0,rI b1)],1⟩) (wkQ9 [(0,0)]) ?_;refine Qg ?_;have hr:=Option.some.inj h;rw [← hr];refine ⟨_,(.tmp .nil),?_⟩;refine ⟨(.one rfl rfl .nil),[lI b1],[0],by simp [Cat.cells,UA,U1,IA,I1,LA,L1,BA,B1,EA,E1,E2,eB,eI,eL],by simp,(UpL.refl _)⟩
noncomputable def flt (n:Nat) (p:Nat→Prop):List Int:=((List.range n).filter fun i=>bo (p i)).map Int.ofNat
noncomputable def fstN (n:Nat) (p:Nat→Prop):Int:=(((List.range n).find? fun i=>bo (p i)).map Int.ofNat).getD (-1)
theorem flt_pos {n:Nat} {p:Nat→Prop} (h:p n):flt (n+1) p=flt n p++[(n:Int)]:=by simp [flt,List.range_succ,QD h]
theorem flt_neg {n:Nat} {p:Nat→Prop} (h:¬ p n):flt (n+1) p=flt n p:=by simp [flt,List.range_succ,Qm h]
theorem flt_len (n:Nat) (p:Nat→Prop):(flt n p).length≤n:=by
 unfold flt;rw [List.length_map];exact Nat.le_trans (List.length_filter_le _ _) (by simp)
theorem mem_flt {n:Nat} {p:Nat→Prop} {x:Int}:x∈flt n p↔∃ i:Nat,i<n∧p i∧x=(i:Int):=by
 simp only [flt,List.mem_map,List.mem_filter,List.mem_range,bo_tt];constructor
 ·rintro ⟨i,⟨h1,h2⟩,rfl⟩;exact ⟨i,h1,h2,rfl⟩
 rintro ⟨i,h1,h2,rfl⟩;exact ⟨i,⟨h1,h2⟩,rfl⟩
theorem Q8w (n:Nat) (p:Nat→Prop):(fstN n p = -1∧∀ i,i<n→¬ p i)∨∃ k:Nat,k<n∧p k∧fstN n p=(k:Int):=by
 unfold fstN;cases h:(List.range n).find? fun i=>bo (p i) with
 | none =>
  refine .inl ⟨rfl,fun i hi=>?_⟩;have:=List.find?_eq_none.1 h i (by simpa using hi);simpa [bo_tt] using this
 | some k =>
  have h1:=List.find?_some h;have h2:=List.mem_of_find?_eq_some h;exact .inr ⟨k,by simpa using h2,by simpa [bo_tt] using h1,rfl⟩
theorem e_hom {c:Cat} (h:c.Is) (x y:Int):QF c x y=some (flt c.fr.length fun a=>ix c.fr a=x∧ix c.to a=y):=by
 have k1:=h.1.lt;have k2:=h.1.m40;unfold QF;refine QG c.fr.length (fun i=>flt i fun a=>ix c.fr a=x∧ix c.to a=y) (e:=flt c.fr.length fun a=>ix c.fr a=x∧ix c.to a=y) rfl (by omega) (fun i hi=>?_) (by simp) rfl;have hl:=flt_len i fun a=>ix c.fr a=x∧ix c.to a=y
 by_cases h1:ix c.fr i=x
 ·by_cases h2:ix c.to i=y
  ·rw [flt_pos ⟨h1,h2⟩];simp (disch:=omega) [Q9,B64,h1,h2];try omega
  rw [flt_neg fun q=>h2 q.2];simp (disch:=omega) [Q9,B64,h1,h2];try omega
 rw [flt_neg fun q=>h1 q.1];simp (disch:=omega) [Q9,B64,h1];try omega
theorem e_l02Hom (c:Cat) (x y:Int):Q1I c x y=QF c x y:=rfl
theorem Cat.Is.two {c:Cat} (h:c.Is) {f g:Int} (f0:0≤f∧f<c.fr.length) (g0:0≤g∧g<c.fr.length) (e:ix c.to f=ix c.fr g):(0≤ix (rx c.cs f) g∧ix (rx c.cs f) g<c.fr.length)∧ix c.fr (ix (rx c.cs f) g)=ix c.fr f∧ix c.to (ix (rx c.cs f) g)=ix c.to g:=by
 have:=(h.1.cell' f0.1 f0.2 g0.1 g0.2).2 e;exact ⟨⟨this.1,this.2.1⟩,this.2.2⟩
theorem e_Then {c:Cat} (h:c.Is) {f g:Int} (f0:0≤f∧f<c.fr.length) (g0:0≤g∧g<c.fr.length):Q14 c f g=some (ix (rx c.cs f) g)∧QA c f g=some (ix (rx c.cs f) g):=by
 have h1:=h.1.lc;have h2:=h.1.row' f0.1 f0.2;exact ⟨e_l02Then (by omega) (by omega),Q7x (by omega) (by omega)⟩
abbrev Ar (c:Cat) (f x y:Int):Prop:=(0≤f∧f<(c.fr.length:Int))∧ix c.fr f=x∧ix c.to f=y
theorem Ar.two {c:Cat} (hc:c.Is) {f g x y z:Int} (h1:Ar c f x y) (h2:Ar c g y z):Ar c (ix (rx c.cs f) g) x z:=by
 have:=hc.two h1.1 h2.1 (by rw [h1.2.2,h2.2.1]);exact ⟨this.1,by rw [this.2.1,h1.2.1],by rw [this.2.2,h2.2.2]⟩
theorem Ar.thn {c:Cat} (hc:c.Is) {f g x y z:Int} (h1:Ar c f x y) (h2:Ar c g y z):Q14 c f g=some (ix (rx c.cs f) g)∧QA c f g=some (ix (rx c.cs f) g):=e_Then hc h1.1 h2.1
theorem mem_ix {xs:List Int} {P:Int→Prop} (h:∀ x∈xs,P x) {i:Nat} (hi:i<xs.length):P (ix xs i):=by
 rw [← Q1p _ _ hi];exact h _ (List.getElem_mem hi)
noncomputable def homL (c:Cat) (x y:Int):List Int:=flt c.fr.length fun a=>ix c.fr a=x∧ix c.to a=y
theorem Q4Y {c:Cat} {x y:Int}:∀ f∈homL c x y,Ar c f x y:=by
 intro f hf;obtain ⟨i,h1,h2,rfl⟩:=mem_flt.1 hf;exact ⟨by omega,h2⟩
theorem Q8A (c:Cat) (x y:Int):(homL c x y).length≤c.fr.length:=flt_len _ _
theorem Q8o {c:Cat} (h:c.Is) (x y:Int):Q1I c x y=some (homL c x y)∧QF c x y=some (homL c x y):=⟨by rw [e_l02Hom,e_hom h];rfl,e_hom h x y⟩
theorem chkI {ε β:Type} {body:Int→Option (Ctl Int ε)} {K:ε→Option β} {r:Option β} (n:Nat) (p:Nat→Prop) (eb eg:ε) (hn:n<4611686018427387904)
  (h:∀ i:Nat,i<n→body (i:Int)=if bo (p i)=true then some (.next ((i:Int)+1)) else some (.ret eb)) (h3:body (n:Int)=some (.ret eg)) (hk:K (if bo (∀ i:Nat,i<n→p i)=true then eg else eb)=r):(QC body fuel 0).bind K=r:=by
 rw [Q8F n p (eb:=eb) (eg:=eg) hn (fun i hi q=>by rw [h i hi,QD q];simp) (fun i hi q=>by rw [h i hi,Qm q];simp) h3,Option.bind_some,← hk]
 congr 1
 by_cases q:∀ i:Nat,i<n→p i
 ·rw [if_pos q,QD q];simp
 rw [if_neg q,Qm q];simp
def MpP (f:List Int) (m n:Int):Prop:=(f.length:Int)=m∧∀ j:Nat,j<f.length→0≤ix f j∧ix f j<n
def Prf.row (p:Prf) (x:Nat):Prop:=((rx p.sz x).length:Int)=p.t.n∧∀ y:Nat,y<(rx p.sz x).length→0≤ix (rx p.sz x) y∧ix (rx p.sz x) y≤64
def Prf.mbf (p:Prf) (a:Nat):Prop:=((gx p.bf a).length:Int)=p.t.n∧∀ y:Nat,y<(gx p.bf a).length→MpP (rx (gx p.bf a) y) (ix (rx p.sz (ix p.s.to a)) y) (ix (rx p.sz (ix p.s.fr a)) y)
def Prf.mbh (p:Prf) (b:Nat):Prop:=((gx p.bh b).length:Int)=p.s.n∧∀ x:Nat,x<(gx p.bh b).length→MpP (rx (gx p.bh b) x) (ix (rx p.sz x) (ix p.t.fr b)) (ix (rx p.sz x) (ix p.t.to b))
structure Prf.Z (p:Prf):Prop where
 hs:p.s.Is
 ht:p.t.Is
 ls:(p.sz.length:Int)=p.s.n
 lb:p.bf.length=p.s.fr.length
 lh:p.bh.length=p.t.fr.length
 row:∀ x:Nat,x<p.sz.length→p.row x
structure Prf.M (p:Prf):Prop where
 z:p.Z
 bf:∀ a:Nat,a<p.bf.length→p.mbf a
 bh:∀ b:Nat,b<p.bh.length→p.mbh b
def Prf.li (p:Prf) (y x:Nat):Prop:=rx (gx p.bf (ix p.s.id x)) y=iota (ix (rx p.sz x) y).toNat∧rx (gx p.bh (ix p.t.id y)) x=iota (ix (rx p.sz x) y).toNat
def Prf.la (p:Prf) (y a b:Nat):Prop:=0≤ix (rx p.s.cs a) b→rx (gx p.bf (ix (rx p.s.cs a) b)) y=Q1q (rx (gx p.bf b) y) (rx (gx p.bf a) y)
def Prf.lc (p:Prf) (x a b:Nat):Prop:=0≤ix (rx p.t.cs a) b→rx (gx p.bh (ix (rx p.t.cs a) b)) x=Q1q (rx (gx p.bh a) x) (rx (gx p.bh b) x)
def Prf.ln (p:Prf) (a b:Nat):Prop:=Q1q (rx (gx p.bf a) (ix p.t.fr b)) (rx (gx p.bh b) (ix p.s.fr a))=Q1q (rx (gx p.bh b) (ix p.s.to a)) (rx (gx p.bf a) (ix p.t.to b))
structure Prf.Is (p:Prf):Prop where
 m:p.M
 l1:∀ y:Nat,y<p.t.id.length→(∀ x:Nat,x<p.s.id.length→p.li y x)∧∀ a:Nat,a<p.s.fr.length→∀ b:Nat,b<p.s.fr.length→p.la y a b
 l2:∀ x:Nat,x<p.s.id.length→∀ a:Nat,a<p.t.fr.length→∀ b:Nat,b<p.t.fr.length→p.lc x a b
 l3:∀ a:Nat,a<p.s.fr.length→∀ b:Nat,b<p.t.fr.length→p.ln a b
theorem Cat.Is.nums {c:Cat} (h:c.Is):0≤c.n∧c.n≤8∧c.fr.length≤40∧c.to.length=c.fr.length∧c.cs.length=c.fr.length∧(c.id.length:Int)=c.n:=⟨h.1.n0,h.1.n8,h.1.m40,h.1.lt,h.1.lc,h.1.li⟩
theorem Cat.Is.ends {c:Cat} (h:c.Is) {a:Int} (ha:0≤a∧a<(c.fr.length:Int)):(0≤ix c.fr a∧ix c.fr a<c.n)∧(0≤ix c.to a∧ix c.to a<c.n):=by
 have:=h.1.fr' ha.1 ha.2;have:=h.1.to' ha.1 ha.2;have:=h.1.li;omega
theorem Q6g {p:Prop} (h:p):¬ ¬ p:=fun q=>q h
theorem tabg {α ε β:Type} {body:List α × Int→Option (Ctl (List α × Int) ε)} {K:ε→Option β} {r:Option β} (n:Nat) (v:Nat→α) {e:ε} (hn:n<1000000)
  (h:∀ i:Nat,i<n→body (tab i v,(i:Int))=(ass ((tab i v++[v i]).length≤1073741824) <| ass (B64 ((i:Int)+1)) <| some (.next (tab i v++[v i],(i:Int)+1))))
  (he:body (tab n v,(n:Int))=some (.ret e)) (hk:K e=r):(QC body fuel ([],0)).bind K=r:=by
 refine QG n (fun i=>tab i v) (e:=e) rfl (by omega) (fun i hi=>?_) he hk;rw [h i hi,Q9 (by simp;omega),Q9 (by unfold B64;omega),Q6o]
theorem sumL_bnd {m:Nat}:∀ {x:List (List Int)},(∀ a∈x,a.length≤m)→sumL x≤x.length * m:=by
 intro x
 induction x with
 | nil=>intro _;simp [sumL]
 | cons a r ih =>
  intro h;have h1:=h a (by simp);have h2:=ih fun b hb=>h b (by simp [hb]);simp only [sumL,List.map_cons,List.sum_cons,List.length_cons,Nat.succ_mul] at h2 ⊢;omega
structure PRes (p:Prf) (f g:Fn):Prop where
 m:p.M
 hf:f.Is
 hg:g.Is
 e1:f.t=p.s
 e2:g.t=p.t
structure PRF (p:Prf) (f g:Fn):Prop where
 a1:(f.ob.length:Int)=f.s.n
 a2:f.ar.length=f.s.fr.length
 a3:(g.ob.length:Int)=g.s.n
 a4:g.ar.length=g.s.fr.length
 a5:f.s.n≤8
 a6:g.s.n≤8
 a7:f.s.fr.length≤40
 a8:g.s.fr.length≤40
 b1:∀ x:Nat,x<f.ob.length→0≤ix f.ob x∧ix f.ob x<p.s.n
 b2:∀ x:Nat,x<g.ob.length→0≤ix g.ob x∧ix g.ob x<p.t.n
 b3:∀ x:Nat,x<f.ar.length→0≤ix f.ar x∧ix f.ar x<(p.s.fr.length:Int)
 b4:∀ x:Nat,x<g.ar.length→0≤ix g.ar x∧ix g.ar x<(p.t.fr.length:Int)
theorem mem_tab {α:Type} {n:Nat} {v:Nat→α} {a:α} (h:a∈tab n v):∃ i,i<n∧a=v i:=by
 simp only [tab,List.mem_map,List.mem_range] at h;obtain ⟨i,hi,rfl⟩:=h;exact ⟨i,hi,rfl⟩
theorem Q7p:zeroF.ok∧zeroF.size≤10000:=by simp [Fn.ok,Fn.size,Cat.ok,Cat.size,zeroF,sumL]
attribute [local simp] eL eI Qw QH Q2e Cat.cells Fn.cells
noncomputable def Q17 (f_:Fn) (g_:Fn):Option Bool :=
 (
  (QI f_.s g_.s).bind fun v2 =>
  if v2=true then
   (QI f_.t g_.t).bind fun v4 =>
   if v4=true then
    (Q4h f_.ob g_.ob).bind fun v6 =>
    if v6=true then
     (Q4h f_.ar g_.ar).bind fun v8 =>
     some v8
    else
     some false
   else
    some false
  else
   some false:Option (Bool)).bind fun b1 =>
 some b1
theorem Q3u (f_:Fn) (g_:Fn) (r:Bool) (h:Q17 f_ g_=some r):Contract Try.prog 145 [.rptr (f_.cells true),.rptr (g_.cells true)] (.val (.bool r)):=by
 refine Qf (rvs:=[.tmp 4]) (rs:=[.val (.bool r)]) Try.func145 rfl rfl rfl rfl (by simp [Try.f145]) fun F hN hP=>?_;unfold Q17 at h;refine Q4 ?_;refine runQ hN fun K hK=>?_;simp [-Q0,-Q6,-Q1,-Q7,-Q2];repeat refine sdQ ?_
 refine hK _ ?_;clear hK K;refine tn ?_;refine Q8 (st':=⟨[(0,.rptr (Fn.cells true f_)),(1,.rptr (Fn.cells true g_))],[],0⟩) (wkQ9 []) ?_;refine Q4 ?_;replace h:=bind_some h;obtain ⟨e1,h,h1⟩:=h;refine Qh (fun b1:Bool=>⟨[(4,.val (.bool b1))],[],0⟩) (fun b1=>b1=e1) ?_ ?_
 ·refine runQ hN fun K hK=>?_;simp [-Q0,-Q6,-Q1,-Q7,-Q2];repeat with_reducible refine sdQ ?_
  replace h:=bind_some h;obtain ⟨v2,hv2,h⟩:=h;refine Q3 (Q1y _ _ v2 hv2) (.cons (.preT (by simp [Cat.cells,Fn.cells])) (.cons (.preT (by simp [Cat.cells,Fn.cells])) .nil)) ?_;simp [-Q0,-Q6,-Q1,-Q7,-Q2,unk,unA,unE,unT,unC,flat];repeat with_reducible refine sdQ ?_
  refine Qq (fun g=>?_) (fun g=>?_)
  ·have g3:v2=true:=gQ;clear g;replace h:=if_l g3 h;simp [-Q0,-Q6,-Q1,-Q7,-Q2];(repeat with_reducible refine sdQ ?_);replace h:=bind_some h;obtain ⟨v4,hv4,h⟩:=h;refine Q3 (Q1y _ _ v4 hv4) (.cons (.preT (by simp [Cat.cells,Fn.cells])) (.cons (.preT (by simp [Cat.cells,Fn.cells])) .nil)) ?_;simp [-Q0,-Q6,-Q1,-Q7,-Q2,unk,unA,unE,unT,unC,flat];(repeat with_reducible refine sdQ ?_);refine Qq (fun g=>?_) (fun g=>?_)
   ·have g5:v4=true:=gQ;clear g;replace h:=if_l g5 h;simp [-Q0,-Q6,-Q1,-Q7,-Q2];(repeat with_reducible refine sdQ ?_);replace h:=bind_some h;obtain ⟨v6,hv6,h⟩:=h;refine Q3 (Q8V _ _ v6 hv6) (.cons .lst (.cons .lst .nil)) ?_;simp [-Q0,-Q6,-Q1,-Q7,-Q2,unk,unA,unE,unT,unC,flat];(repeat with_reducible refine sdQ ?_);refine Qq (fun g=>?_) (fun g=>?_)
    ·have g7:v6=true:=gQ;clear g;replace h:=if_l g7 h;simp [-Q0,-Q6,-Q1,-Q7,-Q2];(repeat with_reducible refine sdQ ?_);replace h:=bind_some h;obtain ⟨v8,hv8,h⟩:=h;refine Q3 (Q8V _ _ v8 hv8) (.cons .lst (.cons .lst .nil)) ?_;simp [-Q0,-Q6,-Q1,-Q7,-Q2,unk,unA,unE,unT,unC,flat];(repeat refine sdQ ?_);refine hK _ ?_;exact jn (b:=v8) (Option.some.inj h) (wkQ9 [])
    have g7:¬ (v6=true):=gQ;clear g;replace h:=if_r g7 h;simp [-Q0,-Q6,-Q1,-Q7,-Q2];(repeat refine sdQ ?_);refine hK _ ?_;exact jn (b:=false) (Option.some.inj h) (wkQ9 [])
   have g5:¬ (v4=true):=gQ;clear g;replace h:=if_r g5 h;simp [-Q0,-Q6,-Q1,-Q7,-Q2];(repeat refine sdQ ?_);refine hK _ ?_;exact jn (b:=false) (Option.some.inj h) (wkQ9 [])
  have g3:¬ (v2=true):=gQ;clear g;replace h:=if_r g3 h;simp [-Q0,-Q6,-Q1,-Q7,-Q2];repeat refine sdQ ?_
  refine hK _ ?_;exact jn (b:=false) (Option.some.inj h) (wkQ9 [])
 intro b1 hb1;have h:=h1;try rw [← hb1] at h
 clear h1;try dsimp only at h
 refine Qg ?_;have hr:=Option.some.inj h;rw [← hr];refine ⟨_,(.tmp .nil),?_⟩;refine ⟨(.one rfl rfl .nil),[.val (.bool b1)],[],by simp [Cat.cells,Fn.cells,UA,U1,IA,I1,LA,L1,BA,B1,EA,E1,E2,eB,eI,eL],by simp,(UpL.refl _)⟩
attribute [local simp] eL eI Qw QH Q3H Q2e Cat.cells Fam.cells Fn.cells
noncomputable def QV (m_:Fam):Option Bool :=
 (
  (Qy m_.b).bind fun v2 =>
  if ¬ (v2=true) then
   some true
  else
   if ¬ ((m_.fb.length:Int)=m_.b.n) then
    some true
   else
    (Qr m_.b).bind fun v5 =>
    some ((m_.ch.length:Int) != v5):Option (Bool)).bind fun b1 =>
 if b1=true then
  some false
 else
  (QC (σ:=Int) (ε:=Unit ⊕ Bool) (fun s13 =>
   if s13<(m_.fb.length:Int) then
    ass (0≤s13∧s13<(m_.fb.length:Int)) <|
    (Qy (gx m_.fb s13)).bind fun v16 =>
    if ¬ (v16=true) then
     some (Ctl.ret (Sum.inr false))
    else
     ass (B64 (s13+1)) <|
     some (Ctl.next (s13+1))
   else
    some (Ctl.ret (Sum.inl ()))) fuel 0).bind fun e7 =>
  match e7 with
  | .inl b7 =>
   (QC (σ:=Int) (ε:=Unit ⊕ Bool) (fun s34 =>
    if s34<(m_.ch.length:Int) then
     ass (0≤s34∧s34<(m_.ch.length:Int)) <|
     (
      (QL (gx m_.ch s34)).bind fun v38 =>
      if ¬ (v38=true) then
       some true
      else
       ass (0≤s34∧s34<(m_.b.fr.length:Int)) <|
       ass (0≤ix m_.b.fr s34∧ix m_.b.fr s34<(m_.fb.length:Int)) <|
       (QI ((gx m_.ch s34).s) (gx m_.fb (ix m_.b.fr s34))).bind fun v42 =>
       if ¬ (v42=true) then
        some true
       else
        ass (0≤s34∧s34<(m_.b.to.length:Int)) <|
        ass (0≤ix m_.b.to s34∧ix m_.b.to s34<(m_.fb.length:Int)) <|
        (QI ((gx m_.ch s34).t) (gx m_.fb (ix m_.b.to s34))).bind fun v46 =>
        some (!v46):Option (Bool)).bind fun b37 =>
     if b37=true then
      some (Ctl.ret (Sum.inr false))
     else
      ass (B64 (s34+1)) <|
      some (Ctl.next (s34+1))
    else
     some (Ctl.ret (Sum.inl ()))) fuel 0).bind fun e19 =>
   match e19 with
   | .inl b19 =>
    (QC (σ:=Int) (ε:=Unit ⊕ Bool) (fun s58 =>
     if s58<(m_.b.id.length:Int) then
      ass (0≤s58∧s58<(m_.b.id.length:Int)) <|
      ass (0≤s58∧s58<(m_.fb.length:Int)) <|
      (Q28 (gx m_.fb s58)).bind fun v62 =>
      ass (0≤ix m_.b.id s58∧ix m_.b.id s58<(m_.ch.length:Int)) <|
      (Q17 (gx m_.ch (ix m_.b.id s58)) v62).bind fun v64 =>
      if ¬ (v64=true) then
       some (Ctl.ret (Sum.inr false))
      else
       ass (B64 (s58+1)) <|
       some (Ctl.next (s58+1))
     else
      some (Ctl.ret (Sum.inl ()))) fuel 0).bind fun e49 =>
    match e49 with
    | .inl b49 =>
     (QC (σ:=Int) (ε:=Unit ⊕ Bool) (fun s95 =>
      if s95<(m_.b.cs.length:Int) then
       (
        ass (0≤s95∧s95<(m_.b.cs.length:Int)) <|
        (QC (σ:=Int) (ε:=Bool ⊕ Unit) (fun s110 =>
         if s110<((rx m_.b.cs s95).length:Int) then
          (
           ass (0≤s110∧s110<((rx m_.b.cs s95).length:Int)) <|
           if (ix (rx m_.b.cs s95) s110)<0 then
            some (Sum.inl ())
           else
            ass (0≤s95∧s95<(m_.ch.length:Int)) <|
            ass (0≤s110∧s110<(m_.ch.length:Int)) <|
            (Q1g (gx m_.ch s95) (gx m_.ch s110)).bind fun v117 =>
            ass (0≤ix (rx m_.b.cs s95) s110∧ix (rx m_.b.cs s95) s110<(m_.ch.length:Int)) <|
            (Q17 (gx m_.ch (ix (rx m_.b.cs s95) s110)) v117).bind fun v119 =>
            if ¬ (v119=true) then
             some (Sum.inr false)
            else
             some (Sum.inl ()):Option (Unit ⊕ Bool)).bind fun e112 =>
          match e112 with
          | .inl b112 =>
           ass (B64 (s110+1)) <|
           some (Ctl.next (s110+1))
          | .inr p112 =>
           some (Ctl.ret (Sum.inl p112))
         else
          some (Ctl.ret (Sum.inr ()))) fuel 0).bind fun e110 =>
        match e110 with
        | .inl p110 =>
         some (Sum.inr p110)
        | .inr p110 =>
         some (Sum.inl p110):Option (Unit ⊕ Bool)).bind fun e97 =>
       match e97 with
       | .inl b97 =>
        ass (B64 (s95+1)) <|
        some (Ctl.next (s95+1))
       | .inr p97 =>
        some (Ctl.ret (Sum.inr p97))
      else
       some (Ctl.ret (Sum.inl ()))) fuel 0).bind fun e67 =>
     match e67 with
     | .inl b67 =>
      some true
     | .inr p67 =>
      some p67
    | .inr p49 =>
     some p49
   | .inr p19 =>
    some p19
  | .inr p7 =>
   some p7
theorem Q3W (m_:Fam) (r:Bool) (h:QV m_=some r):Contract Try.prog 94 [.rptr (m_.cells true)] (.val (.bool r)):=by
 refine Qf (rvs:=[.tmp 2]) (rs:=[.val (.bool r)]) Try.func94 rfl rfl rfl rfl (by simp [Try.f94]) fun F hN hP=>?_;unfold QV at h;refine Q4 ?_;refine runQ hN fun K hK=>?_;simp [-Q0,-Q6,-Q1,-Q7,-Q2];repeat refine sdQ ?_
 refine hK _ ?_;clear hK K;refine tn ?_;refine Q8 (st':=⟨[(0,.rptr (Fam.cells true m_))],[],0⟩) (wkQ9 []) ?_;refine Q4 ?_;refine runQ hN fun K hK=>?_;simp [-Q0,-Q6,-Q1,-Q7,-Q2];repeat refine sdQ ?_
 refine hK _ ?_;clear hK K;refine tn ?_;refine Q8 (st':=⟨[(0,.rptr (Fam.cells true m_)),(3,.rptr (Fam.cells true m_))],[],0⟩) (wkQ9 []) ?_;refine Q4 ?_;refine Q4 ?_;replace h:=bind_some h;obtain ⟨e1,h,h1⟩:=h;refine Qh (fun b1:Bool=>⟨[(0,.rptr (Fam.cells true m_)),(3,.rptr (Fam.cells true m_)),(42,.val (.bool b1))],[],0⟩) (fun b1=>b1=e1) ?_ ?_
 ·refine runQ hN fun K hK=>?_;simp [-Q0,-Q6,-Q1,-Q7,-Q2];repeat with_reducible refine sdQ ?_
  replace h:=bind_some h;obtain ⟨v2,hv2,h⟩:=h;refine Q3 (Q1c _ v2 hv2) (.cons (.preT (by simp [Cat.cells,Fam.cells])) .nil) ?_;simp [-Q0,-Q6,-Q1,-Q7,-Q2,unk,unA,unE,unT,unC,flat];repeat with_reducible refine sdQ ?_
  refine Qq (fun g=>?_) (fun g=>?_)
  ·have g3:¬ (¬ (v2=true)):=gQ;clear g;replace h:=if_r g3 h;simp [-Q0,-Q6,-Q1,-Q7,-Q2];(repeat with_reducible refine sdQ ?_);refine Qq (fun g=>?_) (fun g=>?_)
   ·have g4:¬ (¬ ((m_.fb.length:Int)=m_.b.n)):=gQ;clear g;replace h:=if_r g4 h;simp [-Q0,-Q6,-Q1,-Q7,-Q2];(repeat with_reducible refine sdQ ?_);replace h:=bind_some h;obtain ⟨v5,hv5,h⟩:=h;refine Q3 (QX _ v5 hv5) (.cons (.preT (by simp [Cat.cells,Fam.cells])) .nil) ?_;simp [-Q0,-Q6,-Q1,-Q7,-Q2,unk,unA,unE,unT,unC,flat];(repeat refine sdQ ?_);refine hK _ ?_;exact jn (b:=(m_.ch.length:Int) != v5) (Option.some.inj h) (wkQ9 [])
   have g4:¬ ((m_.fb.length:Int)=m_.b.n):=gQ;clear g;replace h:=if_l g4 h;simp [-Q0,-Q6,-Q1,-Q7,-Q2];(repeat refine sdQ ?_);refine hK _ ?_;exact jn (b:=true) (Option.some.inj h) (wkQ9 [])
  have g3:¬ (v2=true):=gQ;clear g;replace h:=if_l g3 h;simp [-Q0,-Q6,-Q1,-Q7,-Q2];repeat refine sdQ ?_
  refine hK _ ?_;exact jn (b:=true) (Option.some.inj h) (wkQ9 [])
 intro b1 hb1;have h:=h1;try rw [← hb1] at h
 clear h1;try dsimp only at h
 refine Qc rfl (fun g=>?_) fun g=>?_
 ·have g6:b1=true:=gQ;clear g;replace h:=if_l g6 h;refine Q4 ?_;refine runQ hN fun K hK=>?_;simp [-Q0,-Q6,-Q1,-Q7,-Q2];repeat refine sdQ ?_
  refine hK _ ?_;clear hK K;refine tn ?_;refine Q8 (st':=⟨[(2,.val (.bool false))],[],0⟩) (wkQ9 []) ?_;refine Qg ?_;refine tr ?_;have hr:=Option.some.inj h;rw [← hr];refine ⟨_,(.tmp .nil),?_⟩;refine ⟨(.one rfl rfl .nil),[.val (.bool false)],[],by simp [Cat.cells,Fam.cells,Fn.cells,UA,U1,IA,I1,LA,L1,BA,B1,EA,E1,E2,eB,eI,eL],by simp,(UpL.refl _)⟩
 have g6:¬ (b1=true):=gQ;clear g;replace h:=if_r g6 h;refine Qd ?_;refine tn ?_;refine Q4 ?_;refine Q4 ?_;refine runQ hN fun K hK=>?_;simp [-Q0,-Q6,-Q1,-Q7,-Q2];repeat refine sdQ ?_
 refine hK _ ?_;clear hK K;refine tn ?_;refine Q8 (st':=⟨[(0,.rptr (Fam.cells true m_)),(3,.rptr (Fam.cells true m_)),(47,iV (m_.fb.length:Int)),(48,iV 0)],[],0⟩) (wkQ9 []) ?_;replace h:=bind_some h;obtain ⟨e7,h,h7⟩:=h;refine Qh (fun b7:Unit=>⟨[(0,.rptr (Fam.cells true m_)),(3,.rptr (Fam.cells true m_))],[],0⟩) (fun b7=>Sum.inl b7=e7) ?_ ?_
 ·refine Qa ?_;refine Qu h (fun s13:Int=>⟨[(0,.rptr (Fam.cells true m_)),(3,.rptr (Fam.cells true m_)),(47,iV (m_.fb.length:Int)),(48,iV s13)],[],0⟩) (wkQ9 []) ?_;clear h;intro k13 s13 c13 h hk13;refine Q4 ?_;refine runQ hN fun K hK=>?_;simp [-Q0,-Q6,-Q1,-Q7,-Q2];repeat refine sdQ ?_
  refine hK _ ?_;clear hK K;refine tn ?_;refine Q8 (st':=⟨[(0,.rptr (Fam.cells true m_)),(3,.rptr (Fam.cells true m_)),(47,iV (m_.fb.length:Int)),(48,iV s13),(49,.val (.bool (decide (s13<(m_.fb.length:Int)))))],[],0⟩) (wkQ9 []) ?_;refine Q4 ?_;refine Qc rfl (fun g=>?_) fun g=>?_
  ·have g14:s13<(m_.fb.length:Int):=gQ;clear g;replace h:=if_l g14 h;refine Qd ?_;refine tn ?_;refine Q4 ?_;refine Qa ?_;refine Q4 ?_;refine runQ hN fun K hK=>?_;simp [-Q0,-Q6,-Q1,-Q7,-Q2];(repeat refine sdQ ?_);refine hK _ ?_;clear hK K;refine tn ?_;refine Q8 (st':=⟨[(0,.rptr (Fam.cells true m_)),(3,.rptr (Fam.cells true m_)),(4,iV s13),(47,iV (m_.fb.length:Int)),(48,iV s13)],[],0⟩) (wkQ9 []) ?_;refine Q4 ?_;refine runQ hN fun K hK=>?_;replace h:=Q5 h;obtain ⟨a15,h⟩:=h;simp [-Q0,-Q6,-Q1,-Q7,-Q2,at_E (c:=(Cat.cells true)) a15];(repeat with_reducible refine sdQ ?_);replace h:=bind_some h;obtain ⟨v16,hv16,h⟩:=h;refine Q3 (Q1c _ v16 hv16) (.cons (.preT (by simp [Cat.cells,Fam.cells])) .nil) ?_;simp [-Q0,-Q6,-Q1,-Q7,-Q2,unk,unA,unE,unT,unC,flat,at_E (c:=(Cat.cells true)) a15];(repeat refine sdQ ?_);refine hK _ ?_;clear hK K;refine tn ?_;refine Q8 (st':=⟨[(0,.rptr (Fam.cells true m_)),(3,.rptr (Fam.cells true m_)),(47,iV (m_.fb.length:Int)),(48,iV s13),(58,.val (.bool (!v16)))],[],0⟩) (wkQ9 []) ?_;refine Qc rfl (fun g=>?_) fun g=>?_
   ·have g17:¬ (v16=true):=gQ;clear g;replace h:=if_l g17 h;refine Q4 ?_;refine runQ hN fun K hK=>?_;simp [-Q0,-Q6,-Q1,-Q7,-Q2];(repeat refine sdQ ?_);refine hK _ ?_;clear hK K;refine tn ?_;refine Q8 (st':=⟨[(2,.val (.bool false))],[],0⟩) (wkQ9 []) ?_;refine Qg ?_;refine br ?_;refine tr ?_;refine lr ?_;refine br ?_;refine tr ?_;cases h;have q:_=e7:=hk13;have h:=h7;rw [← q] at h;clear q;(try dsimp only at h);have hr:=Option.some.inj h;rw [← hr];refine ⟨_,(.tmp .nil),?_⟩;refine ⟨(.one rfl rfl .nil),[.val (.bool false)],[],by simp [Cat.cells,Fam.cells,Fn.cells,UA,U1,IA,I1,LA,L1,BA,B1,EA,E1,E2,eB,eI,eL],by simp,(UpL.refl _)⟩
   have g17:¬ (¬ (v16=true)):=gQ;clear g;replace h:=if_r g17 h;refine Qd ?_;refine bn ?_;refine tn ?_;refine runQ hN fun K hK=>?_;replace h:=Q5 h;obtain ⟨a18,h⟩:=h;simp [-Q0,-Q6,-Q1,-Q7,-Q2,Qk a18];(repeat refine sdQ ?_);refine hK _ ?_;clear hK K;cases h;exact rn (s':=s13+1) hk13 (wkQ9 [])
  have g14:¬ (s13<(m_.fb.length:Int)):=gQ;clear g;replace h:=if_r g14 h;refine Qj ?_;refine tx ?_;refine lx ?_;refine bh ?_;cases h;exact jn (b:=()) hk13 (wkQ9 [])
 intro b7 hb7;have h:=h7;try rw [← hb7] at h
 clear h7;try dsimp only at h
 refine Q4 ?_;refine Q4 ?_;refine runQ hN fun K hK=>?_;simp [-Q0,-Q6,-Q1,-Q7,-Q2];repeat refine sdQ ?_
 refine hK _ ?_;clear hK K;refine tn ?_;refine Q8 (st':=⟨[(0,.rptr (Fam.cells true m_)),(3,.rptr (Fam.cells true m_)),(64,iV (m_.ch.length:Int)),(65,iV 0)],[],0⟩) (wkQ9 []) ?_;replace h:=bind_some h;obtain ⟨e19,h,h19⟩:=h;refine Qh (fun b19:Unit=>⟨[(0,.rptr (Fam.cells true m_)),(3,.rptr (Fam.cells true m_))],[],0⟩) (fun b19=>Sum.inl b19=e19) ?_ ?_
 ·refine Qa ?_;refine Qu h (fun s34:Int=>⟨[(0,.rptr (Fam.cells true m_)),(3,.rptr (Fam.cells true m_)),(64,iV (m_.ch.length:Int)),(65,iV s34)],[],0⟩) (wkQ9 []) ?_;clear h;intro k34 s34 c34 h hk34;refine Q4 ?_;refine runQ hN fun K hK=>?_;simp [-Q0,-Q6,-Q1,-Q7,-Q2];repeat refine sdQ ?_
  refine hK _ ?_;clear hK K;refine tn ?_;refine Q8 (st':=⟨[(0,.rptr (Fam.cells true m_)),(3,.rptr (Fam.cells true m_)),(64,iV (m_.ch.length:Int)),(65,iV s34),(66,.val (.bool (decide (s34<(m_.ch.length:Int)))))],[],0⟩) (wkQ9 []) ?_;refine Q4 ?_;refine Qc rfl (fun g=>?_) fun g=>?_
  ·have g35:s34<(m_.ch.length:Int):=gQ;clear g;replace h:=if_l g35 h;refine Qd ?_;refine tn ?_;refine Q4 ?_;refine Qa ?_;refine Q4 ?_;refine runQ hN fun K hK=>?_;simp [-Q0,-Q6,-Q1,-Q7,-Q2];(repeat refine sdQ ?_);refine hK _ ?_;clear hK K;refine tn ?_;refine Q8 (st':=⟨[(0,.rptr (Fam.cells true m_)),(3,.rptr (Fam.cells true m_)),(5,iV s34),(64,iV (m_.ch.length:Int)),(65,iV s34)],[],0⟩) (wkQ9 []) ?_;refine Q4 ?_;refine runQ hN fun K hK=>?_;replace h:=Q5 h;obtain ⟨a36,h⟩:=h;simp [-Q0,-Q6,-Q1,-Q7,-Q2,at_E (c:=(Fn.cells true)) a36];(repeat refine sdQ ?_);refine hK _ ?_;clear hK K;refine tn ?_;refine Q8 (st':=⟨[(0,.rptr (Fam.cells true m_)),(3,.rptr (Fam.cells true m_)),(5,iV s34),(6,.rptr (Fn.cells true (gx m_.ch s34))),(64,iV (m_.ch.length:Int)),(65,iV s34)],[],0⟩) (wkQ9 []) ?_;refine Q4 ?_;replace h:=bind_some h;obtain ⟨e37,h,h37⟩:=h;refine Qh (fun b37:Bool=>⟨[(0,.rptr (Fam.cells true m_)),(3,.rptr (Fam.cells true m_)),(64,iV (m_.ch.length:Int)),(65,iV s34),(114,.val (.bool b37))],[],0⟩) (fun b37=>b37=e37) ?_ ?_
   ·refine runQ hN fun K hK=>?_;simp [-Q0,-Q6,-Q1,-Q7,-Q2];(repeat with_reducible refine sdQ ?_);replace h:=bind_some h;obtain ⟨v38,hv38,h⟩:=h;refine Q3 (Q3t _ v38 hv38) (.cons (.preT (by simp [Cat.cells,Fam.cells,Fn.cells])) .nil) ?_;simp [-Q0,-Q6,-Q1,-Q7,-Q2,unk,unA,unE,unT,unC,flat];(repeat with_reducible refine sdQ ?_);refine Qq (fun g=>?_) (fun g=>?_)
    ·have g39:¬ (¬ (v38=true)):=gQ;clear g;replace h:=if_r g39 h;replace h:=Q5 h;obtain ⟨a40,h⟩:=h;replace h:=Q5 h;obtain ⟨a41,h⟩:=h;simp [-Q0,-Q6,-Q1,-Q7,-Q2,at_I a40,at_E (c:=(Cat.cells true)) a41];(repeat with_reducible refine sdQ ?_);replace h:=bind_some h;obtain ⟨v42,hv42,h⟩:=h;refine Q3 (Q1y _ _ v42 hv42) (.cons (.preT (by simp [Cat.cells,Fam.cells,Fn.cells])) (.cons (.preT (by simp [Cat.cells,Fam.cells,Fn.cells])) .nil)) ?_;simp [-Q0,-Q6,-Q1,-Q7,-Q2,unk,unA,unE,unT,unC,flat,at_I a40,at_E (c:=(Cat.cells true)) a41];(repeat with_reducible refine sdQ ?_);refine Qq (fun g=>?_) (fun g=>?_)
     ·have g43:¬ (¬ (v42=true)):=gQ;clear g;replace h:=if_r g43 h;replace h:=Q5 h;obtain ⟨a44,h⟩:=h;replace h:=Q5 h;obtain ⟨a45,h⟩:=h;simp [-Q0,-Q6,-Q1,-Q7,-Q2,at_I a40,at_E (c:=(Cat.cells true)) a41,at_I a44,at_E (c:=(Cat.cells true)) a45];(repeat with_reducible refine sdQ ?_);replace h:=bind_some h;obtain ⟨v46,hv46,h⟩:=h;refine Q3 (Q1y _ _ v46 hv46) (.cons (.preT (by simp [Cat.cells,Fam.cells,Fn.cells])) (.cons (.preT (by simp [Cat.cells,Fam.cells,Fn.cells])) .nil)) ?_;simp [-Q0,-Q6,-Q1,-Q7,-Q2,unk,unA,unE,unT,unC,flat,at_I a40,at_E (c:=(Cat.cells true)) a41,at_I a44,at_E (c:=(Cat.cells true)) a45];(repeat refine sdQ ?_);refine hK _ ?_;exact jn (b:=!v46) (Option.some.inj h) (wkQ9 [])
     have g43:¬ (v42=true):=gQ;clear g;replace h:=if_l g43 h;simp [-Q0,-Q6,-Q1,-Q7,-Q2,at_I a40,at_E (c:=(Cat.cells true)) a41];(repeat refine sdQ ?_);refine hK _ ?_;exact jn (b:=true) (Option.some.inj h) (wkQ9 [])
    have g39:¬ (v38=true):=gQ;clear g;replace h:=if_l g39 h;simp [-Q0,-Q6,-Q1,-Q7,-Q2];(repeat refine sdQ ?_);refine hK _ ?_;exact jn (b:=true) (Option.some.inj h) (wkQ9 [])
   intro b37 hb37;have h:=h37;(try rw [← hb37] at h);clear h37;(try dsimp only at h);refine Qc rfl (fun g=>?_) fun g=>?_
   ·have g47:b37=true:=gQ;clear g;replace h:=if_l g47 h;refine Q4 ?_;refine runQ hN fun K hK=>?_;simp [-Q0,-Q6,-Q1,-Q7,-Q2];(repeat refine sdQ ?_);refine hK _ ?_;clear hK K;refine tn ?_;refine Q8 (st':=⟨[(2,.val (.bool false))],[],0⟩) (wkQ9 []) ?_;refine Qg ?_;refine br ?_;refine tr ?_;refine lr ?_;refine br ?_;refine tr ?_;cases h;have q:_=e19:=hk34;have h:=h19;rw [← q] at h;clear q;(try dsimp only at h);have hr:=Option.some.inj h;rw [← hr];refine ⟨_,(.tmp .nil),?_⟩;refine ⟨(.one rfl rfl .nil),[.val (.bool false)],[],by simp [Cat.cells,Fam.cells,Fn.cells,UA,U1,IA,I1,LA,L1,BA,B1,EA,E1,E2,eB,eI,eL],by simp,(UpL.refl _)⟩
   have g47:¬ (b37=true):=gQ;clear g;replace h:=if_r g47 h;refine Qd ?_;refine bn ?_;refine tn ?_;refine runQ hN fun K hK=>?_;replace h:=Q5 h;obtain ⟨a48,h⟩:=h;simp [-Q0,-Q6,-Q1,-Q7,-Q2,Qk a48];(repeat refine sdQ ?_);refine hK _ ?_;clear hK K;cases h;exact rn (s':=s34+1) hk34 (wkQ9 [])
  have g35:¬ (s34<(m_.ch.length:Int)):=gQ;clear g;replace h:=if_r g35 h;refine Qj ?_;refine tx ?_;refine lx ?_;refine bh ?_;cases h;exact jn (b:=()) hk34 (wkQ9 [])
 intro b19 hb19;have h:=h19;try rw [← hb19] at h
 clear h19;try dsimp only at h
 refine Q4 ?_;refine Q4 ?_;refine runQ hN fun K hK=>?_;simp [-Q0,-Q6,-Q1,-Q7,-Q2];repeat refine sdQ ?_
 refine hK _ ?_;clear hK K;refine tn ?_;refine Q8 (st':=⟨[(0,.rptr (Fam.cells true m_)),(3,.rptr (Fam.cells true m_)),(119,lI m_.b.id),(120,iV (m_.b.id.length:Int)),(121,iV 0)],[],0⟩) (wkQ9 []) ?_;replace h:=bind_some h;obtain ⟨e49,h,h49⟩:=h;refine Qh (fun b49:Unit=>⟨[(0,.rptr (Fam.cells true m_)),(3,.rptr (Fam.cells true m_))],[],0⟩) (fun b49=>Sum.inl b49=e49) ?_ ?_
 ·refine Qa ?_;refine Qu h (fun s58:Int=>⟨[(0,.rptr (Fam.cells true m_)),(3,.rptr (Fam.cells true m_)),(119,lI m_.b.id),(120,iV (m_.b.id.length:Int)),(121,iV s58)],[],0⟩) (wkQ9 []) ?_;clear h;intro k58 s58 c58 h hk58;refine Q4 ?_;refine runQ hN fun K hK=>?_;simp [-Q0,-Q6,-Q1,-Q7,-Q2];repeat refine sdQ ?_
  refine hK _ ?_;clear hK K;refine tn ?_;refine Q8 (st':=⟨[(0,.rptr (Fam.cells true m_)),(3,.rptr (Fam.cells true m_)),(119,lI m_.b.id),(120,iV (m_.b.id.length:Int)),(121,iV s58),(122,.val (.bool (decide (s58<(m_.b.id.length:Int)))))],[],0⟩) (wkQ9 []) ?_;refine Q4 ?_;refine Qc rfl (fun g=>?_) fun g=>?_
  ·have g59:s58<(m_.b.id.length:Int):=gQ;clear g;replace h:=if_l g59 h;refine Qd ?_;refine tn ?_;refine Q4 ?_;refine Qa ?_;refine Q4 ?_;refine runQ hN fun K hK=>?_;replace h:=Q5 h;obtain ⟨a60,h⟩:=h;simp [-Q0,-Q6,-Q1,-Q7,-Q2,at_I a60];(repeat refine sdQ ?_);refine hK _ ?_;clear hK K;refine tn ?_;refine Q8 (st':=⟨[(0,.rptr (Fam.cells true m_)),(3,.rptr (Fam.cells true m_)),(7,iV s58),(8,iV (ix m_.b.id s58)),(119,lI m_.b.id),(120,iV (m_.b.id.length:Int)),(121,iV s58)],[],0⟩) (wkQ9 []) ?_;refine Q4 ?_;refine runQ hN fun K hK=>?_;replace h:=Q5 h;obtain ⟨a61,h⟩:=h;simp [-Q0,-Q6,-Q1,-Q7,-Q2,at_E (c:=(Cat.cells true)) a61];(repeat with_reducible refine sdQ ?_);replace h:=bind_some h;obtain ⟨v62,hv62,h⟩:=h;refine Q3 (Q7k _ v62 hv62) (.cons (.preT (by simp [Cat.cells,Fam.cells,Fn.cells])) .nil) ?_;simp [-Q0,-Q6,-Q1,-Q7,-Q2,unk,unA,unE,unT,unC,flat,at_E (c:=(Cat.cells true)) a61];(repeat refine sdQ ?_);refine hK _ ?_;clear hK K;refine tn ?_;refine Q8 (st':=⟨[(0,.rptr (Fam.cells true m_)),(3,.rptr (Fam.cells true m_)),(8,iV (ix m_.b.id s58)),(9,.adr 0 0 0),(119,lI m_.b.id),(120,iV (m_.b.id.length:Int)),(121,iV s58)],[(0,.mix 12 [[iV v62.s.n,.own 1 0 v62.s.fr.length,.own 2 0 v62.s.to.length,.own 3 0 v62.s.id.length,.own 4 0 v62.s.cs.length,iV v62.t.n,.own 5 0 v62.t.fr.length,.own 6 0 v62.t.to.length,.own 7 0 v62.t.id.length,.own 8 0 v62.t.cs.length,.own 9 0 v62.ob.length,.own 10 0 v62.ar.length]]),(1,rI v62.s.fr),(2,rI v62.s.to),(3,rI v62.s.id),(4,.row 1 (Ls v62.s.cs)),(5,rI v62.t.fr),(6,rI v62.t.to),(7,rI v62.t.id),(8,.row 1 (Ls v62.t.cs)),(9,rI v62.ob),(10,rI v62.ar)],11⟩) (wkQ9 [(12,0),(1,1),(2,2),(3,3),(4,4),(6,5),(7,6),(8,7),(9,8),(10,9),(11,10)]) ?_;refine Q4 ?_;refine runQ hN fun K hK=>?_;replace h:=Q5 h;obtain ⟨a63,h⟩:=h;simp [-Q0,-Q6,-Q1,-Q7,-Q2,at_E (c:=(Fn.cells true)) a63];(repeat with_reducible refine sdQ ?_);replace h:=bind_some h;obtain ⟨v64,hv64,h⟩:=h;refine Q3 (Q3u _ _ v64 hv64) (.cons (.preT (by simp [Cat.cells,Fam.cells,Fn.cells])) (.cons (.field rfl (by simp [Cat.cells,Fam.cells,Fn.cells]) (.cons .val (.cons (.whole (by simp) (by simp) (by simp)) (.cons (.whole (by simp) (by simp) (by simp)) (.cons (.whole (by simp) (by simp) (by simp)) (.cons (.whole (by simp) (by simp) (by simp)) (.cons .val (.cons (.whole (by simp) (by simp) (by simp)) (.cons (.whole (by simp) (by simp) (by simp)) (.cons (.whole (by simp) (by simp) (by simp)) (.cons (.whole (by simp) (by simp) (by simp)) (.cons (.whole (by simp) (by simp) (by simp)) (.cons (.whole (by simp) (by simp) (by simp)) .nil))))))))))))) .nil)) ?_;simp [-Q0,-Q6,-Q1,-Q7,-Q2,unk,unA,unE,unT,unC,flat,at_E (c:=(Fn.cells true)) a63];(repeat refine sdQ ?_);refine hK _ ?_;clear hK K;refine tn ?_
   refine Q8 (st':=⟨[(0,.rptr (Fam.cells true m_)),(3,.rptr (Fam.cells true m_)),(119,lI m_.b.id),(120,iV (m_.b.id.length:Int)),(121,iV s58),(140,.val (.bool (!v64)))],[],0⟩) (wkQ9 []) ?_;refine Qc rfl (fun g=>?_) fun g=>?_
   ·have g65:¬ (v64=true):=gQ;clear g;replace h:=if_l g65 h;refine Q4 ?_;refine runQ hN fun K hK=>?_;simp [-Q0,-Q6,-Q1,-Q7,-Q2];(repeat refine sdQ ?_);refine hK _ ?_;clear hK K;refine tn ?_;refine Q8 (st':=⟨[(2,.val (.bool false))],[],0⟩) (wkQ9 []) ?_;refine Qg ?_;refine br ?_;refine tr ?_;refine lr ?_;refine br ?_;refine tr ?_;cases h;have q:_=e49:=hk58;have h:=h49;rw [← q] at h;clear q;(try dsimp only at h);have hr:=Option.some.inj h;rw [← hr];refine ⟨_,(.tmp .nil),?_⟩;refine ⟨(.one rfl rfl .nil),[.val (.bool false)],[],by simp [Cat.cells,Fam.cells,Fn.cells,UA,U1,IA,I1,LA,L1,BA,B1,EA,E1,E2,eB,eI,eL],by simp,(UpL.refl _)⟩
   have g65:¬ (¬ (v64=true)):=gQ;clear g;replace h:=if_r g65 h;refine Qd ?_;refine bn ?_;refine tn ?_;refine runQ hN fun K hK=>?_;replace h:=Q5 h;obtain ⟨a66,h⟩:=h;simp [-Q0,-Q6,-Q1,-Q7,-Q2,Qk a66];(repeat refine sdQ ?_);refine hK _ ?_;clear hK K;cases h;exact rn (s':=s58+1) hk58 (wkQ9 [])
  have g59:¬ (s58<(m_.b.id.length:Int)):=gQ;clear g;replace h:=if_r g59 h;refine Qj ?_;refine tx ?_;refine lx ?_;refine bh ?_;cases h;exact jn (b:=()) hk58 (wkQ9 [])
 intro b49 hb49;have h:=h49;try rw [← hb49] at h
 clear h49;try dsimp only at h
 refine Q4 ?_;refine Q4 ?_;refine runQ hN fun K hK=>?_;simp [-Q0,-Q6,-Q1,-Q7,-Q2];repeat refine sdQ ?_
 refine hK _ ?_;clear hK K;refine tn ?_;refine Q8 (st':=⟨[(0,.rptr (Fam.cells true m_)),(145,.lst true 1 (Ls m_.b.cs)),(146,iV (m_.b.cs.length:Int)),(147,iV 0)],[],0⟩) (wkQ9 []) ?_;replace h:=bind_some h;obtain ⟨e67,h,h67⟩:=h;refine Qh (fun b67:Unit=>⟨[],[],0⟩) (fun b67=>Sum.inl b67=e67) ?_ ?_
 ·refine Qa ?_;refine Qu h (fun s95:Int=>⟨[(0,.rptr (Fam.cells true m_)),(145,.lst true 1 (Ls m_.b.cs)),(146,iV (m_.b.cs.length:Int)),(147,iV s95)],[],0⟩) (wkQ9 []) ?_;clear h;intro k95 s95 c95 h hk95;refine Q4 ?_;refine runQ hN fun K hK=>?_;simp [-Q0,-Q6,-Q1,-Q7,-Q2];repeat refine sdQ ?_
  refine hK _ ?_;clear hK K;refine tn ?_;refine Q8 (st':=⟨[(0,.rptr (Fam.cells true m_)),(145,.lst true 1 (Ls m_.b.cs)),(146,iV (m_.b.cs.length:Int)),(147,iV s95),(148,.val (.bool (decide (s95<(m_.b.cs.length:Int)))))],[],0⟩) (wkQ9 []) ?_;refine Q4 ?_;refine Qc rfl (fun g=>?_) fun g=>?_
  ·have g96:s95<(m_.b.cs.length:Int):=gQ;clear g;replace h:=if_l g96 h;refine Qd ?_;refine tn ?_;refine Q4 ?_;replace h:=bind_some h;obtain ⟨e97,h,h97⟩:=h;refine Qh (fun b97:Unit=>⟨[(0,.rptr (Fam.cells true m_)),(145,.lst true 1 (Ls m_.b.cs)),(146,iV (m_.b.cs.length:Int)),(147,iV s95)],[],0⟩) (fun b97=>Sum.inl b97=e97) ?_ ?_
   ·refine Qa ?_;refine Q4 ?_;refine runQ hN fun K hK=>?_;replace h:=Q5 h;obtain ⟨a98,h⟩:=h;simp [-Q0,-Q6,-Q1,-Q7,-Q2,at_L a98];(repeat refine sdQ ?_);refine hK _ ?_;clear hK K;refine tn ?_;refine Q8 (st':=⟨[(0,.rptr (Fam.cells true m_)),(10,iV s95),(11,lI (rx m_.b.cs s95)),(145,.lst true 1 (Ls m_.b.cs)),(146,iV (m_.b.cs.length:Int)),(147,iV s95)],[],0⟩) (wkQ9 []) ?_;refine Q4 ?_;refine runQ hN fun K hK=>?_;simp [-Q0,-Q6,-Q1,-Q7,-Q2];(repeat refine sdQ ?_);refine hK _ ?_;clear hK K;refine tn ?_;refine Q8 (st':=⟨[(0,.rptr (Fam.cells true m_)),(10,iV s95),(145,.lst true 1 (Ls m_.b.cs)),(146,iV (m_.b.cs.length:Int)),(147,iV s95),(152,lI (rx m_.b.cs s95)),(153,iV ((rx m_.b.cs s95).length:Int)),(154,iV 0)],[],0⟩) (wkQ9 []) ?_;refine Qa ?_;replace h:=bind_some h;obtain ⟨e110,he110,h110⟩:=h;refine Qu he110 (fun s110:Int=>⟨[(0,.rptr (Fam.cells true m_)),(10,iV s95),(145,.lst true 1 (Ls m_.b.cs)),(146,iV (m_.b.cs.length:Int)),(147,iV s95),(152,lI (rx m_.b.cs s95)),(153,iV ((rx m_.b.cs s95).length:Int)),(154,iV s110)],[],0⟩) (wkQ9 []) ?_;intro k110 s110 c110 h hk110;refine Q4 ?_;refine runQ hN fun K hK=>?_;simp [-Q0,-Q6,-Q1,-Q7,-Q2];(repeat refine sdQ ?_);refine hK _ ?_;clear hK K;refine tn ?_;refine Q8 (st':=⟨[(0,.rptr (Fam.cells true m_)),(10,iV s95),(145,.lst true 1 (Ls m_.b.cs)),(146,iV (m_.b.cs.length:Int)),(147,iV s95),(152,lI (rx m_.b.cs s95)),(153,iV ((rx m_.b.cs s95).length:Int)),(154,iV s110),(155,.val (.bool (decide (s110<((rx m_.b.cs s95).length:Int)))))],[],0⟩) (wkQ9 []) ?_;refine Q4 ?_;refine Qc rfl (fun g=>?_) fun g=>?_
    ·have g111:s110<((rx m_.b.cs s95).length:Int):=gQ;clear g;replace h:=if_l g111 h;refine Qd ?_;refine tn ?_;refine Q4 ?_;replace h:=bind_some h;obtain ⟨e112,h,h112⟩:=h;refine Qh (fun b112:Unit=>⟨[(0,.rptr (Fam.cells true m_)),(10,iV s95),(145,.lst true 1 (Ls m_.b.cs)),(146,iV (m_.b.cs.length:Int)),(147,iV s95),(152,lI (rx m_.b.cs s95)),(153,iV ((rx m_.b.cs s95).length:Int)),(154,iV s110)],[],0⟩) (fun b112=>Sum.inl b112=e112) ?_ ?_
     ·refine Qa ?_;refine Q4 ?_;refine runQ hN fun K hK=>?_;replace h:=Q5 h;obtain ⟨a113,h⟩:=h;simp [-Q0,-Q6,-Q1,-Q7,-Q2,at_I a113];(repeat refine sdQ ?_);refine hK _ ?_;clear hK K;refine tn ?_;refine Q8 (st':=⟨[(0,.rptr (Fam.cells true m_)),(10,iV s95),(12,iV s110),(13,iV (ix (rx m_.b.cs s95) s110)),(145,.lst true 1 (Ls m_.b.cs)),(146,iV (m_.b.cs.length:Int)),(147,iV s95),(152,lI (rx m_.b.cs s95)),(153,iV ((rx m_.b.cs s95).length:Int)),(154,iV s110)],[],0⟩) (wkQ9 []) ?_;refine Q4 ?_;refine Q4 ?_;refine runQ hN fun K hK=>?_;simp [-Q0,-Q6,-Q1,-Q7,-Q2];(repeat refine sdQ ?_);refine hK _ ?_;clear hK K;refine tn ?_;refine Q8 (st':=⟨[(0,.rptr (Fam.cells true m_)),(10,iV s95),(12,iV s110),(13,iV (ix (rx m_.b.cs s95) s110)),(145,.lst true 1 (Ls m_.b.cs)),(146,iV (m_.b.cs.length:Int)),(147,iV s95),(152,lI (rx m_.b.cs s95)),(153,iV ((rx m_.b.cs s95).length:Int)),(154,iV s110),(160,.val (.bool (decide ((ix (rx m_.b.cs s95) s110)<0))))],[],0⟩) (wkQ9 []) ?_;refine Qc rfl (fun g=>?_) fun g=>?_
      ·have g114:(ix (rx m_.b.cs s95) s110)<0:=gQ;clear g;replace h:=if_l g114 h;refine Qj ?_;refine tx ?_;refine bh ?_;exact jn (b:=()) (Option.some.inj h) (wkQ9 [])
      have g114:¬ ((ix (rx m_.b.cs s95) s110)<0):=gQ;clear g;replace h:=if_r g114 h;refine Qd ?_;refine tn ?_;refine Q4 ?_;refine runQ hN fun K hK=>?_;replace h:=Q5 h;obtain ⟨a115,h⟩:=h;replace h:=Q5 h;obtain ⟨a116,h⟩:=h;simp [-Q0,-Q6,-Q1,-Q7,-Q2,at_E (c:=(Fn.cells true)) a115,at_E (c:=(Fn.cells true)) a116];(repeat with_reducible refine sdQ ?_);replace h:=bind_some h;obtain ⟨v117,hv117,h⟩:=h;refine Q3 (Q4T _ _ v117 hv117) (.cons (.preT (by simp [Cat.cells,Fam.cells,Fn.cells])) (.cons (.preT (by simp [Cat.cells,Fam.cells,Fn.cells])) .nil)) ?_;simp [-Q0,-Q6,-Q1,-Q7,-Q2,unk,unA,unE,unT,unC,flat,at_E (c:=(Fn.cells true)) a115,at_E (c:=(Fn.cells true)) a116];(repeat refine sdQ ?_);refine hK _ ?_;clear hK K;refine tn ?_;refine Q8 (st':=⟨[(0,.rptr (Fam.cells true m_)),(10,iV s95),(13,iV (ix (rx m_.b.cs s95) s110)),(14,.adr 0 0 0),(145,.lst true 1 (Ls m_.b.cs)),(146,iV (m_.b.cs.length:Int)),(147,iV s95),(152,lI (rx m_.b.cs s95)),(153,iV ((rx m_.b.cs s95).length:Int)),(154,iV s110)],[(0,.mix 12 [[iV v117.s.n,.own 1 0 v117.s.fr.length,.own 2 0 v117.s.to.length,.own 3 0 v117.s.id.length,.own 4 0 v117.s.cs.length,iV v117.t.n,.own 5 0 v117.t.fr.length,.own 6 0 v117.t.to.length,.own 7 0 v117.t.id.length,.own 8 0 v117.t.cs.length,.own 9 0 v117.ob.length,.own 10 0 v117.ar.length]]),(1,rI v117.s.fr),(2,rI v117.s.to),(3,rI v117.s.id),(4,.row 1 (Ls v117.s.cs)),(5,rI v117.t.fr),(6,rI v117.t.to),(7,rI v117.t.id),(8,.row 1 (Ls v117.t.cs)),(9,rI v117.ob),(10,rI v117.ar)],11⟩) (wkQ9 [(12,0),(1,1),(2,2),(3,3),(4,4),(6,5),(7,6),(8,7),(9,8),(10,9),(11,10)]) ?_;refine Q4 ?_;refine runQ hN fun K hK=>?_;replace h:=Q5 h;obtain ⟨a118,h⟩:=h;simp [-Q0,-Q6,-Q1,-Q7,-Q2,at_E (c:=(Fn.cells true)) a118];(repeat with_reducible refine sdQ ?_);replace h:=bind_some h;obtain ⟨v119,hv119,h⟩:=h;refine Q3 (Q3u _ _ v119 hv119) (.cons (.preT (by simp [Cat.cells,Fam.cells,Fn.cells])) (.cons (.field rfl (by simp [Cat.cells,Fam.cells,Fn.cells]) (.cons .val (.cons (.whole (by simp) (by simp) (by simp)) (.cons (.whole (by simp) (by simp) (by simp)) (.cons (.whole (by simp) (by simp) (by simp)) (.cons (.whole (by simp) (by simp) (by simp)) (.cons .val (.cons (.whole (by simp) (by simp) (by simp)) (.cons (.whole (by simp) (by simp) (by simp)) (.cons (.whole (by simp) (by simp) (by simp)) (.cons (.whole (by simp) (by simp) (by simp)) (.cons (.whole (by simp) (by simp) (by simp)) (.cons (.whole (by simp) (by simp) (by simp)) .nil))))))))))))) .nil)) ?_;simp [-Q0,-Q6,-Q1,-Q7,-Q2,unk,unA,unE,unT,unC,flat,at_E (c:=(Fn.cells true)) a118];(repeat refine sdQ ?_);refine hK _ ?_;clear hK K;refine tn ?_
      refine Q8 (st':=⟨[(0,.rptr (Fam.cells true m_)),(10,iV s95),(145,.lst true 1 (Ls m_.b.cs)),(146,iV (m_.b.cs.length:Int)),(147,iV s95),(152,lI (rx m_.b.cs s95)),(153,iV ((rx m_.b.cs s95).length:Int)),(154,iV s110),(181,.val (.bool (!v119)))],[],0⟩) (wkQ9 []) ?_;refine Qc rfl (fun g=>?_) fun g=>?_
      ·have g120:¬ (v119=true):=gQ;clear g;replace h:=if_l g120 h;refine Q4 ?_;refine runQ hN fun K hK=>?_;simp [-Q0,-Q6,-Q1,-Q7,-Q2];(repeat refine sdQ ?_);refine hK _ ?_;clear hK K;refine tn ?_;refine Q8 (st':=⟨[(2,.val (.bool false))],[],0⟩) (wkQ9 []) ?_;refine Qg ?_;refine br ?_;refine tr ?_;refine lr ?_;refine br ?_;refine br ?_;refine tr ?_;refine lr ?_;refine br ?_;refine tr ?_;cases h;have h:=h112;(try dsimp only at h);cases h;have q:_=e110:=hk110;have h:=h110;rw [← q] at h;clear q;(try dsimp only at h);cases h;have h:=h97;(try dsimp only at h);cases h;have q:_=e67:=hk95;have h:=h67;rw [← q] at h;clear q;(try dsimp only at h);have hr:=Option.some.inj h;rw [← hr];refine ⟨_,(.tmp .nil),?_⟩;refine ⟨(.one rfl rfl .nil),[.val (.bool false)],[],by simp [Cat.cells,Fam.cells,Fn.cells,UA,U1,IA,I1,LA,L1,BA,B1,EA,E1,E2,eB,eI,eL],by simp,(UpL.refl _)⟩
      have g120:¬ (¬ (v119=true)):=gQ;clear g;replace h:=if_r g120 h;refine Qd ?_;refine bn ?_;exact jn (b:=()) (Option.some.inj h) (wkQ9 [])
     intro b112 hb112;have h:=h112;(try rw [← hb112] at h);clear h112;(try dsimp only at h);refine runQ hN fun K hK=>?_;replace h:=Q5 h;obtain ⟨a121,h⟩:=h;simp [-Q0,-Q6,-Q1,-Q7,-Q2,Qk a121];(repeat refine sdQ ?_);refine hK _ ?_;clear hK K;cases h;exact rn (s':=s110+1) hk110 (wkQ9 [])
    have g111:¬ (s110<((rx m_.b.cs s95).length:Int)):=gQ;clear g;replace h:=if_r g111 h;refine Qj ?_;refine tx ?_;refine lx ?_;refine bh ?_;refine bn ?_;cases h;have q:_=e110:=hk110;have h:=h110;rw [← q] at h;clear q;(try dsimp only at h);exact jn (b:=()) (Option.some.inj h) (wkQ9 [])
   intro b97 hb97;have h:=h97;(try rw [← hb97] at h);clear h97;(try dsimp only at h);refine runQ hN fun K hK=>?_;replace h:=Q5 h;obtain ⟨a122,h⟩:=h;simp [-Q0,-Q6,-Q1,-Q7,-Q2,Qk a122];(repeat refine sdQ ?_);refine hK _ ?_;clear hK K;cases h;exact rn (s':=s95+1) hk95 (wkQ9 [])
  have g96:¬ (s95<(m_.b.cs.length:Int)):=gQ;clear g;replace h:=if_r g96 h;refine Qj ?_;refine tx ?_;refine lx ?_;refine bh ?_;cases h;exact jn (b:=()) hk95 (wkQ9 [])
 intro b67 hb67;have h:=h67;try rw [← hb67] at h
 clear h67;try dsimp only at h
 refine Q4 ?_;refine runQ hN fun K hK=>?_;simp [-Q0,-Q6,-Q1,-Q7,-Q2];repeat refine sdQ ?_
 refine hK _ ?_;clear hK K;refine tn ?_;refine Q8 (st':=⟨[(2,.val (.bool true))],[],0⟩) (wkQ9 []) ?_;refine Qg ?_;have hr:=Option.some.inj h;rw [← hr];refine ⟨_,(.tmp .nil),?_⟩;refine ⟨(.one rfl rfl .nil),[.val (.bool true)],[],by simp [Cat.cells,Fam.cells,Fn.cells,UA,U1,IA,I1,LA,L1,BA,B1,EA,E1,E2,eB,eI,eL],by simp,(UpL.refl _)⟩
attribute [local simp] eL eI Qw QH Q2e Cat.cells Fn.cells
noncomputable def Q1Y (f_:Fn) (g_:Fn):Option Bool :=
 (
  (Q1m f_.s g_.s).bind fun v2 =>
  if v2=true then
   (Q1m f_.t g_.t).bind fun v4 =>
   if v4=true then
    (Q1C f_.ob g_.ob).bind fun v6 =>
    if v6=true then
     (Q1C f_.ar g_.ar).bind fun v8 =>
     some v8
    else
     some false
   else
    some false
  else
   some false:Option (Bool)).bind fun b1 =>
 some b1
theorem Q5x (f_:Fn) (g_:Fn) (r:Bool) (h:Q1Y f_ g_=some r):Contract Try.prog 137 [.agg (f_.cells true),.agg (g_.cells true)] (.val (.bool r)):=by
 refine Qf (rvs:=[.tmp 4]) (rs:=[.val (.bool r)]) Try.func137 rfl rfl rfl rfl (by simp [Try.f137]) fun F hN hP=>?_;unfold Q1Y at h;refine Q4 ?_;refine runQ hN fun K hK=>?_;simp [-Q0,-Q6,-Q1,-Q7,-Q2];repeat refine sdQ ?_
 refine hK _ ?_;clear hK K;refine tn ?_;refine Q8 (st':=⟨[(2,.adr 0 0 0),(3,.adr 1 0 0)],[(0,.mix 12 [(Fn.cells true f_)]),(1,.mix 12 [(Fn.cells true g_)])],2⟩) (wkQ9 [(0,0),(1,1)]) ?_;refine Q4 ?_;replace h:=bind_some h;obtain ⟨e1,h,h1⟩:=h;refine Qh (fun b1:Bool=>⟨[(4,.val (.bool b1))],[],0⟩) (fun b1=>b1=e1) ?_ ?_
 ·refine runQ hN fun K hK=>?_;simp [-Q0,-Q6,-Q1,-Q7,-Q2];repeat with_reducible refine sdQ ?_
  replace h:=bind_some h;obtain ⟨v2,hv2,h⟩:=h;refine Q3 (Q3a _ _ v2 hv2) (.cons (.aggL (.cons .val (.cons .lst (.cons .lst (.cons .lst (.cons .lst .nil)))))) (.cons (.aggL (.cons .val (.cons .lst (.cons .lst (.cons .lst (.cons .lst .nil)))))) .nil)) ?_;simp [-Q0,-Q6,-Q1,-Q7,-Q2,unk,unA,unE,unT,unC,flat];repeat with_reducible refine sdQ ?_
  refine Qq (fun g=>?_) (fun g=>?_)
  ·have g3:v2=true:=gQ;clear g;replace h:=if_l g3 h;simp [-Q0,-Q6,-Q1,-Q7,-Q2];(repeat with_reducible refine sdQ ?_);replace h:=bind_some h;obtain ⟨v4,hv4,h⟩:=h;refine Q3 (Q3a _ _ v4 hv4) (.cons (.aggL (.cons .val (.cons .lst (.cons .lst (.cons .lst (.cons .lst .nil)))))) (.cons (.aggL (.cons .val (.cons .lst (.cons .lst (.cons .lst (.cons .lst .nil)))))) .nil)) ?_;simp [-Q0,-Q6,-Q1,-Q7,-Q2,unk,unA,unE,unT,unC,flat];(repeat with_reducible refine sdQ ?_);refine Qq (fun g=>?_) (fun g=>?_)
   ·have g5:v4=true:=gQ;clear g;replace h:=if_l g5 h;simp [-Q0,-Q6,-Q1,-Q7,-Q2];(repeat with_reducible refine sdQ ?_);replace h:=bind_some h;obtain ⟨v6,hv6,h⟩:=h;refine Q3 (Q40 _ _ v6 hv6) (.cons .lst (.cons .lst .nil)) ?_;simp [-Q0,-Q6,-Q1,-Q7,-Q2,unk,unA,unE,unT,unC,flat];(repeat with_reducible refine sdQ ?_);refine Qq (fun g=>?_) (fun g=>?_)
    ·have g7:v6=true:=gQ;clear g;replace h:=if_l g7 h;simp [-Q0,-Q6,-Q1,-Q7,-Q2];(repeat with_reducible refine sdQ ?_);replace h:=bind_some h;obtain ⟨v8,hv8,h⟩:=h;refine Q3 (Q40 _ _ v8 hv8) (.cons .lst (.cons .lst .nil)) ?_;simp [-Q0,-Q6,-Q1,-Q7,-Q2,unk,unA,unE,unT,unC,flat];(repeat refine sdQ ?_);refine hK _ ?_;exact jn (b:=v8) (Option.some.inj h) (wkQ9 [])
    have g7:¬ (v6=true):=gQ;clear g;replace h:=if_r g7 h;simp [-Q0,-Q6,-Q1,-Q7,-Q2];(repeat refine sdQ ?_);refine hK _ ?_;exact jn (b:=false) (Option.some.inj h) (wkQ9 [])
   have g5:¬ (v4=true):=gQ;clear g;replace h:=if_r g5 h;simp [-Q0,-Q6,-Q1,-Q7,-Q2];(repeat refine sdQ ?_);refine hK _ ?_;exact jn (b:=false) (Option.some.inj h) (wkQ9 [])
  have g3:¬ (v2=true):=gQ;clear g;replace h:=if_r g3 h;simp [-Q0,-Q6,-Q1,-Q7,-Q2];repeat refine sdQ ?_
  refine hK _ ?_;exact jn (b:=false) (Option.some.inj h) (wkQ9 [])
 intro b1 hb1;have h:=h1;try rw [← hb1] at h
 clear h1;try dsimp only at h
 refine Qg ?_;have hr:=Option.some.inj h;rw [← hr];refine ⟨_,(.tmp .nil),?_⟩;refine ⟨(.one rfl rfl .nil),[.val (.bool b1)],[],by simp [Cat.cells,Fn.cells,UA,U1,IA,I1,LA,L1,BA,B1,EA,E1,E2,eB,eI,eL],by simp,(UpL.refl _)⟩
attribute [local simp] eL eI Qw QH Q3H Q2e Cat.cells Fam.cells Fn.cells
noncomputable def Q2a (m_:Fam):Option Bool :=
 (
  (Q11 m_.b).bind fun v2 =>
  if ¬ (v2=true) then
   some true
  else
   if ¬ ((m_.fb.length:Int)=m_.b.n) then
    some true
   else
    some ((m_.ch.length:Int) != (m_.b.fr.length:Int)):Option (Bool)).bind fun b1 =>
 if b1=true then
  some false
 else
  (QC (σ:=Int) (ε:=Unit ⊕ Bool) (fun s12 =>
   if s12<(m_.fb.length:Int) then
    ass (0≤s12∧s12<(m_.fb.length:Int)) <|
    (Q11 (gx m_.fb s12)).bind fun v15 =>
    if ¬ (v15=true) then
     some (Ctl.ret (Sum.inr false))
    else
     ass (B64 (s12+1)) <|
     some (Ctl.next (s12+1))
   else
    some (Ctl.ret (Sum.inl ()))) fuel 0).bind fun e6 =>
  match e6 with
  | .inl b6 =>
   (QC (σ:=Int) (ε:=Unit ⊕ Bool) (fun s35 =>
    if s35<(m_.ch.length:Int) then
     (
      ass (0≤s35∧s35<(m_.ch.length:Int)) <|
      (Q3p (gx m_.ch s35)).bind fun v39 =>
      if ¬ (v39=true) then
       some true
      else
       ass (0≤s35∧s35<(m_.ch.length:Int)) <|
       ass (0≤s35∧s35<(m_.b.fr.length:Int)) <|
       ass (0≤ix m_.b.fr s35∧ix m_.b.fr s35<(m_.fb.length:Int)) <|
       (Q1m ((gx m_.ch s35).s) (gx m_.fb (ix m_.b.fr s35))).bind fun v44 =>
       if ¬ (v44=true) then
        some true
       else
        ass (0≤s35∧s35<(m_.ch.length:Int)) <|
        ass (0≤s35∧s35<(m_.b.to.length:Int)) <|
        ass (0≤ix m_.b.to s35∧ix m_.b.to s35<(m_.fb.length:Int)) <|
        (Q1m ((gx m_.ch s35).t) (gx m_.fb (ix m_.b.to s35))).bind fun v49 =>
        some (!v49):Option (Bool)).bind fun b37 =>
     if b37=true then
      some (Ctl.ret (Sum.inr false))
     else
      ass (B64 (s35+1)) <|
      some (Ctl.next (s35+1))
    else
     some (Ctl.ret (Sum.inl ()))) fuel 0).bind fun e18 =>
   match e18 with
   | .inl b18 =>
    (QC (σ:=Int) (ε:=Unit ⊕ Bool) (fun s61 =>
     if s61<(m_.fb.length:Int) then
      ass (0≤s61∧s61<(m_.b.id.length:Int)) <|
      ass (0≤ix m_.b.id s61∧ix m_.b.id s61<(m_.ch.length:Int)) <|
      ass (0≤s61∧s61<(m_.fb.length:Int)) <|
      (Q2z (gx m_.fb s61)).bind fun v66 =>
      (Q1Y (gx m_.ch (ix m_.b.id s61)) v66).bind fun v67 =>
      if ¬ (v67=true) then
       some (Ctl.ret (Sum.inr false))
      else
       ass (B64 (s61+1)) <|
       some (Ctl.next (s61+1))
     else
      some (Ctl.ret (Sum.inl ()))) fuel 0).bind fun e52 =>
    match e52 with
    | .inl b52 =>
     (QC (σ:=Int) (ε:=Unit ⊕ Bool) (fun s103 =>
      if s103<(m_.ch.length:Int) then
       (
        (QC (σ:=Int) (ε:=Bool ⊕ Unit) (fun s120 =>
         if s120<(m_.ch.length:Int) then
          (
           ass (0≤s103∧s103<(m_.b.to.length:Int)) <|
           ass (0≤s120∧s120<(m_.b.fr.length:Int)) <|
           if (ix m_.b.to s103)=(ix m_.b.fr s120) then
            ass (0≤s103∧s103<(m_.b.cs.length:Int)) <|
            ass (0≤s120∧s120<((rx m_.b.cs s103).length:Int)) <|
            ass (0≤ix (rx m_.b.cs s103) s120∧ix (rx m_.b.cs s103) s120<(m_.ch.length:Int)) <|
            ass (0≤s103∧s103<(m_.ch.length:Int)) <|
            ass (0≤s120∧s120<(m_.ch.length:Int)) <|
            (Q2A (gx m_.ch s103) (gx m_.ch s120)).bind fun v131 =>
            (Q1Y (gx m_.ch (ix (rx m_.b.cs s103) s120)) v131).bind fun v132 =>
            some (!v132)
           else
            some false:Option (Bool)).bind fun b122 =>
          if b122=true then
           some (Ctl.ret (Sum.inl false))
          else
           ass (B64 (s120+1)) <|
           some (Ctl.next (s120+1))
         else
          some (Ctl.ret (Sum.inr ()))) fuel 0).bind fun e120 =>
        match e120 with
        | .inl p120 =>
         some (Sum.inr p120)
        | .inr p120 =>
         some (Sum.inl p120):Option (Unit ⊕ Bool)).bind fun e105 =>
       match e105 with
       | .inl b105 =>
        ass (B64 (s103+1)) <|
        some (Ctl.next (s103+1))
       | .inr p105 =>
        some (Ctl.ret (Sum.inr p105))
      else
       some (Ctl.ret (Sum.inl ()))) fuel 0).bind fun e70 =>
     match e70 with
     | .inl b70 =>
      some true
     | .inr p70 =>
      some p70
    | .inr p52 =>
     some p52
   | .inr p18 =>
    some p18
  | .inr p6 =>
   some p6
theorem Q7n (m_:Fam) (r:Bool) (h:Q2a m_=some r):Contract Try.prog 90 [.agg (m_.cells true)] (.val (.bool r)):=by
 refine Qf (rvs:=[.tmp 2]) (rs:=[.val (.bool r)]) Try.func90 rfl rfl rfl rfl (by simp [Try.f90]) fun F hN hP=>?_;unfold Q2a at h;refine Q4 ?_;refine runQ hN fun K hK=>?_;simp [-Q0,-Q6,-Q1,-Q7,-Q2];repeat refine sdQ ?_
 refine hK _ ?_;clear hK K;refine tn ?_;refine Q8 (st':=⟨[(1,.adr 0 0 0)],[(0,.mix 7 [(Fam.cells true m_)])],1⟩) (wkQ9 [(0,0)]) ?_;refine Q4 ?_;refine runQ hN fun K hK=>?_;simp [-Q0,-Q6,-Q1,-Q7,-Q2];repeat refine sdQ ?_
 refine hK _ ?_;clear hK K;refine tn ?_;refine Q8 (st':=⟨[(1,.adr 0 0 0),(3,.adr 1 0 0)],[(0,.mix 7 [(Fam.cells true m_)]),(1,.mix 5 [(Cat.cells true m_.b)])],2⟩) (wkQ9 [(0,0),(1,1)]) ?_;refine Q4 ?_;refine Q4 ?_;replace h:=bind_some h;obtain ⟨e1,h,h1⟩:=h;refine Qh (fun b1:Bool=>⟨[(1,.adr 0 0 0),(3,.adr 1 0 0),(30,.val (.bool b1))],[(0,.mix 7 [(Fam.cells true m_)]),(1,.mix 5 [(Cat.cells true m_.b)])],2⟩) (fun b1=>b1=e1) ?_ ?_
 ·refine runQ hN fun K hK=>?_;simp [-Q0,-Q6,-Q1,-Q7,-Q2];repeat with_reducible refine sdQ ?_
  replace h:=bind_some h;obtain ⟨v2,hv2,h⟩:=h;refine Q3 (Q4m _ v2 hv2) (.cons (.aggL (.cons .val (.cons .lst (.cons .lst (.cons .lst (.cons .lst .nil)))))) .nil) ?_;simp [-Q0,-Q6,-Q1,-Q7,-Q2,unk,unA,unE,unT,unC,flat];repeat with_reducible refine sdQ ?_
  refine Qq (fun g=>?_) (fun g=>?_)
  ·have g3:¬ (¬ (v2=true)):=gQ;clear g;replace h:=if_r g3 h;simp [-Q0,-Q6,-Q1,-Q7,-Q2];(repeat with_reducible refine sdQ ?_);refine Qq (fun g=>?_) (fun g=>?_)
   ·have g4:¬ (¬ ((m_.fb.length:Int)=m_.b.n)):=gQ;clear g;replace h:=if_r g4 h;simp [-Q0,-Q6,-Q1,-Q7,-Q2];(repeat refine sdQ ?_);refine hK _ ?_;exact jn (b:=(m_.ch.length:Int) != (m_.b.fr.length:Int)) (Option.some.inj h) (wkQ9 [(0,0),(1,1)])
   have g4:¬ ((m_.fb.length:Int)=m_.b.n):=gQ;clear g;replace h:=if_l g4 h;simp [-Q0,-Q6,-Q1,-Q7,-Q2];(repeat refine sdQ ?_);refine hK _ ?_;exact jn (b:=true) (Option.some.inj h) (wkQ9 [(0,0),(1,1)])
  have g3:¬ (v2=true):=gQ;clear g;replace h:=if_l g3 h;simp [-Q0,-Q6,-Q1,-Q7,-Q2];repeat refine sdQ ?_
  refine hK _ ?_;exact jn (b:=true) (Option.some.inj h) (wkQ9 [(0,0),(1,1)])
 intro b1 hb1;have h:=h1;try rw [← hb1] at h
 clear h1;try dsimp only at h
 refine Qc rfl (fun g=>?_) fun g=>?_
 ·have g5:b1=true:=gQ;clear g;replace h:=if_l g5 h;refine Q4 ?_;refine runQ hN fun K hK=>?_;simp [-Q0,-Q6,-Q1,-Q7,-Q2];repeat refine sdQ ?_
  refine hK _ ?_;clear hK K;refine tn ?_;refine Q8 (st':=⟨[(2,.val (.bool false))],[],0⟩) (wkQ9 []) ?_;refine Qg ?_;refine tr ?_;have hr:=Option.some.inj h;rw [← hr];refine ⟨_,(.tmp .nil),?_⟩;refine ⟨(.one rfl rfl .nil),[.val (.bool false)],[],by simp [Cat.cells,Fam.cells,Fn.cells,UA,U1,IA,I1,LA,L1,BA,B1,EA,E1,E2,eB,eI,eL],by simp,(UpL.refl _)⟩
 have g5:¬ (b1=true):=gQ;clear g;replace h:=if_r g5 h;refine Qd ?_;refine tn ?_;refine Q4 ?_;refine Q4 ?_;refine runQ hN fun K hK=>?_;simp [-Q0,-Q6,-Q1,-Q7,-Q2];repeat refine sdQ ?_
 refine hK _ ?_;clear hK K;refine tn ?_;refine Q8 (st':=⟨[(1,.adr 0 0 0),(3,.adr 1 0 0),(4,iV 0)],[(0,.mix 7 [(Fam.cells true m_)]),(1,.mix 5 [(Cat.cells true m_.b)])],2⟩) (wkQ9 [(0,0),(1,1)]) ?_;replace h:=bind_some h;obtain ⟨e6,h,h6⟩:=h;refine Qh (fun b6:Unit=>⟨[(1,.adr 0 0 0),(3,.adr 1 0 0)],[(0,.mix 7 [(Fam.cells true m_)]),(1,.mix 5 [(Cat.cells true m_.b)])],2⟩) (fun b6=>Sum.inl b6=e6) ?_ ?_
 ·refine Qa ?_;refine Qu h (fun s12:Int=>⟨[(1,.adr 0 0 0),(3,.adr 1 0 0),(4,iV s12)],[(0,.mix 7 [(Fam.cells true m_)]),(1,.mix 5 [(Cat.cells true m_.b)])],2⟩) (wkQ9 [(0,0),(1,1)]) ?_;clear h;intro k12 s12 c12 h hk12;refine Q4 ?_;refine Q4 ?_;refine runQ hN fun K hK=>?_;simp [-Q0,-Q6,-Q1,-Q7,-Q2];repeat refine sdQ ?_
  refine hK _ ?_;clear hK K;refine tn ?_;refine Q8 (st':=⟨[(1,.adr 0 0 0),(3,.adr 1 0 0),(4,iV s12),(35,.val (.bool (decide (s12<(m_.fb.length:Int)))))],[(0,.mix 7 [(Fam.cells true m_)]),(1,.mix 5 [(Cat.cells true m_.b)])],2⟩) (wkQ9 [(0,0),(1,1)]) ?_;refine Qc rfl (fun g=>?_) fun g=>?_
  ·have g13:s12<(m_.fb.length:Int):=gQ;clear g;replace h:=if_l g13 h;refine Qd ?_;refine tn ?_;refine Q4 ?_;refine Qa ?_;refine Q4 ?_;refine runQ hN fun K hK=>?_;replace h:=Q5 h;obtain ⟨a14,h⟩:=h;simp [-Q0,-Q6,-Q1,-Q7,-Q2,at_E (c:=(Cat.cells true)) a14];(repeat with_reducible refine sdQ ?_);replace h:=bind_some h;obtain ⟨v15,hv15,h⟩:=h;refine Q3 (Q4m _ v15 hv15) (.cons (.aggL (.cons .val (.cons .lst (.cons .lst (.cons .lst (.cons .lst .nil)))))) .nil) ?_;simp [-Q0,-Q6,-Q1,-Q7,-Q2,unk,unA,unE,unT,unC,flat,at_E (c:=(Cat.cells true)) a14];(repeat refine sdQ ?_);refine hK _ ?_;clear hK K;refine tn ?_;refine Q8 (st':=⟨[(1,.adr 0 0 0),(3,.adr 1 0 0),(4,iV s12),(44,.val (.bool (!v15)))],[(0,.mix 7 [(Fam.cells true m_)]),(1,.mix 5 [(Cat.cells true m_.b)])],2⟩) (wkQ9 [(0,0),(1,1)]) ?_;refine Qc rfl (fun g=>?_) fun g=>?_
   ·have g16:¬ (v15=true):=gQ;clear g;replace h:=if_l g16 h;refine Q4 ?_;refine runQ hN fun K hK=>?_;simp [-Q0,-Q6,-Q1,-Q7,-Q2];(repeat refine sdQ ?_);refine hK _ ?_;clear hK K;refine tn ?_;refine Q8 (st':=⟨[(2,.val (.bool false))],[],0⟩) (wkQ9 []) ?_;refine Qg ?_;refine br ?_;refine tr ?_;refine lr ?_;refine br ?_;refine tr ?_;cases h;have q:_=e6:=hk12;have h:=h6;rw [← q] at h;clear q;(try dsimp only at h);have hr:=Option.some.inj h;rw [← hr];refine ⟨_,(.tmp .nil),?_⟩;refine ⟨(.one rfl rfl .nil),[.val (.bool false)],[],by simp [Cat.cells,Fam.cells,Fn.cells,UA,U1,IA,I1,LA,L1,BA,B1,EA,E1,E2,eB,eI,eL],by simp,(UpL.refl _)⟩
   have g16:¬ (¬ (v15=true)):=gQ;clear g;replace h:=if_r g16 h;refine Qd ?_;refine bn ?_;refine tn ?_;refine runQ hN fun K hK=>?_;replace h:=Q5 h;obtain ⟨a17,h⟩:=h;simp [-Q0,-Q6,-Q1,-Q7,-Q2,Qk a17];(repeat refine sdQ ?_);refine hK _ ?_;clear hK K;cases h;exact rn (s':=s12+1) hk12 (wkQ9 [(0,0),(1,1)])
  have g13:¬ (s12<(m_.fb.length:Int)):=gQ;clear g;replace h:=if_r g13 h;refine Qj ?_;refine tx ?_;refine lx ?_;refine bh ?_;cases h;exact jn (b:=()) hk12 (wkQ9 [(0,0),(1,1)])
 intro b6 hb6;have h:=h6;try rw [← hb6] at h
 clear h6;try dsimp only at h
 refine Q4 ?_;refine Q4 ?_;refine runQ hN fun K hK=>?_;simp [-Q0,-Q6,-Q1,-Q7,-Q2];repeat refine sdQ ?_
 refine hK _ ?_;clear hK K;refine tn ?_;refine Q8 (st':=⟨[(1,.adr 0 0 0),(3,.adr 1 0 0),(5,iV 0)],[(0,.mix 7 [(Fam.cells true m_)]),(1,.mix 5 [(Cat.cells true m_.b)])],2⟩) (wkQ9 [(0,0),(1,1)]) ?_;replace h:=bind_some h;obtain ⟨e18,h,h18⟩:=h;refine Qh (fun b18:Unit=>⟨[(1,.adr 0 0 0),(3,.adr 1 0 0)],[(0,.mix 7 [(Fam.cells true m_)]),(1,.mix 5 [(Cat.cells true m_.b)])],2⟩) (fun b18=>Sum.inl b18=e18) ?_ ?_
 ·refine Qa ?_;refine Qu h (fun s35:Int=>⟨[(1,.adr 0 0 0),(3,.adr 1 0 0),(5,iV s35)],[(0,.mix 7 [(Fam.cells true m_)]),(1,.mix 5 [(Cat.cells true m_.b)])],2⟩) (wkQ9 [(0,0),(1,1)]) ?_;clear h;intro k35 s35 c35 h hk35;refine Q4 ?_;refine Q4 ?_;refine runQ hN fun K hK=>?_;simp [-Q0,-Q6,-Q1,-Q7,-Q2];repeat refine sdQ ?_
  refine hK _ ?_;clear hK K;refine tn ?_;refine Q8 (st':=⟨[(1,.adr 0 0 0),(3,.adr 1 0 0),(5,iV s35),(49,.val (.bool (decide (s35<(m_.ch.length:Int)))))],[(0,.mix 7 [(Fam.cells true m_)]),(1,.mix 5 [(Cat.cells true m_.b)])],2⟩) (wkQ9 [(0,0),(1,1)]) ?_;refine Qc rfl (fun g=>?_) fun g=>?_
  ·have g36:s35<(m_.ch.length:Int):=gQ;clear g;replace h:=if_l g36 h;refine Qd ?_;refine tn ?_;refine Q4 ?_;refine Qa ?_;refine Q4 ?_;replace h:=bind_some h;obtain ⟨e37,h,h37⟩:=h;refine Qh (fun b37:Bool=>⟨[(1,.adr 0 0 0),(3,.adr 1 0 0),(5,iV s35),(96,.val (.bool b37))],[(0,.mix 7 [(Fam.cells true m_)]),(1,.mix 5 [(Cat.cells true m_.b)])],2⟩) (fun b37=>b37=e37) ?_ ?_
   ·refine runQ hN fun K hK=>?_;replace h:=Q5 h;obtain ⟨a38,h⟩:=h;simp [-Q0,-Q6,-Q1,-Q7,-Q2,at_E (c:=(Fn.cells true)) a38];(repeat with_reducible refine sdQ ?_);replace h:=bind_some h;obtain ⟨v39,hv39,h⟩:=h;refine Q3 (w_s_l06Is _ v39 hv39) (.cons (.aggL (.cons .val (.cons .lst (.cons .lst (.cons .lst (.cons .lst (.cons .val (.cons .lst (.cons .lst (.cons .lst (.cons .lst (.cons .lst (.cons .lst .nil))))))))))))) .nil) ?_;simp [-Q0,-Q6,-Q1,-Q7,-Q2,unk,unA,unE,unT,unC,flat,at_E (c:=(Fn.cells true)) a38];(repeat with_reducible refine sdQ ?_);refine Qq (fun g=>?_) (fun g=>?_)
    ·have g40:¬ (¬ (v39=true)):=gQ;clear g;replace h:=if_r g40 h;replace h:=Q5 h;obtain ⟨a41,h⟩:=h;replace h:=Q5 h;obtain ⟨a42,h⟩:=h;replace h:=Q5 h;obtain ⟨a43,h⟩:=h;simp [-Q0,-Q6,-Q1,-Q7,-Q2,at_E (c:=(Fn.cells true)) a38,at_E (c:=(Fn.cells true)) a41,at_I a42,at_E (c:=(Cat.cells true)) a43];(repeat with_reducible refine sdQ ?_);replace h:=bind_some h;obtain ⟨v44,hv44,h⟩:=h;refine Q3 (Q3a _ _ v44 hv44) (.cons (.aggL (.cons .val (.cons .lst (.cons .lst (.cons .lst (.cons .lst .nil)))))) (.cons (.aggL (.cons .val (.cons .lst (.cons .lst (.cons .lst (.cons .lst .nil)))))) .nil)) ?_;simp [-Q0,-Q6,-Q1,-Q7,-Q2,unk,unA,unE,unT,unC,flat,at_E (c:=(Fn.cells true)) a38,at_E (c:=(Fn.cells true)) a41,at_I a42,at_E (c:=(Cat.cells true)) a43];(repeat with_reducible refine sdQ ?_);refine Qq (fun g=>?_) (fun g=>?_)
     ·have g45:¬ (¬ (v44=true)):=gQ;clear g;replace h:=if_r g45 h;replace h:=Q5 h;obtain ⟨a46,h⟩:=h;replace h:=Q5 h;obtain ⟨a47,h⟩:=h;replace h:=Q5 h;obtain ⟨a48,h⟩:=h;simp [-Q0,-Q6,-Q1,-Q7,-Q2,at_E (c:=(Fn.cells true)) a38,at_E (c:=(Fn.cells true)) a41,at_I a42,at_E (c:=(Cat.cells true)) a43,at_E (c:=(Fn.cells true)) a46,at_I a47,at_E (c:=(Cat.cells true)) a48];(repeat with_reducible refine sdQ ?_);replace h:=bind_some h;obtain ⟨v49,hv49,h⟩:=h;refine Q3 (Q3a _ _ v49 hv49) (.cons (.aggL (.cons .val (.cons .lst (.cons .lst (.cons .lst (.cons .lst .nil)))))) (.cons (.aggL (.cons .val (.cons .lst (.cons .lst (.cons .lst (.cons .lst .nil)))))) .nil)) ?_;simp [-Q0,-Q6,-Q1,-Q7,-Q2,unk,unA,unE,unT,unC,flat,at_E (c:=(Fn.cells true)) a38,at_E (c:=(Fn.cells true)) a41,at_I a42,at_E (c:=(Cat.cells true)) a43,at_E (c:=(Fn.cells true)) a46,at_I a47,at_E (c:=(Cat.cells true)) a48];(repeat refine sdQ ?_);refine hK _ ?_;exact jn (b:=!v49) (Option.some.inj h) (wkQ9 [(0,0),(1,1)])
     have g45:¬ (v44=true):=gQ;clear g;replace h:=if_l g45 h;simp [-Q0,-Q6,-Q1,-Q7,-Q2,at_E (c:=(Fn.cells true)) a38,at_E (c:=(Fn.cells true)) a41,at_I a42,at_E (c:=(Cat.cells true)) a43];(repeat refine sdQ ?_);refine hK _ ?_;exact jn (b:=true) (Option.some.inj h) (wkQ9 [(0,0),(1,1)])
    have g40:¬ (v39=true):=gQ;clear g;replace h:=if_l g40 h;simp [-Q0,-Q6,-Q1,-Q7,-Q2,at_E (c:=(Fn.cells true)) a38];(repeat refine sdQ ?_);refine hK _ ?_;exact jn (b:=true) (Option.some.inj h) (wkQ9 [(0,0),(1,1)])
   intro b37 hb37;have h:=h37;(try rw [← hb37] at h);clear h37;(try dsimp only at h);refine Qc rfl (fun g=>?_) fun g=>?_
   ·have g50:b37=true:=gQ;clear g;replace h:=if_l g50 h;refine Q4 ?_;refine runQ hN fun K hK=>?_;simp [-Q0,-Q6,-Q1,-Q7,-Q2];(repeat refine sdQ ?_);refine hK _ ?_;clear hK K;refine tn ?_;refine Q8 (st':=⟨[(2,.val (.bool false))],[],0⟩) (wkQ9 []) ?_;refine Qg ?_;refine br ?_;refine tr ?_;refine lr ?_;refine br ?_;refine tr ?_;cases h;have q:_=e18:=hk35;have h:=h18;rw [← q] at h;clear q;(try dsimp only at h);have hr:=Option.some.inj h;rw [← hr];refine ⟨_,(.tmp .nil),?_⟩;refine ⟨(.one rfl rfl .nil),[.val (.bool false)],[],by simp [Cat.cells,Fam.cells,Fn.cells,UA,U1,IA,I1,LA,L1,BA,B1,EA,E1,E2,eB,eI,eL],by simp,(UpL.refl _)⟩
   have g50:¬ (b37=true):=gQ;clear g;replace h:=if_r g50 h;refine Qd ?_;refine bn ?_;refine tn ?_;refine runQ hN fun K hK=>?_;replace h:=Q5 h;obtain ⟨a51,h⟩:=h;simp [-Q0,-Q6,-Q1,-Q7,-Q2,Qk a51];(repeat refine sdQ ?_);refine hK _ ?_;clear hK K;cases h;exact rn (s':=s35+1) hk35 (wkQ9 [(0,0),(1,1)])
  have g36:¬ (s35<(m_.ch.length:Int)):=gQ;clear g;replace h:=if_r g36 h;refine Qj ?_;refine tx ?_;refine lx ?_;refine bh ?_;cases h;exact jn (b:=()) hk35 (wkQ9 [(0,0),(1,1)])
 intro b18 hb18;have h:=h18;try rw [← hb18] at h
 clear h18;try dsimp only at h
 refine Q4 ?_;refine Q4 ?_;refine runQ hN fun K hK=>?_;simp [-Q0,-Q6,-Q1,-Q7,-Q2];repeat refine sdQ ?_
 refine hK _ ?_;clear hK K;refine tn ?_;refine Q8 (st':=⟨[(1,.adr 0 0 0),(3,.adr 1 0 0),(6,iV 0)],[(0,.mix 7 [(Fam.cells true m_)]),(1,.mix 5 [(Cat.cells true m_.b)])],2⟩) (wkQ9 [(0,0),(1,1)]) ?_;replace h:=bind_some h;obtain ⟨e52,h,h52⟩:=h;refine Qh (fun b52:Unit=>⟨[(1,.adr 0 0 0),(3,.adr 1 0 0)],[(0,.mix 7 [(Fam.cells true m_)]),(1,.mix 5 [(Cat.cells true m_.b)])],2⟩) (fun b52=>Sum.inl b52=e52) ?_ ?_
 ·refine Qa ?_;refine Qu h (fun s61:Int=>⟨[(1,.adr 0 0 0),(3,.adr 1 0 0),(6,iV s61)],[(0,.mix 7 [(Fam.cells true m_)]),(1,.mix 5 [(Cat.cells true m_.b)])],2⟩) (wkQ9 [(0,0),(1,1)]) ?_;clear h;intro k61 s61 c61 h hk61;refine Q4 ?_;refine Q4 ?_;refine runQ hN fun K hK=>?_;simp [-Q0,-Q6,-Q1,-Q7,-Q2];repeat refine sdQ ?_
  refine hK _ ?_;clear hK K;refine tn ?_;refine Q8 (st':=⟨[(1,.adr 0 0 0),(3,.adr 1 0 0),(6,iV s61),(101,.val (.bool (decide (s61<(m_.fb.length:Int)))))],[(0,.mix 7 [(Fam.cells true m_)]),(1,.mix 5 [(Cat.cells true m_.b)])],2⟩) (wkQ9 [(0,0),(1,1)]) ?_;refine Qc rfl (fun g=>?_) fun g=>?_
  ·have g62:s61<(m_.fb.length:Int):=gQ;clear g;replace h:=if_l g62 h;refine Qd ?_;refine tn ?_;refine Q4 ?_;refine Qa ?_;refine Q4 ?_;refine runQ hN fun K hK=>?_;replace h:=Q5 h;obtain ⟨a63,h⟩:=h;replace h:=Q5 h;obtain ⟨a64,h⟩:=h;replace h:=Q5 h;obtain ⟨a65,h⟩:=h;simp [-Q0,-Q6,-Q1,-Q7,-Q2,at_I a63,at_E (c:=(Fn.cells true)) a64,at_E (c:=(Cat.cells true)) a65];(repeat with_reducible refine sdQ ?_);replace h:=bind_some h;obtain ⟨v66,hv66,h⟩:=h;refine Q3 (Q8d _ v66 hv66) (.cons (.aggL (.cons .val (.cons .lst (.cons .lst (.cons .lst (.cons .lst .nil)))))) .nil) ?_;simp [-Q0,-Q6,-Q1,-Q7,-Q2,unk,unA,unE,unT,unC,flat,at_I a63,at_E (c:=(Fn.cells true)) a64,at_E (c:=(Cat.cells true)) a65];(repeat with_reducible refine sdQ ?_);replace h:=bind_some h;obtain ⟨v67,hv67,h⟩:=h;refine Q3 (Q5x _ _ v67 hv67) (.cons (.aggL (.cons .val (.cons .lst (.cons .lst (.cons .lst (.cons .lst (.cons .val (.cons .lst (.cons .lst (.cons .lst (.cons .lst (.cons .lst (.cons .lst .nil))))))))))))) (.cons (.aggL (.cons .val (.cons (.whole (by simp) (by simp) (by simp)) (.cons (.whole (by simp) (by simp) (by simp)) (.cons (.whole (by simp) (by simp) (by simp)) (.cons (.whole (by simp) (by simp) (by simp)) (.cons .val (.cons (.whole (by simp) (by simp) (by simp)) (.cons (.whole (by simp) (by simp) (by simp)) (.cons (.whole (by simp) (by simp) (by simp)) (.cons (.whole (by simp) (by simp) (by simp)) (.cons (.whole (by simp) (by simp) (by simp)) (.cons (.whole (by simp) (by simp) (by simp)) .nil))))))))))))) .nil)) ?_;simp [-Q0,-Q6,-Q1,-Q7,-Q2,unk,unA,unE,unT,unC,flat,at_I a63,at_E (c:=(Fn.cells true)) a64,at_E (c:=(Cat.cells true)) a65];(repeat refine sdQ ?_);refine hK _ ?_;clear hK K;refine tn ?_;refine Q8 (st':=⟨[(1,.adr 0 0 0),(3,.adr 1 0 0),(6,iV s61),(120,.val (.bool (!v67)))],[(0,.mix 7 [(Fam.cells true m_)]),(1,.mix 5 [(Cat.cells true m_.b)])],2⟩) (wkQ9 [(0,0),(1,1)]) ?_;refine Qc rfl (fun g=>?_) fun g=>?_
   ·have g68:¬ (v67=true):=gQ;clear g;replace h:=if_l g68 h;refine Q4 ?_;refine runQ hN fun K hK=>?_;simp [-Q0,-Q6,-Q1,-Q7,-Q2];(repeat refine sdQ ?_);refine hK _ ?_;clear hK K;refine tn ?_;refine Q8 (st':=⟨[(2,.val (.bool false))],[],0⟩) (wkQ9 []) ?_;refine Qg ?_;refine br ?_;refine tr ?_;refine lr ?_;refine br ?_;refine tr ?_;cases h;have q:_=e52:=hk61;have h:=h52;rw [← q] at h;clear q;(try dsimp only at h);have hr:=Option.some.inj h;rw [← hr];refine ⟨_,(.tmp .nil),?_⟩;refine ⟨(.one rfl rfl .nil),[.val (.bool false)],[],by simp [Cat.cells,Fam.cells,Fn.cells,UA,U1,IA,I1,LA,L1,BA,B1,EA,E1,E2,eB,eI,eL],by simp,(UpL.refl _)⟩
   have g68:¬ (¬ (v67=true)):=gQ;clear g;replace h:=if_r g68 h;refine Qd ?_;refine bn ?_;refine tn ?_;refine runQ hN fun K hK=>?_;replace h:=Q5 h;obtain ⟨a69,h⟩:=h;simp [-Q0,-Q6,-Q1,-Q7,-Q2,Qk a69];(repeat refine sdQ ?_);refine hK _ ?_;clear hK K;cases h;exact rn (s':=s61+1) hk61 (wkQ9 [(0,0),(1,1)])
  have g62:¬ (s61<(m_.fb.length:Int)):=gQ;clear g;replace h:=if_r g62 h;refine Qj ?_;refine tx ?_;refine lx ?_;refine bh ?_;cases h;exact jn (b:=()) hk61 (wkQ9 [(0,0),(1,1)])
 intro b52 hb52;have h:=h52;try rw [← hb52] at h
 clear h52;try dsimp only at h
 refine Q4 ?_;refine Q4 ?_;refine runQ hN fun K hK=>?_;simp [-Q0,-Q6,-Q1,-Q7,-Q2];repeat refine sdQ ?_
 refine hK _ ?_;clear hK K;refine tn ?_;refine Q8 (st':=⟨[(1,.adr 0 0 0),(3,.adr 1 0 0),(7,iV 0)],[(0,.mix 7 [(Fam.cells true m_)]),(1,.mix 5 [(Cat.cells true m_.b)])],2⟩) (wkQ9 [(0,0),(1,1)]) ?_;replace h:=bind_some h;obtain ⟨e70,h,h70⟩:=h;refine Qh (fun b70:Unit=>⟨[],[],0⟩) (fun b70=>Sum.inl b70=e70) ?_ ?_
 ·refine Qa ?_;refine Qu h (fun s103:Int=>⟨[(1,.adr 0 0 0),(3,.adr 1 0 0),(7,iV s103)],[(0,.mix 7 [(Fam.cells true m_)]),(1,.mix 5 [(Cat.cells true m_.b)])],2⟩) (wkQ9 [(0,0),(1,1)]) ?_;clear h;intro k103 s103 c103 h hk103;refine Q4 ?_;refine Q4 ?_;refine runQ hN fun K hK=>?_;simp [-Q0,-Q6,-Q1,-Q7,-Q2];repeat refine sdQ ?_
  refine hK _ ?_;clear hK K;refine tn ?_;refine Q8 (st':=⟨[(1,.adr 0 0 0),(3,.adr 1 0 0),(7,iV s103),(125,.val (.bool (decide (s103<(m_.ch.length:Int)))))],[(0,.mix 7 [(Fam.cells true m_)]),(1,.mix 5 [(Cat.cells true m_.b)])],2⟩) (wkQ9 [(0,0),(1,1)]) ?_;refine Qc rfl (fun g=>?_) fun g=>?_
  ·have g104:s103<(m_.ch.length:Int):=gQ;clear g;replace h:=if_l g104 h;refine Qd ?_;refine tn ?_;refine Q4 ?_;replace h:=bind_some h;obtain ⟨e105,h,h105⟩:=h;refine Qh (fun b105:Unit=>⟨[(1,.adr 0 0 0),(3,.adr 1 0 0),(7,iV s103)],[(0,.mix 7 [(Fam.cells true m_)]),(1,.mix 5 [(Cat.cells true m_.b)])],2⟩) (fun b105=>Sum.inl b105=e105) ?_ ?_
   ·refine Qa ?_;refine Q4 ?_;refine runQ hN fun K hK=>?_;simp [-Q0,-Q6,-Q1,-Q7,-Q2];(repeat refine sdQ ?_);refine hK _ ?_;clear hK K;refine tn ?_;refine Q8 (st':=⟨[(1,.adr 0 0 0),(3,.adr 1 0 0),(7,iV s103),(8,iV 0)],[(0,.mix 7 [(Fam.cells true m_)]),(1,.mix 5 [(Cat.cells true m_.b)])],2⟩) (wkQ9 [(0,0),(1,1)]) ?_;refine Qa ?_;replace h:=bind_some h;obtain ⟨e120,he120,h120⟩:=h;refine Qu he120 (fun s120:Int=>⟨[(1,.adr 0 0 0),(3,.adr 1 0 0),(7,iV s103),(8,iV s120)],[(0,.mix 7 [(Fam.cells true m_)]),(1,.mix 5 [(Cat.cells true m_.b)])],2⟩) (wkQ9 [(0,0),(1,1)]) ?_;intro k120 s120 c120 h hk120;refine Q4 ?_;refine Q4 ?_;refine runQ hN fun K hK=>?_;simp [-Q0,-Q6,-Q1,-Q7,-Q2];(repeat refine sdQ ?_);refine hK _ ?_;clear hK K;refine tn ?_;refine Q8 (st':=⟨[(1,.adr 0 0 0),(3,.adr 1 0 0),(7,iV s103),(8,iV s120),(132,.val (.bool (decide (s120<(m_.ch.length:Int)))))],[(0,.mix 7 [(Fam.cells true m_)]),(1,.mix 5 [(Cat.cells true m_.b)])],2⟩) (wkQ9 [(0,0),(1,1)]) ?_;refine Qc rfl (fun g=>?_) fun g=>?_
    ·have g121:s120<(m_.ch.length:Int):=gQ;clear g;replace h:=if_l g121 h;refine Qd ?_;refine tn ?_;refine Q4 ?_;refine Qa ?_;refine Q4 ?_;replace h:=bind_some h;obtain ⟨e122,h,h122⟩:=h;refine Qh (fun b122:Bool=>⟨[(1,.adr 0 0 0),(3,.adr 1 0 0),(7,iV s103),(8,iV s120),(172,.val (.bool b122))],[(0,.mix 7 [(Fam.cells true m_)]),(1,.mix 5 [(Cat.cells true m_.b)])],2⟩) (fun b122=>b122=e122) ?_ ?_
     ·refine runQ hN fun K hK=>?_;replace h:=Q5 h;obtain ⟨a123,h⟩:=h;replace h:=Q5 h;obtain ⟨a124,h⟩:=h;simp [-Q0,-Q6,-Q1,-Q7,-Q2,at_I a123,at_I a124];(repeat with_reducible refine sdQ ?_);refine Qq (fun g=>?_) (fun g=>?_)
      ·have g125:(ix m_.b.to s103)=(ix m_.b.fr s120):=gQ;clear g;replace h:=if_l g125 h;replace h:=Q5 h;obtain ⟨a126,h⟩:=h;replace h:=Q5 h;obtain ⟨a127,h⟩:=h;replace h:=Q5 h;obtain ⟨a128,h⟩:=h;replace h:=Q5 h;obtain ⟨a129,h⟩:=h;replace h:=Q5 h;obtain ⟨a130,h⟩:=h;simp [-Q0,-Q6,-Q1,-Q7,-Q2,at_I a123,at_I a124,at_L a126,at_I a127,at_E (c:=(Fn.cells true)) a128,at_E (c:=(Fn.cells true)) a129,at_E (c:=(Fn.cells true)) a130];(repeat with_reducible refine sdQ ?_);replace h:=bind_some h;obtain ⟨v131,hv131,h⟩:=h;refine Q3 (Q8e _ _ v131 hv131) (.cons (.aggL (.cons .val (.cons .lst (.cons .lst (.cons .lst (.cons .lst (.cons .val (.cons .lst (.cons .lst (.cons .lst (.cons .lst (.cons .lst (.cons .lst .nil))))))))))))) (.cons (.aggL (.cons .val (.cons .lst (.cons .lst (.cons .lst (.cons .lst (.cons .val (.cons .lst (.cons .lst (.cons .lst (.cons .lst (.cons .lst (.cons .lst .nil))))))))))))) .nil)) ?_;simp [-Q0,-Q6,-Q1,-Q7,-Q2,unk,unA,unE,unT,unC,flat,at_I a123,at_I a124,at_L a126,at_I a127,at_E (c:=(Fn.cells true)) a128,at_E (c:=(Fn.cells true)) a129,at_E (c:=(Fn.cells true)) a130];(repeat with_reducible refine sdQ ?_);replace h:=bind_some h;obtain ⟨v132,hv132,h⟩:=h;refine Q3 (Q5x _ _ v132 hv132) (.cons (.aggL (.cons .val (.cons .lst (.cons .lst (.cons .lst (.cons .lst (.cons .val (.cons .lst (.cons .lst (.cons .lst (.cons .lst (.cons .lst (.cons .lst .nil))))))))))))) (.cons (.aggL (.cons .val (.cons (.whole (by simp) (by simp) (by simp)) (.cons (.whole (by simp) (by simp) (by simp)) (.cons (.whole (by simp) (by simp) (by simp)) (.cons (.whole (by simp) (by simp) (by simp)) (.cons .val (.cons (.whole (by simp) (by simp) (by simp)) (.cons (.whole (by simp) (by simp) (by simp)) (.cons (.whole (by simp) (by simp) (by simp)) (.cons (.whole (by simp) (by simp) (by simp)) (.cons (.whole (by simp) (by simp) (by simp)) (.cons (.whole (by simp) (by simp) (by simp)) .nil))))))))))))) .nil)) ?_;simp [-Q0,-Q6,-Q1,-Q7,-Q2,unk,unA,unE,unT,unC,flat,at_I a123,at_I a124,at_L a126,at_I a127,at_E (c:=(Fn.cells true)) a128,at_E (c:=(Fn.cells true)) a129,at_E (c:=(Fn.cells true)) a130];(repeat refine sdQ ?_);refine hK _ ?_;exact jn (b:=!v132) (Option.some.inj h) (wkQ9 [(0,0),(1,1)])
      have g125:¬ ((ix m_.b.to s103)=(ix m_.b.fr s120)):=gQ;clear g;replace h:=if_r g125 h;simp [-Q0,-Q6,-Q1,-Q7,-Q2,at_I a123,at_I a124];(repeat refine sdQ ?_);refine hK _ ?_;exact jn (b:=false) (Option.some.inj h) (wkQ9 [(0,0),(1,1)])
     intro b122 hb122;have h:=h122;(try rw [← hb122] at h);clear h122;(try dsimp only at h);refine Qc rfl (fun g=>?_) fun g=>?_
     ·have g133:b122=true:=gQ;clear g;replace h:=if_l g133 h;refine Q4 ?_;refine runQ hN fun K hK=>?_;simp [-Q0,-Q6,-Q1,-Q7,-Q2];(repeat refine sdQ ?_);refine hK _ ?_;clear hK K;refine tn ?_;refine Q8 (st':=⟨[(2,.val (.bool false))],[],0⟩) (wkQ9 []) ?_;refine Qg ?_;refine br ?_;refine tr ?_;refine lr ?_;refine br ?_;refine br ?_;refine tr ?_;refine lr ?_;refine br ?_;refine tr ?_;cases h;have q:_=e120:=hk120;have h:=h120;rw [← q] at h;clear q;(try dsimp only at h);cases h;have h:=h105;(try dsimp only at h);cases h;have q:_=e70:=hk103;have h:=h70;rw [← q] at h;clear q;(try dsimp only at h);have hr:=Option.some.inj h;rw [← hr];refine ⟨_,(.tmp .nil),?_⟩;refine ⟨(.one rfl rfl .nil),[.val (.bool false)],[],by simp [Cat.cells,Fam.cells,Fn.cells,UA,U1,IA,I1,LA,L1,BA,B1,EA,E1,E2,eB,eI,eL],by simp,(UpL.refl _)⟩
     have g133:¬ (b122=true):=gQ;clear g;replace h:=if_r g133 h;refine Qd ?_;refine bn ?_;refine tn ?_;refine runQ hN fun K hK=>?_;replace h:=Q5 h;obtain ⟨a134,h⟩:=h;simp [-Q0,-Q6,-Q1,-Q7,-Q2,Qk a134];(repeat refine sdQ ?_);refine hK _ ?_;clear hK K;cases h;exact rn (s':=s120+1) hk120 (wkQ9 [(0,0),(1,1)])
    have g121:¬ (s120<(m_.ch.length:Int)):=gQ;clear g;replace h:=if_r g121 h;refine Qj ?_;refine tx ?_;refine lx ?_;refine bh ?_;refine bn ?_;cases h;have q:_=e120:=hk120;have h:=h120;rw [← q] at h;clear q;(try dsimp only at h);exact jn (b:=()) (Option.some.inj h) (wkQ9 [(0,0),(1,1)])
   intro b105 hb105;have h:=h105;(try rw [← hb105] at h);clear h105;(try dsimp only at h);refine runQ hN fun K hK=>?_;replace h:=Q5 h;obtain ⟨a135,h⟩:=h;simp [-Q0,-Q6,-Q1,-Q7,-Q2,Qk a135];(repeat refine sdQ ?_);refine hK _ ?_;clear hK K;cases h;exact rn (s':=s103+1) hk103 (wkQ9 [(0,0),(1,1)])
  have g104:¬ (s103<(m_.ch.length:Int)):=gQ;clear g;replace h:=if_r g104 h;refine Qj ?_;refine tx ?_;refine lx ?_;refine bh ?_;cases h;exact jn (b:=()) hk103 (wkQ9 [])
 intro b70 hb70;have h:=h70;try rw [← hb70] at h
 clear h70;try dsimp only at h
 refine Q4 ?_;refine runQ hN fun K hK=>?_;simp [-Q0,-Q6,-Q1,-Q7,-Q2];repeat refine sdQ ?_
 refine hK _ ?_;clear hK K;refine tn ?_;refine Q8 (st':=⟨[(2,.val (.bool true))],[],0⟩) (wkQ9 []) ?_;refine Qg ?_;have hr:=Option.some.inj h;rw [← hr];refine ⟨_,(.tmp .nil),?_⟩;refine ⟨(.one rfl rfl .nil),[.val (.bool true)],[],by simp [Cat.cells,Fam.cells,Fn.cells,UA,U1,IA,I1,LA,L1,BA,B1,EA,E1,E2,eB,eI,eL],by simp,(UpL.refl _)⟩
def famC (m:Fam) (a:Nat):Prop:=(gx m.ch a).Is∧(gx m.ch a).s=gx m.fb (ix m.b.fr a)∧(gx m.ch a).t=gx m.fb (ix m.b.to a)
def famT (m:Fam) (a b:Nat):Prop:=ix m.b.to a=ix m.b.fr b→gx m.ch (ix (rx m.b.cs a) b)=Q9D (gx m.ch a) (gx m.ch b)
structure Fam.Is (m:Fam):Prop where
 hb:m.b.Is
 lf:(m.fb.length:Int)=m.b.n
 lc:m.ch.length=m.b.fr.length
 fb:∀ x:Nat,x<m.fb.length→(gx m.fb x).Is
 ch:∀ a:Nat,a<m.ch.length→famC m a
 id:∀ x:Nat,x<m.fb.length→gx m.ch (ix m.b.id x)=Q5o (gx m.fb x)
 co:∀ a:Nat,a<m.ch.length→∀ b:Nat,b<m.ch.length→famT m a b
theorem Fn.ext4 {f g:Fn} (h1:f.s=g.s) (h2:f.t=g.t) (h3:f.ob=g.ob) (h4:f.ar=g.ar):f=g:=by
 cases f;cases g;simp_all
theorem Q5I (f g:Fn):Q1Y f g=some (bo (f=g)):=by
 unfold Q1Y Q1m Q1C;simp only [Option.bind_some]
 by_cases h1:f.s=g.s
 case neg=>rw [Qm h1,Qm (show ¬ f=g from fun q=>h1 (by rw [q]))];simp
 by_cases h2:f.t=g.t
 case neg=>rw [QD h1,Qm h2,Qm (show ¬ f=g from fun q=>h2 (by rw [q]))];simp
 rw [QD h1,QD h2];simp only [if_true]
 by_cases h3:f.ob=g.ob
 case neg=>rw [Qm (show ¬ f=g from fun q=>h3 (by rw [q]))];simp [h3]
 by_cases h4:f.ar=g.ar
 ·rw [QD (Fn.ext4 h1 h2 h3 h4)];simp [h3,h4]
 rw [Qm (show ¬ f=g from fun q=>h4 (by rw [q]))];simp [h3,h4]
theorem Q8p {f:Fn} (hf:f.Is) (g:Fn):Q17 f g=some (bo (f=g)):=by
 unfold Q17 Q4h;rw [Q47 hf.s,Q47 hf.t];simp only [Option.bind_some]
 by_cases h1:f.s=g.s
 case neg=>rw [Qm h1,Qm (show ¬ f=g from fun q=>h1 (by rw [q]))];simp
 by_cases h2:f.t=g.t
 case neg=>rw [QD h1,Qm h2,Qm (show ¬ f=g from fun q=>h2 (by rw [q]))];simp
 rw [QD h1,QD h2];simp only [if_true]
 by_cases h3:f.ob=g.ob
 case neg=>rw [Qm (show ¬ f=g from fun q=>h3 (by rw [q]))];simp [h3]
 by_cases h4:f.ar=g.ar
 ·rw [QD (Fn.ext4 h1 h2 h3 h4)];simp [h3,h4]
 rw [Qm (show ¬ f=g from fun q=>h4 (by rw [q]))];simp [h3,h4]
theorem Q7F {m:Fam} (h:∀ a:Nat,a<m.ch.length→famC m a) {a:Int} (ha:0≤a∧a<(m.ch.length:Int)):(gx m.ch a).Is∧(gx m.ch a).s=gx m.fb (ix m.b.fr a)∧(gx m.ch a).t=gx m.fb (ix m.b.to a):=by
 obtain ⟨k,rfl⟩:=Int.eq_ofNat_of_zero_le ha.1;exact h k (by omega)
theorem Q90 (m:Fam):Q2a m=some (bo m.Is):=by
 unfold Q2a Q11 Q1m;simp only [Option.bind_some]
 by_cases h1:m.b.Is
 case neg=>rw [Qm h1,Qm (show ¬ m.Is from fun q=>h1 q.hb)];simp
 rw [QD h1,if_neg (by simp)]
 by_cases h2:(m.fb.length:Int)=m.b.n
 case neg=>rw [if_pos h2,Qm (show ¬ m.Is from fun q=>h2 q.lf)];simp
 rw [if_neg (Q6g h2)];simp only [Option.bind_some]
 by_cases h3:(m.ch.length:Int)=(m.b.fr.length:Int)
 case neg=>rw [show ((m.ch.length:Int) != (m.b.fr.length:Int))=true by simp [h3],Qm (show ¬ m.Is from fun q=>h3 (by rw [q.lc]))];simp
 rw [show ((m.ch.length:Int) != (m.b.fr.length:Int))=false by simp [h3]];simp only [Bool.false_eq_true,if_false];have nb:=h1.nums;refine chkI m.fb.length (fun x=>(gx m.fb x).Is) (Sum.inr false) (Sum.inl ()) (by omega) (fun x hx=>?_) (by rw [if_neg (by omega)]) ?_
 ·rw [if_pos (by omega),Q9 (by omega)]
  by_cases q:(gx m.fb x).Is
  ·rw [QD q,if_neg (by simp),Q9 (by unfold B64;omega)];simp
  rw [Qm q];simp
 by_cases k1:∀ x:Nat,x<m.fb.length→(gx m.fb x).Is
 case neg=>rw [Qm k1,Qm (show ¬ m.Is from fun q=>k1 q.fb)];simp
 rw [QD k1];simp only [if_true];refine chkI m.ch.length (famC m) (Sum.inr false) (Sum.inl ()) (by omega) (fun a ha=>?_) (by rw [if_neg (by omega)]) ?_
 ·have en:=h1.ends (a:=a) (by omega);rw [if_pos (by omega),Q9 (by omega),e_l06Is];simp only [Option.bind_some]
  by_cases q1:(gx m.ch a).Is
  case neg=>rw [Qm q1,Qm (show ¬ famC m a from fun q=>q1 q.1)];simp
  rw [QD q1,if_neg (by simp),Q9 (by omega),Q9 (by omega),Q9 (by omega)]
  by_cases q2:(gx m.ch a).s=gx m.fb (ix m.b.fr a)
  case neg=>rw [Qm q2,Qm (show ¬ famC m a from fun q=>q2 q.2.1)];simp
  rw [QD q2,if_neg (by simp),Q9 (by omega),Q9 (by omega),Q9 (by omega)];simp only [Option.bind_some]
  by_cases q3:(gx m.ch a).t=gx m.fb (ix m.b.to a)
  ·rw [QD q3,QD (show famC m a from ⟨q1,q2,q3⟩)];simp only [Bool.not_true,Bool.false_eq_true,if_false,if_true];rw [Q9 (by unfold B64;omega)]
  rw [Qm q3,Qm (show ¬ famC m a from fun q=>q3 q.2.2)];simp
 by_cases k2:∀ a:Nat,a<m.ch.length→famC m a
 case neg=>rw [Qm k2,Qm (show ¬ m.Is from fun q=>k2 q.ch)];simp
 rw [QD k2];simp only [if_true];refine chkI m.fb.length (fun x=>gx m.ch (ix m.b.id x)=Q5o (gx m.fb x)) (Sum.inr false) (Sum.inl ()) (by omega) (fun x hx=>?_) (by rw [if_neg (by omega)]) ?_
 ·have ai:=h1.1.id' (j:=x) (by omega) (by omega);rw [if_pos (by omega),Q9 (by omega),Q9 (by omega),Q9 (by omega),e_l06Self (k1 x hx)];simp only [Option.bind_some];rw [Q5I];simp only [Option.bind_some]
  by_cases q:gx m.ch (ix m.b.id x)=Q5o (gx m.fb x)
  ·rw [QD q,if_neg (by simp),Q9 (by unfold B64;omega)];simp
  rw [Qm q];simp
 by_cases k3:∀ x:Nat,x<m.fb.length→gx m.ch (ix m.b.id x)=Q5o (gx m.fb x)
 case neg=>rw [Qm k3,Qm (show ¬ m.Is from fun q=>k3 q.id)];simp
 rw [QD k3];simp only [if_true];refine chkI m.ch.length (fun a=>∀ b:Nat,b<m.ch.length→famT m a b) (Sum.inr false) (Sum.inl ()) (by omega) (fun a ha=>?_) (by rw [if_neg (by omega)]) ?_
 ·have ra:=h1.1.row' (j:=(a:Int)) (by omega) (by omega);rw [if_pos (by omega),Option.bind_assoc];refine chkI m.ch.length (famT m a) (Sum.inl false) (Sum.inr ()) (by omega) (fun b hb=>?_) (by rw [if_neg (by omega)]) ?_
  ·rw [if_pos (by omega),Q9 (by omega),Q9 (by omega)]
   by_cases e:ix m.b.to a=ix m.b.fr b
   case neg =>
    rw [if_neg e,QD (show famT m a b from fun q=>absurd q e)];simp only [Option.bind_some,Bool.false_eq_true,if_false,if_true];rw [Q9 (by unfold B64;omega)]
   have t:=h1.two (f:=a) (g:=b) (by omega) (by omega) e;have fa:=k2 a ha;have fb:=k2 b hb;rw [if_pos e,Q9 (by omega),Q9 (by omega),Q9 (by omega),Q9 (by omega),Q9 (by omega),e_l06Then fa.1 fb.1 (by rw [fa.2.2,fb.2.1,e])];simp only [Option.bind_some];rw [Q5I];simp only [Option.bind_some]
   by_cases q:gx m.ch (ix (rx m.b.cs a) b)=Q9D (gx m.ch a) (gx m.ch b)
   ·rw [QD q,QD (show famT m a b from fun _=>q)];simp only [Bool.not_true,Bool.false_eq_true,if_false,if_true];rw [Q9 (by unfold B64;omega)]
   rw [Qm q,Qm (show ¬ famT m a b from fun z=>q (z e))];simp
  by_cases q:∀ b:Nat,b<m.ch.length→famT m a b
  ·rw [QD q];simp only [if_true,Option.bind_some];rw [Q9 (by unfold B64;omega)]
  rw [Qm q];simp
 by_cases q:∀ a:Nat,a<m.ch.length→∀ b:Nat,b<m.ch.length→famT m a b
 ·rw [QD q,QD (show m.Is from ⟨h1,h2,by omega,k1,k2,k3,q⟩)];simp
 rw [Qm q,Qm (show ¬ m.Is from fun z=>q z.co)];simp
theorem Q92 (m:Fam):QV m=some (bo m.Is):=by
 unfold QV Qy;simp only [Option.bind_some]
 by_cases h1:m.b.Is
 case neg=>rw [Qm h1,Qm (show ¬ m.Is from fun q=>h1 q.hb)];simp
 rw [QD h1,if_neg (by simp)]
 by_cases h2:(m.fb.length:Int)=m.b.n
 case neg=>rw [if_pos h2,Qm (show ¬ m.Is from fun q=>h2 q.lf)];simp
 rw [if_neg (Q6g h2)];have ear:Qr m.b=some (m.b.fr.length:Int):=rfl;rw [ear];simp only [Option.bind_some]
 by_cases h3:(m.ch.length:Int)=(m.b.fr.length:Int)
 case neg=>rw [show ((m.ch.length:Int) != (m.b.fr.length:Int))=true by simp [h3],Qm (show ¬ m.Is from fun q=>h3 (by rw [q.lc]))];simp
 rw [show ((m.ch.length:Int) != (m.b.fr.length:Int))=false by simp [h3]];simp only [Bool.false_eq_true,if_false];have nb:=h1.nums;refine chkI m.fb.length (fun x=>(gx m.fb x).Is) (Sum.inr false) (Sum.inl ()) (by omega) (fun x hx=>?_) (by rw [if_neg (by omega)]) ?_
 ·rw [if_pos (by omega),Q9 (by omega)]
  by_cases q:(gx m.fb x).Is
  ·rw [QD q,if_neg (by simp),Q9 (by unfold B64;omega)];simp
  rw [Qm q];simp
 by_cases k1:∀ x:Nat,x<m.fb.length→(gx m.fb x).Is
 case neg=>rw [Qm k1,Qm (show ¬ m.Is from fun q=>k1 q.fb)];simp
 rw [QD k1];simp only [if_true];refine chkI m.ch.length (famC m) (Sum.inr false) (Sum.inl ()) (by omega) (fun a ha=>?_) (by rw [if_neg (by omega)]) ?_
 ·have en:=h1.ends (a:=a) (by omega);rw [if_pos (by omega),Q9 (by omega),Q7y];simp only [Option.bind_some]
  by_cases q1:(gx m.ch a).Is
  case neg=>rw [Qm q1,Qm (show ¬ famC m a from fun q=>q1 q.1)];simp
  rw [QD q1,if_neg (by simp),Q9 (by omega),Q9 (by omega),Q47 q1.s];simp only [Option.bind_some]
  by_cases q2:(gx m.ch a).s=gx m.fb (ix m.b.fr a)
  case neg=>rw [Qm q2,Qm (show ¬ famC m a from fun q=>q2 q.2.1)];simp
  rw [QD q2,if_neg (by simp),Q9 (by omega),Q9 (by omega),Q47 q1.t];simp only [Option.bind_some]
  by_cases q3:(gx m.ch a).t=gx m.fb (ix m.b.to a)
  ·rw [QD q3,QD (show famC m a from ⟨q1,q2,q3⟩)];simp only [Bool.not_true,Bool.false_eq_true,if_false,if_true];rw [Q9 (by unfold B64;omega)]
  rw [Qm q3,Qm (show ¬ famC m a from fun q=>q3 q.2.2)];simp
 by_cases k2:∀ a:Nat,a<m.ch.length→famC m a
 case neg=>rw [Qm k2,Qm (show ¬ m.Is from fun q=>k2 q.ch)];simp
 rw [QD k2];simp only [if_true];refine chkI m.fb.length (fun x=>gx m.ch (ix m.b.id x)=Q5o (gx m.fb x)) (Sum.inr false) (Sum.inl ()) (by omega) (fun x hx=>?_) (by rw [if_neg (by omega)]) ?_
 ·have ai:=h1.1.id' (j:=x) (by omega) (by omega);have fi:=Q7F k2 (a:=ix m.b.id x) (by omega);rw [if_pos (by omega),Q9 (by omega),Q9 (by omega),Q91 (k1 x hx)];simp only [Option.bind_some];rw [Q9 (by omega),Q8p fi.1];simp only [Option.bind_some]
  by_cases q:gx m.ch (ix m.b.id x)=Q5o (gx m.fb x)
  ·rw [QD q,if_neg (by simp),Q9 (by unfold B64;omega)];simp
  rw [Qm q];simp
 by_cases k3:∀ x:Nat,x<m.fb.length→gx m.ch (ix m.b.id x)=Q5o (gx m.fb x)
 case neg=>rw [Qm k3,Qm (show ¬ m.Is from fun q=>k3 q.id)];simp
 rw [QD k3];simp only [if_true];refine chkI m.ch.length (fun a=>∀ b:Nat,b<m.ch.length→famT m a b) (Sum.inr false) (Sum.inl ()) (by omega) (fun a ha=>?_) (by rw [if_neg (by omega)]) ?_
 ·have ra:=h1.1.row' (j:=(a:Int)) (by omega) (by omega);rw [if_pos (by omega),Q9 (by omega),Option.bind_assoc];refine chkI m.ch.length (famT m a) (Sum.inl false) (Sum.inr ()) (by omega) (fun b hb=>?_) (by rw [if_neg (by omega)]) ?_
  ·rw [if_pos (by omega),Q9 (by omega)]
   by_cases e:ix m.b.to a=ix m.b.fr b
   case neg =>
    have z:=(h1.1.cell' (f:=a) (g:=b) (by omega) (by omega) (by omega) (by omega)).1 e;rw [if_pos (by omega),QD (show famT m a b from fun q=>absurd q e)];simp only [Option.bind_some,if_true];rw [Q9 (by unfold B64;omega)]
   have t:=h1.two (f:=a) (g:=b) (by omega) (by omega) e;have fa:=k2 a ha;have fb:=k2 b hb;have fi:=Q7F k2 (a:=ix (rx m.b.cs a) b) (by omega);rw [if_neg (by omega),Q9 (by omega),Q9 (by omega),e_Fthen fa.1 fb.1 (by rw [fa.2.2,fb.2.1,e])];simp only [Option.bind_some];rw [Q9 (by omega),Q8p fi.1];simp only [Option.bind_some]
   by_cases q:gx m.ch (ix (rx m.b.cs a) b)=Q9D (gx m.ch a) (gx m.ch b)
   ·rw [QD q,QD (show famT m a b from fun _=>q),if_neg (by simp)];simp only [Option.bind_some,if_true];rw [Q9 (by unfold B64;omega)]
   rw [Qm q,Qm (show ¬ famT m a b from fun z=>q (z e))];simp
  by_cases q:∀ b:Nat,b<m.ch.length→famT m a b
  ·rw [QD q];simp only [if_true,Option.bind_some];rw [Q9 (by unfold B64;omega)]
  rw [Qm q];simp
 by_cases q:∀ a:Nat,a<m.ch.length→∀ b:Nat,b<m.ch.length→famT m a b
 ·rw [QD q,QD (show m.Is from ⟨h1,h2,by omega,k1,k2,k3,q⟩)];simp
 rw [Qm q,Qm (show ¬ m.Is from fun z=>q z.co)];simp
end Go.Vc.T
