/- A part of the proof: a verified generator of conditions, and what each function of the program does. -/
import Derived.Test.YtjfnifbgmcjjkaaGreatS8
set_option maxRecDepth 100000
set_option maxHeartbeats 4000000
set_option linter.unusedSimpArgs false
set_option linter.unusedVariables false

namespace Go.Vc.T
open Go Go.Vc Go.Proofs
section
attribute [local simp] Ql Q11 QE Q1j QW
def MpP (f:List Int) (m n:Int):Prop:=(f.length:Int)=m∧∀ j:Nat,j<f.length→0≤ix f j∧ix f j<n
def Prf.row (p:Prf) (x:Nat):Prop:=((rx p.sz x).length:Int)=p.t.n∧∀ y:Nat,y<(rx p.sz x).length→0≤ix (rx p.sz x) y∧ix (rx p.sz x) y≤64
def Prf.mbf (p:Prf) (a:Nat):Prop:=((gx p.bf a).length:Int)=p.t.n∧∀ y:Nat,y<(gx p.bf a).length→MpP (rx (gx p.bf a) y) (ix (rx p.sz (ix p.s.to a)) y) (ix (rx p.sz (ix p.s.fr a)) y)
def Prf.mbh (p:Prf) (b:Nat):Prop:=((gx p.bh b).length:Int)=p.s.n∧∀ x:Nat,x<(gx p.bh b).length→MpP (rx (gx p.bh b) x) (ix (rx p.sz x) (ix p.t.fr b)) (ix (rx p.sz x) (ix p.t.to b))
structure Prf.Z (p:Prf):Prop where
 hs:p.s.Is
 ht:p.t.Is
 ls:(p.sz.length:Int)=p.s.n
 lb:p.bf.length=p.s.fr.length
 lh:p.bh.length=p.t.fr.length
 row:∀ x:Nat,x<p.sz.length→p.row x
structure Prf.M (p:Prf):Prop where
 z:p.Z
 bf:∀ a:Nat,a<p.bf.length→p.mbf a
 bh:∀ b:Nat,b<p.bh.length→p.mbh b
def Prf.li (p:Prf) (y x:Nat):Prop:=rx (gx p.bf (ix p.s.id x)) y=iota (ix (rx p.sz x) y).toNat∧rx (gx p.bh (ix p.t.id y)) x=iota (ix (rx p.sz x) y).toNat
def Prf.la (p:Prf) (y a b:Nat):Prop:=0≤ix (rx p.s.cs a) b→rx (gx p.bf (ix (rx p.s.cs a) b)) y=thenL (rx (gx p.bf b) y) (rx (gx p.bf a) y)
def Prf.lc (p:Prf) (x a b:Nat):Prop:=0≤ix (rx p.t.cs a) b→rx (gx p.bh (ix (rx p.t.cs a) b)) x=thenL (rx (gx p.bh a) x) (rx (gx p.bh b) x)
def Prf.ln (p:Prf) (a b:Nat):Prop:=thenL (rx (gx p.bf a) (ix p.t.fr b)) (rx (gx p.bh b) (ix p.s.fr a))=thenL (rx (gx p.bh b) (ix p.s.to a)) (rx (gx p.bf a) (ix p.t.to b))
structure Prf.Is (p:Prf):Prop where
 m:p.M
 l1:∀ y:Nat,y<p.t.id.length→(∀ x:Nat,x<p.s.id.length→p.li y x)∧∀ a:Nat,a<p.s.fr.length→∀ b:Nat,b<p.s.fr.length→p.la y a b
 l2:∀ x:Nat,x<p.s.id.length→∀ a:Nat,a<p.t.fr.length→∀ b:Nat,b<p.t.fr.length→p.lc x a b
 l3:∀ a:Nat,a<p.s.fr.length→∀ b:Nat,b<p.t.fr.length→p.ln a b
theorem Cat.Is.nums {c:Cat} (h:c.Is):0≤c.n∧c.n≤8∧c.fr.length≤40∧c.to.length=c.fr.length∧c.cs.length=c.fr.length∧(c.id.length:Int)=c.n:=⟨h.1.n0,h.1.n8,h.1.m40,h.1.lt,h.1.lc,h.1.li⟩
theorem Prf.Z.S {p:Prf} (h:p.Z) {x:Int} (hx:0≤x∧x<p.s.n):((rx p.sz x).length:Int)=p.t.n∧∀ y:Int,0≤y∧y<p.t.n→0≤ix (rx p.sz x) y∧ix (rx p.sz x) y≤64:=by
 obtain ⟨k,rfl⟩:=Int.eq_ofNat_of_zero_le hx.1;have q:=h.row k (by have:=h.ls;omega);refine ⟨q.1,fun y hy=>?_⟩;obtain ⟨j,rfl⟩:=Int.eq_ofNat_of_zero_le hy.1;exact q.2 j (by have:=q.1;omega)
theorem Prf.M.B {p:Prf} (h:p.M) {a:Int} (ha:0≤a∧a<(p.s.fr.length:Int)):((gx p.bf a).length:Int)=p.t.n∧∀ y:Int,0≤y∧y<p.t.n→MpP (rx (gx p.bf a) y) (ix (rx p.sz (ix p.s.to a)) y) (ix (rx p.sz (ix p.s.fr a)) y):=by
 obtain ⟨k,rfl⟩:=Int.eq_ofNat_of_zero_le ha.1;have q:=h.bf k (by have:=h.z.lb;omega);refine ⟨q.1,fun y hy=>?_⟩;obtain ⟨j,rfl⟩:=Int.eq_ofNat_of_zero_le hy.1;exact q.2 j (by have:=q.1;omega)
theorem Prf.M.H {p:Prf} (h:p.M) {b:Int} (hb:0≤b∧b<(p.t.fr.length:Int)):((gx p.bh b).length:Int)=p.s.n∧∀ x:Int,0≤x∧x<p.s.n→MpP (rx (gx p.bh b) x) (ix (rx p.sz x) (ix p.t.fr b)) (ix (rx p.sz x) (ix p.t.to b)):=by
 obtain ⟨k,rfl⟩:=Int.eq_ofNat_of_zero_le hb.1;have q:=h.bh k (by have:=h.z.lh;omega);refine ⟨q.1,fun x hx=>?_⟩;obtain ⟨j,rfl⟩:=Int.eq_ofNat_of_zero_le hx.1;exact q.2 j (by have:=q.1;omega)
theorem Cat.Is.ends {c:Cat} (h:c.Is) {a:Int} (ha:0≤a∧a<(c.fr.length:Int)):(0≤ix c.fr a∧ix c.fr a<c.n)∧(0≤ix c.to a∧ix c.to a<c.n):=by
 have:=h.1.fr' ha.1 ha.2;have:=h.1.to' ha.1 ha.2;have:=h.1.li;omega
theorem MpP.len {f:List Int} {m n:Int} (hf:MpP f m n) (hm:m≤64):f.length≤64:=by have:=hf.1;omega
end
section
attribute [local simp] Ql Q11 QE Q1j QW
theorem tabg {α ε β:Type} {body:List α × Int→Option (Ctl (List α × Int) ε)} {K:ε→Option β} {r:Option β} (n:Nat) (v:Nat→α) {e:ε} (hn:n<1000000)
  (h:∀ i:Nat,i<n→body (tab i v,(i:Int))=(ass ((tab i v++[v i]).length≤1073741824) <| ass (B64 ((i:Int)+1)) <| some (.next (tab i v++[v i],(i:Int)+1))))
  (he:body (tab n v,(n:Int))=some (.ret e)) (hk:K e=r):(Qy body fuel ([],0)).bind K=r:=by
 refine QY n (fun i=>tab i v) (e:=e) rfl (by omega) (fun i hi=>?_) he hk;rw [h i hi,Q4 (by simp;omega),Q4 (by unfold B64;omega),Q1u]
theorem sumL_bnd {m:Nat}:∀ {x:List (List Int)},(∀ a∈x,a.length≤m)→sumL x≤x.length * m:=by
 intro x
 induction x with
 | nil=>intro _;simp [sumL]
 | cons a r ih =>
  intro h;have h1:=h a (by simp);have h2:=ih fun b hb=>h b (by simp [hb]);simp only [sumL,List.map_cons,List.sum_cons,List.length_cons,Nat.succ_mul] at h2 ⊢;omega
theorem Qa0 {α:Type} (n:Nat) (v:Nat→α):(tab n v).take n=tab n v:=List.take_of_length_le (by simp)
def Q9l:Prf:=⟨⟨0,[],[],[],[]⟩,⟨0,[],[],[],[]⟩,[],[],[]⟩
end
section
attribute [local simp] Ql Q11 QE Q1j QW
structure PRes (p:Prf) (f g:Fn):Prop where
 m:p.M
 hf:f.Is
 hg:g.Is
 e1:f.t=p.s
 e2:g.t=p.t
structure PRF (p:Prf) (f g:Fn):Prop where
 a1:(f.ob.length:Int)=f.s.n
 a2:f.ar.length=f.s.fr.length
 a3:(g.ob.length:Int)=g.s.n
 a4:g.ar.length=g.s.fr.length
 a5:f.s.n≤8
 a6:g.s.n≤8
 a7:f.s.fr.length≤40
 a8:g.s.fr.length≤40
 b1:∀ x:Nat,x<f.ob.length→0≤ix f.ob x∧ix f.ob x<p.s.n
 b2:∀ x:Nat,x<g.ob.length→0≤ix g.ob x∧ix g.ob x<p.t.n
 b3:∀ x:Nat,x<f.ar.length→0≤ix f.ar x∧ix f.ar x<(p.s.fr.length:Int)
 b4:∀ x:Nat,x<g.ar.length→0≤ix g.ar x∧ix g.ar x<(p.t.fr.length:Int)
theorem Q6i {α:Type} {n:Nat} {v:Nat→α} {a:α} (h:a∈tab n v):∃ i,i<n∧a=v i:=by
 simp only [tab,List.mem_map,List.mem_range] at h;obtain ⟨i,hi,rfl⟩:=h;exact ⟨i,hi,rfl⟩
end
section
attribute [local simp] Ql Q11 QE Q1j QW
theorem Q5W {α ε β:Type} {body:List α × Int→Option (Ctl (List α × Int) ε)} {K:ε→Option β} {r:Option β} (xs:List Int) (q:Int→α) {e:ε} (hn:xs.length<4611686018427387904)
  (h:∀ (i:Nat) (acc:List α),i<xs.length→acc.length=i→body (acc,(i:Int))=some (.next (acc++[q (ix xs i)],(i:Int)+1)))
  (he:body (xs.map q,(xs.length:Int))=some (.ret e)) (hk:K e=r):(Qy body fuel ([],0)).bind K=r:=by
 refine QY xs.length (fun i=>(xs.take i).map q) (e:=e) (by simp) hn (fun i hi=>?_) (by simpa using he) hk;have hs:xs.take (i+1)=xs.take i++[ix xs i]:=by rw [List.take_succ_eq_append_getElem hi,Q2q _ _ hi]
 rw [h i _ hi (by simp;omega),hs];simp
end
section
attribute [local simp] Ql Q11 QE Q1j QW
theorem Q9z {n m:Nat} {p:Nat→Prop} (hm:m<n) (hp:p m) (hl:∀ k,k<m→¬ p k):fstN n p=(m:Int):=by
 rcases Q46 n p with ⟨_,h⟩|⟨k,hk,pk,e⟩
 ·exact absurd hp (h m hm)
 unfold fstN;rw [List.find?_range_eq_some.2 ⟨Q2L hp,by simpa using hm,fun j hj=>by simp [Q1n (hl j hj)]⟩];rfl
theorem fst_no {n:Nat} {p:Nat→Prop} (h:∀ i,i<n→¬ p i):fstN n p = -1:=by
 rcases Q46 n p with ⟨e,_⟩|⟨k,hk,pk,e⟩
 ·exact e
 exact absurd pk (h k hk)
theorem fstI {ε β:Type} {body:Int→Option (Ctl Int ε)} {K:ε→Option β} {r:Option β} (n:Nat) (p:Nat→Prop) (eb:Int→ε) (eg:ε) (hn:n<4611686018427387904)
  (h:∀ i:Nat,i<n→body (i:Int)=if bo (p i)=true then some (.ret (eb i)) else some (.next ((i:Int)+1))) (h3:body (n:Int)=some (.ret eg)) (hk:K (if 0≤fstN n p then eb (fstN n p) else eg)=r):(Qy body fuel 0).bind K=r:=by
 rcases Q9I n (fun i=>¬ p i) (eb:=fun i=>eb i) (eg:=eg) hn (fun i hi q=>by rw [h i hi,Q1n q];simp) (fun i hi q=>by rw [h i hi,Q2L (Classical.byContradiction q)];simp) h3 with ⟨q,e⟩|⟨m,hm,hq,hlt,e⟩
 ·rw [e,Option.bind_some,← hk,fst_no q];simp
 rw [e,Option.bind_some,← hk,Q9z hm (Classical.byContradiction hq) hlt];simp
theorem Q5E {c:Cat} {x y:Int} {i:Nat} (hi:i<(homL c x y).length):Ar c (ix (homL c x y) i) x y:=mem_ix homL_mem hi
end
section
attribute [local simp] Ql Q11 QE Q1j QW
theorem inv_iff {c:Cat} {a:Int}:0≤inv c a↔∃ g:Nat,g<c.fr.length∧Inv c a g:=by
 unfold inv;rcases Q46 c.fr.length (Inv c a) with ⟨e,h⟩|⟨k,hk,pk,e⟩
 ·rw [e];exact ⟨fun q=>by omega,fun ⟨g,hg,q⟩=>absurd q (h g hg)⟩
 rw [e];exact ⟨fun _=>⟨k,hk,pk⟩,fun _=>by omega⟩
def Io (c:Cat) (x y:Nat):Prop:=∃ a:Int,Ar c a x y∧0≤inv c a
theorem Io.symm {c:Cat} (hc:c.Is) {x y:Nat} (h:Io c x y):Io c y x:=by
 obtain ⟨a,ha,hi⟩:=h;obtain ⟨g,hg,⟨q1,q2⟩,q3,q4⟩:=inv_iff.1 hi;have n:=ha.1;refine ⟨(g:Int),⟨by omega,by rw [q1,ha.2.2],by rw [q2,ha.2.1]⟩,inv_iff.2 ⟨a.toNat,by omega,?_⟩⟩;unfold Inv;rw [Int.toNat_of_nonneg n.1,q1,q2];exact ⟨⟨rfl,rfl⟩,q4,q3⟩
structure UF (j:List Int) (r:Nat→Nat) (n:Nat):Prop where
 len:j.length=n
 b:∀ x:Nat,x<n→0≤ix j x∧ix j x≤x
 le:∀ x,x<n→r x≤x
 fix:∀ x,x<n→ix j (r x:Nat)=(r x:Int)
 st:∀ x:Nat,x<n→r (ix j x).toNat=r x
 tip:∀ x:Nat,x<n→ix j x=x→r x=x
theorem Q3f {p:List Int} {f:Int} {i:Nat} (h:i<p.length):ix (p.set i f) i=f:=by simp [ix,List.getD_eq_getElem?_getD,h]
theorem Q3g {p:List Int} {f:Int} {i j:Nat} (h:i ≠ j):ix (p.set i f) j=ix p j:=by simp [ix,List.getD_eq_getElem?_getD,List.getElem?_set,h]
theorem UF.half {j:List Int} {r:Nat→Nat} {n x:Nat} (h:UF j r n) (hx:x<n):UF (j.set x (ix j (ix j x))) r n:=by
 have b1:=h.b x hx;obtain ⟨y,hy⟩:=Int.eq_ofNat_of_zero_le b1.1;rw [hy] at b1 ⊢;have b2:=h.b y (by omega);have s1:=h.st x hx;rw [hy] at s1;have s2:=h.st y (by omega);simp only [Int.toNat_natCast] at s1;refine ⟨by simp [h.len],fun z hz=>?_,h.le,fun z hz=>?_,fun z hz=>?_,fun z hz e=>?_⟩
 ·by_cases q:x=z
  ·subst q;rw [Q3f (by rw [h.len];exact hx)];omega
  rw [Q3g q];exact h.b z hz
 ·by_cases q:x=r z
  ·rw [← q,Q3f (by rw [h.len];exact hx)];have f:=h.fix z hz;rw [← q,hy] at f;have:y=x:=(by omega);subst this;exact hy
  rw [Q3g q];exact h.fix z hz
 ·by_cases q:x=z
  ·subst q;rw [Q3f (by rw [h.len];exact hx),s2,s1]
  rw [Q3g q];exact h.st z hz
 by_cases q:x=z
 ·subst q;rw [Q3f (by rw [h.len];exact hx)] at e;exact h.tip x hx (by omega)
 rw [Q3g q] at e;exact h.tip z hz e
theorem Q8W {r:Nat→Nat} {n:Nat}:∀ (x:Nat) (j:List Int) (F:Nat),UF j r n→x<n→x<F→∃ j',Qy (σ:=List Int × Int) (ε:=List Int × Int) (fun s64 =>
        ass (0≤s64.2∧s64.2<(s64.1.length:Int)) <|
        if ¬ ((ix s64.1 s64.2)=s64.2) then
         ass (0≤s64.2∧s64.2<(s64.1.length:Int)) <|
         ass (0≤ix s64.1 s64.2∧ix s64.1 s64.2<(s64.1.length:Int)) <|
         ass (0≤s64.2∧s64.2<(s64.1.length:Int)) <|
         ass (0≤s64.2∧s64.2<((s64.1.set s64.2.toNat (ix s64.1 (ix s64.1 s64.2))).length:Int)) <|
         some (Ctl.next (s64.1.set s64.2.toNat (ix s64.1 (ix s64.1 s64.2)),ix (s64.1.set s64.2.toNat (ix s64.1 (ix s64.1 s64.2))) s64.2))
        else
         some (Ctl.ret (s64.1,s64.2))) F (j,(x:Int))=some (j',(r x:Int))∧UF j' r n:=by
 intro x
 induction x using Nat.strongRecOn with
 | _ x ih =>
  intro j F h hx hF;obtain ⟨F,rfl⟩:∃ F',F=F' + 1:=⟨F - 1,by omega⟩;have b1:=h.b x hx;have hl:=h.len;simp only [Qy];rw [Q4 (by omega)]
  by_cases q:ix j x=x
  ·rw [if_neg (by simp [q])];exact ⟨j,by rw [h.tip x hx q],h⟩
  rw [if_pos q,Q4 (by omega),Q4 (by omega),Q4 (by omega),Q4 (by simp;omega)];obtain ⟨y,hy⟩:=Int.eq_ofNat_of_zero_le b1.1;have b2:=h.b y (by omega);obtain ⟨z,hz⟩:=Int.eq_ofNat_of_zero_le b2.1;have s1:=h.st x hx;rw [hy] at s1;simp only [Int.toNat_natCast] at s1;have s2:=h.st y (by omega);rw [hz] at s2;simp only [Int.toNat_natCast] at s2;have hh:=h.half hx;simp only [Int.toNat_natCast];rw [Q3f (by omega),hy,hz];rw [hy,hz] at hh;rw [show r x=r z by rw [s2,s1]];exact ih z (by omega) _ F hh (by omega) (by omega)
theorem UF.join {j:List Int} {r:Nat→Nat} {n a b:Nat} (h:UF j r n) (ha:a<n) (hb:b<n) (ra:r a=a) (rb:r b=b) (hab:a≤b):UF (j.set b a) (fun z=>if r z=b then a else r z) n:=by
 have fa:=h.fix a ha;have fb:=h.fix b hb;rw [ra] at fa;rw [rb] at fb;refine ⟨by simp [h.len],fun z hz=>?_,fun z hz=>?_,fun z hz=>?_,fun z hz=>?_,fun z hz e=>?_⟩
 ·by_cases q:b=z
  ·subst q;rw [Q3f (by rw [h.len];exact hb)];omega
  rw [Q3g q];exact h.b z hz
 ·have:=h.le z hz;split<;>omega
 ·split
  ·by_cases q:b=a
   ·subst q;rw [Q3f (by rw [h.len];exact hb)]
   rw [Q3g q];exact fa
  rename_i q;rw [Q3g (fun e=>q e.symm)];exact h.fix z hz
 ·by_cases q:b=z
  ·subst q;rw [Q3f (by rw [h.len];exact hb),Int.toNat_natCast,ra,rb,if_pos rfl];split<;>rfl
  rw [Q3g q,h.st z hz]
 by_cases q:b=z
 ·subst q;rw [Q3f (by rw [h.len];exact hb)] at e;rw [rb,if_pos rfl];omega
 rw [Q3g q] at e;rw [h.tip z hz e,if_neg (fun x=>q x.symm)]
end
attribute [local simp] unk unA unE unT unC flat eL eI Qr
noncomputable def Q1b (p0_:List Int) (p1_:Int):Option Int :=
 (Qy (σ:=Int) (ε:=Unit ⊕ Int) (fun s6 =>
  if s6<(p0_.length:Int) then
   ass (0≤s6∧s6<(p0_.length:Int)) <|
   if p1_=(ix p0_ s6) then
    some (Ctl.ret (Sum.inr s6))
   else
    ass (B64 (s6+1)) <|
    some (Ctl.next (s6+1))
  else
   some (Ctl.ret (Sum.inl ()))) fuel 0).bind fun e1 =>
 match e1 with
 | .inl b1 =>
  some (-1)
 | .inr p1 =>
  some p1
theorem wkQ9 {F : Fx} {st st' : St} (m : List (Nat × Nat)) (h : (m.map Prod.fst).Nodup ∧ (m.map Prod.snd).Nodup ∧ (∀ id, id < F.pins → look id m = some id) ∧ (∀ p ∈ m, p.2 < st'.n) ∧ (∀ p ∈ st'.h, p.1 < st'.n) ∧ (∀ p ∈ st'.s, p.2 = rl m (st.get p.1) ∨ p.2 = .bot) ∧ ∀ p ∈ st'.h, hhOk m st.h p.1 p.2 := by simp [hP, hhOk, back, idQ, UA, U1, IA, I1, LA, L1, BA, B1, EA, E1, E2, eB, eI, eL, Prf.cells, XTripleint64.cells, Q8 _ Q9 _ (fun _=>rfl), Q8 _ (XTripleint64.cells true) _ (fun _=>rfl), Cat.cells]) : Wk F st st' := Wk.r1 m h
theorem wkI9 {F : Fx} {st st' : St} (m : Nat) (h : ((idQ m).map Prod.fst).Nodup ∧ ((idQ m).map Prod.snd).Nodup ∧ (∀ id, id < F.pins → look id (idQ m) = some id) ∧ (∀ p ∈ (idQ m), p.2 < st'.n) ∧ (∀ p ∈ st'.h, p.1 < st'.n) ∧ (∀ p ∈ st'.s, p.2 = rl (idQ m) (st.get p.1) ∨ p.2 = .bot) ∧ ∀ p ∈ st'.h, hhOk (idQ m) st.h p.1 p.2 := by simp [hP, hhOk, back, idQ, UA, U1, IA, I1, LA, L1, BA, B1, EA, E1, E2, eB, eI, eL, Prf.cells, XTripleint64.cells, Q8 _ Q9 _ (fun _=>rfl), Q8 _ (XTripleint64.cells true) _ (fun _=>rfl), Cat.cells]) : Wk F st st' := Wk.r1 (idQ m) h
theorem Q3M (p0_:List Int) (p1_:Int) (r:Int) (h:Q1b p0_ p1_=some r):Contract Tryz.prog 74 [lI p0_,iV p1_] (iV r):=by
 refine Qc (rvs:=[.tmp 4]) (rs:=[iV r]) Tryz.func74 rfl rfl rfl rfl (by simp [Tryz.f74]) fun F hN hP=>?_;unfold Q1b at h;refine Q3 (runQ hN fun K hK=>?_);simp;repeat refine sdQ ?_
 refine hK _ ?_;clear hK K;refine tn (Q7 (st':=⟨[(0,lI p0_),(1,iV p1_)],[],0⟩) (wkQ9 []) (Q3 (Q3 (runQ hN fun K hK=>?_))));simp;repeat refine sdQ ?_
 refine hK _ (tn (Q7 (st':=⟨[(0,lI p0_),(1,iV p1_),(7,iV (p0_.length:Int)),(8,iV 0)],[],0⟩) (wkQ9 []) ?_));clear hK K;replace ⟨e1,h,h1⟩:=bind_some h;refine Qg (fun b1:Unit=>⟨[],[],0⟩) (fun b1=>Sum.inl b1=e1) ?_ ?_
 ·refine Qa (Qn h (fun s6:Int=>⟨[(0,lI p0_),(1,iV p1_),(7,iV (p0_.length:Int)),(8,iV s6)],[],0⟩) (wkQ9 []) ?_);clear h;intro k6 s6 c6 h hk6;refine Q3 (runQ hN fun K hK=>?_);simp;repeat refine sdQ ?_
  refine hK _ ?_;clear hK K;refine tn (Q3 (Qd rfl (fun g=>?_) fun g=>?_))
  ·have g7:s6<(p0_.length:Int):=gQ;clear g;replace h:=if_l g7 h;refine Qe (tn (Q3 (Qa (Q3 (runQ hN fun K hK=>?_)))));simp;(repeat refine sdQ ?_);refine hK _ ?_;clear hK K;refine tn (Q7 (st':=⟨[(0,lI p0_),(1,iV p1_),(5,iV s6),(7,iV (p0_.length:Int)),(8,iV s6)],[],0⟩) (wkQ9 []) (Q3 (runQ hN fun K hK=>?_)));replace ⟨a8,h⟩:=Q0 h;simp [at_I a8];(repeat refine sdQ ?_);refine hK _ ?_;clear hK K;refine tn (Qd rfl (fun g=>?_) fun g=>?_)
   ·have g9:p1_=(ix p0_ s6):=gQ;clear g;replace h:=if_l g9 h;refine Q3 (runQ hN fun K hK=>?_);simp;(repeat refine sdQ ?_);refine hK _ (tn (Q7 (st':=⟨[(4,iV s6)],[],0⟩) (wkQ9 []) (Qo (br (tr (lr (br (tr ?_))))))));clear hK K;cases h;have q:_=e1:=hk6;have h:=h1;rw [← q] at h;clear q;(try dsimp only at h);have hr:=Option.some.inj h;rw [← hr];refine ⟨_,(.tmp .nil),?_⟩;refine ⟨(.one rfl rfl .nil),[iV s6],[],by simp [UA,U1,IA,I1,LA,L1,BA,B1,EA,E1,E2,eB,eI,eL],by simp,(UpL.refl _)⟩
   have g9:¬ (p1_=(ix p0_ s6)):=gQ;clear g;replace h:=if_r g9 h;refine Qe (bn (tn (runQ hN fun K hK=>?_)));replace ⟨a10,h⟩:=Q0 h;simp [Qh a10];(repeat refine sdQ ?_);refine hK _ ?_;clear hK K;cases h;exact rn (s':=s6+1) hk6 (wkQ9 [])
  have g7:¬ (s6<(p0_.length:Int)):=gQ;clear g;replace h:=if_r g7 h;refine Qm (tx (lx (bh ?_)));cases h;exact jn (b:=()) hk6 (wkQ9 [])
 intro b1 hb1;have h:=h1;try rw [← hb1] at h
 clear h1;try dsimp only at h
 refine Q3 (runQ hN fun K hK=>?_);simp;repeat refine sdQ ?_
 refine hK _ (tn (Q7 (st':=⟨[(4,iV (-1))],[],0⟩) (wkQ9 []) (Qo ?_)));clear hK K;have hr:=Option.some.inj h;rw [← hr];refine ⟨_,(.tmp .nil),?_⟩;refine ⟨(.one rfl rfl .nil),[iV (-1)],[],by simp [UA,U1,IA,I1,LA,L1,BA,B1,EA,E1,E2,eB,eI,eL],by simp,(UpL.refl _)⟩
attribute [local simp] unk unA unE unT unC flat eL eI Qr
noncomputable def Q1I (p0_:List Int) (p1_:Int):Option Int :=
 (Q1b p0_ p1_).bind fun v1 =>
 some v1
theorem Q3L (p0_:List Int) (p1_:Int) (r:Int) (h:Q1I p0_ p1_=some r):Contract Tryz.prog 36 [lI p0_,iV p1_] (iV r):=by
 refine Qc (rvs:=[.tmp 4]) (rs:=[iV r]) Tryz.func36 rfl rfl rfl rfl (by simp [Tryz.f36]) fun F hN hP=>?_;unfold Q1I at h;refine Q3 (runQ hN fun K hK=>?_);simp;repeat refine sdQ ?_
 refine hK _ ?_;clear hK K;refine tn (Q7 (st':=⟨[(0,lI p0_),(1,iV p1_)],[],0⟩) (wkQ9 []) (Q3 (runQ hN fun K hK=>?_)));simp;repeat with_reducible refine sdQ ?_
 replace ⟨v1,hv1,h⟩:=bind_some h;refine Q6 (Q3M _ _ v1 hv1) (.cons .lst (.cons .val .nil)) ?_;simp;repeat refine sdQ ?_
 refine hK _ (tn (Q7 (st':=⟨[(4,iV v1)],[],0⟩) (wkQ9 []) (Qo ?_)));clear hK K;have hr:=Option.some.inj h;rw [← hr];refine ⟨_,(.tmp .nil),?_⟩;refine ⟨(.one rfl rfl .nil),[iV v1],[],by simp [UA,U1,IA,I1,LA,L1,BA,B1,EA,E1,E2,eB,eI,eL],by simp,(UpL.refl _)⟩
attribute [local simp] unk unA unE unT unC flat eL eI Qr
noncomputable def Q3X (labels_:List Int):Option (List Int) :=
 ass (0≤(labels_.length:Int)∧(labels_.length:Int)≤1073741824) <|
 (Qy (σ:=(List (Int × Int)) × List Int × Int) (ε:=List Int) (fun s10 =>
  if s10.2.2<(labels_.length:Int) then
   ass (0≤s10.2.2∧s10.2.2<(labels_.length:Int)) <|
   (
    if ¬ (((Q1X (ix labels_ s10.2.2) s10.1).isSome)=true) then
     ass (s10.1.length<1099511627776) <|
     some (tset (ix labels_ s10.2.2) (s10.1.length:Int) s10.1,(s10.1.length:Int))
    else
     some (s10.1,(Q1X (ix labels_ s10.2.2) s10.1).getD 0):Option ((List (Int × Int)) × Int)).bind fun b13 =>
   ass (0≤s10.2.2∧s10.2.2<(s10.2.1.length:Int)) <|
   ass (B64 (s10.2.2+1)) <|
   some (Ctl.next (b13.1,s10.2.1.set s10.2.2.toNat b13.2,s10.2.2+1))
  else
   some (Ctl.ret s10.2.1)) fuel ([],List.replicate ((labels_.length:Int).toNat) 0,0)).bind fun b2 =>
 some b2
theorem QaD (labels_:List Int) (r:List Int) (h:Q3X labels_=some r):Contract Tryz.prog 108 [lI labels_] (lI r):=by
 refine Qc (rvs:=[.tmp 2]) (rs:=[lI r]) Tryz.func108 rfl rfl rfl rfl (by simp [Tryz.f108]) fun F hN hP=>?_;unfold Q3X at h;refine Q3 (runQ hN fun K hK=>?_);simp;repeat refine sdQ ?_
 refine hK _ ?_;clear hK K;refine tn (Q7 (st':=⟨[(0,lI labels_)],[],0⟩) (wkQ9 []) (Q3 (QG [] mo (by rw [hN];decide) fun K hK=>?_)));simp;repeat refine sdQ ?_
 refine hK _ ?_;clear hK K;refine tn (Q7 (st':=⟨[(0,lI labels_),(3,.mp 0)],[(0,.mapE (.int .i64) (Mii []))],1⟩) (wkQ9 [(0,0)]) (Q3 (runQ hN fun K hK=>?_)));replace ⟨a1,h⟩:=Q0 h;simp;repeat refine sdQ ?_
 refine hK _ ?_;clear hK K;refine tn (Q7 (st':=⟨[(0,lI labels_),(3,.mp 0),(4,.own 1 0 ((List.replicate ((labels_.length:Int).toNat) 0).length))],[(0,.mapE (.int .i64) (Mii [])),(1,rI (List.replicate ((labels_.length:Int).toNat) 0))],2⟩) (wkQ9 [(0,0),(1,1)]) (Q3 (Q3 (runQ hN fun K hK=>?_))));simp;repeat refine sdQ ?_
 refine hK _ (tn (Q7 (st':=⟨[(3,.mp 0),(4,.own 1 0 ((List.replicate ((labels_.length:Int).toNat) 0).length)),(13,lI labels_),(14,iV (labels_.length:Int)),(15,iV 0)],[(0,.mapE (.int .i64) (Mii [])),(1,rI (List.replicate ((labels_.length:Int).toNat) 0))],2⟩) (wkQ9 [(0,0),(1,1)]) ?_));clear hK K;replace ⟨e2,h,h2⟩:=bind_some h;refine Qg (fun b2:List Int=>⟨[(4,.own 0 0 b2.length)],[(0,rI b2)],1⟩) (fun b2=>b2=e2) ?_ ?_
 ·refine Qa (Qn h (fun s10:(List (Int × Int)) × List Int × Int=>⟨[(3,.mp 0),(4,.own 1 0 s10.2.1.length),(13,lI labels_),(14,iV (labels_.length:Int)),(15,iV s10.2.2)],[(0,.mapE (.int .i64) (Mii s10.1)),(1,rI s10.2.1)],2⟩) (wkQ9 [(0,0),(1,1)]) ?_);clear h;intro k10 s10 c10 h hk10;refine Q3 (runQ hN fun K hK=>?_);simp;repeat refine sdQ ?_
  refine hK _ ?_;clear hK K;refine tn (Q3 (Qd rfl (fun g=>?_) fun g=>?_))
  ·have g11:s10.2.2<(labels_.length:Int):=gQ;clear g;replace h:=if_l g11 h;refine Qe (tn (Q3 (Qa (Q3 (runQ hN fun K hK=>?_)))));replace ⟨a12,h⟩:=Q0 h;simp [at_I a12];(repeat refine sdQ ?_);refine hK _ ?_;clear hK K;refine tn (Q7 (st':=⟨[(3,.mp 0),(4,.own 1 0 s10.2.1.length),(5,iV s10.2.2),(6,iV (ix labels_ s10.2.2)),(13,lI labels_),(14,iV (labels_.length:Int)),(15,iV s10.2.2)],[(0,.mapE (.int .i64) (Mii s10.1)),(1,rI s10.2.1)],2⟩) (wkQ9 [(0,0),(1,1)]) (Q3 (QG [] mo (by rw [hN];decide) fun K hK=>?_)));simp;(repeat refine sdQ ?_);refine hK _ ?_;clear hK K;refine tn (Q7 (st':=⟨[(3,.mp 0),(4,.own 1 0 s10.2.1.length),(5,iV s10.2.2),(6,iV (ix labels_ s10.2.2)),(7,iV ((Q1X (ix labels_ s10.2.2) s10.1).getD 0)),(8,.val (.bool ((Q1X (ix labels_ s10.2.2) s10.1).isSome))),(13,lI labels_),(14,iV (labels_.length:Int)),(15,iV s10.2.2)],[(0,.mapE (.int .i64) (Mii s10.1)),(1,rI s10.2.1)],2⟩) (wkQ9 [(0,0),(1,1)]) (Q3 (Q3 (runQ hN fun K hK=>?_))));simp;(repeat refine sdQ ?_);refine hK _ (tn ?_);clear hK K;replace ⟨e13,h,h13⟩:=bind_some h;refine Qg (fun b13:(List (Int × Int)) × Int=>⟨[(3,.mp 0),(4,.own 1 0 s10.2.1.length),(5,iV s10.2.2),(7,iV b13.2),(13,lI labels_),(14,iV (labels_.length:Int)),(15,iV s10.2.2)],[(0,.mapE (.int .i64) (Mii b13.1)),(1,rI s10.2.1)],2⟩) (fun b13=>b13=e13) ?_ ?_
   ·refine Qd rfl (fun g=>?_) fun g=>?_
    ·have g14:¬ (((Q1X (ix labels_ s10.2.2) s10.1).isSome)=true):=gQ;clear g;replace h:=if_l g14 h;refine Q3 (QG [29] mo (by rw [hN];decide) fun K hK=>?_);simp;(repeat refine sdQ ?_);refine hK _ ?_;clear hK K;refine tn (Q7 (st':=⟨[(3,.mp 0),(4,.own 1 0 s10.2.1.length),(5,iV s10.2.2),(6,iV (ix labels_ s10.2.2)),(7,iV (s10.1.length:Int)),(13,lI labels_),(14,iV (labels_.length:Int)),(15,iV s10.2.2)],[(0,.mapE (.int .i64) (Mii s10.1)),(1,rI s10.2.1)],2⟩) (wkQ9 [(0,0),(1,1)]) (QG [] mo (by rw [hN];decide) fun K hK=>?_));replace ⟨a15,h⟩:=Q0 h;simp [a15];(repeat refine sdQ ?_);refine hK _ ?_;clear hK K;exact jn (b:=(tset (ix labels_ s10.2.2) (s10.1.length:Int) s10.1,(s10.1.length:Int))) (Option.some.inj h) (wkQ9 [(0,0),(1,1)])
    have g14:¬ (¬ (((Q1X (ix labels_ s10.2.2) s10.1).isSome)=true)):=by first|simpa using g|(simp at g;exact g)|(simp at g;omega)|exact fun q=>q (by simpa using g)
    clear g;replace h:=if_r g14 h;refine Qe ?_;exact jn (b:=(s10.1,(Q1X (ix labels_ s10.2.2) s10.1).getD 0)) (Option.some.inj h) (wkQ9 [(0,0),(1,1)])
   intro b13 hb13;have h:=h13;(try rw [← hb13] at h);clear h13;(try dsimp only at h);refine runQ hN fun K hK=>?_;replace ⟨a16,h⟩:=Q0 h;simp [at_I a16];(repeat refine sdQ ?_);refine hK _ ?_;clear hK K;refine bn (tn (Q7 (st':=⟨[(3,.mp 0),(4,.own 1 0 ((s10.2.1.set s10.2.2.toNat b13.2).length)),(13,lI labels_),(14,iV (labels_.length:Int)),(15,iV s10.2.2)],[(0,.mapE (.int .i64) (Mii b13.1)),(1,rI (s10.2.1.set s10.2.2.toNat b13.2))],2⟩) (wkQ9 [(0,0),(1,1)]) (runQ hN fun K hK=>?_)));replace ⟨a17,h⟩:=Q0 h;simp [Qh a17];(repeat refine sdQ ?_);refine hK _ ?_;clear hK K;cases h;exact rn (s':=(b13.1,s10.2.1.set s10.2.2.toNat b13.2,s10.2.2+1)) hk10 (wkQ9 [(0,0),(1,1)])
  have g11:¬ (s10.2.2<(labels_.length:Int)):=gQ;clear g;replace h:=if_r g11 h;refine Qm (tx (lx (bh ?_)));cases h;exact jn (b:=s10.2.1) hk10 (wkQ9 [(1,0)])
 intro b2 hb2;have h:=h2;try rw [← hb2] at h
 clear h2;try dsimp only at h
 refine Q3 (runQ hN fun K hK=>?_);simp;repeat refine sdQ ?_
 refine hK _ (tn (Q7 (st':=⟨[(2,.own 0 0 b2.length)],[(0,rI b2)],1⟩) (wkQ9 [(0,0)]) (Qo ?_)));clear hK K;have hr:=Option.some.inj h;rw [← hr];refine ⟨_,(.tmp .nil),?_⟩;refine ⟨(.one rfl rfl .nil),[lI b2],[0],by simp [UA,U1,IA,I1,LA,L1,BA,B1,EA,E1,E2,eB,eI,eL],by simp,(UpL.refl _)⟩
attribute [local simp] unk unA unE unT unC flat eL eI Qr
noncomputable def Q1Q (list_:List Int) (n_:Int):Option Int :=
 (Qy (σ:=Int) (ε:=Unit ⊕ Int) (fun s6 =>
  if s6<(list_.length:Int) then
   ass (0≤s6∧s6<(list_.length:Int)) <|
   if (ix list_ s6)=n_ then
    some (Ctl.ret (Sum.inr s6))
   else
    ass (B64 (s6+1)) <|
    some (Ctl.next (s6+1))
  else
   some (Ctl.ret (Sum.inl ()))) fuel 0).bind fun e1 =>
 match e1 with
 | .inl b1 =>
  some (-1)
 | .inr p1 =>
  some p1
theorem Q3G (list_:List Int) (n_:Int) (r:Int) (h:Q1Q list_ n_=some r):Contract Tryz.prog 24 [lI list_,iV n_] (iV r):=by
 refine Qc (rvs:=[.tmp 4]) (rs:=[iV r]) Tryz.func24 rfl rfl rfl rfl (by simp [Tryz.f24]) fun F hN hP=>?_;unfold Q1Q at h;refine Q3 (runQ hN fun K hK=>?_);simp;repeat refine sdQ ?_
 refine hK _ ?_;clear hK K;refine tn (Q7 (st':=⟨[(0,lI list_),(1,iV n_)],[],0⟩) (wkQ9 []) (Q3 (Q3 (runQ hN fun K hK=>?_))));simp;repeat refine sdQ ?_
 refine hK _ (tn (Q7 (st':=⟨[(0,lI list_),(1,iV n_),(5,iV 0)],[],0⟩) (wkQ9 []) ?_));clear hK K;replace ⟨e1,h,h1⟩:=bind_some h;refine Qg (fun b1:Unit=>⟨[],[],0⟩) (fun b1=>Sum.inl b1=e1) ?_ ?_
 ·refine Qa (Qn h (fun s6:Int=>⟨[(0,lI list_),(1,iV n_),(5,iV s6)],[],0⟩) (wkQ9 []) ?_);clear h;intro k6 s6 c6 h hk6;refine Q3 (Q3 (runQ hN fun K hK=>?_));simp;repeat refine sdQ ?_
  refine hK _ ?_;clear hK K;refine tn (Qd rfl (fun g=>?_) fun g=>?_)
  ·have g7:s6<(list_.length:Int):=gQ;clear g;replace h:=if_l g7 h;refine Qe (tn (Q3 (Qa (Q3 (runQ hN fun K hK=>?_)))));replace ⟨a8,h⟩:=Q0 h;simp [at_I a8];(repeat refine sdQ ?_);refine hK _ ?_;clear hK K;refine tn (Qd rfl (fun g=>?_) fun g=>?_)
   ·have g9:(ix list_ s6)=n_:=gQ;clear g;replace h:=if_l g9 h;refine Q3 (runQ hN fun K hK=>?_);simp;(repeat refine sdQ ?_);refine hK _ (tn (Q7 (st':=⟨[(4,iV s6)],[],0⟩) (wkQ9 []) (Qo (br (tr (lr (br (tr ?_))))))));clear hK K;cases h;have q:_=e1:=hk6;have h:=h1;rw [← q] at h;clear q;(try dsimp only at h);have hr:=Option.some.inj h;rw [← hr];refine ⟨_,(.tmp .nil),?_⟩;refine ⟨(.one rfl rfl .nil),[iV s6],[],by simp [UA,U1,IA,I1,LA,L1,BA,B1,EA,E1,E2,eB,eI,eL],by simp,(UpL.refl _)⟩
   have g9:¬ ((ix list_ s6)=n_):=gQ;clear g;replace h:=if_r g9 h;refine Qe (bn (tn (runQ hN fun K hK=>?_)));replace ⟨a10,h⟩:=Q0 h;simp [Qh a10];(repeat refine sdQ ?_);refine hK _ ?_;clear hK K;cases h;exact rn (s':=s6+1) hk6 (wkQ9 [])
  have g7:¬ (s6<(list_.length:Int)):=gQ;clear g;replace h:=if_r g7 h;refine Qm (tx (lx (bh ?_)));cases h;exact jn (b:=()) hk6 (wkQ9 [])
 intro b1 hb1;have h:=h1;try rw [← hb1] at h
 clear h1;try dsimp only at h
 refine Q3 (runQ hN fun K hK=>?_);simp;repeat refine sdQ ?_
 refine hK _ (tn (Q7 (st':=⟨[(4,iV (-1))],[],0⟩) (wkQ9 []) (Qo ?_)));clear hK K;have hr:=Option.some.inj h;rw [← hr];refine ⟨_,(.tmp .nil),?_⟩;refine ⟨(.one rfl rfl .nil),[iV (-1)],[],by simp [UA,U1,IA,I1,LA,L1,BA,B1,EA,E1,E2,eB,eI,eL],by simp,(UpL.refl _)⟩
attribute [local simp] unk unA unE unT unC flat eL eI Qr
noncomputable def Q2f (labels_:List Int):Option (List Int) :=
 (Qy (σ:=List Int × List Int × Int) (ε:=List Int) (fun s11 =>
  if s11.2.2<(labels_.length:Int) then
   ass (0≤s11.2.2∧s11.2.2<(labels_.length:Int)) <|
   (Q1Q s11.2.1 (ix labels_ s11.2.2)).bind fun v14 =>
   (
    if v14<0 then
     ass (0≤s11.2.2∧s11.2.2<(labels_.length:Int)) <|
     ass ((s11.2.1++[ix labels_ s11.2.2]).length≤1073741824) <|
     some (s11.2.1++[ix labels_ s11.2.2],(s11.2.1.length:Int))
    else
     some (s11.2.1,v14):Option (List Int × Int)).bind fun b15 =>
   ass ((s11.1++[b15.2]).length≤1073741824) <|
   ass (B64 (s11.2.2+1)) <|
   some (Ctl.next (s11.1++[b15.2],b15.1,s11.2.2+1))
  else
   some (Ctl.ret s11.1)) fuel ([],[],0)).bind fun b1 =>
 some b1
theorem Q6K (labels_:List Int) (r:List Int) (h:Q2f labels_=some r):Contract Tryz.prog 102 [lI labels_] (lI r):=by
 refine Qc (rvs:=[.tmp 2]) (rs:=[lI r]) Tryz.func102 rfl rfl rfl rfl (by simp [Tryz.f102]) fun F hN hP=>?_;unfold Q2f at h;refine Q3 (runQ hN fun K hK=>?_);simp;repeat refine sdQ ?_
 refine hK _ ?_;clear hK K;refine tn (Q7 (st':=⟨[(0,lI labels_)],[],0⟩) (wkQ9 []) (Q3 (runQ hN fun K hK=>?_)));simp;repeat refine sdQ ?_
 refine hK _ ?_;clear hK K;refine tn (Q7 (st':=⟨[(0,lI labels_),(3,.own 0 0 0),(4,.own 1 0 0)],[(0,.mix 1 []),(1,.mix 1 [])],2⟩) (wkQ9 [(0,0),(1,1)]) (Q3 (Q3 (runQ hN fun K hK=>?_))));simp;repeat refine sdQ ?_
 refine hK _ (tn (Q7 (st':=⟨[(0,lI labels_),(3,.own 0 0 0),(4,.own 1 0 0),(5,iV 0)],[(0,.mix 1 []),(1,.mix 1 [])],2⟩) (wkQ9 [(0,0),(1,1)]) ?_));clear hK K;replace ⟨e1,h,h1⟩:=bind_some h;refine Qg (fun b1:List Int=>⟨[(3,.own 0 0 b1.length)],[(0,rI b1)],1⟩) (fun b1=>b1=e1) ?_ ?_
 ·refine Qa (Qn h (fun s11:List Int × List Int × Int=>⟨[(0,lI labels_),(3,.own 0 0 s11.1.length),(4,.own 1 0 s11.2.1.length),(5,iV s11.2.2)],[(0,rI s11.1),(1,rI s11.2.1)],2⟩) (Q1J ⟨[(0,lI labels_),(3,.own 0 0 0),(4,.own 1 0 0),(5,iV 0)],[(0,rI []),(1,rI [])],2⟩ (Wk.nils [] (by simp) (by simp) (by simp [nlA]) (by simp [entN,nlL,nlA,UA,U1,IA,I1,LA,L1,BA,B1,EA,E1,E2,eB,eI,eL]) (by simp)) (wkQ9 [(0,0),(1,1)])) ?_);clear h;intro k11 s11 c11 h hk11;refine Q3 (Q3 (runQ hN fun K hK=>?_));simp;repeat refine sdQ ?_
  refine hK _ ?_;clear hK K;refine tn (Qd rfl (fun g=>?_) fun g=>?_)
  ·have g12:s11.2.2<(labels_.length:Int):=gQ;clear g;replace h:=if_l g12 h;refine Qe (tn (Q3 (Qa (Q3 (runQ hN fun K hK=>?_)))));replace ⟨a13,h⟩:=Q0 h;simp [at_I a13];(repeat with_reducible refine sdQ ?_);replace ⟨v14,hv14,h⟩:=bind_some h;refine Q6 (Q3G _ _ v14 hv14) (.cons .w (.cons .val .nil)) ?_;simp [at_I a13];(repeat refine sdQ ?_);refine hK _ ?_;clear hK K;refine tn (Q7 (st':=⟨[(0,lI labels_),(3,.own 0 0 s11.1.length),(4,.own 1 0 s11.2.1.length),(5,iV s11.2.2),(6,iV v14)],[(0,rI s11.1),(1,rI s11.2.1)],2⟩) (wkQ9 [(0,0),(1,1)]) (Q3 (Q3 (runQ hN fun K hK=>?_))));simp;(repeat refine sdQ ?_);refine hK _ (tn ?_);clear hK K;replace ⟨e15,h,h15⟩:=bind_some h;refine Qg (fun b15:List Int × Int=>⟨[(0,lI labels_),(3,.own 0 0 s11.1.length),(4,.own 1 0 b15.1.length),(5,iV s11.2.2),(6,iV b15.2)],[(0,rI s11.1),(1,rI b15.1)],2⟩) (fun b15=>b15=e15) ?_ ?_
   ·refine Qd rfl (fun g=>?_) fun g=>?_
    ·have g16:v14<0:=gQ;clear g;replace h:=if_l g16 h;refine Q3 (runQ hN fun K hK=>?_);simp;(repeat refine sdQ ?_);refine hK _ ?_;clear hK K;refine tn (Q7 (st':=⟨[(0,lI labels_),(3,.own 0 0 s11.1.length),(4,.own 1 0 s11.2.1.length),(5,iV s11.2.2),(6,iV (s11.2.1.length:Int))],[(0,rI s11.1),(1,rI s11.2.1)],2⟩) (wkQ9 [(0,0),(1,1)]) (runQ hN fun K hK=>?_));replace ⟨a17,h⟩:=Q0 h;replace ⟨a18,h⟩:=Q0 h;(try simp only [List.length_append,List.length_cons,List.length_nil] at a18);simp [at_I a17,a18];(repeat refine sdQ ?_);refine hK _ ?_;clear hK K;exact jn (b:=(s11.2.1++[ix labels_ s11.2.2],(s11.2.1.length:Int))) (Option.some.inj h) (wkQ9 [(0,0),(3,1)])
    have g16:¬ (v14<0):=gQ;clear g;replace h:=if_r g16 h;refine Qe ?_;exact jn (b:=(s11.2.1,v14)) (Option.some.inj h) (wkQ9 [(0,0),(1,1)])
   intro b15 hb15;have h:=h15;(try rw [← hb15] at h);clear h15;(try dsimp only at h);refine runQ hN fun K hK=>?_;replace ⟨a19,h⟩:=Q0 h;(try simp only [List.length_append,List.length_cons,List.length_nil] at a19);simp [a19];(repeat refine sdQ ?_);refine hK _ ?_;clear hK K;refine bn (tn (Q7 (st':=⟨[(0,lI labels_),(3,.own 0 0 ((s11.1++[b15.2]).length)),(4,.own 1 0 b15.1.length),(5,iV s11.2.2)],[(0,rI (s11.1++[b15.2])),(1,rI b15.1)],2⟩) (wkQ9 [(3,0),(1,1)]) (runQ hN fun K hK=>?_)));replace ⟨a20,h⟩:=Q0 h;simp [Qh a20];(repeat refine sdQ ?_);refine hK _ ?_;clear hK K;cases h;exact rn (s':=(s11.1++[b15.2],b15.1,s11.2.2+1)) hk11 (wkQ9 [(0,0),(1,1)])
  have g12:¬ (s11.2.2<(labels_.length:Int)):=gQ;clear g;replace h:=if_r g12 h;refine Qm (tx (lx (bh ?_)));cases h;exact jn (b:=s11.1) hk11 (wkQ9 [(0,0)])
 intro b1 hb1;have h:=h1;try rw [← hb1] at h
 clear h1;try dsimp only at h
 refine Q3 (runQ hN fun K hK=>?_);simp;repeat refine sdQ ?_
 refine hK _ (tn (Q7 (st':=⟨[(2,.own 0 0 b1.length)],[(0,rI b1)],1⟩) (wkQ9 [(0,0)]) (Qo ?_)));clear hK K;have hr:=Option.some.inj h;rw [← hr];refine ⟨_,(.tmp .nil),?_⟩;refine ⟨(.one rfl rfl .nil),[lI b1],[0],by simp [UA,U1,IA,I1,LA,L1,BA,B1,EA,E1,E2,eB,eI,eL],by simp,(UpL.refl _)⟩
section
attribute [local simp] Ql Q11 QE Q1j QW
theorem flt_pre {p:Nat→Prop} {y:Nat} (hp:p y):∀ i,y<i→∃ s,flt i p=flt y p++(y:Int) :: s:=by
 intro i
 induction i with
 | zero=>intro h;omega
 | succ i ih =>
  intro h
  by_cases q:y=i
  ·subst q;exact ⟨[],by rw [Q6d hp]⟩
  obtain ⟨s,e⟩:=ih (by omega)
  by_cases hi:p i
  ·exact ⟨s++[(i:Int)],by rw [Q6d hi,e];simp⟩
  exact ⟨s,by rw [Q6c hi,e]⟩
noncomputable def cn (r:Nat→Nat) (k:Nat):Nat:=(flt k fun y=>r y=y).length
theorem cn_pos {r:Nat→Nat} {k:Nat} (h:r k=k):cn r (k+1)=cn r k+1:=by unfold cn;rw [Q6d (p:=fun y=>r y=y) h];simp
theorem cn_neg {r:Nat→Nat} {k:Nat} (h:¬ r k=k):cn r (k+1)=cn r k:=by unfold cn;rw [Q6c (p:=fun y=>r y=y) h]
theorem cn_le (r:Nat→Nat) (k:Nat):cn r k≤k:=Q8G _ _
noncomputable def cls (r:Nat→Nat) (n:Nat):List Int:=tab n fun x=>(cn r (r x):Int)
noncomputable def lds (r:Nat→Nat) (n:Nat):List Int:=flt n fun y=>r y=y
noncomputable def idxL (L:List Int) (v:Int):Int:=fstN L.length fun i=>ix L i=v
theorem Q5U {L:List Int} {v:Int} (hl:L.length≤1000000):Q1Q L v=some (idxL L v):=by
 unfold Q1Q;refine fstI L.length (fun i=>ix L i=v) (fun i=>Sum.inr i) (Sum.inl ()) (by omega) (fun i hi=>?_) (by rw [if_neg (by omega)]) ?_
 ·rw [if_pos (by omega),Q4 (by omega)]
  by_cases q:ix L i=v
  ·rw [if_pos q,Q2L q];rfl
  rw [if_neg q,Q1n q,Q4 (by unfold B64;omega)];rfl
 unfold idxL;rcases Q46 L.length (fun i=>ix L i=v) with ⟨e,_⟩|⟨k,_,_,e⟩
 ·rw [e];simp
 rw [e,if_pos (by omega)]
theorem Q8D {L:List Int} {v:Int} (hl:L.length≤1000000):Q1I L v=some (idxL L v):=by
 unfold Q1I Q1b;rw [Option.bind_assoc];refine fstI L.length (fun i=>ix L i=v) (fun i=>Sum.inr i) (Sum.inl ()) (by omega) (fun i hi=>?_) (by rw [if_neg (by omega)]) ?_
 ·rw [if_pos (by omega),Q4 (by omega)]
  by_cases q:ix L i=v
  ·rw [if_pos q.symm,Q2L q];rfl
  rw [if_neg (fun e=>q e.symm),Q1n q,Q4 (by unfold B64;omega)];rfl
 unfold idxL;rcases Q46 L.length (fun i=>ix L i=v) with ⟨e,_⟩|⟨k,_,_,e⟩
 ·rw [e];simp
 rw [e,if_pos (by omega)];rfl
theorem idx_no {L:List Int} {v:Int} (h:v ∉ L):idxL L v = -1:=fst_no fun i hi e=>h (by rw [← e,← Q2q _ _ hi];exact List.getElem_mem hi)
theorem idx_mem {L:List Int} {v:Int} (h:v∈L):(0≤idxL L v∧idxL L v<(L.length:Int))∧ix L (idxL L v)=v:=by
 unfold idxL;rcases Q46 L.length (fun i=>ix L i=v) with ⟨_,q⟩|⟨k,hk,pk,e⟩
 ·obtain ⟨i,hi,e⟩:=List.getElem_of_mem h;exact absurd (by rw [← Q2q _ _ hi,e]) (q i hi)
 rw [e];exact ⟨by omega,pk⟩
theorem lds_mem {r:Nat→Nat} {n:Nat} {z:Int}:z∈lds r n↔∃ k:Nat,k<n∧r k=k∧z=(k:Int):=mem_flt
theorem seen_idx {L:List Int} {r:Nat→Nat} {n i:Nat} (hr:∀ x,x<n→r x≤x∧r (r x)=r x) (hq:∀ x y:Nat,x<n→y<n→(ix L x=ix L y↔r x=r y)) (hi:i<n):idxL ((lds r i).map (ix L)) (ix L i)=if r i=i then -1 else (cn r (r i):Int):=by
 have h:=hr i hi
 by_cases q:r i=i
 ·rw [if_pos q];refine idx_no fun z=>?_;obtain ⟨w,hw,e⟩:=List.mem_map.1 z;obtain ⟨k,hk,pk,rfl⟩:=lds_mem.1 hw;have:=(hq k i (by omega) hi).1 e;omega
 rw [if_neg q];obtain ⟨s,e⟩:=flt_pre (p:=fun y=>r y=y) h.2 i (by omega);have e':lds r i=lds r (r i)++(r i:Int) :: s:=e;have l1:(lds r (r i)).length=cn r (r i):=rfl;unfold idxL;refine Q9z (by rw [e'];simp [l1]) ?_ fun k hk z=>?_
 ·have:ix ((lds r i).map (ix L)) (cn r (r i):Nat)=ix L (r i:Nat):=by
   rw [e',← l1];simp [ix,List.getD_eq_getElem?_getD]
  rw [this];exact (hq (r i) i (by omega) hi).2 h.2
 have hk':k<(lds r (r i)).length:=hk;have e2:ix ((lds r i).map (ix L)) k=ix L (ix (lds r (r i)) k):=by
  rw [e',List.map_append];simp only [ix,List.getD_eq_getElem?_getD,Int.toNat_natCast];rw [List.getElem?_append_left (by simpa using hk')];simp [hk',ix]
 obtain ⟨w,hw,pw,ew⟩:=lds_mem.1 (show ix (lds r (r i)) k∈lds r (r i) by rw [← Q2q _ _ hk'];exact List.getElem_mem hk');rw [e2,ew] at z;have:=(hq w i (by omega) hi).1 z;omega
theorem e_l01Cls {L:List Int} {r:Nat→Nat} {n:Nat} (hl:L.length=n) (hr:∀ x,x<n→r x≤x∧r (r x)=r x) (hq:∀ x y:Nat,x<n→y<n→(ix L x=ix L y↔r x=r y)) (hn:n≤1000):Q2f L=some (cls r n):=by
 unfold Q2f;refine Q5c (σ:=List Int × List Int × Int) n (fun i=>(cls r i,(lds r i).map (ix L),(i:Int))) rfl (by omega) (fun i hi=>?_) (e:=cls r n) ?_ rfl
 ·have h:=hr i hi;have l1:(lds r i).length=cn r i:=rfl;have l2:=cn_le r i;simp only;rw [if_pos (by omega),Q4 (by omega),Q5U (by simp;omega),seen_idx hr hq hi];simp only [Option.bind_some]
  by_cases q:r i=i
  ·rw [if_pos q,if_pos (by omega),Q4 (by omega),Q4 (by simp;omega)];simp only [Option.bind_some];rw [Q4 (by simp [cls];omega),Q4 (by unfold B64;omega)];have e2:cls r (i+1)=cls r i++[(((lds r i).map (ix L)).length:Int)]:=(by unfold cls;rw [Q1u,q,List.length_map,l1]);have e3:(lds r (i+1)).map (ix L)=(lds r i).map (ix L)++[ix L i]:=(by unfold lds;rw [Q6d (p:=fun y=>r y=y) q];simp);rw [e2,e3];rfl
  rw [if_neg q,if_neg (by omega)];simp only [Option.bind_some];rw [Q4 (by simp [cls];omega),Q4 (by unfold B64;omega)];have e2:cls r (i+1)=cls r i++[(cn r (r i):Int)]:=by unfold cls;rw [Q1u]
  have e3:lds r (i+1)=lds r i:=by unfold lds;rw [Q6c (p:=fun y=>r y=y) q]
  rw [e2,e3];rfl
 simp only;rw [if_neg (by omega)]
theorem tset_new {α β:Type} [DecidableEq α] (k:α) (v:β):∀ m:List (α × β),Q1X k m=none→(tset k v m).length=m.length+1:=by
 intro m
 induction m with
 | nil=>intro _;rfl
 | cons p t ih =>
  intro h;obtain ⟨a,x⟩:=p;unfold Q1X at h;split at h
  ·cases h
  rename_i q;unfold tset;rw [if_neg q];simp [ih h]
theorem Q73 {α β:Type} [DecidableEq α] (k k':α) (v:β) (m:List (α × β)):Q1X k (tset k' v m)=if k'=k then some v else Q1X k m:=by
 induction m with
 | nil=>simp [tset,Q1X]
 | cons p t ih =>
  obtain ⟨a,x⟩:=p;unfold tset;split
  ·rename_i h1;subst h1
   by_cases h2:a=k<;>simp [Q1X,h2]
  rename_i h1;simp only [Q1X,ih]
  by_cases h2:a=k
  ·subst h2;rw [if_pos rfl,if_neg (fun e=>h1 e.symm),if_pos rfl]
  rw [if_neg h2,if_neg h2]
theorem e_normal {r:Nat→Nat} {n:Nat} (hr:∀ x,x<n→r x≤x∧r (r x)=r x) (hn:n≤1000):Q3X (tab n fun x=>(r x:Int))=some (cls r n):=by
 unfold Q3X;rw [Q4 (by simp;omega)];refine Q1x (σ:=(List (Int × Int)) × List Int × Int) (Q:=fun z=>z=some (cls r n)) n (fun i s=>s.2=(cls r i++List.replicate (n - i) 0,(i:Int))∧s.1.length=cn r i∧(∀ y:Nat,y<i→r y=y→Q1X (y:Int) s.1=some (cn r y:Int))∧∀ y:Nat,i≤y→Q1X (y:Int) s.1=none) (fun e=>e=cls r n) (by omega) ⟨by simp [cls,Q4J],rfl,fun y hy=>by omega,fun y _=>rfl⟩ ?_ ?_ (fun e he=>by rw [he])
 ·rintro i ⟨m,L,j⟩ hi ⟨e,hm,h1,h2⟩
  simp only [Prod.mk.injEq] at e;obtain ⟨rfl,rfl⟩:=e;simp only at hm h1 h2;have h:=hr i hi;have l2:=cn_le r i;have ek:n - i=(n - (i+1))+1:=by omega
  simp only [Q3Z];rw [if_pos (by omega),Q4 (by omega),Q3R _ _ hi]
  by_cases q:r i=i
  ·rw [q,if_pos (by rw [h2 i (Nat.le_refl _)];simp),Q4 (by omega)];simp only [Option.bind_some];rw [Q4 (by simp [cls];omega),Q4 (by unfold B64;omega)];refine .inl ⟨_,rfl,?_,?_,fun y hy hq=>?_,fun y hy=>?_⟩
   ·refine Prod.ext ?_ (by push_cast;rfl);simp only [Int.toNat_natCast];rw [ek,Q6l _ _ _ _ (by simp [cls])]
    congr 1
    unfold cls;rw [Q1u,q,hm]
   ·simp only;rw [tset_new _ _ _ (h2 i (Nat.le_refl _)),cn_pos q,hm]
   ·simp only;rw [Q73]
    by_cases z:i=y
    ·subst z;rw [if_pos rfl,hm]
    rw [if_neg (by omega)];exact h1 y (by omega) hq
   simp only;rw [Q73,if_neg (by omega)];exact h2 y (by omega)
  have e:=h1 (r i) (by omega) h.2;rw [e,if_neg (by simp)];simp only [Option.bind_some,Option.getD_some];rw [Q4 (by simp [cls];omega),Q4 (by unfold B64;omega)];refine .inl ⟨_,rfl,?_,?_,fun y hy hq=>?_,fun y hy=>h2 y (by omega)⟩
  ·refine Prod.ext ?_ (by push_cast;rfl);simp only [Int.toNat_natCast];rw [ek,Q6l _ _ _ _ (by simp [cls])]
   congr 1
   unfold cls;rw [Q1u]
  ·simp only;rw [cn_neg q,hm]
  have:y ≠ i:=fun z=>q (by rw [← z];exact hq);exact h1 y (by omega) hq
 rintro ⟨m,L,j⟩ ⟨e,hm,h1,h2⟩
 simp only [Prod.mk.injEq] at e;obtain ⟨rfl,rfl⟩:=e;simp only [Q3Z];rw [if_neg (by omega)];exact ⟨_,rfl,by simp⟩
end
section
attribute [local simp] Ql Q11 QE Q1j QW
structure UI (c:Cat) (j:List Int) (r:Nat→Nat) (i:Nat):Prop where
 u:UF j r c.id.length
 io:∀ x,x<c.id.length→Io c (r x) x
 st:∀ a:Nat,a<i→0≤inv c a→r (ix c.fr a).toNat=r (ix c.to a).toNat
theorem UF.rr {j:List Int} {r:Nat→Nat} {n x:Nat} (h:UF j r n) (hx:x<n):r (r x)=r x:=h.tip (r x) (by have:=h.le x hx;omega) (h.fix x hx)
end
attribute [local simp] unk unA unE unT unC flat eL eI Qr
noncomputable def Q3s (n_:Int) (pairs_:List (List Int)):Option (List Int) :=
 (Qy (σ:=List Int × Int) (ε:=List Int) (fun s5 =>
  if s5.2<n_ then
   ass ((s5.1++[s5.2]).length≤1073741824) <|
   ass (B64 (s5.2+1)) <|
   some (Ctl.next (s5.1++[s5.2],s5.2+1))
  else
   some (Ctl.ret s5.1)) fuel ([],0)).bind fun b1 =>
 (Qy (σ:=List Int × Int) (ε:=List Int) (fun s36 =>
  if s36.2<(pairs_.length:Int) then
   (
    ass (0≤s36.2∧s36.2<(pairs_.length:Int)) <|
    ass ((0:Int)≤0∧0<((rx pairs_ s36.2).length:Int)) <|
    ass (0≤ix (rx pairs_ s36.2) 0∧ix (rx pairs_ s36.2) 0<(s36.1.length:Int)) <|
    ass (0≤s36.2∧s36.2<(pairs_.length:Int)) <|
    ass ((0:Int)≤1∧1<((rx pairs_ s36.2).length:Int)) <|
    ass (0≤ix (rx pairs_ s36.2) 1∧ix (rx pairs_ s36.2) 1<(s36.1.length:Int)) <|
    (Qy (σ:=List Int × Int) (ε:=List Int) (fun s53 =>
     (
      if s53.2<(s53.1.length:Int) then
       some ((ix s36.1 (ix (rx pairs_ s36.2) 0)) != (ix s36.1 (ix (rx pairs_ s36.2) 1)))
      else
       some false:Option (Bool)).bind fun b54 =>
     if b54=true then
      (
       ass (0≤s53.2∧s53.2<(s53.1.length:Int)) <|
       if (ix s53.1 s53.2)=(ix s36.1 (ix (rx pairs_ s36.2) 1)) then
        ass (0≤s53.2∧s53.2<(s53.1.length:Int)) <|
        some (s53.1.set s53.2.toNat (ix s36.1 (ix (rx pairs_ s36.2) 0)))
       else
        some s53.1:Option (List Int)).bind fun b57 =>
      ass (B64 (s53.2+1)) <|
      some (Ctl.next (b57,s53.2+1))
     else
      some (Ctl.ret s53.1)) fuel (s36.1,0)).bind fun p53 =>
    some p53:Option (List Int)).bind fun b38 =>
   ass (B64 (s36.2+1)) <|
   some (Ctl.next (b38,s36.2+1))
  else
   some (Ctl.ret s36.1)) fuel (b1,0)).bind fun b9 =>
 (Q2f b9).bind fun v63 =>
 some v63
@[simp] abbrev Y0w (a:List Int × Int) (b:List (List Int)) (c:List (Nat × AV)):List (Nat × AV):=(7,iV a.2)::(8,iV (ix a.1 (ix (rx b a.2) 0)))::(9,iV (ix a.1 (ix (rx b a.2) 1)))::c
theorem Q9f (n_:Int) (pairs_:List (List Int)) (r:List Int) (h:Q3s n_ pairs_=some r):Contract Tryz.prog 83 [iV n_,.lst true 1 (Ls pairs_)] (lI r):=by
 refine Qc (rvs:=[.tmp 4]) (rs:=[lI r]) Tryz.func83 rfl rfl rfl rfl (by simp [Tryz.f83]) fun F hN hP=>?_;unfold Q3s at h;refine Q3 (runQ hN fun K hK=>?_);simp;repeat refine sdQ ?_
 refine hK _ ?_;clear hK K;refine tn (Q7 (st':=⟨(0,iV n_)::Y0F pairs_ [],[],0⟩) (wkQ9 []) (Q3 (runQ hN fun K hK=>?_)));simp;repeat refine sdQ ?_
 refine hK _ ?_;clear hK K;refine tn (Q7 (st':=⟨(0,iV n_)::Y0F pairs_ [(5,.own 0 0 0)],[(0,.mix 1 [])],1⟩) (wkQ9 [(0,0)]) (Q3 (Q3 (runQ hN fun K hK=>?_))));simp;repeat refine sdQ ?_
 refine hK _ (tn (Q7 (st':=⟨(0,iV n_)::Y0F pairs_ [(5,.own 0 0 0),(6,iV 0)],[(0,.mix 1 [])],1⟩) (wkQ9 [(0,0)]) ?_));clear hK K;replace ⟨e1,h,h1⟩:=bind_some h;refine Qg (fun b1:List Int=>⟨Y0F pairs_ [(5,.own 0 0 b1.length)],[(0,rI b1)],1⟩) (fun b1=>b1=e1) ?_ ?_
 ·refine Qa (Qn h (fun s5:List Int × Int=>⟨(0,iV n_)::Y0F pairs_ [(5,.own 0 0 s5.1.length),(6,iV s5.2)],[(0,rI s5.1)],1⟩) (Q1J ⟨(0,iV n_)::Y0F pairs_ [(5,.own 0 0 0),(6,iV 0)],[(0,rI [])],1⟩ (Wk.nils [] (by simp) (by simp) (by simp [nlA]) (by simp [entN,nlL,nlA,UA,U1,IA,I1,LA,L1,BA,B1,EA,E1,E2,eB,eI,eL]) (by simp)) (wkQ9 [(0,0)])) ?_);clear h;intro k5 s5 c5 h hk5;refine Q3 (Q3 (runQ hN fun K hK=>?_));simp;repeat refine sdQ ?_
  refine hK _ ?_;clear hK K;refine tn (Qd rfl (fun g=>?_) fun g=>?_)
  ·have g6:s5.2<n_:=gQ;clear g;replace h:=if_l g6 h;refine Qe (tn (Q3 (Qa (runQ hN fun K hK=>?_))));replace ⟨a7,h⟩:=Q0 h;(try simp only [List.length_append,List.length_cons,List.length_nil] at a7);simp [a7];(repeat refine sdQ ?_);refine hK _ ?_;clear hK K;refine bn (tn (Q7 (st':=⟨(0,iV n_)::Y0F pairs_ [(5,.own 0 0 ((s5.1++[s5.2]).length)),(6,iV s5.2)],[(0,rI (s5.1++[s5.2]))],1⟩) (wkQ9 [(2,0)]) (runQ hN fun K hK=>?_)));replace ⟨a8,h⟩:=Q0 h;simp [Qh a8];(repeat refine sdQ ?_);refine hK _ ?_;clear hK K;cases h;exact rn (s':=(s5.1++[s5.2],s5.2+1)) hk5 (wkQ9 [(0,0)])
  have g6:¬ (s5.2<n_):=gQ;clear g;replace h:=if_r g6 h;refine Qm (tx (lx (bh ?_)));cases h;exact jn (b:=s5.1) hk5 (wkQ9 [(0,0)])
 intro b1 hb1;have h:=h1;try rw [← hb1] at h
 clear h1;try dsimp only at h
 refine Q3 (Q3 (runQ hN fun K hK=>?_));simp;repeat refine sdQ ?_
 refine hK _ (tn (Q7 (st':=⟨Y0F pairs_ [(5,.own 0 0 b1.length),(7,iV 0)],[(0,rI b1)],1⟩) (wkQ9 [(0,0)]) ?_));clear hK K;replace ⟨e9,h,h9⟩:=bind_some h;refine Qg (fun b9:List Int=>⟨[(5,.own 0 0 b9.length)],[(0,rI b9)],1⟩) (fun b9=>b9=e9) ?_ ?_
 ·refine Qa (Qn h (fun s36:List Int × Int=>⟨Y0F pairs_ [(5,.own 0 0 s36.1.length),(7,iV s36.2)],[(0,rI s36.1)],1⟩) (wkQ9 [(0,0)]) ?_);clear h;intro k36 s36 c36 h hk36;refine Q3 (Q3 (runQ hN fun K hK=>?_));simp;repeat refine sdQ ?_
  refine hK _ ?_;clear hK K;refine tn (Qd rfl (fun g=>?_) fun g=>?_)
  ·have g37:s36.2<(pairs_.length:Int):=gQ;clear g;replace h:=if_l g37 h;refine Qe (tn (Q3 ?_));replace ⟨e38,h,h38⟩:=bind_some h;refine Qg (fun b38:List Int=>⟨Y0F pairs_ [(5,.own 0 0 b38.length),(7,iV s36.2)],[(0,rI b38)],1⟩) (fun b38=>b38=e38) ?_ ?_
   ·refine Qa (Q3 (runQ hN fun K hK=>?_));replace ⟨a39,h⟩:=Q0 h;replace ⟨a40,h⟩:=Q0 h;replace ⟨a41,h⟩:=Q0 h;replace ⟨a42,h⟩:=Q0 h;replace ⟨a43,h⟩:=Q0 h;replace ⟨a44,h⟩:=Q0 h;simp [at_L a39,(show (Is (rx pairs_ s36.2))[0]? = some [iV (ix (rx pairs_ s36.2) 0)] from at_I (j:=0) a40),at_I a41,at_L a42,(show (Is (rx pairs_ s36.2))[1]? = some [iV (ix (rx pairs_ s36.2) 1)] from at_I (j:=1) a43),at_I a44];(repeat refine sdQ ?_);refine hK _ ?_;clear hK K;refine tn (Q7 (st':=⟨Y0F pairs_ ((5,.own 0 0 s36.1.length)::Y0w s36 pairs_ []),[(0,rI s36.1)],1⟩) (wkQ9 [(0,0)]) (Q3 (runQ hN fun K hK=>?_)));simp;(repeat refine sdQ ?_);refine hK _ (tn (Q7 (st':=⟨Y0F pairs_ ((5,.own 0 0 s36.1.length)::Y0w s36 pairs_ [(10,iV 0)]),[(0,rI s36.1)],1⟩) (wkQ9 [(0,0)]) (Qa ?_)));clear hK K;replace ⟨e53,he53,h53⟩:=bind_some h;refine Qn he53 (fun s53:List Int × Int=>⟨Y0F pairs_ ((5,.own 0 0 s53.1.length)::Y0w s36 pairs_ [(10,iV s53.2)]),[(0,rI s53.1)],1⟩) (wkQ9 [(0,0)]) ?_;intro k53 s53 c53 h hk53;refine Q3 (Q3 ?_);replace ⟨e54,h,h54⟩:=bind_some h;refine Qg (fun b54:Bool=>⟨Y0F pairs_ ((5,.own 0 0 s53.1.length)::Y0w s36 pairs_ [(10,iV s53.2),(53,.val (.bool b54))]),[(0,rI s53.1)],1⟩) (fun b54=>b54=e54) ?_ ?_
    ·refine runQ hN fun K hK=>?_;simp;(repeat with_reducible refine sdQ ?_);refine QZ (fun g=>?_) (fun g=>?_)
     ·have g55:s53.2<(s53.1.length:Int):=gQ;clear g;replace h:=if_l g55 h;simp;(repeat refine sdQ ?_);refine hK _ ?_;exact jn (b:=(ix s36.1 (ix (rx pairs_ s36.2) 0)) != (ix s36.1 (ix (rx pairs_ s36.2) 1))) (Option.some.inj h) (wkQ9 [(0,0)])
     have g55:¬ (s53.2<(s53.1.length:Int)):=gQ;clear g;replace h:=if_r g55 h;simp;(repeat refine sdQ ?_);refine hK _ ?_;exact jn (b:=false) (Option.some.inj h) (wkQ9 [(0,0)])
    intro b54 hb54;have h:=h54;(try rw [← hb54] at h);clear h54;(try dsimp only at h);refine Qd rfl (fun g=>?_) fun g=>?_
    ·have g56:b54=true:=gQ;clear g;replace h:=if_l g56 h;refine Qe (tn (Q3 ?_));replace ⟨e57,h,h57⟩:=bind_some h;refine Qg (fun b57:List Int=>⟨Y0F pairs_ ((5,.own 0 0 b57.length)::Y0w s36 pairs_ [(10,iV s53.2)]),[(0,rI b57)],1⟩) (fun b57=>b57=e57) ?_ ?_
     ·refine Qa (Q3 (runQ hN fun K hK=>?_));replace ⟨a58,h⟩:=Q0 h;simp [at_I a58];(repeat refine sdQ ?_);refine hK _ ?_;clear hK K;refine tn (Qd rfl (fun g=>?_) fun g=>?_)
      ·have g59:(ix s53.1 s53.2)=(ix s36.1 (ix (rx pairs_ s36.2) 1)):=gQ;clear g;replace h:=if_l g59 h;refine runQ hN fun K hK=>?_;replace ⟨a60,h⟩:=Q0 h;simp [at_I a60];(repeat refine sdQ ?_);refine hK _ (bn ?_);clear hK K;exact jn (b:=s53.1.set s53.2.toNat (ix s36.1 (ix (rx pairs_ s36.2) 0))) (Option.some.inj h) (wkQ9 [(0,0)])
      have g59:¬ ((ix s53.1 s53.2)=(ix s36.1 (ix (rx pairs_ s36.2) 1))):=gQ;clear g;replace h:=if_r g59 h;refine Qe (bn ?_);exact jn (b:=s53.1) (Option.some.inj h) (wkQ9 [(0,0)])
     intro b57 hb57;have h:=h57;(try rw [← hb57] at h);clear h57;(try dsimp only at h);refine runQ hN fun K hK=>?_;replace ⟨a61,h⟩:=Q0 h;simp [Qh a61];(repeat refine sdQ ?_);refine hK _ ?_;clear hK K;cases h;exact rn (s':=(b57,s53.2+1)) hk53 (wkQ9 [(0,0)])
    have g56:¬ (b54=true):=gQ;clear g;replace h:=if_r g56 h;refine Qm (tx (lx (bh (bn ?_))));cases h;have q:_=e53:=hk53;have h:=h53;rw [← q] at h;clear q;(try dsimp only at h);exact jn (b:=s53.1) (Option.some.inj h) (wkQ9 [(0,0)])
   intro b38 hb38;have h:=h38;(try rw [← hb38] at h);clear h38;(try dsimp only at h);refine runQ hN fun K hK=>?_;replace ⟨a62,h⟩:=Q0 h;simp [Qh a62];(repeat refine sdQ ?_);refine hK _ ?_;clear hK K;cases h;exact rn (s':=(b38,s36.2+1)) hk36 (wkQ9 [(0,0)])
  have g37:¬ (s36.2<(pairs_.length:Int)):=gQ;clear g;replace h:=if_r g37 h;refine Qm (tx (lx (bh ?_)));cases h;exact jn (b:=s36.1) hk36 (wkQ9 [(0,0)])
 intro b9 hb9;have h:=h9;try rw [← hb9] at h
 clear h9;try dsimp only at h
 refine Q3 (runQ hN fun K hK=>?_);simp;repeat with_reducible refine sdQ ?_
 replace ⟨v63,hv63,h⟩:=bind_some h;refine Q6 (Q6K _ v63 hv63) (.cons .w .nil) ?_;simp;repeat refine sdQ ?_
 refine hK _ (tn (Q7 (st':=⟨[(4,.own 0 0 v63.length)],[(0,rI v63)],1⟩) (wkQ9 [(1,0)]) (Qo ?_)));clear hK K;have hr:=Option.some.inj h;rw [← hr];refine ⟨_,(.tmp .nil),?_⟩;refine ⟨(.one rfl rfl .nil),[lI v63],[0],by simp [UA,U1,IA,I1,LA,L1,BA,B1,EA,E1,E2,eB,eI,eL],by simp,(UpL.refl _)⟩
section
attribute [local simp] Ql Q11 QE Q1j QW
structure PP (c:Cat) (L:List (List Int)) (i k:Nat):Prop where
 a:∀ p∈L,∃ y x:Nat,p=[(y:Int),(x:Int)]∧Io c x y
 b:∀ y x:Nat,y<x→x<i→Io c x y→[(y:Int),(x:Int)]∈L
 d:∀ y:Nat,y<k→Io c i y→[(y:Int),(i:Int)]∈L
 len:L.length≤i * 8+k
def rlb (l:List Int) (a b:Int) (i:Nat):List Int:=tab l.length fun z:Nat=>if z<i∧ix l z=b then a else ix l z
theorem tab_ix (l:List Int):tab l.length (fun z:Nat=>ix l z)=l:=by
 refine List.ext_getElem (by simp) fun i h1 h2=>?_;rw [Q2q l i h2];simp [tab]
theorem rlb_zero (l:List Int) (a b:Int):rlb l a b 0=l:=by
 have:rlb l a b 0=tab l.length (fun z:Nat=>ix l z):=Q1k fun i _=>by simp
 rw [this,tab_ix]
theorem rlb_all (l:List Int) (a b:Int):rlb l a b l.length=tab l.length fun z:Nat=>if ix l z=b then a else ix l z:=Q1k fun i hi=>by simp [hi]
theorem rlb_hit {l:List Int} {a b:Int} {i:Nat} (h:ix l i=b):(rlb l a b i).set i a=rlb l a b (i+1):=by
 refine List.ext_getElem (by simp [rlb]) fun j h1 h2=>?_;simp only [rlb,tab,List.getElem_set,List.getElem_map,List.getElem_range]
 by_cases e:i=j
 ·subst e;simp [h]
 have:(j<i)=(j<i+1):=propext ⟨fun _=>by omega,fun _=>by omega⟩;simp [e,this]
theorem rlb_miss {l:List Int} {a b:Int} {i:Nat} (h:¬ ix l i=b):rlb l a b i=rlb l a b (i+1):=Q1k fun j _=>by
 by_cases e:i=j
 ·subst e;simp [h]
 have:(j<i)=(j<i+1):=propext ⟨fun _=>by omega,fun _=>by omega⟩;simp [this]
end
section
attribute [local simp] Ql Q11 QE Q1j QW
def jnr (r:Nat→Nat) (a b:Nat):Nat→Nat:=fun z=>if r z=max (r a) (r b) then min (r a) (r b) else r z
def RR (P:List (List Int)):Nat→Nat:=P.foldl (fun r p=>jnr r (ix p 0).toNat (ix p 1).toNat) fun z=>z
theorem RR_snoc (P:List (List Int)) (p:List Int):RR (P++[p])=jnr (RR P) (ix p 0).toNat (ix p 1).toNat:=by simp [RR]
theorem UF.jn {j:List Int} {r:Nat→Nat} {n a b:Nat} (h:UF j r n) (ha:a<n) (hb:b<n):UF (j.set (max (r a) (r b)) ((min (r a) (r b):Nat):Int)) (jnr r a b) n:=by
 have la:=h.le a ha;have lb:=h.le b hb;have e1:r (min (r a) (r b))=min (r a) (r b):=by
  rcases Nat.le_total (r a) (r b) with q|q
  ·rw [Nat.min_eq_left q];exact h.rr ha
  rw [Nat.min_eq_right q];exact h.rr hb
 have e2:r (max (r a) (r b))=max (r a) (r b):=by
  rcases Nat.le_total (r a) (r b) with q|q
  ·rw [Nat.max_eq_right q];exact h.rr hb
  rw [Nat.max_eq_left q];exact h.rr ha
 exact h.join (a:=min (r a) (r b)) (b:=max (r a) (r b)) (by omega) (by omega) e1 e2 (by omega)
theorem UF_id {n:Nat}:UF (iota n) (fun z=>z) n :=
 ⟨by simp,fun x hx=>by rw [Q2d _ (by omega) (by omega)];omega,fun x _=>Nat.le_refl _,fun x hx=>Q2d _ (by omega) (by omega),fun x hx=>by rw [Q2d _ (by omega) (by omega)];simp,fun x _ _=>rfl⟩
def Prs (n:Nat) (P:List (List Int)):Prop:=∀ p∈P,∃ a b:Nat,a<n∧b<n∧p=[(a:Int),(b:Int)]
theorem Prs.at {n:Nat} {P:List (List Int)} (h:Prs n P) {i:Nat} (hi:i<P.length):∃ a b:Nat,a<n∧b<n∧P[i]=[(a:Int),(b:Int)]:=h _ (List.getElem_mem hi)
theorem RR_take {P:List (List Int)} {i:Nat} (hi:i<P.length) {a b:Nat} (e:P[i]=[(a:Int),(b:Int)]):RR (P.take (i+1))=jnr (RR (P.take i)) a b:=by
 rw [List.take_succ_eq_append_getElem hi,RR_snoc,e];rfl
theorem RR_ufk {n:Nat} {P:List (List Int)} (h:Prs n P):∀ k,k≤P.length→∃ j,UF j (RR (P.take k)) n:=by
 intro k
 induction k with
 | zero=>intro _;exact ⟨iota n,UF_id⟩
 | succ k ih =>
  intro hk;obtain ⟨j,u⟩:=ih (by omega);obtain ⟨a,b,ha,hb,e⟩:=h.at (i:=k) (by omega);rw [RR_take (by omega) e];exact ⟨_,u.jn ha hb⟩
theorem RR_uf {n:Nat} {P:List (List Int)} (h:Prs n P):∃ j,UF j (RR P) n:=by
 have:=RR_ufk h P.length (Nat.le_refl _)
 rwa [List.take_length] at this
theorem RR_ok {n:Nat} {P:List (List Int)} (h:Prs n P):∀ x,x<n→RR P x≤x∧RR P (RR P x)=RR P x:=by
 obtain ⟨j,u⟩:=RR_uf h;exact fun x hx=>⟨u.le x hx,u.rr hx⟩
theorem Q9E {l l2:List Int} {r:Nat→Nat} {n a b:Nat} (h:∀ x y:Nat,x<n→y<n→(ix l x=ix l y↔r x=r y)) (ha:a<n) (hb:b<n) (e:∀ z:Nat,z<n→ix l2 z=if ix l z=ix l b then ix l a else ix l z) :
  ∀ x y:Nat,x<n→y<n→(ix l2 x=ix l2 y↔jnr r a b x=jnr r a b y):=by
 intro x y hx hy;rw [e x hx,e y hy];have h1:=h x y hx hy;have h2:=h x a hx ha;have h3:=h x b hx hb;have h4:=h y a hy ha;have h5:=h y b hy hb;have h6:=h a b ha hb;unfold jnr;split<;>split<;>split<;>split<;>omega
theorem e_joinG {n:Nat} {P:List (List Int)} (hp:Prs n P) (hn:n≤1000) (hl:P.length≤4000000):Q3s (n:Int) P=some (cls (RR P) n):=by
 unfold Q3s;refine tabg n (fun i:Nat=>(i:Int)) (e:=iota n) (by omega) (fun i hi=>by simp only;rw [if_pos (by omega)]) (by simp only;rw [if_neg (by omega)];rfl) (Q1x (σ:=List Int × Int) (Q:=fun z=>z=some (cls (RR P) n)) P.length (fun i s=>s.2=(i:Int)∧s.1.length=n∧∀ x y:Nat,x<n→y<n→(ix s.1 x=ix s.1 y↔RR (P.take i) x=RR (P.take i) y)) (fun l=>l.length=n∧∀ x y:Nat,x<n→y<n→(ix l x=ix l y↔RR P x=RR P y)) (by omega) ⟨rfl,by simp,fun x y hx hy=>?_⟩ ?_ ?_ ?_)
 ·rw [Q2d _ (by omega) (by omega),Q2d _ (by omega) (by omega)];simp [RR];omega
 ·rintro i ⟨l,k⟩ hi ⟨hk,hll,h⟩
  simp only at hk h hll;subst hk;obtain ⟨y,x,hy,hx,ep0⟩:=hp.at hi;have ep:rx P i=[(y:Int),(x:Int)]:=by rw [← ep0];simp [rx,List.getD_eq_getElem?_getD,hi]
  have h0:ix [(y:Int),(x:Int)] 0=y:=rfl;have h1:ix [(y:Int),(x:Int)] 1=x:=rfl;simp only;rw [if_pos (by omega),Q4 (by omega),ep,h0,h1,Q4 (by simp),Q4 (by omega),Q4 (by omega),Q4 (by simp),Q4 (by omega)];rw [RR_take hi ep0]
  by_cases q:ix l y=ix l x
  ·have run:(Qy (σ:=List Int × Int) (ε:=List Int) (fun s53 =>
     (
      if s53.2<(s53.1.length:Int) then
       some ((ix l y) != (ix l x))
      else
       some false:Option (Bool)).bind fun b54 =>
     if b54=true then
      (
       ass (0≤s53.2∧s53.2<(s53.1.length:Int)) <|
       if (ix s53.1 s53.2)=(ix l x) then
        ass (0≤s53.2∧s53.2<(s53.1.length:Int)) <|
        some (s53.1.set s53.2.toNat (ix l y))
       else
        some s53.1:Option (List Int)).bind fun b57 =>
      ass (B64 (s53.2+1)) <|
      some (Ctl.next (b57,s53.2+1))
     else
      some (Ctl.ret s53.1)) fuel (l,0))=some l:=by
    refine Q7l (fun _=>l) 0 rfl (by omega) (fun z hz=>by omega) ?_;simp only [q,bne_self_eq_false];split<;>simp
   rw [run];simp only [Option.bind_some];rw [Q4 (by unfold B64;omega)];refine .inl ⟨_,rfl,by push_cast;rfl,hll,Q9E h hy hx fun z hz=>?_⟩;simp only;split
   ·rename_i f;rw [f,q]
   rfl
  have run:(Qy (σ:=List Int × Int) (ε:=List Int) (fun s53 =>
    (
     if s53.2<(s53.1.length:Int) then
      some ((ix l y) != (ix l x))
     else
      some false:Option (Bool)).bind fun b54 =>
    if b54=true then
     (
      ass (0≤s53.2∧s53.2<(s53.1.length:Int)) <|
      if (ix s53.1 s53.2)=(ix l x) then
       ass (0≤s53.2∧s53.2<(s53.1.length:Int)) <|
       some (s53.1.set s53.2.toNat (ix l y))
      else
       some s53.1:Option (List Int)).bind fun b57 =>
     ass (B64 (s53.2+1)) <|
     some (Ctl.next (b57,s53.2+1))
    else
     some (Ctl.ret s53.1)) fuel (l,0))=some (tab n fun z:Nat=>if ix l z=ix l x then ix l y else ix l z):=by
   refine Q7l (fun i=>rlb l (ix l y) (ix l x) i) n (rlb_zero _ _ _).symm (by omega) (fun z hz=>?_) ?_
   ·have gl:(rlb l (ix l y) (ix l x) z).length=l.length:=(by simp [rlb]);have gz:ix (rlb l (ix l y) (ix l x) z) z=ix l z:=by
     unfold rlb;rw [Q3R _ _ (by omega)];simp
    simp only;rw [if_pos (by omega)];simp only [Option.bind_some];rw [if_pos (by simpa using q),Q4 (by omega),gz]
    by_cases f:ix l z=ix l x
    ·rw [if_pos f,Q4 (by omega)];simp only [Option.bind_some,Int.toNat_natCast];rw [Q4 (by unfold B64;omega),rlb_hit f]
    rw [if_neg f];simp only [Option.bind_some];rw [Q4 (by unfold B64;omega),rlb_miss f]
   have gl:(rlb l (ix l y) (ix l x) n).length=l.length:=(by simp [rlb]);simp only;rw [if_neg (by omega)];simp only [Option.bind_some,Bool.false_eq_true,if_false];rw [← hll,rlb_all]
  rw [run];simp only [Option.bind_some];rw [Q4 (by unfold B64;omega)];exact .inl ⟨_,rfl,by push_cast;rfl,by simp,Q9E h hy hx fun z hz=>Q3R _ _ hz⟩
 ·rintro ⟨l,k⟩ ⟨hk,hll,h⟩
  simp only at hk h hll;subst hk;rw [List.take_length] at h;simp only;rw [if_neg (by omega)];exact ⟨_,rfl,hll,h⟩
 rintro l ⟨hll,h⟩
 rw [e_l01Cls hll (RR_ok hp) h (by omega)];rfl
end
section
attribute [local simp] Ql Q11 QE Q1j QW
def dbl {α:Type} (m:Nat→Nat→α) (k:Nat):Nat→List α
 | 0=>[]
 | e+1=>dbl m k e++tab k (m e)
theorem Q5m {α:Type} (m:Nat→Nat→α) (k:Nat):∀ s,(dbl m k s).length=s * k
 | 0=>by simp [dbl]
 | s+1=>by simp [dbl,Q5m m k s,Nat.succ_mul]
theorem tab_at {α:Type} {n d:Nat} (v:Nat→α) (h:d<n):(tab n v)[d]? = some (v d):=by simp [tab,h]
theorem dbl_at {α:Type} (m:Nat→Nat→α) (k:Nat) {e d:Nat} (hd:d<k):∀ s,e<s→(dbl m k s)[e * k+d]? = some (m e d)
 | 0,h=>absurd h (by omega)
 | s+1,h=>by
  have l:=Q5m m k s;rcases Nat.lt_or_ge e s with q|q
  ·have h1:(e+1) * k≤s * k:=Nat.mul_le_mul_right k q;rw [Nat.succ_mul] at h1;rw [dbl,List.getElem?_append_left (by omega)];exact dbl_at m k hd s q
  have h1:e=s:=by omega
  subst h1;rw [dbl,List.getElem?_append_right (by omega),l,show e * k+d - e * k=d by omega];exact tab_at _ hd
def spos (s k:Nat→Nat):Nat→Nat
 | 0=>0
 | y+1=>spos s k y+s y * k y
def tri {α:Type} (m:Nat→Nat→Nat→α) (s k:Nat→Nat):Nat→List α
 | 0=>[]
 | y+1=>tri m s k y++dbl (m y) (k y) (s y)
theorem Q3K {α:Type} (m:Nat→Nat→Nat→α) (s k:Nat→Nat):∀ n,(tri m s k n).length=spos s k n
 | 0=>rfl
 | n+1=>by simp [tri,spos,Q3K m s k n,Q5m]
theorem Q92 {s k:Nat→Nat} {y:Nat}:∀ {n:Nat},y<n→spos s k y+s y * k y≤spos s k n
 | 0,h=>absurd h (by omega)
 | n+1,h=>by
  rcases Nat.lt_or_ge y n with q|q
  ·have:=Q92 (s:=s) (k:=k) q;simp only [spos];omega
  have h1:y=n:=by omega
  subst h1;simp only [spos];omega
theorem dbl_lt {s k e d:Nat} (he:e<s) (hd:d<k):e * k+d<s * k:=by
 have h1:(e+1) * k≤s * k:=Nat.mul_le_mul_right k he;rw [Nat.succ_mul] at h1;omega
theorem Q6x {α:Type} (m:Nat→Nat→Nat→α) (s k:Nat→Nat) {y e d:Nat} (he:e<s y) (hd:d<k y):∀ n,y<n→(tri m s k n)[spos s k y+(e * k y+d)]? = some (m y e d)
 | 0,h=>absurd h (by omega)
 | n+1,h=>by
  have l:=Q3K m s k n;have h2:=dbl_lt he hd;rcases Nat.lt_or_ge y n with q|q
  ·have:=Q92 (s:=s) (k:=k) q;rw [tri,List.getElem?_append_left (by omega)];exact Q6x m s k he hd n q
  have h1:y=n:=by omega
  subst h1;rw [tri,List.getElem?_append_right (by omega),l,show spos s k y+(e * k y+d) - spos s k y=e * k y+d by omega];exact dbl_at _ _ hd _ he
theorem Q7x {s k:Nat→Nat}:∀ {n i:Nat},i<spos s k n→∃ y e d,y<n∧e<s y∧d<k y∧i=spos s k y+(e * k y+d)
 | 0,i,h=>absurd h (by simp [spos])
 | n+1,i,h=>by
  rcases Nat.lt_or_ge i (spos s k n) with q|q
  ·obtain ⟨y,e,d,h1,h2⟩:=Q7x q;exact ⟨y,e,d,by omega,h2⟩
  simp only [spos] at h;obtain ⟨j,rfl⟩:=Nat.exists_eq_add_of_le q;have hj:j<s n * k n:=by omega
  have hk:0<k n:=by
   rcases Nat.eq_zero_or_pos (k n) with z|z
   ·rw [z] at hj;simp at hj
   exact z
  refine ⟨n,j / k n,j % k n,by omega,Nat.div_lt_of_lt_mul (by rw [Nat.mul_comm];exact hj),Nat.mod_lt _ hk,?_⟩;have:=Nat.div_add_mod j (k n);rw [Nat.mul_comm] at this;omega
theorem tri_one {α:Type} (m:Nat→Nat→Nat→α) (hm:∀ y e d y' e' d',m y e d=m y' e' d'→y=y'∧e=e'∧d=d') (s k:Nat→Nat) {n y e d i:Nat} (he:e<s y) (hd:d<k y) (hy:y<n) (hi:(tri m s k n)[i]? = some (m y e d)):i=spos s k y+(e * k y+d):=by
 have l:=Q3K m s k n;have hl:i<(tri m s k n).length:=by
  rcases Nat.lt_or_ge i (tri m s k n).length with q|q
  ·exact q
  rw [List.getElem?_eq_none q] at hi;cases hi
 obtain ⟨y',e',d',h1,h2,h3,rfl⟩:=Q7x (s:=s) (k:=k) (n:=n) (i:=i) (by omega);rw [Q6x m s k h2 h3 n h1] at hi;obtain ⟨rfl,rfl,rfl⟩:=hm _ _ _ _ _ _ (Option.some.inj hi);rfl
def img (cl:List Int) (f:Nat→Int) (z:List Int):Nat→List Int
 | 0=>z
 | i+1=>(img cl f z i).set (ix cl i).toNat (f i)
@[simp] theorem img_len (cl:List Int) (f:Nat→Int) (z:List Int):∀ n,(img cl f z n).length=z.length
 | 0=>rfl
 | n+1=>by simp [img,img_len cl f z n]
def top (cl:List Int):Nat→Int
 | 0=>0
 | i+1=>max (top cl i) (ix cl i+1)
theorem top_nn (cl:List Int):∀ n,0≤top cl n
 | 0=>Int.le_refl _
 | n+1=>by have:=top_nn cl n;simp only [top];omega
theorem top_gt (cl:List Int) {i:Nat}:∀ {n:Nat},i<n→ix cl i<top cl n
 | 0,h=>absurd h (by omega)
 | n+1,h=>by
  simp only [top];rcases Nat.lt_or_ge i n with q|q
  ·have:=top_gt cl q;omega
  have h1:i=n:=by omega
  subst h1;omega
theorem top_le (cl:List Int) {m:Int} (hm:0≤m):∀ {n:Nat},(∀ i:Nat,i<n→ix cl i+1≤m)→top cl n≤m
 | 0,_=>hm
 | n+1,h=>by
  have:=top_le cl hm (n:=n) fun i hi=>h i (by omega);have:=h n (by omega);simp only [top];omega
end
attribute [local simp] unk unA unE unT unC flat eL eI Qr
noncomputable def Q3u (lists_:List (List Int)) (list_:List Int):Option Int :=
 (Qy (σ:=Int) (ε:=Unit ⊕ Int) (fun s7 =>
  if s7<(lists_.length:Int) then
   ass (0≤s7∧s7<(lists_.length:Int)) <|
   (Q4d (rx lists_ s7) list_).bind fun v10 =>
   if v10=true then
    some (Ctl.ret (Sum.inr s7))
   else
    ass (B64 (s7+1)) <|
    some (Ctl.next (s7+1))
  else
   some (Ctl.ret (Sum.inl ()))) fuel 0).bind fun e1 =>
 match e1 with
 | .inl b1 =>
  some (-1)
 | .inr p1 =>
  some p1
theorem Q9i (lists_:List (List Int)) (list_:List Int) (r:Int) (h:Q3u lists_ list_=some r):Contract Tryz.prog 76 [.lst true 1 (Ls lists_),lI list_] (iV r):=by
 refine Qc (rvs:=[.tmp 4]) (rs:=[iV r]) Tryz.func76 rfl rfl rfl rfl (by simp [Tryz.f76]) fun F hN hP=>?_;unfold Q3u at h;refine Q3 (runQ hN fun K hK=>?_);simp;repeat refine sdQ ?_
 refine hK _ ?_;clear hK K;refine tn (Q7 (st':=⟨Y16 lists_ [(1,lI list_)],[],0⟩) (wkQ9 []) (Q3 (Q3 (runQ hN fun K hK=>?_))));simp;repeat refine sdQ ?_
 refine hK _ (tn (Q7 (st':=⟨Y16 lists_ [(1,lI list_),(5,iV 0)],[],0⟩) (wkQ9 []) ?_));clear hK K;replace ⟨e1,h,h1⟩:=bind_some h;refine Qg (fun b1:Unit=>⟨[],[],0⟩) (fun b1=>Sum.inl b1=e1) ?_ ?_
 ·refine Qa (Qn h (fun s7:Int=>⟨Y16 lists_ [(1,lI list_),(5,iV s7)],[],0⟩) (wkQ9 []) ?_);clear h;intro k7 s7 c7 h hk7;refine Q3 (Q3 (runQ hN fun K hK=>?_));simp;repeat refine sdQ ?_
  refine hK _ ?_;clear hK K;refine tn (Qd rfl (fun g=>?_) fun g=>?_)
  ·have g8:s7<(lists_.length:Int):=gQ;clear g;replace h:=if_l g8 h;refine Qe (tn (Q3 (Qa (Q3 (runQ hN fun K hK=>?_)))));replace ⟨a9,h⟩:=Q0 h;simp [at_L a9];(repeat with_reducible refine sdQ ?_);replace ⟨v10,hv10,h⟩:=bind_some h;refine Q6 (Q9g _ _ v10 hv10) (.cons .lst (.cons .lst .nil)) ?_;simp [at_L a9];(repeat refine sdQ ?_);refine hK _ ?_;clear hK K;refine tn (Q7 (st':=⟨Y16 lists_ [(1,lI list_),(5,iV s7),(17,.val (.bool v10))],[],0⟩) (wkQ9 []) (Qd rfl (fun g=>?_) fun g=>?_))
   ·have g11:v10=true:=gQ;clear g;replace h:=if_l g11 h;refine Q3 (runQ hN fun K hK=>?_);simp;(repeat refine sdQ ?_);refine hK _ (tn (Q7 (st':=⟨[(4,iV s7)],[],0⟩) (wkQ9 []) (Qo (br (tr (lr (br (tr ?_))))))));clear hK K;cases h;have q:_=e1:=hk7;have h:=h1;rw [← q] at h;clear q;(try dsimp only at h);have hr:=Option.some.inj h;rw [← hr];refine ⟨_,(.tmp .nil),?_⟩;refine ⟨(.one rfl rfl .nil),[iV s7],[],by simp [UA,U1,IA,I1,LA,L1,BA,B1,EA,E1,E2,eB,eI,eL],by simp,(UpL.refl _)⟩
   have g11:¬ (v10=true):=gQ;clear g;replace h:=if_r g11 h;refine Qe (bn (tn (runQ hN fun K hK=>?_)));replace ⟨a12,h⟩:=Q0 h;simp [Qh a12];(repeat refine sdQ ?_);refine hK _ ?_;clear hK K;cases h;exact rn (s':=s7+1) hk7 (wkQ9 [])
  have g8:¬ (s7<(lists_.length:Int)):=gQ;clear g;replace h:=if_r g8 h;refine Qm (tx (lx (bh ?_)));cases h;exact jn (b:=()) hk7 (wkQ9 [])
 intro b1 hb1;have h:=h1;try rw [← hb1] at h
 clear h1;try dsimp only at h
 refine Q3 (runQ hN fun K hK=>?_);simp;repeat refine sdQ ?_
 refine hK _ (tn (Q7 (st':=⟨[(4,iV (-1))],[],0⟩) (wkQ9 []) (Qo ?_)));clear hK K;have hr:=Option.some.inj h;rw [← hr];refine ⟨_,(.tmp .nil),?_⟩;refine ⟨(.one rfl rfl .nil),[iV (-1)],[],by simp [UA,U1,IA,I1,LA,L1,BA,B1,EA,E1,E2,eB,eI,eL],by simp,(UpL.refl _)⟩
section
attribute [local simp] Ql Q11 QE Q1j QW
theorem QaC {α β:Type} [DecidableEq α] (k k':α) (v:β) (m:List (α × β)):Q1X k (tset k' v m)=if k'=k then some v else Q1X k m:=by
 induction m with
 | nil=>simp [tset,Q1X]
 | cons p r ih =>
  obtain ⟨a,x⟩:=p;unfold tset
  by_cases h:a=k'
  ·subst h;rw [if_pos rfl]
   by_cases h2:a=k<;>simp [Q1X,h2]
  rw [if_neg h];simp only [Q1X,ih]
  by_cases h2:a=k
  ·subst h2;rw [if_pos rfl,if_pos rfl,if_neg (fun e=>h e.symm)]
  rw [if_neg h2,if_neg h2]
theorem tset_len {α β:Type} [DecidableEq α] (k:α) (v:β) (m:List (α × β)):(tset k v m).length≤m.length+1:=by
 induction m with
 | nil=>simp [tset]
 | cons p r ih =>
  obtain ⟨a,x⟩:=p;unfold tset;split<;>simp;exact ih
def plM {α:Type} [DecidableEq α] (k:Nat→α):Nat→List (α × Int)
 | 0=>[]
 | n+1=>tset (k n) (n:Int) (plM k n)
theorem plM_len {α:Type} [DecidableEq α] (k:Nat→α) (n:Nat):(plM k n).length≤n:=by
 induction n with
 | zero=>simp [plM]
 | succ n ih=>exact Nat.le_trans (tset_len _ _ _) (by omega)
theorem plM_find {α:Type} [DecidableEq α] {k:Nat→α} {n:Nat} (h:∀ a b,a<n→b<n→k a=k b→a=b) {j:Nat} (hj:j<n):Q1X (k j) (plM k n)=some (j:Int):=by
 induction n with
 | zero=>omega
 | succ n ih =>
  rw [plM,QaC]
  by_cases e:k n=k j
  ·rw [if_pos e,h n j (by omega) hj e]
  rw [if_neg e];have:j ≠ n:=fun q=>e (by rw [q]);exact ih (fun a b ha hb=>h a b (by omega) (by omega)) (by omega)
noncomputable def posL (L:List (List Int)) (x:List Int):Int:=fstN L.length fun i=>rx L i=x
theorem fstN_at {n:Nat} {p:Nat→Prop} {m:Nat} (hm:m<n) (hp:p m) (hlt:∀ k,k<m→¬ p k):fstN n p=(m:Int):=by
 unfold fstN;rw [show ((List.range n).find? fun i=>bo (p i))=some m from List.find?_eq_some_iff_getElem.2 ⟨by rw [bo_tt];exact hp,m,by simpa using hm,by simp,fun j hj=>by simp [Q1n (hlt j hj)]⟩];rfl
theorem fstN_no {n:Nat} {p:Nat→Prop} (h:∀ i,i<n→¬ p i):fstN n p = -1:=by
 rcases Q46 n p with ⟨h1,_⟩|⟨k,h1,h2,_⟩
 ·exact h1
 exact absurd h2 (h k h1)
theorem fst_bind {ε β:Type} {body:Int→Option (Ctl Int ε)} {K:ε→Option β} {r:Option β} (n:Nat) (p:Nat→Prop) {eb:Nat→ε} {eg:ε} (hn:n<4611686018427387904) (h1:∀ i:Nat,i<n→¬ p i→body (i:Int)=some (.next ((i:Int)+1))) (h2:∀ i:Nat,i<n→p i→body (i:Int)=some (.ret (eb i))) (h3:body (n:Int)=some (.ret eg))
  (hb:∀ m,m<n→p m→(∀ k,k<m→¬ p k)→K (eb m)=r) (hg:(∀ i,i<n→¬ p i)→K eg=r):(Qy body fuel 0).bind K=r:=by
 rcases Q9I n (fun i=>¬ p i) hn h1 (fun i hi h=>h2 i hi (Classical.byContradiction h)) h3 with ⟨h,e⟩|⟨m,hm,hq,hlt,e⟩
 ·rw [e];exact hg h
 rw [e];exact hb m hm (Classical.byContradiction hq) hlt
theorem e_find {L:List (List Int)} (hn:L.length<1000000) (x:List Int):Q3u L x=some (posL L x):=by
 unfold Q3u Q4d posL;refine fst_bind L.length (fun i=>rx L i=x) (eb:=fun i=>Sum.inr (i:Int)) (eg:=Sum.inl ()) (by omega) (fun i hi h=>?_) (fun i hi h=>?_) (by simp) (fun m hm hp hlt=>?_) fun h=>?_
 ·rw [if_pos (by omega),Q4 (by omega)];simp only [Option.bind_some,decide_eq_true_eq,if_neg h];rw [Q4 (by unfold B64;omega)]
 ·rw [if_pos (by omega),Q4 (by omega)];simp only [Option.bind_some,decide_eq_true_eq,if_pos h]
 ·simp only;rw [fstN_at hm hp hlt]
 simp only;rw [fstN_no h]
end
section
attribute [local simp] Ql Q11 QE Q1j QW
theorem homL_in {c:Cat} {f x y:Int} (h:Ar c f x y):f∈homL c x y:=by
 unfold homL;rw [mem_flt];refine ⟨f.toNat,by omega,?_,by omega⟩;rw [Int.toNat_of_nonneg h.1.1];exact h.2
end
section
attribute [local simp] Ql Q11 QE Q1j QW
structure NT (f g:Fn):Prop where
 hf:f.Is
 hg:g.Is
 e:f.t=g.t
noncomputable def natS (f g:Fn) (x y:Nat):Int:=((homL f.t (ix f.ob x) (ix g.ob y)).length:Int)
noncomputable def natB (f g:Fn) (a y:Nat):List Int:=(homL f.t (ix f.ob (ix f.s.to a)) (ix g.ob y)).map fun h=>idxL (homL f.t (ix f.ob (ix f.s.fr a)) (ix g.ob y)) (ix (rx f.t.cs (ix f.ar a)) h)
noncomputable def natH (f g:Fn) (b x:Nat):List Int:=(homL f.t (ix f.ob x) (ix g.ob (ix g.s.fr b))).map fun h=>idxL (homL f.t (ix f.ob x) (ix g.ob (ix g.s.to b))) (ix (rx f.t.cs h) (ix g.ar b))
noncomputable def natP (f g:Fn):Prf:=⟨f.s,g.s,tab f.ob.length fun x=>tab g.ob.length fun y=>natS f g x y,tab f.ar.length fun a=>tab g.ob.length fun y=>natB f g a y,tab g.ar.length fun b=>tab f.ob.length fun x=>natH f g b x⟩
theorem Fn.Is.arr {f:Fn} (h:f.Is) {a:Nat} (ha:a<f.ar.length):Ar f.t (ix f.ar a) (ix f.ob (ix f.s.fr a)) (ix f.ob (ix f.s.to a)) :=
 ⟨h.ar a ha,h.ends a (by have:=h.la;omega)⟩
theorem Q2N {n:Nat} (v:Nat→List Int) {i:Nat} (hi:i<n):rx (tab n v) i=v i:=by simp [rx,tab,List.getD_eq_getElem?_getD,hi]
theorem Q1q {α:Type} [Inhabited α] {n:Nat} (v:Nat→α) {i:Nat} (hi:i<n):gx (tab n v) i=v i:=by simp [gx,tab,List.getD_eq_getElem?_getD,hi]
theorem ix_map {xs:List Int} (v:Int→Int) {i:Nat} (hi:i<xs.length):ix (xs.map v) i=v (ix xs i):=by simp [ix,List.getD_eq_getElem?_getD,hi]
theorem Q4U {f g:Fn} {x y:Nat} (hx:x<f.ob.length) (hy:y<g.ob.length):ix (rx (natP f g).sz x) y=natS f g x y:=by
 show ix (rx (tab f.ob.length fun x=>tab g.ob.length fun y=>natS f g x y) x) y=_;rw [Q2N _ hx,Q3R _ _ hy]
theorem NT.obn {f g:Fn} (h:NT f g):(f.ob.length:Int)=f.s.n∧f.ob.length≤8∧f.ar.length=f.s.fr.length∧f.ar.length≤40∧(g.ob.length:Int)=g.s.n∧g.ob.length≤8∧g.ar.length=g.s.fr.length∧g.ar.length≤40∧f.t.fr.length≤40 :=
 ⟨h.hf.lo,h.hf.lob,h.hf.la,h.hf.lar,h.hg.lo,h.hg.lob,h.hg.la,h.hg.lar,h.hf.t.1.m40⟩
theorem Q9N {c:Cat} (hc:c.Is) {a:Nat} (ha:a<c.fr.length):∃ x y:Nat,ix c.fr a=x∧ix c.to a=y∧(x:Int)<c.n∧(y:Int)<c.n:=by
 have e:=hc.ends (a:=a) (by omega);exact ⟨(ix c.fr a).toNat,(ix c.to a).toNat,by omega,by omega,by omega,by omega⟩
theorem Q9M {f g:Fn} (h:NT f g):(natP f g).M:=by
 obtain ⟨l1,l2,l3,l4,l5,l6,l7,l8,l9⟩:=h.obn;have z:(natP f g).Z:=by
  refine ⟨h.hf.s,h.hg.s,by simp [natP,l1],by simp [natP,l3],by simp [natP,l7],fun x hx=>?_⟩;have hx':x<f.ob.length:=by simpa [natP] using hx
  have e:rx (natP f g).sz x=tab g.ob.length fun y=>natS f g x y:=Q2N _ hx';refine ⟨by rw [e];simp [natP,l5],fun y hy=>?_⟩;rw [e,Q3Z] at hy;rw [Q4U hx' hy];have:=Q2m f.t (ix f.ob x) (ix g.ob y);unfold natS;omega
 refine ⟨z,fun a ha=>?_,fun b hb=>?_⟩
 ·have ha':a<f.ar.length:=by simpa [natP] using ha
  have e:gx (natP f g).bf a=tab g.ob.length fun y=>natB f g a y:=Q1q _ ha';refine ⟨by rw [e];simp [natP,l5],fun y hy=>?_⟩;rw [e,Q3Z] at hy;rw [e,Q2N _ hy];obtain ⟨u,v,eu,ev,hu,hv⟩:=Q9N h.hf.s (a:=a) (by omega);have ar:=h.hf.arr ha';show MpP (natB f g a y) (ix (rx (natP f g).sz (ix f.s.to a)) y) (ix (rx (natP f g).sz (ix f.s.fr a)) y);rw [eu,ev] at ar ⊢;rw [Q4U (by omega) hy,Q4U (by omega) hy];unfold natB natS;rw [eu,ev];refine ⟨by simp,fun j hj=>?_⟩;rw [List.length_map] at hj;rw [ix_map _ hj];exact (idx_mem (homL_in (Ar.two h.hf.t ar (Q5E hj)))).1
 have hb':b<g.ar.length:=by simpa [natP] using hb
 have e:gx (natP f g).bh b=tab f.ob.length fun x=>natH f g b x:=Q1q _ hb';refine ⟨by rw [e];simp [natP,l1],fun x hx=>?_⟩;rw [e,Q3Z] at hx;rw [e,Q2N _ hx];obtain ⟨u,v,eu,ev,hu,hv⟩:=Q9N h.hg.s (a:=b) (by omega);have ar:=h.hg.arr hb';rw [← h.e] at ar;show MpP (natH f g b x) (ix (rx (natP f g).sz x) (ix g.s.fr b)) (ix (rx (natP f g).sz x) (ix g.s.to b));rw [eu,ev] at ar ⊢;rw [Q4U hx (by omega),Q4U hx (by omega)];unfold natH natS;rw [eu,ev];refine ⟨by simp,fun j hj=>?_⟩;rw [List.length_map] at hj;rw [ix_map _ hj];exact (idx_mem (homL_in (Ar.two h.hf.t (Q5E hj) ar))).1
end
attribute [local simp] unk unA unE unT unC flat eL eI Qr Q1g Q9 Prf.cells XTripleint64.cells
noncomputable def Q2a (p_:Prf) (q_:Prf) (x_:Int) (z_:Int):Option (List XTripleint64) :=
 (Qy (σ:=List XTripleint64 × Int) (ε:=List XTripleint64) (fun s32 =>
  if s32.2<p_.t.n then
   (
    ass (0≤x_∧x_<(p_.sz.length:Int)) <|
    ass (0≤s32.2∧s32.2<((rx p_.sz x_).length:Int)) <|
    (Qy (σ:=List XTripleint64 × Int) (ε:=List XTripleint64) (fun s49 =>
     if s49.2<(ix (rx p_.sz x_) s32.2) then
      (
       ass (0≤s32.2∧s32.2<(q_.sz.length:Int)) <|
       ass (0≤z_∧z_<((rx q_.sz s32.2).length:Int)) <|
       (Qy (σ:=List XTripleint64 × Int) (ε:=List XTripleint64) (fun s57 =>
        if s57.2<(ix (rx q_.sz s32.2) z_) then
         ass ((s57.1++[(⟨s32.2,s49.2,s57.2⟩:XTripleint64)]).length≤1073741824) <|
         ass (B64 (s57.2+1)) <|
         some (Ctl.next (s57.1++[(⟨s32.2,s49.2,s57.2⟩:XTripleint64)],s57.2+1))
        else
         some (Ctl.ret s57.1)) fuel (s49.1,0)).bind fun p57 =>
       some p57:Option (List XTripleint64)).bind fun b51 =>
      ass (B64 (s49.2+1)) <|
      some (Ctl.next (b51,s49.2+1))
     else
      some (Ctl.ret s49.1)) fuel (s32.1,0)).bind fun p49 =>
    some p49:Option (List XTripleint64)).bind fun b34 =>
   ass (B64 (s32.2+1)) <|
   some (Ctl.next (b34,s32.2+1))
  else
   some (Ctl.ret s32.1)) fuel ([],0)).bind fun b1 =>
 some b1
@[simp] abbrev Yy (a b:Prf) (c d:Int) (e:List (Nat × AV)):List (Nat × AV):=(0,.rptr (Prf.cells true a))::(1,.rptr (Prf.cells true b))::(2,iV c)::(3,iV d)::e
@[simp] abbrev Y0p (a:Prf) (b:List XTripleint64 × Int) (c:Int) (d:List XTripleint64 × Int) (e:List (Nat × AV)):List (Nat × AV):=(18,iV a.t.n)::(19,iV b.2)::(31,iV (ix (rx a.sz c) b.2))::(32,iV d.2)::e
@[simp] abbrev Y0B (a:List XTripleint64 × Int) (b:List (Nat × Ent)):List (Nat × Ent):=(0,.row 3 (Es (XTripleint64.cells true) a.1))::b
theorem Q7A (p_:Prf) (q_:Prf) (x_:Int) (z_:Int) (r:List XTripleint64) (h:Q2a p_ q_ x_ z_=some r):Contract Tryz.prog 65 [.rptr (p_.cells true),.rptr (q_.cells true),iV x_,iV z_] (.lst true 3 (Es (XTripleint64.cells true) r)):=by
 refine Qc (rvs:=[.tmp 8]) (rs:=[.lst true 3 (Es (XTripleint64.cells true) r)]) Tryz.func65 rfl rfl rfl rfl (by simp [Tryz.f65]) fun F hN hP=>?_;unfold Q2a at h;refine Q3 (runQ hN fun K hK=>?_);simp;repeat refine sdQ ?_
 refine hK _ ?_;clear hK K;refine tn (Q7 (st':=⟨Yy p_ q_ x_ z_ [],[],0⟩) (wkQ9 []) (Q3 (runQ hN fun K hK=>?_)));simp;repeat refine sdQ ?_
 refine hK _ ?_;clear hK K;refine tn (Q7 (st':=⟨Yy p_ q_ x_ z_ [(9,.own 0 0 0)],[(0,.mix 3 [])],1⟩) (wkQ9 [(0,0)]) (Q3 (Q3 (runQ hN fun K hK=>?_))));simp;repeat refine sdQ ?_
 refine hK _ (tn (Q7 (st':=⟨Yy p_ q_ x_ z_ [(9,.own 0 0 0),(18,iV p_.t.n),(19,iV 0)],[(0,.mix 3 [])],1⟩) (wkQ9 [(0,0)]) ?_));clear hK K;replace ⟨e1,h,h1⟩:=bind_some h;refine Qg (fun b1:List XTripleint64=>⟨[(9,.own 0 0 b1.length)],[(0,.row 3 (Es (XTripleint64.cells true) b1))],1⟩) (fun b1=>b1=e1) ?_ ?_
 ·refine Qa (Qn h (fun s32:List XTripleint64 × Int=>⟨Yy p_ q_ x_ z_ [(9,.own 0 0 s32.1.length),(18,iV p_.t.n),(19,iV s32.2)],Y0B s32 [],1⟩) (Q1J ⟨Yy p_ q_ x_ z_ [(9,.own 0 0 0),(18,iV p_.t.n),(19,iV 0)],[(0,.row 3 (Es (XTripleint64.cells true) []))],1⟩ (Wk.nils [] (by simp) (by simp) (by simp [nlA]) (by simp [entN,nlL,nlA,Prf.cells,XTripleint64.cells,UA,U1,IA,I1,LA,L1,BA,B1,EA,E1,E2,eB,eI,eL,Q8 _ Q9 _ (fun _=>rfl),Q8 _ (XTripleint64.cells true) _ (fun _=>rfl)]) (by simp)) (wkQ9 [(0,0)])) ?_);clear h;intro k32 s32 c32 h hk32;refine Q3 (runQ hN fun K hK=>?_);simp;repeat refine sdQ ?_
  refine hK _ ?_;clear hK K;refine tn (Q3 (Qd rfl (fun g=>?_) fun g=>?_))
  ·have g33:s32.2<p_.t.n:=gQ;clear g;replace h:=if_l g33 h;refine Qe (tn (Q3 ?_));replace ⟨e34,h,h34⟩:=bind_some h;refine Qg (fun b34:List XTripleint64=>⟨Yy p_ q_ x_ z_ [(9,.own 0 0 b34.length),(18,iV p_.t.n),(19,iV s32.2)],[(0,.row 3 (Es (XTripleint64.cells true) b34))],1⟩) (fun b34=>b34=e34) ?_ ?_
   ·refine Qa (Q3 (runQ hN fun K hK=>?_));simp;(repeat refine sdQ ?_);refine hK _ ?_;clear hK K;refine tn (Q7 (st':=⟨Yy p_ q_ x_ z_ [(9,.own 0 0 s32.1.length),(10,iV s32.2),(18,iV p_.t.n),(19,iV s32.2)],Y0B s32 [],1⟩) (wkQ9 [(0,0)]) (Q3 (runQ hN fun K hK=>?_)));replace ⟨a35,h⟩:=Q0 h;replace ⟨a36,h⟩:=Q0 h;simp [at_L a35,at_I a36];(repeat refine sdQ ?_);refine hK _ (tn (Q7 (st':=⟨Yy p_ q_ x_ z_ [(9,.own 0 0 s32.1.length),(10,iV s32.2),(18,iV p_.t.n),(19,iV s32.2),(31,iV (ix (rx p_.sz x_) s32.2)),(32,iV 0)],Y0B s32 [],1⟩) (wkQ9 [(0,0)]) (Qa ?_)));clear hK K;replace ⟨e49,he49,h49⟩:=bind_some h;refine Qn he49 (fun s49:List XTripleint64 × Int=>⟨Yy p_ q_ x_ z_ ((9,.own 0 0 s49.1.length)::(10,iV s32.2)::Y0p p_ s32 x_ s49 []),Y0B s49 [],1⟩) (wkQ9 [(0,0)]) ?_;intro k49 s49 c49 h hk49;refine Q3 (runQ hN fun K hK=>?_);simp;(repeat refine sdQ ?_);refine hK _ ?_;clear hK K;refine tn (Q3 (Qd rfl (fun g=>?_) fun g=>?_))
    ·have g50:s49.2<(ix (rx p_.sz x_) s32.2):=gQ;clear g;replace h:=if_l g50 h;refine Qe (tn (Q3 ?_));replace ⟨e51,h,h51⟩:=bind_some h;refine Qg (fun b51:List XTripleint64=>⟨Yy p_ q_ x_ z_ ((9,.own 0 0 b51.length)::(10,iV s32.2)::Y0p p_ s32 x_ s49 []),[(0,.row 3 (Es (XTripleint64.cells true) b51))],1⟩) (fun b51=>b51=e51) ?_ ?_
     ·refine Qa (Q3 (runQ hN fun K hK=>?_));simp;(repeat refine sdQ ?_);refine hK _ ?_;clear hK K;refine tn (Q7 (st':=⟨Yy p_ q_ x_ z_ ((9,.own 0 0 s49.1.length)::(10,iV s32.2)::(11,iV s49.2)::Y0p p_ s32 x_ s49 []),Y0B s49 [],1⟩) (wkQ9 [(0,0)]) (Q3 (runQ hN fun K hK=>?_)));replace ⟨a52,h⟩:=Q0 h;replace ⟨a53,h⟩:=Q0 h;simp [at_L a52,at_I a53];(repeat refine sdQ ?_);refine hK _ (tn (Q7 (st':=⟨Yy p_ q_ x_ z_ ((9,.own 0 0 s49.1.length)::(10,iV s32.2)::(11,iV s49.2)::Y0p p_ s32 x_ s49 [(44,iV (ix (rx q_.sz s32.2) z_)),(45,iV 0)]),Y0B s49 [],1⟩) (wkQ9 [(0,0)]) (Qa ?_)));clear hK K;replace ⟨e57,he57,h57⟩:=bind_some h;refine Qn he57 (fun s57:List XTripleint64 × Int=>⟨Yy p_ q_ x_ z_ ((9,.own 0 0 s57.1.length)::(10,iV s32.2)::(11,iV s49.2)::Y0p p_ s32 x_ s49 [(44,iV (ix (rx q_.sz s32.2) z_)),(45,iV s57.2)]),Y0B s57 [],1⟩) (wkQ9 [(0,0)]) ?_;intro k57 s57 c57 h hk57;refine Q3 (runQ hN fun K hK=>?_);simp;(repeat refine sdQ ?_);refine hK _ ?_;clear hK K;refine tn (Q3 (Qd rfl (fun g=>?_) fun g=>?_))
      ·have g58:s57.2<(ix (rx q_.sz s32.2) z_):=gQ;clear g;replace h:=if_l g58 h;refine Qe (tn (Q3 (Qa (Q3 (runQ hN fun K hK=>?_)))));simp;(repeat refine sdQ ?_);refine hK _ ?_;clear hK K;refine tn (Q7 (st':=⟨Yy p_ q_ x_ z_ ((9,.own 0 0 s57.1.length)::(10,iV s32.2)::(11,iV s49.2)::(12,iV s57.2)::Y0p p_ s32 x_ s49 [(44,iV (ix (rx q_.sz s32.2) z_)),(45,iV s57.2)]),Y0B s57 [],1⟩) (wkQ9 [(0,0)]) (runQ hN fun K hK=>?_));replace ⟨a59,h⟩:=Q0 h;(try simp only [List.length_append,List.length_cons,List.length_nil] at a59);simp [a59];(repeat refine sdQ ?_);refine hK _ ?_;clear hK K;refine bn (tn (Q7 (st':=⟨Yy p_ q_ x_ z_ ((9,.own 0 0 ((s57.1++[(⟨s32.2,s49.2,s57.2⟩:XTripleint64)]).length))::(10,iV s32.2)::(11,iV s49.2)::Y0p p_ s32 x_ s49 [(44,iV (ix (rx q_.sz s32.2) z_)),(45,iV s57.2)]),[(0,.row 3 (Es (XTripleint64.cells true) (s57.1++[(⟨s32.2,s49.2,s57.2⟩:XTripleint64)])))],1⟩) (wkQ9 [(2,0)]) (runQ hN fun K hK=>?_)));replace ⟨a60,h⟩:=Q0 h;simp [Qh a60];(repeat refine sdQ ?_);refine hK _ ?_;clear hK K;cases h;exact rn (s':=(s57.1++[(⟨s32.2,s49.2,s57.2⟩:XTripleint64)],s57.2+1)) hk57 (wkQ9 [(0,0)])
      have g58:¬ (s57.2<(ix (rx q_.sz s32.2) z_)):=gQ;clear g;replace h:=if_r g58 h;refine Qm (tx (lx (bh (bn ?_))));cases h;have q:_=e57:=hk57;have h:=h57;rw [← q] at h;clear q;(try dsimp only at h);exact jn (b:=s57.1) (Option.some.inj h) (wkQ9 [(0,0)])
     intro b51 hb51;have h:=h51;(try rw [← hb51] at h);clear h51;(try dsimp only at h);refine runQ hN fun K hK=>?_;replace ⟨a61,h⟩:=Q0 h;simp [Qh a61];(repeat refine sdQ ?_);refine hK _ ?_;clear hK K;cases h;exact rn (s':=(b51,s49.2+1)) hk49 (wkQ9 [(0,0)])
    have g50:¬ (s49.2<(ix (rx p_.sz x_) s32.2)):=gQ;clear g;replace h:=if_r g50 h;refine Qm (tx (lx (bh (bn ?_))));cases h;have q:_=e49:=hk49;have h:=h49;rw [← q] at h;clear q;(try dsimp only at h);exact jn (b:=s49.1) (Option.some.inj h) (wkQ9 [(0,0)])
   intro b34 hb34;have h:=h34;(try rw [← hb34] at h);clear h34;(try dsimp only at h);refine runQ hN fun K hK=>?_;replace ⟨a62,h⟩:=Q0 h;simp [Qh a62];(repeat refine sdQ ?_);refine hK _ ?_;clear hK K;cases h;exact rn (s':=(b34,s32.2+1)) hk32 (wkQ9 [(0,0)])
  have g33:¬ (s32.2<p_.t.n):=gQ;clear g;replace h:=if_r g33 h;refine Qm (tx (lx (bh ?_)));cases h;exact jn (b:=s32.1) hk32 (wkQ9 [(0,0)])
 intro b1 hb1;have h:=h1;try rw [← hb1] at h
 clear h1;try dsimp only at h
 refine Q3 (runQ hN fun K hK=>?_);simp;repeat refine sdQ ?_
 refine hK _ (tn (Q7 (st':=⟨[(8,.own 0 0 b1.length)],[(0,.row 3 (Es (XTripleint64.cells true) b1))],1⟩) (wkQ9 [(0,0)]) (Qo ?_)));clear hK K;have hr:=Option.some.inj h;rw [← hr];refine ⟨_,(.tmp .nil),?_⟩;refine ⟨(.one rfl rfl .nil),[.lst true 3 (Es (XTripleint64.cells true) b1)],[0],by simp [Prf.cells,XTripleint64.cells,UA,U1,IA,I1,LA,L1,BA,B1,EA,E1,E2,eB,eI,eL,Q8 _ Q9 _ (fun _=>rfl),Q8 _ (XTripleint64.cells true) _ (fun _=>rfl)],by simp,(UpL.refl _)⟩
attribute [local simp] unk unA unE unT unC flat eL eI Qr Q1g Prf.cells
noncomputable def Q2G (p_:Prf) (q_:Prf) (x_:Int) (z_:Int):Option (List Int) :=
 (Qy (σ:=List Int × Int × Int) (ε:=List Int) (fun s11 =>
  if s11.2.2<p_.t.n then
   ass ((s11.1++[s11.2.1]).length≤1073741824) <|
   ass (0≤x_∧x_<(p_.sz.length:Int)) <|
   ass (0≤s11.2.2∧s11.2.2<((rx p_.sz x_).length:Int)) <|
   ass (0≤s11.2.2∧s11.2.2<(q_.sz.length:Int)) <|
   ass (0≤z_∧z_<((rx q_.sz s11.2.2).length:Int)) <|
   ass (B64 ((ix (rx p_.sz x_) s11.2.2) * (ix (rx q_.sz s11.2.2) z_))) <|
   ass (B64 (s11.2.1+((ix (rx p_.sz x_) s11.2.2) * (ix (rx q_.sz s11.2.2) z_)))) <|
   ass (B64 (s11.2.2+1)) <|
   some (Ctl.next (s11.1++[s11.2.1],s11.2.1+((ix (rx p_.sz x_) s11.2.2) * (ix (rx q_.sz s11.2.2) z_)),s11.2.2+1))
  else
   some (Ctl.ret s11.1)) fuel ([],0,0)).bind fun b1 =>
 some b1
@[simp] abbrev Ym (a b:Prf) (c:List (Nat × Ent)):List (Nat × Ent):=(0,.mix 13 [(Prf.cells true a)])::(1,.mix 13 [(Prf.cells true b)])::c
@[simp] abbrev YN (a b:Int) (c:List (Nat × AV)):List (Nat × AV):=(2,iV a)::(3,iV b)::(4,.adr 0 0 0)::(5,.adr 1 0 0)::c
theorem Q7C (p_:Prf) (q_:Prf) (x_:Int) (z_:Int) (r:List Int) (h:Q2G p_ q_ x_ z_=some r):Contract Tryz.prog 82 [.agg (p_.cells true),.agg (q_.cells true),iV x_,iV z_] (lI r):=by
 refine Qc (rvs:=[.tmp 8]) (rs:=[lI r]) Tryz.func82 rfl rfl rfl rfl (by simp [Tryz.f82]) fun F hN hP=>?_;unfold Q2G at h;refine Q3 (runQ hN fun K hK=>?_);simp;repeat refine sdQ ?_
 refine hK _ ?_;clear hK K;refine tn (Q7 (st':=⟨YN x_ z_ [],Ym p_ q_ [],2⟩) (wkQ9 [(0,0),(1,1)]) (Q3 (runQ hN fun K hK=>?_)));simp;repeat refine sdQ ?_
 refine hK _ ?_;clear hK K;refine tn (Q7 (st':=⟨YN x_ z_ [(9,.own 2 0 0)],Ym p_ q_ [(2,.mix 1 [])],3⟩) (wkI9 3) (Q3 (runQ hN fun K hK=>?_)));simp;repeat refine sdQ ?_
 refine hK _ ?_;clear hK K;refine tn (Q7 (st':=⟨YN x_ z_ [(9,.own 2 0 0),(10,iV 0)],Ym p_ q_ [(2,.mix 1 [])],3⟩) (wkI9 3) (Q3 (Q3 (runQ hN fun K hK=>?_))));simp;repeat refine sdQ ?_
 refine hK _ (tn (Q7 (st':=⟨YN x_ z_ [(9,.own 2 0 0),(10,iV 0),(11,iV 0)],Ym p_ q_ [(2,.mix 1 [])],3⟩) (wkI9 3) ?_));clear hK K;replace ⟨e1,h,h1⟩:=bind_some h;refine Qg (fun b1:List Int=>⟨[(9,.own 0 0 b1.length)],[(0,rI b1)],1⟩) (fun b1=>b1=e1) ?_ ?_
 ·refine Qa (Qn h (fun s11:List Int × Int × Int=>⟨YN x_ z_ [(9,.own 2 0 s11.1.length),(10,iV s11.2.1),(11,iV s11.2.2)],Ym p_ q_ [(2,rI s11.1)],3⟩) (Q1J ⟨YN x_ z_ [(9,.own 2 0 0),(10,iV 0),(11,iV 0)],Ym p_ q_ [(2,rI [])],3⟩ (Wk.nils [] (by simp) (by simp) (by simp [nlA]) (by simp [entN,nlL,nlA,Prf.cells,UA,U1,IA,I1,LA,L1,BA,B1,EA,E1,E2,eB,eI,eL]) (by simp)) (wkI9 3)) ?_);clear h;intro k11 s11 c11 h hk11;refine Q3 (Q3 (runQ hN fun K hK=>?_));simp;repeat refine sdQ ?_
  refine hK _ ?_;clear hK K;refine tn (Qd rfl (fun g=>?_) fun g=>?_)
  ·have g12:s11.2.2<p_.t.n:=gQ;clear g;replace h:=if_l g12 h;refine Qe (tn (Q3 (Qa (Q3 (runQ hN fun K hK=>?_)))));replace ⟨a13,h⟩:=Q0 h;(try simp only [List.length_append,List.length_cons,List.length_nil] at a13);simp [a13];(repeat refine sdQ ?_);refine hK _ ?_;clear hK K;refine tn (Q7 (st':=⟨YN x_ z_ [(9,.own 2 0 ((s11.1++[s11.2.1]).length)),(10,iV s11.2.1),(11,iV s11.2.2)],Ym p_ q_ [(2,rI (s11.1++[s11.2.1]))],3⟩) (wkQ9 [(0,0),(1,1),(4,2)]) (runQ hN fun K hK=>?_));replace ⟨a14,h⟩:=Q0 h;replace ⟨a15,h⟩:=Q0 h;replace ⟨a16,h⟩:=Q0 h;replace ⟨a17,h⟩:=Q0 h;replace ⟨a18,h⟩:=Q0 h;replace ⟨a19,h⟩:=Q0 h;simp [at_L a14,at_I a15,at_L a16,at_I a17,Qh a18,Qh a19];(repeat refine sdQ ?_);refine hK _ ?_;clear hK K;refine bn (tn (Q7 (st':=⟨YN x_ z_ [(9,.own 2 0 ((s11.1++[s11.2.1]).length)),(10,iV (s11.2.1+((ix (rx p_.sz x_) s11.2.2) * (ix (rx q_.sz s11.2.2) z_)))),(11,iV s11.2.2)],Ym p_ q_ [(2,rI (s11.1++[s11.2.1]))],3⟩) (wkI9 3) (runQ hN fun K hK=>?_)));replace ⟨a20,h⟩:=Q0 h;simp [Qh a20];(repeat refine sdQ ?_);refine hK _ ?_;clear hK K;cases h;exact rn (s':=(s11.1++[s11.2.1],s11.2.1+((ix (rx p_.sz x_) s11.2.2) * (ix (rx q_.sz s11.2.2) z_)),s11.2.2+1)) hk11 (wkI9 3)
  have g12:¬ (s11.2.2<p_.t.n):=gQ;clear g;replace h:=if_r g12 h;refine Qm (tx (lx (bh ?_)));cases h;exact jn (b:=s11.1) hk11 (wkQ9 [(2,0)])
 intro b1 hb1;have h:=h1;try rw [← hb1] at h
 clear h1;try dsimp only at h
 refine Q3 (runQ hN fun K hK=>?_);simp;repeat refine sdQ ?_
 refine hK _ (tn (Q7 (st':=⟨[(8,.own 0 0 b1.length)],[(0,rI b1)],1⟩) (wkQ9 [(0,0)]) (Qo ?_)));clear hK K;have hr:=Option.some.inj h;rw [← hr];refine ⟨_,(.tmp .nil),?_⟩;refine ⟨(.one rfl rfl .nil),[lI b1],[0],by simp [Prf.cells,UA,U1,IA,I1,LA,L1,BA,B1,EA,E1,E2,eB,eI,eL],by simp,(UpL.refl _)⟩
attribute [local simp] unk unA unE unT unC flat eL eI Qr Q1g Prf.cells
noncomputable def Q22 (p_:Prf) (q_:Prf) (x_:Int) (z_:Int):Option (List (List Int)) :=
 (Qy (σ:=List (List Int) × Int) (ε:=List (List Int)) (fun s38 =>
  if s38.2<p_.t.n then
   (
    (Qy (σ:=List (List Int) × Int) (ε:=List (List Int)) (fun s57 =>
     ass (0≤x_∧x_<(p_.sz.length:Int)) <|
     ass (0≤s38.2∧s38.2<((rx p_.sz x_).length:Int)) <|
     if s57.2<(ix (rx p_.sz x_) s38.2) then
      (
       (Qy (σ:=List (List Int) × Int) (ε:=List (List Int)) (fun s67 =>
        ass (0≤s38.2∧s38.2<(q_.sz.length:Int)) <|
        ass (0≤z_∧z_<((rx q_.sz s38.2).length:Int)) <|
        if s67.2<(ix (rx q_.sz s38.2) z_) then
         ass ((s67.1++[[s38.2,s57.2,s67.2]]).length≤1073741824) <|
         ass (B64 (s67.2+1)) <|
         some (Ctl.next (s67.1++[[s38.2,s57.2,s67.2]],s67.2+1))
        else
         some (Ctl.ret s67.1)) fuel (s57.1,0)).bind fun p67 =>
       some p67:Option (List (List Int))).bind fun b61 =>
      ass (B64 (s57.2+1)) <|
      some (Ctl.next (b61,s57.2+1))
     else
      some (Ctl.ret s57.1)) fuel (s38.1,0)).bind fun p57 =>
    some p57:Option (List (List Int))).bind fun b40 =>
   ass (B64 (s38.2+1)) <|
   some (Ctl.next (b40,s38.2+1))
  else
   some (Ctl.ret s38.1)) fuel ([],0)).bind fun b1 =>
 some b1
theorem Q6M (p_:Prf) (q_:Prf) (x_:Int) (z_:Int) (r:List (List Int)) (h:Q22 p_ q_ x_ z_=some r):Contract Tryz.prog 54 [.agg (p_.cells true),.agg (q_.cells true),iV x_,iV z_] (.lst true 1 (Ls r)):=by
 refine Qc (rvs:=[.tmp 8]) (rs:=[.lst true 1 (Ls r)]) Tryz.func54 rfl rfl rfl rfl (by simp [Tryz.f54]) fun F hN hP=>?_;unfold Q22 at h;refine Q3 (runQ hN fun K hK=>?_);simp;repeat refine sdQ ?_
 refine hK _ ?_;clear hK K;refine tn (Q7 (st':=⟨YN x_ z_ [],Ym p_ q_ [],2⟩) (wkQ9 [(0,0),(1,1)]) (Q3 (runQ hN fun K hK=>?_)));simp;repeat refine sdQ ?_
 refine hK _ ?_;clear hK K;refine tn (Q7 (st':=⟨YN x_ z_ [(9,.own 2 0 0)],Ym p_ q_ [(2,.mix 1 [])],3⟩) (wkI9 3) (Q3 (Q3 (runQ hN fun K hK=>?_))));simp;repeat refine sdQ ?_
 refine hK _ (tn (Q7 (st':=⟨YN x_ z_ [(9,.own 2 0 0),(10,iV 0)],Ym p_ q_ [(2,.mix 1 [])],3⟩) (wkI9 3) ?_));clear hK K;replace ⟨e1,h,h1⟩:=bind_some h;refine Qg (fun b1:List (List Int)=>⟨[(9,.own 0 0 b1.length)],[(0,.row 1 (Ls b1))],1⟩) (fun b1=>b1=e1) ?_ ?_
 ·refine Qa (Qn h (fun s38:List (List Int) × Int=>⟨YN x_ z_ [(9,.own 2 0 s38.1.length),(10,iV s38.2)],Ym p_ q_ [(2,.row 1 (Ls s38.1))],3⟩) (Q1J ⟨YN x_ z_ [(9,.own 2 0 0),(10,iV 0)],Ym p_ q_ [(2,.row 1 (Ls []))],3⟩ (Wk.nils [] (by simp) (by simp) (by simp [nlA]) (by simp [entN,nlL,nlA,Prf.cells,UA,U1,IA,I1,LA,L1,BA,B1,EA,E1,E2,eB,eI,eL]) (by simp)) (wkI9 3)) ?_);clear h;intro k38 s38 c38 h hk38;refine Q3 (Q3 (runQ hN fun K hK=>?_));simp;repeat refine sdQ ?_
  refine hK _ ?_;clear hK K;refine tn (Qd rfl (fun g=>?_) fun g=>?_)
  ·have g39:s38.2<p_.t.n:=gQ;clear g;replace h:=if_l g39 h;refine Qe (tn (Q3 ?_));replace ⟨e40,h,h40⟩:=bind_some h;refine Qg (fun b40:List (List Int)=>⟨YN x_ z_ [(9,.own 2 0 b40.length),(10,iV s38.2)],Ym p_ q_ [(2,.row 1 (Ls b40))],3⟩) (fun b40=>b40=e40) ?_ ?_
   ·refine Qa (Q3 (runQ hN fun K hK=>?_));simp;(repeat refine sdQ ?_);refine hK _ (tn (Q7 (st':=⟨YN x_ z_ [(9,.own 2 0 s38.1.length),(10,iV s38.2),(11,iV 0)],Ym p_ q_ [(2,.row 1 (Ls s38.1))],3⟩) (wkI9 3) (Qa ?_)));clear hK K;replace ⟨e57,he57,h57⟩:=bind_some h;refine Qn he57 (fun s57:List (List Int) × Int=>⟨YN x_ z_ [(9,.own 2 0 s57.1.length),(10,iV s38.2),(11,iV s57.2)],Ym p_ q_ [(2,.row 1 (Ls s57.1))],3⟩) (wkI9 3) ?_;intro k57 s57 c57 h hk57;refine Q3 (Q3 (runQ hN fun K hK=>?_));replace ⟨a58,h⟩:=Q0 h;replace ⟨a59,h⟩:=Q0 h;simp [at_L a58,at_I a59];(repeat refine sdQ ?_);refine hK _ ?_;clear hK K;refine tn (Qd rfl (fun g=>?_) fun g=>?_)
    ·have g60:s57.2<(ix (rx p_.sz x_) s38.2):=gQ;clear g;replace h:=if_l g60 h;refine Qe (tn (Q3 ?_));replace ⟨e61,h,h61⟩:=bind_some h;refine Qg (fun b61:List (List Int)=>⟨YN x_ z_ [(9,.own 2 0 b61.length),(10,iV s38.2),(11,iV s57.2)],Ym p_ q_ [(2,.row 1 (Ls b61))],3⟩) (fun b61=>b61=e61) ?_ ?_
     ·refine Qa (Q3 (runQ hN fun K hK=>?_));simp;(repeat refine sdQ ?_);refine hK _ (tn (Q7 (st':=⟨YN x_ z_ [(9,.own 2 0 s57.1.length),(10,iV s38.2),(11,iV s57.2),(12,iV 0)],Ym p_ q_ [(2,.row 1 (Ls s57.1))],3⟩) (wkI9 3) (Qa ?_)));clear hK K;replace ⟨e67,he67,h67⟩:=bind_some h;refine Qn he67 (fun s67:List (List Int) × Int=>⟨YN x_ z_ [(9,.own 2 0 s67.1.length),(10,iV s38.2),(11,iV s57.2),(12,iV s67.2)],Ym p_ q_ [(2,.row 1 (Ls s67.1))],3⟩) (wkI9 3) ?_;intro k67 s67 c67 h hk67;refine Q3 (Q3 (runQ hN fun K hK=>?_));replace ⟨a68,h⟩:=Q0 h;replace ⟨a69,h⟩:=Q0 h;simp [at_L a68,at_I a69];(repeat refine sdQ ?_);refine hK _ ?_;clear hK K;refine tn (Qd rfl (fun g=>?_) fun g=>?_)
      ·have g70:s67.2<(ix (rx q_.sz s38.2) z_):=gQ;clear g;replace h:=if_l g70 h;refine Qe (tn (Q3 (Qa (runQ hN fun K hK=>?_))));replace ⟨a71,h⟩:=Q0 h;(try simp only [List.length_append,List.length_cons,List.length_nil] at a71);simp [a71];(repeat refine sdQ ?_);refine hK _ ?_;clear hK K;refine bn (tn (Q7 (st':=⟨YN x_ z_ [(9,.own 2 0 ((s67.1++[[s38.2,s57.2,s67.2]]).length)),(10,iV s38.2),(11,iV s57.2),(12,iV s67.2)],Ym p_ q_ [(2,.row 1 (Ls (s67.1++[[s38.2,s57.2,s67.2]])))],3⟩) (wkQ9 [(0,0),(1,1),(5,2)]) (runQ hN fun K hK=>?_)));replace ⟨a72,h⟩:=Q0 h;simp [Qh a72];(repeat refine sdQ ?_);refine hK _ ?_;clear hK K;cases h;exact rn (s':=(s67.1++[[s38.2,s57.2,s67.2]],s67.2+1)) hk67 (wkI9 3)
      have g70:¬ (s67.2<(ix (rx q_.sz s38.2) z_)):=gQ;clear g;replace h:=if_r g70 h;refine Qm (tx (lx (bh (bn ?_))));cases h;have q:_=e67:=hk67;have h:=h67;rw [← q] at h;clear q;(try dsimp only at h);exact jn (b:=s67.1) (Option.some.inj h) (wkI9 3)
     intro b61 hb61;have h:=h61;(try rw [← hb61] at h);clear h61;(try dsimp only at h);refine runQ hN fun K hK=>?_;replace ⟨a73,h⟩:=Q0 h;simp [Qh a73];(repeat refine sdQ ?_);refine hK _ ?_;clear hK K;cases h;exact rn (s':=(b61,s57.2+1)) hk57 (wkI9 3)
    have g60:¬ (s57.2<(ix (rx p_.sz x_) s38.2)):=gQ;clear g;replace h:=if_r g60 h;refine Qm (tx (lx (bh (bn ?_))));cases h;have q:_=e57:=hk57;have h:=h57;rw [← q] at h;clear q;(try dsimp only at h);exact jn (b:=s57.1) (Option.some.inj h) (wkI9 3)
   intro b40 hb40;have h:=h40;(try rw [← hb40] at h);clear h40;(try dsimp only at h);refine runQ hN fun K hK=>?_;replace ⟨a74,h⟩:=Q0 h;simp [Qh a74];(repeat refine sdQ ?_);refine hK _ ?_;clear hK K;cases h;exact rn (s':=(b40,s38.2+1)) hk38 (wkI9 3)
  have g39:¬ (s38.2<p_.t.n):=gQ;clear g;replace h:=if_r g39 h;refine Qm (tx (lx (bh ?_)));cases h;exact jn (b:=s38.1) hk38 (wkQ9 [(2,0)])
 intro b1 hb1;have h:=h1;try rw [← hb1] at h
 clear h1;try dsimp only at h
 refine Q3 (runQ hN fun K hK=>?_);simp;repeat refine sdQ ?_
 refine hK _ (tn (Q7 (st':=⟨[(8,.own 0 0 b1.length)],[(0,.row 1 (Ls b1))],1⟩) (wkQ9 [(0,0)]) (Qo ?_)));clear hK K;have hr:=Option.some.inj h;rw [← hr];refine ⟨_,(.tmp .nil),?_⟩;refine ⟨(.one rfl rfl .nil),[.lst true 1 (Ls b1)],[0],by simp [Prf.cells,UA,U1,IA,I1,LA,L1,BA,B1,EA,E1,E2,eB,eI,eL],by simp,(UpL.refl _)⟩
section
attribute [local simp] Ql Q11 QE Q1j QW
noncomputable def szx (p:Prf) (x:Nat):Nat→Nat:=fun y=>(ix (rx p.sz x) y).toNat
noncomputable def szz (q:Prf) (z:Nat):Nat→Nat:=fun y=>(ix (rx q.sz y) z).toNat
def tr3 (y e d:Nat):List Int:=[(y:Int),(e:Int),(d:Int)]
def trX (y e d:Nat):XTripleint64:=⟨(y:Int),(e:Int),(d:Int)⟩
structure PQ (p q:Prf):Prop where
 a:p.M
 b:q.M
 e:p.t=q.s
theorem PQ.sx {p q:Prf} (h:PQ p q) {x y:Nat} (hx:(x:Int)<p.s.n) (hy:y<p.t.id.length):ix (rx p.sz x) y=(szx p x y:Int)∧szx p x y≤64∧(x:Int)<(p.sz.length:Int)∧(y:Int)<((rx p.sz x).length:Int):=by
 have n:=h.a.z.ht.nums;have g:=h.a.z.S (x:=x) (by omega);have g2:=g.2 y (by omega);have l:=h.a.z.ls;unfold szx;omega
theorem PQ.sz {p q:Prf} (h:PQ p q) {z y:Nat} (hz:(z:Int)<q.t.n) (hy:y<p.t.id.length):ix (rx q.sz y) z=(szz q z y:Int)∧szz q z y≤64∧(y:Int)<(q.sz.length:Int)∧(z:Int)<((rx q.sz y).length:Int):=by
 have n:=h.b.z.hs.nums;rw [h.e] at hy;have g:=h.b.z.S (x:=y) (by omega);have g2:=g.2 z (by omega);have l:=h.b.z.ls;unfold szz;omega
theorem Q8S {a b:Nat} (h1:a≤64) (h2:b≤64):a * b≤4096:=Nat.mul_le_mul h1 h2
theorem Q7v {s k:Nat→Nat}:∀ {n:Nat},(∀ y,y<n→s y≤64∧k y≤64)→spos s k n≤n * 4096
 | 0,_=>Nat.le_refl _
 | n+1,h=>by
  have i:=Q7v (s:=s) (k:=k) (n:=n) fun y hy=>h y (by omega);have g:=h n (by omega);have:=Q8S g.1 g.2;simp only [spos];omega
theorem PQ.bnd {p q:Prf} (h:PQ p q) {x z:Nat} (hx:(x:Int)<p.s.n) (hz:(z:Int)<q.t.n) {y:Nat} (hy:y≤p.t.id.length):spos (szx p x) (szz q z) y≤32768:=by
 have n:=h.a.z.ht.nums;have:=Q7v (s:=szx p x) (k:=szz q z) (n:=y) fun y hy=>⟨(h.sx hx (by omega)).2.1,(h.sz hz (by omega)).2.1⟩;omega
theorem e_l32Tri {p q:Prf} (h:PQ p q) {x z:Nat} (hx:(x:Int)<p.s.n) (hz:(z:Int)<q.t.n):Q22 p q x z=some (tri tr3 (szx p x) (szz q z) p.t.id.length):=by
 have n:=h.a.z.ht.nums;unfold Q22;refine QY p.t.id.length (fun y=>tri tr3 (szx p x) (szz q z) y) (e:=tri tr3 (szx p x) (szz q z) p.t.id.length) rfl (by omega) (fun y hy=>?_) (by simp only;rw [if_neg (by omega)]) rfl;obtain ⟨a1,a2,a3,a4⟩:=h.sx hx hy;obtain ⟨b1,b2,b3,b4⟩:=h.sz hz hy;have B:=h.bnd hx hz (y:=y) (by omega);simp only;rw [if_pos (by omega),Option.bind_assoc];refine QY (szx p x y) (fun e=>tri tr3 (szx p x) (szz q z) y++dbl (tr3 y) (szz q z y) e) (e:=tri tr3 (szx p x) (szz q z) (y+1)) (by simp [dbl]) (by omega) (fun e he=>?_) (by simp only;rw [Q4 (by omega),Q4 (by omega),a1,if_neg (by omega)];rfl) ?_
 ·have B2:=Q8S (Nat.le_trans (Nat.le_of_lt he) a2) b2;simp only;rw [Q4 (by omega),Q4 (by omega),a1,if_pos (by omega),Option.bind_assoc];refine QY (szz q z y) (fun d=>tri tr3 (szx p x) (szz q z) y++dbl (tr3 y) (szz q z y) e++tab d (tr3 y e)) (e:=tri tr3 (szx p x) (szz q z) y++dbl (tr3 y) (szz q z y) (e+1)) (by simp [Q4J]) (by omega) (fun d hd=>?_) (by simp only;rw [Q4 (by omega),Q4 (by omega),b1,if_neg (by omega)];simp [dbl]) ?_
  ·simp only;rw [Q4 (by omega),Q4 (by omega),b1,if_pos (by omega),Q4 (by simp [Q3K,Q5m];omega),Q4 (by unfold B64;omega),Q1u];simp [tr3]
  simp only [Option.bind_some];rw [Q4 (by unfold B64;omega)]
 simp only [Option.bind_some];rw [Q4 (by unfold B64;omega)]
theorem e_triAt {p q:Prf} (h:PQ p q) {x z:Nat} (hx:(x:Int)<p.s.n) (hz:(z:Int)<q.t.n):Q2a p q x z=some (tri trX (szx p x) (szz q z) p.t.id.length):=by
 have n:=h.a.z.ht.nums;unfold Q2a;refine QY p.t.id.length (fun y=>tri trX (szx p x) (szz q z) y) (e:=tri trX (szx p x) (szz q z) p.t.id.length) rfl (by omega) (fun y hy=>?_) (by simp only;rw [if_neg (by omega)]) rfl;obtain ⟨a1,a2,a3,a4⟩:=h.sx hx hy;obtain ⟨b1,b2,b3,b4⟩:=h.sz hz hy;have B:=h.bnd hx hz (y:=y) (by omega);simp only;rw [if_pos (by omega),Q4 (by omega),Q4 (by omega),a1,Option.bind_assoc];refine QY (szx p x y) (fun e=>tri trX (szx p x) (szz q z) y++dbl (trX y) (szz q z y) e) (e:=tri trX (szx p x) (szz q z) (y+1)) (by simp [dbl]) (by omega) (fun e he=>?_) (by simp only;rw [if_neg (by omega)];rfl) ?_
 ·have B2:=Q8S (Nat.le_trans (Nat.le_of_lt he) a2) b2;simp only;rw [if_pos (by omega),Q4 (by omega),Q4 (by omega),b1,Option.bind_assoc];refine QY (szz q z y) (fun d=>tri trX (szx p x) (szz q z) y++dbl (trX y) (szz q z y) e++tab d (trX y e)) (e:=tri trX (szx p x) (szz q z) y++dbl (trX y) (szz q z y) (e+1)) (by simp [Q4J]) (by omega) (fun d hd=>?_) (by simp only;rw [if_neg (by omega)];simp [dbl]) ?_
  ·simp only;rw [if_pos (by omega),Q4 (by simp [Q3K,Q5m];omega),Q4 (by unfold B64;omega),Q1u];simp [trX]
  simp only [Option.bind_some];rw [Q4 (by unfold B64;omega)]
 simp only [Option.bind_some];rw [Q4 (by unfold B64;omega)]
noncomputable def tpos (p q:Prf) (x z y e d:Nat):Nat:=spos (szx p x) (szz q z) y+(e * szz q z y+d)
noncomputable def tN (p q:Prf) (x z:Nat):Nat:=spos (szx p x) (szz q z) p.t.id.length
theorem Q4f {p q:Prf} {x z y e d:Nat} (hy:y<p.t.id.length) (he:e<szx p x y) (hd:d<szz q z y):tpos p q x z y e d<tN p q x z:=by
 have h1:=dbl_lt he hd;have h2:=Q92 (s:=szx p x) (k:=szz q z) hy;unfold tpos tN;omega
noncomputable def pEx (p:Prf) (x b e:Nat):Nat:=(ix (rx (gx p.bh b) x) e).toNat
noncomputable def qEz (q:Prf) (z b d:Nat):Nat:=(ix (rx (gx q.bf b) z) d).toNat
noncomputable def frN (c:Cat) (b:Nat):Nat:=(ix c.fr b).toNat
noncomputable def toN (c:Cat) (b:Nat):Nat:=(ix c.to b).toNat
noncomputable def tPr (p q:Prf) (x z b e d:Nat):List Int:=[(tpos p q x z (toN p.t b) (pEx p x b e) d:Int),(tpos p q x z (frN p.t b) e (qEz q z b d):Int)]
noncomputable def tPS (p q:Prf) (x z n:Nat):List (List Int):=tri (tPr p q x z) (fun b=>szx p x (frN p.t b)) (fun b=>szz q z (toN p.t b)) n
theorem Q3A {c:Cat} (hc:c.Is) {b:Nat} (hb:b<c.fr.length):ix c.fr b=(frN c b:Int)∧frN c b<c.id.length∧ix c.to b=(toN c b:Int)∧toN c b<c.id.length:=by
 have e:=hc.ends (a:=b) (by omega);have n:=hc.nums;unfold frN toN;omega
theorem PQ.pb {p q:Prf} (h:PQ p q) {x b e:Nat} (hx:(x:Int)<p.s.n) (hb:b<p.t.fr.length) (he:e<szx p x (frN p.t b)):((b:Int)<(p.bh.length:Int)∧(x:Int)<((gx p.bh b).length:Int)∧(e:Int)<((rx (gx p.bh b) x).length:Int))∧ix (rx (gx p.bh b) x) e=(pEx p x b e:Int)∧pEx p x b e<szx p x (toN p.t b):=by
 have l:=h.a.z.lh;have B:=h.a.H (b:=b) (by omega);have g:=B.2 x (by omega);obtain ⟨f1,f2,f3,f4⟩:=Q3A h.a.z.ht hb;rw [f1,f3] at g;have s1:=(h.sx hx f2).1;have s2:=(h.sx hx f4).1;rw [s1,s2] at g;have g1:=g.1;have g2:=g.2 e (by omega);unfold pEx;omega
theorem PQ.qb {p q:Prf} (h:PQ p q) {z b d:Nat} (hz:(z:Int)<q.t.n) (hb:b<p.t.fr.length) (hd:d<szz q z (toN p.t b)):((b:Int)<(q.bf.length:Int)∧(z:Int)<((gx q.bf b).length:Int)∧(d:Int)<((rx (gx q.bf b) z).length:Int))∧ix (rx (gx q.bf b) z) d=(qEz q z b d:Int)∧qEz q z b d<szz q z (frN p.t b):=by
 have l:=h.b.z.lb;have hb':b<q.s.fr.length:=by rw [← h.e];exact hb
 have B:=h.b.B (a:=b) (by omega);have g:=B.2 z (by omega);obtain ⟨f1,f2,f3,f4⟩:=Q3A h.a.z.ht hb;rw [← h.e,f1,f3] at g;have s1:=(h.sz hz f2).1;have s2:=(h.sz hz f4).1;rw [s1,s2] at g;have g1:=g.1;have g2:=g.2 d (by omega);unfold qEz;omega
theorem Q9t {α:Type} {m:Nat→Nat→α} {k:Nat} {a:α}:∀ {s:Nat},a∈dbl m k s→∃ e d,e<s∧d<k∧a=m e d
 | 0,h=>by simp [dbl] at h
 | s+1,h=>by
  rcases List.mem_append.1 h with q|q
  ·obtain ⟨e,d,h1,h2⟩:=Q9t q;exact ⟨e,d,by omega,h2⟩
  obtain ⟨d,hd,rfl⟩:=Q6i q;exact ⟨s,d,by omega,hd,rfl⟩
theorem Qa2 {α:Type} {m:Nat→Nat→Nat→α} {s k:Nat→Nat} {a:α}:∀ {n:Nat},a∈tri m s k n→∃ y e d,y<n∧e<s y∧d<k y∧a=m y e d
 | 0,h=>by simp [tri] at h
 | n+1,h=>by
  rcases List.mem_append.1 h with q|q
  ·obtain ⟨y,e,d,h1,h2⟩:=Qa2 q;exact ⟨y,e,d,by omega,h2⟩
  obtain ⟨e,d,h1,h2,h3⟩:=Q9t q;exact ⟨n,e,d,by omega,h1,h2,h3⟩
theorem PQ.prs {p q:Prf} (h:PQ p q) {x z:Nat} (hx:(x:Int)<p.s.n) (hz:(z:Int)<q.t.n) {n:Nat} (hn:n≤p.t.fr.length):Prs (tN p q x z) (tPS p q x z n):=by
 intro a ha;obtain ⟨b,e,d,h1,h2,h3,rfl⟩:=Qa2 ha;obtain ⟨f1,f2,f3,f4⟩:=Q3A h.a.z.ht (b:=b) (by omega);refine ⟨_,_,Q4f f4 (h.pb hx (by omega) h2).2.2 h3,Q4f f2 h2 (h.qb hz (by omega) h3).2.2,rfl⟩
theorem PQ.plen {p q:Prf} (h:PQ p q) {x z:Nat} (hx:(x:Int)<p.s.n) (hz:(z:Int)<q.t.n) {n:Nat} (hn:n≤p.t.fr.length):(tPS p q x z n).length≤163840:=by
 have l:=h.a.z.ht.nums;unfold tPS;rw [Q3K];have:=Q7v (s:=fun b=>szx p x (frN p.t b)) (k:=fun b=>szz q z (toN p.t b)) (n:=n) fun b hb=>by
  obtain ⟨f1,f2,f3,f4⟩:=Q3A h.a.z.ht (b:=b) (by omega);exact ⟨(h.sx hx f2).2.1,(h.sz hz f4).2.1⟩
 omega
theorem e_starts {p q:Prf} (h:PQ p q) {x z:Nat} (hx:(x:Int)<p.s.n) (hz:(z:Int)<q.t.n):Q2G p q x z=some (tab p.t.id.length fun y=>(spos (szx p x) (szz q z) y:Int)):=by
 have n:=h.a.z.ht.nums;unfold Q2G;refine Q5c (σ:=List Int × Int × Int) p.t.id.length (fun i=>(tab i fun y=>(spos (szx p x) (szz q z) y:Int),(spos (szx p x) (szz q z) i:Int),(i:Int))) rfl (by omega) (fun y hy=>?_) (e:=tab p.t.id.length fun y=>(spos (szx p x) (szz q z) y:Int)) (by simp only;rw [if_neg (by omega)]) rfl;obtain ⟨a1,a2,a3,a4⟩:=h.sx hx hy;obtain ⟨b1,b2,b3,b4⟩:=h.sz hz hy;have B:=h.bnd hx hz (y:=y) (by omega);have B2:=Q8S a2 b2;have e:(szx p x y:Int) * (szz q z y:Int)=((szx p x y * szz q z y:Nat):Int):=by push_cast;rfl
 simp only;rw [if_pos (by omega),Q4 (by simp;omega),Q4 (by omega),Q4 (by omega),Q4 (by omega),Q4 (by omega),a1,b1,e,Q4 (by unfold B64;omega),Q4 (by unfold B64;omega),Q4 (by unfold B64;omega),Q1u];simp only [spos]
 push_cast
 rfl
end
attribute [local simp] unk unA unE unT unC flat eL eI Qr Q9 XTripleint64.cells
noncomputable def Qu (p0_:List XTripleint64):Option (List (XTripleint64 × Int)) :=
 (Qy (σ:=(List (XTripleint64 × Int)) × Int) (ε:=List (XTripleint64 × Int)) (fun s6 =>
  if s6.2<(p0_.length:Int) then
   ass (0≤s6.2∧s6.2<(p0_.length:Int)) <|
   ass (s6.1.length<1099511627776) <|
   ass (B64 (s6.2+1)) <|
   some (Ctl.next (tset (gx p0_ s6.2) s6.2 s6.1,s6.2+1))
  else
   some (Ctl.ret s6.1)) fuel ([],0)).bind fun b1 =>
 some b1
@[simp] abbrev Y0D (a:List XTripleint64) (b:List (Nat × AV)):List (Nat × AV):=(0,.lst true 3 (Es (XTripleint64.cells true) a))::b
@[simp] abbrev Y0M (a:List XTripleint64) (b:List (Nat × AV)):List (Nat × AV):=(7,.lst true 3 (Es (XTripleint64.cells true) a))::(8,iV (a.length:Int))::b
theorem Q1C (p0_:List XTripleint64) (r:List (XTripleint64 × Int)) (h:Qu p0_=some r):FContract Tryz.prog false 93 [.lst true 3 (Es (XTripleint64.cells true) p0_)] (.cmap (.st 3) (Qx r)):=by
 refine Q6a false (ts:=[2]) (rs:=[.cmap (.st 3) (Qx r)]) Tryz.func93 rfl rfl rfl rfl (by simp [Tryz.f93]) fun F hN hP=>?_;unfold Qu at h;refine Q3 (QG [] mo (by rw [hN];decide) fun K hK=>?_);simp;repeat refine sdQ ?_
 refine hK _ ?_;clear hK K;refine tn (Q7 (st':=⟨Y0D p0_ [],[],0⟩) (wkQ9 []) (Q3 (QG [] mo (by rw [hN];decide) fun K hK=>?_)));simp;repeat refine sdQ ?_
 refine hK _ ?_;clear hK K;refine tn (Q7 (st':=⟨Y0D p0_ [(3,.mp 0)],[(0,.mapE (.st 3) (Qx []))],1⟩) (wkQ9 [(0,0)]) (Q3 (Q3 (QG [] mo (by rw [hN];decide) fun K hK=>?_))));simp;repeat refine sdQ ?_
 refine hK _ (tn (Q7 (st':=⟨(3,.mp 0)::Y0M p0_ [(9,iV 0)],[(0,.mapE (.st 3) (Qx []))],1⟩) (wkQ9 [(0,0)]) ?_));clear hK K;replace ⟨e1,h,h1⟩:=bind_some h;refine Qg (fun b1:List (XTripleint64 × Int)=>⟨[(3,.mp 0)],[(0,.mapE (.st 3) (Qx b1))],1⟩) (fun b1=>b1=e1) ?_ ?_
 ·refine Qa (Qn h (fun s6:(List (XTripleint64 × Int)) × Int=>⟨(3,.mp 0)::Y0M p0_ [(9,iV s6.2)],[(0,.mapE (.st 3) (Qx s6.1))],1⟩) (wkQ9 [(0,0)]) ?_);clear h;intro k6 s6 c6 h hk6;refine Q3 (QG [] mo (by rw [hN];decide) fun K hK=>?_);simp;repeat refine sdQ ?_
  refine hK _ ?_;clear hK K;refine tn (Q3 (Qd rfl (fun g=>?_) fun g=>?_))
  ·have g7:s6.2<(p0_.length:Int):=gQ;clear g;replace h:=if_l g7 h;refine Qe (tn (Q3 (Qa (Q3 (QG [] mo (by rw [hN];decide) fun K hK=>?_)))));replace ⟨a8,h⟩:=Q0 h;simp [at_E (c:=(XTripleint64.cells true)) a8];(repeat refine sdQ ?_);refine hK _ ?_;clear hK K;refine tn (Q7 (st':=⟨(3,.mp 0)::(4,iV s6.2)::(5,.adr 1 0 0)::Y0M p0_ [(9,iV s6.2)],[(0,.mapE (.st 3) (Qx s6.1)),(1,.mix 3 [(XTripleint64.cells true (gx p0_ s6.2))])],2⟩) (wkQ9 [(0,0),(1,1)]) (QG [] mo (by rw [hN];decide) fun K hK=>?_));replace ⟨a9,h⟩:=Q0 h;simp [a9];(repeat refine sdQ ?_);refine hK _ ?_;clear hK K;refine bn (tn (Q7 (st':=⟨(3,.mp 0)::Y0M p0_ [(9,iV s6.2)],[(0,.mapE (.st 3) (Qx (tset (gx p0_ s6.2) s6.2 s6.1)))],1⟩) (wkQ9 [(0,0)]) (QG [] mo (by rw [hN];decide) fun K hK=>?_)));replace ⟨a10,h⟩:=Q0 h;simp [Qh a10];(repeat refine sdQ ?_);refine hK _ ?_;clear hK K;cases h;exact rn (s':=(tset (gx p0_ s6.2) s6.2 s6.1,s6.2+1)) hk6 (wkQ9 [(0,0)])
  have g7:¬ (s6.2<(p0_.length:Int)):=gQ;clear g;replace h:=if_r g7 h;refine Qm (tx (lx (bh ?_)));cases h;exact jn (b:=s6.1) hk6 (wkQ9 [(0,0)])
 intro b1 hb1;have h:=h1;try rw [← hb1] at h
 clear h1;try dsimp only at h
 refine Q3 (QG [] mo (by rw [hN];decide) fun K hK=>?_);simp;repeat refine sdQ ?_
 refine hK _ (tn (Q7 (st':=⟨[(2,.mp 0)],[(0,.mapE (.st 3) (Qx b1))],1⟩) (wkQ9 [(0,0)]) (Qo ?_)));clear hK K;have hr:=Option.some.inj h;rw [← hr];exact (.one (by simp [ownB]) (.mp rfl) .nil)
attribute [local simp] unk unA unE unT unC flat eL eI Qr Q16 Q1g Cat.cells Prf.cells
noncomputable def Q2g (p_:Prf) (q_:Prf) (x_:Int) (z_:Int) (triples_:List (List Int)):Option (List Int) :=
 (Q2G p_ q_ x_ z_).bind fun v1 =>
 (Qy (σ:=List (List Int) × Int) (ε:=List (List Int)) (fun s113 =>
  if s113.2<(p_.t.fr.length:Int) then
   (
    ass (0≤s113.2∧s113.2<(p_.t.fr.length:Int)) <|
    ass (0≤s113.2∧s113.2<(p_.t.to.length:Int)) <|
    (Qy (σ:=List (List Int) × Int) (ε:=List (List Int)) (fun s170 =>
     ass (0≤x_∧x_<(p_.sz.length:Int)) <|
     ass (0≤ix p_.t.fr s113.2∧ix p_.t.fr s113.2<((rx p_.sz x_).length:Int)) <|
     if s170.2<(ix (rx p_.sz x_) (ix p_.t.fr s113.2)) then
      (
       (Qy (σ:=List (List Int) × Int) (ε:=List (List Int)) (fun s198 =>
        ass (0≤ix p_.t.to s113.2∧ix p_.t.to s113.2<(q_.sz.length:Int)) <|
        ass (0≤z_∧z_<((rx q_.sz (ix p_.t.to s113.2)).length:Int)) <|
        if s198.2<(ix (rx q_.sz (ix p_.t.to s113.2)) z_) then
         ass (0≤ix p_.t.to s113.2∧ix p_.t.to s113.2<(v1.length:Int)) <|
         ass (0≤s113.2∧s113.2<(p_.bh.length:Int)) <|
         ass (0≤x_∧x_<((gx p_.bh s113.2).length:Int)) <|
         ass (0≤s170.2∧s170.2<((rx (gx p_.bh s113.2) x_).length:Int)) <|
         ass (0≤ix p_.t.to s113.2∧ix p_.t.to s113.2<(q_.sz.length:Int)) <|
         ass (0≤z_∧z_<((rx q_.sz (ix p_.t.to s113.2)).length:Int)) <|
         ass (B64 ((ix (rx (gx p_.bh s113.2) x_) s170.2) * (ix (rx q_.sz (ix p_.t.to s113.2)) z_))) <|
         ass (B64 ((ix v1 (ix p_.t.to s113.2))+((ix (rx (gx p_.bh s113.2) x_) s170.2) * (ix (rx q_.sz (ix p_.t.to s113.2)) z_)))) <|
         ass (B64 (((ix v1 (ix p_.t.to s113.2))+((ix (rx (gx p_.bh s113.2) x_) s170.2) * (ix (rx q_.sz (ix p_.t.to s113.2)) z_)))+s198.2)) <|
         ass (0≤ix p_.t.fr s113.2∧ix p_.t.fr s113.2<(v1.length:Int)) <|
         ass (0≤ix p_.t.fr s113.2∧ix p_.t.fr s113.2<(q_.sz.length:Int)) <|
         ass (0≤z_∧z_<((rx q_.sz (ix p_.t.fr s113.2)).length:Int)) <|
         ass (B64 (s170.2 * (ix (rx q_.sz (ix p_.t.fr s113.2)) z_))) <|
         ass (B64 ((ix v1 (ix p_.t.fr s113.2))+(s170.2 * (ix (rx q_.sz (ix p_.t.fr s113.2)) z_)))) <|
         ass (0≤s113.2∧s113.2<(q_.bf.length:Int)) <|
         ass (0≤z_∧z_<((gx q_.bf s113.2).length:Int)) <|
         ass (0≤s198.2∧s198.2<((rx (gx q_.bf s113.2) z_).length:Int)) <|
         ass (B64 (((ix v1 (ix p_.t.fr s113.2))+(s170.2 * (ix (rx q_.sz (ix p_.t.fr s113.2)) z_)))+(ix (rx (gx q_.bf s113.2) z_) s198.2))) <|
         ass ((s198.1++[[((ix v1 (ix p_.t.to s113.2))+((ix (rx (gx p_.bh s113.2) x_) s170.2) * (ix (rx q_.sz (ix p_.t.to s113.2)) z_)))+s198.2,((ix v1 (ix p_.t.fr s113.2))+(s170.2 * (ix (rx q_.sz (ix p_.t.fr s113.2)) z_)))+(ix (rx (gx q_.bf s113.2) z_) s198.2)]]).length≤1073741824) <|
         ass (B64 (s198.2+1)) <|
         some (Ctl.next (s198.1++[[((ix v1 (ix p_.t.to s113.2))+((ix (rx (gx p_.bh s113.2) x_) s170.2) * (ix (rx q_.sz (ix p_.t.to s113.2)) z_)))+s198.2,((ix v1 (ix p_.t.fr s113.2))+(s170.2 * (ix (rx q_.sz (ix p_.t.fr s113.2)) z_)))+(ix (rx (gx q_.bf s113.2) z_) s198.2)]],s198.2+1))
        else
         some (Ctl.ret s198.1)) fuel (s170.1,0)).bind fun p198 =>
       some p198:Option (List (List Int))).bind fun b174 =>
      ass (B64 (s170.2+1)) <|
      some (Ctl.next (b174,s170.2+1))
     else
      some (Ctl.ret s170.1)) fuel (s113.1,0)).bind fun p170 =>
    some p170:Option (List (List Int))).bind fun b115 =>
   ass (B64 (s113.2+1)) <|
   some (Ctl.next (b115,s113.2+1))
  else
   some (Ctl.ret s113.1)) fuel ([],0)).bind fun b2 =>
 (Q3s (triples_.length:Int) b2).bind fun v224 =>
 some v224
@[simp] abbrev YB (a b:Int) (c:List (List Int)) (d:List Int) (e:List (Nat × AV)):List (Nat × AV):=(2,iV a)::(3,iV b)::(4,.lst true 1 (Ls c))::(5,.adr 0 0 0)::(6,.adr 1 0 0)::(11,.adr 2 0 0)::(12,.own 3 0 d.length)::e
@[simp] abbrev Y09 (a:Prf) (b:List Int) (c:List (Nat × Ent)):List (Nat × Ent):=(2,.mix 5 [(Cat.cells true a.t)])::(3,rI b)::c
@[simp] abbrev Y0f (a:List (List Int) × Int) (b:Prf) (c:List (Nat × AV)):List (Nat × AV):=(14,iV a.2)::(15,iV (ix b.t.fr a.2))::(16,iV (ix b.t.to a.2))::c
theorem Q6L (p_:Prf) (q_:Prf) (x_:Int) (z_:Int) (triples_:List (List Int)) (r:List Int) (h:Q2g p_ q_ x_ z_ triples_=some r):Contract Tryz.prog 55 [.agg (p_.cells true),.agg (q_.cells true),iV x_,iV z_,.lst true 1 (Ls triples_)] (lI r):=by
 refine Qc (rvs:=[.tmp 10]) (rs:=[lI r]) Tryz.func55 rfl rfl rfl rfl (by simp [Tryz.f55]) fun F hN hP=>?_;unfold Q2g at h;refine Q3 (runQ hN fun K hK=>?_);simp;repeat refine sdQ ?_
 refine hK _ ?_;clear hK K;refine tn (Q7 (st':=⟨[(2,iV x_),(3,iV z_),(4,.lst true 1 (Ls triples_)),(5,.adr 0 0 0),(6,.adr 1 0 0)],Ym p_ q_ [],2⟩) (wkQ9 [(0,0),(1,1)]) (Q3 (runQ hN fun K hK=>?_)));simp;repeat refine sdQ ?_
 refine hK _ ?_;clear hK K;refine tn (Q7 (st':=⟨[(2,iV x_),(3,iV z_),(4,.lst true 1 (Ls triples_)),(5,.adr 0 0 0),(6,.adr 1 0 0),(11,.adr 2 0 0)],Ym p_ q_ [(2,.mix 5 [(Cat.cells true p_.t)])],3⟩) (wkI9 3) (Q3 (runQ hN fun K hK=>?_)));simp;repeat with_reducible refine sdQ ?_
 replace ⟨v1,hv1,h⟩:=bind_some h;refine Q6 (Q7C _ _ _ _ v1 hv1) (.cons (.aggL (.cons .val (.cons .lst (.cons .lst (.cons .lst (.cons .lst (.cons .val (.cons .lst (.cons .lst (.cons .lst (.cons .lst (.cons .lst (.cons .lst (.cons .lst .nil)))))))))))))) (.cons (.aggL (.cons .val (.cons .lst (.cons .lst (.cons .lst (.cons .lst (.cons .val (.cons .lst (.cons .lst (.cons .lst (.cons .lst (.cons .lst (.cons .lst (.cons .lst .nil)))))))))))))) (.cons .val (.cons .val .nil)))) ?_;simp;repeat refine sdQ ?_
 refine hK _ ?_;clear hK K;refine tn (Q7 (st':=⟨YB x_ z_ triples_ v1 [],Ym p_ q_ (Y09 p_ v1 []),4⟩) (wkI9 4) (Q3 (runQ hN fun K hK=>?_)));simp;repeat refine sdQ ?_
 refine hK _ ?_;clear hK K;refine tn (Q7 (st':=⟨YB x_ z_ triples_ v1 [(13,.own 4 0 0)],Ym p_ q_ (Y09 p_ v1 [(4,.mix 1 [])]),5⟩) (wkI9 5) (Q3 (Q3 (runQ hN fun K hK=>?_))));simp;repeat refine sdQ ?_
 refine hK _ (tn (Q7 (st':=⟨YB x_ z_ triples_ v1 [(13,.own 4 0 0),(14,iV 0)],Ym p_ q_ (Y09 p_ v1 [(4,.mix 1 [])]),5⟩) (wkI9 5) ?_));clear hK K;replace ⟨e2,h,h2⟩:=bind_some h;refine Qg (fun b2:List (List Int)=>⟨[(4,.lst true 1 (Ls triples_)),(13,.own 0 0 b2.length)],[(0,.row 1 (Ls b2))],1⟩) (fun b2=>b2=e2) ?_ ?_
 ·refine Qa (Qn h (fun s113:List (List Int) × Int=>⟨YB x_ z_ triples_ v1 [(13,.own 4 0 s113.1.length),(14,iV s113.2)],Ym p_ q_ (Y09 p_ v1 [(4,.row 1 (Ls s113.1))]),5⟩) (Q1J ⟨YB x_ z_ triples_ v1 [(13,.own 4 0 0),(14,iV 0)],Ym p_ q_ (Y09 p_ v1 [(4,.row 1 (Ls []))]),5⟩ (Wk.nils [] (by simp) (by simp) (by simp [nlA]) (by simp [entN,nlL,nlA,Cat.cells,Prf.cells,UA,U1,IA,I1,LA,L1,BA,B1,EA,E1,E2,eB,eI,eL]) (by simp)) (wkI9 5)) ?_);clear h;intro k113 s113 c113 h hk113;refine Q3 (Q3 (runQ hN fun K hK=>?_));simp;repeat refine sdQ ?_
  refine hK _ ?_;clear hK K;refine tn (Qd rfl (fun g=>?_) fun g=>?_)
  ·have g114:s113.2<(p_.t.fr.length:Int):=gQ;clear g;replace h:=if_l g114 h;refine Qe (tn (Q3 ?_));replace ⟨e115,h,h115⟩:=bind_some h;refine Qg (fun b115:List (List Int)=>⟨YB x_ z_ triples_ v1 [(13,.own 4 0 b115.length),(14,iV s113.2)],Ym p_ q_ (Y09 p_ v1 [(4,.row 1 (Ls b115))]),5⟩) (fun b115=>b115=e115) ?_ ?_
   ·refine Qa (Q3 (runQ hN fun K hK=>?_));replace ⟨a116,h⟩:=Q0 h;replace ⟨a117,h⟩:=Q0 h;simp [at_I a116,at_I a117];(repeat refine sdQ ?_);refine hK _ ?_;clear hK K;refine tn (Q7 (st':=⟨YB x_ z_ triples_ v1 ((13,.own 4 0 s113.1.length)::Y0f s113 p_ []),Ym p_ q_ (Y09 p_ v1 [(4,.row 1 (Ls s113.1))]),5⟩) (wkI9 5) (Q3 (runQ hN fun K hK=>?_)));simp;(repeat refine sdQ ?_);refine hK _ (tn (Q7 (st':=⟨YB x_ z_ triples_ v1 ((13,.own 4 0 s113.1.length)::Y0f s113 p_ [(17,iV 0)]),Ym p_ q_ (Y09 p_ v1 [(4,.row 1 (Ls s113.1))]),5⟩) (wkI9 5) (Qa ?_)));clear hK K;replace ⟨e170,he170,h170⟩:=bind_some h;refine Qn he170 (fun s170:List (List Int) × Int=>⟨YB x_ z_ triples_ v1 ((13,.own 4 0 s170.1.length)::Y0f s113 p_ [(17,iV s170.2)]),Ym p_ q_ (Y09 p_ v1 [(4,.row 1 (Ls s170.1))]),5⟩) (wkI9 5) ?_;intro k170 s170 c170 h hk170;refine Q3 (Q3 (runQ hN fun K hK=>?_));replace ⟨a171,h⟩:=Q0 h;replace ⟨a172,h⟩:=Q0 h;simp [at_L a171,at_I a172];(repeat refine sdQ ?_);refine hK _ ?_;clear hK K;refine tn (Qd rfl (fun g=>?_) fun g=>?_)
    ·have g173:s170.2<(ix (rx p_.sz x_) (ix p_.t.fr s113.2)):=gQ;clear g;replace h:=if_l g173 h;refine Qe (tn (Q3 ?_));replace ⟨e174,h,h174⟩:=bind_some h;refine Qg (fun b174:List (List Int)=>⟨YB x_ z_ triples_ v1 ((13,.own 4 0 b174.length)::Y0f s113 p_ [(17,iV s170.2)]),Ym p_ q_ (Y09 p_ v1 [(4,.row 1 (Ls b174))]),5⟩) (fun b174=>b174=e174) ?_ ?_
     ·refine Qa (Q3 (runQ hN fun K hK=>?_));simp;(repeat refine sdQ ?_);refine hK _ (tn (Q7 (st':=⟨YB x_ z_ triples_ v1 ((13,.own 4 0 s170.1.length)::Y0f s113 p_ [(17,iV s170.2),(18,iV 0)]),Ym p_ q_ (Y09 p_ v1 [(4,.row 1 (Ls s170.1))]),5⟩) (wkI9 5) (Qa ?_)));clear hK K;replace ⟨e198,he198,h198⟩:=bind_some h;refine Qn he198 (fun s198:List (List Int) × Int=>⟨YB x_ z_ triples_ v1 ((13,.own 4 0 s198.1.length)::Y0f s113 p_ [(17,iV s170.2),(18,iV s198.2)]),Ym p_ q_ (Y09 p_ v1 [(4,.row 1 (Ls s198.1))]),5⟩) (wkI9 5) ?_;intro k198 s198 c198 h hk198;refine Q3 (Q3 (runQ hN fun K hK=>?_));replace ⟨a199,h⟩:=Q0 h;replace ⟨a200,h⟩:=Q0 h;simp [at_L a199,at_I a200];(repeat refine sdQ ?_);refine hK _ ?_;clear hK K;refine tn (Qd rfl (fun g=>?_) fun g=>?_)
      ·have g201:s198.2<(ix (rx q_.sz (ix p_.t.to s113.2)) z_):=gQ;clear g;replace h:=if_l g201 h;refine Qe (tn (Q3 (Qa (Q3 (runQ hN fun K hK=>?_)))));replace ⟨a202,h⟩:=Q0 h;replace ⟨a203,h⟩:=Q0 h;replace ⟨a204,h⟩:=Q0 h;replace ⟨a205,h⟩:=Q0 h;replace ⟨a206,h⟩:=Q0 h;replace ⟨a207,h⟩:=Q0 h;replace ⟨a208,h⟩:=Q0 h;replace ⟨a209,h⟩:=Q0 h;replace ⟨a210,h⟩:=Q0 h;simp [at_I a202,at_E (c:=eL) a203,at_L a204,at_I a205,at_L a206,at_I a207,Qh a208,Qh a209,Qh a210];(repeat refine sdQ ?_);refine hK _ ?_;clear hK K;refine tn (Q7 (st':=⟨YB x_ z_ triples_ v1 ((13,.own 4 0 s198.1.length)::Y0f s113 p_ [(17,iV s170.2),(18,iV s198.2),(19,iV (((ix v1 (ix p_.t.to s113.2))+((ix (rx (gx p_.bh s113.2) x_) s170.2) * (ix (rx q_.sz (ix p_.t.to s113.2)) z_)))+s198.2))]),Ym p_ q_ (Y09 p_ v1 [(4,.row 1 (Ls s198.1))]),5⟩) (wkI9 5) (Q3 (runQ hN fun K hK=>?_)));replace ⟨a211,h⟩:=Q0 h;replace ⟨a212,h⟩:=Q0 h;replace ⟨a213,h⟩:=Q0 h;replace ⟨a214,h⟩:=Q0 h;replace ⟨a215,h⟩:=Q0 h;replace ⟨a216,h⟩:=Q0 h;replace ⟨a217,h⟩:=Q0 h;replace ⟨a218,h⟩:=Q0 h;replace ⟨a219,h⟩:=Q0 h;simp [at_I a211,at_L a212,at_I a213,Qh a214,Qh a215,at_E (c:=eL) a216,at_L a217,at_I a218,Qh a219];(repeat refine sdQ ?_);refine hK _ ?_;clear hK K;refine tn (Q7 (st':=⟨YB x_ z_ triples_ v1 ((13,.own 4 0 s198.1.length)::Y0f s113 p_ [(17,iV s170.2),(18,iV s198.2),(19,iV (((ix v1 (ix p_.t.to s113.2))+((ix (rx (gx p_.bh s113.2) x_) s170.2) * (ix (rx q_.sz (ix p_.t.to s113.2)) z_)))+s198.2)),(20,iV (((ix v1 (ix p_.t.fr s113.2))+(s170.2 * (ix (rx q_.sz (ix p_.t.fr s113.2)) z_)))+(ix (rx (gx q_.bf s113.2) z_) s198.2)))]),Ym p_ q_ (Y09 p_ v1 [(4,.row 1 (Ls s198.1))]),5⟩) (wkI9 5) (runQ hN fun K hK=>?_));replace ⟨a220,h⟩:=Q0 h;(try simp only [List.length_append,List.length_cons,List.length_nil] at a220);simp [a220];(repeat refine sdQ ?_);refine hK _ (bn (tn ?_));clear hK K
       refine Q7 (st':=⟨YB x_ z_ triples_ v1 ((13,.own 4 0 ((s198.1++[[((ix v1 (ix p_.t.to s113.2))+((ix (rx (gx p_.bh s113.2) x_) s170.2) * (ix (rx q_.sz (ix p_.t.to s113.2)) z_)))+s198.2,((ix v1 (ix p_.t.fr s113.2))+(s170.2 * (ix (rx q_.sz (ix p_.t.fr s113.2)) z_)))+(ix (rx (gx q_.bf s113.2) z_) s198.2)]]).length))::Y0f s113 p_ [(17,iV s170.2),(18,iV s198.2)]),Ym p_ q_ (Y09 p_ v1 [(4,.row 1 (Ls (s198.1++[[((ix v1 (ix p_.t.to s113.2))+((ix (rx (gx p_.bh s113.2) x_) s170.2) * (ix (rx q_.sz (ix p_.t.to s113.2)) z_)))+s198.2,((ix v1 (ix p_.t.fr s113.2))+(s170.2 * (ix (rx q_.sz (ix p_.t.fr s113.2)) z_)))+(ix (rx (gx q_.bf s113.2) z_) s198.2)]])))]),5⟩) (wkQ9 [(0,0),(1,1),(2,2),(3,3),(7,4)]) (runQ hN fun K hK=>?_);replace ⟨a221,h⟩:=Q0 h;simp [Qh a221];(repeat refine sdQ ?_);refine hK _ ?_;clear hK K;cases h;exact rn (s':=(s198.1++[[((ix v1 (ix p_.t.to s113.2))+((ix (rx (gx p_.bh s113.2) x_) s170.2) * (ix (rx q_.sz (ix p_.t.to s113.2)) z_)))+s198.2,((ix v1 (ix p_.t.fr s113.2))+(s170.2 * (ix (rx q_.sz (ix p_.t.fr s113.2)) z_)))+(ix (rx (gx q_.bf s113.2) z_) s198.2)]],s198.2+1)) hk198 (wkI9 5)
      have g201:¬ (s198.2<(ix (rx q_.sz (ix p_.t.to s113.2)) z_)):=gQ;clear g;replace h:=if_r g201 h;refine Qm (tx (lx (bh (bn ?_))));cases h;have q:_=e198:=hk198;have h:=h198;rw [← q] at h;clear q;(try dsimp only at h);exact jn (b:=s198.1) (Option.some.inj h) (wkI9 5)
     intro b174 hb174;have h:=h174;(try rw [← hb174] at h);clear h174;(try dsimp only at h);refine runQ hN fun K hK=>?_;replace ⟨a222,h⟩:=Q0 h;simp [Qh a222];(repeat refine sdQ ?_);refine hK _ ?_;clear hK K;cases h;exact rn (s':=(b174,s170.2+1)) hk170 (wkI9 5)
    have g173:¬ (s170.2<(ix (rx p_.sz x_) (ix p_.t.fr s113.2))):=gQ;clear g;replace h:=if_r g173 h;refine Qm (tx (lx (bh (bn ?_))));cases h;have q:_=e170:=hk170;have h:=h170;rw [← q] at h;clear q;(try dsimp only at h);exact jn (b:=s170.1) (Option.some.inj h) (wkI9 5)
   intro b115 hb115;have h:=h115;(try rw [← hb115] at h);clear h115;(try dsimp only at h);refine runQ hN fun K hK=>?_;replace ⟨a223,h⟩:=Q0 h;simp [Qh a223];(repeat refine sdQ ?_);refine hK _ ?_;clear hK K;cases h;exact rn (s':=(b115,s113.2+1)) hk113 (wkI9 5)
  have g114:¬ (s113.2<(p_.t.fr.length:Int)):=gQ;clear g;replace h:=if_r g114 h;refine Qm (tx (lx (bh ?_)));cases h;exact jn (b:=s113.1) hk113 (wkQ9 [(4,0)])
 intro b2 hb2;have h:=h2;try rw [← hb2] at h
 clear h2;try dsimp only at h
 refine Q3 (runQ hN fun K hK=>?_);simp;repeat with_reducible refine sdQ ?_
 replace ⟨v224,hv224,h⟩:=bind_some h;refine Q6 (Q9f _ _ v224 hv224) (.cons .val (.cons .w .nil)) ?_;simp;repeat refine sdQ ?_
 refine hK _ (tn (Q7 (st':=⟨[(10,.own 0 0 v224.length)],[(0,rI v224)],1⟩) (wkQ9 [(1,0)]) (Qo ?_)));clear hK K;have hr:=Option.some.inj h;rw [← hr];refine ⟨_,(.tmp .nil),?_⟩;refine ⟨(.one rfl rfl .nil),[lI v224],[0],by simp [Cat.cells,Prf.cells,UA,U1,IA,I1,LA,L1,BA,B1,EA,E1,E2,eB,eI,eL],by simp,(UpL.refl _)⟩
section
attribute [local simp] Ql Q11 QE Q1j QW
noncomputable def cmC (p q:Prf) (x z:Nat):List Int:=cls (RR (tPS p q x z p.t.fr.length)) (tN p q x z)
theorem e_l32Cls {p q:Prf} (h:PQ p q) {x z:Nat} (hx:(x:Int)<p.s.n) (hz:(z:Int)<q.t.n) (hN:tN p q x z≤256) {T:List (List Int)} (hT:T.length=tN p q x z):Q2g p q x z T=some (cmC p q x z):=by
 have n:=h.a.z.ht.nums;unfold Q2g;rw [e_starts h hx hz];simp only [Option.bind_some];refine QY p.t.fr.length (fun b=>tPS p q x z b) (e:=tPS p q x z p.t.fr.length) rfl (by omega) (fun b hb=>?_) (by simp only;rw [if_neg (by omega)]) ?_
 ·obtain ⟨f1,f2,f3,f4⟩:=Q3A h.a.z.ht hb;obtain ⟨a1,a2,a3,a4⟩:=h.sx hx f2;obtain ⟨b1,b2,b3,b4⟩:=h.sz hz f4;obtain ⟨k1,k2,k3,k4⟩:=h.sz hz f2;have B:=h.plen hx hz (n:=b) (by omega);have P1:=h.bnd hx hz (y:=frN p.t b) (by omega);have P2:=h.bnd hx hz (y:=toN p.t b) (by omega);have S1:ix (tab p.t.id.length fun y=>(spos (szx p x) (szz q z) y:Int)) (frN p.t b:Int)=(spos (szx p x) (szz q z) (frN p.t b):Int):=Q3R _ _ f2;have S2:ix (tab p.t.id.length fun y=>(spos (szx p x) (szz q z) y:Int)) (toN p.t b:Int)=(spos (szx p x) (szz q z) (toN p.t b):Int):=Q3R _ _ f4;simp only;rw [if_pos (by omega),Q4 (by omega),Q4 (by omega),f1,f3,a1,b1,k1,S1,S2,Option.bind_assoc];refine QY (szx p x (frN p.t b)) (fun e=>tPS p q x z b++dbl (tPr p q x z b) (szz q z (toN p.t b)) e) (e:=tPS p q x z (b+1)) (by simp [dbl]) (by omega) (fun e he=>?_) (by simp only;rw [Q4 (by omega),Q4 (by omega),if_neg (by omega)];rfl) ?_
  ·have B2:=Q8S (Nat.le_trans (Nat.le_of_lt he) a2) b2;have Q1:=Q8S (Nat.le_trans (Nat.le_of_lt he) a2) k2;obtain ⟨⟨p1,p2,p3⟩,p4,p5⟩:=h.pb hx hb he;have P5:=(h.sx hx f4).2.1;have Q2:=Q8S (a:=pEx p x b e) (b:=szz q z (toN p.t b)) (by omega) b2;have E1:(pEx p x b e:Int) * (szz q z (toN p.t b):Int)=((pEx p x b e * szz q z (toN p.t b):Nat):Int):=(by push_cast;rfl);have E2:(e:Int) * (szz q z (frN p.t b):Int)=((e * szz q z (frN p.t b):Nat):Int):=(by push_cast;rfl);simp only;rw [Q4 (by omega),Q4 (by omega),if_pos (by omega),Option.bind_assoc];refine QY (szz q z (toN p.t b)) (fun d=>tPS p q x z b++dbl (tPr p q x z b) (szz q z (toN p.t b)) e++tab d (tPr p q x z b e)) (e:=tPS p q x z b++dbl (tPr p q x z b) (szz q z (toN p.t b)) (e+1)) (by simp [Q4J]) (by omega) (fun d hd=>?_) (by simp only;rw [Q4 (by omega),Q4 (by omega),if_neg (by omega)];simp [dbl]) ?_
   ·obtain ⟨⟨q1,q2,q3⟩,q4,q5⟩:=h.qb hz hb hd;have Q5:=(h.sz hz f2).2.1;simp only;rw [Q4 (by omega),Q4 (by omega),if_pos (by omega),p4,q4,E1,E2,Q4 (by simp;omega),Q4 (by omega),Q4 (by omega),Q4 (by omega),Q4 (by omega),Q4 (by omega),Q4 (by unfold B64;omega),Q4 (by unfold B64;omega),Q4 (by unfold B64;omega),Q4 (by simp;omega),Q4 (by omega),Q4 (by omega),Q4 (by unfold B64;omega),Q4 (by unfold B64;omega),Q4 (by omega),Q4 (by omega),Q4 (by omega),Q4 (by unfold B64;omega),Q4 (by simp [Q5m];omega),Q4 (by unfold B64;omega)];have E3:[((spos (szx p x) (szz q z) (toN p.t b):Int)+((pEx p x b e * szz q z (toN p.t b):Nat):Int))+(d:Int),((spos (szx p x) (szz q z) (frN p.t b):Int)+((e * szz q z (frN p.t b):Nat):Int))+(qEz q z b d:Int)]=tPr p q x z b e d:=by
     unfold tPr tpos
     push_cast
     simp only [Int.add_assoc]
    rw [E3,Q1u];simp
   simp only [Option.bind_some];rw [Q4 (by unfold B64;omega)]
  simp only [Option.bind_some];rw [Q4 (by unfold B64;omega)]
 rw [hT,e_joinG (h.prs hx hz (Nat.le_refl _)) (by omega) (by have:=h.plen hx hz (n:=p.t.fr.length) (Nat.le_refl _);omega)];rfl
theorem e_numbX {L:List XTripleint64} (hl:L.length≤1000000):Qu L=some (plM (fun i:Nat=>gx L i) L.length):=by
 unfold Qu;refine QY L.length (fun i=>plM (fun i:Nat=>gx L i) i) (e:=plM (fun i:Nat=>gx L i) L.length) rfl (by omega) (fun i hi=>?_) (by simp only;rw [if_neg (by omega)]) rfl;have:=plM_len (fun i:Nat=>gx L i) i;simp only;rw [if_pos (by omega),Q4 (by omega),Q4 (by omega),Q4 (by unfold B64;omega)];rfl
theorem trX_inj (y e d y' e' d':Nat) (h:trX y e d=trX y' e' d'):y=y'∧e=e'∧d=d':=by
 simp [trX] at h;omega
theorem Q8J {α:Type} [Inhabited α] {L:List α} {i:Nat} {a:α} (h:L[i]? = some a):gx L i=a:=by simp [gx,List.getD_eq_getElem?_getD,h]
theorem Q9b {p q:Prf} {x z y e d:Nat} (hy:y<p.t.id.length) (he:e<szx p x y) (hd:d<szz q z y):(tri trX (szx p x) (szz q z) p.t.id.length)[tpos p q x z y e d]? = some (trX y e d):=Q6x trX _ _ he hd _ hy
theorem Qa1 {p q:Prf} {x z y e d i:Nat} (hy:y<p.t.id.length) (he:e<szx p x y) (hd:d<szz q z y) (hi:i<tN p q x z) (h:gx (tri trX (szx p x) (szz q z) p.t.id.length) i=trX y e d):i=tpos p q x z y e d:=by
 have l:=Q3K trX (szx p x) (szz q z) p.t.id.length;refine tri_one trX trX_inj _ _ he hd hy ?_;have hi':i<(tri trX (szx p x) (szz q z) p.t.id.length).length:=by rw [l];exact hi
 rw [gx_nat _ hi'] at h;rw [List.getElem?_eq_getElem hi',h]
theorem Q7N {p q:Prf} {x z y e d:Nat} (hy:y<p.t.id.length) (he:e<szx p x y) (hd:d<szz q z y):Q1X (trX y e d) (plM (fun i:Nat=>gx (tri trX (szx p x) (szz q z) p.t.id.length) i) (tN p q x z))=some (tpos p q x z y e d:Int):=by
 have h:=Q9b (p:=p) (q:=q) (x:=x) (z:=z) hy he hd;have l:=Q4f (p:=p) (q:=q) (x:=x) (z:=z) hy he hd;have inj:∀ a b,a<tN p q x z→b<tN p q x z→gx (tri trX (szx p x) (szz q z) p.t.id.length) a=gx (tri trX (szx p x) (szz q z) p.t.id.length) b→a=b:=by
  intro a b ha hb e2;obtain ⟨y1,e1,d1,k1,k2,k3,rfl⟩:=Q7x (s:=szx p x) (k:=szz q z) (n:=p.t.id.length) (i:=a) ha;have g:=Q8J (Q9b (p:=p) (q:=q) (x:=x) (z:=z) k1 k2 k3);unfold tpos at g;rw [g] at e2;exact (Qa1 (p:=p) (q:=q) (x:=x) (z:=z) k1 k2 k3 hb e2.symm).symm
 have r:=plM_find (k:=fun i:Nat=>gx (tri trX (szx p x) (szz q z) p.t.id.length) i) (n:=tN p q x z) (fun a b ha hb e2=>inj a b ha hb e2) l;have g:=Q8J h
 rwa [g] at r
end
attribute [local simp] unk unA unE unT unC flat eL eI Qr
noncomputable def Q3C (n_:Int):Option (List Int) :=
 (Q2s n_).bind fun v1 =>
 some v1
theorem Q8o (n_:Int) (r:List Int) (h:Q3C n_=some r):Contract Tryz.prog 94 [iV n_] (lI r):=by
 refine Qc (rvs:=[.tmp 2]) (rs:=[lI r]) Tryz.func94 rfl rfl rfl rfl (by simp [Tryz.f94]) fun F hN hP=>?_;unfold Q3C at h;refine Q3 (runQ hN fun K hK=>?_);simp;repeat refine sdQ ?_
 refine hK _ ?_;clear hK K;refine tn (Q7 (st':=⟨[(0,iV n_)],[],0⟩) (wkQ9 []) (Q3 (runQ hN fun K hK=>?_)));simp;repeat with_reducible refine sdQ ?_
 replace ⟨v1,hv1,h⟩:=bind_some h;refine Q6 (Q4Z _ v1 hv1) (.cons .val .nil) ?_;simp;repeat refine sdQ ?_
 refine hK _ (tn (Q7 (st':=⟨[(2,.own 0 0 v1.length)],[(0,rI v1)],1⟩) (wkQ9 [(0,0)]) (Qo ?_)));clear hK K;have hr:=Option.some.inj h;rw [← hr];refine ⟨_,(.tmp .nil),?_⟩;refine ⟨(.one rfl rfl .nil),[lI v1],[0],by simp [UA,U1,IA,I1,LA,L1,BA,B1,EA,E1,E2,eB,eI,eL],by simp,(UpL.refl _)⟩
end Go.Vc.T
