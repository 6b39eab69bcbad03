/- A part of the proof: a verified generator of conditions, and what each function of the program does. -/
import Derived.Test.YtbpjpnccoeedoaaC9
set_option maxRecDepth 100000
set_option maxHeartbeats 4000000
set_option linter.unusedSimpArgs false
set_option linter.unusedVariables false

namespace Go.Vc.T
open Go Go.Vc Go.Proofs
theorem chkI {ε β:Type} {body:Int→Option (Ctl Int ε)} {K:ε→Option β} {r:Option β} (n:Nat) (p:Nat→Prop) (eb eg:ε) (hn:n<4611686018427387904)
  (h:∀ i:Nat,i<n→body (i:Int)=if bo (p i)=true then some (.next ((i:Int)+1)) else some (.ret eb)) (h3:body (n:Int)=some (.ret eg)) (hk:K (if bo (∀ i:Nat,i<n→p i)=true then eg else eb)=r):(Qu body fuel 0).bind K=r:=by
 rw [Q7m n p (eb:=eb) (eg:=eg) hn (fun i hi q=>by rw [h i hi,Qm q];simp) (fun i hi q=>by rw [h i hi,Qf q];simp) h3,Option.bind_some,← hk]
 congr 1
 by_cases q:∀ i:Nat,i<n→p i
 ·rw [if_pos q,Qm q];simp
 rw [if_neg q,Qf q];simp
def MpP (f:List Int) (m n:Int):Prop:=(f.length:Int)=m∧∀ j:Nat,j<f.length→0≤ix f j∧ix f j<n
def Prf.row (p:Prf) (x:Nat):Prop:=((rx p.sz x).length:Int)=p.t.n∧∀ y:Nat,y<(rx p.sz x).length→0≤ix (rx p.sz x) y∧ix (rx p.sz x) y≤64
def Prf.mbf (p:Prf) (a:Nat):Prop:=((gx p.bf a).length:Int)=p.t.n∧∀ y:Nat,y<(gx p.bf a).length→MpP (rx (gx p.bf a) y) (ix (rx p.sz (ix p.s.to a)) y) (ix (rx p.sz (ix p.s.fr a)) y)
def Prf.mbh (p:Prf) (b:Nat):Prop:=((gx p.bh b).length:Int)=p.s.n∧∀ x:Nat,x<(gx p.bh b).length→MpP (rx (gx p.bh b) x) (ix (rx p.sz x) (ix p.t.fr b)) (ix (rx p.sz x) (ix p.t.to b))
structure Prf.Z (p:Prf):Prop where
 hs:p.s.Is
 ht:p.t.Is
 ls:(p.sz.length:Int)=p.s.n
 lb:p.bf.length=p.s.fr.length
 lh:p.bh.length=p.t.fr.length
 row:∀ x:Nat,x<p.sz.length→p.row x
structure Prf.M (p:Prf):Prop where
 z:p.Z
 bf:∀ a:Nat,a<p.bf.length→p.mbf a
 bh:∀ b:Nat,b<p.bh.length→p.mbh b
def Prf.li (p:Prf) (y x:Nat):Prop:=rx (gx p.bf (ix p.s.id x)) y=iota (ix (rx p.sz x) y).toNat∧rx (gx p.bh (ix p.t.id y)) x=iota (ix (rx p.sz x) y).toNat
def Prf.la (p:Prf) (y a b:Nat):Prop:=0≤ix (rx p.s.cs a) b→rx (gx p.bf (ix (rx p.s.cs a) b)) y=QL (rx (gx p.bf b) y) (rx (gx p.bf a) y)
def Prf.lc (p:Prf) (x a b:Nat):Prop:=0≤ix (rx p.t.cs a) b→rx (gx p.bh (ix (rx p.t.cs a) b)) x=QL (rx (gx p.bh a) x) (rx (gx p.bh b) x)
def Prf.ln (p:Prf) (a b:Nat):Prop:=QL (rx (gx p.bf a) (ix p.t.fr b)) (rx (gx p.bh b) (ix p.s.fr a))=QL (rx (gx p.bh b) (ix p.s.to a)) (rx (gx p.bf a) (ix p.t.to b))
structure Prf.Is (p:Prf):Prop where
 m:p.M
 l1:∀ y:Nat,y<p.t.id.length→(∀ x:Nat,x<p.s.id.length→p.li y x)∧∀ a:Nat,a<p.s.fr.length→∀ b:Nat,b<p.s.fr.length→p.la y a b
 l2:∀ x:Nat,x<p.s.id.length→∀ a:Nat,a<p.t.fr.length→∀ b:Nat,b<p.t.fr.length→p.lc x a b
 l3:∀ a:Nat,a<p.s.fr.length→∀ b:Nat,b<p.t.fr.length→p.ln a b
theorem Cat.Is.nums {c:Cat} (h:c.Is):0≤c.n∧c.n≤8∧c.fr.length≤40∧c.to.length=c.fr.length∧c.cs.length=c.fr.length∧(c.id.length:Int)=c.n:=⟨h.1.n0,h.1.n8,h.1.m40,h.1.lt,h.1.lc,h.1.li⟩
theorem Prf.Z.S {p:Prf} (h:p.Z) {x:Int} (hx:0≤x∧x<p.s.n):((rx p.sz x).length:Int)=p.t.n∧∀ y:Int,0≤y∧y<p.t.n→0≤ix (rx p.sz x) y∧ix (rx p.sz x) y≤64:=by
 obtain ⟨k,rfl⟩:=Int.eq_ofNat_of_zero_le hx.1;have q:=h.row k (by have:=h.ls;omega);refine ⟨q.1,fun y hy=>?_⟩;obtain ⟨j,rfl⟩:=Int.eq_ofNat_of_zero_le hy.1;exact q.2 j (by have:=q.1;omega)
theorem Prf.M.B {p:Prf} (h:p.M) {a:Int} (ha:0≤a∧a<(p.s.fr.length:Int)):((gx p.bf a).length:Int)=p.t.n∧∀ y:Int,0≤y∧y<p.t.n→MpP (rx (gx p.bf a) y) (ix (rx p.sz (ix p.s.to a)) y) (ix (rx p.sz (ix p.s.fr a)) y):=by
 obtain ⟨k,rfl⟩:=Int.eq_ofNat_of_zero_le ha.1;have q:=h.bf k (by have:=h.z.lb;omega);refine ⟨q.1,fun y hy=>?_⟩;obtain ⟨j,rfl⟩:=Int.eq_ofNat_of_zero_le hy.1;exact q.2 j (by have:=q.1;omega)
theorem Prf.M.H {p:Prf} (h:p.M) {b:Int} (hb:0≤b∧b<(p.t.fr.length:Int)):((gx p.bh b).length:Int)=p.s.n∧∀ x:Int,0≤x∧x<p.s.n→MpP (rx (gx p.bh b) x) (ix (rx p.sz x) (ix p.t.fr b)) (ix (rx p.sz x) (ix p.t.to b)):=by
 obtain ⟨k,rfl⟩:=Int.eq_ofNat_of_zero_le hb.1;have q:=h.bh k (by have:=h.z.lh;omega);refine ⟨q.1,fun x hx=>?_⟩;obtain ⟨j,rfl⟩:=Int.eq_ofNat_of_zero_le hx.1;exact q.2 j (by have:=q.1;omega)
theorem Cat.Is.ends {c:Cat} (h:c.Is) {a:Int} (ha:0≤a∧a<(c.fr.length:Int)):(0≤ix c.fr a∧ix c.fr a<c.n)∧(0≤ix c.to a∧ix c.to a<c.n):=by
 have:=h.1.fr' ha.1 ha.2;have:=h.1.to' ha.1 ha.2;have:=h.1.li;omega
theorem Cat.Is.comp {c:Cat} (h:c.Is) {a b:Int} (ha:0≤a∧a<(c.fr.length:Int)) (hb:0≤b∧b<(c.fr.length:Int)) (h0:0≤ix (rx c.cs a) b) :
  ix c.to a=ix c.fr b∧ix (rx c.cs a) b<(c.fr.length:Int)∧ix c.fr (ix (rx c.cs a) b)=ix c.fr a∧ix c.to (ix (rx c.cs a) b)=ix c.to b:=by
 by_cases e:ix c.to a=ix c.fr b
 ·have q:=h.two ha hb e;exact ⟨e,q.1.2,q.2.1,q.2.2⟩
 have:=(h.1.cell' ha.1 ha.2 hb.1 hb.2).1 e;omega
theorem ix_extP {p q:List Int} (hl:p.length=q.length) (h:∀ i:Nat,i<p.length→ix p i=ix q i):p=q:=by
 refine List.ext_getElem hl fun i h1 h2=>?_;rw [QT _ _ h1,QT _ _ h2];exact h i h1
theorem iota_iff {f:List Int} {n:Nat} (hl:f.length=n):(f=iota n)↔∀ j:Nat,j<n→ix f j=(j:Int):=by
 constructor
 ·intro e j hj;rw [e];exact ix_iota n (by omega) (by omega)
 intro h;refine ix_extP (by simpa using hl) fun i hi=>?_;rw [h i (by omega)];exact (ix_iota n (by omega) (by omega)).symm
theorem Q5E {f:List Int} {n:Int} (hl:(f.length:Int)=n) (hb:f.length≤1048576):Q1s f=some (bo (f=iota n.toNat)):=by
 unfold Q1s;have e1:f.length=n.toNat:=by omega
 rw [Q3i (iota_iff e1)];refine chkI f.length (fun j=>ix f j=(j:Int)) (Sum.inr false) (Sum.inl ()) (by omega) (fun i hi=>?_) (by simp) ?_
 ·by_cases q:ix f i=(i:Int)
  ·simp only [Qm q,if_true];rw [if_pos (by omega),Q6 (by omega),if_neg (by simp [q]),Q6 (by unfold B64;omega)]
  simp only [Qf q,Bool.false_eq_true,if_false];rw [if_pos (by omega),Q6 (by omega),if_pos q]
 rw [← e1]
 by_cases q:∀ j:Nat,j<f.length→ix f j=(j:Int)
 ·simp only [Qm q,if_true]
 simp only [Qf q,Bool.false_eq_true,if_false]
theorem Q1b {p:Prop} (h:p):¬ ¬ p:=fun q=>q h
theorem Q7D {p:Prf} (hs:p.s.Is) (ht:p.t.Is):Q1E p=some (bo p.Z):=by
 unfold Q1E
 by_cases h1:(p.sz.length:Int)=p.s.n
 case neg=>rw [Qf (show ¬ p.Z from fun q=>h1 q.ls)];simp [h1]
 by_cases h2:(p.bf.length:Int)=(p.s.fr.length:Int)
 case neg=>rw [Qf (show ¬ p.Z from fun q=>h2 (by rw [q.lb]))];simp [h1,h2]
 by_cases h3:(p.bh.length:Int)=(p.t.fr.length:Int)
 case neg=>rw [Qf (show ¬ p.Z from fun q=>h3 (by rw [q.lh]))];simp [h1,h2,h3]
 have ns:=hs.nums;have nt:=ht.nums;rw [if_neg (Q1b h1),if_neg (Q1b h2),show ((p.bh.length:Int) != (p.t.fr.length:Int))=false by simp [h3]];simp only [Option.bind_some,Bool.false_eq_true,if_false];refine chkI p.sz.length p.row (Sum.inr false) (Sum.inl ()) (by omega) (fun x hx=>?_) (by rw [if_neg (by omega)]) ?_
 ·rw [if_pos (by omega),Q6 (by omega)]
  by_cases q1:((rx p.sz x).length:Int)=p.t.n
  case neg=>rw [if_pos q1,Qf (show ¬ p.row x from fun q=>q1 q.1)];simp
  rw [if_neg (Q1b q1),Option.bind_assoc];refine chkI (rx p.sz x).length (fun y=>0≤ix (rx p.sz x) y∧ix (rx p.sz x) y≤64) (Sum.inl false) (Sum.inr ()) (by omega) (fun y hy=>?_) (by rw [Q6 (by omega),if_neg (by omega)]) ?_
  ·rw [Q6 (by omega),if_pos (by omega),Q6 (by omega),Q6 (by omega)];unfold Q3F;simp only [Option.bind_some]
   by_cases q2:0≤ix (rx p.sz x) y∧ix (rx p.sz x) y≤64
   ·rw [Qm q2,Q6 (by unfold B64;omega)];simp [q2]
   rw [Qf q2];simp;omega
  by_cases q2:∀ y:Nat,y<(rx p.sz x).length→0≤ix (rx p.sz x) y∧ix (rx p.sz x) y≤64
  ·rw [Qm q2,Qm (show p.row x from ⟨q1,q2⟩)];simp only [if_true,Option.bind_some];rw [Q6 (by unfold B64;omega)]
  rw [Qf q2,Qf (show ¬ p.row x from fun q=>q2 q.2)];simp
 by_cases q:∀ x:Nat,x<p.sz.length→p.row x
 ·rw [Qm q,Qm (show p.Z from ⟨hs,ht,h1,by omega,by omega,q⟩)];simp
 rw [Qf q,Qf (show ¬ p.Z from fun z=>q z.row)];simp
theorem MpP.inR {f:List Int} {m n:Int}:MpP f m n↔(f.length:Int)=m∧f.all (inR n)=true:=by
 unfold MpP;rw [all_inR]
theorem e_l22Maps {p:Prf} (h:p.Z):Q20 p=some (bo p.M):=by
 have ns:=h.hs.nums;have nt:=h.ht.nums;have z1:=h.ls;have z2:=h.lb;have z3:=h.lh;unfold Q20;refine chkI p.bf.length p.mbf (Sum.inr false) (Sum.inl ()) (by omega) (fun a ha=>?_) (by rw [if_neg (by omega)]) ?_
 ·rw [if_pos (by omega),Q6 (by omega)]
  by_cases q1:((gx p.bf a).length:Int)=p.t.n
  case neg=>rw [if_pos q1,Qf (show ¬ p.mbf a from fun q=>q1 q.1)];simp
  rw [if_neg (Q1b q1),Option.bind_assoc];have en:=h.hs.ends (a:=a) (by omega);have s1:=h.S en.1;have s2:=h.S en.2;refine chkI (gx p.bf a).length (fun y=>MpP (rx (gx p.bf a) y) (ix (rx p.sz (ix p.s.to a)) y) (ix (rx p.sz (ix p.s.fr a)) y)) (Sum.inl false) (Sum.inr ()) (by omega) (fun y hy=>?_) (by rw [Q6 (by omega),if_neg (by omega)]) ?_
  ·rw [Q6 (by omega),if_pos (by omega),Q6 (by omega),Q6 (by omega),Q6 (by omega),Q6 (by omega),Q6 (by omega)]
   by_cases q2:((rx (gx p.bf a) y).length:Int)=ix (rx p.sz (ix p.s.to a)) y
   case neg=>rw [if_pos q2,Qf (fun q=>q2 q.1)];simp
   rw [if_neg (Q1b q2),Q6 (by omega),Q6 (by omega),Q6 (by omega)];unfold Q1O;simp only [Option.bind_some];rw [Q3i MpP.inR];cases q3:(rx (gx p.bf a) y).all (inR (ix (rx p.sz (ix p.s.fr a)) y)) with
   | true=>rw [Qm ⟨q2,rfl⟩];simp only [Bool.not_true,Bool.false_eq_true,if_false,if_true];rw [Q6 (by unfold B64;omega)]
   | false=>rw [Qf (fun q=>by cases q.2)];simp
  by_cases q2:∀ y:Nat,y<(gx p.bf a).length→MpP (rx (gx p.bf a) y) (ix (rx p.sz (ix p.s.to a)) y) (ix (rx p.sz (ix p.s.fr a)) y)
  ·rw [Qm q2,Qm (show p.mbf a from ⟨q1,q2⟩)];simp only [if_true,Option.bind_some];rw [Q6 (by unfold B64;omega)]
  rw [Qf q2,Qf (show ¬ p.mbf a from fun q=>q2 q.2)];simp
 by_cases k1:∀ a:Nat,a<p.bf.length→p.mbf a
 case neg=>rw [Qf k1,Qf (show ¬ p.M from fun q=>k1 q.bf)];simp
 rw [Qm k1];simp only [if_true];refine chkI p.bh.length p.mbh (Sum.inr false) (Sum.inl ()) (by omega) (fun b hb=>?_) (by rw [if_neg (by omega)]) ?_
 ·rw [if_pos (by omega),Q6 (by omega)]
  by_cases q1:((gx p.bh b).length:Int)=p.s.n
  case neg=>rw [if_pos q1,Qf (show ¬ p.mbh b from fun q=>q1 q.1)];simp
  rw [if_neg (Q1b q1),Option.bind_assoc];have en:=h.ht.ends (a:=b) (by omega);refine chkI (gx p.bh b).length (fun x=>MpP (rx (gx p.bh b) x) (ix (rx p.sz x) (ix p.t.fr b)) (ix (rx p.sz x) (ix p.t.to b))) (Sum.inl false) (Sum.inr ()) (by omega) (fun x hx=>?_) (by rw [Q6 (by omega),if_neg (by omega)]) ?_
  ·have s1:=h.S (x:=x) (by omega);rw [Q6 (by omega),if_pos (by omega),Q6 (by omega),Q6 (by omega),Q6 (by omega),Q6 (by omega),Q6 (by omega)]
   by_cases q2:((rx (gx p.bh b) x).length:Int)=ix (rx p.sz x) (ix p.t.fr b)
   case neg=>rw [if_pos q2,Qf (fun q=>q2 q.1)];simp
   rw [if_neg (Q1b q2),Q6 (by omega),Q6 (by omega),Q6 (by omega)];unfold Q1O;simp only [Option.bind_some];rw [Q3i MpP.inR];cases q3:(rx (gx p.bh b) x).all (inR (ix (rx p.sz x) (ix p.t.to b))) with
   | true=>rw [Qm ⟨q2,rfl⟩];simp only [Bool.not_true,Bool.false_eq_true,if_false,if_true];rw [Q6 (by unfold B64;omega)]
   | false=>rw [Qf (fun q=>by cases q.2)];simp
  by_cases q2:∀ x:Nat,x<(gx p.bh b).length→MpP (rx (gx p.bh b) x) (ix (rx p.sz x) (ix p.t.fr b)) (ix (rx p.sz x) (ix p.t.to b))
  ·rw [Qm q2,Qm (show p.mbh b from ⟨q1,q2⟩)];simp only [if_true,Option.bind_some];rw [Q6 (by unfold B64;omega)]
  rw [Qf q2,Qf (show ¬ p.mbh b from fun q=>q2 q.2)];simp
 by_cases k2:∀ b:Nat,b<p.bh.length→p.mbh b
 ·rw [Qm k2,Qm (show p.M from ⟨h,k1,k2⟩)];simp
 rw [Qf k2,Qf (show ¬ p.M from fun q=>k2 q.bh)];simp
theorem MpP.thn {f g:List Int} {m n k:Int} (hf:MpP f m n) (hg:MpP g n k) (hm:m≤64):QE f g=some (QL f g)∧Q1c f g=some (QL f g):=by
 have a1:f.length≤1048576:=by have:=hf.1;omega
 have a2:∀ y∈f,0≤y∧y<(g.length:Int):=by rw [hg.1];exact mem_bnd hf.2
 unfold QE Q1c;rw [Q6 a1,Q6 a2];exact ⟨rfl,rfl⟩
theorem Prf.M.id1 {p:Prf} (h:p.M) {x y:Int} (hx:0≤x∧x<p.s.n) (hy:0≤y∧y<p.t.n):(0≤ix p.s.id x∧ix p.s.id x<(p.s.fr.length:Int))∧((gx p.bf (ix p.s.id x)).length:Int)=p.t.n∧((rx (gx p.bf (ix p.s.id x)) y).length:Int)=ix (rx p.sz x) y:=by
 have ns:=h.z.hs.nums;have a:=h.z.hs.1.id' hx.1 (by omega);have b:=h.B a;refine ⟨a,b.1,?_⟩;obtain ⟨k,rfl⟩:=Int.eq_ofNat_of_zero_le hx.1;have c:=(b.2 y hy).1;rw [(h.z.hs.1.ids k (by omega)).2] at c;exact c
theorem Prf.M.id2 {p:Prf} (h:p.M) {x y:Int} (hx:0≤x∧x<p.s.n) (hy:0≤y∧y<p.t.n):(0≤ix p.t.id y∧ix p.t.id y<(p.t.fr.length:Int))∧((gx p.bh (ix p.t.id y)).length:Int)=p.s.n∧((rx (gx p.bh (ix p.t.id y)) x).length:Int)=ix (rx p.sz x) y:=by
 have nt:=h.z.ht.nums;have a:=h.z.ht.1.id' hy.1 (by omega);have b:=h.H a;refine ⟨a,b.1,?_⟩;obtain ⟨k,rfl⟩:=Int.eq_ofNat_of_zero_le hy.1;have c:=(b.2 x hx).1;rw [(h.z.ht.1.ids k (by omega)).1] at c;exact c
theorem Prf.M.cB {p:Prf} (h:p.M) {a b y:Int} (ha:0≤a∧a<(p.s.fr.length:Int)) (hb:0≤b∧b<(p.s.fr.length:Int)) (hy:0≤y∧y<p.t.n) (e:ix p.s.to a=ix p.s.fr b) :
  QE (rx (gx p.bf b) y) (rx (gx p.bf a) y)=some (QL (rx (gx p.bf b) y) (rx (gx p.bf a) y))∧Q1c (rx (gx p.bf b) y) (rx (gx p.bf a) y)=some (QL (rx (gx p.bf b) y) (rx (gx p.bf a) y)):=by
 have q1:=(h.B ha).2 y hy;have q2:=(h.B hb).2 y hy;rw [← e] at q2;exact q2.thn q1 ((h.z.S (h.z.hs.ends hb).2).2 y hy).2
theorem Prf.M.cH {p:Prf} (h:p.M) {a b x:Int} (ha:0≤a∧a<(p.t.fr.length:Int)) (hb:0≤b∧b<(p.t.fr.length:Int)) (hx:0≤x∧x<p.s.n) (e:ix p.t.to a=ix p.t.fr b) :
  QE (rx (gx p.bh a) x) (rx (gx p.bh b) x)=some (QL (rx (gx p.bh a) x) (rx (gx p.bh b) x))∧Q1c (rx (gx p.bh a) x) (rx (gx p.bh b) x)=some (QL (rx (gx p.bh a) x) (rx (gx p.bh b) x)):=by
 have q1:=(h.H ha).2 x hx;have q2:=(h.H hb).2 x hx;rw [← e] at q2;exact q1.thn q2 ((h.z.S hx).2 _ (h.z.ht.ends ha).1).2
theorem Prf.M.cN {p:Prf} (h:p.M) {a b:Int} (ha:0≤a∧a<(p.s.fr.length:Int)) (hb:0≤b∧b<(p.t.fr.length:Int)) :
  (QE (rx (gx p.bf a) (ix p.t.fr b)) (rx (gx p.bh b) (ix p.s.fr a))=some (QL (rx (gx p.bf a) (ix p.t.fr b)) (rx (gx p.bh b) (ix p.s.fr a)))∧Q1c (rx (gx p.bf a) (ix p.t.fr b)) (rx (gx p.bh b) (ix p.s.fr a))=some (QL (rx (gx p.bf a) (ix p.t.fr b)) (rx (gx p.bh b) (ix p.s.fr a)))) ∧
  (QE (rx (gx p.bh b) (ix p.s.to a)) (rx (gx p.bf a) (ix p.t.to b))=some (QL (rx (gx p.bh b) (ix p.s.to a)) (rx (gx p.bf a) (ix p.t.to b)))∧Q1c (rx (gx p.bh b) (ix p.s.to a)) (rx (gx p.bf a) (ix p.t.to b))=some (QL (rx (gx p.bh b) (ix p.s.to a)) (rx (gx p.bf a) (ix p.t.to b)))):=by
 have ea:=h.z.hs.ends ha;have eb:=h.z.ht.ends hb;have s1:=(h.z.S ea.2).2 _ eb.1;exact ⟨((h.B ha).2 _ eb.1).thn ((h.H hb).2 _ ea.1) s1.2,((h.H hb).2 _ ea.2).thn ((h.B ha).2 _ eb.2) s1.2⟩
theorem e_l22Laws {p:Prf} (h:p.M):Q1Z p=some (bo p.Is):=by
 have ns:=h.z.hs.nums;have nt:=h.z.ht.nums;have z1:=h.z.ls;have z2:=h.z.lb;have z3:=h.z.lh;unfold Q1Z;refine chkI p.t.id.length (fun y=>(∀ x:Nat,x<p.s.id.length→p.li y x)∧∀ a:Nat,a<p.s.fr.length→∀ b:Nat,b<p.s.fr.length→p.la y a b) (Sum.inr false) (Sum.inl ()) (by omega) (fun y hy=>?_) (by rw [if_neg (by omega)]) ?_
 ·rw [if_pos (by omega),Option.bind_assoc];refine chkI p.s.id.length (p.li y) (Sum.inr false) (Sum.inl ()) (by omega) (fun x hx=>?_) (by rw [if_neg (by omega)]) ?_
  ·obtain ⟨a1,a2,a3⟩:=h.id1 (x:=x) (y:=y) (by omega) (by omega);obtain ⟨b1,b2,b3⟩:=h.id2 (x:=x) (y:=y) (by omega) (by omega);have s1:=(h.z.S (x:=x) (by omega)).2 y (by omega);rw [if_pos (by omega),Q6 (by omega),Q6 (by omega),Q6 (by omega),Q5E a3 (by omega)];simp only [Option.bind_some]
   by_cases q1:rx (gx p.bf (ix p.s.id x)) y=iota (ix (rx p.sz x) y).toNat
   case neg=>rw [Qf q1,Qf (show ¬ p.li y x from fun q=>q1 q.1)];simp
   rw [Qm q1,Q6 (by omega),Q6 (by omega),Q6 (by omega),Q5E b3 (by omega)]
   by_cases q2:rx (gx p.bh (ix p.t.id y)) x=iota (ix (rx p.sz x) y).toNat
   ·rw [Qm q2,Qm (show p.li y x from ⟨q1,q2⟩)];simp only [Option.bind_some,not_true_eq_false,if_false,Bool.not_true,Bool.false_eq_true,if_true];rw [Q6 (by unfold B64;omega)]
   rw [Qf q2,Qf (show ¬ p.li y x from fun q=>q2 q.2)];simp
  by_cases k1:∀ x:Nat,x<p.s.id.length→p.li y x
  case neg=>rw [Qf k1,Qf (fun q=>k1 q.1)];simp
  rw [Qm k1];simp only [if_true];rw [Option.bind_assoc];refine chkI p.s.fr.length (fun a=>∀ b:Nat,b<p.s.fr.length→p.la y a b) (Sum.inl false) (Sum.inr ()) (by omega) (fun a ha=>?_) (by rw [if_neg (by omega)]) ?_
  ·rw [if_pos (by omega),Option.bind_assoc];refine chkI p.s.fr.length (p.la y a) (Sum.inl false) (Sum.inr ()) (by omega) (fun b hb=>?_) (by rw [if_neg (by omega)]) ?_
   ·have r1:=h.z.hs.1.row' (j:=(a:Int)) (by omega) (by omega);rw [if_pos (by omega),Q6 (by omega),Q6 (by omega)]
    by_cases h0:0≤ix (rx p.s.cs a) b
    case neg=>rw [if_neg h0,Qm (show p.la y a b from fun q=>absurd q h0)];simp only [Option.bind_some,Bool.false_eq_true,if_false,if_true];rw [Q6 (by unfold B64;omega)]
    obtain ⟨c1,d2,d3,d4⟩:=h.z.hs.comp (a:=a) (b:=b) (by omega) (by omega) h0;have B1:=(h.B (a:=a) (by omega)).1;have B2:=(h.B (a:=b) (by omega)).1;have B3:=(h.B (a:=ix (rx p.s.cs a) b) (by omega)).1;rw [if_pos h0,Q6 (by omega),Q6 (by omega),Q6 (by omega),Q6 (by omega),Q6 (by omega),Q6 (by omega),(h.cB (a:=a) (b:=b) (y:=y) (by omega) (by omega) (by omega) c1).1];unfold Q14;simp only [Option.bind_some]
    by_cases q:rx (gx p.bf (ix (rx p.s.cs a) b)) y=QL (rx (gx p.bf b) y) (rx (gx p.bf a) y)
    ·rw [Qm (show p.la y a b from fun _=>q),Q6 (by unfold B64;omega)];simp [q]
    rw [Qf (show ¬ p.la y a b from fun z=>q (z h0))];simp [q]
   by_cases q:∀ b:Nat,b<p.s.fr.length→p.la y a b
   ·rw [Qm q];simp only [if_true,Option.bind_some];rw [Q6 (by unfold B64;omega)]
   rw [Qf q];simp
  by_cases q:∀ a:Nat,a<p.s.fr.length→∀ b:Nat,b<p.s.fr.length→p.la y a b
  ·rw [Qm q,Qm ⟨k1,q⟩];simp only [if_true,Option.bind_some];rw [Q6 (by unfold B64;omega)]
  rw [Qf q,Qf (fun z=>q z.2)];simp
 by_cases k1:∀ y:Nat,y<p.t.id.length→(∀ x:Nat,x<p.s.id.length→p.li y x)∧∀ a:Nat,a<p.s.fr.length→∀ b:Nat,b<p.s.fr.length→p.la y a b
 case neg=>rw [Qf k1,Qf (show ¬ p.Is from fun q=>k1 q.l1)];simp
 rw [Qm k1];simp only [if_true];refine chkI p.s.id.length (fun x=>∀ a:Nat,a<p.t.fr.length→∀ b:Nat,b<p.t.fr.length→p.lc x a b) (Sum.inr false) (Sum.inl ()) (by omega) (fun x hx=>?_) (by rw [if_neg (by omega)]) ?_
 ·rw [if_pos (by omega),Option.bind_assoc];refine chkI p.t.fr.length (fun a=>∀ b:Nat,b<p.t.fr.length→p.lc x a b) (Sum.inl false) (Sum.inr ()) (by omega) (fun a ha=>?_) (by rw [if_neg (by omega)]) ?_
  ·rw [if_pos (by omega),Option.bind_assoc];refine chkI p.t.fr.length (p.lc x a) (Sum.inl false) (Sum.inr ()) (by omega) (fun b hb=>?_) (by rw [if_neg (by omega)]) ?_
   ·have r1:=h.z.ht.1.row' (j:=(a:Int)) (by omega) (by omega);rw [if_pos (by omega),Q6 (by omega),Q6 (by omega)]
    by_cases h0:0≤ix (rx p.t.cs a) b
    case neg=>rw [if_neg h0,Qm (show p.lc x a b from fun q=>absurd q h0)];simp only [Option.bind_some,Bool.false_eq_true,if_false,if_true];rw [Q6 (by unfold B64;omega)]
    obtain ⟨c1,d2,d3,d4⟩:=h.z.ht.comp (a:=a) (b:=b) (by omega) (by omega) h0;have B1:=(h.H (b:=a) (by omega)).1;have B2:=(h.H (b:=b) (by omega)).1;have B3:=(h.H (b:=ix (rx p.t.cs a) b) (by omega)).1;rw [if_pos h0,Q6 (by omega),Q6 (by omega),Q6 (by omega),Q6 (by omega),Q6 (by omega),Q6 (by omega),(h.cH (a:=a) (b:=b) (x:=x) (by omega) (by omega) (by omega) c1).1];unfold Q14;simp only [Option.bind_some]
    by_cases q:rx (gx p.bh (ix (rx p.t.cs a) b)) x=QL (rx (gx p.bh a) x) (rx (gx p.bh b) x)
    ·rw [Qm (show p.lc x a b from fun _=>q),Q6 (by unfold B64;omega)];simp [q]
    rw [Qf (show ¬ p.lc x a b from fun z=>q (z h0))];simp [q]
   by_cases q:∀ b:Nat,b<p.t.fr.length→p.lc x a b
   ·rw [Qm q];simp only [if_true,Option.bind_some];rw [Q6 (by unfold B64;omega)]
   rw [Qf q];simp
  by_cases q:∀ a:Nat,a<p.t.fr.length→∀ b:Nat,b<p.t.fr.length→p.lc x a b
  ·rw [Qm q];simp only [if_true,Option.bind_some];rw [Q6 (by unfold B64;omega)]
  rw [Qf q];simp
 by_cases k2:∀ x:Nat,x<p.s.id.length→∀ a:Nat,a<p.t.fr.length→∀ b:Nat,b<p.t.fr.length→p.lc x a b
 case neg=>rw [Qf k2,Qf (show ¬ p.Is from fun q=>k2 q.l2)];simp
 rw [Qm k2];simp only [if_true];refine chkI p.s.fr.length (fun a=>∀ b:Nat,b<p.t.fr.length→p.ln a b) (Sum.inr false) (Sum.inl ()) (by omega) (fun a ha=>?_) (by rw [if_neg (by omega)]) ?_
 ·rw [if_pos (by omega),Option.bind_assoc];refine chkI p.t.fr.length (p.ln a) (Sum.inl false) (Sum.inr ()) (by omega) (fun b hb=>?_) (by rw [if_neg (by omega)]) ?_
  ·have B1:=(h.B (a:=a) (by omega)).1;have B2:=(h.H (b:=b) (by omega)).1;have ea:=h.z.hs.ends (a:=a) (by omega);have eb:=h.z.ht.ends (a:=b) (by omega);obtain ⟨c1,c2⟩:=h.cN (a:=a) (b:=b) (by omega) (by omega);rw [if_pos (by omega),Q6 (by omega),Q6 (by omega),Q6 (by omega),Q6 (by omega),Q6 (by omega),Q6 (by omega),c1.1];simp only [Option.bind_some];rw [Q6 (by omega),Q6 (by omega),Q6 (by omega),Q6 (by omega),Q6 (by omega),Q6 (by omega),c2.1];unfold Q14;simp only [Option.bind_some]
   by_cases q:p.ln a b
   ·have q':QL (rx (gx p.bf a) (ix p.t.fr b)) (rx (gx p.bh b) (ix p.s.fr a))=QL (rx (gx p.bh b) (ix p.s.to a)) (rx (gx p.bf a) (ix p.t.to b)):=q;rw [Qm q,Q6 (by unfold B64;omega)];simp [q']
   have q':¬ QL (rx (gx p.bf a) (ix p.t.fr b)) (rx (gx p.bh b) (ix p.s.fr a))=QL (rx (gx p.bh b) (ix p.s.to a)) (rx (gx p.bf a) (ix p.t.to b)):=q;rw [Qf q];simp [q']
  by_cases q:∀ b:Nat,b<p.t.fr.length→p.ln a b
  ·rw [Qm q];simp only [if_true,Option.bind_some];rw [Q6 (by unfold B64;omega)]
  rw [Qf q];simp
 by_cases q:∀ a:Nat,a<p.s.fr.length→∀ b:Nat,b<p.t.fr.length→p.ln a b
 ·rw [Qm q,Qm (show p.Is from ⟨h,k1,k2,q⟩)];simp
 rw [Qf q,Qf (show ¬ p.Is from fun z=>q z.l3)];simp
theorem e_l22Is (p:Prf):Q2X p=some (bo p.Is):=by
 unfold Q2X Q2W;simp only [Option.bind_some]
 by_cases h1:p.s.Is
 case neg=>rw [Qf h1,Qf (show ¬ p.Is from fun q=>h1 q.m.z.hs)];simp
 by_cases h2:p.t.Is
 case neg=>rw [Qf h2,Qf (show ¬ p.Is from fun q=>h2 q.m.z.ht)];simp
 rw [Qm h1,Qm h2,Q7D h1 h2];simp only [if_true,Option.bind_some]
 by_cases h3:p.Z
 case neg=>rw [Qf h3,Qf (show ¬ p.Is from fun q=>h3 q.m.z)];simp
 rw [Qm h3,e_l22Maps h3];simp only [if_true,Option.bind_some]
 by_cases h4:p.M
 case neg=>rw [Qf h4,Qf (show ¬ p.Is from fun q=>h4 q.m)];simp
 rw [Qm h4,e_l22Laws h4];simp
theorem e_isShape (p:Prf):QB p=some (bo p.M):=by
 unfold QB;rw [e_areCats _ (by simp)];simp only [Option.bind_some]
 by_cases h0:∀ c∈[p.s,p.t],c.Is
 case neg=>rw [Qf h0,Qf (show ¬ p.M from fun q=>h0 (by simp [q.z.hs,q.z.ht]))];simp
 have hs:p.s.Is:=h0 _ (by simp);have ht:p.t.Is:=h0 _ (by simp);rw [Qm h0,if_neg (by simp)];have ns:=hs.nums;have nt:=ht.nums;unfold QI
 by_cases h1:(p.sz.length:Int)=p.s.n
 case neg=>rw [Qf (show ¬ p.M from fun q=>h1 q.z.ls)];simp [h1]
 by_cases h2:(p.bf.length:Int)=(p.s.fr.length:Int)
 case neg=>rw [Qf (show ¬ p.M from fun q=>h2 (by rw [q.z.lb]))];simp [h1,h2]
 by_cases h3:(p.bh.length:Int)=(p.t.fr.length:Int)
 case neg=>rw [Qf (show ¬ p.M from fun q=>h3 (by rw [q.z.lh]))];simp [h1,h2,h3]
 rw [if_neg (Q1b h1)];simp only [Option.bind_some];rw [if_neg (Q1b h2),show ((p.bh.length:Int) != (p.t.fr.length:Int))=false by simp [h3]];simp only [Option.bind_some,Bool.false_eq_true,if_false];refine chkI p.sz.length p.row (Sum.inr false) (Sum.inl ()) (by omega) (fun x hx=>?_) (by rw [if_neg (by omega)]) ?_
 ·rw [if_pos (by omega),Q6 (by omega)]
  by_cases q1:((rx p.sz x).length:Int)=p.t.n
  case neg=>rw [if_pos q1,Qf (show ¬ p.row x from fun q=>q1 q.1)];simp
  rw [if_neg (Q1b q1)];unfold Q1N;rw [Q6 (by unfold B64;omega)];simp only [Option.bind_some];have e:p.row x↔(rx p.sz x).all (inR 65)=true:=by
   rw [all_inR];exact ⟨fun q j hj=>by have:=q.2 j hj;omega,fun q=>⟨q1,fun j hj=>by have:=q j hj;omega⟩⟩
  rw [Q3i e];cases q3:(rx p.sz x).all (inR 65) with
  | true=>rw [Qm rfl];simp only [Bool.not_true,Bool.false_eq_true,if_false,if_true];rw [Q6 (by unfold B64;omega)]
  | false=>rw [Qf (fun q=>by cases q)];simp
 by_cases k0:∀ x:Nat,x<p.sz.length→p.row x
 case neg=>rw [Qf k0,Qf (show ¬ p.M from fun q=>k0 q.z.row)];simp
 rw [Qm k0];simp only [if_true];have h:p.Z:=⟨hs,ht,h1,by omega,by omega,k0⟩;refine chkI p.bf.length p.mbf (Sum.inr false) (Sum.inl ()) (by omega) (fun a ha=>?_) (by rw [if_neg (by omega)]) ?_
 ·rw [if_pos (by omega),Q6 (by omega)]
  by_cases q1:((gx p.bf a).length:Int)=p.t.n
  case neg=>rw [if_pos q1,Qf (show ¬ p.mbf a from fun q=>q1 q.1)];simp
  rw [if_neg (Q1b q1),Option.bind_assoc];have en:=h.hs.ends (a:=a) (by omega);have s1:=h.S en.1;have s2:=h.S en.2;refine chkI (gx p.bf a).length (fun y=>MpP (rx (gx p.bf a) y) (ix (rx p.sz (ix p.s.to a)) y) (ix (rx p.sz (ix p.s.fr a)) y)) (Sum.inl false) (Sum.inr ()) (by omega) (fun y hy=>?_) (by rw [if_neg (by omega)]) ?_
  ·rw [if_pos (by omega),Q6 (by omega),Q6 (by omega),Q6 (by omega),Q6 (by omega),Q6 (by omega),Q6 (by omega),Q6 (by omega)];unfold Q1q;have s3:=s1.2 y (by omega);rw [Q6 (by unfold B64;omega)];simp only [Option.bind_some];rw [Q3i MpP.inR]
   by_cases q2:((rx (gx p.bf a) y).length:Int)=ix (rx p.sz (ix p.s.to a)) y
   case neg=>rw [Qf (fun q=>q2 q.1)];simp [q2]
   cases q3:(rx (gx p.bf a) y).all (inR (ix (rx p.sz (ix p.s.fr a)) y)) with
   | true=>rw [Qm ⟨q2,rfl⟩,Q6 (by unfold B64;omega)];simp [q2]
   | false=>rw [Qf (fun q=>by cases q.2)];simp
  by_cases q2:∀ y:Nat,y<(gx p.bf a).length→MpP (rx (gx p.bf a) y) (ix (rx p.sz (ix p.s.to a)) y) (ix (rx p.sz (ix p.s.fr a)) y)
  ·rw [Qm q2,Qm (show p.mbf a from ⟨q1,q2⟩)];simp only [if_true,Option.bind_some];rw [Q6 (by unfold B64;omega)]
  rw [Qf q2,Qf (show ¬ p.mbf a from fun q=>q2 q.2)];simp
 by_cases k1:∀ a:Nat,a<p.bf.length→p.mbf a
 case neg=>rw [Qf k1,Qf (show ¬ p.M from fun q=>k1 q.bf)];simp
 rw [Qm k1];simp only [if_true];refine chkI p.bh.length p.mbh (Sum.inr false) (Sum.inl ()) (by omega) (fun b hb=>?_) (by rw [if_neg (by omega)]) ?_
 ·rw [if_pos (by omega),Q6 (by omega)]
  by_cases q1:((gx p.bh b).length:Int)=p.s.n
  case neg=>rw [if_pos q1,Qf (show ¬ p.mbh b from fun q=>q1 q.1)];simp
  rw [if_neg (Q1b q1),Option.bind_assoc];have en:=h.ht.ends (a:=b) (by omega);refine chkI (gx p.bh b).length (fun x=>MpP (rx (gx p.bh b) x) (ix (rx p.sz x) (ix p.t.fr b)) (ix (rx p.sz x) (ix p.t.to b))) (Sum.inl false) (Sum.inr ()) (by omega) (fun x hx=>?_) (by rw [if_neg (by omega)]) ?_
  ·have s1:=h.S (x:=x) (by omega);have s3:=s1.2 _ en.2;rw [if_pos (by omega),Q6 (by omega),Q6 (by omega),Q6 (by omega),Q6 (by omega),Q6 (by omega),Q6 (by omega),Q6 (by omega)];unfold Q1q;rw [Q6 (by unfold B64;omega)];simp only [Option.bind_some];rw [Q3i MpP.inR]
   by_cases q2:((rx (gx p.bh b) x).length:Int)=ix (rx p.sz x) (ix p.t.fr b)
   case neg=>rw [Qf (fun q=>q2 q.1)];simp [q2]
   cases q3:(rx (gx p.bh b) x).all (inR (ix (rx p.sz x) (ix p.t.to b))) with
   | true=>rw [Qm ⟨q2,rfl⟩,Q6 (by unfold B64;omega)];simp [q2]
   | false=>rw [Qf (fun q=>by cases q.2)];simp
  by_cases q2:∀ x:Nat,x<(gx p.bh b).length→MpP (rx (gx p.bh b) x) (ix (rx p.sz x) (ix p.t.fr b)) (ix (rx p.sz x) (ix p.t.to b))
  ·rw [Qm q2,Qm (show p.mbh b from ⟨q1,q2⟩)];simp only [if_true,Option.bind_some];rw [Q6 (by unfold B64;omega)]
  rw [Qf q2,Qf (show ¬ p.mbh b from fun q=>q2 q.2)];simp
 by_cases k2:∀ b:Nat,b<p.bh.length→p.mbh b
 ·rw [Qm k2,Qm (show p.M from ⟨h,k1,k2⟩)];simp
 rw [Qf k2,Qf (show ¬ p.M from fun q=>k2 q.bh)];simp
def Prf.Ac (p:Prf):Prop:=(∀ y:Nat,y<p.t.id.length→(∀ x:Nat,x<p.s.id.length→p.li y x)∧∀ a:Nat,a<p.s.fr.length→∀ b:Nat,b<p.s.fr.length→p.la y a b)∧∀ x:Nat,x<p.s.id.length→∀ a:Nat,a<p.t.fr.length→∀ b:Nat,b<p.t.fr.length→p.lc x a b
theorem e_acts {p:Prf} (h:p.M):QJ p=some (bo p.Ac):=by
 have ns:=h.z.hs.nums;have nt:=h.z.ht.nums;have z1:=h.z.ls;have z2:=h.z.lb;have z3:=h.z.lh;unfold QJ;refine chkI p.t.id.length (fun y=>(∀ x:Nat,x<p.s.id.length→p.li y x)∧∀ a:Nat,a<p.s.fr.length→∀ b:Nat,b<p.s.fr.length→p.la y a b) (Sum.inr false) (Sum.inl ()) (by omega) (fun y hy=>?_) (by rw [if_neg (by omega)]) ?_
 ·rw [if_pos (by omega),Option.bind_assoc];refine chkI p.s.id.length (p.li y) (Sum.inr false) (Sum.inl ()) (by omega) (fun x hx=>?_) (by rw [if_neg (by omega)]) ?_
  ·obtain ⟨a1,a2,a3⟩:=h.id1 (x:=x) (y:=y) (by omega) (by omega);obtain ⟨b1,b2,b3⟩:=h.id2 (x:=x) (y:=y) (by omega) (by omega);have s0:=h.z.S (x:=x) (by omega);have s1:=s0.2 y (by omega);rw [if_pos (by omega),Q6 (by omega),Q6 (by omega),Q6 (by omega),Q6 (by omega),Q6 (by omega),e_numbers s1.1 (by omega)];unfold Q1k;simp only [Option.bind_some]
   by_cases q1:rx (gx p.bf (ix p.s.id x)) y=iota (ix (rx p.sz x) y).toNat
   case neg=>rw [Qf (show ¬ p.li y x from fun q=>q1 q.1)];simp [q1]
   rw [if_neg (by simp [q1]),Q6 (by omega),Q6 (by omega),Q6 (by omega),Q6 (by omega),Q6 (by omega)]
   by_cases q2:rx (gx p.bh (ix p.t.id y)) x=iota (ix (rx p.sz x) y).toNat
   ·rw [Qm (show p.li y x from ⟨q1,q2⟩)];simp only [Option.bind_some,decide_eq_true q2,Bool.not_true,Bool.false_eq_true,if_false,if_true];rw [Q6 (by unfold B64;omega)]
   rw [Qf (show ¬ p.li y x from fun q=>q2 q.2)];simp [q2]
  by_cases k1:∀ x:Nat,x<p.s.id.length→p.li y x
  case neg=>rw [Qf k1,Qf (fun q=>k1 q.1)];simp
  rw [Qm k1];simp only [if_true];rw [Option.bind_assoc];refine chkI p.s.fr.length (fun a=>∀ b:Nat,b<p.s.fr.length→p.la y a b) (Sum.inl false) (Sum.inr ()) (by omega) (fun a ha=>?_) (by rw [if_neg (by omega)]) ?_
  ·have r1:=h.z.hs.1.row' (j:=(a:Int)) (by omega) (by omega);rw [if_pos (by omega),Q6 (by omega),Option.bind_assoc];refine chkI p.s.fr.length (p.la y a) (Sum.inl false) (Sum.inr ()) (by omega) (fun b hb=>?_) (by rw [if_neg (by omega)]) ?_
   ·rw [if_pos (by omega),Q6 (by omega)]
    by_cases h0:0≤ix (rx p.s.cs a) b
    case neg=>rw [if_neg h0,Qm (show p.la y a b from fun q=>absurd q h0)];simp only [Option.bind_some,Bool.false_eq_true,if_false,if_true];rw [Q6 (by unfold B64;omega)]
    obtain ⟨c1,d2,d3,d4⟩:=h.z.hs.comp (a:=a) (b:=b) (by omega) (by omega) h0;have B1:=(h.B (a:=a) (by omega)).1;have B2:=(h.B (a:=b) (by omega)).1;have B3:=(h.B (a:=ix (rx p.s.cs a) b) (by omega)).1;rw [if_pos h0,Q6 (by omega),Q6 (by omega),Q6 (by omega),Q6 (by omega),Q6 (by omega),Q6 (by omega),(h.cB (a:=a) (b:=b) (y:=y) (by omega) (by omega) (by omega) c1).2];unfold Q1k;simp only [Option.bind_some]
    by_cases q:rx (gx p.bf (ix (rx p.s.cs a) b)) y=QL (rx (gx p.bf b) y) (rx (gx p.bf a) y)
    ·rw [Qm (show p.la y a b from fun _=>q),Q6 (by unfold B64;omega)];simp [q]
    rw [Qf (show ¬ p.la y a b from fun z=>q (z h0))];simp [q]
   by_cases q:∀ b:Nat,b<p.s.fr.length→p.la y a b
   ·rw [Qm q];simp only [if_true,Option.bind_some];rw [Q6 (by unfold B64;omega)]
   rw [Qf q];simp
  by_cases q:∀ a:Nat,a<p.s.fr.length→∀ b:Nat,b<p.s.fr.length→p.la y a b
  ·rw [Qm q,Qm ⟨k1,q⟩];simp only [if_true,Option.bind_some];rw [Q6 (by unfold B64;omega)]
  rw [Qf q,Qf (fun z=>q z.2)];simp
 by_cases k1:∀ y:Nat,y<p.t.id.length→(∀ x:Nat,x<p.s.id.length→p.li y x)∧∀ a:Nat,a<p.s.fr.length→∀ b:Nat,b<p.s.fr.length→p.la y a b
 case neg=>rw [Qf k1,Qf (show ¬ p.Ac from fun q=>k1 q.1)];simp
 rw [Qm k1];simp only [if_true];refine chkI p.s.id.length (fun x=>∀ a:Nat,a<p.t.fr.length→∀ b:Nat,b<p.t.fr.length→p.lc x a b) (Sum.inr false) (Sum.inl ()) (by omega) (fun x hx=>?_) (by rw [if_neg (by omega)]) ?_
 ·rw [if_pos (by omega),Option.bind_assoc];refine chkI p.t.fr.length (fun a=>∀ b:Nat,b<p.t.fr.length→p.lc x a b) (Sum.inl false) (Sum.inr ()) (by omega) (fun a ha=>?_) (by rw [if_neg (by omega)]) ?_
  ·have r1:=h.z.ht.1.row' (j:=(a:Int)) (by omega) (by omega);rw [if_pos (by omega),Q6 (by omega),Option.bind_assoc];refine chkI p.t.fr.length (p.lc x a) (Sum.inl false) (Sum.inr ()) (by omega) (fun b hb=>?_) (by rw [if_neg (by omega)]) ?_
   ·rw [if_pos (by omega),Q6 (by omega)]
    by_cases h0:0≤ix (rx p.t.cs a) b
    case neg=>rw [if_neg h0,Qm (show p.lc x a b from fun q=>absurd q h0)];simp only [Option.bind_some,Bool.false_eq_true,if_false,if_true];rw [Q6 (by unfold B64;omega)]
    obtain ⟨c1,d2,d3,d4⟩:=h.z.ht.comp (a:=a) (b:=b) (by omega) (by omega) h0;have B1:=(h.H (b:=a) (by omega)).1;have B2:=(h.H (b:=b) (by omega)).1;have B3:=(h.H (b:=ix (rx p.t.cs a) b) (by omega)).1;rw [if_pos h0,Q6 (by omega),Q6 (by omega),Q6 (by omega),Q6 (by omega),Q6 (by omega),Q6 (by omega),(h.cH (a:=a) (b:=b) (x:=x) (by omega) (by omega) (by omega) c1).2];unfold Q1k;simp only [Option.bind_some]
    by_cases q:rx (gx p.bh (ix (rx p.t.cs a) b)) x=QL (rx (gx p.bh a) x) (rx (gx p.bh b) x)
    ·rw [Qm (show p.lc x a b from fun _=>q),Q6 (by unfold B64;omega)];simp [q]
    rw [Qf (show ¬ p.lc x a b from fun z=>q (z h0))];simp [q]
   by_cases q:∀ b:Nat,b<p.t.fr.length→p.lc x a b
   ·rw [Qm q];simp only [if_true,Option.bind_some];rw [Q6 (by unfold B64;omega)]
   rw [Qf q];simp
  by_cases q:∀ a:Nat,a<p.t.fr.length→∀ b:Nat,b<p.t.fr.length→p.lc x a b
  ·rw [Qm q];simp only [if_true,Option.bind_some];rw [Q6 (by unfold B64;omega)]
  rw [Qf q];simp
 by_cases k2:∀ x:Nat,x<p.s.id.length→∀ a:Nat,a<p.t.fr.length→∀ b:Nat,b<p.t.fr.length→p.lc x a b
 ·rw [Qm k2,Qm (show p.Ac from ⟨k1,k2⟩)];simp
 rw [Qf k2,Qf (show ¬ p.Ac from fun q=>k2 q.2)];simp
theorem e_isProf (p:Prf):Qx p=some (bo p.Is):=by
 unfold Qx;rw [e_isShape];simp only [Option.bind_some]
 by_cases h:p.M
 case neg=>rw [Qf h,Qf (show ¬ p.Is from fun q=>h q.m)];simp
 rw [Qm h,if_neg (by simp),e_acts h];simp only [Option.bind_some]
 by_cases h1:p.Ac
 case neg=>rw [Qf h1,Qf (show ¬ p.Is from fun q=>h1 ⟨q.l1,q.l2⟩)];simp
 rw [Qm h1,if_neg (by simp)];have ns:=h.z.hs.nums;have nt:=h.z.ht.nums;have z1:=h.z.ls;have z2:=h.z.lb;have z3:=h.z.lh;refine chkI p.s.fr.length (fun a=>∀ b:Nat,b<p.t.fr.length→p.ln a b) (Sum.inr false) (Sum.inl ()) (by omega) (fun a ha=>?_) (by rw [if_neg (by omega)]) ?_
 ·rw [if_pos (by omega),Option.bind_assoc];refine chkI p.t.fr.length (p.ln a) (Sum.inl false) (Sum.inr ()) (by omega) (fun b hb=>?_) (by rw [if_neg (by omega)]) ?_
  ·have B1:=(h.B (a:=a) (by omega)).1;have B2:=(h.H (b:=b) (by omega)).1;have ea:=h.z.hs.ends (a:=a) (by omega);have eb:=h.z.ht.ends (a:=b) (by omega);obtain ⟨c1,d2⟩:=h.cN (a:=a) (b:=b) (by omega) (by omega);rw [if_pos (by omega),Q6 (by omega),Q6 (by omega),Q6 (by omega),Q6 (by omega),Q6 (by omega),Q6 (by omega),c1.2];simp only [Option.bind_some];rw [Q6 (by omega),Q6 (by omega),Q6 (by omega),Q6 (by omega),Q6 (by omega),Q6 (by omega),d2.2];unfold Q1k;simp only [Option.bind_some]
   by_cases q:p.ln a b
   ·have q':QL (rx (gx p.bf a) (ix p.t.fr b)) (rx (gx p.bh b) (ix p.s.fr a))=QL (rx (gx p.bh b) (ix p.s.to a)) (rx (gx p.bf a) (ix p.t.to b)):=q;rw [Qm q,Q6 (by unfold B64;omega)];simp [q']
   have q':¬ QL (rx (gx p.bf a) (ix p.t.fr b)) (rx (gx p.bh b) (ix p.s.fr a))=QL (rx (gx p.bh b) (ix p.s.to a)) (rx (gx p.bf a) (ix p.t.to b)):=q;rw [Qf q];simp [q']
  by_cases q:∀ b:Nat,b<p.t.fr.length→p.ln a b
  ·rw [Qm q];simp only [if_true,Option.bind_some];rw [Q6 (by unfold B64;omega)]
  rw [Qf q];simp
 by_cases q:∀ a:Nat,a<p.s.fr.length→∀ b:Nat,b<p.t.fr.length→p.ln a b
 ·rw [Qm q,Qm (show p.Is from ⟨h,h1.1,h1.2,q⟩)];simp
 rw [Qf q,Qf (show ¬ p.Is from fun z=>q z.l3)];simp
theorem tabg {α ε β:Type} {body:List α × Int→Option (Ctl (List α × Int) ε)} {K:ε→Option β} {r:Option β} (n:Nat) (v:Nat→α) {e:ε} (hn:n<1000000)
  (h:∀ i:Nat,i<n→body (tab i v,(i:Int))=(ass ((tab i v++[v i]).length≤1073741824) <| ass (B64 ((i:Int)+1)) <| some (.next (tab i v++[v i],(i:Int)+1))))
  (he:body (tab n v,(n:Int))=some (.ret e)) (hk:K e=r):(Qu body fuel ([],0)).bind K=r:=by
 refine Q2Z n (fun i=>tab i v) (e:=e) rfl (by omega) (fun i hi=>?_) he hk;rw [h i hi,Q6 (by simp;omega),Q6 (by unfold B64;omega),Q1z]
structure PRes (p:Prf) (f g:Fn):Prop where
 m:p.M
 hf:f.Is
 hg:g.Is
 e1:f.t=p.s
 e2:g.t=p.t
structure PRF (p:Prf) (f g:Fn):Prop where
 a1:(f.ob.length:Int)=f.s.n
 a2:f.ar.length=f.s.fr.length
 a3:(g.ob.length:Int)=g.s.n
 a4:g.ar.length=g.s.fr.length
 a5:f.s.n≤8
 a6:g.s.n≤8
 a7:f.s.fr.length≤40
 a8:g.s.fr.length≤40
 b1:∀ x:Nat,x<f.ob.length→0≤ix f.ob x∧ix f.ob x<p.s.n
 b2:∀ x:Nat,x<g.ob.length→0≤ix g.ob x∧ix g.ob x<p.t.n
 b3:∀ x:Nat,x<f.ar.length→0≤ix f.ar x∧ix f.ar x<(p.s.fr.length:Int)
 b4:∀ x:Nat,x<g.ar.length→0≤ix g.ar x∧ix g.ar x<(p.t.fr.length:Int)
theorem Q7o {α ε β:Type} {body:List α × Int→Option (Ctl (List α × Int) ε)} {K:ε→Option β} {r:Option β} (xs:List Int) (q:Int→α) {e:ε} (hn:xs.length<4611686018427387904)
  (h:∀ (i:Nat) (acc:List α),i<xs.length→acc.length=i→body (acc,(i:Int))=some (.next (acc++[q (ix xs i)],(i:Int)+1)))
  (he:body (xs.map q,(xs.length:Int))=some (.ret e)) (hk:K e=r):(Qu body fuel ([],0)).bind K=r:=by
 refine Q2Z xs.length (fun i=>(xs.take i).map q) (e:=e) (by simp) hn (fun i hi=>?_) (by simpa using he) hk;have hs:xs.take (i+1)=xs.take i++[ix xs i]:=by rw [List.take_succ_eq_append_getElem hi,QT _ _ hi]
 rw [h i _ hi (by simp;omega),hs];simp
attribute [local simp] eL eI Qw
noncomputable def Q3E (n_:Int) (f_:List Int):Option (List Int) :=
 ass (0≤n_∧n_≤1073741824) <|
 (Qu (σ:=List Bool × Int) (ε:=List Bool) (fun s7 =>
  if s7.2<(f_.length:Int) then
   ass (0≤s7.2∧s7.2<(f_.length:Int)) <|
   ass (0≤ix f_ s7.2∧ix f_ s7.2<(s7.1.length:Int)) <|
   ass (B64 (s7.2+1)) <|
   some (Ctl.next (s7.1.set ((ix f_ s7.2).toNat) true,s7.2+1))
  else
   some (Ctl.ret s7.1)) fuel (List.replicate n_.toNat false,0)).bind fun b2 =>
 (Q39 b2).bind fun v12 =>
 some v12
theorem Qi {F : Fx} {st st' : St} (m : List (Nat × Nat)) (h : (m.map Prod.fst).Nodup ∧ (m.map Prod.snd).Nodup ∧ (∀ id, id < F.pins → look id m = some id) ∧ (∀ p ∈ m, p.2 < st'.n) ∧ (∀ p ∈ st'.h, p.1 < st'.n) ∧ (∀ p ∈ st'.s, p.2 = rl m (st.get p.1) ∨ p.2 = .bot) ∧ ∀ p ∈ st'.h, hhOk m st.h p.1 p.2 := by simp [hP, hhOk, back, UA, U1, IA, I1, LA, L1, BA, B1, EA, E1, E2, eB, eI, eL, Cat.cells, Prf.cells, Fn.cells]) : Wk F st st' := Wk.r1 m h
theorem w_i_image (n_:Int) (f_:List Int) (r:List Int) (h:Q3E n_ f_=some r):Contract Try.prog 192 [iV n_,lI f_] (lI r):=by
 refine Qg (rvs:=[.tmp 4]) (rs:=[lI r]) Try.func192 rfl rfl rfl rfl (by simp [Try.f192]) fun F hN hP=>?_;unfold Q3E at h;refine Q5 ?_;refine runQ hN fun K hK=>?_;simp [-Q0,-Q7,-Q1,-Q8,-Q2];repeat refine sdQ ?_
 refine hK _ ?_;clear hK K;refine tn ?_;refine Q9 (st':=⟨[(0,iV n_),(1,lI f_)],[],0⟩) (Qi []) ?_;refine Q5 ?_;refine runQ hN fun K hK=>?_;replace h:=Q4 h;obtain ⟨a1,h⟩:=h;simp [-Q0,-Q7,-Q1,-Q8,-Q2];repeat refine sdQ ?_
 refine hK _ ?_;clear hK K;refine tn ?_;refine Q9 (st':=⟨[(1,lI f_),(5,.own 0 0 ((List.replicate n_.toNat false).length))],[(0,.row 1 (Bs (List.replicate n_.toNat false)))],1⟩) (Qi [(0,0)]) ?_;refine Q5 ?_;refine Q5 ?_;refine runQ hN fun K hK=>?_;simp [-Q0,-Q7,-Q1,-Q8,-Q2];repeat refine sdQ ?_
 refine hK _ ?_;clear hK K;refine tn ?_;refine Q9 (st':=⟨[(5,.own 0 0 ((List.replicate n_.toNat false).length)),(10,lI f_),(11,iV (f_.length:Int)),(12,iV 0)],[(0,.row 1 (Bs (List.replicate n_.toNat false)))],1⟩) (Qi [(0,0)]) ?_;replace h:=bind_some h;obtain ⟨e2,h,h2⟩:=h;refine Qj (fun b2:List Bool=>⟨[(5,.own 0 0 b2.length)],[(0,.row 1 (Bs b2))],1⟩) (fun b2=>b2=e2) ?_ ?_
 ·refine Qa ?_;refine Qr h (fun s7:List Bool × Int=>⟨[(5,.own 0 0 s7.1.length),(10,lI f_),(11,iV (f_.length:Int)),(12,iV s7.2)],[(0,.row 1 (Bs s7.1))],1⟩) (Qi [(0,0)]) ?_;clear h;intro k7 s7 c7 h hk7;refine Q5 ?_;refine runQ hN fun K hK=>?_;simp [-Q0,-Q7,-Q1,-Q8,-Q2];repeat refine sdQ ?_
  refine hK _ ?_;clear hK K;refine tn ?_;refine Q9 (st':=⟨[(5,.own 0 0 s7.1.length),(10,lI f_),(11,iV (f_.length:Int)),(12,iV s7.2),(13,.val (.bool (decide (s7.2<(f_.length:Int)))))],[(0,.row 1 (Bs s7.1))],1⟩) (Qi [(0,0)]) ?_;refine Q5 ?_;refine Qc rfl (fun g=>?_) fun g=>?_
  ·have g8:s7.2<(f_.length:Int):=gQ;clear g;replace h:=if_l g8 h;refine Qd ?_;refine tn ?_;refine Q5 ?_;refine Qa ?_;refine Q5 ?_;refine runQ hN fun K hK=>?_;replace h:=Q4 h;obtain ⟨a9,h⟩:=h;simp [-Q0,-Q7,-Q1,-Q8,-Q2,at_I a9];(repeat refine sdQ ?_);refine hK _ ?_;clear hK K;refine tn ?_;refine Q9 (st':=⟨[(5,.own 0 0 s7.1.length),(7,iV (ix f_ s7.2)),(10,lI f_),(11,iV (f_.length:Int)),(12,iV s7.2)],[(0,.row 1 (Bs s7.1))],1⟩) (Qi [(0,0)]) ?_;refine runQ hN fun K hK=>?_;replace h:=Q4 h;obtain ⟨a10,h⟩:=h;simp [-Q0,-Q7,-Q1,-Q8,-Q2,at_B a10];(repeat refine sdQ ?_);refine hK _ ?_;clear hK K;refine bn ?_;refine tn ?_;refine Q9 (st':=⟨[(5,.own 0 0 ((s7.1.set ((ix f_ s7.2).toNat) true).length)),(10,lI f_),(11,iV (f_.length:Int)),(12,iV s7.2)],[(0,.row 1 (Bs (s7.1.set ((ix f_ s7.2).toNat) true)))],1⟩) (Qi [(0,0)]) ?_;refine runQ hN fun K hK=>?_;replace h:=Q4 h;obtain ⟨a11,h⟩:=h;simp [-Q0,-Q7,-Q1,-Q8,-Q2,Qn a11];(repeat refine sdQ ?_);refine hK _ ?_;clear hK K;cases h;exact rn (s':=(s7.1.set ((ix f_ s7.2).toNat) true,s7.2+1)) hk7 (Qi [(0,0)])
  have g8:¬ (s7.2<(f_.length:Int)):=gQ;clear g;replace h:=if_r g8 h;refine Ql ?_;refine tx ?_;refine lx ?_;refine bh ?_;cases h;exact jn (b:=s7.1) hk7 (Qi [(0,0)])
 intro b2 hb2;have h:=h2;try rw [← hb2] at h
 clear h2;try dsimp only at h
 refine Q5 ?_;refine runQ hN fun K hK=>?_;simp [-Q0,-Q7,-Q1,-Q8,-Q2];repeat with_reducible refine sdQ ?_
 replace h:=bind_some h;obtain ⟨v12,hv12,h⟩:=h;refine Q3 (Q88 _ v12 hv12) (.cons (.whole (by simp) (by simp) (by simp)) .nil) ?_;simp [-Q0,-Q7,-Q1,-Q8,-Q2,unk,unA,unE,unT,unC,flat];repeat refine sdQ ?_
 refine hK _ ?_;clear hK K;refine tn ?_;refine Q9 (st':=⟨[(4,.own 0 0 v12.length)],[(0,rI v12)],1⟩) (Qi [(1,0)]) ?_;refine Qh ?_;have hr:=Option.some.inj h;rw [← hr];refine ⟨_,(.tmp .nil),?_⟩;refine ⟨(.one rfl rfl .nil),[lI v12],[0],by simp [UA,U1,IA,I1,LA,L1,BA,B1,EA,E1,E2,eB,eI,eL],by simp,(UpL.refl _)⟩
attribute [local simp] eL eI Qw
noncomputable def Q13 (list_:List Int) (n_:Int):Option Bool :=
 (
  if (list_.length:Int)=n_ then
   (Q1N list_ n_).bind fun v3 =>
   if v3=true then
    (Q3E n_ list_).bind fun v5 =>
    some ((v5.length:Int) == n_)
   else
    some false
  else
   some false:Option (Bool)).bind fun b1 =>
 some b1
theorem Q4y (list_:List Int) (n_:Int) (r:Bool) (h:Q13 list_ n_=some r):Contract Try.prog 136 [lI list_,iV n_] (.val (.bool r)):=by
 refine Qg (rvs:=[.tmp 4]) (rs:=[.val (.bool r)]) Try.func136 rfl rfl rfl rfl (by simp [Try.f136]) fun F hN hP=>?_;unfold Q13 at h;refine Q5 ?_;refine runQ hN fun K hK=>?_;simp [-Q0,-Q7,-Q1,-Q8,-Q2];repeat refine sdQ ?_
 refine hK _ ?_;clear hK K;refine tn ?_;refine Q9 (st':=⟨[(0,lI list_),(1,iV n_)],[],0⟩) (Qi []) ?_;refine Q5 ?_;replace h:=bind_some h;obtain ⟨e1,h,h1⟩:=h;refine Qj (fun b1:Bool=>⟨[(4,.val (.bool b1))],[],0⟩) (fun b1=>b1=e1) ?_ ?_
 ·refine runQ hN fun K hK=>?_;simp [-Q0,-Q7,-Q1,-Q8,-Q2];repeat with_reducible refine sdQ ?_
  refine Qs (fun g=>?_) (fun g=>?_)
  ·have g2:(list_.length:Int)=n_:=gQ;clear g;replace h:=if_l g2 h;simp [-Q0,-Q7,-Q1,-Q8,-Q2];(repeat with_reducible refine sdQ ?_);replace h:=bind_some h;obtain ⟨v3,hv3,h⟩:=h;refine Q3 (Q51 _ _ v3 hv3) (.cons .lst (.cons .val .nil)) ?_;simp [-Q0,-Q7,-Q1,-Q8,-Q2,unk,unA,unE,unT,unC,flat];(repeat with_reducible refine sdQ ?_);refine Qs (fun g=>?_) (fun g=>?_)
   ·have g4:v3=true:=gQ;clear g;replace h:=if_l g4 h;simp [-Q0,-Q7,-Q1,-Q8,-Q2];(repeat with_reducible refine sdQ ?_);replace h:=bind_some h;obtain ⟨v5,hv5,h⟩:=h;refine Q3 (w_i_image _ _ v5 hv5) (.cons .val (.cons .lst .nil)) ?_;simp [-Q0,-Q7,-Q1,-Q8,-Q2,unk,unA,unE,unT,unC,flat];(repeat refine sdQ ?_);refine hK _ ?_;exact jn (b:=(v5.length:Int) == n_) (Option.some.inj h) (Qi [])
   have g4:¬ (v3=true):=gQ;clear g;replace h:=if_r g4 h;simp [-Q0,-Q7,-Q1,-Q8,-Q2];(repeat refine sdQ ?_);refine hK _ ?_;exact jn (b:=false) (Option.some.inj h) (Qi [])
  have g2:¬ ((list_.length:Int)=n_):=gQ;clear g;replace h:=if_r g2 h;simp [-Q0,-Q7,-Q1,-Q8,-Q2];repeat refine sdQ ?_
  refine hK _ ?_;exact jn (b:=false) (Option.some.inj h) (Qi [])
 intro b1 hb1;have h:=h1;try rw [← hb1] at h
 clear h1;try dsimp only at h
 refine Qh ?_;have hr:=Option.some.inj h;rw [← hr];refine ⟨_,(.tmp .nil),?_⟩;refine ⟨(.one rfl rfl .nil),[.val (.bool b1)],[],by simp [UA,U1,IA,I1,LA,L1,BA,B1,EA,E1,E2,eB,eI,eL],by simp,(UpL.refl _)⟩
attribute [local simp] eL eI Qw Q17 Q2F Cat.cells Prf.cells
noncomputable def Qv (p_:Prf) (x_:Int):Option (Int × Int × Bool) :=
 (Qu (σ:=Int) (ε:=Unit ⊕ (Int × Int × Bool)) (fun s110 =>
  if s110<p_.t.n then
   (
    ass (0≤x_∧x_<(p_.sz.length:Int)) <|
    ass (0≤s110∧s110<((rx p_.sz x_).length:Int)) <|
    (Qu (σ:=Int) (ε:=(Int × Int × Bool) ⊕ Unit) (fun s166 =>
     if s166<(ix (rx p_.sz x_) s110) then
      (
       (Qu (σ:=Int) (ε:=Unit ⊕ Unit) (fun s193 =>
        if s193<p_.t.n then
         (QA p_.t s110 s193).bind fun v195 =>
         (Qu (σ:=List Int × Int) (ε:=List Int) (fun s204 =>
          if s204.2<(v195.length:Int) then
           ass (0≤s204.2∧s204.2<(v195.length:Int)) <|
           ass (0≤ix v195 s204.2∧ix v195 s204.2<(p_.bh.length:Int)) <|
           ass (0≤x_∧x_<((gx p_.bh (ix v195 s204.2)).length:Int)) <|
           ass (0≤s166∧s166<((rx (gx p_.bh (ix v195 s204.2)) x_).length:Int)) <|
           ass ((s204.1++[ix (rx (gx p_.bh (ix v195 s204.2)) x_) s166]).length≤1073741824) <|
           ass (B64 (s204.2+1)) <|
           some (Ctl.next (s204.1++[ix (rx (gx p_.bh (ix v195 s204.2)) x_) s166],s204.2+1))
          else
           some (Ctl.ret s204.1)) fuel ([],0)).bind fun b196 =>
         ass (0≤x_∧x_<(p_.sz.length:Int)) <|
         ass (0≤s193∧s193<((rx p_.sz x_).length:Int)) <|
         (Q13 b196 (ix (rx p_.sz x_) s193)).bind fun v214 =>
         if ¬ (v214=true) then
          some (Ctl.ret (Sum.inr ()))
         else
          ass (B64 (s193+1)) <|
          some (Ctl.next (s193+1))
        else
         some (Ctl.ret (Sum.inl ()))) fuel 0).bind fun e169 =>
       match e169 with
       | .inl b169 =>
        some (Sum.inr (s110,s166,true))
       | .inr p169 =>
        some (Sum.inl p169):Option (Unit ⊕ (Int × Int × Bool))).bind fun e168 =>
      match e168 with
      | .inl b168 =>
       ass (B64 (s166+1)) <|
       some (Ctl.next (s166+1))
      | .inr p168 =>
       some (Ctl.ret (Sum.inl p168))
     else
      some (Ctl.ret (Sum.inr ()))) fuel 0).bind fun e166 =>
    match e166 with
    | .inl p166 =>
     some (Sum.inr p166)
    | .inr p166 =>
     some (Sum.inl p166):Option (Unit ⊕ (Int × Int × Bool))).bind fun e112 =>
   match e112 with
   | .inl b112 =>
    ass (B64 (s110+1)) <|
    some (Ctl.next (s110+1))
   | .inr p112 =>
    some (Ctl.ret (Sum.inr p112))
  else
   some (Ctl.ret (Sum.inl ()))) fuel 0).bind fun e1 =>
 match e1 with
 | .inl b1 =>
  some (0,0,false)
 | .inr p1 =>
  some p1
theorem Q1t (p_:Prf) (x_:Int) (r:Int × Int × Bool) (h:Qv p_ x_=some r):Contract Try.prog 85 [.rptr (p_.cells true),iV x_] (.tup [iV r.1,iV r.2.1,.val (.bool r.2.2)]):=by
 refine Qg (rvs:=[.tmp 4,.tmp 5,.tmp 6]) (rs:=[iV r.1,iV r.2.1,.val (.bool r.2.2)]) Try.func85 rfl rfl rfl rfl (by simp [Try.f85]) fun F hN hP=>?_;unfold Qv at h;refine Q5 ?_;refine runQ hN fun K hK=>?_;simp [-Q0,-Q7,-Q1,-Q8,-Q2];repeat refine sdQ ?_
 refine hK _ ?_;clear hK K;refine tn ?_;refine Q9 (st':=⟨[(0,.rptr (Prf.cells true p_)),(1,iV x_)],[],0⟩) (Qi []) ?_;refine Q5 ?_;refine runQ hN fun K hK=>?_;simp [-Q0,-Q7,-Q1,-Q8,-Q2];repeat refine sdQ ?_
 refine hK _ ?_;clear hK K;refine tn ?_;refine Q9 (st':=⟨[(0,.rptr (Prf.cells true p_)),(1,iV x_),(7,.rptr [iV p_.t.n,lI p_.t.fr,lI p_.t.to,lI p_.t.id,.lst true 1 (Ls p_.t.cs),.lst true 1 (Ls p_.sz),.lst true 1 (Es eL p_.bf),.lst true 1 (Es eL p_.bh)])],[],0⟩) (Qi []) ?_;refine Q5 ?_;refine Q5 ?_;refine runQ hN fun K hK=>?_;simp [-Q0,-Q7,-Q1,-Q8,-Q2];repeat refine sdQ ?_
 refine hK _ ?_;clear hK K;refine tn ?_;refine Q9 (st':=⟨[(0,.rptr (Prf.cells true p_)),(1,iV x_),(7,.rptr [iV p_.t.n,lI p_.t.fr,lI p_.t.to,lI p_.t.id,.lst true 1 (Ls p_.t.cs),.lst true 1 (Ls p_.sz),.lst true 1 (Es eL p_.bf),.lst true 1 (Es eL p_.bh)]),(20,iV p_.t.n),(21,iV 0)],[],0⟩) (Qi []) ?_;replace h:=bind_some h;obtain ⟨e1,h,h1⟩:=h;refine Qj (fun b1:Unit=>⟨[],[],0⟩) (fun b1=>Sum.inl b1=e1) ?_ ?_
 ·refine Qa ?_;refine Qr h (fun s110:Int=>⟨[(0,.rptr (Prf.cells true p_)),(1,iV x_),(7,.rptr [iV p_.t.n,lI p_.t.fr,lI p_.t.to,lI p_.t.id,.lst true 1 (Ls p_.t.cs),.lst true 1 (Ls p_.sz),.lst true 1 (Es eL p_.bf),.lst true 1 (Es eL p_.bh)]),(20,iV p_.t.n),(21,iV s110)],[],0⟩) (Qi []) ?_;clear h;intro k110 s110 c110 h hk110;refine Q5 ?_;refine runQ hN fun K hK=>?_;simp [-Q0,-Q7,-Q1,-Q8,-Q2];repeat refine sdQ ?_
  refine hK _ ?_;clear hK K;refine tn ?_;refine Q9 (st':=⟨[(0,.rptr (Prf.cells true p_)),(1,iV x_),(7,.rptr [iV p_.t.n,lI p_.t.fr,lI p_.t.to,lI p_.t.id,.lst true 1 (Ls p_.t.cs),.lst true 1 (Ls p_.sz),.lst true 1 (Es eL p_.bf),.lst true 1 (Es eL p_.bh)]),(20,iV p_.t.n),(21,iV s110),(22,.val (.bool (decide (s110<p_.t.n))))],[],0⟩) (Qi []) ?_;refine Q5 ?_;refine Qc rfl (fun g=>?_) fun g=>?_
  ·have g111:s110<p_.t.n:=gQ;clear g;replace h:=if_l g111 h;refine Qd ?_;refine tn ?_;refine Q5 ?_;replace h:=bind_some h;obtain ⟨e112,h,h112⟩:=h;refine Qj (fun b112:Unit=>⟨[(0,.rptr (Prf.cells true p_)),(1,iV x_),(7,.rptr [iV p_.t.n,lI p_.t.fr,lI p_.t.to,lI p_.t.id,.lst true 1 (Ls p_.t.cs),.lst true 1 (Ls p_.sz),.lst true 1 (Es eL p_.bf),.lst true 1 (Es eL p_.bh)]),(20,iV p_.t.n),(21,iV s110)],[],0⟩) (fun b112=>Sum.inl b112=e112) ?_ ?_
   ·refine Qa ?_;refine Q5 ?_;refine runQ hN fun K hK=>?_;simp [-Q0,-Q7,-Q1,-Q8,-Q2];(repeat refine sdQ ?_);refine hK _ ?_;clear hK K;refine tn ?_;refine Q9 (st':=⟨[(0,.rptr (Prf.cells true p_)),(1,iV x_),(7,.rptr [iV p_.t.n,lI p_.t.fr,lI p_.t.to,lI p_.t.id,.lst true 1 (Ls p_.t.cs),.lst true 1 (Ls p_.sz),.lst true 1 (Es eL p_.bf),.lst true 1 (Es eL p_.bh)]),(8,iV s110),(20,iV p_.t.n),(21,iV s110)],[],0⟩) (Qi []) ?_;refine w_scope ?_;refine Q5 ?_;refine w_label ?_;refine tn ?_;refine Q5 ?_;refine runQ hN fun K hK=>?_;replace h:=Q4 h;obtain ⟨a113,h⟩:=h;replace h:=Q4 h;obtain ⟨a114,h⟩:=h;simp [-Q0,-Q7,-Q1,-Q8,-Q2,at_L a113,at_I a114];(repeat refine sdQ ?_);refine hK _ ?_;clear hK K;refine tn ?_;refine Q9 (st':=⟨[(0,.rptr (Prf.cells true p_)),(1,iV x_),(7,.rptr [iV p_.t.n,lI p_.t.fr,lI p_.t.to,lI p_.t.id,.lst true 1 (Ls p_.t.cs),.lst true 1 (Ls p_.sz),.lst true 1 (Es eL p_.bf),.lst true 1 (Es eL p_.bh)]),(8,iV s110),(20,iV p_.t.n),(21,iV s110),(33,iV (ix (rx p_.sz x_) s110)),(34,iV 0)],[],0⟩) (Qi []) ?_;refine Qa ?_;replace h:=bind_some h;obtain ⟨e166,he166,h166⟩:=h;refine Qr he166 (fun s166:Int=>⟨[(0,.rptr (Prf.cells true p_)),(1,iV x_),(7,.rptr [iV p_.t.n,lI p_.t.fr,lI p_.t.to,lI p_.t.id,.lst true 1 (Ls p_.t.cs),.lst true 1 (Ls p_.sz),.lst true 1 (Es eL p_.bf),.lst true 1 (Es eL p_.bh)]),(8,iV s110),(20,iV p_.t.n),(21,iV s110),(33,iV (ix (rx p_.sz x_) s110)),(34,iV s166)],[],0⟩) (Qi []) ?_;intro k166 s166 c166 h hk166;refine Q5 ?_;refine runQ hN fun K hK=>?_;simp [-Q0,-Q7,-Q1,-Q8,-Q2];(repeat refine sdQ ?_);refine hK _ ?_;clear hK K;refine tn ?_;refine Q9 (st':=⟨[(0,.rptr (Prf.cells true p_)),(1,iV x_),(7,.rptr [iV p_.t.n,lI p_.t.fr,lI p_.t.to,lI p_.t.id,.lst true 1 (Ls p_.t.cs),.lst true 1 (Ls p_.sz),.lst true 1 (Es eL p_.bf),.lst true 1 (Es eL p_.bh)]),(8,iV s110),(20,iV p_.t.n),(21,iV s110),(33,iV (ix (rx p_.sz x_) s110)),(34,iV s166),(35,.val (.bool (decide (s166<(ix (rx p_.sz x_) s110)))))],[],0⟩) (Qi []) ?_;refine Q5 ?_;refine Qc rfl (fun g=>?_) fun g=>?_
    ·have g167:s166<(ix (rx p_.sz x_) s110):=gQ;clear g;replace h:=if_l g167 h;refine Qd ?_;refine tn ?_;refine Q5 ?_;replace h:=bind_some h;obtain ⟨e168,h,h168⟩:=h;refine Qj (fun b168:Unit=>⟨[(0,.rptr (Prf.cells true p_)),(1,iV x_),(7,.rptr [iV p_.t.n,lI p_.t.fr,lI p_.t.to,lI p_.t.id,.lst true 1 (Ls p_.t.cs),.lst true 1 (Ls p_.sz),.lst true 1 (Es eL p_.bf),.lst true 1 (Es eL p_.bh)]),(8,iV s110),(20,iV p_.t.n),(21,iV s110),(33,iV (ix (rx p_.sz x_) s110)),(34,iV s166)],[],0⟩) (fun b168=>Sum.inl b168=e168) ?_ ?_
     ·refine Qa ?_;refine Q5 ?_;refine runQ hN fun K hK=>?_;simp [-Q0,-Q7,-Q1,-Q8,-Q2];(repeat refine sdQ ?_);refine hK _ ?_;clear hK K;refine tn ?_;refine Q9 (st':=⟨[(0,.rptr (Prf.cells true p_)),(1,iV x_),(7,.rptr [iV p_.t.n,lI p_.t.fr,lI p_.t.to,lI p_.t.id,.lst true 1 (Ls p_.t.cs),.lst true 1 (Ls p_.sz),.lst true 1 (Es eL p_.bf),.lst true 1 (Es eL p_.bh)]),(8,iV s110),(9,iV s166),(20,iV p_.t.n),(21,iV s110),(33,iV (ix (rx p_.sz x_) s110)),(34,iV s166)],[],0⟩) (Qi []) ?_;refine Q5 ?_;refine Q5 ?_;refine runQ hN fun K hK=>?_;simp [-Q0,-Q7,-Q1,-Q8,-Q2];(repeat refine sdQ ?_);refine hK _ ?_;clear hK K;refine tn ?_;refine Q9 (st':=⟨[(0,.rptr (Prf.cells true p_)),(1,iV x_),(7,.rptr [iV p_.t.n,lI p_.t.fr,lI p_.t.to,lI p_.t.id,.lst true 1 (Ls p_.t.cs),.lst true 1 (Ls p_.sz),.lst true 1 (Es eL p_.bf),.lst true 1 (Es eL p_.bh)]),(8,iV s110),(9,iV s166),(20,iV p_.t.n),(21,iV s110),(33,iV (ix (rx p_.sz x_) s110)),(34,iV s166),(40,iV p_.t.n),(41,iV 0)],[],0⟩) (Qi []) ?_;replace h:=bind_some h;obtain ⟨e169,h,h169⟩:=h;refine Qj (fun b169:Unit=>⟨[(8,iV s110),(9,iV s166)],[],0⟩) (fun b169=>Sum.inl b169=e169) ?_ ?_
      ·refine Qa ?_;refine Qr h (fun s193:Int=>⟨[(0,.rptr (Prf.cells true p_)),(1,iV x_),(7,.rptr [iV p_.t.n,lI p_.t.fr,lI p_.t.to,lI p_.t.id,.lst true 1 (Ls p_.t.cs),.lst true 1 (Ls p_.sz),.lst true 1 (Es eL p_.bf),.lst true 1 (Es eL p_.bh)]),(8,iV s110),(9,iV s166),(20,iV p_.t.n),(21,iV s110),(33,iV (ix (rx p_.sz x_) s110)),(34,iV s166),(40,iV p_.t.n),(41,iV s193)],[],0⟩) (Qi []) ?_;clear h;intro k193 s193 c193 h hk193;refine Q5 ?_;refine runQ hN fun K hK=>?_;simp [-Q0,-Q7,-Q1,-Q8,-Q2];(repeat refine sdQ ?_);refine hK _ ?_;clear hK K;refine tn ?_;refine Q9 (st':=⟨[(0,.rptr (Prf.cells true p_)),(1,iV x_),(7,.rptr [iV p_.t.n,lI p_.t.fr,lI p_.t.to,lI p_.t.id,.lst true 1 (Ls p_.t.cs),.lst true 1 (Ls p_.sz),.lst true 1 (Es eL p_.bf),.lst true 1 (Es eL p_.bh)]),(8,iV s110),(9,iV s166),(20,iV p_.t.n),(21,iV s110),(33,iV (ix (rx p_.sz x_) s110)),(34,iV s166),(40,iV p_.t.n),(41,iV s193),(42,.val (.bool (decide (s193<p_.t.n))))],[],0⟩) (Qi []) ?_;refine Q5 ?_;refine Qc rfl (fun g=>?_) fun g=>?_
       ·have g194:s193<p_.t.n:=gQ;clear g;replace h:=if_l g194 h;refine Qd ?_;refine tn ?_;refine Q5 ?_;refine Qa ?_;refine Q5 ?_;refine runQ hN fun K hK=>?_;simp [-Q0,-Q7,-Q1,-Q8,-Q2];(repeat refine sdQ ?_);refine hK _ ?_;clear hK K;refine tn ?_;refine Q9 (st':=⟨[(0,.rptr (Prf.cells true p_)),(1,iV x_),(7,.rptr [iV p_.t.n,lI p_.t.fr,lI p_.t.to,lI p_.t.id,.lst true 1 (Ls p_.t.cs),.lst true 1 (Ls p_.sz),.lst true 1 (Es eL p_.bf),.lst true 1 (Es eL p_.bh)]),(8,iV s110),(9,iV s166),(10,iV s193),(20,iV p_.t.n),(21,iV s110),(33,iV (ix (rx p_.sz x_) s110)),(34,iV s166),(40,iV p_.t.n),(41,iV s193)],[],0⟩) (Qi []) ?_;refine Q5 ?_;refine runQ hN fun K hK=>?_;simp [-Q0,-Q7,-Q1,-Q8,-Q2];(repeat refine sdQ ?_);refine hK _ ?_;clear hK K;refine tn ?_;refine Q9 (st':=⟨[(0,.rptr (Prf.cells true p_)),(1,iV x_),(7,.rptr [iV p_.t.n,lI p_.t.fr,lI p_.t.to,lI p_.t.id,.lst true 1 (Ls p_.t.cs),.lst true 1 (Ls p_.sz),.lst true 1 (Es eL p_.bf),.lst true 1 (Es eL p_.bh)]),(8,iV s110),(9,iV s166),(10,iV s193),(11,.own 0 0 0),(20,iV p_.t.n),(21,iV s110),(33,iV (ix (rx p_.sz x_) s110)),(34,iV s166),(40,iV p_.t.n),(41,iV s193)],[(0,.mix 1 [])],1⟩) (Qi [(0,0)]) ?_;refine Q5 ?_;refine Q5 ?_;refine runQ hN fun K hK=>?_;simp [-Q0,-Q7,-Q1,-Q8,-Q2];(repeat with_reducible refine sdQ ?_);replace h:=bind_some h;obtain ⟨v195,hv195,h⟩:=h;refine Q3 (Q2G _ _ _ v195 hv195) (.cons (.preT (by simp [Cat.cells,Prf.cells])) (.cons .val (.cons .val .nil))) ?_;simp [-Q0,-Q7,-Q1,-Q8,-Q2,unk,unA,unE,unT,unC,flat];(repeat refine sdQ ?_);refine hK _ ?_;clear hK K;refine tn ?_;refine Q9 (st':=⟨[(0,.rptr (Prf.cells true p_)),(1,iV x_),(7,.rptr [iV p_.t.n,lI p_.t.fr,lI p_.t.to,lI p_.t.id,.lst true 1 (Ls p_.t.cs),.lst true 1 (Ls p_.sz),.lst true 1 (Es eL p_.bf),.lst true 1 (Es eL p_.bh)]),(8,iV s110),(9,iV s166),(10,iV s193),(11,.own 0 0 0),(20,iV p_.t.n),(21,iV s110),(33,iV (ix (rx p_.sz x_) s110)),(34,iV s166),(40,iV p_.t.n),(41,iV s193),(48,.own 1 0 v195.length),(49,iV (v195.length:Int)),(50,iV 0)],[(0,.mix 1 []),(1,rI v195)],2⟩) (Qi [(0,0),(1,1)]) ?_;replace h:=bind_some h;obtain ⟨e196,h,h196⟩:=h;refine Qj (fun b196:List Int=>⟨[(0,.rptr (Prf.cells true p_)),(1,iV x_),(7,.rptr [iV p_.t.n,lI p_.t.fr,lI p_.t.to,lI p_.t.id,.lst true 1 (Ls p_.t.cs),.lst true 1 (Ls p_.sz),.lst true 1 (Es eL p_.bf),.lst true 1 (Es eL p_.bh)]),(8,iV s110),(9,iV s166),(10,iV s193),(11,.own 0 0 b196.length),(20,iV p_.t.n),(21,iV s110),(33,iV (ix (rx p_.sz x_) s110)),(34,iV s166),(40,iV p_.t.n),(41,iV s193)],[(0,rI b196)],1⟩) (fun b196=>b196=e196) ?_ ?_
        ·refine Qa ?_;refine Qr h (fun s204:List Int × Int=>⟨[(0,.rptr (Prf.cells true p_)),(1,iV x_),(7,.rptr [iV p_.t.n,lI p_.t.fr,lI p_.t.to,lI p_.t.id,.lst true 1 (Ls p_.t.cs),.lst true 1 (Ls p_.sz),.lst true 1 (Es eL p_.bf),.lst true 1 (Es eL p_.bh)]),(8,iV s110),(9,iV s166),(10,iV s193),(11,.own 0 0 s204.1.length),(20,iV p_.t.n),(21,iV s110),(33,iV (ix (rx p_.sz x_) s110)),(34,iV s166),(40,iV p_.t.n),(41,iV s193),(48,.own 1 0 v195.length),(49,iV (v195.length:Int)),(50,iV s204.2)],[(0,rI s204.1),(1,rI v195)],2⟩) (Q5x ⟨[(0,.rptr (Prf.cells true p_)),(1,iV x_),(7,.rptr [iV p_.t.n,lI p_.t.fr,lI p_.t.to,lI p_.t.id,.lst true 1 (Ls p_.t.cs),.lst true 1 (Ls p_.sz),.lst true 1 (Es eL p_.bf),.lst true 1 (Es eL p_.bh)]),(8,iV s110),(9,iV s166),(10,iV s193),(11,.own 0 0 0),(20,iV p_.t.n),(21,iV s110),(33,iV (ix (rx p_.sz x_) s110)),(34,iV s166),(40,iV p_.t.n),(41,iV s193),(48,.own 1 0 v195.length),(49,iV (v195.length:Int)),(50,iV 0)],[(0,rI []),(1,rI v195)],2⟩ (Wk.nils [] (by simp) (by simp) (by simp [nlA]) (by simp [entN,nlL,nlA,Cat.cells,Prf.cells,UA,U1,IA,I1,LA,L1,BA,B1,EA,E1,E2,eB,eI,eL]) (by simp)) (Qi [(0,0),(1,1)])) ?_;clear h;intro k204 s204 c204 h hk204;refine Q5 ?_;refine runQ hN fun K hK=>?_;simp [-Q0,-Q7,-Q1,-Q8,-Q2];(repeat refine sdQ ?_);refine hK _ ?_;clear hK K;refine tn ?_;refine Q9 (st':=⟨[(0,.rptr (Prf.cells true p_)),(1,iV x_),(7,.rptr [iV p_.t.n,lI p_.t.fr,lI p_.t.to,lI p_.t.id,.lst true 1 (Ls p_.t.cs),.lst true 1 (Ls p_.sz),.lst true 1 (Es eL p_.bf),.lst true 1 (Es eL p_.bh)]),(8,iV s110),(9,iV s166),(10,iV s193),(11,.own 0 0 s204.1.length),(20,iV p_.t.n),(21,iV s110),(33,iV (ix (rx p_.sz x_) s110)),(34,iV s166),(40,iV p_.t.n),(41,iV s193),(48,.own 1 0 v195.length),(49,iV (v195.length:Int)),(50,iV s204.2),(51,.val (.bool (decide (s204.2<(v195.length:Int)))))],[(0,rI s204.1),(1,rI v195)],2⟩) (Qi [(0,0),(1,1)]) ?_;refine Q5 ?_;refine Qc rfl (fun g=>?_) fun g=>?_
         ·have g205:s204.2<(v195.length:Int):=gQ;clear g;replace h:=if_l g205 h;refine Qd ?_;refine tn ?_;refine Q5 ?_;refine Qa ?_;refine Q5 ?_;refine runQ hN fun K hK=>?_;replace h:=Q4 h;obtain ⟨a206,h⟩:=h;simp [-Q0,-Q7,-Q1,-Q8,-Q2,at_I a206];(repeat refine sdQ ?_);refine hK _ ?_;clear hK K;refine tn ?_;refine Q9 (st':=⟨[(0,.rptr (Prf.cells true p_)),(1,iV x_),(7,.rptr [iV p_.t.n,lI p_.t.fr,lI p_.t.to,lI p_.t.id,.lst true 1 (Ls p_.t.cs),.lst true 1 (Ls p_.sz),.lst true 1 (Es eL p_.bf),.lst true 1 (Es eL p_.bh)]),(8,iV s110),(9,iV s166),(10,iV s193),(11,.own 0 0 s204.1.length),(13,iV (ix v195 s204.2)),(20,iV p_.t.n),(21,iV s110),(33,iV (ix (rx p_.sz x_) s110)),(34,iV s166),(40,iV p_.t.n),(41,iV s193),(48,.own 1 0 v195.length),(49,iV (v195.length:Int)),(50,iV s204.2)],[(0,rI s204.1),(1,rI v195)],2⟩) (Qi [(0,0),(1,1)]) ?_;refine runQ hN fun K hK=>?_;replace h:=Q4 h;obtain ⟨a207,h⟩:=h;replace h:=Q4 h;obtain ⟨a208,h⟩:=h;replace h:=Q4 h;obtain ⟨a209,h⟩:=h;replace h:=Q4 h;obtain ⟨a210,h⟩:=h;(try simp only [List.length_append,List.length_cons,List.length_nil] at a210);simp [-Q0,-Q7,-Q1,-Q8,-Q2,at_E (c:=eL) a207,at_L a208,at_I a209,a210];(repeat refine sdQ ?_);refine hK _ ?_;clear hK K;refine bn ?_;refine tn ?_;refine Q9 (st':=⟨[(0,.rptr (Prf.cells true p_)),(1,iV x_),(7,.rptr [iV p_.t.n,lI p_.t.fr,lI p_.t.to,lI p_.t.id,.lst true 1 (Ls p_.t.cs),.lst true 1 (Ls p_.sz),.lst true 1 (Es eL p_.bf),.lst true 1 (Es eL p_.bh)]),(8,iV s110),(9,iV s166),(10,iV s193),(11,.own 0 0 ((s204.1++[ix (rx (gx p_.bh (ix v195 s204.2)) x_) s166]).length)),(20,iV p_.t.n),(21,iV s110),(33,iV (ix (rx p_.sz x_) s110)),(34,iV s166),(40,iV p_.t.n),(41,iV s193),(48,.own 1 0 v195.length),(49,iV (v195.length:Int)),(50,iV s204.2)],[(0,rI (s204.1++[ix (rx (gx p_.bh (ix v195 s204.2)) x_) s166])),(1,rI v195)],2⟩) (Qi [(3,0),(1,1)]) ?_;refine runQ hN fun K hK=>?_;replace h:=Q4 h;obtain ⟨a211,h⟩:=h;simp [-Q0,-Q7,-Q1,-Q8,-Q2,Qn a211];(repeat refine sdQ ?_);refine hK _ ?_;clear hK K;cases h;exact rn (s':=(s204.1++[ix (rx (gx p_.bh (ix v195 s204.2)) x_) s166],s204.2+1)) hk204 (Qi [(0,0),(1,1)])
         have g205:¬ (s204.2<(v195.length:Int)):=gQ;clear g;replace h:=if_r g205 h;refine Ql ?_;refine tx ?_;refine lx ?_;refine bh ?_;cases h;exact jn (b:=s204.1) hk204 (Qi [(0,0)])
        intro b196 hb196;have h:=h196;(try rw [← hb196] at h);clear h196;(try dsimp only at h);refine Q5 ?_;refine runQ hN fun K hK=>?_;replace h:=Q4 h;obtain ⟨a212,h⟩:=h;replace h:=Q4 h;obtain ⟨a213,h⟩:=h;simp [-Q0,-Q7,-Q1,-Q8,-Q2,at_L a212,at_I a213];(repeat with_reducible refine sdQ ?_);replace h:=bind_some h;obtain ⟨v214,hv214,h⟩:=h;refine Q3 (Q4y _ _ v214 hv214) (.cons (.whole (by simp) (by simp) (by simp)) (.cons .val .nil)) ?_;simp [-Q0,-Q7,-Q1,-Q8,-Q2,unk,unA,unE,unT,unC,flat,at_L a212,at_I a213];(repeat refine sdQ ?_);refine hK _ ?_;clear hK K;refine tn ?_;refine Q9 (st':=⟨[(0,.rptr (Prf.cells true p_)),(1,iV x_),(7,.rptr [iV p_.t.n,lI p_.t.fr,lI p_.t.to,lI p_.t.id,.lst true 1 (Ls p_.t.cs),.lst true 1 (Ls p_.sz),.lst true 1 (Es eL p_.bf),.lst true 1 (Es eL p_.bh)]),(8,iV s110),(9,iV s166),(20,iV p_.t.n),(21,iV s110),(33,iV (ix (rx p_.sz x_) s110)),(34,iV s166),(40,iV p_.t.n),(41,iV s193),(83,.val (.bool (!v214)))],[],0⟩) (Qi []) ?_;refine Qc rfl (fun g=>?_) fun g=>?_
        ·have g215:¬ (v214=true):=gQ;clear g;replace h:=if_l g215 h;refine Ql ?_;refine bm (by decide) ?_;refine tx ?_;refine lx ?_;refine bm (by decide) ?_;refine tx ?_;refine bh ?_;cases h;have q:_=e169:=hk193;have h:=h169;rw [← q] at h;clear q;(try dsimp only at h);exact jn (b:=()) (Option.some.inj h) (Qi [])
        have g215:¬ (¬ (v214=true)):=gQ;clear g;replace h:=if_r g215 h;refine Qd ?_;refine bn ?_;refine tn ?_;refine runQ hN fun K hK=>?_;replace h:=Q4 h;obtain ⟨a216,h⟩:=h;simp [-Q0,-Q7,-Q1,-Q8,-Q2,Qn a216];(repeat refine sdQ ?_);refine hK _ ?_;clear hK K;cases h;exact rn (s':=s193+1) hk193 (Qi [])
       have g194:¬ (s193<p_.t.n):=gQ;clear g;replace h:=if_r g194 h;refine Ql ?_;refine tx ?_;refine lx ?_;refine bh ?_;cases h;exact jn (b:=()) hk193 (Qi [])
      intro b169 hb169;have h:=h169;(try rw [← hb169] at h);clear h169;(try dsimp only at h);refine Q5 ?_;refine runQ hN fun K hK=>?_;simp [-Q0,-Q7,-Q1,-Q8,-Q2];(repeat refine sdQ ?_);refine hK _ ?_;clear hK K;refine tn ?_;refine Q9 (st':=⟨[(4,iV s110),(5,iV s166),(6,.val (.bool true))],[],0⟩) (Qi []) ?_;refine Qh ?_;refine br ?_;refine tr ?_;refine lr ?_;refine br ?_;refine pcr ?_;refine br ?_;refine tr ?_;refine lr ?_;refine br ?_;refine tr ?_;cases h;have h:=h168;(try dsimp only at h);cases h;have q:_=e166:=hk166;have h:=h166;rw [← q] at h;clear q;(try dsimp only at h);cases h;have h:=h112;(try dsimp only at h);cases h;have q:_=e1:=hk110;have h:=h1;rw [← q] at h;clear q;(try dsimp only at h);have hr:=Option.some.inj h;rw [← hr];refine ⟨_,(.tmp (.tmp (.tmp .nil))),?_⟩;refine ⟨(.one rfl rfl (.one rfl rfl (.one rfl rfl .nil))),[iV s110,iV s166,.val (.bool true)],[],by simp [Cat.cells,Prf.cells,UA,U1,IA,I1,LA,L1,BA,B1,EA,E1,E2,eB,eI,eL],by simp,(UpL.refl _)⟩
     intro b168 hb168;have h:=h168;(try rw [← hb168] at h);clear h168;(try dsimp only at h);refine runQ hN fun K hK=>?_;replace h:=Q4 h;obtain ⟨a217,h⟩:=h;simp [-Q0,-Q7,-Q1,-Q8,-Q2,Qn a217];(repeat refine sdQ ?_);refine hK _ ?_;clear hK K;cases h;exact rn (s':=s166+1) hk166 (Qi [])
    have g167:¬ (s166<(ix (rx p_.sz x_) s110)):=gQ;clear g;replace h:=if_r g167 h;refine Ql ?_;refine tx ?_;refine lx ?_;refine bh ?_;refine pcn ?_;refine bn ?_;cases h;have q:_=e166:=hk166;have h:=h166;rw [← q] at h;clear q;(try dsimp only at h);exact jn (b:=()) (Option.some.inj h) (Qi [])
   intro b112 hb112;have h:=h112;(try rw [← hb112] at h);clear h112;(try dsimp only at h);refine runQ hN fun K hK=>?_;replace h:=Q4 h;obtain ⟨a218,h⟩:=h;simp [-Q0,-Q7,-Q1,-Q8,-Q2,Qn a218];(repeat refine sdQ ?_);refine hK _ ?_;clear hK K;cases h;exact rn (s':=s110+1) hk110 (Qi [])
  have g111:¬ (s110<p_.t.n):=gQ;clear g;replace h:=if_r g111 h;refine Ql ?_;refine tx ?_;refine lx ?_;refine bh ?_;cases h;exact jn (b:=()) hk110 (Qi [])
 intro b1 hb1;have h:=h1;try rw [← hb1] at h
 clear h1;try dsimp only at h
 refine Q5 ?_;refine runQ hN fun K hK=>?_;simp [-Q0,-Q7,-Q1,-Q8,-Q2];repeat refine sdQ ?_
 refine hK _ ?_;clear hK K;refine tn ?_;refine Q9 (st':=⟨[(4,iV 0),(5,iV 0),(6,.val (.bool false))],[],0⟩) (Qi []) ?_;refine Qh ?_;have hr:=Option.some.inj h;rw [← hr];refine ⟨_,(.tmp (.tmp (.tmp .nil))),?_⟩;refine ⟨(.one rfl rfl (.one rfl rfl (.one rfl rfl .nil))),[iV 0,iV 0,.val (.bool false)],[],by simp [Cat.cells,Prf.cells,UA,U1,IA,I1,LA,L1,BA,B1,EA,E1,E2,eB,eI,eL],by simp,(UpL.refl _)⟩
attribute [local simp] eL eI Qw Q17 eP_Fn Q2F Cat.cells Fn.cells Prf.cells
noncomputable def QG (p_:Prf):Option (Fn × Int) :=
 (Qx p_).bind fun v1 =>
 if ¬ (v1=true) then
  some ((⟨(⟨0,[],[],[],[]⟩:Cat),(⟨0,[],[],[],[]⟩:Cat),[],[]⟩:Fn),1)
 else
  (Qu (σ:=List Int × List Int × Int) (ε:=(List Int × List Int) ⊕ (Fn × Int)) (fun s10 =>
   if s10.2.2<p_.s.n then
    (Qv p_ s10.2.2).bind fun v12 =>
    if ¬ (v12.2.2=true) then
     some (Ctl.ret (Sum.inr ((⟨(⟨0,[],[],[],[]⟩:Cat),(⟨0,[],[],[],[]⟩:Cat),[],[]⟩:Fn),4)))
    else
     ass ((s10.1++[v12.1]).length≤1073741824) <|
     ass ((s10.2.1++[v12.2.1]).length≤1073741824) <|
     ass (B64 (s10.2.2+1)) <|
     some (Ctl.next (s10.1++[v12.1],s10.2.1++[v12.2.1],s10.2.2+1))
   else
    some (Ctl.ret (Sum.inl (s10.1,s10.2.1)))) fuel ([],[],0)).bind fun e3 =>
  match e3 with
  | .inl b3 =>
   (Qu (σ:=List Int × Int) (ε:=List Int) (fun s50 =>
    if s50.2<(p_.s.fr.length:Int) then
     (
      ass (0≤s50.2∧s50.2<(p_.s.fr.length:Int)) <|
      ass (0≤s50.2∧s50.2<(p_.s.to.length:Int)) <|
      ass (0≤s50.2∧s50.2<(p_.bf.length:Int)) <|
      ass (0≤ix p_.s.to s50.2∧ix p_.s.to s50.2<(b3.1.length:Int)) <|
      ass (0≤ix b3.1 (ix p_.s.to s50.2)∧ix b3.1 (ix p_.s.to s50.2)<((gx p_.bf s50.2).length:Int)) <|
      ass (0≤ix p_.s.to s50.2∧ix p_.s.to s50.2<(b3.2.length:Int)) <|
      ass (0≤ix b3.2 (ix p_.s.to s50.2)∧ix b3.2 (ix p_.s.to s50.2)<((rx (gx p_.bf s50.2) (ix b3.1 (ix p_.s.to s50.2))).length:Int)) <|
      ass (0≤ix p_.s.fr s50.2∧ix p_.s.fr s50.2<(b3.1.length:Int)) <|
      ass (0≤ix p_.s.to s50.2∧ix p_.s.to s50.2<(b3.1.length:Int)) <|
      (QA p_.t (ix b3.1 (ix p_.s.fr s50.2)) (ix b3.1 (ix p_.s.to s50.2))).bind fun v62 =>
      (Qu (σ:=Int) (ε:=List Int) (fun s72 =>
       if s72<(v62.length:Int) then
        ass (0≤s72∧s72<(v62.length:Int)) <|
        ass (0≤ix v62 s72∧ix v62 s72<(p_.bh.length:Int)) <|
        ass (0≤ix p_.s.fr s50.2∧ix p_.s.fr s50.2<((gx p_.bh (ix v62 s72)).length:Int)) <|
        ass (0≤ix p_.s.fr s50.2∧ix p_.s.fr s50.2<(b3.2.length:Int)) <|
        ass (0≤ix b3.2 (ix p_.s.fr s50.2)∧ix b3.2 (ix p_.s.fr s50.2)<((rx (gx p_.bh (ix v62 s72)) (ix p_.s.fr s50.2)).length:Int)) <|
        if (ix (rx (gx p_.bh (ix v62 s72)) (ix p_.s.fr s50.2)) (ix b3.2 (ix p_.s.fr s50.2)))=(ix (rx (gx p_.bf s50.2) (ix b3.1 (ix p_.s.to s50.2))) (ix b3.2 (ix p_.s.to s50.2))) then
         ass ((s50.1++[ix v62 s72]).length≤1073741824) <|
         some (Ctl.ret (s50.1++[ix v62 s72]))
        else
         ass (B64 (s72+1)) <|
         some (Ctl.next (s72+1))
       else
        some (Ctl.ret s50.1)) fuel 0).bind fun p72 =>
      some p72:Option (List Int)).bind fun b52 =>
     ass (B64 (s50.2+1)) <|
     some (Ctl.next (b52,s50.2+1))
    else
     some (Ctl.ret s50.1)) fuel ([],0)).bind fun b17 =>
   (Q1X p_.s p_.t b3.1 b17).bind fun v83 =>
   some (v83,0)
  | .inr p3 =>
   some p3
theorem Q2C (p_:Prf) (r:Fn × Int) (h:QG p_=some r):Contract Try.prog 24 [.agg (p_.cells true)] (.tup [.agg (r.1.cells true),iV r.2]):=by
 refine Qg (rvs:=[.cell 2 44,.tmp 3]) (rs:=[.agg (r.1.cells true),iV r.2]) Try.func24 rfl rfl rfl rfl (by simp [Try.f24]) fun F hN hP=>?_;unfold QG at h;refine Q5 ?_;refine runQ hN fun K hK=>?_;simp [-Q0,-Q7,-Q1,-Q8,-Q2];repeat refine sdQ ?_
 refine hK _ ?_;clear hK K;refine tn ?_;refine Q9 (st':=⟨[(1,.adr 0 0 0),(2,.adr 1 0 0)],[(0,.mix 13 [(Prf.cells true p_)]),(1,.mix 12 [[iV 0,.val (.slice none 0 0),.val (.slice none 0 0),.val (.slice none 0 0),.val (.slice none 0 0),iV 0,.val (.slice none 0 0),.val (.slice none 0 0),.val (.slice none 0 0),.val (.slice none 0 0),.val (.slice none 0 0),.val (.slice none 0 0)]])],2⟩) (Qi [(0,0),(1,1)]) ?_;refine Q5 ?_;refine Q5 ?_;refine runQ hN fun K hK=>?_;simp [-Q0,-Q7,-Q1,-Q8,-Q2];repeat with_reducible refine sdQ ?_
 replace h:=bind_some h;obtain ⟨v1,hv1,h⟩:=h;refine Q3 (Q23 _ v1 hv1) (.cons (.field rfl (by simp [Prf.cells]) (.cons .val (.cons .lst (.cons .lst (.cons .lst (.cons .lst (.cons .val (.cons .lst (.cons .lst (.cons .lst (.cons .lst (.cons .lst (.cons .lst (.cons .lst .nil)))))))))))))) .nil) ?_;simp [-Q0,-Q7,-Q1,-Q8,-Q2,unk,unA,unE,unT,unC,flat];repeat refine sdQ ?_
 refine hK _ ?_;clear hK K;refine tn ?_;refine Q9 (st':=⟨[(1,.adr 0 0 0),(2,.adr 1 0 0),(20,.val (.bool (!v1)))],[(0,.mix 13 [(Prf.cells true p_)]),(1,.mix 12 [[iV 0,.val (.slice none 0 0),.val (.slice none 0 0),.val (.slice none 0 0),.val (.slice none 0 0),iV 0,.val (.slice none 0 0),.val (.slice none 0 0),.val (.slice none 0 0),.val (.slice none 0 0),.val (.slice none 0 0),.val (.slice none 0 0)]])],2⟩) (Qi [(0,0),(1,1)]) ?_;refine Qc rfl (fun g=>?_) fun g=>?_
 ·have g2:¬ (v1=true):=gQ;clear g;replace h:=if_l g2 h;refine Q5 ?_;refine runQ hN fun K hK=>?_;simp [-Q0,-Q7,-Q1,-Q8,-Q2];repeat refine sdQ ?_
  refine hK _ ?_;clear hK K;refine tn ?_;refine Q9 (st':=⟨[(2,.adr 0 0 0),(3,iV 1)],[(0,.mix 12 [[iV 0,.val (.slice none 0 0),.val (.slice none 0 0),.val (.slice none 0 0),.val (.slice none 0 0),iV 0,.val (.slice none 0 0),.val (.slice none 0 0),.val (.slice none 0 0),.val (.slice none 0 0),.val (.slice none 0 0),.val (.slice none 0 0)]])],1⟩) (Qi [(1,0)]) ?_;refine Qh ?_;refine tr ?_;have hr:=Option.some.inj h;rw [← hr];refine ⟨_,(.cell Q6a rfl rfl rfl (by simp) (by simp) (.tmp .nil)),?_⟩;refine ⟨(.agg rfl (.one rfl rfl .nil)),[iV 0,.val (.slice none 0 0),.val (.slice none 0 0),.val (.slice none 0 0),.val (.slice none 0 0),iV 0,.val (.slice none 0 0),.val (.slice none 0 0),.val (.slice none 0 0),.val (.slice none 0 0),.val (.slice none 0 0),.val (.slice none 0 0),iV 1],[],by simp [Cat.cells,Fn.cells,Prf.cells,UA,U1,IA,I1,LA,L1,BA,B1,EA,E1,E2,eB,eI,eL],by simp,(.cons .refl (.cons .nil (.cons .nil (.cons .nil (.cons .nil (.cons .refl (.cons .nil (.cons .nil (.cons .nil (.cons .nil (.cons .nil (.cons .nil (.cons .refl .nil)))))))))))))⟩
 have g2:¬ (¬ (v1=true)):=gQ;clear g;replace h:=if_r g2 h;refine Qd ?_;refine tn ?_;refine Q5 ?_;refine runQ hN fun K hK=>?_;simp [-Q0,-Q7,-Q1,-Q8,-Q2];repeat refine sdQ ?_
 refine hK _ ?_;clear hK K;refine tn ?_;refine Q9 (st':=⟨[(1,.adr 0 0 0),(2,.adr 1 0 0),(4,.adr 0 0 0),(5,.adr 0 0 5)],[(0,.mix 13 [(Prf.cells true p_)]),(1,.mix 12 [[iV 0,.val (.slice none 0 0),.val (.slice none 0 0),.val (.slice none 0 0),.val (.slice none 0 0),iV 0,.val (.slice none 0 0),.val (.slice none 0 0),.val (.slice none 0 0),.val (.slice none 0 0),.val (.slice none 0 0),.val (.slice none 0 0)]])],2⟩) (Qi [(0,0),(1,1)]) ?_;refine Q5 ?_;refine runQ hN fun K hK=>?_;simp [-Q0,-Q7,-Q1,-Q8,-Q2];repeat refine sdQ ?_
 refine hK _ ?_;clear hK K;refine tn ?_;refine Q9 (st':=⟨[(1,.adr 0 0 0),(2,.adr 1 0 0),(4,.adr 0 0 0),(5,.adr 0 0 5),(6,.own 2 0 0),(7,.own 3 0 0)],[(0,.mix 13 [(Prf.cells true p_)]),(1,.mix 12 [[iV 0,.val (.slice none 0 0),.val (.slice none 0 0),.val (.slice none 0 0),.val (.slice none 0 0),iV 0,.val (.slice none 0 0),.val (.slice none 0 0),.val (.slice none 0 0),.val (.slice none 0 0),.val (.slice none 0 0),.val (.slice none 0 0)]]),(2,.mix 1 []),(3,.mix 1 [])],4⟩) (Qi [(0,0),(1,1),(2,2),(3,3)]) ?_;refine Q5 ?_;refine Q5 ?_;refine runQ hN fun K hK=>?_;simp [-Q0,-Q7,-Q1,-Q8,-Q2];repeat refine sdQ ?_
 refine hK _ ?_;clear hK K;refine tn ?_;refine Q9 (st':=⟨[(1,.adr 0 0 0),(2,.adr 1 0 0),(4,.adr 0 0 0),(5,.adr 0 0 5),(6,.own 2 0 0),(7,.own 3 0 0),(29,iV p_.s.n),(30,iV 0)],[(0,.mix 13 [(Prf.cells true p_)]),(1,.mix 12 [[iV 0,.val (.slice none 0 0),.val (.slice none 0 0),.val (.slice none 0 0),.val (.slice none 0 0),iV 0,.val (.slice none 0 0),.val (.slice none 0 0),.val (.slice none 0 0),.val (.slice none 0 0),.val (.slice none 0 0),.val (.slice none 0 0)]]),(2,.mix 1 []),(3,.mix 1 [])],4⟩) (Qi [(0,0),(1,1),(2,2),(3,3)]) ?_;replace h:=bind_some h;obtain ⟨e3,h,h3⟩:=h;refine Qj (fun b3:List Int × List Int=>⟨[(1,.adr 0 0 0),(2,.adr 1 0 0),(4,.adr 0 0 0),(5,.adr 0 0 5),(6,.own 2 0 b3.1.length),(7,.own 3 0 b3.2.length)],[(0,.mix 13 [(Prf.cells true p_)]),(1,.mix 12 [[iV 0,.val (.slice none 0 0),.val (.slice none 0 0),.val (.slice none 0 0),.val (.slice none 0 0),iV 0,.val (.slice none 0 0),.val (.slice none 0 0),.val (.slice none 0 0),.val (.slice none 0 0),.val (.slice none 0 0),.val (.slice none 0 0)]]),(2,rI b3.1),(3,rI b3.2)],4⟩) (fun b3=>Sum.inl b3=e3) ?_ ?_
 ·refine Qa ?_;refine Qr h (fun s10:List Int × List Int × Int=>⟨[(1,.adr 0 0 0),(2,.adr 1 0 0),(4,.adr 0 0 0),(5,.adr 0 0 5),(6,.own 2 0 s10.1.length),(7,.own 3 0 s10.2.1.length),(29,iV p_.s.n),(30,iV s10.2.2)],[(0,.mix 13 [(Prf.cells true p_)]),(1,.mix 12 [[iV 0,.val (.slice none 0 0),.val (.slice none 0 0),.val (.slice none 0 0),.val (.slice none 0 0),iV 0,.val (.slice none 0 0),.val (.slice none 0 0),.val (.slice none 0 0),.val (.slice none 0 0),.val (.slice none 0 0),.val (.slice none 0 0)]]),(2,rI s10.1),(3,rI s10.2.1)],4⟩) (Q5x ⟨[(1,.adr 0 0 0),(2,.adr 1 0 0),(4,.adr 0 0 0),(5,.adr 0 0 5),(6,.own 2 0 0),(7,.own 3 0 0),(29,iV p_.s.n),(30,iV 0)],[(0,.mix 13 [(Prf.cells true p_)]),(1,.mix 12 [[iV 0,.val (.slice none 0 0),.val (.slice none 0 0),.val (.slice none 0 0),.val (.slice none 0 0),iV 0,.val (.slice none 0 0),.val (.slice none 0 0),.val (.slice none 0 0),.val (.slice none 0 0),.val (.slice none 0 0),.val (.slice none 0 0)]]),(2,rI []),(3,rI [])],4⟩ (Wk.nils [] (by simp) (by simp) (by simp [nlA]) (by simp [entN,nlL,nlA,Cat.cells,Fn.cells,Prf.cells,UA,U1,IA,I1,LA,L1,BA,B1,EA,E1,E2,eB,eI,eL]) (by simp)) (Qi [(0,0),(1,1),(2,2),(3,3)])) ?_;clear h;intro k10 s10 c10 h hk10;refine Q5 ?_;refine runQ hN fun K hK=>?_;simp [-Q0,-Q7,-Q1,-Q8,-Q2];repeat refine sdQ ?_
  refine hK _ ?_;clear hK K;refine tn ?_;refine Q9 (st':=⟨[(1,.adr 0 0 0),(2,.adr 1 0 0),(4,.adr 0 0 0),(5,.adr 0 0 5),(6,.own 2 0 s10.1.length),(7,.own 3 0 s10.2.1.length),(29,iV p_.s.n),(30,iV s10.2.2),(31,.val (.bool (decide (s10.2.2<p_.s.n))))],[(0,.mix 13 [(Prf.cells true p_)]),(1,.mix 12 [[iV 0,.val (.slice none 0 0),.val (.slice none 0 0),.val (.slice none 0 0),.val (.slice none 0 0),iV 0,.val (.slice none 0 0),.val (.slice none 0 0),.val (.slice none 0 0),.val (.slice none 0 0),.val (.slice none 0 0),.val (.slice none 0 0)]]),(2,rI s10.1),(3,rI s10.2.1)],4⟩) (Qi [(0,0),(1,1),(2,2),(3,3)]) ?_;refine Q5 ?_;refine Qc rfl (fun g=>?_) fun g=>?_
  ·have g11:s10.2.2<p_.s.n:=gQ;clear g;replace h:=if_l g11 h;refine Qd ?_;refine tn ?_;refine Q5 ?_;refine Qa ?_;refine Q5 ?_;refine runQ hN fun K hK=>?_;simp [-Q0,-Q7,-Q1,-Q8,-Q2];(repeat refine sdQ ?_);refine hK _ ?_;clear hK K;refine tn ?_;refine Q9 (st':=⟨[(1,.adr 0 0 0),(2,.adr 1 0 0),(4,.adr 0 0 0),(5,.adr 0 0 5),(6,.own 2 0 s10.1.length),(7,.own 3 0 s10.2.1.length),(8,iV s10.2.2),(29,iV p_.s.n),(30,iV s10.2.2)],[(0,.mix 13 [(Prf.cells true p_)]),(1,.mix 12 [[iV 0,.val (.slice none 0 0),.val (.slice none 0 0),.val (.slice none 0 0),.val (.slice none 0 0),iV 0,.val (.slice none 0 0),.val (.slice none 0 0),.val (.slice none 0 0),.val (.slice none 0 0),.val (.slice none 0 0),.val (.slice none 0 0)]]),(2,rI s10.1),(3,rI s10.2.1)],4⟩) (Qi [(0,0),(1,1),(2,2),(3,3)]) ?_;refine Q5 ?_;refine runQ hN fun K hK=>?_;simp [-Q0,-Q7,-Q1,-Q8,-Q2];(repeat with_reducible refine sdQ ?_);replace h:=bind_some h;obtain ⟨v12,hv12,h⟩:=h;refine Q3 (Q1t _ _ v12 hv12) (.cons (.field rfl (by simp [Fn.cells,Prf.cells]) (.cons .val (.cons .lst (.cons .lst (.cons .lst (.cons .lst (.cons .val (.cons .lst (.cons .lst (.cons .lst (.cons .lst (.cons .lst (.cons .lst (.cons .lst .nil)))))))))))))) (.cons .val .nil)) ?_;simp [-Q0,-Q7,-Q1,-Q8,-Q2,unk,unA,unE,unT,unC,flat];(repeat refine sdQ ?_);refine hK _ ?_;clear hK K;refine tn ?_;refine Q9 (st':=⟨[(1,.adr 0 0 0),(2,.adr 1 0 0),(4,.adr 0 0 0),(5,.adr 0 0 5),(6,.own 2 0 s10.1.length),(7,.own 3 0 s10.2.1.length),(9,iV v12.1),(10,iV v12.2.1),(11,.val (.bool v12.2.2)),(29,iV p_.s.n),(30,iV s10.2.2)],[(0,.mix 13 [(Prf.cells true p_)]),(1,.mix 12 [[iV 0,.val (.slice none 0 0),.val (.slice none 0 0),.val (.slice none 0 0),.val (.slice none 0 0),iV 0,.val (.slice none 0 0),.val (.slice none 0 0),.val (.slice none 0 0),.val (.slice none 0 0),.val (.slice none 0 0),.val (.slice none 0 0)]]),(2,rI s10.1),(3,rI s10.2.1)],4⟩) (Qi [(0,0),(1,1),(2,2),(3,3)]) ?_;refine Q5 ?_;refine Q5 ?_;refine runQ hN fun K hK=>?_;simp [-Q0,-Q7,-Q1,-Q8,-Q2];(repeat refine sdQ ?_);refine hK _ ?_;clear hK K;refine tn ?_;refine Q9 (st':=⟨[(1,.adr 0 0 0),(2,.adr 1 0 0),(4,.adr 0 0 0),(5,.adr 0 0 5),(6,.own 2 0 s10.1.length),(7,.own 3 0 s10.2.1.length),(9,iV v12.1),(10,iV v12.2.1),(29,iV p_.s.n),(30,iV s10.2.2),(40,.val (.bool (!v12.2.2)))],[(0,.mix 13 [(Prf.cells true p_)]),(1,.mix 12 [[iV 0,.val (.slice none 0 0),.val (.slice none 0 0),.val (.slice none 0 0),.val (.slice none 0 0),iV 0,.val (.slice none 0 0),.val (.slice none 0 0),.val (.slice none 0 0),.val (.slice none 0 0),.val (.slice none 0 0),.val (.slice none 0 0)]]),(2,rI s10.1),(3,rI s10.2.1)],4⟩) (Qi [(0,0),(1,1),(2,2),(3,3)]) ?_;refine Qc rfl (fun g=>?_) fun g=>?_
   ·have g13:¬ (v12.2.2=true):=gQ;clear g;replace h:=if_l g13 h;refine Q5 ?_;refine runQ hN fun K hK=>?_;simp [-Q0,-Q7,-Q1,-Q8,-Q2];(repeat refine sdQ ?_);refine hK _ ?_;clear hK K;refine tn ?_;refine Q9 (st':=⟨[(2,.adr 0 0 0),(3,iV 4)],[(0,.mix 12 [[iV 0,.val (.slice none 0 0),.val (.slice none 0 0),.val (.slice none 0 0),.val (.slice none 0 0),iV 0,.val (.slice none 0 0),.val (.slice none 0 0),.val (.slice none 0 0),.val (.slice none 0 0),.val (.slice none 0 0),.val (.slice none 0 0)]])],1⟩) (Qi [(1,0)]) ?_;refine Qh ?_;refine tr ?_;refine br ?_;refine tr ?_;refine lr ?_;refine br ?_;refine tr ?_;cases h;have q:_=e3:=hk10;have h:=h3;rw [← q] at h;clear q;(try dsimp only at h);have hr:=Option.some.inj h;rw [← hr];refine ⟨_,(.cell Q6a rfl rfl rfl (by simp) (by simp) (.tmp .nil)),?_⟩;refine ⟨(.agg rfl (.one rfl rfl .nil)),[iV 0,.val (.slice none 0 0),.val (.slice none 0 0),.val (.slice none 0 0),.val (.slice none 0 0),iV 0,.val (.slice none 0 0),.val (.slice none 0 0),.val (.slice none 0 0),.val (.slice none 0 0),.val (.slice none 0 0),.val (.slice none 0 0),iV 4],[],by simp [Cat.cells,Fn.cells,Prf.cells,UA,U1,IA,I1,LA,L1,BA,B1,EA,E1,E2,eB,eI,eL],by simp,(.cons .refl (.cons .nil (.cons .nil (.cons .nil (.cons .nil (.cons .refl (.cons .nil (.cons .nil (.cons .nil (.cons .nil (.cons .nil (.cons .nil (.cons .refl .nil)))))))))))))⟩
   have g13:¬ (¬ (v12.2.2=true)):=gQ;clear g;replace h:=if_r g13 h;refine Qd ?_;refine tn ?_;refine Q5 ?_;refine runQ hN fun K hK=>?_;replace h:=Q4 h;obtain ⟨a14,h⟩:=h;(try simp only [List.length_append,List.length_cons,List.length_nil] at a14);simp [-Q0,-Q7,-Q1,-Q8,-Q2,a14];(repeat refine sdQ ?_);refine hK _ ?_;clear hK K;refine tn ?_;refine Q9 (st':=⟨[(1,.adr 0 0 0),(2,.adr 1 0 0),(4,.adr 0 0 0),(5,.adr 0 0 5),(6,.own 2 0 ((s10.1++[v12.1]).length)),(7,.own 3 0 s10.2.1.length),(10,iV v12.2.1),(29,iV p_.s.n),(30,iV s10.2.2)],[(0,.mix 13 [(Prf.cells true p_)]),(1,.mix 12 [[iV 0,.val (.slice none 0 0),.val (.slice none 0 0),.val (.slice none 0 0),.val (.slice none 0 0),iV 0,.val (.slice none 0 0),.val (.slice none 0 0),.val (.slice none 0 0),.val (.slice none 0 0),.val (.slice none 0 0),.val (.slice none 0 0)]]),(2,rI (s10.1++[v12.1])),(3,rI s10.2.1)],4⟩) (Qi [(0,0),(1,1),(5,2),(3,3)]) ?_;refine runQ hN fun K hK=>?_;replace h:=Q4 h;obtain ⟨a15,h⟩:=h;(try simp only [List.length_append,List.length_cons,List.length_nil] at a15);simp [-Q0,-Q7,-Q1,-Q8,-Q2,a15];(repeat refine sdQ ?_);refine hK _ ?_;clear hK K;refine bn ?_;refine tn ?_;refine Q9 (st':=⟨[(1,.adr 0 0 0),(2,.adr 1 0 0),(4,.adr 0 0 0),(5,.adr 0 0 5),(6,.own 2 0 ((s10.1++[v12.1]).length)),(7,.own 3 0 ((s10.2.1++[v12.2.1]).length)),(29,iV p_.s.n),(30,iV s10.2.2)],[(0,.mix 13 [(Prf.cells true p_)]),(1,.mix 12 [[iV 0,.val (.slice none 0 0),.val (.slice none 0 0),.val (.slice none 0 0),.val (.slice none 0 0),iV 0,.val (.slice none 0 0),.val (.slice none 0 0),.val (.slice none 0 0),.val (.slice none 0 0),.val (.slice none 0 0),.val (.slice none 0 0)]]),(2,rI (s10.1++[v12.1])),(3,rI (s10.2.1++[v12.2.1]))],4⟩) (Qi [(0,0),(1,1),(2,2),(5,3)]) ?_;refine runQ hN fun K hK=>?_;replace h:=Q4 h;obtain ⟨a16,h⟩:=h;simp [-Q0,-Q7,-Q1,-Q8,-Q2,Qn a16];(repeat refine sdQ ?_);refine hK _ ?_;clear hK K;cases h;exact rn (s':=(s10.1++[v12.1],s10.2.1++[v12.2.1],s10.2.2+1)) hk10 (Qi [(0,0),(1,1),(2,2),(3,3)])
  have g11:¬ (s10.2.2<p_.s.n):=gQ;clear g;replace h:=if_r g11 h;refine Ql ?_;refine tx ?_;refine lx ?_;refine bh ?_;cases h;exact jn (b:=(s10.1,s10.2.1)) hk10 (Qi [(0,0),(1,1),(2,2),(3,3)])
 intro b3 hb3;have h:=h3;try rw [← hb3] at h
 clear h3;try dsimp only at h
 refine Q5 ?_;refine runQ hN fun K hK=>?_;simp [-Q0,-Q7,-Q1,-Q8,-Q2];repeat refine sdQ ?_
 refine hK _ ?_;clear hK K;refine tn ?_;refine Q9 (st':=⟨[(1,.adr 0 0 0),(2,.adr 1 0 0),(4,.adr 0 0 0),(5,.adr 0 0 5),(6,.own 2 0 b3.1.length),(7,.own 3 0 b3.2.length),(12,.own 4 0 0)],[(0,.mix 13 [(Prf.cells true p_)]),(1,.mix 12 [[iV 0,.val (.slice none 0 0),.val (.slice none 0 0),.val (.slice none 0 0),.val (.slice none 0 0),iV 0,.val (.slice none 0 0),.val (.slice none 0 0),.val (.slice none 0 0),.val (.slice none 0 0),.val (.slice none 0 0),.val (.slice none 0 0)]]),(2,rI b3.1),(3,rI b3.2),(4,.mix 1 [])],5⟩) (Qi [(0,0),(1,1),(2,2),(3,3),(4,4)]) ?_;refine Q5 ?_;refine Q5 ?_;refine runQ hN fun K hK=>?_;simp [-Q0,-Q7,-Q1,-Q8,-Q2];repeat refine sdQ ?_
 refine hK _ ?_;clear hK K;refine tn ?_;refine Q9 (st':=⟨[(1,.adr 0 0 0),(2,.adr 1 0 0),(4,.adr 0 0 0),(5,.adr 0 0 5),(6,.own 2 0 b3.1.length),(7,.own 3 0 b3.2.length),(12,.own 4 0 0),(56,iV (p_.s.fr.length:Int)),(57,iV 0)],[(0,.mix 13 [(Prf.cells true p_)]),(1,.mix 12 [[iV 0,.val (.slice none 0 0),.val (.slice none 0 0),.val (.slice none 0 0),.val (.slice none 0 0),iV 0,.val (.slice none 0 0),.val (.slice none 0 0),.val (.slice none 0 0),.val (.slice none 0 0),.val (.slice none 0 0),.val (.slice none 0 0)]]),(2,rI b3.1),(3,rI b3.2),(4,.mix 1 [])],5⟩) (Qi [(0,0),(1,1),(2,2),(3,3),(4,4)]) ?_;replace h:=bind_some h;obtain ⟨e17,h,h17⟩:=h;refine Qj (fun b17:List Int=>⟨[(2,.adr 0 0 0),(4,.adr 1 0 0),(5,.adr 1 0 5),(6,.own 2 0 b3.1.length),(12,.own 3 0 b17.length)],[(0,.mix 12 [[iV 0,.val (.slice none 0 0),.val (.slice none 0 0),.val (.slice none 0 0),.val (.slice none 0 0),iV 0,.val (.slice none 0 0),.val (.slice none 0 0),.val (.slice none 0 0),.val (.slice none 0 0),.val (.slice none 0 0),.val (.slice none 0 0)]]),(1,.mix 13 [(Prf.cells true p_)]),(2,rI b3.1),(3,rI b17)],4⟩) (fun b17=>b17=e17) ?_ ?_
 ·refine Qa ?_;refine Qr h (fun s50:List Int × Int=>⟨[(1,.adr 0 0 0),(2,.adr 1 0 0),(4,.adr 0 0 0),(5,.adr 0 0 5),(6,.own 2 0 b3.1.length),(7,.own 3 0 b3.2.length),(12,.own 4 0 s50.1.length),(56,iV (p_.s.fr.length:Int)),(57,iV s50.2)],[(0,.mix 13 [(Prf.cells true p_)]),(1,.mix 12 [[iV 0,.val (.slice none 0 0),.val (.slice none 0 0),.val (.slice none 0 0),.val (.slice none 0 0),iV 0,.val (.slice none 0 0),.val (.slice none 0 0),.val (.slice none 0 0),.val (.slice none 0 0),.val (.slice none 0 0),.val (.slice none 0 0)]]),(2,rI b3.1),(3,rI b3.2),(4,rI s50.1)],5⟩) (Q5x ⟨[(1,.adr 0 0 0),(2,.adr 1 0 0),(4,.adr 0 0 0),(5,.adr 0 0 5),(6,.own 2 0 b3.1.length),(7,.own 3 0 b3.2.length),(12,.own 4 0 0),(56,iV (p_.s.fr.length:Int)),(57,iV 0)],[(0,.mix 13 [(Prf.cells true p_)]),(1,.mix 12 [[iV 0,.val (.slice none 0 0),.val (.slice none 0 0),.val (.slice none 0 0),.val (.slice none 0 0),iV 0,.val (.slice none 0 0),.val (.slice none 0 0),.val (.slice none 0 0),.val (.slice none 0 0),.val (.slice none 0 0),.val (.slice none 0 0)]]),(2,rI b3.1),(3,rI b3.2),(4,rI [])],5⟩ (Wk.nils [] (by simp) (by simp) (by simp [nlA]) (by simp [entN,nlL,nlA,Cat.cells,Fn.cells,Prf.cells,UA,U1,IA,I1,LA,L1,BA,B1,EA,E1,E2,eB,eI,eL]) (by simp)) (Qi [(0,0),(1,1),(2,2),(3,3),(4,4)])) ?_;clear h;intro k50 s50 c50 h hk50;refine Q5 ?_;refine runQ hN fun K hK=>?_;simp [-Q0,-Q7,-Q1,-Q8,-Q2];repeat refine sdQ ?_
  refine hK _ ?_;clear hK K;refine tn ?_;refine Q9 (st':=⟨[(1,.adr 0 0 0),(2,.adr 1 0 0),(4,.adr 0 0 0),(5,.adr 0 0 5),(6,.own 2 0 b3.1.length),(7,.own 3 0 b3.2.length),(12,.own 4 0 s50.1.length),(56,iV (p_.s.fr.length:Int)),(57,iV s50.2),(58,.val (.bool (decide (s50.2<(p_.s.fr.length:Int)))))],[(0,.mix 13 [(Prf.cells true p_)]),(1,.mix 12 [[iV 0,.val (.slice none 0 0),.val (.slice none 0 0),.val (.slice none 0 0),.val (.slice none 0 0),iV 0,.val (.slice none 0 0),.val (.slice none 0 0),.val (.slice none 0 0),.val (.slice none 0 0),.val (.slice none 0 0),.val (.slice none 0 0)]]),(2,rI b3.1),(3,rI b3.2),(4,rI s50.1)],5⟩) (Qi [(0,0),(1,1),(2,2),(3,3),(4,4)]) ?_;refine Q5 ?_;refine Qc rfl (fun g=>?_) fun g=>?_
  ·have g51:s50.2<(p_.s.fr.length:Int):=gQ;clear g;replace h:=if_l g51 h;refine Qd ?_;refine tn ?_;refine Q5 ?_;replace h:=bind_some h;obtain ⟨e52,h,h52⟩:=h;refine Qj (fun b52:List Int=>⟨[(1,.adr 0 0 0),(2,.adr 1 0 0),(4,.adr 0 0 0),(5,.adr 0 0 5),(6,.own 2 0 b3.1.length),(7,.own 3 0 b3.2.length),(12,.own 4 0 b52.length),(56,iV (p_.s.fr.length:Int)),(57,iV s50.2)],[(0,.mix 13 [(Prf.cells true p_)]),(1,.mix 12 [[iV 0,.val (.slice none 0 0),.val (.slice none 0 0),.val (.slice none 0 0),.val (.slice none 0 0),iV 0,.val (.slice none 0 0),.val (.slice none 0 0),.val (.slice none 0 0),.val (.slice none 0 0),.val (.slice none 0 0),.val (.slice none 0 0)]]),(2,rI b3.1),(3,rI b3.2),(4,rI b52)],5⟩) (fun b52=>b52=e52) ?_ ?_
   ·refine Qa ?_;refine Q5 ?_;refine runQ hN fun K hK=>?_;simp [-Q0,-Q7,-Q1,-Q8,-Q2];(repeat refine sdQ ?_);refine hK _ ?_;clear hK K;refine tn ?_;refine Q9 (st':=⟨[(1,.adr 0 0 0),(2,.adr 1 0 0),(4,.adr 0 0 0),(5,.adr 0 0 5),(6,.own 2 0 b3.1.length),(7,.own 3 0 b3.2.length),(12,.own 4 0 s50.1.length),(13,iV s50.2),(56,iV (p_.s.fr.length:Int)),(57,iV s50.2)],[(0,.mix 13 [(Prf.cells true p_)]),(1,.mix 12 [[iV 0,.val (.slice none 0 0),.val (.slice none 0 0),.val (.slice none 0 0),.val (.slice none 0 0),iV 0,.val (.slice none 0 0),.val (.slice none 0 0),.val (.slice none 0 0),.val (.slice none 0 0),.val (.slice none 0 0),.val (.slice none 0 0)]]),(2,rI b3.1),(3,rI b3.2),(4,rI s50.1)],5⟩) (Qi [(0,0),(1,1),(2,2),(3,3),(4,4)]) ?_;refine Q5 ?_;refine runQ hN fun K hK=>?_;replace h:=Q4 h;obtain ⟨a53,h⟩:=h;replace h:=Q4 h;obtain ⟨a54,h⟩:=h;simp [-Q0,-Q7,-Q1,-Q8,-Q2,at_I a53,at_I a54];(repeat refine sdQ ?_);refine hK _ ?_;clear hK K;refine tn ?_;refine Q9 (st':=⟨[(1,.adr 0 0 0),(2,.adr 1 0 0),(4,.adr 0 0 0),(5,.adr 0 0 5),(6,.own 2 0 b3.1.length),(7,.own 3 0 b3.2.length),(12,.own 4 0 s50.1.length),(13,iV s50.2),(14,iV (ix p_.s.fr s50.2)),(15,iV (ix p_.s.to s50.2)),(56,iV (p_.s.fr.length:Int)),(57,iV s50.2)],[(0,.mix 13 [(Prf.cells true p_)]),(1,.mix 12 [[iV 0,.val (.slice none 0 0),.val (.slice none 0 0),.val (.slice none 0 0),.val (.slice none 0 0),iV 0,.val (.slice none 0 0),.val (.slice none 0 0),.val (.slice none 0 0),.val (.slice none 0 0),.val (.slice none 0 0),.val (.slice none 0 0)]]),(2,rI b3.1),(3,rI b3.2),(4,rI s50.1)],5⟩) (Qi [(0,0),(1,1),(2,2),(3,3),(4,4)]) ?_;refine Q5 ?_;refine runQ hN fun K hK=>?_;replace h:=Q4 h;obtain ⟨a55,h⟩:=h;replace h:=Q4 h;obtain ⟨a56,h⟩:=h;replace h:=Q4 h;obtain ⟨a57,h⟩:=h;replace h:=Q4 h;obtain ⟨a58,h⟩:=h;replace h:=Q4 h;obtain ⟨a59,h⟩:=h;simp [-Q0,-Q7,-Q1,-Q8,-Q2,at_E (c:=eL) a55,at_I a56,at_L a57,at_I a58,at_I a59];(repeat refine sdQ ?_);refine hK _ ?_;clear hK K;refine tn ?_;refine Q9 (st':=⟨[(1,.adr 0 0 0),(2,.adr 1 0 0),(4,.adr 0 0 0),(5,.adr 0 0 5),(6,.own 2 0 b3.1.length),(7,.own 3 0 b3.2.length),(12,.own 4 0 s50.1.length),(14,iV (ix p_.s.fr s50.2)),(15,iV (ix p_.s.to s50.2)),(16,iV (ix (rx (gx p_.bf s50.2) (ix b3.1 (ix p_.s.to s50.2))) (ix b3.2 (ix p_.s.to s50.2)))),(56,iV (p_.s.fr.length:Int)),(57,iV s50.2)],[(0,.mix 13 [(Prf.cells true p_)]),(1,.mix 12 [[iV 0,.val (.slice none 0 0),.val (.slice none 0 0),.val (.slice none 0 0),.val (.slice none 0 0),iV 0,.val (.slice none 0 0),.val (.slice none 0 0),.val (.slice none 0 0),.val (.slice none 0 0),.val (.slice none 0 0),.val (.slice none 0 0)]]),(2,rI b3.1),(3,rI b3.2),(4,rI s50.1)],5⟩) (Qi [(0,0),(1,1),(2,2),(3,3),(4,4)]) ?_;refine Q5 ?_;refine runQ hN fun K hK=>?_;replace h:=Q4 h;obtain ⟨a60,h⟩:=h;replace h:=Q4 h;obtain ⟨a61,h⟩:=h;simp [-Q0,-Q7,-Q1,-Q8,-Q2,at_I a60,at_I a61]
    (repeat with_reducible refine sdQ ?_);replace h:=bind_some h;obtain ⟨v62,hv62,h⟩:=h;refine Q3 (Q2G _ _ _ v62 hv62) (.cons (.field rfl (by simp [Cat.cells,Fn.cells,Prf.cells]) (.cons .val (.cons .lst (.cons .lst (.cons .lst (.cons .lst .nil)))))) (.cons .val (.cons .val .nil))) ?_;simp [-Q0,-Q7,-Q1,-Q8,-Q2,unk,unA,unE,unT,unC,flat,at_I a60,at_I a61];(repeat refine sdQ ?_);refine hK _ ?_;clear hK K;refine tn ?_;refine Q9 (st':=⟨[(1,.adr 0 0 0),(2,.adr 1 0 0),(4,.adr 0 0 0),(5,.adr 0 0 5),(6,.own 2 0 b3.1.length),(7,.own 3 0 b3.2.length),(12,.own 4 0 s50.1.length),(14,iV (ix p_.s.fr s50.2)),(16,iV (ix (rx (gx p_.bf s50.2) (ix b3.1 (ix p_.s.to s50.2))) (ix b3.2 (ix p_.s.to s50.2)))),(56,iV (p_.s.fr.length:Int)),(57,iV s50.2),(100,.own 5 0 v62.length),(101,iV (v62.length:Int)),(102,iV 0)],[(0,.mix 13 [(Prf.cells true p_)]),(1,.mix 12 [[iV 0,.val (.slice none 0 0),.val (.slice none 0 0),.val (.slice none 0 0),.val (.slice none 0 0),iV 0,.val (.slice none 0 0),.val (.slice none 0 0),.val (.slice none 0 0),.val (.slice none 0 0),.val (.slice none 0 0),.val (.slice none 0 0)]]),(2,rI b3.1),(3,rI b3.2),(4,rI s50.1),(5,rI v62)],6⟩) (Qi [(0,0),(1,1),(2,2),(3,3),(4,4),(7,5)]) ?_;refine Qa ?_;replace h:=bind_some h;obtain ⟨e72,he72,h72⟩:=h;refine Qr he72 (fun s72:Int=>⟨[(1,.adr 0 0 0),(2,.adr 1 0 0),(4,.adr 0 0 0),(5,.adr 0 0 5),(6,.own 2 0 b3.1.length),(7,.own 3 0 b3.2.length),(12,.own 4 0 s50.1.length),(14,iV (ix p_.s.fr s50.2)),(16,iV (ix (rx (gx p_.bf s50.2) (ix b3.1 (ix p_.s.to s50.2))) (ix b3.2 (ix p_.s.to s50.2)))),(56,iV (p_.s.fr.length:Int)),(57,iV s50.2),(100,.own 5 0 v62.length),(101,iV (v62.length:Int)),(102,iV s72)],[(0,.mix 13 [(Prf.cells true p_)]),(1,.mix 12 [[iV 0,.val (.slice none 0 0),.val (.slice none 0 0),.val (.slice none 0 0),.val (.slice none 0 0),iV 0,.val (.slice none 0 0),.val (.slice none 0 0),.val (.slice none 0 0),.val (.slice none 0 0),.val (.slice none 0 0),.val (.slice none 0 0)]]),(2,rI b3.1),(3,rI b3.2),(4,rI s50.1),(5,rI v62)],6⟩) (Qi [(0,0),(1,1),(2,2),(3,3),(4,4),(5,5)]) ?_;intro k72 s72 c72 h hk72;refine Q5 ?_;refine runQ hN fun K hK=>?_;simp [-Q0,-Q7,-Q1,-Q8,-Q2];(repeat refine sdQ ?_);refine hK _ ?_;clear hK K;refine tn ?_
    refine Q9 (st':=⟨[(1,.adr 0 0 0),(2,.adr 1 0 0),(4,.adr 0 0 0),(5,.adr 0 0 5),(6,.own 2 0 b3.1.length),(7,.own 3 0 b3.2.length),(12,.own 4 0 s50.1.length),(14,iV (ix p_.s.fr s50.2)),(16,iV (ix (rx (gx p_.bf s50.2) (ix b3.1 (ix p_.s.to s50.2))) (ix b3.2 (ix p_.s.to s50.2)))),(56,iV (p_.s.fr.length:Int)),(57,iV s50.2),(100,.own 5 0 v62.length),(101,iV (v62.length:Int)),(102,iV s72),(103,.val (.bool (decide (s72<(v62.length:Int)))))],[(0,.mix 13 [(Prf.cells true p_)]),(1,.mix 12 [[iV 0,.val (.slice none 0 0),.val (.slice none 0 0),.val (.slice none 0 0),.val (.slice none 0 0),iV 0,.val (.slice none 0 0),.val (.slice none 0 0),.val (.slice none 0 0),.val (.slice none 0 0),.val (.slice none 0 0),.val (.slice none 0 0)]]),(2,rI b3.1),(3,rI b3.2),(4,rI s50.1),(5,rI v62)],6⟩) (Qi [(0,0),(1,1),(2,2),(3,3),(4,4),(5,5)]) ?_;refine Q5 ?_;refine Qc rfl (fun g=>?_) fun g=>?_
    ·have g73:s72<(v62.length:Int):=gQ;clear g;replace h:=if_l g73 h;refine Qd ?_;refine tn ?_;refine Q5 ?_;refine Qa ?_;refine Q5 ?_;refine runQ hN fun K hK=>?_;replace h:=Q4 h;obtain ⟨a74,h⟩:=h;simp [-Q0,-Q7,-Q1,-Q8,-Q2,at_I a74];(repeat refine sdQ ?_);refine hK _ ?_;clear hK K;refine tn ?_;refine Q9 (st':=⟨[(1,.adr 0 0 0),(2,.adr 1 0 0),(4,.adr 0 0 0),(5,.adr 0 0 5),(6,.own 2 0 b3.1.length),(7,.own 3 0 b3.2.length),(12,.own 4 0 s50.1.length),(14,iV (ix p_.s.fr s50.2)),(16,iV (ix (rx (gx p_.bf s50.2) (ix b3.1 (ix p_.s.to s50.2))) (ix b3.2 (ix p_.s.to s50.2)))),(18,iV (ix v62 s72)),(56,iV (p_.s.fr.length:Int)),(57,iV s50.2),(100,.own 5 0 v62.length),(101,iV (v62.length:Int)),(102,iV s72)],[(0,.mix 13 [(Prf.cells true p_)]),(1,.mix 12 [[iV 0,.val (.slice none 0 0),.val (.slice none 0 0),.val (.slice none 0 0),.val (.slice none 0 0),iV 0,.val (.slice none 0 0),.val (.slice none 0 0),.val (.slice none 0 0),.val (.slice none 0 0),.val (.slice none 0 0),.val (.slice none 0 0)]]),(2,rI b3.1),(3,rI b3.2),(4,rI s50.1),(5,rI v62)],6⟩) (Qi [(0,0),(1,1),(2,2),(3,3),(4,4),(5,5)]) ?_;refine Q5 ?_;refine runQ hN fun K hK=>?_;replace h:=Q4 h;obtain ⟨a75,h⟩:=h;replace h:=Q4 h;obtain ⟨a76,h⟩:=h;replace h:=Q4 h;obtain ⟨a77,h⟩:=h;replace h:=Q4 h;obtain ⟨a78,h⟩:=h;simp [-Q0,-Q7,-Q1,-Q8,-Q2,at_E (c:=eL) a75,at_L a76,at_I a77,at_I a78];(repeat refine sdQ ?_);refine hK _ ?_;clear hK K;refine tn ?_;refine Q9 (st':=⟨[(1,.adr 0 0 0),(2,.adr 1 0 0),(4,.adr 0 0 0),(5,.adr 0 0 5),(6,.own 2 0 b3.1.length),(7,.own 3 0 b3.2.length),(12,.own 4 0 s50.1.length),(14,iV (ix p_.s.fr s50.2)),(16,iV (ix (rx (gx p_.bf s50.2) (ix b3.1 (ix p_.s.to s50.2))) (ix b3.2 (ix p_.s.to s50.2)))),(18,iV (ix v62 s72)),(56,iV (p_.s.fr.length:Int)),(57,iV s50.2),(100,.own 5 0 v62.length),(101,iV (v62.length:Int)),(102,iV s72),(121,.val (.bool ((ix (rx (gx p_.bh (ix v62 s72)) (ix p_.s.fr s50.2)) (ix b3.2 (ix p_.s.fr s50.2))) == (ix (rx (gx p_.bf s50.2) (ix b3.1 (ix p_.s.to s50.2))) (ix b3.2 (ix p_.s.to s50.2))))))],[(0,.mix 13 [(Prf.cells true p_)]),(1,.mix 12 [[iV 0,.val (.slice none 0 0),.val (.slice none 0 0),.val (.slice none 0 0),.val (.slice none 0 0),iV 0,.val (.slice none 0 0),.val (.slice none 0 0),.val (.slice none 0 0),.val (.slice none 0 0),.val (.slice none 0 0),.val (.slice none 0 0)]]),(2,rI b3.1),(3,rI b3.2),(4,rI s50.1),(5,rI v62)],6⟩) (Qi [(0,0),(1,1),(2,2),(3,3),(4,4),(5,5)]) ?_;refine Qc rfl (fun g=>?_) fun g=>?_
     ·have g79:(ix (rx (gx p_.bh (ix v62 s72)) (ix p_.s.fr s50.2)) (ix b3.2 (ix p_.s.fr s50.2)))=(ix (rx (gx p_.bf s50.2) (ix b3.1 (ix p_.s.to s50.2))) (ix b3.2 (ix p_.s.to s50.2))):=gQ;clear g;replace h:=if_l g79 h;refine Q5 ?_;refine runQ hN fun K hK=>?_;replace h:=Q4 h;obtain ⟨a80,h⟩:=h;(try simp only [List.length_append,List.length_cons,List.length_nil] at a80);simp [-Q0,-Q7,-Q1,-Q8,-Q2,a80];(repeat refine sdQ ?_);refine hK _ ?_;clear hK K;refine tn ?_;refine Q9 (st':=⟨[(1,.adr 0 0 0),(2,.adr 1 0 0),(4,.adr 0 0 0),(5,.adr 0 0 5),(6,.own 2 0 b3.1.length),(7,.own 3 0 b3.2.length),(12,.own 4 0 ((s50.1++[ix v62 s72]).length)),(56,iV (p_.s.fr.length:Int)),(57,iV s50.2)],[(0,.mix 13 [(Prf.cells true p_)]),(1,.mix 12 [[iV 0,.val (.slice none 0 0),.val (.slice none 0 0),.val (.slice none 0 0),.val (.slice none 0 0),iV 0,.val (.slice none 0 0),.val (.slice none 0 0),.val (.slice none 0 0),.val (.slice none 0 0),.val (.slice none 0 0),.val (.slice none 0 0)]]),(2,rI b3.1),(3,rI b3.2),(4,rI (s50.1++[ix v62 s72]))],5⟩) (Qi [(0,0),(1,1),(2,2),(3,3),(7,4)]) ?_;refine Ql ?_;refine bm (by decide) ?_;refine tx ?_;refine lx ?_;refine bh ?_;refine bn ?_;cases h;have q:_=e72:=hk72;have h:=h72;rw [← q] at h;clear q;(try dsimp only at h);exact jn (b:=s50.1++[ix v62 s72]) (Option.some.inj h) (Qi [(0,0),(1,1),(2,2),(3,3),(4,4)])
     have g79:¬ ((ix (rx (gx p_.bh (ix v62 s72)) (ix p_.s.fr s50.2)) (ix b3.2 (ix p_.s.fr s50.2)))=(ix (rx (gx p_.bf s50.2) (ix b3.1 (ix p_.s.to s50.2))) (ix b3.2 (ix p_.s.to s50.2)))):=gQ;clear g;replace h:=if_r g79 h;refine Qd ?_;refine bn ?_;refine tn ?_;refine runQ hN fun K hK=>?_;replace h:=Q4 h;obtain ⟨a81,h⟩:=h;simp [-Q0,-Q7,-Q1,-Q8,-Q2,Qn a81];(repeat refine sdQ ?_);refine hK _ ?_;clear hK K;cases h;exact rn (s':=s72+1) hk72 (Qi [(0,0),(1,1),(2,2),(3,3),(4,4),(5,5)])
    have g73:¬ (s72<(v62.length:Int)):=gQ;clear g;replace h:=if_r g73 h;refine Ql ?_;refine tx ?_;refine lx ?_;refine bh ?_;refine bn ?_;cases h;have q:_=e72:=hk72;have h:=h72;rw [← q] at h;clear q;(try dsimp only at h);exact jn (b:=s50.1) (Option.some.inj h) (Qi [(0,0),(1,1),(2,2),(3,3),(4,4)])
   intro b52 hb52;have h:=h52;(try rw [← hb52] at h);clear h52;(try dsimp only at h);refine runQ hN fun K hK=>?_;replace h:=Q4 h;obtain ⟨a82,h⟩:=h;simp [-Q0,-Q7,-Q1,-Q8,-Q2,Qn a82];(repeat refine sdQ ?_);refine hK _ ?_;clear hK K;cases h;exact rn (s':=(b52,s50.2+1)) hk50 (Qi [(0,0),(1,1),(2,2),(3,3),(4,4)])
  have g51:¬ (s50.2<(p_.s.fr.length:Int)):=gQ;clear g;replace h:=if_r g51 h;refine Ql ?_;refine tx ?_;refine lx ?_;refine bh ?_;cases h;exact jn (b:=s50.1) hk50 (Qi [(1,0),(0,1),(2,2),(4,3)])
 intro b17 hb17;have h:=h17;try rw [← hb17] at h
 clear h17;try dsimp only at h
 refine Q5 ?_;refine runQ hN fun K hK=>?_;simp [-Q0,-Q7,-Q1,-Q8,-Q2];repeat with_reducible refine sdQ ?_
 replace h:=bind_some h;obtain ⟨v83,hv83,h⟩:=h;refine Q3 (Q6X _ _ _ _ v83 hv83) (.cons (.field rfl (by simp [Cat.cells,Fn.cells,Prf.cells]) (.cons .val (.cons .lst (.cons .lst (.cons .lst (.cons .lst .nil)))))) (.cons (.field rfl (by simp [Cat.cells,Fn.cells,Prf.cells]) (.cons .val (.cons .lst (.cons .lst (.cons .lst (.cons .lst .nil)))))) (.cons (.whole (by simp) (by simp) (by simp)) (.cons (.whole (by simp) (by simp) (by simp)) .nil)))) ?_;simp [-Q0,-Q7,-Q1,-Q8,-Q2,unk,unA,unE,unT,unC,flat];repeat refine sdQ ?_
 refine hK _ ?_;clear hK K;refine tn ?_;refine Q9 (st':=⟨[(2,.adr 0 0 0),(3,iV 0)],[(0,.mix 12 [[iV v83.s.n,.own 1 0 v83.s.fr.length,.own 2 0 v83.s.to.length,.own 3 0 v83.s.id.length,.own 4 0 v83.s.cs.length,iV v83.t.n,.own 5 0 v83.t.fr.length,.own 6 0 v83.t.to.length,.own 7 0 v83.t.id.length,.own 8 0 v83.t.cs.length,.own 9 0 v83.ob.length,.own 10 0 v83.ar.length]]),(1,rI v83.s.fr),(2,rI v83.s.to),(3,rI v83.s.id),(4,.row 1 (Ls v83.s.cs)),(5,rI v83.t.fr),(6,rI v83.t.to),(7,rI v83.t.id),(8,.row 1 (Ls v83.t.cs)),(9,rI v83.ob),(10,rI v83.ar)],11⟩) (Qi [(0,0),(5,1),(6,2),(7,3),(8,4),(10,5),(11,6),(12,7),(13,8),(14,9),(15,10)]) ?_;refine Qh ?_;have hr:=Option.some.inj h;rw [← hr];refine ⟨_,(.cell Q6a rfl rfl rfl (by simp) (by simp) (.tmp .nil)),?_⟩;refine ⟨(.agg rfl (.one rfl rfl .nil)),[iV v83.s.n,lI v83.s.fr,lI v83.s.to,lI v83.s.id,.lst true 1 (Ls v83.s.cs),iV v83.t.n,lI v83.t.fr,lI v83.t.to,lI v83.t.id,.lst true 1 (Ls v83.t.cs),lI v83.ob,lI v83.ar,iV 0],[1,2,3,4,5,6,7,8,9,10],by simp [Cat.cells,Fn.cells,Prf.cells,UA,U1,IA,I1,LA,L1,BA,B1,EA,E1,E2,eB,eI,eL],by simp,(UpL.refl _)⟩
attribute [local simp] eL eI Qw
noncomputable def Q29 (n_:Int) (f_:List Int):Option (List Int) :=
 (Qu (σ:=List Int × Int) (ε:=List Int) (fun s8 =>
  if s8.2<n_ then
   (
    (Q2p f_ s8.2).bind fun v11 =>
    if v11=true then
     ass ((s8.1++[s8.2]).length≤1073741824) <|
     some (s8.1++[s8.2])
    else
     some s8.1:Option (List Int)).bind fun b10 =>
   ass (B64 (s8.2+1)) <|
   some (Ctl.next (b10,s8.2+1))
  else
   some (Ctl.ret s8.1)) fuel ([],0)).bind fun b1 =>
 some b1
theorem Q6f (n_:Int) (f_:List Int) (r:List Int) (h:Q29 n_ f_=some r):Contract Try.prog 211 [iV n_,lI f_] (lI r):=by
 refine Qg (rvs:=[.tmp 4]) (rs:=[lI r]) Try.func211 rfl rfl rfl rfl (by simp [Try.f211]) fun F hN hP=>?_;unfold Q29 at h;refine Q5 ?_;refine runQ hN fun K hK=>?_;simp [-Q0,-Q7,-Q1,-Q8,-Q2];repeat refine sdQ ?_
 refine hK _ ?_;clear hK K;refine tn ?_;refine Q9 (st':=⟨[(0,iV n_),(1,lI f_)],[],0⟩) (Qi []) ?_;refine Q5 ?_;refine runQ hN fun K hK=>?_;simp [-Q0,-Q7,-Q1,-Q8,-Q2];repeat refine sdQ ?_
 refine hK _ ?_;clear hK K;refine tn ?_;refine Q9 (st':=⟨[(0,iV n_),(1,lI f_),(5,.own 0 0 0)],[(0,.mix 1 [])],1⟩) (Qi [(0,0)]) ?_;refine Q5 ?_;refine Q5 ?_;refine runQ hN fun K hK=>?_;simp [-Q0,-Q7,-Q1,-Q8,-Q2];repeat refine sdQ ?_
 refine hK _ ?_;clear hK K;refine tn ?_;refine Q9 (st':=⟨[(0,iV n_),(1,lI f_),(5,.own 0 0 0),(6,iV 0)],[(0,.mix 1 [])],1⟩) (Qi [(0,0)]) ?_;replace h:=bind_some h;obtain ⟨e1,h,h1⟩:=h;refine Qj (fun b1:List Int=>⟨[(5,.own 0 0 b1.length)],[(0,rI b1)],1⟩) (fun b1=>b1=e1) ?_ ?_
 ·refine Qa ?_;refine Qr h (fun s8:List Int × Int=>⟨[(0,iV n_),(1,lI f_),(5,.own 0 0 s8.1.length),(6,iV s8.2)],[(0,rI s8.1)],1⟩) (Q5x ⟨[(0,iV n_),(1,lI f_),(5,.own 0 0 0),(6,iV 0)],[(0,rI [])],1⟩ (Wk.nils [] (by simp) (by simp) (by simp [nlA]) (by simp [entN,nlL,nlA,UA,U1,IA,I1,LA,L1,BA,B1,EA,E1,E2,eB,eI,eL]) (by simp)) (Qi [(0,0)])) ?_;clear h;intro k8 s8 c8 h hk8;refine Q5 ?_;refine Q5 ?_;refine runQ hN fun K hK=>?_;simp [-Q0,-Q7,-Q1,-Q8,-Q2];repeat refine sdQ ?_
  refine hK _ ?_;clear hK K;refine tn ?_;refine Q9 (st':=⟨[(0,iV n_),(1,lI f_),(5,.own 0 0 s8.1.length),(6,iV s8.2),(10,.val (.bool (decide (s8.2<n_))))],[(0,rI s8.1)],1⟩) (Qi [(0,0)]) ?_;refine Qc rfl (fun g=>?_) fun g=>?_
  ·have g9:s8.2<n_:=gQ;clear g;replace h:=if_l g9 h;refine Qd ?_;refine tn ?_;refine Q5 ?_;replace h:=bind_some h;obtain ⟨e10,h,h10⟩:=h;refine Qj (fun b10:List Int=>⟨[(0,iV n_),(1,lI f_),(5,.own 0 0 b10.length),(6,iV s8.2)],[(0,rI b10)],1⟩) (fun b10=>b10=e10) ?_ ?_
   ·refine Qa ?_;refine Q5 ?_;refine runQ hN fun K hK=>?_;simp [-Q0,-Q7,-Q1,-Q8,-Q2];(repeat with_reducible refine sdQ ?_);replace h:=bind_some h;obtain ⟨v11,hv11,h⟩:=h;refine Q3 (Q89 _ _ v11 hv11) (.cons .lst (.cons .val .nil)) ?_;simp [-Q0,-Q7,-Q1,-Q8,-Q2,unk,unA,unE,unT,unC,flat];(repeat refine sdQ ?_);refine hK _ ?_;clear hK K;refine tn ?_;refine Q9 (st':=⟨[(0,iV n_),(1,lI f_),(5,.own 0 0 s8.1.length),(6,iV s8.2),(15,.val (.bool v11))],[(0,rI s8.1)],1⟩) (Qi [(0,0)]) ?_;refine Qc rfl (fun g=>?_) fun g=>?_
    ·have g12:v11=true:=gQ;clear g;replace h:=if_l g12 h;refine runQ hN fun K hK=>?_;replace h:=Q4 h;obtain ⟨a13,h⟩:=h;(try simp only [List.length_append,List.length_cons,List.length_nil] at a13);simp [-Q0,-Q7,-Q1,-Q8,-Q2,a13];(repeat refine sdQ ?_);refine hK _ ?_;clear hK K;refine bn ?_;exact jn (b:=s8.1++[s8.2]) (Option.some.inj h) (Qi [(2,0)])
    have g12:¬ (v11=true):=gQ;clear g;replace h:=if_r g12 h;refine Qd ?_;refine bn ?_;exact jn (b:=s8.1) (Option.some.inj h) (Qi [(0,0)])
   intro b10 hb10;have h:=h10;(try rw [← hb10] at h);clear h10;(try dsimp only at h);refine runQ hN fun K hK=>?_;replace h:=Q4 h;obtain ⟨a14,h⟩:=h;simp [-Q0,-Q7,-Q1,-Q8,-Q2,Qn a14];(repeat refine sdQ ?_);refine hK _ ?_;clear hK K;cases h;exact rn (s':=(b10,s8.2+1)) hk8 (Qi [(0,0)])
  have g9:¬ (s8.2<n_):=gQ;clear g;replace h:=if_r g9 h;refine Ql ?_;refine tx ?_;refine lx ?_;refine bh ?_;cases h;exact jn (b:=s8.1) hk8 (Qi [(0,0)])
 intro b1 hb1;have h:=h1;try rw [← hb1] at h
 clear h1;try dsimp only at h
 refine Q5 ?_;refine runQ hN fun K hK=>?_;simp [-Q0,-Q7,-Q1,-Q8,-Q2];repeat refine sdQ ?_
 refine hK _ ?_;clear hK K;refine tn ?_;refine Q9 (st':=⟨[(4,.own 0 0 b1.length)],[(0,rI b1)],1⟩) (Qi [(0,0)]) ?_;refine Qh ?_;have hr:=Option.some.inj h;rw [← hr];refine ⟨_,(.tmp .nil),?_⟩;refine ⟨(.one rfl rfl .nil),[lI b1],[0],by simp [UA,U1,IA,I1,LA,L1,BA,B1,EA,E1,E2,eB,eI,eL],by simp,(UpL.refl _)⟩
attribute [local simp] eL eI Qw
noncomputable def QW (n_:Int) (list_:List Int):Option Bool :=
 (
  if (list_.length:Int)=n_ then
   (Q29 n_ list_).bind fun v3 =>
   some ((v3.length:Int) == (list_.length:Int))
  else
   some false:Option (Bool)).bind fun b1 =>
 some b1
theorem Q49 (n_:Int) (list_:List Int) (r:Bool) (h:QW n_ list_=some r):Contract Try.prog 191 [iV n_,lI list_] (.val (.bool r)):=by
 refine Qg (rvs:=[.tmp 4]) (rs:=[.val (.bool r)]) Try.func191 rfl rfl rfl rfl (by simp [Try.f191]) fun F hN hP=>?_;unfold QW at h;refine Q5 ?_;refine runQ hN fun K hK=>?_;simp [-Q0,-Q7,-Q1,-Q8,-Q2];repeat refine sdQ ?_
 refine hK _ ?_;clear hK K;refine tn ?_;refine Q9 (st':=⟨[(0,iV n_),(1,lI list_)],[],0⟩) (Qi []) ?_;refine Q5 ?_;replace h:=bind_some h;obtain ⟨e1,h,h1⟩:=h;refine Qj (fun b1:Bool=>⟨[(4,.val (.bool b1))],[],0⟩) (fun b1=>b1=e1) ?_ ?_
 ·refine runQ hN fun K hK=>?_;simp [-Q0,-Q7,-Q1,-Q8,-Q2];repeat with_reducible refine sdQ ?_
  refine Qs (fun g=>?_) (fun g=>?_)
  ·have g2:(list_.length:Int)=n_:=gQ;clear g;replace h:=if_l g2 h;simp [-Q0,-Q7,-Q1,-Q8,-Q2];(repeat with_reducible refine sdQ ?_);replace h:=bind_some h;obtain ⟨v3,hv3,h⟩:=h;refine Q3 (Q6f _ _ v3 hv3) (.cons .val (.cons .lst .nil)) ?_;simp [-Q0,-Q7,-Q1,-Q8,-Q2,unk,unA,unE,unT,unC,flat];(repeat refine sdQ ?_);refine hK _ ?_;exact jn (b:=(v3.length:Int) == (list_.length:Int)) (Option.some.inj h) (Qi [])
  have g2:¬ ((list_.length:Int)=n_):=gQ;clear g;replace h:=if_r g2 h;simp [-Q0,-Q7,-Q1,-Q8,-Q2];repeat refine sdQ ?_
  refine hK _ ?_;exact jn (b:=false) (Option.some.inj h) (Qi [])
 intro b1 hb1;have h:=h1;try rw [← hb1] at h
 clear h1;try dsimp only at h
 refine Qh ?_;have hr:=Option.some.inj h;rw [← hr];refine ⟨_,(.tmp .nil),?_⟩;refine ⟨(.one rfl rfl .nil),[.val (.bool b1)],[],by simp [UA,U1,IA,I1,LA,L1,BA,B1,EA,E1,E2,eB,eI,eL],by simp,(UpL.refl _)⟩
attribute [local simp] eL eI Qw Q17 Q2F Cat.cells Prf.cells
noncomputable def QX (p_:Prf) (x_:Int) (y_:Int) (e_:Int):Option Bool :=
 (Qu (σ:=Int) (ε:=Unit ⊕ Bool) (fun s25 =>
  if s25<p_.t.n then
   (Q1P p_.t y_ s25).bind fun v27 =>
   (Qu (σ:=List Int × Int) (ε:=List Int) (fun s36 =>
    if s36.2<(v27.length:Int) then
     ass (0≤s36.2∧s36.2<(v27.length:Int)) <|
     ass (0≤ix v27 s36.2∧ix v27 s36.2<(p_.bh.length:Int)) <|
     ass (0≤x_∧x_<((gx p_.bh (ix v27 s36.2)).length:Int)) <|
     ass (0≤e_∧e_<((rx (gx p_.bh (ix v27 s36.2)) x_).length:Int)) <|
     ass ((s36.1++[ix (rx (gx p_.bh (ix v27 s36.2)) x_) e_]).length≤1073741824) <|
     ass (B64 (s36.2+1)) <|
     some (Ctl.next (s36.1++[ix (rx (gx p_.bh (ix v27 s36.2)) x_) e_],s36.2+1))
    else
     some (Ctl.ret s36.1)) fuel ([],0)).bind fun b28 =>
   ass (0≤x_∧x_<(p_.sz.length:Int)) <|
   ass (0≤s25∧s25<((rx p_.sz x_).length:Int)) <|
   (QW (ix (rx p_.sz x_) s25) b28).bind fun v46 =>
   if ¬ (v46=true) then
    some (Ctl.ret (Sum.inr false))
   else
    ass (B64 (s25+1)) <|
    some (Ctl.next (s25+1))
  else
   some (Ctl.ret (Sum.inl ()))) fuel 0).bind fun e1 =>
 match e1 with
 | .inl b1 =>
  some true
 | .inr p1 =>
  some p1
theorem Q4a (p_:Prf) (x_:Int) (y_:Int) (e_:Int) (r:Bool) (h:QX p_ x_ y_ e_=some r):Contract Try.prog 135 [.agg (p_.cells true),iV x_,iV y_,iV e_] (.val (.bool r)):=by
 refine Qg (rvs:=[.tmp 8]) (rs:=[.val (.bool r)]) Try.func135 rfl rfl rfl rfl (by simp [Try.f135]) fun F hN hP=>?_;unfold QX at h;refine Q5 ?_;refine runQ hN fun K hK=>?_;simp [-Q0,-Q7,-Q1,-Q8,-Q2];repeat refine sdQ ?_
 refine hK _ ?_;clear hK K;refine tn ?_;refine Q9 (st':=⟨[(1,iV x_),(2,iV y_),(3,iV e_),(4,.adr 0 0 0)],[(0,.mix 13 [(Prf.cells true p_)])],1⟩) (Qi [(0,0)]) ?_;refine Q5 ?_;refine runQ hN fun K hK=>?_;simp [-Q0,-Q7,-Q1,-Q8,-Q2];repeat refine sdQ ?_
 refine hK _ ?_;clear hK K;refine tn ?_;refine Q9 (st':=⟨[(1,iV x_),(2,iV y_),(3,iV e_),(4,.adr 0 0 0),(9,.adr 1 0 0)],[(0,.mix 13 [(Prf.cells true p_)]),(1,.mix 5 [(Cat.cells true p_.t)])],2⟩) (Qi [(0,0),(1,1)]) ?_;refine Q5 ?_;refine Q5 ?_;refine runQ hN fun K hK=>?_;simp [-Q0,-Q7,-Q1,-Q8,-Q2];repeat refine sdQ ?_
 refine hK _ ?_;clear hK K;refine tn ?_;refine Q9 (st':=⟨[(1,iV x_),(2,iV y_),(3,iV e_),(4,.adr 0 0 0),(9,.adr 1 0 0),(10,iV 0)],[(0,.mix 13 [(Prf.cells true p_)]),(1,.mix 5 [(Cat.cells true p_.t)])],2⟩) (Qi [(0,0),(1,1)]) ?_;replace h:=bind_some h;obtain ⟨e1,h,h1⟩:=h;refine Qj (fun b1:Unit=>⟨[],[],0⟩) (fun b1=>Sum.inl b1=e1) ?_ ?_
 ·refine Qa ?_;refine Qr h (fun s25:Int=>⟨[(1,iV x_),(2,iV y_),(3,iV e_),(4,.adr 0 0 0),(9,.adr 1 0 0),(10,iV s25)],[(0,.mix 13 [(Prf.cells true p_)]),(1,.mix 5 [(Cat.cells true p_.t)])],2⟩) (Qi [(0,0),(1,1)]) ?_;clear h;intro k25 s25 c25 h hk25;refine Q5 ?_;refine Q5 ?_;refine runQ hN fun K hK=>?_;simp [-Q0,-Q7,-Q1,-Q8,-Q2];repeat refine sdQ ?_
  refine hK _ ?_;clear hK K;refine tn ?_;refine Q9 (st':=⟨[(1,iV x_),(2,iV y_),(3,iV e_),(4,.adr 0 0 0),(9,.adr 1 0 0),(10,iV s25),(19,.val (.bool (decide (s25<p_.t.n))))],[(0,.mix 13 [(Prf.cells true p_)]),(1,.mix 5 [(Cat.cells true p_.t)])],2⟩) (Qi [(0,0),(1,1)]) ?_;refine Qc rfl (fun g=>?_) fun g=>?_
  ·have g26:s25<p_.t.n:=gQ;clear g;replace h:=if_l g26 h;refine Qd ?_;refine tn ?_;refine Q5 ?_;refine Qa ?_;refine Q5 ?_;refine runQ hN fun K hK=>?_;simp [-Q0,-Q7,-Q1,-Q8,-Q2];(repeat with_reducible refine sdQ ?_);replace h:=bind_some h;obtain ⟨v27,hv27,h⟩:=h;refine Q3 (Q54 _ _ _ v27 hv27) (.cons (.aggL (.cons .val (.cons .lst (.cons .lst (.cons .lst (.cons .lst .nil)))))) (.cons .val (.cons .val .nil))) ?_;simp [-Q0,-Q7,-Q1,-Q8,-Q2,unk,unA,unE,unT,unC,flat];(repeat refine sdQ ?_);refine hK _ ?_;clear hK K;refine tn ?_;refine Q9 (st':=⟨[(1,iV x_),(2,iV y_),(3,iV e_),(4,.adr 0 0 0),(9,.adr 1 0 0),(10,iV s25),(11,.own 2 0 v27.length)],[(0,.mix 13 [(Prf.cells true p_)]),(1,.mix 5 [(Cat.cells true p_.t)]),(2,rI v27)],3⟩) (Qi [(0,0),(1,1),(2,2)]) ?_;refine Q5 ?_;refine runQ hN fun K hK=>?_;simp [-Q0,-Q7,-Q1,-Q8,-Q2];(repeat refine sdQ ?_);refine hK _ ?_;clear hK K;refine tn ?_;refine Q9 (st':=⟨[(1,iV x_),(2,iV y_),(3,iV e_),(4,.adr 0 0 0),(9,.adr 1 0 0),(10,iV s25),(11,.own 2 0 v27.length),(12,.own 3 0 0)],[(0,.mix 13 [(Prf.cells true p_)]),(1,.mix 5 [(Cat.cells true p_.t)]),(2,rI v27),(3,.mix 1 [])],4⟩) (Qi [(0,0),(1,1),(2,2),(3,3)]) ?_;refine Q5 ?_;refine Q5 ?_;refine runQ hN fun K hK=>?_;simp [-Q0,-Q7,-Q1,-Q8,-Q2];(repeat refine sdQ ?_);refine hK _ ?_;clear hK K;refine tn ?_;refine Q9 (st':=⟨[(1,iV x_),(2,iV y_),(3,iV e_),(4,.adr 0 0 0),(9,.adr 1 0 0),(10,iV s25),(11,.own 2 0 v27.length),(12,.own 3 0 0),(13,iV 0)],[(0,.mix 13 [(Prf.cells true p_)]),(1,.mix 5 [(Cat.cells true p_.t)]),(2,rI v27),(3,.mix 1 [])],4⟩) (Qi [(0,0),(1,1),(2,2),(3,3)]) ?_;replace h:=bind_some h;obtain ⟨e28,h,h28⟩:=h;refine Qj (fun b28:List Int=>⟨[(1,iV x_),(2,iV y_),(3,iV e_),(4,.adr 0 0 0),(9,.adr 1 0 0),(10,iV s25),(12,.own 2 0 b28.length)],[(0,.mix 13 [(Prf.cells true p_)]),(1,.mix 5 [(Cat.cells true p_.t)]),(2,rI b28)],3⟩) (fun b28=>b28=e28) ?_ ?_
   ·refine Qa ?_;refine Qr h (fun s36:List Int × Int=>⟨[(1,iV x_),(2,iV y_),(3,iV e_),(4,.adr 0 0 0),(9,.adr 1 0 0),(10,iV s25),(11,.own 2 0 v27.length),(12,.own 3 0 s36.1.length),(13,iV s36.2)],[(0,.mix 13 [(Prf.cells true p_)]),(1,.mix 5 [(Cat.cells true p_.t)]),(2,rI v27),(3,rI s36.1)],4⟩) (Q5x ⟨[(1,iV x_),(2,iV y_),(3,iV e_),(4,.adr 0 0 0),(9,.adr 1 0 0),(10,iV s25),(11,.own 2 0 v27.length),(12,.own 3 0 0),(13,iV 0)],[(0,.mix 13 [(Prf.cells true p_)]),(1,.mix 5 [(Cat.cells true p_.t)]),(2,rI v27),(3,rI [])],4⟩ (Wk.nils [] (by simp) (by simp) (by simp [nlA]) (by simp [entN,nlL,nlA,Cat.cells,Prf.cells,UA,U1,IA,I1,LA,L1,BA,B1,EA,E1,E2,eB,eI,eL]) (by simp)) (Qi [(0,0),(1,1),(2,2),(3,3)])) ?_;clear h;intro k36 s36 c36 h hk36;refine Q5 ?_;refine Q5 ?_;refine runQ hN fun K hK=>?_;simp [-Q0,-Q7,-Q1,-Q8,-Q2];(repeat refine sdQ ?_);refine hK _ ?_;clear hK K;refine tn ?_;refine Q9 (st':=⟨[(1,iV x_),(2,iV y_),(3,iV e_),(4,.adr 0 0 0),(9,.adr 1 0 0),(10,iV s25),(11,.own 2 0 v27.length),(12,.own 3 0 s36.1.length),(13,iV s36.2),(30,.val (.bool (decide (s36.2<(v27.length:Int)))))],[(0,.mix 13 [(Prf.cells true p_)]),(1,.mix 5 [(Cat.cells true p_.t)]),(2,rI v27),(3,rI s36.1)],4⟩) (Qi [(0,0),(1,1),(2,2),(3,3)]) ?_;refine Qc rfl (fun g=>?_) fun g=>?_
    ·have g37:s36.2<(v27.length:Int):=gQ;clear g;replace h:=if_l g37 h;refine Qd ?_;refine tn ?_;refine Q5 ?_;refine Qa ?_;refine runQ hN fun K hK=>?_;replace h:=Q4 h;obtain ⟨a38,h⟩:=h;replace h:=Q4 h;obtain ⟨a39,h⟩:=h;replace h:=Q4 h;obtain ⟨a40,h⟩:=h;replace h:=Q4 h;obtain ⟨a41,h⟩:=h;replace h:=Q4 h;obtain ⟨a42,h⟩:=h;(try simp only [List.length_append,List.length_cons,List.length_nil] at a42);simp [-Q0,-Q7,-Q1,-Q8,-Q2,at_I a38,at_E (c:=eL) a39,at_L a40,at_I a41,a42];(repeat refine sdQ ?_);refine hK _ ?_;clear hK K;refine bn ?_;refine tn ?_;refine Q9 (st':=⟨[(1,iV x_),(2,iV y_),(3,iV e_),(4,.adr 0 0 0),(9,.adr 1 0 0),(10,iV s25),(11,.own 2 0 v27.length),(12,.own 3 0 ((s36.1++[ix (rx (gx p_.bh (ix v27 s36.2)) x_) e_]).length)),(13,iV s36.2)],[(0,.mix 13 [(Prf.cells true p_)]),(1,.mix 5 [(Cat.cells true p_.t)]),(2,rI v27),(3,rI (s36.1++[ix (rx (gx p_.bh (ix v27 s36.2)) x_) e_]))],4⟩) (Qi [(0,0),(1,1),(2,2),(6,3)]) ?_;refine runQ hN fun K hK=>?_;replace h:=Q4 h;obtain ⟨a43,h⟩:=h;simp [-Q0,-Q7,-Q1,-Q8,-Q2,Qn a43];(repeat refine sdQ ?_);refine hK _ ?_;clear hK K;cases h;exact rn (s':=(s36.1++[ix (rx (gx p_.bh (ix v27 s36.2)) x_) e_],s36.2+1)) hk36 (Qi [(0,0),(1,1),(2,2),(3,3)])
    have g37:¬ (s36.2<(v27.length:Int)):=gQ;clear g;replace h:=if_r g37 h;refine Ql ?_;refine tx ?_;refine lx ?_;refine bh ?_;cases h;exact jn (b:=s36.1) hk36 (Qi [(0,0),(1,1),(3,2)])
   intro b28 hb28;have h:=h28;(try rw [← hb28] at h);clear h28;(try dsimp only at h);refine Q5 ?_;refine runQ hN fun K hK=>?_;replace h:=Q4 h;obtain ⟨a44,h⟩:=h;replace h:=Q4 h;obtain ⟨a45,h⟩:=h;simp [-Q0,-Q7,-Q1,-Q8,-Q2,at_L a44,at_I a45];(repeat with_reducible refine sdQ ?_);replace h:=bind_some h;obtain ⟨v46,hv46,h⟩:=h;refine Q3 (Q49 _ _ v46 hv46) (.cons .val (.cons (.whole (by simp) (by simp) (by simp)) .nil)) ?_;simp [-Q0,-Q7,-Q1,-Q8,-Q2,unk,unA,unE,unT,unC,flat,at_L a44,at_I a45];(repeat refine sdQ ?_);refine hK _ ?_;clear hK K;refine tn ?_;refine Q9 (st':=⟨[(1,iV x_),(2,iV y_),(3,iV e_),(4,.adr 0 0 0),(9,.adr 1 0 0),(10,iV s25),(60,.val (.bool (!v46)))],[(0,.mix 13 [(Prf.cells true p_)]),(1,.mix 5 [(Cat.cells true p_.t)])],2⟩) (Qi [(0,0),(1,1)]) ?_;refine Qc rfl (fun g=>?_) fun g=>?_
   ·have g47:¬ (v46=true):=gQ;clear g;replace h:=if_l g47 h;refine Q5 ?_;refine runQ hN fun K hK=>?_;simp [-Q0,-Q7,-Q1,-Q8,-Q2];(repeat refine sdQ ?_);refine hK _ ?_;clear hK K;refine tn ?_;refine Q9 (st':=⟨[(8,.val (.bool false))],[],0⟩) (Qi []) ?_;refine Qh ?_;refine br ?_;refine tr ?_;refine lr ?_;refine br ?_;refine tr ?_;cases h;have q:_=e1:=hk25;have h:=h1;rw [← q] at h;clear q;(try dsimp only at h);have hr:=Option.some.inj h;rw [← hr];refine ⟨_,(.tmp .nil),?_⟩;refine ⟨(.one rfl rfl .nil),[.val (.bool false)],[],by simp [Cat.cells,Prf.cells,UA,U1,IA,I1,LA,L1,BA,B1,EA,E1,E2,eB,eI,eL],by simp,(UpL.refl _)⟩
   have g47:¬ (¬ (v46=true)):=gQ;clear g;replace h:=if_r g47 h;refine Qd ?_;refine bn ?_;refine tn ?_;refine runQ hN fun K hK=>?_;replace h:=Q4 h;obtain ⟨a48,h⟩:=h;simp [-Q0,-Q7,-Q1,-Q8,-Q2,Qn a48];(repeat refine sdQ ?_);refine hK _ ?_;clear hK K;cases h;exact rn (s':=s25+1) hk25 (Qi [(0,0),(1,1)])
  have g26:¬ (s25<p_.t.n):=gQ;clear g;replace h:=if_r g26 h;refine Ql ?_;refine tx ?_;refine lx ?_;refine bh ?_;cases h;exact jn (b:=()) hk25 (Qi [])
 intro b1 hb1;have h:=h1;try rw [← hb1] at h
 clear h1;try dsimp only at h
 refine Q5 ?_;refine runQ hN fun K hK=>?_;simp [-Q0,-Q7,-Q1,-Q8,-Q2];repeat refine sdQ ?_
 refine hK _ ?_;clear hK K;refine tn ?_;refine Q9 (st':=⟨[(8,.val (.bool true))],[],0⟩) (Qi []) ?_;refine Qh ?_;have hr:=Option.some.inj h;rw [← hr];refine ⟨_,(.tmp .nil),?_⟩;refine ⟨(.one rfl rfl .nil),[.val (.bool true)],[],by simp [Cat.cells,Prf.cells,UA,U1,IA,I1,LA,L1,BA,B1,EA,E1,E2,eB,eI,eL],by simp,(UpL.refl _)⟩
attribute [local simp] eL eI Qw Q2F Prf.cells
noncomputable def Q21 (p_:Prf) (x_:Int):Option (Int × Int × Bool) :=
 (Qu (σ:=Int) (ε:=Unit ⊕ (Int × Int × Bool)) (fun s18 =>
  if s18<p_.t.n then
   (
    (Qu (σ:=Int) (ε:=(Int × Int × Bool) ⊕ Unit) (fun s27 =>
     ass (0≤x_∧x_<(p_.sz.length:Int)) <|
     ass (0≤s18∧s18<((rx p_.sz x_).length:Int)) <|
     if s27<(ix (rx p_.sz x_) s18) then
      (QX p_ x_ s18 s27).bind fun v31 =>
      if v31=true then
       some (Ctl.ret (Sum.inl (s18,s27,true)))
      else
       ass (B64 (s27+1)) <|
       some (Ctl.next (s27+1))
     else
      some (Ctl.ret (Sum.inr ()))) fuel 0).bind fun e27 =>
    match e27 with
    | .inl p27 =>
     some (Sum.inr p27)
    | .inr p27 =>
     some (Sum.inl p27):Option (Unit ⊕ (Int × Int × Bool))).bind fun e20 =>
   match e20 with
   | .inl b20 =>
    ass (B64 (s18+1)) <|
    some (Ctl.next (s18+1))
   | .inr p20 =>
    some (Ctl.ret (Sum.inr p20))
  else
   some (Ctl.ret (Sum.inl ()))) fuel 0).bind fun e1 =>
 match e1 with
 | .inl b1 =>
  some (0,0,false)
 | .inr p1 =>
  some p1
theorem Q71 (p_:Prf) (x_:Int) (r:Int × Int × Bool) (h:Q21 p_ x_=some r):Contract Try.prog 82 [.agg (p_.cells true),iV x_] (.tup [iV r.1,iV r.2.1,.val (.bool r.2.2)]):=by
 refine Qg (rvs:=[.tmp 4,.tmp 5,.tmp 6]) (rs:=[iV r.1,iV r.2.1,.val (.bool r.2.2)]) Try.func82 rfl rfl rfl rfl (by simp [Try.f82]) fun F hN hP=>?_;unfold Q21 at h;refine Q5 ?_;refine runQ hN fun K hK=>?_;simp [-Q0,-Q7,-Q1,-Q8,-Q2];repeat refine sdQ ?_
 refine hK _ ?_;clear hK K;refine tn ?_;refine Q9 (st':=⟨[(1,iV x_),(2,.adr 0 0 0)],[(0,.mix 13 [(Prf.cells true p_)])],1⟩) (Qi [(0,0)]) ?_;refine Q5 ?_;refine Q5 ?_;refine runQ hN fun K hK=>?_;simp [-Q0,-Q7,-Q1,-Q8,-Q2];repeat refine sdQ ?_
 refine hK _ ?_;clear hK K;refine tn ?_;refine Q9 (st':=⟨[(1,iV x_),(2,.adr 0 0 0),(7,iV 0)],[(0,.mix 13 [(Prf.cells true p_)])],1⟩) (Qi [(0,0)]) ?_;replace h:=bind_some h;obtain ⟨e1,h,h1⟩:=h;refine Qj (fun b1:Unit=>⟨[],[],0⟩) (fun b1=>Sum.inl b1=e1) ?_ ?_
 ·refine Qa ?_;refine Qr h (fun s18:Int=>⟨[(1,iV x_),(2,.adr 0 0 0),(7,iV s18)],[(0,.mix 13 [(Prf.cells true p_)])],1⟩) (Qi [(0,0)]) ?_;clear h;intro k18 s18 c18 h hk18;refine Q5 ?_;refine Q5 ?_;refine runQ hN fun K hK=>?_;simp [-Q0,-Q7,-Q1,-Q8,-Q2];repeat refine sdQ ?_
  refine hK _ ?_;clear hK K;refine tn ?_;refine Q9 (st':=⟨[(1,iV x_),(2,.adr 0 0 0),(7,iV s18),(13,.val (.bool (decide (s18<p_.t.n))))],[(0,.mix 13 [(Prf.cells true p_)])],1⟩) (Qi [(0,0)]) ?_;refine Qc rfl (fun g=>?_) fun g=>?_
  ·have g19:s18<p_.t.n:=gQ;clear g;replace h:=if_l g19 h;refine Qd ?_;refine tn ?_;refine Q5 ?_;replace h:=bind_some h;obtain ⟨e20,h,h20⟩:=h;refine Qj (fun b20:Unit=>⟨[(1,iV x_),(2,.adr 0 0 0),(7,iV s18)],[(0,.mix 13 [(Prf.cells true p_)])],1⟩) (fun b20=>Sum.inl b20=e20) ?_ ?_
   ·refine Qa ?_;refine Q5 ?_;refine runQ hN fun K hK=>?_;simp [-Q0,-Q7,-Q1,-Q8,-Q2];(repeat refine sdQ ?_);refine hK _ ?_;clear hK K;refine tn ?_;refine Q9 (st':=⟨[(1,iV x_),(2,.adr 0 0 0),(7,iV s18),(8,iV 0)],[(0,.mix 13 [(Prf.cells true p_)])],1⟩) (Qi [(0,0)]) ?_;refine Qa ?_;replace h:=bind_some h;obtain ⟨e27,he27,h27⟩:=h;refine Qr he27 (fun s27:Int=>⟨[(1,iV x_),(2,.adr 0 0 0),(7,iV s18),(8,iV s27)],[(0,.mix 13 [(Prf.cells true p_)])],1⟩) (Qi [(0,0)]) ?_;intro k27 s27 c27 h hk27;refine Q5 ?_;refine Q5 ?_;refine runQ hN fun K hK=>?_;replace h:=Q4 h;obtain ⟨a28,h⟩:=h;replace h:=Q4 h;obtain ⟨a29,h⟩:=h;simp [-Q0,-Q7,-Q1,-Q8,-Q2,at_L a28,at_I a29];(repeat refine sdQ ?_);refine hK _ ?_;clear hK K;refine tn ?_;refine Q9 (st':=⟨[(1,iV x_),(2,.adr 0 0 0),(7,iV s18),(8,iV s27),(25,.val (.bool (decide (s27<(ix (rx p_.sz x_) s18)))))],[(0,.mix 13 [(Prf.cells true p_)])],1⟩) (Qi [(0,0)]) ?_;refine Qc rfl (fun g=>?_) fun g=>?_
    ·have g30:s27<(ix (rx p_.sz x_) s18):=gQ;clear g;replace h:=if_l g30 h;refine Qd ?_;refine tn ?_;refine Q5 ?_;refine Qa ?_;refine Q5 ?_;refine runQ hN fun K hK=>?_;simp [-Q0,-Q7,-Q1,-Q8,-Q2];(repeat with_reducible refine sdQ ?_);replace h:=bind_some h;obtain ⟨v31,hv31,h⟩:=h;refine Q3 (Q4a _ _ _ _ v31 hv31) (.cons (.aggL (.cons .val (.cons .lst (.cons .lst (.cons .lst (.cons .lst (.cons .val (.cons .lst (.cons .lst (.cons .lst (.cons .lst (.cons .lst (.cons .lst (.cons .lst .nil)))))))))))))) (.cons .val (.cons .val (.cons .val .nil)))) ?_;simp [-Q0,-Q7,-Q1,-Q8,-Q2,unk,unA,unE,unT,unC,flat];(repeat refine sdQ ?_);refine hK _ ?_;clear hK K;refine tn ?_;refine Q9 (st':=⟨[(1,iV x_),(2,.adr 0 0 0),(7,iV s18),(8,iV s27),(32,.val (.bool v31))],[(0,.mix 13 [(Prf.cells true p_)])],1⟩) (Qi [(0,0)]) ?_;refine Qc rfl (fun g=>?_) fun g=>?_
     ·have g32:v31=true:=gQ;clear g;replace h:=if_l g32 h;refine Q5 ?_;refine runQ hN fun K hK=>?_;simp [-Q0,-Q7,-Q1,-Q8,-Q2];(repeat refine sdQ ?_);refine hK _ ?_;clear hK K;refine tn ?_;refine Q9 (st':=⟨[(4,iV s18),(5,iV s27),(6,.val (.bool true))],[],0⟩) (Qi []) ?_;refine Qh ?_;refine br ?_;refine tr ?_;refine lr ?_;refine br ?_;refine br ?_;refine tr ?_;refine lr ?_;refine br ?_;refine tr ?_;cases h;have q:_=e27:=hk27;have h:=h27;rw [← q] at h;clear q;(try dsimp only at h);cases h;have h:=h20;(try dsimp only at h);cases h;have q:_=e1:=hk18;have h:=h1;rw [← q] at h;clear q;(try dsimp only at h);have hr:=Option.some.inj h;rw [← hr];refine ⟨_,(.tmp (.tmp (.tmp .nil))),?_⟩;refine ⟨(.one rfl rfl (.one rfl rfl (.one rfl rfl .nil))),[iV s18,iV s27,.val (.bool true)],[],by simp [Prf.cells,UA,U1,IA,I1,LA,L1,BA,B1,EA,E1,E2,eB,eI,eL],by simp,(UpL.refl _)⟩
     have g32:¬ (v31=true):=gQ;clear g;replace h:=if_r g32 h;refine Qd ?_;refine bn ?_;refine tn ?_;refine runQ hN fun K hK=>?_;replace h:=Q4 h;obtain ⟨a33,h⟩:=h;simp [-Q0,-Q7,-Q1,-Q8,-Q2,Qn a33];(repeat refine sdQ ?_);refine hK _ ?_;clear hK K;cases h;exact rn (s':=s27+1) hk27 (Qi [(0,0)])
    have g30:¬ (s27<(ix (rx p_.sz x_) s18)):=gQ;clear g;replace h:=if_r g30 h;refine Ql ?_;refine tx ?_;refine lx ?_;refine bh ?_;refine bn ?_;cases h;have q:_=e27:=hk27;have h:=h27;rw [← q] at h;clear q;(try dsimp only at h);exact jn (b:=()) (Option.some.inj h) (Qi [(0,0)])
   intro b20 hb20;have h:=h20;(try rw [← hb20] at h);clear h20;(try dsimp only at h);refine runQ hN fun K hK=>?_;replace h:=Q4 h;obtain ⟨a34,h⟩:=h;simp [-Q0,-Q7,-Q1,-Q8,-Q2,Qn a34];(repeat refine sdQ ?_);refine hK _ ?_;clear hK K;cases h;exact rn (s':=s18+1) hk18 (Qi [(0,0)])
  have g19:¬ (s18<p_.t.n):=gQ;clear g;replace h:=if_r g19 h;refine Ql ?_;refine tx ?_;refine lx ?_;refine bh ?_;cases h;exact jn (b:=()) hk18 (Qi [])
 intro b1 hb1;have h:=h1;try rw [← hb1] at h
 clear h1;try dsimp only at h
 refine Q5 ?_;refine runQ hN fun K hK=>?_;simp [-Q0,-Q7,-Q1,-Q8,-Q2];repeat refine sdQ ?_
 refine hK _ ?_;clear hK K;refine tn ?_;refine Q9 (st':=⟨[(4,iV 0),(5,iV 0),(6,.val (.bool false))],[],0⟩) (Qi []) ?_;refine Qh ?_;have hr:=Option.some.inj h;rw [← hr];refine ⟨_,(.tmp (.tmp (.tmp .nil))),?_⟩;refine ⟨(.one rfl rfl (.one rfl rfl (.one rfl rfl .nil))),[iV 0,iV 0,.val (.bool false)],[],by simp [Prf.cells,UA,U1,IA,I1,LA,L1,BA,B1,EA,E1,E2,eB,eI,eL],by simp,(UpL.refl _)⟩
attribute [local simp] eL eI Qw Q17 eP_Fn Q2F Cat.cells Fn.cells Prf.cells
noncomputable def QH (p_:Prf):Option (Fn × Int) :=
 (Q2X p_).bind fun v1 =>
 if ¬ (v1=true) then
  some ((⟨(⟨0,[],[],[],[]⟩:Cat),(⟨0,[],[],[],[]⟩:Cat),[],[]⟩:Fn),1)
 else
  (Qu (σ:=List Int × List Int × Int) (ε:=(List Int × List Int) ⊕ (Fn × Int)) (fun s10 =>
   if s10.2.2<p_.s.n then
    (Q21 p_ s10.2.2).bind fun v12 =>
    if ¬ (v12.2.2=true) then
     some (Ctl.ret (Sum.inr ((⟨(⟨0,[],[],[],[]⟩:Cat),(⟨0,[],[],[],[]⟩:Cat),[],[]⟩:Fn),4)))
    else
     ass ((s10.1++[v12.1]).length≤1073741824) <|
     ass ((s10.2.1++[v12.2.1]).length≤1073741824) <|
     ass (B64 (s10.2.2+1)) <|
     some (Ctl.next (s10.1++[v12.1],s10.2.1++[v12.2.1],s10.2.2+1))
   else
    some (Ctl.ret (Sum.inl (s10.1,s10.2.1)))) fuel ([],[],0)).bind fun e3 =>
  match e3 with
  | .inl b3 =>
   (Qu (σ:=List Int × Int) (ε:=List Int) (fun s53 =>
    if s53.2<(p_.s.fr.length:Int) then
     ass (0≤s53.2∧s53.2<(p_.s.fr.length:Int)) <|
     ass (0≤s53.2∧s53.2<(p_.s.to.length:Int)) <|
     ass (0≤s53.2∧s53.2<(p_.bf.length:Int)) <|
     ass (0≤ix p_.s.to s53.2∧ix p_.s.to s53.2<(b3.1.length:Int)) <|
     ass (0≤ix b3.1 (ix p_.s.to s53.2)∧ix b3.1 (ix p_.s.to s53.2)<((gx p_.bf s53.2).length:Int)) <|
     ass (0≤ix p_.s.to s53.2∧ix p_.s.to s53.2<(b3.2.length:Int)) <|
     ass (0≤ix b3.2 (ix p_.s.to s53.2)∧ix b3.2 (ix p_.s.to s53.2)<((rx (gx p_.bf s53.2) (ix b3.1 (ix p_.s.to s53.2))).length:Int)) <|
     ass (0≤ix p_.s.fr s53.2∧ix p_.s.fr s53.2<(b3.1.length:Int)) <|
     ass (0≤ix p_.s.to s53.2∧ix p_.s.to s53.2<(b3.1.length:Int)) <|
     (Q1P p_.t (ix b3.1 (ix p_.s.fr s53.2)) (ix b3.1 (ix p_.s.to s53.2))).bind fun v64 =>
     (Qu (σ:=Int × Int) (ε:=Int) (fun s76 =>
      if s76.2<(v64.length:Int) then
       (
        ass (0≤s76.2∧s76.2<(v64.length:Int)) <|
        ass (0≤ix v64 s76.2∧ix v64 s76.2<(p_.bh.length:Int)) <|
        ass (0≤ix p_.s.fr s53.2∧ix p_.s.fr s53.2<((gx p_.bh (ix v64 s76.2)).length:Int)) <|
        ass (0≤ix p_.s.fr s53.2∧ix p_.s.fr s53.2<(b3.2.length:Int)) <|
        ass (0≤ix b3.2 (ix p_.s.fr s53.2)∧ix b3.2 (ix p_.s.fr s53.2)<((rx (gx p_.bh (ix v64 s76.2)) (ix p_.s.fr s53.2)).length:Int)) <|
        if (ix (rx (gx p_.bh (ix v64 s76.2)) (ix p_.s.fr s53.2)) (ix b3.2 (ix p_.s.fr s53.2)))=(ix (rx (gx p_.bf s53.2) (ix b3.1 (ix p_.s.to s53.2))) (ix b3.2 (ix p_.s.to s53.2))) then
         ass (0≤s76.2∧s76.2<(v64.length:Int)) <|
         some (ix v64 s76.2)
        else
         some s76.1:Option (Int)).bind fun b78 =>
       ass (B64 (s76.2+1)) <|
       some (Ctl.next (b78,s76.2+1))
      else
       some (Ctl.ret s76.1)) fuel ((-1),0)).bind fun b65 =>
     ass ((s53.1++[b65]).length≤1073741824) <|
     ass (B64 (s53.2+1)) <|
     some (Ctl.next (s53.1++[b65],s53.2+1))
    else
     some (Ctl.ret s53.1)) fuel ([],0)).bind fun b17 =>
   (Q1Y p_.s p_.t b3.1 b17).bind fun v89 =>
   some (v89,0)
  | .inr p3 =>
   some p3
theorem Q2D (p_:Prf) (r:Fn × Int) (h:QH p_=some r):Contract Try.prog 23 [.agg (p_.cells true)] (.tup [.agg (r.1.cells true),iV r.2]):=by
 refine Qg (rvs:=[.cell 2 44,.tmp 3]) (rs:=[.agg (r.1.cells true),iV r.2]) Try.func23 rfl rfl rfl rfl (by simp [Try.f23]) fun F hN hP=>?_;unfold QH at h;refine Q5 ?_;refine runQ hN fun K hK=>?_;simp [-Q0,-Q7,-Q1,-Q8,-Q2];repeat refine sdQ ?_
 refine hK _ ?_;clear hK K;refine tn ?_;refine Q9 (st':=⟨[(1,.adr 0 0 0),(2,.adr 1 0 0)],[(0,.mix 13 [(Prf.cells true p_)]),(1,.mix 12 [[iV 0,.val (.slice none 0 0),.val (.slice none 0 0),.val (.slice none 0 0),.val (.slice none 0 0),iV 0,.val (.slice none 0 0),.val (.slice none 0 0),.val (.slice none 0 0),.val (.slice none 0 0),.val (.slice none 0 0),.val (.slice none 0 0)]])],2⟩) (Qi [(0,0),(1,1)]) ?_;refine Q5 ?_;refine Q5 ?_;refine runQ hN fun K hK=>?_;simp [-Q0,-Q7,-Q1,-Q8,-Q2];repeat with_reducible refine sdQ ?_
 replace h:=bind_some h;obtain ⟨v1,hv1,h⟩:=h;refine Q3 (w_s_l22Is _ v1 hv1) (.cons (.aggL (.cons .val (.cons .lst (.cons .lst (.cons .lst (.cons .lst (.cons .val (.cons .lst (.cons .lst (.cons .lst (.cons .lst (.cons .lst (.cons .lst (.cons .lst .nil)))))))))))))) .nil) ?_;simp [-Q0,-Q7,-Q1,-Q8,-Q2,unk,unA,unE,unT,unC,flat];repeat refine sdQ ?_
 refine hK _ ?_;clear hK K;refine tn ?_;refine Q9 (st':=⟨[(1,.adr 0 0 0),(2,.adr 1 0 0),(22,.val (.bool (!v1)))],[(0,.mix 13 [(Prf.cells true p_)]),(1,.mix 12 [[iV 0,.val (.slice none 0 0),.val (.slice none 0 0),.val (.slice none 0 0),.val (.slice none 0 0),iV 0,.val (.slice none 0 0),.val (.slice none 0 0),.val (.slice none 0 0),.val (.slice none 0 0),.val (.slice none 0 0),.val (.slice none 0 0)]])],2⟩) (Qi [(0,0),(1,1)]) ?_;refine Qc rfl (fun g=>?_) fun g=>?_
 ·have g2:¬ (v1=true):=gQ;clear g;replace h:=if_l g2 h;refine Q5 ?_;refine runQ hN fun K hK=>?_;simp [-Q0,-Q7,-Q1,-Q8,-Q2];repeat refine sdQ ?_
  refine hK _ ?_;clear hK K;refine tn ?_;refine Q9 (st':=⟨[(2,.adr 0 0 0),(3,iV 1)],[(0,.mix 12 [[iV 0,.val (.slice none 0 0),.val (.slice none 0 0),.val (.slice none 0 0),.val (.slice none 0 0),iV 0,.val (.slice none 0 0),.val (.slice none 0 0),.val (.slice none 0 0),.val (.slice none 0 0),.val (.slice none 0 0),.val (.slice none 0 0)]])],1⟩) (Qi [(1,0)]) ?_;refine Qh ?_;refine tr ?_;have hr:=Option.some.inj h;rw [← hr];refine ⟨_,(.cell Q6a rfl rfl rfl (by simp) (by simp) (.tmp .nil)),?_⟩;refine ⟨(.agg rfl (.one rfl rfl .nil)),[iV 0,.val (.slice none 0 0),.val (.slice none 0 0),.val (.slice none 0 0),.val (.slice none 0 0),iV 0,.val (.slice none 0 0),.val (.slice none 0 0),.val (.slice none 0 0),.val (.slice none 0 0),.val (.slice none 0 0),.val (.slice none 0 0),iV 1],[],by simp [Cat.cells,Fn.cells,Prf.cells,UA,U1,IA,I1,LA,L1,BA,B1,EA,E1,E2,eB,eI,eL],by simp,(.cons .refl (.cons .nil (.cons .nil (.cons .nil (.cons .nil (.cons .refl (.cons .nil (.cons .nil (.cons .nil (.cons .nil (.cons .nil (.cons .nil (.cons .refl .nil)))))))))))))⟩
 have g2:¬ (¬ (v1=true)):=gQ;clear g;replace h:=if_r g2 h;refine Qd ?_;refine tn ?_;refine Q5 ?_;refine w_runS mo (by rw [hN];decide) fun K hK=>?_;simp [-Q0,-Q7,-Q1,-Q8,-Q2];repeat refine sdQ ?_
 refine hK _ ?_;clear hK K;refine tn ?_;refine Q9 (st':=⟨[(1,.adr 0 0 0),(2,.adr 1 0 0),(4,.adr 2 0 0),(5,.adr 3 0 0)],[(0,.mix 13 [(Prf.cells true p_)]),(1,.mix 12 [[iV 0,.val (.slice none 0 0),.val (.slice none 0 0),.val (.slice none 0 0),.val (.slice none 0 0),iV 0,.val (.slice none 0 0),.val (.slice none 0 0),.val (.slice none 0 0),.val (.slice none 0 0),.val (.slice none 0 0),.val (.slice none 0 0)]]),(2,.mix 5 [(Cat.cells true p_.s)]),(3,.mix 5 [(Cat.cells true p_.t)])],4⟩) (Qi [(0,0),(1,1),(2,2),(3,3)]) ?_;refine Q5 ?_;refine runQ hN fun K hK=>?_;simp [-Q0,-Q7,-Q1,-Q8,-Q2];repeat refine sdQ ?_
 refine hK _ ?_;clear hK K;refine tn ?_;refine Q9 (st':=⟨[(1,.adr 0 0 0),(2,.adr 1 0 0),(4,.adr 2 0 0),(5,.adr 3 0 0),(6,.own 4 0 0),(7,.own 5 0 0),(8,.own 6 0 0)],[(0,.mix 13 [(Prf.cells true p_)]),(1,.mix 12 [[iV 0,.val (.slice none 0 0),.val (.slice none 0 0),.val (.slice none 0 0),.val (.slice none 0 0),iV 0,.val (.slice none 0 0),.val (.slice none 0 0),.val (.slice none 0 0),.val (.slice none 0 0),.val (.slice none 0 0),.val (.slice none 0 0)]]),(2,.mix 5 [(Cat.cells true p_.s)]),(3,.mix 5 [(Cat.cells true p_.t)]),(4,.mix 1 []),(5,.mix 1 []),(6,.mix 1 [])],7⟩) (Qi [(0,0),(1,1),(2,2),(3,3),(4,4),(5,5),(6,6)]) ?_;refine Q5 ?_;refine Q5 ?_;refine runQ hN fun K hK=>?_;simp [-Q0,-Q7,-Q1,-Q8,-Q2];repeat refine sdQ ?_
 refine hK _ ?_;clear hK K;refine tn ?_;refine Q9 (st':=⟨[(1,.adr 0 0 0),(2,.adr 1 0 0),(4,.adr 2 0 0),(5,.adr 3 0 0),(6,.own 4 0 0),(7,.own 5 0 0),(8,.own 6 0 0),(9,iV 0)],[(0,.mix 13 [(Prf.cells true p_)]),(1,.mix 12 [[iV 0,.val (.slice none 0 0),.val (.slice none 0 0),.val (.slice none 0 0),.val (.slice none 0 0),iV 0,.val (.slice none 0 0),.val (.slice none 0 0),.val (.slice none 0 0),.val (.slice none 0 0),.val (.slice none 0 0),.val (.slice none 0 0)]]),(2,.mix 5 [(Cat.cells true p_.s)]),(3,.mix 5 [(Cat.cells true p_.t)]),(4,.mix 1 []),(5,.mix 1 []),(6,.mix 1 [])],7⟩) (Qi [(0,0),(1,1),(2,2),(3,3),(4,4),(5,5),(6,6)]) ?_;replace h:=bind_some h;obtain ⟨e3,h,h3⟩:=h;refine Qj (fun b3:List Int × List Int=>⟨[(1,.adr 0 0 0),(2,.adr 1 0 0),(4,.adr 2 0 0),(5,.adr 3 0 0),(6,.own 4 0 b3.1.length),(7,.own 5 0 b3.2.length),(8,.own 6 0 0)],[(0,.mix 13 [(Prf.cells true p_)]),(1,.mix 12 [[iV 0,.val (.slice none 0 0),.val (.slice none 0 0),.val (.slice none 0 0),.val (.slice none 0 0),iV 0,.val (.slice none 0 0),.val (.slice none 0 0),.val (.slice none 0 0),.val (.slice none 0 0),.val (.slice none 0 0),.val (.slice none 0 0)]]),(2,.mix 5 [(Cat.cells true p_.s)]),(3,.mix 5 [(Cat.cells true p_.t)]),(4,rI b3.1),(5,rI b3.2),(6,.mix 1 [])],7⟩) (fun b3=>Sum.inl b3=e3) ?_ ?_
 ·refine Qa ?_;refine Qr h (fun s10:List Int × List Int × Int=>⟨[(1,.adr 0 0 0),(2,.adr 1 0 0),(4,.adr 2 0 0),(5,.adr 3 0 0),(6,.own 4 0 s10.1.length),(7,.own 5 0 s10.2.1.length),(8,.own 6 0 0),(9,iV s10.2.2)],[(0,.mix 13 [(Prf.cells true p_)]),(1,.mix 12 [[iV 0,.val (.slice none 0 0),.val (.slice none 0 0),.val (.slice none 0 0),.val (.slice none 0 0),iV 0,.val (.slice none 0 0),.val (.slice none 0 0),.val (.slice none 0 0),.val (.slice none 0 0),.val (.slice none 0 0),.val (.slice none 0 0)]]),(2,.mix 5 [(Cat.cells true p_.s)]),(3,.mix 5 [(Cat.cells true p_.t)]),(4,rI s10.1),(5,rI s10.2.1),(6,.mix 1 [])],7⟩) (Q5x ⟨[(1,.adr 0 0 0),(2,.adr 1 0 0),(4,.adr 2 0 0),(5,.adr 3 0 0),(6,.own 4 0 0),(7,.own 5 0 0),(8,.own 6 0 0),(9,iV 0)],[(0,.mix 13 [(Prf.cells true p_)]),(1,.mix 12 [[iV 0,.val (.slice none 0 0),.val (.slice none 0 0),.val (.slice none 0 0),.val (.slice none 0 0),iV 0,.val (.slice none 0 0),.val (.slice none 0 0),.val (.slice none 0 0),.val (.slice none 0 0),.val (.slice none 0 0),.val (.slice none 0 0)]]),(2,.mix 5 [(Cat.cells true p_.s)]),(3,.mix 5 [(Cat.cells true p_.t)]),(4,rI []),(5,rI []),(6,.mix 1 [])],7⟩ (Wk.nils [] (by simp) (by simp) (by simp [nlA]) (by simp [entN,nlL,nlA,Cat.cells,Fn.cells,Prf.cells,UA,U1,IA,I1,LA,L1,BA,B1,EA,E1,E2,eB,eI,eL]) (by simp)) (Qi [(0,0),(1,1),(2,2),(3,3),(4,4),(5,5),(6,6)])) ?_;clear h;intro k10 s10 c10 h hk10;refine Q5 ?_;refine Q5 ?_;refine runQ hN fun K hK=>?_;simp [-Q0,-Q7,-Q1,-Q8,-Q2];repeat refine sdQ ?_
  refine hK _ ?_;clear hK K;refine tn ?_;refine Q9 (st':=⟨[(1,.adr 0 0 0),(2,.adr 1 0 0),(4,.adr 2 0 0),(5,.adr 3 0 0),(6,.own 4 0 s10.1.length),(7,.own 5 0 s10.2.1.length),(8,.own 6 0 0),(9,iV s10.2.2),(34,.val (.bool (decide (s10.2.2<p_.s.n))))],[(0,.mix 13 [(Prf.cells true p_)]),(1,.mix 12 [[iV 0,.val (.slice none 0 0),.val (.slice none 0 0),.val (.slice none 0 0),.val (.slice none 0 0),iV 0,.val (.slice none 0 0),.val (.slice none 0 0),.val (.slice none 0 0),.val (.slice none 0 0),.val (.slice none 0 0),.val (.slice none 0 0)]]),(2,.mix 5 [(Cat.cells true p_.s)]),(3,.mix 5 [(Cat.cells true p_.t)]),(4,rI s10.1),(5,rI s10.2.1),(6,.mix 1 [])],7⟩) (Qi [(0,0),(1,1),(2,2),(3,3),(4,4),(5,5),(6,6)]) ?_;refine Qc rfl (fun g=>?_) fun g=>?_
  ·have g11:s10.2.2<p_.s.n:=gQ;clear g;replace h:=if_l g11 h;refine Qd ?_;refine tn ?_;refine Q5 ?_;refine Qa ?_;refine Q5 ?_;refine runQ hN fun K hK=>?_;simp [-Q0,-Q7,-Q1,-Q8,-Q2];(repeat with_reducible refine sdQ ?_);replace h:=bind_some h;obtain ⟨v12,hv12,h⟩:=h;refine Q3 (Q71 _ _ v12 hv12) (.cons (.aggL (.cons .val (.cons .lst (.cons .lst (.cons .lst (.cons .lst (.cons .val (.cons .lst (.cons .lst (.cons .lst (.cons .lst (.cons .lst (.cons .lst (.cons .lst .nil)))))))))))))) (.cons .val .nil)) ?_;simp [-Q0,-Q7,-Q1,-Q8,-Q2,unk,unA,unE,unT,unC,flat];(repeat refine sdQ ?_);refine hK _ ?_;clear hK K;refine tn ?_;refine Q9 (st':=⟨[(1,.adr 0 0 0),(2,.adr 1 0 0),(4,.adr 2 0 0),(5,.adr 3 0 0),(6,.own 4 0 s10.1.length),(7,.own 5 0 s10.2.1.length),(8,.own 6 0 0),(9,iV s10.2.2),(10,iV v12.1),(11,iV v12.2.1),(12,.val (.bool v12.2.2))],[(0,.mix 13 [(Prf.cells true p_)]),(1,.mix 12 [[iV 0,.val (.slice none 0 0),.val (.slice none 0 0),.val (.slice none 0 0),.val (.slice none 0 0),iV 0,.val (.slice none 0 0),.val (.slice none 0 0),.val (.slice none 0 0),.val (.slice none 0 0),.val (.slice none 0 0),.val (.slice none 0 0)]]),(2,.mix 5 [(Cat.cells true p_.s)]),(3,.mix 5 [(Cat.cells true p_.t)]),(4,rI s10.1),(5,rI s10.2.1),(6,.mix 1 [])],7⟩) (Qi [(0,0),(1,1),(2,2),(3,3),(4,4),(5,5),(6,6)]) ?_;refine Q5 ?_;refine Q5 ?_;refine runQ hN fun K hK=>?_;simp [-Q0,-Q7,-Q1,-Q8,-Q2];(repeat refine sdQ ?_);refine hK _ ?_;clear hK K;refine tn ?_;refine Q9 (st':=⟨[(1,.adr 0 0 0),(2,.adr 1 0 0),(4,.adr 2 0 0),(5,.adr 3 0 0),(6,.own 4 0 s10.1.length),(7,.own 5 0 s10.2.1.length),(8,.own 6 0 0),(9,iV s10.2.2),(10,iV v12.1),(11,iV v12.2.1),(45,.val (.bool (!v12.2.2)))],[(0,.mix 13 [(Prf.cells true p_)]),(1,.mix 12 [[iV 0,.val (.slice none 0 0),.val (.slice none 0 0),.val (.slice none 0 0),.val (.slice none 0 0),iV 0,.val (.slice none 0 0),.val (.slice none 0 0),.val (.slice none 0 0),.val (.slice none 0 0),.val (.slice none 0 0),.val (.slice none 0 0)]]),(2,.mix 5 [(Cat.cells true p_.s)]),(3,.mix 5 [(Cat.cells true p_.t)]),(4,rI s10.1),(5,rI s10.2.1),(6,.mix 1 [])],7⟩) (Qi [(0,0),(1,1),(2,2),(3,3),(4,4),(5,5),(6,6)]) ?_;refine Qc rfl (fun g=>?_) fun g=>?_
   ·have g13:¬ (v12.2.2=true):=gQ;clear g;replace h:=if_l g13 h;refine Q5 ?_;refine runQ hN fun K hK=>?_;simp [-Q0,-Q7,-Q1,-Q8,-Q2];(repeat refine sdQ ?_);refine hK _ ?_;clear hK K;refine tn ?_;refine Q9 (st':=⟨[(2,.adr 0 0 0),(3,iV 4)],[(0,.mix 12 [[iV 0,.val (.slice none 0 0),.val (.slice none 0 0),.val (.slice none 0 0),.val (.slice none 0 0),iV 0,.val (.slice none 0 0),.val (.slice none 0 0),.val (.slice none 0 0),.val (.slice none 0 0),.val (.slice none 0 0),.val (.slice none 0 0)]])],1⟩) (Qi [(1,0)]) ?_;refine Qh ?_;refine tr ?_;refine br ?_;refine tr ?_;refine lr ?_;refine br ?_;refine tr ?_;cases h;have q:_=e3:=hk10;have h:=h3;rw [← q] at h;clear q;(try dsimp only at h);have hr:=Option.some.inj h;rw [← hr];refine ⟨_,(.cell Q6a rfl rfl rfl (by simp) (by simp) (.tmp .nil)),?_⟩;refine ⟨(.agg rfl (.one rfl rfl .nil)),[iV 0,.val (.slice none 0 0),.val (.slice none 0 0),.val (.slice none 0 0),.val (.slice none 0 0),iV 0,.val (.slice none 0 0),.val (.slice none 0 0),.val (.slice none 0 0),.val (.slice none 0 0),.val (.slice none 0 0),.val (.slice none 0 0),iV 4],[],by simp [Cat.cells,Fn.cells,Prf.cells,UA,U1,IA,I1,LA,L1,BA,B1,EA,E1,E2,eB,eI,eL],by simp,(.cons .refl (.cons .nil (.cons .nil (.cons .nil (.cons .nil (.cons .refl (.cons .nil (.cons .nil (.cons .nil (.cons .nil (.cons .nil (.cons .nil (.cons .refl .nil)))))))))))))⟩
   have g13:¬ (¬ (v12.2.2=true)):=gQ;clear g;replace h:=if_r g13 h;refine Qd ?_;refine tn ?_;refine Q5 ?_;refine runQ hN fun K hK=>?_;replace h:=Q4 h;obtain ⟨a14,h⟩:=h;(try simp only [List.length_append,List.length_cons,List.length_nil] at a14);simp [-Q0,-Q7,-Q1,-Q8,-Q2,a14];(repeat refine sdQ ?_);refine hK _ ?_;clear hK K;refine tn ?_;refine Q9 (st':=⟨[(1,.adr 0 0 0),(2,.adr 1 0 0),(4,.adr 2 0 0),(5,.adr 3 0 0),(6,.own 4 0 ((s10.1++[v12.1]).length)),(7,.own 5 0 s10.2.1.length),(8,.own 6 0 0),(9,iV s10.2.2),(11,iV v12.2.1)],[(0,.mix 13 [(Prf.cells true p_)]),(1,.mix 12 [[iV 0,.val (.slice none 0 0),.val (.slice none 0 0),.val (.slice none 0 0),.val (.slice none 0 0),iV 0,.val (.slice none 0 0),.val (.slice none 0 0),.val (.slice none 0 0),.val (.slice none 0 0),.val (.slice none 0 0),.val (.slice none 0 0)]]),(2,.mix 5 [(Cat.cells true p_.s)]),(3,.mix 5 [(Cat.cells true p_.t)]),(4,rI (s10.1++[v12.1])),(5,rI s10.2.1),(6,.mix 1 [])],7⟩) (Qi [(0,0),(1,1),(2,2),(3,3),(8,4),(5,5),(6,6)]) ?_;refine runQ hN fun K hK=>?_;replace h:=Q4 h;obtain ⟨a15,h⟩:=h;(try simp only [List.length_append,List.length_cons,List.length_nil] at a15);simp [-Q0,-Q7,-Q1,-Q8,-Q2,a15];(repeat refine sdQ ?_);refine hK _ ?_;clear hK K;refine bn ?_;refine tn ?_;refine Q9 (st':=⟨[(1,.adr 0 0 0),(2,.adr 1 0 0),(4,.adr 2 0 0),(5,.adr 3 0 0),(6,.own 4 0 ((s10.1++[v12.1]).length)),(7,.own 5 0 ((s10.2.1++[v12.2.1]).length)),(8,.own 6 0 0),(9,iV s10.2.2)],[(0,.mix 13 [(Prf.cells true p_)]),(1,.mix 12 [[iV 0,.val (.slice none 0 0),.val (.slice none 0 0),.val (.slice none 0 0),.val (.slice none 0 0),iV 0,.val (.slice none 0 0),.val (.slice none 0 0),.val (.slice none 0 0),.val (.slice none 0 0),.val (.slice none 0 0),.val (.slice none 0 0)]]),(2,.mix 5 [(Cat.cells true p_.s)]),(3,.mix 5 [(Cat.cells true p_.t)]),(4,rI (s10.1++[v12.1])),(5,rI (s10.2.1++[v12.2.1])),(6,.mix 1 [])],7⟩) (Qi [(0,0),(1,1),(2,2),(3,3),(4,4),(8,5),(6,6)]) ?_;refine runQ hN fun K hK=>?_;replace h:=Q4 h;obtain ⟨a16,h⟩:=h;simp [-Q0,-Q7,-Q1,-Q8,-Q2,Qn a16];(repeat refine sdQ ?_);refine hK _ ?_;clear hK K;cases h;exact rn (s':=(s10.1++[v12.1],s10.2.1++[v12.2.1],s10.2.2+1)) hk10 (Qi [(0,0),(1,1),(2,2),(3,3),(4,4),(5,5),(6,6)])
  have g11:¬ (s10.2.2<p_.s.n):=gQ;clear g;replace h:=if_r g11 h;refine Ql ?_;refine tx ?_;refine lx ?_;refine bh ?_;cases h;exact jn (b:=(s10.1,s10.2.1)) hk10 (Qi [(0,0),(1,1),(2,2),(3,3),(4,4),(5,5),(6,6)])
 intro b3 hb3;have h:=h3;try rw [← hb3] at h
 clear h3;try dsimp only at h
 refine Q5 ?_;refine Q5 ?_;refine runQ hN fun K hK=>?_;simp [-Q0,-Q7,-Q1,-Q8,-Q2];repeat refine sdQ ?_
 refine hK _ ?_;clear hK K;refine tn ?_;refine Q9 (st':=⟨[(1,.adr 0 0 0),(2,.adr 1 0 0),(4,.adr 2 0 0),(5,.adr 3 0 0),(6,.own 4 0 b3.1.length),(7,.own 5 0 b3.2.length),(8,.own 6 0 0),(13,iV 0)],[(0,.mix 13 [(Prf.cells true p_)]),(1,.mix 12 [[iV 0,.val (.slice none 0 0),.val (.slice none 0 0),.val (.slice none 0 0),.val (.slice none 0 0),iV 0,.val (.slice none 0 0),.val (.slice none 0 0),.val (.slice none 0 0),.val (.slice none 0 0),.val (.slice none 0 0),.val (.slice none 0 0)]]),(2,.mix 5 [(Cat.cells true p_.s)]),(3,.mix 5 [(Cat.cells true p_.t)]),(4,rI b3.1),(5,rI b3.2),(6,.mix 1 [])],7⟩) (Qi [(0,0),(1,1),(2,2),(3,3),(4,4),(5,5),(6,6)]) ?_;replace h:=bind_some h;obtain ⟨e17,h,h17⟩:=h;refine Qj (fun b17:List Int=>⟨[(2,.adr 0 0 0),(4,.adr 1 0 0),(5,.adr 2 0 0),(6,.own 3 0 b3.1.length),(8,.own 4 0 b17.length)],[(0,.mix 12 [[iV 0,.val (.slice none 0 0),.val (.slice none 0 0),.val (.slice none 0 0),.val (.slice none 0 0),iV 0,.val (.slice none 0 0),.val (.slice none 0 0),.val (.slice none 0 0),.val (.slice none 0 0),.val (.slice none 0 0),.val (.slice none 0 0)]]),(1,.mix 5 [(Cat.cells true p_.s)]),(2,.mix 5 [(Cat.cells true p_.t)]),(3,rI b3.1),(4,rI b17)],5⟩) (fun b17=>b17=e17) ?_ ?_
 ·refine Qa ?_;refine Qr h (fun s53:List Int × Int=>⟨[(1,.adr 0 0 0),(2,.adr 1 0 0),(4,.adr 2 0 0),(5,.adr 3 0 0),(6,.own 4 0 b3.1.length),(7,.own 5 0 b3.2.length),(8,.own 6 0 s53.1.length),(13,iV s53.2)],[(0,.mix 13 [(Prf.cells true p_)]),(1,.mix 12 [[iV 0,.val (.slice none 0 0),.val (.slice none 0 0),.val (.slice none 0 0),.val (.slice none 0 0),iV 0,.val (.slice none 0 0),.val (.slice none 0 0),.val (.slice none 0 0),.val (.slice none 0 0),.val (.slice none 0 0),.val (.slice none 0 0)]]),(2,.mix 5 [(Cat.cells true p_.s)]),(3,.mix 5 [(Cat.cells true p_.t)]),(4,rI b3.1),(5,rI b3.2),(6,rI s53.1)],7⟩) (Q5x ⟨[(1,.adr 0 0 0),(2,.adr 1 0 0),(4,.adr 2 0 0),(5,.adr 3 0 0),(6,.own 4 0 b3.1.length),(7,.own 5 0 b3.2.length),(8,.own 6 0 0),(13,iV 0)],[(0,.mix 13 [(Prf.cells true p_)]),(1,.mix 12 [[iV 0,.val (.slice none 0 0),.val (.slice none 0 0),.val (.slice none 0 0),.val (.slice none 0 0),iV 0,.val (.slice none 0 0),.val (.slice none 0 0),.val (.slice none 0 0),.val (.slice none 0 0),.val (.slice none 0 0),.val (.slice none 0 0)]]),(2,.mix 5 [(Cat.cells true p_.s)]),(3,.mix 5 [(Cat.cells true p_.t)]),(4,rI b3.1),(5,rI b3.2),(6,rI [])],7⟩ (Wk.nils [] (by simp) (by simp) (by simp [nlA]) (by simp [entN,nlL,nlA,Cat.cells,Fn.cells,Prf.cells,UA,U1,IA,I1,LA,L1,BA,B1,EA,E1,E2,eB,eI,eL]) (by simp)) (Qi [(0,0),(1,1),(2,2),(3,3),(4,4),(5,5),(6,6)])) ?_;clear h;intro k53 s53 c53 h hk53;refine Q5 ?_;refine Q5 ?_;refine runQ hN fun K hK=>?_;simp [-Q0,-Q7,-Q1,-Q8,-Q2];repeat refine sdQ ?_
  refine hK _ ?_;clear hK K;refine tn ?_;refine Q9 (st':=⟨[(1,.adr 0 0 0),(2,.adr 1 0 0),(4,.adr 2 0 0),(5,.adr 3 0 0),(6,.own 4 0 b3.1.length),(7,.own 5 0 b3.2.length),(8,.own 6 0 s53.1.length),(13,iV s53.2),(59,.val (.bool (decide (s53.2<(p_.s.fr.length:Int)))))],[(0,.mix 13 [(Prf.cells true p_)]),(1,.mix 12 [[iV 0,.val (.slice none 0 0),.val (.slice none 0 0),.val (.slice none 0 0),.val (.slice none 0 0),iV 0,.val (.slice none 0 0),.val (.slice none 0 0),.val (.slice none 0 0),.val (.slice none 0 0),.val (.slice none 0 0),.val (.slice none 0 0)]]),(2,.mix 5 [(Cat.cells true p_.s)]),(3,.mix 5 [(Cat.cells true p_.t)]),(4,rI b3.1),(5,rI b3.2),(6,rI s53.1)],7⟩) (Qi [(0,0),(1,1),(2,2),(3,3),(4,4),(5,5),(6,6)]) ?_;refine Qc rfl (fun g=>?_) fun g=>?_
  ·have g54:s53.2<(p_.s.fr.length:Int):=gQ;clear g;replace h:=if_l g54 h;refine Qd ?_;refine tn ?_;refine Q5 ?_;refine Qa ?_;refine Q5 ?_;refine runQ hN fun K hK=>?_;replace h:=Q4 h;obtain ⟨a55,h⟩:=h;replace h:=Q4 h;obtain ⟨a56,h⟩:=h;simp [-Q0,-Q7,-Q1,-Q8,-Q2,at_I a55,at_I a56];(repeat refine sdQ ?_);refine hK _ ?_;clear hK K;refine tn ?_;refine Q9 (st':=⟨[(1,.adr 0 0 0),(2,.adr 1 0 0),(4,.adr 2 0 0),(5,.adr 3 0 0),(6,.own 4 0 b3.1.length),(7,.own 5 0 b3.2.length),(8,.own 6 0 s53.1.length),(13,iV s53.2),(14,iV (ix p_.s.fr s53.2)),(15,iV (ix p_.s.to s53.2))],[(0,.mix 13 [(Prf.cells true p_)]),(1,.mix 12 [[iV 0,.val (.slice none 0 0),.val (.slice none 0 0),.val (.slice none 0 0),.val (.slice none 0 0),iV 0,.val (.slice none 0 0),.val (.slice none 0 0),.val (.slice none 0 0),.val (.slice none 0 0),.val (.slice none 0 0),.val (.slice none 0 0)]]),(2,.mix 5 [(Cat.cells true p_.s)]),(3,.mix 5 [(Cat.cells true p_.t)]),(4,rI b3.1),(5,rI b3.2),(6,rI s53.1)],7⟩) (Qi [(0,0),(1,1),(2,2),(3,3),(4,4),(5,5),(6,6)]) ?_;refine Q5 ?_;refine runQ hN fun K hK=>?_;replace h:=Q4 h;obtain ⟨a57,h⟩:=h;replace h:=Q4 h;obtain ⟨a58,h⟩:=h;replace h:=Q4 h;obtain ⟨a59,h⟩:=h;replace h:=Q4 h;obtain ⟨a60,h⟩:=h;replace h:=Q4 h;obtain ⟨a61,h⟩:=h;simp [-Q0,-Q7,-Q1,-Q8,-Q2,at_E (c:=eL) a57,at_I a58,at_L a59,at_I a60,at_I a61];(repeat refine sdQ ?_);refine hK _ ?_;clear hK K;refine tn ?_;refine Q9 (st':=⟨[(1,.adr 0 0 0),(2,.adr 1 0 0),(4,.adr 2 0 0),(5,.adr 3 0 0),(6,.own 4 0 b3.1.length),(7,.own 5 0 b3.2.length),(8,.own 6 0 s53.1.length),(13,iV s53.2),(14,iV (ix p_.s.fr s53.2)),(15,iV (ix p_.s.to s53.2)),(16,iV (ix (rx (gx p_.bf s53.2) (ix b3.1 (ix p_.s.to s53.2))) (ix b3.2 (ix p_.s.to s53.2))))],[(0,.mix 13 [(Prf.cells true p_)]),(1,.mix 12 [[iV 0,.val (.slice none 0 0),.val (.slice none 0 0),.val (.slice none 0 0),.val (.slice none 0 0),iV 0,.val (.slice none 0 0),.val (.slice none 0 0),.val (.slice none 0 0),.val (.slice none 0 0),.val (.slice none 0 0),.val (.slice none 0 0)]]),(2,.mix 5 [(Cat.cells true p_.s)]),(3,.mix 5 [(Cat.cells true p_.t)]),(4,rI b3.1),(5,rI b3.2),(6,rI s53.1)],7⟩) (Qi [(0,0),(1,1),(2,2),(3,3),(4,4),(5,5),(6,6)]) ?_;refine Q5 ?_;refine runQ hN fun K hK=>?_;replace h:=Q4 h;obtain ⟨a62,h⟩:=h;replace h:=Q4 h;obtain ⟨a63,h⟩:=h;simp [-Q0,-Q7,-Q1,-Q8,-Q2,at_I a62,at_I a63];(repeat with_reducible refine sdQ ?_);replace h:=bind_some h;obtain ⟨v64,hv64,h⟩:=h;refine Q3 (Q54 _ _ _ v64 hv64) (.cons (.aggL (.cons .val (.cons .lst (.cons .lst (.cons .lst (.cons .lst .nil)))))) (.cons .val (.cons .val .nil))) ?_;simp [-Q0,-Q7,-Q1,-Q8,-Q2,unk,unA,unE,unT,unC,flat,at_I a62,at_I a63];(repeat refine sdQ ?_);refine hK _ ?_;clear hK K;refine tn ?_
   refine Q9 (st':=⟨[(1,.adr 0 0 0),(2,.adr 1 0 0),(4,.adr 2 0 0),(5,.adr 3 0 0),(6,.own 4 0 b3.1.length),(7,.own 5 0 b3.2.length),(8,.own 6 0 s53.1.length),(13,iV s53.2),(14,iV (ix p_.s.fr s53.2)),(16,iV (ix (rx (gx p_.bf s53.2) (ix b3.1 (ix p_.s.to s53.2))) (ix b3.2 (ix p_.s.to s53.2)))),(17,.own 7 0 v64.length)],[(0,.mix 13 [(Prf.cells true p_)]),(1,.mix 12 [[iV 0,.val (.slice none 0 0),.val (.slice none 0 0),.val (.slice none 0 0),.val (.slice none 0 0),iV 0,.val (.slice none 0 0),.val (.slice none 0 0),.val (.slice none 0 0),.val (.slice none 0 0),.val (.slice none 0 0),.val (.slice none 0 0)]]),(2,.mix 5 [(Cat.cells true p_.s)]),(3,.mix 5 [(Cat.cells true p_.t)]),(4,rI b3.1),(5,rI b3.2),(6,rI s53.1),(7,rI v64)],8⟩) (Qi [(0,0),(1,1),(2,2),(3,3),(4,4),(5,5),(6,6),(9,7)]) ?_;refine Q5 ?_;refine runQ hN fun K hK=>?_;simp [-Q0,-Q7,-Q1,-Q8,-Q2];(repeat refine sdQ ?_);refine hK _ ?_;clear hK K;refine tn ?_;refine Q9 (st':=⟨[(1,.adr 0 0 0),(2,.adr 1 0 0),(4,.adr 2 0 0),(5,.adr 3 0 0),(6,.own 4 0 b3.1.length),(7,.own 5 0 b3.2.length),(8,.own 6 0 s53.1.length),(13,iV s53.2),(14,iV (ix p_.s.fr s53.2)),(16,iV (ix (rx (gx p_.bf s53.2) (ix b3.1 (ix p_.s.to s53.2))) (ix b3.2 (ix p_.s.to s53.2)))),(17,.own 7 0 v64.length),(18,iV (-1))],[(0,.mix 13 [(Prf.cells true p_)]),(1,.mix 12 [[iV 0,.val (.slice none 0 0),.val (.slice none 0 0),.val (.slice none 0 0),.val (.slice none 0 0),iV 0,.val (.slice none 0 0),.val (.slice none 0 0),.val (.slice none 0 0),.val (.slice none 0 0),.val (.slice none 0 0),.val (.slice none 0 0)]]),(2,.mix 5 [(Cat.cells true p_.s)]),(3,.mix 5 [(Cat.cells true p_.t)]),(4,rI b3.1),(5,rI b3.2),(6,rI s53.1),(7,rI v64)],8⟩) (Qi [(0,0),(1,1),(2,2),(3,3),(4,4),(5,5),(6,6),(7,7)]) ?_;refine Q5 ?_;refine Q5 ?_;refine runQ hN fun K hK=>?_;simp [-Q0,-Q7,-Q1,-Q8,-Q2];(repeat refine sdQ ?_);refine hK _ ?_;clear hK K;refine tn ?_;refine Q9 (st':=⟨[(1,.adr 0 0 0),(2,.adr 1 0 0),(4,.adr 2 0 0),(5,.adr 3 0 0),(6,.own 4 0 b3.1.length),(7,.own 5 0 b3.2.length),(8,.own 6 0 s53.1.length),(13,iV s53.2),(14,iV (ix p_.s.fr s53.2)),(16,iV (ix (rx (gx p_.bf s53.2) (ix b3.1 (ix p_.s.to s53.2))) (ix b3.2 (ix p_.s.to s53.2)))),(17,.own 7 0 v64.length),(18,iV (-1)),(19,iV 0)],[(0,.mix 13 [(Prf.cells true p_)]),(1,.mix 12 [[iV 0,.val (.slice none 0 0),.val (.slice none 0 0),.val (.slice none 0 0),.val (.slice none 0 0),iV 0,.val (.slice none 0 0),.val (.slice none 0 0),.val (.slice none 0 0),.val (.slice none 0 0),.val (.slice none 0 0),.val (.slice none 0 0)]]),(2,.mix 5 [(Cat.cells true p_.s)]),(3,.mix 5 [(Cat.cells true p_.t)]),(4,rI b3.1),(5,rI b3.2),(6,rI s53.1),(7,rI v64)],8⟩) (Qi [(0,0),(1,1),(2,2),(3,3),(4,4),(5,5),(6,6),(7,7)]) ?_;replace h:=bind_some h;obtain ⟨e65,h,h65⟩:=h
   refine Qj (fun b65:Int=>⟨[(1,.adr 0 0 0),(2,.adr 1 0 0),(4,.adr 2 0 0),(5,.adr 3 0 0),(6,.own 4 0 b3.1.length),(7,.own 5 0 b3.2.length),(8,.own 6 0 s53.1.length),(13,iV s53.2),(18,iV b65)],[(0,.mix 13 [(Prf.cells true p_)]),(1,.mix 12 [[iV 0,.val (.slice none 0 0),.val (.slice none 0 0),.val (.slice none 0 0),.val (.slice none 0 0),iV 0,.val (.slice none 0 0),.val (.slice none 0 0),.val (.slice none 0 0),.val (.slice none 0 0),.val (.slice none 0 0),.val (.slice none 0 0)]]),(2,.mix 5 [(Cat.cells true p_.s)]),(3,.mix 5 [(Cat.cells true p_.t)]),(4,rI b3.1),(5,rI b3.2),(6,rI s53.1)],7⟩) (fun b65=>b65=e65) ?_ ?_
   ·refine Qa ?_;refine Qr h (fun s76:Int × Int=>⟨[(1,.adr 0 0 0),(2,.adr 1 0 0),(4,.adr 2 0 0),(5,.adr 3 0 0),(6,.own 4 0 b3.1.length),(7,.own 5 0 b3.2.length),(8,.own 6 0 s53.1.length),(13,iV s53.2),(14,iV (ix p_.s.fr s53.2)),(16,iV (ix (rx (gx p_.bf s53.2) (ix b3.1 (ix p_.s.to s53.2))) (ix b3.2 (ix p_.s.to s53.2)))),(17,.own 7 0 v64.length),(18,iV s76.1),(19,iV s76.2)],[(0,.mix 13 [(Prf.cells true p_)]),(1,.mix 12 [[iV 0,.val (.slice none 0 0),.val (.slice none 0 0),.val (.slice none 0 0),.val (.slice none 0 0),iV 0,.val (.slice none 0 0),.val (.slice none 0 0),.val (.slice none 0 0),.val (.slice none 0 0),.val (.slice none 0 0),.val (.slice none 0 0)]]),(2,.mix 5 [(Cat.cells true p_.s)]),(3,.mix 5 [(Cat.cells true p_.t)]),(4,rI b3.1),(5,rI b3.2),(6,rI s53.1),(7,rI v64)],8⟩) (Qi [(0,0),(1,1),(2,2),(3,3),(4,4),(5,5),(6,6),(7,7)]) ?_;clear h;intro k76 s76 c76 h hk76;refine Q5 ?_;refine Q5 ?_;refine runQ hN fun K hK=>?_;simp [-Q0,-Q7,-Q1,-Q8,-Q2];(repeat refine sdQ ?_);refine hK _ ?_;clear hK K;refine tn ?_;refine Q9 (st':=⟨[(1,.adr 0 0 0),(2,.adr 1 0 0),(4,.adr 2 0 0),(5,.adr 3 0 0),(6,.own 4 0 b3.1.length),(7,.own 5 0 b3.2.length),(8,.own 6 0 s53.1.length),(13,iV s53.2),(14,iV (ix p_.s.fr s53.2)),(16,iV (ix (rx (gx p_.bf s53.2) (ix b3.1 (ix p_.s.to s53.2))) (ix b3.2 (ix p_.s.to s53.2)))),(17,.own 7 0 v64.length),(18,iV s76.1),(19,iV s76.2),(102,.val (.bool (decide (s76.2<(v64.length:Int)))))],[(0,.mix 13 [(Prf.cells true p_)]),(1,.mix 12 [[iV 0,.val (.slice none 0 0),.val (.slice none 0 0),.val (.slice none 0 0),.val (.slice none 0 0),iV 0,.val (.slice none 0 0),.val (.slice none 0 0),.val (.slice none 0 0),.val (.slice none 0 0),.val (.slice none 0 0),.val (.slice none 0 0)]]),(2,.mix 5 [(Cat.cells true p_.s)]),(3,.mix 5 [(Cat.cells true p_.t)]),(4,rI b3.1),(5,rI b3.2),(6,rI s53.1),(7,rI v64)],8⟩) (Qi [(0,0),(1,1),(2,2),(3,3),(4,4),(5,5),(6,6),(7,7)]) ?_;refine Qc rfl (fun g=>?_) fun g=>?_
    ·have g77:s76.2<(v64.length:Int):=gQ;clear g;replace h:=if_l g77 h;refine Qd ?_;refine tn ?_;refine Q5 ?_;replace h:=bind_some h;obtain ⟨e78,h,h78⟩:=h;refine Qj (fun b78:Int=>⟨[(1,.adr 0 0 0),(2,.adr 1 0 0),(4,.adr 2 0 0),(5,.adr 3 0 0),(6,.own 4 0 b3.1.length),(7,.own 5 0 b3.2.length),(8,.own 6 0 s53.1.length),(13,iV s53.2),(14,iV (ix p_.s.fr s53.2)),(16,iV (ix (rx (gx p_.bf s53.2) (ix b3.1 (ix p_.s.to s53.2))) (ix b3.2 (ix p_.s.to s53.2)))),(17,.own 7 0 v64.length),(18,iV b78),(19,iV s76.2)],[(0,.mix 13 [(Prf.cells true p_)]),(1,.mix 12 [[iV 0,.val (.slice none 0 0),.val (.slice none 0 0),.val (.slice none 0 0),.val (.slice none 0 0),iV 0,.val (.slice none 0 0),.val (.slice none 0 0),.val (.slice none 0 0),.val (.slice none 0 0),.val (.slice none 0 0),.val (.slice none 0 0)]]),(2,.mix 5 [(Cat.cells true p_.s)]),(3,.mix 5 [(Cat.cells true p_.t)]),(4,rI b3.1),(5,rI b3.2),(6,rI s53.1),(7,rI v64)],8⟩) (fun b78=>b78=e78) ?_ ?_
     ·refine Qa ?_;refine Q5 ?_;refine runQ hN fun K hK=>?_;replace h:=Q4 h;obtain ⟨a79,h⟩:=h;replace h:=Q4 h;obtain ⟨a80,h⟩:=h;replace h:=Q4 h;obtain ⟨a81,h⟩:=h;replace h:=Q4 h;obtain ⟨a82,h⟩:=h;replace h:=Q4 h;obtain ⟨a83,h⟩:=h;simp [-Q0,-Q7,-Q1,-Q8,-Q2,at_I a79,at_E (c:=eL) a80,at_L a81,at_I a82,at_I a83];(repeat refine sdQ ?_);refine hK _ ?_;clear hK K;refine tn ?_;refine Q9 (st':=⟨[(1,.adr 0 0 0),(2,.adr 1 0 0),(4,.adr 2 0 0),(5,.adr 3 0 0),(6,.own 4 0 b3.1.length),(7,.own 5 0 b3.2.length),(8,.own 6 0 s53.1.length),(13,iV s53.2),(14,iV (ix p_.s.fr s53.2)),(16,iV (ix (rx (gx p_.bf s53.2) (ix b3.1 (ix p_.s.to s53.2))) (ix b3.2 (ix p_.s.to s53.2)))),(17,.own 7 0 v64.length),(18,iV s76.1),(19,iV s76.2),(123,.val (.bool ((ix (rx (gx p_.bh (ix v64 s76.2)) (ix p_.s.fr s53.2)) (ix b3.2 (ix p_.s.fr s53.2))) == (ix (rx (gx p_.bf s53.2) (ix b3.1 (ix p_.s.to s53.2))) (ix b3.2 (ix p_.s.to s53.2))))))],[(0,.mix 13 [(Prf.cells true p_)]),(1,.mix 12 [[iV 0,.val (.slice none 0 0),.val (.slice none 0 0),.val (.slice none 0 0),.val (.slice none 0 0),iV 0,.val (.slice none 0 0),.val (.slice none 0 0),.val (.slice none 0 0),.val (.slice none 0 0),.val (.slice none 0 0),.val (.slice none 0 0)]]),(2,.mix 5 [(Cat.cells true p_.s)]),(3,.mix 5 [(Cat.cells true p_.t)]),(4,rI b3.1),(5,rI b3.2),(6,rI s53.1),(7,rI v64)],8⟩) (Qi [(0,0),(1,1),(2,2),(3,3),(4,4),(5,5),(6,6),(7,7)]) ?_;refine Qc rfl (fun g=>?_) fun g=>?_
      ·have g84:(ix (rx (gx p_.bh (ix v64 s76.2)) (ix p_.s.fr s53.2)) (ix b3.2 (ix p_.s.fr s53.2)))=(ix (rx (gx p_.bf s53.2) (ix b3.1 (ix p_.s.to s53.2))) (ix b3.2 (ix p_.s.to s53.2))):=gQ;clear g;replace h:=if_l g84 h;refine runQ hN fun K hK=>?_;replace h:=Q4 h;obtain ⟨a85,h⟩:=h;simp [-Q0,-Q7,-Q1,-Q8,-Q2,at_I a85];(repeat refine sdQ ?_);refine hK _ ?_;clear hK K;refine bn ?_;exact jn (b:=ix v64 s76.2) (Option.some.inj h) (Qi [(0,0),(1,1),(2,2),(3,3),(4,4),(5,5),(6,6),(7,7)])
      have g84:¬ ((ix (rx (gx p_.bh (ix v64 s76.2)) (ix p_.s.fr s53.2)) (ix b3.2 (ix p_.s.fr s53.2)))=(ix (rx (gx p_.bf s53.2) (ix b3.1 (ix p_.s.to s53.2))) (ix b3.2 (ix p_.s.to s53.2)))):=gQ;clear g;replace h:=if_r g84 h;refine Qd ?_;refine bn ?_;exact jn (b:=s76.1) (Option.some.inj h) (Qi [(0,0),(1,1),(2,2),(3,3),(4,4),(5,5),(6,6),(7,7)])
     intro b78 hb78;have h:=h78;(try rw [← hb78] at h);clear h78;(try dsimp only at h);refine runQ hN fun K hK=>?_;replace h:=Q4 h;obtain ⟨a86,h⟩:=h;simp [-Q0,-Q7,-Q1,-Q8,-Q2,Qn a86];(repeat refine sdQ ?_);refine hK _ ?_;clear hK K;cases h;exact rn (s':=(b78,s76.2+1)) hk76 (Qi [(0,0),(1,1),(2,2),(3,3),(4,4),(5,5),(6,6),(7,7)])
    have g77:¬ (s76.2<(v64.length:Int)):=gQ;clear g;replace h:=if_r g77 h;refine Ql ?_;refine tx ?_;refine lx ?_;refine bh ?_;cases h;exact jn (b:=s76.1) hk76 (Qi [(0,0),(1,1),(2,2),(3,3),(4,4),(5,5),(6,6)])
   intro b65 hb65;have h:=h65;(try rw [← hb65] at h);clear h65;(try dsimp only at h);refine runQ hN fun K hK=>?_;replace h:=Q4 h;obtain ⟨a87,h⟩:=h;(try simp only [List.length_append,List.length_cons,List.length_nil] at a87);simp [-Q0,-Q7,-Q1,-Q8,-Q2,a87];(repeat refine sdQ ?_);refine hK _ ?_;clear hK K;refine bn ?_;refine tn ?_;refine Q9 (st':=⟨[(1,.adr 0 0 0),(2,.adr 1 0 0),(4,.adr 2 0 0),(5,.adr 3 0 0),(6,.own 4 0 b3.1.length),(7,.own 5 0 b3.2.length),(8,.own 6 0 ((s53.1++[b65]).length)),(13,iV s53.2)],[(0,.mix 13 [(Prf.cells true p_)]),(1,.mix 12 [[iV 0,.val (.slice none 0 0),.val (.slice none 0 0),.val (.slice none 0 0),.val (.slice none 0 0),iV 0,.val (.slice none 0 0),.val (.slice none 0 0),.val (.slice none 0 0),.val (.slice none 0 0),.val (.slice none 0 0),.val (.slice none 0 0)]]),(2,.mix 5 [(Cat.cells true p_.s)]),(3,.mix 5 [(Cat.cells true p_.t)]),(4,rI b3.1),(5,rI b3.2),(6,rI (s53.1++[b65]))],7⟩) (Qi [(0,0),(1,1),(2,2),(3,3),(4,4),(5,5),(8,6)]) ?_;refine runQ hN fun K hK=>?_;replace h:=Q4 h;obtain ⟨a88,h⟩:=h;simp [-Q0,-Q7,-Q1,-Q8,-Q2,Qn a88];(repeat refine sdQ ?_);refine hK _ ?_;clear hK K;cases h;exact rn (s':=(s53.1++[b65],s53.2+1)) hk53 (Qi [(0,0),(1,1),(2,2),(3,3),(4,4),(5,5),(6,6)])
  have g54:¬ (s53.2<(p_.s.fr.length:Int)):=gQ;clear g;replace h:=if_r g54 h;refine Ql ?_;refine tx ?_;refine lx ?_;refine bh ?_;cases h;exact jn (b:=s53.1) hk53 (Qi [(1,0),(2,1),(3,2),(4,3),(6,4)])
 intro b17 hb17;have h:=h17;try rw [← hb17] at h
 clear h17;try dsimp only at h
 refine Q5 ?_;refine runQ hN fun K hK=>?_;simp [-Q0,-Q7,-Q1,-Q8,-Q2];repeat with_reducible refine sdQ ?_
 replace h:=bind_some h;obtain ⟨v89,hv89,h⟩:=h;refine Q3 (Q6Y _ _ _ _ v89 hv89) (.cons (.aggL (.cons .val (.cons .lst (.cons .lst (.cons .lst (.cons .lst .nil)))))) (.cons (.aggL (.cons .val (.cons .lst (.cons .lst (.cons .lst (.cons .lst .nil)))))) (.cons (.whole (by simp) (by simp) (by simp)) (.cons (.whole (by simp) (by simp) (by simp)) .nil)))) ?_;simp [-Q0,-Q7,-Q1,-Q8,-Q2,unk,unA,unE,unT,unC,flat];repeat refine sdQ ?_
 refine hK _ ?_;clear hK K;refine tn ?_;refine Q9 (st':=⟨[(2,.adr 0 0 0),(3,iV 0)],[(0,.mix 12 [[iV v89.s.n,.own 1 0 v89.s.fr.length,.own 2 0 v89.s.to.length,.own 3 0 v89.s.id.length,.own 4 0 v89.s.cs.length,iV v89.t.n,.own 5 0 v89.t.fr.length,.own 6 0 v89.t.to.length,.own 7 0 v89.t.id.length,.own 8 0 v89.t.cs.length,.own 9 0 v89.ob.length,.own 10 0 v89.ar.length]]),(1,rI v89.s.fr),(2,rI v89.s.to),(3,rI v89.s.id),(4,.row 1 (Ls v89.s.cs)),(5,rI v89.t.fr),(6,rI v89.t.to),(7,rI v89.t.id),(8,.row 1 (Ls v89.t.cs)),(9,rI v89.ob),(10,rI v89.ar)],11⟩) (Qi [(0,0),(6,1),(7,2),(8,3),(9,4),(11,5),(12,6),(13,7),(14,8),(15,9),(16,10)]) ?_;refine Qh ?_;have hr:=Option.some.inj h;rw [← hr];refine ⟨_,(.cell Q6a rfl rfl rfl (by simp) (by simp) (.tmp .nil)),?_⟩;refine ⟨(.agg rfl (.one rfl rfl .nil)),[iV v89.s.n,lI v89.s.fr,lI v89.s.to,lI v89.s.id,.lst true 1 (Ls v89.s.cs),iV v89.t.n,lI v89.t.fr,lI v89.t.to,lI v89.t.id,.lst true 1 (Ls v89.t.cs),lI v89.ob,lI v89.ar,iV 0],[1,2,3,4,5,6,7,8,9,10],by simp [Cat.cells,Fn.cells,Prf.cells,UA,U1,IA,I1,LA,L1,BA,B1,EA,E1,E2,eB,eI,eL],by simp,(UpL.refl _)⟩
end Go.Vc.T
