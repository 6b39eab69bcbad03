/- A part of the proof: a verified generator of conditions, and what each function of the program does. -/
import Derived.Test.YtbpjpnccoeedoaaC10
set_option maxRecDepth 100000
set_option maxHeartbeats 4000000
set_option linter.unusedSimpArgs false
set_option linter.unusedVariables false

namespace Go.Vc.T
open Go Go.Vc Go.Proofs
theorem cov_nodup:∀ (n:Nat) (L:List Int),L.length=n→(∀ y:Nat,y<n→(y:Int)∈L)→L.Nodup∧∀ x∈L,0≤x∧x<(n:Int):=by
 intro n
 induction n with
 | zero=>intro L hl _;have:=List.eq_nil_of_length_eq_zero hl;subst this;simp
 | succ n ih =>
  intro L hl h;have hn:=h n (by omega);have hp:=List.perm_cons_erase hn;obtain ⟨a,b⟩:=ih (L.erase (n:Int)) (by rw [List.length_erase_of_mem hn];omega) fun y hy=>by
   have:=h y (by omega);exact (List.mem_erase_of_ne (by omega)).2 this
  have hnn:(n:Int) ∉ L.erase (n:Int):=fun q=>by have:=(b _ q).2;omega
  refine ⟨hp.nodup_iff.2 (List.nodup_cons.2 ⟨hnn,a⟩),fun x hx=>?_⟩;rcases List.mem_cons.1 (hp.mem_iff.1 hx) with rfl|hx
  ·omega
  have:=b x hx;omega
theorem flt_full {n:Nat} {p:Nat→Prop}:(flt n p).length=n↔∀ i,i<n→p i:=by
 constructor
 ·intro h i hi;have h2:((List.range n).filter fun i=>bo (p i)).length=(List.range n).length:=by simpa [flt] using h
  have:=(List.filter_eq_self.1 (List.filter_sublist.eq_of_length h2)) i (by simpa using hi);simpa [bo] using this
 intro h;have:((List.range n).filter fun i=>bo (p i))=List.range n:=List.filter_eq_self.2 fun i hi=>by simpa [bo] using h i (by simpa using hi)
 simp [flt,this]
theorem fst_eq {n m:Nat} {p:Nat→Prop} (hm:m<n) (hp:p m) (hl:∀ k,k<m→¬ p k):fstN n p=(m:Int):=by
 rcases Q5a n p with ⟨_,h⟩|⟨k,hk,pk,e⟩
 ·exact absurd hp (h m hm)
 unfold fstN;rw [List.find?_range_eq_some.2 ⟨Qm hp,by simpa using hm,fun j hj=>by simp [Qf (hl j hj)]⟩];rfl
theorem fst_no {n:Nat} {p:Nat→Prop} (h:∀ i,i<n→¬ p i):fstN n p = -1:=by
 rcases Q5a n p with ⟨e,_⟩|⟨k,hk,pk,e⟩
 ·exact e
 exact absurd pk (h k hk)
theorem fst_pos {n:Nat} {p:Nat→Prop} (h:0≤fstN n p):∃ k:Nat,k<n∧p k∧fstN n p=(k:Int):=by
 rcases Q5a n p with ⟨e,_⟩|q
 ·omega
 exact q
theorem fstI {ε β:Type} {body:Int→Option (Ctl Int ε)} {K:ε→Option β} {r:Option β} (n:Nat) (p:Nat→Prop) (eb:Int→ε) (eg:ε) (hn:n<4611686018427387904)
  (h:∀ i:Nat,i<n→body (i:Int)=if bo (p i)=true then some (.ret (eb i)) else some (.next ((i:Int)+1))) (h3:body (n:Int)=some (.ret eg)) (hk:K (if 0≤fstN n p then eb (fstN n p) else eg)=r):(Qu body fuel 0).bind K=r:=by
 rcases loop_fst n (fun i=>¬ p i) (eb:=fun i=>eb i) (eg:=eg) hn (fun i hi q=>by rw [h i hi,Qf q];simp) (fun i hi q=>by rw [h i hi,Qm (Classical.byContradiction q)];simp) h3 with ⟨q,e⟩|⟨m,hm,hq,hlt,e⟩
 ·rw [e,Option.bind_some,← hk,fst_no q];simp
 rw [e,Option.bind_some,← hk,fst_eq hm (Classical.byContradiction hq) hlt];simp
theorem mkF_full {bs:List Bool} {n:Nat}:(mkF bs n).length=n↔∀ i,i<n→bs.getD i false=true:=by
 constructor
 ·intro h i hi;have h2:((List.range n).filter fun k=>bs.getD k false).length=(List.range n).length:=by simpa [mkF] using h
  simpa using (List.filter_eq_self.1 (List.filter_sublist.eq_of_length h2)) i (by simpa using hi)
 intro h;have:((List.range n).filter fun k=>bs.getD k false)=List.range n:=List.filter_eq_self.2 fun i hi=>h i (by simpa using hi);unfold mkF;rw [this];simp
def Bij (n:Int) (L:List Int):Prop:=(L.length:Int)=n∧∀ y:Nat,(y:Int)<n→(y:Int)∈L
theorem e_l06Bij {n:Int} {L:List Int} (hn:0≤n∧n≤1000):QW n L=some (bo (Bij n L)):=by
 unfold QW
 by_cases h1:(L.length:Int)=n
 case neg=>rw [if_neg h1,Qf (show ¬ Bij n L from fun q=>h1 q.1)];rfl
 rw [if_pos h1];unfold Q29;have e:(Qu (σ:=List Int × Int) (ε:=List Int) (fun s8 =>
  if s8.2<n then
   (
    (Q2p L s8.2).bind fun v11 =>
    if v11=true then
     ass ((s8.1++[s8.2]).length≤1073741824) <|
     some (s8.1++[s8.2])
    else
     some s8.1:Option (List Int)).bind fun b10 =>
   ass (B64 (s8.2+1)) <|
   some (Ctl.next (b10,s8.2+1))
  else
   some (Ctl.ret s8.1)) fuel ([],0))=some (flt n.toNat fun y=>(y:Int)∈L):=by
  refine Q5h (fun i=>flt i fun y=>(y:Int)∈L) n.toNat rfl (by omega) (fun i hi=>?_) ?_
  ·have q:=Q6s i fun y=>(y:Int)∈L;unfold Q2p;simp only;rw [if_pos (by omega)]
   by_cases hm:(i:Int)∈L
   ·simp only [Qm hm,Option.bind_some,if_true];rw [Q6 (by simp;omega),Option.bind_some,Q6 (by unfold B64;omega),flt_pos (p:=fun y:Nat=>(y:Int)∈L) hm]
   simp only [Qf hm,Option.bind_some,Bool.false_eq_true,if_false];rw [Q6 (by unfold B64;omega),Q6t (p:=fun y:Nat=>(y:Int)∈L) hm]
  simp only;rw [if_neg (by omega)]
 rw [e];simp only [Option.bind_some];have q:((flt n.toNat fun y=>(y:Int)∈L).length=n.toNat)↔Bij n L:=by
  rw [flt_full];exact ⟨fun q=>⟨h1,fun y hy=>q y (by omega)⟩,fun q y hy=>q.2 y (by omega)⟩
 by_cases hb:Bij n L
 ·rw [Qm hb];have:=q.2 hb;simp only [Option.some.injEq,beq_iff_eq];omega
 rw [Qf hb];have:(flt n.toNat fun y=>(y:Int)∈L).length ≠ n.toNat:=fun z=>hb (q.1 z);simp only [Option.some.injEq,beq_eq_false_iff_ne,ne_eq];omega
noncomputable def Q1f (L:List Int) (n i:Nat):List Bool:=(List.range n).map fun k:Nat=>bo (∃ j:Nat,j<i∧ix L j=(k:Int))
theorem e_isBij {n:Int} {L:List Int} (hn:0≤n∧n≤1000) (hw:∀ j:Nat,j<L.length→0≤ix L j∧ix L j<n):Q13 L n=some (bo (Bij n L)):=by
 unfold Q13
 by_cases h1:(L.length:Int)=n
 case neg=>rw [if_neg h1,Qf (show ¬ Bij n L from fun q=>h1 q.1)];rfl
 rw [if_pos h1];unfold Q1N Q3E;rw [Q6 (by unfold B64;omega),all_inR.2 hw];simp only [Option.bind_some,if_true];rw [Q6 (by omega)];have e0:List.replicate n.toNat false=Q1f L n.toNat 0:=by
  refine List.ext_getElem (by simp [Q1f]) fun i h1 h2=>?_;simp [Q1f,bo]
 have e:(Qu (σ:=List Bool × Int) (ε:=List Bool) (fun s7 =>
  if s7.2<(L.length:Int) then
   ass (0≤s7.2∧s7.2<(L.length:Int)) <|
   ass (0≤ix L s7.2∧ix L s7.2<(s7.1.length:Int)) <|
   ass (B64 (s7.2+1)) <|
   some (Ctl.next (s7.1.set ((ix L s7.2).toNat) true,s7.2+1))
  else
   some (Ctl.ret s7.1)) fuel (List.replicate n.toNat false,0))=some (Q1f L n.toNat L.length):=by
  refine Q5h (fun i=>Q1f L n.toNat i) L.length e0 (by omega) (fun i hi=>?_) ?_
  ·have q:=hw i hi;simp only;rw [if_pos (by omega),Q6 (by omega),Q6 (by simp [Q1f];omega),Q6 (by unfold B64;omega)]
   congr 3
   refine List.ext_getElem (by simp [Q1f]) fun k h1 h2=>?_;rw [List.getElem_set];simp only [Q1f,List.getElem_map,List.getElem_range];split
   ·rename_i hk;exact (Qm ⟨i,by omega,by omega⟩).symm
   rename_i hk;refine Q3i ⟨fun ⟨j,a,b⟩=>⟨j,by omega,b⟩,fun ⟨j,a,b⟩=>⟨j,?_,b⟩⟩;rcases Nat.lt_or_ge j i with c|c
   ·exact c
   have:j=i:=(by omega);subst this;omega
  simp only;rw [if_neg (by omega)]
 rw [e];unfold Q39;simp only [Option.bind_some];rw [Q6 (by simp [Q1f];omega)];simp only [Option.bind_some];have hl:(Q1f L n.toNat L.length).length=n.toNat:=by simp [Q1f]
 rw [hl];have q:((mkF (Q1f L n.toNat L.length) n.toNat).length=n.toNat)↔Bij n L:=by
  rw [mkF_full];have hg:∀ k,k<n.toNat→((Q1f L n.toNat L.length).getD k false=true↔(k:Int)∈L):=by
   intro k hk;simp only [Q1f,List.getD_eq_getElem?_getD,List.getElem?_map,List.getElem?_range hk,Option.map_some,Option.getD_some,bo_tt];constructor
   ·rintro ⟨j,hj,e⟩;rw [← e,← QT _ _ hj];exact List.getElem_mem hj
   intro hm;obtain ⟨j,hj,e⟩:=List.getElem_of_mem hm;exact ⟨j,hj,by rw [← QT _ _ hj,e]⟩
  exact ⟨fun z=>⟨h1,fun y hy=>(hg y (by omega)).1 (z y (by omega))⟩,fun z y hy=>(hg y hy).2 (z.2 y (by omega))⟩
 by_cases hb:Bij n L
 ·rw [Qm hb];have:=q.2 hb;simp only [Option.some.injEq,beq_iff_eq];omega
 rw [Qf hb];have:(mkF (Q1f L n.toNat L.length) n.toNat).length ≠ n.toNat:=fun z=>hb (q.1 z);simp only [Option.some.injEq,beq_eq_false_iff_ne,ne_eq];omega
noncomputable def imgs (p:Prf) (x e y z:Int):List Int:=(homL p.t y z).map fun b=>ix (rx (gx p.bh b) x) e
def Uni (p:Prf) (x y e:Int):Prop:=∀ z:Nat,z<p.t.id.length→Bij (ix (rx p.sz x) z) (imgs p x e y z)
theorem Q7g {c:Cat} {x y:Int} {i:Nat} (hi:i<(homL c x y).length):Ar c (ix (homL c x y) i) x y:=mem_ix homL_mem hi
theorem Prf.M.img {p:Prf} (h:p.M) {x y e z:Int} (hx:0≤x∧x<p.s.n) (hy:0≤y∧y<p.t.n) (he:0≤e∧e<ix (rx p.sz x) y) (hz:0≤z∧z<p.t.n):(imgs p x e y z).length≤40∧∀ j:Nat,j<(imgs p x e y z).length→0≤ix (imgs p x e y z) j∧ix (imgs p x e y z) j<ix (rx p.sz x) z:=by
 have nt:=h.z.ht.nums;have hl:=Q3A p.t y z;refine ⟨by simp [imgs];omega,fun j hj=>?_⟩;have hj':j<(homL p.t y z).length:=by simpa [imgs] using hj
 have a:=Q7g hj';have q:=(h.H a.1).2 x hx;rw [a.2.1,a.2.2] at q;have e1:ix (imgs p x e y z) j=ix (rx (gx p.bh (ix (homL p.t y z) j)) x) e:=by simp [imgs,ix,List.getD_eq_getElem?_getD,hj']
 rw [e1];obtain ⟨k,rfl⟩:=Int.eq_ofNat_of_zero_le he.1;exact q.2 k (by have:=q.1;omega)
theorem e_l32Uni {p:Prf} (h:p.M) {x y e:Int} (hx:0≤x∧x<p.s.n) (hy:0≤y∧y<p.t.n) (he:0≤e∧e<ix (rx p.sz x) y):QX p x y e=some (bo (Uni p x y e)):=by
 have ns:=h.z.hs.nums;have nt:=h.z.ht.nums;have z1:=h.z.ls;have z3:=h.z.lh;unfold QX;refine chkI p.t.id.length (fun z=>Bij (ix (rx p.sz x) z) (imgs p x e y z)) (Sum.inr false) (Sum.inl ()) (by omega) (fun z hz=>?_) (by rw [if_neg (by omega)]) ?_
 ·rw [if_pos (by omega),(Q79 h.z.ht y z).1];simp only [Option.bind_some];have hl:=Q3A p.t y z;refine Q7o (homL p.t y z) (fun b=>ix (rx (gx p.bh b) x) e) (e:=imgs p x e y z) (by omega) (fun i acc hi ha=>?_) (by simp only;rw [if_neg (by omega)];rfl) ?_
  ·have a:=Q7g hi;have q:=h.H a.1;have q2:=q.2 x hx;rw [a.2.1,a.2.2] at q2;have q3:=q2.1;have q4:=a.1;simp only;rw [if_pos (by omega),Q6 (by omega),Q6 (by omega),Q6 (by omega),Q6 (by omega),Q6 (by simp;omega),Q6 (by unfold B64;omega)]
  have s1:=h.z.S hx;have s2:=s1.2 z (by omega);rw [Q6 (by omega),Q6 (by omega),e_l06Bij (by omega)];simp only [Option.bind_some]
  by_cases q:Bij (ix (rx p.sz x) z) (imgs p x e y z)
  ·rw [Qm q,if_neg (by simp),Q6 (by unfold B64;omega)];simp
  rw [Qf q];simp
 by_cases q:Uni p x y e
 ·have q':∀ z:Nat,z<p.t.id.length→Bij (ix (rx p.sz x) z) (imgs p x e y z):=q;rw [Qm q,Qm q'];simp
 have q':¬ ∀ z:Nat,z<p.t.id.length→Bij (ix (rx p.sz x) z) (imgs p x e y z):=q;rw [Qf q,Qf q'];simp
noncomputable def uE (p:Prf) (x y:Int):Int:=fstN (ix (rx p.sz x) y).toNat fun e=>Uni p x y e
noncomputable def uY (p:Prf) (x:Int):Int:=fstN p.t.id.length fun y=>0≤uE p x y
noncomputable def uR (p:Prf) (x:Int):Int × Int × Bool:=if 0≤uY p x then (uY p x,uE p x (uY p x),true) else (0,0,false)
theorem Q5F {p:Prf} (h:p.M) {x:Int} (hx:0≤x∧x<p.s.n):Q21 p x=some (uR p x):=by
 have ns:=h.z.hs.nums;have nt:=h.z.ht.nums;have z1:=h.z.ls;have s1:=h.z.S hx;unfold Q21;refine fstI p.t.id.length (fun y=>0≤uE p x y) (fun y=>Sum.inr (y,uE p x y,true)) (Sum.inl ()) (by omega) (fun y hy=>?_) (by rw [if_neg (by omega)]) ?_
 ·have s2:=s1.2 y (by omega);rw [if_pos (by omega),Option.bind_assoc];refine fstI (ix (rx p.sz x) y).toNat (fun e=>Uni p x y e) (fun e=>Sum.inl ((y:Int),e,true)) (Sum.inr ()) (by omega) (fun e he=>?_) (by rw [Q6 (by omega),Q6 (by omega),if_neg (by omega)]) ?_
  ·rw [Q6 (by omega),Q6 (by omega),if_pos (by omega),e_l32Uni h hx (by omega) (by omega)];simp only [Option.bind_some]
   by_cases q:Uni p x y e
   ·rw [Qm q];simp
   rw [Qf q];simp only [Bool.false_eq_true,if_false];rw [Q6 (by unfold B64;omega)]
  by_cases q:0≤uE p x y
  ·have q':0≤fstN (ix (rx p.sz x) y).toNat fun e=>Uni p x y e:=q;rw [Qm q,if_pos q'];rfl
  have q':¬ 0≤fstN (ix (rx p.sz x) y).toNat fun e=>Uni p x y e:=q;rw [Qf q,if_neg q'];simp only [Option.bind_some,Bool.false_eq_true,if_false];rw [Q6 (by unfold B64;omega)]
 unfold uR
 by_cases q:0≤uY p x
 ·have q':0≤fstN p.t.id.length fun y=>0≤uE p x y:=q;rw [if_pos q,if_pos q'];rfl
 have q':¬ 0≤fstN p.t.id.length fun y=>0≤uE p x y:=q;rw [if_neg q,if_neg q']
theorem Q4h {p:Prf} (h:p.M) {x:Int} (hx:0≤x∧x<p.s.n):Qv p x=some (uR p x):=by
 have ns:=h.z.hs.nums;have nt:=h.z.ht.nums;have z1:=h.z.ls;have z3:=h.z.lh;have s1:=h.z.S hx;unfold Qv;refine fstI p.t.id.length (fun y=>0≤uE p x y) (fun y=>Sum.inr (y,uE p x y,true)) (Sum.inl ()) (by omega) (fun y hy=>?_) (by rw [if_neg (by omega)]) ?_
 ·have s2:=s1.2 y (by omega);rw [if_pos (by omega),Q6 (by omega),Q6 (by omega),Option.bind_assoc];refine fstI (ix (rx p.sz x) y).toNat (fun e=>Uni p x y e) (fun e=>Sum.inl ((y:Int),e,true)) (Sum.inr ()) (by omega) (fun e he=>?_) (by rw [if_neg (by omega)]) ?_
  ·rw [if_pos (by omega),Option.bind_assoc];refine chkI p.t.id.length (fun z=>Bij (ix (rx p.sz x) z) (imgs p x e y z)) (Sum.inr ()) (Sum.inl ()) (by omega) (fun z hz=>?_) (by rw [if_neg (by omega)]) ?_
   ·rw [if_pos (by omega),(Q79 h.z.ht y z).2];simp only [Option.bind_some];have hl:=Q3A p.t y z;refine Q7o (homL p.t y z) (fun b=>ix (rx (gx p.bh b) x) e) (e:=imgs p x e y z) (by omega) (fun i acc hi ha=>?_) (by simp only;rw [if_neg (by omega)];rfl) ?_
    ·have a:=Q7g hi;have q:=h.H a.1;have q2:=q.2 x hx;rw [a.2.1,a.2.2] at q2;have q3:=q2.1;have q4:=a.1;simp only;rw [if_pos (by omega),Q6 (by omega),Q6 (by omega),Q6 (by omega),Q6 (by omega),Q6 (by simp;omega),Q6 (by unfold B64;omega)]
    have s3:=s1.2 z (by omega);have s4:=h.img hx (y:=y) (by omega) (e:=e) (by omega) (z:=z) (by omega);rw [Q6 (by omega),Q6 (by omega),e_isBij (by omega) s4.2];simp only [Option.bind_some]
    by_cases q:Bij (ix (rx p.sz x) z) (imgs p x e y z)
    ·rw [Qm q,if_neg (by simp),Q6 (by unfold B64;omega)];simp
    rw [Qf q];simp
   by_cases q:Uni p x y e
   ·have q':∀ z:Nat,z<p.t.id.length→Bij (ix (rx p.sz x) z) (imgs p x e y z):=q;rw [Qm q,Qm q'];simp
   have q':¬ ∀ z:Nat,z<p.t.id.length→Bij (ix (rx p.sz x) z) (imgs p x e y z):=q;rw [Qf q,Qf q'];simp only [Option.bind_some,Bool.false_eq_true,if_false];rw [Q6 (by unfold B64;omega)]
  by_cases q:0≤uE p x y
  ·have q':0≤fstN (ix (rx p.sz x) y).toNat fun e=>Uni p x y e:=q;rw [Qm q,if_pos q'];rfl
  have q':¬ 0≤fstN (ix (rx p.sz x) y).toNat fun e=>Uni p x y e:=q;rw [Qf q,if_neg q'];simp only [Option.bind_some,Bool.false_eq_true,if_false];rw [Q6 (by unfold B64;omega)]
 unfold uR
 by_cases q:0≤uY p x
 ·have q':0≤fstN p.t.id.length fun y=>0≤uE p x y:=q;rw [if_pos q,if_pos q'];rfl
 have q':¬ 0≤fstN p.t.id.length fun y=>0≤uE p x y:=q;rw [if_neg q,if_neg q']
noncomputable def reE (p:Prf) (x:Int):Int:=uE p x (uY p x)
theorem Q5s {p:Prf} (h:p.M) {x:Int} (hx:0≤x∧x<p.s.n) (q:0≤uY p x):uY p x<p.t.n∧(0≤reE p x∧reE p x<ix (rx p.sz x) (uY p x))∧Uni p x (uY p x) (reE p x):=by
 have nt:=h.z.ht.nums;obtain ⟨y,hy,h1,e1⟩:=fst_pos q;have e1':uY p x=(y:Int):=e1;unfold reE;rw [e1'];obtain ⟨e,he,h2,e2⟩:=fst_pos h1;have e2':uE p x y=(e:Int):=e2;rw [e2'];have s:=(h.z.S hx).2 y (by omega);exact ⟨by omega,by omega,h2⟩
noncomputable def reW (p:Prf) (a:Int):Int:=ix (rx (gx p.bf a) (uY p (ix p.s.to a))) (reE p (ix p.s.to a))
noncomputable def reH (p:Prf) (a:Int):List Int:=homL p.t (uY p (ix p.s.fr a)) (uY p (ix p.s.to a))
def reP (p:Prf) (a:Int) (q:Nat):Prop:=ix (rx (gx p.bh (ix (reH p a) q)) (ix p.s.fr a)) (reE p (ix p.s.fr a))=reW p a
noncomputable def reA (p:Prf) (a:Int):Int:=ix (reH p a) (fstN (reH p a).length (reP p a))
theorem re_one {p:Prf} (h:p.M) (hall:∀ x:Int,0≤x∧x<p.s.n→0≤uY p x) {a:Int} (ha:0≤a∧a<(p.s.fr.length:Int)):∃ q0,q0<(reH p a).length∧reP p a q0∧∀ q,q<(reH p a).length→reP p a q→q=q0:=by
 have nt:=h.z.ht.nums;have en:=h.z.hs.ends ha;have ux:=Q5s h en.1 (hall _ en.1);have uz:=Q5s h en.2 (hall _ en.2);have ux0:=hall _ en.1;have uz0:=hall _ en.2;obtain ⟨w,hw⟩:=Int.eq_ofNat_of_zero_le uz0;have B:=ux.2.2 w (by omega);rw [← hw] at B;have e0:imgs p (ix p.s.fr a) (reE p (ix p.s.fr a)) (uY p (ix p.s.fr a)) (uY p (ix p.s.to a))=(reH p a).map fun b=>ix (rx (gx p.bh b) (ix p.s.fr a)) (reE p (ix p.s.fr a)):=rfl;rw [e0] at B;have C:=(cov_nodup _ _ rfl fun y hy=>B.2 y (by have:=B.1;omega)).1;have M:=((h.B ha).2 _ ⟨uz0,uz.1⟩);obtain ⟨k,hk⟩:=Int.eq_ofNat_of_zero_le uz.2.1.1;have M2:=M.2 k (by have:=M.1;omega);rw [← hk] at M2;have M3:0≤reW p a∧reW p a<ix (rx p.sz (ix p.s.fr a)) (uY p (ix p.s.to a)):=M2;obtain ⟨v,hv⟩:=Int.eq_ofNat_of_zero_le M3.1;have D:=B.2 v (by omega);obtain ⟨q0,hq0,e1⟩:=List.getElem_of_mem D;have hq1:q0<(reH p a).length:=by simpa using hq0
 refine ⟨q0,hq1,?_,fun q hq hp=>?_⟩
 ·unfold reP;rw [hv,← e1,List.getElem_map,QT]
 have e2:((reH p a).map fun b=>ix (rx (gx p.bh b) (ix p.s.fr a)) (reE p (ix p.s.fr a)))[q]'(by simpa using hq)=((reH p a).map fun b=>ix (rx (gx p.bh b) (ix p.s.fr a)) (reE p (ix p.s.fr a)))[q0]'hq0:=by
  rw [e1,← hv,List.getElem_map,QT];exact hp
 have P:=List.pairwise_iff_getElem.1 C;rcases Nat.lt_trichotomy q q0 with c|c|c
 ·exact absurd e2 (P q q0 (by simpa using hq) hq0 c)
 ·exact c
 exact absurd e2.symm (P q0 q hq0 (by simpa using hq) c)
theorem Q2N (n:Nat) (g:Int→Int) {j:Int} (h0:0≤j) (h1:j<(n:Int)):ix (tab n fun x:Nat=>g x) j=g j:=by
 obtain ⟨k,rfl⟩:=Int.eq_ofNat_of_zero_le h0;exact ix_tab n (fun x:Nat=>g x) (by omega)
noncomputable def reF (p:Prf):Fn:=⟨p.s,p.t,tab p.s.id.length fun x:Nat=>uY p x,tab p.s.fr.length fun a:Nat=>reA p a⟩
theorem Q6i:zeroF.ok∧zeroF.size≤10000:=by simp [Fn.ok,Fn.size,Cat.ok,Cat.size,zeroF,sumL]
theorem Q2Q (p:Prf):∃ r,QH p=some r∧QG p=some r∧r.1.ok∧r.1.size≤10000:=by
 unfold QH QG;rw [e_l22Is,e_isProf];simp only [Option.bind_some]
 by_cases hI:p.Is
 case neg=>exact ⟨(zeroF,1),by simp [Qf hI,zeroF],by simp [Qf hI,zeroF],Q6i⟩
 rw [Qm hI,if_neg (by simp),if_neg (by simp)];have h:=hI.m;have ns:=h.z.hs.nums;have nt:=h.z.ht.nums;have z1:=h.z.ls;have z2:=h.z.lb;have z3:=h.z.lh
 by_cases hall:∀ x:Nat,x<p.s.id.length→0≤uY p x
 case neg =>
  refine ⟨(zeroF,4),?_,?_,Q6i⟩
  ·refine Q35 (σ:=List Int × List Int × Int) (Q:=fun z=>z=some (zeroF,4)) p.s.id.length (fun i s=>s=(tab i (fun x:Nat=>uY p x),tab i (fun x:Nat=>reE p x),(i:Int))∧∀ x:Nat,x<i→0≤uY p x) (fun e=>e=Sum.inr (zeroF,4)) (by omega) ⟨rfl,fun x hx=>by omega⟩ ?_ ?_ (fun e he=>by rw [he])
   ·rintro i s hi ⟨rfl,hp⟩
    simp only;rw [if_pos (by omega),Q5F h (by omega)];simp only [Option.bind_some]
    by_cases q:0≤uY p i
    ·have e:uR p i=(uY p i,reE p i,true):=(by unfold uR;rw [if_pos q];rfl);rw [e,if_neg (by simp),Q6 (by simp;omega),Q6 (by simp;omega),Q6 (by unfold B64;omega)];refine .inl ⟨_,rfl,by rw [Q1z,Q1z];rfl,fun x hx=>?_⟩;rcases Nat.lt_or_ge x i with c|c
     ·exact hp x c
     rw [show x=i by omega];exact q
    have e:uR p i=(0,0,false):=(by unfold uR;rw [if_neg q]);rw [e,if_pos (by simp)];exact .inr ⟨_,rfl,rfl⟩
   rintro s ⟨rfl,hp⟩
   exact absurd hp hall
  refine Q35 (σ:=List Int × List Int × Int) (Q:=fun z=>z=some (zeroF,4)) p.s.id.length (fun i s=>s=(tab i (fun x:Nat=>uY p x),tab i (fun x:Nat=>reE p x),(i:Int))∧∀ x:Nat,x<i→0≤uY p x) (fun e=>e=Sum.inr (zeroF,4)) (by omega) ⟨rfl,fun x hx=>by omega⟩ ?_ ?_ (fun e he=>by rw [he])
  ·rintro i s hi ⟨rfl,hp⟩
   simp only;rw [if_pos (by omega),Q4h h (by omega)];simp only [Option.bind_some]
   by_cases q:0≤uY p i
   ·have e:uR p i=(uY p i,reE p i,true):=(by unfold uR;rw [if_pos q];rfl);rw [e,if_neg (by simp),Q6 (by simp;omega),Q6 (by simp;omega),Q6 (by unfold B64;omega)];refine .inl ⟨_,rfl,by rw [Q1z,Q1z];rfl,fun x hx=>?_⟩;rcases Nat.lt_or_ge x i with c|c
    ·exact hp x c
    rw [show x=i by omega];exact q
   have e:uR p i=(0,0,false):=(by unfold uR;rw [if_neg q]);rw [e,if_pos (by simp)];exact .inr ⟨_,rfl,rfl⟩
  rintro s ⟨rfl,hp⟩
  exact absurd hp hall
 have hall':∀ x:Int,0≤x∧x<p.s.n→0≤uY p x:=fun x hx=>by
  obtain ⟨k,rfl⟩:=Int.eq_ofNat_of_zero_le hx.1;exact hall k (by omega)
 have okF:(reF p).ok∧(reF p).size≤10000:=by
  have a:=h.z.hs.ok;have b:=h.z.ht.ok;have c:=h.z.hs.size;have d:=h.z.ht.size;refine ⟨⟨a,b,by simp [reF];omega,by simp [reF];omega⟩,?_⟩;simp only [Fn.size,reF,Q3R];omega
 have key:∀ a:Nat,a<p.s.fr.length→((0≤ix p.s.fr a∧ix p.s.fr a<p.s.n)∧(0≤ix p.s.to a∧ix p.s.to a<p.s.n))∧(0≤uY p (ix p.s.to a)∧uY p (ix p.s.to a)<((gx p.bf a).length:Int))∧(0≤reE p (ix p.s.to a)∧reE p (ix p.s.to a)<((rx (gx p.bf a) (uY p (ix p.s.to a))).length:Int)) ∧
   ∀ q:Nat,q<(reH p a).length→(0≤ix (reH p a) q∧ix (reH p a) q<(p.bh.length:Int))∧((gx p.bh (ix (reH p a) q)).length:Int)=p.s.n∧(0≤reE p (ix p.s.fr a)∧reE p (ix p.s.fr a)<((rx (gx p.bh (ix (reH p a) q)) (ix p.s.fr a)).length:Int)):=by
  intro a ha;have en:=h.z.hs.ends (a:=a) (by omega);have ux:=Q5s h en.1 (hall' _ en.1);have uz:=Q5s h en.2 (hall' _ en.2);have ux0:=hall' _ en.1;have uz0:=hall' _ en.2;have B:=h.B (a:=a) (by omega);have M:=B.2 _ ⟨uz0,uz.1⟩;refine ⟨en,⟨uz0,by rw [B.1];exact uz.1⟩,⟨uz.2.1.1,by rw [M.1];exact uz.2.1.2⟩,fun q hq=>?_⟩;have A:=Q7g hq;have H:=h.H A.1;have M2:=H.2 _ en.1;rw [A.2.1] at M2;exact ⟨by rw [z3];exact A.1,H.1,ux.2.1.1,by rw [show ((rx (gx p.bh (ix (reH p a) q)) (ix p.s.fr a)).length:Int)=_ from M2.1];exact ux.2.1.2⟩
 refine ⟨(reF p,0),?_,?_,okF⟩
 ·refine Q60 (σ:=List Int × List Int × Int) p.s.id.length (fun i=>(tab i (fun x:Nat=>uY p x),tab i (fun x:Nat=>reE p x),(i:Int))) (e:=Sum.inl (tab p.s.id.length (fun x:Nat=>uY p x),tab p.s.id.length (fun x:Nat=>reE p x))) rfl (by omega) (fun i hi=>?_) ?_ ?_
  ·simp only;rw [if_pos (by omega),Q5F h (by omega)];have e:uR p i=(uY p i,reE p i,true):=(by unfold uR;rw [if_pos (hall i hi)];rfl);simp only [Option.bind_some,e];rw [if_neg (by simp),Q6 (by simp;omega),Q6 (by simp;omega),Q6 (by unfold B64;omega),Q1z,Q1z];rfl
  ·simp only;rw [if_neg (by omega)]
  simp only;refine tabg p.s.fr.length (fun a:Nat=>reA p a) (e:=tab p.s.fr.length fun a:Nat=>reA p a) (by omega) (fun a ha=>?_) (by simp only;rw [if_neg (by omega)]) ?_
  ·obtain ⟨⟨f1,f2⟩,k1,k2,k3⟩:=key a ha;obtain ⟨q0,hq0,hp0,hun⟩:=re_one h hall' (a:=a) (by omega);have hfst:fstN (reH p a).length (reP p a)=(q0:Int):=fst_eq hq0 hp0 fun k hk hp=>by have:=hun k (by omega) hp;omega
   have hl:(reH p a).length≤p.t.fr.length:=Q3A p.t (uY p (ix p.s.fr a)) (uY p (ix p.s.to a));have eH:homL p.t (uY p (ix p.s.fr a)) (uY p (ix p.s.to a))=reH p a:=rfl;simp only;rw [Q2N _ (uY p) f2.1 (by omega),Q2N _ (reE p) f2.1 (by omega),Q2N _ (uY p) f1.1 (by omega),Q2N _ (reE p) f1.1 (by omega)];simp only [Q3R];rw [if_pos (by omega),Q6 (by omega),Q6 (by omega),Q6 (by omega),Q6 (by omega),Q6 k1,Q6 (by omega),Q6 k2,Q6 (by omega),Q6 (by omega),(Q79 h.z.ht _ _).1,eH];simp only [Option.bind_some];refine Q2Z (α:=Int) (reH p a).length (fun i=>if q0<i then ix (reH p a) q0 else -1) (e:=ix (reH p a) q0) rfl (by omega) (fun q hq=>?_) ?_ ?_
   ·obtain ⟨m1,m2,m3⟩:=k3 q hq;have ex:reP p a q↔ix (rx (gx p.bh (ix (reH p a) q)) (ix p.s.fr a)) (reE p (ix p.s.fr a))=ix (rx (gx p.bf a) (uY p (ix p.s.to a))) (reE p (ix p.s.to a)):=Iff.rfl;simp only;rw [if_pos (by omega),Q6 (by omega),Q6 m1,Q6 ⟨f1.1,by show _<((gx p.bh (ix (reH p a) q)).length:Int);omega⟩,Q6 (by omega),Q6 m3]
    by_cases hq1:reP p a q
    ·have hq2:=hun q hq hq1;subst hq2;rw [if_pos (ex.1 hq1),Q6 (by omega)];simp only [Option.bind_some];rw [Q6 (by unfold B64;omega),if_pos (by omega)]
    have hne:q ≠ q0:=fun e=>hq1 (e ▸ hp0);rw [if_neg (fun z=>hq1 (ex.2 z))];simp only [Option.bind_some];rw [Q6 (by unfold B64;omega)]
    congr 3
    by_cases c:q0<q
    ·rw [if_pos c,if_pos (by omega)]
    rw [if_neg c,if_neg (by omega)]
   ·simp only;rw [if_neg (by omega),if_pos hq0]
   have er:reA p a=ix (reH p a) q0:=(by unfold reA;rw [hfst]);rw [er]
  rw [e_l06Make h.z.hs.ok h.z.ht.ok (by simp;omega) (by simp;omega)];rfl
 refine Q60 (σ:=List Int × List Int × Int) p.s.id.length (fun i=>(tab i (fun x:Nat=>uY p x),tab i (fun x:Nat=>reE p x),(i:Int))) (e:=Sum.inl (tab p.s.id.length (fun x:Nat=>uY p x),tab p.s.id.length (fun x:Nat=>reE p x))) rfl (by omega) (fun i hi=>?_) ?_ ?_
 ·simp only;rw [if_pos (by omega),Q4h h (by omega)];have e:uR p i=(uY p i,reE p i,true):=by unfold uR;rw [if_pos (hall i hi)];rfl
  simp only [Option.bind_some,e];rw [if_neg (by simp),Q6 (by simp;omega),Q6 (by simp;omega),Q6 (by unfold B64;omega),Q1z,Q1z];rfl
 ·simp only;rw [if_neg (by omega)]
 simp only;refine Q2Z p.s.fr.length (fun i=>tab i fun a:Nat=>reA p a) (e:=tab p.s.fr.length fun a:Nat=>reA p a) rfl (by omega) (fun a ha=>?_) (by simp only;rw [if_neg (by omega)]) ?_
 ·obtain ⟨⟨f1,f2⟩,k1,k2,k3⟩:=key a ha;obtain ⟨q0,hq0,hp0,hun⟩:=re_one h hall' (a:=a) (by omega);have hfst:fstN (reH p a).length (reP p a)=(q0:Int):=fst_eq hq0 hp0 fun k hk hp=>by have:=hun k (by omega) hp;omega
  have hl:(reH p a).length≤p.t.fr.length:=Q3A p.t (uY p (ix p.s.fr a)) (uY p (ix p.s.to a));have eH:homL p.t (uY p (ix p.s.fr a)) (uY p (ix p.s.to a))=reH p a:=rfl;simp only;rw [Q2N _ (uY p) f2.1 (by omega),Q2N _ (reE p) f2.1 (by omega),Q2N _ (uY p) f1.1 (by omega),Q2N _ (reE p) f1.1 (by omega)];simp only [Q3R];rw [if_pos (by omega),Q6 (by omega),Q6 (by omega),Q6 (by omega),Q6 (by omega),Q6 k1,Q6 (by omega),Q6 k2,Q6 (by omega),Q6 (by omega),(Q79 h.z.ht _ _).2,eH];simp only [Option.bind_some,Option.bind_assoc];refine fstI (reH p a).length (reP p a) (fun q=>tab a (fun a:Nat=>reA p a)++[ix (reH p a) q]) (tab a fun a:Nat=>reA p a) (by omega) (fun q hq=>?_) ?_ ?_
  ·obtain ⟨m1,m2,m3⟩:=k3 q hq;have ex:reP p a q↔ix (rx (gx p.bh (ix (reH p a) q)) (ix p.s.fr a)) (reE p (ix p.s.fr a))=ix (rx (gx p.bf a) (uY p (ix p.s.to a))) (reE p (ix p.s.to a)):=Iff.rfl;rw [if_pos (by omega),Q6 (by omega),Q6 m1,Q6 ⟨f1.1,by show _<((gx p.bh (ix (reH p a) q)).length:Int);omega⟩,Q6 (by omega),Q6 m3]
   by_cases hq1:reP p a q
   ·rw [if_pos (ex.1 hq1),Qm hq1,Q6 (by simp;omega)];rfl
   rw [if_neg (fun z=>hq1 (ex.2 z)),Qf hq1,Q6 (by unfold B64;omega)];rfl
  ·rw [if_neg (by omega)]
  rw [if_pos (by omega),Q6 (by unfold B64;omega),Q1z];rfl
 rw [e_functor h.z.hs.ok h.z.ht.ok (by simp;omega) (by simp;omega)];rfl
end Go.Vc.T
