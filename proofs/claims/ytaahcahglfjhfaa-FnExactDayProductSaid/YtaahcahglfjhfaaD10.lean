/- A part of the proof: a verified generator of conditions, and what each function of the program does. -/
import Derived.Test.YtaahcahglfjhfaaD9
set_option maxRecDepth 100000
set_option maxHeartbeats 4000000
set_option linter.unusedSimpArgs false
set_option linter.unusedVariables false

namespace Go.Vc.T
open Go Go.Vc Go.Proofs
section
attribute [local simp] Qa Qy Qq QK Qu
noncomputable def afN (f:SF) (a e:Nat):Nat:=(ix (rx f.ac a) e).toNat
noncomputable def psL (m:XMonoidal) (f g:SF) (z:Int) (l:List Int):Nat:=(posL (dL m f g z) l).toNat
noncomputable def dP1 (m:XMonoidal) (a b:Nat) (k:Int) (e d:Nat):List Int:=d5 (frN m.on_ a) (frN m.on_ b) (ix (rx m.on_.cs (ix (rx m.arrows_ a) b)) k) e d
noncomputable def dP2 (m:XMonoidal) (f g:SF) (a b:Nat) (k:Int) (e d:Nat):List Int:=d5 (toN m.on_ a) (toN m.on_ b) k (afN f a e) (afN g b d)
noncomputable def prD (m:XMonoidal) (f g:SF) (z:Int) (a b:Nat) (k:Int) (e d:Nat):List Int:=[(psL m f g z (dP1 m a b k e d):Int),(psL m f g z (dP2 m f g a b k e d):Int)]
noncomputable def jE (m:XMonoidal) (f g:SF) (z:Int) (a b:Nat) (k:Int) (e:Nat):List (List Int):=tab (fzN g (frN m.on_ b)) (prD m f g z a b k e)
noncomputable def jH (m:XMonoidal) (f g:SF) (z:Int) (a b:Nat) (k:Int):List (List Int):=ctn (jE m f g z a b k) (fzN f (frN m.on_ a))
noncomputable def hmT (m:XMonoidal) (z:Int) (a b:Nat):List Int:=hmL m z (toN m.on_ a) (toN m.on_ b)
noncomputable def jI (m:XMonoidal) (f g:SF) (z:Int) (a b i:Nat):List (List Int):=jH m f g z a b (ix (hmT m z a b) i)
noncomputable def jB (m:XMonoidal) (f g:SF) (z:Int) (a b:Nat):List (List Int):=ctn (jI m f g z a b) (hmT m z a b).length
noncomputable def jA (m:XMonoidal) (f g:SF) (z:Int) (a:Nat):List (List Int):=ctn (jB m f g z a) m.on_.fr.length
noncomputable def jI0 (m:XMonoidal) (f g:SF) (z:Int):List (List Int):=ctn (jA m f g z) m.on_.fr.length
noncomputable def qB (m:XMonoidal) (f g:SF) (z:Int) (a b:Nat):List (List Int):=if bo (m.Id a∨m.Id b)=true then jB m f g z a b else []
noncomputable def qA (m:XMonoidal) (f g:SF) (z:Int) (a:Nat):List (List Int):=ctn (qB m f g z a) m.on_.fr.length
noncomputable def qS (m:XMonoidal) (f g:SF) (z:Int):List (List Int):=ctn (qA m f g z) m.on_.fr.length
theorem mem_jE {m:XMonoidal} {f g:SF} {z:Int} {a b e:Nat} {k:Int} {p:List Int}:p∈jE m f g z a b k e↔∃ d,d<fzN g (frN m.on_ b)∧p=prD m f g z a b k e d :=
 ⟨fun h=>Q75 h,fun ⟨d,hd,e⟩=>by rw [e];exact Q7U hd⟩
theorem mem_jB {m:XMonoidal} {f g:SF} {z:Int} {a b:Nat} {p:List Int}:p∈jB m f g z a b↔∃ (k:Int) (e d:Nat),Ar m.on_ k (ix (rx m.objects_ (toN m.on_ a)) (toN m.on_ b)) z∧e<fzN f (frN m.on_ a)∧d<fzN g (frN m.on_ b)∧p=prD m f g z a b k e d:=by
 unfold jB jI jH;constructor
 ·intro h;obtain ⟨i,hi,h⟩:=mem_ctn.1 h;obtain ⟨e,he,h⟩:=mem_ctn.1 h;obtain ⟨d,hd,h⟩:=mem_jE.1 h;exact ⟨_,e,d,hm_at hi,he,hd,h⟩
 rintro ⟨k,e,d,hk,he,hd,rfl⟩
 obtain ⟨i,hi,rfl⟩:=hm_in hk;exact mem_ctn.2 ⟨i,hi,mem_ctn.2 ⟨e,he,mem_jE.2 ⟨d,hd,rfl⟩⟩⟩
theorem mem_jI0 {m:XMonoidal} {f g:SF} {z:Int} {p:List Int}:p∈jI0 m f g z↔∃ (a b:Nat) (k:Int) (e d:Nat),(a<m.on_.fr.length∧b<m.on_.fr.length)∧Ar m.on_ k (ix (rx m.objects_ (toN m.on_ a)) (toN m.on_ b)) z∧e<fzN f (frN m.on_ a)∧d<fzN g (frN m.on_ b)∧p=prD m f g z a b k e d:=by
 unfold jI0 jA;constructor
 ·intro h;obtain ⟨a,ha,h⟩:=mem_ctn.1 h;obtain ⟨b,hb,h⟩:=mem_ctn.1 h;obtain ⟨k,e,d,h⟩:=mem_jB.1 h;exact ⟨a,b,k,e,d,⟨ha,hb⟩,h⟩
 rintro ⟨a,b,k,e,d,⟨ha,hb⟩,h⟩
 exact mem_ctn.2 ⟨a,ha,mem_ctn.2 ⟨b,hb,mem_jB.2 ⟨k,e,d,h⟩⟩⟩
theorem mem_qS {m:XMonoidal} {f g:SF} {z:Int} {p:List Int}:p∈qS m f g z↔∃ (a b:Nat) (k:Int) (e d:Nat),(a<m.on_.fr.length∧b<m.on_.fr.length)∧(m.Id a∨m.Id b)∧Ar m.on_ k (ix (rx m.objects_ (toN m.on_ a)) (toN m.on_ b)) z∧e<fzN f (frN m.on_ a)∧d<fzN g (frN m.on_ b)∧p=prD m f g z a b k e d:=by
 unfold qS qA qB;constructor
 ·intro h;obtain ⟨a,ha,h⟩:=mem_ctn.1 h;obtain ⟨b,hb,h⟩:=mem_ctn.1 h
  by_cases q:m.Id a∨m.Id b
  ·rw [Qm q,if_pos rfl] at h;obtain ⟨k,e,d,h⟩:=mem_jB.1 h;exact ⟨a,b,k,e,d,⟨ha,hb⟩,q,h⟩
  rw [Qj q] at h;simp at h
 rintro ⟨a,b,k,e,d,⟨ha,hb⟩,q,h⟩
 exact mem_ctn.2 ⟨a,ha,mem_ctn.2 ⟨b,hb,by rw [Qm q,if_pos rfl];exact mem_jB.2 ⟨k,e,d,h⟩⟩⟩
section
variable {m:XMonoidal} {f g:SF} (h:DP m f g)
include h
theorem DP.ar {a:Nat} (ha:a<m.on_.fr.length):Ar m.on_ a (frN m.on_ a) (toN m.on_ a):=by
 obtain ⟨f1,f2,f3,f4⟩:=Q1F h.c ha;exact ⟨by omega,f1,f3⟩
theorem DP.tens {a b x x' y y':Int} (ha:Ar m.on_ a x x') (hb:Ar m.on_ b y y'):Ar m.on_ (ix (rx m.arrows_ a) b) (ix (rx m.objects_ x) y) (ix (rx m.objects_ x') y'):=by
 have q:=h.hm.pre.ar ha.1 hb.1;obtain ⟨i,rfl⟩:=Int.eq_ofNat_of_zero_le ha.1.1;obtain ⟨j,rfl⟩:=Int.eq_ofNat_of_zero_le hb.1.1;have e:=h.hm.ed i (by have:=ha.1;omega) j (by have:=hb.1;omega);have e1:=e.1;have e2:=e.2;rw [XMonoidal.E1,ha.2.1,hb.2.1] at e1;rw [XMonoidal.E2,ha.2.2,hb.2.2] at e2;exact ⟨⟨q.2.2.1,q.2.2.2⟩,e1,e2⟩
theorem DP.ich {a a' b b' x x' x'' y y' y'':Int} (ha:Ar m.on_ a x x') (ha':Ar m.on_ a' x' x'') (hb:Ar m.on_ b y y') (hb':Ar m.on_ b' y' y'') :
  ix (rx m.arrows_ (ix (rx m.on_.cs a) a')) (ix (rx m.on_.cs b) b')=ix (rx m.on_.cs (ix (rx m.arrows_ a) b)) (ix (rx m.arrows_ a') b'):=by
 have l1:=ha.1;have l2:=ha'.1;have l3:=hb.1;have l4:=hb'.1;have s1:=ha.2.2;have s2:=ha'.2.1;have s3:=hb.2.2;have s4:=hb'.2.1;obtain ⟨i,rfl⟩:=Int.eq_ofNat_of_zero_le ha.1.1;obtain ⟨i',rfl⟩:=Int.eq_ofNat_of_zero_le ha'.1.1;obtain ⟨j,rfl⟩:=Int.eq_ofNat_of_zero_le hb.1.1;obtain ⟨j',rfl⟩:=Int.eq_ofNat_of_zero_le hb'.1.1;exact h.hm.ic i (by omega) i' (by omega) j (by omega) j' (by omega) (by rw [s1,s2]) (by rw [s3,s4])
theorem DP.fa {a e:Nat} (ha:a<m.on_.fr.length) (he:e<fzN f (frN m.on_ a)):(a:Int)<(f.ac.length:Int)∧(e:Int)<((rx f.ac a).length:Int)∧ix (rx f.ac a) e=(afN f a e:Int)∧afN f a e<fzN f (toN m.on_ a):=by
 obtain ⟨l1,l2,l3,l4,l5,l6⟩:=h.hf.dfact;obtain ⟨f1,f2,f3,f4⟩:=Q1F h.c ha;have A:Ar f.s a (frN m.on_ a) (toN m.on_ a):=by rw [h.ef];exact h.ar ha
 have F1:=(h.F f2).1;have F2:=(h.F f4).1;have q:=h.hf.dact A (e:=(e:Int)) (by omega);have l2':f.ac.length=m.on_.fr.length:=by rw [l2,h.ef]
 unfold afN;omega
theorem DP.ga {a e:Nat} (ha:a<m.on_.fr.length) (he:e<fzN g (frN m.on_ a)):(a:Int)<(g.ac.length:Int)∧(e:Int)<((rx g.ac a).length:Int)∧ix (rx g.ac a) e=(afN g a e:Int)∧afN g a e<fzN g (toN m.on_ a):=by
 obtain ⟨l1,l2,l3,l4,l5,l6⟩:=h.hg.dfact;obtain ⟨f1,f2,f3,f4⟩:=Q1F h.c ha;have A:Ar g.s a (frN m.on_ a) (toN m.on_ a):=by rw [h.eg];exact h.ar ha
 have F1:=(h.G f2).1;have F2:=(h.G f4).1;have q:=h.hg.dact A (e:=(e:Int)) (by omega);have l2':g.ac.length=m.on_.fr.length:=by rw [l2,h.eg]
 unfold afN;omega
theorem DP.in1 {z k:Int} {a b e d:Nat} (ha:a<m.on_.fr.length) (hb:b<m.on_.fr.length) (hk:Ar m.on_ k (ix (rx m.objects_ (toN m.on_ a)) (toN m.on_ b)) z) (he:e<fzN f (frN m.on_ a)) (hd:d<fzN g (frN m.on_ b)):dP1 m a b k e d∈dL m f g z :=
 mem_dL.2 ⟨_,_,_,e,d,(Q1F h.c ha).2.1,(Q1F h.c hb).2.1,Ar.two h.c (h.tens (h.ar ha) (h.ar hb)) hk,he,hd,rfl⟩
theorem DP.in2 {z k:Int} {a b e d:Nat} (ha:a<m.on_.fr.length) (hb:b<m.on_.fr.length) (hk:Ar m.on_ k (ix (rx m.objects_ (toN m.on_ a)) (toN m.on_ b)) z) (he:e<fzN f (frN m.on_ a)) (hd:d<fzN g (frN m.on_ b)):dP2 m f g a b k e d∈dL m f g z :=
 mem_dL.2 ⟨_,_,_,_,_,(Q1F h.c ha).2.2.2,(Q1F h.c hb).2.2.2,hk,(h.fa ha he).2.2.2,(h.ga hb hd).2.2.2,rfl⟩
theorem DP.ps {z:Int} {l:List Int} (hl:l∈dL m f g z):psL m f g z l<(dL m f g z).length∧posL (dL m f g z) l=(psL m f g z l:Int)∧QW (keyB l) (plL (dL m f g z))=some (psL m f g z l:Int):=by
 obtain ⟨j,h1,h2,h3,h4⟩:=(h.keyed z).at hl;have e:psL m f g z l=j:=by unfold psL;rw [h3];rfl
 rw [e];exact ⟨h1,h3,h4⟩
theorem DP.prsI (z:Int):Prs (dL m f g z).length (jI0 m f g z):=by
 intro p hp;obtain ⟨a,b,k,e,d,⟨ha,hb⟩,hk,he,hd,rfl⟩:=mem_jI0.1 hp;exact ⟨_,_,(h.ps (h.in1 ha hb hk he hd)).1,(h.ps (h.in2 ha hb hk he hd)).1,rfl⟩
theorem DP.prsS (z:Int):Prs (dL m f g z).length (qS m f g z):=by
 intro p hp;obtain ⟨a,b,k,e,d,⟨ha,hb⟩,_,hk,he,hd,rfl⟩:=mem_qS.1 hp;exact ⟨_,_,(h.ps (h.in1 ha hb hk he hd)).1,(h.ps (h.in2 ha hb hk he hd)).1,rfl⟩
theorem DP.idN {x:Nat} (hx:x<m.on_.id.length):∃ i:Nat,i<m.on_.fr.length∧ix m.on_.id x=(i:Int)∧frN m.on_ i=x∧toN m.on_ i=x∧m.Id i:=by
 have n:=h.c.nums;have q:=h.c.idn (x:=x) (by omega);have s:=h.c.1.ids x hx;refine ⟨(ix m.on_.id x).toNat,by omega,by omega,?_,?_,?_⟩
 ·unfold frN;rw [Int.toNat_of_nonneg q.1,s.1];rfl
 ·unfold toN;rw [Int.toNat_of_nonneg q.1,s.2];rfl
 unfold XMonoidal.Id;rw [Int.toNat_of_nonneg q.1,s.1]
theorem DP.fid {i x e:Nat} (hx:x<m.on_.id.length) (hi:ix m.on_.id x=(i:Int)) (he:e<fzN f x):afN f i e=e:=by
 have n:=h.c.nums;have F1:=(h.F hx).1;have:=h.hf.dactId (x:=x) (e:=e) (by rw [h.ef];omega) (by omega);rw [h.ef,hi] at this;unfold afN;omega
theorem DP.gid {i x e:Nat} (hx:x<m.on_.id.length) (hi:ix m.on_.id x=(i:Int)) (he:e<fzN g x):afN g i e=e:=by
 have n:=h.c.nums;have F1:=(h.G hx).1;have:=h.hg.dactId (x:=x) (e:=e) (by rw [h.eg];omega) (by omega);rw [h.eg,hi] at this;unfold afN;omega
theorem DP.conS (z:Int):∀ u v:Nat,[(u:Int),(v:Int)]∈jI0 m f g z→Con (qS m f g z) u v:=by
 intro u v hp;obtain ⟨a,b,k,e,d,⟨ha,hb⟩,hk,he,hd,hq⟩:=mem_jI0.1 hp;unfold prD at hq;simp only [List.cons.injEq,and_true] at hq;have eu:u=psL m f g z (dP1 m a b k e d):=by omega
 have ev:v=psL m f g z (dP2 m f g a b k e d):=by omega
 obtain ⟨a1,a2,a3,a4⟩:=Q1F h.c ha;obtain ⟨b1,b2,b3,b4⟩:=Q1F h.c hb;obtain ⟨y,hy,iy,y1,y2,y3⟩:=h.idN b2;obtain ⟨x,hx,ixx,x1,x2,x3⟩:=h.idN a4;have A:=h.ar ha;have B:=h.ar hb;have Y:Ar m.on_ y (frN m.on_ b) (frN m.on_ b):=by have:=h.ar hy;rwa [y1,y2] at this
 have X:Ar m.on_ x (toN m.on_ a) (toN m.on_ a):=by have:=h.ar hx;rwa [x1,x2] at this
 have T2:=h.tens X B;have hk1:=Ar.two h.c T2 hk;have fa:=h.fa ha he;have gb:=h.ga hb hd;have i1:=(h.c.idl A).2;have i2:=(h.c.idl B).1;rw [ixx] at i1;rw [iy] at i2;have E:ix (rx m.on_.cs (ix (rx m.arrows_ a) y)) (ix (rx m.on_.cs (ix (rx m.arrows_ x) b)) k)=ix (rx m.on_.cs (ix (rx m.arrows_ a) b)) k:=by
  rw [← h.c.assoc (h.tens A Y) T2 hk,← h.ich A X Y B,i1,i2]
 have m1:prD m f g z a y (ix (rx m.on_.cs (ix (rx m.arrows_ x) b)) k) e d∈qS m f g z:=mem_qS.2 ⟨a,y,_,e,d,⟨ha,hy⟩,.inr y3,by rw [y2];exact hk1,he,by rw [y1];exact hd,rfl⟩;have m2:prD m f g z x b k (afN f a e) d∈qS m f g z:=mem_qS.2 ⟨x,b,_,_,d,⟨hx,hb⟩,.inl x3,by rw [x2];exact hk,by rw [x1];exact fa.2.2.2,hd,rfl⟩;have q1:dP1 m a y (ix (rx m.on_.cs (ix (rx m.arrows_ x) b)) k) e d=dP1 m a b k e d:=by unfold dP1;rw [E,y1]
 have q2:dP2 m f g a y (ix (rx m.on_.cs (ix (rx m.arrows_ x) b)) k) e d=dP1 m x b k (afN f a e) d:=by
  unfold dP1 dP2;rw [y2,x1,h.gid b2 iy hd]
 have q3:dP2 m f g x b k (afN f a e) d=dP2 m f g a b k e d:=by
  unfold dP2;rw [x2,h.fid a4 ixx fa.2.2.2]
 rw [eu,ev];refine .trans (b:=psL m f g z (dP1 m x b k (afN f a e) d)) (.pr ?_) (.pr ?_)
 ·have:=m1;unfold prD at this
  rwa [q1,q2] at this
 have:=m2;unfold prD at this
 rwa [q3] at this
theorem DP.rr (z:Int) {x:Nat} (hx:x<(dL m f g z).length):RR (qS m f g z) x=RR (jI0 m f g z) x:=by
 refine RR_same (h.prsS z) (h.prsI z) (fun u v hp=>.pr ?_) (h.conS z) hx;obtain ⟨a,b,k,e,d,⟨ha,hb⟩,_,q⟩:=mem_qS.1 hp;exact mem_jI0.2 ⟨a,b,k,e,d,⟨ha,hb⟩,q⟩
end
noncomputable def dC (m:XMonoidal) (f g:SF) (z:Int):List Int:=cls (RR (qS m f g z)) (dL m f g z).length
theorem DP.dC_eq {m:XMonoidal} {f g:SF} (h:DP m f g) (z:Int):cls (RR (jI0 m f g z)) (dL m f g z).length=dC m f g z :=
 (cls_congr (fun x hx=>h.rr z hx) fun x hx=>(RR_ok (h.prsS z) x hx).1).symm
end
attribute [local simp] unk unA unE unT unC flat eL eI Qs Q1L Q8g Q6 Cat.cells SF.cells XMonoidal.cells
noncomputable def Q1t (m_:XMonoidal) (f_:SF) (g_:SF) (z_:Int) (entries_:List (List Int)):Option (List Int) :=
 (Qt (σ:=List (List Int) × Int) (ε:=List (List Int)) (fun s366 =>
  if s366.2<(m_.on_.fr.length:Int) then
   (
    (Qt (σ:=List (List Int) × Int) (ε:=List (List Int)) (fun s549 =>
     if s549.2<(m_.on_.fr.length:Int) then
      (
       (
        (Q2q m_.on_ s366.2).bind fun v553 =>
        if ¬ (v553=true) then
         (Q2q m_.on_ s549.2).bind fun v555 =>
         some (!v555)
        else
         some false:Option (Bool)).bind fun b552 =>
       if b552=true then
        some s549.1
       else
        ass (0≤s366.2∧s366.2<(m_.on_.fr.length:Int)) <|
        ass (0≤s549.2∧s549.2<(m_.on_.fr.length:Int)) <|
        ass (0≤s366.2∧s366.2<(m_.on_.to.length:Int)) <|
        ass (0≤ix m_.on_.to s366.2∧ix m_.on_.to s366.2<(m_.objects_.length:Int)) <|
        ass (0≤s549.2∧s549.2<(m_.on_.to.length:Int)) <|
        ass (0≤ix m_.on_.to s549.2∧ix m_.on_.to s549.2<((rx m_.objects_ (ix m_.on_.to s366.2)).length:Int)) <|
        (Q2k m_.on_ (ix (rx m_.objects_ (ix m_.on_.to s366.2)) (ix m_.on_.to s549.2)) z_).bind fun v563 =>
        (Qt (σ:=List (List Int) × Int) (ε:=List (List Int)) (fun s646 =>
         if s646.2<(v563.length:Int) then
          (
           (Qt (σ:=List (List Int) × Int) (ε:=List (List Int)) (fun s688 =>
            ass (0≤ix m_.on_.fr s366.2∧ix m_.on_.fr s366.2<(f_.sz.length:Int)) <|
            if s688.2<(ix f_.sz (ix m_.on_.fr s366.2)) then
             (
              (Qt (σ:=List (List Int) × Int) (ε:=List (List Int)) (fun s709 =>
               ass (0≤ix m_.on_.fr s549.2∧ix m_.on_.fr s549.2<(g_.sz.length:Int)) <|
               if s709.2<(ix g_.sz (ix m_.on_.fr s549.2)) then
                ass (0≤s366.2∧s366.2<(m_.arrows_.length:Int)) <|
                ass (0≤s549.2∧s549.2<((rx m_.arrows_ s366.2).length:Int)) <|
                ass (0≤s646.2∧s646.2<(v563.length:Int)) <|
                (Q1B m_.on_ (ix (rx m_.arrows_ s366.2) s549.2) (ix v563 s646.2)).bind fun v715 =>
                (Q1C entries_ [ix m_.on_.fr s366.2,ix m_.on_.fr s549.2,v715,s688.2,s709.2]).bind fun v716 =>
                ass (0≤s366.2∧s366.2<(m_.on_.to.length:Int)) <|
                ass (0≤s549.2∧s549.2<(m_.on_.to.length:Int)) <|
                ass (0≤s646.2∧s646.2<(v563.length:Int)) <|
                ass (0≤s366.2∧s366.2<(f_.ac.length:Int)) <|
                ass (0≤s688.2∧s688.2<((rx f_.ac s366.2).length:Int)) <|
                ass (0≤s549.2∧s549.2<(g_.ac.length:Int)) <|
                ass (0≤s709.2∧s709.2<((rx g_.ac s549.2).length:Int)) <|
                (Q1C entries_ [ix m_.on_.to s366.2,ix m_.on_.to s549.2,ix v563 s646.2,ix (rx f_.ac s366.2) s688.2,ix (rx g_.ac s549.2) s709.2]).bind fun v724 =>
                ass ((s709.1++[[v716,v724]]).length≤1073741824) <|
                ass (B64 (s709.2+1)) <|
                some (Ctl.next (s709.1++[[v716,v724]],s709.2+1))
               else
                some (Ctl.ret s709.1)) fuel (s688.1,0)).bind fun p709 =>
              some p709:Option (List (List Int))).bind fun b691 =>
             ass (B64 (s688.2+1)) <|
             some (Ctl.next (b691,s688.2+1))
            else
             some (Ctl.ret s688.1)) fuel (s646.1,0)).bind fun p688 =>
           some p688:Option (List (List Int))).bind fun b648 =>
          ass (B64 (s646.2+1)) <|
          some (Ctl.next (b648,s646.2+1))
         else
          some (Ctl.ret s646.1)) fuel (s549.1,0)).bind fun p646 =>
        some p646:Option (List (List Int))).bind fun b551 =>
      ass (B64 (s549.2+1)) <|
      some (Ctl.next (b551,s549.2+1))
     else
      some (Ctl.ret s549.1)) fuel (s366.1,0)).bind fun p549 =>
    some p549:Option (List (List Int))).bind fun b368 =>
   ass (B64 (s366.2+1)) <|
   some (Ctl.next (b368,s366.2+1))
  else
   some (Ctl.ret s366.1)) fuel ([],0)).bind fun b1 =>
 (Q2p (entries_.length:Int) b1).bind fun v731 =>
 some v731
theorem Q29 {F : Fx} {st st' : St} (m : List (Nat × Nat)) (h : (m.map Prod.fst).Nodup ∧ (m.map Prod.snd).Nodup ∧ (∀ id, id < F.pins → look id m = some id) ∧ (∀ p ∈ m, p.2 < st'.n) ∧ (∀ p ∈ st'.h, p.1 < st'.n) ∧ (∀ p ∈ st'.s, p.2 = rl m (st.get p.1) ∨ p.2 = .bot) ∧ ∀ p ∈ st'.h, hhOk m st.h p.1 p.2 := by simp [hP, hhOk, back, idQ, Cat.cells, SF.cells, XMonoidal.cells, UA, U1, IA, I1, LA, L1, BA, B1, EA, E1, E2, eB, eI, eL, Qd _ Q6 _ (fun _=>rfl)]) : Wk F st st' := Wk.r1 m h
theorem QF {F : Fx} {st st' : St} (m : Nat) (h : ((idQ m).map Prod.fst).Nodup ∧ ((idQ m).map Prod.snd).Nodup ∧ (∀ id, id < F.pins → look id (idQ m) = some id) ∧ (∀ p ∈ (idQ m), p.2 < st'.n) ∧ (∀ p ∈ st'.h, p.1 < st'.n) ∧ (∀ p ∈ st'.s, p.2 = rl (idQ m) (st.get p.1) ∨ p.2 = .bot) ∧ ∀ p ∈ st'.h, hhOk (idQ m) st.h p.1 p.2 := by simp [hP, hhOk, back, idQ, Cat.cells, SF.cells, XMonoidal.cells, UA, U1, IA, I1, LA, L1, BA, B1, EA, E1, E2, eB, eI, eL, Qd _ Q6 _ (fun _=>rfl)]) : Wk F st st' := Wk.r1 (idQ m) h
@[simp] abbrev Ya (a:Int) (b:List (List Int)) (c:List (Nat × AV)):List (Nat × AV):=(3,iV a)::(4,.lst true 1 (Ls b))::(5,.adr 0 0 0)::(6,.adr 1 0 0)::(7,.adr 2 0 0)::(11,.adr 3 0 0)::c
@[simp] abbrev Yn (a b:List (List Int) × Int) (c:XMonoidal) (d:List Int) (e:List (Nat × AV)):List (Nat × AV):=(13,iV a.2)::(14,iV b.2)::(15,iV (ix c.on_.fr a.2))::(16,iV (ix c.on_.fr b.2))::(17,.own 5 0 d.length)::e
@[simp] abbrev Yv (a:XMonoidal) (b:List (Nat × Ent)):List (Nat × Ent):=(3,.mix 5 [(Cat.cells true a.on_)])::b
@[simp] abbrev Y02 (a:List (List Int) × Int) (b:List (Nat × AV)):List (Nat × AV):=(12,.own 4 0 a.1.length)::b
theorem Q5e (m_:XMonoidal) (f_:SF) (g_:SF) (z_:Int) (entries_:List (List Int)) (r:List Int) (h:Q1t m_ f_ g_ z_ entries_=some r):Contract Try.prog 35 (Y0e m_ f_ g_ [iV z_,.lst true 1 (Ls entries_)]) (lI r):=by
 refine Qh (rvs:=[.tmp 10]) (rs:=[lI r]) Try.func35 rfl rfl rfl rfl (by simp [Try.f35]) fun F hN hP=>?_;unfold Q1t at h;refine Q1 (runQ hN fun K hK=>?_);simp;repeat refine sdQ ?_
 refine hK _ ?_;clear hK K;refine tn (Q4 (st':=⟨[(3,iV z_),(4,.lst true 1 (Ls entries_)),(5,.adr 0 0 0),(6,.adr 1 0 0),(7,.adr 2 0 0)],Y2 m_ f_ g_ [],3⟩) (QF 3) (Q1 (runQ hN fun K hK=>?_)));simp;repeat refine sdQ ?_
 refine hK _ ?_;clear hK K;refine tn (Q4 (st':=⟨Ya z_ entries_ [],Y2 m_ f_ g_ (Yv m_ []),4⟩) (QF 4) (Q1 (runQ hN fun K hK=>?_)));simp;repeat refine sdQ ?_
 refine hK _ ?_;clear hK K;refine tn (Q4 (st':=⟨Ya z_ entries_ [(12,.own 4 0 0)],Y2 m_ f_ g_ (Yv m_ [(4,.mix 1 [])]),5⟩) (QF 5) (Q1 (Q1 (runQ hN fun K hK=>?_))));simp;repeat refine sdQ ?_
 refine hK _ (tn (Q4 (st':=⟨Ya z_ entries_ [(12,.own 4 0 0),(13,iV 0)],Y2 m_ f_ g_ (Yv m_ [(4,.mix 1 [])]),5⟩) (QF 5) ?_));clear hK K;replace ⟨e1,h,h1⟩:=bind_some h;refine Qe (fun b1:List (List Int)=>⟨[(4,.lst true 1 (Ls entries_)),(12,.own 0 0 b1.length)],[(0,.row 1 (Ls b1))],1⟩) (fun b1=>b1=e1) ?_ ?_
 ·refine Q5 (Qn h (fun s366:List (List Int) × Int=>⟨Ya z_ entries_ (Y02 s366 [(13,iV s366.2)]),Y2 m_ f_ g_ (Yv m_ [(4,.row 1 (Ls s366.1))]),5⟩) (Q4c ⟨Ya z_ entries_ [(12,.own 4 0 0),(13,iV 0)],Y2 m_ f_ g_ (Yv m_ [(4,.row 1 (Ls []))]),5⟩ (Wk.nils [] (by simp) (by simp) (by simp [nlA]) (by simp [entN,nlL,nlA,Cat.cells,SF.cells,XMonoidal.cells,UA,U1,IA,I1,LA,L1,BA,B1,EA,E1,E2,eB,eI,eL,Qd _ Q6 _ (fun _=>rfl)]) (by simp)) (QF 5)) ?_);clear h;intro k366 s366 c366 h hk366;refine Q1 (Q1 (runQ hN fun K hK=>?_));simp;repeat refine sdQ ?_
  refine hK _ ?_;clear hK K;refine tn (Q7 rfl (fun g=>?_) fun g=>?_)
  ·have g367:s366.2<(m_.on_.fr.length:Int):=gQ;clear g;replace h:=if_l g367 h;refine Q8 (tn (Q1 ?_));replace ⟨e368,h,h368⟩:=bind_some h;refine Qe (fun b368:List (List Int)=>⟨Ya z_ entries_ [(12,.own 4 0 b368.length),(13,iV s366.2)],Y2 m_ f_ g_ (Yv m_ [(4,.row 1 (Ls b368))]),5⟩) (fun b368=>b368=e368) ?_ ?_
   ·refine Q5 (Q1 (runQ hN fun K hK=>?_));simp;(repeat refine sdQ ?_);refine hK _ (tn (Q4 (st':=⟨Ya z_ entries_ (Y02 s366 [(13,iV s366.2),(14,iV 0)]),Y2 m_ f_ g_ (Yv m_ [(4,.row 1 (Ls s366.1))]),5⟩) (QF 5) (Q5 ?_)));clear hK K;replace ⟨e549,he549,h549⟩:=bind_some h;refine Qn he549 (fun s549:List (List Int) × Int=>⟨Ya z_ entries_ (Y02 s549 [(13,iV s366.2),(14,iV s549.2)]),Y2 m_ f_ g_ (Yv m_ [(4,.row 1 (Ls s549.1))]),5⟩) (QF 5) ?_;intro k549 s549 c549 h hk549;refine Q1 (Q1 (runQ hN fun K hK=>?_));simp;(repeat refine sdQ ?_);refine hK _ ?_;clear hK K;refine tn (Q7 rfl (fun g=>?_) fun g=>?_)
    ·have g550:s549.2<(m_.on_.fr.length:Int):=gQ;clear g;replace h:=if_l g550 h;refine Q8 (tn (Q1 ?_));replace ⟨e551,h,h551⟩:=bind_some h;refine Qe (fun b551:List (List Int)=>⟨Ya z_ entries_ [(12,.own 4 0 b551.length),(13,iV s366.2),(14,iV s549.2)],Y2 m_ f_ g_ (Yv m_ [(4,.row 1 (Ls b551))]),5⟩) (fun b551=>b551=e551) ?_ ?_
     ·refine Q5 (Q1 (Q1 ?_));replace ⟨e552,h,h552⟩:=bind_some h;refine Qe (fun b552:Bool=>⟨Ya z_ entries_ (Y02 s549 [(13,iV s366.2),(14,iV s549.2),(49,.val (.bool b552))]),Y2 m_ f_ g_ (Yv m_ [(4,.row 1 (Ls s549.1))]),5⟩) (fun b552=>b552=e552) ?_ ?_
      ·refine runQ hN fun K hK=>?_;simp;(repeat with_reducible refine sdQ ?_);replace ⟨v553,hv553,h⟩:=bind_some h;refine Q2 (Q4Z _ _ v553 hv553) (.cons (.aggL (.cons .val (.cons .lst (.cons .lst (.cons .lst (.cons .lst .nil)))))) (.cons .val .nil)) ?_;simp;(repeat with_reducible refine sdQ ?_);refine Qo (fun g=>?_) (fun g=>?_)
       ·have g554:¬ (v553=true):=gQ;clear g;replace h:=if_l g554 h;simp;(repeat with_reducible refine sdQ ?_);replace ⟨v555,hv555,h⟩:=bind_some h;refine Q2 (Q4Z _ _ v555 hv555) (.cons (.aggL (.cons .val (.cons .lst (.cons .lst (.cons .lst (.cons .lst .nil)))))) (.cons .val .nil)) ?_;simp;(repeat refine sdQ ?_);refine hK _ ?_;exact jn (b:=!v555) (Option.some.inj h) (QF 5)
       have g554:¬ (¬ (v553=true)):=gQ;clear g;replace h:=if_r g554 h;simp;(repeat refine sdQ ?_);refine hK _ ?_;exact jn (b:=false) (Option.some.inj h) (QF 5)
      intro b552 hb552;have h:=h552;(try rw [← hb552] at h);clear h552;(try dsimp only at h);refine Q7 rfl (fun g=>?_) fun g=>?_
      ·have g556:b552=true:=gQ;clear g;replace h:=if_l g556 h;refine Qg (tx (bh ?_));exact jn (b:=s549.1) (Option.some.inj h) (QF 5)
      have g556:¬ (b552=true):=gQ;clear g;replace h:=if_r g556 h;refine Q8 (tn (Q1 (runQ hN fun K hK=>?_)));replace ⟨a557,h⟩:=Q0 h;replace ⟨a558,h⟩:=Q0 h;simp [at_I a557,at_I a558];(repeat refine sdQ ?_);refine hK _ ?_;clear hK K;refine tn (Q4 (st':=⟨Ya z_ entries_ (Y02 s549 [(13,iV s366.2),(14,iV s549.2),(15,iV (ix m_.on_.fr s366.2)),(16,iV (ix m_.on_.fr s549.2))]),Y2 m_ f_ g_ (Yv m_ [(4,.row 1 (Ls s549.1))]),5⟩) (QF 5) (Q1 (runQ hN fun K hK=>?_)));replace ⟨a559,h⟩:=Q0 h;replace ⟨a560,h⟩:=Q0 h;replace ⟨a561,h⟩:=Q0 h;replace ⟨a562,h⟩:=Q0 h;simp [at_I a559,at_L a560,at_I a561,at_I a562];(repeat with_reducible refine sdQ ?_);replace ⟨v563,hv563,h⟩:=bind_some h;refine Q2 (Q5A _ _ _ v563 hv563) (.cons (.aggL (.cons .val (.cons .lst (.cons .lst (.cons .lst (.cons .lst .nil)))))) (.cons .val (.cons .val .nil))) ?_;simp [at_I a559,at_L a560,at_I a561,at_I a562];(repeat refine sdQ ?_);refine hK _ ?_;clear hK K;refine tn (Q4 (st':=⟨Ya z_ entries_ (Y02 s549 (Yn s366 s549 m_ v563 [])),Y2 m_ f_ g_ (Yv m_ [(4,.row 1 (Ls s549.1)),(5,rI v563)]),6⟩) (QF 6) (Q1 (runQ hN fun K hK=>?_)));simp;(repeat refine sdQ ?_);refine hK _ (tn (Q4 (st':=⟨Ya z_ entries_ (Y02 s549 (Yn s366 s549 m_ v563 [(18,iV 0)])),Y2 m_ f_ g_ (Yv m_ [(4,.row 1 (Ls s549.1)),(5,rI v563)]),6⟩) (QF 6) (Q5 ?_)));clear hK K;replace ⟨e646,he646,h646⟩:=bind_some h;refine Qn he646 (fun s646:List (List Int) × Int=>⟨Ya z_ entries_ (Y02 s646 (Yn s366 s549 m_ v563 [(18,iV s646.2)])),Y2 m_ f_ g_ (Yv m_ [(4,.row 1 (Ls s646.1)),(5,rI v563)]),6⟩) (QF 6) ?_
      intro k646 s646 c646 h hk646;refine Q1 (Q1 (runQ hN fun K hK=>?_));simp;(repeat refine sdQ ?_);refine hK _ ?_;clear hK K;refine tn (Q7 rfl (fun g=>?_) fun g=>?_)
      ·have g647:s646.2<(v563.length:Int):=gQ;clear g;replace h:=if_l g647 h;refine Q8 (tn (Q1 ?_));replace ⟨e648,h,h648⟩:=bind_some h;refine Qe (fun b648:List (List Int)=>⟨Ya z_ entries_ ((12,.own 4 0 b648.length)::Yn s366 s549 m_ v563 [(18,iV s646.2)]),Y2 m_ f_ g_ (Yv m_ [(4,.row 1 (Ls b648)),(5,rI v563)]),6⟩) (fun b648=>b648=e648) ?_ ?_
       ·refine Q5 (Q1 (runQ hN fun K hK=>?_));simp;(repeat refine sdQ ?_);refine hK _ (tn (Q4 (st':=⟨Ya z_ entries_ (Y02 s646 (Yn s366 s549 m_ v563 [(18,iV s646.2),(19,iV 0)])),Y2 m_ f_ g_ (Yv m_ [(4,.row 1 (Ls s646.1)),(5,rI v563)]),6⟩) (QF 6) (Q5 ?_)));clear hK K;replace ⟨e688,he688,h688⟩:=bind_some h;refine Qn he688 (fun s688:List (List Int) × Int=>⟨Ya z_ entries_ (Y02 s688 (Yn s366 s549 m_ v563 [(18,iV s646.2),(19,iV s688.2)])),Y2 m_ f_ g_ (Yv m_ [(4,.row 1 (Ls s688.1)),(5,rI v563)]),6⟩) (QF 6) ?_;intro k688 s688 c688 h hk688;refine Q1 (Q1 (runQ hN fun K hK=>?_));replace ⟨a689,h⟩:=Q0 h;simp [at_I a689];(repeat refine sdQ ?_);refine hK _ ?_;clear hK K;refine tn (Q7 rfl (fun g=>?_) fun g=>?_)
        ·have g690:s688.2<(ix f_.sz (ix m_.on_.fr s366.2)):=gQ;clear g;replace h:=if_l g690 h;refine Q8 (tn (Q1 ?_));replace ⟨e691,h,h691⟩:=bind_some h;refine Qe (fun b691:List (List Int)=>⟨Ya z_ entries_ ((12,.own 4 0 b691.length)::Yn s366 s549 m_ v563 [(18,iV s646.2),(19,iV s688.2)]),Y2 m_ f_ g_ (Yv m_ [(4,.row 1 (Ls b691)),(5,rI v563)]),6⟩) (fun b691=>b691=e691) ?_ ?_
         ·refine Q5 (Q1 (runQ hN fun K hK=>?_));simp;(repeat refine sdQ ?_);refine hK _ (tn (Q4 (st':=⟨Ya z_ entries_ (Y02 s688 (Yn s366 s549 m_ v563 [(18,iV s646.2),(19,iV s688.2),(20,iV 0)])),Y2 m_ f_ g_ (Yv m_ [(4,.row 1 (Ls s688.1)),(5,rI v563)]),6⟩) (QF 6) (Q5 ?_)));clear hK K;replace ⟨e709,he709,h709⟩:=bind_some h;refine Qn he709 (fun s709:List (List Int) × Int=>⟨Ya z_ entries_ (Y02 s709 (Yn s366 s549 m_ v563 [(18,iV s646.2),(19,iV s688.2),(20,iV s709.2)])),Y2 m_ f_ g_ (Yv m_ [(4,.row 1 (Ls s709.1)),(5,rI v563)]),6⟩) (QF 6) ?_;intro k709 s709 c709 h hk709;refine Q1 (Q1 (runQ hN fun K hK=>?_));replace ⟨a710,h⟩:=Q0 h;simp [at_I a710];(repeat refine sdQ ?_);refine hK _ ?_;clear hK K;refine tn (Q7 rfl (fun g=>?_) fun g=>?_)
          ·have g711:s709.2<(ix g_.sz (ix m_.on_.fr s549.2)):=gQ;clear g;replace h:=if_l g711 h;refine Q8 (tn (Q1 (Q5 (Q1 (runQ hN fun K hK=>?_)))));replace ⟨a712,h⟩:=Q0 h;replace ⟨a713,h⟩:=Q0 h;replace ⟨a714,h⟩:=Q0 h;simp [at_L a712,at_I a713,at_I a714];(repeat with_reducible refine sdQ ?_);replace ⟨v715,hv715,h⟩:=bind_some h;refine Q2 (Q4Y _ _ _ v715 hv715) (.cons (.aggL (.cons .val (.cons .lst (.cons .lst (.cons .lst (.cons .lst .nil)))))) (.cons .val (.cons .val .nil))) ?_;simp [at_L a712,at_I a713,at_I a714];(repeat with_reducible refine sdQ ?_);replace ⟨v716,hv716,h⟩:=bind_some h;refine Q2 (Q3z _ _ v716 hv716) (.cons .lst (.cons (.lits (es:=_) rfl (.cons rfl (.cons .val .nil) (.cons rfl (.cons .val .nil) (.cons rfl (.cons .val .nil) (.cons rfl (.cons .val .nil) (.cons rfl (.cons .val .nil) .nil))))) rfl) .nil)) ?_;simp [at_L a712,at_I a713,at_I a714];(repeat refine sdQ ?_);refine hK _ ?_;clear hK K;refine tn (Q4 (st':=⟨Ya z_ entries_ (Y02 s709 (Yn s366 s549 m_ v563 [(18,iV s646.2),(19,iV s688.2),(20,iV s709.2),(21,iV v716)])),Y2 m_ f_ g_ (Yv m_ [(4,.row 1 (Ls s709.1)),(5,rI v563)]),6⟩) (QF 6) (Q1 (runQ hN fun K hK=>?_)));replace ⟨a717,h⟩:=Q0 h;replace ⟨a718,h⟩:=Q0 h;replace ⟨a719,h⟩:=Q0 h;replace ⟨a720,h⟩:=Q0 h;replace ⟨a721,h⟩:=Q0 h;replace ⟨a722,h⟩:=Q0 h;replace ⟨a723,h⟩:=Q0 h;simp [at_I a717,at_I a718,at_I a719,at_L a720,at_I a721,at_L a722,at_I a723];(repeat with_reducible refine sdQ ?_);replace ⟨v724,hv724,h⟩:=bind_some h;refine Q2 (Q3z _ _ v724 hv724) (.cons .lst (.cons (.lits (es:=_) rfl (.cons rfl (.cons .val .nil) (.cons rfl (.cons .val .nil) (.cons rfl (.cons .val .nil) (.cons rfl (.cons .val .nil) (.cons rfl (.cons .val .nil) .nil))))) rfl) .nil)) ?_;simp [at_I a717,at_I a718,at_I a719,at_L a720,at_I a721,at_L a722,at_I a723];(repeat refine sdQ ?_);refine hK _ (tn ?_);clear hK K
           refine Q4 (st':=⟨Ya z_ entries_ (Y02 s709 (Yn s366 s549 m_ v563 [(18,iV s646.2),(19,iV s688.2),(20,iV s709.2),(21,iV v716),(22,iV v724)])),Y2 m_ f_ g_ (Yv m_ [(4,.row 1 (Ls s709.1)),(5,rI v563)]),6⟩) (QF 6) (runQ hN fun K hK=>?_);replace ⟨a725,h⟩:=Q0 h;(try simp only [List.length_append,List.length_cons,List.length_nil] at a725);simp [a725];(repeat refine sdQ ?_);refine hK _ ?_;clear hK K;refine bn (tn (Q4 (st':=⟨Ya z_ entries_ ((12,.own 4 0 ((s709.1++[[v716,v724]]).length))::Yn s366 s549 m_ v563 [(18,iV s646.2),(19,iV s688.2),(20,iV s709.2)]),Y2 m_ f_ g_ (Yv m_ [(4,.row 1 (Ls (s709.1++[[v716,v724]]))),(5,rI v563)]),6⟩) (Q29 [(0,0),(1,1),(2,2),(3,3),(8,4),(5,5)]) (runQ hN fun K hK=>?_)));replace ⟨a726,h⟩:=Q0 h;simp [Qk a726];(repeat refine sdQ ?_);refine hK _ ?_;clear hK K;cases h;exact rn (s':=(s709.1++[[v716,v724]],s709.2+1)) hk709 (QF 6)
          have g711:¬ (s709.2<(ix g_.sz (ix m_.on_.fr s549.2))):=gQ;clear g;replace h:=if_r g711 h;refine Qg (tx (lx (bh (bn ?_))));cases h;have q:_=e709:=hk709;have h:=h709;rw [← q] at h;clear q;(try dsimp only at h);exact jn (b:=s709.1) (Option.some.inj h) (QF 6)
         intro b691 hb691;have h:=h691;(try rw [← hb691] at h);clear h691;(try dsimp only at h);refine runQ hN fun K hK=>?_;replace ⟨a727,h⟩:=Q0 h;simp [Qk a727];(repeat refine sdQ ?_);refine hK _ ?_;clear hK K;cases h;exact rn (s':=(b691,s688.2+1)) hk688 (QF 6)
        have g690:¬ (s688.2<(ix f_.sz (ix m_.on_.fr s366.2))):=gQ;clear g;replace h:=if_r g690 h;refine Qg (tx (lx (bh (bn ?_))));cases h;have q:_=e688:=hk688;have h:=h688;rw [← q] at h;clear q;(try dsimp only at h);exact jn (b:=s688.1) (Option.some.inj h) (QF 6)
       intro b648 hb648;have h:=h648;(try rw [← hb648] at h);clear h648;(try dsimp only at h);refine runQ hN fun K hK=>?_;replace ⟨a728,h⟩:=Q0 h;simp [Qk a728];(repeat refine sdQ ?_);refine hK _ ?_;clear hK K;cases h;exact rn (s':=(b648,s646.2+1)) hk646 (QF 6)
      have g647:¬ (s646.2<(v563.length:Int)):=gQ;clear g;replace h:=if_r g647 h;refine Qg (tx (lx (bh (bn ?_))));cases h;have q:_=e646:=hk646;have h:=h646;rw [← q] at h;clear q;(try dsimp only at h);exact jn (b:=s646.1) (Option.some.inj h) (QF 5)
     intro b551 hb551;have h:=h551;(try rw [← hb551] at h);clear h551;(try dsimp only at h);refine runQ hN fun K hK=>?_;replace ⟨a729,h⟩:=Q0 h;simp [Qk a729];(repeat refine sdQ ?_);refine hK _ ?_;clear hK K;cases h;exact rn (s':=(b551,s549.2+1)) hk549 (QF 5)
    have g550:¬ (s549.2<(m_.on_.fr.length:Int)):=gQ;clear g;replace h:=if_r g550 h;refine Qg (tx (lx (bh (bn ?_))));cases h;have q:_=e549:=hk549;have h:=h549;rw [← q] at h;clear q;(try dsimp only at h);exact jn (b:=s549.1) (Option.some.inj h) (QF 5)
   intro b368 hb368;have h:=h368;(try rw [← hb368] at h);clear h368;(try dsimp only at h);refine runQ hN fun K hK=>?_;replace ⟨a730,h⟩:=Q0 h;simp [Qk a730];(repeat refine sdQ ?_);refine hK _ ?_;clear hK K;cases h;exact rn (s':=(b368,s366.2+1)) hk366 (QF 5)
  have g367:¬ (s366.2<(m_.on_.fr.length:Int)):=gQ;clear g;replace h:=if_r g367 h;refine Qg (tx (lx (bh ?_)));cases h;exact jn (b:=s366.1) hk366 (Q29 [(4,0)])
 intro b1 hb1;have h:=h1;try rw [← hb1] at h
 clear h1;try dsimp only at h
 refine Q1 (runQ hN fun K hK=>?_);simp;repeat with_reducible refine sdQ ?_
 replace ⟨v731,hv731,h⟩:=bind_some h;refine Q2 (Q7r _ _ v731 hv731) (.cons .val (.cons .w .nil)) ?_;simp;repeat refine sdQ ?_
 refine hK _ (tn (Q4 (st':=⟨[(10,.own 0 0 v731.length)],[(0,rI v731)],1⟩) (Q29 [(1,0)]) (Qf ?_)));clear hK K;have hr:=Option.some.inj h;rw [← hr];refine ⟨_,(.tmp .nil),?_⟩;refine ⟨(.one rfl rfl .nil),[lI v731],[0],by simp [Cat.cells,SF.cells,XMonoidal.cells,UA,U1,IA,I1,LA,L1,BA,B1,EA,E1,E2,eB,eI,eL,Qd _ Q6 _ (fun _=>rfl)],by simp,(UpL.refl _)⟩
section
attribute [local simp] Qa Qy Qq QK Qu
section
variable {m:XMonoidal} {f g:SF} (h:DP m f g)
include h
theorem DP.fl {a:Nat} (ha:a<m.on_.fr.length):(a:Int)<(f.ac.length:Int)∧(rx f.ac a).length=fzN f (frN m.on_ a):=by
 obtain ⟨l1,l2,l3,l4,l5,l6⟩:=h.hf.dfact;obtain ⟨f1,f2,f3,f4⟩:=Q1F h.c ha;have F1:=(h.F f2).1;have l2':f.ac.length=m.on_.fr.length:=by rw [l2,h.ef]
 have q:=h.hf.1.len' (j:=(a:Int)) (by omega) (by rw [h.ef];omega);rw [h.ef,f1,F1] at q;omega
theorem DP.gl {a:Nat} (ha:a<m.on_.fr.length):(a:Int)<(g.ac.length:Int)∧(rx g.ac a).length=fzN g (frN m.on_ a):=by
 obtain ⟨l1,l2,l3,l4,l5,l6⟩:=h.hg.dfact;obtain ⟨f1,f2,f3,f4⟩:=Q1F h.c ha;have F1:=(h.G f2).1;have l2':g.ac.length=m.on_.fr.length:=by rw [l2,h.eg]
 have q:=h.hg.1.len' (j:=(a:Int)) (by omega) (by rw [h.eg];omega);rw [h.eg,f1,F1] at q;omega
theorem DP.p1 {z k:Int} {a b:Nat} (hb:b<m.on_.fr.length) (e:Nat):(jE m f g z a b k e).length≤16:=by
 have:=(h.G (Q1F h.c hb).2.1).2.1;simp [jE];omega
theorem DP.p2 {z k:Int} {a b:Nat} (hb:b<m.on_.fr.length) (n:Nat):(ctn (jE m f g z a b k) n).length≤n * 16:=Q2M fun e _=>h.p1 hb e
theorem DP.p3 {z:Int} {a b:Nat} (ha:a<m.on_.fr.length) (hb:b<m.on_.fr.length) (n:Nat):(ctn (jI m f g z a b) n).length≤n * 256:=Q2M fun i _=>by
 have:=h.p2 (z:=z) (k:=ix (hmT m z a b) i) (a:=a) hb (fzN f (frN m.on_ a));have:=(h.F (Q1F h.c ha).2.1).2.1;unfold jI jH;omega
theorem DP.ht (z:Int) (a b:Nat):(hmT m z a b).length≤40:=h.hl _ _ _
theorem DP.p4 {z:Int} {a b:Nat} (ha:a<m.on_.fr.length) (hb:b<m.on_.fr.length):(jB m f g z a b).length≤10240:=by
 have:=h.p3 (z:=z) ha hb (hmT m z a b).length;have:=h.ht z a b;unfold jB;omega
theorem DP.q4 {z:Int} {a:Nat} (ha:a<m.on_.fr.length) {n:Nat} (hn:n≤m.on_.fr.length):(ctn (qB m f g z a) n).length≤n * 10240:=Q2M fun b hb=>by
 have:=h.p4 (z:=z) ha (b:=b) (by omega);unfold qB;split
 ·omega
 simp
theorem DP.q5 {z:Int} {n:Nat} (hn:n≤m.on_.fr.length):(ctn (qA m f g z) n).length≤n * 409600:=Q2M fun a ha=>by
 have:=h.q4 (z:=z) (a:=a) (by omega) (Nat.le_refl _);have:=h.c.nums;unfold qA;omega
theorem e_l35Cls (z:Int) (hN:(dL m f g z).length≤256):Q1t m f g z (dL m f g z)=some (dC m f g z):=by
 have n:=h.c.nums;unfold Q1t;refine QC m.on_.fr.length (fun a=>ctn (qA m f g z) a) (e:=qS m f g z) rfl (by omega) (fun a ha=>?_) (by simp only;rw [if_neg (by omega)];rfl) ?_
 ·obtain ⟨a1,a2,a3,a4⟩:=Q1F h.c ha;have B5:=h.q5 (z:=z) (n:=a) (by omega);simp only;rw [if_pos (by omega),a1,a3,Option.bind_assoc];refine QC m.on_.fr.length (fun b=>ctn (qA m f g z) a++ctn (qB m f g z a) b) (e:=ctn (qA m f g z) (a+1)) (by simp [Q1m]) (by omega) (fun b hb=>?_) (by simp only;rw [if_neg (by omega),QX];rfl) ?_
  ·obtain ⟨b1,b2,b3,b4⟩:=Q1F h.c hb;have B4:=h.q4 (z:=z) ha (n:=b) (by omega);unfold Q2q;simp only;rw [if_pos (by omega),a1,b1,b3,Q3 (by omega),Q3 (by omega)];simp only [Option.bind_some]
   by_cases q:m.Id a∨m.Id b
   case neg =>
    have q1:¬ (ix m.on_.id (frN m.on_ a) == (a:Int))=true:=fun z=>q (.inl (by rw [← a1] at z;simpa [XMonoidal.Id] using z));have q2:(ix m.on_.id (frN m.on_ b) == (b:Int))=false:=by
     cases t:(ix m.on_.id (frN m.on_ b) == (b:Int)) with
     | false=>rfl
     | true=>exact absurd (.inr (by rw [← b1] at t;simpa [XMonoidal.Id] using t)) q
    rw [if_pos q1,Q3 (by omega),Q3 (by omega),q2];simp only [Option.bind_some,Bool.not_false,if_true];rw [Q3 (by unfold B64;omega),QX];have:qB m f g z a b=[]:=(by unfold qB;rw [Qj q];simp);rw [this,List.append_nil]
   have eq:qB m f g z a b=jB m f g z a b:=(by unfold qB;rw [Qm q];simp);have q3:(if ¬ (ix m.on_.id (frN m.on_ a) == (a:Int))=true then (ass (0≤(b:Int)∧(b:Int)<(m.on_.fr.length:Int)) <| ass (0≤(frN m.on_ b:Int)∧(frN m.on_ b:Int)<(m.on_.id.length:Int)) <| some (ix m.on_.id (frN m.on_ b) == (b:Int))).bind (fun v=>some (!v)) else some false)=some false:=by
    by_cases t:m.Id a
    ·have t':=t;unfold XMonoidal.Id at t';rw [a1] at t';rw [if_neg (by simpa using t')]
    rcases q with q|q
    ·exact absurd q t
    unfold XMonoidal.Id at q t;rw [b1] at q;rw [a1] at t;rw [if_pos (by simpa using t),Q3 (by omega),Q3 (by omega),show (ix m.on_.id (frN m.on_ b) == (b:Int))=true by simpa using q];rfl
   rw [q3];simp only [Option.bind_some,Bool.false_eq_true,if_false];have o:=h.hm.pre.ob (f:=toN m.on_ a) (g:=toN m.on_ b) (by omega) (by omega);have H:=h.ht z a b;rw [Q3 (by omega),Q3 (by omega),Q3 (by omega),Q3 (by omega),Q3 (by omega),Q3 (by omega),(Q7G h.c _ _).1,show homL m.on_ (ix (rx m.objects_ (toN m.on_ a)) (toN m.on_ b)) z=hmT m z a b from rfl];simp only [Option.bind_some];rw [Option.bind_assoc];have arr:=h.hm.pre.ar (f:=a) (g:=b) (by omega) (by omega);refine QC (hmT m z a b).length (fun i=>ctn (qA m f g z) a++ctn (qB m f g z a) b++ctn (jI m f g z a b) i) (e:=ctn (qA m f g z) a++ctn (qB m f g z a) (b+1)) (by simp [Q1m]) (by omega) (fun i hi=>?_) (by simp only;rw [if_neg (by omega),QX,eq,List.append_assoc];rfl) ?_
   ·have B3:=h.p3 (z:=z) ha hb i;have hk:Ar m.on_ (ix (hmT m z a b) i) (ix (rx m.objects_ (toN m.on_ a)) (toN m.on_ b)) z:=hm_at hi;have T:=Ar.two h.c (h.tens (h.ar ha) (h.ar hb)) hk;obtain ⟨F1,F2,F3⟩:=h.F a2;obtain ⟨G1,G2,G3⟩:=h.G b2;have fl:=h.fl ha;have gl:=h.gl hb;simp only;rw [if_pos (by omega),Option.bind_assoc];refine QC (fzN f (frN m.on_ a)) (fun e=>ctn (qA m f g z) a++ctn (qB m f g z a) b++ctn (jI m f g z a b) i++ctn (jE m f g z a b (ix (hmT m z a b) i)) e) (e:=ctn (qA m f g z) a++ctn (qB m f g z a) b++ctn (jI m f g z a b) (i+1)) (by simp [Q1m]) (by omega) (fun e he=>?_) (by simp only;rw [Q3 (by omega),if_neg (by omega),QX,List.append_assoc];rfl) ?_
    ·have B2:=h.p2 (z:=z) (k:=ix (hmT m z a b) i) (a:=a) hb e;obtain ⟨fa1,fa2,fa3,fa4⟩:=h.fa ha he;simp only;rw [Q3 (by omega),if_pos (by omega),Option.bind_assoc];refine QC (fzN g (frN m.on_ b)) (fun d=>ctn (qA m f g z) a++ctn (qB m f g z a) b++ctn (jI m f g z a b) i++ctn (jE m f g z a b (ix (hmT m z a b) i)) e++tab d (prD m f g z a b (ix (hmT m z a b) i) e)) (e:=ctn (qA m f g z) a++ctn (qB m f g z a) b++ctn (jI m f g z a b) i++ctn (jE m f g z a b (ix (hmT m z a b) i)) (e+1)) (by simp [Q21]) (by omega) (fun d hd=>?_) (by simp only;rw [Q3 (by omega),if_neg (by omega),QX,List.append_assoc];rfl) ?_
     ·obtain ⟨ga1,ga2,ga3,ga4⟩:=h.ga hb hd;have s1:=(h.ps (h.in1 ha hb hk he hd)).2.1;have s2:=(h.ps (h.in2 ha hb hk he hd)).2.1;unfold dP1 d5 at s1;unfold dP2 d5 at s2;simp only;rw [Q3 (by omega),if_pos (by omega),Q3 (by omega),Q3 (by omega),Q3 (by omega),(Q4E h.c ⟨arr.2.2.1,arr.2.2.2⟩ hk.1).1];simp only [Option.bind_some];rw [e_find (by omega),s1];simp only [Option.bind_some];rw [Q3 (by omega),Q3 (by omega),Q3 (by omega),Q3 (by omega),Q3 (by omega),Q3 (by omega),Q3 (by omega),fa3,ga3,e_find (by omega),s2];simp only [Option.bind_some];rw [Q3 (by simp only [List.length_append,Q1X,List.length_cons,List.length_nil];omega),Q3 (by unfold B64;omega),Q11];simp only [List.append_assoc];rfl
     simp only [Option.bind_some];rw [Q3 (by unfold B64;omega)]
    simp only [Option.bind_some];rw [Q3 (by unfold B64;omega)]
   simp only [Option.bind_some];rw [Q3 (by unfold B64;omega)]
  simp only [Option.bind_some];rw [Q3 (by unfold B64;omega)]
 have B:=h.q5 (z:=z) (Nat.le_refl m.on_.fr.length);have B':(qS m f g z).length≤100000000:=by unfold qS;omega
 rw [e_joinG (h.prsS z) (by omega) B'];rfl
end
end
attribute [local simp] unk unA unE unT unC flat eL eI Qs
noncomputable def Q2u (n_:Int):Option (List Int) :=
 (Q2o n_).bind fun v1 =>
 some v1
theorem Q6D (n_:Int) (r:List Int) (h:Q2u n_=some r):Contract Try.prog 87 [iV n_] (lI r):=by
 refine Qh (rvs:=[.tmp 2]) (rs:=[lI r]) Try.func87 rfl rfl rfl rfl (by simp [Try.f87]) fun F hN hP=>?_;unfold Q2u at h;refine Q1 (runQ hN fun K hK=>?_);simp;repeat refine sdQ ?_
 refine hK _ ?_;clear hK K;refine tn (Q4 (st':=⟨[(0,iV n_)],[],0⟩) (Q29 []) (Q1 (runQ hN fun K hK=>?_)));simp;repeat with_reducible refine sdQ ?_
 replace ⟨v1,hv1,h⟩:=bind_some h;refine Q2 (Q7q _ v1 hv1) (.cons .val .nil) ?_;simp;repeat refine sdQ ?_
 refine hK _ (tn (Q4 (st':=⟨[(2,.own 0 0 v1.length)],[(0,rI v1)],1⟩) (Q29 [(0,0)]) (Qf ?_)));clear hK K;have hr:=Option.some.inj h;rw [← hr];refine ⟨_,(.tmp .nil),?_⟩;refine ⟨(.one rfl rfl .nil),[lI v1],[0],by simp [UA,U1,IA,I1,LA,L1,BA,B1,EA,E1,E2,eB,eI,eL],by simp,(UpL.refl _)⟩
attribute [local simp] unk unA unE unT unC flat eL eI Qs Q1L Q8g Q6 Cat.cells SF.cells XMonoidal.cells
noncomputable def QN (m_:XMonoidal) (f_:SF) (g_:SF) (z_:Int):Option (Unit ⊕ (List (List Int) × (List (ByteArray × Int)) × List Int)) :=
 (Qt (σ:=List (List Int) × Int) (ε:=List (List Int)) (fun s133 =>
  if s133.2<m_.on_.n then
   (
    (Qt (σ:=List (List Int) × Int) (ε:=List (List Int)) (fun s199 =>
     if s199.2<m_.on_.n then
      (
       ass (0≤s133.2∧s133.2<(m_.objects_.length:Int)) <|
       ass (0≤s199.2∧s199.2<((rx m_.objects_ s133.2).length:Int)) <|
       (QJ m_.on_ (ix (rx m_.objects_ s133.2) s199.2) z_).bind fun v204 =>
       (Qt (σ:=List (List Int) × Int) (ε:=List (List Int)) (fun s233 =>
        if s233.2<(v204.length:Int) then
         (
          ass (0≤s233.2∧s233.2<(v204.length:Int)) <|
          ass (0≤s133.2∧s133.2<(f_.sz.length:Int)) <|
          (Qt (σ:=List (List Int) × Int) (ε:=List (List Int)) (fun s249 =>
           if s249.2<(ix f_.sz s133.2) then
            (
             ass (0≤s199.2∧s199.2<(g_.sz.length:Int)) <|
             (Qt (σ:=List (List Int) × Int) (ε:=List (List Int)) (fun s256 =>
              if s256.2<(ix g_.sz s199.2) then
               ass ((s256.1++[[s133.2,s199.2,ix v204 s233.2,s249.2,s256.2]]).length≤1073741824) <|
               ass (B64 (s256.2+1)) <|
               some (Ctl.next (s256.1++[[s133.2,s199.2,ix v204 s233.2,s249.2,s256.2]],s256.2+1))
              else
               some (Ctl.ret s256.1)) fuel (s249.1,0)).bind fun p256 =>
             some p256:Option (List (List Int))).bind fun b251 =>
            ass (B64 (s249.2+1)) <|
            some (Ctl.next (b251,s249.2+1))
           else
            some (Ctl.ret s249.1)) fuel (s233.1,0)).bind fun p249 =>
          some p249:Option (List (List Int))).bind fun b235 =>
         ass (B64 (s233.2+1)) <|
         some (Ctl.next (b235,s233.2+1))
        else
         some (Ctl.ret s233.1)) fuel (s199.1,0)).bind fun p233 =>
       some p233:Option (List (List Int))).bind fun b201 =>
      ass (B64 (s199.2+1)) <|
      some (Ctl.next (b201,s199.2+1))
     else
      some (Ctl.ret s199.1)) fuel (s133.1,0)).bind fun p199 =>
    some p199:Option (List (List Int))).bind fun b135 =>
   ass (B64 (s133.2+1)) <|
   some (Ctl.next (b135,s133.2+1))
  else
   some (Ctl.ret s133.1)) fuel ([],0)).bind fun b2 =>
 if (b2.length:Int) > 256 then
  some (Sum.inl ())
 else
  (Q2I b2).bind fun v265 =>
  (Q2u (b2.length:Int)).bind fun v266 =>
  (Qt (σ:=List Int × Int) (ε:=List Int) (fun s1194 =>
   if s1194.2<(m_.on_.fr.length:Int) then
    (
     (Qt (σ:=List Int × Int) (ε:=List Int) (fun s1658 =>
      if s1658.2<(m_.on_.fr.length:Int) then
       (
        ass (0≤s1194.2∧s1194.2<(m_.on_.to.length:Int)) <|
        ass (0≤ix m_.on_.to s1194.2∧ix m_.on_.to s1194.2<(m_.objects_.length:Int)) <|
        ass (0≤s1658.2∧s1658.2<(m_.on_.to.length:Int)) <|
        ass (0≤ix m_.on_.to s1658.2∧ix m_.on_.to s1658.2<((rx m_.objects_ (ix m_.on_.to s1194.2)).length:Int)) <|
        (QJ m_.on_ (ix (rx m_.objects_ (ix m_.on_.to s1194.2)) (ix m_.on_.to s1658.2)) z_).bind fun v1665 =>
        (Qt (σ:=List Int × Int) (ε:=List Int) (fun s1892 =>
         if s1892.2<(v1665.length:Int) then
          (
           ass (0≤s1892.2∧s1892.2<(v1665.length:Int)) <|
           ass (0≤s1194.2∧s1194.2<(f_.ac.length:Int)) <|
           (Qt (σ:=List Int × Int) (ε:=List Int) (fun s2007 =>
            if s2007.2<((rx f_.ac s1194.2).length:Int) then
             (
              ass (0≤s2007.2∧s2007.2<((rx f_.ac s1194.2).length:Int)) <|
              ass (0≤s1658.2∧s1658.2<(g_.ac.length:Int)) <|
              (Qt (σ:=List Int × Int) (ε:=List Int) (fun s2064 =>
               if s2064.2<((rx g_.ac s1658.2).length:Int) then
                ass (0≤s2064.2∧s2064.2<((rx g_.ac s1658.2).length:Int)) <|
                ass (0≤s1194.2∧s1194.2<(m_.on_.fr.length:Int)) <|
                ass (0≤s1658.2∧s1658.2<(m_.on_.fr.length:Int)) <|
                ass (0≤s1194.2∧s1194.2<(m_.arrows_.length:Int)) <|
                ass (0≤s1658.2∧s1658.2<((rx m_.arrows_ s1194.2).length:Int)) <|
                (Qx m_.on_ (ix (rx m_.arrows_ s1194.2) s1658.2) (ix v1665 s1892.2)).bind fun v2071 =>
                (Q3d [[ix m_.on_.fr s1194.2,ix m_.on_.fr s1658.2,v2071,s2007.2,s2064.2]]).bind fun v2072 =>
                ass (0≤s1194.2∧s1194.2<(m_.on_.to.length:Int)) <|
                ass (0≤s1658.2∧s1658.2<(m_.on_.to.length:Int)) <|
                (Q3d [[ix m_.on_.to s1194.2,ix m_.on_.to s1658.2,ix v1665 s1892.2,ix (rx f_.ac s1194.2) s2007.2,ix (rx g_.ac s1658.2) s2064.2]]).bind fun v2075 =>
                (
                 (
                  (Qt (σ:=List Int × Int) (ε:=List Int × Int) (fun s2086 =>
                   ass (0≤s2086.2∧s2086.2<(s2086.1.length:Int)) <|
                   if ¬ ((ix s2086.1 s2086.2)=s2086.2) then
                    ass (0≤s2086.2∧s2086.2<(s2086.1.length:Int)) <|
                    ass (0≤ix s2086.1 s2086.2∧ix s2086.1 s2086.2<(s2086.1.length:Int)) <|
                    ass (0≤s2086.2∧s2086.2<(s2086.1.length:Int)) <|
                    ass (0≤s2086.2∧s2086.2<((s2086.1.set s2086.2.toNat (ix s2086.1 (ix s2086.1 s2086.2))).length:Int)) <|
                    some (Ctl.next (s2086.1.set s2086.2.toNat (ix s2086.1 (ix s2086.1 s2086.2)),ix (s2086.1.set s2086.2.toNat (ix s2086.1 (ix s2086.1 s2086.2))) s2086.2))
                   else
                    some (Ctl.ret (s2086.1,s2086.2))) fuel (s2064.1,(QW v2072 v265).getD 0)).bind fun b2078 =>
                  some (b2078.1,b2078.2):Option (List Int × Int)).bind fun v2093 =>
                 ass (v2093.1.length=s2064.1.length) <|
                 (
                  (Qt (σ:=List Int × Int) (ε:=List Int × Int) (fun s2104 =>
                   ass (0≤s2104.2∧s2104.2<(s2104.1.length:Int)) <|
                   if ¬ ((ix s2104.1 s2104.2)=s2104.2) then
                    ass (0≤s2104.2∧s2104.2<(s2104.1.length:Int)) <|
                    ass (0≤ix s2104.1 s2104.2∧ix s2104.1 s2104.2<(s2104.1.length:Int)) <|
                    ass (0≤s2104.2∧s2104.2<(s2104.1.length:Int)) <|
                    ass (0≤s2104.2∧s2104.2<((s2104.1.set s2104.2.toNat (ix s2104.1 (ix s2104.1 s2104.2))).length:Int)) <|
                    some (Ctl.next (s2104.1.set s2104.2.toNat (ix s2104.1 (ix s2104.1 s2104.2)),ix (s2104.1.set s2104.2.toNat (ix s2104.1 (ix s2104.1 s2104.2))) s2104.2))
                   else
                    some (Ctl.ret (s2104.1,s2104.2))) fuel (v2093.1,(QW v2075 v265).getD 0)).bind fun b2096 =>
                  some (b2096.1,b2096.2):Option (List Int × Int)).bind fun v2111 =>
                 ass (v2111.1.length=v2093.1.length) <|
                 ass (0≤(if v2111.2 > v2093.2 then v2111.2 else v2093.2)∧(if v2111.2 > v2093.2 then v2111.2 else v2093.2)<(v2111.1.length:Int)) <|
                 some (v2111.1.set ((if v2111.2 > v2093.2 then v2111.2 else v2093.2).toNat) (if v2111.2<v2093.2 then v2111.2 else v2093.2),v2093.2 != v2111.2):Option (List Int × Bool)).bind fun v2114 =>
                ass (v2114.1.length=s2064.1.length) <|
                ass (B64 (s2064.2+1)) <|
                some (Ctl.next (v2114.1,s2064.2+1))
               else
                some (Ctl.ret s2064.1)) fuel (s2007.1,0)).bind fun p2064 =>
              some p2064:Option (List Int)).bind fun b2009 =>
             ass (B64 (s2007.2+1)) <|
             some (Ctl.next (b2009,s2007.2+1))
            else
             some (Ctl.ret s2007.1)) fuel (s1892.1,0)).bind fun p2007 =>
           some p2007:Option (List Int)).bind fun b1894 =>
          ass (B64 (s1892.2+1)) <|
          some (Ctl.next (b1894,s1892.2+1))
         else
          some (Ctl.ret s1892.1)) fuel (s1658.1,0)).bind fun p1892 =>
        some p1892:Option (List Int)).bind fun b1660 =>
       ass (B64 (s1658.2+1)) <|
       some (Ctl.next (b1660,s1658.2+1))
      else
       some (Ctl.ret s1658.1)) fuel (s1194.1,0)).bind fun p1658 =>
     some p1658:Option (List Int)).bind fun b1196 =>
    ass (B64 (s1194.2+1)) <|
    some (Ctl.next (b1196,s1194.2+1))
   else
    some (Ctl.ret s1194.1)) fuel (v266,0)).bind fun b267 =>
  (
   ass (0≤(b267.length:Int)∧(b267.length:Int)≤1073741824) <|
   (Qt (σ:=List Int × List Int × Int) (ε:=List Int × List Int) (fun s2145 =>
    if s2145.2.2<(b267.length:Int) then
     (
      (Qt (σ:=List Int × Int) (ε:=List Int × Int) (fun s2156 =>
       ass (0≤s2156.2∧s2156.2<(s2156.1.length:Int)) <|
       if ¬ ((ix s2156.1 s2156.2)=s2156.2) then
        ass (0≤s2156.2∧s2156.2<(s2156.1.length:Int)) <|
        ass (0≤ix s2156.1 s2156.2∧ix s2156.1 s2156.2<(s2156.1.length:Int)) <|
        ass (0≤s2156.2∧s2156.2<(s2156.1.length:Int)) <|
        ass (0≤s2156.2∧s2156.2<((s2156.1.set s2156.2.toNat (ix s2156.1 (ix s2156.1 s2156.2))).length:Int)) <|
        some (Ctl.next (s2156.1.set s2156.2.toNat (ix s2156.1 (ix s2156.1 s2156.2)),ix (s2156.1.set s2156.2.toNat (ix s2156.1 (ix s2156.1 s2156.2))) s2156.2))
       else
        some (Ctl.ret (s2156.1,s2156.2))) fuel (s2145.1,s2145.2.2)).bind fun b2148 =>
      some (b2148.1,b2148.2):Option (List Int × Int)).bind fun v2163 =>
     ass (v2163.1.length=s2145.1.length) <|
     ass (0≤s2145.2.2∧s2145.2.2<(s2145.2.1.length:Int)) <|
     ass (B64 (s2145.2.2+1)) <|
     some (Ctl.next (v2163.1,s2145.2.1.set s2145.2.2.toNat v2163.2,s2145.2.2+1))
    else
     some (Ctl.ret (s2145.1,s2145.2.1))) fuel (b267,List.replicate ((b267.length:Int).toNat) 0,0)).bind fun b2123 =>
   (Q2H b2123.2).bind fun v2167 =>
   some (b2123.1,v2167):Option (List Int × List Int)).bind fun v2168 =>
  ass (v2168.1.length=b267.length) <|
  some (Sum.inr (b2,v265,v2168.2))
@[simp] abbrev Y1 (a:XMonoidal) (b c:SF) (d:Int) (e:List (Nat × AV)):List (Nat × AV):=(0,.rptr (XMonoidal.cells true a))::(1,.rptr (SF.cells true b))::(2,.rptr (SF.cells true c))::(3,iV d)::(10,.rptr (XMonoidal.cells true a))::(11,.adr 0 0 0)::e
@[simp] abbrev Y4 (a:XMonoidal) (b c:List Int × Int) (d:Int) (e f:List Int × Int) (g:List Int) (h:List Int × Int) (i j:SF) (k:List (Nat × Ent)):List (Nat × Ent):=(3,.mix 1 [[iV (ix a.on_.fr b.2)],[iV (ix a.on_.fr c.2)],[iV d],[iV e.2],[iV f.2]])::(4,rI g)::(5,.mix 1 [[.own 3 0 5]])::(7,.mix 1 [[iV (ix a.on_.to b.2)],[iV (ix a.on_.to c.2)],[iV (ix g h.2)],[iV (ix (rx i.ac b.2) e.2)],[iV (ix (rx j.ac c.2) f.2)]])::(8,.mix 1 [[.own 7 0 5]])::k
@[simp] abbrev Y5 (a:List (List Int)) (b:List (ByteArray × Int)) (c:List (Nat × Ent)):List (Nat × Ent):=(0,.mix 3 [[.own 1 0 a.length,.cmap .str (Msi b),nS]])::(1,.row 1 (Ls a))::c
@[simp] abbrev Yg (a:XMonoidal) (b c:List Int × Int) (d:List Int) (e:List Int × Int) (f:SF) (g:List (Nat × AV)):List (Nat × AV):=(129,iV (a.on_.fr.length:Int))::(130,iV b.2)::(137,iV (a.on_.fr.length:Int))::(138,iV c.2)::(165,.own 3 0 d.length)::(166,iV (d.length:Int))::(167,iV e.2)::(177,lI (rx f.ac b.2))::(178,iV ((rx f.ac b.2).length:Int))::g
@[simp] abbrev Ym (a:XMonoidal) (b c:List (List Int) × Int) (d:List Int) (e:List (Nat × AV)):List (Nat × AV):=(36,iV a.on_.n)::(37,iV b.2)::(43,iV a.on_.n)::(44,iV c.2)::(59,.own 2 0 d.length)::(60,iV (d.length:Int))::e
@[simp] abbrev Yp (a:List (List Int) × Int) (b:List (Nat × Ent)):List (Nat × Ent):=(0,.mix 3 [[.own 1 0 a.1.length,.val (.map none),nS]])::(1,.row 1 (Ls a.1))::b
@[simp] abbrev Yy (a:XMonoidal) (b:List Int × Int) (c:List (Nat × AV)):List (Nat × AV):=(129,iV (a.on_.fr.length:Int))::(130,iV b.2)::(137,iV (a.on_.fr.length:Int))::c
@[simp] abbrev YM (a:List (List Int)) (b:List (Nat × Ent)):List (Nat × Ent):=(0,.mix 3 [[.own 1 0 a.length,.val (.map none),nS]])::(1,.row 1 (Ls a))::b
@[simp] abbrev YQ (a b:List Int × Int) (c:List Int) (d e:List Int × Int) (f:SF) (g:List (Nat × AV)):List (Nat × AV):=(19,iV a.2)::(20,iV b.2)::(22,iV (ix c d.2))::(23,iV e.2)::(24,iV (ix (rx f.ac a.2) e.2))::g
@[simp] abbrev YW (a:List Int × Int) (b:SF) (c:List Int × Int) (d:List (Nat × AV)):List (Nat × AV):=(179,iV a.2)::(190,lI (rx b.ac c.2))::(191,iV ((rx b.ac c.2).length:Int))::d
@[simp] abbrev Y01 (a:List Int × Int) (b:List (Nat × AV)):List (Nat × AV):=(18,.own 2 0 a.1.length)::b
@[simp] abbrev Y06 (a:List Int × Int) (b:List (Nat × AV)):List (Nat × AV):=(0,.own 2 0 ((a.1.set a.2.toNat (ix a.1 (ix a.1 a.2))).length))::(1,iV a.2)::b
theorem Q3h (m_:XMonoidal) (f_:SF) (g_:SF) (z_:Int) (v2170:Unit ⊕ (List (List Int) × (List (ByteArray × Int)) × List Int)) (h:QN m_ f_ g_ z_=some v2170):ICon Try.prog 45 [.rptr (m_.cells true),.rptr (f_.cells true),.rptr (g_.cells true),iV z_] (fun _=>none) 0 (match v2170 with|.inl v2170=>({ v:=.tup [.val (.pointer none),.val (.bool false)],set:=[],del:=[],new:=[],cnt:=0 }:Eff)|.inr v2170=>({ v:=.tup [.adr 0 0 0,.val (.bool true)],set:=[],del:=[],new:=[(0,.mix 3 [[.own 1 0 v2170.1.length,.cmap .str (Msi v2170.2.1),.own 2 0 v2170.2.2.length]]),(1,.row 1 (Ls v2170.1)),(2,rI v2170.2.2)],cnt:=3 }:Eff)):=by
 refine Q1T (ts:=[8,9]) (H:=[]) Try.func45 rfl rfl rfl (by simp [Try.f45]) (by simp) (Q6Q (by rcases v2170 with v2170|v2170<;>simp)) (newI (by rcases v2170 with v2170|v2170<;>rfl)) fun F hN hP=>?_;unfold QN at h;refine Q1 (Ql [] mo (by rw [hN];decide) fun K hK=>?_);simp;repeat refine sdQ ?_
 refine hK _ ?_;clear hK K;refine tn (Q4 (st':=⟨[(0,.rptr (XMonoidal.cells true m_)),(1,.rptr (SF.cells true f_)),(2,.rptr (SF.cells true g_)),(3,iV z_)],[],0⟩) (Q29 []) (Q1 (Ql [] mo (by rw [hN];decide) fun K hK=>?_)));simp;repeat refine sdQ ?_
 refine hK _ ?_;clear hK K;refine tn (Q4 (st':=⟨[(0,.rptr (XMonoidal.cells true m_)),(1,.rptr (SF.cells true f_)),(2,.rptr (SF.cells true g_)),(3,iV z_),(10,.rptr (XMonoidal.cells true m_))],[],0⟩) (Q29 []) (Q1 (Ql [] mo (by rw [hN];decide) fun K hK=>?_)));simp;repeat refine sdQ ?_
 refine hK _ ?_;clear hK K;refine tn (Q4 (st':=⟨Y1 m_ f_ g_ z_ [],[(0,.mix 3 [[nS,.val (.map none),nS]])],1⟩) (Q29 [(0,0)]) (Q1 (Q1 (Ql [] mo (by rw [hN];decide) fun K hK=>?_))));simp;repeat refine sdQ ?_
 refine hK _ (tn (Q4 (st':=⟨Y1 m_ f_ g_ z_ [(36,iV m_.on_.n),(37,iV 0)],[(0,.mix 3 [[nS,.val (.map none),nS]])],1⟩) (Q29 [(0,0)]) ?_));clear hK K;replace ⟨e2,h,h2⟩:=bind_some h;refine Qe (fun b2:List (List Int)=>⟨Y1 m_ f_ g_ z_ [],YM b2 [],2⟩) (fun b2=>b2=e2) ?_ ?_
 ·refine Q5 (Qn h (fun s133:List (List Int) × Int=>⟨Y1 m_ f_ g_ z_ [(36,iV m_.on_.n),(37,iV s133.2)],Yp s133 [],2⟩) (Q4c ⟨Y1 m_ f_ g_ z_ [(36,iV m_.on_.n),(37,iV 0)],[(0,.mix 3 [[.own 1 0 0,.val (.map none),nS]]),(1,.row 1 (Ls []))],2⟩ (Wk.nils [(1,1)] (by simp) (by simp) (by simp [nlA]) (by simp [entN,nlL,nlA,Cat.cells,SF.cells,XMonoidal.cells,UA,U1,IA,I1,LA,L1,BA,B1,EA,E1,E2,eB,eI,eL,Qd _ Q6 _ (fun _=>rfl)]) (by simp)) (Q29 [(0,0),(1,1)])) ?_);clear h;intro k133 s133 c133 h hk133;refine Q1 (Ql [] mo (by rw [hN];decide) fun K hK=>?_);simp;repeat refine sdQ ?_
  refine hK _ ?_;clear hK K;refine tn (Q1 (Q7 rfl (fun g=>?_) fun g=>?_))
  ·have g134:s133.2<m_.on_.n:=gQ;clear g;replace h:=if_l g134 h;refine Q8 (tn (Q1 ?_));replace ⟨e135,h,h135⟩:=bind_some h;refine Qe (fun b135:List (List Int)=>⟨Y1 m_ f_ g_ z_ [(36,iV m_.on_.n),(37,iV s133.2)],YM b135 [],2⟩) (fun b135=>b135=e135) ?_ ?_
   ·refine Q5 (Q1 (Ql [] mo (by rw [hN];decide) fun K hK=>?_));simp;(repeat refine sdQ ?_);refine hK _ ?_;clear hK K;refine tn (Q4 (st':=⟨Y1 m_ f_ g_ z_ [(12,iV s133.2),(36,iV m_.on_.n),(37,iV s133.2)],Yp s133 [],2⟩) (Q29 [(0,0),(1,1)]) (Q1 (Ql [] mo (by rw [hN];decide) fun K hK=>?_)));simp;(repeat refine sdQ ?_);refine hK _ (tn (Q4 (st':=⟨Y1 m_ f_ g_ z_ [(12,iV s133.2),(36,iV m_.on_.n),(37,iV s133.2),(43,iV m_.on_.n),(44,iV 0)],Yp s133 [],2⟩) (Q29 [(0,0),(1,1)]) (Q5 ?_)));clear hK K;replace ⟨e199,he199,h199⟩:=bind_some h;refine Qn he199 (fun s199:List (List Int) × Int=>⟨Y1 m_ f_ g_ z_ [(12,iV s133.2),(36,iV m_.on_.n),(37,iV s133.2),(43,iV m_.on_.n),(44,iV s199.2)],Yp s199 [],2⟩) (Q29 [(0,0),(1,1)]) ?_;intro k199 s199 c199 h hk199;refine Q1 (Ql [] mo (by rw [hN];decide) fun K hK=>?_);simp;(repeat refine sdQ ?_);refine hK _ ?_;clear hK K;refine tn (Q1 (Q7 rfl (fun g=>?_) fun g=>?_))
    ·have g200:s199.2<m_.on_.n:=gQ;clear g;replace h:=if_l g200 h;refine Q8 (tn (Q1 ?_));replace ⟨e201,h,h201⟩:=bind_some h;refine Qe (fun b201:List (List Int)=>⟨Y1 m_ f_ g_ z_ [(12,iV s133.2),(36,iV m_.on_.n),(37,iV s133.2),(43,iV m_.on_.n),(44,iV s199.2)],YM b201 [],2⟩) (fun b201=>b201=e201) ?_ ?_
     ·refine Q5 (Q1 (Ql [] mo (by rw [hN];decide) fun K hK=>?_));simp;(repeat refine sdQ ?_);refine hK _ ?_;clear hK K;refine tn (Q4 (st':=⟨Y1 m_ f_ g_ z_ [(12,iV s133.2),(13,iV s199.2),(36,iV m_.on_.n),(37,iV s133.2),(43,iV m_.on_.n),(44,iV s199.2)],Yp s199 [],2⟩) (Q29 [(0,0),(1,1)]) (Q1 (Ql [] mo (by rw [hN];decide) fun K hK=>?_)));replace ⟨a202,h⟩:=Q0 h;replace ⟨a203,h⟩:=Q0 h;simp [at_L a202,at_I a203];(repeat with_reducible refine sdQ ?_);replace ⟨v204,hv204,h⟩:=bind_some h;refine Q13 (fz:=[]) (Q32 _ _ _ v204 hv204) (.cons (.preT (by simp [Cat.cells,SF.cells,XMonoidal.cells])) (.cons .val (.cons .val .nil))) ?_;simp [at_L a202,at_I a203];(repeat refine sdQ ?_);refine hK _ (tn (Q4 (st':=⟨Y1 m_ f_ g_ z_ ((12,iV s133.2)::(13,iV s199.2)::Ym m_ s133 s199 v204 [(61,iV 0)]),Yp s199 [(2,rI v204)],3⟩) (QF 3) (Q5 ?_)));clear hK K;replace ⟨e233,he233,h233⟩:=bind_some h;refine Qn he233 (fun s233:List (List Int) × Int=>⟨Y1 m_ f_ g_ z_ ((12,iV s133.2)::(13,iV s199.2)::Ym m_ s133 s199 v204 [(61,iV s233.2)]),Yp s233 [(2,rI v204)],3⟩) (QF 3) ?_;intro k233 s233 c233 h hk233;refine Q1 (Ql [] mo (by rw [hN];decide) fun K hK=>?_);simp;(repeat refine sdQ ?_);refine hK _ ?_;clear hK K;refine tn (Q1 (Q7 rfl (fun g=>?_) fun g=>?_))
      ·have g234:s233.2<(v204.length:Int):=gQ;clear g;replace h:=if_l g234 h;refine Q8 (tn (Q1 ?_));replace ⟨e235,h,h235⟩:=bind_some h;refine Qe (fun b235:List (List Int)=>⟨Y1 m_ f_ g_ z_ ((12,iV s133.2)::(13,iV s199.2)::Ym m_ s133 s199 v204 [(61,iV s233.2)]),YM b235 [(2,rI v204)],3⟩) (fun b235=>b235=e235) ?_ ?_
       ·refine Q5 (Q1 (Ql [] mo (by rw [hN];decide) fun K hK=>?_));replace ⟨a236,h⟩:=Q0 h;simp [at_I a236];(repeat refine sdQ ?_);refine hK _ ?_;clear hK K;refine tn (Q4 (st':=⟨Y1 m_ f_ g_ z_ ((12,iV s133.2)::(13,iV s199.2)::(15,iV (ix v204 s233.2))::Ym m_ s133 s199 v204 [(61,iV s233.2)]),Yp s233 [(2,rI v204)],3⟩) (QF 3) (Q1 (Ql [] mo (by rw [hN];decide) fun K hK=>?_)));replace ⟨a237,h⟩:=Q0 h;simp [at_I a237];(repeat refine sdQ ?_);refine hK _ (tn (Q4 (st':=⟨Y1 m_ f_ g_ z_ ((12,iV s133.2)::(13,iV s199.2)::(15,iV (ix v204 s233.2))::Ym m_ s133 s199 v204 [(61,iV s233.2),(71,iV (ix f_.sz s133.2)),(72,iV 0)]),Yp s233 [(2,rI v204)],3⟩) (QF 3) (Q5 ?_)));clear hK K;replace ⟨e249,he249,h249⟩:=bind_some h;refine Qn he249 (fun s249:List (List Int) × Int=>⟨Y1 m_ f_ g_ z_ ((12,iV s133.2)::(13,iV s199.2)::(15,iV (ix v204 s233.2))::Ym m_ s133 s199 v204 [(61,iV s233.2),(71,iV (ix f_.sz s133.2)),(72,iV s249.2)]),Yp s249 [(2,rI v204)],3⟩) (QF 3) ?_;intro k249 s249 c249 h hk249;refine Q1 (Ql [] mo (by rw [hN];decide) fun K hK=>?_);simp;(repeat refine sdQ ?_);refine hK _ ?_;clear hK K;refine tn (Q1 (Q7 rfl (fun g=>?_) fun g=>?_))
        ·have g250:s249.2<(ix f_.sz s133.2):=gQ;clear g;replace h:=if_l g250 h;refine Q8 (tn (Q1 ?_));replace ⟨e251,h,h251⟩:=bind_some h;refine Qe (fun b251:List (List Int)=>⟨Y1 m_ f_ g_ z_ ((12,iV s133.2)::(13,iV s199.2)::(15,iV (ix v204 s233.2))::Ym m_ s133 s199 v204 [(61,iV s233.2),(71,iV (ix f_.sz s133.2)),(72,iV s249.2)]),YM b251 [(2,rI v204)],3⟩) (fun b251=>b251=e251) ?_ ?_
         ·refine Q5 (Q1 (Ql [] mo (by rw [hN];decide) fun K hK=>?_));simp;(repeat refine sdQ ?_);refine hK _ ?_;clear hK K;refine tn (Q4 (st':=⟨Y1 m_ f_ g_ z_ ((12,iV s133.2)::(13,iV s199.2)::(15,iV (ix v204 s233.2))::(16,iV s249.2)::Ym m_ s133 s199 v204 [(61,iV s233.2),(71,iV (ix f_.sz s133.2)),(72,iV s249.2)]),Yp s249 [(2,rI v204)],3⟩) (QF 3) (Q1 (Ql [] mo (by rw [hN];decide) fun K hK=>?_)));replace ⟨a252,h⟩:=Q0 h;simp [at_I a252];(repeat refine sdQ ?_);refine hK _ (tn (Q4 (st':=⟨Y1 m_ f_ g_ z_ ((12,iV s133.2)::(13,iV s199.2)::(15,iV (ix v204 s233.2))::(16,iV s249.2)::Ym m_ s133 s199 v204 [(61,iV s233.2),(71,iV (ix f_.sz s133.2)),(72,iV s249.2),(81,iV (ix g_.sz s199.2)),(82,iV 0)]),Yp s249 [(2,rI v204)],3⟩) (QF 3) (Q5 ?_)));clear hK K;replace ⟨e256,he256,h256⟩:=bind_some h;refine Qn he256 (fun s256:List (List Int) × Int=>⟨Y1 m_ f_ g_ z_ ((12,iV s133.2)::(13,iV s199.2)::(15,iV (ix v204 s233.2))::(16,iV s249.2)::Ym m_ s133 s199 v204 [(61,iV s233.2),(71,iV (ix f_.sz s133.2)),(72,iV s249.2),(81,iV (ix g_.sz s199.2)),(82,iV s256.2)]),Yp s256 [(2,rI v204)],3⟩) (QF 3) ?_;intro k256 s256 c256 h hk256;refine Q1 (Ql [] mo (by rw [hN];decide) fun K hK=>?_);simp;(repeat refine sdQ ?_);refine hK _ ?_;clear hK K;refine tn (Q1 (Q7 rfl (fun g=>?_) fun g=>?_))
          ·have g257:s256.2<(ix g_.sz s199.2):=gQ;clear g;replace h:=if_l g257 h;refine Q8 (tn (Q1 (Q5 (Q1 (Ql [] mo (by rw [hN];decide) fun K hK=>?_)))));simp;(repeat refine sdQ ?_);refine hK _ ?_;clear hK K;refine tn (Q4 (st':=⟨Y1 m_ f_ g_ z_ ((12,iV s133.2)::(13,iV s199.2)::(15,iV (ix v204 s233.2))::(16,iV s249.2)::(17,iV s256.2)::Ym m_ s133 s199 v204 [(61,iV s233.2),(71,iV (ix f_.sz s133.2)),(72,iV s249.2),(81,iV (ix g_.sz s199.2)),(82,iV s256.2)]),Yp s256 [(2,rI v204)],3⟩) (QF 3) (Ql [] mo (by rw [hN];decide) fun K hK=>?_));replace ⟨a258,h⟩:=Q0 h;(try simp only [List.length_append,List.length_cons,List.length_nil] at a258);simp [a258];(repeat refine sdQ ?_);refine hK _ ?_;clear hK K;refine bn (tn (Q4 (st':=⟨Y1 m_ f_ g_ z_ ((12,iV s133.2)::(13,iV s199.2)::(15,iV (ix v204 s233.2))::(16,iV s249.2)::Ym m_ s133 s199 v204 [(61,iV s233.2),(71,iV (ix f_.sz s133.2)),(72,iV s249.2),(81,iV (ix g_.sz s199.2)),(82,iV s256.2)]),[(0,.mix 3 [[.own 1 0 ((s256.1++[[s133.2,s199.2,ix v204 s233.2,s249.2,s256.2]]).length),.val (.map none),nS]]),(1,.row 1 (Ls (s256.1++[[s133.2,s199.2,ix v204 s233.2,s249.2,s256.2]]))),(2,rI v204)],3⟩) (Q29 [(0,0),(5,1),(2,2)]) (Ql [] mo (by rw [hN];decide) fun K hK=>?_)));replace ⟨a259,h⟩:=Q0 h;simp [Qk a259];(repeat refine sdQ ?_);refine hK _ ?_;clear hK K;cases h;exact rn (s':=(s256.1++[[s133.2,s199.2,ix v204 s233.2,s249.2,s256.2]],s256.2+1)) hk256 (QF 3)
          have g257:¬ (s256.2<(ix g_.sz s199.2)):=gQ;clear g;replace h:=if_r g257 h;refine Qg (tx (lx (bh (bn ?_))));cases h;have q:_=e256:=hk256;have h:=h256;rw [← q] at h;clear q;(try dsimp only at h);exact jn (b:=s256.1) (Option.some.inj h) (QF 3)
         intro b251 hb251;have h:=h251;(try rw [← hb251] at h);clear h251;(try dsimp only at h);refine Ql [] mo (by rw [hN];decide) fun K hK=>?_;replace ⟨a260,h⟩:=Q0 h;simp [Qk a260];(repeat refine sdQ ?_);refine hK _ ?_;clear hK K;cases h;exact rn (s':=(b251,s249.2+1)) hk249 (QF 3)
        have g250:¬ (s249.2<(ix f_.sz s133.2)):=gQ;clear g;replace h:=if_r g250 h;refine Qg (tx (lx (bh (bn ?_))));cases h;have q:_=e249:=hk249;have h:=h249;rw [← q] at h;clear q;(try dsimp only at h);exact jn (b:=s249.1) (Option.some.inj h) (QF 3)
       intro b235 hb235;have h:=h235;(try rw [← hb235] at h);clear h235;(try dsimp only at h);refine Ql [] mo (by rw [hN];decide) fun K hK=>?_;replace ⟨a261,h⟩:=Q0 h;simp [Qk a261];(repeat refine sdQ ?_);refine hK _ ?_;clear hK K;cases h;exact rn (s':=(b235,s233.2+1)) hk233 (QF 3)
      have g234:¬ (s233.2<(v204.length:Int)):=gQ;clear g;replace h:=if_r g234 h;refine Qg (tx (lx (bh (bn ?_))));cases h;have q:_=e233:=hk233;have h:=h233;rw [← q] at h;clear q;(try dsimp only at h);exact jn (b:=s233.1) (Option.some.inj h) (Q29 [(0,0),(1,1)])
     intro b201 hb201;have h:=h201;(try rw [← hb201] at h);clear h201;(try dsimp only at h);refine Ql [] mo (by rw [hN];decide) fun K hK=>?_;replace ⟨a262,h⟩:=Q0 h;simp [Qk a262];(repeat refine sdQ ?_);refine hK _ ?_;clear hK K;cases h;exact rn (s':=(b201,s199.2+1)) hk199 (Q29 [(0,0),(1,1)])
    have g200:¬ (s199.2<m_.on_.n):=gQ;clear g;replace h:=if_r g200 h;refine Qg (tx (lx (bh (bn ?_))));cases h;have q:_=e199:=hk199;have h:=h199;rw [← q] at h;clear q;(try dsimp only at h);exact jn (b:=s199.1) (Option.some.inj h) (Q29 [(0,0),(1,1)])
   intro b135 hb135;have h:=h135;(try rw [← hb135] at h);clear h135;(try dsimp only at h);refine Ql [] mo (by rw [hN];decide) fun K hK=>?_;replace ⟨a263,h⟩:=Q0 h;simp [Qk a263];(repeat refine sdQ ?_);refine hK _ ?_;clear hK K;cases h;exact rn (s':=(b135,s133.2+1)) hk133 (Q29 [(0,0),(1,1)])
  have g134:¬ (s133.2<m_.on_.n):=gQ;clear g;replace h:=if_r g134 h;refine Qg (tx (lx (bh ?_)));cases h;exact jn (b:=s133.1) hk133 (Q29 [(0,0),(1,1)])
 intro b2 hb2;have h:=h2;try rw [← hb2] at h
 clear h2;try dsimp only at h
 refine Q1 (Q1 (Ql [] mo (by rw [hN];decide) fun K hK=>?_));simp;repeat refine sdQ ?_
 refine hK _ ?_;clear hK K;refine tn (Q7 rfl (fun g=>?_) fun g=>?_)
 ·have g264:(b2.length:Int) > 256:=gQ;clear g;replace h:=if_l g264 h;refine Q1 (Ql [] mo (by rw [hN];decide) fun K hK=>?_);simp;repeat refine sdQ ?_
  refine hK _ (tn (Q4 (st':=⟨[(8,.val (.pointer none)),(9,.val (.bool false))],[],0⟩) (Q29 []) (Qf (tr ?_))));clear hK K;cases h;try dsimp only
  first|refine iw_r (st':=⟨[(8,.val (.pointer none)),(9,.val (.bool false))],[],0⟩) ?_ ?_|refine iw_n (st':=⟨[(8,.val (.pointer none)),(9,.val (.bool false))],[],0⟩) ?_ ?_
  ·exact Wk.r1 [] (by simp [hP,hhOk,back,Cat.cells,SF.cells,XMonoidal.cells,UA,U1,IA,I1,LA,L1,BA,B1,EA,E1,E2,eB,eI,eL,Qd _ Q6 _ (fun _=>rfl)])
  exact ⟨by simp [Q1b],by simp,by simp [Cat.cells,SF.cells,XMonoidal.cells]⟩
 have g264:¬ ((b2.length:Int) > 256):=gQ;clear g;replace h:=if_r g264 h;refine Q8 (tn (Q1 (Ql [] mo (by rw [hN];decide) fun K hK=>?_)));simp;repeat with_reducible refine sdQ ?_
 replace ⟨v265,hv265,h⟩:=bind_some h;refine callX_fro (fz:=[]) false (Q8M _ v265 hv265) (PurK.ofL (.cons .w .nil)) ?_;simp;repeat refine sdQ ?_
 refine hK _ ?_;clear hK K;refine tn (Q4 (st':=⟨Y1 m_ f_ g_ z_ [],Y5 b2 v265 [],2⟩) (Q29 [(0,0),(1,1)]) (Q1 (Ql [] mo (by rw [hN];decide) fun K hK=>?_)));simp;repeat with_reducible refine sdQ ?_
 replace ⟨v266,hv266,h⟩:=bind_some h;refine Q13 (fz:=[]) (Q6D _ v266 hv266) (.cons .val .nil) ?_;simp;repeat refine sdQ ?_
 refine hK _ ?_;clear hK K;refine tn (Q4 (st':=⟨Y1 m_ f_ g_ z_ [(18,.own 2 0 v266.length)],Y5 b2 v265 [(2,rI v266)],3⟩) (QF 3) (Q1 (Q1 (Ql [] mo (by rw [hN];decide) fun K hK=>?_))));simp;repeat refine sdQ ?_
 refine hK _ (tn (Q4 (st':=⟨Y1 m_ f_ g_ z_ [(18,.own 2 0 v266.length),(129,iV (m_.on_.fr.length:Int)),(130,iV 0)],Y5 b2 v265 [(2,rI v266)],3⟩) (QF 3) ?_));clear hK K;replace ⟨e267,h,h267⟩:=bind_some h;refine Qe (fun b267:List Int=>⟨[(11,.adr 0 0 0),(18,.own 2 0 b267.length)],Y5 b2 v265 [(2,rI b267)],3⟩) (fun b267=>b267=e267) ?_ ?_
 ·refine Q5 (Qn h (fun s1194:List Int × Int=>⟨Y1 m_ f_ g_ z_ (Y01 s1194 [(129,iV (m_.on_.fr.length:Int)),(130,iV s1194.2)]),Y5 b2 v265 [(2,rI s1194.1)],3⟩) (QF 3) ?_);clear h;intro k1194 s1194 c1194 h hk1194;refine Q1 (Ql [] mo (by rw [hN];decide) fun K hK=>?_);simp;repeat refine sdQ ?_
  refine hK _ ?_;clear hK K;refine tn (Q1 (Q7 rfl (fun g=>?_) fun g=>?_))
  ·have g1195:s1194.2<(m_.on_.fr.length:Int):=gQ;clear g;replace h:=if_l g1195 h;refine Q8 (tn (Q1 ?_));replace ⟨e1196,h,h1196⟩:=bind_some h;refine Qe (fun b1196:List Int=>⟨Y1 m_ f_ g_ z_ [(18,.own 2 0 b1196.length),(129,iV (m_.on_.fr.length:Int)),(130,iV s1194.2)],Y5 b2 v265 [(2,rI b1196)],3⟩) (fun b1196=>b1196=e1196) ?_ ?_
   ·refine Q5 (Q1 (Ql [] mo (by rw [hN];decide) fun K hK=>?_));simp;(repeat refine sdQ ?_);refine hK _ ?_;clear hK K;refine tn (Q4 (st':=⟨Y1 m_ f_ g_ z_ (Y01 s1194 [(19,iV s1194.2),(129,iV (m_.on_.fr.length:Int)),(130,iV s1194.2)]),Y5 b2 v265 [(2,rI s1194.1)],3⟩) (QF 3) (Q1 (Ql [] mo (by rw [hN];decide) fun K hK=>?_)));simp;(repeat refine sdQ ?_);refine hK _ (tn (Q4 (st':=⟨Y1 m_ f_ g_ z_ (Y01 s1194 ((19,iV s1194.2)::Yy m_ s1194 [(138,iV 0)])),Y5 b2 v265 [(2,rI s1194.1)],3⟩) (QF 3) (Q5 ?_)));clear hK K;replace ⟨e1658,he1658,h1658⟩:=bind_some h;refine Qn he1658 (fun s1658:List Int × Int=>⟨Y1 m_ f_ g_ z_ (Y01 s1658 ((19,iV s1194.2)::Yy m_ s1194 [(138,iV s1658.2)])),Y5 b2 v265 [(2,rI s1658.1)],3⟩) (QF 3) ?_;intro k1658 s1658 c1658 h hk1658;refine Q1 (Ql [] mo (by rw [hN];decide) fun K hK=>?_);simp;(repeat refine sdQ ?_);refine hK _ ?_;clear hK K;refine tn (Q1 (Q7 rfl (fun g=>?_) fun g=>?_))
    ·have g1659:s1658.2<(m_.on_.fr.length:Int):=gQ;clear g;replace h:=if_l g1659 h;refine Q8 (tn (Q1 ?_));replace ⟨e1660,h,h1660⟩:=bind_some h;refine Qe (fun b1660:List Int=>⟨Y1 m_ f_ g_ z_ ((18,.own 2 0 b1660.length)::(19,iV s1194.2)::Yy m_ s1194 [(138,iV s1658.2)]),Y5 b2 v265 [(2,rI b1660)],3⟩) (fun b1660=>b1660=e1660) ?_ ?_
     ·refine Q5 (Q1 (Ql [] mo (by rw [hN];decide) fun K hK=>?_));simp;(repeat refine sdQ ?_);refine hK _ ?_;clear hK K;refine tn (Q4 (st':=⟨Y1 m_ f_ g_ z_ (Y01 s1658 ((19,iV s1194.2)::(20,iV s1658.2)::Yy m_ s1194 [(138,iV s1658.2)])),Y5 b2 v265 [(2,rI s1658.1)],3⟩) (QF 3) (Q1 (Ql [] mo (by rw [hN];decide) fun K hK=>?_)));replace ⟨a1661,h⟩:=Q0 h;replace ⟨a1662,h⟩:=Q0 h;replace ⟨a1663,h⟩:=Q0 h;replace ⟨a1664,h⟩:=Q0 h;simp [at_I a1661,at_L a1662,at_I a1663,at_I a1664];(repeat with_reducible refine sdQ ?_);replace ⟨v1665,hv1665,h⟩:=bind_some h;refine Q13 (fz:=[]) (Q32 _ _ _ v1665 hv1665) (.cons (.preT (by simp [Cat.cells,SF.cells,XMonoidal.cells])) (.cons .val (.cons .val .nil))) ?_;simp [at_I a1661,at_L a1662,at_I a1663,at_I a1664];(repeat refine sdQ ?_);refine hK _ (tn (Q4 (st':=⟨Y1 m_ f_ g_ z_ (Y01 s1658 ((19,iV s1194.2)::(20,iV s1658.2)::Yy m_ s1194 [(138,iV s1658.2),(165,.own 3 0 v1665.length),(166,iV (v1665.length:Int)),(167,iV 0)])),Y5 b2 v265 [(2,rI s1658.1),(3,rI v1665)],4⟩) (QF 4) (Q5 ?_)));clear hK K;replace ⟨e1892,he1892,h1892⟩:=bind_some h;refine Qn he1892 (fun s1892:List Int × Int=>⟨Y1 m_ f_ g_ z_ (Y01 s1892 ((19,iV s1194.2)::(20,iV s1658.2)::Yy m_ s1194 [(138,iV s1658.2),(165,.own 3 0 v1665.length),(166,iV (v1665.length:Int)),(167,iV s1892.2)])),Y5 b2 v265 [(2,rI s1892.1),(3,rI v1665)],4⟩) (QF 4) ?_;intro k1892 s1892 c1892 h hk1892;refine Q1 (Ql [] mo (by rw [hN];decide) fun K hK=>?_);simp;(repeat refine sdQ ?_);refine hK _ ?_;clear hK K;refine tn (Q1 (Q7 rfl (fun g=>?_) fun g=>?_))
      ·have g1893:s1892.2<(v1665.length:Int):=gQ;clear g;replace h:=if_l g1893 h;refine Q8 (tn (Q1 ?_));replace ⟨e1894,h,h1894⟩:=bind_some h;refine Qe (fun b1894:List Int=>⟨Y1 m_ f_ g_ z_ ((18,.own 2 0 b1894.length)::(19,iV s1194.2)::(20,iV s1658.2)::Yy m_ s1194 [(138,iV s1658.2),(165,.own 3 0 v1665.length),(166,iV (v1665.length:Int)),(167,iV s1892.2)]),Y5 b2 v265 [(2,rI b1894),(3,rI v1665)],4⟩) (fun b1894=>b1894=e1894) ?_ ?_
       ·refine Q5 (Q1 (Ql [] mo (by rw [hN];decide) fun K hK=>?_));replace ⟨a1895,h⟩:=Q0 h;simp [at_I a1895];(repeat refine sdQ ?_);refine hK _ ?_;clear hK K;refine tn (Q4 (st':=⟨Y1 m_ f_ g_ z_ (Y01 s1892 ((19,iV s1194.2)::(20,iV s1658.2)::(22,iV (ix v1665 s1892.2))::Yy m_ s1194 [(138,iV s1658.2),(165,.own 3 0 v1665.length),(166,iV (v1665.length:Int)),(167,iV s1892.2)])),Y5 b2 v265 [(2,rI s1892.1),(3,rI v1665)],4⟩) (QF 4) (Q1 (Ql [] mo (by rw [hN];decide) fun K hK=>?_)));replace ⟨a1896,h⟩:=Q0 h;simp [at_L a1896];(repeat refine sdQ ?_);refine hK _ (tn (Q4 (st':=⟨Y1 m_ f_ g_ z_ (Y01 s1892 ((19,iV s1194.2)::(20,iV s1658.2)::(22,iV (ix v1665 s1892.2))::Yg m_ s1194 s1658 v1665 s1892 f_ [(179,iV 0)])),Y5 b2 v265 [(2,rI s1892.1),(3,rI v1665)],4⟩) (QF 4) (Q5 ?_)));clear hK K;replace ⟨e2007,he2007,h2007⟩:=bind_some h;refine Qn he2007 (fun s2007:List Int × Int=>⟨Y1 m_ f_ g_ z_ (Y01 s2007 ((19,iV s1194.2)::(20,iV s1658.2)::(22,iV (ix v1665 s1892.2))::Yg m_ s1194 s1658 v1665 s1892 f_ [(179,iV s2007.2)])),Y5 b2 v265 [(2,rI s2007.1),(3,rI v1665)],4⟩) (QF 4) ?_;intro k2007 s2007 c2007 h hk2007;refine Q1 (Ql [] mo (by rw [hN];decide) fun K hK=>?_);simp;(repeat refine sdQ ?_);refine hK _ ?_;clear hK K;refine tn (Q1 (Q7 rfl (fun g=>?_) fun g=>?_))
        ·have g2008:s2007.2<((rx f_.ac s1194.2).length:Int):=gQ;clear g;replace h:=if_l g2008 h;refine Q8 (tn (Q1 ?_));replace ⟨e2009,h,h2009⟩:=bind_some h;refine Qe (fun b2009:List Int=>⟨Y1 m_ f_ g_ z_ ((18,.own 2 0 b2009.length)::(19,iV s1194.2)::(20,iV s1658.2)::(22,iV (ix v1665 s1892.2))::Yg m_ s1194 s1658 v1665 s1892 f_ [(179,iV s2007.2)]),Y5 b2 v265 [(2,rI b2009),(3,rI v1665)],4⟩) (fun b2009=>b2009=e2009) ?_ ?_
         ·refine Q5 (Q1 (Ql [] mo (by rw [hN];decide) fun K hK=>?_));replace ⟨a2010,h⟩:=Q0 h;simp [at_I a2010];(repeat refine sdQ ?_);refine hK _ ?_;clear hK K;refine tn (Q4 (st':=⟨Y1 m_ f_ g_ z_ (Y01 s2007 (YQ s1194 s1658 v1665 s1892 s2007 f_ (Yg m_ s1194 s1658 v1665 s1892 f_ [(179,iV s2007.2)]))),Y5 b2 v265 [(2,rI s2007.1),(3,rI v1665)],4⟩) (QF 4) (Q1 (Ql [] mo (by rw [hN];decide) fun K hK=>?_)));replace ⟨a2011,h⟩:=Q0 h;simp [at_L a2011];(repeat refine sdQ ?_);refine hK _ (tn (Q4 (st':=⟨Y1 m_ f_ g_ z_ (Y01 s2007 (YQ s1194 s1658 v1665 s1892 s2007 f_ (Yg m_ s1194 s1658 v1665 s1892 f_ (YW s2007 g_ s1658 [(192,iV 0)])))),Y5 b2 v265 [(2,rI s2007.1),(3,rI v1665)],4⟩) (QF 4) (Q5 ?_)));clear hK K;replace ⟨e2064,he2064,h2064⟩:=bind_some h;refine Qn he2064 (fun s2064:List Int × Int=>⟨Y1 m_ f_ g_ z_ (Y01 s2064 (YQ s1194 s1658 v1665 s1892 s2007 f_ (Yg m_ s1194 s1658 v1665 s1892 f_ (YW s2007 g_ s1658 [(192,iV s2064.2)])))),Y5 b2 v265 [(2,rI s2064.1),(3,rI v1665)],4⟩) (QF 4) ?_;intro k2064 s2064 c2064 h hk2064;refine Q1 (Ql [] mo (by rw [hN];decide) fun K hK=>?_);simp;(repeat refine sdQ ?_);refine hK _ (tn (Q1 ?_));clear hK K
          refine Q7 rfl (fun g=>?_) fun g=>?_
          ·have g2065:s2064.2<((rx g_.ac s1658.2).length:Int):=gQ;clear g;replace h:=if_l g2065 h;refine Q8 (tn (Q1 (Q5 (Q1 (Ql [] mo (by rw [hN];decide) fun K hK=>?_)))));replace ⟨a2066,h⟩:=Q0 h;simp [at_I a2066];(repeat refine sdQ ?_);refine hK _ ?_;clear hK K;refine tn (Q4 (st':=⟨Y1 m_ f_ g_ z_ (Y01 s2064 (YQ s1194 s1658 v1665 s1892 s2007 f_ ((25,iV s2064.2)::(26,iV (ix (rx g_.ac s1658.2) s2064.2))::Yg m_ s1194 s1658 v1665 s1892 f_ (YW s2007 g_ s1658 [(192,iV s2064.2)])))),Y5 b2 v265 [(2,rI s2064.1),(3,rI v1665)],4⟩) (QF 4) (Q1 (Ql [] mo (by rw [hN];decide) fun K hK=>?_)));replace ⟨a2067,h⟩:=Q0 h;replace ⟨a2068,h⟩:=Q0 h;replace ⟨a2069,h⟩:=Q0 h;replace ⟨a2070,h⟩:=Q0 h;simp [at_I a2067,at_I a2068,at_L a2069,at_I a2070];(repeat with_reducible refine sdQ ?_);replace ⟨v2071,hv2071,h⟩:=bind_some h;refine Q13 (fz:=[]) (Q1c _ _ _ v2071 hv2071) (.cons (.preT (by simp [Cat.cells,SF.cells,XMonoidal.cells])) (.cons .val (.cons .val .nil))) ?_;simp [at_I a2067,at_I a2068,at_L a2069,at_I a2070];(repeat refine sdQ ?_);refine hK _ ?_;clear hK K;refine tn (Q4 (st':=⟨Y1 m_ f_ g_ z_ (Y01 s2064 (YQ s1194 s1658 v1665 s1892 s2007 f_ ((26,iV (ix (rx g_.ac s1658.2) s2064.2))::(27,.own 3 0 5)::Yy m_ s1194 ((138,iV s1658.2)::(165,.own 4 0 v1665.length)::(166,iV (v1665.length:Int))::(167,iV s1892.2)::(177,lI (rx f_.ac s1194.2))::(178,iV ((rx f_.ac s1194.2).length:Int))::YW s2007 g_ s1658 [(192,iV s2064.2)])))),Y5 b2 v265 [(2,rI s2064.1),(3,.mix 1 [[iV (ix m_.on_.fr s1194.2)],[iV (ix m_.on_.fr s1658.2)],[iV v2071],[iV s2007.2],[iV s2064.2]]),(4,rI v1665)],5⟩) (Q29 [(0,0),(1,1),(2,2),(5,3),(3,4)]) (w_runXR false [] [48] mo (by rw [hN];decide) fun K hK=>?_));simp;(repeat with_reducible refine sdQ ?_);replace ⟨v2072,hv2072,h⟩:=bind_some h
           refine Q13 (fz:=[]) (Q5X _ v2072 hv2072) (.cons (.lits (es:=_) rfl (.cons rfl (.cons (.lits (es:=_) rfl (.cons rfl (.cons .val .nil) (.cons rfl (.cons .val .nil) (.cons rfl (.cons .val .nil) (.cons rfl (.cons .val .nil) (.cons rfl (.cons .val .nil) .nil))))) rfl) .nil) .nil) rfl) .nil) ?_;replace ⟨a2073,h⟩:=Q0 h;replace ⟨a2074,h⟩:=Q0 h;simp [at_I a2073,at_I a2074];(repeat with_reducible refine sdQ ?_);replace ⟨v2075,hv2075,h⟩:=bind_some h;refine Q13 (fz:=[]) (Q5X _ v2075 hv2075) (.cons (.lits (es:=_) rfl (.cons rfl (.cons (.lits (es:=_) rfl (.cons rfl (.cons .val .nil) (.cons rfl (.cons .val .nil) (.cons rfl (.cons .val .nil) (.cons rfl (.cons .val .nil) (.cons rfl (.cons .val .nil) .nil))))) rfl) .nil) .nil) rfl) .nil) ?_;simp [at_I a2073,at_I a2074];(repeat with_reducible refine sdQ ?_);replace ⟨v2114,hv2114,h⟩:=bind_some h;refine Q3j (fz:=[]) (Q1T (ts:=[6]) (e:={ v:=.val (.bool v2114.2),set:=[(2,rI v2114.1)],del:=[],new:=[],cnt:=0 }) Try.func88 rfl rfl rfl (by simp [Try.f88]) (by simp) (Q6Q (by simp)) (newI (by rfl)) fun F hN hP=>?_) ?_
           ·clear h;have h:=hv2114;clear hv2114;refine Q1 (Ql [] mo (by rw [hN];decide) fun K hK=>?_);simp;(repeat refine sdQ ?_);refine hK _ ?_;clear hK K;refine tn (Q4 (st':=⟨[(0,.own 2 0 s2064.1.length),(1,iV ((QW v2072 v265).getD 0)),(2,iV ((QW v2075 v265).getD 0))],Y5 b2 v265 ((2,rI s2064.1)::Y4 m_ s1194 s1658 v2071 s2007 s2064 v1665 s1892 f_ g_ []),10⟩) (Wk.rP _ [(0,0),(1,1),(2,2),(3,3),(4,4),(5,5),(7,7),(8,8),(6,6),(9,9)] hP (by rfl) (by simp [hhOk,back,Cat.cells,SF.cells,XMonoidal.cells,UA,U1,IA,I1,LA,L1,BA,B1,EA,E1,E2,eB,eI,eL,Qd _ Q6 _ (fun _=>rfl)])) (Q1 (Q5Y [] mo (by rw [hN];decide) fun K hK=>?_)));simp;(repeat with_reducible refine sdQ ?_);replace ⟨v2093,hv2093,h⟩:=bind_some h;refine Q3j (fz:=[]) (Q1T (ts:=[4]) (e:={ v:=.val (.int .i64 v2093.2),set:=[(2,rI v2093.1)],del:=[],new:=[],cnt:=0 }) Try.func112 rfl rfl rfl (by simp [Try.f112]) (by simp) (Q6Q (by simp)) (newI (by rfl)) fun F hN hP=>?_) ?_
            ·clear h;have h:=hv2093;clear hv2093;refine Q1 (Ql [] mo (by rw [hN];decide) fun K hK=>?_);simp;(repeat refine sdQ ?_);refine hK _ (tn (Q4 (st':=⟨[(0,.own 2 0 s2064.1.length),(1,iV ((QW v2072 v265).getD 0))],Y5 b2 v265 ((2,rI s2064.1)::Y4 m_ s1194 s1658 v2071 s2007 s2064 v1665 s1892 f_ g_ []),10⟩) (Wk.rP _ [(0,0),(1,1),(2,2),(3,3),(4,4),(5,5),(7,7),(8,8),(6,6),(9,9)] hP (by rfl) (by simp [hhOk,back,Cat.cells,SF.cells,XMonoidal.cells,UA,U1,IA,I1,LA,L1,BA,B1,EA,E1,E2,eB,eI,eL,Qd _ Q6 _ (fun _=>rfl)])) (Q1 ?_)));clear hK K;replace ⟨e2078,h,h2078⟩:=bind_some h;refine Qe (fun b2078:List Int × Int=>⟨[(1,iV b2078.2)],Y5 b2 v265 ((2,rI b2078.1)::Y4 m_ s1194 s1658 v2071 s2007 s2064 v1665 s1892 f_ g_ []),10⟩) (fun b2078=>b2078=e2078) ?_ ?_
             ·refine Q5 (Qn h (fun s2086:List Int × Int=>⟨[(0,.own 2 0 s2086.1.length),(1,iV s2086.2)],Y5 b2 v265 ((2,rI s2086.1)::Y4 m_ s1194 s1658 v2071 s2007 s2064 v1665 s1892 f_ g_ []),10⟩) (Wk.rP _ [(0,0),(1,1),(2,2),(3,3),(4,4),(5,5),(7,7),(8,8),(6,6),(9,9)] hP (by rfl) (by simp [hhOk,back,Cat.cells,SF.cells,XMonoidal.cells,UA,U1,IA,I1,LA,L1,BA,B1,EA,E1,E2,eB,eI,eL,Qd _ Q6 _ (fun _=>rfl)])) ?_);clear h;intro k2086 s2086 c2086 h hk2086;refine Q1 (Q1 (Ql [] mo (by rw [hN];decide) fun K hK=>?_));replace ⟨a2087,h⟩:=Q0 h;simp [at_I a2087];(repeat refine sdQ ?_);refine hK _ ?_;clear hK K;refine tn (Q7 rfl (fun g=>?_) fun g=>?_)
              ·have g2088:¬ ((ix s2086.1 s2086.2)=s2086.2):=gQ;clear g;replace h:=if_l g2088 h;refine Q8 (tn (Q5 (Q1 (Ql [] mo (by rw [hN];decide) fun K hK=>?_))));replace ⟨a2089,h⟩:=Q0 h;replace ⟨a2090,h⟩:=Q0 h;replace ⟨a2091,h⟩:=Q0 h;simp [at_I a2089,at_I a2090,at_I a2091];(repeat refine sdQ ?_);refine hK _ ?_;clear hK K;refine tn (Q4 (st':=⟨Y06 s2086 [],Y5 b2 v265 ((2,rI (s2086.1.set s2086.2.toNat (ix s2086.1 (ix s2086.1 s2086.2))))::Y4 m_ s1194 s1658 v2071 s2007 s2064 v1665 s1892 f_ g_ []),10⟩) (Wk.rP _ [(0,0),(1,1),(2,2),(3,3),(4,4),(5,5),(7,7),(8,8),(6,6),(9,9)] hP (by rfl) (by simp [hhOk,back,Cat.cells,SF.cells,XMonoidal.cells,UA,U1,IA,I1,LA,L1,BA,B1,EA,E1,E2,eB,eI,eL,Qd _ Q6 _ (fun _=>rfl)])) (Ql [] mo (by rw [hN];decide) fun K hK=>?_));replace ⟨a2092,h⟩:=Q0 h;simp [at_I a2092];(repeat refine sdQ ?_);refine hK _ (bn ?_);clear hK K;cases h;exact rn (s':=(s2086.1.set s2086.2.toNat (ix s2086.1 (ix s2086.1 s2086.2)),ix (s2086.1.set s2086.2.toNat (ix s2086.1 (ix s2086.1 s2086.2))) s2086.2)) hk2086 (Wk.rP _ [(0,0),(1,1),(2,2),(3,3),(4,4),(5,5),(7,7),(8,8),(6,6),(9,9)] hP (by rfl) (by simp [hhOk,back,Cat.cells,SF.cells,XMonoidal.cells,UA,U1,IA,I1,LA,L1,BA,B1,EA,E1,E2,eB,eI,eL,Qd _ Q6 _ (fun _=>rfl)]))
              have g2088:¬ (¬ ((ix s2086.1 s2086.2)=s2086.2)):=gQ;clear g;replace h:=if_r g2088 h;refine Qg (tx (lx (bh ?_)));cases h;exact jn (b:=(s2086.1,s2086.2)) hk2086 (Wk.rP _ [(0,0),(1,1),(2,2),(3,3),(4,4),(5,5),(7,7),(8,8),(6,6),(9,9)] hP (by rfl) (by simp [hhOk,back,Cat.cells,SF.cells,XMonoidal.cells,UA,U1,IA,I1,LA,L1,BA,B1,EA,E1,E2,eB,eI,eL,Qd _ Q6 _ (fun _=>rfl)]))
             intro b2078 hb2078;have h:=h2078;(try rw [← hb2078] at h);clear h2078;(try dsimp only at h);refine Q1 (Ql [] mo (by rw [hN];decide) fun K hK=>?_);simp;(repeat refine sdQ ?_);refine hK _ (tn (Q4 (st':=⟨[(4,iV b2078.2)],Y5 b2 v265 ((2,rI b2078.1)::Y4 m_ s1194 s1658 v2071 s2007 s2064 v1665 s1892 f_ g_ []),10⟩) (Wk.rP _ [(0,0),(1,1),(2,2),(3,3),(4,4),(5,5),(7,7),(8,8),(6,6),(9,9)] hP (by rfl) (by simp [hhOk,back,Cat.cells,SF.cells,XMonoidal.cells,UA,U1,IA,I1,LA,L1,BA,B1,EA,E1,E2,eB,eI,eL,Qd _ Q6 _ (fun _=>rfl)])) (Qf ?_)));clear hK K;cases h;first|refine iw_r (st':=⟨[(4,iV b2078.2)],Y5 b2 v265 ((2,rI b2078.1)::Y4 m_ s1194 s1658 v2071 s2007 s2064 v1665 s1892 f_ g_ []),10⟩) ?_ ?_|refine iw_n (st':=⟨[(4,iV b2078.2)],Y5 b2 v265 ((2,rI b2078.1)::Y4 m_ s1194 s1658 v2071 s2007 s2064 v1665 s1892 f_ g_ []),10⟩) ?_ ?_
             ·exact Wk.rP _ [(0,0),(1,1),(2,2),(3,3),(4,4),(5,5),(7,7),(8,8),(6,6),(9,9)] hP (by rfl) (by simp [hhOk,back,Cat.cells,SF.cells,XMonoidal.cells,UA,U1,IA,I1,LA,L1,BA,B1,EA,E1,E2,eB,eI,eL,Qd _ Q6 _ (fun _=>rfl)])
             exact ⟨by simp [Q1b],by simp,by simp [Cat.cells,SF.cells,XMonoidal.cells]⟩
            replace ⟨a2094,h⟩:=Q0 h;simp;(repeat with_reducible refine sdQ ?_);replace ⟨v2111,hv2111,h⟩:=bind_some h;refine Q3j (fz:=[]) (Q1T (ts:=[4]) (e:={ v:=.val (.int .i64 v2111.2),set:=[(2,rI v2111.1)],del:=[],new:=[],cnt:=0 }) Try.func112 rfl rfl rfl (by simp [Try.f112]) (by simp) (Q6Q (by simp)) (newI (by rfl)) fun F hN hP=>?_) ?_
            ·clear h;have h:=hv2111;clear hv2111;refine Q1 (Ql [] mo (by rw [hN];decide) fun K hK=>?_);simp;(repeat refine sdQ ?_);refine hK _ (tn (Q4 (st':=⟨[(0,.own 2 0 v2093.1.length),(1,iV ((QW v2075 v265).getD 0))],Y5 b2 v265 ((2,rI v2093.1)::Y4 m_ s1194 s1658 v2071 s2007 s2064 v1665 s1892 f_ g_ []),10⟩) (Wk.rP _ [(0,0),(1,1),(2,2),(3,3),(4,4),(5,5),(7,7),(8,8),(6,6),(9,9)] hP (by rfl) (by simp [hhOk,back,Cat.cells,SF.cells,XMonoidal.cells,UA,U1,IA,I1,LA,L1,BA,B1,EA,E1,E2,eB,eI,eL,Qd _ Q6 _ (fun _=>rfl),a2094])) (Q1 ?_)));clear hK K;replace ⟨e2096,h,h2096⟩:=bind_some h;refine Qe (fun b2096:List Int × Int=>⟨[(1,iV b2096.2)],Y5 b2 v265 ((2,rI b2096.1)::Y4 m_ s1194 s1658 v2071 s2007 s2064 v1665 s1892 f_ g_ []),10⟩) (fun b2096=>b2096=e2096) ?_ ?_
             ·refine Q5 (Qn h (fun s2104:List Int × Int=>⟨[(0,.own 2 0 s2104.1.length),(1,iV s2104.2)],Y5 b2 v265 ((2,rI s2104.1)::Y4 m_ s1194 s1658 v2071 s2007 s2064 v1665 s1892 f_ g_ []),10⟩) (Wk.rP _ [(0,0),(1,1),(2,2),(3,3),(4,4),(5,5),(7,7),(8,8),(6,6),(9,9)] hP (by rfl) (by simp [hhOk,back,Cat.cells,SF.cells,XMonoidal.cells,UA,U1,IA,I1,LA,L1,BA,B1,EA,E1,E2,eB,eI,eL,Qd _ Q6 _ (fun _=>rfl),a2094])) ?_);clear h;intro k2104 s2104 c2104 h hk2104;refine Q1 (Q1 (Ql [] mo (by rw [hN];decide) fun K hK=>?_));replace ⟨a2105,h⟩:=Q0 h;simp [at_I a2105];(repeat refine sdQ ?_);refine hK _ ?_;clear hK K;refine tn (Q7 rfl (fun g=>?_) fun g=>?_)
              ·have g2106:¬ ((ix s2104.1 s2104.2)=s2104.2):=gQ;clear g;replace h:=if_l g2106 h;refine Q8 (tn (Q5 (Q1 (Ql [] mo (by rw [hN];decide) fun K hK=>?_))));replace ⟨a2107,h⟩:=Q0 h;replace ⟨a2108,h⟩:=Q0 h;replace ⟨a2109,h⟩:=Q0 h;simp [at_I a2107,at_I a2108,at_I a2109];(repeat refine sdQ ?_);refine hK _ ?_;clear hK K;refine tn (Q4 (st':=⟨Y06 s2104 [],Y5 b2 v265 ((2,rI (s2104.1.set s2104.2.toNat (ix s2104.1 (ix s2104.1 s2104.2))))::Y4 m_ s1194 s1658 v2071 s2007 s2064 v1665 s1892 f_ g_ []),10⟩) (Wk.rP _ [(0,0),(1,1),(2,2),(3,3),(4,4),(5,5),(7,7),(8,8),(6,6),(9,9)] hP (by rfl) (by simp [hhOk,back,Cat.cells,SF.cells,XMonoidal.cells,UA,U1,IA,I1,LA,L1,BA,B1,EA,E1,E2,eB,eI,eL,Qd _ Q6 _ (fun _=>rfl),a2094])) (Ql [] mo (by rw [hN];decide) fun K hK=>?_));replace ⟨a2110,h⟩:=Q0 h;simp [at_I a2110];(repeat refine sdQ ?_);refine hK _ (bn ?_);clear hK K;cases h;exact rn (s':=(s2104.1.set s2104.2.toNat (ix s2104.1 (ix s2104.1 s2104.2)),ix (s2104.1.set s2104.2.toNat (ix s2104.1 (ix s2104.1 s2104.2))) s2104.2)) hk2104 (Wk.rP _ [(0,0),(1,1),(2,2),(3,3),(4,4),(5,5),(7,7),(8,8),(6,6),(9,9)] hP (by rfl) (by simp [hhOk,back,Cat.cells,SF.cells,XMonoidal.cells,UA,U1,IA,I1,LA,L1,BA,B1,EA,E1,E2,eB,eI,eL,Qd _ Q6 _ (fun _=>rfl),a2094]))
              have g2106:¬ (¬ ((ix s2104.1 s2104.2)=s2104.2)):=gQ;clear g;replace h:=if_r g2106 h;refine Qg (tx (lx (bh ?_)));cases h;exact jn (b:=(s2104.1,s2104.2)) hk2104 (Wk.rP _ [(0,0),(1,1),(2,2),(3,3),(4,4),(5,5),(7,7),(8,8),(6,6),(9,9)] hP (by rfl) (by simp [hhOk,back,Cat.cells,SF.cells,XMonoidal.cells,UA,U1,IA,I1,LA,L1,BA,B1,EA,E1,E2,eB,eI,eL,Qd _ Q6 _ (fun _=>rfl),a2094]))
             intro b2096 hb2096;have h:=h2096;(try rw [← hb2096] at h);clear h2096;(try dsimp only at h);refine Q1 (Ql [] mo (by rw [hN];decide) fun K hK=>?_);simp;(repeat refine sdQ ?_);refine hK _ (tn (Q4 (st':=⟨[(4,iV b2096.2)],Y5 b2 v265 ((2,rI b2096.1)::Y4 m_ s1194 s1658 v2071 s2007 s2064 v1665 s1892 f_ g_ []),10⟩) (Wk.rP _ [(0,0),(1,1),(2,2),(3,3),(4,4),(5,5),(7,7),(8,8),(6,6),(9,9)] hP (by rfl) (by simp [hhOk,back,Cat.cells,SF.cells,XMonoidal.cells,UA,U1,IA,I1,LA,L1,BA,B1,EA,E1,E2,eB,eI,eL,Qd _ Q6 _ (fun _=>rfl),a2094])) (Qf ?_)));clear hK K;cases h;first|refine iw_r (st':=⟨[(4,iV b2096.2)],Y5 b2 v265 ((2,rI b2096.1)::Y4 m_ s1194 s1658 v2071 s2007 s2064 v1665 s1892 f_ g_ []),10⟩) ?_ ?_|refine iw_n (st':=⟨[(4,iV b2096.2)],Y5 b2 v265 ((2,rI b2096.1)::Y4 m_ s1194 s1658 v2071 s2007 s2064 v1665 s1892 f_ g_ []),10⟩) ?_ ?_
             ·exact Wk.rP _ [(0,0),(1,1),(2,2),(3,3),(4,4),(5,5),(7,7),(8,8),(6,6),(9,9)] hP (by rfl) (by simp [hhOk,back,Cat.cells,SF.cells,XMonoidal.cells,UA,U1,IA,I1,LA,L1,BA,B1,EA,E1,E2,eB,eI,eL,Qd _ Q6 _ (fun _=>rfl),a2094])
             exact ⟨by simp [Q1b],by simp,by simp [Cat.cells,SF.cells,XMonoidal.cells]⟩
            replace ⟨a2112,h⟩:=Q0 h;simp;(repeat refine sdQ ?_);refine hK _ ?_;clear hK K;refine tn (Q4 (st':=⟨[(0,.own 2 0 v2111.1.length),(7,iV v2093.2),(8,iV v2111.2)],Y5 b2 v265 ((2,rI v2111.1)::Y4 m_ s1194 s1658 v2071 s2007 s2064 v1665 s1892 f_ g_ []),10⟩) (Wk.rP _ [(0,0),(1,1),(2,2),(3,3),(4,4),(5,5),(7,7),(8,8),(6,6),(9,9)] hP (by rfl) (by simp [hhOk,back,Cat.cells,SF.cells,XMonoidal.cells,UA,U1,IA,I1,LA,L1,BA,B1,EA,E1,E2,eB,eI,eL,Qd _ Q6 _ (fun _=>rfl),a2094,a2112])) (Q1 (Ql [] mo (by rw [hN];decide) fun K hK=>?_)));replace ⟨a2113,h⟩:=Q0 h;simp [at_I a2113];(repeat refine sdQ ?_);refine hK _ ?_;clear hK K;refine tn (Q4 (st':=⟨[(7,iV v2093.2),(8,iV v2111.2)],Y5 b2 v265 ((2,rI (v2111.1.set ((if v2111.2 > v2093.2 then v2111.2 else v2093.2).toNat) (if v2111.2<v2093.2 then v2111.2 else v2093.2)))::Y4 m_ s1194 s1658 v2071 s2007 s2064 v1665 s1892 f_ g_ []),10⟩) (Wk.rP _ [(0,0),(1,1),(2,2),(3,3),(4,4),(5,5),(7,7),(8,8),(6,6),(9,9)] hP (by rfl) (by simp [hhOk,back,Cat.cells,SF.cells,XMonoidal.cells,UA,U1,IA,I1,LA,L1,BA,B1,EA,E1,E2,eB,eI,eL,Qd _ Q6 _ (fun _=>rfl),a2094,a2112])) (Q1 (Ql [] mo (by rw [hN];decide) fun K hK=>?_)));simp;(repeat refine sdQ ?_);refine hK _ (tn (Q4 (st':=⟨[(6,.val (.bool (v2093.2 != v2111.2)))],Y5 b2 v265 ((2,rI (v2111.1.set ((if v2111.2 > v2093.2 then v2111.2 else v2093.2).toNat) (if v2111.2<v2093.2 then v2111.2 else v2093.2)))::Y4 m_ s1194 s1658 v2071 s2007 s2064 v1665 s1892 f_ g_ []),10⟩) (Wk.rP _ [(0,0),(1,1),(2,2),(3,3),(4,4),(5,5),(7,7),(8,8),(6,6),(9,9)] hP (by rfl) (by simp [hhOk,back,Cat.cells,SF.cells,XMonoidal.cells,UA,U1,IA,I1,LA,L1,BA,B1,EA,E1,E2,eB,eI,eL,Qd _ Q6 _ (fun _=>rfl),a2094,a2112])) (Qf ?_)));clear hK K;cases h
            first|refine iw_r (st':=⟨[(6,.val (.bool (v2093.2 != v2111.2)))],Y5 b2 v265 ((2,rI (v2111.1.set ((if v2111.2 > v2093.2 then v2111.2 else v2093.2).toNat) (if v2111.2<v2093.2 then v2111.2 else v2093.2)))::Y4 m_ s1194 s1658 v2071 s2007 s2064 v1665 s1892 f_ g_ []),10⟩) ?_ ?_|refine iw_n (st':=⟨[(6,.val (.bool (v2093.2 != v2111.2)))],Y5 b2 v265 ((2,rI (v2111.1.set ((if v2111.2 > v2093.2 then v2111.2 else v2093.2).toNat) (if v2111.2<v2093.2 then v2111.2 else v2093.2)))::Y4 m_ s1194 s1658 v2071 s2007 s2064 v1665 s1892 f_ g_ []),10⟩) ?_ ?_
            ·exact Wk.rP _ [(0,0),(1,1),(2,2),(3,3),(4,4),(5,5),(7,7),(8,8),(6,6),(9,9)] hP (by rfl) (by simp [hhOk,back,Cat.cells,SF.cells,XMonoidal.cells,UA,U1,IA,I1,LA,L1,BA,B1,EA,E1,E2,eB,eI,eL,Qd _ Q6 _ (fun _=>rfl),a2094,a2112])
            exact ⟨by simp [Q1b],by simp,by simp [Cat.cells,SF.cells,XMonoidal.cells]⟩
           replace ⟨a2115,h⟩:=Q0 h;simp [at_I a2073,at_I a2074];(repeat refine sdQ ?_);refine hK _ ?_;clear hK K;refine bn (tn (Q4 (st':=⟨Y1 m_ f_ g_ z_ ((18,.own 2 0 v2114.1.length)::YQ s1194 s1658 v1665 s1892 s2007 f_ (Yg m_ s1194 s1658 v1665 s1892 f_ (YW s2007 g_ s1658 [(192,iV s2064.2)]))),Y5 b2 v265 [(2,rI v2114.1),(3,rI v1665)],4⟩) (Wk.r1 [(0,0),(1,1),(2,2),(4,3)] (by simp [hP,hhOk,back,Cat.cells,SF.cells,XMonoidal.cells,UA,U1,IA,I1,LA,L1,BA,B1,EA,E1,E2,eB,eI,eL,Qd _ Q6 _ (fun _=>rfl),a2115])) (Ql [] mo (by rw [hN];decide) fun K hK=>?_)));replace ⟨a2116,h⟩:=Q0 h;simp [Qk a2116];(repeat refine sdQ ?_);refine hK _ ?_;clear hK K;cases h;exact rn (s':=(v2114.1,s2064.2+1)) hk2064 (Wk.r1 [(0,0),(1,1),(2,2),(3,3)] (by simp [hP,hhOk,back,Cat.cells,SF.cells,XMonoidal.cells,UA,U1,IA,I1,LA,L1,BA,B1,EA,E1,E2,eB,eI,eL,Qd _ Q6 _ (fun _=>rfl),a2115]))
          have g2065:¬ (s2064.2<((rx g_.ac s1658.2).length:Int)):=gQ;clear g;replace h:=if_r g2065 h;refine Qg (tx (lx (bh (bn ?_))));cases h;have q:_=e2064:=hk2064;have h:=h2064;rw [← q] at h;clear q;(try dsimp only at h);exact jn (b:=s2064.1) (Option.some.inj h) (QF 4)
         intro b2009 hb2009;have h:=h2009;(try rw [← hb2009] at h);clear h2009;(try dsimp only at h);refine Ql [] mo (by rw [hN];decide) fun K hK=>?_;replace ⟨a2117,h⟩:=Q0 h;simp [Qk a2117];(repeat refine sdQ ?_);refine hK _ ?_;clear hK K;cases h;exact rn (s':=(b2009,s2007.2+1)) hk2007 (QF 4)
        have g2008:¬ (s2007.2<((rx f_.ac s1194.2).length:Int)):=gQ;clear g;replace h:=if_r g2008 h;refine Qg (tx (lx (bh (bn ?_))));cases h;have q:_=e2007:=hk2007;have h:=h2007;rw [← q] at h;clear q;(try dsimp only at h);exact jn (b:=s2007.1) (Option.some.inj h) (QF 4)
       intro b1894 hb1894;have h:=h1894;(try rw [← hb1894] at h);clear h1894;(try dsimp only at h);refine Ql [] mo (by rw [hN];decide) fun K hK=>?_;replace ⟨a2118,h⟩:=Q0 h;simp [Qk a2118];(repeat refine sdQ ?_);refine hK _ ?_;clear hK K;cases h;exact rn (s':=(b1894,s1892.2+1)) hk1892 (QF 4)
      have g1893:¬ (s1892.2<(v1665.length:Int)):=gQ;clear g;replace h:=if_r g1893 h;refine Qg (tx (lx (bh (bn ?_))));cases h;have q:_=e1892:=hk1892;have h:=h1892;rw [← q] at h;clear q;(try dsimp only at h);exact jn (b:=s1892.1) (Option.some.inj h) (QF 3)
     intro b1660 hb1660;have h:=h1660;(try rw [← hb1660] at h);clear h1660;(try dsimp only at h);refine Ql [] mo (by rw [hN];decide) fun K hK=>?_;replace ⟨a2119,h⟩:=Q0 h;simp [Qk a2119];(repeat refine sdQ ?_);refine hK _ ?_;clear hK K;cases h;exact rn (s':=(b1660,s1658.2+1)) hk1658 (QF 3)
    have g1659:¬ (s1658.2<(m_.on_.fr.length:Int)):=gQ;clear g;replace h:=if_r g1659 h;refine Qg (tx (lx (bh (bn ?_))));cases h;have q:_=e1658:=hk1658;have h:=h1658;rw [← q] at h;clear q;(try dsimp only at h);exact jn (b:=s1658.1) (Option.some.inj h) (QF 3)
   intro b1196 hb1196;have h:=h1196;(try rw [← hb1196] at h);clear h1196;(try dsimp only at h);refine Ql [] mo (by rw [hN];decide) fun K hK=>?_;replace ⟨a2120,h⟩:=Q0 h;simp [Qk a2120];(repeat refine sdQ ?_);refine hK _ ?_;clear hK K;cases h;exact rn (s':=(b1196,s1194.2+1)) hk1194 (QF 3)
  have g1195:¬ (s1194.2<(m_.on_.fr.length:Int)):=gQ;clear g;replace h:=if_r g1195 h;refine Qg (tx (lx (bh ?_)));cases h;exact jn (b:=s1194.1) hk1194 (QF 3)
 intro b267 hb267;have h:=h267;try rw [← hb267] at h
 clear h267;try dsimp only at h
 refine Q1 (Q5Y [] mo (by rw [hN];decide) fun K hK=>?_);simp;repeat with_reducible refine sdQ ?_
 replace ⟨v2168,hv2168,h⟩:=bind_some h;refine Q3j (fz:=[]) (Q1T (ts:=[2]) (e:={ v:=.own 3 0 v2168.2.length,set:=[(2,rI v2168.1)],del:=[],new:=[(3,rI v2168.2)],cnt:=1 }) Try.func89 rfl rfl rfl (by simp [Try.f89]) (by simp) (Q6Q (by simp)) (newI (by rfl)) fun F hN hP=>?_) ?_
 ·clear h;have h:=hv2168;clear hv2168;refine Q1 (Ql [] mo (by rw [hN];decide) fun K hK=>?_);simp;repeat refine sdQ ?_
  refine hK _ ?_;clear hK K;refine tn (Q4 (st':=⟨[(0,.own 2 0 b267.length)],Y5 b2 v265 [(2,rI b267)],3⟩) (Wk.rP _ [(0,0),(1,1),(2,2)] hP (by rfl) (by simp [hhOk,back,Cat.cells,SF.cells,XMonoidal.cells,UA,U1,IA,I1,LA,L1,BA,B1,EA,E1,E2,eB,eI,eL,Qd _ Q6 _ (fun _=>rfl)])) (Q1 (Ql [] mo (by rw [hN];decide) fun K hK=>?_)));replace ⟨a2122,h⟩:=Q0 h;simp;repeat refine sdQ ?_
  refine hK _ ?_;clear hK K;refine tn (Q4 (st':=⟨[(0,.own 2 0 b267.length),(3,.own 3 0 ((List.replicate ((b267.length:Int).toNat) 0).length))],Y5 b2 v265 [(2,rI b267),(3,rI (List.replicate ((b267.length:Int).toNat) 0))],4⟩) (Wk.rP _ [(0,0),(1,1),(2,2),(3,3)] hP (by rfl) (by simp [hhOk,back,Cat.cells,SF.cells,XMonoidal.cells,UA,U1,IA,I1,LA,L1,BA,B1,EA,E1,E2,eB,eI,eL,Qd _ Q6 _ (fun _=>rfl)])) (Q1 (Q1 (Ql [] mo (by rw [hN];decide) fun K hK=>?_))));simp;repeat refine sdQ ?_
  refine hK _ (tn (Q4 (st':=⟨[(0,.own 2 0 b267.length),(3,.own 3 0 ((List.replicate ((b267.length:Int).toNat) 0).length)),(9,iV (b267.length:Int)),(10,iV 0)],Y5 b2 v265 [(2,rI b267),(3,rI (List.replicate ((b267.length:Int).toNat) 0))],4⟩) (Wk.rP _ [(0,0),(1,1),(2,2),(3,3)] hP (by rfl) (by simp [hhOk,back,Cat.cells,SF.cells,XMonoidal.cells,UA,U1,IA,I1,LA,L1,BA,B1,EA,E1,E2,eB,eI,eL,Qd _ Q6 _ (fun _=>rfl)])) ?_));clear hK K;replace ⟨e2123,h,h2123⟩:=bind_some h;refine Qe (fun b2123:List Int × List Int=>⟨[(3,.own 3 0 b2123.2.length)],Y5 b2 v265 [(2,rI b2123.1),(3,rI b2123.2)],4⟩) (fun b2123=>b2123=e2123) ?_ ?_
  ·refine Q5 (Qn h (fun s2145:List Int × List Int × Int=>⟨[(0,.own 2 0 s2145.1.length),(3,.own 3 0 s2145.2.1.length),(9,iV (b267.length:Int)),(10,iV s2145.2.2)],Y5 b2 v265 [(2,rI s2145.1),(3,rI s2145.2.1)],4⟩) (Wk.rP _ [(0,0),(1,1),(2,2),(3,3)] hP (by rfl) (by simp [hhOk,back,Cat.cells,SF.cells,XMonoidal.cells,UA,U1,IA,I1,LA,L1,BA,B1,EA,E1,E2,eB,eI,eL,Qd _ Q6 _ (fun _=>rfl)])) ?_);clear h;intro k2145 s2145 c2145 h hk2145;refine Q1 (Ql [] mo (by rw [hN];decide) fun K hK=>?_);simp;(repeat refine sdQ ?_);refine hK _ ?_;clear hK K;refine tn (Q1 (Q7 rfl (fun g=>?_) fun g=>?_))
   ·have g2146:s2145.2.2<(b267.length:Int):=gQ;clear g;replace h:=if_l g2146 h;refine Q8 (tn (Q1 (Q5 (Q1 (Ql [] mo (by rw [hN];decide) fun K hK=>?_)))));simp;(repeat refine sdQ ?_);refine hK _ ?_;clear hK K;refine tn (Q4 (st':=⟨[(0,.own 2 0 s2145.1.length),(3,.own 3 0 s2145.2.1.length),(4,iV s2145.2.2),(9,iV (b267.length:Int)),(10,iV s2145.2.2)],Y5 b2 v265 [(2,rI s2145.1),(3,rI s2145.2.1)],4⟩) (Wk.rP _ [(0,0),(1,1),(2,2),(3,3)] hP (by rfl) (by simp [hhOk,back,Cat.cells,SF.cells,XMonoidal.cells,UA,U1,IA,I1,LA,L1,BA,B1,EA,E1,E2,eB,eI,eL,Qd _ Q6 _ (fun _=>rfl)])) (Q5Y [] mo (by rw [hN];decide) fun K hK=>?_));simp;(repeat with_reducible refine sdQ ?_);replace ⟨v2163,hv2163,h⟩:=bind_some h;refine Q3j (fz:=[]) (Q1T (ts:=[4]) (e:={ v:=.val (.int .i64 v2163.2),set:=[(2,rI v2163.1)],del:=[],new:=[],cnt:=0 }) Try.func112 rfl rfl rfl (by simp [Try.f112]) (by simp) (Q6Q (by simp)) (newI (by rfl)) fun F hN hP=>?_) ?_
    ·clear h;have h:=hv2163;clear hv2163;refine Q1 (Ql [] mo (by rw [hN];decide) fun K hK=>?_);simp;(repeat refine sdQ ?_);refine hK _ (tn (Q4 (st':=⟨[(0,.own 2 0 s2145.1.length),(1,iV s2145.2.2)],Y5 b2 v265 [(2,rI s2145.1),(3,rI s2145.2.1)],4⟩) (Wk.rP _ [(0,0),(1,1),(2,2),(3,3)] hP (by rfl) (by simp [hhOk,back,Cat.cells,SF.cells,XMonoidal.cells,UA,U1,IA,I1,LA,L1,BA,B1,EA,E1,E2,eB,eI,eL,Qd _ Q6 _ (fun _=>rfl)])) (Q1 ?_)));clear hK K;replace ⟨e2148,h,h2148⟩:=bind_some h;refine Qe (fun b2148:List Int × Int=>⟨[(1,iV b2148.2)],Y5 b2 v265 [(2,rI b2148.1),(3,rI s2145.2.1)],4⟩) (fun b2148=>b2148=e2148) ?_ ?_
     ·refine Q5 (Qn h (fun s2156:List Int × Int=>⟨[(0,.own 2 0 s2156.1.length),(1,iV s2156.2)],Y5 b2 v265 [(2,rI s2156.1),(3,rI s2145.2.1)],4⟩) (Wk.rP _ [(0,0),(1,1),(2,2),(3,3)] hP (by rfl) (by simp [hhOk,back,Cat.cells,SF.cells,XMonoidal.cells,UA,U1,IA,I1,LA,L1,BA,B1,EA,E1,E2,eB,eI,eL,Qd _ Q6 _ (fun _=>rfl)])) ?_);clear h;intro k2156 s2156 c2156 h hk2156;refine Q1 (Q1 (Ql [] mo (by rw [hN];decide) fun K hK=>?_));replace ⟨a2157,h⟩:=Q0 h;simp [at_I a2157];(repeat refine sdQ ?_);refine hK _ ?_;clear hK K;refine tn (Q7 rfl (fun g=>?_) fun g=>?_)
      ·have g2158:¬ ((ix s2156.1 s2156.2)=s2156.2):=gQ;clear g;replace h:=if_l g2158 h;refine Q8 (tn (Q5 (Q1 (Ql [] mo (by rw [hN];decide) fun K hK=>?_))));replace ⟨a2159,h⟩:=Q0 h;replace ⟨a2160,h⟩:=Q0 h;replace ⟨a2161,h⟩:=Q0 h;simp [at_I a2159,at_I a2160,at_I a2161];(repeat refine sdQ ?_);refine hK _ ?_;clear hK K;refine tn (Q4 (st':=⟨Y06 s2156 [],Y5 b2 v265 [(2,rI (s2156.1.set s2156.2.toNat (ix s2156.1 (ix s2156.1 s2156.2)))),(3,rI s2145.2.1)],4⟩) (Wk.rP _ [(0,0),(1,1),(2,2),(3,3)] hP (by rfl) (by simp [hhOk,back,Cat.cells,SF.cells,XMonoidal.cells,UA,U1,IA,I1,LA,L1,BA,B1,EA,E1,E2,eB,eI,eL,Qd _ Q6 _ (fun _=>rfl)])) (Ql [] mo (by rw [hN];decide) fun K hK=>?_));replace ⟨a2162,h⟩:=Q0 h;simp [at_I a2162];(repeat refine sdQ ?_);refine hK _ (bn ?_);clear hK K;cases h;exact rn (s':=(s2156.1.set s2156.2.toNat (ix s2156.1 (ix s2156.1 s2156.2)),ix (s2156.1.set s2156.2.toNat (ix s2156.1 (ix s2156.1 s2156.2))) s2156.2)) hk2156 (Wk.rP _ [(0,0),(1,1),(2,2),(3,3)] hP (by rfl) (by simp [hhOk,back,Cat.cells,SF.cells,XMonoidal.cells,UA,U1,IA,I1,LA,L1,BA,B1,EA,E1,E2,eB,eI,eL,Qd _ Q6 _ (fun _=>rfl)]))
      have g2158:¬ (¬ ((ix s2156.1 s2156.2)=s2156.2)):=gQ;clear g;replace h:=if_r g2158 h;refine Qg (tx (lx (bh ?_)));cases h;exact jn (b:=(s2156.1,s2156.2)) hk2156 (Wk.rP _ [(0,0),(1,1),(2,2),(3,3)] hP (by rfl) (by simp [hhOk,back,Cat.cells,SF.cells,XMonoidal.cells,UA,U1,IA,I1,LA,L1,BA,B1,EA,E1,E2,eB,eI,eL,Qd _ Q6 _ (fun _=>rfl)]))
     intro b2148 hb2148;have h:=h2148;(try rw [← hb2148] at h);clear h2148;(try dsimp only at h);refine Q1 (Ql [] mo (by rw [hN];decide) fun K hK=>?_);simp;(repeat refine sdQ ?_);refine hK _ (tn (Q4 (st':=⟨[(4,iV b2148.2)],Y5 b2 v265 [(2,rI b2148.1),(3,rI s2145.2.1)],4⟩) (Wk.rP _ [(0,0),(1,1),(2,2),(3,3)] hP (by rfl) (by simp [hhOk,back,Cat.cells,SF.cells,XMonoidal.cells,UA,U1,IA,I1,LA,L1,BA,B1,EA,E1,E2,eB,eI,eL,Qd _ Q6 _ (fun _=>rfl)])) (Qf ?_)));clear hK K;cases h;first|refine iw_r (st':=⟨[(4,iV b2148.2)],Y5 b2 v265 [(2,rI b2148.1),(3,rI s2145.2.1)],4⟩) ?_ ?_|refine iw_n (st':=⟨[(4,iV b2148.2)],Y5 b2 v265 [(2,rI b2148.1),(3,rI s2145.2.1)],4⟩) ?_ ?_
     ·exact Wk.rP _ [(0,0),(1,1),(2,2),(3,3)] hP (by rfl) (by simp [hhOk,back,Cat.cells,SF.cells,XMonoidal.cells,UA,U1,IA,I1,LA,L1,BA,B1,EA,E1,E2,eB,eI,eL,Qd _ Q6 _ (fun _=>rfl)])
     exact ⟨by simp [Q1b],by simp,by simp [Cat.cells,SF.cells,XMonoidal.cells]⟩
    replace ⟨a2164,h⟩:=Q0 h;replace ⟨a2165,h⟩:=Q0 h;simp [at_I a2165];(repeat refine sdQ ?_);refine hK _ ?_;clear hK K;refine bn (tn (Q4 (st':=⟨[(0,.own 2 0 v2163.1.length),(3,.own 3 0 ((s2145.2.1.set s2145.2.2.toNat v2163.2).length)),(9,iV (b267.length:Int)),(10,iV s2145.2.2)],Y5 b2 v265 [(2,rI v2163.1),(3,rI (s2145.2.1.set s2145.2.2.toNat v2163.2))],4⟩) (Wk.rP _ [(0,0),(1,1),(2,2),(3,3)] hP (by rfl) (by simp [hhOk,back,Cat.cells,SF.cells,XMonoidal.cells,UA,U1,IA,I1,LA,L1,BA,B1,EA,E1,E2,eB,eI,eL,Qd _ Q6 _ (fun _=>rfl),a2164])) (Ql [] mo (by rw [hN];decide) fun K hK=>?_)));replace ⟨a2166,h⟩:=Q0 h;simp [Qk a2166];(repeat refine sdQ ?_);refine hK _ ?_;clear hK K;cases h;exact rn (s':=(v2163.1,s2145.2.1.set s2145.2.2.toNat v2163.2,s2145.2.2+1)) hk2145 (Wk.rP _ [(0,0),(1,1),(2,2),(3,3)] hP (by rfl) (by simp [hhOk,back,Cat.cells,SF.cells,XMonoidal.cells,UA,U1,IA,I1,LA,L1,BA,B1,EA,E1,E2,eB,eI,eL,Qd _ Q6 _ (fun _=>rfl),a2164]))
   have g2146:¬ (s2145.2.2<(b267.length:Int)):=gQ;clear g;replace h:=if_r g2146 h;refine Qg (tx (lx (bh ?_)));cases h;exact jn (b:=(s2145.1,s2145.2.1)) hk2145 (Wk.rP _ [(0,0),(1,1),(2,2),(3,3)] hP (by rfl) (by simp [hhOk,back,Cat.cells,SF.cells,XMonoidal.cells,UA,U1,IA,I1,LA,L1,BA,B1,EA,E1,E2,eB,eI,eL,Qd _ Q6 _ (fun _=>rfl)]))
  intro b2123 hb2123;have h:=h2123;try rw [← hb2123] at h
  clear h2123;try dsimp only at h
  refine Q1 (Ql [] mo (by rw [hN];decide) fun K hK=>?_);simp;repeat with_reducible refine sdQ ?_
  replace ⟨v2167,hv2167,h⟩:=bind_some h;refine Q13 (fz:=[]) (Q8L _ v2167 hv2167) (.cons .w .nil) ?_;simp;repeat refine sdQ ?_
  refine hK _ (tn (Q4 (st':=⟨[(2,.own 3 0 v2167.length)],Y5 b2 v265 [(2,rI b2123.1),(3,rI v2167)],4⟩) (Wk.rP _ [(0,0),(1,1),(2,2),(4,3)] hP (by rfl) (by simp [hhOk,back,Cat.cells,SF.cells,XMonoidal.cells,UA,U1,IA,I1,LA,L1,BA,B1,EA,E1,E2,eB,eI,eL,Qd _ Q6 _ (fun _=>rfl)])) (Qf ?_)));clear hK K;cases h;first|refine iw_r (st':=⟨[(2,.own 3 0 v2167.length)],Y5 b2 v265 [(2,rI b2123.1),(3,rI v2167)],4⟩) ?_ ?_|refine iw_n (st':=⟨[(2,.own 3 0 v2167.length)],Y5 b2 v265 [(2,rI b2123.1),(3,rI v2167)],4⟩) ?_ ?_
  ·exact Wk.rP _ [(0,0),(1,1),(2,2),(3,3)] hP (by rfl) (by simp [hhOk,back,Cat.cells,SF.cells,XMonoidal.cells,UA,U1,IA,I1,LA,L1,BA,B1,EA,E1,E2,eB,eI,eL,Qd _ Q6 _ (fun _=>rfl)])
  exact ⟨by simp [Q1b],by simp,by simp [Cat.cells,SF.cells,XMonoidal.cells]⟩
 replace ⟨a2169,h⟩:=Q0 h;simp;repeat refine sdQ ?_
 refine hK _ ?_;clear hK K;refine tn (Q4 (st':=⟨[(11,.adr 0 0 0)],[(0,.mix 3 [[.own 1 0 b2.length,.cmap .str (Msi v265),.own 2 0 v2168.2.length]]),(1,.row 1 (Ls b2)),(2,rI v2168.2)],3⟩) (Wk.r1 [(0,0),(1,1),(3,2)] (by simp [hP,hhOk,back,Cat.cells,SF.cells,XMonoidal.cells,UA,U1,IA,I1,LA,L1,BA,B1,EA,E1,E2,eB,eI,eL,Qd _ Q6 _ (fun _=>rfl),a2169])) (Q1 (Ql [] mo (by rw [hN];decide) fun K hK=>?_)));simp;repeat refine sdQ ?_
 refine hK _ (tn (Q4 (st':=⟨[(8,.adr 0 0 0),(9,.val (.bool true))],[(0,.mix 3 [[.own 1 0 b2.length,.cmap .str (Msi v265),.own 2 0 v2168.2.length]]),(1,.row 1 (Ls b2)),(2,rI v2168.2)],3⟩) (Wk.r1 [(0,0),(1,1),(2,2)] (by simp [hP,hhOk,back,Cat.cells,SF.cells,XMonoidal.cells,UA,U1,IA,I1,LA,L1,BA,B1,EA,E1,E2,eB,eI,eL,Qd _ Q6 _ (fun _=>rfl),a2169])) (Qf ?_)));clear hK K;cases h;try dsimp only
 first|refine iw_r (st':=⟨[(8,.adr 0 0 0),(9,.val (.bool true))],[(0,.mix 3 [[.own 1 0 b2.length,.cmap .str (Msi v265),.own 2 0 v2168.2.length]]),(1,.row 1 (Ls b2)),(2,rI v2168.2)],3⟩) ?_ ?_|refine iw_n (st':=⟨[(8,.adr 0 0 0),(9,.val (.bool true))],[(0,.mix 3 [[.own 1 0 b2.length,.cmap .str (Msi v265),.own 2 0 v2168.2.length]]),(1,.row 1 (Ls b2)),(2,rI v2168.2)],3⟩) ?_ ?_
 ·exact Wk.r1 [(0,0),(1,1),(2,2)] (by simp [hP,hhOk,back,Cat.cells,SF.cells,XMonoidal.cells,UA,U1,IA,I1,LA,L1,BA,B1,EA,E1,E2,eB,eI,eL,Qd _ Q6 _ (fun _=>rfl),a2169])
 exact ⟨by simp [Q1b],by simp,by simp [Cat.cells,SF.cells,XMonoidal.cells]⟩
section
attribute [local simp] Qa Qy Qq QK Qu
section
variable {m:XMonoidal} {f g:SF} (h:DP m f g)
include h
set_option maxHeartbeats 8000000 in
theorem Q8h (z:Int):QN m f g z=some (if (dL m f g z).length≤256 then Sum.inr (dL m f g z,plL (dL m f g z),dC m f g z) else Sum.inl ()):=by
 have n:=h.c.nums;unfold QN;refine QC m.on_.id.length (fun x=>ctn (dX m f g z) x) (e:=dL m f g z) rfl (by omega) (fun x hx=>?_) (by simp only;rw [if_neg (by omega)];rfl) ?_
 ·have B5:=h.l5 z (n:=x) (by omega);simp only;rw [if_pos (by omega),Option.bind_assoc];refine QC m.on_.id.length (fun y=>ctn (dX m f g z) x++ctn (dY m f g z x) y) (e:=ctn (dX m f g z) (x+1)) (by simp [Q1m]) (by omega) (fun y hy=>?_) (by simp only;rw [if_neg (by omega),QX];rfl) ?_
  ·have B4:=h.l4 hx z (n:=y) (by omega);have o:=h.hm.pre.ob (f:=x) (g:=y) (by omega) (by omega);have H:=h.hl z x y;obtain ⟨F1,F2,F3⟩:=h.F hx;obtain ⟨G1,G2,G3⟩:=h.G hy;simp only;rw [if_pos (by omega),Q3 (by omega),Q3 (by omega),(Q7G h.c _ _).2,show homL m.on_ (ix (rx m.objects_ x) y) z=hmL m z x y from rfl];simp only [Option.bind_some];rw [Option.bind_assoc];refine QC (hmL m z x y).length (fun i=>ctn (dX m f g z) x++ctn (dY m f g z x) y++ctn (dI m f g z x y) i) (e:=ctn (dX m f g z) x++ctn (dY m f g z x) (y+1)) (by simp [Q1m]) (by omega) (fun i hi=>?_) (by simp only;rw [if_neg (by omega),QX,List.append_assoc];rfl) ?_
   ·have B3:=h.l3 hx hy z i;simp only;rw [if_pos (by omega),Q3 (by omega),Q3 (by omega),F1,Option.bind_assoc];refine QC (fzN f x) (fun e=>ctn (dX m f g z) x++ctn (dY m f g z x) y++ctn (dI m f g z x y) i++ctn (dE g x y (ix (hmL m z x y) i)) e) (e:=ctn (dX m f g z) x++ctn (dY m f g z x) y++ctn (dI m f g z x y) (i+1)) (by simp [Q1m]) (by omega) (fun e he=>?_) (by simp only;rw [if_neg (by omega),QX,List.append_assoc];rfl) ?_
    ·have B2:=h.l2 (x:=x) hy (ix (hmL m z x y) i) e;simp only;rw [if_pos (by omega),Q3 (by omega),G1,Option.bind_assoc];refine QC (fzN g y) (fun d=>ctn (dX m f g z) x++ctn (dY m f g z x) y++ctn (dI m f g z x y) i++ctn (dE g x y (ix (hmL m z x y) i)) e++tab d (d5 x y (ix (hmL m z x y) i) e)) (e:=ctn (dX m f g z) x++ctn (dY m f g z x) y++ctn (dI m f g z x y) i++ctn (dE g x y (ix (hmL m z x y) i)) (e+1)) (by simp [Q21]) (by omega) (fun d hd=>?_) (by simp only;rw [if_neg (by omega),QX,List.append_assoc];rfl) ?_
     ·simp only;rw [if_pos (by omega),Q3 (by simp only [List.length_append,Q1X,List.length_cons,List.length_nil];omega),Q3 (by unfold B64;omega),Q11];simp only [List.append_assoc];rfl
     simp only [Option.bind_some];rw [Q3 (by unfold B64;omega)]
    simp only [Option.bind_some];rw [Q3 (by unfold B64;omega)]
   simp only [Option.bind_some];rw [Q3 (by unfold B64;omega)]
  simp only [Option.bind_some];rw [Q3 (by unfold B64;omega)]
 have BL:(dL m f g z).length≤655360:=by
  have:=h.l5 z (Nat.le_refl m.on_.id.length);unfold dL;omega
 by_cases hN:(dL m f g z).length≤256
 case neg=>rw [if_pos (by omega),if_neg hN]
 rw [if_neg (by omega),if_pos hN,e_places (by omega) (fun l hl=>by obtain ⟨x,y,k,e,d,_,_,_,_,_,rfl⟩:=mem_dL.1 hl;simp [d5])];unfold Q2u;rw [e_numbers (by omega) (by omega)];simp only [Option.bind_some,Int.toNat_natCast];have hC:=h.dC_eq z;generalize hNN:(dL m f g z).length=N at hN hC ⊢;refine Q1h (σ:=List Int × Int) (Q:=fun o=>o=some (Sum.inr (dL m f g z,plL (dL m f g z),dC m f g z))) m.on_.fr.length (fun a s=>s.2=(a:Int)∧UF s.1 (RR (ctn (jA m f g z) a)) N) (fun j=>UF j (RR (jI0 m f g z)) N) (by omega) ⟨rfl,by simpa [Q1m,RR] using UF_id⟩ ?_ ?_ ?_
 ·rintro a ⟨j,ia⟩ ha ⟨hi,u⟩
  simp only at hi u;subst hi;left;obtain ⟨a1,a2,a3,a4⟩:=Q1F h.c ha;simp only;rw [if_pos (by omega),a1,a3,Option.bind_assoc];refine Q1h (σ:=List Int × Int) (Q:=fun o=>∃ s':List Int × Int,o=some (Ctl.next s')∧s'.2=((a+1:Nat):Int)∧UF s'.1 (RR (ctn (jA m f g z) (a+1))) N) m.on_.fr.length (fun b s=>s.2=(b:Int)∧UF s.1 (RR (ctn (jA m f g z) a++ctn (jB m f g z a) b)) N) (fun j=>UF j (RR (ctn (jA m f g z) (a+1))) N) (by omega) ⟨rfl,by simpa [Q1m] using u⟩ ?_ ?_ ?_
  ·rintro b ⟨j,ib⟩ hb ⟨hi,u⟩
   simp only at hi u;subst hi;left;obtain ⟨b1,b2,b3,b4⟩:=Q1F h.c hb;have o:=h.hm.pre.ob (f:=toN m.on_ a) (g:=toN m.on_ b) (by omega) (by omega);have H:=h.ht z a b;have arr:=h.hm.pre.ar (f:=a) (g:=b) (by omega) (by omega);simp only;rw [if_pos (by omega),b1,b3,Q3 (by omega),Q3 (by omega),Q3 (by omega),Q3 (by omega),(Q7G h.c _ _).2,show homL m.on_ (ix (rx m.objects_ (toN m.on_ a)) (toN m.on_ b)) z=hmT m z a b from rfl];simp only [Option.bind_some];rw [Option.bind_assoc];refine Q1h (σ:=List Int × Int) (Q:=fun o=>∃ s':List Int × Int,o=some (Ctl.next s')∧s'.2=((b+1:Nat):Int)∧UF s'.1 (RR (ctn (jA m f g z) a++ctn (jB m f g z a) (b+1))) N) (hmT m z a b).length (fun i s=>s.2=(i:Int)∧UF s.1 (RR (ctn (jA m f g z) a++ctn (jB m f g z a) b++ctn (jI m f g z a b) i)) N) (fun j=>UF j (RR (ctn (jA m f g z) a++ctn (jB m f g z a) (b+1))) N) (by omega) ⟨rfl,by simpa [Q1m] using u⟩ ?_ ?_ ?_
   ·rintro i ⟨j,ii⟩ hi ⟨hii,u⟩
    simp only at hii u;subst hii;left;have hk:Ar m.on_ (ix (hmT m z a b) i) (ix (rx m.objects_ (toN m.on_ a)) (toN m.on_ b)) z:=hm_at hi;have fl:=h.fl ha;have gl:=h.gl hb;obtain ⟨F1,F2,F3⟩:=h.F a2;obtain ⟨G1,G2,G3⟩:=h.G b2;simp only;rw [if_pos (by omega),Q3 (by omega),Q3 (by omega),fl.2,Option.bind_assoc];refine Q1h (σ:=List Int × Int) (Q:=fun o=>∃ s':List Int × Int,o=some (Ctl.next s')∧s'.2=((i+1:Nat):Int)∧UF s'.1 (RR (ctn (jA m f g z) a++ctn (jB m f g z a) b++ctn (jI m f g z a b) (i+1))) N) (fzN f (frN m.on_ a)) (fun e s=>s.2=(e:Int)∧UF s.1 (RR (ctn (jA m f g z) a++ctn (jB m f g z a) b++ctn (jI m f g z a b) i++ctn (jE m f g z a b (ix (hmT m z a b) i)) e)) N) (fun j=>UF j (RR (ctn (jA m f g z) a++ctn (jB m f g z a) b++ctn (jI m f g z a b) (i+1))) N) (by omega) ⟨rfl,by simpa [Q1m] using u⟩ ?_ ?_ ?_
    ·rintro e ⟨j,ie⟩ he ⟨hie,u⟩
     simp only at hie u;subst hie;left;obtain ⟨fa1,fa2,fa3,fa4⟩:=h.fa ha he;simp only;rw [if_pos (by omega),Q3 (by omega),Q3 (by omega),fa3,gl.2,Option.bind_assoc];refine Q1h (σ:=List Int × Int) (Q:=fun o=>∃ s':List Int × Int,o=some (Ctl.next s')∧s'.2=((e+1:Nat):Int)∧UF s'.1 (RR (ctn (jA m f g z) a++ctn (jB m f g z a) b++ctn (jI m f g z a b) i++ctn (jE m f g z a b (ix (hmT m z a b) i)) (e+1))) N) (fzN g (frN m.on_ b)) (fun d s=>s.2=(d:Int)∧UF s.1 (RR (ctn (jA m f g z) a++ctn (jB m f g z a) b++ctn (jI m f g z a b) i++ctn (jE m f g z a b (ix (hmT m z a b) i)) e++tab d (prD m f g z a b (ix (hmT m z a b) i) e))) N) (fun j=>UF j (RR (ctn (jA m f g z) a++ctn (jB m f g z a) b++ctn (jI m f g z a b) i++ctn (jE m f g z a b (ix (hmT m z a b) i)) (e+1))) N) (by omega) ⟨rfl,by simpa [Q21] using u⟩ ?_ ?_ ?_
     ·rintro d ⟨j,id⟩ hd ⟨hid,u⟩
      simp only at hid u;subst hid;left;obtain ⟨ga1,ga2,ga3,ga4⟩:=h.ga hb hd;obtain ⟨s1,_,t1⟩:=h.ps (h.in1 ha hb hk he hd);obtain ⟨s2,_,t2⟩:=h.ps (h.in2 ha hb hk he hd);rw [hNN] at s1 s2;obtain ⟨j',w,ej,u'⟩:=join_go u s1 s2 (by omega);have l1:=u.len;have l2:=u'.len;unfold dP1 d5 at t1;unfold dP2 d5 at t2;simp only;rw [if_pos (by omega),Q3 (by omega),Q3 (by omega),Q3 (by omega),Q3 (by omega),Q3 (by omega),ga3,(Q4E h.c ⟨arr.2.2.1,arr.2.2.2⟩ hk.1).2];simp only [Option.bind_some];rw [e_key (by simp)];simp only [Option.bind_some];rw [Q3 (by omega),Q3 (by omega),e_key (by simp)];simp only [Option.bind_some];rw [t1,t2];simp only [Option.getD_some];unfold joinE dP1 d5 dP2 at ej;unfold d5 at ej;rw [ej];simp only [Option.bind_some];rw [Q3 (by omega),Q3 (by unfold B64;omega)];refine ⟨_,rfl,by push_cast;rfl,?_⟩;rw [Q11,← List.append_assoc,RR_add (p:=prD m f g z a b (ix (hmT m z a b) i) e d) rfl];exact u'
     ·rintro ⟨j,ii⟩ ⟨hi,u⟩
      simp only at hi u;subst hi;simp only;rw [if_neg (by omega)];exact ⟨_,rfl,by rw [QX,← List.append_assoc];exact u⟩
     intro j u;simp only [Option.bind_some];rw [Q3 (by unfold B64;omega)];exact ⟨_,rfl,by push_cast;rfl,u⟩
    ·rintro ⟨j,ii⟩ ⟨hi,u⟩
     simp only at hi u;subst hi;simp only;rw [if_neg (by omega)];exact ⟨_,rfl,by rw [QX,← List.append_assoc];exact u⟩
    intro j u;simp only [Option.bind_some];rw [Q3 (by unfold B64;omega)];exact ⟨_,rfl,by push_cast;rfl,u⟩
   ·rintro ⟨j,ii⟩ ⟨hi,u⟩
    simp only at hi u;subst hi;simp only;rw [if_neg (by omega)];exact ⟨_,rfl,by rw [QX,← List.append_assoc];exact u⟩
   intro j u;simp only [Option.bind_some];rw [Q3 (by unfold B64;omega)];exact ⟨_,rfl,by push_cast;rfl,u⟩
  ·rintro ⟨j,ii⟩ ⟨hi,u⟩
   simp only at hi u;subst hi;simp only;rw [if_neg (by omega)];exact ⟨_,rfl,by rw [QX];exact u⟩
  intro j u;simp only [Option.bind_some];rw [Q3 (by unfold B64;omega)];exact ⟨_,rfl,by push_cast;rfl,u⟩
 ·rintro ⟨j,ii⟩ ⟨hi,u⟩
  simp only at hi u;subst hi;simp only;rw [if_neg (by omega)];exact ⟨_,rfl,u⟩
 intro j u;have l:=u.len;try simp only
 rw [Q3 (by omega),l];generalize hr:RR (jI0 m f g z)=r at u hC;rw [Option.bind_assoc];refine Q1h (σ:=List Int × List Int × Int) (Q:=fun o=>o=some (Sum.inr (dL m f g z,plL (dL m f g z),dC m f g z))) N (fun i s=>s.2=(tab i (fun x=>(r x:Int))++List.replicate (N - i) 0,(i:Int))∧UF s.1 r N) (fun e=>e.2=tab N (fun x=>(r x:Int))∧UF e.1 r N) (by omega) ⟨by simp [Q21],u⟩ ?_ ?_ ?_
 ·rintro i ⟨j,o,k⟩ hi ⟨hk,u⟩
  simp only [Prod.mk.injEq] at hk u;obtain ⟨rfl,rfl⟩:=hk;left;obtain ⟨j1,e1,w1⟩:=Q7a i j fuel u hi (by unfold fuel;omega);have l1:=u.len;have l2:=w1.len;simp only;rw [if_pos (by omega),e1];simp only [Option.bind_some];rw [Q3 (by omega),Q3 (by simp;omega),Q3 (by unfold B64;omega)];refine ⟨_,rfl,?_,w1⟩;refine Prod.ext ?_ (by push_cast;rfl);simp only [Int.toNat_natCast];rw [show N - i=(N - (i+1))+1 by omega,Q4P _ _ _ _ (by simp),Q11]
 ·rintro ⟨j,o,k⟩ ⟨hk,u⟩
  simp only [Prod.mk.injEq] at hk u;obtain ⟨rfl,rfl⟩:=hk;simp only;rw [if_neg (by omega)];exact ⟨_,rfl,by simp,u⟩
 rintro ⟨j,o⟩ ⟨ho,u⟩
 try simp only at ho u
 have l1:=u.len;rw [ho];simp only;rw [e_normal (fun x hx=>⟨u.le x hx,u.rr hx⟩) (by omega)];simp only [Option.bind_some];rw [Q3 (by omega),hC]
end
end
attribute [local simp] unk unA unE unT unC flat eL eI Qs
noncomputable def Q2n (sizes_:List Int):Option Bool :=
 (Q2j sizes_ 17).bind fun v1 =>
 some v1
theorem Q7o (sizes_:List Int) (r:Bool) (h:Q2n sizes_=some r):Contract Try.prog 47 [lI sizes_] (.val (.bool r)):=by
 refine Qh (rvs:=[.tmp 2]) (rs:=[.val (.bool r)]) Try.func47 rfl rfl rfl rfl (by simp [Try.f47]) fun F hN hP=>?_;unfold Q2n at h;refine Q1 (runQ hN fun K hK=>?_);simp;repeat refine sdQ ?_
 refine hK _ ?_;clear hK K;refine tn (Q4 (st':=⟨[(0,lI sizes_)],[],0⟩) (Q29 []) (Q1 (runQ hN fun K hK=>?_)));simp;repeat with_reducible refine sdQ ?_
 replace ⟨v1,hv1,h⟩:=bind_some h;refine Q2 (Q5z _ _ v1 hv1) (.cons .lst (.cons .val .nil)) ?_;simp;repeat refine sdQ ?_
 refine hK _ (tn (Q4 (st':=⟨[(2,.val (.bool v1))],[],0⟩) (Q29 []) (Qf ?_)));clear hK K;have hr:=Option.some.inj h;rw [← hr];refine ⟨_,(.tmp .nil),?_⟩;refine ⟨(.one rfl rfl .nil),[.val (.bool v1)],[],by simp [UA,U1,IA,I1,LA,L1,BA,B1,EA,E1,E2,eB,eI,eL],by simp,(UpL.refl _)⟩
end Go.Vc.T
