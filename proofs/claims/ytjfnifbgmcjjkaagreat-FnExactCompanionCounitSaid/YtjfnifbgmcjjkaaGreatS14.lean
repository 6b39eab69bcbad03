/- A part of the proof: a verified generator of conditions, and what each function of the program does. -/
import Derived.Test.YtjfnifbgmcjjkaaGreatS13
set_option maxRecDepth 100000
set_option maxHeartbeats 4000000
set_option linter.unusedSimpArgs false
set_option linter.unusedVariables false

namespace Go.Vc.T
open Go Go.Vc Go.Proofs
attribute [local simp] unk unA unE unT unC flat eL eI Qr Q1g Prf.cells
@[simp] theorem Is_dropE (xs:List Int) (k:Nat):List.drop k (Is xs)=Is (xs.drop k):=by simp [Is,List.map_drop]
noncomputable def Q3E (p_:Prf) (list_:List Int):Option (List (List (List Int))) :=
 (Qy (σ:=List (List (List Int)) × Int) (ε:=List (List (List Int))) (fun s25 =>
  if s25.2<p_.s.n then
   (Qy (σ:=List (List Int) × Int) (ε:=List (List Int)) (fun s37 =>
    if s37.2<p_.t.n then
     (Q1T p_ s25.2 s37.2).bind fun v39 =>
     ass (0≤s25.2∧s25.2<(p_.sz.length:Int)) <|
     ass (0≤s37.2∧s37.2<((rx p_.sz s25.2).length:Int)) <|
     ass (B64 (v39+(ix (rx p_.sz s25.2) s37.2))) <|
     ass ((0:Int)≤v39∧v39≤v39+(ix (rx p_.sz s25.2) s37.2)∧v39+(ix (rx p_.sz s25.2) s37.2)≤(list_.length:Int)) <|
     (Q2T ((list_.drop v39.toNat).take ((v39+(ix (rx p_.sz s25.2) s37.2) - v39).toNat))).bind fun v44 =>
     ass ((s37.1++[v44]).length≤1073741824) <|
     ass (B64 (s37.2+1)) <|
     some (Ctl.next (s37.1++[v44],s37.2+1))
    else
     some (Ctl.ret s37.1)) fuel ([],0)).bind fun b27 =>
   ass ((s25.1++[b27]).length≤1073741824) <|
   ass (B64 (s25.2+1)) <|
   some (Ctl.next (s25.1++[b27],s25.2+1))
  else
   some (Ctl.ret s25.1)) fuel ([],0)).bind fun b1 =>
 some b1
theorem Q13 {F : Fx} {st st' : St} (m : List (Nat × Nat)) (h : (m.map Prod.fst).Nodup ∧ (m.map Prod.snd).Nodup ∧ (∀ id, id < F.pins → look id m = some id) ∧ (∀ p ∈ m, p.2 < st'.n) ∧ (∀ p ∈ st'.h, p.1 < st'.n) ∧ (∀ p ∈ st'.s, p.2 = rl m (st.get p.1) ∨ p.2 = .bot) ∧ ∀ p ∈ st'.h, hhOk m st.h p.1 p.2 := by simp [hP, hhOk, back, idQ, Prf.cells, UA, U1, IA, I1, LA, L1, BA, B1, EA, E1, E2, eB, eI, eL, Cat.cells, Fn.cells, XTripleint64.cells, Q8 _ Q9 _ (fun _=>rfl), XComposite.cells, Q8 _ Qk _ (fun _=>rfl), Q8 _ (XTripleint64.cells true) _ (fun _=>rfl), Q8 _ (fun x=>[.lst true 1 (Es (fun x=>[.lst true 3 (Es (XTripleint64.cells true) x)]) x)]) _ (fun _=>rfl), Q8 _ (fun x=>[.lst true 3 (Es (XTripleint64.cells true) x)]) _ (fun _=>rfl), XL32Composite.cells, Q8 _ Qs _ (fun _=>rfl), Q8 _ (fun x=>[.lst true 1 (Es eL x)]) _ (fun _=>rfl)]) : Wk F st st' := Wk.r1 m h
theorem Q3z {F : Fx} {st st' : St} (m : Nat) (h : ((idQ m).map Prod.fst).Nodup ∧ ((idQ m).map Prod.snd).Nodup ∧ (∀ id, id < F.pins → look id (idQ m) = some id) ∧ (∀ p ∈ (idQ m), p.2 < st'.n) ∧ (∀ p ∈ st'.h, p.1 < st'.n) ∧ (∀ p ∈ st'.s, p.2 = rl (idQ m) (st.get p.1) ∨ p.2 = .bot) ∧ ∀ p ∈ st'.h, hhOk (idQ m) st.h p.1 p.2 := by simp [hP, hhOk, back, idQ, Prf.cells, UA, U1, IA, I1, LA, L1, BA, B1, EA, E1, E2, eB, eI, eL, Cat.cells, Fn.cells, XTripleint64.cells, Q8 _ Q9 _ (fun _=>rfl), XComposite.cells, Q8 _ Qk _ (fun _=>rfl), Q8 _ (XTripleint64.cells true) _ (fun _=>rfl), Q8 _ (fun x=>[.lst true 1 (Es (fun x=>[.lst true 3 (Es (XTripleint64.cells true) x)]) x)]) _ (fun _=>rfl), Q8 _ (fun x=>[.lst true 3 (Es (XTripleint64.cells true) x)]) _ (fun _=>rfl), XL32Composite.cells, Q8 _ Qs _ (fun _=>rfl), Q8 _ (fun x=>[.lst true 1 (Es eL x)]) _ (fun _=>rfl)]) : Wk F st st' := Wk.r1 (idQ m) h
@[simp] abbrev Y0o (a:List Int) (b:List (List (List Int)) × Int) (c:List (Nat × AV)):List (Nat × AV):=(1,lI a)::(2,.adr 0 0 0)::(5,.own 1 0 b.1.length)::(6,iV b.2)::c
theorem Q8s (p_:Prf) (list_:List Int) (r:List (List (List Int))) (h:Q3E p_ list_=some r):Contract Tryz.prog 58 [.agg (p_.cells true),lI list_] (.lst true 1 (Es eL r)):=by
 refine Qc (rvs:=[.tmp 4]) (rs:=[.lst true 1 (Es eL r)]) Tryz.func58 rfl rfl rfl rfl (by simp [Tryz.f58]) fun F hN hP=>?_;unfold Q3E at h;refine Q3 (runQ hN fun K hK=>?_);simp;repeat refine sdQ ?_
 refine hK _ ?_;clear hK K;refine tn (Q7 (st':=⟨[(1,lI list_),(2,.adr 0 0 0)],YY p_ [],1⟩) (Q13 [(0,0)]) (Q3 (runQ hN fun K hK=>?_)));simp;repeat refine sdQ ?_
 refine hK _ ?_;clear hK K;refine tn (Q7 (st':=⟨[(1,lI list_),(2,.adr 0 0 0),(5,.own 1 0 0)],YY p_ [(1,.mix 1 [])],2⟩) (Q13 [(0,0),(1,1)]) (Q3 (Q3 (runQ hN fun K hK=>?_))));simp;repeat refine sdQ ?_
 refine hK _ (tn (Q7 (st':=⟨[(1,lI list_),(2,.adr 0 0 0),(5,.own 1 0 0),(6,iV 0)],YY p_ [(1,.mix 1 [])],2⟩) (Q13 [(0,0),(1,1)]) ?_));clear hK K;replace ⟨e1,h,h1⟩:=bind_some h;refine Qg (fun b1:List (List (List Int))=>⟨[(5,.own 0 0 b1.length)],[(0,.row 1 (Es eL b1))],1⟩) (fun b1=>b1=e1) ?_ ?_
 ·refine Qa (Qn h (fun s25:List (List (List Int)) × Int=>⟨Y0o list_ s25 [],YY p_ [(1,.row 1 (Es eL s25.1))],2⟩) (Q1J ⟨[(1,lI list_),(2,.adr 0 0 0),(5,.own 1 0 0),(6,iV 0)],YY p_ [(1,.row 1 (Es eL []))],2⟩ (Wk.nils [] (by simp) (by simp) (by simp [nlA]) (by simp [entN,nlL,nlA,Prf.cells,UA,U1,IA,I1,LA,L1,BA,B1,EA,E1,E2,eB,eI,eL]) (by simp)) (Q13 [(0,0),(1,1)])) ?_);clear h;intro k25 s25 c25 h hk25;refine Q3 (Q3 (runQ hN fun K hK=>?_));simp;repeat refine sdQ ?_
  refine hK _ ?_;clear hK K;refine tn (Qd rfl (fun g=>?_) fun g=>?_)
  ·have g26:s25.2<p_.s.n:=gQ;clear g;replace h:=if_l g26 h;refine Qe (tn (Q3 (Qa (Q3 (runQ hN fun K hK=>?_)))));simp;(repeat refine sdQ ?_);refine hK _ ?_;clear hK K;refine tn (Q7 (st':=⟨Y0o list_ s25 [(7,.own 2 0 0)],YY p_ [(1,.row 1 (Es eL s25.1)),(2,.mix 1 [])],3⟩) (Q3z 3) (Q3 (Q3 (runQ hN fun K hK=>?_))));simp;(repeat refine sdQ ?_);refine hK _ (tn (Q7 (st':=⟨Y0o list_ s25 [(7,.own 2 0 0),(8,iV 0)],YY p_ [(1,.row 1 (Es eL s25.1)),(2,.mix 1 [])],3⟩) (Q3z 3) ?_));clear hK K;replace ⟨e27,h,h27⟩:=bind_some h;refine Qg (fun b27:List (List Int)=>⟨Y0o list_ s25 [(7,.own 2 0 b27.length)],YY p_ [(1,.row 1 (Es eL s25.1)),(2,.row 1 (Ls b27))],3⟩) (fun b27=>b27=e27) ?_ ?_
   ·refine Qa (Qn h (fun s37:List (List Int) × Int=>⟨Y0o list_ s25 [(7,.own 2 0 s37.1.length),(8,iV s37.2)],YY p_ [(1,.row 1 (Es eL s25.1)),(2,.row 1 (Ls s37.1))],3⟩) (Q1J ⟨Y0o list_ s25 [(7,.own 2 0 0),(8,iV 0)],YY p_ [(1,.row 1 (Es eL s25.1)),(2,.row 1 (Ls []))],3⟩ (Wk.nils [] (by simp) (by simp) (by simp [nlA]) (by simp [entN,nlL,nlA,Prf.cells,UA,U1,IA,I1,LA,L1,BA,B1,EA,E1,E2,eB,eI,eL]) (by simp)) (Q3z 3)) ?_);clear h;intro k37 s37 c37 h hk37;refine Q3 (Q3 (runQ hN fun K hK=>?_));simp;(repeat refine sdQ ?_);refine hK _ ?_;clear hK K;refine tn (Qd rfl (fun g=>?_) fun g=>?_)
    ·have g38:s37.2<p_.t.n:=gQ;clear g;replace h:=if_l g38 h;refine Qe (tn (Q3 (Qa (Q3 (runQ hN fun K hK=>?_)))));simp;(repeat with_reducible refine sdQ ?_);replace ⟨v39,hv39,h⟩:=bind_some h;refine Q6 (Q5j _ _ _ v39 hv39) (.cons (.aggL (.cons .val (.cons .lst (.cons .lst (.cons .lst (.cons .lst (.cons .val (.cons .lst (.cons .lst (.cons .lst (.cons .lst (.cons .lst (.cons .lst (.cons .lst .nil)))))))))))))) (.cons .val (.cons .val .nil))) ?_;simp;(repeat refine sdQ ?_);refine hK _ ?_;clear hK K;refine tn (Q7 (st':=⟨Y0o list_ s25 [(7,.own 2 0 s37.1.length),(8,iV s37.2),(9,iV v39)],YY p_ [(1,.row 1 (Es eL s25.1)),(2,.row 1 (Ls s37.1))],3⟩) (Q3z 3) (runQ hN fun K hK=>?_));replace ⟨a40,h⟩:=Q0 h;replace ⟨a41,h⟩:=Q0 h;replace ⟨a42,h⟩:=Q0 h;replace ⟨a43,h⟩:=Q0 h;simp [at_L a40,at_I a41,Qh a42];(repeat with_reducible refine sdQ ?_);replace ⟨v44,hv44,h⟩:=bind_some h;refine Q6 (Q5A _ v44 hv44) (.cons .lst .nil) ?_;replace ⟨a45,h⟩:=Q0 h;(try simp only [List.length_append,List.length_cons,List.length_nil] at a45);simp [at_L a40,at_I a41,a45];(repeat refine sdQ ?_);refine hK _ ?_;clear hK K;refine bn (tn (Q7 (st':=⟨Y0o list_ s25 [(7,.own 2 0 ((s37.1++[v44]).length)),(8,iV s37.2)],YY p_ [(1,.row 1 (Es eL s25.1)),(2,.row 1 (Ls (s37.1++[v44])))],3⟩) (Q13 [(0,0),(1,1),(5,2)]) (runQ hN fun K hK=>?_)));replace ⟨a46,h⟩:=Q0 h;simp [Qh a46];(repeat refine sdQ ?_);refine hK _ ?_;clear hK K;cases h;exact rn (s':=(s37.1++[v44],s37.2+1)) hk37 (Q3z 3)
    have g38:¬ (s37.2<p_.t.n):=gQ;clear g;replace h:=if_r g38 h;refine Qm (tx (lx (bh ?_)));cases h;exact jn (b:=s37.1) hk37 (Q3z 3)
   intro b27 hb27;have h:=h27;(try rw [← hb27] at h);clear h27;(try dsimp only at h);refine runQ hN fun K hK=>?_;replace ⟨a47,h⟩:=Q0 h;(try simp only [List.length_append,List.length_cons,List.length_nil] at a47);simp [a47];(repeat refine sdQ ?_);refine hK _ ?_;clear hK K;refine bn (tn (Q7 (st':=⟨[(1,lI list_),(2,.adr 0 0 0),(5,.own 1 0 ((s25.1++[b27]).length)),(6,iV s25.2)],YY p_ [(1,.row 1 (Es eL (s25.1++[b27])))],2⟩) (Q13 [(0,0),(4,1)]) (runQ hN fun K hK=>?_)));replace ⟨a48,h⟩:=Q0 h;simp [Qh a48];(repeat refine sdQ ?_);refine hK _ ?_;clear hK K;cases h;exact rn (s':=(s25.1++[b27],s25.2+1)) hk25 (Q13 [(0,0),(1,1)])
  have g26:¬ (s25.2<p_.s.n):=gQ;clear g;replace h:=if_r g26 h;refine Qm (tx (lx (bh ?_)));cases h;exact jn (b:=s25.1) hk25 (Q13 [(1,0)])
 intro b1 hb1;have h:=h1;try rw [← hb1] at h
 clear h1;try dsimp only at h
 refine Q3 (runQ hN fun K hK=>?_);simp;repeat refine sdQ ?_
 refine hK _ (tn (Q7 (st':=⟨[(4,.own 0 0 b1.length)],[(0,.row 1 (Es eL b1))],1⟩) (Q13 [(0,0)]) (Qo ?_)));clear hK K;have hr:=Option.some.inj h;rw [← hr];refine ⟨_,(.tmp .nil),?_⟩;refine ⟨(.one rfl rfl .nil),[.lst true 1 (Es eL b1)],[0],by simp [Prf.cells,UA,U1,IA,I1,LA,L1,BA,B1,EA,E1,E2,eB,eI,eL],by simp,(UpL.refl _)⟩
attribute [local simp] unk unA unE unT unC flat eL eI Qr Q1g Prf.cells
noncomputable def Q36 (p_:Prf):Option (List (List (List Int))) :=
 (Q1T p_ p_.s.n 0).bind fun v1 =>
 ass (0≤v1∧v1≤1073741824) <|
 (Q3E p_ (List.replicate v1.toNat 0)).bind fun v3 =>
 some v3
theorem Q8r (p_:Prf) (r:List (List (List Int))) (h:Q36 p_=some r):Contract Tryz.prog 22 [.agg (p_.cells true)] (.lst true 1 (Es eL r)):=by
 refine Qc (rvs:=[.tmp 2]) (rs:=[.lst true 1 (Es eL r)]) Tryz.func22 rfl rfl rfl rfl (by simp [Tryz.f22]) fun F hN hP=>?_;unfold Q36 at h;refine Q3 (runQ hN fun K hK=>?_);simp;repeat refine sdQ ?_
 refine hK _ ?_;clear hK K;refine tn (Q7 (st':=⟨Y0J [],YY p_ [],1⟩) (Q13 [(0,0)]) (Q3 (runQ hN fun K hK=>?_)));simp;repeat with_reducible refine sdQ ?_
 replace ⟨v1,hv1,h⟩:=bind_some h;refine Q6 (Q5j _ _ _ v1 hv1) (.cons (.aggL (.cons .val (.cons .lst (.cons .lst (.cons .lst (.cons .lst (.cons .val (.cons .lst (.cons .lst (.cons .lst (.cons .lst (.cons .lst (.cons .lst (.cons .lst .nil)))))))))))))) (.cons .val (.cons .val .nil))) ?_;replace ⟨a2,h⟩:=Q0 h;simp;repeat with_reducible refine sdQ ?_
 replace ⟨v3,hv3,h⟩:=bind_some h;refine Q6 (Q8s _ _ v3 hv3) (.cons (.aggL (.cons .val (.cons .lst (.cons .lst (.cons .lst (.cons .lst (.cons .val (.cons .lst (.cons .lst (.cons .lst (.cons .lst (.cons .lst (.cons .lst (.cons .lst .nil)))))))))))))) (.cons .w .nil)) ?_;simp;repeat refine sdQ ?_
 refine hK _ (tn (Q7 (st':=⟨[(2,.own 0 0 v3.length)],[(0,.row 1 (Es eL v3))],1⟩) (Q13 [(3,0)]) (Qo ?_)));clear hK K;have hr:=Option.some.inj h;rw [← hr];refine ⟨_,(.tmp .nil),?_⟩;refine ⟨(.one rfl rfl .nil),[.lst true 1 (Es eL v3)],[0],by simp [Prf.cells,UA,U1,IA,I1,LA,L1,BA,B1,EA,E1,E2,eB,eI,eL],by simp,(UpL.refl _)⟩
section
attribute [local simp] Ql Q11 QE Q1j QW
noncomputable def rsum (p:Prf) (x:Nat):Nat→Nat
 | 0=>0
 | y+1=>rsum p x y+(ix (rx p.sz x) y).toNat
noncomputable def offN (p:Prf) (m:Nat):Nat→Nat
 | 0=>0
 | x+1=>offN p m x+rsum p x m
structure Prf.E (p:Prf):Prop where
 n8:0≤p.s.n∧p.s.n≤8∧0≤p.t.n∧p.t.n≤8
 ls:(p.sz.length:Int)=p.s.n
 row:∀ x:Nat,(x:Int)<p.s.n→((rx p.sz x).length:Int)=p.t.n∧∀ y:Nat,(y:Int)<p.t.n→0≤ix (rx p.sz x) y∧ix (rx p.sz x) y≤64
theorem Q6s {p:Prf} (h:p.E) {x:Nat} (hx:(x:Int)<p.s.n):∀ {m:Nat},(m:Int)≤p.t.n→rsum p x m≤m * 64
 | 0,_=>Nat.le_refl _
 | m+1,hm=>by
  have:=Q6s h hx (m:=m) (by omega);have:=((h.row x hx).2 m (by omega)).2;simp only [rsum];omega
theorem Q8d {p:Prf} {x:Nat} {y:Nat}:∀ {m:Nat},y<m→rsum p x y+(ix (rx p.sz x) y).toNat≤rsum p x m
 | 0,h=>absurd h (by omega)
 | m+1,h=>by
  rcases Nat.lt_or_ge y m with q|q
  ·have:=Q8d (p:=p) (x:=x) q;simp only [rsum];omega
  have h1:y=m:=by omega
  subst h1;simp only [rsum];omega
theorem Q89 {p:Prf} {m:Nat} {x:Nat}:∀ {n:Nat},x<n→offN p m x+rsum p x m≤offN p m n
 | 0,h=>absurd h (by omega)
 | n+1,h=>by
  rcases Nat.lt_or_ge x n with q|q
  ·have:=Q89 (p:=p) (m:=m) q;simp only [offN];omega
  have h1:x=n:=by omega
  subst h1;simp only [offN];omega
theorem Q7p {p:Prf} (h:p.E) {m:Nat} (hm:(m:Int)≤p.t.n):∀ {n:Nat},(n:Int)≤p.s.n→offN p m n≤n * 512
 | 0,_=>Nat.le_refl _
 | n+1,hn=>by
  have:=Q7p h hm (n:=n) (by omega);have:=Q6s h (x:=n) (by omega) hm;have:=h.n8;simp only [offN];omega
noncomputable def offR (p:Prf) (m x y i:Nat):Nat:=if i≤x then offN p m i else offN p m x+(if x<i then rsum p x (min y m) else 0)
noncomputable def offC (p:Prf) (m x y i j:Nat):Nat:=offR p m x y i+(if i<x then rsum p i j else if i=x then rsum p x (min y j) else 0)
theorem offC_zero (p:Prf) (m x y i:Nat):offC p m x y i 0=offR p m x y i:=by
 unfold offC
 by_cases q:i<x
 ·rw [if_pos q];rfl
 rw [if_neg q]
 by_cases w:i=x
 ·rw [if_pos w,Nat.min_zero];rfl
 rw [if_neg w];rfl
theorem offC_end (p:Prf) (m x y i:Nat):offC p m x y i m=offR p m x y (i+1):=by
 rcases Nat.lt_trichotomy i x with q|q|q
 ·rw [offC,offR,offR,if_pos (show i≤x by omega),if_pos q,if_pos (show i+1≤x by omega)];rfl
 ·subst q;rw [offC,offR,offR,if_pos (Nat.le_refl i),if_neg (Nat.lt_irrefl i),if_pos rfl,if_neg (show ¬ i+1≤i by omega),if_pos (show i<i+1 by omega)]
 rw [offC,offR,offR,if_neg (show ¬ i≤x by omega),if_pos q,if_neg (show ¬ i<x by omega),if_neg (show ¬ i=x by omega),if_neg (show ¬ i+1≤x by omega),if_pos (show x<i+1 by omega)];rfl
theorem offC_in {p:Prf} {m x y i j:Nat} (h:i<x∨(i=x∧j<y)):offC p m x y i (j+1)=offC p m x y i j+(ix (rx p.sz i) j).toNat:=by
 rcases h with q|⟨rfl,w⟩
 ·simp only [offC,if_pos q,rsum];omega
 simp only [offC,Nat.lt_irrefl,if_false,if_true,Nat.min_eq_right (show j+1≤y by omega),Nat.min_eq_right (show j≤y by omega),rsum];omega
theorem offC_out {p:Prf} {m x y i j:Nat} (h:¬ (i<x∨(i=x∧j<y))):offC p m x y i (j+1)=offC p m x y i j:=by
 have q:¬ i<x:=by omega
 by_cases w:i=x
 ·subst w;simp only [offC,Nat.lt_irrefl,if_false,if_true,Nat.min_eq_left (show y≤j+1 by omega),Nat.min_eq_left (show y≤j by omega)]
 simp only [offC,if_neg q,if_neg w]
theorem offR_le {p:Prf} (h:p.E) {m x y i:Nat} (hm:(m:Int)≤p.t.n) (hi:(i:Int)≤p.s.n):offR p m x y i≤8192:=by
 have n8:=h.n8;unfold offR
 by_cases q:i≤x
 ·rw [if_pos q];have:=Q7p h hm hi;omega
 rw [if_neg q,if_pos (by omega)];have:=Q7p h hm (n:=x) (by omega);have:=Q6s h (x:=x) (by omega) (m:=min y m) (by omega);omega
theorem offC_le {p:Prf} (h:p.E) {m x y i j:Nat} (hm:(m:Int)=p.t.n) (hi:(i:Int)<p.s.n) (hj:j≤m):offC p m x y i j≤16384:=by
 have n8:=h.n8;have:=offR_le h (x:=x) (y:=y) (i:=i) (m:=m) (by omega) (by omega);have:=Q6s h (x:=i) hi (m:=j) (by omega);unfold offC
 by_cases q:i<x
 ·rw [if_pos q];omega
 rw [if_neg q]
 by_cases w:i=x
 ·subst w;rw [if_pos rfl];have:=Q6s h (x:=i) hi (m:=min y j) (by omega);omega
 rw [if_neg w];omega
theorem Q9v {p:Prf} (h:p.E) {x y:Nat}:Q1T p x y=some (offR p p.t.n.toNat x y p.s.n.toNat:Int):=by
 have n8:=h.n8;generalize hm:p.t.n.toNat=m;generalize hn:p.s.n.toNat=n;unfold Q1T;refine QY n (fun i=>(offR p m x y i:Int)) (e:=(offR p m x y n:Int)) (by simp [offR,offN]) (by omega) (fun i hi=>?_) (by simp only;rw [if_neg (by omega)]) rfl;have r:=h.row i (by omega);simp only;rw [if_pos (by omega),Option.bind_assoc];refine QY m (fun j=>(offC p m x y i j:Int)) (e:=(offR p m x y (i+1):Int)) (by rw [offC_zero]) (by omega) (fun j hj=>?_) (by simp only;rw [if_neg (by omega),offC_end]) ?_
 ·have r2:=r.2 j (by omega);have l1:=h.ls;have b:=offC_le h (x:=x) (y:=y) (m:=m) (i:=i) (j:=j) (by omega) (by omega) (by omega);simp only;rw [if_pos (by omega)]
  by_cases q:i<x∨(i=x∧j<y)
  ·have e1:(if (i:Int)<(x:Int) then some true else if (i:Int)=(x:Int) then some (decide ((j:Int)<(y:Int))) else some false:Option Bool)=some true:=by
    rcases q with w|⟨w1,w2⟩
    ·rw [if_pos (by omega)]
    rw [if_neg (by omega),if_pos (by omega)];simp;omega
   rw [e1];simp only [Option.bind_some,if_true];rw [Q4 (by omega),Q4 (by omega),Q4 (by unfold B64;omega)];simp only [Option.bind_some];rw [Q4 (by unfold B64;omega),offC_in q];have e2:((offC p m x y i j+(ix (rx p.sz i) j).toNat:Nat):Int)=(offC p m x y i j:Int)+ix (rx p.sz i) j:=(by omega);rw [e2]
  have e1:(if (i:Int)<(x:Int) then some true else if (i:Int)=(x:Int) then some (decide ((j:Int)<(y:Int))) else some false:Option Bool)=some false:=by
   rw [if_neg (by omega)]
   by_cases w:(i:Int)=(x:Int)
   ·rw [if_pos w];simp;omega
   rw [if_neg w]
  rw [e1];simp only [Option.bind_some,Bool.false_eq_true,if_false];rw [Q4 (by unfold B64;omega),offC_out q]
 simp only [Option.bind_some];rw [Q4 (by unfold B64;omega)]
noncomputable def zerP (p:Prf):List (List (List Int)):=tab p.s.n.toNat fun x=>tab p.t.n.toNat fun y=>List.replicate (ix (rx p.sz x) y).toNat 0
theorem Qa8 {p:Prf} (h:p.E):Q36 p=some (zerP p):=by
 have n8:=h.n8;unfold Q36 Q3E;have e0:Q1T p p.s.n 0=some (offN p p.t.n.toNat p.s.n.toNat:Int):=by
  have:=Q9v h (x:=p.s.n.toNat) (y:=0);rw [Int.toNat_of_nonneg n8.1] at this;rw [show (0:Int)=((0:Nat):Int) from rfl,this];simp [offR]
 rw [e0];simp only [Option.bind_some];have tot:=Q7p h (m:=p.t.n.toNat) (by omega) (n:=p.s.n.toNat) (by omega);generalize hm:p.t.n.toNat=m at *;generalize hn:p.s.n.toNat=n at *;rw [Q4 (by omega),Option.bind_assoc];refine tabg n (fun x=>tab m fun y=>List.replicate (ix (rx p.sz x) y).toNat 0) (e:=zerP p) (by omega) (fun x hx=>?_) (by simp only;rw [if_neg (by omega)];unfold zerP;rw [hm,hn]) rfl;have r:=h.row x (by omega);simp only;rw [if_pos (by omega)];refine tabg m (fun y=>List.replicate (ix (rx p.sz x) y).toNat 0) (e:=tab m fun y=>List.replicate (ix (rx p.sz x) y).toNat 0) (by omega) (fun y hy=>?_) (by simp only;rw [if_neg (by omega)]) rfl;have r2:=r.2 y (by omega);have l1:=h.ls;have eo:offR p m x y n=offN p m x+rsum p x y:=by
  unfold offR;rw [if_neg (by omega),if_pos (by omega),Nat.min_eq_left (by omega)]
 have m1:=Q8d (p:=p) (x:=x) hy;have m2:=Q89 (p:=p) (m:=m) hx;have eO:=Q9v h (x:=x) (y:=y);rw [hm,hn,eo] at eO;simp only;rw [if_pos (by omega),eO];simp only [Option.bind_some];rw [Q4 (by omega),Q4 (by omega),Q4 (by unfold B64;omega),Q4 (by simp;omega)];have el:((List.replicate (offN p m n:Int).toNat (0:Int)).drop ((offN p m x+rsum p x y:Nat):Int).toNat).take ((((offN p m x+rsum p x y:Nat):Int)+ix (rx p.sz x) y - ((offN p m x+rsum p x y:Nat):Int)).toNat)=List.replicate (ix (rx p.sz x) y).toNat 0:=by
  rw [List.drop_replicate,List.take_replicate]
  congr 1
  omega
 rw [el];unfold Q2T;rw [Q4 (by simp;omega)];rfl
end
attribute [local simp] unk unA unE unT unC flat eL eI Qr Q16 Q3k Q1g Cat.cells Fn.cells Prf.cells
noncomputable def Q2E (f_:Fn):Option Prf :=
 (Q2v f_.t).bind fun v1 =>
 (Q2Q f_ v1).bind fun v2 =>
 some v2
@[simp] abbrev YX (a:Prf) (b:List (Nat × Ent)):List (Nat × Ent):=(0,.mix 13 [[iV a.s.n,.own 1 0 a.s.fr.length,.own 2 0 a.s.to.length,.own 3 0 a.s.id.length,.own 4 0 a.s.cs.length,iV a.t.n,.own 5 0 a.t.fr.length,.own 6 0 a.t.to.length,.own 7 0 a.t.id.length,.own 8 0 a.t.cs.length,.own 9 0 a.sz.length,.own 10 0 a.bf.length,.own 11 0 a.bh.length]])::(1,rI a.s.fr)::(2,rI a.s.to)::(3,rI a.s.id)::(4,.row 1 (Ls a.s.cs))::(5,rI a.t.fr)::(6,rI a.t.to)::(7,rI a.t.id)::(8,.row 1 (Ls a.t.cs))::(9,.row 1 (Ls a.sz))::(10,.row 1 (Es eL a.bf))::(11,.row 1 (Es eL a.bh))::b
@[simp] abbrev Y1n (a:Fn) (b:List (AV)):List (AV):=iV a.s.n::.own 2 0 a.s.fr.length::.own 3 0 a.s.to.length::.own 4 0 a.s.id.length::.own 5 0 a.s.cs.length::iV a.t.n::.own 6 0 a.t.fr.length::.own 7 0 a.t.to.length::.own 8 0 a.t.id.length::.own 9 0 a.t.cs.length::.own 10 0 a.ob.length::.own 11 0 a.ar.length::b
@[simp] abbrev Y05 (a:Fn) (b:List (Nat × Ent)):List (Nat × Ent):=(1,.mix 12 [(Y1n a [])])::(2,rI a.s.fr)::(3,rI a.s.to)::(4,rI a.s.id)::(5,.row 1 (Ls a.s.cs))::(6,rI a.t.fr)::(7,rI a.t.to)::(8,rI a.t.id)::(9,.row 1 (Ls a.t.cs))::(10,rI a.ob)::(11,rI a.ar)::b
theorem Q7z (f_:Fn) (r:Prf) (h:Q2E f_=some r):Contract Tryz.prog 30 [.rptr (f_.cells true)] (.agg (r.cells true)):=by
 refine Qc (rvs:=[.cell 2 45]) (rs:=[.agg (r.cells true)]) Tryz.func30 rfl rfl rfl rfl (by simp [Tryz.f30]) fun F hN hP=>?_;unfold Q2E at h;refine Q3 (runQ hN fun K hK=>?_);simp;repeat refine sdQ ?_
 refine hK _ ?_;clear hK K;refine tn (Q7 (st':=⟨Y0A f_ [(2,.adr 0 0 0)],Ys [],1⟩) (Q13 [(0,0)]) (Q3 (runQ hN fun K hK=>?_)));simp;repeat with_reducible refine sdQ ?_
 replace ⟨v1,hv1,h⟩:=bind_some h;refine Q6 (Q5M _ v1 hv1) (.cons (.preT (by simp [Cat.cells,Fn.cells])) .nil) ?_;simp;repeat refine sdQ ?_
 refine hK _ ?_;clear hK K;refine tn (Q7 (st':=⟨Y0A f_ [(2,.adr 0 0 0),(3,.adr 1 0 0)],Ys (Y05 v1 []),12⟩) (Q13 [(0,0),(13,1),(2,2),(3,3),(4,4),(5,5),(7,6),(8,7),(9,8),(10,9),(11,10),(12,11)]) (Q3 (runQ hN fun K hK=>?_)));simp;repeat with_reducible refine sdQ ?_
 replace ⟨v2,hv2,h⟩:=bind_some h;refine Q6 (Q6z _ _ v2 hv2) (.cons (.preT (by simp [Cat.cells,Fn.cells])) (.cons (.field rfl (by simp [Cat.cells,Fn.cells]) (.cons .val (.cons .w (.cons .w (.cons .w (.cons .w (.cons .val (.cons .w (.cons .w (.cons .w (.cons .w (.cons .w (.cons .w .nil))))))))))))) .nil)) ?_;simp;repeat refine sdQ ?_
 refine hK _ (tn (Q7 (st':=⟨[(2,.adr 0 0 0)],YX v2 [],12⟩) (Q13 [(0,0),(13,1),(14,2),(15,3),(16,4),(18,5),(19,6),(20,7),(21,8),(22,9),(23,10),(24,11)]) (Qo ?_)));clear hK K;have hr:=Option.some.inj h;rw [← hr];refine ⟨_,(.cell Q8k rfl rfl rfl (by simp) (by simp) .nil),?_⟩;refine ⟨(.agg rfl .nil),[iV v2.s.n,lI v2.s.fr,lI v2.s.to,lI v2.s.id,.lst true 1 (Ls v2.s.cs),iV v2.t.n,lI v2.t.fr,lI v2.t.to,lI v2.t.id,.lst true 1 (Ls v2.t.cs),.lst true 1 (Ls v2.sz),.lst true 1 (Es eL v2.bf),.lst true 1 (Es eL v2.bh)],[1,2,3,4,5,6,7,8,9,10,11],by simp [Cat.cells,Fn.cells,Prf.cells,UA,U1,IA,I1,LA,L1,BA,B1,EA,E1,E2,eB,eI,eL],by simp,(UpL.refl _)⟩
attribute [local simp] unk unA unE unT unC flat eL eI Qr Q16 Q3k Q1g Cat.cells Fn.cells Prf.cells
noncomputable def Q35 (f_:Fn):Option Prf :=
 (Q2v f_.t).bind fun v1 =>
 (Q2Q v1 f_).bind fun v2 =>
 some v2
theorem Q8n (f_:Fn) (r:Prf) (h:Q35 f_=some r):Contract Tryz.prog 29 [.rptr (f_.cells true)] (.agg (r.cells true)):=by
 refine Qc (rvs:=[.cell 2 45]) (rs:=[.agg (r.cells true)]) Tryz.func29 rfl rfl rfl rfl (by simp [Tryz.f29]) fun F hN hP=>?_;unfold Q35 at h;refine Q3 (runQ hN fun K hK=>?_);simp;repeat refine sdQ ?_
 refine hK _ ?_;clear hK K;refine tn (Q7 (st':=⟨Y0A f_ [(2,.adr 0 0 0)],Ys [],1⟩) (Q13 [(0,0)]) (Q3 (runQ hN fun K hK=>?_)));simp;repeat with_reducible refine sdQ ?_
 replace ⟨v1,hv1,h⟩:=bind_some h;refine Q6 (Q5M _ v1 hv1) (.cons (.preT (by simp [Cat.cells,Fn.cells])) .nil) ?_;simp;repeat refine sdQ ?_
 refine hK _ ?_;clear hK K;refine tn (Q7 (st':=⟨Y0A f_ [(2,.adr 0 0 0),(3,.adr 1 0 0)],Ys (Y05 v1 []),12⟩) (Q13 [(0,0),(13,1),(2,2),(3,3),(4,4),(5,5),(7,6),(8,7),(9,8),(10,9),(11,10),(12,11)]) (Q3 (runQ hN fun K hK=>?_)));simp;repeat with_reducible refine sdQ ?_
 replace ⟨v2,hv2,h⟩:=bind_some h;refine Q6 (Q6z _ _ v2 hv2) (.cons (.field rfl (by simp [Cat.cells,Fn.cells]) (.cons .val (.cons .w (.cons .w (.cons .w (.cons .w (.cons .val (.cons .w (.cons .w (.cons .w (.cons .w (.cons .w (.cons .w .nil))))))))))))) (.cons (.preT (by simp [Cat.cells,Fn.cells])) .nil)) ?_;simp;repeat refine sdQ ?_
 refine hK _ (tn (Q7 (st':=⟨[(2,.adr 0 0 0)],YX v2 [],12⟩) (Q13 [(0,0),(13,1),(14,2),(15,3),(16,4),(18,5),(19,6),(20,7),(21,8),(22,9),(23,10),(24,11)]) (Qo ?_)));clear hK K;have hr:=Option.some.inj h;rw [← hr];refine ⟨_,(.cell Q8k rfl rfl rfl (by simp) (by simp) .nil),?_⟩;refine ⟨(.agg rfl .nil),[iV v2.s.n,lI v2.s.fr,lI v2.s.to,lI v2.s.id,.lst true 1 (Ls v2.s.cs),iV v2.t.n,lI v2.t.fr,lI v2.t.to,lI v2.t.id,.lst true 1 (Ls v2.t.cs),.lst true 1 (Ls v2.sz),.lst true 1 (Es eL v2.bf),.lst true 1 (Es eL v2.bh)],[1,2,3,4,5,6,7,8,9,10,11],by simp [Cat.cells,Fn.cells,Prf.cells,UA,U1,IA,I1,LA,L1,BA,B1,EA,E1,E2,eB,eI,eL],by simp,(UpL.refl _)⟩
attribute [local simp] unk unA unE unT unC flat eL eI Qr Q16 Q3k Q9 Cat.cells Fn.cells XTripleint64.cells
noncomputable def QI (t_:XTripleint64) (c0_:Fn) (c1_:Cat) (c2_:Int) (c3_:Int):Option Int :=
 ass (0≤t_.a_∧t_.a_<(c0_.ob.length:Int)) <|
 (Q10 c1_ c2_ c3_).bind fun v2 =>
 (Q10 c1_ c2_ (ix c0_.ob t_.a_)).bind fun v3 =>
 ass (0≤t_.b_∧t_.b_<(v3.length:Int)) <|
 (Q10 c1_ (ix c0_.ob t_.a_) c3_).bind fun v5 =>
 ass (0≤t_.c_∧t_.c_<(v5.length:Int)) <|
 (QU c1_ (ix v3 t_.b_) (ix v5 t_.c_)).bind fun v7 =>
 (Q1I v2 v7).bind fun v8 =>
 some v8
theorem Q2j (t_:XTripleint64) (c0_:Fn) (c1_:Cat) (c2_:Int) (c3_:Int) (r:Int) (h:QI t_ c0_ c1_ c2_ c3_=some r):Contract Tryz.prog 35 [.agg (t_.cells true),.rptr (Fn.cells true c0_),.rptr (Y1o c1_ []),.rptr [iV c2_],.rptr [iV c3_]] (iV r):=by
 refine Qc (rvs:=[.tmp 6]) (rs:=[iV r]) Tryz.func35 rfl rfl rfl rfl (by simp [Tryz.f35]) fun F hN hP=>?_;unfold QI at h;refine Q3 (runQ hN fun K hK=>?_);simp;repeat refine sdQ ?_
 refine hK _ ?_;clear hK K;refine tn (Q7 (st':=⟨[(1,.rptr (Fn.cells true c0_)),(2,.rptr (Y1o c1_ [])),(3,.rptr [iV c2_]),(4,.rptr [iV c3_]),(5,.adr 0 0 0)],Y0r t_ [],1⟩) (Q13 [(0,0)]) (Q3 (runQ hN fun K hK=>?_)));replace ⟨a1,h⟩:=Q0 h;simp [at_I a1];repeat refine sdQ ?_
 refine hK _ ?_;clear hK K;refine tn (Q7 (st':=⟨[(2,.rptr (Y1o c1_ [])),(3,.rptr [iV c2_]),(4,.rptr [iV c3_]),(5,.adr 0 0 0),(7,iV (ix c0_.ob t_.a_))],Y0r t_ [],1⟩) (Q13 [(0,0)]) (Q3 (runQ hN fun K hK=>?_)));simp;repeat with_reducible refine sdQ ?_
 replace ⟨v2,hv2,h⟩:=bind_some h;refine Q6 (Q2o _ _ _ v2 hv2) (.cons (.preT (by simp [Cat.cells,Fn.cells,XTripleint64.cells])) (.cons .val (.cons .val .nil))) ?_;simp;repeat with_reducible refine sdQ ?_
 replace ⟨v3,hv3,h⟩:=bind_some h;refine Q6 (Q2o _ _ _ v3 hv3) (.cons (.preT (by simp [Cat.cells,Fn.cells,XTripleint64.cells])) (.cons .val (.cons .val .nil))) ?_;replace ⟨a4,h⟩:=Q0 h;simp [at_I a4];repeat with_reducible refine sdQ ?_
 replace ⟨v5,hv5,h⟩:=bind_some h;refine Q6 (Q2o _ _ _ v5 hv5) (.cons (.preT (by simp [Cat.cells,Fn.cells,XTripleint64.cells])) (.cons .val (.cons .val .nil))) ?_;replace ⟨a6,h⟩:=Q0 h;simp [at_I a4,at_I a6];repeat with_reducible refine sdQ ?_
 replace ⟨v7,hv7,h⟩:=bind_some h;refine Q6 (Q2c _ _ _ v7 hv7) (.cons (.preT (by simp [Cat.cells,Fn.cells,XTripleint64.cells])) (.cons .val (.cons .val .nil))) ?_;simp [at_I a4,at_I a6];repeat with_reducible refine sdQ ?_
 replace ⟨v8,hv8,h⟩:=bind_some h;refine Q6 (Q3L _ _ v8 hv8) (.cons .w (.cons .val .nil)) ?_;simp [at_I a4,at_I a6];repeat refine sdQ ?_
 refine hK _ (tn (Q7 (st':=⟨[(6,iV v8)],[],0⟩) (Q13 []) (Qo ?_)));clear hK K;have hr:=Option.some.inj h;rw [← hr];refine ⟨_,(.tmp .nil),?_⟩;refine ⟨(.one rfl rfl .nil),[iV v8],[],by simp [Cat.cells,Fn.cells,XTripleint64.cells,UA,U1,IA,I1,LA,L1,BA,B1,EA,E1,E2,eB,eI,eL,Q8 _ Q9 _ (fun _=>rfl)],by simp,(UpL.refl _)⟩
attribute [local simp] unk unA unE unT unC flat eL eI Qr Q16 Q3k Q1g Qk Q9 Cat.cells Fn.cells Prf.cells XComposite.cells XTripleint64.cells
noncomputable def Qv (k_:XComposite) (x_:Int) (z_:Int) (image_0:Fn) (image_1:Cat) (image_2:Int) (image_3:Int):Option (List Int) :=
 ass (0≤x_∧x_<(k_.classes_.length:Int)) <|
 ass (0≤z_∧z_<((gx k_.classes_ x_).length:Int)) <|
 (QT (rx (gx k_.classes_ x_) z_)).bind fun v3 =>
 ass (0≤v3∧v3≤1073741824) <|
 ass (0≤x_∧x_<(k_.triples_.length:Int)) <|
 ass (0≤z_∧z_<((gx k_.triples_ x_).length:Int)) <|
 (Qy (σ:=List Int × Int) (ε:=List Int) (fun s16 =>
  if s16.2<((gx (gx k_.triples_ x_) z_).length:Int) then
   ass (0≤s16.2∧s16.2<((gx (gx k_.triples_ x_) z_).length:Int)) <|
   ass (0≤x_∧x_<(k_.classes_.length:Int)) <|
   ass (0≤z_∧z_<((gx k_.classes_ x_).length:Int)) <|
   ass (0≤s16.2∧s16.2<((rx (gx k_.classes_ x_) z_).length:Int)) <|
   (QI (gx (gx (gx k_.triples_ x_) z_) s16.2) image_0 image_1 image_2 image_3).bind fun v22 =>
   ass (0≤ix (rx (gx k_.classes_ x_) z_) s16.2∧ix (rx (gx k_.classes_ x_) z_) s16.2<(s16.1.length:Int)) <|
   ass (B64 (s16.2+1)) <|
   some (Ctl.next (s16.1.set ((ix (rx (gx k_.classes_ x_) z_) s16.2).toNat) v22,s16.2+1))
  else
   some (Ctl.ret s16.1)) fuel (List.replicate v3.toNat 0,0)).bind fun b7 =>
 some b7
@[simp] abbrev Y0t (a:Fn) (b:Cat) (c d:Int) (e:List (Nat × AV)):List (Nat × AV):=(3,.fn 35 [.rptr (Fn.cells true a),.rptr (Y1o b []),.rptr [iV c],.rptr [iV d]])::e
theorem Q1f (k_:XComposite) (x_:Int) (z_:Int) (image_0:Fn) (image_1:Cat) (image_2:Int) (image_3:Int) (r:List Int) (h:Qv k_ x_ z_ image_0 image_1 image_2 image_3=some r):Contract Tryz.prog 34 [.rptr (k_.cells true),iV x_,iV z_,.fn 35 [.rptr (Fn.cells true image_0),.rptr (Y1o image_1 []),.rptr [iV image_2],.rptr [iV image_3]]] (lI r):=by
 refine Qc (rvs:=[.tmp 8]) (rs:=[lI r]) Tryz.func34 rfl rfl rfl rfl (by simp [Tryz.f34]) fun F hN hP=>?_;unfold Qv at h;refine Q3 (runQ hN fun K hK=>?_);simp;repeat refine sdQ ?_
 refine hK _ ?_;clear hK K;refine tn (Q7 (st':=⟨Y4 k_ x_ z_ (Y0t image_0 image_1 image_2 image_3 []),[],0⟩) (Q13 []) (Q3 (runQ hN fun K hK=>?_)));replace ⟨a1,h⟩:=Q0 h;replace ⟨a2,h⟩:=Q0 h;simp [at_E (c:=eL) a1,at_L a2];repeat with_reducible refine sdQ ?_
 replace ⟨v3,hv3,h⟩:=bind_some h;refine Q6 (Q1D _ v3 hv3) (.cons .lst .nil) ?_;replace ⟨a4,h⟩:=Q0 h;simp [at_E (c:=eL) a1,at_L a2];repeat refine sdQ ?_
 refine hK _ ?_;clear hK K;refine tn (Q7 (st':=⟨Y4 k_ x_ z_ (Y0t image_0 image_1 image_2 image_3 (Y0I v3 [])),Y0Q v3 [],1⟩) (Q13 [(1,0)]) (Q3 (Q3 (runQ hN fun K hK=>?_))));replace ⟨a5,h⟩:=Q0 h;replace ⟨a6,h⟩:=Q0 h;simp [at_E (c:=(fun x=>[.lst true 1 (Es (fun x=>[.lst true 3 (Es (XTripleint64.cells true) x)]) x)])) a5,at_E (c:=(fun x=>[.lst true 3 (Es (XTripleint64.cells true) x)])) a6];repeat refine sdQ ?_
 refine hK _ (tn (Q7 (st':=⟨Y4 k_ x_ z_ (Y0t image_0 image_1 image_2 image_3 (Y0I v3 (YE k_ x_ z_ [(35,iV 0)]))),Y0Q v3 [],1⟩) (Q13 [(0,0)]) ?_));clear hK K;replace ⟨e7,h,h7⟩:=bind_some h;refine Qg (fun b7:List Int=>⟨[(9,.own 0 0 b7.length)],[(0,rI b7)],1⟩) (fun b7=>b7=e7) ?_ ?_
 ·refine Qa (Qn h (fun s16:List Int × Int=>⟨Y4 k_ x_ z_ (Y0t image_0 image_1 image_2 image_3 ((9,.own 0 0 s16.1.length)::YE k_ x_ z_ [(35,iV s16.2)])),[(0,rI s16.1)],1⟩) (Q13 [(0,0)]) ?_);clear h;intro k16 s16 c16 h hk16;refine Q3 (runQ hN fun K hK=>?_);simp;repeat refine sdQ ?_
  refine hK _ ?_;clear hK K;refine tn (Q3 (Qd rfl (fun g=>?_) fun g=>?_))
  ·have g17:s16.2<((gx (gx k_.triples_ x_) z_).length:Int):=gQ;clear g;replace h:=if_l g17 h;refine Qe (tn (Q3 (Qa (Q3 (runQ hN fun K hK=>?_)))));replace ⟨a18,h⟩:=Q0 h;simp [at_E (c:=(XTripleint64.cells true)) a18];(repeat refine sdQ ?_);refine hK _ ?_;clear hK K;refine tn (Q7 (st':=⟨Y4 k_ x_ z_ (Y0t image_0 image_1 image_2 image_3 ((9,.own 0 0 s16.1.length)::(10,iV s16.2)::(11,.adr 1 0 0)::YE k_ x_ z_ [(35,iV s16.2)])),[(0,rI s16.1),(1,.mix 3 [(XTripleint64.cells true (gx (gx (gx k_.triples_ x_) z_) s16.2))])],2⟩) (Q13 [(0,0),(1,1)]) (runQ hN fun K hK=>?_));replace ⟨a19,h⟩:=Q0 h;replace ⟨a20,h⟩:=Q0 h;replace ⟨a21,h⟩:=Q0 h;simp [at_E (c:=eL) a19,at_L a20,at_I a21];(repeat with_reducible refine sdQ ?_);replace ⟨v22,hv22,h⟩:=bind_some h;refine Q6 (Q2j _ _ _ _ _ v22 hv22) (.cons (.aggL (.cons .val (.cons .val (.cons .val .nil)))) (.cons .rptr (.cons .rptr (.cons .rptr (.cons .rptr .nil))))) ?_;replace ⟨a23,h⟩:=Q0 h;simp [at_E (c:=eL) a19,at_L a20,at_I a21,at_I a23];(repeat refine sdQ ?_);refine hK _ ?_;clear hK K;refine bn (tn (Q7 (st':=⟨Y4 k_ x_ z_ (Y0t image_0 image_1 image_2 image_3 ((9,.own 0 0 ((s16.1.set ((ix (rx (gx k_.classes_ x_) z_) s16.2).toNat) v22).length))::YE k_ x_ z_ [(35,iV s16.2)])),[(0,rI (s16.1.set ((ix (rx (gx k_.classes_ x_) z_) s16.2).toNat) v22))],1⟩) (Q13 [(0,0)]) (runQ hN fun K hK=>?_)));replace h:=Q0 h
   obtain ⟨a24,h⟩:=h;simp [Qh a24];(repeat refine sdQ ?_);refine hK _ ?_;clear hK K;cases h;exact rn (s':=(s16.1.set ((ix (rx (gx k_.classes_ x_) z_) s16.2).toNat) v22,s16.2+1)) hk16 (Q13 [(0,0)])
  have g17:¬ (s16.2<((gx (gx k_.triples_ x_) z_).length:Int)):=gQ;clear g;replace h:=if_r g17 h;refine Qm (tx (lx (bh ?_)));cases h;exact jn (b:=s16.1) hk16 (Q13 [(0,0)])
 intro b7 hb7;have h:=h7;try rw [← hb7] at h
 clear h7;try dsimp only at h
 refine Q3 (runQ hN fun K hK=>?_);simp;repeat refine sdQ ?_
 refine hK _ (tn (Q7 (st':=⟨[(8,.own 0 0 b7.length)],[(0,rI b7)],1⟩) (Q13 [(0,0)]) (Qo ?_)));clear hK K;have hr:=Option.some.inj h;rw [← hr];refine ⟨_,(.tmp .nil),?_⟩;refine ⟨(.one rfl rfl .nil),[lI b7],[0],by simp [Cat.cells,Fn.cells,Prf.cells,XComposite.cells,XTripleint64.cells,UA,U1,IA,I1,LA,L1,BA,B1,EA,E1,E2,eB,eI,eL,Q8 _ Qk _ (fun _=>rfl),Q8 _ Q9 _ (fun _=>rfl),Q8 _ (XTripleint64.cells true) _ (fun _=>rfl),Q8 _ (fun x=>[.lst true 1 (Es (fun x=>[.lst true 3 (Es (XTripleint64.cells true) x)]) x)]) _ (fun _=>rfl),Q8 _ (fun x=>[.lst true 3 (Es (XTripleint64.cells true) x)]) _ (fun _=>rfl)],by simp,(UpL.refl _)⟩
attribute [local simp] unk unA unE unT unC flat eL eI Qr Q16 Q3k Q1g Qk Cat.cells Fn.cells Prf.cells XComposite.cells
noncomputable def QO (y_:Int) (z_:Int) (c0_:XComposite) (c1_:Fn) (c2_:Cat):Option (List Int) :=
 (Qv c0_ y_ z_ c1_ c2_ y_ z_).bind fun v1 =>
 some v1
theorem Q2K (y_:Int) (z_:Int) (c0_:XComposite) (c1_:Fn) (c2_:Cat) (r:List Int) (h:QO y_ z_ c0_ c1_ c2_=some r):Contract Tryz.prog 33 [iV y_,iV z_,.rptr [.rptr (Y1e c0_ [])],.rptr (Fn.cells true c1_),.rptr (Y1o c2_ [])] (lI r):=by
 refine Qc (rvs:=[.tmp 7]) (rs:=[lI r]) Tryz.func33 rfl rfl rfl rfl (by simp [Tryz.f33]) fun F hN hP=>?_;unfold QO at h;refine Q3 (runQ hN fun K hK=>?_);simp;repeat refine sdQ ?_
 refine hK _ ?_;clear hK K;refine tn (Q7 (st':=⟨Y00 c0_ [(3,.rptr (Fn.cells true c1_)),(4,.rptr (Y1o c2_ [])),(5,.adr 0 0 0),(6,.adr 1 0 0)],[(0,.mix 1 [[iV y_]]),(1,.mix 1 [[iV z_]])],2⟩) (Q13 [(0,0),(1,1)]) (Q3 (QG [] mo (by rw [hN];decide) fun K hK=>?_)));simp;repeat with_reducible refine sdQ ?_
 replace ⟨v1,hv1,h⟩:=bind_some h;refine Q1G (fz:=[]) (Q1f _ _ _ _ _ _ _ v1 hv1) (.cons (.preT (by simp [Cat.cells,Fn.cells,Prf.cells,XComposite.cells])) (.cons .val (.cons .val (.cons (.fnL (by simp) (.cons .rptr (.cons .rptr (.cons (.field rfl (by simp [Cat.cells,Fn.cells,Prf.cells,XComposite.cells]) (.cons .val .nil)) (.cons (.field rfl (by simp [Cat.cells,Fn.cells,Prf.cells,XComposite.cells]) (.cons .val .nil)) .nil))))) .nil)))) ?_;simp;repeat refine sdQ ?_
 refine hK _ (tn (Q7 (st':=⟨[(7,.own 0 0 v1.length)],[(0,rI v1)],1⟩) (Q13 [(2,0)]) (Qo ?_)));clear hK K;have hr:=Option.some.inj h;rw [← hr];refine ⟨_,(.tmp .nil),?_⟩;refine ⟨(.one rfl rfl .nil),[lI v1],[0],by simp [Cat.cells,Fn.cells,Prf.cells,XComposite.cells,UA,U1,IA,I1,LA,L1,BA,B1,EA,E1,E2,eB,eI,eL,Q8 _ Qk _ (fun _=>rfl),Q8 _ (XTripleint64.cells true) _ (fun _=>rfl),Q8 _ (fun x=>[.lst true 1 (Es (fun x=>[.lst true 3 (Es (XTripleint64.cells true) x)]) x)]) _ (fun _=>rfl),Q8 _ (fun x=>[.lst true 3 (Es (XTripleint64.cells true) x)]) _ (fun _=>rfl)],by simp,(UpL.refl _)⟩
attribute [local simp] unk unA unE unT unC flat eL eI Qr Q16 Q3k Q1g Qk Cat.cells Fn.cells Prf.cells XComposite.cells
noncomputable def QH (p_:Prf) (part_0:XComposite) (part_1:Fn) (part_2:Cat):Option (List (List (List Int))) :=
 (Qy (σ:=List (List (List Int)) × Int) (ε:=List (List (List Int))) (fun s15 =>
  if s15.2<p_.s.n then
   (Qy (σ:=List (List Int) × Int) (ε:=List (List Int)) (fun s22 =>
    if s22.2<p_.t.n then
     (QO s15.2 s22.2 part_0 part_1 part_2).bind fun v24 =>
     ass ((s22.1++[v24]).length≤1073741824) <|
     ass (B64 (s22.2+1)) <|
     some (Ctl.next (s22.1++[v24],s22.2+1))
    else
     some (Ctl.ret s22.1)) fuel ([],0)).bind fun b17 =>
   ass ((s15.1++[b17]).length≤1073741824) <|
   ass (B64 (s15.2+1)) <|
   some (Ctl.next (s15.1++[b17],s15.2+1))
  else
   some (Ctl.ret s15.1)) fuel ([],0)).bind fun b1 =>
 some b1
@[simp] abbrev Y9 (a:Prf) (b:XComposite) (c:Fn) (d:Cat) (e:List (Nat × AV)):List (Nat × AV):=(0,.rptr (Prf.cells true a))::(1,.fn 33 [.rptr [.rptr (Y1e b [])],.rptr (Fn.cells true c),.rptr (Y1o d [])])::e
@[simp] abbrev Y13 (a:List (List (List Int)) × Int) (b:List (Nat × AV)):List (Nat × AV):=(5,.own 0 0 a.1.length)::(6,iV a.2)::b
theorem Q1U (p_:Prf) (part_0:XComposite) (part_1:Fn) (part_2:Cat) (r:List (List (List Int))) (h:QH p_ part_0 part_1 part_2=some r):Contract Tryz.prog 32 [.rptr (p_.cells true),.fn 33 [.rptr [.rptr (Y1e part_0 [])],.rptr (Fn.cells true part_1),.rptr (Y1o part_2 [])]] (.lst true 1 (Es eL r)):=by
 refine Qc (rvs:=[.tmp 4]) (rs:=[.lst true 1 (Es eL r)]) Tryz.func32 rfl rfl rfl rfl (by simp [Tryz.f32]) fun F hN hP=>?_;unfold QH at h;refine Q3 (runQ hN fun K hK=>?_);simp;repeat refine sdQ ?_
 refine hK _ ?_;clear hK K;refine tn (Q7 (st':=⟨Y9 p_ part_0 part_1 part_2 [],[],0⟩) (Q13 []) (Q3 (runQ hN fun K hK=>?_)));simp;repeat refine sdQ ?_
 refine hK _ ?_;clear hK K;refine tn (Q7 (st':=⟨Y9 p_ part_0 part_1 part_2 [(5,.own 0 0 0)],[(0,.mix 1 [])],1⟩) (Q13 [(0,0)]) (Q3 (Q3 (runQ hN fun K hK=>?_))));simp;repeat refine sdQ ?_
 refine hK _ (tn (Q7 (st':=⟨Y9 p_ part_0 part_1 part_2 [(5,.own 0 0 0),(14,iV p_.s.n),(15,iV 0)],[(0,.mix 1 [])],1⟩) (Q13 [(0,0)]) ?_));clear hK K;replace ⟨e1,h,h1⟩:=bind_some h;refine Qg (fun b1:List (List (List Int))=>⟨[(5,.own 0 0 b1.length)],[(0,.row 1 (Es eL b1))],1⟩) (fun b1=>b1=e1) ?_ ?_
 ·refine Qa (Qn h (fun s15:List (List (List Int)) × Int=>⟨Y9 p_ part_0 part_1 part_2 [(5,.own 0 0 s15.1.length),(14,iV p_.s.n),(15,iV s15.2)],[(0,.row 1 (Es eL s15.1))],1⟩) (Q1J ⟨Y9 p_ part_0 part_1 part_2 [(5,.own 0 0 0),(14,iV p_.s.n),(15,iV 0)],[(0,.row 1 (Es eL []))],1⟩ (Wk.nils [] (by simp) (by simp) (by simp [nlA]) (by simp [entN,nlL,nlA,Cat.cells,Fn.cells,Prf.cells,XComposite.cells,UA,U1,IA,I1,LA,L1,BA,B1,EA,E1,E2,eB,eI,eL,Q8 _ Qk _ (fun _=>rfl),Q8 _ (XTripleint64.cells true) _ (fun _=>rfl),Q8 _ (fun x=>[.lst true 1 (Es (fun x=>[.lst true 3 (Es (XTripleint64.cells true) x)]) x)]) _ (fun _=>rfl),Q8 _ (fun x=>[.lst true 3 (Es (XTripleint64.cells true) x)]) _ (fun _=>rfl)]) (by simp)) (Q13 [(0,0)])) ?_);clear h;intro k15 s15 c15 h hk15;refine Q3 (runQ hN fun K hK=>?_);simp;repeat refine sdQ ?_
  refine hK _ ?_;clear hK K;refine tn (Q3 (Qd rfl (fun g=>?_) fun g=>?_))
  ·have g16:s15.2<p_.s.n:=gQ;clear g;replace h:=if_l g16 h;refine Qe (tn (Q3 (Qa (Q3 (runQ hN fun K hK=>?_)))));simp;(repeat refine sdQ ?_);refine hK _ ?_;clear hK K;refine tn (Q7 (st':=⟨Y9 p_ part_0 part_1 part_2 (Y13 s15 [(14,iV p_.s.n),(15,iV s15.2)]),[(0,.row 1 (Es eL s15.1))],1⟩) (Q13 [(0,0)]) (Q3 (runQ hN fun K hK=>?_)));simp;(repeat refine sdQ ?_);refine hK _ ?_;clear hK K;refine tn (Q7 (st':=⟨Y9 p_ part_0 part_1 part_2 (Y13 s15 [(7,.own 1 0 0),(14,iV p_.s.n),(15,iV s15.2)]),[(0,.row 1 (Es eL s15.1)),(1,.mix 1 [])],2⟩) (Q13 [(0,0),(1,1)]) (Q3 (Q3 (runQ hN fun K hK=>?_))));simp;(repeat refine sdQ ?_);refine hK _ (tn ?_);clear hK K
   refine Q7 (st':=⟨Y9 p_ part_0 part_1 part_2 (Y13 s15 [(7,.own 1 0 0),(14,iV p_.s.n),(15,iV s15.2),(23,iV p_.t.n),(24,iV 0)]),[(0,.row 1 (Es eL s15.1)),(1,.mix 1 [])],2⟩) (Q13 [(0,0),(1,1)]) ?_;replace ⟨e17,h,h17⟩:=bind_some h;refine Qg (fun b17:List (List Int)=>⟨Y9 p_ part_0 part_1 part_2 [(5,.own 0 0 s15.1.length),(7,.own 1 0 b17.length),(14,iV p_.s.n),(15,iV s15.2)],[(0,.row 1 (Es eL s15.1)),(1,.row 1 (Ls b17))],2⟩) (fun b17=>b17=e17) ?_ ?_
   ·refine Qa (Qn h (fun s22:List (List Int) × Int=>⟨Y9 p_ part_0 part_1 part_2 (Y13 s15 [(7,.own 1 0 s22.1.length),(14,iV p_.s.n),(15,iV s15.2),(23,iV p_.t.n),(24,iV s22.2)]),[(0,.row 1 (Es eL s15.1)),(1,.row 1 (Ls s22.1))],2⟩) (Q1J ⟨Y9 p_ part_0 part_1 part_2 (Y13 s15 [(7,.own 1 0 0),(14,iV p_.s.n),(15,iV s15.2),(23,iV p_.t.n),(24,iV 0)]),[(0,.row 1 (Es eL s15.1)),(1,.row 1 (Ls []))],2⟩ (Wk.nils [] (by simp) (by simp) (by simp [nlA]) (by simp [entN,nlL,nlA,Cat.cells,Fn.cells,Prf.cells,XComposite.cells,UA,U1,IA,I1,LA,L1,BA,B1,EA,E1,E2,eB,eI,eL,Q8 _ Qk _ (fun _=>rfl),Q8 _ (XTripleint64.cells true) _ (fun _=>rfl),Q8 _ (fun x=>[.lst true 1 (Es (fun x=>[.lst true 3 (Es (XTripleint64.cells true) x)]) x)]) _ (fun _=>rfl),Q8 _ (fun x=>[.lst true 3 (Es (XTripleint64.cells true) x)]) _ (fun _=>rfl)]) (by simp)) (Q13 [(0,0),(1,1)])) ?_);clear h;intro k22 s22 c22 h hk22;refine Q3 (runQ hN fun K hK=>?_);simp;(repeat refine sdQ ?_);refine hK _ ?_;clear hK K;refine tn (Q3 (Qd rfl (fun g=>?_) fun g=>?_))
    ·have g23:s22.2<p_.t.n:=gQ;clear g;replace h:=if_l g23 h;refine Qe (tn (Q3 (Qa (Q3 (runQ hN fun K hK=>?_)))));simp;(repeat refine sdQ ?_);refine hK _ ?_;clear hK K;refine tn (Q7 (st':=⟨Y9 p_ part_0 part_1 part_2 (Y13 s15 [(7,.own 1 0 s22.1.length),(8,iV s22.2),(14,iV p_.s.n),(15,iV s15.2),(23,iV p_.t.n),(24,iV s22.2)]),[(0,.row 1 (Es eL s15.1)),(1,.row 1 (Ls s22.1))],2⟩) (Q13 [(0,0),(1,1)]) (runQ hN fun K hK=>?_));simp;(repeat with_reducible refine sdQ ?_);replace ⟨v24,hv24,h⟩:=bind_some h;refine Q6 (Q2K _ _ _ _ _ v24 hv24) (.cons .val (.cons .val (.cons .rptr (.cons .rptr (.cons .rptr .nil))))) ?_;replace ⟨a25,h⟩:=Q0 h;(try simp only [List.length_append,List.length_cons,List.length_nil] at a25);simp [a25];(repeat refine sdQ ?_);refine hK _ ?_;clear hK K;refine bn (tn (Q7 (st':=⟨Y9 p_ part_0 part_1 part_2 (Y13 s15 [(7,.own 1 0 ((s22.1++[v24]).length)),(14,iV p_.s.n),(15,iV s15.2),(23,iV p_.t.n),(24,iV s22.2)]),[(0,.row 1 (Es eL s15.1)),(1,.row 1 (Ls (s22.1++[v24])))],2⟩) (Q13 [(0,0),(4,1)]) (runQ hN fun K hK=>?_)));replace ⟨a26,h⟩:=Q0 h;simp [Qh a26];(repeat refine sdQ ?_);refine hK _ ?_;clear hK K;cases h;exact rn (s':=(s22.1++[v24],s22.2+1)) hk22 (Q13 [(0,0),(1,1)])
    have g23:¬ (s22.2<p_.t.n):=gQ;clear g;replace h:=if_r g23 h;refine Qm (tx (lx (bh ?_)));cases h;exact jn (b:=s22.1) hk22 (Q13 [(0,0),(1,1)])
   intro b17 hb17;have h:=h17;(try rw [← hb17] at h);clear h17;(try dsimp only at h);refine runQ hN fun K hK=>?_;replace ⟨a27,h⟩:=Q0 h;(try simp only [List.length_append,List.length_cons,List.length_nil] at a27);simp [a27];(repeat refine sdQ ?_);refine hK _ ?_;clear hK K;refine bn (tn (Q7 (st':=⟨Y9 p_ part_0 part_1 part_2 [(5,.own 0 0 ((s15.1++[b17]).length)),(14,iV p_.s.n),(15,iV s15.2)],[(0,.row 1 (Es eL (s15.1++[b17])))],1⟩) (Q13 [(3,0)]) (runQ hN fun K hK=>?_)));replace ⟨a28,h⟩:=Q0 h;simp [Qh a28];(repeat refine sdQ ?_);refine hK _ ?_;clear hK K;cases h;exact rn (s':=(s15.1++[b17],s15.2+1)) hk15 (Q13 [(0,0)])
  have g16:¬ (s15.2<p_.s.n):=gQ;clear g;replace h:=if_r g16 h;refine Qm (tx (lx (bh ?_)));cases h;exact jn (b:=s15.1) hk15 (Q13 [(0,0)])
 intro b1 hb1;have h:=h1;try rw [← hb1] at h
 clear h1;try dsimp only at h
 refine Q3 (runQ hN fun K hK=>?_);simp;repeat refine sdQ ?_
 refine hK _ (tn (Q7 (st':=⟨[(4,.own 0 0 b1.length)],[(0,.row 1 (Es eL b1))],1⟩) (Q13 [(0,0)]) (Qo ?_)));clear hK K;have hr:=Option.some.inj h;rw [← hr];refine ⟨_,(.tmp .nil),?_⟩;refine ⟨(.one rfl rfl .nil),[.lst true 1 (Es eL b1)],[0],by simp [Cat.cells,Fn.cells,Prf.cells,XComposite.cells,UA,U1,IA,I1,LA,L1,BA,B1,EA,E1,E2,eB,eI,eL,Q8 _ Qk _ (fun _=>rfl),Q8 _ (XTripleint64.cells true) _ (fun _=>rfl),Q8 _ (fun x=>[.lst true 1 (Es (fun x=>[.lst true 3 (Es (XTripleint64.cells true) x)]) x)]) _ (fun _=>rfl),Q8 _ (fun x=>[.lst true 3 (Es (XTripleint64.cells true) x)]) _ (fun _=>rfl)],by simp,(UpL.refl _)⟩
attribute [local simp] unk unA unE unT unC flat eL eI Qr Q16 Q3k Q1g Cat.cells Fn.cells Prf.cells
noncomputable def Q18 (f_:Fn):Option (List (List (List Int)) × Int) :=
 (Q1c f_).bind fun v1 =>
 if ¬ (v1=true) then
  some ([],1)
 else
  (Q35 f_).bind fun v3 =>
  (Q2E f_).bind fun v4 =>
  (Q3q v3 v4).bind fun v5 =>
  match v5 with
  | .inl v5 =>
   some ([],3)
  | .inr v5 =>
   if ¬ (v5.2.2.2.2.2.2.2.2.2.2.2.2.2.2.2=true) then
    some ([],3)
   else
    (QH (⟨(⟨v5.1,v5.2.1,v5.2.2.1,v5.2.2.2.1,v5.2.2.2.2.1⟩:Cat),(⟨v5.2.2.2.2.2.1,v5.2.2.2.2.2.2.1,v5.2.2.2.2.2.2.2.1,v5.2.2.2.2.2.2.2.2.1,v5.2.2.2.2.2.2.2.2.2.1⟩:Cat),v5.2.2.2.2.2.2.2.2.2.2.1,v5.2.2.2.2.2.2.2.2.2.2.2.1,v5.2.2.2.2.2.2.2.2.2.2.2.2.1⟩:Prf) (⟨v3,v4,(⟨(⟨v5.1,v5.2.1,v5.2.2.1,v5.2.2.2.1,v5.2.2.2.2.1⟩:Cat),(⟨v5.2.2.2.2.2.1,v5.2.2.2.2.2.2.1,v5.2.2.2.2.2.2.2.1,v5.2.2.2.2.2.2.2.2.1,v5.2.2.2.2.2.2.2.2.2.1⟩:Cat),v5.2.2.2.2.2.2.2.2.2.2.1,v5.2.2.2.2.2.2.2.2.2.2.2.1,v5.2.2.2.2.2.2.2.2.2.2.2.2.1⟩:Prf),v5.2.2.2.2.2.2.2.2.2.2.2.2.2.1,v5.2.2.2.2.2.2.2.2.2.2.2.2.2.2.1⟩:XComposite) f_ f_.t).bind fun v7 =>
    some (v7,0)
@[simp] abbrev Y11 (a:Fn) (b:List (Nat × AV)):List (Nat × AV):=(1,.rptr (Fn.cells true a))::(6,.adr 0 0 0)::b
theorem Q4Y (f_:Fn) (r:List (List (List Int)) × Int) (h:Q18 f_=some r):Contract Tryz.prog 8 [.agg (f_.cells true)] (.tup [.lst true 1 (Es eL r.1),iV r.2]):=by
 refine Q4h (rvs:=[.tmp 2,.tmp 3]) (rs:=[.lst true 1 (Es eL r.1),iV r.2]) Tryz.func8 rfl rfl rfl rfl (by simp [Tryz.f8]) fun F hN hP hW=>?_;unfold Q18 at h;refine Q3 (QG [1] mo (by rw [hN];decide) fun K hK=>?_);simp;repeat refine sdQ ?_
 refine hK _ ?_;clear hK K;refine tn (Q7 (st':=⟨[(1,.rptr (Fn.cells true f_))],[],0⟩) (Q13 []) (Q3 (Q3 (runQ hN fun K hK=>?_))));simp;repeat with_reducible refine sdQ ?_
 replace ⟨v1,hv1,h⟩:=bind_some h;refine Q6 (Q4y _ v1 hv1) (.cons (.preT (by simp [Fn.cells])) .nil) ?_;simp;repeat refine sdQ ?_
 refine hK _ ?_;clear hK K;refine tn (Q7 (st':=⟨[(1,.rptr (Fn.cells true f_)),(10,.val (.bool (!v1)))],[],0⟩) (Q13 []) (Qd rfl (fun g=>?_) fun g=>?_))
 ·have g2:¬ (v1=true):=gQ;clear g;replace h:=if_l g2 h;refine Q3 (runQ hN fun K hK=>?_);simp;repeat refine sdQ ?_
  refine hK _ (tn (Q7 (st':=⟨[(2,nS),(3,iV 1)],[],0⟩) (Q13 []) (Qo (tr ?_))));clear hK K;have hr:=Option.some.inj h;rw [← hr];refine ⟨_,(.tmp (.tmp .nil)),?_⟩;refine ⟨(.one rfl rfl (.one rfl rfl .nil)),[nS,iV 1],[],by simp [Cat.cells,Fn.cells,Prf.cells,UA,U1,IA,I1,LA,L1,BA,B1,EA,E1,E2,eB,eI,eL,Q8 _ (XTripleint64.cells true) _ (fun _=>rfl),Q8 _ (fun x=>[.lst true 1 (Es (fun x=>[.lst true 3 (Es (XTripleint64.cells true) x)]) x)]) _ (fun _=>rfl),Q8 _ (fun x=>[.lst true 3 (Es (XTripleint64.cells true) x)]) _ (fun _=>rfl)],by simp,(.cons .nil (.cons .refl .nil))⟩
 have g2:¬ (¬ (v1=true)):=gQ;clear g;replace h:=if_r g2 h;refine Qe (tn (Q3 (QG [] mo (by rw [hN];decide) fun K hK=>?_)));simp;repeat with_reducible refine sdQ ?_
 replace ⟨v3,hv3,h⟩:=bind_some h;refine Q53 (fz:=[]) false (Contract.toF (Q8n _ v3 hv3)) (PurK.ofL (.cons (.preT (by simp [Fn.cells])) .nil)) ?_;simp;repeat with_reducible refine sdQ ?_
 replace ⟨v4,hv4,h⟩:=bind_some h;refine Q53 (fz:=[]) false (Contract.toF (Q7z _ v4 hv4)) (PurK.ofL (.cons (.preT (by simp [Fn.cells,Prf.cells])) .nil)) ?_;simp;repeat refine sdQ ?_
 refine hK _ ?_;clear hK K;refine tn (Q7 (st':=⟨[(1,.rptr (Fn.cells true f_)),(4,.rptr (Prf.cells true v3)),(5,.rptr (Prf.cells true v4))],[],0⟩) (Wk.frz hW [(0,[iV v3.s.n,lI v3.s.fr,lI v3.s.to,lI v3.s.id,.lst true 1 (Ls v3.s.cs),iV v3.t.n,lI v3.t.fr,lI v3.t.to,lI v3.t.id,.lst true 1 (Ls v3.t.cs),.lst true 1 (Ls v3.sz),.lst true 1 (Es eL v3.bf),.lst true 1 (Es eL v3.bh)]),(1,[iV v4.s.n,lI v4.s.fr,lI v4.s.to,lI v4.s.id,.lst true 1 (Ls v4.s.cs),iV v4.t.n,lI v4.t.fr,lI v4.t.to,lI v4.t.id,.lst true 1 (Ls v4.t.cs),.lst true 1 (Ls v4.sz),.lst true 1 (Es eL v4.bf),.lst true 1 (Es eL v4.bh)])] [] (by simp [AV.ro,Cat.cells,Fn.cells,Prf.cells,UA,U1,IA,I1,LA,L1,BA,B1,EA,E1,E2,eB,eI,eL,Q8 _ (XTripleint64.cells true) _ (fun _=>rfl),Q8 _ (fun x=>[.lst true 1 (Es (fun x=>[.lst true 3 (Es (XTripleint64.cells true) x)]) x)]) _ (fun _=>rfl),Q8 _ (fun x=>[.lst true 3 (Es (XTripleint64.cells true) x)]) _ (fun _=>rfl)]) (by simp [hP,hhOk,back,Cat.cells,Fn.cells,Prf.cells,UA,U1,IA,I1,LA,L1,BA,B1,EA,E1,E2,eB,eI,eL,Q8 _ (XTripleint64.cells true) _ (fun _=>rfl),Q8 _ (fun x=>[.lst true 1 (Es (fun x=>[.lst true 3 (Es (XTripleint64.cells true) x)]) x)]) _ (fun _=>rfl),Q8 _ (fun x=>[.lst true 3 (Es (XTripleint64.cells true) x)]) _ (fun _=>rfl)])) (Q3 (Q6B [] mo (by rw [hN];decide) fun K hK=>?_)));simp;repeat with_reducible refine sdQ ?_
 replace ⟨v5,hv5,h⟩:=bind_some h;refine Q4B (fz:=[]) (ICon0.liftL (e':=(match (generalizing:=false) v5 with|.inl v5=>{ v:=.tup [.val (.pointer none),.val (.bool false)],new:=[],cnt:=0 }|.inr v5=>{ v:=.tup [.adr 0 0 0,.val (.bool v5.2.2.2.2.2.2.2.2.2.2.2.2.2.2.2)],new:=[(0,.mix 17 [(Y1j v3 (Y1j v4 [iV v5.1,.own 1 0 v5.2.1.length,.own 2 0 v5.2.2.1.length,.own 3 0 v5.2.2.2.1.length,.own 4 0 v5.2.2.2.2.1.length,iV v5.2.2.2.2.2.1,.own 5 0 v5.2.2.2.2.2.2.1.length,.own 6 0 v5.2.2.2.2.2.2.2.1.length,.own 7 0 v5.2.2.2.2.2.2.2.2.1.length,.own 8 0 v5.2.2.2.2.2.2.2.2.2.1.length,.own 9 0 v5.2.2.2.2.2.2.2.2.2.2.1.length,.own 10 0 v5.2.2.2.2.2.2.2.2.2.2.2.1.length,.own 11 0 v5.2.2.2.2.2.2.2.2.2.2.2.2.1.length,.own 12 0 v5.2.2.2.2.2.2.2.2.2.2.2.2.2.1.length,.own 13 0 v5.2.2.2.2.2.2.2.2.2.2.2.2.2.2.1.length]))]),(1,rI v5.2.1),(2,rI v5.2.2.1),(3,rI v5.2.2.2.1),(4,.row 1 (Ls v5.2.2.2.2.1)),(5,rI v5.2.2.2.2.2.2.1),(6,rI v5.2.2.2.2.2.2.2.1),(7,rI v5.2.2.2.2.2.2.2.2.1),(8,.row 1 (Ls v5.2.2.2.2.2.2.2.2.2.1)),(9,.row 1 (Ls v5.2.2.2.2.2.2.2.2.2.2.1)),(10,.row 1 (Es eL v5.2.2.2.2.2.2.2.2.2.2.2.1)),(11,.row 1 (Es eL v5.2.2.2.2.2.2.2.2.2.2.2.2.1)),(12,.mix 1 (Es (fun x=>[.lst true 1 (Es (fun x=>[.lst true 3 (Es (XTripleint64.cells true) x)]) x)]) v5.2.2.2.2.2.2.2.2.2.2.2.2.2.1)),(13,.row 1 (Es eL v5.2.2.2.2.2.2.2.2.2.2.2.2.2.2.1))],cnt:=14 })) (Q9d _ _ v5 hv5) (by simp [AV.ro,rl,rlL,rlLL,Q5g,Cat.cells,Fn.cells,Prf.cells,E2,eB,eI,eL,Q8 _ (XTripleint64.cells true) _ (fun _=>rfl),Q8 _ (fun x=>[.lst true 1 (Es (fun x=>[.lst true 3 (Es (XTripleint64.cells true) x)]) x)]) _ (fun _=>rfl),Q8 _ (fun x=>[.lst true 3 (Es (XTripleint64.cells true) x)]) _ (fun _=>rfl)]) (by rcases v5 with v5|v5<;>simp) (by rcases v5 with v5|v5<;>simp) (by rcases v5 with v5|v5<;>rfl) (by rcases v5 with v5|v5<;>simp [AV.ro,rl,rlL,rlLL,Q5g,Cat.cells,Fn.cells,Prf.cells,E2,eB,eI,eL,Q8 _ (XTripleint64.cells true) _ (fun _=>rfl),Q8 _ (fun x=>[.lst true 1 (Es (fun x=>[.lst true 3 (Es (XTripleint64.cells true) x)]) x)]) _ (fun _=>rfl),Q8 _ (fun x=>[.lst true 3 (Es (XTripleint64.cells true) x)]) _ (fun _=>rfl)]) (by rcases v5 with v5|v5<;>simp [noAli]) (by rcases v5 with v5|v5<;>rfl) (by rcases v5 with v5|v5<;>simp [AV.ro,rl,rlL,rlLL,Q5g,Cat.cells,Fn.cells,Prf.cells,E2,eB,eI,eL,Q8 _ (XTripleint64.cells true) _ (fun _=>rfl),Q8 _ (fun x=>[.lst true 1 (Es (fun x=>[.lst true 3 (Es (XTripleint64.cells true) x)]) x)]) _ (fun _=>rfl),Q8 _ (fun x=>[.lst true 3 (Es (XTripleint64.cells true) x)]) _ (fun _=>rfl)]) (Q8F (by rcases v5 with v5|v5<;>simp))) ?_;clear hv5;rcases v5 with v5|v5
 ·try dsimp only at h
  try dsimp only
  simp;repeat refine sdQ ?_
  refine hK _ ?_;clear hK K;refine tn (Q7 (st':=⟨Y11 f_ [(7,.val (.bool false))],[(0,.mix 1 [[.val (.pointer none)]])],1⟩) (Q13 [(0,0)]) (Q3 (Q3 (runQ hN fun K hK=>?_))));simp;repeat refine sdQ ?_
  refine hK _ (tn (Q7 (st':=⟨Y11 f_ [(18,.val (.bool true))],[(0,.mix 1 [[.val (.pointer none)]])],1⟩) (Q13 [(0,0)]) ?_));clear hK K;refine Qd rfl (fun _=>?_) fun g=>by simp at g
  refine Q3 (runQ hN fun K hK=>?_);simp;repeat refine sdQ ?_
  refine hK _ (tn (Q7 (st':=⟨[(2,nS),(3,iV 3)],[],0⟩) (Q13 []) (Qo (tr ?_))));clear hK K;have hr:=Option.some.inj h;rw [← hr];refine ⟨_,(.tmp (.tmp .nil)),?_⟩;refine ⟨(.one rfl rfl (.one rfl rfl .nil)),[nS,iV 3],[],by simp [Cat.cells,Fn.cells,Prf.cells,UA,U1,IA,I1,LA,L1,BA,B1,EA,E1,E2,eB,eI,eL,Q8 _ (XTripleint64.cells true) _ (fun _=>rfl),Q8 _ (fun x=>[.lst true 1 (Es (fun x=>[.lst true 3 (Es (XTripleint64.cells true) x)]) x)]) _ (fun _=>rfl),Q8 _ (fun x=>[.lst true 3 (Es (XTripleint64.cells true) x)]) _ (fun _=>rfl)],by simp,(.cons .nil (.cons .refl .nil))⟩
 try dsimp only at h
 try dsimp only
 simp;repeat refine sdQ ?_
 refine hK _ ?_;clear hK K;refine tn (Q7 (st':=⟨Y11 f_ [(7,.val (.bool v5.2.2.2.2.2.2.2.2.2.2.2.2.2.2.2))],Y0N [(1,.mix 17 [(Y1j v3 (Y1j v4 [iV v5.1,.own 2 0 v5.2.1.length,.own 3 0 v5.2.2.1.length,.own 4 0 v5.2.2.2.1.length,.own 5 0 v5.2.2.2.2.1.length,iV v5.2.2.2.2.2.1,.own 6 0 v5.2.2.2.2.2.2.1.length,.own 7 0 v5.2.2.2.2.2.2.2.1.length,.own 8 0 v5.2.2.2.2.2.2.2.2.1.length,.own 9 0 v5.2.2.2.2.2.2.2.2.2.1.length,.own 10 0 v5.2.2.2.2.2.2.2.2.2.2.1.length,.own 11 0 v5.2.2.2.2.2.2.2.2.2.2.2.1.length,.own 12 0 v5.2.2.2.2.2.2.2.2.2.2.2.2.1.length,.own 13 0 v5.2.2.2.2.2.2.2.2.2.2.2.2.2.1.length,.own 14 0 v5.2.2.2.2.2.2.2.2.2.2.2.2.2.2.1.length]))]),(2,rI v5.2.1),(3,rI v5.2.2.1),(4,rI v5.2.2.2.1),(5,.row 1 (Ls v5.2.2.2.2.1)),(6,rI v5.2.2.2.2.2.2.1),(7,rI v5.2.2.2.2.2.2.2.1),(8,rI v5.2.2.2.2.2.2.2.2.1),(9,.row 1 (Ls v5.2.2.2.2.2.2.2.2.2.1)),(10,.row 1 (Ls v5.2.2.2.2.2.2.2.2.2.2.1)),(11,.row 1 (Es eL v5.2.2.2.2.2.2.2.2.2.2.2.1)),(12,.row 1 (Es eL v5.2.2.2.2.2.2.2.2.2.2.2.2.1)),(13,.mix 1 (Es (fun x=>[.lst true 1 (Es (fun x=>[.lst true 3 (Es (XTripleint64.cells true) x)]) x)]) v5.2.2.2.2.2.2.2.2.2.2.2.2.2.1)),(14,.row 1 (Es eL v5.2.2.2.2.2.2.2.2.2.2.2.2.2.2.1))],15⟩) (Q13 [(14,0),(0,1),(1,2),(2,3),(3,4),(4,5),(5,6),(6,7),(7,8),(8,9),(9,10),(10,11),(11,12),(12,13),(13,14)]) (Q3 (Q3 (runQ hN fun K hK=>?_))));simp;repeat refine sdQ ?_
 refine hK _ ?_;clear hK K;refine tn (Q7 (st':=⟨Y11 f_ [(18,.val (.bool (!v5.2.2.2.2.2.2.2.2.2.2.2.2.2.2.2)))],Y0N [(1,.mix 17 [(Y1j v3 (Y1j v4 [iV v5.1,.own 2 0 v5.2.1.length,.own 3 0 v5.2.2.1.length,.own 4 0 v5.2.2.2.1.length,.own 5 0 v5.2.2.2.2.1.length,iV v5.2.2.2.2.2.1,.own 6 0 v5.2.2.2.2.2.2.1.length,.own 7 0 v5.2.2.2.2.2.2.2.1.length,.own 8 0 v5.2.2.2.2.2.2.2.2.1.length,.own 9 0 v5.2.2.2.2.2.2.2.2.2.1.length,.own 10 0 v5.2.2.2.2.2.2.2.2.2.2.1.length,.own 11 0 v5.2.2.2.2.2.2.2.2.2.2.2.1.length,.own 12 0 v5.2.2.2.2.2.2.2.2.2.2.2.2.1.length,.own 13 0 v5.2.2.2.2.2.2.2.2.2.2.2.2.2.1.length,.own 14 0 v5.2.2.2.2.2.2.2.2.2.2.2.2.2.2.1.length]))]),(2,rI v5.2.1),(3,rI v5.2.2.1),(4,rI v5.2.2.2.1),(5,.row 1 (Ls v5.2.2.2.2.1)),(6,rI v5.2.2.2.2.2.2.1),(7,rI v5.2.2.2.2.2.2.2.1),(8,rI v5.2.2.2.2.2.2.2.2.1),(9,.row 1 (Ls v5.2.2.2.2.2.2.2.2.2.1)),(10,.row 1 (Ls v5.2.2.2.2.2.2.2.2.2.2.1)),(11,.row 1 (Es eL v5.2.2.2.2.2.2.2.2.2.2.2.1)),(12,.row 1 (Es eL v5.2.2.2.2.2.2.2.2.2.2.2.2.1)),(13,.mix 1 (Es (fun x=>[.lst true 1 (Es (fun x=>[.lst true 3 (Es (XTripleint64.cells true) x)]) x)]) v5.2.2.2.2.2.2.2.2.2.2.2.2.2.1)),(14,.row 1 (Es eL v5.2.2.2.2.2.2.2.2.2.2.2.2.2.2.1))],15⟩) (Q3z 15) (Qd rfl (fun g=>?_) fun g=>?_))
 ·have g6:¬ (v5.2.2.2.2.2.2.2.2.2.2.2.2.2.2.2=true):=gQ;clear g;replace h:=if_l g6 h;refine Q3 (runQ hN fun K hK=>?_);simp;repeat refine sdQ ?_
  refine hK _ (tn (Q7 (st':=⟨[(2,nS),(3,iV 3)],[],0⟩) (Q13 []) (Qo (tr ?_))));clear hK K;have hr:=Option.some.inj h;rw [← hr];refine ⟨_,(.tmp (.tmp .nil)),?_⟩;refine ⟨(.one rfl rfl (.one rfl rfl .nil)),[nS,iV 3],[],by simp [Cat.cells,Fn.cells,Prf.cells,UA,U1,IA,I1,LA,L1,BA,B1,EA,E1,E2,eB,eI,eL,Q8 _ (XTripleint64.cells true) _ (fun _=>rfl),Q8 _ (fun x=>[.lst true 1 (Es (fun x=>[.lst true 3 (Es (XTripleint64.cells true) x)]) x)]) _ (fun _=>rfl),Q8 _ (fun x=>[.lst true 3 (Es (XTripleint64.cells true) x)]) _ (fun _=>rfl)],by simp,(.cons .nil (.cons .refl .nil))⟩
 have g6:¬ (¬ (v5.2.2.2.2.2.2.2.2.2.2.2.2.2.2.2=true)):=gQ;clear g;replace h:=if_r g6 h;refine Qe (tn (Q3 (runQ hN fun K hK=>?_)));simp;repeat refine sdQ ?_
 refine hK _ ?_;clear hK K;refine tn (Q7 (st':=⟨Y11 f_ [(8,.adr 15 0 0)],Y0N [(1,.mix 17 [(Y1j v3 (Y1j v4 [iV v5.1,.own 2 0 v5.2.1.length,.own 3 0 v5.2.2.1.length,.own 4 0 v5.2.2.2.1.length,.own 5 0 v5.2.2.2.2.1.length,iV v5.2.2.2.2.2.1,.own 6 0 v5.2.2.2.2.2.2.1.length,.own 7 0 v5.2.2.2.2.2.2.2.1.length,.own 8 0 v5.2.2.2.2.2.2.2.2.1.length,.own 9 0 v5.2.2.2.2.2.2.2.2.2.1.length,.own 10 0 v5.2.2.2.2.2.2.2.2.2.2.1.length,.own 11 0 v5.2.2.2.2.2.2.2.2.2.2.2.1.length,.own 12 0 v5.2.2.2.2.2.2.2.2.2.2.2.2.1.length,.own 13 0 v5.2.2.2.2.2.2.2.2.2.2.2.2.2.1.length,.own 14 0 v5.2.2.2.2.2.2.2.2.2.2.2.2.2.2.1.length]))]),(2,rI v5.2.1),(3,rI v5.2.2.1),(4,rI v5.2.2.2.1),(5,.row 1 (Ls v5.2.2.2.2.1)),(6,rI v5.2.2.2.2.2.2.1),(7,rI v5.2.2.2.2.2.2.2.1),(8,rI v5.2.2.2.2.2.2.2.2.1),(9,.row 1 (Ls v5.2.2.2.2.2.2.2.2.2.1)),(10,.row 1 (Ls v5.2.2.2.2.2.2.2.2.2.2.1)),(11,.row 1 (Es eL v5.2.2.2.2.2.2.2.2.2.2.2.1)),(12,.row 1 (Es eL v5.2.2.2.2.2.2.2.2.2.2.2.2.1)),(13,.mix 1 (Es (fun x=>[.lst true 1 (Es (fun x=>[.lst true 3 (Es (XTripleint64.cells true) x)]) x)]) v5.2.2.2.2.2.2.2.2.2.2.2.2.2.1)),(14,.row 1 (Es eL v5.2.2.2.2.2.2.2.2.2.2.2.2.2.2.1)),(15,.mix 1 [[.rptr (Y1p f_ [])]])],16⟩) (Q3z 16) (Q3 (QG [] mo (by rw [hN];decide) fun K hK=>?_)));simp;repeat with_reducible refine sdQ ?_
 replace ⟨v7,hv7,h⟩:=bind_some h;refine Q1G (fz:=[]) (Q1U _ _ _ _ v7 hv7) (.cons (.field rfl (by simp [Cat.cells,Fn.cells,Prf.cells]) (.cons .val (.cons .w (.cons .w (.cons .w (.cons .w (.cons .val (.cons .w (.cons .w (.cons .w (.cons .w (.cons .w (.cons .w (.cons .w .nil)))))))))))))) (.cons (.fnL (by simp) (.cons (.field rfl (by simp [Cat.cells,Fn.cells,Prf.cells]) (.cons (.field rfl (by simp [Cat.cells,Fn.cells,Prf.cells,XComposite.cells]) (.cons (.preT (by simp [Cat.cells,Fn.cells,Prf.cells])) (.cons (.preT (by simp [Cat.cells,Fn.cells,Prf.cells])) (.cons .val (.cons .w (.cons .w (.cons .w (.cons .w (.cons .val (.cons .w (.cons .w (.cons .w (.cons .w (.cons .w (.cons .w (.cons .w (.cons (.smix rfl (by simp) (Q3U (by simp [Cat.cells,Fn.cells,Prf.cells,Q16,Q3k,Q1g]))) (.cons .w .nil)))))))))))))))))) .nil)) (.cons .rptr (.cons (.field rfl (by simp [Fn.cells,Prf.cells]) (.cons (.preT (by simp [Cat.cells,Fn.cells,Prf.cells])) .nil)) .nil)))) .nil)) ?_;simp;repeat refine sdQ ?_
 refine hK _ (tn (Q7 (st':=⟨[(2,.own 0 0 v7.length),(3,iV 0)],[(0,.row 1 (Es eL v7))],1⟩) (Q13 [(16,0)]) (Qo ?_)));clear hK K;have hr:=Option.some.inj h;rw [← hr];refine ⟨_,(.tmp (.tmp .nil)),?_⟩;refine ⟨(.one rfl rfl (.one rfl rfl .nil)),[.lst true 1 (Es eL v7),iV 0],[0],by simp [Cat.cells,Fn.cells,Prf.cells,UA,U1,IA,I1,LA,L1,BA,B1,EA,E1,E2,eB,eI,eL,Q8 _ (XTripleint64.cells true) _ (fun _=>rfl),Q8 _ (fun x=>[.lst true 1 (Es (fun x=>[.lst true 3 (Es (XTripleint64.cells true) x)]) x)]) _ (fun _=>rfl),Q8 _ (fun x=>[.lst true 3 (Es (XTripleint64.cells true) x)]) _ (fun _=>rfl)],by simp,(UpL.refl _)⟩
attribute [local simp] unk unA unE unT unC flat eL eI Qr Q16 Q3k Q1g Qs Cat.cells Fn.cells Prf.cells XL32Composite.cells
noncomputable def Q1a (f_:Fn):Option (List (List (List Int)) × Int) :=
 (Q4w f_).bind fun v1 =>
 if ¬ (v1=true) then
  some ([],1)
 else
  (Q2U f_.t).bind fun v3 =>
  (Q21 v3 f_).bind fun v4 =>
  (Q2U f_.t).bind fun v5 =>
  (Q21 f_ v5).bind fun v6 =>
  (Q3v v4 v6).bind fun v7 =>
  if ¬ (v7.2=true) then
   some ([],3)
  else
   (Q36 v7.1.p_).bind fun v9 =>
   (Qy (σ:=List (List (List Int)) × Int) (ε:=List (List (List Int))) (fun s119 =>
    if s119.2<f_.t.n then
     (
      (Qy (σ:=List (List (List Int)) × Int) (ε:=List (List (List Int))) (fun s174 =>
       if s174.2<f_.t.n then
        (
         (Qy (σ:=List (List (List Int)) × Int) (ε:=List (List (List Int))) (fun s201 =>
          ass (0≤s119.2∧s119.2<(v7.1.triples_.length:Int)) <|
          ass (0≤s174.2∧s174.2<((gx v7.1.triples_ s119.2).length:Int)) <|
          if s201.2<((gx (gx v7.1.triples_ s119.2) s174.2).length:Int) then
           ass (0≤s119.2∧s119.2<(v7.1.triples_.length:Int)) <|
           ass (0≤s174.2∧s174.2<((gx v7.1.triples_ s119.2).length:Int)) <|
           ass (0≤s201.2∧s201.2<((gx (gx v7.1.triples_ s119.2) s174.2).length:Int)) <|
           ass ((0:Int)≤0∧0<((rx (gx (gx v7.1.triples_ s119.2) s174.2) s201.2).length:Int)) <|
           ass (0≤ix (rx (gx (gx v7.1.triples_ s119.2) s174.2) s201.2) 0∧ix (rx (gx (gx v7.1.triples_ s119.2) s174.2) s201.2) 0<(f_.ob.length:Int)) <|
           (Q1y f_.t s119.2 (ix f_.ob (ix (rx (gx (gx v7.1.triples_ s119.2) s174.2) s201.2) 0))).bind fun v210 =>
           ass ((0:Int)≤1∧1<((rx (gx (gx v7.1.triples_ s119.2) s174.2) s201.2).length:Int)) <|
           ass (0≤ix (rx (gx (gx v7.1.triples_ s119.2) s174.2) s201.2) 1∧ix (rx (gx (gx v7.1.triples_ s119.2) s174.2) s201.2) 1<(v210.length:Int)) <|
           (Q1y f_.t (ix f_.ob (ix (rx (gx (gx v7.1.triples_ s119.2) s174.2) s201.2) 0)) s174.2).bind fun v213 =>
           ass ((0:Int)≤2∧2<((rx (gx (gx v7.1.triples_ s119.2) s174.2) s201.2).length:Int)) <|
           ass (0≤ix (rx (gx (gx v7.1.triples_ s119.2) s174.2) s201.2) 2∧ix (rx (gx (gx v7.1.triples_ s119.2) s174.2) s201.2) 2<(v213.length:Int)) <|
           ass (0≤s119.2∧s119.2<(s201.1.length:Int)) <|
           ass (0≤s174.2∧s174.2<((gx s201.1 s119.2).length:Int)) <|
           ass (0≤s119.2∧s119.2<(v7.1.classes_.length:Int)) <|
           ass (0≤s174.2∧s174.2<((gx v7.1.classes_ s119.2).length:Int)) <|
           ass (0≤s201.2∧s201.2<((rx (gx v7.1.classes_ s119.2) s174.2).length:Int)) <|
           (Q1y f_.t s119.2 s174.2).bind fun v221 =>
           (Q1S f_.t (ix v210 (ix (rx (gx (gx v7.1.triples_ s119.2) s174.2) s201.2) 1)) (ix v213 (ix (rx (gx (gx v7.1.triples_ s119.2) s174.2) s201.2) 2))).bind fun v222 =>
           (Q1Q v221 v222).bind fun v223 =>
           ass (0≤ix (rx (gx v7.1.classes_ s119.2) s174.2) s201.2∧ix (rx (gx v7.1.classes_ s119.2) s174.2) s201.2<((rx (gx s201.1 s119.2) s174.2).length:Int)) <|
           ass (B64 (s201.2+1)) <|
           some (Ctl.next (s201.1.set s119.2.toNat ((gx s201.1 s119.2).set s174.2.toNat ((rx (gx s201.1 s119.2) s174.2).set ((ix (rx (gx v7.1.classes_ s119.2) s174.2) s201.2).toNat) v223)),s201.2+1))
          else
           some (Ctl.ret s201.1)) fuel (s174.1,0)).bind fun p201 =>
         some p201:Option (List (List (List Int)))).bind fun b176 =>
        ass (B64 (s174.2+1)) <|
        some (Ctl.next (b176,s174.2+1))
       else
        some (Ctl.ret s174.1)) fuel (s119.1,0)).bind fun p174 =>
      some p174:Option (List (List (List Int)))).bind fun b121 =>
     ass (B64 (s119.2+1)) <|
     some (Ctl.next (b121,s119.2+1))
    else
     some (Ctl.ret s119.1)) fuel (v9,0)).bind fun b10 =>
   some (b10,0)
@[simp] abbrev Y1 (a:Fn) (b:XL32Composite × Bool) (c:List (Nat × Ent)):List (Nat × Ent):=(0,.mix 12 [(Fn.cells true a)])::(1,.mix 5 [(Cat.cells true a.t)])::(2,.mix 15 [[iV b.1.p_.s.n,.own 3 0 b.1.p_.s.fr.length,.own 4 0 b.1.p_.s.to.length,.own 5 0 b.1.p_.s.id.length,.own 6 0 b.1.p_.s.cs.length,iV b.1.p_.t.n,.own 7 0 b.1.p_.t.fr.length,.own 8 0 b.1.p_.t.to.length,.own 9 0 b.1.p_.t.id.length,.own 10 0 b.1.p_.t.cs.length,.own 11 0 b.1.p_.sz.length,.own 12 0 b.1.p_.bf.length,.own 13 0 b.1.p_.bh.length,.own 14 0 b.1.triples_.length,.own 15 0 b.1.classes_.length]])::(3,rI b.1.p_.s.fr)::(4,rI b.1.p_.s.to)::(5,rI b.1.p_.s.id)::(6,.row 1 (Ls b.1.p_.s.cs))::(7,rI b.1.p_.t.fr)::(8,rI b.1.p_.t.to)::(9,rI b.1.p_.t.id)::(10,.row 1 (Ls b.1.p_.t.cs))::(11,.row 1 (Ls b.1.p_.sz))::(12,.row 1 (Es eL b.1.p_.bf))::(13,.row 1 (Es eL b.1.p_.bh))::(14,.row 1 (Es (fun x=>[.lst true 1 (Es eL x)]) b.1.triples_))::(15,.row 1 (Es eL b.1.classes_))::c
@[simp] abbrev YW (a:List (Nat × AV)):List (Nat × AV):=(1,.adr 0 0 0)::(4,.adr 1 0 0)::(5,.adr 2 0 0)::a
theorem Q50 (f_:Fn) (r:List (List (List Int)) × Int) (h:Q1a f_=some r):Contract Tryz.prog 6 [.agg (f_.cells true)] (.tup [.lst true 1 (Es eL r.1),iV r.2]):=by
 refine Qc (rvs:=[.tmp 2,.tmp 3]) (rs:=[.lst true 1 (Es eL r.1),iV r.2]) Tryz.func6 rfl rfl rfl rfl (by simp [Tryz.f6]) fun F hN hP=>?_;unfold Q1a at h;refine Q3 (runQ hN fun K hK=>?_);simp;repeat refine sdQ ?_
 refine hK _ ?_;clear hK K;refine tn (Q7 (st':=⟨Y0J [],[(0,.mix 12 [(Fn.cells true f_)])],1⟩) (Q13 [(0,0)]) (Q3 (Q3 (runQ hN fun K hK=>?_))));simp;repeat with_reducible refine sdQ ?_
 replace ⟨v1,hv1,h⟩:=bind_some h;refine Q6 (w_s_l06Is _ v1 hv1) (.cons (.aggL (.cons .val (.cons .lst (.cons .lst (.cons .lst (.cons .lst (.cons .val (.cons .lst (.cons .lst (.cons .lst (.cons .lst (.cons .lst (.cons .lst .nil))))))))))))) .nil) ?_;simp;repeat refine sdQ ?_
 refine hK _ ?_;clear hK K;refine tn (Q7 (st':=⟨Y0J [(17,.val (.bool (!v1)))],[(0,.mix 12 [(Fn.cells true f_)])],1⟩) (Q13 [(0,0)]) (Qd rfl (fun g=>?_) fun g=>?_))
 ·have g2:¬ (v1=true):=gQ;clear g;replace h:=if_l g2 h;refine Q3 (runQ hN fun K hK=>?_);simp;repeat refine sdQ ?_
  refine hK _ (tn (Q7 (st':=⟨[(2,nS),(3,iV 1)],[],0⟩) (Q13 []) (Qo (tr ?_))));clear hK K;have hr:=Option.some.inj h;rw [← hr];refine ⟨_,(.tmp (.tmp .nil)),?_⟩;refine ⟨(.one rfl rfl (.one rfl rfl .nil)),[nS,iV 1],[],by simp [Cat.cells,Fn.cells,Prf.cells,XL32Composite.cells,UA,U1,IA,I1,LA,L1,BA,B1,EA,E1,E2,eB,eI,eL,Q8 _ Qs _ (fun _=>rfl),Q8 _ (fun x=>[.lst true 1 (Es eL x)]) _ (fun _=>rfl)],by simp,(.cons .nil (.cons .refl .nil))⟩
 have g2:¬ (¬ (v1=true)):=gQ;clear g;replace h:=if_r g2 h;refine Qe (tn (Q3 (runQ hN fun K hK=>?_)));simp;repeat refine sdQ ?_
 refine hK _ ?_;clear hK K;refine tn (Q7 (st':=⟨Y0J [(4,.adr 1 0 0)],[(0,.mix 12 [(Fn.cells true f_)]),(1,.mix 5 [(Cat.cells true f_.t)])],2⟩) (Q13 [(0,0),(1,1)]) (Q3 (runQ hN fun K hK=>?_)));simp;repeat with_reducible refine sdQ ?_
 replace ⟨v3,hv3,h⟩:=bind_some h;refine Q6 (Q6C _ v3 hv3) (.cons (.aggL (.cons .val (.cons .lst (.cons .lst (.cons .lst (.cons .lst .nil)))))) .nil) ?_;simp;repeat with_reducible refine sdQ ?_
 replace ⟨v4,hv4,h⟩:=bind_some h;refine Q6 (Q4P _ _ v4 hv4) (.cons (.aggL (.cons .val (.cons .w (.cons .w (.cons .w (.cons .w (.cons .val (.cons .w (.cons .w (.cons .w (.cons .w (.cons .w (.cons .w .nil))))))))))))) (.cons (.aggL (.cons .val (.cons .lst (.cons .lst (.cons .lst (.cons .lst (.cons .val (.cons .lst (.cons .lst (.cons .lst (.cons .lst (.cons .lst (.cons .lst .nil))))))))))))) .nil)) ?_;simp;repeat with_reducible refine sdQ ?_
 replace ⟨v5,hv5,h⟩:=bind_some h;refine Q6 (Q6C _ v5 hv5) (.cons (.aggL (.cons .val (.cons .lst (.cons .lst (.cons .lst (.cons .lst .nil)))))) .nil) ?_;simp;repeat with_reducible refine sdQ ?_
 replace ⟨v6,hv6,h⟩:=bind_some h;refine Q6 (Q4P _ _ v6 hv6) (.cons (.aggL (.cons .val (.cons .lst (.cons .lst (.cons .lst (.cons .lst (.cons .val (.cons .lst (.cons .lst (.cons .lst (.cons .lst (.cons .lst (.cons .lst .nil))))))))))))) (.cons (.aggL (.cons .val (.cons .w (.cons .w (.cons .w (.cons .w (.cons .val (.cons .w (.cons .w (.cons .w (.cons .w (.cons .w (.cons .w .nil))))))))))))) .nil)) ?_;simp;repeat with_reducible refine sdQ ?_
 replace ⟨v7,hv7,h⟩:=bind_some h;refine Q6 (Q9j _ _ v7 hv7) (.cons (.aggL (.cons .val (.cons .w (.cons .w (.cons .w (.cons .w (.cons .val (.cons .w (.cons .w (.cons .w (.cons .w (.cons .w (.cons .w (.cons .w .nil)))))))))))))) (.cons (.aggL (.cons .val (.cons .w (.cons .w (.cons .w (.cons .w (.cons .val (.cons .w (.cons .w (.cons .w (.cons .w (.cons .w (.cons .w (.cons .w .nil)))))))))))))) .nil)) ?_;simp;repeat refine sdQ ?_
 refine hK _ ?_;clear hK K;refine tn (Q7 (st':=⟨YW [(6,.val (.bool v7.2))],Y1 f_ v7 [],16⟩) (Q13 [(0,0),(1,1),(68,2),(53,3),(54,4),(55,5),(56,6),(58,7),(59,8),(60,9),(61,10),(62,11),(63,12),(64,13),(65,14),(66,15)]) (Q3 (Q3 (runQ hN fun K hK=>?_))));simp;repeat refine sdQ ?_
 refine hK _ ?_;clear hK K;refine tn (Qd rfl (fun g=>?_) fun g=>?_)
 ·have g8:¬ (v7.2=true):=gQ;clear g;replace h:=if_l g8 h;refine Q3 (runQ hN fun K hK=>?_);simp;repeat refine sdQ ?_
  refine hK _ (tn (Q7 (st':=⟨[(2,nS),(3,iV 3)],[],0⟩) (Q13 []) (Qo (tr ?_))));clear hK K;have hr:=Option.some.inj h;rw [← hr];refine ⟨_,(.tmp (.tmp .nil)),?_⟩;refine ⟨(.one rfl rfl (.one rfl rfl .nil)),[nS,iV 3],[],by simp [Cat.cells,Fn.cells,Prf.cells,XL32Composite.cells,UA,U1,IA,I1,LA,L1,BA,B1,EA,E1,E2,eB,eI,eL,Q8 _ Qs _ (fun _=>rfl),Q8 _ (fun x=>[.lst true 1 (Es eL x)]) _ (fun _=>rfl)],by simp,(.cons .nil (.cons .refl .nil))⟩
 have g8:¬ (¬ (v7.2=true)):=gQ;clear g;replace h:=if_r g8 h;refine Qe (tn (Q3 (runQ hN fun K hK=>?_)));simp;repeat with_reducible refine sdQ ?_
 replace ⟨v9,hv9,h⟩:=bind_some h;refine Q6 (Q8r _ v9 hv9) (.cons (.aggL (.cons .val (.cons .w (.cons .w (.cons .w (.cons .w (.cons .val (.cons .w (.cons .w (.cons .w (.cons .w (.cons .w (.cons .w (.cons .w .nil)))))))))))))) .nil) ?_;simp;repeat refine sdQ ?_
 refine hK _ ?_;clear hK K;refine tn (Q7 (st':=⟨YW [(7,.own 16 0 v9.length)],Y1 f_ v7 [(16,.row 1 (Es eL v9))],17⟩) (Q3z 17) (Q3 (Q3 (runQ hN fun K hK=>?_))));simp;repeat refine sdQ ?_
 refine hK _ (tn (Q7 (st':=⟨YW [(7,.own 16 0 v9.length),(8,iV 0)],Y1 f_ v7 [(16,.row 1 (Es eL v9))],17⟩) (Q3z 17) ?_));clear hK K;replace ⟨e10,h,h10⟩:=bind_some h;refine Qg (fun b10:List (List (List Int))=>⟨[(7,.own 0 0 b10.length)],[(0,.row 1 (Es eL b10))],1⟩) (fun b10=>b10=e10) ?_ ?_
 ·refine Qa (Qn h (fun s119:List (List (List Int)) × Int=>⟨YW [(7,.own 16 0 s119.1.length),(8,iV s119.2)],Y1 f_ v7 [(16,.row 1 (Es eL s119.1))],17⟩) (Q3z 17) ?_);clear h;intro k119 s119 c119 h hk119;refine Q3 (Q3 (runQ hN fun K hK=>?_));simp;repeat refine sdQ ?_
  refine hK _ ?_;clear hK K;refine tn (Qd rfl (fun g=>?_) fun g=>?_)
  ·have g120:s119.2<f_.t.n:=gQ;clear g;replace h:=if_l g120 h;refine Qe (tn (Q3 ?_));replace ⟨e121,h,h121⟩:=bind_some h;refine Qg (fun b121:List (List (List Int))=>⟨YW [(7,.own 16 0 b121.length),(8,iV s119.2)],Y1 f_ v7 [(16,.row 1 (Es eL b121))],17⟩) (fun b121=>b121=e121) ?_ ?_
   ·refine Qa (Q3 (runQ hN fun K hK=>?_));simp;(repeat refine sdQ ?_);refine hK _ (tn (Q7 (st':=⟨YW [(7,.own 16 0 s119.1.length),(8,iV s119.2),(9,iV 0)],Y1 f_ v7 [(16,.row 1 (Es eL s119.1))],17⟩) (Q3z 17) (Qa ?_)));clear hK K;replace ⟨e174,he174,h174⟩:=bind_some h;refine Qn he174 (fun s174:List (List (List Int)) × Int=>⟨YW [(7,.own 16 0 s174.1.length),(8,iV s119.2),(9,iV s174.2)],Y1 f_ v7 [(16,.row 1 (Es eL s174.1))],17⟩) (Q3z 17) ?_;intro k174 s174 c174 h hk174;refine Q3 (Q3 (runQ hN fun K hK=>?_));simp;(repeat refine sdQ ?_);refine hK _ ?_;clear hK K;refine tn (Qd rfl (fun g=>?_) fun g=>?_)
    ·have g175:s174.2<f_.t.n:=gQ;clear g;replace h:=if_l g175 h;refine Qe (tn (Q3 ?_));replace ⟨e176,h,h176⟩:=bind_some h;refine Qg (fun b176:List (List (List Int))=>⟨YW [(7,.own 16 0 b176.length),(8,iV s119.2),(9,iV s174.2)],Y1 f_ v7 [(16,.row 1 (Es eL b176))],17⟩) (fun b176=>b176=e176) ?_ ?_
     ·refine Qa (Q3 (runQ hN fun K hK=>?_));simp;(repeat refine sdQ ?_);refine hK _ (tn (Q7 (st':=⟨YW [(7,.own 16 0 s174.1.length),(8,iV s119.2),(9,iV s174.2),(10,iV 0)],Y1 f_ v7 [(16,.row 1 (Es eL s174.1))],17⟩) (Q3z 17) (Qa ?_)));clear hK K;replace ⟨e201,he201,h201⟩:=bind_some h;refine Qn he201 (fun s201:List (List (List Int)) × Int=>⟨YW [(7,.own 16 0 s201.1.length),(8,iV s119.2),(9,iV s174.2),(10,iV s201.2)],Y1 f_ v7 [(16,.row 1 (Es eL s201.1))],17⟩) (Q3z 17) ?_;intro k201 s201 c201 h hk201;refine Q3 (Q3 (runQ hN fun K hK=>?_));replace ⟨a202,h⟩:=Q0 h;replace ⟨a203,h⟩:=Q0 h;simp [at_E (c:=(fun x=>[.lst true 1 (Es eL x)])) a202,at_E (c:=eL) a203];(repeat refine sdQ ?_);refine hK _ ?_;clear hK K;refine tn (Qd rfl (fun g=>?_) fun g=>?_)
      ·have g204:s201.2<((gx (gx v7.1.triples_ s119.2) s174.2).length:Int):=gQ;clear g;replace h:=if_l g204 h;refine Qe (tn (Q3 (Qa (Q3 (runQ hN fun K hK=>?_)))));replace ⟨a205,h⟩:=Q0 h;replace ⟨a206,h⟩:=Q0 h;replace ⟨a207,h⟩:=Q0 h;simp [at_E (c:=(fun x=>[.lst true 1 (Es eL x)])) a205,at_E (c:=eL) a206,at_L a207];(repeat refine sdQ ?_);refine hK _ ?_;clear hK K;refine tn (Q7 (st':=⟨YW [(7,.own 16 0 s201.1.length),(8,iV s119.2),(9,iV s174.2),(10,iV s201.2),(11,.own 19 0 ((rx (gx (gx v7.1.triples_ s119.2) s174.2) s201.2).length))],Y1 f_ v7 [(16,.row 1 (Es eL s201.1)),(17,.ali 14 s119.2.toNat 0 1),(18,.ali 17 s174.2.toNat 0 1),(19,.ali 18 s201.2.toNat 0 1)],20⟩) (Q13 [(0,0),(1,1),(2,2),(3,3),(4,4),(5,5),(6,6),(7,7),(8,8),(9,9),(10,10),(11,11),(12,12),(13,13),(14,14),(15,15),(16,16),(21,19),(20,18),(19,17)]) (Q3 (runQ hN fun K hK=>?_)));replace ⟨a208,h⟩:=Q0 h;replace ⟨a209,h⟩:=Q0 h;simp [at_E (c:=(fun x=>[.lst true 1 (Es eL x)])) a205,at_E (c:=eL) a206,at_L a207,(show (Is (rx (gx (gx v7.1.triples_ s119.2) s174.2) s201.2))[0]? = some [iV (ix (rx (gx (gx v7.1.triples_ s119.2) s174.2) s201.2) 0)] from at_I (j:=0) a208),at_I a209];(repeat refine sdQ ?_);refine hK _ (tn ?_);clear hK K
       refine Q7 (st':=⟨YW [(7,.own 16 0 s201.1.length),(8,iV s119.2),(9,iV s174.2),(10,iV s201.2),(11,.own 19 0 ((rx (gx (gx v7.1.triples_ s119.2) s174.2) s201.2).length)),(12,iV (ix f_.ob (ix (rx (gx (gx v7.1.triples_ s119.2) s174.2) s201.2) 0)))],Y1 f_ v7 [(16,.row 1 (Es eL s201.1)),(17,.ali 14 s119.2.toNat 0 1),(18,.ali 17 s174.2.toNat 0 1),(19,.ali 18 s201.2.toNat 0 1)],20⟩) (Q13 [(0,0),(1,1),(2,2),(3,3),(4,4),(5,5),(6,6),(7,7),(8,8),(9,9),(10,10),(11,11),(12,12),(13,13),(14,14),(15,15),(16,16),(19,19),(18,18),(17,17)]) (Q3 (runQ hN fun K hK=>?_));simp;(repeat with_reducible refine sdQ ?_);replace ⟨v210,hv210,h⟩:=bind_some h;refine Q6 (Q2w _ _ _ v210 hv210) (.cons (.aggL (.cons .val (.cons .lst (.cons .lst (.cons .lst (.cons .lst .nil)))))) (.cons .val (.cons .val .nil))) ?_;replace ⟨a211,h⟩:=Q0 h;replace ⟨a212,h⟩:=Q0 h;simp [at_E (c:=(fun x=>[.lst true 1 (Es eL x)])) a205,at_E (c:=eL) a206,at_L a207,(show (Is (rx (gx (gx v7.1.triples_ s119.2) s174.2) s201.2))[1]? = some [iV (ix (rx (gx (gx v7.1.triples_ s119.2) s174.2) s201.2) 1)] from at_I (j:=1) a211),at_I a212];(repeat with_reducible refine sdQ ?_);replace ⟨v213,hv213,h⟩:=bind_some h;refine Q6 (Q2w _ _ _ v213 hv213) (.cons (.aggL (.cons .val (.cons .lst (.cons .lst (.cons .lst (.cons .lst .nil)))))) (.cons .val (.cons .val .nil))) ?_;replace ⟨a214,h⟩:=Q0 h;replace ⟨a215,h⟩:=Q0 h;simp [at_E (c:=(fun x=>[.lst true 1 (Es eL x)])) a205,at_E (c:=eL) a206,at_L a207,at_I a212,(show (Is (rx (gx (gx v7.1.triples_ s119.2) s174.2) s201.2))[2]? = some [iV (ix (rx (gx (gx v7.1.triples_ s119.2) s174.2) s201.2) 2)] from at_I (j:=2) a214),at_I a215];(repeat refine sdQ ?_);refine hK _ (tn ?_);clear hK K
       refine Q7 (st':=⟨YW [(7,.own 16 0 s201.1.length),(8,iV s119.2),(9,iV s174.2),(10,iV s201.2),(13,iV (ix v210 (ix (rx (gx (gx v7.1.triples_ s119.2) s174.2) s201.2) 1))),(14,iV (ix v213 (ix (rx (gx (gx v7.1.triples_ s119.2) s174.2) s201.2) 2)))],Y1 f_ v7 [(16,.row 1 (Es eL s201.1))],17⟩) (Q3z 17) (runQ hN fun K hK=>?_);replace ⟨a216,h⟩:=Q0 h;replace ⟨a217,h⟩:=Q0 h;replace ⟨a218,h⟩:=Q0 h;replace ⟨a219,h⟩:=Q0 h;replace ⟨a220,h⟩:=Q0 h;simp [at_E (c:=eL) a216,at_L a217,at_E (c:=eL) a218,at_L a219,at_I a220];(repeat with_reducible refine sdQ ?_);replace ⟨v221,hv221,h⟩:=bind_some h;refine Q6 (Q2w _ _ _ v221 hv221) (.cons (.aggL (.cons .val (.cons .lst (.cons .lst (.cons .lst (.cons .lst .nil)))))) (.cons .val (.cons .val .nil))) ?_;simp [at_E (c:=eL) a216,at_L a217,at_E (c:=eL) a218,at_L a219,at_I a220];(repeat with_reducible refine sdQ ?_);replace ⟨v222,hv222,h⟩:=bind_some h;refine Q6 (Q51 _ _ _ v222 hv222) (.cons (.aggL (.cons .val (.cons .lst (.cons .lst (.cons .lst (.cons .lst .nil)))))) (.cons .val (.cons .val .nil))) ?_;simp [at_E (c:=eL) a216,at_L a217,at_E (c:=eL) a218,at_L a219,at_I a220];(repeat with_reducible refine sdQ ?_);replace ⟨v223,hv223,h⟩:=bind_some h;refine Q6 (Q3G _ _ v223 hv223) (.cons .w (.cons .val .nil)) ?_;replace ⟨a224,h⟩:=Q0 h;simp [at_E (c:=eL) a216,at_L a217,at_E (c:=eL) a218,at_L a219,at_I a220,at_I a224];(repeat refine sdQ ?_);refine hK _ (bn (tn ?_));clear hK K
       refine Q7 (st':=⟨YW [(7,.own 16 0 ((s201.1.set s119.2.toNat ((gx s201.1 s119.2).set s174.2.toNat ((rx (gx s201.1 s119.2) s174.2).set ((ix (rx (gx v7.1.classes_ s119.2) s174.2) s201.2).toNat) v223))).length)),(8,iV s119.2),(9,iV s174.2),(10,iV s201.2)],Y1 f_ v7 [(16,.row 1 (Es eL (s201.1.set s119.2.toNat ((gx s201.1 s119.2).set s174.2.toNat ((rx (gx s201.1 s119.2) s174.2).set ((ix (rx (gx v7.1.classes_ s119.2) s174.2) s201.2).toNat) v223)))))],17⟩) (Q3z 17) (runQ hN fun K hK=>?_);replace ⟨a225,h⟩:=Q0 h;simp [Qh a225];(repeat refine sdQ ?_);refine hK _ ?_;clear hK K;cases h;exact rn (s':=(s201.1.set s119.2.toNat ((gx s201.1 s119.2).set s174.2.toNat ((rx (gx s201.1 s119.2) s174.2).set ((ix (rx (gx v7.1.classes_ s119.2) s174.2) s201.2).toNat) v223)),s201.2+1)) hk201 (Q3z 17)
      have g204:¬ (s201.2<((gx (gx v7.1.triples_ s119.2) s174.2).length:Int)):=gQ;clear g;replace h:=if_r g204 h;refine Qm (tx (lx (bh (bn ?_))));cases h;have q:_=e201:=hk201;have h:=h201;rw [← q] at h;clear q;(try dsimp only at h);exact jn (b:=s201.1) (Option.some.inj h) (Q3z 17)
     intro b176 hb176;have h:=h176;(try rw [← hb176] at h);clear h176;(try dsimp only at h);refine runQ hN fun K hK=>?_;replace ⟨a226,h⟩:=Q0 h;simp [Qh a226];(repeat refine sdQ ?_);refine hK _ ?_;clear hK K;cases h;exact rn (s':=(b176,s174.2+1)) hk174 (Q3z 17)
    have g175:¬ (s174.2<f_.t.n):=gQ;clear g;replace h:=if_r g175 h;refine Qm (tx (lx (bh (bn ?_))));cases h;have q:_=e174:=hk174;have h:=h174;rw [← q] at h;clear q;(try dsimp only at h);exact jn (b:=s174.1) (Option.some.inj h) (Q3z 17)
   intro b121 hb121;have h:=h121;(try rw [← hb121] at h);clear h121;(try dsimp only at h);refine runQ hN fun K hK=>?_;replace ⟨a227,h⟩:=Q0 h;simp [Qh a227];(repeat refine sdQ ?_);refine hK _ ?_;clear hK K;cases h;exact rn (s':=(b121,s119.2+1)) hk119 (Q3z 17)
  have g120:¬ (s119.2<f_.t.n):=gQ;clear g;replace h:=if_r g120 h;refine Qm (tx (lx (bh ?_)));cases h;exact jn (b:=s119.1) hk119 (Q13 [(16,0)])
 intro b10 hb10;have h:=h10;try rw [← hb10] at h
 clear h10;try dsimp only at h
 refine Q3 (runQ hN fun K hK=>?_);simp;repeat refine sdQ ?_
 refine hK _ (tn (Q7 (st':=⟨[(2,.own 0 0 b10.length),(3,iV 0)],[(0,.row 1 (Es eL b10))],1⟩) (Q13 [(0,0)]) (Qo ?_)));clear hK K;have hr:=Option.some.inj h;rw [← hr];refine ⟨_,(.tmp (.tmp .nil)),?_⟩;refine ⟨(.one rfl rfl (.one rfl rfl .nil)),[.lst true 1 (Es eL b10),iV 0],[0],by simp [Cat.cells,Fn.cells,Prf.cells,XL32Composite.cells,UA,U1,IA,I1,LA,L1,BA,B1,EA,E1,E2,eB,eI,eL,Q8 _ Qs _ (fun _=>rfl),Q8 _ (fun x=>[.lst true 1 (Es eL x)]) _ (fun _=>rfl)],by simp,(UpL.refl _)⟩
section
attribute [local simp] Ql Q11 QE Q1j QW
noncomputable def filD (n m:Nat) (F Z:Nat→Nat→List Int) (X:List Int) (x z:Nat):List (List (List Int)):=tab n fun x'=>tab m fun z'=>if x' < x∨(x'=x∧z' < z) then F x' z' else if x'=x∧z'=z then X else Z x' z'
theorem tab_set {α:Type} (n:Nat) (f:Nat→α) (i:Nat) (v:α):(tab n f).set i v=tab n fun j=>if j=i then v else f j:=by
 apply List.ext_getElem
 ·simp
 intro j h1 h2;rw [List.getElem_set];simp only [tab,List.getElem_map,List.getElem_range]
 by_cases q:i=j
 ·rw [if_pos q,if_pos q.symm]
 rw [if_neg q,if_neg (fun e=>q e.symm)]
theorem filD_row {n m:Nat} {F Z:Nat→Nat→List Int} {X:List Int} {x z:Nat} (hx:x<n) (hz:z<m):rx (gx (filD n m F Z X x z) x) z=X:=by
 unfold filD;rw [Q1q _ hx,Q2N _ hz,if_neg (by omega),if_pos ⟨rfl,rfl⟩]
theorem filD_len {n m:Nat} {F Z:Nat→Nat→List Int} {X:List Int} {x z:Nat} (hx:x<n):(filD n m F Z X x z).length=n∧(gx (filD n m F Z X x z) x).length=m:=by
 unfold filD;rw [Q1q _ hx];simp
theorem filD_set {n m:Nat} {F Z:Nat→Nat→List Int} {X Y:List Int} {x z:Nat} (hx:x<n):(filD n m F Z X x z).set x ((gx (filD n m F Z X x z) x).set z Y)=filD n m F Z Y x z:=by
 unfold filD;rw [Q1q _ hx,tab_set,tab_set];refine Q1k fun i _=>?_
 by_cases q:i=x
 ·subst q;rw [if_pos rfl];refine Q1k fun j _=>?_
  by_cases w:j=z
  ·subst w;rw [if_pos rfl,if_neg (by omega),if_pos ⟨rfl,rfl⟩]
  rw [if_neg w]
  by_cases e:i<i∨i=i∧j<z
  ·rw [if_pos e,if_pos e]
  rw [if_neg e,if_neg e,if_neg (by omega),if_neg (by omega)]
 rw [if_neg q];refine Q1k fun j _=>?_
 by_cases e:i<x∨i=x∧j<z
 ·rw [if_pos e,if_pos e]
 rw [if_neg e,if_neg e,if_neg (by omega),if_neg (by omega)]
theorem filD_next {n m:Nat} {F Z:Nat→Nat→List Int} {x z:Nat}:filD n m F Z (F x z) x z=filD n m F Z (Z x (z+1)) x (z+1):=by
 unfold filD;refine Q1k fun i _=>Q1k fun j _=>?_
 by_cases q:i<x∨i=x∧j<z
 ·rw [if_pos q,if_pos (by omega)]
 rw [if_neg q]
 by_cases w:i=x∧j=z
 ·rw [if_pos w,if_pos (by omega),w.1,w.2]
 rw [if_neg w,if_neg (by omega)]
 by_cases e:i=x∧j=z+1
 ·rw [if_pos e,e.1,e.2]
 rw [if_neg e]
theorem filD_up {n m:Nat} {F Z:Nat→Nat→List Int} {X:List Int} {x:Nat}:filD n m F Z X x m=filD n m F Z (Z (x+1) 0) (x+1) 0:=by
 unfold filD;refine Q1k fun i _=>Q1k fun j hj=>?_
 by_cases q:i<x∨i=x∧j<m
 ·rw [if_pos q,if_pos (by omega)]
 rw [if_neg q,if_neg (by omega),if_neg (by omega)]
 by_cases e:i=x+1∧j=0
 ·rw [if_pos e,e.1,e.2]
 rw [if_neg e]
theorem filD_zero {n m:Nat} {F Z:Nat→Nat→List Int}:filD n m F Z (Z 0 0) 0 0=tab n fun x=>tab m fun z=>Z x z:=by
 unfold filD;refine Q1k fun i _=>Q1k fun j hj=>?_;rw [if_neg (by omega)]
 by_cases e:i=0∧j=0
 ·rw [if_pos e,e.1,e.2]
 rw [if_neg e]
theorem filD_end {n m:Nat} {F Z:Nat→Nat→List Int} {X:List Int} {z:Nat}:filD n m F Z X n z=tab n fun x=>tab m fun z=>F x z:=by
 unfold filD;refine Q1k fun i hi=>Q1k fun j hj=>?_;rw [if_pos (by omega)]
theorem Q66 {f:Fn} (hf:f.Is):NT f (QM f.t)∧NT (QM f.t) f∧PQ (natP f (QM f.t)) (natP (QM f.t) f)∧PQ (natP (QM f.t) f) (natP f (QM f.t)):=by
 have n1:NT f (QM f.t):=⟨hf,self_is hf.t,rfl⟩;have n2:NT (QM f.t) f:=⟨self_is hf.t,hf,rfl⟩;exact ⟨n1,n2,⟨Q9M n1,Q9M n2,rfl⟩,⟨Q9M n2,Q9M n1,rfl⟩⟩
theorem e_compa {f:Fn} (hf:f.Is):Q2E f=some (natP f (QM f.t))∧Q35 f=some (natP (QM f.t) f):=by
 obtain ⟨n1,n2,_⟩:=Q66 hf;unfold Q2E Q35;rw [Qa7 hf.t];simp only [Option.bind_some];rw [Q7I n1,Q7I n2];exact ⟨rfl,rfl⟩
theorem self_ob {c:Cat} (hc:c.Is) {y:Nat} (hy:y<c.id.length):ix (QM c).ob y=(y:Int):=by
 have n:=hc.nums;show ix (iota c.n.toNat) y=_;exact Q2d _ (by omega) (by omega)
theorem self_lo {c:Cat} (hc:c.Is):(QM c).ob.length=c.id.length:=by
 have n:=hc.nums;have e:(QM c).ob.length=c.n.toNat:=by simp [QM]
 omega
theorem sz_comp {f:Fn} (hf:f.Is) {x y:Nat} (hx:x<f.s.id.length) (hy:y<f.t.id.length):szx (natP f (QM f.t)) x y=(homL f.t (ix f.ob x) y).length:=by
 obtain ⟨n1,n2,_⟩:=Q66 hf;have o:=n1.obn;have a:=hf.s.nums;have b:=hf.t.nums;have lo:=self_lo hf.t;unfold szx;rw [Q4U (by omega) (by omega)];unfold natS;rw [self_ob hf.t hy];simp
theorem sz_conj {f:Fn} (hf:f.Is) {x y:Nat} (hx:x<f.s.id.length) (hy:y<f.t.id.length):szz (natP (QM f.t) f) x y=(homL f.t y (ix f.ob x)).length:=by
 obtain ⟨n1,n2,_⟩:=Q66 hf;have o:=n1.obn;have a:=hf.s.nums;have b:=hf.t.nums;have lo:=self_lo hf.t;unfold szz;rw [Q4U (by omega) (by omega)];unfold natS;rw [self_ob hf.t hy];simp [QM]
theorem sz_conj' {f:Fn} (hf:f.Is) {x y:Nat} (hx:x<f.s.id.length) (hy:y<f.t.id.length):szx (natP (QM f.t) f) y x=(homL f.t y (ix f.ob x)).length:=by
 rw [← sz_conj hf hx hy];rfl
theorem sz_comp' {f:Fn} (hf:f.Is) {x y:Nat} (hx:x<f.s.id.length) (hy:y<f.t.id.length):szz (natP f (QM f.t)) y x=(homL f.t (ix f.ob x) y).length:=by
 rw [← sz_comp hf hx hy];rfl
theorem ob_in {f:Fn} (hf:f.Is) {x:Nat} (hx:x<f.s.id.length):(x:Int)<(f.ob.length:Int)∧ix f.ob x=((ix f.ob x).toNat:Int)∧(ix f.ob x).toNat<f.t.id.length:=by
 have o:(f.ob.length:Int)=f.s.n:=hf.lo;have a:=hf.s.nums;have b:=hf.t.nums;have g:=hf.ob x (by omega);omega
noncomputable def cuC (f:Fn) (y z i:Nat):Int:=idxL (homL f.t y z) (ix (rx f.t.cs (ix (homL f.t y (ix f.ob (tdec (natP (QM f.t) f) (natP f (QM f.t)) y z i).1)) (tdec (natP (QM f.t) f) (natP f (QM f.t)) y z i).2.1)) (ix (homL f.t (ix f.ob (tdec (natP (QM f.t) f) (natP f (QM f.t)) y z i).1) z) (tdec (natP (QM f.t) f) (natP f (QM f.t)) y z i).2.2))
noncomputable def cuI (f:Fn) (y z i:Nat):List Int:=img (cmC (natP (QM f.t) f) (natP f (QM f.t)) y z) (cuC f y z) (List.replicate (cmT (natP (QM f.t) f) (natP f (QM f.t)) y z).toNat 0) i
noncomputable def coL (f:Fn):List (List (List Int)):=tab f.t.id.length fun y=>tab f.t.id.length fun z=>cuI f y z (tN (natP (QM f.t) f) (natP f (QM f.t)) y z)
theorem co_in {f:Fn} (hf:f.Is) {y z w e d:Nat} (hy:y<f.t.id.length) (hz:z<f.t.id.length) (hw:w<f.s.id.length) (he:e<szx (natP (QM f.t) f) y w) (hd:d<szz (natP f (QM f.t)) z w):(e<(homL f.t y (ix f.ob w)).length∧d<(homL f.t (ix f.ob w) z).length)∧(w:Int)<(f.ob.length:Int)∧Ar f.t (ix (homL f.t y (ix f.ob w)) e) y (ix f.ob w)∧Ar f.t (ix (homL f.t (ix f.ob w) z) d) (ix f.ob w) z:=by
 rw [sz_conj' hf hw hy] at he;rw [sz_comp' hf hw hz] at hd;exact ⟨⟨he,hd⟩,(ob_in hf hw).1,Q5E he,Q5E hd⟩
set_option maxHeartbeats 2000000 in
theorem e_sCounit {f:Fn} (hf:f.Is):Q1a f=some (if bo (OKc (natP (QM f.t) f) (natP f (QM f.t)))=true then (coL f,0) else ([],3)):=by
 obtain ⟨n1,n2,_,pq⟩:=Q66 hf;have a:=hf.s.nums;have b:=hf.t.nums;unfold Q1a;rw [e_l06Is,Q2L hf];simp only [Option.bind_some,not_true_eq_false,if_false];rw [e_l06Self hf.t];simp only [Option.bind_some];rw [Q9u n1,Q9u n2];simp only [Option.bind_some];rw [e_l32Make pq,mkL];simp only [Option.bind_some]
 by_cases ok:OKc (natP (QM f.t) f) (natP f (QM f.t))
 case neg=>rw [if_neg ok,Q1n ok];simp
 rw [if_pos ok,Q2L ok];simp only [not_true_eq_false,if_false,if_true];have cs:=pq;generalize hp:natP (QM f.t) f=p at *;generalize hq:natP f (QM f.t)=q at *;have ps:p.s=f.t:=by rw [← hp];rfl
 have qt:q.t=f.t:=by rw [← hq];rfl
 have pt:p.t=f.s:=by rw [← hp];rfl
 have E:(comP p q).E:=by
  refine ⟨by show 0≤p.s.n∧p.s.n≤8∧0≤q.t.n∧q.t.n≤8;rw [ps,qt];omega,by show ((tab p.s.id.length _).length:Int)=p.s.n;rw [ps];simp;omega,fun x hx=>?_⟩;have hx':x<p.s.id.length:=by have:(x:Int)<p.s.n:=hx;rw [ps] at this ⊢;omega
  have e1:rx (comP p q).sz x=tab q.t.id.length fun z=>cmT p q x z:=Q2N _ hx';rw [e1];refine ⟨by show ((tab q.t.id.length _).length:Int)=q.t.n;rw [qt];simp;omega,fun y hy=>?_⟩;have hy':y<q.t.id.length:=by have:(y:Int)<q.t.n:=hy;rw [qt] at this ⊢;omega
  rw [Q3R _ _ hy'];have:=pq.cmT_b (x:=x) (z:=y) hx hy;have:=ok x y hx' hy';omega
 rw [Qa8 E];simp only [Option.bind_some];have ez:zerP (comP p q)=tab f.t.id.length fun y=>tab f.t.id.length fun z=>List.replicate (cmT p q y z).toNat 0:=by
  unfold zerP;have e1:(comP p q).s.n.toNat=f.t.id.length:=by show p.s.n.toNat=_;rw [ps];omega
  have e2:(comP p q).t.n.toNat=f.t.id.length:=by show q.t.n.toNat=_;rw [qt];omega
  rw [e1,e2];refine Q1k fun x hx=>Q1k fun z hz=>?_;have e1:rx (comP p q).sz x=tab q.t.id.length fun z=>cmT p q x z:=Q2N _ (by rw [ps];exact hx);rw [e1,Q3R _ _ (by rw [qt];exact hz)]
 rw [ez];have eT:(Q4X p q).length=f.t.id.length∧(tabC p q).length=f.t.id.length:=by simp [Q4X,tabC,ps]
 have gT:∀ y,y<f.t.id.length→gx (Q4X p q) y=(tab q.t.id.length fun z=>T3 p q y z)∧gx (tabC p q) y=tab q.t.id.length fun z=>cmC p q y z:=fun y hy=>⟨Q1q _ (by rw [ps];exact hy),Q1q _ (by rw [ps];exact hy)⟩;generalize hF:(fun y z:Nat=>cuI f y z (tN p q y z))=F;have eF:∀ y z,F y z=cuI f y z (tN p q y z):=fun y z=>by rw [← hF]
 refine QY f.t.id.length (fun y=>filD f.t.id.length f.t.id.length F (fun y z=>List.replicate (cmT p q y z).toNat 0) (List.replicate (cmT p q y 0).toNat 0) y 0) (e:=coL f) (by rw [← filD_zero]) (by omega) (fun y hy=>?_) (by simp only;rw [if_neg (by omega),filD_end];unfold coL;rw [hp,hq];simp only [eF]) rfl;simp only;rw [if_pos (by omega),Option.bind_assoc];refine QY f.t.id.length (fun z=>filD f.t.id.length f.t.id.length F (fun y z=>List.replicate (cmT p q y z).toNat 0) (List.replicate (cmT p q y z).toNat 0) y z) (e:=filD f.t.id.length f.t.id.length F (fun y z=>List.replicate (cmT p q y z).toNat 0) (List.replicate (cmT p q (y+1) 0).toNat 0) (y+1) 0) rfl (by omega) (fun z hz=>?_) (by simp only;rw [if_neg (by omega),filD_up]) ?_
 ·have okz:=ok y z (by rw [ps];exact hy) (by rw [qt];exact hz);have cb:=pq.cmT_b (x:=y) (z:=z) (by rw [ps];omega) (by rw [qt];omega);have l3:=Q6O p q y z;have lc:=Q42 p q y z;obtain ⟨g1,g2⟩:=gT y hy;have hzq:z<q.t.id.length:=by rw [qt];exact hz
  simp only;rw [if_pos (by omega),Option.bind_assoc];refine QY (tN p q y z) (fun i=>filD f.t.id.length f.t.id.length F (fun y z=>List.replicate (cmT p q y z).toNat 0) (cuI f y z i) y z) (e:=filD f.t.id.length f.t.id.length F (fun y z=>List.replicate (cmT p q y z).toNat 0) (List.replicate (cmT p q y (z+1)).toNat 0) y (z+1)) (by simp only [cuI,img];rw [hp,hq]) (by omega) (fun i hi=>?_) (by simp only;rw [Q4 (by omega),g1,Q4 (by simp;omega),Q1q _ hzq,if_neg (by omega),← eF,filD_next]) ?_
  ·obtain ⟨w,e,d,⟨y1,y2,y3⟩,y4,y5,y6,y7⟩:=t_at hi;rw [pt] at y1;have y2':=y2;have y3':=y3;rw [← hp] at y2';rw [← hq] at y3';obtain ⟨⟨c1',c2'⟩,c3',ar1,ar2⟩:=co_in hf hy hz y1 y2' y3';have cbi:=cb.2.2 i hi;have l1:=Q2m f.t y z;have li:(cuI f y z i).length=(cmT p q y z).toNat:=(by unfold cuI;rw [hp,hq];simp);obtain ⟨d1,d2⟩:=filD_len (n:=f.t.id.length) (m:=f.t.id.length) (F:=F) (Z:=fun y z=>List.replicate (cmT p q y z).toNat 0) (X:=cuI f y z i) (z:=z) hy;simp only;rw [Q4 (by omega),g1,g2,Q4 (by simp;omega),Q1q _ hzq,if_pos (by omega),Q4 (by omega),Q4 (by simp;omega),Q4 (by omega),y5];have i0:ix [(w:Int),(e:Int),(d:Int)] 0=w:=rfl;have i1:ix [(w:Int),(e:Int),(d:Int)] 1=e:=rfl;have i2:ix [(w:Int),(e:Int),(d:Int)] 2=d:=rfl;simp only [List.length_cons,List.length_nil];rw [i0,i1,i2,Q4 (by omega),Q4 (by omega),(Q4i hf.t _ _).1];simp only [Option.bind_some];rw [Q4 (by omega),Q4 (by omega),(Q4i hf.t _ _).1];simp only [Option.bind_some];rw [Q4 (by omega),Q4 (by omega),Q4 (by omega),Q4 (by omega),Q4 (by omega),Q4 (by simp;omega),Q2N _ hzq,Q4 (by omega),(Q4i hf.t _ _).1];simp only [Option.bind_some];rw [(Ar.thn hf.t ar1 ar2).1];simp only [Option.bind_some];rw [Q5U (by omega)];simp only [Option.bind_some];rw [filD_row hy hz,Q4 (by omega),Q4 (by unfold B64;omega)];simp only [Int.toNat_natCast];rw [filD_set hy];have ev:cuC f y z i=idxL (homL f.t y z) (ix (rx f.t.cs (ix (homL f.t y (ix f.ob w)) e)) (ix (homL f.t (ix f.ob w) z) d)):=by
    unfold cuC;rw [hp,hq,y7]
   have es:(cuI f y z i).set (ix (cmC p q y z) i).toNat (cuC f y z i)=cuI f y z (i+1):=(by unfold cuI;rw [hp,hq];rfl);rw [← ev,es]
  simp only [Option.bind_some];rw [Q4 (by unfold B64;omega)]
 simp only [Option.bind_some];rw [Q4 (by unfold B64;omega)]
theorem e_iCounit {f:Fn} (hf:f.Is):Q18 f=some (if bo (OKc (natP (QM f.t) f) (natP f (QM f.t)))=true then (coL f,0) else ([],3)):=by
 obtain ⟨n1,n2,_,pq⟩:=Q66 hf;have a:=hf.s.nums;have b:=hf.t.nums;unfold Q18;rw [Q68,Q2L hf];simp only [Option.bind_some,not_true_eq_false,if_false];rw [(e_compa hf).1,(e_compa hf).2];simp only [Option.bind_some];obtain ⟨r,er,h⟩:=e_compose pq;rw [er];simp only [Option.bind_some];rcases h with ⟨ok,rfl⟩|⟨no,rfl|rfl⟩
 ·rw [Q2L ok];unfold cmpR;simp only [not_true_eq_false,if_false,if_true];unfold QH;simp only;rw [Option.bind_assoc];refine tabg f.t.id.length (fun y=>tab f.t.id.length fun z=>cuI f y z (tN (natP (QM f.t) f) (natP f (QM f.t)) y z)) (e:=coL f) (by omega) (fun y hy=>?_) (by simp only;rw [if_neg (by show ¬ ((f.t.id.length:Int)<f.t.n);omega)];rfl) rfl;simp only;rw [if_pos (by show (y:Int)<f.t.n;omega)];refine tabg f.t.id.length (fun z=>cuI f y z (tN (natP (QM f.t) f) (natP f (QM f.t)) y z)) (e:=tab f.t.id.length fun z=>cuI f y z (tN (natP (QM f.t) f) (natP f (QM f.t)) y z)) (by omega) (fun z hz=>?_) (by simp only;rw [if_neg (by show ¬ ((f.t.id.length:Int)<f.t.n);omega)]) rfl;simp only;rw [if_pos (by show (z:Int)<f.t.n;omega)];have one:∀ k:XComposite,k.triples_=Q3J (natP (QM f.t) f) (natP f (QM f.t))→k.classes_=tabC (natP (QM f.t) f) (natP f (QM f.t))→QO y z k f f.t=some (cuI f y z (tN (natP (QM f.t) f) (natP f (QM f.t)) y z)):=by
   intro k ht hc;unfold QO Qv;have okz:=ok y z hy hz;have cb:=pq.cmT_b (x:=y) (z:=z) (by show (y:Int)<f.t.n;omega) (by show (z:Int)<f.t.n;omega);have l3:=Q6P (natP (QM f.t) f) (natP f (QM f.t)) y z;have lc:=Q42 (natP (QM f.t) f) (natP f (QM f.t)) y z;have e2:gx (Q3J (natP (QM f.t) f) (natP f (QM f.t))) (y:Nat)=tab f.t.id.length fun z=>TX (natP (QM f.t) f) (natP f (QM f.t)) y z:=Q1q _ hy;have e3:gx (tabC (natP (QM f.t) f) (natP f (QM f.t))) (y:Nat)=tab f.t.id.length fun z=>cmC (natP (QM f.t) f) (natP f (QM f.t)) y z:=Q1q _ hy;have e5:((Q3J (natP (QM f.t) f) (natP f (QM f.t))).length:Int)=f.t.id.length:=(by simp [Q3J,natP,QM]);have e6:((tabC (natP (QM f.t) f) (natP f (QM f.t))).length:Int)=f.t.id.length:=(by simp [tabC,natP,QM]);have em:=(pq.e_cmT (x:=y) (z:=z) (by show (y:Int)<f.t.n;omega) (by show (z:Int)<f.t.n;omega) okz.1).2;rw [ht,hc,e2,e3,Q1q _ hz,Q2N _ hz,Q4 (by omega),Q4 (by simp;omega),em];simp only [Option.bind_some];rw [Q4 (by omega),Q4 (by omega),Q4 (by simp;omega),Option.bind_assoc];refine QY (tN (natP (QM f.t) f) (natP f (QM f.t)) y z) (fun i=>cuI f y z i) (e:=cuI f y z (tN (natP (QM f.t) f) (natP f (QM f.t)) y z)) rfl (by omega) (fun i hi=>?_) (by simp only;rw [if_neg (by omega)]) rfl;obtain ⟨w,e,d,⟨y1,y2,y3⟩,y4,y5,y6,y7⟩:=t_at hi;obtain ⟨⟨c1',c2'⟩,c3',ar1,ar2⟩:=co_in hf hy hz (w:=w) y1 y2 y3;have cbi:=cb.2.2 i hi;have l1:=Q2m f.t y z;have li:(cuI f y z i).length=(cmT (natP (QM f.t) f) (natP f (QM f.t)) y z).toNat:=(by unfold cuI;simp);have one:QI ⟨(w:Int),(e:Int),(d:Int)⟩ f f.t y z=some (cuC f y z i):=by
    unfold QI;simp only;rw [Q4 (by omega),(Q4i hf.t _ _).2];simp only [Option.bind_some];rw [(Q4i hf.t _ _).2];simp only [Option.bind_some];rw [Q4 (by omega),(Q4i hf.t _ _).2];simp only [Option.bind_some];rw [Q4 (by omega),(Ar.thn hf.t ar1 ar2).2];simp only [Option.bind_some];rw [Q8D (by omega)];simp only [Option.bind_some];unfold cuC;rw [y7]
   simp only;rw [if_pos (by omega),Q4 (by omega),Q4 (by omega),Q4 (by simp;omega),Q4 (by omega),y6,one];simp only [Option.bind_some];rw [Q4 (by omega),Q4 (by unfold B64;omega)];rfl
  rw [one _ rfl rfl];simp only [Option.bind_some]
 ·rw [Q1n no];simp
 rw [Q1n no];simp [cmpR]
end
section
attribute [local simp] Ql Q11 QE Q1j QW
theorem coN_ok {L:List (List (List Int))} {n m k:Nat} (hn:n≤8) (hm:m≤8) (hk:k≤100000) {v:Nat→Nat→List Int} (hv:∀ x z,x<n→z<m→(v x z).length≤k) (e:L=tab n fun x=>tab m fun z=>v x z):L.length≤1048576∧okN L∧sumN L≤8 * (8 * k):=by
 subst e;refine ⟨by simp;omega,fun a ha=>?_,?_⟩
 ·obtain ⟨x,hx,rfl⟩:=Q6i ha;refine ⟨by simp;omega,fun b hb=>?_⟩;obtain ⟨z,hz,rfl⟩:=Q6i hb;have:=hv x z hx hz;omega
 have h1:∀ a∈(tab n fun x=>tab m fun z=>v x z),sumL a≤8 * k:=fun a ha=>by
  obtain ⟨x,hx,rfl⟩:=Q6i ha;have:=sumL_bnd (m:=k) (x:=tab m fun z=>v x z) fun b hb=>by
   obtain ⟨z,hz,rfl⟩:=Q6i hb;exact hv x z hx hz
  have h2:(tab m fun z=>v x z).length * k≤8 * k:=Nat.mul_le_mul_right k (by simp;omega);omega
 have:∀ (L:List (List (List Int))) (q:Nat),(∀ a∈L,sumL a≤q)→sumN L≤L.length * q:=by
  intro L q
  induction L with
  | nil=>intro _;simp [sumN]
  | cons a r ih =>
   intro h;have h3:=ih fun b hb=>h b (by simp [hb]);have h4:=h a (by simp);have e1:sumN (a :: r)=sumL a+sumN r:=(by simp [sumN]);rw [e1,List.length_cons,Nat.succ_mul];omega
 have h5:=this _ _ h1;have h6:(tab n fun x=>tab m fun z=>v x z).length * (8 * k)≤8 * (8 * k):=Nat.mul_le_mul_right _ (by simp;omega);omega
theorem Q5r (f:Fn):∃ r,Q1a f=some r∧Q18 f=some r∧(r.1.length≤1048576∧okN r.1)∧sumN r.1≤10000000:=by
 by_cases hf:f.Is
 case neg =>
  unfold Q1a Q18;rw [e_l06Is,Q68,Q1n hf];exact ⟨([],1),rfl,rfl,⟨by simp,by simp [okN]⟩,by simp [sumN]⟩
 refine ⟨_,e_sCounit hf,e_iCounit hf,?_⟩;have b:=hf.t.nums
 by_cases ok:OKc (natP (QM f.t) f) (natP f (QM f.t))
 ·rw [Q2L ok,if_pos rfl];obtain ⟨q1,q2,q3⟩:=coN_ok (L:=coL f) (k:=64) (by omega) (by omega) (by omega) (fun x z hx hz=>by
   have:=(ok x z hx hz).2;unfold cuI;simp;omega) rfl
  exact ⟨⟨q1,q2⟩,by simp only;omega⟩
 rw [Q1n ok];exact ⟨⟨by simp,by simp [okN]⟩,by simp [sumN]⟩
end
end Go.Vc.T
