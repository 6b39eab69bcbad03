/- A part of the proof: a verified generator of conditions, and what each function of the program does. -/
import Derived.Test.YtjfnifbgmcjjkaaGreatS13
set_option maxRecDepth 100000
set_option maxHeartbeats 4000000
set_option linter.unusedSimpArgs false
set_option linter.unusedVariables false

namespace Go.Vc.T
open Go Go.Vc Go.Proofs
attribute [local simp] unk unA unE unT unC flat eL eI Qr Q1b Prf.cells
@[simp] theorem Is_dropE (xs:List Int) (k:Nat):List.drop k (Is xs)=Is (xs.drop k):=by simp [Is,List.map_drop]
noncomputable def Q3C (p_:Prf) (list_:List Int):Option (List (List (List Int))) :=
 (Qx (σ:=List (List (List Int)) × Int) (ε:=List (List (List Int))) (fun s25 =>
  if s25.2<p_.s.n then
   (Qx (σ:=List (List Int) × Int) (ε:=List (List Int)) (fun s37 =>
    if s37.2<p_.t.n then
     (Q1R p_ s25.2 s37.2).bind fun v39 =>
     ass (0≤s25.2∧s25.2<(p_.sz.length:Int)) <|
     ass (0≤s37.2∧s37.2<((rx p_.sz s25.2).length:Int)) <|
     ass (B64 (v39+(ix (rx p_.sz s25.2) s37.2))) <|
     ass ((0:Int)≤v39∧v39≤v39+(ix (rx p_.sz s25.2) s37.2)∧v39+(ix (rx p_.sz s25.2) s37.2)≤(list_.length:Int)) <|
     (Q2P ((list_.drop v39.toNat).take ((v39+(ix (rx p_.sz s25.2) s37.2) - v39).toNat))).bind fun v44 =>
     ass ((s37.1++[v44]).length≤1073741824) <|
     ass (B64 (s37.2+1)) <|
     some (Ctl.next (s37.1++[v44],s37.2+1))
    else
     some (Ctl.ret s37.1)) fuel ([],0)).bind fun b27 =>
   ass ((s25.1++[b27]).length≤1073741824) <|
   ass (B64 (s25.2+1)) <|
   some (Ctl.next (s25.1++[b27],s25.2+1))
  else
   some (Ctl.ret s25.1)) fuel ([],0)).bind fun b1 =>
 some b1
theorem Q11 {F : Fx} {st st' : St} (m : List (Nat × Nat)) (h : (m.map Prod.fst).Nodup ∧ (m.map Prod.snd).Nodup ∧ (∀ id, id < F.pins → look id m = some id) ∧ (∀ p ∈ m, p.2 < st'.n) ∧ (∀ p ∈ st'.h, p.1 < st'.n) ∧ (∀ p ∈ st'.s, p.2 = rl m (st.get p.1) ∨ p.2 = .bot) ∧ ∀ p ∈ st'.h, hhOk m st.h p.1 p.2 := by simp [hP, hhOk, back, idQ, Prf.cells, UA, U1, IA, I1, LA, L1, BA, B1, EA, E1, E2, eB, eI, eL, Cat.cells, Fn.cells, XComposite.cells, XTripleint64.cells, Q8 _ Qk _ (fun _=>rfl), Q8 _ Q9 _ (fun _=>rfl), Q8 _ (XTripleint64.cells true) _ (fun _=>rfl), Q8 _ (fun x=>[.lst true 1 (Es (fun x=>[.lst true 3 (Es (XTripleint64.cells true) x)]) x)]) _ (fun _=>rfl), Q8 _ (fun x=>[.lst true 3 (Es (XTripleint64.cells true) x)]) _ (fun _=>rfl), XL32Composite.cells, Q8 _ Qs _ (fun _=>rfl), Q8 _ (fun x=>[.lst true 1 (Es eL x)]) _ (fun _=>rfl)]) : Wk F st st' := Wk.r1 m h
theorem Q3g {F : Fx} {st st' : St} (m : Nat) (h : ((idQ m).map Prod.fst).Nodup ∧ ((idQ m).map Prod.snd).Nodup ∧ (∀ id, id < F.pins → look id (idQ m) = some id) ∧ (∀ p ∈ (idQ m), p.2 < st'.n) ∧ (∀ p ∈ st'.h, p.1 < st'.n) ∧ (∀ p ∈ st'.s, p.2 = rl (idQ m) (st.get p.1) ∨ p.2 = .bot) ∧ ∀ p ∈ st'.h, hhOk (idQ m) st.h p.1 p.2 := by simp [hP, hhOk, back, idQ, Prf.cells, UA, U1, IA, I1, LA, L1, BA, B1, EA, E1, E2, eB, eI, eL, Cat.cells, Fn.cells, XComposite.cells, XTripleint64.cells, Q8 _ Qk _ (fun _=>rfl), Q8 _ Q9 _ (fun _=>rfl), Q8 _ (XTripleint64.cells true) _ (fun _=>rfl), Q8 _ (fun x=>[.lst true 1 (Es (fun x=>[.lst true 3 (Es (XTripleint64.cells true) x)]) x)]) _ (fun _=>rfl), Q8 _ (fun x=>[.lst true 3 (Es (XTripleint64.cells true) x)]) _ (fun _=>rfl), XL32Composite.cells, Q8 _ Qs _ (fun _=>rfl), Q8 _ (fun x=>[.lst true 1 (Es eL x)]) _ (fun _=>rfl)]) : Wk F st st' := Wk.r1 (idQ m) h
@[simp] abbrev Y0p (a:List Int) (b:List (List (List Int)) × Int) (c:List (Nat × AV)):List (Nat × AV):=(1,lI a)::(2,.adr 0 0 0)::(5,.own 1 0 b.1.length)::(6,iV b.2)::c
theorem Q8x (p_:Prf) (list_:List Int) (r:List (List (List Int))) (h:Q3C p_ list_=some r):Contract Tryz.prog 58 [.agg (p_.cells true),lI list_] (.lst true 1 (Es eL r)):=by
 refine Qc (rvs:=[.tmp 4]) (rs:=[.lst true 1 (Es eL r)]) Tryz.func58 rfl rfl rfl rfl (by simp [Tryz.f58]) fun F hN hP=>?_;unfold Q3C at h;refine Q3 (runQ hN fun K hK=>?_);simp;repeat refine sdQ ?_
 refine hK _ ?_;clear hK K;refine tn (Q7 (st':=⟨[(1,lI list_),(2,.adr 0 0 0)],YZ p_ [],1⟩) (Q11 [(0,0)]) (Q3 (runQ hN fun K hK=>?_)));simp;repeat refine sdQ ?_
 refine hK _ ?_;clear hK K;refine tn (Q7 (st':=⟨[(1,lI list_),(2,.adr 0 0 0),(5,.own 1 0 0)],YZ p_ [(1,.mix 1 [])],2⟩) (Q11 [(0,0),(1,1)]) (Q3 (Q3 (runQ hN fun K hK=>?_))));simp;repeat refine sdQ ?_
 refine hK _ (tn (Q7 (st':=⟨[(1,lI list_),(2,.adr 0 0 0),(5,.own 1 0 0),(6,iV 0)],YZ p_ [(1,.mix 1 [])],2⟩) (Q11 [(0,0),(1,1)]) ?_));clear hK K;replace ⟨e1,h,h1⟩:=bind_some h;refine Qg (fun b1:List (List (List Int))=>⟨[(5,.own 0 0 b1.length)],[(0,.row 1 (Es eL b1))],1⟩) (fun b1=>b1=e1) ?_ ?_
 ·refine Qa (Qn h (fun s25:List (List (List Int)) × Int=>⟨Y0p list_ s25 [],YZ p_ [(1,.row 1 (Es eL s25.1))],2⟩) (Q1E ⟨[(1,lI list_),(2,.adr 0 0 0),(5,.own 1 0 0),(6,iV 0)],YZ p_ [(1,.row 1 (Es eL []))],2⟩ (Wk.nils [] (by simp) (by simp) (by simp [nlA]) (by simp [entN,nlL,nlA,Prf.cells,UA,U1,IA,I1,LA,L1,BA,B1,EA,E1,E2,eB,eI,eL]) (by simp)) (Q11 [(0,0),(1,1)])) ?_);clear h;intro k25 s25 c25 h hk25;refine Q3 (Q3 (runQ hN fun K hK=>?_));simp;repeat refine sdQ ?_
  refine hK _ ?_;clear hK K;refine tn (Qd rfl (fun g=>?_) fun g=>?_)
  ·have g26:s25.2<p_.s.n:=gQ;clear g;replace h:=if_l g26 h;refine Qe (tn (Q3 (Qa (Q3 (runQ hN fun K hK=>?_)))));simp;(repeat refine sdQ ?_);refine hK _ ?_;clear hK K;refine tn (Q7 (st':=⟨Y0p list_ s25 [(7,.own 2 0 0)],YZ p_ [(1,.row 1 (Es eL s25.1)),(2,.mix 1 [])],3⟩) (Q3g 3) (Q3 (Q3 (runQ hN fun K hK=>?_))));simp;(repeat refine sdQ ?_);refine hK _ (tn (Q7 (st':=⟨Y0p list_ s25 [(7,.own 2 0 0),(8,iV 0)],YZ p_ [(1,.row 1 (Es eL s25.1)),(2,.mix 1 [])],3⟩) (Q3g 3) ?_));clear hK K;replace ⟨e27,h,h27⟩:=bind_some h;refine Qg (fun b27:List (List Int)=>⟨Y0p list_ s25 [(7,.own 2 0 b27.length)],YZ p_ [(1,.row 1 (Es eL s25.1)),(2,.row 1 (Ls b27))],3⟩) (fun b27=>b27=e27) ?_ ?_
   ·refine Qa (Qn h (fun s37:List (List Int) × Int=>⟨Y0p list_ s25 [(7,.own 2 0 s37.1.length),(8,iV s37.2)],YZ p_ [(1,.row 1 (Es eL s25.1)),(2,.row 1 (Ls s37.1))],3⟩) (Q1E ⟨Y0p list_ s25 [(7,.own 2 0 0),(8,iV 0)],YZ p_ [(1,.row 1 (Es eL s25.1)),(2,.row 1 (Ls []))],3⟩ (Wk.nils [] (by simp) (by simp) (by simp [nlA]) (by simp [entN,nlL,nlA,Prf.cells,UA,U1,IA,I1,LA,L1,BA,B1,EA,E1,E2,eB,eI,eL]) (by simp)) (Q3g 3)) ?_);clear h;intro k37 s37 c37 h hk37;refine Q3 (Q3 (runQ hN fun K hK=>?_));simp;(repeat refine sdQ ?_);refine hK _ ?_;clear hK K;refine tn (Qd rfl (fun g=>?_) fun g=>?_)
    ·have g38:s37.2<p_.t.n:=gQ;clear g;replace h:=if_l g38 h;refine Qe (tn (Q3 (Qa (Q3 (runQ hN fun K hK=>?_)))));simp;(repeat with_reducible refine sdQ ?_);replace ⟨v39,hv39,h⟩:=bind_some h;refine Q4 (Q5h _ _ _ v39 hv39) (.cons (.aggL (.cons .val (.cons .lst (.cons .lst (.cons .lst (.cons .lst (.cons .val (.cons .lst (.cons .lst (.cons .lst (.cons .lst (.cons .lst (.cons .lst (.cons .lst .nil)))))))))))))) (.cons .val (.cons .val .nil))) ?_;simp;(repeat refine sdQ ?_);refine hK _ ?_;clear hK K;refine tn (Q7 (st':=⟨Y0p list_ s25 [(7,.own 2 0 s37.1.length),(8,iV s37.2),(9,iV v39)],YZ p_ [(1,.row 1 (Es eL s25.1)),(2,.row 1 (Ls s37.1))],3⟩) (Q3g 3) (runQ hN fun K hK=>?_));replace ⟨a40,h⟩:=Q0 h;replace ⟨a41,h⟩:=Q0 h;replace ⟨a42,h⟩:=Q0 h;replace ⟨a43,h⟩:=Q0 h;simp [at_L a40,at_I a41,Qh a42];(repeat with_reducible refine sdQ ?_);replace ⟨v44,hv44,h⟩:=bind_some h;refine Q4 (Q5A _ v44 hv44) (.cons .lst .nil) ?_;replace ⟨a45,h⟩:=Q0 h;(try simp only [List.length_append,List.length_cons,List.length_nil] at a45);simp [at_L a40,at_I a41,a45];(repeat refine sdQ ?_);refine hK _ ?_;clear hK K;refine bn (tn (Q7 (st':=⟨Y0p list_ s25 [(7,.own 2 0 ((s37.1++[v44]).length)),(8,iV s37.2)],YZ p_ [(1,.row 1 (Es eL s25.1)),(2,.row 1 (Ls (s37.1++[v44])))],3⟩) (Q11 [(0,0),(1,1),(5,2)]) (runQ hN fun K hK=>?_)));replace ⟨a46,h⟩:=Q0 h;simp [Qh a46];(repeat refine sdQ ?_);refine hK _ ?_;clear hK K;cases h;exact rn (s':=(s37.1++[v44],s37.2+1)) hk37 (Q3g 3)
    have g38:¬ (s37.2<p_.t.n):=gQ;clear g;replace h:=if_r g38 h;refine Qm (tx (lx (bh ?_)));cases h;exact jn (b:=s37.1) hk37 (Q3g 3)
   intro b27 hb27;have h:=h27;(try rw [← hb27] at h);clear h27;(try dsimp only at h);refine runQ hN fun K hK=>?_;replace ⟨a47,h⟩:=Q0 h;(try simp only [List.length_append,List.length_cons,List.length_nil] at a47);simp [a47];(repeat refine sdQ ?_);refine hK _ ?_;clear hK K;refine bn (tn (Q7 (st':=⟨[(1,lI list_),(2,.adr 0 0 0),(5,.own 1 0 ((s25.1++[b27]).length)),(6,iV s25.2)],YZ p_ [(1,.row 1 (Es eL (s25.1++[b27])))],2⟩) (Q11 [(0,0),(4,1)]) (runQ hN fun K hK=>?_)));replace ⟨a48,h⟩:=Q0 h;simp [Qh a48];(repeat refine sdQ ?_);refine hK _ ?_;clear hK K;cases h;exact rn (s':=(s25.1++[b27],s25.2+1)) hk25 (Q11 [(0,0),(1,1)])
  have g26:¬ (s25.2<p_.s.n):=gQ;clear g;replace h:=if_r g26 h;refine Qm (tx (lx (bh ?_)));cases h;exact jn (b:=s25.1) hk25 (Q11 [(1,0)])
 intro b1 hb1;have h:=h1;try rw [← hb1] at h
 clear h1;try dsimp only at h
 refine Q3 (runQ hN fun K hK=>?_);simp;repeat refine sdQ ?_
 refine hK _ (tn (Q7 (st':=⟨[(4,.own 0 0 b1.length)],[(0,.row 1 (Es eL b1))],1⟩) (Q11 [(0,0)]) (Qo ?_)));clear hK K;have hr:=Option.some.inj h;rw [← hr];refine ⟨_,(.tmp .nil),?_⟩;refine ⟨(.one rfl rfl .nil),[.lst true 1 (Es eL b1)],[0],by simp [Prf.cells,UA,U1,IA,I1,LA,L1,BA,B1,EA,E1,E2,eB,eI,eL],by simp,(UpL.refl _)⟩
attribute [local simp] unk unA unE unT unC flat eL eI Qr Q1b Prf.cells
noncomputable def Q33 (p_:Prf):Option (List (List (List Int))) :=
 (Q1R p_ p_.s.n 0).bind fun v1 =>
 ass (0≤v1∧v1≤1073741824) <|
 (Q3C p_ (List.replicate v1.toNat 0)).bind fun v3 =>
 some v3
theorem Q8w (p_:Prf) (r:List (List (List Int))) (h:Q33 p_=some r):Contract Tryz.prog 22 [.agg (p_.cells true)] (.lst true 1 (Es eL r)):=by
 refine Qc (rvs:=[.tmp 2]) (rs:=[.lst true 1 (Es eL r)]) Tryz.func22 rfl rfl rfl rfl (by simp [Tryz.f22]) fun F hN hP=>?_;unfold Q33 at h;refine Q3 (runQ hN fun K hK=>?_);simp;repeat refine sdQ ?_
 refine hK _ ?_;clear hK K;refine tn (Q7 (st':=⟨Y0K [],YZ p_ [],1⟩) (Q11 [(0,0)]) (Q3 (runQ hN fun K hK=>?_)));simp;repeat with_reducible refine sdQ ?_
 replace ⟨v1,hv1,h⟩:=bind_some h;refine Q4 (Q5h _ _ _ v1 hv1) (.cons (.aggL (.cons .val (.cons .lst (.cons .lst (.cons .lst (.cons .lst (.cons .val (.cons .lst (.cons .lst (.cons .lst (.cons .lst (.cons .lst (.cons .lst (.cons .lst .nil)))))))))))))) (.cons .val (.cons .val .nil))) ?_;replace ⟨a2,h⟩:=Q0 h;simp;repeat with_reducible refine sdQ ?_
 replace ⟨v3,hv3,h⟩:=bind_some h;refine Q4 (Q8x _ _ v3 hv3) (.cons (.aggL (.cons .val (.cons .lst (.cons .lst (.cons .lst (.cons .lst (.cons .val (.cons .lst (.cons .lst (.cons .lst (.cons .lst (.cons .lst (.cons .lst (.cons .lst .nil)))))))))))))) (.cons .w .nil)) ?_;simp;repeat refine sdQ ?_
 refine hK _ (tn (Q7 (st':=⟨[(2,.own 0 0 v3.length)],[(0,.row 1 (Es eL v3))],1⟩) (Q11 [(3,0)]) (Qo ?_)));clear hK K;have hr:=Option.some.inj h;rw [← hr];refine ⟨_,(.tmp .nil),?_⟩;refine ⟨(.one rfl rfl .nil),[.lst true 1 (Es eL v3)],[0],by simp [Prf.cells,UA,U1,IA,I1,LA,L1,BA,B1,EA,E1,E2,eB,eI,eL],by simp,(UpL.refl _)⟩
section
attribute [local simp] Ql QX QD Q1e QR
noncomputable def rsum (p:Prf) (x:Nat):Nat→Nat
 | 0=>0
 | y+1=>rsum p x y+(ix (rx p.sz x) y).toNat
noncomputable def offN (p:Prf) (m:Nat):Nat→Nat
 | 0=>0
 | x+1=>offN p m x+rsum p x m
structure Prf.E (p:Prf):Prop where
 n8:0≤p.s.n∧p.s.n≤8∧0≤p.t.n∧p.t.n≤8
 ls:(p.sz.length:Int)=p.s.n
 row:∀ x:Nat,(x:Int)<p.s.n→((rx p.sz x).length:Int)=p.t.n∧∀ y:Nat,(y:Int)<p.t.n→0≤ix (rx p.sz x) y∧ix (rx p.sz x) y≤64
theorem Prf.M.E {p:Prf} (h:p.M):p.E:=by
 have a:=h.z.hs.nums;have b:=h.z.ht.nums;refine ⟨by omega,h.z.ls,fun x hx=>?_⟩;have g:=h.z.S (x:=x) (by omega);exact ⟨g.1,fun y hy=>g.2 y (by omega)⟩
theorem Q6q {p:Prf} (h:p.E) {x:Nat} (hx:(x:Int)<p.s.n):∀ {m:Nat},(m:Int)≤p.t.n→rsum p x m≤m * 64
 | 0,_=>Nat.le_refl _
 | m+1,hm=>by
  have:=Q6q h hx (m:=m) (by omega);have:=((h.row x hx).2 m (by omega)).2;simp only [rsum];omega
theorem Q8j {p:Prf} {x:Nat} {y:Nat}:∀ {m:Nat},y<m→rsum p x y+(ix (rx p.sz x) y).toNat≤rsum p x m
 | 0,h=>absurd h (by omega)
 | m+1,h=>by
  rcases Nat.lt_or_ge y m with q|q
  ·have:=Q8j (p:=p) (x:=x) q;simp only [rsum];omega
  have h1:y=m:=by omega
  subst h1;simp only [rsum];omega
theorem Q8f {p:Prf} {m:Nat} {x:Nat}:∀ {n:Nat},x<n→offN p m x+rsum p x m≤offN p m n
 | 0,h=>absurd h (by omega)
 | n+1,h=>by
  rcases Nat.lt_or_ge x n with q|q
  ·have:=Q8f (p:=p) (m:=m) q;simp only [offN];omega
  have h1:x=n:=by omega
  subst h1;simp only [offN];omega
theorem Q7o {p:Prf} (h:p.E) {m:Nat} (hm:(m:Int)≤p.t.n):∀ {n:Nat},(n:Int)≤p.s.n→offN p m n≤n * 512
 | 0,_=>Nat.le_refl _
 | n+1,hn=>by
  have:=Q7o h hm (n:=n) (by omega);have:=Q6q h (x:=n) (by omega) hm;have:=h.n8;simp only [offN];omega
noncomputable def offR (p:Prf) (m x y i:Nat):Nat:=if i≤x then offN p m i else offN p m x+(if x<i then rsum p x (min y m) else 0)
noncomputable def offC (p:Prf) (m x y i j:Nat):Nat:=offR p m x y i+(if i<x then rsum p i j else if i=x then rsum p x (min y j) else 0)
theorem offC_zero (p:Prf) (m x y i:Nat):offC p m x y i 0=offR p m x y i:=by
 unfold offC
 by_cases q:i<x
 ·rw [if_pos q];rfl
 rw [if_neg q]
 by_cases w:i=x
 ·rw [if_pos w,Nat.min_zero];rfl
 rw [if_neg w];rfl
theorem offC_end (p:Prf) (m x y i:Nat):offC p m x y i m=offR p m x y (i+1):=by
 rcases Nat.lt_trichotomy i x with q|q|q
 ·rw [offC,offR,offR,if_pos (show i≤x by omega),if_pos q,if_pos (show i+1≤x by omega)];rfl
 ·subst q;rw [offC,offR,offR,if_pos (Nat.le_refl i),if_neg (Nat.lt_irrefl i),if_pos rfl,if_neg (show ¬ i+1≤i by omega),if_pos (show i<i+1 by omega)]
 rw [offC,offR,offR,if_neg (show ¬ i≤x by omega),if_pos q,if_neg (show ¬ i<x by omega),if_neg (show ¬ i=x by omega),if_neg (show ¬ i+1≤x by omega),if_pos (show x<i+1 by omega)];rfl
theorem offC_in {p:Prf} {m x y i j:Nat} (h:i<x∨(i=x∧j<y)):offC p m x y i (j+1)=offC p m x y i j+(ix (rx p.sz i) j).toNat:=by
 rcases h with q|⟨rfl,w⟩
 ·simp only [offC,if_pos q,rsum];omega
 simp only [offC,Nat.lt_irrefl,if_false,if_true,Nat.min_eq_right (show j+1≤y by omega),Nat.min_eq_right (show j≤y by omega),rsum];omega
theorem offC_out {p:Prf} {m x y i j:Nat} (h:¬ (i<x∨(i=x∧j<y))):offC p m x y i (j+1)=offC p m x y i j:=by
 have q:¬ i<x:=by omega
 by_cases w:i=x
 ·subst w;simp only [offC,Nat.lt_irrefl,if_false,if_true,Nat.min_eq_left (show y≤j+1 by omega),Nat.min_eq_left (show y≤j by omega)]
 simp only [offC,if_neg q,if_neg w]
theorem offR_le {p:Prf} (h:p.E) {m x y i:Nat} (hm:(m:Int)≤p.t.n) (hi:(i:Int)≤p.s.n):offR p m x y i≤8192:=by
 have n8:=h.n8;unfold offR
 by_cases q:i≤x
 ·rw [if_pos q];have:=Q7o h hm hi;omega
 rw [if_neg q,if_pos (by omega)];have:=Q7o h hm (n:=x) (by omega);have:=Q6q h (x:=x) (by omega) (m:=min y m) (by omega);omega
theorem offC_le {p:Prf} (h:p.E) {m x y i j:Nat} (hm:(m:Int)=p.t.n) (hi:(i:Int)<p.s.n) (hj:j≤m):offC p m x y i j≤16384:=by
 have n8:=h.n8;have:=offR_le h (x:=x) (y:=y) (i:=i) (m:=m) (by omega) (by omega);have:=Q6q h (x:=i) hi (m:=j) (by omega);unfold offC
 by_cases q:i<x
 ·rw [if_pos q];omega
 rw [if_neg q]
 by_cases w:i=x
 ·subst w;rw [if_pos rfl];have:=Q6q h (x:=i) hi (m:=min y j) (by omega);omega
 rw [if_neg w];omega
theorem Q9A {p:Prf} (h:p.E) {x y:Nat}:Q1R p x y=some (offR p p.t.n.toNat x y p.s.n.toNat:Int):=by
 have n8:=h.n8;generalize hm:p.t.n.toNat=m;generalize hn:p.s.n.toNat=n;unfold Q1R;refine QZ n (fun i=>(offR p m x y i:Int)) (e:=(offR p m x y n:Int)) (by simp [offR,offN]) (by omega) (fun i hi=>?_) (by simp only;rw [if_neg (by omega)]) rfl;have r:=h.row i (by omega);simp only;rw [if_pos (by omega),Option.bind_assoc];refine QZ m (fun j=>(offC p m x y i j:Int)) (e:=(offR p m x y (i+1):Int)) (by rw [offC_zero]) (by omega) (fun j hj=>?_) (by simp only;rw [if_neg (by omega),offC_end]) ?_
 ·have r2:=r.2 j (by omega);have l1:=h.ls;have b:=offC_le h (x:=x) (y:=y) (m:=m) (i:=i) (j:=j) (by omega) (by omega) (by omega);simp only;rw [if_pos (by omega)]
  by_cases q:i<x∨(i=x∧j<y)
  ·have e1:(if (i:Int)<(x:Int) then some true else if (i:Int)=(x:Int) then some (decide ((j:Int)<(y:Int))) else some false:Option Bool)=some true:=by
    rcases q with w|⟨w1,w2⟩
    ·rw [if_pos (by omega)]
    rw [if_neg (by omega),if_pos (by omega)];simp;omega
   rw [e1];simp only [Option.bind_some,if_true];rw [Q6 (by omega),Q6 (by omega),Q6 (by unfold B64;omega)];simp only [Option.bind_some];rw [Q6 (by unfold B64;omega),offC_in q];have e2:((offC p m x y i j+(ix (rx p.sz i) j).toNat:Nat):Int)=(offC p m x y i j:Int)+ix (rx p.sz i) j:=(by omega);rw [e2]
  have e1:(if (i:Int)<(x:Int) then some true else if (i:Int)=(x:Int) then some (decide ((j:Int)<(y:Int))) else some false:Option Bool)=some false:=by
   rw [if_neg (by omega)]
   by_cases w:(i:Int)=(x:Int)
   ·rw [if_pos w];simp;omega
   rw [if_neg w]
  rw [e1];simp only [Option.bind_some,Bool.false_eq_true,if_false];rw [Q6 (by unfold B64;omega),offC_out q]
 simp only [Option.bind_some];rw [Q6 (by unfold B64;omega)]
noncomputable def zerP (p:Prf):List (List (List Int)):=tab p.s.n.toNat fun x=>tab p.t.n.toNat fun y=>List.replicate (ix (rx p.sz x) y).toNat 0
theorem Qab {p:Prf} (h:p.E):Q33 p=some (zerP p):=by
 have n8:=h.n8;unfold Q33 Q3C;have e0:Q1R p p.s.n 0=some (offN p p.t.n.toNat p.s.n.toNat:Int):=by
  have:=Q9A h (x:=p.s.n.toNat) (y:=0);rw [Int.toNat_of_nonneg n8.1] at this;rw [show (0:Int)=((0:Nat):Int) from rfl,this];simp [offR]
 rw [e0];simp only [Option.bind_some];have tot:=Q7o h (m:=p.t.n.toNat) (by omega) (n:=p.s.n.toNat) (by omega);generalize hm:p.t.n.toNat=m at *;generalize hn:p.s.n.toNat=n at *;rw [Q6 (by omega),Option.bind_assoc];refine tabg n (fun x=>tab m fun y=>List.replicate (ix (rx p.sz x) y).toNat 0) (e:=zerP p) (by omega) (fun x hx=>?_) (by simp only;rw [if_neg (by omega)];unfold zerP;rw [hm,hn]) rfl;have r:=h.row x (by omega);simp only;rw [if_pos (by omega)];refine tabg m (fun y=>List.replicate (ix (rx p.sz x) y).toNat 0) (e:=tab m fun y=>List.replicate (ix (rx p.sz x) y).toNat 0) (by omega) (fun y hy=>?_) (by simp only;rw [if_neg (by omega)]) rfl;have r2:=r.2 y (by omega);have l1:=h.ls;have eo:offR p m x y n=offN p m x+rsum p x y:=by
  unfold offR;rw [if_neg (by omega),if_pos (by omega),Nat.min_eq_left (by omega)]
 have m1:=Q8j (p:=p) (x:=x) hy;have m2:=Q8f (p:=p) (m:=m) hx;have eO:=Q9A h (x:=x) (y:=y);rw [hm,hn,eo] at eO;simp only;rw [if_pos (by omega),eO];simp only [Option.bind_some];rw [Q6 (by omega),Q6 (by omega),Q6 (by unfold B64;omega),Q6 (by simp;omega)];have el:((List.replicate (offN p m n:Int).toNat (0:Int)).drop ((offN p m x+rsum p x y:Nat):Int).toNat).take ((((offN p m x+rsum p x y:Nat):Int)+ix (rx p.sz x) y - ((offN p m x+rsum p x y:Nat):Int)).toNat)=List.replicate (ix (rx p.sz x) y).toNat 0:=by
  rw [List.drop_replicate,List.take_replicate]
  congr 1
  omega
 rw [el];unfold Q2P;rw [Q6 (by simp;omega)];rfl
end
attribute [local simp] unk unA unE unT unC flat eL eI Qr Q15 Q3v Q1b Cat.cells Fn.cells Prf.cells
noncomputable def Q2B (f_:Fn):Option Prf :=
 (Q2s f_.t).bind fun v1 =>
 (Q2M f_ v1).bind fun v2 =>
 some v2
@[simp] abbrev YK (a:Prf) (b:List (Nat × Ent)):List (Nat × Ent):=(0,.mix 13 [[iV a.s.n,.own 1 0 a.s.fr.length,.own 2 0 a.s.to.length,.own 3 0 a.s.id.length,.own 4 0 a.s.cs.length,iV a.t.n,.own 5 0 a.t.fr.length,.own 6 0 a.t.to.length,.own 7 0 a.t.id.length,.own 8 0 a.t.cs.length,.own 9 0 a.sz.length,.own 10 0 a.bf.length,.own 11 0 a.bh.length]])::(1,rI a.s.fr)::(2,rI a.s.to)::(3,rI a.s.id)::(4,.row 1 (Ls a.s.cs))::(5,rI a.t.fr)::(6,rI a.t.to)::(7,rI a.t.id)::(8,.row 1 (Ls a.t.cs))::(9,.row 1 (Ls a.sz))::(10,.row 1 (Es eL a.bf))::(11,.row 1 (Es eL a.bh))::b
@[simp] abbrev Y1q (a:Fn) (b:List (AV)):List (AV):=iV a.s.n::.own 2 0 a.s.fr.length::.own 3 0 a.s.to.length::.own 4 0 a.s.id.length::.own 5 0 a.s.cs.length::iV a.t.n::.own 6 0 a.t.fr.length::.own 7 0 a.t.to.length::.own 8 0 a.t.id.length::.own 9 0 a.t.cs.length::.own 10 0 a.ob.length::.own 11 0 a.ar.length::b
@[simp] abbrev Y05 (a:Fn) (b:List (Nat × Ent)):List (Nat × Ent):=(1,.mix 12 [(Y1q a [])])::(2,rI a.s.fr)::(3,rI a.s.to)::(4,rI a.s.id)::(5,.row 1 (Ls a.s.cs))::(6,rI a.t.fr)::(7,rI a.t.to)::(8,rI a.t.id)::(9,.row 1 (Ls a.t.cs))::(10,rI a.ob)::(11,rI a.ar)::b
theorem Q7B (f_:Fn) (r:Prf) (h:Q2B f_=some r):Contract Tryz.prog 30 [.rptr (f_.cells true)] (.agg (r.cells true)):=by
 refine Qc (rvs:=[.cell 2 45]) (rs:=[.agg (r.cells true)]) Tryz.func30 rfl rfl rfl rfl (by simp [Tryz.f30]) fun F hN hP=>?_;unfold Q2B at h;refine Q3 (runQ hN fun K hK=>?_);simp;repeat refine sdQ ?_
 refine hK _ ?_;clear hK K;refine tn (Q7 (st':=⟨Y0z f_ [(2,.adr 0 0 0)],Yt [],1⟩) (Q11 [(0,0)]) (Q3 (runQ hN fun K hK=>?_)));simp;repeat with_reducible refine sdQ ?_
 replace ⟨v1,hv1,h⟩:=bind_some h;refine Q4 (Q5M _ v1 hv1) (.cons (.preT (by simp [Cat.cells,Fn.cells])) .nil) ?_;simp;repeat refine sdQ ?_
 refine hK _ ?_;clear hK K;refine tn (Q7 (st':=⟨Y0z f_ [(2,.adr 0 0 0),(3,.adr 1 0 0)],Yt (Y05 v1 []),12⟩) (Q11 [(0,0),(13,1),(2,2),(3,3),(4,4),(5,5),(7,6),(8,7),(9,8),(10,9),(11,10),(12,11)]) (Q3 (runQ hN fun K hK=>?_)));simp;repeat with_reducible refine sdQ ?_
 replace ⟨v2,hv2,h⟩:=bind_some h;refine Q4 (Q6x _ _ v2 hv2) (.cons (.preT (by simp [Cat.cells,Fn.cells])) (.cons (.field rfl (by simp [Cat.cells,Fn.cells]) (.cons .val (.cons .w (.cons .w (.cons .w (.cons .w (.cons .val (.cons .w (.cons .w (.cons .w (.cons .w (.cons .w (.cons .w .nil))))))))))))) .nil)) ?_;simp;repeat refine sdQ ?_
 refine hK _ (tn (Q7 (st':=⟨[(2,.adr 0 0 0)],YK v2 [],12⟩) (Q11 [(0,0),(13,1),(14,2),(15,3),(16,4),(18,5),(19,6),(20,7),(21,8),(22,9),(23,10),(24,11)]) (Qo ?_)));clear hK K;have hr:=Option.some.inj h;rw [← hr];refine ⟨_,(.cell Q7y rfl rfl rfl (by simp) (by simp) .nil),?_⟩;refine ⟨(.agg rfl .nil),[iV v2.s.n,lI v2.s.fr,lI v2.s.to,lI v2.s.id,.lst true 1 (Ls v2.s.cs),iV v2.t.n,lI v2.t.fr,lI v2.t.to,lI v2.t.id,.lst true 1 (Ls v2.t.cs),.lst true 1 (Ls v2.sz),.lst true 1 (Es eL v2.bf),.lst true 1 (Es eL v2.bh)],[1,2,3,4,5,6,7,8,9,10,11],by simp [Cat.cells,Fn.cells,Prf.cells,UA,U1,IA,I1,LA,L1,BA,B1,EA,E1,E2,eB,eI,eL],by simp,(UpL.refl _)⟩
attribute [local simp] unk unA unE unT unC flat eL eI Qr Q15 Q3v Q1b Cat.cells Fn.cells Prf.cells
noncomputable def Q32 (f_:Fn):Option Prf :=
 (Q2s f_.t).bind fun v1 =>
 (Q2M v1 f_).bind fun v2 =>
 some v2
theorem Q8s (f_:Fn) (r:Prf) (h:Q32 f_=some r):Contract Tryz.prog 29 [.rptr (f_.cells true)] (.agg (r.cells true)):=by
 refine Qc (rvs:=[.cell 2 45]) (rs:=[.agg (r.cells true)]) Tryz.func29 rfl rfl rfl rfl (by simp [Tryz.f29]) fun F hN hP=>?_;unfold Q32 at h;refine Q3 (runQ hN fun K hK=>?_);simp;repeat refine sdQ ?_
 refine hK _ ?_;clear hK K;refine tn (Q7 (st':=⟨Y0z f_ [(2,.adr 0 0 0)],Yt [],1⟩) (Q11 [(0,0)]) (Q3 (runQ hN fun K hK=>?_)));simp;repeat with_reducible refine sdQ ?_
 replace ⟨v1,hv1,h⟩:=bind_some h;refine Q4 (Q5M _ v1 hv1) (.cons (.preT (by simp [Cat.cells,Fn.cells])) .nil) ?_;simp;repeat refine sdQ ?_
 refine hK _ ?_;clear hK K;refine tn (Q7 (st':=⟨Y0z f_ [(2,.adr 0 0 0),(3,.adr 1 0 0)],Yt (Y05 v1 []),12⟩) (Q11 [(0,0),(13,1),(2,2),(3,3),(4,4),(5,5),(7,6),(8,7),(9,8),(10,9),(11,10),(12,11)]) (Q3 (runQ hN fun K hK=>?_)));simp;repeat with_reducible refine sdQ ?_
 replace ⟨v2,hv2,h⟩:=bind_some h;refine Q4 (Q6x _ _ v2 hv2) (.cons (.field rfl (by simp [Cat.cells,Fn.cells]) (.cons .val (.cons .w (.cons .w (.cons .w (.cons .w (.cons .val (.cons .w (.cons .w (.cons .w (.cons .w (.cons .w (.cons .w .nil))))))))))))) (.cons (.preT (by simp [Cat.cells,Fn.cells])) .nil)) ?_;simp;repeat refine sdQ ?_
 refine hK _ (tn (Q7 (st':=⟨[(2,.adr 0 0 0)],YK v2 [],12⟩) (Q11 [(0,0),(13,1),(14,2),(15,3),(16,4),(18,5),(19,6),(20,7),(21,8),(22,9),(23,10),(24,11)]) (Qo ?_)));clear hK K;have hr:=Option.some.inj h;rw [← hr];refine ⟨_,(.cell Q7y rfl rfl rfl (by simp) (by simp) .nil),?_⟩;refine ⟨(.agg rfl .nil),[iV v2.s.n,lI v2.s.fr,lI v2.s.to,lI v2.s.id,.lst true 1 (Ls v2.s.cs),iV v2.t.n,lI v2.t.fr,lI v2.t.to,lI v2.t.id,.lst true 1 (Ls v2.t.cs),.lst true 1 (Ls v2.sz),.lst true 1 (Es eL v2.bf),.lst true 1 (Es eL v2.bh)],[1,2,3,4,5,6,7,8,9,10,11],by simp [Cat.cells,Fn.cells,Prf.cells,UA,U1,IA,I1,LA,L1,BA,B1,EA,E1,E2,eB,eI,eL],by simp,(UpL.refl _)⟩
attribute [local simp] unk unA unE unT unC flat eL eI Qr Q15 Q3v Q1b Qk Q9 Cat.cells Fn.cells Prf.cells XComposite.cells XTripleint64.cells
noncomputable def QL (x_:Int) (z_:Int) (c0_:Fn) (c1_:Cat) (c2_:Cat) (c3_:XComposite):Option (List Int) :=
 ass (0≤x_∧x_<(c0_.ob.length:Int)) <|
 (QW c1_ x_ z_).bind fun v2 =>
 (Qx (σ:=List Int × Int) (ε:=List Int) (fun s16 =>
  if s16.2<(v2.length:Int) then
   ass (0≤s16.2∧s16.2<(v2.length:Int)) <|
   (QW c2_ (ix c0_.ob x_) (ix c0_.ob x_)).bind fun v19 =>
   ass (0≤ix c0_.ob x_∧ix c0_.ob x_<(c2_.id.length:Int)) <|
   (Q1j v19 (ix c2_.id (ix c0_.ob x_))).bind fun v21 =>
   ass (0≤z_∧z_<(c0_.ob.length:Int)) <|
   (QW c2_ (ix c0_.ob x_) (ix c0_.ob z_)).bind fun v23 =>
   ass (0≤ix v2 s16.2∧ix v2 s16.2<(c0_.ar.length:Int)) <|
   (Q1j v23 (ix c0_.ar (ix v2 s16.2))).bind fun v25 =>
   (QU c3_ x_ z_ (⟨ix c0_.ob x_,v21,v25⟩:XTripleint64)).bind fun v26 =>
   ass ((s16.1++[v26]).length≤1073741824) <|
   ass (B64 (s16.2+1)) <|
   some (Ctl.next (s16.1++[v26],s16.2+1))
  else
   some (Ctl.ret s16.1)) fuel ([],0)).bind fun b3 =>
 some b3
@[simp] abbrev Yh (a:Cat) (b:XComposite) (c:List (Nat × AV)):List (Nat × AV):=(4,.rptr (Y1p a []))::(5,.rptr [.rptr (Y1g b [])])::c
@[simp] abbrev Y0t (a b:Int) (c:Fn) (d:List (Nat × AV)):List (Nat × AV):=(0,iV a)::(1,iV b)::(2,.rptr (Fn.cells true c))::d
@[simp] abbrev Y0Y (a:List Int) (b:List (Nat × AV)):List (Nat × AV):=(23,.own 1 0 a.length)::(24,iV (a.length:Int))::b
theorem Q2G (x_:Int) (z_:Int) (c0_:Fn) (c1_:Cat) (c2_:Cat) (c3_:XComposite) (r:List Int) (h:QL x_ z_ c0_ c1_ c2_ c3_=some r):Contract Tryz.prog 48 [iV x_,iV z_,.rptr (Fn.cells true c0_),.rptr (Y1p c1_ []),.rptr (Y1p c2_ []),.rptr [.rptr (Y1g c3_ [])]] (lI r):=by
 refine Qc (rvs:=[.tmp 8]) (rs:=[lI r]) Tryz.func48 rfl rfl rfl rfl (by simp [Tryz.f48]) fun F hN hP=>?_;unfold QL at h;refine Q3 (runQ hN fun K hK=>?_);simp;repeat refine sdQ ?_
 refine hK _ ?_;clear hK K;refine tn (Q7 (st':=⟨Y0t x_ z_ c0_ ((3,.rptr (Y1p c1_ []))::Yh c2_ c3_ []),[],0⟩) (Q11 []) (Q3 (runQ hN fun K hK=>?_)));simp;repeat refine sdQ ?_
 refine hK _ ?_;clear hK K;refine tn (Q7 (st':=⟨Y0t x_ z_ c0_ ((3,.rptr (Y1p c1_ []))::Yh c2_ c3_ [(9,.own 0 0 0)]),[(0,.mix 1 [])],1⟩) (Q11 [(0,0)]) (Q3 (runQ hN fun K hK=>?_)));replace ⟨a1,h⟩:=Q0 h;simp [at_I a1];repeat refine sdQ ?_
 refine hK _ ?_;clear hK K;refine tn (Q7 (st':=⟨Y0t x_ z_ c0_ ((3,.rptr (Y1p c1_ []))::Yh c2_ c3_ [(9,.own 0 0 0),(10,iV (ix c0_.ob x_))]),[(0,.mix 1 [])],1⟩) (Q11 [(0,0)]) (Q3 (Q3 (runQ hN fun K hK=>?_))));simp;repeat with_reducible refine sdQ ?_
 replace ⟨v2,hv2,h⟩:=bind_some h;refine Q4 (Q2l _ _ _ v2 hv2) (.cons (.preT (by simp [Cat.cells,Fn.cells,Prf.cells,XComposite.cells])) (.cons .val (.cons .val .nil))) ?_;simp;repeat refine sdQ ?_
 refine hK _ (tn (Q7 (st':=⟨Y0t x_ z_ c0_ (Yh c2_ c3_ ((9,.own 0 0 0)::(10,iV (ix c0_.ob x_))::Y0Y v2 [(25,iV 0)])),[(0,.mix 1 []),(1,rI v2)],2⟩) (Q11 [(0,0),(1,1)]) ?_));clear hK K;replace ⟨e3,h,h3⟩:=bind_some h;refine Qg (fun b3:List Int=>⟨[(9,.own 0 0 b3.length)],[(0,rI b3)],1⟩) (fun b3=>b3=e3) ?_ ?_
 ·refine Qa (Qn h (fun s16:List Int × Int=>⟨Y0t x_ z_ c0_ (Yh c2_ c3_ ((9,.own 0 0 s16.1.length)::(10,iV (ix c0_.ob x_))::Y0Y v2 [(25,iV s16.2)])),[(0,rI s16.1),(1,rI v2)],2⟩) (Q1E ⟨Y0t x_ z_ c0_ (Yh c2_ c3_ ((9,.own 0 0 0)::(10,iV (ix c0_.ob x_))::Y0Y v2 [(25,iV 0)])),[(0,rI []),(1,rI v2)],2⟩ (Wk.nils [] (by simp) (by simp) (by simp [nlA]) (by simp [entN,nlL,nlA,Cat.cells,Fn.cells,Prf.cells,XComposite.cells,XTripleint64.cells,UA,U1,IA,I1,LA,L1,BA,B1,EA,E1,E2,eB,eI,eL,Q8 _ Qk _ (fun _=>rfl),Q8 _ Q9 _ (fun _=>rfl),Q8 _ (XTripleint64.cells true) _ (fun _=>rfl),Q8 _ (fun x=>[.lst true 1 (Es (fun x=>[.lst true 3 (Es (XTripleint64.cells true) x)]) x)]) _ (fun _=>rfl),Q8 _ (fun x=>[.lst true 3 (Es (XTripleint64.cells true) x)]) _ (fun _=>rfl)]) (by simp)) (Q11 [(0,0),(1,1)])) ?_);clear h;intro k16 s16 c16 h hk16;refine Q3 (runQ hN fun K hK=>?_);simp;repeat refine sdQ ?_
  refine hK _ ?_;clear hK K;refine tn (Q3 (Qd rfl (fun g=>?_) fun g=>?_))
  ·have g17:s16.2<(v2.length:Int):=gQ;clear g;replace h:=if_l g17 h;refine Qe (tn (Q3 (Qa (Q3 (runQ hN fun K hK=>?_)))));replace ⟨a18,h⟩:=Q0 h;simp [at_I a18];(repeat refine sdQ ?_);refine hK _ ?_;clear hK K;refine tn (Q7 (st':=⟨Y0t x_ z_ c0_ (Yh c2_ c3_ ((9,.own 0 0 s16.1.length)::(10,iV (ix c0_.ob x_))::(12,iV (ix v2 s16.2))::Y0Y v2 [(25,iV s16.2)])),[(0,rI s16.1),(1,rI v2)],2⟩) (Q11 [(0,0),(1,1)]) (Q3 (runQ hN fun K hK=>?_)));simp;(repeat with_reducible refine sdQ ?_);replace ⟨v19,hv19,h⟩:=bind_some h;refine Q4 (Q2l _ _ _ v19 hv19) (.cons (.preT (by simp [Cat.cells,Fn.cells,Prf.cells,XComposite.cells,XTripleint64.cells])) (.cons .val (.cons .val .nil))) ?_;replace ⟨a20,h⟩:=Q0 h;simp [at_I a20];(repeat with_reducible refine sdQ ?_);replace ⟨v21,hv21,h⟩:=bind_some h;refine Q4 (Q2X _ _ v21 hv21) (.cons .w (.cons .val .nil)) ?_;replace ⟨a22,h⟩:=Q0 h;simp [at_I a20,at_I a22];(repeat with_reducible refine sdQ ?_);replace ⟨v23,hv23,h⟩:=bind_some h;refine Q4 (Q2l _ _ _ v23 hv23) (.cons (.preT (by simp [Cat.cells,Fn.cells,Prf.cells,XComposite.cells,XTripleint64.cells])) (.cons .val (.cons .val .nil))) ?_;replace ⟨a24,h⟩:=Q0 h;simp [at_I a20,at_I a22,at_I a24];(repeat with_reducible refine sdQ ?_);replace ⟨v25,hv25,h⟩:=bind_some h;refine Q4 (Q2X _ _ v25 hv25) (.cons .w (.cons .val .nil)) ?_;simp [at_I a20,at_I a22,at_I a24];(repeat refine sdQ ?_);refine hK _ (tn ?_);clear hK K
   refine Q7 (st':=⟨Y0t x_ z_ c0_ (Yh c2_ c3_ [(9,.own 0 0 s16.1.length),(10,iV (ix c0_.ob x_)),(13,.adr 1 0 0),(23,.own 2 0 v2.length),(24,iV (v2.length:Int)),(25,iV s16.2)]),[(0,rI s16.1),(1,.mix 3 [[iV (ix c0_.ob x_),iV v21,iV v25]]),(2,rI v2)],3⟩) (Q11 [(0,0),(6,1),(1,2)]) (runQ hN fun K hK=>?_);simp;(repeat with_reducible refine sdQ ?_);replace ⟨v26,hv26,h⟩:=bind_some h;refine Q4 (Q2q _ _ _ _ v26 hv26) (.cons (.preT (by simp [Cat.cells,Fn.cells,Prf.cells,XComposite.cells,XTripleint64.cells])) (.cons .val (.cons .val (.cons (.aggL (.cons .val (.cons .val (.cons .val .nil)))) .nil)))) ?_;replace ⟨a27,h⟩:=Q0 h;(try simp only [List.length_append,List.length_cons,List.length_nil] at a27);simp [a27];(repeat refine sdQ ?_);refine hK _ ?_;clear hK K;refine bn (tn (Q7 (st':=⟨Y0t x_ z_ c0_ (Yh c2_ c3_ ((9,.own 0 0 ((s16.1++[v26]).length))::(10,iV (ix c0_.ob x_))::Y0Y v2 [(25,iV s16.2)])),[(0,rI (s16.1++[v26])),(1,rI v2)],2⟩) (Q11 [(5,0),(2,1)]) (runQ hN fun K hK=>?_)));replace ⟨a28,h⟩:=Q0 h;simp [Qh a28];(repeat refine sdQ ?_);refine hK _ ?_;clear hK K;cases h;exact rn (s':=(s16.1++[v26],s16.2+1)) hk16 (Q11 [(0,0),(1,1)])
  have g17:¬ (s16.2<(v2.length:Int)):=gQ;clear g;replace h:=if_r g17 h;refine Qm (tx (lx (bh ?_)));cases h;exact jn (b:=s16.1) hk16 (Q11 [(0,0)])
 intro b3 hb3;have h:=h3;try rw [← hb3] at h
 clear h3;try dsimp only at h
 refine Q3 (runQ hN fun K hK=>?_);simp;repeat refine sdQ ?_
 refine hK _ (tn (Q7 (st':=⟨[(8,.own 0 0 b3.length)],[(0,rI b3)],1⟩) (Q11 [(0,0)]) (Qo ?_)));clear hK K;have hr:=Option.some.inj h;rw [← hr];refine ⟨_,(.tmp .nil),?_⟩;refine ⟨(.one rfl rfl .nil),[lI b3],[0],by simp [Cat.cells,Fn.cells,Prf.cells,XComposite.cells,XTripleint64.cells,UA,U1,IA,I1,LA,L1,BA,B1,EA,E1,E2,eB,eI,eL,Q8 _ Qk _ (fun _=>rfl),Q8 _ Q9 _ (fun _=>rfl),Q8 _ (XTripleint64.cells true) _ (fun _=>rfl),Q8 _ (fun x=>[.lst true 1 (Es (fun x=>[.lst true 3 (Es (XTripleint64.cells true) x)]) x)]) _ (fun _=>rfl),Q8 _ (fun x=>[.lst true 3 (Es (XTripleint64.cells true) x)]) _ (fun _=>rfl)],by simp,(UpL.refl _)⟩
attribute [local simp] unk unA unE unT unC flat eL eI Qr Q15 Q3v Q1b Qk Cat.cells Fn.cells Prf.cells XComposite.cells
noncomputable def QF (p_:Prf) (part_0:Fn) (part_1:Cat) (part_2:Cat) (part_3:XComposite):Option (List (List (List Int))) :=
 (Qx (σ:=List (List (List Int)) × Int) (ε:=List (List (List Int))) (fun s15 =>
  if s15.2<p_.s.n then
   (Qx (σ:=List (List Int) × Int) (ε:=List (List Int)) (fun s22 =>
    if s22.2<p_.t.n then
     (QL s15.2 s22.2 part_0 part_1 part_2 part_3).bind fun v24 =>
     ass ((s22.1++[v24]).length≤1073741824) <|
     ass (B64 (s22.2+1)) <|
     some (Ctl.next (s22.1++[v24],s22.2+1))
    else
     some (Ctl.ret s22.1)) fuel ([],0)).bind fun b17 =>
   ass ((s15.1++[b17]).length≤1073741824) <|
   ass (B64 (s15.2+1)) <|
   some (Ctl.next (s15.1++[b17],s15.2+1))
  else
   some (Ctl.ret s15.1)) fuel ([],0)).bind fun b1 =>
 some b1
@[simp] abbrev Y8 (a:Prf) (b:Fn) (c d:Cat) (e:XComposite) (f:List (Nat × AV)):List (Nat × AV):=(0,.rptr (Prf.cells true a))::(1,.fn 48 [.rptr (Fn.cells true b),.rptr (Y1p c []),.rptr (Y1p d []),.rptr [.rptr (Y1g e [])]])::f
@[simp] abbrev Y13 (a:List (List (List Int)) × Int) (b:List (Nat × AV)):List (Nat × AV):=(5,.own 0 0 a.1.length)::(6,iV a.2)::b
theorem Q1N (p_:Prf) (part_0:Fn) (part_1:Cat) (part_2:Cat) (part_3:XComposite) (r:List (List (List Int))) (h:QF p_ part_0 part_1 part_2 part_3=some r):Contract Tryz.prog 32 [.rptr (p_.cells true),.fn 48 [.rptr (Fn.cells true part_0),.rptr (Y1p part_1 []),.rptr (Y1p part_2 []),.rptr [.rptr (Y1g part_3 [])]]] (.lst true 1 (Es eL r)):=by
 refine Qc (rvs:=[.tmp 4]) (rs:=[.lst true 1 (Es eL r)]) Tryz.func32 rfl rfl rfl rfl (by simp [Tryz.f32]) fun F hN hP=>?_;unfold QF at h;refine Q3 (runQ hN fun K hK=>?_);simp;repeat refine sdQ ?_
 refine hK _ ?_;clear hK K;refine tn (Q7 (st':=⟨Y8 p_ part_0 part_1 part_2 part_3 [],[],0⟩) (Q11 []) (Q3 (runQ hN fun K hK=>?_)));simp;repeat refine sdQ ?_
 refine hK _ ?_;clear hK K;refine tn (Q7 (st':=⟨Y8 p_ part_0 part_1 part_2 part_3 [(5,.own 0 0 0)],[(0,.mix 1 [])],1⟩) (Q11 [(0,0)]) (Q3 (Q3 (runQ hN fun K hK=>?_))));simp;repeat refine sdQ ?_
 refine hK _ (tn (Q7 (st':=⟨Y8 p_ part_0 part_1 part_2 part_3 [(5,.own 0 0 0),(14,iV p_.s.n),(15,iV 0)],[(0,.mix 1 [])],1⟩) (Q11 [(0,0)]) ?_));clear hK K;replace ⟨e1,h,h1⟩:=bind_some h;refine Qg (fun b1:List (List (List Int))=>⟨[(5,.own 0 0 b1.length)],[(0,.row 1 (Es eL b1))],1⟩) (fun b1=>b1=e1) ?_ ?_
 ·refine Qa (Qn h (fun s15:List (List (List Int)) × Int=>⟨Y8 p_ part_0 part_1 part_2 part_3 [(5,.own 0 0 s15.1.length),(14,iV p_.s.n),(15,iV s15.2)],[(0,.row 1 (Es eL s15.1))],1⟩) (Q1E ⟨Y8 p_ part_0 part_1 part_2 part_3 [(5,.own 0 0 0),(14,iV p_.s.n),(15,iV 0)],[(0,.row 1 (Es eL []))],1⟩ (Wk.nils [] (by simp) (by simp) (by simp [nlA]) (by simp [entN,nlL,nlA,Cat.cells,Fn.cells,Prf.cells,XComposite.cells,UA,U1,IA,I1,LA,L1,BA,B1,EA,E1,E2,eB,eI,eL,Q8 _ Qk _ (fun _=>rfl),Q8 _ (XTripleint64.cells true) _ (fun _=>rfl),Q8 _ (fun x=>[.lst true 1 (Es (fun x=>[.lst true 3 (Es (XTripleint64.cells true) x)]) x)]) _ (fun _=>rfl),Q8 _ (fun x=>[.lst true 3 (Es (XTripleint64.cells true) x)]) _ (fun _=>rfl)]) (by simp)) (Q11 [(0,0)])) ?_);clear h;intro k15 s15 c15 h hk15;refine Q3 (runQ hN fun K hK=>?_);simp;repeat refine sdQ ?_
  refine hK _ ?_;clear hK K;refine tn (Q3 (Qd rfl (fun g=>?_) fun g=>?_))
  ·have g16:s15.2<p_.s.n:=gQ;clear g;replace h:=if_l g16 h;refine Qe (tn (Q3 (Qa (Q3 (runQ hN fun K hK=>?_)))));simp;(repeat refine sdQ ?_);refine hK _ ?_;clear hK K;refine tn (Q7 (st':=⟨Y8 p_ part_0 part_1 part_2 part_3 (Y13 s15 [(14,iV p_.s.n),(15,iV s15.2)]),[(0,.row 1 (Es eL s15.1))],1⟩) (Q11 [(0,0)]) (Q3 (runQ hN fun K hK=>?_)));simp;(repeat refine sdQ ?_);refine hK _ ?_;clear hK K;refine tn (Q7 (st':=⟨Y8 p_ part_0 part_1 part_2 part_3 (Y13 s15 [(7,.own 1 0 0),(14,iV p_.s.n),(15,iV s15.2)]),[(0,.row 1 (Es eL s15.1)),(1,.mix 1 [])],2⟩) (Q11 [(0,0),(1,1)]) (Q3 (Q3 (runQ hN fun K hK=>?_))));simp;(repeat refine sdQ ?_);refine hK _ (tn ?_);clear hK K
   refine Q7 (st':=⟨Y8 p_ part_0 part_1 part_2 part_3 (Y13 s15 [(7,.own 1 0 0),(14,iV p_.s.n),(15,iV s15.2),(23,iV p_.t.n),(24,iV 0)]),[(0,.row 1 (Es eL s15.1)),(1,.mix 1 [])],2⟩) (Q11 [(0,0),(1,1)]) ?_;replace ⟨e17,h,h17⟩:=bind_some h;refine Qg (fun b17:List (List Int)=>⟨Y8 p_ part_0 part_1 part_2 part_3 [(5,.own 0 0 s15.1.length),(7,.own 1 0 b17.length),(14,iV p_.s.n),(15,iV s15.2)],[(0,.row 1 (Es eL s15.1)),(1,.row 1 (Ls b17))],2⟩) (fun b17=>b17=e17) ?_ ?_
   ·refine Qa (Qn h (fun s22:List (List Int) × Int=>⟨Y8 p_ part_0 part_1 part_2 part_3 (Y13 s15 [(7,.own 1 0 s22.1.length),(14,iV p_.s.n),(15,iV s15.2),(23,iV p_.t.n),(24,iV s22.2)]),[(0,.row 1 (Es eL s15.1)),(1,.row 1 (Ls s22.1))],2⟩) (Q1E ⟨Y8 p_ part_0 part_1 part_2 part_3 (Y13 s15 [(7,.own 1 0 0),(14,iV p_.s.n),(15,iV s15.2),(23,iV p_.t.n),(24,iV 0)]),[(0,.row 1 (Es eL s15.1)),(1,.row 1 (Ls []))],2⟩ (Wk.nils [] (by simp) (by simp) (by simp [nlA]) (by simp [entN,nlL,nlA,Cat.cells,Fn.cells,Prf.cells,XComposite.cells,UA,U1,IA,I1,LA,L1,BA,B1,EA,E1,E2,eB,eI,eL,Q8 _ Qk _ (fun _=>rfl),Q8 _ (XTripleint64.cells true) _ (fun _=>rfl),Q8 _ (fun x=>[.lst true 1 (Es (fun x=>[.lst true 3 (Es (XTripleint64.cells true) x)]) x)]) _ (fun _=>rfl),Q8 _ (fun x=>[.lst true 3 (Es (XTripleint64.cells true) x)]) _ (fun _=>rfl)]) (by simp)) (Q11 [(0,0),(1,1)])) ?_);clear h;intro k22 s22 c22 h hk22;refine Q3 (runQ hN fun K hK=>?_);simp;(repeat refine sdQ ?_);refine hK _ ?_;clear hK K;refine tn (Q3 (Qd rfl (fun g=>?_) fun g=>?_))
    ·have g23:s22.2<p_.t.n:=gQ;clear g;replace h:=if_l g23 h;refine Qe (tn (Q3 (Qa (Q3 (runQ hN fun K hK=>?_)))));simp;(repeat refine sdQ ?_);refine hK _ ?_;clear hK K;refine tn (Q7 (st':=⟨Y8 p_ part_0 part_1 part_2 part_3 (Y13 s15 [(7,.own 1 0 s22.1.length),(8,iV s22.2),(14,iV p_.s.n),(15,iV s15.2),(23,iV p_.t.n),(24,iV s22.2)]),[(0,.row 1 (Es eL s15.1)),(1,.row 1 (Ls s22.1))],2⟩) (Q11 [(0,0),(1,1)]) (runQ hN fun K hK=>?_));simp;(repeat with_reducible refine sdQ ?_);replace ⟨v24,hv24,h⟩:=bind_some h;refine Q4 (Q2G _ _ _ _ _ _ v24 hv24) (.cons .val (.cons .val (.cons .rptr (.cons .rptr (.cons .rptr (.cons .rptr .nil)))))) ?_;replace ⟨a25,h⟩:=Q0 h;(try simp only [List.length_append,List.length_cons,List.length_nil] at a25);simp [a25];(repeat refine sdQ ?_);refine hK _ ?_;clear hK K;refine bn (tn (Q7 (st':=⟨Y8 p_ part_0 part_1 part_2 part_3 (Y13 s15 [(7,.own 1 0 ((s22.1++[v24]).length)),(14,iV p_.s.n),(15,iV s15.2),(23,iV p_.t.n),(24,iV s22.2)]),[(0,.row 1 (Es eL s15.1)),(1,.row 1 (Ls (s22.1++[v24])))],2⟩) (Q11 [(0,0),(4,1)]) (runQ hN fun K hK=>?_)));replace ⟨a26,h⟩:=Q0 h;simp [Qh a26];(repeat refine sdQ ?_);refine hK _ ?_;clear hK K;cases h;exact rn (s':=(s22.1++[v24],s22.2+1)) hk22 (Q11 [(0,0),(1,1)])
    have g23:¬ (s22.2<p_.t.n):=gQ;clear g;replace h:=if_r g23 h;refine Qm (tx (lx (bh ?_)));cases h;exact jn (b:=s22.1) hk22 (Q11 [(0,0),(1,1)])
   intro b17 hb17;have h:=h17;(try rw [← hb17] at h);clear h17;(try dsimp only at h);refine runQ hN fun K hK=>?_;replace ⟨a27,h⟩:=Q0 h;(try simp only [List.length_append,List.length_cons,List.length_nil] at a27);simp [a27];(repeat refine sdQ ?_);refine hK _ ?_;clear hK K;refine bn (tn (Q7 (st':=⟨Y8 p_ part_0 part_1 part_2 part_3 [(5,.own 0 0 ((s15.1++[b17]).length)),(14,iV p_.s.n),(15,iV s15.2)],[(0,.row 1 (Es eL (s15.1++[b17])))],1⟩) (Q11 [(3,0)]) (runQ hN fun K hK=>?_)));replace ⟨a28,h⟩:=Q0 h;simp [Qh a28];(repeat refine sdQ ?_);refine hK _ ?_;clear hK K;cases h;exact rn (s':=(s15.1++[b17],s15.2+1)) hk15 (Q11 [(0,0)])
  have g16:¬ (s15.2<p_.s.n):=gQ;clear g;replace h:=if_r g16 h;refine Qm (tx (lx (bh ?_)));cases h;exact jn (b:=s15.1) hk15 (Q11 [(0,0)])
 intro b1 hb1;have h:=h1;try rw [← hb1] at h
 clear h1;try dsimp only at h
 refine Q3 (runQ hN fun K hK=>?_);simp;repeat refine sdQ ?_
 refine hK _ (tn (Q7 (st':=⟨[(4,.own 0 0 b1.length)],[(0,.row 1 (Es eL b1))],1⟩) (Q11 [(0,0)]) (Qo ?_)));clear hK K;have hr:=Option.some.inj h;rw [← hr];refine ⟨_,(.tmp .nil),?_⟩;refine ⟨(.one rfl rfl .nil),[.lst true 1 (Es eL b1)],[0],by simp [Cat.cells,Fn.cells,Prf.cells,XComposite.cells,UA,U1,IA,I1,LA,L1,BA,B1,EA,E1,E2,eB,eI,eL,Q8 _ Qk _ (fun _=>rfl),Q8 _ (XTripleint64.cells true) _ (fun _=>rfl),Q8 _ (fun x=>[.lst true 1 (Es (fun x=>[.lst true 3 (Es (XTripleint64.cells true) x)]) x)]) _ (fun _=>rfl),Q8 _ (fun x=>[.lst true 3 (Es (XTripleint64.cells true) x)]) _ (fun _=>rfl)],by simp,(UpL.refl _)⟩
attribute [local simp] unk unA unE unT unC flat eL eI Qr Q15 Q3v Q1b Cat.cells Fn.cells Prf.cells
noncomputable def Q1k (f_:Fn):Option (List (List (List Int)) × Int) :=
 (Q17 f_).bind fun v1 =>
 if ¬ (v1=true) then
  some ([],1)
 else
  (Q2B f_).bind fun v3 =>
  (Q32 f_).bind fun v4 =>
  (Q3o v3 v4).bind fun v5 =>
  match v5 with
  | .inl v5 =>
   some ([],3)
  | .inr v5 =>
   if ¬ (v5.2.2.2.2.2.2.2.2.2.2.2.2.2.2.2=true) then
    some ([],3)
   else
    (QF (⟨(⟨v5.1,v5.2.1,v5.2.2.1,v5.2.2.2.1,v5.2.2.2.2.1⟩:Cat),(⟨v5.2.2.2.2.2.1,v5.2.2.2.2.2.2.1,v5.2.2.2.2.2.2.2.1,v5.2.2.2.2.2.2.2.2.1,v5.2.2.2.2.2.2.2.2.2.1⟩:Cat),v5.2.2.2.2.2.2.2.2.2.2.1,v5.2.2.2.2.2.2.2.2.2.2.2.1,v5.2.2.2.2.2.2.2.2.2.2.2.2.1⟩:Prf) f_ f_.s f_.t (⟨v3,v4,(⟨(⟨v5.1,v5.2.1,v5.2.2.1,v5.2.2.2.1,v5.2.2.2.2.1⟩:Cat),(⟨v5.2.2.2.2.2.1,v5.2.2.2.2.2.2.1,v5.2.2.2.2.2.2.2.1,v5.2.2.2.2.2.2.2.2.1,v5.2.2.2.2.2.2.2.2.2.1⟩:Cat),v5.2.2.2.2.2.2.2.2.2.2.1,v5.2.2.2.2.2.2.2.2.2.2.2.1,v5.2.2.2.2.2.2.2.2.2.2.2.2.1⟩:Prf),v5.2.2.2.2.2.2.2.2.2.2.2.2.2.1,v5.2.2.2.2.2.2.2.2.2.2.2.2.2.2.1⟩:XComposite)).bind fun v7 =>
    some (v7,0)
@[simp] abbrev Y11 (a:Fn) (b:List (Nat × AV)):List (Nat × AV):=(1,.rptr (Fn.cells true a))::(6,.adr 0 0 0)::b
theorem Q5x (f_:Fn) (r:List (List (List Int)) × Int) (h:Q1k f_=some r):Contract Tryz.prog 15 [.agg (f_.cells true)] (.tup [.lst true 1 (Es eL r.1),iV r.2]):=by
 refine Q4a (rvs:=[.tmp 2,.tmp 3]) (rs:=[.lst true 1 (Es eL r.1),iV r.2]) Tryz.func15 rfl rfl rfl rfl (by simp [Tryz.f15]) fun F hN hP hW=>?_;unfold Q1k at h;refine Q3 (QG [1] mo (by rw [hN];decide) fun K hK=>?_);simp;repeat refine sdQ ?_
 refine hK _ ?_;clear hK K;refine tn (Q7 (st':=⟨[(1,.rptr (Fn.cells true f_))],[],0⟩) (Q11 []) (Q3 (Q3 (runQ hN fun K hK=>?_))));simp;repeat with_reducible refine sdQ ?_
 replace ⟨v1,hv1,h⟩:=bind_some h;refine Q4 (Q4v _ v1 hv1) (.cons (.preT (by simp [Fn.cells])) .nil) ?_;simp;repeat refine sdQ ?_
 refine hK _ ?_;clear hK K;refine tn (Q7 (st':=⟨[(1,.rptr (Fn.cells true f_)),(11,.val (.bool (!v1)))],[],0⟩) (Q11 []) (Qd rfl (fun g=>?_) fun g=>?_))
 ·have g2:¬ (v1=true):=gQ;clear g;replace h:=if_l g2 h;refine Q3 (runQ hN fun K hK=>?_);simp;repeat refine sdQ ?_
  refine hK _ (tn (Q7 (st':=⟨[(2,nS),(3,iV 1)],[],0⟩) (Q11 []) (Qo (tr ?_))));clear hK K;have hr:=Option.some.inj h;rw [← hr];refine ⟨_,(.tmp (.tmp .nil)),?_⟩;refine ⟨(.one rfl rfl (.one rfl rfl .nil)),[nS,iV 1],[],by simp [Cat.cells,Fn.cells,Prf.cells,UA,U1,IA,I1,LA,L1,BA,B1,EA,E1,E2,eB,eI,eL,Q8 _ (XTripleint64.cells true) _ (fun _=>rfl),Q8 _ (fun x=>[.lst true 1 (Es (fun x=>[.lst true 3 (Es (XTripleint64.cells true) x)]) x)]) _ (fun _=>rfl),Q8 _ (fun x=>[.lst true 3 (Es (XTripleint64.cells true) x)]) _ (fun _=>rfl)],by simp,(.cons .nil (.cons .refl .nil))⟩
 have g2:¬ (¬ (v1=true)):=gQ;clear g;replace h:=if_r g2 h;refine Qe (tn (Q3 (QG [] mo (by rw [hN];decide) fun K hK=>?_)));simp;repeat with_reducible refine sdQ ?_
 replace ⟨v3,hv3,h⟩:=bind_some h;refine Q4Y (fz:=[]) false (Contract.toF (Q7B _ v3 hv3)) (PurK.ofL (.cons (.preT (by simp [Fn.cells])) .nil)) ?_;simp;repeat with_reducible refine sdQ ?_
 replace ⟨v4,hv4,h⟩:=bind_some h;refine Q4Y (fz:=[]) false (Contract.toF (Q8s _ v4 hv4)) (PurK.ofL (.cons (.preT (by simp [Fn.cells,Prf.cells])) .nil)) ?_;simp;repeat refine sdQ ?_
 refine hK _ ?_;clear hK K;refine tn (Q7 (st':=⟨[(1,.rptr (Fn.cells true f_)),(4,.rptr (Prf.cells true v3)),(5,.rptr (Prf.cells true v4))],[],0⟩) (Wk.frz hW [(0,[iV v3.s.n,lI v3.s.fr,lI v3.s.to,lI v3.s.id,.lst true 1 (Ls v3.s.cs),iV v3.t.n,lI v3.t.fr,lI v3.t.to,lI v3.t.id,.lst true 1 (Ls v3.t.cs),.lst true 1 (Ls v3.sz),.lst true 1 (Es eL v3.bf),.lst true 1 (Es eL v3.bh)]),(1,[iV v4.s.n,lI v4.s.fr,lI v4.s.to,lI v4.s.id,.lst true 1 (Ls v4.s.cs),iV v4.t.n,lI v4.t.fr,lI v4.t.to,lI v4.t.id,.lst true 1 (Ls v4.t.cs),.lst true 1 (Ls v4.sz),.lst true 1 (Es eL v4.bf),.lst true 1 (Es eL v4.bh)])] [] (by simp [AV.ro,Cat.cells,Fn.cells,Prf.cells,UA,U1,IA,I1,LA,L1,BA,B1,EA,E1,E2,eB,eI,eL,Q8 _ (XTripleint64.cells true) _ (fun _=>rfl),Q8 _ (fun x=>[.lst true 1 (Es (fun x=>[.lst true 3 (Es (XTripleint64.cells true) x)]) x)]) _ (fun _=>rfl),Q8 _ (fun x=>[.lst true 3 (Es (XTripleint64.cells true) x)]) _ (fun _=>rfl)]) (by simp [hP,hhOk,back,Cat.cells,Fn.cells,Prf.cells,UA,U1,IA,I1,LA,L1,BA,B1,EA,E1,E2,eB,eI,eL,Q8 _ (XTripleint64.cells true) _ (fun _=>rfl),Q8 _ (fun x=>[.lst true 1 (Es (fun x=>[.lst true 3 (Es (XTripleint64.cells true) x)]) x)]) _ (fun _=>rfl),Q8 _ (fun x=>[.lst true 3 (Es (XTripleint64.cells true) x)]) _ (fun _=>rfl)])) (Q3 (Q6z [] mo (by rw [hN];decide) fun K hK=>?_)));simp;repeat with_reducible refine sdQ ?_
 replace ⟨v5,hv5,h⟩:=bind_some h;refine Q4y (fz:=[]) (ICon0.liftL (e':=(match (generalizing:=false) v5 with|.inl v5=>{ v:=.tup [.val (.pointer none),.val (.bool false)],new:=[],cnt:=0 }|.inr v5=>{ v:=.tup [.adr 0 0 0,.val (.bool v5.2.2.2.2.2.2.2.2.2.2.2.2.2.2.2)],new:=[(0,.mix 17 [(Y1l v3 (Y1l v4 [iV v5.1,.own 1 0 v5.2.1.length,.own 2 0 v5.2.2.1.length,.own 3 0 v5.2.2.2.1.length,.own 4 0 v5.2.2.2.2.1.length,iV v5.2.2.2.2.2.1,.own 5 0 v5.2.2.2.2.2.2.1.length,.own 6 0 v5.2.2.2.2.2.2.2.1.length,.own 7 0 v5.2.2.2.2.2.2.2.2.1.length,.own 8 0 v5.2.2.2.2.2.2.2.2.2.1.length,.own 9 0 v5.2.2.2.2.2.2.2.2.2.2.1.length,.own 10 0 v5.2.2.2.2.2.2.2.2.2.2.2.1.length,.own 11 0 v5.2.2.2.2.2.2.2.2.2.2.2.2.1.length,.own 12 0 v5.2.2.2.2.2.2.2.2.2.2.2.2.2.1.length,.own 13 0 v5.2.2.2.2.2.2.2.2.2.2.2.2.2.2.1.length]))]),(1,rI v5.2.1),(2,rI v5.2.2.1),(3,rI v5.2.2.2.1),(4,.row 1 (Ls v5.2.2.2.2.1)),(5,rI v5.2.2.2.2.2.2.1),(6,rI v5.2.2.2.2.2.2.2.1),(7,rI v5.2.2.2.2.2.2.2.2.1),(8,.row 1 (Ls v5.2.2.2.2.2.2.2.2.2.1)),(9,.row 1 (Ls v5.2.2.2.2.2.2.2.2.2.2.1)),(10,.row 1 (Es eL v5.2.2.2.2.2.2.2.2.2.2.2.1)),(11,.row 1 (Es eL v5.2.2.2.2.2.2.2.2.2.2.2.2.1)),(12,.mix 1 (Es (fun x=>[.lst true 1 (Es (fun x=>[.lst true 3 (Es (XTripleint64.cells true) x)]) x)]) v5.2.2.2.2.2.2.2.2.2.2.2.2.2.1)),(13,.row 1 (Es eL v5.2.2.2.2.2.2.2.2.2.2.2.2.2.2.1))],cnt:=14 })) (Q9j _ _ v5 hv5) (by simp [AV.ro,rl,rlL,rlLL,Q5e,Cat.cells,Fn.cells,Prf.cells,E2,eB,eI,eL,Q8 _ (XTripleint64.cells true) _ (fun _=>rfl),Q8 _ (fun x=>[.lst true 1 (Es (fun x=>[.lst true 3 (Es (XTripleint64.cells true) x)]) x)]) _ (fun _=>rfl),Q8 _ (fun x=>[.lst true 3 (Es (XTripleint64.cells true) x)]) _ (fun _=>rfl)]) (by rcases v5 with v5|v5<;>simp) (by rcases v5 with v5|v5<;>simp) (by rcases v5 with v5|v5<;>rfl) (by rcases v5 with v5|v5<;>simp [AV.ro,rl,rlL,rlLL,Q5e,Cat.cells,Fn.cells,Prf.cells,E2,eB,eI,eL,Q8 _ (XTripleint64.cells true) _ (fun _=>rfl),Q8 _ (fun x=>[.lst true 1 (Es (fun x=>[.lst true 3 (Es (XTripleint64.cells true) x)]) x)]) _ (fun _=>rfl),Q8 _ (fun x=>[.lst true 3 (Es (XTripleint64.cells true) x)]) _ (fun _=>rfl)]) (by rcases v5 with v5|v5<;>simp [noAli]) (by rcases v5 with v5|v5<;>rfl) (by rcases v5 with v5|v5<;>simp [AV.ro,rl,rlL,rlLL,Q5e,Cat.cells,Fn.cells,Prf.cells,E2,eB,eI,eL,Q8 _ (XTripleint64.cells true) _ (fun _=>rfl),Q8 _ (fun x=>[.lst true 1 (Es (fun x=>[.lst true 3 (Es (XTripleint64.cells true) x)]) x)]) _ (fun _=>rfl),Q8 _ (fun x=>[.lst true 3 (Es (XTripleint64.cells true) x)]) _ (fun _=>rfl)]) (Q8K (by rcases v5 with v5|v5<;>simp))) ?_;clear hv5;rcases v5 with v5|v5
 ·try dsimp only at h
  try dsimp only
  simp;repeat refine sdQ ?_
  refine hK _ ?_;clear hK K;refine tn (Q7 (st':=⟨Y11 f_ [(7,.val (.bool false))],[(0,.mix 1 [[.val (.pointer none)]])],1⟩) (Q11 [(0,0)]) (Q3 (Q3 (runQ hN fun K hK=>?_))));simp;repeat refine sdQ ?_
  refine hK _ (tn (Q7 (st':=⟨Y11 f_ [(19,.val (.bool true))],[(0,.mix 1 [[.val (.pointer none)]])],1⟩) (Q11 [(0,0)]) ?_));clear hK K;refine Qd rfl (fun _=>?_) fun g=>by simp at g
  refine Q3 (runQ hN fun K hK=>?_);simp;repeat refine sdQ ?_
  refine hK _ (tn (Q7 (st':=⟨[(2,nS),(3,iV 3)],[],0⟩) (Q11 []) (Qo (tr ?_))));clear hK K;have hr:=Option.some.inj h;rw [← hr];refine ⟨_,(.tmp (.tmp .nil)),?_⟩;refine ⟨(.one rfl rfl (.one rfl rfl .nil)),[nS,iV 3],[],by simp [Cat.cells,Fn.cells,Prf.cells,UA,U1,IA,I1,LA,L1,BA,B1,EA,E1,E2,eB,eI,eL,Q8 _ (XTripleint64.cells true) _ (fun _=>rfl),Q8 _ (fun x=>[.lst true 1 (Es (fun x=>[.lst true 3 (Es (XTripleint64.cells true) x)]) x)]) _ (fun _=>rfl),Q8 _ (fun x=>[.lst true 3 (Es (XTripleint64.cells true) x)]) _ (fun _=>rfl)],by simp,(.cons .nil (.cons .refl .nil))⟩
 try dsimp only at h
 try dsimp only
 simp;repeat refine sdQ ?_
 refine hK _ ?_;clear hK K;refine tn (Q7 (st':=⟨Y11 f_ [(7,.val (.bool v5.2.2.2.2.2.2.2.2.2.2.2.2.2.2.2))],Y0N [(1,.mix 17 [(Y1l v3 (Y1l v4 [iV v5.1,.own 2 0 v5.2.1.length,.own 3 0 v5.2.2.1.length,.own 4 0 v5.2.2.2.1.length,.own 5 0 v5.2.2.2.2.1.length,iV v5.2.2.2.2.2.1,.own 6 0 v5.2.2.2.2.2.2.1.length,.own 7 0 v5.2.2.2.2.2.2.2.1.length,.own 8 0 v5.2.2.2.2.2.2.2.2.1.length,.own 9 0 v5.2.2.2.2.2.2.2.2.2.1.length,.own 10 0 v5.2.2.2.2.2.2.2.2.2.2.1.length,.own 11 0 v5.2.2.2.2.2.2.2.2.2.2.2.1.length,.own 12 0 v5.2.2.2.2.2.2.2.2.2.2.2.2.1.length,.own 13 0 v5.2.2.2.2.2.2.2.2.2.2.2.2.2.1.length,.own 14 0 v5.2.2.2.2.2.2.2.2.2.2.2.2.2.2.1.length]))]),(2,rI v5.2.1),(3,rI v5.2.2.1),(4,rI v5.2.2.2.1),(5,.row 1 (Ls v5.2.2.2.2.1)),(6,rI v5.2.2.2.2.2.2.1),(7,rI v5.2.2.2.2.2.2.2.1),(8,rI v5.2.2.2.2.2.2.2.2.1),(9,.row 1 (Ls v5.2.2.2.2.2.2.2.2.2.1)),(10,.row 1 (Ls v5.2.2.2.2.2.2.2.2.2.2.1)),(11,.row 1 (Es eL v5.2.2.2.2.2.2.2.2.2.2.2.1)),(12,.row 1 (Es eL v5.2.2.2.2.2.2.2.2.2.2.2.2.1)),(13,.mix 1 (Es (fun x=>[.lst true 1 (Es (fun x=>[.lst true 3 (Es (XTripleint64.cells true) x)]) x)]) v5.2.2.2.2.2.2.2.2.2.2.2.2.2.1)),(14,.row 1 (Es eL v5.2.2.2.2.2.2.2.2.2.2.2.2.2.2.1))],15⟩) (Q11 [(14,0),(0,1),(1,2),(2,3),(3,4),(4,5),(5,6),(6,7),(7,8),(8,9),(9,10),(10,11),(11,12),(12,13),(13,14)]) (Q3 (Q3 (runQ hN fun K hK=>?_))));simp;repeat refine sdQ ?_
 refine hK _ ?_;clear hK K;refine tn (Q7 (st':=⟨Y11 f_ [(19,.val (.bool (!v5.2.2.2.2.2.2.2.2.2.2.2.2.2.2.2)))],Y0N [(1,.mix 17 [(Y1l v3 (Y1l v4 [iV v5.1,.own 2 0 v5.2.1.length,.own 3 0 v5.2.2.1.length,.own 4 0 v5.2.2.2.1.length,.own 5 0 v5.2.2.2.2.1.length,iV v5.2.2.2.2.2.1,.own 6 0 v5.2.2.2.2.2.2.1.length,.own 7 0 v5.2.2.2.2.2.2.2.1.length,.own 8 0 v5.2.2.2.2.2.2.2.2.1.length,.own 9 0 v5.2.2.2.2.2.2.2.2.2.1.length,.own 10 0 v5.2.2.2.2.2.2.2.2.2.2.1.length,.own 11 0 v5.2.2.2.2.2.2.2.2.2.2.2.1.length,.own 12 0 v5.2.2.2.2.2.2.2.2.2.2.2.2.1.length,.own 13 0 v5.2.2.2.2.2.2.2.2.2.2.2.2.2.1.length,.own 14 0 v5.2.2.2.2.2.2.2.2.2.2.2.2.2.2.1.length]))]),(2,rI v5.2.1),(3,rI v5.2.2.1),(4,rI v5.2.2.2.1),(5,.row 1 (Ls v5.2.2.2.2.1)),(6,rI v5.2.2.2.2.2.2.1),(7,rI v5.2.2.2.2.2.2.2.1),(8,rI v5.2.2.2.2.2.2.2.2.1),(9,.row 1 (Ls v5.2.2.2.2.2.2.2.2.2.1)),(10,.row 1 (Ls v5.2.2.2.2.2.2.2.2.2.2.1)),(11,.row 1 (Es eL v5.2.2.2.2.2.2.2.2.2.2.2.1)),(12,.row 1 (Es eL v5.2.2.2.2.2.2.2.2.2.2.2.2.1)),(13,.mix 1 (Es (fun x=>[.lst true 1 (Es (fun x=>[.lst true 3 (Es (XTripleint64.cells true) x)]) x)]) v5.2.2.2.2.2.2.2.2.2.2.2.2.2.1)),(14,.row 1 (Es eL v5.2.2.2.2.2.2.2.2.2.2.2.2.2.2.1))],15⟩) (Q3g 15) (Qd rfl (fun g=>?_) fun g=>?_))
 ·have g6:¬ (v5.2.2.2.2.2.2.2.2.2.2.2.2.2.2.2=true):=gQ;clear g;replace h:=if_l g6 h;refine Q3 (runQ hN fun K hK=>?_);simp;repeat refine sdQ ?_
  refine hK _ (tn (Q7 (st':=⟨[(2,nS),(3,iV 3)],[],0⟩) (Q11 []) (Qo (tr ?_))));clear hK K;have hr:=Option.some.inj h;rw [← hr];refine ⟨_,(.tmp (.tmp .nil)),?_⟩;refine ⟨(.one rfl rfl (.one rfl rfl .nil)),[nS,iV 3],[],by simp [Cat.cells,Fn.cells,Prf.cells,UA,U1,IA,I1,LA,L1,BA,B1,EA,E1,E2,eB,eI,eL,Q8 _ (XTripleint64.cells true) _ (fun _=>rfl),Q8 _ (fun x=>[.lst true 1 (Es (fun x=>[.lst true 3 (Es (XTripleint64.cells true) x)]) x)]) _ (fun _=>rfl),Q8 _ (fun x=>[.lst true 3 (Es (XTripleint64.cells true) x)]) _ (fun _=>rfl)],by simp,(.cons .nil (.cons .refl .nil))⟩
 have g6:¬ (¬ (v5.2.2.2.2.2.2.2.2.2.2.2.2.2.2.2=true)):=gQ;clear g;replace h:=if_r g6 h;refine Qe (tn (Q3 (runQ hN fun K hK=>?_)));simp;repeat refine sdQ ?_
 refine hK _ ?_;clear hK K;refine tn (Q7 (st':=⟨Y11 f_ [(8,.adr 15 0 0),(9,.adr 16 0 0)],Y0N [(1,.mix 17 [(Y1l v3 (Y1l v4 [iV v5.1,.own 2 0 v5.2.1.length,.own 3 0 v5.2.2.1.length,.own 4 0 v5.2.2.2.1.length,.own 5 0 v5.2.2.2.2.1.length,iV v5.2.2.2.2.2.1,.own 6 0 v5.2.2.2.2.2.2.1.length,.own 7 0 v5.2.2.2.2.2.2.2.1.length,.own 8 0 v5.2.2.2.2.2.2.2.2.1.length,.own 9 0 v5.2.2.2.2.2.2.2.2.2.1.length,.own 10 0 v5.2.2.2.2.2.2.2.2.2.2.1.length,.own 11 0 v5.2.2.2.2.2.2.2.2.2.2.2.1.length,.own 12 0 v5.2.2.2.2.2.2.2.2.2.2.2.2.1.length,.own 13 0 v5.2.2.2.2.2.2.2.2.2.2.2.2.2.1.length,.own 14 0 v5.2.2.2.2.2.2.2.2.2.2.2.2.2.2.1.length]))]),(2,rI v5.2.1),(3,rI v5.2.2.1),(4,rI v5.2.2.2.1),(5,.row 1 (Ls v5.2.2.2.2.1)),(6,rI v5.2.2.2.2.2.2.1),(7,rI v5.2.2.2.2.2.2.2.1),(8,rI v5.2.2.2.2.2.2.2.2.1),(9,.row 1 (Ls v5.2.2.2.2.2.2.2.2.2.1)),(10,.row 1 (Ls v5.2.2.2.2.2.2.2.2.2.2.1)),(11,.row 1 (Es eL v5.2.2.2.2.2.2.2.2.2.2.2.1)),(12,.row 1 (Es eL v5.2.2.2.2.2.2.2.2.2.2.2.2.1)),(13,.mix 1 (Es (fun x=>[.lst true 1 (Es (fun x=>[.lst true 3 (Es (XTripleint64.cells true) x)]) x)]) v5.2.2.2.2.2.2.2.2.2.2.2.2.2.1)),(14,.row 1 (Es eL v5.2.2.2.2.2.2.2.2.2.2.2.2.2.2.1)),(15,.mix 1 [(Y1s f_ [])]),(16,.mix 1 [[.rptr (Y1r f_ [])]])],17⟩) (Q3g 17) (Q3 (QG [] mo (by rw [hN];decide) fun K hK=>?_)));simp;repeat with_reducible refine sdQ ?_
 replace ⟨v7,hv7,h⟩:=bind_some h;refine Q1P (fz:=[]) (Q1N _ _ _ _ _ v7 hv7) (.cons (.field rfl (by simp [Cat.cells,Fn.cells,Prf.cells]) (.cons .val (.cons .w (.cons .w (.cons .w (.cons .w (.cons .val (.cons .w (.cons .w (.cons .w (.cons .w (.cons .w (.cons .w (.cons .w .nil)))))))))))))) (.cons (.fnL (by simp) (.cons .rptr (.cons (.field rfl (by simp [Cat.cells,Fn.cells,Prf.cells]) (.cons (.preT (by simp [Cat.cells,Fn.cells,Prf.cells])) .nil)) (.cons (.field rfl (by simp [Fn.cells,Prf.cells]) (.cons (.preT (by simp [Cat.cells,Fn.cells,Prf.cells])) .nil)) (.cons (.field rfl (by simp [Fn.cells,Prf.cells]) (.cons (.field rfl (by simp [Fn.cells,Prf.cells,XComposite.cells]) (.cons (.preT (by simp [Fn.cells,Prf.cells])) (.cons (.preT (by simp [Fn.cells,Prf.cells])) (.cons .val (.cons .w (.cons .w (.cons .w (.cons .w (.cons .val (.cons .w (.cons .w (.cons .w (.cons .w (.cons .w (.cons .w (.cons .w (.cons (.smix rfl (by simp) (Q3P (by simp [Fn.cells,Prf.cells,Q3v,Q1b]))) (.cons .w .nil)))))))))))))))))) .nil)) .nil))))) .nil)) ?_;simp;repeat refine sdQ ?_
 refine hK _ (tn (Q7 (st':=⟨[(2,.own 0 0 v7.length),(3,iV 0)],[(0,.row 1 (Es eL v7))],1⟩) (Q11 [(17,0)]) (Qo ?_)));clear hK K;have hr:=Option.some.inj h;rw [← hr];refine ⟨_,(.tmp (.tmp .nil)),?_⟩;refine ⟨(.one rfl rfl (.one rfl rfl .nil)),[.lst true 1 (Es eL v7),iV 0],[0],by simp [Cat.cells,Fn.cells,Prf.cells,UA,U1,IA,I1,LA,L1,BA,B1,EA,E1,E2,eB,eI,eL,Q8 _ (XTripleint64.cells true) _ (fun _=>rfl),Q8 _ (fun x=>[.lst true 1 (Es (fun x=>[.lst true 3 (Es (XTripleint64.cells true) x)]) x)]) _ (fun _=>rfl),Q8 _ (fun x=>[.lst true 3 (Es (XTripleint64.cells true) x)]) _ (fun _=>rfl)],by simp,(UpL.refl _)⟩
attribute [local simp] unk unA unE unT unC flat eL eI Qr Q15 Q3v Q1b Cat.cells Fn.cells Prf.cells
noncomputable def Q4G (c_:Cat):Option Prf :=
 (Q26 c_).bind fun v1 =>
 (Q26 c_).bind fun v2 =>
 (Q1G v1 v2).bind fun v3 =>
 some v3
theorem QaI (c_:Cat) (r:Prf) (h:Q4G c_=some r):Contract Tryz.prog 46 [.agg (c_.cells true)] (.agg (r.cells true)):=by
 refine Qc (rvs:=[.cell 2 45]) (rs:=[.agg (r.cells true)]) Tryz.func46 rfl rfl rfl rfl (by simp [Tryz.f46]) fun F hN hP=>?_;unfold Q4G at h;refine Q3 (runQ hN fun K hK=>?_);simp;repeat refine sdQ ?_
 refine hK _ ?_;clear hK K;refine tn (Q7 (st':=⟨Y0o [],Y0I c_ [(1,.mix 13 [(Y1k [nS])])],2⟩) (Q11 [(0,0),(1,1)]) (Q3 (runQ hN fun K hK=>?_)));simp;repeat with_reducible refine sdQ ?_
 replace ⟨v1,hv1,h⟩:=bind_some h;refine Q4 (Q49 _ v1 hv1) (.cons (.aggL (.cons .val (.cons .lst (.cons .lst (.cons .lst (.cons .lst .nil)))))) .nil) ?_;simp;repeat with_reducible refine sdQ ?_
 replace ⟨v2,hv2,h⟩:=bind_some h;refine Q4 (Q49 _ v2 hv2) (.cons (.aggL (.cons .val (.cons .lst (.cons .lst (.cons .lst (.cons .lst .nil)))))) .nil) ?_;simp;repeat with_reducible refine sdQ ?_
 replace ⟨v3,hv3,h⟩:=bind_some h;refine Q4 (Q3I _ _ v3 hv3) (.cons (.aggL (.cons .val (.cons .w (.cons .w (.cons .w (.cons .w (.cons .val (.cons .w (.cons .w (.cons .w (.cons .w (.cons .w (.cons .w .nil))))))))))))) (.cons (.aggL (.cons .val (.cons .w (.cons .w (.cons .w (.cons .w (.cons .val (.cons .w (.cons .w (.cons .w (.cons .w (.cons .w (.cons .w .nil))))))))))))) .nil)) ?_;simp;repeat refine sdQ ?_
 refine hK _ (tn (Q7 (st':=⟨[(2,.adr 0 0 0)],YK v3 [],12⟩) (Q11 [(1,0),(27,1),(28,2),(29,3),(30,4),(32,5),(33,6),(34,7),(35,8),(36,9),(37,10),(38,11)]) (Qo ?_)));clear hK K;have hr:=Option.some.inj h;rw [← hr];refine ⟨_,(.cell Q7y rfl rfl rfl (by simp) (by simp) .nil),?_⟩;refine ⟨(.agg rfl .nil),[iV v3.s.n,lI v3.s.fr,lI v3.s.to,lI v3.s.id,.lst true 1 (Ls v3.s.cs),iV v3.t.n,lI v3.t.fr,lI v3.t.to,lI v3.t.id,.lst true 1 (Ls v3.t.cs),.lst true 1 (Ls v3.sz),.lst true 1 (Es eL v3.bf),.lst true 1 (Es eL v3.bh)],[1,2,3,4,5,6,7,8,9,10,11],by simp [Cat.cells,Fn.cells,Prf.cells,UA,U1,IA,I1,LA,L1,BA,B1,EA,E1,E2,eB,eI,eL],by simp,(UpL.refl _)⟩
attribute [local simp] unk unA unE unT unC flat eL eI Qr Q15 Q3v Q1b Qs Cat.cells Fn.cells Prf.cells XL32Composite.cells
noncomputable def Q1l (f_:Fn):Option (List (List (List Int)) × Int) :=
 (Q4t f_).bind fun v1 =>
 if ¬ (v1=true) then
  some ([],1)
 else
  (Q26 f_.t).bind fun v3 =>
  (Q1G f_ v3).bind fun v4 =>
  (Q26 f_.t).bind fun v5 =>
  (Q1G v5 f_).bind fun v6 =>
  (Q3t v4 v6).bind fun v7 =>
  if ¬ (v7.2=true) then
   some ([],3)
  else
   (Q4G f_.s).bind fun v9 =>
   (Q33 v9).bind fun v10 =>
   (Qx (σ:=List (List (List Int)) × Int) (ε:=List (List (List Int))) (fun s84 =>
    if s84.2<f_.s.n then
     (
      (Qx (σ:=List (List (List Int)) × Int) (ε:=List (List (List Int))) (fun s121 =>
       if s121.2<f_.s.n then
        (
         (Q1w f_.s s84.2 s121.2).bind fun v124 =>
         ass (0≤s84.2∧s84.2<(f_.ob.length:Int)) <|
         (Qx (σ:=List (List (List Int)) × Int) (ε:=List (List (List Int))) (fun s140 =>
          if s140.2<(v124.length:Int) then
           (Q1w f_.t (ix f_.ob s84.2) (ix f_.ob s84.2)).bind fun v142 =>
           ass (0≤ix f_.ob s84.2∧ix f_.ob s84.2<(f_.t.id.length:Int)) <|
           (Q1z v142 (ix f_.t.id (ix f_.ob s84.2))).bind fun v144 =>
           ass (0≤s121.2∧s121.2<(f_.ob.length:Int)) <|
           (Q1w f_.t (ix f_.ob s84.2) (ix f_.ob s121.2)).bind fun v146 =>
           ass (0≤s140.2∧s140.2<(v124.length:Int)) <|
           ass (0≤ix v124 s140.2∧ix v124 s140.2<(f_.ar.length:Int)) <|
           (Q1z v146 (ix f_.ar (ix v124 s140.2))).bind fun v149 =>
           ass (0≤s84.2∧s84.2<(s140.1.length:Int)) <|
           ass (0≤s121.2∧s121.2<((gx s140.1 s84.2).length:Int)) <|
           (QH v7.1 s84.2 s121.2 [ix f_.ob s84.2,v144,v149]).bind fun v152 =>
           ass (0≤s140.2∧s140.2<((rx (gx s140.1 s84.2) s121.2).length:Int)) <|
           ass (B64 (s140.2+1)) <|
           some (Ctl.next (s140.1.set s84.2.toNat ((gx s140.1 s84.2).set s121.2.toNat ((rx (gx s140.1 s84.2) s121.2).set s140.2.toNat v152)),s140.2+1))
          else
           some (Ctl.ret s140.1)) fuel (s121.1,0)).bind fun p140 =>
         some p140:Option (List (List (List Int)))).bind fun b123 =>
        ass (B64 (s121.2+1)) <|
        some (Ctl.next (b123,s121.2+1))
       else
        some (Ctl.ret s121.1)) fuel (s84.1,0)).bind fun p121 =>
      some p121:Option (List (List (List Int)))).bind fun b86 =>
     ass (B64 (s84.2+1)) <|
     some (Ctl.next (b86,s84.2+1))
    else
     some (Ctl.ret s84.1)) fuel (v10,0)).bind fun b11 =>
   some (b11,0)
@[simp] abbrev Y1 (a:Fn) (b:XL32Composite × Bool) (c:List (Nat × Ent)):List (Nat × Ent):=(0,.mix 12 [(Fn.cells true a)])::(1,.mix 5 [(Cat.cells true a.t)])::(2,.mix 15 [[iV b.1.p_.s.n,.own 3 0 b.1.p_.s.fr.length,.own 4 0 b.1.p_.s.to.length,.own 5 0 b.1.p_.s.id.length,.own 6 0 b.1.p_.s.cs.length,iV b.1.p_.t.n,.own 7 0 b.1.p_.t.fr.length,.own 8 0 b.1.p_.t.to.length,.own 9 0 b.1.p_.t.id.length,.own 10 0 b.1.p_.t.cs.length,.own 11 0 b.1.p_.sz.length,.own 12 0 b.1.p_.bf.length,.own 13 0 b.1.p_.bh.length,.own 14 0 b.1.triples_.length,.own 15 0 b.1.classes_.length]])::(3,rI b.1.p_.s.fr)::(4,rI b.1.p_.s.to)::(5,rI b.1.p_.s.id)::(6,.row 1 (Ls b.1.p_.s.cs))::(7,rI b.1.p_.t.fr)::(8,rI b.1.p_.t.to)::(9,rI b.1.p_.t.id)::(10,.row 1 (Ls b.1.p_.t.cs))::(11,.row 1 (Ls b.1.p_.sz))::(12,.row 1 (Es eL b.1.p_.bf))::(13,.row 1 (Es eL b.1.p_.bh))::(14,.row 1 (Es (fun x=>[.lst true 1 (Es eL x)]) b.1.triples_))::(15,.row 1 (Es eL b.1.classes_))::c
@[simp] abbrev YV (a:List (Nat × AV)):List (Nat × AV):=(1,.adr 0 0 0)::(4,.adr 1 0 0)::(5,.adr 2 0 0)::a
@[simp] abbrev Y0J (a b:List (List (List Int)) × Int) (c:List Int) (d:Fn) (e:List (Nat × AV)):List (Nat × AV):=(9,iV a.2)::(10,iV b.2)::(11,.own 17 0 c.length)::(12,iV (ix d.ob a.2))::e
theorem Q5z (f_:Fn) (r:List (List (List Int)) × Int) (h:Q1l f_=some r):Contract Tryz.prog 14 [.agg (f_.cells true)] (.tup [.lst true 1 (Es eL r.1),iV r.2]):=by
 refine Qc (rvs:=[.tmp 2,.tmp 3]) (rs:=[.lst true 1 (Es eL r.1),iV r.2]) Tryz.func14 rfl rfl rfl rfl (by simp [Tryz.f14]) fun F hN hP=>?_;unfold Q1l at h;refine Q3 (runQ hN fun K hK=>?_);simp;repeat refine sdQ ?_
 refine hK _ ?_;clear hK K;refine tn (Q7 (st':=⟨Y0K [],[(0,.mix 12 [(Fn.cells true f_)])],1⟩) (Q11 [(0,0)]) (Q3 (Q3 (runQ hN fun K hK=>?_))));simp;repeat with_reducible refine sdQ ?_
 replace ⟨v1,hv1,h⟩:=bind_some h;refine Q4 (w_s_l06Is _ v1 hv1) (.cons (.aggL (.cons .val (.cons .lst (.cons .lst (.cons .lst (.cons .lst (.cons .val (.cons .lst (.cons .lst (.cons .lst (.cons .lst (.cons .lst (.cons .lst .nil))))))))))))) .nil) ?_;simp;repeat refine sdQ ?_
 refine hK _ ?_;clear hK K;refine tn (Q7 (st':=⟨Y0K [(18,.val (.bool (!v1)))],[(0,.mix 12 [(Fn.cells true f_)])],1⟩) (Q11 [(0,0)]) (Qd rfl (fun g=>?_) fun g=>?_))
 ·have g2:¬ (v1=true):=gQ;clear g;replace h:=if_l g2 h;refine Q3 (runQ hN fun K hK=>?_);simp;repeat refine sdQ ?_
  refine hK _ (tn (Q7 (st':=⟨[(2,nS),(3,iV 1)],[],0⟩) (Q11 []) (Qo (tr ?_))));clear hK K;have hr:=Option.some.inj h;rw [← hr];refine ⟨_,(.tmp (.tmp .nil)),?_⟩;refine ⟨(.one rfl rfl (.one rfl rfl .nil)),[nS,iV 1],[],by simp [Cat.cells,Fn.cells,Prf.cells,XL32Composite.cells,UA,U1,IA,I1,LA,L1,BA,B1,EA,E1,E2,eB,eI,eL,Q8 _ Qs _ (fun _=>rfl),Q8 _ (fun x=>[.lst true 1 (Es eL x)]) _ (fun _=>rfl)],by simp,(.cons .nil (.cons .refl .nil))⟩
 have g2:¬ (¬ (v1=true)):=gQ;clear g;replace h:=if_r g2 h;refine Qe (tn (Q3 (runQ hN fun K hK=>?_)));simp;repeat refine sdQ ?_
 refine hK _ ?_;clear hK K;refine tn (Q7 (st':=⟨Y0K [(4,.adr 1 0 0)],[(0,.mix 12 [(Fn.cells true f_)]),(1,.mix 5 [(Cat.cells true f_.t)])],2⟩) (Q11 [(0,0),(1,1)]) (Q3 (runQ hN fun K hK=>?_)));simp;repeat with_reducible refine sdQ ?_
 replace ⟨v3,hv3,h⟩:=bind_some h;refine Q4 (Q49 _ v3 hv3) (.cons (.aggL (.cons .val (.cons .lst (.cons .lst (.cons .lst (.cons .lst .nil)))))) .nil) ?_;simp;repeat with_reducible refine sdQ ?_
 replace ⟨v4,hv4,h⟩:=bind_some h;refine Q4 (Q3I _ _ v4 hv4) (.cons (.aggL (.cons .val (.cons .lst (.cons .lst (.cons .lst (.cons .lst (.cons .val (.cons .lst (.cons .lst (.cons .lst (.cons .lst (.cons .lst (.cons .lst .nil))))))))))))) (.cons (.aggL (.cons .val (.cons .w (.cons .w (.cons .w (.cons .w (.cons .val (.cons .w (.cons .w (.cons .w (.cons .w (.cons .w (.cons .w .nil))))))))))))) .nil)) ?_;simp;repeat with_reducible refine sdQ ?_
 replace ⟨v5,hv5,h⟩:=bind_some h;refine Q4 (Q49 _ v5 hv5) (.cons (.aggL (.cons .val (.cons .lst (.cons .lst (.cons .lst (.cons .lst .nil)))))) .nil) ?_;simp;repeat with_reducible refine sdQ ?_
 replace ⟨v6,hv6,h⟩:=bind_some h;refine Q4 (Q3I _ _ v6 hv6) (.cons (.aggL (.cons .val (.cons .w (.cons .w (.cons .w (.cons .w (.cons .val (.cons .w (.cons .w (.cons .w (.cons .w (.cons .w (.cons .w .nil))))))))))))) (.cons (.aggL (.cons .val (.cons .lst (.cons .lst (.cons .lst (.cons .lst (.cons .val (.cons .lst (.cons .lst (.cons .lst (.cons .lst (.cons .lst (.cons .lst .nil))))))))))))) .nil)) ?_;simp;repeat with_reducible refine sdQ ?_
 replace ⟨v7,hv7,h⟩:=bind_some h;refine Q4 (Q9p _ _ v7 hv7) (.cons (.aggL (.cons .val (.cons .w (.cons .w (.cons .w (.cons .w (.cons .val (.cons .w (.cons .w (.cons .w (.cons .w (.cons .w (.cons .w (.cons .w .nil)))))))))))))) (.cons (.aggL (.cons .val (.cons .w (.cons .w (.cons .w (.cons .w (.cons .val (.cons .w (.cons .w (.cons .w (.cons .w (.cons .w (.cons .w (.cons .w .nil)))))))))))))) .nil)) ?_;simp;repeat refine sdQ ?_
 refine hK _ ?_;clear hK K;refine tn (Q7 (st':=⟨YV [(6,.val (.bool v7.2))],Y1 f_ v7 [],16⟩) (Q11 [(0,0),(1,1),(68,2),(53,3),(54,4),(55,5),(56,6),(58,7),(59,8),(60,9),(61,10),(62,11),(63,12),(64,13),(65,14),(66,15)]) (Q3 (Q3 (runQ hN fun K hK=>?_))));simp;repeat refine sdQ ?_
 refine hK _ ?_;clear hK K;refine tn (Qd rfl (fun g=>?_) fun g=>?_)
 ·have g8:¬ (v7.2=true):=gQ;clear g;replace h:=if_l g8 h;refine Q3 (runQ hN fun K hK=>?_);simp;repeat refine sdQ ?_
  refine hK _ (tn (Q7 (st':=⟨[(2,nS),(3,iV 3)],[],0⟩) (Q11 []) (Qo (tr ?_))));clear hK K;have hr:=Option.some.inj h;rw [← hr];refine ⟨_,(.tmp (.tmp .nil)),?_⟩;refine ⟨(.one rfl rfl (.one rfl rfl .nil)),[nS,iV 3],[],by simp [Cat.cells,Fn.cells,Prf.cells,XL32Composite.cells,UA,U1,IA,I1,LA,L1,BA,B1,EA,E1,E2,eB,eI,eL,Q8 _ Qs _ (fun _=>rfl),Q8 _ (fun x=>[.lst true 1 (Es eL x)]) _ (fun _=>rfl)],by simp,(.cons .nil (.cons .refl .nil))⟩
 have g8:¬ (¬ (v7.2=true)):=gQ;clear g;replace h:=if_r g8 h;refine Qe (tn (Q3 (runQ hN fun K hK=>?_)));simp;repeat with_reducible refine sdQ ?_
 replace ⟨v9,hv9,h⟩:=bind_some h;refine Q4 (QaI _ v9 hv9) (.cons (.aggL (.cons .val (.cons .lst (.cons .lst (.cons .lst (.cons .lst .nil)))))) .nil) ?_;simp;repeat refine sdQ ?_
 refine hK _ ?_;clear hK K;refine tn (Q7 (st':=⟨YV [(7,.adr 16 0 0)],Y1 f_ v7 [(16,.mix 13 [[iV v9.s.n,.own 17 0 v9.s.fr.length,.own 18 0 v9.s.to.length,.own 19 0 v9.s.id.length,.own 20 0 v9.s.cs.length,iV v9.t.n,.own 21 0 v9.t.fr.length,.own 22 0 v9.t.to.length,.own 23 0 v9.t.id.length,.own 24 0 v9.t.cs.length,.own 25 0 v9.sz.length,.own 26 0 v9.bf.length,.own 27 0 v9.bh.length]]),(17,rI v9.s.fr),(18,rI v9.s.to),(19,rI v9.s.id),(20,.row 1 (Ls v9.s.cs)),(21,rI v9.t.fr),(22,rI v9.t.to),(23,rI v9.t.id),(24,.row 1 (Ls v9.t.cs)),(25,.row 1 (Ls v9.sz)),(26,.row 1 (Es eL v9.bf)),(27,.row 1 (Es eL v9.bh))],28⟩) (Q11 [(0,0),(1,1),(2,2),(3,3),(4,4),(5,5),(6,6),(7,7),(8,8),(9,9),(10,10),(11,11),(12,12),(13,13),(14,14),(15,15),(29,16),(17,17),(18,18),(19,19),(20,20),(22,21),(23,22),(24,23),(25,24),(26,25),(27,26),(28,27)]) (Q3 (runQ hN fun K hK=>?_)));simp;repeat with_reducible refine sdQ ?_
 replace ⟨v10,hv10,h⟩:=bind_some h;refine Q4 (Q8w _ v10 hv10) (.cons (.aggL (.cons .val (.cons .w (.cons .w (.cons .w (.cons .w (.cons .val (.cons .w (.cons .w (.cons .w (.cons .w (.cons .w (.cons .w (.cons .w .nil)))))))))))))) .nil) ?_;simp;repeat refine sdQ ?_
 refine hK _ ?_;clear hK K;refine tn (Q7 (st':=⟨YV [(8,.own 16 0 v10.length)],Y1 f_ v7 [(16,.row 1 (Es eL v10))],17⟩) (Q11 [(0,0),(1,1),(2,2),(3,3),(4,4),(5,5),(6,6),(7,7),(8,8),(9,9),(10,10),(11,11),(12,12),(13,13),(14,14),(15,15),(28,16)]) (Q3 (Q3 (runQ hN fun K hK=>?_))));simp;repeat refine sdQ ?_
 refine hK _ (tn (Q7 (st':=⟨YV [(8,.own 16 0 v10.length),(9,iV 0)],Y1 f_ v7 [(16,.row 1 (Es eL v10))],17⟩) (Q3g 17) ?_));clear hK K;replace ⟨e11,h,h11⟩:=bind_some h;refine Qg (fun b11:List (List (List Int))=>⟨[(8,.own 0 0 b11.length)],[(0,.row 1 (Es eL b11))],1⟩) (fun b11=>b11=e11) ?_ ?_
 ·refine Qa (Qn h (fun s84:List (List (List Int)) × Int=>⟨YV [(8,.own 16 0 s84.1.length),(9,iV s84.2)],Y1 f_ v7 [(16,.row 1 (Es eL s84.1))],17⟩) (Q3g 17) ?_);clear h;intro k84 s84 c84 h hk84;refine Q3 (Q3 (runQ hN fun K hK=>?_));simp;repeat refine sdQ ?_
  refine hK _ ?_;clear hK K;refine tn (Qd rfl (fun g=>?_) fun g=>?_)
  ·have g85:s84.2<f_.s.n:=gQ;clear g;replace h:=if_l g85 h;refine Qe (tn (Q3 ?_));replace ⟨e86,h,h86⟩:=bind_some h;refine Qg (fun b86:List (List (List Int))=>⟨YV [(8,.own 16 0 b86.length),(9,iV s84.2)],Y1 f_ v7 [(16,.row 1 (Es eL b86))],17⟩) (fun b86=>b86=e86) ?_ ?_
   ·refine Qa (Q3 (runQ hN fun K hK=>?_));simp;(repeat refine sdQ ?_);refine hK _ (tn (Q7 (st':=⟨YV [(8,.own 16 0 s84.1.length),(9,iV s84.2),(10,iV 0)],Y1 f_ v7 [(16,.row 1 (Es eL s84.1))],17⟩) (Q3g 17) (Qa ?_)));clear hK K;replace ⟨e121,he121,h121⟩:=bind_some h;refine Qn he121 (fun s121:List (List (List Int)) × Int=>⟨YV [(8,.own 16 0 s121.1.length),(9,iV s84.2),(10,iV s121.2)],Y1 f_ v7 [(16,.row 1 (Es eL s121.1))],17⟩) (Q3g 17) ?_;intro k121 s121 c121 h hk121;refine Q3 (Q3 (runQ hN fun K hK=>?_));simp;(repeat refine sdQ ?_);refine hK _ ?_;clear hK K;refine tn (Qd rfl (fun g=>?_) fun g=>?_)
    ·have g122:s121.2<f_.s.n:=gQ;clear g;replace h:=if_l g122 h;refine Qe (tn (Q3 ?_));replace ⟨e123,h,h123⟩:=bind_some h;refine Qg (fun b123:List (List (List Int))=>⟨YV [(8,.own 16 0 b123.length),(9,iV s84.2),(10,iV s121.2)],Y1 f_ v7 [(16,.row 1 (Es eL b123))],17⟩) (fun b123=>b123=e123) ?_ ?_
     ·refine Qa (Q3 (runQ hN fun K hK=>?_));simp;(repeat with_reducible refine sdQ ?_);replace ⟨v124,hv124,h⟩:=bind_some h;refine Q4 (Q2t _ _ _ v124 hv124) (.cons (.aggL (.cons .val (.cons .lst (.cons .lst (.cons .lst (.cons .lst .nil)))))) (.cons .val (.cons .val .nil))) ?_;simp;(repeat refine sdQ ?_);refine hK _ ?_;clear hK K;refine tn (Q7 (st':=⟨YV [(8,.own 16 0 s121.1.length),(9,iV s84.2),(10,iV s121.2),(11,.own 17 0 v124.length)],Y1 f_ v7 [(16,.row 1 (Es eL s121.1)),(17,rI v124)],18⟩) (Q3g 18) (Q3 (runQ hN fun K hK=>?_)));replace ⟨a125,h⟩:=Q0 h;simp [at_I a125];(repeat refine sdQ ?_);refine hK _ ?_;clear hK K;refine tn (Q7 (st':=⟨YV ((8,.own 16 0 s121.1.length)::Y0J s84 s121 v124 f_ []),Y1 f_ v7 [(16,.row 1 (Es eL s121.1)),(17,rI v124)],18⟩) (Q3g 18) (Q3 (runQ hN fun K hK=>?_)));simp;(repeat refine sdQ ?_);refine hK _ (tn ?_);clear hK K
      refine Q7 (st':=⟨YV ((8,.own 16 0 s121.1.length)::Y0J s84 s121 v124 f_ [(13,iV 0)]),Y1 f_ v7 [(16,.row 1 (Es eL s121.1)),(17,rI v124)],18⟩) (Q3g 18) (Qa ?_);replace ⟨e140,he140,h140⟩:=bind_some h;refine Qn he140 (fun s140:List (List (List Int)) × Int=>⟨YV ((8,.own 16 0 s140.1.length)::Y0J s84 s121 v124 f_ [(13,iV s140.2)]),Y1 f_ v7 [(16,.row 1 (Es eL s140.1)),(17,rI v124)],18⟩) (Q3g 18) ?_;intro k140 s140 c140 h hk140;refine Q3 (Q3 (runQ hN fun K hK=>?_));simp;(repeat refine sdQ ?_);refine hK _ ?_;clear hK K;refine tn (Qd rfl (fun g=>?_) fun g=>?_)
      ·have g141:s140.2<(v124.length:Int):=gQ;clear g;replace h:=if_l g141 h;refine Qe (tn (Q3 (Qa (Q3 (runQ hN fun K hK=>?_)))));simp;(repeat with_reducible refine sdQ ?_);replace ⟨v142,hv142,h⟩:=bind_some h;refine Q4 (Q2t _ _ _ v142 hv142) (.cons (.aggL (.cons .val (.cons .lst (.cons .lst (.cons .lst (.cons .lst .nil)))))) (.cons .val (.cons .val .nil))) ?_;replace ⟨a143,h⟩:=Q0 h;simp [at_I a143];(repeat with_reducible refine sdQ ?_);replace ⟨v144,hv144,h⟩:=bind_some h;refine Q4 (Q36 _ _ v144 hv144) (.cons .w (.cons .val .nil)) ?_;simp [at_I a143];(repeat refine sdQ ?_);refine hK _ ?_;clear hK K;refine tn (Q7 (st':=⟨YV ((8,.own 16 0 s140.1.length)::Y0J s84 s121 v124 f_ [(13,iV s140.2),(14,iV v144)]),Y1 f_ v7 [(16,.row 1 (Es eL s140.1)),(17,rI v124)],18⟩) (Q3g 18) (Q3 (runQ hN fun K hK=>?_)));replace ⟨a145,h⟩:=Q0 h;simp [at_I a145];(repeat with_reducible refine sdQ ?_);replace ⟨v146,hv146,h⟩:=bind_some h;refine Q4 (Q2t _ _ _ v146 hv146) (.cons (.aggL (.cons .val (.cons .lst (.cons .lst (.cons .lst (.cons .lst .nil)))))) (.cons .val (.cons .val .nil))) ?_;replace ⟨a147,h⟩:=Q0 h;replace ⟨a148,h⟩:=Q0 h;simp [at_I a145,at_I a147,at_I a148];(repeat with_reducible refine sdQ ?_);replace ⟨v149,hv149,h⟩:=bind_some h;refine Q4 (Q36 _ _ v149 hv149) (.cons .w (.cons .val .nil)) ?_;simp [at_I a145,at_I a147,at_I a148];(repeat refine sdQ ?_);refine hK _ (tn ?_);clear hK K
       refine Q7 (st':=⟨YV ((8,.own 16 0 s140.1.length)::Y0J s84 s121 v124 f_ [(13,iV s140.2),(14,iV v144),(15,iV v149)]),Y1 f_ v7 [(16,.row 1 (Es eL s140.1)),(17,rI v124)],18⟩) (Q3g 18) (runQ hN fun K hK=>?_);replace ⟨a150,h⟩:=Q0 h;replace ⟨a151,h⟩:=Q0 h;simp [at_E (c:=eL) a150,at_L a151];(repeat with_reducible refine sdQ ?_);replace ⟨v152,hv152,h⟩:=bind_some h;refine Q4 (Q1H _ _ _ _ v152 hv152) (.cons (.aggL (.cons .val (.cons .w (.cons .w (.cons .w (.cons .w (.cons .val (.cons .w (.cons .w (.cons .w (.cons .w (.cons .w (.cons .w (.cons .w (.cons .w (.cons .w .nil)))))))))))))))) (.cons .val (.cons .val (.cons (.lits (es:=_) rfl (.cons rfl (.cons .val .nil) (.cons rfl (.cons .val .nil) (.cons rfl (.cons .val .nil) .nil))) rfl) .nil)))) ?_;replace ⟨a153,h⟩:=Q0 h;simp [at_E (c:=eL) a150,at_L a151,at_I a153];(repeat refine sdQ ?_);refine hK _ (bn (tn ?_));clear hK K
       refine Q7 (st':=⟨YV ((8,.own 16 0 ((s140.1.set s84.2.toNat ((gx s140.1 s84.2).set s121.2.toNat ((rx (gx s140.1 s84.2) s121.2).set s140.2.toNat v152))).length))::Y0J s84 s121 v124 f_ [(13,iV s140.2)]),Y1 f_ v7 [(16,.row 1 (Es eL (s140.1.set s84.2.toNat ((gx s140.1 s84.2).set s121.2.toNat ((rx (gx s140.1 s84.2) s121.2).set s140.2.toNat v152))))),(17,rI v124)],18⟩) (Q3g 18) (runQ hN fun K hK=>?_);replace ⟨a154,h⟩:=Q0 h;simp [Qh a154];(repeat refine sdQ ?_);refine hK _ ?_;clear hK K;cases h;exact rn (s':=(s140.1.set s84.2.toNat ((gx s140.1 s84.2).set s121.2.toNat ((rx (gx s140.1 s84.2) s121.2).set s140.2.toNat v152)),s140.2+1)) hk140 (Q3g 18)
      have g141:¬ (s140.2<(v124.length:Int)):=gQ;clear g;replace h:=if_r g141 h;refine Qm (tx (lx (bh (bn ?_))));cases h;have q:_=e140:=hk140;have h:=h140;rw [← q] at h;clear q;(try dsimp only at h);exact jn (b:=s140.1) (Option.some.inj h) (Q3g 17)
     intro b123 hb123;have h:=h123;(try rw [← hb123] at h);clear h123;(try dsimp only at h);refine runQ hN fun K hK=>?_;replace ⟨a155,h⟩:=Q0 h;simp [Qh a155];(repeat refine sdQ ?_);refine hK _ ?_;clear hK K;cases h;exact rn (s':=(b123,s121.2+1)) hk121 (Q3g 17)
    have g122:¬ (s121.2<f_.s.n):=gQ;clear g;replace h:=if_r g122 h;refine Qm (tx (lx (bh (bn ?_))));cases h;have q:_=e121:=hk121;have h:=h121;rw [← q] at h;clear q;(try dsimp only at h);exact jn (b:=s121.1) (Option.some.inj h) (Q3g 17)
   intro b86 hb86;have h:=h86;(try rw [← hb86] at h);clear h86;(try dsimp only at h);refine runQ hN fun K hK=>?_;replace ⟨a156,h⟩:=Q0 h;simp [Qh a156];(repeat refine sdQ ?_);refine hK _ ?_;clear hK K;cases h;exact rn (s':=(b86,s84.2+1)) hk84 (Q3g 17)
  have g85:¬ (s84.2<f_.s.n):=gQ;clear g;replace h:=if_r g85 h;refine Qm (tx (lx (bh ?_)));cases h;exact jn (b:=s84.1) hk84 (Q11 [(16,0)])
 intro b11 hb11;have h:=h11;try rw [← hb11] at h
 clear h11;try dsimp only at h
 refine Q3 (runQ hN fun K hK=>?_);simp;repeat refine sdQ ?_
 refine hK _ (tn (Q7 (st':=⟨[(2,.own 0 0 b11.length),(3,iV 0)],[(0,.row 1 (Es eL b11))],1⟩) (Q11 [(0,0)]) (Qo ?_)));clear hK K;have hr:=Option.some.inj h;rw [← hr];refine ⟨_,(.tmp (.tmp .nil)),?_⟩;refine ⟨(.one rfl rfl (.one rfl rfl .nil)),[.lst true 1 (Es eL b11),iV 0],[0],by simp [Cat.cells,Fn.cells,Prf.cells,XL32Composite.cells,UA,U1,IA,I1,LA,L1,BA,B1,EA,E1,E2,eB,eI,eL,Q8 _ Qs _ (fun _=>rfl),Q8 _ (fun x=>[.lst true 1 (Es eL x)]) _ (fun _=>rfl)],by simp,(UpL.refl _)⟩
section
attribute [local simp] Ql QX QD Q1e QR
noncomputable def filD (n m:Nat) (F Z:Nat→Nat→List Int) (X:List Int) (x z:Nat):List (List (List Int)):=tab n fun x'=>tab m fun z'=>if x' < x∨(x'=x∧z' < z) then F x' z' else if x'=x∧z'=z then X else Z x' z'
theorem tab_set {α:Type} (n:Nat) (f:Nat→α) (i:Nat) (v:α):(tab n f).set i v=tab n fun j=>if j=i then v else f j:=by
 apply List.ext_getElem
 ·simp
 intro j h1 h2;rw [List.getElem_set];simp only [tab,List.getElem_map,List.getElem_range]
 by_cases q:i=j
 ·rw [if_pos q,if_pos q.symm]
 rw [if_neg q,if_neg (fun e=>q e.symm)]
theorem filD_row {n m:Nat} {F Z:Nat→Nat→List Int} {X:List Int} {x z:Nat} (hx:x<n) (hz:z<m):rx (gx (filD n m F Z X x z) x) z=X:=by
 unfold filD;rw [Q1Z _ hx,Q3z _ hz,if_neg (by omega),if_pos ⟨rfl,rfl⟩]
theorem filD_len {n m:Nat} {F Z:Nat→Nat→List Int} {X:List Int} {x z:Nat} (hx:x<n):(filD n m F Z X x z).length=n∧(gx (filD n m F Z X x z) x).length=m:=by
 unfold filD;rw [Q1Z _ hx];simp
theorem filD_set {n m:Nat} {F Z:Nat→Nat→List Int} {X Y:List Int} {x z:Nat} (hx:x<n):(filD n m F Z X x z).set x ((gx (filD n m F Z X x z) x).set z Y)=filD n m F Z Y x z:=by
 unfold filD;rw [Q1Z _ hx,tab_set,tab_set];refine Q1f fun i _=>?_
 by_cases q:i=x
 ·subst q;rw [if_pos rfl];refine Q1f fun j _=>?_
  by_cases w:j=z
  ·subst w;rw [if_pos rfl,if_neg (by omega),if_pos ⟨rfl,rfl⟩]
  rw [if_neg w]
  by_cases e:i<i∨i=i∧j<z
  ·rw [if_pos e,if_pos e]
  rw [if_neg e,if_neg e,if_neg (by omega),if_neg (by omega)]
 rw [if_neg q];refine Q1f fun j _=>?_
 by_cases e:i<x∨i=x∧j<z
 ·rw [if_pos e,if_pos e]
 rw [if_neg e,if_neg e,if_neg (by omega),if_neg (by omega)]
theorem filD_next {n m:Nat} {F Z:Nat→Nat→List Int} {x z:Nat}:filD n m F Z (F x z) x z=filD n m F Z (Z x (z+1)) x (z+1):=by
 unfold filD;refine Q1f fun i _=>Q1f fun j _=>?_
 by_cases q:i<x∨i=x∧j<z
 ·rw [if_pos q,if_pos (by omega)]
 rw [if_neg q]
 by_cases w:i=x∧j=z
 ·rw [if_pos w,if_pos (by omega),w.1,w.2]
 rw [if_neg w,if_neg (by omega)]
 by_cases e:i=x∧j=z+1
 ·rw [if_pos e,e.1,e.2]
 rw [if_neg e]
theorem filD_up {n m:Nat} {F Z:Nat→Nat→List Int} {X:List Int} {x:Nat}:filD n m F Z X x m=filD n m F Z (Z (x+1) 0) (x+1) 0:=by
 unfold filD;refine Q1f fun i _=>Q1f fun j hj=>?_
 by_cases q:i<x∨i=x∧j<m
 ·rw [if_pos q,if_pos (by omega)]
 rw [if_neg q,if_neg (by omega),if_neg (by omega)]
 by_cases e:i=x+1∧j=0
 ·rw [if_pos e,e.1,e.2]
 rw [if_neg e]
theorem filD_zero {n m:Nat} {F Z:Nat→Nat→List Int}:filD n m F Z (Z 0 0) 0 0=tab n fun x=>tab m fun z=>Z x z:=by
 unfold filD;refine Q1f fun i _=>Q1f fun j hj=>?_;rw [if_neg (by omega)]
 by_cases e:i=0∧j=0
 ·rw [if_pos e,e.1,e.2]
 rw [if_neg e]
theorem filD_end {n m:Nat} {F Z:Nat→Nat→List Int} {X:List Int} {z:Nat}:filD n m F Z X n z=tab n fun x=>tab m fun z=>F x z:=by
 unfold filD;refine Q1f fun i hi=>Q1f fun j hj=>?_;rw [if_pos (by omega)]
theorem Q65 {f:Fn} (hf:f.Is):NT f (Q1a f.t)∧NT (Q1a f.t) f∧PQ (natP f (Q1a f.t)) (natP (Q1a f.t) f)∧PQ (natP (Q1a f.t) f) (natP f (Q1a f.t)):=by
 have n1:NT f (Q1a f.t):=⟨hf,Q7t hf.t,rfl⟩;have n2:NT (Q1a f.t) f:=⟨Q7t hf.t,hf,rfl⟩;exact ⟨n1,n2,⟨Q8c n1,Q8c n2,rfl⟩,⟨Q8c n2,Q8c n1,rfl⟩⟩
theorem e_compa {f:Fn} (hf:f.Is):Q2B f=some (natP f (Q1a f.t))∧Q32 f=some (natP (Q1a f.t) f):=by
 obtain ⟨n1,n2,_⟩:=Q65 hf;unfold Q2B Q32;rw [Qaa hf.t];simp only [Option.bind_some];rw [Q7N n1,Q7N n2];exact ⟨rfl,rfl⟩
theorem Q7u {c:Cat} (hc:c.Is) {y:Nat} (hy:y<c.id.length):ix (Q1a c).ob y=(y:Int):=by
 have n:=hc.nums;show ix (iota c.n.toNat) y=_;exact Q2c _ (by omega) (by omega)
theorem Q94 {c:Cat} (hc:c.Is):(Q1a c).ob.length=c.id.length:=by
 have n:=hc.nums;have e:(Q1a c).ob.length=c.n.toNat:=by simp [Q1a]
 omega
theorem sz_comp {f:Fn} (hf:f.Is) {x y:Nat} (hx:x<f.s.id.length) (hy:y<f.t.id.length):szx (natP f (Q1a f.t)) x y=(homL f.t (ix f.ob x) y).length:=by
 obtain ⟨n1,n2,_⟩:=Q65 hf;have o:=n1.obn;have a:=hf.s.nums;have b:=hf.t.nums;have lo:=Q94 hf.t;unfold szx;rw [Q4q (by omega) (by omega)];unfold natS;rw [Q7u hf.t hy];simp
theorem sz_conj {f:Fn} (hf:f.Is) {x y:Nat} (hx:x<f.s.id.length) (hy:y<f.t.id.length):szz (natP (Q1a f.t) f) x y=(homL f.t y (ix f.ob x)).length:=by
 obtain ⟨n1,n2,_⟩:=Q65 hf;have o:=n1.obn;have a:=hf.s.nums;have b:=hf.t.nums;have lo:=Q94 hf.t;unfold szz;rw [Q4q (by omega) (by omega)];unfold natS;rw [Q7u hf.t hy];simp [Q1a]
theorem Qap {f:Fn} (hf:f.Is) {x:Nat} (hx:x<f.s.id.length):(x:Int)<(f.ob.length:Int)∧ix f.ob x=((ix f.ob x).toNat:Int)∧(ix f.ob x).toNat<f.t.id.length:=by
 have o:(f.ob.length:Int)=f.s.n:=hf.lo;have a:=hf.s.nums;have b:=hf.t.nums;have g:=hf.ob x (by omega);omega
noncomputable def cuE (f:Fn) (x:Nat):Int:=idxL (homL f.t (ix f.ob x) (ix f.ob x)) (ix f.t.id (ix f.ob x))
noncomputable def cuT (f:Fn) (x z:Nat) (k:Int):Int:=idxL (homL f.t (ix f.ob x) (ix f.ob z)) (ix f.ar k)
noncomputable def cuV (f:Fn) (x z:Nat) (k:Int):Int:=Q8G (natP f (Q1a f.t)) (natP (Q1a f.t) f) x z (ix f.ob x).toNat (cuE f x).toNat (cuT f x z k).toNat
theorem u_in {f:Fn} (hf:f.Is) {x z:Nat} (hx:x<f.s.id.length) (hz:z<f.s.id.length) {k:Int} (hk:Ar f.s k x z):(0≤cuE f x∧(cuE f x).toNat<szx (natP f (Q1a f.t)) x (ix f.ob x).toNat)∧(0≤cuT f x z k∧(cuT f x z k).toNat<szz (natP (Q1a f.t) f) z (ix f.ob x).toNat)∧(0≤k∧k<(f.ar.length:Int))∧(0≤ix f.ob x∧ix f.ob x<(f.t.id.length:Int)):=by
 obtain ⟨a1,a2,a3⟩:=Qap hf hx;obtain ⟨b1,b2,b3⟩:=Qap hf hz;have b:=hf.t.nums;rw [sz_comp hf hx a3,sz_conj hf hz a3,← a2];have i1:=Q7g (Q7f (q_id hf.t (x:=ix f.ob x) (by omega)));have la:=hf.la;have kk:0≤k∧k<(f.ar.length:Int):=by have:=hk.1;omega
 obtain ⟨j,rfl⟩:=Int.eq_ofNat_of_zero_le kk.1;have ar:=hf.arr (a:=j) (by omega);rw [hk.2.1,hk.2.2] at ar;have i2:=Q7g (Q7f ar);unfold cuE cuT;omega
noncomputable def cuL (f:Fn):List (List (List Int)):=tab f.s.id.length fun x=>tab f.s.id.length fun z=>(homL f.s x z).map (cuV f x z)
theorem take_snoc {L:List Int} {i:Nat} (h:i<L.length):L.take (i+1)=L.take i++[ix L i]:=by rw [List.take_succ_eq_append_getElem h,Q2d _ _ h]
set_option maxHeartbeats 2000000 in
theorem e_sUnit {f:Fn} (hf:f.Is):Q1l f=some (if bo (OKc (natP f (Q1a f.t)) (natP (Q1a f.t) f))=true then (cuL f,0) else ([],3)):=by
 obtain ⟨n1,n2,pq,_⟩:=Q65 hf;have a:=hf.s.nums;have b:=hf.t.nums;unfold Q1l;rw [e_l06Is,Q2I hf];simp only [Option.bind_some,not_true_eq_false,if_false];rw [Q7M hf.t];simp only [Option.bind_some];rw [Q7c n1,Q7c n2];simp only [Option.bind_some];rw [e_l32Make pq,mkL];simp only [Option.bind_some]
 by_cases ok:OKc (natP f (Q1a f.t)) (natP (Q1a f.t) f)
 case neg=>rw [if_neg ok,Q1i ok];simp
 rw [if_pos ok,Q2I ok];simp only [not_true_eq_false,if_false,if_true];unfold Q4G;have ns:NT (Q1a f.s) (Q1a f.s):=⟨Q7t hf.s,Q7t hf.s,rfl⟩;rw [Q7M hf.s];simp only [Option.bind_some];rw [Q7c ns];simp only [Option.bind_some];rw [Qab (Q8c ns).E];simp only [Option.bind_some];have ez:zerP (natP (Q1a f.s) (Q1a f.s))=tab f.s.id.length fun x=>tab f.s.id.length fun z=>List.replicate (homL f.s x z).length 0:=by
  unfold zerP;have e1:(natP (Q1a f.s) (Q1a f.s)).s.n.toNat=f.s.id.length:=by show f.s.n.toNat=_;omega
  have e2:(natP (Q1a f.s) (Q1a f.s)).t.n.toNat=f.s.id.length:=by show f.s.n.toNat=_;omega
  rw [e1,e2];refine Q1f fun x hx=>Q1f fun z hz=>?_;have lo:=Q94 hf.s;rw [Q4q (by omega) (by omega)];unfold natS;rw [Q7u hf.s hx,Q7u hf.s hz];simp [Q1a]
 rw [ez];generalize hF:(fun x z:Nat=>(homL f.s x z).map (cuV f x z))=F;have eF:∀ x z,F x z=(homL f.s x z).map (cuV f x z):=fun x z=>by rw [← hF]
 refine QZ f.s.id.length (fun x=>filD f.s.id.length f.s.id.length F (fun x z=>List.replicate (homL f.s x z).length 0) (List.replicate (homL f.s x 0).length 0) x 0) (e:=cuL f) (by rw [← filD_zero];rfl) (by omega) (fun x hx=>?_) (by simp only;rw [if_neg (by omega),filD_end];unfold cuL;simp only [eF]) rfl;obtain ⟨a1,a2,a3⟩:=Qap hf hx;simp only;rw [if_pos (by omega),Option.bind_assoc];refine QZ f.s.id.length (fun z=>filD f.s.id.length f.s.id.length F (fun x z=>List.replicate (homL f.s x z).length 0) (List.replicate (homL f.s x z).length 0) x z) (e:=filD f.s.id.length f.s.id.length F (fun x z=>List.replicate (homL f.s x z).length 0) (List.replicate (homL f.s (x+1:Nat) 0).length 0) (x+1) 0) rfl (by omega) (fun z hz=>?_) (by simp only;rw [if_neg (by omega),filD_up];rfl) ?_
 ·obtain ⟨b1,b2,b3⟩:=Qap hf hz;simp only;rw [if_pos (by omega),(Q4b hf.s _ _).1];simp only [Option.bind_some];rw [Q6 (by omega),Option.bind_assoc];refine QZ (homL f.s x z).length (fun i=>filD f.s.id.length f.s.id.length F (fun x z=>List.replicate (homL f.s x z).length 0) (((homL f.s x z).take i).map (cuV f x z)++List.replicate ((homL f.s x z).length - i) 0) x z) (e:=filD f.s.id.length f.s.id.length F (fun x z=>List.replicate (homL f.s x z).length 0) (List.replicate (homL f.s x (z+1:Nat)).length 0) x (z+1)) (by simp) (by have:=Q1r f.s x z;omega) (fun i hi=>?_) ?_ ?_
  ·have ar:=Q5E hi;have l0:=Q1r f.s x z;obtain ⟨⟨u1,u2⟩,⟨u3,u4⟩,u5,u6⟩:=u_in hf hx hz ar;have l1:=Q1r f.t (ix f.ob x) (ix f.ob x);have l2:=Q1r f.t (ix f.ob x) (ix f.ob z);obtain ⟨d1,d2⟩:=filD_len (n:=f.s.id.length) (m:=f.s.id.length) (F:=F) (Z:=fun x z=>List.replicate (homL f.s x z).length 0) (X:=((homL f.s x z).take i).map (cuV f x z)++List.replicate ((homL f.s x z).length - i) 0) (z:=z) hx;simp only;rw [if_pos (by omega),(Q4b hf.t _ _).1];simp only [Option.bind_some];rw [Q6 u6,Q52 (by omega)];simp only [Option.bind_some];rw [Q6 (by omega),(Q4b hf.t _ _).1];simp only [Option.bind_some];rw [Q6 (by omega),Q6 u5,Q52 (by omega)];simp only [Option.bind_some];rw [Q6 (by omega),Q6 (by omega)]
   change ((QH _ _ _ [ix f.ob x,cuE f x,cuT f x z (ix (homL f.s x z) i)]).bind _)=_
   rw [show [ix f.ob x,cuE f x,cuT f x z (ix (homL f.s x z) i)]=[((ix f.ob x).toNat:Int),((cuE f x).toNat:Int),((cuT f x z (ix (homL f.s x z) i)).toNat:Int)] by rw [← a2,Int.toNat_of_nonneg u1,Int.toNat_of_nonneg u3],Q5l pq rfl rfl hx hz a3 u2 u4];simp only [Option.bind_some];rw [filD_row hx hz,Q6 (by simp;omega),Q6 (by unfold B64;omega)];simp only [Int.toNat_natCast];rw [filD_set hx,show (homL f.s x z).length - i=((homL f.s x z).length - (i+1))+1 by omega,Q5a _ _ _ _ (by simp;omega),take_snoc hi,List.map_append];rfl
  ·simp only;rw [if_neg (by omega),List.take_length,Nat.sub_self,List.replicate_zero,List.append_nil,← eF,filD_next]
  simp only [Option.bind_some];rw [Q6 (by unfold B64;omega)]
 simp only [Option.bind_some];rw [Q6 (by unfold B64;omega)]
theorem e_iUnit {f:Fn} (hf:f.Is):Q1k f=some (if bo (OKc (natP f (Q1a f.t)) (natP (Q1a f.t) f))=true then (cuL f,0) else ([],3)):=by
 obtain ⟨n1,n2,pq,_⟩:=Q65 hf;have a:=hf.s.nums;have b:=hf.t.nums;unfold Q1k;rw [Q66,Q2I hf];simp only [Option.bind_some,not_true_eq_false,if_false];rw [(e_compa hf).1,(e_compa hf).2];simp only [Option.bind_some];obtain ⟨r,er,h⟩:=e_compose pq;rw [er];simp only [Option.bind_some];rcases h with ⟨ok,rfl⟩|⟨no,rfl|rfl⟩
 ·rw [Q2I ok];unfold cmpR;simp only [not_true_eq_false,if_false,if_true];unfold QF;simp only;rw [Option.bind_assoc];refine tabg f.s.id.length (fun x=>tab f.s.id.length fun z=>(homL f.s x z).map (cuV f x z)) (e:=cuL f) (by omega) (fun x hx=>?_) (by simp only;rw [if_neg (by show ¬ ((f.s.id.length:Int)<f.s.n);omega)];rfl) rfl;obtain ⟨a1,a2,a3⟩:=Qap hf hx;simp only;rw [if_pos (by show (x:Int)<f.s.n;omega)];refine tabg f.s.id.length (fun z=>(homL f.s x z).map (cuV f x z)) (e:=tab f.s.id.length fun z=>(homL f.s x z).map (cuV f x z)) (by omega) (fun z hz=>?_) (by simp only;rw [if_neg (by show ¬ ((f.s.id.length:Int)<f.s.n);omega)]) rfl;obtain ⟨b1,b2,b3⟩:=Qap hf hz;simp only;rw [if_pos (by show (z:Int)<f.s.n;omega)];have one:∀ k:XComposite,k.triples_=Q4f (natP f (Q1a f.t)) (natP (Q1a f.t) f)→k.classes_=tabC (natP f (Q1a f.t)) (natP (Q1a f.t) f)→QL x z f f.s f.t k=some ((homL f.s x z).map (cuV f x z)):=by
   intro k hk1 hk2;unfold QL;rw [Q6 (by omega),(Q4b hf.s _ _).2];simp only [Option.bind_some];have l0:=Q1r f.s x z;refine Q57 (homL f.s x z) (cuV f x z) (e:=(homL f.s x z).map (cuV f x z)) (by omega) (fun i acc hi hl=>?_) (by simp only;rw [if_neg (by omega)]) rfl;have ar:=Q5E hi;obtain ⟨⟨u1,u2⟩,⟨u3,u4⟩,u5,u6⟩:=u_in hf hx hz ar;have l1:=Q1r f.t (ix f.ob x) (ix f.ob x);have l2:=Q1r f.t (ix f.ob x) (ix f.ob z);simp only;rw [if_pos (by omega),Q6 (by omega),(Q4b hf.t _ _).2];simp only [Option.bind_some];rw [Q6 u6,Q7b (by omega)];simp only [Option.bind_some];rw [Q6 (by omega),(Q4b hf.t _ _).2];simp only [Option.bind_some];rw [Q6 u5,Q7b (by omega)];simp only [Option.bind_some]
   change ((QU _ _ _ ⟨ix f.ob x,cuE f x,cuT f x z (ix (homL f.s x z) i)⟩).bind _)=_
   rw [show (⟨ix f.ob x,cuE f x,cuT f x z (ix (homL f.s x z) i)⟩:XTripleint64)=⟨((ix f.ob x).toNat:Int),((cuE f x).toNat:Int),((cuT f x z (ix (homL f.s x z) i)).toNat:Int)⟩ by rw [← a2,Int.toNat_of_nonneg u1,Int.toNat_of_nonneg u3],Q4S pq hk1 hk2 hx hz a3 u2 u4];simp only [Option.bind_some];rw [Q6 (by simp;omega),Q6 (by unfold B64;omega)];rfl
  rw [one _ rfl rfl];simp only [Option.bind_some]
 ·rw [Q1i no];simp
 rw [Q1i no];simp [cmpR]
end
section
attribute [local simp] Ql QX QD Q1e QR
theorem coN_ok {L:List (List (List Int))} {n m k:Nat} (hn:n≤8) (hm:m≤8) (hk:k≤100000) {v:Nat→Nat→List Int} (hv:∀ x z,x<n→z<m→(v x z).length≤k) (e:L=tab n fun x=>tab m fun z=>v x z):L.length≤1048576∧okN L∧sumN L≤8 * (8 * k):=by
 subst e;refine ⟨by simp;omega,fun a ha=>?_,?_⟩
 ·obtain ⟨x,hx,rfl⟩:=Q6h ha;refine ⟨by simp;omega,fun b hb=>?_⟩;obtain ⟨z,hz,rfl⟩:=Q6h hb;have:=hv x z hx hz;omega
 have h1:∀ a∈(tab n fun x=>tab m fun z=>v x z),sumL a≤8 * k:=fun a ha=>by
  obtain ⟨x,hx,rfl⟩:=Q6h ha;have:=sumL_bnd (m:=k) (x:=tab m fun z=>v x z) fun b hb=>by
   obtain ⟨z,hz,rfl⟩:=Q6h hb;exact hv x z hx hz
  have h2:(tab m fun z=>v x z).length * k≤8 * k:=Nat.mul_le_mul_right k (by simp;omega);omega
 have:∀ (L:List (List (List Int))) (q:Nat),(∀ a∈L,sumL a≤q)→sumN L≤L.length * q:=by
  intro L q
  induction L with
  | nil=>intro _;simp [sumN]
  | cons a r ih =>
   intro h;have h3:=ih fun b hb=>h b (by simp [hb]);have h4:=h a (by simp);have e1:sumN (a :: r)=sumL a+sumN r:=(by simp [sumN]);rw [e1,List.length_cons,Nat.succ_mul];omega
 have h5:=this _ _ h1;have h6:(tab n fun x=>tab m fun z=>v x z).length * (8 * k)≤8 * (8 * k):=Nat.mul_le_mul_right _ (by simp;omega);omega
theorem Q6f (f:Fn):∃ r,Q1l f=some r∧Q1k f=some r∧(r.1.length≤1048576∧okN r.1)∧sumN r.1≤10000000:=by
 by_cases hf:f.Is
 case neg =>
  unfold Q1l Q1k;rw [e_l06Is,Q66,Q1i hf];exact ⟨([],1),rfl,rfl,⟨by simp,by simp [okN]⟩,by simp [sumN]⟩
 refine ⟨_,e_sUnit hf,e_iUnit hf,?_⟩;have a:=hf.s.nums
 by_cases ok:OKc (natP f (Q1a f.t)) (natP (Q1a f.t) f)
 ·rw [Q2I ok,if_pos rfl];obtain ⟨q1,q2,q3⟩:=coN_ok (L:=cuL f) (k:=40) (by omega) (by omega) (by omega) (fun x z _ _=>by have:=Q1r f.s x z;simp;omega) rfl;exact ⟨⟨q1,q2⟩,by simp only;omega⟩
 rw [Q1i ok];exact ⟨⟨by simp,by simp [okN]⟩,by simp [sumN]⟩
end
end Go.Vc.T
