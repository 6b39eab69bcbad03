/- A part of the proof: a verified generator of conditions, and what each function of the program does. -/
import Derived.Test.YtkafionfghoggaaT6
set_option maxRecDepth 100000
set_option linter.unusedSimpArgs false
set_option linter.unusedVariables false

set_option maxRecDepth 100000
set_option linter.unusedSimpArgs false
set_option linter.unusedVariables false
namespace Go.Vc.T
open Go Go.Vc Go.Proofs
noncomputable def s_i_Adjunction_fits (a_ : Adj) : Option Bool :=
 (s_i_Functor_then a_.l a_.r).bind fun v1 =>
 (s_i_Functor_then a_.r a_.l).bind fun v2 =>
 (s_i_identity a_.l.s).bind fun v3 =>
 (s_i_identity a_.l.t).bind fun v4 =>
 (s_i_areNatural [(⟨v3, v1, a_.u⟩ : Tra), (⟨v2, v4, a_.k⟩ : Tra)]).bind fun v5 =>
 if ¬ (v5 = true) then
   some false
 else
   (loopF (σ := Int) (ε := Unit ⊕ Bool) (fun s17 =>
     if s17 < (a_.l.ob.length : Int) then
       ass (0 ≤ s17 ∧ s17 < (a_.l.ob.length : Int)) <|
       ass (0 ≤ s17 ∧ s17 < (a_.u.length : Int)) <|
       ass (0 ≤ ix a_.u s17 ∧ ix a_.u s17 < (a_.l.ar.length : Int)) <|
       ass (0 ≤ ix a_.l.ob s17 ∧ ix a_.l.ob s17 < (a_.k.length : Int)) <|
       (s_i_Category_then a_.l.t (ix a_.l.ar (ix a_.u s17)) (ix a_.k (ix a_.l.ob s17))).bind fun v23 =>
       ass (0 ≤ ix a_.l.ob s17 ∧ ix a_.l.ob s17 < (a_.l.t.id.length : Int)) <|
       if ¬ (v23 = (ix a_.l.t.id (ix a_.l.ob s17))) then
         some (Ctl.ret (Sum.inr false))
       else
         ass (B64 (s17 + 1)) <|
         some (Ctl.next (s17 + 1))
     else
       some (Ctl.ret (Sum.inl ()))) fuel 0).bind fun e7 =>
   match e7 with
   | .inl b7 =>
     (loopF (σ := Int) (ε := Unit ⊕ Bool) (fun s37 =>
       if s37 < (a_.r.ob.length : Int) then
         ass (0 ≤ s37 ∧ s37 < (a_.r.ob.length : Int)) <|
         ass (0 ≤ ix a_.r.ob s37 ∧ ix a_.r.ob s37 < (a_.u.length : Int)) <|
         ass (0 ≤ s37 ∧ s37 < (a_.k.length : Int)) <|
         ass (0 ≤ ix a_.k s37 ∧ ix a_.k s37 < (a_.r.ar.length : Int)) <|
         (s_i_Category_then a_.l.s (ix a_.u (ix a_.r.ob s37)) (ix a_.r.ar (ix a_.k s37))).bind fun v43 =>
         ass (0 ≤ ix a_.r.ob s37 ∧ ix a_.r.ob s37 < (a_.l.s.id.length : Int)) <|
         if ¬ (v43 = (ix a_.l.s.id (ix a_.r.ob s37))) then
           some (Ctl.ret (Sum.inr false))
         else
           ass (B64 (s37 + 1)) <|
           some (Ctl.next (s37 + 1))
       else
         some (Ctl.ret (Sum.inl ()))) fuel 0).bind fun e27 =>
     match e27 with
     | .inl b27 =>
       some true
     | .inr p27 =>
       some p27
   | .inr p7 =>
     some p7
set_option maxHeartbeats 4000000 in
theorem w_i_Adjunction_fits (a_ : Adj) (r : Bool) (h : s_i_Adjunction_fits a_ = some r) : Contract Try.prog 174 [.rptr (a_.cells true)] (.val (.bool r)) := by
 refine contract_introG (rvs := [.tmp 2]) (rs := [.val (.bool r)]) Try.func174 rfl rfl rfl rfl (by simp [Try.f174]) fun F hN hP => ?_
 unfold s_i_Adjunction_fits at h
 refine w_seq ?_
 refine w_run mo (by rw [hN]; decide) fun K hK => ?_
 simp [-guardE_b, -Is_at, -Is_at', -Ls_at, -Ls_at', eL, eI, allInts, eP_Adj, eP_Cat, eP_Fn, eP_Tra, Adj.cells, Cat.cells, Fn.cells, Tra.cells]
 repeat (with_reducible refine And.intro ?_ ?_; · first | assumption | omega | (simp; done) | (simp; omega) | simp_all)
 refine hK _ ?_
 clear hK K
 refine tn ?_
 refine w_weak (st' := ⟨[(0, .rptr (Adj.cells true a_))], [], 0⟩) (Wk.r1 [] (by simp [hP, hhOk, back, Adj.cells, Cat.cells, Fn.cells, Tra.cells, IA, I1, LA, L1, BA, B1, EA, E1, E2, eB, eI, eL])) ?_
 refine w_seq ?_
 refine w_run mo (by rw [hN]; decide) fun K hK => ?_
 simp [-guardE_b, -Is_at, -Is_at', -Ls_at, -Ls_at', eL, eI, allInts, eP_Adj, eP_Cat, eP_Fn, eP_Tra, Adj.cells, Cat.cells, Fn.cells, Tra.cells]
 repeat (with_reducible refine And.intro ?_ ?_; · first | assumption | omega | (simp; done) | (simp; omega) | simp_all)
 refine hK _ ?_
 clear hK K
 refine tn ?_
 refine w_weak (st' := ⟨[(0, .rptr (Adj.cells true a_)), (3, .rptr (Adj.cells true a_)), (4, .rptr [.val (.int .i64 a_.l.t.n), .lst true 1 (Is a_.l.t.fr), .lst true 1 (Is a_.l.t.to), .lst true 1 (Is a_.l.t.id), .lst true 1 (Ls a_.l.t.cs), .lst true 1 (Is a_.l.ob), .lst true 1 (Is a_.l.ar), .val (.int .i64 a_.r.s.n), .lst true 1 (Is a_.r.s.fr), .lst true 1 (Is a_.r.s.to), .lst true 1 (Is a_.r.s.id), .lst true 1 (Ls a_.r.s.cs), .val (.int .i64 a_.r.t.n), .lst true 1 (Is a_.r.t.fr), .lst true 1 (Is a_.r.t.to), .lst true 1 (Is a_.r.t.id), .lst true 1 (Ls a_.r.t.cs), .lst true 1 (Is a_.r.ob), .lst true 1 (Is a_.r.ar), .lst true 1 (Is a_.u), .lst true 1 (Is a_.k)])], [], 0⟩) (Wk.r1 [] (by simp [hP, hhOk, back, Adj.cells, Cat.cells, Fn.cells, Tra.cells, IA, I1, LA, L1, BA, B1, EA, E1, E2, eB, eI, eL])) ?_
 refine w_seq ?_
 refine w_run mo (by rw [hN]; decide) fun K hK => ?_
 simp [-guardE_b, -Is_at, -Is_at', -Ls_at, -Ls_at', eL, eI, allInts, eP_Adj, eP_Cat, eP_Fn, eP_Tra, Adj.cells, Cat.cells, Fn.cells, Tra.cells]
 repeat (with_reducible refine And.intro ?_ ?_; · first | assumption | omega | (simp; done) | (simp; omega) | simp_all)
 replace h := bind_some h
 obtain ⟨v1, hv1, h⟩ := h
 refine callA_intro (w_i_Functor_then _ _ v1 hv1) (.cons (.preT (by simp [Adj.cells, Fn.cells])) (.cons (.preT (by simp [Adj.cells, Fn.cells])) .nil)) ?_
 simp [-guardE_b, -Is_at, -Is_at', -Ls_at, -Ls_at', unk, unA, unE, unT, unC, flat, eL, eI, allInts, eP_Adj, eP_Cat, eP_Fn, eP_Tra, Adj.cells, Cat.cells, Fn.cells, Tra.cells]
 repeat (with_reducible refine And.intro ?_ ?_; · first | assumption | omega | (simp; done) | (simp; omega) | simp_all)
 replace h := bind_some h
 obtain ⟨v2, hv2, h⟩ := h
 refine callA_intro (w_i_Functor_then _ _ v2 hv2) (.cons (.preT (by simp [Adj.cells, Fn.cells])) (.cons (.preT (by simp [Adj.cells, Fn.cells])) .nil)) ?_
 simp [-guardE_b, -Is_at, -Is_at', -Ls_at, -Ls_at', unk, unA, unE, unT, unC, flat, eL, eI, allInts, eP_Adj, eP_Cat, eP_Fn, eP_Tra, Adj.cells, Cat.cells, Fn.cells, Tra.cells]
 repeat (with_reducible refine And.intro ?_ ?_; · first | assumption | omega | (simp; done) | (simp; omega) | simp_all)
 refine hK _ ?_
 clear hK K
 refine tn ?_
 refine w_weak (st' := ⟨[(0, .rptr (Adj.cells true a_)), (3, .rptr (Adj.cells true a_)), (4, .rptr [.val (.int .i64 a_.l.t.n), .lst true 1 (Is a_.l.t.fr), .lst true 1 (Is a_.l.t.to), .lst true 1 (Is a_.l.t.id), .lst true 1 (Ls a_.l.t.cs), .lst true 1 (Is a_.l.ob), .lst true 1 (Is a_.l.ar), .val (.int .i64 a_.r.s.n), .lst true 1 (Is a_.r.s.fr), .lst true 1 (Is a_.r.s.to), .lst true 1 (Is a_.r.s.id), .lst true 1 (Ls a_.r.s.cs), .val (.int .i64 a_.r.t.n), .lst true 1 (Is a_.r.t.fr), .lst true 1 (Is a_.r.t.to), .lst true 1 (Is a_.r.t.id), .lst true 1 (Ls a_.r.t.cs), .lst true 1 (Is a_.r.ob), .lst true 1 (Is a_.r.ar), .lst true 1 (Is a_.u), .lst true 1 (Is a_.k)]), (5, .adr 0 0 0), (6, .adr 11 0 0)], [(0, .mix 12 [[.val (.int .i64 v1.s.n), .own 1 0 v1.s.fr.length, .own 2 0 v1.s.to.length, .own 3 0 v1.s.id.length, .own 4 0 v1.s.cs.length, .val (.int .i64 v1.t.n), .own 5 0 v1.t.fr.length, .own 6 0 v1.t.to.length, .own 7 0 v1.t.id.length, .own 8 0 v1.t.cs.length, .own 9 0 v1.ob.length, .own 10 0 v1.ar.length]]), (1, .row 1 (Is v1.s.fr)), (2, .row 1 (Is v1.s.to)), (3, .row 1 (Is v1.s.id)), (4, .row 1 (Ls v1.s.cs)), (5, .row 1 (Is v1.t.fr)), (6, .row 1 (Is v1.t.to)), (7, .row 1 (Is v1.t.id)), (8, .row 1 (Ls v1.t.cs)), (9, .row 1 (Is v1.ob)), (10, .row 1 (Is v1.ar)), (11, .mix 12 [[.val (.int .i64 v2.s.n), .own 12 0 v2.s.fr.length, .own 13 0 v2.s.to.length, .own 14 0 v2.s.id.length, .own 15 0 v2.s.cs.length, .val (.int .i64 v2.t.n), .own 16 0 v2.t.fr.length, .own 17 0 v2.t.to.length, .own 18 0 v2.t.id.length, .own 19 0 v2.t.cs.length, .own 20 0 v2.ob.length, .own 21 0 v2.ar.length]]), (12, .row 1 (Is v2.s.fr)), (13, .row 1 (Is v2.s.to)), (14, .row 1 (Is v2.s.id)), (15, .row 1 (Ls v2.s.cs)), (16, .row 1 (Is v2.t.fr)), (17, .row 1 (Is v2.t.to)), (18, .row 1 (Is v2.t.id)), (19, .row 1 (Ls v2.t.cs)), (20, .row 1 (Is v2.ob)), (21, .row 1 (Is v2.ar))], 22⟩) (Wk.r1 [(24, 0), (1, 1), (2, 2), (3, 3), (4, 4), (6, 5), (7, 6), (8, 7), (9, 8), (10, 9), (11, 10), (25, 11), (13, 12), (14, 13), (15, 14), (16, 15), (18, 16), (19, 17), (20, 18), (21, 19), (22, 20), (23, 21)] (by simp [hP, hhOk, back, Adj.cells, Cat.cells, Fn.cells, Tra.cells, IA, I1, LA, L1, BA, B1, EA, E1, E2, eB, eI, eL])) ?_
 refine w_seq ?_
 refine w_run mo (by rw [hN]; decide) fun K hK => ?_
 simp [-guardE_b, -Is_at, -Is_at', -Ls_at, -Ls_at', eL, eI, allInts, eP_Adj, eP_Cat, eP_Fn, eP_Tra, Adj.cells, Cat.cells, Fn.cells, Tra.cells]
 repeat (with_reducible refine And.intro ?_ ?_; · first | assumption | omega | (simp; done) | (simp; omega) | simp_all)
 replace h := bind_some h
 obtain ⟨v3, hv3, h⟩ := h
 refine callA_intro (w_i_identity _ v3 hv3) (.cons (.preT (by simp [Adj.cells, Cat.cells, Fn.cells])) .nil) ?_
 simp [-guardE_b, -Is_at, -Is_at', -Ls_at, -Ls_at', unk, unA, unE, unT, unC, flat, eL, eI, allInts, eP_Adj, eP_Cat, eP_Fn, eP_Tra, Adj.cells, Cat.cells, Fn.cells, Tra.cells]
 repeat (with_reducible refine And.intro ?_ ?_; · first | assumption | omega | (simp; done) | (simp; omega) | simp_all)
 replace h := bind_some h
 obtain ⟨v4, hv4, h⟩ := h
 refine callA_intro (w_i_identity _ v4 hv4) (.cons (.preT (by simp [Adj.cells, Cat.cells, Fn.cells])) .nil) ?_
 simp [-guardE_b, -Is_at, -Is_at', -Ls_at, -Ls_at', unk, unA, unE, unT, unC, flat, eL, eI, allInts, eP_Adj, eP_Cat, eP_Fn, eP_Tra, Adj.cells, Cat.cells, Fn.cells, Tra.cells]
 repeat (with_reducible refine And.intro ?_ ?_; · first | assumption | omega | (simp; done) | (simp; omega) | simp_all)
 refine hK _ ?_
 clear hK K
 refine tn ?_
 refine w_weak (st' := ⟨[(0, .rptr (Adj.cells true a_)), (3, .rptr (Adj.cells true a_)), (4, .rptr [.val (.int .i64 a_.l.t.n), .lst true 1 (Is a_.l.t.fr), .lst true 1 (Is a_.l.t.to), .lst true 1 (Is a_.l.t.id), .lst true 1 (Ls a_.l.t.cs), .lst true 1 (Is a_.l.ob), .lst true 1 (Is a_.l.ar), .val (.int .i64 a_.r.s.n), .lst true 1 (Is a_.r.s.fr), .lst true 1 (Is a_.r.s.to), .lst true 1 (Is a_.r.s.id), .lst true 1 (Ls a_.r.s.cs), .val (.int .i64 a_.r.t.n), .lst true 1 (Is a_.r.t.fr), .lst true 1 (Is a_.r.t.to), .lst true 1 (Is a_.r.t.id), .lst true 1 (Ls a_.r.t.cs), .lst true 1 (Is a_.r.ob), .lst true 1 (Is a_.r.ar), .lst true 1 (Is a_.u), .lst true 1 (Is a_.k)]), (5, .adr 0 0 0), (6, .adr 11 0 0), (7, .adr 22 0 0), (8, .adr 33 0 0)], [(0, .mix 12 [[.val (.int .i64 v1.s.n), .own 1 0 v1.s.fr.length, .own 2 0 v1.s.to.length, .own 3 0 v1.s.id.length, .own 4 0 v1.s.cs.length, .val (.int .i64 v1.t.n), .own 5 0 v1.t.fr.length, .own 6 0 v1.t.to.length, .own 7 0 v1.t.id.length, .own 8 0 v1.t.cs.length, .own 9 0 v1.ob.length, .own 10 0 v1.ar.length]]), (1, .row 1 (Is v1.s.fr)), (2, .row 1 (Is v1.s.to)), (3, .row 1 (Is v1.s.id)), (4, .row 1 (Ls v1.s.cs)), (5, .row 1 (Is v1.t.fr)), (6, .row 1 (Is v1.t.to)), (7, .row 1 (Is v1.t.id)), (8, .row 1 (Ls v1.t.cs)), (9, .row 1 (Is v1.ob)), (10, .row 1 (Is v1.ar)), (11, .mix 12 [[.val (.int .i64 v2.s.n), .own 12 0 v2.s.fr.length, .own 13 0 v2.s.to.length, .own 14 0 v2.s.id.length, .own 15 0 v2.s.cs.length, .val (.int .i64 v2.t.n), .own 16 0 v2.t.fr.length, .own 17 0 v2.t.to.length, .own 18 0 v2.t.id.length, .own 19 0 v2.t.cs.length, .own 20 0 v2.ob.length, .own 21 0 v2.ar.length]]), (12, .row 1 (Is v2.s.fr)), (13, .row 1 (Is v2.s.to)), (14, .row 1 (Is v2.s.id)), (15, .row 1 (Ls v2.s.cs)), (16, .row 1 (Is v2.t.fr)), (17, .row 1 (Is v2.t.to)), (18, .row 1 (Is v2.t.id)), (19, .row 1 (Ls v2.t.cs)), (20, .row 1 (Is v2.ob)), (21, .row 1 (Is v2.ar)), (22, .mix 12 [[.val (.int .i64 v3.s.n), .own 23 0 v3.s.fr.length, .own 24 0 v3.s.to.length, .own 25 0 v3.s.id.length, .own 26 0 v3.s.cs.length, .val (.int .i64 v3.t.n), .own 27 0 v3.t.fr.length, .own 28 0 v3.t.to.length, .own 29 0 v3.t.id.length, .own 30 0 v3.t.cs.length, .own 31 0 v3.ob.length, .own 32 0 v3.ar.length]]), (23, .row 1 (Is v3.s.fr)), (24, .row 1 (Is v3.s.to)), (25, .row 1 (Is v3.s.id)), (26, .row 1 (Ls v3.s.cs)), (27, .row 1 (Is v3.t.fr)), (28, .row 1 (Is v3.t.to)), (29, .row 1 (Is v3.t.id)), (30, .row 1 (Ls v3.t.cs)), (31, .row 1 (Is v3.ob)), (32, .row 1 (Is v3.ar)), (33, .mix 12 [[.val (.int .i64 v4.s.n), .own 34 0 v4.s.fr.length, .own 35 0 v4.s.to.length, .own 36 0 v4.s.id.length, .own 37 0 v4.s.cs.length, .val (.int .i64 v4.t.n), .own 38 0 v4.t.fr.length, .own 39 0 v4.t.to.length, .own 40 0 v4.t.id.length, .own 41 0 v4.t.cs.length, .own 42 0 v4.ob.length, .own 43 0 v4.ar.length]]), (34, .row 1 (Is v4.s.fr)), (35, .row 1 (Is v4.s.to)), (36, .row 1 (Is v4.s.id)), (37, .row 1 (Ls v4.s.cs)), (38, .row 1 (Is v4.t.fr)), (39, .row 1 (Is v4.t.to)), (40, .row 1 (Is v4.t.id)), (41, .row 1 (Ls v4.t.cs)), (42, .row 1 (Is v4.ob)), (43, .row 1 (Is v4.ar))], 44⟩) (Wk.r1 [(0, 0), (1, 1), (2, 2), (3, 3), (4, 4), (5, 5), (6, 6), (7, 7), (8, 8), (9, 9), (10, 10), (11, 11), (12, 12), (13, 13), (14, 14), (15, 15), (16, 16), (17, 17), (18, 18), (19, 19), (20, 20), (21, 21), (46, 22), (23, 23), (24, 24), (25, 25), (26, 26), (28, 27), (29, 28), (30, 29), (31, 30), (32, 31), (33, 32), (47, 33), (35, 34), (36, 35), (37, 36), (38, 37), (40, 38), (41, 39), (42, 40), (43, 41), (44, 42), (45, 43)] (by simp [hP, hhOk, back, Adj.cells, Cat.cells, Fn.cells, Tra.cells, IA, I1, LA, L1, BA, B1, EA, E1, E2, eB, eI, eL])) ?_
 refine w_seq ?_
 refine w_run mo (by rw [hN]; decide) fun K hK => ?_
 simp [-guardE_b, -Is_at, -Is_at', -Ls_at, -Ls_at', eL, eI, allInts, eP_Adj, eP_Cat, eP_Fn, eP_Tra, Adj.cells, Cat.cells, Fn.cells, Tra.cells]
 repeat (with_reducible refine And.intro ?_ ?_; · first | assumption | omega | (simp; done) | (simp; omega) | simp_all)
 refine hK _ ?_
 clear hK K
 refine tn ?_
 refine w_weak (st' := ⟨[(0, .rptr (Adj.cells true a_)), (3, .rptr (Adj.cells true a_)), (4, .rptr [.val (.int .i64 a_.l.t.n), .lst true 1 (Is a_.l.t.fr), .lst true 1 (Is a_.l.t.to), .lst true 1 (Is a_.l.t.id), .lst true 1 (Ls a_.l.t.cs), .lst true 1 (Is a_.l.ob), .lst true 1 (Is a_.l.ar), .val (.int .i64 a_.r.s.n), .lst true 1 (Is a_.r.s.fr), .lst true 1 (Is a_.r.s.to), .lst true 1 (Is a_.r.s.id), .lst true 1 (Ls a_.r.s.cs), .val (.int .i64 a_.r.t.n), .lst true 1 (Is a_.r.t.fr), .lst true 1 (Is a_.r.t.to), .lst true 1 (Is a_.r.t.id), .lst true 1 (Ls a_.r.t.cs), .lst true 1 (Is a_.r.ob), .lst true 1 (Is a_.r.ar), .lst true 1 (Is a_.u), .lst true 1 (Is a_.k)]), (6, .adr 0 0 0), (8, .adr 11 0 0), (9, .adr 22 0 0)], [(0, .mix 12 [[.val (.int .i64 v2.s.n), .own 1 0 v2.s.fr.length, .own 2 0 v2.s.to.length, .own 3 0 v2.s.id.length, .own 4 0 v2.s.cs.length, .val (.int .i64 v2.t.n), .own 5 0 v2.t.fr.length, .own 6 0 v2.t.to.length, .own 7 0 v2.t.id.length, .own 8 0 v2.t.cs.length, .own 9 0 v2.ob.length, .own 10 0 v2.ar.length]]), (1, .row 1 (Is v2.s.fr)), (2, .row 1 (Is v2.s.to)), (3, .row 1 (Is v2.s.id)), (4, .row 1 (Ls v2.s.cs)), (5, .row 1 (Is v2.t.fr)), (6, .row 1 (Is v2.t.to)), (7, .row 1 (Is v2.t.id)), (8, .row 1 (Ls v2.t.cs)), (9, .row 1 (Is v2.ob)), (10, .row 1 (Is v2.ar)), (11, .mix 12 [[.val (.int .i64 v4.s.n), .own 12 0 v4.s.fr.length, .own 13 0 v4.s.to.length, .own 14 0 v4.s.id.length, .own 15 0 v4.s.cs.length, .val (.int .i64 v4.t.n), .own 16 0 v4.t.fr.length, .own 17 0 v4.t.to.length, .own 18 0 v4.t.id.length, .own 19 0 v4.t.cs.length, .own 20 0 v4.ob.length, .own 21 0 v4.ar.length]]), (12, .row 1 (Is v4.s.fr)), (13, .row 1 (Is v4.s.to)), (14, .row 1 (Is v4.s.id)), (15, .row 1 (Ls v4.s.cs)), (16, .row 1 (Is v4.t.fr)), (17, .row 1 (Is v4.t.to)), (18, .row 1 (Is v4.t.id)), (19, .row 1 (Ls v4.t.cs)), (20, .row 1 (Is v4.ob)), (21, .row 1 (Is v4.ar)), (22, .mix 25 [[.val (.int .i64 v3.s.n), .own 23 0 v3.s.fr.length, .own 24 0 v3.s.to.length, .own 25 0 v3.s.id.length, .own 26 0 v3.s.cs.length, .val (.int .i64 v3.t.n), .own 27 0 v3.t.fr.length, .own 28 0 v3.t.to.length, .own 29 0 v3.t.id.length, .own 30 0 v3.t.cs.length, .own 31 0 v3.ob.length, .own 32 0 v3.ar.length, .val (.int .i64 v1.s.n), .own 33 0 v1.s.fr.length, .own 34 0 v1.s.to.length, .own 35 0 v1.s.id.length, .own 36 0 v1.s.cs.length, .val (.int .i64 v1.t.n), .own 37 0 v1.t.fr.length, .own 38 0 v1.t.to.length, .own 39 0 v1.t.id.length, .own 40 0 v1.t.cs.length, .own 41 0 v1.ob.length, .own 42 0 v1.ar.length, .lst true 1 (Is a_.u)]]), (23, .row 1 (Is v3.s.fr)), (24, .row 1 (Is v3.s.to)), (25, .row 1 (Is v3.s.id)), (26, .row 1 (Ls v3.s.cs)), (27, .row 1 (Is v3.t.fr)), (28, .row 1 (Is v3.t.to)), (29, .row 1 (Is v3.t.id)), (30, .row 1 (Ls v3.t.cs)), (31, .row 1 (Is v3.ob)), (32, .row 1 (Is v3.ar)), (33, .row 1 (Is v1.s.fr)), (34, .row 1 (Is v1.s.to)), (35, .row 1 (Is v1.s.id)), (36, .row 1 (Ls v1.s.cs)), (37, .row 1 (Is v1.t.fr)), (38, .row 1 (Is v1.t.to)), (39, .row 1 (Is v1.t.id)), (40, .row 1 (Ls v1.t.cs)), (41, .row 1 (Is v1.ob)), (42, .row 1 (Is v1.ar))], 43⟩) (Wk.r1 [(11, 0), (12, 1), (13, 2), (14, 3), (15, 4), (16, 5), (17, 6), (18, 7), (19, 8), (20, 9), (21, 10), (33, 11), (34, 12), (35, 13), (36, 14), (37, 15), (38, 16), (39, 17), (40, 18), (41, 19), (42, 20), (43, 21), (44, 22), (23, 23), (24, 24), (25, 25), (26, 26), (27, 27), (28, 28), (29, 29), (30, 30), (31, 31), (32, 32), (1, 33), (2, 34), (3, 35), (4, 36), (5, 37), (6, 38), (7, 39), (8, 40), (9, 41), (10, 42)] (by simp [hP, hhOk, back, Adj.cells, Cat.cells, Fn.cells, Tra.cells, IA, I1, LA, L1, BA, B1, EA, E1, E2, eB, eI, eL])) ?_
 refine w_seq ?_
 refine w_run mo (by rw [hN]; decide) fun K hK => ?_
 simp [-guardE_b, -Is_at, -Is_at', -Ls_at, -Ls_at', eL, eI, allInts, eP_Adj, eP_Cat, eP_Fn, eP_Tra, Adj.cells, Cat.cells, Fn.cells, Tra.cells]
 repeat (with_reducible refine And.intro ?_ ?_; · first | assumption | omega | (simp; done) | (simp; omega) | simp_all)
 refine hK _ ?_
 clear hK K
 refine tn ?_
 refine w_weak (st' := ⟨[(0, .rptr (Adj.cells true a_)), (3, .rptr (Adj.cells true a_)), (4, .rptr [.val (.int .i64 a_.l.t.n), .lst true 1 (Is a_.l.t.fr), .lst true 1 (Is a_.l.t.to), .lst true 1 (Is a_.l.t.id), .lst true 1 (Ls a_.l.t.cs), .lst true 1 (Is a_.l.ob), .lst true 1 (Is a_.l.ar), .val (.int .i64 a_.r.s.n), .lst true 1 (Is a_.r.s.fr), .lst true 1 (Is a_.r.s.to), .lst true 1 (Is a_.r.s.id), .lst true 1 (Ls a_.r.s.cs), .val (.int .i64 a_.r.t.n), .lst true 1 (Is a_.r.t.fr), .lst true 1 (Is a_.r.t.to), .lst true 1 (Is a_.r.t.id), .lst true 1 (Ls a_.r.t.cs), .lst true 1 (Is a_.r.ob), .lst true 1 (Is a_.r.ar), .lst true 1 (Is a_.u), .lst true 1 (Is a_.k)]), (9, .adr 0 0 0), (10, .adr 21 0 0)], [(0, .mix 25 [[.val (.int .i64 v3.s.n), .own 1 0 v3.s.fr.length, .own 2 0 v3.s.to.length, .own 3 0 v3.s.id.length, .own 4 0 v3.s.cs.length, .val (.int .i64 v3.t.n), .own 5 0 v3.t.fr.length, .own 6 0 v3.t.to.length, .own 7 0 v3.t.id.length, .own 8 0 v3.t.cs.length, .own 9 0 v3.ob.length, .own 10 0 v3.ar.length, .val (.int .i64 v1.s.n), .own 11 0 v1.s.fr.length, .own 12 0 v1.s.to.length, .own 13 0 v1.s.id.length, .own 14 0 v1.s.cs.length, .val (.int .i64 v1.t.n), .own 15 0 v1.t.fr.length, .own 16 0 v1.t.to.length, .own 17 0 v1.t.id.length, .own 18 0 v1.t.cs.length, .own 19 0 v1.ob.length, .own 20 0 v1.ar.length, .lst true 1 (Is a_.u)]]), (1, .row 1 (Is v3.s.fr)), (2, .row 1 (Is v3.s.to)), (3, .row 1 (Is v3.s.id)), (4, .row 1 (Ls v3.s.cs)), (5, .row 1 (Is v3.t.fr)), (6, .row 1 (Is v3.t.to)), (7, .row 1 (Is v3.t.id)), (8, .row 1 (Ls v3.t.cs)), (9, .row 1 (Is v3.ob)), (10, .row 1 (Is v3.ar)), (11, .row 1 (Is v1.s.fr)), (12, .row 1 (Is v1.s.to)), (13, .row 1 (Is v1.s.id)), (14, .row 1 (Ls v1.s.cs)), (15, .row 1 (Is v1.t.fr)), (16, .row 1 (Is v1.t.to)), (17, .row 1 (Is v1.t.id)), (18, .row 1 (Ls v1.t.cs)), (19, .row 1 (Is v1.ob)), (20, .row 1 (Is v1.ar)), (21, .mix 25 [[.val (.int .i64 v2.s.n), .own 22 0 v2.s.fr.length, .own 23 0 v2.s.to.length, .own 24 0 v2.s.id.length, .own 25 0 v2.s.cs.length, .val (.int .i64 v2.t.n), .own 26 0 v2.t.fr.length, .own 27 0 v2.t.to.length, .own 28 0 v2.t.id.length, .own 29 0 v2.t.cs.length, .own 30 0 v2.ob.length, .own 31 0 v2.ar.length, .val (.int .i64 v4.s.n), .own 32 0 v4.s.fr.length, .own 33 0 v4.s.to.length, .own 34 0 v4.s.id.length, .own 35 0 v4.s.cs.length, .val (.int .i64 v4.t.n), .own 36 0 v4.t.fr.length, .own 37 0 v4.t.to.length, .own 38 0 v4.t.id.length, .own 39 0 v4.t.cs.length, .own 40 0 v4.ob.length, .own 41 0 v4.ar.length, .lst true 1 (Is a_.k)]]), (22, .row 1 (Is v2.s.fr)), (23, .row 1 (Is v2.s.to)), (24, .row 1 (Is v2.s.id)), (25, .row 1 (Ls v2.s.cs)), (26, .row 1 (Is v2.t.fr)), (27, .row 1 (Is v2.t.to)), (28, .row 1 (Is v2.t.id)), (29, .row 1 (Ls v2.t.cs)), (30, .row 1 (Is v2.ob)), (31, .row 1 (Is v2.ar)), (32, .row 1 (Is v4.s.fr)), (33, .row 1 (Is v4.s.to)), (34, .row 1 (Is v4.s.id)), (35, .row 1 (Ls v4.s.cs)), (36, .row 1 (Is v4.t.fr)), (37, .row 1 (Is v4.t.to)), (38, .row 1 (Is v4.t.id)), (39, .row 1 (Ls v4.t.cs)), (40, .row 1 (Is v4.ob)), (41, .row 1 (Is v4.ar))], 42⟩) (Wk.r1 [(22, 0), (23, 1), (24, 2), (25, 3), (26, 4), (27, 5), (28, 6), (29, 7), (30, 8), (31, 9), (32, 10), (33, 11), (34, 12), (35, 13), (36, 14), (37, 15), (38, 16), (39, 17), (40, 18), (41, 19), (42, 20), (43, 21), (1, 22), (2, 23), (3, 24), (4, 25), (5, 26), (6, 27), (7, 28), (8, 29), (9, 30), (10, 31), (12, 32), (13, 33), (14, 34), (15, 35), (16, 36), (17, 37), (18, 38), (19, 39), (20, 40), (21, 41)] (by simp [hP, hhOk, back, Adj.cells, Cat.cells, Fn.cells, Tra.cells, IA, I1, LA, L1, BA, B1, EA, E1, E2, eB, eI, eL])) ?_
 refine w_seq ?_
 refine w_seq ?_
 refine w_run mo (by rw [hN]; decide) fun K hK => ?_
 simp [-guardE_b, -Is_at, -Is_at', -Ls_at, -Ls_at', eL, eI, allInts, eP_Adj, eP_Cat, eP_Fn, eP_Tra, Adj.cells, Cat.cells, Fn.cells, Tra.cells]
 repeat (with_reducible refine And.intro ?_ ?_; · first | assumption | omega | (simp; done) | (simp; omega) | simp_all)
 replace h := bind_some h
 obtain ⟨v5, hv5, h⟩ := h
 refine callA_intro (w_i_areNatural _ v5 hv5) (.cons (.lits (es := _) rfl (.cons rfl (.cons (.field rfl (by simp [Adj.cells, Cat.cells, Fn.cells, Tra.cells]) (.cons .val (.cons (.whole (by simp) (by simp) (by simp)) (.cons (.whole (by simp) (by simp) (by simp)) (.cons (.whole (by simp) (by simp) (by simp)) (.cons (.whole (by simp) (by simp) (by simp)) (.cons .val (.cons (.whole (by simp) (by simp) (by simp)) (.cons (.whole (by simp) (by simp) (by simp)) (.cons (.whole (by simp) (by simp) (by simp)) (.cons (.whole (by simp) (by simp) (by simp)) (.cons (.whole (by simp) (by simp) (by simp)) (.cons (.whole (by simp) (by simp) (by simp)) (.cons .val (.cons (.whole (by simp) (by simp) (by simp)) (.cons (.whole (by simp) (by simp) (by simp)) (.cons (.whole (by simp) (by simp) (by simp)) (.cons (.whole (by simp) (by simp) (by simp)) (.cons .val (.cons (.whole (by simp) (by simp) (by simp)) (.cons (.whole (by simp) (by simp) (by simp)) (.cons (.whole (by simp) (by simp) (by simp)) (.cons (.whole (by simp) (by simp) (by simp)) (.cons (.whole (by simp) (by simp) (by simp)) (.cons (.whole (by simp) (by simp) (by simp)) (.cons .lst .nil)))))))))))))))))))))))))) .nil) (.cons rfl (.cons (.field rfl (by simp [Adj.cells, Cat.cells, Fn.cells, Tra.cells]) (.cons .val (.cons (.whole (by simp) (by simp) (by simp)) (.cons (.whole (by simp) (by simp) (by simp)) (.cons (.whole (by simp) (by simp) (by simp)) (.cons (.whole (by simp) (by simp) (by simp)) (.cons .val (.cons (.whole (by simp) (by simp) (by simp)) (.cons (.whole (by simp) (by simp) (by simp)) (.cons (.whole (by simp) (by simp) (by simp)) (.cons (.whole (by simp) (by simp) (by simp)) (.cons (.whole (by simp) (by simp) (by simp)) (.cons (.whole (by simp) (by simp) (by simp)) (.cons .val (.cons (.whole (by simp) (by simp) (by simp)) (.cons (.whole (by simp) (by simp) (by simp)) (.cons (.whole (by simp) (by simp) (by simp)) (.cons (.whole (by simp) (by simp) (by simp)) (.cons .val (.cons (.whole (by simp) (by simp) (by simp)) (.cons (.whole (by simp) (by simp) (by simp)) (.cons (.whole (by simp) (by simp) (by simp)) (.cons (.whole (by simp) (by simp) (by simp)) (.cons (.whole (by simp) (by simp) (by simp)) (.cons (.whole (by simp) (by simp) (by simp)) (.cons .lst .nil)))))))))))))))))))))))))) .nil) .nil)) rfl) .nil) ?_
 simp [-guardE_b, -Is_at, -Is_at', -Ls_at, -Ls_at', unk, unA, unE, unT, unC, flat, eL, eI, allInts, eP_Adj, eP_Cat, eP_Fn, eP_Tra, Adj.cells, Cat.cells, Fn.cells, Tra.cells]
 repeat (with_reducible refine And.intro ?_ ?_; · first | assumption | omega | (simp; done) | (simp; omega) | simp_all)
 refine hK _ ?_
 clear hK K
 refine tn ?_
 refine w_weak (st' := ⟨[(0, .rptr (Adj.cells true a_)), (3, .rptr (Adj.cells true a_)), (4, .rptr [.val (.int .i64 a_.l.t.n), .lst true 1 (Is a_.l.t.fr), .lst true 1 (Is a_.l.t.to), .lst true 1 (Is a_.l.t.id), .lst true 1 (Ls a_.l.t.cs), .lst true 1 (Is a_.l.ob), .lst true 1 (Is a_.l.ar), .val (.int .i64 a_.r.s.n), .lst true 1 (Is a_.r.s.fr), .lst true 1 (Is a_.r.s.to), .lst true 1 (Is a_.r.s.id), .lst true 1 (Ls a_.r.s.cs), .val (.int .i64 a_.r.t.n), .lst true 1 (Is a_.r.t.fr), .lst true 1 (Is a_.r.t.to), .lst true 1 (Is a_.r.t.id), .lst true 1 (Ls a_.r.t.cs), .lst true 1 (Is a_.r.ob), .lst true 1 (Is a_.r.ar), .lst true 1 (Is a_.u), .lst true 1 (Is a_.k)]), (57, .val (.bool (!v5)))], [], 0⟩) (Wk.r1 [] (by simp [hP, hhOk, back, Adj.cells, Cat.cells, Fn.cells, Tra.cells, IA, I1, LA, L1, BA, B1, EA, E1, E2, eB, eI, eL])) ?_
 refine w_cond rfl (fun g => ?_) fun g => ?_
 · have g6 : ¬ (v5 = true) := by first | simpa using g | (simp at g; exact g) | (simp at g; omega)
   clear g
   replace h := if_l g6 h
   refine w_seq ?_
   refine w_run mo (by rw [hN]; decide) fun K hK => ?_
   simp [-guardE_b, -Is_at, -Is_at', -Ls_at, -Ls_at', eL, eI, allInts, eP_Adj, eP_Cat, eP_Fn, eP_Tra, Adj.cells, Cat.cells, Fn.cells, Tra.cells]
   repeat (with_reducible refine And.intro ?_ ?_; · first | assumption | omega | (simp; done) | (simp; omega) | simp_all)
   refine hK _ ?_
   clear hK K
   refine tn ?_
   refine w_weak (st' := ⟨[(2, .val (.bool false))], [], 0⟩) (Wk.r1 [] (by simp [hP, hhOk, back, Adj.cells, Cat.cells, Fn.cells, Tra.cells, IA, I1, LA, L1, BA, B1, EA, E1, E2, eB, eI, eL])) ?_
   refine w_ret ?_
   refine tr ?_
   have hr := Option.some.inj h
   rw [← hr]
   refine ⟨_, (.tmp .nil), ?_⟩
   refine ⟨(.one rfl rfl .nil), [.val (.bool false)], [], by simp [Adj.cells, Cat.cells, Fn.cells, Tra.cells, IA, I1, LA, L1, BA, B1, EA, E1, E2, eB, eI, eL], by simp, (UpL.refl _)⟩
 have g6 : ¬ (¬ (v5 = true)) := by first | simpa using g | (simp at g; exact g) | (simp at g; omega)
 clear g
 replace h := if_r g6 h
 refine w_skip ?_
 refine tn ?_
 refine w_seq ?_
 refine w_seq ?_
 refine w_run mo (by rw [hN]; decide) fun K hK => ?_
 simp [-guardE_b, -Is_at, -Is_at', -Ls_at, -Ls_at', eL, eI, allInts, eP_Adj, eP_Cat, eP_Fn, eP_Tra, Adj.cells, Cat.cells, Fn.cells, Tra.cells]
 repeat (with_reducible refine And.intro ?_ ?_; · first | assumption | omega | (simp; done) | (simp; omega) | simp_all)
 refine hK _ ?_
 clear hK K
 refine tn ?_
 refine w_weak (st' := ⟨[(0, .rptr (Adj.cells true a_)), (3, .rptr (Adj.cells true a_)), (4, .rptr [.val (.int .i64 a_.l.t.n), .lst true 1 (Is a_.l.t.fr), .lst true 1 (Is a_.l.t.to), .lst true 1 (Is a_.l.t.id), .lst true 1 (Ls a_.l.t.cs), .lst true 1 (Is a_.l.ob), .lst true 1 (Is a_.l.ar), .val (.int .i64 a_.r.s.n), .lst true 1 (Is a_.r.s.fr), .lst true 1 (Is a_.r.s.to), .lst true 1 (Is a_.r.s.id), .lst true 1 (Ls a_.r.s.cs), .val (.int .i64 a_.r.t.n), .lst true 1 (Is a_.r.t.fr), .lst true 1 (Is a_.r.t.to), .lst true 1 (Is a_.r.t.id), .lst true 1 (Ls a_.r.t.cs), .lst true 1 (Is a_.r.ob), .lst true 1 (Is a_.r.ar), .lst true 1 (Is a_.u), .lst true 1 (Is a_.k)]), (62, .lst true 1 (Is a_.l.ob)), (63, .val (.int .i64 (a_.l.ob.length : Int))), (64, .val (.int .i64 0))], [], 0⟩) (Wk.r1 [] (by simp [hP, hhOk, back, Adj.cells, Cat.cells, Fn.cells, Tra.cells, IA, I1, LA, L1, BA, B1, EA, E1, E2, eB, eI, eL])) ?_
 replace h := bind_some h
 obtain ⟨e7, h, h7⟩ := h
 refine w_joinT (fun b7 : Unit => ⟨[(0, .rptr (Adj.cells true a_)), (3, .rptr (Adj.cells true a_))], [], 0⟩) (fun b7 => Sum.inl b7 = e7) ?_ ?_
 · refine w_block ?_
   refine w_loopF h (fun s17 : Int => ⟨[(0, .rptr (Adj.cells true a_)), (3, .rptr (Adj.cells true a_)), (4, .rptr [.val (.int .i64 a_.l.t.n), .lst true 1 (Is a_.l.t.fr), .lst true 1 (Is a_.l.t.to), .lst true 1 (Is a_.l.t.id), .lst true 1 (Ls a_.l.t.cs), .lst true 1 (Is a_.l.ob), .lst true 1 (Is a_.l.ar), .val (.int .i64 a_.r.s.n), .lst true 1 (Is a_.r.s.fr), .lst true 1 (Is a_.r.s.to), .lst true 1 (Is a_.r.s.id), .lst true 1 (Ls a_.r.s.cs), .val (.int .i64 a_.r.t.n), .lst true 1 (Is a_.r.t.fr), .lst true 1 (Is a_.r.t.to), .lst true 1 (Is a_.r.t.id), .lst true 1 (Ls a_.r.t.cs), .lst true 1 (Is a_.r.ob), .lst true 1 (Is a_.r.ar), .lst true 1 (Is a_.u), .lst true 1 (Is a_.k)]), (62, .lst true 1 (Is a_.l.ob)), (63, .val (.int .i64 (a_.l.ob.length : Int))), (64, .val (.int .i64 s17))], [], 0⟩) (Wk.r1 [] (by simp [hP, hhOk, back, Adj.cells, Cat.cells, Fn.cells, Tra.cells, IA, I1, LA, L1, BA, B1, EA, E1, E2, eB, eI, eL])) ?_
   clear h
   intro k17 s17 c17 h hk17
   refine w_seq ?_
   refine w_run mo (by rw [hN]; decide) fun K hK => ?_
   simp [-guardE_b, -Is_at, -Is_at', -Ls_at, -Ls_at', eL, eI, allInts, eP_Adj, eP_Cat, eP_Fn, eP_Tra, Adj.cells, Cat.cells, Fn.cells, Tra.cells]
   repeat (with_reducible refine And.intro ?_ ?_; · first | assumption | omega | (simp; done) | (simp; omega) | simp_all)
   refine hK _ ?_
   clear hK K
   refine tn ?_
   refine w_weak (st' := ⟨[(0, .rptr (Adj.cells true a_)), (3, .rptr (Adj.cells true a_)), (4, .rptr [.val (.int .i64 a_.l.t.n), .lst true 1 (Is a_.l.t.fr), .lst true 1 (Is a_.l.t.to), .lst true 1 (Is a_.l.t.id), .lst true 1 (Ls a_.l.t.cs), .lst true 1 (Is a_.l.ob), .lst true 1 (Is a_.l.ar), .val (.int .i64 a_.r.s.n), .lst true 1 (Is a_.r.s.fr), .lst true 1 (Is a_.r.s.to), .lst true 1 (Is a_.r.s.id), .lst true 1 (Ls a_.r.s.cs), .val (.int .i64 a_.r.t.n), .lst true 1 (Is a_.r.t.fr), .lst true 1 (Is a_.r.t.to), .lst true 1 (Is a_.r.t.id), .lst true 1 (Ls a_.r.t.cs), .lst true 1 (Is a_.r.ob), .lst true 1 (Is a_.r.ar), .lst true 1 (Is a_.u), .lst true 1 (Is a_.k)]), (62, .lst true 1 (Is a_.l.ob)), (63, .val (.int .i64 (a_.l.ob.length : Int))), (64, .val (.int .i64 s17)), (65, .val (.bool (decide (s17 < (a_.l.ob.length : Int)))))], [], 0⟩) (Wk.r1 [] (by simp [hP, hhOk, back, Adj.cells, Cat.cells, Fn.cells, Tra.cells, IA, I1, LA, L1, BA, B1, EA, E1, E2, eB, eI, eL])) ?_
   refine w_seq ?_
   refine w_cond rfl (fun g => ?_) fun g => ?_
   · have g18 : s17 < (a_.l.ob.length : Int) := by first | simpa using g | (simp at g; exact g) | (simp at g; omega)
     clear g
     replace h := if_l g18 h
     refine w_skip ?_
     refine tn ?_
     refine w_seq ?_
     refine w_block ?_
     refine w_seq ?_
     refine w_run mo (by rw [hN]; decide) fun K hK => ?_
     replace h := ass_some h
     obtain ⟨a19, h⟩ := h
     simp [-guardE_b, -Is_at, -Is_at', -Ls_at, -Ls_at', eL, eI, allInts, eP_Adj, eP_Cat, eP_Fn, eP_Tra, Adj.cells, Cat.cells, Fn.cells, Tra.cells, at_I a19]
     repeat (with_reducible refine And.intro ?_ ?_; · first | assumption | omega | (simp; done) | (simp; omega) | simp_all)
     refine hK _ ?_
     clear hK K
     refine tn ?_
     refine w_weak (st' := ⟨[(0, .rptr (Adj.cells true a_)), (3, .rptr (Adj.cells true a_)), (4, .rptr [.val (.int .i64 a_.l.t.n), .lst true 1 (Is a_.l.t.fr), .lst true 1 (Is a_.l.t.to), .lst true 1 (Is a_.l.t.id), .lst true 1 (Ls a_.l.t.cs), .lst true 1 (Is a_.l.ob), .lst true 1 (Is a_.l.ar), .val (.int .i64 a_.r.s.n), .lst true 1 (Is a_.r.s.fr), .lst true 1 (Is a_.r.s.to), .lst true 1 (Is a_.r.s.id), .lst true 1 (Ls a_.r.s.cs), .val (.int .i64 a_.r.t.n), .lst true 1 (Is a_.r.t.fr), .lst true 1 (Is a_.r.t.to), .lst true 1 (Is a_.r.t.id), .lst true 1 (Ls a_.r.t.cs), .lst true 1 (Is a_.r.ob), .lst true 1 (Is a_.r.ar), .lst true 1 (Is a_.u), .lst true 1 (Is a_.k)]), (11, .val (.int .i64 s17)), (12, .val (.int .i64 (ix a_.l.ob s17))), (62, .lst true 1 (Is a_.l.ob)), (63, .val (.int .i64 (a_.l.ob.length : Int))), (64, .val (.int .i64 s17))], [], 0⟩) (Wk.r1 [] (by simp [hP, hhOk, back, Adj.cells, Cat.cells, Fn.cells, Tra.cells, IA, I1, LA, L1, BA, B1, EA, E1, E2, eB, eI, eL])) ?_
     refine w_seq ?_
     refine w_run mo (by rw [hN]; decide) fun K hK => ?_
     replace h := ass_some h
     obtain ⟨a20, h⟩ := h
     replace h := ass_some h
     obtain ⟨a21, h⟩ := h
     replace h := ass_some h
     obtain ⟨a22, h⟩ := h
     simp [-guardE_b, -Is_at, -Is_at', -Ls_at, -Ls_at', eL, eI, allInts, eP_Adj, eP_Cat, eP_Fn, eP_Tra, Adj.cells, Cat.cells, Fn.cells, Tra.cells, at_I a20, at_I a21, at_I a22]
     repeat (with_reducible refine And.intro ?_ ?_; · first | assumption | omega | (simp; done) | (simp; omega) | simp_all)
     replace h := bind_some h
     obtain ⟨v23, hv23, h⟩ := h
     refine callA_intro (w_i_Category_then _ _ _ v23 hv23) (.cons (.preT (by simp [Adj.cells, Cat.cells, Fn.cells, Tra.cells])) (.cons .val (.cons .val .nil))) ?_
     replace h := ass_some h
     obtain ⟨a24, h⟩ := h
     simp [-guardE_b, -Is_at, -Is_at', -Ls_at, -Ls_at', unk, unA, unE, unT, unC, flat, eL, eI, allInts, eP_Adj, eP_Cat, eP_Fn, eP_Tra, Adj.cells, Cat.cells, Fn.cells, Tra.cells, at_I a24]
     repeat (with_reducible refine And.intro ?_ ?_; · first | assumption | omega | (simp; done) | (simp; omega) | simp_all)
     refine hK _ ?_
     clear hK K
     refine tn ?_
     refine w_weak (st' := ⟨[(0, .rptr (Adj.cells true a_)), (3, .rptr (Adj.cells true a_)), (4, .rptr [.val (.int .i64 a_.l.t.n), .lst true 1 (Is a_.l.t.fr), .lst true 1 (Is a_.l.t.to), .lst true 1 (Is a_.l.t.id), .lst true 1 (Ls a_.l.t.cs), .lst true 1 (Is a_.l.ob), .lst true 1 (Is a_.l.ar), .val (.int .i64 a_.r.s.n), .lst true 1 (Is a_.r.s.fr), .lst true 1 (Is a_.r.s.to), .lst true 1 (Is a_.r.s.id), .lst true 1 (Ls a_.r.s.cs), .val (.int .i64 a_.r.t.n), .lst true 1 (Is a_.r.t.fr), .lst true 1 (Is a_.r.t.to), .lst true 1 (Is a_.r.t.id), .lst true 1 (Ls a_.r.t.cs), .lst true 1 (Is a_.r.ob), .lst true 1 (Is a_.r.ar), .lst true 1 (Is a_.u), .lst true 1 (Is a_.k)]), (62, .lst true 1 (Is a_.l.ob)), (63, .val (.int .i64 (a_.l.ob.length : Int))), (64, .val (.int .i64 s17)), (99, .val (.bool (v23 != (ix a_.l.t.id (ix a_.l.ob s17)))))], [], 0⟩) (Wk.r1 [] (by simp [hP, hhOk, back, Adj.cells, Cat.cells, Fn.cells, Tra.cells, IA, I1, LA, L1, BA, B1, EA, E1, E2, eB, eI, eL])) ?_
     refine w_cond rfl (fun g => ?_) fun g => ?_
     · have g25 : ¬ (v23 = (ix a_.l.t.id (ix a_.l.ob s17))) := by first | simpa using g | (simp at g; exact g) | (simp at g; omega)
       clear g
       replace h := if_l g25 h
       refine w_seq ?_
       refine w_run mo (by rw [hN]; decide) fun K hK => ?_
       simp [-guardE_b, -Is_at, -Is_at', -Ls_at, -Ls_at', eL, eI, allInts, eP_Adj, eP_Cat, eP_Fn, eP_Tra, Adj.cells, Cat.cells, Fn.cells, Tra.cells]
       repeat (with_reducible refine And.intro ?_ ?_; · first | assumption | omega | (simp; done) | (simp; omega) | simp_all)
       refine hK _ ?_
       clear hK K
       refine tn ?_
       refine w_weak (st' := ⟨[(2, .val (.bool false))], [], 0⟩) (Wk.r1 [] (by simp [hP, hhOk, back, Adj.cells, Cat.cells, Fn.cells, Tra.cells, IA, I1, LA, L1, BA, B1, EA, E1, E2, eB, eI, eL])) ?_
       refine w_ret ?_
       refine br ?_
       refine tr ?_
       refine lr ?_
       refine br ?_
       refine tr ?_
       cases h
       have q : _ = e7 := hk17
       have h := h7
       rw [← q] at h
       clear q
       try dsimp only at h
       have hr := Option.some.inj h
       rw [← hr]
       refine ⟨_, (.tmp .nil), ?_⟩
       refine ⟨(.one rfl rfl .nil), [.val (.bool false)], [], by simp [Adj.cells, Cat.cells, Fn.cells, Tra.cells, IA, I1, LA, L1, BA, B1, EA, E1, E2, eB, eI, eL], by simp, (UpL.refl _)⟩
     have g25 : ¬ (¬ (v23 = (ix a_.l.t.id (ix a_.l.ob s17)))) := by first | simpa using g | (simp at g; exact g) | (simp at g; omega)
     clear g
     replace h := if_r g25 h
     refine w_skip ?_
     refine bn ?_
     refine tn ?_
     refine w_run mo (by rw [hN]; decide) fun K hK => ?_
     replace h := ass_some h
     obtain ⟨a26, h⟩ := h
     simp [-guardE_b, -Is_at, -Is_at', -Ls_at, -Ls_at', eL, eI, allInts, eP_Adj, eP_Cat, eP_Fn, eP_Tra, Adj.cells, Cat.cells, Fn.cells, Tra.cells, wrap_id a26]
     repeat (with_reducible refine And.intro ?_ ?_; · first | assumption | omega | (simp; done) | (simp; omega) | simp_all)
     refine hK _ ?_
     clear hK K
     cases h
     exact rn (s' := s17 + 1) hk17 (Wk.r1 [] (by simp [hP, hhOk, back, Adj.cells, Cat.cells, Fn.cells, Tra.cells, IA, I1, LA, L1, BA, B1, EA, E1, E2, eB, eI, eL]))
   have g18 : ¬ (s17 < (a_.l.ob.length : Int)) := by first | simpa using g | (simp at g; exact g) | (simp at g; omega)
   clear g
   replace h := if_r g18 h
   refine w_exit ?_
   refine tx ?_
   refine lx ?_
   refine bh ?_
   cases h
   exact jn (b := ()) hk17 (Wk.r1 [] (by simp [hP, hhOk, back, Adj.cells, Cat.cells, Fn.cells, Tra.cells, IA, I1, LA, L1, BA, B1, EA, E1, E2, eB, eI, eL]))
 intro b7 hb7
 have h := h7
 rw [← hb7] at h
 clear h7
 try dsimp only at h
 refine w_seq ?_
 refine w_seq ?_
 refine w_run mo (by rw [hN]; decide) fun K hK => ?_
 simp [-guardE_b, -Is_at, -Is_at', -Ls_at, -Ls_at', eL, eI, allInts, eP_Adj, eP_Cat, eP_Fn, eP_Tra, Adj.cells, Cat.cells, Fn.cells, Tra.cells]
 repeat (with_reducible refine And.intro ?_ ?_; · first | assumption | omega | (simp; done) | (simp; omega) | simp_all)
 refine hK _ ?_
 clear hK K
 refine tn ?_
 refine w_weak (st' := ⟨[(0, .rptr (Adj.cells true a_)), (3, .rptr (Adj.cells true a_)), (105, .lst true 1 (Is a_.r.ob)), (106, .val (.int .i64 (a_.r.ob.length : Int))), (107, .val (.int .i64 0))], [], 0⟩) (Wk.r1 [] (by simp [hP, hhOk, back, Adj.cells, Cat.cells, Fn.cells, Tra.cells, IA, I1, LA, L1, BA, B1, EA, E1, E2, eB, eI, eL])) ?_
 replace h := bind_some h
 obtain ⟨e27, h, h27⟩ := h
 refine w_joinT (fun b27 : Unit => ⟨[], [], 0⟩) (fun b27 => Sum.inl b27 = e27) ?_ ?_
 · refine w_block ?_
   refine w_loopF h (fun s37 : Int => ⟨[(0, .rptr (Adj.cells true a_)), (3, .rptr (Adj.cells true a_)), (105, .lst true 1 (Is a_.r.ob)), (106, .val (.int .i64 (a_.r.ob.length : Int))), (107, .val (.int .i64 s37))], [], 0⟩) (Wk.r1 [] (by simp [hP, hhOk, back, Adj.cells, Cat.cells, Fn.cells, Tra.cells, IA, I1, LA, L1, BA, B1, EA, E1, E2, eB, eI, eL])) ?_
   clear h
   intro k37 s37 c37 h hk37
   refine w_seq ?_
   refine w_run mo (by rw [hN]; decide) fun K hK => ?_
   simp [-guardE_b, -Is_at, -Is_at', -Ls_at, -Ls_at', eL, eI, allInts, eP_Adj, eP_Cat, eP_Fn, eP_Tra, Adj.cells, Cat.cells, Fn.cells, Tra.cells]
   repeat (with_reducible refine And.intro ?_ ?_; · first | assumption | omega | (simp; done) | (simp; omega) | simp_all)
   refine hK _ ?_
   clear hK K
   refine tn ?_
   refine w_weak (st' := ⟨[(0, .rptr (Adj.cells true a_)), (3, .rptr (Adj.cells true a_)), (105, .lst true 1 (Is a_.r.ob)), (106, .val (.int .i64 (a_.r.ob.length : Int))), (107, .val (.int .i64 s37)), (108, .val (.bool (decide (s37 < (a_.r.ob.length : Int)))))], [], 0⟩) (Wk.r1 [] (by simp [hP, hhOk, back, Adj.cells, Cat.cells, Fn.cells, Tra.cells, IA, I1, LA, L1, BA, B1, EA, E1, E2, eB, eI, eL])) ?_
   refine w_seq ?_
   refine w_cond rfl (fun g => ?_) fun g => ?_
   · have g38 : s37 < (a_.r.ob.length : Int) := by first | simpa using g | (simp at g; exact g) | (simp at g; omega)
     clear g
     replace h := if_l g38 h
     refine w_skip ?_
     refine tn ?_
     refine w_seq ?_
     refine w_block ?_
     refine w_seq ?_
     refine w_run mo (by rw [hN]; decide) fun K hK => ?_
     replace h := ass_some h
     obtain ⟨a39, h⟩ := h
     simp [-guardE_b, -Is_at, -Is_at', -Ls_at, -Ls_at', eL, eI, allInts, eP_Adj, eP_Cat, eP_Fn, eP_Tra, Adj.cells, Cat.cells, Fn.cells, Tra.cells, at_I a39]
     repeat (with_reducible refine And.intro ?_ ?_; · first | assumption | omega | (simp; done) | (simp; omega) | simp_all)
     refine hK _ ?_
     clear hK K
     refine tn ?_
     refine w_weak (st' := ⟨[(0, .rptr (Adj.cells true a_)), (3, .rptr (Adj.cells true a_)), (13, .val (.int .i64 s37)), (14, .val (.int .i64 (ix a_.r.ob s37))), (105, .lst true 1 (Is a_.r.ob)), (106, .val (.int .i64 (a_.r.ob.length : Int))), (107, .val (.int .i64 s37))], [], 0⟩) (Wk.r1 [] (by simp [hP, hhOk, back, Adj.cells, Cat.cells, Fn.cells, Tra.cells, IA, I1, LA, L1, BA, B1, EA, E1, E2, eB, eI, eL])) ?_
     refine w_seq ?_
     refine w_run mo (by rw [hN]; decide) fun K hK => ?_
     replace h := ass_some h
     obtain ⟨a40, h⟩ := h
     replace h := ass_some h
     obtain ⟨a41, h⟩ := h
     replace h := ass_some h
     obtain ⟨a42, h⟩ := h
     simp [-guardE_b, -Is_at, -Is_at', -Ls_at, -Ls_at', eL, eI, allInts, eP_Adj, eP_Cat, eP_Fn, eP_Tra, Adj.cells, Cat.cells, Fn.cells, Tra.cells, at_I a40, at_I a41, at_I a42]
     repeat (with_reducible refine And.intro ?_ ?_; · first | assumption | omega | (simp; done) | (simp; omega) | simp_all)
     replace h := bind_some h
     obtain ⟨v43, hv43, h⟩ := h
     refine callA_intro (w_i_Category_then _ _ _ v43 hv43) (.cons (.preT (by simp [Adj.cells, Cat.cells, Fn.cells, Tra.cells])) (.cons .val (.cons .val .nil))) ?_
     replace h := ass_some h
     obtain ⟨a44, h⟩ := h
     simp [-guardE_b, -Is_at, -Is_at', -Ls_at, -Ls_at', unk, unA, unE, unT, unC, flat, eL, eI, allInts, eP_Adj, eP_Cat, eP_Fn, eP_Tra, Adj.cells, Cat.cells, Fn.cells, Tra.cells, at_I a44]
     repeat (with_reducible refine And.intro ?_ ?_; · first | assumption | omega | (simp; done) | (simp; omega) | simp_all)
     refine hK _ ?_
     clear hK K
     refine tn ?_
     refine w_weak (st' := ⟨[(0, .rptr (Adj.cells true a_)), (3, .rptr (Adj.cells true a_)), (105, .lst true 1 (Is a_.r.ob)), (106, .val (.int .i64 (a_.r.ob.length : Int))), (107, .val (.int .i64 s37)), (142, .val (.bool (v43 != (ix a_.l.s.id (ix a_.r.ob s37)))))], [], 0⟩) (Wk.r1 [] (by simp [hP, hhOk, back, Adj.cells, Cat.cells, Fn.cells, Tra.cells, IA, I1, LA, L1, BA, B1, EA, E1, E2, eB, eI, eL])) ?_
     refine w_cond rfl (fun g => ?_) fun g => ?_
     · have g45 : ¬ (v43 = (ix a_.l.s.id (ix a_.r.ob s37))) := by first | simpa using g | (simp at g; exact g) | (simp at g; omega)
       clear g
       replace h := if_l g45 h
       refine w_seq ?_
       refine w_run mo (by rw [hN]; decide) fun K hK => ?_
       simp [-guardE_b, -Is_at, -Is_at', -Ls_at, -Ls_at', eL, eI, allInts, eP_Adj, eP_Cat, eP_Fn, eP_Tra, Adj.cells, Cat.cells, Fn.cells, Tra.cells]
       repeat (with_reducible refine And.intro ?_ ?_; · first | assumption | omega | (simp; done) | (simp; omega) | simp_all)
       refine hK _ ?_
       clear hK K
       refine tn ?_
       refine w_weak (st' := ⟨[(2, .val (.bool false))], [], 0⟩) (Wk.r1 [] (by simp [hP, hhOk, back, Adj.cells, Cat.cells, Fn.cells, Tra.cells, IA, I1, LA, L1, BA, B1, EA, E1, E2, eB, eI, eL])) ?_
       refine w_ret ?_
       refine br ?_
       refine tr ?_
       refine lr ?_
       refine br ?_
       refine tr ?_
       cases h
       have q : _ = e27 := hk37
       have h := h27
       rw [← q] at h
       clear q
       try dsimp only at h
       have hr := Option.some.inj h
       rw [← hr]
       refine ⟨_, (.tmp .nil), ?_⟩
       refine ⟨(.one rfl rfl .nil), [.val (.bool false)], [], by simp [Adj.cells, Cat.cells, Fn.cells, Tra.cells, IA, I1, LA, L1, BA, B1, EA, E1, E2, eB, eI, eL], by simp, (UpL.refl _)⟩
     have g45 : ¬ (¬ (v43 = (ix a_.l.s.id (ix a_.r.ob s37)))) := by first | simpa using g | (simp at g; exact g) | (simp at g; omega)
     clear g
     replace h := if_r g45 h
     refine w_skip ?_
     refine bn ?_
     refine tn ?_
     refine w_run mo (by rw [hN]; decide) fun K hK => ?_
     replace h := ass_some h
     obtain ⟨a46, h⟩ := h
     simp [-guardE_b, -Is_at, -Is_at', -Ls_at, -Ls_at', eL, eI, allInts, eP_Adj, eP_Cat, eP_Fn, eP_Tra, Adj.cells, Cat.cells, Fn.cells, Tra.cells, wrap_id a46]
     repeat (with_reducible refine And.intro ?_ ?_; · first | assumption | omega | (simp; done) | (simp; omega) | simp_all)
     refine hK _ ?_
     clear hK K
     cases h
     exact rn (s' := s37 + 1) hk37 (Wk.r1 [] (by simp [hP, hhOk, back, Adj.cells, Cat.cells, Fn.cells, Tra.cells, IA, I1, LA, L1, BA, B1, EA, E1, E2, eB, eI, eL]))
   have g38 : ¬ (s37 < (a_.r.ob.length : Int)) := by first | simpa using g | (simp at g; exact g) | (simp at g; omega)
   clear g
   replace h := if_r g38 h
   refine w_exit ?_
   refine tx ?_
   refine lx ?_
   refine bh ?_
   cases h
   exact jn (b := ()) hk37 (Wk.r1 [] (by simp [hP, hhOk, back, Adj.cells, Cat.cells, Fn.cells, Tra.cells, IA, I1, LA, L1, BA, B1, EA, E1, E2, eB, eI, eL]))
 intro b27 hb27
 have h := h27
 rw [← hb27] at h
 clear h27
 try dsimp only at h
 refine w_seq ?_
 refine w_run mo (by rw [hN]; decide) fun K hK => ?_
 simp [-guardE_b, -Is_at, -Is_at', -Ls_at, -Ls_at', eL, eI, allInts, eP_Adj, eP_Cat, eP_Fn, eP_Tra, Adj.cells, Cat.cells, Fn.cells, Tra.cells]
 repeat (with_reducible refine And.intro ?_ ?_; · first | assumption | omega | (simp; done) | (simp; omega) | simp_all)
 refine hK _ ?_
 clear hK K
 refine tn ?_
 refine w_weak (st' := ⟨[(2, .val (.bool true))], [], 0⟩) (Wk.r1 [] (by simp [hP, hhOk, back, Adj.cells, Cat.cells, Fn.cells, Tra.cells, IA, I1, LA, L1, BA, B1, EA, E1, E2, eB, eI, eL])) ?_
 refine w_ret ?_
 have hr := Option.some.inj h
 rw [← hr]
 refine ⟨_, (.tmp .nil), ?_⟩
 refine ⟨(.one rfl rfl .nil), [.val (.bool true)], [], by simp [Adj.cells, Cat.cells, Fn.cells, Tra.cells, IA, I1, LA, L1, BA, B1, EA, E1, E2, eB, eI, eL], by simp, (UpL.refl _)⟩
end Go.Vc.T

set_option maxRecDepth 100000
set_option linter.unusedSimpArgs false
set_option linter.unusedVariables false
namespace Go.Vc.T
open Go Go.Vc Go.Proofs
noncomputable def s_i_Adjunction_isAdjunction (a_ : Adj) : Option Bool :=
 (
   (s_i_areFunctors [a_.l, a_.r]).bind fun v2 =>
   if v2 = true then
     (s_i_leadBack a_.l a_.r).bind fun v4 =>
     if v4 = true then
       (s_i_Adjunction_fits a_).bind fun v6 =>
       some v6
     else
       some false
   else
     some false : Option (Bool)).bind fun b1 =>
 some b1
set_option maxHeartbeats 4000000 in
theorem w_i_Adjunction_isAdjunction (a_ : Adj) (r : Bool) (h : s_i_Adjunction_isAdjunction a_ = some r) : Contract Try.prog 79 [.rptr (a_.cells true)] (.val (.bool r)) := by
 refine contract_introG (rvs := [.tmp 2]) (rs := [.val (.bool r)]) Try.func79 rfl rfl rfl rfl (by simp [Try.f79]) fun F hN hP => ?_
 unfold s_i_Adjunction_isAdjunction at h
 refine w_seq ?_
 refine w_run mo (by rw [hN]; decide) fun K hK => ?_
 simp [-guardE_b, -Is_at, -Is_at', -Ls_at, -Ls_at', eL, eI, allInts, eP_Adj, eP_Fn, Adj.cells, Fn.cells]
 repeat (with_reducible refine And.intro ?_ ?_; · first | assumption | omega | (simp; done) | (simp; omega) | simp_all)
 refine hK _ ?_
 clear hK K
 refine tn ?_
 refine w_weak (st' := ⟨[(0, .rptr (Adj.cells true a_))], [], 0⟩) (Wk.r1 [] (by simp [hP, hhOk, back, Adj.cells, Fn.cells, IA, I1, LA, L1, BA, B1, EA, E1, E2, eB, eI, eL])) ?_
 refine w_seq ?_
 replace h := bind_some h
 obtain ⟨e1, h, h1⟩ := h
 refine w_joinT (fun b1 : Bool => ⟨[(2, .val (.bool b1))], [], 0⟩) (fun b1 => b1 = e1) ?_ ?_
 · refine w_run mo (by rw [hN]; decide) fun K hK => ?_
   simp [-guardE_b, -Is_at, -Is_at', -Ls_at, -Ls_at', eL, eI, allInts, eP_Adj, eP_Fn, Adj.cells, Fn.cells]
   repeat (with_reducible refine And.intro ?_ ?_; · first | assumption | omega | (simp; done) | (simp; omega) | simp_all)
   replace h := bind_some h
   obtain ⟨v2, hv2, h⟩ := h
   refine callA_intro (w_i_areFunctors _ v2 hv2) (.cons (.lits (es := _) rfl (.cons rfl (.cons (.preT (by simp [Adj.cells, Fn.cells])) .nil) (.cons rfl (.cons (.preT (by simp [Adj.cells, Fn.cells])) .nil) .nil)) rfl) .nil) ?_
   simp [-guardE_b, -Is_at, -Is_at', -Ls_at, -Ls_at', unk, unA, unE, unT, unC, flat, eL, eI, allInts, eP_Adj, eP_Fn, Adj.cells, Fn.cells]
   repeat (with_reducible refine And.intro ?_ ?_; · first | assumption | omega | (simp; done) | (simp; omega) | simp_all)
   refine guard_intro (fun g => ?_) (fun g => ?_)
   · have g3 : v2 = true := by first | simpa using g | (simp at g; exact g) | (simp at g; omega)
     clear g
     replace h := if_l g3 h
     simp [-guardE_b, -Is_at, -Is_at', -Ls_at, -Ls_at', eL, eI, allInts, eP_Adj, eP_Fn, Adj.cells, Fn.cells]
     repeat (with_reducible refine And.intro ?_ ?_; · first | assumption | omega | (simp; done) | (simp; omega) | simp_all)
     replace h := bind_some h
     obtain ⟨v4, hv4, h⟩ := h
     refine callA_intro (w_i_leadBack _ _ v4 hv4) (.cons (.preT (by simp [Adj.cells, Fn.cells])) (.cons (.preT (by simp [Adj.cells, Fn.cells])) .nil)) ?_
     simp [-guardE_b, -Is_at, -Is_at', -Ls_at, -Ls_at', unk, unA, unE, unT, unC, flat, eL, eI, allInts, eP_Adj, eP_Fn, Adj.cells, Fn.cells]
     repeat (with_reducible refine And.intro ?_ ?_; · first | assumption | omega | (simp; done) | (simp; omega) | simp_all)
     refine guard_intro (fun g => ?_) (fun g => ?_)
     · have g5 : v4 = true := by first | simpa using g | (simp at g; exact g) | (simp at g; omega)
       clear g
       replace h := if_l g5 h
       simp [-guardE_b, -Is_at, -Is_at', -Ls_at, -Ls_at', eL, eI, allInts, eP_Adj, eP_Fn, Adj.cells, Fn.cells]
       repeat (with_reducible refine And.intro ?_ ?_; · first | assumption | omega | (simp; done) | (simp; omega) | simp_all)
       replace h := bind_some h
       obtain ⟨v6, hv6, h⟩ := h
       refine callA_intro (w_i_Adjunction_fits _ v6 hv6) (.cons (.preT (by simp [Adj.cells, Fn.cells])) .nil) ?_
       simp [-guardE_b, -Is_at, -Is_at', -Ls_at, -Ls_at', unk, unA, unE, unT, unC, flat, eL, eI, allInts, eP_Adj, eP_Fn, Adj.cells, Fn.cells]
       repeat (with_reducible refine And.intro ?_ ?_; · first | assumption | omega | (simp; done) | (simp; omega) | simp_all)
       refine hK _ ?_
       exact jn (b := v6) (Option.some.inj h) (Wk.r1 [] (by simp [hP, hhOk, back, Adj.cells, Fn.cells, IA, I1, LA, L1, BA, B1, EA, E1, E2, eB, eI, eL]))
     have g5 : ¬ (v4 = true) := by first | simpa using g | (simp at g; exact g) | (simp at g; omega)
     clear g
     replace h := if_r g5 h
     simp [-guardE_b, -Is_at, -Is_at', -Ls_at, -Ls_at', eL, eI, allInts, eP_Adj, eP_Fn, Adj.cells, Fn.cells]
     repeat (with_reducible refine And.intro ?_ ?_; · first | assumption | omega | (simp; done) | (simp; omega) | simp_all)
     refine hK _ ?_
     exact jn (b := false) (Option.some.inj h) (Wk.r1 [] (by simp [hP, hhOk, back, Adj.cells, Fn.cells, IA, I1, LA, L1, BA, B1, EA, E1, E2, eB, eI, eL]))
   have g3 : ¬ (v2 = true) := by first | simpa using g | (simp at g; exact g) | (simp at g; omega)
   clear g
   replace h := if_r g3 h
   simp [-guardE_b, -Is_at, -Is_at', -Ls_at, -Ls_at', eL, eI, allInts, eP_Adj, eP_Fn, Adj.cells, Fn.cells]
   repeat (with_reducible refine And.intro ?_ ?_; · first | assumption | omega | (simp; done) | (simp; omega) | simp_all)
   refine hK _ ?_
   exact jn (b := false) (Option.some.inj h) (Wk.r1 [] (by simp [hP, hhOk, back, Adj.cells, Fn.cells, IA, I1, LA, L1, BA, B1, EA, E1, E2, eB, eI, eL]))
 intro b1 hb1
 have h := h1
 rw [← hb1] at h
 clear h1
 try dsimp only at h
 refine w_ret ?_
 have hr := Option.some.inj h
 rw [← hr]
 refine ⟨_, (.tmp .nil), ?_⟩
 refine ⟨(.one rfl rfl .nil), [.val (.bool b1)], [], by simp [Adj.cells, Fn.cells, IA, I1, LA, L1, BA, B1, EA, E1, E2, eB, eI, eL], by simp, (UpL.refl _)⟩
end Go.Vc.T

set_option maxRecDepth 100000
set_option linter.unusedSimpArgs false
set_option linter.unusedVariables false
namespace Go.Vc.T
open Go Go.Vc Go.Proofs
noncomputable def s_s_l15Is (a_ : Adj) : Option Bool :=
 (
   (s_s_l06Is a_.l).bind fun v2 =>
   if ¬ (v2 = true) then
     some true
   else
     (s_s_l06Is a_.r).bind fun v4 =>
     if ¬ (v4 = true) then
       some true
     else
       (s_s_l15Meets a_.l a_.r).bind fun v6 =>
       some (!v6) : Option (Bool)).bind fun b1 =>
 if b1 = true then
   some false
 else
   (
     (s_s_l06Self a_.l.s).bind fun v9 =>
     (s_s_l06Then a_.l a_.r).bind fun v10 =>
     (s_s_l15Natural v9 v10 a_.u).bind fun v11 =>
     if ¬ (v11 = true) then
       some true
     else
       (s_s_l06Then a_.r a_.l).bind fun v13 =>
       (s_s_l06Self a_.l.t).bind fun v14 =>
       (s_s_l15Natural v13 v14 a_.k).bind fun v15 =>
       some (!v15) : Option (Bool)).bind fun b8 =>
   if b8 = true then
     some false
   else
     (loopF (σ := Int) (ε := Unit ⊕ Bool) (fun s27 =>
       if s27 < a_.l.s.n then
         ass (0 ≤ s27 ∧ s27 < (a_.u.length : Int)) <|
         ass (0 ≤ ix a_.u s27 ∧ ix a_.u s27 < (a_.l.ar.length : Int)) <|
         ass (0 ≤ s27 ∧ s27 < (a_.l.ob.length : Int)) <|
         ass (0 ≤ ix a_.l.ob s27 ∧ ix a_.l.ob s27 < (a_.k.length : Int)) <|
         (s_s_l02Then a_.l.t (ix a_.l.ar (ix a_.u s27)) (ix a_.k (ix a_.l.ob s27))).bind fun v33 =>
         (s_s_l02Unit a_.l.t v33).bind fun v34 =>
         if ¬ (v34 = true) then
           some (Ctl.ret (Sum.inr false))
         else
           ass (B64 (s27 + 1)) <|
           some (Ctl.next (s27 + 1))
       else
         some (Ctl.ret (Sum.inl ()))) fuel 0).bind fun e17 =>
     match e17 with
     | .inl b17 =>
       (loopF (σ := Int) (ε := Unit ⊕ Bool) (fun s47 =>
         if s47 < a_.l.t.n then
           ass (0 ≤ s47 ∧ s47 < (a_.r.ob.length : Int)) <|
           ass (0 ≤ ix a_.r.ob s47 ∧ ix a_.r.ob s47 < (a_.u.length : Int)) <|
           ass (0 ≤ s47 ∧ s47 < (a_.k.length : Int)) <|
           ass (0 ≤ ix a_.k s47 ∧ ix a_.k s47 < (a_.r.ar.length : Int)) <|
           (s_s_l02Then a_.l.s (ix a_.u (ix a_.r.ob s47)) (ix a_.r.ar (ix a_.k s47))).bind fun v53 =>
           (s_s_l02Unit a_.l.s v53).bind fun v54 =>
           if ¬ (v54 = true) then
             some (Ctl.ret (Sum.inr false))
           else
             ass (B64 (s47 + 1)) <|
             some (Ctl.next (s47 + 1))
         else
           some (Ctl.ret (Sum.inl ()))) fuel 0).bind fun e37 =>
       match e37 with
       | .inl b37 =>
         some true
       | .inr p37 =>
         some p37
     | .inr p17 =>
       some p17
set_option maxHeartbeats 4000000 in
theorem w_s_l15Is (a_ : Adj) (r : Bool) (h : s_s_l15Is a_ = some r) : Contract Try.prog 77 [.agg (a_.cells true)] (.val (.bool r)) := by
 refine contract_introG (rvs := [.tmp 2]) (rs := [.val (.bool r)]) Try.func77 rfl rfl rfl rfl (by simp [Try.f77]) fun F hN hP => ?_
 unfold s_s_l15Is at h
 refine w_seq ?_
 refine w_run mo (by rw [hN]; decide) fun K hK => ?_
 simp [-guardE_b, -Is_at, -Is_at', -Ls_at, -Ls_at', eL, eI, allInts, eP_Adj, eP_Cat, eP_Fn, Adj.cells, Cat.cells, Fn.cells]
 repeat (with_reducible refine And.intro ?_ ?_; · first | assumption | omega | (simp; done) | (simp; omega) | simp_all)
 refine hK _ ?_
 clear hK K
 refine tn ?_
 refine w_weak (st' := ⟨[(1, .adr 0 0 0)], [(0, .mix 26 [(Adj.cells true a_)])], 1⟩) (Wk.r1 [(0, 0)] (by simp [hP, hhOk, back, Adj.cells, Cat.cells, Fn.cells, IA, I1, LA, L1, BA, B1, EA, E1, E2, eB, eI, eL])) ?_
 refine w_seq ?_
 refine w_runS mo (by rw [hN]; decide) fun K hK => ?_
 simp [-guardE_b, -Is_at, -Is_at', -Ls_at, -Ls_at', eL, eI, allInts, eP_Adj, eP_Cat, eP_Fn, Adj.cells, Cat.cells, Fn.cells]
 repeat (with_reducible refine And.intro ?_ ?_; · first | assumption | omega | (simp; done) | (simp; omega) | simp_all)
 refine hK _ ?_
 clear hK K
 refine tn ?_
 refine w_weak (st' := ⟨[(1, .adr 0 0 0), (3, .adr 1 0 0), (4, .adr 2 0 0)], [(0, .mix 26 [(Adj.cells true a_)]), (1, .mix 12 [(Fn.cells true a_.l)]), (2, .mix 12 [(Fn.cells true a_.r)])], 3⟩) (Wk.r1 [(0, 0), (1, 1), (2, 2)] (by simp [hP, hhOk, back, Adj.cells, Cat.cells, Fn.cells, IA, I1, LA, L1, BA, B1, EA, E1, E2, eB, eI, eL])) ?_
 refine w_seq ?_
 refine w_seq ?_
 replace h := bind_some h
 obtain ⟨e1, h, h1⟩ := h
 refine w_joinT (fun b1 : Bool => ⟨[(1, .adr 0 0 0), (3, .adr 1 0 0), (4, .adr 2 0 0), (26, .val (.bool b1))], [(0, .mix 26 [(Adj.cells true a_)]), (1, .mix 12 [(Fn.cells true a_.l)]), (2, .mix 12 [(Fn.cells true a_.r)])], 3⟩) (fun b1 => b1 = e1) ?_ ?_
 · refine w_run mo (by rw [hN]; decide) fun K hK => ?_
   simp [-guardE_b, -Is_at, -Is_at', -Ls_at, -Ls_at', eL, eI, allInts, eP_Adj, eP_Cat, eP_Fn, Adj.cells, Cat.cells, Fn.cells]
   repeat (with_reducible refine And.intro ?_ ?_; · first | assumption | omega | (simp; done) | (simp; omega) | simp_all)
   replace h := bind_some h
   obtain ⟨v2, hv2, h⟩ := h
   refine callA_intro (w_s_l06Is _ v2 hv2) (.cons (.aggL (.cons .val (.cons .lst (.cons .lst (.cons .lst (.cons .lst (.cons .val (.cons .lst (.cons .lst (.cons .lst (.cons .lst (.cons .lst (.cons .lst .nil))))))))))))) .nil) ?_
   simp [-guardE_b, -Is_at, -Is_at', -Ls_at, -Ls_at', unk, unA, unE, unT, unC, flat, eL, eI, allInts, eP_Adj, eP_Cat, eP_Fn, Adj.cells, Cat.cells, Fn.cells]
   repeat (with_reducible refine And.intro ?_ ?_; · first | assumption | omega | (simp; done) | (simp; omega) | simp_all)
   refine guard_intro (fun g => ?_) (fun g => ?_)
   · have g3 : ¬ (¬ (v2 = true)) := by first | simpa using g | (simp at g; exact g) | (simp at g; omega)
     clear g
     replace h := if_r g3 h
     simp [-guardE_b, -Is_at, -Is_at', -Ls_at, -Ls_at', eL, eI, allInts, eP_Adj, eP_Cat, eP_Fn, Adj.cells, Cat.cells, Fn.cells]
     repeat (with_reducible refine And.intro ?_ ?_; · first | assumption | omega | (simp; done) | (simp; omega) | simp_all)
     replace h := bind_some h
     obtain ⟨v4, hv4, h⟩ := h
     refine callA_intro (w_s_l06Is _ v4 hv4) (.cons (.aggL (.cons .val (.cons .lst (.cons .lst (.cons .lst (.cons .lst (.cons .val (.cons .lst (.cons .lst (.cons .lst (.cons .lst (.cons .lst (.cons .lst .nil))))))))))))) .nil) ?_
     simp [-guardE_b, -Is_at, -Is_at', -Ls_at, -Ls_at', unk, unA, unE, unT, unC, flat, eL, eI, allInts, eP_Adj, eP_Cat, eP_Fn, Adj.cells, Cat.cells, Fn.cells]
     repeat (with_reducible refine And.intro ?_ ?_; · first | assumption | omega | (simp; done) | (simp; omega) | simp_all)
     refine guard_intro (fun g => ?_) (fun g => ?_)
     · have g5 : ¬ (¬ (v4 = true)) := by first | simpa using g | (simp at g; exact g) | (simp at g; omega)
       clear g
       replace h := if_r g5 h
       simp [-guardE_b, -Is_at, -Is_at', -Ls_at, -Ls_at', eL, eI, allInts, eP_Adj, eP_Cat, eP_Fn, Adj.cells, Cat.cells, Fn.cells]
       repeat (with_reducible refine And.intro ?_ ?_; · first | assumption | omega | (simp; done) | (simp; omega) | simp_all)
       replace h := bind_some h
       obtain ⟨v6, hv6, h⟩ := h
       refine callA_intro (w_s_l15Meets _ _ v6 hv6) (.cons (.aggL (.cons .val (.cons .lst (.cons .lst (.cons .lst (.cons .lst (.cons .val (.cons .lst (.cons .lst (.cons .lst (.cons .lst (.cons .lst (.cons .lst .nil))))))))))))) (.cons (.aggL (.cons .val (.cons .lst (.cons .lst (.cons .lst (.cons .lst (.cons .val (.cons .lst (.cons .lst (.cons .lst (.cons .lst (.cons .lst (.cons .lst .nil))))))))))))) .nil)) ?_
       simp [-guardE_b, -Is_at, -Is_at', -Ls_at, -Ls_at', unk, unA, unE, unT, unC, flat, eL, eI, allInts, eP_Adj, eP_Cat, eP_Fn, Adj.cells, Cat.cells, Fn.cells]
       repeat (with_reducible refine And.intro ?_ ?_; · first | assumption | omega | (simp; done) | (simp; omega) | simp_all)
       refine hK _ ?_
       exact jn (b := !v6) (Option.some.inj h) (Wk.r1 [(0, 0), (1, 1), (2, 2)] (by simp [hP, hhOk, back, Adj.cells, Cat.cells, Fn.cells, IA, I1, LA, L1, BA, B1, EA, E1, E2, eB, eI, eL]))
     have g5 : ¬ (v4 = true) := by first | simpa using g | (simp at g; exact g) | (simp at g; omega)
     clear g
     replace h := if_l g5 h
     simp [-guardE_b, -Is_at, -Is_at', -Ls_at, -Ls_at', eL, eI, allInts, eP_Adj, eP_Cat, eP_Fn, Adj.cells, Cat.cells, Fn.cells]
     repeat (with_reducible refine And.intro ?_ ?_; · first | assumption | omega | (simp; done) | (simp; omega) | simp_all)
     refine hK _ ?_
     exact jn (b := true) (Option.some.inj h) (Wk.r1 [(0, 0), (1, 1), (2, 2)] (by simp [hP, hhOk, back, Adj.cells, Cat.cells, Fn.cells, IA, I1, LA, L1, BA, B1, EA, E1, E2, eB, eI, eL]))
   have g3 : ¬ (v2 = true) := by first | simpa using g | (simp at g; exact g) | (simp at g; omega)
   clear g
   replace h := if_l g3 h
   simp [-guardE_b, -Is_at, -Is_at', -Ls_at, -Ls_at', eL, eI, allInts, eP_Adj, eP_Cat, eP_Fn, Adj.cells, Cat.cells, Fn.cells]
   repeat (with_reducible refine And.intro ?_ ?_; · first | assumption | omega | (simp; done) | (simp; omega) | simp_all)
   refine hK _ ?_
   exact jn (b := true) (Option.some.inj h) (Wk.r1 [(0, 0), (1, 1), (2, 2)] (by simp [hP, hhOk, back, Adj.cells, Cat.cells, Fn.cells, IA, I1, LA, L1, BA, B1, EA, E1, E2, eB, eI, eL]))
 intro b1 hb1
 have h := h1
 rw [← hb1] at h
 clear h1
 try dsimp only at h
 refine w_cond rfl (fun g => ?_) fun g => ?_
 · have g7 : b1 = true := by first | simpa using g | (simp at g; exact g) | (simp at g; omega)
   clear g
   replace h := if_l g7 h
   refine w_seq ?_
   refine w_run mo (by rw [hN]; decide) fun K hK => ?_
   simp [-guardE_b, -Is_at, -Is_at', -Ls_at, -Ls_at', eL, eI, allInts, eP_Adj, eP_Cat, eP_Fn, Adj.cells, Cat.cells, Fn.cells]
   repeat (with_reducible refine And.intro ?_ ?_; · first | assumption | omega | (simp; done) | (simp; omega) | simp_all)
   refine hK _ ?_
   clear hK K
   refine tn ?_
   refine w_weak (st' := ⟨[(2, .val (.bool false))], [], 0⟩) (Wk.r1 [] (by simp [hP, hhOk, back, Adj.cells, Cat.cells, Fn.cells, IA, I1, LA, L1, BA, B1, EA, E1, E2, eB, eI, eL])) ?_
   refine w_ret ?_
   refine tr ?_
   have hr := Option.some.inj h
   rw [← hr]
   refine ⟨_, (.tmp .nil), ?_⟩
   refine ⟨(.one rfl rfl .nil), [.val (.bool false)], [], by simp [Adj.cells, Cat.cells, Fn.cells, IA, I1, LA, L1, BA, B1, EA, E1, E2, eB, eI, eL], by simp, (UpL.refl _)⟩
 have g7 : ¬ (b1 = true) := by first | simpa using g | (simp at g; exact g) | (simp at g; omega)
 clear g
 replace h := if_r g7 h
 refine w_skip ?_
 refine tn ?_
 refine w_seq ?_
 refine w_runS mo (by rw [hN]; decide) fun K hK => ?_
 simp [-guardE_b, -Is_at, -Is_at', -Ls_at, -Ls_at', eL, eI, allInts, eP_Adj, eP_Cat, eP_Fn, Adj.cells, Cat.cells, Fn.cells]
 repeat (with_reducible refine And.intro ?_ ?_; · first | assumption | omega | (simp; done) | (simp; omega) | simp_all)
 refine hK _ ?_
 clear hK K
 refine tn ?_
 refine w_weak (st' := ⟨[(1, .adr 0 0 0), (3, .adr 1 0 0), (4, .adr 2 0 0), (5, .adr 3 0 0), (6, .adr 4 0 0)], [(0, .mix 26 [(Adj.cells true a_)]), (1, .mix 12 [(Fn.cells true a_.l)]), (2, .mix 12 [(Fn.cells true a_.r)]), (3, .mix 5 [(Cat.cells true a_.l.s)]), (4, .mix 5 [(Cat.cells true a_.l.t)])], 5⟩) (Wk.r1 [(0, 0), (1, 1), (2, 2), (3, 3), (4, 4)] (by simp [hP, hhOk, back, Adj.cells, Cat.cells, Fn.cells, IA, I1, LA, L1, BA, B1, EA, E1, E2, eB, eI, eL])) ?_
 refine w_seq ?_
 refine w_seq ?_
 replace h := bind_some h
 obtain ⟨e8, h, h8⟩ := h
 refine w_joinT (fun b8 : Bool => ⟨[(1, .adr 0 0 0), (3, .adr 1 0 0), (4, .adr 2 0 0), (5, .adr 3 0 0), (6, .adr 4 0 0), (50, .val (.bool b8))], [(0, .mix 26 [(Adj.cells true a_)]), (1, .mix 12 [(Fn.cells true a_.l)]), (2, .mix 12 [(Fn.cells true a_.r)]), (3, .mix 5 [(Cat.cells true a_.l.s)]), (4, .mix 5 [(Cat.cells true a_.l.t)])], 5⟩) (fun b8 => b8 = e8) ?_ ?_
 · refine w_run mo (by rw [hN]; decide) fun K hK => ?_
   simp [-guardE_b, -Is_at, -Is_at', -Ls_at, -Ls_at', eL, eI, allInts, eP_Adj, eP_Cat, eP_Fn, Adj.cells, Cat.cells, Fn.cells]
   repeat (with_reducible refine And.intro ?_ ?_; · first | assumption | omega | (simp; done) | (simp; omega) | simp_all)
   replace h := bind_some h
   obtain ⟨v9, hv9, h⟩ := h
   refine callA_intro (w_s_l06Self _ v9 hv9) (.cons (.aggL (.cons .val (.cons .lst (.cons .lst (.cons .lst (.cons .lst .nil)))))) .nil) ?_
   simp [-guardE_b, -Is_at, -Is_at', -Ls_at, -Ls_at', unk, unA, unE, unT, unC, flat, eL, eI, allInts, eP_Adj, eP_Cat, eP_Fn, Adj.cells, Cat.cells, Fn.cells]
   repeat (with_reducible refine And.intro ?_ ?_; · first | assumption | omega | (simp; done) | (simp; omega) | simp_all)
   replace h := bind_some h
   obtain ⟨v10, hv10, h⟩ := h
   refine callA_intro (w_s_l06Then _ _ v10 hv10) (.cons (.aggL (.cons .val (.cons .lst (.cons .lst (.cons .lst (.cons .lst (.cons .val (.cons .lst (.cons .lst (.cons .lst (.cons .lst (.cons .lst (.cons .lst .nil))))))))))))) (.cons (.aggL (.cons .val (.cons .lst (.cons .lst (.cons .lst (.cons .lst (.cons .val (.cons .lst (.cons .lst (.cons .lst (.cons .lst (.cons .lst (.cons .lst .nil))))))))))))) .nil)) ?_
   simp [-guardE_b, -Is_at, -Is_at', -Ls_at, -Ls_at', unk, unA, unE, unT, unC, flat, eL, eI, allInts, eP_Adj, eP_Cat, eP_Fn, Adj.cells, Cat.cells, Fn.cells]
   repeat (with_reducible refine And.intro ?_ ?_; · first | assumption | omega | (simp; done) | (simp; omega) | simp_all)
   replace h := bind_some h
   obtain ⟨v11, hv11, h⟩ := h
   refine callA_intro (w_s_l15Natural _ _ _ v11 hv11) (.cons (.aggL (.cons .val (.cons (.whole (by simp) (by simp) (by simp)) (.cons (.whole (by simp) (by simp) (by simp)) (.cons (.whole (by simp) (by simp) (by simp)) (.cons (.whole (by simp) (by simp) (by simp)) (.cons .val (.cons (.whole (by simp) (by simp) (by simp)) (.cons (.whole (by simp) (by simp) (by simp)) (.cons (.whole (by simp) (by simp) (by simp)) (.cons (.whole (by simp) (by simp) (by simp)) (.cons (.whole (by simp) (by simp) (by simp)) (.cons (.whole (by simp) (by simp) (by simp)) .nil))))))))))))) (.cons (.aggL (.cons .val (.cons (.whole (by simp) (by simp) (by simp)) (.cons (.whole (by simp) (by simp) (by simp)) (.cons (.whole (by simp) (by simp) (by simp)) (.cons (.whole (by simp) (by simp) (by simp)) (.cons .val (.cons (.whole (by simp) (by simp) (by simp)) (.cons (.whole (by simp) (by simp) (by simp)) (.cons (.whole (by simp) (by simp) (by simp)) (.cons (.whole (by simp) (by simp) (by simp)) (.cons (.whole (by simp) (by simp) (by simp)) (.cons (.whole (by simp) (by simp) (by simp)) .nil))))))))))))) (.cons .lst .nil))) ?_
   simp [-guardE_b, -Is_at, -Is_at', -Ls_at, -Ls_at', unk, unA, unE, unT, unC, flat, eL, eI, allInts, eP_Adj, eP_Cat, eP_Fn, Adj.cells, Cat.cells, Fn.cells]
   repeat (with_reducible refine And.intro ?_ ?_; · first | assumption | omega | (simp; done) | (simp; omega) | simp_all)
   refine guard_intro (fun g => ?_) (fun g => ?_)
   · have g12 : ¬ (¬ (v11 = true)) := by first | simpa using g | (simp at g; exact g) | (simp at g; omega)
     clear g
     replace h := if_r g12 h
     simp [-guardE_b, -Is_at, -Is_at', -Ls_at, -Ls_at', eL, eI, allInts, eP_Adj, eP_Cat, eP_Fn, Adj.cells, Cat.cells, Fn.cells]
     repeat (with_reducible refine And.intro ?_ ?_; · first | assumption | omega | (simp; done) | (simp; omega) | simp_all)
     replace h := bind_some h
     obtain ⟨v13, hv13, h⟩ := h
     refine callA_intro (w_s_l06Then _ _ v13 hv13) (.cons (.aggL (.cons .val (.cons .lst (.cons .lst (.cons .lst (.cons .lst (.cons .val (.cons .lst (.cons .lst (.cons .lst (.cons .lst (.cons .lst (.cons .lst .nil))))))))))))) (.cons (.aggL (.cons .val (.cons .lst (.cons .lst (.cons .lst (.cons .lst (.cons .val (.cons .lst (.cons .lst (.cons .lst (.cons .lst (.cons .lst (.cons .lst .nil))))))))))))) .nil)) ?_
     simp [-guardE_b, -Is_at, -Is_at', -Ls_at, -Ls_at', unk, unA, unE, unT, unC, flat, eL, eI, allInts, eP_Adj, eP_Cat, eP_Fn, Adj.cells, Cat.cells, Fn.cells]
     repeat (with_reducible refine And.intro ?_ ?_; · first | assumption | omega | (simp; done) | (simp; omega) | simp_all)
     replace h := bind_some h
     obtain ⟨v14, hv14, h⟩ := h
     refine callA_intro (w_s_l06Self _ v14 hv14) (.cons (.aggL (.cons .val (.cons .lst (.cons .lst (.cons .lst (.cons .lst .nil)))))) .nil) ?_
     simp [-guardE_b, -Is_at, -Is_at', -Ls_at, -Ls_at', unk, unA, unE, unT, unC, flat, eL, eI, allInts, eP_Adj, eP_Cat, eP_Fn, Adj.cells, Cat.cells, Fn.cells]
     repeat (with_reducible refine And.intro ?_ ?_; · first | assumption | omega | (simp; done) | (simp; omega) | simp_all)
     replace h := bind_some h
     obtain ⟨v15, hv15, h⟩ := h
     refine callA_intro (w_s_l15Natural _ _ _ v15 hv15) (.cons (.aggL (.cons .val (.cons (.whole (by simp) (by simp) (by simp)) (.cons (.whole (by simp) (by simp) (by simp)) (.cons (.whole (by simp) (by simp) (by simp)) (.cons (.whole (by simp) (by simp) (by simp)) (.cons .val (.cons (.whole (by simp) (by simp) (by simp)) (.cons (.whole (by simp) (by simp) (by simp)) (.cons (.whole (by simp) (by simp) (by simp)) (.cons (.whole (by simp) (by simp) (by simp)) (.cons (.whole (by simp) (by simp) (by simp)) (.cons (.whole (by simp) (by simp) (by simp)) .nil))))))))))))) (.cons (.aggL (.cons .val (.cons (.whole (by simp) (by simp) (by simp)) (.cons (.whole (by simp) (by simp) (by simp)) (.cons (.whole (by simp) (by simp) (by simp)) (.cons (.whole (by simp) (by simp) (by simp)) (.cons .val (.cons (.whole (by simp) (by simp) (by simp)) (.cons (.whole (by simp) (by simp) (by simp)) (.cons (.whole (by simp) (by simp) (by simp)) (.cons (.whole (by simp) (by simp) (by simp)) (.cons (.whole (by simp) (by simp) (by simp)) (.cons (.whole (by simp) (by simp) (by simp)) .nil))))))))))))) (.cons .lst .nil))) ?_
     simp [-guardE_b, -Is_at, -Is_at', -Ls_at, -Ls_at', unk, unA, unE, unT, unC, flat, eL, eI, allInts, eP_Adj, eP_Cat, eP_Fn, Adj.cells, Cat.cells, Fn.cells]
     repeat (with_reducible refine And.intro ?_ ?_; · first | assumption | omega | (simp; done) | (simp; omega) | simp_all)
     refine hK _ ?_
     exact jn (b := !v15) (Option.some.inj h) (Wk.r1 [(0, 0), (1, 1), (2, 2), (3, 3), (4, 4)] (by simp [hP, hhOk, back, Adj.cells, Cat.cells, Fn.cells, IA, I1, LA, L1, BA, B1, EA, E1, E2, eB, eI, eL]))
   have g12 : ¬ (v11 = true) := by first | simpa using g | (simp at g; exact g) | (simp at g; omega)
   clear g
   replace h := if_l g12 h
   simp [-guardE_b, -Is_at, -Is_at', -Ls_at, -Ls_at', eL, eI, allInts, eP_Adj, eP_Cat, eP_Fn, Adj.cells, Cat.cells, Fn.cells]
   repeat (with_reducible refine And.intro ?_ ?_; · first | assumption | omega | (simp; done) | (simp; omega) | simp_all)
   refine hK _ ?_
   exact jn (b := true) (Option.some.inj h) (Wk.r1 [(0, 0), (1, 1), (2, 2), (3, 3), (4, 4)] (by simp [hP, hhOk, back, Adj.cells, Cat.cells, Fn.cells, IA, I1, LA, L1, BA, B1, EA, E1, E2, eB, eI, eL]))
 intro b8 hb8
 have h := h8
 rw [← hb8] at h
 clear h8
 try dsimp only at h
 refine w_cond rfl (fun g => ?_) fun g => ?_
 · have g16 : b8 = true := by first | simpa using g | (simp at g; exact g) | (simp at g; omega)
   clear g
   replace h := if_l g16 h
   refine w_seq ?_
   refine w_run mo (by rw [hN]; decide) fun K hK => ?_
   simp [-guardE_b, -Is_at, -Is_at', -Ls_at, -Ls_at', eL, eI, allInts, eP_Adj, eP_Cat, eP_Fn, Adj.cells, Cat.cells, Fn.cells]
   repeat (with_reducible refine And.intro ?_ ?_; · first | assumption | omega | (simp; done) | (simp; omega) | simp_all)
   refine hK _ ?_
   clear hK K
   refine tn ?_
   refine w_weak (st' := ⟨[(2, .val (.bool false))], [], 0⟩) (Wk.r1 [] (by simp [hP, hhOk, back, Adj.cells, Cat.cells, Fn.cells, IA, I1, LA, L1, BA, B1, EA, E1, E2, eB, eI, eL])) ?_
   refine w_ret ?_
   refine tr ?_
   have hr := Option.some.inj h
   rw [← hr]
   refine ⟨_, (.tmp .nil), ?_⟩
   refine ⟨(.one rfl rfl .nil), [.val (.bool false)], [], by simp [Adj.cells, Cat.cells, Fn.cells, IA, I1, LA, L1, BA, B1, EA, E1, E2, eB, eI, eL], by simp, (UpL.refl _)⟩
 have g16 : ¬ (b8 = true) := by first | simpa using g | (simp at g; exact g) | (simp at g; omega)
 clear g
 replace h := if_r g16 h
 refine w_skip ?_
 refine tn ?_
 refine w_seq ?_
 refine w_seq ?_
 refine w_run mo (by rw [hN]; decide) fun K hK => ?_
 simp [-guardE_b, -Is_at, -Is_at', -Ls_at, -Ls_at', eL, eI, allInts, eP_Adj, eP_Cat, eP_Fn, Adj.cells, Cat.cells, Fn.cells]
 repeat (with_reducible refine And.intro ?_ ?_; · first | assumption | omega | (simp; done) | (simp; omega) | simp_all)
 refine hK _ ?_
 clear hK K
 refine tn ?_
 refine w_weak (st' := ⟨[(1, .adr 0 0 0), (3, .adr 1 0 0), (4, .adr 2 0 0), (5, .adr 3 0 0), (6, .adr 4 0 0), (7, .val (.int .i64 0))], [(0, .mix 26 [(Adj.cells true a_)]), (1, .mix 12 [(Fn.cells true a_.l)]), (2, .mix 12 [(Fn.cells true a_.r)]), (3, .mix 5 [(Cat.cells true a_.l.s)]), (4, .mix 5 [(Cat.cells true a_.l.t)])], 5⟩) (Wk.r1 [(0, 0), (1, 1), (2, 2), (3, 3), (4, 4)] (by simp [hP, hhOk, back, Adj.cells, Cat.cells, Fn.cells, IA, I1, LA, L1, BA, B1, EA, E1, E2, eB, eI, eL])) ?_
 replace h := bind_some h
 obtain ⟨e17, h, h17⟩ := h
 refine w_joinT (fun b17 : Unit => ⟨[(1, .adr 0 0 0), (4, .adr 1 0 0), (5, .adr 2 0 0), (6, .adr 3 0 0)], [(0, .mix 26 [(Adj.cells true a_)]), (1, .mix 12 [(Fn.cells true a_.r)]), (2, .mix 5 [(Cat.cells true a_.l.s)]), (3, .mix 5 [(Cat.cells true a_.l.t)])], 4⟩) (fun b17 => Sum.inl b17 = e17) ?_ ?_
 · refine w_block ?_
   refine w_loopF h (fun s27 : Int => ⟨[(1, .adr 0 0 0), (3, .adr 1 0 0), (4, .adr 2 0 0), (5, .adr 3 0 0), (6, .adr 4 0 0), (7, .val (.int .i64 s27))], [(0, .mix 26 [(Adj.cells true a_)]), (1, .mix 12 [(Fn.cells true a_.l)]), (2, .mix 12 [(Fn.cells true a_.r)]), (3, .mix 5 [(Cat.cells true a_.l.s)]), (4, .mix 5 [(Cat.cells true a_.l.t)])], 5⟩) (Wk.r1 [(0, 0), (1, 1), (2, 2), (3, 3), (4, 4)] (by simp [hP, hhOk, back, Adj.cells, Cat.cells, Fn.cells, IA, I1, LA, L1, BA, B1, EA, E1, E2, eB, eI, eL])) ?_
   clear h
   intro k27 s27 c27 h hk27
   refine w_seq ?_
   refine w_seq ?_
   refine w_run mo (by rw [hN]; decide) fun K hK => ?_
   simp [-guardE_b, -Is_at, -Is_at', -Ls_at, -Ls_at', eL, eI, allInts, eP_Adj, eP_Cat, eP_Fn, Adj.cells, Cat.cells, Fn.cells]
   repeat (with_reducible refine And.intro ?_ ?_; · first | assumption | omega | (simp; done) | (simp; omega) | simp_all)
   refine hK _ ?_
   clear hK K
   refine tn ?_
   refine w_weak (st' := ⟨[(1, .adr 0 0 0), (3, .adr 1 0 0), (4, .adr 2 0 0), (5, .adr 3 0 0), (6, .adr 4 0 0), (7, .val (.int .i64 s27)), (54, .val (.bool (decide (s27 < a_.l.s.n))))], [(0, .mix 26 [(Adj.cells true a_)]), (1, .mix 12 [(Fn.cells true a_.l)]), (2, .mix 12 [(Fn.cells true a_.r)]), (3, .mix 5 [(Cat.cells true a_.l.s)]), (4, .mix 5 [(Cat.cells true a_.l.t)])], 5⟩) (Wk.r1 [(0, 0), (1, 1), (2, 2), (3, 3), (4, 4)] (by simp [hP, hhOk, back, Adj.cells, Cat.cells, Fn.cells, IA, I1, LA, L1, BA, B1, EA, E1, E2, eB, eI, eL])) ?_
   refine w_cond rfl (fun g => ?_) fun g => ?_
   · have g28 : s27 < a_.l.s.n := by first | simpa using g | (simp at g; exact g) | (simp at g; omega)
     clear g
     replace h := if_l g28 h
     refine w_skip ?_
     refine tn ?_
     refine w_seq ?_
     refine w_block ?_
     refine w_seq ?_
     refine w_run mo (by rw [hN]; decide) fun K hK => ?_
     replace h := ass_some h
     obtain ⟨a29, h⟩ := h
     replace h := ass_some h
     obtain ⟨a30, h⟩ := h
     replace h := ass_some h
     obtain ⟨a31, h⟩ := h
     replace h := ass_some h
     obtain ⟨a32, h⟩ := h
     simp [-guardE_b, -Is_at, -Is_at', -Ls_at, -Ls_at', eL, eI, allInts, eP_Adj, eP_Cat, eP_Fn, Adj.cells, Cat.cells, Fn.cells, at_I a29, at_I a30, at_I a31, at_I a32]
     repeat (with_reducible refine And.intro ?_ ?_; · first | assumption | omega | (simp; done) | (simp; omega) | simp_all)
     replace h := bind_some h
     obtain ⟨v33, hv33, h⟩ := h
     refine callA_intro (w_s_l02Then _ _ _ v33 hv33) (.cons (.aggL (.cons .val (.cons .lst (.cons .lst (.cons .lst (.cons .lst .nil)))))) (.cons .val (.cons .val .nil))) ?_
     simp [-guardE_b, -Is_at, -Is_at', -Ls_at, -Ls_at', unk, unA, unE, unT, unC, flat, eL, eI, allInts, eP_Adj, eP_Cat, eP_Fn, Adj.cells, Cat.cells, Fn.cells]
     repeat (with_reducible refine And.intro ?_ ?_; · first | assumption | omega | (simp; done) | (simp; omega) | simp_all)
     replace h := bind_some h
     obtain ⟨v34, hv34, h⟩ := h
     refine callA_intro (w_s_l02Unit _ _ v34 hv34) (.cons (.aggL (.cons .val (.cons .lst (.cons .lst (.cons .lst (.cons .lst .nil)))))) (.cons .val .nil)) ?_
     simp [-guardE_b, -Is_at, -Is_at', -Ls_at, -Ls_at', unk, unA, unE, unT, unC, flat, eL, eI, allInts, eP_Adj, eP_Cat, eP_Fn, Adj.cells, Cat.cells, Fn.cells]
     repeat (with_reducible refine And.intro ?_ ?_; · first | assumption | omega | (simp; done) | (simp; omega) | simp_all)
     refine hK _ ?_
     clear hK K
     refine tn ?_
     refine w_weak (st' := ⟨[(1, .adr 0 0 0), (3, .adr 1 0 0), (4, .adr 2 0 0), (5, .adr 3 0 0), (6, .adr 4 0 0), (7, .val (.int .i64 s27)), (79, .val (.bool (!v34)))], [(0, .mix 26 [(Adj.cells true a_)]), (1, .mix 12 [(Fn.cells true a_.l)]), (2, .mix 12 [(Fn.cells true a_.r)]), (3, .mix 5 [(Cat.cells true a_.l.s)]), (4, .mix 5 [(Cat.cells true a_.l.t)])], 5⟩) (Wk.r1 [(0, 0), (1, 1), (2, 2), (3, 3), (4, 4)] (by simp [hP, hhOk, back, Adj.cells, Cat.cells, Fn.cells, IA, I1, LA, L1, BA, B1, EA, E1, E2, eB, eI, eL])) ?_
     refine w_cond rfl (fun g => ?_) fun g => ?_
     · have g35 : ¬ (v34 = true) := by first | simpa using g | (simp at g; exact g) | (simp at g; omega)
       clear g
       replace h := if_l g35 h
       refine w_seq ?_
       refine w_run mo (by rw [hN]; decide) fun K hK => ?_
       simp [-guardE_b, -Is_at, -Is_at', -Ls_at, -Ls_at', eL, eI, allInts, eP_Adj, eP_Cat, eP_Fn, Adj.cells, Cat.cells, Fn.cells]
       repeat (with_reducible refine And.intro ?_ ?_; · first | assumption | omega | (simp; done) | (simp; omega) | simp_all)
       refine hK _ ?_
       clear hK K
       refine tn ?_
       refine w_weak (st' := ⟨[(2, .val (.bool false))], [], 0⟩) (Wk.r1 [] (by simp [hP, hhOk, back, Adj.cells, Cat.cells, Fn.cells, IA, I1, LA, L1, BA, B1, EA, E1, E2, eB, eI, eL])) ?_
       refine w_ret ?_
       refine br ?_
       refine tr ?_
       refine lr ?_
       refine br ?_
       refine tr ?_
       cases h
       have q : _ = e17 := hk27
       have h := h17
       rw [← q] at h
       clear q
       try dsimp only at h
       have hr := Option.some.inj h
       rw [← hr]
       refine ⟨_, (.tmp .nil), ?_⟩
       refine ⟨(.one rfl rfl .nil), [.val (.bool false)], [], by simp [Adj.cells, Cat.cells, Fn.cells, IA, I1, LA, L1, BA, B1, EA, E1, E2, eB, eI, eL], by simp, (UpL.refl _)⟩
     have g35 : ¬ (¬ (v34 = true)) := by first | simpa using g | (simp at g; exact g) | (simp at g; omega)
     clear g
     replace h := if_r g35 h
     refine w_skip ?_
     refine bn ?_
     refine tn ?_
     refine w_run mo (by rw [hN]; decide) fun K hK => ?_
     replace h := ass_some h
     obtain ⟨a36, h⟩ := h
     simp [-guardE_b, -Is_at, -Is_at', -Ls_at, -Ls_at', eL, eI, allInts, eP_Adj, eP_Cat, eP_Fn, Adj.cells, Cat.cells, Fn.cells, wrap_id a36]
     repeat (with_reducible refine And.intro ?_ ?_; · first | assumption | omega | (simp; done) | (simp; omega) | simp_all)
     refine hK _ ?_
     clear hK K
     cases h
     exact rn (s' := s27 + 1) hk27 (Wk.r1 [(0, 0), (1, 1), (2, 2), (3, 3), (4, 4)] (by simp [hP, hhOk, back, Adj.cells, Cat.cells, Fn.cells, IA, I1, LA, L1, BA, B1, EA, E1, E2, eB, eI, eL]))
   have g28 : ¬ (s27 < a_.l.s.n) := by first | simpa using g | (simp at g; exact g) | (simp at g; omega)
   clear g
   replace h := if_r g28 h
   refine w_exit ?_
   refine tx ?_
   refine lx ?_
   refine bh ?_
   cases h
   exact jn (b := ()) hk27 (Wk.r1 [(0, 0), (2, 1), (3, 2), (4, 3)] (by simp [hP, hhOk, back, Adj.cells, Cat.cells, Fn.cells, IA, I1, LA, L1, BA, B1, EA, E1, E2, eB, eI, eL]))
 intro b17 hb17
 have h := h17
 rw [← hb17] at h
 clear h17
 try dsimp only at h
 refine w_seq ?_
 refine w_seq ?_
 refine w_run mo (by rw [hN]; decide) fun K hK => ?_
 simp [-guardE_b, -Is_at, -Is_at', -Ls_at, -Ls_at', eL, eI, allInts, eP_Adj, eP_Cat, eP_Fn, Adj.cells, Cat.cells, Fn.cells]
 repeat (with_reducible refine And.intro ?_ ?_; · first | assumption | omega | (simp; done) | (simp; omega) | simp_all)
 refine hK _ ?_
 clear hK K
 refine tn ?_
 refine w_weak (st' := ⟨[(1, .adr 0 0 0), (4, .adr 1 0 0), (5, .adr 2 0 0), (6, .adr 3 0 0), (8, .val (.int .i64 0))], [(0, .mix 26 [(Adj.cells true a_)]), (1, .mix 12 [(Fn.cells true a_.r)]), (2, .mix 5 [(Cat.cells true a_.l.s)]), (3, .mix 5 [(Cat.cells true a_.l.t)])], 4⟩) (Wk.r1 [(0, 0), (1, 1), (2, 2), (3, 3)] (by simp [hP, hhOk, back, Adj.cells, Cat.cells, Fn.cells, IA, I1, LA, L1, BA, B1, EA, E1, E2, eB, eI, eL])) ?_
 replace h := bind_some h
 obtain ⟨e37, h, h37⟩ := h
 refine w_joinT (fun b37 : Unit => ⟨[], [], 0⟩) (fun b37 => Sum.inl b37 = e37) ?_ ?_
 · refine w_block ?_
   refine w_loopF h (fun s47 : Int => ⟨[(1, .adr 0 0 0), (4, .adr 1 0 0), (5, .adr 2 0 0), (6, .adr 3 0 0), (8, .val (.int .i64 s47))], [(0, .mix 26 [(Adj.cells true a_)]), (1, .mix 12 [(Fn.cells true a_.r)]), (2, .mix 5 [(Cat.cells true a_.l.s)]), (3, .mix 5 [(Cat.cells true a_.l.t)])], 4⟩) (Wk.r1 [(0, 0), (1, 1), (2, 2), (3, 3)] (by simp [hP, hhOk, back, Adj.cells, Cat.cells, Fn.cells, IA, I1, LA, L1, BA, B1, EA, E1, E2, eB, eI, eL])) ?_
   clear h
   intro k47 s47 c47 h hk47
   refine w_seq ?_
   refine w_seq ?_
   refine w_run mo (by rw [hN]; decide) fun K hK => ?_
   simp [-guardE_b, -Is_at, -Is_at', -Ls_at, -Ls_at', eL, eI, allInts, eP_Adj, eP_Cat, eP_Fn, Adj.cells, Cat.cells, Fn.cells]
   repeat (with_reducible refine And.intro ?_ ?_; · first | assumption | omega | (simp; done) | (simp; omega) | simp_all)
   refine hK _ ?_
   clear hK K
   refine tn ?_
   refine w_weak (st' := ⟨[(1, .adr 0 0 0), (4, .adr 1 0 0), (5, .adr 2 0 0), (6, .adr 3 0 0), (8, .val (.int .i64 s47)), (83, .val (.bool (decide (s47 < a_.l.t.n))))], [(0, .mix 26 [(Adj.cells true a_)]), (1, .mix 12 [(Fn.cells true a_.r)]), (2, .mix 5 [(Cat.cells true a_.l.s)]), (3, .mix 5 [(Cat.cells true a_.l.t)])], 4⟩) (Wk.r1 [(0, 0), (1, 1), (2, 2), (3, 3)] (by simp [hP, hhOk, back, Adj.cells, Cat.cells, Fn.cells, IA, I1, LA, L1, BA, B1, EA, E1, E2, eB, eI, eL])) ?_
   refine w_cond rfl (fun g => ?_) fun g => ?_
   · have g48 : s47 < a_.l.t.n := by first | simpa using g | (simp at g; exact g) | (simp at g; omega)
     clear g
     replace h := if_l g48 h
     refine w_skip ?_
     refine tn ?_
     refine w_seq ?_
     refine w_block ?_
     refine w_seq ?_
     refine w_run mo (by rw [hN]; decide) fun K hK => ?_
     replace h := ass_some h
     obtain ⟨a49, h⟩ := h
     replace h := ass_some h
     obtain ⟨a50, h⟩ := h
     replace h := ass_some h
     obtain ⟨a51, h⟩ := h
     replace h := ass_some h
     obtain ⟨a52, h⟩ := h
     simp [-guardE_b, -Is_at, -Is_at', -Ls_at, -Ls_at', eL, eI, allInts, eP_Adj, eP_Cat, eP_Fn, Adj.cells, Cat.cells, Fn.cells, at_I a49, at_I a50, at_I a51, at_I a52]
     repeat (with_reducible refine And.intro ?_ ?_; · first | assumption | omega | (simp; done) | (simp; omega) | simp_all)
     replace h := bind_some h
     obtain ⟨v53, hv53, h⟩ := h
     refine callA_intro (w_s_l02Then _ _ _ v53 hv53) (.cons (.aggL (.cons .val (.cons .lst (.cons .lst (.cons .lst (.cons .lst .nil)))))) (.cons .val (.cons .val .nil))) ?_
     simp [-guardE_b, -Is_at, -Is_at', -Ls_at, -Ls_at', unk, unA, unE, unT, unC, flat, eL, eI, allInts, eP_Adj, eP_Cat, eP_Fn, Adj.cells, Cat.cells, Fn.cells]
     repeat (with_reducible refine And.intro ?_ ?_; · first | assumption | omega | (simp; done) | (simp; omega) | simp_all)
     replace h := bind_some h
     obtain ⟨v54, hv54, h⟩ := h
     refine callA_intro (w_s_l02Unit _ _ v54 hv54) (.cons (.aggL (.cons .val (.cons .lst (.cons .lst (.cons .lst (.cons .lst .nil)))))) (.cons .val .nil)) ?_
     simp [-guardE_b, -Is_at, -Is_at', -Ls_at, -Ls_at', unk, unA, unE, unT, unC, flat, eL, eI, allInts, eP_Adj, eP_Cat, eP_Fn, Adj.cells, Cat.cells, Fn.cells]
     repeat (with_reducible refine And.intro ?_ ?_; · first | assumption | omega | (simp; done) | (simp; omega) | simp_all)
     refine hK _ ?_
     clear hK K
     refine tn ?_
     refine w_weak (st' := ⟨[(1, .adr 0 0 0), (4, .adr 1 0 0), (5, .adr 2 0 0), (6, .adr 3 0 0), (8, .val (.int .i64 s47)), (108, .val (.bool (!v54)))], [(0, .mix 26 [(Adj.cells true a_)]), (1, .mix 12 [(Fn.cells true a_.r)]), (2, .mix 5 [(Cat.cells true a_.l.s)]), (3, .mix 5 [(Cat.cells true a_.l.t)])], 4⟩) (Wk.r1 [(0, 0), (1, 1), (2, 2), (3, 3)] (by simp [hP, hhOk, back, Adj.cells, Cat.cells, Fn.cells, IA, I1, LA, L1, BA, B1, EA, E1, E2, eB, eI, eL])) ?_
     refine w_cond rfl (fun g => ?_) fun g => ?_
     · have g55 : ¬ (v54 = true) := by first | simpa using g | (simp at g; exact g) | (simp at g; omega)
       clear g
       replace h := if_l g55 h
       refine w_seq ?_
       refine w_run mo (by rw [hN]; decide) fun K hK => ?_
       simp [-guardE_b, -Is_at, -Is_at', -Ls_at, -Ls_at', eL, eI, allInts, eP_Adj, eP_Cat, eP_Fn, Adj.cells, Cat.cells, Fn.cells]
       repeat (with_reducible refine And.intro ?_ ?_; · first | assumption | omega | (simp; done) | (simp; omega) | simp_all)
       refine hK _ ?_
       clear hK K
       refine tn ?_
       refine w_weak (st' := ⟨[(2, .val (.bool false))], [], 0⟩) (Wk.r1 [] (by simp [hP, hhOk, back, Adj.cells, Cat.cells, Fn.cells, IA, I1, LA, L1, BA, B1, EA, E1, E2, eB, eI, eL])) ?_
       refine w_ret ?_
       refine br ?_
       refine tr ?_
       refine lr ?_
       refine br ?_
       refine tr ?_
       cases h
       have q : _ = e37 := hk47
       have h := h37
       rw [← q] at h
       clear q
       try dsimp only at h
       have hr := Option.some.inj h
       rw [← hr]
       refine ⟨_, (.tmp .nil), ?_⟩
       refine ⟨(.one rfl rfl .nil), [.val (.bool false)], [], by simp [Adj.cells, Cat.cells, Fn.cells, IA, I1, LA, L1, BA, B1, EA, E1, E2, eB, eI, eL], by simp, (UpL.refl _)⟩
     have g55 : ¬ (¬ (v54 = true)) := by first | simpa using g | (simp at g; exact g) | (simp at g; omega)
     clear g
     replace h := if_r g55 h
     refine w_skip ?_
     refine bn ?_
     refine tn ?_
     refine w_run mo (by rw [hN]; decide) fun K hK => ?_
     replace h := ass_some h
     obtain ⟨a56, h⟩ := h
     simp [-guardE_b, -Is_at, -Is_at', -Ls_at, -Ls_at', eL, eI, allInts, eP_Adj, eP_Cat, eP_Fn, Adj.cells, Cat.cells, Fn.cells, wrap_id a56]
     repeat (with_reducible refine And.intro ?_ ?_; · first | assumption | omega | (simp; done) | (simp; omega) | simp_all)
     refine hK _ ?_
     clear hK K
     cases h
     exact rn (s' := s47 + 1) hk47 (Wk.r1 [(0, 0), (1, 1), (2, 2), (3, 3)] (by simp [hP, hhOk, back, Adj.cells, Cat.cells, Fn.cells, IA, I1, LA, L1, BA, B1, EA, E1, E2, eB, eI, eL]))
   have g48 : ¬ (s47 < a_.l.t.n) := by first | simpa using g | (simp at g; exact g) | (simp at g; omega)
   clear g
   replace h := if_r g48 h
   refine w_exit ?_
   refine tx ?_
   refine lx ?_
   refine bh ?_
   cases h
   exact jn (b := ()) hk47 (Wk.r1 [] (by simp [hP, hhOk, back, Adj.cells, Cat.cells, Fn.cells, IA, I1, LA, L1, BA, B1, EA, E1, E2, eB, eI, eL]))
 intro b37 hb37
 have h := h37
 rw [← hb37] at h
 clear h37
 try dsimp only at h
 refine w_seq ?_
 refine w_run mo (by rw [hN]; decide) fun K hK => ?_
 simp [-guardE_b, -Is_at, -Is_at', -Ls_at, -Ls_at', eL, eI, allInts, eP_Adj, eP_Cat, eP_Fn, Adj.cells, Cat.cells, Fn.cells]
 repeat (with_reducible refine And.intro ?_ ?_; · first | assumption | omega | (simp; done) | (simp; omega) | simp_all)
 refine hK _ ?_
 clear hK K
 refine tn ?_
 refine w_weak (st' := ⟨[(2, .val (.bool true))], [], 0⟩) (Wk.r1 [] (by simp [hP, hhOk, back, Adj.cells, Cat.cells, Fn.cells, IA, I1, LA, L1, BA, B1, EA, E1, E2, eB, eI, eL])) ?_
 refine w_ret ?_
 have hr := Option.some.inj h
 rw [← hr]
 refine ⟨_, (.tmp .nil), ?_⟩
 refine ⟨(.one rfl rfl .nil), [.val (.bool true)], [], by simp [Adj.cells, Cat.cells, Fn.cells, IA, I1, LA, L1, BA, B1, EA, E1, E2, eB, eI, eL], by simp, (UpL.refl _)⟩
end Go.Vc.T

set_option maxRecDepth 100000
set_option linter.unusedSimpArgs false
set_option linter.unusedVariables false
namespace Go.Vc.T
open Go Go.Vc Go.Proofs
structure Adj.Pre (a : Adj) : Prop where
 hl : a.l.Is
 hr : a.r.Is
 e1 : a.l.t = a.r.s
 e2 : a.r.t = a.l.s
 n1 : NatT (selfF a.l.s) (thenF a.l a.r) a.u
 n2 : NatT (thenF a.r a.l) (selfF a.l.t) a.k
structure Adj.Is (a : Adj) : Prop where
 pre : a.Pre
 t1 : ∀ x : Nat, x < a.l.ob.length → ix (rx a.l.t.cs (ix a.l.ar (ix a.u x))) (ix a.k (ix a.l.ob x)) = ix a.l.t.id (ix a.l.ob x)
 t2 : ∀ y : Nat, y < a.r.ob.length → ix (rx a.l.s.cs (ix a.u (ix a.r.ob y))) (ix a.r.ar (ix a.k y)) = ix a.l.s.id (ix a.r.ob y)
theorem Adj.Pre.len {a : Adj} (h : a.Pre) : a.u.length = a.l.ob.length ∧ a.k.length = a.r.ob.length ∧ (a.l.ob.length : Int) = a.l.s.n ∧ (a.r.ob.length : Int) = a.l.t.n ∧ a.l.ar.length = a.l.s.fr.length ∧ a.r.ar.length = a.l.t.fr.length ∧ (a.l.s.id.length : Int) = a.l.s.n ∧ (a.l.t.id.length : Int) = a.l.t.n ∧ a.l.s.cs.length = a.l.s.fr.length ∧ a.l.t.cs.length = a.l.t.fr.length ∧ a.l.s.fr.length ≤ 40 ∧ a.l.t.fr.length ≤ 40 ∧ a.l.ob.length ≤ 8 ∧ a.r.ob.length ≤ 8 := by
 have h1 := h.n1.lp
 have h2 := h.n2.lp
 have h3 := h.hl.lo
 have h4 := h.hr.lo
 have h5 := h.hl.la
 have h6 := h.hr.la
 rw [← h.e1] at h4 h6
 simp only [selfF, thenF, iota_length, thenL_length] at h1 h2
 exact ⟨by omega, by omega, h3, h4, h5, h6, h.hl.s.1.li, h.hl.t.1.li, h.hl.s.1.lc, h.hl.t.1.lc, h.hl.s.1.m40, h.hl.t.1.m40, h.hl.lob, h.hr.lob⟩
theorem Adj.Pre.unit {a : Adj} (h : a.Pre) {x : Int} (h0 : 0 ≤ x) (h1 : x < a.l.ob.length) : (0 ≤ ix a.u x ∧ ix a.u x < a.l.s.fr.length) ∧ ix a.l.s.fr (ix a.u x) = x ∧ ix a.l.s.to (ix a.u x) = ix a.r.ob (ix a.l.ob x) := by
 obtain ⟨l1, l2, l3, l4, l5, l6, l7, l8, l9, l10, l11, l12, l13, l14⟩ := h.len
 obtain ⟨i, rfl⟩ : ∃ i : Nat, x = i := ⟨x.toNat, by omega⟩
 have q1 := h.n1.bd i (by omega)
 have q2 := h.n1.ends i (by omega)
 simp only [selfF, thenF] at q1 q2
 rw [ix_iota _ (by omega) (by omega), ix_thenL _ _ (by omega) (by omega)] at q2
 exact ⟨q1, q2⟩
theorem Adj.Pre.co {a : Adj} (h : a.Pre) {y : Int} (h0 : 0 ≤ y) (h1 : y < a.r.ob.length) : (0 ≤ ix a.k y ∧ ix a.k y < a.l.t.fr.length) ∧ ix a.l.t.fr (ix a.k y) = ix a.l.ob (ix a.r.ob y) ∧ ix a.l.t.to (ix a.k y) = y := by
 obtain ⟨l1, l2, l3, l4, l5, l6, l7, l8, l9, l10, l11, l12, l13, l14⟩ := h.len
 obtain ⟨i, rfl⟩ : ∃ i : Nat, y = i := ⟨y.toNat, by omega⟩
 have q1 := h.n2.bd i (by omega)
 have q2 := h.n2.ends i (by omega)
 simp only [selfF, thenF] at q1 q2
 rw [ix_iota _ (by omega) (by omega), ix_thenL _ _ (by omega) (by omega)] at q2
 exact ⟨q1, q2⟩
theorem Adj.Pre.lob {a : Adj} (h : a.Pre) {x : Int} (h0 : 0 ≤ x) (h1 : x < a.l.ob.length) : 0 ≤ ix a.l.ob x ∧ ix a.l.ob x < a.r.ob.length := by
 obtain ⟨l1, l2, l3, l4, _⟩ := h.len
 have := ix_bnd h.hl.ob h0 h1
 omega
theorem Adj.Pre.rob {a : Adj} (h : a.Pre) {y : Int} (h0 : 0 ≤ y) (h1 : y < a.r.ob.length) : 0 ≤ ix a.r.ob y ∧ ix a.r.ob y < a.l.ob.length := by
 obtain ⟨l1, l2, l3, l4, _⟩ := h.len
 have := ix_bnd h.hr.ob h0 h1
 rw [h.e2] at this
 omega
theorem Adj.Pre.lar {a : Adj} (h : a.Pre) {f : Int} (h0 : 0 ≤ f) (h1 : f < a.l.s.fr.length) : (0 ≤ ix a.l.ar f ∧ ix a.l.ar f < a.l.t.fr.length) ∧ ix a.l.t.fr (ix a.l.ar f) = ix a.l.ob (ix a.l.s.fr f) ∧ ix a.l.t.to (ix a.l.ar f) = ix a.l.ob (ix a.l.s.to f) := by
 have hla := h.hl.la
 obtain ⟨i, rfl⟩ : ∃ i : Nat, f = i := ⟨f.toNat, by omega⟩
 exact ⟨h.hl.ar i (by omega), h.hl.ends i (by omega)⟩
theorem Adj.Pre.rar {a : Adj} (h : a.Pre) {f : Int} (h0 : 0 ≤ f) (h1 : f < a.l.t.fr.length) : (0 ≤ ix a.r.ar f ∧ ix a.r.ar f < a.l.s.fr.length) ∧ ix a.l.s.fr (ix a.r.ar f) = ix a.r.ob (ix a.l.t.fr f) ∧ ix a.l.s.to (ix a.r.ar f) = ix a.r.ob (ix a.l.t.to f) := by
 have hra := h.hr.la
 have q1 := h.hr.ar
 have q2 := h.hr.ends
 rw [← h.e1] at hra q2
 rw [h.e2] at q1 q2
 obtain ⟨i, rfl⟩ : ∃ i : Nat, f = i := ⟨f.toNat, by omega⟩
 exact ⟨q1 i (by omega), q2 i (by omega)⟩
theorem Adj.Pre.tri1 {a : Adj} (h : a.Pre) {x : Int} (h0 : 0 ≤ x) (h1 : x < a.l.ob.length) : (0 ≤ ix (rx a.l.t.cs (ix a.l.ar (ix a.u x))) (ix a.k (ix a.l.ob x)) ∧ ix (rx a.l.t.cs (ix a.l.ar (ix a.u x))) (ix a.k (ix a.l.ob x)) < a.l.t.fr.length) ∧ ix a.l.t.fr (ix (rx a.l.t.cs (ix a.l.ar (ix a.u x))) (ix a.k (ix a.l.ob x))) = ix a.l.ob x := by
 obtain ⟨u1, u2, u3⟩ := h.unit h0 h1
 have o1 := h.lob h0 h1
 obtain ⟨k1, k2, k3⟩ := h.co o1.1 o1.2
 obtain ⟨a1, a2, a3⟩ := h.lar u1.1 u1.2
 have := (h.hl.t.1.cell' a1.1 a1.2 k1.1 k1.2).2 (by rw [a3, u3, k2])
 rw [a2, u2] at this
 exact ⟨⟨this.1, this.2.1⟩, this.2.2.1⟩
theorem Adj.Pre.tri2 {a : Adj} (h : a.Pre) {y : Int} (h0 : 0 ≤ y) (h1 : y < a.r.ob.length) : (0 ≤ ix (rx a.l.s.cs (ix a.u (ix a.r.ob y))) (ix a.r.ar (ix a.k y)) ∧ ix (rx a.l.s.cs (ix a.u (ix a.r.ob y))) (ix a.r.ar (ix a.k y)) < a.l.s.fr.length) ∧ ix a.l.s.fr (ix (rx a.l.s.cs (ix a.u (ix a.r.ob y))) (ix a.r.ar (ix a.k y))) = ix a.r.ob y := by
 have o1 := h.rob h0 h1
 obtain ⟨u1, u2, u3⟩ := h.unit o1.1 o1.2
 obtain ⟨k1, k2, k3⟩ := h.co h0 h1
 obtain ⟨a1, a2, a3⟩ := h.rar k1.1 k1.2
 have := (h.hl.s.1.cell' u1.1 u1.2 a1.1 a1.2).2 (by rw [u3, a2, k2])
 rw [u2] at this
 exact ⟨⟨this.1, this.2.1⟩, this.2.2.1⟩
theorem e_l02Unit {c : Cat} (hc : c.Is) {f : Int} (h0 : 0 ≤ f) (h1 : f < c.fr.length) : s_s_l02Unit c f = some (bo (f = ix c.id (ix c.fr f))) := by
 have := hc.1.fr' h0 h1
 unfold s_s_l02Unit
 rw [ass_pos ⟨h0, h1⟩, ass_pos this]
 by_cases h : ix c.id (ix c.fr f) = f
 · rw [bo_pos h.symm]; simp [h]
 rw [bo_neg (fun q => h q.symm)]; simp [h]
theorem e_l15Meets {f g : Fn} : s_s_l15Meets f g = some (bo (f.t = g.s ∧ g.t = f.s)) := by
 unfold s_s_l15Meets s_s_l02Same
 by_cases h1 : f.t = g.s <;> by_cases h2 : g.t = f.s <;> simp [bo, h1, h2]
theorem e_leadBack {f g : Fn} (hf : f.Is) : s_i_leadBack f g = some (bo (f.t = g.s ∧ g.t = f.s)) := by
 unfold s_i_leadBack
 rw [e_sameCat hf.s, e_sameCat hf.t]
 have e : (f.s = g.t) = (g.t = f.s) := propext ⟨Eq.symm, Eq.symm⟩
 by_cases h1 : f.t = g.s <;> by_cases h2 : g.t = f.s <;> simp [bo, e, h1, h2]
theorem para1 {l r : Fn} (hl : l.Is) (hr : r.Is) (e1 : l.t = r.s) (e2 : r.t = l.s) : Para (selfF l.s) (thenF l r) := ⟨self_is hl.s, then_is hl hr e1, rfl, by simp [selfF, thenF, e2]⟩
theorem para2 {l r : Fn} (hl : l.Is) (hr : r.Is) (e1 : l.t = r.s) (e2 : r.t = l.s) : Para (thenF r l) (selfF l.t) := ⟨then_is hr hl e2, self_is hl.t, by simp [selfF, thenF, e1], rfl⟩
theorem e_l15Is (a : Adj) : s_s_l15Is a = some (bo a.Is) := by
 unfold s_s_l15Is
 by_cases h1 : a.l.Is
 case neg => rw [bo_neg (show ¬ a.Is from fun q => h1 q.pre.hl)]; simp [e_l06Is, bo, h1]
 by_cases h2 : a.r.Is
 case neg => rw [bo_neg (show ¬ a.Is from fun q => h2 q.pre.hr)]; simp [e_l06Is, bo, h1, h2]
 by_cases h3 : a.l.t = a.r.s ∧ a.r.t = a.l.s
 case neg => rw [bo_neg (show ¬ a.Is from fun q => h3 ⟨q.pre.e1, q.pre.e2⟩)]; simp [e_l06Is, e_l15Meets, bo_pos h1, bo_pos h2, bo_neg h3]
 obtain ⟨e1, e2⟩ := h3
 simp only [e_l06Is, e_l15Meets, bo_pos h1, bo_pos h2, bo_pos (And.intro e1 e2), Option.bind_some, not_true_eq_false, if_false, Bool.not_true, Bool.false_eq_true, e_l06Self h1.s, e_l06Self h1.t, e_l06Then h1 h2 e1, e_l06Then h2 h1 e2, e_l15Natural (para1 h1 h2 e1 e2), e_l15Natural (para2 h1 h2 e1 e2)]
 by_cases n1 : NatT (selfF a.l.s) (thenF a.l a.r) a.u
 case neg => rw [bo_neg (show ¬ a.Is from fun q => n1 q.pre.n1), bo_neg n1]; simp
 by_cases n2 : NatT (thenF a.r a.l) (selfF a.l.t) a.k
 case neg => rw [bo_neg (show ¬ a.Is from fun q => n2 q.pre.n2), bo_neg n2]; simp [bo_pos n1]
 have hp : a.Pre := ⟨h1, h2, e1, e2, n1, n2⟩
 obtain ⟨l1, l2, l3, l4, l5, l6, l7, l8, l9, l10, l11, l12, l13, l14⟩ := hp.len
 simp only [bo_pos n1, bo_pos n2, Option.bind_some, not_true_eq_false, if_false, Bool.not_true, Bool.false_eq_true]
 refine chk_bind a.l.ob.length (fun x : Nat => ix (rx a.l.t.cs (ix a.l.ar (ix a.u x))) (ix a.k (ix a.l.ob x)) = ix a.l.t.id (ix a.l.ob x)) (eb := Sum.inr false) (eg := Sum.inl ()) (by omega) (fun x hi hq => ?_) (fun x hi hq => ?_) (by simp; try omega) (fun hx => ?_) fun q1 => ?_
 iterate 2
   obtain ⟨u1, u2, u3⟩ := hp.unit (x := x) (by omega) (by omega)
   have o1 := hp.lob (x := x) (by omega) (by omega)
   obtain ⟨k1, k2, k3⟩ := hp.co o1.1 o1.2
   obtain ⟨a1, a2, a3⟩ := hp.lar u1.1 u1.2
   have t1 := hp.tri1 (x := x) (by omega) (by omega)
   have r1 := h1.t.1.row' a1.1 a1.2
   have hu := e_l02Unit h1.t t1.1.1 t1.1.2
   rw [t1.2] at hu
   try rw [hq] at hu
   simp (disch := omega) [ass_pos, B64, e_l02Then, hu, hq, bo]; try omega
 · rw [bo_neg (show ¬ a.Is from fun q => hx q.t1)]
 simp only
 refine chk_bind a.r.ob.length (fun y : Nat => ix (rx a.l.s.cs (ix a.u (ix a.r.ob y))) (ix a.r.ar (ix a.k y)) = ix a.l.s.id (ix a.r.ob y)) (eb := Sum.inr false) (eg := Sum.inl ()) (by omega) (fun x hi hq => ?_) (fun x hi hq => ?_) (by simp; try omega) (fun hx => ?_) fun q2 => ?_
 iterate 2
   have o1 := hp.rob (y := x) (by omega) (by omega)
   obtain ⟨u1, u2, u3⟩ := hp.unit o1.1 o1.2
   obtain ⟨k1, k2, k3⟩ := hp.co (y := x) (by omega) (by omega)
   obtain ⟨a1, a2, a3⟩ := hp.rar k1.1 k1.2
   have t1 := hp.tri2 (y := x) (by omega) (by omega)
   have r1 := h1.s.1.row' u1.1 u1.2
   have hu := e_l02Unit h1.s t1.1.1 t1.1.2
   rw [t1.2] at hu
   try rw [hq] at hu
   simp (disch := omega) [ass_pos, B64, e_l02Then, hu, hq, bo]; try omega
 · rw [bo_neg (show ¬ a.Is from fun q => hx q.t2)]
 rw [bo_pos (show a.Is from ⟨hp, q1, q2⟩)]
theorem tra_is {f g : Fn} {p : List Int} (h : Para f g) : (⟨f, g, p⟩ : Tra).Is ↔ NatT f g p := ⟨fun q => q.n, fun q => ⟨h, q⟩⟩
theorem e_isAdj (a : Adj) : s_i_Adjunction_isAdjunction a = some (bo a.Is) := by
 unfold s_i_Adjunction_isAdjunction
 rw [e_areFunctors _ (by simp)]
 by_cases h : a.l.Is ∧ a.r.Is
 case neg => rw [bo_neg (show ¬ ∀ c ∈ [a.l, a.r], c.Is by simpa using h), bo_neg (show ¬ a.Is from fun q => h ⟨q.pre.hl, q.pre.hr⟩)]; simp
 rw [bo_pos (show ∀ c ∈ [a.l, a.r], c.Is by simpa using h)]
 obtain ⟨h1, h2⟩ := h
 rw [e_leadBack h1]
 by_cases h3 : a.l.t = a.r.s ∧ a.r.t = a.l.s
 case neg => rw [bo_neg h3, bo_neg (show ¬ a.Is from fun q => h3 ⟨q.pre.e1, q.pre.e2⟩)]; simp
 rw [bo_pos h3]
 obtain ⟨e1, e2⟩ := h3
 have key : s_i_Adjunction_fits a = some (bo a.Is) := by
   unfold s_i_Adjunction_fits
   simp only [e_Fthen h1 h2 e1, e_Fthen h2 h1 e2, e_identity h1.s, e_identity h1.t, Option.bind_some]
   rw [e_areNatural _ (by simp)]
   by_cases hn : NatT (selfF a.l.s) (thenF a.l a.r) a.u ∧ NatT (thenF a.r a.l) (selfF a.l.t) a.k
   case neg =>
     rw [bo_neg (show ¬ a.Is from fun q => hn ⟨q.pre.n1, q.pre.n2⟩), bo_neg (show ¬ ∀ t ∈ [(⟨selfF a.l.s, thenF a.l a.r, a.u⟩ : Tra), ⟨thenF a.r a.l, selfF a.l.t, a.k⟩], t.Is from fun q => hn ⟨(tra_is (para1 h1 h2 e1 e2)).1 (q _ (by simp)), (tra_is (para2 h1 h2 e1 e2)).1 (q _ (by simp))⟩)]
     simp
   obtain ⟨n1, n2⟩ := hn
   rw [bo_pos (show ∀ t ∈ [(⟨selfF a.l.s, thenF a.l a.r, a.u⟩ : Tra), ⟨thenF a.r a.l, selfF a.l.t, a.k⟩], t.Is by
     intro t ht
     simp only [List.mem_cons, List.not_mem_nil, or_false] at ht
     rcases ht with rfl | rfl
     · exact (tra_is (para1 h1 h2 e1 e2)).2 n1
     exact (tra_is (para2 h1 h2 e1 e2)).2 n2)]
   have hp : a.Pre := ⟨h1, h2, e1, e2, n1, n2⟩
   obtain ⟨l1, l2, l3, l4, l5, l6, l7, l8, l9, l10, l11, l12, l13, l14⟩ := hp.len
   simp only [Option.bind_some, not_true_eq_false, if_false]
   refine chk_bind a.l.ob.length (fun x : Nat => ix (rx a.l.t.cs (ix a.l.ar (ix a.u x))) (ix a.k (ix a.l.ob x)) = ix a.l.t.id (ix a.l.ob x)) (eb := Sum.inr false) (eg := Sum.inl ()) (by omega) (fun x hi hq => ?_) (fun x hi hq => ?_) (by simp; try omega) (fun hx => ?_) fun q1 => ?_
   iterate 2
     obtain ⟨u1, u2, u3⟩ := hp.unit (x := x) (by omega) (by omega)
     have o1 := hp.lob (x := x) (by omega) (by omega)
     obtain ⟨k1, k2, k3⟩ := hp.co o1.1 o1.2
     obtain ⟨a1, a2, a3⟩ := hp.lar u1.1 u1.2
     have r1 := h1.t.1.row' a1.1 a1.2
     simp (disch := omega) [ass_pos, B64, e_Cthen, hq, hi]; try omega
   · rw [bo_neg (show ¬ a.Is from fun q => hx q.t1)]
   simp only
   refine chk_bind a.r.ob.length (fun y : Nat => ix (rx a.l.s.cs (ix a.u (ix a.r.ob y))) (ix a.r.ar (ix a.k y)) = ix a.l.s.id (ix a.r.ob y)) (eb := Sum.inr false) (eg := Sum.inl ()) (by omega) (fun x hi hq => ?_) (fun x hi hq => ?_) (by simp; try omega) (fun hx => ?_) fun q2 => ?_
   iterate 2
     have o1 := hp.rob (y := x) (by omega) (by omega)
     obtain ⟨u1, u2, u3⟩ := hp.unit o1.1 o1.2
     obtain ⟨k1, k2, k3⟩ := hp.co (y := x) (by omega) (by omega)
     obtain ⟨a1, a2, a3⟩ := hp.rar k1.1 k1.2
     have r1 := h1.s.1.row' u1.1 u1.2
     simp (disch := omega) [ass_pos, B64, e_Cthen, hq, hi]; try omega
   · rw [bo_neg (show ¬ a.Is from fun q => hx q.t2)]
   rw [bo_pos (show a.Is from ⟨hp, q1, q2⟩)]
 simp [key]
end Go.Vc.T

set_option maxRecDepth 100000
set_option linter.unusedSimpArgs false
set_option linter.unusedVariables false
namespace Go.Vc.T
open Go Go.Vc Go.Proofs
noncomputable def s_i_adjunction (f_ : Fn) (g_ : Fn) (unit_ : List Int) (counit_ : List Int) : Option Adj :=
 (s_i_Functor_copy f_).bind fun v1 =>
 (s_i_Functor_copy g_).bind fun v2 =>
 (s_i_clone unit_).bind fun v3 =>
 (s_i_clone counit_).bind fun v4 =>
 some (⟨v1, v2, v3, v4⟩ : Adj)
set_option maxHeartbeats 4000000 in
theorem w_i_adjunction (f_ : Fn) (g_ : Fn) (unit_ : List Int) (counit_ : List Int) (r : Adj) (h : s_i_adjunction f_ g_ unit_ counit_ = some r) : Contract Try.prog 126 [.rptr (f_.cells true), .rptr (g_.cells true), .lst true 1 (Is unit_), .lst true 1 (Is counit_)] (.agg (r.cells true)) := by
 refine contract_introG (rvs := [.cell 8 37]) (rs := [.agg (r.cells true)]) Try.func126 rfl rfl rfl rfl (by simp [Try.f126]) fun F hN hP => ?_
 unfold s_i_adjunction at h
 refine w_seq ?_
 refine w_run mo (by rw [hN]; decide) fun K hK => ?_
 simp [-guardE_b, -Is_at, -Is_at', -Ls_at, -Ls_at', eL, eI, allInts, eP_Adj, eP_Fn, Adj.cells, Fn.cells]
 repeat (with_reducible refine And.intro ?_ ?_; · first | assumption | omega | (simp; done) | (simp; omega) | simp_all)
 refine hK _ ?_
 clear hK K
 refine tn ?_
 refine w_weak (st' := ⟨[(0, .rptr (Fn.cells true f_)), (1, .rptr (Fn.cells true g_)), (2, .lst true 1 (Is unit_)), (3, .lst true 1 (Is counit_)), (8, .adr 0 0 0)], [(0, .mix 26 [[.val (.int .i64 0), .val (.slice none 0 0), .val (.slice none 0 0), .val (.slice none 0 0), .val (.slice none 0 0), .val (.int .i64 0), .val (.slice none 0 0), .val (.slice none 0 0), .val (.slice none 0 0), .val (.slice none 0 0), .val (.slice none 0 0), .val (.slice none 0 0), .val (.int .i64 0), .val (.slice none 0 0), .val (.slice none 0 0), .val (.slice none 0 0), .val (.slice none 0 0), .val (.int .i64 0), .val (.slice none 0 0), .val (.slice none 0 0), .val (.slice none 0 0), .val (.slice none 0 0), .val (.slice none 0 0), .val (.slice none 0 0), .val (.slice none 0 0), .val (.slice none 0 0)]])], 1⟩) (Wk.r1 [(0, 0)] (by simp [hP, hhOk, back, Adj.cells, Fn.cells, IA, I1, LA, L1, BA, B1, EA, E1, E2, eB, eI, eL])) ?_
 refine w_seq ?_
 refine w_run mo (by rw [hN]; decide) fun K hK => ?_
 simp [-guardE_b, -Is_at, -Is_at', -Ls_at, -Ls_at', eL, eI, allInts, eP_Adj, eP_Fn, Adj.cells, Fn.cells]
 repeat (with_reducible refine And.intro ?_ ?_; · first | assumption | omega | (simp; done) | (simp; omega) | simp_all)
 replace h := bind_some h
 obtain ⟨v1, hv1, h⟩ := h
 refine callA_intro (w_i_Functor_copy _ v1 hv1) (.cons (.preT (by simp [Fn.cells])) .nil) ?_
 simp [-guardE_b, -Is_at, -Is_at', -Ls_at, -Ls_at', unk, unA, unE, unT, unC, flat, eL, eI, allInts, eP_Adj, eP_Fn, Adj.cells, Fn.cells]
 repeat (with_reducible refine And.intro ?_ ?_; · first | assumption | omega | (simp; done) | (simp; omega) | simp_all)
 replace h := bind_some h
 obtain ⟨v2, hv2, h⟩ := h
 refine callA_intro (w_i_Functor_copy _ v2 hv2) (.cons (.preT (by simp [Fn.cells])) .nil) ?_
 simp [-guardE_b, -Is_at, -Is_at', -Ls_at, -Ls_at', unk, unA, unE, unT, unC, flat, eL, eI, allInts, eP_Adj, eP_Fn, Adj.cells, Fn.cells]
 repeat (with_reducible refine And.intro ?_ ?_; · first | assumption | omega | (simp; done) | (simp; omega) | simp_all)
 replace h := bind_some h
 obtain ⟨v3, hv3, h⟩ := h
 refine callA_intro (w_i_clone _ v3 hv3) (.cons .lst .nil) ?_
 simp [-guardE_b, -Is_at, -Is_at', -Ls_at, -Ls_at', unk, unA, unE, unT, unC, flat, eL, eI, allInts, eP_Adj, eP_Fn, Adj.cells, Fn.cells]
 repeat (with_reducible refine And.intro ?_ ?_; · first | assumption | omega | (simp; done) | (simp; omega) | simp_all)
 replace h := bind_some h
 obtain ⟨v4, hv4, h⟩ := h
 refine callA_intro (w_i_clone _ v4 hv4) (.cons .lst .nil) ?_
 simp [-guardE_b, -Is_at, -Is_at', -Ls_at, -Ls_at', unk, unA, unE, unT, unC, flat, eL, eI, allInts, eP_Adj, eP_Fn, Adj.cells, Fn.cells]
 repeat (with_reducible refine And.intro ?_ ?_; · first | assumption | omega | (simp; done) | (simp; omega) | simp_all)
 refine hK _ ?_
 clear hK K
 refine tn ?_
 refine w_weak (st' := ⟨[(8, .adr 0 0 0)], [(0, .mix 26 [[.val (.int .i64 v1.s.n), .own 1 0 v1.s.fr.length, .own 2 0 v1.s.to.length, .own 3 0 v1.s.id.length, .own 4 0 v1.s.cs.length, .val (.int .i64 v1.t.n), .own 5 0 v1.t.fr.length, .own 6 0 v1.t.to.length, .own 7 0 v1.t.id.length, .own 8 0 v1.t.cs.length, .own 9 0 v1.ob.length, .own 10 0 v1.ar.length, .val (.int .i64 v2.s.n), .own 11 0 v2.s.fr.length, .own 12 0 v2.s.to.length, .own 13 0 v2.s.id.length, .own 14 0 v2.s.cs.length, .val (.int .i64 v2.t.n), .own 15 0 v2.t.fr.length, .own 16 0 v2.t.to.length, .own 17 0 v2.t.id.length, .own 18 0 v2.t.cs.length, .own 19 0 v2.ob.length, .own 20 0 v2.ar.length, .own 21 0 v3.length, .own 22 0 v4.length]]), (1, .row 1 (Is v1.s.fr)), (2, .row 1 (Is v1.s.to)), (3, .row 1 (Is v1.s.id)), (4, .row 1 (Ls v1.s.cs)), (5, .row 1 (Is v1.t.fr)), (6, .row 1 (Is v1.t.to)), (7, .row 1 (Is v1.t.id)), (8, .row 1 (Ls v1.t.cs)), (9, .row 1 (Is v1.ob)), (10, .row 1 (Is v1.ar)), (11, .row 1 (Is v2.s.fr)), (12, .row 1 (Is v2.s.to)), (13, .row 1 (Is v2.s.id)), (14, .row 1 (Ls v2.s.cs)), (15, .row 1 (Is v2.t.fr)), (16, .row 1 (Is v2.t.to)), (17, .row 1 (Is v2.t.id)), (18, .row 1 (Ls v2.t.cs)), (19, .row 1 (Is v2.ob)), (20, .row 1 (Is v2.ar)), (21, .row 1 (Is v3)), (22, .row 1 (Is v4))], 23⟩) (Wk.r1 [(0, 0), (2, 1), (3, 2), (4, 3), (5, 4), (7, 5), (8, 6), (9, 7), (10, 8), (11, 9), (12, 10), (14, 11), (15, 12), (16, 13), (17, 14), (19, 15), (20, 16), (21, 17), (22, 18), (23, 19), (24, 20), (25, 21), (26, 22)] (by simp [hP, hhOk, back, Adj.cells, Fn.cells, IA, I1, LA, L1, BA, B1, EA, E1, E2, eB, eI, eL])) ?_
 refine w_ret ?_
 have hr := Option.some.inj h
 rw [← hr]
 refine ⟨_, (.cell tf_37 rfl rfl rfl (by simp) (by simp) .nil), ?_⟩
 refine ⟨(.agg rfl .nil), [.val (.int .i64 v1.s.n), .lst true 1 (Is v1.s.fr), .lst true 1 (Is v1.s.to), .lst true 1 (Is v1.s.id), .lst true 1 (Ls v1.s.cs), .val (.int .i64 v1.t.n), .lst true 1 (Is v1.t.fr), .lst true 1 (Is v1.t.to), .lst true 1 (Is v1.t.id), .lst true 1 (Ls v1.t.cs), .lst true 1 (Is v1.ob), .lst true 1 (Is v1.ar), .val (.int .i64 v2.s.n), .lst true 1 (Is v2.s.fr), .lst true 1 (Is v2.s.to), .lst true 1 (Is v2.s.id), .lst true 1 (Ls v2.s.cs), .val (.int .i64 v2.t.n), .lst true 1 (Is v2.t.fr), .lst true 1 (Is v2.t.to), .lst true 1 (Is v2.t.id), .lst true 1 (Ls v2.t.cs), .lst true 1 (Is v2.ob), .lst true 1 (Is v2.ar), .lst true 1 (Is v3), .lst true 1 (Is v4)], [1, 2, 3, 4, 5, 6, 7, 8, 9, 10, 11, 12, 13, 14, 15, 16, 17, 18, 19, 20, 21, 22], by simp [Adj.cells, Fn.cells, IA, I1, LA, L1, BA, B1, EA, E1, E2, eB, eI, eL], by simp, (UpL.refl _)⟩
end Go.Vc.T

set_option maxRecDepth 100000
set_option linter.unusedSimpArgs false
set_option linter.unusedVariables false
namespace Go.Vc.T
open Go Go.Vc Go.Proofs
noncomputable def s_i_ThenAdjunctions (a_ : Adj) (b_ : Adj) : Option (Adj × Int) :=
 (
   (s_i_Adjunction_isAdjunction a_).bind fun v2 =>
   if ¬ (v2 = true) then
     some true
   else
     (s_i_Adjunction_isAdjunction b_).bind fun v4 =>
     some (!v4) : Option (Bool)).bind fun b1 =>
 if b1 = true then
   some ((⟨(⟨(⟨0, [], [], [], []⟩ : Cat), (⟨0, [], [], [], []⟩ : Cat), [], []⟩ : Fn), (⟨(⟨0, [], [], [], []⟩ : Cat), (⟨0, [], [], [], []⟩ : Cat), [], []⟩ : Fn), [], []⟩ : Adj), 1)
 else
   (s_i_sameCategory a_.l.t b_.l.s).bind fun v6 =>
   if ¬ (v6 = true) then
     some ((⟨(⟨(⟨0, [], [], [], []⟩ : Cat), (⟨0, [], [], [], []⟩ : Cat), [], []⟩ : Fn), (⟨(⟨0, [], [], [], []⟩ : Cat), (⟨0, [], [], [], []⟩ : Cat), [], []⟩ : Fn), [], []⟩ : Adj), 5)
   else
     (s_i_Functor_then a_.l b_.l).bind fun v8 =>
     (s_i_Functor_then b_.r a_.r).bind fun v9 =>
     (loopF (σ := List Int × Int) (ε := List Int) (fun s17 =>
       if s17.2 < (a_.l.ob.length : Int) then
         ass (0 ≤ s17.2 ∧ s17.2 < (a_.l.ob.length : Int)) <|
         ass (0 ≤ ix a_.l.ob s17.2 ∧ ix a_.l.ob s17.2 < (b_.u.length : Int)) <|
         (s_i_Adjunction_transpose a_ s17.2 (ix b_.u (ix a_.l.ob s17.2))).bind fun v21 =>
         ass ((s17.1 ++ [v21]).length ≤ 1073741824) <|
         ass (B64 (s17.2 + 1)) <|
         some (Ctl.next (s17.1 ++ [v21], s17.2 + 1))
       else
         some (Ctl.ret s17.1)) fuel ([], 0)).bind fun b10 =>
     (loopF (σ := List Int × Int) (ε := List Int) (fun s31 =>
       if s31.2 < (b_.r.ob.length : Int) then
         ass (0 ≤ s31.2 ∧ s31.2 < (b_.r.ob.length : Int)) <|
         ass (0 ≤ ix b_.r.ob s31.2 ∧ ix b_.r.ob s31.2 < (a_.k.length : Int)) <|
         (s_i_Adjunction_transposeBack b_ s31.2 (ix a_.k (ix b_.r.ob s31.2))).bind fun v35 =>
         ass ((s31.1 ++ [v35]).length ≤ 1073741824) <|
         ass (B64 (s31.2 + 1)) <|
         some (Ctl.next (s31.1 ++ [v35], s31.2 + 1))
       else
         some (Ctl.ret s31.1)) fuel ([], 0)).bind fun b24 =>
     (s_i_adjunction v8 v9 b10 b24).bind fun v38 =>
     some (v38, 0)
set_option maxHeartbeats 4000000 in
theorem w_i_ThenAdjunctions (a_ : Adj) (b_ : Adj) (r : Adj × Int) (h : s_i_ThenAdjunctions a_ b_ = some r) : Contract Try.prog 50 [.agg (a_.cells true), .agg (b_.cells true)] (.tup [.agg (r.1.cells true), .val (.int .i64 r.2)]) := by
 refine contract_introG (rvs := [.cell 4 37, .tmp 5]) (rs := [.agg (r.1.cells true), .val (.int .i64 r.2)]) Try.func50 rfl rfl rfl rfl (by simp [Try.f50]) fun F hN hP => ?_
 unfold s_i_ThenAdjunctions at h
 refine w_seq ?_
 refine w_run mo (by rw [hN]; decide) fun K hK => ?_
 simp [-guardE_b, -Is_at, -Is_at', -Ls_at, -Ls_at', eL, eI, allInts, eP_Adj, eP_Cat, eP_Fn, Adj.cells, Cat.cells, Fn.cells]
 repeat (with_reducible refine And.intro ?_ ?_; · first | assumption | omega | (simp; done) | (simp; omega) | simp_all)
 refine hK _ ?_
 clear hK K
 refine tn ?_
 refine w_weak (st' := ⟨[(2, .adr 0 0 0), (3, .adr 1 0 0), (4, .adr 2 0 0)], [(0, .mix 26 [(Adj.cells true a_)]), (1, .mix 26 [(Adj.cells true b_)]), (2, .mix 26 [[.val (.int .i64 0), .val (.slice none 0 0), .val (.slice none 0 0), .val (.slice none 0 0), .val (.slice none 0 0), .val (.int .i64 0), .val (.slice none 0 0), .val (.slice none 0 0), .val (.slice none 0 0), .val (.slice none 0 0), .val (.slice none 0 0), .val (.slice none 0 0), .val (.int .i64 0), .val (.slice none 0 0), .val (.slice none 0 0), .val (.slice none 0 0), .val (.slice none 0 0), .val (.int .i64 0), .val (.slice none 0 0), .val (.slice none 0 0), .val (.slice none 0 0), .val (.slice none 0 0), .val (.slice none 0 0), .val (.slice none 0 0), .val (.slice none 0 0), .val (.slice none 0 0)]])], 3⟩) (Wk.r1 [(0, 0), (1, 1), (2, 2)] (by simp [hP, hhOk, back, Adj.cells, Cat.cells, Fn.cells, IA, I1, LA, L1, BA, B1, EA, E1, E2, eB, eI, eL])) ?_
 refine w_seq ?_
 refine w_seq ?_
 replace h := bind_some h
 obtain ⟨e1, h, h1⟩ := h
 refine w_joinT (fun b1 : Bool => ⟨[(2, .adr 0 0 0), (3, .adr 1 0 0), (4, .adr 2 0 0), (19, .val (.bool b1))], [(0, .mix 26 [(Adj.cells true a_)]), (1, .mix 26 [(Adj.cells true b_)]), (2, .mix 26 [[.val (.int .i64 0), .val (.slice none 0 0), .val (.slice none 0 0), .val (.slice none 0 0), .val (.slice none 0 0), .val (.int .i64 0), .val (.slice none 0 0), .val (.slice none 0 0), .val (.slice none 0 0), .val (.slice none 0 0), .val (.slice none 0 0), .val (.slice none 0 0), .val (.int .i64 0), .val (.slice none 0 0), .val (.slice none 0 0), .val (.slice none 0 0), .val (.slice none 0 0), .val (.int .i64 0), .val (.slice none 0 0), .val (.slice none 0 0), .val (.slice none 0 0), .val (.slice none 0 0), .val (.slice none 0 0), .val (.slice none 0 0), .val (.slice none 0 0), .val (.slice none 0 0)]])], 3⟩) (fun b1 => b1 = e1) ?_ ?_
 · refine w_run mo (by rw [hN]; decide) fun K hK => ?_
   simp [-guardE_b, -Is_at, -Is_at', -Ls_at, -Ls_at', eL, eI, allInts, eP_Adj, eP_Cat, eP_Fn, Adj.cells, Cat.cells, Fn.cells]
   repeat (with_reducible refine And.intro ?_ ?_; · first | assumption | omega | (simp; done) | (simp; omega) | simp_all)
   replace h := bind_some h
   obtain ⟨v2, hv2, h⟩ := h
   refine callA_intro (w_i_Adjunction_isAdjunction _ v2 hv2) (.cons (.field rfl (by simp [Adj.cells]) (.cons .val (.cons .lst (.cons .lst (.cons .lst (.cons .lst (.cons .val (.cons .lst (.cons .lst (.cons .lst (.cons .lst (.cons .lst (.cons .lst (.cons .val (.cons .lst (.cons .lst (.cons .lst (.cons .lst (.cons .val (.cons .lst (.cons .lst (.cons .lst (.cons .lst (.cons .lst (.cons .lst (.cons .lst (.cons .lst .nil))))))))))))))))))))))))))) .nil) ?_
   simp [-guardE_b, -Is_at, -Is_at', -Ls_at, -Ls_at', unk, unA, unE, unT, unC, flat, eL, eI, allInts, eP_Adj, eP_Cat, eP_Fn, Adj.cells, Cat.cells, Fn.cells]
   repeat (with_reducible refine And.intro ?_ ?_; · first | assumption | omega | (simp; done) | (simp; omega) | simp_all)
   refine guard_intro (fun g => ?_) (fun g => ?_)
   · have g3 : ¬ (¬ (v2 = true)) := by first | simpa using g | (simp at g; exact g) | (simp at g; omega)
     clear g
     replace h := if_r g3 h
     simp [-guardE_b, -Is_at, -Is_at', -Ls_at, -Ls_at', eL, eI, allInts, eP_Adj, eP_Cat, eP_Fn, Adj.cells, Cat.cells, Fn.cells]
     repeat (with_reducible refine And.intro ?_ ?_; · first | assumption | omega | (simp; done) | (simp; omega) | simp_all)
     replace h := bind_some h
     obtain ⟨v4, hv4, h⟩ := h
     refine callA_intro (w_i_Adjunction_isAdjunction _ v4 hv4) (.cons (.field rfl (by simp [Adj.cells]) (.cons .val (.cons .lst (.cons .lst (.cons .lst (.cons .lst (.cons .val (.cons .lst (.cons .lst (.cons .lst (.cons .lst (.cons .lst (.cons .lst (.cons .val (.cons .lst (.cons .lst (.cons .lst (.cons .lst (.cons .val (.cons .lst (.cons .lst (.cons .lst (.cons .lst (.cons .lst (.cons .lst (.cons .lst (.cons .lst .nil))))))))))))))))))))))))))) .nil) ?_
     simp [-guardE_b, -Is_at, -Is_at', -Ls_at, -Ls_at', unk, unA, unE, unT, unC, flat, eL, eI, allInts, eP_Adj, eP_Cat, eP_Fn, Adj.cells, Cat.cells, Fn.cells]
     repeat (with_reducible refine And.intro ?_ ?_; · first | assumption | omega | (simp; done) | (simp; omega) | simp_all)
     refine hK _ ?_
     exact jn (b := !v4) (Option.some.inj h) (Wk.r1 [(0, 0), (1, 1), (2, 2)] (by simp [hP, hhOk, back, Adj.cells, Cat.cells, Fn.cells, IA, I1, LA, L1, BA, B1, EA, E1, E2, eB, eI, eL]))
   have g3 : ¬ (v2 = true) := by first | simpa using g | (simp at g; exact g) | (simp at g; omega)
   clear g
   replace h := if_l g3 h
   simp [-guardE_b, -Is_at, -Is_at', -Ls_at, -Ls_at', eL, eI, allInts, eP_Adj, eP_Cat, eP_Fn, Adj.cells, Cat.cells, Fn.cells]
   repeat (with_reducible refine And.intro ?_ ?_; · first | assumption | omega | (simp; done) | (simp; omega) | simp_all)
   refine hK _ ?_
   exact jn (b := true) (Option.some.inj h) (Wk.r1 [(0, 0), (1, 1), (2, 2)] (by simp [hP, hhOk, back, Adj.cells, Cat.cells, Fn.cells, IA, I1, LA, L1, BA, B1, EA, E1, E2, eB, eI, eL]))
 intro b1 hb1
 have h := h1
 rw [← hb1] at h
 clear h1
 try dsimp only at h
 refine w_cond rfl (fun g => ?_) fun g => ?_
 · have g5 : b1 = true := by first | simpa using g | (simp at g; exact g) | (simp at g; omega)
   clear g
   replace h := if_l g5 h
   refine w_seq ?_
   refine w_run mo (by rw [hN]; decide) fun K hK => ?_
   simp [-guardE_b, -Is_at, -Is_at', -Ls_at, -Ls_at', eL, eI, allInts, eP_Adj, eP_Cat, eP_Fn, Adj.cells, Cat.cells, Fn.cells]
   repeat (with_reducible refine And.intro ?_ ?_; · first | assumption | omega | (simp; done) | (simp; omega) | simp_all)
   refine hK _ ?_
   clear hK K
   refine tn ?_
   refine w_weak (st' := ⟨[(4, .adr 0 0 0), (5, .val (.int .i64 1))], [(0, .mix 26 [[.val (.int .i64 0), .val (.slice none 0 0), .val (.slice none 0 0), .val (.slice none 0 0), .val (.slice none 0 0), .val (.int .i64 0), .val (.slice none 0 0), .val (.slice none 0 0), .val (.slice none 0 0), .val (.slice none 0 0), .val (.slice none 0 0), .val (.slice none 0 0), .val (.int .i64 0), .val (.slice none 0 0), .val (.slice none 0 0), .val (.slice none 0 0), .val (.slice none 0 0), .val (.int .i64 0), .val (.slice none 0 0), .val (.slice none 0 0), .val (.slice none 0 0), .val (.slice none 0 0), .val (.slice none 0 0), .val (.slice none 0 0), .val (.slice none 0 0), .val (.slice none 0 0)]])], 1⟩) (Wk.r1 [(2, 0)] (by simp [hP, hhOk, back, Adj.cells, Cat.cells, Fn.cells, IA, I1, LA, L1, BA, B1, EA, E1, E2, eB, eI, eL])) ?_
   refine w_ret ?_
   refine tr ?_
   have hr := Option.some.inj h
   rw [← hr]
   refine ⟨_, (.cell tf_37 rfl rfl rfl (by simp) (by simp) (.tmp .nil)), ?_⟩
   refine ⟨(.agg rfl (.one rfl rfl .nil)), [.val (.int .i64 0), .val (.slice none 0 0), .val (.slice none 0 0), .val (.slice none 0 0), .val (.slice none 0 0), .val (.int .i64 0), .val (.slice none 0 0), .val (.slice none 0 0), .val (.slice none 0 0), .val (.slice none 0 0), .val (.slice none 0 0), .val (.slice none 0 0), .val (.int .i64 0), .val (.slice none 0 0), .val (.slice none 0 0), .val (.slice none 0 0), .val (.slice none 0 0), .val (.int .i64 0), .val (.slice none 0 0), .val (.slice none 0 0), .val (.slice none 0 0), .val (.slice none 0 0), .val (.slice none 0 0), .val (.slice none 0 0), .val (.slice none 0 0), .val (.slice none 0 0), .val (.int .i64 1)], [], by simp [Adj.cells, Cat.cells, Fn.cells, IA, I1, LA, L1, BA, B1, EA, E1, E2, eB, eI, eL], by simp, (.cons .refl (.cons .nil (.cons .nil (.cons .nil (.cons .nil (.cons .refl (.cons .nil (.cons .nil (.cons .nil (.cons .nil (.cons .nil (.cons .nil (.cons .refl (.cons .nil (.cons .nil (.cons .nil (.cons .nil (.cons .refl (.cons .nil (.cons .nil (.cons .nil (.cons .nil (.cons .nil (.cons .nil (.cons .nil (.cons .nil (.cons .refl .nil)))))))))))))))))))))))))))⟩
 have g5 : ¬ (b1 = true) := by first | simpa using g | (simp at g; exact g) | (simp at g; omega)
 clear g
 replace h := if_r g5 h
 refine w_skip ?_
 refine tn ?_
 refine w_seq ?_
 refine w_seq ?_
 refine w_run mo (by rw [hN]; decide) fun K hK => ?_
 simp [-guardE_b, -Is_at, -Is_at', -Ls_at, -Ls_at', eL, eI, allInts, eP_Adj, eP_Cat, eP_Fn, Adj.cells, Cat.cells, Fn.cells]
 repeat (with_reducible refine And.intro ?_ ?_; · first | assumption | omega | (simp; done) | (simp; omega) | simp_all)
 replace h := bind_some h
 obtain ⟨v6, hv6, h⟩ := h
 refine callA_intro (w_i_sameCategory _ _ v6 hv6) (.cons (.field rfl (by simp [Adj.cells, Cat.cells]) (.cons .val (.cons .lst (.cons .lst (.cons .lst (.cons .lst .nil)))))) (.cons (.field rfl (by simp [Adj.cells, Cat.cells]) (.cons .val (.cons .lst (.cons .lst (.cons .lst (.cons .lst .nil)))))) .nil)) ?_
 simp [-guardE_b, -Is_at, -Is_at', -Ls_at, -Ls_at', unk, unA, unE, unT, unC, flat, eL, eI, allInts, eP_Adj, eP_Cat, eP_Fn, Adj.cells, Cat.cells, Fn.cells]
 repeat (with_reducible refine And.intro ?_ ?_; · first | assumption | omega | (simp; done) | (simp; omega) | simp_all)
 refine hK _ ?_
 clear hK K
 refine tn ?_
 refine w_weak (st' := ⟨[(2, .adr 0 0 0), (3, .adr 1 0 0), (4, .adr 2 0 0), (26, .val (.bool (!v6)))], [(0, .mix 26 [(Adj.cells true a_)]), (1, .mix 26 [(Adj.cells true b_)]), (2, .mix 26 [[.val (.int .i64 0), .val (.slice none 0 0), .val (.slice none 0 0), .val (.slice none 0 0), .val (.slice none 0 0), .val (.int .i64 0), .val (.slice none 0 0), .val (.slice none 0 0), .val (.slice none 0 0), .val (.slice none 0 0), .val (.slice none 0 0), .val (.slice none 0 0), .val (.int .i64 0), .val (.slice none 0 0), .val (.slice none 0 0), .val (.slice none 0 0), .val (.slice none 0 0), .val (.int .i64 0), .val (.slice none 0 0), .val (.slice none 0 0), .val (.slice none 0 0), .val (.slice none 0 0), .val (.slice none 0 0), .val (.slice none 0 0), .val (.slice none 0 0), .val (.slice none 0 0)]])], 3⟩) (Wk.r1 [(0, 0), (1, 1), (2, 2)] (by simp [hP, hhOk, back, Adj.cells, Cat.cells, Fn.cells, IA, I1, LA, L1, BA, B1, EA, E1, E2, eB, eI, eL])) ?_
 refine w_cond rfl (fun g => ?_) fun g => ?_
 · have g7 : ¬ (v6 = true) := by first | simpa using g | (simp at g; exact g) | (simp at g; omega)
   clear g
   replace h := if_l g7 h
   refine w_seq ?_
   refine w_run mo (by rw [hN]; decide) fun K hK => ?_
   simp [-guardE_b, -Is_at, -Is_at', -Ls_at, -Ls_at', eL, eI, allInts, eP_Adj, eP_Cat, eP_Fn, Adj.cells, Cat.cells, Fn.cells]
   repeat (with_reducible refine And.intro ?_ ?_; · first | assumption | omega | (simp; done) | (simp; omega) | simp_all)
   refine hK _ ?_
   clear hK K
   refine tn ?_
   refine w_weak (st' := ⟨[(4, .adr 0 0 0), (5, .val (.int .i64 5))], [(0, .mix 26 [[.val (.int .i64 0), .val (.slice none 0 0), .val (.slice none 0 0), .val (.slice none 0 0), .val (.slice none 0 0), .val (.int .i64 0), .val (.slice none 0 0), .val (.slice none 0 0), .val (.slice none 0 0), .val (.slice none 0 0), .val (.slice none 0 0), .val (.slice none 0 0), .val (.int .i64 0), .val (.slice none 0 0), .val (.slice none 0 0), .val (.slice none 0 0), .val (.slice none 0 0), .val (.int .i64 0), .val (.slice none 0 0), .val (.slice none 0 0), .val (.slice none 0 0), .val (.slice none 0 0), .val (.slice none 0 0), .val (.slice none 0 0), .val (.slice none 0 0), .val (.slice none 0 0)]])], 1⟩) (Wk.r1 [(2, 0)] (by simp [hP, hhOk, back, Adj.cells, Cat.cells, Fn.cells, IA, I1, LA, L1, BA, B1, EA, E1, E2, eB, eI, eL])) ?_
   refine w_ret ?_
   refine tr ?_
   have hr := Option.some.inj h
   rw [← hr]
   refine ⟨_, (.cell tf_37 rfl rfl rfl (by simp) (by simp) (.tmp .nil)), ?_⟩
   refine ⟨(.agg rfl (.one rfl rfl .nil)), [.val (.int .i64 0), .val (.slice none 0 0), .val (.slice none 0 0), .val (.slice none 0 0), .val (.slice none 0 0), .val (.int .i64 0), .val (.slice none 0 0), .val (.slice none 0 0), .val (.slice none 0 0), .val (.slice none 0 0), .val (.slice none 0 0), .val (.slice none 0 0), .val (.int .i64 0), .val (.slice none 0 0), .val (.slice none 0 0), .val (.slice none 0 0), .val (.slice none 0 0), .val (.int .i64 0), .val (.slice none 0 0), .val (.slice none 0 0), .val (.slice none 0 0), .val (.slice none 0 0), .val (.slice none 0 0), .val (.slice none 0 0), .val (.slice none 0 0), .val (.slice none 0 0), .val (.int .i64 5)], [], by simp [Adj.cells, Cat.cells, Fn.cells, IA, I1, LA, L1, BA, B1, EA, E1, E2, eB, eI, eL], by simp, (.cons .refl (.cons .nil (.cons .nil (.cons .nil (.cons .nil (.cons .refl (.cons .nil (.cons .nil (.cons .nil (.cons .nil (.cons .nil (.cons .nil (.cons .refl (.cons .nil (.cons .nil (.cons .nil (.cons .nil (.cons .refl (.cons .nil (.cons .nil (.cons .nil (.cons .nil (.cons .nil (.cons .nil (.cons .nil (.cons .nil (.cons .refl .nil)))))))))))))))))))))))))))⟩
 have g7 : ¬ (¬ (v6 = true)) := by first | simpa using g | (simp at g; exact g) | (simp at g; omega)
 clear g
 replace h := if_r g7 h
 refine w_skip ?_
 refine tn ?_
 refine w_seq ?_
 refine w_run mo (by rw [hN]; decide) fun K hK => ?_
 simp [-guardE_b, -Is_at, -Is_at', -Ls_at, -Ls_at', eL, eI, allInts, eP_Adj, eP_Cat, eP_Fn, Adj.cells, Cat.cells, Fn.cells]
 repeat (with_reducible refine And.intro ?_ ?_; · first | assumption | omega | (simp; done) | (simp; omega) | simp_all)
 replace h := bind_some h
 obtain ⟨v8, hv8, h⟩ := h
 refine callA_intro (w_i_Functor_then _ _ v8 hv8) (.cons (.field rfl (by simp [Adj.cells, Cat.cells, Fn.cells]) (.cons .val (.cons .lst (.cons .lst (.cons .lst (.cons .lst (.cons .val (.cons .lst (.cons .lst (.cons .lst (.cons .lst (.cons .lst (.cons .lst .nil))))))))))))) (.cons (.field rfl (by simp [Adj.cells, Cat.cells, Fn.cells]) (.cons .val (.cons .lst (.cons .lst (.cons .lst (.cons .lst (.cons .val (.cons .lst (.cons .lst (.cons .lst (.cons .lst (.cons .lst (.cons .lst .nil))))))))))))) .nil)) ?_
 simp [-guardE_b, -Is_at, -Is_at', -Ls_at, -Ls_at', unk, unA, unE, unT, unC, flat, eL, eI, allInts, eP_Adj, eP_Cat, eP_Fn, Adj.cells, Cat.cells, Fn.cells]
 repeat (with_reducible refine And.intro ?_ ?_; · first | assumption | omega | (simp; done) | (simp; omega) | simp_all)
 replace h := bind_some h
 obtain ⟨v9, hv9, h⟩ := h
 refine callA_intro (w_i_Functor_then _ _ v9 hv9) (.cons (.field rfl (by simp [Adj.cells, Cat.cells, Fn.cells]) (.cons .val (.cons .lst (.cons .lst (.cons .lst (.cons .lst (.cons .val (.cons .lst (.cons .lst (.cons .lst (.cons .lst (.cons .lst (.cons .lst .nil))))))))))))) (.cons (.field rfl (by simp [Adj.cells, Cat.cells, Fn.cells]) (.cons .val (.cons .lst (.cons .lst (.cons .lst (.cons .lst (.cons .val (.cons .lst (.cons .lst (.cons .lst (.cons .lst (.cons .lst (.cons .lst .nil))))))))))))) .nil)) ?_
 simp [-guardE_b, -Is_at, -Is_at', -Ls_at, -Ls_at', unk, unA, unE, unT, unC, flat, eL, eI, allInts, eP_Adj, eP_Cat, eP_Fn, Adj.cells, Cat.cells, Fn.cells]
 repeat (with_reducible refine And.intro ?_ ?_; · first | assumption | omega | (simp; done) | (simp; omega) | simp_all)
 refine hK _ ?_
 clear hK K
 refine tn ?_
 refine w_weak (st' := ⟨[(2, .adr 0 0 0), (3, .adr 1 0 0), (4, .adr 2 0 0), (6, .adr 3 0 0), (7, .adr 14 0 0)], [(0, .mix 26 [(Adj.cells true a_)]), (1, .mix 26 [(Adj.cells true b_)]), (2, .mix 26 [[.val (.int .i64 0), .val (.slice none 0 0), .val (.slice none 0 0), .val (.slice none 0 0), .val (.slice none 0 0), .val (.int .i64 0), .val (.slice none 0 0), .val (.slice none 0 0), .val (.slice none 0 0), .val (.slice none 0 0), .val (.slice none 0 0), .val (.slice none 0 0), .val (.int .i64 0), .val (.slice none 0 0), .val (.slice none 0 0), .val (.slice none 0 0), .val (.slice none 0 0), .val (.int .i64 0), .val (.slice none 0 0), .val (.slice none 0 0), .val (.slice none 0 0), .val (.slice none 0 0), .val (.slice none 0 0), .val (.slice none 0 0), .val (.slice none 0 0), .val (.slice none 0 0)]]), (3, .mix 12 [[.val (.int .i64 v8.s.n), .own 4 0 v8.s.fr.length, .own 5 0 v8.s.to.length, .own 6 0 v8.s.id.length, .own 7 0 v8.s.cs.length, .val (.int .i64 v8.t.n), .own 8 0 v8.t.fr.length, .own 9 0 v8.t.to.length, .own 10 0 v8.t.id.length, .own 11 0 v8.t.cs.length, .own 12 0 v8.ob.length, .own 13 0 v8.ar.length]]), (4, .row 1 (Is v8.s.fr)), (5, .row 1 (Is v8.s.to)), (6, .row 1 (Is v8.s.id)), (7, .row 1 (Ls v8.s.cs)), (8, .row 1 (Is v8.t.fr)), (9, .row 1 (Is v8.t.to)), (10, .row 1 (Is v8.t.id)), (11, .row 1 (Ls v8.t.cs)), (12, .row 1 (Is v8.ob)), (13, .row 1 (Is v8.ar)), (14, .mix 12 [[.val (.int .i64 v9.s.n), .own 15 0 v9.s.fr.length, .own 16 0 v9.s.to.length, .own 17 0 v9.s.id.length, .own 18 0 v9.s.cs.length, .val (.int .i64 v9.t.n), .own 19 0 v9.t.fr.length, .own 20 0 v9.t.to.length, .own 21 0 v9.t.id.length, .own 22 0 v9.t.cs.length, .own 23 0 v9.ob.length, .own 24 0 v9.ar.length]]), (15, .row 1 (Is v9.s.fr)), (16, .row 1 (Is v9.s.to)), (17, .row 1 (Is v9.s.id)), (18, .row 1 (Ls v9.s.cs)), (19, .row 1 (Is v9.t.fr)), (20, .row 1 (Is v9.t.to)), (21, .row 1 (Is v9.t.id)), (22, .row 1 (Ls v9.t.cs)), (23, .row 1 (Is v9.ob)), (24, .row 1 (Is v9.ar))], 25⟩) (Wk.r1 [(0, 0), (1, 1), (2, 2), (27, 3), (4, 4), (5, 5), (6, 6), (7, 7), (9, 8), (10, 9), (11, 10), (12, 11), (13, 12), (14, 13), (28, 14), (16, 15), (17, 16), (18, 17), (19, 18), (21, 19), (22, 20), (23, 21), (24, 22), (25, 23), (26, 24)] (by simp [hP, hhOk, back, Adj.cells, Cat.cells, Fn.cells, IA, I1, LA, L1, BA, B1, EA, E1, E2, eB, eI, eL])) ?_
 refine w_seq ?_
 refine w_run mo (by rw [hN]; decide) fun K hK => ?_
 simp [-guardE_b, -Is_at, -Is_at', -Ls_at, -Ls_at', eL, eI, allInts, eP_Adj, eP_Cat, eP_Fn, Adj.cells, Cat.cells, Fn.cells]
 repeat (with_reducible refine And.intro ?_ ?_; · first | assumption | omega | (simp; done) | (simp; omega) | simp_all)
 refine hK _ ?_
 clear hK K
 refine tn ?_
 refine w_weak (st' := ⟨[(2, .adr 0 0 0), (3, .adr 1 0 0), (4, .adr 2 0 0), (6, .adr 3 0 0), (7, .adr 14 0 0), (8, .own 25 0 0), (9, .own 26 0 0)], [(0, .mix 26 [(Adj.cells true a_)]), (1, .mix 26 [(Adj.cells true b_)]), (2, .mix 26 [[.val (.int .i64 0), .val (.slice none 0 0), .val (.slice none 0 0), .val (.slice none 0 0), .val (.slice none 0 0), .val (.int .i64 0), .val (.slice none 0 0), .val (.slice none 0 0), .val (.slice none 0 0), .val (.slice none 0 0), .val (.slice none 0 0), .val (.slice none 0 0), .val (.int .i64 0), .val (.slice none 0 0), .val (.slice none 0 0), .val (.slice none 0 0), .val (.slice none 0 0), .val (.int .i64 0), .val (.slice none 0 0), .val (.slice none 0 0), .val (.slice none 0 0), .val (.slice none 0 0), .val (.slice none 0 0), .val (.slice none 0 0), .val (.slice none 0 0), .val (.slice none 0 0)]]), (3, .mix 12 [[.val (.int .i64 v8.s.n), .own 4 0 v8.s.fr.length, .own 5 0 v8.s.to.length, .own 6 0 v8.s.id.length, .own 7 0 v8.s.cs.length, .val (.int .i64 v8.t.n), .own 8 0 v8.t.fr.length, .own 9 0 v8.t.to.length, .own 10 0 v8.t.id.length, .own 11 0 v8.t.cs.length, .own 12 0 v8.ob.length, .own 13 0 v8.ar.length]]), (4, .row 1 (Is v8.s.fr)), (5, .row 1 (Is v8.s.to)), (6, .row 1 (Is v8.s.id)), (7, .row 1 (Ls v8.s.cs)), (8, .row 1 (Is v8.t.fr)), (9, .row 1 (Is v8.t.to)), (10, .row 1 (Is v8.t.id)), (11, .row 1 (Ls v8.t.cs)), (12, .row 1 (Is v8.ob)), (13, .row 1 (Is v8.ar)), (14, .mix 12 [[.val (.int .i64 v9.s.n), .own 15 0 v9.s.fr.length, .own 16 0 v9.s.to.length, .own 17 0 v9.s.id.length, .own 18 0 v9.s.cs.length, .val (.int .i64 v9.t.n), .own 19 0 v9.t.fr.length, .own 20 0 v9.t.to.length, .own 21 0 v9.t.id.length, .own 22 0 v9.t.cs.length, .own 23 0 v9.ob.length, .own 24 0 v9.ar.length]]), (15, .row 1 (Is v9.s.fr)), (16, .row 1 (Is v9.s.to)), (17, .row 1 (Is v9.s.id)), (18, .row 1 (Ls v9.s.cs)), (19, .row 1 (Is v9.t.fr)), (20, .row 1 (Is v9.t.to)), (21, .row 1 (Is v9.t.id)), (22, .row 1 (Ls v9.t.cs)), (23, .row 1 (Is v9.ob)), (24, .row 1 (Is v9.ar)), (25, .mix 1 []), (26, .mix 1 [])], 27⟩) (Wk.r1 [(0, 0), (1, 1), (2, 2), (3, 3), (4, 4), (5, 5), (6, 6), (7, 7), (8, 8), (9, 9), (10, 10), (11, 11), (12, 12), (13, 13), (14, 14), (15, 15), (16, 16), (17, 17), (18, 18), (19, 19), (20, 20), (21, 21), (22, 22), (23, 23), (24, 24), (25, 25), (26, 26)] (by simp [hP, hhOk, back, Adj.cells, Cat.cells, Fn.cells, IA, I1, LA, L1, BA, B1, EA, E1, E2, eB, eI, eL])) ?_
 refine w_seq ?_
 refine w_seq ?_
 refine w_run mo (by rw [hN]; decide) fun K hK => ?_
 simp [-guardE_b, -Is_at, -Is_at', -Ls_at, -Ls_at', eL, eI, allInts, eP_Adj, eP_Cat, eP_Fn, Adj.cells, Cat.cells, Fn.cells]
 repeat (with_reducible refine And.intro ?_ ?_; · first | assumption | omega | (simp; done) | (simp; omega) | simp_all)
 refine hK _ ?_
 clear hK K
 refine tn ?_
 refine w_weak (st' := ⟨[(2, .adr 0 0 0), (3, .adr 1 0 0), (4, .adr 2 0 0), (6, .adr 3 0 0), (7, .adr 14 0 0), (8, .own 25 0 0), (9, .own 26 0 0), (38, .lst true 1 (Is a_.l.ob)), (39, .val (.int .i64 (a_.l.ob.length : Int))), (40, .val (.int .i64 0))], [(0, .mix 26 [(Adj.cells true a_)]), (1, .mix 26 [(Adj.cells true b_)]), (2, .mix 26 [[.val (.int .i64 0), .val (.slice none 0 0), .val (.slice none 0 0), .val (.slice none 0 0), .val (.slice none 0 0), .val (.int .i64 0), .val (.slice none 0 0), .val (.slice none 0 0), .val (.slice none 0 0), .val (.slice none 0 0), .val (.slice none 0 0), .val (.slice none 0 0), .val (.int .i64 0), .val (.slice none 0 0), .val (.slice none 0 0), .val (.slice none 0 0), .val (.slice none 0 0), .val (.int .i64 0), .val (.slice none 0 0), .val (.slice none 0 0), .val (.slice none 0 0), .val (.slice none 0 0), .val (.slice none 0 0), .val (.slice none 0 0), .val (.slice none 0 0), .val (.slice none 0 0)]]), (3, .mix 12 [[.val (.int .i64 v8.s.n), .own 4 0 v8.s.fr.length, .own 5 0 v8.s.to.length, .own 6 0 v8.s.id.length, .own 7 0 v8.s.cs.length, .val (.int .i64 v8.t.n), .own 8 0 v8.t.fr.length, .own 9 0 v8.t.to.length, .own 10 0 v8.t.id.length, .own 11 0 v8.t.cs.length, .own 12 0 v8.ob.length, .own 13 0 v8.ar.length]]), (4, .row 1 (Is v8.s.fr)), (5, .row 1 (Is v8.s.to)), (6, .row 1 (Is v8.s.id)), (7, .row 1 (Ls v8.s.cs)), (8, .row 1 (Is v8.t.fr)), (9, .row 1 (Is v8.t.to)), (10, .row 1 (Is v8.t.id)), (11, .row 1 (Ls v8.t.cs)), (12, .row 1 (Is v8.ob)), (13, .row 1 (Is v8.ar)), (14, .mix 12 [[.val (.int .i64 v9.s.n), .own 15 0 v9.s.fr.length, .own 16 0 v9.s.to.length, .own 17 0 v9.s.id.length, .own 18 0 v9.s.cs.length, .val (.int .i64 v9.t.n), .own 19 0 v9.t.fr.length, .own 20 0 v9.t.to.length, .own 21 0 v9.t.id.length, .own 22 0 v9.t.cs.length, .own 23 0 v9.ob.length, .own 24 0 v9.ar.length]]), (15, .row 1 (Is v9.s.fr)), (16, .row 1 (Is v9.s.to)), (17, .row 1 (Is v9.s.id)), (18, .row 1 (Ls v9.s.cs)), (19, .row 1 (Is v9.t.fr)), (20, .row 1 (Is v9.t.to)), (21, .row 1 (Is v9.t.id)), (22, .row 1 (Ls v9.t.cs)), (23, .row 1 (Is v9.ob)), (24, .row 1 (Is v9.ar)), (25, .mix 1 []), (26, .mix 1 [])], 27⟩) (Wk.r1 [(0, 0), (1, 1), (2, 2), (3, 3), (4, 4), (5, 5), (6, 6), (7, 7), (8, 8), (9, 9), (10, 10), (11, 11), (12, 12), (13, 13), (14, 14), (15, 15), (16, 16), (17, 17), (18, 18), (19, 19), (20, 20), (21, 21), (22, 22), (23, 23), (24, 24), (25, 25), (26, 26)] (by simp [hP, hhOk, back, Adj.cells, Cat.cells, Fn.cells, IA, I1, LA, L1, BA, B1, EA, E1, E2, eB, eI, eL])) ?_
 replace h := bind_some h
 obtain ⟨e10, h, h10⟩ := h
 refine w_joinT (fun b10 : List Int => ⟨[(2, .adr 0 0 0), (3, .adr 1 0 0), (4, .adr 2 0 0), (6, .adr 3 0 0), (7, .adr 14 0 0), (8, .own 25 0 b10.length), (9, .own 26 0 0)], [(0, .mix 26 [(Adj.cells true a_)]), (1, .mix 26 [(Adj.cells true b_)]), (2, .mix 26 [[.val (.int .i64 0), .val (.slice none 0 0), .val (.slice none 0 0), .val (.slice none 0 0), .val (.slice none 0 0), .val (.int .i64 0), .val (.slice none 0 0), .val (.slice none 0 0), .val (.slice none 0 0), .val (.slice none 0 0), .val (.slice none 0 0), .val (.slice none 0 0), .val (.int .i64 0), .val (.slice none 0 0), .val (.slice none 0 0), .val (.slice none 0 0), .val (.slice none 0 0), .val (.int .i64 0), .val (.slice none 0 0), .val (.slice none 0 0), .val (.slice none 0 0), .val (.slice none 0 0), .val (.slice none 0 0), .val (.slice none 0 0), .val (.slice none 0 0), .val (.slice none 0 0)]]), (3, .mix 12 [[.val (.int .i64 v8.s.n), .own 4 0 v8.s.fr.length, .own 5 0 v8.s.to.length, .own 6 0 v8.s.id.length, .own 7 0 v8.s.cs.length, .val (.int .i64 v8.t.n), .own 8 0 v8.t.fr.length, .own 9 0 v8.t.to.length, .own 10 0 v8.t.id.length, .own 11 0 v8.t.cs.length, .own 12 0 v8.ob.length, .own 13 0 v8.ar.length]]), (4, .row 1 (Is v8.s.fr)), (5, .row 1 (Is v8.s.to)), (6, .row 1 (Is v8.s.id)), (7, .row 1 (Ls v8.s.cs)), (8, .row 1 (Is v8.t.fr)), (9, .row 1 (Is v8.t.to)), (10, .row 1 (Is v8.t.id)), (11, .row 1 (Ls v8.t.cs)), (12, .row 1 (Is v8.ob)), (13, .row 1 (Is v8.ar)), (14, .mix 12 [[.val (.int .i64 v9.s.n), .own 15 0 v9.s.fr.length, .own 16 0 v9.s.to.length, .own 17 0 v9.s.id.length, .own 18 0 v9.s.cs.length, .val (.int .i64 v9.t.n), .own 19 0 v9.t.fr.length, .own 20 0 v9.t.to.length, .own 21 0 v9.t.id.length, .own 22 0 v9.t.cs.length, .own 23 0 v9.ob.length, .own 24 0 v9.ar.length]]), (15, .row 1 (Is v9.s.fr)), (16, .row 1 (Is v9.s.to)), (17, .row 1 (Is v9.s.id)), (18, .row 1 (Ls v9.s.cs)), (19, .row 1 (Is v9.t.fr)), (20, .row 1 (Is v9.t.to)), (21, .row 1 (Is v9.t.id)), (22, .row 1 (Ls v9.t.cs)), (23, .row 1 (Is v9.ob)), (24, .row 1 (Is v9.ar)), (25, .row 1 (Is b10)), (26, .mix 1 [])], 27⟩) (fun b10 => b10 = e10) ?_ ?_
 · refine w_block ?_
   refine w_loopF h (fun s17 : List Int × Int => ⟨[(2, .adr 0 0 0), (3, .adr 1 0 0), (4, .adr 2 0 0), (6, .adr 3 0 0), (7, .adr 14 0 0), (8, .own 25 0 s17.1.length), (9, .own 26 0 0), (38, .lst true 1 (Is a_.l.ob)), (39, .val (.int .i64 (a_.l.ob.length : Int))), (40, .val (.int .i64 s17.2))], [(0, .mix 26 [(Adj.cells true a_)]), (1, .mix 26 [(Adj.cells true b_)]), (2, .mix 26 [[.val (.int .i64 0), .val (.slice none 0 0), .val (.slice none 0 0), .val (.slice none 0 0), .val (.slice none 0 0), .val (.int .i64 0), .val (.slice none 0 0), .val (.slice none 0 0), .val (.slice none 0 0), .val (.slice none 0 0), .val (.slice none 0 0), .val (.slice none 0 0), .val (.int .i64 0), .val (.slice none 0 0), .val (.slice none 0 0), .val (.slice none 0 0), .val (.slice none 0 0), .val (.int .i64 0), .val (.slice none 0 0), .val (.slice none 0 0), .val (.slice none 0 0), .val (.slice none 0 0), .val (.slice none 0 0), .val (.slice none 0 0), .val (.slice none 0 0), .val (.slice none 0 0)]]), (3, .mix 12 [[.val (.int .i64 v8.s.n), .own 4 0 v8.s.fr.length, .own 5 0 v8.s.to.length, .own 6 0 v8.s.id.length, .own 7 0 v8.s.cs.length, .val (.int .i64 v8.t.n), .own 8 0 v8.t.fr.length, .own 9 0 v8.t.to.length, .own 10 0 v8.t.id.length, .own 11 0 v8.t.cs.length, .own 12 0 v8.ob.length, .own 13 0 v8.ar.length]]), (4, .row 1 (Is v8.s.fr)), (5, .row 1 (Is v8.s.to)), (6, .row 1 (Is v8.s.id)), (7, .row 1 (Ls v8.s.cs)), (8, .row 1 (Is v8.t.fr)), (9, .row 1 (Is v8.t.to)), (10, .row 1 (Is v8.t.id)), (11, .row 1 (Ls v8.t.cs)), (12, .row 1 (Is v8.ob)), (13, .row 1 (Is v8.ar)), (14, .mix 12 [[.val (.int .i64 v9.s.n), .own 15 0 v9.s.fr.length, .own 16 0 v9.s.to.length, .own 17 0 v9.s.id.length, .own 18 0 v9.s.cs.length, .val (.int .i64 v9.t.n), .own 19 0 v9.t.fr.length, .own 20 0 v9.t.to.length, .own 21 0 v9.t.id.length, .own 22 0 v9.t.cs.length, .own 23 0 v9.ob.length, .own 24 0 v9.ar.length]]), (15, .row 1 (Is v9.s.fr)), (16, .row 1 (Is v9.s.to)), (17, .row 1 (Is v9.s.id)), (18, .row 1 (Ls v9.s.cs)), (19, .row 1 (Is v9.t.fr)), (20, .row 1 (Is v9.t.to)), (21, .row 1 (Is v9.t.id)), (22, .row 1 (Ls v9.t.cs)), (23, .row 1 (Is v9.ob)), (24, .row 1 (Is v9.ar)), (25, .row 1 (Is s17.1)), (26, .mix 1 [])], 27⟩) (wk_tr ⟨[(2, .adr 0 0 0), (3, .adr 1 0 0), (4, .adr 2 0 0), (6, .adr 3 0 0), (7, .adr 14 0 0), (8, .own 25 0 0), (9, .own 26 0 0), (38, .lst true 1 (Is a_.l.ob)), (39, .val (.int .i64 (a_.l.ob.length : Int))), (40, .val (.int .i64 0))], [(0, .mix 26 [(Adj.cells true a_)]), (1, .mix 26 [(Adj.cells true b_)]), (2, .mix 26 [[.val (.int .i64 0), .val (.slice none 0 0), .val (.slice none 0 0), .val (.slice none 0 0), .val (.slice none 0 0), .val (.int .i64 0), .val (.slice none 0 0), .val (.slice none 0 0), .val (.slice none 0 0), .val (.slice none 0 0), .val (.slice none 0 0), .val (.slice none 0 0), .val (.int .i64 0), .val (.slice none 0 0), .val (.slice none 0 0), .val (.slice none 0 0), .val (.slice none 0 0), .val (.int .i64 0), .val (.slice none 0 0), .val (.slice none 0 0), .val (.slice none 0 0), .val (.slice none 0 0), .val (.slice none 0 0), .val (.slice none 0 0), .val (.slice none 0 0), .val (.slice none 0 0)]]), (3, .mix 12 [[.val (.int .i64 v8.s.n), .own 4 0 v8.s.fr.length, .own 5 0 v8.s.to.length, .own 6 0 v8.s.id.length, .own 7 0 v8.s.cs.length, .val (.int .i64 v8.t.n), .own 8 0 v8.t.fr.length, .own 9 0 v8.t.to.length, .own 10 0 v8.t.id.length, .own 11 0 v8.t.cs.length, .own 12 0 v8.ob.length, .own 13 0 v8.ar.length]]), (4, .row 1 (Is v8.s.fr)), (5, .row 1 (Is v8.s.to)), (6, .row 1 (Is v8.s.id)), (7, .row 1 (Ls v8.s.cs)), (8, .row 1 (Is v8.t.fr)), (9, .row 1 (Is v8.t.to)), (10, .row 1 (Is v8.t.id)), (11, .row 1 (Ls v8.t.cs)), (12, .row 1 (Is v8.ob)), (13, .row 1 (Is v8.ar)), (14, .mix 12 [[.val (.int .i64 v9.s.n), .own 15 0 v9.s.fr.length, .own 16 0 v9.s.to.length, .own 17 0 v9.s.id.length, .own 18 0 v9.s.cs.length, .val (.int .i64 v9.t.n), .own 19 0 v9.t.fr.length, .own 20 0 v9.t.to.length, .own 21 0 v9.t.id.length, .own 22 0 v9.t.cs.length, .own 23 0 v9.ob.length, .own 24 0 v9.ar.length]]), (15, .row 1 (Is v9.s.fr)), (16, .row 1 (Is v9.s.to)), (17, .row 1 (Is v9.s.id)), (18, .row 1 (Ls v9.s.cs)), (19, .row 1 (Is v9.t.fr)), (20, .row 1 (Is v9.t.to)), (21, .row 1 (Is v9.t.id)), (22, .row 1 (Ls v9.t.cs)), (23, .row 1 (Is v9.ob)), (24, .row 1 (Is v9.ar)), (25, .row 1 (Is [])), (26, .mix 1 [])], 27⟩ (Wk.nils [] (by simp) (by simp) (by simp [nlA]) (by simp [entN, nlL, nlA, Adj.cells, Cat.cells, Fn.cells, IA, I1, LA, L1, BA, B1, EA, E1, E2, eB, eI, eL]) (by simp)) (Wk.r1 [(0, 0), (1, 1), (2, 2), (3, 3), (4, 4), (5, 5), (6, 6), (7, 7), (8, 8), (9, 9), (10, 10), (11, 11), (12, 12), (13, 13), (14, 14), (15, 15), (16, 16), (17, 17), (18, 18), (19, 19), (20, 20), (21, 21), (22, 22), (23, 23), (24, 24), (25, 25), (26, 26)] (by simp [hP, hhOk, back, Adj.cells, Cat.cells, Fn.cells, IA, I1, LA, L1, BA, B1, EA, E1, E2, eB, eI, eL]))) ?_
   clear h
   intro k17 s17 c17 h hk17
   refine w_seq ?_
   refine w_run mo (by rw [hN]; decide) fun K hK => ?_
   simp [-guardE_b, -Is_at, -Is_at', -Ls_at, -Ls_at', eL, eI, allInts, eP_Adj, eP_Cat, eP_Fn, Adj.cells, Cat.cells, Fn.cells]
   repeat (with_reducible refine And.intro ?_ ?_; · first | assumption | omega | (simp; done) | (simp; omega) | simp_all)
   refine hK _ ?_
   clear hK K
   refine tn ?_
   refine w_weak (st' := ⟨[(2, .adr 0 0 0), (3, .adr 1 0 0), (4, .adr 2 0 0), (6, .adr 3 0 0), (7, .adr 14 0 0), (8, .own 25 0 s17.1.length), (9, .own 26 0 0), (38, .lst true 1 (Is a_.l.ob)), (39, .val (.int .i64 (a_.l.ob.length : Int))), (40, .val (.int .i64 s17.2)), (41, .val (.bool (decide (s17.2 < (a_.l.ob.length : Int)))))], [(0, .mix 26 [(Adj.cells true a_)]), (1, .mix 26 [(Adj.cells true b_)]), (2, .mix 26 [[.val (.int .i64 0), .val (.slice none 0 0), .val (.slice none 0 0), .val (.slice none 0 0), .val (.slice none 0 0), .val (.int .i64 0), .val (.slice none 0 0), .val (.slice none 0 0), .val (.slice none 0 0), .val (.slice none 0 0), .val (.slice none 0 0), .val (.slice none 0 0), .val (.int .i64 0), .val (.slice none 0 0), .val (.slice none 0 0), .val (.slice none 0 0), .val (.slice none 0 0), .val (.int .i64 0), .val (.slice none 0 0), .val (.slice none 0 0), .val (.slice none 0 0), .val (.slice none 0 0), .val (.slice none 0 0), .val (.slice none 0 0), .val (.slice none 0 0), .val (.slice none 0 0)]]), (3, .mix 12 [[.val (.int .i64 v8.s.n), .own 4 0 v8.s.fr.length, .own 5 0 v8.s.to.length, .own 6 0 v8.s.id.length, .own 7 0 v8.s.cs.length, .val (.int .i64 v8.t.n), .own 8 0 v8.t.fr.length, .own 9 0 v8.t.to.length, .own 10 0 v8.t.id.length, .own 11 0 v8.t.cs.length, .own 12 0 v8.ob.length, .own 13 0 v8.ar.length]]), (4, .row 1 (Is v8.s.fr)), (5, .row 1 (Is v8.s.to)), (6, .row 1 (Is v8.s.id)), (7, .row 1 (Ls v8.s.cs)), (8, .row 1 (Is v8.t.fr)), (9, .row 1 (Is v8.t.to)), (10, .row 1 (Is v8.t.id)), (11, .row 1 (Ls v8.t.cs)), (12, .row 1 (Is v8.ob)), (13, .row 1 (Is v8.ar)), (14, .mix 12 [[.val (.int .i64 v9.s.n), .own 15 0 v9.s.fr.length, .own 16 0 v9.s.to.length, .own 17 0 v9.s.id.length, .own 18 0 v9.s.cs.length, .val (.int .i64 v9.t.n), .own 19 0 v9.t.fr.length, .own 20 0 v9.t.to.length, .own 21 0 v9.t.id.length, .own 22 0 v9.t.cs.length, .own 23 0 v9.ob.length, .own 24 0 v9.ar.length]]), (15, .row 1 (Is v9.s.fr)), (16, .row 1 (Is v9.s.to)), (17, .row 1 (Is v9.s.id)), (18, .row 1 (Ls v9.s.cs)), (19, .row 1 (Is v9.t.fr)), (20, .row 1 (Is v9.t.to)), (21, .row 1 (Is v9.t.id)), (22, .row 1 (Ls v9.t.cs)), (23, .row 1 (Is v9.ob)), (24, .row 1 (Is v9.ar)), (25, .row 1 (Is s17.1)), (26, .mix 1 [])], 27⟩) (Wk.r1 [(0, 0), (1, 1), (2, 2), (3, 3), (4, 4), (5, 5), (6, 6), (7, 7), (8, 8), (9, 9), (10, 10), (11, 11), (12, 12), (13, 13), (14, 14), (15, 15), (16, 16), (17, 17), (18, 18), (19, 19), (20, 20), (21, 21), (22, 22), (23, 23), (24, 24), (25, 25), (26, 26)] (by simp [hP, hhOk, back, Adj.cells, Cat.cells, Fn.cells, IA, I1, LA, L1, BA, B1, EA, E1, E2, eB, eI, eL])) ?_
   refine w_seq ?_
   refine w_cond rfl (fun g => ?_) fun g => ?_
   · have g18 : s17.2 < (a_.l.ob.length : Int) := by first | simpa using g | (simp at g; exact g) | (simp at g; omega)
     clear g
     replace h := if_l g18 h
     refine w_skip ?_
     refine tn ?_
     refine w_seq ?_
     refine w_block ?_
     refine w_seq ?_
     refine w_run mo (by rw [hN]; decide) fun K hK => ?_
     replace h := ass_some h
     obtain ⟨a19, h⟩ := h
     simp [-guardE_b, -Is_at, -Is_at', -Ls_at, -Ls_at', eL, eI, allInts, eP_Adj, eP_Cat, eP_Fn, Adj.cells, Cat.cells, Fn.cells, at_I a19]
     repeat (with_reducible refine And.intro ?_ ?_; · first | assumption | omega | (simp; done) | (simp; omega) | simp_all)
     refine hK _ ?_
     clear hK K
     refine tn ?_
     refine w_weak (st' := ⟨[(2, .adr 0 0 0), (3, .adr 1 0 0), (4, .adr 2 0 0), (6, .adr 3 0 0), (7, .adr 14 0 0), (8, .own 25 0 s17.1.length), (9, .own 26 0 0), (10, .val (.int .i64 s17.2)), (11, .val (.int .i64 (ix a_.l.ob s17.2))), (38, .lst true 1 (Is a_.l.ob)), (39, .val (.int .i64 (a_.l.ob.length : Int))), (40, .val (.int .i64 s17.2))], [(0, .mix 26 [(Adj.cells true a_)]), (1, .mix 26 [(Adj.cells true b_)]), (2, .mix 26 [[.val (.int .i64 0), .val (.slice none 0 0), .val (.slice none 0 0), .val (.slice none 0 0), .val (.slice none 0 0), .val (.int .i64 0), .val (.slice none 0 0), .val (.slice none 0 0), .val (.slice none 0 0), .val (.slice none 0 0), .val (.slice none 0 0), .val (.slice none 0 0), .val (.int .i64 0), .val (.slice none 0 0), .val (.slice none 0 0), .val (.slice none 0 0), .val (.slice none 0 0), .val (.int .i64 0), .val (.slice none 0 0), .val (.slice none 0 0), .val (.slice none 0 0), .val (.slice none 0 0), .val (.slice none 0 0), .val (.slice none 0 0), .val (.slice none 0 0), .val (.slice none 0 0)]]), (3, .mix 12 [[.val (.int .i64 v8.s.n), .own 4 0 v8.s.fr.length, .own 5 0 v8.s.to.length, .own 6 0 v8.s.id.length, .own 7 0 v8.s.cs.length, .val (.int .i64 v8.t.n), .own 8 0 v8.t.fr.length, .own 9 0 v8.t.to.length, .own 10 0 v8.t.id.length, .own 11 0 v8.t.cs.length, .own 12 0 v8.ob.length, .own 13 0 v8.ar.length]]), (4, .row 1 (Is v8.s.fr)), (5, .row 1 (Is v8.s.to)), (6, .row 1 (Is v8.s.id)), (7, .row 1 (Ls v8.s.cs)), (8, .row 1 (Is v8.t.fr)), (9, .row 1 (Is v8.t.to)), (10, .row 1 (Is v8.t.id)), (11, .row 1 (Ls v8.t.cs)), (12, .row 1 (Is v8.ob)), (13, .row 1 (Is v8.ar)), (14, .mix 12 [[.val (.int .i64 v9.s.n), .own 15 0 v9.s.fr.length, .own 16 0 v9.s.to.length, .own 17 0 v9.s.id.length, .own 18 0 v9.s.cs.length, .val (.int .i64 v9.t.n), .own 19 0 v9.t.fr.length, .own 20 0 v9.t.to.length, .own 21 0 v9.t.id.length, .own 22 0 v9.t.cs.length, .own 23 0 v9.ob.length, .own 24 0 v9.ar.length]]), (15, .row 1 (Is v9.s.fr)), (16, .row 1 (Is v9.s.to)), (17, .row 1 (Is v9.s.id)), (18, .row 1 (Ls v9.s.cs)), (19, .row 1 (Is v9.t.fr)), (20, .row 1 (Is v9.t.to)), (21, .row 1 (Is v9.t.id)), (22, .row 1 (Ls v9.t.cs)), (23, .row 1 (Is v9.ob)), (24, .row 1 (Is v9.ar)), (25, .row 1 (Is s17.1)), (26, .mix 1 [])], 27⟩) (Wk.r1 [(0, 0), (1, 1), (2, 2), (3, 3), (4, 4), (5, 5), (6, 6), (7, 7), (8, 8), (9, 9), (10, 10), (11, 11), (12, 12), (13, 13), (14, 14), (15, 15), (16, 16), (17, 17), (18, 18), (19, 19), (20, 20), (21, 21), (22, 22), (23, 23), (24, 24), (25, 25), (26, 26)] (by simp [hP, hhOk, back, Adj.cells, Cat.cells, Fn.cells, IA, I1, LA, L1, BA, B1, EA, E1, E2, eB, eI, eL])) ?_
     refine w_run mo (by rw [hN]; decide) fun K hK => ?_
     replace h := ass_some h
     obtain ⟨a20, h⟩ := h
     simp [-guardE_b, -Is_at, -Is_at', -Ls_at, -Ls_at', eL, eI, allInts, eP_Adj, eP_Cat, eP_Fn, Adj.cells, Cat.cells, Fn.cells, at_I a20]
     repeat (with_reducible refine And.intro ?_ ?_; · first | assumption | omega | (simp; done) | (simp; omega) | simp_all)
     replace h := bind_some h
     obtain ⟨v21, hv21, h⟩ := h
     refine callA_intro (w_i_Adjunction_transpose _ _ _ v21 hv21) (.cons (.field rfl (by simp [Adj.cells, Cat.cells, Fn.cells]) (.cons .val (.cons .lst (.cons .lst (.cons .lst (.cons .lst (.cons .val (.cons .lst (.cons .lst (.cons .lst (.cons .lst (.cons .lst (.cons .lst (.cons .val (.cons .lst (.cons .lst (.cons .lst (.cons .lst (.cons .val (.cons .lst (.cons .lst (.cons .lst (.cons .lst (.cons .lst (.cons .lst (.cons .lst (.cons .lst .nil))))))))))))))))))))))))))) (.cons .val (.cons .val .nil))) ?_
     replace h := ass_some h
     obtain ⟨a22, h⟩ := h
     try simp only [List.length_append, List.length_cons, List.length_nil] at a22
     simp [-guardE_b, -Is_at, -Is_at', -Ls_at, -Ls_at', unk, unA, unE, unT, unC, flat, eL, eI, allInts, eP_Adj, eP_Cat, eP_Fn, Adj.cells, Cat.cells, Fn.cells, a22]
     repeat (with_reducible refine And.intro ?_ ?_; · first | assumption | omega | (simp; done) | (simp; omega) | simp_all)
     refine hK _ ?_
     clear hK K
     refine bn ?_
     refine tn ?_
     refine w_weak (st' := ⟨[(2, .adr 0 0 0), (3, .adr 1 0 0), (4, .adr 2 0 0), (6, .adr 3 0 0), (7, .adr 14 0 0), (8, .own 25 0 ((s17.1 ++ [v21]).length)), (9, .own 26 0 0), (38, .lst true 1 (Is a_.l.ob)), (39, .val (.int .i64 (a_.l.ob.length : Int))), (40, .val (.int .i64 s17.2))], [(0, .mix 26 [(Adj.cells true a_)]), (1, .mix 26 [(Adj.cells true b_)]), (2, .mix 26 [[.val (.int .i64 0), .val (.slice none 0 0), .val (.slice none 0 0), .val (.slice none 0 0), .val (.slice none 0 0), .val (.int .i64 0), .val (.slice none 0 0), .val (.slice none 0 0), .val (.slice none 0 0), .val (.slice none 0 0), .val (.slice none 0 0), .val (.slice none 0 0), .val (.int .i64 0), .val (.slice none 0 0), .val (.slice none 0 0), .val (.slice none 0 0), .val (.slice none 0 0), .val (.int .i64 0), .val (.slice none 0 0), .val (.slice none 0 0), .val (.slice none 0 0), .val (.slice none 0 0), .val (.slice none 0 0), .val (.slice none 0 0), .val (.slice none 0 0), .val (.slice none 0 0)]]), (3, .mix 12 [[.val (.int .i64 v8.s.n), .own 4 0 v8.s.fr.length, .own 5 0 v8.s.to.length, .own 6 0 v8.s.id.length, .own 7 0 v8.s.cs.length, .val (.int .i64 v8.t.n), .own 8 0 v8.t.fr.length, .own 9 0 v8.t.to.length, .own 10 0 v8.t.id.length, .own 11 0 v8.t.cs.length, .own 12 0 v8.ob.length, .own 13 0 v8.ar.length]]), (4, .row 1 (Is v8.s.fr)), (5, .row 1 (Is v8.s.to)), (6, .row 1 (Is v8.s.id)), (7, .row 1 (Ls v8.s.cs)), (8, .row 1 (Is v8.t.fr)), (9, .row 1 (Is v8.t.to)), (10, .row 1 (Is v8.t.id)), (11, .row 1 (Ls v8.t.cs)), (12, .row 1 (Is v8.ob)), (13, .row 1 (Is v8.ar)), (14, .mix 12 [[.val (.int .i64 v9.s.n), .own 15 0 v9.s.fr.length, .own 16 0 v9.s.to.length, .own 17 0 v9.s.id.length, .own 18 0 v9.s.cs.length, .val (.int .i64 v9.t.n), .own 19 0 v9.t.fr.length, .own 20 0 v9.t.to.length, .own 21 0 v9.t.id.length, .own 22 0 v9.t.cs.length, .own 23 0 v9.ob.length, .own 24 0 v9.ar.length]]), (15, .row 1 (Is v9.s.fr)), (16, .row 1 (Is v9.s.to)), (17, .row 1 (Is v9.s.id)), (18, .row 1 (Ls v9.s.cs)), (19, .row 1 (Is v9.t.fr)), (20, .row 1 (Is v9.t.to)), (21, .row 1 (Is v9.t.id)), (22, .row 1 (Ls v9.t.cs)), (23, .row 1 (Is v9.ob)), (24, .row 1 (Is v9.ar)), (25, .row 1 (Is (s17.1 ++ [v21]))), (26, .mix 1 [])], 27⟩) (Wk.r1 [(0, 0), (1, 1), (2, 2), (3, 3), (4, 4), (5, 5), (6, 6), (7, 7), (8, 8), (9, 9), (10, 10), (11, 11), (12, 12), (13, 13), (14, 14), (15, 15), (16, 16), (17, 17), (18, 18), (19, 19), (20, 20), (21, 21), (22, 22), (23, 23), (24, 24), (29, 25), (26, 26)] (by simp [hP, hhOk, back, Adj.cells, Cat.cells, Fn.cells, IA, I1, LA, L1, BA, B1, EA, E1, E2, eB, eI, eL])) ?_
     refine w_run mo (by rw [hN]; decide) fun K hK => ?_
     replace h := ass_some h
     obtain ⟨a23, h⟩ := h
     simp [-guardE_b, -Is_at, -Is_at', -Ls_at, -Ls_at', eL, eI, allInts, eP_Adj, eP_Cat, eP_Fn, Adj.cells, Cat.cells, Fn.cells, wrap_id a23]
     repeat (with_reducible refine And.intro ?_ ?_; · first | assumption | omega | (simp; done) | (simp; omega) | simp_all)
     refine hK _ ?_
     clear hK K
     cases h
     exact rn (s' := (s17.1 ++ [v21], s17.2 + 1)) hk17 (Wk.r1 [(0, 0), (1, 1), (2, 2), (3, 3), (4, 4), (5, 5), (6, 6), (7, 7), (8, 8), (9, 9), (10, 10), (11, 11), (12, 12), (13, 13), (14, 14), (15, 15), (16, 16), (17, 17), (18, 18), (19, 19), (20, 20), (21, 21), (22, 22), (23, 23), (24, 24), (25, 25), (26, 26)] (by simp [hP, hhOk, back, Adj.cells, Cat.cells, Fn.cells, IA, I1, LA, L1, BA, B1, EA, E1, E2, eB, eI, eL]))
   have g18 : ¬ (s17.2 < (a_.l.ob.length : Int)) := by first | simpa using g | (simp at g; exact g) | (simp at g; omega)
   clear g
   replace h := if_r g18 h
   refine w_exit ?_
   refine tx ?_
   refine lx ?_
   refine bh ?_
   cases h
   exact jn (b := s17.1) hk17 (Wk.r1 [(0, 0), (1, 1), (2, 2), (3, 3), (4, 4), (5, 5), (6, 6), (7, 7), (8, 8), (9, 9), (10, 10), (11, 11), (12, 12), (13, 13), (14, 14), (15, 15), (16, 16), (17, 17), (18, 18), (19, 19), (20, 20), (21, 21), (22, 22), (23, 23), (24, 24), (25, 25), (26, 26)] (by simp [hP, hhOk, back, Adj.cells, Cat.cells, Fn.cells, IA, I1, LA, L1, BA, B1, EA, E1, E2, eB, eI, eL]))
 intro b10 hb10
 have h := h10
 rw [← hb10] at h
 clear h10
 try dsimp only at h
 refine w_seq ?_
 refine w_seq ?_
 refine w_run mo (by rw [hN]; decide) fun K hK => ?_
 simp [-guardE_b, -Is_at, -Is_at', -Ls_at, -Ls_at', eL, eI, allInts, eP_Adj, eP_Cat, eP_Fn, Adj.cells, Cat.cells, Fn.cells]
 repeat (with_reducible refine And.intro ?_ ?_; · first | assumption | omega | (simp; done) | (simp; omega) | simp_all)
 refine hK _ ?_
 clear hK K
 refine tn ?_
 refine w_weak (st' := ⟨[(2, .adr 0 0 0), (3, .adr 1 0 0), (4, .adr 2 0 0), (6, .adr 3 0 0), (7, .adr 14 0 0), (8, .own 25 0 b10.length), (9, .own 26 0 0), (58, .lst true 1 (Is b_.r.ob)), (59, .val (.int .i64 (b_.r.ob.length : Int))), (60, .val (.int .i64 0))], [(0, .mix 26 [(Adj.cells true a_)]), (1, .mix 26 [(Adj.cells true b_)]), (2, .mix 26 [[.val (.int .i64 0), .val (.slice none 0 0), .val (.slice none 0 0), .val (.slice none 0 0), .val (.slice none 0 0), .val (.int .i64 0), .val (.slice none 0 0), .val (.slice none 0 0), .val (.slice none 0 0), .val (.slice none 0 0), .val (.slice none 0 0), .val (.slice none 0 0), .val (.int .i64 0), .val (.slice none 0 0), .val (.slice none 0 0), .val (.slice none 0 0), .val (.slice none 0 0), .val (.int .i64 0), .val (.slice none 0 0), .val (.slice none 0 0), .val (.slice none 0 0), .val (.slice none 0 0), .val (.slice none 0 0), .val (.slice none 0 0), .val (.slice none 0 0), .val (.slice none 0 0)]]), (3, .mix 12 [[.val (.int .i64 v8.s.n), .own 4 0 v8.s.fr.length, .own 5 0 v8.s.to.length, .own 6 0 v8.s.id.length, .own 7 0 v8.s.cs.length, .val (.int .i64 v8.t.n), .own 8 0 v8.t.fr.length, .own 9 0 v8.t.to.length, .own 10 0 v8.t.id.length, .own 11 0 v8.t.cs.length, .own 12 0 v8.ob.length, .own 13 0 v8.ar.length]]), (4, .row 1 (Is v8.s.fr)), (5, .row 1 (Is v8.s.to)), (6, .row 1 (Is v8.s.id)), (7, .row 1 (Ls v8.s.cs)), (8, .row 1 (Is v8.t.fr)), (9, .row 1 (Is v8.t.to)), (10, .row 1 (Is v8.t.id)), (11, .row 1 (Ls v8.t.cs)), (12, .row 1 (Is v8.ob)), (13, .row 1 (Is v8.ar)), (14, .mix 12 [[.val (.int .i64 v9.s.n), .own 15 0 v9.s.fr.length, .own 16 0 v9.s.to.length, .own 17 0 v9.s.id.length, .own 18 0 v9.s.cs.length, .val (.int .i64 v9.t.n), .own 19 0 v9.t.fr.length, .own 20 0 v9.t.to.length, .own 21 0 v9.t.id.length, .own 22 0 v9.t.cs.length, .own 23 0 v9.ob.length, .own 24 0 v9.ar.length]]), (15, .row 1 (Is v9.s.fr)), (16, .row 1 (Is v9.s.to)), (17, .row 1 (Is v9.s.id)), (18, .row 1 (Ls v9.s.cs)), (19, .row 1 (Is v9.t.fr)), (20, .row 1 (Is v9.t.to)), (21, .row 1 (Is v9.t.id)), (22, .row 1 (Ls v9.t.cs)), (23, .row 1 (Is v9.ob)), (24, .row 1 (Is v9.ar)), (25, .row 1 (Is b10)), (26, .mix 1 [])], 27⟩) (Wk.r1 [(0, 0), (1, 1), (2, 2), (3, 3), (4, 4), (5, 5), (6, 6), (7, 7), (8, 8), (9, 9), (10, 10), (11, 11), (12, 12), (13, 13), (14, 14), (15, 15), (16, 16), (17, 17), (18, 18), (19, 19), (20, 20), (21, 21), (22, 22), (23, 23), (24, 24), (25, 25), (26, 26)] (by simp [hP, hhOk, back, Adj.cells, Cat.cells, Fn.cells, IA, I1, LA, L1, BA, B1, EA, E1, E2, eB, eI, eL])) ?_
 replace h := bind_some h
 obtain ⟨e24, h, h24⟩ := h
 refine w_joinT (fun b24 : List Int => ⟨[(4, .adr 0 0 0), (6, .adr 1 0 0), (7, .adr 12 0 0), (8, .own 23 0 b10.length), (9, .own 24 0 b24.length)], [(0, .mix 26 [[.val (.int .i64 0), .val (.slice none 0 0), .val (.slice none 0 0), .val (.slice none 0 0), .val (.slice none 0 0), .val (.int .i64 0), .val (.slice none 0 0), .val (.slice none 0 0), .val (.slice none 0 0), .val (.slice none 0 0), .val (.slice none 0 0), .val (.slice none 0 0), .val (.int .i64 0), .val (.slice none 0 0), .val (.slice none 0 0), .val (.slice none 0 0), .val (.slice none 0 0), .val (.int .i64 0), .val (.slice none 0 0), .val (.slice none 0 0), .val (.slice none 0 0), .val (.slice none 0 0), .val (.slice none 0 0), .val (.slice none 0 0), .val (.slice none 0 0), .val (.slice none 0 0)]]), (1, .mix 12 [[.val (.int .i64 v8.s.n), .own 2 0 v8.s.fr.length, .own 3 0 v8.s.to.length, .own 4 0 v8.s.id.length, .own 5 0 v8.s.cs.length, .val (.int .i64 v8.t.n), .own 6 0 v8.t.fr.length, .own 7 0 v8.t.to.length, .own 8 0 v8.t.id.length, .own 9 0 v8.t.cs.length, .own 10 0 v8.ob.length, .own 11 0 v8.ar.length]]), (2, .row 1 (Is v8.s.fr)), (3, .row 1 (Is v8.s.to)), (4, .row 1 (Is v8.s.id)), (5, .row 1 (Ls v8.s.cs)), (6, .row 1 (Is v8.t.fr)), (7, .row 1 (Is v8.t.to)), (8, .row 1 (Is v8.t.id)), (9, .row 1 (Ls v8.t.cs)), (10, .row 1 (Is v8.ob)), (11, .row 1 (Is v8.ar)), (12, .mix 12 [[.val (.int .i64 v9.s.n), .own 13 0 v9.s.fr.length, .own 14 0 v9.s.to.length, .own 15 0 v9.s.id.length, .own 16 0 v9.s.cs.length, .val (.int .i64 v9.t.n), .own 17 0 v9.t.fr.length, .own 18 0 v9.t.to.length, .own 19 0 v9.t.id.length, .own 20 0 v9.t.cs.length, .own 21 0 v9.ob.length, .own 22 0 v9.ar.length]]), (13, .row 1 (Is v9.s.fr)), (14, .row 1 (Is v9.s.to)), (15, .row 1 (Is v9.s.id)), (16, .row 1 (Ls v9.s.cs)), (17, .row 1 (Is v9.t.fr)), (18, .row 1 (Is v9.t.to)), (19, .row 1 (Is v9.t.id)), (20, .row 1 (Ls v9.t.cs)), (21, .row 1 (Is v9.ob)), (22, .row 1 (Is v9.ar)), (23, .row 1 (Is b10)), (24, .row 1 (Is b24))], 25⟩) (fun b24 => b24 = e24) ?_ ?_
 · refine w_block ?_
   refine w_loopF h (fun s31 : List Int × Int => ⟨[(2, .adr 0 0 0), (3, .adr 1 0 0), (4, .adr 2 0 0), (6, .adr 3 0 0), (7, .adr 14 0 0), (8, .own 25 0 b10.length), (9, .own 26 0 s31.1.length), (58, .lst true 1 (Is b_.r.ob)), (59, .val (.int .i64 (b_.r.ob.length : Int))), (60, .val (.int .i64 s31.2))], [(0, .mix 26 [(Adj.cells true a_)]), (1, .mix 26 [(Adj.cells true b_)]), (2, .mix 26 [[.val (.int .i64 0), .val (.slice none 0 0), .val (.slice none 0 0), .val (.slice none 0 0), .val (.slice none 0 0), .val (.int .i64 0), .val (.slice none 0 0), .val (.slice none 0 0), .val (.slice none 0 0), .val (.slice none 0 0), .val (.slice none 0 0), .val (.slice none 0 0), .val (.int .i64 0), .val (.slice none 0 0), .val (.slice none 0 0), .val (.slice none 0 0), .val (.slice none 0 0), .val (.int .i64 0), .val (.slice none 0 0), .val (.slice none 0 0), .val (.slice none 0 0), .val (.slice none 0 0), .val (.slice none 0 0), .val (.slice none 0 0), .val (.slice none 0 0), .val (.slice none 0 0)]]), (3, .mix 12 [[.val (.int .i64 v8.s.n), .own 4 0 v8.s.fr.length, .own 5 0 v8.s.to.length, .own 6 0 v8.s.id.length, .own 7 0 v8.s.cs.length, .val (.int .i64 v8.t.n), .own 8 0 v8.t.fr.length, .own 9 0 v8.t.to.length, .own 10 0 v8.t.id.length, .own 11 0 v8.t.cs.length, .own 12 0 v8.ob.length, .own 13 0 v8.ar.length]]), (4, .row 1 (Is v8.s.fr)), (5, .row 1 (Is v8.s.to)), (6, .row 1 (Is v8.s.id)), (7, .row 1 (Ls v8.s.cs)), (8, .row 1 (Is v8.t.fr)), (9, .row 1 (Is v8.t.to)), (10, .row 1 (Is v8.t.id)), (11, .row 1 (Ls v8.t.cs)), (12, .row 1 (Is v8.ob)), (13, .row 1 (Is v8.ar)), (14, .mix 12 [[.val (.int .i64 v9.s.n), .own 15 0 v9.s.fr.length, .own 16 0 v9.s.to.length, .own 17 0 v9.s.id.length, .own 18 0 v9.s.cs.length, .val (.int .i64 v9.t.n), .own 19 0 v9.t.fr.length, .own 20 0 v9.t.to.length, .own 21 0 v9.t.id.length, .own 22 0 v9.t.cs.length, .own 23 0 v9.ob.length, .own 24 0 v9.ar.length]]), (15, .row 1 (Is v9.s.fr)), (16, .row 1 (Is v9.s.to)), (17, .row 1 (Is v9.s.id)), (18, .row 1 (Ls v9.s.cs)), (19, .row 1 (Is v9.t.fr)), (20, .row 1 (Is v9.t.to)), (21, .row 1 (Is v9.t.id)), (22, .row 1 (Ls v9.t.cs)), (23, .row 1 (Is v9.ob)), (24, .row 1 (Is v9.ar)), (25, .row 1 (Is b10)), (26, .row 1 (Is s31.1))], 27⟩) (wk_tr ⟨[(2, .adr 0 0 0), (3, .adr 1 0 0), (4, .adr 2 0 0), (6, .adr 3 0 0), (7, .adr 14 0 0), (8, .own 25 0 b10.length), (9, .own 26 0 0), (58, .lst true 1 (Is b_.r.ob)), (59, .val (.int .i64 (b_.r.ob.length : Int))), (60, .val (.int .i64 0))], [(0, .mix 26 [(Adj.cells true a_)]), (1, .mix 26 [(Adj.cells true b_)]), (2, .mix 26 [[.val (.int .i64 0), .val (.slice none 0 0), .val (.slice none 0 0), .val (.slice none 0 0), .val (.slice none 0 0), .val (.int .i64 0), .val (.slice none 0 0), .val (.slice none 0 0), .val (.slice none 0 0), .val (.slice none 0 0), .val (.slice none 0 0), .val (.slice none 0 0), .val (.int .i64 0), .val (.slice none 0 0), .val (.slice none 0 0), .val (.slice none 0 0), .val (.slice none 0 0), .val (.int .i64 0), .val (.slice none 0 0), .val (.slice none 0 0), .val (.slice none 0 0), .val (.slice none 0 0), .val (.slice none 0 0), .val (.slice none 0 0), .val (.slice none 0 0), .val (.slice none 0 0)]]), (3, .mix 12 [[.val (.int .i64 v8.s.n), .own 4 0 v8.s.fr.length, .own 5 0 v8.s.to.length, .own 6 0 v8.s.id.length, .own 7 0 v8.s.cs.length, .val (.int .i64 v8.t.n), .own 8 0 v8.t.fr.length, .own 9 0 v8.t.to.length, .own 10 0 v8.t.id.length, .own 11 0 v8.t.cs.length, .own 12 0 v8.ob.length, .own 13 0 v8.ar.length]]), (4, .row 1 (Is v8.s.fr)), (5, .row 1 (Is v8.s.to)), (6, .row 1 (Is v8.s.id)), (7, .row 1 (Ls v8.s.cs)), (8, .row 1 (Is v8.t.fr)), (9, .row 1 (Is v8.t.to)), (10, .row 1 (Is v8.t.id)), (11, .row 1 (Ls v8.t.cs)), (12, .row 1 (Is v8.ob)), (13, .row 1 (Is v8.ar)), (14, .mix 12 [[.val (.int .i64 v9.s.n), .own 15 0 v9.s.fr.length, .own 16 0 v9.s.to.length, .own 17 0 v9.s.id.length, .own 18 0 v9.s.cs.length, .val (.int .i64 v9.t.n), .own 19 0 v9.t.fr.length, .own 20 0 v9.t.to.length, .own 21 0 v9.t.id.length, .own 22 0 v9.t.cs.length, .own 23 0 v9.ob.length, .own 24 0 v9.ar.length]]), (15, .row 1 (Is v9.s.fr)), (16, .row 1 (Is v9.s.to)), (17, .row 1 (Is v9.s.id)), (18, .row 1 (Ls v9.s.cs)), (19, .row 1 (Is v9.t.fr)), (20, .row 1 (Is v9.t.to)), (21, .row 1 (Is v9.t.id)), (22, .row 1 (Ls v9.t.cs)), (23, .row 1 (Is v9.ob)), (24, .row 1 (Is v9.ar)), (25, .row 1 (Is b10)), (26, .row 1 (Is []))], 27⟩ (Wk.nils [] (by simp) (by simp) (by simp [nlA]) (by simp [entN, nlL, nlA, Adj.cells, Cat.cells, Fn.cells, IA, I1, LA, L1, BA, B1, EA, E1, E2, eB, eI, eL]) (by simp)) (Wk.r1 [(0, 0), (1, 1), (2, 2), (3, 3), (4, 4), (5, 5), (6, 6), (7, 7), (8, 8), (9, 9), (10, 10), (11, 11), (12, 12), (13, 13), (14, 14), (15, 15), (16, 16), (17, 17), (18, 18), (19, 19), (20, 20), (21, 21), (22, 22), (23, 23), (24, 24), (25, 25), (26, 26)] (by simp [hP, hhOk, back, Adj.cells, Cat.cells, Fn.cells, IA, I1, LA, L1, BA, B1, EA, E1, E2, eB, eI, eL]))) ?_
   clear h
   intro k31 s31 c31 h hk31
   refine w_seq ?_
   refine w_run mo (by rw [hN]; decide) fun K hK => ?_
   simp [-guardE_b, -Is_at, -Is_at', -Ls_at, -Ls_at', eL, eI, allInts, eP_Adj, eP_Cat, eP_Fn, Adj.cells, Cat.cells, Fn.cells]
   repeat (with_reducible refine And.intro ?_ ?_; · first | assumption | omega | (simp; done) | (simp; omega) | simp_all)
   refine hK _ ?_
   clear hK K
   refine tn ?_
   refine w_weak (st' := ⟨[(2, .adr 0 0 0), (3, .adr 1 0 0), (4, .adr 2 0 0), (6, .adr 3 0 0), (7, .adr 14 0 0), (8, .own 25 0 b10.length), (9, .own 26 0 s31.1.length), (58, .lst true 1 (Is b_.r.ob)), (59, .val (.int .i64 (b_.r.ob.length : Int))), (60, .val (.int .i64 s31.2)), (61, .val (.bool (decide (s31.2 < (b_.r.ob.length : Int)))))], [(0, .mix 26 [(Adj.cells true a_)]), (1, .mix 26 [(Adj.cells true b_)]), (2, .mix 26 [[.val (.int .i64 0), .val (.slice none 0 0), .val (.slice none 0 0), .val (.slice none 0 0), .val (.slice none 0 0), .val (.int .i64 0), .val (.slice none 0 0), .val (.slice none 0 0), .val (.slice none 0 0), .val (.slice none 0 0), .val (.slice none 0 0), .val (.slice none 0 0), .val (.int .i64 0), .val (.slice none 0 0), .val (.slice none 0 0), .val (.slice none 0 0), .val (.slice none 0 0), .val (.int .i64 0), .val (.slice none 0 0), .val (.slice none 0 0), .val (.slice none 0 0), .val (.slice none 0 0), .val (.slice none 0 0), .val (.slice none 0 0), .val (.slice none 0 0), .val (.slice none 0 0)]]), (3, .mix 12 [[.val (.int .i64 v8.s.n), .own 4 0 v8.s.fr.length, .own 5 0 v8.s.to.length, .own 6 0 v8.s.id.length, .own 7 0 v8.s.cs.length, .val (.int .i64 v8.t.n), .own 8 0 v8.t.fr.length, .own 9 0 v8.t.to.length, .own 10 0 v8.t.id.length, .own 11 0 v8.t.cs.length, .own 12 0 v8.ob.length, .own 13 0 v8.ar.length]]), (4, .row 1 (Is v8.s.fr)), (5, .row 1 (Is v8.s.to)), (6, .row 1 (Is v8.s.id)), (7, .row 1 (Ls v8.s.cs)), (8, .row 1 (Is v8.t.fr)), (9, .row 1 (Is v8.t.to)), (10, .row 1 (Is v8.t.id)), (11, .row 1 (Ls v8.t.cs)), (12, .row 1 (Is v8.ob)), (13, .row 1 (Is v8.ar)), (14, .mix 12 [[.val (.int .i64 v9.s.n), .own 15 0 v9.s.fr.length, .own 16 0 v9.s.to.length, .own 17 0 v9.s.id.length, .own 18 0 v9.s.cs.length, .val (.int .i64 v9.t.n), .own 19 0 v9.t.fr.length, .own 20 0 v9.t.to.length, .own 21 0 v9.t.id.length, .own 22 0 v9.t.cs.length, .own 23 0 v9.ob.length, .own 24 0 v9.ar.length]]), (15, .row 1 (Is v9.s.fr)), (16, .row 1 (Is v9.s.to)), (17, .row 1 (Is v9.s.id)), (18, .row 1 (Ls v9.s.cs)), (19, .row 1 (Is v9.t.fr)), (20, .row 1 (Is v9.t.to)), (21, .row 1 (Is v9.t.id)), (22, .row 1 (Ls v9.t.cs)), (23, .row 1 (Is v9.ob)), (24, .row 1 (Is v9.ar)), (25, .row 1 (Is b10)), (26, .row 1 (Is s31.1))], 27⟩) (Wk.r1 [(0, 0), (1, 1), (2, 2), (3, 3), (4, 4), (5, 5), (6, 6), (7, 7), (8, 8), (9, 9), (10, 10), (11, 11), (12, 12), (13, 13), (14, 14), (15, 15), (16, 16), (17, 17), (18, 18), (19, 19), (20, 20), (21, 21), (22, 22), (23, 23), (24, 24), (25, 25), (26, 26)] (by simp [hP, hhOk, back, Adj.cells, Cat.cells, Fn.cells, IA, I1, LA, L1, BA, B1, EA, E1, E2, eB, eI, eL])) ?_
   refine w_seq ?_
   refine w_cond rfl (fun g => ?_) fun g => ?_
   · have g32 : s31.2 < (b_.r.ob.length : Int) := by first | simpa using g | (simp at g; exact g) | (simp at g; omega)
     clear g
     replace h := if_l g32 h
     refine w_skip ?_
     refine tn ?_
     refine w_seq ?_
     refine w_block ?_
     refine w_seq ?_
     refine w_run mo (by rw [hN]; decide) fun K hK => ?_
     replace h := ass_some h
     obtain ⟨a33, h⟩ := h
     simp [-guardE_b, -Is_at, -Is_at', -Ls_at, -Ls_at', eL, eI, allInts, eP_Adj, eP_Cat, eP_Fn, Adj.cells, Cat.cells, Fn.cells, at_I a33]
     repeat (with_reducible refine And.intro ?_ ?_; · first | assumption | omega | (simp; done) | (simp; omega) | simp_all)
     refine hK _ ?_
     clear hK K
     refine tn ?_
     refine w_weak (st' := ⟨[(2, .adr 0 0 0), (3, .adr 1 0 0), (4, .adr 2 0 0), (6, .adr 3 0 0), (7, .adr 14 0 0), (8, .own 25 0 b10.length), (9, .own 26 0 s31.1.length), (12, .val (.int .i64 s31.2)), (13, .val (.int .i64 (ix b_.r.ob s31.2))), (58, .lst true 1 (Is b_.r.ob)), (59, .val (.int .i64 (b_.r.ob.length : Int))), (60, .val (.int .i64 s31.2))], [(0, .mix 26 [(Adj.cells true a_)]), (1, .mix 26 [(Adj.cells true b_)]), (2, .mix 26 [[.val (.int .i64 0), .val (.slice none 0 0), .val (.slice none 0 0), .val (.slice none 0 0), .val (.slice none 0 0), .val (.int .i64 0), .val (.slice none 0 0), .val (.slice none 0 0), .val (.slice none 0 0), .val (.slice none 0 0), .val (.slice none 0 0), .val (.slice none 0 0), .val (.int .i64 0), .val (.slice none 0 0), .val (.slice none 0 0), .val (.slice none 0 0), .val (.slice none 0 0), .val (.int .i64 0), .val (.slice none 0 0), .val (.slice none 0 0), .val (.slice none 0 0), .val (.slice none 0 0), .val (.slice none 0 0), .val (.slice none 0 0), .val (.slice none 0 0), .val (.slice none 0 0)]]), (3, .mix 12 [[.val (.int .i64 v8.s.n), .own 4 0 v8.s.fr.length, .own 5 0 v8.s.to.length, .own 6 0 v8.s.id.length, .own 7 0 v8.s.cs.length, .val (.int .i64 v8.t.n), .own 8 0 v8.t.fr.length, .own 9 0 v8.t.to.length, .own 10 0 v8.t.id.length, .own 11 0 v8.t.cs.length, .own 12 0 v8.ob.length, .own 13 0 v8.ar.length]]), (4, .row 1 (Is v8.s.fr)), (5, .row 1 (Is v8.s.to)), (6, .row 1 (Is v8.s.id)), (7, .row 1 (Ls v8.s.cs)), (8, .row 1 (Is v8.t.fr)), (9, .row 1 (Is v8.t.to)), (10, .row 1 (Is v8.t.id)), (11, .row 1 (Ls v8.t.cs)), (12, .row 1 (Is v8.ob)), (13, .row 1 (Is v8.ar)), (14, .mix 12 [[.val (.int .i64 v9.s.n), .own 15 0 v9.s.fr.length, .own 16 0 v9.s.to.length, .own 17 0 v9.s.id.length, .own 18 0 v9.s.cs.length, .val (.int .i64 v9.t.n), .own 19 0 v9.t.fr.length, .own 20 0 v9.t.to.length, .own 21 0 v9.t.id.length, .own 22 0 v9.t.cs.length, .own 23 0 v9.ob.length, .own 24 0 v9.ar.length]]), (15, .row 1 (Is v9.s.fr)), (16, .row 1 (Is v9.s.to)), (17, .row 1 (Is v9.s.id)), (18, .row 1 (Ls v9.s.cs)), (19, .row 1 (Is v9.t.fr)), (20, .row 1 (Is v9.t.to)), (21, .row 1 (Is v9.t.id)), (22, .row 1 (Ls v9.t.cs)), (23, .row 1 (Is v9.ob)), (24, .row 1 (Is v9.ar)), (25, .row 1 (Is b10)), (26, .row 1 (Is s31.1))], 27⟩) (Wk.r1 [(0, 0), (1, 1), (2, 2), (3, 3), (4, 4), (5, 5), (6, 6), (7, 7), (8, 8), (9, 9), (10, 10), (11, 11), (12, 12), (13, 13), (14, 14), (15, 15), (16, 16), (17, 17), (18, 18), (19, 19), (20, 20), (21, 21), (22, 22), (23, 23), (24, 24), (25, 25), (26, 26)] (by simp [hP, hhOk, back, Adj.cells, Cat.cells, Fn.cells, IA, I1, LA, L1, BA, B1, EA, E1, E2, eB, eI, eL])) ?_
     refine w_run mo (by rw [hN]; decide) fun K hK => ?_
     replace h := ass_some h
     obtain ⟨a34, h⟩ := h
     simp [-guardE_b, -Is_at, -Is_at', -Ls_at, -Ls_at', eL, eI, allInts, eP_Adj, eP_Cat, eP_Fn, Adj.cells, Cat.cells, Fn.cells, at_I a34]
     repeat (with_reducible refine And.intro ?_ ?_; · first | assumption | omega | (simp; done) | (simp; omega) | simp_all)
     replace h := bind_some h
     obtain ⟨v35, hv35, h⟩ := h
     refine callA_intro (w_i_Adjunction_transposeBack _ _ _ v35 hv35) (.cons (.field rfl (by simp [Adj.cells, Cat.cells, Fn.cells]) (.cons .val (.cons .lst (.cons .lst (.cons .lst (.cons .lst (.cons .val (.cons .lst (.cons .lst (.cons .lst (.cons .lst (.cons .lst (.cons .lst (.cons .val (.cons .lst (.cons .lst (.cons .lst (.cons .lst (.cons .val (.cons .lst (.cons .lst (.cons .lst (.cons .lst (.cons .lst (.cons .lst (.cons .lst (.cons .lst .nil))))))))))))))))))))))))))) (.cons .val (.cons .val .nil))) ?_
     replace h := ass_some h
     obtain ⟨a36, h⟩ := h
     try simp only [List.length_append, List.length_cons, List.length_nil] at a36
     simp [-guardE_b, -Is_at, -Is_at', -Ls_at, -Ls_at', unk, unA, unE, unT, unC, flat, eL, eI, allInts, eP_Adj, eP_Cat, eP_Fn, Adj.cells, Cat.cells, Fn.cells, a36]
     repeat (with_reducible refine And.intro ?_ ?_; · first | assumption | omega | (simp; done) | (simp; omega) | simp_all)
     refine hK _ ?_
     clear hK K
     refine bn ?_
     refine tn ?_
     refine w_weak (st' := ⟨[(2, .adr 0 0 0), (3, .adr 1 0 0), (4, .adr 2 0 0), (6, .adr 3 0 0), (7, .adr 14 0 0), (8, .own 25 0 b10.length), (9, .own 26 0 ((s31.1 ++ [v35]).length)), (58, .lst true 1 (Is b_.r.ob)), (59, .val (.int .i64 (b_.r.ob.length : Int))), (60, .val (.int .i64 s31.2))], [(0, .mix 26 [(Adj.cells true a_)]), (1, .mix 26 [(Adj.cells true b_)]), (2, .mix 26 [[.val (.int .i64 0), .val (.slice none 0 0), .val (.slice none 0 0), .val (.slice none 0 0), .val (.slice none 0 0), .val (.int .i64 0), .val (.slice none 0 0), .val (.slice none 0 0), .val (.slice none 0 0), .val (.slice none 0 0), .val (.slice none 0 0), .val (.slice none 0 0), .val (.int .i64 0), .val (.slice none 0 0), .val (.slice none 0 0), .val (.slice none 0 0), .val (.slice none 0 0), .val (.int .i64 0), .val (.slice none 0 0), .val (.slice none 0 0), .val (.slice none 0 0), .val (.slice none 0 0), .val (.slice none 0 0), .val (.slice none 0 0), .val (.slice none 0 0), .val (.slice none 0 0)]]), (3, .mix 12 [[.val (.int .i64 v8.s.n), .own 4 0 v8.s.fr.length, .own 5 0 v8.s.to.length, .own 6 0 v8.s.id.length, .own 7 0 v8.s.cs.length, .val (.int .i64 v8.t.n), .own 8 0 v8.t.fr.length, .own 9 0 v8.t.to.length, .own 10 0 v8.t.id.length, .own 11 0 v8.t.cs.length, .own 12 0 v8.ob.length, .own 13 0 v8.ar.length]]), (4, .row 1 (Is v8.s.fr)), (5, .row 1 (Is v8.s.to)), (6, .row 1 (Is v8.s.id)), (7, .row 1 (Ls v8.s.cs)), (8, .row 1 (Is v8.t.fr)), (9, .row 1 (Is v8.t.to)), (10, .row 1 (Is v8.t.id)), (11, .row 1 (Ls v8.t.cs)), (12, .row 1 (Is v8.ob)), (13, .row 1 (Is v8.ar)), (14, .mix 12 [[.val (.int .i64 v9.s.n), .own 15 0 v9.s.fr.length, .own 16 0 v9.s.to.length, .own 17 0 v9.s.id.length, .own 18 0 v9.s.cs.length, .val (.int .i64 v9.t.n), .own 19 0 v9.t.fr.length, .own 20 0 v9.t.to.length, .own 21 0 v9.t.id.length, .own 22 0 v9.t.cs.length, .own 23 0 v9.ob.length, .own 24 0 v9.ar.length]]), (15, .row 1 (Is v9.s.fr)), (16, .row 1 (Is v9.s.to)), (17, .row 1 (Is v9.s.id)), (18, .row 1 (Ls v9.s.cs)), (19, .row 1 (Is v9.t.fr)), (20, .row 1 (Is v9.t.to)), (21, .row 1 (Is v9.t.id)), (22, .row 1 (Ls v9.t.cs)), (23, .row 1 (Is v9.ob)), (24, .row 1 (Is v9.ar)), (25, .row 1 (Is b10)), (26, .row 1 (Is (s31.1 ++ [v35])))], 27⟩) (Wk.r1 [(0, 0), (1, 1), (2, 2), (3, 3), (4, 4), (5, 5), (6, 6), (7, 7), (8, 8), (9, 9), (10, 10), (11, 11), (12, 12), (13, 13), (14, 14), (15, 15), (16, 16), (17, 17), (18, 18), (19, 19), (20, 20), (21, 21), (22, 22), (23, 23), (24, 24), (25, 25), (29, 26)] (by simp [hP, hhOk, back, Adj.cells, Cat.cells, Fn.cells, IA, I1, LA, L1, BA, B1, EA, E1, E2, eB, eI, eL])) ?_
     refine w_run mo (by rw [hN]; decide) fun K hK => ?_
     replace h := ass_some h
     obtain ⟨a37, h⟩ := h
     simp [-guardE_b, -Is_at, -Is_at', -Ls_at, -Ls_at', eL, eI, allInts, eP_Adj, eP_Cat, eP_Fn, Adj.cells, Cat.cells, Fn.cells, wrap_id a37]
     repeat (with_reducible refine And.intro ?_ ?_; · first | assumption | omega | (simp; done) | (simp; omega) | simp_all)
     refine hK _ ?_
     clear hK K
     cases h
     exact rn (s' := (s31.1 ++ [v35], s31.2 + 1)) hk31 (Wk.r1 [(0, 0), (1, 1), (2, 2), (3, 3), (4, 4), (5, 5), (6, 6), (7, 7), (8, 8), (9, 9), (10, 10), (11, 11), (12, 12), (13, 13), (14, 14), (15, 15), (16, 16), (17, 17), (18, 18), (19, 19), (20, 20), (21, 21), (22, 22), (23, 23), (24, 24), (25, 25), (26, 26)] (by simp [hP, hhOk, back, Adj.cells, Cat.cells, Fn.cells, IA, I1, LA, L1, BA, B1, EA, E1, E2, eB, eI, eL]))
   have g32 : ¬ (s31.2 < (b_.r.ob.length : Int)) := by first | simpa using g | (simp at g; exact g) | (simp at g; omega)
   clear g
   replace h := if_r g32 h
   refine w_exit ?_
   refine tx ?_
   refine lx ?_
   refine bh ?_
   cases h
   exact jn (b := s31.1) hk31 (Wk.r1 [(2, 0), (3, 1), (4, 2), (5, 3), (6, 4), (7, 5), (8, 6), (9, 7), (10, 8), (11, 9), (12, 10), (13, 11), (14, 12), (15, 13), (16, 14), (17, 15), (18, 16), (19, 17), (20, 18), (21, 19), (22, 20), (23, 21), (24, 22), (25, 23), (26, 24)] (by simp [hP, hhOk, back, Adj.cells, Cat.cells, Fn.cells, IA, I1, LA, L1, BA, B1, EA, E1, E2, eB, eI, eL]))
 intro b24 hb24
 have h := h24
 rw [← hb24] at h
 clear h24
 try dsimp only at h
 refine w_seq ?_
 refine w_run mo (by rw [hN]; decide) fun K hK => ?_
 simp [-guardE_b, -Is_at, -Is_at', -Ls_at, -Ls_at', eL, eI, allInts, eP_Adj, eP_Cat, eP_Fn, Adj.cells, Cat.cells, Fn.cells]
 repeat (with_reducible refine And.intro ?_ ?_; · first | assumption | omega | (simp; done) | (simp; omega) | simp_all)
 replace h := bind_some h
 obtain ⟨v38, hv38, h⟩ := h
 refine callA_intro (w_i_adjunction _ _ _ _ v38 hv38) (.cons (.field rfl (by simp [Adj.cells, Cat.cells, Fn.cells]) (.cons .val (.cons (.whole (by simp) (by simp) (by simp)) (.cons (.whole (by simp) (by simp) (by simp)) (.cons (.whole (by simp) (by simp) (by simp)) (.cons (.whole (by simp) (by simp) (by simp)) (.cons .val (.cons (.whole (by simp) (by simp) (by simp)) (.cons (.whole (by simp) (by simp) (by simp)) (.cons (.whole (by simp) (by simp) (by simp)) (.cons (.whole (by simp) (by simp) (by simp)) (.cons (.whole (by simp) (by simp) (by simp)) (.cons (.whole (by simp) (by simp) (by simp)) .nil))))))))))))) (.cons (.field rfl (by simp [Adj.cells, Cat.cells, Fn.cells]) (.cons .val (.cons (.whole (by simp) (by simp) (by simp)) (.cons (.whole (by simp) (by simp) (by simp)) (.cons (.whole (by simp) (by simp) (by simp)) (.cons (.whole (by simp) (by simp) (by simp)) (.cons .val (.cons (.whole (by simp) (by simp) (by simp)) (.cons (.whole (by simp) (by simp) (by simp)) (.cons (.whole (by simp) (by simp) (by simp)) (.cons (.whole (by simp) (by simp) (by simp)) (.cons (.whole (by simp) (by simp) (by simp)) (.cons (.whole (by simp) (by simp) (by simp)) .nil))))))))))))) (.cons (.whole (by simp) (by simp) (by simp)) (.cons (.whole (by simp) (by simp) (by simp)) .nil)))) ?_
 simp [-guardE_b, -Is_at, -Is_at', -Ls_at, -Ls_at', unk, unA, unE, unT, unC, flat, eL, eI, allInts, eP_Adj, eP_Cat, eP_Fn, Adj.cells, Cat.cells, Fn.cells]
 repeat (with_reducible refine And.intro ?_ ?_; · first | assumption | omega | (simp; done) | (simp; omega) | simp_all)
 refine hK _ ?_
 clear hK K
 refine tn ?_
 refine w_weak (st' := ⟨[(4, .adr 0 0 0), (5, .val (.int .i64 0))], [(0, .mix 26 [[.val (.int .i64 v38.l.s.n), .own 1 0 v38.l.s.fr.length, .own 2 0 v38.l.s.to.length, .own 3 0 v38.l.s.id.length, .own 4 0 v38.l.s.cs.length, .val (.int .i64 v38.l.t.n), .own 5 0 v38.l.t.fr.length, .own 6 0 v38.l.t.to.length, .own 7 0 v38.l.t.id.length, .own 8 0 v38.l.t.cs.length, .own 9 0 v38.l.ob.length, .own 10 0 v38.l.ar.length, .val (.int .i64 v38.r.s.n), .own 11 0 v38.r.s.fr.length, .own 12 0 v38.r.s.to.length, .own 13 0 v38.r.s.id.length, .own 14 0 v38.r.s.cs.length, .val (.int .i64 v38.r.t.n), .own 15 0 v38.r.t.fr.length, .own 16 0 v38.r.t.to.length, .own 17 0 v38.r.t.id.length, .own 18 0 v38.r.t.cs.length, .own 19 0 v38.r.ob.length, .own 20 0 v38.r.ar.length, .own 21 0 v38.u.length, .own 22 0 v38.k.length]]), (1, .row 1 (Is v38.l.s.fr)), (2, .row 1 (Is v38.l.s.to)), (3, .row 1 (Is v38.l.s.id)), (4, .row 1 (Ls v38.l.s.cs)), (5, .row 1 (Is v38.l.t.fr)), (6, .row 1 (Is v38.l.t.to)), (7, .row 1 (Is v38.l.t.id)), (8, .row 1 (Ls v38.l.t.cs)), (9, .row 1 (Is v38.l.ob)), (10, .row 1 (Is v38.l.ar)), (11, .row 1 (Is v38.r.s.fr)), (12, .row 1 (Is v38.r.s.to)), (13, .row 1 (Is v38.r.s.id)), (14, .row 1 (Ls v38.r.s.cs)), (15, .row 1 (Is v38.r.t.fr)), (16, .row 1 (Is v38.r.t.to)), (17, .row 1 (Is v38.r.t.id)), (18, .row 1 (Ls v38.r.t.cs)), (19, .row 1 (Is v38.r.ob)), (20, .row 1 (Is v38.r.ar)), (21, .row 1 (Is v38.u)), (22, .row 1 (Is v38.k))], 23⟩) (Wk.r1 [(0, 0), (26, 1), (27, 2), (28, 3), (29, 4), (31, 5), (32, 6), (33, 7), (34, 8), (35, 9), (36, 10), (38, 11), (39, 12), (40, 13), (41, 14), (43, 15), (44, 16), (45, 17), (46, 18), (47, 19), (48, 20), (49, 21), (50, 22)] (by simp [hP, hhOk, back, Adj.cells, Cat.cells, Fn.cells, IA, I1, LA, L1, BA, B1, EA, E1, E2, eB, eI, eL])) ?_
 refine w_ret ?_
 have hr := Option.some.inj h
 rw [← hr]
 refine ⟨_, (.cell tf_37 rfl rfl rfl (by simp) (by simp) (.tmp .nil)), ?_⟩
 refine ⟨(.agg rfl (.one rfl rfl .nil)), [.val (.int .i64 v38.l.s.n), .lst true 1 (Is v38.l.s.fr), .lst true 1 (Is v38.l.s.to), .lst true 1 (Is v38.l.s.id), .lst true 1 (Ls v38.l.s.cs), .val (.int .i64 v38.l.t.n), .lst true 1 (Is v38.l.t.fr), .lst true 1 (Is v38.l.t.to), .lst true 1 (Is v38.l.t.id), .lst true 1 (Ls v38.l.t.cs), .lst true 1 (Is v38.l.ob), .lst true 1 (Is v38.l.ar), .val (.int .i64 v38.r.s.n), .lst true 1 (Is v38.r.s.fr), .lst true 1 (Is v38.r.s.to), .lst true 1 (Is v38.r.s.id), .lst true 1 (Ls v38.r.s.cs), .val (.int .i64 v38.r.t.n), .lst true 1 (Is v38.r.t.fr), .lst true 1 (Is v38.r.t.to), .lst true 1 (Is v38.r.t.id), .lst true 1 (Ls v38.r.t.cs), .lst true 1 (Is v38.r.ob), .lst true 1 (Is v38.r.ar), .lst true 1 (Is v38.u), .lst true 1 (Is v38.k), .val (.int .i64 0)], [1, 2, 3, 4, 5, 6, 7, 8, 9, 10, 11, 12, 13, 14, 15, 16, 17, 18, 19, 20, 21, 22], by simp [Adj.cells, Cat.cells, Fn.cells, IA, I1, LA, L1, BA, B1, EA, E1, E2, eB, eI, eL], by simp, (UpL.refl _)⟩
end Go.Vc.T

set_option maxRecDepth 100000
set_option linter.unusedSimpArgs false
set_option linter.unusedVariables false
namespace Go.Vc.T
open Go Go.Vc Go.Proofs
noncomputable def s_s_ThenAdjunctions (a_ : Adj) (b_ : Adj) : Option (Adj × Int) :=
 (
   (s_s_l15Is a_).bind fun v2 =>
   if ¬ (v2 = true) then
     some true
   else
     (s_s_l15Is b_).bind fun v4 =>
     some (!v4) : Option (Bool)).bind fun b1 =>
 if b1 = true then
   some ((⟨(⟨(⟨0, [], [], [], []⟩ : Cat), (⟨0, [], [], [], []⟩ : Cat), [], []⟩ : Fn), (⟨(⟨0, [], [], [], []⟩ : Cat), (⟨0, [], [], [], []⟩ : Cat), [], []⟩ : Fn), [], []⟩ : Adj), 1)
 else
   (s_s_l02Same a_.l.t b_.l.s).bind fun v6 =>
   if ¬ (v6 = true) then
     some ((⟨(⟨(⟨0, [], [], [], []⟩ : Cat), (⟨0, [], [], [], []⟩ : Cat), [], []⟩ : Fn), (⟨(⟨0, [], [], [], []⟩ : Cat), (⟨0, [], [], [], []⟩ : Cat), [], []⟩ : Fn), [], []⟩ : Adj), 5)
   else
     (loopF (σ := List Int × Int) (ε := List Int) (fun s17 =>
       if s17.2 < (a_.u.length : Int) then
         ass (0 ≤ s17.2 ∧ s17.2 < (a_.u.length : Int)) <|
         ass (0 ≤ s17.2 ∧ s17.2 < (a_.l.ob.length : Int)) <|
         ass (0 ≤ ix a_.l.ob s17.2 ∧ ix a_.l.ob s17.2 < (b_.u.length : Int)) <|
         ass (0 ≤ ix b_.u (ix a_.l.ob s17.2) ∧ ix b_.u (ix a_.l.ob s17.2) < (a_.r.ar.length : Int)) <|
         (s_s_l02Then a_.l.s (ix a_.u s17.2) (ix a_.r.ar (ix b_.u (ix a_.l.ob s17.2)))).bind fun v23 =>
         ass ((s17.1 ++ [v23]).length ≤ 1073741824) <|
         ass (B64 (s17.2 + 1)) <|
         some (Ctl.next (s17.1 ++ [v23], s17.2 + 1))
       else
         some (Ctl.ret s17.1)) fuel ([], 0)).bind fun b8 =>
     (loopF (σ := List Int × Int) (ε := List Int) (fun s35 =>
       if s35.2 < (b_.k.length : Int) then
         ass (0 ≤ s35.2 ∧ s35.2 < (b_.r.ob.length : Int)) <|
         ass (0 ≤ ix b_.r.ob s35.2 ∧ ix b_.r.ob s35.2 < (a_.k.length : Int)) <|
         ass (0 ≤ ix a_.k (ix b_.r.ob s35.2) ∧ ix a_.k (ix b_.r.ob s35.2) < (b_.l.ar.length : Int)) <|
         ass (0 ≤ s35.2 ∧ s35.2 < (b_.k.length : Int)) <|
         (s_s_l02Then b_.l.t (ix b_.l.ar (ix a_.k (ix b_.r.ob s35.2))) (ix b_.k s35.2)).bind fun v41 =>
         ass ((s35.1 ++ [v41]).length ≤ 1073741824) <|
         ass (B64 (s35.2 + 1)) <|
         some (Ctl.next (s35.1 ++ [v41], s35.2 + 1))
       else
         some (Ctl.ret s35.1)) fuel ([], 0)).bind fun b26 =>
     (s_s_l06Then a_.l b_.l).bind fun v44 =>
     (s_s_l06Then b_.r a_.r).bind fun v45 =>
     some ((⟨v44, v45, b8, b26⟩ : Adj), 0)
set_option maxHeartbeats 4000000 in
theorem w_s_ThenAdjunctions (a_ : Adj) (b_ : Adj) (r : Adj × Int) (h : s_s_ThenAdjunctions a_ b_ = some r) : Contract Try.prog 49 [.agg (a_.cells true), .agg (b_.cells true)] (.tup [.agg (r.1.cells true), .val (.int .i64 r.2)]) := by
 refine contract_introG (rvs := [.cell 4 37, .tmp 5]) (rs := [.agg (r.1.cells true), .val (.int .i64 r.2)]) Try.func49 rfl rfl rfl rfl (by simp [Try.f49]) fun F hN hP => ?_
 unfold s_s_ThenAdjunctions at h
 refine w_seq ?_
 refine w_run mo (by rw [hN]; decide) fun K hK => ?_
 simp [-guardE_b, -Is_at, -Is_at', -Ls_at, -Ls_at', eL, eI, allInts, eP_Adj, eP_Cat, eP_Fn, Adj.cells, Cat.cells, Fn.cells]
 repeat (with_reducible refine And.intro ?_ ?_; · first | assumption | omega | (simp; done) | (simp; omega) | simp_all)
 refine hK _ ?_
 clear hK K
 refine tn ?_
 refine w_weak (st' := ⟨[(2, .adr 0 0 0), (3, .adr 1 0 0), (4, .adr 2 0 0)], [(0, .mix 26 [(Adj.cells true a_)]), (1, .mix 26 [(Adj.cells true b_)]), (2, .mix 26 [[.val (.int .i64 0), .val (.slice none 0 0), .val (.slice none 0 0), .val (.slice none 0 0), .val (.slice none 0 0), .val (.int .i64 0), .val (.slice none 0 0), .val (.slice none 0 0), .val (.slice none 0 0), .val (.slice none 0 0), .val (.slice none 0 0), .val (.slice none 0 0), .val (.int .i64 0), .val (.slice none 0 0), .val (.slice none 0 0), .val (.slice none 0 0), .val (.slice none 0 0), .val (.int .i64 0), .val (.slice none 0 0), .val (.slice none 0 0), .val (.slice none 0 0), .val (.slice none 0 0), .val (.slice none 0 0), .val (.slice none 0 0), .val (.slice none 0 0), .val (.slice none 0 0)]])], 3⟩) (Wk.r1 [(0, 0), (1, 1), (2, 2)] (by simp [hP, hhOk, back, Adj.cells, Cat.cells, Fn.cells, IA, I1, LA, L1, BA, B1, EA, E1, E2, eB, eI, eL])) ?_
 refine w_seq ?_
 refine w_seq ?_
 replace h := bind_some h
 obtain ⟨e1, h, h1⟩ := h
 refine w_joinT (fun b1 : Bool => ⟨[(2, .adr 0 0 0), (3, .adr 1 0 0), (4, .adr 2 0 0), (17, .val (.bool b1))], [(0, .mix 26 [(Adj.cells true a_)]), (1, .mix 26 [(Adj.cells true b_)]), (2, .mix 26 [[.val (.int .i64 0), .val (.slice none 0 0), .val (.slice none 0 0), .val (.slice none 0 0), .val (.slice none 0 0), .val (.int .i64 0), .val (.slice none 0 0), .val (.slice none 0 0), .val (.slice none 0 0), .val (.slice none 0 0), .val (.slice none 0 0), .val (.slice none 0 0), .val (.int .i64 0), .val (.slice none 0 0), .val (.slice none 0 0), .val (.slice none 0 0), .val (.slice none 0 0), .val (.int .i64 0), .val (.slice none 0 0), .val (.slice none 0 0), .val (.slice none 0 0), .val (.slice none 0 0), .val (.slice none 0 0), .val (.slice none 0 0), .val (.slice none 0 0), .val (.slice none 0 0)]])], 3⟩) (fun b1 => b1 = e1) ?_ ?_
 · refine w_run mo (by rw [hN]; decide) fun K hK => ?_
   simp [-guardE_b, -Is_at, -Is_at', -Ls_at, -Ls_at', eL, eI, allInts, eP_Adj, eP_Cat, eP_Fn, Adj.cells, Cat.cells, Fn.cells]
   repeat (with_reducible refine And.intro ?_ ?_; · first | assumption | omega | (simp; done) | (simp; omega) | simp_all)
   replace h := bind_some h
   obtain ⟨v2, hv2, h⟩ := h
   refine callA_intro (w_s_l15Is _ v2 hv2) (.cons (.aggL (.cons .val (.cons .lst (.cons .lst (.cons .lst (.cons .lst (.cons .val (.cons .lst (.cons .lst (.cons .lst (.cons .lst (.cons .lst (.cons .lst (.cons .val (.cons .lst (.cons .lst (.cons .lst (.cons .lst (.cons .val (.cons .lst (.cons .lst (.cons .lst (.cons .lst (.cons .lst (.cons .lst (.cons .lst (.cons .lst .nil))))))))))))))))))))))))))) .nil) ?_
   simp [-guardE_b, -Is_at, -Is_at', -Ls_at, -Ls_at', unk, unA, unE, unT, unC, flat, eL, eI, allInts, eP_Adj, eP_Cat, eP_Fn, Adj.cells, Cat.cells, Fn.cells]
   repeat (with_reducible refine And.intro ?_ ?_; · first | assumption | omega | (simp; done) | (simp; omega) | simp_all)
   refine guard_intro (fun g => ?_) (fun g => ?_)
   · have g3 : ¬ (¬ (v2 = true)) := by first | simpa using g | (simp at g; exact g) | (simp at g; omega)
     clear g
     replace h := if_r g3 h
     simp [-guardE_b, -Is_at, -Is_at', -Ls_at, -Ls_at', eL, eI, allInts, eP_Adj, eP_Cat, eP_Fn, Adj.cells, Cat.cells, Fn.cells]
     repeat (with_reducible refine And.intro ?_ ?_; · first | assumption | omega | (simp; done) | (simp; omega) | simp_all)
     replace h := bind_some h
     obtain ⟨v4, hv4, h⟩ := h
     refine callA_intro (w_s_l15Is _ v4 hv4) (.cons (.aggL (.cons .val (.cons .lst (.cons .lst (.cons .lst (.cons .lst (.cons .val (.cons .lst (.cons .lst (.cons .lst (.cons .lst (.cons .lst (.cons .lst (.cons .val (.cons .lst (.cons .lst (.cons .lst (.cons .lst (.cons .val (.cons .lst (.cons .lst (.cons .lst (.cons .lst (.cons .lst (.cons .lst (.cons .lst (.cons .lst .nil))))))))))))))))))))))))))) .nil) ?_
     simp [-guardE_b, -Is_at, -Is_at', -Ls_at, -Ls_at', unk, unA, unE, unT, unC, flat, eL, eI, allInts, eP_Adj, eP_Cat, eP_Fn, Adj.cells, Cat.cells, Fn.cells]
     repeat (with_reducible refine And.intro ?_ ?_; · first | assumption | omega | (simp; done) | (simp; omega) | simp_all)
     refine hK _ ?_
     exact jn (b := !v4) (Option.some.inj h) (Wk.r1 [(0, 0), (1, 1), (2, 2)] (by simp [hP, hhOk, back, Adj.cells, Cat.cells, Fn.cells, IA, I1, LA, L1, BA, B1, EA, E1, E2, eB, eI, eL]))
   have g3 : ¬ (v2 = true) := by first | simpa using g | (simp at g; exact g) | (simp at g; omega)
   clear g
   replace h := if_l g3 h
   simp [-guardE_b, -Is_at, -Is_at', -Ls_at, -Ls_at', eL, eI, allInts, eP_Adj, eP_Cat, eP_Fn, Adj.cells, Cat.cells, Fn.cells]
   repeat (with_reducible refine And.intro ?_ ?_; · first | assumption | omega | (simp; done) | (simp; omega) | simp_all)
   refine hK _ ?_
   exact jn (b := true) (Option.some.inj h) (Wk.r1 [(0, 0), (1, 1), (2, 2)] (by simp [hP, hhOk, back, Adj.cells, Cat.cells, Fn.cells, IA, I1, LA, L1, BA, B1, EA, E1, E2, eB, eI, eL]))
 intro b1 hb1
 have h := h1
 rw [← hb1] at h
 clear h1
 try dsimp only at h
 refine w_cond rfl (fun g => ?_) fun g => ?_
 · have g5 : b1 = true := by first | simpa using g | (simp at g; exact g) | (simp at g; omega)
   clear g
   replace h := if_l g5 h
   refine w_seq ?_
   refine w_run mo (by rw [hN]; decide) fun K hK => ?_
   simp [-guardE_b, -Is_at, -Is_at', -Ls_at, -Ls_at', eL, eI, allInts, eP_Adj, eP_Cat, eP_Fn, Adj.cells, Cat.cells, Fn.cells]
   repeat (with_reducible refine And.intro ?_ ?_; · first | assumption | omega | (simp; done) | (simp; omega) | simp_all)
   refine hK _ ?_
   clear hK K
   refine tn ?_
   refine w_weak (st' := ⟨[(4, .adr 0 0 0), (5, .val (.int .i64 1))], [(0, .mix 26 [[.val (.int .i64 0), .val (.slice none 0 0), .val (.slice none 0 0), .val (.slice none 0 0), .val (.slice none 0 0), .val (.int .i64 0), .val (.slice none 0 0), .val (.slice none 0 0), .val (.slice none 0 0), .val (.slice none 0 0), .val (.slice none 0 0), .val (.slice none 0 0), .val (.int .i64 0), .val (.slice none 0 0), .val (.slice none 0 0), .val (.slice none 0 0), .val (.slice none 0 0), .val (.int .i64 0), .val (.slice none 0 0), .val (.slice none 0 0), .val (.slice none 0 0), .val (.slice none 0 0), .val (.slice none 0 0), .val (.slice none 0 0), .val (.slice none 0 0), .val (.slice none 0 0)]])], 1⟩) (Wk.r1 [(2, 0)] (by simp [hP, hhOk, back, Adj.cells, Cat.cells, Fn.cells, IA, I1, LA, L1, BA, B1, EA, E1, E2, eB, eI, eL])) ?_
   refine w_ret ?_
   refine tr ?_
   have hr := Option.some.inj h
   rw [← hr]
   refine ⟨_, (.cell tf_37 rfl rfl rfl (by simp) (by simp) (.tmp .nil)), ?_⟩
   refine ⟨(.agg rfl (.one rfl rfl .nil)), [.val (.int .i64 0), .val (.slice none 0 0), .val (.slice none 0 0), .val (.slice none 0 0), .val (.slice none 0 0), .val (.int .i64 0), .val (.slice none 0 0), .val (.slice none 0 0), .val (.slice none 0 0), .val (.slice none 0 0), .val (.slice none 0 0), .val (.slice none 0 0), .val (.int .i64 0), .val (.slice none 0 0), .val (.slice none 0 0), .val (.slice none 0 0), .val (.slice none 0 0), .val (.int .i64 0), .val (.slice none 0 0), .val (.slice none 0 0), .val (.slice none 0 0), .val (.slice none 0 0), .val (.slice none 0 0), .val (.slice none 0 0), .val (.slice none 0 0), .val (.slice none 0 0), .val (.int .i64 1)], [], by simp [Adj.cells, Cat.cells, Fn.cells, IA, I1, LA, L1, BA, B1, EA, E1, E2, eB, eI, eL], by simp, (.cons .refl (.cons .nil (.cons .nil (.cons .nil (.cons .nil (.cons .refl (.cons .nil (.cons .nil (.cons .nil (.cons .nil (.cons .nil (.cons .nil (.cons .refl (.cons .nil (.cons .nil (.cons .nil (.cons .nil (.cons .refl (.cons .nil (.cons .nil (.cons .nil (.cons .nil (.cons .nil (.cons .nil (.cons .nil (.cons .nil (.cons .refl .nil)))))))))))))))))))))))))))⟩
 have g5 : ¬ (b1 = true) := by first | simpa using g | (simp at g; exact g) | (simp at g; omega)
 clear g
 replace h := if_r g5 h
 refine w_skip ?_
 refine tn ?_
 refine w_seq ?_
 refine w_seq ?_
 refine w_run mo (by rw [hN]; decide) fun K hK => ?_
 simp [-guardE_b, -Is_at, -Is_at', -Ls_at, -Ls_at', eL, eI, allInts, eP_Adj, eP_Cat, eP_Fn, Adj.cells, Cat.cells, Fn.cells]
 repeat (with_reducible refine And.intro ?_ ?_; · first | assumption | omega | (simp; done) | (simp; omega) | simp_all)
 replace h := bind_some h
 obtain ⟨v6, hv6, h⟩ := h
 refine callA_intro (w_s_l02Same _ _ v6 hv6) (.cons (.aggL (.cons .val (.cons .lst (.cons .lst (.cons .lst (.cons .lst .nil)))))) (.cons (.aggL (.cons .val (.cons .lst (.cons .lst (.cons .lst (.cons .lst .nil)))))) .nil)) ?_
 simp [-guardE_b, -Is_at, -Is_at', -Ls_at, -Ls_at', unk, unA, unE, unT, unC, flat, eL, eI, allInts, eP_Adj, eP_Cat, eP_Fn, Adj.cells, Cat.cells, Fn.cells]
 repeat (with_reducible refine And.intro ?_ ?_; · first | assumption | omega | (simp; done) | (simp; omega) | simp_all)
 refine hK _ ?_
 clear hK K
 refine tn ?_
 refine w_weak (st' := ⟨[(2, .adr 0 0 0), (3, .adr 1 0 0), (4, .adr 2 0 0), (26, .val (.bool (!v6)))], [(0, .mix 26 [(Adj.cells true a_)]), (1, .mix 26 [(Adj.cells true b_)]), (2, .mix 26 [[.val (.int .i64 0), .val (.slice none 0 0), .val (.slice none 0 0), .val (.slice none 0 0), .val (.slice none 0 0), .val (.int .i64 0), .val (.slice none 0 0), .val (.slice none 0 0), .val (.slice none 0 0), .val (.slice none 0 0), .val (.slice none 0 0), .val (.slice none 0 0), .val (.int .i64 0), .val (.slice none 0 0), .val (.slice none 0 0), .val (.slice none 0 0), .val (.slice none 0 0), .val (.int .i64 0), .val (.slice none 0 0), .val (.slice none 0 0), .val (.slice none 0 0), .val (.slice none 0 0), .val (.slice none 0 0), .val (.slice none 0 0), .val (.slice none 0 0), .val (.slice none 0 0)]])], 3⟩) (Wk.r1 [(0, 0), (1, 1), (2, 2)] (by simp [hP, hhOk, back, Adj.cells, Cat.cells, Fn.cells, IA, I1, LA, L1, BA, B1, EA, E1, E2, eB, eI, eL])) ?_
 refine w_cond rfl (fun g => ?_) fun g => ?_
 · have g7 : ¬ (v6 = true) := by first | simpa using g | (simp at g; exact g) | (simp at g; omega)
   clear g
   replace h := if_l g7 h
   refine w_seq ?_
   refine w_run mo (by rw [hN]; decide) fun K hK => ?_
   simp [-guardE_b, -Is_at, -Is_at', -Ls_at, -Ls_at', eL, eI, allInts, eP_Adj, eP_Cat, eP_Fn, Adj.cells, Cat.cells, Fn.cells]
   repeat (with_reducible refine And.intro ?_ ?_; · first | assumption | omega | (simp; done) | (simp; omega) | simp_all)
   refine hK _ ?_
   clear hK K
   refine tn ?_
   refine w_weak (st' := ⟨[(4, .adr 0 0 0), (5, .val (.int .i64 5))], [(0, .mix 26 [[.val (.int .i64 0), .val (.slice none 0 0), .val (.slice none 0 0), .val (.slice none 0 0), .val (.slice none 0 0), .val (.int .i64 0), .val (.slice none 0 0), .val (.slice none 0 0), .val (.slice none 0 0), .val (.slice none 0 0), .val (.slice none 0 0), .val (.slice none 0 0), .val (.int .i64 0), .val (.slice none 0 0), .val (.slice none 0 0), .val (.slice none 0 0), .val (.slice none 0 0), .val (.int .i64 0), .val (.slice none 0 0), .val (.slice none 0 0), .val (.slice none 0 0), .val (.slice none 0 0), .val (.slice none 0 0), .val (.slice none 0 0), .val (.slice none 0 0), .val (.slice none 0 0)]])], 1⟩) (Wk.r1 [(2, 0)] (by simp [hP, hhOk, back, Adj.cells, Cat.cells, Fn.cells, IA, I1, LA, L1, BA, B1, EA, E1, E2, eB, eI, eL])) ?_
   refine w_ret ?_
   refine tr ?_
   have hr := Option.some.inj h
   rw [← hr]
   refine ⟨_, (.cell tf_37 rfl rfl rfl (by simp) (by simp) (.tmp .nil)), ?_⟩
   refine ⟨(.agg rfl (.one rfl rfl .nil)), [.val (.int .i64 0), .val (.slice none 0 0), .val (.slice none 0 0), .val (.slice none 0 0), .val (.slice none 0 0), .val (.int .i64 0), .val (.slice none 0 0), .val (.slice none 0 0), .val (.slice none 0 0), .val (.slice none 0 0), .val (.slice none 0 0), .val (.slice none 0 0), .val (.int .i64 0), .val (.slice none 0 0), .val (.slice none 0 0), .val (.slice none 0 0), .val (.slice none 0 0), .val (.int .i64 0), .val (.slice none 0 0), .val (.slice none 0 0), .val (.slice none 0 0), .val (.slice none 0 0), .val (.slice none 0 0), .val (.slice none 0 0), .val (.slice none 0 0), .val (.slice none 0 0), .val (.int .i64 5)], [], by simp [Adj.cells, Cat.cells, Fn.cells, IA, I1, LA, L1, BA, B1, EA, E1, E2, eB, eI, eL], by simp, (.cons .refl (.cons .nil (.cons .nil (.cons .nil (.cons .nil (.cons .refl (.cons .nil (.cons .nil (.cons .nil (.cons .nil (.cons .nil (.cons .nil (.cons .refl (.cons .nil (.cons .nil (.cons .nil (.cons .nil (.cons .refl (.cons .nil (.cons .nil (.cons .nil (.cons .nil (.cons .nil (.cons .nil (.cons .nil (.cons .nil (.cons .refl .nil)))))))))))))))))))))))))))⟩
 have g7 : ¬ (¬ (v6 = true)) := by first | simpa using g | (simp at g; exact g) | (simp at g; omega)
 clear g
 replace h := if_r g7 h
 refine w_skip ?_
 refine tn ?_
 refine w_seq ?_
 refine w_run mo (by rw [hN]; decide) fun K hK => ?_
 simp [-guardE_b, -Is_at, -Is_at', -Ls_at, -Ls_at', eL, eI, allInts, eP_Adj, eP_Cat, eP_Fn, Adj.cells, Cat.cells, Fn.cells]
 repeat (with_reducible refine And.intro ?_ ?_; · first | assumption | omega | (simp; done) | (simp; omega) | simp_all)
 refine hK _ ?_
 clear hK K
 refine tn ?_
 refine w_weak (st' := ⟨[(2, .adr 0 0 0), (3, .adr 1 0 0), (4, .adr 2 0 0), (6, .own 3 0 0), (7, .own 4 0 0)], [(0, .mix 26 [(Adj.cells true a_)]), (1, .mix 26 [(Adj.cells true b_)]), (2, .mix 26 [[.val (.int .i64 0), .val (.slice none 0 0), .val (.slice none 0 0), .val (.slice none 0 0), .val (.slice none 0 0), .val (.int .i64 0), .val (.slice none 0 0), .val (.slice none 0 0), .val (.slice none 0 0), .val (.slice none 0 0), .val (.slice none 0 0), .val (.slice none 0 0), .val (.int .i64 0), .val (.slice none 0 0), .val (.slice none 0 0), .val (.slice none 0 0), .val (.slice none 0 0), .val (.int .i64 0), .val (.slice none 0 0), .val (.slice none 0 0), .val (.slice none 0 0), .val (.slice none 0 0), .val (.slice none 0 0), .val (.slice none 0 0), .val (.slice none 0 0), .val (.slice none 0 0)]]), (3, .mix 1 []), (4, .mix 1 [])], 5⟩) (Wk.r1 [(0, 0), (1, 1), (2, 2), (3, 3), (4, 4)] (by simp [hP, hhOk, back, Adj.cells, Cat.cells, Fn.cells, IA, I1, LA, L1, BA, B1, EA, E1, E2, eB, eI, eL])) ?_
 refine w_seq ?_
 refine w_seq ?_
 refine w_run mo (by rw [hN]; decide) fun K hK => ?_
 simp [-guardE_b, -Is_at, -Is_at', -Ls_at, -Ls_at', eL, eI, allInts, eP_Adj, eP_Cat, eP_Fn, Adj.cells, Cat.cells, Fn.cells]
 repeat (with_reducible refine And.intro ?_ ?_; · first | assumption | omega | (simp; done) | (simp; omega) | simp_all)
 refine hK _ ?_
 clear hK K
 refine tn ?_
 refine w_weak (st' := ⟨[(2, .adr 0 0 0), (3, .adr 1 0 0), (4, .adr 2 0 0), (6, .own 3 0 0), (7, .own 4 0 0), (8, .val (.int .i64 0))], [(0, .mix 26 [(Adj.cells true a_)]), (1, .mix 26 [(Adj.cells true b_)]), (2, .mix 26 [[.val (.int .i64 0), .val (.slice none 0 0), .val (.slice none 0 0), .val (.slice none 0 0), .val (.slice none 0 0), .val (.int .i64 0), .val (.slice none 0 0), .val (.slice none 0 0), .val (.slice none 0 0), .val (.slice none 0 0), .val (.slice none 0 0), .val (.slice none 0 0), .val (.int .i64 0), .val (.slice none 0 0), .val (.slice none 0 0), .val (.slice none 0 0), .val (.slice none 0 0), .val (.int .i64 0), .val (.slice none 0 0), .val (.slice none 0 0), .val (.slice none 0 0), .val (.slice none 0 0), .val (.slice none 0 0), .val (.slice none 0 0), .val (.slice none 0 0), .val (.slice none 0 0)]]), (3, .mix 1 []), (4, .mix 1 [])], 5⟩) (Wk.r1 [(0, 0), (1, 1), (2, 2), (3, 3), (4, 4)] (by simp [hP, hhOk, back, Adj.cells, Cat.cells, Fn.cells, IA, I1, LA, L1, BA, B1, EA, E1, E2, eB, eI, eL])) ?_
 replace h := bind_some h
 obtain ⟨e8, h, h8⟩ := h
 refine w_joinT (fun b8 : List Int => ⟨[(2, .adr 0 0 0), (3, .adr 1 0 0), (4, .adr 2 0 0), (6, .own 3 0 b8.length), (7, .own 4 0 0)], [(0, .mix 26 [(Adj.cells true a_)]), (1, .mix 26 [(Adj.cells true b_)]), (2, .mix 26 [[.val (.int .i64 0), .val (.slice none 0 0), .val (.slice none 0 0), .val (.slice none 0 0), .val (.slice none 0 0), .val (.int .i64 0), .val (.slice none 0 0), .val (.slice none 0 0), .val (.slice none 0 0), .val (.slice none 0 0), .val (.slice none 0 0), .val (.slice none 0 0), .val (.int .i64 0), .val (.slice none 0 0), .val (.slice none 0 0), .val (.slice none 0 0), .val (.slice none 0 0), .val (.int .i64 0), .val (.slice none 0 0), .val (.slice none 0 0), .val (.slice none 0 0), .val (.slice none 0 0), .val (.slice none 0 0), .val (.slice none 0 0), .val (.slice none 0 0), .val (.slice none 0 0)]]), (3, .row 1 (Is b8)), (4, .mix 1 [])], 5⟩) (fun b8 => b8 = e8) ?_ ?_
 · refine w_block ?_
   refine w_loopF h (fun s17 : List Int × Int => ⟨[(2, .adr 0 0 0), (3, .adr 1 0 0), (4, .adr 2 0 0), (6, .own 3 0 s17.1.length), (7, .own 4 0 0), (8, .val (.int .i64 s17.2))], [(0, .mix 26 [(Adj.cells true a_)]), (1, .mix 26 [(Adj.cells true b_)]), (2, .mix 26 [[.val (.int .i64 0), .val (.slice none 0 0), .val (.slice none 0 0), .val (.slice none 0 0), .val (.slice none 0 0), .val (.int .i64 0), .val (.slice none 0 0), .val (.slice none 0 0), .val (.slice none 0 0), .val (.slice none 0 0), .val (.slice none 0 0), .val (.slice none 0 0), .val (.int .i64 0), .val (.slice none 0 0), .val (.slice none 0 0), .val (.slice none 0 0), .val (.slice none 0 0), .val (.int .i64 0), .val (.slice none 0 0), .val (.slice none 0 0), .val (.slice none 0 0), .val (.slice none 0 0), .val (.slice none 0 0), .val (.slice none 0 0), .val (.slice none 0 0), .val (.slice none 0 0)]]), (3, .row 1 (Is s17.1)), (4, .mix 1 [])], 5⟩) (wk_tr ⟨[(2, .adr 0 0 0), (3, .adr 1 0 0), (4, .adr 2 0 0), (6, .own 3 0 0), (7, .own 4 0 0), (8, .val (.int .i64 0))], [(0, .mix 26 [(Adj.cells true a_)]), (1, .mix 26 [(Adj.cells true b_)]), (2, .mix 26 [[.val (.int .i64 0), .val (.slice none 0 0), .val (.slice none 0 0), .val (.slice none 0 0), .val (.slice none 0 0), .val (.int .i64 0), .val (.slice none 0 0), .val (.slice none 0 0), .val (.slice none 0 0), .val (.slice none 0 0), .val (.slice none 0 0), .val (.slice none 0 0), .val (.int .i64 0), .val (.slice none 0 0), .val (.slice none 0 0), .val (.slice none 0 0), .val (.slice none 0 0), .val (.int .i64 0), .val (.slice none 0 0), .val (.slice none 0 0), .val (.slice none 0 0), .val (.slice none 0 0), .val (.slice none 0 0), .val (.slice none 0 0), .val (.slice none 0 0), .val (.slice none 0 0)]]), (3, .row 1 (Is [])), (4, .mix 1 [])], 5⟩ (Wk.nils [] (by simp) (by simp) (by simp [nlA]) (by simp [entN, nlL, nlA, Adj.cells, Cat.cells, Fn.cells, IA, I1, LA, L1, BA, B1, EA, E1, E2, eB, eI, eL]) (by simp)) (Wk.r1 [(0, 0), (1, 1), (2, 2), (3, 3), (4, 4)] (by simp [hP, hhOk, back, Adj.cells, Cat.cells, Fn.cells, IA, I1, LA, L1, BA, B1, EA, E1, E2, eB, eI, eL]))) ?_
   clear h
   intro k17 s17 c17 h hk17
   refine w_seq ?_
   refine w_seq ?_
   refine w_run mo (by rw [hN]; decide) fun K hK => ?_
   simp [-guardE_b, -Is_at, -Is_at', -Ls_at, -Ls_at', eL, eI, allInts, eP_Adj, eP_Cat, eP_Fn, Adj.cells, Cat.cells, Fn.cells]
   repeat (with_reducible refine And.intro ?_ ?_; · first | assumption | omega | (simp; done) | (simp; omega) | simp_all)
   refine hK _ ?_
   clear hK K
   refine tn ?_
   refine w_weak (st' := ⟨[(2, .adr 0 0 0), (3, .adr 1 0 0), (4, .adr 2 0 0), (6, .own 3 0 s17.1.length), (7, .own 4 0 0), (8, .val (.int .i64 s17.2)), (34, .val (.bool (decide (s17.2 < (a_.u.length : Int)))))], [(0, .mix 26 [(Adj.cells true a_)]), (1, .mix 26 [(Adj.cells true b_)]), (2, .mix 26 [[.val (.int .i64 0), .val (.slice none 0 0), .val (.slice none 0 0), .val (.slice none 0 0), .val (.slice none 0 0), .val (.int .i64 0), .val (.slice none 0 0), .val (.slice none 0 0), .val (.slice none 0 0), .val (.slice none 0 0), .val (.slice none 0 0), .val (.slice none 0 0), .val (.int .i64 0), .val (.slice none 0 0), .val (.slice none 0 0), .val (.slice none 0 0), .val (.slice none 0 0), .val (.int .i64 0), .val (.slice none 0 0), .val (.slice none 0 0), .val (.slice none 0 0), .val (.slice none 0 0), .val (.slice none 0 0), .val (.slice none 0 0), .val (.slice none 0 0), .val (.slice none 0 0)]]), (3, .row 1 (Is s17.1)), (4, .mix 1 [])], 5⟩) (Wk.r1 [(0, 0), (1, 1), (2, 2), (3, 3), (4, 4)] (by simp [hP, hhOk, back, Adj.cells, Cat.cells, Fn.cells, IA, I1, LA, L1, BA, B1, EA, E1, E2, eB, eI, eL])) ?_
   refine w_cond rfl (fun g => ?_) fun g => ?_
   · have g18 : s17.2 < (a_.u.length : Int) := by first | simpa using g | (simp at g; exact g) | (simp at g; omega)
     clear g
     replace h := if_l g18 h
     refine w_skip ?_
     refine tn ?_
     refine w_seq ?_
     refine w_block ?_
     refine w_run mo (by rw [hN]; decide) fun K hK => ?_
     replace h := ass_some h
     obtain ⟨a19, h⟩ := h
     replace h := ass_some h
     obtain ⟨a20, h⟩ := h
     replace h := ass_some h
     obtain ⟨a21, h⟩ := h
     replace h := ass_some h
     obtain ⟨a22, h⟩ := h
     simp [-guardE_b, -Is_at, -Is_at', -Ls_at, -Ls_at', eL, eI, allInts, eP_Adj, eP_Cat, eP_Fn, Adj.cells, Cat.cells, Fn.cells, at_I a19, at_I a20, at_I a21, at_I a22]
     repeat (with_reducible refine And.intro ?_ ?_; · first | assumption | omega | (simp; done) | (simp; omega) | simp_all)
     replace h := bind_some h
     obtain ⟨v23, hv23, h⟩ := h
     refine callA_intro (w_s_l02Then _ _ _ v23 hv23) (.cons (.aggL (.cons .val (.cons .lst (.cons .lst (.cons .lst (.cons .lst .nil)))))) (.cons .val (.cons .val .nil))) ?_
     replace h := ass_some h
     obtain ⟨a24, h⟩ := h
     try simp only [List.length_append, List.length_cons, List.length_nil] at a24
     simp [-guardE_b, -Is_at, -Is_at', -Ls_at, -Ls_at', unk, unA, unE, unT, unC, flat, eL, eI, allInts, eP_Adj, eP_Cat, eP_Fn, Adj.cells, Cat.cells, Fn.cells, a24]
     repeat (with_reducible refine And.intro ?_ ?_; · first | assumption | omega | (simp; done) | (simp; omega) | simp_all)
     refine hK _ ?_
     clear hK K
     refine bn ?_
     refine tn ?_
     refine w_weak (st' := ⟨[(2, .adr 0 0 0), (3, .adr 1 0 0), (4, .adr 2 0 0), (6, .own 3 0 ((s17.1 ++ [v23]).length)), (7, .own 4 0 0), (8, .val (.int .i64 s17.2))], [(0, .mix 26 [(Adj.cells true a_)]), (1, .mix 26 [(Adj.cells true b_)]), (2, .mix 26 [[.val (.int .i64 0), .val (.slice none 0 0), .val (.slice none 0 0), .val (.slice none 0 0), .val (.slice none 0 0), .val (.int .i64 0), .val (.slice none 0 0), .val (.slice none 0 0), .val (.slice none 0 0), .val (.slice none 0 0), .val (.slice none 0 0), .val (.slice none 0 0), .val (.int .i64 0), .val (.slice none 0 0), .val (.slice none 0 0), .val (.slice none 0 0), .val (.slice none 0 0), .val (.int .i64 0), .val (.slice none 0 0), .val (.slice none 0 0), .val (.slice none 0 0), .val (.slice none 0 0), .val (.slice none 0 0), .val (.slice none 0 0), .val (.slice none 0 0), .val (.slice none 0 0)]]), (3, .row 1 (Is (s17.1 ++ [v23]))), (4, .mix 1 [])], 5⟩) (Wk.r1 [(0, 0), (1, 1), (2, 2), (7, 3), (4, 4)] (by simp [hP, hhOk, back, Adj.cells, Cat.cells, Fn.cells, IA, I1, LA, L1, BA, B1, EA, E1, E2, eB, eI, eL])) ?_
     refine w_run mo (by rw [hN]; decide) fun K hK => ?_
     replace h := ass_some h
     obtain ⟨a25, h⟩ := h
     simp [-guardE_b, -Is_at, -Is_at', -Ls_at, -Ls_at', eL, eI, allInts, eP_Adj, eP_Cat, eP_Fn, Adj.cells, Cat.cells, Fn.cells, wrap_id a25]
     repeat (with_reducible refine And.intro ?_ ?_; · first | assumption | omega | (simp; done) | (simp; omega) | simp_all)
     refine hK _ ?_
     clear hK K
     cases h
     exact rn (s' := (s17.1 ++ [v23], s17.2 + 1)) hk17 (Wk.r1 [(0, 0), (1, 1), (2, 2), (3, 3), (4, 4)] (by simp [hP, hhOk, back, Adj.cells, Cat.cells, Fn.cells, IA, I1, LA, L1, BA, B1, EA, E1, E2, eB, eI, eL]))
   have g18 : ¬ (s17.2 < (a_.u.length : Int)) := by first | simpa using g | (simp at g; exact g) | (simp at g; omega)
   clear g
   replace h := if_r g18 h
   refine w_exit ?_
   refine tx ?_
   refine lx ?_
   refine bh ?_
   cases h
   exact jn (b := s17.1) hk17 (Wk.r1 [(0, 0), (1, 1), (2, 2), (3, 3), (4, 4)] (by simp [hP, hhOk, back, Adj.cells, Cat.cells, Fn.cells, IA, I1, LA, L1, BA, B1, EA, E1, E2, eB, eI, eL]))
 intro b8 hb8
 have h := h8
 rw [← hb8] at h
 clear h8
 try dsimp only at h
 refine w_seq ?_
 refine w_seq ?_
 refine w_run mo (by rw [hN]; decide) fun K hK => ?_
 simp [-guardE_b, -Is_at, -Is_at', -Ls_at, -Ls_at', eL, eI, allInts, eP_Adj, eP_Cat, eP_Fn, Adj.cells, Cat.cells, Fn.cells]
 repeat (with_reducible refine And.intro ?_ ?_; · first | assumption | omega | (simp; done) | (simp; omega) | simp_all)
 refine hK _ ?_
 clear hK K
 refine tn ?_
 refine w_weak (st' := ⟨[(2, .adr 0 0 0), (3, .adr 1 0 0), (4, .adr 2 0 0), (6, .own 3 0 b8.length), (7, .own 4 0 0), (9, .val (.int .i64 0))], [(0, .mix 26 [(Adj.cells true a_)]), (1, .mix 26 [(Adj.cells true b_)]), (2, .mix 26 [[.val (.int .i64 0), .val (.slice none 0 0), .val (.slice none 0 0), .val (.slice none 0 0), .val (.slice none 0 0), .val (.int .i64 0), .val (.slice none 0 0), .val (.slice none 0 0), .val (.slice none 0 0), .val (.slice none 0 0), .val (.slice none 0 0), .val (.slice none 0 0), .val (.int .i64 0), .val (.slice none 0 0), .val (.slice none 0 0), .val (.slice none 0 0), .val (.slice none 0 0), .val (.int .i64 0), .val (.slice none 0 0), .val (.slice none 0 0), .val (.slice none 0 0), .val (.slice none 0 0), .val (.slice none 0 0), .val (.slice none 0 0), .val (.slice none 0 0), .val (.slice none 0 0)]]), (3, .row 1 (Is b8)), (4, .mix 1 [])], 5⟩) (Wk.r1 [(0, 0), (1, 1), (2, 2), (3, 3), (4, 4)] (by simp [hP, hhOk, back, Adj.cells, Cat.cells, Fn.cells, IA, I1, LA, L1, BA, B1, EA, E1, E2, eB, eI, eL])) ?_
 replace h := bind_some h
 obtain ⟨e26, h, h26⟩ := h
 refine w_joinT (fun b26 : List Int => ⟨[(2, .adr 0 0 0), (3, .adr 1 0 0), (4, .adr 2 0 0), (6, .own 3 0 b8.length), (7, .own 4 0 b26.length)], [(0, .mix 26 [(Adj.cells true a_)]), (1, .mix 26 [(Adj.cells true b_)]), (2, .mix 26 [[.val (.int .i64 0), .val (.slice none 0 0), .val (.slice none 0 0), .val (.slice none 0 0), .val (.slice none 0 0), .val (.int .i64 0), .val (.slice none 0 0), .val (.slice none 0 0), .val (.slice none 0 0), .val (.slice none 0 0), .val (.slice none 0 0), .val (.slice none 0 0), .val (.int .i64 0), .val (.slice none 0 0), .val (.slice none 0 0), .val (.slice none 0 0), .val (.slice none 0 0), .val (.int .i64 0), .val (.slice none 0 0), .val (.slice none 0 0), .val (.slice none 0 0), .val (.slice none 0 0), .val (.slice none 0 0), .val (.slice none 0 0), .val (.slice none 0 0), .val (.slice none 0 0)]]), (3, .row 1 (Is b8)), (4, .row 1 (Is b26))], 5⟩) (fun b26 => b26 = e26) ?_ ?_
 · refine w_block ?_
   refine w_loopF h (fun s35 : List Int × Int => ⟨[(2, .adr 0 0 0), (3, .adr 1 0 0), (4, .adr 2 0 0), (6, .own 3 0 b8.length), (7, .own 4 0 s35.1.length), (9, .val (.int .i64 s35.2))], [(0, .mix 26 [(Adj.cells true a_)]), (1, .mix 26 [(Adj.cells true b_)]), (2, .mix 26 [[.val (.int .i64 0), .val (.slice none 0 0), .val (.slice none 0 0), .val (.slice none 0 0), .val (.slice none 0 0), .val (.int .i64 0), .val (.slice none 0 0), .val (.slice none 0 0), .val (.slice none 0 0), .val (.slice none 0 0), .val (.slice none 0 0), .val (.slice none 0 0), .val (.int .i64 0), .val (.slice none 0 0), .val (.slice none 0 0), .val (.slice none 0 0), .val (.slice none 0 0), .val (.int .i64 0), .val (.slice none 0 0), .val (.slice none 0 0), .val (.slice none 0 0), .val (.slice none 0 0), .val (.slice none 0 0), .val (.slice none 0 0), .val (.slice none 0 0), .val (.slice none 0 0)]]), (3, .row 1 (Is b8)), (4, .row 1 (Is s35.1))], 5⟩) (wk_tr ⟨[(2, .adr 0 0 0), (3, .adr 1 0 0), (4, .adr 2 0 0), (6, .own 3 0 b8.length), (7, .own 4 0 0), (9, .val (.int .i64 0))], [(0, .mix 26 [(Adj.cells true a_)]), (1, .mix 26 [(Adj.cells true b_)]), (2, .mix 26 [[.val (.int .i64 0), .val (.slice none 0 0), .val (.slice none 0 0), .val (.slice none 0 0), .val (.slice none 0 0), .val (.int .i64 0), .val (.slice none 0 0), .val (.slice none 0 0), .val (.slice none 0 0), .val (.slice none 0 0), .val (.slice none 0 0), .val (.slice none 0 0), .val (.int .i64 0), .val (.slice none 0 0), .val (.slice none 0 0), .val (.slice none 0 0), .val (.slice none 0 0), .val (.int .i64 0), .val (.slice none 0 0), .val (.slice none 0 0), .val (.slice none 0 0), .val (.slice none 0 0), .val (.slice none 0 0), .val (.slice none 0 0), .val (.slice none 0 0), .val (.slice none 0 0)]]), (3, .row 1 (Is b8)), (4, .row 1 (Is []))], 5⟩ (Wk.nils [] (by simp) (by simp) (by simp [nlA]) (by simp [entN, nlL, nlA, Adj.cells, Cat.cells, Fn.cells, IA, I1, LA, L1, BA, B1, EA, E1, E2, eB, eI, eL]) (by simp)) (Wk.r1 [(0, 0), (1, 1), (2, 2), (3, 3), (4, 4)] (by simp [hP, hhOk, back, Adj.cells, Cat.cells, Fn.cells, IA, I1, LA, L1, BA, B1, EA, E1, E2, eB, eI, eL]))) ?_
   clear h
   intro k35 s35 c35 h hk35
   refine w_seq ?_
   refine w_seq ?_
   refine w_run mo (by rw [hN]; decide) fun K hK => ?_
   simp [-guardE_b, -Is_at, -Is_at', -Ls_at, -Ls_at', eL, eI, allInts, eP_Adj, eP_Cat, eP_Fn, Adj.cells, Cat.cells, Fn.cells]
   repeat (with_reducible refine And.intro ?_ ?_; · first | assumption | omega | (simp; done) | (simp; omega) | simp_all)
   refine hK _ ?_
   clear hK K
   refine tn ?_
   refine w_weak (st' := ⟨[(2, .adr 0 0 0), (3, .adr 1 0 0), (4, .adr 2 0 0), (6, .own 3 0 b8.length), (7, .own 4 0 s35.1.length), (9, .val (.int .i64 s35.2)), (68, .val (.bool (decide (s35.2 < (b_.k.length : Int)))))], [(0, .mix 26 [(Adj.cells true a_)]), (1, .mix 26 [(Adj.cells true b_)]), (2, .mix 26 [[.val (.int .i64 0), .val (.slice none 0 0), .val (.slice none 0 0), .val (.slice none 0 0), .val (.slice none 0 0), .val (.int .i64 0), .val (.slice none 0 0), .val (.slice none 0 0), .val (.slice none 0 0), .val (.slice none 0 0), .val (.slice none 0 0), .val (.slice none 0 0), .val (.int .i64 0), .val (.slice none 0 0), .val (.slice none 0 0), .val (.slice none 0 0), .val (.slice none 0 0), .val (.int .i64 0), .val (.slice none 0 0), .val (.slice none 0 0), .val (.slice none 0 0), .val (.slice none 0 0), .val (.slice none 0 0), .val (.slice none 0 0), .val (.slice none 0 0), .val (.slice none 0 0)]]), (3, .row 1 (Is b8)), (4, .row 1 (Is s35.1))], 5⟩) (Wk.r1 [(0, 0), (1, 1), (2, 2), (3, 3), (4, 4)] (by simp [hP, hhOk, back, Adj.cells, Cat.cells, Fn.cells, IA, I1, LA, L1, BA, B1, EA, E1, E2, eB, eI, eL])) ?_
   refine w_cond rfl (fun g => ?_) fun g => ?_
   · have g36 : s35.2 < (b_.k.length : Int) := by first | simpa using g | (simp at g; exact g) | (simp at g; omega)
     clear g
     replace h := if_l g36 h
     refine w_skip ?_
     refine tn ?_
     refine w_seq ?_
     refine w_block ?_
     refine w_run mo (by rw [hN]; decide) fun K hK => ?_
     replace h := ass_some h
     obtain ⟨a37, h⟩ := h
     replace h := ass_some h
     obtain ⟨a38, h⟩ := h
     replace h := ass_some h
     obtain ⟨a39, h⟩ := h
     replace h := ass_some h
     obtain ⟨a40, h⟩ := h
     simp [-guardE_b, -Is_at, -Is_at', -Ls_at, -Ls_at', eL, eI, allInts, eP_Adj, eP_Cat, eP_Fn, Adj.cells, Cat.cells, Fn.cells, at_I a37, at_I a38, at_I a39, at_I a40]
     repeat (with_reducible refine And.intro ?_ ?_; · first | assumption | omega | (simp; done) | (simp; omega) | simp_all)
     replace h := bind_some h
     obtain ⟨v41, hv41, h⟩ := h
     refine callA_intro (w_s_l02Then _ _ _ v41 hv41) (.cons (.aggL (.cons .val (.cons .lst (.cons .lst (.cons .lst (.cons .lst .nil)))))) (.cons .val (.cons .val .nil))) ?_
     replace h := ass_some h
     obtain ⟨a42, h⟩ := h
     try simp only [List.length_append, List.length_cons, List.length_nil] at a42
     simp [-guardE_b, -Is_at, -Is_at', -Ls_at, -Ls_at', unk, unA, unE, unT, unC, flat, eL, eI, allInts, eP_Adj, eP_Cat, eP_Fn, Adj.cells, Cat.cells, Fn.cells, a42]
     repeat (with_reducible refine And.intro ?_ ?_; · first | assumption | omega | (simp; done) | (simp; omega) | simp_all)
     refine hK _ ?_
     clear hK K
     refine bn ?_
     refine tn ?_
     refine w_weak (st' := ⟨[(2, .adr 0 0 0), (3, .adr 1 0 0), (4, .adr 2 0 0), (6, .own 3 0 b8.length), (7, .own 4 0 ((s35.1 ++ [v41]).length)), (9, .val (.int .i64 s35.2))], [(0, .mix 26 [(Adj.cells true a_)]), (1, .mix 26 [(Adj.cells true b_)]), (2, .mix 26 [[.val (.int .i64 0), .val (.slice none 0 0), .val (.slice none 0 0), .val (.slice none 0 0), .val (.slice none 0 0), .val (.int .i64 0), .val (.slice none 0 0), .val (.slice none 0 0), .val (.slice none 0 0), .val (.slice none 0 0), .val (.slice none 0 0), .val (.slice none 0 0), .val (.int .i64 0), .val (.slice none 0 0), .val (.slice none 0 0), .val (.slice none 0 0), .val (.slice none 0 0), .val (.int .i64 0), .val (.slice none 0 0), .val (.slice none 0 0), .val (.slice none 0 0), .val (.slice none 0 0), .val (.slice none 0 0), .val (.slice none 0 0), .val (.slice none 0 0), .val (.slice none 0 0)]]), (3, .row 1 (Is b8)), (4, .row 1 (Is (s35.1 ++ [v41])))], 5⟩) (Wk.r1 [(0, 0), (1, 1), (2, 2), (3, 3), (7, 4)] (by simp [hP, hhOk, back, Adj.cells, Cat.cells, Fn.cells, IA, I1, LA, L1, BA, B1, EA, E1, E2, eB, eI, eL])) ?_
     refine w_run mo (by rw [hN]; decide) fun K hK => ?_
     replace h := ass_some h
     obtain ⟨a43, h⟩ := h
     simp [-guardE_b, -Is_at, -Is_at', -Ls_at, -Ls_at', eL, eI, allInts, eP_Adj, eP_Cat, eP_Fn, Adj.cells, Cat.cells, Fn.cells, wrap_id a43]
     repeat (with_reducible refine And.intro ?_ ?_; · first | assumption | omega | (simp; done) | (simp; omega) | simp_all)
     refine hK _ ?_
     clear hK K
     cases h
     exact rn (s' := (s35.1 ++ [v41], s35.2 + 1)) hk35 (Wk.r1 [(0, 0), (1, 1), (2, 2), (3, 3), (4, 4)] (by simp [hP, hhOk, back, Adj.cells, Cat.cells, Fn.cells, IA, I1, LA, L1, BA, B1, EA, E1, E2, eB, eI, eL]))
   have g36 : ¬ (s35.2 < (b_.k.length : Int)) := by first | simpa using g | (simp at g; exact g) | (simp at g; omega)
   clear g
   replace h := if_r g36 h
   refine w_exit ?_
   refine tx ?_
   refine lx ?_
   refine bh ?_
   cases h
   exact jn (b := s35.1) hk35 (Wk.r1 [(0, 0), (1, 1), (2, 2), (3, 3), (4, 4)] (by simp [hP, hhOk, back, Adj.cells, Cat.cells, Fn.cells, IA, I1, LA, L1, BA, B1, EA, E1, E2, eB, eI, eL]))
 intro b26 hb26
 have h := h26
 rw [← hb26] at h
 clear h26
 try dsimp only at h
 refine w_seq ?_
 refine w_run mo (by rw [hN]; decide) fun K hK => ?_
 simp [-guardE_b, -Is_at, -Is_at', -Ls_at, -Ls_at', eL, eI, allInts, eP_Adj, eP_Cat, eP_Fn, Adj.cells, Cat.cells, Fn.cells]
 repeat (with_reducible refine And.intro ?_ ?_; · first | assumption | omega | (simp; done) | (simp; omega) | simp_all)
 replace h := bind_some h
 obtain ⟨v44, hv44, h⟩ := h
 refine callA_intro (w_s_l06Then _ _ v44 hv44) (.cons (.aggL (.cons .val (.cons .lst (.cons .lst (.cons .lst (.cons .lst (.cons .val (.cons .lst (.cons .lst (.cons .lst (.cons .lst (.cons .lst (.cons .lst .nil))))))))))))) (.cons (.aggL (.cons .val (.cons .lst (.cons .lst (.cons .lst (.cons .lst (.cons .val (.cons .lst (.cons .lst (.cons .lst (.cons .lst (.cons .lst (.cons .lst .nil))))))))))))) .nil)) ?_
 simp [-guardE_b, -Is_at, -Is_at', -Ls_at, -Ls_at', unk, unA, unE, unT, unC, flat, eL, eI, allInts, eP_Adj, eP_Cat, eP_Fn, Adj.cells, Cat.cells, Fn.cells]
 repeat (with_reducible refine And.intro ?_ ?_; · first | assumption | omega | (simp; done) | (simp; omega) | simp_all)
 replace h := bind_some h
 obtain ⟨v45, hv45, h⟩ := h
 refine callA_intro (w_s_l06Then _ _ v45 hv45) (.cons (.aggL (.cons .val (.cons .lst (.cons .lst (.cons .lst (.cons .lst (.cons .val (.cons .lst (.cons .lst (.cons .lst (.cons .lst (.cons .lst (.cons .lst .nil))))))))))))) (.cons (.aggL (.cons .val (.cons .lst (.cons .lst (.cons .lst (.cons .lst (.cons .val (.cons .lst (.cons .lst (.cons .lst (.cons .lst (.cons .lst (.cons .lst .nil))))))))))))) .nil)) ?_
 simp [-guardE_b, -Is_at, -Is_at', -Ls_at, -Ls_at', unk, unA, unE, unT, unC, flat, eL, eI, allInts, eP_Adj, eP_Cat, eP_Fn, Adj.cells, Cat.cells, Fn.cells]
 repeat (with_reducible refine And.intro ?_ ?_; · first | assumption | omega | (simp; done) | (simp; omega) | simp_all)
 refine hK _ ?_
 clear hK K
 refine tn ?_
 refine w_weak (st' := ⟨[(4, .adr 0 0 0), (5, .val (.int .i64 0))], [(0, .mix 26 [[.val (.int .i64 v44.s.n), .own 1 0 v44.s.fr.length, .own 2 0 v44.s.to.length, .own 3 0 v44.s.id.length, .own 4 0 v44.s.cs.length, .val (.int .i64 v44.t.n), .own 5 0 v44.t.fr.length, .own 6 0 v44.t.to.length, .own 7 0 v44.t.id.length, .own 8 0 v44.t.cs.length, .own 9 0 v44.ob.length, .own 10 0 v44.ar.length, .val (.int .i64 v45.s.n), .own 11 0 v45.s.fr.length, .own 12 0 v45.s.to.length, .own 13 0 v45.s.id.length, .own 14 0 v45.s.cs.length, .val (.int .i64 v45.t.n), .own 15 0 v45.t.fr.length, .own 16 0 v45.t.to.length, .own 17 0 v45.t.id.length, .own 18 0 v45.t.cs.length, .own 19 0 v45.ob.length, .own 20 0 v45.ar.length, .own 21 0 b8.length, .own 22 0 b26.length]]), (1, .row 1 (Is v44.s.fr)), (2, .row 1 (Is v44.s.to)), (3, .row 1 (Is v44.s.id)), (4, .row 1 (Ls v44.s.cs)), (5, .row 1 (Is v44.t.fr)), (6, .row 1 (Is v44.t.to)), (7, .row 1 (Is v44.t.id)), (8, .row 1 (Ls v44.t.cs)), (9, .row 1 (Is v44.ob)), (10, .row 1 (Is v44.ar)), (11, .row 1 (Is v45.s.fr)), (12, .row 1 (Is v45.s.to)), (13, .row 1 (Is v45.s.id)), (14, .row 1 (Ls v45.s.cs)), (15, .row 1 (Is v45.t.fr)), (16, .row 1 (Is v45.t.to)), (17, .row 1 (Is v45.t.id)), (18, .row 1 (Ls v45.t.cs)), (19, .row 1 (Is v45.ob)), (20, .row 1 (Is v45.ar)), (21, .row 1 (Is b8)), (22, .row 1 (Is b26))], 23⟩) (Wk.r1 [(2, 0), (6, 1), (7, 2), (8, 3), (9, 4), (11, 5), (12, 6), (13, 7), (14, 8), (15, 9), (16, 10), (18, 11), (19, 12), (20, 13), (21, 14), (23, 15), (24, 16), (25, 17), (26, 18), (27, 19), (28, 20), (3, 21), (4, 22)] (by simp [hP, hhOk, back, Adj.cells, Cat.cells, Fn.cells, IA, I1, LA, L1, BA, B1, EA, E1, E2, eB, eI, eL])) ?_
 refine w_ret ?_
 have hr := Option.some.inj h
 rw [← hr]
 refine ⟨_, (.cell tf_37 rfl rfl rfl (by simp) (by simp) (.tmp .nil)), ?_⟩
 refine ⟨(.agg rfl (.one rfl rfl .nil)), [.val (.int .i64 v44.s.n), .lst true 1 (Is v44.s.fr), .lst true 1 (Is v44.s.to), .lst true 1 (Is v44.s.id), .lst true 1 (Ls v44.s.cs), .val (.int .i64 v44.t.n), .lst true 1 (Is v44.t.fr), .lst true 1 (Is v44.t.to), .lst true 1 (Is v44.t.id), .lst true 1 (Ls v44.t.cs), .lst true 1 (Is v44.ob), .lst true 1 (Is v44.ar), .val (.int .i64 v45.s.n), .lst true 1 (Is v45.s.fr), .lst true 1 (Is v45.s.to), .lst true 1 (Is v45.s.id), .lst true 1 (Ls v45.s.cs), .val (.int .i64 v45.t.n), .lst true 1 (Is v45.t.fr), .lst true 1 (Is v45.t.to), .lst true 1 (Is v45.t.id), .lst true 1 (Ls v45.t.cs), .lst true 1 (Is v45.ob), .lst true 1 (Is v45.ar), .lst true 1 (Is b8), .lst true 1 (Is b26), .val (.int .i64 0)], [1, 2, 3, 4, 5, 6, 7, 8, 9, 10, 11, 12, 13, 14, 15, 16, 17, 18, 19, 20, 21, 22], by simp [Adj.cells, Cat.cells, Fn.cells, IA, I1, LA, L1, BA, B1, EA, E1, E2, eB, eI, eL], by simp, (UpL.refl _)⟩
end Go.Vc.T

set_option maxRecDepth 100000
set_option linter.unusedSimpArgs false
set_option linter.unusedVariables false
namespace Go.Vc.T
open Go Go.Vc Go.Proofs
def tab {α : Type} (n : Nat) (g : Nat → α) : List α := (List.range n).map g
@[simp] theorem tab_length {α : Type} (n : Nat) (g : Nat → α) : (tab n g).length = n := by simp [tab]
theorem tab_succ {α : Type} (n : Nat) (g : Nat → α) : tab (n + 1) g = tab n g ++ [g n] := by simp [tab, List.range_succ]
theorem Cat.Is.size {c : Cat} (h : c.Is) : c.size ≤ 2000 := h.1.size2.2
theorem Fn.Is.ok {f : Fn} (h : f.Is) : f.ok ∧ f.size ≤ 4048 := by
 have h1 := h.lob
 have h2 := h.lar
 have h3 := h.s.size
 have h4 := h.t.size
 exact ⟨⟨h.s.ok, h.t.ok, by omega, by omega⟩, by simp only [Fn.size]; omega⟩
def zeroF : Fn := ⟨⟨0, [], [], [], []⟩, ⟨0, [], [], [], []⟩, [], []⟩
def adjV (a b : Adj) : Adj := ⟨thenF a.l b.l, thenF b.r a.r, tab a.l.ob.length fun x => ix (rx a.l.s.cs (ix a.u x)) (ix a.r.ar (ix b.u (ix a.l.ob x))), tab b.r.ob.length fun z => ix (rx b.l.t.cs (ix b.l.ar (ix a.k (ix b.r.ob z)))) (ix b.k z)⟩
structure Adj.Two (a b : Adj) : Prop where
 ha : a.Is
 hb : b.Is
 e : a.l.t = b.l.s
theorem Adj.Two.ub {a b : Adj} (h : a.Two b) {x : Nat} (hx : x < a.l.ob.length) : (0 ≤ ix a.u x ∧ ix a.u x < a.l.s.cs.length) ∧ (0 ≤ ix a.l.ob x ∧ ix a.l.ob x < b.u.length) ∧ (0 ≤ ix b.u (ix a.l.ob x) ∧ ix b.u (ix a.l.ob x) < a.r.ar.length) ∧ (rx a.l.s.cs (ix a.u x)).length = a.l.s.fr.length ∧ (0 ≤ ix a.r.ar (ix b.u (ix a.l.ob x)) ∧ ix a.r.ar (ix b.u (ix a.l.ob x)) < a.l.s.fr.length) := by
 obtain ⟨l1, l2, l3, l4, l5, l6, l7, l8, l9, l10, l11, l12, l13, l14⟩ := h.ha.pre.len
 obtain ⟨m1, m2, m3, m4, m5, m6, m7, m8, m9, m10, m11, m12, m13, m14⟩ := h.hb.pre.len
 have e := h.e
 have u1 := (h.ha.pre.unit (x := x) (by omega) (by omega)).1
 have o1 := h.ha.pre.lob (x := x) (by omega) (by omega)
 have lo : (a.r.ob.length : Int) = b.l.ob.length := by rw [l4, m3, e]
 have v1 := (h.hb.pre.unit (x := ix a.l.ob x) (by omega) (by omega)).1
 rw [← e] at v1
 have w1 := (h.ha.pre.rar v1.1 v1.2).1
 have r1 := h.ha.pre.hl.s.1.row' u1.1 u1.2
 exact ⟨by omega, by omega, by omega, r1, w1⟩
theorem Adj.Two.kb {a b : Adj} (h : a.Two b) {z : Nat} (hz : z < b.r.ob.length) : (0 ≤ ix b.r.ob z ∧ ix b.r.ob z < a.k.length) ∧ (0 ≤ ix a.k (ix b.r.ob z) ∧ ix a.k (ix b.r.ob z) < b.l.ar.length) ∧ (0 ≤ ix b.l.ar (ix a.k (ix b.r.ob z)) ∧ ix b.l.ar (ix a.k (ix b.r.ob z)) < b.l.t.cs.length) ∧ (rx b.l.t.cs (ix b.l.ar (ix a.k (ix b.r.ob z)))).length = b.l.t.fr.length ∧ (0 ≤ ix b.k z ∧ ix b.k z < b.l.t.fr.length) := by
 obtain ⟨l1, l2, l3, l4, l5, l6, l7, l8, l9, l10, l11, l12, l13, l14⟩ := h.ha.pre.len
 obtain ⟨m1, m2, m3, m4, m5, m6, m7, m8, m9, m10, m11, m12, m13, m14⟩ := h.hb.pre.len
 have e := h.e
 have lo : (a.r.ob.length : Int) = b.l.ob.length := by rw [l4, m3, e]
 have o1 := h.hb.pre.rob (y := z) (by omega) (by omega)
 have k1 := (h.hb.pre.co (y := z) (by omega) (by omega)).1
 have v1 := (h.ha.pre.co (y := ix b.r.ob z) (by omega) (by omega)).1
 rw [e] at v1
 have w1 := (h.hb.pre.lar v1.1 v1.2).1
 have r1 := h.hb.pre.hl.t.1.row' w1.1 w1.2
 exact ⟨by omega, by omega, by omega, r1, k1⟩
theorem e_adjunction {f g : Fn} {u k : List Int} (hf : f.Is) (hg : g.Is) (hu : u.length ≤ 1048576) (hk : k.length ≤ 1048576) : s_i_adjunction f g u k = some ⟨f, g, u, k⟩ := by
 unfold s_i_adjunction s_i_clone
 rw [e_Fcopy hf, e_Fcopy hg, ass_pos hu, ass_pos hk]
 rfl
theorem m_ThenAdjunctions (a b : Adj) : ∃ r, s_s_ThenAdjunctions a b = some r ∧ s_i_ThenAdjunctions a b = some r ∧ r.1.ok ∧ r.1.size ≤ 20000 := by
 have zo : (⟨zeroF, zeroF, [], []⟩ : Adj).ok ∧ (⟨zeroF, zeroF, [], []⟩ : Adj).size ≤ 20000 := ⟨by simp [Adj.ok, Fn.ok, Cat.ok, zeroF, sumL], by simp [Adj.size, Fn.size, Cat.size, zeroF, sumL]⟩
 unfold s_s_ThenAdjunctions s_i_ThenAdjunctions
 simp only [e_l15Is, e_isAdj]
 by_cases ha : a.Is
 case neg => exact ⟨(⟨zeroF, zeroF, [], []⟩, 1), by simp [bo_neg ha, zeroF], by simp [bo_neg ha, zeroF], zo⟩
 by_cases hb : b.Is
 case neg => exact ⟨(⟨zeroF, zeroF, [], []⟩, 1), by simp [bo_pos ha, bo_neg hb, zeroF], by simp [bo_pos ha, bo_neg hb, zeroF], zo⟩
 simp only [bo_pos ha, bo_pos hb, Option.bind_some, not_true_eq_false, if_false, Bool.not_true, Bool.false_eq_true]
 rw [e_sameCat ha.pre.hl.t]
 unfold s_s_l02Same
 by_cases he : a.l.t = b.l.s
 case neg => exact ⟨(⟨zeroF, zeroF, [], []⟩, 5), by simp [bo_neg he, zeroF], by simp [bo_neg he, zeroF], zo⟩
 have hT : a.Two b := ⟨ha, hb, he⟩
 obtain ⟨l1, l2, l3, l4, l5, l6, l7, l8, l9, l10, l11, l12, l13, l14⟩ := ha.pre.len
 obtain ⟨m1, m2, m3, m4, m5, m6, m7, m8, m9, m10, m11, m12, m13, m14⟩ := hb.pre.len
 have er : b.r.t = a.r.s := by rw [hb.pre.e2, ← he, ha.pre.e1]
 have f1 := then_is ha.pre.hl hb.pre.hl he
 have f2 := then_is hb.pre.hr ha.pre.hr er
 refine ⟨(adjV a b, 0), ?_, ?_, ⟨f1.ok.1, f2.ok.1, by simp [adjV]; omega, by simp [adjV]; omega⟩, by simp only [Adj.size, adjV, tab_length]; have := f1.ok.2; have := f2.ok.2; omega⟩
 · simp only [bo_pos he, Option.bind_some, not_true_eq_false, if_false]
   refine acc_bind a.l.ob.length (fun i => tab i fun x => ix (rx a.l.s.cs (ix a.u x)) (ix a.r.ar (ix b.u (ix a.l.ob x)))) (e := tab a.l.ob.length fun x => ix (rx a.l.s.cs (ix a.u x)) (ix a.r.ar (ix b.u (ix a.l.ob x)))) rfl (by omega) (fun i hi => ?_) (by simp; try omega) ?_
   · obtain ⟨q1, q2, q3, q4, q5⟩ := hT.ub hi
     simp (disch := omega) [ass_pos, B64, tab_succ, e_l02Then]; try omega
   refine acc_bind b.r.ob.length (fun i => tab i fun z => ix (rx b.l.t.cs (ix b.l.ar (ix a.k (ix b.r.ob z)))) (ix b.k z)) (e := tab b.r.ob.length fun z => ix (rx b.l.t.cs (ix b.l.ar (ix a.k (ix b.r.ob z)))) (ix b.k z)) rfl (by omega) (fun i hi => ?_) (by simp; try omega) ?_
   · obtain ⟨q1, q2, q3, q4, q5⟩ := hT.kb hi
     simp (disch := omega) [ass_pos, B64, tab_succ, e_l02Then]; try omega
   rw [e_l06Then ha.pre.hl hb.pre.hl he, e_l06Then hb.pre.hr ha.pre.hr er]
   rfl
 simp only [bo_pos he, Option.bind_some, not_true_eq_false, if_false, e_Fthen ha.pre.hl hb.pre.hl he, e_Fthen hb.pre.hr ha.pre.hr er]
 refine acc_bind a.l.ob.length (fun i => tab i fun x => ix (rx a.l.s.cs (ix a.u x)) (ix a.r.ar (ix b.u (ix a.l.ob x)))) (e := tab a.l.ob.length fun x => ix (rx a.l.s.cs (ix a.u x)) (ix a.r.ar (ix b.u (ix a.l.ob x)))) rfl (by omega) (fun i hi => ?_) (by simp) ?_
 · obtain ⟨q1, q2, q3, q4, q5⟩ := hT.ub hi
   simp (disch := omega) [ass_pos, B64, tab_succ, s_i_Adjunction_transpose, e_Cthen]; try omega
 refine acc_bind b.r.ob.length (fun i => tab i fun z => ix (rx b.l.t.cs (ix b.l.ar (ix a.k (ix b.r.ob z)))) (ix b.k z)) (e := tab b.r.ob.length fun z => ix (rx b.l.t.cs (ix b.l.ar (ix a.k (ix b.r.ob z)))) (ix b.k z)) rfl (by omega) (fun i hi => ?_) (by simp) ?_
 · obtain ⟨q1, q2, q3, q4, q5⟩ := hT.kb hi
   simp (disch := omega) [ass_pos, B64, tab_succ, s_i_Adjunction_transposeBack, e_Cthen]; try omega
 rw [e_adjunction f1 f2 (by simp; omega) (by simp; omega)]
 rfl
end Go.Vc.T
