/- A part of the proof: a verified generator of conditions, and what each function of the program does. -/
import Derived.Test.YtkafionfghoggaaC6
set_option maxRecDepth 100000
set_option linter.unusedSimpArgs false
set_option linter.unusedVariables false

set_option maxRecDepth 100000
set_option linter.unusedSimpArgs false
set_option linter.unusedVariables false
namespace Go.Vc.T
open Go Go.Vc Go.Proofs
noncomputable def s_i_isLaw (s_ : Mnd) (t_ : Mnd) (law_ : List Int) : Option Bool :=
 (s_i_Functor_then t_.f s_.f).bind fun v1 =>
 (s_i_Functor_then s_.f t_.f).bind fun v2 =>
 (s_i_Transformation_isNatural (⟨v1, v2, law_⟩ : Tra)).bind fun v3 =>
 if ¬ (v3 = true) then
   some false
 else
   (loopF (σ := Int) (ε := Unit ⊕ Bool) (fun s39 =>
     if s39 < (law_.length : Int) then
       ass (0 ≤ s39 ∧ s39 < (law_.length : Int)) <|
       (s_i_Monad_object s_ s39).bind fun v42 =>
       (s_i_Monad_object t_ s39).bind fun v43 =>
       ass (0 ≤ s39 ∧ s39 < (t_.u.length : Int)) <|
       (s_i_Monad_arrow s_ (ix t_.u s39)).bind fun v45 =>
       (s_i_Category_then s_.f.s v45 (ix law_ s39)).bind fun v46 =>
       ass (0 ≤ v42 ∧ v42 < (t_.u.length : Int)) <|
       if ¬ (v46 = (ix t_.u v42)) then
         some (Ctl.ret (Sum.inr false))
       else
         ass (0 ≤ v43 ∧ v43 < (s_.u.length : Int)) <|
         (s_i_Category_then s_.f.s (ix s_.u v43) (ix law_ s39)).bind fun v50 =>
         ass (0 ≤ s39 ∧ s39 < (s_.u.length : Int)) <|
         (s_i_Monad_arrow t_ (ix s_.u s39)).bind fun v52 =>
         if ¬ (v50 = v52) then
           some (Ctl.ret (Sum.inr false))
         else
           ass (0 ≤ s39 ∧ s39 < (t_.j.length : Int)) <|
           (s_i_Monad_arrow s_ (ix t_.j s39)).bind fun v55 =>
           (s_i_Category_then s_.f.s v55 (ix law_ s39)).bind fun v56 =>
           ass (0 ≤ v43 ∧ v43 < (law_.length : Int)) <|
           (s_i_Monad_arrow t_ (ix law_ s39)).bind fun v58 =>
           (s_i_Category_then s_.f.s (ix law_ v43) v58).bind fun v59 =>
           ass (0 ≤ v42 ∧ v42 < (t_.j.length : Int)) <|
           (s_i_Category_then s_.f.s v59 (ix t_.j v42)).bind fun v61 =>
           if ¬ (v56 = v61) then
             some (Ctl.ret (Sum.inr false))
           else
             ass (0 ≤ v43 ∧ v43 < (s_.j.length : Int)) <|
             (s_i_Category_then s_.f.s (ix s_.j v43) (ix law_ s39)).bind fun v64 =>
             (s_i_Monad_arrow s_ (ix law_ s39)).bind fun v65 =>
             ass (0 ≤ v42 ∧ v42 < (law_.length : Int)) <|
             (s_i_Category_then s_.f.s v65 (ix law_ v42)).bind fun v67 =>
             ass (0 ≤ s39 ∧ s39 < (s_.j.length : Int)) <|
             (s_i_Monad_arrow t_ (ix s_.j s39)).bind fun v69 =>
             (s_i_Category_then s_.f.s v67 v69).bind fun v70 =>
             if ¬ (v64 = v70) then
               some (Ctl.ret (Sum.inr false))
             else
               ass (B64 (s39 + 1)) <|
               some (Ctl.next (s39 + 1))
     else
       some (Ctl.ret (Sum.inl ()))) fuel 0).bind fun e5 =>
   match e5 with
   | .inl b5 =>
     some true
   | .inr p5 =>
     some p5
set_option maxHeartbeats 4000000 in
theorem w_i_isLaw (s_ : Mnd) (t_ : Mnd) (law_ : List Int) (r : Bool) (h : s_i_isLaw s_ t_ law_ = some r) : Contract Try.prog 149 [.rptr (s_.cells true), .rptr (t_.cells true), .lst true 1 (Is law_)] (.val (.bool r)) := by
 refine contract_introG (rvs := [.tmp 6]) (rs := [.val (.bool r)]) Try.func149 rfl rfl rfl rfl (by simp [Try.f149]) fun F hN hP => ?_
 unfold s_i_isLaw at h
 refine w_seq ?_
 refine w_run mo (by rw [hN]; decide) fun K hK => ?_
 simp [-guardE_b, -Is_at, -Is_at', -Ls_at, -Ls_at', eL, eI, allInts, eP_Cat, eP_Fn, eP_Mnd, eP_Tra, Cat.cells, Fn.cells, Mnd.cells, Tra.cells]
 repeat (with_reducible refine And.intro ?_ ?_; · first | assumption | omega | (simp; done) | (simp; omega) | simp_all)
 refine hK _ ?_
 clear hK K
 refine tn ?_
 refine w_weak (st' := ⟨[(0, .rptr (Mnd.cells true s_)), (1, .rptr (Mnd.cells true t_)), (2, .lst true 1 (Is law_))], [], 0⟩) (Wk.r1 [] (by simp [hP, hhOk, back, Cat.cells, Fn.cells, Mnd.cells, Tra.cells, IA, I1, LA, L1, BA, B1, EA, E1, E2, eB, eI, eL])) ?_
 refine w_seq ?_
 refine w_run mo (by rw [hN]; decide) fun K hK => ?_
 simp [-guardE_b, -Is_at, -Is_at', -Ls_at, -Ls_at', eL, eI, allInts, eP_Cat, eP_Fn, eP_Mnd, eP_Tra, Cat.cells, Fn.cells, Mnd.cells, Tra.cells]
 repeat (with_reducible refine And.intro ?_ ?_; · first | assumption | omega | (simp; done) | (simp; omega) | simp_all)
 refine hK _ ?_
 clear hK K
 refine tn ?_
 refine w_weak (st' := ⟨[(0, .rptr (Mnd.cells true s_)), (1, .rptr (Mnd.cells true t_)), (2, .lst true 1 (Is law_)), (7, .rptr (Mnd.cells true s_))], [], 0⟩) (Wk.r1 [] (by simp [hP, hhOk, back, Cat.cells, Fn.cells, Mnd.cells, Tra.cells, IA, I1, LA, L1, BA, B1, EA, E1, E2, eB, eI, eL])) ?_
 refine w_seq ?_
 refine w_run mo (by rw [hN]; decide) fun K hK => ?_
 simp [-guardE_b, -Is_at, -Is_at', -Ls_at, -Ls_at', eL, eI, allInts, eP_Cat, eP_Fn, eP_Mnd, eP_Tra, Cat.cells, Fn.cells, Mnd.cells, Tra.cells]
 repeat (with_reducible refine And.intro ?_ ?_; · first | assumption | omega | (simp; done) | (simp; omega) | simp_all)
 replace h := bind_some h
 obtain ⟨v1, hv1, h⟩ := h
 refine callA_intro (w_i_Functor_then _ _ v1 hv1) (.cons (.preT (by simp [Fn.cells, Mnd.cells])) (.cons (.preT (by simp [Fn.cells, Mnd.cells])) .nil)) ?_
 simp [-guardE_b, -Is_at, -Is_at', -Ls_at, -Ls_at', unk, unA, unE, unT, unC, flat, eL, eI, allInts, eP_Cat, eP_Fn, eP_Mnd, eP_Tra, Cat.cells, Fn.cells, Mnd.cells, Tra.cells]
 repeat (with_reducible refine And.intro ?_ ?_; · first | assumption | omega | (simp; done) | (simp; omega) | simp_all)
 replace h := bind_some h
 obtain ⟨v2, hv2, h⟩ := h
 refine callA_intro (w_i_Functor_then _ _ v2 hv2) (.cons (.preT (by simp [Fn.cells, Mnd.cells])) (.cons (.preT (by simp [Fn.cells, Mnd.cells])) .nil)) ?_
 simp [-guardE_b, -Is_at, -Is_at', -Ls_at, -Ls_at', unk, unA, unE, unT, unC, flat, eL, eI, allInts, eP_Cat, eP_Fn, eP_Mnd, eP_Tra, Cat.cells, Fn.cells, Mnd.cells, Tra.cells]
 repeat (with_reducible refine And.intro ?_ ?_; · first | assumption | omega | (simp; done) | (simp; omega) | simp_all)
 refine hK _ ?_
 clear hK K
 refine tn ?_
 refine w_weak (st' := ⟨[(0, .rptr (Mnd.cells true s_)), (1, .rptr (Mnd.cells true t_)), (2, .lst true 1 (Is law_)), (7, .rptr (Mnd.cells true s_)), (8, .adr 0 0 0), (9, .adr 11 0 0)], [(0, .mix 12 [[.val (.int .i64 v1.s.n), .own 1 0 v1.s.fr.length, .own 2 0 v1.s.to.length, .own 3 0 v1.s.id.length, .own 4 0 v1.s.cs.length, .val (.int .i64 v1.t.n), .own 5 0 v1.t.fr.length, .own 6 0 v1.t.to.length, .own 7 0 v1.t.id.length, .own 8 0 v1.t.cs.length, .own 9 0 v1.ob.length, .own 10 0 v1.ar.length]]), (1, .row 1 (Is v1.s.fr)), (2, .row 1 (Is v1.s.to)), (3, .row 1 (Is v1.s.id)), (4, .row 1 (Ls v1.s.cs)), (5, .row 1 (Is v1.t.fr)), (6, .row 1 (Is v1.t.to)), (7, .row 1 (Is v1.t.id)), (8, .row 1 (Ls v1.t.cs)), (9, .row 1 (Is v1.ob)), (10, .row 1 (Is v1.ar)), (11, .mix 12 [[.val (.int .i64 v2.s.n), .own 12 0 v2.s.fr.length, .own 13 0 v2.s.to.length, .own 14 0 v2.s.id.length, .own 15 0 v2.s.cs.length, .val (.int .i64 v2.t.n), .own 16 0 v2.t.fr.length, .own 17 0 v2.t.to.length, .own 18 0 v2.t.id.length, .own 19 0 v2.t.cs.length, .own 20 0 v2.ob.length, .own 21 0 v2.ar.length]]), (12, .row 1 (Is v2.s.fr)), (13, .row 1 (Is v2.s.to)), (14, .row 1 (Is v2.s.id)), (15, .row 1 (Ls v2.s.cs)), (16, .row 1 (Is v2.t.fr)), (17, .row 1 (Is v2.t.to)), (18, .row 1 (Is v2.t.id)), (19, .row 1 (Ls v2.t.cs)), (20, .row 1 (Is v2.ob)), (21, .row 1 (Is v2.ar))], 22⟩) (Wk.r1 [(24, 0), (1, 1), (2, 2), (3, 3), (4, 4), (6, 5), (7, 6), (8, 7), (9, 8), (10, 9), (11, 10), (25, 11), (13, 12), (14, 13), (15, 14), (16, 15), (18, 16), (19, 17), (20, 18), (21, 19), (22, 20), (23, 21)] (by simp [hP, hhOk, back, Cat.cells, Fn.cells, Mnd.cells, Tra.cells, IA, I1, LA, L1, BA, B1, EA, E1, E2, eB, eI, eL])) ?_
 refine w_seq ?_
 refine w_run mo (by rw [hN]; decide) fun K hK => ?_
 simp [-guardE_b, -Is_at, -Is_at', -Ls_at, -Ls_at', eL, eI, allInts, eP_Cat, eP_Fn, eP_Mnd, eP_Tra, Cat.cells, Fn.cells, Mnd.cells, Tra.cells]
 repeat (with_reducible refine And.intro ?_ ?_; · first | assumption | omega | (simp; done) | (simp; omega) | simp_all)
 refine hK _ ?_
 clear hK K
 refine tn ?_
 refine w_weak (st' := ⟨[(0, .rptr (Mnd.cells true s_)), (1, .rptr (Mnd.cells true t_)), (2, .lst true 1 (Is law_)), (7, .rptr (Mnd.cells true s_)), (10, .adr 0 0 0)], [(0, .mix 25 [[.val (.int .i64 v1.s.n), .own 1 0 v1.s.fr.length, .own 2 0 v1.s.to.length, .own 3 0 v1.s.id.length, .own 4 0 v1.s.cs.length, .val (.int .i64 v1.t.n), .own 5 0 v1.t.fr.length, .own 6 0 v1.t.to.length, .own 7 0 v1.t.id.length, .own 8 0 v1.t.cs.length, .own 9 0 v1.ob.length, .own 10 0 v1.ar.length, .val (.int .i64 v2.s.n), .own 11 0 v2.s.fr.length, .own 12 0 v2.s.to.length, .own 13 0 v2.s.id.length, .own 14 0 v2.s.cs.length, .val (.int .i64 v2.t.n), .own 15 0 v2.t.fr.length, .own 16 0 v2.t.to.length, .own 17 0 v2.t.id.length, .own 18 0 v2.t.cs.length, .own 19 0 v2.ob.length, .own 20 0 v2.ar.length, .lst true 1 (Is law_)]]), (1, .row 1 (Is v1.s.fr)), (2, .row 1 (Is v1.s.to)), (3, .row 1 (Is v1.s.id)), (4, .row 1 (Ls v1.s.cs)), (5, .row 1 (Is v1.t.fr)), (6, .row 1 (Is v1.t.to)), (7, .row 1 (Is v1.t.id)), (8, .row 1 (Ls v1.t.cs)), (9, .row 1 (Is v1.ob)), (10, .row 1 (Is v1.ar)), (11, .row 1 (Is v2.s.fr)), (12, .row 1 (Is v2.s.to)), (13, .row 1 (Is v2.s.id)), (14, .row 1 (Ls v2.s.cs)), (15, .row 1 (Is v2.t.fr)), (16, .row 1 (Is v2.t.to)), (17, .row 1 (Is v2.t.id)), (18, .row 1 (Ls v2.t.cs)), (19, .row 1 (Is v2.ob)), (20, .row 1 (Is v2.ar))], 21⟩) (Wk.r1 [(22, 0), (1, 1), (2, 2), (3, 3), (4, 4), (5, 5), (6, 6), (7, 7), (8, 8), (9, 9), (10, 10), (12, 11), (13, 12), (14, 13), (15, 14), (16, 15), (17, 16), (18, 17), (19, 18), (20, 19), (21, 20)] (by simp [hP, hhOk, back, Cat.cells, Fn.cells, Mnd.cells, Tra.cells, IA, I1, LA, L1, BA, B1, EA, E1, E2, eB, eI, eL])) ?_
 refine w_seq ?_
 refine w_seq ?_
 refine w_run mo (by rw [hN]; decide) fun K hK => ?_
 simp [-guardE_b, -Is_at, -Is_at', -Ls_at, -Ls_at', eL, eI, allInts, eP_Cat, eP_Fn, eP_Mnd, eP_Tra, Cat.cells, Fn.cells, Mnd.cells, Tra.cells]
 repeat (with_reducible refine And.intro ?_ ?_; · first | assumption | omega | (simp; done) | (simp; omega) | simp_all)
 replace h := bind_some h
 obtain ⟨v3, hv3, h⟩ := h
 refine callA_intro (w_i_Transformation_isNatural _ v3 hv3) (.cons (.field rfl (by simp [Fn.cells, Mnd.cells, Tra.cells]) (.cons .val (.cons (.whole (by simp) (by simp) (by simp)) (.cons (.whole (by simp) (by simp) (by simp)) (.cons (.whole (by simp) (by simp) (by simp)) (.cons (.whole (by simp) (by simp) (by simp)) (.cons .val (.cons (.whole (by simp) (by simp) (by simp)) (.cons (.whole (by simp) (by simp) (by simp)) (.cons (.whole (by simp) (by simp) (by simp)) (.cons (.whole (by simp) (by simp) (by simp)) (.cons (.whole (by simp) (by simp) (by simp)) (.cons (.whole (by simp) (by simp) (by simp)) (.cons .val (.cons (.whole (by simp) (by simp) (by simp)) (.cons (.whole (by simp) (by simp) (by simp)) (.cons (.whole (by simp) (by simp) (by simp)) (.cons (.whole (by simp) (by simp) (by simp)) (.cons .val (.cons (.whole (by simp) (by simp) (by simp)) (.cons (.whole (by simp) (by simp) (by simp)) (.cons (.whole (by simp) (by simp) (by simp)) (.cons (.whole (by simp) (by simp) (by simp)) (.cons (.whole (by simp) (by simp) (by simp)) (.cons (.whole (by simp) (by simp) (by simp)) (.cons .lst .nil)))))))))))))))))))))))))) .nil) ?_
 simp [-guardE_b, -Is_at, -Is_at', -Ls_at, -Ls_at', unk, unA, unE, unT, unC, flat, eL, eI, allInts, eP_Cat, eP_Fn, eP_Mnd, eP_Tra, Cat.cells, Fn.cells, Mnd.cells, Tra.cells]
 repeat (with_reducible refine And.intro ?_ ?_; · first | assumption | omega | (simp; done) | (simp; omega) | simp_all)
 refine hK _ ?_
 clear hK K
 refine tn ?_
 refine w_weak (st' := ⟨[(0, .rptr (Mnd.cells true s_)), (1, .rptr (Mnd.cells true t_)), (2, .lst true 1 (Is law_)), (7, .rptr (Mnd.cells true s_)), (39, .val (.bool (!v3)))], [], 0⟩) (Wk.r1 [] (by simp [hP, hhOk, back, Cat.cells, Fn.cells, Mnd.cells, Tra.cells, IA, I1, LA, L1, BA, B1, EA, E1, E2, eB, eI, eL])) ?_
 refine w_cond rfl (fun g => ?_) fun g => ?_
 · have g4 : ¬ (v3 = true) := by first | simpa using g | (simp at g; exact g) | (simp at g; omega)
   clear g
   replace h := if_l g4 h
   refine w_seq ?_
   refine w_run mo (by rw [hN]; decide) fun K hK => ?_
   simp [-guardE_b, -Is_at, -Is_at', -Ls_at, -Ls_at', eL, eI, allInts, eP_Cat, eP_Fn, eP_Mnd, eP_Tra, Cat.cells, Fn.cells, Mnd.cells, Tra.cells]
   repeat (with_reducible refine And.intro ?_ ?_; · first | assumption | omega | (simp; done) | (simp; omega) | simp_all)
   refine hK _ ?_
   clear hK K
   refine tn ?_
   refine w_weak (st' := ⟨[(6, .val (.bool false))], [], 0⟩) (Wk.r1 [] (by simp [hP, hhOk, back, Cat.cells, Fn.cells, Mnd.cells, Tra.cells, IA, I1, LA, L1, BA, B1, EA, E1, E2, eB, eI, eL])) ?_
   refine w_ret ?_
   refine tr ?_
   have hr := Option.some.inj h
   rw [← hr]
   refine ⟨_, (.tmp .nil), ?_⟩
   refine ⟨(.one rfl rfl .nil), [.val (.bool false)], [], by simp [Cat.cells, Fn.cells, Mnd.cells, Tra.cells, IA, I1, LA, L1, BA, B1, EA, E1, E2, eB, eI, eL], by simp, (UpL.refl _)⟩
 have g4 : ¬ (¬ (v3 = true)) := by first | simpa using g | (simp at g; exact g) | (simp at g; omega)
 clear g
 replace h := if_r g4 h
 refine w_skip ?_
 refine tn ?_
 refine w_seq ?_
 refine w_seq ?_
 refine w_run mo (by rw [hN]; decide) fun K hK => ?_
 simp [-guardE_b, -Is_at, -Is_at', -Ls_at, -Ls_at', eL, eI, allInts, eP_Cat, eP_Fn, eP_Mnd, eP_Tra, Cat.cells, Fn.cells, Mnd.cells, Tra.cells]
 repeat (with_reducible refine And.intro ?_ ?_; · first | assumption | omega | (simp; done) | (simp; omega) | simp_all)
 refine hK _ ?_
 clear hK K
 refine tn ?_
 refine w_weak (st' := ⟨[(0, .rptr (Mnd.cells true s_)), (1, .rptr (Mnd.cells true t_)), (2, .lst true 1 (Is law_)), (7, .rptr (Mnd.cells true s_)), (40, .lst true 1 (Is law_)), (41, .val (.int .i64 (law_.length : Int))), (42, .val (.int .i64 0))], [], 0⟩) (Wk.r1 [] (by simp [hP, hhOk, back, Cat.cells, Fn.cells, Mnd.cells, Tra.cells, IA, I1, LA, L1, BA, B1, EA, E1, E2, eB, eI, eL])) ?_
 replace h := bind_some h
 obtain ⟨e5, h, h5⟩ := h
 refine w_joinT (fun b5 : Unit => ⟨[], [], 0⟩) (fun b5 => Sum.inl b5 = e5) ?_ ?_
 · refine w_block ?_
   refine w_loopF h (fun s39 : Int => ⟨[(0, .rptr (Mnd.cells true s_)), (1, .rptr (Mnd.cells true t_)), (2, .lst true 1 (Is law_)), (7, .rptr (Mnd.cells true s_)), (40, .lst true 1 (Is law_)), (41, .val (.int .i64 (law_.length : Int))), (42, .val (.int .i64 s39))], [], 0⟩) (Wk.r1 [] (by simp [hP, hhOk, back, Cat.cells, Fn.cells, Mnd.cells, Tra.cells, IA, I1, LA, L1, BA, B1, EA, E1, E2, eB, eI, eL])) ?_
   clear h
   intro k39 s39 c39 h hk39
   refine w_seq ?_
   refine w_run mo (by rw [hN]; decide) fun K hK => ?_
   simp [-guardE_b, -Is_at, -Is_at', -Ls_at, -Ls_at', eL, eI, allInts, eP_Cat, eP_Fn, eP_Mnd, eP_Tra, Cat.cells, Fn.cells, Mnd.cells, Tra.cells]
   repeat (with_reducible refine And.intro ?_ ?_; · first | assumption | omega | (simp; done) | (simp; omega) | simp_all)
   refine hK _ ?_
   clear hK K
   refine tn ?_
   refine w_weak (st' := ⟨[(0, .rptr (Mnd.cells true s_)), (1, .rptr (Mnd.cells true t_)), (2, .lst true 1 (Is law_)), (7, .rptr (Mnd.cells true s_)), (40, .lst true 1 (Is law_)), (41, .val (.int .i64 (law_.length : Int))), (42, .val (.int .i64 s39)), (43, .val (.bool (decide (s39 < (law_.length : Int)))))], [], 0⟩) (Wk.r1 [] (by simp [hP, hhOk, back, Cat.cells, Fn.cells, Mnd.cells, Tra.cells, IA, I1, LA, L1, BA, B1, EA, E1, E2, eB, eI, eL])) ?_
   refine w_seq ?_
   refine w_cond rfl (fun g => ?_) fun g => ?_
   · have g40 : s39 < (law_.length : Int) := by first | simpa using g | (simp at g; exact g) | (simp at g; omega)
     clear g
     replace h := if_l g40 h
     refine w_skip ?_
     refine tn ?_
     refine w_seq ?_
     refine w_block ?_
     refine w_seq ?_
     refine w_run mo (by rw [hN]; decide) fun K hK => ?_
     replace h := ass_some h
     obtain ⟨a41, h⟩ := h
     simp [-guardE_b, -Is_at, -Is_at', -Ls_at, -Ls_at', eL, eI, allInts, eP_Cat, eP_Fn, eP_Mnd, eP_Tra, Cat.cells, Fn.cells, Mnd.cells, Tra.cells, at_I a41]
     repeat (with_reducible refine And.intro ?_ ?_; · first | assumption | omega | (simp; done) | (simp; omega) | simp_all)
     refine hK _ ?_
     clear hK K
     refine tn ?_
     refine w_weak (st' := ⟨[(0, .rptr (Mnd.cells true s_)), (1, .rptr (Mnd.cells true t_)), (2, .lst true 1 (Is law_)), (7, .rptr (Mnd.cells true s_)), (11, .val (.int .i64 s39)), (12, .val (.int .i64 (ix law_ s39))), (40, .lst true 1 (Is law_)), (41, .val (.int .i64 (law_.length : Int))), (42, .val (.int .i64 s39))], [], 0⟩) (Wk.r1 [] (by simp [hP, hhOk, back, Cat.cells, Fn.cells, Mnd.cells, Tra.cells, IA, I1, LA, L1, BA, B1, EA, E1, E2, eB, eI, eL])) ?_
     refine w_seq ?_
     refine w_run mo (by rw [hN]; decide) fun K hK => ?_
     simp [-guardE_b, -Is_at, -Is_at', -Ls_at, -Ls_at', eL, eI, allInts, eP_Cat, eP_Fn, eP_Mnd, eP_Tra, Cat.cells, Fn.cells, Mnd.cells, Tra.cells]
     repeat (with_reducible refine And.intro ?_ ?_; · first | assumption | omega | (simp; done) | (simp; omega) | simp_all)
     refine hK _ ?_
     clear hK K
     refine tn ?_
     refine w_weak (st' := ⟨[(0, .rptr (Mnd.cells true s_)), (1, .rptr (Mnd.cells true t_)), (2, .lst true 1 (Is law_)), (7, .rptr (Mnd.cells true s_)), (12, .val (.int .i64 (ix law_ s39))), (13, .val (.int .i64 s39)), (40, .lst true 1 (Is law_)), (41, .val (.int .i64 (law_.length : Int))), (42, .val (.int .i64 s39))], [], 0⟩) (Wk.r1 [] (by simp [hP, hhOk, back, Cat.cells, Fn.cells, Mnd.cells, Tra.cells, IA, I1, LA, L1, BA, B1, EA, E1, E2, eB, eI, eL])) ?_
     refine w_seq ?_
     refine w_run mo (by rw [hN]; decide) fun K hK => ?_
     simp [-guardE_b, -Is_at, -Is_at', -Ls_at, -Ls_at', eL, eI, allInts, eP_Cat, eP_Fn, eP_Mnd, eP_Tra, Cat.cells, Fn.cells, Mnd.cells, Tra.cells]
     repeat (with_reducible refine And.intro ?_ ?_; · first | assumption | omega | (simp; done) | (simp; omega) | simp_all)
     replace h := bind_some h
     obtain ⟨v42, hv42, h⟩ := h
     refine callA_intro (w_i_Monad_object _ _ v42 hv42) (.cons (.preT (by simp [Cat.cells, Fn.cells, Mnd.cells, Tra.cells])) (.cons .val .nil)) ?_
     simp [-guardE_b, -Is_at, -Is_at', -Ls_at, -Ls_at', unk, unA, unE, unT, unC, flat, eL, eI, allInts, eP_Cat, eP_Fn, eP_Mnd, eP_Tra, Cat.cells, Fn.cells, Mnd.cells, Tra.cells]
     repeat (with_reducible refine And.intro ?_ ?_; · first | assumption | omega | (simp; done) | (simp; omega) | simp_all)
     replace h := bind_some h
     obtain ⟨v43, hv43, h⟩ := h
     refine callA_intro (w_i_Monad_object _ _ v43 hv43) (.cons (.preT (by simp [Cat.cells, Fn.cells, Mnd.cells, Tra.cells])) (.cons .val .nil)) ?_
     simp [-guardE_b, -Is_at, -Is_at', -Ls_at, -Ls_at', unk, unA, unE, unT, unC, flat, eL, eI, allInts, eP_Cat, eP_Fn, eP_Mnd, eP_Tra, Cat.cells, Fn.cells, Mnd.cells, Tra.cells]
     repeat (with_reducible refine And.intro ?_ ?_; · first | assumption | omega | (simp; done) | (simp; omega) | simp_all)
     refine hK _ ?_
     clear hK K
     refine tn ?_
     refine w_weak (st' := ⟨[(0, .rptr (Mnd.cells true s_)), (1, .rptr (Mnd.cells true t_)), (2, .lst true 1 (Is law_)), (7, .rptr (Mnd.cells true s_)), (12, .val (.int .i64 (ix law_ s39))), (13, .val (.int .i64 s39)), (14, .val (.int .i64 v42)), (15, .val (.int .i64 v43)), (40, .lst true 1 (Is law_)), (41, .val (.int .i64 (law_.length : Int))), (42, .val (.int .i64 s39))], [], 0⟩) (Wk.r1 [] (by simp [hP, hhOk, back, Cat.cells, Fn.cells, Mnd.cells, Tra.cells, IA, I1, LA, L1, BA, B1, EA, E1, E2, eB, eI, eL])) ?_
     refine w_block ?_
     refine w_seq ?_
     refine w_run mo (by rw [hN]; decide) fun K hK => ?_
     replace h := ass_some h
     obtain ⟨a44, h⟩ := h
     simp [-guardE_b, -Is_at, -Is_at', -Ls_at, -Ls_at', eL, eI, allInts, eP_Cat, eP_Fn, eP_Mnd, eP_Tra, Cat.cells, Fn.cells, Mnd.cells, Tra.cells, at_I a44]
     repeat (with_reducible refine And.intro ?_ ?_; · first | assumption | omega | (simp; done) | (simp; omega) | simp_all)
     replace h := bind_some h
     obtain ⟨v45, hv45, h⟩ := h
     refine callA_intro (w_i_Monad_arrow _ _ v45 hv45) (.cons (.preT (by simp [Cat.cells, Fn.cells, Mnd.cells, Tra.cells])) (.cons .val .nil)) ?_
     simp [-guardE_b, -Is_at, -Is_at', -Ls_at, -Ls_at', unk, unA, unE, unT, unC, flat, eL, eI, allInts, eP_Cat, eP_Fn, eP_Mnd, eP_Tra, Cat.cells, Fn.cells, Mnd.cells, Tra.cells]
     repeat (with_reducible refine And.intro ?_ ?_; · first | assumption | omega | (simp; done) | (simp; omega) | simp_all)
     replace h := bind_some h
     obtain ⟨v46, hv46, h⟩ := h
     refine callA_intro (w_i_Category_then _ _ _ v46 hv46) (.cons (.preT (by simp [Cat.cells, Fn.cells, Mnd.cells, Tra.cells])) (.cons .val (.cons .val .nil))) ?_
     replace h := ass_some h
     obtain ⟨a47, h⟩ := h
     simp [-guardE_b, -Is_at, -Is_at', -Ls_at, -Ls_at', unk, unA, unE, unT, unC, flat, eL, eI, allInts, eP_Cat, eP_Fn, eP_Mnd, eP_Tra, Cat.cells, Fn.cells, Mnd.cells, Tra.cells, at_I a47]
     repeat (with_reducible refine And.intro ?_ ?_; · first | assumption | omega | (simp; done) | (simp; omega) | simp_all)
     refine hK _ ?_
     clear hK K
     refine tn ?_
     refine w_weak (st' := ⟨[(0, .rptr (Mnd.cells true s_)), (1, .rptr (Mnd.cells true t_)), (2, .lst true 1 (Is law_)), (7, .rptr (Mnd.cells true s_)), (12, .val (.int .i64 (ix law_ s39))), (13, .val (.int .i64 s39)), (14, .val (.int .i64 v42)), (15, .val (.int .i64 v43)), (40, .lst true 1 (Is law_)), (41, .val (.int .i64 (law_.length : Int))), (42, .val (.int .i64 s39)), (54, .val (.bool (v46 != (ix t_.u v42))))], [], 0⟩) (Wk.r1 [] (by simp [hP, hhOk, back, Cat.cells, Fn.cells, Mnd.cells, Tra.cells, IA, I1, LA, L1, BA, B1, EA, E1, E2, eB, eI, eL])) ?_
     refine w_cond rfl (fun g => ?_) fun g => ?_
     · have g48 : ¬ (v46 = (ix t_.u v42)) := by first | simpa using g | (simp at g; exact g) | (simp at g; omega)
       clear g
       replace h := if_l g48 h
       refine w_seq ?_
       refine w_run mo (by rw [hN]; decide) fun K hK => ?_
       simp [-guardE_b, -Is_at, -Is_at', -Ls_at, -Ls_at', eL, eI, allInts, eP_Cat, eP_Fn, eP_Mnd, eP_Tra, Cat.cells, Fn.cells, Mnd.cells, Tra.cells]
       repeat (with_reducible refine And.intro ?_ ?_; · first | assumption | omega | (simp; done) | (simp; omega) | simp_all)
       refine hK _ ?_
       clear hK K
       refine tn ?_
       refine w_weak (st' := ⟨[(6, .val (.bool false))], [], 0⟩) (Wk.r1 [] (by simp [hP, hhOk, back, Cat.cells, Fn.cells, Mnd.cells, Tra.cells, IA, I1, LA, L1, BA, B1, EA, E1, E2, eB, eI, eL])) ?_
       refine w_ret ?_
       refine br ?_
       refine br ?_
       refine tr ?_
       refine lr ?_
       refine br ?_
       refine tr ?_
       cases h
       have q : _ = e5 := hk39
       have h := h5
       rw [← q] at h
       clear q
       try dsimp only at h
       have hr := Option.some.inj h
       rw [← hr]
       refine ⟨_, (.tmp .nil), ?_⟩
       refine ⟨(.one rfl rfl .nil), [.val (.bool false)], [], by simp [Cat.cells, Fn.cells, Mnd.cells, Tra.cells, IA, I1, LA, L1, BA, B1, EA, E1, E2, eB, eI, eL], by simp, (UpL.refl _)⟩
     have g48 : ¬ (¬ (v46 = (ix t_.u v42))) := by first | simpa using g | (simp at g; exact g) | (simp at g; omega)
     clear g
     replace h := if_r g48 h
     refine w_seq ?_
     refine w_run mo (by rw [hN]; decide) fun K hK => ?_
     replace h := ass_some h
     obtain ⟨a49, h⟩ := h
     simp [-guardE_b, -Is_at, -Is_at', -Ls_at, -Ls_at', eL, eI, allInts, eP_Cat, eP_Fn, eP_Mnd, eP_Tra, Cat.cells, Fn.cells, Mnd.cells, Tra.cells, at_I a49]
     repeat (with_reducible refine And.intro ?_ ?_; · first | assumption | omega | (simp; done) | (simp; omega) | simp_all)
     replace h := bind_some h
     obtain ⟨v50, hv50, h⟩ := h
     refine callA_intro (w_i_Category_then _ _ _ v50 hv50) (.cons (.preT (by simp [Cat.cells, Fn.cells, Mnd.cells, Tra.cells])) (.cons .val (.cons .val .nil))) ?_
     replace h := ass_some h
     obtain ⟨a51, h⟩ := h
     simp [-guardE_b, -Is_at, -Is_at', -Ls_at, -Ls_at', unk, unA, unE, unT, unC, flat, eL, eI, allInts, eP_Cat, eP_Fn, eP_Mnd, eP_Tra, Cat.cells, Fn.cells, Mnd.cells, Tra.cells, at_I a51]
     repeat (with_reducible refine And.intro ?_ ?_; · first | assumption | omega | (simp; done) | (simp; omega) | simp_all)
     replace h := bind_some h
     obtain ⟨v52, hv52, h⟩ := h
     refine callA_intro (w_i_Monad_arrow _ _ v52 hv52) (.cons (.preT (by simp [Cat.cells, Fn.cells, Mnd.cells, Tra.cells])) (.cons .val .nil)) ?_
     simp [-guardE_b, -Is_at, -Is_at', -Ls_at, -Ls_at', unk, unA, unE, unT, unC, flat, eL, eI, allInts, eP_Cat, eP_Fn, eP_Mnd, eP_Tra, Cat.cells, Fn.cells, Mnd.cells, Tra.cells]
     repeat (with_reducible refine And.intro ?_ ?_; · first | assumption | omega | (simp; done) | (simp; omega) | simp_all)
     refine hK _ ?_
     clear hK K
     refine tn ?_
     refine w_weak (st' := ⟨[(0, .rptr (Mnd.cells true s_)), (1, .rptr (Mnd.cells true t_)), (2, .lst true 1 (Is law_)), (7, .rptr (Mnd.cells true s_)), (12, .val (.int .i64 (ix law_ s39))), (13, .val (.int .i64 s39)), (14, .val (.int .i64 v42)), (15, .val (.int .i64 v43)), (40, .lst true 1 (Is law_)), (41, .val (.int .i64 (law_.length : Int))), (42, .val (.int .i64 s39)), (75, .val (.bool (v50 != v52)))], [], 0⟩) (Wk.r1 [] (by simp [hP, hhOk, back, Cat.cells, Fn.cells, Mnd.cells, Tra.cells, IA, I1, LA, L1, BA, B1, EA, E1, E2, eB, eI, eL])) ?_
     refine w_cond rfl (fun g => ?_) fun g => ?_
     · have g53 : ¬ (v50 = v52) := by first | simpa using g | (simp at g; exact g) | (simp at g; omega)
       clear g
       replace h := if_l g53 h
       refine w_seq ?_
       refine w_run mo (by rw [hN]; decide) fun K hK => ?_
       simp [-guardE_b, -Is_at, -Is_at', -Ls_at, -Ls_at', eL, eI, allInts, eP_Cat, eP_Fn, eP_Mnd, eP_Tra, Cat.cells, Fn.cells, Mnd.cells, Tra.cells]
       repeat (with_reducible refine And.intro ?_ ?_; · first | assumption | omega | (simp; done) | (simp; omega) | simp_all)
       refine hK _ ?_
       clear hK K
       refine tn ?_
       refine w_weak (st' := ⟨[(6, .val (.bool false))], [], 0⟩) (Wk.r1 [] (by simp [hP, hhOk, back, Cat.cells, Fn.cells, Mnd.cells, Tra.cells, IA, I1, LA, L1, BA, B1, EA, E1, E2, eB, eI, eL])) ?_
       refine w_ret ?_
       refine br ?_
       refine br ?_
       refine tr ?_
       refine lr ?_
       refine br ?_
       refine tr ?_
       cases h
       have q : _ = e5 := hk39
       have h := h5
       rw [← q] at h
       clear q
       try dsimp only at h
       have hr := Option.some.inj h
       rw [← hr]
       refine ⟨_, (.tmp .nil), ?_⟩
       refine ⟨(.one rfl rfl .nil), [.val (.bool false)], [], by simp [Cat.cells, Fn.cells, Mnd.cells, Tra.cells, IA, I1, LA, L1, BA, B1, EA, E1, E2, eB, eI, eL], by simp, (UpL.refl _)⟩
     have g53 : ¬ (¬ (v50 = v52)) := by first | simpa using g | (simp at g; exact g) | (simp at g; omega)
     clear g
     replace h := if_r g53 h
     refine w_seq ?_
     refine w_run mo (by rw [hN]; decide) fun K hK => ?_
     replace h := ass_some h
     obtain ⟨a54, h⟩ := h
     simp [-guardE_b, -Is_at, -Is_at', -Ls_at, -Ls_at', eL, eI, allInts, eP_Cat, eP_Fn, eP_Mnd, eP_Tra, Cat.cells, Fn.cells, Mnd.cells, Tra.cells, at_I a54]
     repeat (with_reducible refine And.intro ?_ ?_; · first | assumption | omega | (simp; done) | (simp; omega) | simp_all)
     replace h := bind_some h
     obtain ⟨v55, hv55, h⟩ := h
     refine callA_intro (w_i_Monad_arrow _ _ v55 hv55) (.cons (.preT (by simp [Cat.cells, Fn.cells, Mnd.cells, Tra.cells])) (.cons .val .nil)) ?_
     simp [-guardE_b, -Is_at, -Is_at', -Ls_at, -Ls_at', unk, unA, unE, unT, unC, flat, eL, eI, allInts, eP_Cat, eP_Fn, eP_Mnd, eP_Tra, Cat.cells, Fn.cells, Mnd.cells, Tra.cells]
     repeat (with_reducible refine And.intro ?_ ?_; · first | assumption | omega | (simp; done) | (simp; omega) | simp_all)
     replace h := bind_some h
     obtain ⟨v56, hv56, h⟩ := h
     refine callA_intro (w_i_Category_then _ _ _ v56 hv56) (.cons (.preT (by simp [Cat.cells, Fn.cells, Mnd.cells, Tra.cells])) (.cons .val (.cons .val .nil))) ?_
     replace h := ass_some h
     obtain ⟨a57, h⟩ := h
     simp [-guardE_b, -Is_at, -Is_at', -Ls_at, -Ls_at', unk, unA, unE, unT, unC, flat, eL, eI, allInts, eP_Cat, eP_Fn, eP_Mnd, eP_Tra, Cat.cells, Fn.cells, Mnd.cells, Tra.cells, at_I a57]
     repeat (with_reducible refine And.intro ?_ ?_; · first | assumption | omega | (simp; done) | (simp; omega) | simp_all)
     replace h := bind_some h
     obtain ⟨v58, hv58, h⟩ := h
     refine callA_intro (w_i_Monad_arrow _ _ v58 hv58) (.cons (.preT (by simp [Cat.cells, Fn.cells, Mnd.cells, Tra.cells])) (.cons .val .nil)) ?_
     simp [-guardE_b, -Is_at, -Is_at', -Ls_at, -Ls_at', unk, unA, unE, unT, unC, flat, eL, eI, allInts, eP_Cat, eP_Fn, eP_Mnd, eP_Tra, Cat.cells, Fn.cells, Mnd.cells, Tra.cells]
     repeat (with_reducible refine And.intro ?_ ?_; · first | assumption | omega | (simp; done) | (simp; omega) | simp_all)
     replace h := bind_some h
     obtain ⟨v59, hv59, h⟩ := h
     refine callA_intro (w_i_Category_then _ _ _ v59 hv59) (.cons (.preT (by simp [Cat.cells, Fn.cells, Mnd.cells, Tra.cells])) (.cons .val (.cons .val .nil))) ?_
     replace h := ass_some h
     obtain ⟨a60, h⟩ := h
     simp [-guardE_b, -Is_at, -Is_at', -Ls_at, -Ls_at', unk, unA, unE, unT, unC, flat, eL, eI, allInts, eP_Cat, eP_Fn, eP_Mnd, eP_Tra, Cat.cells, Fn.cells, Mnd.cells, Tra.cells, at_I a60]
     repeat (with_reducible refine And.intro ?_ ?_; · first | assumption | omega | (simp; done) | (simp; omega) | simp_all)
     replace h := bind_some h
     obtain ⟨v61, hv61, h⟩ := h
     refine callA_intro (w_i_Category_then _ _ _ v61 hv61) (.cons (.preT (by simp [Cat.cells, Fn.cells, Mnd.cells, Tra.cells])) (.cons .val (.cons .val .nil))) ?_
     simp [-guardE_b, -Is_at, -Is_at', -Ls_at, -Ls_at', unk, unA, unE, unT, unC, flat, eL, eI, allInts, eP_Cat, eP_Fn, eP_Mnd, eP_Tra, Cat.cells, Fn.cells, Mnd.cells, Tra.cells]
     repeat (with_reducible refine And.intro ?_ ?_; · first | assumption | omega | (simp; done) | (simp; omega) | simp_all)
     refine hK _ ?_
     clear hK K
     refine tn ?_
     refine w_weak (st' := ⟨[(0, .rptr (Mnd.cells true s_)), (1, .rptr (Mnd.cells true t_)), (2, .lst true 1 (Is law_)), (7, .rptr (Mnd.cells true s_)), (12, .val (.int .i64 (ix law_ s39))), (13, .val (.int .i64 s39)), (14, .val (.int .i64 v42)), (15, .val (.int .i64 v43)), (40, .lst true 1 (Is law_)), (41, .val (.int .i64 (law_.length : Int))), (42, .val (.int .i64 s39)), (96, .val (.bool (v56 != v61)))], [], 0⟩) (Wk.r1 [] (by simp [hP, hhOk, back, Cat.cells, Fn.cells, Mnd.cells, Tra.cells, IA, I1, LA, L1, BA, B1, EA, E1, E2, eB, eI, eL])) ?_
     refine w_cond rfl (fun g => ?_) fun g => ?_
     · have g62 : ¬ (v56 = v61) := by first | simpa using g | (simp at g; exact g) | (simp at g; omega)
       clear g
       replace h := if_l g62 h
       refine w_seq ?_
       refine w_run mo (by rw [hN]; decide) fun K hK => ?_
       simp [-guardE_b, -Is_at, -Is_at', -Ls_at, -Ls_at', eL, eI, allInts, eP_Cat, eP_Fn, eP_Mnd, eP_Tra, Cat.cells, Fn.cells, Mnd.cells, Tra.cells]
       repeat (with_reducible refine And.intro ?_ ?_; · first | assumption | omega | (simp; done) | (simp; omega) | simp_all)
       refine hK _ ?_
       clear hK K
       refine tn ?_
       refine w_weak (st' := ⟨[(6, .val (.bool false))], [], 0⟩) (Wk.r1 [] (by simp [hP, hhOk, back, Cat.cells, Fn.cells, Mnd.cells, Tra.cells, IA, I1, LA, L1, BA, B1, EA, E1, E2, eB, eI, eL])) ?_
       refine w_ret ?_
       refine br ?_
       refine br ?_
       refine tr ?_
       refine lr ?_
       refine br ?_
       refine tr ?_
       cases h
       have q : _ = e5 := hk39
       have h := h5
       rw [← q] at h
       clear q
       try dsimp only at h
       have hr := Option.some.inj h
       rw [← hr]
       refine ⟨_, (.tmp .nil), ?_⟩
       refine ⟨(.one rfl rfl .nil), [.val (.bool false)], [], by simp [Cat.cells, Fn.cells, Mnd.cells, Tra.cells, IA, I1, LA, L1, BA, B1, EA, E1, E2, eB, eI, eL], by simp, (UpL.refl _)⟩
     have g62 : ¬ (¬ (v56 = v61)) := by first | simpa using g | (simp at g; exact g) | (simp at g; omega)
     clear g
     replace h := if_r g62 h
     refine w_seq ?_
     refine w_run mo (by rw [hN]; decide) fun K hK => ?_
     replace h := ass_some h
     obtain ⟨a63, h⟩ := h
     simp [-guardE_b, -Is_at, -Is_at', -Ls_at, -Ls_at', eL, eI, allInts, eP_Cat, eP_Fn, eP_Mnd, eP_Tra, Cat.cells, Fn.cells, Mnd.cells, Tra.cells, at_I a63]
     repeat (with_reducible refine And.intro ?_ ?_; · first | assumption | omega | (simp; done) | (simp; omega) | simp_all)
     replace h := bind_some h
     obtain ⟨v64, hv64, h⟩ := h
     refine callA_intro (w_i_Category_then _ _ _ v64 hv64) (.cons (.preT (by simp [Cat.cells, Fn.cells, Mnd.cells, Tra.cells])) (.cons .val (.cons .val .nil))) ?_
     simp [-guardE_b, -Is_at, -Is_at', -Ls_at, -Ls_at', unk, unA, unE, unT, unC, flat, eL, eI, allInts, eP_Cat, eP_Fn, eP_Mnd, eP_Tra, Cat.cells, Fn.cells, Mnd.cells, Tra.cells]
     repeat (with_reducible refine And.intro ?_ ?_; · first | assumption | omega | (simp; done) | (simp; omega) | simp_all)
     replace h := bind_some h
     obtain ⟨v65, hv65, h⟩ := h
     refine callA_intro (w_i_Monad_arrow _ _ v65 hv65) (.cons (.preT (by simp [Cat.cells, Fn.cells, Mnd.cells, Tra.cells])) (.cons .val .nil)) ?_
     replace h := ass_some h
     obtain ⟨a66, h⟩ := h
     simp [-guardE_b, -Is_at, -Is_at', -Ls_at, -Ls_at', unk, unA, unE, unT, unC, flat, eL, eI, allInts, eP_Cat, eP_Fn, eP_Mnd, eP_Tra, Cat.cells, Fn.cells, Mnd.cells, Tra.cells, at_I a66]
     repeat (with_reducible refine And.intro ?_ ?_; · first | assumption | omega | (simp; done) | (simp; omega) | simp_all)
     replace h := bind_some h
     obtain ⟨v67, hv67, h⟩ := h
     refine callA_intro (w_i_Category_then _ _ _ v67 hv67) (.cons (.preT (by simp [Cat.cells, Fn.cells, Mnd.cells, Tra.cells])) (.cons .val (.cons .val .nil))) ?_
     replace h := ass_some h
     obtain ⟨a68, h⟩ := h
     simp [-guardE_b, -Is_at, -Is_at', -Ls_at, -Ls_at', unk, unA, unE, unT, unC, flat, eL, eI, allInts, eP_Cat, eP_Fn, eP_Mnd, eP_Tra, Cat.cells, Fn.cells, Mnd.cells, Tra.cells, at_I a68]
     repeat (with_reducible refine And.intro ?_ ?_; · first | assumption | omega | (simp; done) | (simp; omega) | simp_all)
     replace h := bind_some h
     obtain ⟨v69, hv69, h⟩ := h
     refine callA_intro (w_i_Monad_arrow _ _ v69 hv69) (.cons (.preT (by simp [Cat.cells, Fn.cells, Mnd.cells, Tra.cells])) (.cons .val .nil)) ?_
     simp [-guardE_b, -Is_at, -Is_at', -Ls_at, -Ls_at', unk, unA, unE, unT, unC, flat, eL, eI, allInts, eP_Cat, eP_Fn, eP_Mnd, eP_Tra, Cat.cells, Fn.cells, Mnd.cells, Tra.cells]
     repeat (with_reducible refine And.intro ?_ ?_; · first | assumption | omega | (simp; done) | (simp; omega) | simp_all)
     replace h := bind_some h
     obtain ⟨v70, hv70, h⟩ := h
     refine callA_intro (w_i_Category_then _ _ _ v70 hv70) (.cons (.preT (by simp [Cat.cells, Fn.cells, Mnd.cells, Tra.cells])) (.cons .val (.cons .val .nil))) ?_
     simp [-guardE_b, -Is_at, -Is_at', -Ls_at, -Ls_at', unk, unA, unE, unT, unC, flat, eL, eI, allInts, eP_Cat, eP_Fn, eP_Mnd, eP_Tra, Cat.cells, Fn.cells, Mnd.cells, Tra.cells]
     repeat (with_reducible refine And.intro ?_ ?_; · first | assumption | omega | (simp; done) | (simp; omega) | simp_all)
     refine hK _ ?_
     clear hK K
     refine tn ?_
     refine w_weak (st' := ⟨[(0, .rptr (Mnd.cells true s_)), (1, .rptr (Mnd.cells true t_)), (2, .lst true 1 (Is law_)), (7, .rptr (Mnd.cells true s_)), (40, .lst true 1 (Is law_)), (41, .val (.int .i64 (law_.length : Int))), (42, .val (.int .i64 s39)), (128, .val (.bool (v64 != v70)))], [], 0⟩) (Wk.r1 [] (by simp [hP, hhOk, back, Cat.cells, Fn.cells, Mnd.cells, Tra.cells, IA, I1, LA, L1, BA, B1, EA, E1, E2, eB, eI, eL])) ?_
     refine w_cond rfl (fun g => ?_) fun g => ?_
     · have g71 : ¬ (v64 = v70) := by first | simpa using g | (simp at g; exact g) | (simp at g; omega)
       clear g
       replace h := if_l g71 h
       refine w_seq ?_
       refine w_run mo (by rw [hN]; decide) fun K hK => ?_
       simp [-guardE_b, -Is_at, -Is_at', -Ls_at, -Ls_at', eL, eI, allInts, eP_Cat, eP_Fn, eP_Mnd, eP_Tra, Cat.cells, Fn.cells, Mnd.cells, Tra.cells]
       repeat (with_reducible refine And.intro ?_ ?_; · first | assumption | omega | (simp; done) | (simp; omega) | simp_all)
       refine hK _ ?_
       clear hK K
       refine tn ?_
       refine w_weak (st' := ⟨[(6, .val (.bool false))], [], 0⟩) (Wk.r1 [] (by simp [hP, hhOk, back, Cat.cells, Fn.cells, Mnd.cells, Tra.cells, IA, I1, LA, L1, BA, B1, EA, E1, E2, eB, eI, eL])) ?_
       refine w_ret ?_
       refine br ?_
       refine br ?_
       refine tr ?_
       refine lr ?_
       refine br ?_
       refine tr ?_
       cases h
       have q : _ = e5 := hk39
       have h := h5
       rw [← q] at h
       clear q
       try dsimp only at h
       have hr := Option.some.inj h
       rw [← hr]
       refine ⟨_, (.tmp .nil), ?_⟩
       refine ⟨(.one rfl rfl .nil), [.val (.bool false)], [], by simp [Cat.cells, Fn.cells, Mnd.cells, Tra.cells, IA, I1, LA, L1, BA, B1, EA, E1, E2, eB, eI, eL], by simp, (UpL.refl _)⟩
     have g71 : ¬ (¬ (v64 = v70)) := by first | simpa using g | (simp at g; exact g) | (simp at g; omega)
     clear g
     replace h := if_r g71 h
     refine w_skip ?_
     refine bn ?_
     refine bn ?_
     refine tn ?_
     refine w_run mo (by rw [hN]; decide) fun K hK => ?_
     replace h := ass_some h
     obtain ⟨a72, h⟩ := h
     simp [-guardE_b, -Is_at, -Is_at', -Ls_at, -Ls_at', eL, eI, allInts, eP_Cat, eP_Fn, eP_Mnd, eP_Tra, Cat.cells, Fn.cells, Mnd.cells, Tra.cells, wrap_id a72]
     repeat (with_reducible refine And.intro ?_ ?_; · first | assumption | omega | (simp; done) | (simp; omega) | simp_all)
     refine hK _ ?_
     clear hK K
     cases h
     exact rn (s' := s39 + 1) hk39 (Wk.r1 [] (by simp [hP, hhOk, back, Cat.cells, Fn.cells, Mnd.cells, Tra.cells, IA, I1, LA, L1, BA, B1, EA, E1, E2, eB, eI, eL]))
   have g40 : ¬ (s39 < (law_.length : Int)) := by first | simpa using g | (simp at g; exact g) | (simp at g; omega)
   clear g
   replace h := if_r g40 h
   refine w_exit ?_
   refine tx ?_
   refine lx ?_
   refine bh ?_
   cases h
   exact jn (b := ()) hk39 (Wk.r1 [] (by simp [hP, hhOk, back, Cat.cells, Fn.cells, Mnd.cells, Tra.cells, IA, I1, LA, L1, BA, B1, EA, E1, E2, eB, eI, eL]))
 intro b5 hb5
 have h := h5
 rw [← hb5] at h
 clear h5
 try dsimp only at h
 refine w_seq ?_
 refine w_run mo (by rw [hN]; decide) fun K hK => ?_
 simp [-guardE_b, -Is_at, -Is_at', -Ls_at, -Ls_at', eL, eI, allInts, eP_Cat, eP_Fn, eP_Mnd, eP_Tra, Cat.cells, Fn.cells, Mnd.cells, Tra.cells]
 repeat (with_reducible refine And.intro ?_ ?_; · first | assumption | omega | (simp; done) | (simp; omega) | simp_all)
 refine hK _ ?_
 clear hK K
 refine tn ?_
 refine w_weak (st' := ⟨[(6, .val (.bool true))], [], 0⟩) (Wk.r1 [] (by simp [hP, hhOk, back, Cat.cells, Fn.cells, Mnd.cells, Tra.cells, IA, I1, LA, L1, BA, B1, EA, E1, E2, eB, eI, eL])) ?_
 refine w_ret ?_
 have hr := Option.some.inj h
 rw [← hr]
 refine ⟨_, (.tmp .nil), ?_⟩
 refine ⟨(.one rfl rfl .nil), [.val (.bool true)], [], by simp [Cat.cells, Fn.cells, Mnd.cells, Tra.cells, IA, I1, LA, L1, BA, B1, EA, E1, E2, eB, eI, eL], by simp, (UpL.refl _)⟩
noncomputable def s_i_areNatural (list_ : List Tra) : Option Bool :=
 (loopF (σ := Int) (ε := Unit ⊕ Bool) (fun s7 =>
   if s7 < (list_.length : Int) then
     ass (0 ≤ s7 ∧ s7 < (list_.length : Int)) <|
     (s_i_Transformation_isNatural (gx list_ s7)).bind fun v10 =>
     if ¬ (v10 = true) then
       some (Ctl.ret (Sum.inr false))
     else
       ass (B64 (s7 + 1)) <|
       some (Ctl.next (s7 + 1))
   else
     some (Ctl.ret (Sum.inl ()))) fuel 0).bind fun e1 =>
 match e1 with
 | .inl b1 =>
   some true
 | .inr p1 =>
   some p1
set_option maxHeartbeats 4000000 in
theorem w_i_areNatural (list_ : List Tra) (r : Bool) (h : s_i_areNatural list_ = some r) : Contract Try.prog 178 [.lst true 1 (Es eP_Tra list_)] (.val (.bool r)) := by
 refine contract_introG (rvs := [.tmp 2]) (rs := [.val (.bool r)]) Try.func178 rfl rfl rfl rfl (by simp [Try.f178]) fun F hN hP => ?_
 unfold s_i_areNatural at h
 refine w_seq ?_
 refine w_run mo (by rw [hN]; decide) fun K hK => ?_
 simp [-guardE_b, -Is_at, -Is_at', -Ls_at, -Ls_at', eL, eI, allInts, eP_Tra, Tra.cells]
 repeat (with_reducible refine And.intro ?_ ?_; · first | assumption | omega | (simp; done) | (simp; omega) | simp_all)
 refine hK _ ?_
 clear hK K
 refine tn ?_
 refine w_weak (st' := ⟨[(0, .lst true 1 (Es eP_Tra list_))], [], 0⟩) (Wk.r1 [] (by simp [hP, hhOk, back, Tra.cells, IA, I1, LA, L1, BA, B1, EA, E1, E2, eB, eI, eL])) ?_
 refine w_seq ?_
 refine w_seq ?_
 refine w_run mo (by rw [hN]; decide) fun K hK => ?_
 simp [-guardE_b, -Is_at, -Is_at', -Ls_at, -Ls_at', eL, eI, allInts, eP_Tra, Tra.cells]
 repeat (with_reducible refine And.intro ?_ ?_; · first | assumption | omega | (simp; done) | (simp; omega) | simp_all)
 refine hK _ ?_
 clear hK K
 refine tn ?_
 refine w_weak (st' := ⟨[(5, .lst true 1 (Es eP_Tra list_)), (6, .val (.int .i64 (list_.length : Int))), (7, .val (.int .i64 0))], [], 0⟩) (Wk.r1 [] (by simp [hP, hhOk, back, Tra.cells, IA, I1, LA, L1, BA, B1, EA, E1, E2, eB, eI, eL])) ?_
 replace h := bind_some h
 obtain ⟨e1, h, h1⟩ := h
 refine w_joinT (fun b1 : Unit => ⟨[], [], 0⟩) (fun b1 => Sum.inl b1 = e1) ?_ ?_
 · refine w_block ?_
   refine w_loopF h (fun s7 : Int => ⟨[(5, .lst true 1 (Es eP_Tra list_)), (6, .val (.int .i64 (list_.length : Int))), (7, .val (.int .i64 s7))], [], 0⟩) (Wk.r1 [] (by simp [hP, hhOk, back, Tra.cells, IA, I1, LA, L1, BA, B1, EA, E1, E2, eB, eI, eL])) ?_
   clear h
   intro k7 s7 c7 h hk7
   refine w_seq ?_
   refine w_run mo (by rw [hN]; decide) fun K hK => ?_
   simp [-guardE_b, -Is_at, -Is_at', -Ls_at, -Ls_at', eL, eI, allInts, eP_Tra, Tra.cells]
   repeat (with_reducible refine And.intro ?_ ?_; · first | assumption | omega | (simp; done) | (simp; omega) | simp_all)
   refine hK _ ?_
   clear hK K
   refine tn ?_
   refine w_weak (st' := ⟨[(5, .lst true 1 (Es eP_Tra list_)), (6, .val (.int .i64 (list_.length : Int))), (7, .val (.int .i64 s7)), (8, .val (.bool (decide (s7 < (list_.length : Int)))))], [], 0⟩) (Wk.r1 [] (by simp [hP, hhOk, back, Tra.cells, IA, I1, LA, L1, BA, B1, EA, E1, E2, eB, eI, eL])) ?_
   refine w_seq ?_
   refine w_cond rfl (fun g => ?_) fun g => ?_
   · have g8 : s7 < (list_.length : Int) := by first | simpa using g | (simp at g; exact g) | (simp at g; omega)
     clear g
     replace h := if_l g8 h
     refine w_skip ?_
     refine tn ?_
     refine w_seq ?_
     refine w_block ?_
     refine w_seq ?_
     refine w_run mo (by rw [hN]; decide) fun K hK => ?_
     replace h := ass_some h
     obtain ⟨a9, h⟩ := h
     simp [-guardE_b, -Is_at, -Is_at', -Ls_at, -Ls_at', eL, eI, allInts, eP_Tra, Tra.cells, at_E (c := eP_Tra) a9]
     repeat (with_reducible refine And.intro ?_ ?_; · first | assumption | omega | (simp; done) | (simp; omega) | simp_all)
     refine hK _ ?_
     clear hK K
     refine tn ?_
     refine w_weak (st' := ⟨[(4, .rptr (Tra.cells true (gx list_ s7))), (5, .lst true 1 (Es eP_Tra list_)), (6, .val (.int .i64 (list_.length : Int))), (7, .val (.int .i64 s7))], [], 0⟩) (Wk.r1 [] (by simp [hP, hhOk, back, Tra.cells, IA, I1, LA, L1, BA, B1, EA, E1, E2, eB, eI, eL])) ?_
     refine w_seq ?_
     refine w_run mo (by rw [hN]; decide) fun K hK => ?_
     simp [-guardE_b, -Is_at, -Is_at', -Ls_at, -Ls_at', eL, eI, allInts, eP_Tra, Tra.cells]
     repeat (with_reducible refine And.intro ?_ ?_; · first | assumption | omega | (simp; done) | (simp; omega) | simp_all)
     replace h := bind_some h
     obtain ⟨v10, hv10, h⟩ := h
     refine callA_intro (w_i_Transformation_isNatural _ v10 hv10) (.cons (.preT (by simp [Tra.cells])) .nil) ?_
     simp [-guardE_b, -Is_at, -Is_at', -Ls_at, -Ls_at', unk, unA, unE, unT, unC, flat, eL, eI, allInts, eP_Tra, Tra.cells]
     repeat (with_reducible refine And.intro ?_ ?_; · first | assumption | omega | (simp; done) | (simp; omega) | simp_all)
     refine hK _ ?_
     clear hK K
     refine tn ?_
     refine w_weak (st' := ⟨[(5, .lst true 1 (Es eP_Tra list_)), (6, .val (.int .i64 (list_.length : Int))), (7, .val (.int .i64 s7)), (13, .val (.bool (!v10)))], [], 0⟩) (Wk.r1 [] (by simp [hP, hhOk, back, Tra.cells, IA, I1, LA, L1, BA, B1, EA, E1, E2, eB, eI, eL])) ?_
     refine w_cond rfl (fun g => ?_) fun g => ?_
     · have g11 : ¬ (v10 = true) := by first | simpa using g | (simp at g; exact g) | (simp at g; omega)
       clear g
       replace h := if_l g11 h
       refine w_seq ?_
       refine w_run mo (by rw [hN]; decide) fun K hK => ?_
       simp [-guardE_b, -Is_at, -Is_at', -Ls_at, -Ls_at', eL, eI, allInts, eP_Tra, Tra.cells]
       repeat (with_reducible refine And.intro ?_ ?_; · first | assumption | omega | (simp; done) | (simp; omega) | simp_all)
       refine hK _ ?_
       clear hK K
       refine tn ?_
       refine w_weak (st' := ⟨[(2, .val (.bool false))], [], 0⟩) (Wk.r1 [] (by simp [hP, hhOk, back, Tra.cells, IA, I1, LA, L1, BA, B1, EA, E1, E2, eB, eI, eL])) ?_
       refine w_ret ?_
       refine br ?_
       refine tr ?_
       refine lr ?_
       refine br ?_
       refine tr ?_
       cases h
       have q : _ = e1 := hk7
       have h := h1
       rw [← q] at h
       clear q
       try dsimp only at h
       have hr := Option.some.inj h
       rw [← hr]
       refine ⟨_, (.tmp .nil), ?_⟩
       refine ⟨(.one rfl rfl .nil), [.val (.bool false)], [], by simp [Tra.cells, IA, I1, LA, L1, BA, B1, EA, E1, E2, eB, eI, eL], by simp, (UpL.refl _)⟩
     have g11 : ¬ (¬ (v10 = true)) := by first | simpa using g | (simp at g; exact g) | (simp at g; omega)
     clear g
     replace h := if_r g11 h
     refine w_skip ?_
     refine bn ?_
     refine tn ?_
     refine w_run mo (by rw [hN]; decide) fun K hK => ?_
     replace h := ass_some h
     obtain ⟨a12, h⟩ := h
     simp [-guardE_b, -Is_at, -Is_at', -Ls_at, -Ls_at', eL, eI, allInts, eP_Tra, Tra.cells, wrap_id a12]
     repeat (with_reducible refine And.intro ?_ ?_; · first | assumption | omega | (simp; done) | (simp; omega) | simp_all)
     refine hK _ ?_
     clear hK K
     cases h
     exact rn (s' := s7 + 1) hk7 (Wk.r1 [] (by simp [hP, hhOk, back, Tra.cells, IA, I1, LA, L1, BA, B1, EA, E1, E2, eB, eI, eL]))
   have g8 : ¬ (s7 < (list_.length : Int)) := by first | simpa using g | (simp at g; exact g) | (simp at g; omega)
   clear g
   replace h := if_r g8 h
   refine w_exit ?_
   refine tx ?_
   refine lx ?_
   refine bh ?_
   cases h
   exact jn (b := ()) hk7 (Wk.r1 [] (by simp [hP, hhOk, back, Tra.cells, IA, I1, LA, L1, BA, B1, EA, E1, E2, eB, eI, eL]))
 intro b1 hb1
 have h := h1
 rw [← hb1] at h
 clear h1
 try dsimp only at h
 refine w_seq ?_
 refine w_run mo (by rw [hN]; decide) fun K hK => ?_
 simp [-guardE_b, -Is_at, -Is_at', -Ls_at, -Ls_at', eL, eI, allInts, eP_Tra, Tra.cells]
 repeat (with_reducible refine And.intro ?_ ?_; · first | assumption | omega | (simp; done) | (simp; omega) | simp_all)
 refine hK _ ?_
 clear hK K
 refine tn ?_
 refine w_weak (st' := ⟨[(2, .val (.bool true))], [], 0⟩) (Wk.r1 [] (by simp [hP, hhOk, back, Tra.cells, IA, I1, LA, L1, BA, B1, EA, E1, E2, eB, eI, eL])) ?_
 refine w_ret ?_
 have hr := Option.some.inj h
 rw [← hr]
 refine ⟨_, (.tmp .nil), ?_⟩
 refine ⟨(.one rfl rfl .nil), [.val (.bool true)], [], by simp [Tra.cells, IA, I1, LA, L1, BA, B1, EA, E1, E2, eB, eI, eL], by simp, (UpL.refl _)⟩
end Go.Vc.T

set_option maxRecDepth 100000
set_option linter.unusedSimpArgs false
set_option linter.unusedVariables false
namespace Go.Vc.T
open Go Go.Vc Go.Proofs
structure NatT (f g : Fn) (p : List Int) : Prop where
 lp : p.length = f.ob.length
 bd : ∀ j : Nat, j < p.length → 0 ≤ ix p j ∧ ix p j < f.t.fr.length
 ends : ∀ x : Nat, x < p.length → ix f.t.fr (ix p x) = ix f.ob x ∧ ix f.t.to (ix p x) = ix g.ob x
 sq : ∀ a : Nat, a < f.s.fr.length → ix (rx f.t.cs (ix f.ar a)) (ix p (ix f.s.to a)) = ix (rx f.t.cs (ix p (ix f.s.fr a))) (ix g.ar a)
structure Para (f g : Fn) : Prop where
 hf : f.Is
 hg : g.Is
 s : f.s = g.s
 t : f.t = g.t
theorem Para.fact {f g : Fn} (h : Para f g) : f.ob.length = g.ob.length ∧ f.ar.length = g.ar.length ∧ f.ar.length = f.s.fr.length ∧ f.s.to.length = f.s.fr.length ∧ f.t.to.length = f.t.fr.length ∧ f.t.cs.length = f.t.fr.length ∧ f.ob.length = f.s.id.length ∧ f.ob.length ≤ 8 ∧ f.s.fr.length ≤ 40 ∧ f.t.fr.length ≤ 40 := by
 have h1 := h.hf.lo
 have h2 := h.hg.lo
 have h3 := h.hf.la
 have h4 := h.hg.la
 rw [← h.s] at h2 h4
 have h5 := h.hf.s.1.li
 exact ⟨by omega, by omega, h3, h.hf.s.1.lt, h.hf.t.1.lt, h.hf.t.1.lc, by omega, h.hf.lob, h.hf.s.1.m40, h.hf.t.1.m40⟩
theorem Para.sqok {f g : Fn} (h : Para f g) {p : List Int} (lp : p.length = f.ob.length) (bd : ∀ j : Nat, j < p.length → 0 ≤ ix p j ∧ ix p j < f.t.fr.length) {a : Nat} (ha : a < f.s.fr.length) :
   (0 ≤ ix f.ar a ∧ ix f.ar a < f.t.fr.length) ∧ (0 ≤ ix g.ar a ∧ ix g.ar a < f.t.fr.length) ∧ (0 ≤ ix f.s.to a ∧ ix f.s.to a < p.length) ∧ (0 ≤ ix f.s.fr a ∧ ix f.s.fr a < p.length) ∧
   (0 ≤ ix p (ix f.s.to a) ∧ ix p (ix f.s.to a) < f.t.fr.length) ∧ (0 ≤ ix p (ix f.s.fr a) ∧ ix p (ix f.s.fr a) < f.t.fr.length) ∧ (rx f.t.cs (ix f.ar a)).length = f.t.fr.length ∧ (rx f.t.cs (ix p (ix f.s.fr a))).length = f.t.fr.length := by
 obtain ⟨k1, k2, k3, k4, k5, k6, k7, k8, k9, k10⟩ := h.fact
 have h1 := h.hf.ar a (by omega)
 have h2 := h.hg.ar a (by omega)
 rw [← h.t] at h2
 have h3 := h.hf.s.1.frn ha
 have h4 := ix_bnd bd (j := ix f.s.to a) (by omega) (by omega)
 have h5 := ix_bnd bd (j := ix f.s.fr a) (by omega) (by omega)
 exact ⟨h1, h2, by omega, by omega, h4, h5, h.hf.t.1.row' (by omega) (by omega), h.hf.t.1.row' (by omega) (by omega)⟩
theorem e_l02Then {c : Cat} {f g : Int} (h0 : 0 ≤ f ∧ f < (c.cs.length : Int)) (h1 : 0 ≤ g ∧ g < ((rx c.cs f).length : Int)) : s_s_l02Then c f g = some (ix (rx c.cs f) g) := by
 unfold s_s_l02Then
 rw [ass_pos h0, ass_pos h1]
theorem e_Cthen {c : Cat} {f g : Int} (h0 : 0 ≤ f ∧ f < (c.cs.length : Int)) (h1 : 0 ≤ g ∧ g < ((rx c.cs f).length : Int)) : s_i_Category_then c f g = some (ix (rx c.cs f) g) := by
 unfold s_i_Category_then
 rw [ass_pos h0.1, ass_pos h0.2, ass_pos h1.1, ass_pos h1.2]
theorem e_l15Natural {f g : Fn} (h : Para f g) (p : List Int) : s_s_l15Natural f g p = some (bo (NatT f g p)) := by
 obtain ⟨k1, k2, k3, k4, k5, k6, k7, k8, k9, k10⟩ := h.fact
 unfold s_s_l15Natural
 by_cases h1 : (p.length : Int) = f.ob.length
 case neg => rw [bo_neg (show ¬ NatT f g p from fun q => h1 (by rw [q.lp]))]; simp [h1]
 by_cases h2 : p.all (inR f.t.fr.length) = true
 case neg => rw [bo_neg (show ¬ NatT f g p from fun q => h2 (all_inR.2 q.bd))]; simp [s_s_l01Map, h1, h2]
 have bd := all_inR.1 h2
 simp only [s_s_l01Map, h1, h2, not_true_eq_false, if_false, Option.bind_some, Bool.not_true, Bool.false_eq_true]
 refine chk_bind p.length (fun x : Nat => ix f.t.fr (ix p x) = ix f.ob x ∧ ix f.t.to (ix p x) = ix g.ob x) (eb := Sum.inr false) (eg := Sum.inl ()) (by omega) (fun a hi hp => ?_) (fun a hi hp => ?_) (by simp; omega) (fun hx => ?_) fun q1 => ?_
 · have := bd a hi
   simp (disch := omega) [ass_pos, B64, hp.1, hp.2]; omega
 · have := bd a hi
   by_cases hp1 : ix f.t.fr (ix p a) = ix f.ob a
   · have hp2 : ¬ ix f.t.to (ix p a) = ix g.ob a := fun q => hp ⟨hp1, q⟩
     simp (disch := omega) [ass_pos, B64, hp1, hp2]; omega
   simp (disch := omega) [ass_pos, B64, hp1]; omega
 · rw [bo_neg (show ¬ NatT f g p from fun q => hx q.ends)]
 simp only
 refine chk_bind f.s.fr.length (fun a : Nat => ix (rx f.t.cs (ix f.ar a)) (ix p (ix f.s.to a)) = ix (rx f.t.cs (ix p (ix f.s.fr a))) (ix g.ar a)) (eb := Sum.inr false) (eg := Sum.inl ()) (by omega) (fun a hi hp => ?_) (fun a hi hp => ?_) (by simp) (fun hx => ?_) fun q2 => ?_
 · obtain ⟨m1, m2, m3, m4, m5, m6, m7, m8⟩ := h.sqok (by omega) bd hi
   simp (disch := omega) [ass_pos, B64, e_l02Then, hp, hi]
 · obtain ⟨m1, m2, m3, m4, m5, m6, m7, m8⟩ := h.sqok (by omega) bd hi
   simp (disch := omega) [ass_pos, B64, e_l02Then, hp, hi]
 · rw [bo_neg (show ¬ NatT f g p from fun q => hx q.sq)]
 rw [bo_pos (show NatT f g p from ⟨by omega, bd, q1, q2⟩)]
structure Tra.Is (t : Tra) : Prop where
 p : Para t.s t.t
 n : NatT t.s t.t t.p
theorem e_fits {f : Fn} (h1 : f.s.Is) (h2 : f.t.Is) : s_i_Functor_fits f = some (bo f.Is) := by
 have hs := h1.1
 have ht := h2.1
 have k0 := hs.n0
 have k1 := hs.n8
 have k2 := hs.m40
 have k3 := hs.li
 have k4 := hs.lt
 have k5 := hs.lc
 have k6 := ht.li
 have k7 := ht.lt
 have k8 := ht.lc
 have k9 := ht.m40
 have k10 := ht.n0
 have k11 := ht.n8
 have b1 : B64 (f.t.n - 1) := ⟨by omega, by omega⟩
 have b2 : B64 ((f.t.fr.length : Int) - 1) := ⟨by omega, by omega⟩
 unfold s_i_Functor_fits
 by_cases h3 : (f.ob.length : Int) = f.s.n
 case neg => rw [bo_neg (show ¬ f.Is from fun q => h3 q.lo)]; simp [h3]
 by_cases h4 : (f.ar.length : Int) = f.s.fr.length
 case neg => rw [bo_neg (show ¬ f.Is from fun q => h4 (by rw [q.la]))]; simp [s_i_Category_arrows, h3, h4]
 by_cases h5 : f.ob.all (inR f.t.n) = true
 case neg => rw [bo_neg (show ¬ f.Is from fun q => h5 (all_inR.2 q.ob))]; simp [s_i_Category_arrows, s_i_within, ass_pos b1, h3, h4, h5]
 by_cases h6 : f.ar.all (inR f.t.fr.length) = true
 case neg => rw [bo_neg (show ¬ f.Is from fun q => h6 (all_inR.2 q.ar))]; simp [s_i_Category_arrows, s_i_within, ass_pos b1, ass_pos b2, h3, h4, h5, h6]
 have ho := all_inR.1 h5
 have ha := all_inR.1 h6
 simp only [s_i_Category_arrows, s_i_within, ass_pos b1, ass_pos b2, h3, h4, h5, h6, Option.bind_some, if_true, if_false, not_true_eq_false, Bool.not_true, Bool.false_eq_true]
 refine chk_bind f.s.fr.length (fun a : Nat => ix f.t.fr (ix f.ar a) = ix f.ob (ix f.s.fr a) ∧ ix f.t.to (ix f.ar a) = ix f.ob (ix f.s.to a)) (eb := Sum.inr false) (eg := Sum.inl ()) (by omega) (fun a hi hp => ?_) (fun a hi hp => ?_) (by simp) (fun hx => ?_) fun q1 => ?_
 · have := hs.frn hi
   have := ha a (by omega)
   simp (disch := omega) [ass_pos, B64, hp.1, hp.2, hi]
 · have := hs.frn hi
   have := ha a (by omega)
   by_cases hp1 : ix f.t.fr (ix f.ar a) = ix f.ob (ix f.s.fr a)
   · have hp2 : ¬ ix f.t.to (ix f.ar a) = ix f.ob (ix f.s.to a) := fun h => hp ⟨hp1, h⟩
     simp (disch := omega) [ass_pos, B64, hp1, hp2, hi]
   simp (disch := omega) [ass_pos, B64, hp1, hi]
 · rw [bo_neg (show ¬ f.Is from fun q => hx q.ends)]
 simp only
 refine chk_bind f.s.id.length (fun x : Nat => ix f.ar (ix f.s.id x) = ix f.t.id (ix f.ob x)) (eb := Sum.inr false) (eg := Sum.inl ()) (by omega) (fun a hi hp => ?_) (fun a hi hp => ?_) (by simp) (fun hx => ?_) fun q2 => ?_
 · have := hs.idn hi
   have := ho a (by omega)
   simp (disch := omega) [ass_pos, B64, hp, hi]
 · have := hs.idn hi
   have := ho a (by omega)
   simp (disch := omega) [ass_pos, B64, hp, hi]
 · rw [bo_neg (show ¬ f.Is from fun q => hx q.ids)]
 simp only
 refine chk_bind f.s.fr.length (fun a : Nat => ∀ b : Nat, b < f.s.fr.length → ix f.s.to a = ix f.s.fr b → ix f.ar (ix (rx f.s.cs a) b) = ix (rx f.t.cs (ix f.ar a)) (ix f.ar b)) (eb := Sum.inr false) (eg := Sum.inl ()) (by omega) (fun a hi hp => ?_) (fun a hi hp => ?_) (by simp; omega) (fun hx => ?_) fun q3 => ?_
 rotate_left 2
 · rw [bo_neg (show ¬ f.Is from fun q => hx q.comp)]
 · rw [bo_pos (show f.Is from ⟨h1, h2, h3, by omega, ho, ha, q1, q2, q3⟩)]
 all_goals
   have h8 := ha a (by omega)
   have h11 := hs.row' (j := a) (by omega) (by omega)
   have h12 := ht.row' (j := ix f.ar a) (by omega) (by omega)
   rw [if_pos (by omega), ass_pos (by omega), Option.bind_assoc]
   refine chk_bind f.s.fr.length (fun b : Nat => ix f.s.to a = ix f.s.fr b → ix f.ar (ix (rx f.s.cs a) b) = ix (rx f.t.cs (ix f.ar a)) (ix f.ar b)) (eb := Sum.inl false) (eg := Sum.inr ()) (by omega) (fun b hb hq => ?_) (fun b hb hq => ?_) ?_ (fun hn => ?_) fun hn => ?_
 all_goals first
   | exact absurd hp hn
   | exact absurd hn hp
   | (simp (disch := omega) [ass_pos, B64, h11]; done)
   | skip
 all_goals
   have h13 := ha b (by omega)
   have h16 := hs.cell' (f := a) (g := b) (by omega) (by omega) (by omega) (by omega)
   by_cases h14 : ix f.s.to a = ix f.s.fr b
   · have h15 := hs.cmp (f := a) (g := b) (by omega) (by omega) (by omega) (by omega) h14
     have h17 : ix (rx f.s.cs a) b ≥ 0 := h15.1
     first
       | (have hq1 := hq h14; simp (disch := omega) [ass_pos, B64, e_Cthen, h14, hq1, hb, h11, h17]; done)
       | (have hq1 := fun e => hq (fun _ => e); simp (disch := omega) [ass_pos, B64, e_Cthen, h14, hq1, hb, h11, h17]; exact hq1)
   have h17 := h16.1 h14
   first
     | (simp (disch := omega) [ass_pos, B64, h14, hb, h11, h17]; done)
     | exact absurd (fun e => absurd e h14) hq
theorem gx_nat {α : Type} [Inhabited α] (xs : List α) {i : Nat} (h : i < xs.length) : gx xs i = xs[i] := by simp [gx, List.getD_eq_getElem?_getD, h]
theorem e_areCats (cs : List Cat) (hl : cs.length ≤ 1048576) : s_i_areCategories cs = some (bo (∀ c ∈ cs, c.Is)) := by
 unfold s_i_areCategories
 refine chk_bind cs.length (fun i : Nat => (gx cs i).Is) (eb := Sum.inr false) (eg := Sum.inl ()) (by omega) (fun a hi hp => ?_) (fun a hi hp => ?_) (by simp) (fun hx => ?_) fun q1 => ?_
 · simp (disch := omega) [ass_pos, B64, s_i_Category_isCategory, bo_pos hp, hi]
 · simp (disch := omega) [ass_pos, B64, s_i_Category_isCategory, bo_neg hp, hi]
 · rw [bo_neg (show ¬ ∀ c ∈ cs, c.Is from fun q => hx fun i hi => q _ (by rw [gx_nat _ hi]; exact List.getElem_mem hi))]
 rw [bo_pos (show ∀ c ∈ cs, c.Is from fun c hc => by obtain ⟨i, hi, rfl⟩ := List.getElem_of_mem hc; have := q1 i hi; rwa [gx_nat _ hi] at this)]
theorem e_isFunctor (f : Fn) : s_i_Functor_isFunctor f = some (bo f.Is) := by
 unfold s_i_Functor_isFunctor
 rw [e_areCats _ (by simp)]
 by_cases h : f.s.Is ∧ f.t.Is
 · rw [bo_pos (show ∀ c ∈ [f.s, f.t], c.Is by simpa using h)]
   simp [e_fits h.1 h.2]
 rw [bo_neg (show ¬ ∀ c ∈ [f.s, f.t], c.Is by simpa using h), bo_neg (show ¬ f.Is from fun q => h ⟨q.s, q.t⟩)]
 simp
theorem e_areFunctors (fs : List Fn) (hl : fs.length ≤ 1048576) : s_i_areFunctors fs = some (bo (∀ f ∈ fs, f.Is)) := by
 unfold s_i_areFunctors
 refine chk_bind fs.length (fun i : Nat => (gx fs i).Is) (eb := Sum.inr false) (eg := Sum.inl ()) (by omega) (fun a hi hp => ?_) (fun a hi hp => ?_) (by simp) (fun hx => ?_) fun q1 => ?_
 · simp (disch := omega) [ass_pos, B64, e_isFunctor, bo_pos hp, hi]
 · simp (disch := omega) [ass_pos, B64, e_isFunctor, bo_neg hp, hi]
 · rw [bo_neg (show ¬ ∀ c ∈ fs, c.Is from fun q => hx fun i hi => q _ (by rw [gx_nat _ hi]; exact List.getElem_mem hi))]
 rw [bo_pos (show ∀ c ∈ fs, c.Is from fun c hc => by obtain ⟨i, hi, rfl⟩ := List.getElem_of_mem hc; have := q1 i hi; rwa [gx_nat _ hi] at this)]
theorem Cat.Is.lcs {c : Cat} (h : c.Is) : c.cs.length ≤ 1048576 := by have := h.1.lc; have := h.1.m40; omega
theorem e_sameCat {c d : Cat} (h : c.Is) : s_i_sameCategory c d = some (bo (c = d)) := by
 unfold s_i_sameCategory
 rw [ass_pos h.lcs]
theorem e_parallel {f g : Fn} (hf : f.Is) : s_i_parallelFunctors f g = some (bo (f.s = g.s ∧ f.t = g.t)) := by
 unfold s_i_parallelFunctors
 rw [e_sameCat hf.s, e_sameCat hf.t]
 by_cases h1 : f.s = g.s <;> by_cases h2 : f.t = g.t <;> simp [bo, h1, h2]
theorem e_commutes {f g : Fn} (h : Para f g) {p : List Int} (lp : p.length = f.ob.length) (bd : ∀ j : Nat, j < p.length → 0 ≤ ix p j ∧ ix p j < f.t.fr.length) {a : Nat} (ha : a < f.s.fr.length) :
   s_i_commutes f g p a = some (bo (ix (rx f.t.cs (ix f.ar a)) (ix p (ix f.s.to a)) = ix (rx f.t.cs (ix p (ix f.s.fr a))) (ix g.ar a))) := by
 obtain ⟨k1, k2, k3, k4, k5, k6, k7, k8, k9, k10⟩ := h.fact
 obtain ⟨m1, m2, m3, m4, m5, m6, m7, m8⟩ := h.sqok lp bd ha
 unfold s_i_commutes
 by_cases hq : ix (rx f.t.cs (ix f.ar a)) (ix p (ix f.s.to a)) = ix (rx f.t.cs (ix p (ix f.s.fr a))) (ix g.ar a) <;> simp (disch := omega) [ass_pos, e_Cthen, hq, bo]
theorem e_firstFail {f g : Fn} (h : Para f g) {p : List Int} (lp : p.length = f.ob.length) (bd : ∀ j : Nat, j < p.length → 0 ≤ ix p j ∧ ix p j < f.t.fr.length) :
   ∃ v, s_i_firstFailure__i_commutes ⟨f, g, p⟩ = some v ∧ (v < 0 ↔ ∀ a : Nat, a < f.s.fr.length → ix (rx f.t.cs (ix f.ar a)) (ix p (ix f.s.to a)) = ix (rx f.t.cs (ix p (ix f.s.fr a))) (ix g.ar a)) := by
 obtain ⟨k1, k2, k3, k4, k5, k6, k7, k8, k9, k10⟩ := h.fact
 unfold s_i_firstFailure__i_commutes
 rcases loop_fst (body := fun s6 : Int => if s6 < (f.ar.length : Int) then (s_i_commutes f g p s6).bind fun v8 => if ¬ (v8 = true) then some (Ctl.ret (Sum.inr s6)) else ass (B64 (s6 + 1)) <| some (Ctl.next (s6 + 1)) else some (Ctl.ret (Sum.inl ()))) (ε := Unit ⊕ Int)
     f.s.fr.length (fun a : Nat => ix (rx f.t.cs (ix f.ar a)) (ix p (ix f.s.to a)) = ix (rx f.t.cs (ix p (ix f.s.fr a))) (ix g.ar a)) (eb := fun i => Sum.inr (i : Int)) (eg := Sum.inl ()) (by omega)
     (fun a hi hp => by simp (disch := omega) [ass_pos, B64, e_commutes h lp bd hi, hp, bo]; omega) (fun a hi hp => by simp (disch := omega) [ass_pos, B64, e_commutes h lp bd hi, hp, bo]; omega) (by simp; omega) with ⟨h1, h2⟩ | ⟨m, h1, h2, h3, h4⟩
 · refine ⟨-1, ?_, by simpa using h1⟩
   simp only
   rw [h2]; rfl
 refine ⟨m, ?_, ⟨fun q => by omega, fun q => absurd (q m h1) h2⟩⟩
 simp only
 rw [h4]; rfl
theorem e_Tshape (t : Tra) : s_i_Transformation_isShape t = some (bo (Para t.s t.t ∧ t.p.length = t.s.ob.length ∧ (∀ j : Nat, j < t.p.length → 0 ≤ ix t.p j ∧ ix t.p j < t.s.t.fr.length) ∧ ∀ x : Nat, x < t.p.length → ix t.s.t.fr (ix t.p x) = ix t.s.ob x ∧ ix t.s.t.to (ix t.p x) = ix t.t.ob x)) := by
 unfold s_i_Transformation_isShape
 rw [e_areFunctors _ (by simp)]
 by_cases h : t.s.Is ∧ t.t.Is
 case neg => rw [bo_neg (show ¬ ∀ c ∈ [t.s, t.t], c.Is by simpa using h), bo_neg (fun q => h ⟨q.1.hf, q.1.hg⟩)]; simp
 rw [bo_pos (show ∀ c ∈ [t.s, t.t], c.Is by simpa using h)]
 obtain ⟨hf, hg⟩ := h
 rw [e_parallel hf]
 by_cases h : t.s.s = t.t.s ∧ t.s.t = t.t.t
 case neg => rw [bo_neg h, bo_neg (fun q => h ⟨q.1.s, q.1.t⟩)]; simp
 rw [bo_pos h]
 have hP : Para t.s t.t := ⟨hf, hg, h.1, h.2⟩
 obtain ⟨k1, k2, k3, k4, k5, k6, k7, k8, k9, k10⟩ := hP.fact
 have lo := hf.lo
 have b2 : B64 ((t.s.t.fr.length : Int) - 1) := ⟨by omega, by omega⟩
 by_cases h1 : (t.p.length : Int) = t.s.s.n
 case neg => rw [bo_neg (fun q => h1 (by rw [q.2.1, lo]))]; simp [h1]
 by_cases h2 : t.p.all (inR t.s.t.fr.length) = true
 case neg => rw [bo_neg (fun q => h2 (all_inR.2 q.2.2.1))]; simp [s_i_Category_arrows, s_i_within, ass_pos b2, h1, h2]
 have bd := all_inR.1 h2
 simp only [s_i_Category_arrows, s_i_within, ass_pos b2, h1, h2, not_true_eq_false, if_false, Option.bind_some, Bool.not_true, Bool.false_eq_true]
 refine chk_bind t.p.length (fun x : Nat => ix t.s.t.fr (ix t.p x) = ix t.s.ob x ∧ ix t.s.t.to (ix t.p x) = ix t.t.ob x) (eb := Sum.inr false) (eg := Sum.inl ()) (by omega) (fun a hi hp => ?_) (fun a hi hp => ?_) (by simp; try omega) (fun hx => ?_) fun q1 => ?_
 · have := bd a hi
   simp (disch := omega) [ass_pos, B64, s_i_Category_ends, hp.1, hp.2]; omega
 · have := bd a hi
   by_cases hp1 : ix t.s.t.fr (ix t.p a) = ix t.s.ob a
   · have hp2 : ¬ ix t.s.t.to (ix t.p a) = ix t.t.ob a := fun q => hp ⟨hp1, q⟩
     simp (disch := omega) [ass_pos, B64, s_i_Category_ends, hp1, hp2]; try omega
   simp (disch := omega) [ass_pos, B64, s_i_Category_ends, hp1]; try omega
 · rw [bo_neg (fun q => hx q.2.2.2)]
 rw [bo_pos ⟨hP, by omega, bd, q1⟩]
theorem e_isNatural (t : Tra) : s_i_Transformation_isNatural t = some (bo t.Is) := by
 unfold s_i_Transformation_isNatural
 rw [e_Tshape]
 by_cases h : Para t.s t.t ∧ t.p.length = t.s.ob.length ∧ (∀ j : Nat, j < t.p.length → 0 ≤ ix t.p j ∧ ix t.p j < t.s.t.fr.length) ∧ ∀ x : Nat, x < t.p.length → ix t.s.t.fr (ix t.p x) = ix t.s.ob x ∧ ix t.s.t.to (ix t.p x) = ix t.t.ob x
 case neg => rw [bo_neg h, bo_neg (show ¬ t.Is from fun q => h ⟨q.p, q.n.lp, q.n.bd, q.n.ends⟩)]; simp
 rw [bo_pos h]
 obtain ⟨hP, lp, bd, en⟩ := h
 obtain ⟨v, hv, hiff⟩ := e_firstFail hP lp bd
 have hv' : s_i_firstFailure__i_commutes t = some v := hv
 by_cases hn : v < 0
 · rw [bo_pos (show t.Is from ⟨hP, lp, bd, en, hiff.1 hn⟩)]; simp [hv', hn]
 rw [bo_neg (show ¬ t.Is from fun q => hn (hiff.2 q.n.sq))]; simp [hv', hn]
theorem e_areNatural (ts : List Tra) (hl : ts.length ≤ 1048576) : s_i_areNatural ts = some (bo (∀ t ∈ ts, t.Is)) := by
 unfold s_i_areNatural
 refine chk_bind ts.length (fun i : Nat => (gx ts i).Is) (eb := Sum.inr false) (eg := Sum.inl ()) (by omega) (fun a hi hp => ?_) (fun a hi hp => ?_) (by simp) (fun hx => ?_) fun q1 => ?_
 · simp (disch := omega) [ass_pos, B64, e_isNatural, bo_pos hp, hi]
 · simp (disch := omega) [ass_pos, B64, e_isNatural, bo_neg hp, hi]
 · rw [bo_neg (show ¬ ∀ c ∈ ts, c.Is from fun q => hx fun i hi => q _ (by rw [gx_nat _ hi]; exact List.getElem_mem hi))]
 rw [bo_pos (show ∀ c ∈ ts, c.Is from fun c hc => by obtain ⟨i, hi, rfl⟩ := List.getElem_of_mem hc; have := q1 i hi; rwa [gx_nat _ hi] at this)]
end Go.Vc.T

set_option maxRecDepth 100000
set_option linter.unusedSimpArgs false
set_option linter.unusedVariables false
namespace Go.Vc.T
open Go Go.Vc Go.Proofs
noncomputable def s_i_Monad_isMonad (m_ : Mnd) : Option Bool :=
 (
   (s_i_Functor_isFunctor m_.f).bind fun v2 =>
   if ¬ (v2 = true) then
     some true
   else
     (s_i_sameCategory m_.f.s m_.f.t).bind fun v4 =>
     some (!v4) : Option (Bool)).bind fun b1 =>
 if b1 = true then
   some false
 else
   (s_i_identity m_.f.s).bind fun v6 =>
   (s_i_Functor_then m_.f m_.f).bind fun v7 =>
   (
     (s_i_areNatural [(⟨v6, m_.f, m_.u⟩ : Tra), (⟨v7, m_.f, m_.j⟩ : Tra)]).bind fun v9 =>
     if v9 = true then
       (s_i_Monad_isLawful m_).bind fun v11 =>
       some v11
     else
       some false : Option (Bool)).bind fun b8 =>
   some b8
set_option maxHeartbeats 4000000 in
theorem w_i_Monad_isMonad (m_ : Mnd) (r : Bool) (h : s_i_Monad_isMonad m_ = some r) : Contract Try.prog 83 [.rptr (m_.cells true)] (.val (.bool r)) := by
 refine contract_introG (rvs := [.tmp 2]) (rs := [.val (.bool r)]) Try.func83 rfl rfl rfl rfl (by simp [Try.f83]) fun F hN hP => ?_
 unfold s_i_Monad_isMonad at h
 refine w_seq ?_
 refine w_run mo (by rw [hN]; decide) fun K hK => ?_
 simp [-guardE_b, -Is_at, -Is_at', -Ls_at, -Ls_at', eL, eI, allInts, eP_Cat, eP_Fn, eP_Mnd, eP_Tra, Cat.cells, Fn.cells, Mnd.cells, Tra.cells]
 repeat (with_reducible refine And.intro ?_ ?_; · first | assumption | omega | (simp; done) | (simp; omega) | simp_all)
 refine hK _ ?_
 clear hK K
 refine tn ?_
 refine w_weak (st' := ⟨[(0, .rptr (Mnd.cells true m_))], [], 0⟩) (Wk.r1 [] (by simp [hP, hhOk, back, Cat.cells, Fn.cells, Mnd.cells, Tra.cells, IA, I1, LA, L1, BA, B1, EA, E1, E2, eB, eI, eL])) ?_
 refine w_seq ?_
 refine w_seq ?_
 replace h := bind_some h
 obtain ⟨e1, h, h1⟩ := h
 refine w_joinT (fun b1 : Bool => ⟨[(0, .rptr (Mnd.cells true m_)), (23, .val (.bool b1))], [], 0⟩) (fun b1 => b1 = e1) ?_ ?_
 · refine w_run mo (by rw [hN]; decide) fun K hK => ?_
   simp [-guardE_b, -Is_at, -Is_at', -Ls_at, -Ls_at', eL, eI, allInts, eP_Cat, eP_Fn, eP_Mnd, eP_Tra, Cat.cells, Fn.cells, Mnd.cells, Tra.cells]
   repeat (with_reducible refine And.intro ?_ ?_; · first | assumption | omega | (simp; done) | (simp; omega) | simp_all)
   replace h := bind_some h
   obtain ⟨v2, hv2, h⟩ := h
   refine callA_intro (w_i_Functor_isFunctor _ v2 hv2) (.cons (.preT (by simp [Fn.cells, Mnd.cells])) .nil) ?_
   simp [-guardE_b, -Is_at, -Is_at', -Ls_at, -Ls_at', unk, unA, unE, unT, unC, flat, eL, eI, allInts, eP_Cat, eP_Fn, eP_Mnd, eP_Tra, Cat.cells, Fn.cells, Mnd.cells, Tra.cells]
   repeat (with_reducible refine And.intro ?_ ?_; · first | assumption | omega | (simp; done) | (simp; omega) | simp_all)
   refine guard_intro (fun g => ?_) (fun g => ?_)
   · have g3 : ¬ (¬ (v2 = true)) := by first | simpa using g | (simp at g; exact g) | (simp at g; omega)
     clear g
     replace h := if_r g3 h
     simp [-guardE_b, -Is_at, -Is_at', -Ls_at, -Ls_at', eL, eI, allInts, eP_Cat, eP_Fn, eP_Mnd, eP_Tra, Cat.cells, Fn.cells, Mnd.cells, Tra.cells]
     repeat (with_reducible refine And.intro ?_ ?_; · first | assumption | omega | (simp; done) | (simp; omega) | simp_all)
     replace h := bind_some h
     obtain ⟨v4, hv4, h⟩ := h
     refine callA_intro (w_i_sameCategory _ _ v4 hv4) (.cons (.preT (by simp [Cat.cells, Fn.cells, Mnd.cells])) (.cons (.preT (by simp [Cat.cells, Fn.cells, Mnd.cells])) .nil)) ?_
     simp [-guardE_b, -Is_at, -Is_at', -Ls_at, -Ls_at', unk, unA, unE, unT, unC, flat, eL, eI, allInts, eP_Cat, eP_Fn, eP_Mnd, eP_Tra, Cat.cells, Fn.cells, Mnd.cells, Tra.cells]
     repeat (with_reducible refine And.intro ?_ ?_; · first | assumption | omega | (simp; done) | (simp; omega) | simp_all)
     refine hK _ ?_
     exact jn (b := !v4) (Option.some.inj h) (Wk.r1 [] (by simp [hP, hhOk, back, Cat.cells, Fn.cells, Mnd.cells, Tra.cells, IA, I1, LA, L1, BA, B1, EA, E1, E2, eB, eI, eL]))
   have g3 : ¬ (v2 = true) := by first | simpa using g | (simp at g; exact g) | (simp at g; omega)
   clear g
   replace h := if_l g3 h
   simp [-guardE_b, -Is_at, -Is_at', -Ls_at, -Ls_at', eL, eI, allInts, eP_Cat, eP_Fn, eP_Mnd, eP_Tra, Cat.cells, Fn.cells, Mnd.cells, Tra.cells]
   repeat (with_reducible refine And.intro ?_ ?_; · first | assumption | omega | (simp; done) | (simp; omega) | simp_all)
   refine hK _ ?_
   exact jn (b := true) (Option.some.inj h) (Wk.r1 [] (by simp [hP, hhOk, back, Cat.cells, Fn.cells, Mnd.cells, Tra.cells, IA, I1, LA, L1, BA, B1, EA, E1, E2, eB, eI, eL]))
 intro b1 hb1
 have h := h1
 rw [← hb1] at h
 clear h1
 try dsimp only at h
 refine w_cond rfl (fun g => ?_) fun g => ?_
 · have g5 : b1 = true := by first | simpa using g | (simp at g; exact g) | (simp at g; omega)
   clear g
   replace h := if_l g5 h
   refine w_seq ?_
   refine w_run mo (by rw [hN]; decide) fun K hK => ?_
   simp [-guardE_b, -Is_at, -Is_at', -Ls_at, -Ls_at', eL, eI, allInts, eP_Cat, eP_Fn, eP_Mnd, eP_Tra, Cat.cells, Fn.cells, Mnd.cells, Tra.cells]
   repeat (with_reducible refine And.intro ?_ ?_; · first | assumption | omega | (simp; done) | (simp; omega) | simp_all)
   refine hK _ ?_
   clear hK K
   refine tn ?_
   refine w_weak (st' := ⟨[(2, .val (.bool false))], [], 0⟩) (Wk.r1 [] (by simp [hP, hhOk, back, Cat.cells, Fn.cells, Mnd.cells, Tra.cells, IA, I1, LA, L1, BA, B1, EA, E1, E2, eB, eI, eL])) ?_
   refine w_ret ?_
   refine tr ?_
   have hr := Option.some.inj h
   rw [← hr]
   refine ⟨_, (.tmp .nil), ?_⟩
   refine ⟨(.one rfl rfl .nil), [.val (.bool false)], [], by simp [Cat.cells, Fn.cells, Mnd.cells, Tra.cells, IA, I1, LA, L1, BA, B1, EA, E1, E2, eB, eI, eL], by simp, (UpL.refl _)⟩
 have g5 : ¬ (b1 = true) := by first | simpa using g | (simp at g; exact g) | (simp at g; omega)
 clear g
 replace h := if_r g5 h
 refine w_skip ?_
 refine tn ?_
 refine w_seq ?_
 refine w_run mo (by rw [hN]; decide) fun K hK => ?_
 simp [-guardE_b, -Is_at, -Is_at', -Ls_at, -Ls_at', eL, eI, allInts, eP_Cat, eP_Fn, eP_Mnd, eP_Tra, Cat.cells, Fn.cells, Mnd.cells, Tra.cells]
 repeat (with_reducible refine And.intro ?_ ?_; · first | assumption | omega | (simp; done) | (simp; omega) | simp_all)
 replace h := bind_some h
 obtain ⟨v6, hv6, h⟩ := h
 refine callA_intro (w_i_identity _ v6 hv6) (.cons (.preT (by simp [Cat.cells, Fn.cells, Mnd.cells])) .nil) ?_
 simp [-guardE_b, -Is_at, -Is_at', -Ls_at, -Ls_at', unk, unA, unE, unT, unC, flat, eL, eI, allInts, eP_Cat, eP_Fn, eP_Mnd, eP_Tra, Cat.cells, Fn.cells, Mnd.cells, Tra.cells]
 repeat (with_reducible refine And.intro ?_ ?_; · first | assumption | omega | (simp; done) | (simp; omega) | simp_all)
 replace h := bind_some h
 obtain ⟨v7, hv7, h⟩ := h
 refine callA_intro (w_i_Functor_then _ _ v7 hv7) (.cons (.preT (by simp [Cat.cells, Fn.cells, Mnd.cells])) (.cons (.preT (by simp [Cat.cells, Fn.cells, Mnd.cells])) .nil)) ?_
 simp [-guardE_b, -Is_at, -Is_at', -Ls_at, -Ls_at', unk, unA, unE, unT, unC, flat, eL, eI, allInts, eP_Cat, eP_Fn, eP_Mnd, eP_Tra, Cat.cells, Fn.cells, Mnd.cells, Tra.cells]
 repeat (with_reducible refine And.intro ?_ ?_; · first | assumption | omega | (simp; done) | (simp; omega) | simp_all)
 refine hK _ ?_
 clear hK K
 refine tn ?_
 refine w_weak (st' := ⟨[(0, .rptr (Mnd.cells true m_)), (3, .adr 0 0 0), (4, .adr 11 0 0)], [(0, .mix 12 [[.val (.int .i64 v6.s.n), .own 1 0 v6.s.fr.length, .own 2 0 v6.s.to.length, .own 3 0 v6.s.id.length, .own 4 0 v6.s.cs.length, .val (.int .i64 v6.t.n), .own 5 0 v6.t.fr.length, .own 6 0 v6.t.to.length, .own 7 0 v6.t.id.length, .own 8 0 v6.t.cs.length, .own 9 0 v6.ob.length, .own 10 0 v6.ar.length]]), (1, .row 1 (Is v6.s.fr)), (2, .row 1 (Is v6.s.to)), (3, .row 1 (Is v6.s.id)), (4, .row 1 (Ls v6.s.cs)), (5, .row 1 (Is v6.t.fr)), (6, .row 1 (Is v6.t.to)), (7, .row 1 (Is v6.t.id)), (8, .row 1 (Ls v6.t.cs)), (9, .row 1 (Is v6.ob)), (10, .row 1 (Is v6.ar)), (11, .mix 12 [[.val (.int .i64 v7.s.n), .own 12 0 v7.s.fr.length, .own 13 0 v7.s.to.length, .own 14 0 v7.s.id.length, .own 15 0 v7.s.cs.length, .val (.int .i64 v7.t.n), .own 16 0 v7.t.fr.length, .own 17 0 v7.t.to.length, .own 18 0 v7.t.id.length, .own 19 0 v7.t.cs.length, .own 20 0 v7.ob.length, .own 21 0 v7.ar.length]]), (12, .row 1 (Is v7.s.fr)), (13, .row 1 (Is v7.s.to)), (14, .row 1 (Is v7.s.id)), (15, .row 1 (Ls v7.s.cs)), (16, .row 1 (Is v7.t.fr)), (17, .row 1 (Is v7.t.to)), (18, .row 1 (Is v7.t.id)), (19, .row 1 (Ls v7.t.cs)), (20, .row 1 (Is v7.ob)), (21, .row 1 (Is v7.ar))], 22⟩) (Wk.r1 [(24, 0), (1, 1), (2, 2), (3, 3), (4, 4), (6, 5), (7, 6), (8, 7), (9, 8), (10, 9), (11, 10), (25, 11), (13, 12), (14, 13), (15, 14), (16, 15), (18, 16), (19, 17), (20, 18), (21, 19), (22, 20), (23, 21)] (by simp [hP, hhOk, back, Cat.cells, Fn.cells, Mnd.cells, Tra.cells, IA, I1, LA, L1, BA, B1, EA, E1, E2, eB, eI, eL])) ?_
 refine w_seq ?_
 refine w_run mo (by rw [hN]; decide) fun K hK => ?_
 simp [-guardE_b, -Is_at, -Is_at', -Ls_at, -Ls_at', eL, eI, allInts, eP_Cat, eP_Fn, eP_Mnd, eP_Tra, Cat.cells, Fn.cells, Mnd.cells, Tra.cells]
 repeat (with_reducible refine And.intro ?_ ?_; · first | assumption | omega | (simp; done) | (simp; omega) | simp_all)
 refine hK _ ?_
 clear hK K
 refine tn ?_
 refine w_weak (st' := ⟨[(0, .rptr (Mnd.cells true m_)), (4, .adr 0 0 0), (5, .adr 11 0 0)], [(0, .mix 12 [[.val (.int .i64 v7.s.n), .own 1 0 v7.s.fr.length, .own 2 0 v7.s.to.length, .own 3 0 v7.s.id.length, .own 4 0 v7.s.cs.length, .val (.int .i64 v7.t.n), .own 5 0 v7.t.fr.length, .own 6 0 v7.t.to.length, .own 7 0 v7.t.id.length, .own 8 0 v7.t.cs.length, .own 9 0 v7.ob.length, .own 10 0 v7.ar.length]]), (1, .row 1 (Is v7.s.fr)), (2, .row 1 (Is v7.s.to)), (3, .row 1 (Is v7.s.id)), (4, .row 1 (Ls v7.s.cs)), (5, .row 1 (Is v7.t.fr)), (6, .row 1 (Is v7.t.to)), (7, .row 1 (Is v7.t.id)), (8, .row 1 (Ls v7.t.cs)), (9, .row 1 (Is v7.ob)), (10, .row 1 (Is v7.ar)), (11, .mix 25 [[.val (.int .i64 v6.s.n), .own 12 0 v6.s.fr.length, .own 13 0 v6.s.to.length, .own 14 0 v6.s.id.length, .own 15 0 v6.s.cs.length, .val (.int .i64 v6.t.n), .own 16 0 v6.t.fr.length, .own 17 0 v6.t.to.length, .own 18 0 v6.t.id.length, .own 19 0 v6.t.cs.length, .own 20 0 v6.ob.length, .own 21 0 v6.ar.length, .val (.int .i64 m_.f.s.n), .lst true 1 (Is m_.f.s.fr), .lst true 1 (Is m_.f.s.to), .lst true 1 (Is m_.f.s.id), .lst true 1 (Ls m_.f.s.cs), .val (.int .i64 m_.f.t.n), .lst true 1 (Is m_.f.t.fr), .lst true 1 (Is m_.f.t.to), .lst true 1 (Is m_.f.t.id), .lst true 1 (Ls m_.f.t.cs), .lst true 1 (Is m_.f.ob), .lst true 1 (Is m_.f.ar), .lst true 1 (Is m_.u)]]), (12, .row 1 (Is v6.s.fr)), (13, .row 1 (Is v6.s.to)), (14, .row 1 (Is v6.s.id)), (15, .row 1 (Ls v6.s.cs)), (16, .row 1 (Is v6.t.fr)), (17, .row 1 (Is v6.t.to)), (18, .row 1 (Is v6.t.id)), (19, .row 1 (Ls v6.t.cs)), (20, .row 1 (Is v6.ob)), (21, .row 1 (Is v6.ar))], 22⟩) (Wk.r1 [(11, 0), (12, 1), (13, 2), (14, 3), (15, 4), (16, 5), (17, 6), (18, 7), (19, 8), (20, 9), (21, 10), (22, 11), (1, 12), (2, 13), (3, 14), (4, 15), (5, 16), (6, 17), (7, 18), (8, 19), (9, 20), (10, 21)] (by simp [hP, hhOk, back, Cat.cells, Fn.cells, Mnd.cells, Tra.cells, IA, I1, LA, L1, BA, B1, EA, E1, E2, eB, eI, eL])) ?_
 refine w_seq ?_
 refine w_run mo (by rw [hN]; decide) fun K hK => ?_
 simp [-guardE_b, -Is_at, -Is_at', -Ls_at, -Ls_at', eL, eI, allInts, eP_Cat, eP_Fn, eP_Mnd, eP_Tra, Cat.cells, Fn.cells, Mnd.cells, Tra.cells]
 repeat (with_reducible refine And.intro ?_ ?_; · first | assumption | omega | (simp; done) | (simp; omega) | simp_all)
 refine hK _ ?_
 clear hK K
 refine tn ?_
 refine w_weak (st' := ⟨[(0, .rptr (Mnd.cells true m_)), (5, .adr 0 0 0), (6, .adr 11 0 0)], [(0, .mix 25 [[.val (.int .i64 v6.s.n), .own 1 0 v6.s.fr.length, .own 2 0 v6.s.to.length, .own 3 0 v6.s.id.length, .own 4 0 v6.s.cs.length, .val (.int .i64 v6.t.n), .own 5 0 v6.t.fr.length, .own 6 0 v6.t.to.length, .own 7 0 v6.t.id.length, .own 8 0 v6.t.cs.length, .own 9 0 v6.ob.length, .own 10 0 v6.ar.length, .val (.int .i64 m_.f.s.n), .lst true 1 (Is m_.f.s.fr), .lst true 1 (Is m_.f.s.to), .lst true 1 (Is m_.f.s.id), .lst true 1 (Ls m_.f.s.cs), .val (.int .i64 m_.f.t.n), .lst true 1 (Is m_.f.t.fr), .lst true 1 (Is m_.f.t.to), .lst true 1 (Is m_.f.t.id), .lst true 1 (Ls m_.f.t.cs), .lst true 1 (Is m_.f.ob), .lst true 1 (Is m_.f.ar), .lst true 1 (Is m_.u)]]), (1, .row 1 (Is v6.s.fr)), (2, .row 1 (Is v6.s.to)), (3, .row 1 (Is v6.s.id)), (4, .row 1 (Ls v6.s.cs)), (5, .row 1 (Is v6.t.fr)), (6, .row 1 (Is v6.t.to)), (7, .row 1 (Is v6.t.id)), (8, .row 1 (Ls v6.t.cs)), (9, .row 1 (Is v6.ob)), (10, .row 1 (Is v6.ar)), (11, .mix 25 [[.val (.int .i64 v7.s.n), .own 12 0 v7.s.fr.length, .own 13 0 v7.s.to.length, .own 14 0 v7.s.id.length, .own 15 0 v7.s.cs.length, .val (.int .i64 v7.t.n), .own 16 0 v7.t.fr.length, .own 17 0 v7.t.to.length, .own 18 0 v7.t.id.length, .own 19 0 v7.t.cs.length, .own 20 0 v7.ob.length, .own 21 0 v7.ar.length, .val (.int .i64 m_.f.s.n), .lst true 1 (Is m_.f.s.fr), .lst true 1 (Is m_.f.s.to), .lst true 1 (Is m_.f.s.id), .lst true 1 (Ls m_.f.s.cs), .val (.int .i64 m_.f.t.n), .lst true 1 (Is m_.f.t.fr), .lst true 1 (Is m_.f.t.to), .lst true 1 (Is m_.f.t.id), .lst true 1 (Ls m_.f.t.cs), .lst true 1 (Is m_.f.ob), .lst true 1 (Is m_.f.ar), .lst true 1 (Is m_.j)]]), (12, .row 1 (Is v7.s.fr)), (13, .row 1 (Is v7.s.to)), (14, .row 1 (Is v7.s.id)), (15, .row 1 (Ls v7.s.cs)), (16, .row 1 (Is v7.t.fr)), (17, .row 1 (Is v7.t.to)), (18, .row 1 (Is v7.t.id)), (19, .row 1 (Ls v7.t.cs)), (20, .row 1 (Is v7.ob)), (21, .row 1 (Is v7.ar))], 22⟩) (Wk.r1 [(11, 0), (12, 1), (13, 2), (14, 3), (15, 4), (16, 5), (17, 6), (18, 7), (19, 8), (20, 9), (21, 10), (22, 11), (1, 12), (2, 13), (3, 14), (4, 15), (5, 16), (6, 17), (7, 18), (8, 19), (9, 20), (10, 21)] (by simp [hP, hhOk, back, Cat.cells, Fn.cells, Mnd.cells, Tra.cells, IA, I1, LA, L1, BA, B1, EA, E1, E2, eB, eI, eL])) ?_
 refine w_seq ?_
 replace h := bind_some h
 obtain ⟨e8, h, h8⟩ := h
 refine w_joinT (fun b8 : Bool => ⟨[(2, .val (.bool b8))], [], 0⟩) (fun b8 => b8 = e8) ?_ ?_
 · refine w_run mo (by rw [hN]; decide) fun K hK => ?_
   simp [-guardE_b, -Is_at, -Is_at', -Ls_at, -Ls_at', eL, eI, allInts, eP_Cat, eP_Fn, eP_Mnd, eP_Tra, Cat.cells, Fn.cells, Mnd.cells, Tra.cells]
   repeat (with_reducible refine And.intro ?_ ?_; · first | assumption | omega | (simp; done) | (simp; omega) | simp_all)
   replace h := bind_some h
   obtain ⟨v9, hv9, h⟩ := h
   refine callA_intro (w_i_areNatural _ v9 hv9) (.cons (.lits (es := _) rfl (.cons rfl (.cons (.field rfl (by simp [Cat.cells, Fn.cells, Mnd.cells, Tra.cells]) (.cons .val (.cons (.whole (by simp) (by simp) (by simp)) (.cons (.whole (by simp) (by simp) (by simp)) (.cons (.whole (by simp) (by simp) (by simp)) (.cons (.whole (by simp) (by simp) (by simp)) (.cons .val (.cons (.whole (by simp) (by simp) (by simp)) (.cons (.whole (by simp) (by simp) (by simp)) (.cons (.whole (by simp) (by simp) (by simp)) (.cons (.whole (by simp) (by simp) (by simp)) (.cons (.whole (by simp) (by simp) (by simp)) (.cons (.whole (by simp) (by simp) (by simp)) (.cons .val (.cons .lst (.cons .lst (.cons .lst (.cons .lst (.cons .val (.cons .lst (.cons .lst (.cons .lst (.cons .lst (.cons .lst (.cons .lst (.cons .lst .nil)))))))))))))))))))))))))) .nil) (.cons rfl (.cons (.field rfl (by simp [Cat.cells, Fn.cells, Mnd.cells, Tra.cells]) (.cons .val (.cons (.whole (by simp) (by simp) (by simp)) (.cons (.whole (by simp) (by simp) (by simp)) (.cons (.whole (by simp) (by simp) (by simp)) (.cons (.whole (by simp) (by simp) (by simp)) (.cons .val (.cons (.whole (by simp) (by simp) (by simp)) (.cons (.whole (by simp) (by simp) (by simp)) (.cons (.whole (by simp) (by simp) (by simp)) (.cons (.whole (by simp) (by simp) (by simp)) (.cons (.whole (by simp) (by simp) (by simp)) (.cons (.whole (by simp) (by simp) (by simp)) (.cons .val (.cons .lst (.cons .lst (.cons .lst (.cons .lst (.cons .val (.cons .lst (.cons .lst (.cons .lst (.cons .lst (.cons .lst (.cons .lst (.cons .lst .nil)))))))))))))))))))))))))) .nil) .nil)) rfl) .nil) ?_
   simp [-guardE_b, -Is_at, -Is_at', -Ls_at, -Ls_at', unk, unA, unE, unT, unC, flat, eL, eI, allInts, eP_Cat, eP_Fn, eP_Mnd, eP_Tra, Cat.cells, Fn.cells, Mnd.cells, Tra.cells]
   repeat (with_reducible refine And.intro ?_ ?_; · first | assumption | omega | (simp; done) | (simp; omega) | simp_all)
   refine guard_intro (fun g => ?_) (fun g => ?_)
   · have g10 : v9 = true := by first | simpa using g | (simp at g; exact g) | (simp at g; omega)
     clear g
     replace h := if_l g10 h
     simp [-guardE_b, -Is_at, -Is_at', -Ls_at, -Ls_at', eL, eI, allInts, eP_Cat, eP_Fn, eP_Mnd, eP_Tra, Cat.cells, Fn.cells, Mnd.cells, Tra.cells]
     repeat (with_reducible refine And.intro ?_ ?_; · first | assumption | omega | (simp; done) | (simp; omega) | simp_all)
     replace h := bind_some h
     obtain ⟨v11, hv11, h⟩ := h
     refine callA_intro (w_i_Monad_isLawful _ v11 hv11) (.cons (.preT (by simp [Cat.cells, Fn.cells, Mnd.cells, Tra.cells])) .nil) ?_
     simp [-guardE_b, -Is_at, -Is_at', -Ls_at, -Ls_at', unk, unA, unE, unT, unC, flat, eL, eI, allInts, eP_Cat, eP_Fn, eP_Mnd, eP_Tra, Cat.cells, Fn.cells, Mnd.cells, Tra.cells]
     repeat (with_reducible refine And.intro ?_ ?_; · first | assumption | omega | (simp; done) | (simp; omega) | simp_all)
     refine hK _ ?_
     exact jn (b := v11) (Option.some.inj h) (Wk.r1 [] (by simp [hP, hhOk, back, Cat.cells, Fn.cells, Mnd.cells, Tra.cells, IA, I1, LA, L1, BA, B1, EA, E1, E2, eB, eI, eL]))
   have g10 : ¬ (v9 = true) := by first | simpa using g | (simp at g; exact g) | (simp at g; omega)
   clear g
   replace h := if_r g10 h
   simp [-guardE_b, -Is_at, -Is_at', -Ls_at, -Ls_at', eL, eI, allInts, eP_Cat, eP_Fn, eP_Mnd, eP_Tra, Cat.cells, Fn.cells, Mnd.cells, Tra.cells]
   repeat (with_reducible refine And.intro ?_ ?_; · first | assumption | omega | (simp; done) | (simp; omega) | simp_all)
   refine hK _ ?_
   exact jn (b := false) (Option.some.inj h) (Wk.r1 [] (by simp [hP, hhOk, back, Cat.cells, Fn.cells, Mnd.cells, Tra.cells, IA, I1, LA, L1, BA, B1, EA, E1, E2, eB, eI, eL]))
 intro b8 hb8
 have h := h8
 rw [← hb8] at h
 clear h8
 try dsimp only at h
 refine w_ret ?_
 have hr := Option.some.inj h
 rw [← hr]
 refine ⟨_, (.tmp .nil), ?_⟩
 refine ⟨(.one rfl rfl .nil), [.val (.bool b8)], [], by simp [Cat.cells, Fn.cells, Mnd.cells, Tra.cells, IA, I1, LA, L1, BA, B1, EA, E1, E2, eB, eI, eL], by simp, (UpL.refl _)⟩
end Go.Vc.T

set_option maxRecDepth 100000
set_option linter.unusedSimpArgs false
set_option linter.unusedVariables false
namespace Go.Vc.T
open Go Go.Vc Go.Proofs
noncomputable def s_i_monadsCode (m_ : Mnd) (n_ : Mnd) : Option Int :=
 (
   (s_i_Monad_isMonad m_).bind fun v2 =>
   if ¬ (v2 = true) then
     some true
   else
     (s_i_Monad_isMonad n_).bind fun v4 =>
     some (!v4) : Option (Bool)).bind fun b1 =>
 if b1 = true then
   some 1
 else
   (s_i_sameCategory m_.f.s n_.f.s).bind fun v6 =>
   if ¬ (v6 = true) then
     some 5
   else
     some 0
set_option maxHeartbeats 4000000 in
theorem w_i_monadsCode (m_ : Mnd) (n_ : Mnd) (r : Int) (h : s_i_monadsCode m_ n_ = some r) : Contract Try.prog 148 [.rptr (m_.cells true), .rptr (n_.cells true)] (.val (.int .i64 r)) := by
 refine contract_introG (rvs := [.tmp 4]) (rs := [.val (.int .i64 r)]) Try.func148 rfl rfl rfl rfl (by simp [Try.f148]) fun F hN hP => ?_
 unfold s_i_monadsCode at h
 refine w_seq ?_
 refine w_run mo (by rw [hN]; decide) fun K hK => ?_
 simp [-guardE_b, -Is_at, -Is_at', -Ls_at, -Ls_at', eL, eI, allInts, eP_Cat, eP_Mnd, Cat.cells, Mnd.cells]
 repeat (with_reducible refine And.intro ?_ ?_; · first | assumption | omega | (simp; done) | (simp; omega) | simp_all)
 refine hK _ ?_
 clear hK K
 refine tn ?_
 refine w_weak (st' := ⟨[(0, .rptr (Mnd.cells true m_)), (1, .rptr (Mnd.cells true n_))], [], 0⟩) (Wk.r1 [] (by simp [hP, hhOk, back, Cat.cells, Mnd.cells, IA, I1, LA, L1, BA, B1, EA, E1, E2, eB, eI, eL])) ?_
 refine w_seq ?_
 refine w_seq ?_
 replace h := bind_some h
 obtain ⟨e1, h, h1⟩ := h
 refine w_joinT (fun b1 : Bool => ⟨[(0, .rptr (Mnd.cells true m_)), (1, .rptr (Mnd.cells true n_)), (12, .val (.bool b1))], [], 0⟩) (fun b1 => b1 = e1) ?_ ?_
 · refine w_run mo (by rw [hN]; decide) fun K hK => ?_
   simp [-guardE_b, -Is_at, -Is_at', -Ls_at, -Ls_at', eL, eI, allInts, eP_Cat, eP_Mnd, Cat.cells, Mnd.cells]
   repeat (with_reducible refine And.intro ?_ ?_; · first | assumption | omega | (simp; done) | (simp; omega) | simp_all)
   replace h := bind_some h
   obtain ⟨v2, hv2, h⟩ := h
   refine callA_intro (w_i_Monad_isMonad _ v2 hv2) (.cons (.preT (by simp [Mnd.cells])) .nil) ?_
   simp [-guardE_b, -Is_at, -Is_at', -Ls_at, -Ls_at', unk, unA, unE, unT, unC, flat, eL, eI, allInts, eP_Cat, eP_Mnd, Cat.cells, Mnd.cells]
   repeat (with_reducible refine And.intro ?_ ?_; · first | assumption | omega | (simp; done) | (simp; omega) | simp_all)
   refine guard_intro (fun g => ?_) (fun g => ?_)
   · have g3 : ¬ (¬ (v2 = true)) := by first | simpa using g | (simp at g; exact g) | (simp at g; omega)
     clear g
     replace h := if_r g3 h
     simp [-guardE_b, -Is_at, -Is_at', -Ls_at, -Ls_at', eL, eI, allInts, eP_Cat, eP_Mnd, Cat.cells, Mnd.cells]
     repeat (with_reducible refine And.intro ?_ ?_; · first | assumption | omega | (simp; done) | (simp; omega) | simp_all)
     replace h := bind_some h
     obtain ⟨v4, hv4, h⟩ := h
     refine callA_intro (w_i_Monad_isMonad _ v4 hv4) (.cons (.preT (by simp [Mnd.cells])) .nil) ?_
     simp [-guardE_b, -Is_at, -Is_at', -Ls_at, -Ls_at', unk, unA, unE, unT, unC, flat, eL, eI, allInts, eP_Cat, eP_Mnd, Cat.cells, Mnd.cells]
     repeat (with_reducible refine And.intro ?_ ?_; · first | assumption | omega | (simp; done) | (simp; omega) | simp_all)
     refine hK _ ?_
     exact jn (b := !v4) (Option.some.inj h) (Wk.r1 [] (by simp [hP, hhOk, back, Cat.cells, Mnd.cells, IA, I1, LA, L1, BA, B1, EA, E1, E2, eB, eI, eL]))
   have g3 : ¬ (v2 = true) := by first | simpa using g | (simp at g; exact g) | (simp at g; omega)
   clear g
   replace h := if_l g3 h
   simp [-guardE_b, -Is_at, -Is_at', -Ls_at, -Ls_at', eL, eI, allInts, eP_Cat, eP_Mnd, Cat.cells, Mnd.cells]
   repeat (with_reducible refine And.intro ?_ ?_; · first | assumption | omega | (simp; done) | (simp; omega) | simp_all)
   refine hK _ ?_
   exact jn (b := true) (Option.some.inj h) (Wk.r1 [] (by simp [hP, hhOk, back, Cat.cells, Mnd.cells, IA, I1, LA, L1, BA, B1, EA, E1, E2, eB, eI, eL]))
 intro b1 hb1
 have h := h1
 rw [← hb1] at h
 clear h1
 try dsimp only at h
 refine w_cond rfl (fun g => ?_) fun g => ?_
 · have g5 : b1 = true := by first | simpa using g | (simp at g; exact g) | (simp at g; omega)
   clear g
   replace h := if_l g5 h
   refine w_seq ?_
   refine w_run mo (by rw [hN]; decide) fun K hK => ?_
   simp [-guardE_b, -Is_at, -Is_at', -Ls_at, -Ls_at', eL, eI, allInts, eP_Cat, eP_Mnd, Cat.cells, Mnd.cells]
   repeat (with_reducible refine And.intro ?_ ?_; · first | assumption | omega | (simp; done) | (simp; omega) | simp_all)
   refine hK _ ?_
   clear hK K
   refine tn ?_
   refine w_weak (st' := ⟨[(4, .val (.int .i64 1))], [], 0⟩) (Wk.r1 [] (by simp [hP, hhOk, back, Cat.cells, Mnd.cells, IA, I1, LA, L1, BA, B1, EA, E1, E2, eB, eI, eL])) ?_
   refine w_ret ?_
   refine tr ?_
   have hr := Option.some.inj h
   rw [← hr]
   refine ⟨_, (.tmp .nil), ?_⟩
   refine ⟨(.one rfl rfl .nil), [.val (.int .i64 1)], [], by simp [Cat.cells, Mnd.cells, IA, I1, LA, L1, BA, B1, EA, E1, E2, eB, eI, eL], by simp, (UpL.refl _)⟩
 have g5 : ¬ (b1 = true) := by first | simpa using g | (simp at g; exact g) | (simp at g; omega)
 clear g
 replace h := if_r g5 h
 refine w_skip ?_
 refine tn ?_
 refine w_seq ?_
 refine w_seq ?_
 refine w_run mo (by rw [hN]; decide) fun K hK => ?_
 simp [-guardE_b, -Is_at, -Is_at', -Ls_at, -Ls_at', eL, eI, allInts, eP_Cat, eP_Mnd, Cat.cells, Mnd.cells]
 repeat (with_reducible refine And.intro ?_ ?_; · first | assumption | omega | (simp; done) | (simp; omega) | simp_all)
 replace h := bind_some h
 obtain ⟨v6, hv6, h⟩ := h
 refine callA_intro (w_i_sameCategory _ _ v6 hv6) (.cons (.preT (by simp [Cat.cells, Mnd.cells])) (.cons (.preT (by simp [Cat.cells, Mnd.cells])) .nil)) ?_
 simp [-guardE_b, -Is_at, -Is_at', -Ls_at, -Ls_at', unk, unA, unE, unT, unC, flat, eL, eI, allInts, eP_Cat, eP_Mnd, Cat.cells, Mnd.cells]
 repeat (with_reducible refine And.intro ?_ ?_; · first | assumption | omega | (simp; done) | (simp; omega) | simp_all)
 refine hK _ ?_
 clear hK K
 refine tn ?_
 refine w_weak (st' := ⟨[(22, .val (.bool (!v6)))], [], 0⟩) (Wk.r1 [] (by simp [hP, hhOk, back, Cat.cells, Mnd.cells, IA, I1, LA, L1, BA, B1, EA, E1, E2, eB, eI, eL])) ?_
 refine w_cond rfl (fun g => ?_) fun g => ?_
 · have g7 : ¬ (v6 = true) := by first | simpa using g | (simp at g; exact g) | (simp at g; omega)
   clear g
   replace h := if_l g7 h
   refine w_seq ?_
   refine w_run mo (by rw [hN]; decide) fun K hK => ?_
   simp [-guardE_b, -Is_at, -Is_at', -Ls_at, -Ls_at', eL, eI, allInts, eP_Cat, eP_Mnd, Cat.cells, Mnd.cells]
   repeat (with_reducible refine And.intro ?_ ?_; · first | assumption | omega | (simp; done) | (simp; omega) | simp_all)
   refine hK _ ?_
   clear hK K
   refine tn ?_
   refine w_weak (st' := ⟨[(4, .val (.int .i64 5))], [], 0⟩) (Wk.r1 [] (by simp [hP, hhOk, back, Cat.cells, Mnd.cells, IA, I1, LA, L1, BA, B1, EA, E1, E2, eB, eI, eL])) ?_
   refine w_ret ?_
   refine tr ?_
   have hr := Option.some.inj h
   rw [← hr]
   refine ⟨_, (.tmp .nil), ?_⟩
   refine ⟨(.one rfl rfl .nil), [.val (.int .i64 5)], [], by simp [Cat.cells, Mnd.cells, IA, I1, LA, L1, BA, B1, EA, E1, E2, eB, eI, eL], by simp, (UpL.refl _)⟩
 have g7 : ¬ (¬ (v6 = true)) := by first | simpa using g | (simp at g; exact g) | (simp at g; omega)
 clear g
 replace h := if_r g7 h
 refine w_skip ?_
 refine tn ?_
 refine w_seq ?_
 refine w_run mo (by rw [hN]; decide) fun K hK => ?_
 simp [-guardE_b, -Is_at, -Is_at', -Ls_at, -Ls_at', eL, eI, allInts, eP_Cat, eP_Mnd, Cat.cells, Mnd.cells]
 repeat (with_reducible refine And.intro ?_ ?_; · first | assumption | omega | (simp; done) | (simp; omega) | simp_all)
 refine hK _ ?_
 clear hK K
 refine tn ?_
 refine w_weak (st' := ⟨[(4, .val (.int .i64 0))], [], 0⟩) (Wk.r1 [] (by simp [hP, hhOk, back, Cat.cells, Mnd.cells, IA, I1, LA, L1, BA, B1, EA, E1, E2, eB, eI, eL])) ?_
 refine w_ret ?_
 have hr := Option.some.inj h
 rw [← hr]
 refine ⟨_, (.tmp .nil), ?_⟩
 refine ⟨(.one rfl rfl .nil), [.val (.int .i64 0)], [], by simp [Cat.cells, Mnd.cells, IA, I1, LA, L1, BA, B1, EA, E1, E2, eB, eI, eL], by simp, (UpL.refl _)⟩
end Go.Vc.T

set_option maxRecDepth 100000
set_option linter.unusedSimpArgs false
set_option linter.unusedVariables false
namespace Go.Vc.T
open Go Go.Vc Go.Proofs
structure Adj.Pre (a : Adj) : Prop where
 hl : a.l.Is
 hr : a.r.Is
 e1 : a.l.t = a.r.s
 e2 : a.r.t = a.l.s
 n1 : NatT (selfF a.l.s) (thenF a.l a.r) a.u
 n2 : NatT (thenF a.r a.l) (selfF a.l.t) a.k
structure Adj.Is (a : Adj) : Prop where
 pre : a.Pre
 t1 : ∀ x : Nat, x < a.l.ob.length → ix (rx a.l.t.cs (ix a.l.ar (ix a.u x))) (ix a.k (ix a.l.ob x)) = ix a.l.t.id (ix a.l.ob x)
 t2 : ∀ y : Nat, y < a.r.ob.length → ix (rx a.l.s.cs (ix a.u (ix a.r.ob y))) (ix a.r.ar (ix a.k y)) = ix a.l.s.id (ix a.r.ob y)
theorem e_l02Unit {c : Cat} (hc : c.Is) {f : Int} (h0 : 0 ≤ f) (h1 : f < c.fr.length) : s_s_l02Unit c f = some (bo (f = ix c.id (ix c.fr f))) := by
 have := hc.1.fr' h0 h1
 unfold s_s_l02Unit
 rw [ass_pos ⟨h0, h1⟩, ass_pos this]
 by_cases h : ix c.id (ix c.fr f) = f
 · rw [bo_pos h.symm]; simp [h]
 rw [bo_neg (fun q => h q.symm)]; simp [h]
theorem tra_is {f g : Fn} {p : List Int} (h : Para f g) : (⟨f, g, p⟩ : Tra).Is ↔ NatT f g p := ⟨fun q => q.n, fun q => ⟨h, q⟩⟩
end Go.Vc.T

set_option maxRecDepth 100000
set_option linter.unusedSimpArgs false
set_option linter.unusedVariables false
namespace Go.Vc.T
open Go Go.Vc Go.Proofs
noncomputable def s_i_ComposeMonads (s_ : Mnd) (t_ : Mnd) (law_ : List Int) : Option (Mnd × Int) :=
 (s_i_monadsCode s_ t_).bind fun v1 =>
 if ¬ (v1 = 0) then
   some ((⟨(⟨(⟨0, [], [], [], []⟩ : Cat), (⟨0, [], [], [], []⟩ : Cat), [], []⟩ : Fn), [], []⟩ : Mnd), v1)
 else
   (s_i_isLaw s_ t_ law_).bind fun v3 =>
   if ¬ (v3 = true) then
     some ((⟨(⟨(⟨0, [], [], [], []⟩ : Cat), (⟨0, [], [], [], []⟩ : Cat), [], []⟩ : Fn), [], []⟩ : Mnd), 4)
   else
     (s_i_Functor_then s_.f t_.f).bind fun v5 =>
     (loopF (σ := List Int × List Int × Int) (ε := List Int × List Int) (fun s23 =>
       if s23.2.2 < (s_.f.ob.length : Int) then
         ass (0 ≤ s23.2.2 ∧ s23.2.2 < (s_.f.ob.length : Int)) <|
         ass (0 ≤ s23.2.2 ∧ s23.2.2 < (s_.u.length : Int)) <|
         ass (0 ≤ ix s_.f.ob s23.2.2 ∧ ix s_.f.ob s23.2.2 < (t_.u.length : Int)) <|
         (s_i_Category_then s_.f.s (ix s_.u s23.2.2) (ix t_.u (ix s_.f.ob s23.2.2))).bind fun v28 =>
         ass ((s23.1 ++ [v28]).length ≤ 1073741824) <|
         ass (0 ≤ ix s_.f.ob s23.2.2 ∧ ix s_.f.ob s23.2.2 < (law_.length : Int)) <|
         (s_i_Monad_arrow t_ (ix law_ (ix s_.f.ob s23.2.2))).bind fun v31 =>
         (s_i_Monad_object s_ (ix s_.f.ob s23.2.2)).bind fun v32 =>
         ass (0 ≤ v32 ∧ v32 < (t_.j.length : Int)) <|
         (s_i_Category_then s_.f.s v31 (ix t_.j v32)).bind fun v34 =>
         ass (0 ≤ s23.2.2 ∧ s23.2.2 < (s_.j.length : Int)) <|
         (s_i_Monad_arrow t_ (ix s_.j s23.2.2)).bind fun v36 =>
         (s_i_Category_then s_.f.s v34 v36).bind fun v37 =>
         ass ((s23.2.1 ++ [v37]).length ≤ 1073741824) <|
         ass (B64 (s23.2.2 + 1)) <|
         some (Ctl.next (s23.1 ++ [v28], s23.2.1 ++ [v37], s23.2.2 + 1))
       else
         some (Ctl.ret (s23.1, s23.2.1))) fuel ([], [], 0)).bind fun b6 =>
     (s_i_monad v5 b6.1 b6.2).bind fun v40 =>
     some (v40, 0)
set_option maxHeartbeats 4000000 in
theorem w_i_ComposeMonads (s_ : Mnd) (t_ : Mnd) (law_ : List Int) (r : Mnd × Int) (h : s_i_ComposeMonads s_ t_ law_ = some r) : Contract Try.prog 66 [.agg (s_.cells true), .agg (t_.cells true), .lst true 1 (Is law_)] (.tup [.agg (r.1.cells true), .val (.int .i64 r.2)]) := by
 refine contract_introG (rvs := [.cell 6 50, .tmp 7]) (rs := [.agg (r.1.cells true), .val (.int .i64 r.2)]) Try.func66 rfl rfl rfl rfl (by simp [Try.f66]) fun F hN hP => ?_
 unfold s_i_ComposeMonads at h
 refine w_seq ?_
 refine w_run mo (by rw [hN]; decide) fun K hK => ?_
 simp [-guardE_b, -Is_at, -Is_at', -Ls_at, -Ls_at', eL, eI, allInts, eP_Cat, eP_Fn, eP_Mnd, Cat.cells, Fn.cells, Mnd.cells]
 repeat (with_reducible refine And.intro ?_ ?_; · first | assumption | omega | (simp; done) | (simp; omega) | simp_all)
 refine hK _ ?_
 clear hK K
 refine tn ?_
 refine w_weak (st' := ⟨[(2, .lst true 1 (Is law_)), (3, .adr 0 0 0), (4, .adr 1 0 0), (6, .adr 2 0 0)], [(0, .mix 14 [(Mnd.cells true s_)]), (1, .mix 14 [(Mnd.cells true t_)]), (2, .mix 14 [[.val (.int .i64 0), .val (.slice none 0 0), .val (.slice none 0 0), .val (.slice none 0 0), .val (.slice none 0 0), .val (.int .i64 0), .val (.slice none 0 0), .val (.slice none 0 0), .val (.slice none 0 0), .val (.slice none 0 0), .val (.slice none 0 0), .val (.slice none 0 0), .val (.slice none 0 0), .val (.slice none 0 0)]])], 3⟩) (Wk.r1 [(0, 0), (1, 1), (2, 2)] (by simp [hP, hhOk, back, Cat.cells, Fn.cells, Mnd.cells, IA, I1, LA, L1, BA, B1, EA, E1, E2, eB, eI, eL])) ?_
 refine w_seq ?_
 refine w_seq ?_
 refine w_run mo (by rw [hN]; decide) fun K hK => ?_
 simp [-guardE_b, -Is_at, -Is_at', -Ls_at, -Ls_at', eL, eI, allInts, eP_Cat, eP_Fn, eP_Mnd, Cat.cells, Fn.cells, Mnd.cells]
 repeat (with_reducible refine And.intro ?_ ?_; · first | assumption | omega | (simp; done) | (simp; omega) | simp_all)
 replace h := bind_some h
 obtain ⟨v1, hv1, h⟩ := h
 refine callA_intro (w_i_monadsCode _ _ v1 hv1) (.cons (.field rfl (by simp [Mnd.cells]) (.cons .val (.cons .lst (.cons .lst (.cons .lst (.cons .lst (.cons .val (.cons .lst (.cons .lst (.cons .lst (.cons .lst (.cons .lst (.cons .lst (.cons .lst (.cons .lst .nil))))))))))))))) (.cons (.field rfl (by simp [Mnd.cells]) (.cons .val (.cons .lst (.cons .lst (.cons .lst (.cons .lst (.cons .val (.cons .lst (.cons .lst (.cons .lst (.cons .lst (.cons .lst (.cons .lst (.cons .lst (.cons .lst .nil))))))))))))))) .nil)) ?_
 simp [-guardE_b, -Is_at, -Is_at', -Ls_at, -Ls_at', unk, unA, unE, unT, unC, flat, eL, eI, allInts, eP_Cat, eP_Fn, eP_Mnd, Cat.cells, Fn.cells, Mnd.cells]
 repeat (with_reducible refine And.intro ?_ ?_; · first | assumption | omega | (simp; done) | (simp; omega) | simp_all)
 refine hK _ ?_
 clear hK K
 refine tn ?_
 refine w_weak (st' := ⟨[(2, .lst true 1 (Is law_)), (3, .adr 0 0 0), (4, .adr 1 0 0), (6, .adr 2 0 0), (8, .val (.int .i64 v1))], [(0, .mix 14 [(Mnd.cells true s_)]), (1, .mix 14 [(Mnd.cells true t_)]), (2, .mix 14 [[.val (.int .i64 0), .val (.slice none 0 0), .val (.slice none 0 0), .val (.slice none 0 0), .val (.slice none 0 0), .val (.int .i64 0), .val (.slice none 0 0), .val (.slice none 0 0), .val (.slice none 0 0), .val (.slice none 0 0), .val (.slice none 0 0), .val (.slice none 0 0), .val (.slice none 0 0), .val (.slice none 0 0)]])], 3⟩) (Wk.r1 [(0, 0), (1, 1), (2, 2)] (by simp [hP, hhOk, back, Cat.cells, Fn.cells, Mnd.cells, IA, I1, LA, L1, BA, B1, EA, E1, E2, eB, eI, eL])) ?_
 refine w_seq ?_
 refine w_run mo (by rw [hN]; decide) fun K hK => ?_
 simp [-guardE_b, -Is_at, -Is_at', -Ls_at, -Ls_at', eL, eI, allInts, eP_Cat, eP_Fn, eP_Mnd, Cat.cells, Fn.cells, Mnd.cells]
 repeat (with_reducible refine And.intro ?_ ?_; · first | assumption | omega | (simp; done) | (simp; omega) | simp_all)
 refine hK _ ?_
 clear hK K
 refine tn ?_
 refine w_weak (st' := ⟨[(2, .lst true 1 (Is law_)), (3, .adr 0 0 0), (4, .adr 1 0 0), (6, .adr 2 0 0), (8, .val (.int .i64 v1)), (17, .val (.bool (v1 != 0)))], [(0, .mix 14 [(Mnd.cells true s_)]), (1, .mix 14 [(Mnd.cells true t_)]), (2, .mix 14 [[.val (.int .i64 0), .val (.slice none 0 0), .val (.slice none 0 0), .val (.slice none 0 0), .val (.slice none 0 0), .val (.int .i64 0), .val (.slice none 0 0), .val (.slice none 0 0), .val (.slice none 0 0), .val (.slice none 0 0), .val (.slice none 0 0), .val (.slice none 0 0), .val (.slice none 0 0), .val (.slice none 0 0)]])], 3⟩) (Wk.r1 [(0, 0), (1, 1), (2, 2)] (by simp [hP, hhOk, back, Cat.cells, Fn.cells, Mnd.cells, IA, I1, LA, L1, BA, B1, EA, E1, E2, eB, eI, eL])) ?_
 refine w_cond rfl (fun g => ?_) fun g => ?_
 · have g2 : ¬ (v1 = 0) := by first | simpa using g | (simp at g; exact g) | (simp at g; omega)
   clear g
   replace h := if_l g2 h
   refine w_seq ?_
   refine w_run mo (by rw [hN]; decide) fun K hK => ?_
   simp [-guardE_b, -Is_at, -Is_at', -Ls_at, -Ls_at', eL, eI, allInts, eP_Cat, eP_Fn, eP_Mnd, Cat.cells, Fn.cells, Mnd.cells]
   repeat (with_reducible refine And.intro ?_ ?_; · first | assumption | omega | (simp; done) | (simp; omega) | simp_all)
   refine hK _ ?_
   clear hK K
   refine tn ?_
   refine w_weak (st' := ⟨[(6, .adr 0 0 0), (7, .val (.int .i64 v1))], [(0, .mix 14 [[.val (.int .i64 0), .val (.slice none 0 0), .val (.slice none 0 0), .val (.slice none 0 0), .val (.slice none 0 0), .val (.int .i64 0), .val (.slice none 0 0), .val (.slice none 0 0), .val (.slice none 0 0), .val (.slice none 0 0), .val (.slice none 0 0), .val (.slice none 0 0), .val (.slice none 0 0), .val (.slice none 0 0)]])], 1⟩) (Wk.r1 [(2, 0)] (by simp [hP, hhOk, back, Cat.cells, Fn.cells, Mnd.cells, IA, I1, LA, L1, BA, B1, EA, E1, E2, eB, eI, eL])) ?_
   refine w_ret ?_
   refine tr ?_
   have hr := Option.some.inj h
   rw [← hr]
   refine ⟨_, (.cell tf_50 rfl rfl rfl (by simp) (by simp) (.tmp .nil)), ?_⟩
   refine ⟨(.agg rfl (.one rfl rfl .nil)), [.val (.int .i64 0), .val (.slice none 0 0), .val (.slice none 0 0), .val (.slice none 0 0), .val (.slice none 0 0), .val (.int .i64 0), .val (.slice none 0 0), .val (.slice none 0 0), .val (.slice none 0 0), .val (.slice none 0 0), .val (.slice none 0 0), .val (.slice none 0 0), .val (.slice none 0 0), .val (.slice none 0 0), .val (.int .i64 v1)], [], by simp [Cat.cells, Fn.cells, Mnd.cells, IA, I1, LA, L1, BA, B1, EA, E1, E2, eB, eI, eL], by simp, (.cons .refl (.cons .nil (.cons .nil (.cons .nil (.cons .nil (.cons .refl (.cons .nil (.cons .nil (.cons .nil (.cons .nil (.cons .nil (.cons .nil (.cons .nil (.cons .nil (.cons .refl .nil)))))))))))))))⟩
 have g2 : ¬ (¬ (v1 = 0)) := by first | simpa using g | (simp at g; exact g) | (simp at g; omega)
 clear g
 replace h := if_r g2 h
 refine w_skip ?_
 refine tn ?_
 refine w_seq ?_
 refine w_seq ?_
 refine w_run mo (by rw [hN]; decide) fun K hK => ?_
 simp [-guardE_b, -Is_at, -Is_at', -Ls_at, -Ls_at', eL, eI, allInts, eP_Cat, eP_Fn, eP_Mnd, Cat.cells, Fn.cells, Mnd.cells]
 repeat (with_reducible refine And.intro ?_ ?_; · first | assumption | omega | (simp; done) | (simp; omega) | simp_all)
 replace h := bind_some h
 obtain ⟨v3, hv3, h⟩ := h
 refine callA_intro (w_i_isLaw _ _ _ v3 hv3) (.cons (.field rfl (by simp [Mnd.cells]) (.cons .val (.cons .lst (.cons .lst (.cons .lst (.cons .lst (.cons .val (.cons .lst (.cons .lst (.cons .lst (.cons .lst (.cons .lst (.cons .lst (.cons .lst (.cons .lst .nil))))))))))))))) (.cons (.field rfl (by simp [Mnd.cells]) (.cons .val (.cons .lst (.cons .lst (.cons .lst (.cons .lst (.cons .val (.cons .lst (.cons .lst (.cons .lst (.cons .lst (.cons .lst (.cons .lst (.cons .lst (.cons .lst .nil))))))))))))))) (.cons .lst .nil))) ?_
 simp [-guardE_b, -Is_at, -Is_at', -Ls_at, -Ls_at', unk, unA, unE, unT, unC, flat, eL, eI, allInts, eP_Cat, eP_Fn, eP_Mnd, Cat.cells, Fn.cells, Mnd.cells]
 repeat (with_reducible refine And.intro ?_ ?_; · first | assumption | omega | (simp; done) | (simp; omega) | simp_all)
 refine hK _ ?_
 clear hK K
 refine tn ?_
 refine w_weak (st' := ⟨[(2, .lst true 1 (Is law_)), (3, .adr 0 0 0), (4, .adr 1 0 0), (6, .adr 2 0 0), (22, .val (.bool (!v3)))], [(0, .mix 14 [(Mnd.cells true s_)]), (1, .mix 14 [(Mnd.cells true t_)]), (2, .mix 14 [[.val (.int .i64 0), .val (.slice none 0 0), .val (.slice none 0 0), .val (.slice none 0 0), .val (.slice none 0 0), .val (.int .i64 0), .val (.slice none 0 0), .val (.slice none 0 0), .val (.slice none 0 0), .val (.slice none 0 0), .val (.slice none 0 0), .val (.slice none 0 0), .val (.slice none 0 0), .val (.slice none 0 0)]])], 3⟩) (Wk.r1 [(0, 0), (1, 1), (2, 2)] (by simp [hP, hhOk, back, Cat.cells, Fn.cells, Mnd.cells, IA, I1, LA, L1, BA, B1, EA, E1, E2, eB, eI, eL])) ?_
 refine w_cond rfl (fun g => ?_) fun g => ?_
 · have g4 : ¬ (v3 = true) := by first | simpa using g | (simp at g; exact g) | (simp at g; omega)
   clear g
   replace h := if_l g4 h
   refine w_seq ?_
   refine w_run mo (by rw [hN]; decide) fun K hK => ?_
   simp [-guardE_b, -Is_at, -Is_at', -Ls_at, -Ls_at', eL, eI, allInts, eP_Cat, eP_Fn, eP_Mnd, Cat.cells, Fn.cells, Mnd.cells]
   repeat (with_reducible refine And.intro ?_ ?_; · first | assumption | omega | (simp; done) | (simp; omega) | simp_all)
   refine hK _ ?_
   clear hK K
   refine tn ?_
   refine w_weak (st' := ⟨[(6, .adr 0 0 0), (7, .val (.int .i64 4))], [(0, .mix 14 [[.val (.int .i64 0), .val (.slice none 0 0), .val (.slice none 0 0), .val (.slice none 0 0), .val (.slice none 0 0), .val (.int .i64 0), .val (.slice none 0 0), .val (.slice none 0 0), .val (.slice none 0 0), .val (.slice none 0 0), .val (.slice none 0 0), .val (.slice none 0 0), .val (.slice none 0 0), .val (.slice none 0 0)]])], 1⟩) (Wk.r1 [(2, 0)] (by simp [hP, hhOk, back, Cat.cells, Fn.cells, Mnd.cells, IA, I1, LA, L1, BA, B1, EA, E1, E2, eB, eI, eL])) ?_
   refine w_ret ?_
   refine tr ?_
   have hr := Option.some.inj h
   rw [← hr]
   refine ⟨_, (.cell tf_50 rfl rfl rfl (by simp) (by simp) (.tmp .nil)), ?_⟩
   refine ⟨(.agg rfl (.one rfl rfl .nil)), [.val (.int .i64 0), .val (.slice none 0 0), .val (.slice none 0 0), .val (.slice none 0 0), .val (.slice none 0 0), .val (.int .i64 0), .val (.slice none 0 0), .val (.slice none 0 0), .val (.slice none 0 0), .val (.slice none 0 0), .val (.slice none 0 0), .val (.slice none 0 0), .val (.slice none 0 0), .val (.slice none 0 0), .val (.int .i64 4)], [], by simp [Cat.cells, Fn.cells, Mnd.cells, IA, I1, LA, L1, BA, B1, EA, E1, E2, eB, eI, eL], by simp, (.cons .refl (.cons .nil (.cons .nil (.cons .nil (.cons .nil (.cons .refl (.cons .nil (.cons .nil (.cons .nil (.cons .nil (.cons .nil (.cons .nil (.cons .nil (.cons .nil (.cons .refl .nil)))))))))))))))⟩
 have g4 : ¬ (¬ (v3 = true)) := by first | simpa using g | (simp at g; exact g) | (simp at g; omega)
 clear g
 replace h := if_r g4 h
 refine w_skip ?_
 refine tn ?_
 refine w_seq ?_
 refine w_run mo (by rw [hN]; decide) fun K hK => ?_
 simp [-guardE_b, -Is_at, -Is_at', -Ls_at, -Ls_at', eL, eI, allInts, eP_Cat, eP_Fn, eP_Mnd, Cat.cells, Fn.cells, Mnd.cells]
 repeat (with_reducible refine And.intro ?_ ?_; · first | assumption | omega | (simp; done) | (simp; omega) | simp_all)
 refine hK _ ?_
 clear hK K
 refine tn ?_
 refine w_weak (st' := ⟨[(2, .lst true 1 (Is law_)), (3, .adr 0 0 0), (4, .adr 1 0 0), (6, .adr 2 0 0), (9, .adr 0 0 0)], [(0, .mix 14 [(Mnd.cells true s_)]), (1, .mix 14 [(Mnd.cells true t_)]), (2, .mix 14 [[.val (.int .i64 0), .val (.slice none 0 0), .val (.slice none 0 0), .val (.slice none 0 0), .val (.slice none 0 0), .val (.int .i64 0), .val (.slice none 0 0), .val (.slice none 0 0), .val (.slice none 0 0), .val (.slice none 0 0), .val (.slice none 0 0), .val (.slice none 0 0), .val (.slice none 0 0), .val (.slice none 0 0)]])], 3⟩) (Wk.r1 [(0, 0), (1, 1), (2, 2)] (by simp [hP, hhOk, back, Cat.cells, Fn.cells, Mnd.cells, IA, I1, LA, L1, BA, B1, EA, E1, E2, eB, eI, eL])) ?_
 refine w_seq ?_
 refine w_run mo (by rw [hN]; decide) fun K hK => ?_
 simp [-guardE_b, -Is_at, -Is_at', -Ls_at, -Ls_at', eL, eI, allInts, eP_Cat, eP_Fn, eP_Mnd, Cat.cells, Fn.cells, Mnd.cells]
 repeat (with_reducible refine And.intro ?_ ?_; · first | assumption | omega | (simp; done) | (simp; omega) | simp_all)
 replace h := bind_some h
 obtain ⟨v5, hv5, h⟩ := h
 refine callA_intro (w_i_Functor_then _ _ v5 hv5) (.cons (.field rfl (by simp [Fn.cells, Mnd.cells]) (.cons .val (.cons .lst (.cons .lst (.cons .lst (.cons .lst (.cons .val (.cons .lst (.cons .lst (.cons .lst (.cons .lst (.cons .lst (.cons .lst .nil))))))))))))) (.cons (.field rfl (by simp [Fn.cells, Mnd.cells]) (.cons .val (.cons .lst (.cons .lst (.cons .lst (.cons .lst (.cons .val (.cons .lst (.cons .lst (.cons .lst (.cons .lst (.cons .lst (.cons .lst .nil))))))))))))) .nil)) ?_
 simp [-guardE_b, -Is_at, -Is_at', -Ls_at, -Ls_at', unk, unA, unE, unT, unC, flat, eL, eI, allInts, eP_Cat, eP_Fn, eP_Mnd, Cat.cells, Fn.cells, Mnd.cells]
 repeat (with_reducible refine And.intro ?_ ?_; · first | assumption | omega | (simp; done) | (simp; omega) | simp_all)
 refine hK _ ?_
 clear hK K
 refine tn ?_
 refine w_weak (st' := ⟨[(2, .lst true 1 (Is law_)), (3, .adr 0 0 0), (4, .adr 1 0 0), (6, .adr 2 0 0), (9, .adr 0 0 0), (10, .adr 3 0 0)], [(0, .mix 14 [(Mnd.cells true s_)]), (1, .mix 14 [(Mnd.cells true t_)]), (2, .mix 14 [[.val (.int .i64 0), .val (.slice none 0 0), .val (.slice none 0 0), .val (.slice none 0 0), .val (.slice none 0 0), .val (.int .i64 0), .val (.slice none 0 0), .val (.slice none 0 0), .val (.slice none 0 0), .val (.slice none 0 0), .val (.slice none 0 0), .val (.slice none 0 0), .val (.slice none 0 0), .val (.slice none 0 0)]]), (3, .mix 12 [[.val (.int .i64 v5.s.n), .own 4 0 v5.s.fr.length, .own 5 0 v5.s.to.length, .own 6 0 v5.s.id.length, .own 7 0 v5.s.cs.length, .val (.int .i64 v5.t.n), .own 8 0 v5.t.fr.length, .own 9 0 v5.t.to.length, .own 10 0 v5.t.id.length, .own 11 0 v5.t.cs.length, .own 12 0 v5.ob.length, .own 13 0 v5.ar.length]]), (4, .row 1 (Is v5.s.fr)), (5, .row 1 (Is v5.s.to)), (6, .row 1 (Is v5.s.id)), (7, .row 1 (Ls v5.s.cs)), (8, .row 1 (Is v5.t.fr)), (9, .row 1 (Is v5.t.to)), (10, .row 1 (Is v5.t.id)), (11, .row 1 (Ls v5.t.cs)), (12, .row 1 (Is v5.ob)), (13, .row 1 (Is v5.ar))], 14⟩) (Wk.r1 [(0, 0), (1, 1), (2, 2), (15, 3), (4, 4), (5, 5), (6, 6), (7, 7), (9, 8), (10, 9), (11, 10), (12, 11), (13, 12), (14, 13)] (by simp [hP, hhOk, back, Cat.cells, Fn.cells, Mnd.cells, IA, I1, LA, L1, BA, B1, EA, E1, E2, eB, eI, eL])) ?_
 refine w_seq ?_
 refine w_run mo (by rw [hN]; decide) fun K hK => ?_
 simp [-guardE_b, -Is_at, -Is_at', -Ls_at, -Ls_at', eL, eI, allInts, eP_Cat, eP_Fn, eP_Mnd, Cat.cells, Fn.cells, Mnd.cells]
 repeat (with_reducible refine And.intro ?_ ?_; · first | assumption | omega | (simp; done) | (simp; omega) | simp_all)
 refine hK _ ?_
 clear hK K
 refine tn ?_
 refine w_weak (st' := ⟨[(2, .lst true 1 (Is law_)), (3, .adr 0 0 0), (4, .adr 1 0 0), (6, .adr 2 0 0), (9, .adr 0 0 0), (10, .adr 3 0 0), (11, .own 14 0 0), (12, .own 15 0 0)], [(0, .mix 14 [(Mnd.cells true s_)]), (1, .mix 14 [(Mnd.cells true t_)]), (2, .mix 14 [[.val (.int .i64 0), .val (.slice none 0 0), .val (.slice none 0 0), .val (.slice none 0 0), .val (.slice none 0 0), .val (.int .i64 0), .val (.slice none 0 0), .val (.slice none 0 0), .val (.slice none 0 0), .val (.slice none 0 0), .val (.slice none 0 0), .val (.slice none 0 0), .val (.slice none 0 0), .val (.slice none 0 0)]]), (3, .mix 12 [[.val (.int .i64 v5.s.n), .own 4 0 v5.s.fr.length, .own 5 0 v5.s.to.length, .own 6 0 v5.s.id.length, .own 7 0 v5.s.cs.length, .val (.int .i64 v5.t.n), .own 8 0 v5.t.fr.length, .own 9 0 v5.t.to.length, .own 10 0 v5.t.id.length, .own 11 0 v5.t.cs.length, .own 12 0 v5.ob.length, .own 13 0 v5.ar.length]]), (4, .row 1 (Is v5.s.fr)), (5, .row 1 (Is v5.s.to)), (6, .row 1 (Is v5.s.id)), (7, .row 1 (Ls v5.s.cs)), (8, .row 1 (Is v5.t.fr)), (9, .row 1 (Is v5.t.to)), (10, .row 1 (Is v5.t.id)), (11, .row 1 (Ls v5.t.cs)), (12, .row 1 (Is v5.ob)), (13, .row 1 (Is v5.ar)), (14, .mix 1 []), (15, .mix 1 [])], 16⟩) (Wk.r1 [(0, 0), (1, 1), (2, 2), (3, 3), (4, 4), (5, 5), (6, 6), (7, 7), (8, 8), (9, 9), (10, 10), (11, 11), (12, 12), (13, 13), (14, 14), (15, 15)] (by simp [hP, hhOk, back, Cat.cells, Fn.cells, Mnd.cells, IA, I1, LA, L1, BA, B1, EA, E1, E2, eB, eI, eL])) ?_
 refine w_seq ?_
 refine w_seq ?_
 refine w_run mo (by rw [hN]; decide) fun K hK => ?_
 simp [-guardE_b, -Is_at, -Is_at', -Ls_at, -Ls_at', eL, eI, allInts, eP_Cat, eP_Fn, eP_Mnd, Cat.cells, Fn.cells, Mnd.cells]
 repeat (with_reducible refine And.intro ?_ ?_; · first | assumption | omega | (simp; done) | (simp; omega) | simp_all)
 refine hK _ ?_
 clear hK K
 refine tn ?_
 refine w_weak (st' := ⟨[(2, .lst true 1 (Is law_)), (3, .adr 0 0 0), (4, .adr 1 0 0), (6, .adr 2 0 0), (9, .adr 0 0 0), (10, .adr 3 0 0), (11, .own 14 0 0), (12, .own 15 0 0), (33, .lst true 1 (Is s_.f.ob)), (34, .val (.int .i64 (s_.f.ob.length : Int))), (35, .val (.int .i64 0))], [(0, .mix 14 [(Mnd.cells true s_)]), (1, .mix 14 [(Mnd.cells true t_)]), (2, .mix 14 [[.val (.int .i64 0), .val (.slice none 0 0), .val (.slice none 0 0), .val (.slice none 0 0), .val (.slice none 0 0), .val (.int .i64 0), .val (.slice none 0 0), .val (.slice none 0 0), .val (.slice none 0 0), .val (.slice none 0 0), .val (.slice none 0 0), .val (.slice none 0 0), .val (.slice none 0 0), .val (.slice none 0 0)]]), (3, .mix 12 [[.val (.int .i64 v5.s.n), .own 4 0 v5.s.fr.length, .own 5 0 v5.s.to.length, .own 6 0 v5.s.id.length, .own 7 0 v5.s.cs.length, .val (.int .i64 v5.t.n), .own 8 0 v5.t.fr.length, .own 9 0 v5.t.to.length, .own 10 0 v5.t.id.length, .own 11 0 v5.t.cs.length, .own 12 0 v5.ob.length, .own 13 0 v5.ar.length]]), (4, .row 1 (Is v5.s.fr)), (5, .row 1 (Is v5.s.to)), (6, .row 1 (Is v5.s.id)), (7, .row 1 (Ls v5.s.cs)), (8, .row 1 (Is v5.t.fr)), (9, .row 1 (Is v5.t.to)), (10, .row 1 (Is v5.t.id)), (11, .row 1 (Ls v5.t.cs)), (12, .row 1 (Is v5.ob)), (13, .row 1 (Is v5.ar)), (14, .mix 1 []), (15, .mix 1 [])], 16⟩) (Wk.r1 [(0, 0), (1, 1), (2, 2), (3, 3), (4, 4), (5, 5), (6, 6), (7, 7), (8, 8), (9, 9), (10, 10), (11, 11), (12, 12), (13, 13), (14, 14), (15, 15)] (by simp [hP, hhOk, back, Cat.cells, Fn.cells, Mnd.cells, IA, I1, LA, L1, BA, B1, EA, E1, E2, eB, eI, eL])) ?_
 replace h := bind_some h
 obtain ⟨e6, h, h6⟩ := h
 refine w_joinT (fun b6 : List Int × List Int => ⟨[(6, .adr 0 0 0), (10, .adr 1 0 0), (11, .own 12 0 b6.1.length), (12, .own 13 0 b6.2.length)], [(0, .mix 14 [[.val (.int .i64 0), .val (.slice none 0 0), .val (.slice none 0 0), .val (.slice none 0 0), .val (.slice none 0 0), .val (.int .i64 0), .val (.slice none 0 0), .val (.slice none 0 0), .val (.slice none 0 0), .val (.slice none 0 0), .val (.slice none 0 0), .val (.slice none 0 0), .val (.slice none 0 0), .val (.slice none 0 0)]]), (1, .mix 12 [[.val (.int .i64 v5.s.n), .own 2 0 v5.s.fr.length, .own 3 0 v5.s.to.length, .own 4 0 v5.s.id.length, .own 5 0 v5.s.cs.length, .val (.int .i64 v5.t.n), .own 6 0 v5.t.fr.length, .own 7 0 v5.t.to.length, .own 8 0 v5.t.id.length, .own 9 0 v5.t.cs.length, .own 10 0 v5.ob.length, .own 11 0 v5.ar.length]]), (2, .row 1 (Is v5.s.fr)), (3, .row 1 (Is v5.s.to)), (4, .row 1 (Is v5.s.id)), (5, .row 1 (Ls v5.s.cs)), (6, .row 1 (Is v5.t.fr)), (7, .row 1 (Is v5.t.to)), (8, .row 1 (Is v5.t.id)), (9, .row 1 (Ls v5.t.cs)), (10, .row 1 (Is v5.ob)), (11, .row 1 (Is v5.ar)), (12, .row 1 (Is b6.1)), (13, .row 1 (Is b6.2))], 14⟩) (fun b6 => b6 = e6) ?_ ?_
 · refine w_block ?_
   refine w_loopF h (fun s23 : List Int × List Int × Int => ⟨[(2, .lst true 1 (Is law_)), (3, .adr 0 0 0), (4, .adr 1 0 0), (6, .adr 2 0 0), (9, .adr 0 0 0), (10, .adr 3 0 0), (11, .own 14 0 s23.1.length), (12, .own 15 0 s23.2.1.length), (33, .lst true 1 (Is s_.f.ob)), (34, .val (.int .i64 (s_.f.ob.length : Int))), (35, .val (.int .i64 s23.2.2))], [(0, .mix 14 [(Mnd.cells true s_)]), (1, .mix 14 [(Mnd.cells true t_)]), (2, .mix 14 [[.val (.int .i64 0), .val (.slice none 0 0), .val (.slice none 0 0), .val (.slice none 0 0), .val (.slice none 0 0), .val (.int .i64 0), .val (.slice none 0 0), .val (.slice none 0 0), .val (.slice none 0 0), .val (.slice none 0 0), .val (.slice none 0 0), .val (.slice none 0 0), .val (.slice none 0 0), .val (.slice none 0 0)]]), (3, .mix 12 [[.val (.int .i64 v5.s.n), .own 4 0 v5.s.fr.length, .own 5 0 v5.s.to.length, .own 6 0 v5.s.id.length, .own 7 0 v5.s.cs.length, .val (.int .i64 v5.t.n), .own 8 0 v5.t.fr.length, .own 9 0 v5.t.to.length, .own 10 0 v5.t.id.length, .own 11 0 v5.t.cs.length, .own 12 0 v5.ob.length, .own 13 0 v5.ar.length]]), (4, .row 1 (Is v5.s.fr)), (5, .row 1 (Is v5.s.to)), (6, .row 1 (Is v5.s.id)), (7, .row 1 (Ls v5.s.cs)), (8, .row 1 (Is v5.t.fr)), (9, .row 1 (Is v5.t.to)), (10, .row 1 (Is v5.t.id)), (11, .row 1 (Ls v5.t.cs)), (12, .row 1 (Is v5.ob)), (13, .row 1 (Is v5.ar)), (14, .row 1 (Is s23.1)), (15, .row 1 (Is s23.2.1))], 16⟩) (wk_tr ⟨[(2, .lst true 1 (Is law_)), (3, .adr 0 0 0), (4, .adr 1 0 0), (6, .adr 2 0 0), (9, .adr 0 0 0), (10, .adr 3 0 0), (11, .own 14 0 0), (12, .own 15 0 0), (33, .lst true 1 (Is s_.f.ob)), (34, .val (.int .i64 (s_.f.ob.length : Int))), (35, .val (.int .i64 0))], [(0, .mix 14 [(Mnd.cells true s_)]), (1, .mix 14 [(Mnd.cells true t_)]), (2, .mix 14 [[.val (.int .i64 0), .val (.slice none 0 0), .val (.slice none 0 0), .val (.slice none 0 0), .val (.slice none 0 0), .val (.int .i64 0), .val (.slice none 0 0), .val (.slice none 0 0), .val (.slice none 0 0), .val (.slice none 0 0), .val (.slice none 0 0), .val (.slice none 0 0), .val (.slice none 0 0), .val (.slice none 0 0)]]), (3, .mix 12 [[.val (.int .i64 v5.s.n), .own 4 0 v5.s.fr.length, .own 5 0 v5.s.to.length, .own 6 0 v5.s.id.length, .own 7 0 v5.s.cs.length, .val (.int .i64 v5.t.n), .own 8 0 v5.t.fr.length, .own 9 0 v5.t.to.length, .own 10 0 v5.t.id.length, .own 11 0 v5.t.cs.length, .own 12 0 v5.ob.length, .own 13 0 v5.ar.length]]), (4, .row 1 (Is v5.s.fr)), (5, .row 1 (Is v5.s.to)), (6, .row 1 (Is v5.s.id)), (7, .row 1 (Ls v5.s.cs)), (8, .row 1 (Is v5.t.fr)), (9, .row 1 (Is v5.t.to)), (10, .row 1 (Is v5.t.id)), (11, .row 1 (Ls v5.t.cs)), (12, .row 1 (Is v5.ob)), (13, .row 1 (Is v5.ar)), (14, .row 1 (Is [])), (15, .row 1 (Is []))], 16⟩ (Wk.nils [] (by simp) (by simp) (by simp [nlA]) (by simp [entN, nlL, nlA, Cat.cells, Fn.cells, Mnd.cells, IA, I1, LA, L1, BA, B1, EA, E1, E2, eB, eI, eL]) (by simp)) (Wk.r1 [(0, 0), (1, 1), (2, 2), (3, 3), (4, 4), (5, 5), (6, 6), (7, 7), (8, 8), (9, 9), (10, 10), (11, 11), (12, 12), (13, 13), (14, 14), (15, 15)] (by simp [hP, hhOk, back, Cat.cells, Fn.cells, Mnd.cells, IA, I1, LA, L1, BA, B1, EA, E1, E2, eB, eI, eL]))) ?_
   clear h
   intro k23 s23 c23 h hk23
   refine w_seq ?_
   refine w_run mo (by rw [hN]; decide) fun K hK => ?_
   simp [-guardE_b, -Is_at, -Is_at', -Ls_at, -Ls_at', eL, eI, allInts, eP_Cat, eP_Fn, eP_Mnd, Cat.cells, Fn.cells, Mnd.cells]
   repeat (with_reducible refine And.intro ?_ ?_; · first | assumption | omega | (simp; done) | (simp; omega) | simp_all)
   refine hK _ ?_
   clear hK K
   refine tn ?_
   refine w_weak (st' := ⟨[(2, .lst true 1 (Is law_)), (3, .adr 0 0 0), (4, .adr 1 0 0), (6, .adr 2 0 0), (9, .adr 0 0 0), (10, .adr 3 0 0), (11, .own 14 0 s23.1.length), (12, .own 15 0 s23.2.1.length), (33, .lst true 1 (Is s_.f.ob)), (34, .val (.int .i64 (s_.f.ob.length : Int))), (35, .val (.int .i64 s23.2.2)), (36, .val (.bool (decide (s23.2.2 < (s_.f.ob.length : Int)))))], [(0, .mix 14 [(Mnd.cells true s_)]), (1, .mix 14 [(Mnd.cells true t_)]), (2, .mix 14 [[.val (.int .i64 0), .val (.slice none 0 0), .val (.slice none 0 0), .val (.slice none 0 0), .val (.slice none 0 0), .val (.int .i64 0), .val (.slice none 0 0), .val (.slice none 0 0), .val (.slice none 0 0), .val (.slice none 0 0), .val (.slice none 0 0), .val (.slice none 0 0), .val (.slice none 0 0), .val (.slice none 0 0)]]), (3, .mix 12 [[.val (.int .i64 v5.s.n), .own 4 0 v5.s.fr.length, .own 5 0 v5.s.to.length, .own 6 0 v5.s.id.length, .own 7 0 v5.s.cs.length, .val (.int .i64 v5.t.n), .own 8 0 v5.t.fr.length, .own 9 0 v5.t.to.length, .own 10 0 v5.t.id.length, .own 11 0 v5.t.cs.length, .own 12 0 v5.ob.length, .own 13 0 v5.ar.length]]), (4, .row 1 (Is v5.s.fr)), (5, .row 1 (Is v5.s.to)), (6, .row 1 (Is v5.s.id)), (7, .row 1 (Ls v5.s.cs)), (8, .row 1 (Is v5.t.fr)), (9, .row 1 (Is v5.t.to)), (10, .row 1 (Is v5.t.id)), (11, .row 1 (Ls v5.t.cs)), (12, .row 1 (Is v5.ob)), (13, .row 1 (Is v5.ar)), (14, .row 1 (Is s23.1)), (15, .row 1 (Is s23.2.1))], 16⟩) (Wk.r1 [(0, 0), (1, 1), (2, 2), (3, 3), (4, 4), (5, 5), (6, 6), (7, 7), (8, 8), (9, 9), (10, 10), (11, 11), (12, 12), (13, 13), (14, 14), (15, 15)] (by simp [hP, hhOk, back, Cat.cells, Fn.cells, Mnd.cells, IA, I1, LA, L1, BA, B1, EA, E1, E2, eB, eI, eL])) ?_
   refine w_seq ?_
   refine w_cond rfl (fun g => ?_) fun g => ?_
   · have g24 : s23.2.2 < (s_.f.ob.length : Int) := by first | simpa using g | (simp at g; exact g) | (simp at g; omega)
     clear g
     replace h := if_l g24 h
     refine w_skip ?_
     refine tn ?_
     refine w_seq ?_
     refine w_block ?_
     refine w_seq ?_
     refine w_run mo (by rw [hN]; decide) fun K hK => ?_
     replace h := ass_some h
     obtain ⟨a25, h⟩ := h
     simp [-guardE_b, -Is_at, -Is_at', -Ls_at, -Ls_at', eL, eI, allInts, eP_Cat, eP_Fn, eP_Mnd, Cat.cells, Fn.cells, Mnd.cells, at_I a25]
     repeat (with_reducible refine And.intro ?_ ?_; · first | assumption | omega | (simp; done) | (simp; omega) | simp_all)
     refine hK _ ?_
     clear hK K
     refine tn ?_
     refine w_weak (st' := ⟨[(2, .lst true 1 (Is law_)), (3, .adr 0 0 0), (4, .adr 1 0 0), (6, .adr 2 0 0), (9, .adr 0 0 0), (10, .adr 3 0 0), (11, .own 14 0 s23.1.length), (12, .own 15 0 s23.2.1.length), (13, .val (.int .i64 s23.2.2)), (14, .val (.int .i64 (ix s_.f.ob s23.2.2))), (33, .lst true 1 (Is s_.f.ob)), (34, .val (.int .i64 (s_.f.ob.length : Int))), (35, .val (.int .i64 s23.2.2))], [(0, .mix 14 [(Mnd.cells true s_)]), (1, .mix 14 [(Mnd.cells true t_)]), (2, .mix 14 [[.val (.int .i64 0), .val (.slice none 0 0), .val (.slice none 0 0), .val (.slice none 0 0), .val (.slice none 0 0), .val (.int .i64 0), .val (.slice none 0 0), .val (.slice none 0 0), .val (.slice none 0 0), .val (.slice none 0 0), .val (.slice none 0 0), .val (.slice none 0 0), .val (.slice none 0 0), .val (.slice none 0 0)]]), (3, .mix 12 [[.val (.int .i64 v5.s.n), .own 4 0 v5.s.fr.length, .own 5 0 v5.s.to.length, .own 6 0 v5.s.id.length, .own 7 0 v5.s.cs.length, .val (.int .i64 v5.t.n), .own 8 0 v5.t.fr.length, .own 9 0 v5.t.to.length, .own 10 0 v5.t.id.length, .own 11 0 v5.t.cs.length, .own 12 0 v5.ob.length, .own 13 0 v5.ar.length]]), (4, .row 1 (Is v5.s.fr)), (5, .row 1 (Is v5.s.to)), (6, .row 1 (Is v5.s.id)), (7, .row 1 (Ls v5.s.cs)), (8, .row 1 (Is v5.t.fr)), (9, .row 1 (Is v5.t.to)), (10, .row 1 (Is v5.t.id)), (11, .row 1 (Ls v5.t.cs)), (12, .row 1 (Is v5.ob)), (13, .row 1 (Is v5.ar)), (14, .row 1 (Is s23.1)), (15, .row 1 (Is s23.2.1))], 16⟩) (Wk.r1 [(0, 0), (1, 1), (2, 2), (3, 3), (4, 4), (5, 5), (6, 6), (7, 7), (8, 8), (9, 9), (10, 10), (11, 11), (12, 12), (13, 13), (14, 14), (15, 15)] (by simp [hP, hhOk, back, Cat.cells, Fn.cells, Mnd.cells, IA, I1, LA, L1, BA, B1, EA, E1, E2, eB, eI, eL])) ?_
     refine w_seq ?_
     refine w_run mo (by rw [hN]; decide) fun K hK => ?_
     replace h := ass_some h
     obtain ⟨a26, h⟩ := h
     replace h := ass_some h
     obtain ⟨a27, h⟩ := h
     simp [-guardE_b, -Is_at, -Is_at', -Ls_at, -Ls_at', eL, eI, allInts, eP_Cat, eP_Fn, eP_Mnd, Cat.cells, Fn.cells, Mnd.cells, at_I a26, at_I a27]
     repeat (with_reducible refine And.intro ?_ ?_; · first | assumption | omega | (simp; done) | (simp; omega) | simp_all)
     replace h := bind_some h
     obtain ⟨v28, hv28, h⟩ := h
     refine callA_intro (w_i_Category_then _ _ _ v28 hv28) (.cons (.field rfl (by simp [Cat.cells, Fn.cells, Mnd.cells]) (.cons .val (.cons .lst (.cons .lst (.cons .lst (.cons .lst .nil)))))) (.cons .val (.cons .val .nil))) ?_
     replace h := ass_some h
     obtain ⟨a29, h⟩ := h
     try simp only [List.length_append, List.length_cons, List.length_nil] at a29
     simp [-guardE_b, -Is_at, -Is_at', -Ls_at, -Ls_at', unk, unA, unE, unT, unC, flat, eL, eI, allInts, eP_Cat, eP_Fn, eP_Mnd, Cat.cells, Fn.cells, Mnd.cells, a29]
     repeat (with_reducible refine And.intro ?_ ?_; · first | assumption | omega | (simp; done) | (simp; omega) | simp_all)
     refine hK _ ?_
     clear hK K
     refine tn ?_
     refine w_weak (st' := ⟨[(2, .lst true 1 (Is law_)), (3, .adr 0 0 0), (4, .adr 1 0 0), (6, .adr 2 0 0), (9, .adr 0 0 0), (10, .adr 3 0 0), (11, .own 14 0 ((s23.1 ++ [v28]).length)), (12, .own 15 0 s23.2.1.length), (13, .val (.int .i64 s23.2.2)), (14, .val (.int .i64 (ix s_.f.ob s23.2.2))), (33, .lst true 1 (Is s_.f.ob)), (34, .val (.int .i64 (s_.f.ob.length : Int))), (35, .val (.int .i64 s23.2.2))], [(0, .mix 14 [(Mnd.cells true s_)]), (1, .mix 14 [(Mnd.cells true t_)]), (2, .mix 14 [[.val (.int .i64 0), .val (.slice none 0 0), .val (.slice none 0 0), .val (.slice none 0 0), .val (.slice none 0 0), .val (.int .i64 0), .val (.slice none 0 0), .val (.slice none 0 0), .val (.slice none 0 0), .val (.slice none 0 0), .val (.slice none 0 0), .val (.slice none 0 0), .val (.slice none 0 0), .val (.slice none 0 0)]]), (3, .mix 12 [[.val (.int .i64 v5.s.n), .own 4 0 v5.s.fr.length, .own 5 0 v5.s.to.length, .own 6 0 v5.s.id.length, .own 7 0 v5.s.cs.length, .val (.int .i64 v5.t.n), .own 8 0 v5.t.fr.length, .own 9 0 v5.t.to.length, .own 10 0 v5.t.id.length, .own 11 0 v5.t.cs.length, .own 12 0 v5.ob.length, .own 13 0 v5.ar.length]]), (4, .row 1 (Is v5.s.fr)), (5, .row 1 (Is v5.s.to)), (6, .row 1 (Is v5.s.id)), (7, .row 1 (Ls v5.s.cs)), (8, .row 1 (Is v5.t.fr)), (9, .row 1 (Is v5.t.to)), (10, .row 1 (Is v5.t.id)), (11, .row 1 (Ls v5.t.cs)), (12, .row 1 (Is v5.ob)), (13, .row 1 (Is v5.ar)), (14, .row 1 (Is (s23.1 ++ [v28]))), (15, .row 1 (Is s23.2.1))], 16⟩) (Wk.r1 [(0, 0), (1, 1), (2, 2), (3, 3), (4, 4), (5, 5), (6, 6), (7, 7), (8, 8), (9, 9), (10, 10), (11, 11), (12, 12), (13, 13), (18, 14), (15, 15)] (by simp [hP, hhOk, back, Cat.cells, Fn.cells, Mnd.cells, IA, I1, LA, L1, BA, B1, EA, E1, E2, eB, eI, eL])) ?_
     refine w_run mo (by rw [hN]; decide) fun K hK => ?_
     replace h := ass_some h
     obtain ⟨a30, h⟩ := h
     simp [-guardE_b, -Is_at, -Is_at', -Ls_at, -Ls_at', eL, eI, allInts, eP_Cat, eP_Fn, eP_Mnd, Cat.cells, Fn.cells, Mnd.cells, at_I a30]
     repeat (with_reducible refine And.intro ?_ ?_; · first | assumption | omega | (simp; done) | (simp; omega) | simp_all)
     replace h := bind_some h
     obtain ⟨v31, hv31, h⟩ := h
     refine callA_intro (w_i_Monad_arrow _ _ v31 hv31) (.cons (.field rfl (by simp [Cat.cells, Fn.cells, Mnd.cells]) (.cons .val (.cons .lst (.cons .lst (.cons .lst (.cons .lst (.cons .val (.cons .lst (.cons .lst (.cons .lst (.cons .lst (.cons .lst (.cons .lst (.cons .lst (.cons .lst .nil))))))))))))))) (.cons .val .nil)) ?_
     simp [-guardE_b, -Is_at, -Is_at', -Ls_at, -Ls_at', unk, unA, unE, unT, unC, flat, eL, eI, allInts, eP_Cat, eP_Fn, eP_Mnd, Cat.cells, Fn.cells, Mnd.cells]
     repeat (with_reducible refine And.intro ?_ ?_; · first | assumption | omega | (simp; done) | (simp; omega) | simp_all)
     replace h := bind_some h
     obtain ⟨v32, hv32, h⟩ := h
     refine callA_intro (w_i_Monad_object _ _ v32 hv32) (.cons (.field rfl (by simp [Cat.cells, Fn.cells, Mnd.cells]) (.cons .val (.cons .lst (.cons .lst (.cons .lst (.cons .lst (.cons .val (.cons .lst (.cons .lst (.cons .lst (.cons .lst (.cons .lst (.cons .lst (.cons .lst (.cons .lst .nil))))))))))))))) (.cons .val .nil)) ?_
     replace h := ass_some h
     obtain ⟨a33, h⟩ := h
     simp [-guardE_b, -Is_at, -Is_at', -Ls_at, -Ls_at', unk, unA, unE, unT, unC, flat, eL, eI, allInts, eP_Cat, eP_Fn, eP_Mnd, Cat.cells, Fn.cells, Mnd.cells, at_I a33]
     repeat (with_reducible refine And.intro ?_ ?_; · first | assumption | omega | (simp; done) | (simp; omega) | simp_all)
     replace h := bind_some h
     obtain ⟨v34, hv34, h⟩ := h
     refine callA_intro (w_i_Category_then _ _ _ v34 hv34) (.cons (.field rfl (by simp [Cat.cells, Fn.cells, Mnd.cells]) (.cons .val (.cons .lst (.cons .lst (.cons .lst (.cons .lst .nil)))))) (.cons .val (.cons .val .nil))) ?_
     replace h := ass_some h
     obtain ⟨a35, h⟩ := h
     simp [-guardE_b, -Is_at, -Is_at', -Ls_at, -Ls_at', unk, unA, unE, unT, unC, flat, eL, eI, allInts, eP_Cat, eP_Fn, eP_Mnd, Cat.cells, Fn.cells, Mnd.cells, at_I a35]
     repeat (with_reducible refine And.intro ?_ ?_; · first | assumption | omega | (simp; done) | (simp; omega) | simp_all)
     replace h := bind_some h
     obtain ⟨v36, hv36, h⟩ := h
     refine callA_intro (w_i_Monad_arrow _ _ v36 hv36) (.cons (.field rfl (by simp [Cat.cells, Fn.cells, Mnd.cells]) (.cons .val (.cons .lst (.cons .lst (.cons .lst (.cons .lst (.cons .val (.cons .lst (.cons .lst (.cons .lst (.cons .lst (.cons .lst (.cons .lst (.cons .lst (.cons .lst .nil))))))))))))))) (.cons .val .nil)) ?_
     simp [-guardE_b, -Is_at, -Is_at', -Ls_at, -Ls_at', unk, unA, unE, unT, unC, flat, eL, eI, allInts, eP_Cat, eP_Fn, eP_Mnd, Cat.cells, Fn.cells, Mnd.cells]
     repeat (with_reducible refine And.intro ?_ ?_; · first | assumption | omega | (simp; done) | (simp; omega) | simp_all)
     replace h := bind_some h
     obtain ⟨v37, hv37, h⟩ := h
     refine callA_intro (w_i_Category_then _ _ _ v37 hv37) (.cons (.field rfl (by simp [Cat.cells, Fn.cells, Mnd.cells]) (.cons .val (.cons .lst (.cons .lst (.cons .lst (.cons .lst .nil)))))) (.cons .val (.cons .val .nil))) ?_
     replace h := ass_some h
     obtain ⟨a38, h⟩ := h
     try simp only [List.length_append, List.length_cons, List.length_nil] at a38
     simp [-guardE_b, -Is_at, -Is_at', -Ls_at, -Ls_at', unk, unA, unE, unT, unC, flat, eL, eI, allInts, eP_Cat, eP_Fn, eP_Mnd, Cat.cells, Fn.cells, Mnd.cells, a38]
     repeat (with_reducible refine And.intro ?_ ?_; · first | assumption | omega | (simp; done) | (simp; omega) | simp_all)
     refine hK _ ?_
     clear hK K
     refine bn ?_
     refine tn ?_
     refine w_weak (st' := ⟨[(2, .lst true 1 (Is law_)), (3, .adr 0 0 0), (4, .adr 1 0 0), (6, .adr 2 0 0), (9, .adr 0 0 0), (10, .adr 3 0 0), (11, .own 14 0 ((s23.1 ++ [v28]).length)), (12, .own 15 0 ((s23.2.1 ++ [v37]).length)), (33, .lst true 1 (Is s_.f.ob)), (34, .val (.int .i64 (s_.f.ob.length : Int))), (35, .val (.int .i64 s23.2.2))], [(0, .mix 14 [(Mnd.cells true s_)]), (1, .mix 14 [(Mnd.cells true t_)]), (2, .mix 14 [[.val (.int .i64 0), .val (.slice none 0 0), .val (.slice none 0 0), .val (.slice none 0 0), .val (.slice none 0 0), .val (.int .i64 0), .val (.slice none 0 0), .val (.slice none 0 0), .val (.slice none 0 0), .val (.slice none 0 0), .val (.slice none 0 0), .val (.slice none 0 0), .val (.slice none 0 0), .val (.slice none 0 0)]]), (3, .mix 12 [[.val (.int .i64 v5.s.n), .own 4 0 v5.s.fr.length, .own 5 0 v5.s.to.length, .own 6 0 v5.s.id.length, .own 7 0 v5.s.cs.length, .val (.int .i64 v5.t.n), .own 8 0 v5.t.fr.length, .own 9 0 v5.t.to.length, .own 10 0 v5.t.id.length, .own 11 0 v5.t.cs.length, .own 12 0 v5.ob.length, .own 13 0 v5.ar.length]]), (4, .row 1 (Is v5.s.fr)), (5, .row 1 (Is v5.s.to)), (6, .row 1 (Is v5.s.id)), (7, .row 1 (Ls v5.s.cs)), (8, .row 1 (Is v5.t.fr)), (9, .row 1 (Is v5.t.to)), (10, .row 1 (Is v5.t.id)), (11, .row 1 (Ls v5.t.cs)), (12, .row 1 (Is v5.ob)), (13, .row 1 (Is v5.ar)), (14, .row 1 (Is (s23.1 ++ [v28]))), (15, .row 1 (Is (s23.2.1 ++ [v37])))], 16⟩) (Wk.r1 [(0, 0), (1, 1), (2, 2), (3, 3), (4, 4), (5, 5), (6, 6), (7, 7), (8, 8), (9, 9), (10, 10), (11, 11), (12, 12), (13, 13), (14, 14), (22, 15)] (by simp [hP, hhOk, back, Cat.cells, Fn.cells, Mnd.cells, IA, I1, LA, L1, BA, B1, EA, E1, E2, eB, eI, eL])) ?_
     refine w_run mo (by rw [hN]; decide) fun K hK => ?_
     replace h := ass_some h
     obtain ⟨a39, h⟩ := h
     simp [-guardE_b, -Is_at, -Is_at', -Ls_at, -Ls_at', eL, eI, allInts, eP_Cat, eP_Fn, eP_Mnd, Cat.cells, Fn.cells, Mnd.cells, wrap_id a39]
     repeat (with_reducible refine And.intro ?_ ?_; · first | assumption | omega | (simp; done) | (simp; omega) | simp_all)
     refine hK _ ?_
     clear hK K
     cases h
     exact rn (s' := (s23.1 ++ [v28], s23.2.1 ++ [v37], s23.2.2 + 1)) hk23 (Wk.r1 [(0, 0), (1, 1), (2, 2), (3, 3), (4, 4), (5, 5), (6, 6), (7, 7), (8, 8), (9, 9), (10, 10), (11, 11), (12, 12), (13, 13), (14, 14), (15, 15)] (by simp [hP, hhOk, back, Cat.cells, Fn.cells, Mnd.cells, IA, I1, LA, L1, BA, B1, EA, E1, E2, eB, eI, eL]))
   have g24 : ¬ (s23.2.2 < (s_.f.ob.length : Int)) := by first | simpa using g | (simp at g; exact g) | (simp at g; omega)
   clear g
   replace h := if_r g24 h
   refine w_exit ?_
   refine tx ?_
   refine lx ?_
   refine bh ?_
   cases h
   exact jn (b := (s23.1, s23.2.1)) hk23 (Wk.r1 [(2, 0), (3, 1), (4, 2), (5, 3), (6, 4), (7, 5), (8, 6), (9, 7), (10, 8), (11, 9), (12, 10), (13, 11), (14, 12), (15, 13)] (by simp [hP, hhOk, back, Cat.cells, Fn.cells, Mnd.cells, IA, I1, LA, L1, BA, B1, EA, E1, E2, eB, eI, eL]))
 intro b6 hb6
 have h := h6
 rw [← hb6] at h
 clear h6
 try dsimp only at h
 refine w_seq ?_
 refine w_run mo (by rw [hN]; decide) fun K hK => ?_
 simp [-guardE_b, -Is_at, -Is_at', -Ls_at, -Ls_at', eL, eI, allInts, eP_Cat, eP_Fn, eP_Mnd, Cat.cells, Fn.cells, Mnd.cells]
 repeat (with_reducible refine And.intro ?_ ?_; · first | assumption | omega | (simp; done) | (simp; omega) | simp_all)
 replace h := bind_some h
 obtain ⟨v40, hv40, h⟩ := h
 refine callA_intro (w_i_monad _ _ _ v40 hv40) (.cons (.field rfl (by simp [Cat.cells, Fn.cells, Mnd.cells]) (.cons .val (.cons (.whole (by simp) (by simp) (by simp)) (.cons (.whole (by simp) (by simp) (by simp)) (.cons (.whole (by simp) (by simp) (by simp)) (.cons (.whole (by simp) (by simp) (by simp)) (.cons .val (.cons (.whole (by simp) (by simp) (by simp)) (.cons (.whole (by simp) (by simp) (by simp)) (.cons (.whole (by simp) (by simp) (by simp)) (.cons (.whole (by simp) (by simp) (by simp)) (.cons (.whole (by simp) (by simp) (by simp)) (.cons (.whole (by simp) (by simp) (by simp)) .nil))))))))))))) (.cons (.whole (by simp) (by simp) (by simp)) (.cons (.whole (by simp) (by simp) (by simp)) .nil))) ?_
 simp [-guardE_b, -Is_at, -Is_at', -Ls_at, -Ls_at', unk, unA, unE, unT, unC, flat, eL, eI, allInts, eP_Cat, eP_Fn, eP_Mnd, Cat.cells, Fn.cells, Mnd.cells]
 repeat (with_reducible refine And.intro ?_ ?_; · first | assumption | omega | (simp; done) | (simp; omega) | simp_all)
 refine hK _ ?_
 clear hK K
 refine tn ?_
 refine w_weak (st' := ⟨[(6, .adr 0 0 0), (7, .val (.int .i64 0))], [(0, .mix 14 [[.val (.int .i64 v40.f.s.n), .own 1 0 v40.f.s.fr.length, .own 2 0 v40.f.s.to.length, .own 3 0 v40.f.s.id.length, .own 4 0 v40.f.s.cs.length, .val (.int .i64 v40.f.t.n), .own 5 0 v40.f.t.fr.length, .own 6 0 v40.f.t.to.length, .own 7 0 v40.f.t.id.length, .own 8 0 v40.f.t.cs.length, .own 9 0 v40.f.ob.length, .own 10 0 v40.f.ar.length, .own 11 0 v40.u.length, .own 12 0 v40.j.length]]), (1, .row 1 (Is v40.f.s.fr)), (2, .row 1 (Is v40.f.s.to)), (3, .row 1 (Is v40.f.s.id)), (4, .row 1 (Ls v40.f.s.cs)), (5, .row 1 (Is v40.f.t.fr)), (6, .row 1 (Is v40.f.t.to)), (7, .row 1 (Is v40.f.t.id)), (8, .row 1 (Ls v40.f.t.cs)), (9, .row 1 (Is v40.f.ob)), (10, .row 1 (Is v40.f.ar)), (11, .row 1 (Is v40.u)), (12, .row 1 (Is v40.j))], 13⟩) (Wk.r1 [(0, 0), (15, 1), (16, 2), (17, 3), (18, 4), (20, 5), (21, 6), (22, 7), (23, 8), (24, 9), (25, 10), (26, 11), (27, 12)] (by simp [hP, hhOk, back, Cat.cells, Fn.cells, Mnd.cells, IA, I1, LA, L1, BA, B1, EA, E1, E2, eB, eI, eL])) ?_
 refine w_ret ?_
 have hr := Option.some.inj h
 rw [← hr]
 refine ⟨_, (.cell tf_50 rfl rfl rfl (by simp) (by simp) (.tmp .nil)), ?_⟩
 refine ⟨(.agg rfl (.one rfl rfl .nil)), [.val (.int .i64 v40.f.s.n), .lst true 1 (Is v40.f.s.fr), .lst true 1 (Is v40.f.s.to), .lst true 1 (Is v40.f.s.id), .lst true 1 (Ls v40.f.s.cs), .val (.int .i64 v40.f.t.n), .lst true 1 (Is v40.f.t.fr), .lst true 1 (Is v40.f.t.to), .lst true 1 (Is v40.f.t.id), .lst true 1 (Ls v40.f.t.cs), .lst true 1 (Is v40.f.ob), .lst true 1 (Is v40.f.ar), .lst true 1 (Is v40.u), .lst true 1 (Is v40.j), .val (.int .i64 0)], [1, 2, 3, 4, 5, 6, 7, 8, 9, 10, 11, 12], by simp [Cat.cells, Fn.cells, Mnd.cells, IA, I1, LA, L1, BA, B1, EA, E1, E2, eB, eI, eL], by simp, (UpL.refl _)⟩
end Go.Vc.T

set_option maxRecDepth 100000
set_option linter.unusedSimpArgs false
set_option linter.unusedVariables false
namespace Go.Vc.T
open Go Go.Vc Go.Proofs
noncomputable def s_s_l16Law (s_ : Mnd) (t_ : Mnd) (law_ : List Int) : Option Bool :=
 (s_s_l06Then t_.f s_.f).bind fun v1 =>
 (s_s_l06Then s_.f t_.f).bind fun v2 =>
 (s_s_l15Natural v1 v2 law_).bind fun v3 =>
 if ¬ (v3 = true) then
   some false
 else
   (loopF (σ := Int) (ε := Unit ⊕ Bool) (fun s45 =>
     if s45 < s_.f.s.n then
       ass (0 ≤ s45 ∧ s45 < (s_.f.ob.length : Int)) <|
       ass (0 ≤ s45 ∧ s45 < (t_.f.ob.length : Int)) <|
       (
         ass (0 ≤ s45 ∧ s45 < (t_.u.length : Int)) <|
         ass (0 ≤ ix t_.u s45 ∧ ix t_.u s45 < (s_.f.ar.length : Int)) <|
         ass (0 ≤ s45 ∧ s45 < (law_.length : Int)) <|
         (s_s_l02Then s_.f.s (ix s_.f.ar (ix t_.u s45)) (ix law_ s45)).bind fun v53 =>
         ass (0 ≤ ix s_.f.ob s45 ∧ ix s_.f.ob s45 < (t_.u.length : Int)) <|
         if ¬ (v53 = (ix t_.u (ix s_.f.ob s45))) then
           some true
         else
           ass (0 ≤ ix t_.f.ob s45 ∧ ix t_.f.ob s45 < (s_.u.length : Int)) <|
           ass (0 ≤ s45 ∧ s45 < (law_.length : Int)) <|
           (s_s_l02Then s_.f.s (ix s_.u (ix t_.f.ob s45)) (ix law_ s45)).bind fun v58 =>
           ass (0 ≤ s45 ∧ s45 < (s_.u.length : Int)) <|
           ass (0 ≤ ix s_.u s45 ∧ ix s_.u s45 < (t_.f.ar.length : Int)) <|
           some (v58 != (ix t_.f.ar (ix s_.u s45))) : Option (Bool)).bind fun b49 =>
       if b49 = true then
         some (Ctl.ret (Sum.inr false))
       else
         ass (0 ≤ ix t_.f.ob s45 ∧ ix t_.f.ob s45 < (law_.length : Int)) <|
         ass (0 ≤ s45 ∧ s45 < (law_.length : Int)) <|
         ass (0 ≤ ix law_ s45 ∧ ix law_ s45 < (t_.f.ar.length : Int)) <|
         (s_s_l02Then s_.f.s (ix law_ (ix t_.f.ob s45)) (ix t_.f.ar (ix law_ s45))).bind fun v65 =>
         ass (0 ≤ ix s_.f.ob s45 ∧ ix s_.f.ob s45 < (t_.j.length : Int)) <|
         (s_s_l02Then s_.f.s v65 (ix t_.j (ix s_.f.ob s45))).bind fun v67 =>
         ass (0 ≤ s45 ∧ s45 < (t_.j.length : Int)) <|
         ass (0 ≤ ix t_.j s45 ∧ ix t_.j s45 < (s_.f.ar.length : Int)) <|
         ass (0 ≤ s45 ∧ s45 < (law_.length : Int)) <|
         (s_s_l02Then s_.f.s (ix s_.f.ar (ix t_.j s45)) (ix law_ s45)).bind fun v71 =>
         if ¬ (v71 = v67) then
           some (Ctl.ret (Sum.inr false))
         else
           ass (0 ≤ s45 ∧ s45 < (law_.length : Int)) <|
           ass (0 ≤ ix law_ s45 ∧ ix law_ s45 < (s_.f.ar.length : Int)) <|
           ass (0 ≤ ix s_.f.ob s45 ∧ ix s_.f.ob s45 < (law_.length : Int)) <|
           (s_s_l02Then s_.f.s (ix s_.f.ar (ix law_ s45)) (ix law_ (ix s_.f.ob s45))).bind fun v76 =>
           ass (0 ≤ s45 ∧ s45 < (s_.j.length : Int)) <|
           ass (0 ≤ ix s_.j s45 ∧ ix s_.j s45 < (t_.f.ar.length : Int)) <|
           (s_s_l02Then s_.f.s v76 (ix t_.f.ar (ix s_.j s45))).bind fun v79 =>
           ass (0 ≤ ix t_.f.ob s45 ∧ ix t_.f.ob s45 < (s_.j.length : Int)) <|
           ass (0 ≤ s45 ∧ s45 < (law_.length : Int)) <|
           (s_s_l02Then s_.f.s (ix s_.j (ix t_.f.ob s45)) (ix law_ s45)).bind fun v82 =>
           if ¬ (v82 = v79) then
             some (Ctl.ret (Sum.inr false))
           else
             ass (B64 (s45 + 1)) <|
             some (Ctl.next (s45 + 1))
     else
       some (Ctl.ret (Sum.inl ()))) fuel 0).bind fun e5 =>
   match e5 with
   | .inl b5 =>
     some true
   | .inr p5 =>
     some p5
set_option maxHeartbeats 4000000 in
theorem w_s_l16Law (s_ : Mnd) (t_ : Mnd) (law_ : List Int) (r : Bool) (h : s_s_l16Law s_ t_ law_ = some r) : Contract Try.prog 147 [.agg (s_.cells true), .agg (t_.cells true), .lst true 1 (Is law_)] (.val (.bool r)) := by
 refine contract_introG (rvs := [.tmp 6]) (rs := [.val (.bool r)]) Try.func147 rfl rfl rfl rfl (by simp [Try.f147]) fun F hN hP => ?_
 unfold s_s_l16Law at h
 refine w_seq ?_
 refine w_run mo (by rw [hN]; decide) fun K hK => ?_
 simp [-guardE_b, -Is_at, -Is_at', -Ls_at, -Ls_at', eL, eI, allInts, eP_Cat, eP_Fn, eP_Mnd, Cat.cells, Fn.cells, Mnd.cells]
 repeat (with_reducible refine And.intro ?_ ?_; · first | assumption | omega | (simp; done) | (simp; omega) | simp_all)
 refine hK _ ?_
 clear hK K
 refine tn ?_
 refine w_weak (st' := ⟨[(2, .lst true 1 (Is law_)), (3, .adr 0 0 0), (4, .adr 1 0 0)], [(0, .mix 14 [(Mnd.cells true s_)]), (1, .mix 14 [(Mnd.cells true t_)])], 2⟩) (Wk.r1 [(0, 0), (1, 1)] (by simp [hP, hhOk, back, Cat.cells, Fn.cells, Mnd.cells, IA, I1, LA, L1, BA, B1, EA, E1, E2, eB, eI, eL])) ?_
 refine w_seq ?_
 refine w_run mo (by rw [hN]; decide) fun K hK => ?_
 simp [-guardE_b, -Is_at, -Is_at', -Ls_at, -Ls_at', eL, eI, allInts, eP_Cat, eP_Fn, eP_Mnd, Cat.cells, Fn.cells, Mnd.cells]
 repeat (with_reducible refine And.intro ?_ ?_; · first | assumption | omega | (simp; done) | (simp; omega) | simp_all)
 refine hK _ ?_
 clear hK K
 refine tn ?_
 refine w_weak (st' := ⟨[(2, .lst true 1 (Is law_)), (3, .adr 0 0 0), (4, .adr 1 0 0), (7, .adr 2 0 0)], [(0, .mix 14 [(Mnd.cells true s_)]), (1, .mix 14 [(Mnd.cells true t_)]), (2, .mix 5 [(Cat.cells true s_.f.s)])], 3⟩) (Wk.r1 [(0, 0), (1, 1), (2, 2)] (by simp [hP, hhOk, back, Cat.cells, Fn.cells, Mnd.cells, IA, I1, LA, L1, BA, B1, EA, E1, E2, eB, eI, eL])) ?_
 refine w_seq ?_
 refine w_seq ?_
 refine w_run mo (by rw [hN]; decide) fun K hK => ?_
 simp [-guardE_b, -Is_at, -Is_at', -Ls_at, -Ls_at', eL, eI, allInts, eP_Cat, eP_Fn, eP_Mnd, Cat.cells, Fn.cells, Mnd.cells]
 repeat (with_reducible refine And.intro ?_ ?_; · first | assumption | omega | (simp; done) | (simp; omega) | simp_all)
 replace h := bind_some h
 obtain ⟨v1, hv1, h⟩ := h
 refine callA_intro (w_s_l06Then _ _ v1 hv1) (.cons (.aggL (.cons .val (.cons .lst (.cons .lst (.cons .lst (.cons .lst (.cons .val (.cons .lst (.cons .lst (.cons .lst (.cons .lst (.cons .lst (.cons .lst .nil))))))))))))) (.cons (.aggL (.cons .val (.cons .lst (.cons .lst (.cons .lst (.cons .lst (.cons .val (.cons .lst (.cons .lst (.cons .lst (.cons .lst (.cons .lst (.cons .lst .nil))))))))))))) .nil)) ?_
 simp [-guardE_b, -Is_at, -Is_at', -Ls_at, -Ls_at', unk, unA, unE, unT, unC, flat, eL, eI, allInts, eP_Cat, eP_Fn, eP_Mnd, Cat.cells, Fn.cells, Mnd.cells]
 repeat (with_reducible refine And.intro ?_ ?_; · first | assumption | omega | (simp; done) | (simp; omega) | simp_all)
 replace h := bind_some h
 obtain ⟨v2, hv2, h⟩ := h
 refine callA_intro (w_s_l06Then _ _ v2 hv2) (.cons (.aggL (.cons .val (.cons .lst (.cons .lst (.cons .lst (.cons .lst (.cons .val (.cons .lst (.cons .lst (.cons .lst (.cons .lst (.cons .lst (.cons .lst .nil))))))))))))) (.cons (.aggL (.cons .val (.cons .lst (.cons .lst (.cons .lst (.cons .lst (.cons .val (.cons .lst (.cons .lst (.cons .lst (.cons .lst (.cons .lst (.cons .lst .nil))))))))))))) .nil)) ?_
 simp [-guardE_b, -Is_at, -Is_at', -Ls_at, -Ls_at', unk, unA, unE, unT, unC, flat, eL, eI, allInts, eP_Cat, eP_Fn, eP_Mnd, Cat.cells, Fn.cells, Mnd.cells]
 repeat (with_reducible refine And.intro ?_ ?_; · first | assumption | omega | (simp; done) | (simp; omega) | simp_all)
 replace h := bind_some h
 obtain ⟨v3, hv3, h⟩ := h
 refine callA_intro (w_s_l15Natural _ _ _ v3 hv3) (.cons (.aggL (.cons .val (.cons (.whole (by simp) (by simp) (by simp)) (.cons (.whole (by simp) (by simp) (by simp)) (.cons (.whole (by simp) (by simp) (by simp)) (.cons (.whole (by simp) (by simp) (by simp)) (.cons .val (.cons (.whole (by simp) (by simp) (by simp)) (.cons (.whole (by simp) (by simp) (by simp)) (.cons (.whole (by simp) (by simp) (by simp)) (.cons (.whole (by simp) (by simp) (by simp)) (.cons (.whole (by simp) (by simp) (by simp)) (.cons (.whole (by simp) (by simp) (by simp)) .nil))))))))))))) (.cons (.aggL (.cons .val (.cons (.whole (by simp) (by simp) (by simp)) (.cons (.whole (by simp) (by simp) (by simp)) (.cons (.whole (by simp) (by simp) (by simp)) (.cons (.whole (by simp) (by simp) (by simp)) (.cons .val (.cons (.whole (by simp) (by simp) (by simp)) (.cons (.whole (by simp) (by simp) (by simp)) (.cons (.whole (by simp) (by simp) (by simp)) (.cons (.whole (by simp) (by simp) (by simp)) (.cons (.whole (by simp) (by simp) (by simp)) (.cons (.whole (by simp) (by simp) (by simp)) .nil))))))))))))) (.cons .lst .nil))) ?_
 simp [-guardE_b, -Is_at, -Is_at', -Ls_at, -Ls_at', unk, unA, unE, unT, unC, flat, eL, eI, allInts, eP_Cat, eP_Fn, eP_Mnd, Cat.cells, Fn.cells, Mnd.cells]
 repeat (with_reducible refine And.intro ?_ ?_; · first | assumption | omega | (simp; done) | (simp; omega) | simp_all)
 refine hK _ ?_
 clear hK K
 refine tn ?_
 refine w_weak (st' := ⟨[(2, .lst true 1 (Is law_)), (3, .adr 0 0 0), (4, .adr 1 0 0), (7, .adr 2 0 0), (28, .val (.bool (!v3)))], [(0, .mix 14 [(Mnd.cells true s_)]), (1, .mix 14 [(Mnd.cells true t_)]), (2, .mix 5 [(Cat.cells true s_.f.s)])], 3⟩) (Wk.r1 [(0, 0), (1, 1), (2, 2)] (by simp [hP, hhOk, back, Cat.cells, Fn.cells, Mnd.cells, IA, I1, LA, L1, BA, B1, EA, E1, E2, eB, eI, eL])) ?_
 refine w_cond rfl (fun g => ?_) fun g => ?_
 · have g4 : ¬ (v3 = true) := by first | simpa using g | (simp at g; exact g) | (simp at g; omega)
   clear g
   replace h := if_l g4 h
   refine w_seq ?_
   refine w_run mo (by rw [hN]; decide) fun K hK => ?_
   simp [-guardE_b, -Is_at, -Is_at', -Ls_at, -Ls_at', eL, eI, allInts, eP_Cat, eP_Fn, eP_Mnd, Cat.cells, Fn.cells, Mnd.cells]
   repeat (with_reducible refine And.intro ?_ ?_; · first | assumption | omega | (simp; done) | (simp; omega) | simp_all)
   refine hK _ ?_
   clear hK K
   refine tn ?_
   refine w_weak (st' := ⟨[(6, .val (.bool false))], [], 0⟩) (Wk.r1 [] (by simp [hP, hhOk, back, Cat.cells, Fn.cells, Mnd.cells, IA, I1, LA, L1, BA, B1, EA, E1, E2, eB, eI, eL])) ?_
   refine w_ret ?_
   refine tr ?_
   have hr := Option.some.inj h
   rw [← hr]
   refine ⟨_, (.tmp .nil), ?_⟩
   refine ⟨(.one rfl rfl .nil), [.val (.bool false)], [], by simp [Cat.cells, Fn.cells, Mnd.cells, IA, I1, LA, L1, BA, B1, EA, E1, E2, eB, eI, eL], by simp, (UpL.refl _)⟩
 have g4 : ¬ (¬ (v3 = true)) := by first | simpa using g | (simp at g; exact g) | (simp at g; omega)
 clear g
 replace h := if_r g4 h
 refine w_skip ?_
 refine tn ?_
 refine w_seq ?_
 refine w_seq ?_
 refine w_run mo (by rw [hN]; decide) fun K hK => ?_
 simp [-guardE_b, -Is_at, -Is_at', -Ls_at, -Ls_at', eL, eI, allInts, eP_Cat, eP_Fn, eP_Mnd, Cat.cells, Fn.cells, Mnd.cells]
 repeat (with_reducible refine And.intro ?_ ?_; · first | assumption | omega | (simp; done) | (simp; omega) | simp_all)
 refine hK _ ?_
 clear hK K
 refine tn ?_
 refine w_weak (st' := ⟨[(2, .lst true 1 (Is law_)), (3, .adr 0 0 0), (4, .adr 1 0 0), (7, .adr 2 0 0), (8, .val (.int .i64 0))], [(0, .mix 14 [(Mnd.cells true s_)]), (1, .mix 14 [(Mnd.cells true t_)]), (2, .mix 5 [(Cat.cells true s_.f.s)])], 3⟩) (Wk.r1 [(0, 0), (1, 1), (2, 2)] (by simp [hP, hhOk, back, Cat.cells, Fn.cells, Mnd.cells, IA, I1, LA, L1, BA, B1, EA, E1, E2, eB, eI, eL])) ?_
 replace h := bind_some h
 obtain ⟨e5, h, h5⟩ := h
 refine w_joinT (fun b5 : Unit => ⟨[], [], 0⟩) (fun b5 => Sum.inl b5 = e5) ?_ ?_
 · refine w_block ?_
   refine w_loopF h (fun s45 : Int => ⟨[(2, .lst true 1 (Is law_)), (3, .adr 0 0 0), (4, .adr 1 0 0), (7, .adr 2 0 0), (8, .val (.int .i64 s45))], [(0, .mix 14 [(Mnd.cells true s_)]), (1, .mix 14 [(Mnd.cells true t_)]), (2, .mix 5 [(Cat.cells true s_.f.s)])], 3⟩) (Wk.r1 [(0, 0), (1, 1), (2, 2)] (by simp [hP, hhOk, back, Cat.cells, Fn.cells, Mnd.cells, IA, I1, LA, L1, BA, B1, EA, E1, E2, eB, eI, eL])) ?_
   clear h
   intro k45 s45 c45 h hk45
   refine w_seq ?_
   refine w_seq ?_
   refine w_run mo (by rw [hN]; decide) fun K hK => ?_
   simp [-guardE_b, -Is_at, -Is_at', -Ls_at, -Ls_at', eL, eI, allInts, eP_Cat, eP_Fn, eP_Mnd, Cat.cells, Fn.cells, Mnd.cells]
   repeat (with_reducible refine And.intro ?_ ?_; · first | assumption | omega | (simp; done) | (simp; omega) | simp_all)
   refine hK _ ?_
   clear hK K
   refine tn ?_
   refine w_weak (st' := ⟨[(2, .lst true 1 (Is law_)), (3, .adr 0 0 0), (4, .adr 1 0 0), (7, .adr 2 0 0), (8, .val (.int .i64 s45)), (32, .val (.bool (decide (s45 < s_.f.s.n))))], [(0, .mix 14 [(Mnd.cells true s_)]), (1, .mix 14 [(Mnd.cells true t_)]), (2, .mix 5 [(Cat.cells true s_.f.s)])], 3⟩) (Wk.r1 [(0, 0), (1, 1), (2, 2)] (by simp [hP, hhOk, back, Cat.cells, Fn.cells, Mnd.cells, IA, I1, LA, L1, BA, B1, EA, E1, E2, eB, eI, eL])) ?_
   refine w_cond rfl (fun g => ?_) fun g => ?_
   · have g46 : s45 < s_.f.s.n := by first | simpa using g | (simp at g; exact g) | (simp at g; omega)
     clear g
     replace h := if_l g46 h
     refine w_skip ?_
     refine tn ?_
     refine w_seq ?_
     refine w_block ?_
     refine w_seq ?_
     refine w_run mo (by rw [hN]; decide) fun K hK => ?_
     replace h := ass_some h
     obtain ⟨a47, h⟩ := h
     replace h := ass_some h
     obtain ⟨a48, h⟩ := h
     simp [-guardE_b, -Is_at, -Is_at', -Ls_at, -Ls_at', eL, eI, allInts, eP_Cat, eP_Fn, eP_Mnd, Cat.cells, Fn.cells, Mnd.cells, at_I a47, at_I a48]
     repeat (with_reducible refine And.intro ?_ ?_; · first | assumption | omega | (simp; done) | (simp; omega) | simp_all)
     refine hK _ ?_
     clear hK K
     refine tn ?_
     refine w_weak (st' := ⟨[(2, .lst true 1 (Is law_)), (3, .adr 0 0 0), (4, .adr 1 0 0), (7, .adr 2 0 0), (8, .val (.int .i64 s45)), (9, .val (.int .i64 (ix s_.f.ob s45))), (10, .val (.int .i64 (ix t_.f.ob s45)))], [(0, .mix 14 [(Mnd.cells true s_)]), (1, .mix 14 [(Mnd.cells true t_)]), (2, .mix 5 [(Cat.cells true s_.f.s)])], 3⟩) (Wk.r1 [(0, 0), (1, 1), (2, 2)] (by simp [hP, hhOk, back, Cat.cells, Fn.cells, Mnd.cells, IA, I1, LA, L1, BA, B1, EA, E1, E2, eB, eI, eL])) ?_
     refine w_seq ?_
     refine w_seq ?_
     replace h := bind_some h
     obtain ⟨e49, h, h49⟩ := h
     refine w_joinT (fun b49 : Bool => ⟨[(2, .lst true 1 (Is law_)), (3, .adr 0 0 0), (4, .adr 1 0 0), (7, .adr 2 0 0), (8, .val (.int .i64 s45)), (9, .val (.int .i64 (ix s_.f.ob s45))), (10, .val (.int .i64 (ix t_.f.ob s45))), (92, .val (.bool b49))], [(0, .mix 14 [(Mnd.cells true s_)]), (1, .mix 14 [(Mnd.cells true t_)]), (2, .mix 5 [(Cat.cells true s_.f.s)])], 3⟩) (fun b49 => b49 = e49) ?_ ?_
     · refine w_run mo (by rw [hN]; decide) fun K hK => ?_
       replace h := ass_some h
       obtain ⟨a50, h⟩ := h
       replace h := ass_some h
       obtain ⟨a51, h⟩ := h
       replace h := ass_some h
       obtain ⟨a52, h⟩ := h
       simp [-guardE_b, -Is_at, -Is_at', -Ls_at, -Ls_at', eL, eI, allInts, eP_Cat, eP_Fn, eP_Mnd, Cat.cells, Fn.cells, Mnd.cells, at_I a50, at_I a51, at_I a52]
       repeat (with_reducible refine And.intro ?_ ?_; · first | assumption | omega | (simp; done) | (simp; omega) | simp_all)
       replace h := bind_some h
       obtain ⟨v53, hv53, h⟩ := h
       refine callA_intro (w_s_l02Then _ _ _ v53 hv53) (.cons (.aggL (.cons .val (.cons .lst (.cons .lst (.cons .lst (.cons .lst .nil)))))) (.cons .val (.cons .val .nil))) ?_
       replace h := ass_some h
       obtain ⟨a54, h⟩ := h
       simp [-guardE_b, -Is_at, -Is_at', -Ls_at, -Ls_at', unk, unA, unE, unT, unC, flat, eL, eI, allInts, eP_Cat, eP_Fn, eP_Mnd, Cat.cells, Fn.cells, Mnd.cells, at_I a54]
       repeat (with_reducible refine And.intro ?_ ?_; · first | assumption | omega | (simp; done) | (simp; omega) | simp_all)
       refine guard_intro (fun g => ?_) (fun g => ?_)
       · have g55 : ¬ (¬ (v53 = (ix t_.u (ix s_.f.ob s45)))) := by first | simpa using g | (simp at g; exact g) | (simp at g; omega)
         clear g
         replace h := if_r g55 h
         replace h := ass_some h
         obtain ⟨a56, h⟩ := h
         replace h := ass_some h
         obtain ⟨a57, h⟩ := h
         simp [-guardE_b, -Is_at, -Is_at', -Ls_at, -Ls_at', eL, eI, allInts, eP_Cat, eP_Fn, eP_Mnd, Cat.cells, Fn.cells, Mnd.cells, at_I a56, at_I a57]
         repeat (with_reducible refine And.intro ?_ ?_; · first | assumption | omega | (simp; done) | (simp; omega) | simp_all)
         replace h := bind_some h
         obtain ⟨v58, hv58, h⟩ := h
         refine callA_intro (w_s_l02Then _ _ _ v58 hv58) (.cons (.aggL (.cons .val (.cons .lst (.cons .lst (.cons .lst (.cons .lst .nil)))))) (.cons .val (.cons .val .nil))) ?_
         replace h := ass_some h
         obtain ⟨a59, h⟩ := h
         replace h := ass_some h
         obtain ⟨a60, h⟩ := h
         simp [-guardE_b, -Is_at, -Is_at', -Ls_at, -Ls_at', unk, unA, unE, unT, unC, flat, eL, eI, allInts, eP_Cat, eP_Fn, eP_Mnd, Cat.cells, Fn.cells, Mnd.cells, at_I a59, at_I a60]
         repeat (with_reducible refine And.intro ?_ ?_; · first | assumption | omega | (simp; done) | (simp; omega) | simp_all)
         refine hK _ ?_
         exact jn (b := v58 != (ix t_.f.ar (ix s_.u s45))) (Option.some.inj h) (Wk.r1 [(0, 0), (1, 1), (2, 2)] (by simp [hP, hhOk, back, Cat.cells, Fn.cells, Mnd.cells, IA, I1, LA, L1, BA, B1, EA, E1, E2, eB, eI, eL]))
       have g55 : ¬ (v53 = (ix t_.u (ix s_.f.ob s45))) := by first | simpa using g | (simp at g; exact g) | (simp at g; omega)
       clear g
       replace h := if_l g55 h
       simp [-guardE_b, -Is_at, -Is_at', -Ls_at, -Ls_at', eL, eI, allInts, eP_Cat, eP_Fn, eP_Mnd, Cat.cells, Fn.cells, Mnd.cells]
       repeat (with_reducible refine And.intro ?_ ?_; · first | assumption | omega | (simp; done) | (simp; omega) | simp_all)
       refine hK _ ?_
       exact jn (b := true) (Option.some.inj h) (Wk.r1 [(0, 0), (1, 1), (2, 2)] (by simp [hP, hhOk, back, Cat.cells, Fn.cells, Mnd.cells, IA, I1, LA, L1, BA, B1, EA, E1, E2, eB, eI, eL]))
     intro b49 hb49
     have h := h49
     rw [← hb49] at h
     clear h49
     try dsimp only at h
     refine w_cond rfl (fun g => ?_) fun g => ?_
     · have g61 : b49 = true := by first | simpa using g | (simp at g; exact g) | (simp at g; omega)
       clear g
       replace h := if_l g61 h
       refine w_seq ?_
       refine w_run mo (by rw [hN]; decide) fun K hK => ?_
       simp [-guardE_b, -Is_at, -Is_at', -Ls_at, -Ls_at', eL, eI, allInts, eP_Cat, eP_Fn, eP_Mnd, Cat.cells, Fn.cells, Mnd.cells]
       repeat (with_reducible refine And.intro ?_ ?_; · first | assumption | omega | (simp; done) | (simp; omega) | simp_all)
       refine hK _ ?_
       clear hK K
       refine tn ?_
       refine w_weak (st' := ⟨[(6, .val (.bool false))], [], 0⟩) (Wk.r1 [] (by simp [hP, hhOk, back, Cat.cells, Fn.cells, Mnd.cells, IA, I1, LA, L1, BA, B1, EA, E1, E2, eB, eI, eL])) ?_
       refine w_ret ?_
       refine tr ?_
       refine br ?_
       refine tr ?_
       refine lr ?_
       refine br ?_
       refine tr ?_
       cases h
       have q : _ = e5 := hk45
       have h := h5
       rw [← q] at h
       clear q
       try dsimp only at h
       have hr := Option.some.inj h
       rw [← hr]
       refine ⟨_, (.tmp .nil), ?_⟩
       refine ⟨(.one rfl rfl .nil), [.val (.bool false)], [], by simp [Cat.cells, Fn.cells, Mnd.cells, IA, I1, LA, L1, BA, B1, EA, E1, E2, eB, eI, eL], by simp, (UpL.refl _)⟩
     have g61 : ¬ (b49 = true) := by first | simpa using g | (simp at g; exact g) | (simp at g; omega)
     clear g
     replace h := if_r g61 h
     refine w_skip ?_
     refine tn ?_
     refine w_seq ?_
     refine w_run mo (by rw [hN]; decide) fun K hK => ?_
     replace h := ass_some h
     obtain ⟨a62, h⟩ := h
     replace h := ass_some h
     obtain ⟨a63, h⟩ := h
     replace h := ass_some h
     obtain ⟨a64, h⟩ := h
     simp [-guardE_b, -Is_at, -Is_at', -Ls_at, -Ls_at', eL, eI, allInts, eP_Cat, eP_Fn, eP_Mnd, Cat.cells, Fn.cells, Mnd.cells, at_I a62, at_I a63, at_I a64]
     repeat (with_reducible refine And.intro ?_ ?_; · first | assumption | omega | (simp; done) | (simp; omega) | simp_all)
     replace h := bind_some h
     obtain ⟨v65, hv65, h⟩ := h
     refine callA_intro (w_s_l02Then _ _ _ v65 hv65) (.cons (.aggL (.cons .val (.cons .lst (.cons .lst (.cons .lst (.cons .lst .nil)))))) (.cons .val (.cons .val .nil))) ?_
     replace h := ass_some h
     obtain ⟨a66, h⟩ := h
     simp [-guardE_b, -Is_at, -Is_at', -Ls_at, -Ls_at', unk, unA, unE, unT, unC, flat, eL, eI, allInts, eP_Cat, eP_Fn, eP_Mnd, Cat.cells, Fn.cells, Mnd.cells, at_I a66]
     repeat (with_reducible refine And.intro ?_ ?_; · first | assumption | omega | (simp; done) | (simp; omega) | simp_all)
     replace h := bind_some h
     obtain ⟨v67, hv67, h⟩ := h
     refine callA_intro (w_s_l02Then _ _ _ v67 hv67) (.cons (.aggL (.cons .val (.cons .lst (.cons .lst (.cons .lst (.cons .lst .nil)))))) (.cons .val (.cons .val .nil))) ?_
     simp [-guardE_b, -Is_at, -Is_at', -Ls_at, -Ls_at', unk, unA, unE, unT, unC, flat, eL, eI, allInts, eP_Cat, eP_Fn, eP_Mnd, Cat.cells, Fn.cells, Mnd.cells]
     repeat (with_reducible refine And.intro ?_ ?_; · first | assumption | omega | (simp; done) | (simp; omega) | simp_all)
     refine hK _ ?_
     clear hK K
     refine tn ?_
     refine w_weak (st' := ⟨[(2, .lst true 1 (Is law_)), (3, .adr 0 0 0), (4, .adr 1 0 0), (7, .adr 2 0 0), (8, .val (.int .i64 s45)), (9, .val (.int .i64 (ix s_.f.ob s45))), (10, .val (.int .i64 (ix t_.f.ob s45))), (11, .val (.int .i64 v67))], [(0, .mix 14 [(Mnd.cells true s_)]), (1, .mix 14 [(Mnd.cells true t_)]), (2, .mix 5 [(Cat.cells true s_.f.s)])], 3⟩) (Wk.r1 [(0, 0), (1, 1), (2, 2)] (by simp [hP, hhOk, back, Cat.cells, Fn.cells, Mnd.cells, IA, I1, LA, L1, BA, B1, EA, E1, E2, eB, eI, eL])) ?_
     refine w_seq ?_
     refine w_seq ?_
     refine w_run mo (by rw [hN]; decide) fun K hK => ?_
     replace h := ass_some h
     obtain ⟨a68, h⟩ := h
     replace h := ass_some h
     obtain ⟨a69, h⟩ := h
     replace h := ass_some h
     obtain ⟨a70, h⟩ := h
     simp [-guardE_b, -Is_at, -Is_at', -Ls_at, -Ls_at', eL, eI, allInts, eP_Cat, eP_Fn, eP_Mnd, Cat.cells, Fn.cells, Mnd.cells, at_I a68, at_I a69, at_I a70]
     repeat (with_reducible refine And.intro ?_ ?_; · first | assumption | omega | (simp; done) | (simp; omega) | simp_all)
     replace h := bind_some h
     obtain ⟨v71, hv71, h⟩ := h
     refine callA_intro (w_s_l02Then _ _ _ v71 hv71) (.cons (.aggL (.cons .val (.cons .lst (.cons .lst (.cons .lst (.cons .lst .nil)))))) (.cons .val (.cons .val .nil))) ?_
     simp [-guardE_b, -Is_at, -Is_at', -Ls_at, -Ls_at', unk, unA, unE, unT, unC, flat, eL, eI, allInts, eP_Cat, eP_Fn, eP_Mnd, Cat.cells, Fn.cells, Mnd.cells]
     repeat (with_reducible refine And.intro ?_ ?_; · first | assumption | omega | (simp; done) | (simp; omega) | simp_all)
     refine hK _ ?_
     clear hK K
     refine tn ?_
     refine w_weak (st' := ⟨[(2, .lst true 1 (Is law_)), (3, .adr 0 0 0), (4, .adr 1 0 0), (7, .adr 2 0 0), (8, .val (.int .i64 s45)), (9, .val (.int .i64 (ix s_.f.ob s45))), (10, .val (.int .i64 (ix t_.f.ob s45))), (132, .val (.bool (v71 != v67)))], [(0, .mix 14 [(Mnd.cells true s_)]), (1, .mix 14 [(Mnd.cells true t_)]), (2, .mix 5 [(Cat.cells true s_.f.s)])], 3⟩) (Wk.r1 [(0, 0), (1, 1), (2, 2)] (by simp [hP, hhOk, back, Cat.cells, Fn.cells, Mnd.cells, IA, I1, LA, L1, BA, B1, EA, E1, E2, eB, eI, eL])) ?_
     refine w_cond rfl (fun g => ?_) fun g => ?_
     · have g72 : ¬ (v71 = v67) := by first | simpa using g | (simp at g; exact g) | (simp at g; omega)
       clear g
       replace h := if_l g72 h
       refine w_seq ?_
       refine w_run mo (by rw [hN]; decide) fun K hK => ?_
       simp [-guardE_b, -Is_at, -Is_at', -Ls_at, -Ls_at', eL, eI, allInts, eP_Cat, eP_Fn, eP_Mnd, Cat.cells, Fn.cells, Mnd.cells]
       repeat (with_reducible refine And.intro ?_ ?_; · first | assumption | omega | (simp; done) | (simp; omega) | simp_all)
       refine hK _ ?_
       clear hK K
       refine tn ?_
       refine w_weak (st' := ⟨[(6, .val (.bool false))], [], 0⟩) (Wk.r1 [] (by simp [hP, hhOk, back, Cat.cells, Fn.cells, Mnd.cells, IA, I1, LA, L1, BA, B1, EA, E1, E2, eB, eI, eL])) ?_
       refine w_ret ?_
       refine tr ?_
       refine br ?_
       refine tr ?_
       refine lr ?_
       refine br ?_
       refine tr ?_
       cases h
       have q : _ = e5 := hk45
       have h := h5
       rw [← q] at h
       clear q
       try dsimp only at h
       have hr := Option.some.inj h
       rw [← hr]
       refine ⟨_, (.tmp .nil), ?_⟩
       refine ⟨(.one rfl rfl .nil), [.val (.bool false)], [], by simp [Cat.cells, Fn.cells, Mnd.cells, IA, I1, LA, L1, BA, B1, EA, E1, E2, eB, eI, eL], by simp, (UpL.refl _)⟩
     have g72 : ¬ (¬ (v71 = v67)) := by first | simpa using g | (simp at g; exact g) | (simp at g; omega)
     clear g
     replace h := if_r g72 h
     refine w_skip ?_
     refine tn ?_
     refine w_seq ?_
     refine w_run mo (by rw [hN]; decide) fun K hK => ?_
     replace h := ass_some h
     obtain ⟨a73, h⟩ := h
     replace h := ass_some h
     obtain ⟨a74, h⟩ := h
     replace h := ass_some h
     obtain ⟨a75, h⟩ := h
     simp [-guardE_b, -Is_at, -Is_at', -Ls_at, -Ls_at', eL, eI, allInts, eP_Cat, eP_Fn, eP_Mnd, Cat.cells, Fn.cells, Mnd.cells, at_I a73, at_I a74, at_I a75]
     repeat (with_reducible refine And.intro ?_ ?_; · first | assumption | omega | (simp; done) | (simp; omega) | simp_all)
     replace h := bind_some h
     obtain ⟨v76, hv76, h⟩ := h
     refine callA_intro (w_s_l02Then _ _ _ v76 hv76) (.cons (.aggL (.cons .val (.cons .lst (.cons .lst (.cons .lst (.cons .lst .nil)))))) (.cons .val (.cons .val .nil))) ?_
     replace h := ass_some h
     obtain ⟨a77, h⟩ := h
     replace h := ass_some h
     obtain ⟨a78, h⟩ := h
     simp [-guardE_b, -Is_at, -Is_at', -Ls_at, -Ls_at', unk, unA, unE, unT, unC, flat, eL, eI, allInts, eP_Cat, eP_Fn, eP_Mnd, Cat.cells, Fn.cells, Mnd.cells, at_I a77, at_I a78]
     repeat (with_reducible refine And.intro ?_ ?_; · first | assumption | omega | (simp; done) | (simp; omega) | simp_all)
     replace h := bind_some h
     obtain ⟨v79, hv79, h⟩ := h
     refine callA_intro (w_s_l02Then _ _ _ v79 hv79) (.cons (.aggL (.cons .val (.cons .lst (.cons .lst (.cons .lst (.cons .lst .nil)))))) (.cons .val (.cons .val .nil))) ?_
     simp [-guardE_b, -Is_at, -Is_at', -Ls_at, -Ls_at', unk, unA, unE, unT, unC, flat, eL, eI, allInts, eP_Cat, eP_Fn, eP_Mnd, Cat.cells, Fn.cells, Mnd.cells]
     repeat (with_reducible refine And.intro ?_ ?_; · first | assumption | omega | (simp; done) | (simp; omega) | simp_all)
     refine hK _ ?_
     clear hK K
     refine tn ?_
     refine w_weak (st' := ⟨[(2, .lst true 1 (Is law_)), (3, .adr 0 0 0), (4, .adr 1 0 0), (7, .adr 2 0 0), (8, .val (.int .i64 s45)), (10, .val (.int .i64 (ix t_.f.ob s45))), (12, .val (.int .i64 v79))], [(0, .mix 14 [(Mnd.cells true s_)]), (1, .mix 14 [(Mnd.cells true t_)]), (2, .mix 5 [(Cat.cells true s_.f.s)])], 3⟩) (Wk.r1 [(0, 0), (1, 1), (2, 2)] (by simp [hP, hhOk, back, Cat.cells, Fn.cells, Mnd.cells, IA, I1, LA, L1, BA, B1, EA, E1, E2, eB, eI, eL])) ?_
     refine w_seq ?_
     refine w_run mo (by rw [hN]; decide) fun K hK => ?_
     replace h := ass_some h
     obtain ⟨a80, h⟩ := h
     replace h := ass_some h
     obtain ⟨a81, h⟩ := h
     simp [-guardE_b, -Is_at, -Is_at', -Ls_at, -Ls_at', eL, eI, allInts, eP_Cat, eP_Fn, eP_Mnd, Cat.cells, Fn.cells, Mnd.cells, at_I a80, at_I a81]
     repeat (with_reducible refine And.intro ?_ ?_; · first | assumption | omega | (simp; done) | (simp; omega) | simp_all)
     replace h := bind_some h
     obtain ⟨v82, hv82, h⟩ := h
     refine callA_intro (w_s_l02Then _ _ _ v82 hv82) (.cons (.aggL (.cons .val (.cons .lst (.cons .lst (.cons .lst (.cons .lst .nil)))))) (.cons .val (.cons .val .nil))) ?_
     simp [-guardE_b, -Is_at, -Is_at', -Ls_at, -Ls_at', unk, unA, unE, unT, unC, flat, eL, eI, allInts, eP_Cat, eP_Fn, eP_Mnd, Cat.cells, Fn.cells, Mnd.cells]
     repeat (with_reducible refine And.intro ?_ ?_; · first | assumption | omega | (simp; done) | (simp; omega) | simp_all)
     refine hK _ ?_
     clear hK K
     refine tn ?_
     refine w_weak (st' := ⟨[(2, .lst true 1 (Is law_)), (3, .adr 0 0 0), (4, .adr 1 0 0), (7, .adr 2 0 0), (8, .val (.int .i64 s45)), (172, .val (.bool (v82 != v79)))], [(0, .mix 14 [(Mnd.cells true s_)]), (1, .mix 14 [(Mnd.cells true t_)]), (2, .mix 5 [(Cat.cells true s_.f.s)])], 3⟩) (Wk.r1 [(0, 0), (1, 1), (2, 2)] (by simp [hP, hhOk, back, Cat.cells, Fn.cells, Mnd.cells, IA, I1, LA, L1, BA, B1, EA, E1, E2, eB, eI, eL])) ?_
     refine w_cond rfl (fun g => ?_) fun g => ?_
     · have g83 : ¬ (v82 = v79) := by first | simpa using g | (simp at g; exact g) | (simp at g; omega)
       clear g
       replace h := if_l g83 h
       refine w_seq ?_
       refine w_run mo (by rw [hN]; decide) fun K hK => ?_
       simp [-guardE_b, -Is_at, -Is_at', -Ls_at, -Ls_at', eL, eI, allInts, eP_Cat, eP_Fn, eP_Mnd, Cat.cells, Fn.cells, Mnd.cells]
       repeat (with_reducible refine And.intro ?_ ?_; · first | assumption | omega | (simp; done) | (simp; omega) | simp_all)
       refine hK _ ?_
       clear hK K
       refine tn ?_
       refine w_weak (st' := ⟨[(6, .val (.bool false))], [], 0⟩) (Wk.r1 [] (by simp [hP, hhOk, back, Cat.cells, Fn.cells, Mnd.cells, IA, I1, LA, L1, BA, B1, EA, E1, E2, eB, eI, eL])) ?_
       refine w_ret ?_
       refine br ?_
       refine tr ?_
       refine lr ?_
       refine br ?_
       refine tr ?_
       cases h
       have q : _ = e5 := hk45
       have h := h5
       rw [← q] at h
       clear q
       try dsimp only at h
       have hr := Option.some.inj h
       rw [← hr]
       refine ⟨_, (.tmp .nil), ?_⟩
       refine ⟨(.one rfl rfl .nil), [.val (.bool false)], [], by simp [Cat.cells, Fn.cells, Mnd.cells, IA, I1, LA, L1, BA, B1, EA, E1, E2, eB, eI, eL], by simp, (UpL.refl _)⟩
     have g83 : ¬ (¬ (v82 = v79)) := by first | simpa using g | (simp at g; exact g) | (simp at g; omega)
     clear g
     replace h := if_r g83 h
     refine w_skip ?_
     refine bn ?_
     refine tn ?_
     refine w_run mo (by rw [hN]; decide) fun K hK => ?_
     replace h := ass_some h
     obtain ⟨a84, h⟩ := h
     simp [-guardE_b, -Is_at, -Is_at', -Ls_at, -Ls_at', eL, eI, allInts, eP_Cat, eP_Fn, eP_Mnd, Cat.cells, Fn.cells, Mnd.cells, wrap_id a84]
     repeat (with_reducible refine And.intro ?_ ?_; · first | assumption | omega | (simp; done) | (simp; omega) | simp_all)
     refine hK _ ?_
     clear hK K
     cases h
     exact rn (s' := s45 + 1) hk45 (Wk.r1 [(0, 0), (1, 1), (2, 2)] (by simp [hP, hhOk, back, Cat.cells, Fn.cells, Mnd.cells, IA, I1, LA, L1, BA, B1, EA, E1, E2, eB, eI, eL]))
   have g46 : ¬ (s45 < s_.f.s.n) := by first | simpa using g | (simp at g; exact g) | (simp at g; omega)
   clear g
   replace h := if_r g46 h
   refine w_exit ?_
   refine tx ?_
   refine lx ?_
   refine bh ?_
   cases h
   exact jn (b := ()) hk45 (Wk.r1 [] (by simp [hP, hhOk, back, Cat.cells, Fn.cells, Mnd.cells, IA, I1, LA, L1, BA, B1, EA, E1, E2, eB, eI, eL]))
 intro b5 hb5
 have h := h5
 rw [← hb5] at h
 clear h5
 try dsimp only at h
 refine w_seq ?_
 refine w_run mo (by rw [hN]; decide) fun K hK => ?_
 simp [-guardE_b, -Is_at, -Is_at', -Ls_at, -Ls_at', eL, eI, allInts, eP_Cat, eP_Fn, eP_Mnd, Cat.cells, Fn.cells, Mnd.cells]
 repeat (with_reducible refine And.intro ?_ ?_; · first | assumption | omega | (simp; done) | (simp; omega) | simp_all)
 refine hK _ ?_
 clear hK K
 refine tn ?_
 refine w_weak (st' := ⟨[(6, .val (.bool true))], [], 0⟩) (Wk.r1 [] (by simp [hP, hhOk, back, Cat.cells, Fn.cells, Mnd.cells, IA, I1, LA, L1, BA, B1, EA, E1, E2, eB, eI, eL])) ?_
 refine w_ret ?_
 have hr := Option.some.inj h
 rw [← hr]
 refine ⟨_, (.tmp .nil), ?_⟩
 refine ⟨(.one rfl rfl .nil), [.val (.bool true)], [], by simp [Cat.cells, Fn.cells, Mnd.cells, IA, I1, LA, L1, BA, B1, EA, E1, E2, eB, eI, eL], by simp, (UpL.refl _)⟩
end Go.Vc.T

set_option maxRecDepth 100000
set_option linter.unusedSimpArgs false
set_option linter.unusedVariables false
namespace Go.Vc.T
open Go Go.Vc Go.Proofs
def tab {α : Type} (n : Nat) (g : Nat → α) : List α := (List.range n).map g
@[simp] theorem tab_length {α : Type} (n : Nat) (g : Nat → α) : (tab n g).length = n := by simp [tab]
theorem tab_succ {α : Type} (n : Nat) (g : Nat → α) : tab (n + 1) g = tab n g ++ [g n] := by simp [tab, List.range_succ]
theorem Cat.Is.size {c : Cat} (h : c.Is) : c.size ≤ 2000 := h.1.size2.2
theorem Fn.Is.ok {f : Fn} (h : f.Is) : f.ok ∧ f.size ≤ 4048 := by
 have h1 := h.lob
 have h2 := h.lar
 have h3 := h.s.size
 have h4 := h.t.size
 exact ⟨⟨h.s.ok, h.t.ok, by omega, by omega⟩, by simp only [Fn.size]; omega⟩
def zeroF : Fn := ⟨⟨0, [], [], [], []⟩, ⟨0, [], [], [], []⟩, [], []⟩
end Go.Vc.T

set_option maxRecDepth 100000
set_option linter.unusedSimpArgs false
set_option linter.unusedVariables false
namespace Go.Vc.T
open Go Go.Vc Go.Proofs
structure Mnd.Pre (m : Mnd) : Prop where
 f : m.f.Is
 e : m.f.s = m.f.t
 n1 : NatT (selfF m.f.s) m.f m.u
 n2 : NatT (thenF m.f m.f) m.f m.j
structure Mnd.Is (m : Mnd) : Prop where
 pre : m.Pre
 l1 : ∀ x : Nat, x < m.f.ob.length → ix (rx m.f.s.cs (ix m.f.ar (ix m.u x))) (ix m.j x) = ix m.f.s.id (ix m.f.ob x) ∧ ix (rx m.f.s.cs (ix m.u (ix m.f.ob x))) (ix m.j x) = ix m.f.s.id (ix m.f.ob x)
 l2 : ∀ x : Nat, x < m.f.ob.length → ix (rx m.f.s.cs (ix m.f.ar (ix m.j x))) (ix m.j x) = ix (rx m.f.s.cs (ix m.j (ix m.f.ob x))) (ix m.j x)
theorem Mnd.Pre.len {m : Mnd} (h : m.Pre) : m.u.length = m.f.ob.length ∧ m.j.length = m.f.ob.length ∧ (m.f.ob.length : Int) = m.f.s.n ∧ m.f.ar.length = m.f.s.fr.length ∧ (m.f.s.id.length : Int) = m.f.s.n ∧ m.f.s.cs.length = m.f.s.fr.length ∧ m.f.s.to.length = m.f.s.fr.length ∧ m.f.s.fr.length ≤ 40 ∧ m.f.ob.length ≤ 8 := by
 have h1 := h.n1.lp
 have h2 := h.n2.lp
 have h3 := h.f.lo
 have h5 := h.f.la
 have h6 := h.f.s.1.li
 simp only [selfF, thenF, iota_length, thenL_length] at h1 h2
 exact ⟨by omega, by omega, h3, h5, h6, h.f.s.1.lc, h.f.s.1.lt, h.f.s.1.m40, h.f.lob⟩
theorem Mnd.Pre.ob {m : Mnd} (h : m.Pre) {x : Int} (h0 : 0 ≤ x) (h1 : x < m.f.ob.length) : 0 ≤ ix m.f.ob x ∧ ix m.f.ob x < m.f.ob.length := by
 have := ix_bnd h.f.ob h0 h1
 rw [← h.e, ← h.f.lo] at this
 exact this
theorem Mnd.Pre.ar {m : Mnd} (h : m.Pre) {f : Int} (h0 : 0 ≤ f) (h1 : f < m.f.s.fr.length) : (0 ≤ ix m.f.ar f ∧ ix m.f.ar f < m.f.s.fr.length) ∧ ix m.f.s.fr (ix m.f.ar f) = ix m.f.ob (ix m.f.s.fr f) ∧ ix m.f.s.to (ix m.f.ar f) = ix m.f.ob (ix m.f.s.to f) := by
 have hla := h.f.la
 have q1 := h.f.ar
 have q2 := h.f.ends
 rw [← h.e] at q1 q2
 obtain ⟨i, rfl⟩ : ∃ i : Nat, f = i := ⟨f.toNat, by omega⟩
 exact ⟨q1 i (by omega), q2 i (by omega)⟩
theorem Mnd.Pre.unit {m : Mnd} (h : m.Pre) {x : Int} (h0 : 0 ≤ x) (h1 : x < m.f.ob.length) : (0 ≤ ix m.u x ∧ ix m.u x < m.f.s.fr.length) ∧ ix m.f.s.fr (ix m.u x) = x ∧ ix m.f.s.to (ix m.u x) = ix m.f.ob x := by
 obtain ⟨l1, l2, l3, l4, l5, l6, l7, l8, l9⟩ := h.len
 obtain ⟨i, rfl⟩ : ∃ i : Nat, x = i := ⟨x.toNat, by omega⟩
 have q1 := h.n1.bd i (by omega)
 have q2 := h.n1.ends i (by omega)
 simp only [selfF] at q1 q2
 rw [ix_iota _ (by omega) (by omega)] at q2
 exact ⟨q1, q2⟩
theorem Mnd.Pre.join {m : Mnd} (h : m.Pre) {x : Int} (h0 : 0 ≤ x) (h1 : x < m.f.ob.length) : (0 ≤ ix m.j x ∧ ix m.j x < m.f.s.fr.length) ∧ ix m.f.s.fr (ix m.j x) = ix m.f.ob (ix m.f.ob x) ∧ ix m.f.s.to (ix m.j x) = ix m.f.ob x := by
 obtain ⟨l1, l2, l3, l4, l5, l6, l7, l8, l9⟩ := h.len
 obtain ⟨i, rfl⟩ : ∃ i : Nat, x = i := ⟨x.toNat, by omega⟩
 have q1 := h.n2.bd i (by omega)
 have q2 := h.n2.ends i (by omega)
 simp only [thenF] at q1 q2
 rw [← h.e] at q1 q2
 rw [ix_thenL _ _ (by omega) (by omega)] at q2
 exact ⟨q1, q2⟩
theorem Cat.Is.two {c : Cat} (h : c.Is) {f g : Int} (f0 : 0 ≤ f ∧ f < c.fr.length) (g0 : 0 ≤ g ∧ g < c.fr.length) (e : ix c.to f = ix c.fr g) : (0 ≤ ix (rx c.cs f) g ∧ ix (rx c.cs f) g < c.fr.length) ∧ ix c.fr (ix (rx c.cs f) g) = ix c.fr f ∧ ix c.to (ix (rx c.cs f) g) = ix c.to g := by
 have := (h.1.cell' f0.1 f0.2 g0.1 g0.2).2 e
 exact ⟨⟨this.1, this.2.1⟩, this.2.2⟩
theorem e_Then {c : Cat} (h : c.Is) {f g : Int} (f0 : 0 ≤ f ∧ f < c.fr.length) (g0 : 0 ≤ g ∧ g < c.fr.length) : s_s_l02Then c f g = some (ix (rx c.cs f) g) ∧ s_i_Category_then c f g = some (ix (rx c.cs f) g) := by
 have h1 := h.1.lc
 have h2 := h.1.row' f0.1 f0.2
 exact ⟨e_l02Then (by omega) (by omega), e_Cthen (by omega) (by omega)⟩
theorem e_UnitAt {c : Cat} (h : c.Is) {f x : Int} (f0 : 0 ≤ f ∧ f < c.fr.length) (e : ix c.fr f = x) : s_s_l02Unit c f = some (bo (f = ix c.id x)) := by rw [e_l02Unit h f0.1 f0.2, e]
theorem mpara1 {f : Fn} (h : f.Is) (e : f.s = f.t) : Para (selfF f.s) f := ⟨self_is h.s, h, rfl, by simp [selfF, e]⟩
theorem mpara2 {f : Fn} (h : f.Is) (e : f.s = f.t) : Para (thenF f f) f := ⟨then_is h h e.symm, h, rfl, by simp [thenF]⟩
structure Mnd.At (m : Mnd) (x : Int) : Prop where
 o : 0 ≤ ix m.f.ob x ∧ ix m.f.ob x < m.f.ob.length
 u : 0 ≤ ix m.u x ∧ ix m.u x < m.f.s.fr.length
 j : 0 ≤ ix m.j x ∧ ix m.j x < m.f.s.fr.length
 au : 0 ≤ ix m.f.ar (ix m.u x) ∧ ix m.f.ar (ix m.u x) < m.f.s.fr.length
 uo : 0 ≤ ix m.u (ix m.f.ob x) ∧ ix m.u (ix m.f.ob x) < m.f.s.fr.length
 aj : 0 ≤ ix m.f.ar (ix m.j x) ∧ ix m.f.ar (ix m.j x) < m.f.s.fr.length
 jo : 0 ≤ ix m.j (ix m.f.ob x) ∧ ix m.j (ix m.f.ob x) < m.f.s.fr.length
 c1 : (0 ≤ ix (rx m.f.s.cs (ix m.f.ar (ix m.u x))) (ix m.j x) ∧ ix (rx m.f.s.cs (ix m.f.ar (ix m.u x))) (ix m.j x) < m.f.s.fr.length) ∧ ix m.f.s.fr (ix (rx m.f.s.cs (ix m.f.ar (ix m.u x))) (ix m.j x)) = ix m.f.ob x
 c2 : (0 ≤ ix (rx m.f.s.cs (ix m.u (ix m.f.ob x))) (ix m.j x) ∧ ix (rx m.f.s.cs (ix m.u (ix m.f.ob x))) (ix m.j x) < m.f.s.fr.length) ∧ ix m.f.s.fr (ix (rx m.f.s.cs (ix m.u (ix m.f.ob x))) (ix m.j x)) = ix m.f.ob x
theorem Mnd.Pre.at {m : Mnd} (h : m.Pre) {x : Int} (h0 : 0 ≤ x) (h1 : x < m.f.ob.length) : m.At x := by
 have o := h.ob h0 h1
 obtain ⟨u1, u2, u3⟩ := h.unit h0 h1
 obtain ⟨j1, j2, j3⟩ := h.join h0 h1
 obtain ⟨a1, a2, a3⟩ := h.ar u1.1 u1.2
 obtain ⟨v1, v2, v3⟩ := h.unit o.1 o.2
 obtain ⟨b1, b2, b3⟩ := h.ar j1.1 j1.2
 obtain ⟨k1, k2, k3⟩ := h.join o.1 o.2
 have c1 := h.f.s.two a1 j1 (by rw [a3, u3, j2])
 have c2 := h.f.s.two v1 j1 (by rw [v3, j2])
 exact ⟨o, u1, j1, a1, v1, b1, k1, ⟨c1.1, by rw [c1.2.1, a2, u2]⟩, c2.1, by rw [c2.2.1, v2]⟩
theorem e_l16Laws {m : Mnd} (h : m.Pre) : s_s_l16Laws m.f m.u m.j = some (bo m.Is) := by
 obtain ⟨l1, l2, l3, l4, l5, l6, l7, l8, l9⟩ := h.len
 have hc := h.f.s
 unfold s_s_l16Laws
 refine chk_bind m.f.ob.length (fun x : Nat => (ix (rx m.f.s.cs (ix m.f.ar (ix m.u x))) (ix m.j x) = ix m.f.s.id (ix m.f.ob x) ∧ ix (rx m.f.s.cs (ix m.u (ix m.f.ob x))) (ix m.j x) = ix m.f.s.id (ix m.f.ob x)) ∧ ix (rx m.f.s.cs (ix m.f.ar (ix m.j x))) (ix m.j x) = ix (rx m.f.s.cs (ix m.j (ix m.f.ob x))) (ix m.j x)) (eb := Sum.inr false) (eg := Sum.inl ()) (by omega) (fun x hi hq => ?_) (fun x hi hq => ?_) (by simp; try omega) (fun hx => ?_) fun q => ?_
 · have a := h.at (x := x) (by omega) (by omega)
   obtain ⟨a1, a2, a3, a4, a5, a6, a7, a8, a9⟩ := a
   simp (disch := omega) only [ass_pos, (e_Then hc a4 a3).1, (e_Then hc a5 a3).1, (e_Then hc a6 a3).1, (e_Then hc a7 a3).1, e_UnitAt hc a8.1 a8.2, e_UnitAt hc a9.1 a9.2, Option.bind_some]
   simp (disch := omega) [ass_pos, B64, hq.1.1, hq.1.2, hq.2, bo]; try omega
 · have a := h.at (x := x) (by omega) (by omega)
   obtain ⟨a1, a2, a3, a4, a5, a6, a7, a8, a9⟩ := a
   by_cases q1 : ix (rx m.f.s.cs (ix m.f.ar (ix m.u x))) (ix m.j x) = ix m.f.s.id (ix m.f.ob x)
   case neg =>
     simp (disch := omega) only [ass_pos, (e_Then hc a4 a3).1, (e_Then hc a5 a3).1, (e_Then hc a6 a3).1, (e_Then hc a7 a3).1, e_UnitAt hc a8.1 a8.2, e_UnitAt hc a9.1 a9.2, Option.bind_some]
     simp (disch := omega) [ass_pos, B64, q1, bo]; try omega
   by_cases q2 : ix (rx m.f.s.cs (ix m.u (ix m.f.ob x))) (ix m.j x) = ix m.f.s.id (ix m.f.ob x)
   case neg =>
     simp (disch := omega) only [ass_pos, (e_Then hc a4 a3).1, (e_Then hc a5 a3).1, (e_Then hc a6 a3).1, (e_Then hc a7 a3).1, e_UnitAt hc a8.1 a8.2, e_UnitAt hc a9.1 a9.2, Option.bind_some]
     simp (disch := omega) [ass_pos, B64, q1, q2, bo]; try omega
   have q3 : ¬ ix (rx m.f.s.cs (ix m.f.ar (ix m.j x))) (ix m.j x) = ix (rx m.f.s.cs (ix m.j (ix m.f.ob x))) (ix m.j x) := fun q => hq ⟨⟨q1, q2⟩, q⟩
   simp (disch := omega) only [ass_pos, (e_Then hc a4 a3).1, (e_Then hc a5 a3).1, (e_Then hc a6 a3).1, (e_Then hc a7 a3).1, e_UnitAt hc a8.1 a8.2, e_UnitAt hc a9.1 a9.2, Option.bind_some]
   simp (disch := omega) [ass_pos, B64, q1, q2, q3, bo]; try omega
 · rw [bo_neg (show ¬ m.Is from fun q => hx fun x hi => ⟨q.l1 x hi, q.l2 x hi⟩)]
 rw [bo_pos (show m.Is from ⟨h, fun x hi => (q x hi).1, fun x hi => (q x hi).2⟩)]
theorem e_isLawful {m : Mnd} (h : m.Pre) : s_i_Monad_isLawful m = some (bo m.Is) := by
 obtain ⟨l1, l2, l3, l4, l5, l6, l7, l8, l9⟩ := h.len
 have hc := h.f.s
 unfold s_i_Monad_isLawful s_i_Monad_object s_i_Monad_arrow
 refine chk_bind m.f.ob.length (fun x : Nat => (ix (rx m.f.s.cs (ix m.f.ar (ix m.u x))) (ix m.j x) = ix m.f.s.id (ix m.f.ob x) ∧ ix (rx m.f.s.cs (ix m.u (ix m.f.ob x))) (ix m.j x) = ix m.f.s.id (ix m.f.ob x)) ∧ ix (rx m.f.s.cs (ix m.f.ar (ix m.j x))) (ix m.j x) = ix (rx m.f.s.cs (ix m.j (ix m.f.ob x))) (ix m.j x)) (eb := Sum.inr false) (eg := Sum.inl ()) (by omega) (fun x hi hq => ?_) (fun x hi hq => ?_) (by simp; try omega) (fun hx => ?_) fun q => ?_
 · have a := h.at (x := x) (by omega) (by omega)
   obtain ⟨a1, a2, a3, a4, a5, a6, a7, a8, a9⟩ := a
   simp (disch := omega) [ass_pos, B64, (e_Then hc a4 a3).2, (e_Then hc a5 a3).2, (e_Then hc a6 a3).2, (e_Then hc a7 a3).2, hq.1.1, hq.1.2, hq.2]; try omega
 · have a := h.at (x := x) (by omega) (by omega)
   obtain ⟨a1, a2, a3, a4, a5, a6, a7, a8, a9⟩ := a
   by_cases q1 : ix (rx m.f.s.cs (ix m.f.ar (ix m.u x))) (ix m.j x) = ix m.f.s.id (ix m.f.ob x)
   case neg => simp (disch := omega) [ass_pos, B64, (e_Then hc a4 a3).2, (e_Then hc a5 a3).2, (e_Then hc a6 a3).2, (e_Then hc a7 a3).2, q1]; try omega
   by_cases q2 : ix (rx m.f.s.cs (ix m.u (ix m.f.ob x))) (ix m.j x) = ix m.f.s.id (ix m.f.ob x)
   case neg => simp (disch := omega) [ass_pos, B64, (e_Then hc a4 a3).2, (e_Then hc a5 a3).2, (e_Then hc a6 a3).2, (e_Then hc a7 a3).2, q1, q2]; try omega
   have q3 : ¬ ix (rx m.f.s.cs (ix m.f.ar (ix m.j x))) (ix m.j x) = ix (rx m.f.s.cs (ix m.j (ix m.f.ob x))) (ix m.j x) := fun q => hq ⟨⟨q1, q2⟩, q⟩
   simp (disch := omega) [ass_pos, B64, (e_Then hc a4 a3).2, (e_Then hc a5 a3).2, (e_Then hc a6 a3).2, (e_Then hc a7 a3).2, q1, q2, q3]; try omega
 · rw [bo_neg (show ¬ m.Is from fun q => hx fun x hi => ⟨q.l1 x hi, q.l2 x hi⟩)]
 rw [bo_pos (show m.Is from ⟨h, fun x hi => (q x hi).1, fun x hi => (q x hi).2⟩)]
theorem e_l16Is (m : Mnd) : s_s_l16Is m = some (bo m.Is) := by
 unfold s_s_l16Is s_s_l02Same s_s_l16Twice
 rw [e_l06Is]
 by_cases h : m.f.Is
 case neg => rw [bo_neg h, bo_neg (show ¬ m.Is from fun q => h q.pre.f)]; simp
 by_cases e : m.f.s = m.f.t
 case neg => rw [bo_pos h, bo_neg e, bo_neg (show ¬ m.Is from fun q => e q.pre.e)]; simp
 simp only [bo_pos h, bo_pos e, Option.bind_some, not_true_eq_false, if_false, Bool.not_true, Bool.false_eq_true, e_l06Self h.s, e_l06Then h h e.symm, e_l15Natural (mpara1 h e), e_l15Natural (mpara2 h e)]
 by_cases n1 : NatT (selfF m.f.s) m.f m.u
 case neg => rw [bo_neg n1, bo_neg (show ¬ m.Is from fun q => n1 q.pre.n1)]; simp
 by_cases n2 : NatT (thenF m.f m.f) m.f m.j
 case neg => rw [bo_pos n1, bo_neg n2, bo_neg (show ¬ m.Is from fun q => n2 q.pre.n2)]; simp
 simp [bo_pos n1, bo_pos n2, e_l16Laws (m := m) ⟨h, e, n1, n2⟩]
theorem e_isMonad (m : Mnd) : s_i_Monad_isMonad m = some (bo m.Is) := by
 unfold s_i_Monad_isMonad
 rw [e_isFunctor]
 by_cases h : m.f.Is
 case neg => rw [bo_neg h, bo_neg (show ¬ m.Is from fun q => h q.pre.f)]; simp
 rw [e_sameCat h.s]
 by_cases e : m.f.s = m.f.t
 case neg => rw [bo_pos h, bo_neg e, bo_neg (show ¬ m.Is from fun q => e q.pre.e)]; simp
 simp only [bo_pos h, bo_pos e, Option.bind_some, not_true_eq_false, if_false, Bool.not_true, Bool.false_eq_true, e_identity h.s, e_Fthen h h e.symm]
 rw [e_areNatural _ (by simp)]
 by_cases hn : NatT (selfF m.f.s) m.f m.u ∧ NatT (thenF m.f m.f) m.f m.j
 case neg =>
   rw [bo_neg (show ¬ m.Is from fun q => hn ⟨q.pre.n1, q.pre.n2⟩), bo_neg (show ¬ ∀ t ∈ [(⟨selfF m.f.s, m.f, m.u⟩ : Tra), ⟨thenF m.f m.f, m.f, m.j⟩], t.Is from fun q => hn ⟨(tra_is (mpara1 h e)).1 (q _ (by simp)), (tra_is (mpara2 h e)).1 (q _ (by simp))⟩)]
   simp
 obtain ⟨n1, n2⟩ := hn
 rw [bo_pos (show ∀ t ∈ [(⟨selfF m.f.s, m.f, m.u⟩ : Tra), ⟨thenF m.f m.f, m.f, m.j⟩], t.Is by
   intro t ht
   simp only [List.mem_cons, List.not_mem_nil, or_false] at ht
   rcases ht with rfl | rfl
   · exact (tra_is (mpara1 h e)).2 n1
   exact (tra_is (mpara2 h e)).2 n2)]
 simp [e_isLawful (m := m) ⟨h, e, n1, n2⟩]
end Go.Vc.T

set_option maxRecDepth 100000
set_option linter.unusedSimpArgs false
set_option linter.unusedVariables false
namespace Go.Vc.T
open Go Go.Vc Go.Proofs
abbrev Ar (c : Cat) (f x y : Int) : Prop := (0 ≤ f ∧ f < (c.fr.length : Int)) ∧ ix c.fr f = x ∧ ix c.to f = y
theorem Ar.two {c : Cat} (hc : c.Is) {f g x y z : Int} (h1 : Ar c f x y) (h2 : Ar c g y z) : Ar c (ix (rx c.cs f) g) x z := by
 have := hc.two h1.1 h2.1 (by rw [h1.2.2, h2.2.1])
 exact ⟨this.1, by rw [this.2.1, h1.2.1], by rw [this.2.2, h2.2.2]⟩
theorem Ar.thn {c : Cat} (hc : c.Is) {f g x y z : Int} (h1 : Ar c f x y) (h2 : Ar c g y z) : s_s_l02Then c f g = some (ix (rx c.cs f) g) ∧ s_i_Category_then c f g = some (ix (rx c.cs f) g) := e_Then hc h1.1 h2.1
theorem Mnd.Pre.Ao {m : Mnd} (h : m.Pre) {x : Int} (hx : 0 ≤ x ∧ x < (m.f.ob.length : Int)) : 0 ≤ ix m.f.ob x ∧ ix m.f.ob x < (m.f.ob.length : Int) := h.ob hx.1 hx.2
theorem Mnd.Pre.Au {m : Mnd} (h : m.Pre) {c : Cat} (e : m.f.s = c) {x : Int} (hx : 0 ≤ x ∧ x < (m.f.ob.length : Int)) : Ar c (ix m.u x) x (ix m.f.ob x) := by subst e; exact h.unit hx.1 hx.2
theorem Mnd.Pre.Aj {m : Mnd} (h : m.Pre) {c : Cat} (e : m.f.s = c) {x : Int} (hx : 0 ≤ x ∧ x < (m.f.ob.length : Int)) : Ar c (ix m.j x) (ix m.f.ob (ix m.f.ob x)) (ix m.f.ob x) := by subst e; exact h.join hx.1 hx.2
theorem Mnd.Pre.Aa {m : Mnd} (h : m.Pre) {c : Cat} (e : m.f.s = c) {f x y : Int} (hf : Ar c f x y) : Ar c (ix m.f.ar f) (ix m.f.ob x) (ix m.f.ob y) := by
 subst e
 have := h.ar hf.1.1 hf.1.2
 exact ⟨this.1, by rw [this.2.1, hf.2.1], by rw [this.2.2, hf.2.2]⟩
theorem chk_bindD {ε β : Type} {body : Int → Option (Ctl Int ε)} {K : ε → Option β} {r : β} (n : Nat) (p : Nat → Prop) {eb eg : ε} (hn : n < 4611686018427387904) (h : ∀ i : Nat, i < n → (p i → body (i : Int) = some (.next ((i : Int) + 1))) ∧ (¬ p i → body (i : Int) = some (.ret eb))) (h3 : body (n : Int) = some (.ret eg))
   (hb : (¬ ∀ i : Nat, i < n → p i) → K eb = some r) (hg : (∀ i : Nat, i < n → p i) → K eg = some r) : (loopF body fuel 0).bind K = some r :=
 chk_bind n p hn (fun i hi => (h i hi).1) (fun i hi => (h i hi).2) h3 hb hg
structure LPre (s t : Mnd) (w : List Int) : Prop where
 hs : s.Pre
 ht : t.Pre
 e : s.f.s = t.f.s
 n : NatT (thenF t.f s.f) (thenF s.f t.f) w
theorem LPre.len {s t : Mnd} {w : List Int} (h : LPre s t w) : t.f.ob.length = s.f.ob.length ∧ w.length = s.f.ob.length ∧ t.f.ar.length = s.f.s.fr.length := by
 have h1 := h.hs.len
 have h2 := h.ht.len
 have h3 := h.n.lp
 rw [← h.e] at h2
 simp only [thenF, thenL_length] at h3
 omega
theorem LPre.Al {s t : Mnd} {w : List Int} (h : LPre s t w) {x : Int} (hx : 0 ≤ x ∧ x < (s.f.ob.length : Int)) : Ar s.f.s (ix w x) (ix s.f.ob (ix t.f.ob x)) (ix t.f.ob (ix s.f.ob x)) := by
 obtain ⟨l1, l2, l3⟩ := h.len
 obtain ⟨i, rfl⟩ : ∃ i : Nat, x = i := ⟨x.toNat, by omega⟩
 have q1 := h.n.bd i (by omega)
 have q2 := h.n.ends i (by omega)
 simp only [thenF] at q1 q2
 rw [← h.hs.e] at q1 q2
 rw [ix_thenL _ _ (by omega) (by omega), ix_thenL _ _ (by omega) (by omega)] at q2
 exact ⟨q1, q2⟩
def Law4 (s t : Mnd) (w : List Int) (x : Int) : Prop :=
 ix (rx s.f.s.cs (ix s.f.ar (ix t.u x))) (ix w x) = ix t.u (ix s.f.ob x) ∧ ix (rx s.f.s.cs (ix s.u (ix t.f.ob x))) (ix w x) = ix t.f.ar (ix s.u x) ∧
 ix (rx s.f.s.cs (ix s.f.ar (ix t.j x))) (ix w x) = ix (rx s.f.s.cs (ix (rx s.f.s.cs (ix w (ix t.f.ob x))) (ix t.f.ar (ix w x)))) (ix t.j (ix s.f.ob x)) ∧
 ix (rx s.f.s.cs (ix s.j (ix t.f.ob x))) (ix w x) = ix (rx s.f.s.cs (ix (rx s.f.s.cs (ix s.f.ar (ix w x))) (ix w (ix s.f.ob x)))) (ix t.f.ar (ix s.j x))
structure LIs (s t : Mnd) (w : List Int) : Prop where
 pre : LPre s t w
 l : ∀ x : Nat, x < s.f.ob.length → Law4 s t w x
structure LAt (s t : Mnd) (w : List Int) (x : Int) : Prop where
 sx : 0 ≤ ix s.f.ob x ∧ ix s.f.ob x < (s.f.ob.length : Int)
 tx : 0 ≤ ix t.f.ob x ∧ ix t.f.ob x < (s.f.ob.length : Int)
 tu : Ar s.f.s (ix t.u x) x (ix t.f.ob x)
 su : Ar s.f.s (ix s.u x) x (ix s.f.ob x)
 tj : Ar s.f.s (ix t.j x) (ix t.f.ob (ix t.f.ob x)) (ix t.f.ob x)
 sj : Ar s.f.s (ix s.j x) (ix s.f.ob (ix s.f.ob x)) (ix s.f.ob x)
 w : Ar s.f.s (ix w x) (ix s.f.ob (ix t.f.ob x)) (ix t.f.ob (ix s.f.ob x))
theorem LPre.at {s t : Mnd} {w : List Int} (h : LPre s t w) {x : Int} (hx : 0 ≤ x ∧ x < (s.f.ob.length : Int)) : LAt s t w x := by
 obtain ⟨l1, l2, l3⟩ := h.len
 have hx' : 0 ≤ x ∧ x < (t.f.ob.length : Int) := by omega
 exact ⟨h.hs.Ao hx, by have := h.ht.Ao hx'; omega, h.ht.Au h.e.symm hx', h.hs.Au rfl hx, h.ht.Aj h.e.symm hx', h.hs.Aj rfl hx, h.Al hx⟩
set_option maxHeartbeats 8000000 in
theorem e_laws {s t : Mnd} {w : List Int} (h : LPre s t w) : s_s_l16Law s t w = some (bo (LIs s t w)) ∧ s_i_isLaw s t w = some (bo (LIs s t w)) := by
 obtain ⟨l1, l2, l3⟩ := h.len
 have hS := h.hs.len
 have hT := h.ht.len
 rw [← h.e] at hT
 have hc := h.hs.f.s
 have e1 : t.f.t = s.f.s := by rw [← h.ht.e, h.e]
 have e2 : s.f.t = t.f.s := by rw [← h.hs.e, h.e]
 have hP : Para (thenF t.f s.f) (thenF s.f t.f) := ⟨then_is h.ht.f h.hs.f e1, then_is h.hs.f h.ht.f e2, by simp [thenF, h.e], by simp [thenF, ← h.hs.e, ← h.ht.e, h.e]⟩
 have hn := h.n
 unfold s_s_l16Law s_i_isLaw
 simp only [e_l06Then h.ht.f h.hs.f e1, e_l06Then h.hs.f h.ht.f e2, e_Fthen h.ht.f h.hs.f e1, e_Fthen h.hs.f h.ht.f e2, Option.bind_some, e_l15Natural hP, e_isNatural, bo_pos hn, bo_pos ((tra_is hP).2 hn), not_true_eq_false, if_false]
 have key : ∀ i : Nat, i < s.f.ob.length → LAt s t w i ∧ LAt s t w (ix s.f.ob i) ∧ LAt s t w (ix t.f.ob i) := fun i hi => by
   have a := h.at (x := i) ⟨by omega, by omega⟩
   exact ⟨a, h.at a.sx, h.at a.tx⟩
 have all : ∀ i : Nat, i < s.f.ob.length → ∃ a b d e2 f2 g2 h2 i2 j2 k2 : Int, True := fun i hi => ⟨0, 0, 0, 0, 0, 0, 0, 0, 0, 0, trivial⟩
 clear all
 constructor
 all_goals
   refine chk_bindD s.f.ob.length (fun x : Nat => Law4 s t w x) (eb := Sum.inr false) (eg := Sum.inl ()) (by omega) (fun x hi => ?_) (by simp; try omega) (fun hx => ?_) fun q => ?_
   rotate_left
   · rw [bo_neg (show ¬ LIs s t w from fun q => hx q.l)]
   · rw [bo_pos (show LIs s t w from ⟨h, q⟩)]
   obtain ⟨a, b, d⟩ := key x hi
   have k1 := h.hs.Aa rfl a.tu
   have k3 := h.ht.Aa h.e.symm a.su
   have k4 := h.hs.Aa rfl a.tj
   have k5 := h.ht.Aa h.e.symm a.w
   have k6 := h.hs.Aa rfl a.w
   have k7 := h.ht.Aa h.e.symm a.sj
   have c5 := Ar.two hc d.w k5
   have c6 := Ar.two hc k6 b.w
   have t1 := Ar.thn hc k1 a.w
   have t2 := Ar.thn hc d.su a.w
   have t3 := Ar.thn hc k4 a.w
   have t4 := Ar.thn hc d.w k5
   have t5 := Ar.thn hc c5 b.tj
   have t6 := Ar.thn hc d.sj a.w
   have t7 := Ar.thn hc k6 b.w
   have t8 := Ar.thn hc c6 k7
   have b1 := a.sx
   have b2 := a.tx
   have b3 := a.tu.1
   have b4 := a.su.1
   have b5 := a.tj.1
   have b6 := a.sj.1
   have b7 := a.w.1
   refine ⟨fun hq => ?_, fun hq => ?_⟩
 · obtain ⟨q1, q2, q3, q4⟩ := hq
   simp (disch := omega) only [ass_pos, t1.1, t2.1, t3.1, t4.1, t5.1, t6.1, t7.1, t8.1, Option.bind_some, if_pos]
   try simp (disch := omega) [ass_pos, B64, q1, q2, q3, q4]; try omega
 · by_cases q1 : ix (rx s.f.s.cs (ix s.f.ar (ix t.u x))) (ix w x) = ix t.u (ix s.f.ob x)
   case neg =>
     simp (disch := omega) only [ass_pos, t1.1, t2.1, t3.1, t4.1, t5.1, t6.1, t7.1, t8.1, Option.bind_some, if_pos]
     try simp (disch := omega) [ass_pos, B64, q1]; try omega
   by_cases q2 : ix (rx s.f.s.cs (ix s.u (ix t.f.ob x))) (ix w x) = ix t.f.ar (ix s.u x)
   case neg =>
     simp (disch := omega) only [ass_pos, t1.1, t2.1, t3.1, t4.1, t5.1, t6.1, t7.1, t8.1, Option.bind_some, if_pos]
     try simp (disch := omega) [ass_pos, B64, q1, q2]; try omega
   by_cases q3 : ix (rx s.f.s.cs (ix s.f.ar (ix t.j x))) (ix w x) = ix (rx s.f.s.cs (ix (rx s.f.s.cs (ix w (ix t.f.ob x))) (ix t.f.ar (ix w x)))) (ix t.j (ix s.f.ob x))
   case neg =>
     simp (disch := omega) only [ass_pos, t1.1, t2.1, t3.1, t4.1, t5.1, t6.1, t7.1, t8.1, Option.bind_some, if_pos]
     try simp (disch := omega) [ass_pos, B64, q1, q2, q3]; try omega
   have q4 := fun q => hq ⟨q1, q2, q3, q⟩
   simp (disch := omega) only [ass_pos, t1.1, t2.1, t3.1, t4.1, t5.1, t6.1, t7.1, t8.1, Option.bind_some, if_pos]
   try simp (disch := omega) [ass_pos, B64, q1, q2, q3, q4]; try omega
 · obtain ⟨q1, q2, q3, q4⟩ := hq
   simp (disch := omega) only [s_i_Monad_object, s_i_Monad_arrow, ass_pos, t1.2, t2.2, t3.2, t4.2, t5.2, t6.2, t7.2, t8.2, Option.bind_some, if_pos]
   try simp (disch := omega) [ass_pos, B64, q1, q2, q3, q4]; try omega
 by_cases q1 : ix (rx s.f.s.cs (ix s.f.ar (ix t.u x))) (ix w x) = ix t.u (ix s.f.ob x)
 case neg =>
   simp (disch := omega) only [s_i_Monad_object, s_i_Monad_arrow, ass_pos, t1.2, t2.2, t3.2, t4.2, t5.2, t6.2, t7.2, t8.2, Option.bind_some, if_pos]
   try simp (disch := omega) [ass_pos, B64, q1]; try omega
 by_cases q2 : ix (rx s.f.s.cs (ix s.u (ix t.f.ob x))) (ix w x) = ix t.f.ar (ix s.u x)
 case neg =>
   simp (disch := omega) only [s_i_Monad_object, s_i_Monad_arrow, ass_pos, t1.2, t2.2, t3.2, t4.2, t5.2, t6.2, t7.2, t8.2, Option.bind_some, if_pos]
   try simp (disch := omega) [ass_pos, B64, q1, q2]; try omega
 by_cases q3 : ix (rx s.f.s.cs (ix s.f.ar (ix t.j x))) (ix w x) = ix (rx s.f.s.cs (ix (rx s.f.s.cs (ix w (ix t.f.ob x))) (ix t.f.ar (ix w x)))) (ix t.j (ix s.f.ob x))
 case neg =>
   simp (disch := omega) only [s_i_Monad_object, s_i_Monad_arrow, ass_pos, t1.2, t2.2, t3.2, t4.2, t5.2, t6.2, t7.2, t8.2, Option.bind_some, if_pos]
   try simp (disch := omega) [ass_pos, B64, q1, q2, q3]; try omega
 have q4 := fun q => hq ⟨q1, q2, q3, q⟩
 simp (disch := omega) only [s_i_Monad_object, s_i_Monad_arrow, ass_pos, t1.2, t2.2, t3.2, t4.2, t5.2, t6.2, t7.2, t8.2, Option.bind_some, if_pos]
 try simp (disch := omega) [ass_pos, B64, q1, q2, q3, q4]; try omega
end Go.Vc.T

set_option maxRecDepth 100000
set_option linter.unusedSimpArgs false
set_option linter.unusedVariables false
namespace Go.Vc.T
open Go Go.Vc Go.Proofs
noncomputable def s_s_ComposeMonads (s_ : Mnd) (t_ : Mnd) (law_ : List Int) : Option (Mnd × Int) :=
 (s_s_l16Two s_ t_).bind fun v1 =>
 if ¬ (v1 = 0) then
   some ((⟨(⟨(⟨0, [], [], [], []⟩ : Cat), (⟨0, [], [], [], []⟩ : Cat), [], []⟩ : Fn), [], []⟩ : Mnd), v1)
 else
   (s_s_l16Law s_ t_ law_).bind fun v3 =>
   if ¬ (v3 = true) then
     some ((⟨(⟨(⟨0, [], [], [], []⟩ : Cat), (⟨0, [], [], [], []⟩ : Cat), [], []⟩ : Fn), [], []⟩ : Mnd), 4)
   else
     (loopF (σ := List Int × List Int × Int) (ε := List Int × List Int) (fun s22 =>
       if s22.2.2 < s_.f.s.n then
         ass (0 ≤ s22.2.2 ∧ s22.2.2 < (s_.f.ob.length : Int)) <|
         ass (0 ≤ s22.2.2 ∧ s22.2.2 < (s_.u.length : Int)) <|
         ass (0 ≤ ix s_.f.ob s22.2.2 ∧ ix s_.f.ob s22.2.2 < (t_.u.length : Int)) <|
         (s_s_l02Then s_.f.s (ix s_.u s22.2.2) (ix t_.u (ix s_.f.ob s22.2.2))).bind fun v27 =>
         ass ((s22.1 ++ [v27]).length ≤ 1073741824) <|
         ass (0 ≤ ix s_.f.ob s22.2.2 ∧ ix s_.f.ob s22.2.2 < (law_.length : Int)) <|
         ass (0 ≤ ix law_ (ix s_.f.ob s22.2.2) ∧ ix law_ (ix s_.f.ob s22.2.2) < (t_.f.ar.length : Int)) <|
         ass (0 ≤ ix s_.f.ob s22.2.2 ∧ ix s_.f.ob s22.2.2 < (s_.f.ob.length : Int)) <|
         ass (0 ≤ ix s_.f.ob (ix s_.f.ob s22.2.2) ∧ ix s_.f.ob (ix s_.f.ob s22.2.2) < (t_.j.length : Int)) <|
         (s_s_l02Then s_.f.s (ix t_.f.ar (ix law_ (ix s_.f.ob s22.2.2))) (ix t_.j (ix s_.f.ob (ix s_.f.ob s22.2.2)))).bind fun v33 =>
         ass (0 ≤ s22.2.2 ∧ s22.2.2 < (s_.j.length : Int)) <|
         ass (0 ≤ ix s_.j s22.2.2 ∧ ix s_.j s22.2.2 < (t_.f.ar.length : Int)) <|
         (s_s_l02Then s_.f.s v33 (ix t_.f.ar (ix s_.j s22.2.2))).bind fun v36 =>
         ass ((s22.2.1 ++ [v36]).length ≤ 1073741824) <|
         ass (B64 (s22.2.2 + 1)) <|
         some (Ctl.next (s22.1 ++ [v27], s22.2.1 ++ [v36], s22.2.2 + 1))
       else
         some (Ctl.ret (s22.1, s22.2.1))) fuel ([], [], 0)).bind fun b5 =>
     (s_s_l06Then s_.f t_.f).bind fun v39 =>
     some ((⟨v39, b5.1, b5.2⟩ : Mnd), 0)
set_option maxHeartbeats 4000000 in
theorem w_s_ComposeMonads (s_ : Mnd) (t_ : Mnd) (law_ : List Int) (r : Mnd × Int) (h : s_s_ComposeMonads s_ t_ law_ = some r) : Contract Try.prog 64 [.agg (s_.cells true), .agg (t_.cells true), .lst true 1 (Is law_)] (.tup [.agg (r.1.cells true), .val (.int .i64 r.2)]) := by
 refine contract_introG (rvs := [.cell 6 50, .tmp 7]) (rs := [.agg (r.1.cells true), .val (.int .i64 r.2)]) Try.func64 rfl rfl rfl rfl (by simp [Try.f64]) fun F hN hP => ?_
 unfold s_s_ComposeMonads at h
 refine w_seq ?_
 refine w_run mo (by rw [hN]; decide) fun K hK => ?_
 simp [-guardE_b, -Is_at, -Is_at', -Ls_at, -Ls_at', eL, eI, allInts, eP_Cat, eP_Fn, eP_Mnd, Cat.cells, Fn.cells, Mnd.cells]
 repeat (with_reducible refine And.intro ?_ ?_; · first | assumption | omega | (simp; done) | (simp; omega) | simp_all)
 refine hK _ ?_
 clear hK K
 refine tn ?_
 refine w_weak (st' := ⟨[(2, .lst true 1 (Is law_)), (3, .adr 0 0 0), (4, .adr 1 0 0), (6, .adr 2 0 0)], [(0, .mix 14 [(Mnd.cells true s_)]), (1, .mix 14 [(Mnd.cells true t_)]), (2, .mix 14 [[.val (.int .i64 0), .val (.slice none 0 0), .val (.slice none 0 0), .val (.slice none 0 0), .val (.slice none 0 0), .val (.int .i64 0), .val (.slice none 0 0), .val (.slice none 0 0), .val (.slice none 0 0), .val (.slice none 0 0), .val (.slice none 0 0), .val (.slice none 0 0), .val (.slice none 0 0), .val (.slice none 0 0)]])], 3⟩) (Wk.r1 [(0, 0), (1, 1), (2, 2)] (by simp [hP, hhOk, back, Cat.cells, Fn.cells, Mnd.cells, IA, I1, LA, L1, BA, B1, EA, E1, E2, eB, eI, eL])) ?_
 refine w_seq ?_
 refine w_seq ?_
 refine w_run mo (by rw [hN]; decide) fun K hK => ?_
 simp [-guardE_b, -Is_at, -Is_at', -Ls_at, -Ls_at', eL, eI, allInts, eP_Cat, eP_Fn, eP_Mnd, Cat.cells, Fn.cells, Mnd.cells]
 repeat (with_reducible refine And.intro ?_ ?_; · first | assumption | omega | (simp; done) | (simp; omega) | simp_all)
 replace h := bind_some h
 obtain ⟨v1, hv1, h⟩ := h
 refine callA_intro (w_s_l16Two _ _ v1 hv1) (.cons (.aggL (.cons .val (.cons .lst (.cons .lst (.cons .lst (.cons .lst (.cons .val (.cons .lst (.cons .lst (.cons .lst (.cons .lst (.cons .lst (.cons .lst (.cons .lst (.cons .lst .nil))))))))))))))) (.cons (.aggL (.cons .val (.cons .lst (.cons .lst (.cons .lst (.cons .lst (.cons .val (.cons .lst (.cons .lst (.cons .lst (.cons .lst (.cons .lst (.cons .lst (.cons .lst (.cons .lst .nil))))))))))))))) .nil)) ?_
 simp [-guardE_b, -Is_at, -Is_at', -Ls_at, -Ls_at', unk, unA, unE, unT, unC, flat, eL, eI, allInts, eP_Cat, eP_Fn, eP_Mnd, Cat.cells, Fn.cells, Mnd.cells]
 repeat (with_reducible refine And.intro ?_ ?_; · first | assumption | omega | (simp; done) | (simp; omega) | simp_all)
 refine hK _ ?_
 clear hK K
 refine tn ?_
 refine w_weak (st' := ⟨[(2, .lst true 1 (Is law_)), (3, .adr 0 0 0), (4, .adr 1 0 0), (6, .adr 2 0 0), (8, .val (.int .i64 v1))], [(0, .mix 14 [(Mnd.cells true s_)]), (1, .mix 14 [(Mnd.cells true t_)]), (2, .mix 14 [[.val (.int .i64 0), .val (.slice none 0 0), .val (.slice none 0 0), .val (.slice none 0 0), .val (.slice none 0 0), .val (.int .i64 0), .val (.slice none 0 0), .val (.slice none 0 0), .val (.slice none 0 0), .val (.slice none 0 0), .val (.slice none 0 0), .val (.slice none 0 0), .val (.slice none 0 0), .val (.slice none 0 0)]])], 3⟩) (Wk.r1 [(0, 0), (1, 1), (2, 2)] (by simp [hP, hhOk, back, Cat.cells, Fn.cells, Mnd.cells, IA, I1, LA, L1, BA, B1, EA, E1, E2, eB, eI, eL])) ?_
 refine w_seq ?_
 refine w_run mo (by rw [hN]; decide) fun K hK => ?_
 simp [-guardE_b, -Is_at, -Is_at', -Ls_at, -Ls_at', eL, eI, allInts, eP_Cat, eP_Fn, eP_Mnd, Cat.cells, Fn.cells, Mnd.cells]
 repeat (with_reducible refine And.intro ?_ ?_; · first | assumption | omega | (simp; done) | (simp; omega) | simp_all)
 refine hK _ ?_
 clear hK K
 refine tn ?_
 refine w_weak (st' := ⟨[(2, .lst true 1 (Is law_)), (3, .adr 0 0 0), (4, .adr 1 0 0), (6, .adr 2 0 0), (8, .val (.int .i64 v1)), (19, .val (.bool (v1 != 0)))], [(0, .mix 14 [(Mnd.cells true s_)]), (1, .mix 14 [(Mnd.cells true t_)]), (2, .mix 14 [[.val (.int .i64 0), .val (.slice none 0 0), .val (.slice none 0 0), .val (.slice none 0 0), .val (.slice none 0 0), .val (.int .i64 0), .val (.slice none 0 0), .val (.slice none 0 0), .val (.slice none 0 0), .val (.slice none 0 0), .val (.slice none 0 0), .val (.slice none 0 0), .val (.slice none 0 0), .val (.slice none 0 0)]])], 3⟩) (Wk.r1 [(0, 0), (1, 1), (2, 2)] (by simp [hP, hhOk, back, Cat.cells, Fn.cells, Mnd.cells, IA, I1, LA, L1, BA, B1, EA, E1, E2, eB, eI, eL])) ?_
 refine w_cond rfl (fun g => ?_) fun g => ?_
 · have g2 : ¬ (v1 = 0) := by first | simpa using g | (simp at g; exact g) | (simp at g; omega)
   clear g
   replace h := if_l g2 h
   refine w_seq ?_
   refine w_run mo (by rw [hN]; decide) fun K hK => ?_
   simp [-guardE_b, -Is_at, -Is_at', -Ls_at, -Ls_at', eL, eI, allInts, eP_Cat, eP_Fn, eP_Mnd, Cat.cells, Fn.cells, Mnd.cells]
   repeat (with_reducible refine And.intro ?_ ?_; · first | assumption | omega | (simp; done) | (simp; omega) | simp_all)
   refine hK _ ?_
   clear hK K
   refine tn ?_
   refine w_weak (st' := ⟨[(6, .adr 0 0 0), (7, .val (.int .i64 v1))], [(0, .mix 14 [[.val (.int .i64 0), .val (.slice none 0 0), .val (.slice none 0 0), .val (.slice none 0 0), .val (.slice none 0 0), .val (.int .i64 0), .val (.slice none 0 0), .val (.slice none 0 0), .val (.slice none 0 0), .val (.slice none 0 0), .val (.slice none 0 0), .val (.slice none 0 0), .val (.slice none 0 0), .val (.slice none 0 0)]])], 1⟩) (Wk.r1 [(2, 0)] (by simp [hP, hhOk, back, Cat.cells, Fn.cells, Mnd.cells, IA, I1, LA, L1, BA, B1, EA, E1, E2, eB, eI, eL])) ?_
   refine w_ret ?_
   refine tr ?_
   have hr := Option.some.inj h
   rw [← hr]
   refine ⟨_, (.cell tf_50 rfl rfl rfl (by simp) (by simp) (.tmp .nil)), ?_⟩
   refine ⟨(.agg rfl (.one rfl rfl .nil)), [.val (.int .i64 0), .val (.slice none 0 0), .val (.slice none 0 0), .val (.slice none 0 0), .val (.slice none 0 0), .val (.int .i64 0), .val (.slice none 0 0), .val (.slice none 0 0), .val (.slice none 0 0), .val (.slice none 0 0), .val (.slice none 0 0), .val (.slice none 0 0), .val (.slice none 0 0), .val (.slice none 0 0), .val (.int .i64 v1)], [], by simp [Cat.cells, Fn.cells, Mnd.cells, IA, I1, LA, L1, BA, B1, EA, E1, E2, eB, eI, eL], by simp, (.cons .refl (.cons .nil (.cons .nil (.cons .nil (.cons .nil (.cons .refl (.cons .nil (.cons .nil (.cons .nil (.cons .nil (.cons .nil (.cons .nil (.cons .nil (.cons .nil (.cons .refl .nil)))))))))))))))⟩
 have g2 : ¬ (¬ (v1 = 0)) := by first | simpa using g | (simp at g; exact g) | (simp at g; omega)
 clear g
 replace h := if_r g2 h
 refine w_skip ?_
 refine tn ?_
 refine w_seq ?_
 refine w_seq ?_
 refine w_run mo (by rw [hN]; decide) fun K hK => ?_
 simp [-guardE_b, -Is_at, -Is_at', -Ls_at, -Ls_at', eL, eI, allInts, eP_Cat, eP_Fn, eP_Mnd, Cat.cells, Fn.cells, Mnd.cells]
 repeat (with_reducible refine And.intro ?_ ?_; · first | assumption | omega | (simp; done) | (simp; omega) | simp_all)
 replace h := bind_some h
 obtain ⟨v3, hv3, h⟩ := h
 refine callA_intro (w_s_l16Law _ _ _ v3 hv3) (.cons (.aggL (.cons .val (.cons .lst (.cons .lst (.cons .lst (.cons .lst (.cons .val (.cons .lst (.cons .lst (.cons .lst (.cons .lst (.cons .lst (.cons .lst (.cons .lst (.cons .lst .nil))))))))))))))) (.cons (.aggL (.cons .val (.cons .lst (.cons .lst (.cons .lst (.cons .lst (.cons .val (.cons .lst (.cons .lst (.cons .lst (.cons .lst (.cons .lst (.cons .lst (.cons .lst (.cons .lst .nil))))))))))))))) (.cons .lst .nil))) ?_
 simp [-guardE_b, -Is_at, -Is_at', -Ls_at, -Ls_at', unk, unA, unE, unT, unC, flat, eL, eI, allInts, eP_Cat, eP_Fn, eP_Mnd, Cat.cells, Fn.cells, Mnd.cells]
 repeat (with_reducible refine And.intro ?_ ?_; · first | assumption | omega | (simp; done) | (simp; omega) | simp_all)
 refine hK _ ?_
 clear hK K
 refine tn ?_
 refine w_weak (st' := ⟨[(2, .lst true 1 (Is law_)), (3, .adr 0 0 0), (4, .adr 1 0 0), (6, .adr 2 0 0), (26, .val (.bool (!v3)))], [(0, .mix 14 [(Mnd.cells true s_)]), (1, .mix 14 [(Mnd.cells true t_)]), (2, .mix 14 [[.val (.int .i64 0), .val (.slice none 0 0), .val (.slice none 0 0), .val (.slice none 0 0), .val (.slice none 0 0), .val (.int .i64 0), .val (.slice none 0 0), .val (.slice none 0 0), .val (.slice none 0 0), .val (.slice none 0 0), .val (.slice none 0 0), .val (.slice none 0 0), .val (.slice none 0 0), .val (.slice none 0 0)]])], 3⟩) (Wk.r1 [(0, 0), (1, 1), (2, 2)] (by simp [hP, hhOk, back, Cat.cells, Fn.cells, Mnd.cells, IA, I1, LA, L1, BA, B1, EA, E1, E2, eB, eI, eL])) ?_
 refine w_cond rfl (fun g => ?_) fun g => ?_
 · have g4 : ¬ (v3 = true) := by first | simpa using g | (simp at g; exact g) | (simp at g; omega)
   clear g
   replace h := if_l g4 h
   refine w_seq ?_
   refine w_run mo (by rw [hN]; decide) fun K hK => ?_
   simp [-guardE_b, -Is_at, -Is_at', -Ls_at, -Ls_at', eL, eI, allInts, eP_Cat, eP_Fn, eP_Mnd, Cat.cells, Fn.cells, Mnd.cells]
   repeat (with_reducible refine And.intro ?_ ?_; · first | assumption | omega | (simp; done) | (simp; omega) | simp_all)
   refine hK _ ?_
   clear hK K
   refine tn ?_
   refine w_weak (st' := ⟨[(6, .adr 0 0 0), (7, .val (.int .i64 4))], [(0, .mix 14 [[.val (.int .i64 0), .val (.slice none 0 0), .val (.slice none 0 0), .val (.slice none 0 0), .val (.slice none 0 0), .val (.int .i64 0), .val (.slice none 0 0), .val (.slice none 0 0), .val (.slice none 0 0), .val (.slice none 0 0), .val (.slice none 0 0), .val (.slice none 0 0), .val (.slice none 0 0), .val (.slice none 0 0)]])], 1⟩) (Wk.r1 [(2, 0)] (by simp [hP, hhOk, back, Cat.cells, Fn.cells, Mnd.cells, IA, I1, LA, L1, BA, B1, EA, E1, E2, eB, eI, eL])) ?_
   refine w_ret ?_
   refine tr ?_
   have hr := Option.some.inj h
   rw [← hr]
   refine ⟨_, (.cell tf_50 rfl rfl rfl (by simp) (by simp) (.tmp .nil)), ?_⟩
   refine ⟨(.agg rfl (.one rfl rfl .nil)), [.val (.int .i64 0), .val (.slice none 0 0), .val (.slice none 0 0), .val (.slice none 0 0), .val (.slice none 0 0), .val (.int .i64 0), .val (.slice none 0 0), .val (.slice none 0 0), .val (.slice none 0 0), .val (.slice none 0 0), .val (.slice none 0 0), .val (.slice none 0 0), .val (.slice none 0 0), .val (.slice none 0 0), .val (.int .i64 4)], [], by simp [Cat.cells, Fn.cells, Mnd.cells, IA, I1, LA, L1, BA, B1, EA, E1, E2, eB, eI, eL], by simp, (.cons .refl (.cons .nil (.cons .nil (.cons .nil (.cons .nil (.cons .refl (.cons .nil (.cons .nil (.cons .nil (.cons .nil (.cons .nil (.cons .nil (.cons .nil (.cons .nil (.cons .refl .nil)))))))))))))))⟩
 have g4 : ¬ (¬ (v3 = true)) := by first | simpa using g | (simp at g; exact g) | (simp at g; omega)
 clear g
 replace h := if_r g4 h
 refine w_skip ?_
 refine tn ?_
 refine w_seq ?_
 refine w_run mo (by rw [hN]; decide) fun K hK => ?_
 simp [-guardE_b, -Is_at, -Is_at', -Ls_at, -Ls_at', eL, eI, allInts, eP_Cat, eP_Fn, eP_Mnd, Cat.cells, Fn.cells, Mnd.cells]
 repeat (with_reducible refine And.intro ?_ ?_; · first | assumption | omega | (simp; done) | (simp; omega) | simp_all)
 refine hK _ ?_
 clear hK K
 refine tn ?_
 refine w_weak (st' := ⟨[(2, .lst true 1 (Is law_)), (3, .adr 0 0 0), (4, .adr 1 0 0), (6, .adr 2 0 0), (9, .adr 3 0 0)], [(0, .mix 14 [(Mnd.cells true s_)]), (1, .mix 14 [(Mnd.cells true t_)]), (2, .mix 14 [[.val (.int .i64 0), .val (.slice none 0 0), .val (.slice none 0 0), .val (.slice none 0 0), .val (.slice none 0 0), .val (.int .i64 0), .val (.slice none 0 0), .val (.slice none 0 0), .val (.slice none 0 0), .val (.slice none 0 0), .val (.slice none 0 0), .val (.slice none 0 0), .val (.slice none 0 0), .val (.slice none 0 0)]]), (3, .mix 5 [(Cat.cells true s_.f.s)])], 4⟩) (Wk.r1 [(0, 0), (1, 1), (2, 2), (3, 3)] (by simp [hP, hhOk, back, Cat.cells, Fn.cells, Mnd.cells, IA, I1, LA, L1, BA, B1, EA, E1, E2, eB, eI, eL])) ?_
 refine w_seq ?_
 refine w_run mo (by rw [hN]; decide) fun K hK => ?_
 simp [-guardE_b, -Is_at, -Is_at', -Ls_at, -Ls_at', eL, eI, allInts, eP_Cat, eP_Fn, eP_Mnd, Cat.cells, Fn.cells, Mnd.cells]
 repeat (with_reducible refine And.intro ?_ ?_; · first | assumption | omega | (simp; done) | (simp; omega) | simp_all)
 refine hK _ ?_
 clear hK K
 refine tn ?_
 refine w_weak (st' := ⟨[(2, .lst true 1 (Is law_)), (3, .adr 0 0 0), (4, .adr 1 0 0), (6, .adr 2 0 0), (9, .adr 3 0 0), (10, .own 4 0 0), (11, .own 5 0 0)], [(0, .mix 14 [(Mnd.cells true s_)]), (1, .mix 14 [(Mnd.cells true t_)]), (2, .mix 14 [[.val (.int .i64 0), .val (.slice none 0 0), .val (.slice none 0 0), .val (.slice none 0 0), .val (.slice none 0 0), .val (.int .i64 0), .val (.slice none 0 0), .val (.slice none 0 0), .val (.slice none 0 0), .val (.slice none 0 0), .val (.slice none 0 0), .val (.slice none 0 0), .val (.slice none 0 0), .val (.slice none 0 0)]]), (3, .mix 5 [(Cat.cells true s_.f.s)]), (4, .mix 1 []), (5, .mix 1 [])], 6⟩) (Wk.r1 [(0, 0), (1, 1), (2, 2), (3, 3), (4, 4), (5, 5)] (by simp [hP, hhOk, back, Cat.cells, Fn.cells, Mnd.cells, IA, I1, LA, L1, BA, B1, EA, E1, E2, eB, eI, eL])) ?_
 refine w_seq ?_
 refine w_seq ?_
 refine w_run mo (by rw [hN]; decide) fun K hK => ?_
 simp [-guardE_b, -Is_at, -Is_at', -Ls_at, -Ls_at', eL, eI, allInts, eP_Cat, eP_Fn, eP_Mnd, Cat.cells, Fn.cells, Mnd.cells]
 repeat (with_reducible refine And.intro ?_ ?_; · first | assumption | omega | (simp; done) | (simp; omega) | simp_all)
 refine hK _ ?_
 clear hK K
 refine tn ?_
 refine w_weak (st' := ⟨[(2, .lst true 1 (Is law_)), (3, .adr 0 0 0), (4, .adr 1 0 0), (6, .adr 2 0 0), (9, .adr 3 0 0), (10, .own 4 0 0), (11, .own 5 0 0), (12, .val (.int .i64 0))], [(0, .mix 14 [(Mnd.cells true s_)]), (1, .mix 14 [(Mnd.cells true t_)]), (2, .mix 14 [[.val (.int .i64 0), .val (.slice none 0 0), .val (.slice none 0 0), .val (.slice none 0 0), .val (.slice none 0 0), .val (.int .i64 0), .val (.slice none 0 0), .val (.slice none 0 0), .val (.slice none 0 0), .val (.slice none 0 0), .val (.slice none 0 0), .val (.slice none 0 0), .val (.slice none 0 0), .val (.slice none 0 0)]]), (3, .mix 5 [(Cat.cells true s_.f.s)]), (4, .mix 1 []), (5, .mix 1 [])], 6⟩) (Wk.r1 [(0, 0), (1, 1), (2, 2), (3, 3), (4, 4), (5, 5)] (by simp [hP, hhOk, back, Cat.cells, Fn.cells, Mnd.cells, IA, I1, LA, L1, BA, B1, EA, E1, E2, eB, eI, eL])) ?_
 replace h := bind_some h
 obtain ⟨e5, h, h5⟩ := h
 refine w_joinT (fun b5 : List Int × List Int => ⟨[(3, .adr 0 0 0), (4, .adr 1 0 0), (6, .adr 2 0 0), (10, .own 3 0 b5.1.length), (11, .own 4 0 b5.2.length)], [(0, .mix 14 [(Mnd.cells true s_)]), (1, .mix 14 [(Mnd.cells true t_)]), (2, .mix 14 [[.val (.int .i64 0), .val (.slice none 0 0), .val (.slice none 0 0), .val (.slice none 0 0), .val (.slice none 0 0), .val (.int .i64 0), .val (.slice none 0 0), .val (.slice none 0 0), .val (.slice none 0 0), .val (.slice none 0 0), .val (.slice none 0 0), .val (.slice none 0 0), .val (.slice none 0 0), .val (.slice none 0 0)]]), (3, .row 1 (Is b5.1)), (4, .row 1 (Is b5.2))], 5⟩) (fun b5 => b5 = e5) ?_ ?_
 · refine w_block ?_
   refine w_loopF h (fun s22 : List Int × List Int × Int => ⟨[(2, .lst true 1 (Is law_)), (3, .adr 0 0 0), (4, .adr 1 0 0), (6, .adr 2 0 0), (9, .adr 3 0 0), (10, .own 4 0 s22.1.length), (11, .own 5 0 s22.2.1.length), (12, .val (.int .i64 s22.2.2))], [(0, .mix 14 [(Mnd.cells true s_)]), (1, .mix 14 [(Mnd.cells true t_)]), (2, .mix 14 [[.val (.int .i64 0), .val (.slice none 0 0), .val (.slice none 0 0), .val (.slice none 0 0), .val (.slice none 0 0), .val (.int .i64 0), .val (.slice none 0 0), .val (.slice none 0 0), .val (.slice none 0 0), .val (.slice none 0 0), .val (.slice none 0 0), .val (.slice none 0 0), .val (.slice none 0 0), .val (.slice none 0 0)]]), (3, .mix 5 [(Cat.cells true s_.f.s)]), (4, .row 1 (Is s22.1)), (5, .row 1 (Is s22.2.1))], 6⟩) (wk_tr ⟨[(2, .lst true 1 (Is law_)), (3, .adr 0 0 0), (4, .adr 1 0 0), (6, .adr 2 0 0), (9, .adr 3 0 0), (10, .own 4 0 0), (11, .own 5 0 0), (12, .val (.int .i64 0))], [(0, .mix 14 [(Mnd.cells true s_)]), (1, .mix 14 [(Mnd.cells true t_)]), (2, .mix 14 [[.val (.int .i64 0), .val (.slice none 0 0), .val (.slice none 0 0), .val (.slice none 0 0), .val (.slice none 0 0), .val (.int .i64 0), .val (.slice none 0 0), .val (.slice none 0 0), .val (.slice none 0 0), .val (.slice none 0 0), .val (.slice none 0 0), .val (.slice none 0 0), .val (.slice none 0 0), .val (.slice none 0 0)]]), (3, .mix 5 [(Cat.cells true s_.f.s)]), (4, .row 1 (Is [])), (5, .row 1 (Is []))], 6⟩ (Wk.nils [] (by simp) (by simp) (by simp [nlA]) (by simp [entN, nlL, nlA, Cat.cells, Fn.cells, Mnd.cells, IA, I1, LA, L1, BA, B1, EA, E1, E2, eB, eI, eL]) (by simp)) (Wk.r1 [(0, 0), (1, 1), (2, 2), (3, 3), (4, 4), (5, 5)] (by simp [hP, hhOk, back, Cat.cells, Fn.cells, Mnd.cells, IA, I1, LA, L1, BA, B1, EA, E1, E2, eB, eI, eL]))) ?_
   clear h
   intro k22 s22 c22 h hk22
   refine w_seq ?_
   refine w_seq ?_
   refine w_run mo (by rw [hN]; decide) fun K hK => ?_
   simp [-guardE_b, -Is_at, -Is_at', -Ls_at, -Ls_at', eL, eI, allInts, eP_Cat, eP_Fn, eP_Mnd, Cat.cells, Fn.cells, Mnd.cells]
   repeat (with_reducible refine And.intro ?_ ?_; · first | assumption | omega | (simp; done) | (simp; omega) | simp_all)
   refine hK _ ?_
   clear hK K
   refine tn ?_
   refine w_weak (st' := ⟨[(2, .lst true 1 (Is law_)), (3, .adr 0 0 0), (4, .adr 1 0 0), (6, .adr 2 0 0), (9, .adr 3 0 0), (10, .own 4 0 s22.1.length), (11, .own 5 0 s22.2.1.length), (12, .val (.int .i64 s22.2.2)), (36, .val (.bool (decide (s22.2.2 < s_.f.s.n))))], [(0, .mix 14 [(Mnd.cells true s_)]), (1, .mix 14 [(Mnd.cells true t_)]), (2, .mix 14 [[.val (.int .i64 0), .val (.slice none 0 0), .val (.slice none 0 0), .val (.slice none 0 0), .val (.slice none 0 0), .val (.int .i64 0), .val (.slice none 0 0), .val (.slice none 0 0), .val (.slice none 0 0), .val (.slice none 0 0), .val (.slice none 0 0), .val (.slice none 0 0), .val (.slice none 0 0), .val (.slice none 0 0)]]), (3, .mix 5 [(Cat.cells true s_.f.s)]), (4, .row 1 (Is s22.1)), (5, .row 1 (Is s22.2.1))], 6⟩) (Wk.r1 [(0, 0), (1, 1), (2, 2), (3, 3), (4, 4), (5, 5)] (by simp [hP, hhOk, back, Cat.cells, Fn.cells, Mnd.cells, IA, I1, LA, L1, BA, B1, EA, E1, E2, eB, eI, eL])) ?_
   refine w_cond rfl (fun g => ?_) fun g => ?_
   · have g23 : s22.2.2 < s_.f.s.n := by first | simpa using g | (simp at g; exact g) | (simp at g; omega)
     clear g
     replace h := if_l g23 h
     refine w_skip ?_
     refine tn ?_
     refine w_seq ?_
     refine w_block ?_
     refine w_seq ?_
     refine w_run mo (by rw [hN]; decide) fun K hK => ?_
     replace h := ass_some h
     obtain ⟨a24, h⟩ := h
     simp [-guardE_b, -Is_at, -Is_at', -Ls_at, -Ls_at', eL, eI, allInts, eP_Cat, eP_Fn, eP_Mnd, Cat.cells, Fn.cells, Mnd.cells, at_I a24]
     repeat (with_reducible refine And.intro ?_ ?_; · first | assumption | omega | (simp; done) | (simp; omega) | simp_all)
     refine hK _ ?_
     clear hK K
     refine tn ?_
     refine w_weak (st' := ⟨[(2, .lst true 1 (Is law_)), (3, .adr 0 0 0), (4, .adr 1 0 0), (6, .adr 2 0 0), (9, .adr 3 0 0), (10, .own 4 0 s22.1.length), (11, .own 5 0 s22.2.1.length), (12, .val (.int .i64 s22.2.2)), (13, .val (.int .i64 (ix s_.f.ob s22.2.2)))], [(0, .mix 14 [(Mnd.cells true s_)]), (1, .mix 14 [(Mnd.cells true t_)]), (2, .mix 14 [[.val (.int .i64 0), .val (.slice none 0 0), .val (.slice none 0 0), .val (.slice none 0 0), .val (.slice none 0 0), .val (.int .i64 0), .val (.slice none 0 0), .val (.slice none 0 0), .val (.slice none 0 0), .val (.slice none 0 0), .val (.slice none 0 0), .val (.slice none 0 0), .val (.slice none 0 0), .val (.slice none 0 0)]]), (3, .mix 5 [(Cat.cells true s_.f.s)]), (4, .row 1 (Is s22.1)), (5, .row 1 (Is s22.2.1))], 6⟩) (Wk.r1 [(0, 0), (1, 1), (2, 2), (3, 3), (4, 4), (5, 5)] (by simp [hP, hhOk, back, Cat.cells, Fn.cells, Mnd.cells, IA, I1, LA, L1, BA, B1, EA, E1, E2, eB, eI, eL])) ?_
     refine w_seq ?_
     refine w_run mo (by rw [hN]; decide) fun K hK => ?_
     replace h := ass_some h
     obtain ⟨a25, h⟩ := h
     replace h := ass_some h
     obtain ⟨a26, h⟩ := h
     simp [-guardE_b, -Is_at, -Is_at', -Ls_at, -Ls_at', eL, eI, allInts, eP_Cat, eP_Fn, eP_Mnd, Cat.cells, Fn.cells, Mnd.cells, at_I a25, at_I a26]
     repeat (with_reducible refine And.intro ?_ ?_; · first | assumption | omega | (simp; done) | (simp; omega) | simp_all)
     replace h := bind_some h
     obtain ⟨v27, hv27, h⟩ := h
     refine callA_intro (w_s_l02Then _ _ _ v27 hv27) (.cons (.aggL (.cons .val (.cons .lst (.cons .lst (.cons .lst (.cons .lst .nil)))))) (.cons .val (.cons .val .nil))) ?_
     replace h := ass_some h
     obtain ⟨a28, h⟩ := h
     try simp only [List.length_append, List.length_cons, List.length_nil] at a28
     simp [-guardE_b, -Is_at, -Is_at', -Ls_at, -Ls_at', unk, unA, unE, unT, unC, flat, eL, eI, allInts, eP_Cat, eP_Fn, eP_Mnd, Cat.cells, Fn.cells, Mnd.cells, a28]
     repeat (with_reducible refine And.intro ?_ ?_; · first | assumption | omega | (simp; done) | (simp; omega) | simp_all)
     refine hK _ ?_
     clear hK K
     refine tn ?_
     refine w_weak (st' := ⟨[(2, .lst true 1 (Is law_)), (3, .adr 0 0 0), (4, .adr 1 0 0), (6, .adr 2 0 0), (9, .adr 3 0 0), (10, .own 4 0 ((s22.1 ++ [v27]).length)), (11, .own 5 0 s22.2.1.length), (12, .val (.int .i64 s22.2.2)), (13, .val (.int .i64 (ix s_.f.ob s22.2.2)))], [(0, .mix 14 [(Mnd.cells true s_)]), (1, .mix 14 [(Mnd.cells true t_)]), (2, .mix 14 [[.val (.int .i64 0), .val (.slice none 0 0), .val (.slice none 0 0), .val (.slice none 0 0), .val (.slice none 0 0), .val (.int .i64 0), .val (.slice none 0 0), .val (.slice none 0 0), .val (.slice none 0 0), .val (.slice none 0 0), .val (.slice none 0 0), .val (.slice none 0 0), .val (.slice none 0 0), .val (.slice none 0 0)]]), (3, .mix 5 [(Cat.cells true s_.f.s)]), (4, .row 1 (Is (s22.1 ++ [v27]))), (5, .row 1 (Is s22.2.1))], 6⟩) (Wk.r1 [(0, 0), (1, 1), (2, 2), (3, 3), (8, 4), (5, 5)] (by simp [hP, hhOk, back, Cat.cells, Fn.cells, Mnd.cells, IA, I1, LA, L1, BA, B1, EA, E1, E2, eB, eI, eL])) ?_
     refine w_seq ?_
     refine w_run mo (by rw [hN]; decide) fun K hK => ?_
     replace h := ass_some h
     obtain ⟨a29, h⟩ := h
     replace h := ass_some h
     obtain ⟨a30, h⟩ := h
     replace h := ass_some h
     obtain ⟨a31, h⟩ := h
     replace h := ass_some h
     obtain ⟨a32, h⟩ := h
     simp [-guardE_b, -Is_at, -Is_at', -Ls_at, -Ls_at', eL, eI, allInts, eP_Cat, eP_Fn, eP_Mnd, Cat.cells, Fn.cells, Mnd.cells, at_I a29, at_I a30, at_I a31, at_I a32]
     repeat (with_reducible refine And.intro ?_ ?_; · first | assumption | omega | (simp; done) | (simp; omega) | simp_all)
     replace h := bind_some h
     obtain ⟨v33, hv33, h⟩ := h
     refine callA_intro (w_s_l02Then _ _ _ v33 hv33) (.cons (.aggL (.cons .val (.cons .lst (.cons .lst (.cons .lst (.cons .lst .nil)))))) (.cons .val (.cons .val .nil))) ?_
     simp [-guardE_b, -Is_at, -Is_at', -Ls_at, -Ls_at', unk, unA, unE, unT, unC, flat, eL, eI, allInts, eP_Cat, eP_Fn, eP_Mnd, Cat.cells, Fn.cells, Mnd.cells]
     repeat (with_reducible refine And.intro ?_ ?_; · first | assumption | omega | (simp; done) | (simp; omega) | simp_all)
     refine hK _ ?_
     clear hK K
     refine tn ?_
     refine w_weak (st' := ⟨[(2, .lst true 1 (Is law_)), (3, .adr 0 0 0), (4, .adr 1 0 0), (6, .adr 2 0 0), (9, .adr 3 0 0), (10, .own 4 0 ((s22.1 ++ [v27]).length)), (11, .own 5 0 s22.2.1.length), (12, .val (.int .i64 s22.2.2)), (14, .val (.int .i64 v33))], [(0, .mix 14 [(Mnd.cells true s_)]), (1, .mix 14 [(Mnd.cells true t_)]), (2, .mix 14 [[.val (.int .i64 0), .val (.slice none 0 0), .val (.slice none 0 0), .val (.slice none 0 0), .val (.slice none 0 0), .val (.int .i64 0), .val (.slice none 0 0), .val (.slice none 0 0), .val (.slice none 0 0), .val (.slice none 0 0), .val (.slice none 0 0), .val (.slice none 0 0), .val (.slice none 0 0), .val (.slice none 0 0)]]), (3, .mix 5 [(Cat.cells true s_.f.s)]), (4, .row 1 (Is (s22.1 ++ [v27]))), (5, .row 1 (Is s22.2.1))], 6⟩) (Wk.r1 [(0, 0), (1, 1), (2, 2), (3, 3), (4, 4), (5, 5)] (by simp [hP, hhOk, back, Cat.cells, Fn.cells, Mnd.cells, IA, I1, LA, L1, BA, B1, EA, E1, E2, eB, eI, eL])) ?_
     refine w_run mo (by rw [hN]; decide) fun K hK => ?_
     replace h := ass_some h
     obtain ⟨a34, h⟩ := h
     replace h := ass_some h
     obtain ⟨a35, h⟩ := h
     simp [-guardE_b, -Is_at, -Is_at', -Ls_at, -Ls_at', eL, eI, allInts, eP_Cat, eP_Fn, eP_Mnd, Cat.cells, Fn.cells, Mnd.cells, at_I a34, at_I a35]
     repeat (with_reducible refine And.intro ?_ ?_; · first | assumption | omega | (simp; done) | (simp; omega) | simp_all)
     replace h := bind_some h
     obtain ⟨v36, hv36, h⟩ := h
     refine callA_intro (w_s_l02Then _ _ _ v36 hv36) (.cons (.aggL (.cons .val (.cons .lst (.cons .lst (.cons .lst (.cons .lst .nil)))))) (.cons .val (.cons .val .nil))) ?_
     replace h := ass_some h
     obtain ⟨a37, h⟩ := h
     try simp only [List.length_append, List.length_cons, List.length_nil] at a37
     simp [-guardE_b, -Is_at, -Is_at', -Ls_at, -Ls_at', unk, unA, unE, unT, unC, flat, eL, eI, allInts, eP_Cat, eP_Fn, eP_Mnd, Cat.cells, Fn.cells, Mnd.cells, a37]
     repeat (with_reducible refine And.intro ?_ ?_; · first | assumption | omega | (simp; done) | (simp; omega) | simp_all)
     refine hK _ ?_
     clear hK K
     refine bn ?_
     refine tn ?_
     refine w_weak (st' := ⟨[(2, .lst true 1 (Is law_)), (3, .adr 0 0 0), (4, .adr 1 0 0), (6, .adr 2 0 0), (9, .adr 3 0 0), (10, .own 4 0 ((s22.1 ++ [v27]).length)), (11, .own 5 0 ((s22.2.1 ++ [v36]).length)), (12, .val (.int .i64 s22.2.2))], [(0, .mix 14 [(Mnd.cells true s_)]), (1, .mix 14 [(Mnd.cells true t_)]), (2, .mix 14 [[.val (.int .i64 0), .val (.slice none 0 0), .val (.slice none 0 0), .val (.slice none 0 0), .val (.slice none 0 0), .val (.int .i64 0), .val (.slice none 0 0), .val (.slice none 0 0), .val (.slice none 0 0), .val (.slice none 0 0), .val (.slice none 0 0), .val (.slice none 0 0), .val (.slice none 0 0), .val (.slice none 0 0)]]), (3, .mix 5 [(Cat.cells true s_.f.s)]), (4, .row 1 (Is (s22.1 ++ [v27]))), (5, .row 1 (Is (s22.2.1 ++ [v36])))], 6⟩) (Wk.r1 [(0, 0), (1, 1), (2, 2), (3, 3), (4, 4), (8, 5)] (by simp [hP, hhOk, back, Cat.cells, Fn.cells, Mnd.cells, IA, I1, LA, L1, BA, B1, EA, E1, E2, eB, eI, eL])) ?_
     refine w_run mo (by rw [hN]; decide) fun K hK => ?_
     replace h := ass_some h
     obtain ⟨a38, h⟩ := h
     simp [-guardE_b, -Is_at, -Is_at', -Ls_at, -Ls_at', eL, eI, allInts, eP_Cat, eP_Fn, eP_Mnd, Cat.cells, Fn.cells, Mnd.cells, wrap_id a38]
     repeat (with_reducible refine And.intro ?_ ?_; · first | assumption | omega | (simp; done) | (simp; omega) | simp_all)
     refine hK _ ?_
     clear hK K
     cases h
     exact rn (s' := (s22.1 ++ [v27], s22.2.1 ++ [v36], s22.2.2 + 1)) hk22 (Wk.r1 [(0, 0), (1, 1), (2, 2), (3, 3), (4, 4), (5, 5)] (by simp [hP, hhOk, back, Cat.cells, Fn.cells, Mnd.cells, IA, I1, LA, L1, BA, B1, EA, E1, E2, eB, eI, eL]))
   have g23 : ¬ (s22.2.2 < s_.f.s.n) := by first | simpa using g | (simp at g; exact g) | (simp at g; omega)
   clear g
   replace h := if_r g23 h
   refine w_exit ?_
   refine tx ?_
   refine lx ?_
   refine bh ?_
   cases h
   exact jn (b := (s22.1, s22.2.1)) hk22 (Wk.r1 [(0, 0), (1, 1), (2, 2), (4, 3), (5, 4)] (by simp [hP, hhOk, back, Cat.cells, Fn.cells, Mnd.cells, IA, I1, LA, L1, BA, B1, EA, E1, E2, eB, eI, eL]))
 intro b5 hb5
 have h := h5
 rw [← hb5] at h
 clear h5
 try dsimp only at h
 refine w_seq ?_
 refine w_run mo (by rw [hN]; decide) fun K hK => ?_
 simp [-guardE_b, -Is_at, -Is_at', -Ls_at, -Ls_at', eL, eI, allInts, eP_Cat, eP_Fn, eP_Mnd, Cat.cells, Fn.cells, Mnd.cells]
 repeat (with_reducible refine And.intro ?_ ?_; · first | assumption | omega | (simp; done) | (simp; omega) | simp_all)
 replace h := bind_some h
 obtain ⟨v39, hv39, h⟩ := h
 refine callA_intro (w_s_l06Then _ _ v39 hv39) (.cons (.aggL (.cons .val (.cons .lst (.cons .lst (.cons .lst (.cons .lst (.cons .val (.cons .lst (.cons .lst (.cons .lst (.cons .lst (.cons .lst (.cons .lst .nil))))))))))))) (.cons (.aggL (.cons .val (.cons .lst (.cons .lst (.cons .lst (.cons .lst (.cons .val (.cons .lst (.cons .lst (.cons .lst (.cons .lst (.cons .lst (.cons .lst .nil))))))))))))) .nil)) ?_
 simp [-guardE_b, -Is_at, -Is_at', -Ls_at, -Ls_at', unk, unA, unE, unT, unC, flat, eL, eI, allInts, eP_Cat, eP_Fn, eP_Mnd, Cat.cells, Fn.cells, Mnd.cells]
 repeat (with_reducible refine And.intro ?_ ?_; · first | assumption | omega | (simp; done) | (simp; omega) | simp_all)
 refine hK _ ?_
 clear hK K
 refine tn ?_
 refine w_weak (st' := ⟨[(6, .adr 0 0 0), (7, .val (.int .i64 0))], [(0, .mix 14 [[.val (.int .i64 v39.s.n), .own 1 0 v39.s.fr.length, .own 2 0 v39.s.to.length, .own 3 0 v39.s.id.length, .own 4 0 v39.s.cs.length, .val (.int .i64 v39.t.n), .own 5 0 v39.t.fr.length, .own 6 0 v39.t.to.length, .own 7 0 v39.t.id.length, .own 8 0 v39.t.cs.length, .own 9 0 v39.ob.length, .own 10 0 v39.ar.length, .own 11 0 b5.1.length, .own 12 0 b5.2.length]]), (1, .row 1 (Is v39.s.fr)), (2, .row 1 (Is v39.s.to)), (3, .row 1 (Is v39.s.id)), (4, .row 1 (Ls v39.s.cs)), (5, .row 1 (Is v39.t.fr)), (6, .row 1 (Is v39.t.to)), (7, .row 1 (Is v39.t.id)), (8, .row 1 (Ls v39.t.cs)), (9, .row 1 (Is v39.ob)), (10, .row 1 (Is v39.ar)), (11, .row 1 (Is b5.1)), (12, .row 1 (Is b5.2))], 13⟩) (Wk.r1 [(2, 0), (6, 1), (7, 2), (8, 3), (9, 4), (11, 5), (12, 6), (13, 7), (14, 8), (15, 9), (16, 10), (3, 11), (4, 12)] (by simp [hP, hhOk, back, Cat.cells, Fn.cells, Mnd.cells, IA, I1, LA, L1, BA, B1, EA, E1, E2, eB, eI, eL])) ?_
 refine w_ret ?_
 have hr := Option.some.inj h
 rw [← hr]
 refine ⟨_, (.cell tf_50 rfl rfl rfl (by simp) (by simp) (.tmp .nil)), ?_⟩
 refine ⟨(.agg rfl (.one rfl rfl .nil)), [.val (.int .i64 v39.s.n), .lst true 1 (Is v39.s.fr), .lst true 1 (Is v39.s.to), .lst true 1 (Is v39.s.id), .lst true 1 (Ls v39.s.cs), .val (.int .i64 v39.t.n), .lst true 1 (Is v39.t.fr), .lst true 1 (Is v39.t.to), .lst true 1 (Is v39.t.id), .lst true 1 (Ls v39.t.cs), .lst true 1 (Is v39.ob), .lst true 1 (Is v39.ar), .lst true 1 (Is b5.1), .lst true 1 (Is b5.2), .val (.int .i64 0)], [1, 2, 3, 4, 5, 6, 7, 8, 9, 10, 11, 12], by simp [Cat.cells, Fn.cells, Mnd.cells, IA, I1, LA, L1, BA, B1, EA, E1, E2, eB, eI, eL], by simp, (UpL.refl _)⟩
end Go.Vc.T

set_option maxRecDepth 100000
set_option linter.unusedSimpArgs false
set_option linter.unusedVariables false
namespace Go.Vc.T
open Go Go.Vc Go.Proofs
theorem run_bind {σ ε β : Type} {body : σ → Option (Ctl σ ε)} {K : ε → Option β} {r : Option β} {s0 : σ} (n : Nat) (g : Nat → σ) {e : ε} (h0 : s0 = g 0) (hn : n < 4611686018427387904) (h : ∀ i : Nat, i < n → body (g i) = some (.next (g (i + 1)))) (he : body (g n) = some (.ret e)) (hk : K e = r) : (loopF body fuel s0).bind K = r := by
 rw [loop_run g n h0 hn h he]; exact hk
def zeroM : Mnd := ⟨zeroF, [], []⟩
theorem zeroM_ok : zeroM.ok ∧ zeroM.size ≤ 10000 := by simp [zeroM, Mnd.ok, Mnd.size, Fn.ok, Fn.size, Cat.ok, Cat.size, zeroF, sumL]
def cmU (s t : Mnd) (x : Nat) : Int := ix (rx s.f.s.cs (ix s.u x)) (ix t.u (ix s.f.ob x))
def cmJ (s t : Mnd) (w : List Int) (x : Nat) : Int := ix (rx s.f.s.cs (ix (rx s.f.s.cs (ix t.f.ar (ix w (ix s.f.ob x)))) (ix t.j (ix s.f.ob (ix s.f.ob x))))) (ix t.f.ar (ix s.j x))
def cmV (s t : Mnd) (w : List Int) : Mnd := ⟨thenF s.f t.f, tab s.f.ob.length (cmU s t), tab s.f.ob.length (cmJ s t w)⟩
theorem e_two (s t : Mnd) : s_s_l16Two s t = some (@ite _ (s.Is ∧ t.Is) (Classical.propDecidable _) (@ite _ (s.f.s = t.f.s) (Classical.propDecidable _) 0 5) 1) ∧ s_i_monadsCode s t = some (@ite _ (s.Is ∧ t.Is) (Classical.propDecidable _) (@ite _ (s.f.s = t.f.s) (Classical.propDecidable _) 0 5) 1) := by
 unfold s_s_l16Two s_i_monadsCode s_s_l02Same
 rw [e_l16Is, e_isMonad, e_l16Is, e_isMonad]
 by_cases h1 : s.Is
 case neg => simp [bo_neg h1, h1]
 by_cases h2 : t.Is
 case neg => simp [bo_pos h1, bo_neg h2, h2]
 rw [e_sameCat h1.pre.f.s]
 by_cases h3 : s.f.s = t.f.s
 · simp [bo_pos h1, bo_pos h2, bo_pos h3, h1, h2, h3]
 simp [bo_pos h1, bo_pos h2, bo_neg h3, h1, h2, h3]
set_option maxHeartbeats 8000000 in
theorem m_ComposeMonads (s t : Mnd) (w : List Int) : ∃ r, s_s_ComposeMonads s t w = some r ∧ s_i_ComposeMonads s t w = some r ∧ r.1.ok ∧ r.1.size ≤ 10000 := by
 have zok := zeroM_ok
 unfold s_s_ComposeMonads s_i_ComposeMonads
 rw [(e_two s t).1, (e_two s t).2]
 by_cases hm : s.Is ∧ t.Is
 case neg => exact ⟨(zeroM, 1), by simp [hm, zeroM, zeroF], by simp [hm, zeroM, zeroF], zok⟩
 by_cases he : s.f.s = t.f.s
 case neg => exact ⟨(zeroM, 5), by simp [hm, he, zeroM, zeroF], by simp [hm, he, zeroM, zeroF], zok⟩
 obtain ⟨hs, ht⟩ := hm
 rw [if_pos ⟨hs, ht⟩, if_pos he]
 by_cases hn : NatT (thenF t.f s.f) (thenF s.f t.f) w
 case neg =>
   have e1 : t.f.t = s.f.s := by rw [← ht.pre.e, he]
   have e2 : s.f.t = t.f.s := by rw [← hs.pre.e, he]
   have hP : Para (thenF t.f s.f) (thenF s.f t.f) := ⟨then_is ht.pre.f hs.pre.f e1, then_is hs.pre.f ht.pre.f e2, by simp [thenF, he], by simp [thenF, ← hs.pre.e, ← ht.pre.e, he]⟩
   have a1 : s_s_l16Law s t w = some false := by
     unfold s_s_l16Law
     simp [e_l06Then ht.pre.f hs.pre.f e1, e_l06Then hs.pre.f ht.pre.f e2, e_l15Natural hP, bo_neg hn]
   have a2 : s_i_isLaw s t w = some false := by
     unfold s_i_isLaw
     simp [e_Fthen ht.pre.f hs.pre.f e1, e_Fthen hs.pre.f ht.pre.f e2, e_isNatural, bo_neg (fun q => hn ((tra_is hP).1 q))]
   exact ⟨(zeroM, 4), by simp [a1, zeroM, zeroF], by simp [a2, zeroM, zeroF], zok⟩
 have hp : LPre s t w := ⟨hs.pre, ht.pre, he, hn⟩
 by_cases hl : LIs s t w
 case neg => exact ⟨(zeroM, 4), by simp [(e_laws hp).1, bo_neg hl, zeroM, zeroF], by simp [(e_laws hp).2, bo_neg hl, zeroM, zeroF], zok⟩
 obtain ⟨l1, l2, l3⟩ := hp.len
 have hS := hs.pre.len
 have hT := ht.pre.len
 rw [← he] at hT
 have hc := hs.pre.f.s
 have e2 : s.f.t = t.f.s := by rw [← hs.pre.e, he]
 have hth := then_is hs.pre.f ht.pre.f e2
 have key : ∀ i : Nat, i < s.f.ob.length → LAt s t w i ∧ LAt s t w (ix s.f.ob i) ∧ LAt s t w (ix s.f.ob (ix s.f.ob i)) := fun i hi => by
   have a := hp.at (x := i) ⟨by omega, by omega⟩
   have b := hp.at a.sx
   exact ⟨a, b, hp.at b.sx⟩
 have q := hth.ok
 refine ⟨(cmV s t w, 0), ?_, ?_, ⟨q.1, by simp only [cmV, tab_length]; omega, by simp only [cmV, tab_length]; omega⟩, by simp only [Mnd.size, cmV, tab_length]; have := q.2; omega⟩
 · simp only [(e_laws hp).1, bo_pos hl, Option.bind_some, not_true_eq_false, if_false]
   refine run_bind s.f.ob.length (fun i => (tab i (cmU s t), tab i (cmJ s t w), (i : Int))) (e := (tab s.f.ob.length (cmU s t), tab s.f.ob.length (cmJ s t w))) rfl (by omega) (fun i hi => ?_) (by simp; try omega) ?_
   · obtain ⟨a, b, d⟩ := key i hi
     have t1 := Ar.thn hc a.su b.tu
     have k2 := hp.ht.Aa he.symm b.w
     have t2 := Ar.thn hc k2 d.tj
     have c2 := Ar.two hc k2 d.tj
     have t3 := Ar.thn hc c2 (hp.ht.Aa he.symm a.sj)
     have b1 := a.sx
     have b2 := b.sx
     have b3 := b.w.1
     have b4 := a.sj.1
     simp (disch := omega) only [ass_pos, t1.1, t2.1, t3.1, Option.bind_some, if_pos]
     simp (disch := omega) [ass_pos, B64, tab_succ, cmU, cmJ]; try omega
   simp [e_l06Then hs.pre.f ht.pre.f e2, cmV]
 simp only [(e_laws hp).2, bo_pos hl, Option.bind_some, not_true_eq_false, if_false, e_Fthen hs.pre.f ht.pre.f e2]
 refine run_bind s.f.ob.length (fun i => (tab i (cmU s t), tab i (cmJ s t w), (i : Int))) (e := (tab s.f.ob.length (cmU s t), tab s.f.ob.length (cmJ s t w))) rfl (by omega) (fun i hi => ?_) (by simp; try omega) ?_
 · obtain ⟨a, b, d⟩ := key i hi
   have t1 := Ar.thn hc a.su b.tu
   have k2 := hp.ht.Aa he.symm b.w
   have t2 := Ar.thn hc k2 d.tj
   have c2 := Ar.two hc k2 d.tj
   have t3 := Ar.thn hc c2 (hp.ht.Aa he.symm a.sj)
   have b1 := a.sx
   have b2 := b.sx
   have b3 := b.w.1
   have b4 := a.sj.1
   simp (disch := omega) only [s_i_Monad_object, s_i_Monad_arrow, ass_pos, t1.2, t2.2, t3.2, Option.bind_some, if_pos]
   simp (disch := omega) [ass_pos, B64, tab_succ, cmU, cmJ]; try omega
 unfold s_i_monad s_i_clone
 rw [e_Fcopy hth, ass_pos (by simp; omega), ass_pos (by simp; omega)]
 simp [cmV]
end Go.Vc.T
