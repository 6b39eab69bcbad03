/- A part of the proof: a verified generator of conditions, and what each function of the program does. -/
import Derived.Test.YtkafionfghoggaaP5
set_option maxRecDepth 100000
set_option linter.unusedSimpArgs false
set_option linter.unusedVariables false

set_option maxRecDepth 100000
set_option linter.unusedSimpArgs false
set_option linter.unusedVariables false
namespace Go.Vc.T
open Go Go.Vc Go.Proofs
noncomputable def s_s_l15Natural (f_ : Fn) (g_ : Fn) (parts_ : List Int) : Option Bool :=
 (
   if ¬ ((parts_.length : Int) = (f_.ob.length : Int)) then
     some true
   else
     (s_s_l01Map (f_.t.fr.length : Int) parts_).bind fun v3 =>
     some (!v3) : Option (Bool)).bind fun b1 =>
 if b1 = true then
   some false
 else
   (loopF (σ := Int) (ε := Unit ⊕ Bool) (fun s17 =>
     if s17 < (parts_.length : Int) then
       (
         ass (0 ≤ s17 ∧ s17 < (parts_.length : Int)) <|
         ass (0 ≤ ix parts_ s17 ∧ ix parts_ s17 < (f_.t.fr.length : Int)) <|
         ass (0 ≤ s17 ∧ s17 < (f_.ob.length : Int)) <|
         if ¬ ((ix f_.t.fr (ix parts_ s17)) = (ix f_.ob s17)) then
           some true
         else
           ass (0 ≤ s17 ∧ s17 < (parts_.length : Int)) <|
           ass (0 ≤ ix parts_ s17 ∧ ix parts_ s17 < (f_.t.to.length : Int)) <|
           ass (0 ≤ s17 ∧ s17 < (g_.ob.length : Int)) <|
           some ((ix f_.t.to (ix parts_ s17)) != (ix g_.ob s17)) : Option (Bool)).bind fun b19 =>
       if b19 = true then
         some (Ctl.ret (Sum.inr false))
       else
         ass (B64 (s17 + 1)) <|
         some (Ctl.next (s17 + 1))
     else
       some (Ctl.ret (Sum.inl ()))) fuel 0).bind fun e5 =>
   match e5 with
   | .inl b5 =>
     (loopF (σ := Int) (ε := Unit ⊕ Bool) (fun s41 =>
       if s41 < (f_.s.fr.length : Int) then
         ass (0 ≤ s41 ∧ s41 < (f_.ar.length : Int)) <|
         ass (0 ≤ s41 ∧ s41 < (f_.s.to.length : Int)) <|
         ass (0 ≤ ix f_.s.to s41 ∧ ix f_.s.to s41 < (parts_.length : Int)) <|
         (s_s_l02Then f_.t (ix f_.ar s41) (ix parts_ (ix f_.s.to s41))).bind fun v46 =>
         ass (0 ≤ s41 ∧ s41 < (f_.s.fr.length : Int)) <|
         ass (0 ≤ ix f_.s.fr s41 ∧ ix f_.s.fr s41 < (parts_.length : Int)) <|
         ass (0 ≤ s41 ∧ s41 < (g_.ar.length : Int)) <|
         (s_s_l02Then f_.t (ix parts_ (ix f_.s.fr s41)) (ix g_.ar s41)).bind fun v50 =>
         if ¬ (v46 = v50) then
           some (Ctl.ret (Sum.inr false))
         else
           ass (B64 (s41 + 1)) <|
           some (Ctl.next (s41 + 1))
       else
         some (Ctl.ret (Sum.inl ()))) fuel 0).bind fun e29 =>
     match e29 with
     | .inl b29 =>
       some true
     | .inr p29 =>
       some p29
   | .inr p5 =>
     some p5
set_option maxHeartbeats 4000000 in
theorem w_s_l15Natural (f_ : Fn) (g_ : Fn) (parts_ : List Int) (r : Bool) (h : s_s_l15Natural f_ g_ parts_ = some r) : Contract Try.prog 168 [.agg (f_.cells true), .agg (g_.cells true), .lst true 1 (Is parts_)] (.val (.bool r)) := by
 refine contract_introG (rvs := [.tmp 6]) (rs := [.val (.bool r)]) Try.func168 rfl rfl rfl rfl (by simp [Try.f168]) fun F hN hP => ?_
 unfold s_s_l15Natural at h
 refine w_seq ?_
 refine w_run mo (by rw [hN]; decide) fun K hK => ?_
 simp [-guardE_b, -Is_at, -Is_at', -Ls_at, -Ls_at', eL, eI, allInts, eP_Cat, eP_Fn, Cat.cells, Fn.cells]
 repeat (with_reducible refine And.intro ?_ ?_; · first | assumption | omega | (simp; done) | (simp; omega) | simp_all)
 refine hK _ ?_
 clear hK K
 refine tn ?_
 refine w_weak (st' := ⟨[(2, .lst true 1 (Is parts_)), (3, .adr 0 0 0), (4, .adr 1 0 0)], [(0, .mix 12 [[.val (.int .i64 f_.s.n), .lst true 1 (Is f_.s.fr), .lst true 1 (Is f_.s.to), .lst true 1 (Is f_.s.id), .lst true 1 (Ls f_.s.cs), .val (.int .i64 f_.t.n), .lst true 1 (Is f_.t.fr), .lst true 1 (Is f_.t.to), .lst true 1 (Is f_.t.id), .lst true 1 (Ls f_.t.cs), .lst true 1 (Is f_.ob), .lst true 1 (Is f_.ar)]]), (1, .mix 12 [[.val (.int .i64 g_.s.n), .lst true 1 (Is g_.s.fr), .lst true 1 (Is g_.s.to), .lst true 1 (Is g_.s.id), .lst true 1 (Ls g_.s.cs), .val (.int .i64 g_.t.n), .lst true 1 (Is g_.t.fr), .lst true 1 (Is g_.t.to), .lst true 1 (Is g_.t.id), .lst true 1 (Ls g_.t.cs), .lst true 1 (Is g_.ob), .lst true 1 (Is g_.ar)]])], 2⟩) (Wk.rel [(0, 0), (1, 1)] (by simp) (by simp) (by rw [hP]; simp) (by simp) (by simp) (by simp [Cat.cells, Fn.cells, Is_append, Is_one, Ls_append, Ls_one, Bs_append, Bs_one, Es_append, Es_one, Es_set', eB, eI, eL]) (by simp [hhOk, back, Cat.cells, Fn.cells, Is_append, Is_one, Ls_append, Ls_one, Bs_append, Bs_one, Es_append, Es_one, Es_set', eB, eI, eL])) ?_
 refine w_seq ?_
 refine w_runS mo (by rw [hN]; decide) fun K hK => ?_
 simp [-guardE_b, -Is_at, -Is_at', -Ls_at, -Ls_at', eL, eI, allInts, eP_Cat, eP_Fn, Cat.cells, Fn.cells]
 repeat (with_reducible refine And.intro ?_ ?_; · first | assumption | omega | (simp; done) | (simp; omega) | simp_all)
 refine hK _ ?_
 clear hK K
 refine tn ?_
 refine w_weak (st' := ⟨[(2, .lst true 1 (Is parts_)), (3, .adr 0 0 0), (4, .adr 1 0 0), (7, .adr 2 0 0), (8, .adr 3 0 0)], [(0, .mix 12 [[.val (.int .i64 f_.s.n), .lst true 1 (Is f_.s.fr), .lst true 1 (Is f_.s.to), .lst true 1 (Is f_.s.id), .lst true 1 (Ls f_.s.cs), .val (.int .i64 f_.t.n), .lst true 1 (Is f_.t.fr), .lst true 1 (Is f_.t.to), .lst true 1 (Is f_.t.id), .lst true 1 (Ls f_.t.cs), .lst true 1 (Is f_.ob), .lst true 1 (Is f_.ar)]]), (1, .mix 12 [[.val (.int .i64 g_.s.n), .lst true 1 (Is g_.s.fr), .lst true 1 (Is g_.s.to), .lst true 1 (Is g_.s.id), .lst true 1 (Ls g_.s.cs), .val (.int .i64 g_.t.n), .lst true 1 (Is g_.t.fr), .lst true 1 (Is g_.t.to), .lst true 1 (Is g_.t.id), .lst true 1 (Ls g_.t.cs), .lst true 1 (Is g_.ob), .lst true 1 (Is g_.ar)]]), (2, .mix 5 [[.val (.int .i64 f_.s.n), .lst true 1 (Is f_.s.fr), .lst true 1 (Is f_.s.to), .lst true 1 (Is f_.s.id), .lst true 1 (Ls f_.s.cs)]]), (3, .mix 5 [[.val (.int .i64 f_.t.n), .lst true 1 (Is f_.t.fr), .lst true 1 (Is f_.t.to), .lst true 1 (Is f_.t.id), .lst true 1 (Ls f_.t.cs)]])], 4⟩) (Wk.rel [(0, 0), (1, 1), (2, 2), (3, 3)] (by simp) (by simp) (by rw [hP]; simp) (by simp) (by simp) (by simp [Cat.cells, Fn.cells, Is_append, Is_one, Ls_append, Ls_one, Bs_append, Bs_one, Es_append, Es_one, Es_set', eB, eI, eL]) (by simp [hhOk, back, Cat.cells, Fn.cells, Is_append, Is_one, Ls_append, Ls_one, Bs_append, Bs_one, Es_append, Es_one, Es_set', eB, eI, eL])) ?_
 refine w_seq ?_
 refine w_seq ?_
 replace h := bind_some h
 obtain ⟨e1, h, h1⟩ := h
 refine w_joinT (fun b1 : Bool => ⟨[(2, .lst true 1 (Is parts_)), (3, .adr 0 0 0), (4, .adr 1 0 0), (7, .adr 2 0 0), (8, .adr 3 0 0), (28, .val (.bool b1))], [(0, .mix 12 [[.val (.int .i64 f_.s.n), .lst true 1 (Is f_.s.fr), .lst true 1 (Is f_.s.to), .lst true 1 (Is f_.s.id), .lst true 1 (Ls f_.s.cs), .val (.int .i64 f_.t.n), .lst true 1 (Is f_.t.fr), .lst true 1 (Is f_.t.to), .lst true 1 (Is f_.t.id), .lst true 1 (Ls f_.t.cs), .lst true 1 (Is f_.ob), .lst true 1 (Is f_.ar)]]), (1, .mix 12 [[.val (.int .i64 g_.s.n), .lst true 1 (Is g_.s.fr), .lst true 1 (Is g_.s.to), .lst true 1 (Is g_.s.id), .lst true 1 (Ls g_.s.cs), .val (.int .i64 g_.t.n), .lst true 1 (Is g_.t.fr), .lst true 1 (Is g_.t.to), .lst true 1 (Is g_.t.id), .lst true 1 (Ls g_.t.cs), .lst true 1 (Is g_.ob), .lst true 1 (Is g_.ar)]]), (2, .mix 5 [[.val (.int .i64 f_.s.n), .lst true 1 (Is f_.s.fr), .lst true 1 (Is f_.s.to), .lst true 1 (Is f_.s.id), .lst true 1 (Ls f_.s.cs)]]), (3, .mix 5 [[.val (.int .i64 f_.t.n), .lst true 1 (Is f_.t.fr), .lst true 1 (Is f_.t.to), .lst true 1 (Is f_.t.id), .lst true 1 (Ls f_.t.cs)]])], 4⟩) (fun b1 => b1 = e1) ?_ ?_
 · refine w_run mo (by rw [hN]; decide) fun K hK => ?_
   simp [-guardE_b, -Is_at, -Is_at', -Ls_at, -Ls_at', eL, eI, allInts, eP_Cat, eP_Fn, Cat.cells, Fn.cells]
   repeat (with_reducible refine And.intro ?_ ?_; · first | assumption | omega | (simp; done) | (simp; omega) | simp_all)
   refine guard_intro (fun g => ?_) (fun g => ?_)
   · have g2 : ¬ (¬ ((parts_.length : Int) = (f_.ob.length : Int))) := by first | simpa using g | (simp at g; exact g) | (simp at g; omega)
     clear g
     replace h := if_r g2 h
     simp [-guardE_b, -Is_at, -Is_at', -Ls_at, -Ls_at', eL, eI, allInts, eP_Cat, eP_Fn, Cat.cells, Fn.cells]
     repeat (with_reducible refine And.intro ?_ ?_; · first | assumption | omega | (simp; done) | (simp; omega) | simp_all)
     replace h := bind_some h
     obtain ⟨v3, hv3, h⟩ := h
     refine callA_intro (w_s_l01Map _ _ v3 hv3) (.cons .val (.cons .lst .nil)) ?_
     simp [-guardE_b, -Is_at, -Is_at', -Ls_at, -Ls_at', unk, unA, unE, unT, unC, flat, eL, eI, allInts, eP_Cat, eP_Fn, Cat.cells, Fn.cells]
     repeat (with_reducible refine And.intro ?_ ?_; · first | assumption | omega | (simp; done) | (simp; omega) | simp_all)
     refine hK _ ?_
     exact jn (b := !v3) (Option.some.inj h) (Wk.rel [(0, 0), (1, 1), (2, 2), (3, 3)] (by simp) (by simp) (by rw [hP]; simp) (by simp) (by simp) (by simp [Cat.cells, Fn.cells, Is_append, Is_one, Ls_append, Ls_one, Bs_append, Bs_one, Es_append, Es_one, Es_set', eB, eI, eL]) (by simp [hhOk, back, Cat.cells, Fn.cells, Is_append, Is_one, Ls_append, Ls_one, Bs_append, Bs_one, Es_append, Es_one, Es_set', eB, eI, eL]))
   have g2 : ¬ ((parts_.length : Int) = (f_.ob.length : Int)) := by first | simpa using g | (simp at g; exact g) | (simp at g; omega)
   clear g
   replace h := if_l g2 h
   simp [-guardE_b, -Is_at, -Is_at', -Ls_at, -Ls_at', eL, eI, allInts, eP_Cat, eP_Fn, Cat.cells, Fn.cells]
   repeat (with_reducible refine And.intro ?_ ?_; · first | assumption | omega | (simp; done) | (simp; omega) | simp_all)
   refine hK _ ?_
   exact jn (b := true) (Option.some.inj h) (Wk.rel [(0, 0), (1, 1), (2, 2), (3, 3)] (by simp) (by simp) (by rw [hP]; simp) (by simp) (by simp) (by simp [Cat.cells, Fn.cells, Is_append, Is_one, Ls_append, Ls_one, Bs_append, Bs_one, Es_append, Es_one, Es_set', eB, eI, eL]) (by simp [hhOk, back, Cat.cells, Fn.cells, Is_append, Is_one, Ls_append, Ls_one, Bs_append, Bs_one, Es_append, Es_one, Es_set', eB, eI, eL]))
 intro b1 hb1
 have h := h1
 rw [← hb1] at h
 clear h1
 try dsimp only at h
 refine w_cond rfl (fun g => ?_) fun g => ?_
 · have g4 : b1 = true := by first | simpa using g | (simp at g; exact g) | (simp at g; omega)
   clear g
   replace h := if_l g4 h
   refine w_seq ?_
   refine w_run mo (by rw [hN]; decide) fun K hK => ?_
   simp [-guardE_b, -Is_at, -Is_at', -Ls_at, -Ls_at', eL, eI, allInts, eP_Cat, eP_Fn, Cat.cells, Fn.cells]
   repeat (with_reducible refine And.intro ?_ ?_; · first | assumption | omega | (simp; done) | (simp; omega) | simp_all)
   refine hK _ ?_
   clear hK K
   refine tn ?_
   refine w_weak (st' := ⟨[(6, .val (.bool false))], [], 0⟩) (Wk.rel [] (by simp) (by simp) (by rw [hP]; simp) (by simp) (by simp) (by simp [Cat.cells, Fn.cells, Is_append, Is_one, Ls_append, Ls_one, Bs_append, Bs_one, Es_append, Es_one, Es_set', eB, eI, eL]) (by simp [hhOk, back, Cat.cells, Fn.cells, Is_append, Is_one, Ls_append, Ls_one, Bs_append, Bs_one, Es_append, Es_one, Es_set', eB, eI, eL])) ?_
   refine w_ret ?_
   refine tr ?_
   have hr := Option.some.inj h
   rw [← hr]
   refine ⟨_, (.tmp .nil), ?_⟩
   refine ⟨(.one rfl rfl .nil), [.val (.bool false)], [], by simp [Cat.cells, Fn.cells, Is_append, Is_one, Ls_append, Ls_one, Bs_append, Bs_one, Es_append, Es_one, Es_set', eB, eI, eL], by simp, (UpL.refl _)⟩
 have g4 : ¬ (b1 = true) := by first | simpa using g | (simp at g; exact g) | (simp at g; omega)
 clear g
 replace h := if_r g4 h
 refine w_skip ?_
 refine tn ?_
 refine w_seq ?_
 refine w_seq ?_
 refine w_run mo (by rw [hN]; decide) fun K hK => ?_
 simp [-guardE_b, -Is_at, -Is_at', -Ls_at, -Ls_at', eL, eI, allInts, eP_Cat, eP_Fn, Cat.cells, Fn.cells]
 repeat (with_reducible refine And.intro ?_ ?_; · first | assumption | omega | (simp; done) | (simp; omega) | simp_all)
 refine hK _ ?_
 clear hK K
 refine tn ?_
 refine w_weak (st' := ⟨[(2, .lst true 1 (Is parts_)), (3, .adr 0 0 0), (4, .adr 1 0 0), (7, .adr 2 0 0), (8, .adr 3 0 0), (9, .val (.int .i64 0))], [(0, .mix 12 [[.val (.int .i64 f_.s.n), .lst true 1 (Is f_.s.fr), .lst true 1 (Is f_.s.to), .lst true 1 (Is f_.s.id), .lst true 1 (Ls f_.s.cs), .val (.int .i64 f_.t.n), .lst true 1 (Is f_.t.fr), .lst true 1 (Is f_.t.to), .lst true 1 (Is f_.t.id), .lst true 1 (Ls f_.t.cs), .lst true 1 (Is f_.ob), .lst true 1 (Is f_.ar)]]), (1, .mix 12 [[.val (.int .i64 g_.s.n), .lst true 1 (Is g_.s.fr), .lst true 1 (Is g_.s.to), .lst true 1 (Is g_.s.id), .lst true 1 (Ls g_.s.cs), .val (.int .i64 g_.t.n), .lst true 1 (Is g_.t.fr), .lst true 1 (Is g_.t.to), .lst true 1 (Is g_.t.id), .lst true 1 (Ls g_.t.cs), .lst true 1 (Is g_.ob), .lst true 1 (Is g_.ar)]]), (2, .mix 5 [[.val (.int .i64 f_.s.n), .lst true 1 (Is f_.s.fr), .lst true 1 (Is f_.s.to), .lst true 1 (Is f_.s.id), .lst true 1 (Ls f_.s.cs)]]), (3, .mix 5 [[.val (.int .i64 f_.t.n), .lst true 1 (Is f_.t.fr), .lst true 1 (Is f_.t.to), .lst true 1 (Is f_.t.id), .lst true 1 (Ls f_.t.cs)]])], 4⟩) (Wk.rel [(0, 0), (1, 1), (2, 2), (3, 3)] (by simp) (by simp) (by rw [hP]; simp) (by simp) (by simp) (by simp [Cat.cells, Fn.cells, Is_append, Is_one, Ls_append, Ls_one, Bs_append, Bs_one, Es_append, Es_one, Es_set', eB, eI, eL]) (by simp [hhOk, back, Cat.cells, Fn.cells, Is_append, Is_one, Ls_append, Ls_one, Bs_append, Bs_one, Es_append, Es_one, Es_set', eB, eI, eL])) ?_
 replace h := bind_some h
 obtain ⟨e5, h, h5⟩ := h
 refine w_joinT (fun b5 : Unit => ⟨[(2, .lst true 1 (Is parts_)), (3, .adr 0 0 0), (4, .adr 1 0 0), (7, .adr 2 0 0), (8, .adr 3 0 0)], [(0, .mix 12 [[.val (.int .i64 f_.s.n), .lst true 1 (Is f_.s.fr), .lst true 1 (Is f_.s.to), .lst true 1 (Is f_.s.id), .lst true 1 (Ls f_.s.cs), .val (.int .i64 f_.t.n), .lst true 1 (Is f_.t.fr), .lst true 1 (Is f_.t.to), .lst true 1 (Is f_.t.id), .lst true 1 (Ls f_.t.cs), .lst true 1 (Is f_.ob), .lst true 1 (Is f_.ar)]]), (1, .mix 12 [[.val (.int .i64 g_.s.n), .lst true 1 (Is g_.s.fr), .lst true 1 (Is g_.s.to), .lst true 1 (Is g_.s.id), .lst true 1 (Ls g_.s.cs), .val (.int .i64 g_.t.n), .lst true 1 (Is g_.t.fr), .lst true 1 (Is g_.t.to), .lst true 1 (Is g_.t.id), .lst true 1 (Ls g_.t.cs), .lst true 1 (Is g_.ob), .lst true 1 (Is g_.ar)]]), (2, .mix 5 [[.val (.int .i64 f_.s.n), .lst true 1 (Is f_.s.fr), .lst true 1 (Is f_.s.to), .lst true 1 (Is f_.s.id), .lst true 1 (Ls f_.s.cs)]]), (3, .mix 5 [[.val (.int .i64 f_.t.n), .lst true 1 (Is f_.t.fr), .lst true 1 (Is f_.t.to), .lst true 1 (Is f_.t.id), .lst true 1 (Ls f_.t.cs)]])], 4⟩) (fun b5 => Sum.inl b5 = e5) ?_ ?_
 · refine w_block ?_
   refine w_loopF h (fun s17 : Int => ⟨[(2, .lst true 1 (Is parts_)), (3, .adr 0 0 0), (4, .adr 1 0 0), (7, .adr 2 0 0), (8, .adr 3 0 0), (9, .val (.int .i64 s17))], [(0, .mix 12 [[.val (.int .i64 f_.s.n), .lst true 1 (Is f_.s.fr), .lst true 1 (Is f_.s.to), .lst true 1 (Is f_.s.id), .lst true 1 (Ls f_.s.cs), .val (.int .i64 f_.t.n), .lst true 1 (Is f_.t.fr), .lst true 1 (Is f_.t.to), .lst true 1 (Is f_.t.id), .lst true 1 (Ls f_.t.cs), .lst true 1 (Is f_.ob), .lst true 1 (Is f_.ar)]]), (1, .mix 12 [[.val (.int .i64 g_.s.n), .lst true 1 (Is g_.s.fr), .lst true 1 (Is g_.s.to), .lst true 1 (Is g_.s.id), .lst true 1 (Ls g_.s.cs), .val (.int .i64 g_.t.n), .lst true 1 (Is g_.t.fr), .lst true 1 (Is g_.t.to), .lst true 1 (Is g_.t.id), .lst true 1 (Ls g_.t.cs), .lst true 1 (Is g_.ob), .lst true 1 (Is g_.ar)]]), (2, .mix 5 [[.val (.int .i64 f_.s.n), .lst true 1 (Is f_.s.fr), .lst true 1 (Is f_.s.to), .lst true 1 (Is f_.s.id), .lst true 1 (Ls f_.s.cs)]]), (3, .mix 5 [[.val (.int .i64 f_.t.n), .lst true 1 (Is f_.t.fr), .lst true 1 (Is f_.t.to), .lst true 1 (Is f_.t.id), .lst true 1 (Ls f_.t.cs)]])], 4⟩) (Wk.rel [(0, 0), (1, 1), (2, 2), (3, 3)] (by simp) (by simp) (by rw [hP]; simp) (by simp) (by simp) (by simp [Cat.cells, Fn.cells, Is_append, Is_one, Ls_append, Ls_one, Bs_append, Bs_one, Es_append, Es_one, Es_set', eB, eI, eL]) (by simp [hhOk, back, Cat.cells, Fn.cells, Is_append, Is_one, Ls_append, Ls_one, Bs_append, Bs_one, Es_append, Es_one, Es_set', eB, eI, eL])) ?_
   clear h
   intro k17 s17 c17 h hk17
   refine w_seq ?_
   refine w_seq ?_
   refine w_run mo (by rw [hN]; decide) fun K hK => ?_
   simp [-guardE_b, -Is_at, -Is_at', -Ls_at, -Ls_at', eL, eI, allInts, eP_Cat, eP_Fn, Cat.cells, Fn.cells]
   repeat (with_reducible refine And.intro ?_ ?_; · first | assumption | omega | (simp; done) | (simp; omega) | simp_all)
   refine hK _ ?_
   clear hK K
   refine tn ?_
   refine w_weak (st' := ⟨[(2, .lst true 1 (Is parts_)), (3, .adr 0 0 0), (4, .adr 1 0 0), (7, .adr 2 0 0), (8, .adr 3 0 0), (9, .val (.int .i64 s17)), (32, .val (.bool (decide (s17 < (parts_.length : Int)))))], [(0, .mix 12 [[.val (.int .i64 f_.s.n), .lst true 1 (Is f_.s.fr), .lst true 1 (Is f_.s.to), .lst true 1 (Is f_.s.id), .lst true 1 (Ls f_.s.cs), .val (.int .i64 f_.t.n), .lst true 1 (Is f_.t.fr), .lst true 1 (Is f_.t.to), .lst true 1 (Is f_.t.id), .lst true 1 (Ls f_.t.cs), .lst true 1 (Is f_.ob), .lst true 1 (Is f_.ar)]]), (1, .mix 12 [[.val (.int .i64 g_.s.n), .lst true 1 (Is g_.s.fr), .lst true 1 (Is g_.s.to), .lst true 1 (Is g_.s.id), .lst true 1 (Ls g_.s.cs), .val (.int .i64 g_.t.n), .lst true 1 (Is g_.t.fr), .lst true 1 (Is g_.t.to), .lst true 1 (Is g_.t.id), .lst true 1 (Ls g_.t.cs), .lst true 1 (Is g_.ob), .lst true 1 (Is g_.ar)]]), (2, .mix 5 [[.val (.int .i64 f_.s.n), .lst true 1 (Is f_.s.fr), .lst true 1 (Is f_.s.to), .lst true 1 (Is f_.s.id), .lst true 1 (Ls f_.s.cs)]]), (3, .mix 5 [[.val (.int .i64 f_.t.n), .lst true 1 (Is f_.t.fr), .lst true 1 (Is f_.t.to), .lst true 1 (Is f_.t.id), .lst true 1 (Ls f_.t.cs)]])], 4⟩) (Wk.rel [(0, 0), (1, 1), (2, 2), (3, 3)] (by simp) (by simp) (by rw [hP]; simp) (by simp) (by simp) (by simp [Cat.cells, Fn.cells, Is_append, Is_one, Ls_append, Ls_one, Bs_append, Bs_one, Es_append, Es_one, Es_set', eB, eI, eL]) (by simp [hhOk, back, Cat.cells, Fn.cells, Is_append, Is_one, Ls_append, Ls_one, Bs_append, Bs_one, Es_append, Es_one, Es_set', eB, eI, eL])) ?_
   refine w_cond rfl (fun g => ?_) fun g => ?_
   · have g18 : s17 < (parts_.length : Int) := by first | simpa using g | (simp at g; exact g) | (simp at g; omega)
     clear g
     replace h := if_l g18 h
     refine w_skip ?_
     refine tn ?_
     refine w_seq ?_
     refine w_block ?_
     refine w_seq ?_
     replace h := bind_some h
     obtain ⟨e19, h, h19⟩ := h
     refine w_joinT (fun b19 : Bool => ⟨[(2, .lst true 1 (Is parts_)), (3, .adr 0 0 0), (4, .adr 1 0 0), (7, .adr 2 0 0), (8, .adr 3 0 0), (9, .val (.int .i64 s17)), (64, .val (.bool b19))], [(0, .mix 12 [[.val (.int .i64 f_.s.n), .lst true 1 (Is f_.s.fr), .lst true 1 (Is f_.s.to), .lst true 1 (Is f_.s.id), .lst true 1 (Ls f_.s.cs), .val (.int .i64 f_.t.n), .lst true 1 (Is f_.t.fr), .lst true 1 (Is f_.t.to), .lst true 1 (Is f_.t.id), .lst true 1 (Ls f_.t.cs), .lst true 1 (Is f_.ob), .lst true 1 (Is f_.ar)]]), (1, .mix 12 [[.val (.int .i64 g_.s.n), .lst true 1 (Is g_.s.fr), .lst true 1 (Is g_.s.to), .lst true 1 (Is g_.s.id), .lst true 1 (Ls g_.s.cs), .val (.int .i64 g_.t.n), .lst true 1 (Is g_.t.fr), .lst true 1 (Is g_.t.to), .lst true 1 (Is g_.t.id), .lst true 1 (Ls g_.t.cs), .lst true 1 (Is g_.ob), .lst true 1 (Is g_.ar)]]), (2, .mix 5 [[.val (.int .i64 f_.s.n), .lst true 1 (Is f_.s.fr), .lst true 1 (Is f_.s.to), .lst true 1 (Is f_.s.id), .lst true 1 (Ls f_.s.cs)]]), (3, .mix 5 [[.val (.int .i64 f_.t.n), .lst true 1 (Is f_.t.fr), .lst true 1 (Is f_.t.to), .lst true 1 (Is f_.t.id), .lst true 1 (Ls f_.t.cs)]])], 4⟩) (fun b19 => b19 = e19) ?_ ?_
     · refine w_run mo (by rw [hN]; decide) fun K hK => ?_
       replace h := ass_some h
       obtain ⟨a20, h⟩ := h
       replace h := ass_some h
       obtain ⟨a21, h⟩ := h
       replace h := ass_some h
       obtain ⟨a22, h⟩ := h
       simp [-guardE_b, -Is_at, -Is_at', -Ls_at, -Ls_at', eL, eI, allInts, eP_Cat, eP_Fn, Cat.cells, Fn.cells, at_I a20, at_I a21, at_I a22]
       repeat (with_reducible refine And.intro ?_ ?_; · first | assumption | omega | (simp; done) | (simp; omega) | simp_all)
       refine guard_intro (fun g => ?_) (fun g => ?_)
       · have g23 : ¬ (¬ ((ix f_.t.fr (ix parts_ s17)) = (ix f_.ob s17))) := by first | simpa using g | (simp at g; exact g) | (simp at g; omega)
         clear g
         replace h := if_r g23 h
         replace h := ass_some h
         obtain ⟨a24, h⟩ := h
         replace h := ass_some h
         obtain ⟨a25, h⟩ := h
         replace h := ass_some h
         obtain ⟨a26, h⟩ := h
         simp [-guardE_b, -Is_at, -Is_at', -Ls_at, -Ls_at', eL, eI, allInts, eP_Cat, eP_Fn, Cat.cells, Fn.cells, at_I a24, at_I a25, at_I a26]
         repeat (with_reducible refine And.intro ?_ ?_; · first | assumption | omega | (simp; done) | (simp; omega) | simp_all)
         refine hK _ ?_
         exact jn (b := (ix f_.t.to (ix parts_ s17)) != (ix g_.ob s17)) (Option.some.inj h) (Wk.rel [(0, 0), (1, 1), (2, 2), (3, 3)] (by simp) (by simp) (by rw [hP]; simp) (by simp) (by simp) (by simp [Cat.cells, Fn.cells, Is_append, Is_one, Ls_append, Ls_one, Bs_append, Bs_one, Es_append, Es_one, Es_set', eB, eI, eL]) (by simp [hhOk, back, Cat.cells, Fn.cells, Is_append, Is_one, Ls_append, Ls_one, Bs_append, Bs_one, Es_append, Es_one, Es_set', eB, eI, eL]))
       have g23 : ¬ ((ix f_.t.fr (ix parts_ s17)) = (ix f_.ob s17)) := by first | simpa using g | (simp at g; exact g) | (simp at g; omega)
       clear g
       replace h := if_l g23 h
       simp [-guardE_b, -Is_at, -Is_at', -Ls_at, -Ls_at', eL, eI, allInts, eP_Cat, eP_Fn, Cat.cells, Fn.cells]
       repeat (with_reducible refine And.intro ?_ ?_; · first | assumption | omega | (simp; done) | (simp; omega) | simp_all)
       refine hK _ ?_
       exact jn (b := true) (Option.some.inj h) (Wk.rel [(0, 0), (1, 1), (2, 2), (3, 3)] (by simp) (by simp) (by rw [hP]; simp) (by simp) (by simp) (by simp [Cat.cells, Fn.cells, Is_append, Is_one, Ls_append, Ls_one, Bs_append, Bs_one, Es_append, Es_one, Es_set', eB, eI, eL]) (by simp [hhOk, back, Cat.cells, Fn.cells, Is_append, Is_one, Ls_append, Ls_one, Bs_append, Bs_one, Es_append, Es_one, Es_set', eB, eI, eL]))
     intro b19 hb19
     have h := h19
     rw [← hb19] at h
     clear h19
     try dsimp only at h
     refine w_cond rfl (fun g => ?_) fun g => ?_
     · have g27 : b19 = true := by first | simpa using g | (simp at g; exact g) | (simp at g; omega)
       clear g
       replace h := if_l g27 h
       refine w_seq ?_
       refine w_run mo (by rw [hN]; decide) fun K hK => ?_
       simp [-guardE_b, -Is_at, -Is_at', -Ls_at, -Ls_at', eL, eI, allInts, eP_Cat, eP_Fn, Cat.cells, Fn.cells]
       repeat (with_reducible refine And.intro ?_ ?_; · first | assumption | omega | (simp; done) | (simp; omega) | simp_all)
       refine hK _ ?_
       clear hK K
       refine tn ?_
       refine w_weak (st' := ⟨[(6, .val (.bool false))], [], 0⟩) (Wk.rel [] (by simp) (by simp) (by rw [hP]; simp) (by simp) (by simp) (by simp [Cat.cells, Fn.cells, Is_append, Is_one, Ls_append, Ls_one, Bs_append, Bs_one, Es_append, Es_one, Es_set', eB, eI, eL]) (by simp [hhOk, back, Cat.cells, Fn.cells, Is_append, Is_one, Ls_append, Ls_one, Bs_append, Bs_one, Es_append, Es_one, Es_set', eB, eI, eL])) ?_
       refine w_ret ?_
       refine br ?_
       refine tr ?_
       refine lr ?_
       refine br ?_
       refine tr ?_
       cases h
       have q : _ = e5 := hk17
       have h := h5
       rw [← q] at h
       clear q
       try dsimp only at h
       have hr := Option.some.inj h
       rw [← hr]
       refine ⟨_, (.tmp .nil), ?_⟩
       refine ⟨(.one rfl rfl .nil), [.val (.bool false)], [], by simp [Cat.cells, Fn.cells, Is_append, Is_one, Ls_append, Ls_one, Bs_append, Bs_one, Es_append, Es_one, Es_set', eB, eI, eL], by simp, (UpL.refl _)⟩
     have g27 : ¬ (b19 = true) := by first | simpa using g | (simp at g; exact g) | (simp at g; omega)
     clear g
     replace h := if_r g27 h
     refine w_skip ?_
     refine bn ?_
     refine tn ?_
     refine w_run mo (by rw [hN]; decide) fun K hK => ?_
     replace h := ass_some h
     obtain ⟨a28, h⟩ := h
     simp [-guardE_b, -Is_at, -Is_at', -Ls_at, -Ls_at', eL, eI, allInts, eP_Cat, eP_Fn, Cat.cells, Fn.cells, wrap_id a28]
     repeat (with_reducible refine And.intro ?_ ?_; · first | assumption | omega | (simp; done) | (simp; omega) | simp_all)
     refine hK _ ?_
     clear hK K
     cases h
     exact rn (s' := s17 + 1) hk17 (Wk.rel [(0, 0), (1, 1), (2, 2), (3, 3)] (by simp) (by simp) (by rw [hP]; simp) (by simp) (by simp) (by simp [Cat.cells, Fn.cells, Is_append, Is_one, Ls_append, Ls_one, Bs_append, Bs_one, Es_append, Es_one, Es_set', eB, eI, eL]) (by simp [hhOk, back, Cat.cells, Fn.cells, Is_append, Is_one, Ls_append, Ls_one, Bs_append, Bs_one, Es_append, Es_one, Es_set', eB, eI, eL]))
   have g18 : ¬ (s17 < (parts_.length : Int)) := by first | simpa using g | (simp at g; exact g) | (simp at g; omega)
   clear g
   replace h := if_r g18 h
   refine w_exit ?_
   refine tx ?_
   refine lx ?_
   refine bh ?_
   cases h
   exact jn (b := ()) hk17 (Wk.rel [(0, 0), (1, 1), (2, 2), (3, 3)] (by simp) (by simp) (by rw [hP]; simp) (by simp) (by simp) (by simp [Cat.cells, Fn.cells, Is_append, Is_one, Ls_append, Ls_one, Bs_append, Bs_one, Es_append, Es_one, Es_set', eB, eI, eL]) (by simp [hhOk, back, Cat.cells, Fn.cells, Is_append, Is_one, Ls_append, Ls_one, Bs_append, Bs_one, Es_append, Es_one, Es_set', eB, eI, eL]))
 intro b5 hb5
 have h := h5
 rw [← hb5] at h
 clear h5
 try dsimp only at h
 refine w_seq ?_
 refine w_seq ?_
 refine w_run mo (by rw [hN]; decide) fun K hK => ?_
 simp [-guardE_b, -Is_at, -Is_at', -Ls_at, -Ls_at', eL, eI, allInts, eP_Cat, eP_Fn, Cat.cells, Fn.cells]
 repeat (with_reducible refine And.intro ?_ ?_; · first | assumption | omega | (simp; done) | (simp; omega) | simp_all)
 refine hK _ ?_
 clear hK K
 refine tn ?_
 refine w_weak (st' := ⟨[(2, .lst true 1 (Is parts_)), (3, .adr 0 0 0), (4, .adr 1 0 0), (7, .adr 2 0 0), (8, .adr 3 0 0), (10, .val (.int .i64 0))], [(0, .mix 12 [[.val (.int .i64 f_.s.n), .lst true 1 (Is f_.s.fr), .lst true 1 (Is f_.s.to), .lst true 1 (Is f_.s.id), .lst true 1 (Ls f_.s.cs), .val (.int .i64 f_.t.n), .lst true 1 (Is f_.t.fr), .lst true 1 (Is f_.t.to), .lst true 1 (Is f_.t.id), .lst true 1 (Ls f_.t.cs), .lst true 1 (Is f_.ob), .lst true 1 (Is f_.ar)]]), (1, .mix 12 [[.val (.int .i64 g_.s.n), .lst true 1 (Is g_.s.fr), .lst true 1 (Is g_.s.to), .lst true 1 (Is g_.s.id), .lst true 1 (Ls g_.s.cs), .val (.int .i64 g_.t.n), .lst true 1 (Is g_.t.fr), .lst true 1 (Is g_.t.to), .lst true 1 (Is g_.t.id), .lst true 1 (Ls g_.t.cs), .lst true 1 (Is g_.ob), .lst true 1 (Is g_.ar)]]), (2, .mix 5 [[.val (.int .i64 f_.s.n), .lst true 1 (Is f_.s.fr), .lst true 1 (Is f_.s.to), .lst true 1 (Is f_.s.id), .lst true 1 (Ls f_.s.cs)]]), (3, .mix 5 [[.val (.int .i64 f_.t.n), .lst true 1 (Is f_.t.fr), .lst true 1 (Is f_.t.to), .lst true 1 (Is f_.t.id), .lst true 1 (Ls f_.t.cs)]])], 4⟩) (Wk.rel [(0, 0), (1, 1), (2, 2), (3, 3)] (by simp) (by simp) (by rw [hP]; simp) (by simp) (by simp) (by simp [Cat.cells, Fn.cells, Is_append, Is_one, Ls_append, Ls_one, Bs_append, Bs_one, Es_append, Es_one, Es_set', eB, eI, eL]) (by simp [hhOk, back, Cat.cells, Fn.cells, Is_append, Is_one, Ls_append, Ls_one, Bs_append, Bs_one, Es_append, Es_one, Es_set', eB, eI, eL])) ?_
 replace h := bind_some h
 obtain ⟨e29, h, h29⟩ := h
 refine w_joinT (fun b29 : Unit => ⟨[], [], 0⟩) (fun b29 => Sum.inl b29 = e29) ?_ ?_
 · refine w_block ?_
   refine w_loopF h (fun s41 : Int => ⟨[(2, .lst true 1 (Is parts_)), (3, .adr 0 0 0), (4, .adr 1 0 0), (7, .adr 2 0 0), (8, .adr 3 0 0), (10, .val (.int .i64 s41))], [(0, .mix 12 [[.val (.int .i64 f_.s.n), .lst true 1 (Is f_.s.fr), .lst true 1 (Is f_.s.to), .lst true 1 (Is f_.s.id), .lst true 1 (Ls f_.s.cs), .val (.int .i64 f_.t.n), .lst true 1 (Is f_.t.fr), .lst true 1 (Is f_.t.to), .lst true 1 (Is f_.t.id), .lst true 1 (Ls f_.t.cs), .lst true 1 (Is f_.ob), .lst true 1 (Is f_.ar)]]), (1, .mix 12 [[.val (.int .i64 g_.s.n), .lst true 1 (Is g_.s.fr), .lst true 1 (Is g_.s.to), .lst true 1 (Is g_.s.id), .lst true 1 (Ls g_.s.cs), .val (.int .i64 g_.t.n), .lst true 1 (Is g_.t.fr), .lst true 1 (Is g_.t.to), .lst true 1 (Is g_.t.id), .lst true 1 (Ls g_.t.cs), .lst true 1 (Is g_.ob), .lst true 1 (Is g_.ar)]]), (2, .mix 5 [[.val (.int .i64 f_.s.n), .lst true 1 (Is f_.s.fr), .lst true 1 (Is f_.s.to), .lst true 1 (Is f_.s.id), .lst true 1 (Ls f_.s.cs)]]), (3, .mix 5 [[.val (.int .i64 f_.t.n), .lst true 1 (Is f_.t.fr), .lst true 1 (Is f_.t.to), .lst true 1 (Is f_.t.id), .lst true 1 (Ls f_.t.cs)]])], 4⟩) (Wk.rel [(0, 0), (1, 1), (2, 2), (3, 3)] (by simp) (by simp) (by rw [hP]; simp) (by simp) (by simp) (by simp [Cat.cells, Fn.cells, Is_append, Is_one, Ls_append, Ls_one, Bs_append, Bs_one, Es_append, Es_one, Es_set', eB, eI, eL]) (by simp [hhOk, back, Cat.cells, Fn.cells, Is_append, Is_one, Ls_append, Ls_one, Bs_append, Bs_one, Es_append, Es_one, Es_set', eB, eI, eL])) ?_
   clear h
   intro k41 s41 c41 h hk41
   refine w_seq ?_
   refine w_seq ?_
   refine w_run mo (by rw [hN]; decide) fun K hK => ?_
   simp [-guardE_b, -Is_at, -Is_at', -Ls_at, -Ls_at', eL, eI, allInts, eP_Cat, eP_Fn, Cat.cells, Fn.cells]
   repeat (with_reducible refine And.intro ?_ ?_; · first | assumption | omega | (simp; done) | (simp; omega) | simp_all)
   refine hK _ ?_
   clear hK K
   refine tn ?_
   refine w_weak (st' := ⟨[(2, .lst true 1 (Is parts_)), (3, .adr 0 0 0), (4, .adr 1 0 0), (7, .adr 2 0 0), (8, .adr 3 0 0), (10, .val (.int .i64 s41)), (69, .val (.bool (decide (s41 < (f_.s.fr.length : Int)))))], [(0, .mix 12 [[.val (.int .i64 f_.s.n), .lst true 1 (Is f_.s.fr), .lst true 1 (Is f_.s.to), .lst true 1 (Is f_.s.id), .lst true 1 (Ls f_.s.cs), .val (.int .i64 f_.t.n), .lst true 1 (Is f_.t.fr), .lst true 1 (Is f_.t.to), .lst true 1 (Is f_.t.id), .lst true 1 (Ls f_.t.cs), .lst true 1 (Is f_.ob), .lst true 1 (Is f_.ar)]]), (1, .mix 12 [[.val (.int .i64 g_.s.n), .lst true 1 (Is g_.s.fr), .lst true 1 (Is g_.s.to), .lst true 1 (Is g_.s.id), .lst true 1 (Ls g_.s.cs), .val (.int .i64 g_.t.n), .lst true 1 (Is g_.t.fr), .lst true 1 (Is g_.t.to), .lst true 1 (Is g_.t.id), .lst true 1 (Ls g_.t.cs), .lst true 1 (Is g_.ob), .lst true 1 (Is g_.ar)]]), (2, .mix 5 [[.val (.int .i64 f_.s.n), .lst true 1 (Is f_.s.fr), .lst true 1 (Is f_.s.to), .lst true 1 (Is f_.s.id), .lst true 1 (Ls f_.s.cs)]]), (3, .mix 5 [[.val (.int .i64 f_.t.n), .lst true 1 (Is f_.t.fr), .lst true 1 (Is f_.t.to), .lst true 1 (Is f_.t.id), .lst true 1 (Ls f_.t.cs)]])], 4⟩) (Wk.rel [(0, 0), (1, 1), (2, 2), (3, 3)] (by simp) (by simp) (by rw [hP]; simp) (by simp) (by simp) (by simp [Cat.cells, Fn.cells, Is_append, Is_one, Ls_append, Ls_one, Bs_append, Bs_one, Es_append, Es_one, Es_set', eB, eI, eL]) (by simp [hhOk, back, Cat.cells, Fn.cells, Is_append, Is_one, Ls_append, Ls_one, Bs_append, Bs_one, Es_append, Es_one, Es_set', eB, eI, eL])) ?_
   refine w_cond rfl (fun g => ?_) fun g => ?_
   · have g42 : s41 < (f_.s.fr.length : Int) := by first | simpa using g | (simp at g; exact g) | (simp at g; omega)
     clear g
     replace h := if_l g42 h
     refine w_skip ?_
     refine tn ?_
     refine w_seq ?_
     refine w_block ?_
     refine w_seq ?_
     refine w_run mo (by rw [hN]; decide) fun K hK => ?_
     replace h := ass_some h
     obtain ⟨a43, h⟩ := h
     replace h := ass_some h
     obtain ⟨a44, h⟩ := h
     replace h := ass_some h
     obtain ⟨a45, h⟩ := h
     simp [-guardE_b, -Is_at, -Is_at', -Ls_at, -Ls_at', eL, eI, allInts, eP_Cat, eP_Fn, Cat.cells, Fn.cells, at_I a43, at_I a44, at_I a45]
     repeat (with_reducible refine And.intro ?_ ?_; · first | assumption | omega | (simp; done) | (simp; omega) | simp_all)
     replace h := bind_some h
     obtain ⟨v46, hv46, h⟩ := h
     refine callA_intro (w_s_l02Then _ _ _ v46 hv46) (.cons (.aggL (.cons .val (.cons .lst (.cons .lst (.cons .lst (.cons .lst .nil)))))) (.cons .val (.cons .val .nil))) ?_
     replace h := ass_some h
     obtain ⟨a47, h⟩ := h
     replace h := ass_some h
     obtain ⟨a48, h⟩ := h
     replace h := ass_some h
     obtain ⟨a49, h⟩ := h
     simp [-guardE_b, -Is_at, -Is_at', -Ls_at, -Ls_at', unk, unA, unE, unT, unC, flat, eL, eI, allInts, eP_Cat, eP_Fn, Cat.cells, Fn.cells, at_I a47, at_I a48, at_I a49]
     repeat (with_reducible refine And.intro ?_ ?_; · first | assumption | omega | (simp; done) | (simp; omega) | simp_all)
     replace h := bind_some h
     obtain ⟨v50, hv50, h⟩ := h
     refine callA_intro (w_s_l02Then _ _ _ v50 hv50) (.cons (.aggL (.cons .val (.cons .lst (.cons .lst (.cons .lst (.cons .lst .nil)))))) (.cons .val (.cons .val .nil))) ?_
     simp [-guardE_b, -Is_at, -Is_at', -Ls_at, -Ls_at', unk, unA, unE, unT, unC, flat, eL, eI, allInts, eP_Cat, eP_Fn, Cat.cells, Fn.cells]
     repeat (with_reducible refine And.intro ?_ ?_; · first | assumption | omega | (simp; done) | (simp; omega) | simp_all)
     refine hK _ ?_
     clear hK K
     refine tn ?_
     refine w_weak (st' := ⟨[(2, .lst true 1 (Is parts_)), (3, .adr 0 0 0), (4, .adr 1 0 0), (7, .adr 2 0 0), (8, .adr 3 0 0), (10, .val (.int .i64 s41)), (102, .val (.bool (v46 != v50)))], [(0, .mix 12 [[.val (.int .i64 f_.s.n), .lst true 1 (Is f_.s.fr), .lst true 1 (Is f_.s.to), .lst true 1 (Is f_.s.id), .lst true 1 (Ls f_.s.cs), .val (.int .i64 f_.t.n), .lst true 1 (Is f_.t.fr), .lst true 1 (Is f_.t.to), .lst true 1 (Is f_.t.id), .lst true 1 (Ls f_.t.cs), .lst true 1 (Is f_.ob), .lst true 1 (Is f_.ar)]]), (1, .mix 12 [[.val (.int .i64 g_.s.n), .lst true 1 (Is g_.s.fr), .lst true 1 (Is g_.s.to), .lst true 1 (Is g_.s.id), .lst true 1 (Ls g_.s.cs), .val (.int .i64 g_.t.n), .lst true 1 (Is g_.t.fr), .lst true 1 (Is g_.t.to), .lst true 1 (Is g_.t.id), .lst true 1 (Ls g_.t.cs), .lst true 1 (Is g_.ob), .lst true 1 (Is g_.ar)]]), (2, .mix 5 [[.val (.int .i64 f_.s.n), .lst true 1 (Is f_.s.fr), .lst true 1 (Is f_.s.to), .lst true 1 (Is f_.s.id), .lst true 1 (Ls f_.s.cs)]]), (3, .mix 5 [[.val (.int .i64 f_.t.n), .lst true 1 (Is f_.t.fr), .lst true 1 (Is f_.t.to), .lst true 1 (Is f_.t.id), .lst true 1 (Ls f_.t.cs)]])], 4⟩) (Wk.rel [(0, 0), (1, 1), (2, 2), (3, 3)] (by simp) (by simp) (by rw [hP]; simp) (by simp) (by simp) (by simp [Cat.cells, Fn.cells, Is_append, Is_one, Ls_append, Ls_one, Bs_append, Bs_one, Es_append, Es_one, Es_set', eB, eI, eL]) (by simp [hhOk, back, Cat.cells, Fn.cells, Is_append, Is_one, Ls_append, Ls_one, Bs_append, Bs_one, Es_append, Es_one, Es_set', eB, eI, eL])) ?_
     refine w_cond rfl (fun g => ?_) fun g => ?_
     · have g51 : ¬ (v46 = v50) := by first | simpa using g | (simp at g; exact g) | (simp at g; omega)
       clear g
       replace h := if_l g51 h
       refine w_seq ?_
       refine w_run mo (by rw [hN]; decide) fun K hK => ?_
       simp [-guardE_b, -Is_at, -Is_at', -Ls_at, -Ls_at', eL, eI, allInts, eP_Cat, eP_Fn, Cat.cells, Fn.cells]
       repeat (with_reducible refine And.intro ?_ ?_; · first | assumption | omega | (simp; done) | (simp; omega) | simp_all)
       refine hK _ ?_
       clear hK K
       refine tn ?_
       refine w_weak (st' := ⟨[(6, .val (.bool false))], [], 0⟩) (Wk.rel [] (by simp) (by simp) (by rw [hP]; simp) (by simp) (by simp) (by simp [Cat.cells, Fn.cells, Is_append, Is_one, Ls_append, Ls_one, Bs_append, Bs_one, Es_append, Es_one, Es_set', eB, eI, eL]) (by simp [hhOk, back, Cat.cells, Fn.cells, Is_append, Is_one, Ls_append, Ls_one, Bs_append, Bs_one, Es_append, Es_one, Es_set', eB, eI, eL])) ?_
       refine w_ret ?_
       refine br ?_
       refine tr ?_
       refine lr ?_
       refine br ?_
       refine tr ?_
       cases h
       have q : _ = e29 := hk41
       have h := h29
       rw [← q] at h
       clear q
       try dsimp only at h
       have hr := Option.some.inj h
       rw [← hr]
       refine ⟨_, (.tmp .nil), ?_⟩
       refine ⟨(.one rfl rfl .nil), [.val (.bool false)], [], by simp [Cat.cells, Fn.cells, Is_append, Is_one, Ls_append, Ls_one, Bs_append, Bs_one, Es_append, Es_one, Es_set', eB, eI, eL], by simp, (UpL.refl _)⟩
     have g51 : ¬ (¬ (v46 = v50)) := by first | simpa using g | (simp at g; exact g) | (simp at g; omega)
     clear g
     replace h := if_r g51 h
     refine w_skip ?_
     refine bn ?_
     refine tn ?_
     refine w_run mo (by rw [hN]; decide) fun K hK => ?_
     replace h := ass_some h
     obtain ⟨a52, h⟩ := h
     simp [-guardE_b, -Is_at, -Is_at', -Ls_at, -Ls_at', eL, eI, allInts, eP_Cat, eP_Fn, Cat.cells, Fn.cells, wrap_id a52]
     repeat (with_reducible refine And.intro ?_ ?_; · first | assumption | omega | (simp; done) | (simp; omega) | simp_all)
     refine hK _ ?_
     clear hK K
     cases h
     exact rn (s' := s41 + 1) hk41 (Wk.rel [(0, 0), (1, 1), (2, 2), (3, 3)] (by simp) (by simp) (by rw [hP]; simp) (by simp) (by simp) (by simp [Cat.cells, Fn.cells, Is_append, Is_one, Ls_append, Ls_one, Bs_append, Bs_one, Es_append, Es_one, Es_set', eB, eI, eL]) (by simp [hhOk, back, Cat.cells, Fn.cells, Is_append, Is_one, Ls_append, Ls_one, Bs_append, Bs_one, Es_append, Es_one, Es_set', eB, eI, eL]))
   have g42 : ¬ (s41 < (f_.s.fr.length : Int)) := by first | simpa using g | (simp at g; exact g) | (simp at g; omega)
   clear g
   replace h := if_r g42 h
   refine w_exit ?_
   refine tx ?_
   refine lx ?_
   refine bh ?_
   cases h
   exact jn (b := ()) hk41 (Wk.rel [] (by simp) (by simp) (by rw [hP]; simp) (by simp) (by simp) (by simp [Cat.cells, Fn.cells, Is_append, Is_one, Ls_append, Ls_one, Bs_append, Bs_one, Es_append, Es_one, Es_set', eB, eI, eL]) (by simp [hhOk, back, Cat.cells, Fn.cells, Is_append, Is_one, Ls_append, Ls_one, Bs_append, Bs_one, Es_append, Es_one, Es_set', eB, eI, eL]))
 intro b29 hb29
 have h := h29
 rw [← hb29] at h
 clear h29
 try dsimp only at h
 refine w_seq ?_
 refine w_run mo (by rw [hN]; decide) fun K hK => ?_
 simp [-guardE_b, -Is_at, -Is_at', -Ls_at, -Ls_at', eL, eI, allInts, eP_Cat, eP_Fn, Cat.cells, Fn.cells]
 repeat (with_reducible refine And.intro ?_ ?_; · first | assumption | omega | (simp; done) | (simp; omega) | simp_all)
 refine hK _ ?_
 clear hK K
 refine tn ?_
 refine w_weak (st' := ⟨[(6, .val (.bool true))], [], 0⟩) (Wk.rel [] (by simp) (by simp) (by rw [hP]; simp) (by simp) (by simp) (by simp [Cat.cells, Fn.cells, Is_append, Is_one, Ls_append, Ls_one, Bs_append, Bs_one, Es_append, Es_one, Es_set', eB, eI, eL]) (by simp [hhOk, back, Cat.cells, Fn.cells, Is_append, Is_one, Ls_append, Ls_one, Bs_append, Bs_one, Es_append, Es_one, Es_set', eB, eI, eL])) ?_
 refine w_ret ?_
 have hr := Option.some.inj h
 rw [← hr]
 refine ⟨_, (.tmp .nil), ?_⟩
 refine ⟨(.one rfl rfl .nil), [.val (.bool true)], [], by simp [Cat.cells, Fn.cells, Is_append, Is_one, Ls_append, Ls_one, Bs_append, Bs_one, Es_append, Es_one, Es_set', eB, eI, eL], by simp, (UpL.refl _)⟩
end Go.Vc.T

set_option maxRecDepth 100000
set_option linter.unusedSimpArgs false
set_option linter.unusedVariables false
namespace Go.Vc.T
open Go Go.Vc Go.Proofs
noncomputable def s_i_monad (on_ : Fn) (unit_ : List Int) (join_ : List Int) : Option Mnd :=
 (s_i_Functor_copy on_).bind fun v1 =>
 (s_i_clone unit_).bind fun v2 =>
 (s_i_clone join_).bind fun v3 =>
 some (⟨v1, v2, v3⟩ : Mnd)
set_option maxHeartbeats 4000000 in
theorem w_i_monad (on_ : Fn) (unit_ : List Int) (join_ : List Int) (r : Mnd) (h : s_i_monad on_ unit_ join_ = some r) : Contract Try.prog 153 [.rptr (on_.cells true), .lst true 1 (Is unit_), .lst true 1 (Is join_)] (.agg (r.cells true)) := by
 refine contract_introG (rvs := [.cell 6 50]) (rs := [.agg (r.cells true)]) Try.func153 rfl rfl rfl rfl (by simp [Try.f153]) fun F hN hP => ?_
 unfold s_i_monad at h
 refine w_seq ?_
 refine w_run mo (by rw [hN]; decide) fun K hK => ?_
 simp [-guardE_b, -Is_at, -Is_at', -Ls_at, -Ls_at', eL, eI, allInts, eP_Fn, eP_Mnd, Fn.cells, Mnd.cells]
 repeat (with_reducible refine And.intro ?_ ?_; · first | assumption | omega | (simp; done) | (simp; omega) | simp_all)
 refine hK _ ?_
 clear hK K
 refine tn ?_
 refine w_weak (st' := ⟨[(0, .rptr [.val (.int .i64 on_.s.n), .lst true 1 (Is on_.s.fr), .lst true 1 (Is on_.s.to), .lst true 1 (Is on_.s.id), .lst true 1 (Ls on_.s.cs), .val (.int .i64 on_.t.n), .lst true 1 (Is on_.t.fr), .lst true 1 (Is on_.t.to), .lst true 1 (Is on_.t.id), .lst true 1 (Ls on_.t.cs), .lst true 1 (Is on_.ob), .lst true 1 (Is on_.ar)]), (1, .lst true 1 (Is unit_)), (2, .lst true 1 (Is join_)), (6, .adr 0 0 0)], [(0, .mix 14 [[.val (.int .i64 0), .val (.slice none 0 0), .val (.slice none 0 0), .val (.slice none 0 0), .val (.slice none 0 0), .val (.int .i64 0), .val (.slice none 0 0), .val (.slice none 0 0), .val (.slice none 0 0), .val (.slice none 0 0), .val (.slice none 0 0), .val (.slice none 0 0), .val (.slice none 0 0), .val (.slice none 0 0)]])], 1⟩) (Wk.rel [(0, 0)] (by simp) (by simp) (by rw [hP]; simp) (by simp) (by simp) (by simp [Fn.cells, Mnd.cells, Is_append, Is_one, Ls_append, Ls_one, Bs_append, Bs_one, Es_append, Es_one, Es_set', eB, eI, eL]) (by simp [hhOk, back, Fn.cells, Mnd.cells, Is_append, Is_one, Ls_append, Ls_one, Bs_append, Bs_one, Es_append, Es_one, Es_set', eB, eI, eL])) ?_
 refine w_seq ?_
 refine w_run mo (by rw [hN]; decide) fun K hK => ?_
 simp [-guardE_b, -Is_at, -Is_at', -Ls_at, -Ls_at', eL, eI, allInts, eP_Fn, eP_Mnd, Fn.cells, Mnd.cells]
 repeat (with_reducible refine And.intro ?_ ?_; · first | assumption | omega | (simp; done) | (simp; omega) | simp_all)
 replace h := bind_some h
 obtain ⟨v1, hv1, h⟩ := h
 refine callA_intro (w_i_Functor_copy _ v1 hv1) (.cons (.preT (by simp [Fn.cells])) .nil) ?_
 simp [-guardE_b, -Is_at, -Is_at', -Ls_at, -Ls_at', unk, unA, unE, unT, unC, flat, eL, eI, allInts, eP_Fn, eP_Mnd, Fn.cells, Mnd.cells]
 repeat (with_reducible refine And.intro ?_ ?_; · first | assumption | omega | (simp; done) | (simp; omega) | simp_all)
 replace h := bind_some h
 obtain ⟨v2, hv2, h⟩ := h
 refine callA_intro (w_i_clone _ v2 hv2) (.cons .lst .nil) ?_
 simp [-guardE_b, -Is_at, -Is_at', -Ls_at, -Ls_at', unk, unA, unE, unT, unC, flat, eL, eI, allInts, eP_Fn, eP_Mnd, Fn.cells, Mnd.cells]
 repeat (with_reducible refine And.intro ?_ ?_; · first | assumption | omega | (simp; done) | (simp; omega) | simp_all)
 replace h := bind_some h
 obtain ⟨v3, hv3, h⟩ := h
 refine callA_intro (w_i_clone _ v3 hv3) (.cons .lst .nil) ?_
 simp [-guardE_b, -Is_at, -Is_at', -Ls_at, -Ls_at', unk, unA, unE, unT, unC, flat, eL, eI, allInts, eP_Fn, eP_Mnd, Fn.cells, Mnd.cells]
 repeat (with_reducible refine And.intro ?_ ?_; · first | assumption | omega | (simp; done) | (simp; omega) | simp_all)
 refine hK _ ?_
 clear hK K
 refine tn ?_
 refine w_weak (st' := ⟨[(6, .adr 0 0 0)], [(0, .mix 14 [[.val (.int .i64 v1.s.n), .own 1 0 v1.s.fr.length, .own 2 0 v1.s.to.length, .own 3 0 v1.s.id.length, .own 4 0 v1.s.cs.length, .val (.int .i64 v1.t.n), .own 5 0 v1.t.fr.length, .own 6 0 v1.t.to.length, .own 7 0 v1.t.id.length, .own 8 0 v1.t.cs.length, .own 9 0 v1.ob.length, .own 10 0 v1.ar.length, .own 11 0 v2.length, .own 12 0 v3.length]]), (1, .row 1 (Is v1.s.fr)), (2, .row 1 (Is v1.s.to)), (3, .row 1 (Is v1.s.id)), (4, .row 1 (Ls v1.s.cs)), (5, .row 1 (Is v1.t.fr)), (6, .row 1 (Is v1.t.to)), (7, .row 1 (Is v1.t.id)), (8, .row 1 (Ls v1.t.cs)), (9, .row 1 (Is v1.ob)), (10, .row 1 (Is v1.ar)), (11, .row 1 (Is v2)), (12, .row 1 (Is v3))], 13⟩) (Wk.rel [(0, 0), (2, 1), (3, 2), (4, 3), (5, 4), (7, 5), (8, 6), (9, 7), (10, 8), (11, 9), (12, 10), (13, 11), (14, 12)] (by simp) (by simp) (by rw [hP]; simp) (by simp) (by simp) (by simp [Fn.cells, Mnd.cells, Is_append, Is_one, Ls_append, Ls_one, Bs_append, Bs_one, Es_append, Es_one, Es_set', eB, eI, eL]) (by simp [hhOk, back, Fn.cells, Mnd.cells, Is_append, Is_one, Ls_append, Ls_one, Bs_append, Bs_one, Es_append, Es_one, Es_set', eB, eI, eL])) ?_
 refine w_ret ?_
 have hr := Option.some.inj h
 rw [← hr]
 refine ⟨_, (.cell tf_50 rfl rfl rfl (by simp) (by simp) .nil), ?_⟩
 refine ⟨(.agg rfl .nil), [.val (.int .i64 v1.s.n), .lst true 1 (Is v1.s.fr), .lst true 1 (Is v1.s.to), .lst true 1 (Is v1.s.id), .lst true 1 (Ls v1.s.cs), .val (.int .i64 v1.t.n), .lst true 1 (Is v1.t.fr), .lst true 1 (Is v1.t.to), .lst true 1 (Is v1.t.id), .lst true 1 (Ls v1.t.cs), .lst true 1 (Is v1.ob), .lst true 1 (Is v1.ar), .lst true 1 (Is v2), .lst true 1 (Is v3)], [1, 2, 3, 4, 5, 6, 7, 8, 9, 10, 11, 12], by simp [Fn.cells, Mnd.cells, Is_append, Is_one, Ls_append, Ls_one, Bs_append, Bs_one, Es_append, Es_one, Es_set', eB, eI, eL], by simp, (UpL.refl _)⟩
end Go.Vc.T

set_option maxRecDepth 100000
set_option linter.unusedSimpArgs false
set_option linter.unusedVariables false
namespace Go.Vc.T
open Go Go.Vc Go.Proofs
noncomputable def s_i_areFunctors (list_ : List Fn) : Option Bool :=
 (loopF (σ := Int) (ε := Unit ⊕ Bool) (fun s7 =>
   if s7 < (list_.length : Int) then
     ass (0 ≤ s7 ∧ s7 < (list_.length : Int)) <|
     (s_i_Functor_isFunctor (gx list_ s7)).bind fun v10 =>
     if ¬ (v10 = true) then
       some (Ctl.ret (Sum.inr false))
     else
       ass (B64 (s7 + 1)) <|
       some (Ctl.next (s7 + 1))
   else
     some (Ctl.ret (Sum.inl ()))) fuel 0).bind fun e1 =>
 match e1 with
 | .inl b1 =>
   some true
 | .inr p1 =>
   some p1
set_option maxHeartbeats 4000000 in
theorem w_i_areFunctors (list_ : List Fn) (r : Bool) (h : s_i_areFunctors list_ = some r) : Contract Try.prog 172 [.lst true 1 (Es eP_Fn list_)] (.val (.bool r)) := by
 refine contract_introG (rvs := [.tmp 2]) (rs := [.val (.bool r)]) Try.func172 rfl rfl rfl rfl (by simp [Try.f172]) fun F hN hP => ?_
 unfold s_i_areFunctors at h
 refine w_seq ?_
 refine w_run mo (by rw [hN]; decide) fun K hK => ?_
 simp [-guardE_b, -Is_at, -Is_at', -Ls_at, -Ls_at', eL, eI, allInts, eP_Fn, Fn.cells]
 repeat (with_reducible refine And.intro ?_ ?_; · first | assumption | omega | (simp; done) | (simp; omega) | simp_all)
 refine hK _ ?_
 clear hK K
 refine tn ?_
 refine w_weak (st' := ⟨[(0, .lst true 1 (Es eP_Fn list_))], [], 0⟩) (Wk.rel [] (by simp) (by simp) (by rw [hP]; simp) (by simp) (by simp) (by simp [Fn.cells, Is_append, Is_one, Ls_append, Ls_one, Bs_append, Bs_one, Es_append, Es_one, Es_set', eB, eI, eL]) (by simp [hhOk, back, Fn.cells, Is_append, Is_one, Ls_append, Ls_one, Bs_append, Bs_one, Es_append, Es_one, Es_set', eB, eI, eL])) ?_
 refine w_seq ?_
 refine w_seq ?_
 refine w_run mo (by rw [hN]; decide) fun K hK => ?_
 simp [-guardE_b, -Is_at, -Is_at', -Ls_at, -Ls_at', eL, eI, allInts, eP_Fn, Fn.cells]
 repeat (with_reducible refine And.intro ?_ ?_; · first | assumption | omega | (simp; done) | (simp; omega) | simp_all)
 refine hK _ ?_
 clear hK K
 refine tn ?_
 refine w_weak (st' := ⟨[(5, .lst true 1 (Es eP_Fn list_)), (6, .val (.int .i64 (list_.length : Int))), (7, .val (.int .i64 0))], [], 0⟩) (Wk.rel [] (by simp) (by simp) (by rw [hP]; simp) (by simp) (by simp) (by simp [Fn.cells, Is_append, Is_one, Ls_append, Ls_one, Bs_append, Bs_one, Es_append, Es_one, Es_set', eB, eI, eL]) (by simp [hhOk, back, Fn.cells, Is_append, Is_one, Ls_append, Ls_one, Bs_append, Bs_one, Es_append, Es_one, Es_set', eB, eI, eL])) ?_
 replace h := bind_some h
 obtain ⟨e1, h, h1⟩ := h
 refine w_joinT (fun b1 : Unit => ⟨[], [], 0⟩) (fun b1 => Sum.inl b1 = e1) ?_ ?_
 · refine w_block ?_
   refine w_loopF h (fun s7 : Int => ⟨[(5, .lst true 1 (Es eP_Fn list_)), (6, .val (.int .i64 (list_.length : Int))), (7, .val (.int .i64 s7))], [], 0⟩) (Wk.rel [] (by simp) (by simp) (by rw [hP]; simp) (by simp) (by simp) (by simp [Fn.cells, Is_append, Is_one, Ls_append, Ls_one, Bs_append, Bs_one, Es_append, Es_one, Es_set', eB, eI, eL]) (by simp [hhOk, back, Fn.cells, Is_append, Is_one, Ls_append, Ls_one, Bs_append, Bs_one, Es_append, Es_one, Es_set', eB, eI, eL])) ?_
   clear h
   intro k7 s7 c7 h hk7
   refine w_seq ?_
   refine w_run mo (by rw [hN]; decide) fun K hK => ?_
   simp [-guardE_b, -Is_at, -Is_at', -Ls_at, -Ls_at', eL, eI, allInts, eP_Fn, Fn.cells]
   repeat (with_reducible refine And.intro ?_ ?_; · first | assumption | omega | (simp; done) | (simp; omega) | simp_all)
   refine hK _ ?_
   clear hK K
   refine tn ?_
   refine w_weak (st' := ⟨[(5, .lst true 1 (Es eP_Fn list_)), (6, .val (.int .i64 (list_.length : Int))), (7, .val (.int .i64 s7)), (8, .val (.bool (decide (s7 < (list_.length : Int)))))], [], 0⟩) (Wk.rel [] (by simp) (by simp) (by rw [hP]; simp) (by simp) (by simp) (by simp [Fn.cells, Is_append, Is_one, Ls_append, Ls_one, Bs_append, Bs_one, Es_append, Es_one, Es_set', eB, eI, eL]) (by simp [hhOk, back, Fn.cells, Is_append, Is_one, Ls_append, Ls_one, Bs_append, Bs_one, Es_append, Es_one, Es_set', eB, eI, eL])) ?_
   refine w_seq ?_
   refine w_cond rfl (fun g => ?_) fun g => ?_
   · have g8 : s7 < (list_.length : Int) := by first | simpa using g | (simp at g; exact g) | (simp at g; omega)
     clear g
     replace h := if_l g8 h
     refine w_skip ?_
     refine tn ?_
     refine w_seq ?_
     refine w_block ?_
     refine w_seq ?_
     refine w_run mo (by rw [hN]; decide) fun K hK => ?_
     replace h := ass_some h
     obtain ⟨a9, h⟩ := h
     simp [-guardE_b, -Is_at, -Is_at', -Ls_at, -Ls_at', eL, eI, allInts, eP_Fn, Fn.cells, at_E (c := eP_Fn) a9]
     repeat (with_reducible refine And.intro ?_ ?_; · first | assumption | omega | (simp; done) | (simp; omega) | simp_all)
     refine hK _ ?_
     clear hK K
     refine tn ?_
     refine w_weak (st' := ⟨[(4, .rptr [.val (.int .i64 ((gx list_ s7).s.n)), .lst true 1 (Is ((gx list_ s7).s.fr)), .lst true 1 (Is ((gx list_ s7).s.to)), .lst true 1 (Is ((gx list_ s7).s.id)), .lst true 1 (Ls ((gx list_ s7).s.cs)), .val (.int .i64 ((gx list_ s7).t.n)), .lst true 1 (Is ((gx list_ s7).t.fr)), .lst true 1 (Is ((gx list_ s7).t.to)), .lst true 1 (Is ((gx list_ s7).t.id)), .lst true 1 (Ls ((gx list_ s7).t.cs)), .lst true 1 (Is ((gx list_ s7).ob)), .lst true 1 (Is ((gx list_ s7).ar))]), (5, .lst true 1 (Es eP_Fn list_)), (6, .val (.int .i64 (list_.length : Int))), (7, .val (.int .i64 s7))], [], 0⟩) (Wk.rel [] (by simp) (by simp) (by rw [hP]; simp) (by simp) (by simp) (by simp [Fn.cells, Is_append, Is_one, Ls_append, Ls_one, Bs_append, Bs_one, Es_append, Es_one, Es_set', eB, eI, eL]) (by simp [hhOk, back, Fn.cells, Is_append, Is_one, Ls_append, Ls_one, Bs_append, Bs_one, Es_append, Es_one, Es_set', eB, eI, eL])) ?_
     refine w_seq ?_
     refine w_run mo (by rw [hN]; decide) fun K hK => ?_
     simp [-guardE_b, -Is_at, -Is_at', -Ls_at, -Ls_at', eL, eI, allInts, eP_Fn, Fn.cells]
     repeat (with_reducible refine And.intro ?_ ?_; · first | assumption | omega | (simp; done) | (simp; omega) | simp_all)
     replace h := bind_some h
     obtain ⟨v10, hv10, h⟩ := h
     refine callA_intro (w_i_Functor_isFunctor _ v10 hv10) (.cons (.preT (by simp [Fn.cells])) .nil) ?_
     simp [-guardE_b, -Is_at, -Is_at', -Ls_at, -Ls_at', unk, unA, unE, unT, unC, flat, eL, eI, allInts, eP_Fn, Fn.cells]
     repeat (with_reducible refine And.intro ?_ ?_; · first | assumption | omega | (simp; done) | (simp; omega) | simp_all)
     refine hK _ ?_
     clear hK K
     refine tn ?_
     refine w_weak (st' := ⟨[(5, .lst true 1 (Es eP_Fn list_)), (6, .val (.int .i64 (list_.length : Int))), (7, .val (.int .i64 s7)), (13, .val (.bool (!v10)))], [], 0⟩) (Wk.rel [] (by simp) (by simp) (by rw [hP]; simp) (by simp) (by simp) (by simp [Fn.cells, Is_append, Is_one, Ls_append, Ls_one, Bs_append, Bs_one, Es_append, Es_one, Es_set', eB, eI, eL]) (by simp [hhOk, back, Fn.cells, Is_append, Is_one, Ls_append, Ls_one, Bs_append, Bs_one, Es_append, Es_one, Es_set', eB, eI, eL])) ?_
     refine w_cond rfl (fun g => ?_) fun g => ?_
     · have g11 : ¬ (v10 = true) := by first | simpa using g | (simp at g; exact g) | (simp at g; omega)
       clear g
       replace h := if_l g11 h
       refine w_seq ?_
       refine w_run mo (by rw [hN]; decide) fun K hK => ?_
       simp [-guardE_b, -Is_at, -Is_at', -Ls_at, -Ls_at', eL, eI, allInts, eP_Fn, Fn.cells]
       repeat (with_reducible refine And.intro ?_ ?_; · first | assumption | omega | (simp; done) | (simp; omega) | simp_all)
       refine hK _ ?_
       clear hK K
       refine tn ?_
       refine w_weak (st' := ⟨[(2, .val (.bool false))], [], 0⟩) (Wk.rel [] (by simp) (by simp) (by rw [hP]; simp) (by simp) (by simp) (by simp [Fn.cells, Is_append, Is_one, Ls_append, Ls_one, Bs_append, Bs_one, Es_append, Es_one, Es_set', eB, eI, eL]) (by simp [hhOk, back, Fn.cells, Is_append, Is_one, Ls_append, Ls_one, Bs_append, Bs_one, Es_append, Es_one, Es_set', eB, eI, eL])) ?_
       refine w_ret ?_
       refine br ?_
       refine tr ?_
       refine lr ?_
       refine br ?_
       refine tr ?_
       cases h
       have q : _ = e1 := hk7
       have h := h1
       rw [← q] at h
       clear q
       try dsimp only at h
       have hr := Option.some.inj h
       rw [← hr]
       refine ⟨_, (.tmp .nil), ?_⟩
       refine ⟨(.one rfl rfl .nil), [.val (.bool false)], [], by simp [Fn.cells, Is_append, Is_one, Ls_append, Ls_one, Bs_append, Bs_one, Es_append, Es_one, Es_set', eB, eI, eL], by simp, (UpL.refl _)⟩
     have g11 : ¬ (¬ (v10 = true)) := by first | simpa using g | (simp at g; exact g) | (simp at g; omega)
     clear g
     replace h := if_r g11 h
     refine w_skip ?_
     refine bn ?_
     refine tn ?_
     refine w_run mo (by rw [hN]; decide) fun K hK => ?_
     replace h := ass_some h
     obtain ⟨a12, h⟩ := h
     simp [-guardE_b, -Is_at, -Is_at', -Ls_at, -Ls_at', eL, eI, allInts, eP_Fn, Fn.cells, wrap_id a12]
     repeat (with_reducible refine And.intro ?_ ?_; · first | assumption | omega | (simp; done) | (simp; omega) | simp_all)
     refine hK _ ?_
     clear hK K
     cases h
     exact rn (s' := s7 + 1) hk7 (Wk.rel [] (by simp) (by simp) (by rw [hP]; simp) (by simp) (by simp) (by simp [Fn.cells, Is_append, Is_one, Ls_append, Ls_one, Bs_append, Bs_one, Es_append, Es_one, Es_set', eB, eI, eL]) (by simp [hhOk, back, Fn.cells, Is_append, Is_one, Ls_append, Ls_one, Bs_append, Bs_one, Es_append, Es_one, Es_set', eB, eI, eL]))
   have g8 : ¬ (s7 < (list_.length : Int)) := by first | simpa using g | (simp at g; exact g) | (simp at g; omega)
   clear g
   replace h := if_r g8 h
   refine w_exit ?_
   refine tx ?_
   refine lx ?_
   refine bh ?_
   cases h
   exact jn (b := ()) hk7 (Wk.rel [] (by simp) (by simp) (by rw [hP]; simp) (by simp) (by simp) (by simp [Fn.cells, Is_append, Is_one, Ls_append, Ls_one, Bs_append, Bs_one, Es_append, Es_one, Es_set', eB, eI, eL]) (by simp [hhOk, back, Fn.cells, Is_append, Is_one, Ls_append, Ls_one, Bs_append, Bs_one, Es_append, Es_one, Es_set', eB, eI, eL]))
 intro b1 hb1
 have h := h1
 rw [← hb1] at h
 clear h1
 try dsimp only at h
 refine w_seq ?_
 refine w_run mo (by rw [hN]; decide) fun K hK => ?_
 simp [-guardE_b, -Is_at, -Is_at', -Ls_at, -Ls_at', eL, eI, allInts, eP_Fn, Fn.cells]
 repeat (with_reducible refine And.intro ?_ ?_; · first | assumption | omega | (simp; done) | (simp; omega) | simp_all)
 refine hK _ ?_
 clear hK K
 refine tn ?_
 refine w_weak (st' := ⟨[(2, .val (.bool true))], [], 0⟩) (Wk.rel [] (by simp) (by simp) (by rw [hP]; simp) (by simp) (by simp) (by simp [Fn.cells, Is_append, Is_one, Ls_append, Ls_one, Bs_append, Bs_one, Es_append, Es_one, Es_set', eB, eI, eL]) (by simp [hhOk, back, Fn.cells, Is_append, Is_one, Ls_append, Ls_one, Bs_append, Bs_one, Es_append, Es_one, Es_set', eB, eI, eL])) ?_
 refine w_ret ?_
 have hr := Option.some.inj h
 rw [← hr]
 refine ⟨_, (.tmp .nil), ?_⟩
 refine ⟨(.one rfl rfl .nil), [.val (.bool true)], [], by simp [Fn.cells, Is_append, Is_one, Ls_append, Ls_one, Bs_append, Bs_one, Es_append, Es_one, Es_set', eB, eI, eL], by simp, (UpL.refl _)⟩
end Go.Vc.T

set_option maxRecDepth 100000
set_option linter.unusedSimpArgs false
set_option linter.unusedVariables false
namespace Go.Vc.T
open Go Go.Vc Go.Proofs
noncomputable def s_i_monadOf (a_ : Adj) : Option Mnd :=
 (s_i_Functor_then a_.l a_.r).bind fun v1 =>
 (loopF (σ := List Int × Int) (ε := List Int) (fun s9 =>
   if s9.2 < (a_.l.ob.length : Int) then
     ass (0 ≤ s9.2 ∧ s9.2 < (a_.l.ob.length : Int)) <|
     ass (0 ≤ ix a_.l.ob s9.2 ∧ ix a_.l.ob s9.2 < (a_.k.length : Int)) <|
     ass (0 ≤ ix a_.k (ix a_.l.ob s9.2) ∧ ix a_.k (ix a_.l.ob s9.2) < (a_.r.ar.length : Int)) <|
     ass ((s9.1 ++ [ix a_.r.ar (ix a_.k (ix a_.l.ob s9.2))]).length ≤ 1073741824) <|
     ass (B64 (s9.2 + 1)) <|
     some (Ctl.next (s9.1 ++ [ix a_.r.ar (ix a_.k (ix a_.l.ob s9.2))], s9.2 + 1))
   else
     some (Ctl.ret s9.1)) fuel ([], 0)).bind fun b2 =>
 (s_i_monad v1 a_.u b2).bind fun v16 =>
 some v16
set_option maxHeartbeats 4000000 in
theorem w_i_monadOf (a_ : Adj) (r : Mnd) (h : s_i_monadOf a_ = some r) : Contract Try.prog 128 [.rptr (a_.cells true)] (.agg (r.cells true)) := by
 refine contract_introG (rvs := [.cell 2 50]) (rs := [.agg (r.cells true)]) Try.func128 rfl rfl rfl rfl (by simp [Try.f128]) fun F hN hP => ?_
 unfold s_i_monadOf at h
 refine w_seq ?_
 refine w_run mo (by rw [hN]; decide) fun K hK => ?_
 simp [-guardE_b, -Is_at, -Is_at', -Ls_at, -Ls_at', eL, eI, allInts, eP_Adj, eP_Fn, eP_Mnd, Adj.cells, Fn.cells, Mnd.cells]
 repeat (with_reducible refine And.intro ?_ ?_; · first | assumption | omega | (simp; done) | (simp; omega) | simp_all)
 refine hK _ ?_
 clear hK K
 refine tn ?_
 refine w_weak (st' := ⟨[(0, .rptr [.val (.int .i64 a_.l.s.n), .lst true 1 (Is a_.l.s.fr), .lst true 1 (Is a_.l.s.to), .lst true 1 (Is a_.l.s.id), .lst true 1 (Ls a_.l.s.cs), .val (.int .i64 a_.l.t.n), .lst true 1 (Is a_.l.t.fr), .lst true 1 (Is a_.l.t.to), .lst true 1 (Is a_.l.t.id), .lst true 1 (Ls a_.l.t.cs), .lst true 1 (Is a_.l.ob), .lst true 1 (Is a_.l.ar), .val (.int .i64 a_.r.s.n), .lst true 1 (Is a_.r.s.fr), .lst true 1 (Is a_.r.s.to), .lst true 1 (Is a_.r.s.id), .lst true 1 (Ls a_.r.s.cs), .val (.int .i64 a_.r.t.n), .lst true 1 (Is a_.r.t.fr), .lst true 1 (Is a_.r.t.to), .lst true 1 (Is a_.r.t.id), .lst true 1 (Ls a_.r.t.cs), .lst true 1 (Is a_.r.ob), .lst true 1 (Is a_.r.ar), .lst true 1 (Is a_.u), .lst true 1 (Is a_.k)]), (2, .adr 0 0 0)], [(0, .mix 14 [[.val (.int .i64 0), .val (.slice none 0 0), .val (.slice none 0 0), .val (.slice none 0 0), .val (.slice none 0 0), .val (.int .i64 0), .val (.slice none 0 0), .val (.slice none 0 0), .val (.slice none 0 0), .val (.slice none 0 0), .val (.slice none 0 0), .val (.slice none 0 0), .val (.slice none 0 0), .val (.slice none 0 0)]])], 1⟩) (Wk.rel [(0, 0)] (by simp) (by simp) (by rw [hP]; simp) (by simp) (by simp) (by simp [Adj.cells, Fn.cells, Mnd.cells, Is_append, Is_one, Ls_append, Ls_one, Bs_append, Bs_one, Es_append, Es_one, Es_set', eB, eI, eL]) (by simp [hhOk, back, Adj.cells, Fn.cells, Mnd.cells, Is_append, Is_one, Ls_append, Ls_one, Bs_append, Bs_one, Es_append, Es_one, Es_set', eB, eI, eL])) ?_
 refine w_seq ?_
 refine w_run mo (by rw [hN]; decide) fun K hK => ?_
 simp [-guardE_b, -Is_at, -Is_at', -Ls_at, -Ls_at', eL, eI, allInts, eP_Adj, eP_Fn, eP_Mnd, Adj.cells, Fn.cells, Mnd.cells]
 repeat (with_reducible refine And.intro ?_ ?_; · first | assumption | omega | (simp; done) | (simp; omega) | simp_all)
 replace h := bind_some h
 obtain ⟨v1, hv1, h⟩ := h
 refine callA_intro (w_i_Functor_then _ _ v1 hv1) (.cons (.preT (by simp [Adj.cells, Fn.cells])) (.cons (.preT (by simp [Adj.cells, Fn.cells])) .nil)) ?_
 simp [-guardE_b, -Is_at, -Is_at', -Ls_at, -Ls_at', unk, unA, unE, unT, unC, flat, eL, eI, allInts, eP_Adj, eP_Fn, eP_Mnd, Adj.cells, Fn.cells, Mnd.cells]
 repeat (with_reducible refine And.intro ?_ ?_; · first | assumption | omega | (simp; done) | (simp; omega) | simp_all)
 refine hK _ ?_
 clear hK K
 refine tn ?_
 refine w_weak (st' := ⟨[(0, .rptr [.val (.int .i64 a_.l.s.n), .lst true 1 (Is a_.l.s.fr), .lst true 1 (Is a_.l.s.to), .lst true 1 (Is a_.l.s.id), .lst true 1 (Ls a_.l.s.cs), .val (.int .i64 a_.l.t.n), .lst true 1 (Is a_.l.t.fr), .lst true 1 (Is a_.l.t.to), .lst true 1 (Is a_.l.t.id), .lst true 1 (Ls a_.l.t.cs), .lst true 1 (Is a_.l.ob), .lst true 1 (Is a_.l.ar), .val (.int .i64 a_.r.s.n), .lst true 1 (Is a_.r.s.fr), .lst true 1 (Is a_.r.s.to), .lst true 1 (Is a_.r.s.id), .lst true 1 (Ls a_.r.s.cs), .val (.int .i64 a_.r.t.n), .lst true 1 (Is a_.r.t.fr), .lst true 1 (Is a_.r.t.to), .lst true 1 (Is a_.r.t.id), .lst true 1 (Ls a_.r.t.cs), .lst true 1 (Is a_.r.ob), .lst true 1 (Is a_.r.ar), .lst true 1 (Is a_.u), .lst true 1 (Is a_.k)]), (2, .adr 0 0 0), (3, .adr 1 0 0)], [(0, .mix 14 [[.val (.int .i64 0), .val (.slice none 0 0), .val (.slice none 0 0), .val (.slice none 0 0), .val (.slice none 0 0), .val (.int .i64 0), .val (.slice none 0 0), .val (.slice none 0 0), .val (.slice none 0 0), .val (.slice none 0 0), .val (.slice none 0 0), .val (.slice none 0 0), .val (.slice none 0 0), .val (.slice none 0 0)]]), (1, .mix 12 [[.val (.int .i64 v1.s.n), .own 2 0 v1.s.fr.length, .own 3 0 v1.s.to.length, .own 4 0 v1.s.id.length, .own 5 0 v1.s.cs.length, .val (.int .i64 v1.t.n), .own 6 0 v1.t.fr.length, .own 7 0 v1.t.to.length, .own 8 0 v1.t.id.length, .own 9 0 v1.t.cs.length, .own 10 0 v1.ob.length, .own 11 0 v1.ar.length]]), (2, .row 1 (Is v1.s.fr)), (3, .row 1 (Is v1.s.to)), (4, .row 1 (Is v1.s.id)), (5, .row 1 (Ls v1.s.cs)), (6, .row 1 (Is v1.t.fr)), (7, .row 1 (Is v1.t.to)), (8, .row 1 (Is v1.t.id)), (9, .row 1 (Ls v1.t.cs)), (10, .row 1 (Is v1.ob)), (11, .row 1 (Is v1.ar))], 12⟩) (Wk.rel [(0, 0), (13, 1), (2, 2), (3, 3), (4, 4), (5, 5), (7, 6), (8, 7), (9, 8), (10, 9), (11, 10), (12, 11)] (by simp) (by simp) (by rw [hP]; simp) (by simp) (by simp) (by simp [Adj.cells, Fn.cells, Mnd.cells, Is_append, Is_one, Ls_append, Ls_one, Bs_append, Bs_one, Es_append, Es_one, Es_set', eB, eI, eL]) (by simp [hhOk, back, Adj.cells, Fn.cells, Mnd.cells, Is_append, Is_one, Ls_append, Ls_one, Bs_append, Bs_one, Es_append, Es_one, Es_set', eB, eI, eL])) ?_
 refine w_seq ?_
 refine w_run mo (by rw [hN]; decide) fun K hK => ?_
 simp [-guardE_b, -Is_at, -Is_at', -Ls_at, -Ls_at', eL, eI, allInts, eP_Adj, eP_Fn, eP_Mnd, Adj.cells, Fn.cells, Mnd.cells]
 repeat (with_reducible refine And.intro ?_ ?_; · first | assumption | omega | (simp; done) | (simp; omega) | simp_all)
 refine hK _ ?_
 clear hK K
 refine tn ?_
 refine w_weak (st' := ⟨[(0, .rptr [.val (.int .i64 a_.l.s.n), .lst true 1 (Is a_.l.s.fr), .lst true 1 (Is a_.l.s.to), .lst true 1 (Is a_.l.s.id), .lst true 1 (Ls a_.l.s.cs), .val (.int .i64 a_.l.t.n), .lst true 1 (Is a_.l.t.fr), .lst true 1 (Is a_.l.t.to), .lst true 1 (Is a_.l.t.id), .lst true 1 (Ls a_.l.t.cs), .lst true 1 (Is a_.l.ob), .lst true 1 (Is a_.l.ar), .val (.int .i64 a_.r.s.n), .lst true 1 (Is a_.r.s.fr), .lst true 1 (Is a_.r.s.to), .lst true 1 (Is a_.r.s.id), .lst true 1 (Ls a_.r.s.cs), .val (.int .i64 a_.r.t.n), .lst true 1 (Is a_.r.t.fr), .lst true 1 (Is a_.r.t.to), .lst true 1 (Is a_.r.t.id), .lst true 1 (Ls a_.r.t.cs), .lst true 1 (Is a_.r.ob), .lst true 1 (Is a_.r.ar), .lst true 1 (Is a_.u), .lst true 1 (Is a_.k)]), (2, .adr 0 0 0), (3, .adr 1 0 0), (4, .own 12 0 0)], [(0, .mix 14 [[.val (.int .i64 0), .val (.slice none 0 0), .val (.slice none 0 0), .val (.slice none 0 0), .val (.slice none 0 0), .val (.int .i64 0), .val (.slice none 0 0), .val (.slice none 0 0), .val (.slice none 0 0), .val (.slice none 0 0), .val (.slice none 0 0), .val (.slice none 0 0), .val (.slice none 0 0), .val (.slice none 0 0)]]), (1, .mix 12 [[.val (.int .i64 v1.s.n), .own 2 0 v1.s.fr.length, .own 3 0 v1.s.to.length, .own 4 0 v1.s.id.length, .own 5 0 v1.s.cs.length, .val (.int .i64 v1.t.n), .own 6 0 v1.t.fr.length, .own 7 0 v1.t.to.length, .own 8 0 v1.t.id.length, .own 9 0 v1.t.cs.length, .own 10 0 v1.ob.length, .own 11 0 v1.ar.length]]), (2, .row 1 (Is v1.s.fr)), (3, .row 1 (Is v1.s.to)), (4, .row 1 (Is v1.s.id)), (5, .row 1 (Ls v1.s.cs)), (6, .row 1 (Is v1.t.fr)), (7, .row 1 (Is v1.t.to)), (8, .row 1 (Is v1.t.id)), (9, .row 1 (Ls v1.t.cs)), (10, .row 1 (Is v1.ob)), (11, .row 1 (Is v1.ar)), (12, .mix 1 [])], 13⟩) (Wk.rel [(0, 0), (1, 1), (2, 2), (3, 3), (4, 4), (5, 5), (6, 6), (7, 7), (8, 8), (9, 9), (10, 10), (11, 11), (12, 12)] (by simp) (by simp) (by rw [hP]; simp) (by simp) (by simp) (by simp [Adj.cells, Fn.cells, Mnd.cells, Is_append, Is_one, Ls_append, Ls_one, Bs_append, Bs_one, Es_append, Es_one, Es_set', eB, eI, eL]) (by simp [hhOk, back, Adj.cells, Fn.cells, Mnd.cells, Is_append, Is_one, Ls_append, Ls_one, Bs_append, Bs_one, Es_append, Es_one, Es_set', eB, eI, eL])) ?_
 refine w_seq ?_
 refine w_seq ?_
 refine w_run mo (by rw [hN]; decide) fun K hK => ?_
 simp [-guardE_b, -Is_at, -Is_at', -Ls_at, -Ls_at', eL, eI, allInts, eP_Adj, eP_Fn, eP_Mnd, Adj.cells, Fn.cells, Mnd.cells]
 repeat (with_reducible refine And.intro ?_ ?_; · first | assumption | omega | (simp; done) | (simp; omega) | simp_all)
 refine hK _ ?_
 clear hK K
 refine tn ?_
 refine w_weak (st' := ⟨[(0, .rptr [.val (.int .i64 a_.l.s.n), .lst true 1 (Is a_.l.s.fr), .lst true 1 (Is a_.l.s.to), .lst true 1 (Is a_.l.s.id), .lst true 1 (Ls a_.l.s.cs), .val (.int .i64 a_.l.t.n), .lst true 1 (Is a_.l.t.fr), .lst true 1 (Is a_.l.t.to), .lst true 1 (Is a_.l.t.id), .lst true 1 (Ls a_.l.t.cs), .lst true 1 (Is a_.l.ob), .lst true 1 (Is a_.l.ar), .val (.int .i64 a_.r.s.n), .lst true 1 (Is a_.r.s.fr), .lst true 1 (Is a_.r.s.to), .lst true 1 (Is a_.r.s.id), .lst true 1 (Ls a_.r.s.cs), .val (.int .i64 a_.r.t.n), .lst true 1 (Is a_.r.t.fr), .lst true 1 (Is a_.r.t.to), .lst true 1 (Is a_.r.t.id), .lst true 1 (Ls a_.r.t.cs), .lst true 1 (Is a_.r.ob), .lst true 1 (Is a_.r.ar), .lst true 1 (Is a_.u), .lst true 1 (Is a_.k)]), (2, .adr 0 0 0), (3, .adr 1 0 0), (4, .own 12 0 0), (19, .lst true 1 (Is a_.l.ob)), (20, .val (.int .i64 (a_.l.ob.length : Int))), (21, .val (.int .i64 0))], [(0, .mix 14 [[.val (.int .i64 0), .val (.slice none 0 0), .val (.slice none 0 0), .val (.slice none 0 0), .val (.slice none 0 0), .val (.int .i64 0), .val (.slice none 0 0), .val (.slice none 0 0), .val (.slice none 0 0), .val (.slice none 0 0), .val (.slice none 0 0), .val (.slice none 0 0), .val (.slice none 0 0), .val (.slice none 0 0)]]), (1, .mix 12 [[.val (.int .i64 v1.s.n), .own 2 0 v1.s.fr.length, .own 3 0 v1.s.to.length, .own 4 0 v1.s.id.length, .own 5 0 v1.s.cs.length, .val (.int .i64 v1.t.n), .own 6 0 v1.t.fr.length, .own 7 0 v1.t.to.length, .own 8 0 v1.t.id.length, .own 9 0 v1.t.cs.length, .own 10 0 v1.ob.length, .own 11 0 v1.ar.length]]), (2, .row 1 (Is v1.s.fr)), (3, .row 1 (Is v1.s.to)), (4, .row 1 (Is v1.s.id)), (5, .row 1 (Ls v1.s.cs)), (6, .row 1 (Is v1.t.fr)), (7, .row 1 (Is v1.t.to)), (8, .row 1 (Is v1.t.id)), (9, .row 1 (Ls v1.t.cs)), (10, .row 1 (Is v1.ob)), (11, .row 1 (Is v1.ar)), (12, .mix 1 [])], 13⟩) (Wk.rel [(0, 0), (1, 1), (2, 2), (3, 3), (4, 4), (5, 5), (6, 6), (7, 7), (8, 8), (9, 9), (10, 10), (11, 11), (12, 12)] (by simp) (by simp) (by rw [hP]; simp) (by simp) (by simp) (by simp [Adj.cells, Fn.cells, Mnd.cells, Is_append, Is_one, Ls_append, Ls_one, Bs_append, Bs_one, Es_append, Es_one, Es_set', eB, eI, eL]) (by simp [hhOk, back, Adj.cells, Fn.cells, Mnd.cells, Is_append, Is_one, Ls_append, Ls_one, Bs_append, Bs_one, Es_append, Es_one, Es_set', eB, eI, eL])) ?_
 replace h := bind_some h
 obtain ⟨e2, h, h2⟩ := h
 refine w_joinT (fun b2 : List Int => ⟨[(0, .rptr [.val (.int .i64 a_.l.s.n), .lst true 1 (Is a_.l.s.fr), .lst true 1 (Is a_.l.s.to), .lst true 1 (Is a_.l.s.id), .lst true 1 (Ls a_.l.s.cs), .val (.int .i64 a_.l.t.n), .lst true 1 (Is a_.l.t.fr), .lst true 1 (Is a_.l.t.to), .lst true 1 (Is a_.l.t.id), .lst true 1 (Ls a_.l.t.cs), .lst true 1 (Is a_.l.ob), .lst true 1 (Is a_.l.ar), .val (.int .i64 a_.r.s.n), .lst true 1 (Is a_.r.s.fr), .lst true 1 (Is a_.r.s.to), .lst true 1 (Is a_.r.s.id), .lst true 1 (Ls a_.r.s.cs), .val (.int .i64 a_.r.t.n), .lst true 1 (Is a_.r.t.fr), .lst true 1 (Is a_.r.t.to), .lst true 1 (Is a_.r.t.id), .lst true 1 (Ls a_.r.t.cs), .lst true 1 (Is a_.r.ob), .lst true 1 (Is a_.r.ar), .lst true 1 (Is a_.u), .lst true 1 (Is a_.k)]), (2, .adr 0 0 0), (3, .adr 1 0 0), (4, .own 12 0 b2.length)], [(0, .mix 14 [[.val (.int .i64 0), .val (.slice none 0 0), .val (.slice none 0 0), .val (.slice none 0 0), .val (.slice none 0 0), .val (.int .i64 0), .val (.slice none 0 0), .val (.slice none 0 0), .val (.slice none 0 0), .val (.slice none 0 0), .val (.slice none 0 0), .val (.slice none 0 0), .val (.slice none 0 0), .val (.slice none 0 0)]]), (1, .mix 12 [[.val (.int .i64 v1.s.n), .own 2 0 v1.s.fr.length, .own 3 0 v1.s.to.length, .own 4 0 v1.s.id.length, .own 5 0 v1.s.cs.length, .val (.int .i64 v1.t.n), .own 6 0 v1.t.fr.length, .own 7 0 v1.t.to.length, .own 8 0 v1.t.id.length, .own 9 0 v1.t.cs.length, .own 10 0 v1.ob.length, .own 11 0 v1.ar.length]]), (2, .row 1 (Is v1.s.fr)), (3, .row 1 (Is v1.s.to)), (4, .row 1 (Is v1.s.id)), (5, .row 1 (Ls v1.s.cs)), (6, .row 1 (Is v1.t.fr)), (7, .row 1 (Is v1.t.to)), (8, .row 1 (Is v1.t.id)), (9, .row 1 (Ls v1.t.cs)), (10, .row 1 (Is v1.ob)), (11, .row 1 (Is v1.ar)), (12, .row 1 (Is b2))], 13⟩) (fun b2 => b2 = e2) ?_ ?_
 · refine w_block ?_
   refine w_loopF h (fun s9 : List Int × Int => ⟨[(0, .rptr [.val (.int .i64 a_.l.s.n), .lst true 1 (Is a_.l.s.fr), .lst true 1 (Is a_.l.s.to), .lst true 1 (Is a_.l.s.id), .lst true 1 (Ls a_.l.s.cs), .val (.int .i64 a_.l.t.n), .lst true 1 (Is a_.l.t.fr), .lst true 1 (Is a_.l.t.to), .lst true 1 (Is a_.l.t.id), .lst true 1 (Ls a_.l.t.cs), .lst true 1 (Is a_.l.ob), .lst true 1 (Is a_.l.ar), .val (.int .i64 a_.r.s.n), .lst true 1 (Is a_.r.s.fr), .lst true 1 (Is a_.r.s.to), .lst true 1 (Is a_.r.s.id), .lst true 1 (Ls a_.r.s.cs), .val (.int .i64 a_.r.t.n), .lst true 1 (Is a_.r.t.fr), .lst true 1 (Is a_.r.t.to), .lst true 1 (Is a_.r.t.id), .lst true 1 (Ls a_.r.t.cs), .lst true 1 (Is a_.r.ob), .lst true 1 (Is a_.r.ar), .lst true 1 (Is a_.u), .lst true 1 (Is a_.k)]), (2, .adr 0 0 0), (3, .adr 1 0 0), (4, .own 12 0 s9.1.length), (19, .lst true 1 (Is a_.l.ob)), (20, .val (.int .i64 (a_.l.ob.length : Int))), (21, .val (.int .i64 s9.2))], [(0, .mix 14 [[.val (.int .i64 0), .val (.slice none 0 0), .val (.slice none 0 0), .val (.slice none 0 0), .val (.slice none 0 0), .val (.int .i64 0), .val (.slice none 0 0), .val (.slice none 0 0), .val (.slice none 0 0), .val (.slice none 0 0), .val (.slice none 0 0), .val (.slice none 0 0), .val (.slice none 0 0), .val (.slice none 0 0)]]), (1, .mix 12 [[.val (.int .i64 v1.s.n), .own 2 0 v1.s.fr.length, .own 3 0 v1.s.to.length, .own 4 0 v1.s.id.length, .own 5 0 v1.s.cs.length, .val (.int .i64 v1.t.n), .own 6 0 v1.t.fr.length, .own 7 0 v1.t.to.length, .own 8 0 v1.t.id.length, .own 9 0 v1.t.cs.length, .own 10 0 v1.ob.length, .own 11 0 v1.ar.length]]), (2, .row 1 (Is v1.s.fr)), (3, .row 1 (Is v1.s.to)), (4, .row 1 (Is v1.s.id)), (5, .row 1 (Ls v1.s.cs)), (6, .row 1 (Is v1.t.fr)), (7, .row 1 (Is v1.t.to)), (8, .row 1 (Is v1.t.id)), (9, .row 1 (Ls v1.t.cs)), (10, .row 1 (Is v1.ob)), (11, .row 1 (Is v1.ar)), (12, .row 1 (Is s9.1))], 13⟩) (wk_tr ⟨[(0, .rptr [.val (.int .i64 a_.l.s.n), .lst true 1 (Is a_.l.s.fr), .lst true 1 (Is a_.l.s.to), .lst true 1 (Is a_.l.s.id), .lst true 1 (Ls a_.l.s.cs), .val (.int .i64 a_.l.t.n), .lst true 1 (Is a_.l.t.fr), .lst true 1 (Is a_.l.t.to), .lst true 1 (Is a_.l.t.id), .lst true 1 (Ls a_.l.t.cs), .lst true 1 (Is a_.l.ob), .lst true 1 (Is a_.l.ar), .val (.int .i64 a_.r.s.n), .lst true 1 (Is a_.r.s.fr), .lst true 1 (Is a_.r.s.to), .lst true 1 (Is a_.r.s.id), .lst true 1 (Ls a_.r.s.cs), .val (.int .i64 a_.r.t.n), .lst true 1 (Is a_.r.t.fr), .lst true 1 (Is a_.r.t.to), .lst true 1 (Is a_.r.t.id), .lst true 1 (Ls a_.r.t.cs), .lst true 1 (Is a_.r.ob), .lst true 1 (Is a_.r.ar), .lst true 1 (Is a_.u), .lst true 1 (Is a_.k)]), (2, .adr 0 0 0), (3, .adr 1 0 0), (4, .own 12 0 0), (19, .lst true 1 (Is a_.l.ob)), (20, .val (.int .i64 (a_.l.ob.length : Int))), (21, .val (.int .i64 0))], [(0, .mix 14 [[.val (.int .i64 0), .val (.slice none 0 0), .val (.slice none 0 0), .val (.slice none 0 0), .val (.slice none 0 0), .val (.int .i64 0), .val (.slice none 0 0), .val (.slice none 0 0), .val (.slice none 0 0), .val (.slice none 0 0), .val (.slice none 0 0), .val (.slice none 0 0), .val (.slice none 0 0), .val (.slice none 0 0)]]), (1, .mix 12 [[.val (.int .i64 v1.s.n), .own 2 0 v1.s.fr.length, .own 3 0 v1.s.to.length, .own 4 0 v1.s.id.length, .own 5 0 v1.s.cs.length, .val (.int .i64 v1.t.n), .own 6 0 v1.t.fr.length, .own 7 0 v1.t.to.length, .own 8 0 v1.t.id.length, .own 9 0 v1.t.cs.length, .own 10 0 v1.ob.length, .own 11 0 v1.ar.length]]), (2, .row 1 (Is v1.s.fr)), (3, .row 1 (Is v1.s.to)), (4, .row 1 (Is v1.s.id)), (5, .row 1 (Ls v1.s.cs)), (6, .row 1 (Is v1.t.fr)), (7, .row 1 (Is v1.t.to)), (8, .row 1 (Is v1.t.id)), (9, .row 1 (Ls v1.t.cs)), (10, .row 1 (Is v1.ob)), (11, .row 1 (Is v1.ar)), (12, .row 1 (Is []))], 13⟩ (Wk.nils [] (by simp) (by simp) (by simp [nlA]) (by simp [entN, nlL, nlA, Adj.cells, Fn.cells, Mnd.cells, Is_append, Is_one, Ls_append, Ls_one, Bs_append, Bs_one, Es_append, Es_one, Es_set', eB, eI, eL]) (by simp)) (Wk.rel [(0, 0), (1, 1), (2, 2), (3, 3), (4, 4), (5, 5), (6, 6), (7, 7), (8, 8), (9, 9), (10, 10), (11, 11), (12, 12)] (by simp) (by simp) (by rw [hP]; simp) (by simp) (by simp) (by simp [Adj.cells, Fn.cells, Mnd.cells, Is_append, Is_one, Ls_append, Ls_one, Bs_append, Bs_one, Es_append, Es_one, Es_set', eB, eI, eL]) (by simp [hhOk, back, Adj.cells, Fn.cells, Mnd.cells, Is_append, Is_one, Ls_append, Ls_one, Bs_append, Bs_one, Es_append, Es_one, Es_set', eB, eI, eL]))) ?_
   clear h
   intro k9 s9 c9 h hk9
   refine w_seq ?_
   refine w_run mo (by rw [hN]; decide) fun K hK => ?_
   simp [-guardE_b, -Is_at, -Is_at', -Ls_at, -Ls_at', eL, eI, allInts, eP_Adj, eP_Fn, eP_Mnd, Adj.cells, Fn.cells, Mnd.cells]
   repeat (with_reducible refine And.intro ?_ ?_; · first | assumption | omega | (simp; done) | (simp; omega) | simp_all)
   refine hK _ ?_
   clear hK K
   refine tn ?_
   refine w_weak (st' := ⟨[(0, .rptr [.val (.int .i64 a_.l.s.n), .lst true 1 (Is a_.l.s.fr), .lst true 1 (Is a_.l.s.to), .lst true 1 (Is a_.l.s.id), .lst true 1 (Ls a_.l.s.cs), .val (.int .i64 a_.l.t.n), .lst true 1 (Is a_.l.t.fr), .lst true 1 (Is a_.l.t.to), .lst true 1 (Is a_.l.t.id), .lst true 1 (Ls a_.l.t.cs), .lst true 1 (Is a_.l.ob), .lst true 1 (Is a_.l.ar), .val (.int .i64 a_.r.s.n), .lst true 1 (Is a_.r.s.fr), .lst true 1 (Is a_.r.s.to), .lst true 1 (Is a_.r.s.id), .lst true 1 (Ls a_.r.s.cs), .val (.int .i64 a_.r.t.n), .lst true 1 (Is a_.r.t.fr), .lst true 1 (Is a_.r.t.to), .lst true 1 (Is a_.r.t.id), .lst true 1 (Ls a_.r.t.cs), .lst true 1 (Is a_.r.ob), .lst true 1 (Is a_.r.ar), .lst true 1 (Is a_.u), .lst true 1 (Is a_.k)]), (2, .adr 0 0 0), (3, .adr 1 0 0), (4, .own 12 0 s9.1.length), (19, .lst true 1 (Is a_.l.ob)), (20, .val (.int .i64 (a_.l.ob.length : Int))), (21, .val (.int .i64 s9.2)), (22, .val (.bool (decide (s9.2 < (a_.l.ob.length : Int)))))], [(0, .mix 14 [[.val (.int .i64 0), .val (.slice none 0 0), .val (.slice none 0 0), .val (.slice none 0 0), .val (.slice none 0 0), .val (.int .i64 0), .val (.slice none 0 0), .val (.slice none 0 0), .val (.slice none 0 0), .val (.slice none 0 0), .val (.slice none 0 0), .val (.slice none 0 0), .val (.slice none 0 0), .val (.slice none 0 0)]]), (1, .mix 12 [[.val (.int .i64 v1.s.n), .own 2 0 v1.s.fr.length, .own 3 0 v1.s.to.length, .own 4 0 v1.s.id.length, .own 5 0 v1.s.cs.length, .val (.int .i64 v1.t.n), .own 6 0 v1.t.fr.length, .own 7 0 v1.t.to.length, .own 8 0 v1.t.id.length, .own 9 0 v1.t.cs.length, .own 10 0 v1.ob.length, .own 11 0 v1.ar.length]]), (2, .row 1 (Is v1.s.fr)), (3, .row 1 (Is v1.s.to)), (4, .row 1 (Is v1.s.id)), (5, .row 1 (Ls v1.s.cs)), (6, .row 1 (Is v1.t.fr)), (7, .row 1 (Is v1.t.to)), (8, .row 1 (Is v1.t.id)), (9, .row 1 (Ls v1.t.cs)), (10, .row 1 (Is v1.ob)), (11, .row 1 (Is v1.ar)), (12, .row 1 (Is s9.1))], 13⟩) (Wk.rel [(0, 0), (1, 1), (2, 2), (3, 3), (4, 4), (5, 5), (6, 6), (7, 7), (8, 8), (9, 9), (10, 10), (11, 11), (12, 12)] (by simp) (by simp) (by rw [hP]; simp) (by simp) (by simp) (by simp [Adj.cells, Fn.cells, Mnd.cells, Is_append, Is_one, Ls_append, Ls_one, Bs_append, Bs_one, Es_append, Es_one, Es_set', eB, eI, eL]) (by simp [hhOk, back, Adj.cells, Fn.cells, Mnd.cells, Is_append, Is_one, Ls_append, Ls_one, Bs_append, Bs_one, Es_append, Es_one, Es_set', eB, eI, eL])) ?_
   refine w_seq ?_
   refine w_cond rfl (fun g => ?_) fun g => ?_
   · have g10 : s9.2 < (a_.l.ob.length : Int) := by first | simpa using g | (simp at g; exact g) | (simp at g; omega)
     clear g
     replace h := if_l g10 h
     refine w_skip ?_
     refine tn ?_
     refine w_seq ?_
     refine w_block ?_
     refine w_seq ?_
     refine w_run mo (by rw [hN]; decide) fun K hK => ?_
     replace h := ass_some h
     obtain ⟨a11, h⟩ := h
     simp [-guardE_b, -Is_at, -Is_at', -Ls_at, -Ls_at', eL, eI, allInts, eP_Adj, eP_Fn, eP_Mnd, Adj.cells, Fn.cells, Mnd.cells, at_I a11]
     repeat (with_reducible refine And.intro ?_ ?_; · first | assumption | omega | (simp; done) | (simp; omega) | simp_all)
     refine hK _ ?_
     clear hK K
     refine tn ?_
     refine w_weak (st' := ⟨[(0, .rptr [.val (.int .i64 a_.l.s.n), .lst true 1 (Is a_.l.s.fr), .lst true 1 (Is a_.l.s.to), .lst true 1 (Is a_.l.s.id), .lst true 1 (Ls a_.l.s.cs), .val (.int .i64 a_.l.t.n), .lst true 1 (Is a_.l.t.fr), .lst true 1 (Is a_.l.t.to), .lst true 1 (Is a_.l.t.id), .lst true 1 (Ls a_.l.t.cs), .lst true 1 (Is a_.l.ob), .lst true 1 (Is a_.l.ar), .val (.int .i64 a_.r.s.n), .lst true 1 (Is a_.r.s.fr), .lst true 1 (Is a_.r.s.to), .lst true 1 (Is a_.r.s.id), .lst true 1 (Ls a_.r.s.cs), .val (.int .i64 a_.r.t.n), .lst true 1 (Is a_.r.t.fr), .lst true 1 (Is a_.r.t.to), .lst true 1 (Is a_.r.t.id), .lst true 1 (Ls a_.r.t.cs), .lst true 1 (Is a_.r.ob), .lst true 1 (Is a_.r.ar), .lst true 1 (Is a_.u), .lst true 1 (Is a_.k)]), (2, .adr 0 0 0), (3, .adr 1 0 0), (4, .own 12 0 s9.1.length), (6, .val (.int .i64 (ix a_.l.ob s9.2))), (19, .lst true 1 (Is a_.l.ob)), (20, .val (.int .i64 (a_.l.ob.length : Int))), (21, .val (.int .i64 s9.2))], [(0, .mix 14 [[.val (.int .i64 0), .val (.slice none 0 0), .val (.slice none 0 0), .val (.slice none 0 0), .val (.slice none 0 0), .val (.int .i64 0), .val (.slice none 0 0), .val (.slice none 0 0), .val (.slice none 0 0), .val (.slice none 0 0), .val (.slice none 0 0), .val (.slice none 0 0), .val (.slice none 0 0), .val (.slice none 0 0)]]), (1, .mix 12 [[.val (.int .i64 v1.s.n), .own 2 0 v1.s.fr.length, .own 3 0 v1.s.to.length, .own 4 0 v1.s.id.length, .own 5 0 v1.s.cs.length, .val (.int .i64 v1.t.n), .own 6 0 v1.t.fr.length, .own 7 0 v1.t.to.length, .own 8 0 v1.t.id.length, .own 9 0 v1.t.cs.length, .own 10 0 v1.ob.length, .own 11 0 v1.ar.length]]), (2, .row 1 (Is v1.s.fr)), (3, .row 1 (Is v1.s.to)), (4, .row 1 (Is v1.s.id)), (5, .row 1 (Ls v1.s.cs)), (6, .row 1 (Is v1.t.fr)), (7, .row 1 (Is v1.t.to)), (8, .row 1 (Is v1.t.id)), (9, .row 1 (Ls v1.t.cs)), (10, .row 1 (Is v1.ob)), (11, .row 1 (Is v1.ar)), (12, .row 1 (Is s9.1))], 13⟩) (Wk.rel [(0, 0), (1, 1), (2, 2), (3, 3), (4, 4), (5, 5), (6, 6), (7, 7), (8, 8), (9, 9), (10, 10), (11, 11), (12, 12)] (by simp) (by simp) (by rw [hP]; simp) (by simp) (by simp) (by simp [Adj.cells, Fn.cells, Mnd.cells, Is_append, Is_one, Ls_append, Ls_one, Bs_append, Bs_one, Es_append, Es_one, Es_set', eB, eI, eL]) (by simp [hhOk, back, Adj.cells, Fn.cells, Mnd.cells, Is_append, Is_one, Ls_append, Ls_one, Bs_append, Bs_one, Es_append, Es_one, Es_set', eB, eI, eL])) ?_
     refine w_run mo (by rw [hN]; decide) fun K hK => ?_
     replace h := ass_some h
     obtain ⟨a12, h⟩ := h
     replace h := ass_some h
     obtain ⟨a13, h⟩ := h
     replace h := ass_some h
     obtain ⟨a14, h⟩ := h
     try simp only [List.length_append, List.length_cons, List.length_nil] at a14
     simp [-guardE_b, -Is_at, -Is_at', -Ls_at, -Ls_at', eL, eI, allInts, eP_Adj, eP_Fn, eP_Mnd, Adj.cells, Fn.cells, Mnd.cells, at_I a12, at_I a13, a14]
     repeat (with_reducible refine And.intro ?_ ?_; · first | assumption | omega | (simp; done) | (simp; omega) | simp_all)
     refine hK _ ?_
     clear hK K
     refine bn ?_
     refine tn ?_
     refine w_weak (st' := ⟨[(0, .rptr [.val (.int .i64 a_.l.s.n), .lst true 1 (Is a_.l.s.fr), .lst true 1 (Is a_.l.s.to), .lst true 1 (Is a_.l.s.id), .lst true 1 (Ls a_.l.s.cs), .val (.int .i64 a_.l.t.n), .lst true 1 (Is a_.l.t.fr), .lst true 1 (Is a_.l.t.to), .lst true 1 (Is a_.l.t.id), .lst true 1 (Ls a_.l.t.cs), .lst true 1 (Is a_.l.ob), .lst true 1 (Is a_.l.ar), .val (.int .i64 a_.r.s.n), .lst true 1 (Is a_.r.s.fr), .lst true 1 (Is a_.r.s.to), .lst true 1 (Is a_.r.s.id), .lst true 1 (Ls a_.r.s.cs), .val (.int .i64 a_.r.t.n), .lst true 1 (Is a_.r.t.fr), .lst true 1 (Is a_.r.t.to), .lst true 1 (Is a_.r.t.id), .lst true 1 (Ls a_.r.t.cs), .lst true 1 (Is a_.r.ob), .lst true 1 (Is a_.r.ar), .lst true 1 (Is a_.u), .lst true 1 (Is a_.k)]), (2, .adr 0 0 0), (3, .adr 1 0 0), (4, .own 12 0 ((s9.1 ++ [ix a_.r.ar (ix a_.k (ix a_.l.ob s9.2))]).length)), (19, .lst true 1 (Is a_.l.ob)), (20, .val (.int .i64 (a_.l.ob.length : Int))), (21, .val (.int .i64 s9.2))], [(0, .mix 14 [[.val (.int .i64 0), .val (.slice none 0 0), .val (.slice none 0 0), .val (.slice none 0 0), .val (.slice none 0 0), .val (.int .i64 0), .val (.slice none 0 0), .val (.slice none 0 0), .val (.slice none 0 0), .val (.slice none 0 0), .val (.slice none 0 0), .val (.slice none 0 0), .val (.slice none 0 0), .val (.slice none 0 0)]]), (1, .mix 12 [[.val (.int .i64 v1.s.n), .own 2 0 v1.s.fr.length, .own 3 0 v1.s.to.length, .own 4 0 v1.s.id.length, .own 5 0 v1.s.cs.length, .val (.int .i64 v1.t.n), .own 6 0 v1.t.fr.length, .own 7 0 v1.t.to.length, .own 8 0 v1.t.id.length, .own 9 0 v1.t.cs.length, .own 10 0 v1.ob.length, .own 11 0 v1.ar.length]]), (2, .row 1 (Is v1.s.fr)), (3, .row 1 (Is v1.s.to)), (4, .row 1 (Is v1.s.id)), (5, .row 1 (Ls v1.s.cs)), (6, .row 1 (Is v1.t.fr)), (7, .row 1 (Is v1.t.to)), (8, .row 1 (Is v1.t.id)), (9, .row 1 (Ls v1.t.cs)), (10, .row 1 (Is v1.ob)), (11, .row 1 (Is v1.ar)), (12, .row 1 (Is (s9.1 ++ [ix a_.r.ar (ix a_.k (ix a_.l.ob s9.2))])))], 13⟩) (Wk.rel [(0, 0), (1, 1), (2, 2), (3, 3), (4, 4), (5, 5), (6, 6), (7, 7), (8, 8), (9, 9), (10, 10), (11, 11), (14, 12)] (by simp) (by simp) (by rw [hP]; simp) (by simp) (by simp) (by simp [Adj.cells, Fn.cells, Mnd.cells, Is_append, Is_one, Ls_append, Ls_one, Bs_append, Bs_one, Es_append, Es_one, Es_set', eB, eI, eL]) (by simp [hhOk, back, Adj.cells, Fn.cells, Mnd.cells, Is_append, Is_one, Ls_append, Ls_one, Bs_append, Bs_one, Es_append, Es_one, Es_set', eB, eI, eL])) ?_
     refine w_run mo (by rw [hN]; decide) fun K hK => ?_
     replace h := ass_some h
     obtain ⟨a15, h⟩ := h
     simp [-guardE_b, -Is_at, -Is_at', -Ls_at, -Ls_at', eL, eI, allInts, eP_Adj, eP_Fn, eP_Mnd, Adj.cells, Fn.cells, Mnd.cells, wrap_id a15]
     repeat (with_reducible refine And.intro ?_ ?_; · first | assumption | omega | (simp; done) | (simp; omega) | simp_all)
     refine hK _ ?_
     clear hK K
     cases h
     exact rn (s' := (s9.1 ++ [ix a_.r.ar (ix a_.k (ix a_.l.ob s9.2))], s9.2 + 1)) hk9 (Wk.rel [(0, 0), (1, 1), (2, 2), (3, 3), (4, 4), (5, 5), (6, 6), (7, 7), (8, 8), (9, 9), (10, 10), (11, 11), (12, 12)] (by simp) (by simp) (by rw [hP]; simp) (by simp) (by simp) (by simp [Adj.cells, Fn.cells, Mnd.cells, Is_append, Is_one, Ls_append, Ls_one, Bs_append, Bs_one, Es_append, Es_one, Es_set', eB, eI, eL]) (by simp [hhOk, back, Adj.cells, Fn.cells, Mnd.cells, Is_append, Is_one, Ls_append, Ls_one, Bs_append, Bs_one, Es_append, Es_one, Es_set', eB, eI, eL]))
   have g10 : ¬ (s9.2 < (a_.l.ob.length : Int)) := by first | simpa using g | (simp at g; exact g) | (simp at g; omega)
   clear g
   replace h := if_r g10 h
   refine w_exit ?_
   refine tx ?_
   refine lx ?_
   refine bh ?_
   cases h
   exact jn (b := s9.1) hk9 (Wk.rel [(0, 0), (1, 1), (2, 2), (3, 3), (4, 4), (5, 5), (6, 6), (7, 7), (8, 8), (9, 9), (10, 10), (11, 11), (12, 12)] (by simp) (by simp) (by rw [hP]; simp) (by simp) (by simp) (by simp [Adj.cells, Fn.cells, Mnd.cells, Is_append, Is_one, Ls_append, Ls_one, Bs_append, Bs_one, Es_append, Es_one, Es_set', eB, eI, eL]) (by simp [hhOk, back, Adj.cells, Fn.cells, Mnd.cells, Is_append, Is_one, Ls_append, Ls_one, Bs_append, Bs_one, Es_append, Es_one, Es_set', eB, eI, eL]))
 intro b2 hb2
 have h := h2
 rw [← hb2] at h
 clear h2
 try dsimp only at h
 refine w_seq ?_
 refine w_run mo (by rw [hN]; decide) fun K hK => ?_
 simp [-guardE_b, -Is_at, -Is_at', -Ls_at, -Ls_at', eL, eI, allInts, eP_Adj, eP_Fn, eP_Mnd, Adj.cells, Fn.cells, Mnd.cells]
 repeat (with_reducible refine And.intro ?_ ?_; · first | assumption | omega | (simp; done) | (simp; omega) | simp_all)
 replace h := bind_some h
 obtain ⟨v16, hv16, h⟩ := h
 refine callA_intro (w_i_monad _ _ _ v16 hv16) (.cons (.field rfl (by simp [Adj.cells, Fn.cells]) (.cons .val (.cons (.whole (by simp) (by simp) (by simp)) (.cons (.whole (by simp) (by simp) (by simp)) (.cons (.whole (by simp) (by simp) (by simp)) (.cons (.whole (by simp) (by simp) (by simp)) (.cons .val (.cons (.whole (by simp) (by simp) (by simp)) (.cons (.whole (by simp) (by simp) (by simp)) (.cons (.whole (by simp) (by simp) (by simp)) (.cons (.whole (by simp) (by simp) (by simp)) (.cons (.whole (by simp) (by simp) (by simp)) (.cons (.whole (by simp) (by simp) (by simp)) .nil))))))))))))) (.cons .lst (.cons (.whole (by simp) (by simp) (by simp)) .nil))) ?_
 simp [-guardE_b, -Is_at, -Is_at', -Ls_at, -Ls_at', unk, unA, unE, unT, unC, flat, eL, eI, allInts, eP_Adj, eP_Fn, eP_Mnd, Adj.cells, Fn.cells, Mnd.cells]
 repeat (with_reducible refine And.intro ?_ ?_; · first | assumption | omega | (simp; done) | (simp; omega) | simp_all)
 refine hK _ ?_
 clear hK K
 refine tn ?_
 refine w_weak (st' := ⟨[(2, .adr 0 0 0)], [(0, .mix 14 [[.val (.int .i64 v16.f.s.n), .own 1 0 v16.f.s.fr.length, .own 2 0 v16.f.s.to.length, .own 3 0 v16.f.s.id.length, .own 4 0 v16.f.s.cs.length, .val (.int .i64 v16.f.t.n), .own 5 0 v16.f.t.fr.length, .own 6 0 v16.f.t.to.length, .own 7 0 v16.f.t.id.length, .own 8 0 v16.f.t.cs.length, .own 9 0 v16.f.ob.length, .own 10 0 v16.f.ar.length, .own 11 0 v16.u.length, .own 12 0 v16.j.length]]), (1, .row 1 (Is v16.f.s.fr)), (2, .row 1 (Is v16.f.s.to)), (3, .row 1 (Is v16.f.s.id)), (4, .row 1 (Ls v16.f.s.cs)), (5, .row 1 (Is v16.f.t.fr)), (6, .row 1 (Is v16.f.t.to)), (7, .row 1 (Is v16.f.t.id)), (8, .row 1 (Ls v16.f.t.cs)), (9, .row 1 (Is v16.f.ob)), (10, .row 1 (Is v16.f.ar)), (11, .row 1 (Is v16.u)), (12, .row 1 (Is v16.j))], 13⟩) (Wk.rel [(0, 0), (14, 1), (15, 2), (16, 3), (17, 4), (19, 5), (20, 6), (21, 7), (22, 8), (23, 9), (24, 10), (25, 11), (26, 12)] (by simp) (by simp) (by rw [hP]; simp) (by simp) (by simp) (by simp [Adj.cells, Fn.cells, Mnd.cells, Is_append, Is_one, Ls_append, Ls_one, Bs_append, Bs_one, Es_append, Es_one, Es_set', eB, eI, eL]) (by simp [hhOk, back, Adj.cells, Fn.cells, Mnd.cells, Is_append, Is_one, Ls_append, Ls_one, Bs_append, Bs_one, Es_append, Es_one, Es_set', eB, eI, eL])) ?_
 refine w_ret ?_
 have hr := Option.some.inj h
 rw [← hr]
 refine ⟨_, (.cell tf_50 rfl rfl rfl (by simp) (by simp) .nil), ?_⟩
 refine ⟨(.agg rfl .nil), [.val (.int .i64 v16.f.s.n), .lst true 1 (Is v16.f.s.fr), .lst true 1 (Is v16.f.s.to), .lst true 1 (Is v16.f.s.id), .lst true 1 (Ls v16.f.s.cs), .val (.int .i64 v16.f.t.n), .lst true 1 (Is v16.f.t.fr), .lst true 1 (Is v16.f.t.to), .lst true 1 (Is v16.f.t.id), .lst true 1 (Ls v16.f.t.cs), .lst true 1 (Is v16.f.ob), .lst true 1 (Is v16.f.ar), .lst true 1 (Is v16.u), .lst true 1 (Is v16.j)], [1, 2, 3, 4, 5, 6, 7, 8, 9, 10, 11, 12], by simp [Adj.cells, Fn.cells, Mnd.cells, Is_append, Is_one, Ls_append, Ls_one, Bs_append, Bs_one, Es_append, Es_one, Es_set', eB, eI, eL], by simp, (UpL.refl _)⟩
end Go.Vc.T

set_option maxRecDepth 100000
set_option linter.unusedSimpArgs false
set_option linter.unusedVariables false
namespace Go.Vc.T
open Go Go.Vc Go.Proofs
noncomputable def s_i_Transformation_isShape (t_ : Tra) : Option Bool :=
 (
   (s_i_areFunctors [t_.s, t_.t]).bind fun v2 =>
   if ¬ (v2 = true) then
     some true
   else
     (s_i_parallelFunctors t_.s t_.t).bind fun v4 =>
     if ¬ (v4 = true) then
       some true
     else
       if ¬ ((t_.p.length : Int) = t_.s.s.n) then
         some true
       else
         (s_i_Category_arrows t_.s.t).bind fun v7 =>
         (s_i_within t_.p v7).bind fun v8 =>
         some (!v8) : Option (Bool)).bind fun b1 =>
 if b1 = true then
   some false
 else
   (loopF (σ := Int) (ε := Unit ⊕ Bool) (fun s18 =>
     if s18 < (t_.p.length : Int) then
       ass (0 ≤ s18 ∧ s18 < (t_.p.length : Int)) <|
       (s_i_Category_ends t_.s.t (ix t_.p s18)).bind fun v21 =>
       ass (0 ≤ s18 ∧ s18 < (t_.s.ob.length : Int)) <|
       ass (0 ≤ s18 ∧ s18 < (t_.t.ob.length : Int)) <|
       if ¬ (v21.a = ix t_.s.ob s18 ∧ v21.b = ix t_.t.ob s18) then
         some (Ctl.ret (Sum.inr false))
       else
         ass (B64 (s18 + 1)) <|
         some (Ctl.next (s18 + 1))
     else
       some (Ctl.ret (Sum.inl ()))) fuel 0).bind fun e10 =>
   match e10 with
   | .inl b10 =>
     some true
   | .inr p10 =>
     some p10
set_option maxHeartbeats 4000000 in
theorem w_i_Transformation_isShape (t_ : Tra) (r : Bool) (h : s_i_Transformation_isShape t_ = some r) : Contract Try.prog 184 [.rptr (t_.cells true)] (.val (.bool r)) := by
 refine contract_introG (rvs := [.tmp 2]) (rs := [.val (.bool r)]) Try.func184 rfl rfl rfl rfl (by simp [Try.f184]) fun F hN hP => ?_
 unfold s_i_Transformation_isShape at h
 refine w_seq ?_
 refine w_run mo (by rw [hN]; decide) fun K hK => ?_
 simp [-guardE_b, -Is_at, -Is_at', -Ls_at, -Ls_at', eL, eI, allInts, eP_Cat, eP_Ends, eP_Fn, eP_Tra, Cat.cells, Ends.cells, Fn.cells, Tra.cells]
 repeat (with_reducible refine And.intro ?_ ?_; · first | assumption | omega | (simp; done) | (simp; omega) | simp_all)
 refine hK _ ?_
 clear hK K
 refine tn ?_
 refine w_weak (st' := ⟨[(0, .rptr [.val (.int .i64 t_.s.s.n), .lst true 1 (Is t_.s.s.fr), .lst true 1 (Is t_.s.s.to), .lst true 1 (Is t_.s.s.id), .lst true 1 (Ls t_.s.s.cs), .val (.int .i64 t_.s.t.n), .lst true 1 (Is t_.s.t.fr), .lst true 1 (Is t_.s.t.to), .lst true 1 (Is t_.s.t.id), .lst true 1 (Ls t_.s.t.cs), .lst true 1 (Is t_.s.ob), .lst true 1 (Is t_.s.ar), .val (.int .i64 t_.t.s.n), .lst true 1 (Is t_.t.s.fr), .lst true 1 (Is t_.t.s.to), .lst true 1 (Is t_.t.s.id), .lst true 1 (Ls t_.t.s.cs), .val (.int .i64 t_.t.t.n), .lst true 1 (Is t_.t.t.fr), .lst true 1 (Is t_.t.t.to), .lst true 1 (Is t_.t.t.id), .lst true 1 (Ls t_.t.t.cs), .lst true 1 (Is t_.t.ob), .lst true 1 (Is t_.t.ar), .lst true 1 (Is t_.p)])], [], 0⟩) (Wk.rel [] (by simp) (by simp) (by rw [hP]; simp) (by simp) (by simp) (by simp [Cat.cells, Ends.cells, Fn.cells, Tra.cells, Is_append, Is_one, Ls_append, Ls_one, Bs_append, Bs_one, Es_append, Es_one, Es_set', eB, eI, eL]) (by simp [hhOk, back, Cat.cells, Ends.cells, Fn.cells, Tra.cells, Is_append, Is_one, Ls_append, Ls_one, Bs_append, Bs_one, Es_append, Es_one, Es_set', eB, eI, eL])) ?_
 refine w_seq ?_
 refine w_run mo (by rw [hN]; decide) fun K hK => ?_
 simp [-guardE_b, -Is_at, -Is_at', -Ls_at, -Ls_at', eL, eI, allInts, eP_Cat, eP_Ends, eP_Fn, eP_Tra, Cat.cells, Ends.cells, Fn.cells, Tra.cells]
 repeat (with_reducible refine And.intro ?_ ?_; · first | assumption | omega | (simp; done) | (simp; omega) | simp_all)
 refine hK _ ?_
 clear hK K
 refine tn ?_
 refine w_weak (st' := ⟨[(0, .rptr [.val (.int .i64 t_.s.s.n), .lst true 1 (Is t_.s.s.fr), .lst true 1 (Is t_.s.s.to), .lst true 1 (Is t_.s.s.id), .lst true 1 (Ls t_.s.s.cs), .val (.int .i64 t_.s.t.n), .lst true 1 (Is t_.s.t.fr), .lst true 1 (Is t_.s.t.to), .lst true 1 (Is t_.s.t.id), .lst true 1 (Ls t_.s.t.cs), .lst true 1 (Is t_.s.ob), .lst true 1 (Is t_.s.ar), .val (.int .i64 t_.t.s.n), .lst true 1 (Is t_.t.s.fr), .lst true 1 (Is t_.t.s.to), .lst true 1 (Is t_.t.s.id), .lst true 1 (Ls t_.t.s.cs), .val (.int .i64 t_.t.t.n), .lst true 1 (Is t_.t.t.fr), .lst true 1 (Is t_.t.t.to), .lst true 1 (Is t_.t.t.id), .lst true 1 (Ls t_.t.t.cs), .lst true 1 (Is t_.t.ob), .lst true 1 (Is t_.t.ar), .lst true 1 (Is t_.p)]), (3, .rptr [.val (.int .i64 t_.s.s.n), .lst true 1 (Is t_.s.s.fr), .lst true 1 (Is t_.s.s.to), .lst true 1 (Is t_.s.s.id), .lst true 1 (Ls t_.s.s.cs), .val (.int .i64 t_.s.t.n), .lst true 1 (Is t_.s.t.fr), .lst true 1 (Is t_.s.t.to), .lst true 1 (Is t_.s.t.id), .lst true 1 (Ls t_.s.t.cs), .lst true 1 (Is t_.s.ob), .lst true 1 (Is t_.s.ar), .val (.int .i64 t_.t.s.n), .lst true 1 (Is t_.t.s.fr), .lst true 1 (Is t_.t.s.to), .lst true 1 (Is t_.t.s.id), .lst true 1 (Ls t_.t.s.cs), .val (.int .i64 t_.t.t.n), .lst true 1 (Is t_.t.t.fr), .lst true 1 (Is t_.t.t.to), .lst true 1 (Is t_.t.t.id), .lst true 1 (Ls t_.t.t.cs), .lst true 1 (Is t_.t.ob), .lst true 1 (Is t_.t.ar), .lst true 1 (Is t_.p)]), (4, .rptr [.val (.int .i64 t_.t.s.n), .lst true 1 (Is t_.t.s.fr), .lst true 1 (Is t_.t.s.to), .lst true 1 (Is t_.t.s.id), .lst true 1 (Ls t_.t.s.cs), .val (.int .i64 t_.t.t.n), .lst true 1 (Is t_.t.t.fr), .lst true 1 (Is t_.t.t.to), .lst true 1 (Is t_.t.t.id), .lst true 1 (Ls t_.t.t.cs), .lst true 1 (Is t_.t.ob), .lst true 1 (Is t_.t.ar), .lst true 1 (Is t_.p)])], [], 0⟩) (Wk.rel [] (by simp) (by simp) (by rw [hP]; simp) (by simp) (by simp) (by simp [Cat.cells, Ends.cells, Fn.cells, Tra.cells, Is_append, Is_one, Ls_append, Ls_one, Bs_append, Bs_one, Es_append, Es_one, Es_set', eB, eI, eL]) (by simp [hhOk, back, Cat.cells, Ends.cells, Fn.cells, Tra.cells, Is_append, Is_one, Ls_append, Ls_one, Bs_append, Bs_one, Es_append, Es_one, Es_set', eB, eI, eL])) ?_
 refine w_seq ?_
 refine w_seq ?_
 replace h := bind_some h
 obtain ⟨e1, h, h1⟩ := h
 refine w_joinT (fun b1 : Bool => ⟨[(0, .rptr [.val (.int .i64 t_.s.s.n), .lst true 1 (Is t_.s.s.fr), .lst true 1 (Is t_.s.s.to), .lst true 1 (Is t_.s.s.id), .lst true 1 (Ls t_.s.s.cs), .val (.int .i64 t_.s.t.n), .lst true 1 (Is t_.s.t.fr), .lst true 1 (Is t_.s.t.to), .lst true 1 (Is t_.s.t.id), .lst true 1 (Ls t_.s.t.cs), .lst true 1 (Is t_.s.ob), .lst true 1 (Is t_.s.ar), .val (.int .i64 t_.t.s.n), .lst true 1 (Is t_.t.s.fr), .lst true 1 (Is t_.t.s.to), .lst true 1 (Is t_.t.s.id), .lst true 1 (Ls t_.t.s.cs), .val (.int .i64 t_.t.t.n), .lst true 1 (Is t_.t.t.fr), .lst true 1 (Is t_.t.t.to), .lst true 1 (Is t_.t.t.id), .lst true 1 (Ls t_.t.t.cs), .lst true 1 (Is t_.t.ob), .lst true 1 (Is t_.t.ar), .lst true 1 (Is t_.p)]), (3, .rptr [.val (.int .i64 t_.s.s.n), .lst true 1 (Is t_.s.s.fr), .lst true 1 (Is t_.s.s.to), .lst true 1 (Is t_.s.s.id), .lst true 1 (Ls t_.s.s.cs), .val (.int .i64 t_.s.t.n), .lst true 1 (Is t_.s.t.fr), .lst true 1 (Is t_.s.t.to), .lst true 1 (Is t_.s.t.id), .lst true 1 (Ls t_.s.t.cs), .lst true 1 (Is t_.s.ob), .lst true 1 (Is t_.s.ar), .val (.int .i64 t_.t.s.n), .lst true 1 (Is t_.t.s.fr), .lst true 1 (Is t_.t.s.to), .lst true 1 (Is t_.t.s.id), .lst true 1 (Ls t_.t.s.cs), .val (.int .i64 t_.t.t.n), .lst true 1 (Is t_.t.t.fr), .lst true 1 (Is t_.t.t.to), .lst true 1 (Is t_.t.t.id), .lst true 1 (Ls t_.t.t.cs), .lst true 1 (Is t_.t.ob), .lst true 1 (Is t_.t.ar), .lst true 1 (Is t_.p)]), (4, .rptr [.val (.int .i64 t_.t.s.n), .lst true 1 (Is t_.t.s.fr), .lst true 1 (Is t_.t.s.to), .lst true 1 (Is t_.t.s.id), .lst true 1 (Ls t_.t.s.cs), .val (.int .i64 t_.t.t.n), .lst true 1 (Is t_.t.t.fr), .lst true 1 (Is t_.t.t.to), .lst true 1 (Is t_.t.t.id), .lst true 1 (Ls t_.t.t.cs), .lst true 1 (Is t_.t.ob), .lst true 1 (Is t_.t.ar), .lst true 1 (Is t_.p)]), (48, .val (.bool b1))], [], 0⟩) (fun b1 => b1 = e1) ?_ ?_
 · refine w_run mo (by rw [hN]; decide) fun K hK => ?_
   simp [-guardE_b, -Is_at, -Is_at', -Ls_at, -Ls_at', eL, eI, allInts, eP_Cat, eP_Ends, eP_Fn, eP_Tra, Cat.cells, Ends.cells, Fn.cells, Tra.cells]
   repeat (with_reducible refine And.intro ?_ ?_; · first | assumption | omega | (simp; done) | (simp; omega) | simp_all)
   replace h := bind_some h
   obtain ⟨v2, hv2, h⟩ := h
   refine callA_intro (w_i_areFunctors _ v2 hv2) (.cons (.lits (es := _) rfl (.cons rfl (.cons (.preT (by simp [Fn.cells, Tra.cells])) .nil) (.cons rfl (.cons (.preT (by simp [Fn.cells, Tra.cells])) .nil) .nil)) rfl) .nil) ?_
   simp [-guardE_b, -Is_at, -Is_at', -Ls_at, -Ls_at', unk, unA, unE, unT, unC, flat, eL, eI, allInts, eP_Cat, eP_Ends, eP_Fn, eP_Tra, Cat.cells, Ends.cells, Fn.cells, Tra.cells]
   repeat (with_reducible refine And.intro ?_ ?_; · first | assumption | omega | (simp; done) | (simp; omega) | simp_all)
   refine guard_intro (fun g => ?_) (fun g => ?_)
   · have g3 : ¬ (¬ (v2 = true)) := by first | simpa using g | (simp at g; exact g) | (simp at g; omega)
     clear g
     replace h := if_r g3 h
     simp [-guardE_b, -Is_at, -Is_at', -Ls_at, -Ls_at', eL, eI, allInts, eP_Cat, eP_Ends, eP_Fn, eP_Tra, Cat.cells, Ends.cells, Fn.cells, Tra.cells]
     repeat (with_reducible refine And.intro ?_ ?_; · first | assumption | omega | (simp; done) | (simp; omega) | simp_all)
     replace h := bind_some h
     obtain ⟨v4, hv4, h⟩ := h
     refine callA_intro (w_i_parallelFunctors _ _ v4 hv4) (.cons (.preT (by simp [Fn.cells, Tra.cells])) (.cons (.preT (by simp [Fn.cells, Tra.cells])) .nil)) ?_
     simp [-guardE_b, -Is_at, -Is_at', -Ls_at, -Ls_at', unk, unA, unE, unT, unC, flat, eL, eI, allInts, eP_Cat, eP_Ends, eP_Fn, eP_Tra, Cat.cells, Ends.cells, Fn.cells, Tra.cells]
     repeat (with_reducible refine And.intro ?_ ?_; · first | assumption | omega | (simp; done) | (simp; omega) | simp_all)
     refine guard_intro (fun g => ?_) (fun g => ?_)
     · have g5 : ¬ (¬ (v4 = true)) := by first | simpa using g | (simp at g; exact g) | (simp at g; omega)
       clear g
       replace h := if_r g5 h
       simp [-guardE_b, -Is_at, -Is_at', -Ls_at, -Ls_at', eL, eI, allInts, eP_Cat, eP_Ends, eP_Fn, eP_Tra, Cat.cells, Ends.cells, Fn.cells, Tra.cells]
       repeat (with_reducible refine And.intro ?_ ?_; · first | assumption | omega | (simp; done) | (simp; omega) | simp_all)
       refine guard_intro (fun g => ?_) (fun g => ?_)
       · have g6 : ¬ (¬ ((t_.p.length : Int) = t_.s.s.n)) := by first | simpa using g | (simp at g; exact g) | (simp at g; omega)
         clear g
         replace h := if_r g6 h
         simp [-guardE_b, -Is_at, -Is_at', -Ls_at, -Ls_at', eL, eI, allInts, eP_Cat, eP_Ends, eP_Fn, eP_Tra, Cat.cells, Ends.cells, Fn.cells, Tra.cells]
         repeat (with_reducible refine And.intro ?_ ?_; · first | assumption | omega | (simp; done) | (simp; omega) | simp_all)
         replace h := bind_some h
         obtain ⟨v7, hv7, h⟩ := h
         refine callA_intro (w_i_Category_arrows _ v7 hv7) (.cons (.preT (by simp [Cat.cells, Fn.cells, Tra.cells])) .nil) ?_
         simp [-guardE_b, -Is_at, -Is_at', -Ls_at, -Ls_at', unk, unA, unE, unT, unC, flat, eL, eI, allInts, eP_Cat, eP_Ends, eP_Fn, eP_Tra, Cat.cells, Ends.cells, Fn.cells, Tra.cells]
         repeat (with_reducible refine And.intro ?_ ?_; · first | assumption | omega | (simp; done) | (simp; omega) | simp_all)
         replace h := bind_some h
         obtain ⟨v8, hv8, h⟩ := h
         refine callA_intro (w_i_within _ _ v8 hv8) (.cons .lst (.cons .val .nil)) ?_
         simp [-guardE_b, -Is_at, -Is_at', -Ls_at, -Ls_at', unk, unA, unE, unT, unC, flat, eL, eI, allInts, eP_Cat, eP_Ends, eP_Fn, eP_Tra, Cat.cells, Ends.cells, Fn.cells, Tra.cells]
         repeat (with_reducible refine And.intro ?_ ?_; · first | assumption | omega | (simp; done) | (simp; omega) | simp_all)
         refine hK _ ?_
         exact jn (b := !v8) (Option.some.inj h) (Wk.rel [] (by simp) (by simp) (by rw [hP]; simp) (by simp) (by simp) (by simp [Cat.cells, Ends.cells, Fn.cells, Tra.cells, Is_append, Is_one, Ls_append, Ls_one, Bs_append, Bs_one, Es_append, Es_one, Es_set', eB, eI, eL]) (by simp [hhOk, back, Cat.cells, Ends.cells, Fn.cells, Tra.cells, Is_append, Is_one, Ls_append, Ls_one, Bs_append, Bs_one, Es_append, Es_one, Es_set', eB, eI, eL]))
       have g6 : ¬ ((t_.p.length : Int) = t_.s.s.n) := by first | simpa using g | (simp at g; exact g) | (simp at g; omega)
       clear g
       replace h := if_l g6 h
       simp [-guardE_b, -Is_at, -Is_at', -Ls_at, -Ls_at', eL, eI, allInts, eP_Cat, eP_Ends, eP_Fn, eP_Tra, Cat.cells, Ends.cells, Fn.cells, Tra.cells]
       repeat (with_reducible refine And.intro ?_ ?_; · first | assumption | omega | (simp; done) | (simp; omega) | simp_all)
       refine hK _ ?_
       exact jn (b := true) (Option.some.inj h) (Wk.rel [] (by simp) (by simp) (by rw [hP]; simp) (by simp) (by simp) (by simp [Cat.cells, Ends.cells, Fn.cells, Tra.cells, Is_append, Is_one, Ls_append, Ls_one, Bs_append, Bs_one, Es_append, Es_one, Es_set', eB, eI, eL]) (by simp [hhOk, back, Cat.cells, Ends.cells, Fn.cells, Tra.cells, Is_append, Is_one, Ls_append, Ls_one, Bs_append, Bs_one, Es_append, Es_one, Es_set', eB, eI, eL]))
     have g5 : ¬ (v4 = true) := by first | simpa using g | (simp at g; exact g) | (simp at g; omega)
     clear g
     replace h := if_l g5 h
     simp [-guardE_b, -Is_at, -Is_at', -Ls_at, -Ls_at', eL, eI, allInts, eP_Cat, eP_Ends, eP_Fn, eP_Tra, Cat.cells, Ends.cells, Fn.cells, Tra.cells]
     repeat (with_reducible refine And.intro ?_ ?_; · first | assumption | omega | (simp; done) | (simp; omega) | simp_all)
     refine hK _ ?_
     exact jn (b := true) (Option.some.inj h) (Wk.rel [] (by simp) (by simp) (by rw [hP]; simp) (by simp) (by simp) (by simp [Cat.cells, Ends.cells, Fn.cells, Tra.cells, Is_append, Is_one, Ls_append, Ls_one, Bs_append, Bs_one, Es_append, Es_one, Es_set', eB, eI, eL]) (by simp [hhOk, back, Cat.cells, Ends.cells, Fn.cells, Tra.cells, Is_append, Is_one, Ls_append, Ls_one, Bs_append, Bs_one, Es_append, Es_one, Es_set', eB, eI, eL]))
   have g3 : ¬ (v2 = true) := by first | simpa using g | (simp at g; exact g) | (simp at g; omega)
   clear g
   replace h := if_l g3 h
   simp [-guardE_b, -Is_at, -Is_at', -Ls_at, -Ls_at', eL, eI, allInts, eP_Cat, eP_Ends, eP_Fn, eP_Tra, Cat.cells, Ends.cells, Fn.cells, Tra.cells]
   repeat (with_reducible refine And.intro ?_ ?_; · first | assumption | omega | (simp; done) | (simp; omega) | simp_all)
   refine hK _ ?_
   exact jn (b := true) (Option.some.inj h) (Wk.rel [] (by simp) (by simp) (by rw [hP]; simp) (by simp) (by simp) (by simp [Cat.cells, Ends.cells, Fn.cells, Tra.cells, Is_append, Is_one, Ls_append, Ls_one, Bs_append, Bs_one, Es_append, Es_one, Es_set', eB, eI, eL]) (by simp [hhOk, back, Cat.cells, Ends.cells, Fn.cells, Tra.cells, Is_append, Is_one, Ls_append, Ls_one, Bs_append, Bs_one, Es_append, Es_one, Es_set', eB, eI, eL]))
 intro b1 hb1
 have h := h1
 rw [← hb1] at h
 clear h1
 try dsimp only at h
 refine w_cond rfl (fun g => ?_) fun g => ?_
 · have g9 : b1 = true := by first | simpa using g | (simp at g; exact g) | (simp at g; omega)
   clear g
   replace h := if_l g9 h
   refine w_seq ?_
   refine w_run mo (by rw [hN]; decide) fun K hK => ?_
   simp [-guardE_b, -Is_at, -Is_at', -Ls_at, -Ls_at', eL, eI, allInts, eP_Cat, eP_Ends, eP_Fn, eP_Tra, Cat.cells, Ends.cells, Fn.cells, Tra.cells]
   repeat (with_reducible refine And.intro ?_ ?_; · first | assumption | omega | (simp; done) | (simp; omega) | simp_all)
   refine hK _ ?_
   clear hK K
   refine tn ?_
   refine w_weak (st' := ⟨[(2, .val (.bool false))], [], 0⟩) (Wk.rel [] (by simp) (by simp) (by rw [hP]; simp) (by simp) (by simp) (by simp [Cat.cells, Ends.cells, Fn.cells, Tra.cells, Is_append, Is_one, Ls_append, Ls_one, Bs_append, Bs_one, Es_append, Es_one, Es_set', eB, eI, eL]) (by simp [hhOk, back, Cat.cells, Ends.cells, Fn.cells, Tra.cells, Is_append, Is_one, Ls_append, Ls_one, Bs_append, Bs_one, Es_append, Es_one, Es_set', eB, eI, eL])) ?_
   refine w_ret ?_
   refine tr ?_
   have hr := Option.some.inj h
   rw [← hr]
   refine ⟨_, (.tmp .nil), ?_⟩
   refine ⟨(.one rfl rfl .nil), [.val (.bool false)], [], by simp [Cat.cells, Ends.cells, Fn.cells, Tra.cells, Is_append, Is_one, Ls_append, Ls_one, Bs_append, Bs_one, Es_append, Es_one, Es_set', eB, eI, eL], by simp, (UpL.refl _)⟩
 have g9 : ¬ (b1 = true) := by first | simpa using g | (simp at g; exact g) | (simp at g; omega)
 clear g
 replace h := if_r g9 h
 refine w_skip ?_
 refine tn ?_
 refine w_seq ?_
 refine w_seq ?_
 refine w_run mo (by rw [hN]; decide) fun K hK => ?_
 simp [-guardE_b, -Is_at, -Is_at', -Ls_at, -Ls_at', eL, eI, allInts, eP_Cat, eP_Ends, eP_Fn, eP_Tra, Cat.cells, Ends.cells, Fn.cells, Tra.cells]
 repeat (with_reducible refine And.intro ?_ ?_; · first | assumption | omega | (simp; done) | (simp; omega) | simp_all)
 refine hK _ ?_
 clear hK K
 refine tn ?_
 refine w_weak (st' := ⟨[(3, .rptr [.val (.int .i64 t_.s.s.n), .lst true 1 (Is t_.s.s.fr), .lst true 1 (Is t_.s.s.to), .lst true 1 (Is t_.s.s.id), .lst true 1 (Ls t_.s.s.cs), .val (.int .i64 t_.s.t.n), .lst true 1 (Is t_.s.t.fr), .lst true 1 (Is t_.s.t.to), .lst true 1 (Is t_.s.t.id), .lst true 1 (Ls t_.s.t.cs), .lst true 1 (Is t_.s.ob), .lst true 1 (Is t_.s.ar), .val (.int .i64 t_.t.s.n), .lst true 1 (Is t_.t.s.fr), .lst true 1 (Is t_.t.s.to), .lst true 1 (Is t_.t.s.id), .lst true 1 (Ls t_.t.s.cs), .val (.int .i64 t_.t.t.n), .lst true 1 (Is t_.t.t.fr), .lst true 1 (Is t_.t.t.to), .lst true 1 (Is t_.t.t.id), .lst true 1 (Ls t_.t.t.cs), .lst true 1 (Is t_.t.ob), .lst true 1 (Is t_.t.ar), .lst true 1 (Is t_.p)]), (4, .rptr [.val (.int .i64 t_.t.s.n), .lst true 1 (Is t_.t.s.fr), .lst true 1 (Is t_.t.s.to), .lst true 1 (Is t_.t.s.id), .lst true 1 (Ls t_.t.s.cs), .val (.int .i64 t_.t.t.n), .lst true 1 (Is t_.t.t.fr), .lst true 1 (Is t_.t.t.to), .lst true 1 (Is t_.t.t.id), .lst true 1 (Ls t_.t.t.cs), .lst true 1 (Is t_.t.ob), .lst true 1 (Is t_.t.ar), .lst true 1 (Is t_.p)]), (52, .lst true 1 (Is t_.p)), (53, .val (.int .i64 (t_.p.length : Int))), (54, .val (.int .i64 0))], [], 0⟩) (Wk.rel [] (by simp) (by simp) (by rw [hP]; simp) (by simp) (by simp) (by simp [Cat.cells, Ends.cells, Fn.cells, Tra.cells, Is_append, Is_one, Ls_append, Ls_one, Bs_append, Bs_one, Es_append, Es_one, Es_set', eB, eI, eL]) (by simp [hhOk, back, Cat.cells, Ends.cells, Fn.cells, Tra.cells, Is_append, Is_one, Ls_append, Ls_one, Bs_append, Bs_one, Es_append, Es_one, Es_set', eB, eI, eL])) ?_
 replace h := bind_some h
 obtain ⟨e10, h, h10⟩ := h
 refine w_joinT (fun b10 : Unit => ⟨[], [], 0⟩) (fun b10 => Sum.inl b10 = e10) ?_ ?_
 · refine w_block ?_
   refine w_loopF h (fun s18 : Int => ⟨[(3, .rptr [.val (.int .i64 t_.s.s.n), .lst true 1 (Is t_.s.s.fr), .lst true 1 (Is t_.s.s.to), .lst true 1 (Is t_.s.s.id), .lst true 1 (Ls t_.s.s.cs), .val (.int .i64 t_.s.t.n), .lst true 1 (Is t_.s.t.fr), .lst true 1 (Is t_.s.t.to), .lst true 1 (Is t_.s.t.id), .lst true 1 (Ls t_.s.t.cs), .lst true 1 (Is t_.s.ob), .lst true 1 (Is t_.s.ar), .val (.int .i64 t_.t.s.n), .lst true 1 (Is t_.t.s.fr), .lst true 1 (Is t_.t.s.to), .lst true 1 (Is t_.t.s.id), .lst true 1 (Ls t_.t.s.cs), .val (.int .i64 t_.t.t.n), .lst true 1 (Is t_.t.t.fr), .lst true 1 (Is t_.t.t.to), .lst true 1 (Is t_.t.t.id), .lst true 1 (Ls t_.t.t.cs), .lst true 1 (Is t_.t.ob), .lst true 1 (Is t_.t.ar), .lst true 1 (Is t_.p)]), (4, .rptr [.val (.int .i64 t_.t.s.n), .lst true 1 (Is t_.t.s.fr), .lst true 1 (Is t_.t.s.to), .lst true 1 (Is t_.t.s.id), .lst true 1 (Ls t_.t.s.cs), .val (.int .i64 t_.t.t.n), .lst true 1 (Is t_.t.t.fr), .lst true 1 (Is t_.t.t.to), .lst true 1 (Is t_.t.t.id), .lst true 1 (Ls t_.t.t.cs), .lst true 1 (Is t_.t.ob), .lst true 1 (Is t_.t.ar), .lst true 1 (Is t_.p)]), (52, .lst true 1 (Is t_.p)), (53, .val (.int .i64 (t_.p.length : Int))), (54, .val (.int .i64 s18))], [], 0⟩) (Wk.rel [] (by simp) (by simp) (by rw [hP]; simp) (by simp) (by simp) (by simp [Cat.cells, Ends.cells, Fn.cells, Tra.cells, Is_append, Is_one, Ls_append, Ls_one, Bs_append, Bs_one, Es_append, Es_one, Es_set', eB, eI, eL]) (by simp [hhOk, back, Cat.cells, Ends.cells, Fn.cells, Tra.cells, Is_append, Is_one, Ls_append, Ls_one, Bs_append, Bs_one, Es_append, Es_one, Es_set', eB, eI, eL])) ?_
   clear h
   intro k18 s18 c18 h hk18
   refine w_seq ?_
   refine w_run mo (by rw [hN]; decide) fun K hK => ?_
   simp [-guardE_b, -Is_at, -Is_at', -Ls_at, -Ls_at', eL, eI, allInts, eP_Cat, eP_Ends, eP_Fn, eP_Tra, Cat.cells, Ends.cells, Fn.cells, Tra.cells]
   repeat (with_reducible refine And.intro ?_ ?_; · first | assumption | omega | (simp; done) | (simp; omega) | simp_all)
   refine hK _ ?_
   clear hK K
   refine tn ?_
   refine w_weak (st' := ⟨[(3, .rptr [.val (.int .i64 t_.s.s.n), .lst true 1 (Is t_.s.s.fr), .lst true 1 (Is t_.s.s.to), .lst true 1 (Is t_.s.s.id), .lst true 1 (Ls t_.s.s.cs), .val (.int .i64 t_.s.t.n), .lst true 1 (Is t_.s.t.fr), .lst true 1 (Is t_.s.t.to), .lst true 1 (Is t_.s.t.id), .lst true 1 (Ls t_.s.t.cs), .lst true 1 (Is t_.s.ob), .lst true 1 (Is t_.s.ar), .val (.int .i64 t_.t.s.n), .lst true 1 (Is t_.t.s.fr), .lst true 1 (Is t_.t.s.to), .lst true 1 (Is t_.t.s.id), .lst true 1 (Ls t_.t.s.cs), .val (.int .i64 t_.t.t.n), .lst true 1 (Is t_.t.t.fr), .lst true 1 (Is t_.t.t.to), .lst true 1 (Is t_.t.t.id), .lst true 1 (Ls t_.t.t.cs), .lst true 1 (Is t_.t.ob), .lst true 1 (Is t_.t.ar), .lst true 1 (Is t_.p)]), (4, .rptr [.val (.int .i64 t_.t.s.n), .lst true 1 (Is t_.t.s.fr), .lst true 1 (Is t_.t.s.to), .lst true 1 (Is t_.t.s.id), .lst true 1 (Ls t_.t.s.cs), .val (.int .i64 t_.t.t.n), .lst true 1 (Is t_.t.t.fr), .lst true 1 (Is t_.t.t.to), .lst true 1 (Is t_.t.t.id), .lst true 1 (Ls t_.t.t.cs), .lst true 1 (Is t_.t.ob), .lst true 1 (Is t_.t.ar), .lst true 1 (Is t_.p)]), (52, .lst true 1 (Is t_.p)), (53, .val (.int .i64 (t_.p.length : Int))), (54, .val (.int .i64 s18)), (55, .val (.bool (decide (s18 < (t_.p.length : Int)))))], [], 0⟩) (Wk.rel [] (by simp) (by simp) (by rw [hP]; simp) (by simp) (by simp) (by simp [Cat.cells, Ends.cells, Fn.cells, Tra.cells, Is_append, Is_one, Ls_append, Ls_one, Bs_append, Bs_one, Es_append, Es_one, Es_set', eB, eI, eL]) (by simp [hhOk, back, Cat.cells, Ends.cells, Fn.cells, Tra.cells, Is_append, Is_one, Ls_append, Ls_one, Bs_append, Bs_one, Es_append, Es_one, Es_set', eB, eI, eL])) ?_
   refine w_seq ?_
   refine w_cond rfl (fun g => ?_) fun g => ?_
   · have g19 : s18 < (t_.p.length : Int) := by first | simpa using g | (simp at g; exact g) | (simp at g; omega)
     clear g
     replace h := if_l g19 h
     refine w_skip ?_
     refine tn ?_
     refine w_seq ?_
     refine w_block ?_
     refine w_seq ?_
     refine w_run mo (by rw [hN]; decide) fun K hK => ?_
     replace h := ass_some h
     obtain ⟨a20, h⟩ := h
     simp [-guardE_b, -Is_at, -Is_at', -Ls_at, -Ls_at', eL, eI, allInts, eP_Cat, eP_Ends, eP_Fn, eP_Tra, Cat.cells, Ends.cells, Fn.cells, Tra.cells, at_I a20]
     repeat (with_reducible refine And.intro ?_ ?_; · first | assumption | omega | (simp; done) | (simp; omega) | simp_all)
     refine hK _ ?_
     clear hK K
     refine tn ?_
     refine w_weak (st' := ⟨[(3, .rptr [.val (.int .i64 t_.s.s.n), .lst true 1 (Is t_.s.s.fr), .lst true 1 (Is t_.s.s.to), .lst true 1 (Is t_.s.s.id), .lst true 1 (Ls t_.s.s.cs), .val (.int .i64 t_.s.t.n), .lst true 1 (Is t_.s.t.fr), .lst true 1 (Is t_.s.t.to), .lst true 1 (Is t_.s.t.id), .lst true 1 (Ls t_.s.t.cs), .lst true 1 (Is t_.s.ob), .lst true 1 (Is t_.s.ar), .val (.int .i64 t_.t.s.n), .lst true 1 (Is t_.t.s.fr), .lst true 1 (Is t_.t.s.to), .lst true 1 (Is t_.t.s.id), .lst true 1 (Ls t_.t.s.cs), .val (.int .i64 t_.t.t.n), .lst true 1 (Is t_.t.t.fr), .lst true 1 (Is t_.t.t.to), .lst true 1 (Is t_.t.t.id), .lst true 1 (Ls t_.t.t.cs), .lst true 1 (Is t_.t.ob), .lst true 1 (Is t_.t.ar), .lst true 1 (Is t_.p)]), (4, .rptr [.val (.int .i64 t_.t.s.n), .lst true 1 (Is t_.t.s.fr), .lst true 1 (Is t_.t.s.to), .lst true 1 (Is t_.t.s.id), .lst true 1 (Ls t_.t.s.cs), .val (.int .i64 t_.t.t.n), .lst true 1 (Is t_.t.t.fr), .lst true 1 (Is t_.t.t.to), .lst true 1 (Is t_.t.t.id), .lst true 1 (Ls t_.t.t.cs), .lst true 1 (Is t_.t.ob), .lst true 1 (Is t_.t.ar), .lst true 1 (Is t_.p)]), (5, .val (.int .i64 s18)), (6, .val (.int .i64 (ix t_.p s18))), (52, .lst true 1 (Is t_.p)), (53, .val (.int .i64 (t_.p.length : Int))), (54, .val (.int .i64 s18))], [], 0⟩) (Wk.rel [] (by simp) (by simp) (by rw [hP]; simp) (by simp) (by simp) (by simp [Cat.cells, Ends.cells, Fn.cells, Tra.cells, Is_append, Is_one, Ls_append, Ls_one, Bs_append, Bs_one, Es_append, Es_one, Es_set', eB, eI, eL]) (by simp [hhOk, back, Cat.cells, Ends.cells, Fn.cells, Tra.cells, Is_append, Is_one, Ls_append, Ls_one, Bs_append, Bs_one, Es_append, Es_one, Es_set', eB, eI, eL])) ?_
     refine w_seq ?_
     refine w_run mo (by rw [hN]; decide) fun K hK => ?_
     simp [-guardE_b, -Is_at, -Is_at', -Ls_at, -Ls_at', eL, eI, allInts, eP_Cat, eP_Ends, eP_Fn, eP_Tra, Cat.cells, Ends.cells, Fn.cells, Tra.cells]
     repeat (with_reducible refine And.intro ?_ ?_; · first | assumption | omega | (simp; done) | (simp; omega) | simp_all)
     replace h := bind_some h
     obtain ⟨v21, hv21, h⟩ := h
     refine callA_intro (w_i_Category_ends _ _ v21 hv21) (.cons (.preT (by simp [Cat.cells, Ends.cells, Fn.cells, Tra.cells])) (.cons .val .nil)) ?_
     replace h := ass_some h
     obtain ⟨a22, h⟩ := h
     replace h := ass_some h
     obtain ⟨a23, h⟩ := h
     simp [-guardE_b, -Is_at, -Is_at', -Ls_at, -Ls_at', unk, unA, unE, unT, unC, flat, eL, eI, allInts, eP_Cat, eP_Ends, eP_Fn, eP_Tra, Cat.cells, Ends.cells, Fn.cells, Tra.cells, at_I a22, at_I a23]
     repeat (with_reducible refine And.intro ?_ ?_; · first | assumption | omega | (simp; done) | (simp; omega) | simp_all)
     refine hK _ ?_
     clear hK K
     refine tn ?_
     refine w_weak (st' := ⟨[(3, .rptr [.val (.int .i64 t_.s.s.n), .lst true 1 (Is t_.s.s.fr), .lst true 1 (Is t_.s.s.to), .lst true 1 (Is t_.s.s.id), .lst true 1 (Ls t_.s.s.cs), .val (.int .i64 t_.s.t.n), .lst true 1 (Is t_.s.t.fr), .lst true 1 (Is t_.s.t.to), .lst true 1 (Is t_.s.t.id), .lst true 1 (Ls t_.s.t.cs), .lst true 1 (Is t_.s.ob), .lst true 1 (Is t_.s.ar), .val (.int .i64 t_.t.s.n), .lst true 1 (Is t_.t.s.fr), .lst true 1 (Is t_.t.s.to), .lst true 1 (Is t_.t.s.id), .lst true 1 (Ls t_.t.s.cs), .val (.int .i64 t_.t.t.n), .lst true 1 (Is t_.t.t.fr), .lst true 1 (Is t_.t.t.to), .lst true 1 (Is t_.t.t.id), .lst true 1 (Ls t_.t.t.cs), .lst true 1 (Is t_.t.ob), .lst true 1 (Is t_.t.ar), .lst true 1 (Is t_.p)]), (4, .rptr [.val (.int .i64 t_.t.s.n), .lst true 1 (Is t_.t.s.fr), .lst true 1 (Is t_.t.s.to), .lst true 1 (Is t_.t.s.id), .lst true 1 (Ls t_.t.s.cs), .val (.int .i64 t_.t.t.n), .lst true 1 (Is t_.t.t.fr), .lst true 1 (Is t_.t.t.to), .lst true 1 (Is t_.t.t.id), .lst true 1 (Ls t_.t.t.cs), .lst true 1 (Is t_.t.ob), .lst true 1 (Is t_.t.ar), .lst true 1 (Is t_.p)]), (52, .lst true 1 (Is t_.p)), (53, .val (.int .i64 (t_.p.length : Int))), (54, .val (.int .i64 s18)), (79, .val (.bool (!([v21.a, v21.b] == [ix t_.s.ob s18, ix t_.t.ob s18]))))], [], 0⟩) (Wk.rel [] (by simp) (by simp) (by rw [hP]; simp) (by simp) (by simp) (by simp [Cat.cells, Ends.cells, Fn.cells, Tra.cells, Is_append, Is_one, Ls_append, Ls_one, Bs_append, Bs_one, Es_append, Es_one, Es_set', eB, eI, eL]) (by simp [hhOk, back, Cat.cells, Ends.cells, Fn.cells, Tra.cells, Is_append, Is_one, Ls_append, Ls_one, Bs_append, Bs_one, Es_append, Es_one, Es_set', eB, eI, eL])) ?_
     refine w_cond rfl (fun g => ?_) fun g => ?_
     · have g24 : ¬ (v21.a = ix t_.s.ob s18 ∧ v21.b = ix t_.t.ob s18) := by first | simpa using g | (simp at g; exact g) | (simp at g; omega)
       clear g
       replace h := if_l g24 h
       refine w_seq ?_
       refine w_run mo (by rw [hN]; decide) fun K hK => ?_
       simp [-guardE_b, -Is_at, -Is_at', -Ls_at, -Ls_at', eL, eI, allInts, eP_Cat, eP_Ends, eP_Fn, eP_Tra, Cat.cells, Ends.cells, Fn.cells, Tra.cells]
       repeat (with_reducible refine And.intro ?_ ?_; · first | assumption | omega | (simp; done) | (simp; omega) | simp_all)
       refine hK _ ?_
       clear hK K
       refine tn ?_
       refine w_weak (st' := ⟨[(2, .val (.bool false))], [], 0⟩) (Wk.rel [] (by simp) (by simp) (by rw [hP]; simp) (by simp) (by simp) (by simp [Cat.cells, Ends.cells, Fn.cells, Tra.cells, Is_append, Is_one, Ls_append, Ls_one, Bs_append, Bs_one, Es_append, Es_one, Es_set', eB, eI, eL]) (by simp [hhOk, back, Cat.cells, Ends.cells, Fn.cells, Tra.cells, Is_append, Is_one, Ls_append, Ls_one, Bs_append, Bs_one, Es_append, Es_one, Es_set', eB, eI, eL])) ?_
       refine w_ret ?_
       refine br ?_
       refine tr ?_
       refine lr ?_
       refine br ?_
       refine tr ?_
       cases h
       have q : _ = e10 := hk18
       have h := h10
       rw [← q] at h
       clear q
       try dsimp only at h
       have hr := Option.some.inj h
       rw [← hr]
       refine ⟨_, (.tmp .nil), ?_⟩
       refine ⟨(.one rfl rfl .nil), [.val (.bool false)], [], by simp [Cat.cells, Ends.cells, Fn.cells, Tra.cells, Is_append, Is_one, Ls_append, Ls_one, Bs_append, Bs_one, Es_append, Es_one, Es_set', eB, eI, eL], by simp, (UpL.refl _)⟩
     have g24 : ¬ (¬ (v21.a = ix t_.s.ob s18 ∧ v21.b = ix t_.t.ob s18)) := by first | simpa using g | (simp at g; exact g) | (simp at g; omega)
     clear g
     replace h := if_r g24 h
     refine w_skip ?_
     refine bn ?_
     refine tn ?_
     refine w_run mo (by rw [hN]; decide) fun K hK => ?_
     replace h := ass_some h
     obtain ⟨a25, h⟩ := h
     simp [-guardE_b, -Is_at, -Is_at', -Ls_at, -Ls_at', eL, eI, allInts, eP_Cat, eP_Ends, eP_Fn, eP_Tra, Cat.cells, Ends.cells, Fn.cells, Tra.cells, wrap_id a25]
     repeat (with_reducible refine And.intro ?_ ?_; · first | assumption | omega | (simp; done) | (simp; omega) | simp_all)
     refine hK _ ?_
     clear hK K
     cases h
     exact rn (s' := s18 + 1) hk18 (Wk.rel [] (by simp) (by simp) (by rw [hP]; simp) (by simp) (by simp) (by simp [Cat.cells, Ends.cells, Fn.cells, Tra.cells, Is_append, Is_one, Ls_append, Ls_one, Bs_append, Bs_one, Es_append, Es_one, Es_set', eB, eI, eL]) (by simp [hhOk, back, Cat.cells, Ends.cells, Fn.cells, Tra.cells, Is_append, Is_one, Ls_append, Ls_one, Bs_append, Bs_one, Es_append, Es_one, Es_set', eB, eI, eL]))
   have g19 : ¬ (s18 < (t_.p.length : Int)) := by first | simpa using g | (simp at g; exact g) | (simp at g; omega)
   clear g
   replace h := if_r g19 h
   refine w_exit ?_
   refine tx ?_
   refine lx ?_
   refine bh ?_
   cases h
   exact jn (b := ()) hk18 (Wk.rel [] (by simp) (by simp) (by rw [hP]; simp) (by simp) (by simp) (by simp [Cat.cells, Ends.cells, Fn.cells, Tra.cells, Is_append, Is_one, Ls_append, Ls_one, Bs_append, Bs_one, Es_append, Es_one, Es_set', eB, eI, eL]) (by simp [hhOk, back, Cat.cells, Ends.cells, Fn.cells, Tra.cells, Is_append, Is_one, Ls_append, Ls_one, Bs_append, Bs_one, Es_append, Es_one, Es_set', eB, eI, eL]))
 intro b10 hb10
 have h := h10
 rw [← hb10] at h
 clear h10
 try dsimp only at h
 refine w_seq ?_
 refine w_run mo (by rw [hN]; decide) fun K hK => ?_
 simp [-guardE_b, -Is_at, -Is_at', -Ls_at, -Ls_at', eL, eI, allInts, eP_Cat, eP_Ends, eP_Fn, eP_Tra, Cat.cells, Ends.cells, Fn.cells, Tra.cells]
 repeat (with_reducible refine And.intro ?_ ?_; · first | assumption | omega | (simp; done) | (simp; omega) | simp_all)
 refine hK _ ?_
 clear hK K
 refine tn ?_
 refine w_weak (st' := ⟨[(2, .val (.bool true))], [], 0⟩) (Wk.rel [] (by simp) (by simp) (by rw [hP]; simp) (by simp) (by simp) (by simp [Cat.cells, Ends.cells, Fn.cells, Tra.cells, Is_append, Is_one, Ls_append, Ls_one, Bs_append, Bs_one, Es_append, Es_one, Es_set', eB, eI, eL]) (by simp [hhOk, back, Cat.cells, Ends.cells, Fn.cells, Tra.cells, Is_append, Is_one, Ls_append, Ls_one, Bs_append, Bs_one, Es_append, Es_one, Es_set', eB, eI, eL])) ?_
 refine w_ret ?_
 have hr := Option.some.inj h
 rw [← hr]
 refine ⟨_, (.tmp .nil), ?_⟩
 refine ⟨(.one rfl rfl .nil), [.val (.bool true)], [], by simp [Cat.cells, Ends.cells, Fn.cells, Tra.cells, Is_append, Is_one, Ls_append, Ls_one, Bs_append, Bs_one, Es_append, Es_one, Es_set', eB, eI, eL], by simp, (UpL.refl _)⟩
end Go.Vc.T

set_option maxRecDepth 100000
set_option linter.unusedSimpArgs false
set_option linter.unusedVariables false
namespace Go.Vc.T
open Go Go.Vc Go.Proofs
noncomputable def s_i_Transformation_isNatural (t_ : Tra) : Option Bool :=
 (
   (s_i_Transformation_isShape t_).bind fun v2 =>
   if v2 = true then
     (s_i_firstFailure__i_commutes t_).bind fun v4 =>
     some (decide (v4 < 0))
   else
     some false : Option (Bool)).bind fun b1 =>
 some b1
set_option maxHeartbeats 4000000 in
theorem w_i_Transformation_isNatural (t_ : Tra) (r : Bool) (h : s_i_Transformation_isNatural t_ = some r) : Contract Try.prog 88 [.rptr (t_.cells true)] (.val (.bool r)) := by
 refine contract_introG (rvs := [.tmp 2]) (rs := [.val (.bool r)]) Try.func88 rfl rfl rfl rfl (by simp [Try.f88]) fun F hN hP => ?_
 unfold s_i_Transformation_isNatural at h
 refine w_seq ?_
 refine w_run mo (by rw [hN]; decide) fun K hK => ?_
 simp [-guardE_b, -Is_at, -Is_at', -Ls_at, -Ls_at', eL, eI, allInts, eP_Tra, Tra.cells]
 repeat (with_reducible refine And.intro ?_ ?_; · first | assumption | omega | (simp; done) | (simp; omega) | simp_all)
 refine hK _ ?_
 clear hK K
 refine tn ?_
 refine w_weak (st' := ⟨[(0, .rptr [.val (.int .i64 t_.s.s.n), .lst true 1 (Is t_.s.s.fr), .lst true 1 (Is t_.s.s.to), .lst true 1 (Is t_.s.s.id), .lst true 1 (Ls t_.s.s.cs), .val (.int .i64 t_.s.t.n), .lst true 1 (Is t_.s.t.fr), .lst true 1 (Is t_.s.t.to), .lst true 1 (Is t_.s.t.id), .lst true 1 (Ls t_.s.t.cs), .lst true 1 (Is t_.s.ob), .lst true 1 (Is t_.s.ar), .val (.int .i64 t_.t.s.n), .lst true 1 (Is t_.t.s.fr), .lst true 1 (Is t_.t.s.to), .lst true 1 (Is t_.t.s.id), .lst true 1 (Ls t_.t.s.cs), .val (.int .i64 t_.t.t.n), .lst true 1 (Is t_.t.t.fr), .lst true 1 (Is t_.t.t.to), .lst true 1 (Is t_.t.t.id), .lst true 1 (Ls t_.t.t.cs), .lst true 1 (Is t_.t.ob), .lst true 1 (Is t_.t.ar), .lst true 1 (Is t_.p)])], [], 0⟩) (Wk.rel [] (by simp) (by simp) (by rw [hP]; simp) (by simp) (by simp) (by simp [Tra.cells, Is_append, Is_one, Ls_append, Ls_one, Bs_append, Bs_one, Es_append, Es_one, Es_set', eB, eI, eL]) (by simp [hhOk, back, Tra.cells, Is_append, Is_one, Ls_append, Ls_one, Bs_append, Bs_one, Es_append, Es_one, Es_set', eB, eI, eL])) ?_
 refine w_seq ?_
 replace h := bind_some h
 obtain ⟨e1, h, h1⟩ := h
 refine w_joinT (fun b1 : Bool => ⟨[(2, .val (.bool b1))], [], 0⟩) (fun b1 => b1 = e1) ?_ ?_
 · refine w_run mo (by rw [hN]; decide) fun K hK => ?_
   simp [-guardE_b, -Is_at, -Is_at', -Ls_at, -Ls_at', eL, eI, allInts, eP_Tra, Tra.cells]
   repeat (with_reducible refine And.intro ?_ ?_; · first | assumption | omega | (simp; done) | (simp; omega) | simp_all)
   replace h := bind_some h
   obtain ⟨v2, hv2, h⟩ := h
   refine callA_intro (w_i_Transformation_isShape _ v2 hv2) (.cons (.preT (by simp [Tra.cells])) .nil) ?_
   simp [-guardE_b, -Is_at, -Is_at', -Ls_at, -Ls_at', unk, unA, unE, unT, unC, flat, eL, eI, allInts, eP_Tra, Tra.cells]
   repeat (with_reducible refine And.intro ?_ ?_; · first | assumption | omega | (simp; done) | (simp; omega) | simp_all)
   refine guard_intro (fun g => ?_) (fun g => ?_)
   · have g3 : v2 = true := by first | simpa using g | (simp at g; exact g) | (simp at g; omega)
     clear g
     replace h := if_l g3 h
     simp [-guardE_b, -Is_at, -Is_at', -Ls_at, -Ls_at', eL, eI, allInts, eP_Tra, Tra.cells]
     repeat (with_reducible refine And.intro ?_ ?_; · first | assumption | omega | (simp; done) | (simp; omega) | simp_all)
     replace h := bind_some h
     obtain ⟨v4, hv4, h⟩ := h
     refine callA_intro (w_i_firstFailure__i_commutes _ v4 hv4) (.cons (.preT (by simp [Tra.cells])) (.cons (.fnL (by simp) .nil) .nil)) ?_
     simp [-guardE_b, -Is_at, -Is_at', -Ls_at, -Ls_at', unk, unA, unE, unT, unC, flat, eL, eI, allInts, eP_Tra, Tra.cells]
     repeat (with_reducible refine And.intro ?_ ?_; · first | assumption | omega | (simp; done) | (simp; omega) | simp_all)
     refine hK _ ?_
     exact jn (b := decide (v4 < 0)) (Option.some.inj h) (Wk.rel [] (by simp) (by simp) (by rw [hP]; simp) (by simp) (by simp) (by simp [Tra.cells, Is_append, Is_one, Ls_append, Ls_one, Bs_append, Bs_one, Es_append, Es_one, Es_set', eB, eI, eL]) (by simp [hhOk, back, Tra.cells, Is_append, Is_one, Ls_append, Ls_one, Bs_append, Bs_one, Es_append, Es_one, Es_set', eB, eI, eL]))
   have g3 : ¬ (v2 = true) := by first | simpa using g | (simp at g; exact g) | (simp at g; omega)
   clear g
   replace h := if_r g3 h
   simp [-guardE_b, -Is_at, -Is_at', -Ls_at, -Ls_at', eL, eI, allInts, eP_Tra, Tra.cells]
   repeat (with_reducible refine And.intro ?_ ?_; · first | assumption | omega | (simp; done) | (simp; omega) | simp_all)
   refine hK _ ?_
   exact jn (b := false) (Option.some.inj h) (Wk.rel [] (by simp) (by simp) (by rw [hP]; simp) (by simp) (by simp) (by simp [Tra.cells, Is_append, Is_one, Ls_append, Ls_one, Bs_append, Bs_one, Es_append, Es_one, Es_set', eB, eI, eL]) (by simp [hhOk, back, Tra.cells, Is_append, Is_one, Ls_append, Ls_one, Bs_append, Bs_one, Es_append, Es_one, Es_set', eB, eI, eL]))
 intro b1 hb1
 have h := h1
 rw [← hb1] at h
 clear h1
 try dsimp only at h
 refine w_ret ?_
 have hr := Option.some.inj h
 rw [← hr]
 refine ⟨_, (.tmp .nil), ?_⟩
 refine ⟨(.one rfl rfl .nil), [.val (.bool b1)], [], by simp [Tra.cells, Is_append, Is_one, Ls_append, Ls_one, Bs_append, Bs_one, Es_append, Es_one, Es_set', eB, eI, eL], by simp, (UpL.refl _)⟩
end Go.Vc.T

set_option maxRecDepth 100000
set_option linter.unusedSimpArgs false
set_option linter.unusedVariables false
namespace Go.Vc.T
open Go Go.Vc Go.Proofs
noncomputable def s_i_areNatural (list_ : List Tra) : Option Bool :=
 (loopF (σ := Int) (ε := Unit ⊕ Bool) (fun s7 =>
   if s7 < (list_.length : Int) then
     ass (0 ≤ s7 ∧ s7 < (list_.length : Int)) <|
     (s_i_Transformation_isNatural (gx list_ s7)).bind fun v10 =>
     if ¬ (v10 = true) then
       some (Ctl.ret (Sum.inr false))
     else
       ass (B64 (s7 + 1)) <|
       some (Ctl.next (s7 + 1))
   else
     some (Ctl.ret (Sum.inl ()))) fuel 0).bind fun e1 =>
 match e1 with
 | .inl b1 =>
   some true
 | .inr p1 =>
   some p1
set_option maxHeartbeats 4000000 in
theorem w_i_areNatural (list_ : List Tra) (r : Bool) (h : s_i_areNatural list_ = some r) : Contract Try.prog 178 [.lst true 1 (Es eP_Tra list_)] (.val (.bool r)) := by
 refine contract_introG (rvs := [.tmp 2]) (rs := [.val (.bool r)]) Try.func178 rfl rfl rfl rfl (by simp [Try.f178]) fun F hN hP => ?_
 unfold s_i_areNatural at h
 refine w_seq ?_
 refine w_run mo (by rw [hN]; decide) fun K hK => ?_
 simp [-guardE_b, -Is_at, -Is_at', -Ls_at, -Ls_at', eL, eI, allInts, eP_Tra, Tra.cells]
 repeat (with_reducible refine And.intro ?_ ?_; · first | assumption | omega | (simp; done) | (simp; omega) | simp_all)
 refine hK _ ?_
 clear hK K
 refine tn ?_
 refine w_weak (st' := ⟨[(0, .lst true 1 (Es eP_Tra list_))], [], 0⟩) (Wk.rel [] (by simp) (by simp) (by rw [hP]; simp) (by simp) (by simp) (by simp [Tra.cells, Is_append, Is_one, Ls_append, Ls_one, Bs_append, Bs_one, Es_append, Es_one, Es_set', eB, eI, eL]) (by simp [hhOk, back, Tra.cells, Is_append, Is_one, Ls_append, Ls_one, Bs_append, Bs_one, Es_append, Es_one, Es_set', eB, eI, eL])) ?_
 refine w_seq ?_
 refine w_seq ?_
 refine w_run mo (by rw [hN]; decide) fun K hK => ?_
 simp [-guardE_b, -Is_at, -Is_at', -Ls_at, -Ls_at', eL, eI, allInts, eP_Tra, Tra.cells]
 repeat (with_reducible refine And.intro ?_ ?_; · first | assumption | omega | (simp; done) | (simp; omega) | simp_all)
 refine hK _ ?_
 clear hK K
 refine tn ?_
 refine w_weak (st' := ⟨[(5, .lst true 1 (Es eP_Tra list_)), (6, .val (.int .i64 (list_.length : Int))), (7, .val (.int .i64 0))], [], 0⟩) (Wk.rel [] (by simp) (by simp) (by rw [hP]; simp) (by simp) (by simp) (by simp [Tra.cells, Is_append, Is_one, Ls_append, Ls_one, Bs_append, Bs_one, Es_append, Es_one, Es_set', eB, eI, eL]) (by simp [hhOk, back, Tra.cells, Is_append, Is_one, Ls_append, Ls_one, Bs_append, Bs_one, Es_append, Es_one, Es_set', eB, eI, eL])) ?_
 replace h := bind_some h
 obtain ⟨e1, h, h1⟩ := h
 refine w_joinT (fun b1 : Unit => ⟨[], [], 0⟩) (fun b1 => Sum.inl b1 = e1) ?_ ?_
 · refine w_block ?_
   refine w_loopF h (fun s7 : Int => ⟨[(5, .lst true 1 (Es eP_Tra list_)), (6, .val (.int .i64 (list_.length : Int))), (7, .val (.int .i64 s7))], [], 0⟩) (Wk.rel [] (by simp) (by simp) (by rw [hP]; simp) (by simp) (by simp) (by simp [Tra.cells, Is_append, Is_one, Ls_append, Ls_one, Bs_append, Bs_one, Es_append, Es_one, Es_set', eB, eI, eL]) (by simp [hhOk, back, Tra.cells, Is_append, Is_one, Ls_append, Ls_one, Bs_append, Bs_one, Es_append, Es_one, Es_set', eB, eI, eL])) ?_
   clear h
   intro k7 s7 c7 h hk7
   refine w_seq ?_
   refine w_run mo (by rw [hN]; decide) fun K hK => ?_
   simp [-guardE_b, -Is_at, -Is_at', -Ls_at, -Ls_at', eL, eI, allInts, eP_Tra, Tra.cells]
   repeat (with_reducible refine And.intro ?_ ?_; · first | assumption | omega | (simp; done) | (simp; omega) | simp_all)
   refine hK _ ?_
   clear hK K
   refine tn ?_
   refine w_weak (st' := ⟨[(5, .lst true 1 (Es eP_Tra list_)), (6, .val (.int .i64 (list_.length : Int))), (7, .val (.int .i64 s7)), (8, .val (.bool (decide (s7 < (list_.length : Int)))))], [], 0⟩) (Wk.rel [] (by simp) (by simp) (by rw [hP]; simp) (by simp) (by simp) (by simp [Tra.cells, Is_append, Is_one, Ls_append, Ls_one, Bs_append, Bs_one, Es_append, Es_one, Es_set', eB, eI, eL]) (by simp [hhOk, back, Tra.cells, Is_append, Is_one, Ls_append, Ls_one, Bs_append, Bs_one, Es_append, Es_one, Es_set', eB, eI, eL])) ?_
   refine w_seq ?_
   refine w_cond rfl (fun g => ?_) fun g => ?_
   · have g8 : s7 < (list_.length : Int) := by first | simpa using g | (simp at g; exact g) | (simp at g; omega)
     clear g
     replace h := if_l g8 h
     refine w_skip ?_
     refine tn ?_
     refine w_seq ?_
     refine w_block ?_
     refine w_seq ?_
     refine w_run mo (by rw [hN]; decide) fun K hK => ?_
     replace h := ass_some h
     obtain ⟨a9, h⟩ := h
     simp [-guardE_b, -Is_at, -Is_at', -Ls_at, -Ls_at', eL, eI, allInts, eP_Tra, Tra.cells, at_E (c := eP_Tra) a9]
     repeat (with_reducible refine And.intro ?_ ?_; · first | assumption | omega | (simp; done) | (simp; omega) | simp_all)
     refine hK _ ?_
     clear hK K
     refine tn ?_
     refine w_weak (st' := ⟨[(4, .rptr [.val (.int .i64 ((gx list_ s7).s.s.n)), .lst true 1 (Is ((gx list_ s7).s.s.fr)), .lst true 1 (Is ((gx list_ s7).s.s.to)), .lst true 1 (Is ((gx list_ s7).s.s.id)), .lst true 1 (Ls ((gx list_ s7).s.s.cs)), .val (.int .i64 ((gx list_ s7).s.t.n)), .lst true 1 (Is ((gx list_ s7).s.t.fr)), .lst true 1 (Is ((gx list_ s7).s.t.to)), .lst true 1 (Is ((gx list_ s7).s.t.id)), .lst true 1 (Ls ((gx list_ s7).s.t.cs)), .lst true 1 (Is ((gx list_ s7).s.ob)), .lst true 1 (Is ((gx list_ s7).s.ar)), .val (.int .i64 ((gx list_ s7).t.s.n)), .lst true 1 (Is ((gx list_ s7).t.s.fr)), .lst true 1 (Is ((gx list_ s7).t.s.to)), .lst true 1 (Is ((gx list_ s7).t.s.id)), .lst true 1 (Ls ((gx list_ s7).t.s.cs)), .val (.int .i64 ((gx list_ s7).t.t.n)), .lst true 1 (Is ((gx list_ s7).t.t.fr)), .lst true 1 (Is ((gx list_ s7).t.t.to)), .lst true 1 (Is ((gx list_ s7).t.t.id)), .lst true 1 (Ls ((gx list_ s7).t.t.cs)), .lst true 1 (Is ((gx list_ s7).t.ob)), .lst true 1 (Is ((gx list_ s7).t.ar)), .lst true 1 (Is ((gx list_ s7).p))]), (5, .lst true 1 (Es eP_Tra list_)), (6, .val (.int .i64 (list_.length : Int))), (7, .val (.int .i64 s7))], [], 0⟩) (Wk.rel [] (by simp) (by simp) (by rw [hP]; simp) (by simp) (by simp) (by simp [Tra.cells, Is_append, Is_one, Ls_append, Ls_one, Bs_append, Bs_one, Es_append, Es_one, Es_set', eB, eI, eL]) (by simp [hhOk, back, Tra.cells, Is_append, Is_one, Ls_append, Ls_one, Bs_append, Bs_one, Es_append, Es_one, Es_set', eB, eI, eL])) ?_
     refine w_seq ?_
     refine w_run mo (by rw [hN]; decide) fun K hK => ?_
     simp [-guardE_b, -Is_at, -Is_at', -Ls_at, -Ls_at', eL, eI, allInts, eP_Tra, Tra.cells]
     repeat (with_reducible refine And.intro ?_ ?_; · first | assumption | omega | (simp; done) | (simp; omega) | simp_all)
     replace h := bind_some h
     obtain ⟨v10, hv10, h⟩ := h
     refine callA_intro (w_i_Transformation_isNatural _ v10 hv10) (.cons (.preT (by simp [Tra.cells])) .nil) ?_
     simp [-guardE_b, -Is_at, -Is_at', -Ls_at, -Ls_at', unk, unA, unE, unT, unC, flat, eL, eI, allInts, eP_Tra, Tra.cells]
     repeat (with_reducible refine And.intro ?_ ?_; · first | assumption | omega | (simp; done) | (simp; omega) | simp_all)
     refine hK _ ?_
     clear hK K
     refine tn ?_
     refine w_weak (st' := ⟨[(5, .lst true 1 (Es eP_Tra list_)), (6, .val (.int .i64 (list_.length : Int))), (7, .val (.int .i64 s7)), (13, .val (.bool (!v10)))], [], 0⟩) (Wk.rel [] (by simp) (by simp) (by rw [hP]; simp) (by simp) (by simp) (by simp [Tra.cells, Is_append, Is_one, Ls_append, Ls_one, Bs_append, Bs_one, Es_append, Es_one, Es_set', eB, eI, eL]) (by simp [hhOk, back, Tra.cells, Is_append, Is_one, Ls_append, Ls_one, Bs_append, Bs_one, Es_append, Es_one, Es_set', eB, eI, eL])) ?_
     refine w_cond rfl (fun g => ?_) fun g => ?_
     · have g11 : ¬ (v10 = true) := by first | simpa using g | (simp at g; exact g) | (simp at g; omega)
       clear g
       replace h := if_l g11 h
       refine w_seq ?_
       refine w_run mo (by rw [hN]; decide) fun K hK => ?_
       simp [-guardE_b, -Is_at, -Is_at', -Ls_at, -Ls_at', eL, eI, allInts, eP_Tra, Tra.cells]
       repeat (with_reducible refine And.intro ?_ ?_; · first | assumption | omega | (simp; done) | (simp; omega) | simp_all)
       refine hK _ ?_
       clear hK K
       refine tn ?_
       refine w_weak (st' := ⟨[(2, .val (.bool false))], [], 0⟩) (Wk.rel [] (by simp) (by simp) (by rw [hP]; simp) (by simp) (by simp) (by simp [Tra.cells, Is_append, Is_one, Ls_append, Ls_one, Bs_append, Bs_one, Es_append, Es_one, Es_set', eB, eI, eL]) (by simp [hhOk, back, Tra.cells, Is_append, Is_one, Ls_append, Ls_one, Bs_append, Bs_one, Es_append, Es_one, Es_set', eB, eI, eL])) ?_
       refine w_ret ?_
       refine br ?_
       refine tr ?_
       refine lr ?_
       refine br ?_
       refine tr ?_
       cases h
       have q : _ = e1 := hk7
       have h := h1
       rw [← q] at h
       clear q
       try dsimp only at h
       have hr := Option.some.inj h
       rw [← hr]
       refine ⟨_, (.tmp .nil), ?_⟩
       refine ⟨(.one rfl rfl .nil), [.val (.bool false)], [], by simp [Tra.cells, Is_append, Is_one, Ls_append, Ls_one, Bs_append, Bs_one, Es_append, Es_one, Es_set', eB, eI, eL], by simp, (UpL.refl _)⟩
     have g11 : ¬ (¬ (v10 = true)) := by first | simpa using g | (simp at g; exact g) | (simp at g; omega)
     clear g
     replace h := if_r g11 h
     refine w_skip ?_
     refine bn ?_
     refine tn ?_
     refine w_run mo (by rw [hN]; decide) fun K hK => ?_
     replace h := ass_some h
     obtain ⟨a12, h⟩ := h
     simp [-guardE_b, -Is_at, -Is_at', -Ls_at, -Ls_at', eL, eI, allInts, eP_Tra, Tra.cells, wrap_id a12]
     repeat (with_reducible refine And.intro ?_ ?_; · first | assumption | omega | (simp; done) | (simp; omega) | simp_all)
     refine hK _ ?_
     clear hK K
     cases h
     exact rn (s' := s7 + 1) hk7 (Wk.rel [] (by simp) (by simp) (by rw [hP]; simp) (by simp) (by simp) (by simp [Tra.cells, Is_append, Is_one, Ls_append, Ls_one, Bs_append, Bs_one, Es_append, Es_one, Es_set', eB, eI, eL]) (by simp [hhOk, back, Tra.cells, Is_append, Is_one, Ls_append, Ls_one, Bs_append, Bs_one, Es_append, Es_one, Es_set', eB, eI, eL]))
   have g8 : ¬ (s7 < (list_.length : Int)) := by first | simpa using g | (simp at g; exact g) | (simp at g; omega)
   clear g
   replace h := if_r g8 h
   refine w_exit ?_
   refine tx ?_
   refine lx ?_
   refine bh ?_
   cases h
   exact jn (b := ()) hk7 (Wk.rel [] (by simp) (by simp) (by rw [hP]; simp) (by simp) (by simp) (by simp [Tra.cells, Is_append, Is_one, Ls_append, Ls_one, Bs_append, Bs_one, Es_append, Es_one, Es_set', eB, eI, eL]) (by simp [hhOk, back, Tra.cells, Is_append, Is_one, Ls_append, Ls_one, Bs_append, Bs_one, Es_append, Es_one, Es_set', eB, eI, eL]))
 intro b1 hb1
 have h := h1
 rw [← hb1] at h
 clear h1
 try dsimp only at h
 refine w_seq ?_
 refine w_run mo (by rw [hN]; decide) fun K hK => ?_
 simp [-guardE_b, -Is_at, -Is_at', -Ls_at, -Ls_at', eL, eI, allInts, eP_Tra, Tra.cells]
 repeat (with_reducible refine And.intro ?_ ?_; · first | assumption | omega | (simp; done) | (simp; omega) | simp_all)
 refine hK _ ?_
 clear hK K
 refine tn ?_
 refine w_weak (st' := ⟨[(2, .val (.bool true))], [], 0⟩) (Wk.rel [] (by simp) (by simp) (by rw [hP]; simp) (by simp) (by simp) (by simp [Tra.cells, Is_append, Is_one, Ls_append, Ls_one, Bs_append, Bs_one, Es_append, Es_one, Es_set', eB, eI, eL]) (by simp [hhOk, back, Tra.cells, Is_append, Is_one, Ls_append, Ls_one, Bs_append, Bs_one, Es_append, Es_one, Es_set', eB, eI, eL])) ?_
 refine w_ret ?_
 have hr := Option.some.inj h
 rw [← hr]
 refine ⟨_, (.tmp .nil), ?_⟩
 refine ⟨(.one rfl rfl .nil), [.val (.bool true)], [], by simp [Tra.cells, Is_append, Is_one, Ls_append, Ls_one, Bs_append, Bs_one, Es_append, Es_one, Es_set', eB, eI, eL], by simp, (UpL.refl _)⟩
end Go.Vc.T

set_option maxRecDepth 100000
set_option linter.unusedSimpArgs false
set_option linter.unusedVariables false
namespace Go.Vc.T
open Go Go.Vc Go.Proofs
structure NatT (f g : Fn) (p : List Int) : Prop where
 lp : p.length = f.ob.length
 bd : ∀ j : Nat, j < p.length → 0 ≤ ix p j ∧ ix p j < f.t.fr.length
 ends : ∀ x : Nat, x < p.length → ix f.t.fr (ix p x) = ix f.ob x ∧ ix f.t.to (ix p x) = ix g.ob x
 sq : ∀ a : Nat, a < f.s.fr.length → ix (rx f.t.cs (ix f.ar a)) (ix p (ix f.s.to a)) = ix (rx f.t.cs (ix p (ix f.s.fr a))) (ix g.ar a)
structure Para (f g : Fn) : Prop where
 hf : f.Is
 hg : g.Is
 s : f.s = g.s
 t : f.t = g.t
theorem Para.fact {f g : Fn} (h : Para f g) : f.ob.length = g.ob.length ∧ f.ar.length = g.ar.length ∧ f.ar.length = f.s.fr.length ∧ f.s.to.length = f.s.fr.length ∧ f.t.to.length = f.t.fr.length ∧ f.t.cs.length = f.t.fr.length ∧ f.ob.length = f.s.id.length ∧ f.ob.length ≤ 8 ∧ f.s.fr.length ≤ 40 ∧ f.t.fr.length ≤ 40 := by
 have h1 := h.hf.lo
 have h2 := h.hg.lo
 have h3 := h.hf.la
 have h4 := h.hg.la
 rw [← h.s] at h2 h4
 have h5 := h.hf.s.1.li
 exact ⟨by omega, by omega, h3, h.hf.s.1.lt, h.hf.t.1.lt, h.hf.t.1.lc, by omega, h.hf.lob, h.hf.s.1.m40, h.hf.t.1.m40⟩
theorem Para.sqok {f g : Fn} (h : Para f g) {p : List Int} (lp : p.length = f.ob.length) (bd : ∀ j : Nat, j < p.length → 0 ≤ ix p j ∧ ix p j < f.t.fr.length) {a : Nat} (ha : a < f.s.fr.length) :
   (0 ≤ ix f.ar a ∧ ix f.ar a < f.t.fr.length) ∧ (0 ≤ ix g.ar a ∧ ix g.ar a < f.t.fr.length) ∧ (0 ≤ ix f.s.to a ∧ ix f.s.to a < p.length) ∧ (0 ≤ ix f.s.fr a ∧ ix f.s.fr a < p.length) ∧
   (0 ≤ ix p (ix f.s.to a) ∧ ix p (ix f.s.to a) < f.t.fr.length) ∧ (0 ≤ ix p (ix f.s.fr a) ∧ ix p (ix f.s.fr a) < f.t.fr.length) ∧ (rx f.t.cs (ix f.ar a)).length = f.t.fr.length ∧ (rx f.t.cs (ix p (ix f.s.fr a))).length = f.t.fr.length := by
 obtain ⟨k1, k2, k3, k4, k5, k6, k7, k8, k9, k10⟩ := h.fact
 have h1 := h.hf.ar a (by omega)
 have h2 := h.hg.ar a (by omega)
 rw [← h.t] at h2
 have h3 := h.hf.s.1.frn ha
 have h4 := ix_bnd bd (j := ix f.s.to a) (by omega) (by omega)
 have h5 := ix_bnd bd (j := ix f.s.fr a) (by omega) (by omega)
 exact ⟨h1, h2, by omega, by omega, h4, h5, h.hf.t.1.row' (by omega) (by omega), h.hf.t.1.row' (by omega) (by omega)⟩
theorem e_l02Then {c : Cat} {f g : Int} (h0 : 0 ≤ f ∧ f < (c.cs.length : Int)) (h1 : 0 ≤ g ∧ g < ((rx c.cs f).length : Int)) : s_s_l02Then c f g = some (ix (rx c.cs f) g) := by
 unfold s_s_l02Then
 rw [ass_pos h0, ass_pos h1]
theorem e_Cthen {c : Cat} {f g : Int} (h0 : 0 ≤ f ∧ f < (c.cs.length : Int)) (h1 : 0 ≤ g ∧ g < ((rx c.cs f).length : Int)) : s_i_Category_then c f g = some (ix (rx c.cs f) g) := by
 unfold s_i_Category_then
 rw [ass_pos h0.1, ass_pos h0.2, ass_pos h1.1, ass_pos h1.2]
theorem e_l15Natural {f g : Fn} (h : Para f g) (p : List Int) : s_s_l15Natural f g p = some (bo (NatT f g p)) := by
 obtain ⟨k1, k2, k3, k4, k5, k6, k7, k8, k9, k10⟩ := h.fact
 unfold s_s_l15Natural
 by_cases h1 : (p.length : Int) = f.ob.length
 case neg => rw [bo_neg (show ¬ NatT f g p from fun q => h1 (by rw [q.lp]))]; simp [h1]
 by_cases h2 : p.all (inR f.t.fr.length) = true
 case neg => rw [bo_neg (show ¬ NatT f g p from fun q => h2 (all_inR.2 q.bd))]; simp [s_s_l01Map, h1, h2]
 have bd := all_inR.1 h2
 simp only [s_s_l01Map, h1, h2, not_true_eq_false, if_false, Option.bind_some, Bool.not_true, Bool.false_eq_true]
 refine chk_bind p.length (fun x : Nat => ix f.t.fr (ix p x) = ix f.ob x ∧ ix f.t.to (ix p x) = ix g.ob x) (eb := Sum.inr false) (eg := Sum.inl ()) (by omega) (fun a hi hp => ?_) (fun a hi hp => ?_) (by simp; omega) (fun hx => ?_) fun q1 => ?_
 · have := bd a hi
   simp (disch := omega) [ass_pos, B64, hp.1, hp.2]; omega
 · have := bd a hi
   by_cases hp1 : ix f.t.fr (ix p a) = ix f.ob a
   · have hp2 : ¬ ix f.t.to (ix p a) = ix g.ob a := fun q => hp ⟨hp1, q⟩
     simp (disch := omega) [ass_pos, B64, hp1, hp2]; omega
   simp (disch := omega) [ass_pos, B64, hp1]; omega
 · rw [bo_neg (show ¬ NatT f g p from fun q => hx q.ends)]
 simp only
 refine chk_bind f.s.fr.length (fun a : Nat => ix (rx f.t.cs (ix f.ar a)) (ix p (ix f.s.to a)) = ix (rx f.t.cs (ix p (ix f.s.fr a))) (ix g.ar a)) (eb := Sum.inr false) (eg := Sum.inl ()) (by omega) (fun a hi hp => ?_) (fun a hi hp => ?_) (by simp) (fun hx => ?_) fun q2 => ?_
 · obtain ⟨m1, m2, m3, m4, m5, m6, m7, m8⟩ := h.sqok (by omega) bd hi
   simp (disch := omega) [ass_pos, B64, e_l02Then, hp, hi]
 · obtain ⟨m1, m2, m3, m4, m5, m6, m7, m8⟩ := h.sqok (by omega) bd hi
   simp (disch := omega) [ass_pos, B64, e_l02Then, hp, hi]
 · rw [bo_neg (show ¬ NatT f g p from fun q => hx q.sq)]
 rw [bo_pos (show NatT f g p from ⟨by omega, bd, q1, q2⟩)]
structure Tra.Is (t : Tra) : Prop where
 p : Para t.s t.t
 n : NatT t.s t.t t.p
theorem e_fits {f : Fn} (h1 : f.s.Is) (h2 : f.t.Is) : s_i_Functor_fits f = some (bo f.Is) := by
 have hs := h1.1
 have ht := h2.1
 have k0 := hs.n0
 have k1 := hs.n8
 have k2 := hs.m40
 have k3 := hs.li
 have k4 := hs.lt
 have k5 := hs.lc
 have k6 := ht.li
 have k7 := ht.lt
 have k8 := ht.lc
 have k9 := ht.m40
 have k10 := ht.n0
 have k11 := ht.n8
 have b1 : B64 (f.t.n - 1) := ⟨by omega, by omega⟩
 have b2 : B64 ((f.t.fr.length : Int) - 1) := ⟨by omega, by omega⟩
 unfold s_i_Functor_fits
 by_cases h3 : (f.ob.length : Int) = f.s.n
 case neg => rw [bo_neg (show ¬ f.Is from fun q => h3 q.lo)]; simp [h3]
 by_cases h4 : (f.ar.length : Int) = f.s.fr.length
 case neg => rw [bo_neg (show ¬ f.Is from fun q => h4 (by rw [q.la]))]; simp [s_i_Category_arrows, h3, h4]
 by_cases h5 : f.ob.all (inR f.t.n) = true
 case neg => rw [bo_neg (show ¬ f.Is from fun q => h5 (all_inR.2 q.ob))]; simp [s_i_Category_arrows, s_i_within, ass_pos b1, h3, h4, h5]
 by_cases h6 : f.ar.all (inR f.t.fr.length) = true
 case neg => rw [bo_neg (show ¬ f.Is from fun q => h6 (all_inR.2 q.ar))]; simp [s_i_Category_arrows, s_i_within, ass_pos b1, ass_pos b2, h3, h4, h5, h6]
 have ho := all_inR.1 h5
 have ha := all_inR.1 h6
 simp only [s_i_Category_arrows, s_i_within, ass_pos b1, ass_pos b2, h3, h4, h5, h6, Option.bind_some, if_true, if_false, not_true_eq_false, Bool.not_true, Bool.false_eq_true]
 refine chk_bind f.s.fr.length (fun a : Nat => ix f.t.fr (ix f.ar a) = ix f.ob (ix f.s.fr a) ∧ ix f.t.to (ix f.ar a) = ix f.ob (ix f.s.to a)) (eb := Sum.inr false) (eg := Sum.inl ()) (by omega) (fun a hi hp => ?_) (fun a hi hp => ?_) (by simp) (fun hx => ?_) fun q1 => ?_
 · have := hs.frn hi
   have := ha a (by omega)
   simp (disch := omega) [ass_pos, B64, hp.1, hp.2, hi]
 · have := hs.frn hi
   have := ha a (by omega)
   by_cases hp1 : ix f.t.fr (ix f.ar a) = ix f.ob (ix f.s.fr a)
   · have hp2 : ¬ ix f.t.to (ix f.ar a) = ix f.ob (ix f.s.to a) := fun h => hp ⟨hp1, h⟩
     simp (disch := omega) [ass_pos, B64, hp1, hp2, hi]
   simp (disch := omega) [ass_pos, B64, hp1, hi]
 · rw [bo_neg (show ¬ f.Is from fun q => hx q.ends)]
 simp only
 refine chk_bind f.s.id.length (fun x : Nat => ix f.ar (ix f.s.id x) = ix f.t.id (ix f.ob x)) (eb := Sum.inr false) (eg := Sum.inl ()) (by omega) (fun a hi hp => ?_) (fun a hi hp => ?_) (by simp) (fun hx => ?_) fun q2 => ?_
 · have := hs.idn hi
   have := ho a (by omega)
   simp (disch := omega) [ass_pos, B64, hp, hi]
 · have := hs.idn hi
   have := ho a (by omega)
   simp (disch := omega) [ass_pos, B64, hp, hi]
 · rw [bo_neg (show ¬ f.Is from fun q => hx q.ids)]
 simp only
 refine chk_bind f.s.fr.length (fun a : Nat => ∀ b : Nat, b < f.s.fr.length → ix f.s.to a = ix f.s.fr b → ix f.ar (ix (rx f.s.cs a) b) = ix (rx f.t.cs (ix f.ar a)) (ix f.ar b)) (eb := Sum.inr false) (eg := Sum.inl ()) (by omega) (fun a hi hp => ?_) (fun a hi hp => ?_) (by simp; omega) (fun hx => ?_) fun q3 => ?_
 rotate_left 2
 · rw [bo_neg (show ¬ f.Is from fun q => hx q.comp)]
 · rw [bo_pos (show f.Is from ⟨h1, h2, h3, by omega, ho, ha, q1, q2, q3⟩)]
 all_goals
   have h8 := ha a (by omega)
   have h11 := hs.row' (j := a) (by omega) (by omega)
   have h12 := ht.row' (j := ix f.ar a) (by omega) (by omega)
   rw [if_pos (by omega), ass_pos (by omega), Option.bind_assoc]
   refine chk_bind f.s.fr.length (fun b : Nat => ix f.s.to a = ix f.s.fr b → ix f.ar (ix (rx f.s.cs a) b) = ix (rx f.t.cs (ix f.ar a)) (ix f.ar b)) (eb := Sum.inl false) (eg := Sum.inr ()) (by omega) (fun b hb hq => ?_) (fun b hb hq => ?_) ?_ (fun hn => ?_) fun hn => ?_
 all_goals first
   | exact absurd hp hn
   | exact absurd hn hp
   | (simp (disch := omega) [ass_pos, B64, h11]; done)
   | skip
 all_goals
   have h13 := ha b (by omega)
   have h16 := hs.cell' (f := a) (g := b) (by omega) (by omega) (by omega) (by omega)
   by_cases h14 : ix f.s.to a = ix f.s.fr b
   · have h15 := hs.cmp (f := a) (g := b) (by omega) (by omega) (by omega) (by omega) h14
     have h17 : ix (rx f.s.cs a) b ≥ 0 := h15.1
     first
       | (have hq1 := hq h14; simp (disch := omega) [ass_pos, B64, e_Cthen, h14, hq1, hb, h11, h17]; done)
       | (have hq1 := fun e => hq (fun _ => e); simp (disch := omega) [ass_pos, B64, e_Cthen, h14, hq1, hb, h11, h17]; exact hq1)
   have h17 := h16.1 h14
   first
     | (simp (disch := omega) [ass_pos, B64, h14, hb, h11, h17]; done)
     | exact absurd (fun e => absurd e h14) hq
theorem gx_nat {α : Type} [Inhabited α] (xs : List α) {i : Nat} (h : i < xs.length) : gx xs i = xs[i] := by simp [gx, List.getD_eq_getElem?_getD, h]
theorem e_areCats (cs : List Cat) (hl : cs.length ≤ 1048576) : s_i_areCategories cs = some (bo (∀ c ∈ cs, c.Is)) := by
 unfold s_i_areCategories
 refine chk_bind cs.length (fun i : Nat => (gx cs i).Is) (eb := Sum.inr false) (eg := Sum.inl ()) (by omega) (fun a hi hp => ?_) (fun a hi hp => ?_) (by simp) (fun hx => ?_) fun q1 => ?_
 · simp (disch := omega) [ass_pos, B64, s_i_Category_isCategory, bo_pos hp, hi]
 · simp (disch := omega) [ass_pos, B64, s_i_Category_isCategory, bo_neg hp, hi]
 · rw [bo_neg (show ¬ ∀ c ∈ cs, c.Is from fun q => hx fun i hi => q _ (by rw [gx_nat _ hi]; exact List.getElem_mem hi))]
 rw [bo_pos (show ∀ c ∈ cs, c.Is from fun c hc => by obtain ⟨i, hi, rfl⟩ := List.getElem_of_mem hc; have := q1 i hi; rwa [gx_nat _ hi] at this)]
theorem e_isFunctor (f : Fn) : s_i_Functor_isFunctor f = some (bo f.Is) := by
 unfold s_i_Functor_isFunctor
 rw [e_areCats _ (by simp)]
 by_cases h : f.s.Is ∧ f.t.Is
 · rw [bo_pos (show ∀ c ∈ [f.s, f.t], c.Is by simpa using h)]
   simp [e_fits h.1 h.2]
 rw [bo_neg (show ¬ ∀ c ∈ [f.s, f.t], c.Is by simpa using h), bo_neg (show ¬ f.Is from fun q => h ⟨q.s, q.t⟩)]
 simp
theorem e_areFunctors (fs : List Fn) (hl : fs.length ≤ 1048576) : s_i_areFunctors fs = some (bo (∀ f ∈ fs, f.Is)) := by
 unfold s_i_areFunctors
 refine chk_bind fs.length (fun i : Nat => (gx fs i).Is) (eb := Sum.inr false) (eg := Sum.inl ()) (by omega) (fun a hi hp => ?_) (fun a hi hp => ?_) (by simp) (fun hx => ?_) fun q1 => ?_
 · simp (disch := omega) [ass_pos, B64, e_isFunctor, bo_pos hp, hi]
 · simp (disch := omega) [ass_pos, B64, e_isFunctor, bo_neg hp, hi]
 · rw [bo_neg (show ¬ ∀ c ∈ fs, c.Is from fun q => hx fun i hi => q _ (by rw [gx_nat _ hi]; exact List.getElem_mem hi))]
 rw [bo_pos (show ∀ c ∈ fs, c.Is from fun c hc => by obtain ⟨i, hi, rfl⟩ := List.getElem_of_mem hc; have := q1 i hi; rwa [gx_nat _ hi] at this)]
theorem Cat.Is.lcs {c : Cat} (h : c.Is) : c.cs.length ≤ 1048576 := by have := h.1.lc; have := h.1.m40; omega
theorem e_sameCat {c d : Cat} (h : c.Is) : s_i_sameCategory c d = some (bo (c = d)) := by
 unfold s_i_sameCategory
 rw [ass_pos h.lcs]
theorem e_parallel {f g : Fn} (hf : f.Is) : s_i_parallelFunctors f g = some (bo (f.s = g.s ∧ f.t = g.t)) := by
 unfold s_i_parallelFunctors
 rw [e_sameCat hf.s, e_sameCat hf.t]
 by_cases h1 : f.s = g.s <;> by_cases h2 : f.t = g.t <;> simp [bo, h1, h2]
theorem e_commutes {f g : Fn} (h : Para f g) {p : List Int} (lp : p.length = f.ob.length) (bd : ∀ j : Nat, j < p.length → 0 ≤ ix p j ∧ ix p j < f.t.fr.length) {a : Nat} (ha : a < f.s.fr.length) :
   s_i_commutes f g p a = some (bo (ix (rx f.t.cs (ix f.ar a)) (ix p (ix f.s.to a)) = ix (rx f.t.cs (ix p (ix f.s.fr a))) (ix g.ar a))) := by
 obtain ⟨k1, k2, k3, k4, k5, k6, k7, k8, k9, k10⟩ := h.fact
 obtain ⟨m1, m2, m3, m4, m5, m6, m7, m8⟩ := h.sqok lp bd ha
 unfold s_i_commutes
 by_cases hq : ix (rx f.t.cs (ix f.ar a)) (ix p (ix f.s.to a)) = ix (rx f.t.cs (ix p (ix f.s.fr a))) (ix g.ar a) <;> simp (disch := omega) [ass_pos, e_Cthen, hq, bo]
theorem e_firstFail {f g : Fn} (h : Para f g) {p : List Int} (lp : p.length = f.ob.length) (bd : ∀ j : Nat, j < p.length → 0 ≤ ix p j ∧ ix p j < f.t.fr.length) :
   ∃ v, s_i_firstFailure__i_commutes ⟨f, g, p⟩ = some v ∧ (v < 0 ↔ ∀ a : Nat, a < f.s.fr.length → ix (rx f.t.cs (ix f.ar a)) (ix p (ix f.s.to a)) = ix (rx f.t.cs (ix p (ix f.s.fr a))) (ix g.ar a)) := by
 obtain ⟨k1, k2, k3, k4, k5, k6, k7, k8, k9, k10⟩ := h.fact
 unfold s_i_firstFailure__i_commutes
 rcases loop_fst (body := fun s6 : Int => if s6 < (f.ar.length : Int) then (s_i_commutes f g p s6).bind fun v8 => if ¬ (v8 = true) then some (Ctl.ret (Sum.inr s6)) else ass (B64 (s6 + 1)) <| some (Ctl.next (s6 + 1)) else some (Ctl.ret (Sum.inl ()))) (ε := Unit ⊕ Int)
     f.s.fr.length (fun a : Nat => ix (rx f.t.cs (ix f.ar a)) (ix p (ix f.s.to a)) = ix (rx f.t.cs (ix p (ix f.s.fr a))) (ix g.ar a)) (eb := fun i => Sum.inr (i : Int)) (eg := Sum.inl ()) (by omega)
     (fun a hi hp => by simp (disch := omega) [ass_pos, B64, e_commutes h lp bd hi, hp, bo]; omega) (fun a hi hp => by simp (disch := omega) [ass_pos, B64, e_commutes h lp bd hi, hp, bo]; omega) (by simp; omega) with ⟨h1, h2⟩ | ⟨m, h1, h2, h3, h4⟩
 · refine ⟨-1, ?_, by simpa using h1⟩
   simp only
   rw [h2]; rfl
 refine ⟨m, ?_, ⟨fun q => by omega, fun q => absurd (q m h1) h2⟩⟩
 simp only
 rw [h4]; rfl
theorem e_Tshape (t : Tra) : s_i_Transformation_isShape t = some (bo (Para t.s t.t ∧ t.p.length = t.s.ob.length ∧ (∀ j : Nat, j < t.p.length → 0 ≤ ix t.p j ∧ ix t.p j < t.s.t.fr.length) ∧ ∀ x : Nat, x < t.p.length → ix t.s.t.fr (ix t.p x) = ix t.s.ob x ∧ ix t.s.t.to (ix t.p x) = ix t.t.ob x)) := by
 unfold s_i_Transformation_isShape
 rw [e_areFunctors _ (by simp)]
 by_cases h : t.s.Is ∧ t.t.Is
 case neg => rw [bo_neg (show ¬ ∀ c ∈ [t.s, t.t], c.Is by simpa using h), bo_neg (fun q => h ⟨q.1.hf, q.1.hg⟩)]; simp
 rw [bo_pos (show ∀ c ∈ [t.s, t.t], c.Is by simpa using h)]
 obtain ⟨hf, hg⟩ := h
 rw [e_parallel hf]
 by_cases h : t.s.s = t.t.s ∧ t.s.t = t.t.t
 case neg => rw [bo_neg h, bo_neg (fun q => h ⟨q.1.s, q.1.t⟩)]; simp
 rw [bo_pos h]
 have hP : Para t.s t.t := ⟨hf, hg, h.1, h.2⟩
 obtain ⟨k1, k2, k3, k4, k5, k6, k7, k8, k9, k10⟩ := hP.fact
 have lo := hf.lo
 have b2 : B64 ((t.s.t.fr.length : Int) - 1) := ⟨by omega, by omega⟩
 by_cases h1 : (t.p.length : Int) = t.s.s.n
 case neg => rw [bo_neg (fun q => h1 (by rw [q.2.1, lo]))]; simp [h1]
 by_cases h2 : t.p.all (inR t.s.t.fr.length) = true
 case neg => rw [bo_neg (fun q => h2 (all_inR.2 q.2.2.1))]; simp [s_i_Category_arrows, s_i_within, ass_pos b2, h1, h2]
 have bd := all_inR.1 h2
 simp only [s_i_Category_arrows, s_i_within, ass_pos b2, h1, h2, not_true_eq_false, if_false, Option.bind_some, Bool.not_true, Bool.false_eq_true]
 refine chk_bind t.p.length (fun x : Nat => ix t.s.t.fr (ix t.p x) = ix t.s.ob x ∧ ix t.s.t.to (ix t.p x) = ix t.t.ob x) (eb := Sum.inr false) (eg := Sum.inl ()) (by omega) (fun a hi hp => ?_) (fun a hi hp => ?_) (by simp; try omega) (fun hx => ?_) fun q1 => ?_
 · have := bd a hi
   simp (disch := omega) [ass_pos, B64, s_i_Category_ends, hp.1, hp.2]; omega
 · have := bd a hi
   by_cases hp1 : ix t.s.t.fr (ix t.p a) = ix t.s.ob a
   · have hp2 : ¬ ix t.s.t.to (ix t.p a) = ix t.t.ob a := fun q => hp ⟨hp1, q⟩
     simp (disch := omega) [ass_pos, B64, s_i_Category_ends, hp1, hp2]; try omega
   simp (disch := omega) [ass_pos, B64, s_i_Category_ends, hp1]; try omega
 · rw [bo_neg (fun q => hx q.2.2.2)]
 rw [bo_pos ⟨hP, by omega, bd, q1⟩]
theorem e_isNatural (t : Tra) : s_i_Transformation_isNatural t = some (bo t.Is) := by
 unfold s_i_Transformation_isNatural
 rw [e_Tshape]
 by_cases h : Para t.s t.t ∧ t.p.length = t.s.ob.length ∧ (∀ j : Nat, j < t.p.length → 0 ≤ ix t.p j ∧ ix t.p j < t.s.t.fr.length) ∧ ∀ x : Nat, x < t.p.length → ix t.s.t.fr (ix t.p x) = ix t.s.ob x ∧ ix t.s.t.to (ix t.p x) = ix t.t.ob x
 case neg => rw [bo_neg h, bo_neg (show ¬ t.Is from fun q => h ⟨q.p, q.n.lp, q.n.bd, q.n.ends⟩)]; simp
 rw [bo_pos h]
 obtain ⟨hP, lp, bd, en⟩ := h
 obtain ⟨v, hv, hiff⟩ := e_firstFail hP lp bd
 have hv' : s_i_firstFailure__i_commutes t = some v := hv
 by_cases hn : v < 0
 · rw [bo_pos (show t.Is from ⟨hP, lp, bd, en, hiff.1 hn⟩)]; simp [hv', hn]
 rw [bo_neg (show ¬ t.Is from fun q => hn (hiff.2 q.n.sq))]; simp [hv', hn]
theorem e_areNatural (ts : List Tra) (hl : ts.length ≤ 1048576) : s_i_areNatural ts = some (bo (∀ t ∈ ts, t.Is)) := by
 unfold s_i_areNatural
 refine chk_bind ts.length (fun i : Nat => (gx ts i).Is) (eb := Sum.inr false) (eg := Sum.inl ()) (by omega) (fun a hi hp => ?_) (fun a hi hp => ?_) (by simp) (fun hx => ?_) fun q1 => ?_
 · simp (disch := omega) [ass_pos, B64, e_isNatural, bo_pos hp, hi]
 · simp (disch := omega) [ass_pos, B64, e_isNatural, bo_neg hp, hi]
 · rw [bo_neg (show ¬ ∀ c ∈ ts, c.Is from fun q => hx fun i hi => q _ (by rw [gx_nat _ hi]; exact List.getElem_mem hi))]
 rw [bo_pos (show ∀ c ∈ ts, c.Is from fun c hc => by obtain ⟨i, hi, rfl⟩ := List.getElem_of_mem hc; have := q1 i hi; rwa [gx_nat _ hi] at this)]
end Go.Vc.T

set_option maxRecDepth 100000
set_option linter.unusedSimpArgs false
set_option linter.unusedVariables false
namespace Go.Vc.T
open Go Go.Vc Go.Proofs
noncomputable def s_i_Adjunction_fits (a_ : Adj) : Option Bool :=
 (s_i_Functor_then a_.l a_.r).bind fun v1 =>
 (s_i_Functor_then a_.r a_.l).bind fun v2 =>
 (s_i_identity a_.l.s).bind fun v3 =>
 (s_i_identity a_.l.t).bind fun v4 =>
 (s_i_areNatural [(⟨v3, v1, a_.u⟩ : Tra), (⟨v2, v4, a_.k⟩ : Tra)]).bind fun v5 =>
 if ¬ (v5 = true) then
   some false
 else
   (loopF (σ := Int) (ε := Unit ⊕ Bool) (fun s17 =>
     if s17 < (a_.l.ob.length : Int) then
       ass (0 ≤ s17 ∧ s17 < (a_.l.ob.length : Int)) <|
       ass (0 ≤ s17 ∧ s17 < (a_.u.length : Int)) <|
       ass (0 ≤ ix a_.u s17 ∧ ix a_.u s17 < (a_.l.ar.length : Int)) <|
       ass (0 ≤ ix a_.l.ob s17 ∧ ix a_.l.ob s17 < (a_.k.length : Int)) <|
       (s_i_Category_then a_.l.t (ix a_.l.ar (ix a_.u s17)) (ix a_.k (ix a_.l.ob s17))).bind fun v23 =>
       ass (0 ≤ ix a_.l.ob s17 ∧ ix a_.l.ob s17 < (a_.l.t.id.length : Int)) <|
       if ¬ (v23 = (ix a_.l.t.id (ix a_.l.ob s17))) then
         some (Ctl.ret (Sum.inr false))
       else
         ass (B64 (s17 + 1)) <|
         some (Ctl.next (s17 + 1))
     else
       some (Ctl.ret (Sum.inl ()))) fuel 0).bind fun e7 =>
   match e7 with
   | .inl b7 =>
     (loopF (σ := Int) (ε := Unit ⊕ Bool) (fun s37 =>
       if s37 < (a_.r.ob.length : Int) then
         ass (0 ≤ s37 ∧ s37 < (a_.r.ob.length : Int)) <|
         ass (0 ≤ ix a_.r.ob s37 ∧ ix a_.r.ob s37 < (a_.u.length : Int)) <|
         ass (0 ≤ s37 ∧ s37 < (a_.k.length : Int)) <|
         ass (0 ≤ ix a_.k s37 ∧ ix a_.k s37 < (a_.r.ar.length : Int)) <|
         (s_i_Category_then a_.l.s (ix a_.u (ix a_.r.ob s37)) (ix a_.r.ar (ix a_.k s37))).bind fun v43 =>
         ass (0 ≤ ix a_.r.ob s37 ∧ ix a_.r.ob s37 < (a_.l.s.id.length : Int)) <|
         if ¬ (v43 = (ix a_.l.s.id (ix a_.r.ob s37))) then
           some (Ctl.ret (Sum.inr false))
         else
           ass (B64 (s37 + 1)) <|
           some (Ctl.next (s37 + 1))
       else
         some (Ctl.ret (Sum.inl ()))) fuel 0).bind fun e27 =>
     match e27 with
     | .inl b27 =>
       some true
     | .inr p27 =>
       some p27
   | .inr p7 =>
     some p7
set_option maxHeartbeats 4000000 in
theorem w_i_Adjunction_fits (a_ : Adj) (r : Bool) (h : s_i_Adjunction_fits a_ = some r) : Contract Try.prog 174 [.rptr (a_.cells true)] (.val (.bool r)) := by
 refine contract_introG (rvs := [.tmp 2]) (rs := [.val (.bool r)]) Try.func174 rfl rfl rfl rfl (by simp [Try.f174]) fun F hN hP => ?_
 unfold s_i_Adjunction_fits at h
 refine w_seq ?_
 refine w_run mo (by rw [hN]; decide) fun K hK => ?_
 simp [-guardE_b, -Is_at, -Is_at', -Ls_at, -Ls_at', eL, eI, allInts, eP_Adj, eP_Cat, eP_Fn, eP_Tra, Adj.cells, Cat.cells, Fn.cells, Tra.cells]
 repeat (with_reducible refine And.intro ?_ ?_; · first | assumption | omega | (simp; done) | (simp; omega) | simp_all)
 refine hK _ ?_
 clear hK K
 refine tn ?_
 refine w_weak (st' := ⟨[(0, .rptr [.val (.int .i64 a_.l.s.n), .lst true 1 (Is a_.l.s.fr), .lst true 1 (Is a_.l.s.to), .lst true 1 (Is a_.l.s.id), .lst true 1 (Ls a_.l.s.cs), .val (.int .i64 a_.l.t.n), .lst true 1 (Is a_.l.t.fr), .lst true 1 (Is a_.l.t.to), .lst true 1 (Is a_.l.t.id), .lst true 1 (Ls a_.l.t.cs), .lst true 1 (Is a_.l.ob), .lst true 1 (Is a_.l.ar), .val (.int .i64 a_.r.s.n), .lst true 1 (Is a_.r.s.fr), .lst true 1 (Is a_.r.s.to), .lst true 1 (Is a_.r.s.id), .lst true 1 (Ls a_.r.s.cs), .val (.int .i64 a_.r.t.n), .lst true 1 (Is a_.r.t.fr), .lst true 1 (Is a_.r.t.to), .lst true 1 (Is a_.r.t.id), .lst true 1 (Ls a_.r.t.cs), .lst true 1 (Is a_.r.ob), .lst true 1 (Is a_.r.ar), .lst true 1 (Is a_.u), .lst true 1 (Is a_.k)])], [], 0⟩) (Wk.rel [] (by simp) (by simp) (by rw [hP]; simp) (by simp) (by simp) (by simp [Adj.cells, Cat.cells, Fn.cells, Tra.cells, Is_append, Is_one, Ls_append, Ls_one, Bs_append, Bs_one, Es_append, Es_one, Es_set', eB, eI, eL]) (by simp [hhOk, back, Adj.cells, Cat.cells, Fn.cells, Tra.cells, Is_append, Is_one, Ls_append, Ls_one, Bs_append, Bs_one, Es_append, Es_one, Es_set', eB, eI, eL])) ?_
 refine w_seq ?_
 refine w_run mo (by rw [hN]; decide) fun K hK => ?_
 simp [-guardE_b, -Is_at, -Is_at', -Ls_at, -Ls_at', eL, eI, allInts, eP_Adj, eP_Cat, eP_Fn, eP_Tra, Adj.cells, Cat.cells, Fn.cells, Tra.cells]
 repeat (with_reducible refine And.intro ?_ ?_; · first | assumption | omega | (simp; done) | (simp; omega) | simp_all)
 refine hK _ ?_
 clear hK K
 refine tn ?_
 refine w_weak (st' := ⟨[(0, .rptr [.val (.int .i64 a_.l.s.n), .lst true 1 (Is a_.l.s.fr), .lst true 1 (Is a_.l.s.to), .lst true 1 (Is a_.l.s.id), .lst true 1 (Ls a_.l.s.cs), .val (.int .i64 a_.l.t.n), .lst true 1 (Is a_.l.t.fr), .lst true 1 (Is a_.l.t.to), .lst true 1 (Is a_.l.t.id), .lst true 1 (Ls a_.l.t.cs), .lst true 1 (Is a_.l.ob), .lst true 1 (Is a_.l.ar), .val (.int .i64 a_.r.s.n), .lst true 1 (Is a_.r.s.fr), .lst true 1 (Is a_.r.s.to), .lst true 1 (Is a_.r.s.id), .lst true 1 (Ls a_.r.s.cs), .val (.int .i64 a_.r.t.n), .lst true 1 (Is a_.r.t.fr), .lst true 1 (Is a_.r.t.to), .lst true 1 (Is a_.r.t.id), .lst true 1 (Ls a_.r.t.cs), .lst true 1 (Is a_.r.ob), .lst true 1 (Is a_.r.ar), .lst true 1 (Is a_.u), .lst true 1 (Is a_.k)]), (3, .rptr [.val (.int .i64 a_.l.s.n), .lst true 1 (Is a_.l.s.fr), .lst true 1 (Is a_.l.s.to), .lst true 1 (Is a_.l.s.id), .lst true 1 (Ls a_.l.s.cs), .val (.int .i64 a_.l.t.n), .lst true 1 (Is a_.l.t.fr), .lst true 1 (Is a_.l.t.to), .lst true 1 (Is a_.l.t.id), .lst true 1 (Ls a_.l.t.cs), .lst true 1 (Is a_.l.ob), .lst true 1 (Is a_.l.ar), .val (.int .i64 a_.r.s.n), .lst true 1 (Is a_.r.s.fr), .lst true 1 (Is a_.r.s.to), .lst true 1 (Is a_.r.s.id), .lst true 1 (Ls a_.r.s.cs), .val (.int .i64 a_.r.t.n), .lst true 1 (Is a_.r.t.fr), .lst true 1 (Is a_.r.t.to), .lst true 1 (Is a_.r.t.id), .lst true 1 (Ls a_.r.t.cs), .lst true 1 (Is a_.r.ob), .lst true 1 (Is a_.r.ar), .lst true 1 (Is a_.u), .lst true 1 (Is a_.k)]), (4, .rptr [.val (.int .i64 a_.l.t.n), .lst true 1 (Is a_.l.t.fr), .lst true 1 (Is a_.l.t.to), .lst true 1 (Is a_.l.t.id), .lst true 1 (Ls a_.l.t.cs), .lst true 1 (Is a_.l.ob), .lst true 1 (Is a_.l.ar), .val (.int .i64 a_.r.s.n), .lst true 1 (Is a_.r.s.fr), .lst true 1 (Is a_.r.s.to), .lst true 1 (Is a_.r.s.id), .lst true 1 (Ls a_.r.s.cs), .val (.int .i64 a_.r.t.n), .lst true 1 (Is a_.r.t.fr), .lst true 1 (Is a_.r.t.to), .lst true 1 (Is a_.r.t.id), .lst true 1 (Ls a_.r.t.cs), .lst true 1 (Is a_.r.ob), .lst true 1 (Is a_.r.ar), .lst true 1 (Is a_.u), .lst true 1 (Is a_.k)])], [], 0⟩) (Wk.rel [] (by simp) (by simp) (by rw [hP]; simp) (by simp) (by simp) (by simp [Adj.cells, Cat.cells, Fn.cells, Tra.cells, Is_append, Is_one, Ls_append, Ls_one, Bs_append, Bs_one, Es_append, Es_one, Es_set', eB, eI, eL]) (by simp [hhOk, back, Adj.cells, Cat.cells, Fn.cells, Tra.cells, Is_append, Is_one, Ls_append, Ls_one, Bs_append, Bs_one, Es_append, Es_one, Es_set', eB, eI, eL])) ?_
 refine w_seq ?_
 refine w_run mo (by rw [hN]; decide) fun K hK => ?_
 simp [-guardE_b, -Is_at, -Is_at', -Ls_at, -Ls_at', eL, eI, allInts, eP_Adj, eP_Cat, eP_Fn, eP_Tra, Adj.cells, Cat.cells, Fn.cells, Tra.cells]
 repeat (with_reducible refine And.intro ?_ ?_; · first | assumption | omega | (simp; done) | (simp; omega) | simp_all)
 replace h := bind_some h
 obtain ⟨v1, hv1, h⟩ := h
 refine callA_intro (w_i_Functor_then _ _ v1 hv1) (.cons (.preT (by simp [Adj.cells, Fn.cells])) (.cons (.preT (by simp [Adj.cells, Fn.cells])) .nil)) ?_
 simp [-guardE_b, -Is_at, -Is_at', -Ls_at, -Ls_at', unk, unA, unE, unT, unC, flat, eL, eI, allInts, eP_Adj, eP_Cat, eP_Fn, eP_Tra, Adj.cells, Cat.cells, Fn.cells, Tra.cells]
 repeat (with_reducible refine And.intro ?_ ?_; · first | assumption | omega | (simp; done) | (simp; omega) | simp_all)
 replace h := bind_some h
 obtain ⟨v2, hv2, h⟩ := h
 refine callA_intro (w_i_Functor_then _ _ v2 hv2) (.cons (.preT (by simp [Adj.cells, Fn.cells])) (.cons (.preT (by simp [Adj.cells, Fn.cells])) .nil)) ?_
 simp [-guardE_b, -Is_at, -Is_at', -Ls_at, -Ls_at', unk, unA, unE, unT, unC, flat, eL, eI, allInts, eP_Adj, eP_Cat, eP_Fn, eP_Tra, Adj.cells, Cat.cells, Fn.cells, Tra.cells]
 repeat (with_reducible refine And.intro ?_ ?_; · first | assumption | omega | (simp; done) | (simp; omega) | simp_all)
 refine hK _ ?_
 clear hK K
 refine tn ?_
 refine w_weak (st' := ⟨[(0, .rptr [.val (.int .i64 a_.l.s.n), .lst true 1 (Is a_.l.s.fr), .lst true 1 (Is a_.l.s.to), .lst true 1 (Is a_.l.s.id), .lst true 1 (Ls a_.l.s.cs), .val (.int .i64 a_.l.t.n), .lst true 1 (Is a_.l.t.fr), .lst true 1 (Is a_.l.t.to), .lst true 1 (Is a_.l.t.id), .lst true 1 (Ls a_.l.t.cs), .lst true 1 (Is a_.l.ob), .lst true 1 (Is a_.l.ar), .val (.int .i64 a_.r.s.n), .lst true 1 (Is a_.r.s.fr), .lst true 1 (Is a_.r.s.to), .lst true 1 (Is a_.r.s.id), .lst true 1 (Ls a_.r.s.cs), .val (.int .i64 a_.r.t.n), .lst true 1 (Is a_.r.t.fr), .lst true 1 (Is a_.r.t.to), .lst true 1 (Is a_.r.t.id), .lst true 1 (Ls a_.r.t.cs), .lst true 1 (Is a_.r.ob), .lst true 1 (Is a_.r.ar), .lst true 1 (Is a_.u), .lst true 1 (Is a_.k)]), (3, .rptr [.val (.int .i64 a_.l.s.n), .lst true 1 (Is a_.l.s.fr), .lst true 1 (Is a_.l.s.to), .lst true 1 (Is a_.l.s.id), .lst true 1 (Ls a_.l.s.cs), .val (.int .i64 a_.l.t.n), .lst true 1 (Is a_.l.t.fr), .lst true 1 (Is a_.l.t.to), .lst true 1 (Is a_.l.t.id), .lst true 1 (Ls a_.l.t.cs), .lst true 1 (Is a_.l.ob), .lst true 1 (Is a_.l.ar), .val (.int .i64 a_.r.s.n), .lst true 1 (Is a_.r.s.fr), .lst true 1 (Is a_.r.s.to), .lst true 1 (Is a_.r.s.id), .lst true 1 (Ls a_.r.s.cs), .val (.int .i64 a_.r.t.n), .lst true 1 (Is a_.r.t.fr), .lst true 1 (Is a_.r.t.to), .lst true 1 (Is a_.r.t.id), .lst true 1 (Ls a_.r.t.cs), .lst true 1 (Is a_.r.ob), .lst true 1 (Is a_.r.ar), .lst true 1 (Is a_.u), .lst true 1 (Is a_.k)]), (4, .rptr [.val (.int .i64 a_.l.t.n), .lst true 1 (Is a_.l.t.fr), .lst true 1 (Is a_.l.t.to), .lst true 1 (Is a_.l.t.id), .lst true 1 (Ls a_.l.t.cs), .lst true 1 (Is a_.l.ob), .lst true 1 (Is a_.l.ar), .val (.int .i64 a_.r.s.n), .lst true 1 (Is a_.r.s.fr), .lst true 1 (Is a_.r.s.to), .lst true 1 (Is a_.r.s.id), .lst true 1 (Ls a_.r.s.cs), .val (.int .i64 a_.r.t.n), .lst true 1 (Is a_.r.t.fr), .lst true 1 (Is a_.r.t.to), .lst true 1 (Is a_.r.t.id), .lst true 1 (Ls a_.r.t.cs), .lst true 1 (Is a_.r.ob), .lst true 1 (Is a_.r.ar), .lst true 1 (Is a_.u), .lst true 1 (Is a_.k)]), (5, .adr 0 0 0), (6, .adr 11 0 0)], [(0, .mix 12 [[.val (.int .i64 v1.s.n), .own 1 0 v1.s.fr.length, .own 2 0 v1.s.to.length, .own 3 0 v1.s.id.length, .own 4 0 v1.s.cs.length, .val (.int .i64 v1.t.n), .own 5 0 v1.t.fr.length, .own 6 0 v1.t.to.length, .own 7 0 v1.t.id.length, .own 8 0 v1.t.cs.length, .own 9 0 v1.ob.length, .own 10 0 v1.ar.length]]), (1, .row 1 (Is v1.s.fr)), (2, .row 1 (Is v1.s.to)), (3, .row 1 (Is v1.s.id)), (4, .row 1 (Ls v1.s.cs)), (5, .row 1 (Is v1.t.fr)), (6, .row 1 (Is v1.t.to)), (7, .row 1 (Is v1.t.id)), (8, .row 1 (Ls v1.t.cs)), (9, .row 1 (Is v1.ob)), (10, .row 1 (Is v1.ar)), (11, .mix 12 [[.val (.int .i64 v2.s.n), .own 12 0 v2.s.fr.length, .own 13 0 v2.s.to.length, .own 14 0 v2.s.id.length, .own 15 0 v2.s.cs.length, .val (.int .i64 v2.t.n), .own 16 0 v2.t.fr.length, .own 17 0 v2.t.to.length, .own 18 0 v2.t.id.length, .own 19 0 v2.t.cs.length, .own 20 0 v2.ob.length, .own 21 0 v2.ar.length]]), (12, .row 1 (Is v2.s.fr)), (13, .row 1 (Is v2.s.to)), (14, .row 1 (Is v2.s.id)), (15, .row 1 (Ls v2.s.cs)), (16, .row 1 (Is v2.t.fr)), (17, .row 1 (Is v2.t.to)), (18, .row 1 (Is v2.t.id)), (19, .row 1 (Ls v2.t.cs)), (20, .row 1 (Is v2.ob)), (21, .row 1 (Is v2.ar))], 22⟩) (Wk.rel [(24, 0), (1, 1), (2, 2), (3, 3), (4, 4), (6, 5), (7, 6), (8, 7), (9, 8), (10, 9), (11, 10), (25, 11), (13, 12), (14, 13), (15, 14), (16, 15), (18, 16), (19, 17), (20, 18), (21, 19), (22, 20), (23, 21)] (by simp) (by simp) (by rw [hP]; simp) (by simp) (by simp) (by simp [Adj.cells, Cat.cells, Fn.cells, Tra.cells, Is_append, Is_one, Ls_append, Ls_one, Bs_append, Bs_one, Es_append, Es_one, Es_set', eB, eI, eL]) (by simp [hhOk, back, Adj.cells, Cat.cells, Fn.cells, Tra.cells, Is_append, Is_one, Ls_append, Ls_one, Bs_append, Bs_one, Es_append, Es_one, Es_set', eB, eI, eL])) ?_
 refine w_seq ?_
 refine w_run mo (by rw [hN]; decide) fun K hK => ?_
 simp [-guardE_b, -Is_at, -Is_at', -Ls_at, -Ls_at', eL, eI, allInts, eP_Adj, eP_Cat, eP_Fn, eP_Tra, Adj.cells, Cat.cells, Fn.cells, Tra.cells]
 repeat (with_reducible refine And.intro ?_ ?_; · first | assumption | omega | (simp; done) | (simp; omega) | simp_all)
 replace h := bind_some h
 obtain ⟨v3, hv3, h⟩ := h
 refine callA_intro (w_i_identity _ v3 hv3) (.cons (.preT (by simp [Adj.cells, Cat.cells, Fn.cells])) .nil) ?_
 simp [-guardE_b, -Is_at, -Is_at', -Ls_at, -Ls_at', unk, unA, unE, unT, unC, flat, eL, eI, allInts, eP_Adj, eP_Cat, eP_Fn, eP_Tra, Adj.cells, Cat.cells, Fn.cells, Tra.cells]
 repeat (with_reducible refine And.intro ?_ ?_; · first | assumption | omega | (simp; done) | (simp; omega) | simp_all)
 replace h := bind_some h
 obtain ⟨v4, hv4, h⟩ := h
 refine callA_intro (w_i_identity _ v4 hv4) (.cons (.preT (by simp [Adj.cells, Cat.cells, Fn.cells])) .nil) ?_
 simp [-guardE_b, -Is_at, -Is_at', -Ls_at, -Ls_at', unk, unA, unE, unT, unC, flat, eL, eI, allInts, eP_Adj, eP_Cat, eP_Fn, eP_Tra, Adj.cells, Cat.cells, Fn.cells, Tra.cells]
 repeat (with_reducible refine And.intro ?_ ?_; · first | assumption | omega | (simp; done) | (simp; omega) | simp_all)
 refine hK _ ?_
 clear hK K
 refine tn ?_
 refine w_weak (st' := ⟨[(0, .rptr [.val (.int .i64 a_.l.s.n), .lst true 1 (Is a_.l.s.fr), .lst true 1 (Is a_.l.s.to), .lst true 1 (Is a_.l.s.id), .lst true 1 (Ls a_.l.s.cs), .val (.int .i64 a_.l.t.n), .lst true 1 (Is a_.l.t.fr), .lst true 1 (Is a_.l.t.to), .lst true 1 (Is a_.l.t.id), .lst true 1 (Ls a_.l.t.cs), .lst true 1 (Is a_.l.ob), .lst true 1 (Is a_.l.ar), .val (.int .i64 a_.r.s.n), .lst true 1 (Is a_.r.s.fr), .lst true 1 (Is a_.r.s.to), .lst true 1 (Is a_.r.s.id), .lst true 1 (Ls a_.r.s.cs), .val (.int .i64 a_.r.t.n), .lst true 1 (Is a_.r.t.fr), .lst true 1 (Is a_.r.t.to), .lst true 1 (Is a_.r.t.id), .lst true 1 (Ls a_.r.t.cs), .lst true 1 (Is a_.r.ob), .lst true 1 (Is a_.r.ar), .lst true 1 (Is a_.u), .lst true 1 (Is a_.k)]), (3, .rptr [.val (.int .i64 a_.l.s.n), .lst true 1 (Is a_.l.s.fr), .lst true 1 (Is a_.l.s.to), .lst true 1 (Is a_.l.s.id), .lst true 1 (Ls a_.l.s.cs), .val (.int .i64 a_.l.t.n), .lst true 1 (Is a_.l.t.fr), .lst true 1 (Is a_.l.t.to), .lst true 1 (Is a_.l.t.id), .lst true 1 (Ls a_.l.t.cs), .lst true 1 (Is a_.l.ob), .lst true 1 (Is a_.l.ar), .val (.int .i64 a_.r.s.n), .lst true 1 (Is a_.r.s.fr), .lst true 1 (Is a_.r.s.to), .lst true 1 (Is a_.r.s.id), .lst true 1 (Ls a_.r.s.cs), .val (.int .i64 a_.r.t.n), .lst true 1 (Is a_.r.t.fr), .lst true 1 (Is a_.r.t.to), .lst true 1 (Is a_.r.t.id), .lst true 1 (Ls a_.r.t.cs), .lst true 1 (Is a_.r.ob), .lst true 1 (Is a_.r.ar), .lst true 1 (Is a_.u), .lst true 1 (Is a_.k)]), (4, .rptr [.val (.int .i64 a_.l.t.n), .lst true 1 (Is a_.l.t.fr), .lst true 1 (Is a_.l.t.to), .lst true 1 (Is a_.l.t.id), .lst true 1 (Ls a_.l.t.cs), .lst true 1 (Is a_.l.ob), .lst true 1 (Is a_.l.ar), .val (.int .i64 a_.r.s.n), .lst true 1 (Is a_.r.s.fr), .lst true 1 (Is a_.r.s.to), .lst true 1 (Is a_.r.s.id), .lst true 1 (Ls a_.r.s.cs), .val (.int .i64 a_.r.t.n), .lst true 1 (Is a_.r.t.fr), .lst true 1 (Is a_.r.t.to), .lst true 1 (Is a_.r.t.id), .lst true 1 (Ls a_.r.t.cs), .lst true 1 (Is a_.r.ob), .lst true 1 (Is a_.r.ar), .lst true 1 (Is a_.u), .lst true 1 (Is a_.k)]), (5, .adr 0 0 0), (6, .adr 11 0 0), (7, .adr 22 0 0), (8, .adr 33 0 0)], [(0, .mix 12 [[.val (.int .i64 v1.s.n), .own 1 0 v1.s.fr.length, .own 2 0 v1.s.to.length, .own 3 0 v1.s.id.length, .own 4 0 v1.s.cs.length, .val (.int .i64 v1.t.n), .own 5 0 v1.t.fr.length, .own 6 0 v1.t.to.length, .own 7 0 v1.t.id.length, .own 8 0 v1.t.cs.length, .own 9 0 v1.ob.length, .own 10 0 v1.ar.length]]), (1, .row 1 (Is v1.s.fr)), (2, .row 1 (Is v1.s.to)), (3, .row 1 (Is v1.s.id)), (4, .row 1 (Ls v1.s.cs)), (5, .row 1 (Is v1.t.fr)), (6, .row 1 (Is v1.t.to)), (7, .row 1 (Is v1.t.id)), (8, .row 1 (Ls v1.t.cs)), (9, .row 1 (Is v1.ob)), (10, .row 1 (Is v1.ar)), (11, .mix 12 [[.val (.int .i64 v2.s.n), .own 12 0 v2.s.fr.length, .own 13 0 v2.s.to.length, .own 14 0 v2.s.id.length, .own 15 0 v2.s.cs.length, .val (.int .i64 v2.t.n), .own 16 0 v2.t.fr.length, .own 17 0 v2.t.to.length, .own 18 0 v2.t.id.length, .own 19 0 v2.t.cs.length, .own 20 0 v2.ob.length, .own 21 0 v2.ar.length]]), (12, .row 1 (Is v2.s.fr)), (13, .row 1 (Is v2.s.to)), (14, .row 1 (Is v2.s.id)), (15, .row 1 (Ls v2.s.cs)), (16, .row 1 (Is v2.t.fr)), (17, .row 1 (Is v2.t.to)), (18, .row 1 (Is v2.t.id)), (19, .row 1 (Ls v2.t.cs)), (20, .row 1 (Is v2.ob)), (21, .row 1 (Is v2.ar)), (22, .mix 12 [[.val (.int .i64 v3.s.n), .own 23 0 v3.s.fr.length, .own 24 0 v3.s.to.length, .own 25 0 v3.s.id.length, .own 26 0 v3.s.cs.length, .val (.int .i64 v3.t.n), .own 27 0 v3.t.fr.length, .own 28 0 v3.t.to.length, .own 29 0 v3.t.id.length, .own 30 0 v3.t.cs.length, .own 31 0 v3.ob.length, .own 32 0 v3.ar.length]]), (23, .row 1 (Is v3.s.fr)), (24, .row 1 (Is v3.s.to)), (25, .row 1 (Is v3.s.id)), (26, .row 1 (Ls v3.s.cs)), (27, .row 1 (Is v3.t.fr)), (28, .row 1 (Is v3.t.to)), (29, .row 1 (Is v3.t.id)), (30, .row 1 (Ls v3.t.cs)), (31, .row 1 (Is v3.ob)), (32, .row 1 (Is v3.ar)), (33, .mix 12 [[.val (.int .i64 v4.s.n), .own 34 0 v4.s.fr.length, .own 35 0 v4.s.to.length, .own 36 0 v4.s.id.length, .own 37 0 v4.s.cs.length, .val (.int .i64 v4.t.n), .own 38 0 v4.t.fr.length, .own 39 0 v4.t.to.length, .own 40 0 v4.t.id.length, .own 41 0 v4.t.cs.length, .own 42 0 v4.ob.length, .own 43 0 v4.ar.length]]), (34, .row 1 (Is v4.s.fr)), (35, .row 1 (Is v4.s.to)), (36, .row 1 (Is v4.s.id)), (37, .row 1 (Ls v4.s.cs)), (38, .row 1 (Is v4.t.fr)), (39, .row 1 (Is v4.t.to)), (40, .row 1 (Is v4.t.id)), (41, .row 1 (Ls v4.t.cs)), (42, .row 1 (Is v4.ob)), (43, .row 1 (Is v4.ar))], 44⟩) (Wk.rel [(0, 0), (1, 1), (2, 2), (3, 3), (4, 4), (5, 5), (6, 6), (7, 7), (8, 8), (9, 9), (10, 10), (11, 11), (12, 12), (13, 13), (14, 14), (15, 15), (16, 16), (17, 17), (18, 18), (19, 19), (20, 20), (21, 21), (46, 22), (23, 23), (24, 24), (25, 25), (26, 26), (28, 27), (29, 28), (30, 29), (31, 30), (32, 31), (33, 32), (47, 33), (35, 34), (36, 35), (37, 36), (38, 37), (40, 38), (41, 39), (42, 40), (43, 41), (44, 42), (45, 43)] (by simp) (by simp) (by rw [hP]; simp) (by simp) (by simp) (by simp [Adj.cells, Cat.cells, Fn.cells, Tra.cells, Is_append, Is_one, Ls_append, Ls_one, Bs_append, Bs_one, Es_append, Es_one, Es_set', eB, eI, eL]) (by simp [hhOk, back, Adj.cells, Cat.cells, Fn.cells, Tra.cells, Is_append, Is_one, Ls_append, Ls_one, Bs_append, Bs_one, Es_append, Es_one, Es_set', eB, eI, eL])) ?_
 refine w_seq ?_
 refine w_run mo (by rw [hN]; decide) fun K hK => ?_
 simp [-guardE_b, -Is_at, -Is_at', -Ls_at, -Ls_at', eL, eI, allInts, eP_Adj, eP_Cat, eP_Fn, eP_Tra, Adj.cells, Cat.cells, Fn.cells, Tra.cells]
 repeat (with_reducible refine And.intro ?_ ?_; · first | assumption | omega | (simp; done) | (simp; omega) | simp_all)
 refine hK _ ?_
 clear hK K
 refine tn ?_
 refine w_weak (st' := ⟨[(0, .rptr [.val (.int .i64 a_.l.s.n), .lst true 1 (Is a_.l.s.fr), .lst true 1 (Is a_.l.s.to), .lst true 1 (Is a_.l.s.id), .lst true 1 (Ls a_.l.s.cs), .val (.int .i64 a_.l.t.n), .lst true 1 (Is a_.l.t.fr), .lst true 1 (Is a_.l.t.to), .lst true 1 (Is a_.l.t.id), .lst true 1 (Ls a_.l.t.cs), .lst true 1 (Is a_.l.ob), .lst true 1 (Is a_.l.ar), .val (.int .i64 a_.r.s.n), .lst true 1 (Is a_.r.s.fr), .lst true 1 (Is a_.r.s.to), .lst true 1 (Is a_.r.s.id), .lst true 1 (Ls a_.r.s.cs), .val (.int .i64 a_.r.t.n), .lst true 1 (Is a_.r.t.fr), .lst true 1 (Is a_.r.t.to), .lst true 1 (Is a_.r.t.id), .lst true 1 (Ls a_.r.t.cs), .lst true 1 (Is a_.r.ob), .lst true 1 (Is a_.r.ar), .lst true 1 (Is a_.u), .lst true 1 (Is a_.k)]), (3, .rptr [.val (.int .i64 a_.l.s.n), .lst true 1 (Is a_.l.s.fr), .lst true 1 (Is a_.l.s.to), .lst true 1 (Is a_.l.s.id), .lst true 1 (Ls a_.l.s.cs), .val (.int .i64 a_.l.t.n), .lst true 1 (Is a_.l.t.fr), .lst true 1 (Is a_.l.t.to), .lst true 1 (Is a_.l.t.id), .lst true 1 (Ls a_.l.t.cs), .lst true 1 (Is a_.l.ob), .lst true 1 (Is a_.l.ar), .val (.int .i64 a_.r.s.n), .lst true 1 (Is a_.r.s.fr), .lst true 1 (Is a_.r.s.to), .lst true 1 (Is a_.r.s.id), .lst true 1 (Ls a_.r.s.cs), .val (.int .i64 a_.r.t.n), .lst true 1 (Is a_.r.t.fr), .lst true 1 (Is a_.r.t.to), .lst true 1 (Is a_.r.t.id), .lst true 1 (Ls a_.r.t.cs), .lst true 1 (Is a_.r.ob), .lst true 1 (Is a_.r.ar), .lst true 1 (Is a_.u), .lst true 1 (Is a_.k)]), (4, .rptr [.val (.int .i64 a_.l.t.n), .lst true 1 (Is a_.l.t.fr), .lst true 1 (Is a_.l.t.to), .lst true 1 (Is a_.l.t.id), .lst true 1 (Ls a_.l.t.cs), .lst true 1 (Is a_.l.ob), .lst true 1 (Is a_.l.ar), .val (.int .i64 a_.r.s.n), .lst true 1 (Is a_.r.s.fr), .lst true 1 (Is a_.r.s.to), .lst true 1 (Is a_.r.s.id), .lst true 1 (Ls a_.r.s.cs), .val (.int .i64 a_.r.t.n), .lst true 1 (Is a_.r.t.fr), .lst true 1 (Is a_.r.t.to), .lst true 1 (Is a_.r.t.id), .lst true 1 (Ls a_.r.t.cs), .lst true 1 (Is a_.r.ob), .lst true 1 (Is a_.r.ar), .lst true 1 (Is a_.u), .lst true 1 (Is a_.k)]), (6, .adr 0 0 0), (8, .adr 11 0 0), (9, .adr 22 0 0)], [(0, .mix 12 [[.val (.int .i64 v2.s.n), .own 1 0 v2.s.fr.length, .own 2 0 v2.s.to.length, .own 3 0 v2.s.id.length, .own 4 0 v2.s.cs.length, .val (.int .i64 v2.t.n), .own 5 0 v2.t.fr.length, .own 6 0 v2.t.to.length, .own 7 0 v2.t.id.length, .own 8 0 v2.t.cs.length, .own 9 0 v2.ob.length, .own 10 0 v2.ar.length]]), (1, .row 1 (Is v2.s.fr)), (2, .row 1 (Is v2.s.to)), (3, .row 1 (Is v2.s.id)), (4, .row 1 (Ls v2.s.cs)), (5, .row 1 (Is v2.t.fr)), (6, .row 1 (Is v2.t.to)), (7, .row 1 (Is v2.t.id)), (8, .row 1 (Ls v2.t.cs)), (9, .row 1 (Is v2.ob)), (10, .row 1 (Is v2.ar)), (11, .mix 12 [[.val (.int .i64 v4.s.n), .own 12 0 v4.s.fr.length, .own 13 0 v4.s.to.length, .own 14 0 v4.s.id.length, .own 15 0 v4.s.cs.length, .val (.int .i64 v4.t.n), .own 16 0 v4.t.fr.length, .own 17 0 v4.t.to.length, .own 18 0 v4.t.id.length, .own 19 0 v4.t.cs.length, .own 20 0 v4.ob.length, .own 21 0 v4.ar.length]]), (12, .row 1 (Is v4.s.fr)), (13, .row 1 (Is v4.s.to)), (14, .row 1 (Is v4.s.id)), (15, .row 1 (Ls v4.s.cs)), (16, .row 1 (Is v4.t.fr)), (17, .row 1 (Is v4.t.to)), (18, .row 1 (Is v4.t.id)), (19, .row 1 (Ls v4.t.cs)), (20, .row 1 (Is v4.ob)), (21, .row 1 (Is v4.ar)), (22, .mix 25 [[.val (.int .i64 v3.s.n), .own 23 0 v3.s.fr.length, .own 24 0 v3.s.to.length, .own 25 0 v3.s.id.length, .own 26 0 v3.s.cs.length, .val (.int .i64 v3.t.n), .own 27 0 v3.t.fr.length, .own 28 0 v3.t.to.length, .own 29 0 v3.t.id.length, .own 30 0 v3.t.cs.length, .own 31 0 v3.ob.length, .own 32 0 v3.ar.length, .val (.int .i64 v1.s.n), .own 33 0 v1.s.fr.length, .own 34 0 v1.s.to.length, .own 35 0 v1.s.id.length, .own 36 0 v1.s.cs.length, .val (.int .i64 v1.t.n), .own 37 0 v1.t.fr.length, .own 38 0 v1.t.to.length, .own 39 0 v1.t.id.length, .own 40 0 v1.t.cs.length, .own 41 0 v1.ob.length, .own 42 0 v1.ar.length, .lst true 1 (Is a_.u)]]), (23, .row 1 (Is v3.s.fr)), (24, .row 1 (Is v3.s.to)), (25, .row 1 (Is v3.s.id)), (26, .row 1 (Ls v3.s.cs)), (27, .row 1 (Is v3.t.fr)), (28, .row 1 (Is v3.t.to)), (29, .row 1 (Is v3.t.id)), (30, .row 1 (Ls v3.t.cs)), (31, .row 1 (Is v3.ob)), (32, .row 1 (Is v3.ar)), (33, .row 1 (Is v1.s.fr)), (34, .row 1 (Is v1.s.to)), (35, .row 1 (Is v1.s.id)), (36, .row 1 (Ls v1.s.cs)), (37, .row 1 (Is v1.t.fr)), (38, .row 1 (Is v1.t.to)), (39, .row 1 (Is v1.t.id)), (40, .row 1 (Ls v1.t.cs)), (41, .row 1 (Is v1.ob)), (42, .row 1 (Is v1.ar))], 43⟩) (Wk.rel [(11, 0), (12, 1), (13, 2), (14, 3), (15, 4), (16, 5), (17, 6), (18, 7), (19, 8), (20, 9), (21, 10), (33, 11), (34, 12), (35, 13), (36, 14), (37, 15), (38, 16), (39, 17), (40, 18), (41, 19), (42, 20), (43, 21), (44, 22), (23, 23), (24, 24), (25, 25), (26, 26), (27, 27), (28, 28), (29, 29), (30, 30), (31, 31), (32, 32), (1, 33), (2, 34), (3, 35), (4, 36), (5, 37), (6, 38), (7, 39), (8, 40), (9, 41), (10, 42)] (by simp) (by simp) (by rw [hP]; simp) (by simp) (by simp) (by simp [Adj.cells, Cat.cells, Fn.cells, Tra.cells, Is_append, Is_one, Ls_append, Ls_one, Bs_append, Bs_one, Es_append, Es_one, Es_set', eB, eI, eL]) (by simp [hhOk, back, Adj.cells, Cat.cells, Fn.cells, Tra.cells, Is_append, Is_one, Ls_append, Ls_one, Bs_append, Bs_one, Es_append, Es_one, Es_set', eB, eI, eL])) ?_
 refine w_seq ?_
 refine w_run mo (by rw [hN]; decide) fun K hK => ?_
 simp [-guardE_b, -Is_at, -Is_at', -Ls_at, -Ls_at', eL, eI, allInts, eP_Adj, eP_Cat, eP_Fn, eP_Tra, Adj.cells, Cat.cells, Fn.cells, Tra.cells]
 repeat (with_reducible refine And.intro ?_ ?_; · first | assumption | omega | (simp; done) | (simp; omega) | simp_all)
 refine hK _ ?_
 clear hK K
 refine tn ?_
 refine w_weak (st' := ⟨[(0, .rptr [.val (.int .i64 a_.l.s.n), .lst true 1 (Is a_.l.s.fr), .lst true 1 (Is a_.l.s.to), .lst true 1 (Is a_.l.s.id), .lst true 1 (Ls a_.l.s.cs), .val (.int .i64 a_.l.t.n), .lst true 1 (Is a_.l.t.fr), .lst true 1 (Is a_.l.t.to), .lst true 1 (Is a_.l.t.id), .lst true 1 (Ls a_.l.t.cs), .lst true 1 (Is a_.l.ob), .lst true 1 (Is a_.l.ar), .val (.int .i64 a_.r.s.n), .lst true 1 (Is a_.r.s.fr), .lst true 1 (Is a_.r.s.to), .lst true 1 (Is a_.r.s.id), .lst true 1 (Ls a_.r.s.cs), .val (.int .i64 a_.r.t.n), .lst true 1 (Is a_.r.t.fr), .lst true 1 (Is a_.r.t.to), .lst true 1 (Is a_.r.t.id), .lst true 1 (Ls a_.r.t.cs), .lst true 1 (Is a_.r.ob), .lst true 1 (Is a_.r.ar), .lst true 1 (Is a_.u), .lst true 1 (Is a_.k)]), (3, .rptr [.val (.int .i64 a_.l.s.n), .lst true 1 (Is a_.l.s.fr), .lst true 1 (Is a_.l.s.to), .lst true 1 (Is a_.l.s.id), .lst true 1 (Ls a_.l.s.cs), .val (.int .i64 a_.l.t.n), .lst true 1 (Is a_.l.t.fr), .lst true 1 (Is a_.l.t.to), .lst true 1 (Is a_.l.t.id), .lst true 1 (Ls a_.l.t.cs), .lst true 1 (Is a_.l.ob), .lst true 1 (Is a_.l.ar), .val (.int .i64 a_.r.s.n), .lst true 1 (Is a_.r.s.fr), .lst true 1 (Is a_.r.s.to), .lst true 1 (Is a_.r.s.id), .lst true 1 (Ls a_.r.s.cs), .val (.int .i64 a_.r.t.n), .lst true 1 (Is a_.r.t.fr), .lst true 1 (Is a_.r.t.to), .lst true 1 (Is a_.r.t.id), .lst true 1 (Ls a_.r.t.cs), .lst true 1 (Is a_.r.ob), .lst true 1 (Is a_.r.ar), .lst true 1 (Is a_.u), .lst true 1 (Is a_.k)]), (4, .rptr [.val (.int .i64 a_.l.t.n), .lst true 1 (Is a_.l.t.fr), .lst true 1 (Is a_.l.t.to), .lst true 1 (Is a_.l.t.id), .lst true 1 (Ls a_.l.t.cs), .lst true 1 (Is a_.l.ob), .lst true 1 (Is a_.l.ar), .val (.int .i64 a_.r.s.n), .lst true 1 (Is a_.r.s.fr), .lst true 1 (Is a_.r.s.to), .lst true 1 (Is a_.r.s.id), .lst true 1 (Ls a_.r.s.cs), .val (.int .i64 a_.r.t.n), .lst true 1 (Is a_.r.t.fr), .lst true 1 (Is a_.r.t.to), .lst true 1 (Is a_.r.t.id), .lst true 1 (Ls a_.r.t.cs), .lst true 1 (Is a_.r.ob), .lst true 1 (Is a_.r.ar), .lst true 1 (Is a_.u), .lst true 1 (Is a_.k)]), (9, .adr 0 0 0), (10, .adr 21 0 0)], [(0, .mix 25 [[.val (.int .i64 v3.s.n), .own 1 0 v3.s.fr.length, .own 2 0 v3.s.to.length, .own 3 0 v3.s.id.length, .own 4 0 v3.s.cs.length, .val (.int .i64 v3.t.n), .own 5 0 v3.t.fr.length, .own 6 0 v3.t.to.length, .own 7 0 v3.t.id.length, .own 8 0 v3.t.cs.length, .own 9 0 v3.ob.length, .own 10 0 v3.ar.length, .val (.int .i64 v1.s.n), .own 11 0 v1.s.fr.length, .own 12 0 v1.s.to.length, .own 13 0 v1.s.id.length, .own 14 0 v1.s.cs.length, .val (.int .i64 v1.t.n), .own 15 0 v1.t.fr.length, .own 16 0 v1.t.to.length, .own 17 0 v1.t.id.length, .own 18 0 v1.t.cs.length, .own 19 0 v1.ob.length, .own 20 0 v1.ar.length, .lst true 1 (Is a_.u)]]), (1, .row 1 (Is v3.s.fr)), (2, .row 1 (Is v3.s.to)), (3, .row 1 (Is v3.s.id)), (4, .row 1 (Ls v3.s.cs)), (5, .row 1 (Is v3.t.fr)), (6, .row 1 (Is v3.t.to)), (7, .row 1 (Is v3.t.id)), (8, .row 1 (Ls v3.t.cs)), (9, .row 1 (Is v3.ob)), (10, .row 1 (Is v3.ar)), (11, .row 1 (Is v1.s.fr)), (12, .row 1 (Is v1.s.to)), (13, .row 1 (Is v1.s.id)), (14, .row 1 (Ls v1.s.cs)), (15, .row 1 (Is v1.t.fr)), (16, .row 1 (Is v1.t.to)), (17, .row 1 (Is v1.t.id)), (18, .row 1 (Ls v1.t.cs)), (19, .row 1 (Is v1.ob)), (20, .row 1 (Is v1.ar)), (21, .mix 25 [[.val (.int .i64 v2.s.n), .own 22 0 v2.s.fr.length, .own 23 0 v2.s.to.length, .own 24 0 v2.s.id.length, .own 25 0 v2.s.cs.length, .val (.int .i64 v2.t.n), .own 26 0 v2.t.fr.length, .own 27 0 v2.t.to.length, .own 28 0 v2.t.id.length, .own 29 0 v2.t.cs.length, .own 30 0 v2.ob.length, .own 31 0 v2.ar.length, .val (.int .i64 v4.s.n), .own 32 0 v4.s.fr.length, .own 33 0 v4.s.to.length, .own 34 0 v4.s.id.length, .own 35 0 v4.s.cs.length, .val (.int .i64 v4.t.n), .own 36 0 v4.t.fr.length, .own 37 0 v4.t.to.length, .own 38 0 v4.t.id.length, .own 39 0 v4.t.cs.length, .own 40 0 v4.ob.length, .own 41 0 v4.ar.length, .lst true 1 (Is a_.k)]]), (22, .row 1 (Is v2.s.fr)), (23, .row 1 (Is v2.s.to)), (24, .row 1 (Is v2.s.id)), (25, .row 1 (Ls v2.s.cs)), (26, .row 1 (Is v2.t.fr)), (27, .row 1 (Is v2.t.to)), (28, .row 1 (Is v2.t.id)), (29, .row 1 (Ls v2.t.cs)), (30, .row 1 (Is v2.ob)), (31, .row 1 (Is v2.ar)), (32, .row 1 (Is v4.s.fr)), (33, .row 1 (Is v4.s.to)), (34, .row 1 (Is v4.s.id)), (35, .row 1 (Ls v4.s.cs)), (36, .row 1 (Is v4.t.fr)), (37, .row 1 (Is v4.t.to)), (38, .row 1 (Is v4.t.id)), (39, .row 1 (Ls v4.t.cs)), (40, .row 1 (Is v4.ob)), (41, .row 1 (Is v4.ar))], 42⟩) (Wk.rel [(22, 0), (23, 1), (24, 2), (25, 3), (26, 4), (27, 5), (28, 6), (29, 7), (30, 8), (31, 9), (32, 10), (33, 11), (34, 12), (35, 13), (36, 14), (37, 15), (38, 16), (39, 17), (40, 18), (41, 19), (42, 20), (43, 21), (1, 22), (2, 23), (3, 24), (4, 25), (5, 26), (6, 27), (7, 28), (8, 29), (9, 30), (10, 31), (12, 32), (13, 33), (14, 34), (15, 35), (16, 36), (17, 37), (18, 38), (19, 39), (20, 40), (21, 41)] (by simp) (by simp) (by rw [hP]; simp) (by simp) (by simp) (by simp [Adj.cells, Cat.cells, Fn.cells, Tra.cells, Is_append, Is_one, Ls_append, Ls_one, Bs_append, Bs_one, Es_append, Es_one, Es_set', eB, eI, eL]) (by simp [hhOk, back, Adj.cells, Cat.cells, Fn.cells, Tra.cells, Is_append, Is_one, Ls_append, Ls_one, Bs_append, Bs_one, Es_append, Es_one, Es_set', eB, eI, eL])) ?_
 refine w_seq ?_
 refine w_seq ?_
 refine w_run mo (by rw [hN]; decide) fun K hK => ?_
 simp [-guardE_b, -Is_at, -Is_at', -Ls_at, -Ls_at', eL, eI, allInts, eP_Adj, eP_Cat, eP_Fn, eP_Tra, Adj.cells, Cat.cells, Fn.cells, Tra.cells]
 repeat (with_reducible refine And.intro ?_ ?_; · first | assumption | omega | (simp; done) | (simp; omega) | simp_all)
 replace h := bind_some h
 obtain ⟨v5, hv5, h⟩ := h
 refine callA_intro (w_i_areNatural _ v5 hv5) (.cons (.lits (es := _) rfl (.cons rfl (.cons (.field rfl (by simp [Adj.cells, Cat.cells, Fn.cells, Tra.cells]) (.cons .val (.cons (.whole (by simp) (by simp) (by simp)) (.cons (.whole (by simp) (by simp) (by simp)) (.cons (.whole (by simp) (by simp) (by simp)) (.cons (.whole (by simp) (by simp) (by simp)) (.cons .val (.cons (.whole (by simp) (by simp) (by simp)) (.cons (.whole (by simp) (by simp) (by simp)) (.cons (.whole (by simp) (by simp) (by simp)) (.cons (.whole (by simp) (by simp) (by simp)) (.cons (.whole (by simp) (by simp) (by simp)) (.cons (.whole (by simp) (by simp) (by simp)) (.cons .val (.cons (.whole (by simp) (by simp) (by simp)) (.cons (.whole (by simp) (by simp) (by simp)) (.cons (.whole (by simp) (by simp) (by simp)) (.cons (.whole (by simp) (by simp) (by simp)) (.cons .val (.cons (.whole (by simp) (by simp) (by simp)) (.cons (.whole (by simp) (by simp) (by simp)) (.cons (.whole (by simp) (by simp) (by simp)) (.cons (.whole (by simp) (by simp) (by simp)) (.cons (.whole (by simp) (by simp) (by simp)) (.cons (.whole (by simp) (by simp) (by simp)) (.cons .lst .nil)))))))))))))))))))))))))) .nil) (.cons rfl (.cons (.field rfl (by simp [Adj.cells, Cat.cells, Fn.cells, Tra.cells]) (.cons .val (.cons (.whole (by simp) (by simp) (by simp)) (.cons (.whole (by simp) (by simp) (by simp)) (.cons (.whole (by simp) (by simp) (by simp)) (.cons (.whole (by simp) (by simp) (by simp)) (.cons .val (.cons (.whole (by simp) (by simp) (by simp)) (.cons (.whole (by simp) (by simp) (by simp)) (.cons (.whole (by simp) (by simp) (by simp)) (.cons (.whole (by simp) (by simp) (by simp)) (.cons (.whole (by simp) (by simp) (by simp)) (.cons (.whole (by simp) (by simp) (by simp)) (.cons .val (.cons (.whole (by simp) (by simp) (by simp)) (.cons (.whole (by simp) (by simp) (by simp)) (.cons (.whole (by simp) (by simp) (by simp)) (.cons (.whole (by simp) (by simp) (by simp)) (.cons .val (.cons (.whole (by simp) (by simp) (by simp)) (.cons (.whole (by simp) (by simp) (by simp)) (.cons (.whole (by simp) (by simp) (by simp)) (.cons (.whole (by simp) (by simp) (by simp)) (.cons (.whole (by simp) (by simp) (by simp)) (.cons (.whole (by simp) (by simp) (by simp)) (.cons .lst .nil)))))))))))))))))))))))))) .nil) .nil)) rfl) .nil) ?_
 simp [-guardE_b, -Is_at, -Is_at', -Ls_at, -Ls_at', unk, unA, unE, unT, unC, flat, eL, eI, allInts, eP_Adj, eP_Cat, eP_Fn, eP_Tra, Adj.cells, Cat.cells, Fn.cells, Tra.cells]
 repeat (with_reducible refine And.intro ?_ ?_; · first | assumption | omega | (simp; done) | (simp; omega) | simp_all)
 refine hK _ ?_
 clear hK K
 refine tn ?_
 refine w_weak (st' := ⟨[(0, .rptr [.val (.int .i64 a_.l.s.n), .lst true 1 (Is a_.l.s.fr), .lst true 1 (Is a_.l.s.to), .lst true 1 (Is a_.l.s.id), .lst true 1 (Ls a_.l.s.cs), .val (.int .i64 a_.l.t.n), .lst true 1 (Is a_.l.t.fr), .lst true 1 (Is a_.l.t.to), .lst true 1 (Is a_.l.t.id), .lst true 1 (Ls a_.l.t.cs), .lst true 1 (Is a_.l.ob), .lst true 1 (Is a_.l.ar), .val (.int .i64 a_.r.s.n), .lst true 1 (Is a_.r.s.fr), .lst true 1 (Is a_.r.s.to), .lst true 1 (Is a_.r.s.id), .lst true 1 (Ls a_.r.s.cs), .val (.int .i64 a_.r.t.n), .lst true 1 (Is a_.r.t.fr), .lst true 1 (Is a_.r.t.to), .lst true 1 (Is a_.r.t.id), .lst true 1 (Ls a_.r.t.cs), .lst true 1 (Is a_.r.ob), .lst true 1 (Is a_.r.ar), .lst true 1 (Is a_.u), .lst true 1 (Is a_.k)]), (3, .rptr [.val (.int .i64 a_.l.s.n), .lst true 1 (Is a_.l.s.fr), .lst true 1 (Is a_.l.s.to), .lst true 1 (Is a_.l.s.id), .lst true 1 (Ls a_.l.s.cs), .val (.int .i64 a_.l.t.n), .lst true 1 (Is a_.l.t.fr), .lst true 1 (Is a_.l.t.to), .lst true 1 (Is a_.l.t.id), .lst true 1 (Ls a_.l.t.cs), .lst true 1 (Is a_.l.ob), .lst true 1 (Is a_.l.ar), .val (.int .i64 a_.r.s.n), .lst true 1 (Is a_.r.s.fr), .lst true 1 (Is a_.r.s.to), .lst true 1 (Is a_.r.s.id), .lst true 1 (Ls a_.r.s.cs), .val (.int .i64 a_.r.t.n), .lst true 1 (Is a_.r.t.fr), .lst true 1 (Is a_.r.t.to), .lst true 1 (Is a_.r.t.id), .lst true 1 (Ls a_.r.t.cs), .lst true 1 (Is a_.r.ob), .lst true 1 (Is a_.r.ar), .lst true 1 (Is a_.u), .lst true 1 (Is a_.k)]), (4, .rptr [.val (.int .i64 a_.l.t.n), .lst true 1 (Is a_.l.t.fr), .lst true 1 (Is a_.l.t.to), .lst true 1 (Is a_.l.t.id), .lst true 1 (Ls a_.l.t.cs), .lst true 1 (Is a_.l.ob), .lst true 1 (Is a_.l.ar), .val (.int .i64 a_.r.s.n), .lst true 1 (Is a_.r.s.fr), .lst true 1 (Is a_.r.s.to), .lst true 1 (Is a_.r.s.id), .lst true 1 (Ls a_.r.s.cs), .val (.int .i64 a_.r.t.n), .lst true 1 (Is a_.r.t.fr), .lst true 1 (Is a_.r.t.to), .lst true 1 (Is a_.r.t.id), .lst true 1 (Ls a_.r.t.cs), .lst true 1 (Is a_.r.ob), .lst true 1 (Is a_.r.ar), .lst true 1 (Is a_.u), .lst true 1 (Is a_.k)]), (57, .val (.bool (!v5)))], [], 0⟩) (Wk.rel [] (by simp) (by simp) (by rw [hP]; simp) (by simp) (by simp) (by simp [Adj.cells, Cat.cells, Fn.cells, Tra.cells, Is_append, Is_one, Ls_append, Ls_one, Bs_append, Bs_one, Es_append, Es_one, Es_set', eB, eI, eL]) (by simp [hhOk, back, Adj.cells, Cat.cells, Fn.cells, Tra.cells, Is_append, Is_one, Ls_append, Ls_one, Bs_append, Bs_one, Es_append, Es_one, Es_set', eB, eI, eL])) ?_
 refine w_cond rfl (fun g => ?_) fun g => ?_
 · have g6 : ¬ (v5 = true) := by first | simpa using g | (simp at g; exact g) | (simp at g; omega)
   clear g
   replace h := if_l g6 h
   refine w_seq ?_
   refine w_run mo (by rw [hN]; decide) fun K hK => ?_
   simp [-guardE_b, -Is_at, -Is_at', -Ls_at, -Ls_at', eL, eI, allInts, eP_Adj, eP_Cat, eP_Fn, eP_Tra, Adj.cells, Cat.cells, Fn.cells, Tra.cells]
   repeat (with_reducible refine And.intro ?_ ?_; · first | assumption | omega | (simp; done) | (simp; omega) | simp_all)
   refine hK _ ?_
   clear hK K
   refine tn ?_
   refine w_weak (st' := ⟨[(2, .val (.bool false))], [], 0⟩) (Wk.rel [] (by simp) (by simp) (by rw [hP]; simp) (by simp) (by simp) (by simp [Adj.cells, Cat.cells, Fn.cells, Tra.cells, Is_append, Is_one, Ls_append, Ls_one, Bs_append, Bs_one, Es_append, Es_one, Es_set', eB, eI, eL]) (by simp [hhOk, back, Adj.cells, Cat.cells, Fn.cells, Tra.cells, Is_append, Is_one, Ls_append, Ls_one, Bs_append, Bs_one, Es_append, Es_one, Es_set', eB, eI, eL])) ?_
   refine w_ret ?_
   refine tr ?_
   have hr := Option.some.inj h
   rw [← hr]
   refine ⟨_, (.tmp .nil), ?_⟩
   refine ⟨(.one rfl rfl .nil), [.val (.bool false)], [], by simp [Adj.cells, Cat.cells, Fn.cells, Tra.cells, Is_append, Is_one, Ls_append, Ls_one, Bs_append, Bs_one, Es_append, Es_one, Es_set', eB, eI, eL], by simp, (UpL.refl _)⟩
 have g6 : ¬ (¬ (v5 = true)) := by first | simpa using g | (simp at g; exact g) | (simp at g; omega)
 clear g
 replace h := if_r g6 h
 refine w_skip ?_
 refine tn ?_
 refine w_seq ?_
 refine w_seq ?_
 refine w_run mo (by rw [hN]; decide) fun K hK => ?_
 simp [-guardE_b, -Is_at, -Is_at', -Ls_at, -Ls_at', eL, eI, allInts, eP_Adj, eP_Cat, eP_Fn, eP_Tra, Adj.cells, Cat.cells, Fn.cells, Tra.cells]
 repeat (with_reducible refine And.intro ?_ ?_; · first | assumption | omega | (simp; done) | (simp; omega) | simp_all)
 refine hK _ ?_
 clear hK K
 refine tn ?_
 refine w_weak (st' := ⟨[(0, .rptr [.val (.int .i64 a_.l.s.n), .lst true 1 (Is a_.l.s.fr), .lst true 1 (Is a_.l.s.to), .lst true 1 (Is a_.l.s.id), .lst true 1 (Ls a_.l.s.cs), .val (.int .i64 a_.l.t.n), .lst true 1 (Is a_.l.t.fr), .lst true 1 (Is a_.l.t.to), .lst true 1 (Is a_.l.t.id), .lst true 1 (Ls a_.l.t.cs), .lst true 1 (Is a_.l.ob), .lst true 1 (Is a_.l.ar), .val (.int .i64 a_.r.s.n), .lst true 1 (Is a_.r.s.fr), .lst true 1 (Is a_.r.s.to), .lst true 1 (Is a_.r.s.id), .lst true 1 (Ls a_.r.s.cs), .val (.int .i64 a_.r.t.n), .lst true 1 (Is a_.r.t.fr), .lst true 1 (Is a_.r.t.to), .lst true 1 (Is a_.r.t.id), .lst true 1 (Ls a_.r.t.cs), .lst true 1 (Is a_.r.ob), .lst true 1 (Is a_.r.ar), .lst true 1 (Is a_.u), .lst true 1 (Is a_.k)]), (3, .rptr [.val (.int .i64 a_.l.s.n), .lst true 1 (Is a_.l.s.fr), .lst true 1 (Is a_.l.s.to), .lst true 1 (Is a_.l.s.id), .lst true 1 (Ls a_.l.s.cs), .val (.int .i64 a_.l.t.n), .lst true 1 (Is a_.l.t.fr), .lst true 1 (Is a_.l.t.to), .lst true 1 (Is a_.l.t.id), .lst true 1 (Ls a_.l.t.cs), .lst true 1 (Is a_.l.ob), .lst true 1 (Is a_.l.ar), .val (.int .i64 a_.r.s.n), .lst true 1 (Is a_.r.s.fr), .lst true 1 (Is a_.r.s.to), .lst true 1 (Is a_.r.s.id), .lst true 1 (Ls a_.r.s.cs), .val (.int .i64 a_.r.t.n), .lst true 1 (Is a_.r.t.fr), .lst true 1 (Is a_.r.t.to), .lst true 1 (Is a_.r.t.id), .lst true 1 (Ls a_.r.t.cs), .lst true 1 (Is a_.r.ob), .lst true 1 (Is a_.r.ar), .lst true 1 (Is a_.u), .lst true 1 (Is a_.k)]), (4, .rptr [.val (.int .i64 a_.l.t.n), .lst true 1 (Is a_.l.t.fr), .lst true 1 (Is a_.l.t.to), .lst true 1 (Is a_.l.t.id), .lst true 1 (Ls a_.l.t.cs), .lst true 1 (Is a_.l.ob), .lst true 1 (Is a_.l.ar), .val (.int .i64 a_.r.s.n), .lst true 1 (Is a_.r.s.fr), .lst true 1 (Is a_.r.s.to), .lst true 1 (Is a_.r.s.id), .lst true 1 (Ls a_.r.s.cs), .val (.int .i64 a_.r.t.n), .lst true 1 (Is a_.r.t.fr), .lst true 1 (Is a_.r.t.to), .lst true 1 (Is a_.r.t.id), .lst true 1 (Ls a_.r.t.cs), .lst true 1 (Is a_.r.ob), .lst true 1 (Is a_.r.ar), .lst true 1 (Is a_.u), .lst true 1 (Is a_.k)]), (62, .lst true 1 (Is a_.l.ob)), (63, .val (.int .i64 (a_.l.ob.length : Int))), (64, .val (.int .i64 0))], [], 0⟩) (Wk.rel [] (by simp) (by simp) (by rw [hP]; simp) (by simp) (by simp) (by simp [Adj.cells, Cat.cells, Fn.cells, Tra.cells, Is_append, Is_one, Ls_append, Ls_one, Bs_append, Bs_one, Es_append, Es_one, Es_set', eB, eI, eL]) (by simp [hhOk, back, Adj.cells, Cat.cells, Fn.cells, Tra.cells, Is_append, Is_one, Ls_append, Ls_one, Bs_append, Bs_one, Es_append, Es_one, Es_set', eB, eI, eL])) ?_
 replace h := bind_some h
 obtain ⟨e7, h, h7⟩ := h
 refine w_joinT (fun b7 : Unit => ⟨[(0, .rptr [.val (.int .i64 a_.l.s.n), .lst true 1 (Is a_.l.s.fr), .lst true 1 (Is a_.l.s.to), .lst true 1 (Is a_.l.s.id), .lst true 1 (Ls a_.l.s.cs), .val (.int .i64 a_.l.t.n), .lst true 1 (Is a_.l.t.fr), .lst true 1 (Is a_.l.t.to), .lst true 1 (Is a_.l.t.id), .lst true 1 (Ls a_.l.t.cs), .lst true 1 (Is a_.l.ob), .lst true 1 (Is a_.l.ar), .val (.int .i64 a_.r.s.n), .lst true 1 (Is a_.r.s.fr), .lst true 1 (Is a_.r.s.to), .lst true 1 (Is a_.r.s.id), .lst true 1 (Ls a_.r.s.cs), .val (.int .i64 a_.r.t.n), .lst true 1 (Is a_.r.t.fr), .lst true 1 (Is a_.r.t.to), .lst true 1 (Is a_.r.t.id), .lst true 1 (Ls a_.r.t.cs), .lst true 1 (Is a_.r.ob), .lst true 1 (Is a_.r.ar), .lst true 1 (Is a_.u), .lst true 1 (Is a_.k)]), (3, .rptr [.val (.int .i64 a_.l.s.n), .lst true 1 (Is a_.l.s.fr), .lst true 1 (Is a_.l.s.to), .lst true 1 (Is a_.l.s.id), .lst true 1 (Ls a_.l.s.cs), .val (.int .i64 a_.l.t.n), .lst true 1 (Is a_.l.t.fr), .lst true 1 (Is a_.l.t.to), .lst true 1 (Is a_.l.t.id), .lst true 1 (Ls a_.l.t.cs), .lst true 1 (Is a_.l.ob), .lst true 1 (Is a_.l.ar), .val (.int .i64 a_.r.s.n), .lst true 1 (Is a_.r.s.fr), .lst true 1 (Is a_.r.s.to), .lst true 1 (Is a_.r.s.id), .lst true 1 (Ls a_.r.s.cs), .val (.int .i64 a_.r.t.n), .lst true 1 (Is a_.r.t.fr), .lst true 1 (Is a_.r.t.to), .lst true 1 (Is a_.r.t.id), .lst true 1 (Ls a_.r.t.cs), .lst true 1 (Is a_.r.ob), .lst true 1 (Is a_.r.ar), .lst true 1 (Is a_.u), .lst true 1 (Is a_.k)])], [], 0⟩) (fun b7 => Sum.inl b7 = e7) ?_ ?_
 · refine w_block ?_
   refine w_loopF h (fun s17 : Int => ⟨[(0, .rptr [.val (.int .i64 a_.l.s.n), .lst true 1 (Is a_.l.s.fr), .lst true 1 (Is a_.l.s.to), .lst true 1 (Is a_.l.s.id), .lst true 1 (Ls a_.l.s.cs), .val (.int .i64 a_.l.t.n), .lst true 1 (Is a_.l.t.fr), .lst true 1 (Is a_.l.t.to), .lst true 1 (Is a_.l.t.id), .lst true 1 (Ls a_.l.t.cs), .lst true 1 (Is a_.l.ob), .lst true 1 (Is a_.l.ar), .val (.int .i64 a_.r.s.n), .lst true 1 (Is a_.r.s.fr), .lst true 1 (Is a_.r.s.to), .lst true 1 (Is a_.r.s.id), .lst true 1 (Ls a_.r.s.cs), .val (.int .i64 a_.r.t.n), .lst true 1 (Is a_.r.t.fr), .lst true 1 (Is a_.r.t.to), .lst true 1 (Is a_.r.t.id), .lst true 1 (Ls a_.r.t.cs), .lst true 1 (Is a_.r.ob), .lst true 1 (Is a_.r.ar), .lst true 1 (Is a_.u), .lst true 1 (Is a_.k)]), (3, .rptr [.val (.int .i64 a_.l.s.n), .lst true 1 (Is a_.l.s.fr), .lst true 1 (Is a_.l.s.to), .lst true 1 (Is a_.l.s.id), .lst true 1 (Ls a_.l.s.cs), .val (.int .i64 a_.l.t.n), .lst true 1 (Is a_.l.t.fr), .lst true 1 (Is a_.l.t.to), .lst true 1 (Is a_.l.t.id), .lst true 1 (Ls a_.l.t.cs), .lst true 1 (Is a_.l.ob), .lst true 1 (Is a_.l.ar), .val (.int .i64 a_.r.s.n), .lst true 1 (Is a_.r.s.fr), .lst true 1 (Is a_.r.s.to), .lst true 1 (Is a_.r.s.id), .lst true 1 (Ls a_.r.s.cs), .val (.int .i64 a_.r.t.n), .lst true 1 (Is a_.r.t.fr), .lst true 1 (Is a_.r.t.to), .lst true 1 (Is a_.r.t.id), .lst true 1 (Ls a_.r.t.cs), .lst true 1 (Is a_.r.ob), .lst true 1 (Is a_.r.ar), .lst true 1 (Is a_.u), .lst true 1 (Is a_.k)]), (4, .rptr [.val (.int .i64 a_.l.t.n), .lst true 1 (Is a_.l.t.fr), .lst true 1 (Is a_.l.t.to), .lst true 1 (Is a_.l.t.id), .lst true 1 (Ls a_.l.t.cs), .lst true 1 (Is a_.l.ob), .lst true 1 (Is a_.l.ar), .val (.int .i64 a_.r.s.n), .lst true 1 (Is a_.r.s.fr), .lst true 1 (Is a_.r.s.to), .lst true 1 (Is a_.r.s.id), .lst true 1 (Ls a_.r.s.cs), .val (.int .i64 a_.r.t.n), .lst true 1 (Is a_.r.t.fr), .lst true 1 (Is a_.r.t.to), .lst true 1 (Is a_.r.t.id), .lst true 1 (Ls a_.r.t.cs), .lst true 1 (Is a_.r.ob), .lst true 1 (Is a_.r.ar), .lst true 1 (Is a_.u), .lst true 1 (Is a_.k)]), (62, .lst true 1 (Is a_.l.ob)), (63, .val (.int .i64 (a_.l.ob.length : Int))), (64, .val (.int .i64 s17))], [], 0⟩) (Wk.rel [] (by simp) (by simp) (by rw [hP]; simp) (by simp) (by simp) (by simp [Adj.cells, Cat.cells, Fn.cells, Tra.cells, Is_append, Is_one, Ls_append, Ls_one, Bs_append, Bs_one, Es_append, Es_one, Es_set', eB, eI, eL]) (by simp [hhOk, back, Adj.cells, Cat.cells, Fn.cells, Tra.cells, Is_append, Is_one, Ls_append, Ls_one, Bs_append, Bs_one, Es_append, Es_one, Es_set', eB, eI, eL])) ?_
   clear h
   intro k17 s17 c17 h hk17
   refine w_seq ?_
   refine w_run mo (by rw [hN]; decide) fun K hK => ?_
   simp [-guardE_b, -Is_at, -Is_at', -Ls_at, -Ls_at', eL, eI, allInts, eP_Adj, eP_Cat, eP_Fn, eP_Tra, Adj.cells, Cat.cells, Fn.cells, Tra.cells]
   repeat (with_reducible refine And.intro ?_ ?_; · first | assumption | omega | (simp; done) | (simp; omega) | simp_all)
   refine hK _ ?_
   clear hK K
   refine tn ?_
   refine w_weak (st' := ⟨[(0, .rptr [.val (.int .i64 a_.l.s.n), .lst true 1 (Is a_.l.s.fr), .lst true 1 (Is a_.l.s.to), .lst true 1 (Is a_.l.s.id), .lst true 1 (Ls a_.l.s.cs), .val (.int .i64 a_.l.t.n), .lst true 1 (Is a_.l.t.fr), .lst true 1 (Is a_.l.t.to), .lst true 1 (Is a_.l.t.id), .lst true 1 (Ls a_.l.t.cs), .lst true 1 (Is a_.l.ob), .lst true 1 (Is a_.l.ar), .val (.int .i64 a_.r.s.n), .lst true 1 (Is a_.r.s.fr), .lst true 1 (Is a_.r.s.to), .lst true 1 (Is a_.r.s.id), .lst true 1 (Ls a_.r.s.cs), .val (.int .i64 a_.r.t.n), .lst true 1 (Is a_.r.t.fr), .lst true 1 (Is a_.r.t.to), .lst true 1 (Is a_.r.t.id), .lst true 1 (Ls a_.r.t.cs), .lst true 1 (Is a_.r.ob), .lst true 1 (Is a_.r.ar), .lst true 1 (Is a_.u), .lst true 1 (Is a_.k)]), (3, .rptr [.val (.int .i64 a_.l.s.n), .lst true 1 (Is a_.l.s.fr), .lst true 1 (Is a_.l.s.to), .lst true 1 (Is a_.l.s.id), .lst true 1 (Ls a_.l.s.cs), .val (.int .i64 a_.l.t.n), .lst true 1 (Is a_.l.t.fr), .lst true 1 (Is a_.l.t.to), .lst true 1 (Is a_.l.t.id), .lst true 1 (Ls a_.l.t.cs), .lst true 1 (Is a_.l.ob), .lst true 1 (Is a_.l.ar), .val (.int .i64 a_.r.s.n), .lst true 1 (Is a_.r.s.fr), .lst true 1 (Is a_.r.s.to), .lst true 1 (Is a_.r.s.id), .lst true 1 (Ls a_.r.s.cs), .val (.int .i64 a_.r.t.n), .lst true 1 (Is a_.r.t.fr), .lst true 1 (Is a_.r.t.to), .lst true 1 (Is a_.r.t.id), .lst true 1 (Ls a_.r.t.cs), .lst true 1 (Is a_.r.ob), .lst true 1 (Is a_.r.ar), .lst true 1 (Is a_.u), .lst true 1 (Is a_.k)]), (4, .rptr [.val (.int .i64 a_.l.t.n), .lst true 1 (Is a_.l.t.fr), .lst true 1 (Is a_.l.t.to), .lst true 1 (Is a_.l.t.id), .lst true 1 (Ls a_.l.t.cs), .lst true 1 (Is a_.l.ob), .lst true 1 (Is a_.l.ar), .val (.int .i64 a_.r.s.n), .lst true 1 (Is a_.r.s.fr), .lst true 1 (Is a_.r.s.to), .lst true 1 (Is a_.r.s.id), .lst true 1 (Ls a_.r.s.cs), .val (.int .i64 a_.r.t.n), .lst true 1 (Is a_.r.t.fr), .lst true 1 (Is a_.r.t.to), .lst true 1 (Is a_.r.t.id), .lst true 1 (Ls a_.r.t.cs), .lst true 1 (Is a_.r.ob), .lst true 1 (Is a_.r.ar), .lst true 1 (Is a_.u), .lst true 1 (Is a_.k)]), (62, .lst true 1 (Is a_.l.ob)), (63, .val (.int .i64 (a_.l.ob.length : Int))), (64, .val (.int .i64 s17)), (65, .val (.bool (decide (s17 < (a_.l.ob.length : Int)))))], [], 0⟩) (Wk.rel [] (by simp) (by simp) (by rw [hP]; simp) (by simp) (by simp) (by simp [Adj.cells, Cat.cells, Fn.cells, Tra.cells, Is_append, Is_one, Ls_append, Ls_one, Bs_append, Bs_one, Es_append, Es_one, Es_set', eB, eI, eL]) (by simp [hhOk, back, Adj.cells, Cat.cells, Fn.cells, Tra.cells, Is_append, Is_one, Ls_append, Ls_one, Bs_append, Bs_one, Es_append, Es_one, Es_set', eB, eI, eL])) ?_
   refine w_seq ?_
   refine w_cond rfl (fun g => ?_) fun g => ?_
   · have g18 : s17 < (a_.l.ob.length : Int) := by first | simpa using g | (simp at g; exact g) | (simp at g; omega)
     clear g
     replace h := if_l g18 h
     refine w_skip ?_
     refine tn ?_
     refine w_seq ?_
     refine w_block ?_
     refine w_seq ?_
     refine w_run mo (by rw [hN]; decide) fun K hK => ?_
     replace h := ass_some h
     obtain ⟨a19, h⟩ := h
     simp [-guardE_b, -Is_at, -Is_at', -Ls_at, -Ls_at', eL, eI, allInts, eP_Adj, eP_Cat, eP_Fn, eP_Tra, Adj.cells, Cat.cells, Fn.cells, Tra.cells, at_I a19]
     repeat (with_reducible refine And.intro ?_ ?_; · first | assumption | omega | (simp; done) | (simp; omega) | simp_all)
     refine hK _ ?_
     clear hK K
     refine tn ?_
     refine w_weak (st' := ⟨[(0, .rptr [.val (.int .i64 a_.l.s.n), .lst true 1 (Is a_.l.s.fr), .lst true 1 (Is a_.l.s.to), .lst true 1 (Is a_.l.s.id), .lst true 1 (Ls a_.l.s.cs), .val (.int .i64 a_.l.t.n), .lst true 1 (Is a_.l.t.fr), .lst true 1 (Is a_.l.t.to), .lst true 1 (Is a_.l.t.id), .lst true 1 (Ls a_.l.t.cs), .lst true 1 (Is a_.l.ob), .lst true 1 (Is a_.l.ar), .val (.int .i64 a_.r.s.n), .lst true 1 (Is a_.r.s.fr), .lst true 1 (Is a_.r.s.to), .lst true 1 (Is a_.r.s.id), .lst true 1 (Ls a_.r.s.cs), .val (.int .i64 a_.r.t.n), .lst true 1 (Is a_.r.t.fr), .lst true 1 (Is a_.r.t.to), .lst true 1 (Is a_.r.t.id), .lst true 1 (Ls a_.r.t.cs), .lst true 1 (Is a_.r.ob), .lst true 1 (Is a_.r.ar), .lst true 1 (Is a_.u), .lst true 1 (Is a_.k)]), (3, .rptr [.val (.int .i64 a_.l.s.n), .lst true 1 (Is a_.l.s.fr), .lst true 1 (Is a_.l.s.to), .lst true 1 (Is a_.l.s.id), .lst true 1 (Ls a_.l.s.cs), .val (.int .i64 a_.l.t.n), .lst true 1 (Is a_.l.t.fr), .lst true 1 (Is a_.l.t.to), .lst true 1 (Is a_.l.t.id), .lst true 1 (Ls a_.l.t.cs), .lst true 1 (Is a_.l.ob), .lst true 1 (Is a_.l.ar), .val (.int .i64 a_.r.s.n), .lst true 1 (Is a_.r.s.fr), .lst true 1 (Is a_.r.s.to), .lst true 1 (Is a_.r.s.id), .lst true 1 (Ls a_.r.s.cs), .val (.int .i64 a_.r.t.n), .lst true 1 (Is a_.r.t.fr), .lst true 1 (Is a_.r.t.to), .lst true 1 (Is a_.r.t.id), .lst true 1 (Ls a_.r.t.cs), .lst true 1 (Is a_.r.ob), .lst true 1 (Is a_.r.ar), .lst true 1 (Is a_.u), .lst true 1 (Is a_.k)]), (4, .rptr [.val (.int .i64 a_.l.t.n), .lst true 1 (Is a_.l.t.fr), .lst true 1 (Is a_.l.t.to), .lst true 1 (Is a_.l.t.id), .lst true 1 (Ls a_.l.t.cs), .lst true 1 (Is a_.l.ob), .lst true 1 (Is a_.l.ar), .val (.int .i64 a_.r.s.n), .lst true 1 (Is a_.r.s.fr), .lst true 1 (Is a_.r.s.to), .lst true 1 (Is a_.r.s.id), .lst true 1 (Ls a_.r.s.cs), .val (.int .i64 a_.r.t.n), .lst true 1 (Is a_.r.t.fr), .lst true 1 (Is a_.r.t.to), .lst true 1 (Is a_.r.t.id), .lst true 1 (Ls a_.r.t.cs), .lst true 1 (Is a_.r.ob), .lst true 1 (Is a_.r.ar), .lst true 1 (Is a_.u), .lst true 1 (Is a_.k)]), (11, .val (.int .i64 s17)), (12, .val (.int .i64 (ix a_.l.ob s17))), (62, .lst true 1 (Is a_.l.ob)), (63, .val (.int .i64 (a_.l.ob.length : Int))), (64, .val (.int .i64 s17))], [], 0⟩) (Wk.rel [] (by simp) (by simp) (by rw [hP]; simp) (by simp) (by simp) (by simp [Adj.cells, Cat.cells, Fn.cells, Tra.cells, Is_append, Is_one, Ls_append, Ls_one, Bs_append, Bs_one, Es_append, Es_one, Es_set', eB, eI, eL]) (by simp [hhOk, back, Adj.cells, Cat.cells, Fn.cells, Tra.cells, Is_append, Is_one, Ls_append, Ls_one, Bs_append, Bs_one, Es_append, Es_one, Es_set', eB, eI, eL])) ?_
     refine w_seq ?_
     refine w_run mo (by rw [hN]; decide) fun K hK => ?_
     replace h := ass_some h
     obtain ⟨a20, h⟩ := h
     replace h := ass_some h
     obtain ⟨a21, h⟩ := h
     replace h := ass_some h
     obtain ⟨a22, h⟩ := h
     simp [-guardE_b, -Is_at, -Is_at', -Ls_at, -Ls_at', eL, eI, allInts, eP_Adj, eP_Cat, eP_Fn, eP_Tra, Adj.cells, Cat.cells, Fn.cells, Tra.cells, at_I a20, at_I a21, at_I a22]
     repeat (with_reducible refine And.intro ?_ ?_; · first | assumption | omega | (simp; done) | (simp; omega) | simp_all)
     replace h := bind_some h
     obtain ⟨v23, hv23, h⟩ := h
     refine callA_intro (w_i_Category_then _ _ _ v23 hv23) (.cons (.preT (by simp [Adj.cells, Cat.cells, Fn.cells, Tra.cells])) (.cons .val (.cons .val .nil))) ?_
     replace h := ass_some h
     obtain ⟨a24, h⟩ := h
     simp [-guardE_b, -Is_at, -Is_at', -Ls_at, -Ls_at', unk, unA, unE, unT, unC, flat, eL, eI, allInts, eP_Adj, eP_Cat, eP_Fn, eP_Tra, Adj.cells, Cat.cells, Fn.cells, Tra.cells, at_I a24]
     repeat (with_reducible refine And.intro ?_ ?_; · first | assumption | omega | (simp; done) | (simp; omega) | simp_all)
     refine hK _ ?_
     clear hK K
     refine tn ?_
     refine w_weak (st' := ⟨[(0, .rptr [.val (.int .i64 a_.l.s.n), .lst true 1 (Is a_.l.s.fr), .lst true 1 (Is a_.l.s.to), .lst true 1 (Is a_.l.s.id), .lst true 1 (Ls a_.l.s.cs), .val (.int .i64 a_.l.t.n), .lst true 1 (Is a_.l.t.fr), .lst true 1 (Is a_.l.t.to), .lst true 1 (Is a_.l.t.id), .lst true 1 (Ls a_.l.t.cs), .lst true 1 (Is a_.l.ob), .lst true 1 (Is a_.l.ar), .val (.int .i64 a_.r.s.n), .lst true 1 (Is a_.r.s.fr), .lst true 1 (Is a_.r.s.to), .lst true 1 (Is a_.r.s.id), .lst true 1 (Ls a_.r.s.cs), .val (.int .i64 a_.r.t.n), .lst true 1 (Is a_.r.t.fr), .lst true 1 (Is a_.r.t.to), .lst true 1 (Is a_.r.t.id), .lst true 1 (Ls a_.r.t.cs), .lst true 1 (Is a_.r.ob), .lst true 1 (Is a_.r.ar), .lst true 1 (Is a_.u), .lst true 1 (Is a_.k)]), (3, .rptr [.val (.int .i64 a_.l.s.n), .lst true 1 (Is a_.l.s.fr), .lst true 1 (Is a_.l.s.to), .lst true 1 (Is a_.l.s.id), .lst true 1 (Ls a_.l.s.cs), .val (.int .i64 a_.l.t.n), .lst true 1 (Is a_.l.t.fr), .lst true 1 (Is a_.l.t.to), .lst true 1 (Is a_.l.t.id), .lst true 1 (Ls a_.l.t.cs), .lst true 1 (Is a_.l.ob), .lst true 1 (Is a_.l.ar), .val (.int .i64 a_.r.s.n), .lst true 1 (Is a_.r.s.fr), .lst true 1 (Is a_.r.s.to), .lst true 1 (Is a_.r.s.id), .lst true 1 (Ls a_.r.s.cs), .val (.int .i64 a_.r.t.n), .lst true 1 (Is a_.r.t.fr), .lst true 1 (Is a_.r.t.to), .lst true 1 (Is a_.r.t.id), .lst true 1 (Ls a_.r.t.cs), .lst true 1 (Is a_.r.ob), .lst true 1 (Is a_.r.ar), .lst true 1 (Is a_.u), .lst true 1 (Is a_.k)]), (4, .rptr [.val (.int .i64 a_.l.t.n), .lst true 1 (Is a_.l.t.fr), .lst true 1 (Is a_.l.t.to), .lst true 1 (Is a_.l.t.id), .lst true 1 (Ls a_.l.t.cs), .lst true 1 (Is a_.l.ob), .lst true 1 (Is a_.l.ar), .val (.int .i64 a_.r.s.n), .lst true 1 (Is a_.r.s.fr), .lst true 1 (Is a_.r.s.to), .lst true 1 (Is a_.r.s.id), .lst true 1 (Ls a_.r.s.cs), .val (.int .i64 a_.r.t.n), .lst true 1 (Is a_.r.t.fr), .lst true 1 (Is a_.r.t.to), .lst true 1 (Is a_.r.t.id), .lst true 1 (Ls a_.r.t.cs), .lst true 1 (Is a_.r.ob), .lst true 1 (Is a_.r.ar), .lst true 1 (Is a_.u), .lst true 1 (Is a_.k)]), (62, .lst true 1 (Is a_.l.ob)), (63, .val (.int .i64 (a_.l.ob.length : Int))), (64, .val (.int .i64 s17)), (99, .val (.bool (v23 != (ix a_.l.t.id (ix a_.l.ob s17)))))], [], 0⟩) (Wk.rel [] (by simp) (by simp) (by rw [hP]; simp) (by simp) (by simp) (by simp [Adj.cells, Cat.cells, Fn.cells, Tra.cells, Is_append, Is_one, Ls_append, Ls_one, Bs_append, Bs_one, Es_append, Es_one, Es_set', eB, eI, eL]) (by simp [hhOk, back, Adj.cells, Cat.cells, Fn.cells, Tra.cells, Is_append, Is_one, Ls_append, Ls_one, Bs_append, Bs_one, Es_append, Es_one, Es_set', eB, eI, eL])) ?_
     refine w_cond rfl (fun g => ?_) fun g => ?_
     · have g25 : ¬ (v23 = (ix a_.l.t.id (ix a_.l.ob s17))) := by first | simpa using g | (simp at g; exact g) | (simp at g; omega)
       clear g
       replace h := if_l g25 h
       refine w_seq ?_
       refine w_run mo (by rw [hN]; decide) fun K hK => ?_
       simp [-guardE_b, -Is_at, -Is_at', -Ls_at, -Ls_at', eL, eI, allInts, eP_Adj, eP_Cat, eP_Fn, eP_Tra, Adj.cells, Cat.cells, Fn.cells, Tra.cells]
       repeat (with_reducible refine And.intro ?_ ?_; · first | assumption | omega | (simp; done) | (simp; omega) | simp_all)
       refine hK _ ?_
       clear hK K
       refine tn ?_
       refine w_weak (st' := ⟨[(2, .val (.bool false))], [], 0⟩) (Wk.rel [] (by simp) (by simp) (by rw [hP]; simp) (by simp) (by simp) (by simp [Adj.cells, Cat.cells, Fn.cells, Tra.cells, Is_append, Is_one, Ls_append, Ls_one, Bs_append, Bs_one, Es_append, Es_one, Es_set', eB, eI, eL]) (by simp [hhOk, back, Adj.cells, Cat.cells, Fn.cells, Tra.cells, Is_append, Is_one, Ls_append, Ls_one, Bs_append, Bs_one, Es_append, Es_one, Es_set', eB, eI, eL])) ?_
       refine w_ret ?_
       refine br ?_
       refine tr ?_
       refine lr ?_
       refine br ?_
       refine tr ?_
       cases h
       have q : _ = e7 := hk17
       have h := h7
       rw [← q] at h
       clear q
       try dsimp only at h
       have hr := Option.some.inj h
       rw [← hr]
       refine ⟨_, (.tmp .nil), ?_⟩
       refine ⟨(.one rfl rfl .nil), [.val (.bool false)], [], by simp [Adj.cells, Cat.cells, Fn.cells, Tra.cells, Is_append, Is_one, Ls_append, Ls_one, Bs_append, Bs_one, Es_append, Es_one, Es_set', eB, eI, eL], by simp, (UpL.refl _)⟩
     have g25 : ¬ (¬ (v23 = (ix a_.l.t.id (ix a_.l.ob s17)))) := by first | simpa using g | (simp at g; exact g) | (simp at g; omega)
     clear g
     replace h := if_r g25 h
     refine w_skip ?_
     refine bn ?_
     refine tn ?_
     refine w_run mo (by rw [hN]; decide) fun K hK => ?_
     replace h := ass_some h
     obtain ⟨a26, h⟩ := h
     simp [-guardE_b, -Is_at, -Is_at', -Ls_at, -Ls_at', eL, eI, allInts, eP_Adj, eP_Cat, eP_Fn, eP_Tra, Adj.cells, Cat.cells, Fn.cells, Tra.cells, wrap_id a26]
     repeat (with_reducible refine And.intro ?_ ?_; · first | assumption | omega | (simp; done) | (simp; omega) | simp_all)
     refine hK _ ?_
     clear hK K
     cases h
     exact rn (s' := s17 + 1) hk17 (Wk.rel [] (by simp) (by simp) (by rw [hP]; simp) (by simp) (by simp) (by simp [Adj.cells, Cat.cells, Fn.cells, Tra.cells, Is_append, Is_one, Ls_append, Ls_one, Bs_append, Bs_one, Es_append, Es_one, Es_set', eB, eI, eL]) (by simp [hhOk, back, Adj.cells, Cat.cells, Fn.cells, Tra.cells, Is_append, Is_one, Ls_append, Ls_one, Bs_append, Bs_one, Es_append, Es_one, Es_set', eB, eI, eL]))
   have g18 : ¬ (s17 < (a_.l.ob.length : Int)) := by first | simpa using g | (simp at g; exact g) | (simp at g; omega)
   clear g
   replace h := if_r g18 h
   refine w_exit ?_
   refine tx ?_
   refine lx ?_
   refine bh ?_
   cases h
   exact jn (b := ()) hk17 (Wk.rel [] (by simp) (by simp) (by rw [hP]; simp) (by simp) (by simp) (by simp [Adj.cells, Cat.cells, Fn.cells, Tra.cells, Is_append, Is_one, Ls_append, Ls_one, Bs_append, Bs_one, Es_append, Es_one, Es_set', eB, eI, eL]) (by simp [hhOk, back, Adj.cells, Cat.cells, Fn.cells, Tra.cells, Is_append, Is_one, Ls_append, Ls_one, Bs_append, Bs_one, Es_append, Es_one, Es_set', eB, eI, eL]))
 intro b7 hb7
 have h := h7
 rw [← hb7] at h
 clear h7
 try dsimp only at h
 refine w_seq ?_
 refine w_seq ?_
 refine w_run mo (by rw [hN]; decide) fun K hK => ?_
 simp [-guardE_b, -Is_at, -Is_at', -Ls_at, -Ls_at', eL, eI, allInts, eP_Adj, eP_Cat, eP_Fn, eP_Tra, Adj.cells, Cat.cells, Fn.cells, Tra.cells]
 repeat (with_reducible refine And.intro ?_ ?_; · first | assumption | omega | (simp; done) | (simp; omega) | simp_all)
 refine hK _ ?_
 clear hK K
 refine tn ?_
 refine w_weak (st' := ⟨[(0, .rptr [.val (.int .i64 a_.l.s.n), .lst true 1 (Is a_.l.s.fr), .lst true 1 (Is a_.l.s.to), .lst true 1 (Is a_.l.s.id), .lst true 1 (Ls a_.l.s.cs), .val (.int .i64 a_.l.t.n), .lst true 1 (Is a_.l.t.fr), .lst true 1 (Is a_.l.t.to), .lst true 1 (Is a_.l.t.id), .lst true 1 (Ls a_.l.t.cs), .lst true 1 (Is a_.l.ob), .lst true 1 (Is a_.l.ar), .val (.int .i64 a_.r.s.n), .lst true 1 (Is a_.r.s.fr), .lst true 1 (Is a_.r.s.to), .lst true 1 (Is a_.r.s.id), .lst true 1 (Ls a_.r.s.cs), .val (.int .i64 a_.r.t.n), .lst true 1 (Is a_.r.t.fr), .lst true 1 (Is a_.r.t.to), .lst true 1 (Is a_.r.t.id), .lst true 1 (Ls a_.r.t.cs), .lst true 1 (Is a_.r.ob), .lst true 1 (Is a_.r.ar), .lst true 1 (Is a_.u), .lst true 1 (Is a_.k)]), (3, .rptr [.val (.int .i64 a_.l.s.n), .lst true 1 (Is a_.l.s.fr), .lst true 1 (Is a_.l.s.to), .lst true 1 (Is a_.l.s.id), .lst true 1 (Ls a_.l.s.cs), .val (.int .i64 a_.l.t.n), .lst true 1 (Is a_.l.t.fr), .lst true 1 (Is a_.l.t.to), .lst true 1 (Is a_.l.t.id), .lst true 1 (Ls a_.l.t.cs), .lst true 1 (Is a_.l.ob), .lst true 1 (Is a_.l.ar), .val (.int .i64 a_.r.s.n), .lst true 1 (Is a_.r.s.fr), .lst true 1 (Is a_.r.s.to), .lst true 1 (Is a_.r.s.id), .lst true 1 (Ls a_.r.s.cs), .val (.int .i64 a_.r.t.n), .lst true 1 (Is a_.r.t.fr), .lst true 1 (Is a_.r.t.to), .lst true 1 (Is a_.r.t.id), .lst true 1 (Ls a_.r.t.cs), .lst true 1 (Is a_.r.ob), .lst true 1 (Is a_.r.ar), .lst true 1 (Is a_.u), .lst true 1 (Is a_.k)]), (105, .lst true 1 (Is a_.r.ob)), (106, .val (.int .i64 (a_.r.ob.length : Int))), (107, .val (.int .i64 0))], [], 0⟩) (Wk.rel [] (by simp) (by simp) (by rw [hP]; simp) (by simp) (by simp) (by simp [Adj.cells, Cat.cells, Fn.cells, Tra.cells, Is_append, Is_one, Ls_append, Ls_one, Bs_append, Bs_one, Es_append, Es_one, Es_set', eB, eI, eL]) (by simp [hhOk, back, Adj.cells, Cat.cells, Fn.cells, Tra.cells, Is_append, Is_one, Ls_append, Ls_one, Bs_append, Bs_one, Es_append, Es_one, Es_set', eB, eI, eL])) ?_
 replace h := bind_some h
 obtain ⟨e27, h, h27⟩ := h
 refine w_joinT (fun b27 : Unit => ⟨[], [], 0⟩) (fun b27 => Sum.inl b27 = e27) ?_ ?_
 · refine w_block ?_
   refine w_loopF h (fun s37 : Int => ⟨[(0, .rptr [.val (.int .i64 a_.l.s.n), .lst true 1 (Is a_.l.s.fr), .lst true 1 (Is a_.l.s.to), .lst true 1 (Is a_.l.s.id), .lst true 1 (Ls a_.l.s.cs), .val (.int .i64 a_.l.t.n), .lst true 1 (Is a_.l.t.fr), .lst true 1 (Is a_.l.t.to), .lst true 1 (Is a_.l.t.id), .lst true 1 (Ls a_.l.t.cs), .lst true 1 (Is a_.l.ob), .lst true 1 (Is a_.l.ar), .val (.int .i64 a_.r.s.n), .lst true 1 (Is a_.r.s.fr), .lst true 1 (Is a_.r.s.to), .lst true 1 (Is a_.r.s.id), .lst true 1 (Ls a_.r.s.cs), .val (.int .i64 a_.r.t.n), .lst true 1 (Is a_.r.t.fr), .lst true 1 (Is a_.r.t.to), .lst true 1 (Is a_.r.t.id), .lst true 1 (Ls a_.r.t.cs), .lst true 1 (Is a_.r.ob), .lst true 1 (Is a_.r.ar), .lst true 1 (Is a_.u), .lst true 1 (Is a_.k)]), (3, .rptr [.val (.int .i64 a_.l.s.n), .lst true 1 (Is a_.l.s.fr), .lst true 1 (Is a_.l.s.to), .lst true 1 (Is a_.l.s.id), .lst true 1 (Ls a_.l.s.cs), .val (.int .i64 a_.l.t.n), .lst true 1 (Is a_.l.t.fr), .lst true 1 (Is a_.l.t.to), .lst true 1 (Is a_.l.t.id), .lst true 1 (Ls a_.l.t.cs), .lst true 1 (Is a_.l.ob), .lst true 1 (Is a_.l.ar), .val (.int .i64 a_.r.s.n), .lst true 1 (Is a_.r.s.fr), .lst true 1 (Is a_.r.s.to), .lst true 1 (Is a_.r.s.id), .lst true 1 (Ls a_.r.s.cs), .val (.int .i64 a_.r.t.n), .lst true 1 (Is a_.r.t.fr), .lst true 1 (Is a_.r.t.to), .lst true 1 (Is a_.r.t.id), .lst true 1 (Ls a_.r.t.cs), .lst true 1 (Is a_.r.ob), .lst true 1 (Is a_.r.ar), .lst true 1 (Is a_.u), .lst true 1 (Is a_.k)]), (105, .lst true 1 (Is a_.r.ob)), (106, .val (.int .i64 (a_.r.ob.length : Int))), (107, .val (.int .i64 s37))], [], 0⟩) (Wk.rel [] (by simp) (by simp) (by rw [hP]; simp) (by simp) (by simp) (by simp [Adj.cells, Cat.cells, Fn.cells, Tra.cells, Is_append, Is_one, Ls_append, Ls_one, Bs_append, Bs_one, Es_append, Es_one, Es_set', eB, eI, eL]) (by simp [hhOk, back, Adj.cells, Cat.cells, Fn.cells, Tra.cells, Is_append, Is_one, Ls_append, Ls_one, Bs_append, Bs_one, Es_append, Es_one, Es_set', eB, eI, eL])) ?_
   clear h
   intro k37 s37 c37 h hk37
   refine w_seq ?_
   refine w_run mo (by rw [hN]; decide) fun K hK => ?_
   simp [-guardE_b, -Is_at, -Is_at', -Ls_at, -Ls_at', eL, eI, allInts, eP_Adj, eP_Cat, eP_Fn, eP_Tra, Adj.cells, Cat.cells, Fn.cells, Tra.cells]
   repeat (with_reducible refine And.intro ?_ ?_; · first | assumption | omega | (simp; done) | (simp; omega) | simp_all)
   refine hK _ ?_
   clear hK K
   refine tn ?_
   refine w_weak (st' := ⟨[(0, .rptr [.val (.int .i64 a_.l.s.n), .lst true 1 (Is a_.l.s.fr), .lst true 1 (Is a_.l.s.to), .lst true 1 (Is a_.l.s.id), .lst true 1 (Ls a_.l.s.cs), .val (.int .i64 a_.l.t.n), .lst true 1 (Is a_.l.t.fr), .lst true 1 (Is a_.l.t.to), .lst true 1 (Is a_.l.t.id), .lst true 1 (Ls a_.l.t.cs), .lst true 1 (Is a_.l.ob), .lst true 1 (Is a_.l.ar), .val (.int .i64 a_.r.s.n), .lst true 1 (Is a_.r.s.fr), .lst true 1 (Is a_.r.s.to), .lst true 1 (Is a_.r.s.id), .lst true 1 (Ls a_.r.s.cs), .val (.int .i64 a_.r.t.n), .lst true 1 (Is a_.r.t.fr), .lst true 1 (Is a_.r.t.to), .lst true 1 (Is a_.r.t.id), .lst true 1 (Ls a_.r.t.cs), .lst true 1 (Is a_.r.ob), .lst true 1 (Is a_.r.ar), .lst true 1 (Is a_.u), .lst true 1 (Is a_.k)]), (3, .rptr [.val (.int .i64 a_.l.s.n), .lst true 1 (Is a_.l.s.fr), .lst true 1 (Is a_.l.s.to), .lst true 1 (Is a_.l.s.id), .lst true 1 (Ls a_.l.s.cs), .val (.int .i64 a_.l.t.n), .lst true 1 (Is a_.l.t.fr), .lst true 1 (Is a_.l.t.to), .lst true 1 (Is a_.l.t.id), .lst true 1 (Ls a_.l.t.cs), .lst true 1 (Is a_.l.ob), .lst true 1 (Is a_.l.ar), .val (.int .i64 a_.r.s.n), .lst true 1 (Is a_.r.s.fr), .lst true 1 (Is a_.r.s.to), .lst true 1 (Is a_.r.s.id), .lst true 1 (Ls a_.r.s.cs), .val (.int .i64 a_.r.t.n), .lst true 1 (Is a_.r.t.fr), .lst true 1 (Is a_.r.t.to), .lst true 1 (Is a_.r.t.id), .lst true 1 (Ls a_.r.t.cs), .lst true 1 (Is a_.r.ob), .lst true 1 (Is a_.r.ar), .lst true 1 (Is a_.u), .lst true 1 (Is a_.k)]), (105, .lst true 1 (Is a_.r.ob)), (106, .val (.int .i64 (a_.r.ob.length : Int))), (107, .val (.int .i64 s37)), (108, .val (.bool (decide (s37 < (a_.r.ob.length : Int)))))], [], 0⟩) (Wk.rel [] (by simp) (by simp) (by rw [hP]; simp) (by simp) (by simp) (by simp [Adj.cells, Cat.cells, Fn.cells, Tra.cells, Is_append, Is_one, Ls_append, Ls_one, Bs_append, Bs_one, Es_append, Es_one, Es_set', eB, eI, eL]) (by simp [hhOk, back, Adj.cells, Cat.cells, Fn.cells, Tra.cells, Is_append, Is_one, Ls_append, Ls_one, Bs_append, Bs_one, Es_append, Es_one, Es_set', eB, eI, eL])) ?_
   refine w_seq ?_
   refine w_cond rfl (fun g => ?_) fun g => ?_
   · have g38 : s37 < (a_.r.ob.length : Int) := by first | simpa using g | (simp at g; exact g) | (simp at g; omega)
     clear g
     replace h := if_l g38 h
     refine w_skip ?_
     refine tn ?_
     refine w_seq ?_
     refine w_block ?_
     refine w_seq ?_
     refine w_run mo (by rw [hN]; decide) fun K hK => ?_
     replace h := ass_some h
     obtain ⟨a39, h⟩ := h
     simp [-guardE_b, -Is_at, -Is_at', -Ls_at, -Ls_at', eL, eI, allInts, eP_Adj, eP_Cat, eP_Fn, eP_Tra, Adj.cells, Cat.cells, Fn.cells, Tra.cells, at_I a39]
     repeat (with_reducible refine And.intro ?_ ?_; · first | assumption | omega | (simp; done) | (simp; omega) | simp_all)
     refine hK _ ?_
     clear hK K
     refine tn ?_
     refine w_weak (st' := ⟨[(0, .rptr [.val (.int .i64 a_.l.s.n), .lst true 1 (Is a_.l.s.fr), .lst true 1 (Is a_.l.s.to), .lst true 1 (Is a_.l.s.id), .lst true 1 (Ls a_.l.s.cs), .val (.int .i64 a_.l.t.n), .lst true 1 (Is a_.l.t.fr), .lst true 1 (Is a_.l.t.to), .lst true 1 (Is a_.l.t.id), .lst true 1 (Ls a_.l.t.cs), .lst true 1 (Is a_.l.ob), .lst true 1 (Is a_.l.ar), .val (.int .i64 a_.r.s.n), .lst true 1 (Is a_.r.s.fr), .lst true 1 (Is a_.r.s.to), .lst true 1 (Is a_.r.s.id), .lst true 1 (Ls a_.r.s.cs), .val (.int .i64 a_.r.t.n), .lst true 1 (Is a_.r.t.fr), .lst true 1 (Is a_.r.t.to), .lst true 1 (Is a_.r.t.id), .lst true 1 (Ls a_.r.t.cs), .lst true 1 (Is a_.r.ob), .lst true 1 (Is a_.r.ar), .lst true 1 (Is a_.u), .lst true 1 (Is a_.k)]), (3, .rptr [.val (.int .i64 a_.l.s.n), .lst true 1 (Is a_.l.s.fr), .lst true 1 (Is a_.l.s.to), .lst true 1 (Is a_.l.s.id), .lst true 1 (Ls a_.l.s.cs), .val (.int .i64 a_.l.t.n), .lst true 1 (Is a_.l.t.fr), .lst true 1 (Is a_.l.t.to), .lst true 1 (Is a_.l.t.id), .lst true 1 (Ls a_.l.t.cs), .lst true 1 (Is a_.l.ob), .lst true 1 (Is a_.l.ar), .val (.int .i64 a_.r.s.n), .lst true 1 (Is a_.r.s.fr), .lst true 1 (Is a_.r.s.to), .lst true 1 (Is a_.r.s.id), .lst true 1 (Ls a_.r.s.cs), .val (.int .i64 a_.r.t.n), .lst true 1 (Is a_.r.t.fr), .lst true 1 (Is a_.r.t.to), .lst true 1 (Is a_.r.t.id), .lst true 1 (Ls a_.r.t.cs), .lst true 1 (Is a_.r.ob), .lst true 1 (Is a_.r.ar), .lst true 1 (Is a_.u), .lst true 1 (Is a_.k)]), (13, .val (.int .i64 s37)), (14, .val (.int .i64 (ix a_.r.ob s37))), (105, .lst true 1 (Is a_.r.ob)), (106, .val (.int .i64 (a_.r.ob.length : Int))), (107, .val (.int .i64 s37))], [], 0⟩) (Wk.rel [] (by simp) (by simp) (by rw [hP]; simp) (by simp) (by simp) (by simp [Adj.cells, Cat.cells, Fn.cells, Tra.cells, Is_append, Is_one, Ls_append, Ls_one, Bs_append, Bs_one, Es_append, Es_one, Es_set', eB, eI, eL]) (by simp [hhOk, back, Adj.cells, Cat.cells, Fn.cells, Tra.cells, Is_append, Is_one, Ls_append, Ls_one, Bs_append, Bs_one, Es_append, Es_one, Es_set', eB, eI, eL])) ?_
     refine w_seq ?_
     refine w_run mo (by rw [hN]; decide) fun K hK => ?_
     replace h := ass_some h
     obtain ⟨a40, h⟩ := h
     replace h := ass_some h
     obtain ⟨a41, h⟩ := h
     replace h := ass_some h
     obtain ⟨a42, h⟩ := h
     simp [-guardE_b, -Is_at, -Is_at', -Ls_at, -Ls_at', eL, eI, allInts, eP_Adj, eP_Cat, eP_Fn, eP_Tra, Adj.cells, Cat.cells, Fn.cells, Tra.cells, at_I a40, at_I a41, at_I a42]
     repeat (with_reducible refine And.intro ?_ ?_; · first | assumption | omega | (simp; done) | (simp; omega) | simp_all)
     replace h := bind_some h
     obtain ⟨v43, hv43, h⟩ := h
     refine callA_intro (w_i_Category_then _ _ _ v43 hv43) (.cons (.preT (by simp [Adj.cells, Cat.cells, Fn.cells, Tra.cells])) (.cons .val (.cons .val .nil))) ?_
     replace h := ass_some h
     obtain ⟨a44, h⟩ := h
     simp [-guardE_b, -Is_at, -Is_at', -Ls_at, -Ls_at', unk, unA, unE, unT, unC, flat, eL, eI, allInts, eP_Adj, eP_Cat, eP_Fn, eP_Tra, Adj.cells, Cat.cells, Fn.cells, Tra.cells, at_I a44]
     repeat (with_reducible refine And.intro ?_ ?_; · first | assumption | omega | (simp; done) | (simp; omega) | simp_all)
     refine hK _ ?_
     clear hK K
     refine tn ?_
     refine w_weak (st' := ⟨[(0, .rptr [.val (.int .i64 a_.l.s.n), .lst true 1 (Is a_.l.s.fr), .lst true 1 (Is a_.l.s.to), .lst true 1 (Is a_.l.s.id), .lst true 1 (Ls a_.l.s.cs), .val (.int .i64 a_.l.t.n), .lst true 1 (Is a_.l.t.fr), .lst true 1 (Is a_.l.t.to), .lst true 1 (Is a_.l.t.id), .lst true 1 (Ls a_.l.t.cs), .lst true 1 (Is a_.l.ob), .lst true 1 (Is a_.l.ar), .val (.int .i64 a_.r.s.n), .lst true 1 (Is a_.r.s.fr), .lst true 1 (Is a_.r.s.to), .lst true 1 (Is a_.r.s.id), .lst true 1 (Ls a_.r.s.cs), .val (.int .i64 a_.r.t.n), .lst true 1 (Is a_.r.t.fr), .lst true 1 (Is a_.r.t.to), .lst true 1 (Is a_.r.t.id), .lst true 1 (Ls a_.r.t.cs), .lst true 1 (Is a_.r.ob), .lst true 1 (Is a_.r.ar), .lst true 1 (Is a_.u), .lst true 1 (Is a_.k)]), (3, .rptr [.val (.int .i64 a_.l.s.n), .lst true 1 (Is a_.l.s.fr), .lst true 1 (Is a_.l.s.to), .lst true 1 (Is a_.l.s.id), .lst true 1 (Ls a_.l.s.cs), .val (.int .i64 a_.l.t.n), .lst true 1 (Is a_.l.t.fr), .lst true 1 (Is a_.l.t.to), .lst true 1 (Is a_.l.t.id), .lst true 1 (Ls a_.l.t.cs), .lst true 1 (Is a_.l.ob), .lst true 1 (Is a_.l.ar), .val (.int .i64 a_.r.s.n), .lst true 1 (Is a_.r.s.fr), .lst true 1 (Is a_.r.s.to), .lst true 1 (Is a_.r.s.id), .lst true 1 (Ls a_.r.s.cs), .val (.int .i64 a_.r.t.n), .lst true 1 (Is a_.r.t.fr), .lst true 1 (Is a_.r.t.to), .lst true 1 (Is a_.r.t.id), .lst true 1 (Ls a_.r.t.cs), .lst true 1 (Is a_.r.ob), .lst true 1 (Is a_.r.ar), .lst true 1 (Is a_.u), .lst true 1 (Is a_.k)]), (105, .lst true 1 (Is a_.r.ob)), (106, .val (.int .i64 (a_.r.ob.length : Int))), (107, .val (.int .i64 s37)), (142, .val (.bool (v43 != (ix a_.l.s.id (ix a_.r.ob s37)))))], [], 0⟩) (Wk.rel [] (by simp) (by simp) (by rw [hP]; simp) (by simp) (by simp) (by simp [Adj.cells, Cat.cells, Fn.cells, Tra.cells, Is_append, Is_one, Ls_append, Ls_one, Bs_append, Bs_one, Es_append, Es_one, Es_set', eB, eI, eL]) (by simp [hhOk, back, Adj.cells, Cat.cells, Fn.cells, Tra.cells, Is_append, Is_one, Ls_append, Ls_one, Bs_append, Bs_one, Es_append, Es_one, Es_set', eB, eI, eL])) ?_
     refine w_cond rfl (fun g => ?_) fun g => ?_
     · have g45 : ¬ (v43 = (ix a_.l.s.id (ix a_.r.ob s37))) := by first | simpa using g | (simp at g; exact g) | (simp at g; omega)
       clear g
       replace h := if_l g45 h
       refine w_seq ?_
       refine w_run mo (by rw [hN]; decide) fun K hK => ?_
       simp [-guardE_b, -Is_at, -Is_at', -Ls_at, -Ls_at', eL, eI, allInts, eP_Adj, eP_Cat, eP_Fn, eP_Tra, Adj.cells, Cat.cells, Fn.cells, Tra.cells]
       repeat (with_reducible refine And.intro ?_ ?_; · first | assumption | omega | (simp; done) | (simp; omega) | simp_all)
       refine hK _ ?_
       clear hK K
       refine tn ?_
       refine w_weak (st' := ⟨[(2, .val (.bool false))], [], 0⟩) (Wk.rel [] (by simp) (by simp) (by rw [hP]; simp) (by simp) (by simp) (by simp [Adj.cells, Cat.cells, Fn.cells, Tra.cells, Is_append, Is_one, Ls_append, Ls_one, Bs_append, Bs_one, Es_append, Es_one, Es_set', eB, eI, eL]) (by simp [hhOk, back, Adj.cells, Cat.cells, Fn.cells, Tra.cells, Is_append, Is_one, Ls_append, Ls_one, Bs_append, Bs_one, Es_append, Es_one, Es_set', eB, eI, eL])) ?_
       refine w_ret ?_
       refine br ?_
       refine tr ?_
       refine lr ?_
       refine br ?_
       refine tr ?_
       cases h
       have q : _ = e27 := hk37
       have h := h27
       rw [← q] at h
       clear q
       try dsimp only at h
       have hr := Option.some.inj h
       rw [← hr]
       refine ⟨_, (.tmp .nil), ?_⟩
       refine ⟨(.one rfl rfl .nil), [.val (.bool false)], [], by simp [Adj.cells, Cat.cells, Fn.cells, Tra.cells, Is_append, Is_one, Ls_append, Ls_one, Bs_append, Bs_one, Es_append, Es_one, Es_set', eB, eI, eL], by simp, (UpL.refl _)⟩
     have g45 : ¬ (¬ (v43 = (ix a_.l.s.id (ix a_.r.ob s37)))) := by first | simpa using g | (simp at g; exact g) | (simp at g; omega)
     clear g
     replace h := if_r g45 h
     refine w_skip ?_
     refine bn ?_
     refine tn ?_
     refine w_run mo (by rw [hN]; decide) fun K hK => ?_
     replace h := ass_some h
     obtain ⟨a46, h⟩ := h
     simp [-guardE_b, -Is_at, -Is_at', -Ls_at, -Ls_at', eL, eI, allInts, eP_Adj, eP_Cat, eP_Fn, eP_Tra, Adj.cells, Cat.cells, Fn.cells, Tra.cells, wrap_id a46]
     repeat (with_reducible refine And.intro ?_ ?_; · first | assumption | omega | (simp; done) | (simp; omega) | simp_all)
     refine hK _ ?_
     clear hK K
     cases h
     exact rn (s' := s37 + 1) hk37 (Wk.rel [] (by simp) (by simp) (by rw [hP]; simp) (by simp) (by simp) (by simp [Adj.cells, Cat.cells, Fn.cells, Tra.cells, Is_append, Is_one, Ls_append, Ls_one, Bs_append, Bs_one, Es_append, Es_one, Es_set', eB, eI, eL]) (by simp [hhOk, back, Adj.cells, Cat.cells, Fn.cells, Tra.cells, Is_append, Is_one, Ls_append, Ls_one, Bs_append, Bs_one, Es_append, Es_one, Es_set', eB, eI, eL]))
   have g38 : ¬ (s37 < (a_.r.ob.length : Int)) := by first | simpa using g | (simp at g; exact g) | (simp at g; omega)
   clear g
   replace h := if_r g38 h
   refine w_exit ?_
   refine tx ?_
   refine lx ?_
   refine bh ?_
   cases h
   exact jn (b := ()) hk37 (Wk.rel [] (by simp) (by simp) (by rw [hP]; simp) (by simp) (by simp) (by simp [Adj.cells, Cat.cells, Fn.cells, Tra.cells, Is_append, Is_one, Ls_append, Ls_one, Bs_append, Bs_one, Es_append, Es_one, Es_set', eB, eI, eL]) (by simp [hhOk, back, Adj.cells, Cat.cells, Fn.cells, Tra.cells, Is_append, Is_one, Ls_append, Ls_one, Bs_append, Bs_one, Es_append, Es_one, Es_set', eB, eI, eL]))
 intro b27 hb27
 have h := h27
 rw [← hb27] at h
 clear h27
 try dsimp only at h
 refine w_seq ?_
 refine w_run mo (by rw [hN]; decide) fun K hK => ?_
 simp [-guardE_b, -Is_at, -Is_at', -Ls_at, -Ls_at', eL, eI, allInts, eP_Adj, eP_Cat, eP_Fn, eP_Tra, Adj.cells, Cat.cells, Fn.cells, Tra.cells]
 repeat (with_reducible refine And.intro ?_ ?_; · first | assumption | omega | (simp; done) | (simp; omega) | simp_all)
 refine hK _ ?_
 clear hK K
 refine tn ?_
 refine w_weak (st' := ⟨[(2, .val (.bool true))], [], 0⟩) (Wk.rel [] (by simp) (by simp) (by rw [hP]; simp) (by simp) (by simp) (by simp [Adj.cells, Cat.cells, Fn.cells, Tra.cells, Is_append, Is_one, Ls_append, Ls_one, Bs_append, Bs_one, Es_append, Es_one, Es_set', eB, eI, eL]) (by simp [hhOk, back, Adj.cells, Cat.cells, Fn.cells, Tra.cells, Is_append, Is_one, Ls_append, Ls_one, Bs_append, Bs_one, Es_append, Es_one, Es_set', eB, eI, eL])) ?_
 refine w_ret ?_
 have hr := Option.some.inj h
 rw [← hr]
 refine ⟨_, (.tmp .nil), ?_⟩
 refine ⟨(.one rfl rfl .nil), [.val (.bool true)], [], by simp [Adj.cells, Cat.cells, Fn.cells, Tra.cells, Is_append, Is_one, Ls_append, Ls_one, Bs_append, Bs_one, Es_append, Es_one, Es_set', eB, eI, eL], by simp, (UpL.refl _)⟩
end Go.Vc.T

set_option maxRecDepth 100000
set_option linter.unusedSimpArgs false
set_option linter.unusedVariables false
namespace Go.Vc.T
open Go Go.Vc Go.Proofs
noncomputable def s_i_Adjunction_isAdjunction (a_ : Adj) : Option Bool :=
 (
   (s_i_areFunctors [a_.l, a_.r]).bind fun v2 =>
   if v2 = true then
     (s_i_leadBack a_.l a_.r).bind fun v4 =>
     if v4 = true then
       (s_i_Adjunction_fits a_).bind fun v6 =>
       some v6
     else
       some false
   else
     some false : Option (Bool)).bind fun b1 =>
 some b1
set_option maxHeartbeats 4000000 in
theorem w_i_Adjunction_isAdjunction (a_ : Adj) (r : Bool) (h : s_i_Adjunction_isAdjunction a_ = some r) : Contract Try.prog 79 [.rptr (a_.cells true)] (.val (.bool r)) := by
 refine contract_introG (rvs := [.tmp 2]) (rs := [.val (.bool r)]) Try.func79 rfl rfl rfl rfl (by simp [Try.f79]) fun F hN hP => ?_
 unfold s_i_Adjunction_isAdjunction at h
 refine w_seq ?_
 refine w_run mo (by rw [hN]; decide) fun K hK => ?_
 simp [-guardE_b, -Is_at, -Is_at', -Ls_at, -Ls_at', eL, eI, allInts, eP_Adj, eP_Fn, Adj.cells, Fn.cells]
 repeat (with_reducible refine And.intro ?_ ?_; · first | assumption | omega | (simp; done) | (simp; omega) | simp_all)
 refine hK _ ?_
 clear hK K
 refine tn ?_
 refine w_weak (st' := ⟨[(0, .rptr [.val (.int .i64 a_.l.s.n), .lst true 1 (Is a_.l.s.fr), .lst true 1 (Is a_.l.s.to), .lst true 1 (Is a_.l.s.id), .lst true 1 (Ls a_.l.s.cs), .val (.int .i64 a_.l.t.n), .lst true 1 (Is a_.l.t.fr), .lst true 1 (Is a_.l.t.to), .lst true 1 (Is a_.l.t.id), .lst true 1 (Ls a_.l.t.cs), .lst true 1 (Is a_.l.ob), .lst true 1 (Is a_.l.ar), .val (.int .i64 a_.r.s.n), .lst true 1 (Is a_.r.s.fr), .lst true 1 (Is a_.r.s.to), .lst true 1 (Is a_.r.s.id), .lst true 1 (Ls a_.r.s.cs), .val (.int .i64 a_.r.t.n), .lst true 1 (Is a_.r.t.fr), .lst true 1 (Is a_.r.t.to), .lst true 1 (Is a_.r.t.id), .lst true 1 (Ls a_.r.t.cs), .lst true 1 (Is a_.r.ob), .lst true 1 (Is a_.r.ar), .lst true 1 (Is a_.u), .lst true 1 (Is a_.k)])], [], 0⟩) (Wk.rel [] (by simp) (by simp) (by rw [hP]; simp) (by simp) (by simp) (by simp [Adj.cells, Fn.cells, Is_append, Is_one, Ls_append, Ls_one, Bs_append, Bs_one, Es_append, Es_one, Es_set', eB, eI, eL]) (by simp [hhOk, back, Adj.cells, Fn.cells, Is_append, Is_one, Ls_append, Ls_one, Bs_append, Bs_one, Es_append, Es_one, Es_set', eB, eI, eL])) ?_
 refine w_seq ?_
 replace h := bind_some h
 obtain ⟨e1, h, h1⟩ := h
 refine w_joinT (fun b1 : Bool => ⟨[(2, .val (.bool b1))], [], 0⟩) (fun b1 => b1 = e1) ?_ ?_
 · refine w_run mo (by rw [hN]; decide) fun K hK => ?_
   simp [-guardE_b, -Is_at, -Is_at', -Ls_at, -Ls_at', eL, eI, allInts, eP_Adj, eP_Fn, Adj.cells, Fn.cells]
   repeat (with_reducible refine And.intro ?_ ?_; · first | assumption | omega | (simp; done) | (simp; omega) | simp_all)
   replace h := bind_some h
   obtain ⟨v2, hv2, h⟩ := h
   refine callA_intro (w_i_areFunctors _ v2 hv2) (.cons (.lits (es := _) rfl (.cons rfl (.cons (.preT (by simp [Adj.cells, Fn.cells])) .nil) (.cons rfl (.cons (.preT (by simp [Adj.cells, Fn.cells])) .nil) .nil)) rfl) .nil) ?_
   simp [-guardE_b, -Is_at, -Is_at', -Ls_at, -Ls_at', unk, unA, unE, unT, unC, flat, eL, eI, allInts, eP_Adj, eP_Fn, Adj.cells, Fn.cells]
   repeat (with_reducible refine And.intro ?_ ?_; · first | assumption | omega | (simp; done) | (simp; omega) | simp_all)
   refine guard_intro (fun g => ?_) (fun g => ?_)
   · have g3 : v2 = true := by first | simpa using g | (simp at g; exact g) | (simp at g; omega)
     clear g
     replace h := if_l g3 h
     simp [-guardE_b, -Is_at, -Is_at', -Ls_at, -Ls_at', eL, eI, allInts, eP_Adj, eP_Fn, Adj.cells, Fn.cells]
     repeat (with_reducible refine And.intro ?_ ?_; · first | assumption | omega | (simp; done) | (simp; omega) | simp_all)
     replace h := bind_some h
     obtain ⟨v4, hv4, h⟩ := h
     refine callA_intro (w_i_leadBack _ _ v4 hv4) (.cons (.preT (by simp [Adj.cells, Fn.cells])) (.cons (.preT (by simp [Adj.cells, Fn.cells])) .nil)) ?_
     simp [-guardE_b, -Is_at, -Is_at', -Ls_at, -Ls_at', unk, unA, unE, unT, unC, flat, eL, eI, allInts, eP_Adj, eP_Fn, Adj.cells, Fn.cells]
     repeat (with_reducible refine And.intro ?_ ?_; · first | assumption | omega | (simp; done) | (simp; omega) | simp_all)
     refine guard_intro (fun g => ?_) (fun g => ?_)
     · have g5 : v4 = true := by first | simpa using g | (simp at g; exact g) | (simp at g; omega)
       clear g
       replace h := if_l g5 h
       simp [-guardE_b, -Is_at, -Is_at', -Ls_at, -Ls_at', eL, eI, allInts, eP_Adj, eP_Fn, Adj.cells, Fn.cells]
       repeat (with_reducible refine And.intro ?_ ?_; · first | assumption | omega | (simp; done) | (simp; omega) | simp_all)
       replace h := bind_some h
       obtain ⟨v6, hv6, h⟩ := h
       refine callA_intro (w_i_Adjunction_fits _ v6 hv6) (.cons (.preT (by simp [Adj.cells, Fn.cells])) .nil) ?_
       simp [-guardE_b, -Is_at, -Is_at', -Ls_at, -Ls_at', unk, unA, unE, unT, unC, flat, eL, eI, allInts, eP_Adj, eP_Fn, Adj.cells, Fn.cells]
       repeat (with_reducible refine And.intro ?_ ?_; · first | assumption | omega | (simp; done) | (simp; omega) | simp_all)
       refine hK _ ?_
       exact jn (b := v6) (Option.some.inj h) (Wk.rel [] (by simp) (by simp) (by rw [hP]; simp) (by simp) (by simp) (by simp [Adj.cells, Fn.cells, Is_append, Is_one, Ls_append, Ls_one, Bs_append, Bs_one, Es_append, Es_one, Es_set', eB, eI, eL]) (by simp [hhOk, back, Adj.cells, Fn.cells, Is_append, Is_one, Ls_append, Ls_one, Bs_append, Bs_one, Es_append, Es_one, Es_set', eB, eI, eL]))
     have g5 : ¬ (v4 = true) := by first | simpa using g | (simp at g; exact g) | (simp at g; omega)
     clear g
     replace h := if_r g5 h
     simp [-guardE_b, -Is_at, -Is_at', -Ls_at, -Ls_at', eL, eI, allInts, eP_Adj, eP_Fn, Adj.cells, Fn.cells]
     repeat (with_reducible refine And.intro ?_ ?_; · first | assumption | omega | (simp; done) | (simp; omega) | simp_all)
     refine hK _ ?_
     exact jn (b := false) (Option.some.inj h) (Wk.rel [] (by simp) (by simp) (by rw [hP]; simp) (by simp) (by simp) (by simp [Adj.cells, Fn.cells, Is_append, Is_one, Ls_append, Ls_one, Bs_append, Bs_one, Es_append, Es_one, Es_set', eB, eI, eL]) (by simp [hhOk, back, Adj.cells, Fn.cells, Is_append, Is_one, Ls_append, Ls_one, Bs_append, Bs_one, Es_append, Es_one, Es_set', eB, eI, eL]))
   have g3 : ¬ (v2 = true) := by first | simpa using g | (simp at g; exact g) | (simp at g; omega)
   clear g
   replace h := if_r g3 h
   simp [-guardE_b, -Is_at, -Is_at', -Ls_at, -Ls_at', eL, eI, allInts, eP_Adj, eP_Fn, Adj.cells, Fn.cells]
   repeat (with_reducible refine And.intro ?_ ?_; · first | assumption | omega | (simp; done) | (simp; omega) | simp_all)
   refine hK _ ?_
   exact jn (b := false) (Option.some.inj h) (Wk.rel [] (by simp) (by simp) (by rw [hP]; simp) (by simp) (by simp) (by simp [Adj.cells, Fn.cells, Is_append, Is_one, Ls_append, Ls_one, Bs_append, Bs_one, Es_append, Es_one, Es_set', eB, eI, eL]) (by simp [hhOk, back, Adj.cells, Fn.cells, Is_append, Is_one, Ls_append, Ls_one, Bs_append, Bs_one, Es_append, Es_one, Es_set', eB, eI, eL]))
 intro b1 hb1
 have h := h1
 rw [← hb1] at h
 clear h1
 try dsimp only at h
 refine w_ret ?_
 have hr := Option.some.inj h
 rw [← hr]
 refine ⟨_, (.tmp .nil), ?_⟩
 refine ⟨(.one rfl rfl .nil), [.val (.bool b1)], [], by simp [Adj.cells, Fn.cells, Is_append, Is_one, Ls_append, Ls_one, Bs_append, Bs_one, Es_append, Es_one, Es_set', eB, eI, eL], by simp, (UpL.refl _)⟩
end Go.Vc.T
