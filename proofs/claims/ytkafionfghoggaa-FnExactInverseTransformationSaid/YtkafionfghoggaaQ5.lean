/- A part of the proof: a verified generator of conditions, and what each function of the program does. -/
import Derived.Test.YtkafionfghoggaaQ4
set_option maxRecDepth 100000
set_option linter.unusedSimpArgs false
set_option linter.unusedVariables false

set_option maxRecDepth 100000
set_option linter.unusedSimpArgs false
set_option linter.unusedVariables false
namespace Go.Vc.T
open Go Go.Vc Go.Proofs
noncomputable def s_s_l06Is (f_ : Fn) : Option Bool :=
 (
   (s_s_l02Is f_.s).bind fun v2 =>
   if ¬ (v2 = true) then
     some true
   else
     (s_s_l02Is f_.t).bind fun v4 =>
     if ¬ (v4 = true) then
       some true
     else
       if ¬ ((f_.ob.length : Int) = f_.s.n) then
         some true
       else
         some ((f_.ar.length : Int) != (f_.s.fr.length : Int)) : Option (Bool)).bind fun b1 =>
 if b1 = true then
   some false
 else
   (
     (s_s_l01Map f_.t.n f_.ob).bind fun v9 =>
     if ¬ (v9 = true) then
       some true
     else
       (s_s_l01Map (f_.t.fr.length : Int) f_.ar).bind fun v11 =>
       some (!v11) : Option (Bool)).bind fun b8 =>
   if b8 = true then
     some false
   else
     (loopF (σ := Int) (ε := Unit ⊕ Bool) (fun s27 =>
       if s27 < (f_.s.fr.length : Int) then
         (
           ass (0 ≤ s27 ∧ s27 < (f_.ar.length : Int)) <|
           ass (0 ≤ ix f_.ar s27 ∧ ix f_.ar s27 < (f_.t.fr.length : Int)) <|
           ass (0 ≤ s27 ∧ s27 < (f_.s.fr.length : Int)) <|
           ass (0 ≤ ix f_.s.fr s27 ∧ ix f_.s.fr s27 < (f_.ob.length : Int)) <|
           if ¬ ((ix f_.t.fr (ix f_.ar s27)) = (ix f_.ob (ix f_.s.fr s27))) then
             some true
           else
             ass (0 ≤ s27 ∧ s27 < (f_.ar.length : Int)) <|
             ass (0 ≤ ix f_.ar s27 ∧ ix f_.ar s27 < (f_.t.to.length : Int)) <|
             ass (0 ≤ s27 ∧ s27 < (f_.s.to.length : Int)) <|
             ass (0 ≤ ix f_.s.to s27 ∧ ix f_.s.to s27 < (f_.ob.length : Int)) <|
             some ((ix f_.t.to (ix f_.ar s27)) != (ix f_.ob (ix f_.s.to s27))) : Option (Bool)).bind fun b29 =>
         if b29 = true then
           some (Ctl.ret (Sum.inr false))
         else
           ass (B64 (s27 + 1)) <|
           some (Ctl.next (s27 + 1))
       else
         some (Ctl.ret (Sum.inl ()))) fuel 0).bind fun e13 =>
     match e13 with
     | .inl b13 =>
       (loopF (σ := Int) (ε := Unit ⊕ Bool) (fun s49 =>
         if s49 < f_.s.n then
           ass (0 ≤ s49 ∧ s49 < (f_.s.id.length : Int)) <|
           ass (0 ≤ ix f_.s.id s49 ∧ ix f_.s.id s49 < (f_.ar.length : Int)) <|
           ass (0 ≤ s49 ∧ s49 < (f_.ob.length : Int)) <|
           ass (0 ≤ ix f_.ob s49 ∧ ix f_.ob s49 < (f_.t.id.length : Int)) <|
           if ¬ ((ix f_.ar (ix f_.s.id s49)) = (ix f_.t.id (ix f_.ob s49))) then
             some (Ctl.ret (Sum.inr false))
           else
             ass (B64 (s49 + 1)) <|
             some (Ctl.next (s49 + 1))
         else
           some (Ctl.ret (Sum.inl ()))) fuel 0).bind fun e41 =>
       match e41 with
       | .inl b41 =>
         (loopF (σ := Int) (ε := Unit ⊕ Bool) (fun s90 =>
           if s90 < (f_.s.fr.length : Int) then
             (
               (loopF (σ := Int) (ε := Bool ⊕ Unit) (fun s107 =>
                 if s107 < (f_.s.fr.length : Int) then
                   (
                     ass (0 ≤ s90 ∧ s90 < (f_.s.to.length : Int)) <|
                     ass (0 ≤ s107 ∧ s107 < (f_.s.fr.length : Int)) <|
                     if (ix f_.s.to s90) = (ix f_.s.fr s107) then
                       ass (0 ≤ s90 ∧ s90 < (f_.s.cs.length : Int)) <|
                       ass (0 ≤ s107 ∧ s107 < ((rx f_.s.cs s90).length : Int)) <|
                       ass (0 ≤ ix (rx f_.s.cs s90) s107 ∧ ix (rx f_.s.cs s90) s107 < (f_.ar.length : Int)) <|
                       ass (0 ≤ s90 ∧ s90 < (f_.ar.length : Int)) <|
                       ass (0 ≤ ix f_.ar s90 ∧ ix f_.ar s90 < (f_.t.cs.length : Int)) <|
                       ass (0 ≤ s107 ∧ s107 < (f_.ar.length : Int)) <|
                       ass (0 ≤ ix f_.ar s107 ∧ ix f_.ar s107 < ((rx f_.t.cs (ix f_.ar s90)).length : Int)) <|
                       some ((ix f_.ar (ix (rx f_.s.cs s90) s107)) != (ix (rx f_.t.cs (ix f_.ar s90)) (ix f_.ar s107)))
                     else
                       some false : Option (Bool)).bind fun b109 =>
                   if b109 = true then
                     some (Ctl.ret (Sum.inl false))
                   else
                     ass (B64 (s107 + 1)) <|
                     some (Ctl.next (s107 + 1))
                 else
                   some (Ctl.ret (Sum.inr ()))) fuel 0).bind fun e107 =>
               match e107 with
               | .inl p107 =>
                 some (Sum.inr p107)
               | .inr p107 =>
                 some (Sum.inl p107) : Option (Unit ⊕ Bool)).bind fun e92 =>
             match e92 with
             | .inl b92 =>
               ass (B64 (s90 + 1)) <|
               some (Ctl.next (s90 + 1))
             | .inr p92 =>
               some (Ctl.ret (Sum.inr p92))
           else
             some (Ctl.ret (Sum.inl ()))) fuel 0).bind fun e57 =>
         match e57 with
         | .inl b57 =>
           some true
         | .inr p57 =>
           some p57
       | .inr p41 =>
         some p41
     | .inr p13 =>
       some p13
set_option maxHeartbeats 4000000 in
theorem w_s_l06Is (f_ : Fn) (r : Bool) (h : s_s_l06Is f_ = some r) : Contract Try.prog 154 [.agg (f_.cells true)] (.val (.bool r)) := by
 refine contract_introG (rvs := [.tmp 2]) (rs := [.val (.bool r)]) Try.func154 rfl rfl rfl rfl (by simp [Try.f154]) fun F hN hP => ?_
 unfold s_s_l06Is at h
 refine w_seq ?_
 refine w_run mo (by rw [hN]; decide) fun K hK => ?_
 simp [-guardE_b, -Is_at, -Is_at', -Ls_at, -Ls_at', eL, eI, allInts, eP_Cat, eP_Fn, Cat.cells, Fn.cells]
 repeat (with_reducible refine And.intro ?_ ?_; · first | assumption | omega | (simp; done) | (simp; omega) | simp_all)
 refine hK _ ?_
 clear hK K
 refine tn ?_
 refine w_weak (st' := ⟨[(1, .adr 0 0 0)], [(0, .mix 12 [[.val (.int .i64 f_.s.n), .lst true 1 (Is f_.s.fr), .lst true 1 (Is f_.s.to), .lst true 1 (Is f_.s.id), .lst true 1 (Ls f_.s.cs), .val (.int .i64 f_.t.n), .lst true 1 (Is f_.t.fr), .lst true 1 (Is f_.t.to), .lst true 1 (Is f_.t.id), .lst true 1 (Ls f_.t.cs), .lst true 1 (Is f_.ob), .lst true 1 (Is f_.ar)]])], 1⟩) (Wk.rel [(0, 0)] (by simp) (by simp) (by rw [hP]; simp) (by simp) (by simp) (by simp [Cat.cells, Fn.cells, Is_append, Is_one, Ls_append, Ls_one, Bs_append, Bs_one, Es_append, Es_one, Es_set', eB, eI, eL]) (by simp [hhOk, back, Cat.cells, Fn.cells, Is_append, Is_one, Ls_append, Ls_one, Bs_append, Bs_one, Es_append, Es_one, Es_set', eB, eI, eL])) ?_
 refine w_seq ?_
 refine w_runS mo (by rw [hN]; decide) fun K hK => ?_
 simp [-guardE_b, -Is_at, -Is_at', -Ls_at, -Ls_at', eL, eI, allInts, eP_Cat, eP_Fn, Cat.cells, Fn.cells]
 repeat (with_reducible refine And.intro ?_ ?_; · first | assumption | omega | (simp; done) | (simp; omega) | simp_all)
 refine hK _ ?_
 clear hK K
 refine tn ?_
 refine w_weak (st' := ⟨[(1, .adr 0 0 0), (3, .adr 1 0 0), (4, .adr 2 0 0)], [(0, .mix 12 [[.val (.int .i64 f_.s.n), .lst true 1 (Is f_.s.fr), .lst true 1 (Is f_.s.to), .lst true 1 (Is f_.s.id), .lst true 1 (Ls f_.s.cs), .val (.int .i64 f_.t.n), .lst true 1 (Is f_.t.fr), .lst true 1 (Is f_.t.to), .lst true 1 (Is f_.t.id), .lst true 1 (Ls f_.t.cs), .lst true 1 (Is f_.ob), .lst true 1 (Is f_.ar)]]), (1, .mix 5 [[.val (.int .i64 f_.s.n), .lst true 1 (Is f_.s.fr), .lst true 1 (Is f_.s.to), .lst true 1 (Is f_.s.id), .lst true 1 (Ls f_.s.cs)]]), (2, .mix 5 [[.val (.int .i64 f_.t.n), .lst true 1 (Is f_.t.fr), .lst true 1 (Is f_.t.to), .lst true 1 (Is f_.t.id), .lst true 1 (Ls f_.t.cs)]])], 3⟩) (Wk.rel [(0, 0), (1, 1), (2, 2)] (by simp) (by simp) (by rw [hP]; simp) (by simp) (by simp) (by simp [Cat.cells, Fn.cells, Is_append, Is_one, Ls_append, Ls_one, Bs_append, Bs_one, Es_append, Es_one, Es_set', eB, eI, eL]) (by simp [hhOk, back, Cat.cells, Fn.cells, Is_append, Is_one, Ls_append, Ls_one, Bs_append, Bs_one, Es_append, Es_one, Es_set', eB, eI, eL])) ?_
 refine w_seq ?_
 refine w_seq ?_
 replace h := bind_some h
 obtain ⟨e1, h, h1⟩ := h
 refine w_joinT (fun b1 : Bool => ⟨[(1, .adr 0 0 0), (3, .adr 1 0 0), (4, .adr 2 0 0), (37, .val (.bool b1))], [(0, .mix 12 [[.val (.int .i64 f_.s.n), .lst true 1 (Is f_.s.fr), .lst true 1 (Is f_.s.to), .lst true 1 (Is f_.s.id), .lst true 1 (Ls f_.s.cs), .val (.int .i64 f_.t.n), .lst true 1 (Is f_.t.fr), .lst true 1 (Is f_.t.to), .lst true 1 (Is f_.t.id), .lst true 1 (Ls f_.t.cs), .lst true 1 (Is f_.ob), .lst true 1 (Is f_.ar)]]), (1, .mix 5 [[.val (.int .i64 f_.s.n), .lst true 1 (Is f_.s.fr), .lst true 1 (Is f_.s.to), .lst true 1 (Is f_.s.id), .lst true 1 (Ls f_.s.cs)]]), (2, .mix 5 [[.val (.int .i64 f_.t.n), .lst true 1 (Is f_.t.fr), .lst true 1 (Is f_.t.to), .lst true 1 (Is f_.t.id), .lst true 1 (Ls f_.t.cs)]])], 3⟩) (fun b1 => b1 = e1) ?_ ?_
 · refine w_run mo (by rw [hN]; decide) fun K hK => ?_
   simp [-guardE_b, -Is_at, -Is_at', -Ls_at, -Ls_at', eL, eI, allInts, eP_Cat, eP_Fn, Cat.cells, Fn.cells]
   repeat (with_reducible refine And.intro ?_ ?_; · first | assumption | omega | (simp; done) | (simp; omega) | simp_all)
   replace h := bind_some h
   obtain ⟨v2, hv2, h⟩ := h
   refine callA_intro (w_s_l02Is _ v2 hv2) (.cons (.aggL (.cons .val (.cons .lst (.cons .lst (.cons .lst (.cons .lst .nil)))))) .nil) ?_
   simp [-guardE_b, -Is_at, -Is_at', -Ls_at, -Ls_at', unk, unA, unE, unT, unC, flat, eL, eI, allInts, eP_Cat, eP_Fn, Cat.cells, Fn.cells]
   repeat (with_reducible refine And.intro ?_ ?_; · first | assumption | omega | (simp; done) | (simp; omega) | simp_all)
   refine guard_intro (fun g => ?_) (fun g => ?_)
   · have g3 : ¬ (¬ (v2 = true)) := by first | simpa using g | (simp at g; exact g) | (simp at g; omega)
     clear g
     replace h := if_r g3 h
     simp [-guardE_b, -Is_at, -Is_at', -Ls_at, -Ls_at', eL, eI, allInts, eP_Cat, eP_Fn, Cat.cells, Fn.cells]
     repeat (with_reducible refine And.intro ?_ ?_; · first | assumption | omega | (simp; done) | (simp; omega) | simp_all)
     replace h := bind_some h
     obtain ⟨v4, hv4, h⟩ := h
     refine callA_intro (w_s_l02Is _ v4 hv4) (.cons (.aggL (.cons .val (.cons .lst (.cons .lst (.cons .lst (.cons .lst .nil)))))) .nil) ?_
     simp [-guardE_b, -Is_at, -Is_at', -Ls_at, -Ls_at', unk, unA, unE, unT, unC, flat, eL, eI, allInts, eP_Cat, eP_Fn, Cat.cells, Fn.cells]
     repeat (with_reducible refine And.intro ?_ ?_; · first | assumption | omega | (simp; done) | (simp; omega) | simp_all)
     refine guard_intro (fun g => ?_) (fun g => ?_)
     · have g5 : ¬ (¬ (v4 = true)) := by first | simpa using g | (simp at g; exact g) | (simp at g; omega)
       clear g
       replace h := if_r g5 h
       simp [-guardE_b, -Is_at, -Is_at', -Ls_at, -Ls_at', eL, eI, allInts, eP_Cat, eP_Fn, Cat.cells, Fn.cells]
       repeat (with_reducible refine And.intro ?_ ?_; · first | assumption | omega | (simp; done) | (simp; omega) | simp_all)
       refine guard_intro (fun g => ?_) (fun g => ?_)
       · have g6 : ¬ (¬ ((f_.ob.length : Int) = f_.s.n)) := by first | simpa using g | (simp at g; exact g) | (simp at g; omega)
         clear g
         replace h := if_r g6 h
         simp [-guardE_b, -Is_at, -Is_at', -Ls_at, -Ls_at', eL, eI, allInts, eP_Cat, eP_Fn, Cat.cells, Fn.cells]
         repeat (with_reducible refine And.intro ?_ ?_; · first | assumption | omega | (simp; done) | (simp; omega) | simp_all)
         refine hK _ ?_
         exact jn (b := (f_.ar.length : Int) != (f_.s.fr.length : Int)) (Option.some.inj h) (Wk.rel [(0, 0), (1, 1), (2, 2)] (by simp) (by simp) (by rw [hP]; simp) (by simp) (by simp) (by simp [Cat.cells, Fn.cells, Is_append, Is_one, Ls_append, Ls_one, Bs_append, Bs_one, Es_append, Es_one, Es_set', eB, eI, eL]) (by simp [hhOk, back, Cat.cells, Fn.cells, Is_append, Is_one, Ls_append, Ls_one, Bs_append, Bs_one, Es_append, Es_one, Es_set', eB, eI, eL]))
       have g6 : ¬ ((f_.ob.length : Int) = f_.s.n) := by first | simpa using g | (simp at g; exact g) | (simp at g; omega)
       clear g
       replace h := if_l g6 h
       simp [-guardE_b, -Is_at, -Is_at', -Ls_at, -Ls_at', eL, eI, allInts, eP_Cat, eP_Fn, Cat.cells, Fn.cells]
       repeat (with_reducible refine And.intro ?_ ?_; · first | assumption | omega | (simp; done) | (simp; omega) | simp_all)
       refine hK _ ?_
       exact jn (b := true) (Option.some.inj h) (Wk.rel [(0, 0), (1, 1), (2, 2)] (by simp) (by simp) (by rw [hP]; simp) (by simp) (by simp) (by simp [Cat.cells, Fn.cells, Is_append, Is_one, Ls_append, Ls_one, Bs_append, Bs_one, Es_append, Es_one, Es_set', eB, eI, eL]) (by simp [hhOk, back, Cat.cells, Fn.cells, Is_append, Is_one, Ls_append, Ls_one, Bs_append, Bs_one, Es_append, Es_one, Es_set', eB, eI, eL]))
     have g5 : ¬ (v4 = true) := by first | simpa using g | (simp at g; exact g) | (simp at g; omega)
     clear g
     replace h := if_l g5 h
     simp [-guardE_b, -Is_at, -Is_at', -Ls_at, -Ls_at', eL, eI, allInts, eP_Cat, eP_Fn, Cat.cells, Fn.cells]
     repeat (with_reducible refine And.intro ?_ ?_; · first | assumption | omega | (simp; done) | (simp; omega) | simp_all)
     refine hK _ ?_
     exact jn (b := true) (Option.some.inj h) (Wk.rel [(0, 0), (1, 1), (2, 2)] (by simp) (by simp) (by rw [hP]; simp) (by simp) (by simp) (by simp [Cat.cells, Fn.cells, Is_append, Is_one, Ls_append, Ls_one, Bs_append, Bs_one, Es_append, Es_one, Es_set', eB, eI, eL]) (by simp [hhOk, back, Cat.cells, Fn.cells, Is_append, Is_one, Ls_append, Ls_one, Bs_append, Bs_one, Es_append, Es_one, Es_set', eB, eI, eL]))
   have g3 : ¬ (v2 = true) := by first | simpa using g | (simp at g; exact g) | (simp at g; omega)
   clear g
   replace h := if_l g3 h
   simp [-guardE_b, -Is_at, -Is_at', -Ls_at, -Ls_at', eL, eI, allInts, eP_Cat, eP_Fn, Cat.cells, Fn.cells]
   repeat (with_reducible refine And.intro ?_ ?_; · first | assumption | omega | (simp; done) | (simp; omega) | simp_all)
   refine hK _ ?_
   exact jn (b := true) (Option.some.inj h) (Wk.rel [(0, 0), (1, 1), (2, 2)] (by simp) (by simp) (by rw [hP]; simp) (by simp) (by simp) (by simp [Cat.cells, Fn.cells, Is_append, Is_one, Ls_append, Ls_one, Bs_append, Bs_one, Es_append, Es_one, Es_set', eB, eI, eL]) (by simp [hhOk, back, Cat.cells, Fn.cells, Is_append, Is_one, Ls_append, Ls_one, Bs_append, Bs_one, Es_append, Es_one, Es_set', eB, eI, eL]))
 intro b1 hb1
 have h := h1
 rw [← hb1] at h
 clear h1
 try dsimp only at h
 refine w_cond rfl (fun g => ?_) fun g => ?_
 · have g7 : b1 = true := by first | simpa using g | (simp at g; exact g) | (simp at g; omega)
   clear g
   replace h := if_l g7 h
   refine w_seq ?_
   refine w_run mo (by rw [hN]; decide) fun K hK => ?_
   simp [-guardE_b, -Is_at, -Is_at', -Ls_at, -Ls_at', eL, eI, allInts, eP_Cat, eP_Fn, Cat.cells, Fn.cells]
   repeat (with_reducible refine And.intro ?_ ?_; · first | assumption | omega | (simp; done) | (simp; omega) | simp_all)
   refine hK _ ?_
   clear hK K
   refine tn ?_
   refine w_weak (st' := ⟨[(2, .val (.bool false))], [], 0⟩) (Wk.rel [] (by simp) (by simp) (by rw [hP]; simp) (by simp) (by simp) (by simp [Cat.cells, Fn.cells, Is_append, Is_one, Ls_append, Ls_one, Bs_append, Bs_one, Es_append, Es_one, Es_set', eB, eI, eL]) (by simp [hhOk, back, Cat.cells, Fn.cells, Is_append, Is_one, Ls_append, Ls_one, Bs_append, Bs_one, Es_append, Es_one, Es_set', eB, eI, eL])) ?_
   refine w_ret ?_
   refine tr ?_
   have hr := Option.some.inj h
   rw [← hr]
   refine ⟨_, (.tmp .nil), ?_⟩
   refine ⟨(.one rfl rfl .nil), [.val (.bool false)], [], by simp [Cat.cells, Fn.cells, Is_append, Is_one, Ls_append, Ls_one, Bs_append, Bs_one, Es_append, Es_one, Es_set', eB, eI, eL], by simp, (UpL.refl _)⟩
 have g7 : ¬ (b1 = true) := by first | simpa using g | (simp at g; exact g) | (simp at g; omega)
 clear g
 replace h := if_r g7 h
 refine w_skip ?_
 refine tn ?_
 refine w_seq ?_
 refine w_seq ?_
 replace h := bind_some h
 obtain ⟨e8, h, h8⟩ := h
 refine w_joinT (fun b8 : Bool => ⟨[(1, .adr 0 0 0), (3, .adr 1 0 0), (4, .adr 2 0 0), (52, .val (.bool b8))], [(0, .mix 12 [[.val (.int .i64 f_.s.n), .lst true 1 (Is f_.s.fr), .lst true 1 (Is f_.s.to), .lst true 1 (Is f_.s.id), .lst true 1 (Ls f_.s.cs), .val (.int .i64 f_.t.n), .lst true 1 (Is f_.t.fr), .lst true 1 (Is f_.t.to), .lst true 1 (Is f_.t.id), .lst true 1 (Ls f_.t.cs), .lst true 1 (Is f_.ob), .lst true 1 (Is f_.ar)]]), (1, .mix 5 [[.val (.int .i64 f_.s.n), .lst true 1 (Is f_.s.fr), .lst true 1 (Is f_.s.to), .lst true 1 (Is f_.s.id), .lst true 1 (Ls f_.s.cs)]]), (2, .mix 5 [[.val (.int .i64 f_.t.n), .lst true 1 (Is f_.t.fr), .lst true 1 (Is f_.t.to), .lst true 1 (Is f_.t.id), .lst true 1 (Ls f_.t.cs)]])], 3⟩) (fun b8 => b8 = e8) ?_ ?_
 · refine w_run mo (by rw [hN]; decide) fun K hK => ?_
   simp [-guardE_b, -Is_at, -Is_at', -Ls_at, -Ls_at', eL, eI, allInts, eP_Cat, eP_Fn, Cat.cells, Fn.cells]
   repeat (with_reducible refine And.intro ?_ ?_; · first | assumption | omega | (simp; done) | (simp; omega) | simp_all)
   replace h := bind_some h
   obtain ⟨v9, hv9, h⟩ := h
   refine callA_intro (w_s_l01Map _ _ v9 hv9) (.cons .val (.cons .lst .nil)) ?_
   simp [-guardE_b, -Is_at, -Is_at', -Ls_at, -Ls_at', unk, unA, unE, unT, unC, flat, eL, eI, allInts, eP_Cat, eP_Fn, Cat.cells, Fn.cells]
   repeat (with_reducible refine And.intro ?_ ?_; · first | assumption | omega | (simp; done) | (simp; omega) | simp_all)
   refine guard_intro (fun g => ?_) (fun g => ?_)
   · have g10 : ¬ (¬ (v9 = true)) := by first | simpa using g | (simp at g; exact g) | (simp at g; omega)
     clear g
     replace h := if_r g10 h
     simp [-guardE_b, -Is_at, -Is_at', -Ls_at, -Ls_at', eL, eI, allInts, eP_Cat, eP_Fn, Cat.cells, Fn.cells]
     repeat (with_reducible refine And.intro ?_ ?_; · first | assumption | omega | (simp; done) | (simp; omega) | simp_all)
     replace h := bind_some h
     obtain ⟨v11, hv11, h⟩ := h
     refine callA_intro (w_s_l01Map _ _ v11 hv11) (.cons .val (.cons .lst .nil)) ?_
     simp [-guardE_b, -Is_at, -Is_at', -Ls_at, -Ls_at', unk, unA, unE, unT, unC, flat, eL, eI, allInts, eP_Cat, eP_Fn, Cat.cells, Fn.cells]
     repeat (with_reducible refine And.intro ?_ ?_; · first | assumption | omega | (simp; done) | (simp; omega) | simp_all)
     refine hK _ ?_
     exact jn (b := !v11) (Option.some.inj h) (Wk.rel [(0, 0), (1, 1), (2, 2)] (by simp) (by simp) (by rw [hP]; simp) (by simp) (by simp) (by simp [Cat.cells, Fn.cells, Is_append, Is_one, Ls_append, Ls_one, Bs_append, Bs_one, Es_append, Es_one, Es_set', eB, eI, eL]) (by simp [hhOk, back, Cat.cells, Fn.cells, Is_append, Is_one, Ls_append, Ls_one, Bs_append, Bs_one, Es_append, Es_one, Es_set', eB, eI, eL]))
   have g10 : ¬ (v9 = true) := by first | simpa using g | (simp at g; exact g) | (simp at g; omega)
   clear g
   replace h := if_l g10 h
   simp [-guardE_b, -Is_at, -Is_at', -Ls_at, -Ls_at', eL, eI, allInts, eP_Cat, eP_Fn, Cat.cells, Fn.cells]
   repeat (with_reducible refine And.intro ?_ ?_; · first | assumption | omega | (simp; done) | (simp; omega) | simp_all)
   refine hK _ ?_
   exact jn (b := true) (Option.some.inj h) (Wk.rel [(0, 0), (1, 1), (2, 2)] (by simp) (by simp) (by rw [hP]; simp) (by simp) (by simp) (by simp [Cat.cells, Fn.cells, Is_append, Is_one, Ls_append, Ls_one, Bs_append, Bs_one, Es_append, Es_one, Es_set', eB, eI, eL]) (by simp [hhOk, back, Cat.cells, Fn.cells, Is_append, Is_one, Ls_append, Ls_one, Bs_append, Bs_one, Es_append, Es_one, Es_set', eB, eI, eL]))
 intro b8 hb8
 have h := h8
 rw [← hb8] at h
 clear h8
 try dsimp only at h
 refine w_cond rfl (fun g => ?_) fun g => ?_
 · have g12 : b8 = true := by first | simpa using g | (simp at g; exact g) | (simp at g; omega)
   clear g
   replace h := if_l g12 h
   refine w_seq ?_
   refine w_run mo (by rw [hN]; decide) fun K hK => ?_
   simp [-guardE_b, -Is_at, -Is_at', -Ls_at, -Ls_at', eL, eI, allInts, eP_Cat, eP_Fn, Cat.cells, Fn.cells]
   repeat (with_reducible refine And.intro ?_ ?_; · first | assumption | omega | (simp; done) | (simp; omega) | simp_all)
   refine hK _ ?_
   clear hK K
   refine tn ?_
   refine w_weak (st' := ⟨[(2, .val (.bool false))], [], 0⟩) (Wk.rel [] (by simp) (by simp) (by rw [hP]; simp) (by simp) (by simp) (by simp [Cat.cells, Fn.cells, Is_append, Is_one, Ls_append, Ls_one, Bs_append, Bs_one, Es_append, Es_one, Es_set', eB, eI, eL]) (by simp [hhOk, back, Cat.cells, Fn.cells, Is_append, Is_one, Ls_append, Ls_one, Bs_append, Bs_one, Es_append, Es_one, Es_set', eB, eI, eL])) ?_
   refine w_ret ?_
   refine tr ?_
   have hr := Option.some.inj h
   rw [← hr]
   refine ⟨_, (.tmp .nil), ?_⟩
   refine ⟨(.one rfl rfl .nil), [.val (.bool false)], [], by simp [Cat.cells, Fn.cells, Is_append, Is_one, Ls_append, Ls_one, Bs_append, Bs_one, Es_append, Es_one, Es_set', eB, eI, eL], by simp, (UpL.refl _)⟩
 have g12 : ¬ (b8 = true) := by first | simpa using g | (simp at g; exact g) | (simp at g; omega)
 clear g
 replace h := if_r g12 h
 refine w_skip ?_
 refine tn ?_
 refine w_seq ?_
 refine w_seq ?_
 refine w_run mo (by rw [hN]; decide) fun K hK => ?_
 simp [-guardE_b, -Is_at, -Is_at', -Ls_at, -Ls_at', eL, eI, allInts, eP_Cat, eP_Fn, Cat.cells, Fn.cells]
 repeat (with_reducible refine And.intro ?_ ?_; · first | assumption | omega | (simp; done) | (simp; omega) | simp_all)
 refine hK _ ?_
 clear hK K
 refine tn ?_
 refine w_weak (st' := ⟨[(1, .adr 0 0 0), (3, .adr 1 0 0), (4, .adr 2 0 0), (5, .val (.int .i64 0))], [(0, .mix 12 [[.val (.int .i64 f_.s.n), .lst true 1 (Is f_.s.fr), .lst true 1 (Is f_.s.to), .lst true 1 (Is f_.s.id), .lst true 1 (Ls f_.s.cs), .val (.int .i64 f_.t.n), .lst true 1 (Is f_.t.fr), .lst true 1 (Is f_.t.to), .lst true 1 (Is f_.t.id), .lst true 1 (Ls f_.t.cs), .lst true 1 (Is f_.ob), .lst true 1 (Is f_.ar)]]), (1, .mix 5 [[.val (.int .i64 f_.s.n), .lst true 1 (Is f_.s.fr), .lst true 1 (Is f_.s.to), .lst true 1 (Is f_.s.id), .lst true 1 (Ls f_.s.cs)]]), (2, .mix 5 [[.val (.int .i64 f_.t.n), .lst true 1 (Is f_.t.fr), .lst true 1 (Is f_.t.to), .lst true 1 (Is f_.t.id), .lst true 1 (Ls f_.t.cs)]])], 3⟩) (Wk.rel [(0, 0), (1, 1), (2, 2)] (by simp) (by simp) (by rw [hP]; simp) (by simp) (by simp) (by simp [Cat.cells, Fn.cells, Is_append, Is_one, Ls_append, Ls_one, Bs_append, Bs_one, Es_append, Es_one, Es_set', eB, eI, eL]) (by simp [hhOk, back, Cat.cells, Fn.cells, Is_append, Is_one, Ls_append, Ls_one, Bs_append, Bs_one, Es_append, Es_one, Es_set', eB, eI, eL])) ?_
 replace h := bind_some h
 obtain ⟨e13, h, h13⟩ := h
 refine w_joinT (fun b13 : Unit => ⟨[(1, .adr 0 0 0), (3, .adr 1 0 0), (4, .adr 2 0 0)], [(0, .mix 12 [[.val (.int .i64 f_.s.n), .lst true 1 (Is f_.s.fr), .lst true 1 (Is f_.s.to), .lst true 1 (Is f_.s.id), .lst true 1 (Ls f_.s.cs), .val (.int .i64 f_.t.n), .lst true 1 (Is f_.t.fr), .lst true 1 (Is f_.t.to), .lst true 1 (Is f_.t.id), .lst true 1 (Ls f_.t.cs), .lst true 1 (Is f_.ob), .lst true 1 (Is f_.ar)]]), (1, .mix 5 [[.val (.int .i64 f_.s.n), .lst true 1 (Is f_.s.fr), .lst true 1 (Is f_.s.to), .lst true 1 (Is f_.s.id), .lst true 1 (Ls f_.s.cs)]]), (2, .mix 5 [[.val (.int .i64 f_.t.n), .lst true 1 (Is f_.t.fr), .lst true 1 (Is f_.t.to), .lst true 1 (Is f_.t.id), .lst true 1 (Ls f_.t.cs)]])], 3⟩) (fun b13 => Sum.inl b13 = e13) ?_ ?_
 · refine w_block ?_
   refine w_loopF h (fun s27 : Int => ⟨[(1, .adr 0 0 0), (3, .adr 1 0 0), (4, .adr 2 0 0), (5, .val (.int .i64 s27))], [(0, .mix 12 [[.val (.int .i64 f_.s.n), .lst true 1 (Is f_.s.fr), .lst true 1 (Is f_.s.to), .lst true 1 (Is f_.s.id), .lst true 1 (Ls f_.s.cs), .val (.int .i64 f_.t.n), .lst true 1 (Is f_.t.fr), .lst true 1 (Is f_.t.to), .lst true 1 (Is f_.t.id), .lst true 1 (Ls f_.t.cs), .lst true 1 (Is f_.ob), .lst true 1 (Is f_.ar)]]), (1, .mix 5 [[.val (.int .i64 f_.s.n), .lst true 1 (Is f_.s.fr), .lst true 1 (Is f_.s.to), .lst true 1 (Is f_.s.id), .lst true 1 (Ls f_.s.cs)]]), (2, .mix 5 [[.val (.int .i64 f_.t.n), .lst true 1 (Is f_.t.fr), .lst true 1 (Is f_.t.to), .lst true 1 (Is f_.t.id), .lst true 1 (Ls f_.t.cs)]])], 3⟩) (Wk.rel [(0, 0), (1, 1), (2, 2)] (by simp) (by simp) (by rw [hP]; simp) (by simp) (by simp) (by simp [Cat.cells, Fn.cells, Is_append, Is_one, Ls_append, Ls_one, Bs_append, Bs_one, Es_append, Es_one, Es_set', eB, eI, eL]) (by simp [hhOk, back, Cat.cells, Fn.cells, Is_append, Is_one, Ls_append, Ls_one, Bs_append, Bs_one, Es_append, Es_one, Es_set', eB, eI, eL])) ?_
   clear h
   intro k27 s27 c27 h hk27
   refine w_seq ?_
   refine w_seq ?_
   refine w_run mo (by rw [hN]; decide) fun K hK => ?_
   simp [-guardE_b, -Is_at, -Is_at', -Ls_at, -Ls_at', eL, eI, allInts, eP_Cat, eP_Fn, Cat.cells, Fn.cells]
   repeat (with_reducible refine And.intro ?_ ?_; · first | assumption | omega | (simp; done) | (simp; omega) | simp_all)
   refine hK _ ?_
   clear hK K
   refine tn ?_
   refine w_weak (st' := ⟨[(1, .adr 0 0 0), (3, .adr 1 0 0), (4, .adr 2 0 0), (5, .val (.int .i64 s27)), (57, .val (.bool (decide (s27 < (f_.s.fr.length : Int)))))], [(0, .mix 12 [[.val (.int .i64 f_.s.n), .lst true 1 (Is f_.s.fr), .lst true 1 (Is f_.s.to), .lst true 1 (Is f_.s.id), .lst true 1 (Ls f_.s.cs), .val (.int .i64 f_.t.n), .lst true 1 (Is f_.t.fr), .lst true 1 (Is f_.t.to), .lst true 1 (Is f_.t.id), .lst true 1 (Ls f_.t.cs), .lst true 1 (Is f_.ob), .lst true 1 (Is f_.ar)]]), (1, .mix 5 [[.val (.int .i64 f_.s.n), .lst true 1 (Is f_.s.fr), .lst true 1 (Is f_.s.to), .lst true 1 (Is f_.s.id), .lst true 1 (Ls f_.s.cs)]]), (2, .mix 5 [[.val (.int .i64 f_.t.n), .lst true 1 (Is f_.t.fr), .lst true 1 (Is f_.t.to), .lst true 1 (Is f_.t.id), .lst true 1 (Ls f_.t.cs)]])], 3⟩) (Wk.rel [(0, 0), (1, 1), (2, 2)] (by simp) (by simp) (by rw [hP]; simp) (by simp) (by simp) (by simp [Cat.cells, Fn.cells, Is_append, Is_one, Ls_append, Ls_one, Bs_append, Bs_one, Es_append, Es_one, Es_set', eB, eI, eL]) (by simp [hhOk, back, Cat.cells, Fn.cells, Is_append, Is_one, Ls_append, Ls_one, Bs_append, Bs_one, Es_append, Es_one, Es_set', eB, eI, eL])) ?_
   refine w_cond rfl (fun g => ?_) fun g => ?_
   · have g28 : s27 < (f_.s.fr.length : Int) := by first | simpa using g | (simp at g; exact g) | (simp at g; omega)
     clear g
     replace h := if_l g28 h
     refine w_skip ?_
     refine tn ?_
     refine w_seq ?_
     refine w_block ?_
     refine w_seq ?_
     replace h := bind_some h
     obtain ⟨e29, h, h29⟩ := h
     refine w_joinT (fun b29 : Bool => ⟨[(1, .adr 0 0 0), (3, .adr 1 0 0), (4, .adr 2 0 0), (5, .val (.int .i64 s27)), (99, .val (.bool b29))], [(0, .mix 12 [[.val (.int .i64 f_.s.n), .lst true 1 (Is f_.s.fr), .lst true 1 (Is f_.s.to), .lst true 1 (Is f_.s.id), .lst true 1 (Ls f_.s.cs), .val (.int .i64 f_.t.n), .lst true 1 (Is f_.t.fr), .lst true 1 (Is f_.t.to), .lst true 1 (Is f_.t.id), .lst true 1 (Ls f_.t.cs), .lst true 1 (Is f_.ob), .lst true 1 (Is f_.ar)]]), (1, .mix 5 [[.val (.int .i64 f_.s.n), .lst true 1 (Is f_.s.fr), .lst true 1 (Is f_.s.to), .lst true 1 (Is f_.s.id), .lst true 1 (Ls f_.s.cs)]]), (2, .mix 5 [[.val (.int .i64 f_.t.n), .lst true 1 (Is f_.t.fr), .lst true 1 (Is f_.t.to), .lst true 1 (Is f_.t.id), .lst true 1 (Ls f_.t.cs)]])], 3⟩) (fun b29 => b29 = e29) ?_ ?_
     · refine w_run mo (by rw [hN]; decide) fun K hK => ?_
       replace h := ass_some h
       obtain ⟨a30, h⟩ := h
       replace h := ass_some h
       obtain ⟨a31, h⟩ := h
       replace h := ass_some h
       obtain ⟨a32, h⟩ := h
       replace h := ass_some h
       obtain ⟨a33, h⟩ := h
       simp [-guardE_b, -Is_at, -Is_at', -Ls_at, -Ls_at', eL, eI, allInts, eP_Cat, eP_Fn, Cat.cells, Fn.cells, at_I a30, at_I a31, at_I a32, at_I a33]
       repeat (with_reducible refine And.intro ?_ ?_; · first | assumption | omega | (simp; done) | (simp; omega) | simp_all)
       refine guard_intro (fun g => ?_) (fun g => ?_)
       · have g34 : ¬ (¬ ((ix f_.t.fr (ix f_.ar s27)) = (ix f_.ob (ix f_.s.fr s27)))) := by first | simpa using g | (simp at g; exact g) | (simp at g; omega)
         clear g
         replace h := if_r g34 h
         replace h := ass_some h
         obtain ⟨a35, h⟩ := h
         replace h := ass_some h
         obtain ⟨a36, h⟩ := h
         replace h := ass_some h
         obtain ⟨a37, h⟩ := h
         replace h := ass_some h
         obtain ⟨a38, h⟩ := h
         simp [-guardE_b, -Is_at, -Is_at', -Ls_at, -Ls_at', eL, eI, allInts, eP_Cat, eP_Fn, Cat.cells, Fn.cells, at_I a35, at_I a36, at_I a37, at_I a38]
         repeat (with_reducible refine And.intro ?_ ?_; · first | assumption | omega | (simp; done) | (simp; omega) | simp_all)
         refine hK _ ?_
         exact jn (b := (ix f_.t.to (ix f_.ar s27)) != (ix f_.ob (ix f_.s.to s27))) (Option.some.inj h) (Wk.rel [(0, 0), (1, 1), (2, 2)] (by simp) (by simp) (by rw [hP]; simp) (by simp) (by simp) (by simp [Cat.cells, Fn.cells, Is_append, Is_one, Ls_append, Ls_one, Bs_append, Bs_one, Es_append, Es_one, Es_set', eB, eI, eL]) (by simp [hhOk, back, Cat.cells, Fn.cells, Is_append, Is_one, Ls_append, Ls_one, Bs_append, Bs_one, Es_append, Es_one, Es_set', eB, eI, eL]))
       have g34 : ¬ ((ix f_.t.fr (ix f_.ar s27)) = (ix f_.ob (ix f_.s.fr s27))) := by first | simpa using g | (simp at g; exact g) | (simp at g; omega)
       clear g
       replace h := if_l g34 h
       simp [-guardE_b, -Is_at, -Is_at', -Ls_at, -Ls_at', eL, eI, allInts, eP_Cat, eP_Fn, Cat.cells, Fn.cells]
       repeat (with_reducible refine And.intro ?_ ?_; · first | assumption | omega | (simp; done) | (simp; omega) | simp_all)
       refine hK _ ?_
       exact jn (b := true) (Option.some.inj h) (Wk.rel [(0, 0), (1, 1), (2, 2)] (by simp) (by simp) (by rw [hP]; simp) (by simp) (by simp) (by simp [Cat.cells, Fn.cells, Is_append, Is_one, Ls_append, Ls_one, Bs_append, Bs_one, Es_append, Es_one, Es_set', eB, eI, eL]) (by simp [hhOk, back, Cat.cells, Fn.cells, Is_append, Is_one, Ls_append, Ls_one, Bs_append, Bs_one, Es_append, Es_one, Es_set', eB, eI, eL]))
     intro b29 hb29
     have h := h29
     rw [← hb29] at h
     clear h29
     try dsimp only at h
     refine w_cond rfl (fun g => ?_) fun g => ?_
     · have g39 : b29 = true := by first | simpa using g | (simp at g; exact g) | (simp at g; omega)
       clear g
       replace h := if_l g39 h
       refine w_seq ?_
       refine w_run mo (by rw [hN]; decide) fun K hK => ?_
       simp [-guardE_b, -Is_at, -Is_at', -Ls_at, -Ls_at', eL, eI, allInts, eP_Cat, eP_Fn, Cat.cells, Fn.cells]
       repeat (with_reducible refine And.intro ?_ ?_; · first | assumption | omega | (simp; done) | (simp; omega) | simp_all)
       refine hK _ ?_
       clear hK K
       refine tn ?_
       refine w_weak (st' := ⟨[(2, .val (.bool false))], [], 0⟩) (Wk.rel [] (by simp) (by simp) (by rw [hP]; simp) (by simp) (by simp) (by simp [Cat.cells, Fn.cells, Is_append, Is_one, Ls_append, Ls_one, Bs_append, Bs_one, Es_append, Es_one, Es_set', eB, eI, eL]) (by simp [hhOk, back, Cat.cells, Fn.cells, Is_append, Is_one, Ls_append, Ls_one, Bs_append, Bs_one, Es_append, Es_one, Es_set', eB, eI, eL])) ?_
       refine w_ret ?_
       refine br ?_
       refine tr ?_
       refine lr ?_
       refine br ?_
       refine tr ?_
       cases h
       have q : _ = e13 := hk27
       have h := h13
       rw [← q] at h
       clear q
       try dsimp only at h
       have hr := Option.some.inj h
       rw [← hr]
       refine ⟨_, (.tmp .nil), ?_⟩
       refine ⟨(.one rfl rfl .nil), [.val (.bool false)], [], by simp [Cat.cells, Fn.cells, Is_append, Is_one, Ls_append, Ls_one, Bs_append, Bs_one, Es_append, Es_one, Es_set', eB, eI, eL], by simp, (UpL.refl _)⟩
     have g39 : ¬ (b29 = true) := by first | simpa using g | (simp at g; exact g) | (simp at g; omega)
     clear g
     replace h := if_r g39 h
     refine w_skip ?_
     refine bn ?_
     refine tn ?_
     refine w_run mo (by rw [hN]; decide) fun K hK => ?_
     replace h := ass_some h
     obtain ⟨a40, h⟩ := h
     simp [-guardE_b, -Is_at, -Is_at', -Ls_at, -Ls_at', eL, eI, allInts, eP_Cat, eP_Fn, Cat.cells, Fn.cells, wrap_id a40]
     repeat (with_reducible refine And.intro ?_ ?_; · first | assumption | omega | (simp; done) | (simp; omega) | simp_all)
     refine hK _ ?_
     clear hK K
     cases h
     exact rn (s' := s27 + 1) hk27 (Wk.rel [(0, 0), (1, 1), (2, 2)] (by simp) (by simp) (by rw [hP]; simp) (by simp) (by simp) (by simp [Cat.cells, Fn.cells, Is_append, Is_one, Ls_append, Ls_one, Bs_append, Bs_one, Es_append, Es_one, Es_set', eB, eI, eL]) (by simp [hhOk, back, Cat.cells, Fn.cells, Is_append, Is_one, Ls_append, Ls_one, Bs_append, Bs_one, Es_append, Es_one, Es_set', eB, eI, eL]))
   have g28 : ¬ (s27 < (f_.s.fr.length : Int)) := by first | simpa using g | (simp at g; exact g) | (simp at g; omega)
   clear g
   replace h := if_r g28 h
   refine w_exit ?_
   refine tx ?_
   refine lx ?_
   refine bh ?_
   cases h
   exact jn (b := ()) hk27 (Wk.rel [(0, 0), (1, 1), (2, 2)] (by simp) (by simp) (by rw [hP]; simp) (by simp) (by simp) (by simp [Cat.cells, Fn.cells, Is_append, Is_one, Ls_append, Ls_one, Bs_append, Bs_one, Es_append, Es_one, Es_set', eB, eI, eL]) (by simp [hhOk, back, Cat.cells, Fn.cells, Is_append, Is_one, Ls_append, Ls_one, Bs_append, Bs_one, Es_append, Es_one, Es_set', eB, eI, eL]))
 intro b13 hb13
 have h := h13
 rw [← hb13] at h
 clear h13
 try dsimp only at h
 refine w_seq ?_
 refine w_seq ?_
 refine w_run mo (by rw [hN]; decide) fun K hK => ?_
 simp [-guardE_b, -Is_at, -Is_at', -Ls_at, -Ls_at', eL, eI, allInts, eP_Cat, eP_Fn, Cat.cells, Fn.cells]
 repeat (with_reducible refine And.intro ?_ ?_; · first | assumption | omega | (simp; done) | (simp; omega) | simp_all)
 refine hK _ ?_
 clear hK K
 refine tn ?_
 refine w_weak (st' := ⟨[(1, .adr 0 0 0), (3, .adr 1 0 0), (4, .adr 2 0 0), (6, .val (.int .i64 0))], [(0, .mix 12 [[.val (.int .i64 f_.s.n), .lst true 1 (Is f_.s.fr), .lst true 1 (Is f_.s.to), .lst true 1 (Is f_.s.id), .lst true 1 (Ls f_.s.cs), .val (.int .i64 f_.t.n), .lst true 1 (Is f_.t.fr), .lst true 1 (Is f_.t.to), .lst true 1 (Is f_.t.id), .lst true 1 (Ls f_.t.cs), .lst true 1 (Is f_.ob), .lst true 1 (Is f_.ar)]]), (1, .mix 5 [[.val (.int .i64 f_.s.n), .lst true 1 (Is f_.s.fr), .lst true 1 (Is f_.s.to), .lst true 1 (Is f_.s.id), .lst true 1 (Ls f_.s.cs)]]), (2, .mix 5 [[.val (.int .i64 f_.t.n), .lst true 1 (Is f_.t.fr), .lst true 1 (Is f_.t.to), .lst true 1 (Is f_.t.id), .lst true 1 (Ls f_.t.cs)]])], 3⟩) (Wk.rel [(0, 0), (1, 1), (2, 2)] (by simp) (by simp) (by rw [hP]; simp) (by simp) (by simp) (by simp [Cat.cells, Fn.cells, Is_append, Is_one, Ls_append, Ls_one, Bs_append, Bs_one, Es_append, Es_one, Es_set', eB, eI, eL]) (by simp [hhOk, back, Cat.cells, Fn.cells, Is_append, Is_one, Ls_append, Ls_one, Bs_append, Bs_one, Es_append, Es_one, Es_set', eB, eI, eL])) ?_
 replace h := bind_some h
 obtain ⟨e41, h, h41⟩ := h
 refine w_joinT (fun b41 : Unit => ⟨[(1, .adr 0 0 0), (3, .adr 1 0 0), (4, .adr 2 0 0)], [(0, .mix 12 [[.val (.int .i64 f_.s.n), .lst true 1 (Is f_.s.fr), .lst true 1 (Is f_.s.to), .lst true 1 (Is f_.s.id), .lst true 1 (Ls f_.s.cs), .val (.int .i64 f_.t.n), .lst true 1 (Is f_.t.fr), .lst true 1 (Is f_.t.to), .lst true 1 (Is f_.t.id), .lst true 1 (Ls f_.t.cs), .lst true 1 (Is f_.ob), .lst true 1 (Is f_.ar)]]), (1, .mix 5 [[.val (.int .i64 f_.s.n), .lst true 1 (Is f_.s.fr), .lst true 1 (Is f_.s.to), .lst true 1 (Is f_.s.id), .lst true 1 (Ls f_.s.cs)]]), (2, .mix 5 [[.val (.int .i64 f_.t.n), .lst true 1 (Is f_.t.fr), .lst true 1 (Is f_.t.to), .lst true 1 (Is f_.t.id), .lst true 1 (Ls f_.t.cs)]])], 3⟩) (fun b41 => Sum.inl b41 = e41) ?_ ?_
 · refine w_block ?_
   refine w_loopF h (fun s49 : Int => ⟨[(1, .adr 0 0 0), (3, .adr 1 0 0), (4, .adr 2 0 0), (6, .val (.int .i64 s49))], [(0, .mix 12 [[.val (.int .i64 f_.s.n), .lst true 1 (Is f_.s.fr), .lst true 1 (Is f_.s.to), .lst true 1 (Is f_.s.id), .lst true 1 (Ls f_.s.cs), .val (.int .i64 f_.t.n), .lst true 1 (Is f_.t.fr), .lst true 1 (Is f_.t.to), .lst true 1 (Is f_.t.id), .lst true 1 (Ls f_.t.cs), .lst true 1 (Is f_.ob), .lst true 1 (Is f_.ar)]]), (1, .mix 5 [[.val (.int .i64 f_.s.n), .lst true 1 (Is f_.s.fr), .lst true 1 (Is f_.s.to), .lst true 1 (Is f_.s.id), .lst true 1 (Ls f_.s.cs)]]), (2, .mix 5 [[.val (.int .i64 f_.t.n), .lst true 1 (Is f_.t.fr), .lst true 1 (Is f_.t.to), .lst true 1 (Is f_.t.id), .lst true 1 (Ls f_.t.cs)]])], 3⟩) (Wk.rel [(0, 0), (1, 1), (2, 2)] (by simp) (by simp) (by rw [hP]; simp) (by simp) (by simp) (by simp [Cat.cells, Fn.cells, Is_append, Is_one, Ls_append, Ls_one, Bs_append, Bs_one, Es_append, Es_one, Es_set', eB, eI, eL]) (by simp [hhOk, back, Cat.cells, Fn.cells, Is_append, Is_one, Ls_append, Ls_one, Bs_append, Bs_one, Es_append, Es_one, Es_set', eB, eI, eL])) ?_
   clear h
   intro k49 s49 c49 h hk49
   refine w_seq ?_
   refine w_seq ?_
   refine w_run mo (by rw [hN]; decide) fun K hK => ?_
   simp [-guardE_b, -Is_at, -Is_at', -Ls_at, -Ls_at', eL, eI, allInts, eP_Cat, eP_Fn, Cat.cells, Fn.cells]
   repeat (with_reducible refine And.intro ?_ ?_; · first | assumption | omega | (simp; done) | (simp; omega) | simp_all)
   refine hK _ ?_
   clear hK K
   refine tn ?_
   refine w_weak (st' := ⟨[(1, .adr 0 0 0), (3, .adr 1 0 0), (4, .adr 2 0 0), (6, .val (.int .i64 s49)), (103, .val (.bool (decide (s49 < f_.s.n))))], [(0, .mix 12 [[.val (.int .i64 f_.s.n), .lst true 1 (Is f_.s.fr), .lst true 1 (Is f_.s.to), .lst true 1 (Is f_.s.id), .lst true 1 (Ls f_.s.cs), .val (.int .i64 f_.t.n), .lst true 1 (Is f_.t.fr), .lst true 1 (Is f_.t.to), .lst true 1 (Is f_.t.id), .lst true 1 (Ls f_.t.cs), .lst true 1 (Is f_.ob), .lst true 1 (Is f_.ar)]]), (1, .mix 5 [[.val (.int .i64 f_.s.n), .lst true 1 (Is f_.s.fr), .lst true 1 (Is f_.s.to), .lst true 1 (Is f_.s.id), .lst true 1 (Ls f_.s.cs)]]), (2, .mix 5 [[.val (.int .i64 f_.t.n), .lst true 1 (Is f_.t.fr), .lst true 1 (Is f_.t.to), .lst true 1 (Is f_.t.id), .lst true 1 (Ls f_.t.cs)]])], 3⟩) (Wk.rel [(0, 0), (1, 1), (2, 2)] (by simp) (by simp) (by rw [hP]; simp) (by simp) (by simp) (by simp [Cat.cells, Fn.cells, Is_append, Is_one, Ls_append, Ls_one, Bs_append, Bs_one, Es_append, Es_one, Es_set', eB, eI, eL]) (by simp [hhOk, back, Cat.cells, Fn.cells, Is_append, Is_one, Ls_append, Ls_one, Bs_append, Bs_one, Es_append, Es_one, Es_set', eB, eI, eL])) ?_
   refine w_cond rfl (fun g => ?_) fun g => ?_
   · have g50 : s49 < f_.s.n := by first | simpa using g | (simp at g; exact g) | (simp at g; omega)
     clear g
     replace h := if_l g50 h
     refine w_skip ?_
     refine tn ?_
     refine w_seq ?_
     refine w_block ?_
     refine w_seq ?_
     refine w_run mo (by rw [hN]; decide) fun K hK => ?_
     replace h := ass_some h
     obtain ⟨a51, h⟩ := h
     replace h := ass_some h
     obtain ⟨a52, h⟩ := h
     replace h := ass_some h
     obtain ⟨a53, h⟩ := h
     replace h := ass_some h
     obtain ⟨a54, h⟩ := h
     simp [-guardE_b, -Is_at, -Is_at', -Ls_at, -Ls_at', eL, eI, allInts, eP_Cat, eP_Fn, Cat.cells, Fn.cells, at_I a51, at_I a52, at_I a53, at_I a54]
     repeat (with_reducible refine And.intro ?_ ?_; · first | assumption | omega | (simp; done) | (simp; omega) | simp_all)
     refine hK _ ?_
     clear hK K
     refine tn ?_
     refine w_weak (st' := ⟨[(1, .adr 0 0 0), (3, .adr 1 0 0), (4, .adr 2 0 0), (6, .val (.int .i64 s49)), (124, .val (.bool ((ix f_.ar (ix f_.s.id s49)) != (ix f_.t.id (ix f_.ob s49)))))], [(0, .mix 12 [[.val (.int .i64 f_.s.n), .lst true 1 (Is f_.s.fr), .lst true 1 (Is f_.s.to), .lst true 1 (Is f_.s.id), .lst true 1 (Ls f_.s.cs), .val (.int .i64 f_.t.n), .lst true 1 (Is f_.t.fr), .lst true 1 (Is f_.t.to), .lst true 1 (Is f_.t.id), .lst true 1 (Ls f_.t.cs), .lst true 1 (Is f_.ob), .lst true 1 (Is f_.ar)]]), (1, .mix 5 [[.val (.int .i64 f_.s.n), .lst true 1 (Is f_.s.fr), .lst true 1 (Is f_.s.to), .lst true 1 (Is f_.s.id), .lst true 1 (Ls f_.s.cs)]]), (2, .mix 5 [[.val (.int .i64 f_.t.n), .lst true 1 (Is f_.t.fr), .lst true 1 (Is f_.t.to), .lst true 1 (Is f_.t.id), .lst true 1 (Ls f_.t.cs)]])], 3⟩) (Wk.rel [(0, 0), (1, 1), (2, 2)] (by simp) (by simp) (by rw [hP]; simp) (by simp) (by simp) (by simp [Cat.cells, Fn.cells, Is_append, Is_one, Ls_append, Ls_one, Bs_append, Bs_one, Es_append, Es_one, Es_set', eB, eI, eL]) (by simp [hhOk, back, Cat.cells, Fn.cells, Is_append, Is_one, Ls_append, Ls_one, Bs_append, Bs_one, Es_append, Es_one, Es_set', eB, eI, eL])) ?_
     refine w_cond rfl (fun g => ?_) fun g => ?_
     · have g55 : ¬ ((ix f_.ar (ix f_.s.id s49)) = (ix f_.t.id (ix f_.ob s49))) := by first | simpa using g | (simp at g; exact g) | (simp at g; omega)
       clear g
       replace h := if_l g55 h
       refine w_seq ?_
       refine w_run mo (by rw [hN]; decide) fun K hK => ?_
       simp [-guardE_b, -Is_at, -Is_at', -Ls_at, -Ls_at', eL, eI, allInts, eP_Cat, eP_Fn, Cat.cells, Fn.cells]
       repeat (with_reducible refine And.intro ?_ ?_; · first | assumption | omega | (simp; done) | (simp; omega) | simp_all)
       refine hK _ ?_
       clear hK K
       refine tn ?_
       refine w_weak (st' := ⟨[(2, .val (.bool false))], [], 0⟩) (Wk.rel [] (by simp) (by simp) (by rw [hP]; simp) (by simp) (by simp) (by simp [Cat.cells, Fn.cells, Is_append, Is_one, Ls_append, Ls_one, Bs_append, Bs_one, Es_append, Es_one, Es_set', eB, eI, eL]) (by simp [hhOk, back, Cat.cells, Fn.cells, Is_append, Is_one, Ls_append, Ls_one, Bs_append, Bs_one, Es_append, Es_one, Es_set', eB, eI, eL])) ?_
       refine w_ret ?_
       refine br ?_
       refine tr ?_
       refine lr ?_
       refine br ?_
       refine tr ?_
       cases h
       have q : _ = e41 := hk49
       have h := h41
       rw [← q] at h
       clear q
       try dsimp only at h
       have hr := Option.some.inj h
       rw [← hr]
       refine ⟨_, (.tmp .nil), ?_⟩
       refine ⟨(.one rfl rfl .nil), [.val (.bool false)], [], by simp [Cat.cells, Fn.cells, Is_append, Is_one, Ls_append, Ls_one, Bs_append, Bs_one, Es_append, Es_one, Es_set', eB, eI, eL], by simp, (UpL.refl _)⟩
     have g55 : ¬ (¬ ((ix f_.ar (ix f_.s.id s49)) = (ix f_.t.id (ix f_.ob s49)))) := by first | simpa using g | (simp at g; exact g) | (simp at g; omega)
     clear g
     replace h := if_r g55 h
     refine w_skip ?_
     refine bn ?_
     refine tn ?_
     refine w_run mo (by rw [hN]; decide) fun K hK => ?_
     replace h := ass_some h
     obtain ⟨a56, h⟩ := h
     simp [-guardE_b, -Is_at, -Is_at', -Ls_at, -Ls_at', eL, eI, allInts, eP_Cat, eP_Fn, Cat.cells, Fn.cells, wrap_id a56]
     repeat (with_reducible refine And.intro ?_ ?_; · first | assumption | omega | (simp; done) | (simp; omega) | simp_all)
     refine hK _ ?_
     clear hK K
     cases h
     exact rn (s' := s49 + 1) hk49 (Wk.rel [(0, 0), (1, 1), (2, 2)] (by simp) (by simp) (by rw [hP]; simp) (by simp) (by simp) (by simp [Cat.cells, Fn.cells, Is_append, Is_one, Ls_append, Ls_one, Bs_append, Bs_one, Es_append, Es_one, Es_set', eB, eI, eL]) (by simp [hhOk, back, Cat.cells, Fn.cells, Is_append, Is_one, Ls_append, Ls_one, Bs_append, Bs_one, Es_append, Es_one, Es_set', eB, eI, eL]))
   have g50 : ¬ (s49 < f_.s.n) := by first | simpa using g | (simp at g; exact g) | (simp at g; omega)
   clear g
   replace h := if_r g50 h
   refine w_exit ?_
   refine tx ?_
   refine lx ?_
   refine bh ?_
   cases h
   exact jn (b := ()) hk49 (Wk.rel [(0, 0), (1, 1), (2, 2)] (by simp) (by simp) (by rw [hP]; simp) (by simp) (by simp) (by simp [Cat.cells, Fn.cells, Is_append, Is_one, Ls_append, Ls_one, Bs_append, Bs_one, Es_append, Es_one, Es_set', eB, eI, eL]) (by simp [hhOk, back, Cat.cells, Fn.cells, Is_append, Is_one, Ls_append, Ls_one, Bs_append, Bs_one, Es_append, Es_one, Es_set', eB, eI, eL]))
 intro b41 hb41
 have h := h41
 rw [← hb41] at h
 clear h41
 try dsimp only at h
 refine w_seq ?_
 refine w_seq ?_
 refine w_run mo (by rw [hN]; decide) fun K hK => ?_
 simp [-guardE_b, -Is_at, -Is_at', -Ls_at, -Ls_at', eL, eI, allInts, eP_Cat, eP_Fn, Cat.cells, Fn.cells]
 repeat (with_reducible refine And.intro ?_ ?_; · first | assumption | omega | (simp; done) | (simp; omega) | simp_all)
 refine hK _ ?_
 clear hK K
 refine tn ?_
 refine w_weak (st' := ⟨[(1, .adr 0 0 0), (3, .adr 1 0 0), (4, .adr 2 0 0), (7, .val (.int .i64 0))], [(0, .mix 12 [[.val (.int .i64 f_.s.n), .lst true 1 (Is f_.s.fr), .lst true 1 (Is f_.s.to), .lst true 1 (Is f_.s.id), .lst true 1 (Ls f_.s.cs), .val (.int .i64 f_.t.n), .lst true 1 (Is f_.t.fr), .lst true 1 (Is f_.t.to), .lst true 1 (Is f_.t.id), .lst true 1 (Ls f_.t.cs), .lst true 1 (Is f_.ob), .lst true 1 (Is f_.ar)]]), (1, .mix 5 [[.val (.int .i64 f_.s.n), .lst true 1 (Is f_.s.fr), .lst true 1 (Is f_.s.to), .lst true 1 (Is f_.s.id), .lst true 1 (Ls f_.s.cs)]]), (2, .mix 5 [[.val (.int .i64 f_.t.n), .lst true 1 (Is f_.t.fr), .lst true 1 (Is f_.t.to), .lst true 1 (Is f_.t.id), .lst true 1 (Ls f_.t.cs)]])], 3⟩) (Wk.rel [(0, 0), (1, 1), (2, 2)] (by simp) (by simp) (by rw [hP]; simp) (by simp) (by simp) (by simp [Cat.cells, Fn.cells, Is_append, Is_one, Ls_append, Ls_one, Bs_append, Bs_one, Es_append, Es_one, Es_set', eB, eI, eL]) (by simp [hhOk, back, Cat.cells, Fn.cells, Is_append, Is_one, Ls_append, Ls_one, Bs_append, Bs_one, Es_append, Es_one, Es_set', eB, eI, eL])) ?_
 replace h := bind_some h
 obtain ⟨e57, h, h57⟩ := h
 refine w_joinT (fun b57 : Unit => ⟨[], [], 0⟩) (fun b57 => Sum.inl b57 = e57) ?_ ?_
 · refine w_block ?_
   refine w_loopF h (fun s90 : Int => ⟨[(1, .adr 0 0 0), (3, .adr 1 0 0), (4, .adr 2 0 0), (7, .val (.int .i64 s90))], [(0, .mix 12 [[.val (.int .i64 f_.s.n), .lst true 1 (Is f_.s.fr), .lst true 1 (Is f_.s.to), .lst true 1 (Is f_.s.id), .lst true 1 (Ls f_.s.cs), .val (.int .i64 f_.t.n), .lst true 1 (Is f_.t.fr), .lst true 1 (Is f_.t.to), .lst true 1 (Is f_.t.id), .lst true 1 (Ls f_.t.cs), .lst true 1 (Is f_.ob), .lst true 1 (Is f_.ar)]]), (1, .mix 5 [[.val (.int .i64 f_.s.n), .lst true 1 (Is f_.s.fr), .lst true 1 (Is f_.s.to), .lst true 1 (Is f_.s.id), .lst true 1 (Ls f_.s.cs)]]), (2, .mix 5 [[.val (.int .i64 f_.t.n), .lst true 1 (Is f_.t.fr), .lst true 1 (Is f_.t.to), .lst true 1 (Is f_.t.id), .lst true 1 (Ls f_.t.cs)]])], 3⟩) (Wk.rel [(0, 0), (1, 1), (2, 2)] (by simp) (by simp) (by rw [hP]; simp) (by simp) (by simp) (by simp [Cat.cells, Fn.cells, Is_append, Is_one, Ls_append, Ls_one, Bs_append, Bs_one, Es_append, Es_one, Es_set', eB, eI, eL]) (by simp [hhOk, back, Cat.cells, Fn.cells, Is_append, Is_one, Ls_append, Ls_one, Bs_append, Bs_one, Es_append, Es_one, Es_set', eB, eI, eL])) ?_
   clear h
   intro k90 s90 c90 h hk90
   refine w_seq ?_
   refine w_seq ?_
   refine w_run mo (by rw [hN]; decide) fun K hK => ?_
   simp [-guardE_b, -Is_at, -Is_at', -Ls_at, -Ls_at', eL, eI, allInts, eP_Cat, eP_Fn, Cat.cells, Fn.cells]
   repeat (with_reducible refine And.intro ?_ ?_; · first | assumption | omega | (simp; done) | (simp; omega) | simp_all)
   refine hK _ ?_
   clear hK K
   refine tn ?_
   refine w_weak (st' := ⟨[(1, .adr 0 0 0), (3, .adr 1 0 0), (4, .adr 2 0 0), (7, .val (.int .i64 s90)), (129, .val (.bool (decide (s90 < (f_.s.fr.length : Int)))))], [(0, .mix 12 [[.val (.int .i64 f_.s.n), .lst true 1 (Is f_.s.fr), .lst true 1 (Is f_.s.to), .lst true 1 (Is f_.s.id), .lst true 1 (Ls f_.s.cs), .val (.int .i64 f_.t.n), .lst true 1 (Is f_.t.fr), .lst true 1 (Is f_.t.to), .lst true 1 (Is f_.t.id), .lst true 1 (Ls f_.t.cs), .lst true 1 (Is f_.ob), .lst true 1 (Is f_.ar)]]), (1, .mix 5 [[.val (.int .i64 f_.s.n), .lst true 1 (Is f_.s.fr), .lst true 1 (Is f_.s.to), .lst true 1 (Is f_.s.id), .lst true 1 (Ls f_.s.cs)]]), (2, .mix 5 [[.val (.int .i64 f_.t.n), .lst true 1 (Is f_.t.fr), .lst true 1 (Is f_.t.to), .lst true 1 (Is f_.t.id), .lst true 1 (Ls f_.t.cs)]])], 3⟩) (Wk.rel [(0, 0), (1, 1), (2, 2)] (by simp) (by simp) (by rw [hP]; simp) (by simp) (by simp) (by simp [Cat.cells, Fn.cells, Is_append, Is_one, Ls_append, Ls_one, Bs_append, Bs_one, Es_append, Es_one, Es_set', eB, eI, eL]) (by simp [hhOk, back, Cat.cells, Fn.cells, Is_append, Is_one, Ls_append, Ls_one, Bs_append, Bs_one, Es_append, Es_one, Es_set', eB, eI, eL])) ?_
   refine w_cond rfl (fun g => ?_) fun g => ?_
   · have g91 : s90 < (f_.s.fr.length : Int) := by first | simpa using g | (simp at g; exact g) | (simp at g; omega)
     clear g
     replace h := if_l g91 h
     refine w_skip ?_
     refine tn ?_
     refine w_seq ?_
     replace h := bind_some h
     obtain ⟨e92, h, h92⟩ := h
     refine w_joinT (fun b92 : Unit => ⟨[(1, .adr 0 0 0), (3, .adr 1 0 0), (4, .adr 2 0 0), (7, .val (.int .i64 s90))], [(0, .mix 12 [[.val (.int .i64 f_.s.n), .lst true 1 (Is f_.s.fr), .lst true 1 (Is f_.s.to), .lst true 1 (Is f_.s.id), .lst true 1 (Ls f_.s.cs), .val (.int .i64 f_.t.n), .lst true 1 (Is f_.t.fr), .lst true 1 (Is f_.t.to), .lst true 1 (Is f_.t.id), .lst true 1 (Ls f_.t.cs), .lst true 1 (Is f_.ob), .lst true 1 (Is f_.ar)]]), (1, .mix 5 [[.val (.int .i64 f_.s.n), .lst true 1 (Is f_.s.fr), .lst true 1 (Is f_.s.to), .lst true 1 (Is f_.s.id), .lst true 1 (Ls f_.s.cs)]]), (2, .mix 5 [[.val (.int .i64 f_.t.n), .lst true 1 (Is f_.t.fr), .lst true 1 (Is f_.t.to), .lst true 1 (Is f_.t.id), .lst true 1 (Ls f_.t.cs)]])], 3⟩) (fun b92 => Sum.inl b92 = e92) ?_ ?_
     · refine w_block ?_
       refine w_seq ?_
       refine w_run mo (by rw [hN]; decide) fun K hK => ?_
       simp [-guardE_b, -Is_at, -Is_at', -Ls_at, -Ls_at', eL, eI, allInts, eP_Cat, eP_Fn, Cat.cells, Fn.cells]
       repeat (with_reducible refine And.intro ?_ ?_; · first | assumption | omega | (simp; done) | (simp; omega) | simp_all)
       refine hK _ ?_
       clear hK K
       refine tn ?_
       refine w_weak (st' := ⟨[(1, .adr 0 0 0), (3, .adr 1 0 0), (4, .adr 2 0 0), (7, .val (.int .i64 s90)), (8, .val (.int .i64 0))], [(0, .mix 12 [[.val (.int .i64 f_.s.n), .lst true 1 (Is f_.s.fr), .lst true 1 (Is f_.s.to), .lst true 1 (Is f_.s.id), .lst true 1 (Ls f_.s.cs), .val (.int .i64 f_.t.n), .lst true 1 (Is f_.t.fr), .lst true 1 (Is f_.t.to), .lst true 1 (Is f_.t.id), .lst true 1 (Ls f_.t.cs), .lst true 1 (Is f_.ob), .lst true 1 (Is f_.ar)]]), (1, .mix 5 [[.val (.int .i64 f_.s.n), .lst true 1 (Is f_.s.fr), .lst true 1 (Is f_.s.to), .lst true 1 (Is f_.s.id), .lst true 1 (Ls f_.s.cs)]]), (2, .mix 5 [[.val (.int .i64 f_.t.n), .lst true 1 (Is f_.t.fr), .lst true 1 (Is f_.t.to), .lst true 1 (Is f_.t.id), .lst true 1 (Ls f_.t.cs)]])], 3⟩) (Wk.rel [(0, 0), (1, 1), (2, 2)] (by simp) (by simp) (by rw [hP]; simp) (by simp) (by simp) (by simp [Cat.cells, Fn.cells, Is_append, Is_one, Ls_append, Ls_one, Bs_append, Bs_one, Es_append, Es_one, Es_set', eB, eI, eL]) (by simp [hhOk, back, Cat.cells, Fn.cells, Is_append, Is_one, Ls_append, Ls_one, Bs_append, Bs_one, Es_append, Es_one, Es_set', eB, eI, eL])) ?_
       refine w_block ?_
       replace h := bind_some h
       obtain ⟨e107, he107, h107⟩ := h
       refine w_loopF he107 (fun s107 : Int => ⟨[(1, .adr 0 0 0), (3, .adr 1 0 0), (4, .adr 2 0 0), (7, .val (.int .i64 s90)), (8, .val (.int .i64 s107))], [(0, .mix 12 [[.val (.int .i64 f_.s.n), .lst true 1 (Is f_.s.fr), .lst true 1 (Is f_.s.to), .lst true 1 (Is f_.s.id), .lst true 1 (Ls f_.s.cs), .val (.int .i64 f_.t.n), .lst true 1 (Is f_.t.fr), .lst true 1 (Is f_.t.to), .lst true 1 (Is f_.t.id), .lst true 1 (Ls f_.t.cs), .lst true 1 (Is f_.ob), .lst true 1 (Is f_.ar)]]), (1, .mix 5 [[.val (.int .i64 f_.s.n), .lst true 1 (Is f_.s.fr), .lst true 1 (Is f_.s.to), .lst true 1 (Is f_.s.id), .lst true 1 (Ls f_.s.cs)]]), (2, .mix 5 [[.val (.int .i64 f_.t.n), .lst true 1 (Is f_.t.fr), .lst true 1 (Is f_.t.to), .lst true 1 (Is f_.t.id), .lst true 1 (Ls f_.t.cs)]])], 3⟩) (Wk.rel [(0, 0), (1, 1), (2, 2)] (by simp) (by simp) (by rw [hP]; simp) (by simp) (by simp) (by simp [Cat.cells, Fn.cells, Is_append, Is_one, Ls_append, Ls_one, Bs_append, Bs_one, Es_append, Es_one, Es_set', eB, eI, eL]) (by simp [hhOk, back, Cat.cells, Fn.cells, Is_append, Is_one, Ls_append, Ls_one, Bs_append, Bs_one, Es_append, Es_one, Es_set', eB, eI, eL])) ?_
       intro k107 s107 c107 h hk107
       refine w_seq ?_
       refine w_seq ?_
       refine w_run mo (by rw [hN]; decide) fun K hK => ?_
       simp [-guardE_b, -Is_at, -Is_at', -Ls_at, -Ls_at', eL, eI, allInts, eP_Cat, eP_Fn, Cat.cells, Fn.cells]
       repeat (with_reducible refine And.intro ?_ ?_; · first | assumption | omega | (simp; done) | (simp; omega) | simp_all)
       refine hK _ ?_
       clear hK K
       refine tn ?_
       refine w_weak (st' := ⟨[(1, .adr 0 0 0), (3, .adr 1 0 0), (4, .adr 2 0 0), (7, .val (.int .i64 s90)), (8, .val (.int .i64 s107)), (136, .val (.bool (decide (s107 < (f_.s.fr.length : Int)))))], [(0, .mix 12 [[.val (.int .i64 f_.s.n), .lst true 1 (Is f_.s.fr), .lst true 1 (Is f_.s.to), .lst true 1 (Is f_.s.id), .lst true 1 (Ls f_.s.cs), .val (.int .i64 f_.t.n), .lst true 1 (Is f_.t.fr), .lst true 1 (Is f_.t.to), .lst true 1 (Is f_.t.id), .lst true 1 (Ls f_.t.cs), .lst true 1 (Is f_.ob), .lst true 1 (Is f_.ar)]]), (1, .mix 5 [[.val (.int .i64 f_.s.n), .lst true 1 (Is f_.s.fr), .lst true 1 (Is f_.s.to), .lst true 1 (Is f_.s.id), .lst true 1 (Ls f_.s.cs)]]), (2, .mix 5 [[.val (.int .i64 f_.t.n), .lst true 1 (Is f_.t.fr), .lst true 1 (Is f_.t.to), .lst true 1 (Is f_.t.id), .lst true 1 (Ls f_.t.cs)]])], 3⟩) (Wk.rel [(0, 0), (1, 1), (2, 2)] (by simp) (by simp) (by rw [hP]; simp) (by simp) (by simp) (by simp [Cat.cells, Fn.cells, Is_append, Is_one, Ls_append, Ls_one, Bs_append, Bs_one, Es_append, Es_one, Es_set', eB, eI, eL]) (by simp [hhOk, back, Cat.cells, Fn.cells, Is_append, Is_one, Ls_append, Ls_one, Bs_append, Bs_one, Es_append, Es_one, Es_set', eB, eI, eL])) ?_
       refine w_cond rfl (fun g => ?_) fun g => ?_
       · have g108 : s107 < (f_.s.fr.length : Int) := by first | simpa using g | (simp at g; exact g) | (simp at g; omega)
         clear g
         replace h := if_l g108 h
         refine w_skip ?_
         refine tn ?_
         refine w_seq ?_
         refine w_block ?_
         refine w_seq ?_
         replace h := bind_some h
         obtain ⟨e109, h, h109⟩ := h
         refine w_joinT (fun b109 : Bool => ⟨[(1, .adr 0 0 0), (3, .adr 1 0 0), (4, .adr 2 0 0), (7, .val (.int .i64 s90)), (8, .val (.int .i64 s107)), (180, .val (.bool b109))], [(0, .mix 12 [[.val (.int .i64 f_.s.n), .lst true 1 (Is f_.s.fr), .lst true 1 (Is f_.s.to), .lst true 1 (Is f_.s.id), .lst true 1 (Ls f_.s.cs), .val (.int .i64 f_.t.n), .lst true 1 (Is f_.t.fr), .lst true 1 (Is f_.t.to), .lst true 1 (Is f_.t.id), .lst true 1 (Ls f_.t.cs), .lst true 1 (Is f_.ob), .lst true 1 (Is f_.ar)]]), (1, .mix 5 [[.val (.int .i64 f_.s.n), .lst true 1 (Is f_.s.fr), .lst true 1 (Is f_.s.to), .lst true 1 (Is f_.s.id), .lst true 1 (Ls f_.s.cs)]]), (2, .mix 5 [[.val (.int .i64 f_.t.n), .lst true 1 (Is f_.t.fr), .lst true 1 (Is f_.t.to), .lst true 1 (Is f_.t.id), .lst true 1 (Ls f_.t.cs)]])], 3⟩) (fun b109 => b109 = e109) ?_ ?_
         · refine w_run mo (by rw [hN]; decide) fun K hK => ?_
           replace h := ass_some h
           obtain ⟨a110, h⟩ := h
           replace h := ass_some h
           obtain ⟨a111, h⟩ := h
           simp [-guardE_b, -Is_at, -Is_at', -Ls_at, -Ls_at', eL, eI, allInts, eP_Cat, eP_Fn, Cat.cells, Fn.cells, at_I a110, at_I a111]
           repeat (with_reducible refine And.intro ?_ ?_; · first | assumption | omega | (simp; done) | (simp; omega) | simp_all)
           refine guard_intro (fun g => ?_) (fun g => ?_)
           · have g112 : (ix f_.s.to s90) = (ix f_.s.fr s107) := by first | simpa using g | (simp at g; exact g) | (simp at g; omega)
             clear g
             replace h := if_l g112 h
             replace h := ass_some h
             obtain ⟨a113, h⟩ := h
             replace h := ass_some h
             obtain ⟨a114, h⟩ := h
             replace h := ass_some h
             obtain ⟨a115, h⟩ := h
             replace h := ass_some h
             obtain ⟨a116, h⟩ := h
             replace h := ass_some h
             obtain ⟨a117, h⟩ := h
             replace h := ass_some h
             obtain ⟨a118, h⟩ := h
             replace h := ass_some h
             obtain ⟨a119, h⟩ := h
             simp [-guardE_b, -Is_at, -Is_at', -Ls_at, -Ls_at', eL, eI, allInts, eP_Cat, eP_Fn, Cat.cells, Fn.cells, at_L a113, at_I a114, at_I a115, at_I a116, at_L a117, at_I a118, at_I a119]
             repeat (with_reducible refine And.intro ?_ ?_; · first | assumption | omega | (simp; done) | (simp; omega) | simp_all)
             refine hK _ ?_
             exact jn (b := (ix f_.ar (ix (rx f_.s.cs s90) s107)) != (ix (rx f_.t.cs (ix f_.ar s90)) (ix f_.ar s107))) (Option.some.inj h) (Wk.rel [(0, 0), (1, 1), (2, 2)] (by simp) (by simp) (by rw [hP]; simp) (by simp) (by simp) (by simp [Cat.cells, Fn.cells, Is_append, Is_one, Ls_append, Ls_one, Bs_append, Bs_one, Es_append, Es_one, Es_set', eB, eI, eL]) (by simp [hhOk, back, Cat.cells, Fn.cells, Is_append, Is_one, Ls_append, Ls_one, Bs_append, Bs_one, Es_append, Es_one, Es_set', eB, eI, eL]))
           have g112 : ¬ ((ix f_.s.to s90) = (ix f_.s.fr s107)) := by first | simpa using g | (simp at g; exact g) | (simp at g; omega)
           clear g
           replace h := if_r g112 h
           simp [-guardE_b, -Is_at, -Is_at', -Ls_at, -Ls_at', eL, eI, allInts, eP_Cat, eP_Fn, Cat.cells, Fn.cells]
           repeat (with_reducible refine And.intro ?_ ?_; · first | assumption | omega | (simp; done) | (simp; omega) | simp_all)
           refine hK _ ?_
           exact jn (b := false) (Option.some.inj h) (Wk.rel [(0, 0), (1, 1), (2, 2)] (by simp) (by simp) (by rw [hP]; simp) (by simp) (by simp) (by simp [Cat.cells, Fn.cells, Is_append, Is_one, Ls_append, Ls_one, Bs_append, Bs_one, Es_append, Es_one, Es_set', eB, eI, eL]) (by simp [hhOk, back, Cat.cells, Fn.cells, Is_append, Is_one, Ls_append, Ls_one, Bs_append, Bs_one, Es_append, Es_one, Es_set', eB, eI, eL]))
         intro b109 hb109
         have h := h109
         rw [← hb109] at h
         clear h109
         try dsimp only at h
         refine w_cond rfl (fun g => ?_) fun g => ?_
         · have g120 : b109 = true := by first | simpa using g | (simp at g; exact g) | (simp at g; omega)
           clear g
           replace h := if_l g120 h
           refine w_seq ?_
           refine w_run mo (by rw [hN]; decide) fun K hK => ?_
           simp [-guardE_b, -Is_at, -Is_at', -Ls_at, -Ls_at', eL, eI, allInts, eP_Cat, eP_Fn, Cat.cells, Fn.cells]
           repeat (with_reducible refine And.intro ?_ ?_; · first | assumption | omega | (simp; done) | (simp; omega) | simp_all)
           refine hK _ ?_
           clear hK K
           refine tn ?_
           refine w_weak (st' := ⟨[(2, .val (.bool false))], [], 0⟩) (Wk.rel [] (by simp) (by simp) (by rw [hP]; simp) (by simp) (by simp) (by simp [Cat.cells, Fn.cells, Is_append, Is_one, Ls_append, Ls_one, Bs_append, Bs_one, Es_append, Es_one, Es_set', eB, eI, eL]) (by simp [hhOk, back, Cat.cells, Fn.cells, Is_append, Is_one, Ls_append, Ls_one, Bs_append, Bs_one, Es_append, Es_one, Es_set', eB, eI, eL])) ?_
           refine w_ret ?_
           refine br ?_
           refine tr ?_
           refine lr ?_
           refine br ?_
           refine br ?_
           refine tr ?_
           refine lr ?_
           refine br ?_
           refine tr ?_
           cases h
           have q : _ = e107 := hk107
           have h := h107
           rw [← q] at h
           clear q
           try dsimp only at h
           cases h
           have h := h92
           try dsimp only at h
           cases h
           have q : _ = e57 := hk90
           have h := h57
           rw [← q] at h
           clear q
           try dsimp only at h
           have hr := Option.some.inj h
           rw [← hr]
           refine ⟨_, (.tmp .nil), ?_⟩
           refine ⟨(.one rfl rfl .nil), [.val (.bool false)], [], by simp [Cat.cells, Fn.cells, Is_append, Is_one, Ls_append, Ls_one, Bs_append, Bs_one, Es_append, Es_one, Es_set', eB, eI, eL], by simp, (UpL.refl _)⟩
         have g120 : ¬ (b109 = true) := by first | simpa using g | (simp at g; exact g) | (simp at g; omega)
         clear g
         replace h := if_r g120 h
         refine w_skip ?_
         refine bn ?_
         refine tn ?_
         refine w_run mo (by rw [hN]; decide) fun K hK => ?_
         replace h := ass_some h
         obtain ⟨a121, h⟩ := h
         simp [-guardE_b, -Is_at, -Is_at', -Ls_at, -Ls_at', eL, eI, allInts, eP_Cat, eP_Fn, Cat.cells, Fn.cells, wrap_id a121]
         repeat (with_reducible refine And.intro ?_ ?_; · first | assumption | omega | (simp; done) | (simp; omega) | simp_all)
         refine hK _ ?_
         clear hK K
         cases h
         exact rn (s' := s107 + 1) hk107 (Wk.rel [(0, 0), (1, 1), (2, 2)] (by simp) (by simp) (by rw [hP]; simp) (by simp) (by simp) (by simp [Cat.cells, Fn.cells, Is_append, Is_one, Ls_append, Ls_one, Bs_append, Bs_one, Es_append, Es_one, Es_set', eB, eI, eL]) (by simp [hhOk, back, Cat.cells, Fn.cells, Is_append, Is_one, Ls_append, Ls_one, Bs_append, Bs_one, Es_append, Es_one, Es_set', eB, eI, eL]))
       have g108 : ¬ (s107 < (f_.s.fr.length : Int)) := by first | simpa using g | (simp at g; exact g) | (simp at g; omega)
       clear g
       replace h := if_r g108 h
       refine w_exit ?_
       refine tx ?_
       refine lx ?_
       refine bh ?_
       refine bn ?_
       cases h
       have q : _ = e107 := hk107
       have h := h107
       rw [← q] at h
       clear q
       try dsimp only at h
       exact jn (b := ()) (Option.some.inj h) (Wk.rel [(0, 0), (1, 1), (2, 2)] (by simp) (by simp) (by rw [hP]; simp) (by simp) (by simp) (by simp [Cat.cells, Fn.cells, Is_append, Is_one, Ls_append, Ls_one, Bs_append, Bs_one, Es_append, Es_one, Es_set', eB, eI, eL]) (by simp [hhOk, back, Cat.cells, Fn.cells, Is_append, Is_one, Ls_append, Ls_one, Bs_append, Bs_one, Es_append, Es_one, Es_set', eB, eI, eL]))
     intro b92 hb92
     have h := h92
     rw [← hb92] at h
     clear h92
     try dsimp only at h
     refine w_run mo (by rw [hN]; decide) fun K hK => ?_
     replace h := ass_some h
     obtain ⟨a122, h⟩ := h
     simp [-guardE_b, -Is_at, -Is_at', -Ls_at, -Ls_at', eL, eI, allInts, eP_Cat, eP_Fn, Cat.cells, Fn.cells, wrap_id a122]
     repeat (with_reducible refine And.intro ?_ ?_; · first | assumption | omega | (simp; done) | (simp; omega) | simp_all)
     refine hK _ ?_
     clear hK K
     cases h
     exact rn (s' := s90 + 1) hk90 (Wk.rel [(0, 0), (1, 1), (2, 2)] (by simp) (by simp) (by rw [hP]; simp) (by simp) (by simp) (by simp [Cat.cells, Fn.cells, Is_append, Is_one, Ls_append, Ls_one, Bs_append, Bs_one, Es_append, Es_one, Es_set', eB, eI, eL]) (by simp [hhOk, back, Cat.cells, Fn.cells, Is_append, Is_one, Ls_append, Ls_one, Bs_append, Bs_one, Es_append, Es_one, Es_set', eB, eI, eL]))
   have g91 : ¬ (s90 < (f_.s.fr.length : Int)) := by first | simpa using g | (simp at g; exact g) | (simp at g; omega)
   clear g
   replace h := if_r g91 h
   refine w_exit ?_
   refine tx ?_
   refine lx ?_
   refine bh ?_
   cases h
   exact jn (b := ()) hk90 (Wk.rel [] (by simp) (by simp) (by rw [hP]; simp) (by simp) (by simp) (by simp [Cat.cells, Fn.cells, Is_append, Is_one, Ls_append, Ls_one, Bs_append, Bs_one, Es_append, Es_one, Es_set', eB, eI, eL]) (by simp [hhOk, back, Cat.cells, Fn.cells, Is_append, Is_one, Ls_append, Ls_one, Bs_append, Bs_one, Es_append, Es_one, Es_set', eB, eI, eL]))
 intro b57 hb57
 have h := h57
 rw [← hb57] at h
 clear h57
 try dsimp only at h
 refine w_seq ?_
 refine w_run mo (by rw [hN]; decide) fun K hK => ?_
 simp [-guardE_b, -Is_at, -Is_at', -Ls_at, -Ls_at', eL, eI, allInts, eP_Cat, eP_Fn, Cat.cells, Fn.cells]
 repeat (with_reducible refine And.intro ?_ ?_; · first | assumption | omega | (simp; done) | (simp; omega) | simp_all)
 refine hK _ ?_
 clear hK K
 refine tn ?_
 refine w_weak (st' := ⟨[(2, .val (.bool true))], [], 0⟩) (Wk.rel [] (by simp) (by simp) (by rw [hP]; simp) (by simp) (by simp) (by simp [Cat.cells, Fn.cells, Is_append, Is_one, Ls_append, Ls_one, Bs_append, Bs_one, Es_append, Es_one, Es_set', eB, eI, eL]) (by simp [hhOk, back, Cat.cells, Fn.cells, Is_append, Is_one, Ls_append, Ls_one, Bs_append, Bs_one, Es_append, Es_one, Es_set', eB, eI, eL])) ?_
 refine w_ret ?_
 have hr := Option.some.inj h
 rw [← hr]
 refine ⟨_, (.tmp .nil), ?_⟩
 refine ⟨(.one rfl rfl .nil), [.val (.bool true)], [], by simp [Cat.cells, Fn.cells, Is_append, Is_one, Ls_append, Ls_one, Bs_append, Bs_one, Es_append, Es_one, Es_set', eB, eI, eL], by simp, (UpL.refl _)⟩
end Go.Vc.T

set_option maxRecDepth 100000
set_option linter.unusedSimpArgs false
set_option linter.unusedVariables false
namespace Go.Vc.T
open Go Go.Vc Go.Proofs
structure Fn.Is (f : Fn) : Prop where
 s : f.s.Is
 t : f.t.Is
 lo : (f.ob.length : Int) = f.s.n
 la : f.ar.length = f.s.fr.length
 ob : ∀ j : Nat, j < f.ob.length → 0 ≤ ix f.ob j ∧ ix f.ob j < f.t.n
 ar : ∀ j : Nat, j < f.ar.length → 0 ≤ ix f.ar j ∧ ix f.ar j < f.t.fr.length
 ends : ∀ a : Nat, a < f.s.fr.length → ix f.t.fr (ix f.ar a) = ix f.ob (ix f.s.fr a) ∧ ix f.t.to (ix f.ar a) = ix f.ob (ix f.s.to a)
 ids : ∀ x : Nat, x < f.s.id.length → ix f.ar (ix f.s.id x) = ix f.t.id (ix f.ob x)
 comp : ∀ a : Nat, a < f.s.fr.length → ∀ b : Nat, b < f.s.fr.length → ix f.s.to a = ix f.s.fr b → ix f.ar (ix (rx f.s.cs a) b) = ix (rx f.t.cs (ix f.ar a)) (ix f.ar b)
theorem Cat.Sh.frn {c : Cat} (h : c.Sh) {a : Nat} (ha : a < c.fr.length) : (0 ≤ ix c.fr a ∧ ix c.fr a < c.id.length) ∧ (0 ≤ ix c.to a ∧ ix c.to a < c.id.length) := ⟨h.fr' (by omega) (by omega), h.to' (by omega) (by omega)⟩
theorem Cat.Sh.idn {c : Cat} (h : c.Sh) {a : Nat} (ha : a < c.id.length) : 0 ≤ ix c.id a ∧ ix c.id a < c.fr.length := h.id' (by omega) (by omega)
theorem Cat.Sh.cmp {c : Cat} (h : c.Sh) {f g : Int} (h0 : 0 ≤ f) (h1 : f < c.fr.length) (h2 : 0 ≤ g) (h3 : g < c.fr.length) (e : ix c.to f = ix c.fr g) : 0 ≤ ix (rx c.cs f) g ∧ ix (rx c.cs f) g < c.fr.length := by
 have := (h.cell' h0 h1 h2 h3).2 e
 omega
theorem e_l06Is (f : Fn) : s_s_l06Is f = some (bo f.Is) := by
 unfold s_s_l06Is
 by_cases h1 : f.s.Is
 case neg => rw [bo_neg (show ¬ f.Is from fun q => h1 q.s)]; simp [s_s_l02Is, bo, h1]
 by_cases h2 : f.t.Is
 case neg => rw [bo_neg (show ¬ f.Is from fun q => h2 q.t)]; simp [s_s_l02Is, bo, h1, h2]
 by_cases h3 : (f.ob.length : Int) = f.s.n
 case neg => rw [bo_neg (show ¬ f.Is from fun q => h3 q.lo)]; simp [s_s_l02Is, bo, h1, h2, h3]
 by_cases h4 : (f.ar.length : Int) = f.s.fr.length
 case neg => rw [bo_neg (show ¬ f.Is from fun q => h4 (by rw [q.la]))]; simp [s_s_l02Is, bo, h1, h2, h3, h4]
 by_cases h5 : f.ob.all (inR f.t.n) = true
 case neg => rw [bo_neg (show ¬ f.Is from fun q => h5 (all_inR.2 q.ob))]; simp [s_s_l02Is, s_s_l01Map, bo, h1, h2, h3, h4, h5]
 by_cases h6 : f.ar.all (inR f.t.fr.length) = true
 case neg => rw [bo_neg (show ¬ f.Is from fun q => h6 (all_inR.2 q.ar))]; simp [s_s_l02Is, s_s_l01Map, bo, h1, h2, h3, h4, h5, h6]
 have ho := all_inR.1 h5
 have ha := all_inR.1 h6
 have hs := h1.1
 have ht := h2.1
 simp only [s_s_l02Is, s_s_l01Map, bo_pos h1, bo_pos h2, h3, h4, h5, h6, Option.bind_some, if_true, if_false, not_true_eq_false, bne_self_eq_false, Bool.not_true, Bool.false_eq_true]
 refine chk_bind f.s.fr.length (fun a : Nat => ix f.t.fr (ix f.ar a) = ix f.ob (ix f.s.fr a) ∧ ix f.t.to (ix f.ar a) = ix f.ob (ix f.s.to a)) (eb := Sum.inr false) (eg := Sum.inl ()) (by have := hs.m40; omega) (fun a hi hp => ?_) (fun a hi hp => ?_) ?_ (fun hx => ?_) fun q1 => ?_
 · have := hs.frn hi
   have := ha a (by omega)
   have := hs.lt
   have := ht.lt
   have := hs.li
   have := hs.m40
   simp (disch := omega) only [ass_pos, if_pos, B64, hp.1, hp.2, Option.bind_some, not_true_eq_false, if_false, bne_self_eq_false, Bool.false_eq_true]
 · have := hs.frn hi
   have := ha a (by omega)
   have := hs.lt
   have := ht.lt
   have := hs.li
   have := hs.m40
   by_cases hp1 : ix f.t.fr (ix f.ar a) = ix f.ob (ix f.s.fr a)
   · have hp2 : ¬ ix f.t.to (ix f.ar a) = ix f.ob (ix f.s.to a) := fun h => hp ⟨hp1, h⟩
     simp (disch := omega) [ass_pos, B64, hp1, hp2, hi]
   simp (disch := omega) [ass_pos, B64, hp1, hi]
 · simp
 · rw [bo_neg (show ¬ f.Is from fun q => hx q.ends)]
 simp only
 refine chk_bind f.s.id.length (fun x : Nat => ix f.ar (ix f.s.id x) = ix f.t.id (ix f.ob x)) (eb := Sum.inr false) (eg := Sum.inl ()) (by have := hs.n8; have := hs.li; omega) (fun a hi hp => ?_) (fun a hi hp => ?_) ?_ (fun hx => ?_) fun q2 => ?_
 · have := hs.idn hi
   have := ho a (by have := hs.li; omega)
   have := hs.li
   have := ht.li
   have := hs.n8
   simp (disch := omega) [ass_pos, B64, hp]; omega
 · have := hs.idn hi
   have := ho a (by have := hs.li; omega)
   have := hs.li
   have := ht.li
   have := hs.n8
   simp (disch := omega) [ass_pos, B64, hp]; omega
 · simp [hs.li]
 · rw [bo_neg (show ¬ f.Is from fun q => hx q.ids)]
 simp only
 refine chk_bind f.s.fr.length (fun a : Nat => ∀ b : Nat, b < f.s.fr.length → ix f.s.to a = ix f.s.fr b → ix f.ar (ix (rx f.s.cs a) b) = ix (rx f.t.cs (ix f.ar a)) (ix f.ar b)) (eb := Sum.inr false) (eg := Sum.inl ()) (by have := hs.m40; omega) (fun a hi hp => ?_) (fun a hi hp => ?_) ?_ (fun hx => ?_) fun q3 => ?_
 rotate_left 2
 · simp
 · rw [bo_neg (show ¬ f.Is from fun q => hx q.comp)]
 · rw [bo_pos (show f.Is from ⟨h1, h2, h3, by omega, ho, ha, q1, q2, q3⟩)]
 all_goals
   have m40 := hs.m40
   have h7 := hs.lt
   have h8 := ha a (by omega)
   have h9 := hs.lc
   have h10 := ht.lc
   have h11 := hs.row' (j := a) (by omega) (by omega)
   have h12 := ht.row' (j := ix f.ar a) (by omega) (by omega)
   rw [if_pos (by omega)]
 all_goals
   rw [Option.bind_assoc]
   refine chk_bind f.s.fr.length (fun b : Nat => ix f.s.to a = ix f.s.fr b → ix f.ar (ix (rx f.s.cs a) b) = ix (rx f.t.cs (ix f.ar a)) (ix f.ar b)) (eb := Sum.inl false) (eg := Sum.inr ()) (by omega) (fun b hb hq => ?_) (fun b hb hq => ?_) ?_ (fun hn => ?_) fun hn => ?_
 all_goals first
   | exact absurd hp hn
   | exact absurd hn hp
   | (simp (disch := omega) [ass_pos, B64]; done)
   | skip
 all_goals
   have h13 := ha b (by omega)
   by_cases h14 : ix f.s.to a = ix f.s.fr b
   · have h15 := hs.cmp (f := a) (g := b) (by omega) (by omega) (by omega) (by omega) h14
     first
       | (have hq1 := hq h14; simp (disch := omega) [ass_pos, B64, h14, hq1, hb])
       | (have hq1 := fun e => hq (fun _ => e); simp (disch := omega) [ass_pos, B64, h14, hq1, hb]; exact hq1)
   first
     | (simp (disch := omega) [ass_pos, B64, h14, hb]; done)
     | exact absurd (fun e => absurd e h14) hq
end Go.Vc.T

set_option maxRecDepth 100000
set_option linter.unusedSimpArgs false
set_option linter.unusedVariables false
namespace Go.Vc.T
open Go Go.Vc Go.Proofs
noncomputable def s_s_l06Make (c_ : Cat) (d_ : Cat) (objects_ : List Int) (arrows_ : List Int) : Option Fn :=
 (s_s_l02Own c_).bind fun v1 =>
 (s_s_l02Own d_).bind fun v2 =>
 (s_s_l01Own objects_).bind fun v3 =>
 (s_s_l01Own arrows_).bind fun v4 =>
 some (⟨v1, v2, v3, v4⟩ : Fn)
set_option maxHeartbeats 4000000 in
theorem w_s_l06Make (c_ : Cat) (d_ : Cat) (objects_ : List Int) (arrows_ : List Int) (r : Fn) (h : s_s_l06Make c_ d_ objects_ arrows_ = some r) : Contract Try.prog 163 [.agg (c_.cells true), .agg (d_.cells true), .lst true 1 (Is objects_), .lst true 1 (Is arrows_)] (.agg (r.cells true)) := by
 refine contract_introG (rvs := [.cell 8 35]) (rs := [.agg (r.cells true)]) Try.func163 rfl rfl rfl rfl (by simp [Try.f163]) fun F hN hP => ?_
 unfold s_s_l06Make at h
 refine w_seq ?_
 refine w_run mo (by rw [hN]; decide) fun K hK => ?_
 simp [-guardE_b, -Is_at, -Is_at', -Ls_at, -Ls_at', eL, eI, allInts, eP_Cat, eP_Fn, Cat.cells, Fn.cells]
 repeat (with_reducible refine And.intro ?_ ?_; · first | assumption | omega | (simp; done) | (simp; omega) | simp_all)
 refine hK _ ?_
 clear hK K
 refine tn ?_
 refine w_weak (st' := ⟨[(2, .lst true 1 (Is objects_)), (3, .lst true 1 (Is arrows_)), (4, .adr 0 0 0), (5, .adr 1 0 0), (8, .adr 2 0 0)], [(0, .mix 5 [[.val (.int .i64 c_.n), .lst true 1 (Is c_.fr), .lst true 1 (Is c_.to), .lst true 1 (Is c_.id), .lst true 1 (Ls c_.cs)]]), (1, .mix 5 [[.val (.int .i64 d_.n), .lst true 1 (Is d_.fr), .lst true 1 (Is d_.to), .lst true 1 (Is d_.id), .lst true 1 (Ls d_.cs)]]), (2, .mix 12 [[.val (.int .i64 0), .val (.slice none 0 0), .val (.slice none 0 0), .val (.slice none 0 0), .val (.slice none 0 0), .val (.int .i64 0), .val (.slice none 0 0), .val (.slice none 0 0), .val (.slice none 0 0), .val (.slice none 0 0), .val (.slice none 0 0), .val (.slice none 0 0)]])], 3⟩) (Wk.rel [(0, 0), (1, 1), (2, 2)] (by simp) (by simp) (by rw [hP]; simp) (by simp) (by simp) (by simp [Cat.cells, Fn.cells, Is_append, Is_one, Ls_append, Ls_one, Bs_append, Bs_one, Es_append, Es_one, Es_set', eB, eI, eL]) (by simp [hhOk, back, Cat.cells, Fn.cells, Is_append, Is_one, Ls_append, Ls_one, Bs_append, Bs_one, Es_append, Es_one, Es_set', eB, eI, eL])) ?_
 refine w_seq ?_
 refine w_run mo (by rw [hN]; decide) fun K hK => ?_
 simp [-guardE_b, -Is_at, -Is_at', -Ls_at, -Ls_at', eL, eI, allInts, eP_Cat, eP_Fn, Cat.cells, Fn.cells]
 repeat (with_reducible refine And.intro ?_ ?_; · first | assumption | omega | (simp; done) | (simp; omega) | simp_all)
 replace h := bind_some h
 obtain ⟨v1, hv1, h⟩ := h
 refine callA_intro (w_s_l02Own _ v1 hv1) (.cons (.aggL (.cons .val (.cons .lst (.cons .lst (.cons .lst (.cons .lst .nil)))))) .nil) ?_
 simp [-guardE_b, -Is_at, -Is_at', -Ls_at, -Ls_at', unk, unA, unE, unT, unC, flat, eL, eI, allInts, eP_Cat, eP_Fn, Cat.cells, Fn.cells]
 repeat (with_reducible refine And.intro ?_ ?_; · first | assumption | omega | (simp; done) | (simp; omega) | simp_all)
 replace h := bind_some h
 obtain ⟨v2, hv2, h⟩ := h
 refine callA_intro (w_s_l02Own _ v2 hv2) (.cons (.aggL (.cons .val (.cons .lst (.cons .lst (.cons .lst (.cons .lst .nil)))))) .nil) ?_
 simp [-guardE_b, -Is_at, -Is_at', -Ls_at, -Ls_at', unk, unA, unE, unT, unC, flat, eL, eI, allInts, eP_Cat, eP_Fn, Cat.cells, Fn.cells]
 repeat (with_reducible refine And.intro ?_ ?_; · first | assumption | omega | (simp; done) | (simp; omega) | simp_all)
 replace h := bind_some h
 obtain ⟨v3, hv3, h⟩ := h
 refine callA_intro (w_s_l01Own _ v3 hv3) (.cons .lst .nil) ?_
 simp [-guardE_b, -Is_at, -Is_at', -Ls_at, -Ls_at', unk, unA, unE, unT, unC, flat, eL, eI, allInts, eP_Cat, eP_Fn, Cat.cells, Fn.cells]
 repeat (with_reducible refine And.intro ?_ ?_; · first | assumption | omega | (simp; done) | (simp; omega) | simp_all)
 replace h := bind_some h
 obtain ⟨v4, hv4, h⟩ := h
 refine callA_intro (w_s_l01Own _ v4 hv4) (.cons .lst .nil) ?_
 simp [-guardE_b, -Is_at, -Is_at', -Ls_at, -Ls_at', unk, unA, unE, unT, unC, flat, eL, eI, allInts, eP_Cat, eP_Fn, Cat.cells, Fn.cells]
 repeat (with_reducible refine And.intro ?_ ?_; · first | assumption | omega | (simp; done) | (simp; omega) | simp_all)
 refine hK _ ?_
 clear hK K
 refine tn ?_
 refine w_weak (st' := ⟨[(8, .adr 0 0 0)], [(0, .mix 12 [[.val (.int .i64 v1.n), .own 1 0 v1.fr.length, .own 2 0 v1.to.length, .own 3 0 v1.id.length, .own 4 0 v1.cs.length, .val (.int .i64 v2.n), .own 5 0 v2.fr.length, .own 6 0 v2.to.length, .own 7 0 v2.id.length, .own 8 0 v2.cs.length, .own 9 0 v3.length, .own 10 0 v4.length]]), (1, .row 1 (Is v1.fr)), (2, .row 1 (Is v1.to)), (3, .row 1 (Is v1.id)), (4, .row 1 (Ls v1.cs)), (5, .row 1 (Is v2.fr)), (6, .row 1 (Is v2.to)), (7, .row 1 (Is v2.id)), (8, .row 1 (Ls v2.cs)), (9, .row 1 (Is v3)), (10, .row 1 (Is v4))], 11⟩) (Wk.rel [(2, 0), (4, 1), (5, 2), (6, 3), (7, 4), (9, 5), (10, 6), (11, 7), (12, 8), (13, 9), (14, 10)] (by simp) (by simp) (by rw [hP]; simp) (by simp) (by simp) (by simp [Cat.cells, Fn.cells, Is_append, Is_one, Ls_append, Ls_one, Bs_append, Bs_one, Es_append, Es_one, Es_set', eB, eI, eL]) (by simp [hhOk, back, Cat.cells, Fn.cells, Is_append, Is_one, Ls_append, Ls_one, Bs_append, Bs_one, Es_append, Es_one, Es_set', eB, eI, eL])) ?_
 refine w_ret ?_
 have hr := Option.some.inj h
 rw [← hr]
 refine ⟨_, (.cell tf_35 rfl rfl rfl (by simp) (by simp) .nil), ?_⟩
 refine ⟨(.agg rfl .nil), [.val (.int .i64 v1.n), .lst true 1 (Is v1.fr), .lst true 1 (Is v1.to), .lst true 1 (Is v1.id), .lst true 1 (Ls v1.cs), .val (.int .i64 v2.n), .lst true 1 (Is v2.fr), .lst true 1 (Is v2.to), .lst true 1 (Is v2.id), .lst true 1 (Ls v2.cs), .lst true 1 (Is v3), .lst true 1 (Is v4)], [1, 2, 3, 4, 5, 6, 7, 8, 9, 10], by simp [Cat.cells, Fn.cells, Is_append, Is_one, Ls_append, Ls_one, Bs_append, Bs_one, Es_append, Es_one, Es_set', eB, eI, eL], by simp, (UpL.refl _)⟩
noncomputable def s_i_Category_hom (c_ : Cat) (x_ : Int) (y_ : Int) : Option (List Int) :=
 (loopF (σ := List Int × Int) (ε := List Int) (fun s11 =>
   if s11.2 < (c_.fr.length : Int) then
     (
       (
         ass (0 ≤ s11.2 ∧ s11.2 < (c_.fr.length : Int)) <|
         if (ix c_.fr s11.2) = x_ then
           ass (0 ≤ s11.2 ∧ s11.2 < (c_.to.length : Int)) <|
           some ((ix c_.to s11.2) == y_)
         else
           some false : Option (Bool)).bind fun b14 =>
       if b14 = true then
         ass ((s11.1 ++ [s11.2]).length ≤ 1073741824) <|
         some (s11.1 ++ [s11.2])
       else
         some s11.1 : Option (List Int)).bind fun b13 =>
     ass (B64 (s11.2 + 1)) <|
     some (Ctl.next (b13, s11.2 + 1))
   else
     some (Ctl.ret s11.1)) fuel ([], 0)).bind fun b1 =>
 some b1
set_option maxHeartbeats 4000000 in
theorem w_i_Category_hom (c_ : Cat) (x_ : Int) (y_ : Int) (r : List Int) (h : s_i_Category_hom c_ x_ y_ = some r) : Contract Try.prog 165 [.rptr (c_.cells true), .val (.int .i64 x_), .val (.int .i64 y_)] (.lst true 1 (Is r)) := by
 refine contract_introG (rvs := [.tmp 6]) (rs := [.lst true 1 (Is r)]) Try.func165 rfl rfl rfl rfl (by simp [Try.f165]) fun F hN hP => ?_
 unfold s_i_Category_hom at h
 refine w_seq ?_
 refine w_run mo (by rw [hN]; decide) fun K hK => ?_
 simp [-guardE_b, -Is_at, -Is_at', -Ls_at, -Ls_at', eL, eI, allInts, eP_Cat, Cat.cells]
 repeat (with_reducible refine And.intro ?_ ?_; · first | assumption | omega | (simp; done) | (simp; omega) | simp_all)
 refine hK _ ?_
 clear hK K
 refine tn ?_
 refine w_weak (st' := ⟨[(0, .rptr [.val (.int .i64 c_.n), .lst true 1 (Is c_.fr), .lst true 1 (Is c_.to), .lst true 1 (Is c_.id), .lst true 1 (Ls c_.cs)]), (1, .val (.int .i64 x_)), (2, .val (.int .i64 y_))], [], 0⟩) (Wk.rel [] (by simp) (by simp) (by rw [hP]; simp) (by simp) (by simp) (by simp [Cat.cells, Is_append, Is_one, Ls_append, Ls_one, Bs_append, Bs_one, Es_append, Es_one, Es_set', eB, eI, eL]) (by simp [hhOk, back, Cat.cells, Is_append, Is_one, Ls_append, Ls_one, Bs_append, Bs_one, Es_append, Es_one, Es_set', eB, eI, eL])) ?_
 refine w_seq ?_
 refine w_run mo (by rw [hN]; decide) fun K hK => ?_
 simp [-guardE_b, -Is_at, -Is_at', -Ls_at, -Ls_at', eL, eI, allInts, eP_Cat, Cat.cells]
 repeat (with_reducible refine And.intro ?_ ?_; · first | assumption | omega | (simp; done) | (simp; omega) | simp_all)
 refine hK _ ?_
 clear hK K
 refine tn ?_
 refine w_weak (st' := ⟨[(0, .rptr [.val (.int .i64 c_.n), .lst true 1 (Is c_.fr), .lst true 1 (Is c_.to), .lst true 1 (Is c_.id), .lst true 1 (Ls c_.cs)]), (1, .val (.int .i64 x_)), (2, .val (.int .i64 y_)), (7, .own 0 0 0)], [(0, .mix 1 [])], 1⟩) (Wk.rel [(0, 0)] (by simp) (by simp) (by rw [hP]; simp) (by simp) (by simp) (by simp [Cat.cells, Is_append, Is_one, Ls_append, Ls_one, Bs_append, Bs_one, Es_append, Es_one, Es_set', eB, eI, eL]) (by simp [hhOk, back, Cat.cells, Is_append, Is_one, Ls_append, Ls_one, Bs_append, Bs_one, Es_append, Es_one, Es_set', eB, eI, eL])) ?_
 refine w_seq ?_
 refine w_seq ?_
 refine w_run mo (by rw [hN]; decide) fun K hK => ?_
 simp [-guardE_b, -Is_at, -Is_at', -Ls_at, -Ls_at', eL, eI, allInts, eP_Cat, Cat.cells]
 repeat (with_reducible refine And.intro ?_ ?_; · first | assumption | omega | (simp; done) | (simp; omega) | simp_all)
 refine hK _ ?_
 clear hK K
 refine tn ?_
 refine w_weak (st' := ⟨[(0, .rptr [.val (.int .i64 c_.n), .lst true 1 (Is c_.fr), .lst true 1 (Is c_.to), .lst true 1 (Is c_.id), .lst true 1 (Ls c_.cs)]), (1, .val (.int .i64 x_)), (2, .val (.int .i64 y_)), (7, .own 0 0 0), (14, .val (.int .i64 (c_.fr.length : Int))), (15, .val (.int .i64 0))], [(0, .mix 1 [])], 1⟩) (Wk.rel [(0, 0)] (by simp) (by simp) (by rw [hP]; simp) (by simp) (by simp) (by simp [Cat.cells, Is_append, Is_one, Ls_append, Ls_one, Bs_append, Bs_one, Es_append, Es_one, Es_set', eB, eI, eL]) (by simp [hhOk, back, Cat.cells, Is_append, Is_one, Ls_append, Ls_one, Bs_append, Bs_one, Es_append, Es_one, Es_set', eB, eI, eL])) ?_
 replace h := bind_some h
 obtain ⟨e1, h, h1⟩ := h
 refine w_joinT (fun b1 : List Int => ⟨[(7, .own 0 0 b1.length)], [(0, .row 1 (Is b1))], 1⟩) (fun b1 => b1 = e1) ?_ ?_
 · refine w_block ?_
   refine w_loopF h (fun s11 : List Int × Int => ⟨[(0, .rptr [.val (.int .i64 c_.n), .lst true 1 (Is c_.fr), .lst true 1 (Is c_.to), .lst true 1 (Is c_.id), .lst true 1 (Ls c_.cs)]), (1, .val (.int .i64 x_)), (2, .val (.int .i64 y_)), (7, .own 0 0 s11.1.length), (14, .val (.int .i64 (c_.fr.length : Int))), (15, .val (.int .i64 s11.2))], [(0, .row 1 (Is s11.1))], 1⟩) (wk_tr ⟨[(0, .rptr [.val (.int .i64 c_.n), .lst true 1 (Is c_.fr), .lst true 1 (Is c_.to), .lst true 1 (Is c_.id), .lst true 1 (Ls c_.cs)]), (1, .val (.int .i64 x_)), (2, .val (.int .i64 y_)), (7, .own 0 0 0), (14, .val (.int .i64 (c_.fr.length : Int))), (15, .val (.int .i64 0))], [(0, .row 1 (Is []))], 1⟩ (Wk.nils [] (by simp) (by simp) (by simp [nlA]) (by simp [entN, nlL, nlA, Cat.cells, Is_append, Is_one, Ls_append, Ls_one, Bs_append, Bs_one, Es_append, Es_one, Es_set', eB, eI, eL]) (by simp)) (Wk.rel [(0, 0)] (by simp) (by simp) (by rw [hP]; simp) (by simp) (by simp) (by simp [Cat.cells, Is_append, Is_one, Ls_append, Ls_one, Bs_append, Bs_one, Es_append, Es_one, Es_set', eB, eI, eL]) (by simp [hhOk, back, Cat.cells, Is_append, Is_one, Ls_append, Ls_one, Bs_append, Bs_one, Es_append, Es_one, Es_set', eB, eI, eL]))) ?_
   clear h
   intro k11 s11 c11 h hk11
   refine w_seq ?_
   refine w_run mo (by rw [hN]; decide) fun K hK => ?_
   simp [-guardE_b, -Is_at, -Is_at', -Ls_at, -Ls_at', eL, eI, allInts, eP_Cat, Cat.cells]
   repeat (with_reducible refine And.intro ?_ ?_; · first | assumption | omega | (simp; done) | (simp; omega) | simp_all)
   refine hK _ ?_
   clear hK K
   refine tn ?_
   refine w_weak (st' := ⟨[(0, .rptr [.val (.int .i64 c_.n), .lst true 1 (Is c_.fr), .lst true 1 (Is c_.to), .lst true 1 (Is c_.id), .lst true 1 (Ls c_.cs)]), (1, .val (.int .i64 x_)), (2, .val (.int .i64 y_)), (7, .own 0 0 s11.1.length), (14, .val (.int .i64 (c_.fr.length : Int))), (15, .val (.int .i64 s11.2)), (16, .val (.bool (decide (s11.2 < (c_.fr.length : Int)))))], [(0, .row 1 (Is s11.1))], 1⟩) (Wk.rel [(0, 0)] (by simp) (by simp) (by rw [hP]; simp) (by simp) (by simp) (by simp [Cat.cells, Is_append, Is_one, Ls_append, Ls_one, Bs_append, Bs_one, Es_append, Es_one, Es_set', eB, eI, eL]) (by simp [hhOk, back, Cat.cells, Is_append, Is_one, Ls_append, Ls_one, Bs_append, Bs_one, Es_append, Es_one, Es_set', eB, eI, eL])) ?_
   refine w_seq ?_
   refine w_cond rfl (fun g => ?_) fun g => ?_
   · have g12 : s11.2 < (c_.fr.length : Int) := by first | simpa using g | (simp at g; exact g) | (simp at g; omega)
     clear g
     replace h := if_l g12 h
     refine w_skip ?_
     refine tn ?_
     refine w_seq ?_
     replace h := bind_some h
     obtain ⟨e13, h, h13⟩ := h
     refine w_joinT (fun b13 : List Int => ⟨[(0, .rptr [.val (.int .i64 c_.n), .lst true 1 (Is c_.fr), .lst true 1 (Is c_.to), .lst true 1 (Is c_.id), .lst true 1 (Ls c_.cs)]), (1, .val (.int .i64 x_)), (2, .val (.int .i64 y_)), (7, .own 0 0 b13.length), (14, .val (.int .i64 (c_.fr.length : Int))), (15, .val (.int .i64 s11.2))], [(0, .row 1 (Is b13))], 1⟩) (fun b13 => b13 = e13) ?_ ?_
     · refine w_block ?_
       refine w_seq ?_
       refine w_run mo (by rw [hN]; decide) fun K hK => ?_
       simp [-guardE_b, -Is_at, -Is_at', -Ls_at, -Ls_at', eL, eI, allInts, eP_Cat, Cat.cells]
       repeat (with_reducible refine And.intro ?_ ?_; · first | assumption | omega | (simp; done) | (simp; omega) | simp_all)
       refine hK _ ?_
       clear hK K
       refine tn ?_
       refine w_weak (st' := ⟨[(0, .rptr [.val (.int .i64 c_.n), .lst true 1 (Is c_.fr), .lst true 1 (Is c_.to), .lst true 1 (Is c_.id), .lst true 1 (Ls c_.cs)]), (1, .val (.int .i64 x_)), (2, .val (.int .i64 y_)), (7, .own 0 0 s11.1.length), (8, .val (.int .i64 s11.2)), (14, .val (.int .i64 (c_.fr.length : Int))), (15, .val (.int .i64 s11.2))], [(0, .row 1 (Is s11.1))], 1⟩) (Wk.rel [(0, 0)] (by simp) (by simp) (by rw [hP]; simp) (by simp) (by simp) (by simp [Cat.cells, Is_append, Is_one, Ls_append, Ls_one, Bs_append, Bs_one, Es_append, Es_one, Es_set', eB, eI, eL]) (by simp [hhOk, back, Cat.cells, Is_append, Is_one, Ls_append, Ls_one, Bs_append, Bs_one, Es_append, Es_one, Es_set', eB, eI, eL])) ?_
       refine w_seq ?_
       replace h := bind_some h
       obtain ⟨e14, h, h14⟩ := h
       refine w_joinT (fun b14 : Bool => ⟨[(0, .rptr [.val (.int .i64 c_.n), .lst true 1 (Is c_.fr), .lst true 1 (Is c_.to), .lst true 1 (Is c_.id), .lst true 1 (Ls c_.cs)]), (1, .val (.int .i64 x_)), (2, .val (.int .i64 y_)), (7, .own 0 0 s11.1.length), (8, .val (.int .i64 s11.2)), (14, .val (.int .i64 (c_.fr.length : Int))), (15, .val (.int .i64 s11.2)), (37, .val (.bool b14))], [(0, .row 1 (Is s11.1))], 1⟩) (fun b14 => b14 = e14) ?_ ?_
       · refine w_run mo (by rw [hN]; decide) fun K hK => ?_
         replace h := ass_some h
         obtain ⟨a15, h⟩ := h
         simp [-guardE_b, -Is_at, -Is_at', -Ls_at, -Ls_at', eL, eI, allInts, eP_Cat, Cat.cells, at_I a15]
         repeat (with_reducible refine And.intro ?_ ?_; · first | assumption | omega | (simp; done) | (simp; omega) | simp_all)
         refine guard_intro (fun g => ?_) (fun g => ?_)
         · have g16 : (ix c_.fr s11.2) = x_ := by first | simpa using g | (simp at g; exact g) | (simp at g; omega)
           clear g
           replace h := if_l g16 h
           replace h := ass_some h
           obtain ⟨a17, h⟩ := h
           simp [-guardE_b, -Is_at, -Is_at', -Ls_at, -Ls_at', eL, eI, allInts, eP_Cat, Cat.cells, at_I a17]
           repeat (with_reducible refine And.intro ?_ ?_; · first | assumption | omega | (simp; done) | (simp; omega) | simp_all)
           refine hK _ ?_
           exact jn (b := (ix c_.to s11.2) == y_) (Option.some.inj h) (Wk.rel [(0, 0)] (by simp) (by simp) (by rw [hP]; simp) (by simp) (by simp) (by simp [Cat.cells, Is_append, Is_one, Ls_append, Ls_one, Bs_append, Bs_one, Es_append, Es_one, Es_set', eB, eI, eL]) (by simp [hhOk, back, Cat.cells, Is_append, Is_one, Ls_append, Ls_one, Bs_append, Bs_one, Es_append, Es_one, Es_set', eB, eI, eL]))
         have g16 : ¬ ((ix c_.fr s11.2) = x_) := by first | simpa using g | (simp at g; exact g) | (simp at g; omega)
         clear g
         replace h := if_r g16 h
         simp [-guardE_b, -Is_at, -Is_at', -Ls_at, -Ls_at', eL, eI, allInts, eP_Cat, Cat.cells]
         repeat (with_reducible refine And.intro ?_ ?_; · first | assumption | omega | (simp; done) | (simp; omega) | simp_all)
         refine hK _ ?_
         exact jn (b := false) (Option.some.inj h) (Wk.rel [(0, 0)] (by simp) (by simp) (by rw [hP]; simp) (by simp) (by simp) (by simp [Cat.cells, Is_append, Is_one, Ls_append, Ls_one, Bs_append, Bs_one, Es_append, Es_one, Es_set', eB, eI, eL]) (by simp [hhOk, back, Cat.cells, Is_append, Is_one, Ls_append, Ls_one, Bs_append, Bs_one, Es_append, Es_one, Es_set', eB, eI, eL]))
       intro b14 hb14
       have h := h14
       rw [← hb14] at h
       clear h14
       try dsimp only at h
       refine w_cond rfl (fun g => ?_) fun g => ?_
       · have g18 : b14 = true := by first | simpa using g | (simp at g; exact g) | (simp at g; omega)
         clear g
         replace h := if_l g18 h
         refine w_run mo (by rw [hN]; decide) fun K hK => ?_
         replace h := ass_some h
         obtain ⟨a19, h⟩ := h
         try simp only [List.length_append, List.length_cons, List.length_nil] at a19
         simp [-guardE_b, -Is_at, -Is_at', -Ls_at, -Ls_at', eL, eI, allInts, eP_Cat, Cat.cells, a19]
         repeat (with_reducible refine And.intro ?_ ?_; · first | assumption | omega | (simp; done) | (simp; omega) | simp_all)
         refine hK _ ?_
         clear hK K
         refine bn ?_
         exact jn (b := s11.1 ++ [s11.2]) (Option.some.inj h) (Wk.rel [(2, 0)] (by simp) (by simp) (by rw [hP]; simp) (by simp) (by simp) (by simp [Cat.cells, Is_append, Is_one, Ls_append, Ls_one, Bs_append, Bs_one, Es_append, Es_one, Es_set', eB, eI, eL]) (by simp [hhOk, back, Cat.cells, Is_append, Is_one, Ls_append, Ls_one, Bs_append, Bs_one, Es_append, Es_one, Es_set', eB, eI, eL]))
       have g18 : ¬ (b14 = true) := by first | simpa using g | (simp at g; exact g) | (simp at g; omega)
       clear g
       replace h := if_r g18 h
       refine w_skip ?_
       refine bn ?_
       exact jn (b := s11.1) (Option.some.inj h) (Wk.rel [(0, 0)] (by simp) (by simp) (by rw [hP]; simp) (by simp) (by simp) (by simp [Cat.cells, Is_append, Is_one, Ls_append, Ls_one, Bs_append, Bs_one, Es_append, Es_one, Es_set', eB, eI, eL]) (by simp [hhOk, back, Cat.cells, Is_append, Is_one, Ls_append, Ls_one, Bs_append, Bs_one, Es_append, Es_one, Es_set', eB, eI, eL]))
     intro b13 hb13
     have h := h13
     rw [← hb13] at h
     clear h13
     try dsimp only at h
     refine w_run mo (by rw [hN]; decide) fun K hK => ?_
     replace h := ass_some h
     obtain ⟨a20, h⟩ := h
     simp [-guardE_b, -Is_at, -Is_at', -Ls_at, -Ls_at', eL, eI, allInts, eP_Cat, Cat.cells, wrap_id a20]
     repeat (with_reducible refine And.intro ?_ ?_; · first | assumption | omega | (simp; done) | (simp; omega) | simp_all)
     refine hK _ ?_
     clear hK K
     cases h
     exact rn (s' := (b13, s11.2 + 1)) hk11 (Wk.rel [(0, 0)] (by simp) (by simp) (by rw [hP]; simp) (by simp) (by simp) (by simp [Cat.cells, Is_append, Is_one, Ls_append, Ls_one, Bs_append, Bs_one, Es_append, Es_one, Es_set', eB, eI, eL]) (by simp [hhOk, back, Cat.cells, Is_append, Is_one, Ls_append, Ls_one, Bs_append, Bs_one, Es_append, Es_one, Es_set', eB, eI, eL]))
   have g12 : ¬ (s11.2 < (c_.fr.length : Int)) := by first | simpa using g | (simp at g; exact g) | (simp at g; omega)
   clear g
   replace h := if_r g12 h
   refine w_exit ?_
   refine tx ?_
   refine lx ?_
   refine bh ?_
   cases h
   exact jn (b := s11.1) hk11 (Wk.rel [(0, 0)] (by simp) (by simp) (by rw [hP]; simp) (by simp) (by simp) (by simp [Cat.cells, Is_append, Is_one, Ls_append, Ls_one, Bs_append, Bs_one, Es_append, Es_one, Es_set', eB, eI, eL]) (by simp [hhOk, back, Cat.cells, Is_append, Is_one, Ls_append, Ls_one, Bs_append, Bs_one, Es_append, Es_one, Es_set', eB, eI, eL]))
 intro b1 hb1
 have h := h1
 rw [← hb1] at h
 clear h1
 try dsimp only at h
 refine w_seq ?_
 refine w_run mo (by rw [hN]; decide) fun K hK => ?_
 simp [-guardE_b, -Is_at, -Is_at', -Ls_at, -Ls_at', eL, eI, allInts, eP_Cat, Cat.cells]
 repeat (with_reducible refine And.intro ?_ ?_; · first | assumption | omega | (simp; done) | (simp; omega) | simp_all)
 refine hK _ ?_
 clear hK K
 refine tn ?_
 refine w_weak (st' := ⟨[(6, .own 0 0 b1.length)], [(0, .row 1 (Is b1))], 1⟩) (Wk.rel [(0, 0)] (by simp) (by simp) (by rw [hP]; simp) (by simp) (by simp) (by simp [Cat.cells, Is_append, Is_one, Ls_append, Ls_one, Bs_append, Bs_one, Es_append, Es_one, Es_set', eB, eI, eL]) (by simp [hhOk, back, Cat.cells, Is_append, Is_one, Ls_append, Ls_one, Bs_append, Bs_one, Es_append, Es_one, Es_set', eB, eI, eL])) ?_
 refine w_ret ?_
 have hr := Option.some.inj h
 rw [← hr]
 refine ⟨_, (.tmp .nil), ?_⟩
 refine ⟨(.one rfl rfl .nil), [.lst true 1 (Is b1)], [0], by simp [Cat.cells, Is_append, Is_one, Ls_append, Ls_one, Bs_append, Bs_one, Es_append, Es_one, Es_set', eB, eI, eL], by simp, (UpL.refl _)⟩
end Go.Vc.T

set_option maxRecDepth 100000
set_option linter.unusedSimpArgs false
set_option linter.unusedVariables false
namespace Go.Vc.T
open Go Go.Vc Go.Proofs
noncomputable def s_i_functor (c_ : Cat) (d_ : Cat) (objects_ : List Int) (arrows_ : List Int) : Option Fn :=
 (s_i_Category_copy c_).bind fun v1 =>
 (s_i_Category_copy d_).bind fun v2 =>
 (s_i_clone objects_).bind fun v3 =>
 (s_i_clone arrows_).bind fun v4 =>
 some (⟨v1, v2, v3, v4⟩ : Fn)
set_option maxHeartbeats 4000000 in
theorem w_i_functor (c_ : Cat) (d_ : Cat) (objects_ : List Int) (arrows_ : List Int) (r : Fn) (h : s_i_functor c_ d_ objects_ arrows_ = some r) : Contract Try.prog 166 [.rptr (c_.cells true), .rptr (d_.cells true), .lst true 1 (Is objects_), .lst true 1 (Is arrows_)] (.agg (r.cells true)) := by
 refine contract_introG (rvs := [.cell 8 35]) (rs := [.agg (r.cells true)]) Try.func166 rfl rfl rfl rfl (by simp [Try.f166]) fun F hN hP => ?_
 unfold s_i_functor at h
 refine w_seq ?_
 refine w_run mo (by rw [hN]; decide) fun K hK => ?_
 simp [-guardE_b, -Is_at, -Is_at', -Ls_at, -Ls_at', eL, eI, allInts, eP_Cat, eP_Fn, Cat.cells, Fn.cells]
 repeat (with_reducible refine And.intro ?_ ?_; · first | assumption | omega | (simp; done) | (simp; omega) | simp_all)
 refine hK _ ?_
 clear hK K
 refine tn ?_
 refine w_weak (st' := ⟨[(0, .rptr [.val (.int .i64 c_.n), .lst true 1 (Is c_.fr), .lst true 1 (Is c_.to), .lst true 1 (Is c_.id), .lst true 1 (Ls c_.cs)]), (1, .rptr [.val (.int .i64 d_.n), .lst true 1 (Is d_.fr), .lst true 1 (Is d_.to), .lst true 1 (Is d_.id), .lst true 1 (Ls d_.cs)]), (2, .lst true 1 (Is objects_)), (3, .lst true 1 (Is arrows_)), (8, .adr 0 0 0)], [(0, .mix 12 [[.val (.int .i64 0), .val (.slice none 0 0), .val (.slice none 0 0), .val (.slice none 0 0), .val (.slice none 0 0), .val (.int .i64 0), .val (.slice none 0 0), .val (.slice none 0 0), .val (.slice none 0 0), .val (.slice none 0 0), .val (.slice none 0 0), .val (.slice none 0 0)]])], 1⟩) (Wk.rel [(0, 0)] (by simp) (by simp) (by rw [hP]; simp) (by simp) (by simp) (by simp [Cat.cells, Fn.cells, Is_append, Is_one, Ls_append, Ls_one, Bs_append, Bs_one, Es_append, Es_one, Es_set', eB, eI, eL]) (by simp [hhOk, back, Cat.cells, Fn.cells, Is_append, Is_one, Ls_append, Ls_one, Bs_append, Bs_one, Es_append, Es_one, Es_set', eB, eI, eL])) ?_
 refine w_seq ?_
 refine w_run mo (by rw [hN]; decide) fun K hK => ?_
 simp [-guardE_b, -Is_at, -Is_at', -Ls_at, -Ls_at', eL, eI, allInts, eP_Cat, eP_Fn, Cat.cells, Fn.cells]
 repeat (with_reducible refine And.intro ?_ ?_; · first | assumption | omega | (simp; done) | (simp; omega) | simp_all)
 replace h := bind_some h
 obtain ⟨v1, hv1, h⟩ := h
 refine callA_intro (w_i_Category_copy _ v1 hv1) (.cons (.preT (by simp [Cat.cells])) .nil) ?_
 simp [-guardE_b, -Is_at, -Is_at', -Ls_at, -Ls_at', unk, unA, unE, unT, unC, flat, eL, eI, allInts, eP_Cat, eP_Fn, Cat.cells, Fn.cells]
 repeat (with_reducible refine And.intro ?_ ?_; · first | assumption | omega | (simp; done) | (simp; omega) | simp_all)
 replace h := bind_some h
 obtain ⟨v2, hv2, h⟩ := h
 refine callA_intro (w_i_Category_copy _ v2 hv2) (.cons (.preT (by simp [Cat.cells])) .nil) ?_
 simp [-guardE_b, -Is_at, -Is_at', -Ls_at, -Ls_at', unk, unA, unE, unT, unC, flat, eL, eI, allInts, eP_Cat, eP_Fn, Cat.cells, Fn.cells]
 repeat (with_reducible refine And.intro ?_ ?_; · first | assumption | omega | (simp; done) | (simp; omega) | simp_all)
 replace h := bind_some h
 obtain ⟨v3, hv3, h⟩ := h
 refine callA_intro (w_i_clone _ v3 hv3) (.cons .lst .nil) ?_
 simp [-guardE_b, -Is_at, -Is_at', -Ls_at, -Ls_at', unk, unA, unE, unT, unC, flat, eL, eI, allInts, eP_Cat, eP_Fn, Cat.cells, Fn.cells]
 repeat (with_reducible refine And.intro ?_ ?_; · first | assumption | omega | (simp; done) | (simp; omega) | simp_all)
 replace h := bind_some h
 obtain ⟨v4, hv4, h⟩ := h
 refine callA_intro (w_i_clone _ v4 hv4) (.cons .lst .nil) ?_
 simp [-guardE_b, -Is_at, -Is_at', -Ls_at, -Ls_at', unk, unA, unE, unT, unC, flat, eL, eI, allInts, eP_Cat, eP_Fn, Cat.cells, Fn.cells]
 repeat (with_reducible refine And.intro ?_ ?_; · first | assumption | omega | (simp; done) | (simp; omega) | simp_all)
 refine hK _ ?_
 clear hK K
 refine tn ?_
 refine w_weak (st' := ⟨[(8, .adr 0 0 0)], [(0, .mix 12 [[.val (.int .i64 v1.n), .own 1 0 v1.fr.length, .own 2 0 v1.to.length, .own 3 0 v1.id.length, .own 4 0 v1.cs.length, .val (.int .i64 v2.n), .own 5 0 v2.fr.length, .own 6 0 v2.to.length, .own 7 0 v2.id.length, .own 8 0 v2.cs.length, .own 9 0 v3.length, .own 10 0 v4.length]]), (1, .row 1 (Is v1.fr)), (2, .row 1 (Is v1.to)), (3, .row 1 (Is v1.id)), (4, .row 1 (Ls v1.cs)), (5, .row 1 (Is v2.fr)), (6, .row 1 (Is v2.to)), (7, .row 1 (Is v2.id)), (8, .row 1 (Ls v2.cs)), (9, .row 1 (Is v3)), (10, .row 1 (Is v4))], 11⟩) (Wk.rel [(0, 0), (2, 1), (3, 2), (4, 3), (5, 4), (7, 5), (8, 6), (9, 7), (10, 8), (11, 9), (12, 10)] (by simp) (by simp) (by rw [hP]; simp) (by simp) (by simp) (by simp [Cat.cells, Fn.cells, Is_append, Is_one, Ls_append, Ls_one, Bs_append, Bs_one, Es_append, Es_one, Es_set', eB, eI, eL]) (by simp [hhOk, back, Cat.cells, Fn.cells, Is_append, Is_one, Ls_append, Ls_one, Bs_append, Bs_one, Es_append, Es_one, Es_set', eB, eI, eL])) ?_
 refine w_ret ?_
 have hr := Option.some.inj h
 rw [← hr]
 refine ⟨_, (.cell tf_35 rfl rfl rfl (by simp) (by simp) .nil), ?_⟩
 refine ⟨(.agg rfl .nil), [.val (.int .i64 v1.n), .lst true 1 (Is v1.fr), .lst true 1 (Is v1.to), .lst true 1 (Is v1.id), .lst true 1 (Ls v1.cs), .val (.int .i64 v2.n), .lst true 1 (Is v2.fr), .lst true 1 (Is v2.to), .lst true 1 (Is v2.id), .lst true 1 (Ls v2.cs), .lst true 1 (Is v3), .lst true 1 (Is v4)], [1, 2, 3, 4, 5, 6, 7, 8, 9, 10], by simp [Cat.cells, Fn.cells, Is_append, Is_one, Ls_append, Ls_one, Bs_append, Bs_one, Es_append, Es_one, Es_set', eB, eI, eL], by simp, (UpL.refl _)⟩
noncomputable def s_i_commutes (f_ : Fn) (g_ : Fn) (components_ : List Int) (a_ : Int) : Option Bool :=
 ass (0 ≤ a_ ∧ a_ < (f_.ar.length : Int)) <|
 ass (0 ≤ a_ ∧ a_ < (f_.s.to.length : Int)) <|
 ass (0 ≤ ix f_.s.to a_ ∧ ix f_.s.to a_ < (components_.length : Int)) <|
 (s_i_Category_then f_.t (ix f_.ar a_) (ix components_ (ix f_.s.to a_))).bind fun v4 =>
 ass (0 ≤ a_ ∧ a_ < (f_.s.fr.length : Int)) <|
 ass (0 ≤ ix f_.s.fr a_ ∧ ix f_.s.fr a_ < (components_.length : Int)) <|
 ass (0 ≤ a_ ∧ a_ < (g_.ar.length : Int)) <|
 (s_i_Category_then f_.t (ix components_ (ix f_.s.fr a_)) (ix g_.ar a_)).bind fun v8 =>
 some (v4 == v8)
set_option maxHeartbeats 4000000 in
theorem w_i_commutes (f_ : Fn) (g_ : Fn) (components_ : List Int) (a_ : Int) (r : Bool) (h : s_i_commutes f_ g_ components_ a_ = some r) : Contract Try.prog 186 [.rptr (f_.cells true), .rptr (g_.cells true), .lst true 1 (Is components_), .val (.int .i64 a_)] (.val (.bool r)) := by
 refine contract_introG (rvs := [.tmp 8]) (rs := [.val (.bool r)]) Try.func186 rfl rfl rfl rfl (by simp [Try.f186]) fun F hN hP => ?_
 unfold s_i_commutes at h
 refine w_seq ?_
 refine w_run mo (by rw [hN]; decide) fun K hK => ?_
 simp [-guardE_b, -Is_at, -Is_at', -Ls_at, -Ls_at', eL, eI, allInts, eP_Cat, eP_Fn, Cat.cells, Fn.cells]
 repeat (with_reducible refine And.intro ?_ ?_; · first | assumption | omega | (simp; done) | (simp; omega) | simp_all)
 refine hK _ ?_
 clear hK K
 refine tn ?_
 refine w_weak (st' := ⟨[(0, .rptr [.val (.int .i64 f_.s.n), .lst true 1 (Is f_.s.fr), .lst true 1 (Is f_.s.to), .lst true 1 (Is f_.s.id), .lst true 1 (Ls f_.s.cs), .val (.int .i64 f_.t.n), .lst true 1 (Is f_.t.fr), .lst true 1 (Is f_.t.to), .lst true 1 (Is f_.t.id), .lst true 1 (Ls f_.t.cs), .lst true 1 (Is f_.ob), .lst true 1 (Is f_.ar)]), (1, .rptr [.val (.int .i64 g_.s.n), .lst true 1 (Is g_.s.fr), .lst true 1 (Is g_.s.to), .lst true 1 (Is g_.s.id), .lst true 1 (Ls g_.s.cs), .val (.int .i64 g_.t.n), .lst true 1 (Is g_.t.fr), .lst true 1 (Is g_.t.to), .lst true 1 (Is g_.t.id), .lst true 1 (Ls g_.t.cs), .lst true 1 (Is g_.ob), .lst true 1 (Is g_.ar)]), (2, .lst true 1 (Is components_)), (3, .val (.int .i64 a_))], [], 0⟩) (Wk.rel [] (by simp) (by simp) (by rw [hP]; simp) (by simp) (by simp) (by simp [Cat.cells, Fn.cells, Is_append, Is_one, Ls_append, Ls_one, Bs_append, Bs_one, Es_append, Es_one, Es_set', eB, eI, eL]) (by simp [hhOk, back, Cat.cells, Fn.cells, Is_append, Is_one, Ls_append, Ls_one, Bs_append, Bs_one, Es_append, Es_one, Es_set', eB, eI, eL])) ?_
 refine w_seq ?_
 refine w_run mo (by rw [hN]; decide) fun K hK => ?_
 simp [-guardE_b, -Is_at, -Is_at', -Ls_at, -Ls_at', eL, eI, allInts, eP_Cat, eP_Fn, Cat.cells, Fn.cells]
 repeat (with_reducible refine And.intro ?_ ?_; · first | assumption | omega | (simp; done) | (simp; omega) | simp_all)
 refine hK _ ?_
 clear hK K
 refine tn ?_
 refine w_weak (st' := ⟨[(0, .rptr [.val (.int .i64 f_.s.n), .lst true 1 (Is f_.s.fr), .lst true 1 (Is f_.s.to), .lst true 1 (Is f_.s.id), .lst true 1 (Ls f_.s.cs), .val (.int .i64 f_.t.n), .lst true 1 (Is f_.t.fr), .lst true 1 (Is f_.t.to), .lst true 1 (Is f_.t.id), .lst true 1 (Ls f_.t.cs), .lst true 1 (Is f_.ob), .lst true 1 (Is f_.ar)]), (1, .rptr [.val (.int .i64 g_.s.n), .lst true 1 (Is g_.s.fr), .lst true 1 (Is g_.s.to), .lst true 1 (Is g_.s.id), .lst true 1 (Ls g_.s.cs), .val (.int .i64 g_.t.n), .lst true 1 (Is g_.t.fr), .lst true 1 (Is g_.t.to), .lst true 1 (Is g_.t.id), .lst true 1 (Ls g_.t.cs), .lst true 1 (Is g_.ob), .lst true 1 (Is g_.ar)]), (2, .lst true 1 (Is components_)), (3, .val (.int .i64 a_)), (9, .rptr [.val (.int .i64 f_.s.n), .lst true 1 (Is f_.s.fr), .lst true 1 (Is f_.s.to), .lst true 1 (Is f_.s.id), .lst true 1 (Ls f_.s.cs), .val (.int .i64 f_.t.n), .lst true 1 (Is f_.t.fr), .lst true 1 (Is f_.t.to), .lst true 1 (Is f_.t.id), .lst true 1 (Ls f_.t.cs), .lst true 1 (Is f_.ob), .lst true 1 (Is f_.ar)]), (10, .rptr [.val (.int .i64 f_.t.n), .lst true 1 (Is f_.t.fr), .lst true 1 (Is f_.t.to), .lst true 1 (Is f_.t.id), .lst true 1 (Ls f_.t.cs), .lst true 1 (Is f_.ob), .lst true 1 (Is f_.ar)])], [], 0⟩) (Wk.rel [] (by simp) (by simp) (by rw [hP]; simp) (by simp) (by simp) (by simp [Cat.cells, Fn.cells, Is_append, Is_one, Ls_append, Ls_one, Bs_append, Bs_one, Es_append, Es_one, Es_set', eB, eI, eL]) (by simp [hhOk, back, Cat.cells, Fn.cells, Is_append, Is_one, Ls_append, Ls_one, Bs_append, Bs_one, Es_append, Es_one, Es_set', eB, eI, eL])) ?_
 refine w_seq ?_
 refine w_run mo (by rw [hN]; decide) fun K hK => ?_
 replace h := ass_some h
 obtain ⟨a1, h⟩ := h
 replace h := ass_some h
 obtain ⟨a2, h⟩ := h
 replace h := ass_some h
 obtain ⟨a3, h⟩ := h
 simp [-guardE_b, -Is_at, -Is_at', -Ls_at, -Ls_at', eL, eI, allInts, eP_Cat, eP_Fn, Cat.cells, Fn.cells, at_I a1, at_I a2, at_I a3]
 repeat (with_reducible refine And.intro ?_ ?_; · first | assumption | omega | (simp; done) | (simp; omega) | simp_all)
 replace h := bind_some h
 obtain ⟨v4, hv4, h⟩ := h
 refine callA_intro (w_i_Category_then _ _ _ v4 hv4) (.cons (.preT (by simp [Cat.cells, Fn.cells])) (.cons .val (.cons .val .nil))) ?_
 replace h := ass_some h
 obtain ⟨a5, h⟩ := h
 replace h := ass_some h
 obtain ⟨a6, h⟩ := h
 replace h := ass_some h
 obtain ⟨a7, h⟩ := h
 simp [-guardE_b, -Is_at, -Is_at', -Ls_at, -Ls_at', unk, unA, unE, unT, unC, flat, eL, eI, allInts, eP_Cat, eP_Fn, Cat.cells, Fn.cells, at_I a5, at_I a6, at_I a7]
 repeat (with_reducible refine And.intro ?_ ?_; · first | assumption | omega | (simp; done) | (simp; omega) | simp_all)
 replace h := bind_some h
 obtain ⟨v8, hv8, h⟩ := h
 refine callA_intro (w_i_Category_then _ _ _ v8 hv8) (.cons (.preT (by simp [Cat.cells, Fn.cells])) (.cons .val (.cons .val .nil))) ?_
 simp [-guardE_b, -Is_at, -Is_at', -Ls_at, -Ls_at', unk, unA, unE, unT, unC, flat, eL, eI, allInts, eP_Cat, eP_Fn, Cat.cells, Fn.cells]
 repeat (with_reducible refine And.intro ?_ ?_; · first | assumption | omega | (simp; done) | (simp; omega) | simp_all)
 refine hK _ ?_
 clear hK K
 refine tn ?_
 refine w_weak (st' := ⟨[(8, .val (.bool (v4 == v8)))], [], 0⟩) (Wk.rel [] (by simp) (by simp) (by rw [hP]; simp) (by simp) (by simp) (by simp [Cat.cells, Fn.cells, Is_append, Is_one, Ls_append, Ls_one, Bs_append, Bs_one, Es_append, Es_one, Es_set', eB, eI, eL]) (by simp [hhOk, back, Cat.cells, Fn.cells, Is_append, Is_one, Ls_append, Ls_one, Bs_append, Bs_one, Es_append, Es_one, Es_set', eB, eI, eL])) ?_
 refine w_ret ?_
 have hr := Option.some.inj h
 rw [← hr]
 refine ⟨_, (.tmp .nil), ?_⟩
 refine ⟨(.one rfl rfl .nil), [.val (.bool (v4 == v8))], [], by simp [Cat.cells, Fn.cells, Is_append, Is_one, Ls_append, Ls_one, Bs_append, Bs_one, Es_append, Es_one, Es_set', eB, eI, eL], by simp, (UpL.refl _)⟩
end Go.Vc.T

set_option maxRecDepth 100000
set_option linter.unusedSimpArgs false
set_option linter.unusedVariables false
namespace Go.Vc.T
open Go Go.Vc Go.Proofs
noncomputable def s_s_l07Parallel (f_ : Fn) (g_ : Fn) : Option Bool :=
 (
   (s_s_l02Same f_.s g_.s).bind fun v2 =>
   if v2 = true then
     (s_s_l02Same f_.t g_.t).bind fun v4 =>
     some v4
   else
     some false : Option (Bool)).bind fun b1 =>
 some b1
set_option maxHeartbeats 4000000 in
theorem w_s_l07Parallel (f_ : Fn) (g_ : Fn) (r : Bool) (h : s_s_l07Parallel f_ g_ = some r) : Contract Try.prog 230 [.agg (f_.cells true), .agg (g_.cells true)] (.val (.bool r)) := by
 refine contract_introG (rvs := [.tmp 4]) (rs := [.val (.bool r)]) Try.func230 rfl rfl rfl rfl (by simp [Try.f230]) fun F hN hP => ?_
 unfold s_s_l07Parallel at h
 refine w_seq ?_
 refine w_run mo (by rw [hN]; decide) fun K hK => ?_
 simp [-guardE_b, -Is_at, -Is_at', -Ls_at, -Ls_at', eL, eI, allInts, eP_Cat, eP_Fn, Cat.cells, Fn.cells]
 repeat (with_reducible refine And.intro ?_ ?_; · first | assumption | omega | (simp; done) | (simp; omega) | simp_all)
 refine hK _ ?_
 clear hK K
 refine tn ?_
 refine w_weak (st' := ⟨[(2, .adr 0 0 0), (3, .adr 1 0 0)], [(0, .mix 12 [[.val (.int .i64 f_.s.n), .lst true 1 (Is f_.s.fr), .lst true 1 (Is f_.s.to), .lst true 1 (Is f_.s.id), .lst true 1 (Ls f_.s.cs), .val (.int .i64 f_.t.n), .lst true 1 (Is f_.t.fr), .lst true 1 (Is f_.t.to), .lst true 1 (Is f_.t.id), .lst true 1 (Ls f_.t.cs), .lst true 1 (Is f_.ob), .lst true 1 (Is f_.ar)]]), (1, .mix 12 [[.val (.int .i64 g_.s.n), .lst true 1 (Is g_.s.fr), .lst true 1 (Is g_.s.to), .lst true 1 (Is g_.s.id), .lst true 1 (Ls g_.s.cs), .val (.int .i64 g_.t.n), .lst true 1 (Is g_.t.fr), .lst true 1 (Is g_.t.to), .lst true 1 (Is g_.t.id), .lst true 1 (Ls g_.t.cs), .lst true 1 (Is g_.ob), .lst true 1 (Is g_.ar)]])], 2⟩) (Wk.rel [(0, 0), (1, 1)] (by simp) (by simp) (by rw [hP]; simp) (by simp) (by simp) (by simp [Cat.cells, Fn.cells, Is_append, Is_one, Ls_append, Ls_one, Bs_append, Bs_one, Es_append, Es_one, Es_set', eB, eI, eL]) (by simp [hhOk, back, Cat.cells, Fn.cells, Is_append, Is_one, Ls_append, Ls_one, Bs_append, Bs_one, Es_append, Es_one, Es_set', eB, eI, eL])) ?_
 refine w_seq ?_
 replace h := bind_some h
 obtain ⟨e1, h, h1⟩ := h
 refine w_joinT (fun b1 : Bool => ⟨[(4, .val (.bool b1))], [], 0⟩) (fun b1 => b1 = e1) ?_ ?_
 · refine w_run mo (by rw [hN]; decide) fun K hK => ?_
   simp [-guardE_b, -Is_at, -Is_at', -Ls_at, -Ls_at', eL, eI, allInts, eP_Cat, eP_Fn, Cat.cells, Fn.cells]
   repeat (with_reducible refine And.intro ?_ ?_; · first | assumption | omega | (simp; done) | (simp; omega) | simp_all)
   replace h := bind_some h
   obtain ⟨v2, hv2, h⟩ := h
   refine callA_intro (w_s_l02Same _ _ v2 hv2) (.cons (.aggL (.cons .val (.cons .lst (.cons .lst (.cons .lst (.cons .lst .nil)))))) (.cons (.aggL (.cons .val (.cons .lst (.cons .lst (.cons .lst (.cons .lst .nil)))))) .nil)) ?_
   simp [-guardE_b, -Is_at, -Is_at', -Ls_at, -Ls_at', unk, unA, unE, unT, unC, flat, eL, eI, allInts, eP_Cat, eP_Fn, Cat.cells, Fn.cells]
   repeat (with_reducible refine And.intro ?_ ?_; · first | assumption | omega | (simp; done) | (simp; omega) | simp_all)
   refine guard_intro (fun g => ?_) (fun g => ?_)
   · have g3 : v2 = true := by first | simpa using g | (simp at g; exact g) | (simp at g; omega)
     clear g
     replace h := if_l g3 h
     simp [-guardE_b, -Is_at, -Is_at', -Ls_at, -Ls_at', eL, eI, allInts, eP_Cat, eP_Fn, Cat.cells, Fn.cells]
     repeat (with_reducible refine And.intro ?_ ?_; · first | assumption | omega | (simp; done) | (simp; omega) | simp_all)
     replace h := bind_some h
     obtain ⟨v4, hv4, h⟩ := h
     refine callA_intro (w_s_l02Same _ _ v4 hv4) (.cons (.aggL (.cons .val (.cons .lst (.cons .lst (.cons .lst (.cons .lst .nil)))))) (.cons (.aggL (.cons .val (.cons .lst (.cons .lst (.cons .lst (.cons .lst .nil)))))) .nil)) ?_
     simp [-guardE_b, -Is_at, -Is_at', -Ls_at, -Ls_at', unk, unA, unE, unT, unC, flat, eL, eI, allInts, eP_Cat, eP_Fn, Cat.cells, Fn.cells]
     repeat (with_reducible refine And.intro ?_ ?_; · first | assumption | omega | (simp; done) | (simp; omega) | simp_all)
     refine hK _ ?_
     exact jn (b := v4) (Option.some.inj h) (Wk.rel [] (by simp) (by simp) (by rw [hP]; simp) (by simp) (by simp) (by simp [Cat.cells, Fn.cells, Is_append, Is_one, Ls_append, Ls_one, Bs_append, Bs_one, Es_append, Es_one, Es_set', eB, eI, eL]) (by simp [hhOk, back, Cat.cells, Fn.cells, Is_append, Is_one, Ls_append, Ls_one, Bs_append, Bs_one, Es_append, Es_one, Es_set', eB, eI, eL]))
   have g3 : ¬ (v2 = true) := by first | simpa using g | (simp at g; exact g) | (simp at g; omega)
   clear g
   replace h := if_r g3 h
   simp [-guardE_b, -Is_at, -Is_at', -Ls_at, -Ls_at', eL, eI, allInts, eP_Cat, eP_Fn, Cat.cells, Fn.cells]
   repeat (with_reducible refine And.intro ?_ ?_; · first | assumption | omega | (simp; done) | (simp; omega) | simp_all)
   refine hK _ ?_
   exact jn (b := false) (Option.some.inj h) (Wk.rel [] (by simp) (by simp) (by rw [hP]; simp) (by simp) (by simp) (by simp [Cat.cells, Fn.cells, Is_append, Is_one, Ls_append, Ls_one, Bs_append, Bs_one, Es_append, Es_one, Es_set', eB, eI, eL]) (by simp [hhOk, back, Cat.cells, Fn.cells, Is_append, Is_one, Ls_append, Ls_one, Bs_append, Bs_one, Es_append, Es_one, Es_set', eB, eI, eL]))
 intro b1 hb1
 have h := h1
 rw [← hb1] at h
 clear h1
 try dsimp only at h
 refine w_ret ?_
 have hr := Option.some.inj h
 rw [← hr]
 refine ⟨_, (.tmp .nil), ?_⟩
 refine ⟨(.one rfl rfl .nil), [.val (.bool b1)], [], by simp [Cat.cells, Fn.cells, Is_append, Is_one, Ls_append, Ls_one, Bs_append, Bs_one, Es_append, Es_one, Es_set', eB, eI, eL], by simp, (UpL.refl _)⟩
noncomputable def s_s_l07Ends (f_ : Fn) (g_ : Fn) (components_ : List Int) : Option Bool :=
 (
   if ¬ ((components_.length : Int) = f_.s.n) then
     some true
   else
     (s_s_l01Map (f_.t.fr.length : Int) components_).bind fun v3 =>
     some (!v3) : Option (Bool)).bind fun b1 =>
 if b1 = true then
   some false
 else
   (loopF (σ := Int) (ε := Unit ⊕ Bool) (fun s17 =>
     if s17 < (components_.length : Int) then
       (
         ass (0 ≤ s17 ∧ s17 < (components_.length : Int)) <|
         ass (0 ≤ ix components_ s17 ∧ ix components_ s17 < (f_.t.fr.length : Int)) <|
         ass (0 ≤ s17 ∧ s17 < (f_.ob.length : Int)) <|
         if ¬ ((ix f_.t.fr (ix components_ s17)) = (ix f_.ob s17)) then
           some true
         else
           ass (0 ≤ s17 ∧ s17 < (components_.length : Int)) <|
           ass (0 ≤ ix components_ s17 ∧ ix components_ s17 < (f_.t.to.length : Int)) <|
           ass (0 ≤ s17 ∧ s17 < (g_.ob.length : Int)) <|
           some ((ix f_.t.to (ix components_ s17)) != (ix g_.ob s17)) : Option (Bool)).bind fun b19 =>
       if b19 = true then
         some (Ctl.ret (Sum.inr false))
       else
         ass (B64 (s17 + 1)) <|
         some (Ctl.next (s17 + 1))
     else
       some (Ctl.ret (Sum.inl ()))) fuel 0).bind fun e5 =>
   match e5 with
   | .inl b5 =>
     some true
   | .inr p5 =>
     some p5
set_option maxHeartbeats 4000000 in
theorem w_s_l07Ends (f_ : Fn) (g_ : Fn) (components_ : List Int) (r : Bool) (h : s_s_l07Ends f_ g_ components_ = some r) : Contract Try.prog 231 [.agg (f_.cells true), .agg (g_.cells true), .lst true 1 (Is components_)] (.val (.bool r)) := by
 refine contract_introG (rvs := [.tmp 6]) (rs := [.val (.bool r)]) Try.func231 rfl rfl rfl rfl (by simp [Try.f231]) fun F hN hP => ?_
 unfold s_s_l07Ends at h
 refine w_seq ?_
 refine w_run mo (by rw [hN]; decide) fun K hK => ?_
 simp [-guardE_b, -Is_at, -Is_at', -Ls_at, -Ls_at', eL, eI, allInts, eP_Fn, Fn.cells]
 repeat (with_reducible refine And.intro ?_ ?_; · first | assumption | omega | (simp; done) | (simp; omega) | simp_all)
 refine hK _ ?_
 clear hK K
 refine tn ?_
 refine w_weak (st' := ⟨[(2, .lst true 1 (Is components_)), (3, .adr 0 0 0), (4, .adr 1 0 0)], [(0, .mix 12 [[.val (.int .i64 f_.s.n), .lst true 1 (Is f_.s.fr), .lst true 1 (Is f_.s.to), .lst true 1 (Is f_.s.id), .lst true 1 (Ls f_.s.cs), .val (.int .i64 f_.t.n), .lst true 1 (Is f_.t.fr), .lst true 1 (Is f_.t.to), .lst true 1 (Is f_.t.id), .lst true 1 (Ls f_.t.cs), .lst true 1 (Is f_.ob), .lst true 1 (Is f_.ar)]]), (1, .mix 12 [[.val (.int .i64 g_.s.n), .lst true 1 (Is g_.s.fr), .lst true 1 (Is g_.s.to), .lst true 1 (Is g_.s.id), .lst true 1 (Ls g_.s.cs), .val (.int .i64 g_.t.n), .lst true 1 (Is g_.t.fr), .lst true 1 (Is g_.t.to), .lst true 1 (Is g_.t.id), .lst true 1 (Ls g_.t.cs), .lst true 1 (Is g_.ob), .lst true 1 (Is g_.ar)]])], 2⟩) (Wk.rel [(0, 0), (1, 1)] (by simp) (by simp) (by rw [hP]; simp) (by simp) (by simp) (by simp [Fn.cells, Is_append, Is_one, Ls_append, Ls_one, Bs_append, Bs_one, Es_append, Es_one, Es_set', eB, eI, eL]) (by simp [hhOk, back, Fn.cells, Is_append, Is_one, Ls_append, Ls_one, Bs_append, Bs_one, Es_append, Es_one, Es_set', eB, eI, eL])) ?_
 refine w_seq ?_
 refine w_seq ?_
 replace h := bind_some h
 obtain ⟨e1, h, h1⟩ := h
 refine w_joinT (fun b1 : Bool => ⟨[(2, .lst true 1 (Is components_)), (3, .adr 0 0 0), (4, .adr 1 0 0), (22, .val (.bool b1))], [(0, .mix 12 [[.val (.int .i64 f_.s.n), .lst true 1 (Is f_.s.fr), .lst true 1 (Is f_.s.to), .lst true 1 (Is f_.s.id), .lst true 1 (Ls f_.s.cs), .val (.int .i64 f_.t.n), .lst true 1 (Is f_.t.fr), .lst true 1 (Is f_.t.to), .lst true 1 (Is f_.t.id), .lst true 1 (Ls f_.t.cs), .lst true 1 (Is f_.ob), .lst true 1 (Is f_.ar)]]), (1, .mix 12 [[.val (.int .i64 g_.s.n), .lst true 1 (Is g_.s.fr), .lst true 1 (Is g_.s.to), .lst true 1 (Is g_.s.id), .lst true 1 (Ls g_.s.cs), .val (.int .i64 g_.t.n), .lst true 1 (Is g_.t.fr), .lst true 1 (Is g_.t.to), .lst true 1 (Is g_.t.id), .lst true 1 (Ls g_.t.cs), .lst true 1 (Is g_.ob), .lst true 1 (Is g_.ar)]])], 2⟩) (fun b1 => b1 = e1) ?_ ?_
 · refine w_run mo (by rw [hN]; decide) fun K hK => ?_
   simp [-guardE_b, -Is_at, -Is_at', -Ls_at, -Ls_at', eL, eI, allInts, eP_Fn, Fn.cells]
   repeat (with_reducible refine And.intro ?_ ?_; · first | assumption | omega | (simp; done) | (simp; omega) | simp_all)
   refine guard_intro (fun g => ?_) (fun g => ?_)
   · have g2 : ¬ (¬ ((components_.length : Int) = f_.s.n)) := by first | simpa using g | (simp at g; exact g) | (simp at g; omega)
     clear g
     replace h := if_r g2 h
     simp [-guardE_b, -Is_at, -Is_at', -Ls_at, -Ls_at', eL, eI, allInts, eP_Fn, Fn.cells]
     repeat (with_reducible refine And.intro ?_ ?_; · first | assumption | omega | (simp; done) | (simp; omega) | simp_all)
     replace h := bind_some h
     obtain ⟨v3, hv3, h⟩ := h
     refine callA_intro (w_s_l01Map _ _ v3 hv3) (.cons .val (.cons .lst .nil)) ?_
     simp [-guardE_b, -Is_at, -Is_at', -Ls_at, -Ls_at', unk, unA, unE, unT, unC, flat, eL, eI, allInts, eP_Fn, Fn.cells]
     repeat (with_reducible refine And.intro ?_ ?_; · first | assumption | omega | (simp; done) | (simp; omega) | simp_all)
     refine hK _ ?_
     exact jn (b := !v3) (Option.some.inj h) (Wk.rel [(0, 0), (1, 1)] (by simp) (by simp) (by rw [hP]; simp) (by simp) (by simp) (by simp [Fn.cells, Is_append, Is_one, Ls_append, Ls_one, Bs_append, Bs_one, Es_append, Es_one, Es_set', eB, eI, eL]) (by simp [hhOk, back, Fn.cells, Is_append, Is_one, Ls_append, Ls_one, Bs_append, Bs_one, Es_append, Es_one, Es_set', eB, eI, eL]))
   have g2 : ¬ ((components_.length : Int) = f_.s.n) := by first | simpa using g | (simp at g; exact g) | (simp at g; omega)
   clear g
   replace h := if_l g2 h
   simp [-guardE_b, -Is_at, -Is_at', -Ls_at, -Ls_at', eL, eI, allInts, eP_Fn, Fn.cells]
   repeat (with_reducible refine And.intro ?_ ?_; · first | assumption | omega | (simp; done) | (simp; omega) | simp_all)
   refine hK _ ?_
   exact jn (b := true) (Option.some.inj h) (Wk.rel [(0, 0), (1, 1)] (by simp) (by simp) (by rw [hP]; simp) (by simp) (by simp) (by simp [Fn.cells, Is_append, Is_one, Ls_append, Ls_one, Bs_append, Bs_one, Es_append, Es_one, Es_set', eB, eI, eL]) (by simp [hhOk, back, Fn.cells, Is_append, Is_one, Ls_append, Ls_one, Bs_append, Bs_one, Es_append, Es_one, Es_set', eB, eI, eL]))
 intro b1 hb1
 have h := h1
 rw [← hb1] at h
 clear h1
 try dsimp only at h
 refine w_cond rfl (fun g => ?_) fun g => ?_
 · have g4 : b1 = true := by first | simpa using g | (simp at g; exact g) | (simp at g; omega)
   clear g
   replace h := if_l g4 h
   refine w_seq ?_
   refine w_run mo (by rw [hN]; decide) fun K hK => ?_
   simp [-guardE_b, -Is_at, -Is_at', -Ls_at, -Ls_at', eL, eI, allInts, eP_Fn, Fn.cells]
   repeat (with_reducible refine And.intro ?_ ?_; · first | assumption | omega | (simp; done) | (simp; omega) | simp_all)
   refine hK _ ?_
   clear hK K
   refine tn ?_
   refine w_weak (st' := ⟨[(6, .val (.bool false))], [], 0⟩) (Wk.rel [] (by simp) (by simp) (by rw [hP]; simp) (by simp) (by simp) (by simp [Fn.cells, Is_append, Is_one, Ls_append, Ls_one, Bs_append, Bs_one, Es_append, Es_one, Es_set', eB, eI, eL]) (by simp [hhOk, back, Fn.cells, Is_append, Is_one, Ls_append, Ls_one, Bs_append, Bs_one, Es_append, Es_one, Es_set', eB, eI, eL])) ?_
   refine w_ret ?_
   refine tr ?_
   have hr := Option.some.inj h
   rw [← hr]
   refine ⟨_, (.tmp .nil), ?_⟩
   refine ⟨(.one rfl rfl .nil), [.val (.bool false)], [], by simp [Fn.cells, Is_append, Is_one, Ls_append, Ls_one, Bs_append, Bs_one, Es_append, Es_one, Es_set', eB, eI, eL], by simp, (UpL.refl _)⟩
 have g4 : ¬ (b1 = true) := by first | simpa using g | (simp at g; exact g) | (simp at g; omega)
 clear g
 replace h := if_r g4 h
 refine w_skip ?_
 refine tn ?_
 refine w_seq ?_
 refine w_seq ?_
 refine w_run mo (by rw [hN]; decide) fun K hK => ?_
 simp [-guardE_b, -Is_at, -Is_at', -Ls_at, -Ls_at', eL, eI, allInts, eP_Fn, Fn.cells]
 repeat (with_reducible refine And.intro ?_ ?_; · first | assumption | omega | (simp; done) | (simp; omega) | simp_all)
 refine hK _ ?_
 clear hK K
 refine tn ?_
 refine w_weak (st' := ⟨[(2, .lst true 1 (Is components_)), (3, .adr 0 0 0), (4, .adr 1 0 0), (7, .val (.int .i64 0))], [(0, .mix 12 [[.val (.int .i64 f_.s.n), .lst true 1 (Is f_.s.fr), .lst true 1 (Is f_.s.to), .lst true 1 (Is f_.s.id), .lst true 1 (Ls f_.s.cs), .val (.int .i64 f_.t.n), .lst true 1 (Is f_.t.fr), .lst true 1 (Is f_.t.to), .lst true 1 (Is f_.t.id), .lst true 1 (Ls f_.t.cs), .lst true 1 (Is f_.ob), .lst true 1 (Is f_.ar)]]), (1, .mix 12 [[.val (.int .i64 g_.s.n), .lst true 1 (Is g_.s.fr), .lst true 1 (Is g_.s.to), .lst true 1 (Is g_.s.id), .lst true 1 (Ls g_.s.cs), .val (.int .i64 g_.t.n), .lst true 1 (Is g_.t.fr), .lst true 1 (Is g_.t.to), .lst true 1 (Is g_.t.id), .lst true 1 (Ls g_.t.cs), .lst true 1 (Is g_.ob), .lst true 1 (Is g_.ar)]])], 2⟩) (Wk.rel [(0, 0), (1, 1)] (by simp) (by simp) (by rw [hP]; simp) (by simp) (by simp) (by simp [Fn.cells, Is_append, Is_one, Ls_append, Ls_one, Bs_append, Bs_one, Es_append, Es_one, Es_set', eB, eI, eL]) (by simp [hhOk, back, Fn.cells, Is_append, Is_one, Ls_append, Ls_one, Bs_append, Bs_one, Es_append, Es_one, Es_set', eB, eI, eL])) ?_
 replace h := bind_some h
 obtain ⟨e5, h, h5⟩ := h
 refine w_joinT (fun b5 : Unit => ⟨[], [], 0⟩) (fun b5 => Sum.inl b5 = e5) ?_ ?_
 · refine w_block ?_
   refine w_loopF h (fun s17 : Int => ⟨[(2, .lst true 1 (Is components_)), (3, .adr 0 0 0), (4, .adr 1 0 0), (7, .val (.int .i64 s17))], [(0, .mix 12 [[.val (.int .i64 f_.s.n), .lst true 1 (Is f_.s.fr), .lst true 1 (Is f_.s.to), .lst true 1 (Is f_.s.id), .lst true 1 (Ls f_.s.cs), .val (.int .i64 f_.t.n), .lst true 1 (Is f_.t.fr), .lst true 1 (Is f_.t.to), .lst true 1 (Is f_.t.id), .lst true 1 (Ls f_.t.cs), .lst true 1 (Is f_.ob), .lst true 1 (Is f_.ar)]]), (1, .mix 12 [[.val (.int .i64 g_.s.n), .lst true 1 (Is g_.s.fr), .lst true 1 (Is g_.s.to), .lst true 1 (Is g_.s.id), .lst true 1 (Ls g_.s.cs), .val (.int .i64 g_.t.n), .lst true 1 (Is g_.t.fr), .lst true 1 (Is g_.t.to), .lst true 1 (Is g_.t.id), .lst true 1 (Ls g_.t.cs), .lst true 1 (Is g_.ob), .lst true 1 (Is g_.ar)]])], 2⟩) (Wk.rel [(0, 0), (1, 1)] (by simp) (by simp) (by rw [hP]; simp) (by simp) (by simp) (by simp [Fn.cells, Is_append, Is_one, Ls_append, Ls_one, Bs_append, Bs_one, Es_append, Es_one, Es_set', eB, eI, eL]) (by simp [hhOk, back, Fn.cells, Is_append, Is_one, Ls_append, Ls_one, Bs_append, Bs_one, Es_append, Es_one, Es_set', eB, eI, eL])) ?_
   clear h
   intro k17 s17 c17 h hk17
   refine w_seq ?_
   refine w_seq ?_
   refine w_run mo (by rw [hN]; decide) fun K hK => ?_
   simp [-guardE_b, -Is_at, -Is_at', -Ls_at, -Ls_at', eL, eI, allInts, eP_Fn, Fn.cells]
   repeat (with_reducible refine And.intro ?_ ?_; · first | assumption | omega | (simp; done) | (simp; omega) | simp_all)
   refine hK _ ?_
   clear hK K
   refine tn ?_
   refine w_weak (st' := ⟨[(2, .lst true 1 (Is components_)), (3, .adr 0 0 0), (4, .adr 1 0 0), (7, .val (.int .i64 s17)), (26, .val (.bool (decide (s17 < (components_.length : Int)))))], [(0, .mix 12 [[.val (.int .i64 f_.s.n), .lst true 1 (Is f_.s.fr), .lst true 1 (Is f_.s.to), .lst true 1 (Is f_.s.id), .lst true 1 (Ls f_.s.cs), .val (.int .i64 f_.t.n), .lst true 1 (Is f_.t.fr), .lst true 1 (Is f_.t.to), .lst true 1 (Is f_.t.id), .lst true 1 (Ls f_.t.cs), .lst true 1 (Is f_.ob), .lst true 1 (Is f_.ar)]]), (1, .mix 12 [[.val (.int .i64 g_.s.n), .lst true 1 (Is g_.s.fr), .lst true 1 (Is g_.s.to), .lst true 1 (Is g_.s.id), .lst true 1 (Ls g_.s.cs), .val (.int .i64 g_.t.n), .lst true 1 (Is g_.t.fr), .lst true 1 (Is g_.t.to), .lst true 1 (Is g_.t.id), .lst true 1 (Ls g_.t.cs), .lst true 1 (Is g_.ob), .lst true 1 (Is g_.ar)]])], 2⟩) (Wk.rel [(0, 0), (1, 1)] (by simp) (by simp) (by rw [hP]; simp) (by simp) (by simp) (by simp [Fn.cells, Is_append, Is_one, Ls_append, Ls_one, Bs_append, Bs_one, Es_append, Es_one, Es_set', eB, eI, eL]) (by simp [hhOk, back, Fn.cells, Is_append, Is_one, Ls_append, Ls_one, Bs_append, Bs_one, Es_append, Es_one, Es_set', eB, eI, eL])) ?_
   refine w_cond rfl (fun g => ?_) fun g => ?_
   · have g18 : s17 < (components_.length : Int) := by first | simpa using g | (simp at g; exact g) | (simp at g; omega)
     clear g
     replace h := if_l g18 h
     refine w_skip ?_
     refine tn ?_
     refine w_seq ?_
     refine w_block ?_
     refine w_seq ?_
     replace h := bind_some h
     obtain ⟨e19, h, h19⟩ := h
     refine w_joinT (fun b19 : Bool => ⟨[(2, .lst true 1 (Is components_)), (3, .adr 0 0 0), (4, .adr 1 0 0), (7, .val (.int .i64 s17)), (60, .val (.bool b19))], [(0, .mix 12 [[.val (.int .i64 f_.s.n), .lst true 1 (Is f_.s.fr), .lst true 1 (Is f_.s.to), .lst true 1 (Is f_.s.id), .lst true 1 (Ls f_.s.cs), .val (.int .i64 f_.t.n), .lst true 1 (Is f_.t.fr), .lst true 1 (Is f_.t.to), .lst true 1 (Is f_.t.id), .lst true 1 (Ls f_.t.cs), .lst true 1 (Is f_.ob), .lst true 1 (Is f_.ar)]]), (1, .mix 12 [[.val (.int .i64 g_.s.n), .lst true 1 (Is g_.s.fr), .lst true 1 (Is g_.s.to), .lst true 1 (Is g_.s.id), .lst true 1 (Ls g_.s.cs), .val (.int .i64 g_.t.n), .lst true 1 (Is g_.t.fr), .lst true 1 (Is g_.t.to), .lst true 1 (Is g_.t.id), .lst true 1 (Ls g_.t.cs), .lst true 1 (Is g_.ob), .lst true 1 (Is g_.ar)]])], 2⟩) (fun b19 => b19 = e19) ?_ ?_
     · refine w_run mo (by rw [hN]; decide) fun K hK => ?_
       replace h := ass_some h
       obtain ⟨a20, h⟩ := h
       replace h := ass_some h
       obtain ⟨a21, h⟩ := h
       replace h := ass_some h
       obtain ⟨a22, h⟩ := h
       simp [-guardE_b, -Is_at, -Is_at', -Ls_at, -Ls_at', eL, eI, allInts, eP_Fn, Fn.cells, at_I a20, at_I a21, at_I a22]
       repeat (with_reducible refine And.intro ?_ ?_; · first | assumption | omega | (simp; done) | (simp; omega) | simp_all)
       refine guard_intro (fun g => ?_) (fun g => ?_)
       · have g23 : ¬ (¬ ((ix f_.t.fr (ix components_ s17)) = (ix f_.ob s17))) := by first | simpa using g | (simp at g; exact g) | (simp at g; omega)
         clear g
         replace h := if_r g23 h
         replace h := ass_some h
         obtain ⟨a24, h⟩ := h
         replace h := ass_some h
         obtain ⟨a25, h⟩ := h
         replace h := ass_some h
         obtain ⟨a26, h⟩ := h
         simp [-guardE_b, -Is_at, -Is_at', -Ls_at, -Ls_at', eL, eI, allInts, eP_Fn, Fn.cells, at_I a24, at_I a25, at_I a26]
         repeat (with_reducible refine And.intro ?_ ?_; · first | assumption | omega | (simp; done) | (simp; omega) | simp_all)
         refine hK _ ?_
         exact jn (b := (ix f_.t.to (ix components_ s17)) != (ix g_.ob s17)) (Option.some.inj h) (Wk.rel [(0, 0), (1, 1)] (by simp) (by simp) (by rw [hP]; simp) (by simp) (by simp) (by simp [Fn.cells, Is_append, Is_one, Ls_append, Ls_one, Bs_append, Bs_one, Es_append, Es_one, Es_set', eB, eI, eL]) (by simp [hhOk, back, Fn.cells, Is_append, Is_one, Ls_append, Ls_one, Bs_append, Bs_one, Es_append, Es_one, Es_set', eB, eI, eL]))
       have g23 : ¬ ((ix f_.t.fr (ix components_ s17)) = (ix f_.ob s17)) := by first | simpa using g | (simp at g; exact g) | (simp at g; omega)
       clear g
       replace h := if_l g23 h
       simp [-guardE_b, -Is_at, -Is_at', -Ls_at, -Ls_at', eL, eI, allInts, eP_Fn, Fn.cells]
       repeat (with_reducible refine And.intro ?_ ?_; · first | assumption | omega | (simp; done) | (simp; omega) | simp_all)
       refine hK _ ?_
       exact jn (b := true) (Option.some.inj h) (Wk.rel [(0, 0), (1, 1)] (by simp) (by simp) (by rw [hP]; simp) (by simp) (by simp) (by simp [Fn.cells, Is_append, Is_one, Ls_append, Ls_one, Bs_append, Bs_one, Es_append, Es_one, Es_set', eB, eI, eL]) (by simp [hhOk, back, Fn.cells, Is_append, Is_one, Ls_append, Ls_one, Bs_append, Bs_one, Es_append, Es_one, Es_set', eB, eI, eL]))
     intro b19 hb19
     have h := h19
     rw [← hb19] at h
     clear h19
     try dsimp only at h
     refine w_cond rfl (fun g => ?_) fun g => ?_
     · have g27 : b19 = true := by first | simpa using g | (simp at g; exact g) | (simp at g; omega)
       clear g
       replace h := if_l g27 h
       refine w_seq ?_
       refine w_run mo (by rw [hN]; decide) fun K hK => ?_
       simp [-guardE_b, -Is_at, -Is_at', -Ls_at, -Ls_at', eL, eI, allInts, eP_Fn, Fn.cells]
       repeat (with_reducible refine And.intro ?_ ?_; · first | assumption | omega | (simp; done) | (simp; omega) | simp_all)
       refine hK _ ?_
       clear hK K
       refine tn ?_
       refine w_weak (st' := ⟨[(6, .val (.bool false))], [], 0⟩) (Wk.rel [] (by simp) (by simp) (by rw [hP]; simp) (by simp) (by simp) (by simp [Fn.cells, Is_append, Is_one, Ls_append, Ls_one, Bs_append, Bs_one, Es_append, Es_one, Es_set', eB, eI, eL]) (by simp [hhOk, back, Fn.cells, Is_append, Is_one, Ls_append, Ls_one, Bs_append, Bs_one, Es_append, Es_one, Es_set', eB, eI, eL])) ?_
       refine w_ret ?_
       refine br ?_
       refine tr ?_
       refine lr ?_
       refine br ?_
       refine tr ?_
       cases h
       have q : _ = e5 := hk17
       have h := h5
       rw [← q] at h
       clear q
       try dsimp only at h
       have hr := Option.some.inj h
       rw [← hr]
       refine ⟨_, (.tmp .nil), ?_⟩
       refine ⟨(.one rfl rfl .nil), [.val (.bool false)], [], by simp [Fn.cells, Is_append, Is_one, Ls_append, Ls_one, Bs_append, Bs_one, Es_append, Es_one, Es_set', eB, eI, eL], by simp, (UpL.refl _)⟩
     have g27 : ¬ (b19 = true) := by first | simpa using g | (simp at g; exact g) | (simp at g; omega)
     clear g
     replace h := if_r g27 h
     refine w_skip ?_
     refine bn ?_
     refine tn ?_
     refine w_run mo (by rw [hN]; decide) fun K hK => ?_
     replace h := ass_some h
     obtain ⟨a28, h⟩ := h
     simp [-guardE_b, -Is_at, -Is_at', -Ls_at, -Ls_at', eL, eI, allInts, eP_Fn, Fn.cells, wrap_id a28]
     repeat (with_reducible refine And.intro ?_ ?_; · first | assumption | omega | (simp; done) | (simp; omega) | simp_all)
     refine hK _ ?_
     clear hK K
     cases h
     exact rn (s' := s17 + 1) hk17 (Wk.rel [(0, 0), (1, 1)] (by simp) (by simp) (by rw [hP]; simp) (by simp) (by simp) (by simp [Fn.cells, Is_append, Is_one, Ls_append, Ls_one, Bs_append, Bs_one, Es_append, Es_one, Es_set', eB, eI, eL]) (by simp [hhOk, back, Fn.cells, Is_append, Is_one, Ls_append, Ls_one, Bs_append, Bs_one, Es_append, Es_one, Es_set', eB, eI, eL]))
   have g18 : ¬ (s17 < (components_.length : Int)) := by first | simpa using g | (simp at g; exact g) | (simp at g; omega)
   clear g
   replace h := if_r g18 h
   refine w_exit ?_
   refine tx ?_
   refine lx ?_
   refine bh ?_
   cases h
   exact jn (b := ()) hk17 (Wk.rel [] (by simp) (by simp) (by rw [hP]; simp) (by simp) (by simp) (by simp [Fn.cells, Is_append, Is_one, Ls_append, Ls_one, Bs_append, Bs_one, Es_append, Es_one, Es_set', eB, eI, eL]) (by simp [hhOk, back, Fn.cells, Is_append, Is_one, Ls_append, Ls_one, Bs_append, Bs_one, Es_append, Es_one, Es_set', eB, eI, eL]))
 intro b5 hb5
 have h := h5
 rw [← hb5] at h
 clear h5
 try dsimp only at h
 refine w_seq ?_
 refine w_run mo (by rw [hN]; decide) fun K hK => ?_
 simp [-guardE_b, -Is_at, -Is_at', -Ls_at, -Ls_at', eL, eI, allInts, eP_Fn, Fn.cells]
 repeat (with_reducible refine And.intro ?_ ?_; · first | assumption | omega | (simp; done) | (simp; omega) | simp_all)
 refine hK _ ?_
 clear hK K
 refine tn ?_
 refine w_weak (st' := ⟨[(6, .val (.bool true))], [], 0⟩) (Wk.rel [] (by simp) (by simp) (by rw [hP]; simp) (by simp) (by simp) (by simp [Fn.cells, Is_append, Is_one, Ls_append, Ls_one, Bs_append, Bs_one, Es_append, Es_one, Es_set', eB, eI, eL]) (by simp [hhOk, back, Fn.cells, Is_append, Is_one, Ls_append, Ls_one, Bs_append, Bs_one, Es_append, Es_one, Es_set', eB, eI, eL])) ?_
 refine w_ret ?_
 have hr := Option.some.inj h
 rw [← hr]
 refine ⟨_, (.tmp .nil), ?_⟩
 refine ⟨(.one rfl rfl .nil), [.val (.bool true)], [], by simp [Fn.cells, Is_append, Is_one, Ls_append, Ls_one, Bs_append, Bs_one, Es_append, Es_one, Es_set', eB, eI, eL], by simp, (UpL.refl _)⟩
noncomputable def s_s_l07Square (f_ : Fn) (g_ : Fn) (components_ : List Int) (a_ : Int) : Option Bool :=
 ass (0 ≤ a_ ∧ a_ < (f_.ar.length : Int)) <|
 ass (0 ≤ ix f_.ar a_ ∧ ix f_.ar a_ < (f_.t.cs.length : Int)) <|
 ass (0 ≤ a_ ∧ a_ < (f_.s.to.length : Int)) <|
 ass (0 ≤ ix f_.s.to a_ ∧ ix f_.s.to a_ < (components_.length : Int)) <|
 ass (0 ≤ ix components_ (ix f_.s.to a_) ∧ ix components_ (ix f_.s.to a_) < ((rx f_.t.cs (ix f_.ar a_)).length : Int)) <|
 ass (0 ≤ a_ ∧ a_ < (f_.s.fr.length : Int)) <|
 ass (0 ≤ ix f_.s.fr a_ ∧ ix f_.s.fr a_ < (components_.length : Int)) <|
 ass (0 ≤ ix components_ (ix f_.s.fr a_) ∧ ix components_ (ix f_.s.fr a_) < (f_.t.cs.length : Int)) <|
 ass (0 ≤ a_ ∧ a_ < (g_.ar.length : Int)) <|
 ass (0 ≤ ix g_.ar a_ ∧ ix g_.ar a_ < ((rx f_.t.cs (ix components_ (ix f_.s.fr a_))).length : Int)) <|
 some ((ix (rx f_.t.cs (ix f_.ar a_)) (ix components_ (ix f_.s.to a_))) == (ix (rx f_.t.cs (ix components_ (ix f_.s.fr a_))) (ix g_.ar a_)))
set_option maxHeartbeats 4000000 in
theorem w_s_l07Square (f_ : Fn) (g_ : Fn) (components_ : List Int) (a_ : Int) (r : Bool) (h : s_s_l07Square f_ g_ components_ a_ = some r) : Contract Try.prog 232 [.agg (f_.cells true), .agg (g_.cells true), .lst true 1 (Is components_), .val (.int .i64 a_)] (.val (.bool r)) := by
 refine contract_introG (rvs := [.tmp 8]) (rs := [.val (.bool r)]) Try.func232 rfl rfl rfl rfl (by simp [Try.f232]) fun F hN hP => ?_
 unfold s_s_l07Square at h
 refine w_seq ?_
 refine w_run mo (by rw [hN]; decide) fun K hK => ?_
 simp [-guardE_b, -Is_at, -Is_at', -Ls_at, -Ls_at', eL, eI, allInts, eP_Fn, Fn.cells]
 repeat (with_reducible refine And.intro ?_ ?_; · first | assumption | omega | (simp; done) | (simp; omega) | simp_all)
 refine hK _ ?_
 clear hK K
 refine tn ?_
 refine w_weak (st' := ⟨[(2, .lst true 1 (Is components_)), (3, .val (.int .i64 a_)), (4, .adr 0 0 0), (5, .adr 1 0 0)], [(0, .mix 12 [[.val (.int .i64 f_.s.n), .lst true 1 (Is f_.s.fr), .lst true 1 (Is f_.s.to), .lst true 1 (Is f_.s.id), .lst true 1 (Ls f_.s.cs), .val (.int .i64 f_.t.n), .lst true 1 (Is f_.t.fr), .lst true 1 (Is f_.t.to), .lst true 1 (Is f_.t.id), .lst true 1 (Ls f_.t.cs), .lst true 1 (Is f_.ob), .lst true 1 (Is f_.ar)]]), (1, .mix 12 [[.val (.int .i64 g_.s.n), .lst true 1 (Is g_.s.fr), .lst true 1 (Is g_.s.to), .lst true 1 (Is g_.s.id), .lst true 1 (Ls g_.s.cs), .val (.int .i64 g_.t.n), .lst true 1 (Is g_.t.fr), .lst true 1 (Is g_.t.to), .lst true 1 (Is g_.t.id), .lst true 1 (Ls g_.t.cs), .lst true 1 (Is g_.ob), .lst true 1 (Is g_.ar)]])], 2⟩) (Wk.rel [(0, 0), (1, 1)] (by simp) (by simp) (by rw [hP]; simp) (by simp) (by simp) (by simp [Fn.cells, Is_append, Is_one, Ls_append, Ls_one, Bs_append, Bs_one, Es_append, Es_one, Es_set', eB, eI, eL]) (by simp [hhOk, back, Fn.cells, Is_append, Is_one, Ls_append, Ls_one, Bs_append, Bs_one, Es_append, Es_one, Es_set', eB, eI, eL])) ?_
 refine w_seq ?_
 refine w_runS mo (by rw [hN]; decide) fun K hK => ?_
 simp [-guardE_b, -Is_at, -Is_at', -Ls_at, -Ls_at', eL, eI, allInts, eP_Fn, Fn.cells]
 repeat (with_reducible refine And.intro ?_ ?_; · first | assumption | omega | (simp; done) | (simp; omega) | simp_all)
 refine hK _ ?_
 clear hK K
 refine tn ?_
 refine w_weak (st' := ⟨[(2, .lst true 1 (Is components_)), (3, .val (.int .i64 a_)), (4, .adr 0 0 0), (5, .adr 1 0 0), (9, .adr 2 0 0), (10, .adr 3 0 0)], [(0, .mix 12 [[.val (.int .i64 f_.s.n), .lst true 1 (Is f_.s.fr), .lst true 1 (Is f_.s.to), .lst true 1 (Is f_.s.id), .lst true 1 (Ls f_.s.cs), .val (.int .i64 f_.t.n), .lst true 1 (Is f_.t.fr), .lst true 1 (Is f_.t.to), .lst true 1 (Is f_.t.id), .lst true 1 (Ls f_.t.cs), .lst true 1 (Is f_.ob), .lst true 1 (Is f_.ar)]]), (1, .mix 12 [[.val (.int .i64 g_.s.n), .lst true 1 (Is g_.s.fr), .lst true 1 (Is g_.s.to), .lst true 1 (Is g_.s.id), .lst true 1 (Ls g_.s.cs), .val (.int .i64 g_.t.n), .lst true 1 (Is g_.t.fr), .lst true 1 (Is g_.t.to), .lst true 1 (Is g_.t.id), .lst true 1 (Ls g_.t.cs), .lst true 1 (Is g_.ob), .lst true 1 (Is g_.ar)]]), (2, .mix 5 [[.val (.int .i64 f_.s.n), .lst true 1 (Is f_.s.fr), .lst true 1 (Is f_.s.to), .lst true 1 (Is f_.s.id), .lst true 1 (Ls f_.s.cs)]]), (3, .mix 5 [[.val (.int .i64 f_.t.n), .lst true 1 (Is f_.t.fr), .lst true 1 (Is f_.t.to), .lst true 1 (Is f_.t.id), .lst true 1 (Ls f_.t.cs)]])], 4⟩) (Wk.rel [(0, 0), (1, 1), (2, 2), (3, 3)] (by simp) (by simp) (by rw [hP]; simp) (by simp) (by simp) (by simp [Fn.cells, Is_append, Is_one, Ls_append, Ls_one, Bs_append, Bs_one, Es_append, Es_one, Es_set', eB, eI, eL]) (by simp [hhOk, back, Fn.cells, Is_append, Is_one, Ls_append, Ls_one, Bs_append, Bs_one, Es_append, Es_one, Es_set', eB, eI, eL])) ?_
 refine w_seq ?_
 refine w_run mo (by rw [hN]; decide) fun K hK => ?_
 replace h := ass_some h
 obtain ⟨a1, h⟩ := h
 replace h := ass_some h
 obtain ⟨a2, h⟩ := h
 replace h := ass_some h
 obtain ⟨a3, h⟩ := h
 replace h := ass_some h
 obtain ⟨a4, h⟩ := h
 replace h := ass_some h
 obtain ⟨a5, h⟩ := h
 replace h := ass_some h
 obtain ⟨a6, h⟩ := h
 replace h := ass_some h
 obtain ⟨a7, h⟩ := h
 replace h := ass_some h
 obtain ⟨a8, h⟩ := h
 replace h := ass_some h
 obtain ⟨a9, h⟩ := h
 replace h := ass_some h
 obtain ⟨a10, h⟩ := h
 simp [-guardE_b, -Is_at, -Is_at', -Ls_at, -Ls_at', eL, eI, allInts, eP_Fn, Fn.cells, at_I a1, at_L a2, at_I a3, at_I a4, at_I a5, at_I a6, at_I a7, at_L a8, at_I a9, at_I a10]
 repeat (with_reducible refine And.intro ?_ ?_; · first | assumption | omega | (simp; done) | (simp; omega) | simp_all)
 refine hK _ ?_
 clear hK K
 refine tn ?_
 refine w_weak (st' := ⟨[(8, .val (.bool ((ix (rx f_.t.cs (ix f_.ar a_)) (ix components_ (ix f_.s.to a_))) == (ix (rx f_.t.cs (ix components_ (ix f_.s.fr a_))) (ix g_.ar a_)))))], [], 0⟩) (Wk.rel [] (by simp) (by simp) (by rw [hP]; simp) (by simp) (by simp) (by simp [Fn.cells, Is_append, Is_one, Ls_append, Ls_one, Bs_append, Bs_one, Es_append, Es_one, Es_set', eB, eI, eL]) (by simp [hhOk, back, Fn.cells, Is_append, Is_one, Ls_append, Ls_one, Bs_append, Bs_one, Es_append, Es_one, Es_set', eB, eI, eL])) ?_
 refine w_ret ?_
 have hr := Option.some.inj h
 rw [← hr]
 refine ⟨_, (.tmp .nil), ?_⟩
 refine ⟨(.one rfl rfl .nil), [.val (.bool ((ix (rx f_.t.cs (ix f_.ar a_)) (ix components_ (ix f_.s.to a_))) == (ix (rx f_.t.cs (ix components_ (ix f_.s.fr a_))) (ix g_.ar a_))))], [], by simp [Fn.cells, Is_append, Is_one, Ls_append, Ls_one, Bs_append, Bs_one, Es_append, Es_one, Es_set', eB, eI, eL], by simp, (UpL.refl _)⟩
noncomputable def s_s_l05Retractions (c_ : Cat) (f_ : Int) : Option (List Int) :=
 (loopF (σ := List Int × Int) (ε := List Int) (fun s18 =>
   if s18.2 < (c_.fr.length : Int) then
     (
       (
         ass (0 ≤ s18.2 ∧ s18.2 < (c_.fr.length : Int)) <|
         ass (0 ≤ f_ ∧ f_ < (c_.to.length : Int)) <|
         if (ix c_.fr s18.2) = (ix c_.to f_) then
           ass (0 ≤ s18.2 ∧ s18.2 < (c_.to.length : Int)) <|
           ass (0 ≤ f_ ∧ f_ < (c_.fr.length : Int)) <|
           if (ix c_.to s18.2) = (ix c_.fr f_) then
             ass (0 ≤ f_ ∧ f_ < (c_.cs.length : Int)) <|
             ass (0 ≤ s18.2 ∧ s18.2 < ((rx c_.cs f_).length : Int)) <|
             ass (0 ≤ f_ ∧ f_ < (c_.fr.length : Int)) <|
             ass (0 ≤ ix c_.fr f_ ∧ ix c_.fr f_ < (c_.id.length : Int)) <|
             some ((ix (rx c_.cs f_) s18.2) == (ix c_.id (ix c_.fr f_)))
           else
             some false
         else
           some false : Option (Bool)).bind fun b21 =>
       if b21 = true then
         ass ((s18.1 ++ [s18.2]).length ≤ 1073741824) <|
         some (s18.1 ++ [s18.2])
       else
         some s18.1 : Option (List Int)).bind fun b20 =>
     ass (B64 (s18.2 + 1)) <|
     some (Ctl.next (b20, s18.2 + 1))
   else
     some (Ctl.ret s18.1)) fuel ([], 0)).bind fun b1 =>
 some b1
set_option maxHeartbeats 4000000 in
theorem w_s_l05Retractions (c_ : Cat) (f_ : Int) (r : List Int) (h : s_s_l05Retractions c_ f_ = some r) : Contract Try.prog 233 [.agg (c_.cells true), .val (.int .i64 f_)] (.lst true 1 (Is r)) := by
 refine contract_introG (rvs := [.tmp 4]) (rs := [.lst true 1 (Is r)]) Try.func233 rfl rfl rfl rfl (by simp [Try.f233]) fun F hN hP => ?_
 unfold s_s_l05Retractions at h
 refine w_seq ?_
 refine w_run mo (by rw [hN]; decide) fun K hK => ?_
 simp [-guardE_b, -Is_at, -Is_at', -Ls_at, -Ls_at', eL, eI, allInts, eP_Cat, Cat.cells]
 repeat (with_reducible refine And.intro ?_ ?_; · first | assumption | omega | (simp; done) | (simp; omega) | simp_all)
 refine hK _ ?_
 clear hK K
 refine tn ?_
 refine w_weak (st' := ⟨[(1, .val (.int .i64 f_)), (2, .adr 0 0 0)], [(0, .mix 5 [[.val (.int .i64 c_.n), .lst true 1 (Is c_.fr), .lst true 1 (Is c_.to), .lst true 1 (Is c_.id), .lst true 1 (Ls c_.cs)]])], 1⟩) (Wk.rel [(0, 0)] (by simp) (by simp) (by rw [hP]; simp) (by simp) (by simp) (by simp [Cat.cells, Is_append, Is_one, Ls_append, Ls_one, Bs_append, Bs_one, Es_append, Es_one, Es_set', eB, eI, eL]) (by simp [hhOk, back, Cat.cells, Is_append, Is_one, Ls_append, Ls_one, Bs_append, Bs_one, Es_append, Es_one, Es_set', eB, eI, eL])) ?_
 refine w_seq ?_
 refine w_run mo (by rw [hN]; decide) fun K hK => ?_
 simp [-guardE_b, -Is_at, -Is_at', -Ls_at, -Ls_at', eL, eI, allInts, eP_Cat, Cat.cells]
 repeat (with_reducible refine And.intro ?_ ?_; · first | assumption | omega | (simp; done) | (simp; omega) | simp_all)
 refine hK _ ?_
 clear hK K
 refine tn ?_
 refine w_weak (st' := ⟨[(1, .val (.int .i64 f_)), (2, .adr 0 0 0), (5, .own 1 0 0)], [(0, .mix 5 [[.val (.int .i64 c_.n), .lst true 1 (Is c_.fr), .lst true 1 (Is c_.to), .lst true 1 (Is c_.id), .lst true 1 (Ls c_.cs)]]), (1, .mix 1 [])], 2⟩) (Wk.rel [(0, 0), (1, 1)] (by simp) (by simp) (by rw [hP]; simp) (by simp) (by simp) (by simp [Cat.cells, Is_append, Is_one, Ls_append, Ls_one, Bs_append, Bs_one, Es_append, Es_one, Es_set', eB, eI, eL]) (by simp [hhOk, back, Cat.cells, Is_append, Is_one, Ls_append, Ls_one, Bs_append, Bs_one, Es_append, Es_one, Es_set', eB, eI, eL])) ?_
 refine w_seq ?_
 refine w_seq ?_
 refine w_run mo (by rw [hN]; decide) fun K hK => ?_
 simp [-guardE_b, -Is_at, -Is_at', -Ls_at, -Ls_at', eL, eI, allInts, eP_Cat, Cat.cells]
 repeat (with_reducible refine And.intro ?_ ?_; · first | assumption | omega | (simp; done) | (simp; omega) | simp_all)
 refine hK _ ?_
 clear hK K
 refine tn ?_
 refine w_weak (st' := ⟨[(1, .val (.int .i64 f_)), (2, .adr 0 0 0), (5, .own 1 0 0), (6, .val (.int .i64 0))], [(0, .mix 5 [[.val (.int .i64 c_.n), .lst true 1 (Is c_.fr), .lst true 1 (Is c_.to), .lst true 1 (Is c_.id), .lst true 1 (Ls c_.cs)]]), (1, .mix 1 [])], 2⟩) (Wk.rel [(0, 0), (1, 1)] (by simp) (by simp) (by rw [hP]; simp) (by simp) (by simp) (by simp [Cat.cells, Is_append, Is_one, Ls_append, Ls_one, Bs_append, Bs_one, Es_append, Es_one, Es_set', eB, eI, eL]) (by simp [hhOk, back, Cat.cells, Is_append, Is_one, Ls_append, Ls_one, Bs_append, Bs_one, Es_append, Es_one, Es_set', eB, eI, eL])) ?_
 replace h := bind_some h
 obtain ⟨e1, h, h1⟩ := h
 refine w_joinT (fun b1 : List Int => ⟨[(5, .own 0 0 b1.length)], [(0, .row 1 (Is b1))], 1⟩) (fun b1 => b1 = e1) ?_ ?_
 · refine w_block ?_
   refine w_loopF h (fun s18 : List Int × Int => ⟨[(1, .val (.int .i64 f_)), (2, .adr 0 0 0), (5, .own 1 0 s18.1.length), (6, .val (.int .i64 s18.2))], [(0, .mix 5 [[.val (.int .i64 c_.n), .lst true 1 (Is c_.fr), .lst true 1 (Is c_.to), .lst true 1 (Is c_.id), .lst true 1 (Ls c_.cs)]]), (1, .row 1 (Is s18.1))], 2⟩) (wk_tr ⟨[(1, .val (.int .i64 f_)), (2, .adr 0 0 0), (5, .own 1 0 0), (6, .val (.int .i64 0))], [(0, .mix 5 [[.val (.int .i64 c_.n), .lst true 1 (Is c_.fr), .lst true 1 (Is c_.to), .lst true 1 (Is c_.id), .lst true 1 (Ls c_.cs)]]), (1, .row 1 (Is []))], 2⟩ (Wk.nils [] (by simp) (by simp) (by simp [nlA]) (by simp [entN, nlL, nlA, Cat.cells, Is_append, Is_one, Ls_append, Ls_one, Bs_append, Bs_one, Es_append, Es_one, Es_set', eB, eI, eL]) (by simp)) (Wk.rel [(0, 0), (1, 1)] (by simp) (by simp) (by rw [hP]; simp) (by simp) (by simp) (by simp [Cat.cells, Is_append, Is_one, Ls_append, Ls_one, Bs_append, Bs_one, Es_append, Es_one, Es_set', eB, eI, eL]) (by simp [hhOk, back, Cat.cells, Is_append, Is_one, Ls_append, Ls_one, Bs_append, Bs_one, Es_append, Es_one, Es_set', eB, eI, eL]))) ?_
   clear h
   intro k18 s18 c18 h hk18
   refine w_seq ?_
   refine w_seq ?_
   refine w_run mo (by rw [hN]; decide) fun K hK => ?_
   simp [-guardE_b, -Is_at, -Is_at', -Ls_at, -Ls_at', eL, eI, allInts, eP_Cat, Cat.cells]
   repeat (with_reducible refine And.intro ?_ ?_; · first | assumption | omega | (simp; done) | (simp; omega) | simp_all)
   refine hK _ ?_
   clear hK K
   refine tn ?_
   refine w_weak (st' := ⟨[(1, .val (.int .i64 f_)), (2, .adr 0 0 0), (5, .own 1 0 s18.1.length), (6, .val (.int .i64 s18.2)), (12, .val (.bool (decide (s18.2 < (c_.fr.length : Int)))))], [(0, .mix 5 [[.val (.int .i64 c_.n), .lst true 1 (Is c_.fr), .lst true 1 (Is c_.to), .lst true 1 (Is c_.id), .lst true 1 (Ls c_.cs)]]), (1, .row 1 (Is s18.1))], 2⟩) (Wk.rel [(0, 0), (1, 1)] (by simp) (by simp) (by rw [hP]; simp) (by simp) (by simp) (by simp [Cat.cells, Is_append, Is_one, Ls_append, Ls_one, Bs_append, Bs_one, Es_append, Es_one, Es_set', eB, eI, eL]) (by simp [hhOk, back, Cat.cells, Is_append, Is_one, Ls_append, Ls_one, Bs_append, Bs_one, Es_append, Es_one, Es_set', eB, eI, eL])) ?_
   refine w_cond rfl (fun g => ?_) fun g => ?_
   · have g19 : s18.2 < (c_.fr.length : Int) := by first | simpa using g | (simp at g; exact g) | (simp at g; omega)
     clear g
     replace h := if_l g19 h
     refine w_skip ?_
     refine tn ?_
     refine w_seq ?_
     replace h := bind_some h
     obtain ⟨e20, h, h20⟩ := h
     refine w_joinT (fun b20 : List Int => ⟨[(1, .val (.int .i64 f_)), (2, .adr 0 0 0), (5, .own 1 0 b20.length), (6, .val (.int .i64 s18.2))], [(0, .mix 5 [[.val (.int .i64 c_.n), .lst true 1 (Is c_.fr), .lst true 1 (Is c_.to), .lst true 1 (Is c_.id), .lst true 1 (Ls c_.cs)]]), (1, .row 1 (Is b20))], 2⟩) (fun b20 => b20 = e20) ?_ ?_
     · refine w_block ?_
       refine w_seq ?_
       replace h := bind_some h
       obtain ⟨e21, h, h21⟩ := h
       refine w_joinT (fun b21 : Bool => ⟨[(1, .val (.int .i64 f_)), (2, .adr 0 0 0), (5, .own 1 0 s18.1.length), (6, .val (.int .i64 s18.2)), (58, .val (.bool b21))], [(0, .mix 5 [[.val (.int .i64 c_.n), .lst true 1 (Is c_.fr), .lst true 1 (Is c_.to), .lst true 1 (Is c_.id), .lst true 1 (Ls c_.cs)]]), (1, .row 1 (Is s18.1))], 2⟩) (fun b21 => b21 = e21) ?_ ?_
       · refine w_run mo (by rw [hN]; decide) fun K hK => ?_
         replace h := ass_some h
         obtain ⟨a22, h⟩ := h
         replace h := ass_some h
         obtain ⟨a23, h⟩ := h
         simp [-guardE_b, -Is_at, -Is_at', -Ls_at, -Ls_at', eL, eI, allInts, eP_Cat, Cat.cells, at_I a22, at_I a23]
         repeat (with_reducible refine And.intro ?_ ?_; · first | assumption | omega | (simp; done) | (simp; omega) | simp_all)
         refine guard_intro (fun g => ?_) (fun g => ?_)
         · have g24 : (ix c_.fr s18.2) = (ix c_.to f_) := by first | simpa using g | (simp at g; exact g) | (simp at g; omega)
           clear g
           replace h := if_l g24 h
           replace h := ass_some h
           obtain ⟨a25, h⟩ := h
           replace h := ass_some h
           obtain ⟨a26, h⟩ := h
           simp [-guardE_b, -Is_at, -Is_at', -Ls_at, -Ls_at', eL, eI, allInts, eP_Cat, Cat.cells, at_I a25, at_I a26]
           repeat (with_reducible refine And.intro ?_ ?_; · first | assumption | omega | (simp; done) | (simp; omega) | simp_all)
           refine guard_intro (fun g => ?_) (fun g => ?_)
           · have g27 : (ix c_.to s18.2) = (ix c_.fr f_) := by first | simpa using g | (simp at g; exact g) | (simp at g; omega)
             clear g
             replace h := if_l g27 h
             replace h := ass_some h
             obtain ⟨a28, h⟩ := h
             replace h := ass_some h
             obtain ⟨a29, h⟩ := h
             replace h := ass_some h
             obtain ⟨a30, h⟩ := h
             replace h := ass_some h
             obtain ⟨a31, h⟩ := h
             simp [-guardE_b, -Is_at, -Is_at', -Ls_at, -Ls_at', eL, eI, allInts, eP_Cat, Cat.cells, at_L a28, at_I a29, at_I a30, at_I a31]
             repeat (with_reducible refine And.intro ?_ ?_; · first | assumption | omega | (simp; done) | (simp; omega) | simp_all)
             refine hK _ ?_
             exact jn (b := (ix (rx c_.cs f_) s18.2) == (ix c_.id (ix c_.fr f_))) (Option.some.inj h) (Wk.rel [(0, 0), (1, 1)] (by simp) (by simp) (by rw [hP]; simp) (by simp) (by simp) (by simp [Cat.cells, Is_append, Is_one, Ls_append, Ls_one, Bs_append, Bs_one, Es_append, Es_one, Es_set', eB, eI, eL]) (by simp [hhOk, back, Cat.cells, Is_append, Is_one, Ls_append, Ls_one, Bs_append, Bs_one, Es_append, Es_one, Es_set', eB, eI, eL]))
           have g27 : ¬ ((ix c_.to s18.2) = (ix c_.fr f_)) := by first | simpa using g | (simp at g; exact g) | (simp at g; omega)
           clear g
           replace h := if_r g27 h
           simp [-guardE_b, -Is_at, -Is_at', -Ls_at, -Ls_at', eL, eI, allInts, eP_Cat, Cat.cells]
           repeat (with_reducible refine And.intro ?_ ?_; · first | assumption | omega | (simp; done) | (simp; omega) | simp_all)
           refine hK _ ?_
           exact jn (b := false) (Option.some.inj h) (Wk.rel [(0, 0), (1, 1)] (by simp) (by simp) (by rw [hP]; simp) (by simp) (by simp) (by simp [Cat.cells, Is_append, Is_one, Ls_append, Ls_one, Bs_append, Bs_one, Es_append, Es_one, Es_set', eB, eI, eL]) (by simp [hhOk, back, Cat.cells, Is_append, Is_one, Ls_append, Ls_one, Bs_append, Bs_one, Es_append, Es_one, Es_set', eB, eI, eL]))
         have g24 : ¬ ((ix c_.fr s18.2) = (ix c_.to f_)) := by first | simpa using g | (simp at g; exact g) | (simp at g; omega)
         clear g
         replace h := if_r g24 h
         simp [-guardE_b, -Is_at, -Is_at', -Ls_at, -Ls_at', eL, eI, allInts, eP_Cat, Cat.cells]
         repeat (with_reducible refine And.intro ?_ ?_; · first | assumption | omega | (simp; done) | (simp; omega) | simp_all)
         refine hK _ ?_
         exact jn (b := false) (Option.some.inj h) (Wk.rel [(0, 0), (1, 1)] (by simp) (by simp) (by rw [hP]; simp) (by simp) (by simp) (by simp [Cat.cells, Is_append, Is_one, Ls_append, Ls_one, Bs_append, Bs_one, Es_append, Es_one, Es_set', eB, eI, eL]) (by simp [hhOk, back, Cat.cells, Is_append, Is_one, Ls_append, Ls_one, Bs_append, Bs_one, Es_append, Es_one, Es_set', eB, eI, eL]))
       intro b21 hb21
       have h := h21
       rw [← hb21] at h
       clear h21
       try dsimp only at h
       refine w_cond rfl (fun g => ?_) fun g => ?_
       · have g32 : b21 = true := by first | simpa using g | (simp at g; exact g) | (simp at g; omega)
         clear g
         replace h := if_l g32 h
         refine w_run mo (by rw [hN]; decide) fun K hK => ?_
         replace h := ass_some h
         obtain ⟨a33, h⟩ := h
         try simp only [List.length_append, List.length_cons, List.length_nil] at a33
         simp [-guardE_b, -Is_at, -Is_at', -Ls_at, -Ls_at', eL, eI, allInts, eP_Cat, Cat.cells, a33]
         repeat (with_reducible refine And.intro ?_ ?_; · first | assumption | omega | (simp; done) | (simp; omega) | simp_all)
         refine hK _ ?_
         clear hK K
         refine bn ?_
         exact jn (b := s18.1 ++ [s18.2]) (Option.some.inj h) (Wk.rel [(0, 0), (3, 1)] (by simp) (by simp) (by rw [hP]; simp) (by simp) (by simp) (by simp [Cat.cells, Is_append, Is_one, Ls_append, Ls_one, Bs_append, Bs_one, Es_append, Es_one, Es_set', eB, eI, eL]) (by simp [hhOk, back, Cat.cells, Is_append, Is_one, Ls_append, Ls_one, Bs_append, Bs_one, Es_append, Es_one, Es_set', eB, eI, eL]))
       have g32 : ¬ (b21 = true) := by first | simpa using g | (simp at g; exact g) | (simp at g; omega)
       clear g
       replace h := if_r g32 h
       refine w_skip ?_
       refine bn ?_
       exact jn (b := s18.1) (Option.some.inj h) (Wk.rel [(0, 0), (1, 1)] (by simp) (by simp) (by rw [hP]; simp) (by simp) (by simp) (by simp [Cat.cells, Is_append, Is_one, Ls_append, Ls_one, Bs_append, Bs_one, Es_append, Es_one, Es_set', eB, eI, eL]) (by simp [hhOk, back, Cat.cells, Is_append, Is_one, Ls_append, Ls_one, Bs_append, Bs_one, Es_append, Es_one, Es_set', eB, eI, eL]))
     intro b20 hb20
     have h := h20
     rw [← hb20] at h
     clear h20
     try dsimp only at h
     refine w_run mo (by rw [hN]; decide) fun K hK => ?_
     replace h := ass_some h
     obtain ⟨a34, h⟩ := h
     simp [-guardE_b, -Is_at, -Is_at', -Ls_at, -Ls_at', eL, eI, allInts, eP_Cat, Cat.cells, wrap_id a34]
     repeat (with_reducible refine And.intro ?_ ?_; · first | assumption | omega | (simp; done) | (simp; omega) | simp_all)
     refine hK _ ?_
     clear hK K
     cases h
     exact rn (s' := (b20, s18.2 + 1)) hk18 (Wk.rel [(0, 0), (1, 1)] (by simp) (by simp) (by rw [hP]; simp) (by simp) (by simp) (by simp [Cat.cells, Is_append, Is_one, Ls_append, Ls_one, Bs_append, Bs_one, Es_append, Es_one, Es_set', eB, eI, eL]) (by simp [hhOk, back, Cat.cells, Is_append, Is_one, Ls_append, Ls_one, Bs_append, Bs_one, Es_append, Es_one, Es_set', eB, eI, eL]))
   have g19 : ¬ (s18.2 < (c_.fr.length : Int)) := by first | simpa using g | (simp at g; exact g) | (simp at g; omega)
   clear g
   replace h := if_r g19 h
   refine w_exit ?_
   refine tx ?_
   refine lx ?_
   refine bh ?_
   cases h
   exact jn (b := s18.1) hk18 (Wk.rel [(1, 0)] (by simp) (by simp) (by rw [hP]; simp) (by simp) (by simp) (by simp [Cat.cells, Is_append, Is_one, Ls_append, Ls_one, Bs_append, Bs_one, Es_append, Es_one, Es_set', eB, eI, eL]) (by simp [hhOk, back, Cat.cells, Is_append, Is_one, Ls_append, Ls_one, Bs_append, Bs_one, Es_append, Es_one, Es_set', eB, eI, eL]))
 intro b1 hb1
 have h := h1
 rw [← hb1] at h
 clear h1
 try dsimp only at h
 refine w_seq ?_
 refine w_run mo (by rw [hN]; decide) fun K hK => ?_
 simp [-guardE_b, -Is_at, -Is_at', -Ls_at, -Ls_at', eL, eI, allInts, eP_Cat, Cat.cells]
 repeat (with_reducible refine And.intro ?_ ?_; · first | assumption | omega | (simp; done) | (simp; omega) | simp_all)
 refine hK _ ?_
 clear hK K
 refine tn ?_
 refine w_weak (st' := ⟨[(4, .own 0 0 b1.length)], [(0, .row 1 (Is b1))], 1⟩) (Wk.rel [(0, 0)] (by simp) (by simp) (by rw [hP]; simp) (by simp) (by simp) (by simp [Cat.cells, Is_append, Is_one, Ls_append, Ls_one, Bs_append, Bs_one, Es_append, Es_one, Es_set', eB, eI, eL]) (by simp [hhOk, back, Cat.cells, Is_append, Is_one, Ls_append, Ls_one, Bs_append, Bs_one, Es_append, Es_one, Es_set', eB, eI, eL])) ?_
 refine w_ret ?_
 have hr := Option.some.inj h
 rw [← hr]
 refine ⟨_, (.tmp .nil), ?_⟩
 refine ⟨(.one rfl rfl .nil), [.lst true 1 (Is b1)], [0], by simp [Cat.cells, Is_append, Is_one, Ls_append, Ls_one, Bs_append, Bs_one, Es_append, Es_one, Es_set', eB, eI, eL], by simp, (UpL.refl _)⟩
end Go.Vc.T

set_option maxRecDepth 100000
set_option linter.unusedSimpArgs false
set_option linter.unusedVariables false
namespace Go.Vc.T
open Go Go.Vc Go.Proofs
noncomputable def s_s_l05Sections (c_ : Cat) (f_ : Int) : Option (List Int) :=
 (loopF (σ := List Int × Int) (ε := List Int) (fun s18 =>
   if s18.2 < (c_.fr.length : Int) then
     (
       (
         ass (0 ≤ s18.2 ∧ s18.2 < (c_.fr.length : Int)) <|
         ass (0 ≤ f_ ∧ f_ < (c_.to.length : Int)) <|
         if (ix c_.fr s18.2) = (ix c_.to f_) then
           ass (0 ≤ s18.2 ∧ s18.2 < (c_.to.length : Int)) <|
           ass (0 ≤ f_ ∧ f_ < (c_.fr.length : Int)) <|
           if (ix c_.to s18.2) = (ix c_.fr f_) then
             ass (0 ≤ s18.2 ∧ s18.2 < (c_.cs.length : Int)) <|
             ass (0 ≤ f_ ∧ f_ < ((rx c_.cs s18.2).length : Int)) <|
             ass (0 ≤ f_ ∧ f_ < (c_.to.length : Int)) <|
             ass (0 ≤ ix c_.to f_ ∧ ix c_.to f_ < (c_.id.length : Int)) <|
             some ((ix (rx c_.cs s18.2) f_) == (ix c_.id (ix c_.to f_)))
           else
             some false
         else
           some false : Option (Bool)).bind fun b21 =>
       if b21 = true then
         ass ((s18.1 ++ [s18.2]).length ≤ 1073741824) <|
         some (s18.1 ++ [s18.2])
       else
         some s18.1 : Option (List Int)).bind fun b20 =>
     ass (B64 (s18.2 + 1)) <|
     some (Ctl.next (b20, s18.2 + 1))
   else
     some (Ctl.ret s18.1)) fuel ([], 0)).bind fun b1 =>
 some b1
set_option maxHeartbeats 4000000 in
theorem w_s_l05Sections (c_ : Cat) (f_ : Int) (r : List Int) (h : s_s_l05Sections c_ f_ = some r) : Contract Try.prog 234 [.agg (c_.cells true), .val (.int .i64 f_)] (.lst true 1 (Is r)) := by
 refine contract_introG (rvs := [.tmp 4]) (rs := [.lst true 1 (Is r)]) Try.func234 rfl rfl rfl rfl (by simp [Try.f234]) fun F hN hP => ?_
 unfold s_s_l05Sections at h
 refine w_seq ?_
 refine w_run mo (by rw [hN]; decide) fun K hK => ?_
 simp [-guardE_b, -Is_at, -Is_at', -Ls_at, -Ls_at', eL, eI, allInts, eP_Cat, Cat.cells]
 repeat (with_reducible refine And.intro ?_ ?_; · first | assumption | omega | (simp; done) | (simp; omega) | simp_all)
 refine hK _ ?_
 clear hK K
 refine tn ?_
 refine w_weak (st' := ⟨[(1, .val (.int .i64 f_)), (2, .adr 0 0 0)], [(0, .mix 5 [[.val (.int .i64 c_.n), .lst true 1 (Is c_.fr), .lst true 1 (Is c_.to), .lst true 1 (Is c_.id), .lst true 1 (Ls c_.cs)]])], 1⟩) (Wk.rel [(0, 0)] (by simp) (by simp) (by rw [hP]; simp) (by simp) (by simp) (by simp [Cat.cells, Is_append, Is_one, Ls_append, Ls_one, Bs_append, Bs_one, Es_append, Es_one, Es_set', eB, eI, eL]) (by simp [hhOk, back, Cat.cells, Is_append, Is_one, Ls_append, Ls_one, Bs_append, Bs_one, Es_append, Es_one, Es_set', eB, eI, eL])) ?_
 refine w_seq ?_
 refine w_run mo (by rw [hN]; decide) fun K hK => ?_
 simp [-guardE_b, -Is_at, -Is_at', -Ls_at, -Ls_at', eL, eI, allInts, eP_Cat, Cat.cells]
 repeat (with_reducible refine And.intro ?_ ?_; · first | assumption | omega | (simp; done) | (simp; omega) | simp_all)
 refine hK _ ?_
 clear hK K
 refine tn ?_
 refine w_weak (st' := ⟨[(1, .val (.int .i64 f_)), (2, .adr 0 0 0), (5, .own 1 0 0)], [(0, .mix 5 [[.val (.int .i64 c_.n), .lst true 1 (Is c_.fr), .lst true 1 (Is c_.to), .lst true 1 (Is c_.id), .lst true 1 (Ls c_.cs)]]), (1, .mix 1 [])], 2⟩) (Wk.rel [(0, 0), (1, 1)] (by simp) (by simp) (by rw [hP]; simp) (by simp) (by simp) (by simp [Cat.cells, Is_append, Is_one, Ls_append, Ls_one, Bs_append, Bs_one, Es_append, Es_one, Es_set', eB, eI, eL]) (by simp [hhOk, back, Cat.cells, Is_append, Is_one, Ls_append, Ls_one, Bs_append, Bs_one, Es_append, Es_one, Es_set', eB, eI, eL])) ?_
 refine w_seq ?_
 refine w_seq ?_
 refine w_run mo (by rw [hN]; decide) fun K hK => ?_
 simp [-guardE_b, -Is_at, -Is_at', -Ls_at, -Ls_at', eL, eI, allInts, eP_Cat, Cat.cells]
 repeat (with_reducible refine And.intro ?_ ?_; · first | assumption | omega | (simp; done) | (simp; omega) | simp_all)
 refine hK _ ?_
 clear hK K
 refine tn ?_
 refine w_weak (st' := ⟨[(1, .val (.int .i64 f_)), (2, .adr 0 0 0), (5, .own 1 0 0), (6, .val (.int .i64 0))], [(0, .mix 5 [[.val (.int .i64 c_.n), .lst true 1 (Is c_.fr), .lst true 1 (Is c_.to), .lst true 1 (Is c_.id), .lst true 1 (Ls c_.cs)]]), (1, .mix 1 [])], 2⟩) (Wk.rel [(0, 0), (1, 1)] (by simp) (by simp) (by rw [hP]; simp) (by simp) (by simp) (by simp [Cat.cells, Is_append, Is_one, Ls_append, Ls_one, Bs_append, Bs_one, Es_append, Es_one, Es_set', eB, eI, eL]) (by simp [hhOk, back, Cat.cells, Is_append, Is_one, Ls_append, Ls_one, Bs_append, Bs_one, Es_append, Es_one, Es_set', eB, eI, eL])) ?_
 replace h := bind_some h
 obtain ⟨e1, h, h1⟩ := h
 refine w_joinT (fun b1 : List Int => ⟨[(5, .own 0 0 b1.length)], [(0, .row 1 (Is b1))], 1⟩) (fun b1 => b1 = e1) ?_ ?_
 · refine w_block ?_
   refine w_loopF h (fun s18 : List Int × Int => ⟨[(1, .val (.int .i64 f_)), (2, .adr 0 0 0), (5, .own 1 0 s18.1.length), (6, .val (.int .i64 s18.2))], [(0, .mix 5 [[.val (.int .i64 c_.n), .lst true 1 (Is c_.fr), .lst true 1 (Is c_.to), .lst true 1 (Is c_.id), .lst true 1 (Ls c_.cs)]]), (1, .row 1 (Is s18.1))], 2⟩) (wk_tr ⟨[(1, .val (.int .i64 f_)), (2, .adr 0 0 0), (5, .own 1 0 0), (6, .val (.int .i64 0))], [(0, .mix 5 [[.val (.int .i64 c_.n), .lst true 1 (Is c_.fr), .lst true 1 (Is c_.to), .lst true 1 (Is c_.id), .lst true 1 (Ls c_.cs)]]), (1, .row 1 (Is []))], 2⟩ (Wk.nils [] (by simp) (by simp) (by simp [nlA]) (by simp [entN, nlL, nlA, Cat.cells, Is_append, Is_one, Ls_append, Ls_one, Bs_append, Bs_one, Es_append, Es_one, Es_set', eB, eI, eL]) (by simp)) (Wk.rel [(0, 0), (1, 1)] (by simp) (by simp) (by rw [hP]; simp) (by simp) (by simp) (by simp [Cat.cells, Is_append, Is_one, Ls_append, Ls_one, Bs_append, Bs_one, Es_append, Es_one, Es_set', eB, eI, eL]) (by simp [hhOk, back, Cat.cells, Is_append, Is_one, Ls_append, Ls_one, Bs_append, Bs_one, Es_append, Es_one, Es_set', eB, eI, eL]))) ?_
   clear h
   intro k18 s18 c18 h hk18
   refine w_seq ?_
   refine w_seq ?_
   refine w_run mo (by rw [hN]; decide) fun K hK => ?_
   simp [-guardE_b, -Is_at, -Is_at', -Ls_at, -Ls_at', eL, eI, allInts, eP_Cat, Cat.cells]
   repeat (with_reducible refine And.intro ?_ ?_; · first | assumption | omega | (simp; done) | (simp; omega) | simp_all)
   refine hK _ ?_
   clear hK K
   refine tn ?_
   refine w_weak (st' := ⟨[(1, .val (.int .i64 f_)), (2, .adr 0 0 0), (5, .own 1 0 s18.1.length), (6, .val (.int .i64 s18.2)), (12, .val (.bool (decide (s18.2 < (c_.fr.length : Int)))))], [(0, .mix 5 [[.val (.int .i64 c_.n), .lst true 1 (Is c_.fr), .lst true 1 (Is c_.to), .lst true 1 (Is c_.id), .lst true 1 (Ls c_.cs)]]), (1, .row 1 (Is s18.1))], 2⟩) (Wk.rel [(0, 0), (1, 1)] (by simp) (by simp) (by rw [hP]; simp) (by simp) (by simp) (by simp [Cat.cells, Is_append, Is_one, Ls_append, Ls_one, Bs_append, Bs_one, Es_append, Es_one, Es_set', eB, eI, eL]) (by simp [hhOk, back, Cat.cells, Is_append, Is_one, Ls_append, Ls_one, Bs_append, Bs_one, Es_append, Es_one, Es_set', eB, eI, eL])) ?_
   refine w_cond rfl (fun g => ?_) fun g => ?_
   · have g19 : s18.2 < (c_.fr.length : Int) := by first | simpa using g | (simp at g; exact g) | (simp at g; omega)
     clear g
     replace h := if_l g19 h
     refine w_skip ?_
     refine tn ?_
     refine w_seq ?_
     replace h := bind_some h
     obtain ⟨e20, h, h20⟩ := h
     refine w_joinT (fun b20 : List Int => ⟨[(1, .val (.int .i64 f_)), (2, .adr 0 0 0), (5, .own 1 0 b20.length), (6, .val (.int .i64 s18.2))], [(0, .mix 5 [[.val (.int .i64 c_.n), .lst true 1 (Is c_.fr), .lst true 1 (Is c_.to), .lst true 1 (Is c_.id), .lst true 1 (Ls c_.cs)]]), (1, .row 1 (Is b20))], 2⟩) (fun b20 => b20 = e20) ?_ ?_
     · refine w_block ?_
       refine w_seq ?_
       replace h := bind_some h
       obtain ⟨e21, h, h21⟩ := h
       refine w_joinT (fun b21 : Bool => ⟨[(1, .val (.int .i64 f_)), (2, .adr 0 0 0), (5, .own 1 0 s18.1.length), (6, .val (.int .i64 s18.2)), (58, .val (.bool b21))], [(0, .mix 5 [[.val (.int .i64 c_.n), .lst true 1 (Is c_.fr), .lst true 1 (Is c_.to), .lst true 1 (Is c_.id), .lst true 1 (Ls c_.cs)]]), (1, .row 1 (Is s18.1))], 2⟩) (fun b21 => b21 = e21) ?_ ?_
       · refine w_run mo (by rw [hN]; decide) fun K hK => ?_
         replace h := ass_some h
         obtain ⟨a22, h⟩ := h
         replace h := ass_some h
         obtain ⟨a23, h⟩ := h
         simp [-guardE_b, -Is_at, -Is_at', -Ls_at, -Ls_at', eL, eI, allInts, eP_Cat, Cat.cells, at_I a22, at_I a23]
         repeat (with_reducible refine And.intro ?_ ?_; · first | assumption | omega | (simp; done) | (simp; omega) | simp_all)
         refine guard_intro (fun g => ?_) (fun g => ?_)
         · have g24 : (ix c_.fr s18.2) = (ix c_.to f_) := by first | simpa using g | (simp at g; exact g) | (simp at g; omega)
           clear g
           replace h := if_l g24 h
           replace h := ass_some h
           obtain ⟨a25, h⟩ := h
           replace h := ass_some h
           obtain ⟨a26, h⟩ := h
           simp [-guardE_b, -Is_at, -Is_at', -Ls_at, -Ls_at', eL, eI, allInts, eP_Cat, Cat.cells, at_I a25, at_I a26]
           repeat (with_reducible refine And.intro ?_ ?_; · first | assumption | omega | (simp; done) | (simp; omega) | simp_all)
           refine guard_intro (fun g => ?_) (fun g => ?_)
           · have g27 : (ix c_.to s18.2) = (ix c_.fr f_) := by first | simpa using g | (simp at g; exact g) | (simp at g; omega)
             clear g
             replace h := if_l g27 h
             replace h := ass_some h
             obtain ⟨a28, h⟩ := h
             replace h := ass_some h
             obtain ⟨a29, h⟩ := h
             replace h := ass_some h
             obtain ⟨a30, h⟩ := h
             replace h := ass_some h
             obtain ⟨a31, h⟩ := h
             simp [-guardE_b, -Is_at, -Is_at', -Ls_at, -Ls_at', eL, eI, allInts, eP_Cat, Cat.cells, at_L a28, at_I a29, at_I a30, at_I a31]
             repeat (with_reducible refine And.intro ?_ ?_; · first | assumption | omega | (simp; done) | (simp; omega) | simp_all)
             refine hK _ ?_
             exact jn (b := (ix (rx c_.cs s18.2) f_) == (ix c_.id (ix c_.to f_))) (Option.some.inj h) (Wk.rel [(0, 0), (1, 1)] (by simp) (by simp) (by rw [hP]; simp) (by simp) (by simp) (by simp [Cat.cells, Is_append, Is_one, Ls_append, Ls_one, Bs_append, Bs_one, Es_append, Es_one, Es_set', eB, eI, eL]) (by simp [hhOk, back, Cat.cells, Is_append, Is_one, Ls_append, Ls_one, Bs_append, Bs_one, Es_append, Es_one, Es_set', eB, eI, eL]))
           have g27 : ¬ ((ix c_.to s18.2) = (ix c_.fr f_)) := by first | simpa using g | (simp at g; exact g) | (simp at g; omega)
           clear g
           replace h := if_r g27 h
           simp [-guardE_b, -Is_at, -Is_at', -Ls_at, -Ls_at', eL, eI, allInts, eP_Cat, Cat.cells]
           repeat (with_reducible refine And.intro ?_ ?_; · first | assumption | omega | (simp; done) | (simp; omega) | simp_all)
           refine hK _ ?_
           exact jn (b := false) (Option.some.inj h) (Wk.rel [(0, 0), (1, 1)] (by simp) (by simp) (by rw [hP]; simp) (by simp) (by simp) (by simp [Cat.cells, Is_append, Is_one, Ls_append, Ls_one, Bs_append, Bs_one, Es_append, Es_one, Es_set', eB, eI, eL]) (by simp [hhOk, back, Cat.cells, Is_append, Is_one, Ls_append, Ls_one, Bs_append, Bs_one, Es_append, Es_one, Es_set', eB, eI, eL]))
         have g24 : ¬ ((ix c_.fr s18.2) = (ix c_.to f_)) := by first | simpa using g | (simp at g; exact g) | (simp at g; omega)
         clear g
         replace h := if_r g24 h
         simp [-guardE_b, -Is_at, -Is_at', -Ls_at, -Ls_at', eL, eI, allInts, eP_Cat, Cat.cells]
         repeat (with_reducible refine And.intro ?_ ?_; · first | assumption | omega | (simp; done) | (simp; omega) | simp_all)
         refine hK _ ?_
         exact jn (b := false) (Option.some.inj h) (Wk.rel [(0, 0), (1, 1)] (by simp) (by simp) (by rw [hP]; simp) (by simp) (by simp) (by simp [Cat.cells, Is_append, Is_one, Ls_append, Ls_one, Bs_append, Bs_one, Es_append, Es_one, Es_set', eB, eI, eL]) (by simp [hhOk, back, Cat.cells, Is_append, Is_one, Ls_append, Ls_one, Bs_append, Bs_one, Es_append, Es_one, Es_set', eB, eI, eL]))
       intro b21 hb21
       have h := h21
       rw [← hb21] at h
       clear h21
       try dsimp only at h
       refine w_cond rfl (fun g => ?_) fun g => ?_
       · have g32 : b21 = true := by first | simpa using g | (simp at g; exact g) | (simp at g; omega)
         clear g
         replace h := if_l g32 h
         refine w_run mo (by rw [hN]; decide) fun K hK => ?_
         replace h := ass_some h
         obtain ⟨a33, h⟩ := h
         try simp only [List.length_append, List.length_cons, List.length_nil] at a33
         simp [-guardE_b, -Is_at, -Is_at', -Ls_at, -Ls_at', eL, eI, allInts, eP_Cat, Cat.cells, a33]
         repeat (with_reducible refine And.intro ?_ ?_; · first | assumption | omega | (simp; done) | (simp; omega) | simp_all)
         refine hK _ ?_
         clear hK K
         refine bn ?_
         exact jn (b := s18.1 ++ [s18.2]) (Option.some.inj h) (Wk.rel [(0, 0), (3, 1)] (by simp) (by simp) (by rw [hP]; simp) (by simp) (by simp) (by simp [Cat.cells, Is_append, Is_one, Ls_append, Ls_one, Bs_append, Bs_one, Es_append, Es_one, Es_set', eB, eI, eL]) (by simp [hhOk, back, Cat.cells, Is_append, Is_one, Ls_append, Ls_one, Bs_append, Bs_one, Es_append, Es_one, Es_set', eB, eI, eL]))
       have g32 : ¬ (b21 = true) := by first | simpa using g | (simp at g; exact g) | (simp at g; omega)
       clear g
       replace h := if_r g32 h
       refine w_skip ?_
       refine bn ?_
       exact jn (b := s18.1) (Option.some.inj h) (Wk.rel [(0, 0), (1, 1)] (by simp) (by simp) (by rw [hP]; simp) (by simp) (by simp) (by simp [Cat.cells, Is_append, Is_one, Ls_append, Ls_one, Bs_append, Bs_one, Es_append, Es_one, Es_set', eB, eI, eL]) (by simp [hhOk, back, Cat.cells, Is_append, Is_one, Ls_append, Ls_one, Bs_append, Bs_one, Es_append, Es_one, Es_set', eB, eI, eL]))
     intro b20 hb20
     have h := h20
     rw [← hb20] at h
     clear h20
     try dsimp only at h
     refine w_run mo (by rw [hN]; decide) fun K hK => ?_
     replace h := ass_some h
     obtain ⟨a34, h⟩ := h
     simp [-guardE_b, -Is_at, -Is_at', -Ls_at, -Ls_at', eL, eI, allInts, eP_Cat, Cat.cells, wrap_id a34]
     repeat (with_reducible refine And.intro ?_ ?_; · first | assumption | omega | (simp; done) | (simp; omega) | simp_all)
     refine hK _ ?_
     clear hK K
     cases h
     exact rn (s' := (b20, s18.2 + 1)) hk18 (Wk.rel [(0, 0), (1, 1)] (by simp) (by simp) (by rw [hP]; simp) (by simp) (by simp) (by simp [Cat.cells, Is_append, Is_one, Ls_append, Ls_one, Bs_append, Bs_one, Es_append, Es_one, Es_set', eB, eI, eL]) (by simp [hhOk, back, Cat.cells, Is_append, Is_one, Ls_append, Ls_one, Bs_append, Bs_one, Es_append, Es_one, Es_set', eB, eI, eL]))
   have g19 : ¬ (s18.2 < (c_.fr.length : Int)) := by first | simpa using g | (simp at g; exact g) | (simp at g; omega)
   clear g
   replace h := if_r g19 h
   refine w_exit ?_
   refine tx ?_
   refine lx ?_
   refine bh ?_
   cases h
   exact jn (b := s18.1) hk18 (Wk.rel [(1, 0)] (by simp) (by simp) (by rw [hP]; simp) (by simp) (by simp) (by simp [Cat.cells, Is_append, Is_one, Ls_append, Ls_one, Bs_append, Bs_one, Es_append, Es_one, Es_set', eB, eI, eL]) (by simp [hhOk, back, Cat.cells, Is_append, Is_one, Ls_append, Ls_one, Bs_append, Bs_one, Es_append, Es_one, Es_set', eB, eI, eL]))
 intro b1 hb1
 have h := h1
 rw [← hb1] at h
 clear h1
 try dsimp only at h
 refine w_seq ?_
 refine w_run mo (by rw [hN]; decide) fun K hK => ?_
 simp [-guardE_b, -Is_at, -Is_at', -Ls_at, -Ls_at', eL, eI, allInts, eP_Cat, Cat.cells]
 repeat (with_reducible refine And.intro ?_ ?_; · first | assumption | omega | (simp; done) | (simp; omega) | simp_all)
 refine hK _ ?_
 clear hK K
 refine tn ?_
 refine w_weak (st' := ⟨[(4, .own 0 0 b1.length)], [(0, .row 1 (Is b1))], 1⟩) (Wk.rel [(0, 0)] (by simp) (by simp) (by rw [hP]; simp) (by simp) (by simp) (by simp [Cat.cells, Is_append, Is_one, Ls_append, Ls_one, Bs_append, Bs_one, Es_append, Es_one, Es_set', eB, eI, eL]) (by simp [hhOk, back, Cat.cells, Is_append, Is_one, Ls_append, Ls_one, Bs_append, Bs_one, Es_append, Es_one, Es_set', eB, eI, eL])) ?_
 refine w_ret ?_
 have hr := Option.some.inj h
 rw [← hr]
 refine ⟨_, (.tmp .nil), ?_⟩
 refine ⟨(.one rfl rfl .nil), [.lst true 1 (Is b1)], [0], by simp [Cat.cells, Is_append, Is_one, Ls_append, Ls_one, Bs_append, Bs_one, Es_append, Es_one, Es_set', eB, eI, eL], by simp, (UpL.refl _)⟩
noncomputable def s_i_parallelFunctors (f_ : Fn) (g_ : Fn) : Option Bool :=
 (
   (s_i_sameCategory f_.s g_.s).bind fun v2 =>
   if v2 = true then
     (s_i_sameCategory f_.t g_.t).bind fun v4 =>
     some v4
   else
     some false : Option (Bool)).bind fun b1 =>
 some b1
set_option maxHeartbeats 4000000 in
theorem w_i_parallelFunctors (f_ : Fn) (g_ : Fn) (r : Bool) (h : s_i_parallelFunctors f_ g_ = some r) : Contract Try.prog 236 [.rptr (f_.cells true), .rptr (g_.cells true)] (.val (.bool r)) := by
 refine contract_introG (rvs := [.tmp 4]) (rs := [.val (.bool r)]) Try.func236 rfl rfl rfl rfl (by simp [Try.f236]) fun F hN hP => ?_
 unfold s_i_parallelFunctors at h
 refine w_seq ?_
 refine w_run mo (by rw [hN]; decide) fun K hK => ?_
 simp [-guardE_b, -Is_at, -Is_at', -Ls_at, -Ls_at', eL, eI, allInts, eP_Cat, eP_Fn, Cat.cells, Fn.cells]
 repeat (with_reducible refine And.intro ?_ ?_; · first | assumption | omega | (simp; done) | (simp; omega) | simp_all)
 refine hK _ ?_
 clear hK K
 refine tn ?_
 refine w_weak (st' := ⟨[(0, .rptr [.val (.int .i64 f_.s.n), .lst true 1 (Is f_.s.fr), .lst true 1 (Is f_.s.to), .lst true 1 (Is f_.s.id), .lst true 1 (Ls f_.s.cs), .val (.int .i64 f_.t.n), .lst true 1 (Is f_.t.fr), .lst true 1 (Is f_.t.to), .lst true 1 (Is f_.t.id), .lst true 1 (Ls f_.t.cs), .lst true 1 (Is f_.ob), .lst true 1 (Is f_.ar)]), (1, .rptr [.val (.int .i64 g_.s.n), .lst true 1 (Is g_.s.fr), .lst true 1 (Is g_.s.to), .lst true 1 (Is g_.s.id), .lst true 1 (Ls g_.s.cs), .val (.int .i64 g_.t.n), .lst true 1 (Is g_.t.fr), .lst true 1 (Is g_.t.to), .lst true 1 (Is g_.t.id), .lst true 1 (Ls g_.t.cs), .lst true 1 (Is g_.ob), .lst true 1 (Is g_.ar)])], [], 0⟩) (Wk.rel [] (by simp) (by simp) (by rw [hP]; simp) (by simp) (by simp) (by simp [Cat.cells, Fn.cells, Is_append, Is_one, Ls_append, Ls_one, Bs_append, Bs_one, Es_append, Es_one, Es_set', eB, eI, eL]) (by simp [hhOk, back, Cat.cells, Fn.cells, Is_append, Is_one, Ls_append, Ls_one, Bs_append, Bs_one, Es_append, Es_one, Es_set', eB, eI, eL])) ?_
 refine w_seq ?_
 replace h := bind_some h
 obtain ⟨e1, h, h1⟩ := h
 refine w_joinT (fun b1 : Bool => ⟨[(4, .val (.bool b1))], [], 0⟩) (fun b1 => b1 = e1) ?_ ?_
 · refine w_run mo (by rw [hN]; decide) fun K hK => ?_
   simp [-guardE_b, -Is_at, -Is_at', -Ls_at, -Ls_at', eL, eI, allInts, eP_Cat, eP_Fn, Cat.cells, Fn.cells]
   repeat (with_reducible refine And.intro ?_ ?_; · first | assumption | omega | (simp; done) | (simp; omega) | simp_all)
   replace h := bind_some h
   obtain ⟨v2, hv2, h⟩ := h
   refine callA_intro (w_i_sameCategory _ _ v2 hv2) (.cons (.preT (by simp [Cat.cells, Fn.cells])) (.cons (.preT (by simp [Cat.cells, Fn.cells])) .nil)) ?_
   simp [-guardE_b, -Is_at, -Is_at', -Ls_at, -Ls_at', unk, unA, unE, unT, unC, flat, eL, eI, allInts, eP_Cat, eP_Fn, Cat.cells, Fn.cells]
   repeat (with_reducible refine And.intro ?_ ?_; · first | assumption | omega | (simp; done) | (simp; omega) | simp_all)
   refine guard_intro (fun g => ?_) (fun g => ?_)
   · have g3 : v2 = true := by first | simpa using g | (simp at g; exact g) | (simp at g; omega)
     clear g
     replace h := if_l g3 h
     simp [-guardE_b, -Is_at, -Is_at', -Ls_at, -Ls_at', eL, eI, allInts, eP_Cat, eP_Fn, Cat.cells, Fn.cells]
     repeat (with_reducible refine And.intro ?_ ?_; · first | assumption | omega | (simp; done) | (simp; omega) | simp_all)
     replace h := bind_some h
     obtain ⟨v4, hv4, h⟩ := h
     refine callA_intro (w_i_sameCategory _ _ v4 hv4) (.cons (.preT (by simp [Cat.cells, Fn.cells])) (.cons (.preT (by simp [Cat.cells, Fn.cells])) .nil)) ?_
     simp [-guardE_b, -Is_at, -Is_at', -Ls_at, -Ls_at', unk, unA, unE, unT, unC, flat, eL, eI, allInts, eP_Cat, eP_Fn, Cat.cells, Fn.cells]
     repeat (with_reducible refine And.intro ?_ ?_; · first | assumption | omega | (simp; done) | (simp; omega) | simp_all)
     refine hK _ ?_
     exact jn (b := v4) (Option.some.inj h) (Wk.rel [] (by simp) (by simp) (by rw [hP]; simp) (by simp) (by simp) (by simp [Cat.cells, Fn.cells, Is_append, Is_one, Ls_append, Ls_one, Bs_append, Bs_one, Es_append, Es_one, Es_set', eB, eI, eL]) (by simp [hhOk, back, Cat.cells, Fn.cells, Is_append, Is_one, Ls_append, Ls_one, Bs_append, Bs_one, Es_append, Es_one, Es_set', eB, eI, eL]))
   have g3 : ¬ (v2 = true) := by first | simpa using g | (simp at g; exact g) | (simp at g; omega)
   clear g
   replace h := if_r g3 h
   simp [-guardE_b, -Is_at, -Is_at', -Ls_at, -Ls_at', eL, eI, allInts, eP_Cat, eP_Fn, Cat.cells, Fn.cells]
   repeat (with_reducible refine And.intro ?_ ?_; · first | assumption | omega | (simp; done) | (simp; omega) | simp_all)
   refine hK _ ?_
   exact jn (b := false) (Option.some.inj h) (Wk.rel [] (by simp) (by simp) (by rw [hP]; simp) (by simp) (by simp) (by simp [Cat.cells, Fn.cells, Is_append, Is_one, Ls_append, Ls_one, Bs_append, Bs_one, Es_append, Es_one, Es_set', eB, eI, eL]) (by simp [hhOk, back, Cat.cells, Fn.cells, Is_append, Is_one, Ls_append, Ls_one, Bs_append, Bs_one, Es_append, Es_one, Es_set', eB, eI, eL]))
 intro b1 hb1
 have h := h1
 rw [← hb1] at h
 clear h1
 try dsimp only at h
 refine w_ret ?_
 have hr := Option.some.inj h
 rw [← hr]
 refine ⟨_, (.tmp .nil), ?_⟩
 refine ⟨(.one rfl rfl .nil), [.val (.bool b1)], [], by simp [Cat.cells, Fn.cells, Is_append, Is_one, Ls_append, Ls_one, Bs_append, Bs_one, Es_append, Es_one, Es_set', eB, eI, eL], by simp, (UpL.refl _)⟩
end Go.Vc.T

set_option maxRecDepth 100000
set_option linter.unusedSimpArgs false
set_option linter.unusedVariables false
namespace Go.Vc.T
open Go Go.Vc Go.Proofs
noncomputable def s_s_l07Shape (t_ : Tra) : Option Bool :=
 (
   (s_s_l06Is t_.s).bind fun v2 =>
   if v2 = true then
     (s_s_l06Is t_.t).bind fun v4 =>
     if v4 = true then
       (s_s_l07Parallel t_.s t_.t).bind fun v6 =>
       if v6 = true then
         (s_s_l07Ends t_.s t_.t t_.p).bind fun v8 =>
         some v8
       else
         some false
     else
       some false
   else
     some false : Option (Bool)).bind fun b1 =>
 some b1
set_option maxHeartbeats 4000000 in
theorem w_s_l07Shape (t_ : Tra) (r : Bool) (h : s_s_l07Shape t_ = some r) : Contract Try.prog 180 [.agg (t_.cells true)] (.val (.bool r)) := by
 refine contract_introG (rvs := [.tmp 2]) (rs := [.val (.bool r)]) Try.func180 rfl rfl rfl rfl (by simp [Try.f180]) fun F hN hP => ?_
 unfold s_s_l07Shape at h
 refine w_seq ?_
 refine w_run mo (by rw [hN]; decide) fun K hK => ?_
 simp [-guardE_b, -Is_at, -Is_at', -Ls_at, -Ls_at', eL, eI, allInts, eP_Fn, eP_Tra, Fn.cells, Tra.cells]
 repeat (with_reducible refine And.intro ?_ ?_; · first | assumption | omega | (simp; done) | (simp; omega) | simp_all)
 refine hK _ ?_
 clear hK K
 refine tn ?_
 refine w_weak (st' := ⟨[(1, .adr 0 0 0)], [(0, .mix 25 [[.val (.int .i64 t_.s.s.n), .lst true 1 (Is t_.s.s.fr), .lst true 1 (Is t_.s.s.to), .lst true 1 (Is t_.s.s.id), .lst true 1 (Ls t_.s.s.cs), .val (.int .i64 t_.s.t.n), .lst true 1 (Is t_.s.t.fr), .lst true 1 (Is t_.s.t.to), .lst true 1 (Is t_.s.t.id), .lst true 1 (Ls t_.s.t.cs), .lst true 1 (Is t_.s.ob), .lst true 1 (Is t_.s.ar), .val (.int .i64 t_.t.s.n), .lst true 1 (Is t_.t.s.fr), .lst true 1 (Is t_.t.s.to), .lst true 1 (Is t_.t.s.id), .lst true 1 (Ls t_.t.s.cs), .val (.int .i64 t_.t.t.n), .lst true 1 (Is t_.t.t.fr), .lst true 1 (Is t_.t.t.to), .lst true 1 (Is t_.t.t.id), .lst true 1 (Ls t_.t.t.cs), .lst true 1 (Is t_.t.ob), .lst true 1 (Is t_.t.ar), .lst true 1 (Is t_.p)]])], 1⟩) (Wk.rel [(0, 0)] (by simp) (by simp) (by rw [hP]; simp) (by simp) (by simp) (by simp [Fn.cells, Tra.cells, Is_append, Is_one, Ls_append, Ls_one, Bs_append, Bs_one, Es_append, Es_one, Es_set', eB, eI, eL]) (by simp [hhOk, back, Fn.cells, Tra.cells, Is_append, Is_one, Ls_append, Ls_one, Bs_append, Bs_one, Es_append, Es_one, Es_set', eB, eI, eL])) ?_
 refine w_seq ?_
 replace h := bind_some h
 obtain ⟨e1, h, h1⟩ := h
 refine w_joinT (fun b1 : Bool => ⟨[(2, .val (.bool b1))], [], 0⟩) (fun b1 => b1 = e1) ?_ ?_
 · refine w_run mo (by rw [hN]; decide) fun K hK => ?_
   simp [-guardE_b, -Is_at, -Is_at', -Ls_at, -Ls_at', eL, eI, allInts, eP_Fn, eP_Tra, Fn.cells, Tra.cells]
   repeat (with_reducible refine And.intro ?_ ?_; · first | assumption | omega | (simp; done) | (simp; omega) | simp_all)
   replace h := bind_some h
   obtain ⟨v2, hv2, h⟩ := h
   refine callA_intro (w_s_l06Is _ v2 hv2) (.cons (.aggL (.cons .val (.cons .lst (.cons .lst (.cons .lst (.cons .lst (.cons .val (.cons .lst (.cons .lst (.cons .lst (.cons .lst (.cons .lst (.cons .lst .nil))))))))))))) .nil) ?_
   simp [-guardE_b, -Is_at, -Is_at', -Ls_at, -Ls_at', unk, unA, unE, unT, unC, flat, eL, eI, allInts, eP_Fn, eP_Tra, Fn.cells, Tra.cells]
   repeat (with_reducible refine And.intro ?_ ?_; · first | assumption | omega | (simp; done) | (simp; omega) | simp_all)
   refine guard_intro (fun g => ?_) (fun g => ?_)
   · have g3 : v2 = true := by first | simpa using g | (simp at g; exact g) | (simp at g; omega)
     clear g
     replace h := if_l g3 h
     simp [-guardE_b, -Is_at, -Is_at', -Ls_at, -Ls_at', eL, eI, allInts, eP_Fn, eP_Tra, Fn.cells, Tra.cells]
     repeat (with_reducible refine And.intro ?_ ?_; · first | assumption | omega | (simp; done) | (simp; omega) | simp_all)
     replace h := bind_some h
     obtain ⟨v4, hv4, h⟩ := h
     refine callA_intro (w_s_l06Is _ v4 hv4) (.cons (.aggL (.cons .val (.cons .lst (.cons .lst (.cons .lst (.cons .lst (.cons .val (.cons .lst (.cons .lst (.cons .lst (.cons .lst (.cons .lst (.cons .lst .nil))))))))))))) .nil) ?_
     simp [-guardE_b, -Is_at, -Is_at', -Ls_at, -Ls_at', unk, unA, unE, unT, unC, flat, eL, eI, allInts, eP_Fn, eP_Tra, Fn.cells, Tra.cells]
     repeat (with_reducible refine And.intro ?_ ?_; · first | assumption | omega | (simp; done) | (simp; omega) | simp_all)
     refine guard_intro (fun g => ?_) (fun g => ?_)
     · have g5 : v4 = true := by first | simpa using g | (simp at g; exact g) | (simp at g; omega)
       clear g
       replace h := if_l g5 h
       simp [-guardE_b, -Is_at, -Is_at', -Ls_at, -Ls_at', eL, eI, allInts, eP_Fn, eP_Tra, Fn.cells, Tra.cells]
       repeat (with_reducible refine And.intro ?_ ?_; · first | assumption | omega | (simp; done) | (simp; omega) | simp_all)
       replace h := bind_some h
       obtain ⟨v6, hv6, h⟩ := h
       refine callA_intro (w_s_l07Parallel _ _ v6 hv6) (.cons (.aggL (.cons .val (.cons .lst (.cons .lst (.cons .lst (.cons .lst (.cons .val (.cons .lst (.cons .lst (.cons .lst (.cons .lst (.cons .lst (.cons .lst .nil))))))))))))) (.cons (.aggL (.cons .val (.cons .lst (.cons .lst (.cons .lst (.cons .lst (.cons .val (.cons .lst (.cons .lst (.cons .lst (.cons .lst (.cons .lst (.cons .lst .nil))))))))))))) .nil)) ?_
       simp [-guardE_b, -Is_at, -Is_at', -Ls_at, -Ls_at', unk, unA, unE, unT, unC, flat, eL, eI, allInts, eP_Fn, eP_Tra, Fn.cells, Tra.cells]
       repeat (with_reducible refine And.intro ?_ ?_; · first | assumption | omega | (simp; done) | (simp; omega) | simp_all)
       refine guard_intro (fun g => ?_) (fun g => ?_)
       · have g7 : v6 = true := by first | simpa using g | (simp at g; exact g) | (simp at g; omega)
         clear g
         replace h := if_l g7 h
         simp [-guardE_b, -Is_at, -Is_at', -Ls_at, -Ls_at', eL, eI, allInts, eP_Fn, eP_Tra, Fn.cells, Tra.cells]
         repeat (with_reducible refine And.intro ?_ ?_; · first | assumption | omega | (simp; done) | (simp; omega) | simp_all)
         replace h := bind_some h
         obtain ⟨v8, hv8, h⟩ := h
         refine callA_intro (w_s_l07Ends _ _ _ v8 hv8) (.cons (.aggL (.cons .val (.cons .lst (.cons .lst (.cons .lst (.cons .lst (.cons .val (.cons .lst (.cons .lst (.cons .lst (.cons .lst (.cons .lst (.cons .lst .nil))))))))))))) (.cons (.aggL (.cons .val (.cons .lst (.cons .lst (.cons .lst (.cons .lst (.cons .val (.cons .lst (.cons .lst (.cons .lst (.cons .lst (.cons .lst (.cons .lst .nil))))))))))))) (.cons .lst .nil))) ?_
         simp [-guardE_b, -Is_at, -Is_at', -Ls_at, -Ls_at', unk, unA, unE, unT, unC, flat, eL, eI, allInts, eP_Fn, eP_Tra, Fn.cells, Tra.cells]
         repeat (with_reducible refine And.intro ?_ ?_; · first | assumption | omega | (simp; done) | (simp; omega) | simp_all)
         refine hK _ ?_
         exact jn (b := v8) (Option.some.inj h) (Wk.rel [] (by simp) (by simp) (by rw [hP]; simp) (by simp) (by simp) (by simp [Fn.cells, Tra.cells, Is_append, Is_one, Ls_append, Ls_one, Bs_append, Bs_one, Es_append, Es_one, Es_set', eB, eI, eL]) (by simp [hhOk, back, Fn.cells, Tra.cells, Is_append, Is_one, Ls_append, Ls_one, Bs_append, Bs_one, Es_append, Es_one, Es_set', eB, eI, eL]))
       have g7 : ¬ (v6 = true) := by first | simpa using g | (simp at g; exact g) | (simp at g; omega)
       clear g
       replace h := if_r g7 h
       simp [-guardE_b, -Is_at, -Is_at', -Ls_at, -Ls_at', eL, eI, allInts, eP_Fn, eP_Tra, Fn.cells, Tra.cells]
       repeat (with_reducible refine And.intro ?_ ?_; · first | assumption | omega | (simp; done) | (simp; omega) | simp_all)
       refine hK _ ?_
       exact jn (b := false) (Option.some.inj h) (Wk.rel [] (by simp) (by simp) (by rw [hP]; simp) (by simp) (by simp) (by simp [Fn.cells, Tra.cells, Is_append, Is_one, Ls_append, Ls_one, Bs_append, Bs_one, Es_append, Es_one, Es_set', eB, eI, eL]) (by simp [hhOk, back, Fn.cells, Tra.cells, Is_append, Is_one, Ls_append, Ls_one, Bs_append, Bs_one, Es_append, Es_one, Es_set', eB, eI, eL]))
     have g5 : ¬ (v4 = true) := by first | simpa using g | (simp at g; exact g) | (simp at g; omega)
     clear g
     replace h := if_r g5 h
     simp [-guardE_b, -Is_at, -Is_at', -Ls_at, -Ls_at', eL, eI, allInts, eP_Fn, eP_Tra, Fn.cells, Tra.cells]
     repeat (with_reducible refine And.intro ?_ ?_; · first | assumption | omega | (simp; done) | (simp; omega) | simp_all)
     refine hK _ ?_
     exact jn (b := false) (Option.some.inj h) (Wk.rel [] (by simp) (by simp) (by rw [hP]; simp) (by simp) (by simp) (by simp [Fn.cells, Tra.cells, Is_append, Is_one, Ls_append, Ls_one, Bs_append, Bs_one, Es_append, Es_one, Es_set', eB, eI, eL]) (by simp [hhOk, back, Fn.cells, Tra.cells, Is_append, Is_one, Ls_append, Ls_one, Bs_append, Bs_one, Es_append, Es_one, Es_set', eB, eI, eL]))
   have g3 : ¬ (v2 = true) := by first | simpa using g | (simp at g; exact g) | (simp at g; omega)
   clear g
   replace h := if_r g3 h
   simp [-guardE_b, -Is_at, -Is_at', -Ls_at, -Ls_at', eL, eI, allInts, eP_Fn, eP_Tra, Fn.cells, Tra.cells]
   repeat (with_reducible refine And.intro ?_ ?_; · first | assumption | omega | (simp; done) | (simp; omega) | simp_all)
   refine hK _ ?_
   exact jn (b := false) (Option.some.inj h) (Wk.rel [] (by simp) (by simp) (by rw [hP]; simp) (by simp) (by simp) (by simp [Fn.cells, Tra.cells, Is_append, Is_one, Ls_append, Ls_one, Bs_append, Bs_one, Es_append, Es_one, Es_set', eB, eI, eL]) (by simp [hhOk, back, Fn.cells, Tra.cells, Is_append, Is_one, Ls_append, Ls_one, Bs_append, Bs_one, Es_append, Es_one, Es_set', eB, eI, eL]))
 intro b1 hb1
 have h := h1
 rw [← hb1] at h
 clear h1
 try dsimp only at h
 refine w_ret ?_
 have hr := Option.some.inj h
 rw [← hr]
 refine ⟨_, (.tmp .nil), ?_⟩
 refine ⟨(.one rfl rfl .nil), [.val (.bool b1)], [], by simp [Fn.cells, Tra.cells, Is_append, Is_one, Ls_append, Ls_one, Bs_append, Bs_one, Es_append, Es_one, Es_set', eB, eI, eL], by simp, (UpL.refl _)⟩
noncomputable def s_s_l07Fault (f_ : Fn) (g_ : Fn) (components_ : List Int) : Option Int :=
 (loopF (σ := Int) (ε := Unit ⊕ Int) (fun s6 =>
   if s6 < (f_.ar.length : Int) then
     (s_s_l07Square f_ g_ components_ s6).bind fun v8 =>
     if ¬ (v8 = true) then
       some (Ctl.ret (Sum.inr s6))
     else
       ass (B64 (s6 + 1)) <|
       some (Ctl.next (s6 + 1))
   else
     some (Ctl.ret (Sum.inl ()))) fuel 0).bind fun e1 =>
 match e1 with
 | .inl b1 =>
   some (-1)
 | .inr p1 =>
   some p1
set_option maxHeartbeats 4000000 in
theorem w_s_l07Fault (f_ : Fn) (g_ : Fn) (components_ : List Int) (r : Int) (h : s_s_l07Fault f_ g_ components_ = some r) : Contract Try.prog 181 [.agg (f_.cells true), .agg (g_.cells true), .lst true 1 (Is components_)] (.val (.int .i64 r)) := by
 refine contract_introG (rvs := [.tmp 6]) (rs := [.val (.int .i64 r)]) Try.func181 rfl rfl rfl rfl (by simp [Try.f181]) fun F hN hP => ?_
 unfold s_s_l07Fault at h
 refine w_seq ?_
 refine w_run mo (by rw [hN]; decide) fun K hK => ?_
 simp [-guardE_b, -Is_at, -Is_at', -Ls_at, -Ls_at', eL, eI, allInts, eP_Fn, Fn.cells]
 repeat (with_reducible refine And.intro ?_ ?_; · first | assumption | omega | (simp; done) | (simp; omega) | simp_all)
 refine hK _ ?_
 clear hK K
 refine tn ?_
 refine w_weak (st' := ⟨[(2, .lst true 1 (Is components_)), (3, .adr 0 0 0), (4, .adr 1 0 0)], [(0, .mix 12 [[.val (.int .i64 f_.s.n), .lst true 1 (Is f_.s.fr), .lst true 1 (Is f_.s.to), .lst true 1 (Is f_.s.id), .lst true 1 (Ls f_.s.cs), .val (.int .i64 f_.t.n), .lst true 1 (Is f_.t.fr), .lst true 1 (Is f_.t.to), .lst true 1 (Is f_.t.id), .lst true 1 (Ls f_.t.cs), .lst true 1 (Is f_.ob), .lst true 1 (Is f_.ar)]]), (1, .mix 12 [[.val (.int .i64 g_.s.n), .lst true 1 (Is g_.s.fr), .lst true 1 (Is g_.s.to), .lst true 1 (Is g_.s.id), .lst true 1 (Ls g_.s.cs), .val (.int .i64 g_.t.n), .lst true 1 (Is g_.t.fr), .lst true 1 (Is g_.t.to), .lst true 1 (Is g_.t.id), .lst true 1 (Ls g_.t.cs), .lst true 1 (Is g_.ob), .lst true 1 (Is g_.ar)]])], 2⟩) (Wk.rel [(0, 0), (1, 1)] (by simp) (by simp) (by rw [hP]; simp) (by simp) (by simp) (by simp [Fn.cells, Is_append, Is_one, Ls_append, Ls_one, Bs_append, Bs_one, Es_append, Es_one, Es_set', eB, eI, eL]) (by simp [hhOk, back, Fn.cells, Is_append, Is_one, Ls_append, Ls_one, Bs_append, Bs_one, Es_append, Es_one, Es_set', eB, eI, eL])) ?_
 refine w_seq ?_
 refine w_seq ?_
 refine w_run mo (by rw [hN]; decide) fun K hK => ?_
 simp [-guardE_b, -Is_at, -Is_at', -Ls_at, -Ls_at', eL, eI, allInts, eP_Fn, Fn.cells]
 repeat (with_reducible refine And.intro ?_ ?_; · first | assumption | omega | (simp; done) | (simp; omega) | simp_all)
 refine hK _ ?_
 clear hK K
 refine tn ?_
 refine w_weak (st' := ⟨[(2, .lst true 1 (Is components_)), (3, .adr 0 0 0), (4, .adr 1 0 0), (7, .val (.int .i64 0))], [(0, .mix 12 [[.val (.int .i64 f_.s.n), .lst true 1 (Is f_.s.fr), .lst true 1 (Is f_.s.to), .lst true 1 (Is f_.s.id), .lst true 1 (Ls f_.s.cs), .val (.int .i64 f_.t.n), .lst true 1 (Is f_.t.fr), .lst true 1 (Is f_.t.to), .lst true 1 (Is f_.t.id), .lst true 1 (Ls f_.t.cs), .lst true 1 (Is f_.ob), .lst true 1 (Is f_.ar)]]), (1, .mix 12 [[.val (.int .i64 g_.s.n), .lst true 1 (Is g_.s.fr), .lst true 1 (Is g_.s.to), .lst true 1 (Is g_.s.id), .lst true 1 (Ls g_.s.cs), .val (.int .i64 g_.t.n), .lst true 1 (Is g_.t.fr), .lst true 1 (Is g_.t.to), .lst true 1 (Is g_.t.id), .lst true 1 (Ls g_.t.cs), .lst true 1 (Is g_.ob), .lst true 1 (Is g_.ar)]])], 2⟩) (Wk.rel [(0, 0), (1, 1)] (by simp) (by simp) (by rw [hP]; simp) (by simp) (by simp) (by simp [Fn.cells, Is_append, Is_one, Ls_append, Ls_one, Bs_append, Bs_one, Es_append, Es_one, Es_set', eB, eI, eL]) (by simp [hhOk, back, Fn.cells, Is_append, Is_one, Ls_append, Ls_one, Bs_append, Bs_one, Es_append, Es_one, Es_set', eB, eI, eL])) ?_
 replace h := bind_some h
 obtain ⟨e1, h, h1⟩ := h
 refine w_joinT (fun b1 : Unit => ⟨[], [], 0⟩) (fun b1 => Sum.inl b1 = e1) ?_ ?_
 · refine w_block ?_
   refine w_loopF h (fun s6 : Int => ⟨[(2, .lst true 1 (Is components_)), (3, .adr 0 0 0), (4, .adr 1 0 0), (7, .val (.int .i64 s6))], [(0, .mix 12 [[.val (.int .i64 f_.s.n), .lst true 1 (Is f_.s.fr), .lst true 1 (Is f_.s.to), .lst true 1 (Is f_.s.id), .lst true 1 (Ls f_.s.cs), .val (.int .i64 f_.t.n), .lst true 1 (Is f_.t.fr), .lst true 1 (Is f_.t.to), .lst true 1 (Is f_.t.id), .lst true 1 (Ls f_.t.cs), .lst true 1 (Is f_.ob), .lst true 1 (Is f_.ar)]]), (1, .mix 12 [[.val (.int .i64 g_.s.n), .lst true 1 (Is g_.s.fr), .lst true 1 (Is g_.s.to), .lst true 1 (Is g_.s.id), .lst true 1 (Ls g_.s.cs), .val (.int .i64 g_.t.n), .lst true 1 (Is g_.t.fr), .lst true 1 (Is g_.t.to), .lst true 1 (Is g_.t.id), .lst true 1 (Ls g_.t.cs), .lst true 1 (Is g_.ob), .lst true 1 (Is g_.ar)]])], 2⟩) (Wk.rel [(0, 0), (1, 1)] (by simp) (by simp) (by rw [hP]; simp) (by simp) (by simp) (by simp [Fn.cells, Is_append, Is_one, Ls_append, Ls_one, Bs_append, Bs_one, Es_append, Es_one, Es_set', eB, eI, eL]) (by simp [hhOk, back, Fn.cells, Is_append, Is_one, Ls_append, Ls_one, Bs_append, Bs_one, Es_append, Es_one, Es_set', eB, eI, eL])) ?_
   clear h
   intro k6 s6 c6 h hk6
   refine w_seq ?_
   refine w_seq ?_
   refine w_run mo (by rw [hN]; decide) fun K hK => ?_
   simp [-guardE_b, -Is_at, -Is_at', -Ls_at, -Ls_at', eL, eI, allInts, eP_Fn, Fn.cells]
   repeat (with_reducible refine And.intro ?_ ?_; · first | assumption | omega | (simp; done) | (simp; omega) | simp_all)
   refine hK _ ?_
   clear hK K
   refine tn ?_
   refine w_weak (st' := ⟨[(2, .lst true 1 (Is components_)), (3, .adr 0 0 0), (4, .adr 1 0 0), (7, .val (.int .i64 s6)), (12, .val (.bool (decide (s6 < (f_.ar.length : Int)))))], [(0, .mix 12 [[.val (.int .i64 f_.s.n), .lst true 1 (Is f_.s.fr), .lst true 1 (Is f_.s.to), .lst true 1 (Is f_.s.id), .lst true 1 (Ls f_.s.cs), .val (.int .i64 f_.t.n), .lst true 1 (Is f_.t.fr), .lst true 1 (Is f_.t.to), .lst true 1 (Is f_.t.id), .lst true 1 (Ls f_.t.cs), .lst true 1 (Is f_.ob), .lst true 1 (Is f_.ar)]]), (1, .mix 12 [[.val (.int .i64 g_.s.n), .lst true 1 (Is g_.s.fr), .lst true 1 (Is g_.s.to), .lst true 1 (Is g_.s.id), .lst true 1 (Ls g_.s.cs), .val (.int .i64 g_.t.n), .lst true 1 (Is g_.t.fr), .lst true 1 (Is g_.t.to), .lst true 1 (Is g_.t.id), .lst true 1 (Ls g_.t.cs), .lst true 1 (Is g_.ob), .lst true 1 (Is g_.ar)]])], 2⟩) (Wk.rel [(0, 0), (1, 1)] (by simp) (by simp) (by rw [hP]; simp) (by simp) (by simp) (by simp [Fn.cells, Is_append, Is_one, Ls_append, Ls_one, Bs_append, Bs_one, Es_append, Es_one, Es_set', eB, eI, eL]) (by simp [hhOk, back, Fn.cells, Is_append, Is_one, Ls_append, Ls_one, Bs_append, Bs_one, Es_append, Es_one, Es_set', eB, eI, eL])) ?_
   refine w_cond rfl (fun g => ?_) fun g => ?_
   · have g7 : s6 < (f_.ar.length : Int) := by first | simpa using g | (simp at g; exact g) | (simp at g; omega)
     clear g
     replace h := if_l g7 h
     refine w_skip ?_
     refine tn ?_
     refine w_seq ?_
     refine w_block ?_
     refine w_seq ?_
     refine w_run mo (by rw [hN]; decide) fun K hK => ?_
     simp [-guardE_b, -Is_at, -Is_at', -Ls_at, -Ls_at', eL, eI, allInts, eP_Fn, Fn.cells]
     repeat (with_reducible refine And.intro ?_ ?_; · first | assumption | omega | (simp; done) | (simp; omega) | simp_all)
     replace h := bind_some h
     obtain ⟨v8, hv8, h⟩ := h
     refine callA_intro (w_s_l07Square _ _ _ _ v8 hv8) (.cons (.aggL (.cons .val (.cons .lst (.cons .lst (.cons .lst (.cons .lst (.cons .val (.cons .lst (.cons .lst (.cons .lst (.cons .lst (.cons .lst (.cons .lst .nil))))))))))))) (.cons (.aggL (.cons .val (.cons .lst (.cons .lst (.cons .lst (.cons .lst (.cons .val (.cons .lst (.cons .lst (.cons .lst (.cons .lst (.cons .lst (.cons .lst .nil))))))))))))) (.cons .lst (.cons .val .nil)))) ?_
     simp [-guardE_b, -Is_at, -Is_at', -Ls_at, -Ls_at', unk, unA, unE, unT, unC, flat, eL, eI, allInts, eP_Fn, Fn.cells]
     repeat (with_reducible refine And.intro ?_ ?_; · first | assumption | omega | (simp; done) | (simp; omega) | simp_all)
     refine hK _ ?_
     clear hK K
     refine tn ?_
     refine w_weak (st' := ⟨[(2, .lst true 1 (Is components_)), (3, .adr 0 0 0), (4, .adr 1 0 0), (7, .val (.int .i64 s6)), (20, .val (.bool (!v8)))], [(0, .mix 12 [[.val (.int .i64 f_.s.n), .lst true 1 (Is f_.s.fr), .lst true 1 (Is f_.s.to), .lst true 1 (Is f_.s.id), .lst true 1 (Ls f_.s.cs), .val (.int .i64 f_.t.n), .lst true 1 (Is f_.t.fr), .lst true 1 (Is f_.t.to), .lst true 1 (Is f_.t.id), .lst true 1 (Ls f_.t.cs), .lst true 1 (Is f_.ob), .lst true 1 (Is f_.ar)]]), (1, .mix 12 [[.val (.int .i64 g_.s.n), .lst true 1 (Is g_.s.fr), .lst true 1 (Is g_.s.to), .lst true 1 (Is g_.s.id), .lst true 1 (Ls g_.s.cs), .val (.int .i64 g_.t.n), .lst true 1 (Is g_.t.fr), .lst true 1 (Is g_.t.to), .lst true 1 (Is g_.t.id), .lst true 1 (Ls g_.t.cs), .lst true 1 (Is g_.ob), .lst true 1 (Is g_.ar)]])], 2⟩) (Wk.rel [(0, 0), (1, 1)] (by simp) (by simp) (by rw [hP]; simp) (by simp) (by simp) (by simp [Fn.cells, Is_append, Is_one, Ls_append, Ls_one, Bs_append, Bs_one, Es_append, Es_one, Es_set', eB, eI, eL]) (by simp [hhOk, back, Fn.cells, Is_append, Is_one, Ls_append, Ls_one, Bs_append, Bs_one, Es_append, Es_one, Es_set', eB, eI, eL])) ?_
     refine w_cond rfl (fun g => ?_) fun g => ?_
     · have g9 : ¬ (v8 = true) := by first | simpa using g | (simp at g; exact g) | (simp at g; omega)
       clear g
       replace h := if_l g9 h
       refine w_seq ?_
       refine w_run mo (by rw [hN]; decide) fun K hK => ?_
       simp [-guardE_b, -Is_at, -Is_at', -Ls_at, -Ls_at', eL, eI, allInts, eP_Fn, Fn.cells]
       repeat (with_reducible refine And.intro ?_ ?_; · first | assumption | omega | (simp; done) | (simp; omega) | simp_all)
       refine hK _ ?_
       clear hK K
       refine tn ?_
       refine w_weak (st' := ⟨[(6, .val (.int .i64 s6))], [], 0⟩) (Wk.rel [] (by simp) (by simp) (by rw [hP]; simp) (by simp) (by simp) (by simp [Fn.cells, Is_append, Is_one, Ls_append, Ls_one, Bs_append, Bs_one, Es_append, Es_one, Es_set', eB, eI, eL]) (by simp [hhOk, back, Fn.cells, Is_append, Is_one, Ls_append, Ls_one, Bs_append, Bs_one, Es_append, Es_one, Es_set', eB, eI, eL])) ?_
       refine w_ret ?_
       refine br ?_
       refine tr ?_
       refine lr ?_
       refine br ?_
       refine tr ?_
       cases h
       have q : _ = e1 := hk6
       have h := h1
       rw [← q] at h
       clear q
       try dsimp only at h
       have hr := Option.some.inj h
       rw [← hr]
       refine ⟨_, (.tmp .nil), ?_⟩
       refine ⟨(.one rfl rfl .nil), [.val (.int .i64 s6)], [], by simp [Fn.cells, Is_append, Is_one, Ls_append, Ls_one, Bs_append, Bs_one, Es_append, Es_one, Es_set', eB, eI, eL], by simp, (UpL.refl _)⟩
     have g9 : ¬ (¬ (v8 = true)) := by first | simpa using g | (simp at g; exact g) | (simp at g; omega)
     clear g
     replace h := if_r g9 h
     refine w_skip ?_
     refine bn ?_
     refine tn ?_
     refine w_run mo (by rw [hN]; decide) fun K hK => ?_
     replace h := ass_some h
     obtain ⟨a10, h⟩ := h
     simp [-guardE_b, -Is_at, -Is_at', -Ls_at, -Ls_at', eL, eI, allInts, eP_Fn, Fn.cells, wrap_id a10]
     repeat (with_reducible refine And.intro ?_ ?_; · first | assumption | omega | (simp; done) | (simp; omega) | simp_all)
     refine hK _ ?_
     clear hK K
     cases h
     exact rn (s' := s6 + 1) hk6 (Wk.rel [(0, 0), (1, 1)] (by simp) (by simp) (by rw [hP]; simp) (by simp) (by simp) (by simp [Fn.cells, Is_append, Is_one, Ls_append, Ls_one, Bs_append, Bs_one, Es_append, Es_one, Es_set', eB, eI, eL]) (by simp [hhOk, back, Fn.cells, Is_append, Is_one, Ls_append, Ls_one, Bs_append, Bs_one, Es_append, Es_one, Es_set', eB, eI, eL]))
   have g7 : ¬ (s6 < (f_.ar.length : Int)) := by first | simpa using g | (simp at g; exact g) | (simp at g; omega)
   clear g
   replace h := if_r g7 h
   refine w_exit ?_
   refine tx ?_
   refine lx ?_
   refine bh ?_
   cases h
   exact jn (b := ()) hk6 (Wk.rel [] (by simp) (by simp) (by rw [hP]; simp) (by simp) (by simp) (by simp [Fn.cells, Is_append, Is_one, Ls_append, Ls_one, Bs_append, Bs_one, Es_append, Es_one, Es_set', eB, eI, eL]) (by simp [hhOk, back, Fn.cells, Is_append, Is_one, Ls_append, Ls_one, Bs_append, Bs_one, Es_append, Es_one, Es_set', eB, eI, eL]))
 intro b1 hb1
 have h := h1
 rw [← hb1] at h
 clear h1
 try dsimp only at h
 refine w_seq ?_
 refine w_run mo (by rw [hN]; decide) fun K hK => ?_
 simp [-guardE_b, -Is_at, -Is_at', -Ls_at, -Ls_at', eL, eI, allInts, eP_Fn, Fn.cells]
 repeat (with_reducible refine And.intro ?_ ?_; · first | assumption | omega | (simp; done) | (simp; omega) | simp_all)
 refine hK _ ?_
 clear hK K
 refine tn ?_
 refine w_weak (st' := ⟨[(6, .val (.int .i64 (-1)))], [], 0⟩) (Wk.rel [] (by simp) (by simp) (by rw [hP]; simp) (by simp) (by simp) (by simp [Fn.cells, Is_append, Is_one, Ls_append, Ls_one, Bs_append, Bs_one, Es_append, Es_one, Es_set', eB, eI, eL]) (by simp [hhOk, back, Fn.cells, Is_append, Is_one, Ls_append, Ls_one, Bs_append, Bs_one, Es_append, Es_one, Es_set', eB, eI, eL])) ?_
 refine w_ret ?_
 have hr := Option.some.inj h
 rw [← hr]
 refine ⟨_, (.tmp .nil), ?_⟩
 refine ⟨(.one rfl rfl .nil), [.val (.int .i64 (-1))], [], by simp [Fn.cells, Is_append, Is_one, Ls_append, Ls_one, Bs_append, Bs_one, Es_append, Es_one, Es_set', eB, eI, eL], by simp, (UpL.refl _)⟩
noncomputable def s_s_l05Inverse (c_ : Cat) (f_ : Int) : Option Int :=
 (s_s_l05Retractions c_ f_).bind fun v1 =>
 (s_s_l05Sections c_ f_).bind fun v2 =>
 (loopF (σ := Int) (ε := Unit ⊕ Int) (fun s10 =>
   if s10 < (v1.length : Int) then
     ass (0 ≤ s10 ∧ s10 < (v1.length : Int)) <|
     (s_s_l01Has v2 (ix v1 s10)).bind fun v13 =>
     if v13 = true then
       ass (0 ≤ s10 ∧ s10 < (v1.length : Int)) <|
       some (Ctl.ret (Sum.inr (ix v1 s10)))
     else
       ass (B64 (s10 + 1)) <|
       some (Ctl.next (s10 + 1))
   else
     some (Ctl.ret (Sum.inl ()))) fuel 0).bind fun e3 =>
 match e3 with
 | .inl b3 =>
   some (-1)
 | .inr p3 =>
   some p3
set_option maxHeartbeats 4000000 in
theorem w_s_l05Inverse (c_ : Cat) (f_ : Int) (r : Int) (h : s_s_l05Inverse c_ f_ = some r) : Contract Try.prog 182 [.agg (c_.cells true), .val (.int .i64 f_)] (.val (.int .i64 r)) := by
 refine contract_introG (rvs := [.tmp 4]) (rs := [.val (.int .i64 r)]) Try.func182 rfl rfl rfl rfl (by simp [Try.f182]) fun F hN hP => ?_
 unfold s_s_l05Inverse at h
 refine w_seq ?_
 refine w_run mo (by rw [hN]; decide) fun K hK => ?_
 simp [-guardE_b, -Is_at, -Is_at', -Ls_at, -Ls_at', eL, eI, allInts, eP_Cat, Cat.cells]
 repeat (with_reducible refine And.intro ?_ ?_; · first | assumption | omega | (simp; done) | (simp; omega) | simp_all)
 refine hK _ ?_
 clear hK K
 refine tn ?_
 refine w_weak (st' := ⟨[(1, .val (.int .i64 f_)), (2, .adr 0 0 0)], [(0, .mix 5 [[.val (.int .i64 c_.n), .lst true 1 (Is c_.fr), .lst true 1 (Is c_.to), .lst true 1 (Is c_.id), .lst true 1 (Ls c_.cs)]])], 1⟩) (Wk.rel [(0, 0)] (by simp) (by simp) (by rw [hP]; simp) (by simp) (by simp) (by simp [Cat.cells, Is_append, Is_one, Ls_append, Ls_one, Bs_append, Bs_one, Es_append, Es_one, Es_set', eB, eI, eL]) (by simp [hhOk, back, Cat.cells, Is_append, Is_one, Ls_append, Ls_one, Bs_append, Bs_one, Es_append, Es_one, Es_set', eB, eI, eL])) ?_
 refine w_seq ?_
 refine w_run mo (by rw [hN]; decide) fun K hK => ?_
 simp [-guardE_b, -Is_at, -Is_at', -Ls_at, -Ls_at', eL, eI, allInts, eP_Cat, Cat.cells]
 repeat (with_reducible refine And.intro ?_ ?_; · first | assumption | omega | (simp; done) | (simp; omega) | simp_all)
 replace h := bind_some h
 obtain ⟨v1, hv1, h⟩ := h
 refine callA_intro (w_s_l05Retractions _ _ v1 hv1) (.cons (.aggL (.cons .val (.cons .lst (.cons .lst (.cons .lst (.cons .lst .nil)))))) (.cons .val .nil)) ?_
 simp [-guardE_b, -Is_at, -Is_at', -Ls_at, -Ls_at', unk, unA, unE, unT, unC, flat, eL, eI, allInts, eP_Cat, Cat.cells]
 repeat (with_reducible refine And.intro ?_ ?_; · first | assumption | omega | (simp; done) | (simp; omega) | simp_all)
 replace h := bind_some h
 obtain ⟨v2, hv2, h⟩ := h
 refine callA_intro (w_s_l05Sections _ _ v2 hv2) (.cons (.aggL (.cons .val (.cons .lst (.cons .lst (.cons .lst (.cons .lst .nil)))))) (.cons .val .nil)) ?_
 simp [-guardE_b, -Is_at, -Is_at', -Ls_at, -Ls_at', unk, unA, unE, unT, unC, flat, eL, eI, allInts, eP_Cat, Cat.cells]
 repeat (with_reducible refine And.intro ?_ ?_; · first | assumption | omega | (simp; done) | (simp; omega) | simp_all)
 refine hK _ ?_
 clear hK K
 refine tn ?_
 refine w_weak (st' := ⟨[(5, .own 0 0 v1.length), (6, .own 1 0 v2.length)], [(0, .row 1 (Is v1)), (1, .row 1 (Is v2))], 2⟩) (Wk.rel [(1, 0), (2, 1)] (by simp) (by simp) (by rw [hP]; simp) (by simp) (by simp) (by simp [Cat.cells, Is_append, Is_one, Ls_append, Ls_one, Bs_append, Bs_one, Es_append, Es_one, Es_set', eB, eI, eL]) (by simp [hhOk, back, Cat.cells, Is_append, Is_one, Ls_append, Ls_one, Bs_append, Bs_one, Es_append, Es_one, Es_set', eB, eI, eL])) ?_
 refine w_seq ?_
 refine w_seq ?_
 refine w_run mo (by rw [hN]; decide) fun K hK => ?_
 simp [-guardE_b, -Is_at, -Is_at', -Ls_at, -Ls_at', eL, eI, allInts, eP_Cat, Cat.cells]
 repeat (with_reducible refine And.intro ?_ ?_; · first | assumption | omega | (simp; done) | (simp; omega) | simp_all)
 refine hK _ ?_
 clear hK K
 refine tn ?_
 refine w_weak (st' := ⟨[(5, .own 0 0 v1.length), (6, .own 1 0 v2.length), (7, .val (.int .i64 0))], [(0, .row 1 (Is v1)), (1, .row 1 (Is v2))], 2⟩) (Wk.rel [(0, 0), (1, 1)] (by simp) (by simp) (by rw [hP]; simp) (by simp) (by simp) (by simp [Cat.cells, Is_append, Is_one, Ls_append, Ls_one, Bs_append, Bs_one, Es_append, Es_one, Es_set', eB, eI, eL]) (by simp [hhOk, back, Cat.cells, Is_append, Is_one, Ls_append, Ls_one, Bs_append, Bs_one, Es_append, Es_one, Es_set', eB, eI, eL])) ?_
 replace h := bind_some h
 obtain ⟨e3, h, h3⟩ := h
 refine w_joinT (fun b3 : Unit => ⟨[], [], 0⟩) (fun b3 => Sum.inl b3 = e3) ?_ ?_
 · refine w_block ?_
   refine w_loopF h (fun s10 : Int => ⟨[(5, .own 0 0 v1.length), (6, .own 1 0 v2.length), (7, .val (.int .i64 s10))], [(0, .row 1 (Is v1)), (1, .row 1 (Is v2))], 2⟩) (Wk.rel [(0, 0), (1, 1)] (by simp) (by simp) (by rw [hP]; simp) (by simp) (by simp) (by simp [Cat.cells, Is_append, Is_one, Ls_append, Ls_one, Bs_append, Bs_one, Es_append, Es_one, Es_set', eB, eI, eL]) (by simp [hhOk, back, Cat.cells, Is_append, Is_one, Ls_append, Ls_one, Bs_append, Bs_one, Es_append, Es_one, Es_set', eB, eI, eL])) ?_
   clear h
   intro k10 s10 c10 h hk10
   refine w_seq ?_
   refine w_seq ?_
   refine w_run mo (by rw [hN]; decide) fun K hK => ?_
   simp [-guardE_b, -Is_at, -Is_at', -Ls_at, -Ls_at', eL, eI, allInts, eP_Cat, Cat.cells]
   repeat (with_reducible refine And.intro ?_ ?_; · first | assumption | omega | (simp; done) | (simp; omega) | simp_all)
   refine hK _ ?_
   clear hK K
   refine tn ?_
   refine w_weak (st' := ⟨[(5, .own 0 0 v1.length), (6, .own 1 0 v2.length), (7, .val (.int .i64 s10)), (17, .val (.bool (decide (s10 < (v1.length : Int)))))], [(0, .row 1 (Is v1)), (1, .row 1 (Is v2))], 2⟩) (Wk.rel [(0, 0), (1, 1)] (by simp) (by simp) (by rw [hP]; simp) (by simp) (by simp) (by simp [Cat.cells, Is_append, Is_one, Ls_append, Ls_one, Bs_append, Bs_one, Es_append, Es_one, Es_set', eB, eI, eL]) (by simp [hhOk, back, Cat.cells, Is_append, Is_one, Ls_append, Ls_one, Bs_append, Bs_one, Es_append, Es_one, Es_set', eB, eI, eL])) ?_
   refine w_cond rfl (fun g => ?_) fun g => ?_
   · have g11 : s10 < (v1.length : Int) := by first | simpa using g | (simp at g; exact g) | (simp at g; omega)
     clear g
     replace h := if_l g11 h
     refine w_skip ?_
     refine tn ?_
     refine w_seq ?_
     refine w_block ?_
     refine w_seq ?_
     refine w_run mo (by rw [hN]; decide) fun K hK => ?_
     replace h := ass_some h
     obtain ⟨a12, h⟩ := h
     simp [-guardE_b, -Is_at, -Is_at', -Ls_at, -Ls_at', eL, eI, allInts, eP_Cat, Cat.cells, at_I a12]
     repeat (with_reducible refine And.intro ?_ ?_; · first | assumption | omega | (simp; done) | (simp; omega) | simp_all)
     replace h := bind_some h
     obtain ⟨v13, hv13, h⟩ := h
     refine callA_intro (w_s_l01Has _ _ v13 hv13) (.cons (.whole (by simp) (by simp) (by simp)) (.cons .val .nil)) ?_
     simp [-guardE_b, -Is_at, -Is_at', -Ls_at, -Ls_at', unk, unA, unE, unT, unC, flat, eL, eI, allInts, eP_Cat, Cat.cells]
     repeat (with_reducible refine And.intro ?_ ?_; · first | assumption | omega | (simp; done) | (simp; omega) | simp_all)
     refine hK _ ?_
     clear hK K
     refine tn ?_
     refine w_weak (st' := ⟨[(5, .own 0 0 v1.length), (6, .own 1 0 v2.length), (7, .val (.int .i64 s10)), (25, .val (.bool v13))], [(0, .row 1 (Is v1)), (1, .row 1 (Is v2))], 2⟩) (Wk.rel [(0, 0), (1, 1)] (by simp) (by simp) (by rw [hP]; simp) (by simp) (by simp) (by simp [Cat.cells, Is_append, Is_one, Ls_append, Ls_one, Bs_append, Bs_one, Es_append, Es_one, Es_set', eB, eI, eL]) (by simp [hhOk, back, Cat.cells, Is_append, Is_one, Ls_append, Ls_one, Bs_append, Bs_one, Es_append, Es_one, Es_set', eB, eI, eL])) ?_
     refine w_cond rfl (fun g => ?_) fun g => ?_
     · have g14 : v13 = true := by first | simpa using g | (simp at g; exact g) | (simp at g; omega)
       clear g
       replace h := if_l g14 h
       refine w_seq ?_
       refine w_run mo (by rw [hN]; decide) fun K hK => ?_
       replace h := ass_some h
       obtain ⟨a15, h⟩ := h
       simp [-guardE_b, -Is_at, -Is_at', -Ls_at, -Ls_at', eL, eI, allInts, eP_Cat, Cat.cells, at_I a15]
       repeat (with_reducible refine And.intro ?_ ?_; · first | assumption | omega | (simp; done) | (simp; omega) | simp_all)
       refine hK _ ?_
       clear hK K
       refine tn ?_
       refine w_weak (st' := ⟨[(4, .val (.int .i64 (ix v1 s10)))], [], 0⟩) (Wk.rel [] (by simp) (by simp) (by rw [hP]; simp) (by simp) (by simp) (by simp [Cat.cells, Is_append, Is_one, Ls_append, Ls_one, Bs_append, Bs_one, Es_append, Es_one, Es_set', eB, eI, eL]) (by simp [hhOk, back, Cat.cells, Is_append, Is_one, Ls_append, Ls_one, Bs_append, Bs_one, Es_append, Es_one, Es_set', eB, eI, eL])) ?_
       refine w_ret ?_
       refine br ?_
       refine tr ?_
       refine lr ?_
       refine br ?_
       refine tr ?_
       cases h
       have q : _ = e3 := hk10
       have h := h3
       rw [← q] at h
       clear q
       try dsimp only at h
       have hr := Option.some.inj h
       rw [← hr]
       refine ⟨_, (.tmp .nil), ?_⟩
       refine ⟨(.one rfl rfl .nil), [.val (.int .i64 (ix v1 s10))], [], by simp [Cat.cells, Is_append, Is_one, Ls_append, Ls_one, Bs_append, Bs_one, Es_append, Es_one, Es_set', eB, eI, eL], by simp, (UpL.refl _)⟩
     have g14 : ¬ (v13 = true) := by first | simpa using g | (simp at g; exact g) | (simp at g; omega)
     clear g
     replace h := if_r g14 h
     refine w_skip ?_
     refine bn ?_
     refine tn ?_
     refine w_run mo (by rw [hN]; decide) fun K hK => ?_
     replace h := ass_some h
     obtain ⟨a16, h⟩ := h
     simp [-guardE_b, -Is_at, -Is_at', -Ls_at, -Ls_at', eL, eI, allInts, eP_Cat, Cat.cells, wrap_id a16]
     repeat (with_reducible refine And.intro ?_ ?_; · first | assumption | omega | (simp; done) | (simp; omega) | simp_all)
     refine hK _ ?_
     clear hK K
     cases h
     exact rn (s' := s10 + 1) hk10 (Wk.rel [(0, 0), (1, 1)] (by simp) (by simp) (by rw [hP]; simp) (by simp) (by simp) (by simp [Cat.cells, Is_append, Is_one, Ls_append, Ls_one, Bs_append, Bs_one, Es_append, Es_one, Es_set', eB, eI, eL]) (by simp [hhOk, back, Cat.cells, Is_append, Is_one, Ls_append, Ls_one, Bs_append, Bs_one, Es_append, Es_one, Es_set', eB, eI, eL]))
   have g11 : ¬ (s10 < (v1.length : Int)) := by first | simpa using g | (simp at g; exact g) | (simp at g; omega)
   clear g
   replace h := if_r g11 h
   refine w_exit ?_
   refine tx ?_
   refine lx ?_
   refine bh ?_
   cases h
   exact jn (b := ()) hk10 (Wk.rel [] (by simp) (by simp) (by rw [hP]; simp) (by simp) (by simp) (by simp [Cat.cells, Is_append, Is_one, Ls_append, Ls_one, Bs_append, Bs_one, Es_append, Es_one, Es_set', eB, eI, eL]) (by simp [hhOk, back, Cat.cells, Is_append, Is_one, Ls_append, Ls_one, Bs_append, Bs_one, Es_append, Es_one, Es_set', eB, eI, eL]))
 intro b3 hb3
 have h := h3
 rw [← hb3] at h
 clear h3
 try dsimp only at h
 refine w_seq ?_
 refine w_run mo (by rw [hN]; decide) fun K hK => ?_
 simp [-guardE_b, -Is_at, -Is_at', -Ls_at, -Ls_at', eL, eI, allInts, eP_Cat, Cat.cells]
 repeat (with_reducible refine And.intro ?_ ?_; · first | assumption | omega | (simp; done) | (simp; omega) | simp_all)
 refine hK _ ?_
 clear hK K
 refine tn ?_
 refine w_weak (st' := ⟨[(4, .val (.int .i64 (-1)))], [], 0⟩) (Wk.rel [] (by simp) (by simp) (by rw [hP]; simp) (by simp) (by simp) (by simp [Cat.cells, Is_append, Is_one, Ls_append, Ls_one, Bs_append, Bs_one, Es_append, Es_one, Es_set', eB, eI, eL]) (by simp [hhOk, back, Cat.cells, Is_append, Is_one, Ls_append, Ls_one, Bs_append, Bs_one, Es_append, Es_one, Es_set', eB, eI, eL])) ?_
 refine w_ret ?_
 have hr := Option.some.inj h
 rw [← hr]
 refine ⟨_, (.tmp .nil), ?_⟩
 refine ⟨(.one rfl rfl .nil), [.val (.int .i64 (-1))], [], by simp [Cat.cells, Is_append, Is_one, Ls_append, Ls_one, Bs_append, Bs_one, Es_append, Es_one, Es_set', eB, eI, eL], by simp, (UpL.refl _)⟩
noncomputable def s_s_l07Own (f_ : Fn) : Option Fn :=
 (s_s_l06Make f_.s f_.t f_.ob f_.ar).bind fun v1 =>
 some v1
set_option maxHeartbeats 4000000 in
theorem w_s_l07Own (f_ : Fn) (r : Fn) (h : s_s_l07Own f_ = some r) : Contract Try.prog 183 [.agg (f_.cells true)] (.agg (r.cells true)) := by
 refine contract_introG (rvs := [.cell 2 35]) (rs := [.agg (r.cells true)]) Try.func183 rfl rfl rfl rfl (by simp [Try.f183]) fun F hN hP => ?_
 unfold s_s_l07Own at h
 refine w_seq ?_
 refine w_run mo (by rw [hN]; decide) fun K hK => ?_
 simp [-guardE_b, -Is_at, -Is_at', -Ls_at, -Ls_at', eL, eI, allInts, eP_Cat, eP_Fn, Cat.cells, Fn.cells]
 repeat (with_reducible refine And.intro ?_ ?_; · first | assumption | omega | (simp; done) | (simp; omega) | simp_all)
 refine hK _ ?_
 clear hK K
 refine tn ?_
 refine w_weak (st' := ⟨[(1, .adr 0 0 0), (2, .adr 1 0 0)], [(0, .mix 12 [[.val (.int .i64 f_.s.n), .lst true 1 (Is f_.s.fr), .lst true 1 (Is f_.s.to), .lst true 1 (Is f_.s.id), .lst true 1 (Ls f_.s.cs), .val (.int .i64 f_.t.n), .lst true 1 (Is f_.t.fr), .lst true 1 (Is f_.t.to), .lst true 1 (Is f_.t.id), .lst true 1 (Ls f_.t.cs), .lst true 1 (Is f_.ob), .lst true 1 (Is f_.ar)]]), (1, .mix 12 [[.val (.int .i64 0), .val (.slice none 0 0), .val (.slice none 0 0), .val (.slice none 0 0), .val (.slice none 0 0), .val (.int .i64 0), .val (.slice none 0 0), .val (.slice none 0 0), .val (.slice none 0 0), .val (.slice none 0 0), .val (.slice none 0 0), .val (.slice none 0 0)]])], 2⟩) (Wk.rel [(0, 0), (1, 1)] (by simp) (by simp) (by rw [hP]; simp) (by simp) (by simp) (by simp [Cat.cells, Fn.cells, Is_append, Is_one, Ls_append, Ls_one, Bs_append, Bs_one, Es_append, Es_one, Es_set', eB, eI, eL]) (by simp [hhOk, back, Cat.cells, Fn.cells, Is_append, Is_one, Ls_append, Ls_one, Bs_append, Bs_one, Es_append, Es_one, Es_set', eB, eI, eL])) ?_
 refine w_seq ?_
 refine w_run mo (by rw [hN]; decide) fun K hK => ?_
 simp [-guardE_b, -Is_at, -Is_at', -Ls_at, -Ls_at', eL, eI, allInts, eP_Cat, eP_Fn, Cat.cells, Fn.cells]
 repeat (with_reducible refine And.intro ?_ ?_; · first | assumption | omega | (simp; done) | (simp; omega) | simp_all)
 replace h := bind_some h
 obtain ⟨v1, hv1, h⟩ := h
 refine callA_intro (w_s_l06Make _ _ _ _ v1 hv1) (.cons (.aggL (.cons .val (.cons .lst (.cons .lst (.cons .lst (.cons .lst .nil)))))) (.cons (.aggL (.cons .val (.cons .lst (.cons .lst (.cons .lst (.cons .lst .nil)))))) (.cons .lst (.cons .lst .nil)))) ?_
 simp [-guardE_b, -Is_at, -Is_at', -Ls_at, -Ls_at', unk, unA, unE, unT, unC, flat, eL, eI, allInts, eP_Cat, eP_Fn, Cat.cells, Fn.cells]
 repeat (with_reducible refine And.intro ?_ ?_; · first | assumption | omega | (simp; done) | (simp; omega) | simp_all)
 refine hK _ ?_
 clear hK K
 refine tn ?_
 refine w_weak (st' := ⟨[(2, .adr 0 0 0)], [(0, .mix 12 [[.val (.int .i64 v1.s.n), .own 1 0 v1.s.fr.length, .own 2 0 v1.s.to.length, .own 3 0 v1.s.id.length, .own 4 0 v1.s.cs.length, .val (.int .i64 v1.t.n), .own 5 0 v1.t.fr.length, .own 6 0 v1.t.to.length, .own 7 0 v1.t.id.length, .own 8 0 v1.t.cs.length, .own 9 0 v1.ob.length, .own 10 0 v1.ar.length]]), (1, .row 1 (Is v1.s.fr)), (2, .row 1 (Is v1.s.to)), (3, .row 1 (Is v1.s.id)), (4, .row 1 (Ls v1.s.cs)), (5, .row 1 (Is v1.t.fr)), (6, .row 1 (Is v1.t.to)), (7, .row 1 (Is v1.t.id)), (8, .row 1 (Ls v1.t.cs)), (9, .row 1 (Is v1.ob)), (10, .row 1 (Is v1.ar))], 11⟩) (Wk.rel [(1, 0), (3, 1), (4, 2), (5, 3), (6, 4), (8, 5), (9, 6), (10, 7), (11, 8), (12, 9), (13, 10)] (by simp) (by simp) (by rw [hP]; simp) (by simp) (by simp) (by simp [Cat.cells, Fn.cells, Is_append, Is_one, Ls_append, Ls_one, Bs_append, Bs_one, Es_append, Es_one, Es_set', eB, eI, eL]) (by simp [hhOk, back, Cat.cells, Fn.cells, Is_append, Is_one, Ls_append, Ls_one, Bs_append, Bs_one, Es_append, Es_one, Es_set', eB, eI, eL])) ?_
 refine w_ret ?_
 have hr := Option.some.inj h
 rw [← hr]
 refine ⟨_, (.cell tf_35 rfl rfl rfl (by simp) (by simp) .nil), ?_⟩
 refine ⟨(.agg rfl .nil), [.val (.int .i64 v1.s.n), .lst true 1 (Is v1.s.fr), .lst true 1 (Is v1.s.to), .lst true 1 (Is v1.s.id), .lst true 1 (Ls v1.s.cs), .val (.int .i64 v1.t.n), .lst true 1 (Is v1.t.fr), .lst true 1 (Is v1.t.to), .lst true 1 (Is v1.t.id), .lst true 1 (Ls v1.t.cs), .lst true 1 (Is v1.ob), .lst true 1 (Is v1.ar)], [1, 2, 3, 4, 5, 6, 7, 8, 9, 10], by simp [Cat.cells, Fn.cells, Is_append, Is_one, Ls_append, Ls_one, Bs_append, Bs_one, Es_append, Es_one, Es_set', eB, eI, eL], by simp, (UpL.refl _)⟩
noncomputable def s_i_firstFailure__i_commutes (t_ : Tra) : Option Int :=
 (loopF (σ := Int) (ε := Unit ⊕ Int) (fun s6 =>
   if s6 < (t_.s.ar.length : Int) then
     (s_i_commutes t_.s t_.t t_.p s6).bind fun v8 =>
     if ¬ (v8 = true) then
       some (Ctl.ret (Sum.inr s6))
     else
       ass (B64 (s6 + 1)) <|
       some (Ctl.next (s6 + 1))
   else
     some (Ctl.ret (Sum.inl ()))) fuel 0).bind fun e1 =>
 match e1 with
 | .inl b1 =>
   some (-1)
 | .inr p1 =>
   some p1
set_option maxHeartbeats 4000000 in
theorem w_i_firstFailure__i_commutes (t_ : Tra) (r : Int) (h : s_i_firstFailure__i_commutes t_ = some r) : Contract Try.prog 185 [.rptr (t_.cells true), .fn 186 []] (.val (.int .i64 r)) := by
 refine contract_introG (rvs := [.tmp 4]) (rs := [.val (.int .i64 r)]) Try.func185 rfl rfl rfl rfl (by simp [Try.f185]) fun F hN hP => ?_
 unfold s_i_firstFailure__i_commutes at h
 refine w_seq ?_
 refine w_run mo (by rw [hN]; decide) fun K hK => ?_
 simp [-guardE_b, -Is_at, -Is_at', -Ls_at, -Ls_at', eL, eI, allInts, eP_Fn, eP_Tra, Fn.cells, Tra.cells]
 repeat (with_reducible refine And.intro ?_ ?_; · first | assumption | omega | (simp; done) | (simp; omega) | simp_all)
 refine hK _ ?_
 clear hK K
 refine tn ?_
 refine w_weak (st' := ⟨[(0, .rptr [.val (.int .i64 t_.s.s.n), .lst true 1 (Is t_.s.s.fr), .lst true 1 (Is t_.s.s.to), .lst true 1 (Is t_.s.s.id), .lst true 1 (Ls t_.s.s.cs), .val (.int .i64 t_.s.t.n), .lst true 1 (Is t_.s.t.fr), .lst true 1 (Is t_.s.t.to), .lst true 1 (Is t_.s.t.id), .lst true 1 (Ls t_.s.t.cs), .lst true 1 (Is t_.s.ob), .lst true 1 (Is t_.s.ar), .val (.int .i64 t_.t.s.n), .lst true 1 (Is t_.t.s.fr), .lst true 1 (Is t_.t.s.to), .lst true 1 (Is t_.t.s.id), .lst true 1 (Ls t_.t.s.cs), .val (.int .i64 t_.t.t.n), .lst true 1 (Is t_.t.t.fr), .lst true 1 (Is t_.t.t.to), .lst true 1 (Is t_.t.t.id), .lst true 1 (Ls t_.t.t.cs), .lst true 1 (Is t_.t.ob), .lst true 1 (Is t_.t.ar), .lst true 1 (Is t_.p)]), (1, .fn 186 [])], [], 0⟩) (Wk.rel [] (by simp) (by simp) (by rw [hP]; simp) (by simp) (by simp) (by simp [Fn.cells, Tra.cells, Is_append, Is_one, Ls_append, Ls_one, Bs_append, Bs_one, Es_append, Es_one, Es_set', eB, eI, eL]) (by simp [hhOk, back, Fn.cells, Tra.cells, Is_append, Is_one, Ls_append, Ls_one, Bs_append, Bs_one, Es_append, Es_one, Es_set', eB, eI, eL])) ?_
 refine w_seq ?_
 refine w_seq ?_
 refine w_run mo (by rw [hN]; decide) fun K hK => ?_
 simp [-guardE_b, -Is_at, -Is_at', -Ls_at, -Ls_at', eL, eI, allInts, eP_Fn, eP_Tra, Fn.cells, Tra.cells]
 repeat (with_reducible refine And.intro ?_ ?_; · first | assumption | omega | (simp; done) | (simp; omega) | simp_all)
 refine hK _ ?_
 clear hK K
 refine tn ?_
 refine w_weak (st' := ⟨[(0, .rptr [.val (.int .i64 t_.s.s.n), .lst true 1 (Is t_.s.s.fr), .lst true 1 (Is t_.s.s.to), .lst true 1 (Is t_.s.s.id), .lst true 1 (Ls t_.s.s.cs), .val (.int .i64 t_.s.t.n), .lst true 1 (Is t_.s.t.fr), .lst true 1 (Is t_.s.t.to), .lst true 1 (Is t_.s.t.id), .lst true 1 (Ls t_.s.t.cs), .lst true 1 (Is t_.s.ob), .lst true 1 (Is t_.s.ar), .val (.int .i64 t_.t.s.n), .lst true 1 (Is t_.t.s.fr), .lst true 1 (Is t_.t.s.to), .lst true 1 (Is t_.t.s.id), .lst true 1 (Ls t_.t.s.cs), .val (.int .i64 t_.t.t.n), .lst true 1 (Is t_.t.t.fr), .lst true 1 (Is t_.t.t.to), .lst true 1 (Is t_.t.t.id), .lst true 1 (Ls t_.t.t.cs), .lst true 1 (Is t_.t.ob), .lst true 1 (Is t_.t.ar), .lst true 1 (Is t_.p)]), (1, .fn 186 []), (11, .val (.int .i64 (t_.s.ar.length : Int))), (12, .val (.int .i64 0))], [], 0⟩) (Wk.rel [] (by simp) (by simp) (by rw [hP]; simp) (by simp) (by simp) (by simp [Fn.cells, Tra.cells, Is_append, Is_one, Ls_append, Ls_one, Bs_append, Bs_one, Es_append, Es_one, Es_set', eB, eI, eL]) (by simp [hhOk, back, Fn.cells, Tra.cells, Is_append, Is_one, Ls_append, Ls_one, Bs_append, Bs_one, Es_append, Es_one, Es_set', eB, eI, eL])) ?_
 replace h := bind_some h
 obtain ⟨e1, h, h1⟩ := h
 refine w_joinT (fun b1 : Unit => ⟨[], [], 0⟩) (fun b1 => Sum.inl b1 = e1) ?_ ?_
 · refine w_block ?_
   refine w_loopF h (fun s6 : Int => ⟨[(0, .rptr [.val (.int .i64 t_.s.s.n), .lst true 1 (Is t_.s.s.fr), .lst true 1 (Is t_.s.s.to), .lst true 1 (Is t_.s.s.id), .lst true 1 (Ls t_.s.s.cs), .val (.int .i64 t_.s.t.n), .lst true 1 (Is t_.s.t.fr), .lst true 1 (Is t_.s.t.to), .lst true 1 (Is t_.s.t.id), .lst true 1 (Ls t_.s.t.cs), .lst true 1 (Is t_.s.ob), .lst true 1 (Is t_.s.ar), .val (.int .i64 t_.t.s.n), .lst true 1 (Is t_.t.s.fr), .lst true 1 (Is t_.t.s.to), .lst true 1 (Is t_.t.s.id), .lst true 1 (Ls t_.t.s.cs), .val (.int .i64 t_.t.t.n), .lst true 1 (Is t_.t.t.fr), .lst true 1 (Is t_.t.t.to), .lst true 1 (Is t_.t.t.id), .lst true 1 (Ls t_.t.t.cs), .lst true 1 (Is t_.t.ob), .lst true 1 (Is t_.t.ar), .lst true 1 (Is t_.p)]), (1, .fn 186 []), (11, .val (.int .i64 (t_.s.ar.length : Int))), (12, .val (.int .i64 s6))], [], 0⟩) (Wk.rel [] (by simp) (by simp) (by rw [hP]; simp) (by simp) (by simp) (by simp [Fn.cells, Tra.cells, Is_append, Is_one, Ls_append, Ls_one, Bs_append, Bs_one, Es_append, Es_one, Es_set', eB, eI, eL]) (by simp [hhOk, back, Fn.cells, Tra.cells, Is_append, Is_one, Ls_append, Ls_one, Bs_append, Bs_one, Es_append, Es_one, Es_set', eB, eI, eL])) ?_
   clear h
   intro k6 s6 c6 h hk6
   refine w_seq ?_
   refine w_run mo (by rw [hN]; decide) fun K hK => ?_
   simp [-guardE_b, -Is_at, -Is_at', -Ls_at, -Ls_at', eL, eI, allInts, eP_Fn, eP_Tra, Fn.cells, Tra.cells]
   repeat (with_reducible refine And.intro ?_ ?_; · first | assumption | omega | (simp; done) | (simp; omega) | simp_all)
   refine hK _ ?_
   clear hK K
   refine tn ?_
   refine w_weak (st' := ⟨[(0, .rptr [.val (.int .i64 t_.s.s.n), .lst true 1 (Is t_.s.s.fr), .lst true 1 (Is t_.s.s.to), .lst true 1 (Is t_.s.s.id), .lst true 1 (Ls t_.s.s.cs), .val (.int .i64 t_.s.t.n), .lst true 1 (Is t_.s.t.fr), .lst true 1 (Is t_.s.t.to), .lst true 1 (Is t_.s.t.id), .lst true 1 (Ls t_.s.t.cs), .lst true 1 (Is t_.s.ob), .lst true 1 (Is t_.s.ar), .val (.int .i64 t_.t.s.n), .lst true 1 (Is t_.t.s.fr), .lst true 1 (Is t_.t.s.to), .lst true 1 (Is t_.t.s.id), .lst true 1 (Ls t_.t.s.cs), .val (.int .i64 t_.t.t.n), .lst true 1 (Is t_.t.t.fr), .lst true 1 (Is t_.t.t.to), .lst true 1 (Is t_.t.t.id), .lst true 1 (Ls t_.t.t.cs), .lst true 1 (Is t_.t.ob), .lst true 1 (Is t_.t.ar), .lst true 1 (Is t_.p)]), (1, .fn 186 []), (11, .val (.int .i64 (t_.s.ar.length : Int))), (12, .val (.int .i64 s6)), (13, .val (.bool (decide (s6 < (t_.s.ar.length : Int)))))], [], 0⟩) (Wk.rel [] (by simp) (by simp) (by rw [hP]; simp) (by simp) (by simp) (by simp [Fn.cells, Tra.cells, Is_append, Is_one, Ls_append, Ls_one, Bs_append, Bs_one, Es_append, Es_one, Es_set', eB, eI, eL]) (by simp [hhOk, back, Fn.cells, Tra.cells, Is_append, Is_one, Ls_append, Ls_one, Bs_append, Bs_one, Es_append, Es_one, Es_set', eB, eI, eL])) ?_
   refine w_seq ?_
   refine w_cond rfl (fun g => ?_) fun g => ?_
   · have g7 : s6 < (t_.s.ar.length : Int) := by first | simpa using g | (simp at g; exact g) | (simp at g; omega)
     clear g
     replace h := if_l g7 h
     refine w_skip ?_
     refine tn ?_
     refine w_seq ?_
     refine w_block ?_
     refine w_seq ?_
     refine w_run mo (by rw [hN]; decide) fun K hK => ?_
     simp [-guardE_b, -Is_at, -Is_at', -Ls_at, -Ls_at', eL, eI, allInts, eP_Fn, eP_Tra, Fn.cells, Tra.cells]
     repeat (with_reducible refine And.intro ?_ ?_; · first | assumption | omega | (simp; done) | (simp; omega) | simp_all)
     refine hK _ ?_
     clear hK K
     refine tn ?_
     refine w_weak (st' := ⟨[(0, .rptr [.val (.int .i64 t_.s.s.n), .lst true 1 (Is t_.s.s.fr), .lst true 1 (Is t_.s.s.to), .lst true 1 (Is t_.s.s.id), .lst true 1 (Ls t_.s.s.cs), .val (.int .i64 t_.s.t.n), .lst true 1 (Is t_.s.t.fr), .lst true 1 (Is t_.s.t.to), .lst true 1 (Is t_.s.t.id), .lst true 1 (Ls t_.s.t.cs), .lst true 1 (Is t_.s.ob), .lst true 1 (Is t_.s.ar), .val (.int .i64 t_.t.s.n), .lst true 1 (Is t_.t.s.fr), .lst true 1 (Is t_.t.s.to), .lst true 1 (Is t_.t.s.id), .lst true 1 (Ls t_.t.s.cs), .val (.int .i64 t_.t.t.n), .lst true 1 (Is t_.t.t.fr), .lst true 1 (Is t_.t.t.to), .lst true 1 (Is t_.t.t.id), .lst true 1 (Ls t_.t.t.cs), .lst true 1 (Is t_.t.ob), .lst true 1 (Is t_.t.ar), .lst true 1 (Is t_.p)]), (1, .fn 186 []), (5, .val (.int .i64 s6)), (11, .val (.int .i64 (t_.s.ar.length : Int))), (12, .val (.int .i64 s6))], [], 0⟩) (Wk.rel [] (by simp) (by simp) (by rw [hP]; simp) (by simp) (by simp) (by simp [Fn.cells, Tra.cells, Is_append, Is_one, Ls_append, Ls_one, Bs_append, Bs_one, Es_append, Es_one, Es_set', eB, eI, eL]) (by simp [hhOk, back, Fn.cells, Tra.cells, Is_append, Is_one, Ls_append, Ls_one, Bs_append, Bs_one, Es_append, Es_one, Es_set', eB, eI, eL])) ?_
     refine w_seq ?_
     refine w_run mo (by rw [hN]; decide) fun K hK => ?_
     simp [-guardE_b, -Is_at, -Is_at', -Ls_at, -Ls_at', eL, eI, allInts, eP_Fn, eP_Tra, Fn.cells, Tra.cells]
     repeat (with_reducible refine And.intro ?_ ?_; · first | assumption | omega | (simp; done) | (simp; omega) | simp_all)
     replace h := bind_some h
     obtain ⟨v8, hv8, h⟩ := h
     refine callA_intro (w_i_commutes _ _ _ _ v8 hv8) (.cons (.preT (by simp [Fn.cells, Tra.cells])) (.cons (.preT (by simp [Fn.cells, Tra.cells])) (.cons .lst (.cons .val .nil)))) ?_
     simp [-guardE_b, -Is_at, -Is_at', -Ls_at, -Ls_at', unk, unA, unE, unT, unC, flat, eL, eI, allInts, eP_Fn, eP_Tra, Fn.cells, Tra.cells]
     repeat (with_reducible refine And.intro ?_ ?_; · first | assumption | omega | (simp; done) | (simp; omega) | simp_all)
     refine hK _ ?_
     clear hK K
     refine tn ?_
     refine w_weak (st' := ⟨[(0, .rptr [.val (.int .i64 t_.s.s.n), .lst true 1 (Is t_.s.s.fr), .lst true 1 (Is t_.s.s.to), .lst true 1 (Is t_.s.s.id), .lst true 1 (Ls t_.s.s.cs), .val (.int .i64 t_.s.t.n), .lst true 1 (Is t_.s.t.fr), .lst true 1 (Is t_.s.t.to), .lst true 1 (Is t_.s.t.id), .lst true 1 (Ls t_.s.t.cs), .lst true 1 (Is t_.s.ob), .lst true 1 (Is t_.s.ar), .val (.int .i64 t_.t.s.n), .lst true 1 (Is t_.t.s.fr), .lst true 1 (Is t_.t.s.to), .lst true 1 (Is t_.t.s.id), .lst true 1 (Ls t_.t.s.cs), .val (.int .i64 t_.t.t.n), .lst true 1 (Is t_.t.t.fr), .lst true 1 (Is t_.t.t.to), .lst true 1 (Is t_.t.t.id), .lst true 1 (Ls t_.t.t.cs), .lst true 1 (Is t_.t.ob), .lst true 1 (Is t_.t.ar), .lst true 1 (Is t_.p)]), (1, .fn 186 []), (5, .val (.int .i64 s6)), (11, .val (.int .i64 (t_.s.ar.length : Int))), (12, .val (.int .i64 s6)), (28, .val (.bool (!v8)))], [], 0⟩) (Wk.rel [] (by simp) (by simp) (by rw [hP]; simp) (by simp) (by simp) (by simp [Fn.cells, Tra.cells, Is_append, Is_one, Ls_append, Ls_one, Bs_append, Bs_one, Es_append, Es_one, Es_set', eB, eI, eL]) (by simp [hhOk, back, Fn.cells, Tra.cells, Is_append, Is_one, Ls_append, Ls_one, Bs_append, Bs_one, Es_append, Es_one, Es_set', eB, eI, eL])) ?_
     refine w_cond rfl (fun g => ?_) fun g => ?_
     · have g9 : ¬ (v8 = true) := by first | simpa using g | (simp at g; exact g) | (simp at g; omega)
       clear g
       replace h := if_l g9 h
       refine w_seq ?_
       refine w_run mo (by rw [hN]; decide) fun K hK => ?_
       simp [-guardE_b, -Is_at, -Is_at', -Ls_at, -Ls_at', eL, eI, allInts, eP_Fn, eP_Tra, Fn.cells, Tra.cells]
       repeat (with_reducible refine And.intro ?_ ?_; · first | assumption | omega | (simp; done) | (simp; omega) | simp_all)
       refine hK _ ?_
       clear hK K
       refine tn ?_
       refine w_weak (st' := ⟨[(4, .val (.int .i64 s6))], [], 0⟩) (Wk.rel [] (by simp) (by simp) (by rw [hP]; simp) (by simp) (by simp) (by simp [Fn.cells, Tra.cells, Is_append, Is_one, Ls_append, Ls_one, Bs_append, Bs_one, Es_append, Es_one, Es_set', eB, eI, eL]) (by simp [hhOk, back, Fn.cells, Tra.cells, Is_append, Is_one, Ls_append, Ls_one, Bs_append, Bs_one, Es_append, Es_one, Es_set', eB, eI, eL])) ?_
       refine w_ret ?_
       refine br ?_
       refine tr ?_
       refine lr ?_
       refine br ?_
       refine tr ?_
       cases h
       have q : _ = e1 := hk6
       have h := h1
       rw [← q] at h
       clear q
       try dsimp only at h
       have hr := Option.some.inj h
       rw [← hr]
       refine ⟨_, (.tmp .nil), ?_⟩
       refine ⟨(.one rfl rfl .nil), [.val (.int .i64 s6)], [], by simp [Fn.cells, Tra.cells, Is_append, Is_one, Ls_append, Ls_one, Bs_append, Bs_one, Es_append, Es_one, Es_set', eB, eI, eL], by simp, (UpL.refl _)⟩
     have g9 : ¬ (¬ (v8 = true)) := by first | simpa using g | (simp at g; exact g) | (simp at g; omega)
     clear g
     replace h := if_r g9 h
     refine w_skip ?_
     refine bn ?_
     refine tn ?_
     refine w_run mo (by rw [hN]; decide) fun K hK => ?_
     replace h := ass_some h
     obtain ⟨a10, h⟩ := h
     simp [-guardE_b, -Is_at, -Is_at', -Ls_at, -Ls_at', eL, eI, allInts, eP_Fn, eP_Tra, Fn.cells, Tra.cells, wrap_id a10]
     repeat (with_reducible refine And.intro ?_ ?_; · first | assumption | omega | (simp; done) | (simp; omega) | simp_all)
     refine hK _ ?_
     clear hK K
     cases h
     exact rn (s' := s6 + 1) hk6 (Wk.rel [] (by simp) (by simp) (by rw [hP]; simp) (by simp) (by simp) (by simp [Fn.cells, Tra.cells, Is_append, Is_one, Ls_append, Ls_one, Bs_append, Bs_one, Es_append, Es_one, Es_set', eB, eI, eL]) (by simp [hhOk, back, Fn.cells, Tra.cells, Is_append, Is_one, Ls_append, Ls_one, Bs_append, Bs_one, Es_append, Es_one, Es_set', eB, eI, eL]))
   have g7 : ¬ (s6 < (t_.s.ar.length : Int)) := by first | simpa using g | (simp at g; exact g) | (simp at g; omega)
   clear g
   replace h := if_r g7 h
   refine w_exit ?_
   refine tx ?_
   refine lx ?_
   refine bh ?_
   cases h
   exact jn (b := ()) hk6 (Wk.rel [] (by simp) (by simp) (by rw [hP]; simp) (by simp) (by simp) (by simp [Fn.cells, Tra.cells, Is_append, Is_one, Ls_append, Ls_one, Bs_append, Bs_one, Es_append, Es_one, Es_set', eB, eI, eL]) (by simp [hhOk, back, Fn.cells, Tra.cells, Is_append, Is_one, Ls_append, Ls_one, Bs_append, Bs_one, Es_append, Es_one, Es_set', eB, eI, eL]))
 intro b1 hb1
 have h := h1
 rw [← hb1] at h
 clear h1
 try dsimp only at h
 refine w_seq ?_
 refine w_run mo (by rw [hN]; decide) fun K hK => ?_
 simp [-guardE_b, -Is_at, -Is_at', -Ls_at, -Ls_at', eL, eI, allInts, eP_Fn, eP_Tra, Fn.cells, Tra.cells]
 repeat (with_reducible refine And.intro ?_ ?_; · first | assumption | omega | (simp; done) | (simp; omega) | simp_all)
 refine hK _ ?_
 clear hK K
 refine tn ?_
 refine w_weak (st' := ⟨[(4, .val (.int .i64 (-1)))], [], 0⟩) (Wk.rel [] (by simp) (by simp) (by rw [hP]; simp) (by simp) (by simp) (by simp [Fn.cells, Tra.cells, Is_append, Is_one, Ls_append, Ls_one, Bs_append, Bs_one, Es_append, Es_one, Es_set', eB, eI, eL]) (by simp [hhOk, back, Fn.cells, Tra.cells, Is_append, Is_one, Ls_append, Ls_one, Bs_append, Bs_one, Es_append, Es_one, Es_set', eB, eI, eL])) ?_
 refine w_ret ?_
 have hr := Option.some.inj h
 rw [← hr]
 refine ⟨_, (.tmp .nil), ?_⟩
 refine ⟨(.one rfl rfl .nil), [.val (.int .i64 (-1))], [], by simp [Fn.cells, Tra.cells, Is_append, Is_one, Ls_append, Ls_one, Bs_append, Bs_one, Es_append, Es_one, Es_set', eB, eI, eL], by simp, (UpL.refl _)⟩
noncomputable def s_i_Functor_copy (f_ : Fn) : Option Fn :=
 (s_i_functor f_.s f_.t f_.ob f_.ar).bind fun v1 =>
 some v1
set_option maxHeartbeats 4000000 in
theorem w_i_Functor_copy (f_ : Fn) (r : Fn) (h : s_i_Functor_copy f_ = some r) : Contract Try.prog 187 [.rptr (f_.cells true)] (.agg (r.cells true)) := by
 refine contract_introG (rvs := [.cell 2 35]) (rs := [.agg (r.cells true)]) Try.func187 rfl rfl rfl rfl (by simp [Try.f187]) fun F hN hP => ?_
 unfold s_i_Functor_copy at h
 refine w_seq ?_
 refine w_run mo (by rw [hN]; decide) fun K hK => ?_
 simp [-guardE_b, -Is_at, -Is_at', -Ls_at, -Ls_at', eL, eI, allInts, eP_Cat, eP_Fn, Cat.cells, Fn.cells]
 repeat (with_reducible refine And.intro ?_ ?_; · first | assumption | omega | (simp; done) | (simp; omega) | simp_all)
 refine hK _ ?_
 clear hK K
 refine tn ?_
 refine w_weak (st' := ⟨[(0, .rptr [.val (.int .i64 f_.s.n), .lst true 1 (Is f_.s.fr), .lst true 1 (Is f_.s.to), .lst true 1 (Is f_.s.id), .lst true 1 (Ls f_.s.cs), .val (.int .i64 f_.t.n), .lst true 1 (Is f_.t.fr), .lst true 1 (Is f_.t.to), .lst true 1 (Is f_.t.id), .lst true 1 (Ls f_.t.cs), .lst true 1 (Is f_.ob), .lst true 1 (Is f_.ar)]), (2, .adr 0 0 0)], [(0, .mix 12 [[.val (.int .i64 0), .val (.slice none 0 0), .val (.slice none 0 0), .val (.slice none 0 0), .val (.slice none 0 0), .val (.int .i64 0), .val (.slice none 0 0), .val (.slice none 0 0), .val (.slice none 0 0), .val (.slice none 0 0), .val (.slice none 0 0), .val (.slice none 0 0)]])], 1⟩) (Wk.rel [(0, 0)] (by simp) (by simp) (by rw [hP]; simp) (by simp) (by simp) (by simp [Cat.cells, Fn.cells, Is_append, Is_one, Ls_append, Ls_one, Bs_append, Bs_one, Es_append, Es_one, Es_set', eB, eI, eL]) (by simp [hhOk, back, Cat.cells, Fn.cells, Is_append, Is_one, Ls_append, Ls_one, Bs_append, Bs_one, Es_append, Es_one, Es_set', eB, eI, eL])) ?_
 refine w_seq ?_
 refine w_run mo (by rw [hN]; decide) fun K hK => ?_
 simp [-guardE_b, -Is_at, -Is_at', -Ls_at, -Ls_at', eL, eI, allInts, eP_Cat, eP_Fn, Cat.cells, Fn.cells]
 repeat (with_reducible refine And.intro ?_ ?_; · first | assumption | omega | (simp; done) | (simp; omega) | simp_all)
 replace h := bind_some h
 obtain ⟨v1, hv1, h⟩ := h
 refine callA_intro (w_i_functor _ _ _ _ v1 hv1) (.cons (.preT (by simp [Cat.cells, Fn.cells])) (.cons (.preT (by simp [Cat.cells, Fn.cells])) (.cons .lst (.cons .lst .nil)))) ?_
 simp [-guardE_b, -Is_at, -Is_at', -Ls_at, -Ls_at', unk, unA, unE, unT, unC, flat, eL, eI, allInts, eP_Cat, eP_Fn, Cat.cells, Fn.cells]
 repeat (with_reducible refine And.intro ?_ ?_; · first | assumption | omega | (simp; done) | (simp; omega) | simp_all)
 refine hK _ ?_
 clear hK K
 refine tn ?_
 refine w_weak (st' := ⟨[(2, .adr 0 0 0)], [(0, .mix 12 [[.val (.int .i64 v1.s.n), .own 1 0 v1.s.fr.length, .own 2 0 v1.s.to.length, .own 3 0 v1.s.id.length, .own 4 0 v1.s.cs.length, .val (.int .i64 v1.t.n), .own 5 0 v1.t.fr.length, .own 6 0 v1.t.to.length, .own 7 0 v1.t.id.length, .own 8 0 v1.t.cs.length, .own 9 0 v1.ob.length, .own 10 0 v1.ar.length]]), (1, .row 1 (Is v1.s.fr)), (2, .row 1 (Is v1.s.to)), (3, .row 1 (Is v1.s.id)), (4, .row 1 (Ls v1.s.cs)), (5, .row 1 (Is v1.t.fr)), (6, .row 1 (Is v1.t.to)), (7, .row 1 (Is v1.t.id)), (8, .row 1 (Ls v1.t.cs)), (9, .row 1 (Is v1.ob)), (10, .row 1 (Is v1.ar))], 11⟩) (Wk.rel [(0, 0), (2, 1), (3, 2), (4, 3), (5, 4), (7, 5), (8, 6), (9, 7), (10, 8), (11, 9), (12, 10)] (by simp) (by simp) (by rw [hP]; simp) (by simp) (by simp) (by simp [Cat.cells, Fn.cells, Is_append, Is_one, Ls_append, Ls_one, Bs_append, Bs_one, Es_append, Es_one, Es_set', eB, eI, eL]) (by simp [hhOk, back, Cat.cells, Fn.cells, Is_append, Is_one, Ls_append, Ls_one, Bs_append, Bs_one, Es_append, Es_one, Es_set', eB, eI, eL])) ?_
 refine w_ret ?_
 have hr := Option.some.inj h
 rw [← hr]
 refine ⟨_, (.cell tf_35 rfl rfl rfl (by simp) (by simp) .nil), ?_⟩
 refine ⟨(.agg rfl .nil), [.val (.int .i64 v1.s.n), .lst true 1 (Is v1.s.fr), .lst true 1 (Is v1.s.to), .lst true 1 (Is v1.s.id), .lst true 1 (Ls v1.s.cs), .val (.int .i64 v1.t.n), .lst true 1 (Is v1.t.fr), .lst true 1 (Is v1.t.to), .lst true 1 (Is v1.t.id), .lst true 1 (Ls v1.t.cs), .lst true 1 (Is v1.ob), .lst true 1 (Is v1.ar)], [1, 2, 3, 4, 5, 6, 7, 8, 9, 10], by simp [Cat.cells, Fn.cells, Is_append, Is_one, Ls_append, Ls_one, Bs_append, Bs_one, Es_append, Es_one, Es_set', eB, eI, eL], by simp, (UpL.refl _)⟩
end Go.Vc.T

set_option maxRecDepth 100000
set_option linter.unusedSimpArgs false
set_option linter.unusedVariables false
namespace Go.Vc.T
open Go Go.Vc Go.Proofs
noncomputable def s_i_areCategories (list_ : List Cat) : Option Bool :=
 (loopF (σ := Int) (ε := Unit ⊕ Bool) (fun s7 =>
   if s7 < (list_.length : Int) then
     ass (0 ≤ s7 ∧ s7 < (list_.length : Int)) <|
     (s_i_Category_isCategory (gx list_ s7)).bind fun v10 =>
     if ¬ (v10 = true) then
       some (Ctl.ret (Sum.inr false))
     else
       ass (B64 (s7 + 1)) <|
       some (Ctl.next (s7 + 1))
   else
     some (Ctl.ret (Sum.inl ()))) fuel 0).bind fun e1 =>
 match e1 with
 | .inl b1 =>
   some true
 | .inr p1 =>
   some p1
set_option maxHeartbeats 4000000 in
theorem w_i_areCategories (list_ : List Cat) (r : Bool) (h : s_i_areCategories list_ = some r) : Contract Try.prog 224 [.lst true 1 (Es eP_Cat list_)] (.val (.bool r)) := by
 refine contract_introG (rvs := [.tmp 2]) (rs := [.val (.bool r)]) Try.func224 rfl rfl rfl rfl (by simp [Try.f224]) fun F hN hP => ?_
 unfold s_i_areCategories at h
 refine w_seq ?_
 refine w_run mo (by rw [hN]; decide) fun K hK => ?_
 simp [-guardE_b, -Is_at, -Is_at', -Ls_at, -Ls_at', eL, eI, allInts, eP_Cat, Cat.cells]
 repeat (with_reducible refine And.intro ?_ ?_; · first | assumption | omega | (simp; done) | (simp; omega) | simp_all)
 refine hK _ ?_
 clear hK K
 refine tn ?_
 refine w_weak (st' := ⟨[(0, .lst true 1 (Es eP_Cat list_))], [], 0⟩) (Wk.rel [] (by simp) (by simp) (by rw [hP]; simp) (by simp) (by simp) (by simp [Cat.cells, Is_append, Is_one, Ls_append, Ls_one, Bs_append, Bs_one, Es_append, Es_one, Es_set', eB, eI, eL]) (by simp [hhOk, back, Cat.cells, Is_append, Is_one, Ls_append, Ls_one, Bs_append, Bs_one, Es_append, Es_one, Es_set', eB, eI, eL])) ?_
 refine w_seq ?_
 refine w_seq ?_
 refine w_run mo (by rw [hN]; decide) fun K hK => ?_
 simp [-guardE_b, -Is_at, -Is_at', -Ls_at, -Ls_at', eL, eI, allInts, eP_Cat, Cat.cells]
 repeat (with_reducible refine And.intro ?_ ?_; · first | assumption | omega | (simp; done) | (simp; omega) | simp_all)
 refine hK _ ?_
 clear hK K
 refine tn ?_
 refine w_weak (st' := ⟨[(5, .lst true 1 (Es eP_Cat list_)), (6, .val (.int .i64 (list_.length : Int))), (7, .val (.int .i64 0))], [], 0⟩) (Wk.rel [] (by simp) (by simp) (by rw [hP]; simp) (by simp) (by simp) (by simp [Cat.cells, Is_append, Is_one, Ls_append, Ls_one, Bs_append, Bs_one, Es_append, Es_one, Es_set', eB, eI, eL]) (by simp [hhOk, back, Cat.cells, Is_append, Is_one, Ls_append, Ls_one, Bs_append, Bs_one, Es_append, Es_one, Es_set', eB, eI, eL])) ?_
 replace h := bind_some h
 obtain ⟨e1, h, h1⟩ := h
 refine w_joinT (fun b1 : Unit => ⟨[], [], 0⟩) (fun b1 => Sum.inl b1 = e1) ?_ ?_
 · refine w_block ?_
   refine w_loopF h (fun s7 : Int => ⟨[(5, .lst true 1 (Es eP_Cat list_)), (6, .val (.int .i64 (list_.length : Int))), (7, .val (.int .i64 s7))], [], 0⟩) (Wk.rel [] (by simp) (by simp) (by rw [hP]; simp) (by simp) (by simp) (by simp [Cat.cells, Is_append, Is_one, Ls_append, Ls_one, Bs_append, Bs_one, Es_append, Es_one, Es_set', eB, eI, eL]) (by simp [hhOk, back, Cat.cells, Is_append, Is_one, Ls_append, Ls_one, Bs_append, Bs_one, Es_append, Es_one, Es_set', eB, eI, eL])) ?_
   clear h
   intro k7 s7 c7 h hk7
   refine w_seq ?_
   refine w_run mo (by rw [hN]; decide) fun K hK => ?_
   simp [-guardE_b, -Is_at, -Is_at', -Ls_at, -Ls_at', eL, eI, allInts, eP_Cat, Cat.cells]
   repeat (with_reducible refine And.intro ?_ ?_; · first | assumption | omega | (simp; done) | (simp; omega) | simp_all)
   refine hK _ ?_
   clear hK K
   refine tn ?_
   refine w_weak (st' := ⟨[(5, .lst true 1 (Es eP_Cat list_)), (6, .val (.int .i64 (list_.length : Int))), (7, .val (.int .i64 s7)), (8, .val (.bool (decide (s7 < (list_.length : Int)))))], [], 0⟩) (Wk.rel [] (by simp) (by simp) (by rw [hP]; simp) (by simp) (by simp) (by simp [Cat.cells, Is_append, Is_one, Ls_append, Ls_one, Bs_append, Bs_one, Es_append, Es_one, Es_set', eB, eI, eL]) (by simp [hhOk, back, Cat.cells, Is_append, Is_one, Ls_append, Ls_one, Bs_append, Bs_one, Es_append, Es_one, Es_set', eB, eI, eL])) ?_
   refine w_seq ?_
   refine w_cond rfl (fun g => ?_) fun g => ?_
   · have g8 : s7 < (list_.length : Int) := by first | simpa using g | (simp at g; exact g) | (simp at g; omega)
     clear g
     replace h := if_l g8 h
     refine w_skip ?_
     refine tn ?_
     refine w_seq ?_
     refine w_block ?_
     refine w_seq ?_
     refine w_run mo (by rw [hN]; decide) fun K hK => ?_
     replace h := ass_some h
     obtain ⟨a9, h⟩ := h
     simp [-guardE_b, -Is_at, -Is_at', -Ls_at, -Ls_at', eL, eI, allInts, eP_Cat, Cat.cells, at_E (c := eP_Cat) a9]
     repeat (with_reducible refine And.intro ?_ ?_; · first | assumption | omega | (simp; done) | (simp; omega) | simp_all)
     refine hK _ ?_
     clear hK K
     refine tn ?_
     refine w_weak (st' := ⟨[(4, .rptr [.val (.int .i64 ((gx list_ s7).n)), .lst true 1 (Is ((gx list_ s7).fr)), .lst true 1 (Is ((gx list_ s7).to)), .lst true 1 (Is ((gx list_ s7).id)), .lst true 1 (Ls ((gx list_ s7).cs))]), (5, .lst true 1 (Es eP_Cat list_)), (6, .val (.int .i64 (list_.length : Int))), (7, .val (.int .i64 s7))], [], 0⟩) (Wk.rel [] (by simp) (by simp) (by rw [hP]; simp) (by simp) (by simp) (by simp [Cat.cells, Is_append, Is_one, Ls_append, Ls_one, Bs_append, Bs_one, Es_append, Es_one, Es_set', eB, eI, eL]) (by simp [hhOk, back, Cat.cells, Is_append, Is_one, Ls_append, Ls_one, Bs_append, Bs_one, Es_append, Es_one, Es_set', eB, eI, eL])) ?_
     refine w_seq ?_
     refine w_run mo (by rw [hN]; decide) fun K hK => ?_
     simp [-guardE_b, -Is_at, -Is_at', -Ls_at, -Ls_at', eL, eI, allInts, eP_Cat, Cat.cells]
     repeat (with_reducible refine And.intro ?_ ?_; · first | assumption | omega | (simp; done) | (simp; omega) | simp_all)
     replace h := bind_some h
     obtain ⟨v10, hv10, h⟩ := h
     refine callA_intro (w_i_Category_isCategory _ v10 hv10) (.cons (.preT (by simp [Cat.cells])) .nil) ?_
     simp [-guardE_b, -Is_at, -Is_at', -Ls_at, -Ls_at', unk, unA, unE, unT, unC, flat, eL, eI, allInts, eP_Cat, Cat.cells]
     repeat (with_reducible refine And.intro ?_ ?_; · first | assumption | omega | (simp; done) | (simp; omega) | simp_all)
     refine hK _ ?_
     clear hK K
     refine tn ?_
     refine w_weak (st' := ⟨[(5, .lst true 1 (Es eP_Cat list_)), (6, .val (.int .i64 (list_.length : Int))), (7, .val (.int .i64 s7)), (13, .val (.bool (!v10)))], [], 0⟩) (Wk.rel [] (by simp) (by simp) (by rw [hP]; simp) (by simp) (by simp) (by simp [Cat.cells, Is_append, Is_one, Ls_append, Ls_one, Bs_append, Bs_one, Es_append, Es_one, Es_set', eB, eI, eL]) (by simp [hhOk, back, Cat.cells, Is_append, Is_one, Ls_append, Ls_one, Bs_append, Bs_one, Es_append, Es_one, Es_set', eB, eI, eL])) ?_
     refine w_cond rfl (fun g => ?_) fun g => ?_
     · have g11 : ¬ (v10 = true) := by first | simpa using g | (simp at g; exact g) | (simp at g; omega)
       clear g
       replace h := if_l g11 h
       refine w_seq ?_
       refine w_run mo (by rw [hN]; decide) fun K hK => ?_
       simp [-guardE_b, -Is_at, -Is_at', -Ls_at, -Ls_at', eL, eI, allInts, eP_Cat, Cat.cells]
       repeat (with_reducible refine And.intro ?_ ?_; · first | assumption | omega | (simp; done) | (simp; omega) | simp_all)
       refine hK _ ?_
       clear hK K
       refine tn ?_
       refine w_weak (st' := ⟨[(2, .val (.bool false))], [], 0⟩) (Wk.rel [] (by simp) (by simp) (by rw [hP]; simp) (by simp) (by simp) (by simp [Cat.cells, Is_append, Is_one, Ls_append, Ls_one, Bs_append, Bs_one, Es_append, Es_one, Es_set', eB, eI, eL]) (by simp [hhOk, back, Cat.cells, Is_append, Is_one, Ls_append, Ls_one, Bs_append, Bs_one, Es_append, Es_one, Es_set', eB, eI, eL])) ?_
       refine w_ret ?_
       refine br ?_
       refine tr ?_
       refine lr ?_
       refine br ?_
       refine tr ?_
       cases h
       have q : _ = e1 := hk7
       have h := h1
       rw [← q] at h
       clear q
       try dsimp only at h
       have hr := Option.some.inj h
       rw [← hr]
       refine ⟨_, (.tmp .nil), ?_⟩
       refine ⟨(.one rfl rfl .nil), [.val (.bool false)], [], by simp [Cat.cells, Is_append, Is_one, Ls_append, Ls_one, Bs_append, Bs_one, Es_append, Es_one, Es_set', eB, eI, eL], by simp, (UpL.refl _)⟩
     have g11 : ¬ (¬ (v10 = true)) := by first | simpa using g | (simp at g; exact g) | (simp at g; omega)
     clear g
     replace h := if_r g11 h
     refine w_skip ?_
     refine bn ?_
     refine tn ?_
     refine w_run mo (by rw [hN]; decide) fun K hK => ?_
     replace h := ass_some h
     obtain ⟨a12, h⟩ := h
     simp [-guardE_b, -Is_at, -Is_at', -Ls_at, -Ls_at', eL, eI, allInts, eP_Cat, Cat.cells, wrap_id a12]
     repeat (with_reducible refine And.intro ?_ ?_; · first | assumption | omega | (simp; done) | (simp; omega) | simp_all)
     refine hK _ ?_
     clear hK K
     cases h
     exact rn (s' := s7 + 1) hk7 (Wk.rel [] (by simp) (by simp) (by rw [hP]; simp) (by simp) (by simp) (by simp [Cat.cells, Is_append, Is_one, Ls_append, Ls_one, Bs_append, Bs_one, Es_append, Es_one, Es_set', eB, eI, eL]) (by simp [hhOk, back, Cat.cells, Is_append, Is_one, Ls_append, Ls_one, Bs_append, Bs_one, Es_append, Es_one, Es_set', eB, eI, eL]))
   have g8 : ¬ (s7 < (list_.length : Int)) := by first | simpa using g | (simp at g; exact g) | (simp at g; omega)
   clear g
   replace h := if_r g8 h
   refine w_exit ?_
   refine tx ?_
   refine lx ?_
   refine bh ?_
   cases h
   exact jn (b := ()) hk7 (Wk.rel [] (by simp) (by simp) (by rw [hP]; simp) (by simp) (by simp) (by simp [Cat.cells, Is_append, Is_one, Ls_append, Ls_one, Bs_append, Bs_one, Es_append, Es_one, Es_set', eB, eI, eL]) (by simp [hhOk, back, Cat.cells, Is_append, Is_one, Ls_append, Ls_one, Bs_append, Bs_one, Es_append, Es_one, Es_set', eB, eI, eL]))
 intro b1 hb1
 have h := h1
 rw [← hb1] at h
 clear h1
 try dsimp only at h
 refine w_seq ?_
 refine w_run mo (by rw [hN]; decide) fun K hK => ?_
 simp [-guardE_b, -Is_at, -Is_at', -Ls_at, -Ls_at', eL, eI, allInts, eP_Cat, Cat.cells]
 repeat (with_reducible refine And.intro ?_ ?_; · first | assumption | omega | (simp; done) | (simp; omega) | simp_all)
 refine hK _ ?_
 clear hK K
 refine tn ?_
 refine w_weak (st' := ⟨[(2, .val (.bool true))], [], 0⟩) (Wk.rel [] (by simp) (by simp) (by rw [hP]; simp) (by simp) (by simp) (by simp [Cat.cells, Is_append, Is_one, Ls_append, Ls_one, Bs_append, Bs_one, Es_append, Es_one, Es_set', eB, eI, eL]) (by simp [hhOk, back, Cat.cells, Is_append, Is_one, Ls_append, Ls_one, Bs_append, Bs_one, Es_append, Es_one, Es_set', eB, eI, eL])) ?_
 refine w_ret ?_
 have hr := Option.some.inj h
 rw [← hr]
 refine ⟨_, (.tmp .nil), ?_⟩
 refine ⟨(.one rfl rfl .nil), [.val (.bool true)], [], by simp [Cat.cells, Is_append, Is_one, Ls_append, Ls_one, Bs_append, Bs_one, Es_append, Es_one, Es_set', eB, eI, eL], by simp, (UpL.refl _)⟩
end Go.Vc.T
