/- A part of the proof: a verified generator of conditions, and what each function of the program does. -/
import Derived.Test.YtkafionfghoggaaP6
set_option maxRecDepth 100000
set_option linter.unusedSimpArgs false
set_option linter.unusedVariables false

set_option maxRecDepth 100000
set_option linter.unusedSimpArgs false
set_option linter.unusedVariables false
namespace Go.Vc.T
open Go Go.Vc Go.Proofs
noncomputable def s_s_l15Is (a_ : Adj) : Option Bool :=
 (
   (s_s_l06Is a_.l).bind fun v2 =>
   if ¬ (v2 = true) then
     some true
   else
     (s_s_l06Is a_.r).bind fun v4 =>
     if ¬ (v4 = true) then
       some true
     else
       (s_s_l15Meets a_.l a_.r).bind fun v6 =>
       some (!v6) : Option (Bool)).bind fun b1 =>
 if b1 = true then
   some false
 else
   (
     (s_s_l06Self a_.l.s).bind fun v9 =>
     (s_s_l06Then a_.l a_.r).bind fun v10 =>
     (s_s_l15Natural v9 v10 a_.u).bind fun v11 =>
     if ¬ (v11 = true) then
       some true
     else
       (s_s_l06Then a_.r a_.l).bind fun v13 =>
       (s_s_l06Self a_.l.t).bind fun v14 =>
       (s_s_l15Natural v13 v14 a_.k).bind fun v15 =>
       some (!v15) : Option (Bool)).bind fun b8 =>
   if b8 = true then
     some false
   else
     (loopF (σ := Int) (ε := Unit ⊕ Bool) (fun s27 =>
       if s27 < a_.l.s.n then
         ass (0 ≤ s27 ∧ s27 < (a_.u.length : Int)) <|
         ass (0 ≤ ix a_.u s27 ∧ ix a_.u s27 < (a_.l.ar.length : Int)) <|
         ass (0 ≤ s27 ∧ s27 < (a_.l.ob.length : Int)) <|
         ass (0 ≤ ix a_.l.ob s27 ∧ ix a_.l.ob s27 < (a_.k.length : Int)) <|
         (s_s_l02Then a_.l.t (ix a_.l.ar (ix a_.u s27)) (ix a_.k (ix a_.l.ob s27))).bind fun v33 =>
         (s_s_l02Unit a_.l.t v33).bind fun v34 =>
         if ¬ (v34 = true) then
           some (Ctl.ret (Sum.inr false))
         else
           ass (B64 (s27 + 1)) <|
           some (Ctl.next (s27 + 1))
       else
         some (Ctl.ret (Sum.inl ()))) fuel 0).bind fun e17 =>
     match e17 with
     | .inl b17 =>
       (loopF (σ := Int) (ε := Unit ⊕ Bool) (fun s47 =>
         if s47 < a_.l.t.n then
           ass (0 ≤ s47 ∧ s47 < (a_.r.ob.length : Int)) <|
           ass (0 ≤ ix a_.r.ob s47 ∧ ix a_.r.ob s47 < (a_.u.length : Int)) <|
           ass (0 ≤ s47 ∧ s47 < (a_.k.length : Int)) <|
           ass (0 ≤ ix a_.k s47 ∧ ix a_.k s47 < (a_.r.ar.length : Int)) <|
           (s_s_l02Then a_.l.s (ix a_.u (ix a_.r.ob s47)) (ix a_.r.ar (ix a_.k s47))).bind fun v53 =>
           (s_s_l02Unit a_.l.s v53).bind fun v54 =>
           if ¬ (v54 = true) then
             some (Ctl.ret (Sum.inr false))
           else
             ass (B64 (s47 + 1)) <|
             some (Ctl.next (s47 + 1))
         else
           some (Ctl.ret (Sum.inl ()))) fuel 0).bind fun e37 =>
       match e37 with
       | .inl b37 =>
         some true
       | .inr p37 =>
         some p37
     | .inr p17 =>
       some p17
set_option maxHeartbeats 4000000 in
theorem w_s_l15Is (a_ : Adj) (r : Bool) (h : s_s_l15Is a_ = some r) : Contract Try.prog 77 [.agg (a_.cells true)] (.val (.bool r)) := by
 refine contract_introG (rvs := [.tmp 2]) (rs := [.val (.bool r)]) Try.func77 rfl rfl rfl rfl (by simp [Try.f77]) fun F hN hP => ?_
 unfold s_s_l15Is at h
 refine w_seq ?_
 refine w_run mo (by rw [hN]; decide) fun K hK => ?_
 simp [-guardE_b, -Is_at, -Is_at', -Ls_at, -Ls_at', eL, eI, allInts, eP_Adj, eP_Cat, eP_Fn, Adj.cells, Cat.cells, Fn.cells]
 repeat (with_reducible refine And.intro ?_ ?_; · first | assumption | omega | (simp; done) | (simp; omega) | simp_all)
 refine hK _ ?_
 clear hK K
 refine tn ?_
 refine w_weak (st' := ⟨[(1, .adr 0 0 0)], [(0, .mix 26 [[.val (.int .i64 a_.l.s.n), .lst true 1 (Is a_.l.s.fr), .lst true 1 (Is a_.l.s.to), .lst true 1 (Is a_.l.s.id), .lst true 1 (Ls a_.l.s.cs), .val (.int .i64 a_.l.t.n), .lst true 1 (Is a_.l.t.fr), .lst true 1 (Is a_.l.t.to), .lst true 1 (Is a_.l.t.id), .lst true 1 (Ls a_.l.t.cs), .lst true 1 (Is a_.l.ob), .lst true 1 (Is a_.l.ar), .val (.int .i64 a_.r.s.n), .lst true 1 (Is a_.r.s.fr), .lst true 1 (Is a_.r.s.to), .lst true 1 (Is a_.r.s.id), .lst true 1 (Ls a_.r.s.cs), .val (.int .i64 a_.r.t.n), .lst true 1 (Is a_.r.t.fr), .lst true 1 (Is a_.r.t.to), .lst true 1 (Is a_.r.t.id), .lst true 1 (Ls a_.r.t.cs), .lst true 1 (Is a_.r.ob), .lst true 1 (Is a_.r.ar), .lst true 1 (Is a_.u), .lst true 1 (Is a_.k)]])], 1⟩) (Wk.rel [(0, 0)] (by simp) (by simp) (by rw [hP]; simp) (by simp) (by simp) (by simp [Adj.cells, Cat.cells, Fn.cells, Is_append, Is_one, Ls_append, Ls_one, Bs_append, Bs_one, Es_append, Es_one, Es_set', eB, eI, eL]) (by simp [hhOk, back, Adj.cells, Cat.cells, Fn.cells, Is_append, Is_one, Ls_append, Ls_one, Bs_append, Bs_one, Es_append, Es_one, Es_set', eB, eI, eL])) ?_
 refine w_seq ?_
 refine w_runS mo (by rw [hN]; decide) fun K hK => ?_
 simp [-guardE_b, -Is_at, -Is_at', -Ls_at, -Ls_at', eL, eI, allInts, eP_Adj, eP_Cat, eP_Fn, Adj.cells, Cat.cells, Fn.cells]
 repeat (with_reducible refine And.intro ?_ ?_; · first | assumption | omega | (simp; done) | (simp; omega) | simp_all)
 refine hK _ ?_
 clear hK K
 refine tn ?_
 refine w_weak (st' := ⟨[(1, .adr 0 0 0), (3, .adr 1 0 0), (4, .adr 2 0 0)], [(0, .mix 26 [[.val (.int .i64 a_.l.s.n), .lst true 1 (Is a_.l.s.fr), .lst true 1 (Is a_.l.s.to), .lst true 1 (Is a_.l.s.id), .lst true 1 (Ls a_.l.s.cs), .val (.int .i64 a_.l.t.n), .lst true 1 (Is a_.l.t.fr), .lst true 1 (Is a_.l.t.to), .lst true 1 (Is a_.l.t.id), .lst true 1 (Ls a_.l.t.cs), .lst true 1 (Is a_.l.ob), .lst true 1 (Is a_.l.ar), .val (.int .i64 a_.r.s.n), .lst true 1 (Is a_.r.s.fr), .lst true 1 (Is a_.r.s.to), .lst true 1 (Is a_.r.s.id), .lst true 1 (Ls a_.r.s.cs), .val (.int .i64 a_.r.t.n), .lst true 1 (Is a_.r.t.fr), .lst true 1 (Is a_.r.t.to), .lst true 1 (Is a_.r.t.id), .lst true 1 (Ls a_.r.t.cs), .lst true 1 (Is a_.r.ob), .lst true 1 (Is a_.r.ar), .lst true 1 (Is a_.u), .lst true 1 (Is a_.k)]]), (1, .mix 12 [[.val (.int .i64 a_.l.s.n), .lst true 1 (Is a_.l.s.fr), .lst true 1 (Is a_.l.s.to), .lst true 1 (Is a_.l.s.id), .lst true 1 (Ls a_.l.s.cs), .val (.int .i64 a_.l.t.n), .lst true 1 (Is a_.l.t.fr), .lst true 1 (Is a_.l.t.to), .lst true 1 (Is a_.l.t.id), .lst true 1 (Ls a_.l.t.cs), .lst true 1 (Is a_.l.ob), .lst true 1 (Is a_.l.ar)]]), (2, .mix 12 [[.val (.int .i64 a_.r.s.n), .lst true 1 (Is a_.r.s.fr), .lst true 1 (Is a_.r.s.to), .lst true 1 (Is a_.r.s.id), .lst true 1 (Ls a_.r.s.cs), .val (.int .i64 a_.r.t.n), .lst true 1 (Is a_.r.t.fr), .lst true 1 (Is a_.r.t.to), .lst true 1 (Is a_.r.t.id), .lst true 1 (Ls a_.r.t.cs), .lst true 1 (Is a_.r.ob), .lst true 1 (Is a_.r.ar)]])], 3⟩) (Wk.rel [(0, 0), (1, 1), (2, 2)] (by simp) (by simp) (by rw [hP]; simp) (by simp) (by simp) (by simp [Adj.cells, Cat.cells, Fn.cells, Is_append, Is_one, Ls_append, Ls_one, Bs_append, Bs_one, Es_append, Es_one, Es_set', eB, eI, eL]) (by simp [hhOk, back, Adj.cells, Cat.cells, Fn.cells, Is_append, Is_one, Ls_append, Ls_one, Bs_append, Bs_one, Es_append, Es_one, Es_set', eB, eI, eL])) ?_
 refine w_seq ?_
 refine w_seq ?_
 replace h := bind_some h
 obtain ⟨e1, h, h1⟩ := h
 refine w_joinT (fun b1 : Bool => ⟨[(1, .adr 0 0 0), (3, .adr 1 0 0), (4, .adr 2 0 0), (26, .val (.bool b1))], [(0, .mix 26 [[.val (.int .i64 a_.l.s.n), .lst true 1 (Is a_.l.s.fr), .lst true 1 (Is a_.l.s.to), .lst true 1 (Is a_.l.s.id), .lst true 1 (Ls a_.l.s.cs), .val (.int .i64 a_.l.t.n), .lst true 1 (Is a_.l.t.fr), .lst true 1 (Is a_.l.t.to), .lst true 1 (Is a_.l.t.id), .lst true 1 (Ls a_.l.t.cs), .lst true 1 (Is a_.l.ob), .lst true 1 (Is a_.l.ar), .val (.int .i64 a_.r.s.n), .lst true 1 (Is a_.r.s.fr), .lst true 1 (Is a_.r.s.to), .lst true 1 (Is a_.r.s.id), .lst true 1 (Ls a_.r.s.cs), .val (.int .i64 a_.r.t.n), .lst true 1 (Is a_.r.t.fr), .lst true 1 (Is a_.r.t.to), .lst true 1 (Is a_.r.t.id), .lst true 1 (Ls a_.r.t.cs), .lst true 1 (Is a_.r.ob), .lst true 1 (Is a_.r.ar), .lst true 1 (Is a_.u), .lst true 1 (Is a_.k)]]), (1, .mix 12 [[.val (.int .i64 a_.l.s.n), .lst true 1 (Is a_.l.s.fr), .lst true 1 (Is a_.l.s.to), .lst true 1 (Is a_.l.s.id), .lst true 1 (Ls a_.l.s.cs), .val (.int .i64 a_.l.t.n), .lst true 1 (Is a_.l.t.fr), .lst true 1 (Is a_.l.t.to), .lst true 1 (Is a_.l.t.id), .lst true 1 (Ls a_.l.t.cs), .lst true 1 (Is a_.l.ob), .lst true 1 (Is a_.l.ar)]]), (2, .mix 12 [[.val (.int .i64 a_.r.s.n), .lst true 1 (Is a_.r.s.fr), .lst true 1 (Is a_.r.s.to), .lst true 1 (Is a_.r.s.id), .lst true 1 (Ls a_.r.s.cs), .val (.int .i64 a_.r.t.n), .lst true 1 (Is a_.r.t.fr), .lst true 1 (Is a_.r.t.to), .lst true 1 (Is a_.r.t.id), .lst true 1 (Ls a_.r.t.cs), .lst true 1 (Is a_.r.ob), .lst true 1 (Is a_.r.ar)]])], 3⟩) (fun b1 => b1 = e1) ?_ ?_
 · refine w_run mo (by rw [hN]; decide) fun K hK => ?_
   simp [-guardE_b, -Is_at, -Is_at', -Ls_at, -Ls_at', eL, eI, allInts, eP_Adj, eP_Cat, eP_Fn, Adj.cells, Cat.cells, Fn.cells]
   repeat (with_reducible refine And.intro ?_ ?_; · first | assumption | omega | (simp; done) | (simp; omega) | simp_all)
   replace h := bind_some h
   obtain ⟨v2, hv2, h⟩ := h
   refine callA_intro (w_s_l06Is _ v2 hv2) (.cons (.aggL (.cons .val (.cons .lst (.cons .lst (.cons .lst (.cons .lst (.cons .val (.cons .lst (.cons .lst (.cons .lst (.cons .lst (.cons .lst (.cons .lst .nil))))))))))))) .nil) ?_
   simp [-guardE_b, -Is_at, -Is_at', -Ls_at, -Ls_at', unk, unA, unE, unT, unC, flat, eL, eI, allInts, eP_Adj, eP_Cat, eP_Fn, Adj.cells, Cat.cells, Fn.cells]
   repeat (with_reducible refine And.intro ?_ ?_; · first | assumption | omega | (simp; done) | (simp; omega) | simp_all)
   refine guard_intro (fun g => ?_) (fun g => ?_)
   · have g3 : ¬ (¬ (v2 = true)) := by first | simpa using g | (simp at g; exact g) | (simp at g; omega)
     clear g
     replace h := if_r g3 h
     simp [-guardE_b, -Is_at, -Is_at', -Ls_at, -Ls_at', eL, eI, allInts, eP_Adj, eP_Cat, eP_Fn, Adj.cells, Cat.cells, Fn.cells]
     repeat (with_reducible refine And.intro ?_ ?_; · first | assumption | omega | (simp; done) | (simp; omega) | simp_all)
     replace h := bind_some h
     obtain ⟨v4, hv4, h⟩ := h
     refine callA_intro (w_s_l06Is _ v4 hv4) (.cons (.aggL (.cons .val (.cons .lst (.cons .lst (.cons .lst (.cons .lst (.cons .val (.cons .lst (.cons .lst (.cons .lst (.cons .lst (.cons .lst (.cons .lst .nil))))))))))))) .nil) ?_
     simp [-guardE_b, -Is_at, -Is_at', -Ls_at, -Ls_at', unk, unA, unE, unT, unC, flat, eL, eI, allInts, eP_Adj, eP_Cat, eP_Fn, Adj.cells, Cat.cells, Fn.cells]
     repeat (with_reducible refine And.intro ?_ ?_; · first | assumption | omega | (simp; done) | (simp; omega) | simp_all)
     refine guard_intro (fun g => ?_) (fun g => ?_)
     · have g5 : ¬ (¬ (v4 = true)) := by first | simpa using g | (simp at g; exact g) | (simp at g; omega)
       clear g
       replace h := if_r g5 h
       simp [-guardE_b, -Is_at, -Is_at', -Ls_at, -Ls_at', eL, eI, allInts, eP_Adj, eP_Cat, eP_Fn, Adj.cells, Cat.cells, Fn.cells]
       repeat (with_reducible refine And.intro ?_ ?_; · first | assumption | omega | (simp; done) | (simp; omega) | simp_all)
       replace h := bind_some h
       obtain ⟨v6, hv6, h⟩ := h
       refine callA_intro (w_s_l15Meets _ _ v6 hv6) (.cons (.aggL (.cons .val (.cons .lst (.cons .lst (.cons .lst (.cons .lst (.cons .val (.cons .lst (.cons .lst (.cons .lst (.cons .lst (.cons .lst (.cons .lst .nil))))))))))))) (.cons (.aggL (.cons .val (.cons .lst (.cons .lst (.cons .lst (.cons .lst (.cons .val (.cons .lst (.cons .lst (.cons .lst (.cons .lst (.cons .lst (.cons .lst .nil))))))))))))) .nil)) ?_
       simp [-guardE_b, -Is_at, -Is_at', -Ls_at, -Ls_at', unk, unA, unE, unT, unC, flat, eL, eI, allInts, eP_Adj, eP_Cat, eP_Fn, Adj.cells, Cat.cells, Fn.cells]
       repeat (with_reducible refine And.intro ?_ ?_; · first | assumption | omega | (simp; done) | (simp; omega) | simp_all)
       refine hK _ ?_
       exact jn (b := !v6) (Option.some.inj h) (Wk.rel [(0, 0), (1, 1), (2, 2)] (by simp) (by simp) (by rw [hP]; simp) (by simp) (by simp) (by simp [Adj.cells, Cat.cells, Fn.cells, Is_append, Is_one, Ls_append, Ls_one, Bs_append, Bs_one, Es_append, Es_one, Es_set', eB, eI, eL]) (by simp [hhOk, back, Adj.cells, Cat.cells, Fn.cells, Is_append, Is_one, Ls_append, Ls_one, Bs_append, Bs_one, Es_append, Es_one, Es_set', eB, eI, eL]))
     have g5 : ¬ (v4 = true) := by first | simpa using g | (simp at g; exact g) | (simp at g; omega)
     clear g
     replace h := if_l g5 h
     simp [-guardE_b, -Is_at, -Is_at', -Ls_at, -Ls_at', eL, eI, allInts, eP_Adj, eP_Cat, eP_Fn, Adj.cells, Cat.cells, Fn.cells]
     repeat (with_reducible refine And.intro ?_ ?_; · first | assumption | omega | (simp; done) | (simp; omega) | simp_all)
     refine hK _ ?_
     exact jn (b := true) (Option.some.inj h) (Wk.rel [(0, 0), (1, 1), (2, 2)] (by simp) (by simp) (by rw [hP]; simp) (by simp) (by simp) (by simp [Adj.cells, Cat.cells, Fn.cells, Is_append, Is_one, Ls_append, Ls_one, Bs_append, Bs_one, Es_append, Es_one, Es_set', eB, eI, eL]) (by simp [hhOk, back, Adj.cells, Cat.cells, Fn.cells, Is_append, Is_one, Ls_append, Ls_one, Bs_append, Bs_one, Es_append, Es_one, Es_set', eB, eI, eL]))
   have g3 : ¬ (v2 = true) := by first | simpa using g | (simp at g; exact g) | (simp at g; omega)
   clear g
   replace h := if_l g3 h
   simp [-guardE_b, -Is_at, -Is_at', -Ls_at, -Ls_at', eL, eI, allInts, eP_Adj, eP_Cat, eP_Fn, Adj.cells, Cat.cells, Fn.cells]
   repeat (with_reducible refine And.intro ?_ ?_; · first | assumption | omega | (simp; done) | (simp; omega) | simp_all)
   refine hK _ ?_
   exact jn (b := true) (Option.some.inj h) (Wk.rel [(0, 0), (1, 1), (2, 2)] (by simp) (by simp) (by rw [hP]; simp) (by simp) (by simp) (by simp [Adj.cells, Cat.cells, Fn.cells, Is_append, Is_one, Ls_append, Ls_one, Bs_append, Bs_one, Es_append, Es_one, Es_set', eB, eI, eL]) (by simp [hhOk, back, Adj.cells, Cat.cells, Fn.cells, Is_append, Is_one, Ls_append, Ls_one, Bs_append, Bs_one, Es_append, Es_one, Es_set', eB, eI, eL]))
 intro b1 hb1
 have h := h1
 rw [← hb1] at h
 clear h1
 try dsimp only at h
 refine w_cond rfl (fun g => ?_) fun g => ?_
 · have g7 : b1 = true := by first | simpa using g | (simp at g; exact g) | (simp at g; omega)
   clear g
   replace h := if_l g7 h
   refine w_seq ?_
   refine w_run mo (by rw [hN]; decide) fun K hK => ?_
   simp [-guardE_b, -Is_at, -Is_at', -Ls_at, -Ls_at', eL, eI, allInts, eP_Adj, eP_Cat, eP_Fn, Adj.cells, Cat.cells, Fn.cells]
   repeat (with_reducible refine And.intro ?_ ?_; · first | assumption | omega | (simp; done) | (simp; omega) | simp_all)
   refine hK _ ?_
   clear hK K
   refine tn ?_
   refine w_weak (st' := ⟨[(2, .val (.bool false))], [], 0⟩) (Wk.rel [] (by simp) (by simp) (by rw [hP]; simp) (by simp) (by simp) (by simp [Adj.cells, Cat.cells, Fn.cells, Is_append, Is_one, Ls_append, Ls_one, Bs_append, Bs_one, Es_append, Es_one, Es_set', eB, eI, eL]) (by simp [hhOk, back, Adj.cells, Cat.cells, Fn.cells, Is_append, Is_one, Ls_append, Ls_one, Bs_append, Bs_one, Es_append, Es_one, Es_set', eB, eI, eL])) ?_
   refine w_ret ?_
   refine tr ?_
   have hr := Option.some.inj h
   rw [← hr]
   refine ⟨_, (.tmp .nil), ?_⟩
   refine ⟨(.one rfl rfl .nil), [.val (.bool false)], [], by simp [Adj.cells, Cat.cells, Fn.cells, Is_append, Is_one, Ls_append, Ls_one, Bs_append, Bs_one, Es_append, Es_one, Es_set', eB, eI, eL], by simp, (UpL.refl _)⟩
 have g7 : ¬ (b1 = true) := by first | simpa using g | (simp at g; exact g) | (simp at g; omega)
 clear g
 replace h := if_r g7 h
 refine w_skip ?_
 refine tn ?_
 refine w_seq ?_
 refine w_runS mo (by rw [hN]; decide) fun K hK => ?_
 simp [-guardE_b, -Is_at, -Is_at', -Ls_at, -Ls_at', eL, eI, allInts, eP_Adj, eP_Cat, eP_Fn, Adj.cells, Cat.cells, Fn.cells]
 repeat (with_reducible refine And.intro ?_ ?_; · first | assumption | omega | (simp; done) | (simp; omega) | simp_all)
 refine hK _ ?_
 clear hK K
 refine tn ?_
 refine w_weak (st' := ⟨[(1, .adr 0 0 0), (3, .adr 1 0 0), (4, .adr 2 0 0), (5, .adr 3 0 0), (6, .adr 4 0 0)], [(0, .mix 26 [[.val (.int .i64 a_.l.s.n), .lst true 1 (Is a_.l.s.fr), .lst true 1 (Is a_.l.s.to), .lst true 1 (Is a_.l.s.id), .lst true 1 (Ls a_.l.s.cs), .val (.int .i64 a_.l.t.n), .lst true 1 (Is a_.l.t.fr), .lst true 1 (Is a_.l.t.to), .lst true 1 (Is a_.l.t.id), .lst true 1 (Ls a_.l.t.cs), .lst true 1 (Is a_.l.ob), .lst true 1 (Is a_.l.ar), .val (.int .i64 a_.r.s.n), .lst true 1 (Is a_.r.s.fr), .lst true 1 (Is a_.r.s.to), .lst true 1 (Is a_.r.s.id), .lst true 1 (Ls a_.r.s.cs), .val (.int .i64 a_.r.t.n), .lst true 1 (Is a_.r.t.fr), .lst true 1 (Is a_.r.t.to), .lst true 1 (Is a_.r.t.id), .lst true 1 (Ls a_.r.t.cs), .lst true 1 (Is a_.r.ob), .lst true 1 (Is a_.r.ar), .lst true 1 (Is a_.u), .lst true 1 (Is a_.k)]]), (1, .mix 12 [[.val (.int .i64 a_.l.s.n), .lst true 1 (Is a_.l.s.fr), .lst true 1 (Is a_.l.s.to), .lst true 1 (Is a_.l.s.id), .lst true 1 (Ls a_.l.s.cs), .val (.int .i64 a_.l.t.n), .lst true 1 (Is a_.l.t.fr), .lst true 1 (Is a_.l.t.to), .lst true 1 (Is a_.l.t.id), .lst true 1 (Ls a_.l.t.cs), .lst true 1 (Is a_.l.ob), .lst true 1 (Is a_.l.ar)]]), (2, .mix 12 [[.val (.int .i64 a_.r.s.n), .lst true 1 (Is a_.r.s.fr), .lst true 1 (Is a_.r.s.to), .lst true 1 (Is a_.r.s.id), .lst true 1 (Ls a_.r.s.cs), .val (.int .i64 a_.r.t.n), .lst true 1 (Is a_.r.t.fr), .lst true 1 (Is a_.r.t.to), .lst true 1 (Is a_.r.t.id), .lst true 1 (Ls a_.r.t.cs), .lst true 1 (Is a_.r.ob), .lst true 1 (Is a_.r.ar)]]), (3, .mix 5 [[.val (.int .i64 a_.l.s.n), .lst true 1 (Is a_.l.s.fr), .lst true 1 (Is a_.l.s.to), .lst true 1 (Is a_.l.s.id), .lst true 1 (Ls a_.l.s.cs)]]), (4, .mix 5 [[.val (.int .i64 a_.l.t.n), .lst true 1 (Is a_.l.t.fr), .lst true 1 (Is a_.l.t.to), .lst true 1 (Is a_.l.t.id), .lst true 1 (Ls a_.l.t.cs)]])], 5⟩) (Wk.rel [(0, 0), (1, 1), (2, 2), (3, 3), (4, 4)] (by simp) (by simp) (by rw [hP]; simp) (by simp) (by simp) (by simp [Adj.cells, Cat.cells, Fn.cells, Is_append, Is_one, Ls_append, Ls_one, Bs_append, Bs_one, Es_append, Es_one, Es_set', eB, eI, eL]) (by simp [hhOk, back, Adj.cells, Cat.cells, Fn.cells, Is_append, Is_one, Ls_append, Ls_one, Bs_append, Bs_one, Es_append, Es_one, Es_set', eB, eI, eL])) ?_
 refine w_seq ?_
 refine w_seq ?_
 replace h := bind_some h
 obtain ⟨e8, h, h8⟩ := h
 refine w_joinT (fun b8 : Bool => ⟨[(1, .adr 0 0 0), (3, .adr 1 0 0), (4, .adr 2 0 0), (5, .adr 3 0 0), (6, .adr 4 0 0), (50, .val (.bool b8))], [(0, .mix 26 [[.val (.int .i64 a_.l.s.n), .lst true 1 (Is a_.l.s.fr), .lst true 1 (Is a_.l.s.to), .lst true 1 (Is a_.l.s.id), .lst true 1 (Ls a_.l.s.cs), .val (.int .i64 a_.l.t.n), .lst true 1 (Is a_.l.t.fr), .lst true 1 (Is a_.l.t.to), .lst true 1 (Is a_.l.t.id), .lst true 1 (Ls a_.l.t.cs), .lst true 1 (Is a_.l.ob), .lst true 1 (Is a_.l.ar), .val (.int .i64 a_.r.s.n), .lst true 1 (Is a_.r.s.fr), .lst true 1 (Is a_.r.s.to), .lst true 1 (Is a_.r.s.id), .lst true 1 (Ls a_.r.s.cs), .val (.int .i64 a_.r.t.n), .lst true 1 (Is a_.r.t.fr), .lst true 1 (Is a_.r.t.to), .lst true 1 (Is a_.r.t.id), .lst true 1 (Ls a_.r.t.cs), .lst true 1 (Is a_.r.ob), .lst true 1 (Is a_.r.ar), .lst true 1 (Is a_.u), .lst true 1 (Is a_.k)]]), (1, .mix 12 [[.val (.int .i64 a_.l.s.n), .lst true 1 (Is a_.l.s.fr), .lst true 1 (Is a_.l.s.to), .lst true 1 (Is a_.l.s.id), .lst true 1 (Ls a_.l.s.cs), .val (.int .i64 a_.l.t.n), .lst true 1 (Is a_.l.t.fr), .lst true 1 (Is a_.l.t.to), .lst true 1 (Is a_.l.t.id), .lst true 1 (Ls a_.l.t.cs), .lst true 1 (Is a_.l.ob), .lst true 1 (Is a_.l.ar)]]), (2, .mix 12 [[.val (.int .i64 a_.r.s.n), .lst true 1 (Is a_.r.s.fr), .lst true 1 (Is a_.r.s.to), .lst true 1 (Is a_.r.s.id), .lst true 1 (Ls a_.r.s.cs), .val (.int .i64 a_.r.t.n), .lst true 1 (Is a_.r.t.fr), .lst true 1 (Is a_.r.t.to), .lst true 1 (Is a_.r.t.id), .lst true 1 (Ls a_.r.t.cs), .lst true 1 (Is a_.r.ob), .lst true 1 (Is a_.r.ar)]]), (3, .mix 5 [[.val (.int .i64 a_.l.s.n), .lst true 1 (Is a_.l.s.fr), .lst true 1 (Is a_.l.s.to), .lst true 1 (Is a_.l.s.id), .lst true 1 (Ls a_.l.s.cs)]]), (4, .mix 5 [[.val (.int .i64 a_.l.t.n), .lst true 1 (Is a_.l.t.fr), .lst true 1 (Is a_.l.t.to), .lst true 1 (Is a_.l.t.id), .lst true 1 (Ls a_.l.t.cs)]])], 5⟩) (fun b8 => b8 = e8) ?_ ?_
 · refine w_run mo (by rw [hN]; decide) fun K hK => ?_
   simp [-guardE_b, -Is_at, -Is_at', -Ls_at, -Ls_at', eL, eI, allInts, eP_Adj, eP_Cat, eP_Fn, Adj.cells, Cat.cells, Fn.cells]
   repeat (with_reducible refine And.intro ?_ ?_; · first | assumption | omega | (simp; done) | (simp; omega) | simp_all)
   replace h := bind_some h
   obtain ⟨v9, hv9, h⟩ := h
   refine callA_intro (w_s_l06Self _ v9 hv9) (.cons (.aggL (.cons .val (.cons .lst (.cons .lst (.cons .lst (.cons .lst .nil)))))) .nil) ?_
   simp [-guardE_b, -Is_at, -Is_at', -Ls_at, -Ls_at', unk, unA, unE, unT, unC, flat, eL, eI, allInts, eP_Adj, eP_Cat, eP_Fn, Adj.cells, Cat.cells, Fn.cells]
   repeat (with_reducible refine And.intro ?_ ?_; · first | assumption | omega | (simp; done) | (simp; omega) | simp_all)
   replace h := bind_some h
   obtain ⟨v10, hv10, h⟩ := h
   refine callA_intro (w_s_l06Then _ _ v10 hv10) (.cons (.aggL (.cons .val (.cons .lst (.cons .lst (.cons .lst (.cons .lst (.cons .val (.cons .lst (.cons .lst (.cons .lst (.cons .lst (.cons .lst (.cons .lst .nil))))))))))))) (.cons (.aggL (.cons .val (.cons .lst (.cons .lst (.cons .lst (.cons .lst (.cons .val (.cons .lst (.cons .lst (.cons .lst (.cons .lst (.cons .lst (.cons .lst .nil))))))))))))) .nil)) ?_
   simp [-guardE_b, -Is_at, -Is_at', -Ls_at, -Ls_at', unk, unA, unE, unT, unC, flat, eL, eI, allInts, eP_Adj, eP_Cat, eP_Fn, Adj.cells, Cat.cells, Fn.cells]
   repeat (with_reducible refine And.intro ?_ ?_; · first | assumption | omega | (simp; done) | (simp; omega) | simp_all)
   replace h := bind_some h
   obtain ⟨v11, hv11, h⟩ := h
   refine callA_intro (w_s_l15Natural _ _ _ v11 hv11) (.cons (.aggL (.cons .val (.cons (.whole (by simp) (by simp) (by simp)) (.cons (.whole (by simp) (by simp) (by simp)) (.cons (.whole (by simp) (by simp) (by simp)) (.cons (.whole (by simp) (by simp) (by simp)) (.cons .val (.cons (.whole (by simp) (by simp) (by simp)) (.cons (.whole (by simp) (by simp) (by simp)) (.cons (.whole (by simp) (by simp) (by simp)) (.cons (.whole (by simp) (by simp) (by simp)) (.cons (.whole (by simp) (by simp) (by simp)) (.cons (.whole (by simp) (by simp) (by simp)) .nil))))))))))))) (.cons (.aggL (.cons .val (.cons (.whole (by simp) (by simp) (by simp)) (.cons (.whole (by simp) (by simp) (by simp)) (.cons (.whole (by simp) (by simp) (by simp)) (.cons (.whole (by simp) (by simp) (by simp)) (.cons .val (.cons (.whole (by simp) (by simp) (by simp)) (.cons (.whole (by simp) (by simp) (by simp)) (.cons (.whole (by simp) (by simp) (by simp)) (.cons (.whole (by simp) (by simp) (by simp)) (.cons (.whole (by simp) (by simp) (by simp)) (.cons (.whole (by simp) (by simp) (by simp)) .nil))))))))))))) (.cons .lst .nil))) ?_
   simp [-guardE_b, -Is_at, -Is_at', -Ls_at, -Ls_at', unk, unA, unE, unT, unC, flat, eL, eI, allInts, eP_Adj, eP_Cat, eP_Fn, Adj.cells, Cat.cells, Fn.cells]
   repeat (with_reducible refine And.intro ?_ ?_; · first | assumption | omega | (simp; done) | (simp; omega) | simp_all)
   refine guard_intro (fun g => ?_) (fun g => ?_)
   · have g12 : ¬ (¬ (v11 = true)) := by first | simpa using g | (simp at g; exact g) | (simp at g; omega)
     clear g
     replace h := if_r g12 h
     simp [-guardE_b, -Is_at, -Is_at', -Ls_at, -Ls_at', eL, eI, allInts, eP_Adj, eP_Cat, eP_Fn, Adj.cells, Cat.cells, Fn.cells]
     repeat (with_reducible refine And.intro ?_ ?_; · first | assumption | omega | (simp; done) | (simp; omega) | simp_all)
     replace h := bind_some h
     obtain ⟨v13, hv13, h⟩ := h
     refine callA_intro (w_s_l06Then _ _ v13 hv13) (.cons (.aggL (.cons .val (.cons .lst (.cons .lst (.cons .lst (.cons .lst (.cons .val (.cons .lst (.cons .lst (.cons .lst (.cons .lst (.cons .lst (.cons .lst .nil))))))))))))) (.cons (.aggL (.cons .val (.cons .lst (.cons .lst (.cons .lst (.cons .lst (.cons .val (.cons .lst (.cons .lst (.cons .lst (.cons .lst (.cons .lst (.cons .lst .nil))))))))))))) .nil)) ?_
     simp [-guardE_b, -Is_at, -Is_at', -Ls_at, -Ls_at', unk, unA, unE, unT, unC, flat, eL, eI, allInts, eP_Adj, eP_Cat, eP_Fn, Adj.cells, Cat.cells, Fn.cells]
     repeat (with_reducible refine And.intro ?_ ?_; · first | assumption | omega | (simp; done) | (simp; omega) | simp_all)
     replace h := bind_some h
     obtain ⟨v14, hv14, h⟩ := h
     refine callA_intro (w_s_l06Self _ v14 hv14) (.cons (.aggL (.cons .val (.cons .lst (.cons .lst (.cons .lst (.cons .lst .nil)))))) .nil) ?_
     simp [-guardE_b, -Is_at, -Is_at', -Ls_at, -Ls_at', unk, unA, unE, unT, unC, flat, eL, eI, allInts, eP_Adj, eP_Cat, eP_Fn, Adj.cells, Cat.cells, Fn.cells]
     repeat (with_reducible refine And.intro ?_ ?_; · first | assumption | omega | (simp; done) | (simp; omega) | simp_all)
     replace h := bind_some h
     obtain ⟨v15, hv15, h⟩ := h
     refine callA_intro (w_s_l15Natural _ _ _ v15 hv15) (.cons (.aggL (.cons .val (.cons (.whole (by simp) (by simp) (by simp)) (.cons (.whole (by simp) (by simp) (by simp)) (.cons (.whole (by simp) (by simp) (by simp)) (.cons (.whole (by simp) (by simp) (by simp)) (.cons .val (.cons (.whole (by simp) (by simp) (by simp)) (.cons (.whole (by simp) (by simp) (by simp)) (.cons (.whole (by simp) (by simp) (by simp)) (.cons (.whole (by simp) (by simp) (by simp)) (.cons (.whole (by simp) (by simp) (by simp)) (.cons (.whole (by simp) (by simp) (by simp)) .nil))))))))))))) (.cons (.aggL (.cons .val (.cons (.whole (by simp) (by simp) (by simp)) (.cons (.whole (by simp) (by simp) (by simp)) (.cons (.whole (by simp) (by simp) (by simp)) (.cons (.whole (by simp) (by simp) (by simp)) (.cons .val (.cons (.whole (by simp) (by simp) (by simp)) (.cons (.whole (by simp) (by simp) (by simp)) (.cons (.whole (by simp) (by simp) (by simp)) (.cons (.whole (by simp) (by simp) (by simp)) (.cons (.whole (by simp) (by simp) (by simp)) (.cons (.whole (by simp) (by simp) (by simp)) .nil))))))))))))) (.cons .lst .nil))) ?_
     simp [-guardE_b, -Is_at, -Is_at', -Ls_at, -Ls_at', unk, unA, unE, unT, unC, flat, eL, eI, allInts, eP_Adj, eP_Cat, eP_Fn, Adj.cells, Cat.cells, Fn.cells]
     repeat (with_reducible refine And.intro ?_ ?_; · first | assumption | omega | (simp; done) | (simp; omega) | simp_all)
     refine hK _ ?_
     exact jn (b := !v15) (Option.some.inj h) (Wk.rel [(0, 0), (1, 1), (2, 2), (3, 3), (4, 4)] (by simp) (by simp) (by rw [hP]; simp) (by simp) (by simp) (by simp [Adj.cells, Cat.cells, Fn.cells, Is_append, Is_one, Ls_append, Ls_one, Bs_append, Bs_one, Es_append, Es_one, Es_set', eB, eI, eL]) (by simp [hhOk, back, Adj.cells, Cat.cells, Fn.cells, Is_append, Is_one, Ls_append, Ls_one, Bs_append, Bs_one, Es_append, Es_one, Es_set', eB, eI, eL]))
   have g12 : ¬ (v11 = true) := by first | simpa using g | (simp at g; exact g) | (simp at g; omega)
   clear g
   replace h := if_l g12 h
   simp [-guardE_b, -Is_at, -Is_at', -Ls_at, -Ls_at', eL, eI, allInts, eP_Adj, eP_Cat, eP_Fn, Adj.cells, Cat.cells, Fn.cells]
   repeat (with_reducible refine And.intro ?_ ?_; · first | assumption | omega | (simp; done) | (simp; omega) | simp_all)
   refine hK _ ?_
   exact jn (b := true) (Option.some.inj h) (Wk.rel [(0, 0), (1, 1), (2, 2), (3, 3), (4, 4)] (by simp) (by simp) (by rw [hP]; simp) (by simp) (by simp) (by simp [Adj.cells, Cat.cells, Fn.cells, Is_append, Is_one, Ls_append, Ls_one, Bs_append, Bs_one, Es_append, Es_one, Es_set', eB, eI, eL]) (by simp [hhOk, back, Adj.cells, Cat.cells, Fn.cells, Is_append, Is_one, Ls_append, Ls_one, Bs_append, Bs_one, Es_append, Es_one, Es_set', eB, eI, eL]))
 intro b8 hb8
 have h := h8
 rw [← hb8] at h
 clear h8
 try dsimp only at h
 refine w_cond rfl (fun g => ?_) fun g => ?_
 · have g16 : b8 = true := by first | simpa using g | (simp at g; exact g) | (simp at g; omega)
   clear g
   replace h := if_l g16 h
   refine w_seq ?_
   refine w_run mo (by rw [hN]; decide) fun K hK => ?_
   simp [-guardE_b, -Is_at, -Is_at', -Ls_at, -Ls_at', eL, eI, allInts, eP_Adj, eP_Cat, eP_Fn, Adj.cells, Cat.cells, Fn.cells]
   repeat (with_reducible refine And.intro ?_ ?_; · first | assumption | omega | (simp; done) | (simp; omega) | simp_all)
   refine hK _ ?_
   clear hK K
   refine tn ?_
   refine w_weak (st' := ⟨[(2, .val (.bool false))], [], 0⟩) (Wk.rel [] (by simp) (by simp) (by rw [hP]; simp) (by simp) (by simp) (by simp [Adj.cells, Cat.cells, Fn.cells, Is_append, Is_one, Ls_append, Ls_one, Bs_append, Bs_one, Es_append, Es_one, Es_set', eB, eI, eL]) (by simp [hhOk, back, Adj.cells, Cat.cells, Fn.cells, Is_append, Is_one, Ls_append, Ls_one, Bs_append, Bs_one, Es_append, Es_one, Es_set', eB, eI, eL])) ?_
   refine w_ret ?_
   refine tr ?_
   have hr := Option.some.inj h
   rw [← hr]
   refine ⟨_, (.tmp .nil), ?_⟩
   refine ⟨(.one rfl rfl .nil), [.val (.bool false)], [], by simp [Adj.cells, Cat.cells, Fn.cells, Is_append, Is_one, Ls_append, Ls_one, Bs_append, Bs_one, Es_append, Es_one, Es_set', eB, eI, eL], by simp, (UpL.refl _)⟩
 have g16 : ¬ (b8 = true) := by first | simpa using g | (simp at g; exact g) | (simp at g; omega)
 clear g
 replace h := if_r g16 h
 refine w_skip ?_
 refine tn ?_
 refine w_seq ?_
 refine w_seq ?_
 refine w_run mo (by rw [hN]; decide) fun K hK => ?_
 simp [-guardE_b, -Is_at, -Is_at', -Ls_at, -Ls_at', eL, eI, allInts, eP_Adj, eP_Cat, eP_Fn, Adj.cells, Cat.cells, Fn.cells]
 repeat (with_reducible refine And.intro ?_ ?_; · first | assumption | omega | (simp; done) | (simp; omega) | simp_all)
 refine hK _ ?_
 clear hK K
 refine tn ?_
 refine w_weak (st' := ⟨[(1, .adr 0 0 0), (3, .adr 1 0 0), (4, .adr 2 0 0), (5, .adr 3 0 0), (6, .adr 4 0 0), (7, .val (.int .i64 0))], [(0, .mix 26 [[.val (.int .i64 a_.l.s.n), .lst true 1 (Is a_.l.s.fr), .lst true 1 (Is a_.l.s.to), .lst true 1 (Is a_.l.s.id), .lst true 1 (Ls a_.l.s.cs), .val (.int .i64 a_.l.t.n), .lst true 1 (Is a_.l.t.fr), .lst true 1 (Is a_.l.t.to), .lst true 1 (Is a_.l.t.id), .lst true 1 (Ls a_.l.t.cs), .lst true 1 (Is a_.l.ob), .lst true 1 (Is a_.l.ar), .val (.int .i64 a_.r.s.n), .lst true 1 (Is a_.r.s.fr), .lst true 1 (Is a_.r.s.to), .lst true 1 (Is a_.r.s.id), .lst true 1 (Ls a_.r.s.cs), .val (.int .i64 a_.r.t.n), .lst true 1 (Is a_.r.t.fr), .lst true 1 (Is a_.r.t.to), .lst true 1 (Is a_.r.t.id), .lst true 1 (Ls a_.r.t.cs), .lst true 1 (Is a_.r.ob), .lst true 1 (Is a_.r.ar), .lst true 1 (Is a_.u), .lst true 1 (Is a_.k)]]), (1, .mix 12 [[.val (.int .i64 a_.l.s.n), .lst true 1 (Is a_.l.s.fr), .lst true 1 (Is a_.l.s.to), .lst true 1 (Is a_.l.s.id), .lst true 1 (Ls a_.l.s.cs), .val (.int .i64 a_.l.t.n), .lst true 1 (Is a_.l.t.fr), .lst true 1 (Is a_.l.t.to), .lst true 1 (Is a_.l.t.id), .lst true 1 (Ls a_.l.t.cs), .lst true 1 (Is a_.l.ob), .lst true 1 (Is a_.l.ar)]]), (2, .mix 12 [[.val (.int .i64 a_.r.s.n), .lst true 1 (Is a_.r.s.fr), .lst true 1 (Is a_.r.s.to), .lst true 1 (Is a_.r.s.id), .lst true 1 (Ls a_.r.s.cs), .val (.int .i64 a_.r.t.n), .lst true 1 (Is a_.r.t.fr), .lst true 1 (Is a_.r.t.to), .lst true 1 (Is a_.r.t.id), .lst true 1 (Ls a_.r.t.cs), .lst true 1 (Is a_.r.ob), .lst true 1 (Is a_.r.ar)]]), (3, .mix 5 [[.val (.int .i64 a_.l.s.n), .lst true 1 (Is a_.l.s.fr), .lst true 1 (Is a_.l.s.to), .lst true 1 (Is a_.l.s.id), .lst true 1 (Ls a_.l.s.cs)]]), (4, .mix 5 [[.val (.int .i64 a_.l.t.n), .lst true 1 (Is a_.l.t.fr), .lst true 1 (Is a_.l.t.to), .lst true 1 (Is a_.l.t.id), .lst true 1 (Ls a_.l.t.cs)]])], 5⟩) (Wk.rel [(0, 0), (1, 1), (2, 2), (3, 3), (4, 4)] (by simp) (by simp) (by rw [hP]; simp) (by simp) (by simp) (by simp [Adj.cells, Cat.cells, Fn.cells, Is_append, Is_one, Ls_append, Ls_one, Bs_append, Bs_one, Es_append, Es_one, Es_set', eB, eI, eL]) (by simp [hhOk, back, Adj.cells, Cat.cells, Fn.cells, Is_append, Is_one, Ls_append, Ls_one, Bs_append, Bs_one, Es_append, Es_one, Es_set', eB, eI, eL])) ?_
 replace h := bind_some h
 obtain ⟨e17, h, h17⟩ := h
 refine w_joinT (fun b17 : Unit => ⟨[(1, .adr 0 0 0), (4, .adr 1 0 0), (5, .adr 2 0 0), (6, .adr 3 0 0)], [(0, .mix 26 [[.val (.int .i64 a_.l.s.n), .lst true 1 (Is a_.l.s.fr), .lst true 1 (Is a_.l.s.to), .lst true 1 (Is a_.l.s.id), .lst true 1 (Ls a_.l.s.cs), .val (.int .i64 a_.l.t.n), .lst true 1 (Is a_.l.t.fr), .lst true 1 (Is a_.l.t.to), .lst true 1 (Is a_.l.t.id), .lst true 1 (Ls a_.l.t.cs), .lst true 1 (Is a_.l.ob), .lst true 1 (Is a_.l.ar), .val (.int .i64 a_.r.s.n), .lst true 1 (Is a_.r.s.fr), .lst true 1 (Is a_.r.s.to), .lst true 1 (Is a_.r.s.id), .lst true 1 (Ls a_.r.s.cs), .val (.int .i64 a_.r.t.n), .lst true 1 (Is a_.r.t.fr), .lst true 1 (Is a_.r.t.to), .lst true 1 (Is a_.r.t.id), .lst true 1 (Ls a_.r.t.cs), .lst true 1 (Is a_.r.ob), .lst true 1 (Is a_.r.ar), .lst true 1 (Is a_.u), .lst true 1 (Is a_.k)]]), (1, .mix 12 [[.val (.int .i64 a_.r.s.n), .lst true 1 (Is a_.r.s.fr), .lst true 1 (Is a_.r.s.to), .lst true 1 (Is a_.r.s.id), .lst true 1 (Ls a_.r.s.cs), .val (.int .i64 a_.r.t.n), .lst true 1 (Is a_.r.t.fr), .lst true 1 (Is a_.r.t.to), .lst true 1 (Is a_.r.t.id), .lst true 1 (Ls a_.r.t.cs), .lst true 1 (Is a_.r.ob), .lst true 1 (Is a_.r.ar)]]), (2, .mix 5 [[.val (.int .i64 a_.l.s.n), .lst true 1 (Is a_.l.s.fr), .lst true 1 (Is a_.l.s.to), .lst true 1 (Is a_.l.s.id), .lst true 1 (Ls a_.l.s.cs)]]), (3, .mix 5 [[.val (.int .i64 a_.l.t.n), .lst true 1 (Is a_.l.t.fr), .lst true 1 (Is a_.l.t.to), .lst true 1 (Is a_.l.t.id), .lst true 1 (Ls a_.l.t.cs)]])], 4⟩) (fun b17 => Sum.inl b17 = e17) ?_ ?_
 · refine w_block ?_
   refine w_loopF h (fun s27 : Int => ⟨[(1, .adr 0 0 0), (3, .adr 1 0 0), (4, .adr 2 0 0), (5, .adr 3 0 0), (6, .adr 4 0 0), (7, .val (.int .i64 s27))], [(0, .mix 26 [[.val (.int .i64 a_.l.s.n), .lst true 1 (Is a_.l.s.fr), .lst true 1 (Is a_.l.s.to), .lst true 1 (Is a_.l.s.id), .lst true 1 (Ls a_.l.s.cs), .val (.int .i64 a_.l.t.n), .lst true 1 (Is a_.l.t.fr), .lst true 1 (Is a_.l.t.to), .lst true 1 (Is a_.l.t.id), .lst true 1 (Ls a_.l.t.cs), .lst true 1 (Is a_.l.ob), .lst true 1 (Is a_.l.ar), .val (.int .i64 a_.r.s.n), .lst true 1 (Is a_.r.s.fr), .lst true 1 (Is a_.r.s.to), .lst true 1 (Is a_.r.s.id), .lst true 1 (Ls a_.r.s.cs), .val (.int .i64 a_.r.t.n), .lst true 1 (Is a_.r.t.fr), .lst true 1 (Is a_.r.t.to), .lst true 1 (Is a_.r.t.id), .lst true 1 (Ls a_.r.t.cs), .lst true 1 (Is a_.r.ob), .lst true 1 (Is a_.r.ar), .lst true 1 (Is a_.u), .lst true 1 (Is a_.k)]]), (1, .mix 12 [[.val (.int .i64 a_.l.s.n), .lst true 1 (Is a_.l.s.fr), .lst true 1 (Is a_.l.s.to), .lst true 1 (Is a_.l.s.id), .lst true 1 (Ls a_.l.s.cs), .val (.int .i64 a_.l.t.n), .lst true 1 (Is a_.l.t.fr), .lst true 1 (Is a_.l.t.to), .lst true 1 (Is a_.l.t.id), .lst true 1 (Ls a_.l.t.cs), .lst true 1 (Is a_.l.ob), .lst true 1 (Is a_.l.ar)]]), (2, .mix 12 [[.val (.int .i64 a_.r.s.n), .lst true 1 (Is a_.r.s.fr), .lst true 1 (Is a_.r.s.to), .lst true 1 (Is a_.r.s.id), .lst true 1 (Ls a_.r.s.cs), .val (.int .i64 a_.r.t.n), .lst true 1 (Is a_.r.t.fr), .lst true 1 (Is a_.r.t.to), .lst true 1 (Is a_.r.t.id), .lst true 1 (Ls a_.r.t.cs), .lst true 1 (Is a_.r.ob), .lst true 1 (Is a_.r.ar)]]), (3, .mix 5 [[.val (.int .i64 a_.l.s.n), .lst true 1 (Is a_.l.s.fr), .lst true 1 (Is a_.l.s.to), .lst true 1 (Is a_.l.s.id), .lst true 1 (Ls a_.l.s.cs)]]), (4, .mix 5 [[.val (.int .i64 a_.l.t.n), .lst true 1 (Is a_.l.t.fr), .lst true 1 (Is a_.l.t.to), .lst true 1 (Is a_.l.t.id), .lst true 1 (Ls a_.l.t.cs)]])], 5⟩) (Wk.rel [(0, 0), (1, 1), (2, 2), (3, 3), (4, 4)] (by simp) (by simp) (by rw [hP]; simp) (by simp) (by simp) (by simp [Adj.cells, Cat.cells, Fn.cells, Is_append, Is_one, Ls_append, Ls_one, Bs_append, Bs_one, Es_append, Es_one, Es_set', eB, eI, eL]) (by simp [hhOk, back, Adj.cells, Cat.cells, Fn.cells, Is_append, Is_one, Ls_append, Ls_one, Bs_append, Bs_one, Es_append, Es_one, Es_set', eB, eI, eL])) ?_
   clear h
   intro k27 s27 c27 h hk27
   refine w_seq ?_
   refine w_seq ?_
   refine w_run mo (by rw [hN]; decide) fun K hK => ?_
   simp [-guardE_b, -Is_at, -Is_at', -Ls_at, -Ls_at', eL, eI, allInts, eP_Adj, eP_Cat, eP_Fn, Adj.cells, Cat.cells, Fn.cells]
   repeat (with_reducible refine And.intro ?_ ?_; · first | assumption | omega | (simp; done) | (simp; omega) | simp_all)
   refine hK _ ?_
   clear hK K
   refine tn ?_
   refine w_weak (st' := ⟨[(1, .adr 0 0 0), (3, .adr 1 0 0), (4, .adr 2 0 0), (5, .adr 3 0 0), (6, .adr 4 0 0), (7, .val (.int .i64 s27)), (54, .val (.bool (decide (s27 < a_.l.s.n))))], [(0, .mix 26 [[.val (.int .i64 a_.l.s.n), .lst true 1 (Is a_.l.s.fr), .lst true 1 (Is a_.l.s.to), .lst true 1 (Is a_.l.s.id), .lst true 1 (Ls a_.l.s.cs), .val (.int .i64 a_.l.t.n), .lst true 1 (Is a_.l.t.fr), .lst true 1 (Is a_.l.t.to), .lst true 1 (Is a_.l.t.id), .lst true 1 (Ls a_.l.t.cs), .lst true 1 (Is a_.l.ob), .lst true 1 (Is a_.l.ar), .val (.int .i64 a_.r.s.n), .lst true 1 (Is a_.r.s.fr), .lst true 1 (Is a_.r.s.to), .lst true 1 (Is a_.r.s.id), .lst true 1 (Ls a_.r.s.cs), .val (.int .i64 a_.r.t.n), .lst true 1 (Is a_.r.t.fr), .lst true 1 (Is a_.r.t.to), .lst true 1 (Is a_.r.t.id), .lst true 1 (Ls a_.r.t.cs), .lst true 1 (Is a_.r.ob), .lst true 1 (Is a_.r.ar), .lst true 1 (Is a_.u), .lst true 1 (Is a_.k)]]), (1, .mix 12 [[.val (.int .i64 a_.l.s.n), .lst true 1 (Is a_.l.s.fr), .lst true 1 (Is a_.l.s.to), .lst true 1 (Is a_.l.s.id), .lst true 1 (Ls a_.l.s.cs), .val (.int .i64 a_.l.t.n), .lst true 1 (Is a_.l.t.fr), .lst true 1 (Is a_.l.t.to), .lst true 1 (Is a_.l.t.id), .lst true 1 (Ls a_.l.t.cs), .lst true 1 (Is a_.l.ob), .lst true 1 (Is a_.l.ar)]]), (2, .mix 12 [[.val (.int .i64 a_.r.s.n), .lst true 1 (Is a_.r.s.fr), .lst true 1 (Is a_.r.s.to), .lst true 1 (Is a_.r.s.id), .lst true 1 (Ls a_.r.s.cs), .val (.int .i64 a_.r.t.n), .lst true 1 (Is a_.r.t.fr), .lst true 1 (Is a_.r.t.to), .lst true 1 (Is a_.r.t.id), .lst true 1 (Ls a_.r.t.cs), .lst true 1 (Is a_.r.ob), .lst true 1 (Is a_.r.ar)]]), (3, .mix 5 [[.val (.int .i64 a_.l.s.n), .lst true 1 (Is a_.l.s.fr), .lst true 1 (Is a_.l.s.to), .lst true 1 (Is a_.l.s.id), .lst true 1 (Ls a_.l.s.cs)]]), (4, .mix 5 [[.val (.int .i64 a_.l.t.n), .lst true 1 (Is a_.l.t.fr), .lst true 1 (Is a_.l.t.to), .lst true 1 (Is a_.l.t.id), .lst true 1 (Ls a_.l.t.cs)]])], 5⟩) (Wk.rel [(0, 0), (1, 1), (2, 2), (3, 3), (4, 4)] (by simp) (by simp) (by rw [hP]; simp) (by simp) (by simp) (by simp [Adj.cells, Cat.cells, Fn.cells, Is_append, Is_one, Ls_append, Ls_one, Bs_append, Bs_one, Es_append, Es_one, Es_set', eB, eI, eL]) (by simp [hhOk, back, Adj.cells, Cat.cells, Fn.cells, Is_append, Is_one, Ls_append, Ls_one, Bs_append, Bs_one, Es_append, Es_one, Es_set', eB, eI, eL])) ?_
   refine w_cond rfl (fun g => ?_) fun g => ?_
   · have g28 : s27 < a_.l.s.n := by first | simpa using g | (simp at g; exact g) | (simp at g; omega)
     clear g
     replace h := if_l g28 h
     refine w_skip ?_
     refine tn ?_
     refine w_seq ?_
     refine w_block ?_
     refine w_seq ?_
     refine w_run mo (by rw [hN]; decide) fun K hK => ?_
     replace h := ass_some h
     obtain ⟨a29, h⟩ := h
     replace h := ass_some h
     obtain ⟨a30, h⟩ := h
     replace h := ass_some h
     obtain ⟨a31, h⟩ := h
     replace h := ass_some h
     obtain ⟨a32, h⟩ := h
     simp [-guardE_b, -Is_at, -Is_at', -Ls_at, -Ls_at', eL, eI, allInts, eP_Adj, eP_Cat, eP_Fn, Adj.cells, Cat.cells, Fn.cells, at_I a29, at_I a30, at_I a31, at_I a32]
     repeat (with_reducible refine And.intro ?_ ?_; · first | assumption | omega | (simp; done) | (simp; omega) | simp_all)
     replace h := bind_some h
     obtain ⟨v33, hv33, h⟩ := h
     refine callA_intro (w_s_l02Then _ _ _ v33 hv33) (.cons (.aggL (.cons .val (.cons .lst (.cons .lst (.cons .lst (.cons .lst .nil)))))) (.cons .val (.cons .val .nil))) ?_
     simp [-guardE_b, -Is_at, -Is_at', -Ls_at, -Ls_at', unk, unA, unE, unT, unC, flat, eL, eI, allInts, eP_Adj, eP_Cat, eP_Fn, Adj.cells, Cat.cells, Fn.cells]
     repeat (with_reducible refine And.intro ?_ ?_; · first | assumption | omega | (simp; done) | (simp; omega) | simp_all)
     replace h := bind_some h
     obtain ⟨v34, hv34, h⟩ := h
     refine callA_intro (w_s_l02Unit _ _ v34 hv34) (.cons (.aggL (.cons .val (.cons .lst (.cons .lst (.cons .lst (.cons .lst .nil)))))) (.cons .val .nil)) ?_
     simp [-guardE_b, -Is_at, -Is_at', -Ls_at, -Ls_at', unk, unA, unE, unT, unC, flat, eL, eI, allInts, eP_Adj, eP_Cat, eP_Fn, Adj.cells, Cat.cells, Fn.cells]
     repeat (with_reducible refine And.intro ?_ ?_; · first | assumption | omega | (simp; done) | (simp; omega) | simp_all)
     refine hK _ ?_
     clear hK K
     refine tn ?_
     refine w_weak (st' := ⟨[(1, .adr 0 0 0), (3, .adr 1 0 0), (4, .adr 2 0 0), (5, .adr 3 0 0), (6, .adr 4 0 0), (7, .val (.int .i64 s27)), (79, .val (.bool (!v34)))], [(0, .mix 26 [[.val (.int .i64 a_.l.s.n), .lst true 1 (Is a_.l.s.fr), .lst true 1 (Is a_.l.s.to), .lst true 1 (Is a_.l.s.id), .lst true 1 (Ls a_.l.s.cs), .val (.int .i64 a_.l.t.n), .lst true 1 (Is a_.l.t.fr), .lst true 1 (Is a_.l.t.to), .lst true 1 (Is a_.l.t.id), .lst true 1 (Ls a_.l.t.cs), .lst true 1 (Is a_.l.ob), .lst true 1 (Is a_.l.ar), .val (.int .i64 a_.r.s.n), .lst true 1 (Is a_.r.s.fr), .lst true 1 (Is a_.r.s.to), .lst true 1 (Is a_.r.s.id), .lst true 1 (Ls a_.r.s.cs), .val (.int .i64 a_.r.t.n), .lst true 1 (Is a_.r.t.fr), .lst true 1 (Is a_.r.t.to), .lst true 1 (Is a_.r.t.id), .lst true 1 (Ls a_.r.t.cs), .lst true 1 (Is a_.r.ob), .lst true 1 (Is a_.r.ar), .lst true 1 (Is a_.u), .lst true 1 (Is a_.k)]]), (1, .mix 12 [[.val (.int .i64 a_.l.s.n), .lst true 1 (Is a_.l.s.fr), .lst true 1 (Is a_.l.s.to), .lst true 1 (Is a_.l.s.id), .lst true 1 (Ls a_.l.s.cs), .val (.int .i64 a_.l.t.n), .lst true 1 (Is a_.l.t.fr), .lst true 1 (Is a_.l.t.to), .lst true 1 (Is a_.l.t.id), .lst true 1 (Ls a_.l.t.cs), .lst true 1 (Is a_.l.ob), .lst true 1 (Is a_.l.ar)]]), (2, .mix 12 [[.val (.int .i64 a_.r.s.n), .lst true 1 (Is a_.r.s.fr), .lst true 1 (Is a_.r.s.to), .lst true 1 (Is a_.r.s.id), .lst true 1 (Ls a_.r.s.cs), .val (.int .i64 a_.r.t.n), .lst true 1 (Is a_.r.t.fr), .lst true 1 (Is a_.r.t.to), .lst true 1 (Is a_.r.t.id), .lst true 1 (Ls a_.r.t.cs), .lst true 1 (Is a_.r.ob), .lst true 1 (Is a_.r.ar)]]), (3, .mix 5 [[.val (.int .i64 a_.l.s.n), .lst true 1 (Is a_.l.s.fr), .lst true 1 (Is a_.l.s.to), .lst true 1 (Is a_.l.s.id), .lst true 1 (Ls a_.l.s.cs)]]), (4, .mix 5 [[.val (.int .i64 a_.l.t.n), .lst true 1 (Is a_.l.t.fr), .lst true 1 (Is a_.l.t.to), .lst true 1 (Is a_.l.t.id), .lst true 1 (Ls a_.l.t.cs)]])], 5⟩) (Wk.rel [(0, 0), (1, 1), (2, 2), (3, 3), (4, 4)] (by simp) (by simp) (by rw [hP]; simp) (by simp) (by simp) (by simp [Adj.cells, Cat.cells, Fn.cells, Is_append, Is_one, Ls_append, Ls_one, Bs_append, Bs_one, Es_append, Es_one, Es_set', eB, eI, eL]) (by simp [hhOk, back, Adj.cells, Cat.cells, Fn.cells, Is_append, Is_one, Ls_append, Ls_one, Bs_append, Bs_one, Es_append, Es_one, Es_set', eB, eI, eL])) ?_
     refine w_cond rfl (fun g => ?_) fun g => ?_
     · have g35 : ¬ (v34 = true) := by first | simpa using g | (simp at g; exact g) | (simp at g; omega)
       clear g
       replace h := if_l g35 h
       refine w_seq ?_
       refine w_run mo (by rw [hN]; decide) fun K hK => ?_
       simp [-guardE_b, -Is_at, -Is_at', -Ls_at, -Ls_at', eL, eI, allInts, eP_Adj, eP_Cat, eP_Fn, Adj.cells, Cat.cells, Fn.cells]
       repeat (with_reducible refine And.intro ?_ ?_; · first | assumption | omega | (simp; done) | (simp; omega) | simp_all)
       refine hK _ ?_
       clear hK K
       refine tn ?_
       refine w_weak (st' := ⟨[(2, .val (.bool false))], [], 0⟩) (Wk.rel [] (by simp) (by simp) (by rw [hP]; simp) (by simp) (by simp) (by simp [Adj.cells, Cat.cells, Fn.cells, Is_append, Is_one, Ls_append, Ls_one, Bs_append, Bs_one, Es_append, Es_one, Es_set', eB, eI, eL]) (by simp [hhOk, back, Adj.cells, Cat.cells, Fn.cells, Is_append, Is_one, Ls_append, Ls_one, Bs_append, Bs_one, Es_append, Es_one, Es_set', eB, eI, eL])) ?_
       refine w_ret ?_
       refine br ?_
       refine tr ?_
       refine lr ?_
       refine br ?_
       refine tr ?_
       cases h
       have q : _ = e17 := hk27
       have h := h17
       rw [← q] at h
       clear q
       try dsimp only at h
       have hr := Option.some.inj h
       rw [← hr]
       refine ⟨_, (.tmp .nil), ?_⟩
       refine ⟨(.one rfl rfl .nil), [.val (.bool false)], [], by simp [Adj.cells, Cat.cells, Fn.cells, Is_append, Is_one, Ls_append, Ls_one, Bs_append, Bs_one, Es_append, Es_one, Es_set', eB, eI, eL], by simp, (UpL.refl _)⟩
     have g35 : ¬ (¬ (v34 = true)) := by first | simpa using g | (simp at g; exact g) | (simp at g; omega)
     clear g
     replace h := if_r g35 h
     refine w_skip ?_
     refine bn ?_
     refine tn ?_
     refine w_run mo (by rw [hN]; decide) fun K hK => ?_
     replace h := ass_some h
     obtain ⟨a36, h⟩ := h
     simp [-guardE_b, -Is_at, -Is_at', -Ls_at, -Ls_at', eL, eI, allInts, eP_Adj, eP_Cat, eP_Fn, Adj.cells, Cat.cells, Fn.cells, wrap_id a36]
     repeat (with_reducible refine And.intro ?_ ?_; · first | assumption | omega | (simp; done) | (simp; omega) | simp_all)
     refine hK _ ?_
     clear hK K
     cases h
     exact rn (s' := s27 + 1) hk27 (Wk.rel [(0, 0), (1, 1), (2, 2), (3, 3), (4, 4)] (by simp) (by simp) (by rw [hP]; simp) (by simp) (by simp) (by simp [Adj.cells, Cat.cells, Fn.cells, Is_append, Is_one, Ls_append, Ls_one, Bs_append, Bs_one, Es_append, Es_one, Es_set', eB, eI, eL]) (by simp [hhOk, back, Adj.cells, Cat.cells, Fn.cells, Is_append, Is_one, Ls_append, Ls_one, Bs_append, Bs_one, Es_append, Es_one, Es_set', eB, eI, eL]))
   have g28 : ¬ (s27 < a_.l.s.n) := by first | simpa using g | (simp at g; exact g) | (simp at g; omega)
   clear g
   replace h := if_r g28 h
   refine w_exit ?_
   refine tx ?_
   refine lx ?_
   refine bh ?_
   cases h
   exact jn (b := ()) hk27 (Wk.rel [(0, 0), (2, 1), (3, 2), (4, 3)] (by simp) (by simp) (by rw [hP]; simp) (by simp) (by simp) (by simp [Adj.cells, Cat.cells, Fn.cells, Is_append, Is_one, Ls_append, Ls_one, Bs_append, Bs_one, Es_append, Es_one, Es_set', eB, eI, eL]) (by simp [hhOk, back, Adj.cells, Cat.cells, Fn.cells, Is_append, Is_one, Ls_append, Ls_one, Bs_append, Bs_one, Es_append, Es_one, Es_set', eB, eI, eL]))
 intro b17 hb17
 have h := h17
 rw [← hb17] at h
 clear h17
 try dsimp only at h
 refine w_seq ?_
 refine w_seq ?_
 refine w_run mo (by rw [hN]; decide) fun K hK => ?_
 simp [-guardE_b, -Is_at, -Is_at', -Ls_at, -Ls_at', eL, eI, allInts, eP_Adj, eP_Cat, eP_Fn, Adj.cells, Cat.cells, Fn.cells]
 repeat (with_reducible refine And.intro ?_ ?_; · first | assumption | omega | (simp; done) | (simp; omega) | simp_all)
 refine hK _ ?_
 clear hK K
 refine tn ?_
 refine w_weak (st' := ⟨[(1, .adr 0 0 0), (4, .adr 1 0 0), (5, .adr 2 0 0), (6, .adr 3 0 0), (8, .val (.int .i64 0))], [(0, .mix 26 [[.val (.int .i64 a_.l.s.n), .lst true 1 (Is a_.l.s.fr), .lst true 1 (Is a_.l.s.to), .lst true 1 (Is a_.l.s.id), .lst true 1 (Ls a_.l.s.cs), .val (.int .i64 a_.l.t.n), .lst true 1 (Is a_.l.t.fr), .lst true 1 (Is a_.l.t.to), .lst true 1 (Is a_.l.t.id), .lst true 1 (Ls a_.l.t.cs), .lst true 1 (Is a_.l.ob), .lst true 1 (Is a_.l.ar), .val (.int .i64 a_.r.s.n), .lst true 1 (Is a_.r.s.fr), .lst true 1 (Is a_.r.s.to), .lst true 1 (Is a_.r.s.id), .lst true 1 (Ls a_.r.s.cs), .val (.int .i64 a_.r.t.n), .lst true 1 (Is a_.r.t.fr), .lst true 1 (Is a_.r.t.to), .lst true 1 (Is a_.r.t.id), .lst true 1 (Ls a_.r.t.cs), .lst true 1 (Is a_.r.ob), .lst true 1 (Is a_.r.ar), .lst true 1 (Is a_.u), .lst true 1 (Is a_.k)]]), (1, .mix 12 [[.val (.int .i64 a_.r.s.n), .lst true 1 (Is a_.r.s.fr), .lst true 1 (Is a_.r.s.to), .lst true 1 (Is a_.r.s.id), .lst true 1 (Ls a_.r.s.cs), .val (.int .i64 a_.r.t.n), .lst true 1 (Is a_.r.t.fr), .lst true 1 (Is a_.r.t.to), .lst true 1 (Is a_.r.t.id), .lst true 1 (Ls a_.r.t.cs), .lst true 1 (Is a_.r.ob), .lst true 1 (Is a_.r.ar)]]), (2, .mix 5 [[.val (.int .i64 a_.l.s.n), .lst true 1 (Is a_.l.s.fr), .lst true 1 (Is a_.l.s.to), .lst true 1 (Is a_.l.s.id), .lst true 1 (Ls a_.l.s.cs)]]), (3, .mix 5 [[.val (.int .i64 a_.l.t.n), .lst true 1 (Is a_.l.t.fr), .lst true 1 (Is a_.l.t.to), .lst true 1 (Is a_.l.t.id), .lst true 1 (Ls a_.l.t.cs)]])], 4⟩) (Wk.rel [(0, 0), (1, 1), (2, 2), (3, 3)] (by simp) (by simp) (by rw [hP]; simp) (by simp) (by simp) (by simp [Adj.cells, Cat.cells, Fn.cells, Is_append, Is_one, Ls_append, Ls_one, Bs_append, Bs_one, Es_append, Es_one, Es_set', eB, eI, eL]) (by simp [hhOk, back, Adj.cells, Cat.cells, Fn.cells, Is_append, Is_one, Ls_append, Ls_one, Bs_append, Bs_one, Es_append, Es_one, Es_set', eB, eI, eL])) ?_
 replace h := bind_some h
 obtain ⟨e37, h, h37⟩ := h
 refine w_joinT (fun b37 : Unit => ⟨[], [], 0⟩) (fun b37 => Sum.inl b37 = e37) ?_ ?_
 · refine w_block ?_
   refine w_loopF h (fun s47 : Int => ⟨[(1, .adr 0 0 0), (4, .adr 1 0 0), (5, .adr 2 0 0), (6, .adr 3 0 0), (8, .val (.int .i64 s47))], [(0, .mix 26 [[.val (.int .i64 a_.l.s.n), .lst true 1 (Is a_.l.s.fr), .lst true 1 (Is a_.l.s.to), .lst true 1 (Is a_.l.s.id), .lst true 1 (Ls a_.l.s.cs), .val (.int .i64 a_.l.t.n), .lst true 1 (Is a_.l.t.fr), .lst true 1 (Is a_.l.t.to), .lst true 1 (Is a_.l.t.id), .lst true 1 (Ls a_.l.t.cs), .lst true 1 (Is a_.l.ob), .lst true 1 (Is a_.l.ar), .val (.int .i64 a_.r.s.n), .lst true 1 (Is a_.r.s.fr), .lst true 1 (Is a_.r.s.to), .lst true 1 (Is a_.r.s.id), .lst true 1 (Ls a_.r.s.cs), .val (.int .i64 a_.r.t.n), .lst true 1 (Is a_.r.t.fr), .lst true 1 (Is a_.r.t.to), .lst true 1 (Is a_.r.t.id), .lst true 1 (Ls a_.r.t.cs), .lst true 1 (Is a_.r.ob), .lst true 1 (Is a_.r.ar), .lst true 1 (Is a_.u), .lst true 1 (Is a_.k)]]), (1, .mix 12 [[.val (.int .i64 a_.r.s.n), .lst true 1 (Is a_.r.s.fr), .lst true 1 (Is a_.r.s.to), .lst true 1 (Is a_.r.s.id), .lst true 1 (Ls a_.r.s.cs), .val (.int .i64 a_.r.t.n), .lst true 1 (Is a_.r.t.fr), .lst true 1 (Is a_.r.t.to), .lst true 1 (Is a_.r.t.id), .lst true 1 (Ls a_.r.t.cs), .lst true 1 (Is a_.r.ob), .lst true 1 (Is a_.r.ar)]]), (2, .mix 5 [[.val (.int .i64 a_.l.s.n), .lst true 1 (Is a_.l.s.fr), .lst true 1 (Is a_.l.s.to), .lst true 1 (Is a_.l.s.id), .lst true 1 (Ls a_.l.s.cs)]]), (3, .mix 5 [[.val (.int .i64 a_.l.t.n), .lst true 1 (Is a_.l.t.fr), .lst true 1 (Is a_.l.t.to), .lst true 1 (Is a_.l.t.id), .lst true 1 (Ls a_.l.t.cs)]])], 4⟩) (Wk.rel [(0, 0), (1, 1), (2, 2), (3, 3)] (by simp) (by simp) (by rw [hP]; simp) (by simp) (by simp) (by simp [Adj.cells, Cat.cells, Fn.cells, Is_append, Is_one, Ls_append, Ls_one, Bs_append, Bs_one, Es_append, Es_one, Es_set', eB, eI, eL]) (by simp [hhOk, back, Adj.cells, Cat.cells, Fn.cells, Is_append, Is_one, Ls_append, Ls_one, Bs_append, Bs_one, Es_append, Es_one, Es_set', eB, eI, eL])) ?_
   clear h
   intro k47 s47 c47 h hk47
   refine w_seq ?_
   refine w_seq ?_
   refine w_run mo (by rw [hN]; decide) fun K hK => ?_
   simp [-guardE_b, -Is_at, -Is_at', -Ls_at, -Ls_at', eL, eI, allInts, eP_Adj, eP_Cat, eP_Fn, Adj.cells, Cat.cells, Fn.cells]
   repeat (with_reducible refine And.intro ?_ ?_; · first | assumption | omega | (simp; done) | (simp; omega) | simp_all)
   refine hK _ ?_
   clear hK K
   refine tn ?_
   refine w_weak (st' := ⟨[(1, .adr 0 0 0), (4, .adr 1 0 0), (5, .adr 2 0 0), (6, .adr 3 0 0), (8, .val (.int .i64 s47)), (83, .val (.bool (decide (s47 < a_.l.t.n))))], [(0, .mix 26 [[.val (.int .i64 a_.l.s.n), .lst true 1 (Is a_.l.s.fr), .lst true 1 (Is a_.l.s.to), .lst true 1 (Is a_.l.s.id), .lst true 1 (Ls a_.l.s.cs), .val (.int .i64 a_.l.t.n), .lst true 1 (Is a_.l.t.fr), .lst true 1 (Is a_.l.t.to), .lst true 1 (Is a_.l.t.id), .lst true 1 (Ls a_.l.t.cs), .lst true 1 (Is a_.l.ob), .lst true 1 (Is a_.l.ar), .val (.int .i64 a_.r.s.n), .lst true 1 (Is a_.r.s.fr), .lst true 1 (Is a_.r.s.to), .lst true 1 (Is a_.r.s.id), .lst true 1 (Ls a_.r.s.cs), .val (.int .i64 a_.r.t.n), .lst true 1 (Is a_.r.t.fr), .lst true 1 (Is a_.r.t.to), .lst true 1 (Is a_.r.t.id), .lst true 1 (Ls a_.r.t.cs), .lst true 1 (Is a_.r.ob), .lst true 1 (Is a_.r.ar), .lst true 1 (Is a_.u), .lst true 1 (Is a_.k)]]), (1, .mix 12 [[.val (.int .i64 a_.r.s.n), .lst true 1 (Is a_.r.s.fr), .lst true 1 (Is a_.r.s.to), .lst true 1 (Is a_.r.s.id), .lst true 1 (Ls a_.r.s.cs), .val (.int .i64 a_.r.t.n), .lst true 1 (Is a_.r.t.fr), .lst true 1 (Is a_.r.t.to), .lst true 1 (Is a_.r.t.id), .lst true 1 (Ls a_.r.t.cs), .lst true 1 (Is a_.r.ob), .lst true 1 (Is a_.r.ar)]]), (2, .mix 5 [[.val (.int .i64 a_.l.s.n), .lst true 1 (Is a_.l.s.fr), .lst true 1 (Is a_.l.s.to), .lst true 1 (Is a_.l.s.id), .lst true 1 (Ls a_.l.s.cs)]]), (3, .mix 5 [[.val (.int .i64 a_.l.t.n), .lst true 1 (Is a_.l.t.fr), .lst true 1 (Is a_.l.t.to), .lst true 1 (Is a_.l.t.id), .lst true 1 (Ls a_.l.t.cs)]])], 4⟩) (Wk.rel [(0, 0), (1, 1), (2, 2), (3, 3)] (by simp) (by simp) (by rw [hP]; simp) (by simp) (by simp) (by simp [Adj.cells, Cat.cells, Fn.cells, Is_append, Is_one, Ls_append, Ls_one, Bs_append, Bs_one, Es_append, Es_one, Es_set', eB, eI, eL]) (by simp [hhOk, back, Adj.cells, Cat.cells, Fn.cells, Is_append, Is_one, Ls_append, Ls_one, Bs_append, Bs_one, Es_append, Es_one, Es_set', eB, eI, eL])) ?_
   refine w_cond rfl (fun g => ?_) fun g => ?_
   · have g48 : s47 < a_.l.t.n := by first | simpa using g | (simp at g; exact g) | (simp at g; omega)
     clear g
     replace h := if_l g48 h
     refine w_skip ?_
     refine tn ?_
     refine w_seq ?_
     refine w_block ?_
     refine w_seq ?_
     refine w_run mo (by rw [hN]; decide) fun K hK => ?_
     replace h := ass_some h
     obtain ⟨a49, h⟩ := h
     replace h := ass_some h
     obtain ⟨a50, h⟩ := h
     replace h := ass_some h
     obtain ⟨a51, h⟩ := h
     replace h := ass_some h
     obtain ⟨a52, h⟩ := h
     simp [-guardE_b, -Is_at, -Is_at', -Ls_at, -Ls_at', eL, eI, allInts, eP_Adj, eP_Cat, eP_Fn, Adj.cells, Cat.cells, Fn.cells, at_I a49, at_I a50, at_I a51, at_I a52]
     repeat (with_reducible refine And.intro ?_ ?_; · first | assumption | omega | (simp; done) | (simp; omega) | simp_all)
     replace h := bind_some h
     obtain ⟨v53, hv53, h⟩ := h
     refine callA_intro (w_s_l02Then _ _ _ v53 hv53) (.cons (.aggL (.cons .val (.cons .lst (.cons .lst (.cons .lst (.cons .lst .nil)))))) (.cons .val (.cons .val .nil))) ?_
     simp [-guardE_b, -Is_at, -Is_at', -Ls_at, -Ls_at', unk, unA, unE, unT, unC, flat, eL, eI, allInts, eP_Adj, eP_Cat, eP_Fn, Adj.cells, Cat.cells, Fn.cells]
     repeat (with_reducible refine And.intro ?_ ?_; · first | assumption | omega | (simp; done) | (simp; omega) | simp_all)
     replace h := bind_some h
     obtain ⟨v54, hv54, h⟩ := h
     refine callA_intro (w_s_l02Unit _ _ v54 hv54) (.cons (.aggL (.cons .val (.cons .lst (.cons .lst (.cons .lst (.cons .lst .nil)))))) (.cons .val .nil)) ?_
     simp [-guardE_b, -Is_at, -Is_at', -Ls_at, -Ls_at', unk, unA, unE, unT, unC, flat, eL, eI, allInts, eP_Adj, eP_Cat, eP_Fn, Adj.cells, Cat.cells, Fn.cells]
     repeat (with_reducible refine And.intro ?_ ?_; · first | assumption | omega | (simp; done) | (simp; omega) | simp_all)
     refine hK _ ?_
     clear hK K
     refine tn ?_
     refine w_weak (st' := ⟨[(1, .adr 0 0 0), (4, .adr 1 0 0), (5, .adr 2 0 0), (6, .adr 3 0 0), (8, .val (.int .i64 s47)), (108, .val (.bool (!v54)))], [(0, .mix 26 [[.val (.int .i64 a_.l.s.n), .lst true 1 (Is a_.l.s.fr), .lst true 1 (Is a_.l.s.to), .lst true 1 (Is a_.l.s.id), .lst true 1 (Ls a_.l.s.cs), .val (.int .i64 a_.l.t.n), .lst true 1 (Is a_.l.t.fr), .lst true 1 (Is a_.l.t.to), .lst true 1 (Is a_.l.t.id), .lst true 1 (Ls a_.l.t.cs), .lst true 1 (Is a_.l.ob), .lst true 1 (Is a_.l.ar), .val (.int .i64 a_.r.s.n), .lst true 1 (Is a_.r.s.fr), .lst true 1 (Is a_.r.s.to), .lst true 1 (Is a_.r.s.id), .lst true 1 (Ls a_.r.s.cs), .val (.int .i64 a_.r.t.n), .lst true 1 (Is a_.r.t.fr), .lst true 1 (Is a_.r.t.to), .lst true 1 (Is a_.r.t.id), .lst true 1 (Ls a_.r.t.cs), .lst true 1 (Is a_.r.ob), .lst true 1 (Is a_.r.ar), .lst true 1 (Is a_.u), .lst true 1 (Is a_.k)]]), (1, .mix 12 [[.val (.int .i64 a_.r.s.n), .lst true 1 (Is a_.r.s.fr), .lst true 1 (Is a_.r.s.to), .lst true 1 (Is a_.r.s.id), .lst true 1 (Ls a_.r.s.cs), .val (.int .i64 a_.r.t.n), .lst true 1 (Is a_.r.t.fr), .lst true 1 (Is a_.r.t.to), .lst true 1 (Is a_.r.t.id), .lst true 1 (Ls a_.r.t.cs), .lst true 1 (Is a_.r.ob), .lst true 1 (Is a_.r.ar)]]), (2, .mix 5 [[.val (.int .i64 a_.l.s.n), .lst true 1 (Is a_.l.s.fr), .lst true 1 (Is a_.l.s.to), .lst true 1 (Is a_.l.s.id), .lst true 1 (Ls a_.l.s.cs)]]), (3, .mix 5 [[.val (.int .i64 a_.l.t.n), .lst true 1 (Is a_.l.t.fr), .lst true 1 (Is a_.l.t.to), .lst true 1 (Is a_.l.t.id), .lst true 1 (Ls a_.l.t.cs)]])], 4⟩) (Wk.rel [(0, 0), (1, 1), (2, 2), (3, 3)] (by simp) (by simp) (by rw [hP]; simp) (by simp) (by simp) (by simp [Adj.cells, Cat.cells, Fn.cells, Is_append, Is_one, Ls_append, Ls_one, Bs_append, Bs_one, Es_append, Es_one, Es_set', eB, eI, eL]) (by simp [hhOk, back, Adj.cells, Cat.cells, Fn.cells, Is_append, Is_one, Ls_append, Ls_one, Bs_append, Bs_one, Es_append, Es_one, Es_set', eB, eI, eL])) ?_
     refine w_cond rfl (fun g => ?_) fun g => ?_
     · have g55 : ¬ (v54 = true) := by first | simpa using g | (simp at g; exact g) | (simp at g; omega)
       clear g
       replace h := if_l g55 h
       refine w_seq ?_
       refine w_run mo (by rw [hN]; decide) fun K hK => ?_
       simp [-guardE_b, -Is_at, -Is_at', -Ls_at, -Ls_at', eL, eI, allInts, eP_Adj, eP_Cat, eP_Fn, Adj.cells, Cat.cells, Fn.cells]
       repeat (with_reducible refine And.intro ?_ ?_; · first | assumption | omega | (simp; done) | (simp; omega) | simp_all)
       refine hK _ ?_
       clear hK K
       refine tn ?_
       refine w_weak (st' := ⟨[(2, .val (.bool false))], [], 0⟩) (Wk.rel [] (by simp) (by simp) (by rw [hP]; simp) (by simp) (by simp) (by simp [Adj.cells, Cat.cells, Fn.cells, Is_append, Is_one, Ls_append, Ls_one, Bs_append, Bs_one, Es_append, Es_one, Es_set', eB, eI, eL]) (by simp [hhOk, back, Adj.cells, Cat.cells, Fn.cells, Is_append, Is_one, Ls_append, Ls_one, Bs_append, Bs_one, Es_append, Es_one, Es_set', eB, eI, eL])) ?_
       refine w_ret ?_
       refine br ?_
       refine tr ?_
       refine lr ?_
       refine br ?_
       refine tr ?_
       cases h
       have q : _ = e37 := hk47
       have h := h37
       rw [← q] at h
       clear q
       try dsimp only at h
       have hr := Option.some.inj h
       rw [← hr]
       refine ⟨_, (.tmp .nil), ?_⟩
       refine ⟨(.one rfl rfl .nil), [.val (.bool false)], [], by simp [Adj.cells, Cat.cells, Fn.cells, Is_append, Is_one, Ls_append, Ls_one, Bs_append, Bs_one, Es_append, Es_one, Es_set', eB, eI, eL], by simp, (UpL.refl _)⟩
     have g55 : ¬ (¬ (v54 = true)) := by first | simpa using g | (simp at g; exact g) | (simp at g; omega)
     clear g
     replace h := if_r g55 h
     refine w_skip ?_
     refine bn ?_
     refine tn ?_
     refine w_run mo (by rw [hN]; decide) fun K hK => ?_
     replace h := ass_some h
     obtain ⟨a56, h⟩ := h
     simp [-guardE_b, -Is_at, -Is_at', -Ls_at, -Ls_at', eL, eI, allInts, eP_Adj, eP_Cat, eP_Fn, Adj.cells, Cat.cells, Fn.cells, wrap_id a56]
     repeat (with_reducible refine And.intro ?_ ?_; · first | assumption | omega | (simp; done) | (simp; omega) | simp_all)
     refine hK _ ?_
     clear hK K
     cases h
     exact rn (s' := s47 + 1) hk47 (Wk.rel [(0, 0), (1, 1), (2, 2), (3, 3)] (by simp) (by simp) (by rw [hP]; simp) (by simp) (by simp) (by simp [Adj.cells, Cat.cells, Fn.cells, Is_append, Is_one, Ls_append, Ls_one, Bs_append, Bs_one, Es_append, Es_one, Es_set', eB, eI, eL]) (by simp [hhOk, back, Adj.cells, Cat.cells, Fn.cells, Is_append, Is_one, Ls_append, Ls_one, Bs_append, Bs_one, Es_append, Es_one, Es_set', eB, eI, eL]))
   have g48 : ¬ (s47 < a_.l.t.n) := by first | simpa using g | (simp at g; exact g) | (simp at g; omega)
   clear g
   replace h := if_r g48 h
   refine w_exit ?_
   refine tx ?_
   refine lx ?_
   refine bh ?_
   cases h
   exact jn (b := ()) hk47 (Wk.rel [] (by simp) (by simp) (by rw [hP]; simp) (by simp) (by simp) (by simp [Adj.cells, Cat.cells, Fn.cells, Is_append, Is_one, Ls_append, Ls_one, Bs_append, Bs_one, Es_append, Es_one, Es_set', eB, eI, eL]) (by simp [hhOk, back, Adj.cells, Cat.cells, Fn.cells, Is_append, Is_one, Ls_append, Ls_one, Bs_append, Bs_one, Es_append, Es_one, Es_set', eB, eI, eL]))
 intro b37 hb37
 have h := h37
 rw [← hb37] at h
 clear h37
 try dsimp only at h
 refine w_seq ?_
 refine w_run mo (by rw [hN]; decide) fun K hK => ?_
 simp [-guardE_b, -Is_at, -Is_at', -Ls_at, -Ls_at', eL, eI, allInts, eP_Adj, eP_Cat, eP_Fn, Adj.cells, Cat.cells, Fn.cells]
 repeat (with_reducible refine And.intro ?_ ?_; · first | assumption | omega | (simp; done) | (simp; omega) | simp_all)
 refine hK _ ?_
 clear hK K
 refine tn ?_
 refine w_weak (st' := ⟨[(2, .val (.bool true))], [], 0⟩) (Wk.rel [] (by simp) (by simp) (by rw [hP]; simp) (by simp) (by simp) (by simp [Adj.cells, Cat.cells, Fn.cells, Is_append, Is_one, Ls_append, Ls_one, Bs_append, Bs_one, Es_append, Es_one, Es_set', eB, eI, eL]) (by simp [hhOk, back, Adj.cells, Cat.cells, Fn.cells, Is_append, Is_one, Ls_append, Ls_one, Bs_append, Bs_one, Es_append, Es_one, Es_set', eB, eI, eL])) ?_
 refine w_ret ?_
 have hr := Option.some.inj h
 rw [← hr]
 refine ⟨_, (.tmp .nil), ?_⟩
 refine ⟨(.one rfl rfl .nil), [.val (.bool true)], [], by simp [Adj.cells, Cat.cells, Fn.cells, Is_append, Is_one, Ls_append, Ls_one, Bs_append, Bs_one, Es_append, Es_one, Es_set', eB, eI, eL], by simp, (UpL.refl _)⟩
end Go.Vc.T

set_option maxRecDepth 100000
set_option linter.unusedSimpArgs false
set_option linter.unusedVariables false
namespace Go.Vc.T
open Go Go.Vc Go.Proofs
structure Adj.Pre (a : Adj) : Prop where
 hl : a.l.Is
 hr : a.r.Is
 e1 : a.l.t = a.r.s
 e2 : a.r.t = a.l.s
 n1 : NatT (selfF a.l.s) (thenF a.l a.r) a.u
 n2 : NatT (thenF a.r a.l) (selfF a.l.t) a.k
structure Adj.Is (a : Adj) : Prop where
 pre : a.Pre
 t1 : ∀ x : Nat, x < a.l.ob.length → ix (rx a.l.t.cs (ix a.l.ar (ix a.u x))) (ix a.k (ix a.l.ob x)) = ix a.l.t.id (ix a.l.ob x)
 t2 : ∀ y : Nat, y < a.r.ob.length → ix (rx a.l.s.cs (ix a.u (ix a.r.ob y))) (ix a.r.ar (ix a.k y)) = ix a.l.s.id (ix a.r.ob y)
theorem Adj.Pre.len {a : Adj} (h : a.Pre) : a.u.length = a.l.ob.length ∧ a.k.length = a.r.ob.length ∧ (a.l.ob.length : Int) = a.l.s.n ∧ (a.r.ob.length : Int) = a.l.t.n ∧ a.l.ar.length = a.l.s.fr.length ∧ a.r.ar.length = a.l.t.fr.length ∧ (a.l.s.id.length : Int) = a.l.s.n ∧ (a.l.t.id.length : Int) = a.l.t.n ∧ a.l.s.cs.length = a.l.s.fr.length ∧ a.l.t.cs.length = a.l.t.fr.length ∧ a.l.s.fr.length ≤ 40 ∧ a.l.t.fr.length ≤ 40 ∧ a.l.ob.length ≤ 8 ∧ a.r.ob.length ≤ 8 := by
 have h1 := h.n1.lp
 have h2 := h.n2.lp
 have h3 := h.hl.lo
 have h4 := h.hr.lo
 have h5 := h.hl.la
 have h6 := h.hr.la
 rw [← h.e1] at h4 h6
 simp only [selfF, thenF, iota_length, thenL_length] at h1 h2
 exact ⟨by omega, by omega, h3, h4, h5, h6, h.hl.s.1.li, h.hl.t.1.li, h.hl.s.1.lc, h.hl.t.1.lc, h.hl.s.1.m40, h.hl.t.1.m40, h.hl.lob, h.hr.lob⟩
theorem Adj.Pre.unit {a : Adj} (h : a.Pre) {x : Int} (h0 : 0 ≤ x) (h1 : x < a.l.ob.length) : (0 ≤ ix a.u x ∧ ix a.u x < a.l.s.fr.length) ∧ ix a.l.s.fr (ix a.u x) = x ∧ ix a.l.s.to (ix a.u x) = ix a.r.ob (ix a.l.ob x) := by
 obtain ⟨l1, l2, l3, l4, l5, l6, l7, l8, l9, l10, l11, l12, l13, l14⟩ := h.len
 obtain ⟨i, rfl⟩ : ∃ i : Nat, x = i := ⟨x.toNat, by omega⟩
 have q1 := h.n1.bd i (by omega)
 have q2 := h.n1.ends i (by omega)
 simp only [selfF, thenF] at q1 q2
 rw [ix_iota _ (by omega) (by omega), ix_thenL _ _ (by omega) (by omega)] at q2
 exact ⟨q1, q2⟩
theorem Adj.Pre.co {a : Adj} (h : a.Pre) {y : Int} (h0 : 0 ≤ y) (h1 : y < a.r.ob.length) : (0 ≤ ix a.k y ∧ ix a.k y < a.l.t.fr.length) ∧ ix a.l.t.fr (ix a.k y) = ix a.l.ob (ix a.r.ob y) ∧ ix a.l.t.to (ix a.k y) = y := by
 obtain ⟨l1, l2, l3, l4, l5, l6, l7, l8, l9, l10, l11, l12, l13, l14⟩ := h.len
 obtain ⟨i, rfl⟩ : ∃ i : Nat, y = i := ⟨y.toNat, by omega⟩
 have q1 := h.n2.bd i (by omega)
 have q2 := h.n2.ends i (by omega)
 simp only [selfF, thenF] at q1 q2
 rw [ix_iota _ (by omega) (by omega), ix_thenL _ _ (by omega) (by omega)] at q2
 exact ⟨q1, q2⟩
theorem Adj.Pre.lob {a : Adj} (h : a.Pre) {x : Int} (h0 : 0 ≤ x) (h1 : x < a.l.ob.length) : 0 ≤ ix a.l.ob x ∧ ix a.l.ob x < a.r.ob.length := by
 obtain ⟨l1, l2, l3, l4, _⟩ := h.len
 have := ix_bnd h.hl.ob h0 h1
 omega
theorem Adj.Pre.rob {a : Adj} (h : a.Pre) {y : Int} (h0 : 0 ≤ y) (h1 : y < a.r.ob.length) : 0 ≤ ix a.r.ob y ∧ ix a.r.ob y < a.l.ob.length := by
 obtain ⟨l1, l2, l3, l4, _⟩ := h.len
 have := ix_bnd h.hr.ob h0 h1
 rw [h.e2] at this
 omega
theorem Adj.Pre.lar {a : Adj} (h : a.Pre) {f : Int} (h0 : 0 ≤ f) (h1 : f < a.l.s.fr.length) : (0 ≤ ix a.l.ar f ∧ ix a.l.ar f < a.l.t.fr.length) ∧ ix a.l.t.fr (ix a.l.ar f) = ix a.l.ob (ix a.l.s.fr f) ∧ ix a.l.t.to (ix a.l.ar f) = ix a.l.ob (ix a.l.s.to f) := by
 have hla := h.hl.la
 obtain ⟨i, rfl⟩ : ∃ i : Nat, f = i := ⟨f.toNat, by omega⟩
 exact ⟨h.hl.ar i (by omega), h.hl.ends i (by omega)⟩
theorem Adj.Pre.rar {a : Adj} (h : a.Pre) {f : Int} (h0 : 0 ≤ f) (h1 : f < a.l.t.fr.length) : (0 ≤ ix a.r.ar f ∧ ix a.r.ar f < a.l.s.fr.length) ∧ ix a.l.s.fr (ix a.r.ar f) = ix a.r.ob (ix a.l.t.fr f) ∧ ix a.l.s.to (ix a.r.ar f) = ix a.r.ob (ix a.l.t.to f) := by
 have hra := h.hr.la
 have q1 := h.hr.ar
 have q2 := h.hr.ends
 rw [← h.e1] at hra q2
 rw [h.e2] at q1 q2
 obtain ⟨i, rfl⟩ : ∃ i : Nat, f = i := ⟨f.toNat, by omega⟩
 exact ⟨q1 i (by omega), q2 i (by omega)⟩
theorem Adj.Pre.tri1 {a : Adj} (h : a.Pre) {x : Int} (h0 : 0 ≤ x) (h1 : x < a.l.ob.length) : (0 ≤ ix (rx a.l.t.cs (ix a.l.ar (ix a.u x))) (ix a.k (ix a.l.ob x)) ∧ ix (rx a.l.t.cs (ix a.l.ar (ix a.u x))) (ix a.k (ix a.l.ob x)) < a.l.t.fr.length) ∧ ix a.l.t.fr (ix (rx a.l.t.cs (ix a.l.ar (ix a.u x))) (ix a.k (ix a.l.ob x))) = ix a.l.ob x := by
 obtain ⟨u1, u2, u3⟩ := h.unit h0 h1
 have o1 := h.lob h0 h1
 obtain ⟨k1, k2, k3⟩ := h.co o1.1 o1.2
 obtain ⟨a1, a2, a3⟩ := h.lar u1.1 u1.2
 have := (h.hl.t.1.cell' a1.1 a1.2 k1.1 k1.2).2 (by rw [a3, u3, k2])
 rw [a2, u2] at this
 exact ⟨⟨this.1, this.2.1⟩, this.2.2.1⟩
theorem Adj.Pre.tri2 {a : Adj} (h : a.Pre) {y : Int} (h0 : 0 ≤ y) (h1 : y < a.r.ob.length) : (0 ≤ ix (rx a.l.s.cs (ix a.u (ix a.r.ob y))) (ix a.r.ar (ix a.k y)) ∧ ix (rx a.l.s.cs (ix a.u (ix a.r.ob y))) (ix a.r.ar (ix a.k y)) < a.l.s.fr.length) ∧ ix a.l.s.fr (ix (rx a.l.s.cs (ix a.u (ix a.r.ob y))) (ix a.r.ar (ix a.k y))) = ix a.r.ob y := by
 have o1 := h.rob h0 h1
 obtain ⟨u1, u2, u3⟩ := h.unit o1.1 o1.2
 obtain ⟨k1, k2, k3⟩ := h.co h0 h1
 obtain ⟨a1, a2, a3⟩ := h.rar k1.1 k1.2
 have := (h.hl.s.1.cell' u1.1 u1.2 a1.1 a1.2).2 (by rw [u3, a2, k2])
 rw [u2] at this
 exact ⟨⟨this.1, this.2.1⟩, this.2.2.1⟩
theorem e_l02Unit {c : Cat} (hc : c.Is) {f : Int} (h0 : 0 ≤ f) (h1 : f < c.fr.length) : s_s_l02Unit c f = some (bo (f = ix c.id (ix c.fr f))) := by
 have := hc.1.fr' h0 h1
 unfold s_s_l02Unit
 rw [ass_pos ⟨h0, h1⟩, ass_pos this]
 by_cases h : ix c.id (ix c.fr f) = f
 · rw [bo_pos h.symm]; simp [h]
 rw [bo_neg (fun q => h q.symm)]; simp [h]
theorem e_l15Meets {f g : Fn} : s_s_l15Meets f g = some (bo (f.t = g.s ∧ g.t = f.s)) := by
 unfold s_s_l15Meets s_s_l02Same
 by_cases h1 : f.t = g.s <;> by_cases h2 : g.t = f.s <;> simp [bo, h1, h2]
theorem e_leadBack {f g : Fn} (hf : f.Is) : s_i_leadBack f g = some (bo (f.t = g.s ∧ g.t = f.s)) := by
 unfold s_i_leadBack
 rw [e_sameCat hf.s, e_sameCat hf.t]
 have e : (f.s = g.t) = (g.t = f.s) := propext ⟨Eq.symm, Eq.symm⟩
 by_cases h1 : f.t = g.s <;> by_cases h2 : g.t = f.s <;> simp [bo, e, h1, h2]
theorem para1 {l r : Fn} (hl : l.Is) (hr : r.Is) (e1 : l.t = r.s) (e2 : r.t = l.s) : Para (selfF l.s) (thenF l r) := ⟨self_is hl.s, then_is hl hr e1, rfl, by simp [selfF, thenF, e2]⟩
theorem para2 {l r : Fn} (hl : l.Is) (hr : r.Is) (e1 : l.t = r.s) (e2 : r.t = l.s) : Para (thenF r l) (selfF l.t) := ⟨then_is hr hl e2, self_is hl.t, by simp [selfF, thenF, e1], rfl⟩
theorem e_l15Is (a : Adj) : s_s_l15Is a = some (bo a.Is) := by
 unfold s_s_l15Is
 by_cases h1 : a.l.Is
 case neg => rw [bo_neg (show ¬ a.Is from fun q => h1 q.pre.hl)]; simp [e_l06Is, bo, h1]
 by_cases h2 : a.r.Is
 case neg => rw [bo_neg (show ¬ a.Is from fun q => h2 q.pre.hr)]; simp [e_l06Is, bo, h1, h2]
 by_cases h3 : a.l.t = a.r.s ∧ a.r.t = a.l.s
 case neg => rw [bo_neg (show ¬ a.Is from fun q => h3 ⟨q.pre.e1, q.pre.e2⟩)]; simp [e_l06Is, e_l15Meets, bo_pos h1, bo_pos h2, bo_neg h3]
 obtain ⟨e1, e2⟩ := h3
 simp only [e_l06Is, e_l15Meets, bo_pos h1, bo_pos h2, bo_pos (And.intro e1 e2), Option.bind_some, not_true_eq_false, if_false, Bool.not_true, Bool.false_eq_true, e_l06Self h1.s, e_l06Self h1.t, e_l06Then h1 h2 e1, e_l06Then h2 h1 e2, e_l15Natural (para1 h1 h2 e1 e2), e_l15Natural (para2 h1 h2 e1 e2)]
 by_cases n1 : NatT (selfF a.l.s) (thenF a.l a.r) a.u
 case neg => rw [bo_neg (show ¬ a.Is from fun q => n1 q.pre.n1), bo_neg n1]; simp
 by_cases n2 : NatT (thenF a.r a.l) (selfF a.l.t) a.k
 case neg => rw [bo_neg (show ¬ a.Is from fun q => n2 q.pre.n2), bo_neg n2]; simp [bo_pos n1]
 have hp : a.Pre := ⟨h1, h2, e1, e2, n1, n2⟩
 obtain ⟨l1, l2, l3, l4, l5, l6, l7, l8, l9, l10, l11, l12, l13, l14⟩ := hp.len
 simp only [bo_pos n1, bo_pos n2, Option.bind_some, not_true_eq_false, if_false, Bool.not_true, Bool.false_eq_true]
 refine chk_bind a.l.ob.length (fun x : Nat => ix (rx a.l.t.cs (ix a.l.ar (ix a.u x))) (ix a.k (ix a.l.ob x)) = ix a.l.t.id (ix a.l.ob x)) (eb := Sum.inr false) (eg := Sum.inl ()) (by omega) (fun x hi hq => ?_) (fun x hi hq => ?_) (by simp; try omega) (fun hx => ?_) fun q1 => ?_
 iterate 2
   obtain ⟨u1, u2, u3⟩ := hp.unit (x := x) (by omega) (by omega)
   have o1 := hp.lob (x := x) (by omega) (by omega)
   obtain ⟨k1, k2, k3⟩ := hp.co o1.1 o1.2
   obtain ⟨a1, a2, a3⟩ := hp.lar u1.1 u1.2
   have t1 := hp.tri1 (x := x) (by omega) (by omega)
   have r1 := h1.t.1.row' a1.1 a1.2
   have hu := e_l02Unit h1.t t1.1.1 t1.1.2
   rw [t1.2] at hu
   try rw [hq] at hu
   simp (disch := omega) [ass_pos, B64, e_l02Then, hu, hq, bo]; try omega
 · rw [bo_neg (show ¬ a.Is from fun q => hx q.t1)]
 simp only
 refine chk_bind a.r.ob.length (fun y : Nat => ix (rx a.l.s.cs (ix a.u (ix a.r.ob y))) (ix a.r.ar (ix a.k y)) = ix a.l.s.id (ix a.r.ob y)) (eb := Sum.inr false) (eg := Sum.inl ()) (by omega) (fun x hi hq => ?_) (fun x hi hq => ?_) (by simp; try omega) (fun hx => ?_) fun q2 => ?_
 iterate 2
   have o1 := hp.rob (y := x) (by omega) (by omega)
   obtain ⟨u1, u2, u3⟩ := hp.unit o1.1 o1.2
   obtain ⟨k1, k2, k3⟩ := hp.co (y := x) (by omega) (by omega)
   obtain ⟨a1, a2, a3⟩ := hp.rar k1.1 k1.2
   have t1 := hp.tri2 (y := x) (by omega) (by omega)
   have r1 := h1.s.1.row' u1.1 u1.2
   have hu := e_l02Unit h1.s t1.1.1 t1.1.2
   rw [t1.2] at hu
   try rw [hq] at hu
   simp (disch := omega) [ass_pos, B64, e_l02Then, hu, hq, bo]; try omega
 · rw [bo_neg (show ¬ a.Is from fun q => hx q.t2)]
 rw [bo_pos (show a.Is from ⟨hp, q1, q2⟩)]
theorem tra_is {f g : Fn} {p : List Int} (h : Para f g) : (⟨f, g, p⟩ : Tra).Is ↔ NatT f g p := ⟨fun q => q.n, fun q => ⟨h, q⟩⟩
theorem e_isAdj (a : Adj) : s_i_Adjunction_isAdjunction a = some (bo a.Is) := by
 unfold s_i_Adjunction_isAdjunction
 rw [e_areFunctors _ (by simp)]
 by_cases h : a.l.Is ∧ a.r.Is
 case neg => rw [bo_neg (show ¬ ∀ c ∈ [a.l, a.r], c.Is by simpa using h), bo_neg (show ¬ a.Is from fun q => h ⟨q.pre.hl, q.pre.hr⟩)]; simp
 rw [bo_pos (show ∀ c ∈ [a.l, a.r], c.Is by simpa using h)]
 obtain ⟨h1, h2⟩ := h
 rw [e_leadBack h1]
 by_cases h3 : a.l.t = a.r.s ∧ a.r.t = a.l.s
 case neg => rw [bo_neg h3, bo_neg (show ¬ a.Is from fun q => h3 ⟨q.pre.e1, q.pre.e2⟩)]; simp
 rw [bo_pos h3]
 obtain ⟨e1, e2⟩ := h3
 have key : s_i_Adjunction_fits a = some (bo a.Is) := by
   unfold s_i_Adjunction_fits
   simp only [e_Fthen h1 h2 e1, e_Fthen h2 h1 e2, e_identity h1.s, e_identity h1.t, Option.bind_some]
   rw [e_areNatural _ (by simp)]
   by_cases hn : NatT (selfF a.l.s) (thenF a.l a.r) a.u ∧ NatT (thenF a.r a.l) (selfF a.l.t) a.k
   case neg =>
     rw [bo_neg (show ¬ a.Is from fun q => hn ⟨q.pre.n1, q.pre.n2⟩), bo_neg (show ¬ ∀ t ∈ [(⟨selfF a.l.s, thenF a.l a.r, a.u⟩ : Tra), ⟨thenF a.r a.l, selfF a.l.t, a.k⟩], t.Is from fun q => hn ⟨(tra_is (para1 h1 h2 e1 e2)).1 (q _ (by simp)), (tra_is (para2 h1 h2 e1 e2)).1 (q _ (by simp))⟩)]
     simp
   obtain ⟨n1, n2⟩ := hn
   rw [bo_pos (show ∀ t ∈ [(⟨selfF a.l.s, thenF a.l a.r, a.u⟩ : Tra), ⟨thenF a.r a.l, selfF a.l.t, a.k⟩], t.Is by
     intro t ht
     simp only [List.mem_cons, List.not_mem_nil, or_false] at ht
     rcases ht with rfl | rfl
     · exact (tra_is (para1 h1 h2 e1 e2)).2 n1
     exact (tra_is (para2 h1 h2 e1 e2)).2 n2)]
   have hp : a.Pre := ⟨h1, h2, e1, e2, n1, n2⟩
   obtain ⟨l1, l2, l3, l4, l5, l6, l7, l8, l9, l10, l11, l12, l13, l14⟩ := hp.len
   simp only [Option.bind_some, not_true_eq_false, if_false]
   refine chk_bind a.l.ob.length (fun x : Nat => ix (rx a.l.t.cs (ix a.l.ar (ix a.u x))) (ix a.k (ix a.l.ob x)) = ix a.l.t.id (ix a.l.ob x)) (eb := Sum.inr false) (eg := Sum.inl ()) (by omega) (fun x hi hq => ?_) (fun x hi hq => ?_) (by simp; try omega) (fun hx => ?_) fun q1 => ?_
   iterate 2
     obtain ⟨u1, u2, u3⟩ := hp.unit (x := x) (by omega) (by omega)
     have o1 := hp.lob (x := x) (by omega) (by omega)
     obtain ⟨k1, k2, k3⟩ := hp.co o1.1 o1.2
     obtain ⟨a1, a2, a3⟩ := hp.lar u1.1 u1.2
     have r1 := h1.t.1.row' a1.1 a1.2
     simp (disch := omega) [ass_pos, B64, e_Cthen, hq, hi]; try omega
   · rw [bo_neg (show ¬ a.Is from fun q => hx q.t1)]
   simp only
   refine chk_bind a.r.ob.length (fun y : Nat => ix (rx a.l.s.cs (ix a.u (ix a.r.ob y))) (ix a.r.ar (ix a.k y)) = ix a.l.s.id (ix a.r.ob y)) (eb := Sum.inr false) (eg := Sum.inl ()) (by omega) (fun x hi hq => ?_) (fun x hi hq => ?_) (by simp; try omega) (fun hx => ?_) fun q2 => ?_
   iterate 2
     have o1 := hp.rob (y := x) (by omega) (by omega)
     obtain ⟨u1, u2, u3⟩ := hp.unit o1.1 o1.2
     obtain ⟨k1, k2, k3⟩ := hp.co (y := x) (by omega) (by omega)
     obtain ⟨a1, a2, a3⟩ := hp.rar k1.1 k1.2
     have r1 := h1.s.1.row' u1.1 u1.2
     simp (disch := omega) [ass_pos, B64, e_Cthen, hq, hi]; try omega
   · rw [bo_neg (show ¬ a.Is from fun q => hx q.t2)]
   rw [bo_pos (show a.Is from ⟨hp, q1, q2⟩)]
 simp [key]
end Go.Vc.T

set_option maxRecDepth 100000
set_option linter.unusedSimpArgs false
set_option linter.unusedVariables false
namespace Go.Vc.T
open Go Go.Vc Go.Proofs
noncomputable def s_i_MonadOf (a_ : Adj) : Option (Mnd × Int) :=
 (s_i_Adjunction_isAdjunction a_).bind fun v1 =>
 if ¬ (v1 = true) then
   some ((⟨(⟨(⟨0, [], [], [], []⟩ : Cat), (⟨0, [], [], [], []⟩ : Cat), [], []⟩ : Fn), [], []⟩ : Mnd), 1)
 else
   (s_i_monadOf a_).bind fun v3 =>
   some (v3, 0)
set_option maxHeartbeats 4000000 in
theorem w_i_MonadOf (a_ : Adj) (r : Mnd × Int) (h : s_i_MonadOf a_ = some r) : Contract Try.prog 53 [.agg (a_.cells true)] (.tup [.agg (r.1.cells true), .val (.int .i64 r.2)]) := by
 refine contract_introG (rvs := [.cell 2 50, .tmp 3]) (rs := [.agg (r.1.cells true), .val (.int .i64 r.2)]) Try.func53 rfl rfl rfl rfl (by simp [Try.f53]) fun F hN hP => ?_
 unfold s_i_MonadOf at h
 refine w_seq ?_
 refine w_run mo (by rw [hN]; decide) fun K hK => ?_
 simp [-guardE_b, -Is_at, -Is_at', -Ls_at, -Ls_at', eL, eI, allInts, eP_Adj, eP_Mnd, Adj.cells, Mnd.cells]
 repeat (with_reducible refine And.intro ?_ ?_; · first | assumption | omega | (simp; done) | (simp; omega) | simp_all)
 refine hK _ ?_
 clear hK K
 refine tn ?_
 refine w_weak (st' := ⟨[(1, .adr 0 0 0), (2, .adr 1 0 0)], [(0, .mix 26 [[.val (.int .i64 a_.l.s.n), .lst true 1 (Is a_.l.s.fr), .lst true 1 (Is a_.l.s.to), .lst true 1 (Is a_.l.s.id), .lst true 1 (Ls a_.l.s.cs), .val (.int .i64 a_.l.t.n), .lst true 1 (Is a_.l.t.fr), .lst true 1 (Is a_.l.t.to), .lst true 1 (Is a_.l.t.id), .lst true 1 (Ls a_.l.t.cs), .lst true 1 (Is a_.l.ob), .lst true 1 (Is a_.l.ar), .val (.int .i64 a_.r.s.n), .lst true 1 (Is a_.r.s.fr), .lst true 1 (Is a_.r.s.to), .lst true 1 (Is a_.r.s.id), .lst true 1 (Ls a_.r.s.cs), .val (.int .i64 a_.r.t.n), .lst true 1 (Is a_.r.t.fr), .lst true 1 (Is a_.r.t.to), .lst true 1 (Is a_.r.t.id), .lst true 1 (Ls a_.r.t.cs), .lst true 1 (Is a_.r.ob), .lst true 1 (Is a_.r.ar), .lst true 1 (Is a_.u), .lst true 1 (Is a_.k)]]), (1, .mix 14 [[.val (.int .i64 0), .val (.slice none 0 0), .val (.slice none 0 0), .val (.slice none 0 0), .val (.slice none 0 0), .val (.int .i64 0), .val (.slice none 0 0), .val (.slice none 0 0), .val (.slice none 0 0), .val (.slice none 0 0), .val (.slice none 0 0), .val (.slice none 0 0), .val (.slice none 0 0), .val (.slice none 0 0)]])], 2⟩) (Wk.rel [(0, 0), (1, 1)] (by simp) (by simp) (by rw [hP]; simp) (by simp) (by simp) (by simp [Adj.cells, Mnd.cells, Is_append, Is_one, Ls_append, Ls_one, Bs_append, Bs_one, Es_append, Es_one, Es_set', eB, eI, eL]) (by simp [hhOk, back, Adj.cells, Mnd.cells, Is_append, Is_one, Ls_append, Ls_one, Bs_append, Bs_one, Es_append, Es_one, Es_set', eB, eI, eL])) ?_
 refine w_seq ?_
 refine w_seq ?_
 refine w_run mo (by rw [hN]; decide) fun K hK => ?_
 simp [-guardE_b, -Is_at, -Is_at', -Ls_at, -Ls_at', eL, eI, allInts, eP_Adj, eP_Mnd, Adj.cells, Mnd.cells]
 repeat (with_reducible refine And.intro ?_ ?_; · first | assumption | omega | (simp; done) | (simp; omega) | simp_all)
 replace h := bind_some h
 obtain ⟨v1, hv1, h⟩ := h
 refine callA_intro (w_i_Adjunction_isAdjunction _ v1 hv1) (.cons (.field rfl (by simp [Adj.cells]) (.cons .val (.cons .lst (.cons .lst (.cons .lst (.cons .lst (.cons .val (.cons .lst (.cons .lst (.cons .lst (.cons .lst (.cons .lst (.cons .lst (.cons .val (.cons .lst (.cons .lst (.cons .lst (.cons .lst (.cons .val (.cons .lst (.cons .lst (.cons .lst (.cons .lst (.cons .lst (.cons .lst (.cons .lst (.cons .lst .nil))))))))))))))))))))))))))) .nil) ?_
 simp [-guardE_b, -Is_at, -Is_at', -Ls_at, -Ls_at', unk, unA, unE, unT, unC, flat, eL, eI, allInts, eP_Adj, eP_Mnd, Adj.cells, Mnd.cells]
 repeat (with_reducible refine And.intro ?_ ?_; · first | assumption | omega | (simp; done) | (simp; omega) | simp_all)
 refine hK _ ?_
 clear hK K
 refine tn ?_
 refine w_weak (st' := ⟨[(1, .adr 0 0 0), (2, .adr 1 0 0), (5, .val (.bool (!v1)))], [(0, .mix 26 [[.val (.int .i64 a_.l.s.n), .lst true 1 (Is a_.l.s.fr), .lst true 1 (Is a_.l.s.to), .lst true 1 (Is a_.l.s.id), .lst true 1 (Ls a_.l.s.cs), .val (.int .i64 a_.l.t.n), .lst true 1 (Is a_.l.t.fr), .lst true 1 (Is a_.l.t.to), .lst true 1 (Is a_.l.t.id), .lst true 1 (Ls a_.l.t.cs), .lst true 1 (Is a_.l.ob), .lst true 1 (Is a_.l.ar), .val (.int .i64 a_.r.s.n), .lst true 1 (Is a_.r.s.fr), .lst true 1 (Is a_.r.s.to), .lst true 1 (Is a_.r.s.id), .lst true 1 (Ls a_.r.s.cs), .val (.int .i64 a_.r.t.n), .lst true 1 (Is a_.r.t.fr), .lst true 1 (Is a_.r.t.to), .lst true 1 (Is a_.r.t.id), .lst true 1 (Ls a_.r.t.cs), .lst true 1 (Is a_.r.ob), .lst true 1 (Is a_.r.ar), .lst true 1 (Is a_.u), .lst true 1 (Is a_.k)]]), (1, .mix 14 [[.val (.int .i64 0), .val (.slice none 0 0), .val (.slice none 0 0), .val (.slice none 0 0), .val (.slice none 0 0), .val (.int .i64 0), .val (.slice none 0 0), .val (.slice none 0 0), .val (.slice none 0 0), .val (.slice none 0 0), .val (.slice none 0 0), .val (.slice none 0 0), .val (.slice none 0 0), .val (.slice none 0 0)]])], 2⟩) (Wk.rel [(0, 0), (1, 1)] (by simp) (by simp) (by rw [hP]; simp) (by simp) (by simp) (by simp [Adj.cells, Mnd.cells, Is_append, Is_one, Ls_append, Ls_one, Bs_append, Bs_one, Es_append, Es_one, Es_set', eB, eI, eL]) (by simp [hhOk, back, Adj.cells, Mnd.cells, Is_append, Is_one, Ls_append, Ls_one, Bs_append, Bs_one, Es_append, Es_one, Es_set', eB, eI, eL])) ?_
 refine w_cond rfl (fun g => ?_) fun g => ?_
 · have g2 : ¬ (v1 = true) := by first | simpa using g | (simp at g; exact g) | (simp at g; omega)
   clear g
   replace h := if_l g2 h
   refine w_seq ?_
   refine w_run mo (by rw [hN]; decide) fun K hK => ?_
   simp [-guardE_b, -Is_at, -Is_at', -Ls_at, -Ls_at', eL, eI, allInts, eP_Adj, eP_Mnd, Adj.cells, Mnd.cells]
   repeat (with_reducible refine And.intro ?_ ?_; · first | assumption | omega | (simp; done) | (simp; omega) | simp_all)
   refine hK _ ?_
   clear hK K
   refine tn ?_
   refine w_weak (st' := ⟨[(2, .adr 0 0 0), (3, .val (.int .i64 1))], [(0, .mix 14 [[.val (.int .i64 0), .val (.slice none 0 0), .val (.slice none 0 0), .val (.slice none 0 0), .val (.slice none 0 0), .val (.int .i64 0), .val (.slice none 0 0), .val (.slice none 0 0), .val (.slice none 0 0), .val (.slice none 0 0), .val (.slice none 0 0), .val (.slice none 0 0), .val (.slice none 0 0), .val (.slice none 0 0)]])], 1⟩) (Wk.rel [(1, 0)] (by simp) (by simp) (by rw [hP]; simp) (by simp) (by simp) (by simp [Adj.cells, Mnd.cells, Is_append, Is_one, Ls_append, Ls_one, Bs_append, Bs_one, Es_append, Es_one, Es_set', eB, eI, eL]) (by simp [hhOk, back, Adj.cells, Mnd.cells, Is_append, Is_one, Ls_append, Ls_one, Bs_append, Bs_one, Es_append, Es_one, Es_set', eB, eI, eL])) ?_
   refine w_ret ?_
   refine tr ?_
   have hr := Option.some.inj h
   rw [← hr]
   refine ⟨_, (.cell tf_50 rfl rfl rfl (by simp) (by simp) (.tmp .nil)), ?_⟩
   refine ⟨(.agg rfl (.one rfl rfl .nil)), [.val (.int .i64 0), .val (.slice none 0 0), .val (.slice none 0 0), .val (.slice none 0 0), .val (.slice none 0 0), .val (.int .i64 0), .val (.slice none 0 0), .val (.slice none 0 0), .val (.slice none 0 0), .val (.slice none 0 0), .val (.slice none 0 0), .val (.slice none 0 0), .val (.slice none 0 0), .val (.slice none 0 0), .val (.int .i64 1)], [], by simp [Adj.cells, Mnd.cells, Is_append, Is_one, Ls_append, Ls_one, Bs_append, Bs_one, Es_append, Es_one, Es_set', eB, eI, eL], by simp, (.cons .refl (.cons .nil (.cons .nil (.cons .nil (.cons .nil (.cons .refl (.cons .nil (.cons .nil (.cons .nil (.cons .nil (.cons .nil (.cons .nil (.cons .nil (.cons .nil (.cons .refl .nil)))))))))))))))⟩
 have g2 : ¬ (¬ (v1 = true)) := by first | simpa using g | (simp at g; exact g) | (simp at g; omega)
 clear g
 replace h := if_r g2 h
 refine w_skip ?_
 refine tn ?_
 refine w_seq ?_
 refine w_run mo (by rw [hN]; decide) fun K hK => ?_
 simp [-guardE_b, -Is_at, -Is_at', -Ls_at, -Ls_at', eL, eI, allInts, eP_Adj, eP_Mnd, Adj.cells, Mnd.cells]
 repeat (with_reducible refine And.intro ?_ ?_; · first | assumption | omega | (simp; done) | (simp; omega) | simp_all)
 replace h := bind_some h
 obtain ⟨v3, hv3, h⟩ := h
 refine callA_intro (w_i_monadOf _ v3 hv3) (.cons (.field rfl (by simp [Adj.cells, Mnd.cells]) (.cons .val (.cons .lst (.cons .lst (.cons .lst (.cons .lst (.cons .val (.cons .lst (.cons .lst (.cons .lst (.cons .lst (.cons .lst (.cons .lst (.cons .val (.cons .lst (.cons .lst (.cons .lst (.cons .lst (.cons .val (.cons .lst (.cons .lst (.cons .lst (.cons .lst (.cons .lst (.cons .lst (.cons .lst (.cons .lst .nil))))))))))))))))))))))))))) .nil) ?_
 simp [-guardE_b, -Is_at, -Is_at', -Ls_at, -Ls_at', unk, unA, unE, unT, unC, flat, eL, eI, allInts, eP_Adj, eP_Mnd, Adj.cells, Mnd.cells]
 repeat (with_reducible refine And.intro ?_ ?_; · first | assumption | omega | (simp; done) | (simp; omega) | simp_all)
 refine hK _ ?_
 clear hK K
 refine tn ?_
 refine w_weak (st' := ⟨[(2, .adr 0 0 0), (3, .val (.int .i64 0))], [(0, .mix 14 [[.val (.int .i64 v3.f.s.n), .own 1 0 v3.f.s.fr.length, .own 2 0 v3.f.s.to.length, .own 3 0 v3.f.s.id.length, .own 4 0 v3.f.s.cs.length, .val (.int .i64 v3.f.t.n), .own 5 0 v3.f.t.fr.length, .own 6 0 v3.f.t.to.length, .own 7 0 v3.f.t.id.length, .own 8 0 v3.f.t.cs.length, .own 9 0 v3.f.ob.length, .own 10 0 v3.f.ar.length, .own 11 0 v3.u.length, .own 12 0 v3.j.length]]), (1, .row 1 (Is v3.f.s.fr)), (2, .row 1 (Is v3.f.s.to)), (3, .row 1 (Is v3.f.s.id)), (4, .row 1 (Ls v3.f.s.cs)), (5, .row 1 (Is v3.f.t.fr)), (6, .row 1 (Is v3.f.t.to)), (7, .row 1 (Is v3.f.t.id)), (8, .row 1 (Ls v3.f.t.cs)), (9, .row 1 (Is v3.f.ob)), (10, .row 1 (Is v3.f.ar)), (11, .row 1 (Is v3.u)), (12, .row 1 (Is v3.j))], 13⟩) (Wk.rel [(1, 0), (3, 1), (4, 2), (5, 3), (6, 4), (8, 5), (9, 6), (10, 7), (11, 8), (12, 9), (13, 10), (14, 11), (15, 12)] (by simp) (by simp) (by rw [hP]; simp) (by simp) (by simp) (by simp [Adj.cells, Mnd.cells, Is_append, Is_one, Ls_append, Ls_one, Bs_append, Bs_one, Es_append, Es_one, Es_set', eB, eI, eL]) (by simp [hhOk, back, Adj.cells, Mnd.cells, Is_append, Is_one, Ls_append, Ls_one, Bs_append, Bs_one, Es_append, Es_one, Es_set', eB, eI, eL])) ?_
 refine w_ret ?_
 have hr := Option.some.inj h
 rw [← hr]
 refine ⟨_, (.cell tf_50 rfl rfl rfl (by simp) (by simp) (.tmp .nil)), ?_⟩
 refine ⟨(.agg rfl (.one rfl rfl .nil)), [.val (.int .i64 v3.f.s.n), .lst true 1 (Is v3.f.s.fr), .lst true 1 (Is v3.f.s.to), .lst true 1 (Is v3.f.s.id), .lst true 1 (Ls v3.f.s.cs), .val (.int .i64 v3.f.t.n), .lst true 1 (Is v3.f.t.fr), .lst true 1 (Is v3.f.t.to), .lst true 1 (Is v3.f.t.id), .lst true 1 (Ls v3.f.t.cs), .lst true 1 (Is v3.f.ob), .lst true 1 (Is v3.f.ar), .lst true 1 (Is v3.u), .lst true 1 (Is v3.j), .val (.int .i64 0)], [1, 2, 3, 4, 5, 6, 7, 8, 9, 10, 11, 12], by simp [Adj.cells, Mnd.cells, Is_append, Is_one, Ls_append, Ls_one, Bs_append, Bs_one, Es_append, Es_one, Es_set', eB, eI, eL], by simp, (UpL.refl _)⟩
end Go.Vc.T

set_option maxRecDepth 100000
set_option linter.unusedSimpArgs false
set_option linter.unusedVariables false
namespace Go.Vc.T
open Go Go.Vc Go.Proofs
noncomputable def s_s_l16Of (a_ : Adj) : Option Mnd :=
 (loopF (σ := List Int × Int) (ε := List Int) (fun s8 =>
   if s8.2 < (a_.u.length : Int) then
     ass (0 ≤ s8.2 ∧ s8.2 < (a_.l.ob.length : Int)) <|
     ass (0 ≤ ix a_.l.ob s8.2 ∧ ix a_.l.ob s8.2 < (a_.k.length : Int)) <|
     ass (0 ≤ ix a_.k (ix a_.l.ob s8.2) ∧ ix a_.k (ix a_.l.ob s8.2) < (a_.r.ar.length : Int)) <|
     ass ((s8.1 ++ [ix a_.r.ar (ix a_.k (ix a_.l.ob s8.2))]).length ≤ 1073741824) <|
     ass (B64 (s8.2 + 1)) <|
     some (Ctl.next (s8.1 ++ [ix a_.r.ar (ix a_.k (ix a_.l.ob s8.2))], s8.2 + 1))
   else
     some (Ctl.ret s8.1)) fuel ([], 0)).bind fun b1 =>
 (s_s_l06Then a_.l a_.r).bind fun v15 =>
 (s_s_l01Own a_.u).bind fun v16 =>
 some (⟨v15, v16, b1⟩ : Mnd)
set_option maxHeartbeats 4000000 in
theorem w_s_l16Of (a_ : Adj) (r : Mnd) (h : s_s_l16Of a_ = some r) : Contract Try.prog 127 [.agg (a_.cells true)] (.agg (r.cells true)) := by
 refine contract_introG (rvs := [.cell 2 50]) (rs := [.agg (r.cells true)]) Try.func127 rfl rfl rfl rfl (by simp [Try.f127]) fun F hN hP => ?_
 unfold s_s_l16Of at h
 refine w_seq ?_
 refine w_run mo (by rw [hN]; decide) fun K hK => ?_
 simp [-guardE_b, -Is_at, -Is_at', -Ls_at, -Ls_at', eL, eI, allInts, eP_Adj, eP_Fn, eP_Mnd, Adj.cells, Fn.cells, Mnd.cells]
 repeat (with_reducible refine And.intro ?_ ?_; · first | assumption | omega | (simp; done) | (simp; omega) | simp_all)
 refine hK _ ?_
 clear hK K
 refine tn ?_
 refine w_weak (st' := ⟨[(1, .adr 0 0 0), (2, .adr 1 0 0)], [(0, .mix 26 [[.val (.int .i64 a_.l.s.n), .lst true 1 (Is a_.l.s.fr), .lst true 1 (Is a_.l.s.to), .lst true 1 (Is a_.l.s.id), .lst true 1 (Ls a_.l.s.cs), .val (.int .i64 a_.l.t.n), .lst true 1 (Is a_.l.t.fr), .lst true 1 (Is a_.l.t.to), .lst true 1 (Is a_.l.t.id), .lst true 1 (Ls a_.l.t.cs), .lst true 1 (Is a_.l.ob), .lst true 1 (Is a_.l.ar), .val (.int .i64 a_.r.s.n), .lst true 1 (Is a_.r.s.fr), .lst true 1 (Is a_.r.s.to), .lst true 1 (Is a_.r.s.id), .lst true 1 (Ls a_.r.s.cs), .val (.int .i64 a_.r.t.n), .lst true 1 (Is a_.r.t.fr), .lst true 1 (Is a_.r.t.to), .lst true 1 (Is a_.r.t.id), .lst true 1 (Ls a_.r.t.cs), .lst true 1 (Is a_.r.ob), .lst true 1 (Is a_.r.ar), .lst true 1 (Is a_.u), .lst true 1 (Is a_.k)]]), (1, .mix 14 [[.val (.int .i64 0), .val (.slice none 0 0), .val (.slice none 0 0), .val (.slice none 0 0), .val (.slice none 0 0), .val (.int .i64 0), .val (.slice none 0 0), .val (.slice none 0 0), .val (.slice none 0 0), .val (.slice none 0 0), .val (.slice none 0 0), .val (.slice none 0 0), .val (.slice none 0 0), .val (.slice none 0 0)]])], 2⟩) (Wk.rel [(0, 0), (1, 1)] (by simp) (by simp) (by rw [hP]; simp) (by simp) (by simp) (by simp [Adj.cells, Fn.cells, Mnd.cells, Is_append, Is_one, Ls_append, Ls_one, Bs_append, Bs_one, Es_append, Es_one, Es_set', eB, eI, eL]) (by simp [hhOk, back, Adj.cells, Fn.cells, Mnd.cells, Is_append, Is_one, Ls_append, Ls_one, Bs_append, Bs_one, Es_append, Es_one, Es_set', eB, eI, eL])) ?_
 refine w_seq ?_
 refine w_run mo (by rw [hN]; decide) fun K hK => ?_
 simp [-guardE_b, -Is_at, -Is_at', -Ls_at, -Ls_at', eL, eI, allInts, eP_Adj, eP_Fn, eP_Mnd, Adj.cells, Fn.cells, Mnd.cells]
 repeat (with_reducible refine And.intro ?_ ?_; · first | assumption | omega | (simp; done) | (simp; omega) | simp_all)
 refine hK _ ?_
 clear hK K
 refine tn ?_
 refine w_weak (st' := ⟨[(1, .adr 0 0 0), (2, .adr 1 0 0), (3, .own 2 0 0)], [(0, .mix 26 [[.val (.int .i64 a_.l.s.n), .lst true 1 (Is a_.l.s.fr), .lst true 1 (Is a_.l.s.to), .lst true 1 (Is a_.l.s.id), .lst true 1 (Ls a_.l.s.cs), .val (.int .i64 a_.l.t.n), .lst true 1 (Is a_.l.t.fr), .lst true 1 (Is a_.l.t.to), .lst true 1 (Is a_.l.t.id), .lst true 1 (Ls a_.l.t.cs), .lst true 1 (Is a_.l.ob), .lst true 1 (Is a_.l.ar), .val (.int .i64 a_.r.s.n), .lst true 1 (Is a_.r.s.fr), .lst true 1 (Is a_.r.s.to), .lst true 1 (Is a_.r.s.id), .lst true 1 (Ls a_.r.s.cs), .val (.int .i64 a_.r.t.n), .lst true 1 (Is a_.r.t.fr), .lst true 1 (Is a_.r.t.to), .lst true 1 (Is a_.r.t.id), .lst true 1 (Ls a_.r.t.cs), .lst true 1 (Is a_.r.ob), .lst true 1 (Is a_.r.ar), .lst true 1 (Is a_.u), .lst true 1 (Is a_.k)]]), (1, .mix 14 [[.val (.int .i64 0), .val (.slice none 0 0), .val (.slice none 0 0), .val (.slice none 0 0), .val (.slice none 0 0), .val (.int .i64 0), .val (.slice none 0 0), .val (.slice none 0 0), .val (.slice none 0 0), .val (.slice none 0 0), .val (.slice none 0 0), .val (.slice none 0 0), .val (.slice none 0 0), .val (.slice none 0 0)]]), (2, .mix 1 [])], 3⟩) (Wk.rel [(0, 0), (1, 1), (2, 2)] (by simp) (by simp) (by rw [hP]; simp) (by simp) (by simp) (by simp [Adj.cells, Fn.cells, Mnd.cells, Is_append, Is_one, Ls_append, Ls_one, Bs_append, Bs_one, Es_append, Es_one, Es_set', eB, eI, eL]) (by simp [hhOk, back, Adj.cells, Fn.cells, Mnd.cells, Is_append, Is_one, Ls_append, Ls_one, Bs_append, Bs_one, Es_append, Es_one, Es_set', eB, eI, eL])) ?_
 refine w_seq ?_
 refine w_seq ?_
 refine w_run mo (by rw [hN]; decide) fun K hK => ?_
 simp [-guardE_b, -Is_at, -Is_at', -Ls_at, -Ls_at', eL, eI, allInts, eP_Adj, eP_Fn, eP_Mnd, Adj.cells, Fn.cells, Mnd.cells]
 repeat (with_reducible refine And.intro ?_ ?_; · first | assumption | omega | (simp; done) | (simp; omega) | simp_all)
 refine hK _ ?_
 clear hK K
 refine tn ?_
 refine w_weak (st' := ⟨[(1, .adr 0 0 0), (2, .adr 1 0 0), (3, .own 2 0 0), (4, .val (.int .i64 0))], [(0, .mix 26 [[.val (.int .i64 a_.l.s.n), .lst true 1 (Is a_.l.s.fr), .lst true 1 (Is a_.l.s.to), .lst true 1 (Is a_.l.s.id), .lst true 1 (Ls a_.l.s.cs), .val (.int .i64 a_.l.t.n), .lst true 1 (Is a_.l.t.fr), .lst true 1 (Is a_.l.t.to), .lst true 1 (Is a_.l.t.id), .lst true 1 (Ls a_.l.t.cs), .lst true 1 (Is a_.l.ob), .lst true 1 (Is a_.l.ar), .val (.int .i64 a_.r.s.n), .lst true 1 (Is a_.r.s.fr), .lst true 1 (Is a_.r.s.to), .lst true 1 (Is a_.r.s.id), .lst true 1 (Ls a_.r.s.cs), .val (.int .i64 a_.r.t.n), .lst true 1 (Is a_.r.t.fr), .lst true 1 (Is a_.r.t.to), .lst true 1 (Is a_.r.t.id), .lst true 1 (Ls a_.r.t.cs), .lst true 1 (Is a_.r.ob), .lst true 1 (Is a_.r.ar), .lst true 1 (Is a_.u), .lst true 1 (Is a_.k)]]), (1, .mix 14 [[.val (.int .i64 0), .val (.slice none 0 0), .val (.slice none 0 0), .val (.slice none 0 0), .val (.slice none 0 0), .val (.int .i64 0), .val (.slice none 0 0), .val (.slice none 0 0), .val (.slice none 0 0), .val (.slice none 0 0), .val (.slice none 0 0), .val (.slice none 0 0), .val (.slice none 0 0), .val (.slice none 0 0)]]), (2, .mix 1 [])], 3⟩) (Wk.rel [(0, 0), (1, 1), (2, 2)] (by simp) (by simp) (by rw [hP]; simp) (by simp) (by simp) (by simp [Adj.cells, Fn.cells, Mnd.cells, Is_append, Is_one, Ls_append, Ls_one, Bs_append, Bs_one, Es_append, Es_one, Es_set', eB, eI, eL]) (by simp [hhOk, back, Adj.cells, Fn.cells, Mnd.cells, Is_append, Is_one, Ls_append, Ls_one, Bs_append, Bs_one, Es_append, Es_one, Es_set', eB, eI, eL])) ?_
 replace h := bind_some h
 obtain ⟨e1, h, h1⟩ := h
 refine w_joinT (fun b1 : List Int => ⟨[(1, .adr 0 0 0), (2, .adr 1 0 0), (3, .own 2 0 b1.length)], [(0, .mix 26 [[.val (.int .i64 a_.l.s.n), .lst true 1 (Is a_.l.s.fr), .lst true 1 (Is a_.l.s.to), .lst true 1 (Is a_.l.s.id), .lst true 1 (Ls a_.l.s.cs), .val (.int .i64 a_.l.t.n), .lst true 1 (Is a_.l.t.fr), .lst true 1 (Is a_.l.t.to), .lst true 1 (Is a_.l.t.id), .lst true 1 (Ls a_.l.t.cs), .lst true 1 (Is a_.l.ob), .lst true 1 (Is a_.l.ar), .val (.int .i64 a_.r.s.n), .lst true 1 (Is a_.r.s.fr), .lst true 1 (Is a_.r.s.to), .lst true 1 (Is a_.r.s.id), .lst true 1 (Ls a_.r.s.cs), .val (.int .i64 a_.r.t.n), .lst true 1 (Is a_.r.t.fr), .lst true 1 (Is a_.r.t.to), .lst true 1 (Is a_.r.t.id), .lst true 1 (Ls a_.r.t.cs), .lst true 1 (Is a_.r.ob), .lst true 1 (Is a_.r.ar), .lst true 1 (Is a_.u), .lst true 1 (Is a_.k)]]), (1, .mix 14 [[.val (.int .i64 0), .val (.slice none 0 0), .val (.slice none 0 0), .val (.slice none 0 0), .val (.slice none 0 0), .val (.int .i64 0), .val (.slice none 0 0), .val (.slice none 0 0), .val (.slice none 0 0), .val (.slice none 0 0), .val (.slice none 0 0), .val (.slice none 0 0), .val (.slice none 0 0), .val (.slice none 0 0)]]), (2, .row 1 (Is b1))], 3⟩) (fun b1 => b1 = e1) ?_ ?_
 · refine w_block ?_
   refine w_loopF h (fun s8 : List Int × Int => ⟨[(1, .adr 0 0 0), (2, .adr 1 0 0), (3, .own 2 0 s8.1.length), (4, .val (.int .i64 s8.2))], [(0, .mix 26 [[.val (.int .i64 a_.l.s.n), .lst true 1 (Is a_.l.s.fr), .lst true 1 (Is a_.l.s.to), .lst true 1 (Is a_.l.s.id), .lst true 1 (Ls a_.l.s.cs), .val (.int .i64 a_.l.t.n), .lst true 1 (Is a_.l.t.fr), .lst true 1 (Is a_.l.t.to), .lst true 1 (Is a_.l.t.id), .lst true 1 (Ls a_.l.t.cs), .lst true 1 (Is a_.l.ob), .lst true 1 (Is a_.l.ar), .val (.int .i64 a_.r.s.n), .lst true 1 (Is a_.r.s.fr), .lst true 1 (Is a_.r.s.to), .lst true 1 (Is a_.r.s.id), .lst true 1 (Ls a_.r.s.cs), .val (.int .i64 a_.r.t.n), .lst true 1 (Is a_.r.t.fr), .lst true 1 (Is a_.r.t.to), .lst true 1 (Is a_.r.t.id), .lst true 1 (Ls a_.r.t.cs), .lst true 1 (Is a_.r.ob), .lst true 1 (Is a_.r.ar), .lst true 1 (Is a_.u), .lst true 1 (Is a_.k)]]), (1, .mix 14 [[.val (.int .i64 0), .val (.slice none 0 0), .val (.slice none 0 0), .val (.slice none 0 0), .val (.slice none 0 0), .val (.int .i64 0), .val (.slice none 0 0), .val (.slice none 0 0), .val (.slice none 0 0), .val (.slice none 0 0), .val (.slice none 0 0), .val (.slice none 0 0), .val (.slice none 0 0), .val (.slice none 0 0)]]), (2, .row 1 (Is s8.1))], 3⟩) (wk_tr ⟨[(1, .adr 0 0 0), (2, .adr 1 0 0), (3, .own 2 0 0), (4, .val (.int .i64 0))], [(0, .mix 26 [[.val (.int .i64 a_.l.s.n), .lst true 1 (Is a_.l.s.fr), .lst true 1 (Is a_.l.s.to), .lst true 1 (Is a_.l.s.id), .lst true 1 (Ls a_.l.s.cs), .val (.int .i64 a_.l.t.n), .lst true 1 (Is a_.l.t.fr), .lst true 1 (Is a_.l.t.to), .lst true 1 (Is a_.l.t.id), .lst true 1 (Ls a_.l.t.cs), .lst true 1 (Is a_.l.ob), .lst true 1 (Is a_.l.ar), .val (.int .i64 a_.r.s.n), .lst true 1 (Is a_.r.s.fr), .lst true 1 (Is a_.r.s.to), .lst true 1 (Is a_.r.s.id), .lst true 1 (Ls a_.r.s.cs), .val (.int .i64 a_.r.t.n), .lst true 1 (Is a_.r.t.fr), .lst true 1 (Is a_.r.t.to), .lst true 1 (Is a_.r.t.id), .lst true 1 (Ls a_.r.t.cs), .lst true 1 (Is a_.r.ob), .lst true 1 (Is a_.r.ar), .lst true 1 (Is a_.u), .lst true 1 (Is a_.k)]]), (1, .mix 14 [[.val (.int .i64 0), .val (.slice none 0 0), .val (.slice none 0 0), .val (.slice none 0 0), .val (.slice none 0 0), .val (.int .i64 0), .val (.slice none 0 0), .val (.slice none 0 0), .val (.slice none 0 0), .val (.slice none 0 0), .val (.slice none 0 0), .val (.slice none 0 0), .val (.slice none 0 0), .val (.slice none 0 0)]]), (2, .row 1 (Is []))], 3⟩ (Wk.nils [] (by simp) (by simp) (by simp [nlA]) (by simp [entN, nlL, nlA, Adj.cells, Fn.cells, Mnd.cells, Is_append, Is_one, Ls_append, Ls_one, Bs_append, Bs_one, Es_append, Es_one, Es_set', eB, eI, eL]) (by simp)) (Wk.rel [(0, 0), (1, 1), (2, 2)] (by simp) (by simp) (by rw [hP]; simp) (by simp) (by simp) (by simp [Adj.cells, Fn.cells, Mnd.cells, Is_append, Is_one, Ls_append, Ls_one, Bs_append, Bs_one, Es_append, Es_one, Es_set', eB, eI, eL]) (by simp [hhOk, back, Adj.cells, Fn.cells, Mnd.cells, Is_append, Is_one, Ls_append, Ls_one, Bs_append, Bs_one, Es_append, Es_one, Es_set', eB, eI, eL]))) ?_
   clear h
   intro k8 s8 c8 h hk8
   refine w_seq ?_
   refine w_seq ?_
   refine w_run mo (by rw [hN]; decide) fun K hK => ?_
   simp [-guardE_b, -Is_at, -Is_at', -Ls_at, -Ls_at', eL, eI, allInts, eP_Adj, eP_Fn, eP_Mnd, Adj.cells, Fn.cells, Mnd.cells]
   repeat (with_reducible refine And.intro ?_ ?_; · first | assumption | omega | (simp; done) | (simp; omega) | simp_all)
   refine hK _ ?_
   clear hK K
   refine tn ?_
   refine w_weak (st' := ⟨[(1, .adr 0 0 0), (2, .adr 1 0 0), (3, .own 2 0 s8.1.length), (4, .val (.int .i64 s8.2)), (10, .val (.bool (decide (s8.2 < (a_.u.length : Int)))))], [(0, .mix 26 [[.val (.int .i64 a_.l.s.n), .lst true 1 (Is a_.l.s.fr), .lst true 1 (Is a_.l.s.to), .lst true 1 (Is a_.l.s.id), .lst true 1 (Ls a_.l.s.cs), .val (.int .i64 a_.l.t.n), .lst true 1 (Is a_.l.t.fr), .lst true 1 (Is a_.l.t.to), .lst true 1 (Is a_.l.t.id), .lst true 1 (Ls a_.l.t.cs), .lst true 1 (Is a_.l.ob), .lst true 1 (Is a_.l.ar), .val (.int .i64 a_.r.s.n), .lst true 1 (Is a_.r.s.fr), .lst true 1 (Is a_.r.s.to), .lst true 1 (Is a_.r.s.id), .lst true 1 (Ls a_.r.s.cs), .val (.int .i64 a_.r.t.n), .lst true 1 (Is a_.r.t.fr), .lst true 1 (Is a_.r.t.to), .lst true 1 (Is a_.r.t.id), .lst true 1 (Ls a_.r.t.cs), .lst true 1 (Is a_.r.ob), .lst true 1 (Is a_.r.ar), .lst true 1 (Is a_.u), .lst true 1 (Is a_.k)]]), (1, .mix 14 [[.val (.int .i64 0), .val (.slice none 0 0), .val (.slice none 0 0), .val (.slice none 0 0), .val (.slice none 0 0), .val (.int .i64 0), .val (.slice none 0 0), .val (.slice none 0 0), .val (.slice none 0 0), .val (.slice none 0 0), .val (.slice none 0 0), .val (.slice none 0 0), .val (.slice none 0 0), .val (.slice none 0 0)]]), (2, .row 1 (Is s8.1))], 3⟩) (Wk.rel [(0, 0), (1, 1), (2, 2)] (by simp) (by simp) (by rw [hP]; simp) (by simp) (by simp) (by simp [Adj.cells, Fn.cells, Mnd.cells, Is_append, Is_one, Ls_append, Ls_one, Bs_append, Bs_one, Es_append, Es_one, Es_set', eB, eI, eL]) (by simp [hhOk, back, Adj.cells, Fn.cells, Mnd.cells, Is_append, Is_one, Ls_append, Ls_one, Bs_append, Bs_one, Es_append, Es_one, Es_set', eB, eI, eL])) ?_
   refine w_cond rfl (fun g => ?_) fun g => ?_
   · have g9 : s8.2 < (a_.u.length : Int) := by first | simpa using g | (simp at g; exact g) | (simp at g; omega)
     clear g
     replace h := if_l g9 h
     refine w_skip ?_
     refine tn ?_
     refine w_seq ?_
     refine w_block ?_
     refine w_run mo (by rw [hN]; decide) fun K hK => ?_
     replace h := ass_some h
     obtain ⟨a10, h⟩ := h
     replace h := ass_some h
     obtain ⟨a11, h⟩ := h
     replace h := ass_some h
     obtain ⟨a12, h⟩ := h
     replace h := ass_some h
     obtain ⟨a13, h⟩ := h
     try simp only [List.length_append, List.length_cons, List.length_nil] at a13
     simp [-guardE_b, -Is_at, -Is_at', -Ls_at, -Ls_at', eL, eI, allInts, eP_Adj, eP_Fn, eP_Mnd, Adj.cells, Fn.cells, Mnd.cells, at_I a10, at_I a11, at_I a12, a13]
     repeat (with_reducible refine And.intro ?_ ?_; · first | assumption | omega | (simp; done) | (simp; omega) | simp_all)
     refine hK _ ?_
     clear hK K
     refine bn ?_
     refine tn ?_
     refine w_weak (st' := ⟨[(1, .adr 0 0 0), (2, .adr 1 0 0), (3, .own 2 0 ((s8.1 ++ [ix a_.r.ar (ix a_.k (ix a_.l.ob s8.2))]).length)), (4, .val (.int .i64 s8.2))], [(0, .mix 26 [[.val (.int .i64 a_.l.s.n), .lst true 1 (Is a_.l.s.fr), .lst true 1 (Is a_.l.s.to), .lst true 1 (Is a_.l.s.id), .lst true 1 (Ls a_.l.s.cs), .val (.int .i64 a_.l.t.n), .lst true 1 (Is a_.l.t.fr), .lst true 1 (Is a_.l.t.to), .lst true 1 (Is a_.l.t.id), .lst true 1 (Ls a_.l.t.cs), .lst true 1 (Is a_.l.ob), .lst true 1 (Is a_.l.ar), .val (.int .i64 a_.r.s.n), .lst true 1 (Is a_.r.s.fr), .lst true 1 (Is a_.r.s.to), .lst true 1 (Is a_.r.s.id), .lst true 1 (Ls a_.r.s.cs), .val (.int .i64 a_.r.t.n), .lst true 1 (Is a_.r.t.fr), .lst true 1 (Is a_.r.t.to), .lst true 1 (Is a_.r.t.id), .lst true 1 (Ls a_.r.t.cs), .lst true 1 (Is a_.r.ob), .lst true 1 (Is a_.r.ar), .lst true 1 (Is a_.u), .lst true 1 (Is a_.k)]]), (1, .mix 14 [[.val (.int .i64 0), .val (.slice none 0 0), .val (.slice none 0 0), .val (.slice none 0 0), .val (.slice none 0 0), .val (.int .i64 0), .val (.slice none 0 0), .val (.slice none 0 0), .val (.slice none 0 0), .val (.slice none 0 0), .val (.slice none 0 0), .val (.slice none 0 0), .val (.slice none 0 0), .val (.slice none 0 0)]]), (2, .row 1 (Is (s8.1 ++ [ix a_.r.ar (ix a_.k (ix a_.l.ob s8.2))])))], 3⟩) (Wk.rel [(0, 0), (1, 1), (4, 2)] (by simp) (by simp) (by rw [hP]; simp) (by simp) (by simp) (by simp [Adj.cells, Fn.cells, Mnd.cells, Is_append, Is_one, Ls_append, Ls_one, Bs_append, Bs_one, Es_append, Es_one, Es_set', eB, eI, eL]) (by simp [hhOk, back, Adj.cells, Fn.cells, Mnd.cells, Is_append, Is_one, Ls_append, Ls_one, Bs_append, Bs_one, Es_append, Es_one, Es_set', eB, eI, eL])) ?_
     refine w_run mo (by rw [hN]; decide) fun K hK => ?_
     replace h := ass_some h
     obtain ⟨a14, h⟩ := h
     simp [-guardE_b, -Is_at, -Is_at', -Ls_at, -Ls_at', eL, eI, allInts, eP_Adj, eP_Fn, eP_Mnd, Adj.cells, Fn.cells, Mnd.cells, wrap_id a14]
     repeat (with_reducible refine And.intro ?_ ?_; · first | assumption | omega | (simp; done) | (simp; omega) | simp_all)
     refine hK _ ?_
     clear hK K
     cases h
     exact rn (s' := (s8.1 ++ [ix a_.r.ar (ix a_.k (ix a_.l.ob s8.2))], s8.2 + 1)) hk8 (Wk.rel [(0, 0), (1, 1), (2, 2)] (by simp) (by simp) (by rw [hP]; simp) (by simp) (by simp) (by simp [Adj.cells, Fn.cells, Mnd.cells, Is_append, Is_one, Ls_append, Ls_one, Bs_append, Bs_one, Es_append, Es_one, Es_set', eB, eI, eL]) (by simp [hhOk, back, Adj.cells, Fn.cells, Mnd.cells, Is_append, Is_one, Ls_append, Ls_one, Bs_append, Bs_one, Es_append, Es_one, Es_set', eB, eI, eL]))
   have g9 : ¬ (s8.2 < (a_.u.length : Int)) := by first | simpa using g | (simp at g; exact g) | (simp at g; omega)
   clear g
   replace h := if_r g9 h
   refine w_exit ?_
   refine tx ?_
   refine lx ?_
   refine bh ?_
   cases h
   exact jn (b := s8.1) hk8 (Wk.rel [(0, 0), (1, 1), (2, 2)] (by simp) (by simp) (by rw [hP]; simp) (by simp) (by simp) (by simp [Adj.cells, Fn.cells, Mnd.cells, Is_append, Is_one, Ls_append, Ls_one, Bs_append, Bs_one, Es_append, Es_one, Es_set', eB, eI, eL]) (by simp [hhOk, back, Adj.cells, Fn.cells, Mnd.cells, Is_append, Is_one, Ls_append, Ls_one, Bs_append, Bs_one, Es_append, Es_one, Es_set', eB, eI, eL]))
 intro b1 hb1
 have h := h1
 rw [← hb1] at h
 clear h1
 try dsimp only at h
 refine w_seq ?_
 refine w_run mo (by rw [hN]; decide) fun K hK => ?_
 simp [-guardE_b, -Is_at, -Is_at', -Ls_at, -Ls_at', eL, eI, allInts, eP_Adj, eP_Fn, eP_Mnd, Adj.cells, Fn.cells, Mnd.cells]
 repeat (with_reducible refine And.intro ?_ ?_; · first | assumption | omega | (simp; done) | (simp; omega) | simp_all)
 replace h := bind_some h
 obtain ⟨v15, hv15, h⟩ := h
 refine callA_intro (w_s_l06Then _ _ v15 hv15) (.cons (.aggL (.cons .val (.cons .lst (.cons .lst (.cons .lst (.cons .lst (.cons .val (.cons .lst (.cons .lst (.cons .lst (.cons .lst (.cons .lst (.cons .lst .nil))))))))))))) (.cons (.aggL (.cons .val (.cons .lst (.cons .lst (.cons .lst (.cons .lst (.cons .val (.cons .lst (.cons .lst (.cons .lst (.cons .lst (.cons .lst (.cons .lst .nil))))))))))))) .nil)) ?_
 simp [-guardE_b, -Is_at, -Is_at', -Ls_at, -Ls_at', unk, unA, unE, unT, unC, flat, eL, eI, allInts, eP_Adj, eP_Fn, eP_Mnd, Adj.cells, Fn.cells, Mnd.cells]
 repeat (with_reducible refine And.intro ?_ ?_; · first | assumption | omega | (simp; done) | (simp; omega) | simp_all)
 replace h := bind_some h
 obtain ⟨v16, hv16, h⟩ := h
 refine callA_intro (w_s_l01Own _ v16 hv16) (.cons .lst .nil) ?_
 simp [-guardE_b, -Is_at, -Is_at', -Ls_at, -Ls_at', unk, unA, unE, unT, unC, flat, eL, eI, allInts, eP_Adj, eP_Fn, eP_Mnd, Adj.cells, Fn.cells, Mnd.cells]
 repeat (with_reducible refine And.intro ?_ ?_; · first | assumption | omega | (simp; done) | (simp; omega) | simp_all)
 refine hK _ ?_
 clear hK K
 refine tn ?_
 refine w_weak (st' := ⟨[(2, .adr 0 0 0)], [(0, .mix 14 [[.val (.int .i64 v15.s.n), .own 1 0 v15.s.fr.length, .own 2 0 v15.s.to.length, .own 3 0 v15.s.id.length, .own 4 0 v15.s.cs.length, .val (.int .i64 v15.t.n), .own 5 0 v15.t.fr.length, .own 6 0 v15.t.to.length, .own 7 0 v15.t.id.length, .own 8 0 v15.t.cs.length, .own 9 0 v15.ob.length, .own 10 0 v15.ar.length, .own 11 0 v16.length, .own 12 0 b1.length]]), (1, .row 1 (Is v15.s.fr)), (2, .row 1 (Is v15.s.to)), (3, .row 1 (Is v15.s.id)), (4, .row 1 (Ls v15.s.cs)), (5, .row 1 (Is v15.t.fr)), (6, .row 1 (Is v15.t.to)), (7, .row 1 (Is v15.t.id)), (8, .row 1 (Ls v15.t.cs)), (9, .row 1 (Is v15.ob)), (10, .row 1 (Is v15.ar)), (11, .row 1 (Is v16)), (12, .row 1 (Is b1))], 13⟩) (Wk.rel [(1, 0), (4, 1), (5, 2), (6, 3), (7, 4), (9, 5), (10, 6), (11, 7), (12, 8), (13, 9), (14, 10), (15, 11), (2, 12)] (by simp) (by simp) (by rw [hP]; simp) (by simp) (by simp) (by simp [Adj.cells, Fn.cells, Mnd.cells, Is_append, Is_one, Ls_append, Ls_one, Bs_append, Bs_one, Es_append, Es_one, Es_set', eB, eI, eL]) (by simp [hhOk, back, Adj.cells, Fn.cells, Mnd.cells, Is_append, Is_one, Ls_append, Ls_one, Bs_append, Bs_one, Es_append, Es_one, Es_set', eB, eI, eL])) ?_
 refine w_ret ?_
 have hr := Option.some.inj h
 rw [← hr]
 refine ⟨_, (.cell tf_50 rfl rfl rfl (by simp) (by simp) .nil), ?_⟩
 refine ⟨(.agg rfl .nil), [.val (.int .i64 v15.s.n), .lst true 1 (Is v15.s.fr), .lst true 1 (Is v15.s.to), .lst true 1 (Is v15.s.id), .lst true 1 (Ls v15.s.cs), .val (.int .i64 v15.t.n), .lst true 1 (Is v15.t.fr), .lst true 1 (Is v15.t.to), .lst true 1 (Is v15.t.id), .lst true 1 (Ls v15.t.cs), .lst true 1 (Is v15.ob), .lst true 1 (Is v15.ar), .lst true 1 (Is v16), .lst true 1 (Is b1)], [1, 2, 3, 4, 5, 6, 7, 8, 9, 10, 11, 12], by simp [Adj.cells, Fn.cells, Mnd.cells, Is_append, Is_one, Ls_append, Ls_one, Bs_append, Bs_one, Es_append, Es_one, Es_set', eB, eI, eL], by simp, (UpL.refl _)⟩
end Go.Vc.T

set_option maxRecDepth 100000
set_option linter.unusedSimpArgs false
set_option linter.unusedVariables false
namespace Go.Vc.T
open Go Go.Vc Go.Proofs
noncomputable def s_s_MonadOf (a_ : Adj) : Option (Mnd × Int) :=
 (s_s_l15Is a_).bind fun v1 =>
 if ¬ (v1 = true) then
   some ((⟨(⟨(⟨0, [], [], [], []⟩ : Cat), (⟨0, [], [], [], []⟩ : Cat), [], []⟩ : Fn), [], []⟩ : Mnd), 1)
 else
   (s_s_l16Of a_).bind fun v3 =>
   some (v3, 0)
set_option maxHeartbeats 4000000 in
theorem w_s_MonadOf (a_ : Adj) (r : Mnd × Int) (h : s_s_MonadOf a_ = some r) : Contract Try.prog 52 [.agg (a_.cells true)] (.tup [.agg (r.1.cells true), .val (.int .i64 r.2)]) := by
 refine contract_introG (rvs := [.cell 2 50, .tmp 3]) (rs := [.agg (r.1.cells true), .val (.int .i64 r.2)]) Try.func52 rfl rfl rfl rfl (by simp [Try.f52]) fun F hN hP => ?_
 unfold s_s_MonadOf at h
 refine w_seq ?_
 refine w_run mo (by rw [hN]; decide) fun K hK => ?_
 simp [-guardE_b, -Is_at, -Is_at', -Ls_at, -Ls_at', eL, eI, allInts, eP_Adj, eP_Mnd, Adj.cells, Mnd.cells]
 repeat (with_reducible refine And.intro ?_ ?_; · first | assumption | omega | (simp; done) | (simp; omega) | simp_all)
 refine hK _ ?_
 clear hK K
 refine tn ?_
 refine w_weak (st' := ⟨[(1, .adr 0 0 0), (2, .adr 1 0 0)], [(0, .mix 26 [[.val (.int .i64 a_.l.s.n), .lst true 1 (Is a_.l.s.fr), .lst true 1 (Is a_.l.s.to), .lst true 1 (Is a_.l.s.id), .lst true 1 (Ls a_.l.s.cs), .val (.int .i64 a_.l.t.n), .lst true 1 (Is a_.l.t.fr), .lst true 1 (Is a_.l.t.to), .lst true 1 (Is a_.l.t.id), .lst true 1 (Ls a_.l.t.cs), .lst true 1 (Is a_.l.ob), .lst true 1 (Is a_.l.ar), .val (.int .i64 a_.r.s.n), .lst true 1 (Is a_.r.s.fr), .lst true 1 (Is a_.r.s.to), .lst true 1 (Is a_.r.s.id), .lst true 1 (Ls a_.r.s.cs), .val (.int .i64 a_.r.t.n), .lst true 1 (Is a_.r.t.fr), .lst true 1 (Is a_.r.t.to), .lst true 1 (Is a_.r.t.id), .lst true 1 (Ls a_.r.t.cs), .lst true 1 (Is a_.r.ob), .lst true 1 (Is a_.r.ar), .lst true 1 (Is a_.u), .lst true 1 (Is a_.k)]]), (1, .mix 14 [[.val (.int .i64 0), .val (.slice none 0 0), .val (.slice none 0 0), .val (.slice none 0 0), .val (.slice none 0 0), .val (.int .i64 0), .val (.slice none 0 0), .val (.slice none 0 0), .val (.slice none 0 0), .val (.slice none 0 0), .val (.slice none 0 0), .val (.slice none 0 0), .val (.slice none 0 0), .val (.slice none 0 0)]])], 2⟩) (Wk.rel [(0, 0), (1, 1)] (by simp) (by simp) (by rw [hP]; simp) (by simp) (by simp) (by simp [Adj.cells, Mnd.cells, Is_append, Is_one, Ls_append, Ls_one, Bs_append, Bs_one, Es_append, Es_one, Es_set', eB, eI, eL]) (by simp [hhOk, back, Adj.cells, Mnd.cells, Is_append, Is_one, Ls_append, Ls_one, Bs_append, Bs_one, Es_append, Es_one, Es_set', eB, eI, eL])) ?_
 refine w_seq ?_
 refine w_seq ?_
 refine w_run mo (by rw [hN]; decide) fun K hK => ?_
 simp [-guardE_b, -Is_at, -Is_at', -Ls_at, -Ls_at', eL, eI, allInts, eP_Adj, eP_Mnd, Adj.cells, Mnd.cells]
 repeat (with_reducible refine And.intro ?_ ?_; · first | assumption | omega | (simp; done) | (simp; omega) | simp_all)
 replace h := bind_some h
 obtain ⟨v1, hv1, h⟩ := h
 refine callA_intro (w_s_l15Is _ v1 hv1) (.cons (.aggL (.cons .val (.cons .lst (.cons .lst (.cons .lst (.cons .lst (.cons .val (.cons .lst (.cons .lst (.cons .lst (.cons .lst (.cons .lst (.cons .lst (.cons .val (.cons .lst (.cons .lst (.cons .lst (.cons .lst (.cons .val (.cons .lst (.cons .lst (.cons .lst (.cons .lst (.cons .lst (.cons .lst (.cons .lst (.cons .lst .nil))))))))))))))))))))))))))) .nil) ?_
 simp [-guardE_b, -Is_at, -Is_at', -Ls_at, -Ls_at', unk, unA, unE, unT, unC, flat, eL, eI, allInts, eP_Adj, eP_Mnd, Adj.cells, Mnd.cells]
 repeat (with_reducible refine And.intro ?_ ?_; · first | assumption | omega | (simp; done) | (simp; omega) | simp_all)
 refine hK _ ?_
 clear hK K
 refine tn ?_
 refine w_weak (st' := ⟨[(1, .adr 0 0 0), (2, .adr 1 0 0), (6, .val (.bool (!v1)))], [(0, .mix 26 [[.val (.int .i64 a_.l.s.n), .lst true 1 (Is a_.l.s.fr), .lst true 1 (Is a_.l.s.to), .lst true 1 (Is a_.l.s.id), .lst true 1 (Ls a_.l.s.cs), .val (.int .i64 a_.l.t.n), .lst true 1 (Is a_.l.t.fr), .lst true 1 (Is a_.l.t.to), .lst true 1 (Is a_.l.t.id), .lst true 1 (Ls a_.l.t.cs), .lst true 1 (Is a_.l.ob), .lst true 1 (Is a_.l.ar), .val (.int .i64 a_.r.s.n), .lst true 1 (Is a_.r.s.fr), .lst true 1 (Is a_.r.s.to), .lst true 1 (Is a_.r.s.id), .lst true 1 (Ls a_.r.s.cs), .val (.int .i64 a_.r.t.n), .lst true 1 (Is a_.r.t.fr), .lst true 1 (Is a_.r.t.to), .lst true 1 (Is a_.r.t.id), .lst true 1 (Ls a_.r.t.cs), .lst true 1 (Is a_.r.ob), .lst true 1 (Is a_.r.ar), .lst true 1 (Is a_.u), .lst true 1 (Is a_.k)]]), (1, .mix 14 [[.val (.int .i64 0), .val (.slice none 0 0), .val (.slice none 0 0), .val (.slice none 0 0), .val (.slice none 0 0), .val (.int .i64 0), .val (.slice none 0 0), .val (.slice none 0 0), .val (.slice none 0 0), .val (.slice none 0 0), .val (.slice none 0 0), .val (.slice none 0 0), .val (.slice none 0 0), .val (.slice none 0 0)]])], 2⟩) (Wk.rel [(0, 0), (1, 1)] (by simp) (by simp) (by rw [hP]; simp) (by simp) (by simp) (by simp [Adj.cells, Mnd.cells, Is_append, Is_one, Ls_append, Ls_one, Bs_append, Bs_one, Es_append, Es_one, Es_set', eB, eI, eL]) (by simp [hhOk, back, Adj.cells, Mnd.cells, Is_append, Is_one, Ls_append, Ls_one, Bs_append, Bs_one, Es_append, Es_one, Es_set', eB, eI, eL])) ?_
 refine w_cond rfl (fun g => ?_) fun g => ?_
 · have g2 : ¬ (v1 = true) := by first | simpa using g | (simp at g; exact g) | (simp at g; omega)
   clear g
   replace h := if_l g2 h
   refine w_seq ?_
   refine w_run mo (by rw [hN]; decide) fun K hK => ?_
   simp [-guardE_b, -Is_at, -Is_at', -Ls_at, -Ls_at', eL, eI, allInts, eP_Adj, eP_Mnd, Adj.cells, Mnd.cells]
   repeat (with_reducible refine And.intro ?_ ?_; · first | assumption | omega | (simp; done) | (simp; omega) | simp_all)
   refine hK _ ?_
   clear hK K
   refine tn ?_
   refine w_weak (st' := ⟨[(2, .adr 0 0 0), (3, .val (.int .i64 1))], [(0, .mix 14 [[.val (.int .i64 0), .val (.slice none 0 0), .val (.slice none 0 0), .val (.slice none 0 0), .val (.slice none 0 0), .val (.int .i64 0), .val (.slice none 0 0), .val (.slice none 0 0), .val (.slice none 0 0), .val (.slice none 0 0), .val (.slice none 0 0), .val (.slice none 0 0), .val (.slice none 0 0), .val (.slice none 0 0)]])], 1⟩) (Wk.rel [(1, 0)] (by simp) (by simp) (by rw [hP]; simp) (by simp) (by simp) (by simp [Adj.cells, Mnd.cells, Is_append, Is_one, Ls_append, Ls_one, Bs_append, Bs_one, Es_append, Es_one, Es_set', eB, eI, eL]) (by simp [hhOk, back, Adj.cells, Mnd.cells, Is_append, Is_one, Ls_append, Ls_one, Bs_append, Bs_one, Es_append, Es_one, Es_set', eB, eI, eL])) ?_
   refine w_ret ?_
   refine tr ?_
   have hr := Option.some.inj h
   rw [← hr]
   refine ⟨_, (.cell tf_50 rfl rfl rfl (by simp) (by simp) (.tmp .nil)), ?_⟩
   refine ⟨(.agg rfl (.one rfl rfl .nil)), [.val (.int .i64 0), .val (.slice none 0 0), .val (.slice none 0 0), .val (.slice none 0 0), .val (.slice none 0 0), .val (.int .i64 0), .val (.slice none 0 0), .val (.slice none 0 0), .val (.slice none 0 0), .val (.slice none 0 0), .val (.slice none 0 0), .val (.slice none 0 0), .val (.slice none 0 0), .val (.slice none 0 0), .val (.int .i64 1)], [], by simp [Adj.cells, Mnd.cells, Is_append, Is_one, Ls_append, Ls_one, Bs_append, Bs_one, Es_append, Es_one, Es_set', eB, eI, eL], by simp, (.cons .refl (.cons .nil (.cons .nil (.cons .nil (.cons .nil (.cons .refl (.cons .nil (.cons .nil (.cons .nil (.cons .nil (.cons .nil (.cons .nil (.cons .nil (.cons .nil (.cons .refl .nil)))))))))))))))⟩
 have g2 : ¬ (¬ (v1 = true)) := by first | simpa using g | (simp at g; exact g) | (simp at g; omega)
 clear g
 replace h := if_r g2 h
 refine w_skip ?_
 refine tn ?_
 refine w_seq ?_
 refine w_run mo (by rw [hN]; decide) fun K hK => ?_
 simp [-guardE_b, -Is_at, -Is_at', -Ls_at, -Ls_at', eL, eI, allInts, eP_Adj, eP_Mnd, Adj.cells, Mnd.cells]
 repeat (with_reducible refine And.intro ?_ ?_; · first | assumption | omega | (simp; done) | (simp; omega) | simp_all)
 replace h := bind_some h
 obtain ⟨v3, hv3, h⟩ := h
 refine callA_intro (w_s_l16Of _ v3 hv3) (.cons (.aggL (.cons .val (.cons .lst (.cons .lst (.cons .lst (.cons .lst (.cons .val (.cons .lst (.cons .lst (.cons .lst (.cons .lst (.cons .lst (.cons .lst (.cons .val (.cons .lst (.cons .lst (.cons .lst (.cons .lst (.cons .val (.cons .lst (.cons .lst (.cons .lst (.cons .lst (.cons .lst (.cons .lst (.cons .lst (.cons .lst .nil))))))))))))))))))))))))))) .nil) ?_
 simp [-guardE_b, -Is_at, -Is_at', -Ls_at, -Ls_at', unk, unA, unE, unT, unC, flat, eL, eI, allInts, eP_Adj, eP_Mnd, Adj.cells, Mnd.cells]
 repeat (with_reducible refine And.intro ?_ ?_; · first | assumption | omega | (simp; done) | (simp; omega) | simp_all)
 refine hK _ ?_
 clear hK K
 refine tn ?_
 refine w_weak (st' := ⟨[(2, .adr 0 0 0), (3, .val (.int .i64 0))], [(0, .mix 14 [[.val (.int .i64 v3.f.s.n), .own 1 0 v3.f.s.fr.length, .own 2 0 v3.f.s.to.length, .own 3 0 v3.f.s.id.length, .own 4 0 v3.f.s.cs.length, .val (.int .i64 v3.f.t.n), .own 5 0 v3.f.t.fr.length, .own 6 0 v3.f.t.to.length, .own 7 0 v3.f.t.id.length, .own 8 0 v3.f.t.cs.length, .own 9 0 v3.f.ob.length, .own 10 0 v3.f.ar.length, .own 11 0 v3.u.length, .own 12 0 v3.j.length]]), (1, .row 1 (Is v3.f.s.fr)), (2, .row 1 (Is v3.f.s.to)), (3, .row 1 (Is v3.f.s.id)), (4, .row 1 (Ls v3.f.s.cs)), (5, .row 1 (Is v3.f.t.fr)), (6, .row 1 (Is v3.f.t.to)), (7, .row 1 (Is v3.f.t.id)), (8, .row 1 (Ls v3.f.t.cs)), (9, .row 1 (Is v3.f.ob)), (10, .row 1 (Is v3.f.ar)), (11, .row 1 (Is v3.u)), (12, .row 1 (Is v3.j))], 13⟩) (Wk.rel [(1, 0), (3, 1), (4, 2), (5, 3), (6, 4), (8, 5), (9, 6), (10, 7), (11, 8), (12, 9), (13, 10), (14, 11), (15, 12)] (by simp) (by simp) (by rw [hP]; simp) (by simp) (by simp) (by simp [Adj.cells, Mnd.cells, Is_append, Is_one, Ls_append, Ls_one, Bs_append, Bs_one, Es_append, Es_one, Es_set', eB, eI, eL]) (by simp [hhOk, back, Adj.cells, Mnd.cells, Is_append, Is_one, Ls_append, Ls_one, Bs_append, Bs_one, Es_append, Es_one, Es_set', eB, eI, eL])) ?_
 refine w_ret ?_
 have hr := Option.some.inj h
 rw [← hr]
 refine ⟨_, (.cell tf_50 rfl rfl rfl (by simp) (by simp) (.tmp .nil)), ?_⟩
 refine ⟨(.agg rfl (.one rfl rfl .nil)), [.val (.int .i64 v3.f.s.n), .lst true 1 (Is v3.f.s.fr), .lst true 1 (Is v3.f.s.to), .lst true 1 (Is v3.f.s.id), .lst true 1 (Ls v3.f.s.cs), .val (.int .i64 v3.f.t.n), .lst true 1 (Is v3.f.t.fr), .lst true 1 (Is v3.f.t.to), .lst true 1 (Is v3.f.t.id), .lst true 1 (Ls v3.f.t.cs), .lst true 1 (Is v3.f.ob), .lst true 1 (Is v3.f.ar), .lst true 1 (Is v3.u), .lst true 1 (Is v3.j), .val (.int .i64 0)], [1, 2, 3, 4, 5, 6, 7, 8, 9, 10, 11, 12], by simp [Adj.cells, Mnd.cells, Is_append, Is_one, Ls_append, Ls_one, Bs_append, Bs_one, Es_append, Es_one, Es_set', eB, eI, eL], by simp, (UpL.refl _)⟩
end Go.Vc.T

set_option maxRecDepth 100000
set_option linter.unusedSimpArgs false
set_option linter.unusedVariables false
namespace Go.Vc.T
open Go Go.Vc Go.Proofs
def tab {α : Type} (n : Nat) (g : Nat → α) : List α := (List.range n).map g
@[simp] theorem tab_length {α : Type} (n : Nat) (g : Nat → α) : (tab n g).length = n := by simp [tab]
theorem tab_succ {α : Type} (n : Nat) (g : Nat → α) : tab (n + 1) g = tab n g ++ [g n] := by simp [tab, List.range_succ]
theorem Cat.Is.size {c : Cat} (h : c.Is) : c.size ≤ 2000 := h.1.size2.2
theorem Fn.Is.ok {f : Fn} (h : f.Is) : f.ok ∧ f.size ≤ 4048 := by
 have h1 := h.lob
 have h2 := h.lar
 have h3 := h.s.size
 have h4 := h.t.size
 exact ⟨⟨h.s.ok, h.t.ok, by omega, by omega⟩, by simp only [Fn.size]; omega⟩
def zeroF : Fn := ⟨⟨0, [], [], [], []⟩, ⟨0, [], [], [], []⟩, [], []⟩
def monadV (a : Adj) : Mnd := ⟨thenF a.l a.r, a.u, tab a.l.ob.length fun x => ix a.r.ar (ix a.k (ix a.l.ob x))⟩
theorem Adj.Pre.step {a : Adj} (h : a.Pre) {x : Nat} (hx : x < a.l.ob.length) : (0 ≤ ix a.l.ob x ∧ ix a.l.ob x < a.k.length) ∧ (0 ≤ ix a.k (ix a.l.ob x) ∧ ix a.k (ix a.l.ob x) < a.r.ar.length) := by
 obtain ⟨l1, l2, l3, l4, l5, l6, _⟩ := h.len
 have o1 := h.lob (x := x) (by omega) (by omega)
 have k1 := (h.co o1.1 o1.2).1
 omega
theorem e_l16Of {a : Adj} (h : a.Is) : s_s_l16Of a = some (monadV a) := by
 obtain ⟨l1, l2, l3, l4, l5, l6, l7, l8, l9, l10, l11, l12, l13, l14⟩ := h.pre.len
 unfold s_s_l16Of
 refine acc_bind a.l.ob.length (fun i => tab i fun x => ix a.r.ar (ix a.k (ix a.l.ob x))) (e := tab a.l.ob.length fun x => ix a.r.ar (ix a.k (ix a.l.ob x))) rfl (by omega) (fun i hi => ?_) (by simp; try omega) ?_
 · have := h.pre.step hi
   simp (disch := omega) [ass_pos, B64, tab_succ]; try omega
 rw [e_l06Then h.pre.hl h.pre.hr h.pre.e1]
 unfold s_s_l01Own
 simp (disch := omega) [ass_pos, monadV]
theorem e_monadOf {a : Adj} (h : a.Is) : s_i_monadOf a = some (monadV a) := by
 obtain ⟨l1, l2, l3, l4, l5, l6, l7, l8, l9, l10, l11, l12, l13, l14⟩ := h.pre.len
 unfold s_i_monadOf
 rw [e_Fthen h.pre.hl h.pre.hr h.pre.e1]
 simp only [Option.bind_some]
 refine acc_bind a.l.ob.length (fun i => tab i fun x => ix a.r.ar (ix a.k (ix a.l.ob x))) (e := tab a.l.ob.length fun x => ix a.r.ar (ix a.k (ix a.l.ob x))) rfl (by omega) (fun i hi => ?_) (by simp; try omega) ?_
 · have := h.pre.step hi
   simp (disch := omega) [ass_pos, B64, tab_succ]; try omega
 unfold s_i_monad s_i_clone
 rw [e_Fcopy (then_is h.pre.hl h.pre.hr h.pre.e1)]
 rw [ass_pos (by omega), ass_pos (by simp; omega)]
 rfl
theorem m_MonadOf (a : Adj) : ∃ r, s_s_MonadOf a = some r ∧ s_i_MonadOf a = some r ∧ r.1.ok ∧ r.1.size ≤ 10000 := by
 unfold s_s_MonadOf s_i_MonadOf
 rw [e_l15Is, e_isAdj]
 by_cases h : a.Is
 · obtain ⟨l1, l2, l3, l4, l5, l6, l7, l8, l9, l10, l11, l12, l13, l14⟩ := h.pre.len
   have q := (then_is h.pre.hl h.pre.hr h.pre.e1).ok
   exact ⟨(monadV a, 0), by simp [bo_pos h, e_l16Of h], by simp [bo_pos h, e_monadOf h], ⟨q.1, by simp only [monadV]; omega, by simp [monadV]; omega⟩, by simp only [Mnd.size, monadV, tab_length]; have := q.2; omega⟩
 exact ⟨(⟨zeroF, [], []⟩, 1), by simp [bo_neg h, zeroF], by simp [bo_neg h, zeroF], by simp [Mnd.ok, Fn.ok, Cat.ok, zeroF, sumL], by simp [Mnd.size, Fn.size, Cat.size, zeroF, sumL]⟩
structure Adj.Two (a b : Adj) : Prop where
 ha : a.Is
 hb : b.Is
 e : a.l.t = b.l.s
end Go.Vc.T
