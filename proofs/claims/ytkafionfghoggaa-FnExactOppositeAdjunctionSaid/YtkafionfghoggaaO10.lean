/- A part of the proof: a verified generator of conditions, and what each function of the program does. -/
import Derived.Test.YtkafionfghoggaaO9
set_option maxRecDepth 100000
set_option linter.unusedSimpArgs false
set_option linter.unusedVariables false

set_option maxRecDepth 100000
set_option linter.unusedSimpArgs false
set_option linter.unusedVariables false
namespace Go.Vc.T
open Go Go.Vc Go.Proofs
noncomputable def s_i_firstFailure__i_commutes (t_ : Tra) : Option Int :=
 (loopF (σ := Int) (ε := Unit ⊕ Int) (fun s6 =>
   if s6 < (t_.s.ar.length : Int) then
     (s_i_commutes t_.s t_.t t_.p s6).bind fun v8 =>
     if ¬ (v8 = true) then
       some (Ctl.ret (Sum.inr s6))
     else
       ass (B64 (s6 + 1)) <|
       some (Ctl.next (s6 + 1))
   else
     some (Ctl.ret (Sum.inl ()))) fuel 0).bind fun e1 =>
 match e1 with
 | .inl b1 =>
   some (-1)
 | .inr p1 =>
   some p1
set_option maxHeartbeats 4000000 in
theorem w_i_firstFailure__i_commutes (t_ : Tra) (r : Int) (h : s_i_firstFailure__i_commutes t_ = some r) : Contract Try.prog 185 [.rptr (t_.cells true), .fn 186 []] (.val (.int .i64 r)) := by
 refine contract_introG (rvs := [.tmp 4]) (rs := [.val (.int .i64 r)]) Try.func185 rfl rfl rfl rfl (by simp [Try.f185]) fun F hN hP => ?_
 unfold s_i_firstFailure__i_commutes at h
 refine w_seq ?_
 refine w_run mo (by rw [hN]; decide) fun K hK => ?_
 simp [-guardE_b, -Is_at, -Is_at', -Ls_at, -Ls_at', eL, eI, allInts, eP_Fn, eP_Tra, Fn.cells, Tra.cells]
 repeat (with_reducible refine And.intro ?_ ?_; · first | assumption | omega | (simp; done) | (simp; omega) | simp_all)
 refine hK _ ?_
 clear hK K
 refine tn ?_
 refine w_weak (st' := ⟨[(0, .rptr (Tra.cells true t_)), (1, .fn 186 [])], [], 0⟩) (Wk.r1 [] (by simp [hP, hhOk, back, Fn.cells, Tra.cells, IA, I1, LA, L1, BA, B1, EA, E1, E2, eB, eI, eL])) ?_
 refine w_seq ?_
 refine w_seq ?_
 refine w_run mo (by rw [hN]; decide) fun K hK => ?_
 simp [-guardE_b, -Is_at, -Is_at', -Ls_at, -Ls_at', eL, eI, allInts, eP_Fn, eP_Tra, Fn.cells, Tra.cells]
 repeat (with_reducible refine And.intro ?_ ?_; · first | assumption | omega | (simp; done) | (simp; omega) | simp_all)
 refine hK _ ?_
 clear hK K
 refine tn ?_
 refine w_weak (st' := ⟨[(0, .rptr (Tra.cells true t_)), (1, .fn 186 []), (11, .val (.int .i64 (t_.s.ar.length : Int))), (12, .val (.int .i64 0))], [], 0⟩) (Wk.r1 [] (by simp [hP, hhOk, back, Fn.cells, Tra.cells, IA, I1, LA, L1, BA, B1, EA, E1, E2, eB, eI, eL])) ?_
 replace h := bind_some h
 obtain ⟨e1, h, h1⟩ := h
 refine w_joinT (fun b1 : Unit => ⟨[], [], 0⟩) (fun b1 => Sum.inl b1 = e1) ?_ ?_
 · refine w_block ?_
   refine w_loopF h (fun s6 : Int => ⟨[(0, .rptr (Tra.cells true t_)), (1, .fn 186 []), (11, .val (.int .i64 (t_.s.ar.length : Int))), (12, .val (.int .i64 s6))], [], 0⟩) (Wk.r1 [] (by simp [hP, hhOk, back, Fn.cells, Tra.cells, IA, I1, LA, L1, BA, B1, EA, E1, E2, eB, eI, eL])) ?_
   clear h
   intro k6 s6 c6 h hk6
   refine w_seq ?_
   refine w_run mo (by rw [hN]; decide) fun K hK => ?_
   simp [-guardE_b, -Is_at, -Is_at', -Ls_at, -Ls_at', eL, eI, allInts, eP_Fn, eP_Tra, Fn.cells, Tra.cells]
   repeat (with_reducible refine And.intro ?_ ?_; · first | assumption | omega | (simp; done) | (simp; omega) | simp_all)
   refine hK _ ?_
   clear hK K
   refine tn ?_
   refine w_weak (st' := ⟨[(0, .rptr (Tra.cells true t_)), (1, .fn 186 []), (11, .val (.int .i64 (t_.s.ar.length : Int))), (12, .val (.int .i64 s6)), (13, .val (.bool (decide (s6 < (t_.s.ar.length : Int)))))], [], 0⟩) (Wk.r1 [] (by simp [hP, hhOk, back, Fn.cells, Tra.cells, IA, I1, LA, L1, BA, B1, EA, E1, E2, eB, eI, eL])) ?_
   refine w_seq ?_
   refine w_cond rfl (fun g => ?_) fun g => ?_
   · have g7 : s6 < (t_.s.ar.length : Int) := by first | simpa using g | (simp at g; exact g) | (simp at g; omega)
     clear g
     replace h := if_l g7 h
     refine w_skip ?_
     refine tn ?_
     refine w_seq ?_
     refine w_block ?_
     refine w_seq ?_
     refine w_run mo (by rw [hN]; decide) fun K hK => ?_
     simp [-guardE_b, -Is_at, -Is_at', -Ls_at, -Ls_at', eL, eI, allInts, eP_Fn, eP_Tra, Fn.cells, Tra.cells]
     repeat (with_reducible refine And.intro ?_ ?_; · first | assumption | omega | (simp; done) | (simp; omega) | simp_all)
     refine hK _ ?_
     clear hK K
     refine tn ?_
     refine w_weak (st' := ⟨[(0, .rptr (Tra.cells true t_)), (1, .fn 186 []), (5, .val (.int .i64 s6)), (11, .val (.int .i64 (t_.s.ar.length : Int))), (12, .val (.int .i64 s6))], [], 0⟩) (Wk.r1 [] (by simp [hP, hhOk, back, Fn.cells, Tra.cells, IA, I1, LA, L1, BA, B1, EA, E1, E2, eB, eI, eL])) ?_
     refine w_seq ?_
     refine w_run mo (by rw [hN]; decide) fun K hK => ?_
     simp [-guardE_b, -Is_at, -Is_at', -Ls_at, -Ls_at', eL, eI, allInts, eP_Fn, eP_Tra, Fn.cells, Tra.cells]
     repeat (with_reducible refine And.intro ?_ ?_; · first | assumption | omega | (simp; done) | (simp; omega) | simp_all)
     replace h := bind_some h
     obtain ⟨v8, hv8, h⟩ := h
     refine callA_intro (w_i_commutes _ _ _ _ v8 hv8) (.cons (.preT (by simp [Fn.cells, Tra.cells])) (.cons (.preT (by simp [Fn.cells, Tra.cells])) (.cons .lst (.cons .val .nil)))) ?_
     simp [-guardE_b, -Is_at, -Is_at', -Ls_at, -Ls_at', unk, unA, unE, unT, unC, flat, eL, eI, allInts, eP_Fn, eP_Tra, Fn.cells, Tra.cells]
     repeat (with_reducible refine And.intro ?_ ?_; · first | assumption | omega | (simp; done) | (simp; omega) | simp_all)
     refine hK _ ?_
     clear hK K
     refine tn ?_
     refine w_weak (st' := ⟨[(0, .rptr (Tra.cells true t_)), (1, .fn 186 []), (5, .val (.int .i64 s6)), (11, .val (.int .i64 (t_.s.ar.length : Int))), (12, .val (.int .i64 s6)), (28, .val (.bool (!v8)))], [], 0⟩) (Wk.r1 [] (by simp [hP, hhOk, back, Fn.cells, Tra.cells, IA, I1, LA, L1, BA, B1, EA, E1, E2, eB, eI, eL])) ?_
     refine w_cond rfl (fun g => ?_) fun g => ?_
     · have g9 : ¬ (v8 = true) := by first | simpa using g | (simp at g; exact g) | (simp at g; omega)
       clear g
       replace h := if_l g9 h
       refine w_seq ?_
       refine w_run mo (by rw [hN]; decide) fun K hK => ?_
       simp [-guardE_b, -Is_at, -Is_at', -Ls_at, -Ls_at', eL, eI, allInts, eP_Fn, eP_Tra, Fn.cells, Tra.cells]
       repeat (with_reducible refine And.intro ?_ ?_; · first | assumption | omega | (simp; done) | (simp; omega) | simp_all)
       refine hK _ ?_
       clear hK K
       refine tn ?_
       refine w_weak (st' := ⟨[(4, .val (.int .i64 s6))], [], 0⟩) (Wk.r1 [] (by simp [hP, hhOk, back, Fn.cells, Tra.cells, IA, I1, LA, L1, BA, B1, EA, E1, E2, eB, eI, eL])) ?_
       refine w_ret ?_
       refine br ?_
       refine tr ?_
       refine lr ?_
       refine br ?_
       refine tr ?_
       cases h
       have q : _ = e1 := hk6
       have h := h1
       rw [← q] at h
       clear q
       try dsimp only at h
       have hr := Option.some.inj h
       rw [← hr]
       refine ⟨_, (.tmp .nil), ?_⟩
       refine ⟨(.one rfl rfl .nil), [.val (.int .i64 s6)], [], by simp [Fn.cells, Tra.cells, IA, I1, LA, L1, BA, B1, EA, E1, E2, eB, eI, eL], by simp, (UpL.refl _)⟩
     have g9 : ¬ (¬ (v8 = true)) := by first | simpa using g | (simp at g; exact g) | (simp at g; omega)
     clear g
     replace h := if_r g9 h
     refine w_skip ?_
     refine bn ?_
     refine tn ?_
     refine w_run mo (by rw [hN]; decide) fun K hK => ?_
     replace h := ass_some h
     obtain ⟨a10, h⟩ := h
     simp [-guardE_b, -Is_at, -Is_at', -Ls_at, -Ls_at', eL, eI, allInts, eP_Fn, eP_Tra, Fn.cells, Tra.cells, wrap_id a10]
     repeat (with_reducible refine And.intro ?_ ?_; · first | assumption | omega | (simp; done) | (simp; omega) | simp_all)
     refine hK _ ?_
     clear hK K
     cases h
     exact rn (s' := s6 + 1) hk6 (Wk.r1 [] (by simp [hP, hhOk, back, Fn.cells, Tra.cells, IA, I1, LA, L1, BA, B1, EA, E1, E2, eB, eI, eL]))
   have g7 : ¬ (s6 < (t_.s.ar.length : Int)) := by first | simpa using g | (simp at g; exact g) | (simp at g; omega)
   clear g
   replace h := if_r g7 h
   refine w_exit ?_
   refine tx ?_
   refine lx ?_
   refine bh ?_
   cases h
   exact jn (b := ()) hk6 (Wk.r1 [] (by simp [hP, hhOk, back, Fn.cells, Tra.cells, IA, I1, LA, L1, BA, B1, EA, E1, E2, eB, eI, eL]))
 intro b1 hb1
 have h := h1
 rw [← hb1] at h
 clear h1
 try dsimp only at h
 refine w_seq ?_
 refine w_run mo (by rw [hN]; decide) fun K hK => ?_
 simp [-guardE_b, -Is_at, -Is_at', -Ls_at, -Ls_at', eL, eI, allInts, eP_Fn, eP_Tra, Fn.cells, Tra.cells]
 repeat (with_reducible refine And.intro ?_ ?_; · first | assumption | omega | (simp; done) | (simp; omega) | simp_all)
 refine hK _ ?_
 clear hK K
 refine tn ?_
 refine w_weak (st' := ⟨[(4, .val (.int .i64 (-1)))], [], 0⟩) (Wk.r1 [] (by simp [hP, hhOk, back, Fn.cells, Tra.cells, IA, I1, LA, L1, BA, B1, EA, E1, E2, eB, eI, eL])) ?_
 refine w_ret ?_
 have hr := Option.some.inj h
 rw [← hr]
 refine ⟨_, (.tmp .nil), ?_⟩
 refine ⟨(.one rfl rfl .nil), [.val (.int .i64 (-1))], [], by simp [Fn.cells, Tra.cells, IA, I1, LA, L1, BA, B1, EA, E1, E2, eB, eI, eL], by simp, (UpL.refl _)⟩
end Go.Vc.T

set_option maxRecDepth 100000
set_option linter.unusedSimpArgs false
set_option linter.unusedVariables false
namespace Go.Vc.T
open Go Go.Vc Go.Proofs
noncomputable def s_i_Transformation_isNatural (t_ : Tra) : Option Bool :=
 (
   (s_i_Transformation_isShape t_).bind fun v2 =>
   if v2 = true then
     (s_i_firstFailure__i_commutes t_).bind fun v4 =>
     some (decide (v4 < 0))
   else
     some false : Option (Bool)).bind fun b1 =>
 some b1
set_option maxHeartbeats 4000000 in
theorem w_i_Transformation_isNatural (t_ : Tra) (r : Bool) (h : s_i_Transformation_isNatural t_ = some r) : Contract Try.prog 88 [.rptr (t_.cells true)] (.val (.bool r)) := by
 refine contract_introG (rvs := [.tmp 2]) (rs := [.val (.bool r)]) Try.func88 rfl rfl rfl rfl (by simp [Try.f88]) fun F hN hP => ?_
 unfold s_i_Transformation_isNatural at h
 refine w_seq ?_
 refine w_run mo (by rw [hN]; decide) fun K hK => ?_
 simp [-guardE_b, -Is_at, -Is_at', -Ls_at, -Ls_at', eL, eI, allInts, eP_Tra, Tra.cells]
 repeat (with_reducible refine And.intro ?_ ?_; · first | assumption | omega | (simp; done) | (simp; omega) | simp_all)
 refine hK _ ?_
 clear hK K
 refine tn ?_
 refine w_weak (st' := ⟨[(0, .rptr (Tra.cells true t_))], [], 0⟩) (Wk.r1 [] (by simp [hP, hhOk, back, Tra.cells, IA, I1, LA, L1, BA, B1, EA, E1, E2, eB, eI, eL])) ?_
 refine w_seq ?_
 replace h := bind_some h
 obtain ⟨e1, h, h1⟩ := h
 refine w_joinT (fun b1 : Bool => ⟨[(2, .val (.bool b1))], [], 0⟩) (fun b1 => b1 = e1) ?_ ?_
 · refine w_run mo (by rw [hN]; decide) fun K hK => ?_
   simp [-guardE_b, -Is_at, -Is_at', -Ls_at, -Ls_at', eL, eI, allInts, eP_Tra, Tra.cells]
   repeat (with_reducible refine And.intro ?_ ?_; · first | assumption | omega | (simp; done) | (simp; omega) | simp_all)
   replace h := bind_some h
   obtain ⟨v2, hv2, h⟩ := h
   refine callA_intro (w_i_Transformation_isShape _ v2 hv2) (.cons (.preT (by simp [Tra.cells])) .nil) ?_
   simp [-guardE_b, -Is_at, -Is_at', -Ls_at, -Ls_at', unk, unA, unE, unT, unC, flat, eL, eI, allInts, eP_Tra, Tra.cells]
   repeat (with_reducible refine And.intro ?_ ?_; · first | assumption | omega | (simp; done) | (simp; omega) | simp_all)
   refine guard_intro (fun g => ?_) (fun g => ?_)
   · have g3 : v2 = true := by first | simpa using g | (simp at g; exact g) | (simp at g; omega)
     clear g
     replace h := if_l g3 h
     simp [-guardE_b, -Is_at, -Is_at', -Ls_at, -Ls_at', eL, eI, allInts, eP_Tra, Tra.cells]
     repeat (with_reducible refine And.intro ?_ ?_; · first | assumption | omega | (simp; done) | (simp; omega) | simp_all)
     replace h := bind_some h
     obtain ⟨v4, hv4, h⟩ := h
     refine callA_intro (w_i_firstFailure__i_commutes _ v4 hv4) (.cons (.preT (by simp [Tra.cells])) (.cons (.fnL (by simp) .nil) .nil)) ?_
     simp [-guardE_b, -Is_at, -Is_at', -Ls_at, -Ls_at', unk, unA, unE, unT, unC, flat, eL, eI, allInts, eP_Tra, Tra.cells]
     repeat (with_reducible refine And.intro ?_ ?_; · first | assumption | omega | (simp; done) | (simp; omega) | simp_all)
     refine hK _ ?_
     exact jn (b := decide (v4 < 0)) (Option.some.inj h) (Wk.r1 [] (by simp [hP, hhOk, back, Tra.cells, IA, I1, LA, L1, BA, B1, EA, E1, E2, eB, eI, eL]))
   have g3 : ¬ (v2 = true) := by first | simpa using g | (simp at g; exact g) | (simp at g; omega)
   clear g
   replace h := if_r g3 h
   simp [-guardE_b, -Is_at, -Is_at', -Ls_at, -Ls_at', eL, eI, allInts, eP_Tra, Tra.cells]
   repeat (with_reducible refine And.intro ?_ ?_; · first | assumption | omega | (simp; done) | (simp; omega) | simp_all)
   refine hK _ ?_
   exact jn (b := false) (Option.some.inj h) (Wk.r1 [] (by simp [hP, hhOk, back, Tra.cells, IA, I1, LA, L1, BA, B1, EA, E1, E2, eB, eI, eL]))
 intro b1 hb1
 have h := h1
 rw [← hb1] at h
 clear h1
 try dsimp only at h
 refine w_ret ?_
 have hr := Option.some.inj h
 rw [← hr]
 refine ⟨_, (.tmp .nil), ?_⟩
 refine ⟨(.one rfl rfl .nil), [.val (.bool b1)], [], by simp [Tra.cells, IA, I1, LA, L1, BA, B1, EA, E1, E2, eB, eI, eL], by simp, (UpL.refl _)⟩
end Go.Vc.T

set_option maxRecDepth 100000
set_option linter.unusedSimpArgs false
set_option linter.unusedVariables false
namespace Go.Vc.T
open Go Go.Vc Go.Proofs
noncomputable def s_i_areNatural (list_ : List Tra) : Option Bool :=
 (loopF (σ := Int) (ε := Unit ⊕ Bool) (fun s7 =>
   if s7 < (list_.length : Int) then
     ass (0 ≤ s7 ∧ s7 < (list_.length : Int)) <|
     (s_i_Transformation_isNatural (gx list_ s7)).bind fun v10 =>
     if ¬ (v10 = true) then
       some (Ctl.ret (Sum.inr false))
     else
       ass (B64 (s7 + 1)) <|
       some (Ctl.next (s7 + 1))
   else
     some (Ctl.ret (Sum.inl ()))) fuel 0).bind fun e1 =>
 match e1 with
 | .inl b1 =>
   some true
 | .inr p1 =>
   some p1
set_option maxHeartbeats 4000000 in
theorem w_i_areNatural (list_ : List Tra) (r : Bool) (h : s_i_areNatural list_ = some r) : Contract Try.prog 178 [.lst true 1 (Es eP_Tra list_)] (.val (.bool r)) := by
 refine contract_introG (rvs := [.tmp 2]) (rs := [.val (.bool r)]) Try.func178 rfl rfl rfl rfl (by simp [Try.f178]) fun F hN hP => ?_
 unfold s_i_areNatural at h
 refine w_seq ?_
 refine w_run mo (by rw [hN]; decide) fun K hK => ?_
 simp [-guardE_b, -Is_at, -Is_at', -Ls_at, -Ls_at', eL, eI, allInts, eP_Tra, Tra.cells]
 repeat (with_reducible refine And.intro ?_ ?_; · first | assumption | omega | (simp; done) | (simp; omega) | simp_all)
 refine hK _ ?_
 clear hK K
 refine tn ?_
 refine w_weak (st' := ⟨[(0, .lst true 1 (Es eP_Tra list_))], [], 0⟩) (Wk.r1 [] (by simp [hP, hhOk, back, Tra.cells, IA, I1, LA, L1, BA, B1, EA, E1, E2, eB, eI, eL])) ?_
 refine w_seq ?_
 refine w_seq ?_
 refine w_run mo (by rw [hN]; decide) fun K hK => ?_
 simp [-guardE_b, -Is_at, -Is_at', -Ls_at, -Ls_at', eL, eI, allInts, eP_Tra, Tra.cells]
 repeat (with_reducible refine And.intro ?_ ?_; · first | assumption | omega | (simp; done) | (simp; omega) | simp_all)
 refine hK _ ?_
 clear hK K
 refine tn ?_
 refine w_weak (st' := ⟨[(5, .lst true 1 (Es eP_Tra list_)), (6, .val (.int .i64 (list_.length : Int))), (7, .val (.int .i64 0))], [], 0⟩) (Wk.r1 [] (by simp [hP, hhOk, back, Tra.cells, IA, I1, LA, L1, BA, B1, EA, E1, E2, eB, eI, eL])) ?_
 replace h := bind_some h
 obtain ⟨e1, h, h1⟩ := h
 refine w_joinT (fun b1 : Unit => ⟨[], [], 0⟩) (fun b1 => Sum.inl b1 = e1) ?_ ?_
 · refine w_block ?_
   refine w_loopF h (fun s7 : Int => ⟨[(5, .lst true 1 (Es eP_Tra list_)), (6, .val (.int .i64 (list_.length : Int))), (7, .val (.int .i64 s7))], [], 0⟩) (Wk.r1 [] (by simp [hP, hhOk, back, Tra.cells, IA, I1, LA, L1, BA, B1, EA, E1, E2, eB, eI, eL])) ?_
   clear h
   intro k7 s7 c7 h hk7
   refine w_seq ?_
   refine w_run mo (by rw [hN]; decide) fun K hK => ?_
   simp [-guardE_b, -Is_at, -Is_at', -Ls_at, -Ls_at', eL, eI, allInts, eP_Tra, Tra.cells]
   repeat (with_reducible refine And.intro ?_ ?_; · first | assumption | omega | (simp; done) | (simp; omega) | simp_all)
   refine hK _ ?_
   clear hK K
   refine tn ?_
   refine w_weak (st' := ⟨[(5, .lst true 1 (Es eP_Tra list_)), (6, .val (.int .i64 (list_.length : Int))), (7, .val (.int .i64 s7)), (8, .val (.bool (decide (s7 < (list_.length : Int)))))], [], 0⟩) (Wk.r1 [] (by simp [hP, hhOk, back, Tra.cells, IA, I1, LA, L1, BA, B1, EA, E1, E2, eB, eI, eL])) ?_
   refine w_seq ?_
   refine w_cond rfl (fun g => ?_) fun g => ?_
   · have g8 : s7 < (list_.length : Int) := by first | simpa using g | (simp at g; exact g) | (simp at g; omega)
     clear g
     replace h := if_l g8 h
     refine w_skip ?_
     refine tn ?_
     refine w_seq ?_
     refine w_block ?_
     refine w_seq ?_
     refine w_run mo (by rw [hN]; decide) fun K hK => ?_
     replace h := ass_some h
     obtain ⟨a9, h⟩ := h
     simp [-guardE_b, -Is_at, -Is_at', -Ls_at, -Ls_at', eL, eI, allInts, eP_Tra, Tra.cells, at_E (c := eP_Tra) a9]
     repeat (with_reducible refine And.intro ?_ ?_; · first | assumption | omega | (simp; done) | (simp; omega) | simp_all)
     refine hK _ ?_
     clear hK K
     refine tn ?_
     refine w_weak (st' := ⟨[(4, .rptr (Tra.cells true (gx list_ s7))), (5, .lst true 1 (Es eP_Tra list_)), (6, .val (.int .i64 (list_.length : Int))), (7, .val (.int .i64 s7))], [], 0⟩) (Wk.r1 [] (by simp [hP, hhOk, back, Tra.cells, IA, I1, LA, L1, BA, B1, EA, E1, E2, eB, eI, eL])) ?_
     refine w_seq ?_
     refine w_run mo (by rw [hN]; decide) fun K hK => ?_
     simp [-guardE_b, -Is_at, -Is_at', -Ls_at, -Ls_at', eL, eI, allInts, eP_Tra, Tra.cells]
     repeat (with_reducible refine And.intro ?_ ?_; · first | assumption | omega | (simp; done) | (simp; omega) | simp_all)
     replace h := bind_some h
     obtain ⟨v10, hv10, h⟩ := h
     refine callA_intro (w_i_Transformation_isNatural _ v10 hv10) (.cons (.preT (by simp [Tra.cells])) .nil) ?_
     simp [-guardE_b, -Is_at, -Is_at', -Ls_at, -Ls_at', unk, unA, unE, unT, unC, flat, eL, eI, allInts, eP_Tra, Tra.cells]
     repeat (with_reducible refine And.intro ?_ ?_; · first | assumption | omega | (simp; done) | (simp; omega) | simp_all)
     refine hK _ ?_
     clear hK K
     refine tn ?_
     refine w_weak (st' := ⟨[(5, .lst true 1 (Es eP_Tra list_)), (6, .val (.int .i64 (list_.length : Int))), (7, .val (.int .i64 s7)), (13, .val (.bool (!v10)))], [], 0⟩) (Wk.r1 [] (by simp [hP, hhOk, back, Tra.cells, IA, I1, LA, L1, BA, B1, EA, E1, E2, eB, eI, eL])) ?_
     refine w_cond rfl (fun g => ?_) fun g => ?_
     · have g11 : ¬ (v10 = true) := by first | simpa using g | (simp at g; exact g) | (simp at g; omega)
       clear g
       replace h := if_l g11 h
       refine w_seq ?_
       refine w_run mo (by rw [hN]; decide) fun K hK => ?_
       simp [-guardE_b, -Is_at, -Is_at', -Ls_at, -Ls_at', eL, eI, allInts, eP_Tra, Tra.cells]
       repeat (with_reducible refine And.intro ?_ ?_; · first | assumption | omega | (simp; done) | (simp; omega) | simp_all)
       refine hK _ ?_
       clear hK K
       refine tn ?_
       refine w_weak (st' := ⟨[(2, .val (.bool false))], [], 0⟩) (Wk.r1 [] (by simp [hP, hhOk, back, Tra.cells, IA, I1, LA, L1, BA, B1, EA, E1, E2, eB, eI, eL])) ?_
       refine w_ret ?_
       refine br ?_
       refine tr ?_
       refine lr ?_
       refine br ?_
       refine tr ?_
       cases h
       have q : _ = e1 := hk7
       have h := h1
       rw [← q] at h
       clear q
       try dsimp only at h
       have hr := Option.some.inj h
       rw [← hr]
       refine ⟨_, (.tmp .nil), ?_⟩
       refine ⟨(.one rfl rfl .nil), [.val (.bool false)], [], by simp [Tra.cells, IA, I1, LA, L1, BA, B1, EA, E1, E2, eB, eI, eL], by simp, (UpL.refl _)⟩
     have g11 : ¬ (¬ (v10 = true)) := by first | simpa using g | (simp at g; exact g) | (simp at g; omega)
     clear g
     replace h := if_r g11 h
     refine w_skip ?_
     refine bn ?_
     refine tn ?_
     refine w_run mo (by rw [hN]; decide) fun K hK => ?_
     replace h := ass_some h
     obtain ⟨a12, h⟩ := h
     simp [-guardE_b, -Is_at, -Is_at', -Ls_at, -Ls_at', eL, eI, allInts, eP_Tra, Tra.cells, wrap_id a12]
     repeat (with_reducible refine And.intro ?_ ?_; · first | assumption | omega | (simp; done) | (simp; omega) | simp_all)
     refine hK _ ?_
     clear hK K
     cases h
     exact rn (s' := s7 + 1) hk7 (Wk.r1 [] (by simp [hP, hhOk, back, Tra.cells, IA, I1, LA, L1, BA, B1, EA, E1, E2, eB, eI, eL]))
   have g8 : ¬ (s7 < (list_.length : Int)) := by first | simpa using g | (simp at g; exact g) | (simp at g; omega)
   clear g
   replace h := if_r g8 h
   refine w_exit ?_
   refine tx ?_
   refine lx ?_
   refine bh ?_
   cases h
   exact jn (b := ()) hk7 (Wk.r1 [] (by simp [hP, hhOk, back, Tra.cells, IA, I1, LA, L1, BA, B1, EA, E1, E2, eB, eI, eL]))
 intro b1 hb1
 have h := h1
 rw [← hb1] at h
 clear h1
 try dsimp only at h
 refine w_seq ?_
 refine w_run mo (by rw [hN]; decide) fun K hK => ?_
 simp [-guardE_b, -Is_at, -Is_at', -Ls_at, -Ls_at', eL, eI, allInts, eP_Tra, Tra.cells]
 repeat (with_reducible refine And.intro ?_ ?_; · first | assumption | omega | (simp; done) | (simp; omega) | simp_all)
 refine hK _ ?_
 clear hK K
 refine tn ?_
 refine w_weak (st' := ⟨[(2, .val (.bool true))], [], 0⟩) (Wk.r1 [] (by simp [hP, hhOk, back, Tra.cells, IA, I1, LA, L1, BA, B1, EA, E1, E2, eB, eI, eL])) ?_
 refine w_ret ?_
 have hr := Option.some.inj h
 rw [← hr]
 refine ⟨_, (.tmp .nil), ?_⟩
 refine ⟨(.one rfl rfl .nil), [.val (.bool true)], [], by simp [Tra.cells, IA, I1, LA, L1, BA, B1, EA, E1, E2, eB, eI, eL], by simp, (UpL.refl _)⟩
end Go.Vc.T

set_option maxRecDepth 100000
set_option linter.unusedSimpArgs false
set_option linter.unusedVariables false
namespace Go.Vc.T
open Go Go.Vc Go.Proofs
noncomputable def s_s_l02Then (c_ : Cat) (f_ : Int) (g_ : Int) : Option Int :=
 ass (0 ≤ f_ ∧ f_ < (c_.cs.length : Int)) <|
 ass (0 ≤ g_ ∧ g_ < ((rx c_.cs f_).length : Int)) <|
 some (ix (rx c_.cs f_) g_)
set_option maxHeartbeats 4000000 in
theorem w_s_l02Then (c_ : Cat) (f_ : Int) (g_ : Int) (r : Int) (h : s_s_l02Then c_ f_ g_ = some r) : Contract Try.prog 120 [.agg (c_.cells true), .val (.int .i64 f_), .val (.int .i64 g_)] (.val (.int .i64 r)) := by
 refine contract_introG (rvs := [.tmp 6]) (rs := [.val (.int .i64 r)]) Try.func120 rfl rfl rfl rfl (by simp [Try.f120]) fun F hN hP => ?_
 unfold s_s_l02Then at h
 refine w_seq ?_
 refine w_run mo (by rw [hN]; decide) fun K hK => ?_
 simp [-guardE_b, -Is_at, -Is_at', -Ls_at, -Ls_at', eL, eI, allInts, eP_Cat, Cat.cells]
 repeat (with_reducible refine And.intro ?_ ?_; · first | assumption | omega | (simp; done) | (simp; omega) | simp_all)
 refine hK _ ?_
 clear hK K
 refine tn ?_
 refine w_weak (st' := ⟨[(1, .val (.int .i64 f_)), (2, .val (.int .i64 g_)), (3, .adr 0 0 0)], [(0, .mix 5 [(Cat.cells true c_)])], 1⟩) (Wk.r1 [(0, 0)] (by simp [hP, hhOk, back, Cat.cells, IA, I1, LA, L1, BA, B1, EA, E1, E2, eB, eI, eL])) ?_
 refine w_seq ?_
 refine w_run mo (by rw [hN]; decide) fun K hK => ?_
 replace h := ass_some h
 obtain ⟨a1, h⟩ := h
 replace h := ass_some h
 obtain ⟨a2, h⟩ := h
 simp [-guardE_b, -Is_at, -Is_at', -Ls_at, -Ls_at', eL, eI, allInts, eP_Cat, Cat.cells, at_L a1, at_I a2]
 repeat (with_reducible refine And.intro ?_ ?_; · first | assumption | omega | (simp; done) | (simp; omega) | simp_all)
 refine hK _ ?_
 clear hK K
 refine tn ?_
 refine w_weak (st' := ⟨[(6, .val (.int .i64 (ix (rx c_.cs f_) g_)))], [], 0⟩) (Wk.r1 [] (by simp [hP, hhOk, back, Cat.cells, IA, I1, LA, L1, BA, B1, EA, E1, E2, eB, eI, eL])) ?_
 refine w_ret ?_
 have hr := Option.some.inj h
 rw [← hr]
 refine ⟨_, (.tmp .nil), ?_⟩
 refine ⟨(.one rfl rfl .nil), [.val (.int .i64 (ix (rx c_.cs f_) g_))], [], by simp [Cat.cells, IA, I1, LA, L1, BA, B1, EA, E1, E2, eB, eI, eL], by simp, (UpL.refl _)⟩
end Go.Vc.T

set_option maxRecDepth 100000
set_option linter.unusedSimpArgs false
set_option linter.unusedVariables false
namespace Go.Vc.T
open Go Go.Vc Go.Proofs
noncomputable def s_s_l15Natural (f_ : Fn) (g_ : Fn) (parts_ : List Int) : Option Bool :=
 (
   if ¬ ((parts_.length : Int) = (f_.ob.length : Int)) then
     some true
   else
     (s_s_l01Map (f_.t.fr.length : Int) parts_).bind fun v3 =>
     some (!v3) : Option (Bool)).bind fun b1 =>
 if b1 = true then
   some false
 else
   (loopF (σ := Int) (ε := Unit ⊕ Bool) (fun s17 =>
     if s17 < (parts_.length : Int) then
       (
         ass (0 ≤ s17 ∧ s17 < (parts_.length : Int)) <|
         ass (0 ≤ ix parts_ s17 ∧ ix parts_ s17 < (f_.t.fr.length : Int)) <|
         ass (0 ≤ s17 ∧ s17 < (f_.ob.length : Int)) <|
         if ¬ ((ix f_.t.fr (ix parts_ s17)) = (ix f_.ob s17)) then
           some true
         else
           ass (0 ≤ s17 ∧ s17 < (parts_.length : Int)) <|
           ass (0 ≤ ix parts_ s17 ∧ ix parts_ s17 < (f_.t.to.length : Int)) <|
           ass (0 ≤ s17 ∧ s17 < (g_.ob.length : Int)) <|
           some ((ix f_.t.to (ix parts_ s17)) != (ix g_.ob s17)) : Option (Bool)).bind fun b19 =>
       if b19 = true then
         some (Ctl.ret (Sum.inr false))
       else
         ass (B64 (s17 + 1)) <|
         some (Ctl.next (s17 + 1))
     else
       some (Ctl.ret (Sum.inl ()))) fuel 0).bind fun e5 =>
   match e5 with
   | .inl b5 =>
     (loopF (σ := Int) (ε := Unit ⊕ Bool) (fun s41 =>
       if s41 < (f_.s.fr.length : Int) then
         ass (0 ≤ s41 ∧ s41 < (f_.ar.length : Int)) <|
         ass (0 ≤ s41 ∧ s41 < (f_.s.to.length : Int)) <|
         ass (0 ≤ ix f_.s.to s41 ∧ ix f_.s.to s41 < (parts_.length : Int)) <|
         (s_s_l02Then f_.t (ix f_.ar s41) (ix parts_ (ix f_.s.to s41))).bind fun v46 =>
         ass (0 ≤ s41 ∧ s41 < (f_.s.fr.length : Int)) <|
         ass (0 ≤ ix f_.s.fr s41 ∧ ix f_.s.fr s41 < (parts_.length : Int)) <|
         ass (0 ≤ s41 ∧ s41 < (g_.ar.length : Int)) <|
         (s_s_l02Then f_.t (ix parts_ (ix f_.s.fr s41)) (ix g_.ar s41)).bind fun v50 =>
         if ¬ (v46 = v50) then
           some (Ctl.ret (Sum.inr false))
         else
           ass (B64 (s41 + 1)) <|
           some (Ctl.next (s41 + 1))
       else
         some (Ctl.ret (Sum.inl ()))) fuel 0).bind fun e29 =>
     match e29 with
     | .inl b29 =>
       some true
     | .inr p29 =>
       some p29
   | .inr p5 =>
     some p5
set_option maxHeartbeats 4000000 in
theorem w_s_l15Natural (f_ : Fn) (g_ : Fn) (parts_ : List Int) (r : Bool) (h : s_s_l15Natural f_ g_ parts_ = some r) : Contract Try.prog 168 [.agg (f_.cells true), .agg (g_.cells true), .lst true 1 (Is parts_)] (.val (.bool r)) := by
 refine contract_introG (rvs := [.tmp 6]) (rs := [.val (.bool r)]) Try.func168 rfl rfl rfl rfl (by simp [Try.f168]) fun F hN hP => ?_
 unfold s_s_l15Natural at h
 refine w_seq ?_
 refine w_run mo (by rw [hN]; decide) fun K hK => ?_
 simp [-guardE_b, -Is_at, -Is_at', -Ls_at, -Ls_at', eL, eI, allInts, eP_Cat, eP_Fn, Cat.cells, Fn.cells]
 repeat (with_reducible refine And.intro ?_ ?_; · first | assumption | omega | (simp; done) | (simp; omega) | simp_all)
 refine hK _ ?_
 clear hK K
 refine tn ?_
 refine w_weak (st' := ⟨[(2, .lst true 1 (Is parts_)), (3, .adr 0 0 0), (4, .adr 1 0 0)], [(0, .mix 12 [(Fn.cells true f_)]), (1, .mix 12 [(Fn.cells true g_)])], 2⟩) (Wk.r1 [(0, 0), (1, 1)] (by simp [hP, hhOk, back, Cat.cells, Fn.cells, IA, I1, LA, L1, BA, B1, EA, E1, E2, eB, eI, eL])) ?_
 refine w_seq ?_
 refine w_runS mo (by rw [hN]; decide) fun K hK => ?_
 simp [-guardE_b, -Is_at, -Is_at', -Ls_at, -Ls_at', eL, eI, allInts, eP_Cat, eP_Fn, Cat.cells, Fn.cells]
 repeat (with_reducible refine And.intro ?_ ?_; · first | assumption | omega | (simp; done) | (simp; omega) | simp_all)
 refine hK _ ?_
 clear hK K
 refine tn ?_
 refine w_weak (st' := ⟨[(2, .lst true 1 (Is parts_)), (3, .adr 0 0 0), (4, .adr 1 0 0), (7, .adr 2 0 0), (8, .adr 3 0 0)], [(0, .mix 12 [(Fn.cells true f_)]), (1, .mix 12 [(Fn.cells true g_)]), (2, .mix 5 [(Cat.cells true f_.s)]), (3, .mix 5 [(Cat.cells true f_.t)])], 4⟩) (Wk.r1 [(0, 0), (1, 1), (2, 2), (3, 3)] (by simp [hP, hhOk, back, Cat.cells, Fn.cells, IA, I1, LA, L1, BA, B1, EA, E1, E2, eB, eI, eL])) ?_
 refine w_seq ?_
 refine w_seq ?_
 replace h := bind_some h
 obtain ⟨e1, h, h1⟩ := h
 refine w_joinT (fun b1 : Bool => ⟨[(2, .lst true 1 (Is parts_)), (3, .adr 0 0 0), (4, .adr 1 0 0), (7, .adr 2 0 0), (8, .adr 3 0 0), (28, .val (.bool b1))], [(0, .mix 12 [(Fn.cells true f_)]), (1, .mix 12 [(Fn.cells true g_)]), (2, .mix 5 [(Cat.cells true f_.s)]), (3, .mix 5 [(Cat.cells true f_.t)])], 4⟩) (fun b1 => b1 = e1) ?_ ?_
 · refine w_run mo (by rw [hN]; decide) fun K hK => ?_
   simp [-guardE_b, -Is_at, -Is_at', -Ls_at, -Ls_at', eL, eI, allInts, eP_Cat, eP_Fn, Cat.cells, Fn.cells]
   repeat (with_reducible refine And.intro ?_ ?_; · first | assumption | omega | (simp; done) | (simp; omega) | simp_all)
   refine guard_intro (fun g => ?_) (fun g => ?_)
   · have g2 : ¬ (¬ ((parts_.length : Int) = (f_.ob.length : Int))) := by first | simpa using g | (simp at g; exact g) | (simp at g; omega)
     clear g
     replace h := if_r g2 h
     simp [-guardE_b, -Is_at, -Is_at', -Ls_at, -Ls_at', eL, eI, allInts, eP_Cat, eP_Fn, Cat.cells, Fn.cells]
     repeat (with_reducible refine And.intro ?_ ?_; · first | assumption | omega | (simp; done) | (simp; omega) | simp_all)
     replace h := bind_some h
     obtain ⟨v3, hv3, h⟩ := h
     refine callA_intro (w_s_l01Map _ _ v3 hv3) (.cons .val (.cons .lst .nil)) ?_
     simp [-guardE_b, -Is_at, -Is_at', -Ls_at, -Ls_at', unk, unA, unE, unT, unC, flat, eL, eI, allInts, eP_Cat, eP_Fn, Cat.cells, Fn.cells]
     repeat (with_reducible refine And.intro ?_ ?_; · first | assumption | omega | (simp; done) | (simp; omega) | simp_all)
     refine hK _ ?_
     exact jn (b := !v3) (Option.some.inj h) (Wk.r1 [(0, 0), (1, 1), (2, 2), (3, 3)] (by simp [hP, hhOk, back, Cat.cells, Fn.cells, IA, I1, LA, L1, BA, B1, EA, E1, E2, eB, eI, eL]))
   have g2 : ¬ ((parts_.length : Int) = (f_.ob.length : Int)) := by first | simpa using g | (simp at g; exact g) | (simp at g; omega)
   clear g
   replace h := if_l g2 h
   simp [-guardE_b, -Is_at, -Is_at', -Ls_at, -Ls_at', eL, eI, allInts, eP_Cat, eP_Fn, Cat.cells, Fn.cells]
   repeat (with_reducible refine And.intro ?_ ?_; · first | assumption | omega | (simp; done) | (simp; omega) | simp_all)
   refine hK _ ?_
   exact jn (b := true) (Option.some.inj h) (Wk.r1 [(0, 0), (1, 1), (2, 2), (3, 3)] (by simp [hP, hhOk, back, Cat.cells, Fn.cells, IA, I1, LA, L1, BA, B1, EA, E1, E2, eB, eI, eL]))
 intro b1 hb1
 have h := h1
 rw [← hb1] at h
 clear h1
 try dsimp only at h
 refine w_cond rfl (fun g => ?_) fun g => ?_
 · have g4 : b1 = true := by first | simpa using g | (simp at g; exact g) | (simp at g; omega)
   clear g
   replace h := if_l g4 h
   refine w_seq ?_
   refine w_run mo (by rw [hN]; decide) fun K hK => ?_
   simp [-guardE_b, -Is_at, -Is_at', -Ls_at, -Ls_at', eL, eI, allInts, eP_Cat, eP_Fn, Cat.cells, Fn.cells]
   repeat (with_reducible refine And.intro ?_ ?_; · first | assumption | omega | (simp; done) | (simp; omega) | simp_all)
   refine hK _ ?_
   clear hK K
   refine tn ?_
   refine w_weak (st' := ⟨[(6, .val (.bool false))], [], 0⟩) (Wk.r1 [] (by simp [hP, hhOk, back, Cat.cells, Fn.cells, IA, I1, LA, L1, BA, B1, EA, E1, E2, eB, eI, eL])) ?_
   refine w_ret ?_
   refine tr ?_
   have hr := Option.some.inj h
   rw [← hr]
   refine ⟨_, (.tmp .nil), ?_⟩
   refine ⟨(.one rfl rfl .nil), [.val (.bool false)], [], by simp [Cat.cells, Fn.cells, IA, I1, LA, L1, BA, B1, EA, E1, E2, eB, eI, eL], by simp, (UpL.refl _)⟩
 have g4 : ¬ (b1 = true) := by first | simpa using g | (simp at g; exact g) | (simp at g; omega)
 clear g
 replace h := if_r g4 h
 refine w_skip ?_
 refine tn ?_
 refine w_seq ?_
 refine w_seq ?_
 refine w_run mo (by rw [hN]; decide) fun K hK => ?_
 simp [-guardE_b, -Is_at, -Is_at', -Ls_at, -Ls_at', eL, eI, allInts, eP_Cat, eP_Fn, Cat.cells, Fn.cells]
 repeat (with_reducible refine And.intro ?_ ?_; · first | assumption | omega | (simp; done) | (simp; omega) | simp_all)
 refine hK _ ?_
 clear hK K
 refine tn ?_
 refine w_weak (st' := ⟨[(2, .lst true 1 (Is parts_)), (3, .adr 0 0 0), (4, .adr 1 0 0), (7, .adr 2 0 0), (8, .adr 3 0 0), (9, .val (.int .i64 0))], [(0, .mix 12 [(Fn.cells true f_)]), (1, .mix 12 [(Fn.cells true g_)]), (2, .mix 5 [(Cat.cells true f_.s)]), (3, .mix 5 [(Cat.cells true f_.t)])], 4⟩) (Wk.r1 [(0, 0), (1, 1), (2, 2), (3, 3)] (by simp [hP, hhOk, back, Cat.cells, Fn.cells, IA, I1, LA, L1, BA, B1, EA, E1, E2, eB, eI, eL])) ?_
 replace h := bind_some h
 obtain ⟨e5, h, h5⟩ := h
 refine w_joinT (fun b5 : Unit => ⟨[(2, .lst true 1 (Is parts_)), (3, .adr 0 0 0), (4, .adr 1 0 0), (7, .adr 2 0 0), (8, .adr 3 0 0)], [(0, .mix 12 [(Fn.cells true f_)]), (1, .mix 12 [(Fn.cells true g_)]), (2, .mix 5 [(Cat.cells true f_.s)]), (3, .mix 5 [(Cat.cells true f_.t)])], 4⟩) (fun b5 => Sum.inl b5 = e5) ?_ ?_
 · refine w_block ?_
   refine w_loopF h (fun s17 : Int => ⟨[(2, .lst true 1 (Is parts_)), (3, .adr 0 0 0), (4, .adr 1 0 0), (7, .adr 2 0 0), (8, .adr 3 0 0), (9, .val (.int .i64 s17))], [(0, .mix 12 [(Fn.cells true f_)]), (1, .mix 12 [(Fn.cells true g_)]), (2, .mix 5 [(Cat.cells true f_.s)]), (3, .mix 5 [(Cat.cells true f_.t)])], 4⟩) (Wk.r1 [(0, 0), (1, 1), (2, 2), (3, 3)] (by simp [hP, hhOk, back, Cat.cells, Fn.cells, IA, I1, LA, L1, BA, B1, EA, E1, E2, eB, eI, eL])) ?_
   clear h
   intro k17 s17 c17 h hk17
   refine w_seq ?_
   refine w_seq ?_
   refine w_run mo (by rw [hN]; decide) fun K hK => ?_
   simp [-guardE_b, -Is_at, -Is_at', -Ls_at, -Ls_at', eL, eI, allInts, eP_Cat, eP_Fn, Cat.cells, Fn.cells]
   repeat (with_reducible refine And.intro ?_ ?_; · first | assumption | omega | (simp; done) | (simp; omega) | simp_all)
   refine hK _ ?_
   clear hK K
   refine tn ?_
   refine w_weak (st' := ⟨[(2, .lst true 1 (Is parts_)), (3, .adr 0 0 0), (4, .adr 1 0 0), (7, .adr 2 0 0), (8, .adr 3 0 0), (9, .val (.int .i64 s17)), (32, .val (.bool (decide (s17 < (parts_.length : Int)))))], [(0, .mix 12 [(Fn.cells true f_)]), (1, .mix 12 [(Fn.cells true g_)]), (2, .mix 5 [(Cat.cells true f_.s)]), (3, .mix 5 [(Cat.cells true f_.t)])], 4⟩) (Wk.r1 [(0, 0), (1, 1), (2, 2), (3, 3)] (by simp [hP, hhOk, back, Cat.cells, Fn.cells, IA, I1, LA, L1, BA, B1, EA, E1, E2, eB, eI, eL])) ?_
   refine w_cond rfl (fun g => ?_) fun g => ?_
   · have g18 : s17 < (parts_.length : Int) := by first | simpa using g | (simp at g; exact g) | (simp at g; omega)
     clear g
     replace h := if_l g18 h
     refine w_skip ?_
     refine tn ?_
     refine w_seq ?_
     refine w_block ?_
     refine w_seq ?_
     replace h := bind_some h
     obtain ⟨e19, h, h19⟩ := h
     refine w_joinT (fun b19 : Bool => ⟨[(2, .lst true 1 (Is parts_)), (3, .adr 0 0 0), (4, .adr 1 0 0), (7, .adr 2 0 0), (8, .adr 3 0 0), (9, .val (.int .i64 s17)), (64, .val (.bool b19))], [(0, .mix 12 [(Fn.cells true f_)]), (1, .mix 12 [(Fn.cells true g_)]), (2, .mix 5 [(Cat.cells true f_.s)]), (3, .mix 5 [(Cat.cells true f_.t)])], 4⟩) (fun b19 => b19 = e19) ?_ ?_
     · refine w_run mo (by rw [hN]; decide) fun K hK => ?_
       replace h := ass_some h
       obtain ⟨a20, h⟩ := h
       replace h := ass_some h
       obtain ⟨a21, h⟩ := h
       replace h := ass_some h
       obtain ⟨a22, h⟩ := h
       simp [-guardE_b, -Is_at, -Is_at', -Ls_at, -Ls_at', eL, eI, allInts, eP_Cat, eP_Fn, Cat.cells, Fn.cells, at_I a20, at_I a21, at_I a22]
       repeat (with_reducible refine And.intro ?_ ?_; · first | assumption | omega | (simp; done) | (simp; omega) | simp_all)
       refine guard_intro (fun g => ?_) (fun g => ?_)
       · have g23 : ¬ (¬ ((ix f_.t.fr (ix parts_ s17)) = (ix f_.ob s17))) := by first | simpa using g | (simp at g; exact g) | (simp at g; omega)
         clear g
         replace h := if_r g23 h
         replace h := ass_some h
         obtain ⟨a24, h⟩ := h
         replace h := ass_some h
         obtain ⟨a25, h⟩ := h
         replace h := ass_some h
         obtain ⟨a26, h⟩ := h
         simp [-guardE_b, -Is_at, -Is_at', -Ls_at, -Ls_at', eL, eI, allInts, eP_Cat, eP_Fn, Cat.cells, Fn.cells, at_I a20, at_I a21, at_I a22, at_I a24, at_I a25, at_I a26]
         repeat (with_reducible refine And.intro ?_ ?_; · first | assumption | omega | (simp; done) | (simp; omega) | simp_all)
         refine hK _ ?_
         exact jn (b := (ix f_.t.to (ix parts_ s17)) != (ix g_.ob s17)) (Option.some.inj h) (Wk.r1 [(0, 0), (1, 1), (2, 2), (3, 3)] (by simp [hP, hhOk, back, Cat.cells, Fn.cells, IA, I1, LA, L1, BA, B1, EA, E1, E2, eB, eI, eL]))
       have g23 : ¬ ((ix f_.t.fr (ix parts_ s17)) = (ix f_.ob s17)) := by first | simpa using g | (simp at g; exact g) | (simp at g; omega)
       clear g
       replace h := if_l g23 h
       simp [-guardE_b, -Is_at, -Is_at', -Ls_at, -Ls_at', eL, eI, allInts, eP_Cat, eP_Fn, Cat.cells, Fn.cells, at_I a20, at_I a21, at_I a22]
       repeat (with_reducible refine And.intro ?_ ?_; · first | assumption | omega | (simp; done) | (simp; omega) | simp_all)
       refine hK _ ?_
       exact jn (b := true) (Option.some.inj h) (Wk.r1 [(0, 0), (1, 1), (2, 2), (3, 3)] (by simp [hP, hhOk, back, Cat.cells, Fn.cells, IA, I1, LA, L1, BA, B1, EA, E1, E2, eB, eI, eL]))
     intro b19 hb19
     have h := h19
     rw [← hb19] at h
     clear h19
     try dsimp only at h
     refine w_cond rfl (fun g => ?_) fun g => ?_
     · have g27 : b19 = true := by first | simpa using g | (simp at g; exact g) | (simp at g; omega)
       clear g
       replace h := if_l g27 h
       refine w_seq ?_
       refine w_run mo (by rw [hN]; decide) fun K hK => ?_
       simp [-guardE_b, -Is_at, -Is_at', -Ls_at, -Ls_at', eL, eI, allInts, eP_Cat, eP_Fn, Cat.cells, Fn.cells]
       repeat (with_reducible refine And.intro ?_ ?_; · first | assumption | omega | (simp; done) | (simp; omega) | simp_all)
       refine hK _ ?_
       clear hK K
       refine tn ?_
       refine w_weak (st' := ⟨[(6, .val (.bool false))], [], 0⟩) (Wk.r1 [] (by simp [hP, hhOk, back, Cat.cells, Fn.cells, IA, I1, LA, L1, BA, B1, EA, E1, E2, eB, eI, eL])) ?_
       refine w_ret ?_
       refine br ?_
       refine tr ?_
       refine lr ?_
       refine br ?_
       refine tr ?_
       cases h
       have q : _ = e5 := hk17
       have h := h5
       rw [← q] at h
       clear q
       try dsimp only at h
       have hr := Option.some.inj h
       rw [← hr]
       refine ⟨_, (.tmp .nil), ?_⟩
       refine ⟨(.one rfl rfl .nil), [.val (.bool false)], [], by simp [Cat.cells, Fn.cells, IA, I1, LA, L1, BA, B1, EA, E1, E2, eB, eI, eL], by simp, (UpL.refl _)⟩
     have g27 : ¬ (b19 = true) := by first | simpa using g | (simp at g; exact g) | (simp at g; omega)
     clear g
     replace h := if_r g27 h
     refine w_skip ?_
     refine bn ?_
     refine tn ?_
     refine w_run mo (by rw [hN]; decide) fun K hK => ?_
     replace h := ass_some h
     obtain ⟨a28, h⟩ := h
     simp [-guardE_b, -Is_at, -Is_at', -Ls_at, -Ls_at', eL, eI, allInts, eP_Cat, eP_Fn, Cat.cells, Fn.cells, wrap_id a28]
     repeat (with_reducible refine And.intro ?_ ?_; · first | assumption | omega | (simp; done) | (simp; omega) | simp_all)
     refine hK _ ?_
     clear hK K
     cases h
     exact rn (s' := s17 + 1) hk17 (Wk.r1 [(0, 0), (1, 1), (2, 2), (3, 3)] (by simp [hP, hhOk, back, Cat.cells, Fn.cells, IA, I1, LA, L1, BA, B1, EA, E1, E2, eB, eI, eL]))
   have g18 : ¬ (s17 < (parts_.length : Int)) := by first | simpa using g | (simp at g; exact g) | (simp at g; omega)
   clear g
   replace h := if_r g18 h
   refine w_exit ?_
   refine tx ?_
   refine lx ?_
   refine bh ?_
   cases h
   exact jn (b := ()) hk17 (Wk.r1 [(0, 0), (1, 1), (2, 2), (3, 3)] (by simp [hP, hhOk, back, Cat.cells, Fn.cells, IA, I1, LA, L1, BA, B1, EA, E1, E2, eB, eI, eL]))
 intro b5 hb5
 have h := h5
 rw [← hb5] at h
 clear h5
 try dsimp only at h
 refine w_seq ?_
 refine w_seq ?_
 refine w_run mo (by rw [hN]; decide) fun K hK => ?_
 simp [-guardE_b, -Is_at, -Is_at', -Ls_at, -Ls_at', eL, eI, allInts, eP_Cat, eP_Fn, Cat.cells, Fn.cells]
 repeat (with_reducible refine And.intro ?_ ?_; · first | assumption | omega | (simp; done) | (simp; omega) | simp_all)
 refine hK _ ?_
 clear hK K
 refine tn ?_
 refine w_weak (st' := ⟨[(2, .lst true 1 (Is parts_)), (3, .adr 0 0 0), (4, .adr 1 0 0), (7, .adr 2 0 0), (8, .adr 3 0 0), (10, .val (.int .i64 0))], [(0, .mix 12 [(Fn.cells true f_)]), (1, .mix 12 [(Fn.cells true g_)]), (2, .mix 5 [(Cat.cells true f_.s)]), (3, .mix 5 [(Cat.cells true f_.t)])], 4⟩) (Wk.r1 [(0, 0), (1, 1), (2, 2), (3, 3)] (by simp [hP, hhOk, back, Cat.cells, Fn.cells, IA, I1, LA, L1, BA, B1, EA, E1, E2, eB, eI, eL])) ?_
 replace h := bind_some h
 obtain ⟨e29, h, h29⟩ := h
 refine w_joinT (fun b29 : Unit => ⟨[], [], 0⟩) (fun b29 => Sum.inl b29 = e29) ?_ ?_
 · refine w_block ?_
   refine w_loopF h (fun s41 : Int => ⟨[(2, .lst true 1 (Is parts_)), (3, .adr 0 0 0), (4, .adr 1 0 0), (7, .adr 2 0 0), (8, .adr 3 0 0), (10, .val (.int .i64 s41))], [(0, .mix 12 [(Fn.cells true f_)]), (1, .mix 12 [(Fn.cells true g_)]), (2, .mix 5 [(Cat.cells true f_.s)]), (3, .mix 5 [(Cat.cells true f_.t)])], 4⟩) (Wk.r1 [(0, 0), (1, 1), (2, 2), (3, 3)] (by simp [hP, hhOk, back, Cat.cells, Fn.cells, IA, I1, LA, L1, BA, B1, EA, E1, E2, eB, eI, eL])) ?_
   clear h
   intro k41 s41 c41 h hk41
   refine w_seq ?_
   refine w_seq ?_
   refine w_run mo (by rw [hN]; decide) fun K hK => ?_
   simp [-guardE_b, -Is_at, -Is_at', -Ls_at, -Ls_at', eL, eI, allInts, eP_Cat, eP_Fn, Cat.cells, Fn.cells]
   repeat (with_reducible refine And.intro ?_ ?_; · first | assumption | omega | (simp; done) | (simp; omega) | simp_all)
   refine hK _ ?_
   clear hK K
   refine tn ?_
   refine w_weak (st' := ⟨[(2, .lst true 1 (Is parts_)), (3, .adr 0 0 0), (4, .adr 1 0 0), (7, .adr 2 0 0), (8, .adr 3 0 0), (10, .val (.int .i64 s41)), (69, .val (.bool (decide (s41 < (f_.s.fr.length : Int)))))], [(0, .mix 12 [(Fn.cells true f_)]), (1, .mix 12 [(Fn.cells true g_)]), (2, .mix 5 [(Cat.cells true f_.s)]), (3, .mix 5 [(Cat.cells true f_.t)])], 4⟩) (Wk.r1 [(0, 0), (1, 1), (2, 2), (3, 3)] (by simp [hP, hhOk, back, Cat.cells, Fn.cells, IA, I1, LA, L1, BA, B1, EA, E1, E2, eB, eI, eL])) ?_
   refine w_cond rfl (fun g => ?_) fun g => ?_
   · have g42 : s41 < (f_.s.fr.length : Int) := by first | simpa using g | (simp at g; exact g) | (simp at g; omega)
     clear g
     replace h := if_l g42 h
     refine w_skip ?_
     refine tn ?_
     refine w_seq ?_
     refine w_block ?_
     refine w_seq ?_
     refine w_run mo (by rw [hN]; decide) fun K hK => ?_
     replace h := ass_some h
     obtain ⟨a43, h⟩ := h
     replace h := ass_some h
     obtain ⟨a44, h⟩ := h
     replace h := ass_some h
     obtain ⟨a45, h⟩ := h
     simp [-guardE_b, -Is_at, -Is_at', -Ls_at, -Ls_at', eL, eI, allInts, eP_Cat, eP_Fn, Cat.cells, Fn.cells, at_I a43, at_I a44, at_I a45]
     repeat (with_reducible refine And.intro ?_ ?_; · first | assumption | omega | (simp; done) | (simp; omega) | simp_all)
     replace h := bind_some h
     obtain ⟨v46, hv46, h⟩ := h
     refine callA_intro (w_s_l02Then _ _ _ v46 hv46) (.cons (.aggL (.cons .val (.cons .lst (.cons .lst (.cons .lst (.cons .lst .nil)))))) (.cons .val (.cons .val .nil))) ?_
     replace h := ass_some h
     obtain ⟨a47, h⟩ := h
     replace h := ass_some h
     obtain ⟨a48, h⟩ := h
     replace h := ass_some h
     obtain ⟨a49, h⟩ := h
     simp [-guardE_b, -Is_at, -Is_at', -Ls_at, -Ls_at', unk, unA, unE, unT, unC, flat, eL, eI, allInts, eP_Cat, eP_Fn, Cat.cells, Fn.cells, at_I a43, at_I a44, at_I a45, at_I a47, at_I a48, at_I a49]
     repeat (with_reducible refine And.intro ?_ ?_; · first | assumption | omega | (simp; done) | (simp; omega) | simp_all)
     replace h := bind_some h
     obtain ⟨v50, hv50, h⟩ := h
     refine callA_intro (w_s_l02Then _ _ _ v50 hv50) (.cons (.aggL (.cons .val (.cons .lst (.cons .lst (.cons .lst (.cons .lst .nil)))))) (.cons .val (.cons .val .nil))) ?_
     simp [-guardE_b, -Is_at, -Is_at', -Ls_at, -Ls_at', unk, unA, unE, unT, unC, flat, eL, eI, allInts, eP_Cat, eP_Fn, Cat.cells, Fn.cells, at_I a43, at_I a44, at_I a45, at_I a47, at_I a48, at_I a49]
     repeat (with_reducible refine And.intro ?_ ?_; · first | assumption | omega | (simp; done) | (simp; omega) | simp_all)
     refine hK _ ?_
     clear hK K
     refine tn ?_
     refine w_weak (st' := ⟨[(2, .lst true 1 (Is parts_)), (3, .adr 0 0 0), (4, .adr 1 0 0), (7, .adr 2 0 0), (8, .adr 3 0 0), (10, .val (.int .i64 s41)), (102, .val (.bool (v46 != v50)))], [(0, .mix 12 [(Fn.cells true f_)]), (1, .mix 12 [(Fn.cells true g_)]), (2, .mix 5 [(Cat.cells true f_.s)]), (3, .mix 5 [(Cat.cells true f_.t)])], 4⟩) (Wk.r1 [(0, 0), (1, 1), (2, 2), (3, 3)] (by simp [hP, hhOk, back, Cat.cells, Fn.cells, IA, I1, LA, L1, BA, B1, EA, E1, E2, eB, eI, eL])) ?_
     refine w_cond rfl (fun g => ?_) fun g => ?_
     · have g51 : ¬ (v46 = v50) := by first | simpa using g | (simp at g; exact g) | (simp at g; omega)
       clear g
       replace h := if_l g51 h
       refine w_seq ?_
       refine w_run mo (by rw [hN]; decide) fun K hK => ?_
       simp [-guardE_b, -Is_at, -Is_at', -Ls_at, -Ls_at', eL, eI, allInts, eP_Cat, eP_Fn, Cat.cells, Fn.cells]
       repeat (with_reducible refine And.intro ?_ ?_; · first | assumption | omega | (simp; done) | (simp; omega) | simp_all)
       refine hK _ ?_
       clear hK K
       refine tn ?_
       refine w_weak (st' := ⟨[(6, .val (.bool false))], [], 0⟩) (Wk.r1 [] (by simp [hP, hhOk, back, Cat.cells, Fn.cells, IA, I1, LA, L1, BA, B1, EA, E1, E2, eB, eI, eL])) ?_
       refine w_ret ?_
       refine br ?_
       refine tr ?_
       refine lr ?_
       refine br ?_
       refine tr ?_
       cases h
       have q : _ = e29 := hk41
       have h := h29
       rw [← q] at h
       clear q
       try dsimp only at h
       have hr := Option.some.inj h
       rw [← hr]
       refine ⟨_, (.tmp .nil), ?_⟩
       refine ⟨(.one rfl rfl .nil), [.val (.bool false)], [], by simp [Cat.cells, Fn.cells, IA, I1, LA, L1, BA, B1, EA, E1, E2, eB, eI, eL], by simp, (UpL.refl _)⟩
     have g51 : ¬ (¬ (v46 = v50)) := by first | simpa using g | (simp at g; exact g) | (simp at g; omega)
     clear g
     replace h := if_r g51 h
     refine w_skip ?_
     refine bn ?_
     refine tn ?_
     refine w_run mo (by rw [hN]; decide) fun K hK => ?_
     replace h := ass_some h
     obtain ⟨a52, h⟩ := h
     simp [-guardE_b, -Is_at, -Is_at', -Ls_at, -Ls_at', eL, eI, allInts, eP_Cat, eP_Fn, Cat.cells, Fn.cells, wrap_id a52]
     repeat (with_reducible refine And.intro ?_ ?_; · first | assumption | omega | (simp; done) | (simp; omega) | simp_all)
     refine hK _ ?_
     clear hK K
     cases h
     exact rn (s' := s41 + 1) hk41 (Wk.r1 [(0, 0), (1, 1), (2, 2), (3, 3)] (by simp [hP, hhOk, back, Cat.cells, Fn.cells, IA, I1, LA, L1, BA, B1, EA, E1, E2, eB, eI, eL]))
   have g42 : ¬ (s41 < (f_.s.fr.length : Int)) := by first | simpa using g | (simp at g; exact g) | (simp at g; omega)
   clear g
   replace h := if_r g42 h
   refine w_exit ?_
   refine tx ?_
   refine lx ?_
   refine bh ?_
   cases h
   exact jn (b := ()) hk41 (Wk.r1 [] (by simp [hP, hhOk, back, Cat.cells, Fn.cells, IA, I1, LA, L1, BA, B1, EA, E1, E2, eB, eI, eL]))
 intro b29 hb29
 have h := h29
 rw [← hb29] at h
 clear h29
 try dsimp only at h
 refine w_seq ?_
 refine w_run mo (by rw [hN]; decide) fun K hK => ?_
 simp [-guardE_b, -Is_at, -Is_at', -Ls_at, -Ls_at', eL, eI, allInts, eP_Cat, eP_Fn, Cat.cells, Fn.cells]
 repeat (with_reducible refine And.intro ?_ ?_; · first | assumption | omega | (simp; done) | (simp; omega) | simp_all)
 refine hK _ ?_
 clear hK K
 refine tn ?_
 refine w_weak (st' := ⟨[(6, .val (.bool true))], [], 0⟩) (Wk.r1 [] (by simp [hP, hhOk, back, Cat.cells, Fn.cells, IA, I1, LA, L1, BA, B1, EA, E1, E2, eB, eI, eL])) ?_
 refine w_ret ?_
 have hr := Option.some.inj h
 rw [← hr]
 refine ⟨_, (.tmp .nil), ?_⟩
 refine ⟨(.one rfl rfl .nil), [.val (.bool true)], [], by simp [Cat.cells, Fn.cells, IA, I1, LA, L1, BA, B1, EA, E1, E2, eB, eI, eL], by simp, (UpL.refl _)⟩
end Go.Vc.T

set_option maxRecDepth 100000
set_option linter.unusedSimpArgs false
set_option linter.unusedVariables false
namespace Go.Vc.T
open Go Go.Vc Go.Proofs
structure NatT (f g : Fn) (p : List Int) : Prop where
 lp : p.length = f.ob.length
 bd : ∀ j : Nat, j < p.length → 0 ≤ ix p j ∧ ix p j < f.t.fr.length
 ends : ∀ x : Nat, x < p.length → ix f.t.fr (ix p x) = ix f.ob x ∧ ix f.t.to (ix p x) = ix g.ob x
 sq : ∀ a : Nat, a < f.s.fr.length → ix (rx f.t.cs (ix f.ar a)) (ix p (ix f.s.to a)) = ix (rx f.t.cs (ix p (ix f.s.fr a))) (ix g.ar a)
structure Para (f g : Fn) : Prop where
 hf : f.Is
 hg : g.Is
 s : f.s = g.s
 t : f.t = g.t
theorem Para.fact {f g : Fn} (h : Para f g) : f.ob.length = g.ob.length ∧ f.ar.length = g.ar.length ∧ f.ar.length = f.s.fr.length ∧ f.s.to.length = f.s.fr.length ∧ f.t.to.length = f.t.fr.length ∧ f.t.cs.length = f.t.fr.length ∧ f.ob.length = f.s.id.length ∧ f.ob.length ≤ 8 ∧ f.s.fr.length ≤ 40 ∧ f.t.fr.length ≤ 40 := by
 have h1 := h.hf.lo
 have h2 := h.hg.lo
 have h3 := h.hf.la
 have h4 := h.hg.la
 rw [← h.s] at h2 h4
 have h5 := h.hf.s.1.li
 exact ⟨by omega, by omega, h3, h.hf.s.1.lt, h.hf.t.1.lt, h.hf.t.1.lc, by omega, h.hf.lob, h.hf.s.1.m40, h.hf.t.1.m40⟩
theorem Para.sqok {f g : Fn} (h : Para f g) {p : List Int} (lp : p.length = f.ob.length) (bd : ∀ j : Nat, j < p.length → 0 ≤ ix p j ∧ ix p j < f.t.fr.length) {a : Nat} (ha : a < f.s.fr.length) :
   (0 ≤ ix f.ar a ∧ ix f.ar a < f.t.fr.length) ∧ (0 ≤ ix g.ar a ∧ ix g.ar a < f.t.fr.length) ∧ (0 ≤ ix f.s.to a ∧ ix f.s.to a < p.length) ∧ (0 ≤ ix f.s.fr a ∧ ix f.s.fr a < p.length) ∧
   (0 ≤ ix p (ix f.s.to a) ∧ ix p (ix f.s.to a) < f.t.fr.length) ∧ (0 ≤ ix p (ix f.s.fr a) ∧ ix p (ix f.s.fr a) < f.t.fr.length) ∧ (rx f.t.cs (ix f.ar a)).length = f.t.fr.length ∧ (rx f.t.cs (ix p (ix f.s.fr a))).length = f.t.fr.length := by
 obtain ⟨k1, k2, k3, k4, k5, k6, k7, k8, k9, k10⟩ := h.fact
 have h1 := h.hf.ar a (by omega)
 have h2 := h.hg.ar a (by omega)
 rw [← h.t] at h2
 have h3 := h.hf.s.1.frn ha
 have h4 := ix_bnd bd (j := ix f.s.to a) (by omega) (by omega)
 have h5 := ix_bnd bd (j := ix f.s.fr a) (by omega) (by omega)
 exact ⟨h1, h2, by omega, by omega, h4, h5, h.hf.t.1.row' (by omega) (by omega), h.hf.t.1.row' (by omega) (by omega)⟩
theorem e_l02Then {c : Cat} {f g : Int} (h0 : 0 ≤ f ∧ f < (c.cs.length : Int)) (h1 : 0 ≤ g ∧ g < ((rx c.cs f).length : Int)) : s_s_l02Then c f g = some (ix (rx c.cs f) g) := by
 unfold s_s_l02Then
 rw [ass_pos h0, ass_pos h1]
theorem e_Cthen {c : Cat} {f g : Int} (h0 : 0 ≤ f ∧ f < (c.cs.length : Int)) (h1 : 0 ≤ g ∧ g < ((rx c.cs f).length : Int)) : s_i_Category_then c f g = some (ix (rx c.cs f) g) := by
 unfold s_i_Category_then
 rw [ass_pos h0.1, ass_pos h0.2, ass_pos h1.1, ass_pos h1.2]
theorem e_l15Natural {f g : Fn} (h : Para f g) (p : List Int) : s_s_l15Natural f g p = some (bo (NatT f g p)) := by
 obtain ⟨k1, k2, k3, k4, k5, k6, k7, k8, k9, k10⟩ := h.fact
 unfold s_s_l15Natural
 by_cases h1 : (p.length : Int) = f.ob.length
 case neg => rw [bo_neg (show ¬ NatT f g p from fun q => h1 (by rw [q.lp]))]; simp [h1]
 by_cases h2 : p.all (inR f.t.fr.length) = true
 case neg => rw [bo_neg (show ¬ NatT f g p from fun q => h2 (all_inR.2 q.bd))]; simp [s_s_l01Map, h1, h2]
 have bd := all_inR.1 h2
 simp only [s_s_l01Map, h1, h2, not_true_eq_false, if_false, Option.bind_some, Bool.not_true, Bool.false_eq_true]
 refine chk_bind p.length (fun x : Nat => ix f.t.fr (ix p x) = ix f.ob x ∧ ix f.t.to (ix p x) = ix g.ob x) (eb := Sum.inr false) (eg := Sum.inl ()) (by omega) (fun a hi hp => ?_) (fun a hi hp => ?_) (by simp; omega) (fun hx => ?_) fun q1 => ?_
 · have := bd a hi
   simp (disch := omega) [ass_pos, B64, hp.1, hp.2]; omega
 · have := bd a hi
   by_cases hp1 : ix f.t.fr (ix p a) = ix f.ob a
   · have hp2 : ¬ ix f.t.to (ix p a) = ix g.ob a := fun q => hp ⟨hp1, q⟩
     simp (disch := omega) [ass_pos, B64, hp1, hp2]; omega
   simp (disch := omega) [ass_pos, B64, hp1]; omega
 · rw [bo_neg (show ¬ NatT f g p from fun q => hx q.ends)]
 simp only
 refine chk_bind f.s.fr.length (fun a : Nat => ix (rx f.t.cs (ix f.ar a)) (ix p (ix f.s.to a)) = ix (rx f.t.cs (ix p (ix f.s.fr a))) (ix g.ar a)) (eb := Sum.inr false) (eg := Sum.inl ()) (by omega) (fun a hi hp => ?_) (fun a hi hp => ?_) (by simp) (fun hx => ?_) fun q2 => ?_
 · obtain ⟨m1, m2, m3, m4, m5, m6, m7, m8⟩ := h.sqok (by omega) bd hi
   simp (disch := omega) [ass_pos, B64, e_l02Then, hp, hi]
 · obtain ⟨m1, m2, m3, m4, m5, m6, m7, m8⟩ := h.sqok (by omega) bd hi
   simp (disch := omega) [ass_pos, B64, e_l02Then, hp, hi]
 · rw [bo_neg (show ¬ NatT f g p from fun q => hx q.sq)]
 rw [bo_pos (show NatT f g p from ⟨by omega, bd, q1, q2⟩)]
structure Tra.Is (t : Tra) : Prop where
 p : Para t.s t.t
 n : NatT t.s t.t t.p
theorem e_fits {f : Fn} (h1 : f.s.Is) (h2 : f.t.Is) : s_i_Functor_fits f = some (bo f.Is) := by
 have hs := h1.1
 have ht := h2.1
 have k0 := hs.n0
 have k1 := hs.n8
 have k2 := hs.m40
 have k3 := hs.li
 have k4 := hs.lt
 have k5 := hs.lc
 have k6 := ht.li
 have k7 := ht.lt
 have k8 := ht.lc
 have k9 := ht.m40
 have k10 := ht.n0
 have k11 := ht.n8
 have b1 : B64 (f.t.n - 1) := ⟨by omega, by omega⟩
 have b2 : B64 ((f.t.fr.length : Int) - 1) := ⟨by omega, by omega⟩
 unfold s_i_Functor_fits
 by_cases h3 : (f.ob.length : Int) = f.s.n
 case neg => rw [bo_neg (show ¬ f.Is from fun q => h3 q.lo)]; simp [h3]
 by_cases h4 : (f.ar.length : Int) = f.s.fr.length
 case neg => rw [bo_neg (show ¬ f.Is from fun q => h4 (by rw [q.la]))]; simp [s_i_Category_arrows, h3, h4]
 by_cases h5 : f.ob.all (inR f.t.n) = true
 case neg => rw [bo_neg (show ¬ f.Is from fun q => h5 (all_inR.2 q.ob))]; simp [s_i_Category_arrows, s_i_within, ass_pos b1, h3, h4, h5]
 by_cases h6 : f.ar.all (inR f.t.fr.length) = true
 case neg => rw [bo_neg (show ¬ f.Is from fun q => h6 (all_inR.2 q.ar))]; simp [s_i_Category_arrows, s_i_within, ass_pos b1, ass_pos b2, h3, h4, h5, h6]
 have ho := all_inR.1 h5
 have ha := all_inR.1 h6
 simp only [s_i_Category_arrows, s_i_within, ass_pos b1, ass_pos b2, h3, h4, h5, h6, Option.bind_some, if_true, if_false, not_true_eq_false, Bool.not_true, Bool.false_eq_true]
 refine chk_bind f.s.fr.length (fun a : Nat => ix f.t.fr (ix f.ar a) = ix f.ob (ix f.s.fr a) ∧ ix f.t.to (ix f.ar a) = ix f.ob (ix f.s.to a)) (eb := Sum.inr false) (eg := Sum.inl ()) (by omega) (fun a hi hp => ?_) (fun a hi hp => ?_) (by simp) (fun hx => ?_) fun q1 => ?_
 · have := hs.frn hi
   have := ha a (by omega)
   simp (disch := omega) [ass_pos, B64, hp.1, hp.2, hi]
 · have := hs.frn hi
   have := ha a (by omega)
   by_cases hp1 : ix f.t.fr (ix f.ar a) = ix f.ob (ix f.s.fr a)
   · have hp2 : ¬ ix f.t.to (ix f.ar a) = ix f.ob (ix f.s.to a) := fun h => hp ⟨hp1, h⟩
     simp (disch := omega) [ass_pos, B64, hp1, hp2, hi]
   simp (disch := omega) [ass_pos, B64, hp1, hi]
 · rw [bo_neg (show ¬ f.Is from fun q => hx q.ends)]
 simp only
 refine chk_bind f.s.id.length (fun x : Nat => ix f.ar (ix f.s.id x) = ix f.t.id (ix f.ob x)) (eb := Sum.inr false) (eg := Sum.inl ()) (by omega) (fun a hi hp => ?_) (fun a hi hp => ?_) (by simp) (fun hx => ?_) fun q2 => ?_
 · have := hs.idn hi
   have := ho a (by omega)
   simp (disch := omega) [ass_pos, B64, hp, hi]
 · have := hs.idn hi
   have := ho a (by omega)
   simp (disch := omega) [ass_pos, B64, hp, hi]
 · rw [bo_neg (show ¬ f.Is from fun q => hx q.ids)]
 simp only
 refine chk_bind f.s.fr.length (fun a : Nat => ∀ b : Nat, b < f.s.fr.length → ix f.s.to a = ix f.s.fr b → ix f.ar (ix (rx f.s.cs a) b) = ix (rx f.t.cs (ix f.ar a)) (ix f.ar b)) (eb := Sum.inr false) (eg := Sum.inl ()) (by omega) (fun a hi hp => ?_) (fun a hi hp => ?_) (by simp; omega) (fun hx => ?_) fun q3 => ?_
 rotate_left 2
 · rw [bo_neg (show ¬ f.Is from fun q => hx q.comp)]
 · rw [bo_pos (show f.Is from ⟨h1, h2, h3, by omega, ho, ha, q1, q2, q3⟩)]
 all_goals
   have h8 := ha a (by omega)
   have h11 := hs.row' (j := a) (by omega) (by omega)
   have h12 := ht.row' (j := ix f.ar a) (by omega) (by omega)
   rw [if_pos (by omega), ass_pos (by omega), Option.bind_assoc]
   refine chk_bind f.s.fr.length (fun b : Nat => ix f.s.to a = ix f.s.fr b → ix f.ar (ix (rx f.s.cs a) b) = ix (rx f.t.cs (ix f.ar a)) (ix f.ar b)) (eb := Sum.inl false) (eg := Sum.inr ()) (by omega) (fun b hb hq => ?_) (fun b hb hq => ?_) ?_ (fun hn => ?_) fun hn => ?_
 all_goals first
   | exact absurd hp hn
   | exact absurd hn hp
   | (simp (disch := omega) [ass_pos, B64, h11]; done)
   | skip
 all_goals
   have h13 := ha b (by omega)
   have h16 := hs.cell' (f := a) (g := b) (by omega) (by omega) (by omega) (by omega)
   by_cases h14 : ix f.s.to a = ix f.s.fr b
   · have h15 := hs.cmp (f := a) (g := b) (by omega) (by omega) (by omega) (by omega) h14
     have h17 : ix (rx f.s.cs a) b ≥ 0 := h15.1
     first
       | (have hq1 := hq h14; simp (disch := omega) [ass_pos, B64, e_Cthen, h14, hq1, hb, h11, h17]; done)
       | (have hq1 := fun e => hq (fun _ => e); simp (disch := omega) [ass_pos, B64, e_Cthen, h14, hq1, hb, h11, h17]; exact hq1)
   have h17 := h16.1 h14
   first
     | (simp (disch := omega) [ass_pos, B64, h14, hb, h11, h17]; done)
     | exact absurd (fun e => absurd e h14) hq
theorem gx_nat {α : Type} [Inhabited α] (xs : List α) {i : Nat} (h : i < xs.length) : gx xs i = xs[i] := by simp [gx, List.getD_eq_getElem?_getD, h]
theorem e_areCats (cs : List Cat) (hl : cs.length ≤ 1048576) : s_i_areCategories cs = some (bo (∀ c ∈ cs, c.Is)) := by
 unfold s_i_areCategories
 refine chk_bind cs.length (fun i : Nat => (gx cs i).Is) (eb := Sum.inr false) (eg := Sum.inl ()) (by omega) (fun a hi hp => ?_) (fun a hi hp => ?_) (by simp) (fun hx => ?_) fun q1 => ?_
 · simp (disch := omega) [ass_pos, B64, s_i_Category_isCategory, bo_pos hp, hi]
 · simp (disch := omega) [ass_pos, B64, s_i_Category_isCategory, bo_neg hp, hi]
 · rw [bo_neg (show ¬ ∀ c ∈ cs, c.Is from fun q => hx fun i hi => q _ (by rw [gx_nat _ hi]; exact List.getElem_mem hi))]
 rw [bo_pos (show ∀ c ∈ cs, c.Is from fun c hc => by obtain ⟨i, hi, rfl⟩ := List.getElem_of_mem hc; have := q1 i hi; rwa [gx_nat _ hi] at this)]
theorem e_isFunctor (f : Fn) : s_i_Functor_isFunctor f = some (bo f.Is) := by
 unfold s_i_Functor_isFunctor
 rw [e_areCats _ (by simp)]
 by_cases h : f.s.Is ∧ f.t.Is
 · rw [bo_pos (show ∀ c ∈ [f.s, f.t], c.Is by simpa using h)]
   simp [e_fits h.1 h.2]
 rw [bo_neg (show ¬ ∀ c ∈ [f.s, f.t], c.Is by simpa using h), bo_neg (show ¬ f.Is from fun q => h ⟨q.s, q.t⟩)]
 simp
theorem e_areFunctors (fs : List Fn) (hl : fs.length ≤ 1048576) : s_i_areFunctors fs = some (bo (∀ f ∈ fs, f.Is)) := by
 unfold s_i_areFunctors
 refine chk_bind fs.length (fun i : Nat => (gx fs i).Is) (eb := Sum.inr false) (eg := Sum.inl ()) (by omega) (fun a hi hp => ?_) (fun a hi hp => ?_) (by simp) (fun hx => ?_) fun q1 => ?_
 · simp (disch := omega) [ass_pos, B64, e_isFunctor, bo_pos hp, hi]
 · simp (disch := omega) [ass_pos, B64, e_isFunctor, bo_neg hp, hi]
 · rw [bo_neg (show ¬ ∀ c ∈ fs, c.Is from fun q => hx fun i hi => q _ (by rw [gx_nat _ hi]; exact List.getElem_mem hi))]
 rw [bo_pos (show ∀ c ∈ fs, c.Is from fun c hc => by obtain ⟨i, hi, rfl⟩ := List.getElem_of_mem hc; have := q1 i hi; rwa [gx_nat _ hi] at this)]
theorem Cat.Is.lcs {c : Cat} (h : c.Is) : c.cs.length ≤ 1048576 := by have := h.1.lc; have := h.1.m40; omega
theorem e_sameCat {c d : Cat} (h : c.Is) : s_i_sameCategory c d = some (bo (c = d)) := by
 unfold s_i_sameCategory
 rw [ass_pos h.lcs]
theorem e_parallel {f g : Fn} (hf : f.Is) : s_i_parallelFunctors f g = some (bo (f.s = g.s ∧ f.t = g.t)) := by
 unfold s_i_parallelFunctors
 rw [e_sameCat hf.s, e_sameCat hf.t]
 by_cases h1 : f.s = g.s <;> by_cases h2 : f.t = g.t <;> simp [bo, h1, h2]
theorem e_commutes {f g : Fn} (h : Para f g) {p : List Int} (lp : p.length = f.ob.length) (bd : ∀ j : Nat, j < p.length → 0 ≤ ix p j ∧ ix p j < f.t.fr.length) {a : Nat} (ha : a < f.s.fr.length) :
   s_i_commutes f g p a = some (bo (ix (rx f.t.cs (ix f.ar a)) (ix p (ix f.s.to a)) = ix (rx f.t.cs (ix p (ix f.s.fr a))) (ix g.ar a))) := by
 obtain ⟨k1, k2, k3, k4, k5, k6, k7, k8, k9, k10⟩ := h.fact
 obtain ⟨m1, m2, m3, m4, m5, m6, m7, m8⟩ := h.sqok lp bd ha
 unfold s_i_commutes
 by_cases hq : ix (rx f.t.cs (ix f.ar a)) (ix p (ix f.s.to a)) = ix (rx f.t.cs (ix p (ix f.s.fr a))) (ix g.ar a) <;> simp (disch := omega) [ass_pos, e_Cthen, hq, bo]
theorem e_firstFail {f g : Fn} (h : Para f g) {p : List Int} (lp : p.length = f.ob.length) (bd : ∀ j : Nat, j < p.length → 0 ≤ ix p j ∧ ix p j < f.t.fr.length) :
   ∃ v, s_i_firstFailure__i_commutes ⟨f, g, p⟩ = some v ∧ (v < 0 ↔ ∀ a : Nat, a < f.s.fr.length → ix (rx f.t.cs (ix f.ar a)) (ix p (ix f.s.to a)) = ix (rx f.t.cs (ix p (ix f.s.fr a))) (ix g.ar a)) := by
 obtain ⟨k1, k2, k3, k4, k5, k6, k7, k8, k9, k10⟩ := h.fact
 unfold s_i_firstFailure__i_commutes
 rcases loop_fst (body := fun s6 : Int => if s6 < (f.ar.length : Int) then (s_i_commutes f g p s6).bind fun v8 => if ¬ (v8 = true) then some (Ctl.ret (Sum.inr s6)) else ass (B64 (s6 + 1)) <| some (Ctl.next (s6 + 1)) else some (Ctl.ret (Sum.inl ()))) (ε := Unit ⊕ Int)
     f.s.fr.length (fun a : Nat => ix (rx f.t.cs (ix f.ar a)) (ix p (ix f.s.to a)) = ix (rx f.t.cs (ix p (ix f.s.fr a))) (ix g.ar a)) (eb := fun i => Sum.inr (i : Int)) (eg := Sum.inl ()) (by omega)
     (fun a hi hp => by simp (disch := omega) [ass_pos, B64, e_commutes h lp bd hi, hp, bo]; omega) (fun a hi hp => by simp (disch := omega) [ass_pos, B64, e_commutes h lp bd hi, hp, bo]; omega) (by simp; omega) with ⟨h1, h2⟩ | ⟨m, h1, h2, h3, h4⟩
 · refine ⟨-1, ?_, by simpa using h1⟩
   simp only
   rw [h2]; rfl
 refine ⟨m, ?_, ⟨fun q => by omega, fun q => absurd (q m h1) h2⟩⟩
 simp only
 rw [h4]; rfl
theorem e_Tshape (t : Tra) : s_i_Transformation_isShape t = some (bo (Para t.s t.t ∧ t.p.length = t.s.ob.length ∧ (∀ j : Nat, j < t.p.length → 0 ≤ ix t.p j ∧ ix t.p j < t.s.t.fr.length) ∧ ∀ x : Nat, x < t.p.length → ix t.s.t.fr (ix t.p x) = ix t.s.ob x ∧ ix t.s.t.to (ix t.p x) = ix t.t.ob x)) := by
 unfold s_i_Transformation_isShape
 rw [e_areFunctors _ (by simp)]
 by_cases h : t.s.Is ∧ t.t.Is
 case neg => rw [bo_neg (show ¬ ∀ c ∈ [t.s, t.t], c.Is by simpa using h), bo_neg (fun q => h ⟨q.1.hf, q.1.hg⟩)]; simp
 rw [bo_pos (show ∀ c ∈ [t.s, t.t], c.Is by simpa using h)]
 obtain ⟨hf, hg⟩ := h
 rw [e_parallel hf]
 by_cases h : t.s.s = t.t.s ∧ t.s.t = t.t.t
 case neg => rw [bo_neg h, bo_neg (fun q => h ⟨q.1.s, q.1.t⟩)]; simp
 rw [bo_pos h]
 have hP : Para t.s t.t := ⟨hf, hg, h.1, h.2⟩
 obtain ⟨k1, k2, k3, k4, k5, k6, k7, k8, k9, k10⟩ := hP.fact
 have lo := hf.lo
 have b2 : B64 ((t.s.t.fr.length : Int) - 1) := ⟨by omega, by omega⟩
 by_cases h1 : (t.p.length : Int) = t.s.s.n
 case neg => rw [bo_neg (fun q => h1 (by rw [q.2.1, lo]))]; simp [h1]
 by_cases h2 : t.p.all (inR t.s.t.fr.length) = true
 case neg => rw [bo_neg (fun q => h2 (all_inR.2 q.2.2.1))]; simp [s_i_Category_arrows, s_i_within, ass_pos b2, h1, h2]
 have bd := all_inR.1 h2
 simp only [s_i_Category_arrows, s_i_within, ass_pos b2, h1, h2, not_true_eq_false, if_false, Option.bind_some, Bool.not_true, Bool.false_eq_true]
 refine chk_bind t.p.length (fun x : Nat => ix t.s.t.fr (ix t.p x) = ix t.s.ob x ∧ ix t.s.t.to (ix t.p x) = ix t.t.ob x) (eb := Sum.inr false) (eg := Sum.inl ()) (by omega) (fun a hi hp => ?_) (fun a hi hp => ?_) (by simp; try omega) (fun hx => ?_) fun q1 => ?_
 · have := bd a hi
   simp (disch := omega) [ass_pos, B64, s_i_Category_ends, hp.1, hp.2]; omega
 · have := bd a hi
   by_cases hp1 : ix t.s.t.fr (ix t.p a) = ix t.s.ob a
   · have hp2 : ¬ ix t.s.t.to (ix t.p a) = ix t.t.ob a := fun q => hp ⟨hp1, q⟩
     simp (disch := omega) [ass_pos, B64, s_i_Category_ends, hp1, hp2]; try omega
   simp (disch := omega) [ass_pos, B64, s_i_Category_ends, hp1]; try omega
 · rw [bo_neg (fun q => hx q.2.2.2)]
 rw [bo_pos ⟨hP, by omega, bd, q1⟩]
theorem e_isNatural (t : Tra) : s_i_Transformation_isNatural t = some (bo t.Is) := by
 unfold s_i_Transformation_isNatural
 rw [e_Tshape]
 by_cases h : Para t.s t.t ∧ t.p.length = t.s.ob.length ∧ (∀ j : Nat, j < t.p.length → 0 ≤ ix t.p j ∧ ix t.p j < t.s.t.fr.length) ∧ ∀ x : Nat, x < t.p.length → ix t.s.t.fr (ix t.p x) = ix t.s.ob x ∧ ix t.s.t.to (ix t.p x) = ix t.t.ob x
 case neg => rw [bo_neg h, bo_neg (show ¬ t.Is from fun q => h ⟨q.p, q.n.lp, q.n.bd, q.n.ends⟩)]; simp
 rw [bo_pos h]
 obtain ⟨hP, lp, bd, en⟩ := h
 obtain ⟨v, hv, hiff⟩ := e_firstFail hP lp bd
 have hv' : s_i_firstFailure__i_commutes t = some v := hv
 by_cases hn : v < 0
 · rw [bo_pos (show t.Is from ⟨hP, lp, bd, en, hiff.1 hn⟩)]; simp [hv', hn]
 rw [bo_neg (show ¬ t.Is from fun q => hn (hiff.2 q.n.sq))]; simp [hv', hn]
theorem e_areNatural (ts : List Tra) (hl : ts.length ≤ 1048576) : s_i_areNatural ts = some (bo (∀ t ∈ ts, t.Is)) := by
 unfold s_i_areNatural
 refine chk_bind ts.length (fun i : Nat => (gx ts i).Is) (eb := Sum.inr false) (eg := Sum.inl ()) (by omega) (fun a hi hp => ?_) (fun a hi hp => ?_) (by simp) (fun hx => ?_) fun q1 => ?_
 · simp (disch := omega) [ass_pos, B64, e_isNatural, bo_pos hp, hi]
 · simp (disch := omega) [ass_pos, B64, e_isNatural, bo_neg hp, hi]
 · rw [bo_neg (show ¬ ∀ c ∈ ts, c.Is from fun q => hx fun i hi => q _ (by rw [gx_nat _ hi]; exact List.getElem_mem hi))]
 rw [bo_pos (show ∀ c ∈ ts, c.Is from fun c hc => by obtain ⟨i, hi, rfl⟩ := List.getElem_of_mem hc; have := q1 i hi; rwa [gx_nat _ hi] at this)]
end Go.Vc.T

set_option maxRecDepth 100000
set_option linter.unusedSimpArgs false
set_option linter.unusedVariables false
namespace Go.Vc.T
open Go Go.Vc Go.Proofs
noncomputable def s_i_Adjunction_fits (a_ : Adj) : Option Bool :=
 (s_i_Functor_then a_.l a_.r).bind fun v1 =>
 (s_i_Functor_then a_.r a_.l).bind fun v2 =>
 (s_i_identity a_.l.s).bind fun v3 =>
 (s_i_identity a_.l.t).bind fun v4 =>
 (s_i_areNatural [(⟨v3, v1, a_.u⟩ : Tra), (⟨v2, v4, a_.k⟩ : Tra)]).bind fun v5 =>
 if ¬ (v5 = true) then
   some false
 else
   (loopF (σ := Int) (ε := Unit ⊕ Bool) (fun s17 =>
     if s17 < (a_.l.ob.length : Int) then
       ass (0 ≤ s17 ∧ s17 < (a_.l.ob.length : Int)) <|
       ass (0 ≤ s17 ∧ s17 < (a_.u.length : Int)) <|
       ass (0 ≤ ix a_.u s17 ∧ ix a_.u s17 < (a_.l.ar.length : Int)) <|
       ass (0 ≤ ix a_.l.ob s17 ∧ ix a_.l.ob s17 < (a_.k.length : Int)) <|
       (s_i_Category_then a_.l.t (ix a_.l.ar (ix a_.u s17)) (ix a_.k (ix a_.l.ob s17))).bind fun v23 =>
       ass (0 ≤ ix a_.l.ob s17 ∧ ix a_.l.ob s17 < (a_.l.t.id.length : Int)) <|
       if ¬ (v23 = (ix a_.l.t.id (ix a_.l.ob s17))) then
         some (Ctl.ret (Sum.inr false))
       else
         ass (B64 (s17 + 1)) <|
         some (Ctl.next (s17 + 1))
     else
       some (Ctl.ret (Sum.inl ()))) fuel 0).bind fun e7 =>
   match e7 with
   | .inl b7 =>
     (loopF (σ := Int) (ε := Unit ⊕ Bool) (fun s37 =>
       if s37 < (a_.r.ob.length : Int) then
         ass (0 ≤ s37 ∧ s37 < (a_.r.ob.length : Int)) <|
         ass (0 ≤ ix a_.r.ob s37 ∧ ix a_.r.ob s37 < (a_.u.length : Int)) <|
         ass (0 ≤ s37 ∧ s37 < (a_.k.length : Int)) <|
         ass (0 ≤ ix a_.k s37 ∧ ix a_.k s37 < (a_.r.ar.length : Int)) <|
         (s_i_Category_then a_.l.s (ix a_.u (ix a_.r.ob s37)) (ix a_.r.ar (ix a_.k s37))).bind fun v43 =>
         ass (0 ≤ ix a_.r.ob s37 ∧ ix a_.r.ob s37 < (a_.l.s.id.length : Int)) <|
         if ¬ (v43 = (ix a_.l.s.id (ix a_.r.ob s37))) then
           some (Ctl.ret (Sum.inr false))
         else
           ass (B64 (s37 + 1)) <|
           some (Ctl.next (s37 + 1))
       else
         some (Ctl.ret (Sum.inl ()))) fuel 0).bind fun e27 =>
     match e27 with
     | .inl b27 =>
       some true
     | .inr p27 =>
       some p27
   | .inr p7 =>
     some p7
set_option maxHeartbeats 4000000 in
theorem w_i_Adjunction_fits (a_ : Adj) (r : Bool) (h : s_i_Adjunction_fits a_ = some r) : Contract Try.prog 174 [.rptr (a_.cells true)] (.val (.bool r)) := by
 refine contract_introG (rvs := [.tmp 2]) (rs := [.val (.bool r)]) Try.func174 rfl rfl rfl rfl (by simp [Try.f174]) fun F hN hP => ?_
 unfold s_i_Adjunction_fits at h
 refine w_seq ?_
 refine w_run mo (by rw [hN]; decide) fun K hK => ?_
 simp [-guardE_b, -Is_at, -Is_at', -Ls_at, -Ls_at', eL, eI, allInts, eP_Adj, eP_Cat, eP_Fn, eP_Tra, Adj.cells, Cat.cells, Fn.cells, Tra.cells]
 repeat (with_reducible refine And.intro ?_ ?_; · first | assumption | omega | (simp; done) | (simp; omega) | simp_all)
 refine hK _ ?_
 clear hK K
 refine tn ?_
 refine w_weak (st' := ⟨[(0, .rptr (Adj.cells true a_))], [], 0⟩) (Wk.r1 [] (by simp [hP, hhOk, back, Adj.cells, Cat.cells, Fn.cells, Tra.cells, IA, I1, LA, L1, BA, B1, EA, E1, E2, eB, eI, eL])) ?_
 refine w_seq ?_
 refine w_run mo (by rw [hN]; decide) fun K hK => ?_
 simp [-guardE_b, -Is_at, -Is_at', -Ls_at, -Ls_at', eL, eI, allInts, eP_Adj, eP_Cat, eP_Fn, eP_Tra, Adj.cells, Cat.cells, Fn.cells, Tra.cells]
 repeat (with_reducible refine And.intro ?_ ?_; · first | assumption | omega | (simp; done) | (simp; omega) | simp_all)
 refine hK _ ?_
 clear hK K
 refine tn ?_
 refine w_weak (st' := ⟨[(0, .rptr (Adj.cells true a_)), (3, .rptr (Adj.cells true a_)), (4, .rptr [.val (.int .i64 a_.l.t.n), .lst true 1 (Is a_.l.t.fr), .lst true 1 (Is a_.l.t.to), .lst true 1 (Is a_.l.t.id), .lst true 1 (Ls a_.l.t.cs), .lst true 1 (Is a_.l.ob), .lst true 1 (Is a_.l.ar), .val (.int .i64 a_.r.s.n), .lst true 1 (Is a_.r.s.fr), .lst true 1 (Is a_.r.s.to), .lst true 1 (Is a_.r.s.id), .lst true 1 (Ls a_.r.s.cs), .val (.int .i64 a_.r.t.n), .lst true 1 (Is a_.r.t.fr), .lst true 1 (Is a_.r.t.to), .lst true 1 (Is a_.r.t.id), .lst true 1 (Ls a_.r.t.cs), .lst true 1 (Is a_.r.ob), .lst true 1 (Is a_.r.ar), .lst true 1 (Is a_.u), .lst true 1 (Is a_.k)])], [], 0⟩) (Wk.r1 [] (by simp [hP, hhOk, back, Adj.cells, Cat.cells, Fn.cells, Tra.cells, IA, I1, LA, L1, BA, B1, EA, E1, E2, eB, eI, eL])) ?_
 refine w_seq ?_
 refine w_run mo (by rw [hN]; decide) fun K hK => ?_
 simp [-guardE_b, -Is_at, -Is_at', -Ls_at, -Ls_at', eL, eI, allInts, eP_Adj, eP_Cat, eP_Fn, eP_Tra, Adj.cells, Cat.cells, Fn.cells, Tra.cells]
 repeat (with_reducible refine And.intro ?_ ?_; · first | assumption | omega | (simp; done) | (simp; omega) | simp_all)
 replace h := bind_some h
 obtain ⟨v1, hv1, h⟩ := h
 refine callA_intro (w_i_Functor_then _ _ v1 hv1) (.cons (.preT (by simp [Adj.cells, Fn.cells])) (.cons (.preT (by simp [Adj.cells, Fn.cells])) .nil)) ?_
 simp [-guardE_b, -Is_at, -Is_at', -Ls_at, -Ls_at', unk, unA, unE, unT, unC, flat, eL, eI, allInts, eP_Adj, eP_Cat, eP_Fn, eP_Tra, Adj.cells, Cat.cells, Fn.cells, Tra.cells]
 repeat (with_reducible refine And.intro ?_ ?_; · first | assumption | omega | (simp; done) | (simp; omega) | simp_all)
 replace h := bind_some h
 obtain ⟨v2, hv2, h⟩ := h
 refine callA_intro (w_i_Functor_then _ _ v2 hv2) (.cons (.preT (by simp [Adj.cells, Fn.cells])) (.cons (.preT (by simp [Adj.cells, Fn.cells])) .nil)) ?_
 simp [-guardE_b, -Is_at, -Is_at', -Ls_at, -Ls_at', unk, unA, unE, unT, unC, flat, eL, eI, allInts, eP_Adj, eP_Cat, eP_Fn, eP_Tra, Adj.cells, Cat.cells, Fn.cells, Tra.cells]
 repeat (with_reducible refine And.intro ?_ ?_; · first | assumption | omega | (simp; done) | (simp; omega) | simp_all)
 refine hK _ ?_
 clear hK K
 refine tn ?_
 refine w_weak (st' := ⟨[(0, .rptr (Adj.cells true a_)), (3, .rptr (Adj.cells true a_)), (4, .rptr [.val (.int .i64 a_.l.t.n), .lst true 1 (Is a_.l.t.fr), .lst true 1 (Is a_.l.t.to), .lst true 1 (Is a_.l.t.id), .lst true 1 (Ls a_.l.t.cs), .lst true 1 (Is a_.l.ob), .lst true 1 (Is a_.l.ar), .val (.int .i64 a_.r.s.n), .lst true 1 (Is a_.r.s.fr), .lst true 1 (Is a_.r.s.to), .lst true 1 (Is a_.r.s.id), .lst true 1 (Ls a_.r.s.cs), .val (.int .i64 a_.r.t.n), .lst true 1 (Is a_.r.t.fr), .lst true 1 (Is a_.r.t.to), .lst true 1 (Is a_.r.t.id), .lst true 1 (Ls a_.r.t.cs), .lst true 1 (Is a_.r.ob), .lst true 1 (Is a_.r.ar), .lst true 1 (Is a_.u), .lst true 1 (Is a_.k)]), (5, .adr 0 0 0), (6, .adr 11 0 0)], [(0, .mix 12 [[.val (.int .i64 v1.s.n), .own 1 0 v1.s.fr.length, .own 2 0 v1.s.to.length, .own 3 0 v1.s.id.length, .own 4 0 v1.s.cs.length, .val (.int .i64 v1.t.n), .own 5 0 v1.t.fr.length, .own 6 0 v1.t.to.length, .own 7 0 v1.t.id.length, .own 8 0 v1.t.cs.length, .own 9 0 v1.ob.length, .own 10 0 v1.ar.length]]), (1, .row 1 (Is v1.s.fr)), (2, .row 1 (Is v1.s.to)), (3, .row 1 (Is v1.s.id)), (4, .row 1 (Ls v1.s.cs)), (5, .row 1 (Is v1.t.fr)), (6, .row 1 (Is v1.t.to)), (7, .row 1 (Is v1.t.id)), (8, .row 1 (Ls v1.t.cs)), (9, .row 1 (Is v1.ob)), (10, .row 1 (Is v1.ar)), (11, .mix 12 [[.val (.int .i64 v2.s.n), .own 12 0 v2.s.fr.length, .own 13 0 v2.s.to.length, .own 14 0 v2.s.id.length, .own 15 0 v2.s.cs.length, .val (.int .i64 v2.t.n), .own 16 0 v2.t.fr.length, .own 17 0 v2.t.to.length, .own 18 0 v2.t.id.length, .own 19 0 v2.t.cs.length, .own 20 0 v2.ob.length, .own 21 0 v2.ar.length]]), (12, .row 1 (Is v2.s.fr)), (13, .row 1 (Is v2.s.to)), (14, .row 1 (Is v2.s.id)), (15, .row 1 (Ls v2.s.cs)), (16, .row 1 (Is v2.t.fr)), (17, .row 1 (Is v2.t.to)), (18, .row 1 (Is v2.t.id)), (19, .row 1 (Ls v2.t.cs)), (20, .row 1 (Is v2.ob)), (21, .row 1 (Is v2.ar))], 22⟩) (Wk.r1 [(24, 0), (1, 1), (2, 2), (3, 3), (4, 4), (6, 5), (7, 6), (8, 7), (9, 8), (10, 9), (11, 10), (25, 11), (13, 12), (14, 13), (15, 14), (16, 15), (18, 16), (19, 17), (20, 18), (21, 19), (22, 20), (23, 21)] (by simp [hP, hhOk, back, Adj.cells, Cat.cells, Fn.cells, Tra.cells, IA, I1, LA, L1, BA, B1, EA, E1, E2, eB, eI, eL])) ?_
 refine w_seq ?_
 refine w_run mo (by rw [hN]; decide) fun K hK => ?_
 simp [-guardE_b, -Is_at, -Is_at', -Ls_at, -Ls_at', eL, eI, allInts, eP_Adj, eP_Cat, eP_Fn, eP_Tra, Adj.cells, Cat.cells, Fn.cells, Tra.cells]
 repeat (with_reducible refine And.intro ?_ ?_; · first | assumption | omega | (simp; done) | (simp; omega) | simp_all)
 replace h := bind_some h
 obtain ⟨v3, hv3, h⟩ := h
 refine callA_intro (w_i_identity _ v3 hv3) (.cons (.preT (by simp [Adj.cells, Cat.cells, Fn.cells])) .nil) ?_
 simp [-guardE_b, -Is_at, -Is_at', -Ls_at, -Ls_at', unk, unA, unE, unT, unC, flat, eL, eI, allInts, eP_Adj, eP_Cat, eP_Fn, eP_Tra, Adj.cells, Cat.cells, Fn.cells, Tra.cells]
 repeat (with_reducible refine And.intro ?_ ?_; · first | assumption | omega | (simp; done) | (simp; omega) | simp_all)
 replace h := bind_some h
 obtain ⟨v4, hv4, h⟩ := h
 refine callA_intro (w_i_identity _ v4 hv4) (.cons (.preT (by simp [Adj.cells, Cat.cells, Fn.cells])) .nil) ?_
 simp [-guardE_b, -Is_at, -Is_at', -Ls_at, -Ls_at', unk, unA, unE, unT, unC, flat, eL, eI, allInts, eP_Adj, eP_Cat, eP_Fn, eP_Tra, Adj.cells, Cat.cells, Fn.cells, Tra.cells]
 repeat (with_reducible refine And.intro ?_ ?_; · first | assumption | omega | (simp; done) | (simp; omega) | simp_all)
 refine hK _ ?_
 clear hK K
 refine tn ?_
 refine w_weak (st' := ⟨[(0, .rptr (Adj.cells true a_)), (3, .rptr (Adj.cells true a_)), (4, .rptr [.val (.int .i64 a_.l.t.n), .lst true 1 (Is a_.l.t.fr), .lst true 1 (Is a_.l.t.to), .lst true 1 (Is a_.l.t.id), .lst true 1 (Ls a_.l.t.cs), .lst true 1 (Is a_.l.ob), .lst true 1 (Is a_.l.ar), .val (.int .i64 a_.r.s.n), .lst true 1 (Is a_.r.s.fr), .lst true 1 (Is a_.r.s.to), .lst true 1 (Is a_.r.s.id), .lst true 1 (Ls a_.r.s.cs), .val (.int .i64 a_.r.t.n), .lst true 1 (Is a_.r.t.fr), .lst true 1 (Is a_.r.t.to), .lst true 1 (Is a_.r.t.id), .lst true 1 (Ls a_.r.t.cs), .lst true 1 (Is a_.r.ob), .lst true 1 (Is a_.r.ar), .lst true 1 (Is a_.u), .lst true 1 (Is a_.k)]), (5, .adr 0 0 0), (6, .adr 11 0 0), (7, .adr 22 0 0), (8, .adr 33 0 0)], [(0, .mix 12 [[.val (.int .i64 v1.s.n), .own 1 0 v1.s.fr.length, .own 2 0 v1.s.to.length, .own 3 0 v1.s.id.length, .own 4 0 v1.s.cs.length, .val (.int .i64 v1.t.n), .own 5 0 v1.t.fr.length, .own 6 0 v1.t.to.length, .own 7 0 v1.t.id.length, .own 8 0 v1.t.cs.length, .own 9 0 v1.ob.length, .own 10 0 v1.ar.length]]), (1, .row 1 (Is v1.s.fr)), (2, .row 1 (Is v1.s.to)), (3, .row 1 (Is v1.s.id)), (4, .row 1 (Ls v1.s.cs)), (5, .row 1 (Is v1.t.fr)), (6, .row 1 (Is v1.t.to)), (7, .row 1 (Is v1.t.id)), (8, .row 1 (Ls v1.t.cs)), (9, .row 1 (Is v1.ob)), (10, .row 1 (Is v1.ar)), (11, .mix 12 [[.val (.int .i64 v2.s.n), .own 12 0 v2.s.fr.length, .own 13 0 v2.s.to.length, .own 14 0 v2.s.id.length, .own 15 0 v2.s.cs.length, .val (.int .i64 v2.t.n), .own 16 0 v2.t.fr.length, .own 17 0 v2.t.to.length, .own 18 0 v2.t.id.length, .own 19 0 v2.t.cs.length, .own 20 0 v2.ob.length, .own 21 0 v2.ar.length]]), (12, .row 1 (Is v2.s.fr)), (13, .row 1 (Is v2.s.to)), (14, .row 1 (Is v2.s.id)), (15, .row 1 (Ls v2.s.cs)), (16, .row 1 (Is v2.t.fr)), (17, .row 1 (Is v2.t.to)), (18, .row 1 (Is v2.t.id)), (19, .row 1 (Ls v2.t.cs)), (20, .row 1 (Is v2.ob)), (21, .row 1 (Is v2.ar)), (22, .mix 12 [[.val (.int .i64 v3.s.n), .own 23 0 v3.s.fr.length, .own 24 0 v3.s.to.length, .own 25 0 v3.s.id.length, .own 26 0 v3.s.cs.length, .val (.int .i64 v3.t.n), .own 27 0 v3.t.fr.length, .own 28 0 v3.t.to.length, .own 29 0 v3.t.id.length, .own 30 0 v3.t.cs.length, .own 31 0 v3.ob.length, .own 32 0 v3.ar.length]]), (23, .row 1 (Is v3.s.fr)), (24, .row 1 (Is v3.s.to)), (25, .row 1 (Is v3.s.id)), (26, .row 1 (Ls v3.s.cs)), (27, .row 1 (Is v3.t.fr)), (28, .row 1 (Is v3.t.to)), (29, .row 1 (Is v3.t.id)), (30, .row 1 (Ls v3.t.cs)), (31, .row 1 (Is v3.ob)), (32, .row 1 (Is v3.ar)), (33, .mix 12 [[.val (.int .i64 v4.s.n), .own 34 0 v4.s.fr.length, .own 35 0 v4.s.to.length, .own 36 0 v4.s.id.length, .own 37 0 v4.s.cs.length, .val (.int .i64 v4.t.n), .own 38 0 v4.t.fr.length, .own 39 0 v4.t.to.length, .own 40 0 v4.t.id.length, .own 41 0 v4.t.cs.length, .own 42 0 v4.ob.length, .own 43 0 v4.ar.length]]), (34, .row 1 (Is v4.s.fr)), (35, .row 1 (Is v4.s.to)), (36, .row 1 (Is v4.s.id)), (37, .row 1 (Ls v4.s.cs)), (38, .row 1 (Is v4.t.fr)), (39, .row 1 (Is v4.t.to)), (40, .row 1 (Is v4.t.id)), (41, .row 1 (Ls v4.t.cs)), (42, .row 1 (Is v4.ob)), (43, .row 1 (Is v4.ar))], 44⟩) (Wk.r1 [(0, 0), (1, 1), (2, 2), (3, 3), (4, 4), (5, 5), (6, 6), (7, 7), (8, 8), (9, 9), (10, 10), (11, 11), (12, 12), (13, 13), (14, 14), (15, 15), (16, 16), (17, 17), (18, 18), (19, 19), (20, 20), (21, 21), (46, 22), (23, 23), (24, 24), (25, 25), (26, 26), (28, 27), (29, 28), (30, 29), (31, 30), (32, 31), (33, 32), (47, 33), (35, 34), (36, 35), (37, 36), (38, 37), (40, 38), (41, 39), (42, 40), (43, 41), (44, 42), (45, 43)] (by simp [hP, hhOk, back, Adj.cells, Cat.cells, Fn.cells, Tra.cells, IA, I1, LA, L1, BA, B1, EA, E1, E2, eB, eI, eL])) ?_
 refine w_seq ?_
 refine w_run mo (by rw [hN]; decide) fun K hK => ?_
 simp [-guardE_b, -Is_at, -Is_at', -Ls_at, -Ls_at', eL, eI, allInts, eP_Adj, eP_Cat, eP_Fn, eP_Tra, Adj.cells, Cat.cells, Fn.cells, Tra.cells]
 repeat (with_reducible refine And.intro ?_ ?_; · first | assumption | omega | (simp; done) | (simp; omega) | simp_all)
 refine hK _ ?_
 clear hK K
 refine tn ?_
 refine w_weak (st' := ⟨[(0, .rptr (Adj.cells true a_)), (3, .rptr (Adj.cells true a_)), (4, .rptr [.val (.int .i64 a_.l.t.n), .lst true 1 (Is a_.l.t.fr), .lst true 1 (Is a_.l.t.to), .lst true 1 (Is a_.l.t.id), .lst true 1 (Ls a_.l.t.cs), .lst true 1 (Is a_.l.ob), .lst true 1 (Is a_.l.ar), .val (.int .i64 a_.r.s.n), .lst true 1 (Is a_.r.s.fr), .lst true 1 (Is a_.r.s.to), .lst true 1 (Is a_.r.s.id), .lst true 1 (Ls a_.r.s.cs), .val (.int .i64 a_.r.t.n), .lst true 1 (Is a_.r.t.fr), .lst true 1 (Is a_.r.t.to), .lst true 1 (Is a_.r.t.id), .lst true 1 (Ls a_.r.t.cs), .lst true 1 (Is a_.r.ob), .lst true 1 (Is a_.r.ar), .lst true 1 (Is a_.u), .lst true 1 (Is a_.k)]), (6, .adr 0 0 0), (8, .adr 11 0 0), (9, .adr 22 0 0)], [(0, .mix 12 [[.val (.int .i64 v2.s.n), .own 1 0 v2.s.fr.length, .own 2 0 v2.s.to.length, .own 3 0 v2.s.id.length, .own 4 0 v2.s.cs.length, .val (.int .i64 v2.t.n), .own 5 0 v2.t.fr.length, .own 6 0 v2.t.to.length, .own 7 0 v2.t.id.length, .own 8 0 v2.t.cs.length, .own 9 0 v2.ob.length, .own 10 0 v2.ar.length]]), (1, .row 1 (Is v2.s.fr)), (2, .row 1 (Is v2.s.to)), (3, .row 1 (Is v2.s.id)), (4, .row 1 (Ls v2.s.cs)), (5, .row 1 (Is v2.t.fr)), (6, .row 1 (Is v2.t.to)), (7, .row 1 (Is v2.t.id)), (8, .row 1 (Ls v2.t.cs)), (9, .row 1 (Is v2.ob)), (10, .row 1 (Is v2.ar)), (11, .mix 12 [[.val (.int .i64 v4.s.n), .own 12 0 v4.s.fr.length, .own 13 0 v4.s.to.length, .own 14 0 v4.s.id.length, .own 15 0 v4.s.cs.length, .val (.int .i64 v4.t.n), .own 16 0 v4.t.fr.length, .own 17 0 v4.t.to.length, .own 18 0 v4.t.id.length, .own 19 0 v4.t.cs.length, .own 20 0 v4.ob.length, .own 21 0 v4.ar.length]]), (12, .row 1 (Is v4.s.fr)), (13, .row 1 (Is v4.s.to)), (14, .row 1 (Is v4.s.id)), (15, .row 1 (Ls v4.s.cs)), (16, .row 1 (Is v4.t.fr)), (17, .row 1 (Is v4.t.to)), (18, .row 1 (Is v4.t.id)), (19, .row 1 (Ls v4.t.cs)), (20, .row 1 (Is v4.ob)), (21, .row 1 (Is v4.ar)), (22, .mix 25 [[.val (.int .i64 v3.s.n), .own 23 0 v3.s.fr.length, .own 24 0 v3.s.to.length, .own 25 0 v3.s.id.length, .own 26 0 v3.s.cs.length, .val (.int .i64 v3.t.n), .own 27 0 v3.t.fr.length, .own 28 0 v3.t.to.length, .own 29 0 v3.t.id.length, .own 30 0 v3.t.cs.length, .own 31 0 v3.ob.length, .own 32 0 v3.ar.length, .val (.int .i64 v1.s.n), .own 33 0 v1.s.fr.length, .own 34 0 v1.s.to.length, .own 35 0 v1.s.id.length, .own 36 0 v1.s.cs.length, .val (.int .i64 v1.t.n), .own 37 0 v1.t.fr.length, .own 38 0 v1.t.to.length, .own 39 0 v1.t.id.length, .own 40 0 v1.t.cs.length, .own 41 0 v1.ob.length, .own 42 0 v1.ar.length, .lst true 1 (Is a_.u)]]), (23, .row 1 (Is v3.s.fr)), (24, .row 1 (Is v3.s.to)), (25, .row 1 (Is v3.s.id)), (26, .row 1 (Ls v3.s.cs)), (27, .row 1 (Is v3.t.fr)), (28, .row 1 (Is v3.t.to)), (29, .row 1 (Is v3.t.id)), (30, .row 1 (Ls v3.t.cs)), (31, .row 1 (Is v3.ob)), (32, .row 1 (Is v3.ar)), (33, .row 1 (Is v1.s.fr)), (34, .row 1 (Is v1.s.to)), (35, .row 1 (Is v1.s.id)), (36, .row 1 (Ls v1.s.cs)), (37, .row 1 (Is v1.t.fr)), (38, .row 1 (Is v1.t.to)), (39, .row 1 (Is v1.t.id)), (40, .row 1 (Ls v1.t.cs)), (41, .row 1 (Is v1.ob)), (42, .row 1 (Is v1.ar))], 43⟩) (Wk.r1 [(11, 0), (12, 1), (13, 2), (14, 3), (15, 4), (16, 5), (17, 6), (18, 7), (19, 8), (20, 9), (21, 10), (33, 11), (34, 12), (35, 13), (36, 14), (37, 15), (38, 16), (39, 17), (40, 18), (41, 19), (42, 20), (43, 21), (44, 22), (23, 23), (24, 24), (25, 25), (26, 26), (27, 27), (28, 28), (29, 29), (30, 30), (31, 31), (32, 32), (1, 33), (2, 34), (3, 35), (4, 36), (5, 37), (6, 38), (7, 39), (8, 40), (9, 41), (10, 42)] (by simp [hP, hhOk, back, Adj.cells, Cat.cells, Fn.cells, Tra.cells, IA, I1, LA, L1, BA, B1, EA, E1, E2, eB, eI, eL])) ?_
 refine w_seq ?_
 refine w_run mo (by rw [hN]; decide) fun K hK => ?_
 simp [-guardE_b, -Is_at, -Is_at', -Ls_at, -Ls_at', eL, eI, allInts, eP_Adj, eP_Cat, eP_Fn, eP_Tra, Adj.cells, Cat.cells, Fn.cells, Tra.cells]
 repeat (with_reducible refine And.intro ?_ ?_; · first | assumption | omega | (simp; done) | (simp; omega) | simp_all)
 refine hK _ ?_
 clear hK K
 refine tn ?_
 refine w_weak (st' := ⟨[(0, .rptr (Adj.cells true a_)), (3, .rptr (Adj.cells true a_)), (4, .rptr [.val (.int .i64 a_.l.t.n), .lst true 1 (Is a_.l.t.fr), .lst true 1 (Is a_.l.t.to), .lst true 1 (Is a_.l.t.id), .lst true 1 (Ls a_.l.t.cs), .lst true 1 (Is a_.l.ob), .lst true 1 (Is a_.l.ar), .val (.int .i64 a_.r.s.n), .lst true 1 (Is a_.r.s.fr), .lst true 1 (Is a_.r.s.to), .lst true 1 (Is a_.r.s.id), .lst true 1 (Ls a_.r.s.cs), .val (.int .i64 a_.r.t.n), .lst true 1 (Is a_.r.t.fr), .lst true 1 (Is a_.r.t.to), .lst true 1 (Is a_.r.t.id), .lst true 1 (Ls a_.r.t.cs), .lst true 1 (Is a_.r.ob), .lst true 1 (Is a_.r.ar), .lst true 1 (Is a_.u), .lst true 1 (Is a_.k)]), (9, .adr 0 0 0), (10, .adr 21 0 0)], [(0, .mix 25 [[.val (.int .i64 v3.s.n), .own 1 0 v3.s.fr.length, .own 2 0 v3.s.to.length, .own 3 0 v3.s.id.length, .own 4 0 v3.s.cs.length, .val (.int .i64 v3.t.n), .own 5 0 v3.t.fr.length, .own 6 0 v3.t.to.length, .own 7 0 v3.t.id.length, .own 8 0 v3.t.cs.length, .own 9 0 v3.ob.length, .own 10 0 v3.ar.length, .val (.int .i64 v1.s.n), .own 11 0 v1.s.fr.length, .own 12 0 v1.s.to.length, .own 13 0 v1.s.id.length, .own 14 0 v1.s.cs.length, .val (.int .i64 v1.t.n), .own 15 0 v1.t.fr.length, .own 16 0 v1.t.to.length, .own 17 0 v1.t.id.length, .own 18 0 v1.t.cs.length, .own 19 0 v1.ob.length, .own 20 0 v1.ar.length, .lst true 1 (Is a_.u)]]), (1, .row 1 (Is v3.s.fr)), (2, .row 1 (Is v3.s.to)), (3, .row 1 (Is v3.s.id)), (4, .row 1 (Ls v3.s.cs)), (5, .row 1 (Is v3.t.fr)), (6, .row 1 (Is v3.t.to)), (7, .row 1 (Is v3.t.id)), (8, .row 1 (Ls v3.t.cs)), (9, .row 1 (Is v3.ob)), (10, .row 1 (Is v3.ar)), (11, .row 1 (Is v1.s.fr)), (12, .row 1 (Is v1.s.to)), (13, .row 1 (Is v1.s.id)), (14, .row 1 (Ls v1.s.cs)), (15, .row 1 (Is v1.t.fr)), (16, .row 1 (Is v1.t.to)), (17, .row 1 (Is v1.t.id)), (18, .row 1 (Ls v1.t.cs)), (19, .row 1 (Is v1.ob)), (20, .row 1 (Is v1.ar)), (21, .mix 25 [[.val (.int .i64 v2.s.n), .own 22 0 v2.s.fr.length, .own 23 0 v2.s.to.length, .own 24 0 v2.s.id.length, .own 25 0 v2.s.cs.length, .val (.int .i64 v2.t.n), .own 26 0 v2.t.fr.length, .own 27 0 v2.t.to.length, .own 28 0 v2.t.id.length, .own 29 0 v2.t.cs.length, .own 30 0 v2.ob.length, .own 31 0 v2.ar.length, .val (.int .i64 v4.s.n), .own 32 0 v4.s.fr.length, .own 33 0 v4.s.to.length, .own 34 0 v4.s.id.length, .own 35 0 v4.s.cs.length, .val (.int .i64 v4.t.n), .own 36 0 v4.t.fr.length, .own 37 0 v4.t.to.length, .own 38 0 v4.t.id.length, .own 39 0 v4.t.cs.length, .own 40 0 v4.ob.length, .own 41 0 v4.ar.length, .lst true 1 (Is a_.k)]]), (22, .row 1 (Is v2.s.fr)), (23, .row 1 (Is v2.s.to)), (24, .row 1 (Is v2.s.id)), (25, .row 1 (Ls v2.s.cs)), (26, .row 1 (Is v2.t.fr)), (27, .row 1 (Is v2.t.to)), (28, .row 1 (Is v2.t.id)), (29, .row 1 (Ls v2.t.cs)), (30, .row 1 (Is v2.ob)), (31, .row 1 (Is v2.ar)), (32, .row 1 (Is v4.s.fr)), (33, .row 1 (Is v4.s.to)), (34, .row 1 (Is v4.s.id)), (35, .row 1 (Ls v4.s.cs)), (36, .row 1 (Is v4.t.fr)), (37, .row 1 (Is v4.t.to)), (38, .row 1 (Is v4.t.id)), (39, .row 1 (Ls v4.t.cs)), (40, .row 1 (Is v4.ob)), (41, .row 1 (Is v4.ar))], 42⟩) (Wk.r1 [(22, 0), (23, 1), (24, 2), (25, 3), (26, 4), (27, 5), (28, 6), (29, 7), (30, 8), (31, 9), (32, 10), (33, 11), (34, 12), (35, 13), (36, 14), (37, 15), (38, 16), (39, 17), (40, 18), (41, 19), (42, 20), (43, 21), (1, 22), (2, 23), (3, 24), (4, 25), (5, 26), (6, 27), (7, 28), (8, 29), (9, 30), (10, 31), (12, 32), (13, 33), (14, 34), (15, 35), (16, 36), (17, 37), (18, 38), (19, 39), (20, 40), (21, 41)] (by simp [hP, hhOk, back, Adj.cells, Cat.cells, Fn.cells, Tra.cells, IA, I1, LA, L1, BA, B1, EA, E1, E2, eB, eI, eL])) ?_
 refine w_seq ?_
 refine w_seq ?_
 refine w_run mo (by rw [hN]; decide) fun K hK => ?_
 simp [-guardE_b, -Is_at, -Is_at', -Ls_at, -Ls_at', eL, eI, allInts, eP_Adj, eP_Cat, eP_Fn, eP_Tra, Adj.cells, Cat.cells, Fn.cells, Tra.cells]
 repeat (with_reducible refine And.intro ?_ ?_; · first | assumption | omega | (simp; done) | (simp; omega) | simp_all)
 replace h := bind_some h
 obtain ⟨v5, hv5, h⟩ := h
 refine callA_intro (w_i_areNatural _ v5 hv5) (.cons (.lits (es := _) rfl (.cons rfl (.cons (.field rfl (by simp [Adj.cells, Cat.cells, Fn.cells, Tra.cells]) (.cons .val (.cons (.whole (by simp) (by simp) (by simp)) (.cons (.whole (by simp) (by simp) (by simp)) (.cons (.whole (by simp) (by simp) (by simp)) (.cons (.whole (by simp) (by simp) (by simp)) (.cons .val (.cons (.whole (by simp) (by simp) (by simp)) (.cons (.whole (by simp) (by simp) (by simp)) (.cons (.whole (by simp) (by simp) (by simp)) (.cons (.whole (by simp) (by simp) (by simp)) (.cons (.whole (by simp) (by simp) (by simp)) (.cons (.whole (by simp) (by simp) (by simp)) (.cons .val (.cons (.whole (by simp) (by simp) (by simp)) (.cons (.whole (by simp) (by simp) (by simp)) (.cons (.whole (by simp) (by simp) (by simp)) (.cons (.whole (by simp) (by simp) (by simp)) (.cons .val (.cons (.whole (by simp) (by simp) (by simp)) (.cons (.whole (by simp) (by simp) (by simp)) (.cons (.whole (by simp) (by simp) (by simp)) (.cons (.whole (by simp) (by simp) (by simp)) (.cons (.whole (by simp) (by simp) (by simp)) (.cons (.whole (by simp) (by simp) (by simp)) (.cons .lst .nil)))))))))))))))))))))))))) .nil) (.cons rfl (.cons (.field rfl (by simp [Adj.cells, Cat.cells, Fn.cells, Tra.cells]) (.cons .val (.cons (.whole (by simp) (by simp) (by simp)) (.cons (.whole (by simp) (by simp) (by simp)) (.cons (.whole (by simp) (by simp) (by simp)) (.cons (.whole (by simp) (by simp) (by simp)) (.cons .val (.cons (.whole (by simp) (by simp) (by simp)) (.cons (.whole (by simp) (by simp) (by simp)) (.cons (.whole (by simp) (by simp) (by simp)) (.cons (.whole (by simp) (by simp) (by simp)) (.cons (.whole (by simp) (by simp) (by simp)) (.cons (.whole (by simp) (by simp) (by simp)) (.cons .val (.cons (.whole (by simp) (by simp) (by simp)) (.cons (.whole (by simp) (by simp) (by simp)) (.cons (.whole (by simp) (by simp) (by simp)) (.cons (.whole (by simp) (by simp) (by simp)) (.cons .val (.cons (.whole (by simp) (by simp) (by simp)) (.cons (.whole (by simp) (by simp) (by simp)) (.cons (.whole (by simp) (by simp) (by simp)) (.cons (.whole (by simp) (by simp) (by simp)) (.cons (.whole (by simp) (by simp) (by simp)) (.cons (.whole (by simp) (by simp) (by simp)) (.cons .lst .nil)))))))))))))))))))))))))) .nil) .nil)) rfl) .nil) ?_
 simp [-guardE_b, -Is_at, -Is_at', -Ls_at, -Ls_at', unk, unA, unE, unT, unC, flat, eL, eI, allInts, eP_Adj, eP_Cat, eP_Fn, eP_Tra, Adj.cells, Cat.cells, Fn.cells, Tra.cells]
 repeat (with_reducible refine And.intro ?_ ?_; · first | assumption | omega | (simp; done) | (simp; omega) | simp_all)
 refine hK _ ?_
 clear hK K
 refine tn ?_
 refine w_weak (st' := ⟨[(0, .rptr (Adj.cells true a_)), (3, .rptr (Adj.cells true a_)), (4, .rptr [.val (.int .i64 a_.l.t.n), .lst true 1 (Is a_.l.t.fr), .lst true 1 (Is a_.l.t.to), .lst true 1 (Is a_.l.t.id), .lst true 1 (Ls a_.l.t.cs), .lst true 1 (Is a_.l.ob), .lst true 1 (Is a_.l.ar), .val (.int .i64 a_.r.s.n), .lst true 1 (Is a_.r.s.fr), .lst true 1 (Is a_.r.s.to), .lst true 1 (Is a_.r.s.id), .lst true 1 (Ls a_.r.s.cs), .val (.int .i64 a_.r.t.n), .lst true 1 (Is a_.r.t.fr), .lst true 1 (Is a_.r.t.to), .lst true 1 (Is a_.r.t.id), .lst true 1 (Ls a_.r.t.cs), .lst true 1 (Is a_.r.ob), .lst true 1 (Is a_.r.ar), .lst true 1 (Is a_.u), .lst true 1 (Is a_.k)]), (57, .val (.bool (!v5)))], [], 0⟩) (Wk.r1 [] (by simp [hP, hhOk, back, Adj.cells, Cat.cells, Fn.cells, Tra.cells, IA, I1, LA, L1, BA, B1, EA, E1, E2, eB, eI, eL])) ?_
 refine w_cond rfl (fun g => ?_) fun g => ?_
 · have g6 : ¬ (v5 = true) := by first | simpa using g | (simp at g; exact g) | (simp at g; omega)
   clear g
   replace h := if_l g6 h
   refine w_seq ?_
   refine w_run mo (by rw [hN]; decide) fun K hK => ?_
   simp [-guardE_b, -Is_at, -Is_at', -Ls_at, -Ls_at', eL, eI, allInts, eP_Adj, eP_Cat, eP_Fn, eP_Tra, Adj.cells, Cat.cells, Fn.cells, Tra.cells]
   repeat (with_reducible refine And.intro ?_ ?_; · first | assumption | omega | (simp; done) | (simp; omega) | simp_all)
   refine hK _ ?_
   clear hK K
   refine tn ?_
   refine w_weak (st' := ⟨[(2, .val (.bool false))], [], 0⟩) (Wk.r1 [] (by simp [hP, hhOk, back, Adj.cells, Cat.cells, Fn.cells, Tra.cells, IA, I1, LA, L1, BA, B1, EA, E1, E2, eB, eI, eL])) ?_
   refine w_ret ?_
   refine tr ?_
   have hr := Option.some.inj h
   rw [← hr]
   refine ⟨_, (.tmp .nil), ?_⟩
   refine ⟨(.one rfl rfl .nil), [.val (.bool false)], [], by simp [Adj.cells, Cat.cells, Fn.cells, Tra.cells, IA, I1, LA, L1, BA, B1, EA, E1, E2, eB, eI, eL], by simp, (UpL.refl _)⟩
 have g6 : ¬ (¬ (v5 = true)) := by first | simpa using g | (simp at g; exact g) | (simp at g; omega)
 clear g
 replace h := if_r g6 h
 refine w_skip ?_
 refine tn ?_
 refine w_seq ?_
 refine w_seq ?_
 refine w_run mo (by rw [hN]; decide) fun K hK => ?_
 simp [-guardE_b, -Is_at, -Is_at', -Ls_at, -Ls_at', eL, eI, allInts, eP_Adj, eP_Cat, eP_Fn, eP_Tra, Adj.cells, Cat.cells, Fn.cells, Tra.cells]
 repeat (with_reducible refine And.intro ?_ ?_; · first | assumption | omega | (simp; done) | (simp; omega) | simp_all)
 refine hK _ ?_
 clear hK K
 refine tn ?_
 refine w_weak (st' := ⟨[(0, .rptr (Adj.cells true a_)), (3, .rptr (Adj.cells true a_)), (4, .rptr [.val (.int .i64 a_.l.t.n), .lst true 1 (Is a_.l.t.fr), .lst true 1 (Is a_.l.t.to), .lst true 1 (Is a_.l.t.id), .lst true 1 (Ls a_.l.t.cs), .lst true 1 (Is a_.l.ob), .lst true 1 (Is a_.l.ar), .val (.int .i64 a_.r.s.n), .lst true 1 (Is a_.r.s.fr), .lst true 1 (Is a_.r.s.to), .lst true 1 (Is a_.r.s.id), .lst true 1 (Ls a_.r.s.cs), .val (.int .i64 a_.r.t.n), .lst true 1 (Is a_.r.t.fr), .lst true 1 (Is a_.r.t.to), .lst true 1 (Is a_.r.t.id), .lst true 1 (Ls a_.r.t.cs), .lst true 1 (Is a_.r.ob), .lst true 1 (Is a_.r.ar), .lst true 1 (Is a_.u), .lst true 1 (Is a_.k)]), (62, .lst true 1 (Is a_.l.ob)), (63, .val (.int .i64 (a_.l.ob.length : Int))), (64, .val (.int .i64 0))], [], 0⟩) (Wk.r1 [] (by simp [hP, hhOk, back, Adj.cells, Cat.cells, Fn.cells, Tra.cells, IA, I1, LA, L1, BA, B1, EA, E1, E2, eB, eI, eL])) ?_
 replace h := bind_some h
 obtain ⟨e7, h, h7⟩ := h
 refine w_joinT (fun b7 : Unit => ⟨[(0, .rptr (Adj.cells true a_)), (3, .rptr (Adj.cells true a_))], [], 0⟩) (fun b7 => Sum.inl b7 = e7) ?_ ?_
 · refine w_block ?_
   refine w_loopF h (fun s17 : Int => ⟨[(0, .rptr (Adj.cells true a_)), (3, .rptr (Adj.cells true a_)), (4, .rptr [.val (.int .i64 a_.l.t.n), .lst true 1 (Is a_.l.t.fr), .lst true 1 (Is a_.l.t.to), .lst true 1 (Is a_.l.t.id), .lst true 1 (Ls a_.l.t.cs), .lst true 1 (Is a_.l.ob), .lst true 1 (Is a_.l.ar), .val (.int .i64 a_.r.s.n), .lst true 1 (Is a_.r.s.fr), .lst true 1 (Is a_.r.s.to), .lst true 1 (Is a_.r.s.id), .lst true 1 (Ls a_.r.s.cs), .val (.int .i64 a_.r.t.n), .lst true 1 (Is a_.r.t.fr), .lst true 1 (Is a_.r.t.to), .lst true 1 (Is a_.r.t.id), .lst true 1 (Ls a_.r.t.cs), .lst true 1 (Is a_.r.ob), .lst true 1 (Is a_.r.ar), .lst true 1 (Is a_.u), .lst true 1 (Is a_.k)]), (62, .lst true 1 (Is a_.l.ob)), (63, .val (.int .i64 (a_.l.ob.length : Int))), (64, .val (.int .i64 s17))], [], 0⟩) (Wk.r1 [] (by simp [hP, hhOk, back, Adj.cells, Cat.cells, Fn.cells, Tra.cells, IA, I1, LA, L1, BA, B1, EA, E1, E2, eB, eI, eL])) ?_
   clear h
   intro k17 s17 c17 h hk17
   refine w_seq ?_
   refine w_run mo (by rw [hN]; decide) fun K hK => ?_
   simp [-guardE_b, -Is_at, -Is_at', -Ls_at, -Ls_at', eL, eI, allInts, eP_Adj, eP_Cat, eP_Fn, eP_Tra, Adj.cells, Cat.cells, Fn.cells, Tra.cells]
   repeat (with_reducible refine And.intro ?_ ?_; · first | assumption | omega | (simp; done) | (simp; omega) | simp_all)
   refine hK _ ?_
   clear hK K
   refine tn ?_
   refine w_weak (st' := ⟨[(0, .rptr (Adj.cells true a_)), (3, .rptr (Adj.cells true a_)), (4, .rptr [.val (.int .i64 a_.l.t.n), .lst true 1 (Is a_.l.t.fr), .lst true 1 (Is a_.l.t.to), .lst true 1 (Is a_.l.t.id), .lst true 1 (Ls a_.l.t.cs), .lst true 1 (Is a_.l.ob), .lst true 1 (Is a_.l.ar), .val (.int .i64 a_.r.s.n), .lst true 1 (Is a_.r.s.fr), .lst true 1 (Is a_.r.s.to), .lst true 1 (Is a_.r.s.id), .lst true 1 (Ls a_.r.s.cs), .val (.int .i64 a_.r.t.n), .lst true 1 (Is a_.r.t.fr), .lst true 1 (Is a_.r.t.to), .lst true 1 (Is a_.r.t.id), .lst true 1 (Ls a_.r.t.cs), .lst true 1 (Is a_.r.ob), .lst true 1 (Is a_.r.ar), .lst true 1 (Is a_.u), .lst true 1 (Is a_.k)]), (62, .lst true 1 (Is a_.l.ob)), (63, .val (.int .i64 (a_.l.ob.length : Int))), (64, .val (.int .i64 s17)), (65, .val (.bool (decide (s17 < (a_.l.ob.length : Int)))))], [], 0⟩) (Wk.r1 [] (by simp [hP, hhOk, back, Adj.cells, Cat.cells, Fn.cells, Tra.cells, IA, I1, LA, L1, BA, B1, EA, E1, E2, eB, eI, eL])) ?_
   refine w_seq ?_
   refine w_cond rfl (fun g => ?_) fun g => ?_
   · have g18 : s17 < (a_.l.ob.length : Int) := by first | simpa using g | (simp at g; exact g) | (simp at g; omega)
     clear g
     replace h := if_l g18 h
     refine w_skip ?_
     refine tn ?_
     refine w_seq ?_
     refine w_block ?_
     refine w_seq ?_
     refine w_run mo (by rw [hN]; decide) fun K hK => ?_
     replace h := ass_some h
     obtain ⟨a19, h⟩ := h
     simp [-guardE_b, -Is_at, -Is_at', -Ls_at, -Ls_at', eL, eI, allInts, eP_Adj, eP_Cat, eP_Fn, eP_Tra, Adj.cells, Cat.cells, Fn.cells, Tra.cells, at_I a19]
     repeat (with_reducible refine And.intro ?_ ?_; · first | assumption | omega | (simp; done) | (simp; omega) | simp_all)
     refine hK _ ?_
     clear hK K
     refine tn ?_
     refine w_weak (st' := ⟨[(0, .rptr (Adj.cells true a_)), (3, .rptr (Adj.cells true a_)), (4, .rptr [.val (.int .i64 a_.l.t.n), .lst true 1 (Is a_.l.t.fr), .lst true 1 (Is a_.l.t.to), .lst true 1 (Is a_.l.t.id), .lst true 1 (Ls a_.l.t.cs), .lst true 1 (Is a_.l.ob), .lst true 1 (Is a_.l.ar), .val (.int .i64 a_.r.s.n), .lst true 1 (Is a_.r.s.fr), .lst true 1 (Is a_.r.s.to), .lst true 1 (Is a_.r.s.id), .lst true 1 (Ls a_.r.s.cs), .val (.int .i64 a_.r.t.n), .lst true 1 (Is a_.r.t.fr), .lst true 1 (Is a_.r.t.to), .lst true 1 (Is a_.r.t.id), .lst true 1 (Ls a_.r.t.cs), .lst true 1 (Is a_.r.ob), .lst true 1 (Is a_.r.ar), .lst true 1 (Is a_.u), .lst true 1 (Is a_.k)]), (11, .val (.int .i64 s17)), (12, .val (.int .i64 (ix a_.l.ob s17))), (62, .lst true 1 (Is a_.l.ob)), (63, .val (.int .i64 (a_.l.ob.length : Int))), (64, .val (.int .i64 s17))], [], 0⟩) (Wk.r1 [] (by simp [hP, hhOk, back, Adj.cells, Cat.cells, Fn.cells, Tra.cells, IA, I1, LA, L1, BA, B1, EA, E1, E2, eB, eI, eL])) ?_
     refine w_seq ?_
     refine w_run mo (by rw [hN]; decide) fun K hK => ?_
     replace h := ass_some h
     obtain ⟨a20, h⟩ := h
     replace h := ass_some h
     obtain ⟨a21, h⟩ := h
     replace h := ass_some h
     obtain ⟨a22, h⟩ := h
     simp [-guardE_b, -Is_at, -Is_at', -Ls_at, -Ls_at', eL, eI, allInts, eP_Adj, eP_Cat, eP_Fn, eP_Tra, Adj.cells, Cat.cells, Fn.cells, Tra.cells, at_I a20, at_I a21, at_I a22]
     repeat (with_reducible refine And.intro ?_ ?_; · first | assumption | omega | (simp; done) | (simp; omega) | simp_all)
     replace h := bind_some h
     obtain ⟨v23, hv23, h⟩ := h
     refine callA_intro (w_i_Category_then _ _ _ v23 hv23) (.cons (.preT (by simp [Adj.cells, Cat.cells, Fn.cells, Tra.cells])) (.cons .val (.cons .val .nil))) ?_
     replace h := ass_some h
     obtain ⟨a24, h⟩ := h
     simp [-guardE_b, -Is_at, -Is_at', -Ls_at, -Ls_at', unk, unA, unE, unT, unC, flat, eL, eI, allInts, eP_Adj, eP_Cat, eP_Fn, eP_Tra, Adj.cells, Cat.cells, Fn.cells, Tra.cells, at_I a20, at_I a21, at_I a22, at_I a24]
     repeat (with_reducible refine And.intro ?_ ?_; · first | assumption | omega | (simp; done) | (simp; omega) | simp_all)
     refine hK _ ?_
     clear hK K
     refine tn ?_
     refine w_weak (st' := ⟨[(0, .rptr (Adj.cells true a_)), (3, .rptr (Adj.cells true a_)), (4, .rptr [.val (.int .i64 a_.l.t.n), .lst true 1 (Is a_.l.t.fr), .lst true 1 (Is a_.l.t.to), .lst true 1 (Is a_.l.t.id), .lst true 1 (Ls a_.l.t.cs), .lst true 1 (Is a_.l.ob), .lst true 1 (Is a_.l.ar), .val (.int .i64 a_.r.s.n), .lst true 1 (Is a_.r.s.fr), .lst true 1 (Is a_.r.s.to), .lst true 1 (Is a_.r.s.id), .lst true 1 (Ls a_.r.s.cs), .val (.int .i64 a_.r.t.n), .lst true 1 (Is a_.r.t.fr), .lst true 1 (Is a_.r.t.to), .lst true 1 (Is a_.r.t.id), .lst true 1 (Ls a_.r.t.cs), .lst true 1 (Is a_.r.ob), .lst true 1 (Is a_.r.ar), .lst true 1 (Is a_.u), .lst true 1 (Is a_.k)]), (62, .lst true 1 (Is a_.l.ob)), (63, .val (.int .i64 (a_.l.ob.length : Int))), (64, .val (.int .i64 s17)), (99, .val (.bool (v23 != (ix a_.l.t.id (ix a_.l.ob s17)))))], [], 0⟩) (Wk.r1 [] (by simp [hP, hhOk, back, Adj.cells, Cat.cells, Fn.cells, Tra.cells, IA, I1, LA, L1, BA, B1, EA, E1, E2, eB, eI, eL])) ?_
     refine w_cond rfl (fun g => ?_) fun g => ?_
     · have g25 : ¬ (v23 = (ix a_.l.t.id (ix a_.l.ob s17))) := by first | simpa using g | (simp at g; exact g) | (simp at g; omega)
       clear g
       replace h := if_l g25 h
       refine w_seq ?_
       refine w_run mo (by rw [hN]; decide) fun K hK => ?_
       simp [-guardE_b, -Is_at, -Is_at', -Ls_at, -Ls_at', eL, eI, allInts, eP_Adj, eP_Cat, eP_Fn, eP_Tra, Adj.cells, Cat.cells, Fn.cells, Tra.cells]
       repeat (with_reducible refine And.intro ?_ ?_; · first | assumption | omega | (simp; done) | (simp; omega) | simp_all)
       refine hK _ ?_
       clear hK K
       refine tn ?_
       refine w_weak (st' := ⟨[(2, .val (.bool false))], [], 0⟩) (Wk.r1 [] (by simp [hP, hhOk, back, Adj.cells, Cat.cells, Fn.cells, Tra.cells, IA, I1, LA, L1, BA, B1, EA, E1, E2, eB, eI, eL])) ?_
       refine w_ret ?_
       refine br ?_
       refine tr ?_
       refine lr ?_
       refine br ?_
       refine tr ?_
       cases h
       have q : _ = e7 := hk17
       have h := h7
       rw [← q] at h
       clear q
       try dsimp only at h
       have hr := Option.some.inj h
       rw [← hr]
       refine ⟨_, (.tmp .nil), ?_⟩
       refine ⟨(.one rfl rfl .nil), [.val (.bool false)], [], by simp [Adj.cells, Cat.cells, Fn.cells, Tra.cells, IA, I1, LA, L1, BA, B1, EA, E1, E2, eB, eI, eL], by simp, (UpL.refl _)⟩
     have g25 : ¬ (¬ (v23 = (ix a_.l.t.id (ix a_.l.ob s17)))) := by first | simpa using g | (simp at g; exact g) | (simp at g; omega)
     clear g
     replace h := if_r g25 h
     refine w_skip ?_
     refine bn ?_
     refine tn ?_
     refine w_run mo (by rw [hN]; decide) fun K hK => ?_
     replace h := ass_some h
     obtain ⟨a26, h⟩ := h
     simp [-guardE_b, -Is_at, -Is_at', -Ls_at, -Ls_at', eL, eI, allInts, eP_Adj, eP_Cat, eP_Fn, eP_Tra, Adj.cells, Cat.cells, Fn.cells, Tra.cells, wrap_id a26]
     repeat (with_reducible refine And.intro ?_ ?_; · first | assumption | omega | (simp; done) | (simp; omega) | simp_all)
     refine hK _ ?_
     clear hK K
     cases h
     exact rn (s' := s17 + 1) hk17 (Wk.r1 [] (by simp [hP, hhOk, back, Adj.cells, Cat.cells, Fn.cells, Tra.cells, IA, I1, LA, L1, BA, B1, EA, E1, E2, eB, eI, eL]))
   have g18 : ¬ (s17 < (a_.l.ob.length : Int)) := by first | simpa using g | (simp at g; exact g) | (simp at g; omega)
   clear g
   replace h := if_r g18 h
   refine w_exit ?_
   refine tx ?_
   refine lx ?_
   refine bh ?_
   cases h
   exact jn (b := ()) hk17 (Wk.r1 [] (by simp [hP, hhOk, back, Adj.cells, Cat.cells, Fn.cells, Tra.cells, IA, I1, LA, L1, BA, B1, EA, E1, E2, eB, eI, eL]))
 intro b7 hb7
 have h := h7
 rw [← hb7] at h
 clear h7
 try dsimp only at h
 refine w_seq ?_
 refine w_seq ?_
 refine w_run mo (by rw [hN]; decide) fun K hK => ?_
 simp [-guardE_b, -Is_at, -Is_at', -Ls_at, -Ls_at', eL, eI, allInts, eP_Adj, eP_Cat, eP_Fn, eP_Tra, Adj.cells, Cat.cells, Fn.cells, Tra.cells]
 repeat (with_reducible refine And.intro ?_ ?_; · first | assumption | omega | (simp; done) | (simp; omega) | simp_all)
 refine hK _ ?_
 clear hK K
 refine tn ?_
 refine w_weak (st' := ⟨[(0, .rptr (Adj.cells true a_)), (3, .rptr (Adj.cells true a_)), (105, .lst true 1 (Is a_.r.ob)), (106, .val (.int .i64 (a_.r.ob.length : Int))), (107, .val (.int .i64 0))], [], 0⟩) (Wk.r1 [] (by simp [hP, hhOk, back, Adj.cells, Cat.cells, Fn.cells, Tra.cells, IA, I1, LA, L1, BA, B1, EA, E1, E2, eB, eI, eL])) ?_
 replace h := bind_some h
 obtain ⟨e27, h, h27⟩ := h
 refine w_joinT (fun b27 : Unit => ⟨[], [], 0⟩) (fun b27 => Sum.inl b27 = e27) ?_ ?_
 · refine w_block ?_
   refine w_loopF h (fun s37 : Int => ⟨[(0, .rptr (Adj.cells true a_)), (3, .rptr (Adj.cells true a_)), (105, .lst true 1 (Is a_.r.ob)), (106, .val (.int .i64 (a_.r.ob.length : Int))), (107, .val (.int .i64 s37))], [], 0⟩) (Wk.r1 [] (by simp [hP, hhOk, back, Adj.cells, Cat.cells, Fn.cells, Tra.cells, IA, I1, LA, L1, BA, B1, EA, E1, E2, eB, eI, eL])) ?_
   clear h
   intro k37 s37 c37 h hk37
   refine w_seq ?_
   refine w_run mo (by rw [hN]; decide) fun K hK => ?_
   simp [-guardE_b, -Is_at, -Is_at', -Ls_at, -Ls_at', eL, eI, allInts, eP_Adj, eP_Cat, eP_Fn, eP_Tra, Adj.cells, Cat.cells, Fn.cells, Tra.cells]
   repeat (with_reducible refine And.intro ?_ ?_; · first | assumption | omega | (simp; done) | (simp; omega) | simp_all)
   refine hK _ ?_
   clear hK K
   refine tn ?_
   refine w_weak (st' := ⟨[(0, .rptr (Adj.cells true a_)), (3, .rptr (Adj.cells true a_)), (105, .lst true 1 (Is a_.r.ob)), (106, .val (.int .i64 (a_.r.ob.length : Int))), (107, .val (.int .i64 s37)), (108, .val (.bool (decide (s37 < (a_.r.ob.length : Int)))))], [], 0⟩) (Wk.r1 [] (by simp [hP, hhOk, back, Adj.cells, Cat.cells, Fn.cells, Tra.cells, IA, I1, LA, L1, BA, B1, EA, E1, E2, eB, eI, eL])) ?_
   refine w_seq ?_
   refine w_cond rfl (fun g => ?_) fun g => ?_
   · have g38 : s37 < (a_.r.ob.length : Int) := by first | simpa using g | (simp at g; exact g) | (simp at g; omega)
     clear g
     replace h := if_l g38 h
     refine w_skip ?_
     refine tn ?_
     refine w_seq ?_
     refine w_block ?_
     refine w_seq ?_
     refine w_run mo (by rw [hN]; decide) fun K hK => ?_
     replace h := ass_some h
     obtain ⟨a39, h⟩ := h
     simp [-guardE_b, -Is_at, -Is_at', -Ls_at, -Ls_at', eL, eI, allInts, eP_Adj, eP_Cat, eP_Fn, eP_Tra, Adj.cells, Cat.cells, Fn.cells, Tra.cells, at_I a39]
     repeat (with_reducible refine And.intro ?_ ?_; · first | assumption | omega | (simp; done) | (simp; omega) | simp_all)
     refine hK _ ?_
     clear hK K
     refine tn ?_
     refine w_weak (st' := ⟨[(0, .rptr (Adj.cells true a_)), (3, .rptr (Adj.cells true a_)), (13, .val (.int .i64 s37)), (14, .val (.int .i64 (ix a_.r.ob s37))), (105, .lst true 1 (Is a_.r.ob)), (106, .val (.int .i64 (a_.r.ob.length : Int))), (107, .val (.int .i64 s37))], [], 0⟩) (Wk.r1 [] (by simp [hP, hhOk, back, Adj.cells, Cat.cells, Fn.cells, Tra.cells, IA, I1, LA, L1, BA, B1, EA, E1, E2, eB, eI, eL])) ?_
     refine w_seq ?_
     refine w_run mo (by rw [hN]; decide) fun K hK => ?_
     replace h := ass_some h
     obtain ⟨a40, h⟩ := h
     replace h := ass_some h
     obtain ⟨a41, h⟩ := h
     replace h := ass_some h
     obtain ⟨a42, h⟩ := h
     simp [-guardE_b, -Is_at, -Is_at', -Ls_at, -Ls_at', eL, eI, allInts, eP_Adj, eP_Cat, eP_Fn, eP_Tra, Adj.cells, Cat.cells, Fn.cells, Tra.cells, at_I a40, at_I a41, at_I a42]
     repeat (with_reducible refine And.intro ?_ ?_; · first | assumption | omega | (simp; done) | (simp; omega) | simp_all)
     replace h := bind_some h
     obtain ⟨v43, hv43, h⟩ := h
     refine callA_intro (w_i_Category_then _ _ _ v43 hv43) (.cons (.preT (by simp [Adj.cells, Cat.cells, Fn.cells, Tra.cells])) (.cons .val (.cons .val .nil))) ?_
     replace h := ass_some h
     obtain ⟨a44, h⟩ := h
     simp [-guardE_b, -Is_at, -Is_at', -Ls_at, -Ls_at', unk, unA, unE, unT, unC, flat, eL, eI, allInts, eP_Adj, eP_Cat, eP_Fn, eP_Tra, Adj.cells, Cat.cells, Fn.cells, Tra.cells, at_I a40, at_I a41, at_I a42, at_I a44]
     repeat (with_reducible refine And.intro ?_ ?_; · first | assumption | omega | (simp; done) | (simp; omega) | simp_all)
     refine hK _ ?_
     clear hK K
     refine tn ?_
     refine w_weak (st' := ⟨[(0, .rptr (Adj.cells true a_)), (3, .rptr (Adj.cells true a_)), (105, .lst true 1 (Is a_.r.ob)), (106, .val (.int .i64 (a_.r.ob.length : Int))), (107, .val (.int .i64 s37)), (142, .val (.bool (v43 != (ix a_.l.s.id (ix a_.r.ob s37)))))], [], 0⟩) (Wk.r1 [] (by simp [hP, hhOk, back, Adj.cells, Cat.cells, Fn.cells, Tra.cells, IA, I1, LA, L1, BA, B1, EA, E1, E2, eB, eI, eL])) ?_
     refine w_cond rfl (fun g => ?_) fun g => ?_
     · have g45 : ¬ (v43 = (ix a_.l.s.id (ix a_.r.ob s37))) := by first | simpa using g | (simp at g; exact g) | (simp at g; omega)
       clear g
       replace h := if_l g45 h
       refine w_seq ?_
       refine w_run mo (by rw [hN]; decide) fun K hK => ?_
       simp [-guardE_b, -Is_at, -Is_at', -Ls_at, -Ls_at', eL, eI, allInts, eP_Adj, eP_Cat, eP_Fn, eP_Tra, Adj.cells, Cat.cells, Fn.cells, Tra.cells]
       repeat (with_reducible refine And.intro ?_ ?_; · first | assumption | omega | (simp; done) | (simp; omega) | simp_all)
       refine hK _ ?_
       clear hK K
       refine tn ?_
       refine w_weak (st' := ⟨[(2, .val (.bool false))], [], 0⟩) (Wk.r1 [] (by simp [hP, hhOk, back, Adj.cells, Cat.cells, Fn.cells, Tra.cells, IA, I1, LA, L1, BA, B1, EA, E1, E2, eB, eI, eL])) ?_
       refine w_ret ?_
       refine br ?_
       refine tr ?_
       refine lr ?_
       refine br ?_
       refine tr ?_
       cases h
       have q : _ = e27 := hk37
       have h := h27
       rw [← q] at h
       clear q
       try dsimp only at h
       have hr := Option.some.inj h
       rw [← hr]
       refine ⟨_, (.tmp .nil), ?_⟩
       refine ⟨(.one rfl rfl .nil), [.val (.bool false)], [], by simp [Adj.cells, Cat.cells, Fn.cells, Tra.cells, IA, I1, LA, L1, BA, B1, EA, E1, E2, eB, eI, eL], by simp, (UpL.refl _)⟩
     have g45 : ¬ (¬ (v43 = (ix a_.l.s.id (ix a_.r.ob s37)))) := by first | simpa using g | (simp at g; exact g) | (simp at g; omega)
     clear g
     replace h := if_r g45 h
     refine w_skip ?_
     refine bn ?_
     refine tn ?_
     refine w_run mo (by rw [hN]; decide) fun K hK => ?_
     replace h := ass_some h
     obtain ⟨a46, h⟩ := h
     simp [-guardE_b, -Is_at, -Is_at', -Ls_at, -Ls_at', eL, eI, allInts, eP_Adj, eP_Cat, eP_Fn, eP_Tra, Adj.cells, Cat.cells, Fn.cells, Tra.cells, wrap_id a46]
     repeat (with_reducible refine And.intro ?_ ?_; · first | assumption | omega | (simp; done) | (simp; omega) | simp_all)
     refine hK _ ?_
     clear hK K
     cases h
     exact rn (s' := s37 + 1) hk37 (Wk.r1 [] (by simp [hP, hhOk, back, Adj.cells, Cat.cells, Fn.cells, Tra.cells, IA, I1, LA, L1, BA, B1, EA, E1, E2, eB, eI, eL]))
   have g38 : ¬ (s37 < (a_.r.ob.length : Int)) := by first | simpa using g | (simp at g; exact g) | (simp at g; omega)
   clear g
   replace h := if_r g38 h
   refine w_exit ?_
   refine tx ?_
   refine lx ?_
   refine bh ?_
   cases h
   exact jn (b := ()) hk37 (Wk.r1 [] (by simp [hP, hhOk, back, Adj.cells, Cat.cells, Fn.cells, Tra.cells, IA, I1, LA, L1, BA, B1, EA, E1, E2, eB, eI, eL]))
 intro b27 hb27
 have h := h27
 rw [← hb27] at h
 clear h27
 try dsimp only at h
 refine w_seq ?_
 refine w_run mo (by rw [hN]; decide) fun K hK => ?_
 simp [-guardE_b, -Is_at, -Is_at', -Ls_at, -Ls_at', eL, eI, allInts, eP_Adj, eP_Cat, eP_Fn, eP_Tra, Adj.cells, Cat.cells, Fn.cells, Tra.cells]
 repeat (with_reducible refine And.intro ?_ ?_; · first | assumption | omega | (simp; done) | (simp; omega) | simp_all)
 refine hK _ ?_
 clear hK K
 refine tn ?_
 refine w_weak (st' := ⟨[(2, .val (.bool true))], [], 0⟩) (Wk.r1 [] (by simp [hP, hhOk, back, Adj.cells, Cat.cells, Fn.cells, Tra.cells, IA, I1, LA, L1, BA, B1, EA, E1, E2, eB, eI, eL])) ?_
 refine w_ret ?_
 have hr := Option.some.inj h
 rw [← hr]
 refine ⟨_, (.tmp .nil), ?_⟩
 refine ⟨(.one rfl rfl .nil), [.val (.bool true)], [], by simp [Adj.cells, Cat.cells, Fn.cells, Tra.cells, IA, I1, LA, L1, BA, B1, EA, E1, E2, eB, eI, eL], by simp, (UpL.refl _)⟩
end Go.Vc.T

set_option maxRecDepth 100000
set_option linter.unusedSimpArgs false
set_option linter.unusedVariables false
namespace Go.Vc.T
open Go Go.Vc Go.Proofs
noncomputable def s_i_leadBack (f_ : Fn) (g_ : Fn) : Option Bool :=
 (
   (s_i_sameCategory f_.s g_.t).bind fun v2 =>
   if v2 = true then
     (s_i_sameCategory f_.t g_.s).bind fun v4 =>
     some v4
   else
     some false : Option (Bool)).bind fun b1 =>
 some b1
set_option maxHeartbeats 4000000 in
theorem w_i_leadBack (f_ : Fn) (g_ : Fn) (r : Bool) (h : s_i_leadBack f_ g_ = some r) : Contract Try.prog 173 [.rptr (f_.cells true), .rptr (g_.cells true)] (.val (.bool r)) := by
 refine contract_introG (rvs := [.tmp 4]) (rs := [.val (.bool r)]) Try.func173 rfl rfl rfl rfl (by simp [Try.f173]) fun F hN hP => ?_
 unfold s_i_leadBack at h
 refine w_seq ?_
 refine w_run mo (by rw [hN]; decide) fun K hK => ?_
 simp [-guardE_b, -Is_at, -Is_at', -Ls_at, -Ls_at', eL, eI, allInts, eP_Cat, eP_Fn, Cat.cells, Fn.cells]
 repeat (with_reducible refine And.intro ?_ ?_; · first | assumption | omega | (simp; done) | (simp; omega) | simp_all)
 refine hK _ ?_
 clear hK K
 refine tn ?_
 refine w_weak (st' := ⟨[(0, .rptr (Fn.cells true f_)), (1, .rptr (Fn.cells true g_))], [], 0⟩) (Wk.r1 [] (by simp [hP, hhOk, back, Cat.cells, Fn.cells, IA, I1, LA, L1, BA, B1, EA, E1, E2, eB, eI, eL])) ?_
 refine w_seq ?_
 replace h := bind_some h
 obtain ⟨e1, h, h1⟩ := h
 refine w_joinT (fun b1 : Bool => ⟨[(4, .val (.bool b1))], [], 0⟩) (fun b1 => b1 = e1) ?_ ?_
 · refine w_run mo (by rw [hN]; decide) fun K hK => ?_
   simp [-guardE_b, -Is_at, -Is_at', -Ls_at, -Ls_at', eL, eI, allInts, eP_Cat, eP_Fn, Cat.cells, Fn.cells]
   repeat (with_reducible refine And.intro ?_ ?_; · first | assumption | omega | (simp; done) | (simp; omega) | simp_all)
   replace h := bind_some h
   obtain ⟨v2, hv2, h⟩ := h
   refine callA_intro (w_i_sameCategory _ _ v2 hv2) (.cons (.preT (by simp [Cat.cells, Fn.cells])) (.cons (.preT (by simp [Cat.cells, Fn.cells])) .nil)) ?_
   simp [-guardE_b, -Is_at, -Is_at', -Ls_at, -Ls_at', unk, unA, unE, unT, unC, flat, eL, eI, allInts, eP_Cat, eP_Fn, Cat.cells, Fn.cells]
   repeat (with_reducible refine And.intro ?_ ?_; · first | assumption | omega | (simp; done) | (simp; omega) | simp_all)
   refine guard_intro (fun g => ?_) (fun g => ?_)
   · have g3 : v2 = true := by first | simpa using g | (simp at g; exact g) | (simp at g; omega)
     clear g
     replace h := if_l g3 h
     simp [-guardE_b, -Is_at, -Is_at', -Ls_at, -Ls_at', eL, eI, allInts, eP_Cat, eP_Fn, Cat.cells, Fn.cells]
     repeat (with_reducible refine And.intro ?_ ?_; · first | assumption | omega | (simp; done) | (simp; omega) | simp_all)
     replace h := bind_some h
     obtain ⟨v4, hv4, h⟩ := h
     refine callA_intro (w_i_sameCategory _ _ v4 hv4) (.cons (.preT (by simp [Cat.cells, Fn.cells])) (.cons (.preT (by simp [Cat.cells, Fn.cells])) .nil)) ?_
     simp [-guardE_b, -Is_at, -Is_at', -Ls_at, -Ls_at', unk, unA, unE, unT, unC, flat, eL, eI, allInts, eP_Cat, eP_Fn, Cat.cells, Fn.cells]
     repeat (with_reducible refine And.intro ?_ ?_; · first | assumption | omega | (simp; done) | (simp; omega) | simp_all)
     refine hK _ ?_
     exact jn (b := v4) (Option.some.inj h) (Wk.r1 [] (by simp [hP, hhOk, back, Cat.cells, Fn.cells, IA, I1, LA, L1, BA, B1, EA, E1, E2, eB, eI, eL]))
   have g3 : ¬ (v2 = true) := by first | simpa using g | (simp at g; exact g) | (simp at g; omega)
   clear g
   replace h := if_r g3 h
   simp [-guardE_b, -Is_at, -Is_at', -Ls_at, -Ls_at', eL, eI, allInts, eP_Cat, eP_Fn, Cat.cells, Fn.cells]
   repeat (with_reducible refine And.intro ?_ ?_; · first | assumption | omega | (simp; done) | (simp; omega) | simp_all)
   refine hK _ ?_
   exact jn (b := false) (Option.some.inj h) (Wk.r1 [] (by simp [hP, hhOk, back, Cat.cells, Fn.cells, IA, I1, LA, L1, BA, B1, EA, E1, E2, eB, eI, eL]))
 intro b1 hb1
 have h := h1
 rw [← hb1] at h
 clear h1
 try dsimp only at h
 refine w_ret ?_
 have hr := Option.some.inj h
 rw [← hr]
 refine ⟨_, (.tmp .nil), ?_⟩
 refine ⟨(.one rfl rfl .nil), [.val (.bool b1)], [], by simp [Cat.cells, Fn.cells, IA, I1, LA, L1, BA, B1, EA, E1, E2, eB, eI, eL], by simp, (UpL.refl _)⟩
end Go.Vc.T

set_option maxRecDepth 100000
set_option linter.unusedSimpArgs false
set_option linter.unusedVariables false
namespace Go.Vc.T
open Go Go.Vc Go.Proofs
noncomputable def s_i_Adjunction_isAdjunction (a_ : Adj) : Option Bool :=
 (
   (s_i_areFunctors [a_.l, a_.r]).bind fun v2 =>
   if v2 = true then
     (s_i_leadBack a_.l a_.r).bind fun v4 =>
     if v4 = true then
       (s_i_Adjunction_fits a_).bind fun v6 =>
       some v6
     else
       some false
   else
     some false : Option (Bool)).bind fun b1 =>
 some b1
set_option maxHeartbeats 4000000 in
theorem w_i_Adjunction_isAdjunction (a_ : Adj) (r : Bool) (h : s_i_Adjunction_isAdjunction a_ = some r) : Contract Try.prog 79 [.rptr (a_.cells true)] (.val (.bool r)) := by
 refine contract_introG (rvs := [.tmp 2]) (rs := [.val (.bool r)]) Try.func79 rfl rfl rfl rfl (by simp [Try.f79]) fun F hN hP => ?_
 unfold s_i_Adjunction_isAdjunction at h
 refine w_seq ?_
 refine w_run mo (by rw [hN]; decide) fun K hK => ?_
 simp [-guardE_b, -Is_at, -Is_at', -Ls_at, -Ls_at', eL, eI, allInts, eP_Adj, eP_Fn, Adj.cells, Fn.cells]
 repeat (with_reducible refine And.intro ?_ ?_; · first | assumption | omega | (simp; done) | (simp; omega) | simp_all)
 refine hK _ ?_
 clear hK K
 refine tn ?_
 refine w_weak (st' := ⟨[(0, .rptr (Adj.cells true a_))], [], 0⟩) (Wk.r1 [] (by simp [hP, hhOk, back, Adj.cells, Fn.cells, IA, I1, LA, L1, BA, B1, EA, E1, E2, eB, eI, eL])) ?_
 refine w_seq ?_
 replace h := bind_some h
 obtain ⟨e1, h, h1⟩ := h
 refine w_joinT (fun b1 : Bool => ⟨[(2, .val (.bool b1))], [], 0⟩) (fun b1 => b1 = e1) ?_ ?_
 · refine w_run mo (by rw [hN]; decide) fun K hK => ?_
   simp [-guardE_b, -Is_at, -Is_at', -Ls_at, -Ls_at', eL, eI, allInts, eP_Adj, eP_Fn, Adj.cells, Fn.cells]
   repeat (with_reducible refine And.intro ?_ ?_; · first | assumption | omega | (simp; done) | (simp; omega) | simp_all)
   replace h := bind_some h
   obtain ⟨v2, hv2, h⟩ := h
   refine callA_intro (w_i_areFunctors _ v2 hv2) (.cons (.lits (es := _) rfl (.cons rfl (.cons (.preT (by simp [Adj.cells, Fn.cells])) .nil) (.cons rfl (.cons (.preT (by simp [Adj.cells, Fn.cells])) .nil) .nil)) rfl) .nil) ?_
   simp [-guardE_b, -Is_at, -Is_at', -Ls_at, -Ls_at', unk, unA, unE, unT, unC, flat, eL, eI, allInts, eP_Adj, eP_Fn, Adj.cells, Fn.cells]
   repeat (with_reducible refine And.intro ?_ ?_; · first | assumption | omega | (simp; done) | (simp; omega) | simp_all)
   refine guard_intro (fun g => ?_) (fun g => ?_)
   · have g3 : v2 = true := by first | simpa using g | (simp at g; exact g) | (simp at g; omega)
     clear g
     replace h := if_l g3 h
     simp [-guardE_b, -Is_at, -Is_at', -Ls_at, -Ls_at', eL, eI, allInts, eP_Adj, eP_Fn, Adj.cells, Fn.cells]
     repeat (with_reducible refine And.intro ?_ ?_; · first | assumption | omega | (simp; done) | (simp; omega) | simp_all)
     replace h := bind_some h
     obtain ⟨v4, hv4, h⟩ := h
     refine callA_intro (w_i_leadBack _ _ v4 hv4) (.cons (.preT (by simp [Adj.cells, Fn.cells])) (.cons (.preT (by simp [Adj.cells, Fn.cells])) .nil)) ?_
     simp [-guardE_b, -Is_at, -Is_at', -Ls_at, -Ls_at', unk, unA, unE, unT, unC, flat, eL, eI, allInts, eP_Adj, eP_Fn, Adj.cells, Fn.cells]
     repeat (with_reducible refine And.intro ?_ ?_; · first | assumption | omega | (simp; done) | (simp; omega) | simp_all)
     refine guard_intro (fun g => ?_) (fun g => ?_)
     · have g5 : v4 = true := by first | simpa using g | (simp at g; exact g) | (simp at g; omega)
       clear g
       replace h := if_l g5 h
       simp [-guardE_b, -Is_at, -Is_at', -Ls_at, -Ls_at', eL, eI, allInts, eP_Adj, eP_Fn, Adj.cells, Fn.cells]
       repeat (with_reducible refine And.intro ?_ ?_; · first | assumption | omega | (simp; done) | (simp; omega) | simp_all)
       replace h := bind_some h
       obtain ⟨v6, hv6, h⟩ := h
       refine callA_intro (w_i_Adjunction_fits _ v6 hv6) (.cons (.preT (by simp [Adj.cells, Fn.cells])) .nil) ?_
       simp [-guardE_b, -Is_at, -Is_at', -Ls_at, -Ls_at', unk, unA, unE, unT, unC, flat, eL, eI, allInts, eP_Adj, eP_Fn, Adj.cells, Fn.cells]
       repeat (with_reducible refine And.intro ?_ ?_; · first | assumption | omega | (simp; done) | (simp; omega) | simp_all)
       refine hK _ ?_
       exact jn (b := v6) (Option.some.inj h) (Wk.r1 [] (by simp [hP, hhOk, back, Adj.cells, Fn.cells, IA, I1, LA, L1, BA, B1, EA, E1, E2, eB, eI, eL]))
     have g5 : ¬ (v4 = true) := by first | simpa using g | (simp at g; exact g) | (simp at g; omega)
     clear g
     replace h := if_r g5 h
     simp [-guardE_b, -Is_at, -Is_at', -Ls_at, -Ls_at', eL, eI, allInts, eP_Adj, eP_Fn, Adj.cells, Fn.cells]
     repeat (with_reducible refine And.intro ?_ ?_; · first | assumption | omega | (simp; done) | (simp; omega) | simp_all)
     refine hK _ ?_
     exact jn (b := false) (Option.some.inj h) (Wk.r1 [] (by simp [hP, hhOk, back, Adj.cells, Fn.cells, IA, I1, LA, L1, BA, B1, EA, E1, E2, eB, eI, eL]))
   have g3 : ¬ (v2 = true) := by first | simpa using g | (simp at g; exact g) | (simp at g; omega)
   clear g
   replace h := if_r g3 h
   simp [-guardE_b, -Is_at, -Is_at', -Ls_at, -Ls_at', eL, eI, allInts, eP_Adj, eP_Fn, Adj.cells, Fn.cells]
   repeat (with_reducible refine And.intro ?_ ?_; · first | assumption | omega | (simp; done) | (simp; omega) | simp_all)
   refine hK _ ?_
   exact jn (b := false) (Option.some.inj h) (Wk.r1 [] (by simp [hP, hhOk, back, Adj.cells, Fn.cells, IA, I1, LA, L1, BA, B1, EA, E1, E2, eB, eI, eL]))
 intro b1 hb1
 have h := h1
 rw [← hb1] at h
 clear h1
 try dsimp only at h
 refine w_ret ?_
 have hr := Option.some.inj h
 rw [← hr]
 refine ⟨_, (.tmp .nil), ?_⟩
 refine ⟨(.one rfl rfl .nil), [.val (.bool b1)], [], by simp [Adj.cells, Fn.cells, IA, I1, LA, L1, BA, B1, EA, E1, E2, eB, eI, eL], by simp, (UpL.refl _)⟩
end Go.Vc.T

set_option maxRecDepth 100000
set_option linter.unusedSimpArgs false
set_option linter.unusedVariables false
namespace Go.Vc.T
open Go Go.Vc Go.Proofs
noncomputable def s_s_l02Unit (c_ : Cat) (f_ : Int) : Option Bool :=
 ass (0 ≤ f_ ∧ f_ < (c_.fr.length : Int)) <|
 ass (0 ≤ ix c_.fr f_ ∧ ix c_.fr f_ < (c_.id.length : Int)) <|
 some ((ix c_.id (ix c_.fr f_)) == f_)
set_option maxHeartbeats 4000000 in
theorem w_s_l02Unit (c_ : Cat) (f_ : Int) (r : Bool) (h : s_s_l02Unit c_ f_ = some r) : Contract Try.prog 170 [.agg (c_.cells true), .val (.int .i64 f_)] (.val (.bool r)) := by
 refine contract_introG (rvs := [.tmp 4]) (rs := [.val (.bool r)]) Try.func170 rfl rfl rfl rfl (by simp [Try.f170]) fun F hN hP => ?_
 unfold s_s_l02Unit at h
 refine w_seq ?_
 refine w_run mo (by rw [hN]; decide) fun K hK => ?_
 simp [-guardE_b, -Is_at, -Is_at', -Ls_at, -Ls_at', eL, eI, allInts, eP_Cat, Cat.cells]
 repeat (with_reducible refine And.intro ?_ ?_; · first | assumption | omega | (simp; done) | (simp; omega) | simp_all)
 refine hK _ ?_
 clear hK K
 refine tn ?_
 refine w_weak (st' := ⟨[(1, .val (.int .i64 f_)), (2, .adr 0 0 0)], [(0, .mix 5 [(Cat.cells true c_)])], 1⟩) (Wk.r1 [(0, 0)] (by simp [hP, hhOk, back, Cat.cells, IA, I1, LA, L1, BA, B1, EA, E1, E2, eB, eI, eL])) ?_
 refine w_seq ?_
 refine w_run mo (by rw [hN]; decide) fun K hK => ?_
 replace h := ass_some h
 obtain ⟨a1, h⟩ := h
 replace h := ass_some h
 obtain ⟨a2, h⟩ := h
 simp [-guardE_b, -Is_at, -Is_at', -Ls_at, -Ls_at', eL, eI, allInts, eP_Cat, Cat.cells, at_I a1, at_I a2]
 repeat (with_reducible refine And.intro ?_ ?_; · first | assumption | omega | (simp; done) | (simp; omega) | simp_all)
 refine hK _ ?_
 clear hK K
 refine tn ?_
 refine w_weak (st' := ⟨[(4, .val (.bool ((ix c_.id (ix c_.fr f_)) == f_)))], [], 0⟩) (Wk.r1 [] (by simp [hP, hhOk, back, Cat.cells, IA, I1, LA, L1, BA, B1, EA, E1, E2, eB, eI, eL])) ?_
 refine w_ret ?_
 have hr := Option.some.inj h
 rw [← hr]
 refine ⟨_, (.tmp .nil), ?_⟩
 refine ⟨(.one rfl rfl .nil), [.val (.bool ((ix c_.id (ix c_.fr f_)) == f_))], [], by simp [Cat.cells, IA, I1, LA, L1, BA, B1, EA, E1, E2, eB, eI, eL], by simp, (UpL.refl _)⟩
end Go.Vc.T

set_option maxRecDepth 100000
set_option linter.unusedSimpArgs false
set_option linter.unusedVariables false
namespace Go.Vc.T
open Go Go.Vc Go.Proofs
noncomputable def s_s_l15Meets (f_ : Fn) (g_ : Fn) : Option Bool :=
 (
   (s_s_l02Same f_.t g_.s).bind fun v2 =>
   if v2 = true then
     (s_s_l02Same g_.t f_.s).bind fun v4 =>
     some v4
   else
     some false : Option (Bool)).bind fun b1 =>
 some b1
set_option maxHeartbeats 4000000 in
theorem w_s_l15Meets (f_ : Fn) (g_ : Fn) (r : Bool) (h : s_s_l15Meets f_ g_ = some r) : Contract Try.prog 167 [.agg (f_.cells true), .agg (g_.cells true)] (.val (.bool r)) := by
 refine contract_introG (rvs := [.tmp 4]) (rs := [.val (.bool r)]) Try.func167 rfl rfl rfl rfl (by simp [Try.f167]) fun F hN hP => ?_
 unfold s_s_l15Meets at h
 refine w_seq ?_
 refine w_run mo (by rw [hN]; decide) fun K hK => ?_
 simp [-guardE_b, -Is_at, -Is_at', -Ls_at, -Ls_at', eL, eI, allInts, eP_Cat, eP_Fn, Cat.cells, Fn.cells]
 repeat (with_reducible refine And.intro ?_ ?_; · first | assumption | omega | (simp; done) | (simp; omega) | simp_all)
 refine hK _ ?_
 clear hK K
 refine tn ?_
 refine w_weak (st' := ⟨[(2, .adr 0 0 0), (3, .adr 1 0 0)], [(0, .mix 12 [(Fn.cells true f_)]), (1, .mix 12 [(Fn.cells true g_)])], 2⟩) (Wk.r1 [(0, 0), (1, 1)] (by simp [hP, hhOk, back, Cat.cells, Fn.cells, IA, I1, LA, L1, BA, B1, EA, E1, E2, eB, eI, eL])) ?_
 refine w_seq ?_
 replace h := bind_some h
 obtain ⟨e1, h, h1⟩ := h
 refine w_joinT (fun b1 : Bool => ⟨[(4, .val (.bool b1))], [], 0⟩) (fun b1 => b1 = e1) ?_ ?_
 · refine w_run mo (by rw [hN]; decide) fun K hK => ?_
   simp [-guardE_b, -Is_at, -Is_at', -Ls_at, -Ls_at', eL, eI, allInts, eP_Cat, eP_Fn, Cat.cells, Fn.cells]
   repeat (with_reducible refine And.intro ?_ ?_; · first | assumption | omega | (simp; done) | (simp; omega) | simp_all)
   replace h := bind_some h
   obtain ⟨v2, hv2, h⟩ := h
   refine callA_intro (w_s_l02Same _ _ v2 hv2) (.cons (.aggL (.cons .val (.cons .lst (.cons .lst (.cons .lst (.cons .lst .nil)))))) (.cons (.aggL (.cons .val (.cons .lst (.cons .lst (.cons .lst (.cons .lst .nil)))))) .nil)) ?_
   simp [-guardE_b, -Is_at, -Is_at', -Ls_at, -Ls_at', unk, unA, unE, unT, unC, flat, eL, eI, allInts, eP_Cat, eP_Fn, Cat.cells, Fn.cells]
   repeat (with_reducible refine And.intro ?_ ?_; · first | assumption | omega | (simp; done) | (simp; omega) | simp_all)
   refine guard_intro (fun g => ?_) (fun g => ?_)
   · have g3 : v2 = true := by first | simpa using g | (simp at g; exact g) | (simp at g; omega)
     clear g
     replace h := if_l g3 h
     simp [-guardE_b, -Is_at, -Is_at', -Ls_at, -Ls_at', eL, eI, allInts, eP_Cat, eP_Fn, Cat.cells, Fn.cells]
     repeat (with_reducible refine And.intro ?_ ?_; · first | assumption | omega | (simp; done) | (simp; omega) | simp_all)
     replace h := bind_some h
     obtain ⟨v4, hv4, h⟩ := h
     refine callA_intro (w_s_l02Same _ _ v4 hv4) (.cons (.aggL (.cons .val (.cons .lst (.cons .lst (.cons .lst (.cons .lst .nil)))))) (.cons (.aggL (.cons .val (.cons .lst (.cons .lst (.cons .lst (.cons .lst .nil)))))) .nil)) ?_
     simp [-guardE_b, -Is_at, -Is_at', -Ls_at, -Ls_at', unk, unA, unE, unT, unC, flat, eL, eI, allInts, eP_Cat, eP_Fn, Cat.cells, Fn.cells]
     repeat (with_reducible refine And.intro ?_ ?_; · first | assumption | omega | (simp; done) | (simp; omega) | simp_all)
     refine hK _ ?_
     exact jn (b := v4) (Option.some.inj h) (Wk.r1 [] (by simp [hP, hhOk, back, Cat.cells, Fn.cells, IA, I1, LA, L1, BA, B1, EA, E1, E2, eB, eI, eL]))
   have g3 : ¬ (v2 = true) := by first | simpa using g | (simp at g; exact g) | (simp at g; omega)
   clear g
   replace h := if_r g3 h
   simp [-guardE_b, -Is_at, -Is_at', -Ls_at, -Ls_at', eL, eI, allInts, eP_Cat, eP_Fn, Cat.cells, Fn.cells]
   repeat (with_reducible refine And.intro ?_ ?_; · first | assumption | omega | (simp; done) | (simp; omega) | simp_all)
   refine hK _ ?_
   exact jn (b := false) (Option.some.inj h) (Wk.r1 [] (by simp [hP, hhOk, back, Cat.cells, Fn.cells, IA, I1, LA, L1, BA, B1, EA, E1, E2, eB, eI, eL]))
 intro b1 hb1
 have h := h1
 rw [← hb1] at h
 clear h1
 try dsimp only at h
 refine w_ret ?_
 have hr := Option.some.inj h
 rw [← hr]
 refine ⟨_, (.tmp .nil), ?_⟩
 refine ⟨(.one rfl rfl .nil), [.val (.bool b1)], [], by simp [Cat.cells, Fn.cells, IA, I1, LA, L1, BA, B1, EA, E1, E2, eB, eI, eL], by simp, (UpL.refl _)⟩
end Go.Vc.T

set_option maxRecDepth 100000
set_option linter.unusedSimpArgs false
set_option linter.unusedVariables false
namespace Go.Vc.T
open Go Go.Vc Go.Proofs
noncomputable def s_s_l15Is (a_ : Adj) : Option Bool :=
 (
   (s_s_l06Is a_.l).bind fun v2 =>
   if ¬ (v2 = true) then
     some true
   else
     (s_s_l06Is a_.r).bind fun v4 =>
     if ¬ (v4 = true) then
       some true
     else
       (s_s_l15Meets a_.l a_.r).bind fun v6 =>
       some (!v6) : Option (Bool)).bind fun b1 =>
 if b1 = true then
   some false
 else
   (
     (s_s_l06Self a_.l.s).bind fun v9 =>
     (s_s_l06Then a_.l a_.r).bind fun v10 =>
     (s_s_l15Natural v9 v10 a_.u).bind fun v11 =>
     if ¬ (v11 = true) then
       some true
     else
       (s_s_l06Then a_.r a_.l).bind fun v13 =>
       (s_s_l06Self a_.l.t).bind fun v14 =>
       (s_s_l15Natural v13 v14 a_.k).bind fun v15 =>
       some (!v15) : Option (Bool)).bind fun b8 =>
   if b8 = true then
     some false
   else
     (loopF (σ := Int) (ε := Unit ⊕ Bool) (fun s27 =>
       if s27 < a_.l.s.n then
         ass (0 ≤ s27 ∧ s27 < (a_.u.length : Int)) <|
         ass (0 ≤ ix a_.u s27 ∧ ix a_.u s27 < (a_.l.ar.length : Int)) <|
         ass (0 ≤ s27 ∧ s27 < (a_.l.ob.length : Int)) <|
         ass (0 ≤ ix a_.l.ob s27 ∧ ix a_.l.ob s27 < (a_.k.length : Int)) <|
         (s_s_l02Then a_.l.t (ix a_.l.ar (ix a_.u s27)) (ix a_.k (ix a_.l.ob s27))).bind fun v33 =>
         (s_s_l02Unit a_.l.t v33).bind fun v34 =>
         if ¬ (v34 = true) then
           some (Ctl.ret (Sum.inr false))
         else
           ass (B64 (s27 + 1)) <|
           some (Ctl.next (s27 + 1))
       else
         some (Ctl.ret (Sum.inl ()))) fuel 0).bind fun e17 =>
     match e17 with
     | .inl b17 =>
       (loopF (σ := Int) (ε := Unit ⊕ Bool) (fun s47 =>
         if s47 < a_.l.t.n then
           ass (0 ≤ s47 ∧ s47 < (a_.r.ob.length : Int)) <|
           ass (0 ≤ ix a_.r.ob s47 ∧ ix a_.r.ob s47 < (a_.u.length : Int)) <|
           ass (0 ≤ s47 ∧ s47 < (a_.k.length : Int)) <|
           ass (0 ≤ ix a_.k s47 ∧ ix a_.k s47 < (a_.r.ar.length : Int)) <|
           (s_s_l02Then a_.l.s (ix a_.u (ix a_.r.ob s47)) (ix a_.r.ar (ix a_.k s47))).bind fun v53 =>
           (s_s_l02Unit a_.l.s v53).bind fun v54 =>
           if ¬ (v54 = true) then
             some (Ctl.ret (Sum.inr false))
           else
             ass (B64 (s47 + 1)) <|
             some (Ctl.next (s47 + 1))
         else
           some (Ctl.ret (Sum.inl ()))) fuel 0).bind fun e37 =>
       match e37 with
       | .inl b37 =>
         some true
       | .inr p37 =>
         some p37
     | .inr p17 =>
       some p17
set_option maxHeartbeats 4000000 in
theorem w_s_l15Is (a_ : Adj) (r : Bool) (h : s_s_l15Is a_ = some r) : Contract Try.prog 77 [.agg (a_.cells true)] (.val (.bool r)) := by
 refine contract_introG (rvs := [.tmp 2]) (rs := [.val (.bool r)]) Try.func77 rfl rfl rfl rfl (by simp [Try.f77]) fun F hN hP => ?_
 unfold s_s_l15Is at h
 refine w_seq ?_
 refine w_run mo (by rw [hN]; decide) fun K hK => ?_
 simp [-guardE_b, -Is_at, -Is_at', -Ls_at, -Ls_at', eL, eI, allInts, eP_Adj, eP_Cat, eP_Fn, Adj.cells, Cat.cells, Fn.cells]
 repeat (with_reducible refine And.intro ?_ ?_; · first | assumption | omega | (simp; done) | (simp; omega) | simp_all)
 refine hK _ ?_
 clear hK K
 refine tn ?_
 refine w_weak (st' := ⟨[(1, .adr 0 0 0)], [(0, .mix 26 [(Adj.cells true a_)])], 1⟩) (Wk.r1 [(0, 0)] (by simp [hP, hhOk, back, Adj.cells, Cat.cells, Fn.cells, IA, I1, LA, L1, BA, B1, EA, E1, E2, eB, eI, eL])) ?_
 refine w_seq ?_
 refine w_runS mo (by rw [hN]; decide) fun K hK => ?_
 simp [-guardE_b, -Is_at, -Is_at', -Ls_at, -Ls_at', eL, eI, allInts, eP_Adj, eP_Cat, eP_Fn, Adj.cells, Cat.cells, Fn.cells]
 repeat (with_reducible refine And.intro ?_ ?_; · first | assumption | omega | (simp; done) | (simp; omega) | simp_all)
 refine hK _ ?_
 clear hK K
 refine tn ?_
 refine w_weak (st' := ⟨[(1, .adr 0 0 0), (3, .adr 1 0 0), (4, .adr 2 0 0)], [(0, .mix 26 [(Adj.cells true a_)]), (1, .mix 12 [(Fn.cells true a_.l)]), (2, .mix 12 [(Fn.cells true a_.r)])], 3⟩) (Wk.r1 [(0, 0), (1, 1), (2, 2)] (by simp [hP, hhOk, back, Adj.cells, Cat.cells, Fn.cells, IA, I1, LA, L1, BA, B1, EA, E1, E2, eB, eI, eL])) ?_
 refine w_seq ?_
 refine w_seq ?_
 replace h := bind_some h
 obtain ⟨e1, h, h1⟩ := h
 refine w_joinT (fun b1 : Bool => ⟨[(1, .adr 0 0 0), (3, .adr 1 0 0), (4, .adr 2 0 0), (26, .val (.bool b1))], [(0, .mix 26 [(Adj.cells true a_)]), (1, .mix 12 [(Fn.cells true a_.l)]), (2, .mix 12 [(Fn.cells true a_.r)])], 3⟩) (fun b1 => b1 = e1) ?_ ?_
 · refine w_run mo (by rw [hN]; decide) fun K hK => ?_
   simp [-guardE_b, -Is_at, -Is_at', -Ls_at, -Ls_at', eL, eI, allInts, eP_Adj, eP_Cat, eP_Fn, Adj.cells, Cat.cells, Fn.cells]
   repeat (with_reducible refine And.intro ?_ ?_; · first | assumption | omega | (simp; done) | (simp; omega) | simp_all)
   replace h := bind_some h
   obtain ⟨v2, hv2, h⟩ := h
   refine callA_intro (w_s_l06Is _ v2 hv2) (.cons (.aggL (.cons .val (.cons .lst (.cons .lst (.cons .lst (.cons .lst (.cons .val (.cons .lst (.cons .lst (.cons .lst (.cons .lst (.cons .lst (.cons .lst .nil))))))))))))) .nil) ?_
   simp [-guardE_b, -Is_at, -Is_at', -Ls_at, -Ls_at', unk, unA, unE, unT, unC, flat, eL, eI, allInts, eP_Adj, eP_Cat, eP_Fn, Adj.cells, Cat.cells, Fn.cells]
   repeat (with_reducible refine And.intro ?_ ?_; · first | assumption | omega | (simp; done) | (simp; omega) | simp_all)
   refine guard_intro (fun g => ?_) (fun g => ?_)
   · have g3 : ¬ (¬ (v2 = true)) := by first | simpa using g | (simp at g; exact g) | (simp at g; omega)
     clear g
     replace h := if_r g3 h
     simp [-guardE_b, -Is_at, -Is_at', -Ls_at, -Ls_at', eL, eI, allInts, eP_Adj, eP_Cat, eP_Fn, Adj.cells, Cat.cells, Fn.cells]
     repeat (with_reducible refine And.intro ?_ ?_; · first | assumption | omega | (simp; done) | (simp; omega) | simp_all)
     replace h := bind_some h
     obtain ⟨v4, hv4, h⟩ := h
     refine callA_intro (w_s_l06Is _ v4 hv4) (.cons (.aggL (.cons .val (.cons .lst (.cons .lst (.cons .lst (.cons .lst (.cons .val (.cons .lst (.cons .lst (.cons .lst (.cons .lst (.cons .lst (.cons .lst .nil))))))))))))) .nil) ?_
     simp [-guardE_b, -Is_at, -Is_at', -Ls_at, -Ls_at', unk, unA, unE, unT, unC, flat, eL, eI, allInts, eP_Adj, eP_Cat, eP_Fn, Adj.cells, Cat.cells, Fn.cells]
     repeat (with_reducible refine And.intro ?_ ?_; · first | assumption | omega | (simp; done) | (simp; omega) | simp_all)
     refine guard_intro (fun g => ?_) (fun g => ?_)
     · have g5 : ¬ (¬ (v4 = true)) := by first | simpa using g | (simp at g; exact g) | (simp at g; omega)
       clear g
       replace h := if_r g5 h
       simp [-guardE_b, -Is_at, -Is_at', -Ls_at, -Ls_at', eL, eI, allInts, eP_Adj, eP_Cat, eP_Fn, Adj.cells, Cat.cells, Fn.cells]
       repeat (with_reducible refine And.intro ?_ ?_; · first | assumption | omega | (simp; done) | (simp; omega) | simp_all)
       replace h := bind_some h
       obtain ⟨v6, hv6, h⟩ := h
       refine callA_intro (w_s_l15Meets _ _ v6 hv6) (.cons (.aggL (.cons .val (.cons .lst (.cons .lst (.cons .lst (.cons .lst (.cons .val (.cons .lst (.cons .lst (.cons .lst (.cons .lst (.cons .lst (.cons .lst .nil))))))))))))) (.cons (.aggL (.cons .val (.cons .lst (.cons .lst (.cons .lst (.cons .lst (.cons .val (.cons .lst (.cons .lst (.cons .lst (.cons .lst (.cons .lst (.cons .lst .nil))))))))))))) .nil)) ?_
       simp [-guardE_b, -Is_at, -Is_at', -Ls_at, -Ls_at', unk, unA, unE, unT, unC, flat, eL, eI, allInts, eP_Adj, eP_Cat, eP_Fn, Adj.cells, Cat.cells, Fn.cells]
       repeat (with_reducible refine And.intro ?_ ?_; · first | assumption | omega | (simp; done) | (simp; omega) | simp_all)
       refine hK _ ?_
       exact jn (b := !v6) (Option.some.inj h) (Wk.r1 [(0, 0), (1, 1), (2, 2)] (by simp [hP, hhOk, back, Adj.cells, Cat.cells, Fn.cells, IA, I1, LA, L1, BA, B1, EA, E1, E2, eB, eI, eL]))
     have g5 : ¬ (v4 = true) := by first | simpa using g | (simp at g; exact g) | (simp at g; omega)
     clear g
     replace h := if_l g5 h
     simp [-guardE_b, -Is_at, -Is_at', -Ls_at, -Ls_at', eL, eI, allInts, eP_Adj, eP_Cat, eP_Fn, Adj.cells, Cat.cells, Fn.cells]
     repeat (with_reducible refine And.intro ?_ ?_; · first | assumption | omega | (simp; done) | (simp; omega) | simp_all)
     refine hK _ ?_
     exact jn (b := true) (Option.some.inj h) (Wk.r1 [(0, 0), (1, 1), (2, 2)] (by simp [hP, hhOk, back, Adj.cells, Cat.cells, Fn.cells, IA, I1, LA, L1, BA, B1, EA, E1, E2, eB, eI, eL]))
   have g3 : ¬ (v2 = true) := by first | simpa using g | (simp at g; exact g) | (simp at g; omega)
   clear g
   replace h := if_l g3 h
   simp [-guardE_b, -Is_at, -Is_at', -Ls_at, -Ls_at', eL, eI, allInts, eP_Adj, eP_Cat, eP_Fn, Adj.cells, Cat.cells, Fn.cells]
   repeat (with_reducible refine And.intro ?_ ?_; · first | assumption | omega | (simp; done) | (simp; omega) | simp_all)
   refine hK _ ?_
   exact jn (b := true) (Option.some.inj h) (Wk.r1 [(0, 0), (1, 1), (2, 2)] (by simp [hP, hhOk, back, Adj.cells, Cat.cells, Fn.cells, IA, I1, LA, L1, BA, B1, EA, E1, E2, eB, eI, eL]))
 intro b1 hb1
 have h := h1
 rw [← hb1] at h
 clear h1
 try dsimp only at h
 refine w_cond rfl (fun g => ?_) fun g => ?_
 · have g7 : b1 = true := by first | simpa using g | (simp at g; exact g) | (simp at g; omega)
   clear g
   replace h := if_l g7 h
   refine w_seq ?_
   refine w_run mo (by rw [hN]; decide) fun K hK => ?_
   simp [-guardE_b, -Is_at, -Is_at', -Ls_at, -Ls_at', eL, eI, allInts, eP_Adj, eP_Cat, eP_Fn, Adj.cells, Cat.cells, Fn.cells]
   repeat (with_reducible refine And.intro ?_ ?_; · first | assumption | omega | (simp; done) | (simp; omega) | simp_all)
   refine hK _ ?_
   clear hK K
   refine tn ?_
   refine w_weak (st' := ⟨[(2, .val (.bool false))], [], 0⟩) (Wk.r1 [] (by simp [hP, hhOk, back, Adj.cells, Cat.cells, Fn.cells, IA, I1, LA, L1, BA, B1, EA, E1, E2, eB, eI, eL])) ?_
   refine w_ret ?_
   refine tr ?_
   have hr := Option.some.inj h
   rw [← hr]
   refine ⟨_, (.tmp .nil), ?_⟩
   refine ⟨(.one rfl rfl .nil), [.val (.bool false)], [], by simp [Adj.cells, Cat.cells, Fn.cells, IA, I1, LA, L1, BA, B1, EA, E1, E2, eB, eI, eL], by simp, (UpL.refl _)⟩
 have g7 : ¬ (b1 = true) := by first | simpa using g | (simp at g; exact g) | (simp at g; omega)
 clear g
 replace h := if_r g7 h
 refine w_skip ?_
 refine tn ?_
 refine w_seq ?_
 refine w_runS mo (by rw [hN]; decide) fun K hK => ?_
 simp [-guardE_b, -Is_at, -Is_at', -Ls_at, -Ls_at', eL, eI, allInts, eP_Adj, eP_Cat, eP_Fn, Adj.cells, Cat.cells, Fn.cells]
 repeat (with_reducible refine And.intro ?_ ?_; · first | assumption | omega | (simp; done) | (simp; omega) | simp_all)
 refine hK _ ?_
 clear hK K
 refine tn ?_
 refine w_weak (st' := ⟨[(1, .adr 0 0 0), (3, .adr 1 0 0), (4, .adr 2 0 0), (5, .adr 3 0 0), (6, .adr 4 0 0)], [(0, .mix 26 [(Adj.cells true a_)]), (1, .mix 12 [(Fn.cells true a_.l)]), (2, .mix 12 [(Fn.cells true a_.r)]), (3, .mix 5 [(Cat.cells true a_.l.s)]), (4, .mix 5 [(Cat.cells true a_.l.t)])], 5⟩) (Wk.r1 [(0, 0), (1, 1), (2, 2), (3, 3), (4, 4)] (by simp [hP, hhOk, back, Adj.cells, Cat.cells, Fn.cells, IA, I1, LA, L1, BA, B1, EA, E1, E2, eB, eI, eL])) ?_
 refine w_seq ?_
 refine w_seq ?_
 replace h := bind_some h
 obtain ⟨e8, h, h8⟩ := h
 refine w_joinT (fun b8 : Bool => ⟨[(1, .adr 0 0 0), (3, .adr 1 0 0), (4, .adr 2 0 0), (5, .adr 3 0 0), (6, .adr 4 0 0), (50, .val (.bool b8))], [(0, .mix 26 [(Adj.cells true a_)]), (1, .mix 12 [(Fn.cells true a_.l)]), (2, .mix 12 [(Fn.cells true a_.r)]), (3, .mix 5 [(Cat.cells true a_.l.s)]), (4, .mix 5 [(Cat.cells true a_.l.t)])], 5⟩) (fun b8 => b8 = e8) ?_ ?_
 · refine w_run mo (by rw [hN]; decide) fun K hK => ?_
   simp [-guardE_b, -Is_at, -Is_at', -Ls_at, -Ls_at', eL, eI, allInts, eP_Adj, eP_Cat, eP_Fn, Adj.cells, Cat.cells, Fn.cells]
   repeat (with_reducible refine And.intro ?_ ?_; · first | assumption | omega | (simp; done) | (simp; omega) | simp_all)
   replace h := bind_some h
   obtain ⟨v9, hv9, h⟩ := h
   refine callA_intro (w_s_l06Self _ v9 hv9) (.cons (.aggL (.cons .val (.cons .lst (.cons .lst (.cons .lst (.cons .lst .nil)))))) .nil) ?_
   simp [-guardE_b, -Is_at, -Is_at', -Ls_at, -Ls_at', unk, unA, unE, unT, unC, flat, eL, eI, allInts, eP_Adj, eP_Cat, eP_Fn, Adj.cells, Cat.cells, Fn.cells]
   repeat (with_reducible refine And.intro ?_ ?_; · first | assumption | omega | (simp; done) | (simp; omega) | simp_all)
   replace h := bind_some h
   obtain ⟨v10, hv10, h⟩ := h
   refine callA_intro (w_s_l06Then _ _ v10 hv10) (.cons (.aggL (.cons .val (.cons .lst (.cons .lst (.cons .lst (.cons .lst (.cons .val (.cons .lst (.cons .lst (.cons .lst (.cons .lst (.cons .lst (.cons .lst .nil))))))))))))) (.cons (.aggL (.cons .val (.cons .lst (.cons .lst (.cons .lst (.cons .lst (.cons .val (.cons .lst (.cons .lst (.cons .lst (.cons .lst (.cons .lst (.cons .lst .nil))))))))))))) .nil)) ?_
   simp [-guardE_b, -Is_at, -Is_at', -Ls_at, -Ls_at', unk, unA, unE, unT, unC, flat, eL, eI, allInts, eP_Adj, eP_Cat, eP_Fn, Adj.cells, Cat.cells, Fn.cells]
   repeat (with_reducible refine And.intro ?_ ?_; · first | assumption | omega | (simp; done) | (simp; omega) | simp_all)
   replace h := bind_some h
   obtain ⟨v11, hv11, h⟩ := h
   refine callA_intro (w_s_l15Natural _ _ _ v11 hv11) (.cons (.aggL (.cons .val (.cons (.whole (by simp) (by simp) (by simp)) (.cons (.whole (by simp) (by simp) (by simp)) (.cons (.whole (by simp) (by simp) (by simp)) (.cons (.whole (by simp) (by simp) (by simp)) (.cons .val (.cons (.whole (by simp) (by simp) (by simp)) (.cons (.whole (by simp) (by simp) (by simp)) (.cons (.whole (by simp) (by simp) (by simp)) (.cons (.whole (by simp) (by simp) (by simp)) (.cons (.whole (by simp) (by simp) (by simp)) (.cons (.whole (by simp) (by simp) (by simp)) .nil))))))))))))) (.cons (.aggL (.cons .val (.cons (.whole (by simp) (by simp) (by simp)) (.cons (.whole (by simp) (by simp) (by simp)) (.cons (.whole (by simp) (by simp) (by simp)) (.cons (.whole (by simp) (by simp) (by simp)) (.cons .val (.cons (.whole (by simp) (by simp) (by simp)) (.cons (.whole (by simp) (by simp) (by simp)) (.cons (.whole (by simp) (by simp) (by simp)) (.cons (.whole (by simp) (by simp) (by simp)) (.cons (.whole (by simp) (by simp) (by simp)) (.cons (.whole (by simp) (by simp) (by simp)) .nil))))))))))))) (.cons .lst .nil))) ?_
   simp [-guardE_b, -Is_at, -Is_at', -Ls_at, -Ls_at', unk, unA, unE, unT, unC, flat, eL, eI, allInts, eP_Adj, eP_Cat, eP_Fn, Adj.cells, Cat.cells, Fn.cells]
   repeat (with_reducible refine And.intro ?_ ?_; · first | assumption | omega | (simp; done) | (simp; omega) | simp_all)
   refine guard_intro (fun g => ?_) (fun g => ?_)
   · have g12 : ¬ (¬ (v11 = true)) := by first | simpa using g | (simp at g; exact g) | (simp at g; omega)
     clear g
     replace h := if_r g12 h
     simp [-guardE_b, -Is_at, -Is_at', -Ls_at, -Ls_at', eL, eI, allInts, eP_Adj, eP_Cat, eP_Fn, Adj.cells, Cat.cells, Fn.cells]
     repeat (with_reducible refine And.intro ?_ ?_; · first | assumption | omega | (simp; done) | (simp; omega) | simp_all)
     replace h := bind_some h
     obtain ⟨v13, hv13, h⟩ := h
     refine callA_intro (w_s_l06Then _ _ v13 hv13) (.cons (.aggL (.cons .val (.cons .lst (.cons .lst (.cons .lst (.cons .lst (.cons .val (.cons .lst (.cons .lst (.cons .lst (.cons .lst (.cons .lst (.cons .lst .nil))))))))))))) (.cons (.aggL (.cons .val (.cons .lst (.cons .lst (.cons .lst (.cons .lst (.cons .val (.cons .lst (.cons .lst (.cons .lst (.cons .lst (.cons .lst (.cons .lst .nil))))))))))))) .nil)) ?_
     simp [-guardE_b, -Is_at, -Is_at', -Ls_at, -Ls_at', unk, unA, unE, unT, unC, flat, eL, eI, allInts, eP_Adj, eP_Cat, eP_Fn, Adj.cells, Cat.cells, Fn.cells]
     repeat (with_reducible refine And.intro ?_ ?_; · first | assumption | omega | (simp; done) | (simp; omega) | simp_all)
     replace h := bind_some h
     obtain ⟨v14, hv14, h⟩ := h
     refine callA_intro (w_s_l06Self _ v14 hv14) (.cons (.aggL (.cons .val (.cons .lst (.cons .lst (.cons .lst (.cons .lst .nil)))))) .nil) ?_
     simp [-guardE_b, -Is_at, -Is_at', -Ls_at, -Ls_at', unk, unA, unE, unT, unC, flat, eL, eI, allInts, eP_Adj, eP_Cat, eP_Fn, Adj.cells, Cat.cells, Fn.cells]
     repeat (with_reducible refine And.intro ?_ ?_; · first | assumption | omega | (simp; done) | (simp; omega) | simp_all)
     replace h := bind_some h
     obtain ⟨v15, hv15, h⟩ := h
     refine callA_intro (w_s_l15Natural _ _ _ v15 hv15) (.cons (.aggL (.cons .val (.cons (.whole (by simp) (by simp) (by simp)) (.cons (.whole (by simp) (by simp) (by simp)) (.cons (.whole (by simp) (by simp) (by simp)) (.cons (.whole (by simp) (by simp) (by simp)) (.cons .val (.cons (.whole (by simp) (by simp) (by simp)) (.cons (.whole (by simp) (by simp) (by simp)) (.cons (.whole (by simp) (by simp) (by simp)) (.cons (.whole (by simp) (by simp) (by simp)) (.cons (.whole (by simp) (by simp) (by simp)) (.cons (.whole (by simp) (by simp) (by simp)) .nil))))))))))))) (.cons (.aggL (.cons .val (.cons (.whole (by simp) (by simp) (by simp)) (.cons (.whole (by simp) (by simp) (by simp)) (.cons (.whole (by simp) (by simp) (by simp)) (.cons (.whole (by simp) (by simp) (by simp)) (.cons .val (.cons (.whole (by simp) (by simp) (by simp)) (.cons (.whole (by simp) (by simp) (by simp)) (.cons (.whole (by simp) (by simp) (by simp)) (.cons (.whole (by simp) (by simp) (by simp)) (.cons (.whole (by simp) (by simp) (by simp)) (.cons (.whole (by simp) (by simp) (by simp)) .nil))))))))))))) (.cons .lst .nil))) ?_
     simp [-guardE_b, -Is_at, -Is_at', -Ls_at, -Ls_at', unk, unA, unE, unT, unC, flat, eL, eI, allInts, eP_Adj, eP_Cat, eP_Fn, Adj.cells, Cat.cells, Fn.cells]
     repeat (with_reducible refine And.intro ?_ ?_; · first | assumption | omega | (simp; done) | (simp; omega) | simp_all)
     refine hK _ ?_
     exact jn (b := !v15) (Option.some.inj h) (Wk.r1 [(0, 0), (1, 1), (2, 2), (3, 3), (4, 4)] (by simp [hP, hhOk, back, Adj.cells, Cat.cells, Fn.cells, IA, I1, LA, L1, BA, B1, EA, E1, E2, eB, eI, eL]))
   have g12 : ¬ (v11 = true) := by first | simpa using g | (simp at g; exact g) | (simp at g; omega)
   clear g
   replace h := if_l g12 h
   simp [-guardE_b, -Is_at, -Is_at', -Ls_at, -Ls_at', eL, eI, allInts, eP_Adj, eP_Cat, eP_Fn, Adj.cells, Cat.cells, Fn.cells]
   repeat (with_reducible refine And.intro ?_ ?_; · first | assumption | omega | (simp; done) | (simp; omega) | simp_all)
   refine hK _ ?_
   exact jn (b := true) (Option.some.inj h) (Wk.r1 [(0, 0), (1, 1), (2, 2), (3, 3), (4, 4)] (by simp [hP, hhOk, back, Adj.cells, Cat.cells, Fn.cells, IA, I1, LA, L1, BA, B1, EA, E1, E2, eB, eI, eL]))
 intro b8 hb8
 have h := h8
 rw [← hb8] at h
 clear h8
 try dsimp only at h
 refine w_cond rfl (fun g => ?_) fun g => ?_
 · have g16 : b8 = true := by first | simpa using g | (simp at g; exact g) | (simp at g; omega)
   clear g
   replace h := if_l g16 h
   refine w_seq ?_
   refine w_run mo (by rw [hN]; decide) fun K hK => ?_
   simp [-guardE_b, -Is_at, -Is_at', -Ls_at, -Ls_at', eL, eI, allInts, eP_Adj, eP_Cat, eP_Fn, Adj.cells, Cat.cells, Fn.cells]
   repeat (with_reducible refine And.intro ?_ ?_; · first | assumption | omega | (simp; done) | (simp; omega) | simp_all)
   refine hK _ ?_
   clear hK K
   refine tn ?_
   refine w_weak (st' := ⟨[(2, .val (.bool false))], [], 0⟩) (Wk.r1 [] (by simp [hP, hhOk, back, Adj.cells, Cat.cells, Fn.cells, IA, I1, LA, L1, BA, B1, EA, E1, E2, eB, eI, eL])) ?_
   refine w_ret ?_
   refine tr ?_
   have hr := Option.some.inj h
   rw [← hr]
   refine ⟨_, (.tmp .nil), ?_⟩
   refine ⟨(.one rfl rfl .nil), [.val (.bool false)], [], by simp [Adj.cells, Cat.cells, Fn.cells, IA, I1, LA, L1, BA, B1, EA, E1, E2, eB, eI, eL], by simp, (UpL.refl _)⟩
 have g16 : ¬ (b8 = true) := by first | simpa using g | (simp at g; exact g) | (simp at g; omega)
 clear g
 replace h := if_r g16 h
 refine w_skip ?_
 refine tn ?_
 refine w_seq ?_
 refine w_seq ?_
 refine w_run mo (by rw [hN]; decide) fun K hK => ?_
 simp [-guardE_b, -Is_at, -Is_at', -Ls_at, -Ls_at', eL, eI, allInts, eP_Adj, eP_Cat, eP_Fn, Adj.cells, Cat.cells, Fn.cells]
 repeat (with_reducible refine And.intro ?_ ?_; · first | assumption | omega | (simp; done) | (simp; omega) | simp_all)
 refine hK _ ?_
 clear hK K
 refine tn ?_
 refine w_weak (st' := ⟨[(1, .adr 0 0 0), (3, .adr 1 0 0), (4, .adr 2 0 0), (5, .adr 3 0 0), (6, .adr 4 0 0), (7, .val (.int .i64 0))], [(0, .mix 26 [(Adj.cells true a_)]), (1, .mix 12 [(Fn.cells true a_.l)]), (2, .mix 12 [(Fn.cells true a_.r)]), (3, .mix 5 [(Cat.cells true a_.l.s)]), (4, .mix 5 [(Cat.cells true a_.l.t)])], 5⟩) (Wk.r1 [(0, 0), (1, 1), (2, 2), (3, 3), (4, 4)] (by simp [hP, hhOk, back, Adj.cells, Cat.cells, Fn.cells, IA, I1, LA, L1, BA, B1, EA, E1, E2, eB, eI, eL])) ?_
 replace h := bind_some h
 obtain ⟨e17, h, h17⟩ := h
 refine w_joinT (fun b17 : Unit => ⟨[(1, .adr 0 0 0), (4, .adr 1 0 0), (5, .adr 2 0 0), (6, .adr 3 0 0)], [(0, .mix 26 [(Adj.cells true a_)]), (1, .mix 12 [(Fn.cells true a_.r)]), (2, .mix 5 [(Cat.cells true a_.l.s)]), (3, .mix 5 [(Cat.cells true a_.l.t)])], 4⟩) (fun b17 => Sum.inl b17 = e17) ?_ ?_
 · refine w_block ?_
   refine w_loopF h (fun s27 : Int => ⟨[(1, .adr 0 0 0), (3, .adr 1 0 0), (4, .adr 2 0 0), (5, .adr 3 0 0), (6, .adr 4 0 0), (7, .val (.int .i64 s27))], [(0, .mix 26 [(Adj.cells true a_)]), (1, .mix 12 [(Fn.cells true a_.l)]), (2, .mix 12 [(Fn.cells true a_.r)]), (3, .mix 5 [(Cat.cells true a_.l.s)]), (4, .mix 5 [(Cat.cells true a_.l.t)])], 5⟩) (Wk.r1 [(0, 0), (1, 1), (2, 2), (3, 3), (4, 4)] (by simp [hP, hhOk, back, Adj.cells, Cat.cells, Fn.cells, IA, I1, LA, L1, BA, B1, EA, E1, E2, eB, eI, eL])) ?_
   clear h
   intro k27 s27 c27 h hk27
   refine w_seq ?_
   refine w_seq ?_
   refine w_run mo (by rw [hN]; decide) fun K hK => ?_
   simp [-guardE_b, -Is_at, -Is_at', -Ls_at, -Ls_at', eL, eI, allInts, eP_Adj, eP_Cat, eP_Fn, Adj.cells, Cat.cells, Fn.cells]
   repeat (with_reducible refine And.intro ?_ ?_; · first | assumption | omega | (simp; done) | (simp; omega) | simp_all)
   refine hK _ ?_
   clear hK K
   refine tn ?_
   refine w_weak (st' := ⟨[(1, .adr 0 0 0), (3, .adr 1 0 0), (4, .adr 2 0 0), (5, .adr 3 0 0), (6, .adr 4 0 0), (7, .val (.int .i64 s27)), (54, .val (.bool (decide (s27 < a_.l.s.n))))], [(0, .mix 26 [(Adj.cells true a_)]), (1, .mix 12 [(Fn.cells true a_.l)]), (2, .mix 12 [(Fn.cells true a_.r)]), (3, .mix 5 [(Cat.cells true a_.l.s)]), (4, .mix 5 [(Cat.cells true a_.l.t)])], 5⟩) (Wk.r1 [(0, 0), (1, 1), (2, 2), (3, 3), (4, 4)] (by simp [hP, hhOk, back, Adj.cells, Cat.cells, Fn.cells, IA, I1, LA, L1, BA, B1, EA, E1, E2, eB, eI, eL])) ?_
   refine w_cond rfl (fun g => ?_) fun g => ?_
   · have g28 : s27 < a_.l.s.n := by first | simpa using g | (simp at g; exact g) | (simp at g; omega)
     clear g
     replace h := if_l g28 h
     refine w_skip ?_
     refine tn ?_
     refine w_seq ?_
     refine w_block ?_
     refine w_seq ?_
     refine w_run mo (by rw [hN]; decide) fun K hK => ?_
     replace h := ass_some h
     obtain ⟨a29, h⟩ := h
     replace h := ass_some h
     obtain ⟨a30, h⟩ := h
     replace h := ass_some h
     obtain ⟨a31, h⟩ := h
     replace h := ass_some h
     obtain ⟨a32, h⟩ := h
     simp [-guardE_b, -Is_at, -Is_at', -Ls_at, -Ls_at', eL, eI, allInts, eP_Adj, eP_Cat, eP_Fn, Adj.cells, Cat.cells, Fn.cells, at_I a29, at_I a30, at_I a31, at_I a32]
     repeat (with_reducible refine And.intro ?_ ?_; · first | assumption | omega | (simp; done) | (simp; omega) | simp_all)
     replace h := bind_some h
     obtain ⟨v33, hv33, h⟩ := h
     refine callA_intro (w_s_l02Then _ _ _ v33 hv33) (.cons (.aggL (.cons .val (.cons .lst (.cons .lst (.cons .lst (.cons .lst .nil)))))) (.cons .val (.cons .val .nil))) ?_
     simp [-guardE_b, -Is_at, -Is_at', -Ls_at, -Ls_at', unk, unA, unE, unT, unC, flat, eL, eI, allInts, eP_Adj, eP_Cat, eP_Fn, Adj.cells, Cat.cells, Fn.cells, at_I a29, at_I a30, at_I a31, at_I a32]
     repeat (with_reducible refine And.intro ?_ ?_; · first | assumption | omega | (simp; done) | (simp; omega) | simp_all)
     replace h := bind_some h
     obtain ⟨v34, hv34, h⟩ := h
     refine callA_intro (w_s_l02Unit _ _ v34 hv34) (.cons (.aggL (.cons .val (.cons .lst (.cons .lst (.cons .lst (.cons .lst .nil)))))) (.cons .val .nil)) ?_
     simp [-guardE_b, -Is_at, -Is_at', -Ls_at, -Ls_at', unk, unA, unE, unT, unC, flat, eL, eI, allInts, eP_Adj, eP_Cat, eP_Fn, Adj.cells, Cat.cells, Fn.cells, at_I a29, at_I a30, at_I a31, at_I a32]
     repeat (with_reducible refine And.intro ?_ ?_; · first | assumption | omega | (simp; done) | (simp; omega) | simp_all)
     refine hK _ ?_
     clear hK K
     refine tn ?_
     refine w_weak (st' := ⟨[(1, .adr 0 0 0), (3, .adr 1 0 0), (4, .adr 2 0 0), (5, .adr 3 0 0), (6, .adr 4 0 0), (7, .val (.int .i64 s27)), (79, .val (.bool (!v34)))], [(0, .mix 26 [(Adj.cells true a_)]), (1, .mix 12 [(Fn.cells true a_.l)]), (2, .mix 12 [(Fn.cells true a_.r)]), (3, .mix 5 [(Cat.cells true a_.l.s)]), (4, .mix 5 [(Cat.cells true a_.l.t)])], 5⟩) (Wk.r1 [(0, 0), (1, 1), (2, 2), (3, 3), (4, 4)] (by simp [hP, hhOk, back, Adj.cells, Cat.cells, Fn.cells, IA, I1, LA, L1, BA, B1, EA, E1, E2, eB, eI, eL])) ?_
     refine w_cond rfl (fun g => ?_) fun g => ?_
     · have g35 : ¬ (v34 = true) := by first | simpa using g | (simp at g; exact g) | (simp at g; omega)
       clear g
       replace h := if_l g35 h
       refine w_seq ?_
       refine w_run mo (by rw [hN]; decide) fun K hK => ?_
       simp [-guardE_b, -Is_at, -Is_at', -Ls_at, -Ls_at', eL, eI, allInts, eP_Adj, eP_Cat, eP_Fn, Adj.cells, Cat.cells, Fn.cells]
       repeat (with_reducible refine And.intro ?_ ?_; · first | assumption | omega | (simp; done) | (simp; omega) | simp_all)
       refine hK _ ?_
       clear hK K
       refine tn ?_
       refine w_weak (st' := ⟨[(2, .val (.bool false))], [], 0⟩) (Wk.r1 [] (by simp [hP, hhOk, back, Adj.cells, Cat.cells, Fn.cells, IA, I1, LA, L1, BA, B1, EA, E1, E2, eB, eI, eL])) ?_
       refine w_ret ?_
       refine br ?_
       refine tr ?_
       refine lr ?_
       refine br ?_
       refine tr ?_
       cases h
       have q : _ = e17 := hk27
       have h := h17
       rw [← q] at h
       clear q
       try dsimp only at h
       have hr := Option.some.inj h
       rw [← hr]
       refine ⟨_, (.tmp .nil), ?_⟩
       refine ⟨(.one rfl rfl .nil), [.val (.bool false)], [], by simp [Adj.cells, Cat.cells, Fn.cells, IA, I1, LA, L1, BA, B1, EA, E1, E2, eB, eI, eL], by simp, (UpL.refl _)⟩
     have g35 : ¬ (¬ (v34 = true)) := by first | simpa using g | (simp at g; exact g) | (simp at g; omega)
     clear g
     replace h := if_r g35 h
     refine w_skip ?_
     refine bn ?_
     refine tn ?_
     refine w_run mo (by rw [hN]; decide) fun K hK => ?_
     replace h := ass_some h
     obtain ⟨a36, h⟩ := h
     simp [-guardE_b, -Is_at, -Is_at', -Ls_at, -Ls_at', eL, eI, allInts, eP_Adj, eP_Cat, eP_Fn, Adj.cells, Cat.cells, Fn.cells, wrap_id a36]
     repeat (with_reducible refine And.intro ?_ ?_; · first | assumption | omega | (simp; done) | (simp; omega) | simp_all)
     refine hK _ ?_
     clear hK K
     cases h
     exact rn (s' := s27 + 1) hk27 (Wk.r1 [(0, 0), (1, 1), (2, 2), (3, 3), (4, 4)] (by simp [hP, hhOk, back, Adj.cells, Cat.cells, Fn.cells, IA, I1, LA, L1, BA, B1, EA, E1, E2, eB, eI, eL]))
   have g28 : ¬ (s27 < a_.l.s.n) := by first | simpa using g | (simp at g; exact g) | (simp at g; omega)
   clear g
   replace h := if_r g28 h
   refine w_exit ?_
   refine tx ?_
   refine lx ?_
   refine bh ?_
   cases h
   exact jn (b := ()) hk27 (Wk.r1 [(0, 0), (2, 1), (3, 2), (4, 3)] (by simp [hP, hhOk, back, Adj.cells, Cat.cells, Fn.cells, IA, I1, LA, L1, BA, B1, EA, E1, E2, eB, eI, eL]))
 intro b17 hb17
 have h := h17
 rw [← hb17] at h
 clear h17
 try dsimp only at h
 refine w_seq ?_
 refine w_seq ?_
 refine w_run mo (by rw [hN]; decide) fun K hK => ?_
 simp [-guardE_b, -Is_at, -Is_at', -Ls_at, -Ls_at', eL, eI, allInts, eP_Adj, eP_Cat, eP_Fn, Adj.cells, Cat.cells, Fn.cells]
 repeat (with_reducible refine And.intro ?_ ?_; · first | assumption | omega | (simp; done) | (simp; omega) | simp_all)
 refine hK _ ?_
 clear hK K
 refine tn ?_
 refine w_weak (st' := ⟨[(1, .adr 0 0 0), (4, .adr 1 0 0), (5, .adr 2 0 0), (6, .adr 3 0 0), (8, .val (.int .i64 0))], [(0, .mix 26 [(Adj.cells true a_)]), (1, .mix 12 [(Fn.cells true a_.r)]), (2, .mix 5 [(Cat.cells true a_.l.s)]), (3, .mix 5 [(Cat.cells true a_.l.t)])], 4⟩) (Wk.r1 [(0, 0), (1, 1), (2, 2), (3, 3)] (by simp [hP, hhOk, back, Adj.cells, Cat.cells, Fn.cells, IA, I1, LA, L1, BA, B1, EA, E1, E2, eB, eI, eL])) ?_
 replace h := bind_some h
 obtain ⟨e37, h, h37⟩ := h
 refine w_joinT (fun b37 : Unit => ⟨[], [], 0⟩) (fun b37 => Sum.inl b37 = e37) ?_ ?_
 · refine w_block ?_
   refine w_loopF h (fun s47 : Int => ⟨[(1, .adr 0 0 0), (4, .adr 1 0 0), (5, .adr 2 0 0), (6, .adr 3 0 0), (8, .val (.int .i64 s47))], [(0, .mix 26 [(Adj.cells true a_)]), (1, .mix 12 [(Fn.cells true a_.r)]), (2, .mix 5 [(Cat.cells true a_.l.s)]), (3, .mix 5 [(Cat.cells true a_.l.t)])], 4⟩) (Wk.r1 [(0, 0), (1, 1), (2, 2), (3, 3)] (by simp [hP, hhOk, back, Adj.cells, Cat.cells, Fn.cells, IA, I1, LA, L1, BA, B1, EA, E1, E2, eB, eI, eL])) ?_
   clear h
   intro k47 s47 c47 h hk47
   refine w_seq ?_
   refine w_seq ?_
   refine w_run mo (by rw [hN]; decide) fun K hK => ?_
   simp [-guardE_b, -Is_at, -Is_at', -Ls_at, -Ls_at', eL, eI, allInts, eP_Adj, eP_Cat, eP_Fn, Adj.cells, Cat.cells, Fn.cells]
   repeat (with_reducible refine And.intro ?_ ?_; · first | assumption | omega | (simp; done) | (simp; omega) | simp_all)
   refine hK _ ?_
   clear hK K
   refine tn ?_
   refine w_weak (st' := ⟨[(1, .adr 0 0 0), (4, .adr 1 0 0), (5, .adr 2 0 0), (6, .adr 3 0 0), (8, .val (.int .i64 s47)), (83, .val (.bool (decide (s47 < a_.l.t.n))))], [(0, .mix 26 [(Adj.cells true a_)]), (1, .mix 12 [(Fn.cells true a_.r)]), (2, .mix 5 [(Cat.cells true a_.l.s)]), (3, .mix 5 [(Cat.cells true a_.l.t)])], 4⟩) (Wk.r1 [(0, 0), (1, 1), (2, 2), (3, 3)] (by simp [hP, hhOk, back, Adj.cells, Cat.cells, Fn.cells, IA, I1, LA, L1, BA, B1, EA, E1, E2, eB, eI, eL])) ?_
   refine w_cond rfl (fun g => ?_) fun g => ?_
   · have g48 : s47 < a_.l.t.n := by first | simpa using g | (simp at g; exact g) | (simp at g; omega)
     clear g
     replace h := if_l g48 h
     refine w_skip ?_
     refine tn ?_
     refine w_seq ?_
     refine w_block ?_
     refine w_seq ?_
     refine w_run mo (by rw [hN]; decide) fun K hK => ?_
     replace h := ass_some h
     obtain ⟨a49, h⟩ := h
     replace h := ass_some h
     obtain ⟨a50, h⟩ := h
     replace h := ass_some h
     obtain ⟨a51, h⟩ := h
     replace h := ass_some h
     obtain ⟨a52, h⟩ := h
     simp [-guardE_b, -Is_at, -Is_at', -Ls_at, -Ls_at', eL, eI, allInts, eP_Adj, eP_Cat, eP_Fn, Adj.cells, Cat.cells, Fn.cells, at_I a49, at_I a50, at_I a51, at_I a52]
     repeat (with_reducible refine And.intro ?_ ?_; · first | assumption | omega | (simp; done) | (simp; omega) | simp_all)
     replace h := bind_some h
     obtain ⟨v53, hv53, h⟩ := h
     refine callA_intro (w_s_l02Then _ _ _ v53 hv53) (.cons (.aggL (.cons .val (.cons .lst (.cons .lst (.cons .lst (.cons .lst .nil)))))) (.cons .val (.cons .val .nil))) ?_
     simp [-guardE_b, -Is_at, -Is_at', -Ls_at, -Ls_at', unk, unA, unE, unT, unC, flat, eL, eI, allInts, eP_Adj, eP_Cat, eP_Fn, Adj.cells, Cat.cells, Fn.cells, at_I a49, at_I a50, at_I a51, at_I a52]
     repeat (with_reducible refine And.intro ?_ ?_; · first | assumption | omega | (simp; done) | (simp; omega) | simp_all)
     replace h := bind_some h
     obtain ⟨v54, hv54, h⟩ := h
     refine callA_intro (w_s_l02Unit _ _ v54 hv54) (.cons (.aggL (.cons .val (.cons .lst (.cons .lst (.cons .lst (.cons .lst .nil)))))) (.cons .val .nil)) ?_
     simp [-guardE_b, -Is_at, -Is_at', -Ls_at, -Ls_at', unk, unA, unE, unT, unC, flat, eL, eI, allInts, eP_Adj, eP_Cat, eP_Fn, Adj.cells, Cat.cells, Fn.cells, at_I a49, at_I a50, at_I a51, at_I a52]
     repeat (with_reducible refine And.intro ?_ ?_; · first | assumption | omega | (simp; done) | (simp; omega) | simp_all)
     refine hK _ ?_
     clear hK K
     refine tn ?_
     refine w_weak (st' := ⟨[(1, .adr 0 0 0), (4, .adr 1 0 0), (5, .adr 2 0 0), (6, .adr 3 0 0), (8, .val (.int .i64 s47)), (108, .val (.bool (!v54)))], [(0, .mix 26 [(Adj.cells true a_)]), (1, .mix 12 [(Fn.cells true a_.r)]), (2, .mix 5 [(Cat.cells true a_.l.s)]), (3, .mix 5 [(Cat.cells true a_.l.t)])], 4⟩) (Wk.r1 [(0, 0), (1, 1), (2, 2), (3, 3)] (by simp [hP, hhOk, back, Adj.cells, Cat.cells, Fn.cells, IA, I1, LA, L1, BA, B1, EA, E1, E2, eB, eI, eL])) ?_
     refine w_cond rfl (fun g => ?_) fun g => ?_
     · have g55 : ¬ (v54 = true) := by first | simpa using g | (simp at g; exact g) | (simp at g; omega)
       clear g
       replace h := if_l g55 h
       refine w_seq ?_
       refine w_run mo (by rw [hN]; decide) fun K hK => ?_
       simp [-guardE_b, -Is_at, -Is_at', -Ls_at, -Ls_at', eL, eI, allInts, eP_Adj, eP_Cat, eP_Fn, Adj.cells, Cat.cells, Fn.cells]
       repeat (with_reducible refine And.intro ?_ ?_; · first | assumption | omega | (simp; done) | (simp; omega) | simp_all)
       refine hK _ ?_
       clear hK K
       refine tn ?_
       refine w_weak (st' := ⟨[(2, .val (.bool false))], [], 0⟩) (Wk.r1 [] (by simp [hP, hhOk, back, Adj.cells, Cat.cells, Fn.cells, IA, I1, LA, L1, BA, B1, EA, E1, E2, eB, eI, eL])) ?_
       refine w_ret ?_
       refine br ?_
       refine tr ?_
       refine lr ?_
       refine br ?_
       refine tr ?_
       cases h
       have q : _ = e37 := hk47
       have h := h37
       rw [← q] at h
       clear q
       try dsimp only at h
       have hr := Option.some.inj h
       rw [← hr]
       refine ⟨_, (.tmp .nil), ?_⟩
       refine ⟨(.one rfl rfl .nil), [.val (.bool false)], [], by simp [Adj.cells, Cat.cells, Fn.cells, IA, I1, LA, L1, BA, B1, EA, E1, E2, eB, eI, eL], by simp, (UpL.refl _)⟩
     have g55 : ¬ (¬ (v54 = true)) := by first | simpa using g | (simp at g; exact g) | (simp at g; omega)
     clear g
     replace h := if_r g55 h
     refine w_skip ?_
     refine bn ?_
     refine tn ?_
     refine w_run mo (by rw [hN]; decide) fun K hK => ?_
     replace h := ass_some h
     obtain ⟨a56, h⟩ := h
     simp [-guardE_b, -Is_at, -Is_at', -Ls_at, -Ls_at', eL, eI, allInts, eP_Adj, eP_Cat, eP_Fn, Adj.cells, Cat.cells, Fn.cells, wrap_id a56]
     repeat (with_reducible refine And.intro ?_ ?_; · first | assumption | omega | (simp; done) | (simp; omega) | simp_all)
     refine hK _ ?_
     clear hK K
     cases h
     exact rn (s' := s47 + 1) hk47 (Wk.r1 [(0, 0), (1, 1), (2, 2), (3, 3)] (by simp [hP, hhOk, back, Adj.cells, Cat.cells, Fn.cells, IA, I1, LA, L1, BA, B1, EA, E1, E2, eB, eI, eL]))
   have g48 : ¬ (s47 < a_.l.t.n) := by first | simpa using g | (simp at g; exact g) | (simp at g; omega)
   clear g
   replace h := if_r g48 h
   refine w_exit ?_
   refine tx ?_
   refine lx ?_
   refine bh ?_
   cases h
   exact jn (b := ()) hk47 (Wk.r1 [] (by simp [hP, hhOk, back, Adj.cells, Cat.cells, Fn.cells, IA, I1, LA, L1, BA, B1, EA, E1, E2, eB, eI, eL]))
 intro b37 hb37
 have h := h37
 rw [← hb37] at h
 clear h37
 try dsimp only at h
 refine w_seq ?_
 refine w_run mo (by rw [hN]; decide) fun K hK => ?_
 simp [-guardE_b, -Is_at, -Is_at', -Ls_at, -Ls_at', eL, eI, allInts, eP_Adj, eP_Cat, eP_Fn, Adj.cells, Cat.cells, Fn.cells]
 repeat (with_reducible refine And.intro ?_ ?_; · first | assumption | omega | (simp; done) | (simp; omega) | simp_all)
 refine hK _ ?_
 clear hK K
 refine tn ?_
 refine w_weak (st' := ⟨[(2, .val (.bool true))], [], 0⟩) (Wk.r1 [] (by simp [hP, hhOk, back, Adj.cells, Cat.cells, Fn.cells, IA, I1, LA, L1, BA, B1, EA, E1, E2, eB, eI, eL])) ?_
 refine w_ret ?_
 have hr := Option.some.inj h
 rw [← hr]
 refine ⟨_, (.tmp .nil), ?_⟩
 refine ⟨(.one rfl rfl .nil), [.val (.bool true)], [], by simp [Adj.cells, Cat.cells, Fn.cells, IA, I1, LA, L1, BA, B1, EA, E1, E2, eB, eI, eL], by simp, (UpL.refl _)⟩
end Go.Vc.T

set_option maxRecDepth 100000
set_option linter.unusedSimpArgs false
set_option linter.unusedVariables false
namespace Go.Vc.T
open Go Go.Vc Go.Proofs
structure Adj.Pre (a : Adj) : Prop where
 hl : a.l.Is
 hr : a.r.Is
 e1 : a.l.t = a.r.s
 e2 : a.r.t = a.l.s
 n1 : NatT (selfF a.l.s) (thenF a.l a.r) a.u
 n2 : NatT (thenF a.r a.l) (selfF a.l.t) a.k
structure Adj.Is (a : Adj) : Prop where
 pre : a.Pre
 t1 : ∀ x : Nat, x < a.l.ob.length → ix (rx a.l.t.cs (ix a.l.ar (ix a.u x))) (ix a.k (ix a.l.ob x)) = ix a.l.t.id (ix a.l.ob x)
 t2 : ∀ y : Nat, y < a.r.ob.length → ix (rx a.l.s.cs (ix a.u (ix a.r.ob y))) (ix a.r.ar (ix a.k y)) = ix a.l.s.id (ix a.r.ob y)
theorem Adj.Pre.len {a : Adj} (h : a.Pre) : a.u.length = a.l.ob.length ∧ a.k.length = a.r.ob.length ∧ (a.l.ob.length : Int) = a.l.s.n ∧ (a.r.ob.length : Int) = a.l.t.n ∧ a.l.ar.length = a.l.s.fr.length ∧ a.r.ar.length = a.l.t.fr.length ∧ (a.l.s.id.length : Int) = a.l.s.n ∧ (a.l.t.id.length : Int) = a.l.t.n ∧ a.l.s.cs.length = a.l.s.fr.length ∧ a.l.t.cs.length = a.l.t.fr.length ∧ a.l.s.fr.length ≤ 40 ∧ a.l.t.fr.length ≤ 40 ∧ a.l.ob.length ≤ 8 ∧ a.r.ob.length ≤ 8 := by
 have h1 := h.n1.lp
 have h2 := h.n2.lp
 have h3 := h.hl.lo
 have h4 := h.hr.lo
 have h5 := h.hl.la
 have h6 := h.hr.la
 rw [← h.e1] at h4 h6
 simp only [selfF, thenF, iota_length, thenL_length] at h1 h2
 exact ⟨by omega, by omega, h3, h4, h5, h6, h.hl.s.1.li, h.hl.t.1.li, h.hl.s.1.lc, h.hl.t.1.lc, h.hl.s.1.m40, h.hl.t.1.m40, h.hl.lob, h.hr.lob⟩
theorem Adj.Pre.unit {a : Adj} (h : a.Pre) {x : Int} (h0 : 0 ≤ x) (h1 : x < a.l.ob.length) : (0 ≤ ix a.u x ∧ ix a.u x < a.l.s.fr.length) ∧ ix a.l.s.fr (ix a.u x) = x ∧ ix a.l.s.to (ix a.u x) = ix a.r.ob (ix a.l.ob x) := by
 obtain ⟨l1, l2, l3, l4, l5, l6, l7, l8, l9, l10, l11, l12, l13, l14⟩ := h.len
 obtain ⟨i, rfl⟩ : ∃ i : Nat, x = i := ⟨x.toNat, by omega⟩
 have q1 := h.n1.bd i (by omega)
 have q2 := h.n1.ends i (by omega)
 simp only [selfF, thenF] at q1 q2
 rw [ix_iota _ (by omega) (by omega), ix_thenL _ _ (by omega) (by omega)] at q2
 exact ⟨q1, q2⟩
theorem Adj.Pre.co {a : Adj} (h : a.Pre) {y : Int} (h0 : 0 ≤ y) (h1 : y < a.r.ob.length) : (0 ≤ ix a.k y ∧ ix a.k y < a.l.t.fr.length) ∧ ix a.l.t.fr (ix a.k y) = ix a.l.ob (ix a.r.ob y) ∧ ix a.l.t.to (ix a.k y) = y := by
 obtain ⟨l1, l2, l3, l4, l5, l6, l7, l8, l9, l10, l11, l12, l13, l14⟩ := h.len
 obtain ⟨i, rfl⟩ : ∃ i : Nat, y = i := ⟨y.toNat, by omega⟩
 have q1 := h.n2.bd i (by omega)
 have q2 := h.n2.ends i (by omega)
 simp only [selfF, thenF] at q1 q2
 rw [ix_iota _ (by omega) (by omega), ix_thenL _ _ (by omega) (by omega)] at q2
 exact ⟨q1, q2⟩
theorem Adj.Pre.lob {a : Adj} (h : a.Pre) {x : Int} (h0 : 0 ≤ x) (h1 : x < a.l.ob.length) : 0 ≤ ix a.l.ob x ∧ ix a.l.ob x < a.r.ob.length := by
 obtain ⟨l1, l2, l3, l4, _⟩ := h.len
 have := ix_bnd h.hl.ob h0 h1
 omega
theorem Adj.Pre.rob {a : Adj} (h : a.Pre) {y : Int} (h0 : 0 ≤ y) (h1 : y < a.r.ob.length) : 0 ≤ ix a.r.ob y ∧ ix a.r.ob y < a.l.ob.length := by
 obtain ⟨l1, l2, l3, l4, _⟩ := h.len
 have := ix_bnd h.hr.ob h0 h1
 rw [h.e2] at this
 omega
theorem Adj.Pre.lar {a : Adj} (h : a.Pre) {f : Int} (h0 : 0 ≤ f) (h1 : f < a.l.s.fr.length) : (0 ≤ ix a.l.ar f ∧ ix a.l.ar f < a.l.t.fr.length) ∧ ix a.l.t.fr (ix a.l.ar f) = ix a.l.ob (ix a.l.s.fr f) ∧ ix a.l.t.to (ix a.l.ar f) = ix a.l.ob (ix a.l.s.to f) := by
 have hla := h.hl.la
 obtain ⟨i, rfl⟩ : ∃ i : Nat, f = i := ⟨f.toNat, by omega⟩
 exact ⟨h.hl.ar i (by omega), h.hl.ends i (by omega)⟩
theorem Adj.Pre.rar {a : Adj} (h : a.Pre) {f : Int} (h0 : 0 ≤ f) (h1 : f < a.l.t.fr.length) : (0 ≤ ix a.r.ar f ∧ ix a.r.ar f < a.l.s.fr.length) ∧ ix a.l.s.fr (ix a.r.ar f) = ix a.r.ob (ix a.l.t.fr f) ∧ ix a.l.s.to (ix a.r.ar f) = ix a.r.ob (ix a.l.t.to f) := by
 have hra := h.hr.la
 have q1 := h.hr.ar
 have q2 := h.hr.ends
 rw [← h.e1] at hra q2
 rw [h.e2] at q1 q2
 obtain ⟨i, rfl⟩ : ∃ i : Nat, f = i := ⟨f.toNat, by omega⟩
 exact ⟨q1 i (by omega), q2 i (by omega)⟩
theorem Adj.Pre.tri1 {a : Adj} (h : a.Pre) {x : Int} (h0 : 0 ≤ x) (h1 : x < a.l.ob.length) : (0 ≤ ix (rx a.l.t.cs (ix a.l.ar (ix a.u x))) (ix a.k (ix a.l.ob x)) ∧ ix (rx a.l.t.cs (ix a.l.ar (ix a.u x))) (ix a.k (ix a.l.ob x)) < a.l.t.fr.length) ∧ ix a.l.t.fr (ix (rx a.l.t.cs (ix a.l.ar (ix a.u x))) (ix a.k (ix a.l.ob x))) = ix a.l.ob x := by
 obtain ⟨u1, u2, u3⟩ := h.unit h0 h1
 have o1 := h.lob h0 h1
 obtain ⟨k1, k2, k3⟩ := h.co o1.1 o1.2
 obtain ⟨a1, a2, a3⟩ := h.lar u1.1 u1.2
 have := (h.hl.t.1.cell' a1.1 a1.2 k1.1 k1.2).2 (by rw [a3, u3, k2])
 rw [a2, u2] at this
 exact ⟨⟨this.1, this.2.1⟩, this.2.2.1⟩
theorem Adj.Pre.tri2 {a : Adj} (h : a.Pre) {y : Int} (h0 : 0 ≤ y) (h1 : y < a.r.ob.length) : (0 ≤ ix (rx a.l.s.cs (ix a.u (ix a.r.ob y))) (ix a.r.ar (ix a.k y)) ∧ ix (rx a.l.s.cs (ix a.u (ix a.r.ob y))) (ix a.r.ar (ix a.k y)) < a.l.s.fr.length) ∧ ix a.l.s.fr (ix (rx a.l.s.cs (ix a.u (ix a.r.ob y))) (ix a.r.ar (ix a.k y))) = ix a.r.ob y := by
 have o1 := h.rob h0 h1
 obtain ⟨u1, u2, u3⟩ := h.unit o1.1 o1.2
 obtain ⟨k1, k2, k3⟩ := h.co h0 h1
 obtain ⟨a1, a2, a3⟩ := h.rar k1.1 k1.2
 have := (h.hl.s.1.cell' u1.1 u1.2 a1.1 a1.2).2 (by rw [u3, a2, k2])
 rw [u2] at this
 exact ⟨⟨this.1, this.2.1⟩, this.2.2.1⟩
theorem e_l02Unit {c : Cat} (hc : c.Is) {f : Int} (h0 : 0 ≤ f) (h1 : f < c.fr.length) : s_s_l02Unit c f = some (bo (f = ix c.id (ix c.fr f))) := by
 have := hc.1.fr' h0 h1
 unfold s_s_l02Unit
 rw [ass_pos ⟨h0, h1⟩, ass_pos this]
 by_cases h : ix c.id (ix c.fr f) = f
 · rw [bo_pos h.symm]; simp [h]
 rw [bo_neg (fun q => h q.symm)]; simp [h]
theorem e_l15Meets {f g : Fn} : s_s_l15Meets f g = some (bo (f.t = g.s ∧ g.t = f.s)) := by
 unfold s_s_l15Meets s_s_l02Same
 by_cases h1 : f.t = g.s <;> by_cases h2 : g.t = f.s <;> simp [bo, h1, h2]
theorem e_leadBack {f g : Fn} (hf : f.Is) : s_i_leadBack f g = some (bo (f.t = g.s ∧ g.t = f.s)) := by
 unfold s_i_leadBack
 rw [e_sameCat hf.s, e_sameCat hf.t]
 have e : (f.s = g.t) = (g.t = f.s) := propext ⟨Eq.symm, Eq.symm⟩
 by_cases h1 : f.t = g.s <;> by_cases h2 : g.t = f.s <;> simp [bo, e, h1, h2]
theorem para1 {l r : Fn} (hl : l.Is) (hr : r.Is) (e1 : l.t = r.s) (e2 : r.t = l.s) : Para (selfF l.s) (thenF l r) := ⟨self_is hl.s, then_is hl hr e1, rfl, by simp [selfF, thenF, e2]⟩
theorem para2 {l r : Fn} (hl : l.Is) (hr : r.Is) (e1 : l.t = r.s) (e2 : r.t = l.s) : Para (thenF r l) (selfF l.t) := ⟨then_is hr hl e2, self_is hl.t, by simp [selfF, thenF, e1], rfl⟩
theorem e_l15Is (a : Adj) : s_s_l15Is a = some (bo a.Is) := by
 unfold s_s_l15Is
 by_cases h1 : a.l.Is
 case neg => rw [bo_neg (show ¬ a.Is from fun q => h1 q.pre.hl)]; simp [e_l06Is, bo, h1]
 by_cases h2 : a.r.Is
 case neg => rw [bo_neg (show ¬ a.Is from fun q => h2 q.pre.hr)]; simp [e_l06Is, bo, h1, h2]
 by_cases h3 : a.l.t = a.r.s ∧ a.r.t = a.l.s
 case neg => rw [bo_neg (show ¬ a.Is from fun q => h3 ⟨q.pre.e1, q.pre.e2⟩)]; simp [e_l06Is, e_l15Meets, bo_pos h1, bo_pos h2, bo_neg h3]
 obtain ⟨e1, e2⟩ := h3
 simp only [e_l06Is, e_l15Meets, bo_pos h1, bo_pos h2, bo_pos (And.intro e1 e2), Option.bind_some, not_true_eq_false, if_false, Bool.not_true, Bool.false_eq_true, e_l06Self h1.s, e_l06Self h1.t, e_l06Then h1 h2 e1, e_l06Then h2 h1 e2, e_l15Natural (para1 h1 h2 e1 e2), e_l15Natural (para2 h1 h2 e1 e2)]
 by_cases n1 : NatT (selfF a.l.s) (thenF a.l a.r) a.u
 case neg => rw [bo_neg (show ¬ a.Is from fun q => n1 q.pre.n1), bo_neg n1]; simp
 by_cases n2 : NatT (thenF a.r a.l) (selfF a.l.t) a.k
 case neg => rw [bo_neg (show ¬ a.Is from fun q => n2 q.pre.n2), bo_neg n2]; simp [bo_pos n1]
 have hp : a.Pre := ⟨h1, h2, e1, e2, n1, n2⟩
 obtain ⟨l1, l2, l3, l4, l5, l6, l7, l8, l9, l10, l11, l12, l13, l14⟩ := hp.len
 simp only [bo_pos n1, bo_pos n2, Option.bind_some, not_true_eq_false, if_false, Bool.not_true, Bool.false_eq_true]
 refine chk_bind a.l.ob.length (fun x : Nat => ix (rx a.l.t.cs (ix a.l.ar (ix a.u x))) (ix a.k (ix a.l.ob x)) = ix a.l.t.id (ix a.l.ob x)) (eb := Sum.inr false) (eg := Sum.inl ()) (by omega) (fun x hi hq => ?_) (fun x hi hq => ?_) (by simp; try omega) (fun hx => ?_) fun q1 => ?_
 iterate 2
   obtain ⟨u1, u2, u3⟩ := hp.unit (x := x) (by omega) (by omega)
   have o1 := hp.lob (x := x) (by omega) (by omega)
   obtain ⟨k1, k2, k3⟩ := hp.co o1.1 o1.2
   obtain ⟨a1, a2, a3⟩ := hp.lar u1.1 u1.2
   have t1 := hp.tri1 (x := x) (by omega) (by omega)
   have r1 := h1.t.1.row' a1.1 a1.2
   have hu := e_l02Unit h1.t t1.1.1 t1.1.2
   rw [t1.2] at hu
   try rw [hq] at hu
   simp (disch := omega) [ass_pos, B64, e_l02Then, hu, hq, bo]; try omega
 · rw [bo_neg (show ¬ a.Is from fun q => hx q.t1)]
 simp only
 refine chk_bind a.r.ob.length (fun y : Nat => ix (rx a.l.s.cs (ix a.u (ix a.r.ob y))) (ix a.r.ar (ix a.k y)) = ix a.l.s.id (ix a.r.ob y)) (eb := Sum.inr false) (eg := Sum.inl ()) (by omega) (fun x hi hq => ?_) (fun x hi hq => ?_) (by simp; try omega) (fun hx => ?_) fun q2 => ?_
 iterate 2
   have o1 := hp.rob (y := x) (by omega) (by omega)
   obtain ⟨u1, u2, u3⟩ := hp.unit o1.1 o1.2
   obtain ⟨k1, k2, k3⟩ := hp.co (y := x) (by omega) (by omega)
   obtain ⟨a1, a2, a3⟩ := hp.rar k1.1 k1.2
   have t1 := hp.tri2 (y := x) (by omega) (by omega)
   have r1 := h1.s.1.row' u1.1 u1.2
   have hu := e_l02Unit h1.s t1.1.1 t1.1.2
   rw [t1.2] at hu
   try rw [hq] at hu
   simp (disch := omega) [ass_pos, B64, e_l02Then, hu, hq, bo]; try omega
 · rw [bo_neg (show ¬ a.Is from fun q => hx q.t2)]
 rw [bo_pos (show a.Is from ⟨hp, q1, q2⟩)]
theorem tra_is {f g : Fn} {p : List Int} (h : Para f g) : (⟨f, g, p⟩ : Tra).Is ↔ NatT f g p := ⟨fun q => q.n, fun q => ⟨h, q⟩⟩
theorem e_isAdj (a : Adj) : s_i_Adjunction_isAdjunction a = some (bo a.Is) := by
 unfold s_i_Adjunction_isAdjunction
 rw [e_areFunctors _ (by simp)]
 by_cases h : a.l.Is ∧ a.r.Is
 case neg => rw [bo_neg (show ¬ ∀ c ∈ [a.l, a.r], c.Is by simpa using h), bo_neg (show ¬ a.Is from fun q => h ⟨q.pre.hl, q.pre.hr⟩)]; simp
 rw [bo_pos (show ∀ c ∈ [a.l, a.r], c.Is by simpa using h)]
 obtain ⟨h1, h2⟩ := h
 rw [e_leadBack h1]
 by_cases h3 : a.l.t = a.r.s ∧ a.r.t = a.l.s
 case neg => rw [bo_neg h3, bo_neg (show ¬ a.Is from fun q => h3 ⟨q.pre.e1, q.pre.e2⟩)]; simp
 rw [bo_pos h3]
 obtain ⟨e1, e2⟩ := h3
 have key : s_i_Adjunction_fits a = some (bo a.Is) := by
   unfold s_i_Adjunction_fits
   simp only [e_Fthen h1 h2 e1, e_Fthen h2 h1 e2, e_identity h1.s, e_identity h1.t, Option.bind_some]
   rw [e_areNatural _ (by simp)]
   by_cases hn : NatT (selfF a.l.s) (thenF a.l a.r) a.u ∧ NatT (thenF a.r a.l) (selfF a.l.t) a.k
   case neg =>
     rw [bo_neg (show ¬ a.Is from fun q => hn ⟨q.pre.n1, q.pre.n2⟩), bo_neg (show ¬ ∀ t ∈ [(⟨selfF a.l.s, thenF a.l a.r, a.u⟩ : Tra), ⟨thenF a.r a.l, selfF a.l.t, a.k⟩], t.Is from fun q => hn ⟨(tra_is (para1 h1 h2 e1 e2)).1 (q _ (by simp)), (tra_is (para2 h1 h2 e1 e2)).1 (q _ (by simp))⟩)]
     simp
   obtain ⟨n1, n2⟩ := hn
   rw [bo_pos (show ∀ t ∈ [(⟨selfF a.l.s, thenF a.l a.r, a.u⟩ : Tra), ⟨thenF a.r a.l, selfF a.l.t, a.k⟩], t.Is by
     intro t ht
     simp only [List.mem_cons, List.not_mem_nil, or_false] at ht
     rcases ht with rfl | rfl
     · exact (tra_is (para1 h1 h2 e1 e2)).2 n1
     exact (tra_is (para2 h1 h2 e1 e2)).2 n2)]
   have hp : a.Pre := ⟨h1, h2, e1, e2, n1, n2⟩
   obtain ⟨l1, l2, l3, l4, l5, l6, l7, l8, l9, l10, l11, l12, l13, l14⟩ := hp.len
   simp only [Option.bind_some, not_true_eq_false, if_false]
   refine chk_bind a.l.ob.length (fun x : Nat => ix (rx a.l.t.cs (ix a.l.ar (ix a.u x))) (ix a.k (ix a.l.ob x)) = ix a.l.t.id (ix a.l.ob x)) (eb := Sum.inr false) (eg := Sum.inl ()) (by omega) (fun x hi hq => ?_) (fun x hi hq => ?_) (by simp; try omega) (fun hx => ?_) fun q1 => ?_
   iterate 2
     obtain ⟨u1, u2, u3⟩ := hp.unit (x := x) (by omega) (by omega)
     have o1 := hp.lob (x := x) (by omega) (by omega)
     obtain ⟨k1, k2, k3⟩ := hp.co o1.1 o1.2
     obtain ⟨a1, a2, a3⟩ := hp.lar u1.1 u1.2
     have r1 := h1.t.1.row' a1.1 a1.2
     simp (disch := omega) [ass_pos, B64, e_Cthen, hq, hi]; try omega
   · rw [bo_neg (show ¬ a.Is from fun q => hx q.t1)]
   simp only
   refine chk_bind a.r.ob.length (fun y : Nat => ix (rx a.l.s.cs (ix a.u (ix a.r.ob y))) (ix a.r.ar (ix a.k y)) = ix a.l.s.id (ix a.r.ob y)) (eb := Sum.inr false) (eg := Sum.inl ()) (by omega) (fun x hi hq => ?_) (fun x hi hq => ?_) (by simp; try omega) (fun hx => ?_) fun q2 => ?_
   iterate 2
     have o1 := hp.rob (y := x) (by omega) (by omega)
     obtain ⟨u1, u2, u3⟩ := hp.unit o1.1 o1.2
     obtain ⟨k1, k2, k3⟩ := hp.co (y := x) (by omega) (by omega)
     obtain ⟨a1, a2, a3⟩ := hp.rar k1.1 k1.2
     have r1 := h1.s.1.row' u1.1 u1.2
     simp (disch := omega) [ass_pos, B64, e_Cthen, hq, hi]; try omega
   · rw [bo_neg (show ¬ a.Is from fun q => hx q.t2)]
   rw [bo_pos (show a.Is from ⟨hp, q1, q2⟩)]
 simp [key]
end Go.Vc.T

set_option maxRecDepth 100000
set_option linter.unusedSimpArgs false
set_option linter.unusedVariables false
namespace Go.Vc.T
open Go Go.Vc Go.Proofs
noncomputable def s_i_adjunction (f_ : Fn) (g_ : Fn) (unit_ : List Int) (counit_ : List Int) : Option Adj :=
 (s_i_Functor_copy f_).bind fun v1 =>
 (s_i_Functor_copy g_).bind fun v2 =>
 (s_i_clone unit_).bind fun v3 =>
 (s_i_clone counit_).bind fun v4 =>
 some (⟨v1, v2, v3, v4⟩ : Adj)
set_option maxHeartbeats 4000000 in
theorem w_i_adjunction (f_ : Fn) (g_ : Fn) (unit_ : List Int) (counit_ : List Int) (r : Adj) (h : s_i_adjunction f_ g_ unit_ counit_ = some r) : Contract Try.prog 126 [.rptr (f_.cells true), .rptr (g_.cells true), .lst true 1 (Is unit_), .lst true 1 (Is counit_)] (.agg (r.cells true)) := by
 refine contract_introG (rvs := [.cell 8 37]) (rs := [.agg (r.cells true)]) Try.func126 rfl rfl rfl rfl (by simp [Try.f126]) fun F hN hP => ?_
 unfold s_i_adjunction at h
 refine w_seq ?_
 refine w_run mo (by rw [hN]; decide) fun K hK => ?_
 simp [-guardE_b, -Is_at, -Is_at', -Ls_at, -Ls_at', eL, eI, allInts, eP_Adj, eP_Fn, Adj.cells, Fn.cells]
 repeat (with_reducible refine And.intro ?_ ?_; · first | assumption | omega | (simp; done) | (simp; omega) | simp_all)
 refine hK _ ?_
 clear hK K
 refine tn ?_
 refine w_weak (st' := ⟨[(0, .rptr (Fn.cells true f_)), (1, .rptr (Fn.cells true g_)), (2, .lst true 1 (Is unit_)), (3, .lst true 1 (Is counit_)), (8, .adr 0 0 0)], [(0, .mix 26 [[.val (.int .i64 0), .val (.slice none 0 0), .val (.slice none 0 0), .val (.slice none 0 0), .val (.slice none 0 0), .val (.int .i64 0), .val (.slice none 0 0), .val (.slice none 0 0), .val (.slice none 0 0), .val (.slice none 0 0), .val (.slice none 0 0), .val (.slice none 0 0), .val (.int .i64 0), .val (.slice none 0 0), .val (.slice none 0 0), .val (.slice none 0 0), .val (.slice none 0 0), .val (.int .i64 0), .val (.slice none 0 0), .val (.slice none 0 0), .val (.slice none 0 0), .val (.slice none 0 0), .val (.slice none 0 0), .val (.slice none 0 0), .val (.slice none 0 0), .val (.slice none 0 0)]])], 1⟩) (Wk.r1 [(0, 0)] (by simp [hP, hhOk, back, Adj.cells, Fn.cells, IA, I1, LA, L1, BA, B1, EA, E1, E2, eB, eI, eL])) ?_
 refine w_seq ?_
 refine w_run mo (by rw [hN]; decide) fun K hK => ?_
 simp [-guardE_b, -Is_at, -Is_at', -Ls_at, -Ls_at', eL, eI, allInts, eP_Adj, eP_Fn, Adj.cells, Fn.cells]
 repeat (with_reducible refine And.intro ?_ ?_; · first | assumption | omega | (simp; done) | (simp; omega) | simp_all)
 replace h := bind_some h
 obtain ⟨v1, hv1, h⟩ := h
 refine callA_intro (w_i_Functor_copy _ v1 hv1) (.cons (.preT (by simp [Fn.cells])) .nil) ?_
 simp [-guardE_b, -Is_at, -Is_at', -Ls_at, -Ls_at', unk, unA, unE, unT, unC, flat, eL, eI, allInts, eP_Adj, eP_Fn, Adj.cells, Fn.cells]
 repeat (with_reducible refine And.intro ?_ ?_; · first | assumption | omega | (simp; done) | (simp; omega) | simp_all)
 replace h := bind_some h
 obtain ⟨v2, hv2, h⟩ := h
 refine callA_intro (w_i_Functor_copy _ v2 hv2) (.cons (.preT (by simp [Fn.cells])) .nil) ?_
 simp [-guardE_b, -Is_at, -Is_at', -Ls_at, -Ls_at', unk, unA, unE, unT, unC, flat, eL, eI, allInts, eP_Adj, eP_Fn, Adj.cells, Fn.cells]
 repeat (with_reducible refine And.intro ?_ ?_; · first | assumption | omega | (simp; done) | (simp; omega) | simp_all)
 replace h := bind_some h
 obtain ⟨v3, hv3, h⟩ := h
 refine callA_intro (w_i_clone _ v3 hv3) (.cons .lst .nil) ?_
 simp [-guardE_b, -Is_at, -Is_at', -Ls_at, -Ls_at', unk, unA, unE, unT, unC, flat, eL, eI, allInts, eP_Adj, eP_Fn, Adj.cells, Fn.cells]
 repeat (with_reducible refine And.intro ?_ ?_; · first | assumption | omega | (simp; done) | (simp; omega) | simp_all)
 replace h := bind_some h
 obtain ⟨v4, hv4, h⟩ := h
 refine callA_intro (w_i_clone _ v4 hv4) (.cons .lst .nil) ?_
 simp [-guardE_b, -Is_at, -Is_at', -Ls_at, -Ls_at', unk, unA, unE, unT, unC, flat, eL, eI, allInts, eP_Adj, eP_Fn, Adj.cells, Fn.cells]
 repeat (with_reducible refine And.intro ?_ ?_; · first | assumption | omega | (simp; done) | (simp; omega) | simp_all)
 refine hK _ ?_
 clear hK K
 refine tn ?_
 refine w_weak (st' := ⟨[(8, .adr 0 0 0)], [(0, .mix 26 [[.val (.int .i64 v1.s.n), .own 1 0 v1.s.fr.length, .own 2 0 v1.s.to.length, .own 3 0 v1.s.id.length, .own 4 0 v1.s.cs.length, .val (.int .i64 v1.t.n), .own 5 0 v1.t.fr.length, .own 6 0 v1.t.to.length, .own 7 0 v1.t.id.length, .own 8 0 v1.t.cs.length, .own 9 0 v1.ob.length, .own 10 0 v1.ar.length, .val (.int .i64 v2.s.n), .own 11 0 v2.s.fr.length, .own 12 0 v2.s.to.length, .own 13 0 v2.s.id.length, .own 14 0 v2.s.cs.length, .val (.int .i64 v2.t.n), .own 15 0 v2.t.fr.length, .own 16 0 v2.t.to.length, .own 17 0 v2.t.id.length, .own 18 0 v2.t.cs.length, .own 19 0 v2.ob.length, .own 20 0 v2.ar.length, .own 21 0 v3.length, .own 22 0 v4.length]]), (1, .row 1 (Is v1.s.fr)), (2, .row 1 (Is v1.s.to)), (3, .row 1 (Is v1.s.id)), (4, .row 1 (Ls v1.s.cs)), (5, .row 1 (Is v1.t.fr)), (6, .row 1 (Is v1.t.to)), (7, .row 1 (Is v1.t.id)), (8, .row 1 (Ls v1.t.cs)), (9, .row 1 (Is v1.ob)), (10, .row 1 (Is v1.ar)), (11, .row 1 (Is v2.s.fr)), (12, .row 1 (Is v2.s.to)), (13, .row 1 (Is v2.s.id)), (14, .row 1 (Ls v2.s.cs)), (15, .row 1 (Is v2.t.fr)), (16, .row 1 (Is v2.t.to)), (17, .row 1 (Is v2.t.id)), (18, .row 1 (Ls v2.t.cs)), (19, .row 1 (Is v2.ob)), (20, .row 1 (Is v2.ar)), (21, .row 1 (Is v3)), (22, .row 1 (Is v4))], 23⟩) (Wk.r1 [(0, 0), (2, 1), (3, 2), (4, 3), (5, 4), (7, 5), (8, 6), (9, 7), (10, 8), (11, 9), (12, 10), (14, 11), (15, 12), (16, 13), (17, 14), (19, 15), (20, 16), (21, 17), (22, 18), (23, 19), (24, 20), (25, 21), (26, 22)] (by simp [hP, hhOk, back, Adj.cells, Fn.cells, IA, I1, LA, L1, BA, B1, EA, E1, E2, eB, eI, eL])) ?_
 refine w_ret ?_
 have hr := Option.some.inj h
 rw [← hr]
 refine ⟨_, (.cell tf_37 rfl rfl rfl (by simp) (by simp) .nil), ?_⟩
 refine ⟨(.agg rfl .nil), [.val (.int .i64 v1.s.n), .lst true 1 (Is v1.s.fr), .lst true 1 (Is v1.s.to), .lst true 1 (Is v1.s.id), .lst true 1 (Ls v1.s.cs), .val (.int .i64 v1.t.n), .lst true 1 (Is v1.t.fr), .lst true 1 (Is v1.t.to), .lst true 1 (Is v1.t.id), .lst true 1 (Ls v1.t.cs), .lst true 1 (Is v1.ob), .lst true 1 (Is v1.ar), .val (.int .i64 v2.s.n), .lst true 1 (Is v2.s.fr), .lst true 1 (Is v2.s.to), .lst true 1 (Is v2.s.id), .lst true 1 (Ls v2.s.cs), .val (.int .i64 v2.t.n), .lst true 1 (Is v2.t.fr), .lst true 1 (Is v2.t.to), .lst true 1 (Is v2.t.id), .lst true 1 (Ls v2.t.cs), .lst true 1 (Is v2.ob), .lst true 1 (Is v2.ar), .lst true 1 (Is v3), .lst true 1 (Is v4)], [1, 2, 3, 4, 5, 6, 7, 8, 9, 10, 11, 12, 13, 14, 15, 16, 17, 18, 19, 20, 21, 22], by simp [Adj.cells, Fn.cells, IA, I1, LA, L1, BA, B1, EA, E1, E2, eB, eI, eL], by simp, (UpL.refl _)⟩
end Go.Vc.T

set_option maxRecDepth 100000
set_option linter.unusedSimpArgs false
set_option linter.unusedVariables false
namespace Go.Vc.T
open Go Go.Vc Go.Proofs
def tab {α : Type} (n : Nat) (g : Nat → α) : List α := (List.range n).map g
@[simp] theorem tab_length {α : Type} (n : Nat) (g : Nat → α) : (tab n g).length = n := by simp [tab]
theorem tab_succ {α : Type} (n : Nat) (g : Nat → α) : tab (n + 1) g = tab n g ++ [g n] := by simp [tab, List.range_succ]
def zeroF : Fn := ⟨⟨0, [], [], [], []⟩, ⟨0, [], [], [], []⟩, [], []⟩
structure Adj.Two (a b : Adj) : Prop where
 ha : a.Is
 hb : b.Is
 e : a.l.t = b.l.s
end Go.Vc.T

set_option maxRecDepth 100000
set_option linter.unusedSimpArgs false
set_option linter.unusedVariables false
namespace Go.Vc.T
open Go Go.Vc Go.Proofs
noncomputable def s_i_opposite_c1_v147 (f_ : Int) (g_ : Int) (c0_ : Cat) : Option Int :=
 (s_i_Category_then c0_ g_ f_).bind fun v1 =>
 some v1
set_option maxHeartbeats 4000000 in
theorem w_i_opposite_c1_v147 (f_ : Int) (g_ : Int) (c0_ : Cat) (r : Int) (h : s_i_opposite_c1_v147 f_ g_ c0_ = some r) : Contract Try.prog 204 [.val (.int .i64 f_), .val (.int .i64 g_), .rptr [.rptr (Cat.cells true c0_)]] (.val (.int .i64 r)) := by
 refine contract_introG (rvs := [.tmp 5]) (rs := [.val (.int .i64 r)]) Try.func204 rfl rfl rfl rfl (by simp [Try.f204]) fun F hN hP => ?_
 unfold s_i_opposite_c1_v147 at h
 refine w_seq ?_
 refine w_run mo (by rw [hN]; decide) fun K hK => ?_
 simp [-guardE_b, -Is_at, -Is_at', -Ls_at, -Ls_at', eL, eI, allInts, eP_Cat, Cat.cells]
 repeat (with_reducible refine And.intro ?_ ?_; · first | assumption | omega | (simp; done) | (simp; omega) | simp_all)
 refine hK _ ?_
 clear hK K
 refine tn ?_
 refine w_weak (st' := ⟨[(0, .val (.int .i64 f_)), (1, .val (.int .i64 g_)), (2, .rptr [.rptr (Cat.cells true c0_)])], [], 0⟩) (Wk.r1 [] (by simp [hP, hhOk, back, Cat.cells, IA, I1, LA, L1, BA, B1, EA, E1, E2, eB, eI, eL])) ?_
 refine w_seq ?_
 refine w_run mo (by rw [hN]; decide) fun K hK => ?_
 simp [-guardE_b, -Is_at, -Is_at', -Ls_at, -Ls_at', eL, eI, allInts, eP_Cat, Cat.cells]
 repeat (with_reducible refine And.intro ?_ ?_; · first | assumption | omega | (simp; done) | (simp; omega) | simp_all)
 replace h := bind_some h
 obtain ⟨v1, hv1, h⟩ := h
 refine callA_intro (w_i_Category_then _ _ _ v1 hv1) (.cons (.preT (by simp [Cat.cells])) (.cons .val (.cons .val .nil))) ?_
 simp [-guardE_b, -Is_at, -Is_at', -Ls_at, -Ls_at', unk, unA, unE, unT, unC, flat, eL, eI, allInts, eP_Cat, Cat.cells]
 repeat (with_reducible refine And.intro ?_ ?_; · first | assumption | omega | (simp; done) | (simp; omega) | simp_all)
 refine hK _ ?_
 clear hK K
 refine tn ?_
 refine w_weak (st' := ⟨[(5, .val (.int .i64 v1))], [], 0⟩) (Wk.r1 [] (by simp [hP, hhOk, back, Cat.cells, IA, I1, LA, L1, BA, B1, EA, E1, E2, eB, eI, eL])) ?_
 refine w_ret ?_
 have hr := Option.some.inj h
 rw [← hr]
 refine ⟨_, (.tmp .nil), ?_⟩
 refine ⟨(.one rfl rfl .nil), [.val (.int .i64 v1)], [], by simp [Cat.cells, IA, I1, LA, L1, BA, B1, EA, E1, E2, eB, eI, eL], by simp, (UpL.refl _)⟩
end Go.Vc.T

set_option maxRecDepth 100000
set_option linter.unusedSimpArgs false
set_option linter.unusedVariables false
namespace Go.Vc.T
open Go Go.Vc Go.Proofs
noncomputable def s_i_opposite (c_ : Cat) : Option Cat :=
 (s_i_clone c_.to).bind fun v1 =>
 (s_i_clone c_.fr).bind fun v2 =>
 (s_i_clone c_.id).bind fun v3 =>
 (
   (s_i_Category_arrows (⟨c_.n, v1, v2, v3, []⟩ : Cat)).bind fun v5 =>
   ass (0 ≤ v5 ∧ v5 ≤ 1073741824) <|
   (loopF (σ := List (List Int) × Int) (ε := List (List Int)) (fun s36 =>
     if s36.2 < ((List.replicate v5.toNat ([] : List Int)).length : Int) then
       (
         ass (0 ≤ v5 ∧ v5 ≤ 1073741824) <|
         ass (0 ≤ s36.2 ∧ s36.2 < (s36.1.length : Int)) <|
         ass (0 ≤ s36.2 ∧ s36.2 < ((s36.1.set s36.2.toNat (List.replicate v5.toNat 0)).length : Int)) <|
         (loopF (σ := List (List Int) × Int) (ε := List (List Int)) (fun s53 =>
           if s53.2 < ((rx (s36.1.set s36.2.toNat (List.replicate v5.toNat 0)) s36.2).length : Int) then
             (
               ass (0 ≤ s36.2 ∧ s36.2 < (s53.1.length : Int)) <|
               ass (0 ≤ s53.2 ∧ s53.2 < ((rx s53.1 s36.2).length : Int)) <|
               ass (0 ≤ s36.2 ∧ s36.2 < (v2.length : Int)) <|
               ass (0 ≤ s53.2 ∧ s53.2 < (v1.length : Int)) <|
               if (ix v2 s36.2) = (ix v1 s53.2) then
                 ass (0 ≤ s36.2 ∧ s36.2 < ((s53.1.set s36.2.toNat ((rx s53.1 s36.2).set s53.2.toNat (-1))).length : Int)) <|
                 (s_i_opposite_c1_v147 s36.2 s53.2 c_).bind fun v62 =>
                 ass (0 ≤ s53.2 ∧ s53.2 < ((rx (s53.1.set s36.2.toNat ((rx s53.1 s36.2).set s53.2.toNat (-1))) s36.2).length : Int)) <|
                 some ((s53.1.set s36.2.toNat ((rx s53.1 s36.2).set s53.2.toNat (-1))).set s36.2.toNat ((rx (s53.1.set s36.2.toNat ((rx s53.1 s36.2).set s53.2.toNat (-1))) s36.2).set s53.2.toNat v62))
               else
                 some (s53.1.set s36.2.toNat ((rx s53.1 s36.2).set s53.2.toNat (-1))) : Option (List (List Int))).bind fun b55 =>
             ass (B64 (s53.2 + 1)) <|
             some (Ctl.next (b55, s53.2 + 1))
           else
             some (Ctl.ret s53.1)) fuel (s36.1.set s36.2.toNat (List.replicate v5.toNat 0), 0)).bind fun p53 =>
         some p53 : Option (List (List Int))).bind fun b38 =>
       ass (B64 (s36.2 + 1)) <|
       some (Ctl.next (b38, s36.2 + 1))
     else
       some (Ctl.ret s36.1)) fuel (List.replicate v5.toNat ([] : List Int), 0)).bind fun p36 =>
   some p36 : Option (List (List Int))).bind fun v66 =>
 some (⟨c_.n, v1, v2, v3, v66⟩ : Cat)
set_option maxHeartbeats 4000000 in
theorem w_i_opposite (c_ : Cat) (r : Cat) (h : s_i_opposite c_ = some r) : Contract Try.prog 107 [.rptr (c_.cells true)] (.agg (r.cells true)) := by
 refine contract_introG (rvs := [.cell 2 33]) (rs := [.agg (r.cells true)]) Try.func107 rfl rfl rfl rfl (by simp [Try.f107]) fun F hN hP => ?_
 unfold s_i_opposite at h
 refine w_seq ?_
 refine w_run mo (by rw [hN]; decide) fun K hK => ?_
 simp [-guardE_b, -Is_at, -Is_at', -Ls_at, -Ls_at', eL, eI, allInts, eP_Cat, Cat.cells]
 repeat (with_reducible refine And.intro ?_ ?_; · first | assumption | omega | (simp; done) | (simp; omega) | simp_all)
 refine hK _ ?_
 clear hK K
 refine tn ?_
 refine w_weak (st' := ⟨[(1, .adr 0 0 0), (2, .adr 1 0 0)], [(0, .mix 1 [[.rptr (Cat.cells true c_)]]), (1, .mix 5 [[.val (.int .i64 0), .val (.slice none 0 0), .val (.slice none 0 0), .val (.slice none 0 0), .val (.slice none 0 0)]])], 2⟩) (Wk.r1 [(0, 0), (1, 1)] (by simp [hP, hhOk, back, Cat.cells, IA, I1, LA, L1, BA, B1, EA, E1, E2, eB, eI, eL])) ?_
 refine w_seq ?_
 refine w_run mo (by rw [hN]; decide) fun K hK => ?_
 simp [-guardE_b, -Is_at, -Is_at', -Ls_at, -Ls_at', eL, eI, allInts, eP_Cat, Cat.cells]
 repeat (with_reducible refine And.intro ?_ ?_; · first | assumption | omega | (simp; done) | (simp; omega) | simp_all)
 replace h := bind_some h
 obtain ⟨v1, hv1, h⟩ := h
 refine callA_intro (w_i_clone _ v1 hv1) (.cons .lst .nil) ?_
 simp [-guardE_b, -Is_at, -Is_at', -Ls_at, -Ls_at', unk, unA, unE, unT, unC, flat, eL, eI, allInts, eP_Cat, Cat.cells]
 repeat (with_reducible refine And.intro ?_ ?_; · first | assumption | omega | (simp; done) | (simp; omega) | simp_all)
 replace h := bind_some h
 obtain ⟨v2, hv2, h⟩ := h
 refine callA_intro (w_i_clone _ v2 hv2) (.cons .lst .nil) ?_
 simp [-guardE_b, -Is_at, -Is_at', -Ls_at, -Ls_at', unk, unA, unE, unT, unC, flat, eL, eI, allInts, eP_Cat, Cat.cells]
 repeat (with_reducible refine And.intro ?_ ?_; · first | assumption | omega | (simp; done) | (simp; omega) | simp_all)
 replace h := bind_some h
 obtain ⟨v3, hv3, h⟩ := h
 refine callA_intro (w_i_clone _ v3 hv3) (.cons .lst .nil) ?_
 simp [-guardE_b, -Is_at, -Is_at', -Ls_at, -Ls_at', unk, unA, unE, unT, unC, flat, eL, eI, allInts, eP_Cat, Cat.cells]
 repeat (with_reducible refine And.intro ?_ ?_; · first | assumption | omega | (simp; done) | (simp; omega) | simp_all)
 refine hK _ ?_
 clear hK K
 refine tn ?_
 refine w_weak (st' := ⟨[(1, .adr 0 0 0), (2, .adr 1 0 0), (3, .adr 2 0 0)], [(0, .mix 1 [[.rptr (Cat.cells true c_)]]), (1, .mix 5 [[.val (.int .i64 0), .val (.slice none 0 0), .val (.slice none 0 0), .val (.slice none 0 0), .val (.slice none 0 0)]]), (2, .mix 5 [[.val (.int .i64 c_.n), .own 3 0 v1.length, .own 4 0 v2.length, .own 5 0 v3.length, .val (.slice none 0 0)]]), (3, .row 1 (Is v1)), (4, .row 1 (Is v2)), (5, .row 1 (Is v3))], 6⟩) (Wk.r1 [(0, 0), (1, 1), (5, 2), (2, 3), (3, 4), (4, 5)] (by simp [hP, hhOk, back, Cat.cells, IA, I1, LA, L1, BA, B1, EA, E1, E2, eB, eI, eL])) ?_
 refine w_seq ?_
 refine w_runXM [] mo (by rw [hN]; decide) fun K hK => ?_
 simp [-guardE_b, -Is_at, -Is_at', -Ls_at, -Ls_at', eL, eI, allInts, eP_Cat, Cat.cells]
 repeat (with_reducible refine And.intro ?_ ?_; · first | assumption | omega | (simp; done) | (simp; omega) | simp_all)
 replace h := bind_some h
 obtain ⟨v66, hv66, h⟩ := h
 refine callX_in (fz := []) (icon_introW (ts := []) (e := { v := .tup [], set := [(2, .mix 5 [[.val (.int .i64 c_.n), .own 3 0 v1.length, .own 4 0 v2.length, .own 5 0 v3.length, .own 6 0 v66.length]])], del := [], new := [(6, .row 1 (Ls v66))], cnt := 1 }) Try.func203 rfl rfl rfl (by simp [Try.f203]) (by simp) (fineI (by simp)) (newI (by rfl)) fun F hN hP => ?_) ?_
 · clear h
   have h := hv66
   clear hv66
   refine w_seq ?_
   refine w_runX [] mo (by rw [hN]; decide) fun K hK => ?_
   simp [-guardE_b, -Is_at, -Is_at', -Ls_at, -Ls_at', eL, eI, allInts, eP_Cat, Cat.cells]
   repeat (with_reducible refine And.intro ?_ ?_; · first | assumption | omega | (simp; done) | (simp; omega) | simp_all)
   replace h := bind_some h
   obtain ⟨v5, hv5, h⟩ := h
   refine callX_intro (fz := []) (w_i_Category_arrows _ v5 hv5) (.cons (.field rfl (by simp [Cat.cells]) (.cons .val (.cons (.whole (by simp) (by simp) (by simp)) (.cons (.whole (by simp) (by simp) (by simp)) (.cons (.whole (by simp) (by simp) (by simp)) (.cons .nil .nil)))))) .nil) ?_
   simp [-guardE_b, -Is_at, -Is_at', -Ls_at, -Ls_at', unk, unA, unE, unT, unC, flat, eL, eI, allInts, eP_Cat, Cat.cells]
   repeat (with_reducible refine And.intro ?_ ?_; · first | assumption | omega | (simp; done) | (simp; omega) | simp_all)
   refine hK _ ?_
   clear hK K
   refine tn ?_
   refine w_weak (st' := ⟨[(0, .adr 2 0 0), (1, .fn 204 [.adr 0 0 0]), (4, .val (.int .i64 v5))], [(0, .mix 1 [[.rptr (Cat.cells true c_)]]), (1, .mix 5 [[.val (.int .i64 0), .val (.slice none 0 0), .val (.slice none 0 0), .val (.slice none 0 0), .val (.slice none 0 0)]]), (2, .mix 5 [[.val (.int .i64 c_.n), .own 3 0 v1.length, .own 4 0 v2.length, .own 5 0 v3.length, .val (.slice none 0 0)]]), (3, .row 1 (Is v1)), (4, .row 1 (Is v2)), (5, .row 1 (Is v3))], 6⟩) (Wk.rP _ [(0, 0), (1, 1), (2, 2), (3, 3), (4, 4), (5, 5)] hP (by rfl) (by simp [hhOk, back, Cat.cells, IA, I1, LA, L1, BA, B1, EA, E1, E2, eB, eI, eL])) ?_
   refine w_seq ?_
   refine w_runX [11] mo (by rw [hN]; decide) fun K hK => ?_
   replace h := ass_some h
   obtain ⟨a6, h⟩ := h
   simp [-guardE_b, -Is_at, -Is_at', -Ls_at, -Ls_at', eL, eI, allInts, eP_Cat, Cat.cells]
   repeat (with_reducible refine And.intro ?_ ?_; · first | assumption | omega | (simp; done) | (simp; omega) | simp_all)
   refine hK _ ?_
   clear hK K
   refine tn ?_
   refine w_weak (st' := ⟨[(0, .adr 2 0 0), (1, .fn 204 [.adr 0 0 0]), (4, .val (.int .i64 v5))], [(0, .mix 1 [[.rptr (Cat.cells true c_)]]), (1, .mix 5 [[.val (.int .i64 0), .val (.slice none 0 0), .val (.slice none 0 0), .val (.slice none 0 0), .val (.slice none 0 0)]]), (2, .mix 5 [[.val (.int .i64 c_.n), .own 3 0 v1.length, .own 4 0 v2.length, .own 5 0 v3.length, .own 6 0 ((List.replicate v5.toNat ([] : List Int)).length)]]), (3, .row 1 (Is v1)), (4, .row 1 (Is v2)), (5, .row 1 (Is v3)), (6, .row 1 (Ls (List.replicate v5.toNat ([] : List Int))))], 7⟩) (Wk.rP _ [(0, 0), (1, 1), (2, 2), (3, 3), (4, 4), (5, 5), (6, 6)] hP (by rfl) (by simp [hhOk, back, Cat.cells, IA, I1, LA, L1, BA, B1, EA, E1, E2, eB, eI, eL])) ?_
   refine w_seq ?_
   refine w_runX [] mo (by rw [hN]; decide) fun K hK => ?_
   simp [-guardE_b, -Is_at, -Is_at', -Ls_at, -Ls_at', eL, eI, allInts, eP_Cat, Cat.cells]
   repeat (with_reducible refine And.intro ?_ ?_; · first | assumption | omega | (simp; done) | (simp; omega) | simp_all)
   refine hK _ ?_
   clear hK K
   refine tn ?_
   refine w_weak (st' := ⟨[(0, .adr 2 0 0), (1, .fn 204 [.adr 0 0 0]), (4, .val (.int .i64 v5)), (18, .val (.int .i64 ((List.replicate v5.toNat ([] : List Int)).length : Int))), (19, .val (.int .i64 0))], [(0, .mix 1 [[.rptr (Cat.cells true c_)]]), (1, .mix 5 [[.val (.int .i64 0), .val (.slice none 0 0), .val (.slice none 0 0), .val (.slice none 0 0), .val (.slice none 0 0)]]), (2, .mix 5 [[.val (.int .i64 c_.n), .own 3 0 v1.length, .own 4 0 v2.length, .own 5 0 v3.length, .own 6 0 ((List.replicate v5.toNat ([] : List Int)).length)]]), (3, .row 1 (Is v1)), (4, .row 1 (Is v2)), (5, .row 1 (Is v3)), (6, .row 1 (Ls (List.replicate v5.toNat ([] : List Int))))], 7⟩) (Wk.rP _ [(0, 0), (1, 1), (2, 2), (3, 3), (4, 4), (5, 5), (6, 6)] hP (by rfl) (by simp [hhOk, back, Cat.cells, IA, I1, LA, L1, BA, B1, EA, E1, E2, eB, eI, eL])) ?_
   refine w_block ?_
   replace h := bind_some h
   obtain ⟨e36, he36, h36⟩ := h
   refine w_loopF he36 (fun s36 : List (List Int) × Int => ⟨[(0, .adr 2 0 0), (1, .fn 204 [.adr 0 0 0]), (4, .val (.int .i64 v5)), (18, .val (.int .i64 ((List.replicate v5.toNat ([] : List Int)).length : Int))), (19, .val (.int .i64 s36.2))], [(0, .mix 1 [[.rptr (Cat.cells true c_)]]), (1, .mix 5 [[.val (.int .i64 0), .val (.slice none 0 0), .val (.slice none 0 0), .val (.slice none 0 0), .val (.slice none 0 0)]]), (2, .mix 5 [[.val (.int .i64 c_.n), .own 3 0 v1.length, .own 4 0 v2.length, .own 5 0 v3.length, .own 6 0 s36.1.length]]), (3, .row 1 (Is v1)), (4, .row 1 (Is v2)), (5, .row 1 (Is v3)), (6, .row 1 (Ls s36.1))], 7⟩) (Wk.rP _ [(0, 0), (1, 1), (2, 2), (3, 3), (4, 4), (5, 5), (6, 6)] hP (by rfl) (by simp [hhOk, back, Cat.cells, IA, I1, LA, L1, BA, B1, EA, E1, E2, eB, eI, eL])) ?_
   intro k36 s36 c36 h hk36
   refine w_seq ?_
   refine w_runX [] mo (by rw [hN]; decide) fun K hK => ?_
   simp [-guardE_b, -Is_at, -Is_at', -Ls_at, -Ls_at', eL, eI, allInts, eP_Cat, Cat.cells]
   repeat (with_reducible refine And.intro ?_ ?_; · first | assumption | omega | (simp; done) | (simp; omega) | simp_all)
   refine hK _ ?_
   clear hK K
   refine tn ?_
   refine w_weak (st' := ⟨[(0, .adr 2 0 0), (1, .fn 204 [.adr 0 0 0]), (4, .val (.int .i64 v5)), (18, .val (.int .i64 ((List.replicate v5.toNat ([] : List Int)).length : Int))), (19, .val (.int .i64 s36.2)), (20, .val (.bool (decide (s36.2 < ((List.replicate v5.toNat ([] : List Int)).length : Int)))))], [(0, .mix 1 [[.rptr (Cat.cells true c_)]]), (1, .mix 5 [[.val (.int .i64 0), .val (.slice none 0 0), .val (.slice none 0 0), .val (.slice none 0 0), .val (.slice none 0 0)]]), (2, .mix 5 [[.val (.int .i64 c_.n), .own 3 0 v1.length, .own 4 0 v2.length, .own 5 0 v3.length, .own 6 0 s36.1.length]]), (3, .row 1 (Is v1)), (4, .row 1 (Is v2)), (5, .row 1 (Is v3)), (6, .row 1 (Ls s36.1))], 7⟩) (Wk.rP _ [(0, 0), (1, 1), (2, 2), (3, 3), (4, 4), (5, 5), (6, 6)] hP (by rfl) (by simp [hhOk, back, Cat.cells, IA, I1, LA, L1, BA, B1, EA, E1, E2, eB, eI, eL])) ?_
   refine w_seq ?_
   refine w_cond rfl (fun g => ?_) fun g => ?_
   · have g37 : s36.2 < ((List.replicate v5.toNat ([] : List Int)).length : Int) := by first | simpa using g | (simp at g; exact g) | (simp at g; omega)
     clear g
     replace h := if_l g37 h
     refine w_skip ?_
     refine tn ?_
     refine w_seq ?_
     replace h := bind_some h
     obtain ⟨e38, h, h38⟩ := h
     refine w_joinT (fun b38 : List (List Int) => ⟨[(0, .adr 2 0 0), (1, .fn 204 [.adr 0 0 0]), (4, .val (.int .i64 v5)), (18, .val (.int .i64 ((List.replicate v5.toNat ([] : List Int)).length : Int))), (19, .val (.int .i64 s36.2))], [(0, .mix 1 [[.rptr (Cat.cells true c_)]]), (1, .mix 5 [[.val (.int .i64 0), .val (.slice none 0 0), .val (.slice none 0 0), .val (.slice none 0 0), .val (.slice none 0 0)]]), (2, .mix 5 [[.val (.int .i64 c_.n), .own 3 0 v1.length, .own 4 0 v2.length, .own 5 0 v3.length, .own 6 0 b38.length]]), (3, .row 1 (Is v1)), (4, .row 1 (Is v2)), (5, .row 1 (Is v3)), (6, .row 1 (Ls b38))], 7⟩) (fun b38 => b38 = e38) ?_ ?_
     · refine w_block ?_
       refine w_seq ?_
       refine w_runX [] mo (by rw [hN]; decide) fun K hK => ?_
       simp [-guardE_b, -Is_at, -Is_at', -Ls_at, -Ls_at', eL, eI, allInts, eP_Cat, Cat.cells]
       repeat (with_reducible refine And.intro ?_ ?_; · first | assumption | omega | (simp; done) | (simp; omega) | simp_all)
       refine hK _ ?_
       clear hK K
       refine tn ?_
       refine w_weak (st' := ⟨[(0, .adr 2 0 0), (1, .fn 204 [.adr 0 0 0]), (4, .val (.int .i64 v5)), (5, .val (.int .i64 s36.2)), (18, .val (.int .i64 ((List.replicate v5.toNat ([] : List Int)).length : Int))), (19, .val (.int .i64 s36.2))], [(0, .mix 1 [[.rptr (Cat.cells true c_)]]), (1, .mix 5 [[.val (.int .i64 0), .val (.slice none 0 0), .val (.slice none 0 0), .val (.slice none 0 0), .val (.slice none 0 0)]]), (2, .mix 5 [[.val (.int .i64 c_.n), .own 3 0 v1.length, .own 4 0 v2.length, .own 5 0 v3.length, .own 6 0 s36.1.length]]), (3, .row 1 (Is v1)), (4, .row 1 (Is v2)), (5, .row 1 (Is v3)), (6, .row 1 (Ls s36.1))], 7⟩) (Wk.rP _ [(0, 0), (1, 1), (2, 2), (3, 3), (4, 4), (5, 5), (6, 6)] hP (by rfl) (by simp [hhOk, back, Cat.cells, IA, I1, LA, L1, BA, B1, EA, E1, E2, eB, eI, eL])) ?_
       refine w_seq ?_
       refine w_runX [] mo (by rw [hN]; decide) fun K hK => ?_
       replace h := ass_some h
       obtain ⟨a39, h⟩ := h
       replace h := ass_some h
       obtain ⟨a40, h⟩ := h
       simp [-guardE_b, -Is_at, -Is_at', -Ls_at, -Ls_at', eL, eI, allInts, eP_Cat, Cat.cells, at_L a40]
       repeat (with_reducible refine And.intro ?_ ?_; · first | assumption | omega | (simp; done) | (simp; omega) | simp_all)
       refine stoX_row (fz := []) [] tf_22 rfl (b := .lst true 1 (Is (List.replicate v5.toNat 0))) (ds := [7]) (es2 := Ls (s36.1.set s36.2.toNat (List.replicate v5.toNat 0))) rfl (by simp) (by first | (simp; done) | (simp; omega) | omega) (by simp) (by simp) (by simp) (by simp) Ls_st ?_
       simp [-guardE_b, -Is_at, -Is_at', -Ls_at, -Ls_at', eL, eI, allInts, eP_Cat, Cat.cells, at_L a40]
       repeat (with_reducible refine And.intro ?_ ?_; · first | assumption | omega | (simp; done) | (simp; omega) | simp_all)
       refine hK _ ?_
       clear hK K
       refine tn ?_
       refine w_weak (st' := ⟨[(0, .adr 2 0 0), (1, .fn 204 [.adr 0 0 0]), (4, .val (.int .i64 v5)), (5, .val (.int .i64 s36.2)), (18, .val (.int .i64 ((List.replicate v5.toNat ([] : List Int)).length : Int))), (19, .val (.int .i64 s36.2))], [(0, .mix 1 [[.rptr (Cat.cells true c_)]]), (1, .mix 5 [[.val (.int .i64 0), .val (.slice none 0 0), .val (.slice none 0 0), .val (.slice none 0 0), .val (.slice none 0 0)]]), (2, .mix 5 [[.val (.int .i64 c_.n), .own 3 0 v1.length, .own 4 0 v2.length, .own 5 0 v3.length, .own 6 0 ((s36.1.set s36.2.toNat (List.replicate v5.toNat 0)).length)]]), (3, .row 1 (Is v1)), (4, .row 1 (Is v2)), (5, .row 1 (Is v3)), (6, .row 1 (Ls (s36.1.set s36.2.toNat (List.replicate v5.toNat 0))))], 7⟩) (Wk.rP _ [(0, 0), (1, 1), (2, 2), (3, 3), (4, 4), (5, 5), (6, 6)] hP (by rfl) (by simp [hhOk, back, Cat.cells, IA, I1, LA, L1, BA, B1, EA, E1, E2, eB, eI, eL])) ?_
       refine w_seq ?_
       refine w_runX [] mo (by rw [hN]; decide) fun K hK => ?_
       replace h := ass_some h
       obtain ⟨a41, h⟩ := h
       simp [-guardE_b, -Is_at, -Is_at', -Ls_at, -Ls_at', eL, eI, allInts, eP_Cat, Cat.cells, at_L a41]
       repeat (with_reducible refine And.intro ?_ ?_; · first | assumption | omega | (simp; done) | (simp; omega) | simp_all)
       refine hK _ ?_
       clear hK K
       refine tn ?_
       refine w_weak (st' := ⟨[(0, .adr 2 0 0), (1, .fn 204 [.adr 0 0 0]), (4, .val (.int .i64 v5)), (5, .val (.int .i64 s36.2)), (18, .val (.int .i64 ((List.replicate v5.toNat ([] : List Int)).length : Int))), (19, .val (.int .i64 s36.2)), (37, .val (.int .i64 ((rx (s36.1.set s36.2.toNat (List.replicate v5.toNat 0)) s36.2).length : Int))), (38, .val (.int .i64 0))], [(0, .mix 1 [[.rptr (Cat.cells true c_)]]), (1, .mix 5 [[.val (.int .i64 0), .val (.slice none 0 0), .val (.slice none 0 0), .val (.slice none 0 0), .val (.slice none 0 0)]]), (2, .mix 5 [[.val (.int .i64 c_.n), .own 3 0 v1.length, .own 4 0 v2.length, .own 5 0 v3.length, .own 6 0 ((s36.1.set s36.2.toNat (List.replicate v5.toNat 0)).length)]]), (3, .row 1 (Is v1)), (4, .row 1 (Is v2)), (5, .row 1 (Is v3)), (6, .row 1 (Ls (s36.1.set s36.2.toNat (List.replicate v5.toNat 0))))], 7⟩) (Wk.rP _ [(0, 0), (1, 1), (2, 2), (3, 3), (4, 4), (5, 5), (6, 6)] hP (by rfl) (by simp [hhOk, back, Cat.cells, IA, I1, LA, L1, BA, B1, EA, E1, E2, eB, eI, eL])) ?_
       refine w_block ?_
       replace h := bind_some h
       obtain ⟨e53, he53, h53⟩ := h
       refine w_loopF he53 (fun s53 : List (List Int) × Int => ⟨[(0, .adr 2 0 0), (1, .fn 204 [.adr 0 0 0]), (4, .val (.int .i64 v5)), (5, .val (.int .i64 s36.2)), (18, .val (.int .i64 ((List.replicate v5.toNat ([] : List Int)).length : Int))), (19, .val (.int .i64 s36.2)), (37, .val (.int .i64 ((rx (s36.1.set s36.2.toNat (List.replicate v5.toNat 0)) s36.2).length : Int))), (38, .val (.int .i64 s53.2))], [(0, .mix 1 [[.rptr (Cat.cells true c_)]]), (1, .mix 5 [[.val (.int .i64 0), .val (.slice none 0 0), .val (.slice none 0 0), .val (.slice none 0 0), .val (.slice none 0 0)]]), (2, .mix 5 [[.val (.int .i64 c_.n), .own 3 0 v1.length, .own 4 0 v2.length, .own 5 0 v3.length, .own 6 0 s53.1.length]]), (3, .row 1 (Is v1)), (4, .row 1 (Is v2)), (5, .row 1 (Is v3)), (6, .row 1 (Ls s53.1))], 7⟩) (Wk.rP _ [(0, 0), (1, 1), (2, 2), (3, 3), (4, 4), (5, 5), (6, 6)] hP (by rfl) (by simp [hhOk, back, Cat.cells, IA, I1, LA, L1, BA, B1, EA, E1, E2, eB, eI, eL])) ?_
       intro k53 s53 c53 h hk53
       refine w_seq ?_
       refine w_runX [] mo (by rw [hN]; decide) fun K hK => ?_
       simp [-guardE_b, -Is_at, -Is_at', -Ls_at, -Ls_at', eL, eI, allInts, eP_Cat, Cat.cells]
       repeat (with_reducible refine And.intro ?_ ?_; · first | assumption | omega | (simp; done) | (simp; omega) | simp_all)
       refine hK _ ?_
       clear hK K
       refine tn ?_
       refine w_weak (st' := ⟨[(0, .adr 2 0 0), (1, .fn 204 [.adr 0 0 0]), (4, .val (.int .i64 v5)), (5, .val (.int .i64 s36.2)), (18, .val (.int .i64 ((List.replicate v5.toNat ([] : List Int)).length : Int))), (19, .val (.int .i64 s36.2)), (37, .val (.int .i64 ((rx (s36.1.set s36.2.toNat (List.replicate v5.toNat 0)) s36.2).length : Int))), (38, .val (.int .i64 s53.2)), (39, .val (.bool (decide (s53.2 < ((rx (s36.1.set s36.2.toNat (List.replicate v5.toNat 0)) s36.2).length : Int)))))], [(0, .mix 1 [[.rptr (Cat.cells true c_)]]), (1, .mix 5 [[.val (.int .i64 0), .val (.slice none 0 0), .val (.slice none 0 0), .val (.slice none 0 0), .val (.slice none 0 0)]]), (2, .mix 5 [[.val (.int .i64 c_.n), .own 3 0 v1.length, .own 4 0 v2.length, .own 5 0 v3.length, .own 6 0 s53.1.length]]), (3, .row 1 (Is v1)), (4, .row 1 (Is v2)), (5, .row 1 (Is v3)), (6, .row 1 (Ls s53.1))], 7⟩) (Wk.rP _ [(0, 0), (1, 1), (2, 2), (3, 3), (4, 4), (5, 5), (6, 6)] hP (by rfl) (by simp [hhOk, back, Cat.cells, IA, I1, LA, L1, BA, B1, EA, E1, E2, eB, eI, eL])) ?_
       refine w_seq ?_
       refine w_cond rfl (fun g => ?_) fun g => ?_
       · have g54 : s53.2 < ((rx (s36.1.set s36.2.toNat (List.replicate v5.toNat 0)) s36.2).length : Int) := by first | simpa using g | (simp at g; exact g) | (simp at g; omega)
         clear g
         replace h := if_l g54 h
         refine w_skip ?_
         refine tn ?_
         refine w_seq ?_
         replace h := bind_some h
         obtain ⟨e55, h, h55⟩ := h
         refine w_joinT (fun b55 : List (List Int) => ⟨[(0, .adr 2 0 0), (1, .fn 204 [.adr 0 0 0]), (4, .val (.int .i64 v5)), (5, .val (.int .i64 s36.2)), (18, .val (.int .i64 ((List.replicate v5.toNat ([] : List Int)).length : Int))), (19, .val (.int .i64 s36.2)), (37, .val (.int .i64 ((rx (s36.1.set s36.2.toNat (List.replicate v5.toNat 0)) s36.2).length : Int))), (38, .val (.int .i64 s53.2))], [(0, .mix 1 [[.rptr (Cat.cells true c_)]]), (1, .mix 5 [[.val (.int .i64 0), .val (.slice none 0 0), .val (.slice none 0 0), .val (.slice none 0 0), .val (.slice none 0 0)]]), (2, .mix 5 [[.val (.int .i64 c_.n), .own 3 0 v1.length, .own 4 0 v2.length, .own 5 0 v3.length, .own 6 0 b55.length]]), (3, .row 1 (Is v1)), (4, .row 1 (Is v2)), (5, .row 1 (Is v3)), (6, .row 1 (Ls b55))], 7⟩) (fun b55 => b55 = e55) ?_ ?_
         · refine w_block ?_
           refine w_seq ?_
           refine w_runX [] mo (by rw [hN]; decide) fun K hK => ?_
           simp [-guardE_b, -Is_at, -Is_at', -Ls_at, -Ls_at', eL, eI, allInts, eP_Cat, Cat.cells]
           repeat (with_reducible refine And.intro ?_ ?_; · first | assumption | omega | (simp; done) | (simp; omega) | simp_all)
           refine hK _ ?_
           clear hK K
           refine tn ?_
           refine w_weak (st' := ⟨[(0, .adr 2 0 0), (1, .fn 204 [.adr 0 0 0]), (4, .val (.int .i64 v5)), (5, .val (.int .i64 s36.2)), (6, .val (.int .i64 s53.2)), (18, .val (.int .i64 ((List.replicate v5.toNat ([] : List Int)).length : Int))), (19, .val (.int .i64 s36.2)), (37, .val (.int .i64 ((rx (s36.1.set s36.2.toNat (List.replicate v5.toNat 0)) s36.2).length : Int))), (38, .val (.int .i64 s53.2))], [(0, .mix 1 [[.rptr (Cat.cells true c_)]]), (1, .mix 5 [[.val (.int .i64 0), .val (.slice none 0 0), .val (.slice none 0 0), .val (.slice none 0 0), .val (.slice none 0 0)]]), (2, .mix 5 [[.val (.int .i64 c_.n), .own 3 0 v1.length, .own 4 0 v2.length, .own 5 0 v3.length, .own 6 0 s53.1.length]]), (3, .row 1 (Is v1)), (4, .row 1 (Is v2)), (5, .row 1 (Is v3)), (6, .row 1 (Ls s53.1))], 7⟩) (Wk.rP _ [(0, 0), (1, 1), (2, 2), (3, 3), (4, 4), (5, 5), (6, 6)] hP (by rfl) (by simp [hhOk, back, Cat.cells, IA, I1, LA, L1, BA, B1, EA, E1, E2, eB, eI, eL])) ?_
           refine w_seq ?_
           refine w_runX [] mo (by rw [hN]; decide) fun K hK => ?_
           replace h := ass_some h
           obtain ⟨a56, h⟩ := h
           replace h := ass_some h
           obtain ⟨a57, h⟩ := h
           simp [-guardE_b, -Is_at, -Is_at', -Ls_at, -Ls_at', eL, eI, allInts, eP_Cat, Cat.cells, at_L a56, at_I a57]
           repeat (with_reducible refine And.intro ?_ ?_; · first | assumption | omega | (simp; done) | (simp; omega) | simp_all)
           refine hK _ ?_
           clear hK K
           refine tn ?_
           refine w_weak (st' := ⟨[(0, .adr 2 0 0), (1, .fn 204 [.adr 0 0 0]), (4, .val (.int .i64 v5)), (5, .val (.int .i64 s36.2)), (6, .val (.int .i64 s53.2)), (18, .val (.int .i64 ((List.replicate v5.toNat ([] : List Int)).length : Int))), (19, .val (.int .i64 s36.2)), (37, .val (.int .i64 ((rx (s36.1.set s36.2.toNat (List.replicate v5.toNat 0)) s36.2).length : Int))), (38, .val (.int .i64 s53.2))], [(0, .mix 1 [[.rptr (Cat.cells true c_)]]), (1, .mix 5 [[.val (.int .i64 0), .val (.slice none 0 0), .val (.slice none 0 0), .val (.slice none 0 0), .val (.slice none 0 0)]]), (2, .mix 5 [[.val (.int .i64 c_.n), .own 3 0 v1.length, .own 4 0 v2.length, .own 5 0 v3.length, .own 6 0 ((s53.1.set s36.2.toNat ((rx s53.1 s36.2).set s53.2.toNat (-1))).length)]]), (3, .row 1 (Is v1)), (4, .row 1 (Is v2)), (5, .row 1 (Is v3)), (6, .row 1 (Ls (s53.1.set s36.2.toNat ((rx s53.1 s36.2).set s53.2.toNat (-1)))))], 7⟩) (Wk.rP _ [(0, 0), (1, 1), (2, 2), (3, 3), (4, 4), (5, 5), (6, 6)] hP (by rfl) (by simp [hhOk, back, Cat.cells, IA, I1, LA, L1, BA, B1, EA, E1, E2, eB, eI, eL])) ?_
           refine w_seq ?_
           refine w_runX [] mo (by rw [hN]; decide) fun K hK => ?_
           replace h := ass_some h
           obtain ⟨a58, h⟩ := h
           replace h := ass_some h
           obtain ⟨a59, h⟩ := h
           simp [-guardE_b, -Is_at, -Is_at', -Ls_at, -Ls_at', eL, eI, allInts, eP_Cat, Cat.cells, at_I a58, at_I a59]
           repeat (with_reducible refine And.intro ?_ ?_; · first | assumption | omega | (simp; done) | (simp; omega) | simp_all)
           refine hK _ ?_
           clear hK K
           refine tn ?_
           refine w_weak (st' := ⟨[(0, .adr 2 0 0), (1, .fn 204 [.adr 0 0 0]), (4, .val (.int .i64 v5)), (5, .val (.int .i64 s36.2)), (6, .val (.int .i64 s53.2)), (18, .val (.int .i64 ((List.replicate v5.toNat ([] : List Int)).length : Int))), (19, .val (.int .i64 s36.2)), (37, .val (.int .i64 ((rx (s36.1.set s36.2.toNat (List.replicate v5.toNat 0)) s36.2).length : Int))), (38, .val (.int .i64 s53.2)), (64, .val (.bool ((ix v2 s36.2) == (ix v1 s53.2))))], [(0, .mix 1 [[.rptr (Cat.cells true c_)]]), (1, .mix 5 [[.val (.int .i64 0), .val (.slice none 0 0), .val (.slice none 0 0), .val (.slice none 0 0), .val (.slice none 0 0)]]), (2, .mix 5 [[.val (.int .i64 c_.n), .own 3 0 v1.length, .own 4 0 v2.length, .own 5 0 v3.length, .own 6 0 ((s53.1.set s36.2.toNat ((rx s53.1 s36.2).set s53.2.toNat (-1))).length)]]), (3, .row 1 (Is v1)), (4, .row 1 (Is v2)), (5, .row 1 (Is v3)), (6, .row 1 (Ls (s53.1.set s36.2.toNat ((rx s53.1 s36.2).set s53.2.toNat (-1)))))], 7⟩) (Wk.rP _ [(0, 0), (1, 1), (2, 2), (3, 3), (4, 4), (5, 5), (6, 6)] hP (by rfl) (by simp [hhOk, back, Cat.cells, IA, I1, LA, L1, BA, B1, EA, E1, E2, eB, eI, eL])) ?_
           refine w_cond rfl (fun g => ?_) fun g => ?_
           · have g60 : (ix v2 s36.2) = (ix v1 s53.2) := by first | simpa using g | (simp at g; exact g) | (simp at g; omega)
             clear g
             replace h := if_l g60 h
             refine w_runX [] mo (by rw [hN]; decide) fun K hK => ?_
             replace h := ass_some h
             obtain ⟨a61, h⟩ := h
             simp [-guardE_b, -Is_at, -Is_at', -Ls_at, -Ls_at', eL, eI, allInts, eP_Cat, Cat.cells, at_L a61]
             repeat (with_reducible refine And.intro ?_ ?_; · first | assumption | omega | (simp; done) | (simp; omega) | simp_all)
             replace h := bind_some h
             obtain ⟨v62, hv62, h⟩ := h
             refine callX_intro (fz := []) (w_i_opposite_c1_v147 _ _ _ v62 hv62) (.cons .val (.cons .val (.cons (.field rfl (by simp [Cat.cells]) (.cons (.preT (by simp [Cat.cells])) .nil)) .nil))) ?_
             replace h := ass_some h
             obtain ⟨a63, h⟩ := h
             simp [-guardE_b, -Is_at, -Is_at', -Ls_at, -Ls_at', unk, unA, unE, unT, unC, flat, eL, eI, allInts, eP_Cat, Cat.cells, at_L a61, at_I a63]
             repeat (with_reducible refine And.intro ?_ ?_; · first | assumption | omega | (simp; done) | (simp; omega) | simp_all)
             refine hK _ ?_
             clear hK K
             refine bn ?_
             exact jn (b := (s53.1.set s36.2.toNat ((rx s53.1 s36.2).set s53.2.toNat (-1))).set s36.2.toNat ((rx (s53.1.set s36.2.toNat ((rx s53.1 s36.2).set s53.2.toNat (-1))) s36.2).set s53.2.toNat v62)) (Option.some.inj h) (Wk.rP _ [(0, 0), (1, 1), (2, 2), (3, 3), (4, 4), (5, 5), (6, 6)] hP (by rfl) (by simp [hhOk, back, Cat.cells, IA, I1, LA, L1, BA, B1, EA, E1, E2, eB, eI, eL]))
           have g60 : ¬ ((ix v2 s36.2) = (ix v1 s53.2)) := by first | simpa using g | (simp at g; exact g) | (simp at g; omega)
           clear g
           replace h := if_r g60 h
           refine w_skip ?_
           refine bn ?_
           exact jn (b := s53.1.set s36.2.toNat ((rx s53.1 s36.2).set s53.2.toNat (-1))) (Option.some.inj h) (Wk.rP _ [(0, 0), (1, 1), (2, 2), (3, 3), (4, 4), (5, 5), (6, 6)] hP (by rfl) (by simp [hhOk, back, Cat.cells, IA, I1, LA, L1, BA, B1, EA, E1, E2, eB, eI, eL]))
         intro b55 hb55
         have h := h55
         rw [← hb55] at h
         clear h55
         try dsimp only at h
         refine w_runX [] mo (by rw [hN]; decide) fun K hK => ?_
         replace h := ass_some h
         obtain ⟨a64, h⟩ := h
         simp [-guardE_b, -Is_at, -Is_at', -Ls_at, -Ls_at', eL, eI, allInts, eP_Cat, Cat.cells, wrap_id a64]
         repeat (with_reducible refine And.intro ?_ ?_; · first | assumption | omega | (simp; done) | (simp; omega) | simp_all)
         refine hK _ ?_
         clear hK K
         cases h
         exact rn (s' := (b55, s53.2 + 1)) hk53 (Wk.rP _ [(0, 0), (1, 1), (2, 2), (3, 3), (4, 4), (5, 5), (6, 6)] hP (by rfl) (by simp [hhOk, back, Cat.cells, IA, I1, LA, L1, BA, B1, EA, E1, E2, eB, eI, eL]))
       have g54 : ¬ (s53.2 < ((rx (s36.1.set s36.2.toNat (List.replicate v5.toNat 0)) s36.2).length : Int)) := by first | simpa using g | (simp at g; exact g) | (simp at g; omega)
       clear g
       replace h := if_r g54 h
       refine w_exit ?_
       refine tx ?_
       refine lx ?_
       refine bh ?_
       refine bn ?_
       cases h
       have q : _ = e53 := hk53
       have h := h53
       rw [← q] at h
       clear q
       try dsimp only at h
       exact jn (b := s53.1) (Option.some.inj h) (Wk.rP _ [(0, 0), (1, 1), (2, 2), (3, 3), (4, 4), (5, 5), (6, 6)] hP (by rfl) (by simp [hhOk, back, Cat.cells, IA, I1, LA, L1, BA, B1, EA, E1, E2, eB, eI, eL]))
     intro b38 hb38
     have h := h38
     rw [← hb38] at h
     clear h38
     try dsimp only at h
     refine w_runX [] mo (by rw [hN]; decide) fun K hK => ?_
     replace h := ass_some h
     obtain ⟨a65, h⟩ := h
     simp [-guardE_b, -Is_at, -Is_at', -Ls_at, -Ls_at', eL, eI, allInts, eP_Cat, Cat.cells, wrap_id a65]
     repeat (with_reducible refine And.intro ?_ ?_; · first | assumption | omega | (simp; done) | (simp; omega) | simp_all)
     refine hK _ ?_
     clear hK K
     cases h
     exact rn (s' := (b38, s36.2 + 1)) hk36 (Wk.rP _ [(0, 0), (1, 1), (2, 2), (3, 3), (4, 4), (5, 5), (6, 6)] hP (by rfl) (by simp [hhOk, back, Cat.cells, IA, I1, LA, L1, BA, B1, EA, E1, E2, eB, eI, eL]))
   have g37 : ¬ (s36.2 < ((List.replicate v5.toNat ([] : List Int)).length : Int)) := by first | simpa using g | (simp at g; exact g) | (simp at g; omega)
   clear g
   replace h := if_r g37 h
   refine w_exit ?_
   refine tx ?_
   refine lx ?_
   refine bh ?_
   cases h
   have q : _ = e36 := hk36
   have h := h36
   rw [← q] at h
   clear q
   try dsimp only at h
   cases h
   first | refine iw_r (st' := ⟨[], [(0, .mix 1 [[.rptr (Cat.cells true c_)]]), (1, .mix 5 [[.val (.int .i64 0), .val (.slice none 0 0), .val (.slice none 0 0), .val (.slice none 0 0), .val (.slice none 0 0)]]), (2, .mix 5 [[.val (.int .i64 c_.n), .own 3 0 v1.length, .own 4 0 v2.length, .own 5 0 v3.length, .own 6 0 s36.1.length]]), (3, .row 1 (Is v1)), (4, .row 1 (Is v2)), (5, .row 1 (Is v3)), (6, .row 1 (Ls s36.1))], 7⟩) ?_ ?_ | refine iw_n (st' := ⟨[], [(0, .mix 1 [[.rptr (Cat.cells true c_)]]), (1, .mix 5 [[.val (.int .i64 0), .val (.slice none 0 0), .val (.slice none 0 0), .val (.slice none 0 0), .val (.slice none 0 0)]]), (2, .mix 5 [[.val (.int .i64 c_.n), .own 3 0 v1.length, .own 4 0 v2.length, .own 5 0 v3.length, .own 6 0 s36.1.length]]), (3, .row 1 (Is v1)), (4, .row 1 (Is v2)), (5, .row 1 (Is v3)), (6, .row 1 (Ls s36.1))], 7⟩) ?_ ?_
   · exact Wk.rP _ [(0, 0), (1, 1), (2, 2), (3, 3), (4, 4), (5, 5), (6, 6)] hP (by rfl) (by simp [hhOk, back, Cat.cells, IA, I1, LA, L1, BA, B1, EA, E1, E2, eB, eI, eL])
   exact ⟨by simp [oneOrA], by simp, by simp [Cat.cells]⟩
 simp [-guardE_b, -Is_at, -Is_at', -Ls_at, -Ls_at', unk, unA, unE, unT, unC, flat, eL, eI, allInts, eP_Cat, Cat.cells]
 repeat (with_reducible refine And.intro ?_ ?_; · first | assumption | omega | (simp; done) | (simp; omega) | simp_all)
 refine hK _ ?_
 clear hK K
 refine tn ?_
 refine w_weak (st' := ⟨[(2, .adr 0 0 0), (3, .adr 1 0 0)], [(0, .mix 5 [[.val (.int .i64 0), .val (.slice none 0 0), .val (.slice none 0 0), .val (.slice none 0 0), .val (.slice none 0 0)]]), (1, .mix 5 [[.val (.int .i64 c_.n), .own 2 0 v1.length, .own 3 0 v2.length, .own 4 0 v3.length, .own 5 0 v66.length]]), (2, .row 1 (Is v1)), (3, .row 1 (Is v2)), (4, .row 1 (Is v3)), (5, .row 1 (Ls v66))], 6⟩) (Wk.r1 [(1, 0), (2, 1), (3, 2), (4, 3), (5, 4), (6, 5)] (by simp [hP, hhOk, back, Cat.cells, IA, I1, LA, L1, BA, B1, EA, E1, E2, eB, eI, eL])) ?_
 refine w_seq ?_
 refine w_run mo (by rw [hN]; decide) fun K hK => ?_
 simp [-guardE_b, -Is_at, -Is_at', -Ls_at, -Ls_at', eL, eI, allInts, eP_Cat, Cat.cells]
 repeat (with_reducible refine And.intro ?_ ?_; · first | assumption | omega | (simp; done) | (simp; omega) | simp_all)
 refine hK _ ?_
 clear hK K
 refine tn ?_
 refine w_weak (st' := ⟨[(2, .adr 0 0 0)], [(0, .mix 5 [[.val (.int .i64 c_.n), .own 1 0 v1.length, .own 2 0 v2.length, .own 3 0 v3.length, .own 4 0 v66.length]]), (1, .row 1 (Is v1)), (2, .row 1 (Is v2)), (3, .row 1 (Is v3)), (4, .row 1 (Ls v66))], 5⟩) (Wk.r1 [(0, 0), (2, 1), (3, 2), (4, 3), (5, 4)] (by simp [hP, hhOk, back, Cat.cells, IA, I1, LA, L1, BA, B1, EA, E1, E2, eB, eI, eL])) ?_
 refine w_ret ?_
 have hr := Option.some.inj h
 rw [← hr]
 refine ⟨_, (.cell tf_33 rfl rfl rfl (by simp) (by simp) .nil), ?_⟩
 refine ⟨(.agg rfl .nil), [.val (.int .i64 c_.n), .lst true 1 (Is v1), .lst true 1 (Is v2), .lst true 1 (Is v3), .lst true 1 (Ls v66)], [1, 2, 3, 4], by simp [Cat.cells, IA, I1, LA, L1, BA, B1, EA, E1, E2, eB, eI, eL], by simp, (UpL.refl _)⟩
end Go.Vc.T

set_option maxRecDepth 100000
set_option linter.unusedSimpArgs false
set_option linter.unusedVariables false
namespace Go.Vc.T
open Go Go.Vc Go.Proofs
noncomputable def s_i_Functor_opposite (f_ : Fn) : Option Fn :=
 (s_i_opposite f_.s).bind fun v1 =>
 (s_i_opposite f_.t).bind fun v2 =>
 (s_i_functor v1 v2 f_.ob f_.ar).bind fun v3 =>
 some v3
set_option maxHeartbeats 4000000 in
theorem w_i_Functor_opposite (f_ : Fn) (r : Fn) (h : s_i_Functor_opposite f_ = some r) : Contract Try.prog 218 [.rptr (f_.cells true)] (.agg (r.cells true)) := by
 refine contract_introG (rvs := [.cell 2 35]) (rs := [.agg (r.cells true)]) Try.func218 rfl rfl rfl rfl (by simp [Try.f218]) fun F hN hP => ?_
 unfold s_i_Functor_opposite at h
 refine w_seq ?_
 refine w_run mo (by rw [hN]; decide) fun K hK => ?_
 simp [-guardE_b, -Is_at, -Is_at', -Ls_at, -Ls_at', eL, eI, allInts, eP_Cat, eP_Fn, Cat.cells, Fn.cells]
 repeat (with_reducible refine And.intro ?_ ?_; · first | assumption | omega | (simp; done) | (simp; omega) | simp_all)
 refine hK _ ?_
 clear hK K
 refine tn ?_
 refine w_weak (st' := ⟨[(0, .rptr (Fn.cells true f_)), (2, .adr 0 0 0)], [(0, .mix 12 [[.val (.int .i64 0), .val (.slice none 0 0), .val (.slice none 0 0), .val (.slice none 0 0), .val (.slice none 0 0), .val (.int .i64 0), .val (.slice none 0 0), .val (.slice none 0 0), .val (.slice none 0 0), .val (.slice none 0 0), .val (.slice none 0 0), .val (.slice none 0 0)]])], 1⟩) (Wk.r1 [(0, 0)] (by simp [hP, hhOk, back, Cat.cells, Fn.cells, IA, I1, LA, L1, BA, B1, EA, E1, E2, eB, eI, eL])) ?_
 refine w_seq ?_
 refine w_run mo (by rw [hN]; decide) fun K hK => ?_
 simp [-guardE_b, -Is_at, -Is_at', -Ls_at, -Ls_at', eL, eI, allInts, eP_Cat, eP_Fn, Cat.cells, Fn.cells]
 repeat (with_reducible refine And.intro ?_ ?_; · first | assumption | omega | (simp; done) | (simp; omega) | simp_all)
 replace h := bind_some h
 obtain ⟨v1, hv1, h⟩ := h
 refine callA_intro (w_i_opposite _ v1 hv1) (.cons (.preT (by simp [Cat.cells, Fn.cells])) .nil) ?_
 simp [-guardE_b, -Is_at, -Is_at', -Ls_at, -Ls_at', unk, unA, unE, unT, unC, flat, eL, eI, allInts, eP_Cat, eP_Fn, Cat.cells, Fn.cells]
 repeat (with_reducible refine And.intro ?_ ?_; · first | assumption | omega | (simp; done) | (simp; omega) | simp_all)
 replace h := bind_some h
 obtain ⟨v2, hv2, h⟩ := h
 refine callA_intro (w_i_opposite _ v2 hv2) (.cons (.preT (by simp [Cat.cells, Fn.cells])) .nil) ?_
 simp [-guardE_b, -Is_at, -Is_at', -Ls_at, -Ls_at', unk, unA, unE, unT, unC, flat, eL, eI, allInts, eP_Cat, eP_Fn, Cat.cells, Fn.cells]
 repeat (with_reducible refine And.intro ?_ ?_; · first | assumption | omega | (simp; done) | (simp; omega) | simp_all)
 refine hK _ ?_
 clear hK K
 refine tn ?_
 refine w_weak (st' := ⟨[(0, .rptr (Fn.cells true f_)), (2, .adr 0 0 0), (3, .adr 1 0 0), (4, .adr 6 0 0)], [(0, .mix 12 [[.val (.int .i64 0), .val (.slice none 0 0), .val (.slice none 0 0), .val (.slice none 0 0), .val (.slice none 0 0), .val (.int .i64 0), .val (.slice none 0 0), .val (.slice none 0 0), .val (.slice none 0 0), .val (.slice none 0 0), .val (.slice none 0 0), .val (.slice none 0 0)]]), (1, .mix 5 [[.val (.int .i64 v1.n), .own 2 0 v1.fr.length, .own 3 0 v1.to.length, .own 4 0 v1.id.length, .own 5 0 v1.cs.length]]), (2, .row 1 (Is v1.fr)), (3, .row 1 (Is v1.to)), (4, .row 1 (Is v1.id)), (5, .row 1 (Ls v1.cs)), (6, .mix 5 [[.val (.int .i64 v2.n), .own 7 0 v2.fr.length, .own 8 0 v2.to.length, .own 9 0 v2.id.length, .own 10 0 v2.cs.length]]), (7, .row 1 (Is v2.fr)), (8, .row 1 (Is v2.to)), (9, .row 1 (Is v2.id)), (10, .row 1 (Ls v2.cs))], 11⟩) (Wk.r1 [(0, 0), (11, 1), (2, 2), (3, 3), (4, 4), (5, 5), (12, 6), (7, 7), (8, 8), (9, 9), (10, 10)] (by simp [hP, hhOk, back, Cat.cells, Fn.cells, IA, I1, LA, L1, BA, B1, EA, E1, E2, eB, eI, eL])) ?_
 refine w_seq ?_
 refine w_run mo (by rw [hN]; decide) fun K hK => ?_
 simp [-guardE_b, -Is_at, -Is_at', -Ls_at, -Ls_at', eL, eI, allInts, eP_Cat, eP_Fn, Cat.cells, Fn.cells]
 repeat (with_reducible refine And.intro ?_ ?_; · first | assumption | omega | (simp; done) | (simp; omega) | simp_all)
 replace h := bind_some h
 obtain ⟨v3, hv3, h⟩ := h
 refine callA_intro (w_i_functor _ _ _ _ v3 hv3) (.cons (.field rfl (by simp [Cat.cells, Fn.cells]) (.cons .val (.cons (.whole (by simp) (by simp) (by simp)) (.cons (.whole (by simp) (by simp) (by simp)) (.cons (.whole (by simp) (by simp) (by simp)) (.cons (.whole (by simp) (by simp) (by simp)) .nil)))))) (.cons (.field rfl (by simp [Cat.cells, Fn.cells]) (.cons .val (.cons (.whole (by simp) (by simp) (by simp)) (.cons (.whole (by simp) (by simp) (by simp)) (.cons (.whole (by simp) (by simp) (by simp)) (.cons (.whole (by simp) (by simp) (by simp)) .nil)))))) (.cons .lst (.cons .lst .nil)))) ?_
 simp [-guardE_b, -Is_at, -Is_at', -Ls_at, -Ls_at', unk, unA, unE, unT, unC, flat, eL, eI, allInts, eP_Cat, eP_Fn, Cat.cells, Fn.cells]
 repeat (with_reducible refine And.intro ?_ ?_; · first | assumption | omega | (simp; done) | (simp; omega) | simp_all)
 refine hK _ ?_
 clear hK K
 refine tn ?_
 refine w_weak (st' := ⟨[(2, .adr 0 0 0)], [(0, .mix 12 [[.val (.int .i64 v3.s.n), .own 1 0 v3.s.fr.length, .own 2 0 v3.s.to.length, .own 3 0 v3.s.id.length, .own 4 0 v3.s.cs.length, .val (.int .i64 v3.t.n), .own 5 0 v3.t.fr.length, .own 6 0 v3.t.to.length, .own 7 0 v3.t.id.length, .own 8 0 v3.t.cs.length, .own 9 0 v3.ob.length, .own 10 0 v3.ar.length]]), (1, .row 1 (Is v3.s.fr)), (2, .row 1 (Is v3.s.to)), (3, .row 1 (Is v3.s.id)), (4, .row 1 (Ls v3.s.cs)), (5, .row 1 (Is v3.t.fr)), (6, .row 1 (Is v3.t.to)), (7, .row 1 (Is v3.t.id)), (8, .row 1 (Ls v3.t.cs)), (9, .row 1 (Is v3.ob)), (10, .row 1 (Is v3.ar))], 11⟩) (Wk.r1 [(0, 0), (12, 1), (13, 2), (14, 3), (15, 4), (17, 5), (18, 6), (19, 7), (20, 8), (21, 9), (22, 10)] (by simp [hP, hhOk, back, Cat.cells, Fn.cells, IA, I1, LA, L1, BA, B1, EA, E1, E2, eB, eI, eL])) ?_
 refine w_ret ?_
 have hr := Option.some.inj h
 rw [← hr]
 refine ⟨_, (.cell tf_35 rfl rfl rfl (by simp) (by simp) .nil), ?_⟩
 refine ⟨(.agg rfl .nil), [.val (.int .i64 v3.s.n), .lst true 1 (Is v3.s.fr), .lst true 1 (Is v3.s.to), .lst true 1 (Is v3.s.id), .lst true 1 (Ls v3.s.cs), .val (.int .i64 v3.t.n), .lst true 1 (Is v3.t.fr), .lst true 1 (Is v3.t.to), .lst true 1 (Is v3.t.id), .lst true 1 (Ls v3.t.cs), .lst true 1 (Is v3.ob), .lst true 1 (Is v3.ar)], [1, 2, 3, 4, 5, 6, 7, 8, 9, 10], by simp [Cat.cells, Fn.cells, IA, I1, LA, L1, BA, B1, EA, E1, E2, eB, eI, eL], by simp, (UpL.refl _)⟩
end Go.Vc.T

set_option maxRecDepth 100000
set_option linter.unusedSimpArgs false
set_option linter.unusedVariables false
namespace Go.Vc.T
open Go Go.Vc Go.Proofs
noncomputable def s_i_Adjunction_opposite (a_ : Adj) : Option Adj :=
 (s_i_Functor_opposite a_.r).bind fun v1 =>
 (s_i_Functor_opposite a_.l).bind fun v2 =>
 (s_i_adjunction v1 v2 a_.k a_.u).bind fun v3 =>
 some v3
set_option maxHeartbeats 4000000 in
theorem w_i_Adjunction_opposite (a_ : Adj) (r : Adj) (h : s_i_Adjunction_opposite a_ = some r) : Contract Try.prog 145 [.rptr (a_.cells true)] (.agg (r.cells true)) := by
 refine contract_introG (rvs := [.cell 2 37]) (rs := [.agg (r.cells true)]) Try.func145 rfl rfl rfl rfl (by simp [Try.f145]) fun F hN hP => ?_
 unfold s_i_Adjunction_opposite at h
 refine w_seq ?_
 refine w_run mo (by rw [hN]; decide) fun K hK => ?_
 simp [-guardE_b, -Is_at, -Is_at', -Ls_at, -Ls_at', eL, eI, allInts, eP_Adj, eP_Fn, Adj.cells, Fn.cells]
 repeat (with_reducible refine And.intro ?_ ?_; · first | assumption | omega | (simp; done) | (simp; omega) | simp_all)
 refine hK _ ?_
 clear hK K
 refine tn ?_
 refine w_weak (st' := ⟨[(0, .rptr (Adj.cells true a_)), (2, .adr 0 0 0)], [(0, .mix 26 [[.val (.int .i64 0), .val (.slice none 0 0), .val (.slice none 0 0), .val (.slice none 0 0), .val (.slice none 0 0), .val (.int .i64 0), .val (.slice none 0 0), .val (.slice none 0 0), .val (.slice none 0 0), .val (.slice none 0 0), .val (.slice none 0 0), .val (.slice none 0 0), .val (.int .i64 0), .val (.slice none 0 0), .val (.slice none 0 0), .val (.slice none 0 0), .val (.slice none 0 0), .val (.int .i64 0), .val (.slice none 0 0), .val (.slice none 0 0), .val (.slice none 0 0), .val (.slice none 0 0), .val (.slice none 0 0), .val (.slice none 0 0), .val (.slice none 0 0), .val (.slice none 0 0)]])], 1⟩) (Wk.r1 [(0, 0)] (by simp [hP, hhOk, back, Adj.cells, Fn.cells, IA, I1, LA, L1, BA, B1, EA, E1, E2, eB, eI, eL])) ?_
 refine w_seq ?_
 refine w_run mo (by rw [hN]; decide) fun K hK => ?_
 simp [-guardE_b, -Is_at, -Is_at', -Ls_at, -Ls_at', eL, eI, allInts, eP_Adj, eP_Fn, Adj.cells, Fn.cells]
 repeat (with_reducible refine And.intro ?_ ?_; · first | assumption | omega | (simp; done) | (simp; omega) | simp_all)
 replace h := bind_some h
 obtain ⟨v1, hv1, h⟩ := h
 refine callA_intro (w_i_Functor_opposite _ v1 hv1) (.cons (.preT (by simp [Adj.cells, Fn.cells])) .nil) ?_
 simp [-guardE_b, -Is_at, -Is_at', -Ls_at, -Ls_at', unk, unA, unE, unT, unC, flat, eL, eI, allInts, eP_Adj, eP_Fn, Adj.cells, Fn.cells]
 repeat (with_reducible refine And.intro ?_ ?_; · first | assumption | omega | (simp; done) | (simp; omega) | simp_all)
 replace h := bind_some h
 obtain ⟨v2, hv2, h⟩ := h
 refine callA_intro (w_i_Functor_opposite _ v2 hv2) (.cons (.preT (by simp [Adj.cells, Fn.cells])) .nil) ?_
 simp [-guardE_b, -Is_at, -Is_at', -Ls_at, -Ls_at', unk, unA, unE, unT, unC, flat, eL, eI, allInts, eP_Adj, eP_Fn, Adj.cells, Fn.cells]
 repeat (with_reducible refine And.intro ?_ ?_; · first | assumption | omega | (simp; done) | (simp; omega) | simp_all)
 refine hK _ ?_
 clear hK K
 refine tn ?_
 refine w_weak (st' := ⟨[(0, .rptr (Adj.cells true a_)), (2, .adr 0 0 0), (3, .adr 1 0 0), (4, .adr 12 0 0)], [(0, .mix 26 [[.val (.int .i64 0), .val (.slice none 0 0), .val (.slice none 0 0), .val (.slice none 0 0), .val (.slice none 0 0), .val (.int .i64 0), .val (.slice none 0 0), .val (.slice none 0 0), .val (.slice none 0 0), .val (.slice none 0 0), .val (.slice none 0 0), .val (.slice none 0 0), .val (.int .i64 0), .val (.slice none 0 0), .val (.slice none 0 0), .val (.slice none 0 0), .val (.slice none 0 0), .val (.int .i64 0), .val (.slice none 0 0), .val (.slice none 0 0), .val (.slice none 0 0), .val (.slice none 0 0), .val (.slice none 0 0), .val (.slice none 0 0), .val (.slice none 0 0), .val (.slice none 0 0)]]), (1, .mix 12 [[.val (.int .i64 v1.s.n), .own 2 0 v1.s.fr.length, .own 3 0 v1.s.to.length, .own 4 0 v1.s.id.length, .own 5 0 v1.s.cs.length, .val (.int .i64 v1.t.n), .own 6 0 v1.t.fr.length, .own 7 0 v1.t.to.length, .own 8 0 v1.t.id.length, .own 9 0 v1.t.cs.length, .own 10 0 v1.ob.length, .own 11 0 v1.ar.length]]), (2, .row 1 (Is v1.s.fr)), (3, .row 1 (Is v1.s.to)), (4, .row 1 (Is v1.s.id)), (5, .row 1 (Ls v1.s.cs)), (6, .row 1 (Is v1.t.fr)), (7, .row 1 (Is v1.t.to)), (8, .row 1 (Is v1.t.id)), (9, .row 1 (Ls v1.t.cs)), (10, .row 1 (Is v1.ob)), (11, .row 1 (Is v1.ar)), (12, .mix 12 [[.val (.int .i64 v2.s.n), .own 13 0 v2.s.fr.length, .own 14 0 v2.s.to.length, .own 15 0 v2.s.id.length, .own 16 0 v2.s.cs.length, .val (.int .i64 v2.t.n), .own 17 0 v2.t.fr.length, .own 18 0 v2.t.to.length, .own 19 0 v2.t.id.length, .own 20 0 v2.t.cs.length, .own 21 0 v2.ob.length, .own 22 0 v2.ar.length]]), (13, .row 1 (Is v2.s.fr)), (14, .row 1 (Is v2.s.to)), (15, .row 1 (Is v2.s.id)), (16, .row 1 (Ls v2.s.cs)), (17, .row 1 (Is v2.t.fr)), (18, .row 1 (Is v2.t.to)), (19, .row 1 (Is v2.t.id)), (20, .row 1 (Ls v2.t.cs)), (21, .row 1 (Is v2.ob)), (22, .row 1 (Is v2.ar))], 23⟩) (Wk.r1 [(0, 0), (25, 1), (2, 2), (3, 3), (4, 4), (5, 5), (7, 6), (8, 7), (9, 8), (10, 9), (11, 10), (12, 11), (26, 12), (14, 13), (15, 14), (16, 15), (17, 16), (19, 17), (20, 18), (21, 19), (22, 20), (23, 21), (24, 22)] (by simp [hP, hhOk, back, Adj.cells, Fn.cells, IA, I1, LA, L1, BA, B1, EA, E1, E2, eB, eI, eL])) ?_
 refine w_seq ?_
 refine w_run mo (by rw [hN]; decide) fun K hK => ?_
 simp [-guardE_b, -Is_at, -Is_at', -Ls_at, -Ls_at', eL, eI, allInts, eP_Adj, eP_Fn, Adj.cells, Fn.cells]
 repeat (with_reducible refine And.intro ?_ ?_; · first | assumption | omega | (simp; done) | (simp; omega) | simp_all)
 replace h := bind_some h
 obtain ⟨v3, hv3, h⟩ := h
 refine callA_intro (w_i_adjunction _ _ _ _ v3 hv3) (.cons (.field rfl (by simp [Adj.cells, Fn.cells]) (.cons .val (.cons (.whole (by simp) (by simp) (by simp)) (.cons (.whole (by simp) (by simp) (by simp)) (.cons (.whole (by simp) (by simp) (by simp)) (.cons (.whole (by simp) (by simp) (by simp)) (.cons .val (.cons (.whole (by simp) (by simp) (by simp)) (.cons (.whole (by simp) (by simp) (by simp)) (.cons (.whole (by simp) (by simp) (by simp)) (.cons (.whole (by simp) (by simp) (by simp)) (.cons (.whole (by simp) (by simp) (by simp)) (.cons (.whole (by simp) (by simp) (by simp)) .nil))))))))))))) (.cons (.field rfl (by simp [Adj.cells, Fn.cells]) (.cons .val (.cons (.whole (by simp) (by simp) (by simp)) (.cons (.whole (by simp) (by simp) (by simp)) (.cons (.whole (by simp) (by simp) (by simp)) (.cons (.whole (by simp) (by simp) (by simp)) (.cons .val (.cons (.whole (by simp) (by simp) (by simp)) (.cons (.whole (by simp) (by simp) (by simp)) (.cons (.whole (by simp) (by simp) (by simp)) (.cons (.whole (by simp) (by simp) (by simp)) (.cons (.whole (by simp) (by simp) (by simp)) (.cons (.whole (by simp) (by simp) (by simp)) .nil))))))))))))) (.cons .lst (.cons .lst .nil)))) ?_
 simp [-guardE_b, -Is_at, -Is_at', -Ls_at, -Ls_at', unk, unA, unE, unT, unC, flat, eL, eI, allInts, eP_Adj, eP_Fn, Adj.cells, Fn.cells]
 repeat (with_reducible refine And.intro ?_ ?_; · first | assumption | omega | (simp; done) | (simp; omega) | simp_all)
 refine hK _ ?_
 clear hK K
 refine tn ?_
 refine w_weak (st' := ⟨[(2, .adr 0 0 0)], [(0, .mix 26 [[.val (.int .i64 v3.l.s.n), .own 1 0 v3.l.s.fr.length, .own 2 0 v3.l.s.to.length, .own 3 0 v3.l.s.id.length, .own 4 0 v3.l.s.cs.length, .val (.int .i64 v3.l.t.n), .own 5 0 v3.l.t.fr.length, .own 6 0 v3.l.t.to.length, .own 7 0 v3.l.t.id.length, .own 8 0 v3.l.t.cs.length, .own 9 0 v3.l.ob.length, .own 10 0 v3.l.ar.length, .val (.int .i64 v3.r.s.n), .own 11 0 v3.r.s.fr.length, .own 12 0 v3.r.s.to.length, .own 13 0 v3.r.s.id.length, .own 14 0 v3.r.s.cs.length, .val (.int .i64 v3.r.t.n), .own 15 0 v3.r.t.fr.length, .own 16 0 v3.r.t.to.length, .own 17 0 v3.r.t.id.length, .own 18 0 v3.r.t.cs.length, .own 19 0 v3.r.ob.length, .own 20 0 v3.r.ar.length, .own 21 0 v3.u.length, .own 22 0 v3.k.length]]), (1, .row 1 (Is v3.l.s.fr)), (2, .row 1 (Is v3.l.s.to)), (3, .row 1 (Is v3.l.s.id)), (4, .row 1 (Ls v3.l.s.cs)), (5, .row 1 (Is v3.l.t.fr)), (6, .row 1 (Is v3.l.t.to)), (7, .row 1 (Is v3.l.t.id)), (8, .row 1 (Ls v3.l.t.cs)), (9, .row 1 (Is v3.l.ob)), (10, .row 1 (Is v3.l.ar)), (11, .row 1 (Is v3.r.s.fr)), (12, .row 1 (Is v3.r.s.to)), (13, .row 1 (Is v3.r.s.id)), (14, .row 1 (Ls v3.r.s.cs)), (15, .row 1 (Is v3.r.t.fr)), (16, .row 1 (Is v3.r.t.to)), (17, .row 1 (Is v3.r.t.id)), (18, .row 1 (Ls v3.r.t.cs)), (19, .row 1 (Is v3.r.ob)), (20, .row 1 (Is v3.r.ar)), (21, .row 1 (Is v3.u)), (22, .row 1 (Is v3.k))], 23⟩) (Wk.r1 [(0, 0), (24, 1), (25, 2), (26, 3), (27, 4), (29, 5), (30, 6), (31, 7), (32, 8), (33, 9), (34, 10), (36, 11), (37, 12), (38, 13), (39, 14), (41, 15), (42, 16), (43, 17), (44, 18), (45, 19), (46, 20), (47, 21), (48, 22)] (by simp [hP, hhOk, back, Adj.cells, Fn.cells, IA, I1, LA, L1, BA, B1, EA, E1, E2, eB, eI, eL])) ?_
 refine w_ret ?_
 have hr := Option.some.inj h
 rw [← hr]
 refine ⟨_, (.cell tf_37 rfl rfl rfl (by simp) (by simp) .nil), ?_⟩
 refine ⟨(.agg rfl .nil), [.val (.int .i64 v3.l.s.n), .lst true 1 (Is v3.l.s.fr), .lst true 1 (Is v3.l.s.to), .lst true 1 (Is v3.l.s.id), .lst true 1 (Ls v3.l.s.cs), .val (.int .i64 v3.l.t.n), .lst true 1 (Is v3.l.t.fr), .lst true 1 (Is v3.l.t.to), .lst true 1 (Is v3.l.t.id), .lst true 1 (Ls v3.l.t.cs), .lst true 1 (Is v3.l.ob), .lst true 1 (Is v3.l.ar), .val (.int .i64 v3.r.s.n), .lst true 1 (Is v3.r.s.fr), .lst true 1 (Is v3.r.s.to), .lst true 1 (Is v3.r.s.id), .lst true 1 (Ls v3.r.s.cs), .val (.int .i64 v3.r.t.n), .lst true 1 (Is v3.r.t.fr), .lst true 1 (Is v3.r.t.to), .lst true 1 (Is v3.r.t.id), .lst true 1 (Ls v3.r.t.cs), .lst true 1 (Is v3.r.ob), .lst true 1 (Is v3.r.ar), .lst true 1 (Is v3.u), .lst true 1 (Is v3.k)], [1, 2, 3, 4, 5, 6, 7, 8, 9, 10, 11, 12, 13, 14, 15, 16, 17, 18, 19, 20, 21, 22], by simp [Adj.cells, Fn.cells, IA, I1, LA, L1, BA, B1, EA, E1, E2, eB, eI, eL], by simp, (UpL.refl _)⟩
end Go.Vc.T

set_option maxRecDepth 100000
set_option linter.unusedSimpArgs false
set_option linter.unusedVariables false
namespace Go.Vc.T
open Go Go.Vc Go.Proofs
noncomputable def s_i_OppositeAdjunction (a_ : Adj) : Option (Adj × Int) :=
 (s_i_Adjunction_isAdjunction a_).bind fun v1 =>
 if ¬ (v1 = true) then
   some ((⟨(⟨(⟨0, [], [], [], []⟩ : Cat), (⟨0, [], [], [], []⟩ : Cat), [], []⟩ : Fn), (⟨(⟨0, [], [], [], []⟩ : Cat), (⟨0, [], [], [], []⟩ : Cat), [], []⟩ : Fn), [], []⟩ : Adj), 1)
 else
   (s_i_Adjunction_opposite a_).bind fun v3 =>
   some (v3, 0)
set_option maxHeartbeats 4000000 in
theorem w_i_OppositeAdjunction (a_ : Adj) (r : Adj × Int) (h : s_i_OppositeAdjunction a_ = some r) : Contract Try.prog 63 [.agg (a_.cells true)] (.tup [.agg (r.1.cells true), .val (.int .i64 r.2)]) := by
 refine contract_introG (rvs := [.cell 2 37, .tmp 3]) (rs := [.agg (r.1.cells true), .val (.int .i64 r.2)]) Try.func63 rfl rfl rfl rfl (by simp [Try.f63]) fun F hN hP => ?_
 unfold s_i_OppositeAdjunction at h
 refine w_seq ?_
 refine w_run mo (by rw [hN]; decide) fun K hK => ?_
 simp [-guardE_b, -Is_at, -Is_at', -Ls_at, -Ls_at', eL, eI, allInts, eP_Adj, Adj.cells]
 repeat (with_reducible refine And.intro ?_ ?_; · first | assumption | omega | (simp; done) | (simp; omega) | simp_all)
 refine hK _ ?_
 clear hK K
 refine tn ?_
 refine w_weak (st' := ⟨[(1, .adr 0 0 0), (2, .adr 1 0 0)], [(0, .mix 26 [(Adj.cells true a_)]), (1, .mix 26 [[.val (.int .i64 0), .val (.slice none 0 0), .val (.slice none 0 0), .val (.slice none 0 0), .val (.slice none 0 0), .val (.int .i64 0), .val (.slice none 0 0), .val (.slice none 0 0), .val (.slice none 0 0), .val (.slice none 0 0), .val (.slice none 0 0), .val (.slice none 0 0), .val (.int .i64 0), .val (.slice none 0 0), .val (.slice none 0 0), .val (.slice none 0 0), .val (.slice none 0 0), .val (.int .i64 0), .val (.slice none 0 0), .val (.slice none 0 0), .val (.slice none 0 0), .val (.slice none 0 0), .val (.slice none 0 0), .val (.slice none 0 0), .val (.slice none 0 0), .val (.slice none 0 0)]])], 2⟩) (Wk.r1 [(0, 0), (1, 1)] (by simp [hP, hhOk, back, Adj.cells, IA, I1, LA, L1, BA, B1, EA, E1, E2, eB, eI, eL])) ?_
 refine w_seq ?_
 refine w_seq ?_
 refine w_run mo (by rw [hN]; decide) fun K hK => ?_
 simp [-guardE_b, -Is_at, -Is_at', -Ls_at, -Ls_at', eL, eI, allInts, eP_Adj, Adj.cells]
 repeat (with_reducible refine And.intro ?_ ?_; · first | assumption | omega | (simp; done) | (simp; omega) | simp_all)
 replace h := bind_some h
 obtain ⟨v1, hv1, h⟩ := h
 refine callA_intro (w_i_Adjunction_isAdjunction _ v1 hv1) (.cons (.field rfl (by simp [Adj.cells]) (.cons .val (.cons .lst (.cons .lst (.cons .lst (.cons .lst (.cons .val (.cons .lst (.cons .lst (.cons .lst (.cons .lst (.cons .lst (.cons .lst (.cons .val (.cons .lst (.cons .lst (.cons .lst (.cons .lst (.cons .val (.cons .lst (.cons .lst (.cons .lst (.cons .lst (.cons .lst (.cons .lst (.cons .lst (.cons .lst .nil))))))))))))))))))))))))))) .nil) ?_
 simp [-guardE_b, -Is_at, -Is_at', -Ls_at, -Ls_at', unk, unA, unE, unT, unC, flat, eL, eI, allInts, eP_Adj, Adj.cells]
 repeat (with_reducible refine And.intro ?_ ?_; · first | assumption | omega | (simp; done) | (simp; omega) | simp_all)
 refine hK _ ?_
 clear hK K
 refine tn ?_
 refine w_weak (st' := ⟨[(1, .adr 0 0 0), (2, .adr 1 0 0), (5, .val (.bool (!v1)))], [(0, .mix 26 [(Adj.cells true a_)]), (1, .mix 26 [[.val (.int .i64 0), .val (.slice none 0 0), .val (.slice none 0 0), .val (.slice none 0 0), .val (.slice none 0 0), .val (.int .i64 0), .val (.slice none 0 0), .val (.slice none 0 0), .val (.slice none 0 0), .val (.slice none 0 0), .val (.slice none 0 0), .val (.slice none 0 0), .val (.int .i64 0), .val (.slice none 0 0), .val (.slice none 0 0), .val (.slice none 0 0), .val (.slice none 0 0), .val (.int .i64 0), .val (.slice none 0 0), .val (.slice none 0 0), .val (.slice none 0 0), .val (.slice none 0 0), .val (.slice none 0 0), .val (.slice none 0 0), .val (.slice none 0 0), .val (.slice none 0 0)]])], 2⟩) (Wk.r1 [(0, 0), (1, 1)] (by simp [hP, hhOk, back, Adj.cells, IA, I1, LA, L1, BA, B1, EA, E1, E2, eB, eI, eL])) ?_
 refine w_cond rfl (fun g => ?_) fun g => ?_
 · have g2 : ¬ (v1 = true) := by first | simpa using g | (simp at g; exact g) | (simp at g; omega)
   clear g
   replace h := if_l g2 h
   refine w_seq ?_
   refine w_run mo (by rw [hN]; decide) fun K hK => ?_
   simp [-guardE_b, -Is_at, -Is_at', -Ls_at, -Ls_at', eL, eI, allInts, eP_Adj, Adj.cells]
   repeat (with_reducible refine And.intro ?_ ?_; · first | assumption | omega | (simp; done) | (simp; omega) | simp_all)
   refine hK _ ?_
   clear hK K
   refine tn ?_
   refine w_weak (st' := ⟨[(2, .adr 0 0 0), (3, .val (.int .i64 1))], [(0, .mix 26 [[.val (.int .i64 0), .val (.slice none 0 0), .val (.slice none 0 0), .val (.slice none 0 0), .val (.slice none 0 0), .val (.int .i64 0), .val (.slice none 0 0), .val (.slice none 0 0), .val (.slice none 0 0), .val (.slice none 0 0), .val (.slice none 0 0), .val (.slice none 0 0), .val (.int .i64 0), .val (.slice none 0 0), .val (.slice none 0 0), .val (.slice none 0 0), .val (.slice none 0 0), .val (.int .i64 0), .val (.slice none 0 0), .val (.slice none 0 0), .val (.slice none 0 0), .val (.slice none 0 0), .val (.slice none 0 0), .val (.slice none 0 0), .val (.slice none 0 0), .val (.slice none 0 0)]])], 1⟩) (Wk.r1 [(1, 0)] (by simp [hP, hhOk, back, Adj.cells, IA, I1, LA, L1, BA, B1, EA, E1, E2, eB, eI, eL])) ?_
   refine w_ret ?_
   refine tr ?_
   have hr := Option.some.inj h
   rw [← hr]
   refine ⟨_, (.cell tf_37 rfl rfl rfl (by simp) (by simp) (.tmp .nil)), ?_⟩
   refine ⟨(.agg rfl (.one rfl rfl .nil)), [.val (.int .i64 0), .val (.slice none 0 0), .val (.slice none 0 0), .val (.slice none 0 0), .val (.slice none 0 0), .val (.int .i64 0), .val (.slice none 0 0), .val (.slice none 0 0), .val (.slice none 0 0), .val (.slice none 0 0), .val (.slice none 0 0), .val (.slice none 0 0), .val (.int .i64 0), .val (.slice none 0 0), .val (.slice none 0 0), .val (.slice none 0 0), .val (.slice none 0 0), .val (.int .i64 0), .val (.slice none 0 0), .val (.slice none 0 0), .val (.slice none 0 0), .val (.slice none 0 0), .val (.slice none 0 0), .val (.slice none 0 0), .val (.slice none 0 0), .val (.slice none 0 0), .val (.int .i64 1)], [], by simp [Adj.cells, IA, I1, LA, L1, BA, B1, EA, E1, E2, eB, eI, eL], by simp, (.cons .refl (.cons .nil (.cons .nil (.cons .nil (.cons .nil (.cons .refl (.cons .nil (.cons .nil (.cons .nil (.cons .nil (.cons .nil (.cons .nil (.cons .refl (.cons .nil (.cons .nil (.cons .nil (.cons .nil (.cons .refl (.cons .nil (.cons .nil (.cons .nil (.cons .nil (.cons .nil (.cons .nil (.cons .nil (.cons .nil (.cons .refl .nil)))))))))))))))))))))))))))⟩
 have g2 : ¬ (¬ (v1 = true)) := by first | simpa using g | (simp at g; exact g) | (simp at g; omega)
 clear g
 replace h := if_r g2 h
 refine w_skip ?_
 refine tn ?_
 refine w_seq ?_
 refine w_run mo (by rw [hN]; decide) fun K hK => ?_
 simp [-guardE_b, -Is_at, -Is_at', -Ls_at, -Ls_at', eL, eI, allInts, eP_Adj, Adj.cells]
 repeat (with_reducible refine And.intro ?_ ?_; · first | assumption | omega | (simp; done) | (simp; omega) | simp_all)
 replace h := bind_some h
 obtain ⟨v3, hv3, h⟩ := h
 refine callA_intro (w_i_Adjunction_opposite _ v3 hv3) (.cons (.field rfl (by simp [Adj.cells]) (.cons .val (.cons .lst (.cons .lst (.cons .lst (.cons .lst (.cons .val (.cons .lst (.cons .lst (.cons .lst (.cons .lst (.cons .lst (.cons .lst (.cons .val (.cons .lst (.cons .lst (.cons .lst (.cons .lst (.cons .val (.cons .lst (.cons .lst (.cons .lst (.cons .lst (.cons .lst (.cons .lst (.cons .lst (.cons .lst .nil))))))))))))))))))))))))))) .nil) ?_
 simp [-guardE_b, -Is_at, -Is_at', -Ls_at, -Ls_at', unk, unA, unE, unT, unC, flat, eL, eI, allInts, eP_Adj, Adj.cells]
 repeat (with_reducible refine And.intro ?_ ?_; · first | assumption | omega | (simp; done) | (simp; omega) | simp_all)
 refine hK _ ?_
 clear hK K
 refine tn ?_
 refine w_weak (st' := ⟨[(2, .adr 0 0 0), (3, .val (.int .i64 0))], [(0, .mix 26 [[.val (.int .i64 v3.l.s.n), .own 1 0 v3.l.s.fr.length, .own 2 0 v3.l.s.to.length, .own 3 0 v3.l.s.id.length, .own 4 0 v3.l.s.cs.length, .val (.int .i64 v3.l.t.n), .own 5 0 v3.l.t.fr.length, .own 6 0 v3.l.t.to.length, .own 7 0 v3.l.t.id.length, .own 8 0 v3.l.t.cs.length, .own 9 0 v3.l.ob.length, .own 10 0 v3.l.ar.length, .val (.int .i64 v3.r.s.n), .own 11 0 v3.r.s.fr.length, .own 12 0 v3.r.s.to.length, .own 13 0 v3.r.s.id.length, .own 14 0 v3.r.s.cs.length, .val (.int .i64 v3.r.t.n), .own 15 0 v3.r.t.fr.length, .own 16 0 v3.r.t.to.length, .own 17 0 v3.r.t.id.length, .own 18 0 v3.r.t.cs.length, .own 19 0 v3.r.ob.length, .own 20 0 v3.r.ar.length, .own 21 0 v3.u.length, .own 22 0 v3.k.length]]), (1, .row 1 (Is v3.l.s.fr)), (2, .row 1 (Is v3.l.s.to)), (3, .row 1 (Is v3.l.s.id)), (4, .row 1 (Ls v3.l.s.cs)), (5, .row 1 (Is v3.l.t.fr)), (6, .row 1 (Is v3.l.t.to)), (7, .row 1 (Is v3.l.t.id)), (8, .row 1 (Ls v3.l.t.cs)), (9, .row 1 (Is v3.l.ob)), (10, .row 1 (Is v3.l.ar)), (11, .row 1 (Is v3.r.s.fr)), (12, .row 1 (Is v3.r.s.to)), (13, .row 1 (Is v3.r.s.id)), (14, .row 1 (Ls v3.r.s.cs)), (15, .row 1 (Is v3.r.t.fr)), (16, .row 1 (Is v3.r.t.to)), (17, .row 1 (Is v3.r.t.id)), (18, .row 1 (Ls v3.r.t.cs)), (19, .row 1 (Is v3.r.ob)), (20, .row 1 (Is v3.r.ar)), (21, .row 1 (Is v3.u)), (22, .row 1 (Is v3.k))], 23⟩) (Wk.r1 [(1, 0), (3, 1), (4, 2), (5, 3), (6, 4), (8, 5), (9, 6), (10, 7), (11, 8), (12, 9), (13, 10), (15, 11), (16, 12), (17, 13), (18, 14), (20, 15), (21, 16), (22, 17), (23, 18), (24, 19), (25, 20), (26, 21), (27, 22)] (by simp [hP, hhOk, back, Adj.cells, IA, I1, LA, L1, BA, B1, EA, E1, E2, eB, eI, eL])) ?_
 refine w_ret ?_
 have hr := Option.some.inj h
 rw [← hr]
 refine ⟨_, (.cell tf_37 rfl rfl rfl (by simp) (by simp) (.tmp .nil)), ?_⟩
 refine ⟨(.agg rfl (.one rfl rfl .nil)), [.val (.int .i64 v3.l.s.n), .lst true 1 (Is v3.l.s.fr), .lst true 1 (Is v3.l.s.to), .lst true 1 (Is v3.l.s.id), .lst true 1 (Ls v3.l.s.cs), .val (.int .i64 v3.l.t.n), .lst true 1 (Is v3.l.t.fr), .lst true 1 (Is v3.l.t.to), .lst true 1 (Is v3.l.t.id), .lst true 1 (Ls v3.l.t.cs), .lst true 1 (Is v3.l.ob), .lst true 1 (Is v3.l.ar), .val (.int .i64 v3.r.s.n), .lst true 1 (Is v3.r.s.fr), .lst true 1 (Is v3.r.s.to), .lst true 1 (Is v3.r.s.id), .lst true 1 (Ls v3.r.s.cs), .val (.int .i64 v3.r.t.n), .lst true 1 (Is v3.r.t.fr), .lst true 1 (Is v3.r.t.to), .lst true 1 (Is v3.r.t.id), .lst true 1 (Ls v3.r.t.cs), .lst true 1 (Is v3.r.ob), .lst true 1 (Is v3.r.ar), .lst true 1 (Is v3.u), .lst true 1 (Is v3.k), .val (.int .i64 0)], [1, 2, 3, 4, 5, 6, 7, 8, 9, 10, 11, 12, 13, 14, 15, 16, 17, 18, 19, 20, 21, 22], by simp [Adj.cells, IA, I1, LA, L1, BA, B1, EA, E1, E2, eB, eI, eL], by simp, (UpL.refl _)⟩
end Go.Vc.T

set_option maxRecDepth 100000
set_option linter.unusedSimpArgs false
set_option linter.unusedVariables false
namespace Go.Vc.T
open Go Go.Vc Go.Proofs
noncomputable def s_s_l03Op (c_ : Cat) : Option Cat :=
 (s_s_l01Own c_.to).bind fun v1 =>
 (s_s_l01Own c_.fr).bind fun v2 =>
 (s_s_l01Own c_.id).bind fun v3 =>
 (loopF (σ := List (List Int) × Int) (ε := List (List Int)) (fun s20 =>
   if s20.2 < (c_.fr.length : Int) then
     (loopF (σ := List Int × Int) (ε := List Int) (fun s28 =>
       if s28.2 < (c_.fr.length : Int) then
         ass (0 ≤ s28.2 ∧ s28.2 < (c_.cs.length : Int)) <|
         ass (0 ≤ s20.2 ∧ s20.2 < ((rx c_.cs s28.2).length : Int)) <|
         ass ((s28.1 ++ [ix (rx c_.cs s28.2) s20.2]).length ≤ 1073741824) <|
         ass (B64 (s28.2 + 1)) <|
         some (Ctl.next (s28.1 ++ [ix (rx c_.cs s28.2) s20.2], s28.2 + 1))
       else
         some (Ctl.ret s28.1)) fuel ([], 0)).bind fun b22 =>
     ass ((s20.1 ++ [b22]).length ≤ 1073741824) <|
     ass (B64 (s20.2 + 1)) <|
     some (Ctl.next (s20.1 ++ [b22], s20.2 + 1))
   else
     some (Ctl.ret s20.1)) fuel ([], 0)).bind fun b4 =>
 some (⟨c_.n, v1, v2, v3, b4⟩ : Cat)
set_option maxHeartbeats 4000000 in
theorem w_s_l03Op (c_ : Cat) (r : Cat) (h : s_s_l03Op c_ = some r) : Contract Try.prog 197 [.agg (c_.cells true)] (.agg (r.cells true)) := by
 refine contract_introG (rvs := [.cell 2 33]) (rs := [.agg (r.cells true)]) Try.func197 rfl rfl rfl rfl (by simp [Try.f197]) fun F hN hP => ?_
 unfold s_s_l03Op at h
 refine w_seq ?_
 refine w_run mo (by rw [hN]; decide) fun K hK => ?_
 simp [-guardE_b, -Is_at, -Is_at', -Ls_at, -Ls_at', eL, eI, allInts, eP_Cat, Cat.cells]
 repeat (with_reducible refine And.intro ?_ ?_; · first | assumption | omega | (simp; done) | (simp; omega) | simp_all)
 refine hK _ ?_
 clear hK K
 refine tn ?_
 refine w_weak (st' := ⟨[(1, .adr 0 0 0), (2, .adr 1 0 0)], [(0, .mix 5 [(Cat.cells true c_)]), (1, .mix 5 [[.val (.int .i64 0), .val (.slice none 0 0), .val (.slice none 0 0), .val (.slice none 0 0), .val (.slice none 0 0)]])], 2⟩) (Wk.r1 [(0, 0), (1, 1)] (by simp [hP, hhOk, back, Cat.cells, IA, I1, LA, L1, BA, B1, EA, E1, E2, eB, eI, eL])) ?_
 refine w_seq ?_
 refine w_run mo (by rw [hN]; decide) fun K hK => ?_
 simp [-guardE_b, -Is_at, -Is_at', -Ls_at, -Ls_at', eL, eI, allInts, eP_Cat, Cat.cells]
 repeat (with_reducible refine And.intro ?_ ?_; · first | assumption | omega | (simp; done) | (simp; omega) | simp_all)
 replace h := bind_some h
 obtain ⟨v1, hv1, h⟩ := h
 refine callA_intro (w_s_l01Own _ v1 hv1) (.cons .lst .nil) ?_
 simp [-guardE_b, -Is_at, -Is_at', -Ls_at, -Ls_at', unk, unA, unE, unT, unC, flat, eL, eI, allInts, eP_Cat, Cat.cells]
 repeat (with_reducible refine And.intro ?_ ?_; · first | assumption | omega | (simp; done) | (simp; omega) | simp_all)
 replace h := bind_some h
 obtain ⟨v2, hv2, h⟩ := h
 refine callA_intro (w_s_l01Own _ v2 hv2) (.cons .lst .nil) ?_
 simp [-guardE_b, -Is_at, -Is_at', -Ls_at, -Ls_at', unk, unA, unE, unT, unC, flat, eL, eI, allInts, eP_Cat, Cat.cells]
 repeat (with_reducible refine And.intro ?_ ?_; · first | assumption | omega | (simp; done) | (simp; omega) | simp_all)
 replace h := bind_some h
 obtain ⟨v3, hv3, h⟩ := h
 refine callA_intro (w_s_l01Own _ v3 hv3) (.cons .lst .nil) ?_
 simp [-guardE_b, -Is_at, -Is_at', -Ls_at, -Ls_at', unk, unA, unE, unT, unC, flat, eL, eI, allInts, eP_Cat, Cat.cells]
 repeat (with_reducible refine And.intro ?_ ?_; · first | assumption | omega | (simp; done) | (simp; omega) | simp_all)
 refine hK _ ?_
 clear hK K
 refine tn ?_
 refine w_weak (st' := ⟨[(1, .adr 0 0 0), (2, .adr 1 0 0), (3, .adr 2 0 0)], [(0, .mix 5 [(Cat.cells true c_)]), (1, .mix 5 [[.val (.int .i64 0), .val (.slice none 0 0), .val (.slice none 0 0), .val (.slice none 0 0), .val (.slice none 0 0)]]), (2, .mix 5 [[.val (.int .i64 c_.n), .own 3 0 v1.length, .own 4 0 v2.length, .own 5 0 v3.length, .own 6 0 0]]), (3, .row 1 (Is v1)), (4, .row 1 (Is v2)), (5, .row 1 (Is v3)), (6, .mix 1 [])], 7⟩) (Wk.r1 [(0, 0), (1, 1), (6, 2), (2, 3), (3, 4), (4, 5), (5, 6)] (by simp [hP, hhOk, back, Cat.cells, IA, I1, LA, L1, BA, B1, EA, E1, E2, eB, eI, eL])) ?_
 refine w_seq ?_
 refine w_seq ?_
 refine w_run mo (by rw [hN]; decide) fun K hK => ?_
 simp [-guardE_b, -Is_at, -Is_at', -Ls_at, -Ls_at', eL, eI, allInts, eP_Cat, Cat.cells]
 repeat (with_reducible refine And.intro ?_ ?_; · first | assumption | omega | (simp; done) | (simp; omega) | simp_all)
 refine hK _ ?_
 clear hK K
 refine tn ?_
 refine w_weak (st' := ⟨[(1, .adr 0 0 0), (2, .adr 1 0 0), (3, .adr 2 0 0), (4, .val (.int .i64 0))], [(0, .mix 5 [(Cat.cells true c_)]), (1, .mix 5 [[.val (.int .i64 0), .val (.slice none 0 0), .val (.slice none 0 0), .val (.slice none 0 0), .val (.slice none 0 0)]]), (2, .mix 5 [[.val (.int .i64 c_.n), .own 3 0 v1.length, .own 4 0 v2.length, .own 5 0 v3.length, .own 6 0 0]]), (3, .row 1 (Is v1)), (4, .row 1 (Is v2)), (5, .row 1 (Is v3)), (6, .mix 1 [])], 7⟩) (Wk.r1 [(0, 0), (1, 1), (2, 2), (3, 3), (4, 4), (5, 5), (6, 6)] (by simp [hP, hhOk, back, Cat.cells, IA, I1, LA, L1, BA, B1, EA, E1, E2, eB, eI, eL])) ?_
 replace h := bind_some h
 obtain ⟨e4, h, h4⟩ := h
 refine w_joinT (fun b4 : List (List Int) => ⟨[(2, .adr 0 0 0), (3, .adr 1 0 0)], [(0, .mix 5 [[.val (.int .i64 0), .val (.slice none 0 0), .val (.slice none 0 0), .val (.slice none 0 0), .val (.slice none 0 0)]]), (1, .mix 5 [[.val (.int .i64 c_.n), .own 2 0 v1.length, .own 3 0 v2.length, .own 4 0 v3.length, .own 5 0 b4.length]]), (2, .row 1 (Is v1)), (3, .row 1 (Is v2)), (4, .row 1 (Is v3)), (5, .row 1 (Ls b4))], 6⟩) (fun b4 => b4 = e4) ?_ ?_
 · refine w_block ?_
   refine w_loopF h (fun s20 : List (List Int) × Int => ⟨[(1, .adr 0 0 0), (2, .adr 1 0 0), (3, .adr 2 0 0), (4, .val (.int .i64 s20.2))], [(0, .mix 5 [(Cat.cells true c_)]), (1, .mix 5 [[.val (.int .i64 0), .val (.slice none 0 0), .val (.slice none 0 0), .val (.slice none 0 0), .val (.slice none 0 0)]]), (2, .mix 5 [[.val (.int .i64 c_.n), .own 3 0 v1.length, .own 4 0 v2.length, .own 5 0 v3.length, .own 6 0 s20.1.length]]), (3, .row 1 (Is v1)), (4, .row 1 (Is v2)), (5, .row 1 (Is v3)), (6, .row 1 (Ls s20.1))], 7⟩) (wk_tr ⟨[(1, .adr 0 0 0), (2, .adr 1 0 0), (3, .adr 2 0 0), (4, .val (.int .i64 0))], [(0, .mix 5 [(Cat.cells true c_)]), (1, .mix 5 [[.val (.int .i64 0), .val (.slice none 0 0), .val (.slice none 0 0), .val (.slice none 0 0), .val (.slice none 0 0)]]), (2, .mix 5 [[.val (.int .i64 c_.n), .own 3 0 v1.length, .own 4 0 v2.length, .own 5 0 v3.length, .own 6 0 0]]), (3, .row 1 (Is v1)), (4, .row 1 (Is v2)), (5, .row 1 (Is v3)), (6, .row 1 (Ls []))], 7⟩ (Wk.nils [] (by simp) (by simp) (by simp [nlA]) (by simp [entN, nlL, nlA, Cat.cells, IA, I1, LA, L1, BA, B1, EA, E1, E2, eB, eI, eL]) (by simp)) (Wk.r1 [(0, 0), (1, 1), (2, 2), (3, 3), (4, 4), (5, 5), (6, 6)] (by simp [hP, hhOk, back, Cat.cells, IA, I1, LA, L1, BA, B1, EA, E1, E2, eB, eI, eL]))) ?_
   clear h
   intro k20 s20 c20 h hk20
   refine w_seq ?_
   refine w_seq ?_
   refine w_run mo (by rw [hN]; decide) fun K hK => ?_
   simp [-guardE_b, -Is_at, -Is_at', -Ls_at, -Ls_at', eL, eI, allInts, eP_Cat, Cat.cells]
   repeat (with_reducible refine And.intro ?_ ?_; · first | assumption | omega | (simp; done) | (simp; omega) | simp_all)
   refine hK _ ?_
   clear hK K
   refine tn ?_
   refine w_weak (st' := ⟨[(1, .adr 0 0 0), (2, .adr 1 0 0), (3, .adr 2 0 0), (4, .val (.int .i64 s20.2)), (24, .val (.bool (decide (s20.2 < (c_.fr.length : Int)))))], [(0, .mix 5 [(Cat.cells true c_)]), (1, .mix 5 [[.val (.int .i64 0), .val (.slice none 0 0), .val (.slice none 0 0), .val (.slice none 0 0), .val (.slice none 0 0)]]), (2, .mix 5 [[.val (.int .i64 c_.n), .own 3 0 v1.length, .own 4 0 v2.length, .own 5 0 v3.length, .own 6 0 s20.1.length]]), (3, .row 1 (Is v1)), (4, .row 1 (Is v2)), (5, .row 1 (Is v3)), (6, .row 1 (Ls s20.1))], 7⟩) (Wk.r1 [(0, 0), (1, 1), (2, 2), (3, 3), (4, 4), (5, 5), (6, 6)] (by simp [hP, hhOk, back, Cat.cells, IA, I1, LA, L1, BA, B1, EA, E1, E2, eB, eI, eL])) ?_
   refine w_cond rfl (fun g => ?_) fun g => ?_
   · have g21 : s20.2 < (c_.fr.length : Int) := by first | simpa using g | (simp at g; exact g) | (simp at g; omega)
     clear g
     replace h := if_l g21 h
     refine w_skip ?_
     refine tn ?_
     refine w_seq ?_
     refine w_block ?_
     refine w_seq ?_
     refine w_run mo (by rw [hN]; decide) fun K hK => ?_
     simp [-guardE_b, -Is_at, -Is_at', -Ls_at, -Ls_at', eL, eI, allInts, eP_Cat, Cat.cells]
     repeat (with_reducible refine And.intro ?_ ?_; · first | assumption | omega | (simp; done) | (simp; omega) | simp_all)
     refine hK _ ?_
     clear hK K
     refine tn ?_
     refine w_weak (st' := ⟨[(1, .adr 0 0 0), (2, .adr 1 0 0), (3, .adr 2 0 0), (4, .val (.int .i64 s20.2)), (5, .own 7 0 0)], [(0, .mix 5 [(Cat.cells true c_)]), (1, .mix 5 [[.val (.int .i64 0), .val (.slice none 0 0), .val (.slice none 0 0), .val (.slice none 0 0), .val (.slice none 0 0)]]), (2, .mix 5 [[.val (.int .i64 c_.n), .own 3 0 v1.length, .own 4 0 v2.length, .own 5 0 v3.length, .own 6 0 s20.1.length]]), (3, .row 1 (Is v1)), (4, .row 1 (Is v2)), (5, .row 1 (Is v3)), (6, .row 1 (Ls s20.1)), (7, .mix 1 [])], 8⟩) (Wk.r1 [(0, 0), (1, 1), (2, 2), (3, 3), (4, 4), (5, 5), (6, 6), (7, 7)] (by simp [hP, hhOk, back, Cat.cells, IA, I1, LA, L1, BA, B1, EA, E1, E2, eB, eI, eL])) ?_
     refine w_seq ?_
     refine w_seq ?_
     refine w_run mo (by rw [hN]; decide) fun K hK => ?_
     simp [-guardE_b, -Is_at, -Is_at', -Ls_at, -Ls_at', eL, eI, allInts, eP_Cat, Cat.cells]
     repeat (with_reducible refine And.intro ?_ ?_; · first | assumption | omega | (simp; done) | (simp; omega) | simp_all)
     refine hK _ ?_
     clear hK K
     refine tn ?_
     refine w_weak (st' := ⟨[(1, .adr 0 0 0), (2, .adr 1 0 0), (3, .adr 2 0 0), (4, .val (.int .i64 s20.2)), (5, .own 7 0 0), (6, .val (.int .i64 0))], [(0, .mix 5 [(Cat.cells true c_)]), (1, .mix 5 [[.val (.int .i64 0), .val (.slice none 0 0), .val (.slice none 0 0), .val (.slice none 0 0), .val (.slice none 0 0)]]), (2, .mix 5 [[.val (.int .i64 c_.n), .own 3 0 v1.length, .own 4 0 v2.length, .own 5 0 v3.length, .own 6 0 s20.1.length]]), (3, .row 1 (Is v1)), (4, .row 1 (Is v2)), (5, .row 1 (Is v3)), (6, .row 1 (Ls s20.1)), (7, .mix 1 [])], 8⟩) (Wk.r1 [(0, 0), (1, 1), (2, 2), (3, 3), (4, 4), (5, 5), (6, 6), (7, 7)] (by simp [hP, hhOk, back, Cat.cells, IA, I1, LA, L1, BA, B1, EA, E1, E2, eB, eI, eL])) ?_
     replace h := bind_some h
     obtain ⟨e22, h, h22⟩ := h
     refine w_joinT (fun b22 : List Int => ⟨[(1, .adr 0 0 0), (2, .adr 1 0 0), (3, .adr 2 0 0), (4, .val (.int .i64 s20.2)), (5, .own 7 0 b22.length)], [(0, .mix 5 [(Cat.cells true c_)]), (1, .mix 5 [[.val (.int .i64 0), .val (.slice none 0 0), .val (.slice none 0 0), .val (.slice none 0 0), .val (.slice none 0 0)]]), (2, .mix 5 [[.val (.int .i64 c_.n), .own 3 0 v1.length, .own 4 0 v2.length, .own 5 0 v3.length, .own 6 0 s20.1.length]]), (3, .row 1 (Is v1)), (4, .row 1 (Is v2)), (5, .row 1 (Is v3)), (6, .row 1 (Ls s20.1)), (7, .row 1 (Is b22))], 8⟩) (fun b22 => b22 = e22) ?_ ?_
     · refine w_block ?_
       refine w_loopF h (fun s28 : List Int × Int => ⟨[(1, .adr 0 0 0), (2, .adr 1 0 0), (3, .adr 2 0 0), (4, .val (.int .i64 s20.2)), (5, .own 7 0 s28.1.length), (6, .val (.int .i64 s28.2))], [(0, .mix 5 [(Cat.cells true c_)]), (1, .mix 5 [[.val (.int .i64 0), .val (.slice none 0 0), .val (.slice none 0 0), .val (.slice none 0 0), .val (.slice none 0 0)]]), (2, .mix 5 [[.val (.int .i64 c_.n), .own 3 0 v1.length, .own 4 0 v2.length, .own 5 0 v3.length, .own 6 0 s20.1.length]]), (3, .row 1 (Is v1)), (4, .row 1 (Is v2)), (5, .row 1 (Is v3)), (6, .row 1 (Ls s20.1)), (7, .row 1 (Is s28.1))], 8⟩) (wk_tr ⟨[(1, .adr 0 0 0), (2, .adr 1 0 0), (3, .adr 2 0 0), (4, .val (.int .i64 s20.2)), (5, .own 7 0 0), (6, .val (.int .i64 0))], [(0, .mix 5 [(Cat.cells true c_)]), (1, .mix 5 [[.val (.int .i64 0), .val (.slice none 0 0), .val (.slice none 0 0), .val (.slice none 0 0), .val (.slice none 0 0)]]), (2, .mix 5 [[.val (.int .i64 c_.n), .own 3 0 v1.length, .own 4 0 v2.length, .own 5 0 v3.length, .own 6 0 s20.1.length]]), (3, .row 1 (Is v1)), (4, .row 1 (Is v2)), (5, .row 1 (Is v3)), (6, .row 1 (Ls s20.1)), (7, .row 1 (Is []))], 8⟩ (Wk.nils [] (by simp) (by simp) (by simp [nlA]) (by simp [entN, nlL, nlA, Cat.cells, IA, I1, LA, L1, BA, B1, EA, E1, E2, eB, eI, eL]) (by simp)) (Wk.r1 [(0, 0), (1, 1), (2, 2), (3, 3), (4, 4), (5, 5), (6, 6), (7, 7)] (by simp [hP, hhOk, back, Cat.cells, IA, I1, LA, L1, BA, B1, EA, E1, E2, eB, eI, eL]))) ?_
       clear h
       intro k28 s28 c28 h hk28
       refine w_seq ?_
       refine w_seq ?_
       refine w_run mo (by rw [hN]; decide) fun K hK => ?_
       simp [-guardE_b, -Is_at, -Is_at', -Ls_at, -Ls_at', eL, eI, allInts, eP_Cat, Cat.cells]
       repeat (with_reducible refine And.intro ?_ ?_; · first | assumption | omega | (simp; done) | (simp; omega) | simp_all)
       refine hK _ ?_
       clear hK K
       refine tn ?_
       refine w_weak (st' := ⟨[(1, .adr 0 0 0), (2, .adr 1 0 0), (3, .adr 2 0 0), (4, .val (.int .i64 s20.2)), (5, .own 7 0 s28.1.length), (6, .val (.int .i64 s28.2)), (32, .val (.bool (decide (s28.2 < (c_.fr.length : Int)))))], [(0, .mix 5 [(Cat.cells true c_)]), (1, .mix 5 [[.val (.int .i64 0), .val (.slice none 0 0), .val (.slice none 0 0), .val (.slice none 0 0), .val (.slice none 0 0)]]), (2, .mix 5 [[.val (.int .i64 c_.n), .own 3 0 v1.length, .own 4 0 v2.length, .own 5 0 v3.length, .own 6 0 s20.1.length]]), (3, .row 1 (Is v1)), (4, .row 1 (Is v2)), (5, .row 1 (Is v3)), (6, .row 1 (Ls s20.1)), (7, .row 1 (Is s28.1))], 8⟩) (Wk.r1 [(0, 0), (1, 1), (2, 2), (3, 3), (4, 4), (5, 5), (6, 6), (7, 7)] (by simp [hP, hhOk, back, Cat.cells, IA, I1, LA, L1, BA, B1, EA, E1, E2, eB, eI, eL])) ?_
       refine w_cond rfl (fun g => ?_) fun g => ?_
       · have g29 : s28.2 < (c_.fr.length : Int) := by first | simpa using g | (simp at g; exact g) | (simp at g; omega)
         clear g
         replace h := if_l g29 h
         refine w_skip ?_
         refine tn ?_
         refine w_seq ?_
         refine w_block ?_
         refine w_run mo (by rw [hN]; decide) fun K hK => ?_
         replace h := ass_some h
         obtain ⟨a30, h⟩ := h
         replace h := ass_some h
         obtain ⟨a31, h⟩ := h
         replace h := ass_some h
         obtain ⟨a32, h⟩ := h
         try simp only [List.length_append, List.length_cons, List.length_nil] at a32
         simp [-guardE_b, -Is_at, -Is_at', -Ls_at, -Ls_at', eL, eI, allInts, eP_Cat, Cat.cells, at_L a30, at_I a31, a32]
         repeat (with_reducible refine And.intro ?_ ?_; · first | assumption | omega | (simp; done) | (simp; omega) | simp_all)
         refine hK _ ?_
         clear hK K
         refine bn ?_
         refine tn ?_
         refine w_weak (st' := ⟨[(1, .adr 0 0 0), (2, .adr 1 0 0), (3, .adr 2 0 0), (4, .val (.int .i64 s20.2)), (5, .own 7 0 ((s28.1 ++ [ix (rx c_.cs s28.2) s20.2]).length)), (6, .val (.int .i64 s28.2))], [(0, .mix 5 [(Cat.cells true c_)]), (1, .mix 5 [[.val (.int .i64 0), .val (.slice none 0 0), .val (.slice none 0 0), .val (.slice none 0 0), .val (.slice none 0 0)]]), (2, .mix 5 [[.val (.int .i64 c_.n), .own 3 0 v1.length, .own 4 0 v2.length, .own 5 0 v3.length, .own 6 0 s20.1.length]]), (3, .row 1 (Is v1)), (4, .row 1 (Is v2)), (5, .row 1 (Is v3)), (6, .row 1 (Ls s20.1)), (7, .row 1 (Is (s28.1 ++ [ix (rx c_.cs s28.2) s20.2])))], 8⟩) (Wk.r1 [(0, 0), (1, 1), (2, 2), (3, 3), (4, 4), (5, 5), (6, 6), (9, 7)] (by simp [hP, hhOk, back, Cat.cells, IA, I1, LA, L1, BA, B1, EA, E1, E2, eB, eI, eL])) ?_
         refine w_run mo (by rw [hN]; decide) fun K hK => ?_
         replace h := ass_some h
         obtain ⟨a33, h⟩ := h
         simp [-guardE_b, -Is_at, -Is_at', -Ls_at, -Ls_at', eL, eI, allInts, eP_Cat, Cat.cells, wrap_id a33]
         repeat (with_reducible refine And.intro ?_ ?_; · first | assumption | omega | (simp; done) | (simp; omega) | simp_all)
         refine hK _ ?_
         clear hK K
         cases h
         exact rn (s' := (s28.1 ++ [ix (rx c_.cs s28.2) s20.2], s28.2 + 1)) hk28 (Wk.r1 [(0, 0), (1, 1), (2, 2), (3, 3), (4, 4), (5, 5), (6, 6), (7, 7)] (by simp [hP, hhOk, back, Cat.cells, IA, I1, LA, L1, BA, B1, EA, E1, E2, eB, eI, eL]))
       have g29 : ¬ (s28.2 < (c_.fr.length : Int)) := by first | simpa using g | (simp at g; exact g) | (simp at g; omega)
       clear g
       replace h := if_r g29 h
       refine w_exit ?_
       refine tx ?_
       refine lx ?_
       refine bh ?_
       cases h
       exact jn (b := s28.1) hk28 (Wk.r1 [(0, 0), (1, 1), (2, 2), (3, 3), (4, 4), (5, 5), (6, 6), (7, 7)] (by simp [hP, hhOk, back, Cat.cells, IA, I1, LA, L1, BA, B1, EA, E1, E2, eB, eI, eL]))
     intro b22 hb22
     have h := h22
     rw [← hb22] at h
     clear h22
     try dsimp only at h
     refine w_run mo (by rw [hN]; decide) fun K hK => ?_
     replace h := ass_some h
     obtain ⟨a34, h⟩ := h
     try simp only [List.length_append, List.length_cons, List.length_nil] at a34
     simp [-guardE_b, -Is_at, -Is_at', -Ls_at, -Ls_at', eL, eI, allInts, eP_Cat, Cat.cells, a34]
     repeat (with_reducible refine And.intro ?_ ?_; · first | assumption | omega | (simp; done) | (simp; omega) | simp_all)
     refine hK _ ?_
     clear hK K
     refine bn ?_
     refine tn ?_
     refine w_weak (st' := ⟨[(1, .adr 0 0 0), (2, .adr 1 0 0), (3, .adr 2 0 0), (4, .val (.int .i64 s20.2))], [(0, .mix 5 [(Cat.cells true c_)]), (1, .mix 5 [[.val (.int .i64 0), .val (.slice none 0 0), .val (.slice none 0 0), .val (.slice none 0 0), .val (.slice none 0 0)]]), (2, .mix 5 [[.val (.int .i64 c_.n), .own 3 0 v1.length, .own 4 0 v2.length, .own 5 0 v3.length, .own 6 0 ((s20.1 ++ [b22]).length)]]), (3, .row 1 (Is v1)), (4, .row 1 (Is v2)), (5, .row 1 (Is v3)), (6, .row 1 (Ls (s20.1 ++ [b22])))], 7⟩) (Wk.r1 [(0, 0), (1, 1), (2, 2), (3, 3), (4, 4), (5, 5), (9, 6)] (by simp [hP, hhOk, back, Cat.cells, IA, I1, LA, L1, BA, B1, EA, E1, E2, eB, eI, eL])) ?_
     refine w_run mo (by rw [hN]; decide) fun K hK => ?_
     replace h := ass_some h
     obtain ⟨a35, h⟩ := h
     simp [-guardE_b, -Is_at, -Is_at', -Ls_at, -Ls_at', eL, eI, allInts, eP_Cat, Cat.cells, wrap_id a35]
     repeat (with_reducible refine And.intro ?_ ?_; · first | assumption | omega | (simp; done) | (simp; omega) | simp_all)
     refine hK _ ?_
     clear hK K
     cases h
     exact rn (s' := (s20.1 ++ [b22], s20.2 + 1)) hk20 (Wk.r1 [(0, 0), (1, 1), (2, 2), (3, 3), (4, 4), (5, 5), (6, 6)] (by simp [hP, hhOk, back, Cat.cells, IA, I1, LA, L1, BA, B1, EA, E1, E2, eB, eI, eL]))
   have g21 : ¬ (s20.2 < (c_.fr.length : Int)) := by first | simpa using g | (simp at g; exact g) | (simp at g; omega)
   clear g
   replace h := if_r g21 h
   refine w_exit ?_
   refine tx ?_
   refine lx ?_
   refine bh ?_
   cases h
   exact jn (b := s20.1) hk20 (Wk.r1 [(1, 0), (2, 1), (3, 2), (4, 3), (5, 4), (6, 5)] (by simp [hP, hhOk, back, Cat.cells, IA, I1, LA, L1, BA, B1, EA, E1, E2, eB, eI, eL]))
 intro b4 hb4
 have h := h4
 rw [← hb4] at h
 clear h4
 try dsimp only at h
 refine w_seq ?_
 refine w_run mo (by rw [hN]; decide) fun K hK => ?_
 simp [-guardE_b, -Is_at, -Is_at', -Ls_at, -Ls_at', eL, eI, allInts, eP_Cat, Cat.cells]
 repeat (with_reducible refine And.intro ?_ ?_; · first | assumption | omega | (simp; done) | (simp; omega) | simp_all)
 refine hK _ ?_
 clear hK K
 refine tn ?_
 refine w_weak (st' := ⟨[(2, .adr 0 0 0)], [(0, .mix 5 [[.val (.int .i64 c_.n), .own 1 0 v1.length, .own 2 0 v2.length, .own 3 0 v3.length, .own 4 0 b4.length]]), (1, .row 1 (Is v1)), (2, .row 1 (Is v2)), (3, .row 1 (Is v3)), (4, .row 1 (Ls b4))], 5⟩) (Wk.r1 [(0, 0), (2, 1), (3, 2), (4, 3), (5, 4)] (by simp [hP, hhOk, back, Cat.cells, IA, I1, LA, L1, BA, B1, EA, E1, E2, eB, eI, eL])) ?_
 refine w_ret ?_
 have hr := Option.some.inj h
 rw [← hr]
 refine ⟨_, (.cell tf_33 rfl rfl rfl (by simp) (by simp) .nil), ?_⟩
 refine ⟨(.agg rfl .nil), [.val (.int .i64 c_.n), .lst true 1 (Is v1), .lst true 1 (Is v2), .lst true 1 (Is v3), .lst true 1 (Ls b4)], [1, 2, 3, 4], by simp [Cat.cells, IA, I1, LA, L1, BA, B1, EA, E1, E2, eB, eI, eL], by simp, (UpL.refl _)⟩
end Go.Vc.T

set_option maxRecDepth 100000
set_option linter.unusedSimpArgs false
set_option linter.unusedVariables false
namespace Go.Vc.T
open Go Go.Vc Go.Proofs
noncomputable def s_s_l06Op (f_ : Fn) : Option Fn :=
 (s_s_l03Op f_.s).bind fun v1 =>
 (s_s_l03Op f_.t).bind fun v2 =>
 (s_s_l06Make v1 v2 f_.ob f_.ar).bind fun v3 =>
 some v3
set_option maxHeartbeats 4000000 in
theorem w_s_l06Op (f_ : Fn) (r : Fn) (h : s_s_l06Op f_ = some r) : Contract Try.prog 217 [.agg (f_.cells true)] (.agg (r.cells true)) := by
 refine contract_introG (rvs := [.cell 2 35]) (rs := [.agg (r.cells true)]) Try.func217 rfl rfl rfl rfl (by simp [Try.f217]) fun F hN hP => ?_
 unfold s_s_l06Op at h
 refine w_seq ?_
 refine w_run mo (by rw [hN]; decide) fun K hK => ?_
 simp [-guardE_b, -Is_at, -Is_at', -Ls_at, -Ls_at', eL, eI, allInts, eP_Cat, eP_Fn, Cat.cells, Fn.cells]
 repeat (with_reducible refine And.intro ?_ ?_; · first | assumption | omega | (simp; done) | (simp; omega) | simp_all)
 refine hK _ ?_
 clear hK K
 refine tn ?_
 refine w_weak (st' := ⟨[(1, .adr 0 0 0), (2, .adr 1 0 0)], [(0, .mix 12 [(Fn.cells true f_)]), (1, .mix 12 [[.val (.int .i64 0), .val (.slice none 0 0), .val (.slice none 0 0), .val (.slice none 0 0), .val (.slice none 0 0), .val (.int .i64 0), .val (.slice none 0 0), .val (.slice none 0 0), .val (.slice none 0 0), .val (.slice none 0 0), .val (.slice none 0 0), .val (.slice none 0 0)]])], 2⟩) (Wk.r1 [(0, 0), (1, 1)] (by simp [hP, hhOk, back, Cat.cells, Fn.cells, IA, I1, LA, L1, BA, B1, EA, E1, E2, eB, eI, eL])) ?_
 refine w_seq ?_
 refine w_run mo (by rw [hN]; decide) fun K hK => ?_
 simp [-guardE_b, -Is_at, -Is_at', -Ls_at, -Ls_at', eL, eI, allInts, eP_Cat, eP_Fn, Cat.cells, Fn.cells]
 repeat (with_reducible refine And.intro ?_ ?_; · first | assumption | omega | (simp; done) | (simp; omega) | simp_all)
 replace h := bind_some h
 obtain ⟨v1, hv1, h⟩ := h
 refine callA_intro (w_s_l03Op _ v1 hv1) (.cons (.aggL (.cons .val (.cons .lst (.cons .lst (.cons .lst (.cons .lst .nil)))))) .nil) ?_
 simp [-guardE_b, -Is_at, -Is_at', -Ls_at, -Ls_at', unk, unA, unE, unT, unC, flat, eL, eI, allInts, eP_Cat, eP_Fn, Cat.cells, Fn.cells]
 repeat (with_reducible refine And.intro ?_ ?_; · first | assumption | omega | (simp; done) | (simp; omega) | simp_all)
 replace h := bind_some h
 obtain ⟨v2, hv2, h⟩ := h
 refine callA_intro (w_s_l03Op _ v2 hv2) (.cons (.aggL (.cons .val (.cons .lst (.cons .lst (.cons .lst (.cons .lst .nil)))))) .nil) ?_
 simp [-guardE_b, -Is_at, -Is_at', -Ls_at, -Ls_at', unk, unA, unE, unT, unC, flat, eL, eI, allInts, eP_Cat, eP_Fn, Cat.cells, Fn.cells]
 repeat (with_reducible refine And.intro ?_ ?_; · first | assumption | omega | (simp; done) | (simp; omega) | simp_all)
 replace h := bind_some h
 obtain ⟨v3, hv3, h⟩ := h
 refine callA_intro (w_s_l06Make _ _ _ _ v3 hv3) (.cons (.aggL (.cons .val (.cons (.whole (by simp) (by simp) (by simp)) (.cons (.whole (by simp) (by simp) (by simp)) (.cons (.whole (by simp) (by simp) (by simp)) (.cons (.whole (by simp) (by simp) (by simp)) .nil)))))) (.cons (.aggL (.cons .val (.cons (.whole (by simp) (by simp) (by simp)) (.cons (.whole (by simp) (by simp) (by simp)) (.cons (.whole (by simp) (by simp) (by simp)) (.cons (.whole (by simp) (by simp) (by simp)) .nil)))))) (.cons .lst (.cons .lst .nil)))) ?_
 simp [-guardE_b, -Is_at, -Is_at', -Ls_at, -Ls_at', unk, unA, unE, unT, unC, flat, eL, eI, allInts, eP_Cat, eP_Fn, Cat.cells, Fn.cells]
 repeat (with_reducible refine And.intro ?_ ?_; · first | assumption | omega | (simp; done) | (simp; omega) | simp_all)
 refine hK _ ?_
 clear hK K
 refine tn ?_
 refine w_weak (st' := ⟨[(2, .adr 0 0 0)], [(0, .mix 12 [[.val (.int .i64 v3.s.n), .own 1 0 v3.s.fr.length, .own 2 0 v3.s.to.length, .own 3 0 v3.s.id.length, .own 4 0 v3.s.cs.length, .val (.int .i64 v3.t.n), .own 5 0 v3.t.fr.length, .own 6 0 v3.t.to.length, .own 7 0 v3.t.id.length, .own 8 0 v3.t.cs.length, .own 9 0 v3.ob.length, .own 10 0 v3.ar.length]]), (1, .row 1 (Is v3.s.fr)), (2, .row 1 (Is v3.s.to)), (3, .row 1 (Is v3.s.id)), (4, .row 1 (Ls v3.s.cs)), (5, .row 1 (Is v3.t.fr)), (6, .row 1 (Is v3.t.to)), (7, .row 1 (Is v3.t.id)), (8, .row 1 (Ls v3.t.cs)), (9, .row 1 (Is v3.ob)), (10, .row 1 (Is v3.ar))], 11⟩) (Wk.r1 [(1, 0), (13, 1), (14, 2), (15, 3), (16, 4), (18, 5), (19, 6), (20, 7), (21, 8), (22, 9), (23, 10)] (by simp [hP, hhOk, back, Cat.cells, Fn.cells, IA, I1, LA, L1, BA, B1, EA, E1, E2, eB, eI, eL])) ?_
 refine w_ret ?_
 have hr := Option.some.inj h
 rw [← hr]
 refine ⟨_, (.cell tf_35 rfl rfl rfl (by simp) (by simp) .nil), ?_⟩
 refine ⟨(.agg rfl .nil), [.val (.int .i64 v3.s.n), .lst true 1 (Is v3.s.fr), .lst true 1 (Is v3.s.to), .lst true 1 (Is v3.s.id), .lst true 1 (Ls v3.s.cs), .val (.int .i64 v3.t.n), .lst true 1 (Is v3.t.fr), .lst true 1 (Is v3.t.to), .lst true 1 (Is v3.t.id), .lst true 1 (Ls v3.t.cs), .lst true 1 (Is v3.ob), .lst true 1 (Is v3.ar)], [1, 2, 3, 4, 5, 6, 7, 8, 9, 10], by simp [Cat.cells, Fn.cells, IA, I1, LA, L1, BA, B1, EA, E1, E2, eB, eI, eL], by simp, (UpL.refl _)⟩
end Go.Vc.T
