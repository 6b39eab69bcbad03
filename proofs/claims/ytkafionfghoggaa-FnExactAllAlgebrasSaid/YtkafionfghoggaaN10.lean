/- A part of the proof: a verified generator of conditions, and what each function of the program does. -/
import Derived.Test.YtkafionfghoggaaN9
set_option maxRecDepth 100000
set_option linter.unusedSimpArgs false
set_option linter.unusedVariables false

set_option maxRecDepth 100000
set_option linter.unusedSimpArgs false
set_option linter.unusedVariables false
namespace Go.Vc.T
open Go Go.Vc Go.Proofs
noncomputable def s_i_areNatural (list_ : List Tra) : Option Bool :=
 (loopF (σ := Int) (ε := Unit ⊕ Bool) (fun s7 =>
   if s7 < (list_.length : Int) then
     ass (0 ≤ s7 ∧ s7 < (list_.length : Int)) <|
     (s_i_Transformation_isNatural (gx list_ s7)).bind fun v10 =>
     if ¬ (v10 = true) then
       some (Ctl.ret (Sum.inr false))
     else
       ass (B64 (s7 + 1)) <|
       some (Ctl.next (s7 + 1))
   else
     some (Ctl.ret (Sum.inl ()))) fuel 0).bind fun e1 =>
 match e1 with
 | .inl b1 =>
   some true
 | .inr p1 =>
   some p1
set_option maxHeartbeats 4000000 in
theorem w_i_areNatural (list_ : List Tra) (r : Bool) (h : s_i_areNatural list_ = some r) : Contract Try.prog 178 [.lst true 1 (Es eP_Tra list_)] (.val (.bool r)) := by
 refine contract_introG (rvs := [.tmp 2]) (rs := [.val (.bool r)]) Try.func178 rfl rfl rfl rfl (by simp [Try.f178]) fun F hN hP => ?_
 unfold s_i_areNatural at h
 refine w_seq ?_
 refine w_run mo (by rw [hN]; decide) fun K hK => ?_
 simp [-guardE_b, -Is_at, -Is_at', -Ls_at, -Ls_at', eL, eI, allInts, eP_Tra, Tra.cells]
 repeat (with_reducible refine And.intro ?_ ?_; · first | assumption | omega | (simp; done) | (simp; omega) | simp_all)
 refine hK _ ?_
 clear hK K
 refine tn ?_
 refine w_weak (st' := ⟨[(0, .lst true 1 (Es eP_Tra list_))], [], 0⟩) (Wk.r1 [] (by simp [hP, hhOk, back, Tra.cells, IA, I1, LA, L1, BA, B1, EA, E1, E2, eB, eI, eL])) ?_
 refine w_seq ?_
 refine w_seq ?_
 refine w_run mo (by rw [hN]; decide) fun K hK => ?_
 simp [-guardE_b, -Is_at, -Is_at', -Ls_at, -Ls_at', eL, eI, allInts, eP_Tra, Tra.cells]
 repeat (with_reducible refine And.intro ?_ ?_; · first | assumption | omega | (simp; done) | (simp; omega) | simp_all)
 refine hK _ ?_
 clear hK K
 refine tn ?_
 refine w_weak (st' := ⟨[(5, .lst true 1 (Es eP_Tra list_)), (6, .val (.int .i64 (list_.length : Int))), (7, .val (.int .i64 0))], [], 0⟩) (Wk.r1 [] (by simp [hP, hhOk, back, Tra.cells, IA, I1, LA, L1, BA, B1, EA, E1, E2, eB, eI, eL])) ?_
 replace h := bind_some h
 obtain ⟨e1, h, h1⟩ := h
 refine w_joinT (fun b1 : Unit => ⟨[], [], 0⟩) (fun b1 => Sum.inl b1 = e1) ?_ ?_
 · refine w_block ?_
   refine w_loopF h (fun s7 : Int => ⟨[(5, .lst true 1 (Es eP_Tra list_)), (6, .val (.int .i64 (list_.length : Int))), (7, .val (.int .i64 s7))], [], 0⟩) (Wk.r1 [] (by simp [hP, hhOk, back, Tra.cells, IA, I1, LA, L1, BA, B1, EA, E1, E2, eB, eI, eL])) ?_
   clear h
   intro k7 s7 c7 h hk7
   refine w_seq ?_
   refine w_run mo (by rw [hN]; decide) fun K hK => ?_
   simp [-guardE_b, -Is_at, -Is_at', -Ls_at, -Ls_at', eL, eI, allInts, eP_Tra, Tra.cells]
   repeat (with_reducible refine And.intro ?_ ?_; · first | assumption | omega | (simp; done) | (simp; omega) | simp_all)
   refine hK _ ?_
   clear hK K
   refine tn ?_
   refine w_weak (st' := ⟨[(5, .lst true 1 (Es eP_Tra list_)), (6, .val (.int .i64 (list_.length : Int))), (7, .val (.int .i64 s7)), (8, .val (.bool (decide (s7 < (list_.length : Int)))))], [], 0⟩) (Wk.r1 [] (by simp [hP, hhOk, back, Tra.cells, IA, I1, LA, L1, BA, B1, EA, E1, E2, eB, eI, eL])) ?_
   refine w_seq ?_
   refine w_cond rfl (fun g => ?_) fun g => ?_
   · have g8 : s7 < (list_.length : Int) := by first | simpa using g | (simp at g; exact g) | (simp at g; omega)
     clear g
     replace h := if_l g8 h
     refine w_skip ?_
     refine tn ?_
     refine w_seq ?_
     refine w_block ?_
     refine w_seq ?_
     refine w_run mo (by rw [hN]; decide) fun K hK => ?_
     replace h := ass_some h
     obtain ⟨a9, h⟩ := h
     simp [-guardE_b, -Is_at, -Is_at', -Ls_at, -Ls_at', eL, eI, allInts, eP_Tra, Tra.cells, at_E (c := eP_Tra) a9]
     repeat (with_reducible refine And.intro ?_ ?_; · first | assumption | omega | (simp; done) | (simp; omega) | simp_all)
     refine hK _ ?_
     clear hK K
     refine tn ?_
     refine w_weak (st' := ⟨[(4, .rptr (Tra.cells true (gx list_ s7))), (5, .lst true 1 (Es eP_Tra list_)), (6, .val (.int .i64 (list_.length : Int))), (7, .val (.int .i64 s7))], [], 0⟩) (Wk.r1 [] (by simp [hP, hhOk, back, Tra.cells, IA, I1, LA, L1, BA, B1, EA, E1, E2, eB, eI, eL])) ?_
     refine w_seq ?_
     refine w_run mo (by rw [hN]; decide) fun K hK => ?_
     simp [-guardE_b, -Is_at, -Is_at', -Ls_at, -Ls_at', eL, eI, allInts, eP_Tra, Tra.cells]
     repeat (with_reducible refine And.intro ?_ ?_; · first | assumption | omega | (simp; done) | (simp; omega) | simp_all)
     replace h := bind_some h
     obtain ⟨v10, hv10, h⟩ := h
     refine callA_intro (w_i_Transformation_isNatural _ v10 hv10) (.cons (.preT (by simp [Tra.cells])) .nil) ?_
     simp [-guardE_b, -Is_at, -Is_at', -Ls_at, -Ls_at', unk, unA, unE, unT, unC, flat, eL, eI, allInts, eP_Tra, Tra.cells]
     repeat (with_reducible refine And.intro ?_ ?_; · first | assumption | omega | (simp; done) | (simp; omega) | simp_all)
     refine hK _ ?_
     clear hK K
     refine tn ?_
     refine w_weak (st' := ⟨[(5, .lst true 1 (Es eP_Tra list_)), (6, .val (.int .i64 (list_.length : Int))), (7, .val (.int .i64 s7)), (13, .val (.bool (!v10)))], [], 0⟩) (Wk.r1 [] (by simp [hP, hhOk, back, Tra.cells, IA, I1, LA, L1, BA, B1, EA, E1, E2, eB, eI, eL])) ?_
     refine w_cond rfl (fun g => ?_) fun g => ?_
     · have g11 : ¬ (v10 = true) := by first | simpa using g | (simp at g; exact g) | (simp at g; omega)
       clear g
       replace h := if_l g11 h
       refine w_seq ?_
       refine w_run mo (by rw [hN]; decide) fun K hK => ?_
       simp [-guardE_b, -Is_at, -Is_at', -Ls_at, -Ls_at', eL, eI, allInts, eP_Tra, Tra.cells]
       repeat (with_reducible refine And.intro ?_ ?_; · first | assumption | omega | (simp; done) | (simp; omega) | simp_all)
       refine hK _ ?_
       clear hK K
       refine tn ?_
       refine w_weak (st' := ⟨[(2, .val (.bool false))], [], 0⟩) (Wk.r1 [] (by simp [hP, hhOk, back, Tra.cells, IA, I1, LA, L1, BA, B1, EA, E1, E2, eB, eI, eL])) ?_
       refine w_ret ?_
       refine br ?_
       refine tr ?_
       refine lr ?_
       refine br ?_
       refine tr ?_
       cases h
       have q : _ = e1 := hk7
       have h := h1
       rw [← q] at h
       clear q
       try dsimp only at h
       have hr := Option.some.inj h
       rw [← hr]
       refine ⟨_, (.tmp .nil), ?_⟩
       refine ⟨(.one rfl rfl .nil), [.val (.bool false)], [], by simp [Tra.cells, IA, I1, LA, L1, BA, B1, EA, E1, E2, eB, eI, eL], by simp, (UpL.refl _)⟩
     have g11 : ¬ (¬ (v10 = true)) := by first | simpa using g | (simp at g; exact g) | (simp at g; omega)
     clear g
     replace h := if_r g11 h
     refine w_skip ?_
     refine bn ?_
     refine tn ?_
     refine w_run mo (by rw [hN]; decide) fun K hK => ?_
     replace h := ass_some h
     obtain ⟨a12, h⟩ := h
     simp [-guardE_b, -Is_at, -Is_at', -Ls_at, -Ls_at', eL, eI, allInts, eP_Tra, Tra.cells, wrap_id a12]
     repeat (with_reducible refine And.intro ?_ ?_; · first | assumption | omega | (simp; done) | (simp; omega) | simp_all)
     refine hK _ ?_
     clear hK K
     cases h
     exact rn (s' := s7 + 1) hk7 (Wk.r1 [] (by simp [hP, hhOk, back, Tra.cells, IA, I1, LA, L1, BA, B1, EA, E1, E2, eB, eI, eL]))
   have g8 : ¬ (s7 < (list_.length : Int)) := by first | simpa using g | (simp at g; exact g) | (simp at g; omega)
   clear g
   replace h := if_r g8 h
   refine w_exit ?_
   refine tx ?_
   refine lx ?_
   refine bh ?_
   cases h
   exact jn (b := ()) hk7 (Wk.r1 [] (by simp [hP, hhOk, back, Tra.cells, IA, I1, LA, L1, BA, B1, EA, E1, E2, eB, eI, eL]))
 intro b1 hb1
 have h := h1
 rw [← hb1] at h
 clear h1
 try dsimp only at h
 refine w_seq ?_
 refine w_run mo (by rw [hN]; decide) fun K hK => ?_
 simp [-guardE_b, -Is_at, -Is_at', -Ls_at, -Ls_at', eL, eI, allInts, eP_Tra, Tra.cells]
 repeat (with_reducible refine And.intro ?_ ?_; · first | assumption | omega | (simp; done) | (simp; omega) | simp_all)
 refine hK _ ?_
 clear hK K
 refine tn ?_
 refine w_weak (st' := ⟨[(2, .val (.bool true))], [], 0⟩) (Wk.r1 [] (by simp [hP, hhOk, back, Tra.cells, IA, I1, LA, L1, BA, B1, EA, E1, E2, eB, eI, eL])) ?_
 refine w_ret ?_
 have hr := Option.some.inj h
 rw [← hr]
 refine ⟨_, (.tmp .nil), ?_⟩
 refine ⟨(.one rfl rfl .nil), [.val (.bool true)], [], by simp [Tra.cells, IA, I1, LA, L1, BA, B1, EA, E1, E2, eB, eI, eL], by simp, (UpL.refl _)⟩
end Go.Vc.T

set_option maxRecDepth 100000
set_option linter.unusedSimpArgs false
set_option linter.unusedVariables false
namespace Go.Vc.T
open Go Go.Vc Go.Proofs
noncomputable def s_s_l02Then (c_ : Cat) (f_ : Int) (g_ : Int) : Option Int :=
 ass (0 ≤ f_ ∧ f_ < (c_.cs.length : Int)) <|
 ass (0 ≤ g_ ∧ g_ < ((rx c_.cs f_).length : Int)) <|
 some (ix (rx c_.cs f_) g_)
set_option maxHeartbeats 4000000 in
theorem w_s_l02Then (c_ : Cat) (f_ : Int) (g_ : Int) (r : Int) (h : s_s_l02Then c_ f_ g_ = some r) : Contract Try.prog 120 [.agg (c_.cells true), .val (.int .i64 f_), .val (.int .i64 g_)] (.val (.int .i64 r)) := by
 refine contract_introG (rvs := [.tmp 6]) (rs := [.val (.int .i64 r)]) Try.func120 rfl rfl rfl rfl (by simp [Try.f120]) fun F hN hP => ?_
 unfold s_s_l02Then at h
 refine w_seq ?_
 refine w_run mo (by rw [hN]; decide) fun K hK => ?_
 simp [-guardE_b, -Is_at, -Is_at', -Ls_at, -Ls_at', eL, eI, allInts, eP_Cat, Cat.cells]
 repeat (with_reducible refine And.intro ?_ ?_; · first | assumption | omega | (simp; done) | (simp; omega) | simp_all)
 refine hK _ ?_
 clear hK K
 refine tn ?_
 refine w_weak (st' := ⟨[(1, .val (.int .i64 f_)), (2, .val (.int .i64 g_)), (3, .adr 0 0 0)], [(0, .mix 5 [(Cat.cells true c_)])], 1⟩) (Wk.r1 [(0, 0)] (by simp [hP, hhOk, back, Cat.cells, IA, I1, LA, L1, BA, B1, EA, E1, E2, eB, eI, eL])) ?_
 refine w_seq ?_
 refine w_run mo (by rw [hN]; decide) fun K hK => ?_
 replace h := ass_some h
 obtain ⟨a1, h⟩ := h
 replace h := ass_some h
 obtain ⟨a2, h⟩ := h
 simp [-guardE_b, -Is_at, -Is_at', -Ls_at, -Ls_at', eL, eI, allInts, eP_Cat, Cat.cells, at_L a1, at_I a2]
 repeat (with_reducible refine And.intro ?_ ?_; · first | assumption | omega | (simp; done) | (simp; omega) | simp_all)
 refine hK _ ?_
 clear hK K
 refine tn ?_
 refine w_weak (st' := ⟨[(6, .val (.int .i64 (ix (rx c_.cs f_) g_)))], [], 0⟩) (Wk.r1 [] (by simp [hP, hhOk, back, Cat.cells, IA, I1, LA, L1, BA, B1, EA, E1, E2, eB, eI, eL])) ?_
 refine w_ret ?_
 have hr := Option.some.inj h
 rw [← hr]
 refine ⟨_, (.tmp .nil), ?_⟩
 refine ⟨(.one rfl rfl .nil), [.val (.int .i64 (ix (rx c_.cs f_) g_))], [], by simp [Cat.cells, IA, I1, LA, L1, BA, B1, EA, E1, E2, eB, eI, eL], by simp, (UpL.refl _)⟩
end Go.Vc.T

set_option maxRecDepth 100000
set_option linter.unusedSimpArgs false
set_option linter.unusedVariables false
namespace Go.Vc.T
open Go Go.Vc Go.Proofs
noncomputable def s_s_l15Natural (f_ : Fn) (g_ : Fn) (parts_ : List Int) : Option Bool :=
 (
   if ¬ ((parts_.length : Int) = (f_.ob.length : Int)) then
     some true
   else
     (s_s_l01Map (f_.t.fr.length : Int) parts_).bind fun v3 =>
     some (!v3) : Option (Bool)).bind fun b1 =>
 if b1 = true then
   some false
 else
   (loopF (σ := Int) (ε := Unit ⊕ Bool) (fun s17 =>
     if s17 < (parts_.length : Int) then
       (
         ass (0 ≤ s17 ∧ s17 < (parts_.length : Int)) <|
         ass (0 ≤ ix parts_ s17 ∧ ix parts_ s17 < (f_.t.fr.length : Int)) <|
         ass (0 ≤ s17 ∧ s17 < (f_.ob.length : Int)) <|
         if ¬ ((ix f_.t.fr (ix parts_ s17)) = (ix f_.ob s17)) then
           some true
         else
           ass (0 ≤ s17 ∧ s17 < (parts_.length : Int)) <|
           ass (0 ≤ ix parts_ s17 ∧ ix parts_ s17 < (f_.t.to.length : Int)) <|
           ass (0 ≤ s17 ∧ s17 < (g_.ob.length : Int)) <|
           some ((ix f_.t.to (ix parts_ s17)) != (ix g_.ob s17)) : Option (Bool)).bind fun b19 =>
       if b19 = true then
         some (Ctl.ret (Sum.inr false))
       else
         ass (B64 (s17 + 1)) <|
         some (Ctl.next (s17 + 1))
     else
       some (Ctl.ret (Sum.inl ()))) fuel 0).bind fun e5 =>
   match e5 with
   | .inl b5 =>
     (loopF (σ := Int) (ε := Unit ⊕ Bool) (fun s41 =>
       if s41 < (f_.s.fr.length : Int) then
         ass (0 ≤ s41 ∧ s41 < (f_.ar.length : Int)) <|
         ass (0 ≤ s41 ∧ s41 < (f_.s.to.length : Int)) <|
         ass (0 ≤ ix f_.s.to s41 ∧ ix f_.s.to s41 < (parts_.length : Int)) <|
         (s_s_l02Then f_.t (ix f_.ar s41) (ix parts_ (ix f_.s.to s41))).bind fun v46 =>
         ass (0 ≤ s41 ∧ s41 < (f_.s.fr.length : Int)) <|
         ass (0 ≤ ix f_.s.fr s41 ∧ ix f_.s.fr s41 < (parts_.length : Int)) <|
         ass (0 ≤ s41 ∧ s41 < (g_.ar.length : Int)) <|
         (s_s_l02Then f_.t (ix parts_ (ix f_.s.fr s41)) (ix g_.ar s41)).bind fun v50 =>
         if ¬ (v46 = v50) then
           some (Ctl.ret (Sum.inr false))
         else
           ass (B64 (s41 + 1)) <|
           some (Ctl.next (s41 + 1))
       else
         some (Ctl.ret (Sum.inl ()))) fuel 0).bind fun e29 =>
     match e29 with
     | .inl b29 =>
       some true
     | .inr p29 =>
       some p29
   | .inr p5 =>
     some p5
set_option maxHeartbeats 4000000 in
theorem w_s_l15Natural (f_ : Fn) (g_ : Fn) (parts_ : List Int) (r : Bool) (h : s_s_l15Natural f_ g_ parts_ = some r) : Contract Try.prog 168 [.agg (f_.cells true), .agg (g_.cells true), .lst true 1 (Is parts_)] (.val (.bool r)) := by
 refine contract_introG (rvs := [.tmp 6]) (rs := [.val (.bool r)]) Try.func168 rfl rfl rfl rfl (by simp [Try.f168]) fun F hN hP => ?_
 unfold s_s_l15Natural at h
 refine w_seq ?_
 refine w_run mo (by rw [hN]; decide) fun K hK => ?_
 simp [-guardE_b, -Is_at, -Is_at', -Ls_at, -Ls_at', eL, eI, allInts, eP_Cat, eP_Fn, Cat.cells, Fn.cells]
 repeat (with_reducible refine And.intro ?_ ?_; · first | assumption | omega | (simp; done) | (simp; omega) | simp_all)
 refine hK _ ?_
 clear hK K
 refine tn ?_
 refine w_weak (st' := ⟨[(2, .lst true 1 (Is parts_)), (3, .adr 0 0 0), (4, .adr 1 0 0)], [(0, .mix 12 [(Fn.cells true f_)]), (1, .mix 12 [(Fn.cells true g_)])], 2⟩) (Wk.r1 [(0, 0), (1, 1)] (by simp [hP, hhOk, back, Cat.cells, Fn.cells, IA, I1, LA, L1, BA, B1, EA, E1, E2, eB, eI, eL])) ?_
 refine w_seq ?_
 refine w_runS mo (by rw [hN]; decide) fun K hK => ?_
 simp [-guardE_b, -Is_at, -Is_at', -Ls_at, -Ls_at', eL, eI, allInts, eP_Cat, eP_Fn, Cat.cells, Fn.cells]
 repeat (with_reducible refine And.intro ?_ ?_; · first | assumption | omega | (simp; done) | (simp; omega) | simp_all)
 refine hK _ ?_
 clear hK K
 refine tn ?_
 refine w_weak (st' := ⟨[(2, .lst true 1 (Is parts_)), (3, .adr 0 0 0), (4, .adr 1 0 0), (7, .adr 2 0 0), (8, .adr 3 0 0)], [(0, .mix 12 [(Fn.cells true f_)]), (1, .mix 12 [(Fn.cells true g_)]), (2, .mix 5 [(Cat.cells true f_.s)]), (3, .mix 5 [(Cat.cells true f_.t)])], 4⟩) (Wk.r1 [(0, 0), (1, 1), (2, 2), (3, 3)] (by simp [hP, hhOk, back, Cat.cells, Fn.cells, IA, I1, LA, L1, BA, B1, EA, E1, E2, eB, eI, eL])) ?_
 refine w_seq ?_
 refine w_seq ?_
 replace h := bind_some h
 obtain ⟨e1, h, h1⟩ := h
 refine w_joinT (fun b1 : Bool => ⟨[(2, .lst true 1 (Is parts_)), (3, .adr 0 0 0), (4, .adr 1 0 0), (7, .adr 2 0 0), (8, .adr 3 0 0), (28, .val (.bool b1))], [(0, .mix 12 [(Fn.cells true f_)]), (1, .mix 12 [(Fn.cells true g_)]), (2, .mix 5 [(Cat.cells true f_.s)]), (3, .mix 5 [(Cat.cells true f_.t)])], 4⟩) (fun b1 => b1 = e1) ?_ ?_
 · refine w_run mo (by rw [hN]; decide) fun K hK => ?_
   simp [-guardE_b, -Is_at, -Is_at', -Ls_at, -Ls_at', eL, eI, allInts, eP_Cat, eP_Fn, Cat.cells, Fn.cells]
   repeat (with_reducible refine And.intro ?_ ?_; · first | assumption | omega | (simp; done) | (simp; omega) | simp_all)
   refine guard_intro (fun g => ?_) (fun g => ?_)
   · have g2 : ¬ (¬ ((parts_.length : Int) = (f_.ob.length : Int))) := by first | simpa using g | (simp at g; exact g) | (simp at g; omega)
     clear g
     replace h := if_r g2 h
     simp [-guardE_b, -Is_at, -Is_at', -Ls_at, -Ls_at', eL, eI, allInts, eP_Cat, eP_Fn, Cat.cells, Fn.cells]
     repeat (with_reducible refine And.intro ?_ ?_; · first | assumption | omega | (simp; done) | (simp; omega) | simp_all)
     replace h := bind_some h
     obtain ⟨v3, hv3, h⟩ := h
     refine callA_intro (w_s_l01Map _ _ v3 hv3) (.cons .val (.cons .lst .nil)) ?_
     simp [-guardE_b, -Is_at, -Is_at', -Ls_at, -Ls_at', unk, unA, unE, unT, unC, flat, eL, eI, allInts, eP_Cat, eP_Fn, Cat.cells, Fn.cells]
     repeat (with_reducible refine And.intro ?_ ?_; · first | assumption | omega | (simp; done) | (simp; omega) | simp_all)
     refine hK _ ?_
     exact jn (b := !v3) (Option.some.inj h) (Wk.r1 [(0, 0), (1, 1), (2, 2), (3, 3)] (by simp [hP, hhOk, back, Cat.cells, Fn.cells, IA, I1, LA, L1, BA, B1, EA, E1, E2, eB, eI, eL]))
   have g2 : ¬ ((parts_.length : Int) = (f_.ob.length : Int)) := by first | simpa using g | (simp at g; exact g) | (simp at g; omega)
   clear g
   replace h := if_l g2 h
   simp [-guardE_b, -Is_at, -Is_at', -Ls_at, -Ls_at', eL, eI, allInts, eP_Cat, eP_Fn, Cat.cells, Fn.cells]
   repeat (with_reducible refine And.intro ?_ ?_; · first | assumption | omega | (simp; done) | (simp; omega) | simp_all)
   refine hK _ ?_
   exact jn (b := true) (Option.some.inj h) (Wk.r1 [(0, 0), (1, 1), (2, 2), (3, 3)] (by simp [hP, hhOk, back, Cat.cells, Fn.cells, IA, I1, LA, L1, BA, B1, EA, E1, E2, eB, eI, eL]))
 intro b1 hb1
 have h := h1
 rw [← hb1] at h
 clear h1
 try dsimp only at h
 refine w_cond rfl (fun g => ?_) fun g => ?_
 · have g4 : b1 = true := by first | simpa using g | (simp at g; exact g) | (simp at g; omega)
   clear g
   replace h := if_l g4 h
   refine w_seq ?_
   refine w_run mo (by rw [hN]; decide) fun K hK => ?_
   simp [-guardE_b, -Is_at, -Is_at', -Ls_at, -Ls_at', eL, eI, allInts, eP_Cat, eP_Fn, Cat.cells, Fn.cells]
   repeat (with_reducible refine And.intro ?_ ?_; · first | assumption | omega | (simp; done) | (simp; omega) | simp_all)
   refine hK _ ?_
   clear hK K
   refine tn ?_
   refine w_weak (st' := ⟨[(6, .val (.bool false))], [], 0⟩) (Wk.r1 [] (by simp [hP, hhOk, back, Cat.cells, Fn.cells, IA, I1, LA, L1, BA, B1, EA, E1, E2, eB, eI, eL])) ?_
   refine w_ret ?_
   refine tr ?_
   have hr := Option.some.inj h
   rw [← hr]
   refine ⟨_, (.tmp .nil), ?_⟩
   refine ⟨(.one rfl rfl .nil), [.val (.bool false)], [], by simp [Cat.cells, Fn.cells, IA, I1, LA, L1, BA, B1, EA, E1, E2, eB, eI, eL], by simp, (UpL.refl _)⟩
 have g4 : ¬ (b1 = true) := by first | simpa using g | (simp at g; exact g) | (simp at g; omega)
 clear g
 replace h := if_r g4 h
 refine w_skip ?_
 refine tn ?_
 refine w_seq ?_
 refine w_seq ?_
 refine w_run mo (by rw [hN]; decide) fun K hK => ?_
 simp [-guardE_b, -Is_at, -Is_at', -Ls_at, -Ls_at', eL, eI, allInts, eP_Cat, eP_Fn, Cat.cells, Fn.cells]
 repeat (with_reducible refine And.intro ?_ ?_; · first | assumption | omega | (simp; done) | (simp; omega) | simp_all)
 refine hK _ ?_
 clear hK K
 refine tn ?_
 refine w_weak (st' := ⟨[(2, .lst true 1 (Is parts_)), (3, .adr 0 0 0), (4, .adr 1 0 0), (7, .adr 2 0 0), (8, .adr 3 0 0), (9, .val (.int .i64 0))], [(0, .mix 12 [(Fn.cells true f_)]), (1, .mix 12 [(Fn.cells true g_)]), (2, .mix 5 [(Cat.cells true f_.s)]), (3, .mix 5 [(Cat.cells true f_.t)])], 4⟩) (Wk.r1 [(0, 0), (1, 1), (2, 2), (3, 3)] (by simp [hP, hhOk, back, Cat.cells, Fn.cells, IA, I1, LA, L1, BA, B1, EA, E1, E2, eB, eI, eL])) ?_
 replace h := bind_some h
 obtain ⟨e5, h, h5⟩ := h
 refine w_joinT (fun b5 : Unit => ⟨[(2, .lst true 1 (Is parts_)), (3, .adr 0 0 0), (4, .adr 1 0 0), (7, .adr 2 0 0), (8, .adr 3 0 0)], [(0, .mix 12 [(Fn.cells true f_)]), (1, .mix 12 [(Fn.cells true g_)]), (2, .mix 5 [(Cat.cells true f_.s)]), (3, .mix 5 [(Cat.cells true f_.t)])], 4⟩) (fun b5 => Sum.inl b5 = e5) ?_ ?_
 · refine w_block ?_
   refine w_loopF h (fun s17 : Int => ⟨[(2, .lst true 1 (Is parts_)), (3, .adr 0 0 0), (4, .adr 1 0 0), (7, .adr 2 0 0), (8, .adr 3 0 0), (9, .val (.int .i64 s17))], [(0, .mix 12 [(Fn.cells true f_)]), (1, .mix 12 [(Fn.cells true g_)]), (2, .mix 5 [(Cat.cells true f_.s)]), (3, .mix 5 [(Cat.cells true f_.t)])], 4⟩) (Wk.r1 [(0, 0), (1, 1), (2, 2), (3, 3)] (by simp [hP, hhOk, back, Cat.cells, Fn.cells, IA, I1, LA, L1, BA, B1, EA, E1, E2, eB, eI, eL])) ?_
   clear h
   intro k17 s17 c17 h hk17
   refine w_seq ?_
   refine w_seq ?_
   refine w_run mo (by rw [hN]; decide) fun K hK => ?_
   simp [-guardE_b, -Is_at, -Is_at', -Ls_at, -Ls_at', eL, eI, allInts, eP_Cat, eP_Fn, Cat.cells, Fn.cells]
   repeat (with_reducible refine And.intro ?_ ?_; · first | assumption | omega | (simp; done) | (simp; omega) | simp_all)
   refine hK _ ?_
   clear hK K
   refine tn ?_
   refine w_weak (st' := ⟨[(2, .lst true 1 (Is parts_)), (3, .adr 0 0 0), (4, .adr 1 0 0), (7, .adr 2 0 0), (8, .adr 3 0 0), (9, .val (.int .i64 s17)), (32, .val (.bool (decide (s17 < (parts_.length : Int)))))], [(0, .mix 12 [(Fn.cells true f_)]), (1, .mix 12 [(Fn.cells true g_)]), (2, .mix 5 [(Cat.cells true f_.s)]), (3, .mix 5 [(Cat.cells true f_.t)])], 4⟩) (Wk.r1 [(0, 0), (1, 1), (2, 2), (3, 3)] (by simp [hP, hhOk, back, Cat.cells, Fn.cells, IA, I1, LA, L1, BA, B1, EA, E1, E2, eB, eI, eL])) ?_
   refine w_cond rfl (fun g => ?_) fun g => ?_
   · have g18 : s17 < (parts_.length : Int) := by first | simpa using g | (simp at g; exact g) | (simp at g; omega)
     clear g
     replace h := if_l g18 h
     refine w_skip ?_
     refine tn ?_
     refine w_seq ?_
     refine w_block ?_
     refine w_seq ?_
     replace h := bind_some h
     obtain ⟨e19, h, h19⟩ := h
     refine w_joinT (fun b19 : Bool => ⟨[(2, .lst true 1 (Is parts_)), (3, .adr 0 0 0), (4, .adr 1 0 0), (7, .adr 2 0 0), (8, .adr 3 0 0), (9, .val (.int .i64 s17)), (64, .val (.bool b19))], [(0, .mix 12 [(Fn.cells true f_)]), (1, .mix 12 [(Fn.cells true g_)]), (2, .mix 5 [(Cat.cells true f_.s)]), (3, .mix 5 [(Cat.cells true f_.t)])], 4⟩) (fun b19 => b19 = e19) ?_ ?_
     · refine w_run mo (by rw [hN]; decide) fun K hK => ?_
       replace h := ass_some h
       obtain ⟨a20, h⟩ := h
       replace h := ass_some h
       obtain ⟨a21, h⟩ := h
       replace h := ass_some h
       obtain ⟨a22, h⟩ := h
       simp [-guardE_b, -Is_at, -Is_at', -Ls_at, -Ls_at', eL, eI, allInts, eP_Cat, eP_Fn, Cat.cells, Fn.cells, at_I a20, at_I a21, at_I a22]
       repeat (with_reducible refine And.intro ?_ ?_; · first | assumption | omega | (simp; done) | (simp; omega) | simp_all)
       refine guard_intro (fun g => ?_) (fun g => ?_)
       · have g23 : ¬ (¬ ((ix f_.t.fr (ix parts_ s17)) = (ix f_.ob s17))) := by first | simpa using g | (simp at g; exact g) | (simp at g; omega)
         clear g
         replace h := if_r g23 h
         replace h := ass_some h
         obtain ⟨a24, h⟩ := h
         replace h := ass_some h
         obtain ⟨a25, h⟩ := h
         replace h := ass_some h
         obtain ⟨a26, h⟩ := h
         simp [-guardE_b, -Is_at, -Is_at', -Ls_at, -Ls_at', eL, eI, allInts, eP_Cat, eP_Fn, Cat.cells, Fn.cells, at_I a24, at_I a25, at_I a26]
         repeat (with_reducible refine And.intro ?_ ?_; · first | assumption | omega | (simp; done) | (simp; omega) | simp_all)
         refine hK _ ?_
         exact jn (b := (ix f_.t.to (ix parts_ s17)) != (ix g_.ob s17)) (Option.some.inj h) (Wk.r1 [(0, 0), (1, 1), (2, 2), (3, 3)] (by simp [hP, hhOk, back, Cat.cells, Fn.cells, IA, I1, LA, L1, BA, B1, EA, E1, E2, eB, eI, eL]))
       have g23 : ¬ ((ix f_.t.fr (ix parts_ s17)) = (ix f_.ob s17)) := by first | simpa using g | (simp at g; exact g) | (simp at g; omega)
       clear g
       replace h := if_l g23 h
       simp [-guardE_b, -Is_at, -Is_at', -Ls_at, -Ls_at', eL, eI, allInts, eP_Cat, eP_Fn, Cat.cells, Fn.cells]
       repeat (with_reducible refine And.intro ?_ ?_; · first | assumption | omega | (simp; done) | (simp; omega) | simp_all)
       refine hK _ ?_
       exact jn (b := true) (Option.some.inj h) (Wk.r1 [(0, 0), (1, 1), (2, 2), (3, 3)] (by simp [hP, hhOk, back, Cat.cells, Fn.cells, IA, I1, LA, L1, BA, B1, EA, E1, E2, eB, eI, eL]))
     intro b19 hb19
     have h := h19
     rw [← hb19] at h
     clear h19
     try dsimp only at h
     refine w_cond rfl (fun g => ?_) fun g => ?_
     · have g27 : b19 = true := by first | simpa using g | (simp at g; exact g) | (simp at g; omega)
       clear g
       replace h := if_l g27 h
       refine w_seq ?_
       refine w_run mo (by rw [hN]; decide) fun K hK => ?_
       simp [-guardE_b, -Is_at, -Is_at', -Ls_at, -Ls_at', eL, eI, allInts, eP_Cat, eP_Fn, Cat.cells, Fn.cells]
       repeat (with_reducible refine And.intro ?_ ?_; · first | assumption | omega | (simp; done) | (simp; omega) | simp_all)
       refine hK _ ?_
       clear hK K
       refine tn ?_
       refine w_weak (st' := ⟨[(6, .val (.bool false))], [], 0⟩) (Wk.r1 [] (by simp [hP, hhOk, back, Cat.cells, Fn.cells, IA, I1, LA, L1, BA, B1, EA, E1, E2, eB, eI, eL])) ?_
       refine w_ret ?_
       refine br ?_
       refine tr ?_
       refine lr ?_
       refine br ?_
       refine tr ?_
       cases h
       have q : _ = e5 := hk17
       have h := h5
       rw [← q] at h
       clear q
       try dsimp only at h
       have hr := Option.some.inj h
       rw [← hr]
       refine ⟨_, (.tmp .nil), ?_⟩
       refine ⟨(.one rfl rfl .nil), [.val (.bool false)], [], by simp [Cat.cells, Fn.cells, IA, I1, LA, L1, BA, B1, EA, E1, E2, eB, eI, eL], by simp, (UpL.refl _)⟩
     have g27 : ¬ (b19 = true) := by first | simpa using g | (simp at g; exact g) | (simp at g; omega)
     clear g
     replace h := if_r g27 h
     refine w_skip ?_
     refine bn ?_
     refine tn ?_
     refine w_run mo (by rw [hN]; decide) fun K hK => ?_
     replace h := ass_some h
     obtain ⟨a28, h⟩ := h
     simp [-guardE_b, -Is_at, -Is_at', -Ls_at, -Ls_at', eL, eI, allInts, eP_Cat, eP_Fn, Cat.cells, Fn.cells, wrap_id a28]
     repeat (with_reducible refine And.intro ?_ ?_; · first | assumption | omega | (simp; done) | (simp; omega) | simp_all)
     refine hK _ ?_
     clear hK K
     cases h
     exact rn (s' := s17 + 1) hk17 (Wk.r1 [(0, 0), (1, 1), (2, 2), (3, 3)] (by simp [hP, hhOk, back, Cat.cells, Fn.cells, IA, I1, LA, L1, BA, B1, EA, E1, E2, eB, eI, eL]))
   have g18 : ¬ (s17 < (parts_.length : Int)) := by first | simpa using g | (simp at g; exact g) | (simp at g; omega)
   clear g
   replace h := if_r g18 h
   refine w_exit ?_
   refine tx ?_
   refine lx ?_
   refine bh ?_
   cases h
   exact jn (b := ()) hk17 (Wk.r1 [(0, 0), (1, 1), (2, 2), (3, 3)] (by simp [hP, hhOk, back, Cat.cells, Fn.cells, IA, I1, LA, L1, BA, B1, EA, E1, E2, eB, eI, eL]))
 intro b5 hb5
 have h := h5
 rw [← hb5] at h
 clear h5
 try dsimp only at h
 refine w_seq ?_
 refine w_seq ?_
 refine w_run mo (by rw [hN]; decide) fun K hK => ?_
 simp [-guardE_b, -Is_at, -Is_at', -Ls_at, -Ls_at', eL, eI, allInts, eP_Cat, eP_Fn, Cat.cells, Fn.cells]
 repeat (with_reducible refine And.intro ?_ ?_; · first | assumption | omega | (simp; done) | (simp; omega) | simp_all)
 refine hK _ ?_
 clear hK K
 refine tn ?_
 refine w_weak (st' := ⟨[(2, .lst true 1 (Is parts_)), (3, .adr 0 0 0), (4, .adr 1 0 0), (7, .adr 2 0 0), (8, .adr 3 0 0), (10, .val (.int .i64 0))], [(0, .mix 12 [(Fn.cells true f_)]), (1, .mix 12 [(Fn.cells true g_)]), (2, .mix 5 [(Cat.cells true f_.s)]), (3, .mix 5 [(Cat.cells true f_.t)])], 4⟩) (Wk.r1 [(0, 0), (1, 1), (2, 2), (3, 3)] (by simp [hP, hhOk, back, Cat.cells, Fn.cells, IA, I1, LA, L1, BA, B1, EA, E1, E2, eB, eI, eL])) ?_
 replace h := bind_some h
 obtain ⟨e29, h, h29⟩ := h
 refine w_joinT (fun b29 : Unit => ⟨[], [], 0⟩) (fun b29 => Sum.inl b29 = e29) ?_ ?_
 · refine w_block ?_
   refine w_loopF h (fun s41 : Int => ⟨[(2, .lst true 1 (Is parts_)), (3, .adr 0 0 0), (4, .adr 1 0 0), (7, .adr 2 0 0), (8, .adr 3 0 0), (10, .val (.int .i64 s41))], [(0, .mix 12 [(Fn.cells true f_)]), (1, .mix 12 [(Fn.cells true g_)]), (2, .mix 5 [(Cat.cells true f_.s)]), (3, .mix 5 [(Cat.cells true f_.t)])], 4⟩) (Wk.r1 [(0, 0), (1, 1), (2, 2), (3, 3)] (by simp [hP, hhOk, back, Cat.cells, Fn.cells, IA, I1, LA, L1, BA, B1, EA, E1, E2, eB, eI, eL])) ?_
   clear h
   intro k41 s41 c41 h hk41
   refine w_seq ?_
   refine w_seq ?_
   refine w_run mo (by rw [hN]; decide) fun K hK => ?_
   simp [-guardE_b, -Is_at, -Is_at', -Ls_at, -Ls_at', eL, eI, allInts, eP_Cat, eP_Fn, Cat.cells, Fn.cells]
   repeat (with_reducible refine And.intro ?_ ?_; · first | assumption | omega | (simp; done) | (simp; omega) | simp_all)
   refine hK _ ?_
   clear hK K
   refine tn ?_
   refine w_weak (st' := ⟨[(2, .lst true 1 (Is parts_)), (3, .adr 0 0 0), (4, .adr 1 0 0), (7, .adr 2 0 0), (8, .adr 3 0 0), (10, .val (.int .i64 s41)), (69, .val (.bool (decide (s41 < (f_.s.fr.length : Int)))))], [(0, .mix 12 [(Fn.cells true f_)]), (1, .mix 12 [(Fn.cells true g_)]), (2, .mix 5 [(Cat.cells true f_.s)]), (3, .mix 5 [(Cat.cells true f_.t)])], 4⟩) (Wk.r1 [(0, 0), (1, 1), (2, 2), (3, 3)] (by simp [hP, hhOk, back, Cat.cells, Fn.cells, IA, I1, LA, L1, BA, B1, EA, E1, E2, eB, eI, eL])) ?_
   refine w_cond rfl (fun g => ?_) fun g => ?_
   · have g42 : s41 < (f_.s.fr.length : Int) := by first | simpa using g | (simp at g; exact g) | (simp at g; omega)
     clear g
     replace h := if_l g42 h
     refine w_skip ?_
     refine tn ?_
     refine w_seq ?_
     refine w_block ?_
     refine w_seq ?_
     refine w_run mo (by rw [hN]; decide) fun K hK => ?_
     replace h := ass_some h
     obtain ⟨a43, h⟩ := h
     replace h := ass_some h
     obtain ⟨a44, h⟩ := h
     replace h := ass_some h
     obtain ⟨a45, h⟩ := h
     simp [-guardE_b, -Is_at, -Is_at', -Ls_at, -Ls_at', eL, eI, allInts, eP_Cat, eP_Fn, Cat.cells, Fn.cells, at_I a43, at_I a44, at_I a45]
     repeat (with_reducible refine And.intro ?_ ?_; · first | assumption | omega | (simp; done) | (simp; omega) | simp_all)
     replace h := bind_some h
     obtain ⟨v46, hv46, h⟩ := h
     refine callA_intro (w_s_l02Then _ _ _ v46 hv46) (.cons (.aggL (.cons .val (.cons .lst (.cons .lst (.cons .lst (.cons .lst .nil)))))) (.cons .val (.cons .val .nil))) ?_
     replace h := ass_some h
     obtain ⟨a47, h⟩ := h
     replace h := ass_some h
     obtain ⟨a48, h⟩ := h
     replace h := ass_some h
     obtain ⟨a49, h⟩ := h
     simp [-guardE_b, -Is_at, -Is_at', -Ls_at, -Ls_at', unk, unA, unE, unT, unC, flat, eL, eI, allInts, eP_Cat, eP_Fn, Cat.cells, Fn.cells, at_I a47, at_I a48, at_I a49]
     repeat (with_reducible refine And.intro ?_ ?_; · first | assumption | omega | (simp; done) | (simp; omega) | simp_all)
     replace h := bind_some h
     obtain ⟨v50, hv50, h⟩ := h
     refine callA_intro (w_s_l02Then _ _ _ v50 hv50) (.cons (.aggL (.cons .val (.cons .lst (.cons .lst (.cons .lst (.cons .lst .nil)))))) (.cons .val (.cons .val .nil))) ?_
     simp [-guardE_b, -Is_at, -Is_at', -Ls_at, -Ls_at', unk, unA, unE, unT, unC, flat, eL, eI, allInts, eP_Cat, eP_Fn, Cat.cells, Fn.cells]
     repeat (with_reducible refine And.intro ?_ ?_; · first | assumption | omega | (simp; done) | (simp; omega) | simp_all)
     refine hK _ ?_
     clear hK K
     refine tn ?_
     refine w_weak (st' := ⟨[(2, .lst true 1 (Is parts_)), (3, .adr 0 0 0), (4, .adr 1 0 0), (7, .adr 2 0 0), (8, .adr 3 0 0), (10, .val (.int .i64 s41)), (102, .val (.bool (v46 != v50)))], [(0, .mix 12 [(Fn.cells true f_)]), (1, .mix 12 [(Fn.cells true g_)]), (2, .mix 5 [(Cat.cells true f_.s)]), (3, .mix 5 [(Cat.cells true f_.t)])], 4⟩) (Wk.r1 [(0, 0), (1, 1), (2, 2), (3, 3)] (by simp [hP, hhOk, back, Cat.cells, Fn.cells, IA, I1, LA, L1, BA, B1, EA, E1, E2, eB, eI, eL])) ?_
     refine w_cond rfl (fun g => ?_) fun g => ?_
     · have g51 : ¬ (v46 = v50) := by first | simpa using g | (simp at g; exact g) | (simp at g; omega)
       clear g
       replace h := if_l g51 h
       refine w_seq ?_
       refine w_run mo (by rw [hN]; decide) fun K hK => ?_
       simp [-guardE_b, -Is_at, -Is_at', -Ls_at, -Ls_at', eL, eI, allInts, eP_Cat, eP_Fn, Cat.cells, Fn.cells]
       repeat (with_reducible refine And.intro ?_ ?_; · first | assumption | omega | (simp; done) | (simp; omega) | simp_all)
       refine hK _ ?_
       clear hK K
       refine tn ?_
       refine w_weak (st' := ⟨[(6, .val (.bool false))], [], 0⟩) (Wk.r1 [] (by simp [hP, hhOk, back, Cat.cells, Fn.cells, IA, I1, LA, L1, BA, B1, EA, E1, E2, eB, eI, eL])) ?_
       refine w_ret ?_
       refine br ?_
       refine tr ?_
       refine lr ?_
       refine br ?_
       refine tr ?_
       cases h
       have q : _ = e29 := hk41
       have h := h29
       rw [← q] at h
       clear q
       try dsimp only at h
       have hr := Option.some.inj h
       rw [← hr]
       refine ⟨_, (.tmp .nil), ?_⟩
       refine ⟨(.one rfl rfl .nil), [.val (.bool false)], [], by simp [Cat.cells, Fn.cells, IA, I1, LA, L1, BA, B1, EA, E1, E2, eB, eI, eL], by simp, (UpL.refl _)⟩
     have g51 : ¬ (¬ (v46 = v50)) := by first | simpa using g | (simp at g; exact g) | (simp at g; omega)
     clear g
     replace h := if_r g51 h
     refine w_skip ?_
     refine bn ?_
     refine tn ?_
     refine w_run mo (by rw [hN]; decide) fun K hK => ?_
     replace h := ass_some h
     obtain ⟨a52, h⟩ := h
     simp [-guardE_b, -Is_at, -Is_at', -Ls_at, -Ls_at', eL, eI, allInts, eP_Cat, eP_Fn, Cat.cells, Fn.cells, wrap_id a52]
     repeat (with_reducible refine And.intro ?_ ?_; · first | assumption | omega | (simp; done) | (simp; omega) | simp_all)
     refine hK _ ?_
     clear hK K
     cases h
     exact rn (s' := s41 + 1) hk41 (Wk.r1 [(0, 0), (1, 1), (2, 2), (3, 3)] (by simp [hP, hhOk, back, Cat.cells, Fn.cells, IA, I1, LA, L1, BA, B1, EA, E1, E2, eB, eI, eL]))
   have g42 : ¬ (s41 < (f_.s.fr.length : Int)) := by first | simpa using g | (simp at g; exact g) | (simp at g; omega)
   clear g
   replace h := if_r g42 h
   refine w_exit ?_
   refine tx ?_
   refine lx ?_
   refine bh ?_
   cases h
   exact jn (b := ()) hk41 (Wk.r1 [] (by simp [hP, hhOk, back, Cat.cells, Fn.cells, IA, I1, LA, L1, BA, B1, EA, E1, E2, eB, eI, eL]))
 intro b29 hb29
 have h := h29
 rw [← hb29] at h
 clear h29
 try dsimp only at h
 refine w_seq ?_
 refine w_run mo (by rw [hN]; decide) fun K hK => ?_
 simp [-guardE_b, -Is_at, -Is_at', -Ls_at, -Ls_at', eL, eI, allInts, eP_Cat, eP_Fn, Cat.cells, Fn.cells]
 repeat (with_reducible refine And.intro ?_ ?_; · first | assumption | omega | (simp; done) | (simp; omega) | simp_all)
 refine hK _ ?_
 clear hK K
 refine tn ?_
 refine w_weak (st' := ⟨[(6, .val (.bool true))], [], 0⟩) (Wk.r1 [] (by simp [hP, hhOk, back, Cat.cells, Fn.cells, IA, I1, LA, L1, BA, B1, EA, E1, E2, eB, eI, eL])) ?_
 refine w_ret ?_
 have hr := Option.some.inj h
 rw [← hr]
 refine ⟨_, (.tmp .nil), ?_⟩
 refine ⟨(.one rfl rfl .nil), [.val (.bool true)], [], by simp [Cat.cells, Fn.cells, IA, I1, LA, L1, BA, B1, EA, E1, E2, eB, eI, eL], by simp, (UpL.refl _)⟩
end Go.Vc.T

set_option maxRecDepth 100000
set_option linter.unusedSimpArgs false
set_option linter.unusedVariables false
namespace Go.Vc.T
open Go Go.Vc Go.Proofs
structure NatT (f g : Fn) (p : List Int) : Prop where
 lp : p.length = f.ob.length
 bd : ∀ j : Nat, j < p.length → 0 ≤ ix p j ∧ ix p j < f.t.fr.length
 ends : ∀ x : Nat, x < p.length → ix f.t.fr (ix p x) = ix f.ob x ∧ ix f.t.to (ix p x) = ix g.ob x
 sq : ∀ a : Nat, a < f.s.fr.length → ix (rx f.t.cs (ix f.ar a)) (ix p (ix f.s.to a)) = ix (rx f.t.cs (ix p (ix f.s.fr a))) (ix g.ar a)
structure Para (f g : Fn) : Prop where
 hf : f.Is
 hg : g.Is
 s : f.s = g.s
 t : f.t = g.t
theorem Para.fact {f g : Fn} (h : Para f g) : f.ob.length = g.ob.length ∧ f.ar.length = g.ar.length ∧ f.ar.length = f.s.fr.length ∧ f.s.to.length = f.s.fr.length ∧ f.t.to.length = f.t.fr.length ∧ f.t.cs.length = f.t.fr.length ∧ f.ob.length = f.s.id.length ∧ f.ob.length ≤ 8 ∧ f.s.fr.length ≤ 40 ∧ f.t.fr.length ≤ 40 := by
 have h1 := h.hf.lo
 have h2 := h.hg.lo
 have h3 := h.hf.la
 have h4 := h.hg.la
 rw [← h.s] at h2 h4
 have h5 := h.hf.s.1.li
 exact ⟨by omega, by omega, h3, h.hf.s.1.lt, h.hf.t.1.lt, h.hf.t.1.lc, by omega, h.hf.lob, h.hf.s.1.m40, h.hf.t.1.m40⟩
theorem Para.sqok {f g : Fn} (h : Para f g) {p : List Int} (lp : p.length = f.ob.length) (bd : ∀ j : Nat, j < p.length → 0 ≤ ix p j ∧ ix p j < f.t.fr.length) {a : Nat} (ha : a < f.s.fr.length) :
   (0 ≤ ix f.ar a ∧ ix f.ar a < f.t.fr.length) ∧ (0 ≤ ix g.ar a ∧ ix g.ar a < f.t.fr.length) ∧ (0 ≤ ix f.s.to a ∧ ix f.s.to a < p.length) ∧ (0 ≤ ix f.s.fr a ∧ ix f.s.fr a < p.length) ∧
   (0 ≤ ix p (ix f.s.to a) ∧ ix p (ix f.s.to a) < f.t.fr.length) ∧ (0 ≤ ix p (ix f.s.fr a) ∧ ix p (ix f.s.fr a) < f.t.fr.length) ∧ (rx f.t.cs (ix f.ar a)).length = f.t.fr.length ∧ (rx f.t.cs (ix p (ix f.s.fr a))).length = f.t.fr.length := by
 obtain ⟨k1, k2, k3, k4, k5, k6, k7, k8, k9, k10⟩ := h.fact
 have h1 := h.hf.ar a (by omega)
 have h2 := h.hg.ar a (by omega)
 rw [← h.t] at h2
 have h3 := h.hf.s.1.frn ha
 have h4 := ix_bnd bd (j := ix f.s.to a) (by omega) (by omega)
 have h5 := ix_bnd bd (j := ix f.s.fr a) (by omega) (by omega)
 exact ⟨h1, h2, by omega, by omega, h4, h5, h.hf.t.1.row' (by omega) (by omega), h.hf.t.1.row' (by omega) (by omega)⟩
theorem e_l02Then {c : Cat} {f g : Int} (h0 : 0 ≤ f ∧ f < (c.cs.length : Int)) (h1 : 0 ≤ g ∧ g < ((rx c.cs f).length : Int)) : s_s_l02Then c f g = some (ix (rx c.cs f) g) := by
 unfold s_s_l02Then
 rw [ass_pos h0, ass_pos h1]
theorem e_Cthen {c : Cat} {f g : Int} (h0 : 0 ≤ f ∧ f < (c.cs.length : Int)) (h1 : 0 ≤ g ∧ g < ((rx c.cs f).length : Int)) : s_i_Category_then c f g = some (ix (rx c.cs f) g) := by
 unfold s_i_Category_then
 rw [ass_pos h0.1, ass_pos h0.2, ass_pos h1.1, ass_pos h1.2]
theorem e_l15Natural {f g : Fn} (h : Para f g) (p : List Int) : s_s_l15Natural f g p = some (bo (NatT f g p)) := by
 obtain ⟨k1, k2, k3, k4, k5, k6, k7, k8, k9, k10⟩ := h.fact
 unfold s_s_l15Natural
 by_cases h1 : (p.length : Int) = f.ob.length
 case neg => rw [bo_neg (show ¬ NatT f g p from fun q => h1 (by rw [q.lp]))]; simp [h1]
 by_cases h2 : p.all (inR f.t.fr.length) = true
 case neg => rw [bo_neg (show ¬ NatT f g p from fun q => h2 (all_inR.2 q.bd))]; simp [s_s_l01Map, h1, h2]
 have bd := all_inR.1 h2
 simp only [s_s_l01Map, h1, h2, not_true_eq_false, if_false, Option.bind_some, Bool.not_true, Bool.false_eq_true]
 refine chk_bind p.length (fun x : Nat => ix f.t.fr (ix p x) = ix f.ob x ∧ ix f.t.to (ix p x) = ix g.ob x) (eb := Sum.inr false) (eg := Sum.inl ()) (by omega) (fun a hi hp => ?_) (fun a hi hp => ?_) (by simp; omega) (fun hx => ?_) fun q1 => ?_
 · have := bd a hi
   simp (disch := omega) [ass_pos, B64, hp.1, hp.2]; omega
 · have := bd a hi
   by_cases hp1 : ix f.t.fr (ix p a) = ix f.ob a
   · have hp2 : ¬ ix f.t.to (ix p a) = ix g.ob a := fun q => hp ⟨hp1, q⟩
     simp (disch := omega) [ass_pos, B64, hp1, hp2]; omega
   simp (disch := omega) [ass_pos, B64, hp1]; omega
 · rw [bo_neg (show ¬ NatT f g p from fun q => hx q.ends)]
 simp only
 refine chk_bind f.s.fr.length (fun a : Nat => ix (rx f.t.cs (ix f.ar a)) (ix p (ix f.s.to a)) = ix (rx f.t.cs (ix p (ix f.s.fr a))) (ix g.ar a)) (eb := Sum.inr false) (eg := Sum.inl ()) (by omega) (fun a hi hp => ?_) (fun a hi hp => ?_) (by simp) (fun hx => ?_) fun q2 => ?_
 · obtain ⟨m1, m2, m3, m4, m5, m6, m7, m8⟩ := h.sqok (by omega) bd hi
   simp (disch := omega) [ass_pos, B64, e_l02Then, hp, hi]
 · obtain ⟨m1, m2, m3, m4, m5, m6, m7, m8⟩ := h.sqok (by omega) bd hi
   simp (disch := omega) [ass_pos, B64, e_l02Then, hp, hi]
 · rw [bo_neg (show ¬ NatT f g p from fun q => hx q.sq)]
 rw [bo_pos (show NatT f g p from ⟨by omega, bd, q1, q2⟩)]
structure Tra.Is (t : Tra) : Prop where
 p : Para t.s t.t
 n : NatT t.s t.t t.p
theorem e_fits {f : Fn} (h1 : f.s.Is) (h2 : f.t.Is) : s_i_Functor_fits f = some (bo f.Is) := by
 have hs := h1.1
 have ht := h2.1
 have k0 := hs.n0
 have k1 := hs.n8
 have k2 := hs.m40
 have k3 := hs.li
 have k4 := hs.lt
 have k5 := hs.lc
 have k6 := ht.li
 have k7 := ht.lt
 have k8 := ht.lc
 have k9 := ht.m40
 have k10 := ht.n0
 have k11 := ht.n8
 have b1 : B64 (f.t.n - 1) := ⟨by omega, by omega⟩
 have b2 : B64 ((f.t.fr.length : Int) - 1) := ⟨by omega, by omega⟩
 unfold s_i_Functor_fits
 by_cases h3 : (f.ob.length : Int) = f.s.n
 case neg => rw [bo_neg (show ¬ f.Is from fun q => h3 q.lo)]; simp [h3]
 by_cases h4 : (f.ar.length : Int) = f.s.fr.length
 case neg => rw [bo_neg (show ¬ f.Is from fun q => h4 (by rw [q.la]))]; simp [s_i_Category_arrows, h3, h4]
 by_cases h5 : f.ob.all (inR f.t.n) = true
 case neg => rw [bo_neg (show ¬ f.Is from fun q => h5 (all_inR.2 q.ob))]; simp [s_i_Category_arrows, s_i_within, ass_pos b1, h3, h4, h5]
 by_cases h6 : f.ar.all (inR f.t.fr.length) = true
 case neg => rw [bo_neg (show ¬ f.Is from fun q => h6 (all_inR.2 q.ar))]; simp [s_i_Category_arrows, s_i_within, ass_pos b1, ass_pos b2, h3, h4, h5, h6]
 have ho := all_inR.1 h5
 have ha := all_inR.1 h6
 simp only [s_i_Category_arrows, s_i_within, ass_pos b1, ass_pos b2, h3, h4, h5, h6, Option.bind_some, if_true, if_false, not_true_eq_false, Bool.not_true, Bool.false_eq_true]
 refine chk_bind f.s.fr.length (fun a : Nat => ix f.t.fr (ix f.ar a) = ix f.ob (ix f.s.fr a) ∧ ix f.t.to (ix f.ar a) = ix f.ob (ix f.s.to a)) (eb := Sum.inr false) (eg := Sum.inl ()) (by omega) (fun a hi hp => ?_) (fun a hi hp => ?_) (by simp) (fun hx => ?_) fun q1 => ?_
 · have := hs.frn hi
   have := ha a (by omega)
   simp (disch := omega) [ass_pos, B64, hp.1, hp.2, hi]
 · have := hs.frn hi
   have := ha a (by omega)
   by_cases hp1 : ix f.t.fr (ix f.ar a) = ix f.ob (ix f.s.fr a)
   · have hp2 : ¬ ix f.t.to (ix f.ar a) = ix f.ob (ix f.s.to a) := fun h => hp ⟨hp1, h⟩
     simp (disch := omega) [ass_pos, B64, hp1, hp2, hi]
   simp (disch := omega) [ass_pos, B64, hp1, hi]
 · rw [bo_neg (show ¬ f.Is from fun q => hx q.ends)]
 simp only
 refine chk_bind f.s.id.length (fun x : Nat => ix f.ar (ix f.s.id x) = ix f.t.id (ix f.ob x)) (eb := Sum.inr false) (eg := Sum.inl ()) (by omega) (fun a hi hp => ?_) (fun a hi hp => ?_) (by simp) (fun hx => ?_) fun q2 => ?_
 · have := hs.idn hi
   have := ho a (by omega)
   simp (disch := omega) [ass_pos, B64, hp, hi]
 · have := hs.idn hi
   have := ho a (by omega)
   simp (disch := omega) [ass_pos, B64, hp, hi]
 · rw [bo_neg (show ¬ f.Is from fun q => hx q.ids)]
 simp only
 refine chk_bind f.s.fr.length (fun a : Nat => ∀ b : Nat, b < f.s.fr.length → ix f.s.to a = ix f.s.fr b → ix f.ar (ix (rx f.s.cs a) b) = ix (rx f.t.cs (ix f.ar a)) (ix f.ar b)) (eb := Sum.inr false) (eg := Sum.inl ()) (by omega) (fun a hi hp => ?_) (fun a hi hp => ?_) (by simp; omega) (fun hx => ?_) fun q3 => ?_
 rotate_left 2
 · rw [bo_neg (show ¬ f.Is from fun q => hx q.comp)]
 · rw [bo_pos (show f.Is from ⟨h1, h2, h3, by omega, ho, ha, q1, q2, q3⟩)]
 all_goals
   have h8 := ha a (by omega)
   have h11 := hs.row' (j := a) (by omega) (by omega)
   have h12 := ht.row' (j := ix f.ar a) (by omega) (by omega)
   rw [if_pos (by omega), ass_pos (by omega), Option.bind_assoc]
   refine chk_bind f.s.fr.length (fun b : Nat => ix f.s.to a = ix f.s.fr b → ix f.ar (ix (rx f.s.cs a) b) = ix (rx f.t.cs (ix f.ar a)) (ix f.ar b)) (eb := Sum.inl false) (eg := Sum.inr ()) (by omega) (fun b hb hq => ?_) (fun b hb hq => ?_) ?_ (fun hn => ?_) fun hn => ?_
 all_goals first
   | exact absurd hp hn
   | exact absurd hn hp
   | (simp (disch := omega) [ass_pos, B64, h11]; done)
   | skip
 all_goals
   have h13 := ha b (by omega)
   have h16 := hs.cell' (f := a) (g := b) (by omega) (by omega) (by omega) (by omega)
   by_cases h14 : ix f.s.to a = ix f.s.fr b
   · have h15 := hs.cmp (f := a) (g := b) (by omega) (by omega) (by omega) (by omega) h14
     have h17 : ix (rx f.s.cs a) b ≥ 0 := h15.1
     first
       | (have hq1 := hq h14; simp (disch := omega) [ass_pos, B64, e_Cthen, h14, hq1, hb, h11, h17]; done)
       | (have hq1 := fun e => hq (fun _ => e); simp (disch := omega) [ass_pos, B64, e_Cthen, h14, hq1, hb, h11, h17]; exact hq1)
   have h17 := h16.1 h14
   first
     | (simp (disch := omega) [ass_pos, B64, h14, hb, h11, h17]; done)
     | exact absurd (fun e => absurd e h14) hq
theorem gx_nat {α : Type} [Inhabited α] (xs : List α) {i : Nat} (h : i < xs.length) : gx xs i = xs[i] := by simp [gx, List.getD_eq_getElem?_getD, h]
theorem e_areCats (cs : List Cat) (hl : cs.length ≤ 1048576) : s_i_areCategories cs = some (bo (∀ c ∈ cs, c.Is)) := by
 unfold s_i_areCategories
 refine chk_bind cs.length (fun i : Nat => (gx cs i).Is) (eb := Sum.inr false) (eg := Sum.inl ()) (by omega) (fun a hi hp => ?_) (fun a hi hp => ?_) (by simp) (fun hx => ?_) fun q1 => ?_
 · simp (disch := omega) [ass_pos, B64, s_i_Category_isCategory, bo_pos hp, hi]
 · simp (disch := omega) [ass_pos, B64, s_i_Category_isCategory, bo_neg hp, hi]
 · rw [bo_neg (show ¬ ∀ c ∈ cs, c.Is from fun q => hx fun i hi => q _ (by rw [gx_nat _ hi]; exact List.getElem_mem hi))]
 rw [bo_pos (show ∀ c ∈ cs, c.Is from fun c hc => by obtain ⟨i, hi, rfl⟩ := List.getElem_of_mem hc; have := q1 i hi; rwa [gx_nat _ hi] at this)]
theorem e_isFunctor (f : Fn) : s_i_Functor_isFunctor f = some (bo f.Is) := by
 unfold s_i_Functor_isFunctor
 rw [e_areCats _ (by simp)]
 by_cases h : f.s.Is ∧ f.t.Is
 · rw [bo_pos (show ∀ c ∈ [f.s, f.t], c.Is by simpa using h)]
   simp [e_fits h.1 h.2]
 rw [bo_neg (show ¬ ∀ c ∈ [f.s, f.t], c.Is by simpa using h), bo_neg (show ¬ f.Is from fun q => h ⟨q.s, q.t⟩)]
 simp
theorem e_areFunctors (fs : List Fn) (hl : fs.length ≤ 1048576) : s_i_areFunctors fs = some (bo (∀ f ∈ fs, f.Is)) := by
 unfold s_i_areFunctors
 refine chk_bind fs.length (fun i : Nat => (gx fs i).Is) (eb := Sum.inr false) (eg := Sum.inl ()) (by omega) (fun a hi hp => ?_) (fun a hi hp => ?_) (by simp) (fun hx => ?_) fun q1 => ?_
 · simp (disch := omega) [ass_pos, B64, e_isFunctor, bo_pos hp, hi]
 · simp (disch := omega) [ass_pos, B64, e_isFunctor, bo_neg hp, hi]
 · rw [bo_neg (show ¬ ∀ c ∈ fs, c.Is from fun q => hx fun i hi => q _ (by rw [gx_nat _ hi]; exact List.getElem_mem hi))]
 rw [bo_pos (show ∀ c ∈ fs, c.Is from fun c hc => by obtain ⟨i, hi, rfl⟩ := List.getElem_of_mem hc; have := q1 i hi; rwa [gx_nat _ hi] at this)]
theorem Cat.Is.lcs {c : Cat} (h : c.Is) : c.cs.length ≤ 1048576 := by have := h.1.lc; have := h.1.m40; omega
theorem e_sameCat {c d : Cat} (h : c.Is) : s_i_sameCategory c d = some (bo (c = d)) := by
 unfold s_i_sameCategory
 rw [ass_pos h.lcs]
theorem e_parallel {f g : Fn} (hf : f.Is) : s_i_parallelFunctors f g = some (bo (f.s = g.s ∧ f.t = g.t)) := by
 unfold s_i_parallelFunctors
 rw [e_sameCat hf.s, e_sameCat hf.t]
 by_cases h1 : f.s = g.s <;> by_cases h2 : f.t = g.t <;> simp [bo, h1, h2]
theorem e_commutes {f g : Fn} (h : Para f g) {p : List Int} (lp : p.length = f.ob.length) (bd : ∀ j : Nat, j < p.length → 0 ≤ ix p j ∧ ix p j < f.t.fr.length) {a : Nat} (ha : a < f.s.fr.length) :
   s_i_commutes f g p a = some (bo (ix (rx f.t.cs (ix f.ar a)) (ix p (ix f.s.to a)) = ix (rx f.t.cs (ix p (ix f.s.fr a))) (ix g.ar a))) := by
 obtain ⟨k1, k2, k3, k4, k5, k6, k7, k8, k9, k10⟩ := h.fact
 obtain ⟨m1, m2, m3, m4, m5, m6, m7, m8⟩ := h.sqok lp bd ha
 unfold s_i_commutes
 by_cases hq : ix (rx f.t.cs (ix f.ar a)) (ix p (ix f.s.to a)) = ix (rx f.t.cs (ix p (ix f.s.fr a))) (ix g.ar a) <;> simp (disch := omega) [ass_pos, e_Cthen, hq, bo]
theorem e_firstFail {f g : Fn} (h : Para f g) {p : List Int} (lp : p.length = f.ob.length) (bd : ∀ j : Nat, j < p.length → 0 ≤ ix p j ∧ ix p j < f.t.fr.length) :
   ∃ v, s_i_firstFailure__i_commutes ⟨f, g, p⟩ = some v ∧ (v < 0 ↔ ∀ a : Nat, a < f.s.fr.length → ix (rx f.t.cs (ix f.ar a)) (ix p (ix f.s.to a)) = ix (rx f.t.cs (ix p (ix f.s.fr a))) (ix g.ar a)) := by
 obtain ⟨k1, k2, k3, k4, k5, k6, k7, k8, k9, k10⟩ := h.fact
 unfold s_i_firstFailure__i_commutes
 rcases loop_fst (body := fun s6 : Int => if s6 < (f.ar.length : Int) then (s_i_commutes f g p s6).bind fun v8 => if ¬ (v8 = true) then some (Ctl.ret (Sum.inr s6)) else ass (B64 (s6 + 1)) <| some (Ctl.next (s6 + 1)) else some (Ctl.ret (Sum.inl ()))) (ε := Unit ⊕ Int)
     f.s.fr.length (fun a : Nat => ix (rx f.t.cs (ix f.ar a)) (ix p (ix f.s.to a)) = ix (rx f.t.cs (ix p (ix f.s.fr a))) (ix g.ar a)) (eb := fun i => Sum.inr (i : Int)) (eg := Sum.inl ()) (by omega)
     (fun a hi hp => by simp (disch := omega) [ass_pos, B64, e_commutes h lp bd hi, hp, bo]; omega) (fun a hi hp => by simp (disch := omega) [ass_pos, B64, e_commutes h lp bd hi, hp, bo]; omega) (by simp; omega) with ⟨h1, h2⟩ | ⟨m, h1, h2, h3, h4⟩
 · refine ⟨-1, ?_, by simpa using h1⟩
   simp only
   rw [h2]; rfl
 refine ⟨m, ?_, ⟨fun q => by omega, fun q => absurd (q m h1) h2⟩⟩
 simp only
 rw [h4]; rfl
theorem e_Tshape (t : Tra) : s_i_Transformation_isShape t = some (bo (Para t.s t.t ∧ t.p.length = t.s.ob.length ∧ (∀ j : Nat, j < t.p.length → 0 ≤ ix t.p j ∧ ix t.p j < t.s.t.fr.length) ∧ ∀ x : Nat, x < t.p.length → ix t.s.t.fr (ix t.p x) = ix t.s.ob x ∧ ix t.s.t.to (ix t.p x) = ix t.t.ob x)) := by
 unfold s_i_Transformation_isShape
 rw [e_areFunctors _ (by simp)]
 by_cases h : t.s.Is ∧ t.t.Is
 case neg => rw [bo_neg (show ¬ ∀ c ∈ [t.s, t.t], c.Is by simpa using h), bo_neg (fun q => h ⟨q.1.hf, q.1.hg⟩)]; simp
 rw [bo_pos (show ∀ c ∈ [t.s, t.t], c.Is by simpa using h)]
 obtain ⟨hf, hg⟩ := h
 rw [e_parallel hf]
 by_cases h : t.s.s = t.t.s ∧ t.s.t = t.t.t
 case neg => rw [bo_neg h, bo_neg (fun q => h ⟨q.1.s, q.1.t⟩)]; simp
 rw [bo_pos h]
 have hP : Para t.s t.t := ⟨hf, hg, h.1, h.2⟩
 obtain ⟨k1, k2, k3, k4, k5, k6, k7, k8, k9, k10⟩ := hP.fact
 have lo := hf.lo
 have b2 : B64 ((t.s.t.fr.length : Int) - 1) := ⟨by omega, by omega⟩
 by_cases h1 : (t.p.length : Int) = t.s.s.n
 case neg => rw [bo_neg (fun q => h1 (by rw [q.2.1, lo]))]; simp [h1]
 by_cases h2 : t.p.all (inR t.s.t.fr.length) = true
 case neg => rw [bo_neg (fun q => h2 (all_inR.2 q.2.2.1))]; simp [s_i_Category_arrows, s_i_within, ass_pos b2, h1, h2]
 have bd := all_inR.1 h2
 simp only [s_i_Category_arrows, s_i_within, ass_pos b2, h1, h2, not_true_eq_false, if_false, Option.bind_some, Bool.not_true, Bool.false_eq_true]
 refine chk_bind t.p.length (fun x : Nat => ix t.s.t.fr (ix t.p x) = ix t.s.ob x ∧ ix t.s.t.to (ix t.p x) = ix t.t.ob x) (eb := Sum.inr false) (eg := Sum.inl ()) (by omega) (fun a hi hp => ?_) (fun a hi hp => ?_) (by simp; try omega) (fun hx => ?_) fun q1 => ?_
 · have := bd a hi
   simp (disch := omega) [ass_pos, B64, s_i_Category_ends, hp.1, hp.2]; omega
 · have := bd a hi
   by_cases hp1 : ix t.s.t.fr (ix t.p a) = ix t.s.ob a
   · have hp2 : ¬ ix t.s.t.to (ix t.p a) = ix t.t.ob a := fun q => hp ⟨hp1, q⟩
     simp (disch := omega) [ass_pos, B64, s_i_Category_ends, hp1, hp2]; try omega
   simp (disch := omega) [ass_pos, B64, s_i_Category_ends, hp1]; try omega
 · rw [bo_neg (fun q => hx q.2.2.2)]
 rw [bo_pos ⟨hP, by omega, bd, q1⟩]
theorem e_isNatural (t : Tra) : s_i_Transformation_isNatural t = some (bo t.Is) := by
 unfold s_i_Transformation_isNatural
 rw [e_Tshape]
 by_cases h : Para t.s t.t ∧ t.p.length = t.s.ob.length ∧ (∀ j : Nat, j < t.p.length → 0 ≤ ix t.p j ∧ ix t.p j < t.s.t.fr.length) ∧ ∀ x : Nat, x < t.p.length → ix t.s.t.fr (ix t.p x) = ix t.s.ob x ∧ ix t.s.t.to (ix t.p x) = ix t.t.ob x
 case neg => rw [bo_neg h, bo_neg (show ¬ t.Is from fun q => h ⟨q.p, q.n.lp, q.n.bd, q.n.ends⟩)]; simp
 rw [bo_pos h]
 obtain ⟨hP, lp, bd, en⟩ := h
 obtain ⟨v, hv, hiff⟩ := e_firstFail hP lp bd
 have hv' : s_i_firstFailure__i_commutes t = some v := hv
 by_cases hn : v < 0
 · rw [bo_pos (show t.Is from ⟨hP, lp, bd, en, hiff.1 hn⟩)]; simp [hv', hn]
 rw [bo_neg (show ¬ t.Is from fun q => hn (hiff.2 q.n.sq))]; simp [hv', hn]
theorem e_areNatural (ts : List Tra) (hl : ts.length ≤ 1048576) : s_i_areNatural ts = some (bo (∀ t ∈ ts, t.Is)) := by
 unfold s_i_areNatural
 refine chk_bind ts.length (fun i : Nat => (gx ts i).Is) (eb := Sum.inr false) (eg := Sum.inl ()) (by omega) (fun a hi hp => ?_) (fun a hi hp => ?_) (by simp) (fun hx => ?_) fun q1 => ?_
 · simp (disch := omega) [ass_pos, B64, e_isNatural, bo_pos hp, hi]
 · simp (disch := omega) [ass_pos, B64, e_isNatural, bo_neg hp, hi]
 · rw [bo_neg (show ¬ ∀ c ∈ ts, c.Is from fun q => hx fun i hi => q _ (by rw [gx_nat _ hi]; exact List.getElem_mem hi))]
 rw [bo_pos (show ∀ c ∈ ts, c.Is from fun c hc => by obtain ⟨i, hi, rfl⟩ := List.getElem_of_mem hc; have := q1 i hi; rwa [gx_nat _ hi] at this)]
end Go.Vc.T

set_option maxRecDepth 100000
set_option linter.unusedSimpArgs false
set_option linter.unusedVariables false
namespace Go.Vc.T
open Go Go.Vc Go.Proofs
noncomputable def s_s_l02Unit (c_ : Cat) (f_ : Int) : Option Bool :=
 ass (0 ≤ f_ ∧ f_ < (c_.fr.length : Int)) <|
 ass (0 ≤ ix c_.fr f_ ∧ ix c_.fr f_ < (c_.id.length : Int)) <|
 some ((ix c_.id (ix c_.fr f_)) == f_)
set_option maxHeartbeats 4000000 in
theorem w_s_l02Unit (c_ : Cat) (f_ : Int) (r : Bool) (h : s_s_l02Unit c_ f_ = some r) : Contract Try.prog 170 [.agg (c_.cells true), .val (.int .i64 f_)] (.val (.bool r)) := by
 refine contract_introG (rvs := [.tmp 4]) (rs := [.val (.bool r)]) Try.func170 rfl rfl rfl rfl (by simp [Try.f170]) fun F hN hP => ?_
 unfold s_s_l02Unit at h
 refine w_seq ?_
 refine w_run mo (by rw [hN]; decide) fun K hK => ?_
 simp [-guardE_b, -Is_at, -Is_at', -Ls_at, -Ls_at', eL, eI, allInts, eP_Cat, Cat.cells]
 repeat (with_reducible refine And.intro ?_ ?_; · first | assumption | omega | (simp; done) | (simp; omega) | simp_all)
 refine hK _ ?_
 clear hK K
 refine tn ?_
 refine w_weak (st' := ⟨[(1, .val (.int .i64 f_)), (2, .adr 0 0 0)], [(0, .mix 5 [(Cat.cells true c_)])], 1⟩) (Wk.r1 [(0, 0)] (by simp [hP, hhOk, back, Cat.cells, IA, I1, LA, L1, BA, B1, EA, E1, E2, eB, eI, eL])) ?_
 refine w_seq ?_
 refine w_run mo (by rw [hN]; decide) fun K hK => ?_
 replace h := ass_some h
 obtain ⟨a1, h⟩ := h
 replace h := ass_some h
 obtain ⟨a2, h⟩ := h
 simp [-guardE_b, -Is_at, -Is_at', -Ls_at, -Ls_at', eL, eI, allInts, eP_Cat, Cat.cells, at_I a1, at_I a2]
 repeat (with_reducible refine And.intro ?_ ?_; · first | assumption | omega | (simp; done) | (simp; omega) | simp_all)
 refine hK _ ?_
 clear hK K
 refine tn ?_
 refine w_weak (st' := ⟨[(4, .val (.bool ((ix c_.id (ix c_.fr f_)) == f_)))], [], 0⟩) (Wk.r1 [] (by simp [hP, hhOk, back, Cat.cells, IA, I1, LA, L1, BA, B1, EA, E1, E2, eB, eI, eL])) ?_
 refine w_ret ?_
 have hr := Option.some.inj h
 rw [← hr]
 refine ⟨_, (.tmp .nil), ?_⟩
 refine ⟨(.one rfl rfl .nil), [.val (.bool ((ix c_.id (ix c_.fr f_)) == f_))], [], by simp [Cat.cells, IA, I1, LA, L1, BA, B1, EA, E1, E2, eB, eI, eL], by simp, (UpL.refl _)⟩
end Go.Vc.T

set_option maxRecDepth 100000
set_option linter.unusedSimpArgs false
set_option linter.unusedVariables false
namespace Go.Vc.T
open Go Go.Vc Go.Proofs
structure Adj.Pre (a : Adj) : Prop where
 hl : a.l.Is
 hr : a.r.Is
 e1 : a.l.t = a.r.s
 e2 : a.r.t = a.l.s
 n1 : NatT (selfF a.l.s) (thenF a.l a.r) a.u
 n2 : NatT (thenF a.r a.l) (selfF a.l.t) a.k
structure Adj.Is (a : Adj) : Prop where
 pre : a.Pre
 t1 : ∀ x : Nat, x < a.l.ob.length → ix (rx a.l.t.cs (ix a.l.ar (ix a.u x))) (ix a.k (ix a.l.ob x)) = ix a.l.t.id (ix a.l.ob x)
 t2 : ∀ y : Nat, y < a.r.ob.length → ix (rx a.l.s.cs (ix a.u (ix a.r.ob y))) (ix a.r.ar (ix a.k y)) = ix a.l.s.id (ix a.r.ob y)
theorem e_l02Unit {c : Cat} (hc : c.Is) {f : Int} (h0 : 0 ≤ f) (h1 : f < c.fr.length) : s_s_l02Unit c f = some (bo (f = ix c.id (ix c.fr f))) := by
 have := hc.1.fr' h0 h1
 unfold s_s_l02Unit
 rw [ass_pos ⟨h0, h1⟩, ass_pos this]
 by_cases h : ix c.id (ix c.fr f) = f
 · rw [bo_pos h.symm]; simp [h]
 rw [bo_neg (fun q => h q.symm)]; simp [h]
theorem tra_is {f g : Fn} {p : List Int} (h : Para f g) : (⟨f, g, p⟩ : Tra).Is ↔ NatT f g p := ⟨fun q => q.n, fun q => ⟨h, q⟩⟩
end Go.Vc.T

set_option maxRecDepth 100000
set_option linter.unusedSimpArgs false
set_option linter.unusedVariables false
namespace Go.Vc.T
open Go Go.Vc Go.Proofs
noncomputable def s_i_Category_hom (c_ : Cat) (x_ : Int) (y_ : Int) : Option (List Int) :=
 (loopF (σ := List Int × Int) (ε := List Int) (fun s11 =>
   if s11.2 < (c_.fr.length : Int) then
     (
       (
         ass (0 ≤ s11.2 ∧ s11.2 < (c_.fr.length : Int)) <|
         if (ix c_.fr s11.2) = x_ then
           ass (0 ≤ s11.2 ∧ s11.2 < (c_.to.length : Int)) <|
           some ((ix c_.to s11.2) == y_)
         else
           some false : Option (Bool)).bind fun b14 =>
       if b14 = true then
         ass ((s11.1 ++ [s11.2]).length ≤ 1073741824) <|
         some (s11.1 ++ [s11.2])
       else
         some s11.1 : Option (List Int)).bind fun b13 =>
     ass (B64 (s11.2 + 1)) <|
     some (Ctl.next (b13, s11.2 + 1))
   else
     some (Ctl.ret s11.1)) fuel ([], 0)).bind fun b1 =>
 some b1
set_option maxHeartbeats 4000000 in
theorem w_i_Category_hom (c_ : Cat) (x_ : Int) (y_ : Int) (r : List Int) (h : s_i_Category_hom c_ x_ y_ = some r) : Contract Try.prog 165 [.rptr (c_.cells true), .val (.int .i64 x_), .val (.int .i64 y_)] (.lst true 1 (Is r)) := by
 refine contract_introG (rvs := [.tmp 6]) (rs := [.lst true 1 (Is r)]) Try.func165 rfl rfl rfl rfl (by simp [Try.f165]) fun F hN hP => ?_
 unfold s_i_Category_hom at h
 refine w_seq ?_
 refine w_run mo (by rw [hN]; decide) fun K hK => ?_
 simp [-guardE_b, -Is_at, -Is_at', -Ls_at, -Ls_at', eL, eI, allInts, eP_Cat, Cat.cells]
 repeat (with_reducible refine And.intro ?_ ?_; · first | assumption | omega | (simp; done) | (simp; omega) | simp_all)
 refine hK _ ?_
 clear hK K
 refine tn ?_
 refine w_weak (st' := ⟨[(0, .rptr (Cat.cells true c_)), (1, .val (.int .i64 x_)), (2, .val (.int .i64 y_))], [], 0⟩) (Wk.r1 [] (by simp [hP, hhOk, back, Cat.cells, IA, I1, LA, L1, BA, B1, EA, E1, E2, eB, eI, eL])) ?_
 refine w_seq ?_
 refine w_run mo (by rw [hN]; decide) fun K hK => ?_
 simp [-guardE_b, -Is_at, -Is_at', -Ls_at, -Ls_at', eL, eI, allInts, eP_Cat, Cat.cells]
 repeat (with_reducible refine And.intro ?_ ?_; · first | assumption | omega | (simp; done) | (simp; omega) | simp_all)
 refine hK _ ?_
 clear hK K
 refine tn ?_
 refine w_weak (st' := ⟨[(0, .rptr (Cat.cells true c_)), (1, .val (.int .i64 x_)), (2, .val (.int .i64 y_)), (7, .own 0 0 0)], [(0, .mix 1 [])], 1⟩) (Wk.r1 [(0, 0)] (by simp [hP, hhOk, back, Cat.cells, IA, I1, LA, L1, BA, B1, EA, E1, E2, eB, eI, eL])) ?_
 refine w_seq ?_
 refine w_seq ?_
 refine w_run mo (by rw [hN]; decide) fun K hK => ?_
 simp [-guardE_b, -Is_at, -Is_at', -Ls_at, -Ls_at', eL, eI, allInts, eP_Cat, Cat.cells]
 repeat (with_reducible refine And.intro ?_ ?_; · first | assumption | omega | (simp; done) | (simp; omega) | simp_all)
 refine hK _ ?_
 clear hK K
 refine tn ?_
 refine w_weak (st' := ⟨[(0, .rptr (Cat.cells true c_)), (1, .val (.int .i64 x_)), (2, .val (.int .i64 y_)), (7, .own 0 0 0), (14, .val (.int .i64 (c_.fr.length : Int))), (15, .val (.int .i64 0))], [(0, .mix 1 [])], 1⟩) (Wk.r1 [(0, 0)] (by simp [hP, hhOk, back, Cat.cells, IA, I1, LA, L1, BA, B1, EA, E1, E2, eB, eI, eL])) ?_
 replace h := bind_some h
 obtain ⟨e1, h, h1⟩ := h
 refine w_joinT (fun b1 : List Int => ⟨[(7, .own 0 0 b1.length)], [(0, .row 1 (Is b1))], 1⟩) (fun b1 => b1 = e1) ?_ ?_
 · refine w_block ?_
   refine w_loopF h (fun s11 : List Int × Int => ⟨[(0, .rptr (Cat.cells true c_)), (1, .val (.int .i64 x_)), (2, .val (.int .i64 y_)), (7, .own 0 0 s11.1.length), (14, .val (.int .i64 (c_.fr.length : Int))), (15, .val (.int .i64 s11.2))], [(0, .row 1 (Is s11.1))], 1⟩) (wk_tr ⟨[(0, .rptr (Cat.cells true c_)), (1, .val (.int .i64 x_)), (2, .val (.int .i64 y_)), (7, .own 0 0 0), (14, .val (.int .i64 (c_.fr.length : Int))), (15, .val (.int .i64 0))], [(0, .row 1 (Is []))], 1⟩ (Wk.nils [] (by simp) (by simp) (by simp [nlA]) (by simp [entN, nlL, nlA, Cat.cells, IA, I1, LA, L1, BA, B1, EA, E1, E2, eB, eI, eL]) (by simp)) (Wk.r1 [(0, 0)] (by simp [hP, hhOk, back, Cat.cells, IA, I1, LA, L1, BA, B1, EA, E1, E2, eB, eI, eL]))) ?_
   clear h
   intro k11 s11 c11 h hk11
   refine w_seq ?_
   refine w_run mo (by rw [hN]; decide) fun K hK => ?_
   simp [-guardE_b, -Is_at, -Is_at', -Ls_at, -Ls_at', eL, eI, allInts, eP_Cat, Cat.cells]
   repeat (with_reducible refine And.intro ?_ ?_; · first | assumption | omega | (simp; done) | (simp; omega) | simp_all)
   refine hK _ ?_
   clear hK K
   refine tn ?_
   refine w_weak (st' := ⟨[(0, .rptr (Cat.cells true c_)), (1, .val (.int .i64 x_)), (2, .val (.int .i64 y_)), (7, .own 0 0 s11.1.length), (14, .val (.int .i64 (c_.fr.length : Int))), (15, .val (.int .i64 s11.2)), (16, .val (.bool (decide (s11.2 < (c_.fr.length : Int)))))], [(0, .row 1 (Is s11.1))], 1⟩) (Wk.r1 [(0, 0)] (by simp [hP, hhOk, back, Cat.cells, IA, I1, LA, L1, BA, B1, EA, E1, E2, eB, eI, eL])) ?_
   refine w_seq ?_
   refine w_cond rfl (fun g => ?_) fun g => ?_
   · have g12 : s11.2 < (c_.fr.length : Int) := by first | simpa using g | (simp at g; exact g) | (simp at g; omega)
     clear g
     replace h := if_l g12 h
     refine w_skip ?_
     refine tn ?_
     refine w_seq ?_
     replace h := bind_some h
     obtain ⟨e13, h, h13⟩ := h
     refine w_joinT (fun b13 : List Int => ⟨[(0, .rptr (Cat.cells true c_)), (1, .val (.int .i64 x_)), (2, .val (.int .i64 y_)), (7, .own 0 0 b13.length), (14, .val (.int .i64 (c_.fr.length : Int))), (15, .val (.int .i64 s11.2))], [(0, .row 1 (Is b13))], 1⟩) (fun b13 => b13 = e13) ?_ ?_
     · refine w_block ?_
       refine w_seq ?_
       refine w_run mo (by rw [hN]; decide) fun K hK => ?_
       simp [-guardE_b, -Is_at, -Is_at', -Ls_at, -Ls_at', eL, eI, allInts, eP_Cat, Cat.cells]
       repeat (with_reducible refine And.intro ?_ ?_; · first | assumption | omega | (simp; done) | (simp; omega) | simp_all)
       refine hK _ ?_
       clear hK K
       refine tn ?_
       refine w_weak (st' := ⟨[(0, .rptr (Cat.cells true c_)), (1, .val (.int .i64 x_)), (2, .val (.int .i64 y_)), (7, .own 0 0 s11.1.length), (8, .val (.int .i64 s11.2)), (14, .val (.int .i64 (c_.fr.length : Int))), (15, .val (.int .i64 s11.2))], [(0, .row 1 (Is s11.1))], 1⟩) (Wk.r1 [(0, 0)] (by simp [hP, hhOk, back, Cat.cells, IA, I1, LA, L1, BA, B1, EA, E1, E2, eB, eI, eL])) ?_
       refine w_seq ?_
       replace h := bind_some h
       obtain ⟨e14, h, h14⟩ := h
       refine w_joinT (fun b14 : Bool => ⟨[(0, .rptr (Cat.cells true c_)), (1, .val (.int .i64 x_)), (2, .val (.int .i64 y_)), (7, .own 0 0 s11.1.length), (8, .val (.int .i64 s11.2)), (14, .val (.int .i64 (c_.fr.length : Int))), (15, .val (.int .i64 s11.2)), (37, .val (.bool b14))], [(0, .row 1 (Is s11.1))], 1⟩) (fun b14 => b14 = e14) ?_ ?_
       · refine w_run mo (by rw [hN]; decide) fun K hK => ?_
         replace h := ass_some h
         obtain ⟨a15, h⟩ := h
         simp [-guardE_b, -Is_at, -Is_at', -Ls_at, -Ls_at', eL, eI, allInts, eP_Cat, Cat.cells, at_I a15]
         repeat (with_reducible refine And.intro ?_ ?_; · first | assumption | omega | (simp; done) | (simp; omega) | simp_all)
         refine guard_intro (fun g => ?_) (fun g => ?_)
         · have g16 : (ix c_.fr s11.2) = x_ := by first | simpa using g | (simp at g; exact g) | (simp at g; omega)
           clear g
           replace h := if_l g16 h
           replace h := ass_some h
           obtain ⟨a17, h⟩ := h
           simp [-guardE_b, -Is_at, -Is_at', -Ls_at, -Ls_at', eL, eI, allInts, eP_Cat, Cat.cells, at_I a17]
           repeat (with_reducible refine And.intro ?_ ?_; · first | assumption | omega | (simp; done) | (simp; omega) | simp_all)
           refine hK _ ?_
           exact jn (b := (ix c_.to s11.2) == y_) (Option.some.inj h) (Wk.r1 [(0, 0)] (by simp [hP, hhOk, back, Cat.cells, IA, I1, LA, L1, BA, B1, EA, E1, E2, eB, eI, eL]))
         have g16 : ¬ ((ix c_.fr s11.2) = x_) := by first | simpa using g | (simp at g; exact g) | (simp at g; omega)
         clear g
         replace h := if_r g16 h
         simp [-guardE_b, -Is_at, -Is_at', -Ls_at, -Ls_at', eL, eI, allInts, eP_Cat, Cat.cells]
         repeat (with_reducible refine And.intro ?_ ?_; · first | assumption | omega | (simp; done) | (simp; omega) | simp_all)
         refine hK _ ?_
         exact jn (b := false) (Option.some.inj h) (Wk.r1 [(0, 0)] (by simp [hP, hhOk, back, Cat.cells, IA, I1, LA, L1, BA, B1, EA, E1, E2, eB, eI, eL]))
       intro b14 hb14
       have h := h14
       rw [← hb14] at h
       clear h14
       try dsimp only at h
       refine w_cond rfl (fun g => ?_) fun g => ?_
       · have g18 : b14 = true := by first | simpa using g | (simp at g; exact g) | (simp at g; omega)
         clear g
         replace h := if_l g18 h
         refine w_run mo (by rw [hN]; decide) fun K hK => ?_
         replace h := ass_some h
         obtain ⟨a19, h⟩ := h
         try simp only [List.length_append, List.length_cons, List.length_nil] at a19
         simp [-guardE_b, -Is_at, -Is_at', -Ls_at, -Ls_at', eL, eI, allInts, eP_Cat, Cat.cells, a19]
         repeat (with_reducible refine And.intro ?_ ?_; · first | assumption | omega | (simp; done) | (simp; omega) | simp_all)
         refine hK _ ?_
         clear hK K
         refine bn ?_
         exact jn (b := s11.1 ++ [s11.2]) (Option.some.inj h) (Wk.r1 [(2, 0)] (by simp [hP, hhOk, back, Cat.cells, IA, I1, LA, L1, BA, B1, EA, E1, E2, eB, eI, eL]))
       have g18 : ¬ (b14 = true) := by first | simpa using g | (simp at g; exact g) | (simp at g; omega)
       clear g
       replace h := if_r g18 h
       refine w_skip ?_
       refine bn ?_
       exact jn (b := s11.1) (Option.some.inj h) (Wk.r1 [(0, 0)] (by simp [hP, hhOk, back, Cat.cells, IA, I1, LA, L1, BA, B1, EA, E1, E2, eB, eI, eL]))
     intro b13 hb13
     have h := h13
     rw [← hb13] at h
     clear h13
     try dsimp only at h
     refine w_run mo (by rw [hN]; decide) fun K hK => ?_
     replace h := ass_some h
     obtain ⟨a20, h⟩ := h
     simp [-guardE_b, -Is_at, -Is_at', -Ls_at, -Ls_at', eL, eI, allInts, eP_Cat, Cat.cells, wrap_id a20]
     repeat (with_reducible refine And.intro ?_ ?_; · first | assumption | omega | (simp; done) | (simp; omega) | simp_all)
     refine hK _ ?_
     clear hK K
     cases h
     exact rn (s' := (b13, s11.2 + 1)) hk11 (Wk.r1 [(0, 0)] (by simp [hP, hhOk, back, Cat.cells, IA, I1, LA, L1, BA, B1, EA, E1, E2, eB, eI, eL]))
   have g12 : ¬ (s11.2 < (c_.fr.length : Int)) := by first | simpa using g | (simp at g; exact g) | (simp at g; omega)
   clear g
   replace h := if_r g12 h
   refine w_exit ?_
   refine tx ?_
   refine lx ?_
   refine bh ?_
   cases h
   exact jn (b := s11.1) hk11 (Wk.r1 [(0, 0)] (by simp [hP, hhOk, back, Cat.cells, IA, I1, LA, L1, BA, B1, EA, E1, E2, eB, eI, eL]))
 intro b1 hb1
 have h := h1
 rw [← hb1] at h
 clear h1
 try dsimp only at h
 refine w_seq ?_
 refine w_run mo (by rw [hN]; decide) fun K hK => ?_
 simp [-guardE_b, -Is_at, -Is_at', -Ls_at, -Ls_at', eL, eI, allInts, eP_Cat, Cat.cells]
 repeat (with_reducible refine And.intro ?_ ?_; · first | assumption | omega | (simp; done) | (simp; omega) | simp_all)
 refine hK _ ?_
 clear hK K
 refine tn ?_
 refine w_weak (st' := ⟨[(6, .own 0 0 b1.length)], [(0, .row 1 (Is b1))], 1⟩) (Wk.r1 [(0, 0)] (by simp [hP, hhOk, back, Cat.cells, IA, I1, LA, L1, BA, B1, EA, E1, E2, eB, eI, eL])) ?_
 refine w_ret ?_
 have hr := Option.some.inj h
 rw [← hr]
 refine ⟨_, (.tmp .nil), ?_⟩
 refine ⟨(.one rfl rfl .nil), [.lst true 1 (Is b1)], [0], by simp [Cat.cells, IA, I1, LA, L1, BA, B1, EA, E1, E2, eB, eI, eL], by simp, (UpL.refl _)⟩
end Go.Vc.T

set_option maxRecDepth 100000
set_option linter.unusedSimpArgs false
set_option linter.unusedVariables false
namespace Go.Vc.T
open Go Go.Vc Go.Proofs
noncomputable def s_s_l02Hom (c_ : Cat) (x_ : Int) (y_ : Int) : Option (List Int) :=
 (loopF (σ := List Int × Int) (ε := List Int) (fun s11 =>
   if s11.2 < (c_.fr.length : Int) then
     (
       (
         ass (0 ≤ s11.2 ∧ s11.2 < (c_.fr.length : Int)) <|
         if (ix c_.fr s11.2) = x_ then
           ass (0 ≤ s11.2 ∧ s11.2 < (c_.to.length : Int)) <|
           some ((ix c_.to s11.2) == y_)
         else
           some false : Option (Bool)).bind fun b14 =>
       if b14 = true then
         ass ((s11.1 ++ [s11.2]).length ≤ 1073741824) <|
         some (s11.1 ++ [s11.2])
       else
         some s11.1 : Option (List Int)).bind fun b13 =>
     ass (B64 (s11.2 + 1)) <|
     some (Ctl.next (b13, s11.2 + 1))
   else
     some (Ctl.ret s11.1)) fuel ([], 0)).bind fun b1 =>
 some b1
set_option maxHeartbeats 4000000 in
theorem w_s_l02Hom (c_ : Cat) (x_ : Int) (y_ : Int) (r : List Int) (h : s_s_l02Hom c_ x_ y_ = some r) : Contract Try.prog 162 [.agg (c_.cells true), .val (.int .i64 x_), .val (.int .i64 y_)] (.lst true 1 (Is r)) := by
 refine contract_introG (rvs := [.tmp 6]) (rs := [.lst true 1 (Is r)]) Try.func162 rfl rfl rfl rfl (by simp [Try.f162]) fun F hN hP => ?_
 unfold s_s_l02Hom at h
 refine w_seq ?_
 refine w_run mo (by rw [hN]; decide) fun K hK => ?_
 simp [-guardE_b, -Is_at, -Is_at', -Ls_at, -Ls_at', eL, eI, allInts, eP_Cat, Cat.cells]
 repeat (with_reducible refine And.intro ?_ ?_; · first | assumption | omega | (simp; done) | (simp; omega) | simp_all)
 refine hK _ ?_
 clear hK K
 refine tn ?_
 refine w_weak (st' := ⟨[(1, .val (.int .i64 x_)), (2, .val (.int .i64 y_)), (3, .adr 0 0 0)], [(0, .mix 5 [(Cat.cells true c_)])], 1⟩) (Wk.r1 [(0, 0)] (by simp [hP, hhOk, back, Cat.cells, IA, I1, LA, L1, BA, B1, EA, E1, E2, eB, eI, eL])) ?_
 refine w_seq ?_
 refine w_run mo (by rw [hN]; decide) fun K hK => ?_
 simp [-guardE_b, -Is_at, -Is_at', -Ls_at, -Ls_at', eL, eI, allInts, eP_Cat, Cat.cells]
 repeat (with_reducible refine And.intro ?_ ?_; · first | assumption | omega | (simp; done) | (simp; omega) | simp_all)
 refine hK _ ?_
 clear hK K
 refine tn ?_
 refine w_weak (st' := ⟨[(1, .val (.int .i64 x_)), (2, .val (.int .i64 y_)), (3, .adr 0 0 0), (7, .own 1 0 0)], [(0, .mix 5 [(Cat.cells true c_)]), (1, .mix 1 [])], 2⟩) (Wk.r1 [(0, 0), (1, 1)] (by simp [hP, hhOk, back, Cat.cells, IA, I1, LA, L1, BA, B1, EA, E1, E2, eB, eI, eL])) ?_
 refine w_seq ?_
 refine w_seq ?_
 refine w_run mo (by rw [hN]; decide) fun K hK => ?_
 simp [-guardE_b, -Is_at, -Is_at', -Ls_at, -Ls_at', eL, eI, allInts, eP_Cat, Cat.cells]
 repeat (with_reducible refine And.intro ?_ ?_; · first | assumption | omega | (simp; done) | (simp; omega) | simp_all)
 refine hK _ ?_
 clear hK K
 refine tn ?_
 refine w_weak (st' := ⟨[(1, .val (.int .i64 x_)), (2, .val (.int .i64 y_)), (3, .adr 0 0 0), (7, .own 1 0 0), (8, .val (.int .i64 0))], [(0, .mix 5 [(Cat.cells true c_)]), (1, .mix 1 [])], 2⟩) (Wk.r1 [(0, 0), (1, 1)] (by simp [hP, hhOk, back, Cat.cells, IA, I1, LA, L1, BA, B1, EA, E1, E2, eB, eI, eL])) ?_
 replace h := bind_some h
 obtain ⟨e1, h, h1⟩ := h
 refine w_joinT (fun b1 : List Int => ⟨[(7, .own 0 0 b1.length)], [(0, .row 1 (Is b1))], 1⟩) (fun b1 => b1 = e1) ?_ ?_
 · refine w_block ?_
   refine w_loopF h (fun s11 : List Int × Int => ⟨[(1, .val (.int .i64 x_)), (2, .val (.int .i64 y_)), (3, .adr 0 0 0), (7, .own 1 0 s11.1.length), (8, .val (.int .i64 s11.2))], [(0, .mix 5 [(Cat.cells true c_)]), (1, .row 1 (Is s11.1))], 2⟩) (wk_tr ⟨[(1, .val (.int .i64 x_)), (2, .val (.int .i64 y_)), (3, .adr 0 0 0), (7, .own 1 0 0), (8, .val (.int .i64 0))], [(0, .mix 5 [(Cat.cells true c_)]), (1, .row 1 (Is []))], 2⟩ (Wk.nils [] (by simp) (by simp) (by simp [nlA]) (by simp [entN, nlL, nlA, Cat.cells, IA, I1, LA, L1, BA, B1, EA, E1, E2, eB, eI, eL]) (by simp)) (Wk.r1 [(0, 0), (1, 1)] (by simp [hP, hhOk, back, Cat.cells, IA, I1, LA, L1, BA, B1, EA, E1, E2, eB, eI, eL]))) ?_
   clear h
   intro k11 s11 c11 h hk11
   refine w_seq ?_
   refine w_seq ?_
   refine w_run mo (by rw [hN]; decide) fun K hK => ?_
   simp [-guardE_b, -Is_at, -Is_at', -Ls_at, -Ls_at', eL, eI, allInts, eP_Cat, Cat.cells]
   repeat (with_reducible refine And.intro ?_ ?_; · first | assumption | omega | (simp; done) | (simp; omega) | simp_all)
   refine hK _ ?_
   clear hK K
   refine tn ?_
   refine w_weak (st' := ⟨[(1, .val (.int .i64 x_)), (2, .val (.int .i64 y_)), (3, .adr 0 0 0), (7, .own 1 0 s11.1.length), (8, .val (.int .i64 s11.2)), (14, .val (.bool (decide (s11.2 < (c_.fr.length : Int)))))], [(0, .mix 5 [(Cat.cells true c_)]), (1, .row 1 (Is s11.1))], 2⟩) (Wk.r1 [(0, 0), (1, 1)] (by simp [hP, hhOk, back, Cat.cells, IA, I1, LA, L1, BA, B1, EA, E1, E2, eB, eI, eL])) ?_
   refine w_cond rfl (fun g => ?_) fun g => ?_
   · have g12 : s11.2 < (c_.fr.length : Int) := by first | simpa using g | (simp at g; exact g) | (simp at g; omega)
     clear g
     replace h := if_l g12 h
     refine w_skip ?_
     refine tn ?_
     refine w_seq ?_
     replace h := bind_some h
     obtain ⟨e13, h, h13⟩ := h
     refine w_joinT (fun b13 : List Int => ⟨[(1, .val (.int .i64 x_)), (2, .val (.int .i64 y_)), (3, .adr 0 0 0), (7, .own 1 0 b13.length), (8, .val (.int .i64 s11.2))], [(0, .mix 5 [(Cat.cells true c_)]), (1, .row 1 (Is b13))], 2⟩) (fun b13 => b13 = e13) ?_ ?_
     · refine w_block ?_
       refine w_seq ?_
       replace h := bind_some h
       obtain ⟨e14, h, h14⟩ := h
       refine w_joinT (fun b14 : Bool => ⟨[(1, .val (.int .i64 x_)), (2, .val (.int .i64 y_)), (3, .adr 0 0 0), (7, .own 1 0 s11.1.length), (8, .val (.int .i64 s11.2)), (32, .val (.bool b14))], [(0, .mix 5 [(Cat.cells true c_)]), (1, .row 1 (Is s11.1))], 2⟩) (fun b14 => b14 = e14) ?_ ?_
       · refine w_run mo (by rw [hN]; decide) fun K hK => ?_
         replace h := ass_some h
         obtain ⟨a15, h⟩ := h
         simp [-guardE_b, -Is_at, -Is_at', -Ls_at, -Ls_at', eL, eI, allInts, eP_Cat, Cat.cells, at_I a15]
         repeat (with_reducible refine And.intro ?_ ?_; · first | assumption | omega | (simp; done) | (simp; omega) | simp_all)
         refine guard_intro (fun g => ?_) (fun g => ?_)
         · have g16 : (ix c_.fr s11.2) = x_ := by first | simpa using g | (simp at g; exact g) | (simp at g; omega)
           clear g
           replace h := if_l g16 h
           replace h := ass_some h
           obtain ⟨a17, h⟩ := h
           simp [-guardE_b, -Is_at, -Is_at', -Ls_at, -Ls_at', eL, eI, allInts, eP_Cat, Cat.cells, at_I a17]
           repeat (with_reducible refine And.intro ?_ ?_; · first | assumption | omega | (simp; done) | (simp; omega) | simp_all)
           refine hK _ ?_
           exact jn (b := (ix c_.to s11.2) == y_) (Option.some.inj h) (Wk.r1 [(0, 0), (1, 1)] (by simp [hP, hhOk, back, Cat.cells, IA, I1, LA, L1, BA, B1, EA, E1, E2, eB, eI, eL]))
         have g16 : ¬ ((ix c_.fr s11.2) = x_) := by first | simpa using g | (simp at g; exact g) | (simp at g; omega)
         clear g
         replace h := if_r g16 h
         simp [-guardE_b, -Is_at, -Is_at', -Ls_at, -Ls_at', eL, eI, allInts, eP_Cat, Cat.cells]
         repeat (with_reducible refine And.intro ?_ ?_; · first | assumption | omega | (simp; done) | (simp; omega) | simp_all)
         refine hK _ ?_
         exact jn (b := false) (Option.some.inj h) (Wk.r1 [(0, 0), (1, 1)] (by simp [hP, hhOk, back, Cat.cells, IA, I1, LA, L1, BA, B1, EA, E1, E2, eB, eI, eL]))
       intro b14 hb14
       have h := h14
       rw [← hb14] at h
       clear h14
       try dsimp only at h
       refine w_cond rfl (fun g => ?_) fun g => ?_
       · have g18 : b14 = true := by first | simpa using g | (simp at g; exact g) | (simp at g; omega)
         clear g
         replace h := if_l g18 h
         refine w_run mo (by rw [hN]; decide) fun K hK => ?_
         replace h := ass_some h
         obtain ⟨a19, h⟩ := h
         try simp only [List.length_append, List.length_cons, List.length_nil] at a19
         simp [-guardE_b, -Is_at, -Is_at', -Ls_at, -Ls_at', eL, eI, allInts, eP_Cat, Cat.cells, a19]
         repeat (with_reducible refine And.intro ?_ ?_; · first | assumption | omega | (simp; done) | (simp; omega) | simp_all)
         refine hK _ ?_
         clear hK K
         refine bn ?_
         exact jn (b := s11.1 ++ [s11.2]) (Option.some.inj h) (Wk.r1 [(0, 0), (3, 1)] (by simp [hP, hhOk, back, Cat.cells, IA, I1, LA, L1, BA, B1, EA, E1, E2, eB, eI, eL]))
       have g18 : ¬ (b14 = true) := by first | simpa using g | (simp at g; exact g) | (simp at g; omega)
       clear g
       replace h := if_r g18 h
       refine w_skip ?_
       refine bn ?_
       exact jn (b := s11.1) (Option.some.inj h) (Wk.r1 [(0, 0), (1, 1)] (by simp [hP, hhOk, back, Cat.cells, IA, I1, LA, L1, BA, B1, EA, E1, E2, eB, eI, eL]))
     intro b13 hb13
     have h := h13
     rw [← hb13] at h
     clear h13
     try dsimp only at h
     refine w_run mo (by rw [hN]; decide) fun K hK => ?_
     replace h := ass_some h
     obtain ⟨a20, h⟩ := h
     simp [-guardE_b, -Is_at, -Is_at', -Ls_at, -Ls_at', eL, eI, allInts, eP_Cat, Cat.cells, wrap_id a20]
     repeat (with_reducible refine And.intro ?_ ?_; · first | assumption | omega | (simp; done) | (simp; omega) | simp_all)
     refine hK _ ?_
     clear hK K
     cases h
     exact rn (s' := (b13, s11.2 + 1)) hk11 (Wk.r1 [(0, 0), (1, 1)] (by simp [hP, hhOk, back, Cat.cells, IA, I1, LA, L1, BA, B1, EA, E1, E2, eB, eI, eL]))
   have g12 : ¬ (s11.2 < (c_.fr.length : Int)) := by first | simpa using g | (simp at g; exact g) | (simp at g; omega)
   clear g
   replace h := if_r g12 h
   refine w_exit ?_
   refine tx ?_
   refine lx ?_
   refine bh ?_
   cases h
   exact jn (b := s11.1) hk11 (Wk.r1 [(1, 0)] (by simp [hP, hhOk, back, Cat.cells, IA, I1, LA, L1, BA, B1, EA, E1, E2, eB, eI, eL]))
 intro b1 hb1
 have h := h1
 rw [← hb1] at h
 clear h1
 try dsimp only at h
 refine w_seq ?_
 refine w_run mo (by rw [hN]; decide) fun K hK => ?_
 simp [-guardE_b, -Is_at, -Is_at', -Ls_at, -Ls_at', eL, eI, allInts, eP_Cat, Cat.cells]
 repeat (with_reducible refine And.intro ?_ ?_; · first | assumption | omega | (simp; done) | (simp; omega) | simp_all)
 refine hK _ ?_
 clear hK K
 refine tn ?_
 refine w_weak (st' := ⟨[(6, .own 0 0 b1.length)], [(0, .row 1 (Is b1))], 1⟩) (Wk.r1 [(0, 0)] (by simp [hP, hhOk, back, Cat.cells, IA, I1, LA, L1, BA, B1, EA, E1, E2, eB, eI, eL])) ?_
 refine w_ret ?_
 have hr := Option.some.inj h
 rw [← hr]
 refine ⟨_, (.tmp .nil), ?_⟩
 refine ⟨(.one rfl rfl .nil), [.lst true 1 (Is b1)], [0], by simp [Cat.cells, IA, I1, LA, L1, BA, B1, EA, E1, E2, eB, eI, eL], by simp, (UpL.refl _)⟩
end Go.Vc.T

set_option maxRecDepth 100000
set_option linter.unusedSimpArgs false
set_option linter.unusedVariables false
namespace Go.Vc.T
open Go Go.Vc Go.Proofs
noncomputable def flt (n : Nat) (p : Nat → Prop) : List Int := ((List.range n).filter fun i => bo (p i)).map Int.ofNat
theorem flt_pos {n : Nat} {p : Nat → Prop} (h : p n) : flt (n + 1) p = flt n p ++ [(n : Int)] := by simp [flt, List.range_succ, bo_pos h]
theorem flt_neg {n : Nat} {p : Nat → Prop} (h : ¬ p n) : flt (n + 1) p = flt n p := by simp [flt, List.range_succ, bo_neg h]
theorem flt_len (n : Nat) (p : Nat → Prop) : (flt n p).length ≤ n := by
 unfold flt
 rw [List.length_map]
 exact Nat.le_trans (List.length_filter_le _ _) (by simp)
theorem mem_flt {n : Nat} {p : Nat → Prop} {x : Int} : x ∈ flt n p ↔ ∃ i : Nat, i < n ∧ p i ∧ x = (i : Int) := by
 simp only [flt, List.mem_map, List.mem_filter, List.mem_range, bo_tt]
 constructor
 · rintro ⟨i, ⟨h1, h2⟩, rfl⟩; exact ⟨i, h1, h2, rfl⟩
 rintro ⟨i, h1, h2, rfl⟩; exact ⟨i, ⟨h1, h2⟩, rfl⟩
theorem e_hom {c : Cat} (h : c.Is) (x y : Int) : s_i_Category_hom c x y = some (flt c.fr.length fun a => ix c.fr a = x ∧ ix c.to a = y) := by
 have k1 := h.1.lt
 have k2 := h.1.m40
 unfold s_i_Category_hom
 refine acc_bind c.fr.length (fun i => flt i fun a => ix c.fr a = x ∧ ix c.to a = y) (e := flt c.fr.length fun a => ix c.fr a = x ∧ ix c.to a = y) rfl (by omega) (fun i hi => ?_) (by simp) rfl
 have hl := flt_len i fun a => ix c.fr a = x ∧ ix c.to a = y
 by_cases h1 : ix c.fr i = x
 · by_cases h2 : ix c.to i = y
   · rw [flt_pos ⟨h1, h2⟩]; simp (disch := omega) [ass_pos, B64, h1, h2]; try omega
   rw [flt_neg fun q => h2 q.2]; simp (disch := omega) [ass_pos, B64, h1, h2]; try omega
 rw [flt_neg fun q => h1 q.1]; simp (disch := omega) [ass_pos, B64, h1]; try omega
theorem e_l02Hom (c : Cat) (x y : Int) : s_s_l02Hom c x y = s_i_Category_hom c x y := rfl
end Go.Vc.T

set_option maxRecDepth 100000
set_option linter.unusedSimpArgs false
set_option linter.unusedVariables false
namespace Go.Vc.T
open Go Go.Vc Go.Proofs
noncomputable def s_i_Monad_arrow (m_ : Mnd) (f_ : Int) : Option Int :=
 ass (0 ≤ f_ ∧ f_ < (m_.f.ar.length : Int)) <|
 some (ix m_.f.ar f_)
set_option maxHeartbeats 4000000 in
theorem w_i_Monad_arrow (m_ : Mnd) (f_ : Int) (r : Int) (h : s_i_Monad_arrow m_ f_ = some r) : Contract Try.prog 151 [.rptr (m_.cells true), .val (.int .i64 f_)] (.val (.int .i64 r)) := by
 refine contract_introG (rvs := [.tmp 4]) (rs := [.val (.int .i64 r)]) Try.func151 rfl rfl rfl rfl (by simp [Try.f151]) fun F hN hP => ?_
 unfold s_i_Monad_arrow at h
 refine w_seq ?_
 refine w_run mo (by rw [hN]; decide) fun K hK => ?_
 simp [-guardE_b, -Is_at, -Is_at', -Ls_at, -Ls_at', eL, eI, allInts, eP_Mnd, Mnd.cells]
 repeat (with_reducible refine And.intro ?_ ?_; · first | assumption | omega | (simp; done) | (simp; omega) | simp_all)
 refine hK _ ?_
 clear hK K
 refine tn ?_
 refine w_weak (st' := ⟨[(0, .rptr (Mnd.cells true m_)), (1, .val (.int .i64 f_))], [], 0⟩) (Wk.r1 [] (by simp [hP, hhOk, back, Mnd.cells, IA, I1, LA, L1, BA, B1, EA, E1, E2, eB, eI, eL])) ?_
 refine w_seq ?_
 refine w_run mo (by rw [hN]; decide) fun K hK => ?_
 replace h := ass_some h
 obtain ⟨a1, h⟩ := h
 simp [-guardE_b, -Is_at, -Is_at', -Ls_at, -Ls_at', eL, eI, allInts, eP_Mnd, Mnd.cells, at_I a1]
 repeat (with_reducible refine And.intro ?_ ?_; · first | assumption | omega | (simp; done) | (simp; omega) | simp_all)
 refine hK _ ?_
 clear hK K
 refine tn ?_
 refine w_weak (st' := ⟨[(4, .val (.int .i64 (ix m_.f.ar f_)))], [], 0⟩) (Wk.r1 [] (by simp [hP, hhOk, back, Mnd.cells, IA, I1, LA, L1, BA, B1, EA, E1, E2, eB, eI, eL])) ?_
 refine w_ret ?_
 have hr := Option.some.inj h
 rw [← hr]
 refine ⟨_, (.tmp .nil), ?_⟩
 refine ⟨(.one rfl rfl .nil), [.val (.int .i64 (ix m_.f.ar f_))], [], by simp [Mnd.cells, IA, I1, LA, L1, BA, B1, EA, E1, E2, eB, eI, eL], by simp, (UpL.refl _)⟩
end Go.Vc.T

set_option maxRecDepth 100000
set_option linter.unusedSimpArgs false
set_option linter.unusedVariables false
namespace Go.Vc.T
open Go Go.Vc Go.Proofs
noncomputable def s_i_Monad_object (m_ : Mnd) (x_ : Int) : Option Int :=
 ass (0 ≤ x_ ∧ x_ < (m_.f.ob.length : Int)) <|
 some (ix m_.f.ob x_)
set_option maxHeartbeats 4000000 in
theorem w_i_Monad_object (m_ : Mnd) (x_ : Int) (r : Int) (h : s_i_Monad_object m_ x_ = some r) : Contract Try.prog 152 [.rptr (m_.cells true), .val (.int .i64 x_)] (.val (.int .i64 r)) := by
 refine contract_introG (rvs := [.tmp 4]) (rs := [.val (.int .i64 r)]) Try.func152 rfl rfl rfl rfl (by simp [Try.f152]) fun F hN hP => ?_
 unfold s_i_Monad_object at h
 refine w_seq ?_
 refine w_run mo (by rw [hN]; decide) fun K hK => ?_
 simp [-guardE_b, -Is_at, -Is_at', -Ls_at, -Ls_at', eL, eI, allInts, eP_Mnd, Mnd.cells]
 repeat (with_reducible refine And.intro ?_ ?_; · first | assumption | omega | (simp; done) | (simp; omega) | simp_all)
 refine hK _ ?_
 clear hK K
 refine tn ?_
 refine w_weak (st' := ⟨[(0, .rptr (Mnd.cells true m_)), (1, .val (.int .i64 x_))], [], 0⟩) (Wk.r1 [] (by simp [hP, hhOk, back, Mnd.cells, IA, I1, LA, L1, BA, B1, EA, E1, E2, eB, eI, eL])) ?_
 refine w_seq ?_
 refine w_run mo (by rw [hN]; decide) fun K hK => ?_
 replace h := ass_some h
 obtain ⟨a1, h⟩ := h
 simp [-guardE_b, -Is_at, -Is_at', -Ls_at, -Ls_at', eL, eI, allInts, eP_Mnd, Mnd.cells, at_I a1]
 repeat (with_reducible refine And.intro ?_ ?_; · first | assumption | omega | (simp; done) | (simp; omega) | simp_all)
 refine hK _ ?_
 clear hK K
 refine tn ?_
 refine w_weak (st' := ⟨[(4, .val (.int .i64 (ix m_.f.ob x_)))], [], 0⟩) (Wk.r1 [] (by simp [hP, hhOk, back, Mnd.cells, IA, I1, LA, L1, BA, B1, EA, E1, E2, eB, eI, eL])) ?_
 refine w_ret ?_
 have hr := Option.some.inj h
 rw [← hr]
 refine ⟨_, (.tmp .nil), ?_⟩
 refine ⟨(.one rfl rfl .nil), [.val (.int .i64 (ix m_.f.ob x_))], [], by simp [Mnd.cells, IA, I1, LA, L1, BA, B1, EA, E1, E2, eB, eI, eL], by simp, (UpL.refl _)⟩
end Go.Vc.T

set_option maxRecDepth 100000
set_option linter.unusedSimpArgs false
set_option linter.unusedVariables false
namespace Go.Vc.T
open Go Go.Vc Go.Proofs
noncomputable def s_i_Monad_isLawful (m_ : Mnd) : Option Bool :=
 (loopF (σ := Int) (ε := Unit ⊕ Bool) (fun s25 =>
   if s25 < m_.f.s.n then
     (s_i_Monad_object m_ s25).bind fun v27 =>
     (
       ass (0 ≤ s25 ∧ s25 < (m_.u.length : Int)) <|
       (s_i_Monad_arrow m_ (ix m_.u s25)).bind fun v30 =>
       ass (0 ≤ s25 ∧ s25 < (m_.j.length : Int)) <|
       (s_i_Category_then m_.f.s v30 (ix m_.j s25)).bind fun v32 =>
       ass (0 ≤ v27 ∧ v27 < (m_.f.s.id.length : Int)) <|
       if ¬ (v32 = (ix m_.f.s.id v27)) then
         some true
       else
         ass (0 ≤ v27 ∧ v27 < (m_.u.length : Int)) <|
         ass (0 ≤ s25 ∧ s25 < (m_.j.length : Int)) <|
         (s_i_Category_then m_.f.s (ix m_.u v27) (ix m_.j s25)).bind fun v37 =>
         ass (0 ≤ v27 ∧ v27 < (m_.f.s.id.length : Int)) <|
         some (v37 != (ix m_.f.s.id v27)) : Option (Bool)).bind fun b28 =>
     if b28 = true then
       some (Ctl.ret (Sum.inr false))
     else
       ass (0 ≤ s25 ∧ s25 < (m_.j.length : Int)) <|
       (s_i_Monad_arrow m_ (ix m_.j s25)).bind fun v41 =>
       ass (0 ≤ s25 ∧ s25 < (m_.j.length : Int)) <|
       (s_i_Category_then m_.f.s v41 (ix m_.j s25)).bind fun v43 =>
       ass (0 ≤ v27 ∧ v27 < (m_.j.length : Int)) <|
       ass (0 ≤ s25 ∧ s25 < (m_.j.length : Int)) <|
       (s_i_Category_then m_.f.s (ix m_.j v27) (ix m_.j s25)).bind fun v46 =>
       if ¬ (v43 = v46) then
         some (Ctl.ret (Sum.inr false))
       else
         ass (B64 (s25 + 1)) <|
         some (Ctl.next (s25 + 1))
   else
     some (Ctl.ret (Sum.inl ()))) fuel 0).bind fun e1 =>
 match e1 with
 | .inl b1 =>
   some true
 | .inr p1 =>
   some p1
set_option maxHeartbeats 4000000 in
theorem w_i_Monad_isLawful (m_ : Mnd) (r : Bool) (h : s_i_Monad_isLawful m_ = some r) : Contract Try.prog 179 [.rptr (m_.cells true)] (.val (.bool r)) := by
 refine contract_introG (rvs := [.tmp 2]) (rs := [.val (.bool r)]) Try.func179 rfl rfl rfl rfl (by simp [Try.f179]) fun F hN hP => ?_
 unfold s_i_Monad_isLawful at h
 refine w_seq ?_
 refine w_run mo (by rw [hN]; decide) fun K hK => ?_
 simp [-guardE_b, -Is_at, -Is_at', -Ls_at, -Ls_at', eL, eI, allInts, eP_Cat, eP_Mnd, Cat.cells, Mnd.cells]
 repeat (with_reducible refine And.intro ?_ ?_; · first | assumption | omega | (simp; done) | (simp; omega) | simp_all)
 refine hK _ ?_
 clear hK K
 refine tn ?_
 refine w_weak (st' := ⟨[(0, .rptr (Mnd.cells true m_))], [], 0⟩) (Wk.r1 [] (by simp [hP, hhOk, back, Cat.cells, Mnd.cells, IA, I1, LA, L1, BA, B1, EA, E1, E2, eB, eI, eL])) ?_
 refine w_seq ?_
 refine w_run mo (by rw [hN]; decide) fun K hK => ?_
 simp [-guardE_b, -Is_at, -Is_at', -Ls_at, -Ls_at', eL, eI, allInts, eP_Cat, eP_Mnd, Cat.cells, Mnd.cells]
 repeat (with_reducible refine And.intro ?_ ?_; · first | assumption | omega | (simp; done) | (simp; omega) | simp_all)
 refine hK _ ?_
 clear hK K
 refine tn ?_
 refine w_weak (st' := ⟨[(0, .rptr (Mnd.cells true m_)), (3, .rptr (Mnd.cells true m_))], [], 0⟩) (Wk.r1 [] (by simp [hP, hhOk, back, Cat.cells, Mnd.cells, IA, I1, LA, L1, BA, B1, EA, E1, E2, eB, eI, eL])) ?_
 refine w_seq ?_
 refine w_seq ?_
 refine w_run mo (by rw [hN]; decide) fun K hK => ?_
 simp [-guardE_b, -Is_at, -Is_at', -Ls_at, -Ls_at', eL, eI, allInts, eP_Cat, eP_Mnd, Cat.cells, Mnd.cells]
 repeat (with_reducible refine And.intro ?_ ?_; · first | assumption | omega | (simp; done) | (simp; omega) | simp_all)
 refine hK _ ?_
 clear hK K
 refine tn ?_
 refine w_weak (st' := ⟨[(0, .rptr (Mnd.cells true m_)), (3, .rptr (Mnd.cells true m_)), (4, .val (.int .i64 0))], [], 0⟩) (Wk.r1 [] (by simp [hP, hhOk, back, Cat.cells, Mnd.cells, IA, I1, LA, L1, BA, B1, EA, E1, E2, eB, eI, eL])) ?_
 replace h := bind_some h
 obtain ⟨e1, h, h1⟩ := h
 refine w_joinT (fun b1 : Unit => ⟨[], [], 0⟩) (fun b1 => Sum.inl b1 = e1) ?_ ?_
 · refine w_block ?_
   refine w_loopF h (fun s25 : Int => ⟨[(0, .rptr (Mnd.cells true m_)), (3, .rptr (Mnd.cells true m_)), (4, .val (.int .i64 s25))], [], 0⟩) (Wk.r1 [] (by simp [hP, hhOk, back, Cat.cells, Mnd.cells, IA, I1, LA, L1, BA, B1, EA, E1, E2, eB, eI, eL])) ?_
   clear h
   intro k25 s25 c25 h hk25
   refine w_seq ?_
   refine w_seq ?_
   refine w_run mo (by rw [hN]; decide) fun K hK => ?_
   simp [-guardE_b, -Is_at, -Is_at', -Ls_at, -Ls_at', eL, eI, allInts, eP_Cat, eP_Mnd, Cat.cells, Mnd.cells]
   repeat (with_reducible refine And.intro ?_ ?_; · first | assumption | omega | (simp; done) | (simp; omega) | simp_all)
   refine hK _ ?_
   clear hK K
   refine tn ?_
   refine w_weak (st' := ⟨[(0, .rptr (Mnd.cells true m_)), (3, .rptr (Mnd.cells true m_)), (4, .val (.int .i64 s25)), (15, .val (.bool (decide (s25 < m_.f.s.n))))], [], 0⟩) (Wk.r1 [] (by simp [hP, hhOk, back, Cat.cells, Mnd.cells, IA, I1, LA, L1, BA, B1, EA, E1, E2, eB, eI, eL])) ?_
   refine w_cond rfl (fun g => ?_) fun g => ?_
   · have g26 : s25 < m_.f.s.n := by first | simpa using g | (simp at g; exact g) | (simp at g; omega)
     clear g
     replace h := if_l g26 h
     refine w_skip ?_
     refine tn ?_
     refine w_seq ?_
     refine w_block ?_
     refine w_seq ?_
     refine w_run mo (by rw [hN]; decide) fun K hK => ?_
     simp [-guardE_b, -Is_at, -Is_at', -Ls_at, -Ls_at', eL, eI, allInts, eP_Cat, eP_Mnd, Cat.cells, Mnd.cells]
     repeat (with_reducible refine And.intro ?_ ?_; · first | assumption | omega | (simp; done) | (simp; omega) | simp_all)
     replace h := bind_some h
     obtain ⟨v27, hv27, h⟩ := h
     refine callA_intro (w_i_Monad_object _ _ v27 hv27) (.cons (.preT (by simp [Cat.cells, Mnd.cells])) (.cons .val .nil)) ?_
     simp [-guardE_b, -Is_at, -Is_at', -Ls_at, -Ls_at', unk, unA, unE, unT, unC, flat, eL, eI, allInts, eP_Cat, eP_Mnd, Cat.cells, Mnd.cells]
     repeat (with_reducible refine And.intro ?_ ?_; · first | assumption | omega | (simp; done) | (simp; omega) | simp_all)
     refine hK _ ?_
     clear hK K
     refine tn ?_
     refine w_weak (st' := ⟨[(0, .rptr (Mnd.cells true m_)), (3, .rptr (Mnd.cells true m_)), (4, .val (.int .i64 s25)), (5, .val (.int .i64 v27))], [], 0⟩) (Wk.r1 [] (by simp [hP, hhOk, back, Cat.cells, Mnd.cells, IA, I1, LA, L1, BA, B1, EA, E1, E2, eB, eI, eL])) ?_
     refine w_seq ?_
     refine w_seq ?_
     replace h := bind_some h
     obtain ⟨e28, h, h28⟩ := h
     refine w_joinT (fun b28 : Bool => ⟨[(0, .rptr (Mnd.cells true m_)), (3, .rptr (Mnd.cells true m_)), (4, .val (.int .i64 s25)), (5, .val (.int .i64 v27)), (72, .val (.bool b28))], [], 0⟩) (fun b28 => b28 = e28) ?_ ?_
     · refine w_run mo (by rw [hN]; decide) fun K hK => ?_
       replace h := ass_some h
       obtain ⟨a29, h⟩ := h
       simp [-guardE_b, -Is_at, -Is_at', -Ls_at, -Ls_at', eL, eI, allInts, eP_Cat, eP_Mnd, Cat.cells, Mnd.cells, at_I a29]
       repeat (with_reducible refine And.intro ?_ ?_; · first | assumption | omega | (simp; done) | (simp; omega) | simp_all)
       replace h := bind_some h
       obtain ⟨v30, hv30, h⟩ := h
       refine callA_intro (w_i_Monad_arrow _ _ v30 hv30) (.cons (.preT (by simp [Cat.cells, Mnd.cells])) (.cons .val .nil)) ?_
       replace h := ass_some h
       obtain ⟨a31, h⟩ := h
       simp [-guardE_b, -Is_at, -Is_at', -Ls_at, -Ls_at', unk, unA, unE, unT, unC, flat, eL, eI, allInts, eP_Cat, eP_Mnd, Cat.cells, Mnd.cells, at_I a31]
       repeat (with_reducible refine And.intro ?_ ?_; · first | assumption | omega | (simp; done) | (simp; omega) | simp_all)
       replace h := bind_some h
       obtain ⟨v32, hv32, h⟩ := h
       refine callA_intro (w_i_Category_then _ _ _ v32 hv32) (.cons (.preT (by simp [Cat.cells, Mnd.cells])) (.cons .val (.cons .val .nil))) ?_
       replace h := ass_some h
       obtain ⟨a33, h⟩ := h
       simp [-guardE_b, -Is_at, -Is_at', -Ls_at, -Ls_at', unk, unA, unE, unT, unC, flat, eL, eI, allInts, eP_Cat, eP_Mnd, Cat.cells, Mnd.cells, at_I a33]
       repeat (with_reducible refine And.intro ?_ ?_; · first | assumption | omega | (simp; done) | (simp; omega) | simp_all)
       refine guard_intro (fun g => ?_) (fun g => ?_)
       · have g34 : ¬ (¬ (v32 = (ix m_.f.s.id v27))) := by first | simpa using g | (simp at g; exact g) | (simp at g; omega)
         clear g
         replace h := if_r g34 h
         replace h := ass_some h
         obtain ⟨a35, h⟩ := h
         replace h := ass_some h
         obtain ⟨a36, h⟩ := h
         simp [-guardE_b, -Is_at, -Is_at', -Ls_at, -Ls_at', eL, eI, allInts, eP_Cat, eP_Mnd, Cat.cells, Mnd.cells, at_I a35, at_I a36]
         repeat (with_reducible refine And.intro ?_ ?_; · first | assumption | omega | (simp; done) | (simp; omega) | simp_all)
         replace h := bind_some h
         obtain ⟨v37, hv37, h⟩ := h
         refine callA_intro (w_i_Category_then _ _ _ v37 hv37) (.cons (.preT (by simp [Cat.cells, Mnd.cells])) (.cons .val (.cons .val .nil))) ?_
         replace h := ass_some h
         obtain ⟨a38, h⟩ := h
         simp [-guardE_b, -Is_at, -Is_at', -Ls_at, -Ls_at', unk, unA, unE, unT, unC, flat, eL, eI, allInts, eP_Cat, eP_Mnd, Cat.cells, Mnd.cells, at_I a38]
         repeat (with_reducible refine And.intro ?_ ?_; · first | assumption | omega | (simp; done) | (simp; omega) | simp_all)
         refine hK _ ?_
         exact jn (b := v37 != (ix m_.f.s.id v27)) (Option.some.inj h) (Wk.r1 [] (by simp [hP, hhOk, back, Cat.cells, Mnd.cells, IA, I1, LA, L1, BA, B1, EA, E1, E2, eB, eI, eL]))
       have g34 : ¬ (v32 = (ix m_.f.s.id v27)) := by first | simpa using g | (simp at g; exact g) | (simp at g; omega)
       clear g
       replace h := if_l g34 h
       simp [-guardE_b, -Is_at, -Is_at', -Ls_at, -Ls_at', eL, eI, allInts, eP_Cat, eP_Mnd, Cat.cells, Mnd.cells]
       repeat (with_reducible refine And.intro ?_ ?_; · first | assumption | omega | (simp; done) | (simp; omega) | simp_all)
       refine hK _ ?_
       exact jn (b := true) (Option.some.inj h) (Wk.r1 [] (by simp [hP, hhOk, back, Cat.cells, Mnd.cells, IA, I1, LA, L1, BA, B1, EA, E1, E2, eB, eI, eL]))
     intro b28 hb28
     have h := h28
     rw [← hb28] at h
     clear h28
     try dsimp only at h
     refine w_cond rfl (fun g => ?_) fun g => ?_
     · have g39 : b28 = true := by first | simpa using g | (simp at g; exact g) | (simp at g; omega)
       clear g
       replace h := if_l g39 h
       refine w_seq ?_
       refine w_run mo (by rw [hN]; decide) fun K hK => ?_
       simp [-guardE_b, -Is_at, -Is_at', -Ls_at, -Ls_at', eL, eI, allInts, eP_Cat, eP_Mnd, Cat.cells, Mnd.cells]
       repeat (with_reducible refine And.intro ?_ ?_; · first | assumption | omega | (simp; done) | (simp; omega) | simp_all)
       refine hK _ ?_
       clear hK K
       refine tn ?_
       refine w_weak (st' := ⟨[(2, .val (.bool false))], [], 0⟩) (Wk.r1 [] (by simp [hP, hhOk, back, Cat.cells, Mnd.cells, IA, I1, LA, L1, BA, B1, EA, E1, E2, eB, eI, eL])) ?_
       refine w_ret ?_
       refine tr ?_
       refine br ?_
       refine tr ?_
       refine lr ?_
       refine br ?_
       refine tr ?_
       cases h
       have q : _ = e1 := hk25
       have h := h1
       rw [← q] at h
       clear q
       try dsimp only at h
       have hr := Option.some.inj h
       rw [← hr]
       refine ⟨_, (.tmp .nil), ?_⟩
       refine ⟨(.one rfl rfl .nil), [.val (.bool false)], [], by simp [Cat.cells, Mnd.cells, IA, I1, LA, L1, BA, B1, EA, E1, E2, eB, eI, eL], by simp, (UpL.refl _)⟩
     have g39 : ¬ (b28 = true) := by first | simpa using g | (simp at g; exact g) | (simp at g; omega)
     clear g
     replace h := if_r g39 h
     refine w_skip ?_
     refine tn ?_
     refine w_seq ?_
     refine w_run mo (by rw [hN]; decide) fun K hK => ?_
     replace h := ass_some h
     obtain ⟨a40, h⟩ := h
     simp [-guardE_b, -Is_at, -Is_at', -Ls_at, -Ls_at', eL, eI, allInts, eP_Cat, eP_Mnd, Cat.cells, Mnd.cells, at_I a40]
     repeat (with_reducible refine And.intro ?_ ?_; · first | assumption | omega | (simp; done) | (simp; omega) | simp_all)
     replace h := bind_some h
     obtain ⟨v41, hv41, h⟩ := h
     refine callA_intro (w_i_Monad_arrow _ _ v41 hv41) (.cons (.preT (by simp [Cat.cells, Mnd.cells])) (.cons .val .nil)) ?_
     replace h := ass_some h
     obtain ⟨a42, h⟩ := h
     simp [-guardE_b, -Is_at, -Is_at', -Ls_at, -Ls_at', unk, unA, unE, unT, unC, flat, eL, eI, allInts, eP_Cat, eP_Mnd, Cat.cells, Mnd.cells, at_I a42]
     repeat (with_reducible refine And.intro ?_ ?_; · first | assumption | omega | (simp; done) | (simp; omega) | simp_all)
     replace h := bind_some h
     obtain ⟨v43, hv43, h⟩ := h
     refine callA_intro (w_i_Category_then _ _ _ v43 hv43) (.cons (.preT (by simp [Cat.cells, Mnd.cells])) (.cons .val (.cons .val .nil))) ?_
     replace h := ass_some h
     obtain ⟨a44, h⟩ := h
     replace h := ass_some h
     obtain ⟨a45, h⟩ := h
     simp [-guardE_b, -Is_at, -Is_at', -Ls_at, -Ls_at', unk, unA, unE, unT, unC, flat, eL, eI, allInts, eP_Cat, eP_Mnd, Cat.cells, Mnd.cells, at_I a44, at_I a45]
     repeat (with_reducible refine And.intro ?_ ?_; · first | assumption | omega | (simp; done) | (simp; omega) | simp_all)
     replace h := bind_some h
     obtain ⟨v46, hv46, h⟩ := h
     refine callA_intro (w_i_Category_then _ _ _ v46 hv46) (.cons (.preT (by simp [Cat.cells, Mnd.cells])) (.cons .val (.cons .val .nil))) ?_
     simp [-guardE_b, -Is_at, -Is_at', -Ls_at, -Ls_at', unk, unA, unE, unT, unC, flat, eL, eI, allInts, eP_Cat, eP_Mnd, Cat.cells, Mnd.cells]
     repeat (with_reducible refine And.intro ?_ ?_; · first | assumption | omega | (simp; done) | (simp; omega) | simp_all)
     refine hK _ ?_
     clear hK K
     refine tn ?_
     refine w_weak (st' := ⟨[(0, .rptr (Mnd.cells true m_)), (3, .rptr (Mnd.cells true m_)), (4, .val (.int .i64 s25)), (107, .val (.bool (v43 != v46)))], [], 0⟩) (Wk.r1 [] (by simp [hP, hhOk, back, Cat.cells, Mnd.cells, IA, I1, LA, L1, BA, B1, EA, E1, E2, eB, eI, eL])) ?_
     refine w_cond rfl (fun g => ?_) fun g => ?_
     · have g47 : ¬ (v43 = v46) := by first | simpa using g | (simp at g; exact g) | (simp at g; omega)
       clear g
       replace h := if_l g47 h
       refine w_seq ?_
       refine w_run mo (by rw [hN]; decide) fun K hK => ?_
       simp [-guardE_b, -Is_at, -Is_at', -Ls_at, -Ls_at', eL, eI, allInts, eP_Cat, eP_Mnd, Cat.cells, Mnd.cells]
       repeat (with_reducible refine And.intro ?_ ?_; · first | assumption | omega | (simp; done) | (simp; omega) | simp_all)
       refine hK _ ?_
       clear hK K
       refine tn ?_
       refine w_weak (st' := ⟨[(2, .val (.bool false))], [], 0⟩) (Wk.r1 [] (by simp [hP, hhOk, back, Cat.cells, Mnd.cells, IA, I1, LA, L1, BA, B1, EA, E1, E2, eB, eI, eL])) ?_
       refine w_ret ?_
       refine br ?_
       refine tr ?_
       refine lr ?_
       refine br ?_
       refine tr ?_
       cases h
       have q : _ = e1 := hk25
       have h := h1
       rw [← q] at h
       clear q
       try dsimp only at h
       have hr := Option.some.inj h
       rw [← hr]
       refine ⟨_, (.tmp .nil), ?_⟩
       refine ⟨(.one rfl rfl .nil), [.val (.bool false)], [], by simp [Cat.cells, Mnd.cells, IA, I1, LA, L1, BA, B1, EA, E1, E2, eB, eI, eL], by simp, (UpL.refl _)⟩
     have g47 : ¬ (¬ (v43 = v46)) := by first | simpa using g | (simp at g; exact g) | (simp at g; omega)
     clear g
     replace h := if_r g47 h
     refine w_skip ?_
     refine bn ?_
     refine tn ?_
     refine w_run mo (by rw [hN]; decide) fun K hK => ?_
     replace h := ass_some h
     obtain ⟨a48, h⟩ := h
     simp [-guardE_b, -Is_at, -Is_at', -Ls_at, -Ls_at', eL, eI, allInts, eP_Cat, eP_Mnd, Cat.cells, Mnd.cells, wrap_id a48]
     repeat (with_reducible refine And.intro ?_ ?_; · first | assumption | omega | (simp; done) | (simp; omega) | simp_all)
     refine hK _ ?_
     clear hK K
     cases h
     exact rn (s' := s25 + 1) hk25 (Wk.r1 [] (by simp [hP, hhOk, back, Cat.cells, Mnd.cells, IA, I1, LA, L1, BA, B1, EA, E1, E2, eB, eI, eL]))
   have g26 : ¬ (s25 < m_.f.s.n) := by first | simpa using g | (simp at g; exact g) | (simp at g; omega)
   clear g
   replace h := if_r g26 h
   refine w_exit ?_
   refine tx ?_
   refine lx ?_
   refine bh ?_
   cases h
   exact jn (b := ()) hk25 (Wk.r1 [] (by simp [hP, hhOk, back, Cat.cells, Mnd.cells, IA, I1, LA, L1, BA, B1, EA, E1, E2, eB, eI, eL]))
 intro b1 hb1
 have h := h1
 rw [← hb1] at h
 clear h1
 try dsimp only at h
 refine w_seq ?_
 refine w_run mo (by rw [hN]; decide) fun K hK => ?_
 simp [-guardE_b, -Is_at, -Is_at', -Ls_at, -Ls_at', eL, eI, allInts, eP_Cat, eP_Mnd, Cat.cells, Mnd.cells]
 repeat (with_reducible refine And.intro ?_ ?_; · first | assumption | omega | (simp; done) | (simp; omega) | simp_all)
 refine hK _ ?_
 clear hK K
 refine tn ?_
 refine w_weak (st' := ⟨[(2, .val (.bool true))], [], 0⟩) (Wk.r1 [] (by simp [hP, hhOk, back, Cat.cells, Mnd.cells, IA, I1, LA, L1, BA, B1, EA, E1, E2, eB, eI, eL])) ?_
 refine w_ret ?_
 have hr := Option.some.inj h
 rw [← hr]
 refine ⟨_, (.tmp .nil), ?_⟩
 refine ⟨(.one rfl rfl .nil), [.val (.bool true)], [], by simp [Cat.cells, Mnd.cells, IA, I1, LA, L1, BA, B1, EA, E1, E2, eB, eI, eL], by simp, (UpL.refl _)⟩
end Go.Vc.T

set_option maxRecDepth 100000
set_option linter.unusedSimpArgs false
set_option linter.unusedVariables false
namespace Go.Vc.T
open Go Go.Vc Go.Proofs
noncomputable def s_i_Monad_isMonad (m_ : Mnd) : Option Bool :=
 (
   (s_i_Functor_isFunctor m_.f).bind fun v2 =>
   if ¬ (v2 = true) then
     some true
   else
     (s_i_sameCategory m_.f.s m_.f.t).bind fun v4 =>
     some (!v4) : Option (Bool)).bind fun b1 =>
 if b1 = true then
   some false
 else
   (s_i_identity m_.f.s).bind fun v6 =>
   (s_i_Functor_then m_.f m_.f).bind fun v7 =>
   (
     (s_i_areNatural [(⟨v6, m_.f, m_.u⟩ : Tra), (⟨v7, m_.f, m_.j⟩ : Tra)]).bind fun v9 =>
     if v9 = true then
       (s_i_Monad_isLawful m_).bind fun v11 =>
       some v11
     else
       some false : Option (Bool)).bind fun b8 =>
   some b8
set_option maxHeartbeats 4000000 in
theorem w_i_Monad_isMonad (m_ : Mnd) (r : Bool) (h : s_i_Monad_isMonad m_ = some r) : Contract Try.prog 83 [.rptr (m_.cells true)] (.val (.bool r)) := by
 refine contract_introG (rvs := [.tmp 2]) (rs := [.val (.bool r)]) Try.func83 rfl rfl rfl rfl (by simp [Try.f83]) fun F hN hP => ?_
 unfold s_i_Monad_isMonad at h
 refine w_seq ?_
 refine w_run mo (by rw [hN]; decide) fun K hK => ?_
 simp [-guardE_b, -Is_at, -Is_at', -Ls_at, -Ls_at', eL, eI, allInts, eP_Cat, eP_Fn, eP_Mnd, eP_Tra, Cat.cells, Fn.cells, Mnd.cells, Tra.cells]
 repeat (with_reducible refine And.intro ?_ ?_; · first | assumption | omega | (simp; done) | (simp; omega) | simp_all)
 refine hK _ ?_
 clear hK K
 refine tn ?_
 refine w_weak (st' := ⟨[(0, .rptr (Mnd.cells true m_))], [], 0⟩) (Wk.r1 [] (by simp [hP, hhOk, back, Cat.cells, Fn.cells, Mnd.cells, Tra.cells, IA, I1, LA, L1, BA, B1, EA, E1, E2, eB, eI, eL])) ?_
 refine w_seq ?_
 refine w_seq ?_
 replace h := bind_some h
 obtain ⟨e1, h, h1⟩ := h
 refine w_joinT (fun b1 : Bool => ⟨[(0, .rptr (Mnd.cells true m_)), (23, .val (.bool b1))], [], 0⟩) (fun b1 => b1 = e1) ?_ ?_
 · refine w_run mo (by rw [hN]; decide) fun K hK => ?_
   simp [-guardE_b, -Is_at, -Is_at', -Ls_at, -Ls_at', eL, eI, allInts, eP_Cat, eP_Fn, eP_Mnd, eP_Tra, Cat.cells, Fn.cells, Mnd.cells, Tra.cells]
   repeat (with_reducible refine And.intro ?_ ?_; · first | assumption | omega | (simp; done) | (simp; omega) | simp_all)
   replace h := bind_some h
   obtain ⟨v2, hv2, h⟩ := h
   refine callA_intro (w_i_Functor_isFunctor _ v2 hv2) (.cons (.preT (by simp [Fn.cells, Mnd.cells])) .nil) ?_
   simp [-guardE_b, -Is_at, -Is_at', -Ls_at, -Ls_at', unk, unA, unE, unT, unC, flat, eL, eI, allInts, eP_Cat, eP_Fn, eP_Mnd, eP_Tra, Cat.cells, Fn.cells, Mnd.cells, Tra.cells]
   repeat (with_reducible refine And.intro ?_ ?_; · first | assumption | omega | (simp; done) | (simp; omega) | simp_all)
   refine guard_intro (fun g => ?_) (fun g => ?_)
   · have g3 : ¬ (¬ (v2 = true)) := by first | simpa using g | (simp at g; exact g) | (simp at g; omega)
     clear g
     replace h := if_r g3 h
     simp [-guardE_b, -Is_at, -Is_at', -Ls_at, -Ls_at', eL, eI, allInts, eP_Cat, eP_Fn, eP_Mnd, eP_Tra, Cat.cells, Fn.cells, Mnd.cells, Tra.cells]
     repeat (with_reducible refine And.intro ?_ ?_; · first | assumption | omega | (simp; done) | (simp; omega) | simp_all)
     replace h := bind_some h
     obtain ⟨v4, hv4, h⟩ := h
     refine callA_intro (w_i_sameCategory _ _ v4 hv4) (.cons (.preT (by simp [Cat.cells, Fn.cells, Mnd.cells])) (.cons (.preT (by simp [Cat.cells, Fn.cells, Mnd.cells])) .nil)) ?_
     simp [-guardE_b, -Is_at, -Is_at', -Ls_at, -Ls_at', unk, unA, unE, unT, unC, flat, eL, eI, allInts, eP_Cat, eP_Fn, eP_Mnd, eP_Tra, Cat.cells, Fn.cells, Mnd.cells, Tra.cells]
     repeat (with_reducible refine And.intro ?_ ?_; · first | assumption | omega | (simp; done) | (simp; omega) | simp_all)
     refine hK _ ?_
     exact jn (b := !v4) (Option.some.inj h) (Wk.r1 [] (by simp [hP, hhOk, back, Cat.cells, Fn.cells, Mnd.cells, Tra.cells, IA, I1, LA, L1, BA, B1, EA, E1, E2, eB, eI, eL]))
   have g3 : ¬ (v2 = true) := by first | simpa using g | (simp at g; exact g) | (simp at g; omega)
   clear g
   replace h := if_l g3 h
   simp [-guardE_b, -Is_at, -Is_at', -Ls_at, -Ls_at', eL, eI, allInts, eP_Cat, eP_Fn, eP_Mnd, eP_Tra, Cat.cells, Fn.cells, Mnd.cells, Tra.cells]
   repeat (with_reducible refine And.intro ?_ ?_; · first | assumption | omega | (simp; done) | (simp; omega) | simp_all)
   refine hK _ ?_
   exact jn (b := true) (Option.some.inj h) (Wk.r1 [] (by simp [hP, hhOk, back, Cat.cells, Fn.cells, Mnd.cells, Tra.cells, IA, I1, LA, L1, BA, B1, EA, E1, E2, eB, eI, eL]))
 intro b1 hb1
 have h := h1
 rw [← hb1] at h
 clear h1
 try dsimp only at h
 refine w_cond rfl (fun g => ?_) fun g => ?_
 · have g5 : b1 = true := by first | simpa using g | (simp at g; exact g) | (simp at g; omega)
   clear g
   replace h := if_l g5 h
   refine w_seq ?_
   refine w_run mo (by rw [hN]; decide) fun K hK => ?_
   simp [-guardE_b, -Is_at, -Is_at', -Ls_at, -Ls_at', eL, eI, allInts, eP_Cat, eP_Fn, eP_Mnd, eP_Tra, Cat.cells, Fn.cells, Mnd.cells, Tra.cells]
   repeat (with_reducible refine And.intro ?_ ?_; · first | assumption | omega | (simp; done) | (simp; omega) | simp_all)
   refine hK _ ?_
   clear hK K
   refine tn ?_
   refine w_weak (st' := ⟨[(2, .val (.bool false))], [], 0⟩) (Wk.r1 [] (by simp [hP, hhOk, back, Cat.cells, Fn.cells, Mnd.cells, Tra.cells, IA, I1, LA, L1, BA, B1, EA, E1, E2, eB, eI, eL])) ?_
   refine w_ret ?_
   refine tr ?_
   have hr := Option.some.inj h
   rw [← hr]
   refine ⟨_, (.tmp .nil), ?_⟩
   refine ⟨(.one rfl rfl .nil), [.val (.bool false)], [], by simp [Cat.cells, Fn.cells, Mnd.cells, Tra.cells, IA, I1, LA, L1, BA, B1, EA, E1, E2, eB, eI, eL], by simp, (UpL.refl _)⟩
 have g5 : ¬ (b1 = true) := by first | simpa using g | (simp at g; exact g) | (simp at g; omega)
 clear g
 replace h := if_r g5 h
 refine w_skip ?_
 refine tn ?_
 refine w_seq ?_
 refine w_run mo (by rw [hN]; decide) fun K hK => ?_
 simp [-guardE_b, -Is_at, -Is_at', -Ls_at, -Ls_at', eL, eI, allInts, eP_Cat, eP_Fn, eP_Mnd, eP_Tra, Cat.cells, Fn.cells, Mnd.cells, Tra.cells]
 repeat (with_reducible refine And.intro ?_ ?_; · first | assumption | omega | (simp; done) | (simp; omega) | simp_all)
 replace h := bind_some h
 obtain ⟨v6, hv6, h⟩ := h
 refine callA_intro (w_i_identity _ v6 hv6) (.cons (.preT (by simp [Cat.cells, Fn.cells, Mnd.cells])) .nil) ?_
 simp [-guardE_b, -Is_at, -Is_at', -Ls_at, -Ls_at', unk, unA, unE, unT, unC, flat, eL, eI, allInts, eP_Cat, eP_Fn, eP_Mnd, eP_Tra, Cat.cells, Fn.cells, Mnd.cells, Tra.cells]
 repeat (with_reducible refine And.intro ?_ ?_; · first | assumption | omega | (simp; done) | (simp; omega) | simp_all)
 replace h := bind_some h
 obtain ⟨v7, hv7, h⟩ := h
 refine callA_intro (w_i_Functor_then _ _ v7 hv7) (.cons (.preT (by simp [Cat.cells, Fn.cells, Mnd.cells])) (.cons (.preT (by simp [Cat.cells, Fn.cells, Mnd.cells])) .nil)) ?_
 simp [-guardE_b, -Is_at, -Is_at', -Ls_at, -Ls_at', unk, unA, unE, unT, unC, flat, eL, eI, allInts, eP_Cat, eP_Fn, eP_Mnd, eP_Tra, Cat.cells, Fn.cells, Mnd.cells, Tra.cells]
 repeat (with_reducible refine And.intro ?_ ?_; · first | assumption | omega | (simp; done) | (simp; omega) | simp_all)
 refine hK _ ?_
 clear hK K
 refine tn ?_
 refine w_weak (st' := ⟨[(0, .rptr (Mnd.cells true m_)), (3, .adr 0 0 0), (4, .adr 11 0 0)], [(0, .mix 12 [[.val (.int .i64 v6.s.n), .own 1 0 v6.s.fr.length, .own 2 0 v6.s.to.length, .own 3 0 v6.s.id.length, .own 4 0 v6.s.cs.length, .val (.int .i64 v6.t.n), .own 5 0 v6.t.fr.length, .own 6 0 v6.t.to.length, .own 7 0 v6.t.id.length, .own 8 0 v6.t.cs.length, .own 9 0 v6.ob.length, .own 10 0 v6.ar.length]]), (1, .row 1 (Is v6.s.fr)), (2, .row 1 (Is v6.s.to)), (3, .row 1 (Is v6.s.id)), (4, .row 1 (Ls v6.s.cs)), (5, .row 1 (Is v6.t.fr)), (6, .row 1 (Is v6.t.to)), (7, .row 1 (Is v6.t.id)), (8, .row 1 (Ls v6.t.cs)), (9, .row 1 (Is v6.ob)), (10, .row 1 (Is v6.ar)), (11, .mix 12 [[.val (.int .i64 v7.s.n), .own 12 0 v7.s.fr.length, .own 13 0 v7.s.to.length, .own 14 0 v7.s.id.length, .own 15 0 v7.s.cs.length, .val (.int .i64 v7.t.n), .own 16 0 v7.t.fr.length, .own 17 0 v7.t.to.length, .own 18 0 v7.t.id.length, .own 19 0 v7.t.cs.length, .own 20 0 v7.ob.length, .own 21 0 v7.ar.length]]), (12, .row 1 (Is v7.s.fr)), (13, .row 1 (Is v7.s.to)), (14, .row 1 (Is v7.s.id)), (15, .row 1 (Ls v7.s.cs)), (16, .row 1 (Is v7.t.fr)), (17, .row 1 (Is v7.t.to)), (18, .row 1 (Is v7.t.id)), (19, .row 1 (Ls v7.t.cs)), (20, .row 1 (Is v7.ob)), (21, .row 1 (Is v7.ar))], 22⟩) (Wk.r1 [(24, 0), (1, 1), (2, 2), (3, 3), (4, 4), (6, 5), (7, 6), (8, 7), (9, 8), (10, 9), (11, 10), (25, 11), (13, 12), (14, 13), (15, 14), (16, 15), (18, 16), (19, 17), (20, 18), (21, 19), (22, 20), (23, 21)] (by simp [hP, hhOk, back, Cat.cells, Fn.cells, Mnd.cells, Tra.cells, IA, I1, LA, L1, BA, B1, EA, E1, E2, eB, eI, eL])) ?_
 refine w_seq ?_
 refine w_run mo (by rw [hN]; decide) fun K hK => ?_
 simp [-guardE_b, -Is_at, -Is_at', -Ls_at, -Ls_at', eL, eI, allInts, eP_Cat, eP_Fn, eP_Mnd, eP_Tra, Cat.cells, Fn.cells, Mnd.cells, Tra.cells]
 repeat (with_reducible refine And.intro ?_ ?_; · first | assumption | omega | (simp; done) | (simp; omega) | simp_all)
 refine hK _ ?_
 clear hK K
 refine tn ?_
 refine w_weak (st' := ⟨[(0, .rptr (Mnd.cells true m_)), (4, .adr 0 0 0), (5, .adr 11 0 0)], [(0, .mix 12 [[.val (.int .i64 v7.s.n), .own 1 0 v7.s.fr.length, .own 2 0 v7.s.to.length, .own 3 0 v7.s.id.length, .own 4 0 v7.s.cs.length, .val (.int .i64 v7.t.n), .own 5 0 v7.t.fr.length, .own 6 0 v7.t.to.length, .own 7 0 v7.t.id.length, .own 8 0 v7.t.cs.length, .own 9 0 v7.ob.length, .own 10 0 v7.ar.length]]), (1, .row 1 (Is v7.s.fr)), (2, .row 1 (Is v7.s.to)), (3, .row 1 (Is v7.s.id)), (4, .row 1 (Ls v7.s.cs)), (5, .row 1 (Is v7.t.fr)), (6, .row 1 (Is v7.t.to)), (7, .row 1 (Is v7.t.id)), (8, .row 1 (Ls v7.t.cs)), (9, .row 1 (Is v7.ob)), (10, .row 1 (Is v7.ar)), (11, .mix 25 [[.val (.int .i64 v6.s.n), .own 12 0 v6.s.fr.length, .own 13 0 v6.s.to.length, .own 14 0 v6.s.id.length, .own 15 0 v6.s.cs.length, .val (.int .i64 v6.t.n), .own 16 0 v6.t.fr.length, .own 17 0 v6.t.to.length, .own 18 0 v6.t.id.length, .own 19 0 v6.t.cs.length, .own 20 0 v6.ob.length, .own 21 0 v6.ar.length, .val (.int .i64 m_.f.s.n), .lst true 1 (Is m_.f.s.fr), .lst true 1 (Is m_.f.s.to), .lst true 1 (Is m_.f.s.id), .lst true 1 (Ls m_.f.s.cs), .val (.int .i64 m_.f.t.n), .lst true 1 (Is m_.f.t.fr), .lst true 1 (Is m_.f.t.to), .lst true 1 (Is m_.f.t.id), .lst true 1 (Ls m_.f.t.cs), .lst true 1 (Is m_.f.ob), .lst true 1 (Is m_.f.ar), .lst true 1 (Is m_.u)]]), (12, .row 1 (Is v6.s.fr)), (13, .row 1 (Is v6.s.to)), (14, .row 1 (Is v6.s.id)), (15, .row 1 (Ls v6.s.cs)), (16, .row 1 (Is v6.t.fr)), (17, .row 1 (Is v6.t.to)), (18, .row 1 (Is v6.t.id)), (19, .row 1 (Ls v6.t.cs)), (20, .row 1 (Is v6.ob)), (21, .row 1 (Is v6.ar))], 22⟩) (Wk.r1 [(11, 0), (12, 1), (13, 2), (14, 3), (15, 4), (16, 5), (17, 6), (18, 7), (19, 8), (20, 9), (21, 10), (22, 11), (1, 12), (2, 13), (3, 14), (4, 15), (5, 16), (6, 17), (7, 18), (8, 19), (9, 20), (10, 21)] (by simp [hP, hhOk, back, Cat.cells, Fn.cells, Mnd.cells, Tra.cells, IA, I1, LA, L1, BA, B1, EA, E1, E2, eB, eI, eL])) ?_
 refine w_seq ?_
 refine w_run mo (by rw [hN]; decide) fun K hK => ?_
 simp [-guardE_b, -Is_at, -Is_at', -Ls_at, -Ls_at', eL, eI, allInts, eP_Cat, eP_Fn, eP_Mnd, eP_Tra, Cat.cells, Fn.cells, Mnd.cells, Tra.cells]
 repeat (with_reducible refine And.intro ?_ ?_; · first | assumption | omega | (simp; done) | (simp; omega) | simp_all)
 refine hK _ ?_
 clear hK K
 refine tn ?_
 refine w_weak (st' := ⟨[(0, .rptr (Mnd.cells true m_)), (5, .adr 0 0 0), (6, .adr 11 0 0)], [(0, .mix 25 [[.val (.int .i64 v6.s.n), .own 1 0 v6.s.fr.length, .own 2 0 v6.s.to.length, .own 3 0 v6.s.id.length, .own 4 0 v6.s.cs.length, .val (.int .i64 v6.t.n), .own 5 0 v6.t.fr.length, .own 6 0 v6.t.to.length, .own 7 0 v6.t.id.length, .own 8 0 v6.t.cs.length, .own 9 0 v6.ob.length, .own 10 0 v6.ar.length, .val (.int .i64 m_.f.s.n), .lst true 1 (Is m_.f.s.fr), .lst true 1 (Is m_.f.s.to), .lst true 1 (Is m_.f.s.id), .lst true 1 (Ls m_.f.s.cs), .val (.int .i64 m_.f.t.n), .lst true 1 (Is m_.f.t.fr), .lst true 1 (Is m_.f.t.to), .lst true 1 (Is m_.f.t.id), .lst true 1 (Ls m_.f.t.cs), .lst true 1 (Is m_.f.ob), .lst true 1 (Is m_.f.ar), .lst true 1 (Is m_.u)]]), (1, .row 1 (Is v6.s.fr)), (2, .row 1 (Is v6.s.to)), (3, .row 1 (Is v6.s.id)), (4, .row 1 (Ls v6.s.cs)), (5, .row 1 (Is v6.t.fr)), (6, .row 1 (Is v6.t.to)), (7, .row 1 (Is v6.t.id)), (8, .row 1 (Ls v6.t.cs)), (9, .row 1 (Is v6.ob)), (10, .row 1 (Is v6.ar)), (11, .mix 25 [[.val (.int .i64 v7.s.n), .own 12 0 v7.s.fr.length, .own 13 0 v7.s.to.length, .own 14 0 v7.s.id.length, .own 15 0 v7.s.cs.length, .val (.int .i64 v7.t.n), .own 16 0 v7.t.fr.length, .own 17 0 v7.t.to.length, .own 18 0 v7.t.id.length, .own 19 0 v7.t.cs.length, .own 20 0 v7.ob.length, .own 21 0 v7.ar.length, .val (.int .i64 m_.f.s.n), .lst true 1 (Is m_.f.s.fr), .lst true 1 (Is m_.f.s.to), .lst true 1 (Is m_.f.s.id), .lst true 1 (Ls m_.f.s.cs), .val (.int .i64 m_.f.t.n), .lst true 1 (Is m_.f.t.fr), .lst true 1 (Is m_.f.t.to), .lst true 1 (Is m_.f.t.id), .lst true 1 (Ls m_.f.t.cs), .lst true 1 (Is m_.f.ob), .lst true 1 (Is m_.f.ar), .lst true 1 (Is m_.j)]]), (12, .row 1 (Is v7.s.fr)), (13, .row 1 (Is v7.s.to)), (14, .row 1 (Is v7.s.id)), (15, .row 1 (Ls v7.s.cs)), (16, .row 1 (Is v7.t.fr)), (17, .row 1 (Is v7.t.to)), (18, .row 1 (Is v7.t.id)), (19, .row 1 (Ls v7.t.cs)), (20, .row 1 (Is v7.ob)), (21, .row 1 (Is v7.ar))], 22⟩) (Wk.r1 [(11, 0), (12, 1), (13, 2), (14, 3), (15, 4), (16, 5), (17, 6), (18, 7), (19, 8), (20, 9), (21, 10), (22, 11), (1, 12), (2, 13), (3, 14), (4, 15), (5, 16), (6, 17), (7, 18), (8, 19), (9, 20), (10, 21)] (by simp [hP, hhOk, back, Cat.cells, Fn.cells, Mnd.cells, Tra.cells, IA, I1, LA, L1, BA, B1, EA, E1, E2, eB, eI, eL])) ?_
 refine w_seq ?_
 replace h := bind_some h
 obtain ⟨e8, h, h8⟩ := h
 refine w_joinT (fun b8 : Bool => ⟨[(2, .val (.bool b8))], [], 0⟩) (fun b8 => b8 = e8) ?_ ?_
 · refine w_run mo (by rw [hN]; decide) fun K hK => ?_
   simp [-guardE_b, -Is_at, -Is_at', -Ls_at, -Ls_at', eL, eI, allInts, eP_Cat, eP_Fn, eP_Mnd, eP_Tra, Cat.cells, Fn.cells, Mnd.cells, Tra.cells]
   repeat (with_reducible refine And.intro ?_ ?_; · first | assumption | omega | (simp; done) | (simp; omega) | simp_all)
   replace h := bind_some h
   obtain ⟨v9, hv9, h⟩ := h
   refine callA_intro (w_i_areNatural _ v9 hv9) (.cons (.lits (es := _) rfl (.cons rfl (.cons (.field rfl (by simp [Cat.cells, Fn.cells, Mnd.cells, Tra.cells]) (.cons .val (.cons (.whole (by simp) (by simp) (by simp)) (.cons (.whole (by simp) (by simp) (by simp)) (.cons (.whole (by simp) (by simp) (by simp)) (.cons (.whole (by simp) (by simp) (by simp)) (.cons .val (.cons (.whole (by simp) (by simp) (by simp)) (.cons (.whole (by simp) (by simp) (by simp)) (.cons (.whole (by simp) (by simp) (by simp)) (.cons (.whole (by simp) (by simp) (by simp)) (.cons (.whole (by simp) (by simp) (by simp)) (.cons (.whole (by simp) (by simp) (by simp)) (.cons .val (.cons .lst (.cons .lst (.cons .lst (.cons .lst (.cons .val (.cons .lst (.cons .lst (.cons .lst (.cons .lst (.cons .lst (.cons .lst (.cons .lst .nil)))))))))))))))))))))))))) .nil) (.cons rfl (.cons (.field rfl (by simp [Cat.cells, Fn.cells, Mnd.cells, Tra.cells]) (.cons .val (.cons (.whole (by simp) (by simp) (by simp)) (.cons (.whole (by simp) (by simp) (by simp)) (.cons (.whole (by simp) (by simp) (by simp)) (.cons (.whole (by simp) (by simp) (by simp)) (.cons .val (.cons (.whole (by simp) (by simp) (by simp)) (.cons (.whole (by simp) (by simp) (by simp)) (.cons (.whole (by simp) (by simp) (by simp)) (.cons (.whole (by simp) (by simp) (by simp)) (.cons (.whole (by simp) (by simp) (by simp)) (.cons (.whole (by simp) (by simp) (by simp)) (.cons .val (.cons .lst (.cons .lst (.cons .lst (.cons .lst (.cons .val (.cons .lst (.cons .lst (.cons .lst (.cons .lst (.cons .lst (.cons .lst (.cons .lst .nil)))))))))))))))))))))))))) .nil) .nil)) rfl) .nil) ?_
   simp [-guardE_b, -Is_at, -Is_at', -Ls_at, -Ls_at', unk, unA, unE, unT, unC, flat, eL, eI, allInts, eP_Cat, eP_Fn, eP_Mnd, eP_Tra, Cat.cells, Fn.cells, Mnd.cells, Tra.cells]
   repeat (with_reducible refine And.intro ?_ ?_; · first | assumption | omega | (simp; done) | (simp; omega) | simp_all)
   refine guard_intro (fun g => ?_) (fun g => ?_)
   · have g10 : v9 = true := by first | simpa using g | (simp at g; exact g) | (simp at g; omega)
     clear g
     replace h := if_l g10 h
     simp [-guardE_b, -Is_at, -Is_at', -Ls_at, -Ls_at', eL, eI, allInts, eP_Cat, eP_Fn, eP_Mnd, eP_Tra, Cat.cells, Fn.cells, Mnd.cells, Tra.cells]
     repeat (with_reducible refine And.intro ?_ ?_; · first | assumption | omega | (simp; done) | (simp; omega) | simp_all)
     replace h := bind_some h
     obtain ⟨v11, hv11, h⟩ := h
     refine callA_intro (w_i_Monad_isLawful _ v11 hv11) (.cons (.preT (by simp [Cat.cells, Fn.cells, Mnd.cells, Tra.cells])) .nil) ?_
     simp [-guardE_b, -Is_at, -Is_at', -Ls_at, -Ls_at', unk, unA, unE, unT, unC, flat, eL, eI, allInts, eP_Cat, eP_Fn, eP_Mnd, eP_Tra, Cat.cells, Fn.cells, Mnd.cells, Tra.cells]
     repeat (with_reducible refine And.intro ?_ ?_; · first | assumption | omega | (simp; done) | (simp; omega) | simp_all)
     refine hK _ ?_
     exact jn (b := v11) (Option.some.inj h) (Wk.r1 [] (by simp [hP, hhOk, back, Cat.cells, Fn.cells, Mnd.cells, Tra.cells, IA, I1, LA, L1, BA, B1, EA, E1, E2, eB, eI, eL]))
   have g10 : ¬ (v9 = true) := by first | simpa using g | (simp at g; exact g) | (simp at g; omega)
   clear g
   replace h := if_r g10 h
   simp [-guardE_b, -Is_at, -Is_at', -Ls_at, -Ls_at', eL, eI, allInts, eP_Cat, eP_Fn, eP_Mnd, eP_Tra, Cat.cells, Fn.cells, Mnd.cells, Tra.cells]
   repeat (with_reducible refine And.intro ?_ ?_; · first | assumption | omega | (simp; done) | (simp; omega) | simp_all)
   refine hK _ ?_
   exact jn (b := false) (Option.some.inj h) (Wk.r1 [] (by simp [hP, hhOk, back, Cat.cells, Fn.cells, Mnd.cells, Tra.cells, IA, I1, LA, L1, BA, B1, EA, E1, E2, eB, eI, eL]))
 intro b8 hb8
 have h := h8
 rw [← hb8] at h
 clear h8
 try dsimp only at h
 refine w_ret ?_
 have hr := Option.some.inj h
 rw [← hr]
 refine ⟨_, (.tmp .nil), ?_⟩
 refine ⟨(.one rfl rfl .nil), [.val (.bool b8)], [], by simp [Cat.cells, Fn.cells, Mnd.cells, Tra.cells, IA, I1, LA, L1, BA, B1, EA, E1, E2, eB, eI, eL], by simp, (UpL.refl _)⟩
end Go.Vc.T

set_option maxRecDepth 100000
set_option linter.unusedSimpArgs false
set_option linter.unusedVariables false
namespace Go.Vc.T
open Go Go.Vc Go.Proofs
noncomputable def s_s_l16Laws (t_ : Fn) (unit_ : List Int) (join_ : List Int) : Option Bool :=
 (loopF (σ := Int) (ε := Unit ⊕ Bool) (fun s25 =>
   if s25 < t_.s.n then
     ass (0 ≤ s25 ∧ s25 < (t_.ob.length : Int)) <|
     (
       ass (0 ≤ s25 ∧ s25 < (unit_.length : Int)) <|
       ass (0 ≤ ix unit_ s25 ∧ ix unit_ s25 < (t_.ar.length : Int)) <|
       ass (0 ≤ s25 ∧ s25 < (join_.length : Int)) <|
       (s_s_l02Then t_.s (ix t_.ar (ix unit_ s25)) (ix join_ s25)).bind fun v32 =>
       (s_s_l02Unit t_.s v32).bind fun v33 =>
       if ¬ (v33 = true) then
         some true
       else
         ass (0 ≤ ix t_.ob s25 ∧ ix t_.ob s25 < (unit_.length : Int)) <|
         ass (0 ≤ s25 ∧ s25 < (join_.length : Int)) <|
         (s_s_l02Then t_.s (ix unit_ (ix t_.ob s25)) (ix join_ s25)).bind fun v37 =>
         (s_s_l02Unit t_.s v37).bind fun v38 =>
         some (!v38) : Option (Bool)).bind fun b28 =>
     if b28 = true then
       some (Ctl.ret (Sum.inr false))
     else
       ass (0 ≤ s25 ∧ s25 < (join_.length : Int)) <|
       ass (0 ≤ ix join_ s25 ∧ ix join_ s25 < (t_.ar.length : Int)) <|
       ass (0 ≤ s25 ∧ s25 < (join_.length : Int)) <|
       (s_s_l02Then t_.s (ix t_.ar (ix join_ s25)) (ix join_ s25)).bind fun v43 =>
       ass (0 ≤ ix t_.ob s25 ∧ ix t_.ob s25 < (join_.length : Int)) <|
       ass (0 ≤ s25 ∧ s25 < (join_.length : Int)) <|
       (s_s_l02Then t_.s (ix join_ (ix t_.ob s25)) (ix join_ s25)).bind fun v46 =>
       if ¬ (v43 = v46) then
         some (Ctl.ret (Sum.inr false))
       else
         ass (B64 (s25 + 1)) <|
         some (Ctl.next (s25 + 1))
   else
     some (Ctl.ret (Sum.inl ()))) fuel 0).bind fun e1 =>
 match e1 with
 | .inl b1 =>
   some true
 | .inr p1 =>
   some p1
set_option maxHeartbeats 4000000 in
theorem w_s_l16Laws (t_ : Fn) (unit_ : List Int) (join_ : List Int) (r : Bool) (h : s_s_l16Laws t_ unit_ join_ = some r) : Contract Try.prog 176 [.agg (t_.cells true), .lst true 1 (Is unit_), .lst true 1 (Is join_)] (.val (.bool r)) := by
 refine contract_introG (rvs := [.tmp 6]) (rs := [.val (.bool r)]) Try.func176 rfl rfl rfl rfl (by simp [Try.f176]) fun F hN hP => ?_
 unfold s_s_l16Laws at h
 refine w_seq ?_
 refine w_run mo (by rw [hN]; decide) fun K hK => ?_
 simp [-guardE_b, -Is_at, -Is_at', -Ls_at, -Ls_at', eL, eI, allInts, eP_Cat, eP_Fn, Cat.cells, Fn.cells]
 repeat (with_reducible refine And.intro ?_ ?_; · first | assumption | omega | (simp; done) | (simp; omega) | simp_all)
 refine hK _ ?_
 clear hK K
 refine tn ?_
 refine w_weak (st' := ⟨[(1, .lst true 1 (Is unit_)), (2, .lst true 1 (Is join_)), (3, .adr 0 0 0)], [(0, .mix 12 [(Fn.cells true t_)])], 1⟩) (Wk.r1 [(0, 0)] (by simp [hP, hhOk, back, Cat.cells, Fn.cells, IA, I1, LA, L1, BA, B1, EA, E1, E2, eB, eI, eL])) ?_
 refine w_seq ?_
 refine w_run mo (by rw [hN]; decide) fun K hK => ?_
 simp [-guardE_b, -Is_at, -Is_at', -Ls_at, -Ls_at', eL, eI, allInts, eP_Cat, eP_Fn, Cat.cells, Fn.cells]
 repeat (with_reducible refine And.intro ?_ ?_; · first | assumption | omega | (simp; done) | (simp; omega) | simp_all)
 refine hK _ ?_
 clear hK K
 refine tn ?_
 refine w_weak (st' := ⟨[(1, .lst true 1 (Is unit_)), (2, .lst true 1 (Is join_)), (3, .adr 0 0 0), (7, .adr 1 0 0)], [(0, .mix 12 [(Fn.cells true t_)]), (1, .mix 5 [(Cat.cells true t_.s)])], 2⟩) (Wk.r1 [(0, 0), (1, 1)] (by simp [hP, hhOk, back, Cat.cells, Fn.cells, IA, I1, LA, L1, BA, B1, EA, E1, E2, eB, eI, eL])) ?_
 refine w_seq ?_
 refine w_seq ?_
 refine w_run mo (by rw [hN]; decide) fun K hK => ?_
 simp [-guardE_b, -Is_at, -Is_at', -Ls_at, -Ls_at', eL, eI, allInts, eP_Cat, eP_Fn, Cat.cells, Fn.cells]
 repeat (with_reducible refine And.intro ?_ ?_; · first | assumption | omega | (simp; done) | (simp; omega) | simp_all)
 refine hK _ ?_
 clear hK K
 refine tn ?_
 refine w_weak (st' := ⟨[(1, .lst true 1 (Is unit_)), (2, .lst true 1 (Is join_)), (3, .adr 0 0 0), (7, .adr 1 0 0), (8, .val (.int .i64 0))], [(0, .mix 12 [(Fn.cells true t_)]), (1, .mix 5 [(Cat.cells true t_.s)])], 2⟩) (Wk.r1 [(0, 0), (1, 1)] (by simp [hP, hhOk, back, Cat.cells, Fn.cells, IA, I1, LA, L1, BA, B1, EA, E1, E2, eB, eI, eL])) ?_
 replace h := bind_some h
 obtain ⟨e1, h, h1⟩ := h
 refine w_joinT (fun b1 : Unit => ⟨[], [], 0⟩) (fun b1 => Sum.inl b1 = e1) ?_ ?_
 · refine w_block ?_
   refine w_loopF h (fun s25 : Int => ⟨[(1, .lst true 1 (Is unit_)), (2, .lst true 1 (Is join_)), (3, .adr 0 0 0), (7, .adr 1 0 0), (8, .val (.int .i64 s25))], [(0, .mix 12 [(Fn.cells true t_)]), (1, .mix 5 [(Cat.cells true t_.s)])], 2⟩) (Wk.r1 [(0, 0), (1, 1)] (by simp [hP, hhOk, back, Cat.cells, Fn.cells, IA, I1, LA, L1, BA, B1, EA, E1, E2, eB, eI, eL])) ?_
   clear h
   intro k25 s25 c25 h hk25
   refine w_seq ?_
   refine w_seq ?_
   refine w_run mo (by rw [hN]; decide) fun K hK => ?_
   simp [-guardE_b, -Is_at, -Is_at', -Ls_at, -Ls_at', eL, eI, allInts, eP_Cat, eP_Fn, Cat.cells, Fn.cells]
   repeat (with_reducible refine And.intro ?_ ?_; · first | assumption | omega | (simp; done) | (simp; omega) | simp_all)
   refine hK _ ?_
   clear hK K
   refine tn ?_
   refine w_weak (st' := ⟨[(1, .lst true 1 (Is unit_)), (2, .lst true 1 (Is join_)), (3, .adr 0 0 0), (7, .adr 1 0 0), (8, .val (.int .i64 s25)), (15, .val (.bool (decide (s25 < t_.s.n))))], [(0, .mix 12 [(Fn.cells true t_)]), (1, .mix 5 [(Cat.cells true t_.s)])], 2⟩) (Wk.r1 [(0, 0), (1, 1)] (by simp [hP, hhOk, back, Cat.cells, Fn.cells, IA, I1, LA, L1, BA, B1, EA, E1, E2, eB, eI, eL])) ?_
   refine w_cond rfl (fun g => ?_) fun g => ?_
   · have g26 : s25 < t_.s.n := by first | simpa using g | (simp at g; exact g) | (simp at g; omega)
     clear g
     replace h := if_l g26 h
     refine w_skip ?_
     refine tn ?_
     refine w_seq ?_
     refine w_block ?_
     refine w_seq ?_
     refine w_run mo (by rw [hN]; decide) fun K hK => ?_
     replace h := ass_some h
     obtain ⟨a27, h⟩ := h
     simp [-guardE_b, -Is_at, -Is_at', -Ls_at, -Ls_at', eL, eI, allInts, eP_Cat, eP_Fn, Cat.cells, Fn.cells, at_I a27]
     repeat (with_reducible refine And.intro ?_ ?_; · first | assumption | omega | (simp; done) | (simp; omega) | simp_all)
     refine hK _ ?_
     clear hK K
     refine tn ?_
     refine w_weak (st' := ⟨[(1, .lst true 1 (Is unit_)), (2, .lst true 1 (Is join_)), (3, .adr 0 0 0), (7, .adr 1 0 0), (8, .val (.int .i64 s25)), (9, .val (.int .i64 (ix t_.ob s25)))], [(0, .mix 12 [(Fn.cells true t_)]), (1, .mix 5 [(Cat.cells true t_.s)])], 2⟩) (Wk.r1 [(0, 0), (1, 1)] (by simp [hP, hhOk, back, Cat.cells, Fn.cells, IA, I1, LA, L1, BA, B1, EA, E1, E2, eB, eI, eL])) ?_
     refine w_seq ?_
     refine w_seq ?_
     replace h := bind_some h
     obtain ⟨e28, h, h28⟩ := h
     refine w_joinT (fun b28 : Bool => ⟨[(1, .lst true 1 (Is unit_)), (2, .lst true 1 (Is join_)), (3, .adr 0 0 0), (7, .adr 1 0 0), (8, .val (.int .i64 s25)), (9, .val (.int .i64 (ix t_.ob s25))), (54, .val (.bool b28))], [(0, .mix 12 [(Fn.cells true t_)]), (1, .mix 5 [(Cat.cells true t_.s)])], 2⟩) (fun b28 => b28 = e28) ?_ ?_
     · refine w_run mo (by rw [hN]; decide) fun K hK => ?_
       replace h := ass_some h
       obtain ⟨a29, h⟩ := h
       replace h := ass_some h
       obtain ⟨a30, h⟩ := h
       replace h := ass_some h
       obtain ⟨a31, h⟩ := h
       simp [-guardE_b, -Is_at, -Is_at', -Ls_at, -Ls_at', eL, eI, allInts, eP_Cat, eP_Fn, Cat.cells, Fn.cells, at_I a29, at_I a30, at_I a31]
       repeat (with_reducible refine And.intro ?_ ?_; · first | assumption | omega | (simp; done) | (simp; omega) | simp_all)
       replace h := bind_some h
       obtain ⟨v32, hv32, h⟩ := h
       refine callA_intro (w_s_l02Then _ _ _ v32 hv32) (.cons (.aggL (.cons .val (.cons .lst (.cons .lst (.cons .lst (.cons .lst .nil)))))) (.cons .val (.cons .val .nil))) ?_
       simp [-guardE_b, -Is_at, -Is_at', -Ls_at, -Ls_at', unk, unA, unE, unT, unC, flat, eL, eI, allInts, eP_Cat, eP_Fn, Cat.cells, Fn.cells]
       repeat (with_reducible refine And.intro ?_ ?_; · first | assumption | omega | (simp; done) | (simp; omega) | simp_all)
       replace h := bind_some h
       obtain ⟨v33, hv33, h⟩ := h
       refine callA_intro (w_s_l02Unit _ _ v33 hv33) (.cons (.aggL (.cons .val (.cons .lst (.cons .lst (.cons .lst (.cons .lst .nil)))))) (.cons .val .nil)) ?_
       simp [-guardE_b, -Is_at, -Is_at', -Ls_at, -Ls_at', unk, unA, unE, unT, unC, flat, eL, eI, allInts, eP_Cat, eP_Fn, Cat.cells, Fn.cells]
       repeat (with_reducible refine And.intro ?_ ?_; · first | assumption | omega | (simp; done) | (simp; omega) | simp_all)
       refine guard_intro (fun g => ?_) (fun g => ?_)
       · have g34 : ¬ (¬ (v33 = true)) := by first | simpa using g | (simp at g; exact g) | (simp at g; omega)
         clear g
         replace h := if_r g34 h
         replace h := ass_some h
         obtain ⟨a35, h⟩ := h
         replace h := ass_some h
         obtain ⟨a36, h⟩ := h
         simp [-guardE_b, -Is_at, -Is_at', -Ls_at, -Ls_at', eL, eI, allInts, eP_Cat, eP_Fn, Cat.cells, Fn.cells, at_I a35, at_I a36]
         repeat (with_reducible refine And.intro ?_ ?_; · first | assumption | omega | (simp; done) | (simp; omega) | simp_all)
         replace h := bind_some h
         obtain ⟨v37, hv37, h⟩ := h
         refine callA_intro (w_s_l02Then _ _ _ v37 hv37) (.cons (.aggL (.cons .val (.cons .lst (.cons .lst (.cons .lst (.cons .lst .nil)))))) (.cons .val (.cons .val .nil))) ?_
         simp [-guardE_b, -Is_at, -Is_at', -Ls_at, -Ls_at', unk, unA, unE, unT, unC, flat, eL, eI, allInts, eP_Cat, eP_Fn, Cat.cells, Fn.cells]
         repeat (with_reducible refine And.intro ?_ ?_; · first | assumption | omega | (simp; done) | (simp; omega) | simp_all)
         replace h := bind_some h
         obtain ⟨v38, hv38, h⟩ := h
         refine callA_intro (w_s_l02Unit _ _ v38 hv38) (.cons (.aggL (.cons .val (.cons .lst (.cons .lst (.cons .lst (.cons .lst .nil)))))) (.cons .val .nil)) ?_
         simp [-guardE_b, -Is_at, -Is_at', -Ls_at, -Ls_at', unk, unA, unE, unT, unC, flat, eL, eI, allInts, eP_Cat, eP_Fn, Cat.cells, Fn.cells]
         repeat (with_reducible refine And.intro ?_ ?_; · first | assumption | omega | (simp; done) | (simp; omega) | simp_all)
         refine hK _ ?_
         exact jn (b := !v38) (Option.some.inj h) (Wk.r1 [(0, 0), (1, 1)] (by simp [hP, hhOk, back, Cat.cells, Fn.cells, IA, I1, LA, L1, BA, B1, EA, E1, E2, eB, eI, eL]))
       have g34 : ¬ (v33 = true) := by first | simpa using g | (simp at g; exact g) | (simp at g; omega)
       clear g
       replace h := if_l g34 h
       simp [-guardE_b, -Is_at, -Is_at', -Ls_at, -Ls_at', eL, eI, allInts, eP_Cat, eP_Fn, Cat.cells, Fn.cells]
       repeat (with_reducible refine And.intro ?_ ?_; · first | assumption | omega | (simp; done) | (simp; omega) | simp_all)
       refine hK _ ?_
       exact jn (b := true) (Option.some.inj h) (Wk.r1 [(0, 0), (1, 1)] (by simp [hP, hhOk, back, Cat.cells, Fn.cells, IA, I1, LA, L1, BA, B1, EA, E1, E2, eB, eI, eL]))
     intro b28 hb28
     have h := h28
     rw [← hb28] at h
     clear h28
     try dsimp only at h
     refine w_cond rfl (fun g => ?_) fun g => ?_
     · have g39 : b28 = true := by first | simpa using g | (simp at g; exact g) | (simp at g; omega)
       clear g
       replace h := if_l g39 h
       refine w_seq ?_
       refine w_run mo (by rw [hN]; decide) fun K hK => ?_
       simp [-guardE_b, -Is_at, -Is_at', -Ls_at, -Ls_at', eL, eI, allInts, eP_Cat, eP_Fn, Cat.cells, Fn.cells]
       repeat (with_reducible refine And.intro ?_ ?_; · first | assumption | omega | (simp; done) | (simp; omega) | simp_all)
       refine hK _ ?_
       clear hK K
       refine tn ?_
       refine w_weak (st' := ⟨[(6, .val (.bool false))], [], 0⟩) (Wk.r1 [] (by simp [hP, hhOk, back, Cat.cells, Fn.cells, IA, I1, LA, L1, BA, B1, EA, E1, E2, eB, eI, eL])) ?_
       refine w_ret ?_
       refine tr ?_
       refine br ?_
       refine tr ?_
       refine lr ?_
       refine br ?_
       refine tr ?_
       cases h
       have q : _ = e1 := hk25
       have h := h1
       rw [← q] at h
       clear q
       try dsimp only at h
       have hr := Option.some.inj h
       rw [← hr]
       refine ⟨_, (.tmp .nil), ?_⟩
       refine ⟨(.one rfl rfl .nil), [.val (.bool false)], [], by simp [Cat.cells, Fn.cells, IA, I1, LA, L1, BA, B1, EA, E1, E2, eB, eI, eL], by simp, (UpL.refl _)⟩
     have g39 : ¬ (b28 = true) := by first | simpa using g | (simp at g; exact g) | (simp at g; omega)
     clear g
     replace h := if_r g39 h
     refine w_skip ?_
     refine tn ?_
     refine w_seq ?_
     refine w_run mo (by rw [hN]; decide) fun K hK => ?_
     replace h := ass_some h
     obtain ⟨a40, h⟩ := h
     replace h := ass_some h
     obtain ⟨a41, h⟩ := h
     replace h := ass_some h
     obtain ⟨a42, h⟩ := h
     simp [-guardE_b, -Is_at, -Is_at', -Ls_at, -Ls_at', eL, eI, allInts, eP_Cat, eP_Fn, Cat.cells, Fn.cells, at_I a40, at_I a41, at_I a42]
     repeat (with_reducible refine And.intro ?_ ?_; · first | assumption | omega | (simp; done) | (simp; omega) | simp_all)
     replace h := bind_some h
     obtain ⟨v43, hv43, h⟩ := h
     refine callA_intro (w_s_l02Then _ _ _ v43 hv43) (.cons (.aggL (.cons .val (.cons .lst (.cons .lst (.cons .lst (.cons .lst .nil)))))) (.cons .val (.cons .val .nil))) ?_
     replace h := ass_some h
     obtain ⟨a44, h⟩ := h
     replace h := ass_some h
     obtain ⟨a45, h⟩ := h
     simp [-guardE_b, -Is_at, -Is_at', -Ls_at, -Ls_at', unk, unA, unE, unT, unC, flat, eL, eI, allInts, eP_Cat, eP_Fn, Cat.cells, Fn.cells, at_I a44, at_I a45]
     repeat (with_reducible refine And.intro ?_ ?_; · first | assumption | omega | (simp; done) | (simp; omega) | simp_all)
     replace h := bind_some h
     obtain ⟨v46, hv46, h⟩ := h
     refine callA_intro (w_s_l02Then _ _ _ v46 hv46) (.cons (.aggL (.cons .val (.cons .lst (.cons .lst (.cons .lst (.cons .lst .nil)))))) (.cons .val (.cons .val .nil))) ?_
     simp [-guardE_b, -Is_at, -Is_at', -Ls_at, -Ls_at', unk, unA, unE, unT, unC, flat, eL, eI, allInts, eP_Cat, eP_Fn, Cat.cells, Fn.cells]
     repeat (with_reducible refine And.intro ?_ ?_; · first | assumption | omega | (simp; done) | (simp; omega) | simp_all)
     refine hK _ ?_
     clear hK K
     refine tn ?_
     refine w_weak (st' := ⟨[(1, .lst true 1 (Is unit_)), (2, .lst true 1 (Is join_)), (3, .adr 0 0 0), (7, .adr 1 0 0), (8, .val (.int .i64 s25)), (79, .val (.bool (v43 != v46)))], [(0, .mix 12 [(Fn.cells true t_)]), (1, .mix 5 [(Cat.cells true t_.s)])], 2⟩) (Wk.r1 [(0, 0), (1, 1)] (by simp [hP, hhOk, back, Cat.cells, Fn.cells, IA, I1, LA, L1, BA, B1, EA, E1, E2, eB, eI, eL])) ?_
     refine w_cond rfl (fun g => ?_) fun g => ?_
     · have g47 : ¬ (v43 = v46) := by first | simpa using g | (simp at g; exact g) | (simp at g; omega)
       clear g
       replace h := if_l g47 h
       refine w_seq ?_
       refine w_run mo (by rw [hN]; decide) fun K hK => ?_
       simp [-guardE_b, -Is_at, -Is_at', -Ls_at, -Ls_at', eL, eI, allInts, eP_Cat, eP_Fn, Cat.cells, Fn.cells]
       repeat (with_reducible refine And.intro ?_ ?_; · first | assumption | omega | (simp; done) | (simp; omega) | simp_all)
       refine hK _ ?_
       clear hK K
       refine tn ?_
       refine w_weak (st' := ⟨[(6, .val (.bool false))], [], 0⟩) (Wk.r1 [] (by simp [hP, hhOk, back, Cat.cells, Fn.cells, IA, I1, LA, L1, BA, B1, EA, E1, E2, eB, eI, eL])) ?_
       refine w_ret ?_
       refine br ?_
       refine tr ?_
       refine lr ?_
       refine br ?_
       refine tr ?_
       cases h
       have q : _ = e1 := hk25
       have h := h1
       rw [← q] at h
       clear q
       try dsimp only at h
       have hr := Option.some.inj h
       rw [← hr]
       refine ⟨_, (.tmp .nil), ?_⟩
       refine ⟨(.one rfl rfl .nil), [.val (.bool false)], [], by simp [Cat.cells, Fn.cells, IA, I1, LA, L1, BA, B1, EA, E1, E2, eB, eI, eL], by simp, (UpL.refl _)⟩
     have g47 : ¬ (¬ (v43 = v46)) := by first | simpa using g | (simp at g; exact g) | (simp at g; omega)
     clear g
     replace h := if_r g47 h
     refine w_skip ?_
     refine bn ?_
     refine tn ?_
     refine w_run mo (by rw [hN]; decide) fun K hK => ?_
     replace h := ass_some h
     obtain ⟨a48, h⟩ := h
     simp [-guardE_b, -Is_at, -Is_at', -Ls_at, -Ls_at', eL, eI, allInts, eP_Cat, eP_Fn, Cat.cells, Fn.cells, wrap_id a48]
     repeat (with_reducible refine And.intro ?_ ?_; · first | assumption | omega | (simp; done) | (simp; omega) | simp_all)
     refine hK _ ?_
     clear hK K
     cases h
     exact rn (s' := s25 + 1) hk25 (Wk.r1 [(0, 0), (1, 1)] (by simp [hP, hhOk, back, Cat.cells, Fn.cells, IA, I1, LA, L1, BA, B1, EA, E1, E2, eB, eI, eL]))
   have g26 : ¬ (s25 < t_.s.n) := by first | simpa using g | (simp at g; exact g) | (simp at g; omega)
   clear g
   replace h := if_r g26 h
   refine w_exit ?_
   refine tx ?_
   refine lx ?_
   refine bh ?_
   cases h
   exact jn (b := ()) hk25 (Wk.r1 [] (by simp [hP, hhOk, back, Cat.cells, Fn.cells, IA, I1, LA, L1, BA, B1, EA, E1, E2, eB, eI, eL]))
 intro b1 hb1
 have h := h1
 rw [← hb1] at h
 clear h1
 try dsimp only at h
 refine w_seq ?_
 refine w_run mo (by rw [hN]; decide) fun K hK => ?_
 simp [-guardE_b, -Is_at, -Is_at', -Ls_at, -Ls_at', eL, eI, allInts, eP_Cat, eP_Fn, Cat.cells, Fn.cells]
 repeat (with_reducible refine And.intro ?_ ?_; · first | assumption | omega | (simp; done) | (simp; omega) | simp_all)
 refine hK _ ?_
 clear hK K
 refine tn ?_
 refine w_weak (st' := ⟨[(6, .val (.bool true))], [], 0⟩) (Wk.r1 [] (by simp [hP, hhOk, back, Cat.cells, Fn.cells, IA, I1, LA, L1, BA, B1, EA, E1, E2, eB, eI, eL])) ?_
 refine w_ret ?_
 have hr := Option.some.inj h
 rw [← hr]
 refine ⟨_, (.tmp .nil), ?_⟩
 refine ⟨(.one rfl rfl .nil), [.val (.bool true)], [], by simp [Cat.cells, Fn.cells, IA, I1, LA, L1, BA, B1, EA, E1, E2, eB, eI, eL], by simp, (UpL.refl _)⟩
end Go.Vc.T

set_option maxRecDepth 100000
set_option linter.unusedSimpArgs false
set_option linter.unusedVariables false
namespace Go.Vc.T
open Go Go.Vc Go.Proofs
noncomputable def s_s_l16Twice (f_ : Fn) : Option Fn :=
 (s_s_l06Then f_ f_).bind fun v1 =>
 some v1
set_option maxHeartbeats 4000000 in
theorem w_s_l16Twice (f_ : Fn) (r : Fn) (h : s_s_l16Twice f_ = some r) : Contract Try.prog 175 [.agg (f_.cells true)] (.agg (r.cells true)) := by
 refine contract_introG (rvs := [.cell 2 35]) (rs := [.agg (r.cells true)]) Try.func175 rfl rfl rfl rfl (by simp [Try.f175]) fun F hN hP => ?_
 unfold s_s_l16Twice at h
 refine w_seq ?_
 refine w_run mo (by rw [hN]; decide) fun K hK => ?_
 simp [-guardE_b, -Is_at, -Is_at', -Ls_at, -Ls_at', eL, eI, allInts, eP_Fn, Fn.cells]
 repeat (with_reducible refine And.intro ?_ ?_; · first | assumption | omega | (simp; done) | (simp; omega) | simp_all)
 refine hK _ ?_
 clear hK K
 refine tn ?_
 refine w_weak (st' := ⟨[(1, .adr 0 0 0), (2, .adr 1 0 0)], [(0, .mix 12 [(Fn.cells true f_)]), (1, .mix 12 [[.val (.int .i64 0), .val (.slice none 0 0), .val (.slice none 0 0), .val (.slice none 0 0), .val (.slice none 0 0), .val (.int .i64 0), .val (.slice none 0 0), .val (.slice none 0 0), .val (.slice none 0 0), .val (.slice none 0 0), .val (.slice none 0 0), .val (.slice none 0 0)]])], 2⟩) (Wk.r1 [(0, 0), (1, 1)] (by simp [hP, hhOk, back, Fn.cells, IA, I1, LA, L1, BA, B1, EA, E1, E2, eB, eI, eL])) ?_
 refine w_seq ?_
 refine w_run mo (by rw [hN]; decide) fun K hK => ?_
 simp [-guardE_b, -Is_at, -Is_at', -Ls_at, -Ls_at', eL, eI, allInts, eP_Fn, Fn.cells]
 repeat (with_reducible refine And.intro ?_ ?_; · first | assumption | omega | (simp; done) | (simp; omega) | simp_all)
 replace h := bind_some h
 obtain ⟨v1, hv1, h⟩ := h
 refine callA_intro (w_s_l06Then _ _ v1 hv1) (.cons (.aggL (.cons .val (.cons .lst (.cons .lst (.cons .lst (.cons .lst (.cons .val (.cons .lst (.cons .lst (.cons .lst (.cons .lst (.cons .lst (.cons .lst .nil))))))))))))) (.cons (.aggL (.cons .val (.cons .lst (.cons .lst (.cons .lst (.cons .lst (.cons .val (.cons .lst (.cons .lst (.cons .lst (.cons .lst (.cons .lst (.cons .lst .nil))))))))))))) .nil)) ?_
 simp [-guardE_b, -Is_at, -Is_at', -Ls_at, -Ls_at', unk, unA, unE, unT, unC, flat, eL, eI, allInts, eP_Fn, Fn.cells]
 repeat (with_reducible refine And.intro ?_ ?_; · first | assumption | omega | (simp; done) | (simp; omega) | simp_all)
 refine hK _ ?_
 clear hK K
 refine tn ?_
 refine w_weak (st' := ⟨[(2, .adr 0 0 0)], [(0, .mix 12 [[.val (.int .i64 v1.s.n), .own 1 0 v1.s.fr.length, .own 2 0 v1.s.to.length, .own 3 0 v1.s.id.length, .own 4 0 v1.s.cs.length, .val (.int .i64 v1.t.n), .own 5 0 v1.t.fr.length, .own 6 0 v1.t.to.length, .own 7 0 v1.t.id.length, .own 8 0 v1.t.cs.length, .own 9 0 v1.ob.length, .own 10 0 v1.ar.length]]), (1, .row 1 (Is v1.s.fr)), (2, .row 1 (Is v1.s.to)), (3, .row 1 (Is v1.s.id)), (4, .row 1 (Ls v1.s.cs)), (5, .row 1 (Is v1.t.fr)), (6, .row 1 (Is v1.t.to)), (7, .row 1 (Is v1.t.id)), (8, .row 1 (Ls v1.t.cs)), (9, .row 1 (Is v1.ob)), (10, .row 1 (Is v1.ar))], 11⟩) (Wk.r1 [(1, 0), (3, 1), (4, 2), (5, 3), (6, 4), (8, 5), (9, 6), (10, 7), (11, 8), (12, 9), (13, 10)] (by simp [hP, hhOk, back, Fn.cells, IA, I1, LA, L1, BA, B1, EA, E1, E2, eB, eI, eL])) ?_
 refine w_ret ?_
 have hr := Option.some.inj h
 rw [← hr]
 refine ⟨_, (.cell tf_35 rfl rfl rfl (by simp) (by simp) .nil), ?_⟩
 refine ⟨(.agg rfl .nil), [.val (.int .i64 v1.s.n), .lst true 1 (Is v1.s.fr), .lst true 1 (Is v1.s.to), .lst true 1 (Is v1.s.id), .lst true 1 (Ls v1.s.cs), .val (.int .i64 v1.t.n), .lst true 1 (Is v1.t.fr), .lst true 1 (Is v1.t.to), .lst true 1 (Is v1.t.id), .lst true 1 (Ls v1.t.cs), .lst true 1 (Is v1.ob), .lst true 1 (Is v1.ar)], [1, 2, 3, 4, 5, 6, 7, 8, 9, 10], by simp [Fn.cells, IA, I1, LA, L1, BA, B1, EA, E1, E2, eB, eI, eL], by simp, (UpL.refl _)⟩
end Go.Vc.T

set_option maxRecDepth 100000
set_option linter.unusedSimpArgs false
set_option linter.unusedVariables false
namespace Go.Vc.T
open Go Go.Vc Go.Proofs
noncomputable def s_s_l16Is (m_ : Mnd) : Option Bool :=
 (
   (s_s_l06Is m_.f).bind fun v2 =>
   if ¬ (v2 = true) then
     some true
   else
     (s_s_l02Same m_.f.s m_.f.t).bind fun v4 =>
     some (!v4) : Option (Bool)).bind fun b1 =>
 if b1 = true then
   some false
 else
   (
     (s_s_l06Self m_.f.s).bind fun v7 =>
     (s_s_l15Natural v7 m_.f m_.u).bind fun v8 =>
     if ¬ (v8 = true) then
       some true
     else
       (s_s_l16Twice m_.f).bind fun v10 =>
       (s_s_l15Natural v10 m_.f m_.j).bind fun v11 =>
       some (!v11) : Option (Bool)).bind fun b6 =>
   if b6 = true then
     some false
   else
     (s_s_l16Laws m_.f m_.u m_.j).bind fun v13 =>
     some v13
set_option maxHeartbeats 4000000 in
theorem w_s_l16Is (m_ : Mnd) (r : Bool) (h : s_s_l16Is m_ = some r) : Contract Try.prog 81 [.agg (m_.cells true)] (.val (.bool r)) := by
 refine contract_introG (rvs := [.tmp 2]) (rs := [.val (.bool r)]) Try.func81 rfl rfl rfl rfl (by simp [Try.f81]) fun F hN hP => ?_
 unfold s_s_l16Is at h
 refine w_seq ?_
 refine w_run mo (by rw [hN]; decide) fun K hK => ?_
 simp [-guardE_b, -Is_at, -Is_at', -Ls_at, -Ls_at', eL, eI, allInts, eP_Cat, eP_Fn, eP_Mnd, Cat.cells, Fn.cells, Mnd.cells]
 repeat (with_reducible refine And.intro ?_ ?_; · first | assumption | omega | (simp; done) | (simp; omega) | simp_all)
 refine hK _ ?_
 clear hK K
 refine tn ?_
 refine w_weak (st' := ⟨[(1, .adr 0 0 0)], [(0, .mix 14 [(Mnd.cells true m_)])], 1⟩) (Wk.r1 [(0, 0)] (by simp [hP, hhOk, back, Cat.cells, Fn.cells, Mnd.cells, IA, I1, LA, L1, BA, B1, EA, E1, E2, eB, eI, eL])) ?_
 refine w_seq ?_
 refine w_run mo (by rw [hN]; decide) fun K hK => ?_
 simp [-guardE_b, -Is_at, -Is_at', -Ls_at, -Ls_at', eL, eI, allInts, eP_Cat, eP_Fn, eP_Mnd, Cat.cells, Fn.cells, Mnd.cells]
 repeat (with_reducible refine And.intro ?_ ?_; · first | assumption | omega | (simp; done) | (simp; omega) | simp_all)
 refine hK _ ?_
 clear hK K
 refine tn ?_
 refine w_weak (st' := ⟨[(1, .adr 0 0 0), (3, .adr 1 0 0)], [(0, .mix 14 [(Mnd.cells true m_)]), (1, .mix 12 [(Fn.cells true m_.f)])], 2⟩) (Wk.r1 [(0, 0), (1, 1)] (by simp [hP, hhOk, back, Cat.cells, Fn.cells, Mnd.cells, IA, I1, LA, L1, BA, B1, EA, E1, E2, eB, eI, eL])) ?_
 refine w_seq ?_
 refine w_seq ?_
 replace h := bind_some h
 obtain ⟨e1, h, h1⟩ := h
 refine w_joinT (fun b1 : Bool => ⟨[(1, .adr 0 0 0), (3, .adr 1 0 0), (16, .val (.bool b1))], [(0, .mix 14 [(Mnd.cells true m_)]), (1, .mix 12 [(Fn.cells true m_.f)])], 2⟩) (fun b1 => b1 = e1) ?_ ?_
 · refine w_run mo (by rw [hN]; decide) fun K hK => ?_
   simp [-guardE_b, -Is_at, -Is_at', -Ls_at, -Ls_at', eL, eI, allInts, eP_Cat, eP_Fn, eP_Mnd, Cat.cells, Fn.cells, Mnd.cells]
   repeat (with_reducible refine And.intro ?_ ?_; · first | assumption | omega | (simp; done) | (simp; omega) | simp_all)
   replace h := bind_some h
   obtain ⟨v2, hv2, h⟩ := h
   refine callA_intro (w_s_l06Is _ v2 hv2) (.cons (.aggL (.cons .val (.cons .lst (.cons .lst (.cons .lst (.cons .lst (.cons .val (.cons .lst (.cons .lst (.cons .lst (.cons .lst (.cons .lst (.cons .lst .nil))))))))))))) .nil) ?_
   simp [-guardE_b, -Is_at, -Is_at', -Ls_at, -Ls_at', unk, unA, unE, unT, unC, flat, eL, eI, allInts, eP_Cat, eP_Fn, eP_Mnd, Cat.cells, Fn.cells, Mnd.cells]
   repeat (with_reducible refine And.intro ?_ ?_; · first | assumption | omega | (simp; done) | (simp; omega) | simp_all)
   refine guard_intro (fun g => ?_) (fun g => ?_)
   · have g3 : ¬ (¬ (v2 = true)) := by first | simpa using g | (simp at g; exact g) | (simp at g; omega)
     clear g
     replace h := if_r g3 h
     simp [-guardE_b, -Is_at, -Is_at', -Ls_at, -Ls_at', eL, eI, allInts, eP_Cat, eP_Fn, eP_Mnd, Cat.cells, Fn.cells, Mnd.cells]
     repeat (with_reducible refine And.intro ?_ ?_; · first | assumption | omega | (simp; done) | (simp; omega) | simp_all)
     replace h := bind_some h
     obtain ⟨v4, hv4, h⟩ := h
     refine callA_intro (w_s_l02Same _ _ v4 hv4) (.cons (.aggL (.cons .val (.cons .lst (.cons .lst (.cons .lst (.cons .lst .nil)))))) (.cons (.aggL (.cons .val (.cons .lst (.cons .lst (.cons .lst (.cons .lst .nil)))))) .nil)) ?_
     simp [-guardE_b, -Is_at, -Is_at', -Ls_at, -Ls_at', unk, unA, unE, unT, unC, flat, eL, eI, allInts, eP_Cat, eP_Fn, eP_Mnd, Cat.cells, Fn.cells, Mnd.cells]
     repeat (with_reducible refine And.intro ?_ ?_; · first | assumption | omega | (simp; done) | (simp; omega) | simp_all)
     refine hK _ ?_
     exact jn (b := !v4) (Option.some.inj h) (Wk.r1 [(0, 0), (1, 1)] (by simp [hP, hhOk, back, Cat.cells, Fn.cells, Mnd.cells, IA, I1, LA, L1, BA, B1, EA, E1, E2, eB, eI, eL]))
   have g3 : ¬ (v2 = true) := by first | simpa using g | (simp at g; exact g) | (simp at g; omega)
   clear g
   replace h := if_l g3 h
   simp [-guardE_b, -Is_at, -Is_at', -Ls_at, -Ls_at', eL, eI, allInts, eP_Cat, eP_Fn, eP_Mnd, Cat.cells, Fn.cells, Mnd.cells]
   repeat (with_reducible refine And.intro ?_ ?_; · first | assumption | omega | (simp; done) | (simp; omega) | simp_all)
   refine hK _ ?_
   exact jn (b := true) (Option.some.inj h) (Wk.r1 [(0, 0), (1, 1)] (by simp [hP, hhOk, back, Cat.cells, Fn.cells, Mnd.cells, IA, I1, LA, L1, BA, B1, EA, E1, E2, eB, eI, eL]))
 intro b1 hb1
 have h := h1
 rw [← hb1] at h
 clear h1
 try dsimp only at h
 refine w_cond rfl (fun g => ?_) fun g => ?_
 · have g5 : b1 = true := by first | simpa using g | (simp at g; exact g) | (simp at g; omega)
   clear g
   replace h := if_l g5 h
   refine w_seq ?_
   refine w_run mo (by rw [hN]; decide) fun K hK => ?_
   simp [-guardE_b, -Is_at, -Is_at', -Ls_at, -Ls_at', eL, eI, allInts, eP_Cat, eP_Fn, eP_Mnd, Cat.cells, Fn.cells, Mnd.cells]
   repeat (with_reducible refine And.intro ?_ ?_; · first | assumption | omega | (simp; done) | (simp; omega) | simp_all)
   refine hK _ ?_
   clear hK K
   refine tn ?_
   refine w_weak (st' := ⟨[(2, .val (.bool false))], [], 0⟩) (Wk.r1 [] (by simp [hP, hhOk, back, Cat.cells, Fn.cells, Mnd.cells, IA, I1, LA, L1, BA, B1, EA, E1, E2, eB, eI, eL])) ?_
   refine w_ret ?_
   refine tr ?_
   have hr := Option.some.inj h
   rw [← hr]
   refine ⟨_, (.tmp .nil), ?_⟩
   refine ⟨(.one rfl rfl .nil), [.val (.bool false)], [], by simp [Cat.cells, Fn.cells, Mnd.cells, IA, I1, LA, L1, BA, B1, EA, E1, E2, eB, eI, eL], by simp, (UpL.refl _)⟩
 have g5 : ¬ (b1 = true) := by first | simpa using g | (simp at g; exact g) | (simp at g; omega)
 clear g
 replace h := if_r g5 h
 refine w_skip ?_
 refine tn ?_
 refine w_seq ?_
 refine w_seq ?_
 replace h := bind_some h
 obtain ⟨e6, h, h6⟩ := h
 refine w_joinT (fun b6 : Bool => ⟨[(1, .adr 0 0 0), (3, .adr 1 0 0), (33, .val (.bool b6))], [(0, .mix 14 [(Mnd.cells true m_)]), (1, .mix 12 [(Fn.cells true m_.f)])], 2⟩) (fun b6 => b6 = e6) ?_ ?_
 · refine w_run mo (by rw [hN]; decide) fun K hK => ?_
   simp [-guardE_b, -Is_at, -Is_at', -Ls_at, -Ls_at', eL, eI, allInts, eP_Cat, eP_Fn, eP_Mnd, Cat.cells, Fn.cells, Mnd.cells]
   repeat (with_reducible refine And.intro ?_ ?_; · first | assumption | omega | (simp; done) | (simp; omega) | simp_all)
   replace h := bind_some h
   obtain ⟨v7, hv7, h⟩ := h
   refine callA_intro (w_s_l06Self _ v7 hv7) (.cons (.aggL (.cons .val (.cons .lst (.cons .lst (.cons .lst (.cons .lst .nil)))))) .nil) ?_
   simp [-guardE_b, -Is_at, -Is_at', -Ls_at, -Ls_at', unk, unA, unE, unT, unC, flat, eL, eI, allInts, eP_Cat, eP_Fn, eP_Mnd, Cat.cells, Fn.cells, Mnd.cells]
   repeat (with_reducible refine And.intro ?_ ?_; · first | assumption | omega | (simp; done) | (simp; omega) | simp_all)
   replace h := bind_some h
   obtain ⟨v8, hv8, h⟩ := h
   refine callA_intro (w_s_l15Natural _ _ _ v8 hv8) (.cons (.aggL (.cons .val (.cons (.whole (by simp) (by simp) (by simp)) (.cons (.whole (by simp) (by simp) (by simp)) (.cons (.whole (by simp) (by simp) (by simp)) (.cons (.whole (by simp) (by simp) (by simp)) (.cons .val (.cons (.whole (by simp) (by simp) (by simp)) (.cons (.whole (by simp) (by simp) (by simp)) (.cons (.whole (by simp) (by simp) (by simp)) (.cons (.whole (by simp) (by simp) (by simp)) (.cons (.whole (by simp) (by simp) (by simp)) (.cons (.whole (by simp) (by simp) (by simp)) .nil))))))))))))) (.cons (.aggL (.cons .val (.cons .lst (.cons .lst (.cons .lst (.cons .lst (.cons .val (.cons .lst (.cons .lst (.cons .lst (.cons .lst (.cons .lst (.cons .lst .nil))))))))))))) (.cons .lst .nil))) ?_
   simp [-guardE_b, -Is_at, -Is_at', -Ls_at, -Ls_at', unk, unA, unE, unT, unC, flat, eL, eI, allInts, eP_Cat, eP_Fn, eP_Mnd, Cat.cells, Fn.cells, Mnd.cells]
   repeat (with_reducible refine And.intro ?_ ?_; · first | assumption | omega | (simp; done) | (simp; omega) | simp_all)
   refine guard_intro (fun g => ?_) (fun g => ?_)
   · have g9 : ¬ (¬ (v8 = true)) := by first | simpa using g | (simp at g; exact g) | (simp at g; omega)
     clear g
     replace h := if_r g9 h
     simp [-guardE_b, -Is_at, -Is_at', -Ls_at, -Ls_at', eL, eI, allInts, eP_Cat, eP_Fn, eP_Mnd, Cat.cells, Fn.cells, Mnd.cells]
     repeat (with_reducible refine And.intro ?_ ?_; · first | assumption | omega | (simp; done) | (simp; omega) | simp_all)
     replace h := bind_some h
     obtain ⟨v10, hv10, h⟩ := h
     refine callA_intro (w_s_l16Twice _ v10 hv10) (.cons (.aggL (.cons .val (.cons .lst (.cons .lst (.cons .lst (.cons .lst (.cons .val (.cons .lst (.cons .lst (.cons .lst (.cons .lst (.cons .lst (.cons .lst .nil))))))))))))) .nil) ?_
     simp [-guardE_b, -Is_at, -Is_at', -Ls_at, -Ls_at', unk, unA, unE, unT, unC, flat, eL, eI, allInts, eP_Cat, eP_Fn, eP_Mnd, Cat.cells, Fn.cells, Mnd.cells]
     repeat (with_reducible refine And.intro ?_ ?_; · first | assumption | omega | (simp; done) | (simp; omega) | simp_all)
     replace h := bind_some h
     obtain ⟨v11, hv11, h⟩ := h
     refine callA_intro (w_s_l15Natural _ _ _ v11 hv11) (.cons (.aggL (.cons .val (.cons (.whole (by simp) (by simp) (by simp)) (.cons (.whole (by simp) (by simp) (by simp)) (.cons (.whole (by simp) (by simp) (by simp)) (.cons (.whole (by simp) (by simp) (by simp)) (.cons .val (.cons (.whole (by simp) (by simp) (by simp)) (.cons (.whole (by simp) (by simp) (by simp)) (.cons (.whole (by simp) (by simp) (by simp)) (.cons (.whole (by simp) (by simp) (by simp)) (.cons (.whole (by simp) (by simp) (by simp)) (.cons (.whole (by simp) (by simp) (by simp)) .nil))))))))))))) (.cons (.aggL (.cons .val (.cons .lst (.cons .lst (.cons .lst (.cons .lst (.cons .val (.cons .lst (.cons .lst (.cons .lst (.cons .lst (.cons .lst (.cons .lst .nil))))))))))))) (.cons .lst .nil))) ?_
     simp [-guardE_b, -Is_at, -Is_at', -Ls_at, -Ls_at', unk, unA, unE, unT, unC, flat, eL, eI, allInts, eP_Cat, eP_Fn, eP_Mnd, Cat.cells, Fn.cells, Mnd.cells]
     repeat (with_reducible refine And.intro ?_ ?_; · first | assumption | omega | (simp; done) | (simp; omega) | simp_all)
     refine hK _ ?_
     exact jn (b := !v11) (Option.some.inj h) (Wk.r1 [(0, 0), (1, 1)] (by simp [hP, hhOk, back, Cat.cells, Fn.cells, Mnd.cells, IA, I1, LA, L1, BA, B1, EA, E1, E2, eB, eI, eL]))
   have g9 : ¬ (v8 = true) := by first | simpa using g | (simp at g; exact g) | (simp at g; omega)
   clear g
   replace h := if_l g9 h
   simp [-guardE_b, -Is_at, -Is_at', -Ls_at, -Ls_at', eL, eI, allInts, eP_Cat, eP_Fn, eP_Mnd, Cat.cells, Fn.cells, Mnd.cells]
   repeat (with_reducible refine And.intro ?_ ?_; · first | assumption | omega | (simp; done) | (simp; omega) | simp_all)
   refine hK _ ?_
   exact jn (b := true) (Option.some.inj h) (Wk.r1 [(0, 0), (1, 1)] (by simp [hP, hhOk, back, Cat.cells, Fn.cells, Mnd.cells, IA, I1, LA, L1, BA, B1, EA, E1, E2, eB, eI, eL]))
 intro b6 hb6
 have h := h6
 rw [← hb6] at h
 clear h6
 try dsimp only at h
 refine w_cond rfl (fun g => ?_) fun g => ?_
 · have g12 : b6 = true := by first | simpa using g | (simp at g; exact g) | (simp at g; omega)
   clear g
   replace h := if_l g12 h
   refine w_seq ?_
   refine w_run mo (by rw [hN]; decide) fun K hK => ?_
   simp [-guardE_b, -Is_at, -Is_at', -Ls_at, -Ls_at', eL, eI, allInts, eP_Cat, eP_Fn, eP_Mnd, Cat.cells, Fn.cells, Mnd.cells]
   repeat (with_reducible refine And.intro ?_ ?_; · first | assumption | omega | (simp; done) | (simp; omega) | simp_all)
   refine hK _ ?_
   clear hK K
   refine tn ?_
   refine w_weak (st' := ⟨[(2, .val (.bool false))], [], 0⟩) (Wk.r1 [] (by simp [hP, hhOk, back, Cat.cells, Fn.cells, Mnd.cells, IA, I1, LA, L1, BA, B1, EA, E1, E2, eB, eI, eL])) ?_
   refine w_ret ?_
   refine tr ?_
   have hr := Option.some.inj h
   rw [← hr]
   refine ⟨_, (.tmp .nil), ?_⟩
   refine ⟨(.one rfl rfl .nil), [.val (.bool false)], [], by simp [Cat.cells, Fn.cells, Mnd.cells, IA, I1, LA, L1, BA, B1, EA, E1, E2, eB, eI, eL], by simp, (UpL.refl _)⟩
 have g12 : ¬ (b6 = true) := by first | simpa using g | (simp at g; exact g) | (simp at g; omega)
 clear g
 replace h := if_r g12 h
 refine w_skip ?_
 refine tn ?_
 refine w_seq ?_
 refine w_run mo (by rw [hN]; decide) fun K hK => ?_
 simp [-guardE_b, -Is_at, -Is_at', -Ls_at, -Ls_at', eL, eI, allInts, eP_Cat, eP_Fn, eP_Mnd, Cat.cells, Fn.cells, Mnd.cells]
 repeat (with_reducible refine And.intro ?_ ?_; · first | assumption | omega | (simp; done) | (simp; omega) | simp_all)
 replace h := bind_some h
 obtain ⟨v13, hv13, h⟩ := h
 refine callA_intro (w_s_l16Laws _ _ _ v13 hv13) (.cons (.aggL (.cons .val (.cons .lst (.cons .lst (.cons .lst (.cons .lst (.cons .val (.cons .lst (.cons .lst (.cons .lst (.cons .lst (.cons .lst (.cons .lst .nil))))))))))))) (.cons .lst (.cons .lst .nil))) ?_
 simp [-guardE_b, -Is_at, -Is_at', -Ls_at, -Ls_at', unk, unA, unE, unT, unC, flat, eL, eI, allInts, eP_Cat, eP_Fn, eP_Mnd, Cat.cells, Fn.cells, Mnd.cells]
 repeat (with_reducible refine And.intro ?_ ?_; · first | assumption | omega | (simp; done) | (simp; omega) | simp_all)
 refine hK _ ?_
 clear hK K
 refine tn ?_
 refine w_weak (st' := ⟨[(2, .val (.bool v13))], [], 0⟩) (Wk.r1 [] (by simp [hP, hhOk, back, Cat.cells, Fn.cells, Mnd.cells, IA, I1, LA, L1, BA, B1, EA, E1, E2, eB, eI, eL])) ?_
 refine w_ret ?_
 have hr := Option.some.inj h
 rw [← hr]
 refine ⟨_, (.tmp .nil), ?_⟩
 refine ⟨(.one rfl rfl .nil), [.val (.bool v13)], [], by simp [Cat.cells, Fn.cells, Mnd.cells, IA, I1, LA, L1, BA, B1, EA, E1, E2, eB, eI, eL], by simp, (UpL.refl _)⟩
end Go.Vc.T

set_option maxRecDepth 100000
set_option linter.unusedSimpArgs false
set_option linter.unusedVariables false
namespace Go.Vc.T
open Go Go.Vc Go.Proofs
structure Mnd.Pre (m : Mnd) : Prop where
 f : m.f.Is
 e : m.f.s = m.f.t
 n1 : NatT (selfF m.f.s) m.f m.u
 n2 : NatT (thenF m.f m.f) m.f m.j
structure Mnd.Is (m : Mnd) : Prop where
 pre : m.Pre
 l1 : ∀ x : Nat, x < m.f.ob.length → ix (rx m.f.s.cs (ix m.f.ar (ix m.u x))) (ix m.j x) = ix m.f.s.id (ix m.f.ob x) ∧ ix (rx m.f.s.cs (ix m.u (ix m.f.ob x))) (ix m.j x) = ix m.f.s.id (ix m.f.ob x)
 l2 : ∀ x : Nat, x < m.f.ob.length → ix (rx m.f.s.cs (ix m.f.ar (ix m.j x))) (ix m.j x) = ix (rx m.f.s.cs (ix m.j (ix m.f.ob x))) (ix m.j x)
theorem Mnd.Pre.len {m : Mnd} (h : m.Pre) : m.u.length = m.f.ob.length ∧ m.j.length = m.f.ob.length ∧ (m.f.ob.length : Int) = m.f.s.n ∧ m.f.ar.length = m.f.s.fr.length ∧ (m.f.s.id.length : Int) = m.f.s.n ∧ m.f.s.cs.length = m.f.s.fr.length ∧ m.f.s.to.length = m.f.s.fr.length ∧ m.f.s.fr.length ≤ 40 ∧ m.f.ob.length ≤ 8 := by
 have h1 := h.n1.lp
 have h2 := h.n2.lp
 have h3 := h.f.lo
 have h5 := h.f.la
 have h6 := h.f.s.1.li
 simp only [selfF, thenF, iota_length, thenL_length] at h1 h2
 exact ⟨by omega, by omega, h3, h5, h6, h.f.s.1.lc, h.f.s.1.lt, h.f.s.1.m40, h.f.lob⟩
theorem Mnd.Pre.ob {m : Mnd} (h : m.Pre) {x : Int} (h0 : 0 ≤ x) (h1 : x < m.f.ob.length) : 0 ≤ ix m.f.ob x ∧ ix m.f.ob x < m.f.ob.length := by
 have := ix_bnd h.f.ob h0 h1
 rw [← h.e, ← h.f.lo] at this
 exact this
theorem Mnd.Pre.ar {m : Mnd} (h : m.Pre) {f : Int} (h0 : 0 ≤ f) (h1 : f < m.f.s.fr.length) : (0 ≤ ix m.f.ar f ∧ ix m.f.ar f < m.f.s.fr.length) ∧ ix m.f.s.fr (ix m.f.ar f) = ix m.f.ob (ix m.f.s.fr f) ∧ ix m.f.s.to (ix m.f.ar f) = ix m.f.ob (ix m.f.s.to f) := by
 have hla := h.f.la
 have q1 := h.f.ar
 have q2 := h.f.ends
 rw [← h.e] at q1 q2
 obtain ⟨i, rfl⟩ : ∃ i : Nat, f = i := ⟨f.toNat, by omega⟩
 exact ⟨q1 i (by omega), q2 i (by omega)⟩
theorem Mnd.Pre.unit {m : Mnd} (h : m.Pre) {x : Int} (h0 : 0 ≤ x) (h1 : x < m.f.ob.length) : (0 ≤ ix m.u x ∧ ix m.u x < m.f.s.fr.length) ∧ ix m.f.s.fr (ix m.u x) = x ∧ ix m.f.s.to (ix m.u x) = ix m.f.ob x := by
 obtain ⟨l1, l2, l3, l4, l5, l6, l7, l8, l9⟩ := h.len
 obtain ⟨i, rfl⟩ : ∃ i : Nat, x = i := ⟨x.toNat, by omega⟩
 have q1 := h.n1.bd i (by omega)
 have q2 := h.n1.ends i (by omega)
 simp only [selfF] at q1 q2
 rw [ix_iota _ (by omega) (by omega)] at q2
 exact ⟨q1, q2⟩
theorem Mnd.Pre.join {m : Mnd} (h : m.Pre) {x : Int} (h0 : 0 ≤ x) (h1 : x < m.f.ob.length) : (0 ≤ ix m.j x ∧ ix m.j x < m.f.s.fr.length) ∧ ix m.f.s.fr (ix m.j x) = ix m.f.ob (ix m.f.ob x) ∧ ix m.f.s.to (ix m.j x) = ix m.f.ob x := by
 obtain ⟨l1, l2, l3, l4, l5, l6, l7, l8, l9⟩ := h.len
 obtain ⟨i, rfl⟩ : ∃ i : Nat, x = i := ⟨x.toNat, by omega⟩
 have q1 := h.n2.bd i (by omega)
 have q2 := h.n2.ends i (by omega)
 simp only [thenF] at q1 q2
 rw [← h.e] at q1 q2
 rw [ix_thenL _ _ (by omega) (by omega)] at q2
 exact ⟨q1, q2⟩
theorem Cat.Is.two {c : Cat} (h : c.Is) {f g : Int} (f0 : 0 ≤ f ∧ f < c.fr.length) (g0 : 0 ≤ g ∧ g < c.fr.length) (e : ix c.to f = ix c.fr g) : (0 ≤ ix (rx c.cs f) g ∧ ix (rx c.cs f) g < c.fr.length) ∧ ix c.fr (ix (rx c.cs f) g) = ix c.fr f ∧ ix c.to (ix (rx c.cs f) g) = ix c.to g := by
 have := (h.1.cell' f0.1 f0.2 g0.1 g0.2).2 e
 exact ⟨⟨this.1, this.2.1⟩, this.2.2⟩
theorem e_Then {c : Cat} (h : c.Is) {f g : Int} (f0 : 0 ≤ f ∧ f < c.fr.length) (g0 : 0 ≤ g ∧ g < c.fr.length) : s_s_l02Then c f g = some (ix (rx c.cs f) g) ∧ s_i_Category_then c f g = some (ix (rx c.cs f) g) := by
 have h1 := h.1.lc
 have h2 := h.1.row' f0.1 f0.2
 exact ⟨e_l02Then (by omega) (by omega), e_Cthen (by omega) (by omega)⟩
theorem e_UnitAt {c : Cat} (h : c.Is) {f x : Int} (f0 : 0 ≤ f ∧ f < c.fr.length) (e : ix c.fr f = x) : s_s_l02Unit c f = some (bo (f = ix c.id x)) := by rw [e_l02Unit h f0.1 f0.2, e]
theorem mpara1 {f : Fn} (h : f.Is) (e : f.s = f.t) : Para (selfF f.s) f := ⟨self_is h.s, h, rfl, by simp [selfF, e]⟩
theorem mpara2 {f : Fn} (h : f.Is) (e : f.s = f.t) : Para (thenF f f) f := ⟨then_is h h e.symm, h, rfl, by simp [thenF]⟩
structure Mnd.At (m : Mnd) (x : Int) : Prop where
 o : 0 ≤ ix m.f.ob x ∧ ix m.f.ob x < m.f.ob.length
 u : 0 ≤ ix m.u x ∧ ix m.u x < m.f.s.fr.length
 j : 0 ≤ ix m.j x ∧ ix m.j x < m.f.s.fr.length
 au : 0 ≤ ix m.f.ar (ix m.u x) ∧ ix m.f.ar (ix m.u x) < m.f.s.fr.length
 uo : 0 ≤ ix m.u (ix m.f.ob x) ∧ ix m.u (ix m.f.ob x) < m.f.s.fr.length
 aj : 0 ≤ ix m.f.ar (ix m.j x) ∧ ix m.f.ar (ix m.j x) < m.f.s.fr.length
 jo : 0 ≤ ix m.j (ix m.f.ob x) ∧ ix m.j (ix m.f.ob x) < m.f.s.fr.length
 c1 : (0 ≤ ix (rx m.f.s.cs (ix m.f.ar (ix m.u x))) (ix m.j x) ∧ ix (rx m.f.s.cs (ix m.f.ar (ix m.u x))) (ix m.j x) < m.f.s.fr.length) ∧ ix m.f.s.fr (ix (rx m.f.s.cs (ix m.f.ar (ix m.u x))) (ix m.j x)) = ix m.f.ob x
 c2 : (0 ≤ ix (rx m.f.s.cs (ix m.u (ix m.f.ob x))) (ix m.j x) ∧ ix (rx m.f.s.cs (ix m.u (ix m.f.ob x))) (ix m.j x) < m.f.s.fr.length) ∧ ix m.f.s.fr (ix (rx m.f.s.cs (ix m.u (ix m.f.ob x))) (ix m.j x)) = ix m.f.ob x
theorem Mnd.Pre.at {m : Mnd} (h : m.Pre) {x : Int} (h0 : 0 ≤ x) (h1 : x < m.f.ob.length) : m.At x := by
 have o := h.ob h0 h1
 obtain ⟨u1, u2, u3⟩ := h.unit h0 h1
 obtain ⟨j1, j2, j3⟩ := h.join h0 h1
 obtain ⟨a1, a2, a3⟩ := h.ar u1.1 u1.2
 obtain ⟨v1, v2, v3⟩ := h.unit o.1 o.2
 obtain ⟨b1, b2, b3⟩ := h.ar j1.1 j1.2
 obtain ⟨k1, k2, k3⟩ := h.join o.1 o.2
 have c1 := h.f.s.two a1 j1 (by rw [a3, u3, j2])
 have c2 := h.f.s.two v1 j1 (by rw [v3, j2])
 exact ⟨o, u1, j1, a1, v1, b1, k1, ⟨c1.1, by rw [c1.2.1, a2, u2]⟩, c2.1, by rw [c2.2.1, v2]⟩
theorem e_l16Laws {m : Mnd} (h : m.Pre) : s_s_l16Laws m.f m.u m.j = some (bo m.Is) := by
 obtain ⟨l1, l2, l3, l4, l5, l6, l7, l8, l9⟩ := h.len
 have hc := h.f.s
 unfold s_s_l16Laws
 refine chk_bind m.f.ob.length (fun x : Nat => (ix (rx m.f.s.cs (ix m.f.ar (ix m.u x))) (ix m.j x) = ix m.f.s.id (ix m.f.ob x) ∧ ix (rx m.f.s.cs (ix m.u (ix m.f.ob x))) (ix m.j x) = ix m.f.s.id (ix m.f.ob x)) ∧ ix (rx m.f.s.cs (ix m.f.ar (ix m.j x))) (ix m.j x) = ix (rx m.f.s.cs (ix m.j (ix m.f.ob x))) (ix m.j x)) (eb := Sum.inr false) (eg := Sum.inl ()) (by omega) (fun x hi hq => ?_) (fun x hi hq => ?_) (by simp; try omega) (fun hx => ?_) fun q => ?_
 · have a := h.at (x := x) (by omega) (by omega)
   obtain ⟨a1, a2, a3, a4, a5, a6, a7, a8, a9⟩ := a
   simp (disch := omega) only [ass_pos, (e_Then hc a4 a3).1, (e_Then hc a5 a3).1, (e_Then hc a6 a3).1, (e_Then hc a7 a3).1, e_UnitAt hc a8.1 a8.2, e_UnitAt hc a9.1 a9.2, Option.bind_some]
   simp (disch := omega) [ass_pos, B64, hq.1.1, hq.1.2, hq.2, bo]; try omega
 · have a := h.at (x := x) (by omega) (by omega)
   obtain ⟨a1, a2, a3, a4, a5, a6, a7, a8, a9⟩ := a
   by_cases q1 : ix (rx m.f.s.cs (ix m.f.ar (ix m.u x))) (ix m.j x) = ix m.f.s.id (ix m.f.ob x)
   case neg =>
     simp (disch := omega) only [ass_pos, (e_Then hc a4 a3).1, (e_Then hc a5 a3).1, (e_Then hc a6 a3).1, (e_Then hc a7 a3).1, e_UnitAt hc a8.1 a8.2, e_UnitAt hc a9.1 a9.2, Option.bind_some]
     simp (disch := omega) [ass_pos, B64, q1, bo]; try omega
   by_cases q2 : ix (rx m.f.s.cs (ix m.u (ix m.f.ob x))) (ix m.j x) = ix m.f.s.id (ix m.f.ob x)
   case neg =>
     simp (disch := omega) only [ass_pos, (e_Then hc a4 a3).1, (e_Then hc a5 a3).1, (e_Then hc a6 a3).1, (e_Then hc a7 a3).1, e_UnitAt hc a8.1 a8.2, e_UnitAt hc a9.1 a9.2, Option.bind_some]
     simp (disch := omega) [ass_pos, B64, q1, q2, bo]; try omega
   have q3 : ¬ ix (rx m.f.s.cs (ix m.f.ar (ix m.j x))) (ix m.j x) = ix (rx m.f.s.cs (ix m.j (ix m.f.ob x))) (ix m.j x) := fun q => hq ⟨⟨q1, q2⟩, q⟩
   simp (disch := omega) only [ass_pos, (e_Then hc a4 a3).1, (e_Then hc a5 a3).1, (e_Then hc a6 a3).1, (e_Then hc a7 a3).1, e_UnitAt hc a8.1 a8.2, e_UnitAt hc a9.1 a9.2, Option.bind_some]
   simp (disch := omega) [ass_pos, B64, q1, q2, q3, bo]; try omega
 · rw [bo_neg (show ¬ m.Is from fun q => hx fun x hi => ⟨q.l1 x hi, q.l2 x hi⟩)]
 rw [bo_pos (show m.Is from ⟨h, fun x hi => (q x hi).1, fun x hi => (q x hi).2⟩)]
theorem e_isLawful {m : Mnd} (h : m.Pre) : s_i_Monad_isLawful m = some (bo m.Is) := by
 obtain ⟨l1, l2, l3, l4, l5, l6, l7, l8, l9⟩ := h.len
 have hc := h.f.s
 unfold s_i_Monad_isLawful s_i_Monad_object s_i_Monad_arrow
 refine chk_bind m.f.ob.length (fun x : Nat => (ix (rx m.f.s.cs (ix m.f.ar (ix m.u x))) (ix m.j x) = ix m.f.s.id (ix m.f.ob x) ∧ ix (rx m.f.s.cs (ix m.u (ix m.f.ob x))) (ix m.j x) = ix m.f.s.id (ix m.f.ob x)) ∧ ix (rx m.f.s.cs (ix m.f.ar (ix m.j x))) (ix m.j x) = ix (rx m.f.s.cs (ix m.j (ix m.f.ob x))) (ix m.j x)) (eb := Sum.inr false) (eg := Sum.inl ()) (by omega) (fun x hi hq => ?_) (fun x hi hq => ?_) (by simp; try omega) (fun hx => ?_) fun q => ?_
 · have a := h.at (x := x) (by omega) (by omega)
   obtain ⟨a1, a2, a3, a4, a5, a6, a7, a8, a9⟩ := a
   simp (disch := omega) [ass_pos, B64, (e_Then hc a4 a3).2, (e_Then hc a5 a3).2, (e_Then hc a6 a3).2, (e_Then hc a7 a3).2, hq.1.1, hq.1.2, hq.2]; try omega
 · have a := h.at (x := x) (by omega) (by omega)
   obtain ⟨a1, a2, a3, a4, a5, a6, a7, a8, a9⟩ := a
   by_cases q1 : ix (rx m.f.s.cs (ix m.f.ar (ix m.u x))) (ix m.j x) = ix m.f.s.id (ix m.f.ob x)
   case neg => simp (disch := omega) [ass_pos, B64, (e_Then hc a4 a3).2, (e_Then hc a5 a3).2, (e_Then hc a6 a3).2, (e_Then hc a7 a3).2, q1]; try omega
   by_cases q2 : ix (rx m.f.s.cs (ix m.u (ix m.f.ob x))) (ix m.j x) = ix m.f.s.id (ix m.f.ob x)
   case neg => simp (disch := omega) [ass_pos, B64, (e_Then hc a4 a3).2, (e_Then hc a5 a3).2, (e_Then hc a6 a3).2, (e_Then hc a7 a3).2, q1, q2]; try omega
   have q3 : ¬ ix (rx m.f.s.cs (ix m.f.ar (ix m.j x))) (ix m.j x) = ix (rx m.f.s.cs (ix m.j (ix m.f.ob x))) (ix m.j x) := fun q => hq ⟨⟨q1, q2⟩, q⟩
   simp (disch := omega) [ass_pos, B64, (e_Then hc a4 a3).2, (e_Then hc a5 a3).2, (e_Then hc a6 a3).2, (e_Then hc a7 a3).2, q1, q2, q3]; try omega
 · rw [bo_neg (show ¬ m.Is from fun q => hx fun x hi => ⟨q.l1 x hi, q.l2 x hi⟩)]
 rw [bo_pos (show m.Is from ⟨h, fun x hi => (q x hi).1, fun x hi => (q x hi).2⟩)]
theorem e_l16Is (m : Mnd) : s_s_l16Is m = some (bo m.Is) := by
 unfold s_s_l16Is s_s_l02Same s_s_l16Twice
 rw [e_l06Is]
 by_cases h : m.f.Is
 case neg => rw [bo_neg h, bo_neg (show ¬ m.Is from fun q => h q.pre.f)]; simp
 by_cases e : m.f.s = m.f.t
 case neg => rw [bo_pos h, bo_neg e, bo_neg (show ¬ m.Is from fun q => e q.pre.e)]; simp
 simp only [bo_pos h, bo_pos e, Option.bind_some, not_true_eq_false, if_false, Bool.not_true, Bool.false_eq_true, e_l06Self h.s, e_l06Then h h e.symm, e_l15Natural (mpara1 h e), e_l15Natural (mpara2 h e)]
 by_cases n1 : NatT (selfF m.f.s) m.f m.u
 case neg => rw [bo_neg n1, bo_neg (show ¬ m.Is from fun q => n1 q.pre.n1)]; simp
 by_cases n2 : NatT (thenF m.f m.f) m.f m.j
 case neg => rw [bo_pos n1, bo_neg n2, bo_neg (show ¬ m.Is from fun q => n2 q.pre.n2)]; simp
 simp [bo_pos n1, bo_pos n2, e_l16Laws (m := m) ⟨h, e, n1, n2⟩]
theorem e_isMonad (m : Mnd) : s_i_Monad_isMonad m = some (bo m.Is) := by
 unfold s_i_Monad_isMonad
 rw [e_isFunctor]
 by_cases h : m.f.Is
 case neg => rw [bo_neg h, bo_neg (show ¬ m.Is from fun q => h q.pre.f)]; simp
 rw [e_sameCat h.s]
 by_cases e : m.f.s = m.f.t
 case neg => rw [bo_pos h, bo_neg e, bo_neg (show ¬ m.Is from fun q => e q.pre.e)]; simp
 simp only [bo_pos h, bo_pos e, Option.bind_some, not_true_eq_false, if_false, Bool.not_true, Bool.false_eq_true, e_identity h.s, e_Fthen h h e.symm]
 rw [e_areNatural _ (by simp)]
 by_cases hn : NatT (selfF m.f.s) m.f m.u ∧ NatT (thenF m.f m.f) m.f m.j
 case neg =>
   rw [bo_neg (show ¬ m.Is from fun q => hn ⟨q.pre.n1, q.pre.n2⟩), bo_neg (show ¬ ∀ t ∈ [(⟨selfF m.f.s, m.f, m.u⟩ : Tra), ⟨thenF m.f m.f, m.f, m.j⟩], t.Is from fun q => hn ⟨(tra_is (mpara1 h e)).1 (q _ (by simp)), (tra_is (mpara2 h e)).1 (q _ (by simp))⟩)]
   simp
 obtain ⟨n1, n2⟩ := hn
 rw [bo_pos (show ∀ t ∈ [(⟨selfF m.f.s, m.f, m.u⟩ : Tra), ⟨thenF m.f m.f, m.f, m.j⟩], t.Is by
   intro t ht
   simp only [List.mem_cons, List.not_mem_nil, or_false] at ht
   rcases ht with rfl | rfl
   · exact (tra_is (mpara1 h e)).2 n1
   exact (tra_is (mpara2 h e)).2 n2)]
 simp [e_isLawful (m := m) ⟨h, e, n1, n2⟩]
end Go.Vc.T

set_option maxRecDepth 100000
set_option linter.unusedSimpArgs false
set_option linter.unusedVariables false
namespace Go.Vc.T
open Go Go.Vc Go.Proofs
abbrev Ar (c : Cat) (f x y : Int) : Prop := (0 ≤ f ∧ f < (c.fr.length : Int)) ∧ ix c.fr f = x ∧ ix c.to f = y
theorem Ar.two {c : Cat} (hc : c.Is) {f g x y z : Int} (h1 : Ar c f x y) (h2 : Ar c g y z) : Ar c (ix (rx c.cs f) g) x z := by
 have := hc.two h1.1 h2.1 (by rw [h1.2.2, h2.2.1])
 exact ⟨this.1, by rw [this.2.1, h1.2.1], by rw [this.2.2, h2.2.2]⟩
theorem Ar.thn {c : Cat} (hc : c.Is) {f g x y z : Int} (h1 : Ar c f x y) (h2 : Ar c g y z) : s_s_l02Then c f g = some (ix (rx c.cs f) g) ∧ s_i_Category_then c f g = some (ix (rx c.cs f) g) := e_Then hc h1.1 h2.1
theorem Mnd.Pre.Au {m : Mnd} (h : m.Pre) {c : Cat} (e : m.f.s = c) {x : Int} (hx : 0 ≤ x ∧ x < (m.f.ob.length : Int)) : Ar c (ix m.u x) x (ix m.f.ob x) := by subst e; exact h.unit hx.1 hx.2
theorem Mnd.Pre.Aj {m : Mnd} (h : m.Pre) {c : Cat} (e : m.f.s = c) {x : Int} (hx : 0 ≤ x ∧ x < (m.f.ob.length : Int)) : Ar c (ix m.j x) (ix m.f.ob (ix m.f.ob x)) (ix m.f.ob x) := by subst e; exact h.join hx.1 hx.2
theorem Mnd.Pre.Aa {m : Mnd} (h : m.Pre) {c : Cat} (e : m.f.s = c) {f x y : Int} (hf : Ar c f x y) : Ar c (ix m.f.ar f) (ix m.f.ob x) (ix m.f.ob y) := by
 subst e
 have := h.ar hf.1.1 hf.1.2
 exact ⟨this.1, by rw [this.2.1, hf.2.1], by rw [this.2.2, hf.2.2]⟩
end Go.Vc.T

set_option maxRecDepth 100000
set_option linter.unusedSimpArgs false
set_option linter.unusedVariables false
namespace Go.Vc.T
open Go Go.Vc Go.Proofs
noncomputable def s_i_Monad_isAlgebra (m_ : Mnd) (x_ : Int) (h_ : Int) : Option Bool :=
 (
   (s_i_Category_ends m_.f.s h_).bind fun v2 =>
   (s_i_Monad_object m_ x_).bind fun v3 =>
   if v2.a = v3 ∧ v2.b = x_ then
     ass (0 ≤ x_ ∧ x_ < (m_.u.length : Int)) <|
     (s_i_Category_then m_.f.s (ix m_.u x_) h_).bind fun v6 =>
     ass (0 ≤ x_ ∧ x_ < (m_.f.s.id.length : Int)) <|
     if v6 = (ix m_.f.s.id x_) then
       (s_i_Monad_arrow m_ h_).bind fun v9 =>
       (s_i_Category_then m_.f.s v9 h_).bind fun v10 =>
       ass (0 ≤ x_ ∧ x_ < (m_.j.length : Int)) <|
       (s_i_Category_then m_.f.s (ix m_.j x_) h_).bind fun v12 =>
       some (v10 == v12)
     else
       some false
   else
     some false : Option (Bool)).bind fun b1 =>
 some b1
set_option maxHeartbeats 4000000 in
theorem w_i_Monad_isAlgebra (m_ : Mnd) (x_ : Int) (h_ : Int) (r : Bool) (h : s_i_Monad_isAlgebra m_ x_ h_ = some r) : Contract Try.prog 96 [.rptr (m_.cells true), .val (.int .i64 x_), .val (.int .i64 h_)] (.val (.bool r)) := by
 refine contract_introG (rvs := [.tmp 6]) (rs := [.val (.bool r)]) Try.func96 rfl rfl rfl rfl (by simp [Try.f96]) fun F hN hP => ?_
 unfold s_i_Monad_isAlgebra at h
 refine w_seq ?_
 refine w_run mo (by rw [hN]; decide) fun K hK => ?_
 simp [-guardE_b, -Is_at, -Is_at', -Ls_at, -Ls_at', eL, eI, allInts, eP_Cat, eP_Ends, eP_Mnd, Cat.cells, Ends.cells, Mnd.cells]
 repeat (with_reducible refine And.intro ?_ ?_; · first | assumption | omega | (simp; done) | (simp; omega) | simp_all)
 refine hK _ ?_
 clear hK K
 refine tn ?_
 refine w_weak (st' := ⟨[(0, .rptr (Mnd.cells true m_)), (1, .val (.int .i64 x_)), (2, .val (.int .i64 h_))], [], 0⟩) (Wk.r1 [] (by simp [hP, hhOk, back, Cat.cells, Ends.cells, Mnd.cells, IA, I1, LA, L1, BA, B1, EA, E1, E2, eB, eI, eL])) ?_
 refine w_seq ?_
 refine w_run mo (by rw [hN]; decide) fun K hK => ?_
 simp [-guardE_b, -Is_at, -Is_at', -Ls_at, -Ls_at', eL, eI, allInts, eP_Cat, eP_Ends, eP_Mnd, Cat.cells, Ends.cells, Mnd.cells]
 repeat (with_reducible refine And.intro ?_ ?_; · first | assumption | omega | (simp; done) | (simp; omega) | simp_all)
 refine hK _ ?_
 clear hK K
 refine tn ?_
 refine w_weak (st' := ⟨[(0, .rptr (Mnd.cells true m_)), (1, .val (.int .i64 x_)), (2, .val (.int .i64 h_)), (7, .rptr (Mnd.cells true m_))], [], 0⟩) (Wk.r1 [] (by simp [hP, hhOk, back, Cat.cells, Ends.cells, Mnd.cells, IA, I1, LA, L1, BA, B1, EA, E1, E2, eB, eI, eL])) ?_
 refine w_seq ?_
 replace h := bind_some h
 obtain ⟨e1, h, h1⟩ := h
 refine w_joinT (fun b1 : Bool => ⟨[(6, .val (.bool b1))], [], 0⟩) (fun b1 => b1 = e1) ?_ ?_
 · refine w_run mo (by rw [hN]; decide) fun K hK => ?_
   simp [-guardE_b, -Is_at, -Is_at', -Ls_at, -Ls_at', eL, eI, allInts, eP_Cat, eP_Ends, eP_Mnd, Cat.cells, Ends.cells, Mnd.cells]
   repeat (with_reducible refine And.intro ?_ ?_; · first | assumption | omega | (simp; done) | (simp; omega) | simp_all)
   replace h := bind_some h
   obtain ⟨v2, hv2, h⟩ := h
   refine callA_intro (w_i_Category_ends _ _ v2 hv2) (.cons (.preT (by simp [Cat.cells, Mnd.cells])) (.cons .val .nil)) ?_
   simp [-guardE_b, -Is_at, -Is_at', -Ls_at, -Ls_at', unk, unA, unE, unT, unC, flat, eL, eI, allInts, eP_Cat, eP_Ends, eP_Mnd, Cat.cells, Ends.cells, Mnd.cells]
   repeat (with_reducible refine And.intro ?_ ?_; · first | assumption | omega | (simp; done) | (simp; omega) | simp_all)
   replace h := bind_some h
   obtain ⟨v3, hv3, h⟩ := h
   refine callA_intro (w_i_Monad_object _ _ v3 hv3) (.cons (.preT (by simp [Cat.cells, Ends.cells, Mnd.cells])) (.cons .val .nil)) ?_
   simp [-guardE_b, -Is_at, -Is_at', -Ls_at, -Ls_at', unk, unA, unE, unT, unC, flat, eL, eI, allInts, eP_Cat, eP_Ends, eP_Mnd, Cat.cells, Ends.cells, Mnd.cells]
   repeat (with_reducible refine And.intro ?_ ?_; · first | assumption | omega | (simp; done) | (simp; omega) | simp_all)
   refine guard_intro (fun g => ?_) (fun g => ?_)
   · have g4 : v2.a = v3 ∧ v2.b = x_ := by first | simpa using g | (simp at g; exact g) | (simp at g; omega)
     clear g
     replace h := if_l g4 h
     replace h := ass_some h
     obtain ⟨a5, h⟩ := h
     simp [-guardE_b, -Is_at, -Is_at', -Ls_at, -Ls_at', eL, eI, allInts, eP_Cat, eP_Ends, eP_Mnd, Cat.cells, Ends.cells, Mnd.cells, at_I a5]
     repeat (with_reducible refine And.intro ?_ ?_; · first | assumption | omega | (simp; done) | (simp; omega) | simp_all)
     replace h := bind_some h
     obtain ⟨v6, hv6, h⟩ := h
     refine callA_intro (w_i_Category_then _ _ _ v6 hv6) (.cons (.preT (by simp [Cat.cells, Ends.cells, Mnd.cells])) (.cons .val (.cons .val .nil))) ?_
     replace h := ass_some h
     obtain ⟨a7, h⟩ := h
     simp [-guardE_b, -Is_at, -Is_at', -Ls_at, -Ls_at', unk, unA, unE, unT, unC, flat, eL, eI, allInts, eP_Cat, eP_Ends, eP_Mnd, Cat.cells, Ends.cells, Mnd.cells, at_I a7]
     repeat (with_reducible refine And.intro ?_ ?_; · first | assumption | omega | (simp; done) | (simp; omega) | simp_all)
     refine guard_intro (fun g => ?_) (fun g => ?_)
     · have g8 : v6 = (ix m_.f.s.id x_) := by first | simpa using g | (simp at g; exact g) | (simp at g; omega)
       clear g
       replace h := if_l g8 h
       simp [-guardE_b, -Is_at, -Is_at', -Ls_at, -Ls_at', eL, eI, allInts, eP_Cat, eP_Ends, eP_Mnd, Cat.cells, Ends.cells, Mnd.cells]
       repeat (with_reducible refine And.intro ?_ ?_; · first | assumption | omega | (simp; done) | (simp; omega) | simp_all)
       replace h := bind_some h
       obtain ⟨v9, hv9, h⟩ := h
       refine callA_intro (w_i_Monad_arrow _ _ v9 hv9) (.cons (.preT (by simp [Cat.cells, Ends.cells, Mnd.cells])) (.cons .val .nil)) ?_
       simp [-guardE_b, -Is_at, -Is_at', -Ls_at, -Ls_at', unk, unA, unE, unT, unC, flat, eL, eI, allInts, eP_Cat, eP_Ends, eP_Mnd, Cat.cells, Ends.cells, Mnd.cells]
       repeat (with_reducible refine And.intro ?_ ?_; · first | assumption | omega | (simp; done) | (simp; omega) | simp_all)
       replace h := bind_some h
       obtain ⟨v10, hv10, h⟩ := h
       refine callA_intro (w_i_Category_then _ _ _ v10 hv10) (.cons (.preT (by simp [Cat.cells, Ends.cells, Mnd.cells])) (.cons .val (.cons .val .nil))) ?_
       replace h := ass_some h
       obtain ⟨a11, h⟩ := h
       simp [-guardE_b, -Is_at, -Is_at', -Ls_at, -Ls_at', unk, unA, unE, unT, unC, flat, eL, eI, allInts, eP_Cat, eP_Ends, eP_Mnd, Cat.cells, Ends.cells, Mnd.cells, at_I a11]
       repeat (with_reducible refine And.intro ?_ ?_; · first | assumption | omega | (simp; done) | (simp; omega) | simp_all)
       replace h := bind_some h
       obtain ⟨v12, hv12, h⟩ := h
       refine callA_intro (w_i_Category_then _ _ _ v12 hv12) (.cons (.preT (by simp [Cat.cells, Ends.cells, Mnd.cells])) (.cons .val (.cons .val .nil))) ?_
       simp [-guardE_b, -Is_at, -Is_at', -Ls_at, -Ls_at', unk, unA, unE, unT, unC, flat, eL, eI, allInts, eP_Cat, eP_Ends, eP_Mnd, Cat.cells, Ends.cells, Mnd.cells]
       repeat (with_reducible refine And.intro ?_ ?_; · first | assumption | omega | (simp; done) | (simp; omega) | simp_all)
       refine hK _ ?_
       exact jn (b := v10 == v12) (Option.some.inj h) (Wk.r1 [] (by simp [hP, hhOk, back, Cat.cells, Ends.cells, Mnd.cells, IA, I1, LA, L1, BA, B1, EA, E1, E2, eB, eI, eL]))
     have g8 : ¬ (v6 = (ix m_.f.s.id x_)) := by first | simpa using g | (simp at g; exact g) | (simp at g; omega)
     clear g
     replace h := if_r g8 h
     simp [-guardE_b, -Is_at, -Is_at', -Ls_at, -Ls_at', eL, eI, allInts, eP_Cat, eP_Ends, eP_Mnd, Cat.cells, Ends.cells, Mnd.cells]
     repeat (with_reducible refine And.intro ?_ ?_; · first | assumption | omega | (simp; done) | (simp; omega) | simp_all)
     refine hK _ ?_
     exact jn (b := false) (Option.some.inj h) (Wk.r1 [] (by simp [hP, hhOk, back, Cat.cells, Ends.cells, Mnd.cells, IA, I1, LA, L1, BA, B1, EA, E1, E2, eB, eI, eL]))
   have g4 : ¬ (v2.a = v3 ∧ v2.b = x_) := by first | simpa using g | (simp at g; exact g) | (simp at g; omega)
   clear g
   replace h := if_r g4 h
   simp [-guardE_b, -Is_at, -Is_at', -Ls_at, -Ls_at', eL, eI, allInts, eP_Cat, eP_Ends, eP_Mnd, Cat.cells, Ends.cells, Mnd.cells]
   repeat (with_reducible refine And.intro ?_ ?_; · first | assumption | omega | (simp; done) | (simp; omega) | simp_all)
   refine hK _ ?_
   exact jn (b := false) (Option.some.inj h) (Wk.r1 [] (by simp [hP, hhOk, back, Cat.cells, Ends.cells, Mnd.cells, IA, I1, LA, L1, BA, B1, EA, E1, E2, eB, eI, eL]))
 intro b1 hb1
 have h := h1
 rw [← hb1] at h
 clear h1
 try dsimp only at h
 refine w_ret ?_
 have hr := Option.some.inj h
 rw [← hr]
 refine ⟨_, (.tmp .nil), ?_⟩
 refine ⟨(.one rfl rfl .nil), [.val (.bool b1)], [], by simp [Cat.cells, Ends.cells, Mnd.cells, IA, I1, LA, L1, BA, B1, EA, E1, E2, eB, eI, eL], by simp, (UpL.refl _)⟩
end Go.Vc.T

set_option maxRecDepth 100000
set_option linter.unusedSimpArgs false
set_option linter.unusedVariables false
namespace Go.Vc.T
open Go Go.Vc Go.Proofs
noncomputable def s_s_l17Is (m_ : Mnd) (x_ : Int) (h_ : Int) : Option Bool :=
 (
   ass (0 ≤ h_ ∧ h_ < (m_.f.s.fr.length : Int)) <|
   ass (0 ≤ x_ ∧ x_ < (m_.f.ob.length : Int)) <|
   if ¬ ((ix m_.f.s.fr h_) = (ix m_.f.ob x_)) then
     some true
   else
     ass (0 ≤ h_ ∧ h_ < (m_.f.s.to.length : Int)) <|
     if ¬ ((ix m_.f.s.to h_) = x_) then
       some true
     else
       ass (0 ≤ x_ ∧ x_ < (m_.u.length : Int)) <|
       (s_s_l02Then m_.f.s (ix m_.u x_) h_).bind fun v8 =>
       (s_s_l02Unit m_.f.s v8).bind fun v9 =>
       some (!v9) : Option (Bool)).bind fun b1 =>
 if b1 = true then
   some false
 else
   ass (0 ≤ h_ ∧ h_ < (m_.f.ar.length : Int)) <|
   (s_s_l02Then m_.f.s (ix m_.f.ar h_) h_).bind fun v12 =>
   ass (0 ≤ x_ ∧ x_ < (m_.j.length : Int)) <|
   (s_s_l02Then m_.f.s (ix m_.j x_) h_).bind fun v14 =>
   some (v12 == v14)
set_option maxHeartbeats 4000000 in
theorem w_s_l17Is (m_ : Mnd) (x_ : Int) (h_ : Int) (r : Bool) (h : s_s_l17Is m_ x_ h_ = some r) : Contract Try.prog 93 [.agg (m_.cells true), .val (.int .i64 x_), .val (.int .i64 h_)] (.val (.bool r)) := by
 refine contract_introG (rvs := [.tmp 6]) (rs := [.val (.bool r)]) Try.func93 rfl rfl rfl rfl (by simp [Try.f93]) fun F hN hP => ?_
 unfold s_s_l17Is at h
 refine w_seq ?_
 refine w_run mo (by rw [hN]; decide) fun K hK => ?_
 simp [-guardE_b, -Is_at, -Is_at', -Ls_at, -Ls_at', eL, eI, allInts, eP_Cat, eP_Mnd, Cat.cells, Mnd.cells]
 repeat (with_reducible refine And.intro ?_ ?_; · first | assumption | omega | (simp; done) | (simp; omega) | simp_all)
 refine hK _ ?_
 clear hK K
 refine tn ?_
 refine w_weak (st' := ⟨[(1, .val (.int .i64 x_)), (2, .val (.int .i64 h_)), (3, .adr 0 0 0)], [(0, .mix 14 [(Mnd.cells true m_)])], 1⟩) (Wk.r1 [(0, 0)] (by simp [hP, hhOk, back, Cat.cells, Mnd.cells, IA, I1, LA, L1, BA, B1, EA, E1, E2, eB, eI, eL])) ?_
 refine w_seq ?_
 refine w_run mo (by rw [hN]; decide) fun K hK => ?_
 simp [-guardE_b, -Is_at, -Is_at', -Ls_at, -Ls_at', eL, eI, allInts, eP_Cat, eP_Mnd, Cat.cells, Mnd.cells]
 repeat (with_reducible refine And.intro ?_ ?_; · first | assumption | omega | (simp; done) | (simp; omega) | simp_all)
 refine hK _ ?_
 clear hK K
 refine tn ?_
 refine w_weak (st' := ⟨[(1, .val (.int .i64 x_)), (2, .val (.int .i64 h_)), (3, .adr 0 0 0), (7, .adr 1 0 0)], [(0, .mix 14 [(Mnd.cells true m_)]), (1, .mix 5 [(Cat.cells true m_.f.s)])], 2⟩) (Wk.r1 [(0, 0), (1, 1)] (by simp [hP, hhOk, back, Cat.cells, Mnd.cells, IA, I1, LA, L1, BA, B1, EA, E1, E2, eB, eI, eL])) ?_
 refine w_seq ?_
 refine w_seq ?_
 replace h := bind_some h
 obtain ⟨e1, h, h1⟩ := h
 refine w_joinT (fun b1 : Bool => ⟨[(1, .val (.int .i64 x_)), (2, .val (.int .i64 h_)), (3, .adr 0 0 0), (7, .adr 1 0 0), (44, .val (.bool b1))], [(0, .mix 14 [(Mnd.cells true m_)]), (1, .mix 5 [(Cat.cells true m_.f.s)])], 2⟩) (fun b1 => b1 = e1) ?_ ?_
 · refine w_run mo (by rw [hN]; decide) fun K hK => ?_
   replace h := ass_some h
   obtain ⟨a2, h⟩ := h
   replace h := ass_some h
   obtain ⟨a3, h⟩ := h
   simp [-guardE_b, -Is_at, -Is_at', -Ls_at, -Ls_at', eL, eI, allInts, eP_Cat, eP_Mnd, Cat.cells, Mnd.cells, at_I a2, at_I a3]
   repeat (with_reducible refine And.intro ?_ ?_; · first | assumption | omega | (simp; done) | (simp; omega) | simp_all)
   refine guard_intro (fun g => ?_) (fun g => ?_)
   · have g4 : ¬ (¬ ((ix m_.f.s.fr h_) = (ix m_.f.ob x_))) := by first | simpa using g | (simp at g; exact g) | (simp at g; omega)
     clear g
     replace h := if_r g4 h
     replace h := ass_some h
     obtain ⟨a5, h⟩ := h
     simp [-guardE_b, -Is_at, -Is_at', -Ls_at, -Ls_at', eL, eI, allInts, eP_Cat, eP_Mnd, Cat.cells, Mnd.cells, at_I a5]
     repeat (with_reducible refine And.intro ?_ ?_; · first | assumption | omega | (simp; done) | (simp; omega) | simp_all)
     refine guard_intro (fun g => ?_) (fun g => ?_)
     · have g6 : ¬ (¬ ((ix m_.f.s.to h_) = x_)) := by first | simpa using g | (simp at g; exact g) | (simp at g; omega)
       clear g
       replace h := if_r g6 h
       replace h := ass_some h
       obtain ⟨a7, h⟩ := h
       simp [-guardE_b, -Is_at, -Is_at', -Ls_at, -Ls_at', eL, eI, allInts, eP_Cat, eP_Mnd, Cat.cells, Mnd.cells, at_I a7]
       repeat (with_reducible refine And.intro ?_ ?_; · first | assumption | omega | (simp; done) | (simp; omega) | simp_all)
       replace h := bind_some h
       obtain ⟨v8, hv8, h⟩ := h
       refine callA_intro (w_s_l02Then _ _ _ v8 hv8) (.cons (.aggL (.cons .val (.cons .lst (.cons .lst (.cons .lst (.cons .lst .nil)))))) (.cons .val (.cons .val .nil))) ?_
       simp [-guardE_b, -Is_at, -Is_at', -Ls_at, -Ls_at', unk, unA, unE, unT, unC, flat, eL, eI, allInts, eP_Cat, eP_Mnd, Cat.cells, Mnd.cells]
       repeat (with_reducible refine And.intro ?_ ?_; · first | assumption | omega | (simp; done) | (simp; omega) | simp_all)
       replace h := bind_some h
       obtain ⟨v9, hv9, h⟩ := h
       refine callA_intro (w_s_l02Unit _ _ v9 hv9) (.cons (.aggL (.cons .val (.cons .lst (.cons .lst (.cons .lst (.cons .lst .nil)))))) (.cons .val .nil)) ?_
       simp [-guardE_b, -Is_at, -Is_at', -Ls_at, -Ls_at', unk, unA, unE, unT, unC, flat, eL, eI, allInts, eP_Cat, eP_Mnd, Cat.cells, Mnd.cells]
       repeat (with_reducible refine And.intro ?_ ?_; · first | assumption | omega | (simp; done) | (simp; omega) | simp_all)
       refine hK _ ?_
       exact jn (b := !v9) (Option.some.inj h) (Wk.r1 [(0, 0), (1, 1)] (by simp [hP, hhOk, back, Cat.cells, Mnd.cells, IA, I1, LA, L1, BA, B1, EA, E1, E2, eB, eI, eL]))
     have g6 : ¬ ((ix m_.f.s.to h_) = x_) := by first | simpa using g | (simp at g; exact g) | (simp at g; omega)
     clear g
     replace h := if_l g6 h
     simp [-guardE_b, -Is_at, -Is_at', -Ls_at, -Ls_at', eL, eI, allInts, eP_Cat, eP_Mnd, Cat.cells, Mnd.cells]
     repeat (with_reducible refine And.intro ?_ ?_; · first | assumption | omega | (simp; done) | (simp; omega) | simp_all)
     refine hK _ ?_
     exact jn (b := true) (Option.some.inj h) (Wk.r1 [(0, 0), (1, 1)] (by simp [hP, hhOk, back, Cat.cells, Mnd.cells, IA, I1, LA, L1, BA, B1, EA, E1, E2, eB, eI, eL]))
   have g4 : ¬ ((ix m_.f.s.fr h_) = (ix m_.f.ob x_)) := by first | simpa using g | (simp at g; exact g) | (simp at g; omega)
   clear g
   replace h := if_l g4 h
   simp [-guardE_b, -Is_at, -Is_at', -Ls_at, -Ls_at', eL, eI, allInts, eP_Cat, eP_Mnd, Cat.cells, Mnd.cells]
   repeat (with_reducible refine And.intro ?_ ?_; · first | assumption | omega | (simp; done) | (simp; omega) | simp_all)
   refine hK _ ?_
   exact jn (b := true) (Option.some.inj h) (Wk.r1 [(0, 0), (1, 1)] (by simp [hP, hhOk, back, Cat.cells, Mnd.cells, IA, I1, LA, L1, BA, B1, EA, E1, E2, eB, eI, eL]))
 intro b1 hb1
 have h := h1
 rw [← hb1] at h
 clear h1
 try dsimp only at h
 refine w_cond rfl (fun g => ?_) fun g => ?_
 · have g10 : b1 = true := by first | simpa using g | (simp at g; exact g) | (simp at g; omega)
   clear g
   replace h := if_l g10 h
   refine w_seq ?_
   refine w_run mo (by rw [hN]; decide) fun K hK => ?_
   simp [-guardE_b, -Is_at, -Is_at', -Ls_at, -Ls_at', eL, eI, allInts, eP_Cat, eP_Mnd, Cat.cells, Mnd.cells]
   repeat (with_reducible refine And.intro ?_ ?_; · first | assumption | omega | (simp; done) | (simp; omega) | simp_all)
   refine hK _ ?_
   clear hK K
   refine tn ?_
   refine w_weak (st' := ⟨[(6, .val (.bool false))], [], 0⟩) (Wk.r1 [] (by simp [hP, hhOk, back, Cat.cells, Mnd.cells, IA, I1, LA, L1, BA, B1, EA, E1, E2, eB, eI, eL])) ?_
   refine w_ret ?_
   refine tr ?_
   have hr := Option.some.inj h
   rw [← hr]
   refine ⟨_, (.tmp .nil), ?_⟩
   refine ⟨(.one rfl rfl .nil), [.val (.bool false)], [], by simp [Cat.cells, Mnd.cells, IA, I1, LA, L1, BA, B1, EA, E1, E2, eB, eI, eL], by simp, (UpL.refl _)⟩
 have g10 : ¬ (b1 = true) := by first | simpa using g | (simp at g; exact g) | (simp at g; omega)
 clear g
 replace h := if_r g10 h
 refine w_skip ?_
 refine tn ?_
 refine w_seq ?_
 refine w_run mo (by rw [hN]; decide) fun K hK => ?_
 replace h := ass_some h
 obtain ⟨a11, h⟩ := h
 simp [-guardE_b, -Is_at, -Is_at', -Ls_at, -Ls_at', eL, eI, allInts, eP_Cat, eP_Mnd, Cat.cells, Mnd.cells, at_I a11]
 repeat (with_reducible refine And.intro ?_ ?_; · first | assumption | omega | (simp; done) | (simp; omega) | simp_all)
 replace h := bind_some h
 obtain ⟨v12, hv12, h⟩ := h
 refine callA_intro (w_s_l02Then _ _ _ v12 hv12) (.cons (.aggL (.cons .val (.cons .lst (.cons .lst (.cons .lst (.cons .lst .nil)))))) (.cons .val (.cons .val .nil))) ?_
 replace h := ass_some h
 obtain ⟨a13, h⟩ := h
 simp [-guardE_b, -Is_at, -Is_at', -Ls_at, -Ls_at', unk, unA, unE, unT, unC, flat, eL, eI, allInts, eP_Cat, eP_Mnd, Cat.cells, Mnd.cells, at_I a13]
 repeat (with_reducible refine And.intro ?_ ?_; · first | assumption | omega | (simp; done) | (simp; omega) | simp_all)
 replace h := bind_some h
 obtain ⟨v14, hv14, h⟩ := h
 refine callA_intro (w_s_l02Then _ _ _ v14 hv14) (.cons (.aggL (.cons .val (.cons .lst (.cons .lst (.cons .lst (.cons .lst .nil)))))) (.cons .val (.cons .val .nil))) ?_
 simp [-guardE_b, -Is_at, -Is_at', -Ls_at, -Ls_at', unk, unA, unE, unT, unC, flat, eL, eI, allInts, eP_Cat, eP_Mnd, Cat.cells, Mnd.cells]
 repeat (with_reducible refine And.intro ?_ ?_; · first | assumption | omega | (simp; done) | (simp; omega) | simp_all)
 refine hK _ ?_
 clear hK K
 refine tn ?_
 refine w_weak (st' := ⟨[(6, .val (.bool (v12 == v14)))], [], 0⟩) (Wk.r1 [] (by simp [hP, hhOk, back, Cat.cells, Mnd.cells, IA, I1, LA, L1, BA, B1, EA, E1, E2, eB, eI, eL])) ?_
 refine w_ret ?_
 have hr := Option.some.inj h
 rw [← hr]
 refine ⟨_, (.tmp .nil), ?_⟩
 refine ⟨(.one rfl rfl .nil), [.val (.bool (v12 == v14))], [], by simp [Cat.cells, Mnd.cells, IA, I1, LA, L1, BA, B1, EA, E1, E2, eB, eI, eL], by simp, (UpL.refl _)⟩
end Go.Vc.T

set_option maxRecDepth 100000
set_option linter.unusedSimpArgs false
set_option linter.unusedVariables false
namespace Go.Vc.T
open Go Go.Vc Go.Proofs
def Alg (m : Mnd) (x h : Int) : Prop := (ix m.f.s.fr h = ix m.f.ob x ∧ ix m.f.s.to h = x) ∧ ix (rx m.f.s.cs (ix m.u x)) h = ix m.f.s.id x ∧ ix (rx m.f.s.cs (ix m.f.ar h)) h = ix (rx m.f.s.cs (ix m.j x)) h
theorem e_alg {m : Mnd} (hm : m.Is) {x h : Int} (hx : 0 ≤ x ∧ x < (m.f.ob.length : Int)) (hh : 0 ≤ h ∧ h < (m.f.s.fr.length : Int)) : s_s_l17Is m x h = some (bo (Alg m x h)) ∧ s_i_Monad_isAlgebra m x h = some (bo (Alg m x h)) := by
 obtain ⟨l1, l2, l3, l4, l5, l6, l7, l8, l9⟩ := hm.pre.len
 have hc := hm.pre.f.s
 unfold s_s_l17Is s_i_Monad_isAlgebra s_i_Category_ends s_i_Monad_object s_i_Monad_arrow
 by_cases h1 : ix m.f.s.fr h = ix m.f.ob x
 case neg => rw [bo_neg (show ¬ Alg m x h from fun q => h1 q.1.1)]; constructor <;> simp (disch := omega) [ass_pos, h1]
 by_cases h2 : ix m.f.s.to h = x
 case neg => rw [bo_neg (show ¬ Alg m x h from fun q => h2 q.1.2)]; constructor <;> simp (disch := omega) [ass_pos, h1, h2]
 have ah : Ar m.f.s h (ix m.f.ob x) x := ⟨hh, h1, h2⟩
 have au := hm.pre.Au rfl hx
 have t1 := Ar.thn hc au ah
 have c1 := Ar.two hc au ah
 have t2 := Ar.thn hc (hm.pre.Aa rfl ah) ah
 have t3 := Ar.thn hc (hm.pre.Aj rfl hx) ah
 have u1 := e_UnitAt hc c1.1 c1.2.1
 by_cases h3 : ix (rx m.f.s.cs (ix m.u x)) h = ix m.f.s.id x
 case neg =>
   rw [bo_neg (show ¬ Alg m x h from fun q => h3 q.2.1)]
   rw [bo_neg h3] at u1
   constructor
   · simp (disch := omega) only [ass_pos, t1.1, u1, Option.bind_some]; simp (disch := omega) [h1, h2]
   simp (disch := omega) only [ass_pos, t1.2, Option.bind_some]; simp (disch := omega) [ass_pos, h1, h2, h3]
 rw [bo_pos h3] at u1
 by_cases h4 : ix (rx m.f.s.cs (ix m.f.ar h)) h = ix (rx m.f.s.cs (ix m.j x)) h
 · rw [bo_pos (show Alg m x h from ⟨⟨h1, h2⟩, h3, h4⟩)]
   constructor
   · simp (disch := omega) only [ass_pos, t1.1, t2.1, t3.1, u1, Option.bind_some]; simp (disch := omega) [h1, h2, h4]
   simp (disch := omega) only [ass_pos, t1.2, t2.2, t3.2, Option.bind_some]; simp (disch := omega) [ass_pos, h1, h2, h3, h4]
 rw [bo_neg (show ¬ Alg m x h from fun q => h4 q.2.2)]
 constructor
 · simp (disch := omega) only [ass_pos, t1.1, t2.1, t3.1, u1, Option.bind_some]; simp (disch := omega) [h1, h2, h4]
 simp (disch := omega) only [ass_pos, t1.2, t2.2, t3.2, Option.bind_some]; simp (disch := omega) [ass_pos, h1, h2, h3, h4]
theorem mem_ix {xs : List Int} {P : Int → Prop} (h : ∀ x ∈ xs, P x) {i : Nat} (hi : i < xs.length) : P (ix xs i) := by
 rw [← at_ix _ _ hi]; exact h _ (List.getElem_mem hi)
noncomputable def homL (c : Cat) (x y : Int) : List Int := flt c.fr.length fun a => ix c.fr a = x ∧ ix c.to a = y
theorem homL_mem {c : Cat} {x y : Int} : ∀ f ∈ homL c x y, Ar c f x y := by
 intro f hf
 obtain ⟨i, h1, h2, rfl⟩ := mem_flt.1 hf
 exact ⟨by omega, h2⟩
theorem homL_len (c : Cat) (x y : Int) : (homL c x y).length ≤ c.fr.length := flt_len _ _
theorem e_homs {c : Cat} (h : c.Is) (x y : Int) : s_s_l02Hom c x y = some (homL c x y) ∧ s_i_Category_hom c x y = some (homL c x y) := ⟨by rw [e_l02Hom, e_hom h]; rfl, e_hom h x y⟩
end Go.Vc.T

set_option maxRecDepth 100000
set_option linter.unusedSimpArgs false
set_option linter.unusedVariables false
namespace Go.Vc.T
open Go Go.Vc Go.Proofs
attribute [local simp] eP_XAlgebra XAlgebra.cells
noncomputable def s_i_Monad_allAlgebras (m_ : Mnd) : Option (List XAlgebra) :=
 (loopF (σ := List XAlgebra × Int) (ε := List XAlgebra) (fun s22 =>
   if s22.2 < m_.f.s.n then
     (
       (s_i_Monad_object m_ s22.2).bind fun v25 =>
       (s_i_Category_hom m_.f.s v25 s22.2).bind fun v26 =>
       (loopF (σ := List XAlgebra × Int) (ε := List XAlgebra) (fun s34 =>
         if s34.2 < (v26.length : Int) then
           (
             ass (0 ≤ s34.2 ∧ s34.2 < (v26.length : Int)) <|
             (s_i_Monad_isAlgebra m_ s22.2 (ix v26 s34.2)).bind fun v38 =>
             if v38 = true then
               ass ((s34.1 ++ [(⟨s22.2, ix v26 s34.2⟩ : XAlgebra)]).length ≤ 1073741824) <|
               some (s34.1 ++ [(⟨s22.2, ix v26 s34.2⟩ : XAlgebra)])
             else
               some s34.1 : Option (List XAlgebra)).bind fun b36 =>
           ass (B64 (s34.2 + 1)) <|
           some (Ctl.next (b36, s34.2 + 1))
         else
           some (Ctl.ret s34.1)) fuel (s22.1, 0)).bind fun p34 =>
       some p34 : Option (List XAlgebra)).bind fun b24 =>
     ass (B64 (s22.2 + 1)) <|
     some (Ctl.next (b24, s22.2 + 1))
   else
     some (Ctl.ret s22.1)) fuel ([], 0)).bind fun b1 =>
 some b1
set_option maxHeartbeats 4000000 in
theorem w_i_Monad_allAlgebras (m_ : Mnd) (r : List XAlgebra) (h : s_i_Monad_allAlgebras m_ = some r) : FContract Try.prog true 84 [.rptr (m_.cells true)] (.lst true 1 (Es eP_XAlgebra r)) := by
 refine fcontract_intro true (ts := [2]) (rs := [.lst true 1 (Es eP_XAlgebra r)]) Try.func84 rfl rfl rfl rfl (by simp [Try.f84]) fun F hN hP => ?_
 unfold s_i_Monad_allAlgebras at h
 refine w_seq ?_
 refine w_runX [] mo (by rw [hN]; decide) fun K hK => ?_
 simp [-guardE_b, -Is_at, -Is_at', -Ls_at, -Ls_at', eL, eI, allInts, eP_Cat, eP_Mnd, Cat.cells, Mnd.cells]
 repeat (with_reducible refine And.intro ?_ ?_; · first | assumption | omega | (simp; done) | (simp; omega) | simp_all)
 refine hK _ ?_
 clear hK K
 refine tn ?_
 refine w_weak (st' := ⟨[(0, .rptr (Mnd.cells true m_))], [], 0⟩) (Wk.r1 [] (by simp [hP, hhOk, back, Cat.cells, Mnd.cells, IA, I1, LA, L1, BA, B1, EA, E1, E2, eB, eI, eL, rlLL_Es _ eP_XAlgebra _ (fun _ => rfl)])) ?_
 refine w_seq ?_
 refine w_runX [] mo (by rw [hN]; decide) fun K hK => ?_
 simp [-guardE_b, -Is_at, -Is_at', -Ls_at, -Ls_at', eL, eI, allInts, eP_Cat, eP_Mnd, Cat.cells, Mnd.cells]
 repeat (with_reducible refine And.intro ?_ ?_; · first | assumption | omega | (simp; done) | (simp; omega) | simp_all)
 refine hK _ ?_
 clear hK K
 refine tn ?_
 refine w_weak (st' := ⟨[(0, .rptr (Mnd.cells true m_)), (3, .rptr (Mnd.cells true m_))], [], 0⟩) (Wk.r1 [] (by simp [hP, hhOk, back, Cat.cells, Mnd.cells, IA, I1, LA, L1, BA, B1, EA, E1, E2, eB, eI, eL, rlLL_Es _ eP_XAlgebra _ (fun _ => rfl)])) ?_
 refine w_seq ?_
 refine w_runX [] mo (by rw [hN]; decide) fun K hK => ?_
 simp [-guardE_b, -Is_at, -Is_at', -Ls_at, -Ls_at', eL, eI, allInts, eP_Cat, eP_Mnd, Cat.cells, Mnd.cells]
 repeat (with_reducible refine And.intro ?_ ?_; · first | assumption | omega | (simp; done) | (simp; omega) | simp_all)
 refine hK _ ?_
 clear hK K
 refine tn ?_
 refine w_weak (st' := ⟨[(0, .rptr (Mnd.cells true m_)), (3, .rptr (Mnd.cells true m_)), (4, .own 0 0 0)], [(0, .mix 1 [])], 1⟩) (Wk.r1 [(0, 0)] (by simp [hP, hhOk, back, Cat.cells, Mnd.cells, IA, I1, LA, L1, BA, B1, EA, E1, E2, eB, eI, eL, rlLL_Es _ eP_XAlgebra _ (fun _ => rfl)])) ?_
 refine w_seq ?_
 refine w_seq ?_
 refine w_runX [] mo (by rw [hN]; decide) fun K hK => ?_
 simp [-guardE_b, -Is_at, -Is_at', -Ls_at, -Ls_at', eL, eI, allInts, eP_Cat, eP_Mnd, Cat.cells, Mnd.cells]
 repeat (with_reducible refine And.intro ?_ ?_; · first | assumption | omega | (simp; done) | (simp; omega) | simp_all)
 refine hK _ ?_
 clear hK K
 refine tn ?_
 refine w_weak (st' := ⟨[(0, .rptr (Mnd.cells true m_)), (3, .rptr (Mnd.cells true m_)), (4, .own 0 0 0), (5, .val (.int .i64 0))], [(0, .mix 1 [])], 1⟩) (Wk.r1 [(0, 0)] (by simp [hP, hhOk, back, Cat.cells, Mnd.cells, IA, I1, LA, L1, BA, B1, EA, E1, E2, eB, eI, eL, rlLL_Es _ eP_XAlgebra _ (fun _ => rfl)])) ?_
 replace h := bind_some h
 obtain ⟨e1, h, h1⟩ := h
 refine w_joinT (fun b1 : List XAlgebra => ⟨[(4, .own 0 0 b1.length)], [(0, .mix 1 (Es eP_XAlgebra b1))], 1⟩) (fun b1 => b1 = e1) ?_ ?_
 · refine w_block ?_
   refine w_loopF h (fun s22 : List XAlgebra × Int => ⟨[(0, .rptr (Mnd.cells true m_)), (3, .rptr (Mnd.cells true m_)), (4, .own 0 0 s22.1.length), (5, .val (.int .i64 s22.2))], [(0, .mix 1 (Es eP_XAlgebra s22.1))], 1⟩) (Wk.r1 [(0, 0)] (by simp [hP, hhOk, back, Cat.cells, Mnd.cells, IA, I1, LA, L1, BA, B1, EA, E1, E2, eB, eI, eL, rlLL_Es _ eP_XAlgebra _ (fun _ => rfl)])) ?_
   clear h
   intro k22 s22 c22 h hk22
   refine w_seq ?_
   refine w_seq ?_
   refine w_runX [] mo (by rw [hN]; decide) fun K hK => ?_
   simp [-guardE_b, -Is_at, -Is_at', -Ls_at, -Ls_at', eL, eI, allInts, eP_Cat, eP_Mnd, Cat.cells, Mnd.cells]
   repeat (with_reducible refine And.intro ?_ ?_; · first | assumption | omega | (simp; done) | (simp; omega) | simp_all)
   refine hK _ ?_
   clear hK K
   refine tn ?_
   refine w_weak (st' := ⟨[(0, .rptr (Mnd.cells true m_)), (3, .rptr (Mnd.cells true m_)), (4, .own 0 0 s22.1.length), (5, .val (.int .i64 s22.2)), (18, .val (.bool (decide (s22.2 < m_.f.s.n))))], [(0, .mix 1 (Es eP_XAlgebra s22.1))], 1⟩) (Wk.r1 [(0, 0)] (by simp [hP, hhOk, back, Cat.cells, Mnd.cells, IA, I1, LA, L1, BA, B1, EA, E1, E2, eB, eI, eL, rlLL_Es _ eP_XAlgebra _ (fun _ => rfl)])) ?_
   refine w_cond rfl (fun g => ?_) fun g => ?_
   · have g23 : s22.2 < m_.f.s.n := by first | simpa using g | (simp at g; exact g) | (simp at g; omega)
     clear g
     replace h := if_l g23 h
     refine w_skip ?_
     refine tn ?_
     refine w_seq ?_
     replace h := bind_some h
     obtain ⟨e24, h, h24⟩ := h
     refine w_joinT (fun b24 : List XAlgebra => ⟨[(0, .rptr (Mnd.cells true m_)), (3, .rptr (Mnd.cells true m_)), (4, .own 0 0 b24.length), (5, .val (.int .i64 s22.2))], [(0, .mix 1 (Es eP_XAlgebra b24))], 1⟩) (fun b24 => b24 = e24) ?_ ?_
     · refine w_block ?_
       refine w_seq ?_
       refine w_runX [] mo (by rw [hN]; decide) fun K hK => ?_
       simp [-guardE_b, -Is_at, -Is_at', -Ls_at, -Ls_at', eL, eI, allInts, eP_Cat, eP_Mnd, Cat.cells, Mnd.cells]
       repeat (with_reducible refine And.intro ?_ ?_; · first | assumption | omega | (simp; done) | (simp; omega) | simp_all)
       replace h := bind_some h
       obtain ⟨v25, hv25, h⟩ := h
       refine callX_intro (fz := []) (w_i_Monad_object _ _ v25 hv25) (.cons (.preT (by simp [Cat.cells, Mnd.cells])) (.cons .val .nil)) ?_
       simp [-guardE_b, -Is_at, -Is_at', -Ls_at, -Ls_at', unk, unA, unE, unT, unC, flat, eL, eI, allInts, eP_Cat, eP_Mnd, Cat.cells, Mnd.cells]
       repeat (with_reducible refine And.intro ?_ ?_; · first | assumption | omega | (simp; done) | (simp; omega) | simp_all)
       replace h := bind_some h
       obtain ⟨v26, hv26, h⟩ := h
       refine callX_intro (fz := []) (w_i_Category_hom _ _ _ v26 hv26) (.cons (.preT (by simp [Cat.cells, Mnd.cells])) (.cons .val (.cons .val .nil))) ?_
       simp [-guardE_b, -Is_at, -Is_at', -Ls_at, -Ls_at', unk, unA, unE, unT, unC, flat, eL, eI, allInts, eP_Cat, eP_Mnd, Cat.cells, Mnd.cells]
       repeat (with_reducible refine And.intro ?_ ?_; · first | assumption | omega | (simp; done) | (simp; omega) | simp_all)
       refine hK _ ?_
       clear hK K
       refine tn ?_
       refine w_weak (st' := ⟨[(0, .rptr (Mnd.cells true m_)), (3, .rptr (Mnd.cells true m_)), (4, .own 0 0 s22.1.length), (5, .val (.int .i64 s22.2)), (26, .own 1 0 v26.length), (27, .val (.int .i64 (v26.length : Int))), (28, .val (.int .i64 0))], [(0, .mix 1 (Es eP_XAlgebra s22.1)), (1, .row 1 (Is v26))], 2⟩) (Wk.r1 [(0, 0), (2, 1)] (by simp [hP, hhOk, back, Cat.cells, Mnd.cells, IA, I1, LA, L1, BA, B1, EA, E1, E2, eB, eI, eL, rlLL_Es _ eP_XAlgebra _ (fun _ => rfl)])) ?_
       refine w_block ?_
       replace h := bind_some h
       obtain ⟨e34, he34, h34⟩ := h
       refine w_loopF he34 (fun s34 : List XAlgebra × Int => ⟨[(0, .rptr (Mnd.cells true m_)), (3, .rptr (Mnd.cells true m_)), (4, .own 0 0 s34.1.length), (5, .val (.int .i64 s22.2)), (26, .own 1 0 v26.length), (27, .val (.int .i64 (v26.length : Int))), (28, .val (.int .i64 s34.2))], [(0, .mix 1 (Es eP_XAlgebra s34.1)), (1, .row 1 (Is v26))], 2⟩) (Wk.r1 [(0, 0), (1, 1)] (by simp [hP, hhOk, back, Cat.cells, Mnd.cells, IA, I1, LA, L1, BA, B1, EA, E1, E2, eB, eI, eL, rlLL_Es _ eP_XAlgebra _ (fun _ => rfl)])) ?_
       intro k34 s34 c34 h hk34
       refine w_seq ?_
       refine w_runX [] mo (by rw [hN]; decide) fun K hK => ?_
       simp [-guardE_b, -Is_at, -Is_at', -Ls_at, -Ls_at', eL, eI, allInts, eP_Cat, eP_Mnd, Cat.cells, Mnd.cells]
       repeat (with_reducible refine And.intro ?_ ?_; · first | assumption | omega | (simp; done) | (simp; omega) | simp_all)
       refine hK _ ?_
       clear hK K
       refine tn ?_
       refine w_weak (st' := ⟨[(0, .rptr (Mnd.cells true m_)), (3, .rptr (Mnd.cells true m_)), (4, .own 0 0 s34.1.length), (5, .val (.int .i64 s22.2)), (26, .own 1 0 v26.length), (27, .val (.int .i64 (v26.length : Int))), (28, .val (.int .i64 s34.2)), (29, .val (.bool (decide (s34.2 < (v26.length : Int)))))], [(0, .mix 1 (Es eP_XAlgebra s34.1)), (1, .row 1 (Is v26))], 2⟩) (Wk.r1 [(0, 0), (1, 1)] (by simp [hP, hhOk, back, Cat.cells, Mnd.cells, IA, I1, LA, L1, BA, B1, EA, E1, E2, eB, eI, eL, rlLL_Es _ eP_XAlgebra _ (fun _ => rfl)])) ?_
       refine w_seq ?_
       refine w_cond rfl (fun g => ?_) fun g => ?_
       · have g35 : s34.2 < (v26.length : Int) := by first | simpa using g | (simp at g; exact g) | (simp at g; omega)
         clear g
         replace h := if_l g35 h
         refine w_skip ?_
         refine tn ?_
         refine w_seq ?_
         replace h := bind_some h
         obtain ⟨e36, h, h36⟩ := h
         refine w_joinT (fun b36 : List XAlgebra => ⟨[(0, .rptr (Mnd.cells true m_)), (3, .rptr (Mnd.cells true m_)), (4, .own 0 0 b36.length), (5, .val (.int .i64 s22.2)), (26, .own 1 0 v26.length), (27, .val (.int .i64 (v26.length : Int))), (28, .val (.int .i64 s34.2))], [(0, .mix 1 (Es eP_XAlgebra b36)), (1, .row 1 (Is v26))], 2⟩) (fun b36 => b36 = e36) ?_ ?_
         · refine w_block ?_
           refine w_seq ?_
           refine w_runX [] mo (by rw [hN]; decide) fun K hK => ?_
           replace h := ass_some h
           obtain ⟨a37, h⟩ := h
           simp [-guardE_b, -Is_at, -Is_at', -Ls_at, -Ls_at', eL, eI, allInts, eP_Cat, eP_Mnd, Cat.cells, Mnd.cells, at_I a37]
           repeat (with_reducible refine And.intro ?_ ?_; · first | assumption | omega | (simp; done) | (simp; omega) | simp_all)
           refine hK _ ?_
           clear hK K
           refine tn ?_
           refine w_weak (st' := ⟨[(0, .rptr (Mnd.cells true m_)), (3, .rptr (Mnd.cells true m_)), (4, .own 0 0 s34.1.length), (5, .val (.int .i64 s22.2)), (7, .val (.int .i64 (ix v26 s34.2))), (26, .own 1 0 v26.length), (27, .val (.int .i64 (v26.length : Int))), (28, .val (.int .i64 s34.2))], [(0, .mix 1 (Es eP_XAlgebra s34.1)), (1, .row 1 (Is v26))], 2⟩) (Wk.r1 [(0, 0), (1, 1)] (by simp [hP, hhOk, back, Cat.cells, Mnd.cells, IA, I1, LA, L1, BA, B1, EA, E1, E2, eB, eI, eL, rlLL_Es _ eP_XAlgebra _ (fun _ => rfl)])) ?_
           refine w_seq ?_
           refine w_runX [] mo (by rw [hN]; decide) fun K hK => ?_
           simp [-guardE_b, -Is_at, -Is_at', -Ls_at, -Ls_at', eL, eI, allInts, eP_Cat, eP_Mnd, Cat.cells, Mnd.cells]
           repeat (with_reducible refine And.intro ?_ ?_; · first | assumption | omega | (simp; done) | (simp; omega) | simp_all)
           replace h := bind_some h
           obtain ⟨v38, hv38, h⟩ := h
           refine callX_intro (fz := []) (w_i_Monad_isAlgebra _ _ _ v38 hv38) (.cons (.preT (by simp [Cat.cells, Mnd.cells])) (.cons .val (.cons .val .nil))) ?_
           simp [-guardE_b, -Is_at, -Is_at', -Ls_at, -Ls_at', unk, unA, unE, unT, unC, flat, eL, eI, allInts, eP_Cat, eP_Mnd, Cat.cells, Mnd.cells]
           repeat (with_reducible refine And.intro ?_ ?_; · first | assumption | omega | (simp; done) | (simp; omega) | simp_all)
           refine hK _ ?_
           clear hK K
           refine tn ?_
           refine w_weak (st' := ⟨[(0, .rptr (Mnd.cells true m_)), (3, .rptr (Mnd.cells true m_)), (4, .own 0 0 s34.1.length), (5, .val (.int .i64 s22.2)), (7, .val (.int .i64 (ix v26 s34.2))), (26, .own 1 0 v26.length), (27, .val (.int .i64 (v26.length : Int))), (28, .val (.int .i64 s34.2)), (35, .val (.bool v38))], [(0, .mix 1 (Es eP_XAlgebra s34.1)), (1, .row 1 (Is v26))], 2⟩) (Wk.r1 [(0, 0), (1, 1)] (by simp [hP, hhOk, back, Cat.cells, Mnd.cells, IA, I1, LA, L1, BA, B1, EA, E1, E2, eB, eI, eL, rlLL_Es _ eP_XAlgebra _ (fun _ => rfl)])) ?_
           refine w_cond rfl (fun g => ?_) fun g => ?_
           · have g39 : v38 = true := by first | simpa using g | (simp at g; exact g) | (simp at g; omega)
             clear g
             replace h := if_l g39 h
             refine w_runX [40, 42] mo (by rw [hN]; decide) fun K hK => ?_
             replace h := ass_some h
             obtain ⟨a40, h⟩ := h
             try simp only [List.length_append, List.length_cons, List.length_nil] at a40
             simp [-guardE_b, -Is_at, -Is_at', -Ls_at, -Ls_at', eL, eI, allInts, eP_Cat, eP_Mnd, Cat.cells, Mnd.cells, a40]
             repeat (with_reducible refine And.intro ?_ ?_; · first | assumption | omega | (simp; done) | (simp; omega) | simp_all)
             refine hK _ ?_
             clear hK K
             refine bn ?_
             exact jn (b := s34.1 ++ [(⟨s22.2, ix v26 s34.2⟩ : XAlgebra)]) (Option.some.inj h) (Wk.r1 [(3, 0), (1, 1)] (by simp [hP, hhOk, back, Cat.cells, Mnd.cells, IA, I1, LA, L1, BA, B1, EA, E1, E2, eB, eI, eL, rlLL_Es _ eP_XAlgebra _ (fun _ => rfl)]))
           have g39 : ¬ (v38 = true) := by first | simpa using g | (simp at g; exact g) | (simp at g; omega)
           clear g
           replace h := if_r g39 h
           refine w_skip ?_
           refine bn ?_
           exact jn (b := s34.1) (Option.some.inj h) (Wk.r1 [(0, 0), (1, 1)] (by simp [hP, hhOk, back, Cat.cells, Mnd.cells, IA, I1, LA, L1, BA, B1, EA, E1, E2, eB, eI, eL, rlLL_Es _ eP_XAlgebra _ (fun _ => rfl)]))
         intro b36 hb36
         have h := h36
         rw [← hb36] at h
         clear h36
         try dsimp only at h
         refine w_runX [] mo (by rw [hN]; decide) fun K hK => ?_
         replace h := ass_some h
         obtain ⟨a41, h⟩ := h
         simp [-guardE_b, -Is_at, -Is_at', -Ls_at, -Ls_at', eL, eI, allInts, eP_Cat, eP_Mnd, Cat.cells, Mnd.cells, wrap_id a41]
         repeat (with_reducible refine And.intro ?_ ?_; · first | assumption | omega | (simp; done) | (simp; omega) | simp_all)
         refine hK _ ?_
         clear hK K
         cases h
         exact rn (s' := (b36, s34.2 + 1)) hk34 (Wk.r1 [(0, 0), (1, 1)] (by simp [hP, hhOk, back, Cat.cells, Mnd.cells, IA, I1, LA, L1, BA, B1, EA, E1, E2, eB, eI, eL, rlLL_Es _ eP_XAlgebra _ (fun _ => rfl)]))
       have g35 : ¬ (s34.2 < (v26.length : Int)) := by first | simpa using g | (simp at g; exact g) | (simp at g; omega)
       clear g
       replace h := if_r g35 h
       refine w_exit ?_
       refine tx ?_
       refine lx ?_
       refine bh ?_
       refine bn ?_
       cases h
       have q : _ = e34 := hk34
       have h := h34
       rw [← q] at h
       clear q
       try dsimp only at h
       exact jn (b := s34.1) (Option.some.inj h) (Wk.r1 [(0, 0)] (by simp [hP, hhOk, back, Cat.cells, Mnd.cells, IA, I1, LA, L1, BA, B1, EA, E1, E2, eB, eI, eL, rlLL_Es _ eP_XAlgebra _ (fun _ => rfl)]))
     intro b24 hb24
     have h := h24
     rw [← hb24] at h
     clear h24
     try dsimp only at h
     refine w_runX [] mo (by rw [hN]; decide) fun K hK => ?_
     replace h := ass_some h
     obtain ⟨a42, h⟩ := h
     simp [-guardE_b, -Is_at, -Is_at', -Ls_at, -Ls_at', eL, eI, allInts, eP_Cat, eP_Mnd, Cat.cells, Mnd.cells, wrap_id a42]
     repeat (with_reducible refine And.intro ?_ ?_; · first | assumption | omega | (simp; done) | (simp; omega) | simp_all)
     refine hK _ ?_
     clear hK K
     cases h
     exact rn (s' := (b24, s22.2 + 1)) hk22 (Wk.r1 [(0, 0)] (by simp [hP, hhOk, back, Cat.cells, Mnd.cells, IA, I1, LA, L1, BA, B1, EA, E1, E2, eB, eI, eL, rlLL_Es _ eP_XAlgebra _ (fun _ => rfl)]))
   have g23 : ¬ (s22.2 < m_.f.s.n) := by first | simpa using g | (simp at g; exact g) | (simp at g; omega)
   clear g
   replace h := if_r g23 h
   refine w_exit ?_
   refine tx ?_
   refine lx ?_
   refine bh ?_
   cases h
   exact jn (b := s22.1) hk22 (Wk.r1 [(0, 0)] (by simp [hP, hhOk, back, Cat.cells, Mnd.cells, IA, I1, LA, L1, BA, B1, EA, E1, E2, eB, eI, eL, rlLL_Es _ eP_XAlgebra _ (fun _ => rfl)]))
 intro b1 hb1
 have h := h1
 rw [← hb1] at h
 clear h1
 try dsimp only at h
 refine w_seq ?_
 refine w_runX [] mo (by rw [hN]; decide) fun K hK => ?_
 simp [-guardE_b, -Is_at, -Is_at', -Ls_at, -Ls_at', eL, eI, allInts, eP_Cat, eP_Mnd, Cat.cells, Mnd.cells]
 repeat (with_reducible refine And.intro ?_ ?_; · first | assumption | omega | (simp; done) | (simp; omega) | simp_all)
 refine hK _ ?_
 clear hK K
 refine tn ?_
 refine w_weak (st' := ⟨[(2, .own 0 0 b1.length)], [(0, .mix 1 (Es eP_XAlgebra b1))], 1⟩) (Wk.r1 [(0, 0)] (by simp [hP, hhOk, back, Cat.cells, Mnd.cells, IA, I1, LA, L1, BA, B1, EA, E1, E2, eB, eI, eL, rlLL_Es _ eP_XAlgebra _ (fun _ => rfl)])) ?_
 refine w_ret ?_
 have hr := Option.some.inj h
 rw [← hr]
 exact (.two (.smix rfl (by simp) (roRows_map (by simp [Cat.cells, Mnd.cells, eP_Cat, eP_Mnd]))) .nil)
end Go.Vc.T

set_option maxRecDepth 100000
set_option linter.unusedSimpArgs false
set_option linter.unusedVariables false
namespace Go.Vc.T
open Go Go.Vc Go.Proofs
attribute [local simp] eP_XAlgebra XAlgebra.cells
noncomputable def s_i_AllAlgebras (m_ : Mnd) : Option (List (List Int) × Int) :=
 (s_i_Monad_isMonad m_).bind fun v1 =>
 if ¬ (v1 = true) then
   some ([], 1)
 else
   (s_i_Monad_allAlgebras m_).bind fun v3 =>
   (loopF (σ := List (List Int) × Int) (ε := List (List Int)) (fun s9 =>
     if s9.2 < (v3.length : Int) then
       ass (0 ≤ s9.2 ∧ s9.2 < (v3.length : Int)) <|
       ass ((s9.1 ++ [[(gx v3 s9.2).x_, (gx v3 s9.2).h_]]).length ≤ 1073741824) <|
       ass (B64 (s9.2 + 1)) <|
       some (Ctl.next (s9.1 ++ [[(gx v3 s9.2).x_, (gx v3 s9.2).h_]], s9.2 + 1))
     else
       some (Ctl.ret s9.1)) fuel ([], 0)).bind fun b4 =>
   some (b4, 0)
set_option maxHeartbeats 4000000 in
theorem w_i_AllAlgebras (m_ : Mnd) (r : List (List Int) × Int) (h : s_i_AllAlgebras m_ = some r) : Contract Try.prog 27 [.agg (m_.cells true)] (.tup [.lst true 1 (Ls r.1), .val (.int .i64 r.2)]) := by
 refine contract_introG (rvs := [.tmp 2, .tmp 3]) (rs := [.lst true 1 (Ls r.1), .val (.int .i64 r.2)]) Try.func27 rfl rfl rfl rfl (by simp [Try.f27]) fun F hN hP => ?_
 unfold s_i_AllAlgebras at h
 refine w_seq ?_
 refine w_runX [1] mo (by rw [hN]; decide) fun K hK => ?_
 simp [-guardE_b, -Is_at, -Is_at', -Ls_at, -Ls_at', eL, eI, allInts, eP_Mnd, eP_XAlgebra, Mnd.cells, XAlgebra.cells]
 repeat (with_reducible refine And.intro ?_ ?_; · first | assumption | omega | (simp; done) | (simp; omega) | simp_all)
 refine hK _ ?_
 clear hK K
 refine tn ?_
 refine w_weak (st' := ⟨[(1, .rptr (Mnd.cells true m_))], [], 0⟩) (Wk.r1 [] (by simp [hP, hhOk, back, Mnd.cells, XAlgebra.cells, IA, I1, LA, L1, BA, B1, EA, E1, E2, eB, eI, eL])) ?_
 refine w_seq ?_
 refine w_seq ?_
 refine w_run mo (by rw [hN]; decide) fun K hK => ?_
 simp [-guardE_b, -Is_at, -Is_at', -Ls_at, -Ls_at', eL, eI, allInts, eP_Mnd, eP_XAlgebra, Mnd.cells, XAlgebra.cells]
 repeat (with_reducible refine And.intro ?_ ?_; · first | assumption | omega | (simp; done) | (simp; omega) | simp_all)
 replace h := bind_some h
 obtain ⟨v1, hv1, h⟩ := h
 refine callA_intro (w_i_Monad_isMonad _ v1 hv1) (.cons (.preT (by simp [Mnd.cells])) .nil) ?_
 simp [-guardE_b, -Is_at, -Is_at', -Ls_at, -Ls_at', unk, unA, unE, unT, unC, flat, eL, eI, allInts, eP_Mnd, eP_XAlgebra, Mnd.cells, XAlgebra.cells]
 repeat (with_reducible refine And.intro ?_ ?_; · first | assumption | omega | (simp; done) | (simp; omega) | simp_all)
 refine hK _ ?_
 clear hK K
 refine tn ?_
 refine w_weak (st' := ⟨[(1, .rptr (Mnd.cells true m_)), (8, .val (.bool (!v1)))], [], 0⟩) (Wk.r1 [] (by simp [hP, hhOk, back, Mnd.cells, XAlgebra.cells, IA, I1, LA, L1, BA, B1, EA, E1, E2, eB, eI, eL])) ?_
 refine w_cond rfl (fun g => ?_) fun g => ?_
 · have g2 : ¬ (v1 = true) := by first | simpa using g | (simp at g; exact g) | (simp at g; omega)
   clear g
   replace h := if_l g2 h
   refine w_seq ?_
   refine w_run mo (by rw [hN]; decide) fun K hK => ?_
   simp [-guardE_b, -Is_at, -Is_at', -Ls_at, -Ls_at', eL, eI, allInts, eP_Mnd, eP_XAlgebra, Mnd.cells, XAlgebra.cells]
   repeat (with_reducible refine And.intro ?_ ?_; · first | assumption | omega | (simp; done) | (simp; omega) | simp_all)
   refine hK _ ?_
   clear hK K
   refine tn ?_
   refine w_weak (st' := ⟨[(2, .val (.slice none 0 0)), (3, .val (.int .i64 1))], [], 0⟩) (Wk.r1 [] (by simp [hP, hhOk, back, Mnd.cells, XAlgebra.cells, IA, I1, LA, L1, BA, B1, EA, E1, E2, eB, eI, eL])) ?_
   refine w_ret ?_
   refine tr ?_
   have hr := Option.some.inj h
   rw [← hr]
   refine ⟨_, (.tmp (.tmp .nil)), ?_⟩
   refine ⟨(.one rfl rfl (.one rfl rfl .nil)), [.val (.slice none 0 0), .val (.int .i64 1)], [], by simp [Mnd.cells, XAlgebra.cells, IA, I1, LA, L1, BA, B1, EA, E1, E2, eB, eI, eL], by simp, (.cons .nil (.cons .refl .nil))⟩
 have g2 : ¬ (¬ (v1 = true)) := by first | simpa using g | (simp at g; exact g) | (simp at g; omega)
 clear g
 replace h := if_r g2 h
 refine w_skip ?_
 refine tn ?_
 refine w_seq ?_
 refine w_run mo (by rw [hN]; decide) fun K hK => ?_
 simp [-guardE_b, -Is_at, -Is_at', -Ls_at, -Ls_at', eL, eI, allInts, eP_Mnd, eP_XAlgebra, Mnd.cells, XAlgebra.cells]
 repeat (with_reducible refine And.intro ?_ ?_; · first | assumption | omega | (simp; done) | (simp; omega) | simp_all)
 refine hK _ ?_
 clear hK K
 refine tn ?_
 refine w_weak (st' := ⟨[(1, .rptr (Mnd.cells true m_)), (4, .own 0 0 0)], [(0, .mix 1 [])], 1⟩) (Wk.r1 [(0, 0)] (by simp [hP, hhOk, back, Mnd.cells, XAlgebra.cells, IA, I1, LA, L1, BA, B1, EA, E1, E2, eB, eI, eL])) ?_
 refine w_seq ?_
 refine w_seq ?_
 refine w_runX [] mo (by rw [hN]; decide) fun K hK => ?_
 simp [-guardE_b, -Is_at, -Is_at', -Ls_at, -Ls_at', eL, eI, allInts, eP_Mnd, eP_XAlgebra, Mnd.cells, XAlgebra.cells]
 repeat (with_reducible refine And.intro ?_ ?_; · first | assumption | omega | (simp; done) | (simp; omega) | simp_all)
 replace h := bind_some h
 obtain ⟨v3, hv3, h⟩ := h
 refine callX_fro (fz := []) true (w_i_Monad_allAlgebras _ v3 hv3) (PurK.ofN (.cons (.preT (by simp [Mnd.cells])) .nil)) ?_
 simp [-guardE_b, -Is_at, -Is_at', -Ls_at, -Ls_at', unk, unA, unE, unT, unC, flat, eL, eI, allInts, eP_Mnd, eP_XAlgebra, Mnd.cells, XAlgebra.cells]
 repeat (with_reducible refine And.intro ?_ ?_; · first | assumption | omega | (simp; done) | (simp; omega) | simp_all)
 refine hK _ ?_
 clear hK K
 refine tn ?_
 refine w_weak (st' := ⟨[(4, .own 0 0 0), (10, .lst true 1 (Es eP_XAlgebra v3)), (11, .val (.int .i64 (v3.length : Int))), (12, .val (.int .i64 0))], [(0, .mix 1 [])], 1⟩) (Wk.r1 [(0, 0)] (by simp [hP, hhOk, back, Mnd.cells, XAlgebra.cells, IA, I1, LA, L1, BA, B1, EA, E1, E2, eB, eI, eL])) ?_
 replace h := bind_some h
 obtain ⟨e4, h, h4⟩ := h
 refine w_joinT (fun b4 : List (List Int) => ⟨[(4, .own 0 0 b4.length)], [(0, .row 1 (Ls b4))], 1⟩) (fun b4 => b4 = e4) ?_ ?_
 · refine w_block ?_
   refine w_loopF h (fun s9 : List (List Int) × Int => ⟨[(4, .own 0 0 s9.1.length), (10, .lst true 1 (Es eP_XAlgebra v3)), (11, .val (.int .i64 (v3.length : Int))), (12, .val (.int .i64 s9.2))], [(0, .row 1 (Ls s9.1))], 1⟩) (wk_tr ⟨[(4, .own 0 0 0), (10, .lst true 1 (Es eP_XAlgebra v3)), (11, .val (.int .i64 (v3.length : Int))), (12, .val (.int .i64 0))], [(0, .row 1 (Ls []))], 1⟩ (Wk.nils [] (by simp) (by simp) (by simp [nlA]) (by simp [entN, nlL, nlA, Mnd.cells, XAlgebra.cells, IA, I1, LA, L1, BA, B1, EA, E1, E2, eB, eI, eL]) (by simp)) (Wk.r1 [(0, 0)] (by simp [hP, hhOk, back, Mnd.cells, XAlgebra.cells, IA, I1, LA, L1, BA, B1, EA, E1, E2, eB, eI, eL]))) ?_
   clear h
   intro k9 s9 c9 h hk9
   refine w_seq ?_
   refine w_run mo (by rw [hN]; decide) fun K hK => ?_
   simp [-guardE_b, -Is_at, -Is_at', -Ls_at, -Ls_at', eL, eI, allInts, eP_Mnd, eP_XAlgebra, Mnd.cells, XAlgebra.cells]
   repeat (with_reducible refine And.intro ?_ ?_; · first | assumption | omega | (simp; done) | (simp; omega) | simp_all)
   refine hK _ ?_
   clear hK K
   refine tn ?_
   refine w_weak (st' := ⟨[(4, .own 0 0 s9.1.length), (10, .lst true 1 (Es eP_XAlgebra v3)), (11, .val (.int .i64 (v3.length : Int))), (12, .val (.int .i64 s9.2)), (13, .val (.bool (decide (s9.2 < (v3.length : Int)))))], [(0, .row 1 (Ls s9.1))], 1⟩) (Wk.r1 [(0, 0)] (by simp [hP, hhOk, back, Mnd.cells, XAlgebra.cells, IA, I1, LA, L1, BA, B1, EA, E1, E2, eB, eI, eL])) ?_
   refine w_seq ?_
   refine w_cond rfl (fun g => ?_) fun g => ?_
   · have g10 : s9.2 < (v3.length : Int) := by first | simpa using g | (simp at g; exact g) | (simp at g; omega)
     clear g
     replace h := if_l g10 h
     refine w_skip ?_
     refine tn ?_
     refine w_seq ?_
     refine w_block ?_
     refine w_seq ?_
     refine w_run mo (by rw [hN]; decide) fun K hK => ?_
     replace h := ass_some h
     obtain ⟨a11, h⟩ := h
     simp [-guardE_b, -Is_at, -Is_at', -Ls_at, -Ls_at', eL, eI, allInts, eP_Mnd, eP_XAlgebra, Mnd.cells, XAlgebra.cells, at_E (c := eP_XAlgebra) a11]
     repeat (with_reducible refine And.intro ?_ ?_; · first | assumption | omega | (simp; done) | (simp; omega) | simp_all)
     refine hK _ ?_
     clear hK K
     refine tn ?_
     refine w_weak (st' := ⟨[(4, .own 0 0 s9.1.length), (6, .rptr (XAlgebra.cells true (gx v3 s9.2))), (10, .lst true 1 (Es eP_XAlgebra v3)), (11, .val (.int .i64 (v3.length : Int))), (12, .val (.int .i64 s9.2))], [(0, .row 1 (Ls s9.1))], 1⟩) (Wk.r1 [(0, 0)] (by simp [hP, hhOk, back, Mnd.cells, XAlgebra.cells, IA, I1, LA, L1, BA, B1, EA, E1, E2, eB, eI, eL])) ?_
     refine w_run mo (by rw [hN]; decide) fun K hK => ?_
     replace h := ass_some h
     obtain ⟨a12, h⟩ := h
     try simp only [List.length_append, List.length_cons, List.length_nil] at a12
     simp [-guardE_b, -Is_at, -Is_at', -Ls_at, -Ls_at', eL, eI, allInts, eP_Mnd, eP_XAlgebra, Mnd.cells, XAlgebra.cells, a12]
     repeat (with_reducible refine And.intro ?_ ?_; · first | assumption | omega | (simp; done) | (simp; omega) | simp_all)
     refine hK _ ?_
     clear hK K
     refine bn ?_
     refine tn ?_
     refine w_weak (st' := ⟨[(4, .own 0 0 ((s9.1 ++ [[(gx v3 s9.2).x_, (gx v3 s9.2).h_]]).length)), (10, .lst true 1 (Es eP_XAlgebra v3)), (11, .val (.int .i64 (v3.length : Int))), (12, .val (.int .i64 s9.2))], [(0, .row 1 (Ls (s9.1 ++ [[(gx v3 s9.2).x_, (gx v3 s9.2).h_]])))], 1⟩) (Wk.r1 [(3, 0)] (by simp [hP, hhOk, back, Mnd.cells, XAlgebra.cells, IA, I1, LA, L1, BA, B1, EA, E1, E2, eB, eI, eL])) ?_
     refine w_run mo (by rw [hN]; decide) fun K hK => ?_
     replace h := ass_some h
     obtain ⟨a13, h⟩ := h
     simp [-guardE_b, -Is_at, -Is_at', -Ls_at, -Ls_at', eL, eI, allInts, eP_Mnd, eP_XAlgebra, Mnd.cells, XAlgebra.cells, wrap_id a13]
     repeat (with_reducible refine And.intro ?_ ?_; · first | assumption | omega | (simp; done) | (simp; omega) | simp_all)
     refine hK _ ?_
     clear hK K
     cases h
     exact rn (s' := (s9.1 ++ [[(gx v3 s9.2).x_, (gx v3 s9.2).h_]], s9.2 + 1)) hk9 (Wk.r1 [(0, 0)] (by simp [hP, hhOk, back, Mnd.cells, XAlgebra.cells, IA, I1, LA, L1, BA, B1, EA, E1, E2, eB, eI, eL]))
   have g10 : ¬ (s9.2 < (v3.length : Int)) := by first | simpa using g | (simp at g; exact g) | (simp at g; omega)
   clear g
   replace h := if_r g10 h
   refine w_exit ?_
   refine tx ?_
   refine lx ?_
   refine bh ?_
   cases h
   exact jn (b := s9.1) hk9 (Wk.r1 [(0, 0)] (by simp [hP, hhOk, back, Mnd.cells, XAlgebra.cells, IA, I1, LA, L1, BA, B1, EA, E1, E2, eB, eI, eL]))
 intro b4 hb4
 have h := h4
 rw [← hb4] at h
 clear h4
 try dsimp only at h
 refine w_seq ?_
 refine w_run mo (by rw [hN]; decide) fun K hK => ?_
 simp [-guardE_b, -Is_at, -Is_at', -Ls_at, -Ls_at', eL, eI, allInts, eP_Mnd, eP_XAlgebra, Mnd.cells, XAlgebra.cells]
 repeat (with_reducible refine And.intro ?_ ?_; · first | assumption | omega | (simp; done) | (simp; omega) | simp_all)
 refine hK _ ?_
 clear hK K
 refine tn ?_
 refine w_weak (st' := ⟨[(2, .own 0 0 b4.length), (3, .val (.int .i64 0))], [(0, .row 1 (Ls b4))], 1⟩) (Wk.r1 [(0, 0)] (by simp [hP, hhOk, back, Mnd.cells, XAlgebra.cells, IA, I1, LA, L1, BA, B1, EA, E1, E2, eB, eI, eL])) ?_
 refine w_ret ?_
 have hr := Option.some.inj h
 rw [← hr]
 refine ⟨_, (.tmp (.tmp .nil)), ?_⟩
 refine ⟨(.one rfl rfl (.one rfl rfl .nil)), [.lst true 1 (Ls b4), .val (.int .i64 0)], [0], by simp [Mnd.cells, XAlgebra.cells, IA, I1, LA, L1, BA, B1, EA, E1, E2, eB, eI, eL], by simp, (UpL.refl _)⟩
end Go.Vc.T

set_option maxRecDepth 100000
set_option linter.unusedSimpArgs false
set_option linter.unusedVariables false
namespace Go.Vc.T
open Go Go.Vc Go.Proofs
noncomputable def s_s_l17All (m_ : Mnd) : Option (List (List Int)) :=
 (loopF (σ := List (List Int) × Int) (ε := List (List Int)) (fun s24 =>
   if s24.2 < m_.f.s.n then
     (
       ass (0 ≤ s24.2 ∧ s24.2 < (m_.f.ob.length : Int)) <|
       (s_s_l02Hom m_.f.s (ix m_.f.ob s24.2) s24.2).bind fun v28 =>
       (loopF (σ := List (List Int) × Int) (ε := List (List Int)) (fun s37 =>
         if s37.2 < (v28.length : Int) then
           (
             ass (0 ≤ s37.2 ∧ s37.2 < (v28.length : Int)) <|
             (s_s_l17Is m_ s24.2 (ix v28 s37.2)).bind fun v41 =>
             if v41 = true then
               ass (0 ≤ s37.2 ∧ s37.2 < (v28.length : Int)) <|
               ass ((s37.1 ++ [[s24.2, ix v28 s37.2]]).length ≤ 1073741824) <|
               some (s37.1 ++ [[s24.2, ix v28 s37.2]])
             else
               some s37.1 : Option (List (List Int))).bind fun b39 =>
           ass (B64 (s37.2 + 1)) <|
           some (Ctl.next (b39, s37.2 + 1))
         else
           some (Ctl.ret s37.1)) fuel (s24.1, 0)).bind fun p37 =>
       some p37 : Option (List (List Int))).bind fun b26 =>
     ass (B64 (s24.2 + 1)) <|
     some (Ctl.next (b26, s24.2 + 1))
   else
     some (Ctl.ret s24.1)) fuel ([], 0)).bind fun b1 =>
 some b1
set_option maxHeartbeats 4000000 in
theorem w_s_l17All (m_ : Mnd) (r : List (List Int)) (h : s_s_l17All m_ = some r) : Contract Try.prog 82 [.agg (m_.cells true)] (.lst true 1 (Ls r)) := by
 refine contract_introG (rvs := [.tmp 2]) (rs := [.lst true 1 (Ls r)]) Try.func82 rfl rfl rfl rfl (by simp [Try.f82]) fun F hN hP => ?_
 unfold s_s_l17All at h
 refine w_seq ?_
 refine w_run mo (by rw [hN]; decide) fun K hK => ?_
 simp [-guardE_b, -Is_at, -Is_at', -Ls_at, -Ls_at', eL, eI, allInts, eP_Cat, eP_Mnd, Cat.cells, Mnd.cells]
 repeat (with_reducible refine And.intro ?_ ?_; · first | assumption | omega | (simp; done) | (simp; omega) | simp_all)
 refine hK _ ?_
 clear hK K
 refine tn ?_
 refine w_weak (st' := ⟨[(1, .adr 0 0 0)], [(0, .mix 14 [(Mnd.cells true m_)])], 1⟩) (Wk.r1 [(0, 0)] (by simp [hP, hhOk, back, Cat.cells, Mnd.cells, IA, I1, LA, L1, BA, B1, EA, E1, E2, eB, eI, eL])) ?_
 refine w_seq ?_
 refine w_run mo (by rw [hN]; decide) fun K hK => ?_
 simp [-guardE_b, -Is_at, -Is_at', -Ls_at, -Ls_at', eL, eI, allInts, eP_Cat, eP_Mnd, Cat.cells, Mnd.cells]
 repeat (with_reducible refine And.intro ?_ ?_; · first | assumption | omega | (simp; done) | (simp; omega) | simp_all)
 refine hK _ ?_
 clear hK K
 refine tn ?_
 refine w_weak (st' := ⟨[(1, .adr 0 0 0), (3, .adr 1 0 0)], [(0, .mix 14 [(Mnd.cells true m_)]), (1, .mix 5 [(Cat.cells true m_.f.s)])], 2⟩) (Wk.r1 [(0, 0), (1, 1)] (by simp [hP, hhOk, back, Cat.cells, Mnd.cells, IA, I1, LA, L1, BA, B1, EA, E1, E2, eB, eI, eL])) ?_
 refine w_seq ?_
 refine w_run mo (by rw [hN]; decide) fun K hK => ?_
 simp [-guardE_b, -Is_at, -Is_at', -Ls_at, -Ls_at', eL, eI, allInts, eP_Cat, eP_Mnd, Cat.cells, Mnd.cells]
 repeat (with_reducible refine And.intro ?_ ?_; · first | assumption | omega | (simp; done) | (simp; omega) | simp_all)
 refine hK _ ?_
 clear hK K
 refine tn ?_
 refine w_weak (st' := ⟨[(1, .adr 0 0 0), (3, .adr 1 0 0), (4, .own 2 0 0)], [(0, .mix 14 [(Mnd.cells true m_)]), (1, .mix 5 [(Cat.cells true m_.f.s)]), (2, .mix 1 [])], 3⟩) (Wk.r1 [(0, 0), (1, 1), (2, 2)] (by simp [hP, hhOk, back, Cat.cells, Mnd.cells, IA, I1, LA, L1, BA, B1, EA, E1, E2, eB, eI, eL])) ?_
 refine w_seq ?_
 refine w_seq ?_
 refine w_run mo (by rw [hN]; decide) fun K hK => ?_
 simp [-guardE_b, -Is_at, -Is_at', -Ls_at, -Ls_at', eL, eI, allInts, eP_Cat, eP_Mnd, Cat.cells, Mnd.cells]
 repeat (with_reducible refine And.intro ?_ ?_; · first | assumption | omega | (simp; done) | (simp; omega) | simp_all)
 refine hK _ ?_
 clear hK K
 refine tn ?_
 refine w_weak (st' := ⟨[(1, .adr 0 0 0), (3, .adr 1 0 0), (4, .own 2 0 0), (5, .val (.int .i64 0))], [(0, .mix 14 [(Mnd.cells true m_)]), (1, .mix 5 [(Cat.cells true m_.f.s)]), (2, .mix 1 [])], 3⟩) (Wk.r1 [(0, 0), (1, 1), (2, 2)] (by simp [hP, hhOk, back, Cat.cells, Mnd.cells, IA, I1, LA, L1, BA, B1, EA, E1, E2, eB, eI, eL])) ?_
 replace h := bind_some h
 obtain ⟨e1, h, h1⟩ := h
 refine w_joinT (fun b1 : List (List Int) => ⟨[(4, .own 0 0 b1.length)], [(0, .row 1 (Ls b1))], 1⟩) (fun b1 => b1 = e1) ?_ ?_
 · refine w_block ?_
   refine w_loopF h (fun s24 : List (List Int) × Int => ⟨[(1, .adr 0 0 0), (3, .adr 1 0 0), (4, .own 2 0 s24.1.length), (5, .val (.int .i64 s24.2))], [(0, .mix 14 [(Mnd.cells true m_)]), (1, .mix 5 [(Cat.cells true m_.f.s)]), (2, .row 1 (Ls s24.1))], 3⟩) (wk_tr ⟨[(1, .adr 0 0 0), (3, .adr 1 0 0), (4, .own 2 0 0), (5, .val (.int .i64 0))], [(0, .mix 14 [(Mnd.cells true m_)]), (1, .mix 5 [(Cat.cells true m_.f.s)]), (2, .row 1 (Ls []))], 3⟩ (Wk.nils [] (by simp) (by simp) (by simp [nlA]) (by simp [entN, nlL, nlA, Cat.cells, Mnd.cells, IA, I1, LA, L1, BA, B1, EA, E1, E2, eB, eI, eL]) (by simp)) (Wk.r1 [(0, 0), (1, 1), (2, 2)] (by simp [hP, hhOk, back, Cat.cells, Mnd.cells, IA, I1, LA, L1, BA, B1, EA, E1, E2, eB, eI, eL]))) ?_
   clear h
   intro k24 s24 c24 h hk24
   refine w_seq ?_
   refine w_seq ?_
   refine w_run mo (by rw [hN]; decide) fun K hK => ?_
   simp [-guardE_b, -Is_at, -Is_at', -Ls_at, -Ls_at', eL, eI, allInts, eP_Cat, eP_Mnd, Cat.cells, Mnd.cells]
   repeat (with_reducible refine And.intro ?_ ?_; · first | assumption | omega | (simp; done) | (simp; omega) | simp_all)
   refine hK _ ?_
   clear hK K
   refine tn ?_
   refine w_weak (st' := ⟨[(1, .adr 0 0 0), (3, .adr 1 0 0), (4, .own 2 0 s24.1.length), (5, .val (.int .i64 s24.2)), (15, .val (.bool (decide (s24.2 < m_.f.s.n))))], [(0, .mix 14 [(Mnd.cells true m_)]), (1, .mix 5 [(Cat.cells true m_.f.s)]), (2, .row 1 (Ls s24.1))], 3⟩) (Wk.r1 [(0, 0), (1, 1), (2, 2)] (by simp [hP, hhOk, back, Cat.cells, Mnd.cells, IA, I1, LA, L1, BA, B1, EA, E1, E2, eB, eI, eL])) ?_
   refine w_cond rfl (fun g => ?_) fun g => ?_
   · have g25 : s24.2 < m_.f.s.n := by first | simpa using g | (simp at g; exact g) | (simp at g; omega)
     clear g
     replace h := if_l g25 h
     refine w_skip ?_
     refine tn ?_
     refine w_seq ?_
     replace h := bind_some h
     obtain ⟨e26, h, h26⟩ := h
     refine w_joinT (fun b26 : List (List Int) => ⟨[(1, .adr 0 0 0), (3, .adr 1 0 0), (4, .own 2 0 b26.length), (5, .val (.int .i64 s24.2))], [(0, .mix 14 [(Mnd.cells true m_)]), (1, .mix 5 [(Cat.cells true m_.f.s)]), (2, .row 1 (Ls b26))], 3⟩) (fun b26 => b26 = e26) ?_ ?_
     · refine w_block ?_
       refine w_seq ?_
       refine w_run mo (by rw [hN]; decide) fun K hK => ?_
       replace h := ass_some h
       obtain ⟨a27, h⟩ := h
       simp [-guardE_b, -Is_at, -Is_at', -Ls_at, -Ls_at', eL, eI, allInts, eP_Cat, eP_Mnd, Cat.cells, Mnd.cells, at_I a27]
       repeat (with_reducible refine And.intro ?_ ?_; · first | assumption | omega | (simp; done) | (simp; omega) | simp_all)
       replace h := bind_some h
       obtain ⟨v28, hv28, h⟩ := h
       refine callA_intro (w_s_l02Hom _ _ _ v28 hv28) (.cons (.aggL (.cons .val (.cons .lst (.cons .lst (.cons .lst (.cons .lst .nil)))))) (.cons .val (.cons .val .nil))) ?_
       simp [-guardE_b, -Is_at, -Is_at', -Ls_at, -Ls_at', unk, unA, unE, unT, unC, flat, eL, eI, allInts, eP_Cat, eP_Mnd, Cat.cells, Mnd.cells]
       repeat (with_reducible refine And.intro ?_ ?_; · first | assumption | omega | (simp; done) | (simp; omega) | simp_all)
       refine hK _ ?_
       clear hK K
       refine tn ?_
       refine w_weak (st' := ⟨[(1, .adr 0 0 0), (3, .adr 1 0 0), (4, .own 2 0 s24.1.length), (5, .val (.int .i64 s24.2)), (6, .own 3 0 v28.length)], [(0, .mix 14 [(Mnd.cells true m_)]), (1, .mix 5 [(Cat.cells true m_.f.s)]), (2, .row 1 (Ls s24.1)), (3, .row 1 (Is v28))], 4⟩) (Wk.r1 [(0, 0), (1, 1), (2, 2), (3, 3)] (by simp [hP, hhOk, back, Cat.cells, Mnd.cells, IA, I1, LA, L1, BA, B1, EA, E1, E2, eB, eI, eL])) ?_
       refine w_seq ?_
       refine w_run mo (by rw [hN]; decide) fun K hK => ?_
       simp [-guardE_b, -Is_at, -Is_at', -Ls_at, -Ls_at', eL, eI, allInts, eP_Cat, eP_Mnd, Cat.cells, Mnd.cells]
       repeat (with_reducible refine And.intro ?_ ?_; · first | assumption | omega | (simp; done) | (simp; omega) | simp_all)
       refine hK _ ?_
       clear hK K
       refine tn ?_
       refine w_weak (st' := ⟨[(1, .adr 0 0 0), (3, .adr 1 0 0), (4, .own 2 0 s24.1.length), (5, .val (.int .i64 s24.2)), (6, .own 3 0 v28.length), (7, .val (.int .i64 0))], [(0, .mix 14 [(Mnd.cells true m_)]), (1, .mix 5 [(Cat.cells true m_.f.s)]), (2, .row 1 (Ls s24.1)), (3, .row 1 (Is v28))], 4⟩) (Wk.r1 [(0, 0), (1, 1), (2, 2), (3, 3)] (by simp [hP, hhOk, back, Cat.cells, Mnd.cells, IA, I1, LA, L1, BA, B1, EA, E1, E2, eB, eI, eL])) ?_
       refine w_block ?_
       replace h := bind_some h
       obtain ⟨e37, he37, h37⟩ := h
       refine w_loopF he37 (fun s37 : List (List Int) × Int => ⟨[(1, .adr 0 0 0), (3, .adr 1 0 0), (4, .own 2 0 s37.1.length), (5, .val (.int .i64 s24.2)), (6, .own 3 0 v28.length), (7, .val (.int .i64 s37.2))], [(0, .mix 14 [(Mnd.cells true m_)]), (1, .mix 5 [(Cat.cells true m_.f.s)]), (2, .row 1 (Ls s37.1)), (3, .row 1 (Is v28))], 4⟩) (Wk.r1 [(0, 0), (1, 1), (2, 2), (3, 3)] (by simp [hP, hhOk, back, Cat.cells, Mnd.cells, IA, I1, LA, L1, BA, B1, EA, E1, E2, eB, eI, eL])) ?_
       intro k37 s37 c37 h hk37
       refine w_seq ?_
       refine w_seq ?_
       refine w_run mo (by rw [hN]; decide) fun K hK => ?_
       simp [-guardE_b, -Is_at, -Is_at', -Ls_at, -Ls_at', eL, eI, allInts, eP_Cat, eP_Mnd, Cat.cells, Mnd.cells]
       repeat (with_reducible refine And.intro ?_ ?_; · first | assumption | omega | (simp; done) | (simp; omega) | simp_all)
       refine hK _ ?_
       clear hK K
       refine tn ?_
       refine w_weak (st' := ⟨[(1, .adr 0 0 0), (3, .adr 1 0 0), (4, .own 2 0 s37.1.length), (5, .val (.int .i64 s24.2)), (6, .own 3 0 v28.length), (7, .val (.int .i64 s37.2)), (30, .val (.bool (decide (s37.2 < (v28.length : Int)))))], [(0, .mix 14 [(Mnd.cells true m_)]), (1, .mix 5 [(Cat.cells true m_.f.s)]), (2, .row 1 (Ls s37.1)), (3, .row 1 (Is v28))], 4⟩) (Wk.r1 [(0, 0), (1, 1), (2, 2), (3, 3)] (by simp [hP, hhOk, back, Cat.cells, Mnd.cells, IA, I1, LA, L1, BA, B1, EA, E1, E2, eB, eI, eL])) ?_
       refine w_cond rfl (fun g => ?_) fun g => ?_
       · have g38 : s37.2 < (v28.length : Int) := by first | simpa using g | (simp at g; exact g) | (simp at g; omega)
         clear g
         replace h := if_l g38 h
         refine w_skip ?_
         refine tn ?_
         refine w_seq ?_
         replace h := bind_some h
         obtain ⟨e39, h, h39⟩ := h
         refine w_joinT (fun b39 : List (List Int) => ⟨[(1, .adr 0 0 0), (3, .adr 1 0 0), (4, .own 2 0 b39.length), (5, .val (.int .i64 s24.2)), (6, .own 3 0 v28.length), (7, .val (.int .i64 s37.2))], [(0, .mix 14 [(Mnd.cells true m_)]), (1, .mix 5 [(Cat.cells true m_.f.s)]), (2, .row 1 (Ls b39)), (3, .row 1 (Is v28))], 4⟩) (fun b39 => b39 = e39) ?_ ?_
         · refine w_block ?_
           refine w_seq ?_
           refine w_run mo (by rw [hN]; decide) fun K hK => ?_
           replace h := ass_some h
           obtain ⟨a40, h⟩ := h
           simp [-guardE_b, -Is_at, -Is_at', -Ls_at, -Ls_at', eL, eI, allInts, eP_Cat, eP_Mnd, Cat.cells, Mnd.cells, at_I a40]
           repeat (with_reducible refine And.intro ?_ ?_; · first | assumption | omega | (simp; done) | (simp; omega) | simp_all)
           replace h := bind_some h
           obtain ⟨v41, hv41, h⟩ := h
           refine callA_intro (w_s_l17Is _ _ _ v41 hv41) (.cons (.aggL (.cons .val (.cons .lst (.cons .lst (.cons .lst (.cons .lst (.cons .val (.cons .lst (.cons .lst (.cons .lst (.cons .lst (.cons .lst (.cons .lst (.cons .lst (.cons .lst .nil))))))))))))))) (.cons .val (.cons .val .nil))) ?_
           simp [-guardE_b, -Is_at, -Is_at', -Ls_at, -Ls_at', unk, unA, unE, unT, unC, flat, eL, eI, allInts, eP_Cat, eP_Mnd, Cat.cells, Mnd.cells]
           repeat (with_reducible refine And.intro ?_ ?_; · first | assumption | omega | (simp; done) | (simp; omega) | simp_all)
           refine hK _ ?_
           clear hK K
           refine tn ?_
           refine w_weak (st' := ⟨[(1, .adr 0 0 0), (3, .adr 1 0 0), (4, .own 2 0 s37.1.length), (5, .val (.int .i64 s24.2)), (6, .own 3 0 v28.length), (7, .val (.int .i64 s37.2)), (39, .val (.bool v41))], [(0, .mix 14 [(Mnd.cells true m_)]), (1, .mix 5 [(Cat.cells true m_.f.s)]), (2, .row 1 (Ls s37.1)), (3, .row 1 (Is v28))], 4⟩) (Wk.r1 [(0, 0), (1, 1), (2, 2), (3, 3)] (by simp [hP, hhOk, back, Cat.cells, Mnd.cells, IA, I1, LA, L1, BA, B1, EA, E1, E2, eB, eI, eL])) ?_
           refine w_cond rfl (fun g => ?_) fun g => ?_
           · have g42 : v41 = true := by first | simpa using g | (simp at g; exact g) | (simp at g; omega)
             clear g
             replace h := if_l g42 h
             refine w_run mo (by rw [hN]; decide) fun K hK => ?_
             replace h := ass_some h
             obtain ⟨a43, h⟩ := h
             replace h := ass_some h
             obtain ⟨a44, h⟩ := h
             try simp only [List.length_append, List.length_cons, List.length_nil] at a44
             simp [-guardE_b, -Is_at, -Is_at', -Ls_at, -Ls_at', eL, eI, allInts, eP_Cat, eP_Mnd, Cat.cells, Mnd.cells, at_I a43, a44]
             repeat (with_reducible refine And.intro ?_ ?_; · first | assumption | omega | (simp; done) | (simp; omega) | simp_all)
             refine hK _ ?_
             clear hK K
             refine bn ?_
             exact jn (b := s37.1 ++ [[s24.2, ix v28 s37.2]]) (Option.some.inj h) (Wk.r1 [(0, 0), (1, 1), (7, 2), (3, 3)] (by simp [hP, hhOk, back, Cat.cells, Mnd.cells, IA, I1, LA, L1, BA, B1, EA, E1, E2, eB, eI, eL]))
           have g42 : ¬ (v41 = true) := by first | simpa using g | (simp at g; exact g) | (simp at g; omega)
           clear g
           replace h := if_r g42 h
           refine w_skip ?_
           refine bn ?_
           exact jn (b := s37.1) (Option.some.inj h) (Wk.r1 [(0, 0), (1, 1), (2, 2), (3, 3)] (by simp [hP, hhOk, back, Cat.cells, Mnd.cells, IA, I1, LA, L1, BA, B1, EA, E1, E2, eB, eI, eL]))
         intro b39 hb39
         have h := h39
         rw [← hb39] at h
         clear h39
         try dsimp only at h
         refine w_run mo (by rw [hN]; decide) fun K hK => ?_
         replace h := ass_some h
         obtain ⟨a45, h⟩ := h
         simp [-guardE_b, -Is_at, -Is_at', -Ls_at, -Ls_at', eL, eI, allInts, eP_Cat, eP_Mnd, Cat.cells, Mnd.cells, wrap_id a45]
         repeat (with_reducible refine And.intro ?_ ?_; · first | assumption | omega | (simp; done) | (simp; omega) | simp_all)
         refine hK _ ?_
         clear hK K
         cases h
         exact rn (s' := (b39, s37.2 + 1)) hk37 (Wk.r1 [(0, 0), (1, 1), (2, 2), (3, 3)] (by simp [hP, hhOk, back, Cat.cells, Mnd.cells, IA, I1, LA, L1, BA, B1, EA, E1, E2, eB, eI, eL]))
       have g38 : ¬ (s37.2 < (v28.length : Int)) := by first | simpa using g | (simp at g; exact g) | (simp at g; omega)
       clear g
       replace h := if_r g38 h
       refine w_exit ?_
       refine tx ?_
       refine lx ?_
       refine bh ?_
       refine bn ?_
       cases h
       have q : _ = e37 := hk37
       have h := h37
       rw [← q] at h
       clear q
       try dsimp only at h
       exact jn (b := s37.1) (Option.some.inj h) (Wk.r1 [(0, 0), (1, 1), (2, 2)] (by simp [hP, hhOk, back, Cat.cells, Mnd.cells, IA, I1, LA, L1, BA, B1, EA, E1, E2, eB, eI, eL]))
     intro b26 hb26
     have h := h26
     rw [← hb26] at h
     clear h26
     try dsimp only at h
     refine w_run mo (by rw [hN]; decide) fun K hK => ?_
     replace h := ass_some h
     obtain ⟨a46, h⟩ := h
     simp [-guardE_b, -Is_at, -Is_at', -Ls_at, -Ls_at', eL, eI, allInts, eP_Cat, eP_Mnd, Cat.cells, Mnd.cells, wrap_id a46]
     repeat (with_reducible refine And.intro ?_ ?_; · first | assumption | omega | (simp; done) | (simp; omega) | simp_all)
     refine hK _ ?_
     clear hK K
     cases h
     exact rn (s' := (b26, s24.2 + 1)) hk24 (Wk.r1 [(0, 0), (1, 1), (2, 2)] (by simp [hP, hhOk, back, Cat.cells, Mnd.cells, IA, I1, LA, L1, BA, B1, EA, E1, E2, eB, eI, eL]))
   have g25 : ¬ (s24.2 < m_.f.s.n) := by first | simpa using g | (simp at g; exact g) | (simp at g; omega)
   clear g
   replace h := if_r g25 h
   refine w_exit ?_
   refine tx ?_
   refine lx ?_
   refine bh ?_
   cases h
   exact jn (b := s24.1) hk24 (Wk.r1 [(2, 0)] (by simp [hP, hhOk, back, Cat.cells, Mnd.cells, IA, I1, LA, L1, BA, B1, EA, E1, E2, eB, eI, eL]))
 intro b1 hb1
 have h := h1
 rw [← hb1] at h
 clear h1
 try dsimp only at h
 refine w_seq ?_
 refine w_run mo (by rw [hN]; decide) fun K hK => ?_
 simp [-guardE_b, -Is_at, -Is_at', -Ls_at, -Ls_at', eL, eI, allInts, eP_Cat, eP_Mnd, Cat.cells, Mnd.cells]
 repeat (with_reducible refine And.intro ?_ ?_; · first | assumption | omega | (simp; done) | (simp; omega) | simp_all)
 refine hK _ ?_
 clear hK K
 refine tn ?_
 refine w_weak (st' := ⟨[(2, .own 0 0 b1.length)], [(0, .row 1 (Ls b1))], 1⟩) (Wk.r1 [(0, 0)] (by simp [hP, hhOk, back, Cat.cells, Mnd.cells, IA, I1, LA, L1, BA, B1, EA, E1, E2, eB, eI, eL])) ?_
 refine w_ret ?_
 have hr := Option.some.inj h
 rw [← hr]
 refine ⟨_, (.tmp .nil), ?_⟩
 refine ⟨(.one rfl rfl .nil), [.lst true 1 (Ls b1)], [0], by simp [Cat.cells, Mnd.cells, IA, I1, LA, L1, BA, B1, EA, E1, E2, eB, eI, eL], by simp, (UpL.refl _)⟩
end Go.Vc.T

set_option maxRecDepth 100000
set_option linter.unusedSimpArgs false
set_option linter.unusedVariables false
namespace Go.Vc.T
open Go Go.Vc Go.Proofs
noncomputable def s_s_AllAlgebras (m_ : Mnd) : Option (List (List Int) × Int) :=
 (s_s_l16Is m_).bind fun v1 =>
 if ¬ (v1 = true) then
   some ([], 1)
 else
   (s_s_l17All m_).bind fun v3 =>
   some (v3, 0)
set_option maxHeartbeats 4000000 in
theorem w_s_AllAlgebras (m_ : Mnd) (r : List (List Int) × Int) (h : s_s_AllAlgebras m_ = some r) : Contract Try.prog 25 [.agg (m_.cells true)] (.tup [.lst true 1 (Ls r.1), .val (.int .i64 r.2)]) := by
 refine contract_introG (rvs := [.tmp 2, .tmp 3]) (rs := [.lst true 1 (Ls r.1), .val (.int .i64 r.2)]) Try.func25 rfl rfl rfl rfl (by simp [Try.f25]) fun F hN hP => ?_
 unfold s_s_AllAlgebras at h
 refine w_seq ?_
 refine w_run mo (by rw [hN]; decide) fun K hK => ?_
 simp [-guardE_b, -Is_at, -Is_at', -Ls_at, -Ls_at', eL, eI, allInts, eP_Mnd, Mnd.cells]
 repeat (with_reducible refine And.intro ?_ ?_; · first | assumption | omega | (simp; done) | (simp; omega) | simp_all)
 refine hK _ ?_
 clear hK K
 refine tn ?_
 refine w_weak (st' := ⟨[(1, .adr 0 0 0)], [(0, .mix 14 [(Mnd.cells true m_)])], 1⟩) (Wk.r1 [(0, 0)] (by simp [hP, hhOk, back, Mnd.cells, IA, I1, LA, L1, BA, B1, EA, E1, E2, eB, eI, eL])) ?_
 refine w_seq ?_
 refine w_seq ?_
 refine w_run mo (by rw [hN]; decide) fun K hK => ?_
 simp [-guardE_b, -Is_at, -Is_at', -Ls_at, -Ls_at', eL, eI, allInts, eP_Mnd, Mnd.cells]
 repeat (with_reducible refine And.intro ?_ ?_; · first | assumption | omega | (simp; done) | (simp; omega) | simp_all)
 replace h := bind_some h
 obtain ⟨v1, hv1, h⟩ := h
 refine callA_intro (w_s_l16Is _ v1 hv1) (.cons (.aggL (.cons .val (.cons .lst (.cons .lst (.cons .lst (.cons .lst (.cons .val (.cons .lst (.cons .lst (.cons .lst (.cons .lst (.cons .lst (.cons .lst (.cons .lst (.cons .lst .nil))))))))))))))) .nil) ?_
 simp [-guardE_b, -Is_at, -Is_at', -Ls_at, -Ls_at', unk, unA, unE, unT, unC, flat, eL, eI, allInts, eP_Mnd, Mnd.cells]
 repeat (with_reducible refine And.intro ?_ ?_; · first | assumption | omega | (simp; done) | (simp; omega) | simp_all)
 refine hK _ ?_
 clear hK K
 refine tn ?_
 refine w_weak (st' := ⟨[(1, .adr 0 0 0), (6, .val (.bool (!v1)))], [(0, .mix 14 [(Mnd.cells true m_)])], 1⟩) (Wk.r1 [(0, 0)] (by simp [hP, hhOk, back, Mnd.cells, IA, I1, LA, L1, BA, B1, EA, E1, E2, eB, eI, eL])) ?_
 refine w_cond rfl (fun g => ?_) fun g => ?_
 · have g2 : ¬ (v1 = true) := by first | simpa using g | (simp at g; exact g) | (simp at g; omega)
   clear g
   replace h := if_l g2 h
   refine w_seq ?_
   refine w_run mo (by rw [hN]; decide) fun K hK => ?_
   simp [-guardE_b, -Is_at, -Is_at', -Ls_at, -Ls_at', eL, eI, allInts, eP_Mnd, Mnd.cells]
   repeat (with_reducible refine And.intro ?_ ?_; · first | assumption | omega | (simp; done) | (simp; omega) | simp_all)
   refine hK _ ?_
   clear hK K
   refine tn ?_
   refine w_weak (st' := ⟨[(2, .val (.slice none 0 0)), (3, .val (.int .i64 1))], [], 0⟩) (Wk.r1 [] (by simp [hP, hhOk, back, Mnd.cells, IA, I1, LA, L1, BA, B1, EA, E1, E2, eB, eI, eL])) ?_
   refine w_ret ?_
   refine tr ?_
   have hr := Option.some.inj h
   rw [← hr]
   refine ⟨_, (.tmp (.tmp .nil)), ?_⟩
   refine ⟨(.one rfl rfl (.one rfl rfl .nil)), [.val (.slice none 0 0), .val (.int .i64 1)], [], by simp [Mnd.cells, IA, I1, LA, L1, BA, B1, EA, E1, E2, eB, eI, eL], by simp, (.cons .nil (.cons .refl .nil))⟩
 have g2 : ¬ (¬ (v1 = true)) := by first | simpa using g | (simp at g; exact g) | (simp at g; omega)
 clear g
 replace h := if_r g2 h
 refine w_skip ?_
 refine tn ?_
 refine w_seq ?_
 refine w_run mo (by rw [hN]; decide) fun K hK => ?_
 simp [-guardE_b, -Is_at, -Is_at', -Ls_at, -Ls_at', eL, eI, allInts, eP_Mnd, Mnd.cells]
 repeat (with_reducible refine And.intro ?_ ?_; · first | assumption | omega | (simp; done) | (simp; omega) | simp_all)
 replace h := bind_some h
 obtain ⟨v3, hv3, h⟩ := h
 refine callA_intro (w_s_l17All _ v3 hv3) (.cons (.aggL (.cons .val (.cons .lst (.cons .lst (.cons .lst (.cons .lst (.cons .val (.cons .lst (.cons .lst (.cons .lst (.cons .lst (.cons .lst (.cons .lst (.cons .lst (.cons .lst .nil))))))))))))))) .nil) ?_
 simp [-guardE_b, -Is_at, -Is_at', -Ls_at, -Ls_at', unk, unA, unE, unT, unC, flat, eL, eI, allInts, eP_Mnd, Mnd.cells]
 repeat (with_reducible refine And.intro ?_ ?_; · first | assumption | omega | (simp; done) | (simp; omega) | simp_all)
 refine hK _ ?_
 clear hK K
 refine tn ?_
 refine w_weak (st' := ⟨[(2, .own 0 0 v3.length), (3, .val (.int .i64 0))], [(0, .row 1 (Ls v3))], 1⟩) (Wk.r1 [(1, 0)] (by simp [hP, hhOk, back, Mnd.cells, IA, I1, LA, L1, BA, B1, EA, E1, E2, eB, eI, eL])) ?_
 refine w_ret ?_
 have hr := Option.some.inj h
 rw [← hr]
 refine ⟨_, (.tmp (.tmp .nil)), ?_⟩
 refine ⟨(.one rfl rfl (.one rfl rfl .nil)), [.lst true 1 (Ls v3), .val (.int .i64 0)], [0], by simp [Mnd.cells, IA, I1, LA, L1, BA, B1, EA, E1, E2, eB, eI, eL], by simp, (UpL.refl _)⟩
end Go.Vc.T

set_option maxRecDepth 100000
set_option linter.unusedSimpArgs false
set_option linter.unusedVariables false
namespace Go.Vc.T
open Go Go.Vc Go.Proofs
theorem fm_bind {α ε β : Type} {body : List α × Int → Option (Ctl (List α × Int) ε)} {K : ε → Option β} {r : Option β} {a0 : List α} (xs : List Int) (q : Int → Prop) (v : Int → α) {e : ε} (hn : xs.length < 4611686018427387904)
   (h : ∀ (i : Nat) (acc : List α), i < xs.length → acc.length ≤ a0.length + i → (q (ix xs i) → body (acc, (i : Int)) = some (.next (acc ++ [v (ix xs i)], (i : Int) + 1))) ∧ (¬ q (ix xs i) → body (acc, (i : Int)) = some (.next (acc, (i : Int) + 1))))
   (he : body (a0 ++ (xs.filter (fun f => bo (q f))).map v, (xs.length : Int)) = some (.ret e)) (hk : K e = r) : (loopF body fuel (a0, 0)).bind K = r := by
 refine acc_bind xs.length (fun i => a0 ++ ((xs.take i).filter fun f => bo (q f)).map v) (e := e) (by simp) hn (fun i hi => ?_) (by simpa using he) hk
 have hl : ((xs.take i).filter fun f => bo (q f)).length ≤ i := Nat.le_trans (List.length_filter_le _ _) (by simp; omega)
 have hs : xs.take (i + 1) = xs.take i ++ [ix xs i] := by rw [List.take_succ_eq_append_getElem hi, at_ix _ _ hi]
 have hf : ((xs.take (i + 1)).filter fun f => bo (q f)) = ((xs.take i).filter fun f => bo (q f)) ++ (if bo (q (ix xs i)) = true then [ix xs i] else []) := by rw [hs, List.filter_append]; simp [List.filter_cons]
 obtain ⟨h1, h2⟩ := h i (a0 ++ ((xs.take i).filter fun f => bo (q f)).map v) hi (by simp; exact hl)
 by_cases hq : q (ix xs i)
 · rw [h1 hq, hf, bo_pos hq]; simp
 rw [h2 hq, hf, bo_neg hq]; simp
theorem mapg_bind {γ α ε β : Type} [Inhabited γ] {body : List α × Int → Option (Ctl (List α × Int) ε)} {K : ε → Option β} {r : Option β} (xs : List γ) (q : γ → α) {e : ε} (hn : xs.length < 4611686018427387904)
   (h : ∀ (i : Nat) (acc : List α), i < xs.length → acc.length = i → body (acc, (i : Int)) = some (.next (acc ++ [q (gx xs i)], (i : Int) + 1)))
   (he : body (xs.map q, (xs.length : Int)) = some (.ret e)) (hk : K e = r) : (loopF body fuel ([], 0)).bind K = r := by
 refine acc_bind xs.length (fun i => (xs.take i).map q) (e := e) (by simp) hn (fun i hi => ?_) (by simpa using he) hk
 have hg : gx xs i = xs[i] := by simp [gx, List.getD_eq_getElem?_getD, hi]
 have hs : xs.take (i + 1) = xs.take i ++ [gx xs i] := by rw [List.take_succ_eq_append_getElem hi, hg]
 rw [h i _ hi (by simp; omega), hs]; simp
noncomputable def algL (m : Mnd) (x : Int) : List Int := (homL m.f.s (ix m.f.ob x) x).filter fun h => bo (Alg m x h)
noncomputable def algAll {α : Type} (m : Mnd) (v : Int → Int → α) (n : Nat) : List α := (List.range n).flatMap fun (x : Nat) => (algL m (x : Int)).map (v (x : Int))
theorem algAll_succ {α : Type} (m : Mnd) (v : Int → Int → α) (n : Nat) : algAll m v (n + 1) = algAll m v n ++ (algL m n).map (v n) := by
 simp [algAll, List.range_succ]
theorem algL_len (m : Mnd) (x : Int) : (algL m x).length ≤ m.f.s.fr.length := Nat.le_trans (List.length_filter_le _ _) (homL_len _ _ _)
theorem algAll_len {α : Type} (m : Mnd) (v : Int → Int → α) (h : m.f.s.fr.length ≤ 40) (n : Nat) : (algAll m v n).length ≤ n * 40 := by
 induction n with
 | zero => simp [algAll]
 | succ n ih =>
   have := algL_len m n
   rw [algAll_succ, List.length_append, List.length_map]
   omega
theorem e_l17All {m : Mnd} (hm : m.Is) : s_s_l17All m = some (algAll m (fun x h => [x, h]) m.f.s.n.toNat) := by
 obtain ⟨l1, l2, l3, l4, l5, l6, l7, l8, l9⟩ := hm.pre.len
 have hc := hm.pre.f.s
 unfold s_s_l17All
 refine acc_bind m.f.s.n.toNat (fun i => algAll m (fun x h => [x, h]) i) (e := algAll m (fun x h => [x, h]) m.f.s.n.toNat) rfl (by omega) (fun i hi => ?_) (by simp; try omega) rfl
 have hL := algAll_len m (fun x h => [x, h]) (by omega) i
 have hH := homL_len m.f.s (ix m.f.ob i) i
 simp only
 rw [if_pos (by omega), ass_pos (by omega), (e_homs hc _ _).1]
 simp only [Option.bind_some, Option.bind_assoc]
 refine fm_bind (homL m.f.s (ix m.f.ob i) i) (fun h => Alg m i h) (fun h => [(i : Int), h]) (e := algAll m (fun x h => [x, h]) (i + 1)) (by omega) (fun k acc hk ha => ?_) (by simp [algAll_succ, algL]) ?_
 · have af := mem_ix homL_mem hk
   have b1 := af.1
   have g := (e_alg hm (x := i) (h := ix (homL m.f.s (ix m.f.ob i) i) k) (by omega) b1).1
   refine ⟨fun hq => ?_, fun hq => ?_⟩
   · rw [bo_pos hq] at g
     simp (disch := omega) only [ass_pos, g, Option.bind_some]; simp (disch := omega) [ass_pos, B64, hk]; try omega
   rw [bo_neg hq] at g
   simp (disch := omega) only [ass_pos, g, Option.bind_some]; simp (disch := omega) [ass_pos, B64, hk]; try omega
 try simp only [Option.bind_some]
 rw [ass_pos (by unfold B64; omega)]
theorem e_allAlg {m : Mnd} (hm : m.Is) : s_i_Monad_allAlgebras m = some (algAll m (fun x h => (⟨x, h⟩ : XAlgebra)) m.f.s.n.toNat) := by
 obtain ⟨l1, l2, l3, l4, l5, l6, l7, l8, l9⟩ := hm.pre.len
 have hc := hm.pre.f.s
 unfold s_i_Monad_allAlgebras
 refine acc_bind m.f.s.n.toNat (fun i => algAll m (fun x h => (⟨x, h⟩ : XAlgebra)) i) (e := algAll m (fun x h => (⟨x, h⟩ : XAlgebra)) m.f.s.n.toNat) rfl (by omega) (fun i hi => ?_) (by simp; try omega) rfl
 have hL := algAll_len m (fun x h => (⟨x, h⟩ : XAlgebra)) (by omega) i
 have hH := homL_len m.f.s (ix m.f.ob i) i
 simp only
 rw [if_pos (by omega)]
 unfold s_i_Monad_object
 rw [ass_pos (by omega)]
 simp only [Option.bind_some]
 rw [(e_homs hc _ _).2]
 simp only [Option.bind_some, Option.bind_assoc]
 refine fm_bind (homL m.f.s (ix m.f.ob i) i) (fun h => Alg m i h) (fun h => (⟨(i : Int), h⟩ : XAlgebra)) (e := algAll m (fun x h => (⟨x, h⟩ : XAlgebra)) (i + 1)) (by omega) (fun k acc hk ha => ?_) (by simp [algAll_succ, algL]) ?_
 · have af := mem_ix homL_mem hk
   have b1 := af.1
   have g := (e_alg hm (x := i) (h := ix (homL m.f.s (ix m.f.ob i) i) k) (by omega) b1).2
   refine ⟨fun hq => ?_, fun hq => ?_⟩
   · rw [bo_pos hq] at g
     simp (disch := omega) only [ass_pos, g, Option.bind_some]; simp (disch := omega) [ass_pos, B64, hk]; try omega
   rw [bo_neg hq] at g
   simp (disch := omega) only [ass_pos, g, Option.bind_some]; simp (disch := omega) [ass_pos, B64, hk]; try omega
 try simp only [Option.bind_some]
 rw [ass_pos (by unfold B64; omega)]
theorem m_AllAlgebras (m : Mnd) : ∃ r, s_s_AllAlgebras m = some r ∧ s_i_AllAlgebras m = some r ∧ (r.1.length ≤ 1048576 ∧ ∀ x ∈ r.1, x.length ≤ 1048576) ∧ sumL r.1 ≤ 1000 := by
 unfold s_s_AllAlgebras s_i_AllAlgebras
 rw [e_l16Is, e_isMonad]
 by_cases hm : m.Is
 case neg => exact ⟨([], 1), by simp [bo_neg hm], by simp [bo_neg hm], by simp [sumL]⟩
 obtain ⟨l1, l2, l3, l4, l5, l6, l7, l8, l9⟩ := hm.pre.len
 have hL := algAll_len m (fun x h => [x, h]) (by omega) m.f.s.n.toNat
 have hL2 := algAll_len m (fun x h => (⟨x, h⟩ : XAlgebra)) (by omega) m.f.s.n.toNat
 have hr : ∀ x ∈ algAll m (fun x h => [x, h]) m.f.s.n.toNat, x.length ≤ 2 := by
   intro x hx
   simp only [algAll, List.mem_flatMap, List.mem_map] at hx
   obtain ⟨_, _, _, _, rfl⟩ := hx
   simp
 have hs := sumL_b hr
 refine ⟨(algAll m (fun x h => [x, h]) m.f.s.n.toNat, 0), ?_, ?_, ⟨by simp only; omega, fun x hx => by have := hr x hx; omega⟩, by simp only; omega⟩
 · simp [bo_pos hm, e_l17All hm]
 simp only [bo_pos hm, not_true_eq_false, if_false, Option.bind_some, e_allAlg hm]
 refine mapg_bind (algAll m (fun x h => (⟨x, h⟩ : XAlgebra)) m.f.s.n.toNat) (fun a => [a.x_, a.h_]) (e := algAll m (fun x h => [x, h]) m.f.s.n.toNat) (by omega) (fun i acc hi ha => ?_) ?_ rfl
 · simp (disch := omega) [ass_pos, B64]; try omega
 have : (algAll m (fun x h => (⟨x, h⟩ : XAlgebra)) m.f.s.n.toNat).map (fun a => [a.x_, a.h_]) = algAll m (fun x h => [x, h]) m.f.s.n.toNat := by
   simp [algAll, List.map_flatMap, Function.comp_def]
 rw [this]; simp
end Go.Vc.T
