/- A part of the proof: a verified generator of conditions, and what each function of the program does. -/
import Derived.Test.YtkafionfghoggaaT5
set_option maxRecDepth 100000
set_option linter.unusedSimpArgs false
set_option linter.unusedVariables false

set_option maxRecDepth 100000
set_option linter.unusedSimpArgs false
set_option linter.unusedVariables false
namespace Go.Vc.T
open Go Go.Vc Go.Proofs
noncomputable def s_s_l06Make (c_ : Cat) (d_ : Cat) (objects_ : List Int) (arrows_ : List Int) : Option Fn :=
 (s_s_l02Own c_).bind fun v1 =>
 (s_s_l02Own d_).bind fun v2 =>
 (s_s_l01Own objects_).bind fun v3 =>
 (s_s_l01Own arrows_).bind fun v4 =>
 some (⟨v1, v2, v3, v4⟩ : Fn)
set_option maxHeartbeats 4000000 in
theorem w_s_l06Make (c_ : Cat) (d_ : Cat) (objects_ : List Int) (arrows_ : List Int) (r : Fn) (h : s_s_l06Make c_ d_ objects_ arrows_ = some r) : Contract Try.prog 163 [.agg (c_.cells true), .agg (d_.cells true), .lst true 1 (Is objects_), .lst true 1 (Is arrows_)] (.agg (r.cells true)) := by
 refine contract_introG (rvs := [.cell 8 35]) (rs := [.agg (r.cells true)]) Try.func163 rfl rfl rfl rfl (by simp [Try.f163]) fun F hN hP => ?_
 unfold s_s_l06Make at h
 refine w_seq ?_
 refine w_run mo (by rw [hN]; decide) fun K hK => ?_
 simp [-guardE_b, -Is_at, -Is_at', -Ls_at, -Ls_at', eL, eI, allInts, eP_Cat, eP_Fn, Cat.cells, Fn.cells]
 repeat (with_reducible refine And.intro ?_ ?_; · first | assumption | omega | (simp; done) | (simp; omega) | simp_all)
 refine hK _ ?_
 clear hK K
 refine tn ?_
 refine w_weak (st' := ⟨[(2, .lst true 1 (Is objects_)), (3, .lst true 1 (Is arrows_)), (4, .adr 0 0 0), (5, .adr 1 0 0), (8, .adr 2 0 0)], [(0, .mix 5 [(Cat.cells true c_)]), (1, .mix 5 [(Cat.cells true d_)]), (2, .mix 12 [[.val (.int .i64 0), .val (.slice none 0 0), .val (.slice none 0 0), .val (.slice none 0 0), .val (.slice none 0 0), .val (.int .i64 0), .val (.slice none 0 0), .val (.slice none 0 0), .val (.slice none 0 0), .val (.slice none 0 0), .val (.slice none 0 0), .val (.slice none 0 0)]])], 3⟩) (Wk.r1 [(0, 0), (1, 1), (2, 2)] (by simp [hP, hhOk, back, Cat.cells, Fn.cells, IA, I1, LA, L1, BA, B1, EA, E1, E2, eB, eI, eL])) ?_
 refine w_seq ?_
 refine w_run mo (by rw [hN]; decide) fun K hK => ?_
 simp [-guardE_b, -Is_at, -Is_at', -Ls_at, -Ls_at', eL, eI, allInts, eP_Cat, eP_Fn, Cat.cells, Fn.cells]
 repeat (with_reducible refine And.intro ?_ ?_; · first | assumption | omega | (simp; done) | (simp; omega) | simp_all)
 replace h := bind_some h
 obtain ⟨v1, hv1, h⟩ := h
 refine callA_intro (w_s_l02Own _ v1 hv1) (.cons (.aggL (.cons .val (.cons .lst (.cons .lst (.cons .lst (.cons .lst .nil)))))) .nil) ?_
 simp [-guardE_b, -Is_at, -Is_at', -Ls_at, -Ls_at', unk, unA, unE, unT, unC, flat, eL, eI, allInts, eP_Cat, eP_Fn, Cat.cells, Fn.cells]
 repeat (with_reducible refine And.intro ?_ ?_; · first | assumption | omega | (simp; done) | (simp; omega) | simp_all)
 replace h := bind_some h
 obtain ⟨v2, hv2, h⟩ := h
 refine callA_intro (w_s_l02Own _ v2 hv2) (.cons (.aggL (.cons .val (.cons .lst (.cons .lst (.cons .lst (.cons .lst .nil)))))) .nil) ?_
 simp [-guardE_b, -Is_at, -Is_at', -Ls_at, -Ls_at', unk, unA, unE, unT, unC, flat, eL, eI, allInts, eP_Cat, eP_Fn, Cat.cells, Fn.cells]
 repeat (with_reducible refine And.intro ?_ ?_; · first | assumption | omega | (simp; done) | (simp; omega) | simp_all)
 replace h := bind_some h
 obtain ⟨v3, hv3, h⟩ := h
 refine callA_intro (w_s_l01Own _ v3 hv3) (.cons .lst .nil) ?_
 simp [-guardE_b, -Is_at, -Is_at', -Ls_at, -Ls_at', unk, unA, unE, unT, unC, flat, eL, eI, allInts, eP_Cat, eP_Fn, Cat.cells, Fn.cells]
 repeat (with_reducible refine And.intro ?_ ?_; · first | assumption | omega | (simp; done) | (simp; omega) | simp_all)
 replace h := bind_some h
 obtain ⟨v4, hv4, h⟩ := h
 refine callA_intro (w_s_l01Own _ v4 hv4) (.cons .lst .nil) ?_
 simp [-guardE_b, -Is_at, -Is_at', -Ls_at, -Ls_at', unk, unA, unE, unT, unC, flat, eL, eI, allInts, eP_Cat, eP_Fn, Cat.cells, Fn.cells]
 repeat (with_reducible refine And.intro ?_ ?_; · first | assumption | omega | (simp; done) | (simp; omega) | simp_all)
 refine hK _ ?_
 clear hK K
 refine tn ?_
 refine w_weak (st' := ⟨[(8, .adr 0 0 0)], [(0, .mix 12 [[.val (.int .i64 v1.n), .own 1 0 v1.fr.length, .own 2 0 v1.to.length, .own 3 0 v1.id.length, .own 4 0 v1.cs.length, .val (.int .i64 v2.n), .own 5 0 v2.fr.length, .own 6 0 v2.to.length, .own 7 0 v2.id.length, .own 8 0 v2.cs.length, .own 9 0 v3.length, .own 10 0 v4.length]]), (1, .row 1 (Is v1.fr)), (2, .row 1 (Is v1.to)), (3, .row 1 (Is v1.id)), (4, .row 1 (Ls v1.cs)), (5, .row 1 (Is v2.fr)), (6, .row 1 (Is v2.to)), (7, .row 1 (Is v2.id)), (8, .row 1 (Ls v2.cs)), (9, .row 1 (Is v3)), (10, .row 1 (Is v4))], 11⟩) (Wk.r1 [(2, 0), (4, 1), (5, 2), (6, 3), (7, 4), (9, 5), (10, 6), (11, 7), (12, 8), (13, 9), (14, 10)] (by simp [hP, hhOk, back, Cat.cells, Fn.cells, IA, I1, LA, L1, BA, B1, EA, E1, E2, eB, eI, eL])) ?_
 refine w_ret ?_
 have hr := Option.some.inj h
 rw [← hr]
 refine ⟨_, (.cell tf_35 rfl rfl rfl (by simp) (by simp) .nil), ?_⟩
 refine ⟨(.agg rfl .nil), [.val (.int .i64 v1.n), .lst true 1 (Is v1.fr), .lst true 1 (Is v1.to), .lst true 1 (Is v1.id), .lst true 1 (Ls v1.cs), .val (.int .i64 v2.n), .lst true 1 (Is v2.fr), .lst true 1 (Is v2.to), .lst true 1 (Is v2.id), .lst true 1 (Ls v2.cs), .lst true 1 (Is v3), .lst true 1 (Is v4)], [1, 2, 3, 4, 5, 6, 7, 8, 9, 10], by simp [Cat.cells, Fn.cells, IA, I1, LA, L1, BA, B1, EA, E1, E2, eB, eI, eL], by simp, (UpL.refl _)⟩
noncomputable def s_i_functor (c_ : Cat) (d_ : Cat) (objects_ : List Int) (arrows_ : List Int) : Option Fn :=
 (s_i_Category_copy c_).bind fun v1 =>
 (s_i_Category_copy d_).bind fun v2 =>
 (s_i_clone objects_).bind fun v3 =>
 (s_i_clone arrows_).bind fun v4 =>
 some (⟨v1, v2, v3, v4⟩ : Fn)
set_option maxHeartbeats 4000000 in
theorem w_i_functor (c_ : Cat) (d_ : Cat) (objects_ : List Int) (arrows_ : List Int) (r : Fn) (h : s_i_functor c_ d_ objects_ arrows_ = some r) : Contract Try.prog 166 [.rptr (c_.cells true), .rptr (d_.cells true), .lst true 1 (Is objects_), .lst true 1 (Is arrows_)] (.agg (r.cells true)) := by
 refine contract_introG (rvs := [.cell 8 35]) (rs := [.agg (r.cells true)]) Try.func166 rfl rfl rfl rfl (by simp [Try.f166]) fun F hN hP => ?_
 unfold s_i_functor at h
 refine w_seq ?_
 refine w_run mo (by rw [hN]; decide) fun K hK => ?_
 simp [-guardE_b, -Is_at, -Is_at', -Ls_at, -Ls_at', eL, eI, allInts, eP_Cat, eP_Fn, Cat.cells, Fn.cells]
 repeat (with_reducible refine And.intro ?_ ?_; · first | assumption | omega | (simp; done) | (simp; omega) | simp_all)
 refine hK _ ?_
 clear hK K
 refine tn ?_
 refine w_weak (st' := ⟨[(0, .rptr (Cat.cells true c_)), (1, .rptr (Cat.cells true d_)), (2, .lst true 1 (Is objects_)), (3, .lst true 1 (Is arrows_)), (8, .adr 0 0 0)], [(0, .mix 12 [[.val (.int .i64 0), .val (.slice none 0 0), .val (.slice none 0 0), .val (.slice none 0 0), .val (.slice none 0 0), .val (.int .i64 0), .val (.slice none 0 0), .val (.slice none 0 0), .val (.slice none 0 0), .val (.slice none 0 0), .val (.slice none 0 0), .val (.slice none 0 0)]])], 1⟩) (Wk.r1 [(0, 0)] (by simp [hP, hhOk, back, Cat.cells, Fn.cells, IA, I1, LA, L1, BA, B1, EA, E1, E2, eB, eI, eL])) ?_
 refine w_seq ?_
 refine w_run mo (by rw [hN]; decide) fun K hK => ?_
 simp [-guardE_b, -Is_at, -Is_at', -Ls_at, -Ls_at', eL, eI, allInts, eP_Cat, eP_Fn, Cat.cells, Fn.cells]
 repeat (with_reducible refine And.intro ?_ ?_; · first | assumption | omega | (simp; done) | (simp; omega) | simp_all)
 replace h := bind_some h
 obtain ⟨v1, hv1, h⟩ := h
 refine callA_intro (w_i_Category_copy _ v1 hv1) (.cons (.preT (by simp [Cat.cells])) .nil) ?_
 simp [-guardE_b, -Is_at, -Is_at', -Ls_at, -Ls_at', unk, unA, unE, unT, unC, flat, eL, eI, allInts, eP_Cat, eP_Fn, Cat.cells, Fn.cells]
 repeat (with_reducible refine And.intro ?_ ?_; · first | assumption | omega | (simp; done) | (simp; omega) | simp_all)
 replace h := bind_some h
 obtain ⟨v2, hv2, h⟩ := h
 refine callA_intro (w_i_Category_copy _ v2 hv2) (.cons (.preT (by simp [Cat.cells])) .nil) ?_
 simp [-guardE_b, -Is_at, -Is_at', -Ls_at, -Ls_at', unk, unA, unE, unT, unC, flat, eL, eI, allInts, eP_Cat, eP_Fn, Cat.cells, Fn.cells]
 repeat (with_reducible refine And.intro ?_ ?_; · first | assumption | omega | (simp; done) | (simp; omega) | simp_all)
 replace h := bind_some h
 obtain ⟨v3, hv3, h⟩ := h
 refine callA_intro (w_i_clone _ v3 hv3) (.cons .lst .nil) ?_
 simp [-guardE_b, -Is_at, -Is_at', -Ls_at, -Ls_at', unk, unA, unE, unT, unC, flat, eL, eI, allInts, eP_Cat, eP_Fn, Cat.cells, Fn.cells]
 repeat (with_reducible refine And.intro ?_ ?_; · first | assumption | omega | (simp; done) | (simp; omega) | simp_all)
 replace h := bind_some h
 obtain ⟨v4, hv4, h⟩ := h
 refine callA_intro (w_i_clone _ v4 hv4) (.cons .lst .nil) ?_
 simp [-guardE_b, -Is_at, -Is_at', -Ls_at, -Ls_at', unk, unA, unE, unT, unC, flat, eL, eI, allInts, eP_Cat, eP_Fn, Cat.cells, Fn.cells]
 repeat (with_reducible refine And.intro ?_ ?_; · first | assumption | omega | (simp; done) | (simp; omega) | simp_all)
 refine hK _ ?_
 clear hK K
 refine tn ?_
 refine w_weak (st' := ⟨[(8, .adr 0 0 0)], [(0, .mix 12 [[.val (.int .i64 v1.n), .own 1 0 v1.fr.length, .own 2 0 v1.to.length, .own 3 0 v1.id.length, .own 4 0 v1.cs.length, .val (.int .i64 v2.n), .own 5 0 v2.fr.length, .own 6 0 v2.to.length, .own 7 0 v2.id.length, .own 8 0 v2.cs.length, .own 9 0 v3.length, .own 10 0 v4.length]]), (1, .row 1 (Is v1.fr)), (2, .row 1 (Is v1.to)), (3, .row 1 (Is v1.id)), (4, .row 1 (Ls v1.cs)), (5, .row 1 (Is v2.fr)), (6, .row 1 (Is v2.to)), (7, .row 1 (Is v2.id)), (8, .row 1 (Ls v2.cs)), (9, .row 1 (Is v3)), (10, .row 1 (Is v4))], 11⟩) (Wk.r1 [(0, 0), (2, 1), (3, 2), (4, 3), (5, 4), (7, 5), (8, 6), (9, 7), (10, 8), (11, 9), (12, 10)] (by simp [hP, hhOk, back, Cat.cells, Fn.cells, IA, I1, LA, L1, BA, B1, EA, E1, E2, eB, eI, eL])) ?_
 refine w_ret ?_
 have hr := Option.some.inj h
 rw [← hr]
 refine ⟨_, (.cell tf_35 rfl rfl rfl (by simp) (by simp) .nil), ?_⟩
 refine ⟨(.agg rfl .nil), [.val (.int .i64 v1.n), .lst true 1 (Is v1.fr), .lst true 1 (Is v1.to), .lst true 1 (Is v1.id), .lst true 1 (Ls v1.cs), .val (.int .i64 v2.n), .lst true 1 (Is v2.fr), .lst true 1 (Is v2.to), .lst true 1 (Is v2.id), .lst true 1 (Ls v2.cs), .lst true 1 (Is v3), .lst true 1 (Is v4)], [1, 2, 3, 4, 5, 6, 7, 8, 9, 10], by simp [Cat.cells, Fn.cells, IA, I1, LA, L1, BA, B1, EA, E1, E2, eB, eI, eL], by simp, (UpL.refl _)⟩
noncomputable def s_s_l15Meets (f_ : Fn) (g_ : Fn) : Option Bool :=
 (
   (s_s_l02Same f_.t g_.s).bind fun v2 =>
   if v2 = true then
     (s_s_l02Same g_.t f_.s).bind fun v4 =>
     some v4
   else
     some false : Option (Bool)).bind fun b1 =>
 some b1
set_option maxHeartbeats 4000000 in
theorem w_s_l15Meets (f_ : Fn) (g_ : Fn) (r : Bool) (h : s_s_l15Meets f_ g_ = some r) : Contract Try.prog 167 [.agg (f_.cells true), .agg (g_.cells true)] (.val (.bool r)) := by
 refine contract_introG (rvs := [.tmp 4]) (rs := [.val (.bool r)]) Try.func167 rfl rfl rfl rfl (by simp [Try.f167]) fun F hN hP => ?_
 unfold s_s_l15Meets at h
 refine w_seq ?_
 refine w_run mo (by rw [hN]; decide) fun K hK => ?_
 simp [-guardE_b, -Is_at, -Is_at', -Ls_at, -Ls_at', eL, eI, allInts, eP_Cat, eP_Fn, Cat.cells, Fn.cells]
 repeat (with_reducible refine And.intro ?_ ?_; · first | assumption | omega | (simp; done) | (simp; omega) | simp_all)
 refine hK _ ?_
 clear hK K
 refine tn ?_
 refine w_weak (st' := ⟨[(2, .adr 0 0 0), (3, .adr 1 0 0)], [(0, .mix 12 [(Fn.cells true f_)]), (1, .mix 12 [(Fn.cells true g_)])], 2⟩) (Wk.r1 [(0, 0), (1, 1)] (by simp [hP, hhOk, back, Cat.cells, Fn.cells, IA, I1, LA, L1, BA, B1, EA, E1, E2, eB, eI, eL])) ?_
 refine w_seq ?_
 replace h := bind_some h
 obtain ⟨e1, h, h1⟩ := h
 refine w_joinT (fun b1 : Bool => ⟨[(4, .val (.bool b1))], [], 0⟩) (fun b1 => b1 = e1) ?_ ?_
 · refine w_run mo (by rw [hN]; decide) fun K hK => ?_
   simp [-guardE_b, -Is_at, -Is_at', -Ls_at, -Ls_at', eL, eI, allInts, eP_Cat, eP_Fn, Cat.cells, Fn.cells]
   repeat (with_reducible refine And.intro ?_ ?_; · first | assumption | omega | (simp; done) | (simp; omega) | simp_all)
   replace h := bind_some h
   obtain ⟨v2, hv2, h⟩ := h
   refine callA_intro (w_s_l02Same _ _ v2 hv2) (.cons (.aggL (.cons .val (.cons .lst (.cons .lst (.cons .lst (.cons .lst .nil)))))) (.cons (.aggL (.cons .val (.cons .lst (.cons .lst (.cons .lst (.cons .lst .nil)))))) .nil)) ?_
   simp [-guardE_b, -Is_at, -Is_at', -Ls_at, -Ls_at', unk, unA, unE, unT, unC, flat, eL, eI, allInts, eP_Cat, eP_Fn, Cat.cells, Fn.cells]
   repeat (with_reducible refine And.intro ?_ ?_; · first | assumption | omega | (simp; done) | (simp; omega) | simp_all)
   refine guard_intro (fun g => ?_) (fun g => ?_)
   · have g3 : v2 = true := by first | simpa using g | (simp at g; exact g) | (simp at g; omega)
     clear g
     replace h := if_l g3 h
     simp [-guardE_b, -Is_at, -Is_at', -Ls_at, -Ls_at', eL, eI, allInts, eP_Cat, eP_Fn, Cat.cells, Fn.cells]
     repeat (with_reducible refine And.intro ?_ ?_; · first | assumption | omega | (simp; done) | (simp; omega) | simp_all)
     replace h := bind_some h
     obtain ⟨v4, hv4, h⟩ := h
     refine callA_intro (w_s_l02Same _ _ v4 hv4) (.cons (.aggL (.cons .val (.cons .lst (.cons .lst (.cons .lst (.cons .lst .nil)))))) (.cons (.aggL (.cons .val (.cons .lst (.cons .lst (.cons .lst (.cons .lst .nil)))))) .nil)) ?_
     simp [-guardE_b, -Is_at, -Is_at', -Ls_at, -Ls_at', unk, unA, unE, unT, unC, flat, eL, eI, allInts, eP_Cat, eP_Fn, Cat.cells, Fn.cells]
     repeat (with_reducible refine And.intro ?_ ?_; · first | assumption | omega | (simp; done) | (simp; omega) | simp_all)
     refine hK _ ?_
     exact jn (b := v4) (Option.some.inj h) (Wk.r1 [] (by simp [hP, hhOk, back, Cat.cells, Fn.cells, IA, I1, LA, L1, BA, B1, EA, E1, E2, eB, eI, eL]))
   have g3 : ¬ (v2 = true) := by first | simpa using g | (simp at g; exact g) | (simp at g; omega)
   clear g
   replace h := if_r g3 h
   simp [-guardE_b, -Is_at, -Is_at', -Ls_at, -Ls_at', eL, eI, allInts, eP_Cat, eP_Fn, Cat.cells, Fn.cells]
   repeat (with_reducible refine And.intro ?_ ?_; · first | assumption | omega | (simp; done) | (simp; omega) | simp_all)
   refine hK _ ?_
   exact jn (b := false) (Option.some.inj h) (Wk.r1 [] (by simp [hP, hhOk, back, Cat.cells, Fn.cells, IA, I1, LA, L1, BA, B1, EA, E1, E2, eB, eI, eL]))
 intro b1 hb1
 have h := h1
 rw [← hb1] at h
 clear h1
 try dsimp only at h
 refine w_ret ?_
 have hr := Option.some.inj h
 rw [← hr]
 refine ⟨_, (.tmp .nil), ?_⟩
 refine ⟨(.one rfl rfl .nil), [.val (.bool b1)], [], by simp [Cat.cells, Fn.cells, IA, I1, LA, L1, BA, B1, EA, E1, E2, eB, eI, eL], by simp, (UpL.refl _)⟩
noncomputable def s_s_l02Unit (c_ : Cat) (f_ : Int) : Option Bool :=
 ass (0 ≤ f_ ∧ f_ < (c_.fr.length : Int)) <|
 ass (0 ≤ ix c_.fr f_ ∧ ix c_.fr f_ < (c_.id.length : Int)) <|
 some ((ix c_.id (ix c_.fr f_)) == f_)
set_option maxHeartbeats 4000000 in
theorem w_s_l02Unit (c_ : Cat) (f_ : Int) (r : Bool) (h : s_s_l02Unit c_ f_ = some r) : Contract Try.prog 170 [.agg (c_.cells true), .val (.int .i64 f_)] (.val (.bool r)) := by
 refine contract_introG (rvs := [.tmp 4]) (rs := [.val (.bool r)]) Try.func170 rfl rfl rfl rfl (by simp [Try.f170]) fun F hN hP => ?_
 unfold s_s_l02Unit at h
 refine w_seq ?_
 refine w_run mo (by rw [hN]; decide) fun K hK => ?_
 simp [-guardE_b, -Is_at, -Is_at', -Ls_at, -Ls_at', eL, eI, allInts, eP_Cat, Cat.cells]
 repeat (with_reducible refine And.intro ?_ ?_; · first | assumption | omega | (simp; done) | (simp; omega) | simp_all)
 refine hK _ ?_
 clear hK K
 refine tn ?_
 refine w_weak (st' := ⟨[(1, .val (.int .i64 f_)), (2, .adr 0 0 0)], [(0, .mix 5 [(Cat.cells true c_)])], 1⟩) (Wk.r1 [(0, 0)] (by simp [hP, hhOk, back, Cat.cells, IA, I1, LA, L1, BA, B1, EA, E1, E2, eB, eI, eL])) ?_
 refine w_seq ?_
 refine w_run mo (by rw [hN]; decide) fun K hK => ?_
 replace h := ass_some h
 obtain ⟨a1, h⟩ := h
 replace h := ass_some h
 obtain ⟨a2, h⟩ := h
 simp [-guardE_b, -Is_at, -Is_at', -Ls_at, -Ls_at', eL, eI, allInts, eP_Cat, Cat.cells, at_I a1, at_I a2]
 repeat (with_reducible refine And.intro ?_ ?_; · first | assumption | omega | (simp; done) | (simp; omega) | simp_all)
 refine hK _ ?_
 clear hK K
 refine tn ?_
 refine w_weak (st' := ⟨[(4, .val (.bool ((ix c_.id (ix c_.fr f_)) == f_)))], [], 0⟩) (Wk.r1 [] (by simp [hP, hhOk, back, Cat.cells, IA, I1, LA, L1, BA, B1, EA, E1, E2, eB, eI, eL])) ?_
 refine w_ret ?_
 have hr := Option.some.inj h
 rw [← hr]
 refine ⟨_, (.tmp .nil), ?_⟩
 refine ⟨(.one rfl rfl .nil), [.val (.bool ((ix c_.id (ix c_.fr f_)) == f_))], [], by simp [Cat.cells, IA, I1, LA, L1, BA, B1, EA, E1, E2, eB, eI, eL], by simp, (UpL.refl _)⟩
noncomputable def s_i_leadBack (f_ : Fn) (g_ : Fn) : Option Bool :=
 (
   (s_i_sameCategory f_.s g_.t).bind fun v2 =>
   if v2 = true then
     (s_i_sameCategory f_.t g_.s).bind fun v4 =>
     some v4
   else
     some false : Option (Bool)).bind fun b1 =>
 some b1
set_option maxHeartbeats 4000000 in
theorem w_i_leadBack (f_ : Fn) (g_ : Fn) (r : Bool) (h : s_i_leadBack f_ g_ = some r) : Contract Try.prog 173 [.rptr (f_.cells true), .rptr (g_.cells true)] (.val (.bool r)) := by
 refine contract_introG (rvs := [.tmp 4]) (rs := [.val (.bool r)]) Try.func173 rfl rfl rfl rfl (by simp [Try.f173]) fun F hN hP => ?_
 unfold s_i_leadBack at h
 refine w_seq ?_
 refine w_run mo (by rw [hN]; decide) fun K hK => ?_
 simp [-guardE_b, -Is_at, -Is_at', -Ls_at, -Ls_at', eL, eI, allInts, eP_Cat, eP_Fn, Cat.cells, Fn.cells]
 repeat (with_reducible refine And.intro ?_ ?_; · first | assumption | omega | (simp; done) | (simp; omega) | simp_all)
 refine hK _ ?_
 clear hK K
 refine tn ?_
 refine w_weak (st' := ⟨[(0, .rptr (Fn.cells true f_)), (1, .rptr (Fn.cells true g_))], [], 0⟩) (Wk.r1 [] (by simp [hP, hhOk, back, Cat.cells, Fn.cells, IA, I1, LA, L1, BA, B1, EA, E1, E2, eB, eI, eL])) ?_
 refine w_seq ?_
 replace h := bind_some h
 obtain ⟨e1, h, h1⟩ := h
 refine w_joinT (fun b1 : Bool => ⟨[(4, .val (.bool b1))], [], 0⟩) (fun b1 => b1 = e1) ?_ ?_
 · refine w_run mo (by rw [hN]; decide) fun K hK => ?_
   simp [-guardE_b, -Is_at, -Is_at', -Ls_at, -Ls_at', eL, eI, allInts, eP_Cat, eP_Fn, Cat.cells, Fn.cells]
   repeat (with_reducible refine And.intro ?_ ?_; · first | assumption | omega | (simp; done) | (simp; omega) | simp_all)
   replace h := bind_some h
   obtain ⟨v2, hv2, h⟩ := h
   refine callA_intro (w_i_sameCategory _ _ v2 hv2) (.cons (.preT (by simp [Cat.cells, Fn.cells])) (.cons (.preT (by simp [Cat.cells, Fn.cells])) .nil)) ?_
   simp [-guardE_b, -Is_at, -Is_at', -Ls_at, -Ls_at', unk, unA, unE, unT, unC, flat, eL, eI, allInts, eP_Cat, eP_Fn, Cat.cells, Fn.cells]
   repeat (with_reducible refine And.intro ?_ ?_; · first | assumption | omega | (simp; done) | (simp; omega) | simp_all)
   refine guard_intro (fun g => ?_) (fun g => ?_)
   · have g3 : v2 = true := by first | simpa using g | (simp at g; exact g) | (simp at g; omega)
     clear g
     replace h := if_l g3 h
     simp [-guardE_b, -Is_at, -Is_at', -Ls_at, -Ls_at', eL, eI, allInts, eP_Cat, eP_Fn, Cat.cells, Fn.cells]
     repeat (with_reducible refine And.intro ?_ ?_; · first | assumption | omega | (simp; done) | (simp; omega) | simp_all)
     replace h := bind_some h
     obtain ⟨v4, hv4, h⟩ := h
     refine callA_intro (w_i_sameCategory _ _ v4 hv4) (.cons (.preT (by simp [Cat.cells, Fn.cells])) (.cons (.preT (by simp [Cat.cells, Fn.cells])) .nil)) ?_
     simp [-guardE_b, -Is_at, -Is_at', -Ls_at, -Ls_at', unk, unA, unE, unT, unC, flat, eL, eI, allInts, eP_Cat, eP_Fn, Cat.cells, Fn.cells]
     repeat (with_reducible refine And.intro ?_ ?_; · first | assumption | omega | (simp; done) | (simp; omega) | simp_all)
     refine hK _ ?_
     exact jn (b := v4) (Option.some.inj h) (Wk.r1 [] (by simp [hP, hhOk, back, Cat.cells, Fn.cells, IA, I1, LA, L1, BA, B1, EA, E1, E2, eB, eI, eL]))
   have g3 : ¬ (v2 = true) := by first | simpa using g | (simp at g; exact g) | (simp at g; omega)
   clear g
   replace h := if_r g3 h
   simp [-guardE_b, -Is_at, -Is_at', -Ls_at, -Ls_at', eL, eI, allInts, eP_Cat, eP_Fn, Cat.cells, Fn.cells]
   repeat (with_reducible refine And.intro ?_ ?_; · first | assumption | omega | (simp; done) | (simp; omega) | simp_all)
   refine hK _ ?_
   exact jn (b := false) (Option.some.inj h) (Wk.r1 [] (by simp [hP, hhOk, back, Cat.cells, Fn.cells, IA, I1, LA, L1, BA, B1, EA, E1, E2, eB, eI, eL]))
 intro b1 hb1
 have h := h1
 rw [← hb1] at h
 clear h1
 try dsimp only at h
 refine w_ret ?_
 have hr := Option.some.inj h
 rw [← hr]
 refine ⟨_, (.tmp .nil), ?_⟩
 refine ⟨(.one rfl rfl .nil), [.val (.bool b1)], [], by simp [Cat.cells, Fn.cells, IA, I1, LA, L1, BA, B1, EA, E1, E2, eB, eI, eL], by simp, (UpL.refl _)⟩
end Go.Vc.T

set_option maxRecDepth 100000
set_option linter.unusedSimpArgs false
set_option linter.unusedVariables false
namespace Go.Vc.T
open Go Go.Vc Go.Proofs
noncomputable def s_i_commutes (f_ : Fn) (g_ : Fn) (components_ : List Int) (a_ : Int) : Option Bool :=
 ass (0 ≤ a_ ∧ a_ < (f_.ar.length : Int)) <|
 ass (0 ≤ a_ ∧ a_ < (f_.s.to.length : Int)) <|
 ass (0 ≤ ix f_.s.to a_ ∧ ix f_.s.to a_ < (components_.length : Int)) <|
 (s_i_Category_then f_.t (ix f_.ar a_) (ix components_ (ix f_.s.to a_))).bind fun v4 =>
 ass (0 ≤ a_ ∧ a_ < (f_.s.fr.length : Int)) <|
 ass (0 ≤ ix f_.s.fr a_ ∧ ix f_.s.fr a_ < (components_.length : Int)) <|
 ass (0 ≤ a_ ∧ a_ < (g_.ar.length : Int)) <|
 (s_i_Category_then f_.t (ix components_ (ix f_.s.fr a_)) (ix g_.ar a_)).bind fun v8 =>
 some (v4 == v8)
set_option maxHeartbeats 4000000 in
theorem w_i_commutes (f_ : Fn) (g_ : Fn) (components_ : List Int) (a_ : Int) (r : Bool) (h : s_i_commutes f_ g_ components_ a_ = some r) : Contract Try.prog 186 [.rptr (f_.cells true), .rptr (g_.cells true), .lst true 1 (Is components_), .val (.int .i64 a_)] (.val (.bool r)) := by
 refine contract_introG (rvs := [.tmp 8]) (rs := [.val (.bool r)]) Try.func186 rfl rfl rfl rfl (by simp [Try.f186]) fun F hN hP => ?_
 unfold s_i_commutes at h
 refine w_seq ?_
 refine w_run mo (by rw [hN]; decide) fun K hK => ?_
 simp [-guardE_b, -Is_at, -Is_at', -Ls_at, -Ls_at', eL, eI, allInts, eP_Cat, eP_Fn, Cat.cells, Fn.cells]
 repeat (with_reducible refine And.intro ?_ ?_; · first | assumption | omega | (simp; done) | (simp; omega) | simp_all)
 refine hK _ ?_
 clear hK K
 refine tn ?_
 refine w_weak (st' := ⟨[(0, .rptr (Fn.cells true f_)), (1, .rptr (Fn.cells true g_)), (2, .lst true 1 (Is components_)), (3, .val (.int .i64 a_))], [], 0⟩) (Wk.r1 [] (by simp [hP, hhOk, back, Cat.cells, Fn.cells, IA, I1, LA, L1, BA, B1, EA, E1, E2, eB, eI, eL])) ?_
 refine w_seq ?_
 refine w_run mo (by rw [hN]; decide) fun K hK => ?_
 simp [-guardE_b, -Is_at, -Is_at', -Ls_at, -Ls_at', eL, eI, allInts, eP_Cat, eP_Fn, Cat.cells, Fn.cells]
 repeat (with_reducible refine And.intro ?_ ?_; · first | assumption | omega | (simp; done) | (simp; omega) | simp_all)
 refine hK _ ?_
 clear hK K
 refine tn ?_
 refine w_weak (st' := ⟨[(0, .rptr (Fn.cells true f_)), (1, .rptr (Fn.cells true g_)), (2, .lst true 1 (Is components_)), (3, .val (.int .i64 a_)), (9, .rptr (Fn.cells true f_)), (10, .rptr [.val (.int .i64 f_.t.n), .lst true 1 (Is f_.t.fr), .lst true 1 (Is f_.t.to), .lst true 1 (Is f_.t.id), .lst true 1 (Ls f_.t.cs), .lst true 1 (Is f_.ob), .lst true 1 (Is f_.ar)])], [], 0⟩) (Wk.r1 [] (by simp [hP, hhOk, back, Cat.cells, Fn.cells, IA, I1, LA, L1, BA, B1, EA, E1, E2, eB, eI, eL])) ?_
 refine w_seq ?_
 refine w_run mo (by rw [hN]; decide) fun K hK => ?_
 replace h := ass_some h
 obtain ⟨a1, h⟩ := h
 replace h := ass_some h
 obtain ⟨a2, h⟩ := h
 replace h := ass_some h
 obtain ⟨a3, h⟩ := h
 simp [-guardE_b, -Is_at, -Is_at', -Ls_at, -Ls_at', eL, eI, allInts, eP_Cat, eP_Fn, Cat.cells, Fn.cells, at_I a1, at_I a2, at_I a3]
 repeat (with_reducible refine And.intro ?_ ?_; · first | assumption | omega | (simp; done) | (simp; omega) | simp_all)
 replace h := bind_some h
 obtain ⟨v4, hv4, h⟩ := h
 refine callA_intro (w_i_Category_then _ _ _ v4 hv4) (.cons (.preT (by simp [Cat.cells, Fn.cells])) (.cons .val (.cons .val .nil))) ?_
 replace h := ass_some h
 obtain ⟨a5, h⟩ := h
 replace h := ass_some h
 obtain ⟨a6, h⟩ := h
 replace h := ass_some h
 obtain ⟨a7, h⟩ := h
 simp [-guardE_b, -Is_at, -Is_at', -Ls_at, -Ls_at', unk, unA, unE, unT, unC, flat, eL, eI, allInts, eP_Cat, eP_Fn, Cat.cells, Fn.cells, at_I a5, at_I a6, at_I a7]
 repeat (with_reducible refine And.intro ?_ ?_; · first | assumption | omega | (simp; done) | (simp; omega) | simp_all)
 replace h := bind_some h
 obtain ⟨v8, hv8, h⟩ := h
 refine callA_intro (w_i_Category_then _ _ _ v8 hv8) (.cons (.preT (by simp [Cat.cells, Fn.cells])) (.cons .val (.cons .val .nil))) ?_
 simp [-guardE_b, -Is_at, -Is_at', -Ls_at, -Ls_at', unk, unA, unE, unT, unC, flat, eL, eI, allInts, eP_Cat, eP_Fn, Cat.cells, Fn.cells]
 repeat (with_reducible refine And.intro ?_ ?_; · first | assumption | omega | (simp; done) | (simp; omega) | simp_all)
 refine hK _ ?_
 clear hK K
 refine tn ?_
 refine w_weak (st' := ⟨[(8, .val (.bool (v4 == v8)))], [], 0⟩) (Wk.r1 [] (by simp [hP, hhOk, back, Cat.cells, Fn.cells, IA, I1, LA, L1, BA, B1, EA, E1, E2, eB, eI, eL])) ?_
 refine w_ret ?_
 have hr := Option.some.inj h
 rw [← hr]
 refine ⟨_, (.tmp .nil), ?_⟩
 refine ⟨(.one rfl rfl .nil), [.val (.bool (v4 == v8))], [], by simp [Cat.cells, Fn.cells, IA, I1, LA, L1, BA, B1, EA, E1, E2, eB, eI, eL], by simp, (UpL.refl _)⟩
end Go.Vc.T

set_option maxRecDepth 100000
set_option linter.unusedSimpArgs false
set_option linter.unusedVariables false
namespace Go.Vc.T
open Go Go.Vc Go.Proofs
noncomputable def s_i_parallelFunctors (f_ : Fn) (g_ : Fn) : Option Bool :=
 (
   (s_i_sameCategory f_.s g_.s).bind fun v2 =>
   if v2 = true then
     (s_i_sameCategory f_.t g_.t).bind fun v4 =>
     some v4
   else
     some false : Option (Bool)).bind fun b1 =>
 some b1
set_option maxHeartbeats 4000000 in
theorem w_i_parallelFunctors (f_ : Fn) (g_ : Fn) (r : Bool) (h : s_i_parallelFunctors f_ g_ = some r) : Contract Try.prog 236 [.rptr (f_.cells true), .rptr (g_.cells true)] (.val (.bool r)) := by
 refine contract_introG (rvs := [.tmp 4]) (rs := [.val (.bool r)]) Try.func236 rfl rfl rfl rfl (by simp [Try.f236]) fun F hN hP => ?_
 unfold s_i_parallelFunctors at h
 refine w_seq ?_
 refine w_run mo (by rw [hN]; decide) fun K hK => ?_
 simp [-guardE_b, -Is_at, -Is_at', -Ls_at, -Ls_at', eL, eI, allInts, eP_Cat, eP_Fn, Cat.cells, Fn.cells]
 repeat (with_reducible refine And.intro ?_ ?_; · first | assumption | omega | (simp; done) | (simp; omega) | simp_all)
 refine hK _ ?_
 clear hK K
 refine tn ?_
 refine w_weak (st' := ⟨[(0, .rptr (Fn.cells true f_)), (1, .rptr (Fn.cells true g_))], [], 0⟩) (Wk.r1 [] (by simp [hP, hhOk, back, Cat.cells, Fn.cells, IA, I1, LA, L1, BA, B1, EA, E1, E2, eB, eI, eL])) ?_
 refine w_seq ?_
 replace h := bind_some h
 obtain ⟨e1, h, h1⟩ := h
 refine w_joinT (fun b1 : Bool => ⟨[(4, .val (.bool b1))], [], 0⟩) (fun b1 => b1 = e1) ?_ ?_
 · refine w_run mo (by rw [hN]; decide) fun K hK => ?_
   simp [-guardE_b, -Is_at, -Is_at', -Ls_at, -Ls_at', eL, eI, allInts, eP_Cat, eP_Fn, Cat.cells, Fn.cells]
   repeat (with_reducible refine And.intro ?_ ?_; · first | assumption | omega | (simp; done) | (simp; omega) | simp_all)
   replace h := bind_some h
   obtain ⟨v2, hv2, h⟩ := h
   refine callA_intro (w_i_sameCategory _ _ v2 hv2) (.cons (.preT (by simp [Cat.cells, Fn.cells])) (.cons (.preT (by simp [Cat.cells, Fn.cells])) .nil)) ?_
   simp [-guardE_b, -Is_at, -Is_at', -Ls_at, -Ls_at', unk, unA, unE, unT, unC, flat, eL, eI, allInts, eP_Cat, eP_Fn, Cat.cells, Fn.cells]
   repeat (with_reducible refine And.intro ?_ ?_; · first | assumption | omega | (simp; done) | (simp; omega) | simp_all)
   refine guard_intro (fun g => ?_) (fun g => ?_)
   · have g3 : v2 = true := by first | simpa using g | (simp at g; exact g) | (simp at g; omega)
     clear g
     replace h := if_l g3 h
     simp [-guardE_b, -Is_at, -Is_at', -Ls_at, -Ls_at', eL, eI, allInts, eP_Cat, eP_Fn, Cat.cells, Fn.cells]
     repeat (with_reducible refine And.intro ?_ ?_; · first | assumption | omega | (simp; done) | (simp; omega) | simp_all)
     replace h := bind_some h
     obtain ⟨v4, hv4, h⟩ := h
     refine callA_intro (w_i_sameCategory _ _ v4 hv4) (.cons (.preT (by simp [Cat.cells, Fn.cells])) (.cons (.preT (by simp [Cat.cells, Fn.cells])) .nil)) ?_
     simp [-guardE_b, -Is_at, -Is_at', -Ls_at, -Ls_at', unk, unA, unE, unT, unC, flat, eL, eI, allInts, eP_Cat, eP_Fn, Cat.cells, Fn.cells]
     repeat (with_reducible refine And.intro ?_ ?_; · first | assumption | omega | (simp; done) | (simp; omega) | simp_all)
     refine hK _ ?_
     exact jn (b := v4) (Option.some.inj h) (Wk.r1 [] (by simp [hP, hhOk, back, Cat.cells, Fn.cells, IA, I1, LA, L1, BA, B1, EA, E1, E2, eB, eI, eL]))
   have g3 : ¬ (v2 = true) := by first | simpa using g | (simp at g; exact g) | (simp at g; omega)
   clear g
   replace h := if_r g3 h
   simp [-guardE_b, -Is_at, -Is_at', -Ls_at, -Ls_at', eL, eI, allInts, eP_Cat, eP_Fn, Cat.cells, Fn.cells]
   repeat (with_reducible refine And.intro ?_ ?_; · first | assumption | omega | (simp; done) | (simp; omega) | simp_all)
   refine hK _ ?_
   exact jn (b := false) (Option.some.inj h) (Wk.r1 [] (by simp [hP, hhOk, back, Cat.cells, Fn.cells, IA, I1, LA, L1, BA, B1, EA, E1, E2, eB, eI, eL]))
 intro b1 hb1
 have h := h1
 rw [← hb1] at h
 clear h1
 try dsimp only at h
 refine w_ret ?_
 have hr := Option.some.inj h
 rw [← hr]
 refine ⟨_, (.tmp .nil), ?_⟩
 refine ⟨(.one rfl rfl .nil), [.val (.bool b1)], [], by simp [Cat.cells, Fn.cells, IA, I1, LA, L1, BA, B1, EA, E1, E2, eB, eI, eL], by simp, (UpL.refl _)⟩
end Go.Vc.T

set_option maxRecDepth 100000
set_option linter.unusedSimpArgs false
set_option linter.unusedVariables false
namespace Go.Vc.T
open Go Go.Vc Go.Proofs
noncomputable def s_i_firstFailure__i_commutes (t_ : Tra) : Option Int :=
 (loopF (σ := Int) (ε := Unit ⊕ Int) (fun s6 =>
   if s6 < (t_.s.ar.length : Int) then
     (s_i_commutes t_.s t_.t t_.p s6).bind fun v8 =>
     if ¬ (v8 = true) then
       some (Ctl.ret (Sum.inr s6))
     else
       ass (B64 (s6 + 1)) <|
       some (Ctl.next (s6 + 1))
   else
     some (Ctl.ret (Sum.inl ()))) fuel 0).bind fun e1 =>
 match e1 with
 | .inl b1 =>
   some (-1)
 | .inr p1 =>
   some p1
set_option maxHeartbeats 4000000 in
theorem w_i_firstFailure__i_commutes (t_ : Tra) (r : Int) (h : s_i_firstFailure__i_commutes t_ = some r) : Contract Try.prog 185 [.rptr (t_.cells true), .fn 186 []] (.val (.int .i64 r)) := by
 refine contract_introG (rvs := [.tmp 4]) (rs := [.val (.int .i64 r)]) Try.func185 rfl rfl rfl rfl (by simp [Try.f185]) fun F hN hP => ?_
 unfold s_i_firstFailure__i_commutes at h
 refine w_seq ?_
 refine w_run mo (by rw [hN]; decide) fun K hK => ?_
 simp [-guardE_b, -Is_at, -Is_at', -Ls_at, -Ls_at', eL, eI, allInts, eP_Fn, eP_Tra, Fn.cells, Tra.cells]
 repeat (with_reducible refine And.intro ?_ ?_; · first | assumption | omega | (simp; done) | (simp; omega) | simp_all)
 refine hK _ ?_
 clear hK K
 refine tn ?_
 refine w_weak (st' := ⟨[(0, .rptr (Tra.cells true t_)), (1, .fn 186 [])], [], 0⟩) (Wk.r1 [] (by simp [hP, hhOk, back, Fn.cells, Tra.cells, IA, I1, LA, L1, BA, B1, EA, E1, E2, eB, eI, eL])) ?_
 refine w_seq ?_
 refine w_seq ?_
 refine w_run mo (by rw [hN]; decide) fun K hK => ?_
 simp [-guardE_b, -Is_at, -Is_at', -Ls_at, -Ls_at', eL, eI, allInts, eP_Fn, eP_Tra, Fn.cells, Tra.cells]
 repeat (with_reducible refine And.intro ?_ ?_; · first | assumption | omega | (simp; done) | (simp; omega) | simp_all)
 refine hK _ ?_
 clear hK K
 refine tn ?_
 refine w_weak (st' := ⟨[(0, .rptr (Tra.cells true t_)), (1, .fn 186 []), (11, .val (.int .i64 (t_.s.ar.length : Int))), (12, .val (.int .i64 0))], [], 0⟩) (Wk.r1 [] (by simp [hP, hhOk, back, Fn.cells, Tra.cells, IA, I1, LA, L1, BA, B1, EA, E1, E2, eB, eI, eL])) ?_
 replace h := bind_some h
 obtain ⟨e1, h, h1⟩ := h
 refine w_joinT (fun b1 : Unit => ⟨[], [], 0⟩) (fun b1 => Sum.inl b1 = e1) ?_ ?_
 · refine w_block ?_
   refine w_loopF h (fun s6 : Int => ⟨[(0, .rptr (Tra.cells true t_)), (1, .fn 186 []), (11, .val (.int .i64 (t_.s.ar.length : Int))), (12, .val (.int .i64 s6))], [], 0⟩) (Wk.r1 [] (by simp [hP, hhOk, back, Fn.cells, Tra.cells, IA, I1, LA, L1, BA, B1, EA, E1, E2, eB, eI, eL])) ?_
   clear h
   intro k6 s6 c6 h hk6
   refine w_seq ?_
   refine w_run mo (by rw [hN]; decide) fun K hK => ?_
   simp [-guardE_b, -Is_at, -Is_at', -Ls_at, -Ls_at', eL, eI, allInts, eP_Fn, eP_Tra, Fn.cells, Tra.cells]
   repeat (with_reducible refine And.intro ?_ ?_; · first | assumption | omega | (simp; done) | (simp; omega) | simp_all)
   refine hK _ ?_
   clear hK K
   refine tn ?_
   refine w_weak (st' := ⟨[(0, .rptr (Tra.cells true t_)), (1, .fn 186 []), (11, .val (.int .i64 (t_.s.ar.length : Int))), (12, .val (.int .i64 s6)), (13, .val (.bool (decide (s6 < (t_.s.ar.length : Int)))))], [], 0⟩) (Wk.r1 [] (by simp [hP, hhOk, back, Fn.cells, Tra.cells, IA, I1, LA, L1, BA, B1, EA, E1, E2, eB, eI, eL])) ?_
   refine w_seq ?_
   refine w_cond rfl (fun g => ?_) fun g => ?_
   · have g7 : s6 < (t_.s.ar.length : Int) := by first | simpa using g | (simp at g; exact g) | (simp at g; omega)
     clear g
     replace h := if_l g7 h
     refine w_skip ?_
     refine tn ?_
     refine w_seq ?_
     refine w_block ?_
     refine w_seq ?_
     refine w_run mo (by rw [hN]; decide) fun K hK => ?_
     simp [-guardE_b, -Is_at, -Is_at', -Ls_at, -Ls_at', eL, eI, allInts, eP_Fn, eP_Tra, Fn.cells, Tra.cells]
     repeat (with_reducible refine And.intro ?_ ?_; · first | assumption | omega | (simp; done) | (simp; omega) | simp_all)
     refine hK _ ?_
     clear hK K
     refine tn ?_
     refine w_weak (st' := ⟨[(0, .rptr (Tra.cells true t_)), (1, .fn 186 []), (5, .val (.int .i64 s6)), (11, .val (.int .i64 (t_.s.ar.length : Int))), (12, .val (.int .i64 s6))], [], 0⟩) (Wk.r1 [] (by simp [hP, hhOk, back, Fn.cells, Tra.cells, IA, I1, LA, L1, BA, B1, EA, E1, E2, eB, eI, eL])) ?_
     refine w_seq ?_
     refine w_run mo (by rw [hN]; decide) fun K hK => ?_
     simp [-guardE_b, -Is_at, -Is_at', -Ls_at, -Ls_at', eL, eI, allInts, eP_Fn, eP_Tra, Fn.cells, Tra.cells]
     repeat (with_reducible refine And.intro ?_ ?_; · first | assumption | omega | (simp; done) | (simp; omega) | simp_all)
     replace h := bind_some h
     obtain ⟨v8, hv8, h⟩ := h
     refine callA_intro (w_i_commutes _ _ _ _ v8 hv8) (.cons (.preT (by simp [Fn.cells, Tra.cells])) (.cons (.preT (by simp [Fn.cells, Tra.cells])) (.cons .lst (.cons .val .nil)))) ?_
     simp [-guardE_b, -Is_at, -Is_at', -Ls_at, -Ls_at', unk, unA, unE, unT, unC, flat, eL, eI, allInts, eP_Fn, eP_Tra, Fn.cells, Tra.cells]
     repeat (with_reducible refine And.intro ?_ ?_; · first | assumption | omega | (simp; done) | (simp; omega) | simp_all)
     refine hK _ ?_
     clear hK K
     refine tn ?_
     refine w_weak (st' := ⟨[(0, .rptr (Tra.cells true t_)), (1, .fn 186 []), (5, .val (.int .i64 s6)), (11, .val (.int .i64 (t_.s.ar.length : Int))), (12, .val (.int .i64 s6)), (28, .val (.bool (!v8)))], [], 0⟩) (Wk.r1 [] (by simp [hP, hhOk, back, Fn.cells, Tra.cells, IA, I1, LA, L1, BA, B1, EA, E1, E2, eB, eI, eL])) ?_
     refine w_cond rfl (fun g => ?_) fun g => ?_
     · have g9 : ¬ (v8 = true) := by first | simpa using g | (simp at g; exact g) | (simp at g; omega)
       clear g
       replace h := if_l g9 h
       refine w_seq ?_
       refine w_run mo (by rw [hN]; decide) fun K hK => ?_
       simp [-guardE_b, -Is_at, -Is_at', -Ls_at, -Ls_at', eL, eI, allInts, eP_Fn, eP_Tra, Fn.cells, Tra.cells]
       repeat (with_reducible refine And.intro ?_ ?_; · first | assumption | omega | (simp; done) | (simp; omega) | simp_all)
       refine hK _ ?_
       clear hK K
       refine tn ?_
       refine w_weak (st' := ⟨[(4, .val (.int .i64 s6))], [], 0⟩) (Wk.r1 [] (by simp [hP, hhOk, back, Fn.cells, Tra.cells, IA, I1, LA, L1, BA, B1, EA, E1, E2, eB, eI, eL])) ?_
       refine w_ret ?_
       refine br ?_
       refine tr ?_
       refine lr ?_
       refine br ?_
       refine tr ?_
       cases h
       have q : _ = e1 := hk6
       have h := h1
       rw [← q] at h
       clear q
       try dsimp only at h
       have hr := Option.some.inj h
       rw [← hr]
       refine ⟨_, (.tmp .nil), ?_⟩
       refine ⟨(.one rfl rfl .nil), [.val (.int .i64 s6)], [], by simp [Fn.cells, Tra.cells, IA, I1, LA, L1, BA, B1, EA, E1, E2, eB, eI, eL], by simp, (UpL.refl _)⟩
     have g9 : ¬ (¬ (v8 = true)) := by first | simpa using g | (simp at g; exact g) | (simp at g; omega)
     clear g
     replace h := if_r g9 h
     refine w_skip ?_
     refine bn ?_
     refine tn ?_
     refine w_run mo (by rw [hN]; decide) fun K hK => ?_
     replace h := ass_some h
     obtain ⟨a10, h⟩ := h
     simp [-guardE_b, -Is_at, -Is_at', -Ls_at, -Ls_at', eL, eI, allInts, eP_Fn, eP_Tra, Fn.cells, Tra.cells, wrap_id a10]
     repeat (with_reducible refine And.intro ?_ ?_; · first | assumption | omega | (simp; done) | (simp; omega) | simp_all)
     refine hK _ ?_
     clear hK K
     cases h
     exact rn (s' := s6 + 1) hk6 (Wk.r1 [] (by simp [hP, hhOk, back, Fn.cells, Tra.cells, IA, I1, LA, L1, BA, B1, EA, E1, E2, eB, eI, eL]))
   have g7 : ¬ (s6 < (t_.s.ar.length : Int)) := by first | simpa using g | (simp at g; exact g) | (simp at g; omega)
   clear g
   replace h := if_r g7 h
   refine w_exit ?_
   refine tx ?_
   refine lx ?_
   refine bh ?_
   cases h
   exact jn (b := ()) hk6 (Wk.r1 [] (by simp [hP, hhOk, back, Fn.cells, Tra.cells, IA, I1, LA, L1, BA, B1, EA, E1, E2, eB, eI, eL]))
 intro b1 hb1
 have h := h1
 rw [← hb1] at h
 clear h1
 try dsimp only at h
 refine w_seq ?_
 refine w_run mo (by rw [hN]; decide) fun K hK => ?_
 simp [-guardE_b, -Is_at, -Is_at', -Ls_at, -Ls_at', eL, eI, allInts, eP_Fn, eP_Tra, Fn.cells, Tra.cells]
 repeat (with_reducible refine And.intro ?_ ?_; · first | assumption | omega | (simp; done) | (simp; omega) | simp_all)
 refine hK _ ?_
 clear hK K
 refine tn ?_
 refine w_weak (st' := ⟨[(4, .val (.int .i64 (-1)))], [], 0⟩) (Wk.r1 [] (by simp [hP, hhOk, back, Fn.cells, Tra.cells, IA, I1, LA, L1, BA, B1, EA, E1, E2, eB, eI, eL])) ?_
 refine w_ret ?_
 have hr := Option.some.inj h
 rw [← hr]
 refine ⟨_, (.tmp .nil), ?_⟩
 refine ⟨(.one rfl rfl .nil), [.val (.int .i64 (-1))], [], by simp [Fn.cells, Tra.cells, IA, I1, LA, L1, BA, B1, EA, E1, E2, eB, eI, eL], by simp, (UpL.refl _)⟩
noncomputable def s_i_Functor_copy (f_ : Fn) : Option Fn :=
 (s_i_functor f_.s f_.t f_.ob f_.ar).bind fun v1 =>
 some v1
set_option maxHeartbeats 4000000 in
theorem w_i_Functor_copy (f_ : Fn) (r : Fn) (h : s_i_Functor_copy f_ = some r) : Contract Try.prog 187 [.rptr (f_.cells true)] (.agg (r.cells true)) := by
 refine contract_introG (rvs := [.cell 2 35]) (rs := [.agg (r.cells true)]) Try.func187 rfl rfl rfl rfl (by simp [Try.f187]) fun F hN hP => ?_
 unfold s_i_Functor_copy at h
 refine w_seq ?_
 refine w_run mo (by rw [hN]; decide) fun K hK => ?_
 simp [-guardE_b, -Is_at, -Is_at', -Ls_at, -Ls_at', eL, eI, allInts, eP_Cat, eP_Fn, Cat.cells, Fn.cells]
 repeat (with_reducible refine And.intro ?_ ?_; · first | assumption | omega | (simp; done) | (simp; omega) | simp_all)
 refine hK _ ?_
 clear hK K
 refine tn ?_
 refine w_weak (st' := ⟨[(0, .rptr (Fn.cells true f_)), (2, .adr 0 0 0)], [(0, .mix 12 [[.val (.int .i64 0), .val (.slice none 0 0), .val (.slice none 0 0), .val (.slice none 0 0), .val (.slice none 0 0), .val (.int .i64 0), .val (.slice none 0 0), .val (.slice none 0 0), .val (.slice none 0 0), .val (.slice none 0 0), .val (.slice none 0 0), .val (.slice none 0 0)]])], 1⟩) (Wk.r1 [(0, 0)] (by simp [hP, hhOk, back, Cat.cells, Fn.cells, IA, I1, LA, L1, BA, B1, EA, E1, E2, eB, eI, eL])) ?_
 refine w_seq ?_
 refine w_run mo (by rw [hN]; decide) fun K hK => ?_
 simp [-guardE_b, -Is_at, -Is_at', -Ls_at, -Ls_at', eL, eI, allInts, eP_Cat, eP_Fn, Cat.cells, Fn.cells]
 repeat (with_reducible refine And.intro ?_ ?_; · first | assumption | omega | (simp; done) | (simp; omega) | simp_all)
 replace h := bind_some h
 obtain ⟨v1, hv1, h⟩ := h
 refine callA_intro (w_i_functor _ _ _ _ v1 hv1) (.cons (.preT (by simp [Cat.cells, Fn.cells])) (.cons (.preT (by simp [Cat.cells, Fn.cells])) (.cons .lst (.cons .lst .nil)))) ?_
 simp [-guardE_b, -Is_at, -Is_at', -Ls_at, -Ls_at', unk, unA, unE, unT, unC, flat, eL, eI, allInts, eP_Cat, eP_Fn, Cat.cells, Fn.cells]
 repeat (with_reducible refine And.intro ?_ ?_; · first | assumption | omega | (simp; done) | (simp; omega) | simp_all)
 refine hK _ ?_
 clear hK K
 refine tn ?_
 refine w_weak (st' := ⟨[(2, .adr 0 0 0)], [(0, .mix 12 [[.val (.int .i64 v1.s.n), .own 1 0 v1.s.fr.length, .own 2 0 v1.s.to.length, .own 3 0 v1.s.id.length, .own 4 0 v1.s.cs.length, .val (.int .i64 v1.t.n), .own 5 0 v1.t.fr.length, .own 6 0 v1.t.to.length, .own 7 0 v1.t.id.length, .own 8 0 v1.t.cs.length, .own 9 0 v1.ob.length, .own 10 0 v1.ar.length]]), (1, .row 1 (Is v1.s.fr)), (2, .row 1 (Is v1.s.to)), (3, .row 1 (Is v1.s.id)), (4, .row 1 (Ls v1.s.cs)), (5, .row 1 (Is v1.t.fr)), (6, .row 1 (Is v1.t.to)), (7, .row 1 (Is v1.t.id)), (8, .row 1 (Ls v1.t.cs)), (9, .row 1 (Is v1.ob)), (10, .row 1 (Is v1.ar))], 11⟩) (Wk.r1 [(0, 0), (2, 1), (3, 2), (4, 3), (5, 4), (7, 5), (8, 6), (9, 7), (10, 8), (11, 9), (12, 10)] (by simp [hP, hhOk, back, Cat.cells, Fn.cells, IA, I1, LA, L1, BA, B1, EA, E1, E2, eB, eI, eL])) ?_
 refine w_ret ?_
 have hr := Option.some.inj h
 rw [← hr]
 refine ⟨_, (.cell tf_35 rfl rfl rfl (by simp) (by simp) .nil), ?_⟩
 refine ⟨(.agg rfl .nil), [.val (.int .i64 v1.s.n), .lst true 1 (Is v1.s.fr), .lst true 1 (Is v1.s.to), .lst true 1 (Is v1.s.id), .lst true 1 (Ls v1.s.cs), .val (.int .i64 v1.t.n), .lst true 1 (Is v1.t.fr), .lst true 1 (Is v1.t.to), .lst true 1 (Is v1.t.id), .lst true 1 (Ls v1.t.cs), .lst true 1 (Is v1.ob), .lst true 1 (Is v1.ar)], [1, 2, 3, 4, 5, 6, 7, 8, 9, 10], by simp [Cat.cells, Fn.cells, IA, I1, LA, L1, BA, B1, EA, E1, E2, eB, eI, eL], by simp, (UpL.refl _)⟩
end Go.Vc.T

set_option maxRecDepth 100000
set_option linter.unusedSimpArgs false
set_option linter.unusedVariables false
namespace Go.Vc.T
open Go Go.Vc Go.Proofs
noncomputable def s_s_l02Then (c_ : Cat) (f_ : Int) (g_ : Int) : Option Int :=
 ass (0 ≤ f_ ∧ f_ < (c_.cs.length : Int)) <|
 ass (0 ≤ g_ ∧ g_ < ((rx c_.cs f_).length : Int)) <|
 some (ix (rx c_.cs f_) g_)
set_option maxHeartbeats 4000000 in
theorem w_s_l02Then (c_ : Cat) (f_ : Int) (g_ : Int) (r : Int) (h : s_s_l02Then c_ f_ g_ = some r) : Contract Try.prog 120 [.agg (c_.cells true), .val (.int .i64 f_), .val (.int .i64 g_)] (.val (.int .i64 r)) := by
 refine contract_introG (rvs := [.tmp 6]) (rs := [.val (.int .i64 r)]) Try.func120 rfl rfl rfl rfl (by simp [Try.f120]) fun F hN hP => ?_
 unfold s_s_l02Then at h
 refine w_seq ?_
 refine w_run mo (by rw [hN]; decide) fun K hK => ?_
 simp [-guardE_b, -Is_at, -Is_at', -Ls_at, -Ls_at', eL, eI, allInts, eP_Cat, Cat.cells]
 repeat (with_reducible refine And.intro ?_ ?_; · first | assumption | omega | (simp; done) | (simp; omega) | simp_all)
 refine hK _ ?_
 clear hK K
 refine tn ?_
 refine w_weak (st' := ⟨[(1, .val (.int .i64 f_)), (2, .val (.int .i64 g_)), (3, .adr 0 0 0)], [(0, .mix 5 [(Cat.cells true c_)])], 1⟩) (Wk.r1 [(0, 0)] (by simp [hP, hhOk, back, Cat.cells, IA, I1, LA, L1, BA, B1, EA, E1, E2, eB, eI, eL])) ?_
 refine w_seq ?_
 refine w_run mo (by rw [hN]; decide) fun K hK => ?_
 replace h := ass_some h
 obtain ⟨a1, h⟩ := h
 replace h := ass_some h
 obtain ⟨a2, h⟩ := h
 simp [-guardE_b, -Is_at, -Is_at', -Ls_at, -Ls_at', eL, eI, allInts, eP_Cat, Cat.cells, at_L a1, at_I a2]
 repeat (with_reducible refine And.intro ?_ ?_; · first | assumption | omega | (simp; done) | (simp; omega) | simp_all)
 refine hK _ ?_
 clear hK K
 refine tn ?_
 refine w_weak (st' := ⟨[(6, .val (.int .i64 (ix (rx c_.cs f_) g_)))], [], 0⟩) (Wk.r1 [] (by simp [hP, hhOk, back, Cat.cells, IA, I1, LA, L1, BA, B1, EA, E1, E2, eB, eI, eL])) ?_
 refine w_ret ?_
 have hr := Option.some.inj h
 rw [← hr]
 refine ⟨_, (.tmp .nil), ?_⟩
 refine ⟨(.one rfl rfl .nil), [.val (.int .i64 (ix (rx c_.cs f_) g_))], [], by simp [Cat.cells, IA, I1, LA, L1, BA, B1, EA, E1, E2, eB, eI, eL], by simp, (UpL.refl _)⟩
noncomputable def s_i_Adjunction_transpose (a_ : Adj) (x_ : Int) (g_ : Int) : Option Int :=
 ass (0 ≤ x_ ∧ x_ < (a_.u.length : Int)) <|
 ass (0 ≤ g_ ∧ g_ < (a_.r.ar.length : Int)) <|
 (s_i_Category_then a_.l.s (ix a_.u x_) (ix a_.r.ar g_)).bind fun v3 =>
 some v3
set_option maxHeartbeats 4000000 in
theorem w_i_Adjunction_transpose (a_ : Adj) (x_ : Int) (g_ : Int) (r : Int) (h : s_i_Adjunction_transpose a_ x_ g_ = some r) : Contract Try.prog 124 [.rptr (a_.cells true), .val (.int .i64 x_), .val (.int .i64 g_)] (.val (.int .i64 r)) := by
 refine contract_introG (rvs := [.tmp 6]) (rs := [.val (.int .i64 r)]) Try.func124 rfl rfl rfl rfl (by simp [Try.f124]) fun F hN hP => ?_
 unfold s_i_Adjunction_transpose at h
 refine w_seq ?_
 refine w_run mo (by rw [hN]; decide) fun K hK => ?_
 simp [-guardE_b, -Is_at, -Is_at', -Ls_at, -Ls_at', eL, eI, allInts, eP_Adj, eP_Cat, Adj.cells, Cat.cells]
 repeat (with_reducible refine And.intro ?_ ?_; · first | assumption | omega | (simp; done) | (simp; omega) | simp_all)
 refine hK _ ?_
 clear hK K
 refine tn ?_
 refine w_weak (st' := ⟨[(0, .rptr (Adj.cells true a_)), (1, .val (.int .i64 x_)), (2, .val (.int .i64 g_))], [], 0⟩) (Wk.r1 [] (by simp [hP, hhOk, back, Adj.cells, Cat.cells, IA, I1, LA, L1, BA, B1, EA, E1, E2, eB, eI, eL])) ?_
 refine w_seq ?_
 refine w_run mo (by rw [hN]; decide) fun K hK => ?_
 replace h := ass_some h
 obtain ⟨a1, h⟩ := h
 replace h := ass_some h
 obtain ⟨a2, h⟩ := h
 simp [-guardE_b, -Is_at, -Is_at', -Ls_at, -Ls_at', eL, eI, allInts, eP_Adj, eP_Cat, Adj.cells, Cat.cells, at_I a1, at_I a2]
 repeat (with_reducible refine And.intro ?_ ?_; · first | assumption | omega | (simp; done) | (simp; omega) | simp_all)
 replace h := bind_some h
 obtain ⟨v3, hv3, h⟩ := h
 refine callA_intro (w_i_Category_then _ _ _ v3 hv3) (.cons (.preT (by simp [Adj.cells, Cat.cells])) (.cons .val (.cons .val .nil))) ?_
 simp [-guardE_b, -Is_at, -Is_at', -Ls_at, -Ls_at', unk, unA, unE, unT, unC, flat, eL, eI, allInts, eP_Adj, eP_Cat, Adj.cells, Cat.cells]
 repeat (with_reducible refine And.intro ?_ ?_; · first | assumption | omega | (simp; done) | (simp; omega) | simp_all)
 refine hK _ ?_
 clear hK K
 refine tn ?_
 refine w_weak (st' := ⟨[(6, .val (.int .i64 v3))], [], 0⟩) (Wk.r1 [] (by simp [hP, hhOk, back, Adj.cells, Cat.cells, IA, I1, LA, L1, BA, B1, EA, E1, E2, eB, eI, eL])) ?_
 refine w_ret ?_
 have hr := Option.some.inj h
 rw [← hr]
 refine ⟨_, (.tmp .nil), ?_⟩
 refine ⟨(.one rfl rfl .nil), [.val (.int .i64 v3)], [], by simp [Adj.cells, Cat.cells, IA, I1, LA, L1, BA, B1, EA, E1, E2, eB, eI, eL], by simp, (UpL.refl _)⟩
noncomputable def s_i_Adjunction_transposeBack (a_ : Adj) (y_ : Int) (f_ : Int) : Option Int :=
 ass (0 ≤ f_ ∧ f_ < (a_.l.ar.length : Int)) <|
 ass (0 ≤ y_ ∧ y_ < (a_.k.length : Int)) <|
 (s_i_Category_then a_.l.t (ix a_.l.ar f_) (ix a_.k y_)).bind fun v3 =>
 some v3
set_option maxHeartbeats 4000000 in
theorem w_i_Adjunction_transposeBack (a_ : Adj) (y_ : Int) (f_ : Int) (r : Int) (h : s_i_Adjunction_transposeBack a_ y_ f_ = some r) : Contract Try.prog 125 [.rptr (a_.cells true), .val (.int .i64 y_), .val (.int .i64 f_)] (.val (.int .i64 r)) := by
 refine contract_introG (rvs := [.tmp 6]) (rs := [.val (.int .i64 r)]) Try.func125 rfl rfl rfl rfl (by simp [Try.f125]) fun F hN hP => ?_
 unfold s_i_Adjunction_transposeBack at h
 refine w_seq ?_
 refine w_run mo (by rw [hN]; decide) fun K hK => ?_
 simp [-guardE_b, -Is_at, -Is_at', -Ls_at, -Ls_at', eL, eI, allInts, eP_Adj, eP_Cat, Adj.cells, Cat.cells]
 repeat (with_reducible refine And.intro ?_ ?_; · first | assumption | omega | (simp; done) | (simp; omega) | simp_all)
 refine hK _ ?_
 clear hK K
 refine tn ?_
 refine w_weak (st' := ⟨[(0, .rptr (Adj.cells true a_)), (1, .val (.int .i64 y_)), (2, .val (.int .i64 f_))], [], 0⟩) (Wk.r1 [] (by simp [hP, hhOk, back, Adj.cells, Cat.cells, IA, I1, LA, L1, BA, B1, EA, E1, E2, eB, eI, eL])) ?_
 refine w_seq ?_
 refine w_run mo (by rw [hN]; decide) fun K hK => ?_
 replace h := ass_some h
 obtain ⟨a1, h⟩ := h
 replace h := ass_some h
 obtain ⟨a2, h⟩ := h
 simp [-guardE_b, -Is_at, -Is_at', -Ls_at, -Ls_at', eL, eI, allInts, eP_Adj, eP_Cat, Adj.cells, Cat.cells, at_I a1, at_I a2]
 repeat (with_reducible refine And.intro ?_ ?_; · first | assumption | omega | (simp; done) | (simp; omega) | simp_all)
 replace h := bind_some h
 obtain ⟨v3, hv3, h⟩ := h
 refine callA_intro (w_i_Category_then _ _ _ v3 hv3) (.cons (.preT (by simp [Adj.cells, Cat.cells])) (.cons .val (.cons .val .nil))) ?_
 simp [-guardE_b, -Is_at, -Is_at', -Ls_at, -Ls_at', unk, unA, unE, unT, unC, flat, eL, eI, allInts, eP_Adj, eP_Cat, Adj.cells, Cat.cells]
 repeat (with_reducible refine And.intro ?_ ?_; · first | assumption | omega | (simp; done) | (simp; omega) | simp_all)
 refine hK _ ?_
 clear hK K
 refine tn ?_
 refine w_weak (st' := ⟨[(6, .val (.int .i64 v3))], [], 0⟩) (Wk.r1 [] (by simp [hP, hhOk, back, Adj.cells, Cat.cells, IA, I1, LA, L1, BA, B1, EA, E1, E2, eB, eI, eL])) ?_
 refine w_ret ?_
 have hr := Option.some.inj h
 rw [← hr]
 refine ⟨_, (.tmp .nil), ?_⟩
 refine ⟨(.one rfl rfl .nil), [.val (.int .i64 v3)], [], by simp [Adj.cells, Cat.cells, IA, I1, LA, L1, BA, B1, EA, E1, E2, eB, eI, eL], by simp, (UpL.refl _)⟩
end Go.Vc.T

set_option maxRecDepth 100000
set_option linter.unusedSimpArgs false
set_option linter.unusedVariables false
namespace Go.Vc.T
open Go Go.Vc Go.Proofs
noncomputable def s_i_areCategories (list_ : List Cat) : Option Bool :=
 (loopF (σ := Int) (ε := Unit ⊕ Bool) (fun s7 =>
   if s7 < (list_.length : Int) then
     ass (0 ≤ s7 ∧ s7 < (list_.length : Int)) <|
     (s_i_Category_isCategory (gx list_ s7)).bind fun v10 =>
     if ¬ (v10 = true) then
       some (Ctl.ret (Sum.inr false))
     else
       ass (B64 (s7 + 1)) <|
       some (Ctl.next (s7 + 1))
   else
     some (Ctl.ret (Sum.inl ()))) fuel 0).bind fun e1 =>
 match e1 with
 | .inl b1 =>
   some true
 | .inr p1 =>
   some p1
set_option maxHeartbeats 4000000 in
theorem w_i_areCategories (list_ : List Cat) (r : Bool) (h : s_i_areCategories list_ = some r) : Contract Try.prog 224 [.lst true 1 (Es eP_Cat list_)] (.val (.bool r)) := by
 refine contract_introG (rvs := [.tmp 2]) (rs := [.val (.bool r)]) Try.func224 rfl rfl rfl rfl (by simp [Try.f224]) fun F hN hP => ?_
 unfold s_i_areCategories at h
 refine w_seq ?_
 refine w_run mo (by rw [hN]; decide) fun K hK => ?_
 simp [-guardE_b, -Is_at, -Is_at', -Ls_at, -Ls_at', eL, eI, allInts, eP_Cat, Cat.cells]
 repeat (with_reducible refine And.intro ?_ ?_; · first | assumption | omega | (simp; done) | (simp; omega) | simp_all)
 refine hK _ ?_
 clear hK K
 refine tn ?_
 refine w_weak (st' := ⟨[(0, .lst true 1 (Es eP_Cat list_))], [], 0⟩) (Wk.r1 [] (by simp [hP, hhOk, back, Cat.cells, IA, I1, LA, L1, BA, B1, EA, E1, E2, eB, eI, eL])) ?_
 refine w_seq ?_
 refine w_seq ?_
 refine w_run mo (by rw [hN]; decide) fun K hK => ?_
 simp [-guardE_b, -Is_at, -Is_at', -Ls_at, -Ls_at', eL, eI, allInts, eP_Cat, Cat.cells]
 repeat (with_reducible refine And.intro ?_ ?_; · first | assumption | omega | (simp; done) | (simp; omega) | simp_all)
 refine hK _ ?_
 clear hK K
 refine tn ?_
 refine w_weak (st' := ⟨[(5, .lst true 1 (Es eP_Cat list_)), (6, .val (.int .i64 (list_.length : Int))), (7, .val (.int .i64 0))], [], 0⟩) (Wk.r1 [] (by simp [hP, hhOk, back, Cat.cells, IA, I1, LA, L1, BA, B1, EA, E1, E2, eB, eI, eL])) ?_
 replace h := bind_some h
 obtain ⟨e1, h, h1⟩ := h
 refine w_joinT (fun b1 : Unit => ⟨[], [], 0⟩) (fun b1 => Sum.inl b1 = e1) ?_ ?_
 · refine w_block ?_
   refine w_loopF h (fun s7 : Int => ⟨[(5, .lst true 1 (Es eP_Cat list_)), (6, .val (.int .i64 (list_.length : Int))), (7, .val (.int .i64 s7))], [], 0⟩) (Wk.r1 [] (by simp [hP, hhOk, back, Cat.cells, IA, I1, LA, L1, BA, B1, EA, E1, E2, eB, eI, eL])) ?_
   clear h
   intro k7 s7 c7 h hk7
   refine w_seq ?_
   refine w_run mo (by rw [hN]; decide) fun K hK => ?_
   simp [-guardE_b, -Is_at, -Is_at', -Ls_at, -Ls_at', eL, eI, allInts, eP_Cat, Cat.cells]
   repeat (with_reducible refine And.intro ?_ ?_; · first | assumption | omega | (simp; done) | (simp; omega) | simp_all)
   refine hK _ ?_
   clear hK K
   refine tn ?_
   refine w_weak (st' := ⟨[(5, .lst true 1 (Es eP_Cat list_)), (6, .val (.int .i64 (list_.length : Int))), (7, .val (.int .i64 s7)), (8, .val (.bool (decide (s7 < (list_.length : Int)))))], [], 0⟩) (Wk.r1 [] (by simp [hP, hhOk, back, Cat.cells, IA, I1, LA, L1, BA, B1, EA, E1, E2, eB, eI, eL])) ?_
   refine w_seq ?_
   refine w_cond rfl (fun g => ?_) fun g => ?_
   · have g8 : s7 < (list_.length : Int) := by first | simpa using g | (simp at g; exact g) | (simp at g; omega)
     clear g
     replace h := if_l g8 h
     refine w_skip ?_
     refine tn ?_
     refine w_seq ?_
     refine w_block ?_
     refine w_seq ?_
     refine w_run mo (by rw [hN]; decide) fun K hK => ?_
     replace h := ass_some h
     obtain ⟨a9, h⟩ := h
     simp [-guardE_b, -Is_at, -Is_at', -Ls_at, -Ls_at', eL, eI, allInts, eP_Cat, Cat.cells, at_E (c := eP_Cat) a9]
     repeat (with_reducible refine And.intro ?_ ?_; · first | assumption | omega | (simp; done) | (simp; omega) | simp_all)
     refine hK _ ?_
     clear hK K
     refine tn ?_
     refine w_weak (st' := ⟨[(4, .rptr (Cat.cells true (gx list_ s7))), (5, .lst true 1 (Es eP_Cat list_)), (6, .val (.int .i64 (list_.length : Int))), (7, .val (.int .i64 s7))], [], 0⟩) (Wk.r1 [] (by simp [hP, hhOk, back, Cat.cells, IA, I1, LA, L1, BA, B1, EA, E1, E2, eB, eI, eL])) ?_
     refine w_seq ?_
     refine w_run mo (by rw [hN]; decide) fun K hK => ?_
     simp [-guardE_b, -Is_at, -Is_at', -Ls_at, -Ls_at', eL, eI, allInts, eP_Cat, Cat.cells]
     repeat (with_reducible refine And.intro ?_ ?_; · first | assumption | omega | (simp; done) | (simp; omega) | simp_all)
     replace h := bind_some h
     obtain ⟨v10, hv10, h⟩ := h
     refine callA_intro (w_i_Category_isCategory _ v10 hv10) (.cons (.preT (by simp [Cat.cells])) .nil) ?_
     simp [-guardE_b, -Is_at, -Is_at', -Ls_at, -Ls_at', unk, unA, unE, unT, unC, flat, eL, eI, allInts, eP_Cat, Cat.cells]
     repeat (with_reducible refine And.intro ?_ ?_; · first | assumption | omega | (simp; done) | (simp; omega) | simp_all)
     refine hK _ ?_
     clear hK K
     refine tn ?_
     refine w_weak (st' := ⟨[(5, .lst true 1 (Es eP_Cat list_)), (6, .val (.int .i64 (list_.length : Int))), (7, .val (.int .i64 s7)), (13, .val (.bool (!v10)))], [], 0⟩) (Wk.r1 [] (by simp [hP, hhOk, back, Cat.cells, IA, I1, LA, L1, BA, B1, EA, E1, E2, eB, eI, eL])) ?_
     refine w_cond rfl (fun g => ?_) fun g => ?_
     · have g11 : ¬ (v10 = true) := by first | simpa using g | (simp at g; exact g) | (simp at g; omega)
       clear g
       replace h := if_l g11 h
       refine w_seq ?_
       refine w_run mo (by rw [hN]; decide) fun K hK => ?_
       simp [-guardE_b, -Is_at, -Is_at', -Ls_at, -Ls_at', eL, eI, allInts, eP_Cat, Cat.cells]
       repeat (with_reducible refine And.intro ?_ ?_; · first | assumption | omega | (simp; done) | (simp; omega) | simp_all)
       refine hK _ ?_
       clear hK K
       refine tn ?_
       refine w_weak (st' := ⟨[(2, .val (.bool false))], [], 0⟩) (Wk.r1 [] (by simp [hP, hhOk, back, Cat.cells, IA, I1, LA, L1, BA, B1, EA, E1, E2, eB, eI, eL])) ?_
       refine w_ret ?_
       refine br ?_
       refine tr ?_
       refine lr ?_
       refine br ?_
       refine tr ?_
       cases h
       have q : _ = e1 := hk7
       have h := h1
       rw [← q] at h
       clear q
       try dsimp only at h
       have hr := Option.some.inj h
       rw [← hr]
       refine ⟨_, (.tmp .nil), ?_⟩
       refine ⟨(.one rfl rfl .nil), [.val (.bool false)], [], by simp [Cat.cells, IA, I1, LA, L1, BA, B1, EA, E1, E2, eB, eI, eL], by simp, (UpL.refl _)⟩
     have g11 : ¬ (¬ (v10 = true)) := by first | simpa using g | (simp at g; exact g) | (simp at g; omega)
     clear g
     replace h := if_r g11 h
     refine w_skip ?_
     refine bn ?_
     refine tn ?_
     refine w_run mo (by rw [hN]; decide) fun K hK => ?_
     replace h := ass_some h
     obtain ⟨a12, h⟩ := h
     simp [-guardE_b, -Is_at, -Is_at', -Ls_at, -Ls_at', eL, eI, allInts, eP_Cat, Cat.cells, wrap_id a12]
     repeat (with_reducible refine And.intro ?_ ?_; · first | assumption | omega | (simp; done) | (simp; omega) | simp_all)
     refine hK _ ?_
     clear hK K
     cases h
     exact rn (s' := s7 + 1) hk7 (Wk.r1 [] (by simp [hP, hhOk, back, Cat.cells, IA, I1, LA, L1, BA, B1, EA, E1, E2, eB, eI, eL]))
   have g8 : ¬ (s7 < (list_.length : Int)) := by first | simpa using g | (simp at g; exact g) | (simp at g; omega)
   clear g
   replace h := if_r g8 h
   refine w_exit ?_
   refine tx ?_
   refine lx ?_
   refine bh ?_
   cases h
   exact jn (b := ()) hk7 (Wk.r1 [] (by simp [hP, hhOk, back, Cat.cells, IA, I1, LA, L1, BA, B1, EA, E1, E2, eB, eI, eL]))
 intro b1 hb1
 have h := h1
 rw [← hb1] at h
 clear h1
 try dsimp only at h
 refine w_seq ?_
 refine w_run mo (by rw [hN]; decide) fun K hK => ?_
 simp [-guardE_b, -Is_at, -Is_at', -Ls_at, -Ls_at', eL, eI, allInts, eP_Cat, Cat.cells]
 repeat (with_reducible refine And.intro ?_ ?_; · first | assumption | omega | (simp; done) | (simp; omega) | simp_all)
 refine hK _ ?_
 clear hK K
 refine tn ?_
 refine w_weak (st' := ⟨[(2, .val (.bool true))], [], 0⟩) (Wk.r1 [] (by simp [hP, hhOk, back, Cat.cells, IA, I1, LA, L1, BA, B1, EA, E1, E2, eB, eI, eL])) ?_
 refine w_ret ?_
 have hr := Option.some.inj h
 rw [← hr]
 refine ⟨_, (.tmp .nil), ?_⟩
 refine ⟨(.one rfl rfl .nil), [.val (.bool true)], [], by simp [Cat.cells, IA, I1, LA, L1, BA, B1, EA, E1, E2, eB, eI, eL], by simp, (UpL.refl _)⟩
end Go.Vc.T

set_option maxRecDepth 100000
set_option linter.unusedSimpArgs false
set_option linter.unusedVariables false
namespace Go.Vc.T
open Go Go.Vc Go.Proofs
noncomputable def s_i_Functor_fits (f_ : Fn) : Option Bool :=
 (
   if ¬ ((f_.ob.length : Int) = f_.s.n) then
     some true
   else
     (s_i_Category_arrows f_.s).bind fun v3 =>
     if ¬ ((f_.ar.length : Int) = v3) then
       some true
     else
       (s_i_within f_.ob f_.t.n).bind fun v5 =>
       if ¬ (v5 = true) then
         some true
       else
         (s_i_Category_arrows f_.t).bind fun v7 =>
         (s_i_within f_.ar v7).bind fun v8 =>
         some (!v8) : Option (Bool)).bind fun b1 =>
 if b1 = true then
   some false
 else
   (loopF (σ := Int) (ε := Unit ⊕ Bool) (fun s23 =>
     if s23 < (f_.ar.length : Int) then
       ass (0 ≤ s23 ∧ s23 < (f_.ar.length : Int)) <|
       (
         ass (0 ≤ ix f_.ar s23 ∧ ix f_.ar s23 < (f_.t.fr.length : Int)) <|
         ass (0 ≤ s23 ∧ s23 < (f_.s.fr.length : Int)) <|
         ass (0 ≤ ix f_.s.fr s23 ∧ ix f_.s.fr s23 < (f_.ob.length : Int)) <|
         if ¬ ((ix f_.t.fr (ix f_.ar s23)) = (ix f_.ob (ix f_.s.fr s23))) then
           some true
         else
           ass (0 ≤ ix f_.ar s23 ∧ ix f_.ar s23 < (f_.t.to.length : Int)) <|
           ass (0 ≤ s23 ∧ s23 < (f_.s.to.length : Int)) <|
           ass (0 ≤ ix f_.s.to s23 ∧ ix f_.s.to s23 < (f_.ob.length : Int)) <|
           some ((ix f_.t.to (ix f_.ar s23)) != (ix f_.ob (ix f_.s.to s23))) : Option (Bool)).bind fun b26 =>
       if b26 = true then
         some (Ctl.ret (Sum.inr false))
       else
         ass (B64 (s23 + 1)) <|
         some (Ctl.next (s23 + 1))
     else
       some (Ctl.ret (Sum.inl ()))) fuel 0).bind fun e10 =>
   match e10 with
   | .inl b10 =>
     (loopF (σ := Int) (ε := Unit ⊕ Bool) (fun s44 =>
       if s44 < (f_.s.id.length : Int) then
         ass (0 ≤ s44 ∧ s44 < (f_.s.id.length : Int)) <|
         ass (0 ≤ ix f_.s.id s44 ∧ ix f_.s.id s44 < (f_.ar.length : Int)) <|
         ass (0 ≤ s44 ∧ s44 < (f_.ob.length : Int)) <|
         ass (0 ≤ ix f_.ob s44 ∧ ix f_.ob s44 < (f_.t.id.length : Int)) <|
         if ¬ ((ix f_.ar (ix f_.s.id s44)) = (ix f_.t.id (ix f_.ob s44))) then
           some (Ctl.ret (Sum.inr false))
         else
           ass (B64 (s44 + 1)) <|
           some (Ctl.next (s44 + 1))
       else
         some (Ctl.ret (Sum.inl ()))) fuel 0).bind fun e36 =>
     match e36 with
     | .inl b36 =>
       (loopF (σ := Int) (ε := Unit ⊕ Bool) (fun s78 =>
         if s78 < (f_.s.cs.length : Int) then
           (
             ass (0 ≤ s78 ∧ s78 < (f_.s.cs.length : Int)) <|
             (loopF (σ := Int) (ε := Bool ⊕ Unit) (fun s92 =>
               if s92 < ((rx f_.s.cs s78).length : Int) then
                 ass (0 ≤ s92 ∧ s92 < ((rx f_.s.cs s78).length : Int)) <|
                 (
                   if (ix (rx f_.s.cs s78) s92) ≥ 0 then
                     ass (0 ≤ ix (rx f_.s.cs s78) s92 ∧ ix (rx f_.s.cs s78) s92 < (f_.ar.length : Int)) <|
                     ass (0 ≤ s78 ∧ s78 < (f_.ar.length : Int)) <|
                     ass (0 ≤ s92 ∧ s92 < (f_.ar.length : Int)) <|
                     (s_i_Category_then f_.t (ix f_.ar s78) (ix f_.ar s92)).bind fun v100 =>
                     some ((ix f_.ar (ix (rx f_.s.cs s78) s92)) != v100)
                   else
                     some false : Option (Bool)).bind fun b95 =>
                 if b95 = true then
                   some (Ctl.ret (Sum.inl false))
                 else
                   ass (B64 (s92 + 1)) <|
                   some (Ctl.next (s92 + 1))
               else
                 some (Ctl.ret (Sum.inr ()))) fuel 0).bind fun e92 =>
             match e92 with
             | .inl p92 =>
               some (Sum.inr p92)
             | .inr p92 =>
               some (Sum.inl p92) : Option (Unit ⊕ Bool)).bind fun e80 =>
           match e80 with
           | .inl b80 =>
             ass (B64 (s78 + 1)) <|
             some (Ctl.next (s78 + 1))
           | .inr p80 =>
             some (Ctl.ret (Sum.inr p80))
         else
           some (Ctl.ret (Sum.inl ()))) fuel 0).bind fun e52 =>
       match e52 with
       | .inl b52 =>
         some true
       | .inr p52 =>
         some p52
     | .inr p36 =>
       some p36
   | .inr p10 =>
     some p10
set_option maxHeartbeats 4000000 in
theorem w_i_Functor_fits (f_ : Fn) (r : Bool) (h : s_i_Functor_fits f_ = some r) : Contract Try.prog 225 [.rptr (f_.cells true)] (.val (.bool r)) := by
 refine contract_introG (rvs := [.tmp 2]) (rs := [.val (.bool r)]) Try.func225 rfl rfl rfl rfl (by simp [Try.f225]) fun F hN hP => ?_
 unfold s_i_Functor_fits at h
 refine w_seq ?_
 refine w_run mo (by rw [hN]; decide) fun K hK => ?_
 simp [-guardE_b, -Is_at, -Is_at', -Ls_at, -Ls_at', eL, eI, allInts, eP_Cat, eP_Fn, Cat.cells, Fn.cells]
 repeat (with_reducible refine And.intro ?_ ?_; · first | assumption | omega | (simp; done) | (simp; omega) | simp_all)
 refine hK _ ?_
 clear hK K
 refine tn ?_
 refine w_weak (st' := ⟨[(0, .rptr (Fn.cells true f_))], [], 0⟩) (Wk.r1 [] (by simp [hP, hhOk, back, Cat.cells, Fn.cells, IA, I1, LA, L1, BA, B1, EA, E1, E2, eB, eI, eL])) ?_
 refine w_seq ?_
 refine w_run mo (by rw [hN]; decide) fun K hK => ?_
 simp [-guardE_b, -Is_at, -Is_at', -Ls_at, -Ls_at', eL, eI, allInts, eP_Cat, eP_Fn, Cat.cells, Fn.cells]
 repeat (with_reducible refine And.intro ?_ ?_; · first | assumption | omega | (simp; done) | (simp; omega) | simp_all)
 refine hK _ ?_
 clear hK K
 refine tn ?_
 refine w_weak (st' := ⟨[(0, .rptr (Fn.cells true f_)), (3, .rptr (Fn.cells true f_)), (4, .rptr [.val (.int .i64 f_.t.n), .lst true 1 (Is f_.t.fr), .lst true 1 (Is f_.t.to), .lst true 1 (Is f_.t.id), .lst true 1 (Ls f_.t.cs), .lst true 1 (Is f_.ob), .lst true 1 (Is f_.ar)])], [], 0⟩) (Wk.r1 [] (by simp [hP, hhOk, back, Cat.cells, Fn.cells, IA, I1, LA, L1, BA, B1, EA, E1, E2, eB, eI, eL])) ?_
 refine w_seq ?_
 refine w_seq ?_
 replace h := bind_some h
 obtain ⟨e1, h, h1⟩ := h
 refine w_joinT (fun b1 : Bool => ⟨[(0, .rptr (Fn.cells true f_)), (3, .rptr (Fn.cells true f_)), (4, .rptr [.val (.int .i64 f_.t.n), .lst true 1 (Is f_.t.fr), .lst true 1 (Is f_.t.to), .lst true 1 (Is f_.t.id), .lst true 1 (Ls f_.t.cs), .lst true 1 (Is f_.ob), .lst true 1 (Is f_.ar)]), (60, .val (.bool b1))], [], 0⟩) (fun b1 => b1 = e1) ?_ ?_
 · refine w_run mo (by rw [hN]; decide) fun K hK => ?_
   simp [-guardE_b, -Is_at, -Is_at', -Ls_at, -Ls_at', eL, eI, allInts, eP_Cat, eP_Fn, Cat.cells, Fn.cells]
   repeat (with_reducible refine And.intro ?_ ?_; · first | assumption | omega | (simp; done) | (simp; omega) | simp_all)
   refine guard_intro (fun g => ?_) (fun g => ?_)
   · have g2 : ¬ (¬ ((f_.ob.length : Int) = f_.s.n)) := by first | simpa using g | (simp at g; exact g) | (simp at g; omega)
     clear g
     replace h := if_r g2 h
     simp [-guardE_b, -Is_at, -Is_at', -Ls_at, -Ls_at', eL, eI, allInts, eP_Cat, eP_Fn, Cat.cells, Fn.cells]
     repeat (with_reducible refine And.intro ?_ ?_; · first | assumption | omega | (simp; done) | (simp; omega) | simp_all)
     replace h := bind_some h
     obtain ⟨v3, hv3, h⟩ := h
     refine callA_intro (w_i_Category_arrows _ v3 hv3) (.cons (.preT (by simp [Cat.cells, Fn.cells])) .nil) ?_
     simp [-guardE_b, -Is_at, -Is_at', -Ls_at, -Ls_at', unk, unA, unE, unT, unC, flat, eL, eI, allInts, eP_Cat, eP_Fn, Cat.cells, Fn.cells]
     repeat (with_reducible refine And.intro ?_ ?_; · first | assumption | omega | (simp; done) | (simp; omega) | simp_all)
     refine guard_intro (fun g => ?_) (fun g => ?_)
     · have g4 : ¬ (¬ ((f_.ar.length : Int) = v3)) := by first | simpa using g | (simp at g; exact g) | (simp at g; omega)
       clear g
       replace h := if_r g4 h
       simp [-guardE_b, -Is_at, -Is_at', -Ls_at, -Ls_at', eL, eI, allInts, eP_Cat, eP_Fn, Cat.cells, Fn.cells]
       repeat (with_reducible refine And.intro ?_ ?_; · first | assumption | omega | (simp; done) | (simp; omega) | simp_all)
       replace h := bind_some h
       obtain ⟨v5, hv5, h⟩ := h
       refine callA_intro (w_i_within _ _ v5 hv5) (.cons .lst (.cons .val .nil)) ?_
       simp [-guardE_b, -Is_at, -Is_at', -Ls_at, -Ls_at', unk, unA, unE, unT, unC, flat, eL, eI, allInts, eP_Cat, eP_Fn, Cat.cells, Fn.cells]
       repeat (with_reducible refine And.intro ?_ ?_; · first | assumption | omega | (simp; done) | (simp; omega) | simp_all)
       refine guard_intro (fun g => ?_) (fun g => ?_)
       · have g6 : ¬ (¬ (v5 = true)) := by first | simpa using g | (simp at g; exact g) | (simp at g; omega)
         clear g
         replace h := if_r g6 h
         simp [-guardE_b, -Is_at, -Is_at', -Ls_at, -Ls_at', eL, eI, allInts, eP_Cat, eP_Fn, Cat.cells, Fn.cells]
         repeat (with_reducible refine And.intro ?_ ?_; · first | assumption | omega | (simp; done) | (simp; omega) | simp_all)
         replace h := bind_some h
         obtain ⟨v7, hv7, h⟩ := h
         refine callA_intro (w_i_Category_arrows _ v7 hv7) (.cons (.preT (by simp [Cat.cells, Fn.cells])) .nil) ?_
         simp [-guardE_b, -Is_at, -Is_at', -Ls_at, -Ls_at', unk, unA, unE, unT, unC, flat, eL, eI, allInts, eP_Cat, eP_Fn, Cat.cells, Fn.cells]
         repeat (with_reducible refine And.intro ?_ ?_; · first | assumption | omega | (simp; done) | (simp; omega) | simp_all)
         replace h := bind_some h
         obtain ⟨v8, hv8, h⟩ := h
         refine callA_intro (w_i_within _ _ v8 hv8) (.cons .lst (.cons .val .nil)) ?_
         simp [-guardE_b, -Is_at, -Is_at', -Ls_at, -Ls_at', unk, unA, unE, unT, unC, flat, eL, eI, allInts, eP_Cat, eP_Fn, Cat.cells, Fn.cells]
         repeat (with_reducible refine And.intro ?_ ?_; · first | assumption | omega | (simp; done) | (simp; omega) | simp_all)
         refine hK _ ?_
         exact jn (b := !v8) (Option.some.inj h) (Wk.r1 [] (by simp [hP, hhOk, back, Cat.cells, Fn.cells, IA, I1, LA, L1, BA, B1, EA, E1, E2, eB, eI, eL]))
       have g6 : ¬ (v5 = true) := by first | simpa using g | (simp at g; exact g) | (simp at g; omega)
       clear g
       replace h := if_l g6 h
       simp [-guardE_b, -Is_at, -Is_at', -Ls_at, -Ls_at', eL, eI, allInts, eP_Cat, eP_Fn, Cat.cells, Fn.cells]
       repeat (with_reducible refine And.intro ?_ ?_; · first | assumption | omega | (simp; done) | (simp; omega) | simp_all)
       refine hK _ ?_
       exact jn (b := true) (Option.some.inj h) (Wk.r1 [] (by simp [hP, hhOk, back, Cat.cells, Fn.cells, IA, I1, LA, L1, BA, B1, EA, E1, E2, eB, eI, eL]))
     have g4 : ¬ ((f_.ar.length : Int) = v3) := by first | simpa using g | (simp at g; exact g) | (simp at g; omega)
     clear g
     replace h := if_l g4 h
     simp [-guardE_b, -Is_at, -Is_at', -Ls_at, -Ls_at', eL, eI, allInts, eP_Cat, eP_Fn, Cat.cells, Fn.cells]
     repeat (with_reducible refine And.intro ?_ ?_; · first | assumption | omega | (simp; done) | (simp; omega) | simp_all)
     refine hK _ ?_
     exact jn (b := true) (Option.some.inj h) (Wk.r1 [] (by simp [hP, hhOk, back, Cat.cells, Fn.cells, IA, I1, LA, L1, BA, B1, EA, E1, E2, eB, eI, eL]))
   have g2 : ¬ ((f_.ob.length : Int) = f_.s.n) := by first | simpa using g | (simp at g; exact g) | (simp at g; omega)
   clear g
   replace h := if_l g2 h
   simp [-guardE_b, -Is_at, -Is_at', -Ls_at, -Ls_at', eL, eI, allInts, eP_Cat, eP_Fn, Cat.cells, Fn.cells]
   repeat (with_reducible refine And.intro ?_ ?_; · first | assumption | omega | (simp; done) | (simp; omega) | simp_all)
   refine hK _ ?_
   exact jn (b := true) (Option.some.inj h) (Wk.r1 [] (by simp [hP, hhOk, back, Cat.cells, Fn.cells, IA, I1, LA, L1, BA, B1, EA, E1, E2, eB, eI, eL]))
 intro b1 hb1
 have h := h1
 rw [← hb1] at h
 clear h1
 try dsimp only at h
 refine w_cond rfl (fun g => ?_) fun g => ?_
 · have g9 : b1 = true := by first | simpa using g | (simp at g; exact g) | (simp at g; omega)
   clear g
   replace h := if_l g9 h
   refine w_seq ?_
   refine w_run mo (by rw [hN]; decide) fun K hK => ?_
   simp [-guardE_b, -Is_at, -Is_at', -Ls_at, -Ls_at', eL, eI, allInts, eP_Cat, eP_Fn, Cat.cells, Fn.cells]
   repeat (with_reducible refine And.intro ?_ ?_; · first | assumption | omega | (simp; done) | (simp; omega) | simp_all)
   refine hK _ ?_
   clear hK K
   refine tn ?_
   refine w_weak (st' := ⟨[(2, .val (.bool false))], [], 0⟩) (Wk.r1 [] (by simp [hP, hhOk, back, Cat.cells, Fn.cells, IA, I1, LA, L1, BA, B1, EA, E1, E2, eB, eI, eL])) ?_
   refine w_ret ?_
   refine tr ?_
   have hr := Option.some.inj h
   rw [← hr]
   refine ⟨_, (.tmp .nil), ?_⟩
   refine ⟨(.one rfl rfl .nil), [.val (.bool false)], [], by simp [Cat.cells, Fn.cells, IA, I1, LA, L1, BA, B1, EA, E1, E2, eB, eI, eL], by simp, (UpL.refl _)⟩
 have g9 : ¬ (b1 = true) := by first | simpa using g | (simp at g; exact g) | (simp at g; omega)
 clear g
 replace h := if_r g9 h
 refine w_skip ?_
 refine tn ?_
 refine w_seq ?_
 refine w_seq ?_
 refine w_run mo (by rw [hN]; decide) fun K hK => ?_
 simp [-guardE_b, -Is_at, -Is_at', -Ls_at, -Ls_at', eL, eI, allInts, eP_Cat, eP_Fn, Cat.cells, Fn.cells]
 repeat (with_reducible refine And.intro ?_ ?_; · first | assumption | omega | (simp; done) | (simp; omega) | simp_all)
 refine hK _ ?_
 clear hK K
 refine tn ?_
 refine w_weak (st' := ⟨[(0, .rptr (Fn.cells true f_)), (3, .rptr (Fn.cells true f_)), (4, .rptr [.val (.int .i64 f_.t.n), .lst true 1 (Is f_.t.fr), .lst true 1 (Is f_.t.to), .lst true 1 (Is f_.t.id), .lst true 1 (Ls f_.t.cs), .lst true 1 (Is f_.ob), .lst true 1 (Is f_.ar)]), (64, .lst true 1 (Is f_.ar)), (65, .val (.int .i64 (f_.ar.length : Int))), (66, .val (.int .i64 0))], [], 0⟩) (Wk.r1 [] (by simp [hP, hhOk, back, Cat.cells, Fn.cells, IA, I1, LA, L1, BA, B1, EA, E1, E2, eB, eI, eL])) ?_
 replace h := bind_some h
 obtain ⟨e10, h, h10⟩ := h
 refine w_joinT (fun b10 : Unit => ⟨[(0, .rptr (Fn.cells true f_)), (3, .rptr (Fn.cells true f_)), (4, .rptr [.val (.int .i64 f_.t.n), .lst true 1 (Is f_.t.fr), .lst true 1 (Is f_.t.to), .lst true 1 (Is f_.t.id), .lst true 1 (Ls f_.t.cs), .lst true 1 (Is f_.ob), .lst true 1 (Is f_.ar)])], [], 0⟩) (fun b10 => Sum.inl b10 = e10) ?_ ?_
 · refine w_block ?_
   refine w_loopF h (fun s23 : Int => ⟨[(0, .rptr (Fn.cells true f_)), (3, .rptr (Fn.cells true f_)), (4, .rptr [.val (.int .i64 f_.t.n), .lst true 1 (Is f_.t.fr), .lst true 1 (Is f_.t.to), .lst true 1 (Is f_.t.id), .lst true 1 (Ls f_.t.cs), .lst true 1 (Is f_.ob), .lst true 1 (Is f_.ar)]), (64, .lst true 1 (Is f_.ar)), (65, .val (.int .i64 (f_.ar.length : Int))), (66, .val (.int .i64 s23))], [], 0⟩) (Wk.r1 [] (by simp [hP, hhOk, back, Cat.cells, Fn.cells, IA, I1, LA, L1, BA, B1, EA, E1, E2, eB, eI, eL])) ?_
   clear h
   intro k23 s23 c23 h hk23
   refine w_seq ?_
   refine w_run mo (by rw [hN]; decide) fun K hK => ?_
   simp [-guardE_b, -Is_at, -Is_at', -Ls_at, -Ls_at', eL, eI, allInts, eP_Cat, eP_Fn, Cat.cells, Fn.cells]
   repeat (with_reducible refine And.intro ?_ ?_; · first | assumption | omega | (simp; done) | (simp; omega) | simp_all)
   refine hK _ ?_
   clear hK K
   refine tn ?_
   refine w_weak (st' := ⟨[(0, .rptr (Fn.cells true f_)), (3, .rptr (Fn.cells true f_)), (4, .rptr [.val (.int .i64 f_.t.n), .lst true 1 (Is f_.t.fr), .lst true 1 (Is f_.t.to), .lst true 1 (Is f_.t.id), .lst true 1 (Ls f_.t.cs), .lst true 1 (Is f_.ob), .lst true 1 (Is f_.ar)]), (64, .lst true 1 (Is f_.ar)), (65, .val (.int .i64 (f_.ar.length : Int))), (66, .val (.int .i64 s23)), (67, .val (.bool (decide (s23 < (f_.ar.length : Int)))))], [], 0⟩) (Wk.r1 [] (by simp [hP, hhOk, back, Cat.cells, Fn.cells, IA, I1, LA, L1, BA, B1, EA, E1, E2, eB, eI, eL])) ?_
   refine w_seq ?_
   refine w_cond rfl (fun g => ?_) fun g => ?_
   · have g24 : s23 < (f_.ar.length : Int) := by first | simpa using g | (simp at g; exact g) | (simp at g; omega)
     clear g
     replace h := if_l g24 h
     refine w_skip ?_
     refine tn ?_
     refine w_seq ?_
     refine w_block ?_
     refine w_seq ?_
     refine w_run mo (by rw [hN]; decide) fun K hK => ?_
     replace h := ass_some h
     obtain ⟨a25, h⟩ := h
     simp [-guardE_b, -Is_at, -Is_at', -Ls_at, -Ls_at', eL, eI, allInts, eP_Cat, eP_Fn, Cat.cells, Fn.cells, at_I a25]
     repeat (with_reducible refine And.intro ?_ ?_; · first | assumption | omega | (simp; done) | (simp; omega) | simp_all)
     refine hK _ ?_
     clear hK K
     refine tn ?_
     refine w_weak (st' := ⟨[(0, .rptr (Fn.cells true f_)), (3, .rptr (Fn.cells true f_)), (4, .rptr [.val (.int .i64 f_.t.n), .lst true 1 (Is f_.t.fr), .lst true 1 (Is f_.t.to), .lst true 1 (Is f_.t.id), .lst true 1 (Ls f_.t.cs), .lst true 1 (Is f_.ob), .lst true 1 (Is f_.ar)]), (5, .val (.int .i64 s23)), (6, .val (.int .i64 (ix f_.ar s23))), (64, .lst true 1 (Is f_.ar)), (65, .val (.int .i64 (f_.ar.length : Int))), (66, .val (.int .i64 s23))], [], 0⟩) (Wk.r1 [] (by simp [hP, hhOk, back, Cat.cells, Fn.cells, IA, I1, LA, L1, BA, B1, EA, E1, E2, eB, eI, eL])) ?_
     refine w_seq ?_
     replace h := bind_some h
     obtain ⟨e26, h, h26⟩ := h
     refine w_joinT (fun b26 : Bool => ⟨[(0, .rptr (Fn.cells true f_)), (3, .rptr (Fn.cells true f_)), (4, .rptr [.val (.int .i64 f_.t.n), .lst true 1 (Is f_.t.fr), .lst true 1 (Is f_.t.to), .lst true 1 (Is f_.t.id), .lst true 1 (Ls f_.t.cs), .lst true 1 (Is f_.ob), .lst true 1 (Is f_.ar)]), (64, .lst true 1 (Is f_.ar)), (65, .val (.int .i64 (f_.ar.length : Int))), (66, .val (.int .i64 s23)), (114, .val (.bool b26))], [], 0⟩) (fun b26 => b26 = e26) ?_ ?_
     · refine w_run mo (by rw [hN]; decide) fun K hK => ?_
       replace h := ass_some h
       obtain ⟨a27, h⟩ := h
       replace h := ass_some h
       obtain ⟨a28, h⟩ := h
       replace h := ass_some h
       obtain ⟨a29, h⟩ := h
       simp [-guardE_b, -Is_at, -Is_at', -Ls_at, -Ls_at', eL, eI, allInts, eP_Cat, eP_Fn, Cat.cells, Fn.cells, at_I a27, at_I a28, at_I a29]
       repeat (with_reducible refine And.intro ?_ ?_; · first | assumption | omega | (simp; done) | (simp; omega) | simp_all)
       refine guard_intro (fun g => ?_) (fun g => ?_)
       · have g30 : ¬ (¬ ((ix f_.t.fr (ix f_.ar s23)) = (ix f_.ob (ix f_.s.fr s23)))) := by first | simpa using g | (simp at g; exact g) | (simp at g; omega)
         clear g
         replace h := if_r g30 h
         replace h := ass_some h
         obtain ⟨a31, h⟩ := h
         replace h := ass_some h
         obtain ⟨a32, h⟩ := h
         replace h := ass_some h
         obtain ⟨a33, h⟩ := h
         simp [-guardE_b, -Is_at, -Is_at', -Ls_at, -Ls_at', eL, eI, allInts, eP_Cat, eP_Fn, Cat.cells, Fn.cells, at_I a31, at_I a32, at_I a33]
         repeat (with_reducible refine And.intro ?_ ?_; · first | assumption | omega | (simp; done) | (simp; omega) | simp_all)
         refine hK _ ?_
         exact jn (b := (ix f_.t.to (ix f_.ar s23)) != (ix f_.ob (ix f_.s.to s23))) (Option.some.inj h) (Wk.r1 [] (by simp [hP, hhOk, back, Cat.cells, Fn.cells, IA, I1, LA, L1, BA, B1, EA, E1, E2, eB, eI, eL]))
       have g30 : ¬ ((ix f_.t.fr (ix f_.ar s23)) = (ix f_.ob (ix f_.s.fr s23))) := by first | simpa using g | (simp at g; exact g) | (simp at g; omega)
       clear g
       replace h := if_l g30 h
       simp [-guardE_b, -Is_at, -Is_at', -Ls_at, -Ls_at', eL, eI, allInts, eP_Cat, eP_Fn, Cat.cells, Fn.cells]
       repeat (with_reducible refine And.intro ?_ ?_; · first | assumption | omega | (simp; done) | (simp; omega) | simp_all)
       refine hK _ ?_
       exact jn (b := true) (Option.some.inj h) (Wk.r1 [] (by simp [hP, hhOk, back, Cat.cells, Fn.cells, IA, I1, LA, L1, BA, B1, EA, E1, E2, eB, eI, eL]))
     intro b26 hb26
     have h := h26
     rw [← hb26] at h
     clear h26
     try dsimp only at h
     refine w_cond rfl (fun g => ?_) fun g => ?_
     · have g34 : b26 = true := by first | simpa using g | (simp at g; exact g) | (simp at g; omega)
       clear g
       replace h := if_l g34 h
       refine w_seq ?_
       refine w_run mo (by rw [hN]; decide) fun K hK => ?_
       simp [-guardE_b, -Is_at, -Is_at', -Ls_at, -Ls_at', eL, eI, allInts, eP_Cat, eP_Fn, Cat.cells, Fn.cells]
       repeat (with_reducible refine And.intro ?_ ?_; · first | assumption | omega | (simp; done) | (simp; omega) | simp_all)
       refine hK _ ?_
       clear hK K
       refine tn ?_
       refine w_weak (st' := ⟨[(2, .val (.bool false))], [], 0⟩) (Wk.r1 [] (by simp [hP, hhOk, back, Cat.cells, Fn.cells, IA, I1, LA, L1, BA, B1, EA, E1, E2, eB, eI, eL])) ?_
       refine w_ret ?_
       refine br ?_
       refine tr ?_
       refine lr ?_
       refine br ?_
       refine tr ?_
       cases h
       have q : _ = e10 := hk23
       have h := h10
       rw [← q] at h
       clear q
       try dsimp only at h
       have hr := Option.some.inj h
       rw [← hr]
       refine ⟨_, (.tmp .nil), ?_⟩
       refine ⟨(.one rfl rfl .nil), [.val (.bool false)], [], by simp [Cat.cells, Fn.cells, IA, I1, LA, L1, BA, B1, EA, E1, E2, eB, eI, eL], by simp, (UpL.refl _)⟩
     have g34 : ¬ (b26 = true) := by first | simpa using g | (simp at g; exact g) | (simp at g; omega)
     clear g
     replace h := if_r g34 h
     refine w_skip ?_
     refine bn ?_
     refine tn ?_
     refine w_run mo (by rw [hN]; decide) fun K hK => ?_
     replace h := ass_some h
     obtain ⟨a35, h⟩ := h
     simp [-guardE_b, -Is_at, -Is_at', -Ls_at, -Ls_at', eL, eI, allInts, eP_Cat, eP_Fn, Cat.cells, Fn.cells, wrap_id a35]
     repeat (with_reducible refine And.intro ?_ ?_; · first | assumption | omega | (simp; done) | (simp; omega) | simp_all)
     refine hK _ ?_
     clear hK K
     cases h
     exact rn (s' := s23 + 1) hk23 (Wk.r1 [] (by simp [hP, hhOk, back, Cat.cells, Fn.cells, IA, I1, LA, L1, BA, B1, EA, E1, E2, eB, eI, eL]))
   have g24 : ¬ (s23 < (f_.ar.length : Int)) := by first | simpa using g | (simp at g; exact g) | (simp at g; omega)
   clear g
   replace h := if_r g24 h
   refine w_exit ?_
   refine tx ?_
   refine lx ?_
   refine bh ?_
   cases h
   exact jn (b := ()) hk23 (Wk.r1 [] (by simp [hP, hhOk, back, Cat.cells, Fn.cells, IA, I1, LA, L1, BA, B1, EA, E1, E2, eB, eI, eL]))
 intro b10 hb10
 have h := h10
 rw [← hb10] at h
 clear h10
 try dsimp only at h
 refine w_seq ?_
 refine w_seq ?_
 refine w_run mo (by rw [hN]; decide) fun K hK => ?_
 simp [-guardE_b, -Is_at, -Is_at', -Ls_at, -Ls_at', eL, eI, allInts, eP_Cat, eP_Fn, Cat.cells, Fn.cells]
 repeat (with_reducible refine And.intro ?_ ?_; · first | assumption | omega | (simp; done) | (simp; omega) | simp_all)
 refine hK _ ?_
 clear hK K
 refine tn ?_
 refine w_weak (st' := ⟨[(0, .rptr (Fn.cells true f_)), (3, .rptr (Fn.cells true f_)), (4, .rptr [.val (.int .i64 f_.t.n), .lst true 1 (Is f_.t.fr), .lst true 1 (Is f_.t.to), .lst true 1 (Is f_.t.id), .lst true 1 (Ls f_.t.cs), .lst true 1 (Is f_.ob), .lst true 1 (Is f_.ar)]), (119, .lst true 1 (Is f_.s.id)), (120, .val (.int .i64 (f_.s.id.length : Int))), (121, .val (.int .i64 0))], [], 0⟩) (Wk.r1 [] (by simp [hP, hhOk, back, Cat.cells, Fn.cells, IA, I1, LA, L1, BA, B1, EA, E1, E2, eB, eI, eL])) ?_
 replace h := bind_some h
 obtain ⟨e36, h, h36⟩ := h
 refine w_joinT (fun b36 : Unit => ⟨[(0, .rptr (Fn.cells true f_)), (3, .rptr (Fn.cells true f_)), (4, .rptr [.val (.int .i64 f_.t.n), .lst true 1 (Is f_.t.fr), .lst true 1 (Is f_.t.to), .lst true 1 (Is f_.t.id), .lst true 1 (Ls f_.t.cs), .lst true 1 (Is f_.ob), .lst true 1 (Is f_.ar)])], [], 0⟩) (fun b36 => Sum.inl b36 = e36) ?_ ?_
 · refine w_block ?_
   refine w_loopF h (fun s44 : Int => ⟨[(0, .rptr (Fn.cells true f_)), (3, .rptr (Fn.cells true f_)), (4, .rptr [.val (.int .i64 f_.t.n), .lst true 1 (Is f_.t.fr), .lst true 1 (Is f_.t.to), .lst true 1 (Is f_.t.id), .lst true 1 (Ls f_.t.cs), .lst true 1 (Is f_.ob), .lst true 1 (Is f_.ar)]), (119, .lst true 1 (Is f_.s.id)), (120, .val (.int .i64 (f_.s.id.length : Int))), (121, .val (.int .i64 s44))], [], 0⟩) (Wk.r1 [] (by simp [hP, hhOk, back, Cat.cells, Fn.cells, IA, I1, LA, L1, BA, B1, EA, E1, E2, eB, eI, eL])) ?_
   clear h
   intro k44 s44 c44 h hk44
   refine w_seq ?_
   refine w_run mo (by rw [hN]; decide) fun K hK => ?_
   simp [-guardE_b, -Is_at, -Is_at', -Ls_at, -Ls_at', eL, eI, allInts, eP_Cat, eP_Fn, Cat.cells, Fn.cells]
   repeat (with_reducible refine And.intro ?_ ?_; · first | assumption | omega | (simp; done) | (simp; omega) | simp_all)
   refine hK _ ?_
   clear hK K
   refine tn ?_
   refine w_weak (st' := ⟨[(0, .rptr (Fn.cells true f_)), (3, .rptr (Fn.cells true f_)), (4, .rptr [.val (.int .i64 f_.t.n), .lst true 1 (Is f_.t.fr), .lst true 1 (Is f_.t.to), .lst true 1 (Is f_.t.id), .lst true 1 (Ls f_.t.cs), .lst true 1 (Is f_.ob), .lst true 1 (Is f_.ar)]), (119, .lst true 1 (Is f_.s.id)), (120, .val (.int .i64 (f_.s.id.length : Int))), (121, .val (.int .i64 s44)), (122, .val (.bool (decide (s44 < (f_.s.id.length : Int)))))], [], 0⟩) (Wk.r1 [] (by simp [hP, hhOk, back, Cat.cells, Fn.cells, IA, I1, LA, L1, BA, B1, EA, E1, E2, eB, eI, eL])) ?_
   refine w_seq ?_
   refine w_cond rfl (fun g => ?_) fun g => ?_
   · have g45 : s44 < (f_.s.id.length : Int) := by first | simpa using g | (simp at g; exact g) | (simp at g; omega)
     clear g
     replace h := if_l g45 h
     refine w_skip ?_
     refine tn ?_
     refine w_seq ?_
     refine w_block ?_
     refine w_seq ?_
     refine w_run mo (by rw [hN]; decide) fun K hK => ?_
     replace h := ass_some h
     obtain ⟨a46, h⟩ := h
     simp [-guardE_b, -Is_at, -Is_at', -Ls_at, -Ls_at', eL, eI, allInts, eP_Cat, eP_Fn, Cat.cells, Fn.cells, at_I a46]
     repeat (with_reducible refine And.intro ?_ ?_; · first | assumption | omega | (simp; done) | (simp; omega) | simp_all)
     refine hK _ ?_
     clear hK K
     refine tn ?_
     refine w_weak (st' := ⟨[(0, .rptr (Fn.cells true f_)), (3, .rptr (Fn.cells true f_)), (4, .rptr [.val (.int .i64 f_.t.n), .lst true 1 (Is f_.t.fr), .lst true 1 (Is f_.t.to), .lst true 1 (Is f_.t.id), .lst true 1 (Ls f_.t.cs), .lst true 1 (Is f_.ob), .lst true 1 (Is f_.ar)]), (7, .val (.int .i64 s44)), (8, .val (.int .i64 (ix f_.s.id s44))), (119, .lst true 1 (Is f_.s.id)), (120, .val (.int .i64 (f_.s.id.length : Int))), (121, .val (.int .i64 s44))], [], 0⟩) (Wk.r1 [] (by simp [hP, hhOk, back, Cat.cells, Fn.cells, IA, I1, LA, L1, BA, B1, EA, E1, E2, eB, eI, eL])) ?_
     refine w_seq ?_
     refine w_run mo (by rw [hN]; decide) fun K hK => ?_
     replace h := ass_some h
     obtain ⟨a47, h⟩ := h
     replace h := ass_some h
     obtain ⟨a48, h⟩ := h
     replace h := ass_some h
     obtain ⟨a49, h⟩ := h
     simp [-guardE_b, -Is_at, -Is_at', -Ls_at, -Ls_at', eL, eI, allInts, eP_Cat, eP_Fn, Cat.cells, Fn.cells, at_I a47, at_I a48, at_I a49]
     repeat (with_reducible refine And.intro ?_ ?_; · first | assumption | omega | (simp; done) | (simp; omega) | simp_all)
     refine hK _ ?_
     clear hK K
     refine tn ?_
     refine w_weak (st' := ⟨[(0, .rptr (Fn.cells true f_)), (3, .rptr (Fn.cells true f_)), (4, .rptr [.val (.int .i64 f_.t.n), .lst true 1 (Is f_.t.fr), .lst true 1 (Is f_.t.to), .lst true 1 (Is f_.t.id), .lst true 1 (Ls f_.t.cs), .lst true 1 (Is f_.ob), .lst true 1 (Is f_.ar)]), (119, .lst true 1 (Is f_.s.id)), (120, .val (.int .i64 (f_.s.id.length : Int))), (121, .val (.int .i64 s44)), (146, .val (.bool ((ix f_.ar (ix f_.s.id s44)) != (ix f_.t.id (ix f_.ob s44)))))], [], 0⟩) (Wk.r1 [] (by simp [hP, hhOk, back, Cat.cells, Fn.cells, IA, I1, LA, L1, BA, B1, EA, E1, E2, eB, eI, eL])) ?_
     refine w_cond rfl (fun g => ?_) fun g => ?_
     · have g50 : ¬ ((ix f_.ar (ix f_.s.id s44)) = (ix f_.t.id (ix f_.ob s44))) := by first | simpa using g | (simp at g; exact g) | (simp at g; omega)
       clear g
       replace h := if_l g50 h
       refine w_seq ?_
       refine w_run mo (by rw [hN]; decide) fun K hK => ?_
       simp [-guardE_b, -Is_at, -Is_at', -Ls_at, -Ls_at', eL, eI, allInts, eP_Cat, eP_Fn, Cat.cells, Fn.cells]
       repeat (with_reducible refine And.intro ?_ ?_; · first | assumption | omega | (simp; done) | (simp; omega) | simp_all)
       refine hK _ ?_
       clear hK K
       refine tn ?_
       refine w_weak (st' := ⟨[(2, .val (.bool false))], [], 0⟩) (Wk.r1 [] (by simp [hP, hhOk, back, Cat.cells, Fn.cells, IA, I1, LA, L1, BA, B1, EA, E1, E2, eB, eI, eL])) ?_
       refine w_ret ?_
       refine br ?_
       refine tr ?_
       refine lr ?_
       refine br ?_
       refine tr ?_
       cases h
       have q : _ = e36 := hk44
       have h := h36
       rw [← q] at h
       clear q
       try dsimp only at h
       have hr := Option.some.inj h
       rw [← hr]
       refine ⟨_, (.tmp .nil), ?_⟩
       refine ⟨(.one rfl rfl .nil), [.val (.bool false)], [], by simp [Cat.cells, Fn.cells, IA, I1, LA, L1, BA, B1, EA, E1, E2, eB, eI, eL], by simp, (UpL.refl _)⟩
     have g50 : ¬ (¬ ((ix f_.ar (ix f_.s.id s44)) = (ix f_.t.id (ix f_.ob s44)))) := by first | simpa using g | (simp at g; exact g) | (simp at g; omega)
     clear g
     replace h := if_r g50 h
     refine w_skip ?_
     refine bn ?_
     refine tn ?_
     refine w_run mo (by rw [hN]; decide) fun K hK => ?_
     replace h := ass_some h
     obtain ⟨a51, h⟩ := h
     simp [-guardE_b, -Is_at, -Is_at', -Ls_at, -Ls_at', eL, eI, allInts, eP_Cat, eP_Fn, Cat.cells, Fn.cells, wrap_id a51]
     repeat (with_reducible refine And.intro ?_ ?_; · first | assumption | omega | (simp; done) | (simp; omega) | simp_all)
     refine hK _ ?_
     clear hK K
     cases h
     exact rn (s' := s44 + 1) hk44 (Wk.r1 [] (by simp [hP, hhOk, back, Cat.cells, Fn.cells, IA, I1, LA, L1, BA, B1, EA, E1, E2, eB, eI, eL]))
   have g45 : ¬ (s44 < (f_.s.id.length : Int)) := by first | simpa using g | (simp at g; exact g) | (simp at g; omega)
   clear g
   replace h := if_r g45 h
   refine w_exit ?_
   refine tx ?_
   refine lx ?_
   refine bh ?_
   cases h
   exact jn (b := ()) hk44 (Wk.r1 [] (by simp [hP, hhOk, back, Cat.cells, Fn.cells, IA, I1, LA, L1, BA, B1, EA, E1, E2, eB, eI, eL]))
 intro b36 hb36
 have h := h36
 rw [← hb36] at h
 clear h36
 try dsimp only at h
 refine w_seq ?_
 refine w_seq ?_
 refine w_run mo (by rw [hN]; decide) fun K hK => ?_
 simp [-guardE_b, -Is_at, -Is_at', -Ls_at, -Ls_at', eL, eI, allInts, eP_Cat, eP_Fn, Cat.cells, Fn.cells]
 repeat (with_reducible refine And.intro ?_ ?_; · first | assumption | omega | (simp; done) | (simp; omega) | simp_all)
 refine hK _ ?_
 clear hK K
 refine tn ?_
 refine w_weak (st' := ⟨[(0, .rptr (Fn.cells true f_)), (4, .rptr [.val (.int .i64 f_.t.n), .lst true 1 (Is f_.t.fr), .lst true 1 (Is f_.t.to), .lst true 1 (Is f_.t.id), .lst true 1 (Ls f_.t.cs), .lst true 1 (Is f_.ob), .lst true 1 (Is f_.ar)]), (151, .lst true 1 (Ls f_.s.cs)), (152, .val (.int .i64 (f_.s.cs.length : Int))), (153, .val (.int .i64 0))], [], 0⟩) (Wk.r1 [] (by simp [hP, hhOk, back, Cat.cells, Fn.cells, IA, I1, LA, L1, BA, B1, EA, E1, E2, eB, eI, eL])) ?_
 replace h := bind_some h
 obtain ⟨e52, h, h52⟩ := h
 refine w_joinT (fun b52 : Unit => ⟨[], [], 0⟩) (fun b52 => Sum.inl b52 = e52) ?_ ?_
 · refine w_block ?_
   refine w_loopF h (fun s78 : Int => ⟨[(0, .rptr (Fn.cells true f_)), (4, .rptr [.val (.int .i64 f_.t.n), .lst true 1 (Is f_.t.fr), .lst true 1 (Is f_.t.to), .lst true 1 (Is f_.t.id), .lst true 1 (Ls f_.t.cs), .lst true 1 (Is f_.ob), .lst true 1 (Is f_.ar)]), (151, .lst true 1 (Ls f_.s.cs)), (152, .val (.int .i64 (f_.s.cs.length : Int))), (153, .val (.int .i64 s78))], [], 0⟩) (Wk.r1 [] (by simp [hP, hhOk, back, Cat.cells, Fn.cells, IA, I1, LA, L1, BA, B1, EA, E1, E2, eB, eI, eL])) ?_
   clear h
   intro k78 s78 c78 h hk78
   refine w_seq ?_
   refine w_run mo (by rw [hN]; decide) fun K hK => ?_
   simp [-guardE_b, -Is_at, -Is_at', -Ls_at, -Ls_at', eL, eI, allInts, eP_Cat, eP_Fn, Cat.cells, Fn.cells]
   repeat (with_reducible refine And.intro ?_ ?_; · first | assumption | omega | (simp; done) | (simp; omega) | simp_all)
   refine hK _ ?_
   clear hK K
   refine tn ?_
   refine w_weak (st' := ⟨[(0, .rptr (Fn.cells true f_)), (4, .rptr [.val (.int .i64 f_.t.n), .lst true 1 (Is f_.t.fr), .lst true 1 (Is f_.t.to), .lst true 1 (Is f_.t.id), .lst true 1 (Ls f_.t.cs), .lst true 1 (Is f_.ob), .lst true 1 (Is f_.ar)]), (151, .lst true 1 (Ls f_.s.cs)), (152, .val (.int .i64 (f_.s.cs.length : Int))), (153, .val (.int .i64 s78)), (154, .val (.bool (decide (s78 < (f_.s.cs.length : Int)))))], [], 0⟩) (Wk.r1 [] (by simp [hP, hhOk, back, Cat.cells, Fn.cells, IA, I1, LA, L1, BA, B1, EA, E1, E2, eB, eI, eL])) ?_
   refine w_seq ?_
   refine w_cond rfl (fun g => ?_) fun g => ?_
   · have g79 : s78 < (f_.s.cs.length : Int) := by first | simpa using g | (simp at g; exact g) | (simp at g; omega)
     clear g
     replace h := if_l g79 h
     refine w_skip ?_
     refine tn ?_
     refine w_seq ?_
     replace h := bind_some h
     obtain ⟨e80, h, h80⟩ := h
     refine w_joinT (fun b80 : Unit => ⟨[(0, .rptr (Fn.cells true f_)), (4, .rptr [.val (.int .i64 f_.t.n), .lst true 1 (Is f_.t.fr), .lst true 1 (Is f_.t.to), .lst true 1 (Is f_.t.id), .lst true 1 (Ls f_.t.cs), .lst true 1 (Is f_.ob), .lst true 1 (Is f_.ar)]), (151, .lst true 1 (Ls f_.s.cs)), (152, .val (.int .i64 (f_.s.cs.length : Int))), (153, .val (.int .i64 s78))], [], 0⟩) (fun b80 => Sum.inl b80 = e80) ?_ ?_
     · refine w_block ?_
       refine w_seq ?_
       refine w_run mo (by rw [hN]; decide) fun K hK => ?_
       replace h := ass_some h
       obtain ⟨a81, h⟩ := h
       simp [-guardE_b, -Is_at, -Is_at', -Ls_at, -Ls_at', eL, eI, allInts, eP_Cat, eP_Fn, Cat.cells, Fn.cells, at_L a81]
       repeat (with_reducible refine And.intro ?_ ?_; · first | assumption | omega | (simp; done) | (simp; omega) | simp_all)
       refine hK _ ?_
       clear hK K
       refine tn ?_
       refine w_weak (st' := ⟨[(0, .rptr (Fn.cells true f_)), (4, .rptr [.val (.int .i64 f_.t.n), .lst true 1 (Is f_.t.fr), .lst true 1 (Is f_.t.to), .lst true 1 (Is f_.t.id), .lst true 1 (Ls f_.t.cs), .lst true 1 (Is f_.ob), .lst true 1 (Is f_.ar)]), (9, .val (.int .i64 s78)), (10, .lst true 1 (Is (rx f_.s.cs s78))), (151, .lst true 1 (Ls f_.s.cs)), (152, .val (.int .i64 (f_.s.cs.length : Int))), (153, .val (.int .i64 s78))], [], 0⟩) (Wk.r1 [] (by simp [hP, hhOk, back, Cat.cells, Fn.cells, IA, I1, LA, L1, BA, B1, EA, E1, E2, eB, eI, eL])) ?_
       refine w_seq ?_
       refine w_run mo (by rw [hN]; decide) fun K hK => ?_
       simp [-guardE_b, -Is_at, -Is_at', -Ls_at, -Ls_at', eL, eI, allInts, eP_Cat, eP_Fn, Cat.cells, Fn.cells]
       repeat (with_reducible refine And.intro ?_ ?_; · first | assumption | omega | (simp; done) | (simp; omega) | simp_all)
       refine hK _ ?_
       clear hK K
       refine tn ?_
       refine w_weak (st' := ⟨[(0, .rptr (Fn.cells true f_)), (4, .rptr [.val (.int .i64 f_.t.n), .lst true 1 (Is f_.t.fr), .lst true 1 (Is f_.t.to), .lst true 1 (Is f_.t.id), .lst true 1 (Ls f_.t.cs), .lst true 1 (Is f_.ob), .lst true 1 (Is f_.ar)]), (9, .val (.int .i64 s78)), (151, .lst true 1 (Ls f_.s.cs)), (152, .val (.int .i64 (f_.s.cs.length : Int))), (153, .val (.int .i64 s78)), (158, .lst true 1 (Is (rx f_.s.cs s78))), (159, .val (.int .i64 ((rx f_.s.cs s78).length : Int))), (160, .val (.int .i64 0))], [], 0⟩) (Wk.r1 [] (by simp [hP, hhOk, back, Cat.cells, Fn.cells, IA, I1, LA, L1, BA, B1, EA, E1, E2, eB, eI, eL])) ?_
       refine w_block ?_
       replace h := bind_some h
       obtain ⟨e92, he92, h92⟩ := h
       refine w_loopF he92 (fun s92 : Int => ⟨[(0, .rptr (Fn.cells true f_)), (4, .rptr [.val (.int .i64 f_.t.n), .lst true 1 (Is f_.t.fr), .lst true 1 (Is f_.t.to), .lst true 1 (Is f_.t.id), .lst true 1 (Ls f_.t.cs), .lst true 1 (Is f_.ob), .lst true 1 (Is f_.ar)]), (9, .val (.int .i64 s78)), (151, .lst true 1 (Ls f_.s.cs)), (152, .val (.int .i64 (f_.s.cs.length : Int))), (153, .val (.int .i64 s78)), (158, .lst true 1 (Is (rx f_.s.cs s78))), (159, .val (.int .i64 ((rx f_.s.cs s78).length : Int))), (160, .val (.int .i64 s92))], [], 0⟩) (Wk.r1 [] (by simp [hP, hhOk, back, Cat.cells, Fn.cells, IA, I1, LA, L1, BA, B1, EA, E1, E2, eB, eI, eL])) ?_
       intro k92 s92 c92 h hk92
       refine w_seq ?_
       refine w_run mo (by rw [hN]; decide) fun K hK => ?_
       simp [-guardE_b, -Is_at, -Is_at', -Ls_at, -Ls_at', eL, eI, allInts, eP_Cat, eP_Fn, Cat.cells, Fn.cells]
       repeat (with_reducible refine And.intro ?_ ?_; · first | assumption | omega | (simp; done) | (simp; omega) | simp_all)
       refine hK _ ?_
       clear hK K
       refine tn ?_
       refine w_weak (st' := ⟨[(0, .rptr (Fn.cells true f_)), (4, .rptr [.val (.int .i64 f_.t.n), .lst true 1 (Is f_.t.fr), .lst true 1 (Is f_.t.to), .lst true 1 (Is f_.t.id), .lst true 1 (Ls f_.t.cs), .lst true 1 (Is f_.ob), .lst true 1 (Is f_.ar)]), (9, .val (.int .i64 s78)), (151, .lst true 1 (Ls f_.s.cs)), (152, .val (.int .i64 (f_.s.cs.length : Int))), (153, .val (.int .i64 s78)), (158, .lst true 1 (Is (rx f_.s.cs s78))), (159, .val (.int .i64 ((rx f_.s.cs s78).length : Int))), (160, .val (.int .i64 s92)), (161, .val (.bool (decide (s92 < ((rx f_.s.cs s78).length : Int)))))], [], 0⟩) (Wk.r1 [] (by simp [hP, hhOk, back, Cat.cells, Fn.cells, IA, I1, LA, L1, BA, B1, EA, E1, E2, eB, eI, eL])) ?_
       refine w_seq ?_
       refine w_cond rfl (fun g => ?_) fun g => ?_
       · have g93 : s92 < ((rx f_.s.cs s78).length : Int) := by first | simpa using g | (simp at g; exact g) | (simp at g; omega)
         clear g
         replace h := if_l g93 h
         refine w_skip ?_
         refine tn ?_
         refine w_seq ?_
         refine w_block ?_
         refine w_seq ?_
         refine w_run mo (by rw [hN]; decide) fun K hK => ?_
         replace h := ass_some h
         obtain ⟨a94, h⟩ := h
         simp [-guardE_b, -Is_at, -Is_at', -Ls_at, -Ls_at', eL, eI, allInts, eP_Cat, eP_Fn, Cat.cells, Fn.cells, at_I a94]
         repeat (with_reducible refine And.intro ?_ ?_; · first | assumption | omega | (simp; done) | (simp; omega) | simp_all)
         refine hK _ ?_
         clear hK K
         refine tn ?_
         refine w_weak (st' := ⟨[(0, .rptr (Fn.cells true f_)), (4, .rptr [.val (.int .i64 f_.t.n), .lst true 1 (Is f_.t.fr), .lst true 1 (Is f_.t.to), .lst true 1 (Is f_.t.id), .lst true 1 (Ls f_.t.cs), .lst true 1 (Is f_.ob), .lst true 1 (Is f_.ar)]), (9, .val (.int .i64 s78)), (11, .val (.int .i64 s92)), (12, .val (.int .i64 (ix (rx f_.s.cs s78) s92))), (151, .lst true 1 (Ls f_.s.cs)), (152, .val (.int .i64 (f_.s.cs.length : Int))), (153, .val (.int .i64 s78)), (158, .lst true 1 (Is (rx f_.s.cs s78))), (159, .val (.int .i64 ((rx f_.s.cs s78).length : Int))), (160, .val (.int .i64 s92))], [], 0⟩) (Wk.r1 [] (by simp [hP, hhOk, back, Cat.cells, Fn.cells, IA, I1, LA, L1, BA, B1, EA, E1, E2, eB, eI, eL])) ?_
         refine w_seq ?_
         replace h := bind_some h
         obtain ⟨e95, h, h95⟩ := h
         refine w_joinT (fun b95 : Bool => ⟨[(0, .rptr (Fn.cells true f_)), (4, .rptr [.val (.int .i64 f_.t.n), .lst true 1 (Is f_.t.fr), .lst true 1 (Is f_.t.to), .lst true 1 (Is f_.t.id), .lst true 1 (Ls f_.t.cs), .lst true 1 (Is f_.ob), .lst true 1 (Is f_.ar)]), (9, .val (.int .i64 s78)), (151, .lst true 1 (Ls f_.s.cs)), (152, .val (.int .i64 (f_.s.cs.length : Int))), (153, .val (.int .i64 s78)), (158, .lst true 1 (Is (rx f_.s.cs s78))), (159, .val (.int .i64 ((rx f_.s.cs s78).length : Int))), (160, .val (.int .i64 s92)), (192, .val (.bool b95))], [], 0⟩) (fun b95 => b95 = e95) ?_ ?_
         · refine w_run mo (by rw [hN]; decide) fun K hK => ?_
           simp [-guardE_b, -Is_at, -Is_at', -Ls_at, -Ls_at', eL, eI, allInts, eP_Cat, eP_Fn, Cat.cells, Fn.cells]
           repeat (with_reducible refine And.intro ?_ ?_; · first | assumption | omega | (simp; done) | (simp; omega) | simp_all)
           refine guard_intro (fun g => ?_) (fun g => ?_)
           · have g96 : (ix (rx f_.s.cs s78) s92) ≥ 0 := by first | simpa using g | (simp at g; exact g) | (simp at g; omega)
             clear g
             replace h := if_l g96 h
             replace h := ass_some h
             obtain ⟨a97, h⟩ := h
             replace h := ass_some h
             obtain ⟨a98, h⟩ := h
             replace h := ass_some h
             obtain ⟨a99, h⟩ := h
             simp [-guardE_b, -Is_at, -Is_at', -Ls_at, -Ls_at', eL, eI, allInts, eP_Cat, eP_Fn, Cat.cells, Fn.cells, at_I a97, at_I a98, at_I a99]
             repeat (with_reducible refine And.intro ?_ ?_; · first | assumption | omega | (simp; done) | (simp; omega) | simp_all)
             replace h := bind_some h
             obtain ⟨v100, hv100, h⟩ := h
             refine callA_intro (w_i_Category_then _ _ _ v100 hv100) (.cons (.preT (by simp [Cat.cells, Fn.cells])) (.cons .val (.cons .val .nil))) ?_
             simp [-guardE_b, -Is_at, -Is_at', -Ls_at, -Ls_at', unk, unA, unE, unT, unC, flat, eL, eI, allInts, eP_Cat, eP_Fn, Cat.cells, Fn.cells]
             repeat (with_reducible refine And.intro ?_ ?_; · first | assumption | omega | (simp; done) | (simp; omega) | simp_all)
             refine hK _ ?_
             exact jn (b := (ix f_.ar (ix (rx f_.s.cs s78) s92)) != v100) (Option.some.inj h) (Wk.r1 [] (by simp [hP, hhOk, back, Cat.cells, Fn.cells, IA, I1, LA, L1, BA, B1, EA, E1, E2, eB, eI, eL]))
           have g96 : ¬ ((ix (rx f_.s.cs s78) s92) ≥ 0) := by first | simpa using g | (simp at g; exact g) | (simp at g; omega)
           clear g
           replace h := if_r g96 h
           simp [-guardE_b, -Is_at, -Is_at', -Ls_at, -Ls_at', eL, eI, allInts, eP_Cat, eP_Fn, Cat.cells, Fn.cells]
           repeat (with_reducible refine And.intro ?_ ?_; · first | assumption | omega | (simp; done) | (simp; omega) | simp_all)
           refine hK _ ?_
           exact jn (b := false) (Option.some.inj h) (Wk.r1 [] (by simp [hP, hhOk, back, Cat.cells, Fn.cells, IA, I1, LA, L1, BA, B1, EA, E1, E2, eB, eI, eL]))
         intro b95 hb95
         have h := h95
         rw [← hb95] at h
         clear h95
         try dsimp only at h
         refine w_cond rfl (fun g => ?_) fun g => ?_
         · have g101 : b95 = true := by first | simpa using g | (simp at g; exact g) | (simp at g; omega)
           clear g
           replace h := if_l g101 h
           refine w_seq ?_
           refine w_run mo (by rw [hN]; decide) fun K hK => ?_
           simp [-guardE_b, -Is_at, -Is_at', -Ls_at, -Ls_at', eL, eI, allInts, eP_Cat, eP_Fn, Cat.cells, Fn.cells]
           repeat (with_reducible refine And.intro ?_ ?_; · first | assumption | omega | (simp; done) | (simp; omega) | simp_all)
           refine hK _ ?_
           clear hK K
           refine tn ?_
           refine w_weak (st' := ⟨[(2, .val (.bool false))], [], 0⟩) (Wk.r1 [] (by simp [hP, hhOk, back, Cat.cells, Fn.cells, IA, I1, LA, L1, BA, B1, EA, E1, E2, eB, eI, eL])) ?_
           refine w_ret ?_
           refine br ?_
           refine tr ?_
           refine lr ?_
           refine br ?_
           refine br ?_
           refine tr ?_
           refine lr ?_
           refine br ?_
           refine tr ?_
           cases h
           have q : _ = e92 := hk92
           have h := h92
           rw [← q] at h
           clear q
           try dsimp only at h
           cases h
           have h := h80
           try dsimp only at h
           cases h
           have q : _ = e52 := hk78
           have h := h52
           rw [← q] at h
           clear q
           try dsimp only at h
           have hr := Option.some.inj h
           rw [← hr]
           refine ⟨_, (.tmp .nil), ?_⟩
           refine ⟨(.one rfl rfl .nil), [.val (.bool false)], [], by simp [Cat.cells, Fn.cells, IA, I1, LA, L1, BA, B1, EA, E1, E2, eB, eI, eL], by simp, (UpL.refl _)⟩
         have g101 : ¬ (b95 = true) := by first | simpa using g | (simp at g; exact g) | (simp at g; omega)
         clear g
         replace h := if_r g101 h
         refine w_skip ?_
         refine bn ?_
         refine tn ?_
         refine w_run mo (by rw [hN]; decide) fun K hK => ?_
         replace h := ass_some h
         obtain ⟨a102, h⟩ := h
         simp [-guardE_b, -Is_at, -Is_at', -Ls_at, -Ls_at', eL, eI, allInts, eP_Cat, eP_Fn, Cat.cells, Fn.cells, wrap_id a102]
         repeat (with_reducible refine And.intro ?_ ?_; · first | assumption | omega | (simp; done) | (simp; omega) | simp_all)
         refine hK _ ?_
         clear hK K
         cases h
         exact rn (s' := s92 + 1) hk92 (Wk.r1 [] (by simp [hP, hhOk, back, Cat.cells, Fn.cells, IA, I1, LA, L1, BA, B1, EA, E1, E2, eB, eI, eL]))
       have g93 : ¬ (s92 < ((rx f_.s.cs s78).length : Int)) := by first | simpa using g | (simp at g; exact g) | (simp at g; omega)
       clear g
       replace h := if_r g93 h
       refine w_exit ?_
       refine tx ?_
       refine lx ?_
       refine bh ?_
       refine bn ?_
       cases h
       have q : _ = e92 := hk92
       have h := h92
       rw [← q] at h
       clear q
       try dsimp only at h
       exact jn (b := ()) (Option.some.inj h) (Wk.r1 [] (by simp [hP, hhOk, back, Cat.cells, Fn.cells, IA, I1, LA, L1, BA, B1, EA, E1, E2, eB, eI, eL]))
     intro b80 hb80
     have h := h80
     rw [← hb80] at h
     clear h80
     try dsimp only at h
     refine w_run mo (by rw [hN]; decide) fun K hK => ?_
     replace h := ass_some h
     obtain ⟨a103, h⟩ := h
     simp [-guardE_b, -Is_at, -Is_at', -Ls_at, -Ls_at', eL, eI, allInts, eP_Cat, eP_Fn, Cat.cells, Fn.cells, wrap_id a103]
     repeat (with_reducible refine And.intro ?_ ?_; · first | assumption | omega | (simp; done) | (simp; omega) | simp_all)
     refine hK _ ?_
     clear hK K
     cases h
     exact rn (s' := s78 + 1) hk78 (Wk.r1 [] (by simp [hP, hhOk, back, Cat.cells, Fn.cells, IA, I1, LA, L1, BA, B1, EA, E1, E2, eB, eI, eL]))
   have g79 : ¬ (s78 < (f_.s.cs.length : Int)) := by first | simpa using g | (simp at g; exact g) | (simp at g; omega)
   clear g
   replace h := if_r g79 h
   refine w_exit ?_
   refine tx ?_
   refine lx ?_
   refine bh ?_
   cases h
   exact jn (b := ()) hk78 (Wk.r1 [] (by simp [hP, hhOk, back, Cat.cells, Fn.cells, IA, I1, LA, L1, BA, B1, EA, E1, E2, eB, eI, eL]))
 intro b52 hb52
 have h := h52
 rw [← hb52] at h
 clear h52
 try dsimp only at h
 refine w_seq ?_
 refine w_run mo (by rw [hN]; decide) fun K hK => ?_
 simp [-guardE_b, -Is_at, -Is_at', -Ls_at, -Ls_at', eL, eI, allInts, eP_Cat, eP_Fn, Cat.cells, Fn.cells]
 repeat (with_reducible refine And.intro ?_ ?_; · first | assumption | omega | (simp; done) | (simp; omega) | simp_all)
 refine hK _ ?_
 clear hK K
 refine tn ?_
 refine w_weak (st' := ⟨[(2, .val (.bool true))], [], 0⟩) (Wk.r1 [] (by simp [hP, hhOk, back, Cat.cells, Fn.cells, IA, I1, LA, L1, BA, B1, EA, E1, E2, eB, eI, eL])) ?_
 refine w_ret ?_
 have hr := Option.some.inj h
 rw [← hr]
 refine ⟨_, (.tmp .nil), ?_⟩
 refine ⟨(.one rfl rfl .nil), [.val (.bool true)], [], by simp [Cat.cells, Fn.cells, IA, I1, LA, L1, BA, B1, EA, E1, E2, eB, eI, eL], by simp, (UpL.refl _)⟩
end Go.Vc.T

set_option maxRecDepth 100000
set_option linter.unusedSimpArgs false
set_option linter.unusedVariables false
namespace Go.Vc.T
open Go Go.Vc Go.Proofs
noncomputable def s_s_l06Then (f_ : Fn) (g_ : Fn) : Option Fn :=
 (s_s_l01Then f_.ob g_.ob).bind fun v1 =>
 (s_s_l01Then f_.ar g_.ar).bind fun v2 =>
 (s_s_l06Make f_.s g_.t v1 v2).bind fun v3 =>
 some v3
set_option maxHeartbeats 4000000 in
theorem w_s_l06Then (f_ : Fn) (g_ : Fn) (r : Fn) (h : s_s_l06Then f_ g_ = some r) : Contract Try.prog 121 [.agg (f_.cells true), .agg (g_.cells true)] (.agg (r.cells true)) := by
 refine contract_introG (rvs := [.cell 4 35]) (rs := [.agg (r.cells true)]) Try.func121 rfl rfl rfl rfl (by simp [Try.f121]) fun F hN hP => ?_
 unfold s_s_l06Then at h
 refine w_seq ?_
 refine w_run mo (by rw [hN]; decide) fun K hK => ?_
 simp [-guardE_b, -Is_at, -Is_at', -Ls_at, -Ls_at', eL, eI, allInts, eP_Cat, eP_Fn, Cat.cells, Fn.cells]
 repeat (with_reducible refine And.intro ?_ ?_; · first | assumption | omega | (simp; done) | (simp; omega) | simp_all)
 refine hK _ ?_
 clear hK K
 refine tn ?_
 refine w_weak (st' := ⟨[(2, .adr 0 0 0), (3, .adr 1 0 0), (4, .adr 2 0 0)], [(0, .mix 12 [(Fn.cells true f_)]), (1, .mix 12 [(Fn.cells true g_)]), (2, .mix 12 [[.val (.int .i64 0), .val (.slice none 0 0), .val (.slice none 0 0), .val (.slice none 0 0), .val (.slice none 0 0), .val (.int .i64 0), .val (.slice none 0 0), .val (.slice none 0 0), .val (.slice none 0 0), .val (.slice none 0 0), .val (.slice none 0 0), .val (.slice none 0 0)]])], 3⟩) (Wk.r1 [(0, 0), (1, 1), (2, 2)] (by simp [hP, hhOk, back, Cat.cells, Fn.cells, IA, I1, LA, L1, BA, B1, EA, E1, E2, eB, eI, eL])) ?_
 refine w_seq ?_
 refine w_run mo (by rw [hN]; decide) fun K hK => ?_
 simp [-guardE_b, -Is_at, -Is_at', -Ls_at, -Ls_at', eL, eI, allInts, eP_Cat, eP_Fn, Cat.cells, Fn.cells]
 repeat (with_reducible refine And.intro ?_ ?_; · first | assumption | omega | (simp; done) | (simp; omega) | simp_all)
 replace h := bind_some h
 obtain ⟨v1, hv1, h⟩ := h
 refine callA_intro (w_s_l01Then _ _ v1 hv1) (.cons .lst (.cons .lst .nil)) ?_
 simp [-guardE_b, -Is_at, -Is_at', -Ls_at, -Ls_at', unk, unA, unE, unT, unC, flat, eL, eI, allInts, eP_Cat, eP_Fn, Cat.cells, Fn.cells]
 repeat (with_reducible refine And.intro ?_ ?_; · first | assumption | omega | (simp; done) | (simp; omega) | simp_all)
 replace h := bind_some h
 obtain ⟨v2, hv2, h⟩ := h
 refine callA_intro (w_s_l01Then _ _ v2 hv2) (.cons .lst (.cons .lst .nil)) ?_
 simp [-guardE_b, -Is_at, -Is_at', -Ls_at, -Ls_at', unk, unA, unE, unT, unC, flat, eL, eI, allInts, eP_Cat, eP_Fn, Cat.cells, Fn.cells]
 repeat (with_reducible refine And.intro ?_ ?_; · first | assumption | omega | (simp; done) | (simp; omega) | simp_all)
 replace h := bind_some h
 obtain ⟨v3, hv3, h⟩ := h
 refine callA_intro (w_s_l06Make _ _ _ _ v3 hv3) (.cons (.aggL (.cons .val (.cons .lst (.cons .lst (.cons .lst (.cons .lst .nil)))))) (.cons (.aggL (.cons .val (.cons .lst (.cons .lst (.cons .lst (.cons .lst .nil)))))) (.cons (.whole (by simp) (by simp) (by simp)) (.cons (.whole (by simp) (by simp) (by simp)) .nil)))) ?_
 simp [-guardE_b, -Is_at, -Is_at', -Ls_at, -Ls_at', unk, unA, unE, unT, unC, flat, eL, eI, allInts, eP_Cat, eP_Fn, Cat.cells, Fn.cells]
 repeat (with_reducible refine And.intro ?_ ?_; · first | assumption | omega | (simp; done) | (simp; omega) | simp_all)
 refine hK _ ?_
 clear hK K
 refine tn ?_
 refine w_weak (st' := ⟨[(4, .adr 0 0 0)], [(0, .mix 12 [[.val (.int .i64 v3.s.n), .own 1 0 v3.s.fr.length, .own 2 0 v3.s.to.length, .own 3 0 v3.s.id.length, .own 4 0 v3.s.cs.length, .val (.int .i64 v3.t.n), .own 5 0 v3.t.fr.length, .own 6 0 v3.t.to.length, .own 7 0 v3.t.id.length, .own 8 0 v3.t.cs.length, .own 9 0 v3.ob.length, .own 10 0 v3.ar.length]]), (1, .row 1 (Is v3.s.fr)), (2, .row 1 (Is v3.s.to)), (3, .row 1 (Is v3.s.id)), (4, .row 1 (Ls v3.s.cs)), (5, .row 1 (Is v3.t.fr)), (6, .row 1 (Is v3.t.to)), (7, .row 1 (Is v3.t.id)), (8, .row 1 (Ls v3.t.cs)), (9, .row 1 (Is v3.ob)), (10, .row 1 (Is v3.ar))], 11⟩) (Wk.r1 [(2, 0), (6, 1), (7, 2), (8, 3), (9, 4), (11, 5), (12, 6), (13, 7), (14, 8), (15, 9), (16, 10)] (by simp [hP, hhOk, back, Cat.cells, Fn.cells, IA, I1, LA, L1, BA, B1, EA, E1, E2, eB, eI, eL])) ?_
 refine w_ret ?_
 have hr := Option.some.inj h
 rw [← hr]
 refine ⟨_, (.cell tf_35 rfl rfl rfl (by simp) (by simp) .nil), ?_⟩
 refine ⟨(.agg rfl .nil), [.val (.int .i64 v3.s.n), .lst true 1 (Is v3.s.fr), .lst true 1 (Is v3.s.to), .lst true 1 (Is v3.s.id), .lst true 1 (Ls v3.s.cs), .val (.int .i64 v3.t.n), .lst true 1 (Is v3.t.fr), .lst true 1 (Is v3.t.to), .lst true 1 (Is v3.t.id), .lst true 1 (Ls v3.t.cs), .lst true 1 (Is v3.ob), .lst true 1 (Is v3.ar)], [1, 2, 3, 4, 5, 6, 7, 8, 9, 10], by simp [Cat.cells, Fn.cells, IA, I1, LA, L1, BA, B1, EA, E1, E2, eB, eI, eL], by simp, (UpL.refl _)⟩
noncomputable def s_i_Functor_then (f_ : Fn) (g_ : Fn) : Option Fn :=
 (s_i_then f_.ob g_.ob).bind fun v1 =>
 (s_i_then f_.ar g_.ar).bind fun v2 =>
 (s_i_functor f_.s g_.t v1 v2).bind fun v3 =>
 some v3
set_option maxHeartbeats 4000000 in
theorem w_i_Functor_then (f_ : Fn) (g_ : Fn) (r : Fn) (h : s_i_Functor_then f_ g_ = some r) : Contract Try.prog 123 [.rptr (f_.cells true), .rptr (g_.cells true)] (.agg (r.cells true)) := by
 refine contract_introG (rvs := [.cell 4 35]) (rs := [.agg (r.cells true)]) Try.func123 rfl rfl rfl rfl (by simp [Try.f123]) fun F hN hP => ?_
 unfold s_i_Functor_then at h
 refine w_seq ?_
 refine w_run mo (by rw [hN]; decide) fun K hK => ?_
 simp [-guardE_b, -Is_at, -Is_at', -Ls_at, -Ls_at', eL, eI, allInts, eP_Cat, eP_Fn, Cat.cells, Fn.cells]
 repeat (with_reducible refine And.intro ?_ ?_; · first | assumption | omega | (simp; done) | (simp; omega) | simp_all)
 refine hK _ ?_
 clear hK K
 refine tn ?_
 refine w_weak (st' := ⟨[(0, .rptr (Fn.cells true f_)), (1, .rptr (Fn.cells true g_)), (4, .adr 0 0 0)], [(0, .mix 12 [[.val (.int .i64 0), .val (.slice none 0 0), .val (.slice none 0 0), .val (.slice none 0 0), .val (.slice none 0 0), .val (.int .i64 0), .val (.slice none 0 0), .val (.slice none 0 0), .val (.slice none 0 0), .val (.slice none 0 0), .val (.slice none 0 0), .val (.slice none 0 0)]])], 1⟩) (Wk.r1 [(0, 0)] (by simp [hP, hhOk, back, Cat.cells, Fn.cells, IA, I1, LA, L1, BA, B1, EA, E1, E2, eB, eI, eL])) ?_
 refine w_seq ?_
 refine w_run mo (by rw [hN]; decide) fun K hK => ?_
 simp [-guardE_b, -Is_at, -Is_at', -Ls_at, -Ls_at', eL, eI, allInts, eP_Cat, eP_Fn, Cat.cells, Fn.cells]
 repeat (with_reducible refine And.intro ?_ ?_; · first | assumption | omega | (simp; done) | (simp; omega) | simp_all)
 replace h := bind_some h
 obtain ⟨v1, hv1, h⟩ := h
 refine callA_intro (w_i_then _ _ v1 hv1) (.cons .lst (.cons .lst .nil)) ?_
 simp [-guardE_b, -Is_at, -Is_at', -Ls_at, -Ls_at', unk, unA, unE, unT, unC, flat, eL, eI, allInts, eP_Cat, eP_Fn, Cat.cells, Fn.cells]
 repeat (with_reducible refine And.intro ?_ ?_; · first | assumption | omega | (simp; done) | (simp; omega) | simp_all)
 replace h := bind_some h
 obtain ⟨v2, hv2, h⟩ := h
 refine callA_intro (w_i_then _ _ v2 hv2) (.cons .lst (.cons .lst .nil)) ?_
 simp [-guardE_b, -Is_at, -Is_at', -Ls_at, -Ls_at', unk, unA, unE, unT, unC, flat, eL, eI, allInts, eP_Cat, eP_Fn, Cat.cells, Fn.cells]
 repeat (with_reducible refine And.intro ?_ ?_; · first | assumption | omega | (simp; done) | (simp; omega) | simp_all)
 replace h := bind_some h
 obtain ⟨v3, hv3, h⟩ := h
 refine callA_intro (w_i_functor _ _ _ _ v3 hv3) (.cons (.preT (by simp [Cat.cells, Fn.cells])) (.cons (.preT (by simp [Cat.cells, Fn.cells])) (.cons (.whole (by simp) (by simp) (by simp)) (.cons (.whole (by simp) (by simp) (by simp)) .nil)))) ?_
 simp [-guardE_b, -Is_at, -Is_at', -Ls_at, -Ls_at', unk, unA, unE, unT, unC, flat, eL, eI, allInts, eP_Cat, eP_Fn, Cat.cells, Fn.cells]
 repeat (with_reducible refine And.intro ?_ ?_; · first | assumption | omega | (simp; done) | (simp; omega) | simp_all)
 refine hK _ ?_
 clear hK K
 refine tn ?_
 refine w_weak (st' := ⟨[(4, .adr 0 0 0)], [(0, .mix 12 [[.val (.int .i64 v3.s.n), .own 1 0 v3.s.fr.length, .own 2 0 v3.s.to.length, .own 3 0 v3.s.id.length, .own 4 0 v3.s.cs.length, .val (.int .i64 v3.t.n), .own 5 0 v3.t.fr.length, .own 6 0 v3.t.to.length, .own 7 0 v3.t.id.length, .own 8 0 v3.t.cs.length, .own 9 0 v3.ob.length, .own 10 0 v3.ar.length]]), (1, .row 1 (Is v3.s.fr)), (2, .row 1 (Is v3.s.to)), (3, .row 1 (Is v3.s.id)), (4, .row 1 (Ls v3.s.cs)), (5, .row 1 (Is v3.t.fr)), (6, .row 1 (Is v3.t.to)), (7, .row 1 (Is v3.t.id)), (8, .row 1 (Ls v3.t.cs)), (9, .row 1 (Is v3.ob)), (10, .row 1 (Is v3.ar))], 11⟩) (Wk.r1 [(0, 0), (4, 1), (5, 2), (6, 3), (7, 4), (9, 5), (10, 6), (11, 7), (12, 8), (13, 9), (14, 10)] (by simp [hP, hhOk, back, Cat.cells, Fn.cells, IA, I1, LA, L1, BA, B1, EA, E1, E2, eB, eI, eL])) ?_
 refine w_ret ?_
 have hr := Option.some.inj h
 rw [← hr]
 refine ⟨_, (.cell tf_35 rfl rfl rfl (by simp) (by simp) .nil), ?_⟩
 refine ⟨(.agg rfl .nil), [.val (.int .i64 v3.s.n), .lst true 1 (Is v3.s.fr), .lst true 1 (Is v3.s.to), .lst true 1 (Is v3.s.id), .lst true 1 (Ls v3.s.cs), .val (.int .i64 v3.t.n), .lst true 1 (Is v3.t.fr), .lst true 1 (Is v3.t.to), .lst true 1 (Is v3.t.id), .lst true 1 (Ls v3.t.cs), .lst true 1 (Is v3.ob), .lst true 1 (Is v3.ar)], [1, 2, 3, 4, 5, 6, 7, 8, 9, 10], by simp [Cat.cells, Fn.cells, IA, I1, LA, L1, BA, B1, EA, E1, E2, eB, eI, eL], by simp, (UpL.refl _)⟩
noncomputable def s_i_Functor_isFunctor (f_ : Fn) : Option Bool :=
 (
   (s_i_areCategories [f_.s, f_.t]).bind fun v2 =>
   if v2 = true then
     (s_i_Functor_fits f_).bind fun v4 =>
     some v4
   else
     some false : Option (Bool)).bind fun b1 =>
 some b1
set_option maxHeartbeats 4000000 in
theorem w_i_Functor_isFunctor (f_ : Fn) (r : Bool) (h : s_i_Functor_isFunctor f_ = some r) : Contract Try.prog 157 [.rptr (f_.cells true)] (.val (.bool r)) := by
 refine contract_introG (rvs := [.tmp 2]) (rs := [.val (.bool r)]) Try.func157 rfl rfl rfl rfl (by simp [Try.f157]) fun F hN hP => ?_
 unfold s_i_Functor_isFunctor at h
 refine w_seq ?_
 refine w_run mo (by rw [hN]; decide) fun K hK => ?_
 simp [-guardE_b, -Is_at, -Is_at', -Ls_at, -Ls_at', eL, eI, allInts, eP_Cat, eP_Fn, Cat.cells, Fn.cells]
 repeat (with_reducible refine And.intro ?_ ?_; · first | assumption | omega | (simp; done) | (simp; omega) | simp_all)
 refine hK _ ?_
 clear hK K
 refine tn ?_
 refine w_weak (st' := ⟨[(0, .rptr (Fn.cells true f_))], [], 0⟩) (Wk.r1 [] (by simp [hP, hhOk, back, Cat.cells, Fn.cells, IA, I1, LA, L1, BA, B1, EA, E1, E2, eB, eI, eL])) ?_
 refine w_seq ?_
 replace h := bind_some h
 obtain ⟨e1, h, h1⟩ := h
 refine w_joinT (fun b1 : Bool => ⟨[(2, .val (.bool b1))], [], 0⟩) (fun b1 => b1 = e1) ?_ ?_
 · refine w_run mo (by rw [hN]; decide) fun K hK => ?_
   simp [-guardE_b, -Is_at, -Is_at', -Ls_at, -Ls_at', eL, eI, allInts, eP_Cat, eP_Fn, Cat.cells, Fn.cells]
   repeat (with_reducible refine And.intro ?_ ?_; · first | assumption | omega | (simp; done) | (simp; omega) | simp_all)
   replace h := bind_some h
   obtain ⟨v2, hv2, h⟩ := h
   refine callA_intro (w_i_areCategories _ v2 hv2) (.cons (.lits (es := _) rfl (.cons rfl (.cons (.preT (by simp [Cat.cells, Fn.cells])) .nil) (.cons rfl (.cons (.preT (by simp [Cat.cells, Fn.cells])) .nil) .nil)) rfl) .nil) ?_
   simp [-guardE_b, -Is_at, -Is_at', -Ls_at, -Ls_at', unk, unA, unE, unT, unC, flat, eL, eI, allInts, eP_Cat, eP_Fn, Cat.cells, Fn.cells]
   repeat (with_reducible refine And.intro ?_ ?_; · first | assumption | omega | (simp; done) | (simp; omega) | simp_all)
   refine guard_intro (fun g => ?_) (fun g => ?_)
   · have g3 : v2 = true := by first | simpa using g | (simp at g; exact g) | (simp at g; omega)
     clear g
     replace h := if_l g3 h
     simp [-guardE_b, -Is_at, -Is_at', -Ls_at, -Ls_at', eL, eI, allInts, eP_Cat, eP_Fn, Cat.cells, Fn.cells]
     repeat (with_reducible refine And.intro ?_ ?_; · first | assumption | omega | (simp; done) | (simp; omega) | simp_all)
     replace h := bind_some h
     obtain ⟨v4, hv4, h⟩ := h
     refine callA_intro (w_i_Functor_fits _ v4 hv4) (.cons (.preT (by simp [Cat.cells, Fn.cells])) .nil) ?_
     simp [-guardE_b, -Is_at, -Is_at', -Ls_at, -Ls_at', unk, unA, unE, unT, unC, flat, eL, eI, allInts, eP_Cat, eP_Fn, Cat.cells, Fn.cells]
     repeat (with_reducible refine And.intro ?_ ?_; · first | assumption | omega | (simp; done) | (simp; omega) | simp_all)
     refine hK _ ?_
     exact jn (b := v4) (Option.some.inj h) (Wk.r1 [] (by simp [hP, hhOk, back, Cat.cells, Fn.cells, IA, I1, LA, L1, BA, B1, EA, E1, E2, eB, eI, eL]))
   have g3 : ¬ (v2 = true) := by first | simpa using g | (simp at g; exact g) | (simp at g; omega)
   clear g
   replace h := if_r g3 h
   simp [-guardE_b, -Is_at, -Is_at', -Ls_at, -Ls_at', eL, eI, allInts, eP_Cat, eP_Fn, Cat.cells, Fn.cells]
   repeat (with_reducible refine And.intro ?_ ?_; · first | assumption | omega | (simp; done) | (simp; omega) | simp_all)
   refine hK _ ?_
   exact jn (b := false) (Option.some.inj h) (Wk.r1 [] (by simp [hP, hhOk, back, Cat.cells, Fn.cells, IA, I1, LA, L1, BA, B1, EA, E1, E2, eB, eI, eL]))
 intro b1 hb1
 have h := h1
 rw [← hb1] at h
 clear h1
 try dsimp only at h
 refine w_ret ?_
 have hr := Option.some.inj h
 rw [← hr]
 refine ⟨_, (.tmp .nil), ?_⟩
 refine ⟨(.one rfl rfl .nil), [.val (.bool b1)], [], by simp [Cat.cells, Fn.cells, IA, I1, LA, L1, BA, B1, EA, E1, E2, eB, eI, eL], by simp, (UpL.refl _)⟩
end Go.Vc.T

set_option maxRecDepth 100000
set_option linter.unusedSimpArgs false
set_option linter.unusedVariables false
namespace Go.Vc.T
open Go Go.Vc Go.Proofs
noncomputable def s_i_numbers (n_ : Int) : Option (List Int) :=
 ass (0 ≤ n_ ∧ n_ ≤ 1073741824) <|
 (loopF (σ := List Int × Int) (ε := List Int) (fun s6 =>
   if s6.2 < ((List.replicate n_.toNat 0).length : Int) then
     ass (0 ≤ s6.2 ∧ s6.2 < (s6.1.length : Int)) <|
     ass (B64 (s6.2 + 1)) <|
     some (Ctl.next (s6.1.set s6.2.toNat s6.2, s6.2 + 1))
   else
     some (Ctl.ret s6.1)) fuel (List.replicate n_.toNat 0, 0)).bind fun b2 =>
 some b2
set_option maxHeartbeats 4000000 in
theorem w_i_numbers (n_ : Int) (r : List Int) (h : s_i_numbers n_ = some r) : Contract Try.prog 213 [.val (.int .i64 n_)] (.lst true 1 (Is r)) := by
 refine contract_introG (rvs := [.tmp 2]) (rs := [.lst true 1 (Is r)]) Try.func213 rfl rfl rfl rfl (by simp [Try.f213]) fun F hN hP => ?_
 unfold s_i_numbers at h
 refine w_seq ?_
 refine w_run mo (by rw [hN]; decide) fun K hK => ?_
 simp [-guardE_b, -Is_at, -Is_at', -Ls_at, -Ls_at', eL, eI, allInts]
 repeat (with_reducible refine And.intro ?_ ?_; · first | assumption | omega | (simp; done) | (simp; omega) | simp_all)
 refine hK _ ?_
 clear hK K
 refine tn ?_
 refine w_weak (st' := ⟨[(0, .val (.int .i64 n_))], [], 0⟩) (Wk.r1 [] (by simp [hP, hhOk, back, IA, I1, LA, L1, BA, B1, EA, E1, E2, eB, eI, eL])) ?_
 refine w_seq ?_
 refine w_run mo (by rw [hN]; decide) fun K hK => ?_
 replace h := ass_some h
 obtain ⟨a1, h⟩ := h
 simp [-guardE_b, -Is_at, -Is_at', -Ls_at, -Ls_at', eL, eI, allInts]
 repeat (with_reducible refine And.intro ?_ ?_; · first | assumption | omega | (simp; done) | (simp; omega) | simp_all)
 refine hK _ ?_
 clear hK K
 refine tn ?_
 refine w_weak (st' := ⟨[(3, .own 0 0 ((List.replicate n_.toNat 0).length))], [(0, .row 1 (Is (List.replicate n_.toNat 0)))], 1⟩) (Wk.r1 [(0, 0)] (by simp [hP, hhOk, back, IA, I1, LA, L1, BA, B1, EA, E1, E2, eB, eI, eL])) ?_
 refine w_seq ?_
 refine w_seq ?_
 refine w_run mo (by rw [hN]; decide) fun K hK => ?_
 simp [-guardE_b, -Is_at, -Is_at', -Ls_at, -Ls_at', eL, eI, allInts]
 repeat (with_reducible refine And.intro ?_ ?_; · first | assumption | omega | (simp; done) | (simp; omega) | simp_all)
 refine hK _ ?_
 clear hK K
 refine tn ?_
 refine w_weak (st' := ⟨[(3, .own 0 0 ((List.replicate n_.toNat 0).length)), (8, .val (.int .i64 ((List.replicate n_.toNat 0).length : Int))), (9, .val (.int .i64 0))], [(0, .row 1 (Is (List.replicate n_.toNat 0)))], 1⟩) (Wk.r1 [(0, 0)] (by simp [hP, hhOk, back, IA, I1, LA, L1, BA, B1, EA, E1, E2, eB, eI, eL])) ?_
 replace h := bind_some h
 obtain ⟨e2, h, h2⟩ := h
 refine w_joinT (fun b2 : List Int => ⟨[(3, .own 0 0 b2.length)], [(0, .row 1 (Is b2))], 1⟩) (fun b2 => b2 = e2) ?_ ?_
 · refine w_block ?_
   refine w_loopF h (fun s6 : List Int × Int => ⟨[(3, .own 0 0 s6.1.length), (8, .val (.int .i64 ((List.replicate n_.toNat 0).length : Int))), (9, .val (.int .i64 s6.2))], [(0, .row 1 (Is s6.1))], 1⟩) (Wk.r1 [(0, 0)] (by simp [hP, hhOk, back, IA, I1, LA, L1, BA, B1, EA, E1, E2, eB, eI, eL])) ?_
   clear h
   intro k6 s6 c6 h hk6
   refine w_seq ?_
   refine w_run mo (by rw [hN]; decide) fun K hK => ?_
   simp [-guardE_b, -Is_at, -Is_at', -Ls_at, -Ls_at', eL, eI, allInts]
   repeat (with_reducible refine And.intro ?_ ?_; · first | assumption | omega | (simp; done) | (simp; omega) | simp_all)
   refine hK _ ?_
   clear hK K
   refine tn ?_
   refine w_weak (st' := ⟨[(3, .own 0 0 s6.1.length), (8, .val (.int .i64 ((List.replicate n_.toNat 0).length : Int))), (9, .val (.int .i64 s6.2)), (10, .val (.bool (decide (s6.2 < ((List.replicate n_.toNat 0).length : Int)))))], [(0, .row 1 (Is s6.1))], 1⟩) (Wk.r1 [(0, 0)] (by simp [hP, hhOk, back, IA, I1, LA, L1, BA, B1, EA, E1, E2, eB, eI, eL])) ?_
   refine w_seq ?_
   refine w_cond rfl (fun g => ?_) fun g => ?_
   · have g7 : s6.2 < ((List.replicate n_.toNat 0).length : Int) := by first | simpa using g | (simp at g; exact g) | (simp at g; omega)
     clear g
     replace h := if_l g7 h
     refine w_skip ?_
     refine tn ?_
     refine w_seq ?_
     refine w_block ?_
     refine w_seq ?_
     refine w_run mo (by rw [hN]; decide) fun K hK => ?_
     simp [-guardE_b, -Is_at, -Is_at', -Ls_at, -Ls_at', eL, eI, allInts]
     repeat (with_reducible refine And.intro ?_ ?_; · first | assumption | omega | (simp; done) | (simp; omega) | simp_all)
     refine hK _ ?_
     clear hK K
     refine tn ?_
     refine w_weak (st' := ⟨[(3, .own 0 0 s6.1.length), (4, .val (.int .i64 s6.2)), (8, .val (.int .i64 ((List.replicate n_.toNat 0).length : Int))), (9, .val (.int .i64 s6.2))], [(0, .row 1 (Is s6.1))], 1⟩) (Wk.r1 [(0, 0)] (by simp [hP, hhOk, back, IA, I1, LA, L1, BA, B1, EA, E1, E2, eB, eI, eL])) ?_
     refine w_run mo (by rw [hN]; decide) fun K hK => ?_
     replace h := ass_some h
     obtain ⟨a8, h⟩ := h
     simp [-guardE_b, -Is_at, -Is_at', -Ls_at, -Ls_at', eL, eI, allInts, at_I a8]
     repeat (with_reducible refine And.intro ?_ ?_; · first | assumption | omega | (simp; done) | (simp; omega) | simp_all)
     refine hK _ ?_
     clear hK K
     refine bn ?_
     refine tn ?_
     refine w_weak (st' := ⟨[(3, .own 0 0 ((s6.1.set s6.2.toNat s6.2).length)), (8, .val (.int .i64 ((List.replicate n_.toNat 0).length : Int))), (9, .val (.int .i64 s6.2))], [(0, .row 1 (Is (s6.1.set s6.2.toNat s6.2)))], 1⟩) (Wk.r1 [(0, 0)] (by simp [hP, hhOk, back, IA, I1, LA, L1, BA, B1, EA, E1, E2, eB, eI, eL])) ?_
     refine w_run mo (by rw [hN]; decide) fun K hK => ?_
     replace h := ass_some h
     obtain ⟨a9, h⟩ := h
     simp [-guardE_b, -Is_at, -Is_at', -Ls_at, -Ls_at', eL, eI, allInts, wrap_id a9]
     repeat (with_reducible refine And.intro ?_ ?_; · first | assumption | omega | (simp; done) | (simp; omega) | simp_all)
     refine hK _ ?_
     clear hK K
     cases h
     exact rn (s' := (s6.1.set s6.2.toNat s6.2, s6.2 + 1)) hk6 (Wk.r1 [(0, 0)] (by simp [hP, hhOk, back, IA, I1, LA, L1, BA, B1, EA, E1, E2, eB, eI, eL]))
   have g7 : ¬ (s6.2 < ((List.replicate n_.toNat 0).length : Int)) := by first | simpa using g | (simp at g; exact g) | (simp at g; omega)
   clear g
   replace h := if_r g7 h
   refine w_exit ?_
   refine tx ?_
   refine lx ?_
   refine bh ?_
   cases h
   exact jn (b := s6.1) hk6 (Wk.r1 [(0, 0)] (by simp [hP, hhOk, back, IA, I1, LA, L1, BA, B1, EA, E1, E2, eB, eI, eL]))
 intro b2 hb2
 have h := h2
 rw [← hb2] at h
 clear h2
 try dsimp only at h
 refine w_seq ?_
 refine w_run mo (by rw [hN]; decide) fun K hK => ?_
 simp [-guardE_b, -Is_at, -Is_at', -Ls_at, -Ls_at', eL, eI, allInts]
 repeat (with_reducible refine And.intro ?_ ?_; · first | assumption | omega | (simp; done) | (simp; omega) | simp_all)
 refine hK _ ?_
 clear hK K
 refine tn ?_
 refine w_weak (st' := ⟨[(2, .own 0 0 b2.length)], [(0, .row 1 (Is b2))], 1⟩) (Wk.r1 [(0, 0)] (by simp [hP, hhOk, back, IA, I1, LA, L1, BA, B1, EA, E1, E2, eB, eI, eL])) ?_
 refine w_ret ?_
 have hr := Option.some.inj h
 rw [← hr]
 refine ⟨_, (.tmp .nil), ?_⟩
 refine ⟨(.one rfl rfl .nil), [.lst true 1 (Is b2)], [0], by simp [IA, I1, LA, L1, BA, B1, EA, E1, E2, eB, eI, eL], by simp, (UpL.refl _)⟩
end Go.Vc.T

set_option maxRecDepth 100000
set_option linter.unusedSimpArgs false
set_option linter.unusedVariables false
namespace Go.Vc.T
open Go Go.Vc Go.Proofs
noncomputable def s_i_identity (c_ : Cat) : Option Fn :=
 (s_i_numbers c_.n).bind fun v1 =>
 (s_i_Category_arrows c_).bind fun v2 =>
 (s_i_numbers v2).bind fun v3 =>
 (s_i_functor c_ c_ v1 v3).bind fun v4 =>
 some v4
set_option maxHeartbeats 4000000 in
theorem w_i_identity (c_ : Cat) (r : Fn) (h : s_i_identity c_ = some r) : Contract Try.prog 177 [.rptr (c_.cells true)] (.agg (r.cells true)) := by
 refine contract_introG (rvs := [.cell 2 35]) (rs := [.agg (r.cells true)]) Try.func177 rfl rfl rfl rfl (by simp [Try.f177]) fun F hN hP => ?_
 unfold s_i_identity at h
 refine w_seq ?_
 refine w_run mo (by rw [hN]; decide) fun K hK => ?_
 simp [-guardE_b, -Is_at, -Is_at', -Ls_at, -Ls_at', eL, eI, allInts, eP_Cat, eP_Fn, Cat.cells, Fn.cells]
 repeat (with_reducible refine And.intro ?_ ?_; · first | assumption | omega | (simp; done) | (simp; omega) | simp_all)
 refine hK _ ?_
 clear hK K
 refine tn ?_
 refine w_weak (st' := ⟨[(0, .rptr (Cat.cells true c_)), (2, .adr 0 0 0)], [(0, .mix 12 [[.val (.int .i64 0), .val (.slice none 0 0), .val (.slice none 0 0), .val (.slice none 0 0), .val (.slice none 0 0), .val (.int .i64 0), .val (.slice none 0 0), .val (.slice none 0 0), .val (.slice none 0 0), .val (.slice none 0 0), .val (.slice none 0 0), .val (.slice none 0 0)]])], 1⟩) (Wk.r1 [(0, 0)] (by simp [hP, hhOk, back, Cat.cells, Fn.cells, IA, I1, LA, L1, BA, B1, EA, E1, E2, eB, eI, eL])) ?_
 refine w_seq ?_
 refine w_run mo (by rw [hN]; decide) fun K hK => ?_
 simp [-guardE_b, -Is_at, -Is_at', -Ls_at, -Ls_at', eL, eI, allInts, eP_Cat, eP_Fn, Cat.cells, Fn.cells]
 repeat (with_reducible refine And.intro ?_ ?_; · first | assumption | omega | (simp; done) | (simp; omega) | simp_all)
 replace h := bind_some h
 obtain ⟨v1, hv1, h⟩ := h
 refine callA_intro (w_i_numbers _ v1 hv1) (.cons .val .nil) ?_
 simp [-guardE_b, -Is_at, -Is_at', -Ls_at, -Ls_at', unk, unA, unE, unT, unC, flat, eL, eI, allInts, eP_Cat, eP_Fn, Cat.cells, Fn.cells]
 repeat (with_reducible refine And.intro ?_ ?_; · first | assumption | omega | (simp; done) | (simp; omega) | simp_all)
 replace h := bind_some h
 obtain ⟨v2, hv2, h⟩ := h
 refine callA_intro (w_i_Category_arrows _ v2 hv2) (.cons (.preT (by simp [Cat.cells])) .nil) ?_
 simp [-guardE_b, -Is_at, -Is_at', -Ls_at, -Ls_at', unk, unA, unE, unT, unC, flat, eL, eI, allInts, eP_Cat, eP_Fn, Cat.cells, Fn.cells]
 repeat (with_reducible refine And.intro ?_ ?_; · first | assumption | omega | (simp; done) | (simp; omega) | simp_all)
 replace h := bind_some h
 obtain ⟨v3, hv3, h⟩ := h
 refine callA_intro (w_i_numbers _ v3 hv3) (.cons .val .nil) ?_
 simp [-guardE_b, -Is_at, -Is_at', -Ls_at, -Ls_at', unk, unA, unE, unT, unC, flat, eL, eI, allInts, eP_Cat, eP_Fn, Cat.cells, Fn.cells]
 repeat (with_reducible refine And.intro ?_ ?_; · first | assumption | omega | (simp; done) | (simp; omega) | simp_all)
 replace h := bind_some h
 obtain ⟨v4, hv4, h⟩ := h
 refine callA_intro (w_i_functor _ _ _ _ v4 hv4) (.cons (.preT (by simp [Cat.cells])) (.cons (.preT (by simp [Cat.cells])) (.cons (.whole (by simp) (by simp) (by simp)) (.cons (.whole (by simp) (by simp) (by simp)) .nil)))) ?_
 simp [-guardE_b, -Is_at, -Is_at', -Ls_at, -Ls_at', unk, unA, unE, unT, unC, flat, eL, eI, allInts, eP_Cat, eP_Fn, Cat.cells, Fn.cells]
 repeat (with_reducible refine And.intro ?_ ?_; · first | assumption | omega | (simp; done) | (simp; omega) | simp_all)
 refine hK _ ?_
 clear hK K
 refine tn ?_
 refine w_weak (st' := ⟨[(2, .adr 0 0 0)], [(0, .mix 12 [[.val (.int .i64 v4.s.n), .own 1 0 v4.s.fr.length, .own 2 0 v4.s.to.length, .own 3 0 v4.s.id.length, .own 4 0 v4.s.cs.length, .val (.int .i64 v4.t.n), .own 5 0 v4.t.fr.length, .own 6 0 v4.t.to.length, .own 7 0 v4.t.id.length, .own 8 0 v4.t.cs.length, .own 9 0 v4.ob.length, .own 10 0 v4.ar.length]]), (1, .row 1 (Is v4.s.fr)), (2, .row 1 (Is v4.s.to)), (3, .row 1 (Is v4.s.id)), (4, .row 1 (Ls v4.s.cs)), (5, .row 1 (Is v4.t.fr)), (6, .row 1 (Is v4.t.to)), (7, .row 1 (Is v4.t.id)), (8, .row 1 (Ls v4.t.cs)), (9, .row 1 (Is v4.ob)), (10, .row 1 (Is v4.ar))], 11⟩) (Wk.r1 [(0, 0), (5, 1), (6, 2), (7, 3), (8, 4), (10, 5), (11, 6), (12, 7), (13, 8), (14, 9), (15, 10)] (by simp [hP, hhOk, back, Cat.cells, Fn.cells, IA, I1, LA, L1, BA, B1, EA, E1, E2, eB, eI, eL])) ?_
 refine w_ret ?_
 have hr := Option.some.inj h
 rw [← hr]
 refine ⟨_, (.cell tf_35 rfl rfl rfl (by simp) (by simp) .nil), ?_⟩
 refine ⟨(.agg rfl .nil), [.val (.int .i64 v4.s.n), .lst true 1 (Is v4.s.fr), .lst true 1 (Is v4.s.to), .lst true 1 (Is v4.s.id), .lst true 1 (Ls v4.s.cs), .val (.int .i64 v4.t.n), .lst true 1 (Is v4.t.fr), .lst true 1 (Is v4.t.to), .lst true 1 (Is v4.t.id), .lst true 1 (Ls v4.t.cs), .lst true 1 (Is v4.ob), .lst true 1 (Is v4.ar)], [1, 2, 3, 4, 5, 6, 7, 8, 9, 10], by simp [Cat.cells, Fn.cells, IA, I1, LA, L1, BA, B1, EA, E1, E2, eB, eI, eL], by simp, (UpL.refl _)⟩
end Go.Vc.T

set_option maxRecDepth 100000
set_option linter.unusedSimpArgs false
set_option linter.unusedVariables false
namespace Go.Vc.T
open Go Go.Vc Go.Proofs
noncomputable def s_s_l15Natural (f_ : Fn) (g_ : Fn) (parts_ : List Int) : Option Bool :=
 (
   if ¬ ((parts_.length : Int) = (f_.ob.length : Int)) then
     some true
   else
     (s_s_l01Map (f_.t.fr.length : Int) parts_).bind fun v3 =>
     some (!v3) : Option (Bool)).bind fun b1 =>
 if b1 = true then
   some false
 else
   (loopF (σ := Int) (ε := Unit ⊕ Bool) (fun s17 =>
     if s17 < (parts_.length : Int) then
       (
         ass (0 ≤ s17 ∧ s17 < (parts_.length : Int)) <|
         ass (0 ≤ ix parts_ s17 ∧ ix parts_ s17 < (f_.t.fr.length : Int)) <|
         ass (0 ≤ s17 ∧ s17 < (f_.ob.length : Int)) <|
         if ¬ ((ix f_.t.fr (ix parts_ s17)) = (ix f_.ob s17)) then
           some true
         else
           ass (0 ≤ s17 ∧ s17 < (parts_.length : Int)) <|
           ass (0 ≤ ix parts_ s17 ∧ ix parts_ s17 < (f_.t.to.length : Int)) <|
           ass (0 ≤ s17 ∧ s17 < (g_.ob.length : Int)) <|
           some ((ix f_.t.to (ix parts_ s17)) != (ix g_.ob s17)) : Option (Bool)).bind fun b19 =>
       if b19 = true then
         some (Ctl.ret (Sum.inr false))
       else
         ass (B64 (s17 + 1)) <|
         some (Ctl.next (s17 + 1))
     else
       some (Ctl.ret (Sum.inl ()))) fuel 0).bind fun e5 =>
   match e5 with
   | .inl b5 =>
     (loopF (σ := Int) (ε := Unit ⊕ Bool) (fun s41 =>
       if s41 < (f_.s.fr.length : Int) then
         ass (0 ≤ s41 ∧ s41 < (f_.ar.length : Int)) <|
         ass (0 ≤ s41 ∧ s41 < (f_.s.to.length : Int)) <|
         ass (0 ≤ ix f_.s.to s41 ∧ ix f_.s.to s41 < (parts_.length : Int)) <|
         (s_s_l02Then f_.t (ix f_.ar s41) (ix parts_ (ix f_.s.to s41))).bind fun v46 =>
         ass (0 ≤ s41 ∧ s41 < (f_.s.fr.length : Int)) <|
         ass (0 ≤ ix f_.s.fr s41 ∧ ix f_.s.fr s41 < (parts_.length : Int)) <|
         ass (0 ≤ s41 ∧ s41 < (g_.ar.length : Int)) <|
         (s_s_l02Then f_.t (ix parts_ (ix f_.s.fr s41)) (ix g_.ar s41)).bind fun v50 =>
         if ¬ (v46 = v50) then
           some (Ctl.ret (Sum.inr false))
         else
           ass (B64 (s41 + 1)) <|
           some (Ctl.next (s41 + 1))
       else
         some (Ctl.ret (Sum.inl ()))) fuel 0).bind fun e29 =>
     match e29 with
     | .inl b29 =>
       some true
     | .inr p29 =>
       some p29
   | .inr p5 =>
     some p5
set_option maxHeartbeats 4000000 in
theorem w_s_l15Natural (f_ : Fn) (g_ : Fn) (parts_ : List Int) (r : Bool) (h : s_s_l15Natural f_ g_ parts_ = some r) : Contract Try.prog 168 [.agg (f_.cells true), .agg (g_.cells true), .lst true 1 (Is parts_)] (.val (.bool r)) := by
 refine contract_introG (rvs := [.tmp 6]) (rs := [.val (.bool r)]) Try.func168 rfl rfl rfl rfl (by simp [Try.f168]) fun F hN hP => ?_
 unfold s_s_l15Natural at h
 refine w_seq ?_
 refine w_run mo (by rw [hN]; decide) fun K hK => ?_
 simp [-guardE_b, -Is_at, -Is_at', -Ls_at, -Ls_at', eL, eI, allInts, eP_Cat, eP_Fn, Cat.cells, Fn.cells]
 repeat (with_reducible refine And.intro ?_ ?_; · first | assumption | omega | (simp; done) | (simp; omega) | simp_all)
 refine hK _ ?_
 clear hK K
 refine tn ?_
 refine w_weak (st' := ⟨[(2, .lst true 1 (Is parts_)), (3, .adr 0 0 0), (4, .adr 1 0 0)], [(0, .mix 12 [(Fn.cells true f_)]), (1, .mix 12 [(Fn.cells true g_)])], 2⟩) (Wk.r1 [(0, 0), (1, 1)] (by simp [hP, hhOk, back, Cat.cells, Fn.cells, IA, I1, LA, L1, BA, B1, EA, E1, E2, eB, eI, eL])) ?_
 refine w_seq ?_
 refine w_runS mo (by rw [hN]; decide) fun K hK => ?_
 simp [-guardE_b, -Is_at, -Is_at', -Ls_at, -Ls_at', eL, eI, allInts, eP_Cat, eP_Fn, Cat.cells, Fn.cells]
 repeat (with_reducible refine And.intro ?_ ?_; · first | assumption | omega | (simp; done) | (simp; omega) | simp_all)
 refine hK _ ?_
 clear hK K
 refine tn ?_
 refine w_weak (st' := ⟨[(2, .lst true 1 (Is parts_)), (3, .adr 0 0 0), (4, .adr 1 0 0), (7, .adr 2 0 0), (8, .adr 3 0 0)], [(0, .mix 12 [(Fn.cells true f_)]), (1, .mix 12 [(Fn.cells true g_)]), (2, .mix 5 [(Cat.cells true f_.s)]), (3, .mix 5 [(Cat.cells true f_.t)])], 4⟩) (Wk.r1 [(0, 0), (1, 1), (2, 2), (3, 3)] (by simp [hP, hhOk, back, Cat.cells, Fn.cells, IA, I1, LA, L1, BA, B1, EA, E1, E2, eB, eI, eL])) ?_
 refine w_seq ?_
 refine w_seq ?_
 replace h := bind_some h
 obtain ⟨e1, h, h1⟩ := h
 refine w_joinT (fun b1 : Bool => ⟨[(2, .lst true 1 (Is parts_)), (3, .adr 0 0 0), (4, .adr 1 0 0), (7, .adr 2 0 0), (8, .adr 3 0 0), (28, .val (.bool b1))], [(0, .mix 12 [(Fn.cells true f_)]), (1, .mix 12 [(Fn.cells true g_)]), (2, .mix 5 [(Cat.cells true f_.s)]), (3, .mix 5 [(Cat.cells true f_.t)])], 4⟩) (fun b1 => b1 = e1) ?_ ?_
 · refine w_run mo (by rw [hN]; decide) fun K hK => ?_
   simp [-guardE_b, -Is_at, -Is_at', -Ls_at, -Ls_at', eL, eI, allInts, eP_Cat, eP_Fn, Cat.cells, Fn.cells]
   repeat (with_reducible refine And.intro ?_ ?_; · first | assumption | omega | (simp; done) | (simp; omega) | simp_all)
   refine guard_intro (fun g => ?_) (fun g => ?_)
   · have g2 : ¬ (¬ ((parts_.length : Int) = (f_.ob.length : Int))) := by first | simpa using g | (simp at g; exact g) | (simp at g; omega)
     clear g
     replace h := if_r g2 h
     simp [-guardE_b, -Is_at, -Is_at', -Ls_at, -Ls_at', eL, eI, allInts, eP_Cat, eP_Fn, Cat.cells, Fn.cells]
     repeat (with_reducible refine And.intro ?_ ?_; · first | assumption | omega | (simp; done) | (simp; omega) | simp_all)
     replace h := bind_some h
     obtain ⟨v3, hv3, h⟩ := h
     refine callA_intro (w_s_l01Map _ _ v3 hv3) (.cons .val (.cons .lst .nil)) ?_
     simp [-guardE_b, -Is_at, -Is_at', -Ls_at, -Ls_at', unk, unA, unE, unT, unC, flat, eL, eI, allInts, eP_Cat, eP_Fn, Cat.cells, Fn.cells]
     repeat (with_reducible refine And.intro ?_ ?_; · first | assumption | omega | (simp; done) | (simp; omega) | simp_all)
     refine hK _ ?_
     exact jn (b := !v3) (Option.some.inj h) (Wk.r1 [(0, 0), (1, 1), (2, 2), (3, 3)] (by simp [hP, hhOk, back, Cat.cells, Fn.cells, IA, I1, LA, L1, BA, B1, EA, E1, E2, eB, eI, eL]))
   have g2 : ¬ ((parts_.length : Int) = (f_.ob.length : Int)) := by first | simpa using g | (simp at g; exact g) | (simp at g; omega)
   clear g
   replace h := if_l g2 h
   simp [-guardE_b, -Is_at, -Is_at', -Ls_at, -Ls_at', eL, eI, allInts, eP_Cat, eP_Fn, Cat.cells, Fn.cells]
   repeat (with_reducible refine And.intro ?_ ?_; · first | assumption | omega | (simp; done) | (simp; omega) | simp_all)
   refine hK _ ?_
   exact jn (b := true) (Option.some.inj h) (Wk.r1 [(0, 0), (1, 1), (2, 2), (3, 3)] (by simp [hP, hhOk, back, Cat.cells, Fn.cells, IA, I1, LA, L1, BA, B1, EA, E1, E2, eB, eI, eL]))
 intro b1 hb1
 have h := h1
 rw [← hb1] at h
 clear h1
 try dsimp only at h
 refine w_cond rfl (fun g => ?_) fun g => ?_
 · have g4 : b1 = true := by first | simpa using g | (simp at g; exact g) | (simp at g; omega)
   clear g
   replace h := if_l g4 h
   refine w_seq ?_
   refine w_run mo (by rw [hN]; decide) fun K hK => ?_
   simp [-guardE_b, -Is_at, -Is_at', -Ls_at, -Ls_at', eL, eI, allInts, eP_Cat, eP_Fn, Cat.cells, Fn.cells]
   repeat (with_reducible refine And.intro ?_ ?_; · first | assumption | omega | (simp; done) | (simp; omega) | simp_all)
   refine hK _ ?_
   clear hK K
   refine tn ?_
   refine w_weak (st' := ⟨[(6, .val (.bool false))], [], 0⟩) (Wk.r1 [] (by simp [hP, hhOk, back, Cat.cells, Fn.cells, IA, I1, LA, L1, BA, B1, EA, E1, E2, eB, eI, eL])) ?_
   refine w_ret ?_
   refine tr ?_
   have hr := Option.some.inj h
   rw [← hr]
   refine ⟨_, (.tmp .nil), ?_⟩
   refine ⟨(.one rfl rfl .nil), [.val (.bool false)], [], by simp [Cat.cells, Fn.cells, IA, I1, LA, L1, BA, B1, EA, E1, E2, eB, eI, eL], by simp, (UpL.refl _)⟩
 have g4 : ¬ (b1 = true) := by first | simpa using g | (simp at g; exact g) | (simp at g; omega)
 clear g
 replace h := if_r g4 h
 refine w_skip ?_
 refine tn ?_
 refine w_seq ?_
 refine w_seq ?_
 refine w_run mo (by rw [hN]; decide) fun K hK => ?_
 simp [-guardE_b, -Is_at, -Is_at', -Ls_at, -Ls_at', eL, eI, allInts, eP_Cat, eP_Fn, Cat.cells, Fn.cells]
 repeat (with_reducible refine And.intro ?_ ?_; · first | assumption | omega | (simp; done) | (simp; omega) | simp_all)
 refine hK _ ?_
 clear hK K
 refine tn ?_
 refine w_weak (st' := ⟨[(2, .lst true 1 (Is parts_)), (3, .adr 0 0 0), (4, .adr 1 0 0), (7, .adr 2 0 0), (8, .adr 3 0 0), (9, .val (.int .i64 0))], [(0, .mix 12 [(Fn.cells true f_)]), (1, .mix 12 [(Fn.cells true g_)]), (2, .mix 5 [(Cat.cells true f_.s)]), (3, .mix 5 [(Cat.cells true f_.t)])], 4⟩) (Wk.r1 [(0, 0), (1, 1), (2, 2), (3, 3)] (by simp [hP, hhOk, back, Cat.cells, Fn.cells, IA, I1, LA, L1, BA, B1, EA, E1, E2, eB, eI, eL])) ?_
 replace h := bind_some h
 obtain ⟨e5, h, h5⟩ := h
 refine w_joinT (fun b5 : Unit => ⟨[(2, .lst true 1 (Is parts_)), (3, .adr 0 0 0), (4, .adr 1 0 0), (7, .adr 2 0 0), (8, .adr 3 0 0)], [(0, .mix 12 [(Fn.cells true f_)]), (1, .mix 12 [(Fn.cells true g_)]), (2, .mix 5 [(Cat.cells true f_.s)]), (3, .mix 5 [(Cat.cells true f_.t)])], 4⟩) (fun b5 => Sum.inl b5 = e5) ?_ ?_
 · refine w_block ?_
   refine w_loopF h (fun s17 : Int => ⟨[(2, .lst true 1 (Is parts_)), (3, .adr 0 0 0), (4, .adr 1 0 0), (7, .adr 2 0 0), (8, .adr 3 0 0), (9, .val (.int .i64 s17))], [(0, .mix 12 [(Fn.cells true f_)]), (1, .mix 12 [(Fn.cells true g_)]), (2, .mix 5 [(Cat.cells true f_.s)]), (3, .mix 5 [(Cat.cells true f_.t)])], 4⟩) (Wk.r1 [(0, 0), (1, 1), (2, 2), (3, 3)] (by simp [hP, hhOk, back, Cat.cells, Fn.cells, IA, I1, LA, L1, BA, B1, EA, E1, E2, eB, eI, eL])) ?_
   clear h
   intro k17 s17 c17 h hk17
   refine w_seq ?_
   refine w_seq ?_
   refine w_run mo (by rw [hN]; decide) fun K hK => ?_
   simp [-guardE_b, -Is_at, -Is_at', -Ls_at, -Ls_at', eL, eI, allInts, eP_Cat, eP_Fn, Cat.cells, Fn.cells]
   repeat (with_reducible refine And.intro ?_ ?_; · first | assumption | omega | (simp; done) | (simp; omega) | simp_all)
   refine hK _ ?_
   clear hK K
   refine tn ?_
   refine w_weak (st' := ⟨[(2, .lst true 1 (Is parts_)), (3, .adr 0 0 0), (4, .adr 1 0 0), (7, .adr 2 0 0), (8, .adr 3 0 0), (9, .val (.int .i64 s17)), (32, .val (.bool (decide (s17 < (parts_.length : Int)))))], [(0, .mix 12 [(Fn.cells true f_)]), (1, .mix 12 [(Fn.cells true g_)]), (2, .mix 5 [(Cat.cells true f_.s)]), (3, .mix 5 [(Cat.cells true f_.t)])], 4⟩) (Wk.r1 [(0, 0), (1, 1), (2, 2), (3, 3)] (by simp [hP, hhOk, back, Cat.cells, Fn.cells, IA, I1, LA, L1, BA, B1, EA, E1, E2, eB, eI, eL])) ?_
   refine w_cond rfl (fun g => ?_) fun g => ?_
   · have g18 : s17 < (parts_.length : Int) := by first | simpa using g | (simp at g; exact g) | (simp at g; omega)
     clear g
     replace h := if_l g18 h
     refine w_skip ?_
     refine tn ?_
     refine w_seq ?_
     refine w_block ?_
     refine w_seq ?_
     replace h := bind_some h
     obtain ⟨e19, h, h19⟩ := h
     refine w_joinT (fun b19 : Bool => ⟨[(2, .lst true 1 (Is parts_)), (3, .adr 0 0 0), (4, .adr 1 0 0), (7, .adr 2 0 0), (8, .adr 3 0 0), (9, .val (.int .i64 s17)), (64, .val (.bool b19))], [(0, .mix 12 [(Fn.cells true f_)]), (1, .mix 12 [(Fn.cells true g_)]), (2, .mix 5 [(Cat.cells true f_.s)]), (3, .mix 5 [(Cat.cells true f_.t)])], 4⟩) (fun b19 => b19 = e19) ?_ ?_
     · refine w_run mo (by rw [hN]; decide) fun K hK => ?_
       replace h := ass_some h
       obtain ⟨a20, h⟩ := h
       replace h := ass_some h
       obtain ⟨a21, h⟩ := h
       replace h := ass_some h
       obtain ⟨a22, h⟩ := h
       simp [-guardE_b, -Is_at, -Is_at', -Ls_at, -Ls_at', eL, eI, allInts, eP_Cat, eP_Fn, Cat.cells, Fn.cells, at_I a20, at_I a21, at_I a22]
       repeat (with_reducible refine And.intro ?_ ?_; · first | assumption | omega | (simp; done) | (simp; omega) | simp_all)
       refine guard_intro (fun g => ?_) (fun g => ?_)
       · have g23 : ¬ (¬ ((ix f_.t.fr (ix parts_ s17)) = (ix f_.ob s17))) := by first | simpa using g | (simp at g; exact g) | (simp at g; omega)
         clear g
         replace h := if_r g23 h
         replace h := ass_some h
         obtain ⟨a24, h⟩ := h
         replace h := ass_some h
         obtain ⟨a25, h⟩ := h
         replace h := ass_some h
         obtain ⟨a26, h⟩ := h
         simp [-guardE_b, -Is_at, -Is_at', -Ls_at, -Ls_at', eL, eI, allInts, eP_Cat, eP_Fn, Cat.cells, Fn.cells, at_I a24, at_I a25, at_I a26]
         repeat (with_reducible refine And.intro ?_ ?_; · first | assumption | omega | (simp; done) | (simp; omega) | simp_all)
         refine hK _ ?_
         exact jn (b := (ix f_.t.to (ix parts_ s17)) != (ix g_.ob s17)) (Option.some.inj h) (Wk.r1 [(0, 0), (1, 1), (2, 2), (3, 3)] (by simp [hP, hhOk, back, Cat.cells, Fn.cells, IA, I1, LA, L1, BA, B1, EA, E1, E2, eB, eI, eL]))
       have g23 : ¬ ((ix f_.t.fr (ix parts_ s17)) = (ix f_.ob s17)) := by first | simpa using g | (simp at g; exact g) | (simp at g; omega)
       clear g
       replace h := if_l g23 h
       simp [-guardE_b, -Is_at, -Is_at', -Ls_at, -Ls_at', eL, eI, allInts, eP_Cat, eP_Fn, Cat.cells, Fn.cells]
       repeat (with_reducible refine And.intro ?_ ?_; · first | assumption | omega | (simp; done) | (simp; omega) | simp_all)
       refine hK _ ?_
       exact jn (b := true) (Option.some.inj h) (Wk.r1 [(0, 0), (1, 1), (2, 2), (3, 3)] (by simp [hP, hhOk, back, Cat.cells, Fn.cells, IA, I1, LA, L1, BA, B1, EA, E1, E2, eB, eI, eL]))
     intro b19 hb19
     have h := h19
     rw [← hb19] at h
     clear h19
     try dsimp only at h
     refine w_cond rfl (fun g => ?_) fun g => ?_
     · have g27 : b19 = true := by first | simpa using g | (simp at g; exact g) | (simp at g; omega)
       clear g
       replace h := if_l g27 h
       refine w_seq ?_
       refine w_run mo (by rw [hN]; decide) fun K hK => ?_
       simp [-guardE_b, -Is_at, -Is_at', -Ls_at, -Ls_at', eL, eI, allInts, eP_Cat, eP_Fn, Cat.cells, Fn.cells]
       repeat (with_reducible refine And.intro ?_ ?_; · first | assumption | omega | (simp; done) | (simp; omega) | simp_all)
       refine hK _ ?_
       clear hK K
       refine tn ?_
       refine w_weak (st' := ⟨[(6, .val (.bool false))], [], 0⟩) (Wk.r1 [] (by simp [hP, hhOk, back, Cat.cells, Fn.cells, IA, I1, LA, L1, BA, B1, EA, E1, E2, eB, eI, eL])) ?_
       refine w_ret ?_
       refine br ?_
       refine tr ?_
       refine lr ?_
       refine br ?_
       refine tr ?_
       cases h
       have q : _ = e5 := hk17
       have h := h5
       rw [← q] at h
       clear q
       try dsimp only at h
       have hr := Option.some.inj h
       rw [← hr]
       refine ⟨_, (.tmp .nil), ?_⟩
       refine ⟨(.one rfl rfl .nil), [.val (.bool false)], [], by simp [Cat.cells, Fn.cells, IA, I1, LA, L1, BA, B1, EA, E1, E2, eB, eI, eL], by simp, (UpL.refl _)⟩
     have g27 : ¬ (b19 = true) := by first | simpa using g | (simp at g; exact g) | (simp at g; omega)
     clear g
     replace h := if_r g27 h
     refine w_skip ?_
     refine bn ?_
     refine tn ?_
     refine w_run mo (by rw [hN]; decide) fun K hK => ?_
     replace h := ass_some h
     obtain ⟨a28, h⟩ := h
     simp [-guardE_b, -Is_at, -Is_at', -Ls_at, -Ls_at', eL, eI, allInts, eP_Cat, eP_Fn, Cat.cells, Fn.cells, wrap_id a28]
     repeat (with_reducible refine And.intro ?_ ?_; · first | assumption | omega | (simp; done) | (simp; omega) | simp_all)
     refine hK _ ?_
     clear hK K
     cases h
     exact rn (s' := s17 + 1) hk17 (Wk.r1 [(0, 0), (1, 1), (2, 2), (3, 3)] (by simp [hP, hhOk, back, Cat.cells, Fn.cells, IA, I1, LA, L1, BA, B1, EA, E1, E2, eB, eI, eL]))
   have g18 : ¬ (s17 < (parts_.length : Int)) := by first | simpa using g | (simp at g; exact g) | (simp at g; omega)
   clear g
   replace h := if_r g18 h
   refine w_exit ?_
   refine tx ?_
   refine lx ?_
   refine bh ?_
   cases h
   exact jn (b := ()) hk17 (Wk.r1 [(0, 0), (1, 1), (2, 2), (3, 3)] (by simp [hP, hhOk, back, Cat.cells, Fn.cells, IA, I1, LA, L1, BA, B1, EA, E1, E2, eB, eI, eL]))
 intro b5 hb5
 have h := h5
 rw [← hb5] at h
 clear h5
 try dsimp only at h
 refine w_seq ?_
 refine w_seq ?_
 refine w_run mo (by rw [hN]; decide) fun K hK => ?_
 simp [-guardE_b, -Is_at, -Is_at', -Ls_at, -Ls_at', eL, eI, allInts, eP_Cat, eP_Fn, Cat.cells, Fn.cells]
 repeat (with_reducible refine And.intro ?_ ?_; · first | assumption | omega | (simp; done) | (simp; omega) | simp_all)
 refine hK _ ?_
 clear hK K
 refine tn ?_
 refine w_weak (st' := ⟨[(2, .lst true 1 (Is parts_)), (3, .adr 0 0 0), (4, .adr 1 0 0), (7, .adr 2 0 0), (8, .adr 3 0 0), (10, .val (.int .i64 0))], [(0, .mix 12 [(Fn.cells true f_)]), (1, .mix 12 [(Fn.cells true g_)]), (2, .mix 5 [(Cat.cells true f_.s)]), (3, .mix 5 [(Cat.cells true f_.t)])], 4⟩) (Wk.r1 [(0, 0), (1, 1), (2, 2), (3, 3)] (by simp [hP, hhOk, back, Cat.cells, Fn.cells, IA, I1, LA, L1, BA, B1, EA, E1, E2, eB, eI, eL])) ?_
 replace h := bind_some h
 obtain ⟨e29, h, h29⟩ := h
 refine w_joinT (fun b29 : Unit => ⟨[], [], 0⟩) (fun b29 => Sum.inl b29 = e29) ?_ ?_
 · refine w_block ?_
   refine w_loopF h (fun s41 : Int => ⟨[(2, .lst true 1 (Is parts_)), (3, .adr 0 0 0), (4, .adr 1 0 0), (7, .adr 2 0 0), (8, .adr 3 0 0), (10, .val (.int .i64 s41))], [(0, .mix 12 [(Fn.cells true f_)]), (1, .mix 12 [(Fn.cells true g_)]), (2, .mix 5 [(Cat.cells true f_.s)]), (3, .mix 5 [(Cat.cells true f_.t)])], 4⟩) (Wk.r1 [(0, 0), (1, 1), (2, 2), (3, 3)] (by simp [hP, hhOk, back, Cat.cells, Fn.cells, IA, I1, LA, L1, BA, B1, EA, E1, E2, eB, eI, eL])) ?_
   clear h
   intro k41 s41 c41 h hk41
   refine w_seq ?_
   refine w_seq ?_
   refine w_run mo (by rw [hN]; decide) fun K hK => ?_
   simp [-guardE_b, -Is_at, -Is_at', -Ls_at, -Ls_at', eL, eI, allInts, eP_Cat, eP_Fn, Cat.cells, Fn.cells]
   repeat (with_reducible refine And.intro ?_ ?_; · first | assumption | omega | (simp; done) | (simp; omega) | simp_all)
   refine hK _ ?_
   clear hK K
   refine tn ?_
   refine w_weak (st' := ⟨[(2, .lst true 1 (Is parts_)), (3, .adr 0 0 0), (4, .adr 1 0 0), (7, .adr 2 0 0), (8, .adr 3 0 0), (10, .val (.int .i64 s41)), (69, .val (.bool (decide (s41 < (f_.s.fr.length : Int)))))], [(0, .mix 12 [(Fn.cells true f_)]), (1, .mix 12 [(Fn.cells true g_)]), (2, .mix 5 [(Cat.cells true f_.s)]), (3, .mix 5 [(Cat.cells true f_.t)])], 4⟩) (Wk.r1 [(0, 0), (1, 1), (2, 2), (3, 3)] (by simp [hP, hhOk, back, Cat.cells, Fn.cells, IA, I1, LA, L1, BA, B1, EA, E1, E2, eB, eI, eL])) ?_
   refine w_cond rfl (fun g => ?_) fun g => ?_
   · have g42 : s41 < (f_.s.fr.length : Int) := by first | simpa using g | (simp at g; exact g) | (simp at g; omega)
     clear g
     replace h := if_l g42 h
     refine w_skip ?_
     refine tn ?_
     refine w_seq ?_
     refine w_block ?_
     refine w_seq ?_
     refine w_run mo (by rw [hN]; decide) fun K hK => ?_
     replace h := ass_some h
     obtain ⟨a43, h⟩ := h
     replace h := ass_some h
     obtain ⟨a44, h⟩ := h
     replace h := ass_some h
     obtain ⟨a45, h⟩ := h
     simp [-guardE_b, -Is_at, -Is_at', -Ls_at, -Ls_at', eL, eI, allInts, eP_Cat, eP_Fn, Cat.cells, Fn.cells, at_I a43, at_I a44, at_I a45]
     repeat (with_reducible refine And.intro ?_ ?_; · first | assumption | omega | (simp; done) | (simp; omega) | simp_all)
     replace h := bind_some h
     obtain ⟨v46, hv46, h⟩ := h
     refine callA_intro (w_s_l02Then _ _ _ v46 hv46) (.cons (.aggL (.cons .val (.cons .lst (.cons .lst (.cons .lst (.cons .lst .nil)))))) (.cons .val (.cons .val .nil))) ?_
     replace h := ass_some h
     obtain ⟨a47, h⟩ := h
     replace h := ass_some h
     obtain ⟨a48, h⟩ := h
     replace h := ass_some h
     obtain ⟨a49, h⟩ := h
     simp [-guardE_b, -Is_at, -Is_at', -Ls_at, -Ls_at', unk, unA, unE, unT, unC, flat, eL, eI, allInts, eP_Cat, eP_Fn, Cat.cells, Fn.cells, at_I a47, at_I a48, at_I a49]
     repeat (with_reducible refine And.intro ?_ ?_; · first | assumption | omega | (simp; done) | (simp; omega) | simp_all)
     replace h := bind_some h
     obtain ⟨v50, hv50, h⟩ := h
     refine callA_intro (w_s_l02Then _ _ _ v50 hv50) (.cons (.aggL (.cons .val (.cons .lst (.cons .lst (.cons .lst (.cons .lst .nil)))))) (.cons .val (.cons .val .nil))) ?_
     simp [-guardE_b, -Is_at, -Is_at', -Ls_at, -Ls_at', unk, unA, unE, unT, unC, flat, eL, eI, allInts, eP_Cat, eP_Fn, Cat.cells, Fn.cells]
     repeat (with_reducible refine And.intro ?_ ?_; · first | assumption | omega | (simp; done) | (simp; omega) | simp_all)
     refine hK _ ?_
     clear hK K
     refine tn ?_
     refine w_weak (st' := ⟨[(2, .lst true 1 (Is parts_)), (3, .adr 0 0 0), (4, .adr 1 0 0), (7, .adr 2 0 0), (8, .adr 3 0 0), (10, .val (.int .i64 s41)), (102, .val (.bool (v46 != v50)))], [(0, .mix 12 [(Fn.cells true f_)]), (1, .mix 12 [(Fn.cells true g_)]), (2, .mix 5 [(Cat.cells true f_.s)]), (3, .mix 5 [(Cat.cells true f_.t)])], 4⟩) (Wk.r1 [(0, 0), (1, 1), (2, 2), (3, 3)] (by simp [hP, hhOk, back, Cat.cells, Fn.cells, IA, I1, LA, L1, BA, B1, EA, E1, E2, eB, eI, eL])) ?_
     refine w_cond rfl (fun g => ?_) fun g => ?_
     · have g51 : ¬ (v46 = v50) := by first | simpa using g | (simp at g; exact g) | (simp at g; omega)
       clear g
       replace h := if_l g51 h
       refine w_seq ?_
       refine w_run mo (by rw [hN]; decide) fun K hK => ?_
       simp [-guardE_b, -Is_at, -Is_at', -Ls_at, -Ls_at', eL, eI, allInts, eP_Cat, eP_Fn, Cat.cells, Fn.cells]
       repeat (with_reducible refine And.intro ?_ ?_; · first | assumption | omega | (simp; done) | (simp; omega) | simp_all)
       refine hK _ ?_
       clear hK K
       refine tn ?_
       refine w_weak (st' := ⟨[(6, .val (.bool false))], [], 0⟩) (Wk.r1 [] (by simp [hP, hhOk, back, Cat.cells, Fn.cells, IA, I1, LA, L1, BA, B1, EA, E1, E2, eB, eI, eL])) ?_
       refine w_ret ?_
       refine br ?_
       refine tr ?_
       refine lr ?_
       refine br ?_
       refine tr ?_
       cases h
       have q : _ = e29 := hk41
       have h := h29
       rw [← q] at h
       clear q
       try dsimp only at h
       have hr := Option.some.inj h
       rw [← hr]
       refine ⟨_, (.tmp .nil), ?_⟩
       refine ⟨(.one rfl rfl .nil), [.val (.bool false)], [], by simp [Cat.cells, Fn.cells, IA, I1, LA, L1, BA, B1, EA, E1, E2, eB, eI, eL], by simp, (UpL.refl _)⟩
     have g51 : ¬ (¬ (v46 = v50)) := by first | simpa using g | (simp at g; exact g) | (simp at g; omega)
     clear g
     replace h := if_r g51 h
     refine w_skip ?_
     refine bn ?_
     refine tn ?_
     refine w_run mo (by rw [hN]; decide) fun K hK => ?_
     replace h := ass_some h
     obtain ⟨a52, h⟩ := h
     simp [-guardE_b, -Is_at, -Is_at', -Ls_at, -Ls_at', eL, eI, allInts, eP_Cat, eP_Fn, Cat.cells, Fn.cells, wrap_id a52]
     repeat (with_reducible refine And.intro ?_ ?_; · first | assumption | omega | (simp; done) | (simp; omega) | simp_all)
     refine hK _ ?_
     clear hK K
     cases h
     exact rn (s' := s41 + 1) hk41 (Wk.r1 [(0, 0), (1, 1), (2, 2), (3, 3)] (by simp [hP, hhOk, back, Cat.cells, Fn.cells, IA, I1, LA, L1, BA, B1, EA, E1, E2, eB, eI, eL]))
   have g42 : ¬ (s41 < (f_.s.fr.length : Int)) := by first | simpa using g | (simp at g; exact g) | (simp at g; omega)
   clear g
   replace h := if_r g42 h
   refine w_exit ?_
   refine tx ?_
   refine lx ?_
   refine bh ?_
   cases h
   exact jn (b := ()) hk41 (Wk.r1 [] (by simp [hP, hhOk, back, Cat.cells, Fn.cells, IA, I1, LA, L1, BA, B1, EA, E1, E2, eB, eI, eL]))
 intro b29 hb29
 have h := h29
 rw [← hb29] at h
 clear h29
 try dsimp only at h
 refine w_seq ?_
 refine w_run mo (by rw [hN]; decide) fun K hK => ?_
 simp [-guardE_b, -Is_at, -Is_at', -Ls_at, -Ls_at', eL, eI, allInts, eP_Cat, eP_Fn, Cat.cells, Fn.cells]
 repeat (with_reducible refine And.intro ?_ ?_; · first | assumption | omega | (simp; done) | (simp; omega) | simp_all)
 refine hK _ ?_
 clear hK K
 refine tn ?_
 refine w_weak (st' := ⟨[(6, .val (.bool true))], [], 0⟩) (Wk.r1 [] (by simp [hP, hhOk, back, Cat.cells, Fn.cells, IA, I1, LA, L1, BA, B1, EA, E1, E2, eB, eI, eL])) ?_
 refine w_ret ?_
 have hr := Option.some.inj h
 rw [← hr]
 refine ⟨_, (.tmp .nil), ?_⟩
 refine ⟨(.one rfl rfl .nil), [.val (.bool true)], [], by simp [Cat.cells, Fn.cells, IA, I1, LA, L1, BA, B1, EA, E1, E2, eB, eI, eL], by simp, (UpL.refl _)⟩
noncomputable def s_s_l06Self (c_ : Cat) : Option Fn :=
 (loopF (σ := List Int × Int) (ε := List Int) (fun s5 =>
   if s5.2 < c_.n then
     ass ((s5.1 ++ [s5.2]).length ≤ 1073741824) <|
     ass (B64 (s5.2 + 1)) <|
     some (Ctl.next (s5.1 ++ [s5.2], s5.2 + 1))
   else
     some (Ctl.ret s5.1)) fuel ([], 0)).bind fun b1 =>
 (loopF (σ := List Int × Int) (ε := List Int) (fun s13 =>
   if s13.2 < (c_.fr.length : Int) then
     ass ((s13.1 ++ [s13.2]).length ≤ 1073741824) <|
     ass (B64 (s13.2 + 1)) <|
     some (Ctl.next (s13.1 ++ [s13.2], s13.2 + 1))
   else
     some (Ctl.ret s13.1)) fuel ([], 0)).bind fun b9 =>
 (s_s_l06Make c_ c_ b1 b9).bind fun v17 =>
 some v17
set_option maxHeartbeats 4000000 in
theorem w_s_l06Self (c_ : Cat) (r : Fn) (h : s_s_l06Self c_ = some r) : Contract Try.prog 169 [.agg (c_.cells true)] (.agg (r.cells true)) := by
 refine contract_introG (rvs := [.cell 2 35]) (rs := [.agg (r.cells true)]) Try.func169 rfl rfl rfl rfl (by simp [Try.f169]) fun F hN hP => ?_
 unfold s_s_l06Self at h
 refine w_seq ?_
 refine w_run mo (by rw [hN]; decide) fun K hK => ?_
 simp [-guardE_b, -Is_at, -Is_at', -Ls_at, -Ls_at', eL, eI, allInts, eP_Cat, eP_Fn, Cat.cells, Fn.cells]
 repeat (with_reducible refine And.intro ?_ ?_; · first | assumption | omega | (simp; done) | (simp; omega) | simp_all)
 refine hK _ ?_
 clear hK K
 refine tn ?_
 refine w_weak (st' := ⟨[(1, .adr 0 0 0), (2, .adr 1 0 0)], [(0, .mix 5 [(Cat.cells true c_)]), (1, .mix 12 [[.val (.int .i64 0), .val (.slice none 0 0), .val (.slice none 0 0), .val (.slice none 0 0), .val (.slice none 0 0), .val (.int .i64 0), .val (.slice none 0 0), .val (.slice none 0 0), .val (.slice none 0 0), .val (.slice none 0 0), .val (.slice none 0 0), .val (.slice none 0 0)]])], 2⟩) (Wk.r1 [(0, 0), (1, 1)] (by simp [hP, hhOk, back, Cat.cells, Fn.cells, IA, I1, LA, L1, BA, B1, EA, E1, E2, eB, eI, eL])) ?_
 refine w_seq ?_
 refine w_run mo (by rw [hN]; decide) fun K hK => ?_
 simp [-guardE_b, -Is_at, -Is_at', -Ls_at, -Ls_at', eL, eI, allInts, eP_Cat, eP_Fn, Cat.cells, Fn.cells]
 repeat (with_reducible refine And.intro ?_ ?_; · first | assumption | omega | (simp; done) | (simp; omega) | simp_all)
 refine hK _ ?_
 clear hK K
 refine tn ?_
 refine w_weak (st' := ⟨[(1, .adr 0 0 0), (2, .adr 1 0 0), (3, .own 2 0 0), (4, .own 3 0 0)], [(0, .mix 5 [(Cat.cells true c_)]), (1, .mix 12 [[.val (.int .i64 0), .val (.slice none 0 0), .val (.slice none 0 0), .val (.slice none 0 0), .val (.slice none 0 0), .val (.int .i64 0), .val (.slice none 0 0), .val (.slice none 0 0), .val (.slice none 0 0), .val (.slice none 0 0), .val (.slice none 0 0), .val (.slice none 0 0)]]), (2, .mix 1 []), (3, .mix 1 [])], 4⟩) (Wk.r1 [(0, 0), (1, 1), (2, 2), (3, 3)] (by simp [hP, hhOk, back, Cat.cells, Fn.cells, IA, I1, LA, L1, BA, B1, EA, E1, E2, eB, eI, eL])) ?_
 refine w_seq ?_
 refine w_seq ?_
 refine w_run mo (by rw [hN]; decide) fun K hK => ?_
 simp [-guardE_b, -Is_at, -Is_at', -Ls_at, -Ls_at', eL, eI, allInts, eP_Cat, eP_Fn, Cat.cells, Fn.cells]
 repeat (with_reducible refine And.intro ?_ ?_; · first | assumption | omega | (simp; done) | (simp; omega) | simp_all)
 refine hK _ ?_
 clear hK K
 refine tn ?_
 refine w_weak (st' := ⟨[(1, .adr 0 0 0), (2, .adr 1 0 0), (3, .own 2 0 0), (4, .own 3 0 0), (5, .val (.int .i64 0))], [(0, .mix 5 [(Cat.cells true c_)]), (1, .mix 12 [[.val (.int .i64 0), .val (.slice none 0 0), .val (.slice none 0 0), .val (.slice none 0 0), .val (.slice none 0 0), .val (.int .i64 0), .val (.slice none 0 0), .val (.slice none 0 0), .val (.slice none 0 0), .val (.slice none 0 0), .val (.slice none 0 0), .val (.slice none 0 0)]]), (2, .mix 1 []), (3, .mix 1 [])], 4⟩) (Wk.r1 [(0, 0), (1, 1), (2, 2), (3, 3)] (by simp [hP, hhOk, back, Cat.cells, Fn.cells, IA, I1, LA, L1, BA, B1, EA, E1, E2, eB, eI, eL])) ?_
 replace h := bind_some h
 obtain ⟨e1, h, h1⟩ := h
 refine w_joinT (fun b1 : List Int => ⟨[(1, .adr 0 0 0), (2, .adr 1 0 0), (3, .own 2 0 b1.length), (4, .own 3 0 0)], [(0, .mix 5 [(Cat.cells true c_)]), (1, .mix 12 [[.val (.int .i64 0), .val (.slice none 0 0), .val (.slice none 0 0), .val (.slice none 0 0), .val (.slice none 0 0), .val (.int .i64 0), .val (.slice none 0 0), .val (.slice none 0 0), .val (.slice none 0 0), .val (.slice none 0 0), .val (.slice none 0 0), .val (.slice none 0 0)]]), (2, .row 1 (Is b1)), (3, .mix 1 [])], 4⟩) (fun b1 => b1 = e1) ?_ ?_
 · refine w_block ?_
   refine w_loopF h (fun s5 : List Int × Int => ⟨[(1, .adr 0 0 0), (2, .adr 1 0 0), (3, .own 2 0 s5.1.length), (4, .own 3 0 0), (5, .val (.int .i64 s5.2))], [(0, .mix 5 [(Cat.cells true c_)]), (1, .mix 12 [[.val (.int .i64 0), .val (.slice none 0 0), .val (.slice none 0 0), .val (.slice none 0 0), .val (.slice none 0 0), .val (.int .i64 0), .val (.slice none 0 0), .val (.slice none 0 0), .val (.slice none 0 0), .val (.slice none 0 0), .val (.slice none 0 0), .val (.slice none 0 0)]]), (2, .row 1 (Is s5.1)), (3, .mix 1 [])], 4⟩) (wk_tr ⟨[(1, .adr 0 0 0), (2, .adr 1 0 0), (3, .own 2 0 0), (4, .own 3 0 0), (5, .val (.int .i64 0))], [(0, .mix 5 [(Cat.cells true c_)]), (1, .mix 12 [[.val (.int .i64 0), .val (.slice none 0 0), .val (.slice none 0 0), .val (.slice none 0 0), .val (.slice none 0 0), .val (.int .i64 0), .val (.slice none 0 0), .val (.slice none 0 0), .val (.slice none 0 0), .val (.slice none 0 0), .val (.slice none 0 0), .val (.slice none 0 0)]]), (2, .row 1 (Is [])), (3, .mix 1 [])], 4⟩ (Wk.nils [] (by simp) (by simp) (by simp [nlA]) (by simp [entN, nlL, nlA, Cat.cells, Fn.cells, IA, I1, LA, L1, BA, B1, EA, E1, E2, eB, eI, eL]) (by simp)) (Wk.r1 [(0, 0), (1, 1), (2, 2), (3, 3)] (by simp [hP, hhOk, back, Cat.cells, Fn.cells, IA, I1, LA, L1, BA, B1, EA, E1, E2, eB, eI, eL]))) ?_
   clear h
   intro k5 s5 c5 h hk5
   refine w_seq ?_
   refine w_seq ?_
   refine w_run mo (by rw [hN]; decide) fun K hK => ?_
   simp [-guardE_b, -Is_at, -Is_at', -Ls_at, -Ls_at', eL, eI, allInts, eP_Cat, eP_Fn, Cat.cells, Fn.cells]
   repeat (with_reducible refine And.intro ?_ ?_; · first | assumption | omega | (simp; done) | (simp; omega) | simp_all)
   refine hK _ ?_
   clear hK K
   refine tn ?_
   refine w_weak (st' := ⟨[(1, .adr 0 0 0), (2, .adr 1 0 0), (3, .own 2 0 s5.1.length), (4, .own 3 0 0), (5, .val (.int .i64 s5.2)), (12, .val (.bool (decide (s5.2 < c_.n))))], [(0, .mix 5 [(Cat.cells true c_)]), (1, .mix 12 [[.val (.int .i64 0), .val (.slice none 0 0), .val (.slice none 0 0), .val (.slice none 0 0), .val (.slice none 0 0), .val (.int .i64 0), .val (.slice none 0 0), .val (.slice none 0 0), .val (.slice none 0 0), .val (.slice none 0 0), .val (.slice none 0 0), .val (.slice none 0 0)]]), (2, .row 1 (Is s5.1)), (3, .mix 1 [])], 4⟩) (Wk.r1 [(0, 0), (1, 1), (2, 2), (3, 3)] (by simp [hP, hhOk, back, Cat.cells, Fn.cells, IA, I1, LA, L1, BA, B1, EA, E1, E2, eB, eI, eL])) ?_
   refine w_cond rfl (fun g => ?_) fun g => ?_
   · have g6 : s5.2 < c_.n := by first | simpa using g | (simp at g; exact g) | (simp at g; omega)
     clear g
     replace h := if_l g6 h
     refine w_skip ?_
     refine tn ?_
     refine w_seq ?_
     refine w_block ?_
     refine w_run mo (by rw [hN]; decide) fun K hK => ?_
     replace h := ass_some h
     obtain ⟨a7, h⟩ := h
     try simp only [List.length_append, List.length_cons, List.length_nil] at a7
     simp [-guardE_b, -Is_at, -Is_at', -Ls_at, -Ls_at', eL, eI, allInts, eP_Cat, eP_Fn, Cat.cells, Fn.cells, a7]
     repeat (with_reducible refine And.intro ?_ ?_; · first | assumption | omega | (simp; done) | (simp; omega) | simp_all)
     refine hK _ ?_
     clear hK K
     refine bn ?_
     refine tn ?_
     refine w_weak (st' := ⟨[(1, .adr 0 0 0), (2, .adr 1 0 0), (3, .own 2 0 ((s5.1 ++ [s5.2]).length)), (4, .own 3 0 0), (5, .val (.int .i64 s5.2))], [(0, .mix 5 [(Cat.cells true c_)]), (1, .mix 12 [[.val (.int .i64 0), .val (.slice none 0 0), .val (.slice none 0 0), .val (.slice none 0 0), .val (.slice none 0 0), .val (.int .i64 0), .val (.slice none 0 0), .val (.slice none 0 0), .val (.slice none 0 0), .val (.slice none 0 0), .val (.slice none 0 0), .val (.slice none 0 0)]]), (2, .row 1 (Is (s5.1 ++ [s5.2]))), (3, .mix 1 [])], 4⟩) (Wk.r1 [(0, 0), (1, 1), (5, 2), (3, 3)] (by simp [hP, hhOk, back, Cat.cells, Fn.cells, IA, I1, LA, L1, BA, B1, EA, E1, E2, eB, eI, eL])) ?_
     refine w_run mo (by rw [hN]; decide) fun K hK => ?_
     replace h := ass_some h
     obtain ⟨a8, h⟩ := h
     simp [-guardE_b, -Is_at, -Is_at', -Ls_at, -Ls_at', eL, eI, allInts, eP_Cat, eP_Fn, Cat.cells, Fn.cells, wrap_id a8]
     repeat (with_reducible refine And.intro ?_ ?_; · first | assumption | omega | (simp; done) | (simp; omega) | simp_all)
     refine hK _ ?_
     clear hK K
     cases h
     exact rn (s' := (s5.1 ++ [s5.2], s5.2 + 1)) hk5 (Wk.r1 [(0, 0), (1, 1), (2, 2), (3, 3)] (by simp [hP, hhOk, back, Cat.cells, Fn.cells, IA, I1, LA, L1, BA, B1, EA, E1, E2, eB, eI, eL]))
   have g6 : ¬ (s5.2 < c_.n) := by first | simpa using g | (simp at g; exact g) | (simp at g; omega)
   clear g
   replace h := if_r g6 h
   refine w_exit ?_
   refine tx ?_
   refine lx ?_
   refine bh ?_
   cases h
   exact jn (b := s5.1) hk5 (Wk.r1 [(0, 0), (1, 1), (2, 2), (3, 3)] (by simp [hP, hhOk, back, Cat.cells, Fn.cells, IA, I1, LA, L1, BA, B1, EA, E1, E2, eB, eI, eL]))
 intro b1 hb1
 have h := h1
 rw [← hb1] at h
 clear h1
 try dsimp only at h
 refine w_seq ?_
 refine w_seq ?_
 refine w_run mo (by rw [hN]; decide) fun K hK => ?_
 simp [-guardE_b, -Is_at, -Is_at', -Ls_at, -Ls_at', eL, eI, allInts, eP_Cat, eP_Fn, Cat.cells, Fn.cells]
 repeat (with_reducible refine And.intro ?_ ?_; · first | assumption | omega | (simp; done) | (simp; omega) | simp_all)
 refine hK _ ?_
 clear hK K
 refine tn ?_
 refine w_weak (st' := ⟨[(1, .adr 0 0 0), (2, .adr 1 0 0), (3, .own 2 0 b1.length), (4, .own 3 0 0), (6, .val (.int .i64 0))], [(0, .mix 5 [(Cat.cells true c_)]), (1, .mix 12 [[.val (.int .i64 0), .val (.slice none 0 0), .val (.slice none 0 0), .val (.slice none 0 0), .val (.slice none 0 0), .val (.int .i64 0), .val (.slice none 0 0), .val (.slice none 0 0), .val (.slice none 0 0), .val (.slice none 0 0), .val (.slice none 0 0), .val (.slice none 0 0)]]), (2, .row 1 (Is b1)), (3, .mix 1 [])], 4⟩) (Wk.r1 [(0, 0), (1, 1), (2, 2), (3, 3)] (by simp [hP, hhOk, back, Cat.cells, Fn.cells, IA, I1, LA, L1, BA, B1, EA, E1, E2, eB, eI, eL])) ?_
 replace h := bind_some h
 obtain ⟨e9, h, h9⟩ := h
 refine w_joinT (fun b9 : List Int => ⟨[(1, .adr 0 0 0), (2, .adr 1 0 0), (3, .own 2 0 b1.length), (4, .own 3 0 b9.length)], [(0, .mix 5 [(Cat.cells true c_)]), (1, .mix 12 [[.val (.int .i64 0), .val (.slice none 0 0), .val (.slice none 0 0), .val (.slice none 0 0), .val (.slice none 0 0), .val (.int .i64 0), .val (.slice none 0 0), .val (.slice none 0 0), .val (.slice none 0 0), .val (.slice none 0 0), .val (.slice none 0 0), .val (.slice none 0 0)]]), (2, .row 1 (Is b1)), (3, .row 1 (Is b9))], 4⟩) (fun b9 => b9 = e9) ?_ ?_
 · refine w_block ?_
   refine w_loopF h (fun s13 : List Int × Int => ⟨[(1, .adr 0 0 0), (2, .adr 1 0 0), (3, .own 2 0 b1.length), (4, .own 3 0 s13.1.length), (6, .val (.int .i64 s13.2))], [(0, .mix 5 [(Cat.cells true c_)]), (1, .mix 12 [[.val (.int .i64 0), .val (.slice none 0 0), .val (.slice none 0 0), .val (.slice none 0 0), .val (.slice none 0 0), .val (.int .i64 0), .val (.slice none 0 0), .val (.slice none 0 0), .val (.slice none 0 0), .val (.slice none 0 0), .val (.slice none 0 0), .val (.slice none 0 0)]]), (2, .row 1 (Is b1)), (3, .row 1 (Is s13.1))], 4⟩) (wk_tr ⟨[(1, .adr 0 0 0), (2, .adr 1 0 0), (3, .own 2 0 b1.length), (4, .own 3 0 0), (6, .val (.int .i64 0))], [(0, .mix 5 [(Cat.cells true c_)]), (1, .mix 12 [[.val (.int .i64 0), .val (.slice none 0 0), .val (.slice none 0 0), .val (.slice none 0 0), .val (.slice none 0 0), .val (.int .i64 0), .val (.slice none 0 0), .val (.slice none 0 0), .val (.slice none 0 0), .val (.slice none 0 0), .val (.slice none 0 0), .val (.slice none 0 0)]]), (2, .row 1 (Is b1)), (3, .row 1 (Is []))], 4⟩ (Wk.nils [] (by simp) (by simp) (by simp [nlA]) (by simp [entN, nlL, nlA, Cat.cells, Fn.cells, IA, I1, LA, L1, BA, B1, EA, E1, E2, eB, eI, eL]) (by simp)) (Wk.r1 [(0, 0), (1, 1), (2, 2), (3, 3)] (by simp [hP, hhOk, back, Cat.cells, Fn.cells, IA, I1, LA, L1, BA, B1, EA, E1, E2, eB, eI, eL]))) ?_
   clear h
   intro k13 s13 c13 h hk13
   refine w_seq ?_
   refine w_seq ?_
   refine w_run mo (by rw [hN]; decide) fun K hK => ?_
   simp [-guardE_b, -Is_at, -Is_at', -Ls_at, -Ls_at', eL, eI, allInts, eP_Cat, eP_Fn, Cat.cells, Fn.cells]
   repeat (with_reducible refine And.intro ?_ ?_; · first | assumption | omega | (simp; done) | (simp; omega) | simp_all)
   refine hK _ ?_
   clear hK K
   refine tn ?_
   refine w_weak (st' := ⟨[(1, .adr 0 0 0), (2, .adr 1 0 0), (3, .own 2 0 b1.length), (4, .own 3 0 s13.1.length), (6, .val (.int .i64 s13.2)), (23, .val (.bool (decide (s13.2 < (c_.fr.length : Int)))))], [(0, .mix 5 [(Cat.cells true c_)]), (1, .mix 12 [[.val (.int .i64 0), .val (.slice none 0 0), .val (.slice none 0 0), .val (.slice none 0 0), .val (.slice none 0 0), .val (.int .i64 0), .val (.slice none 0 0), .val (.slice none 0 0), .val (.slice none 0 0), .val (.slice none 0 0), .val (.slice none 0 0), .val (.slice none 0 0)]]), (2, .row 1 (Is b1)), (3, .row 1 (Is s13.1))], 4⟩) (Wk.r1 [(0, 0), (1, 1), (2, 2), (3, 3)] (by simp [hP, hhOk, back, Cat.cells, Fn.cells, IA, I1, LA, L1, BA, B1, EA, E1, E2, eB, eI, eL])) ?_
   refine w_cond rfl (fun g => ?_) fun g => ?_
   · have g14 : s13.2 < (c_.fr.length : Int) := by first | simpa using g | (simp at g; exact g) | (simp at g; omega)
     clear g
     replace h := if_l g14 h
     refine w_skip ?_
     refine tn ?_
     refine w_seq ?_
     refine w_block ?_
     refine w_run mo (by rw [hN]; decide) fun K hK => ?_
     replace h := ass_some h
     obtain ⟨a15, h⟩ := h
     try simp only [List.length_append, List.length_cons, List.length_nil] at a15
     simp [-guardE_b, -Is_at, -Is_at', -Ls_at, -Ls_at', eL, eI, allInts, eP_Cat, eP_Fn, Cat.cells, Fn.cells, a15]
     repeat (with_reducible refine And.intro ?_ ?_; · first | assumption | omega | (simp; done) | (simp; omega) | simp_all)
     refine hK _ ?_
     clear hK K
     refine bn ?_
     refine tn ?_
     refine w_weak (st' := ⟨[(1, .adr 0 0 0), (2, .adr 1 0 0), (3, .own 2 0 b1.length), (4, .own 3 0 ((s13.1 ++ [s13.2]).length)), (6, .val (.int .i64 s13.2))], [(0, .mix 5 [(Cat.cells true c_)]), (1, .mix 12 [[.val (.int .i64 0), .val (.slice none 0 0), .val (.slice none 0 0), .val (.slice none 0 0), .val (.slice none 0 0), .val (.int .i64 0), .val (.slice none 0 0), .val (.slice none 0 0), .val (.slice none 0 0), .val (.slice none 0 0), .val (.slice none 0 0), .val (.slice none 0 0)]]), (2, .row 1 (Is b1)), (3, .row 1 (Is (s13.1 ++ [s13.2])))], 4⟩) (Wk.r1 [(0, 0), (1, 1), (2, 2), (5, 3)] (by simp [hP, hhOk, back, Cat.cells, Fn.cells, IA, I1, LA, L1, BA, B1, EA, E1, E2, eB, eI, eL])) ?_
     refine w_run mo (by rw [hN]; decide) fun K hK => ?_
     replace h := ass_some h
     obtain ⟨a16, h⟩ := h
     simp [-guardE_b, -Is_at, -Is_at', -Ls_at, -Ls_at', eL, eI, allInts, eP_Cat, eP_Fn, Cat.cells, Fn.cells, wrap_id a16]
     repeat (with_reducible refine And.intro ?_ ?_; · first | assumption | omega | (simp; done) | (simp; omega) | simp_all)
     refine hK _ ?_
     clear hK K
     cases h
     exact rn (s' := (s13.1 ++ [s13.2], s13.2 + 1)) hk13 (Wk.r1 [(0, 0), (1, 1), (2, 2), (3, 3)] (by simp [hP, hhOk, back, Cat.cells, Fn.cells, IA, I1, LA, L1, BA, B1, EA, E1, E2, eB, eI, eL]))
   have g14 : ¬ (s13.2 < (c_.fr.length : Int)) := by first | simpa using g | (simp at g; exact g) | (simp at g; omega)
   clear g
   replace h := if_r g14 h
   refine w_exit ?_
   refine tx ?_
   refine lx ?_
   refine bh ?_
   cases h
   exact jn (b := s13.1) hk13 (Wk.r1 [(0, 0), (1, 1), (2, 2), (3, 3)] (by simp [hP, hhOk, back, Cat.cells, Fn.cells, IA, I1, LA, L1, BA, B1, EA, E1, E2, eB, eI, eL]))
 intro b9 hb9
 have h := h9
 rw [← hb9] at h
 clear h9
 try dsimp only at h
 refine w_seq ?_
 refine w_run mo (by rw [hN]; decide) fun K hK => ?_
 simp [-guardE_b, -Is_at, -Is_at', -Ls_at, -Ls_at', eL, eI, allInts, eP_Cat, eP_Fn, Cat.cells, Fn.cells]
 repeat (with_reducible refine And.intro ?_ ?_; · first | assumption | omega | (simp; done) | (simp; omega) | simp_all)
 replace h := bind_some h
 obtain ⟨v17, hv17, h⟩ := h
 refine callA_intro (w_s_l06Make _ _ _ _ v17 hv17) (.cons (.aggL (.cons .val (.cons .lst (.cons .lst (.cons .lst (.cons .lst .nil)))))) (.cons (.aggL (.cons .val (.cons .lst (.cons .lst (.cons .lst (.cons .lst .nil)))))) (.cons (.whole (by simp) (by simp) (by simp)) (.cons (.whole (by simp) (by simp) (by simp)) .nil)))) ?_
 simp [-guardE_b, -Is_at, -Is_at', -Ls_at, -Ls_at', unk, unA, unE, unT, unC, flat, eL, eI, allInts, eP_Cat, eP_Fn, Cat.cells, Fn.cells]
 repeat (with_reducible refine And.intro ?_ ?_; · first | assumption | omega | (simp; done) | (simp; omega) | simp_all)
 refine hK _ ?_
 clear hK K
 refine tn ?_
 refine w_weak (st' := ⟨[(2, .adr 0 0 0)], [(0, .mix 12 [[.val (.int .i64 v17.s.n), .own 1 0 v17.s.fr.length, .own 2 0 v17.s.to.length, .own 3 0 v17.s.id.length, .own 4 0 v17.s.cs.length, .val (.int .i64 v17.t.n), .own 5 0 v17.t.fr.length, .own 6 0 v17.t.to.length, .own 7 0 v17.t.id.length, .own 8 0 v17.t.cs.length, .own 9 0 v17.ob.length, .own 10 0 v17.ar.length]]), (1, .row 1 (Is v17.s.fr)), (2, .row 1 (Is v17.s.to)), (3, .row 1 (Is v17.s.id)), (4, .row 1 (Ls v17.s.cs)), (5, .row 1 (Is v17.t.fr)), (6, .row 1 (Is v17.t.to)), (7, .row 1 (Is v17.t.id)), (8, .row 1 (Ls v17.t.cs)), (9, .row 1 (Is v17.ob)), (10, .row 1 (Is v17.ar))], 11⟩) (Wk.r1 [(1, 0), (5, 1), (6, 2), (7, 3), (8, 4), (10, 5), (11, 6), (12, 7), (13, 8), (14, 9), (15, 10)] (by simp [hP, hhOk, back, Cat.cells, Fn.cells, IA, I1, LA, L1, BA, B1, EA, E1, E2, eB, eI, eL])) ?_
 refine w_ret ?_
 have hr := Option.some.inj h
 rw [← hr]
 refine ⟨_, (.cell tf_35 rfl rfl rfl (by simp) (by simp) .nil), ?_⟩
 refine ⟨(.agg rfl .nil), [.val (.int .i64 v17.s.n), .lst true 1 (Is v17.s.fr), .lst true 1 (Is v17.s.to), .lst true 1 (Is v17.s.id), .lst true 1 (Ls v17.s.cs), .val (.int .i64 v17.t.n), .lst true 1 (Is v17.t.fr), .lst true 1 (Is v17.t.to), .lst true 1 (Is v17.t.id), .lst true 1 (Ls v17.t.cs), .lst true 1 (Is v17.ob), .lst true 1 (Is v17.ar)], [1, 2, 3, 4, 5, 6, 7, 8, 9, 10], by simp [Cat.cells, Fn.cells, IA, I1, LA, L1, BA, B1, EA, E1, E2, eB, eI, eL], by simp, (UpL.refl _)⟩
end Go.Vc.T

set_option maxRecDepth 100000
set_option linter.unusedSimpArgs false
set_option linter.unusedVariables false
namespace Go.Vc.T
open Go Go.Vc Go.Proofs
theorem ix_thenL (f g : List Int) {j : Int} (h0 : 0 ≤ j) (h1 : j < f.length) : ix (thenL f g) j = ix g (ix f j) := by
 obtain ⟨i, rfl⟩ : ∃ i : Nat, j = i := ⟨j.toNat, by omega⟩
 have hi : i < f.length := by omega
 rw [← at_ix _ _ (show i < (thenL f g).length by simpa [thenL] using hi), ← at_ix _ _ hi]
 simp [thenL]
theorem ix_iota (n : Nat) {j : Int} (h0 : 0 ≤ j) (h1 : j < n) : ix (iota n) j = j := by
 obtain ⟨i, rfl⟩ : ∃ i : Nat, j = i := ⟨j.toNat, by omega⟩
 rw [← at_ix _ _ (show i < (iota n).length by simp [iota]; omega)]
 simp [iota]
theorem set_fill {α : Type} (xs : List α) (k : Nat) (v z : α) {i : Nat} (h : i = xs.length) : (xs ++ List.replicate (k + 1) z).set i v = (xs ++ [v]) ++ List.replicate k z := by
 subst h
 simp [List.replicate_succ]
theorem mem_bnd {f : List Int} {n : Int} (h : ∀ j : Nat, j < f.length → 0 ≤ ix f j ∧ ix f j < n) : ∀ y ∈ f, 0 ≤ y ∧ y < n := by
 intro y hy
 obtain ⟨i, hi, rfl⟩ := List.getElem_of_mem hy
 rw [at_ix _ _ hi]; exact h i hi
def selfF (c : Cat) : Fn := ⟨c, c, iota c.n.toNat, iota c.fr.length⟩
def thenF (f g : Fn) : Fn := ⟨f.s, g.t, thenL f.ob g.ob, thenL f.ar g.ar⟩
theorem Cat.Is.ok {c : Cat} (h : c.Is) : c.ok := h.1.size2.1
theorem Fn.Is.lob {f : Fn} (h : f.Is) : f.ob.length ≤ 8 := by have := h.lo; have := h.s.1.n8; omega
theorem Fn.Is.lar {f : Fn} (h : f.Is) : f.ar.length ≤ 40 := by have := h.la; have := h.s.1.m40; omega
theorem e_l06Make {c d : Cat} {ob ar : List Int} (hc : c.ok) (hd : d.ok) (ho : ob.length ≤ 1048576) (ha : ar.length ≤ 1048576) : s_s_l06Make c d ob ar = some ⟨c, d, ob, ar⟩ := by
 simp [s_s_l06Make, s_s_l02Own, s_s_l01Own, hc, hd, ho, ha]
theorem e_functor {c d : Cat} {ob ar : List Int} (hc : c.ok) (hd : d.ok) (ho : ob.length ≤ 1048576) (ha : ar.length ≤ 1048576) : s_i_functor c d ob ar = some ⟨c, d, ob, ar⟩ := by
 simp [s_i_functor, s_i_Category_copy, s_i_clone, hc, hd, ho, ha]
theorem e_Fcopy {f : Fn} (h : f.Is) : s_i_Functor_copy f = some f := by
 simp only [s_i_Functor_copy, e_functor h.s.ok h.t.ok (show f.ob.length ≤ 1048576 by have := h.lob; omega) (show f.ar.length ≤ 1048576 by have := h.lar; omega), Option.bind_some]
theorem e_numbers {n : Int} (h0 : 0 ≤ n) (h1 : n ≤ 1048576) : s_i_numbers n = some (iota n.toNat) := by
 unfold s_i_numbers
 rw [ass_pos (by omega)]
 simp only [List.length_replicate]
 refine acc_bind n.toNat (fun i : Nat => iota i ++ List.replicate (n.toNat - i) 0) (e := iota n.toNat) (by simp [iota]) (by omega) (fun i hi => ?_) (by simp) (by simp)
 obtain ⟨k, hk⟩ : ∃ k, n.toNat - i = k + 1 := ⟨n.toNat - i - 1, by omega⟩
 have hl : (iota i).length = i := by simp [iota]
 have hs := set_fill (iota i) k (i : Int) 0 (i := i) (by rw [hl])
 rw [iota_succ, hk, show n.toNat - (i + 1) = k by omega, ← hs]
 simp (disch := omega) [ass_pos, B64, hl]
 omega
theorem e_identity {c : Cat} (h : c.Is) : s_i_identity c = some (selfF c) := by
 have := h.1.n0
 have := h.1.n8
 have := h.1.m40
 simp (disch := (first | exact h.ok | (simp [iota]; omega) | omega)) only [s_i_identity, s_i_Category_arrows, e_numbers, e_functor, Option.bind_some]
 simp [selfF]
theorem e_l06Self {c : Cat} (h : c.Is) : s_s_l06Self c = some (selfF c) := by
 have n0 := h.1.n0
 have n8 := h.1.n8
 have m40 := h.1.m40
 unfold s_s_l06Self
 refine acc_bind c.n.toNat (fun i : Nat => iota i) (e := iota c.n.toNat) (by simp [iota]) (by omega) (fun i hi => ?_) (by simp; omega) ?_
 · have hl : (iota i).length = i := by simp [iota]
   simp (disch := omega) [ass_pos, B64, iota_succ, hl]
   omega
 refine acc_bind c.fr.length (fun i : Nat => iota i) (e := iota c.fr.length) (by simp [iota]) (by omega) (fun i hi => ?_) (by simp) ?_
 · have hl : (iota i).length = i := by simp [iota]
   simp (disch := omega) [ass_pos, B64, iota_succ, hl]
   omega
 rw [e_l06Make h.ok h.ok (by simp [iota]; omega) (by simp [iota]; omega)]
 rfl
theorem e_l06Then {f g : Fn} (hf : f.Is) (hg : g.Is) (h : f.t = g.s) : s_s_l06Then f g = some (thenF f g) := by
 have h1 := hf.lob
 have h2 := hf.lar
 have h3 : ∀ y ∈ f.ob, 0 ≤ y ∧ y < (g.ob.length : Int) := mem_bnd (by rw [hg.lo, ← h]; exact hf.ob)
 have h4 : ∀ y ∈ f.ar, 0 ≤ y ∧ y < (g.ar.length : Int) := mem_bnd (by rw [hg.la, ← h]; exact hf.ar)
 unfold s_s_l06Then s_s_l01Then
 rw [ass_pos (by omega), ass_pos h3, ass_pos (by omega), ass_pos h4]
 simp only [Option.bind_some]
 rw [e_l06Make hf.s.ok hg.t.ok (by simp [thenL]; omega) (by simp [thenL]; omega)]
 rfl
theorem e_Fthen {f g : Fn} (hf : f.Is) (hg : g.Is) (h : f.t = g.s) : s_i_Functor_then f g = some (thenF f g) := by
 have h1 := hf.lob
 have h2 := hf.lar
 have h3 : ∀ y ∈ f.ob, 0 ≤ y ∧ y < (g.ob.length : Int) := mem_bnd (by rw [hg.lo, ← h]; exact hf.ob)
 have h4 : ∀ y ∈ f.ar, 0 ≤ y ∧ y < (g.ar.length : Int) := mem_bnd (by rw [hg.la, ← h]; exact hf.ar)
 unfold s_i_Functor_then s_i_then
 rw [ass_pos (by omega), ass_pos h3, ass_pos (by omega), ass_pos h4]
 simp only [Option.bind_some]
 rw [e_functor hf.s.ok hg.t.ok (by simp [thenL]; omega) (by simp [thenL]; omega)]
 rfl
theorem self_is {c : Cat} (h : c.Is) : (selfF c).Is := by
 have n0 := h.1.n0
 have li := h.1.li
 refine ⟨h, h, by simp [selfF, iota]; omega, by simp [selfF, iota], fun j hj => ?_, fun j hj => ?_, fun a ha => ?_, fun x hx => ?_, fun a ha b hb e => ?_⟩
 · simp only [selfF, iota, List.length_map, List.length_range] at hj ⊢
   have := ix_iota c.n.toNat (j := j) (by omega) (by omega)
   simp only [iota] at this
   rw [this]; omega
 · simp only [selfF, iota, List.length_map, List.length_range] at hj ⊢
   have := ix_iota c.fr.length (j := j) (by omega) (by omega)
   simp only [iota] at this
   rw [this]; omega
 · simp only [selfF] at ha ⊢
   have hf := h.1.frn ha
   rw [ix_iota _ (by omega) (by omega), ix_iota _ (by omega) (by omega), ix_iota _ (by omega) (by omega)]
   exact ⟨rfl, rfl⟩
 · simp only [selfF] at hx ⊢
   have hf := h.1.idn hx
   rw [ix_iota _ (by omega) (by omega), ix_iota _ (by omega) (by omega)]
 simp only [selfF] at ha hb e ⊢
 have hc := h.1.cmp (f := a) (g := b) (by omega) (by omega) (by omega) (by omega) e
 rw [ix_iota _ (by omega) (by omega), ix_iota _ (by omega) (by omega), ix_iota _ (by omega) (by omega)]
theorem then_is {f g : Fn} (hf : f.Is) (hg : g.Is) (h : f.t = g.s) : (thenF f g).Is := by
 have lo := hf.lo
 have la := hf.la
 have lg := hg.lo
 have lb := hg.la
 have hg1 := hg.s.1
 rw [← h] at lg lb hg1
 have li := hg1.li
 have ls := hf.s.1.li
 refine ⟨hf.s, hg.t, by simpa [thenF, thenL] using lo, by simpa [thenF, thenL] using la, fun j hj => ?_, fun j hj => ?_, fun a ha => ?_, fun x hx => ?_, fun a ha b hb e => ?_⟩
 · simp only [thenF, thenL, List.length_map] at hj ⊢
   have := ix_thenL f.ob g.ob (j := j) (by omega) (by omega)
   simp only [thenL] at this
   rw [this]
   have hb := hf.ob j hj
   exact ix_bnd hg.ob (by omega) (by omega)
 · simp only [thenF, thenL, List.length_map] at hj ⊢
   have := ix_thenL f.ar g.ar (j := j) (by omega) (by omega)
   simp only [thenL] at this
   rw [this]
   have hb := hf.ar j hj
   exact ix_bnd hg.ar (by omega) (by omega)
 · simp only [thenF] at ha ⊢
   have hfr := hf.s.1.frn ha
   have hb := hf.ar a (by omega)
   have he := hf.ends a ha
   rw [ix_thenL _ _ (by omega) (by omega), ix_thenL _ _ (by omega) (by omega), ix_thenL _ _ (by omega) (by omega)]
   have q := hg.ends (ix f.ar a).toNat (by rw [← h]; omega)
   rw [Int.toNat_of_nonneg (by omega), ← h] at q
   rw [q.1, q.2, he.1, he.2]
   exact ⟨rfl, rfl⟩
 · simp only [thenF] at hx ⊢
   have hid := hf.s.1.idn hx
   have hb := hf.ob x (by omega)
   rw [ix_thenL _ _ (by omega) (by omega), ix_thenL _ _ (by omega) (by omega), hf.ids x hx]
   have q := hg.ids (ix f.ob x).toNat (by rw [← h]; omega)
   rw [Int.toNat_of_nonneg (by omega), ← h] at q
   exact q
 simp only [thenF] at ha hb e ⊢
 have hc := hf.s.1.cmp (f := a) (g := b) (by omega) (by omega) (by omega) (by omega) e
 have h1 := hf.ar a (by omega)
 have h2 := hf.ar b (by omega)
 have e1 := hf.ends a ha
 have e2 := hf.ends b hb
 rw [ix_thenL _ _ (by omega) (by omega), ix_thenL _ _ (by omega) (by omega), ix_thenL _ _ (by omega) (by omega), hf.comp a ha b hb e]
 have q := hg.comp (ix f.ar a).toNat (by rw [← h]; omega) (ix f.ar b).toNat (by rw [← h]; omega)
 rw [Int.toNat_of_nonneg (by omega), Int.toNat_of_nonneg (by omega), ← h] at q
 exact q (by rw [e1.2, e2.1, e])
end Go.Vc.T

set_option maxRecDepth 100000
set_option linter.unusedSimpArgs false
set_option linter.unusedVariables false
namespace Go.Vc.T
open Go Go.Vc Go.Proofs
noncomputable def s_i_areFunctors (list_ : List Fn) : Option Bool :=
 (loopF (σ := Int) (ε := Unit ⊕ Bool) (fun s7 =>
   if s7 < (list_.length : Int) then
     ass (0 ≤ s7 ∧ s7 < (list_.length : Int)) <|
     (s_i_Functor_isFunctor (gx list_ s7)).bind fun v10 =>
     if ¬ (v10 = true) then
       some (Ctl.ret (Sum.inr false))
     else
       ass (B64 (s7 + 1)) <|
       some (Ctl.next (s7 + 1))
   else
     some (Ctl.ret (Sum.inl ()))) fuel 0).bind fun e1 =>
 match e1 with
 | .inl b1 =>
   some true
 | .inr p1 =>
   some p1
set_option maxHeartbeats 4000000 in
theorem w_i_areFunctors (list_ : List Fn) (r : Bool) (h : s_i_areFunctors list_ = some r) : Contract Try.prog 172 [.lst true 1 (Es eP_Fn list_)] (.val (.bool r)) := by
 refine contract_introG (rvs := [.tmp 2]) (rs := [.val (.bool r)]) Try.func172 rfl rfl rfl rfl (by simp [Try.f172]) fun F hN hP => ?_
 unfold s_i_areFunctors at h
 refine w_seq ?_
 refine w_run mo (by rw [hN]; decide) fun K hK => ?_
 simp [-guardE_b, -Is_at, -Is_at', -Ls_at, -Ls_at', eL, eI, allInts, eP_Fn, Fn.cells]
 repeat (with_reducible refine And.intro ?_ ?_; · first | assumption | omega | (simp; done) | (simp; omega) | simp_all)
 refine hK _ ?_
 clear hK K
 refine tn ?_
 refine w_weak (st' := ⟨[(0, .lst true 1 (Es eP_Fn list_))], [], 0⟩) (Wk.r1 [] (by simp [hP, hhOk, back, Fn.cells, IA, I1, LA, L1, BA, B1, EA, E1, E2, eB, eI, eL])) ?_
 refine w_seq ?_
 refine w_seq ?_
 refine w_run mo (by rw [hN]; decide) fun K hK => ?_
 simp [-guardE_b, -Is_at, -Is_at', -Ls_at, -Ls_at', eL, eI, allInts, eP_Fn, Fn.cells]
 repeat (with_reducible refine And.intro ?_ ?_; · first | assumption | omega | (simp; done) | (simp; omega) | simp_all)
 refine hK _ ?_
 clear hK K
 refine tn ?_
 refine w_weak (st' := ⟨[(5, .lst true 1 (Es eP_Fn list_)), (6, .val (.int .i64 (list_.length : Int))), (7, .val (.int .i64 0))], [], 0⟩) (Wk.r1 [] (by simp [hP, hhOk, back, Fn.cells, IA, I1, LA, L1, BA, B1, EA, E1, E2, eB, eI, eL])) ?_
 replace h := bind_some h
 obtain ⟨e1, h, h1⟩ := h
 refine w_joinT (fun b1 : Unit => ⟨[], [], 0⟩) (fun b1 => Sum.inl b1 = e1) ?_ ?_
 · refine w_block ?_
   refine w_loopF h (fun s7 : Int => ⟨[(5, .lst true 1 (Es eP_Fn list_)), (6, .val (.int .i64 (list_.length : Int))), (7, .val (.int .i64 s7))], [], 0⟩) (Wk.r1 [] (by simp [hP, hhOk, back, Fn.cells, IA, I1, LA, L1, BA, B1, EA, E1, E2, eB, eI, eL])) ?_
   clear h
   intro k7 s7 c7 h hk7
   refine w_seq ?_
   refine w_run mo (by rw [hN]; decide) fun K hK => ?_
   simp [-guardE_b, -Is_at, -Is_at', -Ls_at, -Ls_at', eL, eI, allInts, eP_Fn, Fn.cells]
   repeat (with_reducible refine And.intro ?_ ?_; · first | assumption | omega | (simp; done) | (simp; omega) | simp_all)
   refine hK _ ?_
   clear hK K
   refine tn ?_
   refine w_weak (st' := ⟨[(5, .lst true 1 (Es eP_Fn list_)), (6, .val (.int .i64 (list_.length : Int))), (7, .val (.int .i64 s7)), (8, .val (.bool (decide (s7 < (list_.length : Int)))))], [], 0⟩) (Wk.r1 [] (by simp [hP, hhOk, back, Fn.cells, IA, I1, LA, L1, BA, B1, EA, E1, E2, eB, eI, eL])) ?_
   refine w_seq ?_
   refine w_cond rfl (fun g => ?_) fun g => ?_
   · have g8 : s7 < (list_.length : Int) := by first | simpa using g | (simp at g; exact g) | (simp at g; omega)
     clear g
     replace h := if_l g8 h
     refine w_skip ?_
     refine tn ?_
     refine w_seq ?_
     refine w_block ?_
     refine w_seq ?_
     refine w_run mo (by rw [hN]; decide) fun K hK => ?_
     replace h := ass_some h
     obtain ⟨a9, h⟩ := h
     simp [-guardE_b, -Is_at, -Is_at', -Ls_at, -Ls_at', eL, eI, allInts, eP_Fn, Fn.cells, at_E (c := eP_Fn) a9]
     repeat (with_reducible refine And.intro ?_ ?_; · first | assumption | omega | (simp; done) | (simp; omega) | simp_all)
     refine hK _ ?_
     clear hK K
     refine tn ?_
     refine w_weak (st' := ⟨[(4, .rptr (Fn.cells true (gx list_ s7))), (5, .lst true 1 (Es eP_Fn list_)), (6, .val (.int .i64 (list_.length : Int))), (7, .val (.int .i64 s7))], [], 0⟩) (Wk.r1 [] (by simp [hP, hhOk, back, Fn.cells, IA, I1, LA, L1, BA, B1, EA, E1, E2, eB, eI, eL])) ?_
     refine w_seq ?_
     refine w_run mo (by rw [hN]; decide) fun K hK => ?_
     simp [-guardE_b, -Is_at, -Is_at', -Ls_at, -Ls_at', eL, eI, allInts, eP_Fn, Fn.cells]
     repeat (with_reducible refine And.intro ?_ ?_; · first | assumption | omega | (simp; done) | (simp; omega) | simp_all)
     replace h := bind_some h
     obtain ⟨v10, hv10, h⟩ := h
     refine callA_intro (w_i_Functor_isFunctor _ v10 hv10) (.cons (.preT (by simp [Fn.cells])) .nil) ?_
     simp [-guardE_b, -Is_at, -Is_at', -Ls_at, -Ls_at', unk, unA, unE, unT, unC, flat, eL, eI, allInts, eP_Fn, Fn.cells]
     repeat (with_reducible refine And.intro ?_ ?_; · first | assumption | omega | (simp; done) | (simp; omega) | simp_all)
     refine hK _ ?_
     clear hK K
     refine tn ?_
     refine w_weak (st' := ⟨[(5, .lst true 1 (Es eP_Fn list_)), (6, .val (.int .i64 (list_.length : Int))), (7, .val (.int .i64 s7)), (13, .val (.bool (!v10)))], [], 0⟩) (Wk.r1 [] (by simp [hP, hhOk, back, Fn.cells, IA, I1, LA, L1, BA, B1, EA, E1, E2, eB, eI, eL])) ?_
     refine w_cond rfl (fun g => ?_) fun g => ?_
     · have g11 : ¬ (v10 = true) := by first | simpa using g | (simp at g; exact g) | (simp at g; omega)
       clear g
       replace h := if_l g11 h
       refine w_seq ?_
       refine w_run mo (by rw [hN]; decide) fun K hK => ?_
       simp [-guardE_b, -Is_at, -Is_at', -Ls_at, -Ls_at', eL, eI, allInts, eP_Fn, Fn.cells]
       repeat (with_reducible refine And.intro ?_ ?_; · first | assumption | omega | (simp; done) | (simp; omega) | simp_all)
       refine hK _ ?_
       clear hK K
       refine tn ?_
       refine w_weak (st' := ⟨[(2, .val (.bool false))], [], 0⟩) (Wk.r1 [] (by simp [hP, hhOk, back, Fn.cells, IA, I1, LA, L1, BA, B1, EA, E1, E2, eB, eI, eL])) ?_
       refine w_ret ?_
       refine br ?_
       refine tr ?_
       refine lr ?_
       refine br ?_
       refine tr ?_
       cases h
       have q : _ = e1 := hk7
       have h := h1
       rw [← q] at h
       clear q
       try dsimp only at h
       have hr := Option.some.inj h
       rw [← hr]
       refine ⟨_, (.tmp .nil), ?_⟩
       refine ⟨(.one rfl rfl .nil), [.val (.bool false)], [], by simp [Fn.cells, IA, I1, LA, L1, BA, B1, EA, E1, E2, eB, eI, eL], by simp, (UpL.refl _)⟩
     have g11 : ¬ (¬ (v10 = true)) := by first | simpa using g | (simp at g; exact g) | (simp at g; omega)
     clear g
     replace h := if_r g11 h
     refine w_skip ?_
     refine bn ?_
     refine tn ?_
     refine w_run mo (by rw [hN]; decide) fun K hK => ?_
     replace h := ass_some h
     obtain ⟨a12, h⟩ := h
     simp [-guardE_b, -Is_at, -Is_at', -Ls_at, -Ls_at', eL, eI, allInts, eP_Fn, Fn.cells, wrap_id a12]
     repeat (with_reducible refine And.intro ?_ ?_; · first | assumption | omega | (simp; done) | (simp; omega) | simp_all)
     refine hK _ ?_
     clear hK K
     cases h
     exact rn (s' := s7 + 1) hk7 (Wk.r1 [] (by simp [hP, hhOk, back, Fn.cells, IA, I1, LA, L1, BA, B1, EA, E1, E2, eB, eI, eL]))
   have g8 : ¬ (s7 < (list_.length : Int)) := by first | simpa using g | (simp at g; exact g) | (simp at g; omega)
   clear g
   replace h := if_r g8 h
   refine w_exit ?_
   refine tx ?_
   refine lx ?_
   refine bh ?_
   cases h
   exact jn (b := ()) hk7 (Wk.r1 [] (by simp [hP, hhOk, back, Fn.cells, IA, I1, LA, L1, BA, B1, EA, E1, E2, eB, eI, eL]))
 intro b1 hb1
 have h := h1
 rw [← hb1] at h
 clear h1
 try dsimp only at h
 refine w_seq ?_
 refine w_run mo (by rw [hN]; decide) fun K hK => ?_
 simp [-guardE_b, -Is_at, -Is_at', -Ls_at, -Ls_at', eL, eI, allInts, eP_Fn, Fn.cells]
 repeat (with_reducible refine And.intro ?_ ?_; · first | assumption | omega | (simp; done) | (simp; omega) | simp_all)
 refine hK _ ?_
 clear hK K
 refine tn ?_
 refine w_weak (st' := ⟨[(2, .val (.bool true))], [], 0⟩) (Wk.r1 [] (by simp [hP, hhOk, back, Fn.cells, IA, I1, LA, L1, BA, B1, EA, E1, E2, eB, eI, eL])) ?_
 refine w_ret ?_
 have hr := Option.some.inj h
 rw [← hr]
 refine ⟨_, (.tmp .nil), ?_⟩
 refine ⟨(.one rfl rfl .nil), [.val (.bool true)], [], by simp [Fn.cells, IA, I1, LA, L1, BA, B1, EA, E1, E2, eB, eI, eL], by simp, (UpL.refl _)⟩
end Go.Vc.T

set_option maxRecDepth 100000
set_option linter.unusedSimpArgs false
set_option linter.unusedVariables false
namespace Go.Vc.T
open Go Go.Vc Go.Proofs
noncomputable def s_i_Transformation_isShape (t_ : Tra) : Option Bool :=
 (
   (s_i_areFunctors [t_.s, t_.t]).bind fun v2 =>
   if ¬ (v2 = true) then
     some true
   else
     (s_i_parallelFunctors t_.s t_.t).bind fun v4 =>
     if ¬ (v4 = true) then
       some true
     else
       if ¬ ((t_.p.length : Int) = t_.s.s.n) then
         some true
       else
         (s_i_Category_arrows t_.s.t).bind fun v7 =>
         (s_i_within t_.p v7).bind fun v8 =>
         some (!v8) : Option (Bool)).bind fun b1 =>
 if b1 = true then
   some false
 else
   (loopF (σ := Int) (ε := Unit ⊕ Bool) (fun s18 =>
     if s18 < (t_.p.length : Int) then
       ass (0 ≤ s18 ∧ s18 < (t_.p.length : Int)) <|
       (s_i_Category_ends t_.s.t (ix t_.p s18)).bind fun v21 =>
       ass (0 ≤ s18 ∧ s18 < (t_.s.ob.length : Int)) <|
       ass (0 ≤ s18 ∧ s18 < (t_.t.ob.length : Int)) <|
       if ¬ (v21.a = ix t_.s.ob s18 ∧ v21.b = ix t_.t.ob s18) then
         some (Ctl.ret (Sum.inr false))
       else
         ass (B64 (s18 + 1)) <|
         some (Ctl.next (s18 + 1))
     else
       some (Ctl.ret (Sum.inl ()))) fuel 0).bind fun e10 =>
   match e10 with
   | .inl b10 =>
     some true
   | .inr p10 =>
     some p10
set_option maxHeartbeats 4000000 in
theorem w_i_Transformation_isShape (t_ : Tra) (r : Bool) (h : s_i_Transformation_isShape t_ = some r) : Contract Try.prog 184 [.rptr (t_.cells true)] (.val (.bool r)) := by
 refine contract_introG (rvs := [.tmp 2]) (rs := [.val (.bool r)]) Try.func184 rfl rfl rfl rfl (by simp [Try.f184]) fun F hN hP => ?_
 unfold s_i_Transformation_isShape at h
 refine w_seq ?_
 refine w_run mo (by rw [hN]; decide) fun K hK => ?_
 simp [-guardE_b, -Is_at, -Is_at', -Ls_at, -Ls_at', eL, eI, allInts, eP_Cat, eP_Ends, eP_Fn, eP_Tra, Cat.cells, Ends.cells, Fn.cells, Tra.cells]
 repeat (with_reducible refine And.intro ?_ ?_; · first | assumption | omega | (simp; done) | (simp; omega) | simp_all)
 refine hK _ ?_
 clear hK K
 refine tn ?_
 refine w_weak (st' := ⟨[(0, .rptr (Tra.cells true t_))], [], 0⟩) (Wk.r1 [] (by simp [hP, hhOk, back, Cat.cells, Ends.cells, Fn.cells, Tra.cells, IA, I1, LA, L1, BA, B1, EA, E1, E2, eB, eI, eL])) ?_
 refine w_seq ?_
 refine w_run mo (by rw [hN]; decide) fun K hK => ?_
 simp [-guardE_b, -Is_at, -Is_at', -Ls_at, -Ls_at', eL, eI, allInts, eP_Cat, eP_Ends, eP_Fn, eP_Tra, Cat.cells, Ends.cells, Fn.cells, Tra.cells]
 repeat (with_reducible refine And.intro ?_ ?_; · first | assumption | omega | (simp; done) | (simp; omega) | simp_all)
 refine hK _ ?_
 clear hK K
 refine tn ?_
 refine w_weak (st' := ⟨[(0, .rptr (Tra.cells true t_)), (3, .rptr (Tra.cells true t_)), (4, .rptr [.val (.int .i64 t_.t.s.n), .lst true 1 (Is t_.t.s.fr), .lst true 1 (Is t_.t.s.to), .lst true 1 (Is t_.t.s.id), .lst true 1 (Ls t_.t.s.cs), .val (.int .i64 t_.t.t.n), .lst true 1 (Is t_.t.t.fr), .lst true 1 (Is t_.t.t.to), .lst true 1 (Is t_.t.t.id), .lst true 1 (Ls t_.t.t.cs), .lst true 1 (Is t_.t.ob), .lst true 1 (Is t_.t.ar), .lst true 1 (Is t_.p)])], [], 0⟩) (Wk.r1 [] (by simp [hP, hhOk, back, Cat.cells, Ends.cells, Fn.cells, Tra.cells, IA, I1, LA, L1, BA, B1, EA, E1, E2, eB, eI, eL])) ?_
 refine w_seq ?_
 refine w_seq ?_
 replace h := bind_some h
 obtain ⟨e1, h, h1⟩ := h
 refine w_joinT (fun b1 : Bool => ⟨[(0, .rptr (Tra.cells true t_)), (3, .rptr (Tra.cells true t_)), (4, .rptr [.val (.int .i64 t_.t.s.n), .lst true 1 (Is t_.t.s.fr), .lst true 1 (Is t_.t.s.to), .lst true 1 (Is t_.t.s.id), .lst true 1 (Ls t_.t.s.cs), .val (.int .i64 t_.t.t.n), .lst true 1 (Is t_.t.t.fr), .lst true 1 (Is t_.t.t.to), .lst true 1 (Is t_.t.t.id), .lst true 1 (Ls t_.t.t.cs), .lst true 1 (Is t_.t.ob), .lst true 1 (Is t_.t.ar), .lst true 1 (Is t_.p)]), (48, .val (.bool b1))], [], 0⟩) (fun b1 => b1 = e1) ?_ ?_
 · refine w_run mo (by rw [hN]; decide) fun K hK => ?_
   simp [-guardE_b, -Is_at, -Is_at', -Ls_at, -Ls_at', eL, eI, allInts, eP_Cat, eP_Ends, eP_Fn, eP_Tra, Cat.cells, Ends.cells, Fn.cells, Tra.cells]
   repeat (with_reducible refine And.intro ?_ ?_; · first | assumption | omega | (simp; done) | (simp; omega) | simp_all)
   replace h := bind_some h
   obtain ⟨v2, hv2, h⟩ := h
   refine callA_intro (w_i_areFunctors _ v2 hv2) (.cons (.lits (es := _) rfl (.cons rfl (.cons (.preT (by simp [Fn.cells, Tra.cells])) .nil) (.cons rfl (.cons (.preT (by simp [Fn.cells, Tra.cells])) .nil) .nil)) rfl) .nil) ?_
   simp [-guardE_b, -Is_at, -Is_at', -Ls_at, -Ls_at', unk, unA, unE, unT, unC, flat, eL, eI, allInts, eP_Cat, eP_Ends, eP_Fn, eP_Tra, Cat.cells, Ends.cells, Fn.cells, Tra.cells]
   repeat (with_reducible refine And.intro ?_ ?_; · first | assumption | omega | (simp; done) | (simp; omega) | simp_all)
   refine guard_intro (fun g => ?_) (fun g => ?_)
   · have g3 : ¬ (¬ (v2 = true)) := by first | simpa using g | (simp at g; exact g) | (simp at g; omega)
     clear g
     replace h := if_r g3 h
     simp [-guardE_b, -Is_at, -Is_at', -Ls_at, -Ls_at', eL, eI, allInts, eP_Cat, eP_Ends, eP_Fn, eP_Tra, Cat.cells, Ends.cells, Fn.cells, Tra.cells]
     repeat (with_reducible refine And.intro ?_ ?_; · first | assumption | omega | (simp; done) | (simp; omega) | simp_all)
     replace h := bind_some h
     obtain ⟨v4, hv4, h⟩ := h
     refine callA_intro (w_i_parallelFunctors _ _ v4 hv4) (.cons (.preT (by simp [Fn.cells, Tra.cells])) (.cons (.preT (by simp [Fn.cells, Tra.cells])) .nil)) ?_
     simp [-guardE_b, -Is_at, -Is_at', -Ls_at, -Ls_at', unk, unA, unE, unT, unC, flat, eL, eI, allInts, eP_Cat, eP_Ends, eP_Fn, eP_Tra, Cat.cells, Ends.cells, Fn.cells, Tra.cells]
     repeat (with_reducible refine And.intro ?_ ?_; · first | assumption | omega | (simp; done) | (simp; omega) | simp_all)
     refine guard_intro (fun g => ?_) (fun g => ?_)
     · have g5 : ¬ (¬ (v4 = true)) := by first | simpa using g | (simp at g; exact g) | (simp at g; omega)
       clear g
       replace h := if_r g5 h
       simp [-guardE_b, -Is_at, -Is_at', -Ls_at, -Ls_at', eL, eI, allInts, eP_Cat, eP_Ends, eP_Fn, eP_Tra, Cat.cells, Ends.cells, Fn.cells, Tra.cells]
       repeat (with_reducible refine And.intro ?_ ?_; · first | assumption | omega | (simp; done) | (simp; omega) | simp_all)
       refine guard_intro (fun g => ?_) (fun g => ?_)
       · have g6 : ¬ (¬ ((t_.p.length : Int) = t_.s.s.n)) := by first | simpa using g | (simp at g; exact g) | (simp at g; omega)
         clear g
         replace h := if_r g6 h
         simp [-guardE_b, -Is_at, -Is_at', -Ls_at, -Ls_at', eL, eI, allInts, eP_Cat, eP_Ends, eP_Fn, eP_Tra, Cat.cells, Ends.cells, Fn.cells, Tra.cells]
         repeat (with_reducible refine And.intro ?_ ?_; · first | assumption | omega | (simp; done) | (simp; omega) | simp_all)
         replace h := bind_some h
         obtain ⟨v7, hv7, h⟩ := h
         refine callA_intro (w_i_Category_arrows _ v7 hv7) (.cons (.preT (by simp [Cat.cells, Fn.cells, Tra.cells])) .nil) ?_
         simp [-guardE_b, -Is_at, -Is_at', -Ls_at, -Ls_at', unk, unA, unE, unT, unC, flat, eL, eI, allInts, eP_Cat, eP_Ends, eP_Fn, eP_Tra, Cat.cells, Ends.cells, Fn.cells, Tra.cells]
         repeat (with_reducible refine And.intro ?_ ?_; · first | assumption | omega | (simp; done) | (simp; omega) | simp_all)
         replace h := bind_some h
         obtain ⟨v8, hv8, h⟩ := h
         refine callA_intro (w_i_within _ _ v8 hv8) (.cons .lst (.cons .val .nil)) ?_
         simp [-guardE_b, -Is_at, -Is_at', -Ls_at, -Ls_at', unk, unA, unE, unT, unC, flat, eL, eI, allInts, eP_Cat, eP_Ends, eP_Fn, eP_Tra, Cat.cells, Ends.cells, Fn.cells, Tra.cells]
         repeat (with_reducible refine And.intro ?_ ?_; · first | assumption | omega | (simp; done) | (simp; omega) | simp_all)
         refine hK _ ?_
         exact jn (b := !v8) (Option.some.inj h) (Wk.r1 [] (by simp [hP, hhOk, back, Cat.cells, Ends.cells, Fn.cells, Tra.cells, IA, I1, LA, L1, BA, B1, EA, E1, E2, eB, eI, eL]))
       have g6 : ¬ ((t_.p.length : Int) = t_.s.s.n) := by first | simpa using g | (simp at g; exact g) | (simp at g; omega)
       clear g
       replace h := if_l g6 h
       simp [-guardE_b, -Is_at, -Is_at', -Ls_at, -Ls_at', eL, eI, allInts, eP_Cat, eP_Ends, eP_Fn, eP_Tra, Cat.cells, Ends.cells, Fn.cells, Tra.cells]
       repeat (with_reducible refine And.intro ?_ ?_; · first | assumption | omega | (simp; done) | (simp; omega) | simp_all)
       refine hK _ ?_
       exact jn (b := true) (Option.some.inj h) (Wk.r1 [] (by simp [hP, hhOk, back, Cat.cells, Ends.cells, Fn.cells, Tra.cells, IA, I1, LA, L1, BA, B1, EA, E1, E2, eB, eI, eL]))
     have g5 : ¬ (v4 = true) := by first | simpa using g | (simp at g; exact g) | (simp at g; omega)
     clear g
     replace h := if_l g5 h
     simp [-guardE_b, -Is_at, -Is_at', -Ls_at, -Ls_at', eL, eI, allInts, eP_Cat, eP_Ends, eP_Fn, eP_Tra, Cat.cells, Ends.cells, Fn.cells, Tra.cells]
     repeat (with_reducible refine And.intro ?_ ?_; · first | assumption | omega | (simp; done) | (simp; omega) | simp_all)
     refine hK _ ?_
     exact jn (b := true) (Option.some.inj h) (Wk.r1 [] (by simp [hP, hhOk, back, Cat.cells, Ends.cells, Fn.cells, Tra.cells, IA, I1, LA, L1, BA, B1, EA, E1, E2, eB, eI, eL]))
   have g3 : ¬ (v2 = true) := by first | simpa using g | (simp at g; exact g) | (simp at g; omega)
   clear g
   replace h := if_l g3 h
   simp [-guardE_b, -Is_at, -Is_at', -Ls_at, -Ls_at', eL, eI, allInts, eP_Cat, eP_Ends, eP_Fn, eP_Tra, Cat.cells, Ends.cells, Fn.cells, Tra.cells]
   repeat (with_reducible refine And.intro ?_ ?_; · first | assumption | omega | (simp; done) | (simp; omega) | simp_all)
   refine hK _ ?_
   exact jn (b := true) (Option.some.inj h) (Wk.r1 [] (by simp [hP, hhOk, back, Cat.cells, Ends.cells, Fn.cells, Tra.cells, IA, I1, LA, L1, BA, B1, EA, E1, E2, eB, eI, eL]))
 intro b1 hb1
 have h := h1
 rw [← hb1] at h
 clear h1
 try dsimp only at h
 refine w_cond rfl (fun g => ?_) fun g => ?_
 · have g9 : b1 = true := by first | simpa using g | (simp at g; exact g) | (simp at g; omega)
   clear g
   replace h := if_l g9 h
   refine w_seq ?_
   refine w_run mo (by rw [hN]; decide) fun K hK => ?_
   simp [-guardE_b, -Is_at, -Is_at', -Ls_at, -Ls_at', eL, eI, allInts, eP_Cat, eP_Ends, eP_Fn, eP_Tra, Cat.cells, Ends.cells, Fn.cells, Tra.cells]
   repeat (with_reducible refine And.intro ?_ ?_; · first | assumption | omega | (simp; done) | (simp; omega) | simp_all)
   refine hK _ ?_
   clear hK K
   refine tn ?_
   refine w_weak (st' := ⟨[(2, .val (.bool false))], [], 0⟩) (Wk.r1 [] (by simp [hP, hhOk, back, Cat.cells, Ends.cells, Fn.cells, Tra.cells, IA, I1, LA, L1, BA, B1, EA, E1, E2, eB, eI, eL])) ?_
   refine w_ret ?_
   refine tr ?_
   have hr := Option.some.inj h
   rw [← hr]
   refine ⟨_, (.tmp .nil), ?_⟩
   refine ⟨(.one rfl rfl .nil), [.val (.bool false)], [], by simp [Cat.cells, Ends.cells, Fn.cells, Tra.cells, IA, I1, LA, L1, BA, B1, EA, E1, E2, eB, eI, eL], by simp, (UpL.refl _)⟩
 have g9 : ¬ (b1 = true) := by first | simpa using g | (simp at g; exact g) | (simp at g; omega)
 clear g
 replace h := if_r g9 h
 refine w_skip ?_
 refine tn ?_
 refine w_seq ?_
 refine w_seq ?_
 refine w_run mo (by rw [hN]; decide) fun K hK => ?_
 simp [-guardE_b, -Is_at, -Is_at', -Ls_at, -Ls_at', eL, eI, allInts, eP_Cat, eP_Ends, eP_Fn, eP_Tra, Cat.cells, Ends.cells, Fn.cells, Tra.cells]
 repeat (with_reducible refine And.intro ?_ ?_; · first | assumption | omega | (simp; done) | (simp; omega) | simp_all)
 refine hK _ ?_
 clear hK K
 refine tn ?_
 refine w_weak (st' := ⟨[(3, .rptr (Tra.cells true t_)), (4, .rptr [.val (.int .i64 t_.t.s.n), .lst true 1 (Is t_.t.s.fr), .lst true 1 (Is t_.t.s.to), .lst true 1 (Is t_.t.s.id), .lst true 1 (Ls t_.t.s.cs), .val (.int .i64 t_.t.t.n), .lst true 1 (Is t_.t.t.fr), .lst true 1 (Is t_.t.t.to), .lst true 1 (Is t_.t.t.id), .lst true 1 (Ls t_.t.t.cs), .lst true 1 (Is t_.t.ob), .lst true 1 (Is t_.t.ar), .lst true 1 (Is t_.p)]), (52, .lst true 1 (Is t_.p)), (53, .val (.int .i64 (t_.p.length : Int))), (54, .val (.int .i64 0))], [], 0⟩) (Wk.r1 [] (by simp [hP, hhOk, back, Cat.cells, Ends.cells, Fn.cells, Tra.cells, IA, I1, LA, L1, BA, B1, EA, E1, E2, eB, eI, eL])) ?_
 replace h := bind_some h
 obtain ⟨e10, h, h10⟩ := h
 refine w_joinT (fun b10 : Unit => ⟨[], [], 0⟩) (fun b10 => Sum.inl b10 = e10) ?_ ?_
 · refine w_block ?_
   refine w_loopF h (fun s18 : Int => ⟨[(3, .rptr (Tra.cells true t_)), (4, .rptr [.val (.int .i64 t_.t.s.n), .lst true 1 (Is t_.t.s.fr), .lst true 1 (Is t_.t.s.to), .lst true 1 (Is t_.t.s.id), .lst true 1 (Ls t_.t.s.cs), .val (.int .i64 t_.t.t.n), .lst true 1 (Is t_.t.t.fr), .lst true 1 (Is t_.t.t.to), .lst true 1 (Is t_.t.t.id), .lst true 1 (Ls t_.t.t.cs), .lst true 1 (Is t_.t.ob), .lst true 1 (Is t_.t.ar), .lst true 1 (Is t_.p)]), (52, .lst true 1 (Is t_.p)), (53, .val (.int .i64 (t_.p.length : Int))), (54, .val (.int .i64 s18))], [], 0⟩) (Wk.r1 [] (by simp [hP, hhOk, back, Cat.cells, Ends.cells, Fn.cells, Tra.cells, IA, I1, LA, L1, BA, B1, EA, E1, E2, eB, eI, eL])) ?_
   clear h
   intro k18 s18 c18 h hk18
   refine w_seq ?_
   refine w_run mo (by rw [hN]; decide) fun K hK => ?_
   simp [-guardE_b, -Is_at, -Is_at', -Ls_at, -Ls_at', eL, eI, allInts, eP_Cat, eP_Ends, eP_Fn, eP_Tra, Cat.cells, Ends.cells, Fn.cells, Tra.cells]
   repeat (with_reducible refine And.intro ?_ ?_; · first | assumption | omega | (simp; done) | (simp; omega) | simp_all)
   refine hK _ ?_
   clear hK K
   refine tn ?_
   refine w_weak (st' := ⟨[(3, .rptr (Tra.cells true t_)), (4, .rptr [.val (.int .i64 t_.t.s.n), .lst true 1 (Is t_.t.s.fr), .lst true 1 (Is t_.t.s.to), .lst true 1 (Is t_.t.s.id), .lst true 1 (Ls t_.t.s.cs), .val (.int .i64 t_.t.t.n), .lst true 1 (Is t_.t.t.fr), .lst true 1 (Is t_.t.t.to), .lst true 1 (Is t_.t.t.id), .lst true 1 (Ls t_.t.t.cs), .lst true 1 (Is t_.t.ob), .lst true 1 (Is t_.t.ar), .lst true 1 (Is t_.p)]), (52, .lst true 1 (Is t_.p)), (53, .val (.int .i64 (t_.p.length : Int))), (54, .val (.int .i64 s18)), (55, .val (.bool (decide (s18 < (t_.p.length : Int)))))], [], 0⟩) (Wk.r1 [] (by simp [hP, hhOk, back, Cat.cells, Ends.cells, Fn.cells, Tra.cells, IA, I1, LA, L1, BA, B1, EA, E1, E2, eB, eI, eL])) ?_
   refine w_seq ?_
   refine w_cond rfl (fun g => ?_) fun g => ?_
   · have g19 : s18 < (t_.p.length : Int) := by first | simpa using g | (simp at g; exact g) | (simp at g; omega)
     clear g
     replace h := if_l g19 h
     refine w_skip ?_
     refine tn ?_
     refine w_seq ?_
     refine w_block ?_
     refine w_seq ?_
     refine w_run mo (by rw [hN]; decide) fun K hK => ?_
     replace h := ass_some h
     obtain ⟨a20, h⟩ := h
     simp [-guardE_b, -Is_at, -Is_at', -Ls_at, -Ls_at', eL, eI, allInts, eP_Cat, eP_Ends, eP_Fn, eP_Tra, Cat.cells, Ends.cells, Fn.cells, Tra.cells, at_I a20]
     repeat (with_reducible refine And.intro ?_ ?_; · first | assumption | omega | (simp; done) | (simp; omega) | simp_all)
     refine hK _ ?_
     clear hK K
     refine tn ?_
     refine w_weak (st' := ⟨[(3, .rptr (Tra.cells true t_)), (4, .rptr [.val (.int .i64 t_.t.s.n), .lst true 1 (Is t_.t.s.fr), .lst true 1 (Is t_.t.s.to), .lst true 1 (Is t_.t.s.id), .lst true 1 (Ls t_.t.s.cs), .val (.int .i64 t_.t.t.n), .lst true 1 (Is t_.t.t.fr), .lst true 1 (Is t_.t.t.to), .lst true 1 (Is t_.t.t.id), .lst true 1 (Ls t_.t.t.cs), .lst true 1 (Is t_.t.ob), .lst true 1 (Is t_.t.ar), .lst true 1 (Is t_.p)]), (5, .val (.int .i64 s18)), (6, .val (.int .i64 (ix t_.p s18))), (52, .lst true 1 (Is t_.p)), (53, .val (.int .i64 (t_.p.length : Int))), (54, .val (.int .i64 s18))], [], 0⟩) (Wk.r1 [] (by simp [hP, hhOk, back, Cat.cells, Ends.cells, Fn.cells, Tra.cells, IA, I1, LA, L1, BA, B1, EA, E1, E2, eB, eI, eL])) ?_
     refine w_seq ?_
     refine w_run mo (by rw [hN]; decide) fun K hK => ?_
     simp [-guardE_b, -Is_at, -Is_at', -Ls_at, -Ls_at', eL, eI, allInts, eP_Cat, eP_Ends, eP_Fn, eP_Tra, Cat.cells, Ends.cells, Fn.cells, Tra.cells]
     repeat (with_reducible refine And.intro ?_ ?_; · first | assumption | omega | (simp; done) | (simp; omega) | simp_all)
     replace h := bind_some h
     obtain ⟨v21, hv21, h⟩ := h
     refine callA_intro (w_i_Category_ends _ _ v21 hv21) (.cons (.preT (by simp [Cat.cells, Ends.cells, Fn.cells, Tra.cells])) (.cons .val .nil)) ?_
     replace h := ass_some h
     obtain ⟨a22, h⟩ := h
     replace h := ass_some h
     obtain ⟨a23, h⟩ := h
     simp [-guardE_b, -Is_at, -Is_at', -Ls_at, -Ls_at', unk, unA, unE, unT, unC, flat, eL, eI, allInts, eP_Cat, eP_Ends, eP_Fn, eP_Tra, Cat.cells, Ends.cells, Fn.cells, Tra.cells, at_I a22, at_I a23]
     repeat (with_reducible refine And.intro ?_ ?_; · first | assumption | omega | (simp; done) | (simp; omega) | simp_all)
     refine hK _ ?_
     clear hK K
     refine tn ?_
     refine w_weak (st' := ⟨[(3, .rptr (Tra.cells true t_)), (4, .rptr [.val (.int .i64 t_.t.s.n), .lst true 1 (Is t_.t.s.fr), .lst true 1 (Is t_.t.s.to), .lst true 1 (Is t_.t.s.id), .lst true 1 (Ls t_.t.s.cs), .val (.int .i64 t_.t.t.n), .lst true 1 (Is t_.t.t.fr), .lst true 1 (Is t_.t.t.to), .lst true 1 (Is t_.t.t.id), .lst true 1 (Ls t_.t.t.cs), .lst true 1 (Is t_.t.ob), .lst true 1 (Is t_.t.ar), .lst true 1 (Is t_.p)]), (52, .lst true 1 (Is t_.p)), (53, .val (.int .i64 (t_.p.length : Int))), (54, .val (.int .i64 s18)), (79, .val (.bool (!([v21.a, v21.b] == [ix t_.s.ob s18, ix t_.t.ob s18]))))], [], 0⟩) (Wk.r1 [] (by simp [hP, hhOk, back, Cat.cells, Ends.cells, Fn.cells, Tra.cells, IA, I1, LA, L1, BA, B1, EA, E1, E2, eB, eI, eL])) ?_
     refine w_cond rfl (fun g => ?_) fun g => ?_
     · have g24 : ¬ (v21.a = ix t_.s.ob s18 ∧ v21.b = ix t_.t.ob s18) := by first | simpa using g | (simp at g; exact g) | (simp at g; omega)
       clear g
       replace h := if_l g24 h
       refine w_seq ?_
       refine w_run mo (by rw [hN]; decide) fun K hK => ?_
       simp [-guardE_b, -Is_at, -Is_at', -Ls_at, -Ls_at', eL, eI, allInts, eP_Cat, eP_Ends, eP_Fn, eP_Tra, Cat.cells, Ends.cells, Fn.cells, Tra.cells]
       repeat (with_reducible refine And.intro ?_ ?_; · first | assumption | omega | (simp; done) | (simp; omega) | simp_all)
       refine hK _ ?_
       clear hK K
       refine tn ?_
       refine w_weak (st' := ⟨[(2, .val (.bool false))], [], 0⟩) (Wk.r1 [] (by simp [hP, hhOk, back, Cat.cells, Ends.cells, Fn.cells, Tra.cells, IA, I1, LA, L1, BA, B1, EA, E1, E2, eB, eI, eL])) ?_
       refine w_ret ?_
       refine br ?_
       refine tr ?_
       refine lr ?_
       refine br ?_
       refine tr ?_
       cases h
       have q : _ = e10 := hk18
       have h := h10
       rw [← q] at h
       clear q
       try dsimp only at h
       have hr := Option.some.inj h
       rw [← hr]
       refine ⟨_, (.tmp .nil), ?_⟩
       refine ⟨(.one rfl rfl .nil), [.val (.bool false)], [], by simp [Cat.cells, Ends.cells, Fn.cells, Tra.cells, IA, I1, LA, L1, BA, B1, EA, E1, E2, eB, eI, eL], by simp, (UpL.refl _)⟩
     have g24 : ¬ (¬ (v21.a = ix t_.s.ob s18 ∧ v21.b = ix t_.t.ob s18)) := by first | simpa using g | (simp at g; exact g) | (simp at g; omega)
     clear g
     replace h := if_r g24 h
     refine w_skip ?_
     refine bn ?_
     refine tn ?_
     refine w_run mo (by rw [hN]; decide) fun K hK => ?_
     replace h := ass_some h
     obtain ⟨a25, h⟩ := h
     simp [-guardE_b, -Is_at, -Is_at', -Ls_at, -Ls_at', eL, eI, allInts, eP_Cat, eP_Ends, eP_Fn, eP_Tra, Cat.cells, Ends.cells, Fn.cells, Tra.cells, wrap_id a25]
     repeat (with_reducible refine And.intro ?_ ?_; · first | assumption | omega | (simp; done) | (simp; omega) | simp_all)
     refine hK _ ?_
     clear hK K
     cases h
     exact rn (s' := s18 + 1) hk18 (Wk.r1 [] (by simp [hP, hhOk, back, Cat.cells, Ends.cells, Fn.cells, Tra.cells, IA, I1, LA, L1, BA, B1, EA, E1, E2, eB, eI, eL]))
   have g19 : ¬ (s18 < (t_.p.length : Int)) := by first | simpa using g | (simp at g; exact g) | (simp at g; omega)
   clear g
   replace h := if_r g19 h
   refine w_exit ?_
   refine tx ?_
   refine lx ?_
   refine bh ?_
   cases h
   exact jn (b := ()) hk18 (Wk.r1 [] (by simp [hP, hhOk, back, Cat.cells, Ends.cells, Fn.cells, Tra.cells, IA, I1, LA, L1, BA, B1, EA, E1, E2, eB, eI, eL]))
 intro b10 hb10
 have h := h10
 rw [← hb10] at h
 clear h10
 try dsimp only at h
 refine w_seq ?_
 refine w_run mo (by rw [hN]; decide) fun K hK => ?_
 simp [-guardE_b, -Is_at, -Is_at', -Ls_at, -Ls_at', eL, eI, allInts, eP_Cat, eP_Ends, eP_Fn, eP_Tra, Cat.cells, Ends.cells, Fn.cells, Tra.cells]
 repeat (with_reducible refine And.intro ?_ ?_; · first | assumption | omega | (simp; done) | (simp; omega) | simp_all)
 refine hK _ ?_
 clear hK K
 refine tn ?_
 refine w_weak (st' := ⟨[(2, .val (.bool true))], [], 0⟩) (Wk.r1 [] (by simp [hP, hhOk, back, Cat.cells, Ends.cells, Fn.cells, Tra.cells, IA, I1, LA, L1, BA, B1, EA, E1, E2, eB, eI, eL])) ?_
 refine w_ret ?_
 have hr := Option.some.inj h
 rw [← hr]
 refine ⟨_, (.tmp .nil), ?_⟩
 refine ⟨(.one rfl rfl .nil), [.val (.bool true)], [], by simp [Cat.cells, Ends.cells, Fn.cells, Tra.cells, IA, I1, LA, L1, BA, B1, EA, E1, E2, eB, eI, eL], by simp, (UpL.refl _)⟩
end Go.Vc.T

set_option maxRecDepth 100000
set_option linter.unusedSimpArgs false
set_option linter.unusedVariables false
namespace Go.Vc.T
open Go Go.Vc Go.Proofs
noncomputable def s_i_Transformation_isNatural (t_ : Tra) : Option Bool :=
 (
   (s_i_Transformation_isShape t_).bind fun v2 =>
   if v2 = true then
     (s_i_firstFailure__i_commutes t_).bind fun v4 =>
     some (decide (v4 < 0))
   else
     some false : Option (Bool)).bind fun b1 =>
 some b1
set_option maxHeartbeats 4000000 in
theorem w_i_Transformation_isNatural (t_ : Tra) (r : Bool) (h : s_i_Transformation_isNatural t_ = some r) : Contract Try.prog 88 [.rptr (t_.cells true)] (.val (.bool r)) := by
 refine contract_introG (rvs := [.tmp 2]) (rs := [.val (.bool r)]) Try.func88 rfl rfl rfl rfl (by simp [Try.f88]) fun F hN hP => ?_
 unfold s_i_Transformation_isNatural at h
 refine w_seq ?_
 refine w_run mo (by rw [hN]; decide) fun K hK => ?_
 simp [-guardE_b, -Is_at, -Is_at', -Ls_at, -Ls_at', eL, eI, allInts, eP_Tra, Tra.cells]
 repeat (with_reducible refine And.intro ?_ ?_; · first | assumption | omega | (simp; done) | (simp; omega) | simp_all)
 refine hK _ ?_
 clear hK K
 refine tn ?_
 refine w_weak (st' := ⟨[(0, .rptr (Tra.cells true t_))], [], 0⟩) (Wk.r1 [] (by simp [hP, hhOk, back, Tra.cells, IA, I1, LA, L1, BA, B1, EA, E1, E2, eB, eI, eL])) ?_
 refine w_seq ?_
 replace h := bind_some h
 obtain ⟨e1, h, h1⟩ := h
 refine w_joinT (fun b1 : Bool => ⟨[(2, .val (.bool b1))], [], 0⟩) (fun b1 => b1 = e1) ?_ ?_
 · refine w_run mo (by rw [hN]; decide) fun K hK => ?_
   simp [-guardE_b, -Is_at, -Is_at', -Ls_at, -Ls_at', eL, eI, allInts, eP_Tra, Tra.cells]
   repeat (with_reducible refine And.intro ?_ ?_; · first | assumption | omega | (simp; done) | (simp; omega) | simp_all)
   replace h := bind_some h
   obtain ⟨v2, hv2, h⟩ := h
   refine callA_intro (w_i_Transformation_isShape _ v2 hv2) (.cons (.preT (by simp [Tra.cells])) .nil) ?_
   simp [-guardE_b, -Is_at, -Is_at', -Ls_at, -Ls_at', unk, unA, unE, unT, unC, flat, eL, eI, allInts, eP_Tra, Tra.cells]
   repeat (with_reducible refine And.intro ?_ ?_; · first | assumption | omega | (simp; done) | (simp; omega) | simp_all)
   refine guard_intro (fun g => ?_) (fun g => ?_)
   · have g3 : v2 = true := by first | simpa using g | (simp at g; exact g) | (simp at g; omega)
     clear g
     replace h := if_l g3 h
     simp [-guardE_b, -Is_at, -Is_at', -Ls_at, -Ls_at', eL, eI, allInts, eP_Tra, Tra.cells]
     repeat (with_reducible refine And.intro ?_ ?_; · first | assumption | omega | (simp; done) | (simp; omega) | simp_all)
     replace h := bind_some h
     obtain ⟨v4, hv4, h⟩ := h
     refine callA_intro (w_i_firstFailure__i_commutes _ v4 hv4) (.cons (.preT (by simp [Tra.cells])) (.cons (.fnL (by simp) .nil) .nil)) ?_
     simp [-guardE_b, -Is_at, -Is_at', -Ls_at, -Ls_at', unk, unA, unE, unT, unC, flat, eL, eI, allInts, eP_Tra, Tra.cells]
     repeat (with_reducible refine And.intro ?_ ?_; · first | assumption | omega | (simp; done) | (simp; omega) | simp_all)
     refine hK _ ?_
     exact jn (b := decide (v4 < 0)) (Option.some.inj h) (Wk.r1 [] (by simp [hP, hhOk, back, Tra.cells, IA, I1, LA, L1, BA, B1, EA, E1, E2, eB, eI, eL]))
   have g3 : ¬ (v2 = true) := by first | simpa using g | (simp at g; exact g) | (simp at g; omega)
   clear g
   replace h := if_r g3 h
   simp [-guardE_b, -Is_at, -Is_at', -Ls_at, -Ls_at', eL, eI, allInts, eP_Tra, Tra.cells]
   repeat (with_reducible refine And.intro ?_ ?_; · first | assumption | omega | (simp; done) | (simp; omega) | simp_all)
   refine hK _ ?_
   exact jn (b := false) (Option.some.inj h) (Wk.r1 [] (by simp [hP, hhOk, back, Tra.cells, IA, I1, LA, L1, BA, B1, EA, E1, E2, eB, eI, eL]))
 intro b1 hb1
 have h := h1
 rw [← hb1] at h
 clear h1
 try dsimp only at h
 refine w_ret ?_
 have hr := Option.some.inj h
 rw [← hr]
 refine ⟨_, (.tmp .nil), ?_⟩
 refine ⟨(.one rfl rfl .nil), [.val (.bool b1)], [], by simp [Tra.cells, IA, I1, LA, L1, BA, B1, EA, E1, E2, eB, eI, eL], by simp, (UpL.refl _)⟩
end Go.Vc.T

set_option maxRecDepth 100000
set_option linter.unusedSimpArgs false
set_option linter.unusedVariables false
namespace Go.Vc.T
open Go Go.Vc Go.Proofs
noncomputable def s_i_areNatural (list_ : List Tra) : Option Bool :=
 (loopF (σ := Int) (ε := Unit ⊕ Bool) (fun s7 =>
   if s7 < (list_.length : Int) then
     ass (0 ≤ s7 ∧ s7 < (list_.length : Int)) <|
     (s_i_Transformation_isNatural (gx list_ s7)).bind fun v10 =>
     if ¬ (v10 = true) then
       some (Ctl.ret (Sum.inr false))
     else
       ass (B64 (s7 + 1)) <|
       some (Ctl.next (s7 + 1))
   else
     some (Ctl.ret (Sum.inl ()))) fuel 0).bind fun e1 =>
 match e1 with
 | .inl b1 =>
   some true
 | .inr p1 =>
   some p1
set_option maxHeartbeats 4000000 in
theorem w_i_areNatural (list_ : List Tra) (r : Bool) (h : s_i_areNatural list_ = some r) : Contract Try.prog 178 [.lst true 1 (Es eP_Tra list_)] (.val (.bool r)) := by
 refine contract_introG (rvs := [.tmp 2]) (rs := [.val (.bool r)]) Try.func178 rfl rfl rfl rfl (by simp [Try.f178]) fun F hN hP => ?_
 unfold s_i_areNatural at h
 refine w_seq ?_
 refine w_run mo (by rw [hN]; decide) fun K hK => ?_
 simp [-guardE_b, -Is_at, -Is_at', -Ls_at, -Ls_at', eL, eI, allInts, eP_Tra, Tra.cells]
 repeat (with_reducible refine And.intro ?_ ?_; · first | assumption | omega | (simp; done) | (simp; omega) | simp_all)
 refine hK _ ?_
 clear hK K
 refine tn ?_
 refine w_weak (st' := ⟨[(0, .lst true 1 (Es eP_Tra list_))], [], 0⟩) (Wk.r1 [] (by simp [hP, hhOk, back, Tra.cells, IA, I1, LA, L1, BA, B1, EA, E1, E2, eB, eI, eL])) ?_
 refine w_seq ?_
 refine w_seq ?_
 refine w_run mo (by rw [hN]; decide) fun K hK => ?_
 simp [-guardE_b, -Is_at, -Is_at', -Ls_at, -Ls_at', eL, eI, allInts, eP_Tra, Tra.cells]
 repeat (with_reducible refine And.intro ?_ ?_; · first | assumption | omega | (simp; done) | (simp; omega) | simp_all)
 refine hK _ ?_
 clear hK K
 refine tn ?_
 refine w_weak (st' := ⟨[(5, .lst true 1 (Es eP_Tra list_)), (6, .val (.int .i64 (list_.length : Int))), (7, .val (.int .i64 0))], [], 0⟩) (Wk.r1 [] (by simp [hP, hhOk, back, Tra.cells, IA, I1, LA, L1, BA, B1, EA, E1, E2, eB, eI, eL])) ?_
 replace h := bind_some h
 obtain ⟨e1, h, h1⟩ := h
 refine w_joinT (fun b1 : Unit => ⟨[], [], 0⟩) (fun b1 => Sum.inl b1 = e1) ?_ ?_
 · refine w_block ?_
   refine w_loopF h (fun s7 : Int => ⟨[(5, .lst true 1 (Es eP_Tra list_)), (6, .val (.int .i64 (list_.length : Int))), (7, .val (.int .i64 s7))], [], 0⟩) (Wk.r1 [] (by simp [hP, hhOk, back, Tra.cells, IA, I1, LA, L1, BA, B1, EA, E1, E2, eB, eI, eL])) ?_
   clear h
   intro k7 s7 c7 h hk7
   refine w_seq ?_
   refine w_run mo (by rw [hN]; decide) fun K hK => ?_
   simp [-guardE_b, -Is_at, -Is_at', -Ls_at, -Ls_at', eL, eI, allInts, eP_Tra, Tra.cells]
   repeat (with_reducible refine And.intro ?_ ?_; · first | assumption | omega | (simp; done) | (simp; omega) | simp_all)
   refine hK _ ?_
   clear hK K
   refine tn ?_
   refine w_weak (st' := ⟨[(5, .lst true 1 (Es eP_Tra list_)), (6, .val (.int .i64 (list_.length : Int))), (7, .val (.int .i64 s7)), (8, .val (.bool (decide (s7 < (list_.length : Int)))))], [], 0⟩) (Wk.r1 [] (by simp [hP, hhOk, back, Tra.cells, IA, I1, LA, L1, BA, B1, EA, E1, E2, eB, eI, eL])) ?_
   refine w_seq ?_
   refine w_cond rfl (fun g => ?_) fun g => ?_
   · have g8 : s7 < (list_.length : Int) := by first | simpa using g | (simp at g; exact g) | (simp at g; omega)
     clear g
     replace h := if_l g8 h
     refine w_skip ?_
     refine tn ?_
     refine w_seq ?_
     refine w_block ?_
     refine w_seq ?_
     refine w_run mo (by rw [hN]; decide) fun K hK => ?_
     replace h := ass_some h
     obtain ⟨a9, h⟩ := h
     simp [-guardE_b, -Is_at, -Is_at', -Ls_at, -Ls_at', eL, eI, allInts, eP_Tra, Tra.cells, at_E (c := eP_Tra) a9]
     repeat (with_reducible refine And.intro ?_ ?_; · first | assumption | omega | (simp; done) | (simp; omega) | simp_all)
     refine hK _ ?_
     clear hK K
     refine tn ?_
     refine w_weak (st' := ⟨[(4, .rptr (Tra.cells true (gx list_ s7))), (5, .lst true 1 (Es eP_Tra list_)), (6, .val (.int .i64 (list_.length : Int))), (7, .val (.int .i64 s7))], [], 0⟩) (Wk.r1 [] (by simp [hP, hhOk, back, Tra.cells, IA, I1, LA, L1, BA, B1, EA, E1, E2, eB, eI, eL])) ?_
     refine w_seq ?_
     refine w_run mo (by rw [hN]; decide) fun K hK => ?_
     simp [-guardE_b, -Is_at, -Is_at', -Ls_at, -Ls_at', eL, eI, allInts, eP_Tra, Tra.cells]
     repeat (with_reducible refine And.intro ?_ ?_; · first | assumption | omega | (simp; done) | (simp; omega) | simp_all)
     replace h := bind_some h
     obtain ⟨v10, hv10, h⟩ := h
     refine callA_intro (w_i_Transformation_isNatural _ v10 hv10) (.cons (.preT (by simp [Tra.cells])) .nil) ?_
     simp [-guardE_b, -Is_at, -Is_at', -Ls_at, -Ls_at', unk, unA, unE, unT, unC, flat, eL, eI, allInts, eP_Tra, Tra.cells]
     repeat (with_reducible refine And.intro ?_ ?_; · first | assumption | omega | (simp; done) | (simp; omega) | simp_all)
     refine hK _ ?_
     clear hK K
     refine tn ?_
     refine w_weak (st' := ⟨[(5, .lst true 1 (Es eP_Tra list_)), (6, .val (.int .i64 (list_.length : Int))), (7, .val (.int .i64 s7)), (13, .val (.bool (!v10)))], [], 0⟩) (Wk.r1 [] (by simp [hP, hhOk, back, Tra.cells, IA, I1, LA, L1, BA, B1, EA, E1, E2, eB, eI, eL])) ?_
     refine w_cond rfl (fun g => ?_) fun g => ?_
     · have g11 : ¬ (v10 = true) := by first | simpa using g | (simp at g; exact g) | (simp at g; omega)
       clear g
       replace h := if_l g11 h
       refine w_seq ?_
       refine w_run mo (by rw [hN]; decide) fun K hK => ?_
       simp [-guardE_b, -Is_at, -Is_at', -Ls_at, -Ls_at', eL, eI, allInts, eP_Tra, Tra.cells]
       repeat (with_reducible refine And.intro ?_ ?_; · first | assumption | omega | (simp; done) | (simp; omega) | simp_all)
       refine hK _ ?_
       clear hK K
       refine tn ?_
       refine w_weak (st' := ⟨[(2, .val (.bool false))], [], 0⟩) (Wk.r1 [] (by simp [hP, hhOk, back, Tra.cells, IA, I1, LA, L1, BA, B1, EA, E1, E2, eB, eI, eL])) ?_
       refine w_ret ?_
       refine br ?_
       refine tr ?_
       refine lr ?_
       refine br ?_
       refine tr ?_
       cases h
       have q : _ = e1 := hk7
       have h := h1
       rw [← q] at h
       clear q
       try dsimp only at h
       have hr := Option.some.inj h
       rw [← hr]
       refine ⟨_, (.tmp .nil), ?_⟩
       refine ⟨(.one rfl rfl .nil), [.val (.bool false)], [], by simp [Tra.cells, IA, I1, LA, L1, BA, B1, EA, E1, E2, eB, eI, eL], by simp, (UpL.refl _)⟩
     have g11 : ¬ (¬ (v10 = true)) := by first | simpa using g | (simp at g; exact g) | (simp at g; omega)
     clear g
     replace h := if_r g11 h
     refine w_skip ?_
     refine bn ?_
     refine tn ?_
     refine w_run mo (by rw [hN]; decide) fun K hK => ?_
     replace h := ass_some h
     obtain ⟨a12, h⟩ := h
     simp [-guardE_b, -Is_at, -Is_at', -Ls_at, -Ls_at', eL, eI, allInts, eP_Tra, Tra.cells, wrap_id a12]
     repeat (with_reducible refine And.intro ?_ ?_; · first | assumption | omega | (simp; done) | (simp; omega) | simp_all)
     refine hK _ ?_
     clear hK K
     cases h
     exact rn (s' := s7 + 1) hk7 (Wk.r1 [] (by simp [hP, hhOk, back, Tra.cells, IA, I1, LA, L1, BA, B1, EA, E1, E2, eB, eI, eL]))
   have g8 : ¬ (s7 < (list_.length : Int)) := by first | simpa using g | (simp at g; exact g) | (simp at g; omega)
   clear g
   replace h := if_r g8 h
   refine w_exit ?_
   refine tx ?_
   refine lx ?_
   refine bh ?_
   cases h
   exact jn (b := ()) hk7 (Wk.r1 [] (by simp [hP, hhOk, back, Tra.cells, IA, I1, LA, L1, BA, B1, EA, E1, E2, eB, eI, eL]))
 intro b1 hb1
 have h := h1
 rw [← hb1] at h
 clear h1
 try dsimp only at h
 refine w_seq ?_
 refine w_run mo (by rw [hN]; decide) fun K hK => ?_
 simp [-guardE_b, -Is_at, -Is_at', -Ls_at, -Ls_at', eL, eI, allInts, eP_Tra, Tra.cells]
 repeat (with_reducible refine And.intro ?_ ?_; · first | assumption | omega | (simp; done) | (simp; omega) | simp_all)
 refine hK _ ?_
 clear hK K
 refine tn ?_
 refine w_weak (st' := ⟨[(2, .val (.bool true))], [], 0⟩) (Wk.r1 [] (by simp [hP, hhOk, back, Tra.cells, IA, I1, LA, L1, BA, B1, EA, E1, E2, eB, eI, eL])) ?_
 refine w_ret ?_
 have hr := Option.some.inj h
 rw [← hr]
 refine ⟨_, (.tmp .nil), ?_⟩
 refine ⟨(.one rfl rfl .nil), [.val (.bool true)], [], by simp [Tra.cells, IA, I1, LA, L1, BA, B1, EA, E1, E2, eB, eI, eL], by simp, (UpL.refl _)⟩
end Go.Vc.T

set_option maxRecDepth 100000
set_option linter.unusedSimpArgs false
set_option linter.unusedVariables false
namespace Go.Vc.T
open Go Go.Vc Go.Proofs
structure NatT (f g : Fn) (p : List Int) : Prop where
 lp : p.length = f.ob.length
 bd : ∀ j : Nat, j < p.length → 0 ≤ ix p j ∧ ix p j < f.t.fr.length
 ends : ∀ x : Nat, x < p.length → ix f.t.fr (ix p x) = ix f.ob x ∧ ix f.t.to (ix p x) = ix g.ob x
 sq : ∀ a : Nat, a < f.s.fr.length → ix (rx f.t.cs (ix f.ar a)) (ix p (ix f.s.to a)) = ix (rx f.t.cs (ix p (ix f.s.fr a))) (ix g.ar a)
structure Para (f g : Fn) : Prop where
 hf : f.Is
 hg : g.Is
 s : f.s = g.s
 t : f.t = g.t
theorem Para.fact {f g : Fn} (h : Para f g) : f.ob.length = g.ob.length ∧ f.ar.length = g.ar.length ∧ f.ar.length = f.s.fr.length ∧ f.s.to.length = f.s.fr.length ∧ f.t.to.length = f.t.fr.length ∧ f.t.cs.length = f.t.fr.length ∧ f.ob.length = f.s.id.length ∧ f.ob.length ≤ 8 ∧ f.s.fr.length ≤ 40 ∧ f.t.fr.length ≤ 40 := by
 have h1 := h.hf.lo
 have h2 := h.hg.lo
 have h3 := h.hf.la
 have h4 := h.hg.la
 rw [← h.s] at h2 h4
 have h5 := h.hf.s.1.li
 exact ⟨by omega, by omega, h3, h.hf.s.1.lt, h.hf.t.1.lt, h.hf.t.1.lc, by omega, h.hf.lob, h.hf.s.1.m40, h.hf.t.1.m40⟩
theorem Para.sqok {f g : Fn} (h : Para f g) {p : List Int} (lp : p.length = f.ob.length) (bd : ∀ j : Nat, j < p.length → 0 ≤ ix p j ∧ ix p j < f.t.fr.length) {a : Nat} (ha : a < f.s.fr.length) :
   (0 ≤ ix f.ar a ∧ ix f.ar a < f.t.fr.length) ∧ (0 ≤ ix g.ar a ∧ ix g.ar a < f.t.fr.length) ∧ (0 ≤ ix f.s.to a ∧ ix f.s.to a < p.length) ∧ (0 ≤ ix f.s.fr a ∧ ix f.s.fr a < p.length) ∧
   (0 ≤ ix p (ix f.s.to a) ∧ ix p (ix f.s.to a) < f.t.fr.length) ∧ (0 ≤ ix p (ix f.s.fr a) ∧ ix p (ix f.s.fr a) < f.t.fr.length) ∧ (rx f.t.cs (ix f.ar a)).length = f.t.fr.length ∧ (rx f.t.cs (ix p (ix f.s.fr a))).length = f.t.fr.length := by
 obtain ⟨k1, k2, k3, k4, k5, k6, k7, k8, k9, k10⟩ := h.fact
 have h1 := h.hf.ar a (by omega)
 have h2 := h.hg.ar a (by omega)
 rw [← h.t] at h2
 have h3 := h.hf.s.1.frn ha
 have h4 := ix_bnd bd (j := ix f.s.to a) (by omega) (by omega)
 have h5 := ix_bnd bd (j := ix f.s.fr a) (by omega) (by omega)
 exact ⟨h1, h2, by omega, by omega, h4, h5, h.hf.t.1.row' (by omega) (by omega), h.hf.t.1.row' (by omega) (by omega)⟩
theorem e_l02Then {c : Cat} {f g : Int} (h0 : 0 ≤ f ∧ f < (c.cs.length : Int)) (h1 : 0 ≤ g ∧ g < ((rx c.cs f).length : Int)) : s_s_l02Then c f g = some (ix (rx c.cs f) g) := by
 unfold s_s_l02Then
 rw [ass_pos h0, ass_pos h1]
theorem e_Cthen {c : Cat} {f g : Int} (h0 : 0 ≤ f ∧ f < (c.cs.length : Int)) (h1 : 0 ≤ g ∧ g < ((rx c.cs f).length : Int)) : s_i_Category_then c f g = some (ix (rx c.cs f) g) := by
 unfold s_i_Category_then
 rw [ass_pos h0.1, ass_pos h0.2, ass_pos h1.1, ass_pos h1.2]
theorem e_l15Natural {f g : Fn} (h : Para f g) (p : List Int) : s_s_l15Natural f g p = some (bo (NatT f g p)) := by
 obtain ⟨k1, k2, k3, k4, k5, k6, k7, k8, k9, k10⟩ := h.fact
 unfold s_s_l15Natural
 by_cases h1 : (p.length : Int) = f.ob.length
 case neg => rw [bo_neg (show ¬ NatT f g p from fun q => h1 (by rw [q.lp]))]; simp [h1]
 by_cases h2 : p.all (inR f.t.fr.length) = true
 case neg => rw [bo_neg (show ¬ NatT f g p from fun q => h2 (all_inR.2 q.bd))]; simp [s_s_l01Map, h1, h2]
 have bd := all_inR.1 h2
 simp only [s_s_l01Map, h1, h2, not_true_eq_false, if_false, Option.bind_some, Bool.not_true, Bool.false_eq_true]
 refine chk_bind p.length (fun x : Nat => ix f.t.fr (ix p x) = ix f.ob x ∧ ix f.t.to (ix p x) = ix g.ob x) (eb := Sum.inr false) (eg := Sum.inl ()) (by omega) (fun a hi hp => ?_) (fun a hi hp => ?_) (by simp; omega) (fun hx => ?_) fun q1 => ?_
 · have := bd a hi
   simp (disch := omega) [ass_pos, B64, hp.1, hp.2]; omega
 · have := bd a hi
   by_cases hp1 : ix f.t.fr (ix p a) = ix f.ob a
   · have hp2 : ¬ ix f.t.to (ix p a) = ix g.ob a := fun q => hp ⟨hp1, q⟩
     simp (disch := omega) [ass_pos, B64, hp1, hp2]; omega
   simp (disch := omega) [ass_pos, B64, hp1]; omega
 · rw [bo_neg (show ¬ NatT f g p from fun q => hx q.ends)]
 simp only
 refine chk_bind f.s.fr.length (fun a : Nat => ix (rx f.t.cs (ix f.ar a)) (ix p (ix f.s.to a)) = ix (rx f.t.cs (ix p (ix f.s.fr a))) (ix g.ar a)) (eb := Sum.inr false) (eg := Sum.inl ()) (by omega) (fun a hi hp => ?_) (fun a hi hp => ?_) (by simp) (fun hx => ?_) fun q2 => ?_
 · obtain ⟨m1, m2, m3, m4, m5, m6, m7, m8⟩ := h.sqok (by omega) bd hi
   simp (disch := omega) [ass_pos, B64, e_l02Then, hp, hi]
 · obtain ⟨m1, m2, m3, m4, m5, m6, m7, m8⟩ := h.sqok (by omega) bd hi
   simp (disch := omega) [ass_pos, B64, e_l02Then, hp, hi]
 · rw [bo_neg (show ¬ NatT f g p from fun q => hx q.sq)]
 rw [bo_pos (show NatT f g p from ⟨by omega, bd, q1, q2⟩)]
structure Tra.Is (t : Tra) : Prop where
 p : Para t.s t.t
 n : NatT t.s t.t t.p
theorem e_fits {f : Fn} (h1 : f.s.Is) (h2 : f.t.Is) : s_i_Functor_fits f = some (bo f.Is) := by
 have hs := h1.1
 have ht := h2.1
 have k0 := hs.n0
 have k1 := hs.n8
 have k2 := hs.m40
 have k3 := hs.li
 have k4 := hs.lt
 have k5 := hs.lc
 have k6 := ht.li
 have k7 := ht.lt
 have k8 := ht.lc
 have k9 := ht.m40
 have k10 := ht.n0
 have k11 := ht.n8
 have b1 : B64 (f.t.n - 1) := ⟨by omega, by omega⟩
 have b2 : B64 ((f.t.fr.length : Int) - 1) := ⟨by omega, by omega⟩
 unfold s_i_Functor_fits
 by_cases h3 : (f.ob.length : Int) = f.s.n
 case neg => rw [bo_neg (show ¬ f.Is from fun q => h3 q.lo)]; simp [h3]
 by_cases h4 : (f.ar.length : Int) = f.s.fr.length
 case neg => rw [bo_neg (show ¬ f.Is from fun q => h4 (by rw [q.la]))]; simp [s_i_Category_arrows, h3, h4]
 by_cases h5 : f.ob.all (inR f.t.n) = true
 case neg => rw [bo_neg (show ¬ f.Is from fun q => h5 (all_inR.2 q.ob))]; simp [s_i_Category_arrows, s_i_within, ass_pos b1, h3, h4, h5]
 by_cases h6 : f.ar.all (inR f.t.fr.length) = true
 case neg => rw [bo_neg (show ¬ f.Is from fun q => h6 (all_inR.2 q.ar))]; simp [s_i_Category_arrows, s_i_within, ass_pos b1, ass_pos b2, h3, h4, h5, h6]
 have ho := all_inR.1 h5
 have ha := all_inR.1 h6
 simp only [s_i_Category_arrows, s_i_within, ass_pos b1, ass_pos b2, h3, h4, h5, h6, Option.bind_some, if_true, if_false, not_true_eq_false, Bool.not_true, Bool.false_eq_true]
 refine chk_bind f.s.fr.length (fun a : Nat => ix f.t.fr (ix f.ar a) = ix f.ob (ix f.s.fr a) ∧ ix f.t.to (ix f.ar a) = ix f.ob (ix f.s.to a)) (eb := Sum.inr false) (eg := Sum.inl ()) (by omega) (fun a hi hp => ?_) (fun a hi hp => ?_) (by simp) (fun hx => ?_) fun q1 => ?_
 · have := hs.frn hi
   have := ha a (by omega)
   simp (disch := omega) [ass_pos, B64, hp.1, hp.2, hi]
 · have := hs.frn hi
   have := ha a (by omega)
   by_cases hp1 : ix f.t.fr (ix f.ar a) = ix f.ob (ix f.s.fr a)
   · have hp2 : ¬ ix f.t.to (ix f.ar a) = ix f.ob (ix f.s.to a) := fun h => hp ⟨hp1, h⟩
     simp (disch := omega) [ass_pos, B64, hp1, hp2, hi]
   simp (disch := omega) [ass_pos, B64, hp1, hi]
 · rw [bo_neg (show ¬ f.Is from fun q => hx q.ends)]
 simp only
 refine chk_bind f.s.id.length (fun x : Nat => ix f.ar (ix f.s.id x) = ix f.t.id (ix f.ob x)) (eb := Sum.inr false) (eg := Sum.inl ()) (by omega) (fun a hi hp => ?_) (fun a hi hp => ?_) (by simp) (fun hx => ?_) fun q2 => ?_
 · have := hs.idn hi
   have := ho a (by omega)
   simp (disch := omega) [ass_pos, B64, hp, hi]
 · have := hs.idn hi
   have := ho a (by omega)
   simp (disch := omega) [ass_pos, B64, hp, hi]
 · rw [bo_neg (show ¬ f.Is from fun q => hx q.ids)]
 simp only
 refine chk_bind f.s.fr.length (fun a : Nat => ∀ b : Nat, b < f.s.fr.length → ix f.s.to a = ix f.s.fr b → ix f.ar (ix (rx f.s.cs a) b) = ix (rx f.t.cs (ix f.ar a)) (ix f.ar b)) (eb := Sum.inr false) (eg := Sum.inl ()) (by omega) (fun a hi hp => ?_) (fun a hi hp => ?_) (by simp; omega) (fun hx => ?_) fun q3 => ?_
 rotate_left 2
 · rw [bo_neg (show ¬ f.Is from fun q => hx q.comp)]
 · rw [bo_pos (show f.Is from ⟨h1, h2, h3, by omega, ho, ha, q1, q2, q3⟩)]
 all_goals
   have h8 := ha a (by omega)
   have h11 := hs.row' (j := a) (by omega) (by omega)
   have h12 := ht.row' (j := ix f.ar a) (by omega) (by omega)
   rw [if_pos (by omega), ass_pos (by omega), Option.bind_assoc]
   refine chk_bind f.s.fr.length (fun b : Nat => ix f.s.to a = ix f.s.fr b → ix f.ar (ix (rx f.s.cs a) b) = ix (rx f.t.cs (ix f.ar a)) (ix f.ar b)) (eb := Sum.inl false) (eg := Sum.inr ()) (by omega) (fun b hb hq => ?_) (fun b hb hq => ?_) ?_ (fun hn => ?_) fun hn => ?_
 all_goals first
   | exact absurd hp hn
   | exact absurd hn hp
   | (simp (disch := omega) [ass_pos, B64, h11]; done)
   | skip
 all_goals
   have h13 := ha b (by omega)
   have h16 := hs.cell' (f := a) (g := b) (by omega) (by omega) (by omega) (by omega)
   by_cases h14 : ix f.s.to a = ix f.s.fr b
   · have h15 := hs.cmp (f := a) (g := b) (by omega) (by omega) (by omega) (by omega) h14
     have h17 : ix (rx f.s.cs a) b ≥ 0 := h15.1
     first
       | (have hq1 := hq h14; simp (disch := omega) [ass_pos, B64, e_Cthen, h14, hq1, hb, h11, h17]; done)
       | (have hq1 := fun e => hq (fun _ => e); simp (disch := omega) [ass_pos, B64, e_Cthen, h14, hq1, hb, h11, h17]; exact hq1)
   have h17 := h16.1 h14
   first
     | (simp (disch := omega) [ass_pos, B64, h14, hb, h11, h17]; done)
     | exact absurd (fun e => absurd e h14) hq
theorem gx_nat {α : Type} [Inhabited α] (xs : List α) {i : Nat} (h : i < xs.length) : gx xs i = xs[i] := by simp [gx, List.getD_eq_getElem?_getD, h]
theorem e_areCats (cs : List Cat) (hl : cs.length ≤ 1048576) : s_i_areCategories cs = some (bo (∀ c ∈ cs, c.Is)) := by
 unfold s_i_areCategories
 refine chk_bind cs.length (fun i : Nat => (gx cs i).Is) (eb := Sum.inr false) (eg := Sum.inl ()) (by omega) (fun a hi hp => ?_) (fun a hi hp => ?_) (by simp) (fun hx => ?_) fun q1 => ?_
 · simp (disch := omega) [ass_pos, B64, s_i_Category_isCategory, bo_pos hp, hi]
 · simp (disch := omega) [ass_pos, B64, s_i_Category_isCategory, bo_neg hp, hi]
 · rw [bo_neg (show ¬ ∀ c ∈ cs, c.Is from fun q => hx fun i hi => q _ (by rw [gx_nat _ hi]; exact List.getElem_mem hi))]
 rw [bo_pos (show ∀ c ∈ cs, c.Is from fun c hc => by obtain ⟨i, hi, rfl⟩ := List.getElem_of_mem hc; have := q1 i hi; rwa [gx_nat _ hi] at this)]
theorem e_isFunctor (f : Fn) : s_i_Functor_isFunctor f = some (bo f.Is) := by
 unfold s_i_Functor_isFunctor
 rw [e_areCats _ (by simp)]
 by_cases h : f.s.Is ∧ f.t.Is
 · rw [bo_pos (show ∀ c ∈ [f.s, f.t], c.Is by simpa using h)]
   simp [e_fits h.1 h.2]
 rw [bo_neg (show ¬ ∀ c ∈ [f.s, f.t], c.Is by simpa using h), bo_neg (show ¬ f.Is from fun q => h ⟨q.s, q.t⟩)]
 simp
theorem e_areFunctors (fs : List Fn) (hl : fs.length ≤ 1048576) : s_i_areFunctors fs = some (bo (∀ f ∈ fs, f.Is)) := by
 unfold s_i_areFunctors
 refine chk_bind fs.length (fun i : Nat => (gx fs i).Is) (eb := Sum.inr false) (eg := Sum.inl ()) (by omega) (fun a hi hp => ?_) (fun a hi hp => ?_) (by simp) (fun hx => ?_) fun q1 => ?_
 · simp (disch := omega) [ass_pos, B64, e_isFunctor, bo_pos hp, hi]
 · simp (disch := omega) [ass_pos, B64, e_isFunctor, bo_neg hp, hi]
 · rw [bo_neg (show ¬ ∀ c ∈ fs, c.Is from fun q => hx fun i hi => q _ (by rw [gx_nat _ hi]; exact List.getElem_mem hi))]
 rw [bo_pos (show ∀ c ∈ fs, c.Is from fun c hc => by obtain ⟨i, hi, rfl⟩ := List.getElem_of_mem hc; have := q1 i hi; rwa [gx_nat _ hi] at this)]
theorem Cat.Is.lcs {c : Cat} (h : c.Is) : c.cs.length ≤ 1048576 := by have := h.1.lc; have := h.1.m40; omega
theorem e_sameCat {c d : Cat} (h : c.Is) : s_i_sameCategory c d = some (bo (c = d)) := by
 unfold s_i_sameCategory
 rw [ass_pos h.lcs]
theorem e_parallel {f g : Fn} (hf : f.Is) : s_i_parallelFunctors f g = some (bo (f.s = g.s ∧ f.t = g.t)) := by
 unfold s_i_parallelFunctors
 rw [e_sameCat hf.s, e_sameCat hf.t]
 by_cases h1 : f.s = g.s <;> by_cases h2 : f.t = g.t <;> simp [bo, h1, h2]
theorem e_commutes {f g : Fn} (h : Para f g) {p : List Int} (lp : p.length = f.ob.length) (bd : ∀ j : Nat, j < p.length → 0 ≤ ix p j ∧ ix p j < f.t.fr.length) {a : Nat} (ha : a < f.s.fr.length) :
   s_i_commutes f g p a = some (bo (ix (rx f.t.cs (ix f.ar a)) (ix p (ix f.s.to a)) = ix (rx f.t.cs (ix p (ix f.s.fr a))) (ix g.ar a))) := by
 obtain ⟨k1, k2, k3, k4, k5, k6, k7, k8, k9, k10⟩ := h.fact
 obtain ⟨m1, m2, m3, m4, m5, m6, m7, m8⟩ := h.sqok lp bd ha
 unfold s_i_commutes
 by_cases hq : ix (rx f.t.cs (ix f.ar a)) (ix p (ix f.s.to a)) = ix (rx f.t.cs (ix p (ix f.s.fr a))) (ix g.ar a) <;> simp (disch := omega) [ass_pos, e_Cthen, hq, bo]
theorem e_firstFail {f g : Fn} (h : Para f g) {p : List Int} (lp : p.length = f.ob.length) (bd : ∀ j : Nat, j < p.length → 0 ≤ ix p j ∧ ix p j < f.t.fr.length) :
   ∃ v, s_i_firstFailure__i_commutes ⟨f, g, p⟩ = some v ∧ (v < 0 ↔ ∀ a : Nat, a < f.s.fr.length → ix (rx f.t.cs (ix f.ar a)) (ix p (ix f.s.to a)) = ix (rx f.t.cs (ix p (ix f.s.fr a))) (ix g.ar a)) := by
 obtain ⟨k1, k2, k3, k4, k5, k6, k7, k8, k9, k10⟩ := h.fact
 unfold s_i_firstFailure__i_commutes
 rcases loop_fst (body := fun s6 : Int => if s6 < (f.ar.length : Int) then (s_i_commutes f g p s6).bind fun v8 => if ¬ (v8 = true) then some (Ctl.ret (Sum.inr s6)) else ass (B64 (s6 + 1)) <| some (Ctl.next (s6 + 1)) else some (Ctl.ret (Sum.inl ()))) (ε := Unit ⊕ Int)
     f.s.fr.length (fun a : Nat => ix (rx f.t.cs (ix f.ar a)) (ix p (ix f.s.to a)) = ix (rx f.t.cs (ix p (ix f.s.fr a))) (ix g.ar a)) (eb := fun i => Sum.inr (i : Int)) (eg := Sum.inl ()) (by omega)
     (fun a hi hp => by simp (disch := omega) [ass_pos, B64, e_commutes h lp bd hi, hp, bo]; omega) (fun a hi hp => by simp (disch := omega) [ass_pos, B64, e_commutes h lp bd hi, hp, bo]; omega) (by simp; omega) with ⟨h1, h2⟩ | ⟨m, h1, h2, h3, h4⟩
 · refine ⟨-1, ?_, by simpa using h1⟩
   simp only
   rw [h2]; rfl
 refine ⟨m, ?_, ⟨fun q => by omega, fun q => absurd (q m h1) h2⟩⟩
 simp only
 rw [h4]; rfl
theorem e_Tshape (t : Tra) : s_i_Transformation_isShape t = some (bo (Para t.s t.t ∧ t.p.length = t.s.ob.length ∧ (∀ j : Nat, j < t.p.length → 0 ≤ ix t.p j ∧ ix t.p j < t.s.t.fr.length) ∧ ∀ x : Nat, x < t.p.length → ix t.s.t.fr (ix t.p x) = ix t.s.ob x ∧ ix t.s.t.to (ix t.p x) = ix t.t.ob x)) := by
 unfold s_i_Transformation_isShape
 rw [e_areFunctors _ (by simp)]
 by_cases h : t.s.Is ∧ t.t.Is
 case neg => rw [bo_neg (show ¬ ∀ c ∈ [t.s, t.t], c.Is by simpa using h), bo_neg (fun q => h ⟨q.1.hf, q.1.hg⟩)]; simp
 rw [bo_pos (show ∀ c ∈ [t.s, t.t], c.Is by simpa using h)]
 obtain ⟨hf, hg⟩ := h
 rw [e_parallel hf]
 by_cases h : t.s.s = t.t.s ∧ t.s.t = t.t.t
 case neg => rw [bo_neg h, bo_neg (fun q => h ⟨q.1.s, q.1.t⟩)]; simp
 rw [bo_pos h]
 have hP : Para t.s t.t := ⟨hf, hg, h.1, h.2⟩
 obtain ⟨k1, k2, k3, k4, k5, k6, k7, k8, k9, k10⟩ := hP.fact
 have lo := hf.lo
 have b2 : B64 ((t.s.t.fr.length : Int) - 1) := ⟨by omega, by omega⟩
 by_cases h1 : (t.p.length : Int) = t.s.s.n
 case neg => rw [bo_neg (fun q => h1 (by rw [q.2.1, lo]))]; simp [h1]
 by_cases h2 : t.p.all (inR t.s.t.fr.length) = true
 case neg => rw [bo_neg (fun q => h2 (all_inR.2 q.2.2.1))]; simp [s_i_Category_arrows, s_i_within, ass_pos b2, h1, h2]
 have bd := all_inR.1 h2
 simp only [s_i_Category_arrows, s_i_within, ass_pos b2, h1, h2, not_true_eq_false, if_false, Option.bind_some, Bool.not_true, Bool.false_eq_true]
 refine chk_bind t.p.length (fun x : Nat => ix t.s.t.fr (ix t.p x) = ix t.s.ob x ∧ ix t.s.t.to (ix t.p x) = ix t.t.ob x) (eb := Sum.inr false) (eg := Sum.inl ()) (by omega) (fun a hi hp => ?_) (fun a hi hp => ?_) (by simp; try omega) (fun hx => ?_) fun q1 => ?_
 · have := bd a hi
   simp (disch := omega) [ass_pos, B64, s_i_Category_ends, hp.1, hp.2]; omega
 · have := bd a hi
   by_cases hp1 : ix t.s.t.fr (ix t.p a) = ix t.s.ob a
   · have hp2 : ¬ ix t.s.t.to (ix t.p a) = ix t.t.ob a := fun q => hp ⟨hp1, q⟩
     simp (disch := omega) [ass_pos, B64, s_i_Category_ends, hp1, hp2]; try omega
   simp (disch := omega) [ass_pos, B64, s_i_Category_ends, hp1]; try omega
 · rw [bo_neg (fun q => hx q.2.2.2)]
 rw [bo_pos ⟨hP, by omega, bd, q1⟩]
theorem e_isNatural (t : Tra) : s_i_Transformation_isNatural t = some (bo t.Is) := by
 unfold s_i_Transformation_isNatural
 rw [e_Tshape]
 by_cases h : Para t.s t.t ∧ t.p.length = t.s.ob.length ∧ (∀ j : Nat, j < t.p.length → 0 ≤ ix t.p j ∧ ix t.p j < t.s.t.fr.length) ∧ ∀ x : Nat, x < t.p.length → ix t.s.t.fr (ix t.p x) = ix t.s.ob x ∧ ix t.s.t.to (ix t.p x) = ix t.t.ob x
 case neg => rw [bo_neg h, bo_neg (show ¬ t.Is from fun q => h ⟨q.p, q.n.lp, q.n.bd, q.n.ends⟩)]; simp
 rw [bo_pos h]
 obtain ⟨hP, lp, bd, en⟩ := h
 obtain ⟨v, hv, hiff⟩ := e_firstFail hP lp bd
 have hv' : s_i_firstFailure__i_commutes t = some v := hv
 by_cases hn : v < 0
 · rw [bo_pos (show t.Is from ⟨hP, lp, bd, en, hiff.1 hn⟩)]; simp [hv', hn]
 rw [bo_neg (show ¬ t.Is from fun q => hn (hiff.2 q.n.sq))]; simp [hv', hn]
theorem e_areNatural (ts : List Tra) (hl : ts.length ≤ 1048576) : s_i_areNatural ts = some (bo (∀ t ∈ ts, t.Is)) := by
 unfold s_i_areNatural
 refine chk_bind ts.length (fun i : Nat => (gx ts i).Is) (eb := Sum.inr false) (eg := Sum.inl ()) (by omega) (fun a hi hp => ?_) (fun a hi hp => ?_) (by simp) (fun hx => ?_) fun q1 => ?_
 · simp (disch := omega) [ass_pos, B64, e_isNatural, bo_pos hp, hi]
 · simp (disch := omega) [ass_pos, B64, e_isNatural, bo_neg hp, hi]
 · rw [bo_neg (show ¬ ∀ c ∈ ts, c.Is from fun q => hx fun i hi => q _ (by rw [gx_nat _ hi]; exact List.getElem_mem hi))]
 rw [bo_pos (show ∀ c ∈ ts, c.Is from fun c hc => by obtain ⟨i, hi, rfl⟩ := List.getElem_of_mem hc; have := q1 i hi; rwa [gx_nat _ hi] at this)]
end Go.Vc.T
