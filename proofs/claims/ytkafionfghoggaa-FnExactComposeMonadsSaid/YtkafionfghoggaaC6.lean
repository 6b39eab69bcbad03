/- A part of the proof: a verified generator of conditions, and what each function of the program does. -/
import Derived.Test.YtkafionfghoggaaC5
set_option maxRecDepth 100000
set_option linter.unusedSimpArgs false
set_option linter.unusedVariables false

set_option maxRecDepth 100000
set_option linter.unusedSimpArgs false
set_option linter.unusedVariables false
namespace Go.Vc.T
open Go Go.Vc Go.Proofs
noncomputable def s_s_l06Make (c_ : Cat) (d_ : Cat) (objects_ : List Int) (arrows_ : List Int) : Option Fn :=
 (s_s_l02Own c_).bind fun v1 =>
 (s_s_l02Own d_).bind fun v2 =>
 (s_s_l01Own objects_).bind fun v3 =>
 (s_s_l01Own arrows_).bind fun v4 =>
 some (⟨v1, v2, v3, v4⟩ : Fn)
set_option maxHeartbeats 4000000 in
theorem w_s_l06Make (c_ : Cat) (d_ : Cat) (objects_ : List Int) (arrows_ : List Int) (r : Fn) (h : s_s_l06Make c_ d_ objects_ arrows_ = some r) : Contract Try.prog 163 [.agg (c_.cells true), .agg (d_.cells true), .lst true 1 (Is objects_), .lst true 1 (Is arrows_)] (.agg (r.cells true)) := by
 refine contract_introG (rvs := [.cell 8 35]) (rs := [.agg (r.cells true)]) Try.func163 rfl rfl rfl rfl (by simp [Try.f163]) fun F hN hP => ?_
 unfold s_s_l06Make at h
 refine w_seq ?_
 refine w_run mo (by rw [hN]; decide) fun K hK => ?_
 simp [-guardE_b, -Is_at, -Is_at', -Ls_at, -Ls_at', eL, eI, allInts, eP_Cat, eP_Fn, Cat.cells, Fn.cells]
 repeat (with_reducible refine And.intro ?_ ?_; · first | assumption | omega | (simp; done) | (simp; omega) | simp_all)
 refine hK _ ?_
 clear hK K
 refine tn ?_
 refine w_weak (st' := ⟨[(2, .lst true 1 (Is objects_)), (3, .lst true 1 (Is arrows_)), (4, .adr 0 0 0), (5, .adr 1 0 0), (8, .adr 2 0 0)], [(0, .mix 5 [(Cat.cells true c_)]), (1, .mix 5 [(Cat.cells true d_)]), (2, .mix 12 [[.val (.int .i64 0), .val (.slice none 0 0), .val (.slice none 0 0), .val (.slice none 0 0), .val (.slice none 0 0), .val (.int .i64 0), .val (.slice none 0 0), .val (.slice none 0 0), .val (.slice none 0 0), .val (.slice none 0 0), .val (.slice none 0 0), .val (.slice none 0 0)]])], 3⟩) (Wk.r1 [(0, 0), (1, 1), (2, 2)] (by simp [hP, hhOk, back, Cat.cells, Fn.cells, IA, I1, LA, L1, BA, B1, EA, E1, E2, eB, eI, eL])) ?_
 refine w_seq ?_
 refine w_run mo (by rw [hN]; decide) fun K hK => ?_
 simp [-guardE_b, -Is_at, -Is_at', -Ls_at, -Ls_at', eL, eI, allInts, eP_Cat, eP_Fn, Cat.cells, Fn.cells]
 repeat (with_reducible refine And.intro ?_ ?_; · first | assumption | omega | (simp; done) | (simp; omega) | simp_all)
 replace h := bind_some h
 obtain ⟨v1, hv1, h⟩ := h
 refine callA_intro (w_s_l02Own _ v1 hv1) (.cons (.aggL (.cons .val (.cons .lst (.cons .lst (.cons .lst (.cons .lst .nil)))))) .nil) ?_
 simp [-guardE_b, -Is_at, -Is_at', -Ls_at, -Ls_at', unk, unA, unE, unT, unC, flat, eL, eI, allInts, eP_Cat, eP_Fn, Cat.cells, Fn.cells]
 repeat (with_reducible refine And.intro ?_ ?_; · first | assumption | omega | (simp; done) | (simp; omega) | simp_all)
 replace h := bind_some h
 obtain ⟨v2, hv2, h⟩ := h
 refine callA_intro (w_s_l02Own _ v2 hv2) (.cons (.aggL (.cons .val (.cons .lst (.cons .lst (.cons .lst (.cons .lst .nil)))))) .nil) ?_
 simp [-guardE_b, -Is_at, -Is_at', -Ls_at, -Ls_at', unk, unA, unE, unT, unC, flat, eL, eI, allInts, eP_Cat, eP_Fn, Cat.cells, Fn.cells]
 repeat (with_reducible refine And.intro ?_ ?_; · first | assumption | omega | (simp; done) | (simp; omega) | simp_all)
 replace h := bind_some h
 obtain ⟨v3, hv3, h⟩ := h
 refine callA_intro (w_s_l01Own _ v3 hv3) (.cons .lst .nil) ?_
 simp [-guardE_b, -Is_at, -Is_at', -Ls_at, -Ls_at', unk, unA, unE, unT, unC, flat, eL, eI, allInts, eP_Cat, eP_Fn, Cat.cells, Fn.cells]
 repeat (with_reducible refine And.intro ?_ ?_; · first | assumption | omega | (simp; done) | (simp; omega) | simp_all)
 replace h := bind_some h
 obtain ⟨v4, hv4, h⟩ := h
 refine callA_intro (w_s_l01Own _ v4 hv4) (.cons .lst .nil) ?_
 simp [-guardE_b, -Is_at, -Is_at', -Ls_at, -Ls_at', unk, unA, unE, unT, unC, flat, eL, eI, allInts, eP_Cat, eP_Fn, Cat.cells, Fn.cells]
 repeat (with_reducible refine And.intro ?_ ?_; · first | assumption | omega | (simp; done) | (simp; omega) | simp_all)
 refine hK _ ?_
 clear hK K
 refine tn ?_
 refine w_weak (st' := ⟨[(8, .adr 0 0 0)], [(0, .mix 12 [[.val (.int .i64 v1.n), .own 1 0 v1.fr.length, .own 2 0 v1.to.length, .own 3 0 v1.id.length, .own 4 0 v1.cs.length, .val (.int .i64 v2.n), .own 5 0 v2.fr.length, .own 6 0 v2.to.length, .own 7 0 v2.id.length, .own 8 0 v2.cs.length, .own 9 0 v3.length, .own 10 0 v4.length]]), (1, .row 1 (Is v1.fr)), (2, .row 1 (Is v1.to)), (3, .row 1 (Is v1.id)), (4, .row 1 (Ls v1.cs)), (5, .row 1 (Is v2.fr)), (6, .row 1 (Is v2.to)), (7, .row 1 (Is v2.id)), (8, .row 1 (Ls v2.cs)), (9, .row 1 (Is v3)), (10, .row 1 (Is v4))], 11⟩) (Wk.r1 [(2, 0), (4, 1), (5, 2), (6, 3), (7, 4), (9, 5), (10, 6), (11, 7), (12, 8), (13, 9), (14, 10)] (by simp [hP, hhOk, back, Cat.cells, Fn.cells, IA, I1, LA, L1, BA, B1, EA, E1, E2, eB, eI, eL])) ?_
 refine w_ret ?_
 have hr := Option.some.inj h
 rw [← hr]
 refine ⟨_, (.cell tf_35 rfl rfl rfl (by simp) (by simp) .nil), ?_⟩
 refine ⟨(.agg rfl .nil), [.val (.int .i64 v1.n), .lst true 1 (Is v1.fr), .lst true 1 (Is v1.to), .lst true 1 (Is v1.id), .lst true 1 (Ls v1.cs), .val (.int .i64 v2.n), .lst true 1 (Is v2.fr), .lst true 1 (Is v2.to), .lst true 1 (Is v2.id), .lst true 1 (Ls v2.cs), .lst true 1 (Is v3), .lst true 1 (Is v4)], [1, 2, 3, 4, 5, 6, 7, 8, 9, 10], by simp [Cat.cells, Fn.cells, IA, I1, LA, L1, BA, B1, EA, E1, E2, eB, eI, eL], by simp, (UpL.refl _)⟩
noncomputable def s_i_functor (c_ : Cat) (d_ : Cat) (objects_ : List Int) (arrows_ : List Int) : Option Fn :=
 (s_i_Category_copy c_).bind fun v1 =>
 (s_i_Category_copy d_).bind fun v2 =>
 (s_i_clone objects_).bind fun v3 =>
 (s_i_clone arrows_).bind fun v4 =>
 some (⟨v1, v2, v3, v4⟩ : Fn)
set_option maxHeartbeats 4000000 in
theorem w_i_functor (c_ : Cat) (d_ : Cat) (objects_ : List Int) (arrows_ : List Int) (r : Fn) (h : s_i_functor c_ d_ objects_ arrows_ = some r) : Contract Try.prog 166 [.rptr (c_.cells true), .rptr (d_.cells true), .lst true 1 (Is objects_), .lst true 1 (Is arrows_)] (.agg (r.cells true)) := by
 refine contract_introG (rvs := [.cell 8 35]) (rs := [.agg (r.cells true)]) Try.func166 rfl rfl rfl rfl (by simp [Try.f166]) fun F hN hP => ?_
 unfold s_i_functor at h
 refine w_seq ?_
 refine w_run mo (by rw [hN]; decide) fun K hK => ?_
 simp [-guardE_b, -Is_at, -Is_at', -Ls_at, -Ls_at', eL, eI, allInts, eP_Cat, eP_Fn, Cat.cells, Fn.cells]
 repeat (with_reducible refine And.intro ?_ ?_; · first | assumption | omega | (simp; done) | (simp; omega) | simp_all)
 refine hK _ ?_
 clear hK K
 refine tn ?_
 refine w_weak (st' := ⟨[(0, .rptr (Cat.cells true c_)), (1, .rptr (Cat.cells true d_)), (2, .lst true 1 (Is objects_)), (3, .lst true 1 (Is arrows_)), (8, .adr 0 0 0)], [(0, .mix 12 [[.val (.int .i64 0), .val (.slice none 0 0), .val (.slice none 0 0), .val (.slice none 0 0), .val (.slice none 0 0), .val (.int .i64 0), .val (.slice none 0 0), .val (.slice none 0 0), .val (.slice none 0 0), .val (.slice none 0 0), .val (.slice none 0 0), .val (.slice none 0 0)]])], 1⟩) (Wk.r1 [(0, 0)] (by simp [hP, hhOk, back, Cat.cells, Fn.cells, IA, I1, LA, L1, BA, B1, EA, E1, E2, eB, eI, eL])) ?_
 refine w_seq ?_
 refine w_run mo (by rw [hN]; decide) fun K hK => ?_
 simp [-guardE_b, -Is_at, -Is_at', -Ls_at, -Ls_at', eL, eI, allInts, eP_Cat, eP_Fn, Cat.cells, Fn.cells]
 repeat (with_reducible refine And.intro ?_ ?_; · first | assumption | omega | (simp; done) | (simp; omega) | simp_all)
 replace h := bind_some h
 obtain ⟨v1, hv1, h⟩ := h
 refine callA_intro (w_i_Category_copy _ v1 hv1) (.cons (.preT (by simp [Cat.cells])) .nil) ?_
 simp [-guardE_b, -Is_at, -Is_at', -Ls_at, -Ls_at', unk, unA, unE, unT, unC, flat, eL, eI, allInts, eP_Cat, eP_Fn, Cat.cells, Fn.cells]
 repeat (with_reducible refine And.intro ?_ ?_; · first | assumption | omega | (simp; done) | (simp; omega) | simp_all)
 replace h := bind_some h
 obtain ⟨v2, hv2, h⟩ := h
 refine callA_intro (w_i_Category_copy _ v2 hv2) (.cons (.preT (by simp [Cat.cells])) .nil) ?_
 simp [-guardE_b, -Is_at, -Is_at', -Ls_at, -Ls_at', unk, unA, unE, unT, unC, flat, eL, eI, allInts, eP_Cat, eP_Fn, Cat.cells, Fn.cells]
 repeat (with_reducible refine And.intro ?_ ?_; · first | assumption | omega | (simp; done) | (simp; omega) | simp_all)
 replace h := bind_some h
 obtain ⟨v3, hv3, h⟩ := h
 refine callA_intro (w_i_clone _ v3 hv3) (.cons .lst .nil) ?_
 simp [-guardE_b, -Is_at, -Is_at', -Ls_at, -Ls_at', unk, unA, unE, unT, unC, flat, eL, eI, allInts, eP_Cat, eP_Fn, Cat.cells, Fn.cells]
 repeat (with_reducible refine And.intro ?_ ?_; · first | assumption | omega | (simp; done) | (simp; omega) | simp_all)
 replace h := bind_some h
 obtain ⟨v4, hv4, h⟩ := h
 refine callA_intro (w_i_clone _ v4 hv4) (.cons .lst .nil) ?_
 simp [-guardE_b, -Is_at, -Is_at', -Ls_at, -Ls_at', unk, unA, unE, unT, unC, flat, eL, eI, allInts, eP_Cat, eP_Fn, Cat.cells, Fn.cells]
 repeat (with_reducible refine And.intro ?_ ?_; · first | assumption | omega | (simp; done) | (simp; omega) | simp_all)
 refine hK _ ?_
 clear hK K
 refine tn ?_
 refine w_weak (st' := ⟨[(8, .adr 0 0 0)], [(0, .mix 12 [[.val (.int .i64 v1.n), .own 1 0 v1.fr.length, .own 2 0 v1.to.length, .own 3 0 v1.id.length, .own 4 0 v1.cs.length, .val (.int .i64 v2.n), .own 5 0 v2.fr.length, .own 6 0 v2.to.length, .own 7 0 v2.id.length, .own 8 0 v2.cs.length, .own 9 0 v3.length, .own 10 0 v4.length]]), (1, .row 1 (Is v1.fr)), (2, .row 1 (Is v1.to)), (3, .row 1 (Is v1.id)), (4, .row 1 (Ls v1.cs)), (5, .row 1 (Is v2.fr)), (6, .row 1 (Is v2.to)), (7, .row 1 (Is v2.id)), (8, .row 1 (Ls v2.cs)), (9, .row 1 (Is v3)), (10, .row 1 (Is v4))], 11⟩) (Wk.r1 [(0, 0), (2, 1), (3, 2), (4, 3), (5, 4), (7, 5), (8, 6), (9, 7), (10, 8), (11, 9), (12, 10)] (by simp [hP, hhOk, back, Cat.cells, Fn.cells, IA, I1, LA, L1, BA, B1, EA, E1, E2, eB, eI, eL])) ?_
 refine w_ret ?_
 have hr := Option.some.inj h
 rw [← hr]
 refine ⟨_, (.cell tf_35 rfl rfl rfl (by simp) (by simp) .nil), ?_⟩
 refine ⟨(.agg rfl .nil), [.val (.int .i64 v1.n), .lst true 1 (Is v1.fr), .lst true 1 (Is v1.to), .lst true 1 (Is v1.id), .lst true 1 (Ls v1.cs), .val (.int .i64 v2.n), .lst true 1 (Is v2.fr), .lst true 1 (Is v2.to), .lst true 1 (Is v2.id), .lst true 1 (Ls v2.cs), .lst true 1 (Is v3), .lst true 1 (Is v4)], [1, 2, 3, 4, 5, 6, 7, 8, 9, 10], by simp [Cat.cells, Fn.cells, IA, I1, LA, L1, BA, B1, EA, E1, E2, eB, eI, eL], by simp, (UpL.refl _)⟩
noncomputable def s_s_l02Unit (c_ : Cat) (f_ : Int) : Option Bool :=
 ass (0 ≤ f_ ∧ f_ < (c_.fr.length : Int)) <|
 ass (0 ≤ ix c_.fr f_ ∧ ix c_.fr f_ < (c_.id.length : Int)) <|
 some ((ix c_.id (ix c_.fr f_)) == f_)
set_option maxHeartbeats 4000000 in
theorem w_s_l02Unit (c_ : Cat) (f_ : Int) (r : Bool) (h : s_s_l02Unit c_ f_ = some r) : Contract Try.prog 170 [.agg (c_.cells true), .val (.int .i64 f_)] (.val (.bool r)) := by
 refine contract_introG (rvs := [.tmp 4]) (rs := [.val (.bool r)]) Try.func170 rfl rfl rfl rfl (by simp [Try.f170]) fun F hN hP => ?_
 unfold s_s_l02Unit at h
 refine w_seq ?_
 refine w_run mo (by rw [hN]; decide) fun K hK => ?_
 simp [-guardE_b, -Is_at, -Is_at', -Ls_at, -Ls_at', eL, eI, allInts, eP_Cat, Cat.cells]
 repeat (with_reducible refine And.intro ?_ ?_; · first | assumption | omega | (simp; done) | (simp; omega) | simp_all)
 refine hK _ ?_
 clear hK K
 refine tn ?_
 refine w_weak (st' := ⟨[(1, .val (.int .i64 f_)), (2, .adr 0 0 0)], [(0, .mix 5 [(Cat.cells true c_)])], 1⟩) (Wk.r1 [(0, 0)] (by simp [hP, hhOk, back, Cat.cells, IA, I1, LA, L1, BA, B1, EA, E1, E2, eB, eI, eL])) ?_
 refine w_seq ?_
 refine w_run mo (by rw [hN]; decide) fun K hK => ?_
 replace h := ass_some h
 obtain ⟨a1, h⟩ := h
 replace h := ass_some h
 obtain ⟨a2, h⟩ := h
 simp [-guardE_b, -Is_at, -Is_at', -Ls_at, -Ls_at', eL, eI, allInts, eP_Cat, Cat.cells, at_I a1, at_I a2]
 repeat (with_reducible refine And.intro ?_ ?_; · first | assumption | omega | (simp; done) | (simp; omega) | simp_all)
 refine hK _ ?_
 clear hK K
 refine tn ?_
 refine w_weak (st' := ⟨[(4, .val (.bool ((ix c_.id (ix c_.fr f_)) == f_)))], [], 0⟩) (Wk.r1 [] (by simp [hP, hhOk, back, Cat.cells, IA, I1, LA, L1, BA, B1, EA, E1, E2, eB, eI, eL])) ?_
 refine w_ret ?_
 have hr := Option.some.inj h
 rw [← hr]
 refine ⟨_, (.tmp .nil), ?_⟩
 refine ⟨(.one rfl rfl .nil), [.val (.bool ((ix c_.id (ix c_.fr f_)) == f_))], [], by simp [Cat.cells, IA, I1, LA, L1, BA, B1, EA, E1, E2, eB, eI, eL], by simp, (UpL.refl _)⟩
end Go.Vc.T

set_option maxRecDepth 100000
set_option linter.unusedSimpArgs false
set_option linter.unusedVariables false
namespace Go.Vc.T
open Go Go.Vc Go.Proofs
noncomputable def s_i_commutes (f_ : Fn) (g_ : Fn) (components_ : List Int) (a_ : Int) : Option Bool :=
 ass (0 ≤ a_ ∧ a_ < (f_.ar.length : Int)) <|
 ass (0 ≤ a_ ∧ a_ < (f_.s.to.length : Int)) <|
 ass (0 ≤ ix f_.s.to a_ ∧ ix f_.s.to a_ < (components_.length : Int)) <|
 (s_i_Category_then f_.t (ix f_.ar a_) (ix components_ (ix f_.s.to a_))).bind fun v4 =>
 ass (0 ≤ a_ ∧ a_ < (f_.s.fr.length : Int)) <|
 ass (0 ≤ ix f_.s.fr a_ ∧ ix f_.s.fr a_ < (components_.length : Int)) <|
 ass (0 ≤ a_ ∧ a_ < (g_.ar.length : Int)) <|
 (s_i_Category_then f_.t (ix components_ (ix f_.s.fr a_)) (ix g_.ar a_)).bind fun v8 =>
 some (v4 == v8)
set_option maxHeartbeats 4000000 in
theorem w_i_commutes (f_ : Fn) (g_ : Fn) (components_ : List Int) (a_ : Int) (r : Bool) (h : s_i_commutes f_ g_ components_ a_ = some r) : Contract Try.prog 186 [.rptr (f_.cells true), .rptr (g_.cells true), .lst true 1 (Is components_), .val (.int .i64 a_)] (.val (.bool r)) := by
 refine contract_introG (rvs := [.tmp 8]) (rs := [.val (.bool r)]) Try.func186 rfl rfl rfl rfl (by simp [Try.f186]) fun F hN hP => ?_
 unfold s_i_commutes at h
 refine w_seq ?_
 refine w_run mo (by rw [hN]; decide) fun K hK => ?_
 simp [-guardE_b, -Is_at, -Is_at', -Ls_at, -Ls_at', eL, eI, allInts, eP_Cat, eP_Fn, Cat.cells, Fn.cells]
 repeat (with_reducible refine And.intro ?_ ?_; · first | assumption | omega | (simp; done) | (simp; omega) | simp_all)
 refine hK _ ?_
 clear hK K
 refine tn ?_
 refine w_weak (st' := ⟨[(0, .rptr (Fn.cells true f_)), (1, .rptr (Fn.cells true g_)), (2, .lst true 1 (Is components_)), (3, .val (.int .i64 a_))], [], 0⟩) (Wk.r1 [] (by simp [hP, hhOk, back, Cat.cells, Fn.cells, IA, I1, LA, L1, BA, B1, EA, E1, E2, eB, eI, eL])) ?_
 refine w_seq ?_
 refine w_run mo (by rw [hN]; decide) fun K hK => ?_
 simp [-guardE_b, -Is_at, -Is_at', -Ls_at, -Ls_at', eL, eI, allInts, eP_Cat, eP_Fn, Cat.cells, Fn.cells]
 repeat (with_reducible refine And.intro ?_ ?_; · first | assumption | omega | (simp; done) | (simp; omega) | simp_all)
 refine hK _ ?_
 clear hK K
 refine tn ?_
 refine w_weak (st' := ⟨[(0, .rptr (Fn.cells true f_)), (1, .rptr (Fn.cells true g_)), (2, .lst true 1 (Is components_)), (3, .val (.int .i64 a_)), (9, .rptr (Fn.cells true f_)), (10, .rptr [.val (.int .i64 f_.t.n), .lst true 1 (Is f_.t.fr), .lst true 1 (Is f_.t.to), .lst true 1 (Is f_.t.id), .lst true 1 (Ls f_.t.cs), .lst true 1 (Is f_.ob), .lst true 1 (Is f_.ar)])], [], 0⟩) (Wk.r1 [] (by simp [hP, hhOk, back, Cat.cells, Fn.cells, IA, I1, LA, L1, BA, B1, EA, E1, E2, eB, eI, eL])) ?_
 refine w_seq ?_
 refine w_run mo (by rw [hN]; decide) fun K hK => ?_
 replace h := ass_some h
 obtain ⟨a1, h⟩ := h
 replace h := ass_some h
 obtain ⟨a2, h⟩ := h
 replace h := ass_some h
 obtain ⟨a3, h⟩ := h
 simp [-guardE_b, -Is_at, -Is_at', -Ls_at, -Ls_at', eL, eI, allInts, eP_Cat, eP_Fn, Cat.cells, Fn.cells, at_I a1, at_I a2, at_I a3]
 repeat (with_reducible refine And.intro ?_ ?_; · first | assumption | omega | (simp; done) | (simp; omega) | simp_all)
 replace h := bind_some h
 obtain ⟨v4, hv4, h⟩ := h
 refine callA_intro (w_i_Category_then _ _ _ v4 hv4) (.cons (.preT (by simp [Cat.cells, Fn.cells])) (.cons .val (.cons .val .nil))) ?_
 replace h := ass_some h
 obtain ⟨a5, h⟩ := h
 replace h := ass_some h
 obtain ⟨a6, h⟩ := h
 replace h := ass_some h
 obtain ⟨a7, h⟩ := h
 simp [-guardE_b, -Is_at, -Is_at', -Ls_at, -Ls_at', unk, unA, unE, unT, unC, flat, eL, eI, allInts, eP_Cat, eP_Fn, Cat.cells, Fn.cells, at_I a5, at_I a6, at_I a7]
 repeat (with_reducible refine And.intro ?_ ?_; · first | assumption | omega | (simp; done) | (simp; omega) | simp_all)
 replace h := bind_some h
 obtain ⟨v8, hv8, h⟩ := h
 refine callA_intro (w_i_Category_then _ _ _ v8 hv8) (.cons (.preT (by simp [Cat.cells, Fn.cells])) (.cons .val (.cons .val .nil))) ?_
 simp [-guardE_b, -Is_at, -Is_at', -Ls_at, -Ls_at', unk, unA, unE, unT, unC, flat, eL, eI, allInts, eP_Cat, eP_Fn, Cat.cells, Fn.cells]
 repeat (with_reducible refine And.intro ?_ ?_; · first | assumption | omega | (simp; done) | (simp; omega) | simp_all)
 refine hK _ ?_
 clear hK K
 refine tn ?_
 refine w_weak (st' := ⟨[(8, .val (.bool (v4 == v8)))], [], 0⟩) (Wk.r1 [] (by simp [hP, hhOk, back, Cat.cells, Fn.cells, IA, I1, LA, L1, BA, B1, EA, E1, E2, eB, eI, eL])) ?_
 refine w_ret ?_
 have hr := Option.some.inj h
 rw [← hr]
 refine ⟨_, (.tmp .nil), ?_⟩
 refine ⟨(.one rfl rfl .nil), [.val (.bool (v4 == v8))], [], by simp [Cat.cells, Fn.cells, IA, I1, LA, L1, BA, B1, EA, E1, E2, eB, eI, eL], by simp, (UpL.refl _)⟩
end Go.Vc.T

set_option maxRecDepth 100000
set_option linter.unusedSimpArgs false
set_option linter.unusedVariables false
namespace Go.Vc.T
open Go Go.Vc Go.Proofs
noncomputable def s_i_parallelFunctors (f_ : Fn) (g_ : Fn) : Option Bool :=
 (
   (s_i_sameCategory f_.s g_.s).bind fun v2 =>
   if v2 = true then
     (s_i_sameCategory f_.t g_.t).bind fun v4 =>
     some v4
   else
     some false : Option (Bool)).bind fun b1 =>
 some b1
set_option maxHeartbeats 4000000 in
theorem w_i_parallelFunctors (f_ : Fn) (g_ : Fn) (r : Bool) (h : s_i_parallelFunctors f_ g_ = some r) : Contract Try.prog 236 [.rptr (f_.cells true), .rptr (g_.cells true)] (.val (.bool r)) := by
 refine contract_introG (rvs := [.tmp 4]) (rs := [.val (.bool r)]) Try.func236 rfl rfl rfl rfl (by simp [Try.f236]) fun F hN hP => ?_
 unfold s_i_parallelFunctors at h
 refine w_seq ?_
 refine w_run mo (by rw [hN]; decide) fun K hK => ?_
 simp [-guardE_b, -Is_at, -Is_at', -Ls_at, -Ls_at', eL, eI, allInts, eP_Cat, eP_Fn, Cat.cells, Fn.cells]
 repeat (with_reducible refine And.intro ?_ ?_; · first | assumption | omega | (simp; done) | (simp; omega) | simp_all)
 refine hK _ ?_
 clear hK K
 refine tn ?_
 refine w_weak (st' := ⟨[(0, .rptr (Fn.cells true f_)), (1, .rptr (Fn.cells true g_))], [], 0⟩) (Wk.r1 [] (by simp [hP, hhOk, back, Cat.cells, Fn.cells, IA, I1, LA, L1, BA, B1, EA, E1, E2, eB, eI, eL])) ?_
 refine w_seq ?_
 replace h := bind_some h
 obtain ⟨e1, h, h1⟩ := h
 refine w_joinT (fun b1 : Bool => ⟨[(4, .val (.bool b1))], [], 0⟩) (fun b1 => b1 = e1) ?_ ?_
 · refine w_run mo (by rw [hN]; decide) fun K hK => ?_
   simp [-guardE_b, -Is_at, -Is_at', -Ls_at, -Ls_at', eL, eI, allInts, eP_Cat, eP_Fn, Cat.cells, Fn.cells]
   repeat (with_reducible refine And.intro ?_ ?_; · first | assumption | omega | (simp; done) | (simp; omega) | simp_all)
   replace h := bind_some h
   obtain ⟨v2, hv2, h⟩ := h
   refine callA_intro (w_i_sameCategory _ _ v2 hv2) (.cons (.preT (by simp [Cat.cells, Fn.cells])) (.cons (.preT (by simp [Cat.cells, Fn.cells])) .nil)) ?_
   simp [-guardE_b, -Is_at, -Is_at', -Ls_at, -Ls_at', unk, unA, unE, unT, unC, flat, eL, eI, allInts, eP_Cat, eP_Fn, Cat.cells, Fn.cells]
   repeat (with_reducible refine And.intro ?_ ?_; · first | assumption | omega | (simp; done) | (simp; omega) | simp_all)
   refine guard_intro (fun g => ?_) (fun g => ?_)
   · have g3 : v2 = true := by first | simpa using g | (simp at g; exact g) | (simp at g; omega)
     clear g
     replace h := if_l g3 h
     simp [-guardE_b, -Is_at, -Is_at', -Ls_at, -Ls_at', eL, eI, allInts, eP_Cat, eP_Fn, Cat.cells, Fn.cells]
     repeat (with_reducible refine And.intro ?_ ?_; · first | assumption | omega | (simp; done) | (simp; omega) | simp_all)
     replace h := bind_some h
     obtain ⟨v4, hv4, h⟩ := h
     refine callA_intro (w_i_sameCategory _ _ v4 hv4) (.cons (.preT (by simp [Cat.cells, Fn.cells])) (.cons (.preT (by simp [Cat.cells, Fn.cells])) .nil)) ?_
     simp [-guardE_b, -Is_at, -Is_at', -Ls_at, -Ls_at', unk, unA, unE, unT, unC, flat, eL, eI, allInts, eP_Cat, eP_Fn, Cat.cells, Fn.cells]
     repeat (with_reducible refine And.intro ?_ ?_; · first | assumption | omega | (simp; done) | (simp; omega) | simp_all)
     refine hK _ ?_
     exact jn (b := v4) (Option.some.inj h) (Wk.r1 [] (by simp [hP, hhOk, back, Cat.cells, Fn.cells, IA, I1, LA, L1, BA, B1, EA, E1, E2, eB, eI, eL]))
   have g3 : ¬ (v2 = true) := by first | simpa using g | (simp at g; exact g) | (simp at g; omega)
   clear g
   replace h := if_r g3 h
   simp [-guardE_b, -Is_at, -Is_at', -Ls_at, -Ls_at', eL, eI, allInts, eP_Cat, eP_Fn, Cat.cells, Fn.cells]
   repeat (with_reducible refine And.intro ?_ ?_; · first | assumption | omega | (simp; done) | (simp; omega) | simp_all)
   refine hK _ ?_
   exact jn (b := false) (Option.some.inj h) (Wk.r1 [] (by simp [hP, hhOk, back, Cat.cells, Fn.cells, IA, I1, LA, L1, BA, B1, EA, E1, E2, eB, eI, eL]))
 intro b1 hb1
 have h := h1
 rw [← hb1] at h
 clear h1
 try dsimp only at h
 refine w_ret ?_
 have hr := Option.some.inj h
 rw [← hr]
 refine ⟨_, (.tmp .nil), ?_⟩
 refine ⟨(.one rfl rfl .nil), [.val (.bool b1)], [], by simp [Cat.cells, Fn.cells, IA, I1, LA, L1, BA, B1, EA, E1, E2, eB, eI, eL], by simp, (UpL.refl _)⟩
end Go.Vc.T

set_option maxRecDepth 100000
set_option linter.unusedSimpArgs false
set_option linter.unusedVariables false
namespace Go.Vc.T
open Go Go.Vc Go.Proofs
noncomputable def s_i_firstFailure__i_commutes (t_ : Tra) : Option Int :=
 (loopF (σ := Int) (ε := Unit ⊕ Int) (fun s6 =>
   if s6 < (t_.s.ar.length : Int) then
     (s_i_commutes t_.s t_.t t_.p s6).bind fun v8 =>
     if ¬ (v8 = true) then
       some (Ctl.ret (Sum.inr s6))
     else
       ass (B64 (s6 + 1)) <|
       some (Ctl.next (s6 + 1))
   else
     some (Ctl.ret (Sum.inl ()))) fuel 0).bind fun e1 =>
 match e1 with
 | .inl b1 =>
   some (-1)
 | .inr p1 =>
   some p1
set_option maxHeartbeats 4000000 in
theorem w_i_firstFailure__i_commutes (t_ : Tra) (r : Int) (h : s_i_firstFailure__i_commutes t_ = some r) : Contract Try.prog 185 [.rptr (t_.cells true), .fn 186 []] (.val (.int .i64 r)) := by
 refine contract_introG (rvs := [.tmp 4]) (rs := [.val (.int .i64 r)]) Try.func185 rfl rfl rfl rfl (by simp [Try.f185]) fun F hN hP => ?_
 unfold s_i_firstFailure__i_commutes at h
 refine w_seq ?_
 refine w_run mo (by rw [hN]; decide) fun K hK => ?_
 simp [-guardE_b, -Is_at, -Is_at', -Ls_at, -Ls_at', eL, eI, allInts, eP_Fn, eP_Tra, Fn.cells, Tra.cells]
 repeat (with_reducible refine And.intro ?_ ?_; · first | assumption | omega | (simp; done) | (simp; omega) | simp_all)
 refine hK _ ?_
 clear hK K
 refine tn ?_
 refine w_weak (st' := ⟨[(0, .rptr (Tra.cells true t_)), (1, .fn 186 [])], [], 0⟩) (Wk.r1 [] (by simp [hP, hhOk, back, Fn.cells, Tra.cells, IA, I1, LA, L1, BA, B1, EA, E1, E2, eB, eI, eL])) ?_
 refine w_seq ?_
 refine w_seq ?_
 refine w_run mo (by rw [hN]; decide) fun K hK => ?_
 simp [-guardE_b, -Is_at, -Is_at', -Ls_at, -Ls_at', eL, eI, allInts, eP_Fn, eP_Tra, Fn.cells, Tra.cells]
 repeat (with_reducible refine And.intro ?_ ?_; · first | assumption | omega | (simp; done) | (simp; omega) | simp_all)
 refine hK _ ?_
 clear hK K
 refine tn ?_
 refine w_weak (st' := ⟨[(0, .rptr (Tra.cells true t_)), (1, .fn 186 []), (11, .val (.int .i64 (t_.s.ar.length : Int))), (12, .val (.int .i64 0))], [], 0⟩) (Wk.r1 [] (by simp [hP, hhOk, back, Fn.cells, Tra.cells, IA, I1, LA, L1, BA, B1, EA, E1, E2, eB, eI, eL])) ?_
 replace h := bind_some h
 obtain ⟨e1, h, h1⟩ := h
 refine w_joinT (fun b1 : Unit => ⟨[], [], 0⟩) (fun b1 => Sum.inl b1 = e1) ?_ ?_
 · refine w_block ?_
   refine w_loopF h (fun s6 : Int => ⟨[(0, .rptr (Tra.cells true t_)), (1, .fn 186 []), (11, .val (.int .i64 (t_.s.ar.length : Int))), (12, .val (.int .i64 s6))], [], 0⟩) (Wk.r1 [] (by simp [hP, hhOk, back, Fn.cells, Tra.cells, IA, I1, LA, L1, BA, B1, EA, E1, E2, eB, eI, eL])) ?_
   clear h
   intro k6 s6 c6 h hk6
   refine w_seq ?_
   refine w_run mo (by rw [hN]; decide) fun K hK => ?_
   simp [-guardE_b, -Is_at, -Is_at', -Ls_at, -Ls_at', eL, eI, allInts, eP_Fn, eP_Tra, Fn.cells, Tra.cells]
   repeat (with_reducible refine And.intro ?_ ?_; · first | assumption | omega | (simp; done) | (simp; omega) | simp_all)
   refine hK _ ?_
   clear hK K
   refine tn ?_
   refine w_weak (st' := ⟨[(0, .rptr (Tra.cells true t_)), (1, .fn 186 []), (11, .val (.int .i64 (t_.s.ar.length : Int))), (12, .val (.int .i64 s6)), (13, .val (.bool (decide (s6 < (t_.s.ar.length : Int)))))], [], 0⟩) (Wk.r1 [] (by simp [hP, hhOk, back, Fn.cells, Tra.cells, IA, I1, LA, L1, BA, B1, EA, E1, E2, eB, eI, eL])) ?_
   refine w_seq ?_
   refine w_cond rfl (fun g => ?_) fun g => ?_
   · have g7 : s6 < (t_.s.ar.length : Int) := by first | simpa using g | (simp at g; exact g) | (simp at g; omega)
     clear g
     replace h := if_l g7 h
     refine w_skip ?_
     refine tn ?_
     refine w_seq ?_
     refine w_block ?_
     refine w_seq ?_
     refine w_run mo (by rw [hN]; decide) fun K hK => ?_
     simp [-guardE_b, -Is_at, -Is_at', -Ls_at, -Ls_at', eL, eI, allInts, eP_Fn, eP_Tra, Fn.cells, Tra.cells]
     repeat (with_reducible refine And.intro ?_ ?_; · first | assumption | omega | (simp; done) | (simp; omega) | simp_all)
     refine hK _ ?_
     clear hK K
     refine tn ?_
     refine w_weak (st' := ⟨[(0, .rptr (Tra.cells true t_)), (1, .fn 186 []), (5, .val (.int .i64 s6)), (11, .val (.int .i64 (t_.s.ar.length : Int))), (12, .val (.int .i64 s6))], [], 0⟩) (Wk.r1 [] (by simp [hP, hhOk, back, Fn.cells, Tra.cells, IA, I1, LA, L1, BA, B1, EA, E1, E2, eB, eI, eL])) ?_
     refine w_seq ?_
     refine w_run mo (by rw [hN]; decide) fun K hK => ?_
     simp [-guardE_b, -Is_at, -Is_at', -Ls_at, -Ls_at', eL, eI, allInts, eP_Fn, eP_Tra, Fn.cells, Tra.cells]
     repeat (with_reducible refine And.intro ?_ ?_; · first | assumption | omega | (simp; done) | (simp; omega) | simp_all)
     replace h := bind_some h
     obtain ⟨v8, hv8, h⟩ := h
     refine callA_intro (w_i_commutes _ _ _ _ v8 hv8) (.cons (.preT (by simp [Fn.cells, Tra.cells])) (.cons (.preT (by simp [Fn.cells, Tra.cells])) (.cons .lst (.cons .val .nil)))) ?_
     simp [-guardE_b, -Is_at, -Is_at', -Ls_at, -Ls_at', unk, unA, unE, unT, unC, flat, eL, eI, allInts, eP_Fn, eP_Tra, Fn.cells, Tra.cells]
     repeat (with_reducible refine And.intro ?_ ?_; · first | assumption | omega | (simp; done) | (simp; omega) | simp_all)
     refine hK _ ?_
     clear hK K
     refine tn ?_
     refine w_weak (st' := ⟨[(0, .rptr (Tra.cells true t_)), (1, .fn 186 []), (5, .val (.int .i64 s6)), (11, .val (.int .i64 (t_.s.ar.length : Int))), (12, .val (.int .i64 s6)), (28, .val (.bool (!v8)))], [], 0⟩) (Wk.r1 [] (by simp [hP, hhOk, back, Fn.cells, Tra.cells, IA, I1, LA, L1, BA, B1, EA, E1, E2, eB, eI, eL])) ?_
     refine w_cond rfl (fun g => ?_) fun g => ?_
     · have g9 : ¬ (v8 = true) := by first | simpa using g | (simp at g; exact g) | (simp at g; omega)
       clear g
       replace h := if_l g9 h
       refine w_seq ?_
       refine w_run mo (by rw [hN]; decide) fun K hK => ?_
       simp [-guardE_b, -Is_at, -Is_at', -Ls_at, -Ls_at', eL, eI, allInts, eP_Fn, eP_Tra, Fn.cells, Tra.cells]
       repeat (with_reducible refine And.intro ?_ ?_; · first | assumption | omega | (simp; done) | (simp; omega) | simp_all)
       refine hK _ ?_
       clear hK K
       refine tn ?_
       refine w_weak (st' := ⟨[(4, .val (.int .i64 s6))], [], 0⟩) (Wk.r1 [] (by simp [hP, hhOk, back, Fn.cells, Tra.cells, IA, I1, LA, L1, BA, B1, EA, E1, E2, eB, eI, eL])) ?_
       refine w_ret ?_
       refine br ?_
       refine tr ?_
       refine lr ?_
       refine br ?_
       refine tr ?_
       cases h
       have q : _ = e1 := hk6
       have h := h1
       rw [← q] at h
       clear q
       try dsimp only at h
       have hr := Option.some.inj h
       rw [← hr]
       refine ⟨_, (.tmp .nil), ?_⟩
       refine ⟨(.one rfl rfl .nil), [.val (.int .i64 s6)], [], by simp [Fn.cells, Tra.cells, IA, I1, LA, L1, BA, B1, EA, E1, E2, eB, eI, eL], by simp, (UpL.refl _)⟩
     have g9 : ¬ (¬ (v8 = true)) := by first | simpa using g | (simp at g; exact g) | (simp at g; omega)
     clear g
     replace h := if_r g9 h
     refine w_skip ?_
     refine bn ?_
     refine tn ?_
     refine w_run mo (by rw [hN]; decide) fun K hK => ?_
     replace h := ass_some h
     obtain ⟨a10, h⟩ := h
     simp [-guardE_b, -Is_at, -Is_at', -Ls_at, -Ls_at', eL, eI, allInts, eP_Fn, eP_Tra, Fn.cells, Tra.cells, wrap_id a10]
     repeat (with_reducible refine And.intro ?_ ?_; · first | assumption | omega | (simp; done) | (simp; omega) | simp_all)
     refine hK _ ?_
     clear hK K
     cases h
     exact rn (s' := s6 + 1) hk6 (Wk.r1 [] (by simp [hP, hhOk, back, Fn.cells, Tra.cells, IA, I1, LA, L1, BA, B1, EA, E1, E2, eB, eI, eL]))
   have g7 : ¬ (s6 < (t_.s.ar.length : Int)) := by first | simpa using g | (simp at g; exact g) | (simp at g; omega)
   clear g
   replace h := if_r g7 h
   refine w_exit ?_
   refine tx ?_
   refine lx ?_
   refine bh ?_
   cases h
   exact jn (b := ()) hk6 (Wk.r1 [] (by simp [hP, hhOk, back, Fn.cells, Tra.cells, IA, I1, LA, L1, BA, B1, EA, E1, E2, eB, eI, eL]))
 intro b1 hb1
 have h := h1
 rw [← hb1] at h
 clear h1
 try dsimp only at h
 refine w_seq ?_
 refine w_run mo (by rw [hN]; decide) fun K hK => ?_
 simp [-guardE_b, -Is_at, -Is_at', -Ls_at, -Ls_at', eL, eI, allInts, eP_Fn, eP_Tra, Fn.cells, Tra.cells]
 repeat (with_reducible refine And.intro ?_ ?_; · first | assumption | omega | (simp; done) | (simp; omega) | simp_all)
 refine hK _ ?_
 clear hK K
 refine tn ?_
 refine w_weak (st' := ⟨[(4, .val (.int .i64 (-1)))], [], 0⟩) (Wk.r1 [] (by simp [hP, hhOk, back, Fn.cells, Tra.cells, IA, I1, LA, L1, BA, B1, EA, E1, E2, eB, eI, eL])) ?_
 refine w_ret ?_
 have hr := Option.some.inj h
 rw [← hr]
 refine ⟨_, (.tmp .nil), ?_⟩
 refine ⟨(.one rfl rfl .nil), [.val (.int .i64 (-1))], [], by simp [Fn.cells, Tra.cells, IA, I1, LA, L1, BA, B1, EA, E1, E2, eB, eI, eL], by simp, (UpL.refl _)⟩
noncomputable def s_i_Functor_copy (f_ : Fn) : Option Fn :=
 (s_i_functor f_.s f_.t f_.ob f_.ar).bind fun v1 =>
 some v1
set_option maxHeartbeats 4000000 in
theorem w_i_Functor_copy (f_ : Fn) (r : Fn) (h : s_i_Functor_copy f_ = some r) : Contract Try.prog 187 [.rptr (f_.cells true)] (.agg (r.cells true)) := by
 refine contract_introG (rvs := [.cell 2 35]) (rs := [.agg (r.cells true)]) Try.func187 rfl rfl rfl rfl (by simp [Try.f187]) fun F hN hP => ?_
 unfold s_i_Functor_copy at h
 refine w_seq ?_
 refine w_run mo (by rw [hN]; decide) fun K hK => ?_
 simp [-guardE_b, -Is_at, -Is_at', -Ls_at, -Ls_at', eL, eI, allInts, eP_Cat, eP_Fn, Cat.cells, Fn.cells]
 repeat (with_reducible refine And.intro ?_ ?_; · first | assumption | omega | (simp; done) | (simp; omega) | simp_all)
 refine hK _ ?_
 clear hK K
 refine tn ?_
 refine w_weak (st' := ⟨[(0, .rptr (Fn.cells true f_)), (2, .adr 0 0 0)], [(0, .mix 12 [[.val (.int .i64 0), .val (.slice none 0 0), .val (.slice none 0 0), .val (.slice none 0 0), .val (.slice none 0 0), .val (.int .i64 0), .val (.slice none 0 0), .val (.slice none 0 0), .val (.slice none 0 0), .val (.slice none 0 0), .val (.slice none 0 0), .val (.slice none 0 0)]])], 1⟩) (Wk.r1 [(0, 0)] (by simp [hP, hhOk, back, Cat.cells, Fn.cells, IA, I1, LA, L1, BA, B1, EA, E1, E2, eB, eI, eL])) ?_
 refine w_seq ?_
 refine w_run mo (by rw [hN]; decide) fun K hK => ?_
 simp [-guardE_b, -Is_at, -Is_at', -Ls_at, -Ls_at', eL, eI, allInts, eP_Cat, eP_Fn, Cat.cells, Fn.cells]
 repeat (with_reducible refine And.intro ?_ ?_; · first | assumption | omega | (simp; done) | (simp; omega) | simp_all)
 replace h := bind_some h
 obtain ⟨v1, hv1, h⟩ := h
 refine callA_intro (w_i_functor _ _ _ _ v1 hv1) (.cons (.preT (by simp [Cat.cells, Fn.cells])) (.cons (.preT (by simp [Cat.cells, Fn.cells])) (.cons .lst (.cons .lst .nil)))) ?_
 simp [-guardE_b, -Is_at, -Is_at', -Ls_at, -Ls_at', unk, unA, unE, unT, unC, flat, eL, eI, allInts, eP_Cat, eP_Fn, Cat.cells, Fn.cells]
 repeat (with_reducible refine And.intro ?_ ?_; · first | assumption | omega | (simp; done) | (simp; omega) | simp_all)
 refine hK _ ?_
 clear hK K
 refine tn ?_
 refine w_weak (st' := ⟨[(2, .adr 0 0 0)], [(0, .mix 12 [[.val (.int .i64 v1.s.n), .own 1 0 v1.s.fr.length, .own 2 0 v1.s.to.length, .own 3 0 v1.s.id.length, .own 4 0 v1.s.cs.length, .val (.int .i64 v1.t.n), .own 5 0 v1.t.fr.length, .own 6 0 v1.t.to.length, .own 7 0 v1.t.id.length, .own 8 0 v1.t.cs.length, .own 9 0 v1.ob.length, .own 10 0 v1.ar.length]]), (1, .row 1 (Is v1.s.fr)), (2, .row 1 (Is v1.s.to)), (3, .row 1 (Is v1.s.id)), (4, .row 1 (Ls v1.s.cs)), (5, .row 1 (Is v1.t.fr)), (6, .row 1 (Is v1.t.to)), (7, .row 1 (Is v1.t.id)), (8, .row 1 (Ls v1.t.cs)), (9, .row 1 (Is v1.ob)), (10, .row 1 (Is v1.ar))], 11⟩) (Wk.r1 [(0, 0), (2, 1), (3, 2), (4, 3), (5, 4), (7, 5), (8, 6), (9, 7), (10, 8), (11, 9), (12, 10)] (by simp [hP, hhOk, back, Cat.cells, Fn.cells, IA, I1, LA, L1, BA, B1, EA, E1, E2, eB, eI, eL])) ?_
 refine w_ret ?_
 have hr := Option.some.inj h
 rw [← hr]
 refine ⟨_, (.cell tf_35 rfl rfl rfl (by simp) (by simp) .nil), ?_⟩
 refine ⟨(.agg rfl .nil), [.val (.int .i64 v1.s.n), .lst true 1 (Is v1.s.fr), .lst true 1 (Is v1.s.to), .lst true 1 (Is v1.s.id), .lst true 1 (Ls v1.s.cs), .val (.int .i64 v1.t.n), .lst true 1 (Is v1.t.fr), .lst true 1 (Is v1.t.to), .lst true 1 (Is v1.t.id), .lst true 1 (Ls v1.t.cs), .lst true 1 (Is v1.ob), .lst true 1 (Is v1.ar)], [1, 2, 3, 4, 5, 6, 7, 8, 9, 10], by simp [Cat.cells, Fn.cells, IA, I1, LA, L1, BA, B1, EA, E1, E2, eB, eI, eL], by simp, (UpL.refl _)⟩
end Go.Vc.T

set_option maxRecDepth 100000
set_option linter.unusedSimpArgs false
set_option linter.unusedVariables false
namespace Go.Vc.T
open Go Go.Vc Go.Proofs
noncomputable def s_s_l02Then (c_ : Cat) (f_ : Int) (g_ : Int) : Option Int :=
 ass (0 ≤ f_ ∧ f_ < (c_.cs.length : Int)) <|
 ass (0 ≤ g_ ∧ g_ < ((rx c_.cs f_).length : Int)) <|
 some (ix (rx c_.cs f_) g_)
set_option maxHeartbeats 4000000 in
theorem w_s_l02Then (c_ : Cat) (f_ : Int) (g_ : Int) (r : Int) (h : s_s_l02Then c_ f_ g_ = some r) : Contract Try.prog 120 [.agg (c_.cells true), .val (.int .i64 f_), .val (.int .i64 g_)] (.val (.int .i64 r)) := by
 refine contract_introG (rvs := [.tmp 6]) (rs := [.val (.int .i64 r)]) Try.func120 rfl rfl rfl rfl (by simp [Try.f120]) fun F hN hP => ?_
 unfold s_s_l02Then at h
 refine w_seq ?_
 refine w_run mo (by rw [hN]; decide) fun K hK => ?_
 simp [-guardE_b, -Is_at, -Is_at', -Ls_at, -Ls_at', eL, eI, allInts, eP_Cat, Cat.cells]
 repeat (with_reducible refine And.intro ?_ ?_; · first | assumption | omega | (simp; done) | (simp; omega) | simp_all)
 refine hK _ ?_
 clear hK K
 refine tn ?_
 refine w_weak (st' := ⟨[(1, .val (.int .i64 f_)), (2, .val (.int .i64 g_)), (3, .adr 0 0 0)], [(0, .mix 5 [(Cat.cells true c_)])], 1⟩) (Wk.r1 [(0, 0)] (by simp [hP, hhOk, back, Cat.cells, IA, I1, LA, L1, BA, B1, EA, E1, E2, eB, eI, eL])) ?_
 refine w_seq ?_
 refine w_run mo (by rw [hN]; decide) fun K hK => ?_
 replace h := ass_some h
 obtain ⟨a1, h⟩ := h
 replace h := ass_some h
 obtain ⟨a2, h⟩ := h
 simp [-guardE_b, -Is_at, -Is_at', -Ls_at, -Ls_at', eL, eI, allInts, eP_Cat, Cat.cells, at_L a1, at_I a2]
 repeat (with_reducible refine And.intro ?_ ?_; · first | assumption | omega | (simp; done) | (simp; omega) | simp_all)
 refine hK _ ?_
 clear hK K
 refine tn ?_
 refine w_weak (st' := ⟨[(6, .val (.int .i64 (ix (rx c_.cs f_) g_)))], [], 0⟩) (Wk.r1 [] (by simp [hP, hhOk, back, Cat.cells, IA, I1, LA, L1, BA, B1, EA, E1, E2, eB, eI, eL])) ?_
 refine w_ret ?_
 have hr := Option.some.inj h
 rw [← hr]
 refine ⟨_, (.tmp .nil), ?_⟩
 refine ⟨(.one rfl rfl .nil), [.val (.int .i64 (ix (rx c_.cs f_) g_))], [], by simp [Cat.cells, IA, I1, LA, L1, BA, B1, EA, E1, E2, eB, eI, eL], by simp, (UpL.refl _)⟩
end Go.Vc.T

set_option maxRecDepth 100000
set_option linter.unusedSimpArgs false
set_option linter.unusedVariables false
namespace Go.Vc.T
open Go Go.Vc Go.Proofs
noncomputable def s_i_areCategories (list_ : List Cat) : Option Bool :=
 (loopF (σ := Int) (ε := Unit ⊕ Bool) (fun s7 =>
   if s7 < (list_.length : Int) then
     ass (0 ≤ s7 ∧ s7 < (list_.length : Int)) <|
     (s_i_Category_isCategory (gx list_ s7)).bind fun v10 =>
     if ¬ (v10 = true) then
       some (Ctl.ret (Sum.inr false))
     else
       ass (B64 (s7 + 1)) <|
       some (Ctl.next (s7 + 1))
   else
     some (Ctl.ret (Sum.inl ()))) fuel 0).bind fun e1 =>
 match e1 with
 | .inl b1 =>
   some true
 | .inr p1 =>
   some p1
set_option maxHeartbeats 4000000 in
theorem w_i_areCategories (list_ : List Cat) (r : Bool) (h : s_i_areCategories list_ = some r) : Contract Try.prog 224 [.lst true 1 (Es eP_Cat list_)] (.val (.bool r)) := by
 refine contract_introG (rvs := [.tmp 2]) (rs := [.val (.bool r)]) Try.func224 rfl rfl rfl rfl (by simp [Try.f224]) fun F hN hP => ?_
 unfold s_i_areCategories at h
 refine w_seq ?_
 refine w_run mo (by rw [hN]; decide) fun K hK => ?_
 simp [-guardE_b, -Is_at, -Is_at', -Ls_at, -Ls_at', eL, eI, allInts, eP_Cat, Cat.cells]
 repeat (with_reducible refine And.intro ?_ ?_; · first | assumption | omega | (simp; done) | (simp; omega) | simp_all)
 refine hK _ ?_
 clear hK K
 refine tn ?_
 refine w_weak (st' := ⟨[(0, .lst true 1 (Es eP_Cat list_))], [], 0⟩) (Wk.r1 [] (by simp [hP, hhOk, back, Cat.cells, IA, I1, LA, L1, BA, B1, EA, E1, E2, eB, eI, eL])) ?_
 refine w_seq ?_
 refine w_seq ?_
 refine w_run mo (by rw [hN]; decide) fun K hK => ?_
 simp [-guardE_b, -Is_at, -Is_at', -Ls_at, -Ls_at', eL, eI, allInts, eP_Cat, Cat.cells]
 repeat (with_reducible refine And.intro ?_ ?_; · first | assumption | omega | (simp; done) | (simp; omega) | simp_all)
 refine hK _ ?_
 clear hK K
 refine tn ?_
 refine w_weak (st' := ⟨[(5, .lst true 1 (Es eP_Cat list_)), (6, .val (.int .i64 (list_.length : Int))), (7, .val (.int .i64 0))], [], 0⟩) (Wk.r1 [] (by simp [hP, hhOk, back, Cat.cells, IA, I1, LA, L1, BA, B1, EA, E1, E2, eB, eI, eL])) ?_
 replace h := bind_some h
 obtain ⟨e1, h, h1⟩ := h
 refine w_joinT (fun b1 : Unit => ⟨[], [], 0⟩) (fun b1 => Sum.inl b1 = e1) ?_ ?_
 · refine w_block ?_
   refine w_loopF h (fun s7 : Int => ⟨[(5, .lst true 1 (Es eP_Cat list_)), (6, .val (.int .i64 (list_.length : Int))), (7, .val (.int .i64 s7))], [], 0⟩) (Wk.r1 [] (by simp [hP, hhOk, back, Cat.cells, IA, I1, LA, L1, BA, B1, EA, E1, E2, eB, eI, eL])) ?_
   clear h
   intro k7 s7 c7 h hk7
   refine w_seq ?_
   refine w_run mo (by rw [hN]; decide) fun K hK => ?_
   simp [-guardE_b, -Is_at, -Is_at', -Ls_at, -Ls_at', eL, eI, allInts, eP_Cat, Cat.cells]
   repeat (with_reducible refine And.intro ?_ ?_; · first | assumption | omega | (simp; done) | (simp; omega) | simp_all)
   refine hK _ ?_
   clear hK K
   refine tn ?_
   refine w_weak (st' := ⟨[(5, .lst true 1 (Es eP_Cat list_)), (6, .val (.int .i64 (list_.length : Int))), (7, .val (.int .i64 s7)), (8, .val (.bool (decide (s7 < (list_.length : Int)))))], [], 0⟩) (Wk.r1 [] (by simp [hP, hhOk, back, Cat.cells, IA, I1, LA, L1, BA, B1, EA, E1, E2, eB, eI, eL])) ?_
   refine w_seq ?_
   refine w_cond rfl (fun g => ?_) fun g => ?_
   · have g8 : s7 < (list_.length : Int) := by first | simpa using g | (simp at g; exact g) | (simp at g; omega)
     clear g
     replace h := if_l g8 h
     refine w_skip ?_
     refine tn ?_
     refine w_seq ?_
     refine w_block ?_
     refine w_seq ?_
     refine w_run mo (by rw [hN]; decide) fun K hK => ?_
     replace h := ass_some h
     obtain ⟨a9, h⟩ := h
     simp [-guardE_b, -Is_at, -Is_at', -Ls_at, -Ls_at', eL, eI, allInts, eP_Cat, Cat.cells, at_E (c := eP_Cat) a9]
     repeat (with_reducible refine And.intro ?_ ?_; · first | assumption | omega | (simp; done) | (simp; omega) | simp_all)
     refine hK _ ?_
     clear hK K
     refine tn ?_
     refine w_weak (st' := ⟨[(4, .rptr (Cat.cells true (gx list_ s7))), (5, .lst true 1 (Es eP_Cat list_)), (6, .val (.int .i64 (list_.length : Int))), (7, .val (.int .i64 s7))], [], 0⟩) (Wk.r1 [] (by simp [hP, hhOk, back, Cat.cells, IA, I1, LA, L1, BA, B1, EA, E1, E2, eB, eI, eL])) ?_
     refine w_seq ?_
     refine w_run mo (by rw [hN]; decide) fun K hK => ?_
     simp [-guardE_b, -Is_at, -Is_at', -Ls_at, -Ls_at', eL, eI, allInts, eP_Cat, Cat.cells]
     repeat (with_reducible refine And.intro ?_ ?_; · first | assumption | omega | (simp; done) | (simp; omega) | simp_all)
     replace h := bind_some h
     obtain ⟨v10, hv10, h⟩ := h
     refine callA_intro (w_i_Category_isCategory _ v10 hv10) (.cons (.preT (by simp [Cat.cells])) .nil) ?_
     simp [-guardE_b, -Is_at, -Is_at', -Ls_at, -Ls_at', unk, unA, unE, unT, unC, flat, eL, eI, allInts, eP_Cat, Cat.cells]
     repeat (with_reducible refine And.intro ?_ ?_; · first | assumption | omega | (simp; done) | (simp; omega) | simp_all)
     refine hK _ ?_
     clear hK K
     refine tn ?_
     refine w_weak (st' := ⟨[(5, .lst true 1 (Es eP_Cat list_)), (6, .val (.int .i64 (list_.length : Int))), (7, .val (.int .i64 s7)), (13, .val (.bool (!v10)))], [], 0⟩) (Wk.r1 [] (by simp [hP, hhOk, back, Cat.cells, IA, I1, LA, L1, BA, B1, EA, E1, E2, eB, eI, eL])) ?_
     refine w_cond rfl (fun g => ?_) fun g => ?_
     · have g11 : ¬ (v10 = true) := by first | simpa using g | (simp at g; exact g) | (simp at g; omega)
       clear g
       replace h := if_l g11 h
       refine w_seq ?_
       refine w_run mo (by rw [hN]; decide) fun K hK => ?_
       simp [-guardE_b, -Is_at, -Is_at', -Ls_at, -Ls_at', eL, eI, allInts, eP_Cat, Cat.cells]
       repeat (with_reducible refine And.intro ?_ ?_; · first | assumption | omega | (simp; done) | (simp; omega) | simp_all)
       refine hK _ ?_
       clear hK K
       refine tn ?_
       refine w_weak (st' := ⟨[(2, .val (.bool false))], [], 0⟩) (Wk.r1 [] (by simp [hP, hhOk, back, Cat.cells, IA, I1, LA, L1, BA, B1, EA, E1, E2, eB, eI, eL])) ?_
       refine w_ret ?_
       refine br ?_
       refine tr ?_
       refine lr ?_
       refine br ?_
       refine tr ?_
       cases h
       have q : _ = e1 := hk7
       have h := h1
       rw [← q] at h
       clear q
       try dsimp only at h
       have hr := Option.some.inj h
       rw [← hr]
       refine ⟨_, (.tmp .nil), ?_⟩
       refine ⟨(.one rfl rfl .nil), [.val (.bool false)], [], by simp [Cat.cells, IA, I1, LA, L1, BA, B1, EA, E1, E2, eB, eI, eL], by simp, (UpL.refl _)⟩
     have g11 : ¬ (¬ (v10 = true)) := by first | simpa using g | (simp at g; exact g) | (simp at g; omega)
     clear g
     replace h := if_r g11 h
     refine w_skip ?_
     refine bn ?_
     refine tn ?_
     refine w_run mo (by rw [hN]; decide) fun K hK => ?_
     replace h := ass_some h
     obtain ⟨a12, h⟩ := h
     simp [-guardE_b, -Is_at, -Is_at', -Ls_at, -Ls_at', eL, eI, allInts, eP_Cat, Cat.cells, wrap_id a12]
     repeat (with_reducible refine And.intro ?_ ?_; · first | assumption | omega | (simp; done) | (simp; omega) | simp_all)
     refine hK _ ?_
     clear hK K
     cases h
     exact rn (s' := s7 + 1) hk7 (Wk.r1 [] (by simp [hP, hhOk, back, Cat.cells, IA, I1, LA, L1, BA, B1, EA, E1, E2, eB, eI, eL]))
   have g8 : ¬ (s7 < (list_.length : Int)) := by first | simpa using g | (simp at g; exact g) | (simp at g; omega)
   clear g
   replace h := if_r g8 h
   refine w_exit ?_
   refine tx ?_
   refine lx ?_
   refine bh ?_
   cases h
   exact jn (b := ()) hk7 (Wk.r1 [] (by simp [hP, hhOk, back, Cat.cells, IA, I1, LA, L1, BA, B1, EA, E1, E2, eB, eI, eL]))
 intro b1 hb1
 have h := h1
 rw [← hb1] at h
 clear h1
 try dsimp only at h
 refine w_seq ?_
 refine w_run mo (by rw [hN]; decide) fun K hK => ?_
 simp [-guardE_b, -Is_at, -Is_at', -Ls_at, -Ls_at', eL, eI, allInts, eP_Cat, Cat.cells]
 repeat (with_reducible refine And.intro ?_ ?_; · first | assumption | omega | (simp; done) | (simp; omega) | simp_all)
 refine hK _ ?_
 clear hK K
 refine tn ?_
 refine w_weak (st' := ⟨[(2, .val (.bool true))], [], 0⟩) (Wk.r1 [] (by simp [hP, hhOk, back, Cat.cells, IA, I1, LA, L1, BA, B1, EA, E1, E2, eB, eI, eL])) ?_
 refine w_ret ?_
 have hr := Option.some.inj h
 rw [← hr]
 refine ⟨_, (.tmp .nil), ?_⟩
 refine ⟨(.one rfl rfl .nil), [.val (.bool true)], [], by simp [Cat.cells, IA, I1, LA, L1, BA, B1, EA, E1, E2, eB, eI, eL], by simp, (UpL.refl _)⟩
end Go.Vc.T

set_option maxRecDepth 100000
set_option linter.unusedSimpArgs false
set_option linter.unusedVariables false
namespace Go.Vc.T
open Go Go.Vc Go.Proofs
noncomputable def s_i_Functor_fits (f_ : Fn) : Option Bool :=
 (
   if ¬ ((f_.ob.length : Int) = f_.s.n) then
     some true
   else
     (s_i_Category_arrows f_.s).bind fun v3 =>
     if ¬ ((f_.ar.length : Int) = v3) then
       some true
     else
       (s_i_within f_.ob f_.t.n).bind fun v5 =>
       if ¬ (v5 = true) then
         some true
       else
         (s_i_Category_arrows f_.t).bind fun v7 =>
         (s_i_within f_.ar v7).bind fun v8 =>
         some (!v8) : Option (Bool)).bind fun b1 =>
 if b1 = true then
   some false
 else
   (loopF (σ := Int) (ε := Unit ⊕ Bool) (fun s23 =>
     if s23 < (f_.ar.length : Int) then
       ass (0 ≤ s23 ∧ s23 < (f_.ar.length : Int)) <|
       (
         ass (0 ≤ ix f_.ar s23 ∧ ix f_.ar s23 < (f_.t.fr.length : Int)) <|
         ass (0 ≤ s23 ∧ s23 < (f_.s.fr.length : Int)) <|
         ass (0 ≤ ix f_.s.fr s23 ∧ ix f_.s.fr s23 < (f_.ob.length : Int)) <|
         if ¬ ((ix f_.t.fr (ix f_.ar s23)) = (ix f_.ob (ix f_.s.fr s23))) then
           some true
         else
           ass (0 ≤ ix f_.ar s23 ∧ ix f_.ar s23 < (f_.t.to.length : Int)) <|
           ass (0 ≤ s23 ∧ s23 < (f_.s.to.length : Int)) <|
           ass (0 ≤ ix f_.s.to s23 ∧ ix f_.s.to s23 < (f_.ob.length : Int)) <|
           some ((ix f_.t.to (ix f_.ar s23)) != (ix f_.ob (ix f_.s.to s23))) : Option (Bool)).bind fun b26 =>
       if b26 = true then
         some (Ctl.ret (Sum.inr false))
       else
         ass (B64 (s23 + 1)) <|
         some (Ctl.next (s23 + 1))
     else
       some (Ctl.ret (Sum.inl ()))) fuel 0).bind fun e10 =>
   match e10 with
   | .inl b10 =>
     (loopF (σ := Int) (ε := Unit ⊕ Bool) (fun s44 =>
       if s44 < (f_.s.id.length : Int) then
         ass (0 ≤ s44 ∧ s44 < (f_.s.id.length : Int)) <|
         ass (0 ≤ ix f_.s.id s44 ∧ ix f_.s.id s44 < (f_.ar.length : Int)) <|
         ass (0 ≤ s44 ∧ s44 < (f_.ob.length : Int)) <|
         ass (0 ≤ ix f_.ob s44 ∧ ix f_.ob s44 < (f_.t.id.length : Int)) <|
         if ¬ ((ix f_.ar (ix f_.s.id s44)) = (ix f_.t.id (ix f_.ob s44))) then
           some (Ctl.ret (Sum.inr false))
         else
           ass (B64 (s44 + 1)) <|
           some (Ctl.next (s44 + 1))
       else
         some (Ctl.ret (Sum.inl ()))) fuel 0).bind fun e36 =>
     match e36 with
     | .inl b36 =>
       (loopF (σ := Int) (ε := Unit ⊕ Bool) (fun s78 =>
         if s78 < (f_.s.cs.length : Int) then
           (
             ass (0 ≤ s78 ∧ s78 < (f_.s.cs.length : Int)) <|
             (loopF (σ := Int) (ε := Bool ⊕ Unit) (fun s92 =>
               if s92 < ((rx f_.s.cs s78).length : Int) then
                 ass (0 ≤ s92 ∧ s92 < ((rx f_.s.cs s78).length : Int)) <|
                 (
                   if (ix (rx f_.s.cs s78) s92) ≥ 0 then
                     ass (0 ≤ ix (rx f_.s.cs s78) s92 ∧ ix (rx f_.s.cs s78) s92 < (f_.ar.length : Int)) <|
                     ass (0 ≤ s78 ∧ s78 < (f_.ar.length : Int)) <|
                     ass (0 ≤ s92 ∧ s92 < (f_.ar.length : Int)) <|
                     (s_i_Category_then f_.t (ix f_.ar s78) (ix f_.ar s92)).bind fun v100 =>
                     some ((ix f_.ar (ix (rx f_.s.cs s78) s92)) != v100)
                   else
                     some false : Option (Bool)).bind fun b95 =>
                 if b95 = true then
                   some (Ctl.ret (Sum.inl false))
                 else
                   ass (B64 (s92 + 1)) <|
                   some (Ctl.next (s92 + 1))
               else
                 some (Ctl.ret (Sum.inr ()))) fuel 0).bind fun e92 =>
             match e92 with
             | .inl p92 =>
               some (Sum.inr p92)
             | .inr p92 =>
               some (Sum.inl p92) : Option (Unit ⊕ Bool)).bind fun e80 =>
           match e80 with
           | .inl b80 =>
             ass (B64 (s78 + 1)) <|
             some (Ctl.next (s78 + 1))
           | .inr p80 =>
             some (Ctl.ret (Sum.inr p80))
         else
           some (Ctl.ret (Sum.inl ()))) fuel 0).bind fun e52 =>
       match e52 with
       | .inl b52 =>
         some true
       | .inr p52 =>
         some p52
     | .inr p36 =>
       some p36
   | .inr p10 =>
     some p10
set_option maxHeartbeats 4000000 in
theorem w_i_Functor_fits (f_ : Fn) (r : Bool) (h : s_i_Functor_fits f_ = some r) : Contract Try.prog 225 [.rptr (f_.cells true)] (.val (.bool r)) := by
 refine contract_introG (rvs := [.tmp 2]) (rs := [.val (.bool r)]) Try.func225 rfl rfl rfl rfl (by simp [Try.f225]) fun F hN hP => ?_
 unfold s_i_Functor_fits at h
 refine w_seq ?_
 refine w_run mo (by rw [hN]; decide) fun K hK => ?_
 simp [-guardE_b, -Is_at, -Is_at', -Ls_at, -Ls_at', eL, eI, allInts, eP_Cat, eP_Fn, Cat.cells, Fn.cells]
 repeat (with_reducible refine And.intro ?_ ?_; · first | assumption | omega | (simp; done) | (simp; omega) | simp_all)
 refine hK _ ?_
 clear hK K
 refine tn ?_
 refine w_weak (st' := ⟨[(0, .rptr (Fn.cells true f_))], [], 0⟩) (Wk.r1 [] (by simp [hP, hhOk, back, Cat.cells, Fn.cells, IA, I1, LA, L1, BA, B1, EA, E1, E2, eB, eI, eL])) ?_
 refine w_seq ?_
 refine w_run mo (by rw [hN]; decide) fun K hK => ?_
 simp [-guardE_b, -Is_at, -Is_at', -Ls_at, -Ls_at', eL, eI, allInts, eP_Cat, eP_Fn, Cat.cells, Fn.cells]
 repeat (with_reducible refine And.intro ?_ ?_; · first | assumption | omega | (simp; done) | (simp; omega) | simp_all)
 refine hK _ ?_
 clear hK K
 refine tn ?_
 refine w_weak (st' := ⟨[(0, .rptr (Fn.cells true f_)), (3, .rptr (Fn.cells true f_)), (4, .rptr [.val (.int .i64 f_.t.n), .lst true 1 (Is f_.t.fr), .lst true 1 (Is f_.t.to), .lst true 1 (Is f_.t.id), .lst true 1 (Ls f_.t.cs), .lst true 1 (Is f_.ob), .lst true 1 (Is f_.ar)])], [], 0⟩) (Wk.r1 [] (by simp [hP, hhOk, back, Cat.cells, Fn.cells, IA, I1, LA, L1, BA, B1, EA, E1, E2, eB, eI, eL])) ?_
 refine w_seq ?_
 refine w_seq ?_
 replace h := bind_some h
 obtain ⟨e1, h, h1⟩ := h
 refine w_joinT (fun b1 : Bool => ⟨[(0, .rptr (Fn.cells true f_)), (3, .rptr (Fn.cells true f_)), (4, .rptr [.val (.int .i64 f_.t.n), .lst true 1 (Is f_.t.fr), .lst true 1 (Is f_.t.to), .lst true 1 (Is f_.t.id), .lst true 1 (Ls f_.t.cs), .lst true 1 (Is f_.ob), .lst true 1 (Is f_.ar)]), (60, .val (.bool b1))], [], 0⟩) (fun b1 => b1 = e1) ?_ ?_
 · refine w_run mo (by rw [hN]; decide) fun K hK => ?_
   simp [-guardE_b, -Is_at, -Is_at', -Ls_at, -Ls_at', eL, eI, allInts, eP_Cat, eP_Fn, Cat.cells, Fn.cells]
   repeat (with_reducible refine And.intro ?_ ?_; · first | assumption | omega | (simp; done) | (simp; omega) | simp_all)
   refine guard_intro (fun g => ?_) (fun g => ?_)
   · have g2 : ¬ (¬ ((f_.ob.length : Int) = f_.s.n)) := by first | simpa using g | (simp at g; exact g) | (simp at g; omega)
     clear g
     replace h := if_r g2 h
     simp [-guardE_b, -Is_at, -Is_at', -Ls_at, -Ls_at', eL, eI, allInts, eP_Cat, eP_Fn, Cat.cells, Fn.cells]
     repeat (with_reducible refine And.intro ?_ ?_; · first | assumption | omega | (simp; done) | (simp; omega) | simp_all)
     replace h := bind_some h
     obtain ⟨v3, hv3, h⟩ := h
     refine callA_intro (w_i_Category_arrows _ v3 hv3) (.cons (.preT (by simp [Cat.cells, Fn.cells])) .nil) ?_
     simp [-guardE_b, -Is_at, -Is_at', -Ls_at, -Ls_at', unk, unA, unE, unT, unC, flat, eL, eI, allInts, eP_Cat, eP_Fn, Cat.cells, Fn.cells]
     repeat (with_reducible refine And.intro ?_ ?_; · first | assumption | omega | (simp; done) | (simp; omega) | simp_all)
     refine guard_intro (fun g => ?_) (fun g => ?_)
     · have g4 : ¬ (¬ ((f_.ar.length : Int) = v3)) := by first | simpa using g | (simp at g; exact g) | (simp at g; omega)
       clear g
       replace h := if_r g4 h
       simp [-guardE_b, -Is_at, -Is_at', -Ls_at, -Ls_at', eL, eI, allInts, eP_Cat, eP_Fn, Cat.cells, Fn.cells]
       repeat (with_reducible refine And.intro ?_ ?_; · first | assumption | omega | (simp; done) | (simp; omega) | simp_all)
       replace h := bind_some h
       obtain ⟨v5, hv5, h⟩ := h
       refine callA_intro (w_i_within _ _ v5 hv5) (.cons .lst (.cons .val .nil)) ?_
       simp [-guardE_b, -Is_at, -Is_at', -Ls_at, -Ls_at', unk, unA, unE, unT, unC, flat, eL, eI, allInts, eP_Cat, eP_Fn, Cat.cells, Fn.cells]
       repeat (with_reducible refine And.intro ?_ ?_; · first | assumption | omega | (simp; done) | (simp; omega) | simp_all)
       refine guard_intro (fun g => ?_) (fun g => ?_)
       · have g6 : ¬ (¬ (v5 = true)) := by first | simpa using g | (simp at g; exact g) | (simp at g; omega)
         clear g
         replace h := if_r g6 h
         simp [-guardE_b, -Is_at, -Is_at', -Ls_at, -Ls_at', eL, eI, allInts, eP_Cat, eP_Fn, Cat.cells, Fn.cells]
         repeat (with_reducible refine And.intro ?_ ?_; · first | assumption | omega | (simp; done) | (simp; omega) | simp_all)
         replace h := bind_some h
         obtain ⟨v7, hv7, h⟩ := h
         refine callA_intro (w_i_Category_arrows _ v7 hv7) (.cons (.preT (by simp [Cat.cells, Fn.cells])) .nil) ?_
         simp [-guardE_b, -Is_at, -Is_at', -Ls_at, -Ls_at', unk, unA, unE, unT, unC, flat, eL, eI, allInts, eP_Cat, eP_Fn, Cat.cells, Fn.cells]
         repeat (with_reducible refine And.intro ?_ ?_; · first | assumption | omega | (simp; done) | (simp; omega) | simp_all)
         replace h := bind_some h
         obtain ⟨v8, hv8, h⟩ := h
         refine callA_intro (w_i_within _ _ v8 hv8) (.cons .lst (.cons .val .nil)) ?_
         simp [-guardE_b, -Is_at, -Is_at', -Ls_at, -Ls_at', unk, unA, unE, unT, unC, flat, eL, eI, allInts, eP_Cat, eP_Fn, Cat.cells, Fn.cells]
         repeat (with_reducible refine And.intro ?_ ?_; · first | assumption | omega | (simp; done) | (simp; omega) | simp_all)
         refine hK _ ?_
         exact jn (b := !v8) (Option.some.inj h) (Wk.r1 [] (by simp [hP, hhOk, back, Cat.cells, Fn.cells, IA, I1, LA, L1, BA, B1, EA, E1, E2, eB, eI, eL]))
       have g6 : ¬ (v5 = true) := by first | simpa using g | (simp at g; exact g) | (simp at g; omega)
       clear g
       replace h := if_l g6 h
       simp [-guardE_b, -Is_at, -Is_at', -Ls_at, -Ls_at', eL, eI, allInts, eP_Cat, eP_Fn, Cat.cells, Fn.cells]
       repeat (with_reducible refine And.intro ?_ ?_; · first | assumption | omega | (simp; done) | (simp; omega) | simp_all)
       refine hK _ ?_
       exact jn (b := true) (Option.some.inj h) (Wk.r1 [] (by simp [hP, hhOk, back, Cat.cells, Fn.cells, IA, I1, LA, L1, BA, B1, EA, E1, E2, eB, eI, eL]))
     have g4 : ¬ ((f_.ar.length : Int) = v3) := by first | simpa using g | (simp at g; exact g) | (simp at g; omega)
     clear g
     replace h := if_l g4 h
     simp [-guardE_b, -Is_at, -Is_at', -Ls_at, -Ls_at', eL, eI, allInts, eP_Cat, eP_Fn, Cat.cells, Fn.cells]
     repeat (with_reducible refine And.intro ?_ ?_; · first | assumption | omega | (simp; done) | (simp; omega) | simp_all)
     refine hK _ ?_
     exact jn (b := true) (Option.some.inj h) (Wk.r1 [] (by simp [hP, hhOk, back, Cat.cells, Fn.cells, IA, I1, LA, L1, BA, B1, EA, E1, E2, eB, eI, eL]))
   have g2 : ¬ ((f_.ob.length : Int) = f_.s.n) := by first | simpa using g | (simp at g; exact g) | (simp at g; omega)
   clear g
   replace h := if_l g2 h
   simp [-guardE_b, -Is_at, -Is_at', -Ls_at, -Ls_at', eL, eI, allInts, eP_Cat, eP_Fn, Cat.cells, Fn.cells]
   repeat (with_reducible refine And.intro ?_ ?_; · first | assumption | omega | (simp; done) | (simp; omega) | simp_all)
   refine hK _ ?_
   exact jn (b := true) (Option.some.inj h) (Wk.r1 [] (by simp [hP, hhOk, back, Cat.cells, Fn.cells, IA, I1, LA, L1, BA, B1, EA, E1, E2, eB, eI, eL]))
 intro b1 hb1
 have h := h1
 rw [← hb1] at h
 clear h1
 try dsimp only at h
 refine w_cond rfl (fun g => ?_) fun g => ?_
 · have g9 : b1 = true := by first | simpa using g | (simp at g; exact g) | (simp at g; omega)
   clear g
   replace h := if_l g9 h
   refine w_seq ?_
   refine w_run mo (by rw [hN]; decide) fun K hK => ?_
   simp [-guardE_b, -Is_at, -Is_at', -Ls_at, -Ls_at', eL, eI, allInts, eP_Cat, eP_Fn, Cat.cells, Fn.cells]
   repeat (with_reducible refine And.intro ?_ ?_; · first | assumption | omega | (simp; done) | (simp; omega) | simp_all)
   refine hK _ ?_
   clear hK K
   refine tn ?_
   refine w_weak (st' := ⟨[(2, .val (.bool false))], [], 0⟩) (Wk.r1 [] (by simp [hP, hhOk, back, Cat.cells, Fn.cells, IA, I1, LA, L1, BA, B1, EA, E1, E2, eB, eI, eL])) ?_
   refine w_ret ?_
   refine tr ?_
   have hr := Option.some.inj h
   rw [← hr]
   refine ⟨_, (.tmp .nil), ?_⟩
   refine ⟨(.one rfl rfl .nil), [.val (.bool false)], [], by simp [Cat.cells, Fn.cells, IA, I1, LA, L1, BA, B1, EA, E1, E2, eB, eI, eL], by simp, (UpL.refl _)⟩
 have g9 : ¬ (b1 = true) := by first | simpa using g | (simp at g; exact g) | (simp at g; omega)
 clear g
 replace h := if_r g9 h
 refine w_skip ?_
 refine tn ?_
 refine w_seq ?_
 refine w_seq ?_
 refine w_run mo (by rw [hN]; decide) fun K hK => ?_
 simp [-guardE_b, -Is_at, -Is_at', -Ls_at, -Ls_at', eL, eI, allInts, eP_Cat, eP_Fn, Cat.cells, Fn.cells]
 repeat (with_reducible refine And.intro ?_ ?_; · first | assumption | omega | (simp; done) | (simp; omega) | simp_all)
 refine hK _ ?_
 clear hK K
 refine tn ?_
 refine w_weak (st' := ⟨[(0, .rptr (Fn.cells true f_)), (3, .rptr (Fn.cells true f_)), (4, .rptr [.val (.int .i64 f_.t.n), .lst true 1 (Is f_.t.fr), .lst true 1 (Is f_.t.to), .lst true 1 (Is f_.t.id), .lst true 1 (Ls f_.t.cs), .lst true 1 (Is f_.ob), .lst true 1 (Is f_.ar)]), (64, .lst true 1 (Is f_.ar)), (65, .val (.int .i64 (f_.ar.length : Int))), (66, .val (.int .i64 0))], [], 0⟩) (Wk.r1 [] (by simp [hP, hhOk, back, Cat.cells, Fn.cells, IA, I1, LA, L1, BA, B1, EA, E1, E2, eB, eI, eL])) ?_
 replace h := bind_some h
 obtain ⟨e10, h, h10⟩ := h
 refine w_joinT (fun b10 : Unit => ⟨[(0, .rptr (Fn.cells true f_)), (3, .rptr (Fn.cells true f_)), (4, .rptr [.val (.int .i64 f_.t.n), .lst true 1 (Is f_.t.fr), .lst true 1 (Is f_.t.to), .lst true 1 (Is f_.t.id), .lst true 1 (Ls f_.t.cs), .lst true 1 (Is f_.ob), .lst true 1 (Is f_.ar)])], [], 0⟩) (fun b10 => Sum.inl b10 = e10) ?_ ?_
 · refine w_block ?_
   refine w_loopF h (fun s23 : Int => ⟨[(0, .rptr (Fn.cells true f_)), (3, .rptr (Fn.cells true f_)), (4, .rptr [.val (.int .i64 f_.t.n), .lst true 1 (Is f_.t.fr), .lst true 1 (Is f_.t.to), .lst true 1 (Is f_.t.id), .lst true 1 (Ls f_.t.cs), .lst true 1 (Is f_.ob), .lst true 1 (Is f_.ar)]), (64, .lst true 1 (Is f_.ar)), (65, .val (.int .i64 (f_.ar.length : Int))), (66, .val (.int .i64 s23))], [], 0⟩) (Wk.r1 [] (by simp [hP, hhOk, back, Cat.cells, Fn.cells, IA, I1, LA, L1, BA, B1, EA, E1, E2, eB, eI, eL])) ?_
   clear h
   intro k23 s23 c23 h hk23
   refine w_seq ?_
   refine w_run mo (by rw [hN]; decide) fun K hK => ?_
   simp [-guardE_b, -Is_at, -Is_at', -Ls_at, -Ls_at', eL, eI, allInts, eP_Cat, eP_Fn, Cat.cells, Fn.cells]
   repeat (with_reducible refine And.intro ?_ ?_; · first | assumption | omega | (simp; done) | (simp; omega) | simp_all)
   refine hK _ ?_
   clear hK K
   refine tn ?_
   refine w_weak (st' := ⟨[(0, .rptr (Fn.cells true f_)), (3, .rptr (Fn.cells true f_)), (4, .rptr [.val (.int .i64 f_.t.n), .lst true 1 (Is f_.t.fr), .lst true 1 (Is f_.t.to), .lst true 1 (Is f_.t.id), .lst true 1 (Ls f_.t.cs), .lst true 1 (Is f_.ob), .lst true 1 (Is f_.ar)]), (64, .lst true 1 (Is f_.ar)), (65, .val (.int .i64 (f_.ar.length : Int))), (66, .val (.int .i64 s23)), (67, .val (.bool (decide (s23 < (f_.ar.length : Int)))))], [], 0⟩) (Wk.r1 [] (by simp [hP, hhOk, back, Cat.cells, Fn.cells, IA, I1, LA, L1, BA, B1, EA, E1, E2, eB, eI, eL])) ?_
   refine w_seq ?_
   refine w_cond rfl (fun g => ?_) fun g => ?_
   · have g24 : s23 < (f_.ar.length : Int) := by first | simpa using g | (simp at g; exact g) | (simp at g; omega)
     clear g
     replace h := if_l g24 h
     refine w_skip ?_
     refine tn ?_
     refine w_seq ?_
     refine w_block ?_
     refine w_seq ?_
     refine w_run mo (by rw [hN]; decide) fun K hK => ?_
     replace h := ass_some h
     obtain ⟨a25, h⟩ := h
     simp [-guardE_b, -Is_at, -Is_at', -Ls_at, -Ls_at', eL, eI, allInts, eP_Cat, eP_Fn, Cat.cells, Fn.cells, at_I a25]
     repeat (with_reducible refine And.intro ?_ ?_; · first | assumption | omega | (simp; done) | (simp; omega) | simp_all)
     refine hK _ ?_
     clear hK K
     refine tn ?_
     refine w_weak (st' := ⟨[(0, .rptr (Fn.cells true f_)), (3, .rptr (Fn.cells true f_)), (4, .rptr [.val (.int .i64 f_.t.n), .lst true 1 (Is f_.t.fr), .lst true 1 (Is f_.t.to), .lst true 1 (Is f_.t.id), .lst true 1 (Ls f_.t.cs), .lst true 1 (Is f_.ob), .lst true 1 (Is f_.ar)]), (5, .val (.int .i64 s23)), (6, .val (.int .i64 (ix f_.ar s23))), (64, .lst true 1 (Is f_.ar)), (65, .val (.int .i64 (f_.ar.length : Int))), (66, .val (.int .i64 s23))], [], 0⟩) (Wk.r1 [] (by simp [hP, hhOk, back, Cat.cells, Fn.cells, IA, I1, LA, L1, BA, B1, EA, E1, E2, eB, eI, eL])) ?_
     refine w_seq ?_
     replace h := bind_some h
     obtain ⟨e26, h, h26⟩ := h
     refine w_joinT (fun b26 : Bool => ⟨[(0, .rptr (Fn.cells true f_)), (3, .rptr (Fn.cells true f_)), (4, .rptr [.val (.int .i64 f_.t.n), .lst true 1 (Is f_.t.fr), .lst true 1 (Is f_.t.to), .lst true 1 (Is f_.t.id), .lst true 1 (Ls f_.t.cs), .lst true 1 (Is f_.ob), .lst true 1 (Is f_.ar)]), (64, .lst true 1 (Is f_.ar)), (65, .val (.int .i64 (f_.ar.length : Int))), (66, .val (.int .i64 s23)), (114, .val (.bool b26))], [], 0⟩) (fun b26 => b26 = e26) ?_ ?_
     · refine w_run mo (by rw [hN]; decide) fun K hK => ?_
       replace h := ass_some h
       obtain ⟨a27, h⟩ := h
       replace h := ass_some h
       obtain ⟨a28, h⟩ := h
       replace h := ass_some h
       obtain ⟨a29, h⟩ := h
       simp [-guardE_b, -Is_at, -Is_at', -Ls_at, -Ls_at', eL, eI, allInts, eP_Cat, eP_Fn, Cat.cells, Fn.cells, at_I a27, at_I a28, at_I a29]
       repeat (with_reducible refine And.intro ?_ ?_; · first | assumption | omega | (simp; done) | (simp; omega) | simp_all)
       refine guard_intro (fun g => ?_) (fun g => ?_)
       · have g30 : ¬ (¬ ((ix f_.t.fr (ix f_.ar s23)) = (ix f_.ob (ix f_.s.fr s23)))) := by first | simpa using g | (simp at g; exact g) | (simp at g; omega)
         clear g
         replace h := if_r g30 h
         replace h := ass_some h
         obtain ⟨a31, h⟩ := h
         replace h := ass_some h
         obtain ⟨a32, h⟩ := h
         replace h := ass_some h
         obtain ⟨a33, h⟩ := h
         simp [-guardE_b, -Is_at, -Is_at', -Ls_at, -Ls_at', eL, eI, allInts, eP_Cat, eP_Fn, Cat.cells, Fn.cells, at_I a31, at_I a32, at_I a33]
         repeat (with_reducible refine And.intro ?_ ?_; · first | assumption | omega | (simp; done) | (simp; omega) | simp_all)
         refine hK _ ?_
         exact jn (b := (ix f_.t.to (ix f_.ar s23)) != (ix f_.ob (ix f_.s.to s23))) (Option.some.inj h) (Wk.r1 [] (by simp [hP, hhOk, back, Cat.cells, Fn.cells, IA, I1, LA, L1, BA, B1, EA, E1, E2, eB, eI, eL]))
       have g30 : ¬ ((ix f_.t.fr (ix f_.ar s23)) = (ix f_.ob (ix f_.s.fr s23))) := by first | simpa using g | (simp at g; exact g) | (simp at g; omega)
       clear g
       replace h := if_l g30 h
       simp [-guardE_b, -Is_at, -Is_at', -Ls_at, -Ls_at', eL, eI, allInts, eP_Cat, eP_Fn, Cat.cells, Fn.cells]
       repeat (with_reducible refine And.intro ?_ ?_; · first | assumption | omega | (simp; done) | (simp; omega) | simp_all)
       refine hK _ ?_
       exact jn (b := true) (Option.some.inj h) (Wk.r1 [] (by simp [hP, hhOk, back, Cat.cells, Fn.cells, IA, I1, LA, L1, BA, B1, EA, E1, E2, eB, eI, eL]))
     intro b26 hb26
     have h := h26
     rw [← hb26] at h
     clear h26
     try dsimp only at h
     refine w_cond rfl (fun g => ?_) fun g => ?_
     · have g34 : b26 = true := by first | simpa using g | (simp at g; exact g) | (simp at g; omega)
       clear g
       replace h := if_l g34 h
       refine w_seq ?_
       refine w_run mo (by rw [hN]; decide) fun K hK => ?_
       simp [-guardE_b, -Is_at, -Is_at', -Ls_at, -Ls_at', eL, eI, allInts, eP_Cat, eP_Fn, Cat.cells, Fn.cells]
       repeat (with_reducible refine And.intro ?_ ?_; · first | assumption | omega | (simp; done) | (simp; omega) | simp_all)
       refine hK _ ?_
       clear hK K
       refine tn ?_
       refine w_weak (st' := ⟨[(2, .val (.bool false))], [], 0⟩) (Wk.r1 [] (by simp [hP, hhOk, back, Cat.cells, Fn.cells, IA, I1, LA, L1, BA, B1, EA, E1, E2, eB, eI, eL])) ?_
       refine w_ret ?_
       refine br ?_
       refine tr ?_
       refine lr ?_
       refine br ?_
       refine tr ?_
       cases h
       have q : _ = e10 := hk23
       have h := h10
       rw [← q] at h
       clear q
       try dsimp only at h
       have hr := Option.some.inj h
       rw [← hr]
       refine ⟨_, (.tmp .nil), ?_⟩
       refine ⟨(.one rfl rfl .nil), [.val (.bool false)], [], by simp [Cat.cells, Fn.cells, IA, I1, LA, L1, BA, B1, EA, E1, E2, eB, eI, eL], by simp, (UpL.refl _)⟩
     have g34 : ¬ (b26 = true) := by first | simpa using g | (simp at g; exact g) | (simp at g; omega)
     clear g
     replace h := if_r g34 h
     refine w_skip ?_
     refine bn ?_
     refine tn ?_
     refine w_run mo (by rw [hN]; decide) fun K hK => ?_
     replace h := ass_some h
     obtain ⟨a35, h⟩ := h
     simp [-guardE_b, -Is_at, -Is_at', -Ls_at, -Ls_at', eL, eI, allInts, eP_Cat, eP_Fn, Cat.cells, Fn.cells, wrap_id a35]
     repeat (with_reducible refine And.intro ?_ ?_; · first | assumption | omega | (simp; done) | (simp; omega) | simp_all)
     refine hK _ ?_
     clear hK K
     cases h
     exact rn (s' := s23 + 1) hk23 (Wk.r1 [] (by simp [hP, hhOk, back, Cat.cells, Fn.cells, IA, I1, LA, L1, BA, B1, EA, E1, E2, eB, eI, eL]))
   have g24 : ¬ (s23 < (f_.ar.length : Int)) := by first | simpa using g | (simp at g; exact g) | (simp at g; omega)
   clear g
   replace h := if_r g24 h
   refine w_exit ?_
   refine tx ?_
   refine lx ?_
   refine bh ?_
   cases h
   exact jn (b := ()) hk23 (Wk.r1 [] (by simp [hP, hhOk, back, Cat.cells, Fn.cells, IA, I1, LA, L1, BA, B1, EA, E1, E2, eB, eI, eL]))
 intro b10 hb10
 have h := h10
 rw [← hb10] at h
 clear h10
 try dsimp only at h
 refine w_seq ?_
 refine w_seq ?_
 refine w_run mo (by rw [hN]; decide) fun K hK => ?_
 simp [-guardE_b, -Is_at, -Is_at', -Ls_at, -Ls_at', eL, eI, allInts, eP_Cat, eP_Fn, Cat.cells, Fn.cells]
 repeat (with_reducible refine And.intro ?_ ?_; · first | assumption | omega | (simp; done) | (simp; omega) | simp_all)
 refine hK _ ?_
 clear hK K
 refine tn ?_
 refine w_weak (st' := ⟨[(0, .rptr (Fn.cells true f_)), (3, .rptr (Fn.cells true f_)), (4, .rptr [.val (.int .i64 f_.t.n), .lst true 1 (Is f_.t.fr), .lst true 1 (Is f_.t.to), .lst true 1 (Is f_.t.id), .lst true 1 (Ls f_.t.cs), .lst true 1 (Is f_.ob), .lst true 1 (Is f_.ar)]), (119, .lst true 1 (Is f_.s.id)), (120, .val (.int .i64 (f_.s.id.length : Int))), (121, .val (.int .i64 0))], [], 0⟩) (Wk.r1 [] (by simp [hP, hhOk, back, Cat.cells, Fn.cells, IA, I1, LA, L1, BA, B1, EA, E1, E2, eB, eI, eL])) ?_
 replace h := bind_some h
 obtain ⟨e36, h, h36⟩ := h
 refine w_joinT (fun b36 : Unit => ⟨[(0, .rptr (Fn.cells true f_)), (3, .rptr (Fn.cells true f_)), (4, .rptr [.val (.int .i64 f_.t.n), .lst true 1 (Is f_.t.fr), .lst true 1 (Is f_.t.to), .lst true 1 (Is f_.t.id), .lst true 1 (Ls f_.t.cs), .lst true 1 (Is f_.ob), .lst true 1 (Is f_.ar)])], [], 0⟩) (fun b36 => Sum.inl b36 = e36) ?_ ?_
 · refine w_block ?_
   refine w_loopF h (fun s44 : Int => ⟨[(0, .rptr (Fn.cells true f_)), (3, .rptr (Fn.cells true f_)), (4, .rptr [.val (.int .i64 f_.t.n), .lst true 1 (Is f_.t.fr), .lst true 1 (Is f_.t.to), .lst true 1 (Is f_.t.id), .lst true 1 (Ls f_.t.cs), .lst true 1 (Is f_.ob), .lst true 1 (Is f_.ar)]), (119, .lst true 1 (Is f_.s.id)), (120, .val (.int .i64 (f_.s.id.length : Int))), (121, .val (.int .i64 s44))], [], 0⟩) (Wk.r1 [] (by simp [hP, hhOk, back, Cat.cells, Fn.cells, IA, I1, LA, L1, BA, B1, EA, E1, E2, eB, eI, eL])) ?_
   clear h
   intro k44 s44 c44 h hk44
   refine w_seq ?_
   refine w_run mo (by rw [hN]; decide) fun K hK => ?_
   simp [-guardE_b, -Is_at, -Is_at', -Ls_at, -Ls_at', eL, eI, allInts, eP_Cat, eP_Fn, Cat.cells, Fn.cells]
   repeat (with_reducible refine And.intro ?_ ?_; · first | assumption | omega | (simp; done) | (simp; omega) | simp_all)
   refine hK _ ?_
   clear hK K
   refine tn ?_
   refine w_weak (st' := ⟨[(0, .rptr (Fn.cells true f_)), (3, .rptr (Fn.cells true f_)), (4, .rptr [.val (.int .i64 f_.t.n), .lst true 1 (Is f_.t.fr), .lst true 1 (Is f_.t.to), .lst true 1 (Is f_.t.id), .lst true 1 (Ls f_.t.cs), .lst true 1 (Is f_.ob), .lst true 1 (Is f_.ar)]), (119, .lst true 1 (Is f_.s.id)), (120, .val (.int .i64 (f_.s.id.length : Int))), (121, .val (.int .i64 s44)), (122, .val (.bool (decide (s44 < (f_.s.id.length : Int)))))], [], 0⟩) (Wk.r1 [] (by simp [hP, hhOk, back, Cat.cells, Fn.cells, IA, I1, LA, L1, BA, B1, EA, E1, E2, eB, eI, eL])) ?_
   refine w_seq ?_
   refine w_cond rfl (fun g => ?_) fun g => ?_
   · have g45 : s44 < (f_.s.id.length : Int) := by first | simpa using g | (simp at g; exact g) | (simp at g; omega)
     clear g
     replace h := if_l g45 h
     refine w_skip ?_
     refine tn ?_
     refine w_seq ?_
     refine w_block ?_
     refine w_seq ?_
     refine w_run mo (by rw [hN]; decide) fun K hK => ?_
     replace h := ass_some h
     obtain ⟨a46, h⟩ := h
     simp [-guardE_b, -Is_at, -Is_at', -Ls_at, -Ls_at', eL, eI, allInts, eP_Cat, eP_Fn, Cat.cells, Fn.cells, at_I a46]
     repeat (with_reducible refine And.intro ?_ ?_; · first | assumption | omega | (simp; done) | (simp; omega) | simp_all)
     refine hK _ ?_
     clear hK K
     refine tn ?_
     refine w_weak (st' := ⟨[(0, .rptr (Fn.cells true f_)), (3, .rptr (Fn.cells true f_)), (4, .rptr [.val (.int .i64 f_.t.n), .lst true 1 (Is f_.t.fr), .lst true 1 (Is f_.t.to), .lst true 1 (Is f_.t.id), .lst true 1 (Ls f_.t.cs), .lst true 1 (Is f_.ob), .lst true 1 (Is f_.ar)]), (7, .val (.int .i64 s44)), (8, .val (.int .i64 (ix f_.s.id s44))), (119, .lst true 1 (Is f_.s.id)), (120, .val (.int .i64 (f_.s.id.length : Int))), (121, .val (.int .i64 s44))], [], 0⟩) (Wk.r1 [] (by simp [hP, hhOk, back, Cat.cells, Fn.cells, IA, I1, LA, L1, BA, B1, EA, E1, E2, eB, eI, eL])) ?_
     refine w_seq ?_
     refine w_run mo (by rw [hN]; decide) fun K hK => ?_
     replace h := ass_some h
     obtain ⟨a47, h⟩ := h
     replace h := ass_some h
     obtain ⟨a48, h⟩ := h
     replace h := ass_some h
     obtain ⟨a49, h⟩ := h
     simp [-guardE_b, -Is_at, -Is_at', -Ls_at, -Ls_at', eL, eI, allInts, eP_Cat, eP_Fn, Cat.cells, Fn.cells, at_I a47, at_I a48, at_I a49]
     repeat (with_reducible refine And.intro ?_ ?_; · first | assumption | omega | (simp; done) | (simp; omega) | simp_all)
     refine hK _ ?_
     clear hK K
     refine tn ?_
     refine w_weak (st' := ⟨[(0, .rptr (Fn.cells true f_)), (3, .rptr (Fn.cells true f_)), (4, .rptr [.val (.int .i64 f_.t.n), .lst true 1 (Is f_.t.fr), .lst true 1 (Is f_.t.to), .lst true 1 (Is f_.t.id), .lst true 1 (Ls f_.t.cs), .lst true 1 (Is f_.ob), .lst true 1 (Is f_.ar)]), (119, .lst true 1 (Is f_.s.id)), (120, .val (.int .i64 (f_.s.id.length : Int))), (121, .val (.int .i64 s44)), (146, .val (.bool ((ix f_.ar (ix f_.s.id s44)) != (ix f_.t.id (ix f_.ob s44)))))], [], 0⟩) (Wk.r1 [] (by simp [hP, hhOk, back, Cat.cells, Fn.cells, IA, I1, LA, L1, BA, B1, EA, E1, E2, eB, eI, eL])) ?_
     refine w_cond rfl (fun g => ?_) fun g => ?_
     · have g50 : ¬ ((ix f_.ar (ix f_.s.id s44)) = (ix f_.t.id (ix f_.ob s44))) := by first | simpa using g | (simp at g; exact g) | (simp at g; omega)
       clear g
       replace h := if_l g50 h
       refine w_seq ?_
       refine w_run mo (by rw [hN]; decide) fun K hK => ?_
       simp [-guardE_b, -Is_at, -Is_at', -Ls_at, -Ls_at', eL, eI, allInts, eP_Cat, eP_Fn, Cat.cells, Fn.cells]
       repeat (with_reducible refine And.intro ?_ ?_; · first | assumption | omega | (simp; done) | (simp; omega) | simp_all)
       refine hK _ ?_
       clear hK K
       refine tn ?_
       refine w_weak (st' := ⟨[(2, .val (.bool false))], [], 0⟩) (Wk.r1 [] (by simp [hP, hhOk, back, Cat.cells, Fn.cells, IA, I1, LA, L1, BA, B1, EA, E1, E2, eB, eI, eL])) ?_
       refine w_ret ?_
       refine br ?_
       refine tr ?_
       refine lr ?_
       refine br ?_
       refine tr ?_
       cases h
       have q : _ = e36 := hk44
       have h := h36
       rw [← q] at h
       clear q
       try dsimp only at h
       have hr := Option.some.inj h
       rw [← hr]
       refine ⟨_, (.tmp .nil), ?_⟩
       refine ⟨(.one rfl rfl .nil), [.val (.bool false)], [], by simp [Cat.cells, Fn.cells, IA, I1, LA, L1, BA, B1, EA, E1, E2, eB, eI, eL], by simp, (UpL.refl _)⟩
     have g50 : ¬ (¬ ((ix f_.ar (ix f_.s.id s44)) = (ix f_.t.id (ix f_.ob s44)))) := by first | simpa using g | (simp at g; exact g) | (simp at g; omega)
     clear g
     replace h := if_r g50 h
     refine w_skip ?_
     refine bn ?_
     refine tn ?_
     refine w_run mo (by rw [hN]; decide) fun K hK => ?_
     replace h := ass_some h
     obtain ⟨a51, h⟩ := h
     simp [-guardE_b, -Is_at, -Is_at', -Ls_at, -Ls_at', eL, eI, allInts, eP_Cat, eP_Fn, Cat.cells, Fn.cells, wrap_id a51]
     repeat (with_reducible refine And.intro ?_ ?_; · first | assumption | omega | (simp; done) | (simp; omega) | simp_all)
     refine hK _ ?_
     clear hK K
     cases h
     exact rn (s' := s44 + 1) hk44 (Wk.r1 [] (by simp [hP, hhOk, back, Cat.cells, Fn.cells, IA, I1, LA, L1, BA, B1, EA, E1, E2, eB, eI, eL]))
   have g45 : ¬ (s44 < (f_.s.id.length : Int)) := by first | simpa using g | (simp at g; exact g) | (simp at g; omega)
   clear g
   replace h := if_r g45 h
   refine w_exit ?_
   refine tx ?_
   refine lx ?_
   refine bh ?_
   cases h
   exact jn (b := ()) hk44 (Wk.r1 [] (by simp [hP, hhOk, back, Cat.cells, Fn.cells, IA, I1, LA, L1, BA, B1, EA, E1, E2, eB, eI, eL]))
 intro b36 hb36
 have h := h36
 rw [← hb36] at h
 clear h36
 try dsimp only at h
 refine w_seq ?_
 refine w_seq ?_
 refine w_run mo (by rw [hN]; decide) fun K hK => ?_
 simp [-guardE_b, -Is_at, -Is_at', -Ls_at, -Ls_at', eL, eI, allInts, eP_Cat, eP_Fn, Cat.cells, Fn.cells]
 repeat (with_reducible refine And.intro ?_ ?_; · first | assumption | omega | (simp; done) | (simp; omega) | simp_all)
 refine hK _ ?_
 clear hK K
 refine tn ?_
 refine w_weak (st' := ⟨[(0, .rptr (Fn.cells true f_)), (4, .rptr [.val (.int .i64 f_.t.n), .lst true 1 (Is f_.t.fr), .lst true 1 (Is f_.t.to), .lst true 1 (Is f_.t.id), .lst true 1 (Ls f_.t.cs), .lst true 1 (Is f_.ob), .lst true 1 (Is f_.ar)]), (151, .lst true 1 (Ls f_.s.cs)), (152, .val (.int .i64 (f_.s.cs.length : Int))), (153, .val (.int .i64 0))], [], 0⟩) (Wk.r1 [] (by simp [hP, hhOk, back, Cat.cells, Fn.cells, IA, I1, LA, L1, BA, B1, EA, E1, E2, eB, eI, eL])) ?_
 replace h := bind_some h
 obtain ⟨e52, h, h52⟩ := h
 refine w_joinT (fun b52 : Unit => ⟨[], [], 0⟩) (fun b52 => Sum.inl b52 = e52) ?_ ?_
 · refine w_block ?_
   refine w_loopF h (fun s78 : Int => ⟨[(0, .rptr (Fn.cells true f_)), (4, .rptr [.val (.int .i64 f_.t.n), .lst true 1 (Is f_.t.fr), .lst true 1 (Is f_.t.to), .lst true 1 (Is f_.t.id), .lst true 1 (Ls f_.t.cs), .lst true 1 (Is f_.ob), .lst true 1 (Is f_.ar)]), (151, .lst true 1 (Ls f_.s.cs)), (152, .val (.int .i64 (f_.s.cs.length : Int))), (153, .val (.int .i64 s78))], [], 0⟩) (Wk.r1 [] (by simp [hP, hhOk, back, Cat.cells, Fn.cells, IA, I1, LA, L1, BA, B1, EA, E1, E2, eB, eI, eL])) ?_
   clear h
   intro k78 s78 c78 h hk78
   refine w_seq ?_
   refine w_run mo (by rw [hN]; decide) fun K hK => ?_
   simp [-guardE_b, -Is_at, -Is_at', -Ls_at, -Ls_at', eL, eI, allInts, eP_Cat, eP_Fn, Cat.cells, Fn.cells]
   repeat (with_reducible refine And.intro ?_ ?_; · first | assumption | omega | (simp; done) | (simp; omega) | simp_all)
   refine hK _ ?_
   clear hK K
   refine tn ?_
   refine w_weak (st' := ⟨[(0, .rptr (Fn.cells true f_)), (4, .rptr [.val (.int .i64 f_.t.n), .lst true 1 (Is f_.t.fr), .lst true 1 (Is f_.t.to), .lst true 1 (Is f_.t.id), .lst true 1 (Ls f_.t.cs), .lst true 1 (Is f_.ob), .lst true 1 (Is f_.ar)]), (151, .lst true 1 (Ls f_.s.cs)), (152, .val (.int .i64 (f_.s.cs.length : Int))), (153, .val (.int .i64 s78)), (154, .val (.bool (decide (s78 < (f_.s.cs.length : Int)))))], [], 0⟩) (Wk.r1 [] (by simp [hP, hhOk, back, Cat.cells, Fn.cells, IA, I1, LA, L1, BA, B1, EA, E1, E2, eB, eI, eL])) ?_
   refine w_seq ?_
   refine w_cond rfl (fun g => ?_) fun g => ?_
   · have g79 : s78 < (f_.s.cs.length : Int) := by first | simpa using g | (simp at g; exact g) | (simp at g; omega)
     clear g
     replace h := if_l g79 h
     refine w_skip ?_
     refine tn ?_
     refine w_seq ?_
     replace h := bind_some h
     obtain ⟨e80, h, h80⟩ := h
     refine w_joinT (fun b80 : Unit => ⟨[(0, .rptr (Fn.cells true f_)), (4, .rptr [.val (.int .i64 f_.t.n), .lst true 1 (Is f_.t.fr), .lst true 1 (Is f_.t.to), .lst true 1 (Is f_.t.id), .lst true 1 (Ls f_.t.cs), .lst true 1 (Is f_.ob), .lst true 1 (Is f_.ar)]), (151, .lst true 1 (Ls f_.s.cs)), (152, .val (.int .i64 (f_.s.cs.length : Int))), (153, .val (.int .i64 s78))], [], 0⟩) (fun b80 => Sum.inl b80 = e80) ?_ ?_
     · refine w_block ?_
       refine w_seq ?_
       refine w_run mo (by rw [hN]; decide) fun K hK => ?_
       replace h := ass_some h
       obtain ⟨a81, h⟩ := h
       simp [-guardE_b, -Is_at, -Is_at', -Ls_at, -Ls_at', eL, eI, allInts, eP_Cat, eP_Fn, Cat.cells, Fn.cells, at_L a81]
       repeat (with_reducible refine And.intro ?_ ?_; · first | assumption | omega | (simp; done) | (simp; omega) | simp_all)
       refine hK _ ?_
       clear hK K
       refine tn ?_
       refine w_weak (st' := ⟨[(0, .rptr (Fn.cells true f_)), (4, .rptr [.val (.int .i64 f_.t.n), .lst true 1 (Is f_.t.fr), .lst true 1 (Is f_.t.to), .lst true 1 (Is f_.t.id), .lst true 1 (Ls f_.t.cs), .lst true 1 (Is f_.ob), .lst true 1 (Is f_.ar)]), (9, .val (.int .i64 s78)), (10, .lst true 1 (Is (rx f_.s.cs s78))), (151, .lst true 1 (Ls f_.s.cs)), (152, .val (.int .i64 (f_.s.cs.length : Int))), (153, .val (.int .i64 s78))], [], 0⟩) (Wk.r1 [] (by simp [hP, hhOk, back, Cat.cells, Fn.cells, IA, I1, LA, L1, BA, B1, EA, E1, E2, eB, eI, eL])) ?_
       refine w_seq ?_
       refine w_run mo (by rw [hN]; decide) fun K hK => ?_
       simp [-guardE_b, -Is_at, -Is_at', -Ls_at, -Ls_at', eL, eI, allInts, eP_Cat, eP_Fn, Cat.cells, Fn.cells]
       repeat (with_reducible refine And.intro ?_ ?_; · first | assumption | omega | (simp; done) | (simp; omega) | simp_all)
       refine hK _ ?_
       clear hK K
       refine tn ?_
       refine w_weak (st' := ⟨[(0, .rptr (Fn.cells true f_)), (4, .rptr [.val (.int .i64 f_.t.n), .lst true 1 (Is f_.t.fr), .lst true 1 (Is f_.t.to), .lst true 1 (Is f_.t.id), .lst true 1 (Ls f_.t.cs), .lst true 1 (Is f_.ob), .lst true 1 (Is f_.ar)]), (9, .val (.int .i64 s78)), (151, .lst true 1 (Ls f_.s.cs)), (152, .val (.int .i64 (f_.s.cs.length : Int))), (153, .val (.int .i64 s78)), (158, .lst true 1 (Is (rx f_.s.cs s78))), (159, .val (.int .i64 ((rx f_.s.cs s78).length : Int))), (160, .val (.int .i64 0))], [], 0⟩) (Wk.r1 [] (by simp [hP, hhOk, back, Cat.cells, Fn.cells, IA, I1, LA, L1, BA, B1, EA, E1, E2, eB, eI, eL])) ?_
       refine w_block ?_
       replace h := bind_some h
       obtain ⟨e92, he92, h92⟩ := h
       refine w_loopF he92 (fun s92 : Int => ⟨[(0, .rptr (Fn.cells true f_)), (4, .rptr [.val (.int .i64 f_.t.n), .lst true 1 (Is f_.t.fr), .lst true 1 (Is f_.t.to), .lst true 1 (Is f_.t.id), .lst true 1 (Ls f_.t.cs), .lst true 1 (Is f_.ob), .lst true 1 (Is f_.ar)]), (9, .val (.int .i64 s78)), (151, .lst true 1 (Ls f_.s.cs)), (152, .val (.int .i64 (f_.s.cs.length : Int))), (153, .val (.int .i64 s78)), (158, .lst true 1 (Is (rx f_.s.cs s78))), (159, .val (.int .i64 ((rx f_.s.cs s78).length : Int))), (160, .val (.int .i64 s92))], [], 0⟩) (Wk.r1 [] (by simp [hP, hhOk, back, Cat.cells, Fn.cells, IA, I1, LA, L1, BA, B1, EA, E1, E2, eB, eI, eL])) ?_
       intro k92 s92 c92 h hk92
       refine w_seq ?_
       refine w_run mo (by rw [hN]; decide) fun K hK => ?_
       simp [-guardE_b, -Is_at, -Is_at', -Ls_at, -Ls_at', eL, eI, allInts, eP_Cat, eP_Fn, Cat.cells, Fn.cells]
       repeat (with_reducible refine And.intro ?_ ?_; · first | assumption | omega | (simp; done) | (simp; omega) | simp_all)
       refine hK _ ?_
       clear hK K
       refine tn ?_
       refine w_weak (st' := ⟨[(0, .rptr (Fn.cells true f_)), (4, .rptr [.val (.int .i64 f_.t.n), .lst true 1 (Is f_.t.fr), .lst true 1 (Is f_.t.to), .lst true 1 (Is f_.t.id), .lst true 1 (Ls f_.t.cs), .lst true 1 (Is f_.ob), .lst true 1 (Is f_.ar)]), (9, .val (.int .i64 s78)), (151, .lst true 1 (Ls f_.s.cs)), (152, .val (.int .i64 (f_.s.cs.length : Int))), (153, .val (.int .i64 s78)), (158, .lst true 1 (Is (rx f_.s.cs s78))), (159, .val (.int .i64 ((rx f_.s.cs s78).length : Int))), (160, .val (.int .i64 s92)), (161, .val (.bool (decide (s92 < ((rx f_.s.cs s78).length : Int)))))], [], 0⟩) (Wk.r1 [] (by simp [hP, hhOk, back, Cat.cells, Fn.cells, IA, I1, LA, L1, BA, B1, EA, E1, E2, eB, eI, eL])) ?_
       refine w_seq ?_
       refine w_cond rfl (fun g => ?_) fun g => ?_
       · have g93 : s92 < ((rx f_.s.cs s78).length : Int) := by first | simpa using g | (simp at g; exact g) | (simp at g; omega)
         clear g
         replace h := if_l g93 h
         refine w_skip ?_
         refine tn ?_
         refine w_seq ?_
         refine w_block ?_
         refine w_seq ?_
         refine w_run mo (by rw [hN]; decide) fun K hK => ?_
         replace h := ass_some h
         obtain ⟨a94, h⟩ := h
         simp [-guardE_b, -Is_at, -Is_at', -Ls_at, -Ls_at', eL, eI, allInts, eP_Cat, eP_Fn, Cat.cells, Fn.cells, at_I a94]
         repeat (with_reducible refine And.intro ?_ ?_; · first | assumption | omega | (simp; done) | (simp; omega) | simp_all)
         refine hK _ ?_
         clear hK K
         refine tn ?_
         refine w_weak (st' := ⟨[(0, .rptr (Fn.cells true f_)), (4, .rptr [.val (.int .i64 f_.t.n), .lst true 1 (Is f_.t.fr), .lst true 1 (Is f_.t.to), .lst true 1 (Is f_.t.id), .lst true 1 (Ls f_.t.cs), .lst true 1 (Is f_.ob), .lst true 1 (Is f_.ar)]), (9, .val (.int .i64 s78)), (11, .val (.int .i64 s92)), (12, .val (.int .i64 (ix (rx f_.s.cs s78) s92))), (151, .lst true 1 (Ls f_.s.cs)), (152, .val (.int .i64 (f_.s.cs.length : Int))), (153, .val (.int .i64 s78)), (158, .lst true 1 (Is (rx f_.s.cs s78))), (159, .val (.int .i64 ((rx f_.s.cs s78).length : Int))), (160, .val (.int .i64 s92))], [], 0⟩) (Wk.r1 [] (by simp [hP, hhOk, back, Cat.cells, Fn.cells, IA, I1, LA, L1, BA, B1, EA, E1, E2, eB, eI, eL])) ?_
         refine w_seq ?_
         replace h := bind_some h
         obtain ⟨e95, h, h95⟩ := h
         refine w_joinT (fun b95 : Bool => ⟨[(0, .rptr (Fn.cells true f_)), (4, .rptr [.val (.int .i64 f_.t.n), .lst true 1 (Is f_.t.fr), .lst true 1 (Is f_.t.to), .lst true 1 (Is f_.t.id), .lst true 1 (Ls f_.t.cs), .lst true 1 (Is f_.ob), .lst true 1 (Is f_.ar)]), (9, .val (.int .i64 s78)), (151, .lst true 1 (Ls f_.s.cs)), (152, .val (.int .i64 (f_.s.cs.length : Int))), (153, .val (.int .i64 s78)), (158, .lst true 1 (Is (rx f_.s.cs s78))), (159, .val (.int .i64 ((rx f_.s.cs s78).length : Int))), (160, .val (.int .i64 s92)), (192, .val (.bool b95))], [], 0⟩) (fun b95 => b95 = e95) ?_ ?_
         · refine w_run mo (by rw [hN]; decide) fun K hK => ?_
           simp [-guardE_b, -Is_at, -Is_at', -Ls_at, -Ls_at', eL, eI, allInts, eP_Cat, eP_Fn, Cat.cells, Fn.cells]
           repeat (with_reducible refine And.intro ?_ ?_; · first | assumption | omega | (simp; done) | (simp; omega) | simp_all)
           refine guard_intro (fun g => ?_) (fun g => ?_)
           · have g96 : (ix (rx f_.s.cs s78) s92) ≥ 0 := by first | simpa using g | (simp at g; exact g) | (simp at g; omega)
             clear g
             replace h := if_l g96 h
             replace h := ass_some h
             obtain ⟨a97, h⟩ := h
             replace h := ass_some h
             obtain ⟨a98, h⟩ := h
             replace h := ass_some h
             obtain ⟨a99, h⟩ := h
             simp [-guardE_b, -Is_at, -Is_at', -Ls_at, -Ls_at', eL, eI, allInts, eP_Cat, eP_Fn, Cat.cells, Fn.cells, at_I a97, at_I a98, at_I a99]
             repeat (with_reducible refine And.intro ?_ ?_; · first | assumption | omega | (simp; done) | (simp; omega) | simp_all)
             replace h := bind_some h
             obtain ⟨v100, hv100, h⟩ := h
             refine callA_intro (w_i_Category_then _ _ _ v100 hv100) (.cons (.preT (by simp [Cat.cells, Fn.cells])) (.cons .val (.cons .val .nil))) ?_
             simp [-guardE_b, -Is_at, -Is_at', -Ls_at, -Ls_at', unk, unA, unE, unT, unC, flat, eL, eI, allInts, eP_Cat, eP_Fn, Cat.cells, Fn.cells]
             repeat (with_reducible refine And.intro ?_ ?_; · first | assumption | omega | (simp; done) | (simp; omega) | simp_all)
             refine hK _ ?_
             exact jn (b := (ix f_.ar (ix (rx f_.s.cs s78) s92)) != v100) (Option.some.inj h) (Wk.r1 [] (by simp [hP, hhOk, back, Cat.cells, Fn.cells, IA, I1, LA, L1, BA, B1, EA, E1, E2, eB, eI, eL]))
           have g96 : ¬ ((ix (rx f_.s.cs s78) s92) ≥ 0) := by first | simpa using g | (simp at g; exact g) | (simp at g; omega)
           clear g
           replace h := if_r g96 h
           simp [-guardE_b, -Is_at, -Is_at', -Ls_at, -Ls_at', eL, eI, allInts, eP_Cat, eP_Fn, Cat.cells, Fn.cells]
           repeat (with_reducible refine And.intro ?_ ?_; · first | assumption | omega | (simp; done) | (simp; omega) | simp_all)
           refine hK _ ?_
           exact jn (b := false) (Option.some.inj h) (Wk.r1 [] (by simp [hP, hhOk, back, Cat.cells, Fn.cells, IA, I1, LA, L1, BA, B1, EA, E1, E2, eB, eI, eL]))
         intro b95 hb95
         have h := h95
         rw [← hb95] at h
         clear h95
         try dsimp only at h
         refine w_cond rfl (fun g => ?_) fun g => ?_
         · have g101 : b95 = true := by first | simpa using g | (simp at g; exact g) | (simp at g; omega)
           clear g
           replace h := if_l g101 h
           refine w_seq ?_
           refine w_run mo (by rw [hN]; decide) fun K hK => ?_
           simp [-guardE_b, -Is_at, -Is_at', -Ls_at, -Ls_at', eL, eI, allInts, eP_Cat, eP_Fn, Cat.cells, Fn.cells]
           repeat (with_reducible refine And.intro ?_ ?_; · first | assumption | omega | (simp; done) | (simp; omega) | simp_all)
           refine hK _ ?_
           clear hK K
           refine tn ?_
           refine w_weak (st' := ⟨[(2, .val (.bool false))], [], 0⟩) (Wk.r1 [] (by simp [hP, hhOk, back, Cat.cells, Fn.cells, IA, I1, LA, L1, BA, B1, EA, E1, E2, eB, eI, eL])) ?_
           refine w_ret ?_
           refine br ?_
           refine tr ?_
           refine lr ?_
           refine br ?_
           refine br ?_
           refine tr ?_
           refine lr ?_
           refine br ?_
           refine tr ?_
           cases h
           have q : _ = e92 := hk92
           have h := h92
           rw [← q] at h
           clear q
           try dsimp only at h
           cases h
           have h := h80
           try dsimp only at h
           cases h
           have q : _ = e52 := hk78
           have h := h52
           rw [← q] at h
           clear q
           try dsimp only at h
           have hr := Option.some.inj h
           rw [← hr]
           refine ⟨_, (.tmp .nil), ?_⟩
           refine ⟨(.one rfl rfl .nil), [.val (.bool false)], [], by simp [Cat.cells, Fn.cells, IA, I1, LA, L1, BA, B1, EA, E1, E2, eB, eI, eL], by simp, (UpL.refl _)⟩
         have g101 : ¬ (b95 = true) := by first | simpa using g | (simp at g; exact g) | (simp at g; omega)
         clear g
         replace h := if_r g101 h
         refine w_skip ?_
         refine bn ?_
         refine tn ?_
         refine w_run mo (by rw [hN]; decide) fun K hK => ?_
         replace h := ass_some h
         obtain ⟨a102, h⟩ := h
         simp [-guardE_b, -Is_at, -Is_at', -Ls_at, -Ls_at', eL, eI, allInts, eP_Cat, eP_Fn, Cat.cells, Fn.cells, wrap_id a102]
         repeat (with_reducible refine And.intro ?_ ?_; · first | assumption | omega | (simp; done) | (simp; omega) | simp_all)
         refine hK _ ?_
         clear hK K
         cases h
         exact rn (s' := s92 + 1) hk92 (Wk.r1 [] (by simp [hP, hhOk, back, Cat.cells, Fn.cells, IA, I1, LA, L1, BA, B1, EA, E1, E2, eB, eI, eL]))
       have g93 : ¬ (s92 < ((rx f_.s.cs s78).length : Int)) := by first | simpa using g | (simp at g; exact g) | (simp at g; omega)
       clear g
       replace h := if_r g93 h
       refine w_exit ?_
       refine tx ?_
       refine lx ?_
       refine bh ?_
       refine bn ?_
       cases h
       have q : _ = e92 := hk92
       have h := h92
       rw [← q] at h
       clear q
       try dsimp only at h
       exact jn (b := ()) (Option.some.inj h) (Wk.r1 [] (by simp [hP, hhOk, back, Cat.cells, Fn.cells, IA, I1, LA, L1, BA, B1, EA, E1, E2, eB, eI, eL]))
     intro b80 hb80
     have h := h80
     rw [← hb80] at h
     clear h80
     try dsimp only at h
     refine w_run mo (by rw [hN]; decide) fun K hK => ?_
     replace h := ass_some h
     obtain ⟨a103, h⟩ := h
     simp [-guardE_b, -Is_at, -Is_at', -Ls_at, -Ls_at', eL, eI, allInts, eP_Cat, eP_Fn, Cat.cells, Fn.cells, wrap_id a103]
     repeat (with_reducible refine And.intro ?_ ?_; · first | assumption | omega | (simp; done) | (simp; omega) | simp_all)
     refine hK _ ?_
     clear hK K
     cases h
     exact rn (s' := s78 + 1) hk78 (Wk.r1 [] (by simp [hP, hhOk, back, Cat.cells, Fn.cells, IA, I1, LA, L1, BA, B1, EA, E1, E2, eB, eI, eL]))
   have g79 : ¬ (s78 < (f_.s.cs.length : Int)) := by first | simpa using g | (simp at g; exact g) | (simp at g; omega)
   clear g
   replace h := if_r g79 h
   refine w_exit ?_
   refine tx ?_
   refine lx ?_
   refine bh ?_
   cases h
   exact jn (b := ()) hk78 (Wk.r1 [] (by simp [hP, hhOk, back, Cat.cells, Fn.cells, IA, I1, LA, L1, BA, B1, EA, E1, E2, eB, eI, eL]))
 intro b52 hb52
 have h := h52
 rw [← hb52] at h
 clear h52
 try dsimp only at h
 refine w_seq ?_
 refine w_run mo (by rw [hN]; decide) fun K hK => ?_
 simp [-guardE_b, -Is_at, -Is_at', -Ls_at, -Ls_at', eL, eI, allInts, eP_Cat, eP_Fn, Cat.cells, Fn.cells]
 repeat (with_reducible refine And.intro ?_ ?_; · first | assumption | omega | (simp; done) | (simp; omega) | simp_all)
 refine hK _ ?_
 clear hK K
 refine tn ?_
 refine w_weak (st' := ⟨[(2, .val (.bool true))], [], 0⟩) (Wk.r1 [] (by simp [hP, hhOk, back, Cat.cells, Fn.cells, IA, I1, LA, L1, BA, B1, EA, E1, E2, eB, eI, eL])) ?_
 refine w_ret ?_
 have hr := Option.some.inj h
 rw [← hr]
 refine ⟨_, (.tmp .nil), ?_⟩
 refine ⟨(.one rfl rfl .nil), [.val (.bool true)], [], by simp [Cat.cells, Fn.cells, IA, I1, LA, L1, BA, B1, EA, E1, E2, eB, eI, eL], by simp, (UpL.refl _)⟩
end Go.Vc.T

set_option maxRecDepth 100000
set_option linter.unusedSimpArgs false
set_option linter.unusedVariables false
namespace Go.Vc.T
open Go Go.Vc Go.Proofs
noncomputable def s_s_l06Then (f_ : Fn) (g_ : Fn) : Option Fn :=
 (s_s_l01Then f_.ob g_.ob).bind fun v1 =>
 (s_s_l01Then f_.ar g_.ar).bind fun v2 =>
 (s_s_l06Make f_.s g_.t v1 v2).bind fun v3 =>
 some v3
set_option maxHeartbeats 4000000 in
theorem w_s_l06Then (f_ : Fn) (g_ : Fn) (r : Fn) (h : s_s_l06Then f_ g_ = some r) : Contract Try.prog 121 [.agg (f_.cells true), .agg (g_.cells true)] (.agg (r.cells true)) := by
 refine contract_introG (rvs := [.cell 4 35]) (rs := [.agg (r.cells true)]) Try.func121 rfl rfl rfl rfl (by simp [Try.f121]) fun F hN hP => ?_
 unfold s_s_l06Then at h
 refine w_seq ?_
 refine w_run mo (by rw [hN]; decide) fun K hK => ?_
 simp [-guardE_b, -Is_at, -Is_at', -Ls_at, -Ls_at', eL, eI, allInts, eP_Cat, eP_Fn, Cat.cells, Fn.cells]
 repeat (with_reducible refine And.intro ?_ ?_; · first | assumption | omega | (simp; done) | (simp; omega) | simp_all)
 refine hK _ ?_
 clear hK K
 refine tn ?_
 refine w_weak (st' := ⟨[(2, .adr 0 0 0), (3, .adr 1 0 0), (4, .adr 2 0 0)], [(0, .mix 12 [(Fn.cells true f_)]), (1, .mix 12 [(Fn.cells true g_)]), (2, .mix 12 [[.val (.int .i64 0), .val (.slice none 0 0), .val (.slice none 0 0), .val (.slice none 0 0), .val (.slice none 0 0), .val (.int .i64 0), .val (.slice none 0 0), .val (.slice none 0 0), .val (.slice none 0 0), .val (.slice none 0 0), .val (.slice none 0 0), .val (.slice none 0 0)]])], 3⟩) (Wk.r1 [(0, 0), (1, 1), (2, 2)] (by simp [hP, hhOk, back, Cat.cells, Fn.cells, IA, I1, LA, L1, BA, B1, EA, E1, E2, eB, eI, eL])) ?_
 refine w_seq ?_
 refine w_run mo (by rw [hN]; decide) fun K hK => ?_
 simp [-guardE_b, -Is_at, -Is_at', -Ls_at, -Ls_at', eL, eI, allInts, eP_Cat, eP_Fn, Cat.cells, Fn.cells]
 repeat (with_reducible refine And.intro ?_ ?_; · first | assumption | omega | (simp; done) | (simp; omega) | simp_all)
 replace h := bind_some h
 obtain ⟨v1, hv1, h⟩ := h
 refine callA_intro (w_s_l01Then _ _ v1 hv1) (.cons .lst (.cons .lst .nil)) ?_
 simp [-guardE_b, -Is_at, -Is_at', -Ls_at, -Ls_at', unk, unA, unE, unT, unC, flat, eL, eI, allInts, eP_Cat, eP_Fn, Cat.cells, Fn.cells]
 repeat (with_reducible refine And.intro ?_ ?_; · first | assumption | omega | (simp; done) | (simp; omega) | simp_all)
 replace h := bind_some h
 obtain ⟨v2, hv2, h⟩ := h
 refine callA_intro (w_s_l01Then _ _ v2 hv2) (.cons .lst (.cons .lst .nil)) ?_
 simp [-guardE_b, -Is_at, -Is_at', -Ls_at, -Ls_at', unk, unA, unE, unT, unC, flat, eL, eI, allInts, eP_Cat, eP_Fn, Cat.cells, Fn.cells]
 repeat (with_reducible refine And.intro ?_ ?_; · first | assumption | omega | (simp; done) | (simp; omega) | simp_all)
 replace h := bind_some h
 obtain ⟨v3, hv3, h⟩ := h
 refine callA_intro (w_s_l06Make _ _ _ _ v3 hv3) (.cons (.aggL (.cons .val (.cons .lst (.cons .lst (.cons .lst (.cons .lst .nil)))))) (.cons (.aggL (.cons .val (.cons .lst (.cons .lst (.cons .lst (.cons .lst .nil)))))) (.cons (.whole (by simp) (by simp) (by simp)) (.cons (.whole (by simp) (by simp) (by simp)) .nil)))) ?_
 simp [-guardE_b, -Is_at, -Is_at', -Ls_at, -Ls_at', unk, unA, unE, unT, unC, flat, eL, eI, allInts, eP_Cat, eP_Fn, Cat.cells, Fn.cells]
 repeat (with_reducible refine And.intro ?_ ?_; · first | assumption | omega | (simp; done) | (simp; omega) | simp_all)
 refine hK _ ?_
 clear hK K
 refine tn ?_
 refine w_weak (st' := ⟨[(4, .adr 0 0 0)], [(0, .mix 12 [[.val (.int .i64 v3.s.n), .own 1 0 v3.s.fr.length, .own 2 0 v3.s.to.length, .own 3 0 v3.s.id.length, .own 4 0 v3.s.cs.length, .val (.int .i64 v3.t.n), .own 5 0 v3.t.fr.length, .own 6 0 v3.t.to.length, .own 7 0 v3.t.id.length, .own 8 0 v3.t.cs.length, .own 9 0 v3.ob.length, .own 10 0 v3.ar.length]]), (1, .row 1 (Is v3.s.fr)), (2, .row 1 (Is v3.s.to)), (3, .row 1 (Is v3.s.id)), (4, .row 1 (Ls v3.s.cs)), (5, .row 1 (Is v3.t.fr)), (6, .row 1 (Is v3.t.to)), (7, .row 1 (Is v3.t.id)), (8, .row 1 (Ls v3.t.cs)), (9, .row 1 (Is v3.ob)), (10, .row 1 (Is v3.ar))], 11⟩) (Wk.r1 [(2, 0), (6, 1), (7, 2), (8, 3), (9, 4), (11, 5), (12, 6), (13, 7), (14, 8), (15, 9), (16, 10)] (by simp [hP, hhOk, back, Cat.cells, Fn.cells, IA, I1, LA, L1, BA, B1, EA, E1, E2, eB, eI, eL])) ?_
 refine w_ret ?_
 have hr := Option.some.inj h
 rw [← hr]
 refine ⟨_, (.cell tf_35 rfl rfl rfl (by simp) (by simp) .nil), ?_⟩
 refine ⟨(.agg rfl .nil), [.val (.int .i64 v3.s.n), .lst true 1 (Is v3.s.fr), .lst true 1 (Is v3.s.to), .lst true 1 (Is v3.s.id), .lst true 1 (Ls v3.s.cs), .val (.int .i64 v3.t.n), .lst true 1 (Is v3.t.fr), .lst true 1 (Is v3.t.to), .lst true 1 (Is v3.t.id), .lst true 1 (Ls v3.t.cs), .lst true 1 (Is v3.ob), .lst true 1 (Is v3.ar)], [1, 2, 3, 4, 5, 6, 7, 8, 9, 10], by simp [Cat.cells, Fn.cells, IA, I1, LA, L1, BA, B1, EA, E1, E2, eB, eI, eL], by simp, (UpL.refl _)⟩
noncomputable def s_i_Functor_then (f_ : Fn) (g_ : Fn) : Option Fn :=
 (s_i_then f_.ob g_.ob).bind fun v1 =>
 (s_i_then f_.ar g_.ar).bind fun v2 =>
 (s_i_functor f_.s g_.t v1 v2).bind fun v3 =>
 some v3
set_option maxHeartbeats 4000000 in
theorem w_i_Functor_then (f_ : Fn) (g_ : Fn) (r : Fn) (h : s_i_Functor_then f_ g_ = some r) : Contract Try.prog 123 [.rptr (f_.cells true), .rptr (g_.cells true)] (.agg (r.cells true)) := by
 refine contract_introG (rvs := [.cell 4 35]) (rs := [.agg (r.cells true)]) Try.func123 rfl rfl rfl rfl (by simp [Try.f123]) fun F hN hP => ?_
 unfold s_i_Functor_then at h
 refine w_seq ?_
 refine w_run mo (by rw [hN]; decide) fun K hK => ?_
 simp [-guardE_b, -Is_at, -Is_at', -Ls_at, -Ls_at', eL, eI, allInts, eP_Cat, eP_Fn, Cat.cells, Fn.cells]
 repeat (with_reducible refine And.intro ?_ ?_; · first | assumption | omega | (simp; done) | (simp; omega) | simp_all)
 refine hK _ ?_
 clear hK K
 refine tn ?_
 refine w_weak (st' := ⟨[(0, .rptr (Fn.cells true f_)), (1, .rptr (Fn.cells true g_)), (4, .adr 0 0 0)], [(0, .mix 12 [[.val (.int .i64 0), .val (.slice none 0 0), .val (.slice none 0 0), .val (.slice none 0 0), .val (.slice none 0 0), .val (.int .i64 0), .val (.slice none 0 0), .val (.slice none 0 0), .val (.slice none 0 0), .val (.slice none 0 0), .val (.slice none 0 0), .val (.slice none 0 0)]])], 1⟩) (Wk.r1 [(0, 0)] (by simp [hP, hhOk, back, Cat.cells, Fn.cells, IA, I1, LA, L1, BA, B1, EA, E1, E2, eB, eI, eL])) ?_
 refine w_seq ?_
 refine w_run mo (by rw [hN]; decide) fun K hK => ?_
 simp [-guardE_b, -Is_at, -Is_at', -Ls_at, -Ls_at', eL, eI, allInts, eP_Cat, eP_Fn, Cat.cells, Fn.cells]
 repeat (with_reducible refine And.intro ?_ ?_; · first | assumption | omega | (simp; done) | (simp; omega) | simp_all)
 replace h := bind_some h
 obtain ⟨v1, hv1, h⟩ := h
 refine callA_intro (w_i_then _ _ v1 hv1) (.cons .lst (.cons .lst .nil)) ?_
 simp [-guardE_b, -Is_at, -Is_at', -Ls_at, -Ls_at', unk, unA, unE, unT, unC, flat, eL, eI, allInts, eP_Cat, eP_Fn, Cat.cells, Fn.cells]
 repeat (with_reducible refine And.intro ?_ ?_; · first | assumption | omega | (simp; done) | (simp; omega) | simp_all)
 replace h := bind_some h
 obtain ⟨v2, hv2, h⟩ := h
 refine callA_intro (w_i_then _ _ v2 hv2) (.cons .lst (.cons .lst .nil)) ?_
 simp [-guardE_b, -Is_at, -Is_at', -Ls_at, -Ls_at', unk, unA, unE, unT, unC, flat, eL, eI, allInts, eP_Cat, eP_Fn, Cat.cells, Fn.cells]
 repeat (with_reducible refine And.intro ?_ ?_; · first | assumption | omega | (simp; done) | (simp; omega) | simp_all)
 replace h := bind_some h
 obtain ⟨v3, hv3, h⟩ := h
 refine callA_intro (w_i_functor _ _ _ _ v3 hv3) (.cons (.preT (by simp [Cat.cells, Fn.cells])) (.cons (.preT (by simp [Cat.cells, Fn.cells])) (.cons (.whole (by simp) (by simp) (by simp)) (.cons (.whole (by simp) (by simp) (by simp)) .nil)))) ?_
 simp [-guardE_b, -Is_at, -Is_at', -Ls_at, -Ls_at', unk, unA, unE, unT, unC, flat, eL, eI, allInts, eP_Cat, eP_Fn, Cat.cells, Fn.cells]
 repeat (with_reducible refine And.intro ?_ ?_; · first | assumption | omega | (simp; done) | (simp; omega) | simp_all)
 refine hK _ ?_
 clear hK K
 refine tn ?_
 refine w_weak (st' := ⟨[(4, .adr 0 0 0)], [(0, .mix 12 [[.val (.int .i64 v3.s.n), .own 1 0 v3.s.fr.length, .own 2 0 v3.s.to.length, .own 3 0 v3.s.id.length, .own 4 0 v3.s.cs.length, .val (.int .i64 v3.t.n), .own 5 0 v3.t.fr.length, .own 6 0 v3.t.to.length, .own 7 0 v3.t.id.length, .own 8 0 v3.t.cs.length, .own 9 0 v3.ob.length, .own 10 0 v3.ar.length]]), (1, .row 1 (Is v3.s.fr)), (2, .row 1 (Is v3.s.to)), (3, .row 1 (Is v3.s.id)), (4, .row 1 (Ls v3.s.cs)), (5, .row 1 (Is v3.t.fr)), (6, .row 1 (Is v3.t.to)), (7, .row 1 (Is v3.t.id)), (8, .row 1 (Ls v3.t.cs)), (9, .row 1 (Is v3.ob)), (10, .row 1 (Is v3.ar))], 11⟩) (Wk.r1 [(0, 0), (4, 1), (5, 2), (6, 3), (7, 4), (9, 5), (10, 6), (11, 7), (12, 8), (13, 9), (14, 10)] (by simp [hP, hhOk, back, Cat.cells, Fn.cells, IA, I1, LA, L1, BA, B1, EA, E1, E2, eB, eI, eL])) ?_
 refine w_ret ?_
 have hr := Option.some.inj h
 rw [← hr]
 refine ⟨_, (.cell tf_35 rfl rfl rfl (by simp) (by simp) .nil), ?_⟩
 refine ⟨(.agg rfl .nil), [.val (.int .i64 v3.s.n), .lst true 1 (Is v3.s.fr), .lst true 1 (Is v3.s.to), .lst true 1 (Is v3.s.id), .lst true 1 (Ls v3.s.cs), .val (.int .i64 v3.t.n), .lst true 1 (Is v3.t.fr), .lst true 1 (Is v3.t.to), .lst true 1 (Is v3.t.id), .lst true 1 (Ls v3.t.cs), .lst true 1 (Is v3.ob), .lst true 1 (Is v3.ar)], [1, 2, 3, 4, 5, 6, 7, 8, 9, 10], by simp [Cat.cells, Fn.cells, IA, I1, LA, L1, BA, B1, EA, E1, E2, eB, eI, eL], by simp, (UpL.refl _)⟩
noncomputable def s_i_Functor_isFunctor (f_ : Fn) : Option Bool :=
 (
   (s_i_areCategories [f_.s, f_.t]).bind fun v2 =>
   if v2 = true then
     (s_i_Functor_fits f_).bind fun v4 =>
     some v4
   else
     some false : Option (Bool)).bind fun b1 =>
 some b1
set_option maxHeartbeats 4000000 in
theorem w_i_Functor_isFunctor (f_ : Fn) (r : Bool) (h : s_i_Functor_isFunctor f_ = some r) : Contract Try.prog 157 [.rptr (f_.cells true)] (.val (.bool r)) := by
 refine contract_introG (rvs := [.tmp 2]) (rs := [.val (.bool r)]) Try.func157 rfl rfl rfl rfl (by simp [Try.f157]) fun F hN hP => ?_
 unfold s_i_Functor_isFunctor at h
 refine w_seq ?_
 refine w_run mo (by rw [hN]; decide) fun K hK => ?_
 simp [-guardE_b, -Is_at, -Is_at', -Ls_at, -Ls_at', eL, eI, allInts, eP_Cat, eP_Fn, Cat.cells, Fn.cells]
 repeat (with_reducible refine And.intro ?_ ?_; · first | assumption | omega | (simp; done) | (simp; omega) | simp_all)
 refine hK _ ?_
 clear hK K
 refine tn ?_
 refine w_weak (st' := ⟨[(0, .rptr (Fn.cells true f_))], [], 0⟩) (Wk.r1 [] (by simp [hP, hhOk, back, Cat.cells, Fn.cells, IA, I1, LA, L1, BA, B1, EA, E1, E2, eB, eI, eL])) ?_
 refine w_seq ?_
 replace h := bind_some h
 obtain ⟨e1, h, h1⟩ := h
 refine w_joinT (fun b1 : Bool => ⟨[(2, .val (.bool b1))], [], 0⟩) (fun b1 => b1 = e1) ?_ ?_
 · refine w_run mo (by rw [hN]; decide) fun K hK => ?_
   simp [-guardE_b, -Is_at, -Is_at', -Ls_at, -Ls_at', eL, eI, allInts, eP_Cat, eP_Fn, Cat.cells, Fn.cells]
   repeat (with_reducible refine And.intro ?_ ?_; · first | assumption | omega | (simp; done) | (simp; omega) | simp_all)
   replace h := bind_some h
   obtain ⟨v2, hv2, h⟩ := h
   refine callA_intro (w_i_areCategories _ v2 hv2) (.cons (.lits (es := _) rfl (.cons rfl (.cons (.preT (by simp [Cat.cells, Fn.cells])) .nil) (.cons rfl (.cons (.preT (by simp [Cat.cells, Fn.cells])) .nil) .nil)) rfl) .nil) ?_
   simp [-guardE_b, -Is_at, -Is_at', -Ls_at, -Ls_at', unk, unA, unE, unT, unC, flat, eL, eI, allInts, eP_Cat, eP_Fn, Cat.cells, Fn.cells]
   repeat (with_reducible refine And.intro ?_ ?_; · first | assumption | omega | (simp; done) | (simp; omega) | simp_all)
   refine guard_intro (fun g => ?_) (fun g => ?_)
   · have g3 : v2 = true := by first | simpa using g | (simp at g; exact g) | (simp at g; omega)
     clear g
     replace h := if_l g3 h
     simp [-guardE_b, -Is_at, -Is_at', -Ls_at, -Ls_at', eL, eI, allInts, eP_Cat, eP_Fn, Cat.cells, Fn.cells]
     repeat (with_reducible refine And.intro ?_ ?_; · first | assumption | omega | (simp; done) | (simp; omega) | simp_all)
     replace h := bind_some h
     obtain ⟨v4, hv4, h⟩ := h
     refine callA_intro (w_i_Functor_fits _ v4 hv4) (.cons (.preT (by simp [Cat.cells, Fn.cells])) .nil) ?_
     simp [-guardE_b, -Is_at, -Is_at', -Ls_at, -Ls_at', unk, unA, unE, unT, unC, flat, eL, eI, allInts, eP_Cat, eP_Fn, Cat.cells, Fn.cells]
     repeat (with_reducible refine And.intro ?_ ?_; · first | assumption | omega | (simp; done) | (simp; omega) | simp_all)
     refine hK _ ?_
     exact jn (b := v4) (Option.some.inj h) (Wk.r1 [] (by simp [hP, hhOk, back, Cat.cells, Fn.cells, IA, I1, LA, L1, BA, B1, EA, E1, E2, eB, eI, eL]))
   have g3 : ¬ (v2 = true) := by first | simpa using g | (simp at g; exact g) | (simp at g; omega)
   clear g
   replace h := if_r g3 h
   simp [-guardE_b, -Is_at, -Is_at', -Ls_at, -Ls_at', eL, eI, allInts, eP_Cat, eP_Fn, Cat.cells, Fn.cells]
   repeat (with_reducible refine And.intro ?_ ?_; · first | assumption | omega | (simp; done) | (simp; omega) | simp_all)
   refine hK _ ?_
   exact jn (b := false) (Option.some.inj h) (Wk.r1 [] (by simp [hP, hhOk, back, Cat.cells, Fn.cells, IA, I1, LA, L1, BA, B1, EA, E1, E2, eB, eI, eL]))
 intro b1 hb1
 have h := h1
 rw [← hb1] at h
 clear h1
 try dsimp only at h
 refine w_ret ?_
 have hr := Option.some.inj h
 rw [← hr]
 refine ⟨_, (.tmp .nil), ?_⟩
 refine ⟨(.one rfl rfl .nil), [.val (.bool b1)], [], by simp [Cat.cells, Fn.cells, IA, I1, LA, L1, BA, B1, EA, E1, E2, eB, eI, eL], by simp, (UpL.refl _)⟩
end Go.Vc.T

set_option maxRecDepth 100000
set_option linter.unusedSimpArgs false
set_option linter.unusedVariables false
namespace Go.Vc.T
open Go Go.Vc Go.Proofs
noncomputable def s_i_Monad_arrow (m_ : Mnd) (f_ : Int) : Option Int :=
 ass (0 ≤ f_ ∧ f_ < (m_.f.ar.length : Int)) <|
 some (ix m_.f.ar f_)
set_option maxHeartbeats 4000000 in
theorem w_i_Monad_arrow (m_ : Mnd) (f_ : Int) (r : Int) (h : s_i_Monad_arrow m_ f_ = some r) : Contract Try.prog 151 [.rptr (m_.cells true), .val (.int .i64 f_)] (.val (.int .i64 r)) := by
 refine contract_introG (rvs := [.tmp 4]) (rs := [.val (.int .i64 r)]) Try.func151 rfl rfl rfl rfl (by simp [Try.f151]) fun F hN hP => ?_
 unfold s_i_Monad_arrow at h
 refine w_seq ?_
 refine w_run mo (by rw [hN]; decide) fun K hK => ?_
 simp [-guardE_b, -Is_at, -Is_at', -Ls_at, -Ls_at', eL, eI, allInts, eP_Mnd, Mnd.cells]
 repeat (with_reducible refine And.intro ?_ ?_; · first | assumption | omega | (simp; done) | (simp; omega) | simp_all)
 refine hK _ ?_
 clear hK K
 refine tn ?_
 refine w_weak (st' := ⟨[(0, .rptr (Mnd.cells true m_)), (1, .val (.int .i64 f_))], [], 0⟩) (Wk.r1 [] (by simp [hP, hhOk, back, Mnd.cells, IA, I1, LA, L1, BA, B1, EA, E1, E2, eB, eI, eL])) ?_
 refine w_seq ?_
 refine w_run mo (by rw [hN]; decide) fun K hK => ?_
 replace h := ass_some h
 obtain ⟨a1, h⟩ := h
 simp [-guardE_b, -Is_at, -Is_at', -Ls_at, -Ls_at', eL, eI, allInts, eP_Mnd, Mnd.cells, at_I a1]
 repeat (with_reducible refine And.intro ?_ ?_; · first | assumption | omega | (simp; done) | (simp; omega) | simp_all)
 refine hK _ ?_
 clear hK K
 refine tn ?_
 refine w_weak (st' := ⟨[(4, .val (.int .i64 (ix m_.f.ar f_)))], [], 0⟩) (Wk.r1 [] (by simp [hP, hhOk, back, Mnd.cells, IA, I1, LA, L1, BA, B1, EA, E1, E2, eB, eI, eL])) ?_
 refine w_ret ?_
 have hr := Option.some.inj h
 rw [← hr]
 refine ⟨_, (.tmp .nil), ?_⟩
 refine ⟨(.one rfl rfl .nil), [.val (.int .i64 (ix m_.f.ar f_))], [], by simp [Mnd.cells, IA, I1, LA, L1, BA, B1, EA, E1, E2, eB, eI, eL], by simp, (UpL.refl _)⟩
noncomputable def s_i_Monad_object (m_ : Mnd) (x_ : Int) : Option Int :=
 ass (0 ≤ x_ ∧ x_ < (m_.f.ob.length : Int)) <|
 some (ix m_.f.ob x_)
set_option maxHeartbeats 4000000 in
theorem w_i_Monad_object (m_ : Mnd) (x_ : Int) (r : Int) (h : s_i_Monad_object m_ x_ = some r) : Contract Try.prog 152 [.rptr (m_.cells true), .val (.int .i64 x_)] (.val (.int .i64 r)) := by
 refine contract_introG (rvs := [.tmp 4]) (rs := [.val (.int .i64 r)]) Try.func152 rfl rfl rfl rfl (by simp [Try.f152]) fun F hN hP => ?_
 unfold s_i_Monad_object at h
 refine w_seq ?_
 refine w_run mo (by rw [hN]; decide) fun K hK => ?_
 simp [-guardE_b, -Is_at, -Is_at', -Ls_at, -Ls_at', eL, eI, allInts, eP_Mnd, Mnd.cells]
 repeat (with_reducible refine And.intro ?_ ?_; · first | assumption | omega | (simp; done) | (simp; omega) | simp_all)
 refine hK _ ?_
 clear hK K
 refine tn ?_
 refine w_weak (st' := ⟨[(0, .rptr (Mnd.cells true m_)), (1, .val (.int .i64 x_))], [], 0⟩) (Wk.r1 [] (by simp [hP, hhOk, back, Mnd.cells, IA, I1, LA, L1, BA, B1, EA, E1, E2, eB, eI, eL])) ?_
 refine w_seq ?_
 refine w_run mo (by rw [hN]; decide) fun K hK => ?_
 replace h := ass_some h
 obtain ⟨a1, h⟩ := h
 simp [-guardE_b, -Is_at, -Is_at', -Ls_at, -Ls_at', eL, eI, allInts, eP_Mnd, Mnd.cells, at_I a1]
 repeat (with_reducible refine And.intro ?_ ?_; · first | assumption | omega | (simp; done) | (simp; omega) | simp_all)
 refine hK _ ?_
 clear hK K
 refine tn ?_
 refine w_weak (st' := ⟨[(4, .val (.int .i64 (ix m_.f.ob x_)))], [], 0⟩) (Wk.r1 [] (by simp [hP, hhOk, back, Mnd.cells, IA, I1, LA, L1, BA, B1, EA, E1, E2, eB, eI, eL])) ?_
 refine w_ret ?_
 have hr := Option.some.inj h
 rw [← hr]
 refine ⟨_, (.tmp .nil), ?_⟩
 refine ⟨(.one rfl rfl .nil), [.val (.int .i64 (ix m_.f.ob x_))], [], by simp [Mnd.cells, IA, I1, LA, L1, BA, B1, EA, E1, E2, eB, eI, eL], by simp, (UpL.refl _)⟩
end Go.Vc.T

set_option maxRecDepth 100000
set_option linter.unusedSimpArgs false
set_option linter.unusedVariables false
namespace Go.Vc.T
open Go Go.Vc Go.Proofs
noncomputable def s_i_numbers (n_ : Int) : Option (List Int) :=
 ass (0 ≤ n_ ∧ n_ ≤ 1073741824) <|
 (loopF (σ := List Int × Int) (ε := List Int) (fun s6 =>
   if s6.2 < ((List.replicate n_.toNat 0).length : Int) then
     ass (0 ≤ s6.2 ∧ s6.2 < (s6.1.length : Int)) <|
     ass (B64 (s6.2 + 1)) <|
     some (Ctl.next (s6.1.set s6.2.toNat s6.2, s6.2 + 1))
   else
     some (Ctl.ret s6.1)) fuel (List.replicate n_.toNat 0, 0)).bind fun b2 =>
 some b2
set_option maxHeartbeats 4000000 in
theorem w_i_numbers (n_ : Int) (r : List Int) (h : s_i_numbers n_ = some r) : Contract Try.prog 213 [.val (.int .i64 n_)] (.lst true 1 (Is r)) := by
 refine contract_introG (rvs := [.tmp 2]) (rs := [.lst true 1 (Is r)]) Try.func213 rfl rfl rfl rfl (by simp [Try.f213]) fun F hN hP => ?_
 unfold s_i_numbers at h
 refine w_seq ?_
 refine w_run mo (by rw [hN]; decide) fun K hK => ?_
 simp [-guardE_b, -Is_at, -Is_at', -Ls_at, -Ls_at', eL, eI, allInts]
 repeat (with_reducible refine And.intro ?_ ?_; · first | assumption | omega | (simp; done) | (simp; omega) | simp_all)
 refine hK _ ?_
 clear hK K
 refine tn ?_
 refine w_weak (st' := ⟨[(0, .val (.int .i64 n_))], [], 0⟩) (Wk.r1 [] (by simp [hP, hhOk, back, IA, I1, LA, L1, BA, B1, EA, E1, E2, eB, eI, eL])) ?_
 refine w_seq ?_
 refine w_run mo (by rw [hN]; decide) fun K hK => ?_
 replace h := ass_some h
 obtain ⟨a1, h⟩ := h
 simp [-guardE_b, -Is_at, -Is_at', -Ls_at, -Ls_at', eL, eI, allInts]
 repeat (with_reducible refine And.intro ?_ ?_; · first | assumption | omega | (simp; done) | (simp; omega) | simp_all)
 refine hK _ ?_
 clear hK K
 refine tn ?_
 refine w_weak (st' := ⟨[(3, .own 0 0 ((List.replicate n_.toNat 0).length))], [(0, .row 1 (Is (List.replicate n_.toNat 0)))], 1⟩) (Wk.r1 [(0, 0)] (by simp [hP, hhOk, back, IA, I1, LA, L1, BA, B1, EA, E1, E2, eB, eI, eL])) ?_
 refine w_seq ?_
 refine w_seq ?_
 refine w_run mo (by rw [hN]; decide) fun K hK => ?_
 simp [-guardE_b, -Is_at, -Is_at', -Ls_at, -Ls_at', eL, eI, allInts]
 repeat (with_reducible refine And.intro ?_ ?_; · first | assumption | omega | (simp; done) | (simp; omega) | simp_all)
 refine hK _ ?_
 clear hK K
 refine tn ?_
 refine w_weak (st' := ⟨[(3, .own 0 0 ((List.replicate n_.toNat 0).length)), (8, .val (.int .i64 ((List.replicate n_.toNat 0).length : Int))), (9, .val (.int .i64 0))], [(0, .row 1 (Is (List.replicate n_.toNat 0)))], 1⟩) (Wk.r1 [(0, 0)] (by simp [hP, hhOk, back, IA, I1, LA, L1, BA, B1, EA, E1, E2, eB, eI, eL])) ?_
 replace h := bind_some h
 obtain ⟨e2, h, h2⟩ := h
 refine w_joinT (fun b2 : List Int => ⟨[(3, .own 0 0 b2.length)], [(0, .row 1 (Is b2))], 1⟩) (fun b2 => b2 = e2) ?_ ?_
 · refine w_block ?_
   refine w_loopF h (fun s6 : List Int × Int => ⟨[(3, .own 0 0 s6.1.length), (8, .val (.int .i64 ((List.replicate n_.toNat 0).length : Int))), (9, .val (.int .i64 s6.2))], [(0, .row 1 (Is s6.1))], 1⟩) (Wk.r1 [(0, 0)] (by simp [hP, hhOk, back, IA, I1, LA, L1, BA, B1, EA, E1, E2, eB, eI, eL])) ?_
   clear h
   intro k6 s6 c6 h hk6
   refine w_seq ?_
   refine w_run mo (by rw [hN]; decide) fun K hK => ?_
   simp [-guardE_b, -Is_at, -Is_at', -Ls_at, -Ls_at', eL, eI, allInts]
   repeat (with_reducible refine And.intro ?_ ?_; · first | assumption | omega | (simp; done) | (simp; omega) | simp_all)
   refine hK _ ?_
   clear hK K
   refine tn ?_
   refine w_weak (st' := ⟨[(3, .own 0 0 s6.1.length), (8, .val (.int .i64 ((List.replicate n_.toNat 0).length : Int))), (9, .val (.int .i64 s6.2)), (10, .val (.bool (decide (s6.2 < ((List.replicate n_.toNat 0).length : Int)))))], [(0, .row 1 (Is s6.1))], 1⟩) (Wk.r1 [(0, 0)] (by simp [hP, hhOk, back, IA, I1, LA, L1, BA, B1, EA, E1, E2, eB, eI, eL])) ?_
   refine w_seq ?_
   refine w_cond rfl (fun g => ?_) fun g => ?_
   · have g7 : s6.2 < ((List.replicate n_.toNat 0).length : Int) := by first | simpa using g | (simp at g; exact g) | (simp at g; omega)
     clear g
     replace h := if_l g7 h
     refine w_skip ?_
     refine tn ?_
     refine w_seq ?_
     refine w_block ?_
     refine w_seq ?_
     refine w_run mo (by rw [hN]; decide) fun K hK => ?_
     simp [-guardE_b, -Is_at, -Is_at', -Ls_at, -Ls_at', eL, eI, allInts]
     repeat (with_reducible refine And.intro ?_ ?_; · first | assumption | omega | (simp; done) | (simp; omega) | simp_all)
     refine hK _ ?_
     clear hK K
     refine tn ?_
     refine w_weak (st' := ⟨[(3, .own 0 0 s6.1.length), (4, .val (.int .i64 s6.2)), (8, .val (.int .i64 ((List.replicate n_.toNat 0).length : Int))), (9, .val (.int .i64 s6.2))], [(0, .row 1 (Is s6.1))], 1⟩) (Wk.r1 [(0, 0)] (by simp [hP, hhOk, back, IA, I1, LA, L1, BA, B1, EA, E1, E2, eB, eI, eL])) ?_
     refine w_run mo (by rw [hN]; decide) fun K hK => ?_
     replace h := ass_some h
     obtain ⟨a8, h⟩ := h
     simp [-guardE_b, -Is_at, -Is_at', -Ls_at, -Ls_at', eL, eI, allInts, at_I a8]
     repeat (with_reducible refine And.intro ?_ ?_; · first | assumption | omega | (simp; done) | (simp; omega) | simp_all)
     refine hK _ ?_
     clear hK K
     refine bn ?_
     refine tn ?_
     refine w_weak (st' := ⟨[(3, .own 0 0 ((s6.1.set s6.2.toNat s6.2).length)), (8, .val (.int .i64 ((List.replicate n_.toNat 0).length : Int))), (9, .val (.int .i64 s6.2))], [(0, .row 1 (Is (s6.1.set s6.2.toNat s6.2)))], 1⟩) (Wk.r1 [(0, 0)] (by simp [hP, hhOk, back, IA, I1, LA, L1, BA, B1, EA, E1, E2, eB, eI, eL])) ?_
     refine w_run mo (by rw [hN]; decide) fun K hK => ?_
     replace h := ass_some h
     obtain ⟨a9, h⟩ := h
     simp [-guardE_b, -Is_at, -Is_at', -Ls_at, -Ls_at', eL, eI, allInts, wrap_id a9]
     repeat (with_reducible refine And.intro ?_ ?_; · first | assumption | omega | (simp; done) | (simp; omega) | simp_all)
     refine hK _ ?_
     clear hK K
     cases h
     exact rn (s' := (s6.1.set s6.2.toNat s6.2, s6.2 + 1)) hk6 (Wk.r1 [(0, 0)] (by simp [hP, hhOk, back, IA, I1, LA, L1, BA, B1, EA, E1, E2, eB, eI, eL]))
   have g7 : ¬ (s6.2 < ((List.replicate n_.toNat 0).length : Int)) := by first | simpa using g | (simp at g; exact g) | (simp at g; omega)
   clear g
   replace h := if_r g7 h
   refine w_exit ?_
   refine tx ?_
   refine lx ?_
   refine bh ?_
   cases h
   exact jn (b := s6.1) hk6 (Wk.r1 [(0, 0)] (by simp [hP, hhOk, back, IA, I1, LA, L1, BA, B1, EA, E1, E2, eB, eI, eL]))
 intro b2 hb2
 have h := h2
 rw [← hb2] at h
 clear h2
 try dsimp only at h
 refine w_seq ?_
 refine w_run mo (by rw [hN]; decide) fun K hK => ?_
 simp [-guardE_b, -Is_at, -Is_at', -Ls_at, -Ls_at', eL, eI, allInts]
 repeat (with_reducible refine And.intro ?_ ?_; · first | assumption | omega | (simp; done) | (simp; omega) | simp_all)
 refine hK _ ?_
 clear hK K
 refine tn ?_
 refine w_weak (st' := ⟨[(2, .own 0 0 b2.length)], [(0, .row 1 (Is b2))], 1⟩) (Wk.r1 [(0, 0)] (by simp [hP, hhOk, back, IA, I1, LA, L1, BA, B1, EA, E1, E2, eB, eI, eL])) ?_
 refine w_ret ?_
 have hr := Option.some.inj h
 rw [← hr]
 refine ⟨_, (.tmp .nil), ?_⟩
 refine ⟨(.one rfl rfl .nil), [.lst true 1 (Is b2)], [0], by simp [IA, I1, LA, L1, BA, B1, EA, E1, E2, eB, eI, eL], by simp, (UpL.refl _)⟩
end Go.Vc.T

set_option maxRecDepth 100000
set_option linter.unusedSimpArgs false
set_option linter.unusedVariables false
namespace Go.Vc.T
open Go Go.Vc Go.Proofs
noncomputable def s_s_l16Laws (t_ : Fn) (unit_ : List Int) (join_ : List Int) : Option Bool :=
 (loopF (σ := Int) (ε := Unit ⊕ Bool) (fun s25 =>
   if s25 < t_.s.n then
     ass (0 ≤ s25 ∧ s25 < (t_.ob.length : Int)) <|
     (
       ass (0 ≤ s25 ∧ s25 < (unit_.length : Int)) <|
       ass (0 ≤ ix unit_ s25 ∧ ix unit_ s25 < (t_.ar.length : Int)) <|
       ass (0 ≤ s25 ∧ s25 < (join_.length : Int)) <|
       (s_s_l02Then t_.s (ix t_.ar (ix unit_ s25)) (ix join_ s25)).bind fun v32 =>
       (s_s_l02Unit t_.s v32).bind fun v33 =>
       if ¬ (v33 = true) then
         some true
       else
         ass (0 ≤ ix t_.ob s25 ∧ ix t_.ob s25 < (unit_.length : Int)) <|
         ass (0 ≤ s25 ∧ s25 < (join_.length : Int)) <|
         (s_s_l02Then t_.s (ix unit_ (ix t_.ob s25)) (ix join_ s25)).bind fun v37 =>
         (s_s_l02Unit t_.s v37).bind fun v38 =>
         some (!v38) : Option (Bool)).bind fun b28 =>
     if b28 = true then
       some (Ctl.ret (Sum.inr false))
     else
       ass (0 ≤ s25 ∧ s25 < (join_.length : Int)) <|
       ass (0 ≤ ix join_ s25 ∧ ix join_ s25 < (t_.ar.length : Int)) <|
       ass (0 ≤ s25 ∧ s25 < (join_.length : Int)) <|
       (s_s_l02Then t_.s (ix t_.ar (ix join_ s25)) (ix join_ s25)).bind fun v43 =>
       ass (0 ≤ ix t_.ob s25 ∧ ix t_.ob s25 < (join_.length : Int)) <|
       ass (0 ≤ s25 ∧ s25 < (join_.length : Int)) <|
       (s_s_l02Then t_.s (ix join_ (ix t_.ob s25)) (ix join_ s25)).bind fun v46 =>
       if ¬ (v43 = v46) then
         some (Ctl.ret (Sum.inr false))
       else
         ass (B64 (s25 + 1)) <|
         some (Ctl.next (s25 + 1))
   else
     some (Ctl.ret (Sum.inl ()))) fuel 0).bind fun e1 =>
 match e1 with
 | .inl b1 =>
   some true
 | .inr p1 =>
   some p1
set_option maxHeartbeats 4000000 in
theorem w_s_l16Laws (t_ : Fn) (unit_ : List Int) (join_ : List Int) (r : Bool) (h : s_s_l16Laws t_ unit_ join_ = some r) : Contract Try.prog 176 [.agg (t_.cells true), .lst true 1 (Is unit_), .lst true 1 (Is join_)] (.val (.bool r)) := by
 refine contract_introG (rvs := [.tmp 6]) (rs := [.val (.bool r)]) Try.func176 rfl rfl rfl rfl (by simp [Try.f176]) fun F hN hP => ?_
 unfold s_s_l16Laws at h
 refine w_seq ?_
 refine w_run mo (by rw [hN]; decide) fun K hK => ?_
 simp [-guardE_b, -Is_at, -Is_at', -Ls_at, -Ls_at', eL, eI, allInts, eP_Cat, eP_Fn, Cat.cells, Fn.cells]
 repeat (with_reducible refine And.intro ?_ ?_; · first | assumption | omega | (simp; done) | (simp; omega) | simp_all)
 refine hK _ ?_
 clear hK K
 refine tn ?_
 refine w_weak (st' := ⟨[(1, .lst true 1 (Is unit_)), (2, .lst true 1 (Is join_)), (3, .adr 0 0 0)], [(0, .mix 12 [(Fn.cells true t_)])], 1⟩) (Wk.r1 [(0, 0)] (by simp [hP, hhOk, back, Cat.cells, Fn.cells, IA, I1, LA, L1, BA, B1, EA, E1, E2, eB, eI, eL])) ?_
 refine w_seq ?_
 refine w_run mo (by rw [hN]; decide) fun K hK => ?_
 simp [-guardE_b, -Is_at, -Is_at', -Ls_at, -Ls_at', eL, eI, allInts, eP_Cat, eP_Fn, Cat.cells, Fn.cells]
 repeat (with_reducible refine And.intro ?_ ?_; · first | assumption | omega | (simp; done) | (simp; omega) | simp_all)
 refine hK _ ?_
 clear hK K
 refine tn ?_
 refine w_weak (st' := ⟨[(1, .lst true 1 (Is unit_)), (2, .lst true 1 (Is join_)), (3, .adr 0 0 0), (7, .adr 1 0 0)], [(0, .mix 12 [(Fn.cells true t_)]), (1, .mix 5 [(Cat.cells true t_.s)])], 2⟩) (Wk.r1 [(0, 0), (1, 1)] (by simp [hP, hhOk, back, Cat.cells, Fn.cells, IA, I1, LA, L1, BA, B1, EA, E1, E2, eB, eI, eL])) ?_
 refine w_seq ?_
 refine w_seq ?_
 refine w_run mo (by rw [hN]; decide) fun K hK => ?_
 simp [-guardE_b, -Is_at, -Is_at', -Ls_at, -Ls_at', eL, eI, allInts, eP_Cat, eP_Fn, Cat.cells, Fn.cells]
 repeat (with_reducible refine And.intro ?_ ?_; · first | assumption | omega | (simp; done) | (simp; omega) | simp_all)
 refine hK _ ?_
 clear hK K
 refine tn ?_
 refine w_weak (st' := ⟨[(1, .lst true 1 (Is unit_)), (2, .lst true 1 (Is join_)), (3, .adr 0 0 0), (7, .adr 1 0 0), (8, .val (.int .i64 0))], [(0, .mix 12 [(Fn.cells true t_)]), (1, .mix 5 [(Cat.cells true t_.s)])], 2⟩) (Wk.r1 [(0, 0), (1, 1)] (by simp [hP, hhOk, back, Cat.cells, Fn.cells, IA, I1, LA, L1, BA, B1, EA, E1, E2, eB, eI, eL])) ?_
 replace h := bind_some h
 obtain ⟨e1, h, h1⟩ := h
 refine w_joinT (fun b1 : Unit => ⟨[], [], 0⟩) (fun b1 => Sum.inl b1 = e1) ?_ ?_
 · refine w_block ?_
   refine w_loopF h (fun s25 : Int => ⟨[(1, .lst true 1 (Is unit_)), (2, .lst true 1 (Is join_)), (3, .adr 0 0 0), (7, .adr 1 0 0), (8, .val (.int .i64 s25))], [(0, .mix 12 [(Fn.cells true t_)]), (1, .mix 5 [(Cat.cells true t_.s)])], 2⟩) (Wk.r1 [(0, 0), (1, 1)] (by simp [hP, hhOk, back, Cat.cells, Fn.cells, IA, I1, LA, L1, BA, B1, EA, E1, E2, eB, eI, eL])) ?_
   clear h
   intro k25 s25 c25 h hk25
   refine w_seq ?_
   refine w_seq ?_
   refine w_run mo (by rw [hN]; decide) fun K hK => ?_
   simp [-guardE_b, -Is_at, -Is_at', -Ls_at, -Ls_at', eL, eI, allInts, eP_Cat, eP_Fn, Cat.cells, Fn.cells]
   repeat (with_reducible refine And.intro ?_ ?_; · first | assumption | omega | (simp; done) | (simp; omega) | simp_all)
   refine hK _ ?_
   clear hK K
   refine tn ?_
   refine w_weak (st' := ⟨[(1, .lst true 1 (Is unit_)), (2, .lst true 1 (Is join_)), (3, .adr 0 0 0), (7, .adr 1 0 0), (8, .val (.int .i64 s25)), (15, .val (.bool (decide (s25 < t_.s.n))))], [(0, .mix 12 [(Fn.cells true t_)]), (1, .mix 5 [(Cat.cells true t_.s)])], 2⟩) (Wk.r1 [(0, 0), (1, 1)] (by simp [hP, hhOk, back, Cat.cells, Fn.cells, IA, I1, LA, L1, BA, B1, EA, E1, E2, eB, eI, eL])) ?_
   refine w_cond rfl (fun g => ?_) fun g => ?_
   · have g26 : s25 < t_.s.n := by first | simpa using g | (simp at g; exact g) | (simp at g; omega)
     clear g
     replace h := if_l g26 h
     refine w_skip ?_
     refine tn ?_
     refine w_seq ?_
     refine w_block ?_
     refine w_seq ?_
     refine w_run mo (by rw [hN]; decide) fun K hK => ?_
     replace h := ass_some h
     obtain ⟨a27, h⟩ := h
     simp [-guardE_b, -Is_at, -Is_at', -Ls_at, -Ls_at', eL, eI, allInts, eP_Cat, eP_Fn, Cat.cells, Fn.cells, at_I a27]
     repeat (with_reducible refine And.intro ?_ ?_; · first | assumption | omega | (simp; done) | (simp; omega) | simp_all)
     refine hK _ ?_
     clear hK K
     refine tn ?_
     refine w_weak (st' := ⟨[(1, .lst true 1 (Is unit_)), (2, .lst true 1 (Is join_)), (3, .adr 0 0 0), (7, .adr 1 0 0), (8, .val (.int .i64 s25)), (9, .val (.int .i64 (ix t_.ob s25)))], [(0, .mix 12 [(Fn.cells true t_)]), (1, .mix 5 [(Cat.cells true t_.s)])], 2⟩) (Wk.r1 [(0, 0), (1, 1)] (by simp [hP, hhOk, back, Cat.cells, Fn.cells, IA, I1, LA, L1, BA, B1, EA, E1, E2, eB, eI, eL])) ?_
     refine w_seq ?_
     refine w_seq ?_
     replace h := bind_some h
     obtain ⟨e28, h, h28⟩ := h
     refine w_joinT (fun b28 : Bool => ⟨[(1, .lst true 1 (Is unit_)), (2, .lst true 1 (Is join_)), (3, .adr 0 0 0), (7, .adr 1 0 0), (8, .val (.int .i64 s25)), (9, .val (.int .i64 (ix t_.ob s25))), (54, .val (.bool b28))], [(0, .mix 12 [(Fn.cells true t_)]), (1, .mix 5 [(Cat.cells true t_.s)])], 2⟩) (fun b28 => b28 = e28) ?_ ?_
     · refine w_run mo (by rw [hN]; decide) fun K hK => ?_
       replace h := ass_some h
       obtain ⟨a29, h⟩ := h
       replace h := ass_some h
       obtain ⟨a30, h⟩ := h
       replace h := ass_some h
       obtain ⟨a31, h⟩ := h
       simp [-guardE_b, -Is_at, -Is_at', -Ls_at, -Ls_at', eL, eI, allInts, eP_Cat, eP_Fn, Cat.cells, Fn.cells, at_I a29, at_I a30, at_I a31]
       repeat (with_reducible refine And.intro ?_ ?_; · first | assumption | omega | (simp; done) | (simp; omega) | simp_all)
       replace h := bind_some h
       obtain ⟨v32, hv32, h⟩ := h
       refine callA_intro (w_s_l02Then _ _ _ v32 hv32) (.cons (.aggL (.cons .val (.cons .lst (.cons .lst (.cons .lst (.cons .lst .nil)))))) (.cons .val (.cons .val .nil))) ?_
       simp [-guardE_b, -Is_at, -Is_at', -Ls_at, -Ls_at', unk, unA, unE, unT, unC, flat, eL, eI, allInts, eP_Cat, eP_Fn, Cat.cells, Fn.cells]
       repeat (with_reducible refine And.intro ?_ ?_; · first | assumption | omega | (simp; done) | (simp; omega) | simp_all)
       replace h := bind_some h
       obtain ⟨v33, hv33, h⟩ := h
       refine callA_intro (w_s_l02Unit _ _ v33 hv33) (.cons (.aggL (.cons .val (.cons .lst (.cons .lst (.cons .lst (.cons .lst .nil)))))) (.cons .val .nil)) ?_
       simp [-guardE_b, -Is_at, -Is_at', -Ls_at, -Ls_at', unk, unA, unE, unT, unC, flat, eL, eI, allInts, eP_Cat, eP_Fn, Cat.cells, Fn.cells]
       repeat (with_reducible refine And.intro ?_ ?_; · first | assumption | omega | (simp; done) | (simp; omega) | simp_all)
       refine guard_intro (fun g => ?_) (fun g => ?_)
       · have g34 : ¬ (¬ (v33 = true)) := by first | simpa using g | (simp at g; exact g) | (simp at g; omega)
         clear g
         replace h := if_r g34 h
         replace h := ass_some h
         obtain ⟨a35, h⟩ := h
         replace h := ass_some h
         obtain ⟨a36, h⟩ := h
         simp [-guardE_b, -Is_at, -Is_at', -Ls_at, -Ls_at', eL, eI, allInts, eP_Cat, eP_Fn, Cat.cells, Fn.cells, at_I a35, at_I a36]
         repeat (with_reducible refine And.intro ?_ ?_; · first | assumption | omega | (simp; done) | (simp; omega) | simp_all)
         replace h := bind_some h
         obtain ⟨v37, hv37, h⟩ := h
         refine callA_intro (w_s_l02Then _ _ _ v37 hv37) (.cons (.aggL (.cons .val (.cons .lst (.cons .lst (.cons .lst (.cons .lst .nil)))))) (.cons .val (.cons .val .nil))) ?_
         simp [-guardE_b, -Is_at, -Is_at', -Ls_at, -Ls_at', unk, unA, unE, unT, unC, flat, eL, eI, allInts, eP_Cat, eP_Fn, Cat.cells, Fn.cells]
         repeat (with_reducible refine And.intro ?_ ?_; · first | assumption | omega | (simp; done) | (simp; omega) | simp_all)
         replace h := bind_some h
         obtain ⟨v38, hv38, h⟩ := h
         refine callA_intro (w_s_l02Unit _ _ v38 hv38) (.cons (.aggL (.cons .val (.cons .lst (.cons .lst (.cons .lst (.cons .lst .nil)))))) (.cons .val .nil)) ?_
         simp [-guardE_b, -Is_at, -Is_at', -Ls_at, -Ls_at', unk, unA, unE, unT, unC, flat, eL, eI, allInts, eP_Cat, eP_Fn, Cat.cells, Fn.cells]
         repeat (with_reducible refine And.intro ?_ ?_; · first | assumption | omega | (simp; done) | (simp; omega) | simp_all)
         refine hK _ ?_
         exact jn (b := !v38) (Option.some.inj h) (Wk.r1 [(0, 0), (1, 1)] (by simp [hP, hhOk, back, Cat.cells, Fn.cells, IA, I1, LA, L1, BA, B1, EA, E1, E2, eB, eI, eL]))
       have g34 : ¬ (v33 = true) := by first | simpa using g | (simp at g; exact g) | (simp at g; omega)
       clear g
       replace h := if_l g34 h
       simp [-guardE_b, -Is_at, -Is_at', -Ls_at, -Ls_at', eL, eI, allInts, eP_Cat, eP_Fn, Cat.cells, Fn.cells]
       repeat (with_reducible refine And.intro ?_ ?_; · first | assumption | omega | (simp; done) | (simp; omega) | simp_all)
       refine hK _ ?_
       exact jn (b := true) (Option.some.inj h) (Wk.r1 [(0, 0), (1, 1)] (by simp [hP, hhOk, back, Cat.cells, Fn.cells, IA, I1, LA, L1, BA, B1, EA, E1, E2, eB, eI, eL]))
     intro b28 hb28
     have h := h28
     rw [← hb28] at h
     clear h28
     try dsimp only at h
     refine w_cond rfl (fun g => ?_) fun g => ?_
     · have g39 : b28 = true := by first | simpa using g | (simp at g; exact g) | (simp at g; omega)
       clear g
       replace h := if_l g39 h
       refine w_seq ?_
       refine w_run mo (by rw [hN]; decide) fun K hK => ?_
       simp [-guardE_b, -Is_at, -Is_at', -Ls_at, -Ls_at', eL, eI, allInts, eP_Cat, eP_Fn, Cat.cells, Fn.cells]
       repeat (with_reducible refine And.intro ?_ ?_; · first | assumption | omega | (simp; done) | (simp; omega) | simp_all)
       refine hK _ ?_
       clear hK K
       refine tn ?_
       refine w_weak (st' := ⟨[(6, .val (.bool false))], [], 0⟩) (Wk.r1 [] (by simp [hP, hhOk, back, Cat.cells, Fn.cells, IA, I1, LA, L1, BA, B1, EA, E1, E2, eB, eI, eL])) ?_
       refine w_ret ?_
       refine tr ?_
       refine br ?_
       refine tr ?_
       refine lr ?_
       refine br ?_
       refine tr ?_
       cases h
       have q : _ = e1 := hk25
       have h := h1
       rw [← q] at h
       clear q
       try dsimp only at h
       have hr := Option.some.inj h
       rw [← hr]
       refine ⟨_, (.tmp .nil), ?_⟩
       refine ⟨(.one rfl rfl .nil), [.val (.bool false)], [], by simp [Cat.cells, Fn.cells, IA, I1, LA, L1, BA, B1, EA, E1, E2, eB, eI, eL], by simp, (UpL.refl _)⟩
     have g39 : ¬ (b28 = true) := by first | simpa using g | (simp at g; exact g) | (simp at g; omega)
     clear g
     replace h := if_r g39 h
     refine w_skip ?_
     refine tn ?_
     refine w_seq ?_
     refine w_run mo (by rw [hN]; decide) fun K hK => ?_
     replace h := ass_some h
     obtain ⟨a40, h⟩ := h
     replace h := ass_some h
     obtain ⟨a41, h⟩ := h
     replace h := ass_some h
     obtain ⟨a42, h⟩ := h
     simp [-guardE_b, -Is_at, -Is_at', -Ls_at, -Ls_at', eL, eI, allInts, eP_Cat, eP_Fn, Cat.cells, Fn.cells, at_I a40, at_I a41, at_I a42]
     repeat (with_reducible refine And.intro ?_ ?_; · first | assumption | omega | (simp; done) | (simp; omega) | simp_all)
     replace h := bind_some h
     obtain ⟨v43, hv43, h⟩ := h
     refine callA_intro (w_s_l02Then _ _ _ v43 hv43) (.cons (.aggL (.cons .val (.cons .lst (.cons .lst (.cons .lst (.cons .lst .nil)))))) (.cons .val (.cons .val .nil))) ?_
     replace h := ass_some h
     obtain ⟨a44, h⟩ := h
     replace h := ass_some h
     obtain ⟨a45, h⟩ := h
     simp [-guardE_b, -Is_at, -Is_at', -Ls_at, -Ls_at', unk, unA, unE, unT, unC, flat, eL, eI, allInts, eP_Cat, eP_Fn, Cat.cells, Fn.cells, at_I a44, at_I a45]
     repeat (with_reducible refine And.intro ?_ ?_; · first | assumption | omega | (simp; done) | (simp; omega) | simp_all)
     replace h := bind_some h
     obtain ⟨v46, hv46, h⟩ := h
     refine callA_intro (w_s_l02Then _ _ _ v46 hv46) (.cons (.aggL (.cons .val (.cons .lst (.cons .lst (.cons .lst (.cons .lst .nil)))))) (.cons .val (.cons .val .nil))) ?_
     simp [-guardE_b, -Is_at, -Is_at', -Ls_at, -Ls_at', unk, unA, unE, unT, unC, flat, eL, eI, allInts, eP_Cat, eP_Fn, Cat.cells, Fn.cells]
     repeat (with_reducible refine And.intro ?_ ?_; · first | assumption | omega | (simp; done) | (simp; omega) | simp_all)
     refine hK _ ?_
     clear hK K
     refine tn ?_
     refine w_weak (st' := ⟨[(1, .lst true 1 (Is unit_)), (2, .lst true 1 (Is join_)), (3, .adr 0 0 0), (7, .adr 1 0 0), (8, .val (.int .i64 s25)), (79, .val (.bool (v43 != v46)))], [(0, .mix 12 [(Fn.cells true t_)]), (1, .mix 5 [(Cat.cells true t_.s)])], 2⟩) (Wk.r1 [(0, 0), (1, 1)] (by simp [hP, hhOk, back, Cat.cells, Fn.cells, IA, I1, LA, L1, BA, B1, EA, E1, E2, eB, eI, eL])) ?_
     refine w_cond rfl (fun g => ?_) fun g => ?_
     · have g47 : ¬ (v43 = v46) := by first | simpa using g | (simp at g; exact g) | (simp at g; omega)
       clear g
       replace h := if_l g47 h
       refine w_seq ?_
       refine w_run mo (by rw [hN]; decide) fun K hK => ?_
       simp [-guardE_b, -Is_at, -Is_at', -Ls_at, -Ls_at', eL, eI, allInts, eP_Cat, eP_Fn, Cat.cells, Fn.cells]
       repeat (with_reducible refine And.intro ?_ ?_; · first | assumption | omega | (simp; done) | (simp; omega) | simp_all)
       refine hK _ ?_
       clear hK K
       refine tn ?_
       refine w_weak (st' := ⟨[(6, .val (.bool false))], [], 0⟩) (Wk.r1 [] (by simp [hP, hhOk, back, Cat.cells, Fn.cells, IA, I1, LA, L1, BA, B1, EA, E1, E2, eB, eI, eL])) ?_
       refine w_ret ?_
       refine br ?_
       refine tr ?_
       refine lr ?_
       refine br ?_
       refine tr ?_
       cases h
       have q : _ = e1 := hk25
       have h := h1
       rw [← q] at h
       clear q
       try dsimp only at h
       have hr := Option.some.inj h
       rw [← hr]
       refine ⟨_, (.tmp .nil), ?_⟩
       refine ⟨(.one rfl rfl .nil), [.val (.bool false)], [], by simp [Cat.cells, Fn.cells, IA, I1, LA, L1, BA, B1, EA, E1, E2, eB, eI, eL], by simp, (UpL.refl _)⟩
     have g47 : ¬ (¬ (v43 = v46)) := by first | simpa using g | (simp at g; exact g) | (simp at g; omega)
     clear g
     replace h := if_r g47 h
     refine w_skip ?_
     refine bn ?_
     refine tn ?_
     refine w_run mo (by rw [hN]; decide) fun K hK => ?_
     replace h := ass_some h
     obtain ⟨a48, h⟩ := h
     simp [-guardE_b, -Is_at, -Is_at', -Ls_at, -Ls_at', eL, eI, allInts, eP_Cat, eP_Fn, Cat.cells, Fn.cells, wrap_id a48]
     repeat (with_reducible refine And.intro ?_ ?_; · first | assumption | omega | (simp; done) | (simp; omega) | simp_all)
     refine hK _ ?_
     clear hK K
     cases h
     exact rn (s' := s25 + 1) hk25 (Wk.r1 [(0, 0), (1, 1)] (by simp [hP, hhOk, back, Cat.cells, Fn.cells, IA, I1, LA, L1, BA, B1, EA, E1, E2, eB, eI, eL]))
   have g26 : ¬ (s25 < t_.s.n) := by first | simpa using g | (simp at g; exact g) | (simp at g; omega)
   clear g
   replace h := if_r g26 h
   refine w_exit ?_
   refine tx ?_
   refine lx ?_
   refine bh ?_
   cases h
   exact jn (b := ()) hk25 (Wk.r1 [] (by simp [hP, hhOk, back, Cat.cells, Fn.cells, IA, I1, LA, L1, BA, B1, EA, E1, E2, eB, eI, eL]))
 intro b1 hb1
 have h := h1
 rw [← hb1] at h
 clear h1
 try dsimp only at h
 refine w_seq ?_
 refine w_run mo (by rw [hN]; decide) fun K hK => ?_
 simp [-guardE_b, -Is_at, -Is_at', -Ls_at, -Ls_at', eL, eI, allInts, eP_Cat, eP_Fn, Cat.cells, Fn.cells]
 repeat (with_reducible refine And.intro ?_ ?_; · first | assumption | omega | (simp; done) | (simp; omega) | simp_all)
 refine hK _ ?_
 clear hK K
 refine tn ?_
 refine w_weak (st' := ⟨[(6, .val (.bool true))], [], 0⟩) (Wk.r1 [] (by simp [hP, hhOk, back, Cat.cells, Fn.cells, IA, I1, LA, L1, BA, B1, EA, E1, E2, eB, eI, eL])) ?_
 refine w_ret ?_
 have hr := Option.some.inj h
 rw [← hr]
 refine ⟨_, (.tmp .nil), ?_⟩
 refine ⟨(.one rfl rfl .nil), [.val (.bool true)], [], by simp [Cat.cells, Fn.cells, IA, I1, LA, L1, BA, B1, EA, E1, E2, eB, eI, eL], by simp, (UpL.refl _)⟩
noncomputable def s_i_identity (c_ : Cat) : Option Fn :=
 (s_i_numbers c_.n).bind fun v1 =>
 (s_i_Category_arrows c_).bind fun v2 =>
 (s_i_numbers v2).bind fun v3 =>
 (s_i_functor c_ c_ v1 v3).bind fun v4 =>
 some v4
set_option maxHeartbeats 4000000 in
theorem w_i_identity (c_ : Cat) (r : Fn) (h : s_i_identity c_ = some r) : Contract Try.prog 177 [.rptr (c_.cells true)] (.agg (r.cells true)) := by
 refine contract_introG (rvs := [.cell 2 35]) (rs := [.agg (r.cells true)]) Try.func177 rfl rfl rfl rfl (by simp [Try.f177]) fun F hN hP => ?_
 unfold s_i_identity at h
 refine w_seq ?_
 refine w_run mo (by rw [hN]; decide) fun K hK => ?_
 simp [-guardE_b, -Is_at, -Is_at', -Ls_at, -Ls_at', eL, eI, allInts, eP_Cat, eP_Fn, Cat.cells, Fn.cells]
 repeat (with_reducible refine And.intro ?_ ?_; · first | assumption | omega | (simp; done) | (simp; omega) | simp_all)
 refine hK _ ?_
 clear hK K
 refine tn ?_
 refine w_weak (st' := ⟨[(0, .rptr (Cat.cells true c_)), (2, .adr 0 0 0)], [(0, .mix 12 [[.val (.int .i64 0), .val (.slice none 0 0), .val (.slice none 0 0), .val (.slice none 0 0), .val (.slice none 0 0), .val (.int .i64 0), .val (.slice none 0 0), .val (.slice none 0 0), .val (.slice none 0 0), .val (.slice none 0 0), .val (.slice none 0 0), .val (.slice none 0 0)]])], 1⟩) (Wk.r1 [(0, 0)] (by simp [hP, hhOk, back, Cat.cells, Fn.cells, IA, I1, LA, L1, BA, B1, EA, E1, E2, eB, eI, eL])) ?_
 refine w_seq ?_
 refine w_run mo (by rw [hN]; decide) fun K hK => ?_
 simp [-guardE_b, -Is_at, -Is_at', -Ls_at, -Ls_at', eL, eI, allInts, eP_Cat, eP_Fn, Cat.cells, Fn.cells]
 repeat (with_reducible refine And.intro ?_ ?_; · first | assumption | omega | (simp; done) | (simp; omega) | simp_all)
 replace h := bind_some h
 obtain ⟨v1, hv1, h⟩ := h
 refine callA_intro (w_i_numbers _ v1 hv1) (.cons .val .nil) ?_
 simp [-guardE_b, -Is_at, -Is_at', -Ls_at, -Ls_at', unk, unA, unE, unT, unC, flat, eL, eI, allInts, eP_Cat, eP_Fn, Cat.cells, Fn.cells]
 repeat (with_reducible refine And.intro ?_ ?_; · first | assumption | omega | (simp; done) | (simp; omega) | simp_all)
 replace h := bind_some h
 obtain ⟨v2, hv2, h⟩ := h
 refine callA_intro (w_i_Category_arrows _ v2 hv2) (.cons (.preT (by simp [Cat.cells])) .nil) ?_
 simp [-guardE_b, -Is_at, -Is_at', -Ls_at, -Ls_at', unk, unA, unE, unT, unC, flat, eL, eI, allInts, eP_Cat, eP_Fn, Cat.cells, Fn.cells]
 repeat (with_reducible refine And.intro ?_ ?_; · first | assumption | omega | (simp; done) | (simp; omega) | simp_all)
 replace h := bind_some h
 obtain ⟨v3, hv3, h⟩ := h
 refine callA_intro (w_i_numbers _ v3 hv3) (.cons .val .nil) ?_
 simp [-guardE_b, -Is_at, -Is_at', -Ls_at, -Ls_at', unk, unA, unE, unT, unC, flat, eL, eI, allInts, eP_Cat, eP_Fn, Cat.cells, Fn.cells]
 repeat (with_reducible refine And.intro ?_ ?_; · first | assumption | omega | (simp; done) | (simp; omega) | simp_all)
 replace h := bind_some h
 obtain ⟨v4, hv4, h⟩ := h
 refine callA_intro (w_i_functor _ _ _ _ v4 hv4) (.cons (.preT (by simp [Cat.cells])) (.cons (.preT (by simp [Cat.cells])) (.cons (.whole (by simp) (by simp) (by simp)) (.cons (.whole (by simp) (by simp) (by simp)) .nil)))) ?_
 simp [-guardE_b, -Is_at, -Is_at', -Ls_at, -Ls_at', unk, unA, unE, unT, unC, flat, eL, eI, allInts, eP_Cat, eP_Fn, Cat.cells, Fn.cells]
 repeat (with_reducible refine And.intro ?_ ?_; · first | assumption | omega | (simp; done) | (simp; omega) | simp_all)
 refine hK _ ?_
 clear hK K
 refine tn ?_
 refine w_weak (st' := ⟨[(2, .adr 0 0 0)], [(0, .mix 12 [[.val (.int .i64 v4.s.n), .own 1 0 v4.s.fr.length, .own 2 0 v4.s.to.length, .own 3 0 v4.s.id.length, .own 4 0 v4.s.cs.length, .val (.int .i64 v4.t.n), .own 5 0 v4.t.fr.length, .own 6 0 v4.t.to.length, .own 7 0 v4.t.id.length, .own 8 0 v4.t.cs.length, .own 9 0 v4.ob.length, .own 10 0 v4.ar.length]]), (1, .row 1 (Is v4.s.fr)), (2, .row 1 (Is v4.s.to)), (3, .row 1 (Is v4.s.id)), (4, .row 1 (Ls v4.s.cs)), (5, .row 1 (Is v4.t.fr)), (6, .row 1 (Is v4.t.to)), (7, .row 1 (Is v4.t.id)), (8, .row 1 (Ls v4.t.cs)), (9, .row 1 (Is v4.ob)), (10, .row 1 (Is v4.ar))], 11⟩) (Wk.r1 [(0, 0), (5, 1), (6, 2), (7, 3), (8, 4), (10, 5), (11, 6), (12, 7), (13, 8), (14, 9), (15, 10)] (by simp [hP, hhOk, back, Cat.cells, Fn.cells, IA, I1, LA, L1, BA, B1, EA, E1, E2, eB, eI, eL])) ?_
 refine w_ret ?_
 have hr := Option.some.inj h
 rw [← hr]
 refine ⟨_, (.cell tf_35 rfl rfl rfl (by simp) (by simp) .nil), ?_⟩
 refine ⟨(.agg rfl .nil), [.val (.int .i64 v4.s.n), .lst true 1 (Is v4.s.fr), .lst true 1 (Is v4.s.to), .lst true 1 (Is v4.s.id), .lst true 1 (Ls v4.s.cs), .val (.int .i64 v4.t.n), .lst true 1 (Is v4.t.fr), .lst true 1 (Is v4.t.to), .lst true 1 (Is v4.t.id), .lst true 1 (Ls v4.t.cs), .lst true 1 (Is v4.ob), .lst true 1 (Is v4.ar)], [1, 2, 3, 4, 5, 6, 7, 8, 9, 10], by simp [Cat.cells, Fn.cells, IA, I1, LA, L1, BA, B1, EA, E1, E2, eB, eI, eL], by simp, (UpL.refl _)⟩
noncomputable def s_i_Monad_isLawful (m_ : Mnd) : Option Bool :=
 (loopF (σ := Int) (ε := Unit ⊕ Bool) (fun s25 =>
   if s25 < m_.f.s.n then
     (s_i_Monad_object m_ s25).bind fun v27 =>
     (
       ass (0 ≤ s25 ∧ s25 < (m_.u.length : Int)) <|
       (s_i_Monad_arrow m_ (ix m_.u s25)).bind fun v30 =>
       ass (0 ≤ s25 ∧ s25 < (m_.j.length : Int)) <|
       (s_i_Category_then m_.f.s v30 (ix m_.j s25)).bind fun v32 =>
       ass (0 ≤ v27 ∧ v27 < (m_.f.s.id.length : Int)) <|
       if ¬ (v32 = (ix m_.f.s.id v27)) then
         some true
       else
         ass (0 ≤ v27 ∧ v27 < (m_.u.length : Int)) <|
         ass (0 ≤ s25 ∧ s25 < (m_.j.length : Int)) <|
         (s_i_Category_then m_.f.s (ix m_.u v27) (ix m_.j s25)).bind fun v37 =>
         ass (0 ≤ v27 ∧ v27 < (m_.f.s.id.length : Int)) <|
         some (v37 != (ix m_.f.s.id v27)) : Option (Bool)).bind fun b28 =>
     if b28 = true then
       some (Ctl.ret (Sum.inr false))
     else
       ass (0 ≤ s25 ∧ s25 < (m_.j.length : Int)) <|
       (s_i_Monad_arrow m_ (ix m_.j s25)).bind fun v41 =>
       ass (0 ≤ s25 ∧ s25 < (m_.j.length : Int)) <|
       (s_i_Category_then m_.f.s v41 (ix m_.j s25)).bind fun v43 =>
       ass (0 ≤ v27 ∧ v27 < (m_.j.length : Int)) <|
       ass (0 ≤ s25 ∧ s25 < (m_.j.length : Int)) <|
       (s_i_Category_then m_.f.s (ix m_.j v27) (ix m_.j s25)).bind fun v46 =>
       if ¬ (v43 = v46) then
         some (Ctl.ret (Sum.inr false))
       else
         ass (B64 (s25 + 1)) <|
         some (Ctl.next (s25 + 1))
   else
     some (Ctl.ret (Sum.inl ()))) fuel 0).bind fun e1 =>
 match e1 with
 | .inl b1 =>
   some true
 | .inr p1 =>
   some p1
set_option maxHeartbeats 4000000 in
theorem w_i_Monad_isLawful (m_ : Mnd) (r : Bool) (h : s_i_Monad_isLawful m_ = some r) : Contract Try.prog 179 [.rptr (m_.cells true)] (.val (.bool r)) := by
 refine contract_introG (rvs := [.tmp 2]) (rs := [.val (.bool r)]) Try.func179 rfl rfl rfl rfl (by simp [Try.f179]) fun F hN hP => ?_
 unfold s_i_Monad_isLawful at h
 refine w_seq ?_
 refine w_run mo (by rw [hN]; decide) fun K hK => ?_
 simp [-guardE_b, -Is_at, -Is_at', -Ls_at, -Ls_at', eL, eI, allInts, eP_Cat, eP_Mnd, Cat.cells, Mnd.cells]
 repeat (with_reducible refine And.intro ?_ ?_; · first | assumption | omega | (simp; done) | (simp; omega) | simp_all)
 refine hK _ ?_
 clear hK K
 refine tn ?_
 refine w_weak (st' := ⟨[(0, .rptr (Mnd.cells true m_))], [], 0⟩) (Wk.r1 [] (by simp [hP, hhOk, back, Cat.cells, Mnd.cells, IA, I1, LA, L1, BA, B1, EA, E1, E2, eB, eI, eL])) ?_
 refine w_seq ?_
 refine w_run mo (by rw [hN]; decide) fun K hK => ?_
 simp [-guardE_b, -Is_at, -Is_at', -Ls_at, -Ls_at', eL, eI, allInts, eP_Cat, eP_Mnd, Cat.cells, Mnd.cells]
 repeat (with_reducible refine And.intro ?_ ?_; · first | assumption | omega | (simp; done) | (simp; omega) | simp_all)
 refine hK _ ?_
 clear hK K
 refine tn ?_
 refine w_weak (st' := ⟨[(0, .rptr (Mnd.cells true m_)), (3, .rptr (Mnd.cells true m_))], [], 0⟩) (Wk.r1 [] (by simp [hP, hhOk, back, Cat.cells, Mnd.cells, IA, I1, LA, L1, BA, B1, EA, E1, E2, eB, eI, eL])) ?_
 refine w_seq ?_
 refine w_seq ?_
 refine w_run mo (by rw [hN]; decide) fun K hK => ?_
 simp [-guardE_b, -Is_at, -Is_at', -Ls_at, -Ls_at', eL, eI, allInts, eP_Cat, eP_Mnd, Cat.cells, Mnd.cells]
 repeat (with_reducible refine And.intro ?_ ?_; · first | assumption | omega | (simp; done) | (simp; omega) | simp_all)
 refine hK _ ?_
 clear hK K
 refine tn ?_
 refine w_weak (st' := ⟨[(0, .rptr (Mnd.cells true m_)), (3, .rptr (Mnd.cells true m_)), (4, .val (.int .i64 0))], [], 0⟩) (Wk.r1 [] (by simp [hP, hhOk, back, Cat.cells, Mnd.cells, IA, I1, LA, L1, BA, B1, EA, E1, E2, eB, eI, eL])) ?_
 replace h := bind_some h
 obtain ⟨e1, h, h1⟩ := h
 refine w_joinT (fun b1 : Unit => ⟨[], [], 0⟩) (fun b1 => Sum.inl b1 = e1) ?_ ?_
 · refine w_block ?_
   refine w_loopF h (fun s25 : Int => ⟨[(0, .rptr (Mnd.cells true m_)), (3, .rptr (Mnd.cells true m_)), (4, .val (.int .i64 s25))], [], 0⟩) (Wk.r1 [] (by simp [hP, hhOk, back, Cat.cells, Mnd.cells, IA, I1, LA, L1, BA, B1, EA, E1, E2, eB, eI, eL])) ?_
   clear h
   intro k25 s25 c25 h hk25
   refine w_seq ?_
   refine w_seq ?_
   refine w_run mo (by rw [hN]; decide) fun K hK => ?_
   simp [-guardE_b, -Is_at, -Is_at', -Ls_at, -Ls_at', eL, eI, allInts, eP_Cat, eP_Mnd, Cat.cells, Mnd.cells]
   repeat (with_reducible refine And.intro ?_ ?_; · first | assumption | omega | (simp; done) | (simp; omega) | simp_all)
   refine hK _ ?_
   clear hK K
   refine tn ?_
   refine w_weak (st' := ⟨[(0, .rptr (Mnd.cells true m_)), (3, .rptr (Mnd.cells true m_)), (4, .val (.int .i64 s25)), (15, .val (.bool (decide (s25 < m_.f.s.n))))], [], 0⟩) (Wk.r1 [] (by simp [hP, hhOk, back, Cat.cells, Mnd.cells, IA, I1, LA, L1, BA, B1, EA, E1, E2, eB, eI, eL])) ?_
   refine w_cond rfl (fun g => ?_) fun g => ?_
   · have g26 : s25 < m_.f.s.n := by first | simpa using g | (simp at g; exact g) | (simp at g; omega)
     clear g
     replace h := if_l g26 h
     refine w_skip ?_
     refine tn ?_
     refine w_seq ?_
     refine w_block ?_
     refine w_seq ?_
     refine w_run mo (by rw [hN]; decide) fun K hK => ?_
     simp [-guardE_b, -Is_at, -Is_at', -Ls_at, -Ls_at', eL, eI, allInts, eP_Cat, eP_Mnd, Cat.cells, Mnd.cells]
     repeat (with_reducible refine And.intro ?_ ?_; · first | assumption | omega | (simp; done) | (simp; omega) | simp_all)
     replace h := bind_some h
     obtain ⟨v27, hv27, h⟩ := h
     refine callA_intro (w_i_Monad_object _ _ v27 hv27) (.cons (.preT (by simp [Cat.cells, Mnd.cells])) (.cons .val .nil)) ?_
     simp [-guardE_b, -Is_at, -Is_at', -Ls_at, -Ls_at', unk, unA, unE, unT, unC, flat, eL, eI, allInts, eP_Cat, eP_Mnd, Cat.cells, Mnd.cells]
     repeat (with_reducible refine And.intro ?_ ?_; · first | assumption | omega | (simp; done) | (simp; omega) | simp_all)
     refine hK _ ?_
     clear hK K
     refine tn ?_
     refine w_weak (st' := ⟨[(0, .rptr (Mnd.cells true m_)), (3, .rptr (Mnd.cells true m_)), (4, .val (.int .i64 s25)), (5, .val (.int .i64 v27))], [], 0⟩) (Wk.r1 [] (by simp [hP, hhOk, back, Cat.cells, Mnd.cells, IA, I1, LA, L1, BA, B1, EA, E1, E2, eB, eI, eL])) ?_
     refine w_seq ?_
     refine w_seq ?_
     replace h := bind_some h
     obtain ⟨e28, h, h28⟩ := h
     refine w_joinT (fun b28 : Bool => ⟨[(0, .rptr (Mnd.cells true m_)), (3, .rptr (Mnd.cells true m_)), (4, .val (.int .i64 s25)), (5, .val (.int .i64 v27)), (72, .val (.bool b28))], [], 0⟩) (fun b28 => b28 = e28) ?_ ?_
     · refine w_run mo (by rw [hN]; decide) fun K hK => ?_
       replace h := ass_some h
       obtain ⟨a29, h⟩ := h
       simp [-guardE_b, -Is_at, -Is_at', -Ls_at, -Ls_at', eL, eI, allInts, eP_Cat, eP_Mnd, Cat.cells, Mnd.cells, at_I a29]
       repeat (with_reducible refine And.intro ?_ ?_; · first | assumption | omega | (simp; done) | (simp; omega) | simp_all)
       replace h := bind_some h
       obtain ⟨v30, hv30, h⟩ := h
       refine callA_intro (w_i_Monad_arrow _ _ v30 hv30) (.cons (.preT (by simp [Cat.cells, Mnd.cells])) (.cons .val .nil)) ?_
       replace h := ass_some h
       obtain ⟨a31, h⟩ := h
       simp [-guardE_b, -Is_at, -Is_at', -Ls_at, -Ls_at', unk, unA, unE, unT, unC, flat, eL, eI, allInts, eP_Cat, eP_Mnd, Cat.cells, Mnd.cells, at_I a31]
       repeat (with_reducible refine And.intro ?_ ?_; · first | assumption | omega | (simp; done) | (simp; omega) | simp_all)
       replace h := bind_some h
       obtain ⟨v32, hv32, h⟩ := h
       refine callA_intro (w_i_Category_then _ _ _ v32 hv32) (.cons (.preT (by simp [Cat.cells, Mnd.cells])) (.cons .val (.cons .val .nil))) ?_
       replace h := ass_some h
       obtain ⟨a33, h⟩ := h
       simp [-guardE_b, -Is_at, -Is_at', -Ls_at, -Ls_at', unk, unA, unE, unT, unC, flat, eL, eI, allInts, eP_Cat, eP_Mnd, Cat.cells, Mnd.cells, at_I a33]
       repeat (with_reducible refine And.intro ?_ ?_; · first | assumption | omega | (simp; done) | (simp; omega) | simp_all)
       refine guard_intro (fun g => ?_) (fun g => ?_)
       · have g34 : ¬ (¬ (v32 = (ix m_.f.s.id v27))) := by first | simpa using g | (simp at g; exact g) | (simp at g; omega)
         clear g
         replace h := if_r g34 h
         replace h := ass_some h
         obtain ⟨a35, h⟩ := h
         replace h := ass_some h
         obtain ⟨a36, h⟩ := h
         simp [-guardE_b, -Is_at, -Is_at', -Ls_at, -Ls_at', eL, eI, allInts, eP_Cat, eP_Mnd, Cat.cells, Mnd.cells, at_I a35, at_I a36]
         repeat (with_reducible refine And.intro ?_ ?_; · first | assumption | omega | (simp; done) | (simp; omega) | simp_all)
         replace h := bind_some h
         obtain ⟨v37, hv37, h⟩ := h
         refine callA_intro (w_i_Category_then _ _ _ v37 hv37) (.cons (.preT (by simp [Cat.cells, Mnd.cells])) (.cons .val (.cons .val .nil))) ?_
         replace h := ass_some h
         obtain ⟨a38, h⟩ := h
         simp [-guardE_b, -Is_at, -Is_at', -Ls_at, -Ls_at', unk, unA, unE, unT, unC, flat, eL, eI, allInts, eP_Cat, eP_Mnd, Cat.cells, Mnd.cells, at_I a38]
         repeat (with_reducible refine And.intro ?_ ?_; · first | assumption | omega | (simp; done) | (simp; omega) | simp_all)
         refine hK _ ?_
         exact jn (b := v37 != (ix m_.f.s.id v27)) (Option.some.inj h) (Wk.r1 [] (by simp [hP, hhOk, back, Cat.cells, Mnd.cells, IA, I1, LA, L1, BA, B1, EA, E1, E2, eB, eI, eL]))
       have g34 : ¬ (v32 = (ix m_.f.s.id v27)) := by first | simpa using g | (simp at g; exact g) | (simp at g; omega)
       clear g
       replace h := if_l g34 h
       simp [-guardE_b, -Is_at, -Is_at', -Ls_at, -Ls_at', eL, eI, allInts, eP_Cat, eP_Mnd, Cat.cells, Mnd.cells]
       repeat (with_reducible refine And.intro ?_ ?_; · first | assumption | omega | (simp; done) | (simp; omega) | simp_all)
       refine hK _ ?_
       exact jn (b := true) (Option.some.inj h) (Wk.r1 [] (by simp [hP, hhOk, back, Cat.cells, Mnd.cells, IA, I1, LA, L1, BA, B1, EA, E1, E2, eB, eI, eL]))
     intro b28 hb28
     have h := h28
     rw [← hb28] at h
     clear h28
     try dsimp only at h
     refine w_cond rfl (fun g => ?_) fun g => ?_
     · have g39 : b28 = true := by first | simpa using g | (simp at g; exact g) | (simp at g; omega)
       clear g
       replace h := if_l g39 h
       refine w_seq ?_
       refine w_run mo (by rw [hN]; decide) fun K hK => ?_
       simp [-guardE_b, -Is_at, -Is_at', -Ls_at, -Ls_at', eL, eI, allInts, eP_Cat, eP_Mnd, Cat.cells, Mnd.cells]
       repeat (with_reducible refine And.intro ?_ ?_; · first | assumption | omega | (simp; done) | (simp; omega) | simp_all)
       refine hK _ ?_
       clear hK K
       refine tn ?_
       refine w_weak (st' := ⟨[(2, .val (.bool false))], [], 0⟩) (Wk.r1 [] (by simp [hP, hhOk, back, Cat.cells, Mnd.cells, IA, I1, LA, L1, BA, B1, EA, E1, E2, eB, eI, eL])) ?_
       refine w_ret ?_
       refine tr ?_
       refine br ?_
       refine tr ?_
       refine lr ?_
       refine br ?_
       refine tr ?_
       cases h
       have q : _ = e1 := hk25
       have h := h1
       rw [← q] at h
       clear q
       try dsimp only at h
       have hr := Option.some.inj h
       rw [← hr]
       refine ⟨_, (.tmp .nil), ?_⟩
       refine ⟨(.one rfl rfl .nil), [.val (.bool false)], [], by simp [Cat.cells, Mnd.cells, IA, I1, LA, L1, BA, B1, EA, E1, E2, eB, eI, eL], by simp, (UpL.refl _)⟩
     have g39 : ¬ (b28 = true) := by first | simpa using g | (simp at g; exact g) | (simp at g; omega)
     clear g
     replace h := if_r g39 h
     refine w_skip ?_
     refine tn ?_
     refine w_seq ?_
     refine w_run mo (by rw [hN]; decide) fun K hK => ?_
     replace h := ass_some h
     obtain ⟨a40, h⟩ := h
     simp [-guardE_b, -Is_at, -Is_at', -Ls_at, -Ls_at', eL, eI, allInts, eP_Cat, eP_Mnd, Cat.cells, Mnd.cells, at_I a40]
     repeat (with_reducible refine And.intro ?_ ?_; · first | assumption | omega | (simp; done) | (simp; omega) | simp_all)
     replace h := bind_some h
     obtain ⟨v41, hv41, h⟩ := h
     refine callA_intro (w_i_Monad_arrow _ _ v41 hv41) (.cons (.preT (by simp [Cat.cells, Mnd.cells])) (.cons .val .nil)) ?_
     replace h := ass_some h
     obtain ⟨a42, h⟩ := h
     simp [-guardE_b, -Is_at, -Is_at', -Ls_at, -Ls_at', unk, unA, unE, unT, unC, flat, eL, eI, allInts, eP_Cat, eP_Mnd, Cat.cells, Mnd.cells, at_I a42]
     repeat (with_reducible refine And.intro ?_ ?_; · first | assumption | omega | (simp; done) | (simp; omega) | simp_all)
     replace h := bind_some h
     obtain ⟨v43, hv43, h⟩ := h
     refine callA_intro (w_i_Category_then _ _ _ v43 hv43) (.cons (.preT (by simp [Cat.cells, Mnd.cells])) (.cons .val (.cons .val .nil))) ?_
     replace h := ass_some h
     obtain ⟨a44, h⟩ := h
     replace h := ass_some h
     obtain ⟨a45, h⟩ := h
     simp [-guardE_b, -Is_at, -Is_at', -Ls_at, -Ls_at', unk, unA, unE, unT, unC, flat, eL, eI, allInts, eP_Cat, eP_Mnd, Cat.cells, Mnd.cells, at_I a44, at_I a45]
     repeat (with_reducible refine And.intro ?_ ?_; · first | assumption | omega | (simp; done) | (simp; omega) | simp_all)
     replace h := bind_some h
     obtain ⟨v46, hv46, h⟩ := h
     refine callA_intro (w_i_Category_then _ _ _ v46 hv46) (.cons (.preT (by simp [Cat.cells, Mnd.cells])) (.cons .val (.cons .val .nil))) ?_
     simp [-guardE_b, -Is_at, -Is_at', -Ls_at, -Ls_at', unk, unA, unE, unT, unC, flat, eL, eI, allInts, eP_Cat, eP_Mnd, Cat.cells, Mnd.cells]
     repeat (with_reducible refine And.intro ?_ ?_; · first | assumption | omega | (simp; done) | (simp; omega) | simp_all)
     refine hK _ ?_
     clear hK K
     refine tn ?_
     refine w_weak (st' := ⟨[(0, .rptr (Mnd.cells true m_)), (3, .rptr (Mnd.cells true m_)), (4, .val (.int .i64 s25)), (107, .val (.bool (v43 != v46)))], [], 0⟩) (Wk.r1 [] (by simp [hP, hhOk, back, Cat.cells, Mnd.cells, IA, I1, LA, L1, BA, B1, EA, E1, E2, eB, eI, eL])) ?_
     refine w_cond rfl (fun g => ?_) fun g => ?_
     · have g47 : ¬ (v43 = v46) := by first | simpa using g | (simp at g; exact g) | (simp at g; omega)
       clear g
       replace h := if_l g47 h
       refine w_seq ?_
       refine w_run mo (by rw [hN]; decide) fun K hK => ?_
       simp [-guardE_b, -Is_at, -Is_at', -Ls_at, -Ls_at', eL, eI, allInts, eP_Cat, eP_Mnd, Cat.cells, Mnd.cells]
       repeat (with_reducible refine And.intro ?_ ?_; · first | assumption | omega | (simp; done) | (simp; omega) | simp_all)
       refine hK _ ?_
       clear hK K
       refine tn ?_
       refine w_weak (st' := ⟨[(2, .val (.bool false))], [], 0⟩) (Wk.r1 [] (by simp [hP, hhOk, back, Cat.cells, Mnd.cells, IA, I1, LA, L1, BA, B1, EA, E1, E2, eB, eI, eL])) ?_
       refine w_ret ?_
       refine br ?_
       refine tr ?_
       refine lr ?_
       refine br ?_
       refine tr ?_
       cases h
       have q : _ = e1 := hk25
       have h := h1
       rw [← q] at h
       clear q
       try dsimp only at h
       have hr := Option.some.inj h
       rw [← hr]
       refine ⟨_, (.tmp .nil), ?_⟩
       refine ⟨(.one rfl rfl .nil), [.val (.bool false)], [], by simp [Cat.cells, Mnd.cells, IA, I1, LA, L1, BA, B1, EA, E1, E2, eB, eI, eL], by simp, (UpL.refl _)⟩
     have g47 : ¬ (¬ (v43 = v46)) := by first | simpa using g | (simp at g; exact g) | (simp at g; omega)
     clear g
     replace h := if_r g47 h
     refine w_skip ?_
     refine bn ?_
     refine tn ?_
     refine w_run mo (by rw [hN]; decide) fun K hK => ?_
     replace h := ass_some h
     obtain ⟨a48, h⟩ := h
     simp [-guardE_b, -Is_at, -Is_at', -Ls_at, -Ls_at', eL, eI, allInts, eP_Cat, eP_Mnd, Cat.cells, Mnd.cells, wrap_id a48]
     repeat (with_reducible refine And.intro ?_ ?_; · first | assumption | omega | (simp; done) | (simp; omega) | simp_all)
     refine hK _ ?_
     clear hK K
     cases h
     exact rn (s' := s25 + 1) hk25 (Wk.r1 [] (by simp [hP, hhOk, back, Cat.cells, Mnd.cells, IA, I1, LA, L1, BA, B1, EA, E1, E2, eB, eI, eL]))
   have g26 : ¬ (s25 < m_.f.s.n) := by first | simpa using g | (simp at g; exact g) | (simp at g; omega)
   clear g
   replace h := if_r g26 h
   refine w_exit ?_
   refine tx ?_
   refine lx ?_
   refine bh ?_
   cases h
   exact jn (b := ()) hk25 (Wk.r1 [] (by simp [hP, hhOk, back, Cat.cells, Mnd.cells, IA, I1, LA, L1, BA, B1, EA, E1, E2, eB, eI, eL]))
 intro b1 hb1
 have h := h1
 rw [← hb1] at h
 clear h1
 try dsimp only at h
 refine w_seq ?_
 refine w_run mo (by rw [hN]; decide) fun K hK => ?_
 simp [-guardE_b, -Is_at, -Is_at', -Ls_at, -Ls_at', eL, eI, allInts, eP_Cat, eP_Mnd, Cat.cells, Mnd.cells]
 repeat (with_reducible refine And.intro ?_ ?_; · first | assumption | omega | (simp; done) | (simp; omega) | simp_all)
 refine hK _ ?_
 clear hK K
 refine tn ?_
 refine w_weak (st' := ⟨[(2, .val (.bool true))], [], 0⟩) (Wk.r1 [] (by simp [hP, hhOk, back, Cat.cells, Mnd.cells, IA, I1, LA, L1, BA, B1, EA, E1, E2, eB, eI, eL])) ?_
 refine w_ret ?_
 have hr := Option.some.inj h
 rw [← hr]
 refine ⟨_, (.tmp .nil), ?_⟩
 refine ⟨(.one rfl rfl .nil), [.val (.bool true)], [], by simp [Cat.cells, Mnd.cells, IA, I1, LA, L1, BA, B1, EA, E1, E2, eB, eI, eL], by simp, (UpL.refl _)⟩
end Go.Vc.T

set_option maxRecDepth 100000
set_option linter.unusedSimpArgs false
set_option linter.unusedVariables false
namespace Go.Vc.T
open Go Go.Vc Go.Proofs
noncomputable def s_s_l15Natural (f_ : Fn) (g_ : Fn) (parts_ : List Int) : Option Bool :=
 (
   if ¬ ((parts_.length : Int) = (f_.ob.length : Int)) then
     some true
   else
     (s_s_l01Map (f_.t.fr.length : Int) parts_).bind fun v3 =>
     some (!v3) : Option (Bool)).bind fun b1 =>
 if b1 = true then
   some false
 else
   (loopF (σ := Int) (ε := Unit ⊕ Bool) (fun s17 =>
     if s17 < (parts_.length : Int) then
       (
         ass (0 ≤ s17 ∧ s17 < (parts_.length : Int)) <|
         ass (0 ≤ ix parts_ s17 ∧ ix parts_ s17 < (f_.t.fr.length : Int)) <|
         ass (0 ≤ s17 ∧ s17 < (f_.ob.length : Int)) <|
         if ¬ ((ix f_.t.fr (ix parts_ s17)) = (ix f_.ob s17)) then
           some true
         else
           ass (0 ≤ s17 ∧ s17 < (parts_.length : Int)) <|
           ass (0 ≤ ix parts_ s17 ∧ ix parts_ s17 < (f_.t.to.length : Int)) <|
           ass (0 ≤ s17 ∧ s17 < (g_.ob.length : Int)) <|
           some ((ix f_.t.to (ix parts_ s17)) != (ix g_.ob s17)) : Option (Bool)).bind fun b19 =>
       if b19 = true then
         some (Ctl.ret (Sum.inr false))
       else
         ass (B64 (s17 + 1)) <|
         some (Ctl.next (s17 + 1))
     else
       some (Ctl.ret (Sum.inl ()))) fuel 0).bind fun e5 =>
   match e5 with
   | .inl b5 =>
     (loopF (σ := Int) (ε := Unit ⊕ Bool) (fun s41 =>
       if s41 < (f_.s.fr.length : Int) then
         ass (0 ≤ s41 ∧ s41 < (f_.ar.length : Int)) <|
         ass (0 ≤ s41 ∧ s41 < (f_.s.to.length : Int)) <|
         ass (0 ≤ ix f_.s.to s41 ∧ ix f_.s.to s41 < (parts_.length : Int)) <|
         (s_s_l02Then f_.t (ix f_.ar s41) (ix parts_ (ix f_.s.to s41))).bind fun v46 =>
         ass (0 ≤ s41 ∧ s41 < (f_.s.fr.length : Int)) <|
         ass (0 ≤ ix f_.s.fr s41 ∧ ix f_.s.fr s41 < (parts_.length : Int)) <|
         ass (0 ≤ s41 ∧ s41 < (g_.ar.length : Int)) <|
         (s_s_l02Then f_.t (ix parts_ (ix f_.s.fr s41)) (ix g_.ar s41)).bind fun v50 =>
         if ¬ (v46 = v50) then
           some (Ctl.ret (Sum.inr false))
         else
           ass (B64 (s41 + 1)) <|
           some (Ctl.next (s41 + 1))
       else
         some (Ctl.ret (Sum.inl ()))) fuel 0).bind fun e29 =>
     match e29 with
     | .inl b29 =>
       some true
     | .inr p29 =>
       some p29
   | .inr p5 =>
     some p5
set_option maxHeartbeats 4000000 in
theorem w_s_l15Natural (f_ : Fn) (g_ : Fn) (parts_ : List Int) (r : Bool) (h : s_s_l15Natural f_ g_ parts_ = some r) : Contract Try.prog 168 [.agg (f_.cells true), .agg (g_.cells true), .lst true 1 (Is parts_)] (.val (.bool r)) := by
 refine contract_introG (rvs := [.tmp 6]) (rs := [.val (.bool r)]) Try.func168 rfl rfl rfl rfl (by simp [Try.f168]) fun F hN hP => ?_
 unfold s_s_l15Natural at h
 refine w_seq ?_
 refine w_run mo (by rw [hN]; decide) fun K hK => ?_
 simp [-guardE_b, -Is_at, -Is_at', -Ls_at, -Ls_at', eL, eI, allInts, eP_Cat, eP_Fn, Cat.cells, Fn.cells]
 repeat (with_reducible refine And.intro ?_ ?_; · first | assumption | omega | (simp; done) | (simp; omega) | simp_all)
 refine hK _ ?_
 clear hK K
 refine tn ?_
 refine w_weak (st' := ⟨[(2, .lst true 1 (Is parts_)), (3, .adr 0 0 0), (4, .adr 1 0 0)], [(0, .mix 12 [(Fn.cells true f_)]), (1, .mix 12 [(Fn.cells true g_)])], 2⟩) (Wk.r1 [(0, 0), (1, 1)] (by simp [hP, hhOk, back, Cat.cells, Fn.cells, IA, I1, LA, L1, BA, B1, EA, E1, E2, eB, eI, eL])) ?_
 refine w_seq ?_
 refine w_runS mo (by rw [hN]; decide) fun K hK => ?_
 simp [-guardE_b, -Is_at, -Is_at', -Ls_at, -Ls_at', eL, eI, allInts, eP_Cat, eP_Fn, Cat.cells, Fn.cells]
 repeat (with_reducible refine And.intro ?_ ?_; · first | assumption | omega | (simp; done) | (simp; omega) | simp_all)
 refine hK _ ?_
 clear hK K
 refine tn ?_
 refine w_weak (st' := ⟨[(2, .lst true 1 (Is parts_)), (3, .adr 0 0 0), (4, .adr 1 0 0), (7, .adr 2 0 0), (8, .adr 3 0 0)], [(0, .mix 12 [(Fn.cells true f_)]), (1, .mix 12 [(Fn.cells true g_)]), (2, .mix 5 [(Cat.cells true f_.s)]), (3, .mix 5 [(Cat.cells true f_.t)])], 4⟩) (Wk.r1 [(0, 0), (1, 1), (2, 2), (3, 3)] (by simp [hP, hhOk, back, Cat.cells, Fn.cells, IA, I1, LA, L1, BA, B1, EA, E1, E2, eB, eI, eL])) ?_
 refine w_seq ?_
 refine w_seq ?_
 replace h := bind_some h
 obtain ⟨e1, h, h1⟩ := h
 refine w_joinT (fun b1 : Bool => ⟨[(2, .lst true 1 (Is parts_)), (3, .adr 0 0 0), (4, .adr 1 0 0), (7, .adr 2 0 0), (8, .adr 3 0 0), (28, .val (.bool b1))], [(0, .mix 12 [(Fn.cells true f_)]), (1, .mix 12 [(Fn.cells true g_)]), (2, .mix 5 [(Cat.cells true f_.s)]), (3, .mix 5 [(Cat.cells true f_.t)])], 4⟩) (fun b1 => b1 = e1) ?_ ?_
 · refine w_run mo (by rw [hN]; decide) fun K hK => ?_
   simp [-guardE_b, -Is_at, -Is_at', -Ls_at, -Ls_at', eL, eI, allInts, eP_Cat, eP_Fn, Cat.cells, Fn.cells]
   repeat (with_reducible refine And.intro ?_ ?_; · first | assumption | omega | (simp; done) | (simp; omega) | simp_all)
   refine guard_intro (fun g => ?_) (fun g => ?_)
   · have g2 : ¬ (¬ ((parts_.length : Int) = (f_.ob.length : Int))) := by first | simpa using g | (simp at g; exact g) | (simp at g; omega)
     clear g
     replace h := if_r g2 h
     simp [-guardE_b, -Is_at, -Is_at', -Ls_at, -Ls_at', eL, eI, allInts, eP_Cat, eP_Fn, Cat.cells, Fn.cells]
     repeat (with_reducible refine And.intro ?_ ?_; · first | assumption | omega | (simp; done) | (simp; omega) | simp_all)
     replace h := bind_some h
     obtain ⟨v3, hv3, h⟩ := h
     refine callA_intro (w_s_l01Map _ _ v3 hv3) (.cons .val (.cons .lst .nil)) ?_
     simp [-guardE_b, -Is_at, -Is_at', -Ls_at, -Ls_at', unk, unA, unE, unT, unC, flat, eL, eI, allInts, eP_Cat, eP_Fn, Cat.cells, Fn.cells]
     repeat (with_reducible refine And.intro ?_ ?_; · first | assumption | omega | (simp; done) | (simp; omega) | simp_all)
     refine hK _ ?_
     exact jn (b := !v3) (Option.some.inj h) (Wk.r1 [(0, 0), (1, 1), (2, 2), (3, 3)] (by simp [hP, hhOk, back, Cat.cells, Fn.cells, IA, I1, LA, L1, BA, B1, EA, E1, E2, eB, eI, eL]))
   have g2 : ¬ ((parts_.length : Int) = (f_.ob.length : Int)) := by first | simpa using g | (simp at g; exact g) | (simp at g; omega)
   clear g
   replace h := if_l g2 h
   simp [-guardE_b, -Is_at, -Is_at', -Ls_at, -Ls_at', eL, eI, allInts, eP_Cat, eP_Fn, Cat.cells, Fn.cells]
   repeat (with_reducible refine And.intro ?_ ?_; · first | assumption | omega | (simp; done) | (simp; omega) | simp_all)
   refine hK _ ?_
   exact jn (b := true) (Option.some.inj h) (Wk.r1 [(0, 0), (1, 1), (2, 2), (3, 3)] (by simp [hP, hhOk, back, Cat.cells, Fn.cells, IA, I1, LA, L1, BA, B1, EA, E1, E2, eB, eI, eL]))
 intro b1 hb1
 have h := h1
 rw [← hb1] at h
 clear h1
 try dsimp only at h
 refine w_cond rfl (fun g => ?_) fun g => ?_
 · have g4 : b1 = true := by first | simpa using g | (simp at g; exact g) | (simp at g; omega)
   clear g
   replace h := if_l g4 h
   refine w_seq ?_
   refine w_run mo (by rw [hN]; decide) fun K hK => ?_
   simp [-guardE_b, -Is_at, -Is_at', -Ls_at, -Ls_at', eL, eI, allInts, eP_Cat, eP_Fn, Cat.cells, Fn.cells]
   repeat (with_reducible refine And.intro ?_ ?_; · first | assumption | omega | (simp; done) | (simp; omega) | simp_all)
   refine hK _ ?_
   clear hK K
   refine tn ?_
   refine w_weak (st' := ⟨[(6, .val (.bool false))], [], 0⟩) (Wk.r1 [] (by simp [hP, hhOk, back, Cat.cells, Fn.cells, IA, I1, LA, L1, BA, B1, EA, E1, E2, eB, eI, eL])) ?_
   refine w_ret ?_
   refine tr ?_
   have hr := Option.some.inj h
   rw [← hr]
   refine ⟨_, (.tmp .nil), ?_⟩
   refine ⟨(.one rfl rfl .nil), [.val (.bool false)], [], by simp [Cat.cells, Fn.cells, IA, I1, LA, L1, BA, B1, EA, E1, E2, eB, eI, eL], by simp, (UpL.refl _)⟩
 have g4 : ¬ (b1 = true) := by first | simpa using g | (simp at g; exact g) | (simp at g; omega)
 clear g
 replace h := if_r g4 h
 refine w_skip ?_
 refine tn ?_
 refine w_seq ?_
 refine w_seq ?_
 refine w_run mo (by rw [hN]; decide) fun K hK => ?_
 simp [-guardE_b, -Is_at, -Is_at', -Ls_at, -Ls_at', eL, eI, allInts, eP_Cat, eP_Fn, Cat.cells, Fn.cells]
 repeat (with_reducible refine And.intro ?_ ?_; · first | assumption | omega | (simp; done) | (simp; omega) | simp_all)
 refine hK _ ?_
 clear hK K
 refine tn ?_
 refine w_weak (st' := ⟨[(2, .lst true 1 (Is parts_)), (3, .adr 0 0 0), (4, .adr 1 0 0), (7, .adr 2 0 0), (8, .adr 3 0 0), (9, .val (.int .i64 0))], [(0, .mix 12 [(Fn.cells true f_)]), (1, .mix 12 [(Fn.cells true g_)]), (2, .mix 5 [(Cat.cells true f_.s)]), (3, .mix 5 [(Cat.cells true f_.t)])], 4⟩) (Wk.r1 [(0, 0), (1, 1), (2, 2), (3, 3)] (by simp [hP, hhOk, back, Cat.cells, Fn.cells, IA, I1, LA, L1, BA, B1, EA, E1, E2, eB, eI, eL])) ?_
 replace h := bind_some h
 obtain ⟨e5, h, h5⟩ := h
 refine w_joinT (fun b5 : Unit => ⟨[(2, .lst true 1 (Is parts_)), (3, .adr 0 0 0), (4, .adr 1 0 0), (7, .adr 2 0 0), (8, .adr 3 0 0)], [(0, .mix 12 [(Fn.cells true f_)]), (1, .mix 12 [(Fn.cells true g_)]), (2, .mix 5 [(Cat.cells true f_.s)]), (3, .mix 5 [(Cat.cells true f_.t)])], 4⟩) (fun b5 => Sum.inl b5 = e5) ?_ ?_
 · refine w_block ?_
   refine w_loopF h (fun s17 : Int => ⟨[(2, .lst true 1 (Is parts_)), (3, .adr 0 0 0), (4, .adr 1 0 0), (7, .adr 2 0 0), (8, .adr 3 0 0), (9, .val (.int .i64 s17))], [(0, .mix 12 [(Fn.cells true f_)]), (1, .mix 12 [(Fn.cells true g_)]), (2, .mix 5 [(Cat.cells true f_.s)]), (3, .mix 5 [(Cat.cells true f_.t)])], 4⟩) (Wk.r1 [(0, 0), (1, 1), (2, 2), (3, 3)] (by simp [hP, hhOk, back, Cat.cells, Fn.cells, IA, I1, LA, L1, BA, B1, EA, E1, E2, eB, eI, eL])) ?_
   clear h
   intro k17 s17 c17 h hk17
   refine w_seq ?_
   refine w_seq ?_
   refine w_run mo (by rw [hN]; decide) fun K hK => ?_
   simp [-guardE_b, -Is_at, -Is_at', -Ls_at, -Ls_at', eL, eI, allInts, eP_Cat, eP_Fn, Cat.cells, Fn.cells]
   repeat (with_reducible refine And.intro ?_ ?_; · first | assumption | omega | (simp; done) | (simp; omega) | simp_all)
   refine hK _ ?_
   clear hK K
   refine tn ?_
   refine w_weak (st' := ⟨[(2, .lst true 1 (Is parts_)), (3, .adr 0 0 0), (4, .adr 1 0 0), (7, .adr 2 0 0), (8, .adr 3 0 0), (9, .val (.int .i64 s17)), (32, .val (.bool (decide (s17 < (parts_.length : Int)))))], [(0, .mix 12 [(Fn.cells true f_)]), (1, .mix 12 [(Fn.cells true g_)]), (2, .mix 5 [(Cat.cells true f_.s)]), (3, .mix 5 [(Cat.cells true f_.t)])], 4⟩) (Wk.r1 [(0, 0), (1, 1), (2, 2), (3, 3)] (by simp [hP, hhOk, back, Cat.cells, Fn.cells, IA, I1, LA, L1, BA, B1, EA, E1, E2, eB, eI, eL])) ?_
   refine w_cond rfl (fun g => ?_) fun g => ?_
   · have g18 : s17 < (parts_.length : Int) := by first | simpa using g | (simp at g; exact g) | (simp at g; omega)
     clear g
     replace h := if_l g18 h
     refine w_skip ?_
     refine tn ?_
     refine w_seq ?_
     refine w_block ?_
     refine w_seq ?_
     replace h := bind_some h
     obtain ⟨e19, h, h19⟩ := h
     refine w_joinT (fun b19 : Bool => ⟨[(2, .lst true 1 (Is parts_)), (3, .adr 0 0 0), (4, .adr 1 0 0), (7, .adr 2 0 0), (8, .adr 3 0 0), (9, .val (.int .i64 s17)), (64, .val (.bool b19))], [(0, .mix 12 [(Fn.cells true f_)]), (1, .mix 12 [(Fn.cells true g_)]), (2, .mix 5 [(Cat.cells true f_.s)]), (3, .mix 5 [(Cat.cells true f_.t)])], 4⟩) (fun b19 => b19 = e19) ?_ ?_
     · refine w_run mo (by rw [hN]; decide) fun K hK => ?_
       replace h := ass_some h
       obtain ⟨a20, h⟩ := h
       replace h := ass_some h
       obtain ⟨a21, h⟩ := h
       replace h := ass_some h
       obtain ⟨a22, h⟩ := h
       simp [-guardE_b, -Is_at, -Is_at', -Ls_at, -Ls_at', eL, eI, allInts, eP_Cat, eP_Fn, Cat.cells, Fn.cells, at_I a20, at_I a21, at_I a22]
       repeat (with_reducible refine And.intro ?_ ?_; · first | assumption | omega | (simp; done) | (simp; omega) | simp_all)
       refine guard_intro (fun g => ?_) (fun g => ?_)
       · have g23 : ¬ (¬ ((ix f_.t.fr (ix parts_ s17)) = (ix f_.ob s17))) := by first | simpa using g | (simp at g; exact g) | (simp at g; omega)
         clear g
         replace h := if_r g23 h
         replace h := ass_some h
         obtain ⟨a24, h⟩ := h
         replace h := ass_some h
         obtain ⟨a25, h⟩ := h
         replace h := ass_some h
         obtain ⟨a26, h⟩ := h
         simp [-guardE_b, -Is_at, -Is_at', -Ls_at, -Ls_at', eL, eI, allInts, eP_Cat, eP_Fn, Cat.cells, Fn.cells, at_I a24, at_I a25, at_I a26]
         repeat (with_reducible refine And.intro ?_ ?_; · first | assumption | omega | (simp; done) | (simp; omega) | simp_all)
         refine hK _ ?_
         exact jn (b := (ix f_.t.to (ix parts_ s17)) != (ix g_.ob s17)) (Option.some.inj h) (Wk.r1 [(0, 0), (1, 1), (2, 2), (3, 3)] (by simp [hP, hhOk, back, Cat.cells, Fn.cells, IA, I1, LA, L1, BA, B1, EA, E1, E2, eB, eI, eL]))
       have g23 : ¬ ((ix f_.t.fr (ix parts_ s17)) = (ix f_.ob s17)) := by first | simpa using g | (simp at g; exact g) | (simp at g; omega)
       clear g
       replace h := if_l g23 h
       simp [-guardE_b, -Is_at, -Is_at', -Ls_at, -Ls_at', eL, eI, allInts, eP_Cat, eP_Fn, Cat.cells, Fn.cells]
       repeat (with_reducible refine And.intro ?_ ?_; · first | assumption | omega | (simp; done) | (simp; omega) | simp_all)
       refine hK _ ?_
       exact jn (b := true) (Option.some.inj h) (Wk.r1 [(0, 0), (1, 1), (2, 2), (3, 3)] (by simp [hP, hhOk, back, Cat.cells, Fn.cells, IA, I1, LA, L1, BA, B1, EA, E1, E2, eB, eI, eL]))
     intro b19 hb19
     have h := h19
     rw [← hb19] at h
     clear h19
     try dsimp only at h
     refine w_cond rfl (fun g => ?_) fun g => ?_
     · have g27 : b19 = true := by first | simpa using g | (simp at g; exact g) | (simp at g; omega)
       clear g
       replace h := if_l g27 h
       refine w_seq ?_
       refine w_run mo (by rw [hN]; decide) fun K hK => ?_
       simp [-guardE_b, -Is_at, -Is_at', -Ls_at, -Ls_at', eL, eI, allInts, eP_Cat, eP_Fn, Cat.cells, Fn.cells]
       repeat (with_reducible refine And.intro ?_ ?_; · first | assumption | omega | (simp; done) | (simp; omega) | simp_all)
       refine hK _ ?_
       clear hK K
       refine tn ?_
       refine w_weak (st' := ⟨[(6, .val (.bool false))], [], 0⟩) (Wk.r1 [] (by simp [hP, hhOk, back, Cat.cells, Fn.cells, IA, I1, LA, L1, BA, B1, EA, E1, E2, eB, eI, eL])) ?_
       refine w_ret ?_
       refine br ?_
       refine tr ?_
       refine lr ?_
       refine br ?_
       refine tr ?_
       cases h
       have q : _ = e5 := hk17
       have h := h5
       rw [← q] at h
       clear q
       try dsimp only at h
       have hr := Option.some.inj h
       rw [← hr]
       refine ⟨_, (.tmp .nil), ?_⟩
       refine ⟨(.one rfl rfl .nil), [.val (.bool false)], [], by simp [Cat.cells, Fn.cells, IA, I1, LA, L1, BA, B1, EA, E1, E2, eB, eI, eL], by simp, (UpL.refl _)⟩
     have g27 : ¬ (b19 = true) := by first | simpa using g | (simp at g; exact g) | (simp at g; omega)
     clear g
     replace h := if_r g27 h
     refine w_skip ?_
     refine bn ?_
     refine tn ?_
     refine w_run mo (by rw [hN]; decide) fun K hK => ?_
     replace h := ass_some h
     obtain ⟨a28, h⟩ := h
     simp [-guardE_b, -Is_at, -Is_at', -Ls_at, -Ls_at', eL, eI, allInts, eP_Cat, eP_Fn, Cat.cells, Fn.cells, wrap_id a28]
     repeat (with_reducible refine And.intro ?_ ?_; · first | assumption | omega | (simp; done) | (simp; omega) | simp_all)
     refine hK _ ?_
     clear hK K
     cases h
     exact rn (s' := s17 + 1) hk17 (Wk.r1 [(0, 0), (1, 1), (2, 2), (3, 3)] (by simp [hP, hhOk, back, Cat.cells, Fn.cells, IA, I1, LA, L1, BA, B1, EA, E1, E2, eB, eI, eL]))
   have g18 : ¬ (s17 < (parts_.length : Int)) := by first | simpa using g | (simp at g; exact g) | (simp at g; omega)
   clear g
   replace h := if_r g18 h
   refine w_exit ?_
   refine tx ?_
   refine lx ?_
   refine bh ?_
   cases h
   exact jn (b := ()) hk17 (Wk.r1 [(0, 0), (1, 1), (2, 2), (3, 3)] (by simp [hP, hhOk, back, Cat.cells, Fn.cells, IA, I1, LA, L1, BA, B1, EA, E1, E2, eB, eI, eL]))
 intro b5 hb5
 have h := h5
 rw [← hb5] at h
 clear h5
 try dsimp only at h
 refine w_seq ?_
 refine w_seq ?_
 refine w_run mo (by rw [hN]; decide) fun K hK => ?_
 simp [-guardE_b, -Is_at, -Is_at', -Ls_at, -Ls_at', eL, eI, allInts, eP_Cat, eP_Fn, Cat.cells, Fn.cells]
 repeat (with_reducible refine And.intro ?_ ?_; · first | assumption | omega | (simp; done) | (simp; omega) | simp_all)
 refine hK _ ?_
 clear hK K
 refine tn ?_
 refine w_weak (st' := ⟨[(2, .lst true 1 (Is parts_)), (3, .adr 0 0 0), (4, .adr 1 0 0), (7, .adr 2 0 0), (8, .adr 3 0 0), (10, .val (.int .i64 0))], [(0, .mix 12 [(Fn.cells true f_)]), (1, .mix 12 [(Fn.cells true g_)]), (2, .mix 5 [(Cat.cells true f_.s)]), (3, .mix 5 [(Cat.cells true f_.t)])], 4⟩) (Wk.r1 [(0, 0), (1, 1), (2, 2), (3, 3)] (by simp [hP, hhOk, back, Cat.cells, Fn.cells, IA, I1, LA, L1, BA, B1, EA, E1, E2, eB, eI, eL])) ?_
 replace h := bind_some h
 obtain ⟨e29, h, h29⟩ := h
 refine w_joinT (fun b29 : Unit => ⟨[], [], 0⟩) (fun b29 => Sum.inl b29 = e29) ?_ ?_
 · refine w_block ?_
   refine w_loopF h (fun s41 : Int => ⟨[(2, .lst true 1 (Is parts_)), (3, .adr 0 0 0), (4, .adr 1 0 0), (7, .adr 2 0 0), (8, .adr 3 0 0), (10, .val (.int .i64 s41))], [(0, .mix 12 [(Fn.cells true f_)]), (1, .mix 12 [(Fn.cells true g_)]), (2, .mix 5 [(Cat.cells true f_.s)]), (3, .mix 5 [(Cat.cells true f_.t)])], 4⟩) (Wk.r1 [(0, 0), (1, 1), (2, 2), (3, 3)] (by simp [hP, hhOk, back, Cat.cells, Fn.cells, IA, I1, LA, L1, BA, B1, EA, E1, E2, eB, eI, eL])) ?_
   clear h
   intro k41 s41 c41 h hk41
   refine w_seq ?_
   refine w_seq ?_
   refine w_run mo (by rw [hN]; decide) fun K hK => ?_
   simp [-guardE_b, -Is_at, -Is_at', -Ls_at, -Ls_at', eL, eI, allInts, eP_Cat, eP_Fn, Cat.cells, Fn.cells]
   repeat (with_reducible refine And.intro ?_ ?_; · first | assumption | omega | (simp; done) | (simp; omega) | simp_all)
   refine hK _ ?_
   clear hK K
   refine tn ?_
   refine w_weak (st' := ⟨[(2, .lst true 1 (Is parts_)), (3, .adr 0 0 0), (4, .adr 1 0 0), (7, .adr 2 0 0), (8, .adr 3 0 0), (10, .val (.int .i64 s41)), (69, .val (.bool (decide (s41 < (f_.s.fr.length : Int)))))], [(0, .mix 12 [(Fn.cells true f_)]), (1, .mix 12 [(Fn.cells true g_)]), (2, .mix 5 [(Cat.cells true f_.s)]), (3, .mix 5 [(Cat.cells true f_.t)])], 4⟩) (Wk.r1 [(0, 0), (1, 1), (2, 2), (3, 3)] (by simp [hP, hhOk, back, Cat.cells, Fn.cells, IA, I1, LA, L1, BA, B1, EA, E1, E2, eB, eI, eL])) ?_
   refine w_cond rfl (fun g => ?_) fun g => ?_
   · have g42 : s41 < (f_.s.fr.length : Int) := by first | simpa using g | (simp at g; exact g) | (simp at g; omega)
     clear g
     replace h := if_l g42 h
     refine w_skip ?_
     refine tn ?_
     refine w_seq ?_
     refine w_block ?_
     refine w_seq ?_
     refine w_run mo (by rw [hN]; decide) fun K hK => ?_
     replace h := ass_some h
     obtain ⟨a43, h⟩ := h
     replace h := ass_some h
     obtain ⟨a44, h⟩ := h
     replace h := ass_some h
     obtain ⟨a45, h⟩ := h
     simp [-guardE_b, -Is_at, -Is_at', -Ls_at, -Ls_at', eL, eI, allInts, eP_Cat, eP_Fn, Cat.cells, Fn.cells, at_I a43, at_I a44, at_I a45]
     repeat (with_reducible refine And.intro ?_ ?_; · first | assumption | omega | (simp; done) | (simp; omega) | simp_all)
     replace h := bind_some h
     obtain ⟨v46, hv46, h⟩ := h
     refine callA_intro (w_s_l02Then _ _ _ v46 hv46) (.cons (.aggL (.cons .val (.cons .lst (.cons .lst (.cons .lst (.cons .lst .nil)))))) (.cons .val (.cons .val .nil))) ?_
     replace h := ass_some h
     obtain ⟨a47, h⟩ := h
     replace h := ass_some h
     obtain ⟨a48, h⟩ := h
     replace h := ass_some h
     obtain ⟨a49, h⟩ := h
     simp [-guardE_b, -Is_at, -Is_at', -Ls_at, -Ls_at', unk, unA, unE, unT, unC, flat, eL, eI, allInts, eP_Cat, eP_Fn, Cat.cells, Fn.cells, at_I a47, at_I a48, at_I a49]
     repeat (with_reducible refine And.intro ?_ ?_; · first | assumption | omega | (simp; done) | (simp; omega) | simp_all)
     replace h := bind_some h
     obtain ⟨v50, hv50, h⟩ := h
     refine callA_intro (w_s_l02Then _ _ _ v50 hv50) (.cons (.aggL (.cons .val (.cons .lst (.cons .lst (.cons .lst (.cons .lst .nil)))))) (.cons .val (.cons .val .nil))) ?_
     simp [-guardE_b, -Is_at, -Is_at', -Ls_at, -Ls_at', unk, unA, unE, unT, unC, flat, eL, eI, allInts, eP_Cat, eP_Fn, Cat.cells, Fn.cells]
     repeat (with_reducible refine And.intro ?_ ?_; · first | assumption | omega | (simp; done) | (simp; omega) | simp_all)
     refine hK _ ?_
     clear hK K
     refine tn ?_
     refine w_weak (st' := ⟨[(2, .lst true 1 (Is parts_)), (3, .adr 0 0 0), (4, .adr 1 0 0), (7, .adr 2 0 0), (8, .adr 3 0 0), (10, .val (.int .i64 s41)), (102, .val (.bool (v46 != v50)))], [(0, .mix 12 [(Fn.cells true f_)]), (1, .mix 12 [(Fn.cells true g_)]), (2, .mix 5 [(Cat.cells true f_.s)]), (3, .mix 5 [(Cat.cells true f_.t)])], 4⟩) (Wk.r1 [(0, 0), (1, 1), (2, 2), (3, 3)] (by simp [hP, hhOk, back, Cat.cells, Fn.cells, IA, I1, LA, L1, BA, B1, EA, E1, E2, eB, eI, eL])) ?_
     refine w_cond rfl (fun g => ?_) fun g => ?_
     · have g51 : ¬ (v46 = v50) := by first | simpa using g | (simp at g; exact g) | (simp at g; omega)
       clear g
       replace h := if_l g51 h
       refine w_seq ?_
       refine w_run mo (by rw [hN]; decide) fun K hK => ?_
       simp [-guardE_b, -Is_at, -Is_at', -Ls_at, -Ls_at', eL, eI, allInts, eP_Cat, eP_Fn, Cat.cells, Fn.cells]
       repeat (with_reducible refine And.intro ?_ ?_; · first | assumption | omega | (simp; done) | (simp; omega) | simp_all)
       refine hK _ ?_
       clear hK K
       refine tn ?_
       refine w_weak (st' := ⟨[(6, .val (.bool false))], [], 0⟩) (Wk.r1 [] (by simp [hP, hhOk, back, Cat.cells, Fn.cells, IA, I1, LA, L1, BA, B1, EA, E1, E2, eB, eI, eL])) ?_
       refine w_ret ?_
       refine br ?_
       refine tr ?_
       refine lr ?_
       refine br ?_
       refine tr ?_
       cases h
       have q : _ = e29 := hk41
       have h := h29
       rw [← q] at h
       clear q
       try dsimp only at h
       have hr := Option.some.inj h
       rw [← hr]
       refine ⟨_, (.tmp .nil), ?_⟩
       refine ⟨(.one rfl rfl .nil), [.val (.bool false)], [], by simp [Cat.cells, Fn.cells, IA, I1, LA, L1, BA, B1, EA, E1, E2, eB, eI, eL], by simp, (UpL.refl _)⟩
     have g51 : ¬ (¬ (v46 = v50)) := by first | simpa using g | (simp at g; exact g) | (simp at g; omega)
     clear g
     replace h := if_r g51 h
     refine w_skip ?_
     refine bn ?_
     refine tn ?_
     refine w_run mo (by rw [hN]; decide) fun K hK => ?_
     replace h := ass_some h
     obtain ⟨a52, h⟩ := h
     simp [-guardE_b, -Is_at, -Is_at', -Ls_at, -Ls_at', eL, eI, allInts, eP_Cat, eP_Fn, Cat.cells, Fn.cells, wrap_id a52]
     repeat (with_reducible refine And.intro ?_ ?_; · first | assumption | omega | (simp; done) | (simp; omega) | simp_all)
     refine hK _ ?_
     clear hK K
     cases h
     exact rn (s' := s41 + 1) hk41 (Wk.r1 [(0, 0), (1, 1), (2, 2), (3, 3)] (by simp [hP, hhOk, back, Cat.cells, Fn.cells, IA, I1, LA, L1, BA, B1, EA, E1, E2, eB, eI, eL]))
   have g42 : ¬ (s41 < (f_.s.fr.length : Int)) := by first | simpa using g | (simp at g; exact g) | (simp at g; omega)
   clear g
   replace h := if_r g42 h
   refine w_exit ?_
   refine tx ?_
   refine lx ?_
   refine bh ?_
   cases h
   exact jn (b := ()) hk41 (Wk.r1 [] (by simp [hP, hhOk, back, Cat.cells, Fn.cells, IA, I1, LA, L1, BA, B1, EA, E1, E2, eB, eI, eL]))
 intro b29 hb29
 have h := h29
 rw [← hb29] at h
 clear h29
 try dsimp only at h
 refine w_seq ?_
 refine w_run mo (by rw [hN]; decide) fun K hK => ?_
 simp [-guardE_b, -Is_at, -Is_at', -Ls_at, -Ls_at', eL, eI, allInts, eP_Cat, eP_Fn, Cat.cells, Fn.cells]
 repeat (with_reducible refine And.intro ?_ ?_; · first | assumption | omega | (simp; done) | (simp; omega) | simp_all)
 refine hK _ ?_
 clear hK K
 refine tn ?_
 refine w_weak (st' := ⟨[(6, .val (.bool true))], [], 0⟩) (Wk.r1 [] (by simp [hP, hhOk, back, Cat.cells, Fn.cells, IA, I1, LA, L1, BA, B1, EA, E1, E2, eB, eI, eL])) ?_
 refine w_ret ?_
 have hr := Option.some.inj h
 rw [← hr]
 refine ⟨_, (.tmp .nil), ?_⟩
 refine ⟨(.one rfl rfl .nil), [.val (.bool true)], [], by simp [Cat.cells, Fn.cells, IA, I1, LA, L1, BA, B1, EA, E1, E2, eB, eI, eL], by simp, (UpL.refl _)⟩
noncomputable def s_s_l06Self (c_ : Cat) : Option Fn :=
 (loopF (σ := List Int × Int) (ε := List Int) (fun s5 =>
   if s5.2 < c_.n then
     ass ((s5.1 ++ [s5.2]).length ≤ 1073741824) <|
     ass (B64 (s5.2 + 1)) <|
     some (Ctl.next (s5.1 ++ [s5.2], s5.2 + 1))
   else
     some (Ctl.ret s5.1)) fuel ([], 0)).bind fun b1 =>
 (loopF (σ := List Int × Int) (ε := List Int) (fun s13 =>
   if s13.2 < (c_.fr.length : Int) then
     ass ((s13.1 ++ [s13.2]).length ≤ 1073741824) <|
     ass (B64 (s13.2 + 1)) <|
     some (Ctl.next (s13.1 ++ [s13.2], s13.2 + 1))
   else
     some (Ctl.ret s13.1)) fuel ([], 0)).bind fun b9 =>
 (s_s_l06Make c_ c_ b1 b9).bind fun v17 =>
 some v17
set_option maxHeartbeats 4000000 in
theorem w_s_l06Self (c_ : Cat) (r : Fn) (h : s_s_l06Self c_ = some r) : Contract Try.prog 169 [.agg (c_.cells true)] (.agg (r.cells true)) := by
 refine contract_introG (rvs := [.cell 2 35]) (rs := [.agg (r.cells true)]) Try.func169 rfl rfl rfl rfl (by simp [Try.f169]) fun F hN hP => ?_
 unfold s_s_l06Self at h
 refine w_seq ?_
 refine w_run mo (by rw [hN]; decide) fun K hK => ?_
 simp [-guardE_b, -Is_at, -Is_at', -Ls_at, -Ls_at', eL, eI, allInts, eP_Cat, eP_Fn, Cat.cells, Fn.cells]
 repeat (with_reducible refine And.intro ?_ ?_; · first | assumption | omega | (simp; done) | (simp; omega) | simp_all)
 refine hK _ ?_
 clear hK K
 refine tn ?_
 refine w_weak (st' := ⟨[(1, .adr 0 0 0), (2, .adr 1 0 0)], [(0, .mix 5 [(Cat.cells true c_)]), (1, .mix 12 [[.val (.int .i64 0), .val (.slice none 0 0), .val (.slice none 0 0), .val (.slice none 0 0), .val (.slice none 0 0), .val (.int .i64 0), .val (.slice none 0 0), .val (.slice none 0 0), .val (.slice none 0 0), .val (.slice none 0 0), .val (.slice none 0 0), .val (.slice none 0 0)]])], 2⟩) (Wk.r1 [(0, 0), (1, 1)] (by simp [hP, hhOk, back, Cat.cells, Fn.cells, IA, I1, LA, L1, BA, B1, EA, E1, E2, eB, eI, eL])) ?_
 refine w_seq ?_
 refine w_run mo (by rw [hN]; decide) fun K hK => ?_
 simp [-guardE_b, -Is_at, -Is_at', -Ls_at, -Ls_at', eL, eI, allInts, eP_Cat, eP_Fn, Cat.cells, Fn.cells]
 repeat (with_reducible refine And.intro ?_ ?_; · first | assumption | omega | (simp; done) | (simp; omega) | simp_all)
 refine hK _ ?_
 clear hK K
 refine tn ?_
 refine w_weak (st' := ⟨[(1, .adr 0 0 0), (2, .adr 1 0 0), (3, .own 2 0 0), (4, .own 3 0 0)], [(0, .mix 5 [(Cat.cells true c_)]), (1, .mix 12 [[.val (.int .i64 0), .val (.slice none 0 0), .val (.slice none 0 0), .val (.slice none 0 0), .val (.slice none 0 0), .val (.int .i64 0), .val (.slice none 0 0), .val (.slice none 0 0), .val (.slice none 0 0), .val (.slice none 0 0), .val (.slice none 0 0), .val (.slice none 0 0)]]), (2, .mix 1 []), (3, .mix 1 [])], 4⟩) (Wk.r1 [(0, 0), (1, 1), (2, 2), (3, 3)] (by simp [hP, hhOk, back, Cat.cells, Fn.cells, IA, I1, LA, L1, BA, B1, EA, E1, E2, eB, eI, eL])) ?_
 refine w_seq ?_
 refine w_seq ?_
 refine w_run mo (by rw [hN]; decide) fun K hK => ?_
 simp [-guardE_b, -Is_at, -Is_at', -Ls_at, -Ls_at', eL, eI, allInts, eP_Cat, eP_Fn, Cat.cells, Fn.cells]
 repeat (with_reducible refine And.intro ?_ ?_; · first | assumption | omega | (simp; done) | (simp; omega) | simp_all)
 refine hK _ ?_
 clear hK K
 refine tn ?_
 refine w_weak (st' := ⟨[(1, .adr 0 0 0), (2, .adr 1 0 0), (3, .own 2 0 0), (4, .own 3 0 0), (5, .val (.int .i64 0))], [(0, .mix 5 [(Cat.cells true c_)]), (1, .mix 12 [[.val (.int .i64 0), .val (.slice none 0 0), .val (.slice none 0 0), .val (.slice none 0 0), .val (.slice none 0 0), .val (.int .i64 0), .val (.slice none 0 0), .val (.slice none 0 0), .val (.slice none 0 0), .val (.slice none 0 0), .val (.slice none 0 0), .val (.slice none 0 0)]]), (2, .mix 1 []), (3, .mix 1 [])], 4⟩) (Wk.r1 [(0, 0), (1, 1), (2, 2), (3, 3)] (by simp [hP, hhOk, back, Cat.cells, Fn.cells, IA, I1, LA, L1, BA, B1, EA, E1, E2, eB, eI, eL])) ?_
 replace h := bind_some h
 obtain ⟨e1, h, h1⟩ := h
 refine w_joinT (fun b1 : List Int => ⟨[(1, .adr 0 0 0), (2, .adr 1 0 0), (3, .own 2 0 b1.length), (4, .own 3 0 0)], [(0, .mix 5 [(Cat.cells true c_)]), (1, .mix 12 [[.val (.int .i64 0), .val (.slice none 0 0), .val (.slice none 0 0), .val (.slice none 0 0), .val (.slice none 0 0), .val (.int .i64 0), .val (.slice none 0 0), .val (.slice none 0 0), .val (.slice none 0 0), .val (.slice none 0 0), .val (.slice none 0 0), .val (.slice none 0 0)]]), (2, .row 1 (Is b1)), (3, .mix 1 [])], 4⟩) (fun b1 => b1 = e1) ?_ ?_
 · refine w_block ?_
   refine w_loopF h (fun s5 : List Int × Int => ⟨[(1, .adr 0 0 0), (2, .adr 1 0 0), (3, .own 2 0 s5.1.length), (4, .own 3 0 0), (5, .val (.int .i64 s5.2))], [(0, .mix 5 [(Cat.cells true c_)]), (1, .mix 12 [[.val (.int .i64 0), .val (.slice none 0 0), .val (.slice none 0 0), .val (.slice none 0 0), .val (.slice none 0 0), .val (.int .i64 0), .val (.slice none 0 0), .val (.slice none 0 0), .val (.slice none 0 0), .val (.slice none 0 0), .val (.slice none 0 0), .val (.slice none 0 0)]]), (2, .row 1 (Is s5.1)), (3, .mix 1 [])], 4⟩) (wk_tr ⟨[(1, .adr 0 0 0), (2, .adr 1 0 0), (3, .own 2 0 0), (4, .own 3 0 0), (5, .val (.int .i64 0))], [(0, .mix 5 [(Cat.cells true c_)]), (1, .mix 12 [[.val (.int .i64 0), .val (.slice none 0 0), .val (.slice none 0 0), .val (.slice none 0 0), .val (.slice none 0 0), .val (.int .i64 0), .val (.slice none 0 0), .val (.slice none 0 0), .val (.slice none 0 0), .val (.slice none 0 0), .val (.slice none 0 0), .val (.slice none 0 0)]]), (2, .row 1 (Is [])), (3, .mix 1 [])], 4⟩ (Wk.nils [] (by simp) (by simp) (by simp [nlA]) (by simp [entN, nlL, nlA, Cat.cells, Fn.cells, IA, I1, LA, L1, BA, B1, EA, E1, E2, eB, eI, eL]) (by simp)) (Wk.r1 [(0, 0), (1, 1), (2, 2), (3, 3)] (by simp [hP, hhOk, back, Cat.cells, Fn.cells, IA, I1, LA, L1, BA, B1, EA, E1, E2, eB, eI, eL]))) ?_
   clear h
   intro k5 s5 c5 h hk5
   refine w_seq ?_
   refine w_seq ?_
   refine w_run mo (by rw [hN]; decide) fun K hK => ?_
   simp [-guardE_b, -Is_at, -Is_at', -Ls_at, -Ls_at', eL, eI, allInts, eP_Cat, eP_Fn, Cat.cells, Fn.cells]
   repeat (with_reducible refine And.intro ?_ ?_; · first | assumption | omega | (simp; done) | (simp; omega) | simp_all)
   refine hK _ ?_
   clear hK K
   refine tn ?_
   refine w_weak (st' := ⟨[(1, .adr 0 0 0), (2, .adr 1 0 0), (3, .own 2 0 s5.1.length), (4, .own 3 0 0), (5, .val (.int .i64 s5.2)), (12, .val (.bool (decide (s5.2 < c_.n))))], [(0, .mix 5 [(Cat.cells true c_)]), (1, .mix 12 [[.val (.int .i64 0), .val (.slice none 0 0), .val (.slice none 0 0), .val (.slice none 0 0), .val (.slice none 0 0), .val (.int .i64 0), .val (.slice none 0 0), .val (.slice none 0 0), .val (.slice none 0 0), .val (.slice none 0 0), .val (.slice none 0 0), .val (.slice none 0 0)]]), (2, .row 1 (Is s5.1)), (3, .mix 1 [])], 4⟩) (Wk.r1 [(0, 0), (1, 1), (2, 2), (3, 3)] (by simp [hP, hhOk, back, Cat.cells, Fn.cells, IA, I1, LA, L1, BA, B1, EA, E1, E2, eB, eI, eL])) ?_
   refine w_cond rfl (fun g => ?_) fun g => ?_
   · have g6 : s5.2 < c_.n := by first | simpa using g | (simp at g; exact g) | (simp at g; omega)
     clear g
     replace h := if_l g6 h
     refine w_skip ?_
     refine tn ?_
     refine w_seq ?_
     refine w_block ?_
     refine w_run mo (by rw [hN]; decide) fun K hK => ?_
     replace h := ass_some h
     obtain ⟨a7, h⟩ := h
     try simp only [List.length_append, List.length_cons, List.length_nil] at a7
     simp [-guardE_b, -Is_at, -Is_at', -Ls_at, -Ls_at', eL, eI, allInts, eP_Cat, eP_Fn, Cat.cells, Fn.cells, a7]
     repeat (with_reducible refine And.intro ?_ ?_; · first | assumption | omega | (simp; done) | (simp; omega) | simp_all)
     refine hK _ ?_
     clear hK K
     refine bn ?_
     refine tn ?_
     refine w_weak (st' := ⟨[(1, .adr 0 0 0), (2, .adr 1 0 0), (3, .own 2 0 ((s5.1 ++ [s5.2]).length)), (4, .own 3 0 0), (5, .val (.int .i64 s5.2))], [(0, .mix 5 [(Cat.cells true c_)]), (1, .mix 12 [[.val (.int .i64 0), .val (.slice none 0 0), .val (.slice none 0 0), .val (.slice none 0 0), .val (.slice none 0 0), .val (.int .i64 0), .val (.slice none 0 0), .val (.slice none 0 0), .val (.slice none 0 0), .val (.slice none 0 0), .val (.slice none 0 0), .val (.slice none 0 0)]]), (2, .row 1 (Is (s5.1 ++ [s5.2]))), (3, .mix 1 [])], 4⟩) (Wk.r1 [(0, 0), (1, 1), (5, 2), (3, 3)] (by simp [hP, hhOk, back, Cat.cells, Fn.cells, IA, I1, LA, L1, BA, B1, EA, E1, E2, eB, eI, eL])) ?_
     refine w_run mo (by rw [hN]; decide) fun K hK => ?_
     replace h := ass_some h
     obtain ⟨a8, h⟩ := h
     simp [-guardE_b, -Is_at, -Is_at', -Ls_at, -Ls_at', eL, eI, allInts, eP_Cat, eP_Fn, Cat.cells, Fn.cells, wrap_id a8]
     repeat (with_reducible refine And.intro ?_ ?_; · first | assumption | omega | (simp; done) | (simp; omega) | simp_all)
     refine hK _ ?_
     clear hK K
     cases h
     exact rn (s' := (s5.1 ++ [s5.2], s5.2 + 1)) hk5 (Wk.r1 [(0, 0), (1, 1), (2, 2), (3, 3)] (by simp [hP, hhOk, back, Cat.cells, Fn.cells, IA, I1, LA, L1, BA, B1, EA, E1, E2, eB, eI, eL]))
   have g6 : ¬ (s5.2 < c_.n) := by first | simpa using g | (simp at g; exact g) | (simp at g; omega)
   clear g
   replace h := if_r g6 h
   refine w_exit ?_
   refine tx ?_
   refine lx ?_
   refine bh ?_
   cases h
   exact jn (b := s5.1) hk5 (Wk.r1 [(0, 0), (1, 1), (2, 2), (3, 3)] (by simp [hP, hhOk, back, Cat.cells, Fn.cells, IA, I1, LA, L1, BA, B1, EA, E1, E2, eB, eI, eL]))
 intro b1 hb1
 have h := h1
 rw [← hb1] at h
 clear h1
 try dsimp only at h
 refine w_seq ?_
 refine w_seq ?_
 refine w_run mo (by rw [hN]; decide) fun K hK => ?_
 simp [-guardE_b, -Is_at, -Is_at', -Ls_at, -Ls_at', eL, eI, allInts, eP_Cat, eP_Fn, Cat.cells, Fn.cells]
 repeat (with_reducible refine And.intro ?_ ?_; · first | assumption | omega | (simp; done) | (simp; omega) | simp_all)
 refine hK _ ?_
 clear hK K
 refine tn ?_
 refine w_weak (st' := ⟨[(1, .adr 0 0 0), (2, .adr 1 0 0), (3, .own 2 0 b1.length), (4, .own 3 0 0), (6, .val (.int .i64 0))], [(0, .mix 5 [(Cat.cells true c_)]), (1, .mix 12 [[.val (.int .i64 0), .val (.slice none 0 0), .val (.slice none 0 0), .val (.slice none 0 0), .val (.slice none 0 0), .val (.int .i64 0), .val (.slice none 0 0), .val (.slice none 0 0), .val (.slice none 0 0), .val (.slice none 0 0), .val (.slice none 0 0), .val (.slice none 0 0)]]), (2, .row 1 (Is b1)), (3, .mix 1 [])], 4⟩) (Wk.r1 [(0, 0), (1, 1), (2, 2), (3, 3)] (by simp [hP, hhOk, back, Cat.cells, Fn.cells, IA, I1, LA, L1, BA, B1, EA, E1, E2, eB, eI, eL])) ?_
 replace h := bind_some h
 obtain ⟨e9, h, h9⟩ := h
 refine w_joinT (fun b9 : List Int => ⟨[(1, .adr 0 0 0), (2, .adr 1 0 0), (3, .own 2 0 b1.length), (4, .own 3 0 b9.length)], [(0, .mix 5 [(Cat.cells true c_)]), (1, .mix 12 [[.val (.int .i64 0), .val (.slice none 0 0), .val (.slice none 0 0), .val (.slice none 0 0), .val (.slice none 0 0), .val (.int .i64 0), .val (.slice none 0 0), .val (.slice none 0 0), .val (.slice none 0 0), .val (.slice none 0 0), .val (.slice none 0 0), .val (.slice none 0 0)]]), (2, .row 1 (Is b1)), (3, .row 1 (Is b9))], 4⟩) (fun b9 => b9 = e9) ?_ ?_
 · refine w_block ?_
   refine w_loopF h (fun s13 : List Int × Int => ⟨[(1, .adr 0 0 0), (2, .adr 1 0 0), (3, .own 2 0 b1.length), (4, .own 3 0 s13.1.length), (6, .val (.int .i64 s13.2))], [(0, .mix 5 [(Cat.cells true c_)]), (1, .mix 12 [[.val (.int .i64 0), .val (.slice none 0 0), .val (.slice none 0 0), .val (.slice none 0 0), .val (.slice none 0 0), .val (.int .i64 0), .val (.slice none 0 0), .val (.slice none 0 0), .val (.slice none 0 0), .val (.slice none 0 0), .val (.slice none 0 0), .val (.slice none 0 0)]]), (2, .row 1 (Is b1)), (3, .row 1 (Is s13.1))], 4⟩) (wk_tr ⟨[(1, .adr 0 0 0), (2, .adr 1 0 0), (3, .own 2 0 b1.length), (4, .own 3 0 0), (6, .val (.int .i64 0))], [(0, .mix 5 [(Cat.cells true c_)]), (1, .mix 12 [[.val (.int .i64 0), .val (.slice none 0 0), .val (.slice none 0 0), .val (.slice none 0 0), .val (.slice none 0 0), .val (.int .i64 0), .val (.slice none 0 0), .val (.slice none 0 0), .val (.slice none 0 0), .val (.slice none 0 0), .val (.slice none 0 0), .val (.slice none 0 0)]]), (2, .row 1 (Is b1)), (3, .row 1 (Is []))], 4⟩ (Wk.nils [] (by simp) (by simp) (by simp [nlA]) (by simp [entN, nlL, nlA, Cat.cells, Fn.cells, IA, I1, LA, L1, BA, B1, EA, E1, E2, eB, eI, eL]) (by simp)) (Wk.r1 [(0, 0), (1, 1), (2, 2), (3, 3)] (by simp [hP, hhOk, back, Cat.cells, Fn.cells, IA, I1, LA, L1, BA, B1, EA, E1, E2, eB, eI, eL]))) ?_
   clear h
   intro k13 s13 c13 h hk13
   refine w_seq ?_
   refine w_seq ?_
   refine w_run mo (by rw [hN]; decide) fun K hK => ?_
   simp [-guardE_b, -Is_at, -Is_at', -Ls_at, -Ls_at', eL, eI, allInts, eP_Cat, eP_Fn, Cat.cells, Fn.cells]
   repeat (with_reducible refine And.intro ?_ ?_; · first | assumption | omega | (simp; done) | (simp; omega) | simp_all)
   refine hK _ ?_
   clear hK K
   refine tn ?_
   refine w_weak (st' := ⟨[(1, .adr 0 0 0), (2, .adr 1 0 0), (3, .own 2 0 b1.length), (4, .own 3 0 s13.1.length), (6, .val (.int .i64 s13.2)), (23, .val (.bool (decide (s13.2 < (c_.fr.length : Int)))))], [(0, .mix 5 [(Cat.cells true c_)]), (1, .mix 12 [[.val (.int .i64 0), .val (.slice none 0 0), .val (.slice none 0 0), .val (.slice none 0 0), .val (.slice none 0 0), .val (.int .i64 0), .val (.slice none 0 0), .val (.slice none 0 0), .val (.slice none 0 0), .val (.slice none 0 0), .val (.slice none 0 0), .val (.slice none 0 0)]]), (2, .row 1 (Is b1)), (3, .row 1 (Is s13.1))], 4⟩) (Wk.r1 [(0, 0), (1, 1), (2, 2), (3, 3)] (by simp [hP, hhOk, back, Cat.cells, Fn.cells, IA, I1, LA, L1, BA, B1, EA, E1, E2, eB, eI, eL])) ?_
   refine w_cond rfl (fun g => ?_) fun g => ?_
   · have g14 : s13.2 < (c_.fr.length : Int) := by first | simpa using g | (simp at g; exact g) | (simp at g; omega)
     clear g
     replace h := if_l g14 h
     refine w_skip ?_
     refine tn ?_
     refine w_seq ?_
     refine w_block ?_
     refine w_run mo (by rw [hN]; decide) fun K hK => ?_
     replace h := ass_some h
     obtain ⟨a15, h⟩ := h
     try simp only [List.length_append, List.length_cons, List.length_nil] at a15
     simp [-guardE_b, -Is_at, -Is_at', -Ls_at, -Ls_at', eL, eI, allInts, eP_Cat, eP_Fn, Cat.cells, Fn.cells, a15]
     repeat (with_reducible refine And.intro ?_ ?_; · first | assumption | omega | (simp; done) | (simp; omega) | simp_all)
     refine hK _ ?_
     clear hK K
     refine bn ?_
     refine tn ?_
     refine w_weak (st' := ⟨[(1, .adr 0 0 0), (2, .adr 1 0 0), (3, .own 2 0 b1.length), (4, .own 3 0 ((s13.1 ++ [s13.2]).length)), (6, .val (.int .i64 s13.2))], [(0, .mix 5 [(Cat.cells true c_)]), (1, .mix 12 [[.val (.int .i64 0), .val (.slice none 0 0), .val (.slice none 0 0), .val (.slice none 0 0), .val (.slice none 0 0), .val (.int .i64 0), .val (.slice none 0 0), .val (.slice none 0 0), .val (.slice none 0 0), .val (.slice none 0 0), .val (.slice none 0 0), .val (.slice none 0 0)]]), (2, .row 1 (Is b1)), (3, .row 1 (Is (s13.1 ++ [s13.2])))], 4⟩) (Wk.r1 [(0, 0), (1, 1), (2, 2), (5, 3)] (by simp [hP, hhOk, back, Cat.cells, Fn.cells, IA, I1, LA, L1, BA, B1, EA, E1, E2, eB, eI, eL])) ?_
     refine w_run mo (by rw [hN]; decide) fun K hK => ?_
     replace h := ass_some h
     obtain ⟨a16, h⟩ := h
     simp [-guardE_b, -Is_at, -Is_at', -Ls_at, -Ls_at', eL, eI, allInts, eP_Cat, eP_Fn, Cat.cells, Fn.cells, wrap_id a16]
     repeat (with_reducible refine And.intro ?_ ?_; · first | assumption | omega | (simp; done) | (simp; omega) | simp_all)
     refine hK _ ?_
     clear hK K
     cases h
     exact rn (s' := (s13.1 ++ [s13.2], s13.2 + 1)) hk13 (Wk.r1 [(0, 0), (1, 1), (2, 2), (3, 3)] (by simp [hP, hhOk, back, Cat.cells, Fn.cells, IA, I1, LA, L1, BA, B1, EA, E1, E2, eB, eI, eL]))
   have g14 : ¬ (s13.2 < (c_.fr.length : Int)) := by first | simpa using g | (simp at g; exact g) | (simp at g; omega)
   clear g
   replace h := if_r g14 h
   refine w_exit ?_
   refine tx ?_
   refine lx ?_
   refine bh ?_
   cases h
   exact jn (b := s13.1) hk13 (Wk.r1 [(0, 0), (1, 1), (2, 2), (3, 3)] (by simp [hP, hhOk, back, Cat.cells, Fn.cells, IA, I1, LA, L1, BA, B1, EA, E1, E2, eB, eI, eL]))
 intro b9 hb9
 have h := h9
 rw [← hb9] at h
 clear h9
 try dsimp only at h
 refine w_seq ?_
 refine w_run mo (by rw [hN]; decide) fun K hK => ?_
 simp [-guardE_b, -Is_at, -Is_at', -Ls_at, -Ls_at', eL, eI, allInts, eP_Cat, eP_Fn, Cat.cells, Fn.cells]
 repeat (with_reducible refine And.intro ?_ ?_; · first | assumption | omega | (simp; done) | (simp; omega) | simp_all)
 replace h := bind_some h
 obtain ⟨v17, hv17, h⟩ := h
 refine callA_intro (w_s_l06Make _ _ _ _ v17 hv17) (.cons (.aggL (.cons .val (.cons .lst (.cons .lst (.cons .lst (.cons .lst .nil)))))) (.cons (.aggL (.cons .val (.cons .lst (.cons .lst (.cons .lst (.cons .lst .nil)))))) (.cons (.whole (by simp) (by simp) (by simp)) (.cons (.whole (by simp) (by simp) (by simp)) .nil)))) ?_
 simp [-guardE_b, -Is_at, -Is_at', -Ls_at, -Ls_at', unk, unA, unE, unT, unC, flat, eL, eI, allInts, eP_Cat, eP_Fn, Cat.cells, Fn.cells]
 repeat (with_reducible refine And.intro ?_ ?_; · first | assumption | omega | (simp; done) | (simp; omega) | simp_all)
 refine hK _ ?_
 clear hK K
 refine tn ?_
 refine w_weak (st' := ⟨[(2, .adr 0 0 0)], [(0, .mix 12 [[.val (.int .i64 v17.s.n), .own 1 0 v17.s.fr.length, .own 2 0 v17.s.to.length, .own 3 0 v17.s.id.length, .own 4 0 v17.s.cs.length, .val (.int .i64 v17.t.n), .own 5 0 v17.t.fr.length, .own 6 0 v17.t.to.length, .own 7 0 v17.t.id.length, .own 8 0 v17.t.cs.length, .own 9 0 v17.ob.length, .own 10 0 v17.ar.length]]), (1, .row 1 (Is v17.s.fr)), (2, .row 1 (Is v17.s.to)), (3, .row 1 (Is v17.s.id)), (4, .row 1 (Ls v17.s.cs)), (5, .row 1 (Is v17.t.fr)), (6, .row 1 (Is v17.t.to)), (7, .row 1 (Is v17.t.id)), (8, .row 1 (Ls v17.t.cs)), (9, .row 1 (Is v17.ob)), (10, .row 1 (Is v17.ar))], 11⟩) (Wk.r1 [(1, 0), (5, 1), (6, 2), (7, 3), (8, 4), (10, 5), (11, 6), (12, 7), (13, 8), (14, 9), (15, 10)] (by simp [hP, hhOk, back, Cat.cells, Fn.cells, IA, I1, LA, L1, BA, B1, EA, E1, E2, eB, eI, eL])) ?_
 refine w_ret ?_
 have hr := Option.some.inj h
 rw [← hr]
 refine ⟨_, (.cell tf_35 rfl rfl rfl (by simp) (by simp) .nil), ?_⟩
 refine ⟨(.agg rfl .nil), [.val (.int .i64 v17.s.n), .lst true 1 (Is v17.s.fr), .lst true 1 (Is v17.s.to), .lst true 1 (Is v17.s.id), .lst true 1 (Ls v17.s.cs), .val (.int .i64 v17.t.n), .lst true 1 (Is v17.t.fr), .lst true 1 (Is v17.t.to), .lst true 1 (Is v17.t.id), .lst true 1 (Ls v17.t.cs), .lst true 1 (Is v17.ob), .lst true 1 (Is v17.ar)], [1, 2, 3, 4, 5, 6, 7, 8, 9, 10], by simp [Cat.cells, Fn.cells, IA, I1, LA, L1, BA, B1, EA, E1, E2, eB, eI, eL], by simp, (UpL.refl _)⟩
end Go.Vc.T

set_option maxRecDepth 100000
set_option linter.unusedSimpArgs false
set_option linter.unusedVariables false
namespace Go.Vc.T
open Go Go.Vc Go.Proofs
theorem ix_thenL (f g : List Int) {j : Int} (h0 : 0 ≤ j) (h1 : j < f.length) : ix (thenL f g) j = ix g (ix f j) := by
 obtain ⟨i, rfl⟩ : ∃ i : Nat, j = i := ⟨j.toNat, by omega⟩
 have hi : i < f.length := by omega
 rw [← at_ix _ _ (show i < (thenL f g).length by simpa [thenL] using hi), ← at_ix _ _ hi]
 simp [thenL]
theorem ix_iota (n : Nat) {j : Int} (h0 : 0 ≤ j) (h1 : j < n) : ix (iota n) j = j := by
 obtain ⟨i, rfl⟩ : ∃ i : Nat, j = i := ⟨j.toNat, by omega⟩
 rw [← at_ix _ _ (show i < (iota n).length by simp [iota]; omega)]
 simp [iota]
theorem set_fill {α : Type} (xs : List α) (k : Nat) (v z : α) {i : Nat} (h : i = xs.length) : (xs ++ List.replicate (k + 1) z).set i v = (xs ++ [v]) ++ List.replicate k z := by
 subst h
 simp [List.replicate_succ]
theorem mem_bnd {f : List Int} {n : Int} (h : ∀ j : Nat, j < f.length → 0 ≤ ix f j ∧ ix f j < n) : ∀ y ∈ f, 0 ≤ y ∧ y < n := by
 intro y hy
 obtain ⟨i, hi, rfl⟩ := List.getElem_of_mem hy
 rw [at_ix _ _ hi]; exact h i hi
def selfF (c : Cat) : Fn := ⟨c, c, iota c.n.toNat, iota c.fr.length⟩
def thenF (f g : Fn) : Fn := ⟨f.s, g.t, thenL f.ob g.ob, thenL f.ar g.ar⟩
theorem Cat.Is.ok {c : Cat} (h : c.Is) : c.ok := h.1.size2.1
theorem Fn.Is.lob {f : Fn} (h : f.Is) : f.ob.length ≤ 8 := by have := h.lo; have := h.s.1.n8; omega
theorem Fn.Is.lar {f : Fn} (h : f.Is) : f.ar.length ≤ 40 := by have := h.la; have := h.s.1.m40; omega
theorem e_l06Make {c d : Cat} {ob ar : List Int} (hc : c.ok) (hd : d.ok) (ho : ob.length ≤ 1048576) (ha : ar.length ≤ 1048576) : s_s_l06Make c d ob ar = some ⟨c, d, ob, ar⟩ := by
 simp [s_s_l06Make, s_s_l02Own, s_s_l01Own, hc, hd, ho, ha]
theorem e_functor {c d : Cat} {ob ar : List Int} (hc : c.ok) (hd : d.ok) (ho : ob.length ≤ 1048576) (ha : ar.length ≤ 1048576) : s_i_functor c d ob ar = some ⟨c, d, ob, ar⟩ := by
 simp [s_i_functor, s_i_Category_copy, s_i_clone, hc, hd, ho, ha]
theorem e_Fcopy {f : Fn} (h : f.Is) : s_i_Functor_copy f = some f := by
 simp only [s_i_Functor_copy, e_functor h.s.ok h.t.ok (show f.ob.length ≤ 1048576 by have := h.lob; omega) (show f.ar.length ≤ 1048576 by have := h.lar; omega), Option.bind_some]
theorem e_numbers {n : Int} (h0 : 0 ≤ n) (h1 : n ≤ 1048576) : s_i_numbers n = some (iota n.toNat) := by
 unfold s_i_numbers
 rw [ass_pos (by omega)]
 simp only [List.length_replicate]
 refine acc_bind n.toNat (fun i : Nat => iota i ++ List.replicate (n.toNat - i) 0) (e := iota n.toNat) (by simp [iota]) (by omega) (fun i hi => ?_) (by simp) (by simp)
 obtain ⟨k, hk⟩ : ∃ k, n.toNat - i = k + 1 := ⟨n.toNat - i - 1, by omega⟩
 have hl : (iota i).length = i := by simp [iota]
 have hs := set_fill (iota i) k (i : Int) 0 (i := i) (by rw [hl])
 rw [iota_succ, hk, show n.toNat - (i + 1) = k by omega, ← hs]
 simp (disch := omega) [ass_pos, B64, hl]
 omega
theorem e_identity {c : Cat} (h : c.Is) : s_i_identity c = some (selfF c) := by
 have := h.1.n0
 have := h.1.n8
 have := h.1.m40
 simp (disch := (first | exact h.ok | (simp [iota]; omega) | omega)) only [s_i_identity, s_i_Category_arrows, e_numbers, e_functor, Option.bind_some]
 simp [selfF]
theorem e_l06Self {c : Cat} (h : c.Is) : s_s_l06Self c = some (selfF c) := by
 have n0 := h.1.n0
 have n8 := h.1.n8
 have m40 := h.1.m40
 unfold s_s_l06Self
 refine acc_bind c.n.toNat (fun i : Nat => iota i) (e := iota c.n.toNat) (by simp [iota]) (by omega) (fun i hi => ?_) (by simp; omega) ?_
 · have hl : (iota i).length = i := by simp [iota]
   simp (disch := omega) [ass_pos, B64, iota_succ, hl]
   omega
 refine acc_bind c.fr.length (fun i : Nat => iota i) (e := iota c.fr.length) (by simp [iota]) (by omega) (fun i hi => ?_) (by simp) ?_
 · have hl : (iota i).length = i := by simp [iota]
   simp (disch := omega) [ass_pos, B64, iota_succ, hl]
   omega
 rw [e_l06Make h.ok h.ok (by simp [iota]; omega) (by simp [iota]; omega)]
 rfl
theorem e_l06Then {f g : Fn} (hf : f.Is) (hg : g.Is) (h : f.t = g.s) : s_s_l06Then f g = some (thenF f g) := by
 have h1 := hf.lob
 have h2 := hf.lar
 have h3 : ∀ y ∈ f.ob, 0 ≤ y ∧ y < (g.ob.length : Int) := mem_bnd (by rw [hg.lo, ← h]; exact hf.ob)
 have h4 : ∀ y ∈ f.ar, 0 ≤ y ∧ y < (g.ar.length : Int) := mem_bnd (by rw [hg.la, ← h]; exact hf.ar)
 unfold s_s_l06Then s_s_l01Then
 rw [ass_pos (by omega), ass_pos h3, ass_pos (by omega), ass_pos h4]
 simp only [Option.bind_some]
 rw [e_l06Make hf.s.ok hg.t.ok (by simp [thenL]; omega) (by simp [thenL]; omega)]
 rfl
theorem e_Fthen {f g : Fn} (hf : f.Is) (hg : g.Is) (h : f.t = g.s) : s_i_Functor_then f g = some (thenF f g) := by
 have h1 := hf.lob
 have h2 := hf.lar
 have h3 : ∀ y ∈ f.ob, 0 ≤ y ∧ y < (g.ob.length : Int) := mem_bnd (by rw [hg.lo, ← h]; exact hf.ob)
 have h4 : ∀ y ∈ f.ar, 0 ≤ y ∧ y < (g.ar.length : Int) := mem_bnd (by rw [hg.la, ← h]; exact hf.ar)
 unfold s_i_Functor_then s_i_then
 rw [ass_pos (by omega), ass_pos h3, ass_pos (by omega), ass_pos h4]
 simp only [Option.bind_some]
 rw [e_functor hf.s.ok hg.t.ok (by simp [thenL]; omega) (by simp [thenL]; omega)]
 rfl
theorem self_is {c : Cat} (h : c.Is) : (selfF c).Is := by
 have n0 := h.1.n0
 have li := h.1.li
 refine ⟨h, h, by simp [selfF, iota]; omega, by simp [selfF, iota], fun j hj => ?_, fun j hj => ?_, fun a ha => ?_, fun x hx => ?_, fun a ha b hb e => ?_⟩
 · simp only [selfF, iota, List.length_map, List.length_range] at hj ⊢
   have := ix_iota c.n.toNat (j := j) (by omega) (by omega)
   simp only [iota] at this
   rw [this]; omega
 · simp only [selfF, iota, List.length_map, List.length_range] at hj ⊢
   have := ix_iota c.fr.length (j := j) (by omega) (by omega)
   simp only [iota] at this
   rw [this]; omega
 · simp only [selfF] at ha ⊢
   have hf := h.1.frn ha
   rw [ix_iota _ (by omega) (by omega), ix_iota _ (by omega) (by omega), ix_iota _ (by omega) (by omega)]
   exact ⟨rfl, rfl⟩
 · simp only [selfF] at hx ⊢
   have hf := h.1.idn hx
   rw [ix_iota _ (by omega) (by omega), ix_iota _ (by omega) (by omega)]
 simp only [selfF] at ha hb e ⊢
 have hc := h.1.cmp (f := a) (g := b) (by omega) (by omega) (by omega) (by omega) e
 rw [ix_iota _ (by omega) (by omega), ix_iota _ (by omega) (by omega), ix_iota _ (by omega) (by omega)]
theorem then_is {f g : Fn} (hf : f.Is) (hg : g.Is) (h : f.t = g.s) : (thenF f g).Is := by
 have lo := hf.lo
 have la := hf.la
 have lg := hg.lo
 have lb := hg.la
 have hg1 := hg.s.1
 rw [← h] at lg lb hg1
 have li := hg1.li
 have ls := hf.s.1.li
 refine ⟨hf.s, hg.t, by simpa [thenF, thenL] using lo, by simpa [thenF, thenL] using la, fun j hj => ?_, fun j hj => ?_, fun a ha => ?_, fun x hx => ?_, fun a ha b hb e => ?_⟩
 · simp only [thenF, thenL, List.length_map] at hj ⊢
   have := ix_thenL f.ob g.ob (j := j) (by omega) (by omega)
   simp only [thenL] at this
   rw [this]
   have hb := hf.ob j hj
   exact ix_bnd hg.ob (by omega) (by omega)
 · simp only [thenF, thenL, List.length_map] at hj ⊢
   have := ix_thenL f.ar g.ar (j := j) (by omega) (by omega)
   simp only [thenL] at this
   rw [this]
   have hb := hf.ar j hj
   exact ix_bnd hg.ar (by omega) (by omega)
 · simp only [thenF] at ha ⊢
   have hfr := hf.s.1.frn ha
   have hb := hf.ar a (by omega)
   have he := hf.ends a ha
   rw [ix_thenL _ _ (by omega) (by omega), ix_thenL _ _ (by omega) (by omega), ix_thenL _ _ (by omega) (by omega)]
   have q := hg.ends (ix f.ar a).toNat (by rw [← h]; omega)
   rw [Int.toNat_of_nonneg (by omega), ← h] at q
   rw [q.1, q.2, he.1, he.2]
   exact ⟨rfl, rfl⟩
 · simp only [thenF] at hx ⊢
   have hid := hf.s.1.idn hx
   have hb := hf.ob x (by omega)
   rw [ix_thenL _ _ (by omega) (by omega), ix_thenL _ _ (by omega) (by omega), hf.ids x hx]
   have q := hg.ids (ix f.ob x).toNat (by rw [← h]; omega)
   rw [Int.toNat_of_nonneg (by omega), ← h] at q
   exact q
 simp only [thenF] at ha hb e ⊢
 have hc := hf.s.1.cmp (f := a) (g := b) (by omega) (by omega) (by omega) (by omega) e
 have h1 := hf.ar a (by omega)
 have h2 := hf.ar b (by omega)
 have e1 := hf.ends a ha
 have e2 := hf.ends b hb
 rw [ix_thenL _ _ (by omega) (by omega), ix_thenL _ _ (by omega) (by omega), ix_thenL _ _ (by omega) (by omega), hf.comp a ha b hb e]
 have q := hg.comp (ix f.ar a).toNat (by rw [← h]; omega) (ix f.ar b).toNat (by rw [← h]; omega)
 rw [Int.toNat_of_nonneg (by omega), Int.toNat_of_nonneg (by omega), ← h] at q
 exact q (by rw [e1.2, e2.1, e])
end Go.Vc.T

set_option maxRecDepth 100000
set_option linter.unusedSimpArgs false
set_option linter.unusedVariables false
namespace Go.Vc.T
open Go Go.Vc Go.Proofs
noncomputable def s_i_monad (on_ : Fn) (unit_ : List Int) (join_ : List Int) : Option Mnd :=
 (s_i_Functor_copy on_).bind fun v1 =>
 (s_i_clone unit_).bind fun v2 =>
 (s_i_clone join_).bind fun v3 =>
 some (⟨v1, v2, v3⟩ : Mnd)
set_option maxHeartbeats 4000000 in
theorem w_i_monad (on_ : Fn) (unit_ : List Int) (join_ : List Int) (r : Mnd) (h : s_i_monad on_ unit_ join_ = some r) : Contract Try.prog 153 [.rptr (on_.cells true), .lst true 1 (Is unit_), .lst true 1 (Is join_)] (.agg (r.cells true)) := by
 refine contract_introG (rvs := [.cell 6 50]) (rs := [.agg (r.cells true)]) Try.func153 rfl rfl rfl rfl (by simp [Try.f153]) fun F hN hP => ?_
 unfold s_i_monad at h
 refine w_seq ?_
 refine w_run mo (by rw [hN]; decide) fun K hK => ?_
 simp [-guardE_b, -Is_at, -Is_at', -Ls_at, -Ls_at', eL, eI, allInts, eP_Fn, eP_Mnd, Fn.cells, Mnd.cells]
 repeat (with_reducible refine And.intro ?_ ?_; · first | assumption | omega | (simp; done) | (simp; omega) | simp_all)
 refine hK _ ?_
 clear hK K
 refine tn ?_
 refine w_weak (st' := ⟨[(0, .rptr (Fn.cells true on_)), (1, .lst true 1 (Is unit_)), (2, .lst true 1 (Is join_)), (6, .adr 0 0 0)], [(0, .mix 14 [[.val (.int .i64 0), .val (.slice none 0 0), .val (.slice none 0 0), .val (.slice none 0 0), .val (.slice none 0 0), .val (.int .i64 0), .val (.slice none 0 0), .val (.slice none 0 0), .val (.slice none 0 0), .val (.slice none 0 0), .val (.slice none 0 0), .val (.slice none 0 0), .val (.slice none 0 0), .val (.slice none 0 0)]])], 1⟩) (Wk.r1 [(0, 0)] (by simp [hP, hhOk, back, Fn.cells, Mnd.cells, IA, I1, LA, L1, BA, B1, EA, E1, E2, eB, eI, eL])) ?_
 refine w_seq ?_
 refine w_run mo (by rw [hN]; decide) fun K hK => ?_
 simp [-guardE_b, -Is_at, -Is_at', -Ls_at, -Ls_at', eL, eI, allInts, eP_Fn, eP_Mnd, Fn.cells, Mnd.cells]
 repeat (with_reducible refine And.intro ?_ ?_; · first | assumption | omega | (simp; done) | (simp; omega) | simp_all)
 replace h := bind_some h
 obtain ⟨v1, hv1, h⟩ := h
 refine callA_intro (w_i_Functor_copy _ v1 hv1) (.cons (.preT (by simp [Fn.cells])) .nil) ?_
 simp [-guardE_b, -Is_at, -Is_at', -Ls_at, -Ls_at', unk, unA, unE, unT, unC, flat, eL, eI, allInts, eP_Fn, eP_Mnd, Fn.cells, Mnd.cells]
 repeat (with_reducible refine And.intro ?_ ?_; · first | assumption | omega | (simp; done) | (simp; omega) | simp_all)
 replace h := bind_some h
 obtain ⟨v2, hv2, h⟩ := h
 refine callA_intro (w_i_clone _ v2 hv2) (.cons .lst .nil) ?_
 simp [-guardE_b, -Is_at, -Is_at', -Ls_at, -Ls_at', unk, unA, unE, unT, unC, flat, eL, eI, allInts, eP_Fn, eP_Mnd, Fn.cells, Mnd.cells]
 repeat (with_reducible refine And.intro ?_ ?_; · first | assumption | omega | (simp; done) | (simp; omega) | simp_all)
 replace h := bind_some h
 obtain ⟨v3, hv3, h⟩ := h
 refine callA_intro (w_i_clone _ v3 hv3) (.cons .lst .nil) ?_
 simp [-guardE_b, -Is_at, -Is_at', -Ls_at, -Ls_at', unk, unA, unE, unT, unC, flat, eL, eI, allInts, eP_Fn, eP_Mnd, Fn.cells, Mnd.cells]
 repeat (with_reducible refine And.intro ?_ ?_; · first | assumption | omega | (simp; done) | (simp; omega) | simp_all)
 refine hK _ ?_
 clear hK K
 refine tn ?_
 refine w_weak (st' := ⟨[(6, .adr 0 0 0)], [(0, .mix 14 [[.val (.int .i64 v1.s.n), .own 1 0 v1.s.fr.length, .own 2 0 v1.s.to.length, .own 3 0 v1.s.id.length, .own 4 0 v1.s.cs.length, .val (.int .i64 v1.t.n), .own 5 0 v1.t.fr.length, .own 6 0 v1.t.to.length, .own 7 0 v1.t.id.length, .own 8 0 v1.t.cs.length, .own 9 0 v1.ob.length, .own 10 0 v1.ar.length, .own 11 0 v2.length, .own 12 0 v3.length]]), (1, .row 1 (Is v1.s.fr)), (2, .row 1 (Is v1.s.to)), (3, .row 1 (Is v1.s.id)), (4, .row 1 (Ls v1.s.cs)), (5, .row 1 (Is v1.t.fr)), (6, .row 1 (Is v1.t.to)), (7, .row 1 (Is v1.t.id)), (8, .row 1 (Ls v1.t.cs)), (9, .row 1 (Is v1.ob)), (10, .row 1 (Is v1.ar)), (11, .row 1 (Is v2)), (12, .row 1 (Is v3))], 13⟩) (Wk.r1 [(0, 0), (2, 1), (3, 2), (4, 3), (5, 4), (7, 5), (8, 6), (9, 7), (10, 8), (11, 9), (12, 10), (13, 11), (14, 12)] (by simp [hP, hhOk, back, Fn.cells, Mnd.cells, IA, I1, LA, L1, BA, B1, EA, E1, E2, eB, eI, eL])) ?_
 refine w_ret ?_
 have hr := Option.some.inj h
 rw [← hr]
 refine ⟨_, (.cell tf_50 rfl rfl rfl (by simp) (by simp) .nil), ?_⟩
 refine ⟨(.agg rfl .nil), [.val (.int .i64 v1.s.n), .lst true 1 (Is v1.s.fr), .lst true 1 (Is v1.s.to), .lst true 1 (Is v1.s.id), .lst true 1 (Ls v1.s.cs), .val (.int .i64 v1.t.n), .lst true 1 (Is v1.t.fr), .lst true 1 (Is v1.t.to), .lst true 1 (Is v1.t.id), .lst true 1 (Ls v1.t.cs), .lst true 1 (Is v1.ob), .lst true 1 (Is v1.ar), .lst true 1 (Is v2), .lst true 1 (Is v3)], [1, 2, 3, 4, 5, 6, 7, 8, 9, 10, 11, 12], by simp [Fn.cells, Mnd.cells, IA, I1, LA, L1, BA, B1, EA, E1, E2, eB, eI, eL], by simp, (UpL.refl _)⟩
noncomputable def s_i_areFunctors (list_ : List Fn) : Option Bool :=
 (loopF (σ := Int) (ε := Unit ⊕ Bool) (fun s7 =>
   if s7 < (list_.length : Int) then
     ass (0 ≤ s7 ∧ s7 < (list_.length : Int)) <|
     (s_i_Functor_isFunctor (gx list_ s7)).bind fun v10 =>
     if ¬ (v10 = true) then
       some (Ctl.ret (Sum.inr false))
     else
       ass (B64 (s7 + 1)) <|
       some (Ctl.next (s7 + 1))
   else
     some (Ctl.ret (Sum.inl ()))) fuel 0).bind fun e1 =>
 match e1 with
 | .inl b1 =>
   some true
 | .inr p1 =>
   some p1
set_option maxHeartbeats 4000000 in
theorem w_i_areFunctors (list_ : List Fn) (r : Bool) (h : s_i_areFunctors list_ = some r) : Contract Try.prog 172 [.lst true 1 (Es eP_Fn list_)] (.val (.bool r)) := by
 refine contract_introG (rvs := [.tmp 2]) (rs := [.val (.bool r)]) Try.func172 rfl rfl rfl rfl (by simp [Try.f172]) fun F hN hP => ?_
 unfold s_i_areFunctors at h
 refine w_seq ?_
 refine w_run mo (by rw [hN]; decide) fun K hK => ?_
 simp [-guardE_b, -Is_at, -Is_at', -Ls_at, -Ls_at', eL, eI, allInts, eP_Fn, Fn.cells]
 repeat (with_reducible refine And.intro ?_ ?_; · first | assumption | omega | (simp; done) | (simp; omega) | simp_all)
 refine hK _ ?_
 clear hK K
 refine tn ?_
 refine w_weak (st' := ⟨[(0, .lst true 1 (Es eP_Fn list_))], [], 0⟩) (Wk.r1 [] (by simp [hP, hhOk, back, Fn.cells, IA, I1, LA, L1, BA, B1, EA, E1, E2, eB, eI, eL])) ?_
 refine w_seq ?_
 refine w_seq ?_
 refine w_run mo (by rw [hN]; decide) fun K hK => ?_
 simp [-guardE_b, -Is_at, -Is_at', -Ls_at, -Ls_at', eL, eI, allInts, eP_Fn, Fn.cells]
 repeat (with_reducible refine And.intro ?_ ?_; · first | assumption | omega | (simp; done) | (simp; omega) | simp_all)
 refine hK _ ?_
 clear hK K
 refine tn ?_
 refine w_weak (st' := ⟨[(5, .lst true 1 (Es eP_Fn list_)), (6, .val (.int .i64 (list_.length : Int))), (7, .val (.int .i64 0))], [], 0⟩) (Wk.r1 [] (by simp [hP, hhOk, back, Fn.cells, IA, I1, LA, L1, BA, B1, EA, E1, E2, eB, eI, eL])) ?_
 replace h := bind_some h
 obtain ⟨e1, h, h1⟩ := h
 refine w_joinT (fun b1 : Unit => ⟨[], [], 0⟩) (fun b1 => Sum.inl b1 = e1) ?_ ?_
 · refine w_block ?_
   refine w_loopF h (fun s7 : Int => ⟨[(5, .lst true 1 (Es eP_Fn list_)), (6, .val (.int .i64 (list_.length : Int))), (7, .val (.int .i64 s7))], [], 0⟩) (Wk.r1 [] (by simp [hP, hhOk, back, Fn.cells, IA, I1, LA, L1, BA, B1, EA, E1, E2, eB, eI, eL])) ?_
   clear h
   intro k7 s7 c7 h hk7
   refine w_seq ?_
   refine w_run mo (by rw [hN]; decide) fun K hK => ?_
   simp [-guardE_b, -Is_at, -Is_at', -Ls_at, -Ls_at', eL, eI, allInts, eP_Fn, Fn.cells]
   repeat (with_reducible refine And.intro ?_ ?_; · first | assumption | omega | (simp; done) | (simp; omega) | simp_all)
   refine hK _ ?_
   clear hK K
   refine tn ?_
   refine w_weak (st' := ⟨[(5, .lst true 1 (Es eP_Fn list_)), (6, .val (.int .i64 (list_.length : Int))), (7, .val (.int .i64 s7)), (8, .val (.bool (decide (s7 < (list_.length : Int)))))], [], 0⟩) (Wk.r1 [] (by simp [hP, hhOk, back, Fn.cells, IA, I1, LA, L1, BA, B1, EA, E1, E2, eB, eI, eL])) ?_
   refine w_seq ?_
   refine w_cond rfl (fun g => ?_) fun g => ?_
   · have g8 : s7 < (list_.length : Int) := by first | simpa using g | (simp at g; exact g) | (simp at g; omega)
     clear g
     replace h := if_l g8 h
     refine w_skip ?_
     refine tn ?_
     refine w_seq ?_
     refine w_block ?_
     refine w_seq ?_
     refine w_run mo (by rw [hN]; decide) fun K hK => ?_
     replace h := ass_some h
     obtain ⟨a9, h⟩ := h
     simp [-guardE_b, -Is_at, -Is_at', -Ls_at, -Ls_at', eL, eI, allInts, eP_Fn, Fn.cells, at_E (c := eP_Fn) a9]
     repeat (with_reducible refine And.intro ?_ ?_; · first | assumption | omega | (simp; done) | (simp; omega) | simp_all)
     refine hK _ ?_
     clear hK K
     refine tn ?_
     refine w_weak (st' := ⟨[(4, .rptr (Fn.cells true (gx list_ s7))), (5, .lst true 1 (Es eP_Fn list_)), (6, .val (.int .i64 (list_.length : Int))), (7, .val (.int .i64 s7))], [], 0⟩) (Wk.r1 [] (by simp [hP, hhOk, back, Fn.cells, IA, I1, LA, L1, BA, B1, EA, E1, E2, eB, eI, eL])) ?_
     refine w_seq ?_
     refine w_run mo (by rw [hN]; decide) fun K hK => ?_
     simp [-guardE_b, -Is_at, -Is_at', -Ls_at, -Ls_at', eL, eI, allInts, eP_Fn, Fn.cells]
     repeat (with_reducible refine And.intro ?_ ?_; · first | assumption | omega | (simp; done) | (simp; omega) | simp_all)
     replace h := bind_some h
     obtain ⟨v10, hv10, h⟩ := h
     refine callA_intro (w_i_Functor_isFunctor _ v10 hv10) (.cons (.preT (by simp [Fn.cells])) .nil) ?_
     simp [-guardE_b, -Is_at, -Is_at', -Ls_at, -Ls_at', unk, unA, unE, unT, unC, flat, eL, eI, allInts, eP_Fn, Fn.cells]
     repeat (with_reducible refine And.intro ?_ ?_; · first | assumption | omega | (simp; done) | (simp; omega) | simp_all)
     refine hK _ ?_
     clear hK K
     refine tn ?_
     refine w_weak (st' := ⟨[(5, .lst true 1 (Es eP_Fn list_)), (6, .val (.int .i64 (list_.length : Int))), (7, .val (.int .i64 s7)), (13, .val (.bool (!v10)))], [], 0⟩) (Wk.r1 [] (by simp [hP, hhOk, back, Fn.cells, IA, I1, LA, L1, BA, B1, EA, E1, E2, eB, eI, eL])) ?_
     refine w_cond rfl (fun g => ?_) fun g => ?_
     · have g11 : ¬ (v10 = true) := by first | simpa using g | (simp at g; exact g) | (simp at g; omega)
       clear g
       replace h := if_l g11 h
       refine w_seq ?_
       refine w_run mo (by rw [hN]; decide) fun K hK => ?_
       simp [-guardE_b, -Is_at, -Is_at', -Ls_at, -Ls_at', eL, eI, allInts, eP_Fn, Fn.cells]
       repeat (with_reducible refine And.intro ?_ ?_; · first | assumption | omega | (simp; done) | (simp; omega) | simp_all)
       refine hK _ ?_
       clear hK K
       refine tn ?_
       refine w_weak (st' := ⟨[(2, .val (.bool false))], [], 0⟩) (Wk.r1 [] (by simp [hP, hhOk, back, Fn.cells, IA, I1, LA, L1, BA, B1, EA, E1, E2, eB, eI, eL])) ?_
       refine w_ret ?_
       refine br ?_
       refine tr ?_
       refine lr ?_
       refine br ?_
       refine tr ?_
       cases h
       have q : _ = e1 := hk7
       have h := h1
       rw [← q] at h
       clear q
       try dsimp only at h
       have hr := Option.some.inj h
       rw [← hr]
       refine ⟨_, (.tmp .nil), ?_⟩
       refine ⟨(.one rfl rfl .nil), [.val (.bool false)], [], by simp [Fn.cells, IA, I1, LA, L1, BA, B1, EA, E1, E2, eB, eI, eL], by simp, (UpL.refl _)⟩
     have g11 : ¬ (¬ (v10 = true)) := by first | simpa using g | (simp at g; exact g) | (simp at g; omega)
     clear g
     replace h := if_r g11 h
     refine w_skip ?_
     refine bn ?_
     refine tn ?_
     refine w_run mo (by rw [hN]; decide) fun K hK => ?_
     replace h := ass_some h
     obtain ⟨a12, h⟩ := h
     simp [-guardE_b, -Is_at, -Is_at', -Ls_at, -Ls_at', eL, eI, allInts, eP_Fn, Fn.cells, wrap_id a12]
     repeat (with_reducible refine And.intro ?_ ?_; · first | assumption | omega | (simp; done) | (simp; omega) | simp_all)
     refine hK _ ?_
     clear hK K
     cases h
     exact rn (s' := s7 + 1) hk7 (Wk.r1 [] (by simp [hP, hhOk, back, Fn.cells, IA, I1, LA, L1, BA, B1, EA, E1, E2, eB, eI, eL]))
   have g8 : ¬ (s7 < (list_.length : Int)) := by first | simpa using g | (simp at g; exact g) | (simp at g; omega)
   clear g
   replace h := if_r g8 h
   refine w_exit ?_
   refine tx ?_
   refine lx ?_
   refine bh ?_
   cases h
   exact jn (b := ()) hk7 (Wk.r1 [] (by simp [hP, hhOk, back, Fn.cells, IA, I1, LA, L1, BA, B1, EA, E1, E2, eB, eI, eL]))
 intro b1 hb1
 have h := h1
 rw [← hb1] at h
 clear h1
 try dsimp only at h
 refine w_seq ?_
 refine w_run mo (by rw [hN]; decide) fun K hK => ?_
 simp [-guardE_b, -Is_at, -Is_at', -Ls_at, -Ls_at', eL, eI, allInts, eP_Fn, Fn.cells]
 repeat (with_reducible refine And.intro ?_ ?_; · first | assumption | omega | (simp; done) | (simp; omega) | simp_all)
 refine hK _ ?_
 clear hK K
 refine tn ?_
 refine w_weak (st' := ⟨[(2, .val (.bool true))], [], 0⟩) (Wk.r1 [] (by simp [hP, hhOk, back, Fn.cells, IA, I1, LA, L1, BA, B1, EA, E1, E2, eB, eI, eL])) ?_
 refine w_ret ?_
 have hr := Option.some.inj h
 rw [← hr]
 refine ⟨_, (.tmp .nil), ?_⟩
 refine ⟨(.one rfl rfl .nil), [.val (.bool true)], [], by simp [Fn.cells, IA, I1, LA, L1, BA, B1, EA, E1, E2, eB, eI, eL], by simp, (UpL.refl _)⟩
noncomputable def s_s_l16Twice (f_ : Fn) : Option Fn :=
 (s_s_l06Then f_ f_).bind fun v1 =>
 some v1
set_option maxHeartbeats 4000000 in
theorem w_s_l16Twice (f_ : Fn) (r : Fn) (h : s_s_l16Twice f_ = some r) : Contract Try.prog 175 [.agg (f_.cells true)] (.agg (r.cells true)) := by
 refine contract_introG (rvs := [.cell 2 35]) (rs := [.agg (r.cells true)]) Try.func175 rfl rfl rfl rfl (by simp [Try.f175]) fun F hN hP => ?_
 unfold s_s_l16Twice at h
 refine w_seq ?_
 refine w_run mo (by rw [hN]; decide) fun K hK => ?_
 simp [-guardE_b, -Is_at, -Is_at', -Ls_at, -Ls_at', eL, eI, allInts, eP_Fn, Fn.cells]
 repeat (with_reducible refine And.intro ?_ ?_; · first | assumption | omega | (simp; done) | (simp; omega) | simp_all)
 refine hK _ ?_
 clear hK K
 refine tn ?_
 refine w_weak (st' := ⟨[(1, .adr 0 0 0), (2, .adr 1 0 0)], [(0, .mix 12 [(Fn.cells true f_)]), (1, .mix 12 [[.val (.int .i64 0), .val (.slice none 0 0), .val (.slice none 0 0), .val (.slice none 0 0), .val (.slice none 0 0), .val (.int .i64 0), .val (.slice none 0 0), .val (.slice none 0 0), .val (.slice none 0 0), .val (.slice none 0 0), .val (.slice none 0 0), .val (.slice none 0 0)]])], 2⟩) (Wk.r1 [(0, 0), (1, 1)] (by simp [hP, hhOk, back, Fn.cells, IA, I1, LA, L1, BA, B1, EA, E1, E2, eB, eI, eL])) ?_
 refine w_seq ?_
 refine w_run mo (by rw [hN]; decide) fun K hK => ?_
 simp [-guardE_b, -Is_at, -Is_at', -Ls_at, -Ls_at', eL, eI, allInts, eP_Fn, Fn.cells]
 repeat (with_reducible refine And.intro ?_ ?_; · first | assumption | omega | (simp; done) | (simp; omega) | simp_all)
 replace h := bind_some h
 obtain ⟨v1, hv1, h⟩ := h
 refine callA_intro (w_s_l06Then _ _ v1 hv1) (.cons (.aggL (.cons .val (.cons .lst (.cons .lst (.cons .lst (.cons .lst (.cons .val (.cons .lst (.cons .lst (.cons .lst (.cons .lst (.cons .lst (.cons .lst .nil))))))))))))) (.cons (.aggL (.cons .val (.cons .lst (.cons .lst (.cons .lst (.cons .lst (.cons .val (.cons .lst (.cons .lst (.cons .lst (.cons .lst (.cons .lst (.cons .lst .nil))))))))))))) .nil)) ?_
 simp [-guardE_b, -Is_at, -Is_at', -Ls_at, -Ls_at', unk, unA, unE, unT, unC, flat, eL, eI, allInts, eP_Fn, Fn.cells]
 repeat (with_reducible refine And.intro ?_ ?_; · first | assumption | omega | (simp; done) | (simp; omega) | simp_all)
 refine hK _ ?_
 clear hK K
 refine tn ?_
 refine w_weak (st' := ⟨[(2, .adr 0 0 0)], [(0, .mix 12 [[.val (.int .i64 v1.s.n), .own 1 0 v1.s.fr.length, .own 2 0 v1.s.to.length, .own 3 0 v1.s.id.length, .own 4 0 v1.s.cs.length, .val (.int .i64 v1.t.n), .own 5 0 v1.t.fr.length, .own 6 0 v1.t.to.length, .own 7 0 v1.t.id.length, .own 8 0 v1.t.cs.length, .own 9 0 v1.ob.length, .own 10 0 v1.ar.length]]), (1, .row 1 (Is v1.s.fr)), (2, .row 1 (Is v1.s.to)), (3, .row 1 (Is v1.s.id)), (4, .row 1 (Ls v1.s.cs)), (5, .row 1 (Is v1.t.fr)), (6, .row 1 (Is v1.t.to)), (7, .row 1 (Is v1.t.id)), (8, .row 1 (Ls v1.t.cs)), (9, .row 1 (Is v1.ob)), (10, .row 1 (Is v1.ar))], 11⟩) (Wk.r1 [(1, 0), (3, 1), (4, 2), (5, 3), (6, 4), (8, 5), (9, 6), (10, 7), (11, 8), (12, 9), (13, 10)] (by simp [hP, hhOk, back, Fn.cells, IA, I1, LA, L1, BA, B1, EA, E1, E2, eB, eI, eL])) ?_
 refine w_ret ?_
 have hr := Option.some.inj h
 rw [← hr]
 refine ⟨_, (.cell tf_35 rfl rfl rfl (by simp) (by simp) .nil), ?_⟩
 refine ⟨(.agg rfl .nil), [.val (.int .i64 v1.s.n), .lst true 1 (Is v1.s.fr), .lst true 1 (Is v1.s.to), .lst true 1 (Is v1.s.id), .lst true 1 (Ls v1.s.cs), .val (.int .i64 v1.t.n), .lst true 1 (Is v1.t.fr), .lst true 1 (Is v1.t.to), .lst true 1 (Is v1.t.id), .lst true 1 (Ls v1.t.cs), .lst true 1 (Is v1.ob), .lst true 1 (Is v1.ar)], [1, 2, 3, 4, 5, 6, 7, 8, 9, 10], by simp [Fn.cells, IA, I1, LA, L1, BA, B1, EA, E1, E2, eB, eI, eL], by simp, (UpL.refl _)⟩
end Go.Vc.T

set_option maxRecDepth 100000
set_option linter.unusedSimpArgs false
set_option linter.unusedVariables false
namespace Go.Vc.T
open Go Go.Vc Go.Proofs
noncomputable def s_s_l16Is (m_ : Mnd) : Option Bool :=
 (
   (s_s_l06Is m_.f).bind fun v2 =>
   if ¬ (v2 = true) then
     some true
   else
     (s_s_l02Same m_.f.s m_.f.t).bind fun v4 =>
     some (!v4) : Option (Bool)).bind fun b1 =>
 if b1 = true then
   some false
 else
   (
     (s_s_l06Self m_.f.s).bind fun v7 =>
     (s_s_l15Natural v7 m_.f m_.u).bind fun v8 =>
     if ¬ (v8 = true) then
       some true
     else
       (s_s_l16Twice m_.f).bind fun v10 =>
       (s_s_l15Natural v10 m_.f m_.j).bind fun v11 =>
       some (!v11) : Option (Bool)).bind fun b6 =>
   if b6 = true then
     some false
   else
     (s_s_l16Laws m_.f m_.u m_.j).bind fun v13 =>
     some v13
set_option maxHeartbeats 4000000 in
theorem w_s_l16Is (m_ : Mnd) (r : Bool) (h : s_s_l16Is m_ = some r) : Contract Try.prog 81 [.agg (m_.cells true)] (.val (.bool r)) := by
 refine contract_introG (rvs := [.tmp 2]) (rs := [.val (.bool r)]) Try.func81 rfl rfl rfl rfl (by simp [Try.f81]) fun F hN hP => ?_
 unfold s_s_l16Is at h
 refine w_seq ?_
 refine w_run mo (by rw [hN]; decide) fun K hK => ?_
 simp [-guardE_b, -Is_at, -Is_at', -Ls_at, -Ls_at', eL, eI, allInts, eP_Cat, eP_Fn, eP_Mnd, Cat.cells, Fn.cells, Mnd.cells]
 repeat (with_reducible refine And.intro ?_ ?_; · first | assumption | omega | (simp; done) | (simp; omega) | simp_all)
 refine hK _ ?_
 clear hK K
 refine tn ?_
 refine w_weak (st' := ⟨[(1, .adr 0 0 0)], [(0, .mix 14 [(Mnd.cells true m_)])], 1⟩) (Wk.r1 [(0, 0)] (by simp [hP, hhOk, back, Cat.cells, Fn.cells, Mnd.cells, IA, I1, LA, L1, BA, B1, EA, E1, E2, eB, eI, eL])) ?_
 refine w_seq ?_
 refine w_run mo (by rw [hN]; decide) fun K hK => ?_
 simp [-guardE_b, -Is_at, -Is_at', -Ls_at, -Ls_at', eL, eI, allInts, eP_Cat, eP_Fn, eP_Mnd, Cat.cells, Fn.cells, Mnd.cells]
 repeat (with_reducible refine And.intro ?_ ?_; · first | assumption | omega | (simp; done) | (simp; omega) | simp_all)
 refine hK _ ?_
 clear hK K
 refine tn ?_
 refine w_weak (st' := ⟨[(1, .adr 0 0 0), (3, .adr 1 0 0)], [(0, .mix 14 [(Mnd.cells true m_)]), (1, .mix 12 [(Fn.cells true m_.f)])], 2⟩) (Wk.r1 [(0, 0), (1, 1)] (by simp [hP, hhOk, back, Cat.cells, Fn.cells, Mnd.cells, IA, I1, LA, L1, BA, B1, EA, E1, E2, eB, eI, eL])) ?_
 refine w_seq ?_
 refine w_seq ?_
 replace h := bind_some h
 obtain ⟨e1, h, h1⟩ := h
 refine w_joinT (fun b1 : Bool => ⟨[(1, .adr 0 0 0), (3, .adr 1 0 0), (16, .val (.bool b1))], [(0, .mix 14 [(Mnd.cells true m_)]), (1, .mix 12 [(Fn.cells true m_.f)])], 2⟩) (fun b1 => b1 = e1) ?_ ?_
 · refine w_run mo (by rw [hN]; decide) fun K hK => ?_
   simp [-guardE_b, -Is_at, -Is_at', -Ls_at, -Ls_at', eL, eI, allInts, eP_Cat, eP_Fn, eP_Mnd, Cat.cells, Fn.cells, Mnd.cells]
   repeat (with_reducible refine And.intro ?_ ?_; · first | assumption | omega | (simp; done) | (simp; omega) | simp_all)
   replace h := bind_some h
   obtain ⟨v2, hv2, h⟩ := h
   refine callA_intro (w_s_l06Is _ v2 hv2) (.cons (.aggL (.cons .val (.cons .lst (.cons .lst (.cons .lst (.cons .lst (.cons .val (.cons .lst (.cons .lst (.cons .lst (.cons .lst (.cons .lst (.cons .lst .nil))))))))))))) .nil) ?_
   simp [-guardE_b, -Is_at, -Is_at', -Ls_at, -Ls_at', unk, unA, unE, unT, unC, flat, eL, eI, allInts, eP_Cat, eP_Fn, eP_Mnd, Cat.cells, Fn.cells, Mnd.cells]
   repeat (with_reducible refine And.intro ?_ ?_; · first | assumption | omega | (simp; done) | (simp; omega) | simp_all)
   refine guard_intro (fun g => ?_) (fun g => ?_)
   · have g3 : ¬ (¬ (v2 = true)) := by first | simpa using g | (simp at g; exact g) | (simp at g; omega)
     clear g
     replace h := if_r g3 h
     simp [-guardE_b, -Is_at, -Is_at', -Ls_at, -Ls_at', eL, eI, allInts, eP_Cat, eP_Fn, eP_Mnd, Cat.cells, Fn.cells, Mnd.cells]
     repeat (with_reducible refine And.intro ?_ ?_; · first | assumption | omega | (simp; done) | (simp; omega) | simp_all)
     replace h := bind_some h
     obtain ⟨v4, hv4, h⟩ := h
     refine callA_intro (w_s_l02Same _ _ v4 hv4) (.cons (.aggL (.cons .val (.cons .lst (.cons .lst (.cons .lst (.cons .lst .nil)))))) (.cons (.aggL (.cons .val (.cons .lst (.cons .lst (.cons .lst (.cons .lst .nil)))))) .nil)) ?_
     simp [-guardE_b, -Is_at, -Is_at', -Ls_at, -Ls_at', unk, unA, unE, unT, unC, flat, eL, eI, allInts, eP_Cat, eP_Fn, eP_Mnd, Cat.cells, Fn.cells, Mnd.cells]
     repeat (with_reducible refine And.intro ?_ ?_; · first | assumption | omega | (simp; done) | (simp; omega) | simp_all)
     refine hK _ ?_
     exact jn (b := !v4) (Option.some.inj h) (Wk.r1 [(0, 0), (1, 1)] (by simp [hP, hhOk, back, Cat.cells, Fn.cells, Mnd.cells, IA, I1, LA, L1, BA, B1, EA, E1, E2, eB, eI, eL]))
   have g3 : ¬ (v2 = true) := by first | simpa using g | (simp at g; exact g) | (simp at g; omega)
   clear g
   replace h := if_l g3 h
   simp [-guardE_b, -Is_at, -Is_at', -Ls_at, -Ls_at', eL, eI, allInts, eP_Cat, eP_Fn, eP_Mnd, Cat.cells, Fn.cells, Mnd.cells]
   repeat (with_reducible refine And.intro ?_ ?_; · first | assumption | omega | (simp; done) | (simp; omega) | simp_all)
   refine hK _ ?_
   exact jn (b := true) (Option.some.inj h) (Wk.r1 [(0, 0), (1, 1)] (by simp [hP, hhOk, back, Cat.cells, Fn.cells, Mnd.cells, IA, I1, LA, L1, BA, B1, EA, E1, E2, eB, eI, eL]))
 intro b1 hb1
 have h := h1
 rw [← hb1] at h
 clear h1
 try dsimp only at h
 refine w_cond rfl (fun g => ?_) fun g => ?_
 · have g5 : b1 = true := by first | simpa using g | (simp at g; exact g) | (simp at g; omega)
   clear g
   replace h := if_l g5 h
   refine w_seq ?_
   refine w_run mo (by rw [hN]; decide) fun K hK => ?_
   simp [-guardE_b, -Is_at, -Is_at', -Ls_at, -Ls_at', eL, eI, allInts, eP_Cat, eP_Fn, eP_Mnd, Cat.cells, Fn.cells, Mnd.cells]
   repeat (with_reducible refine And.intro ?_ ?_; · first | assumption | omega | (simp; done) | (simp; omega) | simp_all)
   refine hK _ ?_
   clear hK K
   refine tn ?_
   refine w_weak (st' := ⟨[(2, .val (.bool false))], [], 0⟩) (Wk.r1 [] (by simp [hP, hhOk, back, Cat.cells, Fn.cells, Mnd.cells, IA, I1, LA, L1, BA, B1, EA, E1, E2, eB, eI, eL])) ?_
   refine w_ret ?_
   refine tr ?_
   have hr := Option.some.inj h
   rw [← hr]
   refine ⟨_, (.tmp .nil), ?_⟩
   refine ⟨(.one rfl rfl .nil), [.val (.bool false)], [], by simp [Cat.cells, Fn.cells, Mnd.cells, IA, I1, LA, L1, BA, B1, EA, E1, E2, eB, eI, eL], by simp, (UpL.refl _)⟩
 have g5 : ¬ (b1 = true) := by first | simpa using g | (simp at g; exact g) | (simp at g; omega)
 clear g
 replace h := if_r g5 h
 refine w_skip ?_
 refine tn ?_
 refine w_seq ?_
 refine w_seq ?_
 replace h := bind_some h
 obtain ⟨e6, h, h6⟩ := h
 refine w_joinT (fun b6 : Bool => ⟨[(1, .adr 0 0 0), (3, .adr 1 0 0), (33, .val (.bool b6))], [(0, .mix 14 [(Mnd.cells true m_)]), (1, .mix 12 [(Fn.cells true m_.f)])], 2⟩) (fun b6 => b6 = e6) ?_ ?_
 · refine w_run mo (by rw [hN]; decide) fun K hK => ?_
   simp [-guardE_b, -Is_at, -Is_at', -Ls_at, -Ls_at', eL, eI, allInts, eP_Cat, eP_Fn, eP_Mnd, Cat.cells, Fn.cells, Mnd.cells]
   repeat (with_reducible refine And.intro ?_ ?_; · first | assumption | omega | (simp; done) | (simp; omega) | simp_all)
   replace h := bind_some h
   obtain ⟨v7, hv7, h⟩ := h
   refine callA_intro (w_s_l06Self _ v7 hv7) (.cons (.aggL (.cons .val (.cons .lst (.cons .lst (.cons .lst (.cons .lst .nil)))))) .nil) ?_
   simp [-guardE_b, -Is_at, -Is_at', -Ls_at, -Ls_at', unk, unA, unE, unT, unC, flat, eL, eI, allInts, eP_Cat, eP_Fn, eP_Mnd, Cat.cells, Fn.cells, Mnd.cells]
   repeat (with_reducible refine And.intro ?_ ?_; · first | assumption | omega | (simp; done) | (simp; omega) | simp_all)
   replace h := bind_some h
   obtain ⟨v8, hv8, h⟩ := h
   refine callA_intro (w_s_l15Natural _ _ _ v8 hv8) (.cons (.aggL (.cons .val (.cons (.whole (by simp) (by simp) (by simp)) (.cons (.whole (by simp) (by simp) (by simp)) (.cons (.whole (by simp) (by simp) (by simp)) (.cons (.whole (by simp) (by simp) (by simp)) (.cons .val (.cons (.whole (by simp) (by simp) (by simp)) (.cons (.whole (by simp) (by simp) (by simp)) (.cons (.whole (by simp) (by simp) (by simp)) (.cons (.whole (by simp) (by simp) (by simp)) (.cons (.whole (by simp) (by simp) (by simp)) (.cons (.whole (by simp) (by simp) (by simp)) .nil))))))))))))) (.cons (.aggL (.cons .val (.cons .lst (.cons .lst (.cons .lst (.cons .lst (.cons .val (.cons .lst (.cons .lst (.cons .lst (.cons .lst (.cons .lst (.cons .lst .nil))))))))))))) (.cons .lst .nil))) ?_
   simp [-guardE_b, -Is_at, -Is_at', -Ls_at, -Ls_at', unk, unA, unE, unT, unC, flat, eL, eI, allInts, eP_Cat, eP_Fn, eP_Mnd, Cat.cells, Fn.cells, Mnd.cells]
   repeat (with_reducible refine And.intro ?_ ?_; · first | assumption | omega | (simp; done) | (simp; omega) | simp_all)
   refine guard_intro (fun g => ?_) (fun g => ?_)
   · have g9 : ¬ (¬ (v8 = true)) := by first | simpa using g | (simp at g; exact g) | (simp at g; omega)
     clear g
     replace h := if_r g9 h
     simp [-guardE_b, -Is_at, -Is_at', -Ls_at, -Ls_at', eL, eI, allInts, eP_Cat, eP_Fn, eP_Mnd, Cat.cells, Fn.cells, Mnd.cells]
     repeat (with_reducible refine And.intro ?_ ?_; · first | assumption | omega | (simp; done) | (simp; omega) | simp_all)
     replace h := bind_some h
     obtain ⟨v10, hv10, h⟩ := h
     refine callA_intro (w_s_l16Twice _ v10 hv10) (.cons (.aggL (.cons .val (.cons .lst (.cons .lst (.cons .lst (.cons .lst (.cons .val (.cons .lst (.cons .lst (.cons .lst (.cons .lst (.cons .lst (.cons .lst .nil))))))))))))) .nil) ?_
     simp [-guardE_b, -Is_at, -Is_at', -Ls_at, -Ls_at', unk, unA, unE, unT, unC, flat, eL, eI, allInts, eP_Cat, eP_Fn, eP_Mnd, Cat.cells, Fn.cells, Mnd.cells]
     repeat (with_reducible refine And.intro ?_ ?_; · first | assumption | omega | (simp; done) | (simp; omega) | simp_all)
     replace h := bind_some h
     obtain ⟨v11, hv11, h⟩ := h
     refine callA_intro (w_s_l15Natural _ _ _ v11 hv11) (.cons (.aggL (.cons .val (.cons (.whole (by simp) (by simp) (by simp)) (.cons (.whole (by simp) (by simp) (by simp)) (.cons (.whole (by simp) (by simp) (by simp)) (.cons (.whole (by simp) (by simp) (by simp)) (.cons .val (.cons (.whole (by simp) (by simp) (by simp)) (.cons (.whole (by simp) (by simp) (by simp)) (.cons (.whole (by simp) (by simp) (by simp)) (.cons (.whole (by simp) (by simp) (by simp)) (.cons (.whole (by simp) (by simp) (by simp)) (.cons (.whole (by simp) (by simp) (by simp)) .nil))))))))))))) (.cons (.aggL (.cons .val (.cons .lst (.cons .lst (.cons .lst (.cons .lst (.cons .val (.cons .lst (.cons .lst (.cons .lst (.cons .lst (.cons .lst (.cons .lst .nil))))))))))))) (.cons .lst .nil))) ?_
     simp [-guardE_b, -Is_at, -Is_at', -Ls_at, -Ls_at', unk, unA, unE, unT, unC, flat, eL, eI, allInts, eP_Cat, eP_Fn, eP_Mnd, Cat.cells, Fn.cells, Mnd.cells]
     repeat (with_reducible refine And.intro ?_ ?_; · first | assumption | omega | (simp; done) | (simp; omega) | simp_all)
     refine hK _ ?_
     exact jn (b := !v11) (Option.some.inj h) (Wk.r1 [(0, 0), (1, 1)] (by simp [hP, hhOk, back, Cat.cells, Fn.cells, Mnd.cells, IA, I1, LA, L1, BA, B1, EA, E1, E2, eB, eI, eL]))
   have g9 : ¬ (v8 = true) := by first | simpa using g | (simp at g; exact g) | (simp at g; omega)
   clear g
   replace h := if_l g9 h
   simp [-guardE_b, -Is_at, -Is_at', -Ls_at, -Ls_at', eL, eI, allInts, eP_Cat, eP_Fn, eP_Mnd, Cat.cells, Fn.cells, Mnd.cells]
   repeat (with_reducible refine And.intro ?_ ?_; · first | assumption | omega | (simp; done) | (simp; omega) | simp_all)
   refine hK _ ?_
   exact jn (b := true) (Option.some.inj h) (Wk.r1 [(0, 0), (1, 1)] (by simp [hP, hhOk, back, Cat.cells, Fn.cells, Mnd.cells, IA, I1, LA, L1, BA, B1, EA, E1, E2, eB, eI, eL]))
 intro b6 hb6
 have h := h6
 rw [← hb6] at h
 clear h6
 try dsimp only at h
 refine w_cond rfl (fun g => ?_) fun g => ?_
 · have g12 : b6 = true := by first | simpa using g | (simp at g; exact g) | (simp at g; omega)
   clear g
   replace h := if_l g12 h
   refine w_seq ?_
   refine w_run mo (by rw [hN]; decide) fun K hK => ?_
   simp [-guardE_b, -Is_at, -Is_at', -Ls_at, -Ls_at', eL, eI, allInts, eP_Cat, eP_Fn, eP_Mnd, Cat.cells, Fn.cells, Mnd.cells]
   repeat (with_reducible refine And.intro ?_ ?_; · first | assumption | omega | (simp; done) | (simp; omega) | simp_all)
   refine hK _ ?_
   clear hK K
   refine tn ?_
   refine w_weak (st' := ⟨[(2, .val (.bool false))], [], 0⟩) (Wk.r1 [] (by simp [hP, hhOk, back, Cat.cells, Fn.cells, Mnd.cells, IA, I1, LA, L1, BA, B1, EA, E1, E2, eB, eI, eL])) ?_
   refine w_ret ?_
   refine tr ?_
   have hr := Option.some.inj h
   rw [← hr]
   refine ⟨_, (.tmp .nil), ?_⟩
   refine ⟨(.one rfl rfl .nil), [.val (.bool false)], [], by simp [Cat.cells, Fn.cells, Mnd.cells, IA, I1, LA, L1, BA, B1, EA, E1, E2, eB, eI, eL], by simp, (UpL.refl _)⟩
 have g12 : ¬ (b6 = true) := by first | simpa using g | (simp at g; exact g) | (simp at g; omega)
 clear g
 replace h := if_r g12 h
 refine w_skip ?_
 refine tn ?_
 refine w_seq ?_
 refine w_run mo (by rw [hN]; decide) fun K hK => ?_
 simp [-guardE_b, -Is_at, -Is_at', -Ls_at, -Ls_at', eL, eI, allInts, eP_Cat, eP_Fn, eP_Mnd, Cat.cells, Fn.cells, Mnd.cells]
 repeat (with_reducible refine And.intro ?_ ?_; · first | assumption | omega | (simp; done) | (simp; omega) | simp_all)
 replace h := bind_some h
 obtain ⟨v13, hv13, h⟩ := h
 refine callA_intro (w_s_l16Laws _ _ _ v13 hv13) (.cons (.aggL (.cons .val (.cons .lst (.cons .lst (.cons .lst (.cons .lst (.cons .val (.cons .lst (.cons .lst (.cons .lst (.cons .lst (.cons .lst (.cons .lst .nil))))))))))))) (.cons .lst (.cons .lst .nil))) ?_
 simp [-guardE_b, -Is_at, -Is_at', -Ls_at, -Ls_at', unk, unA, unE, unT, unC, flat, eL, eI, allInts, eP_Cat, eP_Fn, eP_Mnd, Cat.cells, Fn.cells, Mnd.cells]
 repeat (with_reducible refine And.intro ?_ ?_; · first | assumption | omega | (simp; done) | (simp; omega) | simp_all)
 refine hK _ ?_
 clear hK K
 refine tn ?_
 refine w_weak (st' := ⟨[(2, .val (.bool v13))], [], 0⟩) (Wk.r1 [] (by simp [hP, hhOk, back, Cat.cells, Fn.cells, Mnd.cells, IA, I1, LA, L1, BA, B1, EA, E1, E2, eB, eI, eL])) ?_
 refine w_ret ?_
 have hr := Option.some.inj h
 rw [← hr]
 refine ⟨_, (.tmp .nil), ?_⟩
 refine ⟨(.one rfl rfl .nil), [.val (.bool v13)], [], by simp [Cat.cells, Fn.cells, Mnd.cells, IA, I1, LA, L1, BA, B1, EA, E1, E2, eB, eI, eL], by simp, (UpL.refl _)⟩
end Go.Vc.T

set_option maxRecDepth 100000
set_option linter.unusedSimpArgs false
set_option linter.unusedVariables false
namespace Go.Vc.T
open Go Go.Vc Go.Proofs
noncomputable def s_i_Transformation_isShape (t_ : Tra) : Option Bool :=
 (
   (s_i_areFunctors [t_.s, t_.t]).bind fun v2 =>
   if ¬ (v2 = true) then
     some true
   else
     (s_i_parallelFunctors t_.s t_.t).bind fun v4 =>
     if ¬ (v4 = true) then
       some true
     else
       if ¬ ((t_.p.length : Int) = t_.s.s.n) then
         some true
       else
         (s_i_Category_arrows t_.s.t).bind fun v7 =>
         (s_i_within t_.p v7).bind fun v8 =>
         some (!v8) : Option (Bool)).bind fun b1 =>
 if b1 = true then
   some false
 else
   (loopF (σ := Int) (ε := Unit ⊕ Bool) (fun s18 =>
     if s18 < (t_.p.length : Int) then
       ass (0 ≤ s18 ∧ s18 < (t_.p.length : Int)) <|
       (s_i_Category_ends t_.s.t (ix t_.p s18)).bind fun v21 =>
       ass (0 ≤ s18 ∧ s18 < (t_.s.ob.length : Int)) <|
       ass (0 ≤ s18 ∧ s18 < (t_.t.ob.length : Int)) <|
       if ¬ (v21.a = ix t_.s.ob s18 ∧ v21.b = ix t_.t.ob s18) then
         some (Ctl.ret (Sum.inr false))
       else
         ass (B64 (s18 + 1)) <|
         some (Ctl.next (s18 + 1))
     else
       some (Ctl.ret (Sum.inl ()))) fuel 0).bind fun e10 =>
   match e10 with
   | .inl b10 =>
     some true
   | .inr p10 =>
     some p10
set_option maxHeartbeats 4000000 in
theorem w_i_Transformation_isShape (t_ : Tra) (r : Bool) (h : s_i_Transformation_isShape t_ = some r) : Contract Try.prog 184 [.rptr (t_.cells true)] (.val (.bool r)) := by
 refine contract_introG (rvs := [.tmp 2]) (rs := [.val (.bool r)]) Try.func184 rfl rfl rfl rfl (by simp [Try.f184]) fun F hN hP => ?_
 unfold s_i_Transformation_isShape at h
 refine w_seq ?_
 refine w_run mo (by rw [hN]; decide) fun K hK => ?_
 simp [-guardE_b, -Is_at, -Is_at', -Ls_at, -Ls_at', eL, eI, allInts, eP_Cat, eP_Ends, eP_Fn, eP_Tra, Cat.cells, Ends.cells, Fn.cells, Tra.cells]
 repeat (with_reducible refine And.intro ?_ ?_; · first | assumption | omega | (simp; done) | (simp; omega) | simp_all)
 refine hK _ ?_
 clear hK K
 refine tn ?_
 refine w_weak (st' := ⟨[(0, .rptr (Tra.cells true t_))], [], 0⟩) (Wk.r1 [] (by simp [hP, hhOk, back, Cat.cells, Ends.cells, Fn.cells, Tra.cells, IA, I1, LA, L1, BA, B1, EA, E1, E2, eB, eI, eL])) ?_
 refine w_seq ?_
 refine w_run mo (by rw [hN]; decide) fun K hK => ?_
 simp [-guardE_b, -Is_at, -Is_at', -Ls_at, -Ls_at', eL, eI, allInts, eP_Cat, eP_Ends, eP_Fn, eP_Tra, Cat.cells, Ends.cells, Fn.cells, Tra.cells]
 repeat (with_reducible refine And.intro ?_ ?_; · first | assumption | omega | (simp; done) | (simp; omega) | simp_all)
 refine hK _ ?_
 clear hK K
 refine tn ?_
 refine w_weak (st' := ⟨[(0, .rptr (Tra.cells true t_)), (3, .rptr (Tra.cells true t_)), (4, .rptr [.val (.int .i64 t_.t.s.n), .lst true 1 (Is t_.t.s.fr), .lst true 1 (Is t_.t.s.to), .lst true 1 (Is t_.t.s.id), .lst true 1 (Ls t_.t.s.cs), .val (.int .i64 t_.t.t.n), .lst true 1 (Is t_.t.t.fr), .lst true 1 (Is t_.t.t.to), .lst true 1 (Is t_.t.t.id), .lst true 1 (Ls t_.t.t.cs), .lst true 1 (Is t_.t.ob), .lst true 1 (Is t_.t.ar), .lst true 1 (Is t_.p)])], [], 0⟩) (Wk.r1 [] (by simp [hP, hhOk, back, Cat.cells, Ends.cells, Fn.cells, Tra.cells, IA, I1, LA, L1, BA, B1, EA, E1, E2, eB, eI, eL])) ?_
 refine w_seq ?_
 refine w_seq ?_
 replace h := bind_some h
 obtain ⟨e1, h, h1⟩ := h
 refine w_joinT (fun b1 : Bool => ⟨[(0, .rptr (Tra.cells true t_)), (3, .rptr (Tra.cells true t_)), (4, .rptr [.val (.int .i64 t_.t.s.n), .lst true 1 (Is t_.t.s.fr), .lst true 1 (Is t_.t.s.to), .lst true 1 (Is t_.t.s.id), .lst true 1 (Ls t_.t.s.cs), .val (.int .i64 t_.t.t.n), .lst true 1 (Is t_.t.t.fr), .lst true 1 (Is t_.t.t.to), .lst true 1 (Is t_.t.t.id), .lst true 1 (Ls t_.t.t.cs), .lst true 1 (Is t_.t.ob), .lst true 1 (Is t_.t.ar), .lst true 1 (Is t_.p)]), (48, .val (.bool b1))], [], 0⟩) (fun b1 => b1 = e1) ?_ ?_
 · refine w_run mo (by rw [hN]; decide) fun K hK => ?_
   simp [-guardE_b, -Is_at, -Is_at', -Ls_at, -Ls_at', eL, eI, allInts, eP_Cat, eP_Ends, eP_Fn, eP_Tra, Cat.cells, Ends.cells, Fn.cells, Tra.cells]
   repeat (with_reducible refine And.intro ?_ ?_; · first | assumption | omega | (simp; done) | (simp; omega) | simp_all)
   replace h := bind_some h
   obtain ⟨v2, hv2, h⟩ := h
   refine callA_intro (w_i_areFunctors _ v2 hv2) (.cons (.lits (es := _) rfl (.cons rfl (.cons (.preT (by simp [Fn.cells, Tra.cells])) .nil) (.cons rfl (.cons (.preT (by simp [Fn.cells, Tra.cells])) .nil) .nil)) rfl) .nil) ?_
   simp [-guardE_b, -Is_at, -Is_at', -Ls_at, -Ls_at', unk, unA, unE, unT, unC, flat, eL, eI, allInts, eP_Cat, eP_Ends, eP_Fn, eP_Tra, Cat.cells, Ends.cells, Fn.cells, Tra.cells]
   repeat (with_reducible refine And.intro ?_ ?_; · first | assumption | omega | (simp; done) | (simp; omega) | simp_all)
   refine guard_intro (fun g => ?_) (fun g => ?_)
   · have g3 : ¬ (¬ (v2 = true)) := by first | simpa using g | (simp at g; exact g) | (simp at g; omega)
     clear g
     replace h := if_r g3 h
     simp [-guardE_b, -Is_at, -Is_at', -Ls_at, -Ls_at', eL, eI, allInts, eP_Cat, eP_Ends, eP_Fn, eP_Tra, Cat.cells, Ends.cells, Fn.cells, Tra.cells]
     repeat (with_reducible refine And.intro ?_ ?_; · first | assumption | omega | (simp; done) | (simp; omega) | simp_all)
     replace h := bind_some h
     obtain ⟨v4, hv4, h⟩ := h
     refine callA_intro (w_i_parallelFunctors _ _ v4 hv4) (.cons (.preT (by simp [Fn.cells, Tra.cells])) (.cons (.preT (by simp [Fn.cells, Tra.cells])) .nil)) ?_
     simp [-guardE_b, -Is_at, -Is_at', -Ls_at, -Ls_at', unk, unA, unE, unT, unC, flat, eL, eI, allInts, eP_Cat, eP_Ends, eP_Fn, eP_Tra, Cat.cells, Ends.cells, Fn.cells, Tra.cells]
     repeat (with_reducible refine And.intro ?_ ?_; · first | assumption | omega | (simp; done) | (simp; omega) | simp_all)
     refine guard_intro (fun g => ?_) (fun g => ?_)
     · have g5 : ¬ (¬ (v4 = true)) := by first | simpa using g | (simp at g; exact g) | (simp at g; omega)
       clear g
       replace h := if_r g5 h
       simp [-guardE_b, -Is_at, -Is_at', -Ls_at, -Ls_at', eL, eI, allInts, eP_Cat, eP_Ends, eP_Fn, eP_Tra, Cat.cells, Ends.cells, Fn.cells, Tra.cells]
       repeat (with_reducible refine And.intro ?_ ?_; · first | assumption | omega | (simp; done) | (simp; omega) | simp_all)
       refine guard_intro (fun g => ?_) (fun g => ?_)
       · have g6 : ¬ (¬ ((t_.p.length : Int) = t_.s.s.n)) := by first | simpa using g | (simp at g; exact g) | (simp at g; omega)
         clear g
         replace h := if_r g6 h
         simp [-guardE_b, -Is_at, -Is_at', -Ls_at, -Ls_at', eL, eI, allInts, eP_Cat, eP_Ends, eP_Fn, eP_Tra, Cat.cells, Ends.cells, Fn.cells, Tra.cells]
         repeat (with_reducible refine And.intro ?_ ?_; · first | assumption | omega | (simp; done) | (simp; omega) | simp_all)
         replace h := bind_some h
         obtain ⟨v7, hv7, h⟩ := h
         refine callA_intro (w_i_Category_arrows _ v7 hv7) (.cons (.preT (by simp [Cat.cells, Fn.cells, Tra.cells])) .nil) ?_
         simp [-guardE_b, -Is_at, -Is_at', -Ls_at, -Ls_at', unk, unA, unE, unT, unC, flat, eL, eI, allInts, eP_Cat, eP_Ends, eP_Fn, eP_Tra, Cat.cells, Ends.cells, Fn.cells, Tra.cells]
         repeat (with_reducible refine And.intro ?_ ?_; · first | assumption | omega | (simp; done) | (simp; omega) | simp_all)
         replace h := bind_some h
         obtain ⟨v8, hv8, h⟩ := h
         refine callA_intro (w_i_within _ _ v8 hv8) (.cons .lst (.cons .val .nil)) ?_
         simp [-guardE_b, -Is_at, -Is_at', -Ls_at, -Ls_at', unk, unA, unE, unT, unC, flat, eL, eI, allInts, eP_Cat, eP_Ends, eP_Fn, eP_Tra, Cat.cells, Ends.cells, Fn.cells, Tra.cells]
         repeat (with_reducible refine And.intro ?_ ?_; · first | assumption | omega | (simp; done) | (simp; omega) | simp_all)
         refine hK _ ?_
         exact jn (b := !v8) (Option.some.inj h) (Wk.r1 [] (by simp [hP, hhOk, back, Cat.cells, Ends.cells, Fn.cells, Tra.cells, IA, I1, LA, L1, BA, B1, EA, E1, E2, eB, eI, eL]))
       have g6 : ¬ ((t_.p.length : Int) = t_.s.s.n) := by first | simpa using g | (simp at g; exact g) | (simp at g; omega)
       clear g
       replace h := if_l g6 h
       simp [-guardE_b, -Is_at, -Is_at', -Ls_at, -Ls_at', eL, eI, allInts, eP_Cat, eP_Ends, eP_Fn, eP_Tra, Cat.cells, Ends.cells, Fn.cells, Tra.cells]
       repeat (with_reducible refine And.intro ?_ ?_; · first | assumption | omega | (simp; done) | (simp; omega) | simp_all)
       refine hK _ ?_
       exact jn (b := true) (Option.some.inj h) (Wk.r1 [] (by simp [hP, hhOk, back, Cat.cells, Ends.cells, Fn.cells, Tra.cells, IA, I1, LA, L1, BA, B1, EA, E1, E2, eB, eI, eL]))
     have g5 : ¬ (v4 = true) := by first | simpa using g | (simp at g; exact g) | (simp at g; omega)
     clear g
     replace h := if_l g5 h
     simp [-guardE_b, -Is_at, -Is_at', -Ls_at, -Ls_at', eL, eI, allInts, eP_Cat, eP_Ends, eP_Fn, eP_Tra, Cat.cells, Ends.cells, Fn.cells, Tra.cells]
     repeat (with_reducible refine And.intro ?_ ?_; · first | assumption | omega | (simp; done) | (simp; omega) | simp_all)
     refine hK _ ?_
     exact jn (b := true) (Option.some.inj h) (Wk.r1 [] (by simp [hP, hhOk, back, Cat.cells, Ends.cells, Fn.cells, Tra.cells, IA, I1, LA, L1, BA, B1, EA, E1, E2, eB, eI, eL]))
   have g3 : ¬ (v2 = true) := by first | simpa using g | (simp at g; exact g) | (simp at g; omega)
   clear g
   replace h := if_l g3 h
   simp [-guardE_b, -Is_at, -Is_at', -Ls_at, -Ls_at', eL, eI, allInts, eP_Cat, eP_Ends, eP_Fn, eP_Tra, Cat.cells, Ends.cells, Fn.cells, Tra.cells]
   repeat (with_reducible refine And.intro ?_ ?_; · first | assumption | omega | (simp; done) | (simp; omega) | simp_all)
   refine hK _ ?_
   exact jn (b := true) (Option.some.inj h) (Wk.r1 [] (by simp [hP, hhOk, back, Cat.cells, Ends.cells, Fn.cells, Tra.cells, IA, I1, LA, L1, BA, B1, EA, E1, E2, eB, eI, eL]))
 intro b1 hb1
 have h := h1
 rw [← hb1] at h
 clear h1
 try dsimp only at h
 refine w_cond rfl (fun g => ?_) fun g => ?_
 · have g9 : b1 = true := by first | simpa using g | (simp at g; exact g) | (simp at g; omega)
   clear g
   replace h := if_l g9 h
   refine w_seq ?_
   refine w_run mo (by rw [hN]; decide) fun K hK => ?_
   simp [-guardE_b, -Is_at, -Is_at', -Ls_at, -Ls_at', eL, eI, allInts, eP_Cat, eP_Ends, eP_Fn, eP_Tra, Cat.cells, Ends.cells, Fn.cells, Tra.cells]
   repeat (with_reducible refine And.intro ?_ ?_; · first | assumption | omega | (simp; done) | (simp; omega) | simp_all)
   refine hK _ ?_
   clear hK K
   refine tn ?_
   refine w_weak (st' := ⟨[(2, .val (.bool false))], [], 0⟩) (Wk.r1 [] (by simp [hP, hhOk, back, Cat.cells, Ends.cells, Fn.cells, Tra.cells, IA, I1, LA, L1, BA, B1, EA, E1, E2, eB, eI, eL])) ?_
   refine w_ret ?_
   refine tr ?_
   have hr := Option.some.inj h
   rw [← hr]
   refine ⟨_, (.tmp .nil), ?_⟩
   refine ⟨(.one rfl rfl .nil), [.val (.bool false)], [], by simp [Cat.cells, Ends.cells, Fn.cells, Tra.cells, IA, I1, LA, L1, BA, B1, EA, E1, E2, eB, eI, eL], by simp, (UpL.refl _)⟩
 have g9 : ¬ (b1 = true) := by first | simpa using g | (simp at g; exact g) | (simp at g; omega)
 clear g
 replace h := if_r g9 h
 refine w_skip ?_
 refine tn ?_
 refine w_seq ?_
 refine w_seq ?_
 refine w_run mo (by rw [hN]; decide) fun K hK => ?_
 simp [-guardE_b, -Is_at, -Is_at', -Ls_at, -Ls_at', eL, eI, allInts, eP_Cat, eP_Ends, eP_Fn, eP_Tra, Cat.cells, Ends.cells, Fn.cells, Tra.cells]
 repeat (with_reducible refine And.intro ?_ ?_; · first | assumption | omega | (simp; done) | (simp; omega) | simp_all)
 refine hK _ ?_
 clear hK K
 refine tn ?_
 refine w_weak (st' := ⟨[(3, .rptr (Tra.cells true t_)), (4, .rptr [.val (.int .i64 t_.t.s.n), .lst true 1 (Is t_.t.s.fr), .lst true 1 (Is t_.t.s.to), .lst true 1 (Is t_.t.s.id), .lst true 1 (Ls t_.t.s.cs), .val (.int .i64 t_.t.t.n), .lst true 1 (Is t_.t.t.fr), .lst true 1 (Is t_.t.t.to), .lst true 1 (Is t_.t.t.id), .lst true 1 (Ls t_.t.t.cs), .lst true 1 (Is t_.t.ob), .lst true 1 (Is t_.t.ar), .lst true 1 (Is t_.p)]), (52, .lst true 1 (Is t_.p)), (53, .val (.int .i64 (t_.p.length : Int))), (54, .val (.int .i64 0))], [], 0⟩) (Wk.r1 [] (by simp [hP, hhOk, back, Cat.cells, Ends.cells, Fn.cells, Tra.cells, IA, I1, LA, L1, BA, B1, EA, E1, E2, eB, eI, eL])) ?_
 replace h := bind_some h
 obtain ⟨e10, h, h10⟩ := h
 refine w_joinT (fun b10 : Unit => ⟨[], [], 0⟩) (fun b10 => Sum.inl b10 = e10) ?_ ?_
 · refine w_block ?_
   refine w_loopF h (fun s18 : Int => ⟨[(3, .rptr (Tra.cells true t_)), (4, .rptr [.val (.int .i64 t_.t.s.n), .lst true 1 (Is t_.t.s.fr), .lst true 1 (Is t_.t.s.to), .lst true 1 (Is t_.t.s.id), .lst true 1 (Ls t_.t.s.cs), .val (.int .i64 t_.t.t.n), .lst true 1 (Is t_.t.t.fr), .lst true 1 (Is t_.t.t.to), .lst true 1 (Is t_.t.t.id), .lst true 1 (Ls t_.t.t.cs), .lst true 1 (Is t_.t.ob), .lst true 1 (Is t_.t.ar), .lst true 1 (Is t_.p)]), (52, .lst true 1 (Is t_.p)), (53, .val (.int .i64 (t_.p.length : Int))), (54, .val (.int .i64 s18))], [], 0⟩) (Wk.r1 [] (by simp [hP, hhOk, back, Cat.cells, Ends.cells, Fn.cells, Tra.cells, IA, I1, LA, L1, BA, B1, EA, E1, E2, eB, eI, eL])) ?_
   clear h
   intro k18 s18 c18 h hk18
   refine w_seq ?_
   refine w_run mo (by rw [hN]; decide) fun K hK => ?_
   simp [-guardE_b, -Is_at, -Is_at', -Ls_at, -Ls_at', eL, eI, allInts, eP_Cat, eP_Ends, eP_Fn, eP_Tra, Cat.cells, Ends.cells, Fn.cells, Tra.cells]
   repeat (with_reducible refine And.intro ?_ ?_; · first | assumption | omega | (simp; done) | (simp; omega) | simp_all)
   refine hK _ ?_
   clear hK K
   refine tn ?_
   refine w_weak (st' := ⟨[(3, .rptr (Tra.cells true t_)), (4, .rptr [.val (.int .i64 t_.t.s.n), .lst true 1 (Is t_.t.s.fr), .lst true 1 (Is t_.t.s.to), .lst true 1 (Is t_.t.s.id), .lst true 1 (Ls t_.t.s.cs), .val (.int .i64 t_.t.t.n), .lst true 1 (Is t_.t.t.fr), .lst true 1 (Is t_.t.t.to), .lst true 1 (Is t_.t.t.id), .lst true 1 (Ls t_.t.t.cs), .lst true 1 (Is t_.t.ob), .lst true 1 (Is t_.t.ar), .lst true 1 (Is t_.p)]), (52, .lst true 1 (Is t_.p)), (53, .val (.int .i64 (t_.p.length : Int))), (54, .val (.int .i64 s18)), (55, .val (.bool (decide (s18 < (t_.p.length : Int)))))], [], 0⟩) (Wk.r1 [] (by simp [hP, hhOk, back, Cat.cells, Ends.cells, Fn.cells, Tra.cells, IA, I1, LA, L1, BA, B1, EA, E1, E2, eB, eI, eL])) ?_
   refine w_seq ?_
   refine w_cond rfl (fun g => ?_) fun g => ?_
   · have g19 : s18 < (t_.p.length : Int) := by first | simpa using g | (simp at g; exact g) | (simp at g; omega)
     clear g
     replace h := if_l g19 h
     refine w_skip ?_
     refine tn ?_
     refine w_seq ?_
     refine w_block ?_
     refine w_seq ?_
     refine w_run mo (by rw [hN]; decide) fun K hK => ?_
     replace h := ass_some h
     obtain ⟨a20, h⟩ := h
     simp [-guardE_b, -Is_at, -Is_at', -Ls_at, -Ls_at', eL, eI, allInts, eP_Cat, eP_Ends, eP_Fn, eP_Tra, Cat.cells, Ends.cells, Fn.cells, Tra.cells, at_I a20]
     repeat (with_reducible refine And.intro ?_ ?_; · first | assumption | omega | (simp; done) | (simp; omega) | simp_all)
     refine hK _ ?_
     clear hK K
     refine tn ?_
     refine w_weak (st' := ⟨[(3, .rptr (Tra.cells true t_)), (4, .rptr [.val (.int .i64 t_.t.s.n), .lst true 1 (Is t_.t.s.fr), .lst true 1 (Is t_.t.s.to), .lst true 1 (Is t_.t.s.id), .lst true 1 (Ls t_.t.s.cs), .val (.int .i64 t_.t.t.n), .lst true 1 (Is t_.t.t.fr), .lst true 1 (Is t_.t.t.to), .lst true 1 (Is t_.t.t.id), .lst true 1 (Ls t_.t.t.cs), .lst true 1 (Is t_.t.ob), .lst true 1 (Is t_.t.ar), .lst true 1 (Is t_.p)]), (5, .val (.int .i64 s18)), (6, .val (.int .i64 (ix t_.p s18))), (52, .lst true 1 (Is t_.p)), (53, .val (.int .i64 (t_.p.length : Int))), (54, .val (.int .i64 s18))], [], 0⟩) (Wk.r1 [] (by simp [hP, hhOk, back, Cat.cells, Ends.cells, Fn.cells, Tra.cells, IA, I1, LA, L1, BA, B1, EA, E1, E2, eB, eI, eL])) ?_
     refine w_seq ?_
     refine w_run mo (by rw [hN]; decide) fun K hK => ?_
     simp [-guardE_b, -Is_at, -Is_at', -Ls_at, -Ls_at', eL, eI, allInts, eP_Cat, eP_Ends, eP_Fn, eP_Tra, Cat.cells, Ends.cells, Fn.cells, Tra.cells]
     repeat (with_reducible refine And.intro ?_ ?_; · first | assumption | omega | (simp; done) | (simp; omega) | simp_all)
     replace h := bind_some h
     obtain ⟨v21, hv21, h⟩ := h
     refine callA_intro (w_i_Category_ends _ _ v21 hv21) (.cons (.preT (by simp [Cat.cells, Ends.cells, Fn.cells, Tra.cells])) (.cons .val .nil)) ?_
     replace h := ass_some h
     obtain ⟨a22, h⟩ := h
     replace h := ass_some h
     obtain ⟨a23, h⟩ := h
     simp [-guardE_b, -Is_at, -Is_at', -Ls_at, -Ls_at', unk, unA, unE, unT, unC, flat, eL, eI, allInts, eP_Cat, eP_Ends, eP_Fn, eP_Tra, Cat.cells, Ends.cells, Fn.cells, Tra.cells, at_I a22, at_I a23]
     repeat (with_reducible refine And.intro ?_ ?_; · first | assumption | omega | (simp; done) | (simp; omega) | simp_all)
     refine hK _ ?_
     clear hK K
     refine tn ?_
     refine w_weak (st' := ⟨[(3, .rptr (Tra.cells true t_)), (4, .rptr [.val (.int .i64 t_.t.s.n), .lst true 1 (Is t_.t.s.fr), .lst true 1 (Is t_.t.s.to), .lst true 1 (Is t_.t.s.id), .lst true 1 (Ls t_.t.s.cs), .val (.int .i64 t_.t.t.n), .lst true 1 (Is t_.t.t.fr), .lst true 1 (Is t_.t.t.to), .lst true 1 (Is t_.t.t.id), .lst true 1 (Ls t_.t.t.cs), .lst true 1 (Is t_.t.ob), .lst true 1 (Is t_.t.ar), .lst true 1 (Is t_.p)]), (52, .lst true 1 (Is t_.p)), (53, .val (.int .i64 (t_.p.length : Int))), (54, .val (.int .i64 s18)), (79, .val (.bool (!([v21.a, v21.b] == [ix t_.s.ob s18, ix t_.t.ob s18]))))], [], 0⟩) (Wk.r1 [] (by simp [hP, hhOk, back, Cat.cells, Ends.cells, Fn.cells, Tra.cells, IA, I1, LA, L1, BA, B1, EA, E1, E2, eB, eI, eL])) ?_
     refine w_cond rfl (fun g => ?_) fun g => ?_
     · have g24 : ¬ (v21.a = ix t_.s.ob s18 ∧ v21.b = ix t_.t.ob s18) := by first | simpa using g | (simp at g; exact g) | (simp at g; omega)
       clear g
       replace h := if_l g24 h
       refine w_seq ?_
       refine w_run mo (by rw [hN]; decide) fun K hK => ?_
       simp [-guardE_b, -Is_at, -Is_at', -Ls_at, -Ls_at', eL, eI, allInts, eP_Cat, eP_Ends, eP_Fn, eP_Tra, Cat.cells, Ends.cells, Fn.cells, Tra.cells]
       repeat (with_reducible refine And.intro ?_ ?_; · first | assumption | omega | (simp; done) | (simp; omega) | simp_all)
       refine hK _ ?_
       clear hK K
       refine tn ?_
       refine w_weak (st' := ⟨[(2, .val (.bool false))], [], 0⟩) (Wk.r1 [] (by simp [hP, hhOk, back, Cat.cells, Ends.cells, Fn.cells, Tra.cells, IA, I1, LA, L1, BA, B1, EA, E1, E2, eB, eI, eL])) ?_
       refine w_ret ?_
       refine br ?_
       refine tr ?_
       refine lr ?_
       refine br ?_
       refine tr ?_
       cases h
       have q : _ = e10 := hk18
       have h := h10
       rw [← q] at h
       clear q
       try dsimp only at h
       have hr := Option.some.inj h
       rw [← hr]
       refine ⟨_, (.tmp .nil), ?_⟩
       refine ⟨(.one rfl rfl .nil), [.val (.bool false)], [], by simp [Cat.cells, Ends.cells, Fn.cells, Tra.cells, IA, I1, LA, L1, BA, B1, EA, E1, E2, eB, eI, eL], by simp, (UpL.refl _)⟩
     have g24 : ¬ (¬ (v21.a = ix t_.s.ob s18 ∧ v21.b = ix t_.t.ob s18)) := by first | simpa using g | (simp at g; exact g) | (simp at g; omega)
     clear g
     replace h := if_r g24 h
     refine w_skip ?_
     refine bn ?_
     refine tn ?_
     refine w_run mo (by rw [hN]; decide) fun K hK => ?_
     replace h := ass_some h
     obtain ⟨a25, h⟩ := h
     simp [-guardE_b, -Is_at, -Is_at', -Ls_at, -Ls_at', eL, eI, allInts, eP_Cat, eP_Ends, eP_Fn, eP_Tra, Cat.cells, Ends.cells, Fn.cells, Tra.cells, wrap_id a25]
     repeat (with_reducible refine And.intro ?_ ?_; · first | assumption | omega | (simp; done) | (simp; omega) | simp_all)
     refine hK _ ?_
     clear hK K
     cases h
     exact rn (s' := s18 + 1) hk18 (Wk.r1 [] (by simp [hP, hhOk, back, Cat.cells, Ends.cells, Fn.cells, Tra.cells, IA, I1, LA, L1, BA, B1, EA, E1, E2, eB, eI, eL]))
   have g19 : ¬ (s18 < (t_.p.length : Int)) := by first | simpa using g | (simp at g; exact g) | (simp at g; omega)
   clear g
   replace h := if_r g19 h
   refine w_exit ?_
   refine tx ?_
   refine lx ?_
   refine bh ?_
   cases h
   exact jn (b := ()) hk18 (Wk.r1 [] (by simp [hP, hhOk, back, Cat.cells, Ends.cells, Fn.cells, Tra.cells, IA, I1, LA, L1, BA, B1, EA, E1, E2, eB, eI, eL]))
 intro b10 hb10
 have h := h10
 rw [← hb10] at h
 clear h10
 try dsimp only at h
 refine w_seq ?_
 refine w_run mo (by rw [hN]; decide) fun K hK => ?_
 simp [-guardE_b, -Is_at, -Is_at', -Ls_at, -Ls_at', eL, eI, allInts, eP_Cat, eP_Ends, eP_Fn, eP_Tra, Cat.cells, Ends.cells, Fn.cells, Tra.cells]
 repeat (with_reducible refine And.intro ?_ ?_; · first | assumption | omega | (simp; done) | (simp; omega) | simp_all)
 refine hK _ ?_
 clear hK K
 refine tn ?_
 refine w_weak (st' := ⟨[(2, .val (.bool true))], [], 0⟩) (Wk.r1 [] (by simp [hP, hhOk, back, Cat.cells, Ends.cells, Fn.cells, Tra.cells, IA, I1, LA, L1, BA, B1, EA, E1, E2, eB, eI, eL])) ?_
 refine w_ret ?_
 have hr := Option.some.inj h
 rw [← hr]
 refine ⟨_, (.tmp .nil), ?_⟩
 refine ⟨(.one rfl rfl .nil), [.val (.bool true)], [], by simp [Cat.cells, Ends.cells, Fn.cells, Tra.cells, IA, I1, LA, L1, BA, B1, EA, E1, E2, eB, eI, eL], by simp, (UpL.refl _)⟩
end Go.Vc.T

set_option maxRecDepth 100000
set_option linter.unusedSimpArgs false
set_option linter.unusedVariables false
namespace Go.Vc.T
open Go Go.Vc Go.Proofs
noncomputable def s_i_Transformation_isNatural (t_ : Tra) : Option Bool :=
 (
   (s_i_Transformation_isShape t_).bind fun v2 =>
   if v2 = true then
     (s_i_firstFailure__i_commutes t_).bind fun v4 =>
     some (decide (v4 < 0))
   else
     some false : Option (Bool)).bind fun b1 =>
 some b1
set_option maxHeartbeats 4000000 in
theorem w_i_Transformation_isNatural (t_ : Tra) (r : Bool) (h : s_i_Transformation_isNatural t_ = some r) : Contract Try.prog 88 [.rptr (t_.cells true)] (.val (.bool r)) := by
 refine contract_introG (rvs := [.tmp 2]) (rs := [.val (.bool r)]) Try.func88 rfl rfl rfl rfl (by simp [Try.f88]) fun F hN hP => ?_
 unfold s_i_Transformation_isNatural at h
 refine w_seq ?_
 refine w_run mo (by rw [hN]; decide) fun K hK => ?_
 simp [-guardE_b, -Is_at, -Is_at', -Ls_at, -Ls_at', eL, eI, allInts, eP_Tra, Tra.cells]
 repeat (with_reducible refine And.intro ?_ ?_; · first | assumption | omega | (simp; done) | (simp; omega) | simp_all)
 refine hK _ ?_
 clear hK K
 refine tn ?_
 refine w_weak (st' := ⟨[(0, .rptr (Tra.cells true t_))], [], 0⟩) (Wk.r1 [] (by simp [hP, hhOk, back, Tra.cells, IA, I1, LA, L1, BA, B1, EA, E1, E2, eB, eI, eL])) ?_
 refine w_seq ?_
 replace h := bind_some h
 obtain ⟨e1, h, h1⟩ := h
 refine w_joinT (fun b1 : Bool => ⟨[(2, .val (.bool b1))], [], 0⟩) (fun b1 => b1 = e1) ?_ ?_
 · refine w_run mo (by rw [hN]; decide) fun K hK => ?_
   simp [-guardE_b, -Is_at, -Is_at', -Ls_at, -Ls_at', eL, eI, allInts, eP_Tra, Tra.cells]
   repeat (with_reducible refine And.intro ?_ ?_; · first | assumption | omega | (simp; done) | (simp; omega) | simp_all)
   replace h := bind_some h
   obtain ⟨v2, hv2, h⟩ := h
   refine callA_intro (w_i_Transformation_isShape _ v2 hv2) (.cons (.preT (by simp [Tra.cells])) .nil) ?_
   simp [-guardE_b, -Is_at, -Is_at', -Ls_at, -Ls_at', unk, unA, unE, unT, unC, flat, eL, eI, allInts, eP_Tra, Tra.cells]
   repeat (with_reducible refine And.intro ?_ ?_; · first | assumption | omega | (simp; done) | (simp; omega) | simp_all)
   refine guard_intro (fun g => ?_) (fun g => ?_)
   · have g3 : v2 = true := by first | simpa using g | (simp at g; exact g) | (simp at g; omega)
     clear g
     replace h := if_l g3 h
     simp [-guardE_b, -Is_at, -Is_at', -Ls_at, -Ls_at', eL, eI, allInts, eP_Tra, Tra.cells]
     repeat (with_reducible refine And.intro ?_ ?_; · first | assumption | omega | (simp; done) | (simp; omega) | simp_all)
     replace h := bind_some h
     obtain ⟨v4, hv4, h⟩ := h
     refine callA_intro (w_i_firstFailure__i_commutes _ v4 hv4) (.cons (.preT (by simp [Tra.cells])) (.cons (.fnL (by simp) .nil) .nil)) ?_
     simp [-guardE_b, -Is_at, -Is_at', -Ls_at, -Ls_at', unk, unA, unE, unT, unC, flat, eL, eI, allInts, eP_Tra, Tra.cells]
     repeat (with_reducible refine And.intro ?_ ?_; · first | assumption | omega | (simp; done) | (simp; omega) | simp_all)
     refine hK _ ?_
     exact jn (b := decide (v4 < 0)) (Option.some.inj h) (Wk.r1 [] (by simp [hP, hhOk, back, Tra.cells, IA, I1, LA, L1, BA, B1, EA, E1, E2, eB, eI, eL]))
   have g3 : ¬ (v2 = true) := by first | simpa using g | (simp at g; exact g) | (simp at g; omega)
   clear g
   replace h := if_r g3 h
   simp [-guardE_b, -Is_at, -Is_at', -Ls_at, -Ls_at', eL, eI, allInts, eP_Tra, Tra.cells]
   repeat (with_reducible refine And.intro ?_ ?_; · first | assumption | omega | (simp; done) | (simp; omega) | simp_all)
   refine hK _ ?_
   exact jn (b := false) (Option.some.inj h) (Wk.r1 [] (by simp [hP, hhOk, back, Tra.cells, IA, I1, LA, L1, BA, B1, EA, E1, E2, eB, eI, eL]))
 intro b1 hb1
 have h := h1
 rw [← hb1] at h
 clear h1
 try dsimp only at h
 refine w_ret ?_
 have hr := Option.some.inj h
 rw [← hr]
 refine ⟨_, (.tmp .nil), ?_⟩
 refine ⟨(.one rfl rfl .nil), [.val (.bool b1)], [], by simp [Tra.cells, IA, I1, LA, L1, BA, B1, EA, E1, E2, eB, eI, eL], by simp, (UpL.refl _)⟩
noncomputable def s_s_l16Two (m_ : Mnd) (n_ : Mnd) : Option Int :=
 (
   (s_s_l16Is m_).bind fun v2 =>
   if ¬ (v2 = true) then
     some true
   else
     (s_s_l16Is n_).bind fun v4 =>
     some (!v4) : Option (Bool)).bind fun b1 =>
 if b1 = true then
   some 1
 else
   (s_s_l02Same m_.f.s n_.f.s).bind fun v6 =>
   if ¬ (v6 = true) then
     some 5
   else
     some 0
set_option maxHeartbeats 4000000 in
theorem w_s_l16Two (m_ : Mnd) (n_ : Mnd) (r : Int) (h : s_s_l16Two m_ n_ = some r) : Contract Try.prog 146 [.agg (m_.cells true), .agg (n_.cells true)] (.val (.int .i64 r)) := by
 refine contract_introG (rvs := [.tmp 4]) (rs := [.val (.int .i64 r)]) Try.func146 rfl rfl rfl rfl (by simp [Try.f146]) fun F hN hP => ?_
 unfold s_s_l16Two at h
 refine w_seq ?_
 refine w_run mo (by rw [hN]; decide) fun K hK => ?_
 simp [-guardE_b, -Is_at, -Is_at', -Ls_at, -Ls_at', eL, eI, allInts, eP_Cat, eP_Mnd, Cat.cells, Mnd.cells]
 repeat (with_reducible refine And.intro ?_ ?_; · first | assumption | omega | (simp; done) | (simp; omega) | simp_all)
 refine hK _ ?_
 clear hK K
 refine tn ?_
 refine w_weak (st' := ⟨[(2, .adr 0 0 0), (3, .adr 1 0 0)], [(0, .mix 14 [(Mnd.cells true m_)]), (1, .mix 14 [(Mnd.cells true n_)])], 2⟩) (Wk.r1 [(0, 0), (1, 1)] (by simp [hP, hhOk, back, Cat.cells, Mnd.cells, IA, I1, LA, L1, BA, B1, EA, E1, E2, eB, eI, eL])) ?_
 refine w_seq ?_
 refine w_seq ?_
 replace h := bind_some h
 obtain ⟨e1, h, h1⟩ := h
 refine w_joinT (fun b1 : Bool => ⟨[(2, .adr 0 0 0), (3, .adr 1 0 0), (12, .val (.bool b1))], [(0, .mix 14 [(Mnd.cells true m_)]), (1, .mix 14 [(Mnd.cells true n_)])], 2⟩) (fun b1 => b1 = e1) ?_ ?_
 · refine w_run mo (by rw [hN]; decide) fun K hK => ?_
   simp [-guardE_b, -Is_at, -Is_at', -Ls_at, -Ls_at', eL, eI, allInts, eP_Cat, eP_Mnd, Cat.cells, Mnd.cells]
   repeat (with_reducible refine And.intro ?_ ?_; · first | assumption | omega | (simp; done) | (simp; omega) | simp_all)
   replace h := bind_some h
   obtain ⟨v2, hv2, h⟩ := h
   refine callA_intro (w_s_l16Is _ v2 hv2) (.cons (.aggL (.cons .val (.cons .lst (.cons .lst (.cons .lst (.cons .lst (.cons .val (.cons .lst (.cons .lst (.cons .lst (.cons .lst (.cons .lst (.cons .lst (.cons .lst (.cons .lst .nil))))))))))))))) .nil) ?_
   simp [-guardE_b, -Is_at, -Is_at', -Ls_at, -Ls_at', unk, unA, unE, unT, unC, flat, eL, eI, allInts, eP_Cat, eP_Mnd, Cat.cells, Mnd.cells]
   repeat (with_reducible refine And.intro ?_ ?_; · first | assumption | omega | (simp; done) | (simp; omega) | simp_all)
   refine guard_intro (fun g => ?_) (fun g => ?_)
   · have g3 : ¬ (¬ (v2 = true)) := by first | simpa using g | (simp at g; exact g) | (simp at g; omega)
     clear g
     replace h := if_r g3 h
     simp [-guardE_b, -Is_at, -Is_at', -Ls_at, -Ls_at', eL, eI, allInts, eP_Cat, eP_Mnd, Cat.cells, Mnd.cells]
     repeat (with_reducible refine And.intro ?_ ?_; · first | assumption | omega | (simp; done) | (simp; omega) | simp_all)
     replace h := bind_some h
     obtain ⟨v4, hv4, h⟩ := h
     refine callA_intro (w_s_l16Is _ v4 hv4) (.cons (.aggL (.cons .val (.cons .lst (.cons .lst (.cons .lst (.cons .lst (.cons .val (.cons .lst (.cons .lst (.cons .lst (.cons .lst (.cons .lst (.cons .lst (.cons .lst (.cons .lst .nil))))))))))))))) .nil) ?_
     simp [-guardE_b, -Is_at, -Is_at', -Ls_at, -Ls_at', unk, unA, unE, unT, unC, flat, eL, eI, allInts, eP_Cat, eP_Mnd, Cat.cells, Mnd.cells]
     repeat (with_reducible refine And.intro ?_ ?_; · first | assumption | omega | (simp; done) | (simp; omega) | simp_all)
     refine hK _ ?_
     exact jn (b := !v4) (Option.some.inj h) (Wk.r1 [(0, 0), (1, 1)] (by simp [hP, hhOk, back, Cat.cells, Mnd.cells, IA, I1, LA, L1, BA, B1, EA, E1, E2, eB, eI, eL]))
   have g3 : ¬ (v2 = true) := by first | simpa using g | (simp at g; exact g) | (simp at g; omega)
   clear g
   replace h := if_l g3 h
   simp [-guardE_b, -Is_at, -Is_at', -Ls_at, -Ls_at', eL, eI, allInts, eP_Cat, eP_Mnd, Cat.cells, Mnd.cells]
   repeat (with_reducible refine And.intro ?_ ?_; · first | assumption | omega | (simp; done) | (simp; omega) | simp_all)
   refine hK _ ?_
   exact jn (b := true) (Option.some.inj h) (Wk.r1 [(0, 0), (1, 1)] (by simp [hP, hhOk, back, Cat.cells, Mnd.cells, IA, I1, LA, L1, BA, B1, EA, E1, E2, eB, eI, eL]))
 intro b1 hb1
 have h := h1
 rw [← hb1] at h
 clear h1
 try dsimp only at h
 refine w_cond rfl (fun g => ?_) fun g => ?_
 · have g5 : b1 = true := by first | simpa using g | (simp at g; exact g) | (simp at g; omega)
   clear g
   replace h := if_l g5 h
   refine w_seq ?_
   refine w_run mo (by rw [hN]; decide) fun K hK => ?_
   simp [-guardE_b, -Is_at, -Is_at', -Ls_at, -Ls_at', eL, eI, allInts, eP_Cat, eP_Mnd, Cat.cells, Mnd.cells]
   repeat (with_reducible refine And.intro ?_ ?_; · first | assumption | omega | (simp; done) | (simp; omega) | simp_all)
   refine hK _ ?_
   clear hK K
   refine tn ?_
   refine w_weak (st' := ⟨[(4, .val (.int .i64 1))], [], 0⟩) (Wk.r1 [] (by simp [hP, hhOk, back, Cat.cells, Mnd.cells, IA, I1, LA, L1, BA, B1, EA, E1, E2, eB, eI, eL])) ?_
   refine w_ret ?_
   refine tr ?_
   have hr := Option.some.inj h
   rw [← hr]
   refine ⟨_, (.tmp .nil), ?_⟩
   refine ⟨(.one rfl rfl .nil), [.val (.int .i64 1)], [], by simp [Cat.cells, Mnd.cells, IA, I1, LA, L1, BA, B1, EA, E1, E2, eB, eI, eL], by simp, (UpL.refl _)⟩
 have g5 : ¬ (b1 = true) := by first | simpa using g | (simp at g; exact g) | (simp at g; omega)
 clear g
 replace h := if_r g5 h
 refine w_skip ?_
 refine tn ?_
 refine w_seq ?_
 refine w_seq ?_
 refine w_run mo (by rw [hN]; decide) fun K hK => ?_
 simp [-guardE_b, -Is_at, -Is_at', -Ls_at, -Ls_at', eL, eI, allInts, eP_Cat, eP_Mnd, Cat.cells, Mnd.cells]
 repeat (with_reducible refine And.intro ?_ ?_; · first | assumption | omega | (simp; done) | (simp; omega) | simp_all)
 replace h := bind_some h
 obtain ⟨v6, hv6, h⟩ := h
 refine callA_intro (w_s_l02Same _ _ v6 hv6) (.cons (.aggL (.cons .val (.cons .lst (.cons .lst (.cons .lst (.cons .lst .nil)))))) (.cons (.aggL (.cons .val (.cons .lst (.cons .lst (.cons .lst (.cons .lst .nil)))))) .nil)) ?_
 simp [-guardE_b, -Is_at, -Is_at', -Ls_at, -Ls_at', unk, unA, unE, unT, unC, flat, eL, eI, allInts, eP_Cat, eP_Mnd, Cat.cells, Mnd.cells]
 repeat (with_reducible refine And.intro ?_ ?_; · first | assumption | omega | (simp; done) | (simp; omega) | simp_all)
 refine hK _ ?_
 clear hK K
 refine tn ?_
 refine w_weak (st' := ⟨[(20, .val (.bool (!v6)))], [], 0⟩) (Wk.r1 [] (by simp [hP, hhOk, back, Cat.cells, Mnd.cells, IA, I1, LA, L1, BA, B1, EA, E1, E2, eB, eI, eL])) ?_
 refine w_cond rfl (fun g => ?_) fun g => ?_
 · have g7 : ¬ (v6 = true) := by first | simpa using g | (simp at g; exact g) | (simp at g; omega)
   clear g
   replace h := if_l g7 h
   refine w_seq ?_
   refine w_run mo (by rw [hN]; decide) fun K hK => ?_
   simp [-guardE_b, -Is_at, -Is_at', -Ls_at, -Ls_at', eL, eI, allInts, eP_Cat, eP_Mnd, Cat.cells, Mnd.cells]
   repeat (with_reducible refine And.intro ?_ ?_; · first | assumption | omega | (simp; done) | (simp; omega) | simp_all)
   refine hK _ ?_
   clear hK K
   refine tn ?_
   refine w_weak (st' := ⟨[(4, .val (.int .i64 5))], [], 0⟩) (Wk.r1 [] (by simp [hP, hhOk, back, Cat.cells, Mnd.cells, IA, I1, LA, L1, BA, B1, EA, E1, E2, eB, eI, eL])) ?_
   refine w_ret ?_
   refine tr ?_
   have hr := Option.some.inj h
   rw [← hr]
   refine ⟨_, (.tmp .nil), ?_⟩
   refine ⟨(.one rfl rfl .nil), [.val (.int .i64 5)], [], by simp [Cat.cells, Mnd.cells, IA, I1, LA, L1, BA, B1, EA, E1, E2, eB, eI, eL], by simp, (UpL.refl _)⟩
 have g7 : ¬ (¬ (v6 = true)) := by first | simpa using g | (simp at g; exact g) | (simp at g; omega)
 clear g
 replace h := if_r g7 h
 refine w_skip ?_
 refine tn ?_
 refine w_seq ?_
 refine w_run mo (by rw [hN]; decide) fun K hK => ?_
 simp [-guardE_b, -Is_at, -Is_at', -Ls_at, -Ls_at', eL, eI, allInts, eP_Cat, eP_Mnd, Cat.cells, Mnd.cells]
 repeat (with_reducible refine And.intro ?_ ?_; · first | assumption | omega | (simp; done) | (simp; omega) | simp_all)
 refine hK _ ?_
 clear hK K
 refine tn ?_
 refine w_weak (st' := ⟨[(4, .val (.int .i64 0))], [], 0⟩) (Wk.r1 [] (by simp [hP, hhOk, back, Cat.cells, Mnd.cells, IA, I1, LA, L1, BA, B1, EA, E1, E2, eB, eI, eL])) ?_
 refine w_ret ?_
 have hr := Option.some.inj h
 rw [← hr]
 refine ⟨_, (.tmp .nil), ?_⟩
 refine ⟨(.one rfl rfl .nil), [.val (.int .i64 0)], [], by simp [Cat.cells, Mnd.cells, IA, I1, LA, L1, BA, B1, EA, E1, E2, eB, eI, eL], by simp, (UpL.refl _)⟩
end Go.Vc.T
