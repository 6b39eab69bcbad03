/- A part of the proof: a verified generator of conditions, and what each function of the program does. -/
import Derived.Test.YtkafionfghoggaaO10
set_option maxRecDepth 100000
set_option linter.unusedSimpArgs false
set_option linter.unusedVariables false

set_option maxRecDepth 100000
set_option linter.unusedSimpArgs false
set_option linter.unusedVariables false
namespace Go.Vc.T
open Go Go.Vc Go.Proofs
noncomputable def s_s_l15Op (a_ : Adj) : Option Adj :=
 (s_s_l06Op a_.r).bind fun v1 =>
 (s_s_l06Op a_.l).bind fun v2 =>
 (s_s_l01Own a_.k).bind fun v3 =>
 (s_s_l01Own a_.u).bind fun v4 =>
 some (⟨v1, v2, v3, v4⟩ : Adj)
set_option maxHeartbeats 4000000 in
theorem w_s_l15Op (a_ : Adj) (r : Adj) (h : s_s_l15Op a_ = some r) : Contract Try.prog 144 [.agg (a_.cells true)] (.agg (r.cells true)) := by
 refine contract_introG (rvs := [.cell 2 37]) (rs := [.agg (r.cells true)]) Try.func144 rfl rfl rfl rfl (by simp [Try.f144]) fun F hN hP => ?_
 unfold s_s_l15Op at h
 refine w_seq ?_
 refine w_run mo (by rw [hN]; decide) fun K hK => ?_
 simp [-guardE_b, -Is_at, -Is_at', -Ls_at, -Ls_at', eL, eI, allInts, eP_Adj, eP_Fn, Adj.cells, Fn.cells]
 repeat (with_reducible refine And.intro ?_ ?_; · first | assumption | omega | (simp; done) | (simp; omega) | simp_all)
 refine hK _ ?_
 clear hK K
 refine tn ?_
 refine w_weak (st' := ⟨[(1, .adr 0 0 0), (2, .adr 1 0 0)], [(0, .mix 26 [(Adj.cells true a_)]), (1, .mix 26 [[.val (.int .i64 0), .val (.slice none 0 0), .val (.slice none 0 0), .val (.slice none 0 0), .val (.slice none 0 0), .val (.int .i64 0), .val (.slice none 0 0), .val (.slice none 0 0), .val (.slice none 0 0), .val (.slice none 0 0), .val (.slice none 0 0), .val (.slice none 0 0), .val (.int .i64 0), .val (.slice none 0 0), .val (.slice none 0 0), .val (.slice none 0 0), .val (.slice none 0 0), .val (.int .i64 0), .val (.slice none 0 0), .val (.slice none 0 0), .val (.slice none 0 0), .val (.slice none 0 0), .val (.slice none 0 0), .val (.slice none 0 0), .val (.slice none 0 0), .val (.slice none 0 0)]])], 2⟩) (Wk.r1 [(0, 0), (1, 1)] (by simp [hP, hhOk, back, Adj.cells, Fn.cells, IA, I1, LA, L1, BA, B1, EA, E1, E2, eB, eI, eL])) ?_
 refine w_seq ?_
 refine w_run mo (by rw [hN]; decide) fun K hK => ?_
 simp [-guardE_b, -Is_at, -Is_at', -Ls_at, -Ls_at', eL, eI, allInts, eP_Adj, eP_Fn, Adj.cells, Fn.cells]
 repeat (with_reducible refine And.intro ?_ ?_; · first | assumption | omega | (simp; done) | (simp; omega) | simp_all)
 replace h := bind_some h
 obtain ⟨v1, hv1, h⟩ := h
 refine callA_intro (w_s_l06Op _ v1 hv1) (.cons (.aggL (.cons .val (.cons .lst (.cons .lst (.cons .lst (.cons .lst (.cons .val (.cons .lst (.cons .lst (.cons .lst (.cons .lst (.cons .lst (.cons .lst .nil))))))))))))) .nil) ?_
 simp [-guardE_b, -Is_at, -Is_at', -Ls_at, -Ls_at', unk, unA, unE, unT, unC, flat, eL, eI, allInts, eP_Adj, eP_Fn, Adj.cells, Fn.cells]
 repeat (with_reducible refine And.intro ?_ ?_; · first | assumption | omega | (simp; done) | (simp; omega) | simp_all)
 replace h := bind_some h
 obtain ⟨v2, hv2, h⟩ := h
 refine callA_intro (w_s_l06Op _ v2 hv2) (.cons (.aggL (.cons .val (.cons .lst (.cons .lst (.cons .lst (.cons .lst (.cons .val (.cons .lst (.cons .lst (.cons .lst (.cons .lst (.cons .lst (.cons .lst .nil))))))))))))) .nil) ?_
 simp [-guardE_b, -Is_at, -Is_at', -Ls_at, -Ls_at', unk, unA, unE, unT, unC, flat, eL, eI, allInts, eP_Adj, eP_Fn, Adj.cells, Fn.cells]
 repeat (with_reducible refine And.intro ?_ ?_; · first | assumption | omega | (simp; done) | (simp; omega) | simp_all)
 replace h := bind_some h
 obtain ⟨v3, hv3, h⟩ := h
 refine callA_intro (w_s_l01Own _ v3 hv3) (.cons .lst .nil) ?_
 simp [-guardE_b, -Is_at, -Is_at', -Ls_at, -Ls_at', unk, unA, unE, unT, unC, flat, eL, eI, allInts, eP_Adj, eP_Fn, Adj.cells, Fn.cells]
 repeat (with_reducible refine And.intro ?_ ?_; · first | assumption | omega | (simp; done) | (simp; omega) | simp_all)
 replace h := bind_some h
 obtain ⟨v4, hv4, h⟩ := h
 refine callA_intro (w_s_l01Own _ v4 hv4) (.cons .lst .nil) ?_
 simp [-guardE_b, -Is_at, -Is_at', -Ls_at, -Ls_at', unk, unA, unE, unT, unC, flat, eL, eI, allInts, eP_Adj, eP_Fn, Adj.cells, Fn.cells]
 repeat (with_reducible refine And.intro ?_ ?_; · first | assumption | omega | (simp; done) | (simp; omega) | simp_all)
 refine hK _ ?_
 clear hK K
 refine tn ?_
 refine w_weak (st' := ⟨[(2, .adr 0 0 0)], [(0, .mix 26 [[.val (.int .i64 v1.s.n), .own 1 0 v1.s.fr.length, .own 2 0 v1.s.to.length, .own 3 0 v1.s.id.length, .own 4 0 v1.s.cs.length, .val (.int .i64 v1.t.n), .own 5 0 v1.t.fr.length, .own 6 0 v1.t.to.length, .own 7 0 v1.t.id.length, .own 8 0 v1.t.cs.length, .own 9 0 v1.ob.length, .own 10 0 v1.ar.length, .val (.int .i64 v2.s.n), .own 11 0 v2.s.fr.length, .own 12 0 v2.s.to.length, .own 13 0 v2.s.id.length, .own 14 0 v2.s.cs.length, .val (.int .i64 v2.t.n), .own 15 0 v2.t.fr.length, .own 16 0 v2.t.to.length, .own 17 0 v2.t.id.length, .own 18 0 v2.t.cs.length, .own 19 0 v2.ob.length, .own 20 0 v2.ar.length, .own 21 0 v3.length, .own 22 0 v4.length]]), (1, .row 1 (Is v1.s.fr)), (2, .row 1 (Is v1.s.to)), (3, .row 1 (Is v1.s.id)), (4, .row 1 (Ls v1.s.cs)), (5, .row 1 (Is v1.t.fr)), (6, .row 1 (Is v1.t.to)), (7, .row 1 (Is v1.t.id)), (8, .row 1 (Ls v1.t.cs)), (9, .row 1 (Is v1.ob)), (10, .row 1 (Is v1.ar)), (11, .row 1 (Is v2.s.fr)), (12, .row 1 (Is v2.s.to)), (13, .row 1 (Is v2.s.id)), (14, .row 1 (Ls v2.s.cs)), (15, .row 1 (Is v2.t.fr)), (16, .row 1 (Is v2.t.to)), (17, .row 1 (Is v2.t.id)), (18, .row 1 (Ls v2.t.cs)), (19, .row 1 (Is v2.ob)), (20, .row 1 (Is v2.ar)), (21, .row 1 (Is v3)), (22, .row 1 (Is v4))], 23⟩) (Wk.r1 [(1, 0), (3, 1), (4, 2), (5, 3), (6, 4), (8, 5), (9, 6), (10, 7), (11, 8), (12, 9), (13, 10), (15, 11), (16, 12), (17, 13), (18, 14), (20, 15), (21, 16), (22, 17), (23, 18), (24, 19), (25, 20), (26, 21), (27, 22)] (by simp [hP, hhOk, back, Adj.cells, Fn.cells, IA, I1, LA, L1, BA, B1, EA, E1, E2, eB, eI, eL])) ?_
 refine w_ret ?_
 have hr := Option.some.inj h
 rw [← hr]
 refine ⟨_, (.cell tf_37 rfl rfl rfl (by simp) (by simp) .nil), ?_⟩
 refine ⟨(.agg rfl .nil), [.val (.int .i64 v1.s.n), .lst true 1 (Is v1.s.fr), .lst true 1 (Is v1.s.to), .lst true 1 (Is v1.s.id), .lst true 1 (Ls v1.s.cs), .val (.int .i64 v1.t.n), .lst true 1 (Is v1.t.fr), .lst true 1 (Is v1.t.to), .lst true 1 (Is v1.t.id), .lst true 1 (Ls v1.t.cs), .lst true 1 (Is v1.ob), .lst true 1 (Is v1.ar), .val (.int .i64 v2.s.n), .lst true 1 (Is v2.s.fr), .lst true 1 (Is v2.s.to), .lst true 1 (Is v2.s.id), .lst true 1 (Ls v2.s.cs), .val (.int .i64 v2.t.n), .lst true 1 (Is v2.t.fr), .lst true 1 (Is v2.t.to), .lst true 1 (Is v2.t.id), .lst true 1 (Ls v2.t.cs), .lst true 1 (Is v2.ob), .lst true 1 (Is v2.ar), .lst true 1 (Is v3), .lst true 1 (Is v4)], [1, 2, 3, 4, 5, 6, 7, 8, 9, 10, 11, 12, 13, 14, 15, 16, 17, 18, 19, 20, 21, 22], by simp [Adj.cells, Fn.cells, IA, I1, LA, L1, BA, B1, EA, E1, E2, eB, eI, eL], by simp, (UpL.refl _)⟩
end Go.Vc.T

set_option maxRecDepth 100000
set_option linter.unusedSimpArgs false
set_option linter.unusedVariables false
namespace Go.Vc.T
open Go Go.Vc Go.Proofs
noncomputable def s_s_OppositeAdjunction (a_ : Adj) : Option (Adj × Int) :=
 (s_s_l15Is a_).bind fun v1 =>
 if ¬ (v1 = true) then
   some ((⟨(⟨(⟨0, [], [], [], []⟩ : Cat), (⟨0, [], [], [], []⟩ : Cat), [], []⟩ : Fn), (⟨(⟨0, [], [], [], []⟩ : Cat), (⟨0, [], [], [], []⟩ : Cat), [], []⟩ : Fn), [], []⟩ : Adj), 1)
 else
   (s_s_l15Op a_).bind fun v3 =>
   some (v3, 0)
set_option maxHeartbeats 4000000 in
theorem w_s_OppositeAdjunction (a_ : Adj) (r : Adj × Int) (h : s_s_OppositeAdjunction a_ = some r) : Contract Try.prog 62 [.agg (a_.cells true)] (.tup [.agg (r.1.cells true), .val (.int .i64 r.2)]) := by
 refine contract_introG (rvs := [.cell 2 37, .tmp 3]) (rs := [.agg (r.1.cells true), .val (.int .i64 r.2)]) Try.func62 rfl rfl rfl rfl (by simp [Try.f62]) fun F hN hP => ?_
 unfold s_s_OppositeAdjunction at h
 refine w_seq ?_
 refine w_run mo (by rw [hN]; decide) fun K hK => ?_
 simp [-guardE_b, -Is_at, -Is_at', -Ls_at, -Ls_at', eL, eI, allInts, eP_Adj, Adj.cells]
 repeat (with_reducible refine And.intro ?_ ?_; · first | assumption | omega | (simp; done) | (simp; omega) | simp_all)
 refine hK _ ?_
 clear hK K
 refine tn ?_
 refine w_weak (st' := ⟨[(1, .adr 0 0 0), (2, .adr 1 0 0)], [(0, .mix 26 [(Adj.cells true a_)]), (1, .mix 26 [[.val (.int .i64 0), .val (.slice none 0 0), .val (.slice none 0 0), .val (.slice none 0 0), .val (.slice none 0 0), .val (.int .i64 0), .val (.slice none 0 0), .val (.slice none 0 0), .val (.slice none 0 0), .val (.slice none 0 0), .val (.slice none 0 0), .val (.slice none 0 0), .val (.int .i64 0), .val (.slice none 0 0), .val (.slice none 0 0), .val (.slice none 0 0), .val (.slice none 0 0), .val (.int .i64 0), .val (.slice none 0 0), .val (.slice none 0 0), .val (.slice none 0 0), .val (.slice none 0 0), .val (.slice none 0 0), .val (.slice none 0 0), .val (.slice none 0 0), .val (.slice none 0 0)]])], 2⟩) (Wk.r1 [(0, 0), (1, 1)] (by simp [hP, hhOk, back, Adj.cells, IA, I1, LA, L1, BA, B1, EA, E1, E2, eB, eI, eL])) ?_
 refine w_seq ?_
 refine w_seq ?_
 refine w_run mo (by rw [hN]; decide) fun K hK => ?_
 simp [-guardE_b, -Is_at, -Is_at', -Ls_at, -Ls_at', eL, eI, allInts, eP_Adj, Adj.cells]
 repeat (with_reducible refine And.intro ?_ ?_; · first | assumption | omega | (simp; done) | (simp; omega) | simp_all)
 replace h := bind_some h
 obtain ⟨v1, hv1, h⟩ := h
 refine callA_intro (w_s_l15Is _ v1 hv1) (.cons (.aggL (.cons .val (.cons .lst (.cons .lst (.cons .lst (.cons .lst (.cons .val (.cons .lst (.cons .lst (.cons .lst (.cons .lst (.cons .lst (.cons .lst (.cons .val (.cons .lst (.cons .lst (.cons .lst (.cons .lst (.cons .val (.cons .lst (.cons .lst (.cons .lst (.cons .lst (.cons .lst (.cons .lst (.cons .lst (.cons .lst .nil))))))))))))))))))))))))))) .nil) ?_
 simp [-guardE_b, -Is_at, -Is_at', -Ls_at, -Ls_at', unk, unA, unE, unT, unC, flat, eL, eI, allInts, eP_Adj, Adj.cells]
 repeat (with_reducible refine And.intro ?_ ?_; · first | assumption | omega | (simp; done) | (simp; omega) | simp_all)
 refine hK _ ?_
 clear hK K
 refine tn ?_
 refine w_weak (st' := ⟨[(1, .adr 0 0 0), (2, .adr 1 0 0), (6, .val (.bool (!v1)))], [(0, .mix 26 [(Adj.cells true a_)]), (1, .mix 26 [[.val (.int .i64 0), .val (.slice none 0 0), .val (.slice none 0 0), .val (.slice none 0 0), .val (.slice none 0 0), .val (.int .i64 0), .val (.slice none 0 0), .val (.slice none 0 0), .val (.slice none 0 0), .val (.slice none 0 0), .val (.slice none 0 0), .val (.slice none 0 0), .val (.int .i64 0), .val (.slice none 0 0), .val (.slice none 0 0), .val (.slice none 0 0), .val (.slice none 0 0), .val (.int .i64 0), .val (.slice none 0 0), .val (.slice none 0 0), .val (.slice none 0 0), .val (.slice none 0 0), .val (.slice none 0 0), .val (.slice none 0 0), .val (.slice none 0 0), .val (.slice none 0 0)]])], 2⟩) (Wk.r1 [(0, 0), (1, 1)] (by simp [hP, hhOk, back, Adj.cells, IA, I1, LA, L1, BA, B1, EA, E1, E2, eB, eI, eL])) ?_
 refine w_cond rfl (fun g => ?_) fun g => ?_
 · have g2 : ¬ (v1 = true) := by first | simpa using g | (simp at g; exact g) | (simp at g; omega)
   clear g
   replace h := if_l g2 h
   refine w_seq ?_
   refine w_run mo (by rw [hN]; decide) fun K hK => ?_
   simp [-guardE_b, -Is_at, -Is_at', -Ls_at, -Ls_at', eL, eI, allInts, eP_Adj, Adj.cells]
   repeat (with_reducible refine And.intro ?_ ?_; · first | assumption | omega | (simp; done) | (simp; omega) | simp_all)
   refine hK _ ?_
   clear hK K
   refine tn ?_
   refine w_weak (st' := ⟨[(2, .adr 0 0 0), (3, .val (.int .i64 1))], [(0, .mix 26 [[.val (.int .i64 0), .val (.slice none 0 0), .val (.slice none 0 0), .val (.slice none 0 0), .val (.slice none 0 0), .val (.int .i64 0), .val (.slice none 0 0), .val (.slice none 0 0), .val (.slice none 0 0), .val (.slice none 0 0), .val (.slice none 0 0), .val (.slice none 0 0), .val (.int .i64 0), .val (.slice none 0 0), .val (.slice none 0 0), .val (.slice none 0 0), .val (.slice none 0 0), .val (.int .i64 0), .val (.slice none 0 0), .val (.slice none 0 0), .val (.slice none 0 0), .val (.slice none 0 0), .val (.slice none 0 0), .val (.slice none 0 0), .val (.slice none 0 0), .val (.slice none 0 0)]])], 1⟩) (Wk.r1 [(1, 0)] (by simp [hP, hhOk, back, Adj.cells, IA, I1, LA, L1, BA, B1, EA, E1, E2, eB, eI, eL])) ?_
   refine w_ret ?_
   refine tr ?_
   have hr := Option.some.inj h
   rw [← hr]
   refine ⟨_, (.cell tf_37 rfl rfl rfl (by simp) (by simp) (.tmp .nil)), ?_⟩
   refine ⟨(.agg rfl (.one rfl rfl .nil)), [.val (.int .i64 0), .val (.slice none 0 0), .val (.slice none 0 0), .val (.slice none 0 0), .val (.slice none 0 0), .val (.int .i64 0), .val (.slice none 0 0), .val (.slice none 0 0), .val (.slice none 0 0), .val (.slice none 0 0), .val (.slice none 0 0), .val (.slice none 0 0), .val (.int .i64 0), .val (.slice none 0 0), .val (.slice none 0 0), .val (.slice none 0 0), .val (.slice none 0 0), .val (.int .i64 0), .val (.slice none 0 0), .val (.slice none 0 0), .val (.slice none 0 0), .val (.slice none 0 0), .val (.slice none 0 0), .val (.slice none 0 0), .val (.slice none 0 0), .val (.slice none 0 0), .val (.int .i64 1)], [], by simp [Adj.cells, IA, I1, LA, L1, BA, B1, EA, E1, E2, eB, eI, eL], by simp, (.cons .refl (.cons .nil (.cons .nil (.cons .nil (.cons .nil (.cons .refl (.cons .nil (.cons .nil (.cons .nil (.cons .nil (.cons .nil (.cons .nil (.cons .refl (.cons .nil (.cons .nil (.cons .nil (.cons .nil (.cons .refl (.cons .nil (.cons .nil (.cons .nil (.cons .nil (.cons .nil (.cons .nil (.cons .nil (.cons .nil (.cons .refl .nil)))))))))))))))))))))))))))⟩
 have g2 : ¬ (¬ (v1 = true)) := by first | simpa using g | (simp at g; exact g) | (simp at g; omega)
 clear g
 replace h := if_r g2 h
 refine w_skip ?_
 refine tn ?_
 refine w_seq ?_
 refine w_run mo (by rw [hN]; decide) fun K hK => ?_
 simp [-guardE_b, -Is_at, -Is_at', -Ls_at, -Ls_at', eL, eI, allInts, eP_Adj, Adj.cells]
 repeat (with_reducible refine And.intro ?_ ?_; · first | assumption | omega | (simp; done) | (simp; omega) | simp_all)
 replace h := bind_some h
 obtain ⟨v3, hv3, h⟩ := h
 refine callA_intro (w_s_l15Op _ v3 hv3) (.cons (.aggL (.cons .val (.cons .lst (.cons .lst (.cons .lst (.cons .lst (.cons .val (.cons .lst (.cons .lst (.cons .lst (.cons .lst (.cons .lst (.cons .lst (.cons .val (.cons .lst (.cons .lst (.cons .lst (.cons .lst (.cons .val (.cons .lst (.cons .lst (.cons .lst (.cons .lst (.cons .lst (.cons .lst (.cons .lst (.cons .lst .nil))))))))))))))))))))))))))) .nil) ?_
 simp [-guardE_b, -Is_at, -Is_at', -Ls_at, -Ls_at', unk, unA, unE, unT, unC, flat, eL, eI, allInts, eP_Adj, Adj.cells]
 repeat (with_reducible refine And.intro ?_ ?_; · first | assumption | omega | (simp; done) | (simp; omega) | simp_all)
 refine hK _ ?_
 clear hK K
 refine tn ?_
 refine w_weak (st' := ⟨[(2, .adr 0 0 0), (3, .val (.int .i64 0))], [(0, .mix 26 [[.val (.int .i64 v3.l.s.n), .own 1 0 v3.l.s.fr.length, .own 2 0 v3.l.s.to.length, .own 3 0 v3.l.s.id.length, .own 4 0 v3.l.s.cs.length, .val (.int .i64 v3.l.t.n), .own 5 0 v3.l.t.fr.length, .own 6 0 v3.l.t.to.length, .own 7 0 v3.l.t.id.length, .own 8 0 v3.l.t.cs.length, .own 9 0 v3.l.ob.length, .own 10 0 v3.l.ar.length, .val (.int .i64 v3.r.s.n), .own 11 0 v3.r.s.fr.length, .own 12 0 v3.r.s.to.length, .own 13 0 v3.r.s.id.length, .own 14 0 v3.r.s.cs.length, .val (.int .i64 v3.r.t.n), .own 15 0 v3.r.t.fr.length, .own 16 0 v3.r.t.to.length, .own 17 0 v3.r.t.id.length, .own 18 0 v3.r.t.cs.length, .own 19 0 v3.r.ob.length, .own 20 0 v3.r.ar.length, .own 21 0 v3.u.length, .own 22 0 v3.k.length]]), (1, .row 1 (Is v3.l.s.fr)), (2, .row 1 (Is v3.l.s.to)), (3, .row 1 (Is v3.l.s.id)), (4, .row 1 (Ls v3.l.s.cs)), (5, .row 1 (Is v3.l.t.fr)), (6, .row 1 (Is v3.l.t.to)), (7, .row 1 (Is v3.l.t.id)), (8, .row 1 (Ls v3.l.t.cs)), (9, .row 1 (Is v3.l.ob)), (10, .row 1 (Is v3.l.ar)), (11, .row 1 (Is v3.r.s.fr)), (12, .row 1 (Is v3.r.s.to)), (13, .row 1 (Is v3.r.s.id)), (14, .row 1 (Ls v3.r.s.cs)), (15, .row 1 (Is v3.r.t.fr)), (16, .row 1 (Is v3.r.t.to)), (17, .row 1 (Is v3.r.t.id)), (18, .row 1 (Ls v3.r.t.cs)), (19, .row 1 (Is v3.r.ob)), (20, .row 1 (Is v3.r.ar)), (21, .row 1 (Is v3.u)), (22, .row 1 (Is v3.k))], 23⟩) (Wk.r1 [(1, 0), (3, 1), (4, 2), (5, 3), (6, 4), (8, 5), (9, 6), (10, 7), (11, 8), (12, 9), (13, 10), (15, 11), (16, 12), (17, 13), (18, 14), (20, 15), (21, 16), (22, 17), (23, 18), (24, 19), (25, 20), (26, 21), (27, 22)] (by simp [hP, hhOk, back, Adj.cells, IA, I1, LA, L1, BA, B1, EA, E1, E2, eB, eI, eL])) ?_
 refine w_ret ?_
 have hr := Option.some.inj h
 rw [← hr]
 refine ⟨_, (.cell tf_37 rfl rfl rfl (by simp) (by simp) (.tmp .nil)), ?_⟩
 refine ⟨(.agg rfl (.one rfl rfl .nil)), [.val (.int .i64 v3.l.s.n), .lst true 1 (Is v3.l.s.fr), .lst true 1 (Is v3.l.s.to), .lst true 1 (Is v3.l.s.id), .lst true 1 (Ls v3.l.s.cs), .val (.int .i64 v3.l.t.n), .lst true 1 (Is v3.l.t.fr), .lst true 1 (Is v3.l.t.to), .lst true 1 (Is v3.l.t.id), .lst true 1 (Ls v3.l.t.cs), .lst true 1 (Is v3.l.ob), .lst true 1 (Is v3.l.ar), .val (.int .i64 v3.r.s.n), .lst true 1 (Is v3.r.s.fr), .lst true 1 (Is v3.r.s.to), .lst true 1 (Is v3.r.s.id), .lst true 1 (Ls v3.r.s.cs), .val (.int .i64 v3.r.t.n), .lst true 1 (Is v3.r.t.fr), .lst true 1 (Is v3.r.t.to), .lst true 1 (Is v3.r.t.id), .lst true 1 (Ls v3.r.t.cs), .lst true 1 (Is v3.r.ob), .lst true 1 (Is v3.r.ar), .lst true 1 (Is v3.u), .lst true 1 (Is v3.k), .val (.int .i64 0)], [1, 2, 3, 4, 5, 6, 7, 8, 9, 10, 11, 12, 13, 14, 15, 16, 17, 18, 19, 20, 21, 22], by simp [Adj.cells, IA, I1, LA, L1, BA, B1, EA, E1, E2, eB, eI, eL], by simp, (UpL.refl _)⟩
end Go.Vc.T

set_option maxRecDepth 100000
set_option linter.unusedSimpArgs false
set_option linter.unusedVariables false
namespace Go.Vc.T
open Go Go.Vc Go.Proofs
def mixr {α : Type} (m g : Nat) (v : Nat → α) (z : α) : List α := tab m fun j => if j < g then v j else z
@[simp] theorem mixr_length {α : Type} (m g : Nat) (v : Nat → α) (z : α) : (mixr m g v z).length = m := by simp [mixr]
theorem mixr_set {α : Type} {m g : Nat} {v : Nat → α} {z : α} : (mixr m g v z).set g (v g) = mixr m (g + 1) v z := by
 refine List.ext_getElem (by simp) fun j h1 h2 => ?_
 simp only [mixr, tab, List.getElem_set, List.getElem_map, List.getElem_range]
 by_cases h : g = j
 · subst h; simp
 have : (j < g) = (j < g + 1) := propext ⟨fun _ => by omega, fun _ => by omega⟩
 simp [h, this]
theorem mixr_zero {α : Type} (m : Nat) (v : Nat → α) (z : α) : mixr m 0 v z = List.replicate m z := by
 refine List.ext_getElem (by simp) fun j h1 h2 => ?_
 simp [mixr, tab]
theorem mixr_all {α : Type} (m : Nat) (v : Nat → α) (z : α) : mixr m m v z = tab m v := by
 refine List.ext_getElem (by simp) fun j h1 h2 => ?_
 have : j < m := by simpa using h1
 simp [mixr, tab, this]
theorem rx_set {xs : List (List Int)} {i : Nat} (h : i < xs.length) (r : List Int) : rx (xs.set i r) (i : Int) = r := by
 simp [rx, List.getD_eq_getElem?_getD, h]
def opC (c : Cat) : Cat := ⟨c.n, c.to, c.fr, c.id, tab c.fr.length fun f => tab c.fr.length fun g => ix (rx c.cs g) f⟩
def opF (f : Fn) : Fn := ⟨opC f.s, opC f.t, f.ob, f.ar⟩
theorem e_l03Op {c : Cat} (h : c.Sh) : s_s_l03Op c = some (opC c) := by
 have h1 := h.lt
 have h2 := h.m40
 have h3 := h.lc
 have h4 := h.li
 have h5 := h.n8
 unfold s_s_l03Op s_s_l01Own
 rw [ass_pos (by omega), ass_pos (by omega), ass_pos (by omega)]
 simp only [Option.bind_some]
 refine acc_bind c.fr.length (fun i => tab i fun f => tab c.fr.length fun g => ix (rx c.cs g) f) (e := tab c.fr.length fun f => tab c.fr.length fun g => ix (rx c.cs g) f) rfl (by omega) (fun i hi => ?_) (by simp) rfl
 rw [if_pos (by simp only; omega)]
 refine acc_bind c.fr.length (fun k => tab k fun g => ix (rx c.cs g) i) (e := tab c.fr.length fun g => ix (rx c.cs g) i) rfl (by omega) (fun k hk => ?_) (by simp) ?_
 · have h6 := (h.rows k hk).1
   simp (disch := omega) [ass_pos, B64, tab_succ]; try omega
 simp (disch := omega) [ass_pos, B64, tab_succ]; try omega
theorem op_cell {c : Cat} (h : c.Sh) {f g : Nat} (hf : f < c.fr.length) (hg : g < c.fr.length) : (if ix c.fr f = ix c.to g then ix (rx c.cs g) f else -1) = ix (rx c.cs g) f := by
 have q := h.cell' (f := g) (g := f) (by omega) (by omega) (by omega) (by omega)
 by_cases e : ix c.to g = ix c.fr f
 · rw [if_pos e.symm]
 rw [if_neg (fun x => e x.symm), q.1 e]
theorem e_opposite {c : Cat} (h : c.Sh) : s_i_opposite c = some (opC c) := by
 have h1 := h.lt
 have h2 := h.m40
 have h3 := h.lc
 have h4 := h.li
 have h5 := h.n8
 unfold s_i_opposite s_i_clone s_i_Category_arrows
 rw [ass_pos (by omega), ass_pos (by omega), ass_pos (by omega)]
 simp only [Option.bind_some, h1, Int.toNat_natCast]
 rw [ass_pos (by omega), Option.bind_assoc]
 refine acc_bind c.fr.length (fun i => mixr c.fr.length i (fun f => tab c.fr.length fun g => ix (rx c.cs g) f) []) (e := tab c.fr.length fun f => tab c.fr.length fun g => ix (rx c.cs g) f) (mixr_zero _ _ _).symm (by omega) (fun i hi => ?_) (by simp [mixr_all]) rfl
 simp only
 rw [if_pos (by simp; omega), ass_pos (by omega), ass_pos (by simp; omega), ass_pos (by simp; omega), Option.bind_assoc]
 simp only [Int.toNat_natCast]
 rw [rx_set (by simp; omega)]
 refine acc_bind c.fr.length (fun k => (mixr c.fr.length i (fun f => tab c.fr.length fun g => ix (rx c.cs g) f) []).set i (mixr c.fr.length k (fun g => ix (rx c.cs g) i) 0)) (e := (mixr c.fr.length i (fun f => tab c.fr.length fun g => ix (rx c.cs g) f) []).set i (tab c.fr.length fun g => ix (rx c.cs g) i)) (by simp [mixr_zero]) (by omega) (fun k hk => ?_) (by simp [mixr_all]) ?_
 · have h6 := (h.rows k hk).1
   have h7 := op_cell h hi hk
   have hl : i < (mixr c.fr.length i (fun f => tab c.fr.length fun g => ix (rx c.cs g) f) []).length := by simpa using hi
   simp only
   rw [if_pos (by simp; omega)]
   simp only [Int.toNat_natCast, rx_set hl, List.set_set]
   rw [ass_pos (by simp; omega), ass_pos (by simp; omega), ass_pos (by omega), ass_pos (by omega)]
   by_cases e : ix c.fr i = ix c.to k
   · rw [if_pos e] at h7
     rw [if_pos e, ass_pos (by simp; omega)]
     unfold s_i_opposite_c1_v147 s_i_Category_then
     rw [ass_pos (by omega), ass_pos (by omega), ass_pos (by omega), ass_pos (by omega)]
     simp only [Option.bind_some]
     rw [ass_pos (by simp; omega)]
     simp only [Option.bind_some]
     rw [ass_pos (by unfold B64; omega), ← mixr_set]
   rw [if_neg e] at h7
   rw [if_neg e]
   simp only [Option.bind_some]
   rw [ass_pos (by unfold B64; omega), ← mixr_set, ← h7]
 simp only [Option.bind_some]
 rw [ass_pos (by unfold B64; omega), ← mixr_set]
theorem opC_ok {c : Cat} (h : c.Sh) : (opC c).ok ∧ (opC c).size ≤ 2000 := by
 have h1 := h.lt
 have h2 := h.m40
 have h3 := h.lc
 have h4 := h.li
 have h5 := h.n8
 have hr : ∀ xs ∈ (opC c).cs, xs.length ≤ 40 := by
   intro xs hx
   obtain ⟨i, hi, rfl⟩ := List.mem_map.1 hx
   simpa using h2
 have h7 := sumL_b hr
 have h8 : (opC c).cs.length = c.fr.length := by simp [opC]
 have h9 : (opC c).cs.length * 40 ≤ 40 * 40 := Nat.mul_le_mul_right _ (by omega)
 have e1 : (opC c).fr = c.to := rfl
 have e2 : (opC c).to = c.fr := rfl
 have e3 : (opC c).id = c.id := rfl
 refine ⟨⟨by rw [e1]; omega, by rw [e2]; omega, by rw [e3]; omega, by omega, fun xs hx => by have := hr xs hx; omega, by omega⟩, ?_⟩
 simp only [Cat.size, e1, e2, e3]
 omega
theorem opF_ok {f : Fn} (h : f.Is) : (opF f).ok ∧ (opF f).size ≤ 4048 := by
 have h1 := h.lob
 have h2 := h.lar
 have h3 := opC_ok h.s.1
 have h4 := opC_ok h.t.1
 refine ⟨⟨h3.1, h4.1, by simp only [opF]; omega, by simp only [opF]; omega⟩, ?_⟩
 simp only [Fn.size, opF]
 omega
theorem e_l06Op {f : Fn} (h : f.Is) : s_s_l06Op f = some (opF f) ∧ s_i_Functor_opposite f = some (opF f) := by
 have h1 := h.lob
 have h2 := h.lar
 have h3 := opC_ok h.s.1
 have h4 := opC_ok h.t.1
 constructor
 · unfold s_s_l06Op s_s_l06Make s_s_l02Own s_s_l01Own
   rw [e_l03Op h.s.1, e_l03Op h.t.1]
   simp only [Option.bind_some, ass_pos h3.1, ass_pos h4.1]
   rw [ass_pos (by omega), ass_pos (by omega)]
   rfl
 unfold s_i_Functor_opposite s_i_functor s_i_Category_copy s_i_clone
 rw [e_opposite h.s.1, e_opposite h.t.1]
 simp only [Option.bind_some, ass_pos h3.1, ass_pos h4.1]
 rw [ass_pos (by omega), ass_pos (by omega)]
 rfl
def zeroA : Adj := ⟨zeroF, zeroF, [], []⟩
theorem zeroA_ok : zeroA.ok ∧ zeroA.size ≤ 10000 := by simp [zeroA, Adj.ok, Adj.size, Fn.ok, Fn.size, Cat.ok, Cat.size, zeroF, sumL]
theorem m_OppositeAdjunction (a : Adj) : ∃ r, s_s_OppositeAdjunction a = some r ∧ s_i_OppositeAdjunction a = some r ∧ r.1.ok ∧ r.1.size ≤ 10000 := by
 unfold s_s_OppositeAdjunction s_i_OppositeAdjunction
 rw [e_l15Is, e_isAdj]
 by_cases h : a.Is
 case neg => exact ⟨(zeroA, 1), by simp [bo_neg h, zeroA, zeroF], by simp [bo_neg h, zeroA, zeroF], zeroA_ok⟩
 have hl := h.pre.hl
 have hr := h.pre.hr
 obtain ⟨l1, l2, l3, l4, l5, l6, l7, l8, l9, l10, l11, l12, l13, l14⟩ := h.pre.len
 have o1 := opF_ok hl
 have o2 := opF_ok hr
 have e1 := e_l06Op hl
 have e2 := e_l06Op hr
 refine ⟨(⟨opF a.r, opF a.l, a.k, a.u⟩, 0), ?_, ?_, ⟨o2.1, o1.1, by simp only; omega, by simp only; omega⟩, by simp only [Adj.size]; omega⟩
 · simp only [bo_pos h, Option.bind_some, not_true_eq_false, if_false]
   unfold s_s_l15Op s_s_l01Own
   rw [e1.1, e2.1]
   simp only [Option.bind_some]
   rw [ass_pos (by omega), ass_pos (by omega)]
   rfl
 simp only [bo_pos h, Option.bind_some, not_true_eq_false, if_false]
 unfold s_i_Adjunction_opposite s_i_adjunction s_i_Functor_copy s_i_clone
 rw [e1.2, e2.2]
 simp only [Option.bind_some]
 rw [e_functor o2.1.1 o2.1.2.1 o2.1.2.2.1 o2.1.2.2.2, e_functor o1.1.1 o1.1.2.1 o1.1.2.2.1 o1.1.2.2.2]
 simp only [Option.bind_some]
 rw [ass_pos (by omega), ass_pos (by omega)]
 rfl
end Go.Vc.T
