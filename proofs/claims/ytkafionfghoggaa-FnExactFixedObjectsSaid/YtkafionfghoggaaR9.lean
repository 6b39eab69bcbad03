/- A part of the proof: a verified generator of conditions, and what each function of the program does. -/
import Derived.Test.YtkafionfghoggaaR8
set_option maxRecDepth 100000
set_option linter.unusedSimpArgs false
set_option linter.unusedVariables false

set_option maxRecDepth 100000
set_option linter.unusedSimpArgs false
set_option linter.unusedVariables false
namespace Go.Vc.T
open Go Go.Vc Go.Proofs
set_option maxHeartbeats 8000000 in
theorem law3 (u : Bool) (a : Adj) : Contract Try.prog 3 [.agg (a.cells u)] (.val (.bool true)) := by
 refine contract_intro (rs := [.val (.bool true)]) Try.func3 rfl rfl rfl rfl (by simp [Try.f3]) fun F hN hP => ?_
 obtain ⟨⟨r1, r2, z3⟩, hs, hi, ⟨ok_r1, sz_r1⟩, ⟨ok_r2, sz_r2⟩⟩ := m_FixedObjects a
 have h5 : Bool → Contract Try.prog 16 [.agg (a.cells true)] (.tup [.lst true 1 (Is r1), .lst true 1 (Is r2), .val (.int .i64 z3)]) := fun _ => w_s_FixedObjects a _ hs
 have h7 : Bool → Contract Try.prog 18 [.agg (a.cells true)] (.tup [.lst true 1 (Is r1), .lst true 1 (Is r2), .val (.int .i64 z3)]) := fun _ => w_i_FixedObjects a _ hi
 clear hs hi
 simp only at ok_r1 sz_r1 ok_r2 sz_r2
 refine w_sr mo (by rw [hN]; decide) fun K hK => ?_
 simp [Adj.cells]
 refine hK _ ?_
 clear hK K
 refine w_sr mo (by rw [hN]; decide) fun K hK => ?_
 simp
 refine hK _ ?_
 clear hK K
 refine w_sr mo (by rw [hN]; decide) fun K hK => ?_
 simp
 refine callA_intro (cszAdj u a (1048576) (by omega) (by omega)) (.cons (.aggL Adj.pur) (.cons .val .nil)) ?_
 simp [unk, unA, unE, flat]
 refine hK _ ?_
 clear hK K
 refine w_seq ?_
 refine w_weak (st' := ⟨[(1, .adr 0 0 0), (3, .val (.int .i64 (szAdj (1048576) a)))], [(0, .mix 26 [[.val (.int .i64 a.l.s.n), .lst u 1 (Is a.l.s.fr), .lst u 1 (Is a.l.s.to), .lst u 1 (Is a.l.s.id), .lst u 1 (Ls a.l.s.cs), .val (.int .i64 a.l.t.n), .lst u 1 (Is a.l.t.fr), .lst u 1 (Is a.l.t.to), .lst u 1 (Is a.l.t.id), .lst u 1 (Ls a.l.t.cs), .lst u 1 (Is a.l.ob), .lst u 1 (Is a.l.ar), .val (.int .i64 a.r.s.n), .lst u 1 (Is a.r.s.fr), .lst u 1 (Is a.r.s.to), .lst u 1 (Is a.r.s.id), .lst u 1 (Ls a.r.s.cs), .val (.int .i64 a.r.t.n), .lst u 1 (Is a.r.t.fr), .lst u 1 (Is a.r.t.to), .lst u 1 (Is a.r.t.id), .lst u 1 (Ls a.r.t.cs), .lst u 1 (Is a.r.ob), .lst u 1 (Is a.r.ar), .lst u 1 (Is a.u), .lst u 1 (Is a.k)]])], 1⟩) (Wk.rel [(0, 0)] (by simp) (by simp) (by rw [hP]; simp) (by simp) (by simp) (by simp) (by simp [hhOk, back])) ?_
 refine w_sr mo (by rw [hN]; decide) fun K hK => ?_
 simp
 refine hK _ ?_
 clear hK K
 refine w_cond rfl (fun g0 => ?_) fun g0 => ?_
 · refine w_sr mo (by rw [hN]; decide) fun K hK => ?_
   simp
   refine hK _ ?_
   clear hK K
   refine w_ret (ret_val rfl rfl)
 have ok_a : a.ok := szAdj_ok (l := 1048576) (by omega) (by simpa using g0)
 have sz_a := Adj.ok_size ok_a
 refine w_skip ?_
 refine w_sr mo (by rw [hN]; decide) fun K hK => ?_
 simp
 refine callA_intro (toAdj u a ok_a) (.cons (.aggL Adj.pur) .nil) ?_
 simp [unk, unA, unE, unC, flat, Adj.cells]
 refine callA_intro (h5 true) (.cons (.aggL (.cons .val (.cons (.whole rfl rfl (by simp)) (.cons (.whole rfl rfl (by simp)) (.cons (.whole rfl rfl (by simp)) (.cons (.whole rfl rfl (by simp)) (.cons .val (.cons (.whole rfl rfl (by simp)) (.cons (.whole rfl rfl (by simp)) (.cons (.whole rfl rfl (by simp)) (.cons (.whole rfl rfl (by simp)) (.cons (.whole rfl rfl (by simp)) (.cons (.whole rfl rfl (by simp)) (.cons .val (.cons (.whole rfl rfl (by simp)) (.cons (.whole rfl rfl (by simp)) (.cons (.whole rfl rfl (by simp)) (.cons (.whole rfl rfl (by simp)) (.cons .val (.cons (.whole rfl rfl (by simp)) (.cons (.whole rfl rfl (by simp)) (.cons (.whole rfl rfl (by simp)) (.cons (.whole rfl rfl (by simp)) (.cons (.whole rfl rfl (by simp)) (.cons (.whole rfl rfl (by simp)) (.cons (.whole rfl rfl (by simp)) (.cons (.whole rfl rfl (by simp)) .nil))))))))))))))))))))))))))) .nil) ?_
 simp [unk, unA, unE, unT, unC, flat]
 refine hK _ ?_
 clear hK K
 refine w_weak (st' := ⟨[(1, .adr 0 0 0), (4, .own 1 0 r1.length), (5, .own 2 0 r2.length), (6, .val (.int .i64 z3))], [(0, .mix 26 [[.val (.int .i64 a.l.s.n), .lst u 1 (Is a.l.s.fr), .lst u 1 (Is a.l.s.to), .lst u 1 (Is a.l.s.id), .lst u 1 (Ls a.l.s.cs), .val (.int .i64 a.l.t.n), .lst u 1 (Is a.l.t.fr), .lst u 1 (Is a.l.t.to), .lst u 1 (Is a.l.t.id), .lst u 1 (Ls a.l.t.cs), .lst u 1 (Is a.l.ob), .lst u 1 (Is a.l.ar), .val (.int .i64 a.r.s.n), .lst u 1 (Is a.r.s.fr), .lst u 1 (Is a.r.s.to), .lst u 1 (Is a.r.s.id), .lst u 1 (Ls a.r.s.cs), .val (.int .i64 a.r.t.n), .lst u 1 (Is a.r.t.fr), .lst u 1 (Is a.r.t.to), .lst u 1 (Is a.r.t.id), .lst u 1 (Ls a.r.t.cs), .lst u 1 (Is a.r.ob), .lst u 1 (Is a.r.ar), .lst u 1 (Is a.u), .lst u 1 (Is a.k)]]), (1, .row 1 (Is r1)), (2, .row 1 (Is r2))], 3⟩) (Wk.rel [(0, 0), (27, 1), (28, 2)] (by simp) (by simp) (by rw [hP]; simp) (by simp) (by simp) (by simp) (by simp [hhOk, back])) ?_
 refine w_sr mo (by rw [hN]; decide) fun K hK => ?_
 simp
 refine callA_intro (toAdj u a ok_a) (.cons (.aggL Adj.pur) .nil) ?_
 simp [unk, unA, unE, unC, flat, Adj.cells]
 refine hK _ ?_
 clear hK K
 refine w_weak (st' := ⟨[(1, .adr 0 0 0), (4, .own 1 0 r1.length), (5, .own 2 0 r2.length), (6, .val (.int .i64 z3)), (7, .adr 25 0 0)], [(0, .mix 26 [[.val (.int .i64 a.l.s.n), .lst u 1 (Is a.l.s.fr), .lst u 1 (Is a.l.s.to), .lst u 1 (Is a.l.s.id), .lst u 1 (Ls a.l.s.cs), .val (.int .i64 a.l.t.n), .lst u 1 (Is a.l.t.fr), .lst u 1 (Is a.l.t.to), .lst u 1 (Is a.l.t.id), .lst u 1 (Ls a.l.t.cs), .lst u 1 (Is a.l.ob), .lst u 1 (Is a.l.ar), .val (.int .i64 a.r.s.n), .lst u 1 (Is a.r.s.fr), .lst u 1 (Is a.r.s.to), .lst u 1 (Is a.r.s.id), .lst u 1 (Ls a.r.s.cs), .val (.int .i64 a.r.t.n), .lst u 1 (Is a.r.t.fr), .lst u 1 (Is a.r.t.to), .lst u 1 (Is a.r.t.id), .lst u 1 (Ls a.r.t.cs), .lst u 1 (Is a.r.ob), .lst u 1 (Is a.r.ar), .lst u 1 (Is a.u), .lst u 1 (Is a.k)]]), (1, .row 1 (Is r1)), (2, .row 1 (Is r2)), (3, .row 1 (Is a.l.s.fr)), (4, .row 1 (Is a.l.s.to)), (5, .row 1 (Is a.l.s.id)), (6, .row 1 (Ls a.l.s.cs)), (7, .row 1 (Is a.l.t.fr)), (8, .row 1 (Is a.l.t.to)), (9, .row 1 (Is a.l.t.id)), (10, .row 1 (Ls a.l.t.cs)), (11, .row 1 (Is a.l.ob)), (12, .row 1 (Is a.l.ar)), (13, .row 1 (Is a.r.s.fr)), (14, .row 1 (Is a.r.s.to)), (15, .row 1 (Is a.r.s.id)), (16, .row 1 (Ls a.r.s.cs)), (17, .row 1 (Is a.r.t.fr)), (18, .row 1 (Is a.r.t.to)), (19, .row 1 (Is a.r.t.id)), (20, .row 1 (Ls a.r.t.cs)), (21, .row 1 (Is a.r.ob)), (22, .row 1 (Is a.r.ar)), (23, .row 1 (Is a.u)), (24, .row 1 (Is a.k)), (25, .mix 26 [[.val (.int .i64 a.l.s.n), .own 3 0 a.l.s.fr.length, .own 4 0 a.l.s.to.length, .own 5 0 a.l.s.id.length, .own 6 0 a.l.s.cs.length, .val (.int .i64 a.l.t.n), .own 7 0 a.l.t.fr.length, .own 8 0 a.l.t.to.length, .own 9 0 a.l.t.id.length, .own 10 0 a.l.t.cs.length, .own 11 0 a.l.ob.length, .own 12 0 a.l.ar.length, .val (.int .i64 a.r.s.n), .own 13 0 a.r.s.fr.length, .own 14 0 a.r.s.to.length, .own 15 0 a.r.s.id.length, .own 16 0 a.r.s.cs.length, .val (.int .i64 a.r.t.n), .own 17 0 a.r.t.fr.length, .own 18 0 a.r.t.to.length, .own 19 0 a.r.t.id.length, .own 20 0 a.r.t.cs.length, .own 21 0 a.r.ob.length, .own 22 0 a.r.ar.length, .own 23 0 a.u.length, .own 24 0 a.k.length]])], 26⟩) (Wk.rel [(0, 0), (1, 1), (2, 2), (4, 3), (5, 4), (6, 5), (7, 6), (9, 7), (10, 8), (11, 9), (12, 10), (13, 11), (14, 12), (16, 13), (17, 14), (18, 15), (19, 16), (21, 17), (22, 18), (23, 19), (24, 20), (25, 21), (26, 22), (27, 23), (28, 24), (29, 25)] (by simp) (by simp) (by rw [hP]; simp) (by simp) (by simp) (by simp) (by simp [hhOk, back])) ?_
 refine w_sr mo (by rw [hN]; decide) fun K hK => ?_
 simp
 refine callA_intro (h7 true) (.cons (.aggL (.cons .val (.cons (.whole rfl rfl (by simp)) (.cons (.whole rfl rfl (by simp)) (.cons (.whole rfl rfl (by simp)) (.cons (.whole rfl rfl (by simp)) (.cons .val (.cons (.whole rfl rfl (by simp)) (.cons (.whole rfl rfl (by simp)) (.cons (.whole rfl rfl (by simp)) (.cons (.whole rfl rfl (by simp)) (.cons (.whole rfl rfl (by simp)) (.cons (.whole rfl rfl (by simp)) (.cons .val (.cons (.whole rfl rfl (by simp)) (.cons (.whole rfl rfl (by simp)) (.cons (.whole rfl rfl (by simp)) (.cons (.whole rfl rfl (by simp)) (.cons .val (.cons (.whole rfl rfl (by simp)) (.cons (.whole rfl rfl (by simp)) (.cons (.whole rfl rfl (by simp)) (.cons (.whole rfl rfl (by simp)) (.cons (.whole rfl rfl (by simp)) (.cons (.whole rfl rfl (by simp)) (.cons (.whole rfl rfl (by simp)) (.cons (.whole rfl rfl (by simp)) .nil))))))))))))))))))))))))))) .nil) ?_
 simp [unk, unA, unE, unT, unC, flat]
 refine hK _ ?_
 clear hK K
 refine w_seq ?_
 refine w_weak (st' := ⟨[(1, .adr 0 0 0), (4, .own 1 0 r1.length), (5, .own 2 0 r2.length), (6, .val (.int .i64 z3)), (7, .adr 25 0 0), (8, .own 26 0 r1.length), (9, .own 27 0 r2.length), (10, .val (.int .i64 z3))], [(0, .mix 26 [[.val (.int .i64 a.l.s.n), .lst u 1 (Is a.l.s.fr), .lst u 1 (Is a.l.s.to), .lst u 1 (Is a.l.s.id), .lst u 1 (Ls a.l.s.cs), .val (.int .i64 a.l.t.n), .lst u 1 (Is a.l.t.fr), .lst u 1 (Is a.l.t.to), .lst u 1 (Is a.l.t.id), .lst u 1 (Ls a.l.t.cs), .lst u 1 (Is a.l.ob), .lst u 1 (Is a.l.ar), .val (.int .i64 a.r.s.n), .lst u 1 (Is a.r.s.fr), .lst u 1 (Is a.r.s.to), .lst u 1 (Is a.r.s.id), .lst u 1 (Ls a.r.s.cs), .val (.int .i64 a.r.t.n), .lst u 1 (Is a.r.t.fr), .lst u 1 (Is a.r.t.to), .lst u 1 (Is a.r.t.id), .lst u 1 (Ls a.r.t.cs), .lst u 1 (Is a.r.ob), .lst u 1 (Is a.r.ar), .lst u 1 (Is a.u), .lst u 1 (Is a.k)]]), (1, .row 1 (Is r1)), (2, .row 1 (Is r2)), (3, .row 1 (Is a.l.s.fr)), (4, .row 1 (Is a.l.s.to)), (5, .row 1 (Is a.l.s.id)), (6, .row 1 (Ls a.l.s.cs)), (7, .row 1 (Is a.l.t.fr)), (8, .row 1 (Is a.l.t.to)), (9, .row 1 (Is a.l.t.id)), (10, .row 1 (Ls a.l.t.cs)), (11, .row 1 (Is a.l.ob)), (12, .row 1 (Is a.l.ar)), (13, .row 1 (Is a.r.s.fr)), (14, .row 1 (Is a.r.s.to)), (15, .row 1 (Is a.r.s.id)), (16, .row 1 (Ls a.r.s.cs)), (17, .row 1 (Is a.r.t.fr)), (18, .row 1 (Is a.r.t.to)), (19, .row 1 (Is a.r.t.id)), (20, .row 1 (Ls a.r.t.cs)), (21, .row 1 (Is a.r.ob)), (22, .row 1 (Is a.r.ar)), (23, .row 1 (Is a.u)), (24, .row 1 (Is a.k)), (25, .mix 26 [[.val (.int .i64 a.l.s.n), .own 3 0 a.l.s.fr.length, .own 4 0 a.l.s.to.length, .own 5 0 a.l.s.id.length, .own 6 0 a.l.s.cs.length, .val (.int .i64 a.l.t.n), .own 7 0 a.l.t.fr.length, .own 8 0 a.l.t.to.length, .own 9 0 a.l.t.id.length, .own 10 0 a.l.t.cs.length, .own 11 0 a.l.ob.length, .own 12 0 a.l.ar.length, .val (.int .i64 a.r.s.n), .own 13 0 a.r.s.fr.length, .own 14 0 a.r.s.to.length, .own 15 0 a.r.s.id.length, .own 16 0 a.r.s.cs.length, .val (.int .i64 a.r.t.n), .own 17 0 a.r.t.fr.length, .own 18 0 a.r.t.to.length, .own 19 0 a.r.t.id.length, .own 20 0 a.r.t.cs.length, .own 21 0 a.r.ob.length, .own 22 0 a.r.ar.length, .own 23 0 a.u.length, .own 24 0 a.k.length]]), (26, .row 1 (Is r1)), (27, .row 1 (Is r2))], 28⟩) (Wk.rel [(0, 0), (1, 1), (2, 2), (3, 3), (4, 4), (5, 5), (6, 6), (7, 7), (8, 8), (9, 9), (10, 10), (11, 11), (12, 12), (13, 13), (14, 14), (15, 15), (16, 16), (17, 17), (18, 18), (19, 19), (20, 20), (21, 21), (22, 22), (23, 23), (24, 24), (25, 25), (26, 26), (27, 27)] (by simp) (by simp) (by rw [hP]; simp) (by simp) (by simp) (by simp) (by simp [hhOk, back])) ?_
 refine w_sr mo (by rw [hN]; decide) fun K hK => ?_
 simp
 refine callA_intro (c29 true true r1 r1) (.cons (.whole rfl rfl (by simp)) (.cons (.whole rfl rfl (by simp)) .nil)) ?_
 simp [unk, unA, unE, flat]
 refine callA_intro (c29 true true r2 r2) (.cons (.whole rfl rfl (by simp)) (.cons (.whole rfl rfl (by simp)) .nil)) ?_
 simp [unk, unA, unE, flat]
 refine hK _ ?_
 clear hK K
 refine w_cond rfl (fun h => by simp at h) fun _ => ?_
 refine w_skip ?_
 refine w_seq ?_
 refine w_weak (st' := ⟨[(1, .adr 0 0 0), (4, .own 1 0 r1.length), (5, .own 2 0 r2.length), (6, .val (.int .i64 z3)), (7, .adr 25 0 0), (8, .own 26 0 r1.length), (9, .own 27 0 r2.length), (10, .val (.int .i64 z3))], [(0, .mix 26 [[.val (.int .i64 a.l.s.n), .lst u 1 (Is a.l.s.fr), .lst u 1 (Is a.l.s.to), .lst u 1 (Is a.l.s.id), .lst u 1 (Ls a.l.s.cs), .val (.int .i64 a.l.t.n), .lst u 1 (Is a.l.t.fr), .lst u 1 (Is a.l.t.to), .lst u 1 (Is a.l.t.id), .lst u 1 (Ls a.l.t.cs), .lst u 1 (Is a.l.ob), .lst u 1 (Is a.l.ar), .val (.int .i64 a.r.s.n), .lst u 1 (Is a.r.s.fr), .lst u 1 (Is a.r.s.to), .lst u 1 (Is a.r.s.id), .lst u 1 (Ls a.r.s.cs), .val (.int .i64 a.r.t.n), .lst u 1 (Is a.r.t.fr), .lst u 1 (Is a.r.t.to), .lst u 1 (Is a.r.t.id), .lst u 1 (Ls a.r.t.cs), .lst u 1 (Is a.r.ob), .lst u 1 (Is a.r.ar), .lst u 1 (Is a.u), .lst u 1 (Is a.k)]]), (1, .row 1 (Is r1)), (2, .row 1 (Is r2)), (3, .row 1 (Is a.l.s.fr)), (4, .row 1 (Is a.l.s.to)), (5, .row 1 (Is a.l.s.id)), (6, .row 1 (Ls a.l.s.cs)), (7, .row 1 (Is a.l.t.fr)), (8, .row 1 (Is a.l.t.to)), (9, .row 1 (Is a.l.t.id)), (10, .row 1 (Ls a.l.t.cs)), (11, .row 1 (Is a.l.ob)), (12, .row 1 (Is a.l.ar)), (13, .row 1 (Is a.r.s.fr)), (14, .row 1 (Is a.r.s.to)), (15, .row 1 (Is a.r.s.id)), (16, .row 1 (Ls a.r.s.cs)), (17, .row 1 (Is a.r.t.fr)), (18, .row 1 (Is a.r.t.to)), (19, .row 1 (Is a.r.t.id)), (20, .row 1 (Ls a.r.t.cs)), (21, .row 1 (Is a.r.ob)), (22, .row 1 (Is a.r.ar)), (23, .row 1 (Is a.u)), (24, .row 1 (Is a.k)), (25, .mix 26 [[.val (.int .i64 a.l.s.n), .own 3 0 a.l.s.fr.length, .own 4 0 a.l.s.to.length, .own 5 0 a.l.s.id.length, .own 6 0 a.l.s.cs.length, .val (.int .i64 a.l.t.n), .own 7 0 a.l.t.fr.length, .own 8 0 a.l.t.to.length, .own 9 0 a.l.t.id.length, .own 10 0 a.l.t.cs.length, .own 11 0 a.l.ob.length, .own 12 0 a.l.ar.length, .val (.int .i64 a.r.s.n), .own 13 0 a.r.s.fr.length, .own 14 0 a.r.s.to.length, .own 15 0 a.r.s.id.length, .own 16 0 a.r.s.cs.length, .val (.int .i64 a.r.t.n), .own 17 0 a.r.t.fr.length, .own 18 0 a.r.t.to.length, .own 19 0 a.r.t.id.length, .own 20 0 a.r.t.cs.length, .own 21 0 a.r.ob.length, .own 22 0 a.r.ar.length, .own 23 0 a.u.length, .own 24 0 a.k.length]]), (26, .row 1 (Is r1)), (27, .row 1 (Is r2))], 28⟩) (Wk.rel [(0, 0), (1, 1), (2, 2), (3, 3), (4, 4), (5, 5), (6, 6), (7, 7), (8, 8), (9, 9), (10, 10), (11, 11), (12, 12), (13, 13), (14, 14), (15, 15), (16, 16), (17, 17), (18, 18), (19, 19), (20, 20), (21, 21), (22, 22), (23, 23), (24, 24), (25, 25), (26, 26), (27, 27)] (by simp) (by simp) (by rw [hP]; simp) (by simp) (by simp) (by simp) (by simp [hhOk, back])) ?_
 refine w_sr mo (by rw [hN]; decide) fun K hK => ?_
 simp
 refine callA_intro (toAdj u a ok_a) (.cons (.aggL Adj.pur) .nil) ?_
 simp [unk, unA, unE, unC, flat, Adj.cells]
 refine callA_intro (eqAdj true true a) (.cons (.aggL (.cons .val (.cons (.whole rfl rfl (by simp)) (.cons (.whole rfl rfl (by simp)) (.cons (.whole rfl rfl (by simp)) (.cons (.whole rfl rfl (by simp)) (.cons .val (.cons (.whole rfl rfl (by simp)) (.cons (.whole rfl rfl (by simp)) (.cons (.whole rfl rfl (by simp)) (.cons (.whole rfl rfl (by simp)) (.cons (.whole rfl rfl (by simp)) (.cons (.whole rfl rfl (by simp)) (.cons .val (.cons (.whole rfl rfl (by simp)) (.cons (.whole rfl rfl (by simp)) (.cons (.whole rfl rfl (by simp)) (.cons (.whole rfl rfl (by simp)) (.cons .val (.cons (.whole rfl rfl (by simp)) (.cons (.whole rfl rfl (by simp)) (.cons (.whole rfl rfl (by simp)) (.cons (.whole rfl rfl (by simp)) (.cons (.whole rfl rfl (by simp)) (.cons (.whole rfl rfl (by simp)) (.cons (.whole rfl rfl (by simp)) (.cons (.whole rfl rfl (by simp)) .nil))))))))))))))))))))))))))) (.cons (.aggL (.cons .val (.cons (.whole rfl rfl (by simp)) (.cons (.whole rfl rfl (by simp)) (.cons (.whole rfl rfl (by simp)) (.cons (.whole rfl rfl (by simp)) (.cons .val (.cons (.whole rfl rfl (by simp)) (.cons (.whole rfl rfl (by simp)) (.cons (.whole rfl rfl (by simp)) (.cons (.whole rfl rfl (by simp)) (.cons (.whole rfl rfl (by simp)) (.cons (.whole rfl rfl (by simp)) (.cons .val (.cons (.whole rfl rfl (by simp)) (.cons (.whole rfl rfl (by simp)) (.cons (.whole rfl rfl (by simp)) (.cons (.whole rfl rfl (by simp)) (.cons .val (.cons (.whole rfl rfl (by simp)) (.cons (.whole rfl rfl (by simp)) (.cons (.whole rfl rfl (by simp)) (.cons (.whole rfl rfl (by simp)) (.cons (.whole rfl rfl (by simp)) (.cons (.whole rfl rfl (by simp)) (.cons (.whole rfl rfl (by simp)) (.cons (.whole rfl rfl (by simp)) .nil))))))))))))))))))))))))))) .nil)) ?_
 simp [unk, unA, unE, flat]
 refine hK _ ?_
 clear hK K
 refine w_cond rfl (fun h => by simp at h) fun _ => ?_
 refine w_skip ?_
 refine w_weak (st' := ⟨[(1, .adr 0 0 0), (4, .own 1 0 r1.length), (5, .own 2 0 r2.length), (6, .val (.int .i64 z3)), (7, .adr 25 0 0), (8, .own 26 0 r1.length), (9, .own 27 0 r2.length), (10, .val (.int .i64 z3))], [(0, .mix 26 [[.val (.int .i64 a.l.s.n), .lst u 1 (Is a.l.s.fr), .lst u 1 (Is a.l.s.to), .lst u 1 (Is a.l.s.id), .lst u 1 (Ls a.l.s.cs), .val (.int .i64 a.l.t.n), .lst u 1 (Is a.l.t.fr), .lst u 1 (Is a.l.t.to), .lst u 1 (Is a.l.t.id), .lst u 1 (Ls a.l.t.cs), .lst u 1 (Is a.l.ob), .lst u 1 (Is a.l.ar), .val (.int .i64 a.r.s.n), .lst u 1 (Is a.r.s.fr), .lst u 1 (Is a.r.s.to), .lst u 1 (Is a.r.s.id), .lst u 1 (Ls a.r.s.cs), .val (.int .i64 a.r.t.n), .lst u 1 (Is a.r.t.fr), .lst u 1 (Is a.r.t.to), .lst u 1 (Is a.r.t.id), .lst u 1 (Ls a.r.t.cs), .lst u 1 (Is a.r.ob), .lst u 1 (Is a.r.ar), .lst u 1 (Is a.u), .lst u 1 (Is a.k)]]), (1, .row 1 (Is r1)), (2, .row 1 (Is r2)), (3, .row 1 (Is a.l.s.fr)), (4, .row 1 (Is a.l.s.to)), (5, .row 1 (Is a.l.s.id)), (6, .row 1 (Ls a.l.s.cs)), (7, .row 1 (Is a.l.t.fr)), (8, .row 1 (Is a.l.t.to)), (9, .row 1 (Is a.l.t.id)), (10, .row 1 (Ls a.l.t.cs)), (11, .row 1 (Is a.l.ob)), (12, .row 1 (Is a.l.ar)), (13, .row 1 (Is a.r.s.fr)), (14, .row 1 (Is a.r.s.to)), (15, .row 1 (Is a.r.s.id)), (16, .row 1 (Ls a.r.s.cs)), (17, .row 1 (Is a.r.t.fr)), (18, .row 1 (Is a.r.t.to)), (19, .row 1 (Is a.r.t.id)), (20, .row 1 (Ls a.r.t.cs)), (21, .row 1 (Is a.r.ob)), (22, .row 1 (Is a.r.ar)), (23, .row 1 (Is a.u)), (24, .row 1 (Is a.k)), (25, .mix 26 [[.val (.int .i64 a.l.s.n), .own 3 0 a.l.s.fr.length, .own 4 0 a.l.s.to.length, .own 5 0 a.l.s.id.length, .own 6 0 a.l.s.cs.length, .val (.int .i64 a.l.t.n), .own 7 0 a.l.t.fr.length, .own 8 0 a.l.t.to.length, .own 9 0 a.l.t.id.length, .own 10 0 a.l.t.cs.length, .own 11 0 a.l.ob.length, .own 12 0 a.l.ar.length, .val (.int .i64 a.r.s.n), .own 13 0 a.r.s.fr.length, .own 14 0 a.r.s.to.length, .own 15 0 a.r.s.id.length, .own 16 0 a.r.s.cs.length, .val (.int .i64 a.r.t.n), .own 17 0 a.r.t.fr.length, .own 18 0 a.r.t.to.length, .own 19 0 a.r.t.id.length, .own 20 0 a.r.t.cs.length, .own 21 0 a.r.ob.length, .own 22 0 a.r.ar.length, .own 23 0 a.u.length, .own 24 0 a.k.length]]), (26, .row 1 (Is r1)), (27, .row 1 (Is r2))], 28⟩) (Wk.rel [(0, 0), (1, 1), (2, 2), (3, 3), (4, 4), (5, 5), (6, 6), (7, 7), (8, 8), (9, 9), (10, 10), (11, 11), (12, 12), (13, 13), (14, 14), (15, 15), (16, 16), (17, 17), (18, 18), (19, 19), (20, 20), (21, 21), (22, 22), (23, 23), (24, 24), (25, 25), (26, 26), (27, 27)] (by simp) (by simp) (by rw [hP]; simp) (by simp) (by simp) (by simp) (by simp [hhOk, back])) ?_
 refine w_sr mo (by rw [hN]; decide) fun K hK => ?_
 simp
 refine hK _ ?_
 clear hK K
 refine w_srM mo (by rw [hN]; decide) fun K hK => ?_
 simp
 refine callA_roots (m := [3, 4, 5, 6, 7, 8, 9, 10, 11, 12, 13, 14, 15, 16, 17, 18, 19, 20, 21, 22, 23, 24]) (markAdj a (1) ok_a (by omega) (by omega)) (by decide) (.cons rfl (.cons rfl (.cons rfl (.cons rfl (.cons rfl (.cons rfl (.cons rfl (.cons rfl (.cons rfl (.cons rfl (.cons rfl (.cons rfl (.cons rfl (.cons rfl (.cons rfl (.cons rfl (.cons rfl (.cons rfl (.cons rfl (.cons rfl (.cons rfl (.cons rfl .nil)))))))))))))))))))))) (.cons (.aggL (.cons .val (.cons (.own (j := 0) (by decide)) (.cons (.own (j := 1) (by decide)) (.cons (.own (j := 2) (by decide)) (.cons (.own (j := 3) (by decide)) (.cons .val (.cons (.own (j := 4) (by decide)) (.cons (.own (j := 5) (by decide)) (.cons (.own (j := 6) (by decide)) (.cons (.own (j := 7) (by decide)) (.cons (.own (j := 8) (by decide)) (.cons (.own (j := 9) (by decide)) (.cons .val (.cons (.own (j := 10) (by decide)) (.cons (.own (j := 11) (by decide)) (.cons (.own (j := 12) (by decide)) (.cons (.own (j := 13) (by decide)) (.cons .val (.cons (.own (j := 14) (by decide)) (.cons (.own (j := 15) (by decide)) (.cons (.own (j := 16) (by decide)) (.cons (.own (j := 17) (by decide)) (.cons (.own (j := 18) (by decide)) (.cons (.own (j := 19) (by decide)) (.cons (.own (j := 20) (by decide)) (.cons (.own (j := 21) (by decide)) .nil))))))))))))))))))))))))))) (.cons .val .nil)) rfl (by simp) ?_
 simp [rsets, Adj.mu]
 refine hK _ ?_
 clear hK K
 refine w_seq ?_
 refine w_weak (st' := ⟨[(1, .adr 0 0 0), (4, .own 1 0 r1.length), (5, .own 2 0 r2.length), (6, .val (.int .i64 z3)), (8, .own 3 0 r1.length), (9, .own 4 0 r2.length), (10, .val (.int .i64 z3)), (11, .val (.int .i64 (1 + a.size)))], [(0, .mix 26 [[.val (.int .i64 a.l.s.n), .lst u 1 (Is a.l.s.fr), .lst u 1 (Is a.l.s.to), .lst u 1 (Is a.l.s.id), .lst u 1 (Ls a.l.s.cs), .val (.int .i64 a.l.t.n), .lst u 1 (Is a.l.t.fr), .lst u 1 (Is a.l.t.to), .lst u 1 (Is a.l.t.id), .lst u 1 (Ls a.l.t.cs), .lst u 1 (Is a.l.ob), .lst u 1 (Is a.l.ar), .val (.int .i64 a.r.s.n), .lst u 1 (Is a.r.s.fr), .lst u 1 (Is a.r.s.to), .lst u 1 (Is a.r.s.id), .lst u 1 (Ls a.r.s.cs), .val (.int .i64 a.r.t.n), .lst u 1 (Is a.r.t.fr), .lst u 1 (Is a.r.t.to), .lst u 1 (Is a.r.t.id), .lst u 1 (Ls a.r.t.cs), .lst u 1 (Is a.r.ob), .lst u 1 (Is a.r.ar), .lst u 1 (Is a.u), .lst u 1 (Is a.k)]]), (1, .row 1 (Is r1)), (2, .row 1 (Is r2)), (3, .row 1 (Is r1)), (4, .row 1 (Is r2))], 5⟩) (Wk.rel [(0, 0), (1, 1), (2, 2), (26, 3), (27, 4)] (by simp) (by simp) (by rw [hP]; simp) (by simp) (by simp) (by simp) (by simp [hhOk, back, Adj.mark, Fn.mark, Cat.mark])) ?_
 refine w_sr mo (by rw [hN]; decide) fun K hK => ?_
 simp [show ¬ (((1 : Int) + a.size) < 0) by omega]
 refine callA_intro (c29 true true r1 r1) (.cons (.whole rfl rfl (by simp)) (.cons (.whole rfl rfl (by simp)) .nil)) ?_
 simp [unk, unA, unE, flat]
 refine callA_intro (c29 true true r2 r2) (.cons (.whole rfl rfl (by simp)) (.cons (.whole rfl rfl (by simp)) .nil)) ?_
 simp [unk, unA, unE, flat]
 refine hK _ ?_
 clear hK K
 refine w_cond rfl (fun h => by simp at h) fun _ => ?_
 refine w_skip ?_
 refine w_weak (st' := ⟨[(1, .adr 0 0 0), (4, .own 1 0 r1.length), (5, .own 2 0 r2.length), (6, .val (.int .i64 z3)), (8, .own 3 0 r1.length), (9, .own 4 0 r2.length)], [(0, .mix 26 [[.val (.int .i64 a.l.s.n), .lst u 1 (Is a.l.s.fr), .lst u 1 (Is a.l.s.to), .lst u 1 (Is a.l.s.id), .lst u 1 (Ls a.l.s.cs), .val (.int .i64 a.l.t.n), .lst u 1 (Is a.l.t.fr), .lst u 1 (Is a.l.t.to), .lst u 1 (Is a.l.t.id), .lst u 1 (Ls a.l.t.cs), .lst u 1 (Is a.l.ob), .lst u 1 (Is a.l.ar), .val (.int .i64 a.r.s.n), .lst u 1 (Is a.r.s.fr), .lst u 1 (Is a.r.s.to), .lst u 1 (Is a.r.s.id), .lst u 1 (Ls a.r.s.cs), .val (.int .i64 a.r.t.n), .lst u 1 (Is a.r.t.fr), .lst u 1 (Is a.r.t.to), .lst u 1 (Is a.r.t.id), .lst u 1 (Ls a.r.t.cs), .lst u 1 (Is a.r.ob), .lst u 1 (Is a.r.ar), .lst u 1 (Is a.u), .lst u 1 (Is a.k)]]), (1, .row 1 (Is r1)), (2, .row 1 (Is r2)), (3, .row 1 (Is r1)), (4, .row 1 (Is r2))], 5⟩) (Wk.rel [(0, 0), (1, 1), (2, 2), (3, 3), (4, 4)] (by simp) (by simp) (by rw [hP]; simp) (by simp) (by simp) (by simp) (by simp [hhOk, back])) ?_
 refine w_sr mo (by rw [hN]; decide) fun K hK => ?_
 simp
 refine hK _ ?_
 clear hK K
 refine w_srM mo (by rw [hN]; decide) fun K hK => ?_
 simp
 refine callA_root (m32 r1 (1) ok_r1 (by omega) (by omega)) rfl (by simp) ?_
 simp
 refine hK _ ?_
 clear hK K
 refine w_weak (st' := ⟨[(1, .adr 0 0 0), (4, .own 1 0 r1.length), (5, .own 2 0 r2.length), (6, .val (.int .i64 z3)), (8, .own 3 0 r1.length), (9, .own 4 0 r2.length), (12, .val (.int .i64 (1 + r1.length)))], [(0, .mix 26 [[.val (.int .i64 a.l.s.n), .lst u 1 (Is a.l.s.fr), .lst u 1 (Is a.l.s.to), .lst u 1 (Is a.l.s.id), .lst u 1 (Ls a.l.s.cs), .val (.int .i64 a.l.t.n), .lst u 1 (Is a.l.t.fr), .lst u 1 (Is a.l.t.to), .lst u 1 (Is a.l.t.id), .lst u 1 (Ls a.l.t.cs), .lst u 1 (Is a.l.ob), .lst u 1 (Is a.l.ar), .val (.int .i64 a.r.s.n), .lst u 1 (Is a.r.s.fr), .lst u 1 (Is a.r.s.to), .lst u 1 (Is a.r.s.id), .lst u 1 (Ls a.r.s.cs), .val (.int .i64 a.r.t.n), .lst u 1 (Is a.r.t.fr), .lst u 1 (Is a.r.t.to), .lst u 1 (Is a.r.t.id), .lst u 1 (Ls a.r.t.cs), .lst u 1 (Is a.r.ob), .lst u 1 (Is a.r.ar), .lst u 1 (Is a.u), .lst u 1 (Is a.k)]]), (1, .row 1 (Is r1)), (2, .row 1 (Is r2)), (3, .row 1 (Is (run (1) r1.length))), (4, .row 1 (Is r2))], 5⟩) (Wk.rel [(0, 0), (1, 1), (2, 2), (3, 3), (4, 4)] (by simp) (by simp) (by rw [hP]; simp) (by simp) (by simp) (by simp) (by simp [hhOk, back])) ?_
 refine w_srM mo (by rw [hN]; decide) fun K hK => ?_
 simp
 refine callA_root (m32 r2 ((1 + r1.length)) ok_r2 (by omega) (by omega)) rfl (by simp) ?_
 simp
 refine hK _ ?_
 clear hK K
 refine w_weak (st' := ⟨[(1, .adr 0 0 0), (4, .own 1 0 r1.length), (5, .own 2 0 r2.length), (6, .val (.int .i64 z3)), (8, .own 3 0 r1.length), (9, .own 4 0 r2.length), (12, .val (.int .i64 ((1 + r1.length) + r2.length)))], [(0, .mix 26 [[.val (.int .i64 a.l.s.n), .lst u 1 (Is a.l.s.fr), .lst u 1 (Is a.l.s.to), .lst u 1 (Is a.l.s.id), .lst u 1 (Ls a.l.s.cs), .val (.int .i64 a.l.t.n), .lst u 1 (Is a.l.t.fr), .lst u 1 (Is a.l.t.to), .lst u 1 (Is a.l.t.id), .lst u 1 (Ls a.l.t.cs), .lst u 1 (Is a.l.ob), .lst u 1 (Is a.l.ar), .val (.int .i64 a.r.s.n), .lst u 1 (Is a.r.s.fr), .lst u 1 (Is a.r.s.to), .lst u 1 (Is a.r.s.id), .lst u 1 (Ls a.r.s.cs), .val (.int .i64 a.r.t.n), .lst u 1 (Is a.r.t.fr), .lst u 1 (Is a.r.t.to), .lst u 1 (Is a.r.t.id), .lst u 1 (Ls a.r.t.cs), .lst u 1 (Is a.r.ob), .lst u 1 (Is a.r.ar), .lst u 1 (Is a.u), .lst u 1 (Is a.k)]]), (1, .row 1 (Is r1)), (2, .row 1 (Is r2)), (3, .row 1 (Is (run (1) r1.length))), (4, .row 1 (Is (run ((1 + r1.length)) r2.length)))], 5⟩) (Wk.rel [(0, 0), (1, 1), (2, 2), (3, 3), (4, 4)] (by simp) (by simp) (by rw [hP]; simp) (by simp) (by simp) (by simp) (by simp [hhOk, back])) ?_
 refine w_sr mo (by rw [hN]; decide) fun K hK => ?_
 simp
 refine hK _ ?_
 clear hK K
 refine w_sr mo (by rw [hN]; decide) fun K hK => ?_
 simp
 refine callA_intro (c53 true (run (1) r1.length) (1) (by simpa using ok_r1) (by omega) (by omega)) (.cons (.whole rfl rfl (by simp)) (.cons .val .nil)) ?_
 simp [unk, unA, unE, flat]
 refine hK _ ?_
 clear hK K
 refine w_seq ?_
 refine w_weak (st' := ⟨[(1, .adr 0 0 0), (4, .own 1 0 r1.length), (5, .own 2 0 r2.length), (6, .val (.int .i64 z3)), (8, .own 3 0 r1.length), (9, .own 4 0 r2.length), (12, .val (.int .i64 ((1 + r1.length) + r2.length))), (13, .val (.int .i64 (1 + r1.length)))], [(0, .mix 26 [[.val (.int .i64 a.l.s.n), .lst u 1 (Is a.l.s.fr), .lst u 1 (Is a.l.s.to), .lst u 1 (Is a.l.s.id), .lst u 1 (Ls a.l.s.cs), .val (.int .i64 a.l.t.n), .lst u 1 (Is a.l.t.fr), .lst u 1 (Is a.l.t.to), .lst u 1 (Is a.l.t.id), .lst u 1 (Ls a.l.t.cs), .lst u 1 (Is a.l.ob), .lst u 1 (Is a.l.ar), .val (.int .i64 a.r.s.n), .lst u 1 (Is a.r.s.fr), .lst u 1 (Is a.r.s.to), .lst u 1 (Is a.r.s.id), .lst u 1 (Ls a.r.s.cs), .val (.int .i64 a.r.t.n), .lst u 1 (Is a.r.t.fr), .lst u 1 (Is a.r.t.to), .lst u 1 (Is a.r.t.id), .lst u 1 (Ls a.r.t.cs), .lst u 1 (Is a.r.ob), .lst u 1 (Is a.r.ar), .lst u 1 (Is a.u), .lst u 1 (Is a.k)]]), (1, .row 1 (Is r1)), (2, .row 1 (Is r2)), (3, .row 1 (Is (run (1) r1.length))), (4, .row 1 (Is (run ((1 + r1.length)) r2.length)))], 5⟩) (Wk.rel [(0, 0), (1, 1), (2, 2), (3, 3), (4, 4)] (by simp) (by simp) (by rw [hP]; simp) (by simp) (by simp) (by simp) (by simp [hhOk, back])) ?_
 refine w_sr mo (by rw [hN]; decide) fun K hK => ?_
 simp
 refine hK _ ?_
 clear hK K
 refine w_cond rfl (fun g => ?_) fun g => ?_
 · simp at g
   omega
 refine w_skip ?_
 refine w_sr mo (by rw [hN]; decide) fun K hK => ?_
 simp
 refine callA_intro (c53 true (run ((1 + r1.length)) r2.length) ((1 + r1.length)) (by simpa using ok_r2) (by omega) (by omega)) (.cons (.whole rfl rfl (by simp)) (.cons .val .nil)) ?_
 simp [unk, unA, unE, flat]
 refine hK _ ?_
 clear hK K
 refine w_seq ?_
 refine w_weak (st' := ⟨[(1, .adr 0 0 0), (4, .own 1 0 r1.length), (5, .own 2 0 r2.length), (6, .val (.int .i64 z3)), (8, .own 3 0 r1.length), (9, .own 4 0 r2.length), (12, .val (.int .i64 ((1 + r1.length) + r2.length))), (13, .val (.int .i64 ((1 + r1.length) + r2.length)))], [(0, .mix 26 [[.val (.int .i64 a.l.s.n), .lst u 1 (Is a.l.s.fr), .lst u 1 (Is a.l.s.to), .lst u 1 (Is a.l.s.id), .lst u 1 (Ls a.l.s.cs), .val (.int .i64 a.l.t.n), .lst u 1 (Is a.l.t.fr), .lst u 1 (Is a.l.t.to), .lst u 1 (Is a.l.t.id), .lst u 1 (Ls a.l.t.cs), .lst u 1 (Is a.l.ob), .lst u 1 (Is a.l.ar), .val (.int .i64 a.r.s.n), .lst u 1 (Is a.r.s.fr), .lst u 1 (Is a.r.s.to), .lst u 1 (Is a.r.s.id), .lst u 1 (Ls a.r.s.cs), .val (.int .i64 a.r.t.n), .lst u 1 (Is a.r.t.fr), .lst u 1 (Is a.r.t.to), .lst u 1 (Is a.r.t.id), .lst u 1 (Ls a.r.t.cs), .lst u 1 (Is a.r.ob), .lst u 1 (Is a.r.ar), .lst u 1 (Is a.u), .lst u 1 (Is a.k)]]), (1, .row 1 (Is r1)), (2, .row 1 (Is r2)), (3, .row 1 (Is (run (1) r1.length))), (4, .row 1 (Is (run ((1 + r1.length)) r2.length)))], 5⟩) (Wk.rel [(0, 0), (1, 1), (2, 2), (3, 3), (4, 4)] (by simp) (by simp) (by rw [hP]; simp) (by simp) (by simp) (by simp) (by simp [hhOk, back])) ?_
 refine w_sr mo (by rw [hN]; decide) fun K hK => ?_
 simp
 refine hK _ ?_
 clear hK K
 refine w_cond rfl (fun g => ?_) fun g => ?_
 · simp at g
   omega
 refine w_skip ?_
 refine w_seq ?_
 refine w_sr mo (by rw [hN]; decide) fun K hK => ?_
 simp
 refine hK _ ?_
 clear hK K
 refine w_cond rfl (fun h => by simp at h) fun _ => ?_
 refine w_skip ?_
 refine w_sr mo (by rw [hN]; decide) fun K hK => ?_
 simp
 refine callA_intro (toAdj u a ok_a) (.cons (.aggL Adj.pur) .nil) ?_
 simp [unk, unA, unE, unC, flat, Adj.cells]
 refine callA_intro (h7 true) (.cons (.aggL (.cons .val (.cons (.whole rfl rfl (by simp)) (.cons (.whole rfl rfl (by simp)) (.cons (.whole rfl rfl (by simp)) (.cons (.whole rfl rfl (by simp)) (.cons .val (.cons (.whole rfl rfl (by simp)) (.cons (.whole rfl rfl (by simp)) (.cons (.whole rfl rfl (by simp)) (.cons (.whole rfl rfl (by simp)) (.cons (.whole rfl rfl (by simp)) (.cons (.whole rfl rfl (by simp)) (.cons .val (.cons (.whole rfl rfl (by simp)) (.cons (.whole rfl rfl (by simp)) (.cons (.whole rfl rfl (by simp)) (.cons (.whole rfl rfl (by simp)) (.cons .val (.cons (.whole rfl rfl (by simp)) (.cons (.whole rfl rfl (by simp)) (.cons (.whole rfl rfl (by simp)) (.cons (.whole rfl rfl (by simp)) (.cons (.whole rfl rfl (by simp)) (.cons (.whole rfl rfl (by simp)) (.cons (.whole rfl rfl (by simp)) (.cons (.whole rfl rfl (by simp)) .nil))))))))))))))))))))))))))) .nil) ?_
 simp [unk, unA, unE, unT, unC, flat]
 refine hK _ ?_
 clear hK K
 refine w_seq ?_
 refine w_weak (st' := ⟨[(4, .own 0 0 r1.length), (5, .own 1 0 r2.length), (6, .val (.int .i64 z3)), (8, .own 2 0 r1.length), (9, .own 3 0 r2.length), (12, .val (.int .i64 ((1 + r1.length) + r2.length))), (13, .val (.int .i64 ((1 + r1.length) + r2.length))), (14, .own 4 0 r1.length), (15, .own 5 0 r2.length), (16, .val (.int .i64 z3))], [(0, .row 1 (Is r1)), (1, .row 1 (Is r2)), (2, .row 1 (Is (run (1) r1.length))), (3, .row 1 (Is (run ((1 + r1.length)) r2.length))), (4, .row 1 (Is r1)), (5, .row 1 (Is r2))], 6⟩) (Wk.rel [(1, 0), (2, 1), (3, 2), (4, 3), (31, 4), (32, 5)] (by simp) (by simp) (by rw [hP]; simp) (by simp) (by simp) (by simp) (by simp [hhOk, back])) ?_
 refine w_sr mo (by rw [hN]; decide) fun K hK => ?_
 simp
 refine callA_intro (c29 true true r1 r1) (.cons (.whole rfl rfl (by simp)) (.cons (.whole rfl rfl (by simp)) .nil)) ?_
 simp [unk, unA, unE, flat]
 refine callA_intro (c29 true true r2 r2) (.cons (.whole rfl rfl (by simp)) (.cons (.whole rfl rfl (by simp)) .nil)) ?_
 simp [unk, unA, unE, flat]
 refine hK _ ?_
 clear hK K
 refine w_cond rfl (fun h => by simp at h) fun _ => ?_
 refine w_skip ?_
 refine w_weak (st' := ⟨[(8, .own 0 0 r1.length), (9, .own 1 0 r2.length), (12, .val (.int .i64 ((1 + r1.length) + r2.length))), (13, .val (.int .i64 ((1 + r1.length) + r2.length)))], [(0, .row 1 (Is (run (1) r1.length))), (1, .row 1 (Is (run ((1 + r1.length)) r2.length)))], 2⟩) (Wk.rel [(2, 0), (3, 1)] (by simp) (by simp) (by rw [hP]; simp) (by simp) (by simp) (by simp) (by simp [hhOk, back])) ?_
 refine w_sr mo (by rw [hN]; decide) fun K hK => ?_
 simp
 refine hK _ ?_
 clear hK K
 refine w_sr mo (by rw [hN]; decide) fun K hK => ?_
 simp
 refine callA_intro (c53 true (run (1) r1.length) (1) (by simpa using ok_r1) (by omega) (by omega)) (.cons (.whole rfl rfl (by simp)) (.cons .val .nil)) ?_
 simp [unk, unA, unE, flat]
 refine hK _ ?_
 clear hK K
 refine w_seq ?_
 refine w_weak (st' := ⟨[(9, .own 0 0 r2.length), (12, .val (.int .i64 ((1 + r1.length) + r2.length))), (13, .val (.int .i64 (1 + r1.length)))], [(0, .row 1 (Is (run ((1 + r1.length)) r2.length)))], 1⟩) (Wk.rel [(1, 0)] (by simp) (by simp) (by rw [hP]; simp) (by simp) (by simp) (by simp) (by simp [hhOk, back])) ?_
 refine w_sr mo (by rw [hN]; decide) fun K hK => ?_
 simp
 refine hK _ ?_
 clear hK K
 refine w_cond rfl (fun g => ?_) fun g => ?_
 · simp at g
   omega
 refine w_skip ?_
 refine w_sr mo (by rw [hN]; decide) fun K hK => ?_
 simp
 refine callA_intro (c53 true (run ((1 + r1.length)) r2.length) ((1 + r1.length)) (by simpa using ok_r2) (by omega) (by omega)) (.cons (.whole rfl rfl (by simp)) (.cons .val .nil)) ?_
 simp [unk, unA, unE, flat]
 refine hK _ ?_
 clear hK K
 refine w_seq ?_
 refine w_weak (st' := ⟨[(12, .val (.int .i64 ((1 + r1.length) + r2.length))), (13, .val (.int .i64 ((1 + r1.length) + r2.length)))], [], 0⟩) (Wk.rel [] (by simp) (by simp) (by rw [hP]; simp) (by simp) (by simp) (by simp) (by simp [hhOk, back])) ?_
 refine w_sr mo (by rw [hN]; decide) fun K hK => ?_
 simp
 refine hK _ ?_
 clear hK K
 refine w_cond rfl (fun g => ?_) fun g => ?_
 · simp at g
   omega
 refine w_skip ?_
 refine w_seq ?_
 refine w_sr mo (by rw [hN]; decide) fun K hK => ?_
 simp
 refine hK _ ?_
 clear hK K
 refine w_cond rfl (fun h => by simp at h) fun _ => ?_
 refine w_skip ?_
 refine w_sr mo (by rw [hN]; decide) fun K hK => ?_
 simp
 refine hK _ ?_
 clear hK K
 refine w_ret (ret_val rfl rfl)
end Go.Vc.T
