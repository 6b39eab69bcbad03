/- A part of the proof: a verified generator of conditions, and what each function of the program does. -/
import Derived.Test.YtgdcogaeechepaaW4
import Derived.Test.YtgdcogaeechepaaL3
set_option maxRecDepth 100000
set_option linter.unusedSimpArgs false
set_option linter.unusedVariables false

set_option maxRecDepth 100000
set_option linter.unusedSimpArgs false
set_option linter.unusedVariables false
namespace Go.Vc.T
open Go Go.Vc Go.Proofs

theorem lt_bo {a : Int} {p : Prop} (h : a < 0 ↔ p) : Value.bool (decide (a < 0)) = Value.bool (bo p) := by
  by_cases hp : p
  · simp [bo, hp, h.2 hp]
  · have : ¬ a < 0 := fun q => hp (h.1 q)
    simp [bo, hp, this]
theorem SM.Sh_iff {m : SM} : m.Sh ↔ (m.s.Is ∧ m.t.Is ∧ m.s.s = m.t.s) ∧ (m.p.length = m.s.sz.length ∧ ∀ x : Nat, x < m.p.length → m.s.part m.t m.p x) :=
  ⟨fun h => ⟨⟨h.hs, h.ht, h.eq⟩, h.lp, h.pt⟩, fun h => ⟨h.1.1, h.1.2.1, h.1.2.2, h.2.1, h.2.2⟩⟩
theorem SM.fit {m : SM} (h : m.s.Is ∧ m.t.Is ∧ m.s.s = m.t.s) : m.s.sz.length = m.t.sz.length ∧ m.s.sz.length ≤ 1048576 := by
  have h1 := h.1.1.ls
  have h2 := h.2.1.1.ls
  have h3 := h.1.1.cat.1.n8
  rw [← h.2.2] at h2
  exact ⟨by omega, by omega⟩
theorem SM.pur1 {h : HP} {u v : Bool} {m : SM} : PurL h (m.s.cells u) (m.s.cells v) := SF.pur

theorem n19 (u : Bool) (m : SM) : Contract Try.prog 19 [.agg (m.cells u)] (.val (.bool (bo m.Is))) := by
  refine contract_intro (rs := [.val (.bool (bo m.Is))]) Try.func19 rfl rfl rfl rfl (by simp [Try.f19]) fun F hN hP => ?_
  refine w_sr mo (by rw [hN]; decide) fun K hK => ?_ -- region 0
  simp [SM.cells]
  refine hK _ ?_
  clear hK K
  refine w_seq ?_
  refine w_sr mo (by rw [hN]; decide) fun K hK => ?_ -- region 1
  refine join hK (fun b => ⟨[(1, .adr 0 0 0), (20, .val (.bool b))], [(0, .mix 15 [[.val (.int .i64 m.s.s.n), .lst u 1 (Is m.s.s.fr), .lst u 1 (Is m.s.s.to), .lst u 1 (Is m.s.s.id), .lst u 1 (Ls m.s.s.cs), .lst u 1 (Is m.s.sz), .lst u 1 (Ls m.s.ac), .val (.int .i64 m.t.s.n), .lst u 1 (Is m.t.s.fr), .lst u 1 (Is m.t.s.to), .lst u 1 (Is m.t.s.id), .lst u 1 (Ls m.t.s.cs), .lst u 1 (Is m.t.sz), .lst u 1 (Ls m.t.ac), .lst u 1 (Ls m.p)]])], 1⟩) (¬ m.Sh) (fun hJ => ?_) fun b hb => ?_
  · simp
    rw [SM.Sh_iff] at hJ
    refine callA_intro (n50 u u m.s m.t) (.cons (.aggL SF.pur) (.cons (.aggL SF.pur) .nil)) ?_
    simp [unk, unA, unE, flat]
    refine ⟨fun a0 a1 a2 => ?_, fun a0 => ?_⟩
    · refine callA_intro (n51 u u u m.s m.t m.p (SM.fit ⟨a0, a1, a2⟩).1 (SM.fit ⟨a0, a1, a2⟩).2) (.cons (.aggL SF.pur) (.cons (.aggL SF.pur) (.cons .lst .nil))) ?_
      simp [unk, unA, unE, flat]
      exact hJ (!bo (m.p.length = m.s.sz.length ∧ ∀ x : Nat, x < m.p.length → m.s.part m.t m.p x)) (by simp [a0, a1, a2]) _ (Wk.relabel [(0, 0)] (by simp) (by simp) (by rw [hP]; simp) (by simp) (by simp) (by simp) (by simp))
    · exact hJ (true) (yes fun hp => by grind) _ (Wk.relabel [(0, 0)] (by simp) (by simp) (by rw [hP]; simp) (by simp) (by simp) (by simp) (by simp))
  clear hK K
  refine w_cond rfl (fun h => ?_) fun h => ?_
  · refine w_sr mo (by rw [hN]; decide) fun K hK => ?_ -- region 2
    simp
    refine hK _ ?_
    clear hK K
    refine w_ret (ret_val rfl (bo_f fun hs => ?_))
    exact hb.1 h hs.1
  · have hm : m.Sh := Classical.byContradiction fun hn => by rw [hb.2 hn] at h; cases h
    refine w_skip ?_
    refine w_sr mo (by rw [hN]; decide) fun K hK => ?_ -- region 3
    simp
    refine callA_intro (n52 u u u m hm) (.cons (.aggL SF.pur) (.cons (.aggL SF.pur) (.cons .lst .nil))) ?_
    simp [unk, unA, unE, unT, flat, two]
    refine hK _ ?_
    clear hK K
    refine w_sr mo (by rw [hN]; decide) fun K hK => ?_ -- region 4
    simp
    refine hK _ ?_
    clear hK K
    refine w_ret (ret_val rfl (lt_bo ?_))
    exact ⟨fun q => ⟨hm, mfault_neg.1 q⟩, fun q => mfault_neg.2 q.2⟩

theorem n56 (u : Bool) (f : SF) (hf : f.ok) : Contract Try.prog 56 [.agg (f.cells u)] (.agg (f.cells true)) := by
  obtain ⟨hf1, hf2, hf3, hf4, hf5⟩ := hf
  refine contract_introC Try.func56 rfl rfl y37 rfl rfl (by simp [Try.f56]) fun F hN hP => ?_
  refine w_sr mo (by rw [hN]; decide) fun K hK => ?_ -- region 0
  simp [SF.cells]
  refine hK _ ?_
  clear hK K
  refine w_sr mo (by rw [hN]; decide) fun K hK => ?_ -- region 1 DRAWN
  simp
  refine callA_intro (c41 u f.s hf1) (.cons (.aggL Cat.pur) .nil) ?_
  simp [unk, unA, unE, unC, flat, Cat.cells]
  refine callA_intro (c58 u f.sz hf2) (.cons .lst .nil) ?_
  simp [unk, unA, unE, unC, flat]
  refine callA_intro (c59 u f.ac hf3 hf4) (.cons .lst .nil) ?_
  simp [unk, unA, unE, unC, flat]
  refine hK _ ?_
  clear hK K
  refine w_ret ⟨_, _, _, _, _, rfl, rfl, by simp, by simp, ?_⟩
  exact ⟨.agg rfl .nil, [.val (.int .i64 f.s.n), .lst true 1 (Is f.s.fr), .lst true 1 (Is f.s.to), .lst true 1 (Is f.s.id), .lst true 1 (Ls f.s.cs), .lst true 1 (Is f.sz), .lst true 1 (Ls f.ac)], [3, 4, 5, 6, 7, 8], by simp, by simp, UpL.refl _⟩

theorem n63 (u : Bool) (f : SF) (tl : List AV) (hf : f.ok) : Contract Try.prog 63 [.rptr (f.cells u ++ tl)] (.agg (f.cells true)) := by
  obtain ⟨hf1, hf2, hf3, hf4, hf5⟩ := hf
  refine contract_introC Try.func63 rfl rfl y37 rfl rfl (by simp [Try.f63]) fun F hN hP => ?_
  refine w_sr mo (by rw [hN]; decide) fun K hK => ?_ -- region 0
  simp [SF.cells]
  refine hK _ ?_
  clear hK K
  refine w_sr mo (by rw [hN]; decide) fun K hK => ?_ -- region 1 DRAWN
  simp
  refine callA_intro (c23 u f.s (.lst u 1 (Is f.sz) :: .lst u 1 (Ls f.ac) :: tl) hf1) (.cons .rptr .nil) ?_
  simp [unk, unA, unE, unC, flat, Cat.cells]
  refine callA_intro (c47 u f.sz hf2) (.cons .lst .nil) ?_
  simp [unk, unA, unE, unC, flat]
  refine callA_intro (c48 u f.ac hf3 hf4) (.cons .lst .nil) ?_
  simp [unk, unA, unE, unC, flat]
  refine hK _ ?_
  clear hK K
  refine w_ret ⟨_, _, _, _, _, rfl, rfl, by simp, by simp, ?_⟩
  exact ⟨.agg rfl .nil, [.val (.int .i64 f.s.n), .lst true 1 (Is f.s.fr), .lst true 1 (Is f.s.to), .lst true 1 (Is f.s.id), .lst true 1 (Ls f.s.cs), .lst true 1 (Is f.sz), .lst true 1 (Ls f.ac)], [2, 3, 4, 5, 6, 7], by simp, by simp, UpL.refl _⟩

theorem n21 (u v w : Bool) (m : SM) (hm : m.ok) : Contract Try.prog 21 [.agg (m.s.cells u), .agg (m.t.cells v), .lst w 1 (Ls m.p)] (.agg (m.cells true)) := by
  obtain ⟨h1, h2, h3, h4, h5⟩ := hm
  refine contract_introC Try.func21 rfl rfl z35 rfl rfl (by simp [Try.f21]) fun F hN hP => ?_
  refine w_sr mo (by rw [hN]; decide) fun K hK => ?_ -- region 0
  simp [SF.cells]
  refine hK _ ?_
  clear hK K
  refine w_sr mo (by rw [hN]; decide) fun K hK => ?_ -- region 1 DRAWN
  simp
  refine callA_intro (n56 u m.s h1) (.cons (.aggL SF.pur) .nil) ?_
  simp [unk, unA, unE, unC, flat, SF.cells]
  refine callA_intro (n56 v m.t h2) (.cons (.aggL SF.pur) .nil) ?_
  simp [unk, unA, unE, unC, flat, SF.cells]
  refine callA_intro (c59 w m.p h3 h4) (.cons .lst .nil) ?_
  simp [unk, unA, unE, unC, flat]
  refine hK _ ?_
  clear hK K
  refine w_ret ⟨_, _, _, _, _, rfl, rfl, by simp, by simp, ?_⟩
  exact ⟨.agg rfl .nil, [.val (.int .i64 m.s.s.n), .lst true 1 (Is m.s.s.fr), .lst true 1 (Is m.s.s.to), .lst true 1 (Is m.s.s.id), .lst true 1 (Ls m.s.s.cs), .lst true 1 (Is m.s.sz), .lst true 1 (Ls m.s.ac), .val (.int .i64 m.t.s.n), .lst true 1 (Is m.t.s.fr), .lst true 1 (Is m.t.s.to), .lst true 1 (Is m.t.s.id), .lst true 1 (Ls m.t.s.cs), .lst true 1 (Is m.t.sz), .lst true 1 (Ls m.t.ac), .lst true 1 (Ls m.p)], [4, 5, 6, 7, 8, 9, 11, 12, 13, 14, 15, 16, 17], by simp, by simp, UpL.refl _⟩

theorem n27 (u v w : Bool) (m : SM) (tl tl2 : List AV) (hm : m.ok) : Contract Try.prog 27 [.rptr (m.s.cells u ++ tl), .rptr (m.t.cells v ++ tl2), .lst w 1 (Ls m.p)] (.agg (m.cells true)) := by
  obtain ⟨h1, h2, h3, h4, h5⟩ := hm
  refine contract_introC Try.func27 rfl rfl z35 rfl rfl (by simp [Try.f27]) fun F hN hP => ?_
  refine w_sr mo (by rw [hN]; decide) fun K hK => ?_ -- region 0
  simp
  refine hK _ ?_
  clear hK K
  refine w_sr mo (by rw [hN]; decide) fun K hK => ?_ -- region 1
  simp
  refine callA_intro (n63 u m.s tl h1) (.cons .rptr .nil) ?_
  simp [unk, unA, unE, unC, flat, SF.cells]
  refine callA_intro (n63 v m.t tl2 h2) (.cons .rptr .nil) ?_
  simp [unk, unA, unE, unC, flat, SF.cells]
  refine callA_intro (c48 w m.p h3 h4) (.cons .lst .nil) ?_
  simp [unk, unA, unE, unC, flat]
  refine hK _ ?_
  clear hK K
  refine w_ret ⟨_, _, _, _, _, rfl, rfl, by simp, by simp, ?_⟩
  exact ⟨.agg rfl .nil, [.val (.int .i64 m.s.s.n), .lst true 1 (Is m.s.s.fr), .lst true 1 (Is m.s.s.to), .lst true 1 (Is m.s.s.id), .lst true 1 (Ls m.s.s.cs), .lst true 1 (Is m.s.sz), .lst true 1 (Ls m.s.ac), .val (.int .i64 m.t.s.n), .lst true 1 (Is m.t.s.fr), .lst true 1 (Is m.t.s.to), .lst true 1 (Is m.t.s.id), .lst true 1 (Ls m.t.s.cs), .lst true 1 (Is m.t.sz), .lst true 1 (Ls m.t.ac), .lst true 1 (Ls m.p)], [2, 3, 4, 5, 6, 7, 9, 10, 11, 12, 13, 14, 15], by simp, by simp, UpL.refl _⟩

theorem ix_in {f : List Int} {n : Nat} (hg : ∀ y ∈ f, 0 ≤ y ∧ y < (n : Int)) {i : Nat} (h : i < f.length) : 0 ≤ ix f i ∧ ix f i < n := by rw [← at_ix _ _ h]; exact hg _ (List.getElem_mem h)
theorem n58 (u v : Bool) (f g : List Int) (hx : f.length ≤ 1048576) (hg : ∀ y ∈ f, 0 ≤ y ∧ y < (g.length : Int)) : Contract Try.prog 58 [.lst u 1 (Is f), .lst v 1 (Is g)] (.lst true 1 (Is (thenL f g))) := by
  refine contract_intro (rs := [.lst true 1 (Is (thenL f g))]) Try.func58 rfl rfl rfl rfl (by simp [Try.f58]) fun F hN hP => ?_
  refine w_sr mo (by rw [hN]; decide) fun K hK => ?_ -- region 0
  simp
  refine hK _ ?_
  clear hK K
  refine w_sr mo (by rw [hN]; decide) fun K hK => ?_ -- region 1
  simp
  refine hK _ ?_
  clear hK K
  refine w_seq ?_
  refine w_sr mo (by rw [hN]; decide) fun K hK => ?_ -- region 2
  simp
  refine hK _ ?_
  clear hK K
  refine w_block ?_
  refine w_loop (fun i : Nat => ⟨[(0, .lst u 1 (Is f)), (1, .lst v 1 (Is g)), (5, .own 0 0 i), (6, .val (.int .i64 i))], [(0, .row 1 (Is (thenL (f.take i) g)))], 1⟩) (fun i => i ≤ f.length) (fun i => f.length - i) 0 (by simp) (Wk.nils [] (by simp) (by simp) (by simp [nlA]) (by simp [entN, thenL]) (by simp)) ?_
  intro i hi
  refine w_seq ?_
  refine w_sr mo (by rw [hN]; decide) fun K hK => ?_ -- region 3
  simp
  refine hK _ ?_
  clear hK K
  refine w_cond rfl (fun h => ?_) fun h => ?_
  · simp at h
    have h1 := ix_in hg h
    refine w_skip ?_
    refine w_seq ?_
    refine w_block ?_
    refine w_run mo (by rw [hN]; decide) fun K hK => ?_ -- region 5
    simp [at_ix, at_rx, ix_max, rx_max, h, h1.1, h1.2]
    refine ⟨by omega, hK _ ?_⟩
    clear hK K
    refine w_run mo (by rw [hN]; decide) fun K hK => ?_ -- region 4
    simp
    refine hK _ ?_
    clear hK K
    rw [wrap_succ (n := f.length) (by omega) (by omega)]
    rw [Nat.min_eq_left hi, List.take_of_length_le (l := Is (thenL (List.take i f) g)) (by simp; omega), Is_snoc, ← thenL_take f g i h]
    refine ⟨i + 1, by omega, by dsimp only; omega, Wk.relabel [(2, 0)] (by simp) (by simp) (by rw [hP]; simp) (by simp) (by simp) (by simp) (by simp)⟩
  · simp at h
    have hi2 : i = f.length := by omega
    refine w_exit ?_
    simp
    refine w_sr mo (by rw [hN]; decide) fun K hK => ?_ -- region 6
    simp
    refine hK _ ?_
    clear hK K
    rw [hi2, List.take_length]
    refine w_ret (ret_row rfl rfl (by simp) rfl)

theorem n65 (u v : Bool) (f g : List Int) (hx : f.length ≤ 1048576) (hg : ∀ y ∈ f, 0 ≤ y ∧ y < (g.length : Int)) : Contract Try.prog 65 [.lst u 1 (Is f), .lst v 1 (Is g)] (.lst true 1 (Is (thenL f g))) := by
  refine contract_intro (rs := [.lst true 1 (Is (thenL f g))]) Try.func65 rfl rfl rfl rfl (by simp [Try.f65]) fun F hN hP => ?_
  refine w_sr mo (by rw [hN]; decide) fun K hK => ?_ -- region 0
  simp
  refine hK _ ?_
  clear hK K
  refine w_sr mo (by rw [hN]; decide) fun K hK => ?_ -- region 1
  simp
  refine ⟨by omega, hK _ ?_⟩
  clear hK K
  refine w_seq ?_
  refine w_sr mo (by rw [hN]; decide) fun K hK => ?_ -- region 2
  simp
  refine hK _ ?_
  clear hK K
  refine w_block ?_
  refine w_loop (fun i : Nat => ⟨[(1, .lst v 1 (Is g)), (5, .own 0 0 f.length), (11, .lst u 1 (Is f)), (12, .val (.int .i64 f.length)), (13, .val (.int .i64 i))], [(0, .row 1 (Is (fill (thenL (f.take i) g) f.length 0)))], 1⟩) (fun i => i ≤ f.length) (fun i => f.length - i) 0 (by simp) (Wk.cut (by simp) (by simp [fill, thenL]) rfl) ?_
  intro i hi
  refine w_sr mo (by rw [hN]; decide) fun K hK => ?_ -- region 3
  simp
  refine hK _ ?_
  clear hK K
  refine w_seq ?_
  refine w_cond rfl (fun h => ?_) fun h => ?_
  · simp at h
    have h1 := ix_in hg h
    have hfl := fill_length (thenL (f.take i) g) f.length 0 (by simp; omega)
    refine w_skip ?_
    refine w_seq ?_
    refine w_block ?_
    refine w_sr mo (by rw [hN]; decide) fun K hK => ?_ -- region 4
    simp [at_ix, at_rx, ix_max, rx_max, h]
    refine hK _ ?_
    clear hK K
    refine w_run mo (by rw [hN]; decide) fun K hK => ?_ -- region 5
    simp [at_ix, at_rx, ix_max, rx_max, h, h1.1, h1.2, hfl]
    refine hK _ ?_
    clear hK K
    refine w_run mo (by rw [hN]; decide) fun K hK => ?_ -- region 6
    simp
    refine hK _ ?_
    clear hK K
    rw [wrap_succ (n := f.length) (by omega) (by omega)]
    have hf := fill_set (thenL (f.take i) g) f.length 0 (ix g (ix f i)) (by simp; omega)
    rw [← thenL_take f g i h] at hf
    simp only [thenL_length, List.length_take, Nat.min_eq_left hi] at hf
    rw [hf]
    refine ⟨i + 1, by omega, by dsimp only; omega, Wk.cut (by simp) (by simp) rfl⟩
  · simp at h
    have hi2 : i = f.length := by omega
    refine w_exit ?_
    simp
    refine w_sr mo (by rw [hN]; decide) fun K hK => ?_ -- region 7
    simp
    refine hK _ ?_
    clear hK K
    rw [hi2, List.take_length]
    refine w_ret (ret_row rfl rfl (by simp [fill]) (by simp [fill]))

theorem n22 (u v : Bool) (s t : List (List Int)) (hx : s.length ≤ 1048576) (hl : s.length ≤ t.length) (hx1 : ∀ x : Nat, x < s.length → (rx s x).length ≤ 1048576) (hg : ∀ x : Nat, x < s.length → ∀ y ∈ rx s x, 0 ≤ y ∧ y < ((rx t x).length : Int)) : Contract Try.prog 22 [.lst u 1 (Ls s), .lst v 1 (Ls t)] (.lst true 1 (Ls (thenP s t s.length))) := by
  refine contract_intro (rs := [.lst true 1 (Ls (thenP s t s.length))]) Try.func22 rfl rfl rfl rfl (by simp [Try.f22]) fun F hN hP => ?_
  refine w_sr mo (by rw [hN]; decide) fun K hK => ?_ -- region 0
  simp
  refine hK _ ?_
  clear hK K
  refine w_sr mo (by rw [hN]; decide) fun K hK => ?_ -- region 1
  simp
  refine hK _ ?_
  clear hK K
  refine w_seq ?_
  refine w_sr mo (by rw [hN]; decide) fun K hK => ?_ -- region 2
  simp
  refine hK _ ?_
  clear hK K
  refine w_block ?_
  refine w_loop (fun i : Nat => ⟨[(0, .lst u 1 (Ls s)), (1, .lst v 1 (Ls t)), (5, .own 0 0 i), (6, .val (.int .i64 i))], [(0, .row 1 (Ls (thenP s t i)))], 1⟩) (fun i => i ≤ s.length) (fun i => s.length - i) 0 (by simp) (Wk.nils [] (by simp) (by simp) (by simp [nlA]) (by simp [entN, thenP, Ls]) (by simp)) ?_
  intro i hi
  refine w_seq ?_
  refine w_sr mo (by rw [hN]; decide) fun K hK => ?_ -- region 3
  simp
  refine hK _ ?_
  clear hK K
  refine w_cond rfl (fun h => ?_) fun h => ?_
  · simp at h
    refine w_skip ?_
    refine w_seq ?_
    refine w_block ?_
    refine w_run mo (by rw [hN]; decide) fun K hK => ?_ -- region 5 DRAWN
    simp [at_ix, at_rx, ix_max, rx_max, h, show i < t.length by omega]
    refine callA_intro (n58 true true (rx s i) (rx t i) (hx1 i h) (hg i h)) (.cons .lst (.cons .lst .nil)) ?_
    simp [unk, unA, unE, flat]
    refine ⟨by omega, hK _ ?_⟩
    clear hK K
    refine w_run mo (by rw [hN]; decide) fun K hK => ?_ -- region 4
    simp
    refine hK _ ?_
    clear hK K
    rw [wrap_succ (n := s.length) (by omega) (by omega)]
    rw [List.take_of_length_le (l := Ls (thenP s t i)) (by simp), Ls_snoc, ← thenP_succ]
    refine ⟨i + 1, by omega, by dsimp only; omega, Wk.relabel [(3, 0)] (by simp) (by simp) (by rw [hP]; simp) (by simp) (by simp) (by simp) (by simp)⟩
  · simp at h
    have hi2 : i = s.length := by omega
    subst hi2
    refine w_exit ?_
    simp
    refine w_sr mo (by rw [hN]; decide) fun K hK => ?_ -- region 6
    simp
    refine hK _ ?_
    clear hK K
    refine w_ret (ret_row rfl rfl (by simp) rfl)

theorem n28 (u v : Bool) (s t : List (List Int)) (hx : s.length ≤ 1048576) (hl : s.length ≤ t.length) (hx1 : ∀ x : Nat, x < s.length → (rx s x).length ≤ 1048576) (hg : ∀ x : Nat, x < s.length → ∀ y ∈ rx s x, 0 ≤ y ∧ y < ((rx t x).length : Int)) : Contract Try.prog 28 [.lst u 1 (Ls s), .lst v 1 (Ls t)] (.lst true 1 (Ls (thenP s t s.length))) := by
  refine contract_intro (rs := [.lst true 1 (Ls (thenP s t s.length))]) Try.func28 rfl rfl rfl rfl (by simp [Try.f28]) fun F hN hP => ?_
  refine w_sr mo (by rw [hN]; decide) fun K hK => ?_ -- region 0
  simp
  refine hK _ ?_
  clear hK K
  refine w_sr mo (by rw [hN]; decide) fun K hK => ?_ -- region 1
  simp
  refine hK _ ?_
  clear hK K
  refine w_seq ?_
  refine w_sr mo (by rw [hN]; decide) fun K hK => ?_ -- region 2
  simp
  refine hK _ ?_
  clear hK K
  refine w_block ?_
  refine w_loop (fun i : Nat => ⟨[(0, .lst u 1 (Ls s)), (1, .lst v 1 (Ls t)), (5, .own 0 0 i), (9, .val (.int .i64 s.length)), (10, .val (.int .i64 i))], [(0, .row 1 (Ls (thenP s t i)))], 1⟩) (fun i => i ≤ s.length) (fun i => s.length - i) 0 (by simp) (Wk.nils [] (by simp) (by simp) (by simp [nlA]) (by simp [entN, thenP, Ls]) (by simp)) ?_
  intro i hi
  refine w_sr mo (by rw [hN]; decide) fun K hK => ?_ -- region 3
  simp
  refine hK _ ?_
  clear hK K
  refine w_seq ?_
  refine w_cond rfl (fun h => ?_) fun h => ?_
  · simp at h
    refine w_skip ?_
    refine w_seq ?_
    refine w_block ?_
    refine w_sr mo (by rw [hN]; decide) fun K hK => ?_ -- region 4
    simp
    refine hK _ ?_
    clear hK K
    refine w_run mo (by rw [hN]; decide) fun K hK => ?_ -- region 5 DRAWN
    simp [at_ix, at_rx, ix_max, rx_max, h, show i < t.length by omega]
    refine callA_intro (n65 true true (rx s i) (rx t i) (hx1 i h) (hg i h)) (.cons .lst (.cons .lst .nil)) ?_
    simp [unk, unA, unE, flat]
    refine ⟨by omega, hK _ ?_⟩
    clear hK K
    refine w_run mo (by rw [hN]; decide) fun K hK => ?_ -- region 6
    simp
    refine hK _ ?_
    clear hK K
    rw [wrap_succ (n := s.length) (by omega) (by omega)]
    rw [List.take_of_length_le (l := Ls (thenP s t i)) (by simp), Ls_snoc, ← thenP_succ]
    refine ⟨i + 1, by omega, by dsimp only; omega, Wk.relabel [(3, 0)] (by simp) (by simp) (by rw [hP]; simp) (by simp) (by simp) (by simp) (by simp)⟩
  · simp at h
    have hi2 : i = s.length := by omega
    subst hi2
    refine w_exit ?_
    simp
    refine w_sr mo (by rw [hN]; decide) fun K hK => ?_ -- region 7
    simp
    refine hK _ ?_
    clear hK K
    refine w_ret (ret_row rfl rfl (by simp) rfl)

end Go.Vc.T

set_option maxRecDepth 100000
set_option linter.unusedSimpArgs false
set_option linter.unusedVariables false
namespace Go.Vc.T
open Go Go.Vc Go.Proofs

theorem n83 (u v : Bool) (xs ys : List Int) : Contract Try.prog 83 [.lst u 1 (Is xs), .lst v 1 (Is ys)] (.val (.int .i64 (cmpL xs ys))) := by
  refine contract_intro (rs := [.val (.int .i64 (cmpL xs ys))]) Try.func83 rfl rfl rfl rfl (by simp [Try.f83]) fun F hN hP => ?_
  refine w_good 0 fun h0 => ?_
  simp at h0
  obtain ⟨hl0, hb0⟩ := h0.is
  refine w_sr mo (by rw [hN]; decide) fun K hK => ?_ -- region 0
  simp
  refine hK _ ?_
  clear hK K
  refine w_seq ?_
  refine w_sr mo (by rw [hN]; decide) fun K hK => ?_ -- region 1
  simp
  refine hK _ ?_
  clear hK K
  refine w_block ?_
  refine w_loop (fun i : Nat => ⟨[(0, .lst u 1 (Is xs)), (1, .lst v 1 (Is ys)), (7, .val (.int .i64 xs.length)), (8, .val (.int .i64 i))], [], 0⟩) (fun i => i ≤ xs.length ∧ i ≤ ys.length ∧ xs.take i = ys.take i) (fun i => xs.length - i) 0 (by simp) (Wk.cut (by simp) (by simp) rfl) ?_
  rintro i ⟨hi, hj, ht⟩
  refine w_sr mo (by rw [hN]; decide) fun K hK => ?_ -- region 2
  simp
  refine hK _ ?_
  clear hK K
  refine w_seq ?_
  refine w_cond rfl (fun h => ?_) fun h => ?_
  · simp at h
    have hd := cmpL_drop hi hj ht
    rw [List.drop_eq_getElem_cons h] at hd
    refine w_skip ?_
    refine w_seq ?_
    refine w_block ?_
    refine w_sr mo (by rw [hN]; decide) fun K hK => ?_ -- region 3
    simp
    refine hK _ ?_
    clear hK K
    refine w_seq ?_
    refine w_sr mo (by rw [hN]; decide) fun K hK => ?_ -- region 4
    simp
    refine hK _ ?_
    clear hK K
    refine w_cond rfl (fun h2 => ?_) fun h2 => ?_
    · simp at h2
      have h2 : i = ys.length := by omega
      refine w_sr mo (by rw [hN]; decide) fun K hK => ?_ -- region 5
      simp
      refine hK _ ?_
      clear hK K
      have hq : List.drop i ys = [] := List.drop_eq_nil_of_le (by omega)
      refine w_ret (ret_val rfl ?_)
      rw [hd, hq]
      rfl
    · simp at h2
      have h3 : i < ys.length := by omega
      rw [List.drop_eq_getElem_cons h3] at hd
      simp only [cmpL] at hd
      refine w_skip ?_
      refine w_sr mo (by rw [hN]; decide) fun K hK => ?_ -- region 6 DRAWN
      simp [h, h3]
      refine hK _ ?_
      clear hK K
      refine w_cond rfl (fun h4 => ?_) fun h4 => ?_
      · simp at h4
        rw [if_neg h4] at hd
        refine w_seq ?_
        refine w_sr mo (by rw [hN]; decide) fun K hK => ?_ -- region 7 DRAWN
        simp [h, h3]
        refine hK _ ?_
        clear hK K
        refine w_cond rfl (fun h5 => ?_) fun h5 => ?_
        · simp at h5
          rw [if_pos h5] at hd
          refine w_sr mo (by rw [hN]; decide) fun K hK => ?_ -- region 8
          simp
          refine hK _ ?_
          clear hK K
          refine w_ret (ret_val rfl (by rw [hd]))
        · simp at h5
          rw [if_neg (by omega)] at hd
          refine w_skip ?_
          refine w_sr mo (by rw [hN]; decide) fun K hK => ?_ -- region 9
          simp
          refine hK _ ?_
          clear hK K
          refine w_ret (ret_val rfl (by rw [hd]))
      · simp at h4
        refine w_skip ?_
        refine w_run mo (by rw [hN]; decide) fun K hK => ?_ -- region 10
        simp
        refine hK _ ?_
        clear hK K
        rw [wrap_succ (n := xs.length) (by omega) (by omega)]
        refine ⟨i + 1, ⟨by omega, by omega, ?_⟩, by dsimp only; omega, Wk.cut (by simp) rfl rfl⟩
        rw [List.take_succ_eq_append_getElem h, List.take_succ_eq_append_getElem h3, ht, h4]
  · simp at h
    have hi2 : i = xs.length := by omega
    subst hi2
    rw [List.take_length] at ht
    have hd := cmpL_drop (Nat.le_refl _) hj (by rw [List.take_length]; exact ht)
    rw [List.drop_length] at hd
    refine w_exit ?_
    simp
    refine w_seq ?_
    refine w_sr mo (by rw [hN]; decide) fun K hK => ?_ -- region 11
    simp
    refine hK _ ?_
    clear hK K
    refine w_cond rfl (fun h6 => ?_) fun h6 => ?_
    · simp at h6
      have h7 : ys.drop xs.length ≠ [] := by rw [Ne, List.drop_eq_nil_iff]; omega
      refine w_sr mo (by rw [hN]; decide) fun K hK => ?_ -- region 12
      simp
      refine hK _ ?_
      clear hK K
      refine w_ret (ret_val rfl ?_)
      rw [hd]
      cases hq : ys.drop xs.length with
      | nil => exact absurd hq h7
      | cons a r => rfl
    · simp at h6
      have h7 : ys.drop xs.length = [] := List.drop_eq_nil_of_le (by omega)
      refine w_skip ?_
      refine w_sr mo (by rw [hN]; decide) fun K hK => ?_ -- region 13
      simp
      refine hK _ ?_
      clear hK K
      refine w_ret (ret_val rfl ?_)
      rw [hd, h7]
      rfl

theorem n62 (u v : Bool) (xs ys : List Int) : Contract Try.prog 62 [.lst u 1 (Is xs), .lst v 1 (Is ys)] (.val (.bool (decide (xs = ys)))) := by
  refine contract_intro (rs := [.val (.bool (decide (xs = ys)))]) Try.func62 rfl rfl rfl rfl (by simp [Try.f62]) fun F hN hP => ?_
  refine w_sr mo (by rw [hN]; decide) fun K hK => ?_ -- region 0
  simp
  refine hK _ ?_
  clear hK K
  refine w_sr mo (by rw [hN]; decide) fun K hK => ?_ -- region 1
  simp
  refine callA_intro (n83 u v xs ys) (.cons .lst (.cons .lst .nil)) ?_
  simp [unk, unA, unE, flat]
  refine hK _ ?_
  clear hK K
  refine w_ret (ret_val rfl ?_)
  rw [← bo_dec, ← bo_iff (cmpL_zero (x := xs) (y := ys)), bo_dec]
  by_cases h : cmpL xs ys = 0 <;> simp [h]

theorem n61 (u v : Bool) (c d : Cat) (tl tl2 : List AV) (hl : c.cs.length ≤ 1048576) : Contract Try.prog 61 [.rptr (c.cells u ++ tl), .rptr (d.cells v ++ tl2)] (.val (.bool (bo (c = d)))) := by
  refine contract_intro (rs := [.val (.bool (bo (c = d)))]) Try.func61 rfl rfl rfl rfl (by simp [Try.f61]) fun F hN hP => ?_
  simp only [Cat.cells, List.cons_append, List.nil_append]
  refine w_sr mo (by rw [hN]; decide) fun K hK => ?_ -- region 0
  simp
  refine hK _ ?_
  clear hK K
  refine w_seq ?_
  refine w_sr mo (by rw [hN]; decide) fun K hK => ?_ -- region 1 DRAWN
  refine join hK (fun b => ⟨[(0, .rptr (.val (.int .i64 c.n) :: .lst u 1 (Is c.fr) :: .lst u 1 (Is c.to) :: .lst u 1 (Is c.id) :: .lst u 1 (Ls c.cs) :: tl)), (1, .rptr (.val (.int .i64 d.n) :: .lst v 1 (Is d.fr) :: .lst v 1 (Is d.to) :: .lst v 1 (Is d.id) :: .lst v 1 (Ls d.cs) :: tl2)), (63, .val (.bool b))], [], 0⟩) (¬ (c.n = d.n ∧ c.fr = d.fr ∧ c.to = d.to ∧ c.id = d.id ∧ c.cs.length = d.cs.length)) (fun hJ => ?_) fun b hb => ?_
  · simp
    refine ⟨fun a0 => ?_, fun a0 => ?_⟩
    · refine callA_intro (n62 u v c.fr d.fr) (.cons .lst (.cons .lst .nil)) ?_
      simp [unk, unA, unE, flat]
      refine ⟨fun a1 => ?_, fun a1 => ?_⟩
      · refine callA_intro (n62 u v c.to d.to) (.cons .lst (.cons .lst .nil)) ?_
        simp [unk, unA, unE, flat]
        refine ⟨fun a2 => ?_, fun a2 => ?_⟩
        · refine callA_intro (n62 u v c.id d.id) (.cons .lst (.cons .lst .nil)) ?_
          simp [unk, unA, unE, flat]
          refine ⟨fun a3 => ?_, fun a3 => ?_⟩
          · exact hJ ((c.cs.length : Int) != d.cs.length) (by simp [a0, a1, a2, a3]; try omega) _ (Wk.relabel [] (by simp) (by simp) (by rw [hP]; simp) (by simp) (by simp) (by simp) (by simp))
          · exact hJ (true) (yes fun hp => a3 hp.2.2.2.1) _ (Wk.relabel [] (by simp) (by simp) (by rw [hP]; simp) (by simp) (by simp) (by simp) (by simp))
        · exact hJ (true) (yes fun hp => a2 hp.2.2.1) _ (Wk.relabel [] (by simp) (by simp) (by rw [hP]; simp) (by simp) (by simp) (by simp) (by simp))
      · exact hJ (true) (yes fun hp => a1 hp.2.1) _ (Wk.relabel [] (by simp) (by simp) (by rw [hP]; simp) (by simp) (by simp) (by simp) (by simp))
    · exact hJ (true) (yes fun hp => a0 hp.1) _ (Wk.relabel [] (by simp) (by simp) (by rw [hP]; simp) (by simp) (by simp) (by simp) (by simp))
  clear hK K
  refine w_cond rfl (fun h => ?_) fun h => ?_
  · refine w_sr mo (by rw [hN]; decide) fun K hK => ?_ -- region 2
    simp
    refine hK _ ?_
    clear hK K
    refine w_ret (ret_val rfl (bo_f fun hp => ?_))
    exact hb.1 h (by subst hp; exact ⟨rfl, rfl, rfl, rfl, rfl⟩)
  · obtain ⟨p1, p2, p3, p4, p5⟩ : c.n = d.n ∧ c.fr = d.fr ∧ c.to = d.to ∧ c.id = d.id ∧ c.cs.length = d.cs.length := Classical.byContradiction fun hn => by rw [hb.2 hn] at h; cases h
    refine w_skip ?_
    refine w_seq ?_
    refine w_sr mo (by rw [hN]; decide) fun K hK => ?_ -- region 3
    simp
    refine hK _ ?_
    clear hK K
    refine w_block ?_
    refine w_loop (fun i : Nat => ⟨[(0, .rptr (.val (.int .i64 c.n) :: .lst u 1 (Is c.fr) :: .lst u 1 (Is c.to) :: .lst u 1 (Is c.id) :: .lst u 1 (Ls c.cs) :: tl)), (1, .rptr (.val (.int .i64 d.n) :: .lst v 1 (Is d.fr) :: .lst v 1 (Is d.to) :: .lst v 1 (Is d.id) :: .lst v 1 (Ls d.cs) :: tl2)), (68, .val (.int .i64 c.cs.length)), (69, .val (.int .i64 i))], [], 0⟩) (fun i => i ≤ c.cs.length ∧ c.cs.take i = d.cs.take i) (fun i => c.cs.length - i) 0 (by simp) (Wk.relabel [] (by simp) (by simp) (by rw [hP]; simp) (by simp) (by simp) (by simp) (by simp)) ?_
    rintro i ⟨hi, ht⟩
    refine w_sr mo (by rw [hN]; decide) fun K hK => ?_ -- region 4
    simp
    refine hK _ ?_
    clear hK K
    refine w_seq ?_
    refine w_cond rfl (fun h2 => ?_) fun h2 => ?_
    · simp at h2
      have h3 : i < d.cs.length := by omega
      refine w_skip ?_
      refine w_seq ?_
      refine w_block ?_
      refine w_sr mo (by rw [hN]; decide) fun K hK => ?_ -- region 5
      simp
      refine hK _ ?_
      clear hK K
      refine w_sr mo (by rw [hN]; decide) fun K hK => ?_ -- region 6 DRAWN
      simp [h2, h3]
      refine callA_intro (n62 true true c.cs[i] d.cs[i]) (.cons .lst (.cons .lst .nil)) ?_
      simp [unk, unA, unE, flat]
      refine hK _ ?_
      clear hK K
      refine w_cond rfl (fun h4 => ?_) fun h4 => ?_
      · simp at h4
        refine w_sr mo (by rw [hN]; decide) fun K hK => ?_ -- region 7
        simp
        refine hK _ ?_
        clear hK K
        refine w_ret (ret_val rfl (bo_f fun hp => ?_))
        subst hp
        exact h4 rfl
      · simp at h4
        refine w_skip ?_
        refine w_run mo (by rw [hN]; decide) fun K hK => ?_ -- region 8
        simp
        refine hK _ ?_
        clear hK K
        rw [wrap_succ (n := c.cs.length) (by omega) (by omega)]
        refine ⟨i + 1, ⟨by omega, ?_⟩, by dsimp only; omega, (Wk.relabel [] (by simp) (by simp) (by rw [hP]; simp) (by simp) (by simp) (by simp) (by simp))⟩
        rw [List.take_succ_eq_append_getElem h2, List.take_succ_eq_append_getElem h3, ht, h4]
    · simp at h2
      have hi2 : i = c.cs.length := by omega
      refine w_exit ?_
      simp
      refine w_sr mo (by rw [hN]; decide) fun K hK => ?_ -- region 9
      simp
      refine hK _ ?_
      clear hK K
      refine w_ret (ret_val rfl (bo_t ?_))
      rw [hi2, List.take_length, p5, List.take_length] at ht
      exact Cat.eq_iff.2 ⟨p1, p2, p3, p4, ht⟩

theorem n26 (u v : Bool) (f g : SF) (tl tl2 : List AV) (hl : f.s.cs.length ≤ 1048576) (hl2 : f.ac.length ≤ 1048576) : Contract Try.prog 26 [.rptr (f.cells u ++ tl), .rptr (g.cells v ++ tl2)] (.val (.bool (bo (f = g)))) := by
  refine contract_intro (rs := [.val (.bool (bo (f = g)))]) Try.func26 rfl rfl rfl rfl (by simp [Try.f26]) fun F hN hP => ?_
  simp only [SF.cells, List.cons_append, List.nil_append]
  refine w_sr mo (by rw [hN]; decide) fun K hK => ?_ -- region 0
  simp
  refine hK _ ?_
  clear hK K
  refine w_seq ?_
  refine w_sr mo (by rw [hN]; decide) fun K hK => ?_ -- region 1 DRAWN
  refine join hK (fun b => ⟨[(0, .rptr (.val (.int .i64 f.s.n) :: .lst u 1 (Is f.s.fr) :: .lst u 1 (Is f.s.to) :: .lst u 1 (Is f.s.id) :: .lst u 1 (Ls f.s.cs) :: .lst u 1 (Is f.sz) :: .lst u 1 (Ls f.ac) :: tl)), (1, .rptr (.val (.int .i64 g.s.n) :: .lst v 1 (Is g.s.fr) :: .lst v 1 (Is g.s.to) :: .lst v 1 (Is g.s.id) :: .lst v 1 (Ls g.s.cs) :: .lst v 1 (Is g.sz) :: .lst v 1 (Ls g.ac) :: tl2)), (38, .val (.bool b))], [], 0⟩) (¬ (f.s = g.s ∧ f.sz = g.sz ∧ f.ac.length = g.ac.length)) (fun hJ => ?_) fun b hb => ?_
  · simp
    refine callA_intro (n61 u v f.s g.s (.lst u 1 (Is f.sz) :: .lst u 1 (Ls f.ac) :: tl) (.lst v 1 (Is g.sz) :: .lst v 1 (Ls g.ac) :: tl2) hl) (.cons .rptr (.cons .rptr .nil)) ?_
    simp [unk, unA, unE, flat]
    refine ⟨fun a0 => ?_, fun a0 => ?_⟩
    · refine callA_intro (n62 u v f.sz g.sz) (.cons .lst (.cons .lst .nil)) ?_
      simp [unk, unA, unE, flat]
      refine ⟨fun a1 => ?_, fun a1 => ?_⟩
      · exact hJ ((f.ac.length : Int) != g.ac.length) (by simp [a0, a1]; try omega) _ (Wk.relabel [] (by simp) (by simp) (by rw [hP]; simp) (by simp) (by simp) (by simp) (by simp))
      · exact hJ (true) (yes fun hp => a1 hp.2.1) _ (Wk.relabel [] (by simp) (by simp) (by rw [hP]; simp) (by simp) (by simp) (by simp) (by simp))
    · exact hJ (true) (yes fun hp => a0 hp.1) _ (Wk.relabel [] (by simp) (by simp) (by rw [hP]; simp) (by simp) (by simp) (by simp) (by simp))
  clear hK K
  refine w_cond rfl (fun h => ?_) fun h => ?_
  · refine w_sr mo (by rw [hN]; decide) fun K hK => ?_ -- region 2
    simp
    refine hK _ ?_
    clear hK K
    refine w_ret (ret_val rfl (bo_f fun hp => ?_))
    exact hb.1 h (by subst hp; exact ⟨rfl, rfl, rfl⟩)
  · obtain ⟨p1, p2, p5⟩ : f.s = g.s ∧ f.sz = g.sz ∧ f.ac.length = g.ac.length := Classical.byContradiction fun hn => by rw [hb.2 hn] at h; cases h
    refine w_skip ?_
    refine w_seq ?_
    refine w_sr mo (by rw [hN]; decide) fun K hK => ?_ -- region 3
    simp
    refine hK _ ?_
    clear hK K
    refine w_block ?_
    refine w_loop (fun i : Nat => ⟨[(0, .rptr (.val (.int .i64 f.s.n) :: .lst u 1 (Is f.s.fr) :: .lst u 1 (Is f.s.to) :: .lst u 1 (Is f.s.id) :: .lst u 1 (Ls f.s.cs) :: .lst u 1 (Is f.sz) :: .lst u 1 (Ls f.ac) :: tl)), (1, .rptr (.val (.int .i64 g.s.n) :: .lst v 1 (Is g.s.fr) :: .lst v 1 (Is g.s.to) :: .lst v 1 (Is g.s.id) :: .lst v 1 (Ls g.s.cs) :: .lst v 1 (Is g.sz) :: .lst v 1 (Ls g.ac) :: tl2)), (43, .val (.int .i64 f.ac.length)), (44, .val (.int .i64 i))], [], 0⟩) (fun i => i ≤ f.ac.length ∧ f.ac.take i = g.ac.take i) (fun i => f.ac.length - i) 0 (by simp) (Wk.relabel [] (by simp) (by simp) (by rw [hP]; simp) (by simp) (by simp) (by simp) (by simp)) ?_
    rintro i ⟨hi, ht⟩
    refine w_sr mo (by rw [hN]; decide) fun K hK => ?_ -- region 4
    simp
    refine hK _ ?_
    clear hK K
    refine w_seq ?_
    refine w_cond rfl (fun h2 => ?_) fun h2 => ?_
    · simp at h2
      have h3 : i < g.ac.length := by omega
      refine w_skip ?_
      refine w_seq ?_
      refine w_block ?_
      refine w_sr mo (by rw [hN]; decide) fun K hK => ?_ -- region 5
      simp
      refine hK _ ?_
      clear hK K
      refine w_sr mo (by rw [hN]; decide) fun K hK => ?_ -- region 6 DRAWN
      simp [h2, h3]
      refine callA_intro (n62 true true f.ac[i] g.ac[i]) (.cons .lst (.cons .lst .nil)) ?_
      simp [unk, unA, unE, flat]
      refine hK _ ?_
      clear hK K
      refine w_cond rfl (fun h4 => ?_) fun h4 => ?_
      · simp at h4
        refine w_sr mo (by rw [hN]; decide) fun K hK => ?_ -- region 7
        simp
        refine hK _ ?_
        clear hK K
        refine w_ret (ret_val rfl (bo_f fun hp => ?_))
        subst hp
        exact h4 rfl
      · simp at h4
        refine w_skip ?_
        refine w_run mo (by rw [hN]; decide) fun K hK => ?_ -- region 8
        simp
        refine hK _ ?_
        clear hK K
        rw [wrap_succ (n := f.ac.length) (by omega) (by omega)]
        refine ⟨i + 1, ⟨by omega, ?_⟩, by dsimp only; omega, (Wk.relabel [] (by simp) (by simp) (by rw [hP]; simp) (by simp) (by simp) (by simp) (by simp))⟩
        rw [List.take_succ_eq_append_getElem h2, List.take_succ_eq_append_getElem h3, ht, h4]
    · simp at h2
      have hi2 : i = f.ac.length := by omega
      refine w_exit ?_
      simp
      refine w_sr mo (by rw [hN]; decide) fun K hK => ?_ -- region 9
      simp
      refine hK _ ?_
      clear hK K
      refine w_ret (ret_val rfl (bo_t ?_))
      rw [hi2, List.take_length, p5, List.take_length] at ht
      exact SF.eq_iff.2 ⟨p1, p2, ht⟩

def Ps (v : Bool) (fs : List SF) : List (List AV) := fs.map fun f => [.rptr (f.cells v)]
def Pm (v : Bool) (fs : List SM) : List (List AV) := fs.map fun f => [.rptr (f.cells v)]
@[simp] theorem Ps_length (v : Bool) (fs : List SF) : (Ps v fs).length = fs.length := by simp [Ps]
@[simp] theorem Pm_length (v : Bool) (fs : List SM) : (Pm v fs).length = fs.length := by simp [Pm]
theorem Ps_at (v : Bool) (fs : List SF) (i : Nat) (h : i < (Ps v fs).length) : (Ps v fs)[i] = [.rptr ((fs[i]'(by simpa using h)).cells v)] := by simp [Ps]
theorem Pm_at (v : Bool) (fs : List SM) (i : Nat) (h : i < (Pm v fs).length) : (Pm v fs)[i] = [.rptr ((fs[i]'(by simpa using h)).cells v)] := by simp [Pm]
theorem all_at {α : Type} {P : α → Prop} {xs : List α} (h : ∀ i (hi : i < xs.length), P xs[i]) : ∀ x ∈ xs, P x := by
  intro x hx
  obtain ⟨i, hi, rfl⟩ := List.getElem_of_mem hx
  exact h i hi

theorem n84 (u v : Bool) (fs : List SF) (hl : fs.length ≤ 1048576) : Contract Try.prog 84 [.lst u 1 (Ps v fs)] (.val (.bool (bo (∀ f ∈ fs, f.Is)))) := by
  refine contract_intro (rs := [.val (.bool (bo (∀ f ∈ fs, f.Is)))]) Try.func84 rfl rfl rfl rfl (by simp [Try.f84]) fun F hN hP => ?_
  refine w_sr mo (by rw [hN]; decide) fun K hK => ?_ -- region 0
  simp
  refine hK _ ?_
  clear hK K
  refine w_seq ?_
  refine w_sr mo (by rw [hN]; decide) fun K hK => ?_ -- region 1
  simp
  refine hK _ ?_
  clear hK K
  refine w_block ?_
  refine w_loop (fun i : Nat => ⟨[(5, .lst u 1 (Ps v fs)), (6, .val (.int .i64 fs.length)), (7, .val (.int .i64 i))], [], 0⟩) (fun i => i ≤ fs.length ∧ ∀ j (hj : j < fs.length), j < i → fs[j].Is) (fun i => fs.length - i) 0 (by simp) (Wk.relabel [] (by simp) (by simp) (by rw [hP]; simp) (by simp) (by simp) (by simp) (by simp)) ?_
  rintro i ⟨hi, ht⟩
  refine w_sr mo (by rw [hN]; decide) fun K hK => ?_ -- region 2
  simp
  refine hK _ ?_
  clear hK K
  refine w_seq ?_
  refine w_cond rfl (fun h => ?_) fun h => ?_
  · simp at h
    refine w_skip ?_
    refine w_seq ?_
    refine w_block ?_
    refine w_sr mo (by rw [hN]; decide) fun K hK => ?_ -- region 3
    simp [Ps_at, h]
    refine hK _ ?_
    clear hK K
    refine w_sr mo (by rw [hN]; decide) fun K hK => ?_ -- region 4
    simp
    refine callA_intro (c21 v fs[i]) (.cons .rptr .nil) ?_
    simp [unk, unA, unE, flat]
    refine hK _ ?_
    clear hK K
    refine w_cond rfl (fun h2 => ?_) fun h2 => ?_
    · simp at h2
      refine w_sr mo (by rw [hN]; decide) fun K hK => ?_ -- region 5
      simp
      refine hK _ ?_
      clear hK K
      refine w_ret (ret_val rfl (bo_f fun hp => ?_))
      exact h2 (hp _ (List.getElem_mem h))
    · simp at h2
      refine w_skip ?_
      refine w_run mo (by rw [hN]; decide) fun K hK => ?_ -- region 6
      simp
      refine hK _ ?_
      clear hK K
      rw [wrap_succ (n := fs.length) (by omega) (by omega)]
      refine ⟨i + 1, ⟨by omega, fun j hj hji => ?_⟩, by dsimp only; omega, Wk.relabel [] (by simp) (by simp) (by rw [hP]; simp) (by simp) (by simp) (by simp) (by simp)⟩
      rcases Nat.lt_or_ge j i with q | q
      · exact ht j hj q
      · have : j = i := by omega
        subst this; exact h2
  · simp at h
    have hi2 : i = fs.length := by omega
    refine w_exit ?_
    simp
    refine w_sr mo (by rw [hN]; decide) fun K hK => ?_ -- region 7
    simp
    refine hK _ ?_
    clear hK K
    refine w_ret (ret_val rfl (bo_t ?_))
    exact all_at fun j hj => ht j hj (by omega)

theorem n85 (u : Bool) (m : SM) (ht : m.t.Sh) (hl : m.s.sz.length = m.t.sz.length) (hm : m.s.sz.length ≤ 1048576) : Contract Try.prog 85 [.rptr (m.cells u)] (.val (.bool (bo (m.p.length = m.s.sz.length ∧ ∀ x : Nat, x < m.p.length → m.s.part m.t m.p x)))) := by
  refine contract_intro (rs := [.val (.bool (bo (m.p.length = m.s.sz.length ∧ ∀ x : Nat, x < m.p.length → m.s.part m.t m.p x)))]) Try.func85 rfl rfl rfl rfl (by simp [Try.f85]) fun F hN hP => ?_
  simp only [SM.cells]
  refine w_sr mo (by rw [hN]; decide) fun K hK => ?_ -- region 0
  simp
  refine hK _ ?_
  clear hK K
  refine w_seq ?_
  refine w_sr mo (by rw [hN]; decide) fun K hK => ?_ -- region 1 DRAWN
  simp
  refine hK _ ?_
  clear hK K
  refine w_cond rfl (fun h => ?_) fun h => ?_
  · simp at h
    refine w_sr mo (by rw [hN]; decide) fun K hK => ?_ -- region 2
    simp
    refine hK _ ?_
    clear hK K
    refine w_ret (ret_val rfl (bo_f fun hp => ?_))
    exact h (by omega)
  · simp at h
    have hp : m.p.length = m.s.sz.length := by omega
    refine w_skip ?_
    refine w_seq ?_
    refine w_sr mo (by rw [hN]; decide) fun K hK => ?_ -- region 3
    simp
    refine hK _ ?_
    clear hK K
    refine w_block ?_
    refine w_loop (fun x : Nat => ⟨[(0, .rptr [.val (.int .i64 m.s.s.n), .lst u 1 (Is m.s.s.fr), .lst u 1 (Is m.s.s.to), .lst u 1 (Is m.s.s.id), .lst u 1 (Ls m.s.s.cs), .lst u 1 (Is m.s.sz), .lst u 1 (Ls m.s.ac), .val (.int .i64 m.t.s.n), .lst u 1 (Is m.t.s.fr), .lst u 1 (Is m.t.s.to), .lst u 1 (Is m.t.s.id), .lst u 1 (Ls m.t.s.cs), .lst u 1 (Is m.t.sz), .lst u 1 (Ls m.t.ac), .lst u 1 (Ls m.p)]), (20, .lst u 1 (Ls m.p)), (21, .val (.int .i64 m.p.length)), (22, .val (.int .i64 x))], [], 0⟩) (fun x => x ≤ m.p.length ∧ ∀ y : Nat, y < x → m.s.part m.t m.p y) (fun x => m.p.length - x) 0 (by simp) (Wk.relabel [] (by simp) (by simp) (by rw [hP]; simp) (by simp) (by simp) (by simp) (by simp)) ?_
    rintro x ⟨hx0, hi⟩
    refine w_sr mo (by rw [hN]; decide) fun K hK => ?_ -- region 4
    simp
    refine hK _ ?_
    clear hK K
    refine w_seq ?_
    refine w_cond rfl (fun h2 => ?_) fun h2 => ?_
    · simp at h2
      have hx : x < m.p.length := by omega
      have s1 := all_ix ht.sz (j := x) (by omega) (by omega)
      refine w_skip ?_
      refine w_seq ?_
      refine w_block ?_
      refine w_sr mo (by rw [hN]; decide) fun K hK => ?_ -- region 5
      simp [at_ix, at_rx, ix_max, rx_max, hx]
      refine hK _ ?_
      clear hK K
      refine w_sr mo (by rw [hN]; decide) fun K hK => ?_ -- region 6 DRAWN
      simp [at_ix, at_rx, ix_max, rx_max, show x < m.s.sz.length by omega, show x < m.t.sz.length by omega]
      refine callA_intro (c62 true (rx m.p x) (ix m.s.sz x) (ix m.t.sz x) ⟨by omega, by omega⟩) (.cons .lst (.cons .val (.cons .val .nil))) ?_
      simp [unk, unA, unE, flat]
      refine hK _ ?_
      clear hK K
      refine w_cond rfl (fun h3 => ?_) fun h3 => ?_
      · have hn : ¬ m.s.part m.t m.p x := by simp [SF.part]; simp at h3; grind
        refine w_sr mo (by rw [hN]; decide) fun K hK => ?_ -- region 7
        simp
        refine hK _ ?_
        clear hK K
        refine w_ret (ret_val rfl (bo_f fun hq => ?_))
        exact hn (hq.2 x hx)
      · have hc : m.s.part m.t m.p x := by simp [SF.part]; simp at h3; grind
        refine w_skip ?_
        refine w_run mo (by rw [hN]; decide) fun K hK => ?_ -- region 8
        simp
        refine hK _ ?_
        clear hK K
        rw [wrap_succ (n := m.p.length) (by omega) (by omega)]
        refine ⟨x + 1, ⟨by omega, all_succ hi hc⟩, by dsimp only; omega, (Wk.relabel [] (by simp) (by simp) (by rw [hP]; simp) (by simp) (by simp) (by simp) (by simp))⟩
    · simp at h2
      have hx2 : m.p.length ≤ x := by omega
      refine w_exit ?_
      simp
      refine w_sr mo (by rw [hN]; decide) fun K hK => ?_ -- region 9
      simp
      refine hK _ ?_
      clear hK K
      refine w_ret (ret_val rfl (bo_t ?_))
      exact ⟨hp, fun y hy => hi y (by omega)⟩

theorem n73 (u : Bool) (m : SM) : Contract Try.prog 73 [.rptr (m.cells u)] (.val (.bool (bo m.Sh))) := by
  refine contract_intro (rs := [.val (.bool (bo m.Sh))]) Try.func73 rfl rfl rfl rfl (by simp [Try.f73]) fun F hN hP => ?_
  simp only [SM.cells]
  refine w_sr mo (by rw [hN]; decide) fun K hK => ?_ -- region 0
  simp
  refine hK _ ?_
  clear hK K
  refine w_sr mo (by rw [hN]; decide) fun K hK => ?_ -- region 1 DRAWN
  refine join hK (fun b => ⟨[(2, .val (.bool b))], [], 0⟩) (m.Sh) (fun hJ => ?_) fun b hb => ?_
  · simp
    rw [SM.Sh_iff] at hJ
    refine callA_intro (n84 true u [m.s, m.t] (by simp)) (.cons (.lits (es := _) rfl (.cons rfl (.cons (.pre (cs := m.s.cells u) (ds := [.val (.int .i64 m.t.s.n), .lst u 1 (Is m.t.s.fr), .lst u 1 (Is m.t.s.to), .lst u 1 (Is m.t.s.id), .lst u 1 (Ls m.t.s.cs), .lst u 1 (Is m.t.sz), .lst u 1 (Ls m.t.ac), .lst u 1 (Ls m.p)])) .nil) (.cons rfl (.cons (.pre (cs := m.t.cells u) (ds := [.lst u 1 (Ls m.p)])) .nil) .nil)) rfl) .nil) ?_
    simp [unk, unA, unE, flat]
    refine ⟨fun a0 a1 => ?_, fun a0 => ?_⟩
    · refine callA_intro (n61 u u m.s.s m.t.s [.lst u 1 (Is m.s.sz), .lst u 1 (Ls m.s.ac), .val (.int .i64 m.t.s.n), .lst u 1 (Is m.t.s.fr), .lst u 1 (Is m.t.s.to), .lst u 1 (Is m.t.s.id), .lst u 1 (Ls m.t.s.cs), .lst u 1 (Is m.t.sz), .lst u 1 (Ls m.t.ac), .lst u 1 (Ls m.p)] [.lst u 1 (Is m.t.sz), .lst u 1 (Ls m.t.ac), .lst u 1 (Ls m.p)] (by have h1 := a0.1.cat.1.lc; have h2 := a0.1.cat.1.m40; omega)) (.cons .rptr (.cons .rptr .nil)) ?_
      simp [unk, unA, unE, flat]
      refine ⟨fun a2 => ?_, fun a2 => ?_⟩
      · refine callA_intro (n85 u m a1.1 (SM.fit ⟨a0, a1, a2⟩).1 (SM.fit ⟨a0, a1, a2⟩).2) (.cons .rptr .nil) ?_
        simp [unk, unA, unE, flat]
        exact hJ (bo (m.p.length = m.s.sz.length ∧ ∀ x : Nat, x < m.p.length → m.s.part m.t m.p x)) (by simp [a0, a1, a2]) _ (Wk.relabel [] (by simp) (by simp) (by rw [hP]; simp) (by simp) (by simp) (by simp) (by simp))
      · exact hJ (false) (nope fun hp => a2 hp.1.2.2) _ (Wk.relabel [] (by simp) (by simp) (by rw [hP]; simp) (by simp) (by simp) (by simp) (by simp))
    · exact hJ (false) (nope fun hp => by grind) _ (Wk.relabel [] (by simp) (by simp) (by rw [hP]; simp) (by simp) (by simp) (by simp) (by simp))
  clear hK K
  refine w_ret (ret_val rfl (bo_eq hb))

theorem n37 (u : Bool) (m : SM) : Contract Try.prog 37 [.rptr (m.cells u)] (.val (.bool (bo m.Is))) := by
  refine contract_intro (rs := [.val (.bool (bo m.Is))]) Try.func37 rfl rfl rfl rfl (by simp [Try.f37]) fun F hN hP => ?_
  refine w_sr mo (by rw [hN]; decide) fun K hK => ?_ -- region 0
  simp
  refine hK _ ?_
  clear hK K
  refine w_seq ?_
  refine w_sr mo (by rw [hN]; decide) fun K hK => ?_ -- region 1
  simp
  refine callA_intro (n73 u m) (.cons .rptr .nil) ?_
  simp [unk, unA, unE, flat]
  refine hK _ ?_
  clear hK K
  refine w_cond rfl (fun h => ?_) fun h => ?_
  · have hn : ¬ m.Sh := bo_not h
    refine w_sr mo (by rw [hN]; decide) fun K hK => ?_ -- region 2
    simp
    refine hK _ ?_
    clear hK K
    refine w_ret (ret_val rfl (bo_f fun hs => ?_))
    exact hn hs.1
  · have hm : m.Sh := bo_yes h
    refine w_skip ?_
    refine w_sr mo (by rw [hN]; decide) fun K hK => ?_ -- region 3
    simp
    refine callA_intro (n74 u m hm) (.cons .rptr .nil) ?_
    simp [unk, unA, unE, unT, flat, two]
    refine hK _ ?_
    clear hK K
    refine w_sr mo (by rw [hN]; decide) fun K hK => ?_ -- region 4
    simp
    refine hK _ ?_
    clear hK K
    refine w_ret (ret_val rfl (lt_bo ?_))
    exact ⟨fun q => ⟨hm, mfault_neg.1 q⟩, fun q => mfault_neg.2 q.2⟩

theorem n25 (u v : Bool) (fs : List SM) (hl : fs.length ≤ 1048576) : Contract Try.prog 25 [.lst u 1 (Pm v fs)] (.val (.bool (bo (∀ f ∈ fs, f.Is)))) := by
  refine contract_intro (rs := [.val (.bool (bo (∀ f ∈ fs, f.Is)))]) Try.func25 rfl rfl rfl rfl (by simp [Try.f25]) fun F hN hP => ?_
  refine w_sr mo (by rw [hN]; decide) fun K hK => ?_ -- region 0
  simp
  refine hK _ ?_
  clear hK K
  refine w_seq ?_
  refine w_sr mo (by rw [hN]; decide) fun K hK => ?_ -- region 1
  simp
  refine hK _ ?_
  clear hK K
  refine w_block ?_
  refine w_loop (fun i : Nat => ⟨[(5, .lst u 1 (Pm v fs)), (6, .val (.int .i64 fs.length)), (7, .val (.int .i64 i))], [], 0⟩) (fun i => i ≤ fs.length ∧ ∀ j (hj : j < fs.length), j < i → fs[j].Is) (fun i => fs.length - i) 0 (by simp) (Wk.relabel [] (by simp) (by simp) (by rw [hP]; simp) (by simp) (by simp) (by simp) (by simp)) ?_
  rintro i ⟨hi, ht⟩
  refine w_sr mo (by rw [hN]; decide) fun K hK => ?_ -- region 2
  simp
  refine hK _ ?_
  clear hK K
  refine w_seq ?_
  refine w_cond rfl (fun h => ?_) fun h => ?_
  · simp at h
    refine w_skip ?_
    refine w_seq ?_
    refine w_block ?_
    refine w_sr mo (by rw [hN]; decide) fun K hK => ?_ -- region 3
    simp [Pm_at, h]
    refine hK _ ?_
    clear hK K
    refine w_sr mo (by rw [hN]; decide) fun K hK => ?_ -- region 4
    simp
    refine callA_intro (n37 v fs[i]) (.cons .rptr .nil) ?_
    simp [unk, unA, unE, flat]
    refine hK _ ?_
    clear hK K
    refine w_cond rfl (fun h2 => ?_) fun h2 => ?_
    · simp at h2
      refine w_sr mo (by rw [hN]; decide) fun K hK => ?_ -- region 5
      simp
      refine hK _ ?_
      clear hK K
      refine w_ret (ret_val rfl (bo_f fun hp => ?_))
      exact h2 (hp _ (List.getElem_mem h))
    · simp at h2
      refine w_skip ?_
      refine w_run mo (by rw [hN]; decide) fun K hK => ?_ -- region 6
      simp
      refine hK _ ?_
      clear hK K
      rw [wrap_succ (n := fs.length) (by omega) (by omega)]
      refine ⟨i + 1, ⟨by omega, fun j hj hji => ?_⟩, by dsimp only; omega, Wk.relabel [] (by simp) (by simp) (by rw [hP]; simp) (by simp) (by simp) (by simp) (by simp)⟩
      rcases Nat.lt_or_ge j i with q | q
      · exact ht j hj q
      · have : j = i := by omega
        subst this; exact h2
  · simp at h
    have hi2 : i = fs.length := by omega
    refine w_exit ?_
    simp
    refine w_sr mo (by rw [hN]; decide) fun K hK => ?_ -- region 7
    simp
    refine hK _ ?_
    clear hK K
    refine w_ret (ret_val rfl (bo_t ?_))
    exact all_at fun j hj => ht j hj (by omega)

end Go.Vc.T
