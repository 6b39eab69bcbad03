/- A part of the proof: a verified generator of conditions, and what each function of the program does. -/
import Derived.Test.YtgdcogaeechepaaW5
set_option maxRecDepth 100000
set_option linter.unusedSimpArgs false
set_option linter.unusedVariables false

set_option maxRecDepth 100000
set_option linter.unusedSimpArgs false
set_option linter.unusedVariables false
namespace Go.Vc.T
open Go Go.Vc Go.Proofs


def sm0 : SM := ⟨⟨⟨0, [], [], [], []⟩, [], []⟩, ⟨⟨0, [], [], [], []⟩, [], []⟩, []⟩
def thenM (s t : SM) : SM := ⟨s.s, t.t, thenP s.p t.p s.p.length⟩
open Classical in
noncomputable def tres (s t : SM) : SM × Int := if s.Is ∧ t.Is then (if s.t = t.s then (thenM s t, 0) else (sm0, 5)) else (sm0, 1)
theorem tres1 {s t : SM} (h : ¬ (s.Is ∧ t.Is)) : tres s t = (sm0, 1) := by unfold tres; rw [if_neg h]
theorem tres2 {s t : SM} (h : s.Is ∧ t.Is) (h2 : ¬ s.t = t.s) : tres s t = (sm0, 5) := by unfold tres; rw [if_pos h, if_neg h2]
theorem tres3 {s t : SM} (h : s.Is ∧ t.Is) (h2 : s.t = t.s) : tres s t = (thenM s t, 0) := by unfold tres; rw [if_pos h, if_pos h2]
def smout (r : SM × Int) : List AV := [.agg (r.1.cells true), .val (.int .i64 r.2)]

theorem Cat.Sh.size2 {c : Cat} (hs : c.Sh) : c.ok ∧ c.size ≤ 2000 := by
  have h0 := hs.n8
  have h1 := hs.li
  have h2 := hs.m40
  have hr : ∀ xs ∈ c.cs, xs.length ≤ 40 := by
    intro xs hx
    obtain ⟨i, hi, rfl⟩ := List.getElem_of_mem hx
    rw [at_rx _ _ hi, hs.row' (by omega) (by have := hs.lc; omega)]
    exact h2
  have hb : ∀ {l : List (List Int)}, (∀ xs ∈ l, xs.length ≤ 40) → sumL l ≤ l.length * 40 := by
    intro l
    induction l with
    | nil => intro _; simp [sumL]
    | cons x r ih =>
      intro h
      have h1 := ih fun xs hx => h xs (List.mem_cons_of_mem _ hx)
      have h2 := h x (by simp)
      simp only [sumL, List.map_cons, List.sum_cons, List.length_cons] at h1 ⊢
      rw [Nat.add_mul]
      omega
  have h3 := hb hr
  have h4 := hs.lc
  have h5 := hs.lt
  have : c.cs.length * 40 ≤ 40 * 40 := Nat.mul_le_mul_right _ (by omega)
  refine ⟨⟨by omega, by omega, by omega, by omega, fun xs hx => by have := hr xs hx; omega, by omega⟩, ?_⟩
  simp only [Cat.size]
  omega
theorem sumL_b {b : Nat} {l : List (List Int)} (h : ∀ xs ∈ l, xs.length ≤ b) : sumL l ≤ l.length * b := by
  induction l with
  | nil => simp [sumL]
  | cons x r ih =>
    have h1 := ih fun xs hx => h xs (List.mem_cons_of_mem _ hx)
    have h2 := h x (by simp)
    simp only [sumL, List.map_cons, List.sum_cons, List.length_cons] at h1 ⊢
    rw [Nat.add_mul]
    omega
theorem SF.Sh.rows {f : SF} (hs : f.Sh) : ∀ xs ∈ f.ac, xs.length ≤ 16 := by
  intro xs hx
  obtain ⟨i, hi, rfl⟩ := List.getElem_of_mem hx
  have h1 := hs.la
  have h2 := hs.cat.1
  have h3 := hs.len' (j := i) (by omega) (by omega)
  have h4 := h2.fr' (j := i) (by omega) (by omega)
  have h5 := all_ix hs.sz (j := ix f.s.fr i) (by omega) (by have := hs.ls; have := h2.li; omega)
  rw [at_rx _ _ hi]
  omega
theorem SF.Sh.ok {f : SF} (hs : f.Sh) : f.ok ∧ f.size ≤ 4000 := by
  obtain ⟨h1, h2⟩ := hs.cat.1.size2
  have h3 := hs.ls
  have h4 := hs.cat.1.n8
  have h5 := hs.la
  have h6 := hs.cat.1.m40
  have h7 := sumL_b hs.rows
  have : f.ac.length * 16 ≤ 40 * 16 := Nat.mul_le_mul_right _ (by omega)
  refine ⟨⟨h1, by omega, by omega, fun xs hx => by have := hs.rows xs hx; omega, by omega⟩, ?_⟩
  simp only [SF.size]
  omega
theorem SM.Sh.rows {m : SM} (hm : m.Sh) {x : Nat} (hx : x < m.p.length) : (rx m.p x).length ≤ 16 := by
  have h1 := hm.part' (j := x) (by omega) (by omega)
  have h2 := all_ix hm.hs.1.sz (j := x) (by omega) (by have := hm.lp; omega)
  omega
theorem smok {f g : SF} (hf : f.Sh) (hg : g.Sh) {p : List (List Int)} (h1 : p.length ≤ 8) (h2 : ∀ x ∈ p, x.length ≤ 16) : (⟨f, g, p⟩ : SM).ok ∧ (⟨f, g, p⟩ : SM).size ≤ 1000000 := by
  obtain ⟨a1, a2⟩ := hf.ok
  obtain ⟨b1, b2⟩ := hg.ok
  have h3 := sumL_b h2
  have : p.length * 16 ≤ 8 * 16 := Nat.mul_le_mul_right _ h1
  refine ⟨⟨a1, b1, by simp only; omega, fun xs hx => by have := h2 xs hx; omega, by simp only; omega⟩, ?_⟩
  simp only [SM.size]
  omega
theorem sm0_ok : sm0.ok ∧ sm0.size ≤ 1000000 := by
  have hc : (⟨0, [], [], [], []⟩ : Cat).ok := by refine ⟨?_, ?_, ?_, ?_, ?_, ?_⟩ <;> simp [sumL]
  have hf : (⟨⟨0, [], [], [], []⟩, [], []⟩ : SF).ok := by refine ⟨hc, ?_, ?_, ?_, ?_⟩ <;> simp [sumL]
  refine ⟨⟨hf, hf, ?_, ?_, ?_⟩, ?_⟩ <;> simp [sm0, sumL, SM.size, SF.size, Cat.size]
theorem SM.Sh.plen {m : SM} (hm : m.Sh) : m.p.length ≤ 8 := by
  have h1 := hm.lp
  have h2 := hm.hs.1.ls
  have h3 := hm.hs.1.cat.1.n8
  omega
/-- What the composite needs. -/
theorem then_ok {s t : SM} (hs : s.Sh) (ht : t.Sh) (he : s.t = t.s) : (thenM s t).ok ∧ (thenM s t).size ≤ 1000000 ∧ s.p.length ≤ t.p.length ∧ (∀ x : Nat, x < s.p.length → (rx s.p x).length ≤ 1048576) ∧ ∀ x : Nat, x < s.p.length → ∀ y ∈ rx s.p x, 0 ≤ y ∧ y < ((rx t.p x).length : Int) := by
  have h1 := hs.plen
  have h2 := hs.lp
  have h3 := ht.lp
  have h4 := hs.hs.1.ls
  have h5 := hs.ht.1.ls
  rw [← hs.eq] at h5
  rw [he] at h5
  have hl : s.p.length = t.p.length := by omega
  have hr : ∀ xs ∈ thenP s.p t.p s.p.length, xs.length ≤ 16 := by
    intro xs hx
    simp only [thenP, List.mem_map, List.mem_range] at hx
    obtain ⟨x, hx, rfl⟩ := hx
    rw [thenL_length]
    exact hs.rows hx
  obtain ⟨q1, q2⟩ := smok (p := thenP s.p t.p s.p.length) hs.hs.1 ht.ht.1 (by simpa using h1) hr
  refine ⟨q1, q2, by omega, fun x hx => by have := hs.rows hx; omega, fun x hx y hy => ?_⟩
  have g1 := (hs.pt x hx).2 y hy
  have g2 := (ht.pt x (by omega)).1
  rw [he] at g1
  simp only [inR, Bool.and_eq_true, decide_eq_true_eq] at g1
  omega
theorem tres_ok (s t : SM) : (tres s t).1.ok ∧ (tres s t).1.size ≤ 1000000 := by
  by_cases h1 : s.Is ∧ t.Is
  · by_cases h2 : s.t = t.s
    · rw [tres3 h1 h2]; exact ⟨(then_ok h1.1.1 h1.2.1 h2).1, (then_ok h1.1.1 h1.2.1 h2).2.1⟩
    · rw [tres2 h1 h2]; exact sm0_ok
  · rw [tres1 h1]; exact sm0_ok

theorem n7 (u v : Bool) (s t : SM) : Contract Try.prog 7 [.agg (s.cells u), .agg (t.cells v)] (.tup (smout (tres s t))) := by
  refine contract_introG (rvs := [.cell 4 35, .tmp 5]) (rs := smout (tres s t)) Try.func7 rfl rfl rfl rfl (by simp [Try.f7]) fun F hN hP => ?_
  refine w_sr mo (by rw [hN]; decide) fun K hK => ?_ -- region 0
  simp [SM.cells]
  refine hK _ ?_
  clear hK K
  refine w_seq ?_
  refine w_sr mo (by rw [hN]; decide) fun K hK => ?_ -- region 1
  refine join hK (fun b => ⟨[(2, .adr 0 0 0), (3, .adr 1 0 0), (4, .adr 2 0 0), (13, .val (.bool b))], [(0, .mix 15 [[.val (.int .i64 s.s.s.n), .lst u 1 (Is s.s.s.fr), .lst u 1 (Is s.s.s.to), .lst u 1 (Is s.s.s.id), .lst u 1 (Ls s.s.s.cs), .lst u 1 (Is s.s.sz), .lst u 1 (Ls s.s.ac), .val (.int .i64 s.t.s.n), .lst u 1 (Is s.t.s.fr), .lst u 1 (Is s.t.s.to), .lst u 1 (Is s.t.s.id), .lst u 1 (Ls s.t.s.cs), .lst u 1 (Is s.t.sz), .lst u 1 (Ls s.t.ac), .lst u 1 (Ls s.p)]]), (1, .mix 15 [[.val (.int .i64 t.s.s.n), .lst v 1 (Is t.s.s.fr), .lst v 1 (Is t.s.s.to), .lst v 1 (Is t.s.s.id), .lst v 1 (Ls t.s.s.cs), .lst v 1 (Is t.s.sz), .lst v 1 (Ls t.s.ac), .val (.int .i64 t.t.s.n), .lst v 1 (Is t.t.s.fr), .lst v 1 (Is t.t.s.to), .lst v 1 (Is t.t.s.id), .lst v 1 (Ls t.t.s.cs), .lst v 1 (Is t.t.sz), .lst v 1 (Ls t.t.ac), .lst v 1 (Ls t.p)]]), (2, .mix 15 [[.val (.int .i64 0), .val (.slice none 0 0), .val (.slice none 0 0), .val (.slice none 0 0), .val (.slice none 0 0), .val (.slice none 0 0), .val (.slice none 0 0), .val (.int .i64 0), .val (.slice none 0 0), .val (.slice none 0 0), .val (.slice none 0 0), .val (.slice none 0 0), .val (.slice none 0 0), .val (.slice none 0 0), .val (.slice none 0 0)]])], 3⟩) (¬ (s.Is ∧ t.Is)) (fun hJ => ?_) fun b hb => ?_
  · simp
    refine callA_intro (n19 u s) (.cons (.aggL SM.pur) .nil) ?_
    simp [unk, unA, unE, flat]
    refine ⟨fun a0 => ?_, fun a0 => ?_⟩
    · refine callA_intro (n19 v t) (.cons (.aggL SM.pur) .nil) ?_
      simp [unk, unA, unE, flat]
      exact hJ (!bo t.Is) (by simp [a0]) _ (Wk.rel [(0, 0), (1, 1), (2, 2)] (by simp) (by simp) (by rw [hP]; simp) (by simp) (by simp) (by simp) (by simp [hhOk, back]))
    · exact hJ (true) (yes fun hp => a0 hp.1) _ (Wk.rel [(0, 0), (1, 1), (2, 2)] (by simp) (by simp) (by rw [hP]; simp) (by simp) (by simp) (by simp) (by simp [hhOk, back]))
  clear hK K
  refine w_cond rfl (fun h => ?_) fun h => ?_
  · have hn := hb.1 h
    refine w_sr mo (by rw [hN]; decide) fun K hK => ?_ -- region 2
    simp
    refine hK _ ?_
    clear hK K
    refine w_ret ⟨_, .cell z35 rfl rfl rfl (by simp) (by simp) (.tmp .nil), ?_⟩
    rw [tres1 hn]
    refine ⟨.agg rfl (.one rfl rfl .nil), [.val (.int .i64 0), .val (.slice none 0 0), .val (.slice none 0 0), .val (.slice none 0 0), .val (.slice none 0 0), .val (.slice none 0 0), .val (.slice none 0 0), .val (.int .i64 0), .val (.slice none 0 0), .val (.slice none 0 0), .val (.slice none 0 0), .val (.slice none 0 0), .val (.slice none 0 0), .val (.slice none 0 0), .val (.slice none 0 0), _], [], rfl, by simp, ?_⟩
    exact .cons .refl (.cons .nil (.cons .nil (.cons .nil (.cons .nil (.cons .nil (.cons .nil (.cons .refl (.cons .nil (.cons .nil (.cons .nil (.cons .nil (.cons .nil (.cons .nil (.cons .nil (.cons .refl (.nil))))))))))))))))
  · obtain ⟨hs, ht⟩ : s.Is ∧ t.Is := Classical.byContradiction fun hn => by rw [hb.2 hn] at h; cases h
    refine w_skip ?_
    refine w_seq ?_
    refine w_sr mo (by rw [hN]; decide) fun K hK => ?_ -- region 3
    simp
    refine callA_intro (n20 u v s.t t.s) (.cons (.aggL SF.pur) (.cons (.aggL SF.pur) .nil)) ?_
    simp [unk, unA, unE, flat]
    refine hK _ ?_
    clear hK K
    refine w_cond rfl (fun h2 => ?_) fun h2 => ?_
    · have he : ¬ s.t = t.s := bo_not h2
      refine w_sr mo (by rw [hN]; decide) fun K hK => ?_ -- region 4
      simp
      refine hK _ ?_
      clear hK K
      refine w_ret ⟨_, .cell z35 rfl rfl rfl (by simp) (by simp) (.tmp .nil), ?_⟩
      rw [tres2 ⟨hs, ht⟩ he]
      refine ⟨.agg rfl (.one rfl rfl .nil), [.val (.int .i64 0), .val (.slice none 0 0), .val (.slice none 0 0), .val (.slice none 0 0), .val (.slice none 0 0), .val (.slice none 0 0), .val (.slice none 0 0), .val (.int .i64 0), .val (.slice none 0 0), .val (.slice none 0 0), .val (.slice none 0 0), .val (.slice none 0 0), .val (.slice none 0 0), .val (.slice none 0 0), .val (.slice none 0 0), _], [], rfl, by simp, ?_⟩
      exact .cons .refl (.cons .nil (.cons .nil (.cons .nil (.cons .nil (.cons .nil (.cons .nil (.cons .refl (.cons .nil (.cons .nil (.cons .nil (.cons .nil (.cons .nil (.cons .nil (.cons .nil (.cons .refl (.nil))))))))))))))))
    · have he : s.t = t.s := bo_yes h2
      obtain ⟨k1, k2, k3, k4, k5⟩ := then_ok hs.1 ht.1 he
      have k6 := hs.1.plen
      refine w_skip ?_
      refine w_sr mo (by rw [hN]; decide) fun K hK => ?_ -- region 5 DRAWN
      simp
      refine callA_intro (n22 u v s.p t.p (by omega) k3 k4 k5) (.cons .lst (.cons .lst .nil)) ?_
      simp [unk, unA, unE, flat]
      refine callA_intro (n21 u v true (thenM s t) k1) (.cons (.aggL SF.pur) (.cons (.aggL SF.pur) (.cons (.whole rfl rfl (by simp [thenM])) .nil))) ?_
      simp [unk, unA, unE, unC, flat, SM.cells]
      refine hK _ ?_
      clear hK K
      refine w_ret ⟨_, .cell z35 rfl rfl rfl (by simp) (by simp) (.tmp .nil), ?_⟩
      rw [tres3 ⟨hs, ht⟩ he]
      refine ⟨.agg rfl (.one rfl rfl .nil), [.val (.int .i64 (thenM s t).s.s.n), .lst true 1 (Is (thenM s t).s.s.fr), .lst true 1 (Is (thenM s t).s.s.to), .lst true 1 (Is (thenM s t).s.s.id), .lst true 1 (Ls (thenM s t).s.s.cs), .lst true 1 (Is (thenM s t).s.sz), .lst true 1 (Ls (thenM s t).s.ac), .val (.int .i64 (thenM s t).t.s.n), .lst true 1 (Is (thenM s t).t.s.fr), .lst true 1 (Is (thenM s t).t.s.to), .lst true 1 (Is (thenM s t).t.s.id), .lst true 1 (Ls (thenM s t).t.s.cs), .lst true 1 (Is (thenM s t).t.sz), .lst true 1 (Ls (thenM s t).t.ac), .lst true 1 (Ls (thenM s t).p), .val (.int .i64 0)], [6, 7, 8, 9, 10, 11, 13, 14, 15, 16, 17, 18, 19], ?_, by simp, UpL.refl _⟩
      simp [thenM]

theorem n9 (u : Bool) (s t : SM) : Contract Try.prog 9 [.agg (s.cells u), .agg (t.cells u)] (.tup (smout (tres s t))) := by
  refine contract_introG (rvs := [.cell 4 35, .tmp 5]) (rs := smout (tres s t)) Try.func9 rfl rfl rfl rfl (by simp [Try.f9]) fun F hN hP => ?_
  refine w_sr mo (by rw [hN]; decide) fun K hK => ?_ -- region 0
  simp [SM.cells]
  refine hK _ ?_
  clear hK K
  refine w_seq ?_
  refine w_sr mo (by rw [hN]; decide) fun K hK => ?_ -- region 1
  simp
  refine callA_intro (n25 true u [s, t] (by simp)) (.cons (.lits (es := _) rfl (.cons rfl (.cons (.var rfl (by simp) (.cons .val (.cons .lst (.cons .lst (.cons .lst (.cons .lst (.cons .lst (.cons .lst (.cons .val (.cons .lst (.cons .lst (.cons .lst (.cons .lst (.cons .lst (.cons .lst (.cons .lst .nil)))))))))))))))) .nil) (.cons rfl (.cons (.var rfl (by simp) (.cons .val (.cons .lst (.cons .lst (.cons .lst (.cons .lst (.cons .lst (.cons .lst (.cons .val (.cons .lst (.cons .lst (.cons .lst (.cons .lst (.cons .lst (.cons .lst (.cons .lst .nil)))))))))))))))) .nil) .nil)) rfl) .nil) ?_
  simp [unk, unA, unE, flat]
  refine hK _ ?_
  clear hK K
  refine w_cond rfl (fun h => ?_) fun h => ?_
  · have hn : ¬ (s.Is ∧ t.Is) := fun q => bo_not h (by simp [q.1, q.2])
    refine w_sr mo (by rw [hN]; decide) fun K hK => ?_ -- region 2
    simp
    refine hK _ ?_
    clear hK K
    refine w_ret ⟨_, .cell z35 rfl rfl rfl (by simp) (by simp) (.tmp .nil), ?_⟩
    rw [tres1 hn]
    refine ⟨.agg rfl (.one rfl rfl .nil), [.val (.int .i64 0), .val (.slice none 0 0), .val (.slice none 0 0), .val (.slice none 0 0), .val (.slice none 0 0), .val (.slice none 0 0), .val (.slice none 0 0), .val (.int .i64 0), .val (.slice none 0 0), .val (.slice none 0 0), .val (.slice none 0 0), .val (.slice none 0 0), .val (.slice none 0 0), .val (.slice none 0 0), .val (.slice none 0 0), _], [], rfl, by simp, ?_⟩
    exact .cons .refl (.cons .nil (.cons .nil (.cons .nil (.cons .nil (.cons .nil (.cons .nil (.cons .refl (.cons .nil (.cons .nil (.cons .nil (.cons .nil (.cons .nil (.cons .nil (.cons .nil (.cons .refl (.nil))))))))))))))))
  · have hst := bo_yes h
    obtain ⟨hs, ht⟩ : s.Is ∧ t.Is := by simpa using hst
    refine w_skip ?_
    refine w_seq ?_
    refine w_weak (st' := ⟨[(2, .adr 0 0 0), (3, .adr 1 0 0), (4, .adr 2 0 0)], [(0, .mix 15 [[.val (.int .i64 s.s.s.n), .lst u 1 (Is s.s.s.fr), .lst u 1 (Is s.s.s.to), .lst u 1 (Is s.s.s.id), .lst u 1 (Ls s.s.s.cs), .lst u 1 (Is s.s.sz), .lst u 1 (Ls s.s.ac), .val (.int .i64 s.t.s.n), .lst u 1 (Is s.t.s.fr), .lst u 1 (Is s.t.s.to), .lst u 1 (Is s.t.s.id), .lst u 1 (Ls s.t.s.cs), .lst u 1 (Is s.t.sz), .lst u 1 (Ls s.t.ac), .lst u 1 (Ls s.p)]]), (1, .mix 15 [[.val (.int .i64 t.s.s.n), .lst u 1 (Is t.s.s.fr), .lst u 1 (Is t.s.s.to), .lst u 1 (Is t.s.s.id), .lst u 1 (Ls t.s.s.cs), .lst u 1 (Is t.s.sz), .lst u 1 (Ls t.s.ac), .val (.int .i64 t.t.s.n), .lst u 1 (Is t.t.s.fr), .lst u 1 (Is t.t.s.to), .lst u 1 (Is t.t.s.id), .lst u 1 (Ls t.t.s.cs), .lst u 1 (Is t.t.sz), .lst u 1 (Ls t.t.ac), .lst u 1 (Ls t.p)]]), (2, .mix 15 [[.val (.int .i64 0), .val (.slice none 0 0), .val (.slice none 0 0), .val (.slice none 0 0), .val (.slice none 0 0), .val (.slice none 0 0), .val (.slice none 0 0), .val (.int .i64 0), .val (.slice none 0 0), .val (.slice none 0 0), .val (.slice none 0 0), .val (.slice none 0 0), .val (.slice none 0 0), .val (.slice none 0 0), .val (.slice none 0 0)]])], 3⟩) (Wk.rel [(0, 0), (1, 1), (2, 2)] (by simp) (by simp) (by rw [hP]; simp) (by simp) (by simp) (by simp) (by simp [hhOk, back])) ?_
    refine w_sr mo (by rw [hN]; decide) fun K hK => ?_ -- region 3
    simp
    refine callA_intro (n26 u u s.t t.s [.lst u 1 (Ls s.p)] [.val (.int .i64 t.t.s.n), .lst u 1 (Is t.t.s.fr), .lst u 1 (Is t.t.s.to), .lst u 1 (Is t.t.s.id), .lst u 1 (Ls t.t.s.cs), .lst u 1 (Is t.t.sz), .lst u 1 (Ls t.t.ac), .lst u 1 (Ls t.p)] (by have h1 := hs.1.ht.1.cat.1.lc; have h2 := hs.1.ht.1.cat.1.m40; omega) (by have h1 := hs.1.ht.1.la; have h2 := hs.1.ht.1.cat.1.m40; omega)) (.cons (.field (k := 7) rfl (by simp [SF.cells]) (.cons .val (.cons .lst (.cons .lst (.cons .lst (.cons .lst (.cons .lst (.cons .lst (.cons .lst .nil))))))))) (.cons (.field (k := 0) rfl (by simp [SF.cells]) (.cons .val (.cons .lst (.cons .lst (.cons .lst (.cons .lst (.cons .lst (.cons .lst (.cons .val (.cons .lst (.cons .lst (.cons .lst (.cons .lst (.cons .lst (.cons .lst (.cons .lst .nil)))))))))))))))) .nil)) ?_
    simp [unk, unA, unE, flat]
    refine hK _ ?_
    clear hK K
    refine w_cond rfl (fun h2 => ?_) fun h2 => ?_
    · have he : ¬ s.t = t.s := bo_not h2
      refine w_sr mo (by rw [hN]; decide) fun K hK => ?_ -- region 4
      simp
      refine hK _ ?_
      clear hK K
      refine w_ret ⟨_, .cell z35 rfl rfl rfl (by simp) (by simp) (.tmp .nil), ?_⟩
      rw [tres2 ⟨hs, ht⟩ he]
      refine ⟨.agg rfl (.one rfl rfl .nil), [.val (.int .i64 0), .val (.slice none 0 0), .val (.slice none 0 0), .val (.slice none 0 0), .val (.slice none 0 0), .val (.slice none 0 0), .val (.slice none 0 0), .val (.int .i64 0), .val (.slice none 0 0), .val (.slice none 0 0), .val (.slice none 0 0), .val (.slice none 0 0), .val (.slice none 0 0), .val (.slice none 0 0), .val (.slice none 0 0), _], [], rfl, by simp, ?_⟩
      exact .cons .refl (.cons .nil (.cons .nil (.cons .nil (.cons .nil (.cons .nil (.cons .nil (.cons .refl (.cons .nil (.cons .nil (.cons .nil (.cons .nil (.cons .nil (.cons .nil (.cons .nil (.cons .refl (.nil))))))))))))))))
    · have he : s.t = t.s := bo_yes h2
      obtain ⟨k1, k2, k3, k4, k5⟩ := then_ok hs.1 ht.1 he
      have k6 := hs.1.plen
      refine w_skip ?_
      refine w_sr mo (by rw [hN]; decide) fun K hK => ?_ -- region 5
      simp
      refine callA_intro (n28 u u s.p t.p (by omega) k3 k4 k5) (.cons .lst (.cons .lst .nil)) ?_
      simp [unk, unA, unE, flat]
      refine callA_intro (n27 u u true (thenM s t) [] [] k1) (.cons (.field (k := 0) rfl (by simp [SF.cells]) (.cons .val (.cons .lst (.cons .lst (.cons .lst (.cons .lst (.cons .lst (.cons .lst .nil)))))))) (.cons (.field (k := 7) rfl (by simp [SF.cells]) (.cons .val (.cons .lst (.cons .lst (.cons .lst (.cons .lst (.cons .lst (.cons .lst .nil)))))))) (.cons (.whole rfl rfl (by simp [thenM])) .nil))) ?_
      simp [unk, unA, unE, unC, flat, SM.cells]
      refine hK _ ?_
      clear hK K
      refine w_ret ⟨_, .cell z35 rfl rfl rfl (by simp) (by simp) (.tmp .nil), ?_⟩
      rw [tres3 ⟨hs, ht⟩ he]
      refine ⟨.agg rfl (.one rfl rfl .nil), [.val (.int .i64 (thenM s t).s.s.n), .lst true 1 (Is (thenM s t).s.s.fr), .lst true 1 (Is (thenM s t).s.s.to), .lst true 1 (Is (thenM s t).s.s.id), .lst true 1 (Ls (thenM s t).s.s.cs), .lst true 1 (Is (thenM s t).s.sz), .lst true 1 (Ls (thenM s t).s.ac), .val (.int .i64 (thenM s t).t.s.n), .lst true 1 (Is (thenM s t).t.s.fr), .lst true 1 (Is (thenM s t).t.s.to), .lst true 1 (Is (thenM s t).t.s.id), .lst true 1 (Ls (thenM s t).t.s.cs), .lst true 1 (Is (thenM s t).t.sz), .lst true 1 (Ls (thenM s t).t.ac), .lst true 1 (Ls (thenM s t).p), .val (.int .i64 0)], [6, 7, 8, 9, 10, 11, 13, 14, 15, 16, 17, 18, 19], ?_, by simp, UpL.refl _⟩
      simp [thenM]

end Go.Vc.T
