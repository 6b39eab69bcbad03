/- A part of the proof: a verified generator of conditions, and what each function of the program does. -/
import Derived.Test.YtgdcogaeechepaaW1
set_option maxRecDepth 100000
set_option linter.unusedSimpArgs false
set_option linter.unusedVariables false

set_option maxRecDepth 100000
set_option linter.unusedSimpArgs false
set_option linter.unusedVariables false

namespace Go.Vc.T
open Go Go.Vc Go.Proofs

def ix (xs : List Int) (j : Int) : Int := xs.getD j.toNat 0
def rx (xss : List (List Int)) (j : Int) : List Int := xss.getD j.toNat []

theorem at_ix (xs : List Int) (i : Nat) (h : i < xs.length) : xs[i] = ix xs i := by simp [ix, List.getD_eq_getElem?_getD, h]
theorem at_rx (xs : List (List Int)) (i : Nat) (h : i < xs.length) : xs[i] = rx xs i := by simp [rx, List.getD_eq_getElem?_getD, h]
theorem ix_max (xs : List Int) (j : Int) : ix xs (max j 0) = ix xs j := by simp only [ix]; congr 1; omega
theorem rx_max (xs : List (List Int)) (j : Int) : rx xs (max j 0) = rx xs j := by simp only [rx]; congr 1; omega
theorem Is_ix {xs : List Int} {j : Int} (h0 : 0 ≤ j) (h1 : j < xs.length) : (Is xs)[j.toNat]? = some [.val (.int .i64 (ix xs j))] := by
  have : j.toNat < xs.length := by omega
  simp [ix, List.getD_eq_getElem?_getD, this]
theorem Ls_rx {xs : List (List Int)} {j : Int} (h0 : 0 ≤ j) (h1 : j < xs.length) : (Ls xs)[j.toNat]? = some [.lst true 1 (Is (rx xs j))] := by
  have : j.toNat < xs.length := by omega
  simp [rx, List.getD_eq_getElem?_getD, this]
theorem all_ix {xs : List Int} {n j : Int} (h : ∀ x ∈ xs, inR n x = true) (h0 : 0 ≤ j) (h1 : j < xs.length) : 0 ≤ ix xs j ∧ ix xs j < n := by
  have hj : j.toNat < xs.length := by omega
  have := h _ (List.getElem_mem hj)
  simp only [inR, Bool.and_eq_true, decide_eq_true_eq] at this
  simp only [ix, List.getD_eq_getElem?_getD, List.getElem?_eq_getElem hj, Option.getD_some]
  omega

def Cat.cell (c : Cat) (f g : Nat) : Prop := (ix c.to f ≠ ix c.fr g → ix (rx c.cs f) g = -1) ∧
  (ix c.to f = ix c.fr g → 0 ≤ ix (rx c.cs f) g ∧ ix (rx c.cs f) g < c.fr.length ∧ ix c.fr (ix (rx c.cs f) g) = ix c.fr f ∧ ix c.to (ix (rx c.cs f) g) = ix c.to g)

structure Cat.Sh (c : Cat) : Prop where
  n0 : 0 ≤ c.n
  n8 : c.n ≤ 8
  m40 : c.fr.length ≤ 40
  lt : c.to.length = c.fr.length
  fr : (∀ x ∈ c.fr, inR c.n x = true)
  to : (∀ x ∈ c.to, inR c.n x = true)
  lc : c.cs.length = c.fr.length
  li : (c.id.length : Int) = c.n
  id : (∀ x ∈ c.id, inR c.fr.length x = true)
  ids : ∀ x : Nat, x < c.id.length → ix c.fr (ix c.id x) = x ∧ ix c.to (ix c.id x) = x
  rows : ∀ f : Nat, f < c.fr.length → (rx c.cs f).length = c.fr.length ∧ ∀ g : Nat, g < c.fr.length → c.cell f g

open Classical in
noncomputable def bo (p : Prop) : Bool := decide p
theorem bo_t {p : Prop} (h : p) : Value.bool true = Value.bool (bo p) := by simp [bo, h]
theorem bo_f {p : Prop} (h : ¬ p) : Value.bool false = Value.bool (bo p) := by simp [bo, h]

theorem c69 (u : Bool) (c : Cat) (tl : List AV) (f g : Int) (h1 : 0 ≤ f) (h2 : f < c.cs.length) (h3 : 0 ≤ g) (h4 : g < (rx c.cs f).length) : Contract Try.prog 104 [.rptr (c.cells u ++ tl), .val (.int .i64 f), .val (.int .i64 g)] (.val (.int .i64 (ix (rx c.cs f) g))) := by
  refine contract_intro (rs := [.val (.int .i64 (ix (rx c.cs f) g))]) Try.func104 rfl rfl rfl rfl (by simp [Try.f104]) fun F hN hP => ?_
  refine w_sr mo (by rw [hN]; decide) fun K hK => ?_ -- region 0
  simp
  refine hK _ ?_
  clear hK K
  refine w_sr mo (by rw [hN]; decide) fun K hK => ?_ -- region 1
  simp [Cat.cells, at_ix, at_rx, ix_max, rx_max, h1, h2, h3, h4]
  refine hK _ ?_
  clear hK K
  refine w_ret (ret_val rfl rfl)

theorem c68 (u : Bool) (c : Cat) (tl : List AV) (f : Int) (h1 : 0 ≤ f) (h2 : f < c.fr.length) (h3 : f < c.to.length) : Contract Try.prog 103 [.rptr (c.cells u ++ tl), .val (.int .i64 f)] (.agg [.val (.int .i64 (ix c.fr f)), .val (.int .i64 (ix c.to f))]) := by
  refine contract_introC Try.func103 rfl rfl y86 rfl rfl (by simp [Try.f103]) fun F hN hP => ?_
  refine w_sr mo (by rw [hN]; decide) fun K hK => ?_ -- region 0
  simp
  refine hK _ ?_
  clear hK K
  refine w_sr mo (by rw [hN]; decide) fun K hK => ?_ -- region 1 DRAWN
  simp [Cat.cells, at_ix, ix_max, h1, h2, h3]
  refine hK _ ?_
  clear hK K
  refine w_ret ⟨_, _, _, _, _, rfl, rfl, by simp, by simp, ?_⟩
  exact ⟨.agg rfl .nil, [.val (.int .i64 (ix c.fr f)), .val (.int .i64 (ix c.to f))], [], by simp, by simp, UpL.refl _⟩

theorem yes {C : Prop} (h : C) : (true = true ↔ C) := ⟨fun _ => h, fun _ => rfl⟩
def Cat.P1 (c : Cat) : Prop := 0 ≤ c.n ∧ c.n ≤ 8 ∧ c.fr.length ≤ 40 ∧ c.to.length = c.fr.length ∧ (∀ x ∈ c.fr, inR c.n x = true) ∧ (∀ x ∈ c.to, inR c.n x = true) ∧ c.cs.length = c.fr.length
def Cat.P2 (c : Cat) : Prop := (c.id.length : Int) = c.n ∧ (∀ x ∈ c.id, inR c.fr.length x = true)
def Cat.row (c : Cat) (f : Nat) : Prop := (rx c.cs f).length = c.fr.length ∧ ∀ g : Nat, g < c.fr.length → c.cell f g
theorem all_succ {P : Nat → Prop} {x : Nat} (h : ∀ y, y < x → P y) (hx : P x) : ∀ y, y < x + 1 → P y := by
  intro y hy
  rcases Nat.lt_or_ge y x with h1 | h1
  · exact h y h1
  · have : y = x := by omega
    subst this; exact hx
theorem Cat.Sh.P1 {c : Cat} (h : c.Sh) : c.P1 := ⟨h.n0, h.n8, h.m40, h.lt, h.fr, h.to, h.lc⟩
theorem Cat.Sh.P2 {c : Cat} (h : c.Sh) : c.P2 := ⟨h.li, h.id⟩

theorem c63 (u : Bool) (c : Cat) : Contract Try.prog 96 [.agg (c.cells u)] (.val (.bool (bo c.Sh))) := by
  refine contract_intro (rs := [.val (.bool (bo c.Sh))]) Try.func96 rfl rfl rfl rfl (by simp [Try.f96]) fun F hN hP => ?_
  refine w_sr mo (by rw [hN]; decide) fun K hK => ?_ -- region 0
  simp [Cat.cells]
  refine hK _ ?_
  clear hK K
  refine w_sr mo (by rw [hN]; decide) fun K hK => ?_ -- region 1
  simp
  refine hK _ ?_
  clear hK K
  refine w_seq ?_
  refine w_sr mo (by rw [hN]; decide) fun K hK => ?_ -- region 2
  refine join hK (fun b => ⟨[(1, .adr 0 0 0), (3, .val (.int .i64 c.fr.length)), (43, .val (.bool b))], [(0, .mix 5 [[.val (.int .i64 c.n), .lst u 1 (Is c.fr), .lst u 1 (Is c.to), .lst u 1 (Is c.id), .lst u 1 (Ls c.cs)]])], 1⟩) (¬ c.P1) (fun hJ => ?_) fun b hb => ?_
  · simp
    refine callA_intro (c56 c.n 0 8) (.cons .val (.cons .val (.cons .val .nil))) ?_
    simp [unk, unA, unE, flat]
    refine ⟨fun a1 a2 => ⟨fun a3 => ?_, fun a3 => ?_⟩, fun a1 => ?_⟩
    · refine callA_intro (c67 u c.fr c.fr.length c.n) (.cons .lst (.cons .val (.cons .val .nil))) ?_
      simp [unk, unA, unE, flat]
      refine ⟨fun a4 => ?_, fun a4 => ?_⟩
      · refine callA_intro (c67 u c.to c.fr.length c.n) (.cons .lst (.cons .val (.cons .val .nil))) ?_
        simp [unk, unA, unE, flat]
        refine ⟨fun a5 a6 => ?_, fun a5 => ?_⟩
        · exact hJ ((c.cs.length : Int) != c.fr.length) (by simp [Cat.P1]; grind) _ (Wk.relabel [(0, 0)] (by simp) (by simp) (by rw [hP]; simp) (by simp) (by simp) (by simp) (by simp))
        · intros
          exact hJ (true) (yes fun hp => by simp [Cat.P1] at hp; grind) _ (Wk.relabel [(0, 0)] (by simp) (by simp) (by rw [hP]; simp) (by simp) (by simp) (by simp) (by simp))
      · intros
        exact hJ (true) (yes fun hp => by simp [Cat.P1] at hp; grind) _ (Wk.relabel [(0, 0)] (by simp) (by simp) (by rw [hP]; simp) (by simp) (by simp) (by simp) (by simp))
    · exact hJ (true) (yes fun hp => by have := hp.2.2.1; omega) _ (Wk.relabel [(0, 0)] (by simp) (by simp) (by rw [hP]; simp) (by simp) (by simp) (by simp) (by simp))
    · exact hJ (true) (yes fun hp => by have := hp.1; have := hp.2.1; omega) _ (Wk.relabel [(0, 0)] (by simp) (by simp) (by rw [hP]; simp) (by simp) (by simp) (by simp) (by simp))
  clear hK K
  refine w_cond rfl (fun h => ?_) fun h => ?_
  · refine w_sr mo (by rw [hN]; decide) fun K hK => ?_ -- region 3
    simp
    refine hK _ ?_
    clear hK K
    refine w_ret (ret_val rfl (bo_f fun hs => ?_))
    exact hb.1 h hs.P1
  · have p1 : c.P1 := Classical.byContradiction fun hn => by rw [hb.2 hn] at h; cases h
    refine w_skip ?_
    refine w_seq ?_
    refine w_sr mo (by rw [hN]; decide) fun K hK => ?_ -- region 4
    refine join hK (fun b => ⟨[(1, .adr 0 0 0), (3, .val (.int .i64 c.fr.length)), (56, .val (.bool b))], [(0, .mix 5 [[.val (.int .i64 c.n), .lst u 1 (Is c.fr), .lst u 1 (Is c.to), .lst u 1 (Is c.id), .lst u 1 (Ls c.cs)]])], 1⟩) (¬ c.P2) (fun hJ => ?_) fun b hb => ?_
    · simp
      refine ⟨fun a1 => ?_, fun a1 => ?_⟩
      · refine callA_intro (c57 u c.id c.fr.length) (.cons .val (.cons .lst .nil)) ?_
        simp [unk, unA, unE, flat]
        exact hJ (!c.id.all (inR c.fr.length)) (by simp [Cat.P2, a1]) _ (Wk.relabel [(0, 0)] (by simp) (by simp) (by rw [hP]; simp) (by simp) (by simp) (by simp) (by simp))
      · exact hJ (true) (yes fun hp => a1 hp.1) _ (Wk.relabel [(0, 0)] (by simp) (by simp) (by rw [hP]; simp) (by simp) (by simp) (by simp) (by simp))
    clear hK K
    refine w_cond rfl (fun h => ?_) fun h => ?_
    · refine w_sr mo (by rw [hN]; decide) fun K hK => ?_ -- region 5
      simp
      refine hK _ ?_
      clear hK K
      refine w_ret (ret_val rfl (bo_f fun hs => ?_))
      exact hb.1 h hs.P2
    · have p2 : c.P2 := Classical.byContradiction fun hn => by rw [hb.2 hn] at h; cases h
      have hl1 : c.to.length = c.fr.length := p1.2.2.2.1
      have hl2 : c.cs.length = c.fr.length := p1.2.2.2.2.2.2
      have hl3 : (c.id.length : Int) = c.n := p2.1
      have hn8 : c.n ≤ 8 := p1.2.1
      have hm40 : c.fr.length ≤ 40 := p1.2.2.1
      refine w_skip ?_
      refine w_seq ?_
      refine w_sr mo (by rw [hN]; decide) fun K hK => ?_ -- region 6
      simp
      refine hK _ ?_
      clear hK K
      refine w_block ?_
      refine w_loop (fun x : Nat => ⟨[(1, .adr 0 0 0), (3, .val (.int .i64 c.fr.length)), (4, .val (.int .i64 x))], [(0, .mix 5 [[.val (.int .i64 c.n), .lst u 1 (Is c.fr), .lst u 1 (Is c.to), .lst u 1 (Is c.id), .lst u 1 (Ls c.cs)]])], 1⟩) (fun x => x ≤ c.id.length ∧ ∀ y : Nat, y < x → ix c.fr (ix c.id y) = y ∧ ix c.to (ix c.id y) = y) (fun x => c.id.length - x) 0 (by simp) (Wk.relabel [(0, 0)] (by simp) (by simp) (by rw [hP]; simp) (by simp) (by simp) (by simp) (by simp)) ?_
      rintro x ⟨hx, hi0⟩
      refine w_seq ?_
      refine w_sr mo (by rw [hN]; decide) fun K hK => ?_ -- region 7
      simp
      refine hK _ ?_
      clear hK K
      refine w_cond rfl (fun h => ?_) fun h => ?_
      · simp at h
        have hx1 : x < c.id.length := by omega
        have b1 := all_ix p2.2 (j := x) (by omega) (by omega)
        have b2 : ix c.id x < c.to.length := by omega
        refine w_skip ?_
        refine w_seq ?_
        refine w_block ?_
        refine w_sr mo (by rw [hN]; decide) fun K hK => ?_ -- region 9 DRAWN
        refine join hK (fun b => ⟨[(1, .adr 0 0 0), (3, .val (.int .i64 c.fr.length)), (4, .val (.int .i64 x)), (86, .val (.bool b))], [(0, .mix 5 [[.val (.int .i64 c.n), .lst u 1 (Is c.fr), .lst u 1 (Is c.to), .lst u 1 (Is c.id), .lst u 1 (Ls c.cs)]])], 1⟩) (¬ (ix c.fr (ix c.id x) = x ∧ ix c.to (ix c.id x) = x)) (fun hJ => ?_) fun b hb => ?_
        · simp [at_ix, at_rx, ix_max, rx_max, hx1, b1.1, b1.2, b2]
          refine ⟨fun a1 => ?_, fun a1 => ?_⟩
          · exact hJ (ix c.to (ix c.id x) != x) (by simp [a1]) _ (Wk.relabel [(0, 0)] (by simp) (by simp) (by rw [hP]; simp) (by simp) (by simp) (by simp) (by simp))
          · exact hJ (true) (yes fun hp => a1 hp.1) _ (Wk.relabel [(0, 0)] (by simp) (by simp) (by rw [hP]; simp) (by simp) (by simp) (by simp) (by simp))
        clear hK K
        refine w_cond rfl (fun h => ?_) fun h => ?_
        · refine w_sr mo (by rw [hN]; decide) fun K hK => ?_ -- region 10
          simp
          refine hK _ ?_
          clear hK K
          refine w_ret (ret_val rfl (bo_f fun hs => ?_))
          exact hb.1 h (hs.ids x hx1)
        · have hc : ix c.fr (ix c.id x) = x ∧ ix c.to (ix c.id x) = x := Classical.byContradiction fun hn => by rw [hb.2 hn] at h; cases h
          refine w_skip ?_
          refine w_run mo (by rw [hN]; decide) fun K hK => ?_ -- region 8
          simp
          refine hK _ ?_
          clear hK K
          rw [wrap_succ (n := c.id.length) (by omega) (by omega)]
          refine ⟨x + 1, ⟨by omega, all_succ hi0 hc⟩, by dsimp only; omega, (Wk.relabel [(0, 0)] (by simp) (by simp) (by rw [hP]; simp) (by simp) (by simp) (by simp) (by simp))⟩
      · simp at h
        have hx2 : c.id.length ≤ x := by omega
        clear h
        refine w_exit ?_
        simp
        refine w_seq ?_
        refine w_sr mo (by rw [hN]; decide) fun K hK => ?_ -- region 11
        simp
        refine hK _ ?_
        clear hK K
        refine w_block ?_
        have hi1 : ∀ y : Nat, y < c.id.length → ix c.fr (ix c.id y) = y ∧ ix c.to (ix c.id y) = y := fun y hy => hi0 y (by omega)
        refine w_loop (fun f : Nat => ⟨[(1, .adr 0 0 0), (3, .val (.int .i64 c.fr.length)), (5, .val (.int .i64 f))], [(0, .mix 5 [[.val (.int .i64 c.n), .lst u 1 (Is c.fr), .lst u 1 (Is c.to), .lst u 1 (Is c.id), .lst u 1 (Ls c.cs)]])], 1⟩) (fun f => f ≤ c.fr.length ∧ ∀ y : Nat, y < f → c.row y) (fun f => c.fr.length - f) 0 (by simp) (Wk.relabel [(0, 0)] (by simp) (by simp) (by rw [hP]; simp) (by simp) (by simp) (by simp) (by simp)) ?_
        rintro f ⟨hf, hi2⟩
        refine w_seq ?_
        refine w_sr mo (by rw [hN]; decide) fun K hK => ?_ -- region 12
        simp
        refine hK _ ?_
        clear hK K
        refine w_cond rfl (fun h => ?_) fun h => ?_
        · simp at h
          have hf1 : f < c.fr.length := h
          clear h
          refine w_skip ?_
          refine w_seq ?_
          refine w_block ?_
          refine w_seq ?_
          refine w_sr mo (by rw [hN]; decide) fun K hK => ?_ -- region 14
          simp [at_ix, at_rx, ix_max, rx_max, hl2, hf1]
          refine hK _ ?_
          clear hK K
          refine w_cond rfl (fun h => ?_) fun h => ?_
          · simp at h
            refine w_sr mo (by rw [hN]; decide) fun K hK => ?_ -- region 15
            simp
            refine hK _ ?_
            clear hK K
            refine w_ret (ret_val rfl (bo_f fun hs => ?_))
            exact absurd (hs.rows f hf1).1 (by omega)
          · simp at h
            have hr : (rx c.cs f).length = c.fr.length := by omega
            clear h
            refine w_skip ?_
            refine w_sr mo (by rw [hN]; decide) fun K hK => ?_ -- region 16
            simp
            refine hK _ ?_
            clear hK K
            refine w_block ?_
            refine w_loop (fun g : Nat => ⟨[(1, .adr 0 0 0), (3, .val (.int .i64 c.fr.length)), (5, .val (.int .i64 f)), (6, .val (.int .i64 g))], [(0, .mix 5 [[.val (.int .i64 c.n), .lst u 1 (Is c.fr), .lst u 1 (Is c.to), .lst u 1 (Is c.id), .lst u 1 (Ls c.cs)]])], 1⟩) (fun g => g ≤ c.fr.length ∧ ∀ y : Nat, y < g → c.cell f y) (fun g => c.fr.length - g) 0 (by simp) (Wk.relabel [(0, 0)] (by simp) (by simp) (by rw [hP]; simp) (by simp) (by simp) (by simp) (by simp)) ?_
            rintro g ⟨hg, hi3⟩
            refine w_seq ?_
            refine w_sr mo (by rw [hN]; decide) fun K hK => ?_ -- region 17
            simp
            refine hK _ ?_
            clear hK K
            refine w_cond rfl (fun h => ?_) fun h => ?_
            · simp at h
              have hg1 : g < c.fr.length := h
              clear h
              refine w_skip ?_
              refine w_seq ?_
              refine w_block ?_
              refine w_sr mo (by rw [hN]; decide) fun K hK => ?_ -- region 19
              simp [at_ix, at_rx, ix_max, rx_max, hl2, hf1, hr, hg1]
              refine hK _ ?_
              clear hK K
              refine w_seq ?_
              refine w_sr mo (by rw [hN]; decide) fun K hK => ?_ -- region 20 DRAWN
              simp [at_ix, at_rx, ix_max, rx_max, hl1, hf1, hg1]
              refine hK _ ?_
              clear hK K
              refine w_cond rfl (fun h1 => ?_) fun h1 => ?_
              · simp at h1
                refine w_seq ?_
                refine w_sr mo (by rw [hN]; decide) fun K hK => ?_ -- region 21
                simp
                refine hK _ ?_
                clear hK K
                refine w_cond rfl (fun h2 => ?_) fun h2 => ?_
                · simp at h2
                  refine w_sr mo (by rw [hN]; decide) fun K hK => ?_ -- region 22
                  simp
                  refine hK _ ?_
                  clear hK K
                  refine w_ret (ret_val rfl (bo_f fun hs => ?_))
                  exact h2 (((hs.rows f hf1).2 g hg1).1 h1)
                · simp at h2
                  have hc : c.cell f g := ⟨fun _ => h2, fun e => absurd e h1⟩
                  refine w_skip ?_
                  refine w_exit ?_
                  simp
                  refine w_run mo (by rw [hN]; decide) fun K hK => ?_ -- region 18
                  simp
                  refine hK _ ?_
                  clear hK K
                  rw [wrap_succ (n := c.fr.length) (by omega) (by omega)]
                  refine ⟨g + 1, ⟨by omega, all_succ hi3 hc⟩, by dsimp only; omega, (Wk.relabel [(0, 0)] (by simp) (by simp) (by rw [hP]; simp) (by simp) (by simp) (by simp) (by simp))⟩
              · simp at h1
                refine w_skip ?_
                refine w_sr mo (by rw [hN]; decide) fun K hK => ?_ -- region 23 DRAWN
                refine join hK (fun b => ⟨[(1, .adr 0 0 0), (3, .val (.int .i64 c.fr.length)), (5, .val (.int .i64 f)), (6, .val (.int .i64 g)), (158, .val (.bool b))], [(0, .mix 5 [[.val (.int .i64 c.n), .lst u 1 (Is c.fr), .lst u 1 (Is c.to), .lst u 1 (Is c.id), .lst u 1 (Ls c.cs)]])], 1⟩) (¬ c.cell f g) (fun hJ => ?_) fun b hb => ?_
                · simp +contextual [at_ix, at_rx, ix_max, rx_max, hl1, hf1, hg1]
                  have hcell : c.cell f g ↔ 0 ≤ ix (rx c.cs f) g ∧ ix (rx c.cs f) g < c.fr.length ∧ ix c.fr (ix (rx c.cs f) g) = ix c.fr f ∧ ix c.to (ix (rx c.cs f) g) = ix c.to g := ⟨fun q => q.2 h1, fun q => ⟨fun e => absurd h1 e, fun _ => q⟩⟩
                  rw [hcell] at hJ
                  refine ⟨fun a1 => ⟨fun a2 => ⟨fun a3 => ?_, fun a3 => ?_⟩, fun a2 => ?_⟩, fun a1 => ?_⟩
                  · exact hJ (ix c.to (ix (rx c.cs f) g) != ix c.to g) (by simp [a1, a2, a3]) _ (Wk.relabel [(0, 0)] (by simp) (by simp) (by rw [hP]; simp) (by simp) (by simp) (by simp) (by simp))
                  · exact hJ (true) (yes fun hp => a3 hp.2.2.1) _ (Wk.relabel [(0, 0)] (by simp) (by simp) (by rw [hP]; simp) (by simp) (by simp) (by simp) (by simp))
                  · exact hJ (true) (yes fun hp => by omega) _ (Wk.relabel [(0, 0)] (by simp) (by simp) (by rw [hP]; simp) (by simp) (by simp) (by simp) (by simp))
                  · exact hJ (true) (yes fun hp => by omega) _ (Wk.relabel [(0, 0)] (by simp) (by simp) (by rw [hP]; simp) (by simp) (by simp) (by simp) (by simp))
                clear hK K
                refine w_cond rfl (fun h => ?_) fun h => ?_
                · refine w_sr mo (by rw [hN]; decide) fun K hK => ?_ -- region 24
                  simp
                  refine hK _ ?_
                  clear hK K
                  refine w_ret (ret_val rfl (bo_f fun hs => ?_))
                  exact hb.1 h ((hs.rows f hf1).2 g hg1)
                · have hc : c.cell f g := Classical.byContradiction fun hn => by rw [hb.2 hn] at h; cases h
                  refine w_skip ?_
                  refine w_run mo (by rw [hN]; decide) fun K hK => ?_ -- region 18
                  simp
                  refine hK _ ?_
                  clear hK K
                  rw [wrap_succ (n := c.fr.length) (by omega) (by omega)]
                  refine ⟨g + 1, ⟨by omega, all_succ hi3 hc⟩, by dsimp only; omega, (Wk.relabel [(0, 0)] (by simp) (by simp) (by rw [hP]; simp) (by simp) (by simp) (by simp) (by simp))⟩
            · simp at h
              have hg2 : c.fr.length ≤ g := by omega
              clear h
              refine w_exit ?_
              simp
              refine w_run mo (by rw [hN]; decide) fun K hK => ?_ -- region 13
              simp
              refine hK _ ?_
              clear hK K
              rw [wrap_succ (n := c.fr.length) (by omega) (by omega)]
              refine ⟨f + 1, ⟨by omega, all_succ hi2 ⟨hr, fun y hy => hi3 y (by omega)⟩⟩, by dsimp only; omega, (Wk.relabel [(0, 0)] (by simp) (by simp) (by rw [hP]; simp) (by simp) (by simp) (by simp) (by simp))⟩
        · simp at h
          have hf2 : c.fr.length ≤ f := by omega
          clear h
          refine w_exit ?_
          simp
          refine w_sr mo (by rw [hN]; decide) fun K hK => ?_ -- region 25
          simp
          refine hK _ ?_
          clear hK K
          refine w_ret (ret_val rfl (bo_t ?_))
          exact ⟨p1.1, p1.2.1, p1.2.2.1, hl1, p1.2.2.2.2.1, p1.2.2.2.2.2.1, hl2, hl3, p2.2, hi1, fun y hy => hi2 y (by omega)⟩

end Go.Vc.T


namespace Go.Vc.T
open Go Go.Vc Go.Proofs

def Cat.Q1 (c : Cat) : Prop := 0 ≤ c.n ∧ c.n ≤ 8 ∧ c.fr.length ≤ 40 ∧ c.to.length = c.fr.length ∧ (∀ x ∈ c.fr, inR c.n x = true) ∧ (∀ x ∈ c.to, inR c.n x = true)
def Cat.Q2 (c : Cat) : Prop := (c.id.length : Int) = c.n ∧ (∀ x ∈ c.id, inR c.fr.length x = true) ∧ c.cs.length = c.fr.length
theorem Cat.Sh.Q1 {c : Cat} (h : c.Sh) : c.Q1 := ⟨h.n0, h.n8, h.m40, h.lt, h.fr, h.to⟩
theorem Cat.Sh.Q2 {c : Cat} (h : c.Sh) : c.Q2 := ⟨h.li, h.id, h.lc⟩

theorem c65 (u : Bool) (c : Cat) (tl : List AV) : Contract Try.prog 101 [.rptr (c.cells u ++ tl)] (.val (.bool (bo c.Sh))) := by
  refine contract_intro (rs := [.val (.bool (bo c.Sh))]) Try.func101 rfl rfl rfl rfl (by simp [Try.f101]) fun F hN hP => ?_
  simp only [Cat.cells, List.cons_append, List.nil_append]
  refine w_sr mo (by rw [hN]; decide) fun K hK => ?_ -- region 0
  simp [Cat.cells]
  refine hK _ ?_
  clear hK K
  refine w_sr mo (by rw [hN]; decide) fun K hK => ?_ -- region 1
  simp
  refine callA_intro (c61 u c tl) (.cons .rptr .nil) ?_
  simp [unk, unA, unE, flat]
  refine hK _ ?_
  clear hK K
  refine w_seq ?_
  refine w_sr mo (by rw [hN]; decide) fun K hK => ?_ -- region 2 DRAWN
  refine join hK (fun b => ⟨[(0, .rptr (.val (.int .i64 c.n) :: .lst u 1 (Is c.fr) :: .lst u 1 (Is c.to) :: .lst u 1 (Is c.id) :: .lst u 1 (Ls c.cs) :: tl)), (3, .val (.int .i64 c.fr.length)), (54, .val (.bool b))], [], 0⟩) (¬ c.Q1) (fun hJ => ?_) fun b hb => ?_
  · simp [Cat.cells]
    refine callA_intro (c46 c.n 0 8) (.cons .val (.cons .val (.cons .val .nil))) ?_
    simp [unk, unA, unE, flat]
    refine ⟨fun a1 a2 => ⟨fun a3 => ⟨fun a7 => ?_, fun a7 => ?_⟩, fun a3 => ?_⟩, fun a1 => ?_⟩
    · refine callA_intro (c22 u c.fr c.n ⟨by omega, by omega⟩) (.cons .lst (.cons .val .nil)) ?_
      simp [unk, unA, unE, flat]
      refine ⟨fun a4 => ?_, fun a4 => ?_⟩
      · refine callA_intro (c22 u c.to c.n ⟨by omega, by omega⟩) (.cons .lst (.cons .val .nil)) ?_
        simp [unk, unA, unE, flat]
        exact hJ (!c.to.all (inR c.n)) (by simp [Cat.Q1]; grind) _ (Wk.relabel [] (by simp) (by simp) (by rw [hP]; simp) (by simp) (by simp) (by simp) (by simp))
      · intros
        exact hJ (true) (yes fun hp => by simp [Cat.Q1] at hp; grind) _ (Wk.relabel [] (by simp) (by simp) (by rw [hP]; simp) (by simp) (by simp) (by simp) (by simp))
    · exact hJ (true) (yes fun hp => by have := hp.2.2.2.1; omega) _ (Wk.relabel [] (by simp) (by simp) (by rw [hP]; simp) (by simp) (by simp) (by simp) (by simp))
    · exact hJ (true) (yes fun hp => by have := hp.2.2.1; omega) _ (Wk.relabel [] (by simp) (by simp) (by rw [hP]; simp) (by simp) (by simp) (by simp) (by simp))
    · exact hJ (true) (yes fun hp => by have := hp.1; have := hp.2.1; omega) _ (Wk.relabel [] (by simp) (by simp) (by rw [hP]; simp) (by simp) (by simp) (by simp) (by simp))
  clear hK K
  refine w_cond rfl (fun h => ?_) fun h => ?_
  · refine w_sr mo (by rw [hN]; decide) fun K hK => ?_ -- region 3
    simp
    refine hK _ ?_
    clear hK K
    refine w_ret (ret_val rfl (bo_f fun hs => ?_))
    exact hb.1 h hs.Q1
  · have p1 : c.Q1 := Classical.byContradiction fun hn => by rw [hb.2 hn] at h; cases h
    have hm40 : c.fr.length ≤ 40 := p1.2.2.1
    refine w_skip ?_
    refine w_seq ?_
    refine w_sr mo (by rw [hN]; decide) fun K hK => ?_ -- region 4 DRAWN
    refine join hK (fun b => ⟨[(0, .rptr (.val (.int .i64 c.n) :: .lst u 1 (Is c.fr) :: .lst u 1 (Is c.to) :: .lst u 1 (Is c.id) :: .lst u 1 (Ls c.cs) :: tl)), (3, .val (.int .i64 c.fr.length)), (82, .val (.bool b))], [], 0⟩) (¬ c.Q2) (fun hJ => ?_) fun b hb => ?_
    · simp [Cat.cells]
      refine ⟨fun a1 => ?_, fun a1 => ?_⟩
      · refine callA_intro (c22 u c.id c.fr.length ⟨by omega, by omega⟩) (.cons .lst (.cons .val .nil)) ?_
        simp [unk, unA, unE, flat]
        refine ⟨fun a2 => ?_, fun a2 => ?_⟩
        · exact hJ ((c.cs.length : Int) != c.fr.length) (by simp [Cat.Q2]; grind) _ (Wk.relabel [] (by simp) (by simp) (by rw [hP]; simp) (by simp) (by simp) (by simp) (by simp))
        · intros
          exact hJ (true) (yes fun hp => by simp [Cat.Q2] at hp; grind) _ (Wk.relabel [] (by simp) (by simp) (by rw [hP]; simp) (by simp) (by simp) (by simp) (by simp))
      · exact hJ (true) (yes fun hp => a1 hp.1) _ (Wk.relabel [] (by simp) (by simp) (by rw [hP]; simp) (by simp) (by simp) (by simp) (by simp))
    clear hK K
    refine w_cond rfl (fun h => ?_) fun h => ?_
    · refine w_sr mo (by rw [hN]; decide) fun K hK => ?_ -- region 5
      simp
      refine hK _ ?_
      clear hK K
      refine w_ret (ret_val rfl (bo_f fun hs => ?_))
      exact hb.1 h hs.Q2
    · have p2 : c.Q2 := Classical.byContradiction fun hn => by rw [hb.2 hn] at h; cases h
      have hl1 : c.to.length = c.fr.length := p1.2.2.2.1
      have hl2 : c.cs.length = c.fr.length := p2.2.2
      have hl3 : (c.id.length : Int) = c.n := p2.1
      have hn8 : c.n ≤ 8 := p1.2.1
      refine w_skip ?_
      refine w_seq ?_
      refine w_sr mo (by rw [hN]; decide) fun K hK => ?_ -- region 6
      simp
      refine hK _ ?_
      clear hK K
      refine w_block ?_
      refine w_loop (fun x : Nat => ⟨[(0, .rptr (.val (.int .i64 c.n) :: .lst u 1 (Is c.fr) :: .lst u 1 (Is c.to) :: .lst u 1 (Is c.id) :: .lst u 1 (Ls c.cs) :: tl)), (3, .val (.int .i64 c.fr.length)), (86, .lst u 1 (Is c.id)), (87, .val (.int .i64 c.id.length)), (88, .val (.int .i64 x))], [], 0⟩) (fun x => x ≤ c.id.length ∧ ∀ y : Nat, y < x → ix c.fr (ix c.id y) = y ∧ ix c.to (ix c.id y) = y) (fun x => c.id.length - x) 0 (by simp) (Wk.relabel [] (by simp) (by simp) (by rw [hP]; simp) (by simp) (by simp) (by simp) (by simp)) ?_
      rintro x ⟨hx, hi0⟩
      refine w_sr mo (by rw [hN]; decide) fun K hK => ?_ -- region 7
      simp
      refine hK _ ?_
      clear hK K
      refine w_seq ?_
      refine w_cond rfl (fun h => ?_) fun h => ?_
      · simp at h
        have hx1 : x < c.id.length := h
        clear h
        have b1 := all_ix p2.2.1 (j := x) (by omega) (by omega)
        refine w_skip ?_
        refine w_seq ?_
        refine w_block ?_
        refine w_sr mo (by rw [hN]; decide) fun K hK => ?_ -- region 8
        simp [at_ix, at_rx, ix_max, rx_max, hx1]
        refine hK _ ?_
        clear hK K
        refine w_sr mo (by rw [hN]; decide) fun K hK => ?_ -- region 9
        simp
        refine callA_intro (c68 u c tl (ix c.id x) b1.1 b1.2 (by omega)) (.cons .rptr (.cons .val .nil)) ?_
        simp [unk, unA, unE, unC, flat, allInts]
        refine hK _ ?_
        clear hK K
        refine w_cond rfl (fun h => ?_) fun h => ?_
        · simp at h
          refine w_sr mo (by rw [hN]; decide) fun K hK => ?_ -- region 10
          simp
          refine hK _ ?_
          clear hK K
          refine w_ret (ret_val rfl (bo_f fun hs => ?_))
          have := hs.ids x hx1
          simp [this.1, this.2] at h
        · simp at h
          have hc : ix c.fr (ix c.id x) = x ∧ ix c.to (ix c.id x) = x := h
          refine w_skip ?_
          refine w_run mo (by rw [hN]; decide) fun K hK => ?_ -- region 11
          simp
          refine hK _ ?_
          clear hK K
          rw [wrap_succ (n := c.id.length) (by omega) (by omega)]
          refine ⟨x + 1, ⟨by omega, all_succ hi0 hc⟩, by dsimp only; omega, (Wk.relabel [] (by simp) (by simp) (by rw [hP]; simp) (by simp) (by simp) (by simp) (by simp))⟩
      · simp at h
        have hx2 : c.id.length ≤ x := by omega
        clear h
        refine w_exit ?_
        simp
        refine w_seq ?_
        refine w_sr mo (by rw [hN]; decide) fun K hK => ?_ -- region 12
        simp [hl2]
        refine hK _ ?_
        clear hK K
        refine w_block ?_
        have hi1 : ∀ y : Nat, y < c.id.length → ix c.fr (ix c.id y) = y ∧ ix c.to (ix c.id y) = y := fun y hy => hi0 y (by omega)
        refine w_loop (fun f : Nat => ⟨[(0, .rptr (.val (.int .i64 c.n) :: .lst u 1 (Is c.fr) :: .lst u 1 (Is c.to) :: .lst u 1 (Is c.id) :: .lst u 1 (Ls c.cs) :: tl)), (3, .val (.int .i64 c.fr.length)), (104, .lst u 1 (Ls c.cs)), (105, .val (.int .i64 c.fr.length)), (106, .val (.int .i64 f))], [], 0⟩) (fun f => f ≤ c.fr.length ∧ ∀ y : Nat, y < f → c.row y) (fun f => c.fr.length - f) 0 (by simp) (Wk.relabel [] (by simp) (by simp) (by rw [hP]; simp) (by simp) (by simp) (by simp) (by simp)) ?_
        rintro f ⟨hf, hi2⟩
        refine w_sr mo (by rw [hN]; decide) fun K hK => ?_ -- region 13
        simp
        refine hK _ ?_
        clear hK K
        refine w_seq ?_
        refine w_cond rfl (fun h => ?_) fun h => ?_
        · simp at h
          have hf1 : f < c.fr.length := h
          clear h
          refine w_skip ?_
          refine w_seq ?_
          refine w_block ?_
          refine w_sr mo (by rw [hN]; decide) fun K hK => ?_ -- region 14
          simp [at_ix, at_rx, ix_max, rx_max, hl2, hf1]
          refine hK _ ?_
          clear hK K
          refine w_seq ?_
          refine w_sr mo (by rw [hN]; decide) fun K hK => ?_ -- region 15
          simp
          refine hK _ ?_
          clear hK K
          refine w_cond rfl (fun h => ?_) fun h => ?_
          · simp at h
            refine w_sr mo (by rw [hN]; decide) fun K hK => ?_ -- region 16
            simp
            refine hK _ ?_
            clear hK K
            refine w_ret (ret_val rfl (bo_f fun hs => ?_))
            exact absurd (hs.rows f hf1).1 (by omega)
          · simp at h
            have hr : (rx c.cs f).length = c.fr.length := by omega
            clear h
            refine w_skip ?_
            refine w_sr mo (by rw [hN]; decide) fun K hK => ?_ -- region 17
            simp [hr]
            refine hK _ ?_
            clear hK K
            refine w_block ?_
            refine w_loop (fun g : Nat => ⟨[(0, .rptr (.val (.int .i64 c.n) :: .lst u 1 (Is c.fr) :: .lst u 1 (Is c.to) :: .lst u 1 (Is c.id) :: .lst u 1 (Ls c.cs) :: tl)), (3, .val (.int .i64 c.fr.length)), (6, .val (.int .i64 f)), (104, .lst u 1 (Ls c.cs)), (105, .val (.int .i64 c.fr.length)), (106, .val (.int .i64 f)), (115, .lst true 1 (Is (rx c.cs f))), (116, .val (.int .i64 c.fr.length)), (117, .val (.int .i64 g))], [], 0⟩) (fun g => g ≤ c.fr.length ∧ ∀ y : Nat, y < g → c.cell f y) (fun g => c.fr.length - g) 0 (by simp) (Wk.relabel [] (by simp) (by simp) (by rw [hP]; simp) (by simp) (by simp) (by simp) (by simp)) ?_
            rintro g ⟨hg, hi3⟩
            refine w_sr mo (by rw [hN]; decide) fun K hK => ?_ -- region 18
            simp
            refine hK _ ?_
            clear hK K
            refine w_seq ?_
            refine w_cond rfl (fun h => ?_) fun h => ?_
            · simp at h
              have hg1 : g < c.fr.length := h
              clear h
              refine w_skip ?_
              refine w_seq ?_
              refine w_block ?_
              refine w_sr mo (by rw [hN]; decide) fun K hK => ?_ -- region 19
              simp [at_ix, at_rx, ix_max, rx_max, hr, hg1]
              refine hK _ ?_
              clear hK K
              refine w_seq ?_
              refine w_sr mo (by rw [hN]; decide) fun K hK => ?_ -- region 20 DRAWN
              simp [at_ix, at_rx, ix_max, rx_max, hl1, hf1, hg1]
              refine hK _ ?_
              clear hK K
              refine w_cond rfl (fun h1 => ?_) fun h1 => ?_
              · simp at h1
                refine w_seq ?_
                refine w_sr mo (by rw [hN]; decide) fun K hK => ?_ -- region 21
                simp
                refine hK _ ?_
                clear hK K
                refine w_cond rfl (fun h2 => ?_) fun h2 => ?_
                · simp at h2
                  refine w_sr mo (by rw [hN]; decide) fun K hK => ?_ -- region 22
                  simp
                  refine hK _ ?_
                  clear hK K
                  refine w_ret (ret_val rfl (bo_f fun hs => ?_))
                  exact h2 (((hs.rows f hf1).2 g hg1).1 h1)
                · simp at h2
                  have hc : c.cell f g := ⟨fun _ => h2, fun e => absurd e h1⟩
                  refine w_skip ?_
                  refine w_exit ?_
                  simp
                  refine w_run mo (by rw [hN]; decide) fun K hK => ?_ -- region 25
                  simp
                  refine hK _ ?_
                  clear hK K
                  rw [wrap_succ (n := c.fr.length) (by omega) (by omega)]
                  refine ⟨g + 1, ⟨by omega, all_succ hi3 hc⟩, by dsimp only; omega, (Wk.relabel [] (by simp) (by simp) (by rw [hP]; simp) (by simp) (by simp) (by simp) (by simp))⟩
              · simp at h1
                refine w_skip ?_
                refine w_sr mo (by rw [hN]; decide) fun K hK => ?_ -- region 23 DRAWN
                refine join hK (fun b => ⟨[(0, .rptr (.val (.int .i64 c.n) :: .lst u 1 (Is c.fr) :: .lst u 1 (Is c.to) :: .lst u 1 (Is c.id) :: .lst u 1 (Ls c.cs) :: tl)), (3, .val (.int .i64 c.fr.length)), (104, .lst u 1 (Ls c.cs)), (105, .val (.int .i64 c.fr.length)), (106, .val (.int .i64 f)), (115, .lst true 1 (Is (rx c.cs f))), (116, .val (.int .i64 c.fr.length)), (117, .val (.int .i64 g)), (6, .val (.int .i64 f)), (164, .val (.bool b))], [], 0⟩) (¬ c.cell f g) (fun hJ => ?_) fun b hb => ?_
                · simp
                  have hcell : c.cell f g ↔ 0 ≤ ix (rx c.cs f) g ∧ ix (rx c.cs f) g < c.fr.length ∧ ix c.fr (ix (rx c.cs f) g) = ix c.fr f ∧ ix c.to (ix (rx c.cs f) g) = ix c.to g := ⟨fun q => q.2 h1, fun q => ⟨fun e => absurd h1 e, fun _ => q⟩⟩
                  rw [hcell] at hJ
                  refine callA_intro (c46 (ix (rx c.cs f) g) 0 (c.fr.length - 1)) (by rw [wrap_id ⟨by omega, by omega⟩]; exact .cons .val (.cons .val (.cons .val .nil))) ?_
                  simp [unk, unA, unE, flat]
                  refine ⟨fun a1 a2 => ?_, fun a1 => ?_⟩
                  · refine callA_intro (c68 u c tl (ix (rx c.cs f) g) a1 (by omega) (by omega)) (.cons .rptr (.cons .val .nil)) ?_
                    simp [unk, unA, unE, unC, flat, allInts, at_ix, at_rx, ix_max, rx_max, hl1, hf1, hg1]
                    exact hJ (!(ix c.fr (ix (rx c.cs f) g) == ix c.fr f) || !(ix c.to (ix (rx c.cs f) g) == ix c.to g)) (by simp [a1]; grind) _ (Wk.relabel [] (by simp) (by simp) (by rw [hP]; simp) (by simp) (by simp) (by simp) (by simp))
                  · exact hJ (true) (yes fun hp => by omega) _ (Wk.relabel [] (by simp) (by simp) (by rw [hP]; simp) (by simp) (by simp) (by simp) (by simp))
                clear hK K
                refine w_cond rfl (fun h => ?_) fun h => ?_
                · refine w_sr mo (by rw [hN]; decide) fun K hK => ?_ -- region 24
                  simp
                  refine hK _ ?_
                  clear hK K
                  refine w_ret (ret_val rfl (bo_f fun hs => ?_))
                  exact hb.1 h ((hs.rows f hf1).2 g hg1)
                · have hc : c.cell f g := Classical.byContradiction fun hn => by rw [hb.2 hn] at h; cases h
                  refine w_skip ?_
                  refine w_run mo (by rw [hN]; decide) fun K hK => ?_ -- region 25
                  simp
                  refine hK _ ?_
                  clear hK K
                  rw [wrap_succ (n := c.fr.length) (by omega) (by omega)]
                  refine ⟨g + 1, ⟨by omega, all_succ hi3 hc⟩, by dsimp only; omega, (Wk.relabel [] (by simp) (by simp) (by rw [hP]; simp) (by simp) (by simp) (by simp) (by simp))⟩
            · simp at h
              have hg2 : c.fr.length ≤ g := by omega
              clear h
              refine w_exit ?_
              simp
              refine w_run mo (by rw [hN]; decide) fun K hK => ?_ -- region 26
              simp
              refine hK _ ?_
              clear hK K
              rw [wrap_succ (n := c.fr.length) (by omega) (by omega)]
              refine ⟨f + 1, ⟨by omega, all_succ hi2 ⟨hr, fun y hy => hi3 y (by omega)⟩⟩, by dsimp only; omega, (Wk.relabel [] (by simp) (by simp) (by rw [hP]; simp) (by simp) (by simp) (by simp) (by simp))⟩
        · simp at h
          have hf2 : c.fr.length ≤ f := by omega
          clear h
          refine w_exit ?_
          simp
          refine w_sr mo (by rw [hN]; decide) fun K hK => ?_ -- region 27
          simp
          refine hK _ ?_
          clear hK K
          refine w_ret (ret_val rfl (bo_t ?_))
          exact ⟨p1.1, p1.2.1, p1.2.2.1, hl1, p1.2.2.2.2.1, p1.2.2.2.2.2, hl2, hl3, p2.2.1, hi1, fun y hy => hi2 y (by omega)⟩

end Go.Vc.T
