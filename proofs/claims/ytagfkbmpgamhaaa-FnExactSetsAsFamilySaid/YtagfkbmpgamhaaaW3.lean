/- A part of the proof: a verified generator of conditions, and what each function of the program does. -/
import Derived.Test.YtagfkbmpgamhaaaW2

namespace Go.Vc.T
open Go Go.Vc Go.Proofs

def ix (xs : List Int) (j : Int) : Int := xs.getD j.toNat 0
def rx (xss : List (List Int)) (j : Int) : List Int := xss.getD j.toNat []

theorem at_ix (xs : List Int) (i : Nat) (h : i < xs.length) : xs[i] = ix xs i := by simp [ix, List.getD_eq_getElem?_getD, h]
theorem at_rx (xs : List (List Int)) (i : Nat) (h : i < xs.length) : xs[i] = rx xs i := by simp [rx, List.getD_eq_getElem?_getD, h]
theorem ix_max (xs : List Int) (j : Int) : ix xs (max j 0) = ix xs j := by simp only [ix]; congr 1; omega
theorem rx_max (xs : List (List Int)) (j : Int) : rx xs (max j 0) = rx xs j := by simp only [rx]; congr 1; omega
theorem Is_ix {xs : List Int} {j : Int} (h0 : 0 ≤ j) (h1 : j < xs.length) : (Is xs)[j.toNat]? = some [.val (.int .i64 (ix xs j))] := by
  have : j.toNat < xs.length := by omega
  simp [ix, List.getD_eq_getElem?_getD, this]
theorem Ls_rx {xs : List (List Int)} {j : Int} (h0 : 0 ≤ j) (h1 : j < xs.length) : (Ls xs)[j.toNat]? = some [.lst true 1 (Is (rx xs j))] := by
  have : j.toNat < xs.length := by omega
  simp [rx, List.getD_eq_getElem?_getD, this]
theorem all_ix {xs : List Int} {n j : Int} (h : ∀ x ∈ xs, inR n x = true) (h0 : 0 ≤ j) (h1 : j < xs.length) : 0 ≤ ix xs j ∧ ix xs j < n := by
  have hj : j.toNat < xs.length := by omega
  have := h _ (List.getElem_mem hj)
  simp only [inR, Bool.and_eq_true, decide_eq_true_eq] at this
  simp only [ix, List.getD_eq_getElem?_getD, List.getElem?_eq_getElem hj, Option.getD_some]
  omega

def Cat.cell (c : Cat) (f g : Nat) : Prop := (ix c.to f ≠ ix c.fr g → ix (rx c.cs f) g = -1) ∧
  (ix c.to f = ix c.fr g → 0 ≤ ix (rx c.cs f) g ∧ ix (rx c.cs f) g < c.fr.length ∧ ix c.fr (ix (rx c.cs f) g) = ix c.fr f ∧ ix c.to (ix (rx c.cs f) g) = ix c.to g)

structure Cat.Sh (c : Cat) : Prop where
  n0 : 0 ≤ c.n
  n8 : c.n ≤ 8
  m40 : c.fr.length ≤ 40
  lt : c.to.length = c.fr.length
  fr : (∀ x ∈ c.fr, inR c.n x = true)
  to : (∀ x ∈ c.to, inR c.n x = true)
  lc : c.cs.length = c.fr.length
  li : (c.id.length : Int) = c.n
  id : (∀ x ∈ c.id, inR c.fr.length x = true)
  ids : ∀ x : Nat, x < c.id.length → ix c.fr (ix c.id x) = x ∧ ix c.to (ix c.id x) = x
  rows : ∀ f : Nat, f < c.fr.length → (rx c.cs f).length = c.fr.length ∧ ∀ g : Nat, g < c.fr.length → c.cell f g

open Classical in
noncomputable def bo (p : Prop) : Bool := decide p
theorem bo_t {p : Prop} (h : p) : Value.bool true = Value.bool (bo p) := by simp [bo, h]
theorem bo_f {p : Prop} (h : ¬ p) : Value.bool false = Value.bool (bo p) := by simp [bo, h]

theorem c69 (u : Bool) (c : Cat) (tl : List AV) (f g : Int) (h1 : 0 ≤ f) (h2 : f < c.cs.length) (h3 : 0 ≤ g) (h4 : g < (rx c.cs f).length) : Contract Try.prog 69 [.rptr (c.cells u ++ tl), .val (.int .i64 f), .val (.int .i64 g)] (.val (.int .i64 (ix (rx c.cs f) g))) := by
  refine contract_intro (rs := [.val (.int .i64 (ix (rx c.cs f) g))]) Try.func69 rfl rfl rfl rfl (by simp [Try.f69]) fun F hN hP => ?_
  refine w_sr mo (by rw [hN]; decide) fun K hK => ?_ -- region 0
  simp
  refine hK _ ?_
  clear hK K
  refine w_sr mo (by rw [hN]; decide) fun K hK => ?_ -- region 1
  simp [Cat.cells, at_ix, at_rx, ix_max, rx_max, h1, h2, h3, h4]
  refine hK _ ?_
  clear hK K
  refine w_ret (ret_val rfl rfl)

theorem c68 (u : Bool) (c : Cat) (tl : List AV) (f : Int) (h1 : 0 ≤ f) (h2 : f < c.fr.length) (h3 : f < c.to.length) : Contract Try.prog 68 [.rptr (c.cells u ++ tl), .val (.int .i64 f)] (.agg [.val (.int .i64 (ix c.fr f)), .val (.int .i64 (ix c.to f))]) := by
  refine contract_introC Try.func68 rfl rfl y86 rfl rfl (by simp [Try.f68]) fun F hN hP => ?_
  refine w_sr mo (by rw [hN]; decide) fun K hK => ?_ -- region 0
  simp
  refine hK _ ?_
  clear hK K
  refine w_sr mo (by rw [hN]; decide) fun K hK => ?_ -- region 1 DRAWN
  simp [Cat.cells, at_ix, ix_max, h1, h2, h3]
  refine hK _ ?_
  clear hK K
  refine w_ret ⟨_, _, _, _, _, rfl, rfl, by simp, by simp, ?_⟩
  exact ⟨.agg rfl .nil, [.val (.int .i64 (ix c.fr f)), .val (.int .i64 (ix c.to f))], [], by simp, by simp, UpL.refl _⟩

theorem yes {C : Prop} (h : C) : (true = true ↔ C) := ⟨fun _ => h, fun _ => rfl⟩
def Cat.P1 (c : Cat) : Prop := 0 ≤ c.n ∧ c.n ≤ 8 ∧ c.fr.length ≤ 40 ∧ c.to.length = c.fr.length ∧ (∀ x ∈ c.fr, inR c.n x = true) ∧ (∀ x ∈ c.to, inR c.n x = true) ∧ c.cs.length = c.fr.length
def Cat.P2 (c : Cat) : Prop := (c.id.length : Int) = c.n ∧ (∀ x ∈ c.id, inR c.fr.length x = true)
def Cat.row (c : Cat) (f : Nat) : Prop := (rx c.cs f).length = c.fr.length ∧ ∀ g : Nat, g < c.fr.length → c.cell f g
theorem all_succ {P : Nat → Prop} {x : Nat} (h : ∀ y, y < x → P y) (hx : P x) : ∀ y, y < x + 1 → P y := by
  intro y hy
  rcases Nat.lt_or_ge y x with h1 | h1
  · exact h y h1
  · have : y = x := by omega
    subst this; exact hx
theorem Cat.Sh.P1 {c : Cat} (h : c.Sh) : c.P1 := ⟨h.n0, h.n8, h.m40, h.lt, h.fr, h.to, h.lc⟩
theorem Cat.Sh.P2 {c : Cat} (h : c.Sh) : c.P2 := ⟨h.li, h.id⟩

theorem c63 (u : Bool) (c : Cat) : Contract Try.prog 63 [.agg (c.cells u)] (.val (.bool (bo c.Sh))) := by
  refine contract_intro (rs := [.val (.bool (bo c.Sh))]) Try.func63 rfl rfl rfl rfl (by simp [Try.f63]) fun F hN hP => ?_
  refine w_sr mo (by rw [hN]; decide) fun K hK => ?_ -- region 0
  simp [Cat.cells]
  refine hK _ ?_
  clear hK K
  refine w_sr mo (by rw [hN]; decide) fun K hK => ?_ -- region 1
  simp
  refine hK _ ?_
  clear hK K
  refine w_seq ?_
  refine w_sr mo (by rw [hN]; decide) fun K hK => ?_ -- region 2
  refine join hK (fun b => ⟨[(1, .adr 0 0 0), (3, .val (.int .i64 c.fr.length)), (43, .val (.bool b))], [(0, .mix 5 [[.val (.int .i64 c.n), .lst u 1 (Is c.fr), .lst u 1 (Is c.to), .lst u 1 (Is c.id), .lst u 1 (Ls c.cs)]])], 1⟩) (¬ c.P1) (fun hJ => ?_) fun b hb => ?_
  · simp
    refine callA_intro (c56 c.n 0 8) (.cons .val (.cons .val (.cons .val .nil))) ?_
    simp [unk, unA, unE, flat]
    refine ⟨fun a1 a2 => ⟨fun a3 => ?_, fun a3 => ?_⟩, fun a1 => ?_⟩
    · refine callA_intro (c67 u c.fr c.fr.length c.n) (.cons .lst (.cons .val (.cons .val .nil))) ?_
      simp [unk, unA, unE, flat]
      refine ⟨fun a4 => ?_, fun a4 => ?_⟩
      · refine callA_intro (c67 u c.to c.fr.length c.n) (.cons .lst (.cons .val (.cons .val .nil))) ?_
        simp [unk, unA, unE, flat]
        refine ⟨fun a5 a6 => ?_, fun a5 => ?_⟩
        · exact hJ ((c.cs.length : Int) != c.fr.length) (by simp [Cat.P1]; grind) _ (Wk.relabel [(0, 0)] (by simp) (by simp) (by rw [hP]; simp) (by simp) (by simp) (by simp) (by simp))
        · intros
          exact hJ (true) (yes fun hp => by simp [Cat.P1] at hp; grind) _ (Wk.relabel [(0, 0)] (by simp) (by simp) (by rw [hP]; simp) (by simp) (by simp) (by simp) (by simp))
      · intros
        exact hJ (true) (yes fun hp => by simp [Cat.P1] at hp; grind) _ (Wk.relabel [(0, 0)] (by simp) (by simp) (by rw [hP]; simp) (by simp) (by simp) (by simp) (by simp))
    · exact hJ (true) (yes fun hp => by have := hp.2.2.1; omega) _ (Wk.relabel [(0, 0)] (by simp) (by simp) (by rw [hP]; simp) (by simp) (by simp) (by simp) (by simp))
    · exact hJ (true) (yes fun hp => by have := hp.1; have := hp.2.1; omega) _ (Wk.relabel [(0, 0)] (by simp) (by simp) (by rw [hP]; simp) (by simp) (by simp) (by simp) (by simp))
  clear hK K
  refine w_cond rfl (fun h => ?_) fun h => ?_
  · refine w_sr mo (by rw [hN]; decide) fun K hK => ?_ -- region 3
    simp
    refine hK _ ?_
    clear hK K
    refine w_ret (ret_val rfl (bo_f fun hs => ?_))
    exact hb.1 h hs.P1
  · have p1 : c.P1 := Classical.byContradiction fun hn => by rw [hb.2 hn] at h; cases h
    refine w_skip ?_
    refine w_seq ?_
    refine w_sr mo (by rw [hN]; decide) fun K hK => ?_ -- region 4
    refine join hK (fun b => ⟨[(1, .adr 0 0 0), (3, .val (.int .i64 c.fr.length)), (56, .val (.bool b))], [(0, .mix 5 [[.val (.int .i64 c.n), .lst u 1 (Is c.fr), .lst u 1 (Is c.to), .lst u 1 (Is c.id), .lst u 1 (Ls c.cs)]])], 1⟩) (¬ c.P2) (fun hJ => ?_) fun b hb => ?_
    · simp
      refine ⟨fun a1 => ?_, fun a1 => ?_⟩
      · refine callA_intro (c57 u c.id c.fr.length) (.cons .val (.cons .lst .nil)) ?_
        simp [unk, unA, unE, flat]
        exact hJ (!c.id.all (inR c.fr.length)) (by simp [Cat.P2, a1]) _ (Wk.relabel [(0, 0)] (by simp) (by simp) (by rw [hP]; simp) (by simp) (by simp) (by simp) (by simp))
      · exact hJ (true) (yes fun hp => a1 hp.1) _ (Wk.relabel [(0, 0)] (by simp) (by simp) (by rw [hP]; simp) (by simp) (by simp) (by simp) (by simp))
    clear hK K
    refine w_cond rfl (fun h => ?_) fun h => ?_
    · refine w_sr mo (by rw [hN]; decide) fun K hK => ?_ -- region 5
      simp
      refine hK _ ?_
      clear hK K
      refine w_ret (ret_val rfl (bo_f fun hs => ?_))
      exact hb.1 h hs.P2
    · have p2 : c.P2 := Classical.byContradiction fun hn => by rw [hb.2 hn] at h; cases h
      have hl1 : c.to.length = c.fr.length := p1.2.2.2.1
      have hl2 : c.cs.length = c.fr.length := p1.2.2.2.2.2.2
      have hl3 : (c.id.length : Int) = c.n := p2.1
      have hn8 : c.n ≤ 8 := p1.2.1
      have hm40 : c.fr.length ≤ 40 := p1.2.2.1
      refine w_skip ?_
      refine w_seq ?_
      refine w_sr mo (by rw [hN]; decide) fun K hK => ?_ -- region 6
      simp
      refine hK _ ?_
      clear hK K
      refine w_block ?_
      refine w_loop (fun x : Nat => ⟨[(1, .adr 0 0 0), (3, .val (.int .i64 c.fr.length)), (4, .val (.int .i64 x))], [(0, .mix 5 [[.val (.int .i64 c.n), .lst u 1 (Is c.fr), .lst u 1 (Is c.to), .lst u 1 (Is c.id), .lst u 1 (Ls c.cs)]])], 1⟩) (fun x => x ≤ c.id.length ∧ ∀ y : Nat, y < x → ix c.fr (ix c.id y) = y ∧ ix c.to (ix c.id y) = y) (fun x => c.id.length - x) 0 (by simp) (Wk.relabel [(0, 0)] (by simp) (by simp) (by rw [hP]; simp) (by simp) (by simp) (by simp) (by simp)) ?_
      rintro x ⟨hx, hi0⟩
      refine w_seq ?_
      refine w_sr mo (by rw [hN]; decide) fun K hK => ?_ -- region 7
      simp
      refine hK _ ?_
      clear hK K
      refine w_cond rfl (fun h => ?_) fun h => ?_
      · simp at h
        have hx1 : x < c.id.length := by omega
        have b1 := all_ix p2.2 (j := x) (by omega) (by omega)
        have b2 : ix c.id x < c.to.length := by omega
        refine w_skip ?_
        refine w_seq ?_
        refine w_block ?_
        refine w_sr mo (by rw [hN]; decide) fun K hK => ?_ -- region 9 DRAWN
        refine join hK (fun b => ⟨[(1, .adr 0 0 0), (3, .val (.int .i64 c.fr.length)), (4, .val (.int .i64 x)), (86, .val (.bool b))], [(0, .mix 5 [[.val (.int .i64 c.n), .lst u 1 (Is c.fr), .lst u 1 (Is c.to), .lst u 1 (Is c.id), .lst u 1 (Ls c.cs)]])], 1⟩) (¬ (ix c.fr (ix c.id x) = x ∧ ix c.to (ix c.id x) = x)) (fun hJ => ?_) fun b hb => ?_
        · simp [at_ix, at_rx, ix_max, rx_max, hx1, b1.1, b1.2, b2]
          refine ⟨fun a1 => ?_, fun a1 => ?_⟩
          · exact hJ (ix c.to (ix c.id x) != x) (by simp [a1]) _ (Wk.relabel [(0, 0)] (by simp) (by simp) (by rw [hP]; simp) (by simp) (by simp) (by simp) (by simp))
          · exact hJ (true) (yes fun hp => a1 hp.1) _ (Wk.relabel [(0, 0)] (by simp) (by simp) (by rw [hP]; simp) (by simp) (by simp) (by simp) (by simp))
        clear hK K
        refine w_cond rfl (fun h => ?_) fun h => ?_
        · refine w_sr mo (by rw [hN]; decide) fun K hK => ?_ -- region 10
          simp
          refine hK _ ?_
          clear hK K
          refine w_ret (ret_val rfl (bo_f fun hs => ?_))
          exact hb.1 h (hs.ids x hx1)
        · have hc : ix c.fr (ix c.id x) = x ∧ ix c.to (ix c.id x) = x := Classical.byContradiction fun hn => by rw [hb.2 hn] at h; cases h
          refine w_skip ?_
          refine w_run mo (by rw [hN]; decide) fun K hK => ?_ -- region 8
          simp
          refine hK _ ?_
          clear hK K
          rw [wrap_succ (n := c.id.length) (by omega) (by omega)]
          refine ⟨x + 1, ⟨by omega, all_succ hi0 hc⟩, by dsimp only; omega, (Wk.relabel [(0, 0)] (by simp) (by simp) (by rw [hP]; simp) (by simp) (by simp) (by simp) (by simp))⟩
      · simp at h
        have hx2 : c.id.length ≤ x := by omega
        clear h
        refine w_exit ?_
        simp
        refine w_seq ?_
        refine w_sr mo (by rw [hN]; decide) fun K hK => ?_ -- region 11
        simp
        refine hK _ ?_
        clear hK K
        refine w_block ?_
        have hi1 : ∀ y : Nat, y < c.id.length → ix c.fr (ix c.id y) = y ∧ ix c.to (ix c.id y) = y := fun y hy => hi0 y (by omega)
        refine w_loop (fun f : Nat => ⟨[(1, .adr 0 0 0), (3, .val (.int .i64 c.fr.length)), (5, .val (.int .i64 f))], [(0, .mix 5 [[.val (.int .i64 c.n), .lst u 1 (Is c.fr), .lst u 1 (Is c.to), .lst u 1 (Is c.id), .lst u 1 (Ls c.cs)]])], 1⟩) (fun f => f ≤ c.fr.length ∧ ∀ y : Nat, y < f → c.row y) (fun f => c.fr.length - f) 0 (by simp) (Wk.relabel [(0, 0)] (by simp) (by simp) (by rw [hP]; simp) (by simp) (by simp) (by simp) (by simp)) ?_
        rintro f ⟨hf, hi2⟩
        refine w_seq ?_
        refine w_sr mo (by rw [hN]; decide) fun K hK => ?_ -- region 12
        simp
        refine hK _ ?_
        clear hK K
        refine w_cond rfl (fun h => ?_) fun h => ?_
        · simp at h
          have hf1 : f < c.fr.length := h
          clear h
          refine w_skip ?_
          refine w_seq ?_
          refine w_block ?_
          refine w_seq ?_
          refine w_sr mo (by rw [hN]; decide) fun K hK => ?_ -- region 14
          simp [at_ix, at_rx, ix_max, rx_max, hl2, hf1]
          refine hK _ ?_
          clear hK K
          refine w_cond rfl (fun h => ?_) fun h => ?_
          · simp at h
            refine w_sr mo (by rw [hN]; decide) fun K hK => ?_ -- region 15
            simp
            refine hK _ ?_
            clear hK K
            refine w_ret (ret_val rfl (bo_f fun hs => ?_))
            exact absurd (hs.rows f hf1).1 (by omega)
          · simp at h
            have hr : (rx c.cs f).length = c.fr.length := by omega
            clear h
            refine w_skip ?_
            refine w_sr mo (by rw [hN]; decide) fun K hK => ?_ -- region 16
            simp
            refine hK _ ?_
            clear hK K
            refine w_block ?_
            refine w_loop (fun g : Nat => ⟨[(1, .adr 0 0 0), (3, .val (.int .i64 c.fr.length)), (5, .val (.int .i64 f)), (6, .val (.int .i64 g))], [(0, .mix 5 [[.val (.int .i64 c.n), .lst u 1 (Is c.fr), .lst u 1 (Is c.to), .lst u 1 (Is c.id), .lst u 1 (Ls c.cs)]])], 1⟩) (fun g => g ≤ c.fr.length ∧ ∀ y : Nat, y < g → c.cell f y) (fun g => c.fr.length - g) 0 (by simp) (Wk.relabel [(0, 0)] (by simp) (by simp) (by rw [hP]; simp) (by simp) (by simp) (by simp) (by simp)) ?_
            rintro g ⟨hg, hi3⟩
            refine w_seq ?_
            refine w_sr mo (by rw [hN]; decide) fun K hK => ?_ -- region 17
            simp
            refine hK _ ?_
            clear hK K
            refine w_cond rfl (fun h => ?_) fun h => ?_
            · simp at h
              have hg1 : g < c.fr.length := h
              clear h
              refine w_skip ?_
              refine w_seq ?_
              refine w_block ?_
              refine w_sr mo (by rw [hN]; decide) fun K hK => ?_ -- region 19
              simp [at_ix, at_rx, ix_max, rx_max, hl2, hf1, hr, hg1]
              refine hK _ ?_
              clear hK K
              refine w_seq ?_
              refine w_sr mo (by rw [hN]; decide) fun K hK => ?_ -- region 20 DRAWN
              simp [at_ix, at_rx, ix_max, rx_max, hl1, hf1, hg1]
              refine hK _ ?_
              clear hK K
              refine w_cond rfl (fun h1 => ?_) fun h1 => ?_
              · simp at h1
                refine w_seq ?_
                refine w_sr mo (by rw [hN]; decide) fun K hK => ?_ -- region 21
                simp
                refine hK _ ?_
                clear hK K
                refine w_cond rfl (fun h2 => ?_) fun h2 => ?_
                · simp at h2
                  refine w_sr mo (by rw [hN]; decide) fun K hK => ?_ -- region 22
                  simp
                  refine hK _ ?_
                  clear hK K
                  refine w_ret (ret_val rfl (bo_f fun hs => ?_))
                  exact h2 (((hs.rows f hf1).2 g hg1).1 h1)
                · simp at h2
                  have hc : c.cell f g := ⟨fun _ => h2, fun e => absurd e h1⟩
                  refine w_skip ?_
                  refine w_exit ?_
                  simp
                  refine w_run mo (by rw [hN]; decide) fun K hK => ?_ -- region 18
                  simp
                  refine hK _ ?_
                  clear hK K
                  rw [wrap_succ (n := c.fr.length) (by omega) (by omega)]
                  refine ⟨g + 1, ⟨by omega, all_succ hi3 hc⟩, by dsimp only; omega, (Wk.relabel [(0, 0)] (by simp) (by simp) (by rw [hP]; simp) (by simp) (by simp) (by simp) (by simp))⟩
              · simp at h1
                refine w_skip ?_
                refine w_sr mo (by rw [hN]; decide) fun K hK => ?_ -- region 23 DRAWN
                refine join hK (fun b => ⟨[(1, .adr 0 0 0), (3, .val (.int .i64 c.fr.length)), (5, .val (.int .i64 f)), (6, .val (.int .i64 g)), (158, .val (.bool b))], [(0, .mix 5 [[.val (.int .i64 c.n), .lst u 1 (Is c.fr), .lst u 1 (Is c.to), .lst u 1 (Is c.id), .lst u 1 (Ls c.cs)]])], 1⟩) (¬ c.cell f g) (fun hJ => ?_) fun b hb => ?_
                · simp +contextual [at_ix, at_rx, ix_max, rx_max, hl1, hf1, hg1]
                  have hcell : c.cell f g ↔ 0 ≤ ix (rx c.cs f) g ∧ ix (rx c.cs f) g < c.fr.length ∧ ix c.fr (ix (rx c.cs f) g) = ix c.fr f ∧ ix c.to (ix (rx c.cs f) g) = ix c.to g := ⟨fun q => q.2 h1, fun q => ⟨fun e => absurd h1 e, fun _ => q⟩⟩
                  rw [hcell] at hJ
                  refine ⟨fun a1 => ⟨fun a2 => ⟨fun a3 => ?_, fun a3 => ?_⟩, fun a2 => ?_⟩, fun a1 => ?_⟩
                  · exact hJ (ix c.to (ix (rx c.cs f) g) != ix c.to g) (by simp [a1, a2, a3]) _ (Wk.relabel [(0, 0)] (by simp) (by simp) (by rw [hP]; simp) (by simp) (by simp) (by simp) (by simp))
                  · exact hJ (true) (yes fun hp => a3 hp.2.2.1) _ (Wk.relabel [(0, 0)] (by simp) (by simp) (by rw [hP]; simp) (by simp) (by simp) (by simp) (by simp))
                  · exact hJ (true) (yes fun hp => by omega) _ (Wk.relabel [(0, 0)] (by simp) (by simp) (by rw [hP]; simp) (by simp) (by simp) (by simp) (by simp))
                  · exact hJ (true) (yes fun hp => by omega) _ (Wk.relabel [(0, 0)] (by simp) (by simp) (by rw [hP]; simp) (by simp) (by simp) (by simp) (by simp))
                clear hK K
                refine w_cond rfl (fun h => ?_) fun h => ?_
                · refine w_sr mo (by rw [hN]; decide) fun K hK => ?_ -- region 24
                  simp
                  refine hK _ ?_
                  clear hK K
                  refine w_ret (ret_val rfl (bo_f fun hs => ?_))
                  exact hb.1 h ((hs.rows f hf1).2 g hg1)
                · have hc : c.cell f g := Classical.byContradiction fun hn => by rw [hb.2 hn] at h; cases h
                  refine w_skip ?_
                  refine w_run mo (by rw [hN]; decide) fun K hK => ?_ -- region 18
                  simp
                  refine hK _ ?_
                  clear hK K
                  rw [wrap_succ (n := c.fr.length) (by omega) (by omega)]
                  refine ⟨g + 1, ⟨by omega, all_succ hi3 hc⟩, by dsimp only; omega, (Wk.relabel [(0, 0)] (by simp) (by simp) (by rw [hP]; simp) (by simp) (by simp) (by simp) (by simp))⟩
            · simp at h
              have hg2 : c.fr.length ≤ g := by omega
              clear h
              refine w_exit ?_
              simp
              refine w_run mo (by rw [hN]; decide) fun K hK => ?_ -- region 13
              simp
              refine hK _ ?_
              clear hK K
              rw [wrap_succ (n := c.fr.length) (by omega) (by omega)]
              refine ⟨f + 1, ⟨by omega, all_succ hi2 ⟨hr, fun y hy => hi3 y (by omega)⟩⟩, by dsimp only; omega, (Wk.relabel [(0, 0)] (by simp) (by simp) (by rw [hP]; simp) (by simp) (by simp) (by simp) (by simp))⟩
        · simp at h
          have hf2 : c.fr.length ≤ f := by omega
          clear h
          refine w_exit ?_
          simp
          refine w_sr mo (by rw [hN]; decide) fun K hK => ?_ -- region 25
          simp
          refine hK _ ?_
          clear hK K
          refine w_ret (ret_val rfl (bo_t ?_))
          exact ⟨p1.1, p1.2.1, p1.2.2.1, hl1, p1.2.2.2.2.1, p1.2.2.2.2.2.1, hl2, hl3, p2.2, hi1, fun y hy => hi2 y (by omega)⟩

end Go.Vc.T

namespace Go.Vc.T
open Go Go.Vc Go.Proofs

def Cat.Q1 (c : Cat) : Prop := 0 ≤ c.n ∧ c.n ≤ 8 ∧ c.fr.length ≤ 40 ∧ c.to.length = c.fr.length ∧ (∀ x ∈ c.fr, inR c.n x = true) ∧ (∀ x ∈ c.to, inR c.n x = true)
def Cat.Q2 (c : Cat) : Prop := (c.id.length : Int) = c.n ∧ (∀ x ∈ c.id, inR c.fr.length x = true) ∧ c.cs.length = c.fr.length
theorem Cat.Sh.Q1 {c : Cat} (h : c.Sh) : c.Q1 := ⟨h.n0, h.n8, h.m40, h.lt, h.fr, h.to⟩
theorem Cat.Sh.Q2 {c : Cat} (h : c.Sh) : c.Q2 := ⟨h.li, h.id, h.lc⟩

theorem c65 (u : Bool) (c : Cat) (tl : List AV) : Contract Try.prog 65 [.rptr (c.cells u ++ tl)] (.val (.bool (bo c.Sh))) := by
  refine contract_intro (rs := [.val (.bool (bo c.Sh))]) Try.func65 rfl rfl rfl rfl (by simp [Try.f65]) fun F hN hP => ?_
  simp only [Cat.cells, List.cons_append, List.nil_append]
  refine w_sr mo (by rw [hN]; decide) fun K hK => ?_ -- region 0
  simp [Cat.cells]
  refine hK _ ?_
  clear hK K
  refine w_sr mo (by rw [hN]; decide) fun K hK => ?_ -- region 1
  simp
  refine callA_intro (c61 u c tl) (.cons .rptr .nil) ?_
  simp [unk, unA, unE, flat]
  refine hK _ ?_
  clear hK K
  refine w_seq ?_
  refine w_sr mo (by rw [hN]; decide) fun K hK => ?_ -- region 2 DRAWN
  refine join hK (fun b => ⟨[(0, .rptr (.val (.int .i64 c.n) :: .lst u 1 (Is c.fr) :: .lst u 1 (Is c.to) :: .lst u 1 (Is c.id) :: .lst u 1 (Ls c.cs) :: tl)), (3, .val (.int .i64 c.fr.length)), (54, .val (.bool b))], [], 0⟩) (¬ c.Q1) (fun hJ => ?_) fun b hb => ?_
  · simp [Cat.cells]
    refine callA_intro (c46 c.n 0 8) (.cons .val (.cons .val (.cons .val .nil))) ?_
    simp [unk, unA, unE, flat]
    refine ⟨fun a1 a2 => ⟨fun a3 => ⟨fun a7 => ?_, fun a7 => ?_⟩, fun a3 => ?_⟩, fun a1 => ?_⟩
    · refine callA_intro (c22 u c.fr c.n ⟨by omega, by omega⟩) (.cons .lst (.cons .val .nil)) ?_
      simp [unk, unA, unE, flat]
      refine ⟨fun a4 => ?_, fun a4 => ?_⟩
      · refine callA_intro (c22 u c.to c.n ⟨by omega, by omega⟩) (.cons .lst (.cons .val .nil)) ?_
        simp [unk, unA, unE, flat]
        exact hJ (!c.to.all (inR c.n)) (by simp [Cat.Q1]; grind) _ (Wk.relabel [] (by simp) (by simp) (by rw [hP]; simp) (by simp) (by simp) (by simp) (by simp))
      · intros
        exact hJ (true) (yes fun hp => by simp [Cat.Q1] at hp; grind) _ (Wk.relabel [] (by simp) (by simp) (by rw [hP]; simp) (by simp) (by simp) (by simp) (by simp))
    · exact hJ (true) (yes fun hp => by have := hp.2.2.2.1; omega) _ (Wk.relabel [] (by simp) (by simp) (by rw [hP]; simp) (by simp) (by simp) (by simp) (by simp))
    · exact hJ (true) (yes fun hp => by have := hp.2.2.1; omega) _ (Wk.relabel [] (by simp) (by simp) (by rw [hP]; simp) (by simp) (by simp) (by simp) (by simp))
    · exact hJ (true) (yes fun hp => by have := hp.1; have := hp.2.1; omega) _ (Wk.relabel [] (by simp) (by simp) (by rw [hP]; simp) (by simp) (by simp) (by simp) (by simp))
  clear hK K
  refine w_cond rfl (fun h => ?_) fun h => ?_
  · refine w_sr mo (by rw [hN]; decide) fun K hK => ?_ -- region 3
    simp
    refine hK _ ?_
    clear hK K
    refine w_ret (ret_val rfl (bo_f fun hs => ?_))
    exact hb.1 h hs.Q1
  · have p1 : c.Q1 := Classical.byContradiction fun hn => by rw [hb.2 hn] at h; cases h
    have hm40 : c.fr.length ≤ 40 := p1.2.2.1
    refine w_skip ?_
    refine w_seq ?_
    refine w_sr mo (by rw [hN]; decide) fun K hK => ?_ -- region 4 DRAWN
    refine join hK (fun b => ⟨[(0, .rptr (.val (.int .i64 c.n) :: .lst u 1 (Is c.fr) :: .lst u 1 (Is c.to) :: .lst u 1 (Is c.id) :: .lst u 1 (Ls c.cs) :: tl)), (3, .val (.int .i64 c.fr.length)), (82, .val (.bool b))], [], 0⟩) (¬ c.Q2) (fun hJ => ?_) fun b hb => ?_
    · simp [Cat.cells]
      refine ⟨fun a1 => ?_, fun a1 => ?_⟩
      · refine callA_intro (c22 u c.id c.fr.length ⟨by omega, by omega⟩) (.cons .lst (.cons .val .nil)) ?_
        simp [unk, unA, unE, flat]
        refine ⟨fun a2 => ?_, fun a2 => ?_⟩
        · exact hJ ((c.cs.length : Int) != c.fr.length) (by simp [Cat.Q2]; grind) _ (Wk.relabel [] (by simp) (by simp) (by rw [hP]; simp) (by simp) (by simp) (by simp) (by simp))
        · intros
          exact hJ (true) (yes fun hp => by simp [Cat.Q2] at hp; grind) _ (Wk.relabel [] (by simp) (by simp) (by rw [hP]; simp) (by simp) (by simp) (by simp) (by simp))
      · exact hJ (true) (yes fun hp => a1 hp.1) _ (Wk.relabel [] (by simp) (by simp) (by rw [hP]; simp) (by simp) (by simp) (by simp) (by simp))
    clear hK K
    refine w_cond rfl (fun h => ?_) fun h => ?_
    · refine w_sr mo (by rw [hN]; decide) fun K hK => ?_ -- region 5
      simp
      refine hK _ ?_
      clear hK K
      refine w_ret (ret_val rfl (bo_f fun hs => ?_))
      exact hb.1 h hs.Q2
    · have p2 : c.Q2 := Classical.byContradiction fun hn => by rw [hb.2 hn] at h; cases h
      have hl1 : c.to.length = c.fr.length := p1.2.2.2.1
      have hl2 : c.cs.length = c.fr.length := p2.2.2
      have hl3 : (c.id.length : Int) = c.n := p2.1
      have hn8 : c.n ≤ 8 := p1.2.1
      refine w_skip ?_
      refine w_seq ?_
      refine w_sr mo (by rw [hN]; decide) fun K hK => ?_ -- region 6
      simp
      refine hK _ ?_
      clear hK K
      refine w_block ?_
      refine w_loop (fun x : Nat => ⟨[(0, .rptr (.val (.int .i64 c.n) :: .lst u 1 (Is c.fr) :: .lst u 1 (Is c.to) :: .lst u 1 (Is c.id) :: .lst u 1 (Ls c.cs) :: tl)), (3, .val (.int .i64 c.fr.length)), (86, .lst u 1 (Is c.id)), (87, .val (.int .i64 c.id.length)), (88, .val (.int .i64 x))], [], 0⟩) (fun x => x ≤ c.id.length ∧ ∀ y : Nat, y < x → ix c.fr (ix c.id y) = y ∧ ix c.to (ix c.id y) = y) (fun x => c.id.length - x) 0 (by simp) (Wk.relabel [] (by simp) (by simp) (by rw [hP]; simp) (by simp) (by simp) (by simp) (by simp)) ?_
      rintro x ⟨hx, hi0⟩
      refine w_sr mo (by rw [hN]; decide) fun K hK => ?_ -- region 7
      simp
      refine hK _ ?_
      clear hK K
      refine w_seq ?_
      refine w_cond rfl (fun h => ?_) fun h => ?_
      · simp at h
        have hx1 : x < c.id.length := h
        clear h
        have b1 := all_ix p2.2.1 (j := x) (by omega) (by omega)
        refine w_skip ?_
        refine w_seq ?_
        refine w_block ?_
        refine w_sr mo (by rw [hN]; decide) fun K hK => ?_ -- region 8
        simp [at_ix, at_rx, ix_max, rx_max, hx1]
        refine hK _ ?_
        clear hK K
        refine w_sr mo (by rw [hN]; decide) fun K hK => ?_ -- region 9
        simp
        refine callA_intro (c68 u c tl (ix c.id x) b1.1 b1.2 (by omega)) (.cons .rptr (.cons .val .nil)) ?_
        simp [unk, unA, unE, unC, flat, allInts]
        refine hK _ ?_
        clear hK K
        refine w_cond rfl (fun h => ?_) fun h => ?_
        · simp at h
          refine w_sr mo (by rw [hN]; decide) fun K hK => ?_ -- region 10
          simp
          refine hK _ ?_
          clear hK K
          refine w_ret (ret_val rfl (bo_f fun hs => ?_))
          have := hs.ids x hx1
          simp [this.1, this.2] at h
        · simp at h
          have hc : ix c.fr (ix c.id x) = x ∧ ix c.to (ix c.id x) = x := h
          refine w_skip ?_
          refine w_run mo (by rw [hN]; decide) fun K hK => ?_ -- region 11
          simp
          refine hK _ ?_
          clear hK K
          rw [wrap_succ (n := c.id.length) (by omega) (by omega)]
          refine ⟨x + 1, ⟨by omega, all_succ hi0 hc⟩, by dsimp only; omega, (Wk.relabel [] (by simp) (by simp) (by rw [hP]; simp) (by simp) (by simp) (by simp) (by simp))⟩
      · simp at h
        have hx2 : c.id.length ≤ x := by omega
        clear h
        refine w_exit ?_
        simp
        refine w_seq ?_
        refine w_sr mo (by rw [hN]; decide) fun K hK => ?_ -- region 12
        simp [hl2]
        refine hK _ ?_
        clear hK K
        refine w_block ?_
        have hi1 : ∀ y : Nat, y < c.id.length → ix c.fr (ix c.id y) = y ∧ ix c.to (ix c.id y) = y := fun y hy => hi0 y (by omega)
        refine w_loop (fun f : Nat => ⟨[(0, .rptr (.val (.int .i64 c.n) :: .lst u 1 (Is c.fr) :: .lst u 1 (Is c.to) :: .lst u 1 (Is c.id) :: .lst u 1 (Ls c.cs) :: tl)), (3, .val (.int .i64 c.fr.length)), (104, .lst u 1 (Ls c.cs)), (105, .val (.int .i64 c.fr.length)), (106, .val (.int .i64 f))], [], 0⟩) (fun f => f ≤ c.fr.length ∧ ∀ y : Nat, y < f → c.row y) (fun f => c.fr.length - f) 0 (by simp) (Wk.relabel [] (by simp) (by simp) (by rw [hP]; simp) (by simp) (by simp) (by simp) (by simp)) ?_
        rintro f ⟨hf, hi2⟩
        refine w_sr mo (by rw [hN]; decide) fun K hK => ?_ -- region 13
        simp
        refine hK _ ?_
        clear hK K
        refine w_seq ?_
        refine w_cond rfl (fun h => ?_) fun h => ?_
        · simp at h
          have hf1 : f < c.fr.length := h
          clear h
          refine w_skip ?_
          refine w_seq ?_
          refine w_block ?_
          refine w_sr mo (by rw [hN]; decide) fun K hK => ?_ -- region 14
          simp [at_ix, at_rx, ix_max, rx_max, hl2, hf1]
          refine hK _ ?_
          clear hK K
          refine w_seq ?_
          refine w_sr mo (by rw [hN]; decide) fun K hK => ?_ -- region 15
          simp
          refine hK _ ?_
          clear hK K
          refine w_cond rfl (fun h => ?_) fun h => ?_
          · simp at h
            refine w_sr mo (by rw [hN]; decide) fun K hK => ?_ -- region 16
            simp
            refine hK _ ?_
            clear hK K
            refine w_ret (ret_val rfl (bo_f fun hs => ?_))
            exact absurd (hs.rows f hf1).1 (by omega)
          · simp at h
            have hr : (rx c.cs f).length = c.fr.length := by omega
            clear h
            refine w_skip ?_
            refine w_sr mo (by rw [hN]; decide) fun K hK => ?_ -- region 17
            simp [hr]
            refine hK _ ?_
            clear hK K
            refine w_block ?_
            refine w_loop (fun g : Nat => ⟨[(0, .rptr (.val (.int .i64 c.n) :: .lst u 1 (Is c.fr) :: .lst u 1 (Is c.to) :: .lst u 1 (Is c.id) :: .lst u 1 (Ls c.cs) :: tl)), (3, .val (.int .i64 c.fr.length)), (6, .val (.int .i64 f)), (104, .lst u 1 (Ls c.cs)), (105, .val (.int .i64 c.fr.length)), (106, .val (.int .i64 f)), (115, .lst true 1 (Is (rx c.cs f))), (116, .val (.int .i64 c.fr.length)), (117, .val (.int .i64 g))], [], 0⟩) (fun g => g ≤ c.fr.length ∧ ∀ y : Nat, y < g → c.cell f y) (fun g => c.fr.length - g) 0 (by simp) (Wk.relabel [] (by simp) (by simp) (by rw [hP]; simp) (by simp) (by simp) (by simp) (by simp)) ?_
            rintro g ⟨hg, hi3⟩
            refine w_sr mo (by rw [hN]; decide) fun K hK => ?_ -- region 18
            simp
            refine hK _ ?_
            clear hK K
            refine w_seq ?_
            refine w_cond rfl (fun h => ?_) fun h => ?_
            · simp at h
              have hg1 : g < c.fr.length := h
              clear h
              refine w_skip ?_
              refine w_seq ?_
              refine w_block ?_
              refine w_sr mo (by rw [hN]; decide) fun K hK => ?_ -- region 19
              simp [at_ix, at_rx, ix_max, rx_max, hr, hg1]
              refine hK _ ?_
              clear hK K
              refine w_seq ?_
              refine w_sr mo (by rw [hN]; decide) fun K hK => ?_ -- region 20 DRAWN
              simp [at_ix, at_rx, ix_max, rx_max, hl1, hf1, hg1]
              refine hK _ ?_
              clear hK K
              refine w_cond rfl (fun h1 => ?_) fun h1 => ?_
              · simp at h1
                refine w_seq ?_
                refine w_sr mo (by rw [hN]; decide) fun K hK => ?_ -- region 21
                simp
                refine hK _ ?_
                clear hK K
                refine w_cond rfl (fun h2 => ?_) fun h2 => ?_
                · simp at h2
                  refine w_sr mo (by rw [hN]; decide) fun K hK => ?_ -- region 22
                  simp
                  refine hK _ ?_
                  clear hK K
                  refine w_ret (ret_val rfl (bo_f fun hs => ?_))
                  exact h2 (((hs.rows f hf1).2 g hg1).1 h1)
                · simp at h2
                  have hc : c.cell f g := ⟨fun _ => h2, fun e => absurd e h1⟩
                  refine w_skip ?_
                  refine w_exit ?_
                  simp
                  refine w_run mo (by rw [hN]; decide) fun K hK => ?_ -- region 25
                  simp
                  refine hK _ ?_
                  clear hK K
                  rw [wrap_succ (n := c.fr.length) (by omega) (by omega)]
                  refine ⟨g + 1, ⟨by omega, all_succ hi3 hc⟩, by dsimp only; omega, (Wk.relabel [] (by simp) (by simp) (by rw [hP]; simp) (by simp) (by simp) (by simp) (by simp))⟩
              · simp at h1
                refine w_skip ?_
                refine w_sr mo (by rw [hN]; decide) fun K hK => ?_ -- region 23 DRAWN
                refine join hK (fun b => ⟨[(0, .rptr (.val (.int .i64 c.n) :: .lst u 1 (Is c.fr) :: .lst u 1 (Is c.to) :: .lst u 1 (Is c.id) :: .lst u 1 (Ls c.cs) :: tl)), (3, .val (.int .i64 c.fr.length)), (104, .lst u 1 (Ls c.cs)), (105, .val (.int .i64 c.fr.length)), (106, .val (.int .i64 f)), (115, .lst true 1 (Is (rx c.cs f))), (116, .val (.int .i64 c.fr.length)), (117, .val (.int .i64 g)), (6, .val (.int .i64 f)), (164, .val (.bool b))], [], 0⟩) (¬ c.cell f g) (fun hJ => ?_) fun b hb => ?_
                · simp
                  have hcell : c.cell f g ↔ 0 ≤ ix (rx c.cs f) g ∧ ix (rx c.cs f) g < c.fr.length ∧ ix c.fr (ix (rx c.cs f) g) = ix c.fr f ∧ ix c.to (ix (rx c.cs f) g) = ix c.to g := ⟨fun q => q.2 h1, fun q => ⟨fun e => absurd h1 e, fun _ => q⟩⟩
                  rw [hcell] at hJ
                  refine callA_intro (c46 (ix (rx c.cs f) g) 0 (c.fr.length - 1)) (by rw [wrap_id ⟨by omega, by omega⟩]; exact .cons .val (.cons .val (.cons .val .nil))) ?_
                  simp [unk, unA, unE, flat]
                  refine ⟨fun a1 a2 => ?_, fun a1 => ?_⟩
                  · refine callA_intro (c68 u c tl (ix (rx c.cs f) g) a1 (by omega) (by omega)) (.cons .rptr (.cons .val .nil)) ?_
                    simp [unk, unA, unE, unC, flat, allInts, at_ix, at_rx, ix_max, rx_max, hl1, hf1, hg1]
                    exact hJ (!(ix c.fr (ix (rx c.cs f) g) == ix c.fr f) || !(ix c.to (ix (rx c.cs f) g) == ix c.to g)) (by simp [a1]; grind) _ (Wk.relabel [] (by simp) (by simp) (by rw [hP]; simp) (by simp) (by simp) (by simp) (by simp))
                  · exact hJ (true) (yes fun hp => by omega) _ (Wk.relabel [] (by simp) (by simp) (by rw [hP]; simp) (by simp) (by simp) (by simp) (by simp))
                clear hK K
                refine w_cond rfl (fun h => ?_) fun h => ?_
                · refine w_sr mo (by rw [hN]; decide) fun K hK => ?_ -- region 24
                  simp
                  refine hK _ ?_
                  clear hK K
                  refine w_ret (ret_val rfl (bo_f fun hs => ?_))
                  exact hb.1 h ((hs.rows f hf1).2 g hg1)
                · have hc : c.cell f g := Classical.byContradiction fun hn => by rw [hb.2 hn] at h; cases h
                  refine w_skip ?_
                  refine w_run mo (by rw [hN]; decide) fun K hK => ?_ -- region 25
                  simp
                  refine hK _ ?_
                  clear hK K
                  rw [wrap_succ (n := c.fr.length) (by omega) (by omega)]
                  refine ⟨g + 1, ⟨by omega, all_succ hi3 hc⟩, by dsimp only; omega, (Wk.relabel [] (by simp) (by simp) (by rw [hP]; simp) (by simp) (by simp) (by simp) (by simp))⟩
            · simp at h
              have hg2 : c.fr.length ≤ g := by omega
              clear h
              refine w_exit ?_
              simp
              refine w_run mo (by rw [hN]; decide) fun K hK => ?_ -- region 26
              simp
              refine hK _ ?_
              clear hK K
              rw [wrap_succ (n := c.fr.length) (by omega) (by omega)]
              refine ⟨f + 1, ⟨by omega, all_succ hi2 ⟨hr, fun y hy => hi3 y (by omega)⟩⟩, by dsimp only; omega, (Wk.relabel [] (by simp) (by simp) (by rw [hP]; simp) (by simp) (by simp) (by simp) (by simp))⟩
        · simp at h
          have hf2 : c.fr.length ≤ f := by omega
          clear h
          refine w_exit ?_
          simp
          refine w_sr mo (by rw [hN]; decide) fun K hK => ?_ -- region 27
          simp
          refine hK _ ?_
          clear hK K
          refine w_ret (ret_val rfl (bo_t ?_))
          exact ⟨p1.1, p1.2.1, p1.2.2.1, hl1, p1.2.2.2.2.1, p1.2.2.2.2.2, hl2, hl3, p2.2.1, hi1, fun y hy => hi2 y (by omega)⟩

end Go.Vc.T

namespace Go.Vc.T
open Go Go.Vc Go.Proofs

def first {α : Type} (p : Nat → Option α) : Nat → Option α
  | 0 => none
  | n + 1 => match first p n with
    | some a => some a
    | none => p n

theorem first_none {α : Type} {p : Nat → Option α} : ∀ {n : Nat}, (∀ j, j < n → p j = none) → first p n = none := by
  intro n
  induction n with
  | zero => intro _; rfl
  | succ n ih => intro h; simp only [first]; rw [ih fun j hj => h j (by omega)]; exact h n (by omega)

theorem first_some {α : Type} {p : Nat → Option α} {i : Nat} {a : α} (h1 : ∀ j, j < i → p j = none) (h2 : p i = some a) : ∀ {n : Nat}, i < n → first p n = some a := by
  intro n
  induction n with
  | zero => intro h; omega
  | succ n ih =>
    intro h
    simp only [first]
    rcases Nat.lt_or_ge i n with hlt | hge
    · rw [ih hlt]
    · have : i = n := by omega
      subst this
      rw [first_none h1]; exact h2

theorem first_out {α : Type} {p : Nat → Option α} : ∀ {n : Nat}, first p n = none → ∀ j, j < n → p j = none := by
  intro n
  induction n with
  | zero => intro _ j hj; omega
  | succ n ih =>
    intro h j hj
    simp only [first] at h
    split at h
    · cases h
    · rename_i h0
      rcases Nat.lt_or_ge j n with hlt | hge
      · exact ih h0 j hlt
      · have : j = n := by omega
        subst this; exact h

def Cat.un (c : Cat) (f : Nat) : Prop := ix (rx c.cs (ix c.id (ix c.fr f))) f = f ∧ ix (rx c.cs f) (ix c.id (ix c.to f)) = f
def Cat.as (c : Cat) (f g h : Nat) : Prop := ix c.to f = ix c.fr g → ix c.to g = ix c.fr h → ix (rx c.cs (ix (rx c.cs f) g)) h = ix (rx c.cs f) (ix (rx c.cs g) h)

open Classical in
noncomputable def Cat.f1 (c : Cat) (f : Nat) : Option (Int × Int × Int × Int) := if c.un f then none else some (1, f, 0, 0)
open Classical in
noncomputable def Cat.f2 (c : Cat) (f g h : Nat) : Option (Int × Int × Int × Int) := if c.as f g h then none else some (2, f, g, h)
noncomputable def Cat.fault (c : Cat) : Option (Int × Int × Int × Int) := match first c.f1 c.fr.length with
  | some x => some x
  | none => first (fun f => first (fun g => first (fun h => c.f2 f g h) c.fr.length) c.fr.length) c.fr.length

def Cat.Law (c : Cat) : Prop := (∀ f, f < c.fr.length → c.un f) ∧ ∀ f, f < c.fr.length → ∀ g, g < c.fr.length → ∀ h, h < c.fr.length → c.as f g h

section
variable {c : Cat}
theorem fault_at1 {f : Nat} (hf : f < c.fr.length) (h1 : ∀ y, y < f → c.un y) (h2 : ¬ c.un f) : c.fault = some (1, (f : Int), 0, 0) := by
  unfold Cat.fault
  rw [first_some (i := f) (a := (1, (f : Int), 0, 0)) (fun j hj => by simp [Cat.f1, h1 j hj]) (by simp [Cat.f1, h2]) hf]
theorem fault_at2 {f g h : Nat} (hf : f < c.fr.length) (hg : g < c.fr.length) (hh : h < c.fr.length) (h0 : ∀ y, y < c.fr.length → c.un y) (h1 : ∀ y, y < f → ∀ g, g < c.fr.length → ∀ h, h < c.fr.length → c.as y g h)
    (h2 : ∀ y, y < g → ∀ h, h < c.fr.length → c.as f y h) (h3 : ∀ y, y < h → c.as f g y) (h4 : ¬ c.as f g h) : c.fault = some (2, (f : Int), (g : Int), (h : Int)) := by
  unfold Cat.fault
  rw [first_none fun j hj => by simp [Cat.f1, h0 j hj]]
  simp only
  refine first_some (i := f) (fun j hj => first_none fun g hg => first_none fun h hh => by simp [Cat.f2, h1 j hj g hg h hh]) ?_ hf
  refine first_some (i := g) (fun j hj => first_none fun h hh => by simp [Cat.f2, h2 j hj h hh]) ?_ hg
  refine first_some (i := h) (fun j hj => by simp [Cat.f2, h3 j hj]) ?_ hh
  simp [Cat.f2, h4]
theorem fault_none (h0 : ∀ y, y < c.fr.length → c.un y) (h1 : ∀ y, y < c.fr.length → ∀ g, g < c.fr.length → ∀ h, h < c.fr.length → c.as y g h) : c.fault = none := by
  unfold Cat.fault
  rw [first_none fun j hj => by simp [Cat.f1, h0 j hj]]
  exact first_none fun f hf => first_none fun g hg => first_none fun h hh => by simp [Cat.f2, h1 f hf g hg h hh]

theorem Cat.Sh.fr' (hs : c.Sh) {j : Int} (h0 : 0 ≤ j) (h1 : j < c.fr.length) : 0 ≤ ix c.fr j ∧ ix c.fr j < c.id.length := by
  have := all_ix hs.fr h0 h1; have := hs.li; omega
theorem Cat.Sh.to' (hs : c.Sh) {j : Int} (h0 : 0 ≤ j) (h1 : j < c.fr.length) : 0 ≤ ix c.to j ∧ ix c.to j < c.id.length := by
  have := all_ix hs.to h0 (by rw [hs.lt]; exact h1); have := hs.li; omega
theorem Cat.Sh.id' (hs : c.Sh) {j : Int} (h0 : 0 ≤ j) (h1 : j < c.id.length) : 0 ≤ ix c.id j ∧ ix c.id j < c.fr.length := all_ix hs.id h0 h1
theorem Cat.Sh.row' (hs : c.Sh) {j : Int} (h0 : 0 ≤ j) (h1 : j < c.fr.length) : (rx c.cs j).length = c.fr.length := by
  have := (hs.rows j.toNat (by omega)).1
  rwa [Int.toNat_of_nonneg h0] at this
theorem Cat.Sh.cell' (hs : c.Sh) {f g : Int} (h0 : 0 ≤ f) (h1 : f < c.fr.length) (h2 : 0 ≤ g) (h3 : g < c.fr.length) : (ix c.to f ≠ ix c.fr g → ix (rx c.cs f) g = -1) ∧
    (ix c.to f = ix c.fr g → 0 ≤ ix (rx c.cs f) g ∧ ix (rx c.cs f) g < c.fr.length ∧ ix c.fr (ix (rx c.cs f) g) = ix c.fr f ∧ ix c.to (ix (rx c.cs f) g) = ix c.to g) := by
  have := (hs.rows f.toNat (by omega)).2 g.toNat (by omega)
  simpa only [Cat.cell, Int.toNat_of_nonneg h0, Int.toNat_of_nonneg h2] using this
end

theorem nope {C : Prop} (h : ¬ C) : (false = true ↔ C) := ⟨fun h1 => Bool.noConfusion h1, fun h2 => absurd h2 h⟩

def four (k : Option (Int × Int × Int × Int)) : List AV :=
  [.val (.int .i64 (k.getD (0, 0, 0, 0)).1), .val (.int .i64 (k.getD (0, 0, 0, 0)).2.1), .val (.int .i64 (k.getD (0, 0, 0, 0)).2.2.1), .val (.int .i64 (k.getD (0, 0, 0, 0)).2.2.2)]

theorem fault_zero {c : Cat} : (c.fault.getD (0, 0, 0, 0)).1 = 0 ↔ c.Law := by
  by_cases h1 : ∀ y, y < c.fr.length → c.un y
  · by_cases h2 : ∀ y, y < c.fr.length → ∀ g, g < c.fr.length → ∀ h, h < c.fr.length → c.as y g h
    · rw [fault_none h1 h2]; exact ⟨fun _ => ⟨h1, h2⟩, fun _ => rfl⟩
    · have : c.fault ≠ none := by
        intro h0
        apply h2
        unfold Cat.fault at h0
        split at h0
        · cases h0
        · intro f hf g hg h hh
          have := first_out (first_out (first_out h0 f hf) g hg) h hh
          simpa [Cat.f2] using this
      refine ⟨fun h => ?_, fun h => absurd h.2 h2⟩
      exfalso
      unfold Cat.fault at this h
      rw [first_none fun j hj => by simp [Cat.f1, h1 j hj]] at this h
      simp only at this h
      have key : ∀ {α : Type} (p : Nat → Option α) (Q : α → Prop), (∀ i a, p i = some a → Q a) → ∀ n a, first p n = some a → Q a := by
        intro α p Q hp n
        induction n with
        | zero => intro a h; cases h
        | succ n ih =>
          intro a h
          simp only [first] at h
          split at h
          · rename_i x hx; cases h; exact ih _ hx
          · exact hp _ _ h
      obtain ⟨x, hx⟩ := Option.ne_none_iff_exists'.1 this
      have : x.1 = 2 := key _ (fun x => x.1 = 2) (fun f a ha => key _ (fun x => x.1 = 2) (fun g a ha => key _ (fun x => x.1 = 2) (fun h a ha => by
        simp only [Cat.f2] at ha
        split at ha
        · cases ha
        · cases ha; rfl) _ _ ha) _ _ ha) _ _ hx
      rw [hx] at h
      simp [this] at h
  · refine ⟨fun h => ?_, fun h => absurd h.1 h1⟩
    exfalso
    unfold Cat.fault at h
    cases hq : first c.f1 c.fr.length with
    | none =>
      apply h1
      intro y hy
      have := first_out hq y hy
      simpa [Cat.f1] using this
    | some x =>
      rw [hq] at h
      have key : ∀ n a, first c.f1 n = some a → a.1 = 1 := by
        intro n
        induction n with
        | zero => intro a h; cases h
        | succ n ih =>
          intro a h
          simp only [first] at h
          split at h
          · rename_i x hx; cases h; exact ih _ hx
          · simp only [Cat.f1] at h
            split at h
            · cases h
            · cases h; rfl
      have := key _ _ hq
      simp [this] at h

theorem c64 (u : Bool) (c : Cat) (hs : c.Sh) : Contract Try.prog 64 [.agg (c.cells u)] (.tup (four c.fault)) := by
  refine contract_intro (rs := four c.fault) Try.func64 rfl rfl rfl rfl (by simp [Try.f64]) fun F hN hP => ?_
  have hl1 := hs.lt
  have hl2 := hs.lc
  have hm40 := hs.m40
  refine w_sr mo (by rw [hN]; decide) fun K hK => ?_ -- region 0
  simp [Cat.cells]
  refine hK _ ?_
  clear hK K
  refine w_sr mo (by rw [hN]; decide) fun K hK => ?_ -- region 1
  simp [Cat.cells]
  refine hK _ ?_
  clear hK K
  refine w_seq ?_
  refine w_sr mo (by rw [hN]; decide) fun K hK => ?_ -- region 2
  simp
  refine hK _ ?_
  clear hK K
  refine w_block ?_
  refine w_loop (fun f : Nat => ⟨[(1, .adr 0 0 0), (6, .val (.int .i64 c.fr.length)), (7, .val (.int .i64 f))], [(0, .mix 5 [[.val (.int .i64 c.n), .lst u 1 (Is c.fr), .lst u 1 (Is c.to), .lst u 1 (Is c.id), .lst u 1 (Ls c.cs)]])], 1⟩) (fun f => f ≤ c.fr.length ∧ ∀ y : Nat, y < f → c.un y) (fun f => c.fr.length - f) 0 (by simp) (Wk.relabel [(0, 0)] (by simp) (by simp) (by rw [hP]; simp) (by simp) (by simp) (by simp) (by simp)) ?_
  rintro f ⟨hf0, hi0⟩
  refine w_seq ?_
  refine w_sr mo (by rw [hN]; decide) fun K hK => ?_ -- region 3
  simp
  refine hK _ ?_
  clear hK K
  refine w_cond rfl (fun h => ?_) fun h => ?_
  · simp at h
    have hf : f < c.fr.length := by omega
    clear h
    have a1 := hs.fr' (j := f) (by omega) (by omega)
    have a2 := hs.id' a1.1 a1.2
    have a3 := hs.row' a2.1 a2.2
    have a4 := hs.row' (j := f) (by omega) (by omega)
    have a5 := hs.to' (j := f) (by omega) (by omega)
    have a6 := hs.id' a5.1 a5.2
    refine w_skip ?_
    refine w_seq ?_
    refine w_block ?_
    refine w_sr mo (by rw [hN]; decide) fun K hK => ?_ -- region 5 DRAWN
    refine join hK (fun b => ⟨[(1, .adr 0 0 0), (6, .val (.int .i64 c.fr.length)), (7, .val (.int .i64 f)), (56, .val (.bool b))], [(0, .mix 5 [[.val (.int .i64 c.n), .lst u 1 (Is c.fr), .lst u 1 (Is c.to), .lst u 1 (Is c.id), .lst u 1 (Ls c.cs)]])], 1⟩) (¬ c.un f) (fun hJ => ?_) fun b hb => ?_
    · simp [at_ix, at_rx, ix_max, rx_max, hl1, hl2, hf, a1.1, a1.2, a2.1, a2.2, a3, a4, a5.1, a5.2, a6.1, a6.2]
      refine ⟨fun b1 => ?_, fun b1 => ?_⟩
      · exact hJ (ix (rx c.cs f) (ix c.id (ix c.to f)) != f) (by simp [Cat.un, b1]) _ (Wk.relabel [(0, 0)] (by simp) (by simp) (by rw [hP]; simp) (by simp) (by simp) (by simp) (by simp))
      · exact hJ (true) (yes fun hp => b1 hp.1) _ (Wk.relabel [(0, 0)] (by simp) (by simp) (by rw [hP]; simp) (by simp) (by simp) (by simp) (by simp))
    clear hK K
    refine w_cond rfl (fun h => ?_) fun h => ?_
    · refine w_sr mo (by rw [hN]; decide) fun K hK => ?_ -- region 6
      simp
      refine hK _ ?_
      clear hK K
      refine w_ret ?_
      rw [fault_at1 hf hi0 (hb.1 h)]
      refine ⟨.one rfl rfl (.one rfl rfl (.one rfl rfl (.one rfl rfl .nil))), _, [], rfl, by simp, UpL.refl _⟩
    · have hc : c.un f := Classical.byContradiction fun hn => by rw [hb.2 hn] at h; cases h
      refine w_skip ?_
      refine w_run mo (by rw [hN]; decide) fun K hK => ?_ -- region 4
      simp
      refine hK _ ?_
      clear hK K
      rw [wrap_succ (n := c.fr.length) (by omega) (by omega)]
      refine ⟨f + 1, ⟨by omega, all_succ hi0 hc⟩, by dsimp only; omega, (Wk.relabel [(0, 0)] (by simp) (by simp) (by rw [hP]; simp) (by simp) (by simp) (by simp) (by simp))⟩
  · simp at h
    have hf2 : c.fr.length ≤ f := by omega
    clear h
    have hi1 : ∀ y : Nat, y < c.fr.length → c.un y := fun y hy => hi0 y (by omega)
    refine w_exit ?_
    simp
    refine w_seq ?_
    refine w_sr mo (by rw [hN]; decide) fun K hK => ?_ -- region 7
    simp
    refine hK _ ?_
    clear hK K
    refine w_block ?_
    refine w_loop (fun f : Nat => ⟨[(1, .adr 0 0 0), (6, .val (.int .i64 c.fr.length)), (8, .val (.int .i64 f))], [(0, .mix 5 [[.val (.int .i64 c.n), .lst u 1 (Is c.fr), .lst u 1 (Is c.to), .lst u 1 (Is c.id), .lst u 1 (Ls c.cs)]])], 1⟩) (fun f => f ≤ c.fr.length ∧ ∀ y : Nat, y < f → ∀ g : Nat, g < c.fr.length → ∀ h : Nat, h < c.fr.length → c.as y g h) (fun f => c.fr.length - f) 0 (by simp) (Wk.relabel [(0, 0)] (by simp) (by simp) (by rw [hP]; simp) (by simp) (by simp) (by simp) (by simp)) ?_
    clear hi0 hf2 hf0 f
    rintro f ⟨hf0, hi2⟩
    refine w_seq ?_
    refine w_sr mo (by rw [hN]; decide) fun K hK => ?_ -- region 8
    simp
    refine hK _ ?_
    clear hK K
    refine w_cond rfl (fun h => ?_) fun h => ?_
    · simp at h
      have hf : f < c.fr.length := by omega
      clear h
      have rf := hs.row' (j := f) (by omega) (by omega)
      refine w_skip ?_
      refine w_seq ?_
      refine w_block ?_
      refine w_sr mo (by rw [hN]; decide) fun K hK => ?_ -- region 10
      simp
      refine hK _ ?_
      clear hK K
      refine w_block ?_
      refine w_loop (fun g : Nat => ⟨[(1, .adr 0 0 0), (6, .val (.int .i64 c.fr.length)), (8, .val (.int .i64 f)), (9, .val (.int .i64 g))], [(0, .mix 5 [[.val (.int .i64 c.n), .lst u 1 (Is c.fr), .lst u 1 (Is c.to), .lst u 1 (Is c.id), .lst u 1 (Ls c.cs)]])], 1⟩) (fun g => g ≤ c.fr.length ∧ ∀ y : Nat, y < g → ∀ h : Nat, h < c.fr.length → c.as f y h) (fun g => c.fr.length - g) 0 (by simp) (Wk.relabel [(0, 0)] (by simp) (by simp) (by rw [hP]; simp) (by simp) (by simp) (by simp) (by simp)) ?_
      rintro g ⟨hg0, hi3⟩
      refine w_seq ?_
      refine w_sr mo (by rw [hN]; decide) fun K hK => ?_ -- region 11
      simp
      refine hK _ ?_
      clear hK K
      refine w_cond rfl (fun h => ?_) fun h => ?_
      · simp at h
        have hg : g < c.fr.length := by omega
        clear h
        have rg := hs.row' (j := g) (by omega) (by omega)
        refine w_skip ?_
        refine w_seq ?_
        refine w_block ?_
        refine w_seq ?_
        refine w_sr mo (by rw [hN]; decide) fun K hK => ?_ -- region 13 DRAWN
        simp [at_ix, at_rx, ix_max, rx_max, hl1, hf, hg]
        refine hK _ ?_
        clear hK K
        refine w_cond rfl (fun e1 => ?_) fun e1 => ?_
        · simp at e1
          have hc : ∀ h : Nat, h < c.fr.length → c.as f g h := fun h _ q => absurd q e1
          refine w_exit ?_
          simp
          refine w_run mo (by rw [hN]; decide) fun K hK => ?_ -- region 12
          simp
          refine hK _ ?_
          clear hK K
          rw [wrap_succ (n := c.fr.length) (by omega) (by omega)]
          refine ⟨g + 1, ⟨by omega, all_succ hi3 hc⟩, by dsimp only; omega, (Wk.relabel [(0, 0)] (by simp) (by simp) (by rw [hP]; simp) (by simp) (by simp) (by simp) (by simp))⟩
        · simp at e1
          have d0 := (hs.cell' (f := f) (g := g) (by omega) (by omega) (by omega) (by omega)).2 e1
          have r0 := hs.row' d0.1 d0.2.1
          refine w_skip ?_
          refine w_sr mo (by rw [hN]; decide) fun K hK => ?_ -- region 14
          simp
          refine hK _ ?_
          clear hK K
          refine w_block ?_
          refine w_loop (fun h : Nat => ⟨[(1, .adr 0 0 0), (6, .val (.int .i64 c.fr.length)), (8, .val (.int .i64 f)), (9, .val (.int .i64 g)), (10, .val (.int .i64 h))], [(0, .mix 5 [[.val (.int .i64 c.n), .lst u 1 (Is c.fr), .lst u 1 (Is c.to), .lst u 1 (Is c.id), .lst u 1 (Ls c.cs)]])], 1⟩) (fun h => h ≤ c.fr.length ∧ ∀ y : Nat, y < h → c.as f g y) (fun h => c.fr.length - h) 0 (by simp) (Wk.relabel [(0, 0)] (by simp) (by simp) (by rw [hP]; simp) (by simp) (by simp) (by simp) (by simp)) ?_
          rintro h ⟨hh0, hi4⟩
          refine w_seq ?_
          refine w_sr mo (by rw [hN]; decide) fun K hK => ?_ -- region 15
          simp
          refine hK _ ?_
          clear hK K
          refine w_cond rfl (fun g0 => ?_) fun g0 => ?_
          · simp at g0
            have hh : h < c.fr.length := by omega
            clear g0
            refine w_skip ?_
            refine w_seq ?_
            refine w_block ?_
            refine w_sr mo (by rw [hN]; decide) fun K hK => ?_ -- region 17 DRAWN
            refine join hK (fun b => ⟨[(1, .adr 0 0 0), (6, .val (.int .i64 c.fr.length)), (8, .val (.int .i64 f)), (9, .val (.int .i64 g)), (10, .val (.int .i64 h)), (127, .val (.bool b))], [(0, .mix 5 [[.val (.int .i64 c.n), .lst u 1 (Is c.fr), .lst u 1 (Is c.to), .lst u 1 (Is c.id), .lst u 1 (Ls c.cs)]])], 1⟩) (¬ c.as f g h) (fun hJ => ?_) fun b hb => ?_
            · by_cases e2 : ix c.to g = ix c.fr h
              · have d1 := (hs.cell' (f := g) (g := h) (by omega) (by omega) (by omega) (by omega)).2 e2
                simp [at_ix, at_rx, ix_max, rx_max, e2, hl1, hl2, hf, hg, hh, rg, rf, d0.1, d0.2.1, r0, d1.1, d1.2.1]
                exact hJ (ix (rx c.cs (ix (rx c.cs f) g)) h != ix (rx c.cs f) (ix (rx c.cs g) h)) (by simp [Cat.as, e1, e2]) _ (Wk.relabel [(0, 0)] (by simp) (by simp) (by rw [hP]; simp) (by simp) (by simp) (by simp) (by simp))
              · simp [at_ix, at_rx, ix_max, rx_max, e2, hl1, hg, hh]
                exact hJ (false) (nope fun hp => hp fun _ q => absurd q e2) _ (Wk.relabel [(0, 0)] (by simp) (by simp) (by rw [hP]; simp) (by simp) (by simp) (by simp) (by simp))
            clear hK K
            refine w_cond rfl (fun g0 => ?_) fun g0 => ?_
            · refine w_sr mo (by rw [hN]; decide) fun K hK => ?_ -- region 18
              simp
              refine hK _ ?_
              clear hK K
              refine w_ret ?_
              rw [fault_at2 hf hg hh hi1 hi2 hi3 hi4 (hb.1 g0)]
              refine ⟨.one rfl rfl (.one rfl rfl (.one rfl rfl (.one rfl rfl .nil))), _, [], rfl, by simp, UpL.refl _⟩
            · have hc : c.as f g h := Classical.byContradiction fun hn => by rw [hb.2 hn] at g0; cases g0
              refine w_skip ?_
              refine w_run mo (by rw [hN]; decide) fun K hK => ?_ -- region 16
              simp
              refine hK _ ?_
              clear hK K
              rw [wrap_succ (n := c.fr.length) (by omega) (by omega)]
              refine ⟨h + 1, ⟨by omega, all_succ hi4 hc⟩, by dsimp only; omega, (Wk.relabel [(0, 0)] (by simp) (by simp) (by rw [hP]; simp) (by simp) (by simp) (by simp) (by simp))⟩
          · simp at g0
            have hh2 : c.fr.length ≤ h := by omega
            clear g0
            have hc : ∀ h : Nat, h < c.fr.length → c.as f g h := fun y hy => hi4 y (by omega)
            refine w_exit ?_
            simp
            refine w_run mo (by rw [hN]; decide) fun K hK => ?_ -- region 12
            simp
            refine hK _ ?_
            clear hK K
            rw [wrap_succ (n := c.fr.length) (by omega) (by omega)]
            refine ⟨g + 1, ⟨by omega, all_succ hi3 hc⟩, by dsimp only; omega, (Wk.relabel [(0, 0)] (by simp) (by simp) (by rw [hP]; simp) (by simp) (by simp) (by simp) (by simp))⟩
      · simp at h
        have hg2 : c.fr.length ≤ g := by omega
        clear h
        refine w_exit ?_
        simp
        refine w_run mo (by rw [hN]; decide) fun K hK => ?_ -- region 9
        simp
        refine hK _ ?_
        clear hK K
        rw [wrap_succ (n := c.fr.length) (by omega) (by omega)]
        refine ⟨f + 1, ⟨by omega, all_succ hi2 fun g hg h hh => hi3 g (by omega) h hh⟩, by dsimp only; omega, (Wk.relabel [(0, 0)] (by simp) (by simp) (by rw [hP]; simp) (by simp) (by simp) (by simp) (by simp))⟩
    · simp at h
      have hf2 : c.fr.length ≤ f := by omega
      clear h
      refine w_exit ?_
      simp
      refine w_sr mo (by rw [hN]; decide) fun K hK => ?_ -- region 19
      simp
      refine hK _ ?_
      clear hK K
      refine w_ret ?_
      rw [fault_none hi1 fun y hy => hi2 y (by omega)]
      refine ⟨.one rfl rfl (.one rfl rfl (.one rfl rfl (.one rfl rfl .nil))), _, [], rfl, by simp, UpL.refl _⟩

theorem c66 (u : Bool) (c : Cat) (tl : List AV) (hs : c.Sh) : Contract Try.prog 66 [.rptr (c.cells u ++ tl)] (.tup (four c.fault)) := by
  refine contract_intro (rs := four c.fault) Try.func66 rfl rfl rfl rfl (by simp [Try.f66]) fun F hN hP => ?_
  have hl1 := hs.lt
  have hl2 := hs.lc
  have hm40 := hs.m40
  simp only [Cat.cells, List.cons_append, List.nil_append]
  refine w_sr mo (by rw [hN]; decide) fun K hK => ?_ -- region 0
  simp
  refine hK _ ?_
  clear hK K
  refine w_sr mo (by rw [hN]; decide) fun K hK => ?_ -- region 1
  simp
  refine callA_intro (c61 u c tl) (.cons .rptr .nil) ?_
  simp [unk, unA, unE, flat]
  refine hK _ ?_
  clear hK K
  refine w_seq ?_
  refine w_sr mo (by rw [hN]; decide) fun K hK => ?_ -- region 2
  simp
  refine hK _ ?_
  clear hK K
  refine w_block ?_
  refine w_loop (fun f : Nat => ⟨[(0, .rptr (.val (.int .i64 c.n) :: .lst u 1 (Is c.fr) :: .lst u 1 (Is c.to) :: .lst u 1 (Is c.id) :: .lst u 1 (Ls c.cs) :: tl)), (6, .val (.int .i64 c.fr.length)), (7, .val (.int .i64 f))], [], 0⟩) (fun f => f ≤ c.fr.length ∧ ∀ y : Nat, y < f → c.un y) (fun f => c.fr.length - f) 0 (by simp) (Wk.relabel [] (by simp) (by simp) (by rw [hP]; simp) (by simp) (by simp) (by simp) (by simp)) ?_
  rintro f ⟨hf0, hi0⟩
  refine w_seq ?_
  refine w_sr mo (by rw [hN]; decide) fun K hK => ?_ -- region 3
  simp
  refine hK _ ?_
  clear hK K
  refine w_cond rfl (fun h => ?_) fun h => ?_
  · simp at h
    have hf : f < c.fr.length := by omega
    clear h
    have a1 := hs.fr' (j := f) (by omega) (by omega)
    have a2 := hs.id' a1.1 a1.2
    have a3 := hs.row' a2.1 a2.2
    have a4 := hs.row' (j := f) (by omega) (by omega)
    have a5 := hs.to' (j := f) (by omega) (by omega)
    have a6 := hs.id' a5.1 a5.2
    refine w_skip ?_
    refine w_seq ?_
    refine w_block ?_
    refine w_sr mo (by rw [hN]; decide) fun K hK => ?_ -- region 5 DRAWN
    refine join hK (fun b => ⟨[(0, .rptr (.val (.int .i64 c.n) :: .lst u 1 (Is c.fr) :: .lst u 1 (Is c.to) :: .lst u 1 (Is c.id) :: .lst u 1 (Ls c.cs) :: tl)), (6, .val (.int .i64 c.fr.length)), (7, .val (.int .i64 f)), (55, .val (.bool b))], [], 0⟩) (¬ c.un f) (fun hJ => ?_) fun b hb => ?_
    · simp [at_ix, at_rx, ix_max, rx_max, hl1, hf, a1.1, a1.2, a2.1, a2.2]
      refine callA_intro (c69 u c tl (ix c.id (ix c.fr f)) (f) (a2.1) (by omega) (by omega) (by omega)) (.cons .rptr (.cons .val (.cons .val .nil))) ?_
      simp [unk, unA, unE, flat, at_ix, at_rx, ix_max, rx_max, hl1, hf, a5.1, a5.2]
      refine ⟨fun b1 => ?_, fun b1 => ?_⟩
      · refine callA_intro (c69 u c tl (f) (ix c.id (ix c.to f)) (by omega) (by omega) (a6.1) (by omega)) (.cons .rptr (.cons .val (.cons .val .nil))) ?_
        simp [unk, unA, unE, flat]
        exact hJ (ix (rx c.cs f) (ix c.id (ix c.to f)) != f) (by simp [Cat.un, b1]) _ (Wk.relabel [] (by simp) (by simp) (by rw [hP]; simp) (by simp) (by simp) (by simp) (by simp))
      · exact hJ (true) (yes fun hp => b1 hp.1) _ (Wk.relabel [] (by simp) (by simp) (by rw [hP]; simp) (by simp) (by simp) (by simp) (by simp))
    clear hK K
    refine w_cond rfl (fun h => ?_) fun h => ?_
    · refine w_sr mo (by rw [hN]; decide) fun K hK => ?_ -- region 6
      simp
      refine hK _ ?_
      clear hK K
      refine w_ret ?_
      rw [fault_at1 hf hi0 (hb.1 h)]
      refine ⟨.one rfl rfl (.one rfl rfl (.one rfl rfl (.one rfl rfl .nil))), _, [], rfl, by simp, UpL.refl _⟩
    · have hc : c.un f := Classical.byContradiction fun hn => by rw [hb.2 hn] at h; cases h
      refine w_skip ?_
      refine w_run mo (by rw [hN]; decide) fun K hK => ?_ -- region 4
      simp
      refine hK _ ?_
      clear hK K
      rw [wrap_succ (n := c.fr.length) (by omega) (by omega)]
      refine ⟨f + 1, ⟨by omega, all_succ hi0 hc⟩, by dsimp only; omega, (Wk.relabel [] (by simp) (by simp) (by rw [hP]; simp) (by simp) (by simp) (by simp) (by simp))⟩
  · simp at h
    have hf2 : c.fr.length ≤ f := by omega
    clear h
    have hi1 : ∀ y : Nat, y < c.fr.length → c.un y := fun y hy => hi0 y (by omega)
    refine w_exit ?_
    simp
    refine w_seq ?_
    refine w_sr mo (by rw [hN]; decide) fun K hK => ?_ -- region 7
    simp
    refine hK _ ?_
    clear hK K
    refine w_block ?_
    refine w_loop (fun f : Nat => ⟨[(0, .rptr (.val (.int .i64 c.n) :: .lst u 1 (Is c.fr) :: .lst u 1 (Is c.to) :: .lst u 1 (Is c.id) :: .lst u 1 (Ls c.cs) :: tl)), (6, .val (.int .i64 c.fr.length)), (8, .val (.int .i64 f))], [], 0⟩) (fun f => f ≤ c.fr.length ∧ ∀ y : Nat, y < f → ∀ g : Nat, g < c.fr.length → ∀ h : Nat, h < c.fr.length → c.as y g h) (fun f => c.fr.length - f) 0 (by simp) (Wk.relabel [] (by simp) (by simp) (by rw [hP]; simp) (by simp) (by simp) (by simp) (by simp)) ?_
    clear hi0 hf2 hf0 f
    rintro f ⟨hf0, hi2⟩
    refine w_seq ?_
    refine w_sr mo (by rw [hN]; decide) fun K hK => ?_ -- region 8
    simp
    refine hK _ ?_
    clear hK K
    refine w_cond rfl (fun h => ?_) fun h => ?_
    · simp at h
      have hf : f < c.fr.length := by omega
      clear h
      have rf := hs.row' (j := f) (by omega) (by omega)
      refine w_skip ?_
      refine w_seq ?_
      refine w_block ?_
      refine w_sr mo (by rw [hN]; decide) fun K hK => ?_ -- region 10
      simp
      refine hK _ ?_
      clear hK K
      refine w_block ?_
      refine w_loop (fun g : Nat => ⟨[(0, .rptr (.val (.int .i64 c.n) :: .lst u 1 (Is c.fr) :: .lst u 1 (Is c.to) :: .lst u 1 (Is c.id) :: .lst u 1 (Ls c.cs) :: tl)), (6, .val (.int .i64 c.fr.length)), (8, .val (.int .i64 f)), (9, .val (.int .i64 g))], [], 0⟩) (fun g => g ≤ c.fr.length ∧ ∀ y : Nat, y < g → ∀ h : Nat, h < c.fr.length → c.as f y h) (fun g => c.fr.length - g) 0 (by simp) (Wk.relabel [] (by simp) (by simp) (by rw [hP]; simp) (by simp) (by simp) (by simp) (by simp)) ?_
      rintro g ⟨hg0, hi3⟩
      refine w_seq ?_
      refine w_sr mo (by rw [hN]; decide) fun K hK => ?_ -- region 11
      simp
      refine hK _ ?_
      clear hK K
      refine w_cond rfl (fun h => ?_) fun h => ?_
      · simp at h
        have hg : g < c.fr.length := by omega
        clear h
        have rg := hs.row' (j := g) (by omega) (by omega)
        refine w_skip ?_
        refine w_seq ?_
        refine w_block ?_
        refine w_seq ?_
        refine w_sr mo (by rw [hN]; decide) fun K hK => ?_ -- region 13
        simp
        refine callA_intro (c69 u c tl (f) (g) (by omega) (by omega) (by omega) (by omega)) (.cons .rptr (.cons .val (.cons .val .nil))) ?_
        simp [unk, unA, unE, flat]
        refine hK _ ?_
        clear hK K
        refine w_cond rfl (fun e0 => ?_) fun e0 => ?_
        · simp at e0
          have e1 : ¬ ix c.to f = ix c.fr g := fun q => by have := ((hs.cell' (f := f) (g := g) (by omega) (by omega) (by omega) (by omega)).2 q).1; omega
          have hc : ∀ h : Nat, h < c.fr.length → c.as f g h := fun h _ q => absurd q e1
          refine w_exit ?_
          simp
          refine w_run mo (by rw [hN]; decide) fun K hK => ?_ -- region 12
          simp
          refine hK _ ?_
          clear hK K
          rw [wrap_succ (n := c.fr.length) (by omega) (by omega)]
          refine ⟨g + 1, ⟨by omega, all_succ hi3 hc⟩, by dsimp only; omega, (Wk.relabel [] (by simp) (by simp) (by rw [hP]; simp) (by simp) (by simp) (by simp) (by simp))⟩
        · simp at e0
          have e1 : ix c.to f = ix c.fr g := Classical.byContradiction fun q => by have := (hs.cell' (f := f) (g := g) (by omega) (by omega) (by omega) (by omega)).1 q; omega
          have d0 := (hs.cell' (f := f) (g := g) (by omega) (by omega) (by omega) (by omega)).2 e1
          have r0 := hs.row' d0.1 d0.2.1
          refine w_skip ?_
          refine w_sr mo (by rw [hN]; decide) fun K hK => ?_ -- region 14
          simp
          refine hK _ ?_
          clear hK K
          refine w_block ?_
          refine w_loop (fun h : Nat => ⟨[(0, .rptr (.val (.int .i64 c.n) :: .lst u 1 (Is c.fr) :: .lst u 1 (Is c.to) :: .lst u 1 (Is c.id) :: .lst u 1 (Ls c.cs) :: tl)), (6, .val (.int .i64 c.fr.length)), (8, .val (.int .i64 f)), (9, .val (.int .i64 g)), (10, .val (.int .i64 h))], [], 0⟩) (fun h => h ≤ c.fr.length ∧ ∀ y : Nat, y < h → c.as f g y) (fun h => c.fr.length - h) 0 (by simp) (Wk.relabel [] (by simp) (by simp) (by rw [hP]; simp) (by simp) (by simp) (by simp) (by simp)) ?_
          rintro h ⟨hh0, hi4⟩
          refine w_seq ?_
          refine w_sr mo (by rw [hN]; decide) fun K hK => ?_ -- region 15
          simp
          refine hK _ ?_
          clear hK K
          refine w_cond rfl (fun g0 => ?_) fun g0 => ?_
          · simp at g0
            have hh : h < c.fr.length := by omega
            clear g0
            refine w_skip ?_
            refine w_seq ?_
            refine w_block ?_
            refine w_sr mo (by rw [hN]; decide) fun K hK => ?_ -- region 17
            refine join hK (fun b => ⟨[(0, .rptr (.val (.int .i64 c.n) :: .lst u 1 (Is c.fr) :: .lst u 1 (Is c.to) :: .lst u 1 (Is c.id) :: .lst u 1 (Ls c.cs) :: tl)), (6, .val (.int .i64 c.fr.length)), (8, .val (.int .i64 f)), (9, .val (.int .i64 g)), (10, .val (.int .i64 h)), (98, .val (.bool b))], [], 0⟩) (¬ c.as f g h) (fun hJ => ?_) fun b hb => ?_
            · simp
              refine callA_intro (c69 u c tl (g) (h) (by omega) (by omega) (by omega) (by omega)) (.cons .rptr (.cons .val (.cons .val .nil))) ?_
              simp [unk, unA, unE, flat]
              by_cases e2 : ix c.to g = ix c.fr h
              · have d1 := (hs.cell' (f := g) (g := h) (by omega) (by omega) (by omega) (by omega)).2 e2
                simp [d1.1, Int.not_lt.2 d1.1]
                refine callA_intro (c69 u c tl (f) (g) (by omega) (by omega) (by omega) (by omega)) (.cons .rptr (.cons .val (.cons .val .nil))) ?_
                simp [unk, unA, unE, flat]
                refine callA_intro (c69 u c tl (ix (rx c.cs f) g) (h) (d0.1) (by omega) (by omega) (by omega)) (.cons .rptr (.cons .val (.cons .val .nil))) ?_
                simp [unk, unA, unE, flat]
                refine callA_intro (c69 u c tl (g) (h) (by omega) (by omega) (by omega) (by omega)) (.cons .rptr (.cons .val (.cons .val .nil))) ?_
                simp [unk, unA, unE, flat]
                refine callA_intro (c69 u c tl (f) (ix (rx c.cs g) h) (by omega) (by omega) (d1.1) (by omega)) (.cons .rptr (.cons .val (.cons .val .nil))) ?_
                simp [unk, unA, unE, flat]
                exact hJ (ix (rx c.cs (ix (rx c.cs f) g)) h != ix (rx c.cs f) (ix (rx c.cs g) h)) (by simp [Cat.as, e1, e2]) _ (Wk.relabel [] (by simp) (by simp) (by rw [hP]; simp) (by simp) (by simp) (by simp) (by simp))
              · have d1 := (hs.cell' (f := g) (g := h) (by omega) (by omega) (by omega) (by omega)).1 e2
                simp [d1]
                exact hJ (false) (nope fun hp => hp fun _ q => absurd q e2) _ (Wk.relabel [] (by simp) (by simp) (by rw [hP]; simp) (by simp) (by simp) (by simp) (by simp))
            clear hK K
            refine w_cond rfl (fun g0 => ?_) fun g0 => ?_
            · refine w_sr mo (by rw [hN]; decide) fun K hK => ?_ -- region 18
              simp
              refine hK _ ?_
              clear hK K
              refine w_ret ?_
              rw [fault_at2 hf hg hh hi1 hi2 hi3 hi4 (hb.1 g0)]
              refine ⟨.one rfl rfl (.one rfl rfl (.one rfl rfl (.one rfl rfl .nil))), _, [], rfl, by simp, UpL.refl _⟩
            · have hc : c.as f g h := Classical.byContradiction fun hn => by rw [hb.2 hn] at g0; cases g0
              refine w_skip ?_
              refine w_run mo (by rw [hN]; decide) fun K hK => ?_ -- region 16
              simp
              refine hK _ ?_
              clear hK K
              rw [wrap_succ (n := c.fr.length) (by omega) (by omega)]
              refine ⟨h + 1, ⟨by omega, all_succ hi4 hc⟩, by dsimp only; omega, (Wk.relabel [] (by simp) (by simp) (by rw [hP]; simp) (by simp) (by simp) (by simp) (by simp))⟩
          · simp at g0
            have hh2 : c.fr.length ≤ h := by omega
            clear g0
            have hc : ∀ h : Nat, h < c.fr.length → c.as f g h := fun y hy => hi4 y (by omega)
            refine w_exit ?_
            simp
            refine w_run mo (by rw [hN]; decide) fun K hK => ?_ -- region 12
            simp
            refine hK _ ?_
            clear hK K
            rw [wrap_succ (n := c.fr.length) (by omega) (by omega)]
            refine ⟨g + 1, ⟨by omega, all_succ hi3 hc⟩, by dsimp only; omega, (Wk.relabel [] (by simp) (by simp) (by rw [hP]; simp) (by simp) (by simp) (by simp) (by simp))⟩
      · simp at h
        have hg2 : c.fr.length ≤ g := by omega
        clear h
        refine w_exit ?_
        simp
        refine w_run mo (by rw [hN]; decide) fun K hK => ?_ -- region 9
        simp
        refine hK _ ?_
        clear hK K
        rw [wrap_succ (n := c.fr.length) (by omega) (by omega)]
        refine ⟨f + 1, ⟨by omega, all_succ hi2 fun g hg h hh => hi3 g (by omega) h hh⟩, by dsimp only; omega, (Wk.relabel [] (by simp) (by simp) (by rw [hP]; simp) (by simp) (by simp) (by simp) (by simp))⟩
    · simp at h
      have hf2 : c.fr.length ≤ f := by omega
      clear h
      refine w_exit ?_
      simp
      refine w_sr mo (by rw [hN]; decide) fun K hK => ?_ -- region 19
      simp
      refine hK _ ?_
      clear hK K
      refine w_ret ?_
      rw [fault_none hi1 fun y hy => hi2 y (by omega)]
      refine ⟨.one rfl rfl (.one rfl rfl (.one rfl rfl (.one rfl rfl .nil))), _, [], rfl, by simp, UpL.refl _⟩

end Go.Vc.T
