/- A part of the proof: a verified generator of conditions, and what each function of the program does. -/
import Derived.Test.YtgdcogaeechepaaW2
set_option maxRecDepth 100000
set_option linter.unusedSimpArgs false
set_option linter.unusedVariables false

set_option maxRecDepth 100000
set_option linter.unusedSimpArgs false
set_option linter.unusedVariables false

namespace Go.Vc.T
open Go Go.Vc Go.Proofs

def first {α : Type} (p : Nat → Option α) : Nat → Option α
  | 0 => none
  | n + 1 => match first p n with
    | some a => some a
    | none => p n

theorem first_none {α : Type} {p : Nat → Option α} : ∀ {n : Nat}, (∀ j, j < n → p j = none) → first p n = none := by
  intro n
  induction n with
  | zero => intro _; rfl
  | succ n ih => intro h; simp only [first]; rw [ih fun j hj => h j (by omega)]; exact h n (by omega)

theorem first_some {α : Type} {p : Nat → Option α} {i : Nat} {a : α} (h1 : ∀ j, j < i → p j = none) (h2 : p i = some a) : ∀ {n : Nat}, i < n → first p n = some a := by
  intro n
  induction n with
  | zero => intro h; omega
  | succ n ih =>
    intro h
    simp only [first]
    rcases Nat.lt_or_ge i n with hlt | hge
    · rw [ih hlt]
    · have : i = n := by omega
      subst this
      rw [first_none h1]; exact h2

theorem first_out {α : Type} {p : Nat → Option α} : ∀ {n : Nat}, first p n = none → ∀ j, j < n → p j = none := by
  intro n
  induction n with
  | zero => intro _ j hj; omega
  | succ n ih =>
    intro h j hj
    simp only [first] at h
    split at h
    · cases h
    · rename_i h0
      rcases Nat.lt_or_ge j n with hlt | hge
      · exact ih h0 j hlt
      · have : j = n := by omega
        subst this; exact h

def Cat.un (c : Cat) (f : Nat) : Prop := ix (rx c.cs (ix c.id (ix c.fr f))) f = f ∧ ix (rx c.cs f) (ix c.id (ix c.to f)) = f
def Cat.as (c : Cat) (f g h : Nat) : Prop := ix c.to f = ix c.fr g → ix c.to g = ix c.fr h → ix (rx c.cs (ix (rx c.cs f) g)) h = ix (rx c.cs f) (ix (rx c.cs g) h)

open Classical in
noncomputable def Cat.f1 (c : Cat) (f : Nat) : Option (Int × Int × Int × Int) := if c.un f then none else some (1, f, 0, 0)
open Classical in
noncomputable def Cat.f2 (c : Cat) (f g h : Nat) : Option (Int × Int × Int × Int) := if c.as f g h then none else some (2, f, g, h)
noncomputable def Cat.fault (c : Cat) : Option (Int × Int × Int × Int) := match first c.f1 c.fr.length with
  | some x => some x
  | none => first (fun f => first (fun g => first (fun h => c.f2 f g h) c.fr.length) c.fr.length) c.fr.length

def Cat.Law (c : Cat) : Prop := (∀ f, f < c.fr.length → c.un f) ∧ ∀ f, f < c.fr.length → ∀ g, g < c.fr.length → ∀ h, h < c.fr.length → c.as f g h

section
variable {c : Cat}
theorem fault_at1 {f : Nat} (hf : f < c.fr.length) (h1 : ∀ y, y < f → c.un y) (h2 : ¬ c.un f) : c.fault = some (1, (f : Int), 0, 0) := by
  unfold Cat.fault
  rw [first_some (i := f) (a := (1, (f : Int), 0, 0)) (fun j hj => by simp [Cat.f1, h1 j hj]) (by simp [Cat.f1, h2]) hf]
theorem fault_at2 {f g h : Nat} (hf : f < c.fr.length) (hg : g < c.fr.length) (hh : h < c.fr.length) (h0 : ∀ y, y < c.fr.length → c.un y) (h1 : ∀ y, y < f → ∀ g, g < c.fr.length → ∀ h, h < c.fr.length → c.as y g h)
    (h2 : ∀ y, y < g → ∀ h, h < c.fr.length → c.as f y h) (h3 : ∀ y, y < h → c.as f g y) (h4 : ¬ c.as f g h) : c.fault = some (2, (f : Int), (g : Int), (h : Int)) := by
  unfold Cat.fault
  rw [first_none fun j hj => by simp [Cat.f1, h0 j hj]]
  simp only
  refine first_some (i := f) (fun j hj => first_none fun g hg => first_none fun h hh => by simp [Cat.f2, h1 j hj g hg h hh]) ?_ hf
  refine first_some (i := g) (fun j hj => first_none fun h hh => by simp [Cat.f2, h2 j hj h hh]) ?_ hg
  refine first_some (i := h) (fun j hj => by simp [Cat.f2, h3 j hj]) ?_ hh
  simp [Cat.f2, h4]
theorem fault_none (h0 : ∀ y, y < c.fr.length → c.un y) (h1 : ∀ y, y < c.fr.length → ∀ g, g < c.fr.length → ∀ h, h < c.fr.length → c.as y g h) : c.fault = none := by
  unfold Cat.fault
  rw [first_none fun j hj => by simp [Cat.f1, h0 j hj]]
  exact first_none fun f hf => first_none fun g hg => first_none fun h hh => by simp [Cat.f2, h1 f hf g hg h hh]

theorem Cat.Sh.fr' (hs : c.Sh) {j : Int} (h0 : 0 ≤ j) (h1 : j < c.fr.length) : 0 ≤ ix c.fr j ∧ ix c.fr j < c.id.length := by
  have := all_ix hs.fr h0 h1; have := hs.li; omega
theorem Cat.Sh.to' (hs : c.Sh) {j : Int} (h0 : 0 ≤ j) (h1 : j < c.fr.length) : 0 ≤ ix c.to j ∧ ix c.to j < c.id.length := by
  have := all_ix hs.to h0 (by rw [hs.lt]; exact h1); have := hs.li; omega
theorem Cat.Sh.id' (hs : c.Sh) {j : Int} (h0 : 0 ≤ j) (h1 : j < c.id.length) : 0 ≤ ix c.id j ∧ ix c.id j < c.fr.length := all_ix hs.id h0 h1
theorem Cat.Sh.row' (hs : c.Sh) {j : Int} (h0 : 0 ≤ j) (h1 : j < c.fr.length) : (rx c.cs j).length = c.fr.length := by
  have := (hs.rows j.toNat (by omega)).1
  rwa [Int.toNat_of_nonneg h0] at this
theorem Cat.Sh.cell' (hs : c.Sh) {f g : Int} (h0 : 0 ≤ f) (h1 : f < c.fr.length) (h2 : 0 ≤ g) (h3 : g < c.fr.length) : (ix c.to f ≠ ix c.fr g → ix (rx c.cs f) g = -1) ∧
    (ix c.to f = ix c.fr g → 0 ≤ ix (rx c.cs f) g ∧ ix (rx c.cs f) g < c.fr.length ∧ ix c.fr (ix (rx c.cs f) g) = ix c.fr f ∧ ix c.to (ix (rx c.cs f) g) = ix c.to g) := by
  have := (hs.rows f.toNat (by omega)).2 g.toNat (by omega)
  simpa only [Cat.cell, Int.toNat_of_nonneg h0, Int.toNat_of_nonneg h2] using this
end

theorem nope {C : Prop} (h : ¬ C) : (false = true ↔ C) := ⟨fun h1 => Bool.noConfusion h1, fun h2 => absurd h2 h⟩

def four (k : Option (Int × Int × Int × Int)) : List AV :=
  [.val (.int .i64 (k.getD (0, 0, 0, 0)).1), .val (.int .i64 (k.getD (0, 0, 0, 0)).2.1), .val (.int .i64 (k.getD (0, 0, 0, 0)).2.2.1), .val (.int .i64 (k.getD (0, 0, 0, 0)).2.2.2)]

theorem fault_zero {c : Cat} : (c.fault.getD (0, 0, 0, 0)).1 = 0 ↔ c.Law := by
  by_cases h1 : ∀ y, y < c.fr.length → c.un y
  · by_cases h2 : ∀ y, y < c.fr.length → ∀ g, g < c.fr.length → ∀ h, h < c.fr.length → c.as y g h
    · rw [fault_none h1 h2]; exact ⟨fun _ => ⟨h1, h2⟩, fun _ => rfl⟩
    · have : c.fault ≠ none := by
        intro h0
        apply h2
        unfold Cat.fault at h0
        split at h0
        · cases h0
        · intro f hf g hg h hh
          have := first_out (first_out (first_out h0 f hf) g hg) h hh
          simpa [Cat.f2] using this
      refine ⟨fun h => ?_, fun h => absurd h.2 h2⟩
      exfalso
      unfold Cat.fault at this h
      rw [first_none fun j hj => by simp [Cat.f1, h1 j hj]] at this h
      simp only at this h
      have key : ∀ {α : Type} (p : Nat → Option α) (Q : α → Prop), (∀ i a, p i = some a → Q a) → ∀ n a, first p n = some a → Q a := by
        intro α p Q hp n
        induction n with
        | zero => intro a h; cases h
        | succ n ih =>
          intro a h
          simp only [first] at h
          split at h
          · rename_i x hx; cases h; exact ih _ hx
          · exact hp _ _ h
      obtain ⟨x, hx⟩ := Option.ne_none_iff_exists'.1 this
      have : x.1 = 2 := key _ (fun x => x.1 = 2) (fun f a ha => key _ (fun x => x.1 = 2) (fun g a ha => key _ (fun x => x.1 = 2) (fun h a ha => by
        simp only [Cat.f2] at ha
        split at ha
        · cases ha
        · cases ha; rfl) _ _ ha) _ _ ha) _ _ hx
      rw [hx] at h
      simp [this] at h
  · refine ⟨fun h => ?_, fun h => absurd h.1 h1⟩
    exfalso
    unfold Cat.fault at h
    cases hq : first c.f1 c.fr.length with
    | none =>
      apply h1
      intro y hy
      have := first_out hq y hy
      simpa [Cat.f1] using this
    | some x =>
      rw [hq] at h
      have key : ∀ n a, first c.f1 n = some a → a.1 = 1 := by
        intro n
        induction n with
        | zero => intro a h; cases h
        | succ n ih =>
          intro a h
          simp only [first] at h
          split at h
          · rename_i x hx; cases h; exact ih _ hx
          · simp only [Cat.f1] at h
            split at h
            · cases h
            · cases h; rfl
      have := key _ _ hq
      simp [this] at h

theorem c64 (u : Bool) (c : Cat) (hs : c.Sh) : Contract Try.prog 97 [.agg (c.cells u)] (.tup (four c.fault)) := by
  refine contract_intro (rs := four c.fault) Try.func97 rfl rfl rfl rfl (by simp [Try.f97]) fun F hN hP => ?_
  have hl1 := hs.lt
  have hl2 := hs.lc
  have hm40 := hs.m40
  refine w_sr mo (by rw [hN]; decide) fun K hK => ?_ -- region 0
  simp [Cat.cells]
  refine hK _ ?_
  clear hK K
  refine w_sr mo (by rw [hN]; decide) fun K hK => ?_ -- region 1
  simp [Cat.cells]
  refine hK _ ?_
  clear hK K
  refine w_seq ?_
  refine w_sr mo (by rw [hN]; decide) fun K hK => ?_ -- region 2
  simp
  refine hK _ ?_
  clear hK K
  refine w_block ?_
  refine w_loop (fun f : Nat => ⟨[(1, .adr 0 0 0), (6, .val (.int .i64 c.fr.length)), (7, .val (.int .i64 f))], [(0, .mix 5 [[.val (.int .i64 c.n), .lst u 1 (Is c.fr), .lst u 1 (Is c.to), .lst u 1 (Is c.id), .lst u 1 (Ls c.cs)]])], 1⟩) (fun f => f ≤ c.fr.length ∧ ∀ y : Nat, y < f → c.un y) (fun f => c.fr.length - f) 0 (by simp) (Wk.relabel [(0, 0)] (by simp) (by simp) (by rw [hP]; simp) (by simp) (by simp) (by simp) (by simp)) ?_
  rintro f ⟨hf0, hi0⟩
  refine w_seq ?_
  refine w_sr mo (by rw [hN]; decide) fun K hK => ?_ -- region 3
  simp
  refine hK _ ?_
  clear hK K
  refine w_cond rfl (fun h => ?_) fun h => ?_
  · simp at h
    have hf : f < c.fr.length := by omega
    clear h
    have a1 := hs.fr' (j := f) (by omega) (by omega)
    have a2 := hs.id' a1.1 a1.2
    have a3 := hs.row' a2.1 a2.2
    have a4 := hs.row' (j := f) (by omega) (by omega)
    have a5 := hs.to' (j := f) (by omega) (by omega)
    have a6 := hs.id' a5.1 a5.2
    refine w_skip ?_
    refine w_seq ?_
    refine w_block ?_
    refine w_sr mo (by rw [hN]; decide) fun K hK => ?_ -- region 5 DRAWN
    refine join hK (fun b => ⟨[(1, .adr 0 0 0), (6, .val (.int .i64 c.fr.length)), (7, .val (.int .i64 f)), (56, .val (.bool b))], [(0, .mix 5 [[.val (.int .i64 c.n), .lst u 1 (Is c.fr), .lst u 1 (Is c.to), .lst u 1 (Is c.id), .lst u 1 (Ls c.cs)]])], 1⟩) (¬ c.un f) (fun hJ => ?_) fun b hb => ?_
    · simp [at_ix, at_rx, ix_max, rx_max, hl1, hl2, hf, a1.1, a1.2, a2.1, a2.2, a3, a4, a5.1, a5.2, a6.1, a6.2]
      refine ⟨fun b1 => ?_, fun b1 => ?_⟩
      · exact hJ (ix (rx c.cs f) (ix c.id (ix c.to f)) != f) (by simp [Cat.un, b1]) _ (Wk.relabel [(0, 0)] (by simp) (by simp) (by rw [hP]; simp) (by simp) (by simp) (by simp) (by simp))
      · exact hJ (true) (yes fun hp => b1 hp.1) _ (Wk.relabel [(0, 0)] (by simp) (by simp) (by rw [hP]; simp) (by simp) (by simp) (by simp) (by simp))
    clear hK K
    refine w_cond rfl (fun h => ?_) fun h => ?_
    · refine w_sr mo (by rw [hN]; decide) fun K hK => ?_ -- region 6
      simp
      refine hK _ ?_
      clear hK K
      refine w_ret ?_
      rw [fault_at1 hf hi0 (hb.1 h)]
      refine ⟨.one rfl rfl (.one rfl rfl (.one rfl rfl (.one rfl rfl .nil))), _, [], rfl, by simp, UpL.refl _⟩
    · have hc : c.un f := Classical.byContradiction fun hn => by rw [hb.2 hn] at h; cases h
      refine w_skip ?_
      refine w_run mo (by rw [hN]; decide) fun K hK => ?_ -- region 4
      simp
      refine hK _ ?_
      clear hK K
      rw [wrap_succ (n := c.fr.length) (by omega) (by omega)]
      refine ⟨f + 1, ⟨by omega, all_succ hi0 hc⟩, by dsimp only; omega, (Wk.relabel [(0, 0)] (by simp) (by simp) (by rw [hP]; simp) (by simp) (by simp) (by simp) (by simp))⟩
  · simp at h
    have hf2 : c.fr.length ≤ f := by omega
    clear h
    have hi1 : ∀ y : Nat, y < c.fr.length → c.un y := fun y hy => hi0 y (by omega)
    refine w_exit ?_
    simp
    refine w_seq ?_
    refine w_sr mo (by rw [hN]; decide) fun K hK => ?_ -- region 7
    simp
    refine hK _ ?_
    clear hK K
    refine w_block ?_
    refine w_loop (fun f : Nat => ⟨[(1, .adr 0 0 0), (6, .val (.int .i64 c.fr.length)), (8, .val (.int .i64 f))], [(0, .mix 5 [[.val (.int .i64 c.n), .lst u 1 (Is c.fr), .lst u 1 (Is c.to), .lst u 1 (Is c.id), .lst u 1 (Ls c.cs)]])], 1⟩) (fun f => f ≤ c.fr.length ∧ ∀ y : Nat, y < f → ∀ g : Nat, g < c.fr.length → ∀ h : Nat, h < c.fr.length → c.as y g h) (fun f => c.fr.length - f) 0 (by simp) (Wk.relabel [(0, 0)] (by simp) (by simp) (by rw [hP]; simp) (by simp) (by simp) (by simp) (by simp)) ?_
    clear hi0 hf2 hf0 f
    rintro f ⟨hf0, hi2⟩
    refine w_seq ?_
    refine w_sr mo (by rw [hN]; decide) fun K hK => ?_ -- region 8
    simp
    refine hK _ ?_
    clear hK K
    refine w_cond rfl (fun h => ?_) fun h => ?_
    · simp at h
      have hf : f < c.fr.length := by omega
      clear h
      have rf := hs.row' (j := f) (by omega) (by omega)
      refine w_skip ?_
      refine w_seq ?_
      refine w_block ?_
      refine w_sr mo (by rw [hN]; decide) fun K hK => ?_ -- region 10
      simp
      refine hK _ ?_
      clear hK K
      refine w_block ?_
      refine w_loop (fun g : Nat => ⟨[(1, .adr 0 0 0), (6, .val (.int .i64 c.fr.length)), (8, .val (.int .i64 f)), (9, .val (.int .i64 g))], [(0, .mix 5 [[.val (.int .i64 c.n), .lst u 1 (Is c.fr), .lst u 1 (Is c.to), .lst u 1 (Is c.id), .lst u 1 (Ls c.cs)]])], 1⟩) (fun g => g ≤ c.fr.length ∧ ∀ y : Nat, y < g → ∀ h : Nat, h < c.fr.length → c.as f y h) (fun g => c.fr.length - g) 0 (by simp) (Wk.relabel [(0, 0)] (by simp) (by simp) (by rw [hP]; simp) (by simp) (by simp) (by simp) (by simp)) ?_
      rintro g ⟨hg0, hi3⟩
      refine w_seq ?_
      refine w_sr mo (by rw [hN]; decide) fun K hK => ?_ -- region 11
      simp
      refine hK _ ?_
      clear hK K
      refine w_cond rfl (fun h => ?_) fun h => ?_
      · simp at h
        have hg : g < c.fr.length := by omega
        clear h
        have rg := hs.row' (j := g) (by omega) (by omega)
        refine w_skip ?_
        refine w_seq ?_
        refine w_block ?_
        refine w_seq ?_
        refine w_sr mo (by rw [hN]; decide) fun K hK => ?_ -- region 13 DRAWN
        simp [at_ix, at_rx, ix_max, rx_max, hl1, hf, hg]
        refine hK _ ?_
        clear hK K
        refine w_cond rfl (fun e1 => ?_) fun e1 => ?_
        · simp at e1
          have hc : ∀ h : Nat, h < c.fr.length → c.as f g h := fun h _ q => absurd q e1
          refine w_exit ?_
          simp
          refine w_run mo (by rw [hN]; decide) fun K hK => ?_ -- region 12
          simp
          refine hK _ ?_
          clear hK K
          rw [wrap_succ (n := c.fr.length) (by omega) (by omega)]
          refine ⟨g + 1, ⟨by omega, all_succ hi3 hc⟩, by dsimp only; omega, (Wk.relabel [(0, 0)] (by simp) (by simp) (by rw [hP]; simp) (by simp) (by simp) (by simp) (by simp))⟩
        · simp at e1
          have d0 := (hs.cell' (f := f) (g := g) (by omega) (by omega) (by omega) (by omega)).2 e1
          have r0 := hs.row' d0.1 d0.2.1
          refine w_skip ?_
          refine w_sr mo (by rw [hN]; decide) fun K hK => ?_ -- region 14
          simp
          refine hK _ ?_
          clear hK K
          refine w_block ?_
          refine w_loop (fun h : Nat => ⟨[(1, .adr 0 0 0), (6, .val (.int .i64 c.fr.length)), (8, .val (.int .i64 f)), (9, .val (.int .i64 g)), (10, .val (.int .i64 h))], [(0, .mix 5 [[.val (.int .i64 c.n), .lst u 1 (Is c.fr), .lst u 1 (Is c.to), .lst u 1 (Is c.id), .lst u 1 (Ls c.cs)]])], 1⟩) (fun h => h ≤ c.fr.length ∧ ∀ y : Nat, y < h → c.as f g y) (fun h => c.fr.length - h) 0 (by simp) (Wk.relabel [(0, 0)] (by simp) (by simp) (by rw [hP]; simp) (by simp) (by simp) (by simp) (by simp)) ?_
          rintro h ⟨hh0, hi4⟩
          refine w_seq ?_
          refine w_sr mo (by rw [hN]; decide) fun K hK => ?_ -- region 15
          simp
          refine hK _ ?_
          clear hK K
          refine w_cond rfl (fun g0 => ?_) fun g0 => ?_
          · simp at g0
            have hh : h < c.fr.length := by omega
            clear g0
            refine w_skip ?_
            refine w_seq ?_
            refine w_block ?_
            refine w_sr mo (by rw [hN]; decide) fun K hK => ?_ -- region 17 DRAWN
            refine join hK (fun b => ⟨[(1, .adr 0 0 0), (6, .val (.int .i64 c.fr.length)), (8, .val (.int .i64 f)), (9, .val (.int .i64 g)), (10, .val (.int .i64 h)), (127, .val (.bool b))], [(0, .mix 5 [[.val (.int .i64 c.n), .lst u 1 (Is c.fr), .lst u 1 (Is c.to), .lst u 1 (Is c.id), .lst u 1 (Ls c.cs)]])], 1⟩) (¬ c.as f g h) (fun hJ => ?_) fun b hb => ?_
            · by_cases e2 : ix c.to g = ix c.fr h
              · have d1 := (hs.cell' (f := g) (g := h) (by omega) (by omega) (by omega) (by omega)).2 e2
                simp [at_ix, at_rx, ix_max, rx_max, e2, hl1, hl2, hf, hg, hh, rg, rf, d0.1, d0.2.1, r0, d1.1, d1.2.1]
                exact hJ (ix (rx c.cs (ix (rx c.cs f) g)) h != ix (rx c.cs f) (ix (rx c.cs g) h)) (by simp [Cat.as, e1, e2]) _ (Wk.relabel [(0, 0)] (by simp) (by simp) (by rw [hP]; simp) (by simp) (by simp) (by simp) (by simp))
              · simp [at_ix, at_rx, ix_max, rx_max, e2, hl1, hg, hh]
                exact hJ (false) (nope fun hp => hp fun _ q => absurd q e2) _ (Wk.relabel [(0, 0)] (by simp) (by simp) (by rw [hP]; simp) (by simp) (by simp) (by simp) (by simp))
            clear hK K
            refine w_cond rfl (fun g0 => ?_) fun g0 => ?_
            · refine w_sr mo (by rw [hN]; decide) fun K hK => ?_ -- region 18
              simp
              refine hK _ ?_
              clear hK K
              refine w_ret ?_
              rw [fault_at2 hf hg hh hi1 hi2 hi3 hi4 (hb.1 g0)]
              refine ⟨.one rfl rfl (.one rfl rfl (.one rfl rfl (.one rfl rfl .nil))), _, [], rfl, by simp, UpL.refl _⟩
            · have hc : c.as f g h := Classical.byContradiction fun hn => by rw [hb.2 hn] at g0; cases g0
              refine w_skip ?_
              refine w_run mo (by rw [hN]; decide) fun K hK => ?_ -- region 16
              simp
              refine hK _ ?_
              clear hK K
              rw [wrap_succ (n := c.fr.length) (by omega) (by omega)]
              refine ⟨h + 1, ⟨by omega, all_succ hi4 hc⟩, by dsimp only; omega, (Wk.relabel [(0, 0)] (by simp) (by simp) (by rw [hP]; simp) (by simp) (by simp) (by simp) (by simp))⟩
          · simp at g0
            have hh2 : c.fr.length ≤ h := by omega
            clear g0
            have hc : ∀ h : Nat, h < c.fr.length → c.as f g h := fun y hy => hi4 y (by omega)
            refine w_exit ?_
            simp
            refine w_run mo (by rw [hN]; decide) fun K hK => ?_ -- region 12
            simp
            refine hK _ ?_
            clear hK K
            rw [wrap_succ (n := c.fr.length) (by omega) (by omega)]
            refine ⟨g + 1, ⟨by omega, all_succ hi3 hc⟩, by dsimp only; omega, (Wk.relabel [(0, 0)] (by simp) (by simp) (by rw [hP]; simp) (by simp) (by simp) (by simp) (by simp))⟩
      · simp at h
        have hg2 : c.fr.length ≤ g := by omega
        clear h
        refine w_exit ?_
        simp
        refine w_run mo (by rw [hN]; decide) fun K hK => ?_ -- region 9
        simp
        refine hK _ ?_
        clear hK K
        rw [wrap_succ (n := c.fr.length) (by omega) (by omega)]
        refine ⟨f + 1, ⟨by omega, all_succ hi2 fun g hg h hh => hi3 g (by omega) h hh⟩, by dsimp only; omega, (Wk.relabel [(0, 0)] (by simp) (by simp) (by rw [hP]; simp) (by simp) (by simp) (by simp) (by simp))⟩
    · simp at h
      have hf2 : c.fr.length ≤ f := by omega
      clear h
      refine w_exit ?_
      simp
      refine w_sr mo (by rw [hN]; decide) fun K hK => ?_ -- region 19
      simp
      refine hK _ ?_
      clear hK K
      refine w_ret ?_
      rw [fault_none hi1 fun y hy => hi2 y (by omega)]
      refine ⟨.one rfl rfl (.one rfl rfl (.one rfl rfl (.one rfl rfl .nil))), _, [], rfl, by simp, UpL.refl _⟩

theorem c66 (u : Bool) (c : Cat) (tl : List AV) (hs : c.Sh) : Contract Try.prog 102 [.rptr (c.cells u ++ tl)] (.tup (four c.fault)) := by
  refine contract_intro (rs := four c.fault) Try.func102 rfl rfl rfl rfl (by simp [Try.f102]) fun F hN hP => ?_
  have hl1 := hs.lt
  have hl2 := hs.lc
  have hm40 := hs.m40
  simp only [Cat.cells, List.cons_append, List.nil_append]
  refine w_sr mo (by rw [hN]; decide) fun K hK => ?_ -- region 0
  simp
  refine hK _ ?_
  clear hK K
  refine w_sr mo (by rw [hN]; decide) fun K hK => ?_ -- region 1
  simp
  refine callA_intro (c61 u c tl) (.cons .rptr .nil) ?_
  simp [unk, unA, unE, flat]
  refine hK _ ?_
  clear hK K
  refine w_seq ?_
  refine w_sr mo (by rw [hN]; decide) fun K hK => ?_ -- region 2
  simp
  refine hK _ ?_
  clear hK K
  refine w_block ?_
  refine w_loop (fun f : Nat => ⟨[(0, .rptr (.val (.int .i64 c.n) :: .lst u 1 (Is c.fr) :: .lst u 1 (Is c.to) :: .lst u 1 (Is c.id) :: .lst u 1 (Ls c.cs) :: tl)), (6, .val (.int .i64 c.fr.length)), (7, .val (.int .i64 f))], [], 0⟩) (fun f => f ≤ c.fr.length ∧ ∀ y : Nat, y < f → c.un y) (fun f => c.fr.length - f) 0 (by simp) (Wk.relabel [] (by simp) (by simp) (by rw [hP]; simp) (by simp) (by simp) (by simp) (by simp)) ?_
  rintro f ⟨hf0, hi0⟩
  refine w_seq ?_
  refine w_sr mo (by rw [hN]; decide) fun K hK => ?_ -- region 3
  simp
  refine hK _ ?_
  clear hK K
  refine w_cond rfl (fun h => ?_) fun h => ?_
  · simp at h
    have hf : f < c.fr.length := by omega
    clear h
    have a1 := hs.fr' (j := f) (by omega) (by omega)
    have a2 := hs.id' a1.1 a1.2
    have a3 := hs.row' a2.1 a2.2
    have a4 := hs.row' (j := f) (by omega) (by omega)
    have a5 := hs.to' (j := f) (by omega) (by omega)
    have a6 := hs.id' a5.1 a5.2
    refine w_skip ?_
    refine w_seq ?_
    refine w_block ?_
    refine w_sr mo (by rw [hN]; decide) fun K hK => ?_ -- region 5 DRAWN
    refine join hK (fun b => ⟨[(0, .rptr (.val (.int .i64 c.n) :: .lst u 1 (Is c.fr) :: .lst u 1 (Is c.to) :: .lst u 1 (Is c.id) :: .lst u 1 (Ls c.cs) :: tl)), (6, .val (.int .i64 c.fr.length)), (7, .val (.int .i64 f)), (55, .val (.bool b))], [], 0⟩) (¬ c.un f) (fun hJ => ?_) fun b hb => ?_
    · simp [at_ix, at_rx, ix_max, rx_max, hl1, hf, a1.1, a1.2, a2.1, a2.2]
      refine callA_intro (c69 u c tl (ix c.id (ix c.fr f)) (f) (a2.1) (by omega) (by omega) (by omega)) (.cons .rptr (.cons .val (.cons .val .nil))) ?_
      simp [unk, unA, unE, flat, at_ix, at_rx, ix_max, rx_max, hl1, hf, a5.1, a5.2]
      refine ⟨fun b1 => ?_, fun b1 => ?_⟩
      · refine callA_intro (c69 u c tl (f) (ix c.id (ix c.to f)) (by omega) (by omega) (a6.1) (by omega)) (.cons .rptr (.cons .val (.cons .val .nil))) ?_
        simp [unk, unA, unE, flat]
        exact hJ (ix (rx c.cs f) (ix c.id (ix c.to f)) != f) (by simp [Cat.un, b1]) _ (Wk.relabel [] (by simp) (by simp) (by rw [hP]; simp) (by simp) (by simp) (by simp) (by simp))
      · exact hJ (true) (yes fun hp => b1 hp.1) _ (Wk.relabel [] (by simp) (by simp) (by rw [hP]; simp) (by simp) (by simp) (by simp) (by simp))
    clear hK K
    refine w_cond rfl (fun h => ?_) fun h => ?_
    · refine w_sr mo (by rw [hN]; decide) fun K hK => ?_ -- region 6
      simp
      refine hK _ ?_
      clear hK K
      refine w_ret ?_
      rw [fault_at1 hf hi0 (hb.1 h)]
      refine ⟨.one rfl rfl (.one rfl rfl (.one rfl rfl (.one rfl rfl .nil))), _, [], rfl, by simp, UpL.refl _⟩
    · have hc : c.un f := Classical.byContradiction fun hn => by rw [hb.2 hn] at h; cases h
      refine w_skip ?_
      refine w_run mo (by rw [hN]; decide) fun K hK => ?_ -- region 4
      simp
      refine hK _ ?_
      clear hK K
      rw [wrap_succ (n := c.fr.length) (by omega) (by omega)]
      refine ⟨f + 1, ⟨by omega, all_succ hi0 hc⟩, by dsimp only; omega, (Wk.relabel [] (by simp) (by simp) (by rw [hP]; simp) (by simp) (by simp) (by simp) (by simp))⟩
  · simp at h
    have hf2 : c.fr.length ≤ f := by omega
    clear h
    have hi1 : ∀ y : Nat, y < c.fr.length → c.un y := fun y hy => hi0 y (by omega)
    refine w_exit ?_
    simp
    refine w_seq ?_
    refine w_sr mo (by rw [hN]; decide) fun K hK => ?_ -- region 7
    simp
    refine hK _ ?_
    clear hK K
    refine w_block ?_
    refine w_loop (fun f : Nat => ⟨[(0, .rptr (.val (.int .i64 c.n) :: .lst u 1 (Is c.fr) :: .lst u 1 (Is c.to) :: .lst u 1 (Is c.id) :: .lst u 1 (Ls c.cs) :: tl)), (6, .val (.int .i64 c.fr.length)), (8, .val (.int .i64 f))], [], 0⟩) (fun f => f ≤ c.fr.length ∧ ∀ y : Nat, y < f → ∀ g : Nat, g < c.fr.length → ∀ h : Nat, h < c.fr.length → c.as y g h) (fun f => c.fr.length - f) 0 (by simp) (Wk.relabel [] (by simp) (by simp) (by rw [hP]; simp) (by simp) (by simp) (by simp) (by simp)) ?_
    clear hi0 hf2 hf0 f
    rintro f ⟨hf0, hi2⟩
    refine w_seq ?_
    refine w_sr mo (by rw [hN]; decide) fun K hK => ?_ -- region 8
    simp
    refine hK _ ?_
    clear hK K
    refine w_cond rfl (fun h => ?_) fun h => ?_
    · simp at h
      have hf : f < c.fr.length := by omega
      clear h
      have rf := hs.row' (j := f) (by omega) (by omega)
      refine w_skip ?_
      refine w_seq ?_
      refine w_block ?_
      refine w_sr mo (by rw [hN]; decide) fun K hK => ?_ -- region 10
      simp
      refine hK _ ?_
      clear hK K
      refine w_block ?_
      refine w_loop (fun g : Nat => ⟨[(0, .rptr (.val (.int .i64 c.n) :: .lst u 1 (Is c.fr) :: .lst u 1 (Is c.to) :: .lst u 1 (Is c.id) :: .lst u 1 (Ls c.cs) :: tl)), (6, .val (.int .i64 c.fr.length)), (8, .val (.int .i64 f)), (9, .val (.int .i64 g))], [], 0⟩) (fun g => g ≤ c.fr.length ∧ ∀ y : Nat, y < g → ∀ h : Nat, h < c.fr.length → c.as f y h) (fun g => c.fr.length - g) 0 (by simp) (Wk.relabel [] (by simp) (by simp) (by rw [hP]; simp) (by simp) (by simp) (by simp) (by simp)) ?_
      rintro g ⟨hg0, hi3⟩
      refine w_seq ?_
      refine w_sr mo (by rw [hN]; decide) fun K hK => ?_ -- region 11
      simp
      refine hK _ ?_
      clear hK K
      refine w_cond rfl (fun h => ?_) fun h => ?_
      · simp at h
        have hg : g < c.fr.length := by omega
        clear h
        have rg := hs.row' (j := g) (by omega) (by omega)
        refine w_skip ?_
        refine w_seq ?_
        refine w_block ?_
        refine w_seq ?_
        refine w_sr mo (by rw [hN]; decide) fun K hK => ?_ -- region 13
        simp
        refine callA_intro (c69 u c tl (f) (g) (by omega) (by omega) (by omega) (by omega)) (.cons .rptr (.cons .val (.cons .val .nil))) ?_
        simp [unk, unA, unE, flat]
        refine hK _ ?_
        clear hK K
        refine w_cond rfl (fun e0 => ?_) fun e0 => ?_
        · simp at e0
          have e1 : ¬ ix c.to f = ix c.fr g := fun q => by have := ((hs.cell' (f := f) (g := g) (by omega) (by omega) (by omega) (by omega)).2 q).1; omega
          have hc : ∀ h : Nat, h < c.fr.length → c.as f g h := fun h _ q => absurd q e1
          refine w_exit ?_
          simp
          refine w_run mo (by rw [hN]; decide) fun K hK => ?_ -- region 12
          simp
          refine hK _ ?_
          clear hK K
          rw [wrap_succ (n := c.fr.length) (by omega) (by omega)]
          refine ⟨g + 1, ⟨by omega, all_succ hi3 hc⟩, by dsimp only; omega, (Wk.relabel [] (by simp) (by simp) (by rw [hP]; simp) (by simp) (by simp) (by simp) (by simp))⟩
        · simp at e0
          have e1 : ix c.to f = ix c.fr g := Classical.byContradiction fun q => by have := (hs.cell' (f := f) (g := g) (by omega) (by omega) (by omega) (by omega)).1 q; omega
          have d0 := (hs.cell' (f := f) (g := g) (by omega) (by omega) (by omega) (by omega)).2 e1
          have r0 := hs.row' d0.1 d0.2.1
          refine w_skip ?_
          refine w_sr mo (by rw [hN]; decide) fun K hK => ?_ -- region 14
          simp
          refine hK _ ?_
          clear hK K
          refine w_block ?_
          refine w_loop (fun h : Nat => ⟨[(0, .rptr (.val (.int .i64 c.n) :: .lst u 1 (Is c.fr) :: .lst u 1 (Is c.to) :: .lst u 1 (Is c.id) :: .lst u 1 (Ls c.cs) :: tl)), (6, .val (.int .i64 c.fr.length)), (8, .val (.int .i64 f)), (9, .val (.int .i64 g)), (10, .val (.int .i64 h))], [], 0⟩) (fun h => h ≤ c.fr.length ∧ ∀ y : Nat, y < h → c.as f g y) (fun h => c.fr.length - h) 0 (by simp) (Wk.relabel [] (by simp) (by simp) (by rw [hP]; simp) (by simp) (by simp) (by simp) (by simp)) ?_
          rintro h ⟨hh0, hi4⟩
          refine w_seq ?_
          refine w_sr mo (by rw [hN]; decide) fun K hK => ?_ -- region 15
          simp
          refine hK _ ?_
          clear hK K
          refine w_cond rfl (fun g0 => ?_) fun g0 => ?_
          · simp at g0
            have hh : h < c.fr.length := by omega
            clear g0
            refine w_skip ?_
            refine w_seq ?_
            refine w_block ?_
            refine w_sr mo (by rw [hN]; decide) fun K hK => ?_ -- region 17
            refine join hK (fun b => ⟨[(0, .rptr (.val (.int .i64 c.n) :: .lst u 1 (Is c.fr) :: .lst u 1 (Is c.to) :: .lst u 1 (Is c.id) :: .lst u 1 (Ls c.cs) :: tl)), (6, .val (.int .i64 c.fr.length)), (8, .val (.int .i64 f)), (9, .val (.int .i64 g)), (10, .val (.int .i64 h)), (98, .val (.bool b))], [], 0⟩) (¬ c.as f g h) (fun hJ => ?_) fun b hb => ?_
            · simp
              refine callA_intro (c69 u c tl (g) (h) (by omega) (by omega) (by omega) (by omega)) (.cons .rptr (.cons .val (.cons .val .nil))) ?_
              simp [unk, unA, unE, flat]
              by_cases e2 : ix c.to g = ix c.fr h
              · have d1 := (hs.cell' (f := g) (g := h) (by omega) (by omega) (by omega) (by omega)).2 e2
                simp [d1.1, Int.not_lt.2 d1.1]
                refine callA_intro (c69 u c tl (f) (g) (by omega) (by omega) (by omega) (by omega)) (.cons .rptr (.cons .val (.cons .val .nil))) ?_
                simp [unk, unA, unE, flat]
                refine callA_intro (c69 u c tl (ix (rx c.cs f) g) (h) (d0.1) (by omega) (by omega) (by omega)) (.cons .rptr (.cons .val (.cons .val .nil))) ?_
                simp [unk, unA, unE, flat]
                refine callA_intro (c69 u c tl (g) (h) (by omega) (by omega) (by omega) (by omega)) (.cons .rptr (.cons .val (.cons .val .nil))) ?_
                simp [unk, unA, unE, flat]
                refine callA_intro (c69 u c tl (f) (ix (rx c.cs g) h) (by omega) (by omega) (d1.1) (by omega)) (.cons .rptr (.cons .val (.cons .val .nil))) ?_
                simp [unk, unA, unE, flat]
                exact hJ (ix (rx c.cs (ix (rx c.cs f) g)) h != ix (rx c.cs f) (ix (rx c.cs g) h)) (by simp [Cat.as, e1, e2]) _ (Wk.relabel [] (by simp) (by simp) (by rw [hP]; simp) (by simp) (by simp) (by simp) (by simp))
              · have d1 := (hs.cell' (f := g) (g := h) (by omega) (by omega) (by omega) (by omega)).1 e2
                simp [d1]
                exact hJ (false) (nope fun hp => hp fun _ q => absurd q e2) _ (Wk.relabel [] (by simp) (by simp) (by rw [hP]; simp) (by simp) (by simp) (by simp) (by simp))
            clear hK K
            refine w_cond rfl (fun g0 => ?_) fun g0 => ?_
            · refine w_sr mo (by rw [hN]; decide) fun K hK => ?_ -- region 18
              simp
              refine hK _ ?_
              clear hK K
              refine w_ret ?_
              rw [fault_at2 hf hg hh hi1 hi2 hi3 hi4 (hb.1 g0)]
              refine ⟨.one rfl rfl (.one rfl rfl (.one rfl rfl (.one rfl rfl .nil))), _, [], rfl, by simp, UpL.refl _⟩
            · have hc : c.as f g h := Classical.byContradiction fun hn => by rw [hb.2 hn] at g0; cases g0
              refine w_skip ?_
              refine w_run mo (by rw [hN]; decide) fun K hK => ?_ -- region 16
              simp
              refine hK _ ?_
              clear hK K
              rw [wrap_succ (n := c.fr.length) (by omega) (by omega)]
              refine ⟨h + 1, ⟨by omega, all_succ hi4 hc⟩, by dsimp only; omega, (Wk.relabel [] (by simp) (by simp) (by rw [hP]; simp) (by simp) (by simp) (by simp) (by simp))⟩
          · simp at g0
            have hh2 : c.fr.length ≤ h := by omega
            clear g0
            have hc : ∀ h : Nat, h < c.fr.length → c.as f g h := fun y hy => hi4 y (by omega)
            refine w_exit ?_
            simp
            refine w_run mo (by rw [hN]; decide) fun K hK => ?_ -- region 12
            simp
            refine hK _ ?_
            clear hK K
            rw [wrap_succ (n := c.fr.length) (by omega) (by omega)]
            refine ⟨g + 1, ⟨by omega, all_succ hi3 hc⟩, by dsimp only; omega, (Wk.relabel [] (by simp) (by simp) (by rw [hP]; simp) (by simp) (by simp) (by simp) (by simp))⟩
      · simp at h
        have hg2 : c.fr.length ≤ g := by omega
        clear h
        refine w_exit ?_
        simp
        refine w_run mo (by rw [hN]; decide) fun K hK => ?_ -- region 9
        simp
        refine hK _ ?_
        clear hK K
        rw [wrap_succ (n := c.fr.length) (by omega) (by omega)]
        refine ⟨f + 1, ⟨by omega, all_succ hi2 fun g hg h hh => hi3 g (by omega) h hh⟩, by dsimp only; omega, (Wk.relabel [] (by simp) (by simp) (by rw [hP]; simp) (by simp) (by simp) (by simp) (by simp))⟩
    · simp at h
      have hf2 : c.fr.length ≤ f := by omega
      clear h
      refine w_exit ?_
      simp
      refine w_sr mo (by rw [hN]; decide) fun K hK => ?_ -- region 19
      simp
      refine hK _ ?_
      clear hK K
      refine w_ret ?_
      rw [fault_none hi1 fun y hy => hi2 y (by omega)]
      refine ⟨.one rfl rfl (.one rfl rfl (.one rfl rfl (.one rfl rfl .nil))), _, [], rfl, by simp, UpL.refl _⟩

end Go.Vc.T

set_option maxRecDepth 100000
set_option linter.unusedSimpArgs false
set_option linter.unusedVariables false

namespace Go.Vc.T
open Go Go.Vc Go.Proofs

def Cat.Is (c : Cat) : Prop := c.Sh ∧ c.Law
theorem beq_bo {a : Int} {p : Prop} (h : a = 0 ↔ p) : Value.bool (a == 0) = Value.bool (bo p) := by
  by_cases hp : p
  · simp [bo, hp, h.2 hp]
  · have : a ≠ 0 := fun q => hp (h.1 q)
    simp [bo, hp, this]
theorem bo_not {p : Prop} (h : (!bo p) = true) : ¬ p := by simpa [bo] using h
theorem bo_yes {p : Prop} (h : (!bo p) = false) : p := by simpa [bo] using h

theorem c55 (u : Bool) (c : Cat) : Contract Try.prog 92 [.agg (c.cells u)] (.val (.bool (bo c.Is))) := by
  refine contract_intro (rs := [.val (.bool (bo c.Is))]) Try.func92 rfl rfl rfl rfl (by simp [Try.f92]) fun F hN hP => ?_
  refine w_sr mo (by rw [hN]; decide) fun K hK => ?_ -- region 0
  simp [Cat.cells]
  refine hK _ ?_
  clear hK K
  refine w_seq ?_
  refine w_sr mo (by rw [hN]; decide) fun K hK => ?_ -- region 1
  simp
  refine callA_intro (c63 u c) (.cons (.aggL Cat.pur) .nil) ?_
  simp [unk, unA, unE, flat]
  refine hK _ ?_
  clear hK K
  refine w_cond rfl (fun h => ?_) fun h => ?_
  · refine w_sr mo (by rw [hN]; decide) fun K hK => ?_ -- region 2
    simp
    refine hK _ ?_
    clear hK K
    refine w_ret (ret_val rfl (bo_f fun hs => ?_))
    exact bo_not h hs.1
  · have hs : c.Sh := bo_yes h
    refine w_skip ?_
    refine w_sr mo (by rw [hN]; decide) fun K hK => ?_ -- region 3
    simp
    refine callA_intro (c64 u c hs) (.cons (.aggL Cat.pur) .nil) ?_
    simp [unk, unA, unE, unT, flat, four]
    refine hK _ ?_
    clear hK K
    refine w_sr mo (by rw [hN]; decide) fun K hK => ?_ -- region 4
    simp
    refine hK _ ?_
    clear hK K
    refine w_ret (ret_val rfl (beq_bo ?_))
    exact ⟨fun q => ⟨hs, fault_zero.1 q⟩, fun q => fault_zero.2 q.2⟩

theorem c60 (u : Bool) (c : Cat) (tl : List AV) : Contract Try.prog 98 [.rptr (c.cells u ++ tl)] (.val (.bool (bo c.Is))) := by
  refine contract_intro (rs := [.val (.bool (bo c.Is))]) Try.func98 rfl rfl rfl rfl (by simp [Try.f98]) fun F hN hP => ?_
  refine w_sr mo (by rw [hN]; decide) fun K hK => ?_ -- region 0
  simp
  refine hK _ ?_
  clear hK K
  refine w_seq ?_
  refine w_sr mo (by rw [hN]; decide) fun K hK => ?_ -- region 1
  simp
  refine callA_intro (c65 u c tl) (.cons .rptr .nil) ?_
  simp [unk, unA, unE, flat]
  refine hK _ ?_
  clear hK K
  refine w_cond rfl (fun h => ?_) fun h => ?_
  · refine w_sr mo (by rw [hN]; decide) fun K hK => ?_ -- region 2
    simp
    refine hK _ ?_
    clear hK K
    refine w_ret (ret_val rfl (bo_f fun hs => ?_))
    exact bo_not h hs.1
  · have hs : c.Sh := bo_yes h
    refine w_skip ?_
    refine w_sr mo (by rw [hN]; decide) fun K hK => ?_ -- region 3
    simp
    refine callA_intro (c66 u c tl hs) (.cons .rptr .nil) ?_
    simp [unk, unA, unE, unT, flat, four]
    refine hK _ ?_
    clear hK K
    refine w_sr mo (by rw [hN]; decide) fun K hK => ?_ -- region 4
    simp
    refine hK _ ?_
    clear hK K
    refine w_ret (ret_val rfl (beq_bo ?_))
    exact ⟨fun q => ⟨hs, fault_zero.1 q⟩, fun q => fault_zero.2 q.2⟩

def SF.actOk (f : SF) (a : Nat) : Prop := ((rx f.ac a).length : Int) = ix f.sz (ix f.s.fr a) ∧ ∀ x ∈ rx f.ac a, inR (ix f.sz (ix f.s.to a)) x = true
structure SF.Sh (f : SF) : Prop where
  cat : f.s.Is
  ls : (f.sz.length : Int) = f.s.n
  la : f.ac.length = f.s.fr.length
  sz : ∀ x ∈ f.sz, inR 17 x = true
  act : ∀ a : Nat, a < f.ac.length → f.actOk a
def SF.P1 (f : SF) : Prop := f.s.Is ∧ (f.sz.length : Int) = f.s.n ∧ f.ac.length = f.s.fr.length
def SF.Q1 (f : SF) : Prop := f.s.Is ∧ (f.sz.length : Int) = f.s.n ∧ (∀ x ∈ f.sz, inR 17 x = true) ∧ f.ac.length = f.s.fr.length
theorem SF.Sh.P1 {f : SF} (h : f.Sh) : f.P1 := ⟨h.cat, h.ls, h.la⟩
theorem SF.Sh.Q1 {f : SF} (h : f.Sh) : f.Q1 := ⟨h.cat, h.ls, h.sz, h.la⟩
theorem ix_mem {xs : List Int} {P : Int → Prop} (h : ∀ j : Nat, j < xs.length → P (ix xs j)) : ∀ x ∈ xs, P x := by
  intro x hx
  obtain ⟨i, hi, rfl⟩ := List.getElem_of_mem hx
  have := h i hi
  rwa [← at_ix xs i hi] at this

theorem c39 (u : Bool) (f : SF) : Contract Try.prog 88 [.agg (f.cells u)] (.val (.bool (bo f.Sh))) := by
  refine contract_intro (rs := [.val (.bool (bo f.Sh))]) Try.func88 rfl rfl rfl rfl (by simp [Try.f88]) fun F hN hP => ?_
  refine w_sr mo (by rw [hN]; decide) fun K hK => ?_ -- region 0
  simp [SF.cells]
  refine hK _ ?_
  clear hK K
  refine w_seq ?_
  refine w_sr mo (by rw [hN]; decide) fun K hK => ?_ -- region 1
  refine join hK (fun b => ⟨[(1, .adr 0 0 0), (27, .val (.bool b))], [(0, .mix 7 [[.val (.int .i64 f.s.n), .lst u 1 (Is f.s.fr), .lst u 1 (Is f.s.to), .lst u 1 (Is f.s.id), .lst u 1 (Ls f.s.cs), .lst u 1 (Is f.sz), .lst u 1 (Ls f.ac)]])], 1⟩) (¬ f.P1) (fun hJ => ?_) fun b hb => ?_
  · simp
    refine callA_intro (c55 u f.s) (.cons (.aggL Cat.pur) .nil) ?_
    simp [unk, unA, unE, flat]
    refine ⟨fun b1 => ⟨fun b2 => ?_, fun b2 => ?_⟩, fun b1 => ?_⟩
    · exact hJ ((f.ac.length : Int) != f.s.fr.length) (by simp [SF.P1, b2]; simp [bo] at b1; grind) _ (Wk.relabel [(0, 0)] (by simp) (by simp) (by rw [hP]; simp) (by simp) (by simp) (by simp) (by simp))
    · exact hJ (true) (yes fun hp => b2 hp.2.1) _ (Wk.relabel [(0, 0)] (by simp) (by simp) (by rw [hP]; simp) (by simp) (by simp) (by simp) (by simp))
    · exact hJ (true) (yes fun hp => by simp [bo, hp.1] at b1) _ (Wk.relabel [(0, 0)] (by simp) (by simp) (by rw [hP]; simp) (by simp) (by simp) (by simp) (by simp))
  clear hK K
  refine w_cond rfl (fun h => ?_) fun h => ?_
  · refine w_sr mo (by rw [hN]; decide) fun K hK => ?_ -- region 2
    simp
    refine hK _ ?_
    clear hK K
    refine w_ret (ret_val rfl (bo_f fun hs => ?_))
    exact hb.1 h hs.P1
  · have p1 : f.P1 := Classical.byContradiction fun hn => by rw [hb.2 hn] at h; cases h
    have hS : f.s.Sh := p1.1.1
    have hl1 := hS.lt
    have hl2 := hS.li
    have hl3 : (f.sz.length : Int) = f.s.n := p1.2.1
    have hl4 : f.ac.length = f.s.fr.length := p1.2.2
    have hn8 := hS.n8
    have hm40 := hS.m40
    refine w_skip ?_
    refine w_seq ?_
    refine w_sr mo (by rw [hN]; decide) fun K hK => ?_ -- region 3
    simp
    refine hK _ ?_
    clear hK K
    refine w_block ?_
    refine w_loop (fun x : Nat => ⟨[(1, .adr 0 0 0), (3, .val (.int .i64 x))], [(0, .mix 7 [[.val (.int .i64 f.s.n), .lst u 1 (Is f.s.fr), .lst u 1 (Is f.s.to), .lst u 1 (Is f.s.id), .lst u 1 (Ls f.s.cs), .lst u 1 (Is f.sz), .lst u 1 (Ls f.ac)]])], 1⟩) (fun x => x ≤ f.sz.length ∧ ∀ y : Nat, y < x → inR 17 (ix f.sz y) = true) (fun x => f.sz.length - x) 0 (by simp) (Wk.relabel [(0, 0)] (by simp) (by simp) (by rw [hP]; simp) (by simp) (by simp) (by simp) (by simp)) ?_
    rintro x ⟨hx, hi0⟩
    refine w_seq ?_
    refine w_sr mo (by rw [hN]; decide) fun K hK => ?_ -- region 4
    simp
    refine hK _ ?_
    clear hK K
    refine w_cond rfl (fun h => ?_) fun h => ?_
    · simp at h
      have hx1 : x < f.sz.length := by omega
      clear h
      refine w_skip ?_
      refine w_seq ?_
      refine w_block ?_
      refine w_sr mo (by rw [hN]; decide) fun K hK => ?_ -- region 6
      simp [at_ix, at_rx, ix_max, rx_max, hx1]
      refine callA_intro (c56 (ix f.sz x) 0 16) (.cons .val (.cons .val (.cons .val .nil))) ?_
      simp [unk, unA, unE, flat]
      refine hK _ ?_
      clear hK K
      refine w_cond rfl (fun h => ?_) fun h => ?_
      · simp at h
        refine w_sr mo (by rw [hN]; decide) fun K hK => ?_ -- region 7
        simp
        refine hK _ ?_
        clear hK K
        refine w_ret (ret_val rfl (bo_f fun hs => ?_))
        have := all_ix hs.sz (j := x) (by omega) (by omega)
        grind
      · simp at h
        have hc : inR 17 (ix f.sz x) = true := by simp [inR]; omega
        refine w_skip ?_
        refine w_run mo (by rw [hN]; decide) fun K hK => ?_ -- region 5
        simp
        refine hK _ ?_
        clear hK K
        rw [wrap_succ (n := f.sz.length) (by omega) (by omega)]
        refine ⟨x + 1, ⟨by omega, all_succ hi0 hc⟩, by dsimp only; omega, (Wk.relabel [(0, 0)] (by simp) (by simp) (by rw [hP]; simp) (by simp) (by simp) (by simp) (by simp))⟩
    · simp at h
      have hx2 : f.sz.length ≤ x := by omega
      clear h
      have hi1 : ∀ y ∈ f.sz, inR 17 y = true := ix_mem fun y hy => hi0 y (by omega)
      refine w_exit ?_
      simp
      refine w_seq ?_
      refine w_sr mo (by rw [hN]; decide) fun K hK => ?_ -- region 8
      simp
      refine hK _ ?_
      clear hK K
      refine w_block ?_
      refine w_loop (fun a : Nat => ⟨[(1, .adr 0 0 0), (4, .val (.int .i64 a))], [(0, .mix 7 [[.val (.int .i64 f.s.n), .lst u 1 (Is f.s.fr), .lst u 1 (Is f.s.to), .lst u 1 (Is f.s.id), .lst u 1 (Ls f.s.cs), .lst u 1 (Is f.sz), .lst u 1 (Ls f.ac)]])], 1⟩) (fun a => a ≤ f.ac.length ∧ ∀ y : Nat, y < a → f.actOk y) (fun a => f.ac.length - a) 0 (by simp) (Wk.relabel [(0, 0)] (by simp) (by simp) (by rw [hP]; simp) (by simp) (by simp) (by simp) (by simp)) ?_
      rintro a ⟨ha0, hi2⟩
      refine w_seq ?_
      refine w_sr mo (by rw [hN]; decide) fun K hK => ?_ -- region 9
      simp
      refine hK _ ?_
      clear hK K
      refine w_cond rfl (fun h => ?_) fun h => ?_
      · simp at h
        have ha : a < f.ac.length := by omega
        clear h
        have a1 := hS.fr' (j := a) (by omega) (by omega)
        have a2 := hS.to' (j := a) (by omega) (by omega)
        refine w_skip ?_
        refine w_seq ?_
        refine w_block ?_
        refine w_sr mo (by rw [hN]; decide) fun K hK => ?_ -- region 11 DRAWN
        refine join hK (fun b => ⟨[(1, .adr 0 0 0), (4, .val (.int .i64 a)), (84, .val (.bool b))], [(0, .mix 7 [[.val (.int .i64 f.s.n), .lst u 1 (Is f.s.fr), .lst u 1 (Is f.s.to), .lst u 1 (Is f.s.id), .lst u 1 (Ls f.s.cs), .lst u 1 (Is f.sz), .lst u 1 (Ls f.ac)]])], 1⟩) (¬ f.actOk a) (fun hJ => ?_) fun b hb => ?_
        · simp [at_ix, at_rx, ix_max, rx_max, ha, hl1, a1.1, a2.1, show (a : Int) < f.s.fr.length by omega, show a < f.s.fr.length by omega, show ix f.s.fr a < f.sz.length by omega, show ix f.s.to a < f.sz.length by omega]
          refine ⟨fun b1 => ?_, fun b1 => ?_⟩
          · refine callA_intro (c57 true (rx f.ac a) (ix f.sz (ix f.s.to a))) (.cons .val (.cons .lst .nil)) ?_
            simp [unk, unA, unE, flat]
            exact hJ (!(rx f.ac a).all (inR (ix f.sz (ix f.s.to a)))) (by simp [SF.actOk, b1]) _ (Wk.relabel [(0, 0)] (by simp) (by simp) (by rw [hP]; simp) (by simp) (by simp) (by simp) (by simp))
          · exact hJ (true) (yes fun hp => b1 hp.1) _ (Wk.relabel [(0, 0)] (by simp) (by simp) (by rw [hP]; simp) (by simp) (by simp) (by simp) (by simp))
        clear hK K
        refine w_cond rfl (fun h => ?_) fun h => ?_
        · refine w_sr mo (by rw [hN]; decide) fun K hK => ?_ -- region 12
          simp
          refine hK _ ?_
          clear hK K
          refine w_ret (ret_val rfl (bo_f fun hs => ?_))
          exact hb.1 h (hs.act a ha)
        · have hc : f.actOk a := Classical.byContradiction fun hn => by rw [hb.2 hn] at h; cases h
          refine w_skip ?_
          refine w_run mo (by rw [hN]; decide) fun K hK => ?_ -- region 10
          simp
          refine hK _ ?_
          clear hK K
          rw [wrap_succ (n := f.ac.length) (by omega) (by omega)]
          refine ⟨a + 1, ⟨by omega, all_succ hi2 hc⟩, by dsimp only; omega, (Wk.relabel [(0, 0)] (by simp) (by simp) (by rw [hP]; simp) (by simp) (by simp) (by simp) (by simp))⟩
      · simp at h
        have ha2 : f.ac.length ≤ a := by omega
        clear h
        refine w_exit ?_
        simp
        refine w_sr mo (by rw [hN]; decide) fun K hK => ?_ -- region 13
        simp
        refine hK _ ?_
        clear hK K
        refine w_ret (ret_val rfl (bo_t ?_))
        exact ⟨p1.1, hl3, hl4, hi1, fun y hy => hi2 y (by omega)⟩

theorem c44 (u : Bool) (f : SF) : Contract Try.prog 94 [.rptr (f.cells u)] (.val (.bool (bo f.Sh))) := by
  refine contract_intro (rs := [.val (.bool (bo f.Sh))]) Try.func94 rfl rfl rfl rfl (by simp [Try.f94]) fun F hN hP => ?_
  simp only [SF.cells]
  refine w_sr mo (by rw [hN]; decide) fun K hK => ?_ -- region 0
  simp
  refine hK _ ?_
  clear hK K
  refine w_sr mo (by rw [hN]; decide) fun K hK => ?_ -- region 1
  simp
  refine hK _ ?_
  clear hK K
  refine w_seq ?_
  refine w_sr mo (by rw [hN]; decide) fun K hK => ?_ -- region 2 DRAWN
  refine join hK (fun b => ⟨[(0, .rptr [.val (.int .i64 f.s.n), .lst u 1 (Is f.s.fr), .lst u 1 (Is f.s.to), .lst u 1 (Is f.s.id), .lst u 1 (Ls f.s.cs), .lst u 1 (Is f.sz), .lst u 1 (Ls f.ac)]), (3, .rptr [.val (.int .i64 f.s.n), .lst u 1 (Is f.s.fr), .lst u 1 (Is f.s.to), .lst u 1 (Is f.s.id), .lst u 1 (Ls f.s.cs), .lst u 1 (Is f.sz), .lst u 1 (Ls f.ac)]), (41, .val (.bool b))], [], 0⟩) (¬ f.Q1) (fun hJ => ?_) fun b hb => ?_
  · simp
    refine callA_intro (c60 u f.s [.lst u 1 (Is f.sz), .lst u 1 (Ls f.ac)]) (.cons .rptr .nil) ?_
    simp [unk, unA, unE, flat]
    refine ⟨fun b1 => ⟨fun b2 => ?_, fun b2 => ?_⟩, fun b1 => ?_⟩
    · refine callA_intro (c22 u f.sz 17 ⟨by omega, by omega⟩) (.cons .lst (.cons .val .nil)) ?_
      simp [unk, unA, unE, flat]
      refine ⟨fun b3 => ?_, fun b3 => ?_⟩
      · refine callA_intro (c61 u f.s [.lst u 1 (Is f.sz), .lst u 1 (Ls f.ac)]) (.cons .rptr .nil) ?_
        simp [unk, unA, unE, flat]
        exact hJ ((f.ac.length : Int) != f.s.fr.length) (by simp [SF.Q1, b2]; simp [bo] at b1; grind) _ (Wk.relabel [] (by simp) (by simp) (by rw [hP]; simp) (by simp) (by simp) (by simp) (by simp))
      · intros
        exact hJ (true) (yes fun hp => by simp [SF.Q1] at hp; grind) _ (Wk.relabel [] (by simp) (by simp) (by rw [hP]; simp) (by simp) (by simp) (by simp) (by simp))
    · exact hJ (true) (yes fun hp => b2 hp.2.1) _ (Wk.relabel [] (by simp) (by simp) (by rw [hP]; simp) (by simp) (by simp) (by simp) (by simp))
    · exact hJ (true) (yes fun hp => by simp [bo, hp.1] at b1) _ (Wk.relabel [] (by simp) (by simp) (by rw [hP]; simp) (by simp) (by simp) (by simp) (by simp))
  clear hK K
  refine w_cond rfl (fun h => ?_) fun h => ?_
  · refine w_sr mo (by rw [hN]; decide) fun K hK => ?_ -- region 3
    simp
    refine hK _ ?_
    clear hK K
    refine w_ret (ret_val rfl (bo_f fun hs => ?_))
    exact hb.1 h hs.Q1
  · have p1 : f.Q1 := Classical.byContradiction fun hn => by rw [hb.2 hn] at h; cases h
    have hS : f.s.Sh := p1.1.1
    have hl1 := hS.lt
    have hl2 := hS.li
    have hl3 : (f.sz.length : Int) = f.s.n := p1.2.1
    have hl4 : f.ac.length = f.s.fr.length := p1.2.2.2
    have hn8 := hS.n8
    have hm40 := hS.m40
    refine w_skip ?_
    refine w_seq ?_
    refine w_sr mo (by rw [hN]; decide) fun K hK => ?_ -- region 4
    simp
    refine hK _ ?_
    clear hK K
    refine w_block ?_
    refine w_loop (fun a : Nat => ⟨[(0, .rptr [.val (.int .i64 f.s.n), .lst u 1 (Is f.s.fr), .lst u 1 (Is f.s.to), .lst u 1 (Is f.s.id), .lst u 1 (Ls f.s.cs), .lst u 1 (Is f.sz), .lst u 1 (Ls f.ac)]), (3, .rptr [.val (.int .i64 f.s.n), .lst u 1 (Is f.s.fr), .lst u 1 (Is f.s.to), .lst u 1 (Is f.s.id), .lst u 1 (Ls f.s.cs), .lst u 1 (Is f.sz), .lst u 1 (Ls f.ac)]), (45, .lst u 1 (Ls f.ac)), (46, .val (.int .i64 f.ac.length)), (47, .val (.int .i64 a))], [], 0⟩) (fun a => a ≤ f.ac.length ∧ ∀ y : Nat, y < a → f.actOk y) (fun a => f.ac.length - a) 0 (by simp) (Wk.relabel [] (by simp) (by simp) (by rw [hP]; simp) (by simp) (by simp) (by simp) (by simp)) ?_
    rintro a ⟨ha0, hi2⟩
    refine w_sr mo (by rw [hN]; decide) fun K hK => ?_ -- region 5
    simp
    refine hK _ ?_
    clear hK K
    refine w_seq ?_
    refine w_cond rfl (fun h => ?_) fun h => ?_
    · simp at h
      have ha : a < f.ac.length := by omega
      clear h
      have a1 := hS.fr' (j := a) (by omega) (by omega)
      have a2 := hS.to' (j := a) (by omega) (by omega)
      have a3 := all_ix p1.2.2.1 (j := ix f.s.to a) (by omega) (by omega)
      refine w_skip ?_
      refine w_seq ?_
      refine w_block ?_
      refine w_sr mo (by rw [hN]; decide) fun K hK => ?_ -- region 6
      simp [at_ix, at_rx, ix_max, rx_max, ha]
      refine hK _ ?_
      clear hK K
      refine w_sr mo (by rw [hN]; decide) fun K hK => ?_ -- region 7 DRAWN
      simp [at_ix, at_rx, ix_max, rx_max, ha, hl1, a1.1, a2.1, show (a : Int) < f.s.fr.length by omega, show a < f.s.fr.length by omega, show ix f.s.fr a < f.sz.length by omega, show ix f.s.to a < f.sz.length by omega]
      refine callA_intro (c62 true (rx f.ac a) (ix f.sz (ix f.s.fr a)) (ix f.sz (ix f.s.to a)) ⟨by omega, by omega⟩) (.cons .lst (.cons .val (.cons .val .nil))) ?_
      simp [unk, unA, unE, flat]
      refine hK _ ?_
      clear hK K
      refine w_cond rfl (fun h => ?_) fun h => ?_
      · have hn : ¬ f.actOk a := by simp [SF.actOk]; simp at h; grind
        refine w_sr mo (by rw [hN]; decide) fun K hK => ?_ -- region 8
        simp
        refine hK _ ?_
        clear hK K
        refine w_ret (ret_val rfl (bo_f fun hs => ?_))
        exact hn (hs.act a ha)
      · have hc : f.actOk a := by simp [SF.actOk]; simp at h; grind
        refine w_skip ?_
        refine w_run mo (by rw [hN]; decide) fun K hK => ?_ -- region 9
        simp
        refine hK _ ?_
        clear hK K
        rw [wrap_succ (n := f.ac.length) (by omega) (by omega)]
        refine ⟨a + 1, ⟨by omega, all_succ hi2 hc⟩, by dsimp only; omega, (Wk.relabel [] (by simp) (by simp) (by rw [hP]; simp) (by simp) (by simp) (by simp) (by simp))⟩
    · simp at h
      have ha2 : f.ac.length ≤ a := by omega
      clear h
      refine w_exit ?_
      simp
      refine w_sr mo (by rw [hN]; decide) fun K hK => ?_ -- region 10
      simp
      refine hK _ ?_
      clear hK K
      refine w_ret (ret_val rfl (bo_t ?_))
      exact ⟨p1.1, hl3, hl4, p1.2.2.1, fun y hy => hi2 y (by omega)⟩

end Go.Vc.T


namespace Go.Vc.T
open Go Go.Vc Go.Proofs

def SF.un (f : SF) (x e : Nat) : Prop := ix (rx f.ac (ix f.s.id x)) e = e
def SF.as (f : SF) (a b e : Nat) : Prop := ix f.s.to a = ix f.s.fr b → ix (rx f.ac (ix (rx f.s.cs a) b)) e = ix (rx f.ac b) (ix (rx f.ac a) e)
def SF.lu (f : SF) (x : Nat) : Nat := (rx f.ac (ix f.s.id x)).length
def SF.la (f : SF) (a : Nat) : Nat := (rx f.ac a).length

open Classical in
noncomputable def SF.f1 (f : SF) (x e : Nat) : Option (Int × Int × Int × Int) := if f.un x e then none else some (1, (x : Int), (e : Int), 0)
open Classical in
noncomputable def SF.f2 (f : SF) (a b e : Nat) : Option (Int × Int × Int × Int) := if f.as a b e then none else some (2, (a : Int), (b : Int), (e : Int))
noncomputable def SF.fault (f : SF) : Option (Int × Int × Int × Int) := match first (fun x => first (fun e => f.f1 x e) (f.lu x)) f.s.id.length with
  | some x => some x
  | none => first (fun a => first (fun b => first (fun e => f.f2 a b e) (f.la a)) f.s.fr.length) f.s.fr.length

def SF.Law (f : SF) : Prop := (∀ x, x < f.s.id.length → ∀ e, e < f.lu x → f.un x e) ∧ ∀ a, a < f.s.fr.length → ∀ b, b < f.s.fr.length → ∀ e, e < f.la a → f.as a b e

section
variable {f : SF}
theorem sfault_at1 {x e : Nat} (hx : x < f.s.id.length) (he : e < f.lu x) (h1 : ∀ y, y < x → ∀ e, e < f.lu y → f.un y e) (h2 : ∀ y, y < e → f.un x y) (h3 : ¬ f.un x e) : f.fault = some (1, (x : Int), (e : Int), 0) := by
  unfold SF.fault
  rw [first_some (i := x) (a := (1, (x : Int), (e : Int), 0)) (fun j hj => first_none fun e he => by simp [SF.f1, h1 j hj e he]) (first_some (i := e) (fun j hj => by simp [SF.f1, h2 j hj]) (by simp [SF.f1, h3]) he) hx]
theorem sf_un0 (h0 : ∀ x, x < f.s.id.length → ∀ e, e < f.lu x → f.un x e) : first (fun x => first (fun e => f.f1 x e) (f.lu x)) f.s.id.length = none :=
  first_none fun j hj => first_none fun e he => by simp [SF.f1, h0 j hj e he]
theorem sfault_at2 {a b e : Nat} (ha : a < f.s.fr.length) (hb : b < f.s.fr.length) (he : e < f.la a) (h0 : ∀ x, x < f.s.id.length → ∀ e, e < f.lu x → f.un x e) (h1 : ∀ y, y < a → ∀ b, b < f.s.fr.length → ∀ e, e < f.la y → f.as y b e)
    (h2 : ∀ y, y < b → ∀ e, e < f.la a → f.as a y e) (h3 : ∀ y, y < e → f.as a b y) (h4 : ¬ f.as a b e) : f.fault = some (2, (a : Int), (b : Int), (e : Int)) := by
  unfold SF.fault
  rw [sf_un0 h0]
  simp only
  refine first_some (i := a) (fun j hj => first_none fun g hg => first_none fun h hh => by simp [SF.f2, h1 j hj g hg h hh]) ?_ ha
  refine first_some (i := b) (fun j hj => first_none fun h hh => by simp [SF.f2, h2 j hj h hh]) ?_ hb
  refine first_some (i := e) (fun j hj => by simp [SF.f2, h3 j hj]) ?_ he
  simp [SF.f2, h4]
theorem sfault_none (h0 : ∀ x, x < f.s.id.length → ∀ e, e < f.lu x → f.un x e) (h1 : ∀ y, y < f.s.fr.length → ∀ b, b < f.s.fr.length → ∀ e, e < f.la y → f.as y b e) : f.fault = none := by
  unfold SF.fault
  rw [sf_un0 h0]
  exact first_none fun a ha => first_none fun g hg => first_none fun h hh => by simp [SF.f2, h1 a ha g hg h hh]

theorem first_key {α : Type} (Q : α → Prop) {p : Nat → Option α} (hp : ∀ i a, p i = some a → Q a) : ∀ n a, first p n = some a → Q a := by
  intro n
  induction n with
  | zero => intro a h; cases h
  | succ n ih =>
    intro a h
    simp only [first] at h
    split at h
    · rename_i x hx; cases h; exact ih _ hx
    · exact hp _ _ h

theorem sfault_zero : (f.fault.getD (0, 0, 0, 0)).1 = 0 ↔ f.Law := by
  refine ⟨fun h => ?_, fun h => by rw [sfault_none h.1 h.2]; rfl⟩
  unfold SF.fault at h
  cases hq : first (fun x => first (fun e => f.f1 x e) (f.lu x)) f.s.id.length with
  | some x =>
    rw [hq] at h
    have := first_key (fun x : Int × Int × Int × Int => x.1 = 1) (fun x a ha => first_key (fun x : Int × Int × Int × Int => x.1 = 1) (fun e a ha => by
      simp only [SF.f1] at ha
      split at ha
      · cases ha
      · cases ha; rfl) _ _ ha) _ _ hq
    simp [this] at h
  | none =>
    rw [hq] at h
    simp only at h
    cases hr : first (fun a => first (fun b => first (fun e => f.f2 a b e) (f.la a)) f.s.fr.length) f.s.fr.length with
    | some x =>
      rw [hr] at h
      have := first_key (fun x : Int × Int × Int × Int => x.1 = 2) (fun x a ha => first_key (fun x : Int × Int × Int × Int => x.1 = 2) (fun e a ha => first_key (fun x : Int × Int × Int × Int => x.1 = 2) (fun e a ha => by
        simp only [SF.f2] at ha
        split at ha
        · cases ha
        · cases ha; rfl) _ _ ha) _ _ ha) _ _ hr
      simp [this] at h
    | none =>
      refine ⟨fun x hx e he => ?_, fun a ha b hb e he => ?_⟩
      · have := first_out (first_out hq x hx) e he
        simpa [SF.f1] using this
      · have := first_out (first_out (first_out hr a ha) b hb) e he
        simpa [SF.f2] using this

theorem SF.Sh.len' (hs : f.Sh) {j : Int} (h0 : 0 ≤ j) (h1 : j < f.s.fr.length) : ((rx f.ac j).length : Int) = ix f.sz (ix f.s.fr j) := by
  have := (hs.act j.toNat (by have := hs.la; omega)).1
  rwa [Int.toNat_of_nonneg h0] at this
theorem SF.Sh.val' (hs : f.Sh) {j e : Int} (h0 : 0 ≤ j) (h1 : j < f.s.fr.length) (h2 : 0 ≤ e) (h3 : e < (rx f.ac j).length) : 0 ≤ ix (rx f.ac j) e ∧ ix (rx f.ac j) e < ix f.sz (ix f.s.to j) := by
  have := (hs.act j.toNat (by have := hs.la; omega)).2
  rw [Int.toNat_of_nonneg h0] at this
  exact all_ix this h2 h3
end

theorem c40 (u : Bool) (f : SF) (hs : f.Sh) : Contract Try.prog 89 [.agg (f.cells u)] (.tup (four f.fault)) := by
  refine contract_intro (rs := four f.fault) Try.func89 rfl rfl rfl rfl (by simp [Try.f89]) fun F hN hP => ?_
  have hC := hs.cat.1
  have hl1 := hC.lt
  have hl2 := hC.li
  have hl3 := hs.ls
  have hl4 := hs.la
  have hl5 := hC.lc
  have hm40 := hC.m40
  have hn8 := hC.n8
  refine w_sr mo (by rw [hN]; decide) fun K hK => ?_ -- region 0
  simp [SF.cells]
  refine hK _ ?_
  clear hK K
  refine w_sr mo (by rw [hN]; decide) fun K hK => ?_ -- region 1
  simp
  refine hK _ ?_
  clear hK K
  refine w_seq ?_
  refine w_sr mo (by rw [hN]; decide) fun K hK => ?_ -- region 2
  simp
  refine hK _ ?_
  clear hK K
  refine w_block ?_
  refine w_loop (fun x : Nat => ⟨[(1, .adr 0 0 0), (6, .adr 1 0 0), (7, .val (.int .i64 x))], [(0, .mix 7 [[.val (.int .i64 f.s.n), .lst u 1 (Is f.s.fr), .lst u 1 (Is f.s.to), .lst u 1 (Is f.s.id), .lst u 1 (Ls f.s.cs), .lst u 1 (Is f.sz), .lst u 1 (Ls f.ac)]]), (1, .mix 5 [[.val (.int .i64 f.s.n), .lst u 1 (Is f.s.fr), .lst u 1 (Is f.s.to), .lst u 1 (Is f.s.id), .lst u 1 (Ls f.s.cs)]])], 2⟩) (fun x => x ≤ f.s.id.length ∧ ∀ y : Nat, y < x → ∀ e : Nat, e < f.lu y → f.un y e) (fun x => f.s.id.length - x) 0 (by simp) (Wk.rel [(0, 0), (1, 1)] (by simp) (by simp) (by rw [hP]; simp) (by simp) (by simp) (by simp) (by simp [hhOk, back])) ?_
  rintro x ⟨hx0, hi0⟩
  refine w_seq ?_
  refine w_sr mo (by rw [hN]; decide) fun K hK => ?_ -- region 3
  simp
  refine hK _ ?_
  clear hK K
  refine w_cond rfl (fun h => ?_) fun h => ?_
  · simp at h
    have hx : x < f.s.id.length := by omega
    clear h
    have c1 := hC.id' (j := x) (by omega) (by omega)
    have c2 := hC.ids x hx
    have c3 := hs.len' c1.1 c1.2
    rw [c2.1] at c3
    have c4 : (f.lu x : Int) = ix f.sz x := c3
    have c5 := all_ix hs.sz (j := x) (by omega) (by omega)
    refine w_skip ?_
    refine w_seq ?_
    refine w_block ?_
    refine w_sr mo (by rw [hN]; decide) fun K hK => ?_ -- region 5
    simp
    refine hK _ ?_
    clear hK K
    refine w_block ?_
    refine w_loop (fun e : Nat => ⟨[(1, .adr 0 0 0), (6, .adr 1 0 0), (7, .val (.int .i64 x)), (8, .val (.int .i64 e))], [(0, .mix 7 [[.val (.int .i64 f.s.n), .lst u 1 (Is f.s.fr), .lst u 1 (Is f.s.to), .lst u 1 (Is f.s.id), .lst u 1 (Ls f.s.cs), .lst u 1 (Is f.sz), .lst u 1 (Ls f.ac)]]), (1, .mix 5 [[.val (.int .i64 f.s.n), .lst u 1 (Is f.s.fr), .lst u 1 (Is f.s.to), .lst u 1 (Is f.s.id), .lst u 1 (Ls f.s.cs)]])], 2⟩) (fun e => e ≤ f.lu x ∧ ∀ y : Nat, y < e → f.un x y) (fun e => f.lu x - e) 0 (by simp) (Wk.rel [(0, 0), (1, 1)] (by simp) (by simp) (by rw [hP]; simp) (by simp) (by simp) (by simp) (by simp [hhOk, back])) ?_
    rintro e ⟨he0, hi2⟩
    refine w_seq ?_
    refine w_sr mo (by rw [hN]; decide) fun K hK => ?_ -- region 6
    simp [at_ix, at_rx, ix_max, rx_max, show x < f.sz.length by omega]
    refine hK _ ?_
    clear hK K
    refine w_cond rfl (fun h => ?_) fun h => ?_
    · simp at h
      have he : e < f.lu x := by first | omega | (simp only [SF.lu]; omega)
      clear h
      have he3 : e < (rx f.ac (ix f.s.id x)).length := he
      refine w_skip ?_
      refine w_seq ?_
      refine w_block ?_
      refine w_sr mo (by rw [hN]; decide) fun K hK => ?_ -- region 8 DRAWN
      simp [at_ix, at_rx, ix_max, rx_max, hl1, hl4, hl5, hx, c1.1, c1.2, he3]
      refine hK _ ?_
      clear hK K
      refine w_cond rfl (fun h => ?_) fun h => ?_
      · simp at h
        have hn : ¬ f.un x e := h
        refine w_sr mo (by rw [hN]; decide) fun K hK => ?_ -- region 9
        simp
        refine hK _ ?_
        clear hK K
        refine w_ret ?_
        rw [sfault_at1 hx he hi0 hi2 hn]
        refine ⟨.one rfl rfl (.one rfl rfl (.one rfl rfl (.one rfl rfl .nil))), _, [], rfl, by simp, UpL.refl _⟩
      · simp at h
        have hc : f.un x e := h
        refine w_skip ?_
        refine w_run mo (by rw [hN]; decide) fun K hK => ?_ -- region 7
        simp
        refine hK _ ?_
        clear hK K
        rw [wrap_succ (n := f.lu x) (by omega) (by omega)]
        refine ⟨e + 1, ⟨by omega, all_succ hi2 hc⟩, by dsimp only; omega, (Wk.rel [(0, 0), (1, 1)] (by simp) (by simp) (by rw [hP]; simp) (by simp) (by simp) (by simp) (by simp [hhOk, back]))⟩
    · simp at h
      have he2 : f.lu x ≤ e := by first | omega | (simp only [SF.lu]; omega)
      clear h
      refine w_exit ?_
      simp
      refine w_run mo (by rw [hN]; decide) fun K hK => ?_ -- region 4
      simp
      refine hK _ ?_
      clear hK K
      rw [wrap_succ (n := f.s.id.length) (by omega) (by omega)]
      refine ⟨x + 1, ⟨by omega, all_succ hi0 fun y hy => hi2 y (by omega)⟩, by dsimp only; omega, (Wk.rel [(0, 0), (1, 1)] (by simp) (by simp) (by rw [hP]; simp) (by simp) (by simp) (by simp) (by simp [hhOk, back]))⟩
  · simp at h
    have hx2 : f.s.id.length ≤ x := by omega
    clear h
    have hi1 : ∀ y : Nat, y < f.s.id.length → ∀ e : Nat, e < f.lu y → f.un y e := fun y hy => hi0 y (by omega)
    refine w_exit ?_
    simp
    refine w_seq ?_
    refine w_sr mo (by rw [hN]; decide) fun K hK => ?_ -- region 10
    simp
    refine hK _ ?_
    clear hK K
    refine w_block ?_
    refine w_loop (fun a : Nat => ⟨[(1, .adr 0 0 0), (6, .adr 1 0 0), (9, .val (.int .i64 a))], [(0, .mix 7 [[.val (.int .i64 f.s.n), .lst u 1 (Is f.s.fr), .lst u 1 (Is f.s.to), .lst u 1 (Is f.s.id), .lst u 1 (Ls f.s.cs), .lst u 1 (Is f.sz), .lst u 1 (Ls f.ac)]]), (1, .mix 5 [[.val (.int .i64 f.s.n), .lst u 1 (Is f.s.fr), .lst u 1 (Is f.s.to), .lst u 1 (Is f.s.id), .lst u 1 (Ls f.s.cs)]])], 2⟩) (fun a => a ≤ f.s.fr.length ∧ ∀ y : Nat, y < a → ∀ b : Nat, b < f.s.fr.length → ∀ e : Nat, e < f.la y → f.as y b e) (fun a => f.s.fr.length - a) 0 (by simp) (Wk.rel [(0, 0), (1, 1)] (by simp) (by simp) (by rw [hP]; simp) (by simp) (by simp) (by simp) (by simp [hhOk, back])) ?_
    clear hi0 hx2 hx0 x
    rintro a ⟨ha0, hi3⟩
    refine w_seq ?_
    refine w_sr mo (by rw [hN]; decide) fun K hK => ?_ -- region 11
    simp
    refine hK _ ?_
    clear hK K
    refine w_cond rfl (fun h => ?_) fun h => ?_
    · simp at h
      have ha : a < f.s.fr.length := by omega
      clear h
      have c1 := hC.fr' (j := a) (by omega) (by omega)
      have c2 := hC.row' (j := a) (by omega) (by omega)
      have c3 : (f.la a : Int) = ix f.sz (ix f.s.fr a) := hs.len' (j := a) (by omega) (by omega)
      have c5 := all_ix hs.sz (j := ix f.s.fr a) (by omega) (by omega)
      refine w_skip ?_
      refine w_seq ?_
      refine w_block ?_
      refine w_sr mo (by rw [hN]; decide) fun K hK => ?_ -- region 13
      simp
      refine hK _ ?_
      clear hK K
      refine w_block ?_
      refine w_loop (fun b : Nat => ⟨[(1, .adr 0 0 0), (6, .adr 1 0 0), (9, .val (.int .i64 a)), (10, .val (.int .i64 b))], [(0, .mix 7 [[.val (.int .i64 f.s.n), .lst u 1 (Is f.s.fr), .lst u 1 (Is f.s.to), .lst u 1 (Is f.s.id), .lst u 1 (Ls f.s.cs), .lst u 1 (Is f.sz), .lst u 1 (Ls f.ac)]]), (1, .mix 5 [[.val (.int .i64 f.s.n), .lst u 1 (Is f.s.fr), .lst u 1 (Is f.s.to), .lst u 1 (Is f.s.id), .lst u 1 (Ls f.s.cs)]])], 2⟩) (fun b => b ≤ f.s.fr.length ∧ ∀ y : Nat, y < b → ∀ e : Nat, e < f.la a → f.as a y e) (fun b => f.s.fr.length - b) 0 (by simp) (Wk.rel [(0, 0), (1, 1)] (by simp) (by simp) (by rw [hP]; simp) (by simp) (by simp) (by simp) (by simp [hhOk, back])) ?_
      rintro b ⟨hb0, hi4⟩
      refine w_seq ?_
      refine w_sr mo (by rw [hN]; decide) fun K hK => ?_ -- region 14
      simp
      refine hK _ ?_
      clear hK K
      refine w_cond rfl (fun h => ?_) fun h => ?_
      · simp at h
        have hb : b < f.s.fr.length := by omega
        clear h
        refine w_skip ?_
        refine w_seq ?_
        refine w_block ?_
        refine w_seq ?_
        refine w_sr mo (by rw [hN]; decide) fun K hK => ?_ -- region 16 DRAWN
        simp [at_ix, at_rx, ix_max, rx_max, hl1, hl4, hl5, ha, hb]
        refine hK _ ?_
        clear hK K
        refine w_cond rfl (fun e1 => ?_) fun e1 => ?_
        · simp at e1
          have hc : ∀ e : Nat, e < f.la a → f.as a b e := fun e _ q => absurd q e1
          refine w_exit ?_
          simp
          refine w_run mo (by rw [hN]; decide) fun K hK => ?_ -- region 15
          simp
          refine hK _ ?_
          clear hK K
          rw [wrap_succ (n := f.s.fr.length) (by omega) (by omega)]
          refine ⟨b + 1, ⟨by omega, all_succ hi4 hc⟩, by dsimp only; omega, (Wk.rel [(0, 0), (1, 1)] (by simp) (by simp) (by rw [hP]; simp) (by simp) (by simp) (by simp) (by simp [hhOk, back]))⟩
        · simp at e1
          have d0 := (hC.cell' (f := a) (g := b) (by omega) (by omega) (by omega) (by omega)).2 e1
          have d1 := hs.len' (j := b) (by omega) (by omega)
          have d2 := hs.len' d0.1 d0.2.1
          rw [d0.2.2.1] at d2
          rw [← e1] at d1
          refine w_skip ?_
          refine w_sr mo (by rw [hN]; decide) fun K hK => ?_ -- region 17
          simp
          refine hK _ ?_
          clear hK K
          refine w_block ?_
          refine w_loop (fun e : Nat => ⟨[(1, .adr 0 0 0), (6, .adr 1 0 0), (9, .val (.int .i64 a)), (10, .val (.int .i64 b)), (11, .val (.int .i64 e))], [(0, .mix 7 [[.val (.int .i64 f.s.n), .lst u 1 (Is f.s.fr), .lst u 1 (Is f.s.to), .lst u 1 (Is f.s.id), .lst u 1 (Ls f.s.cs), .lst u 1 (Is f.sz), .lst u 1 (Ls f.ac)]]), (1, .mix 5 [[.val (.int .i64 f.s.n), .lst u 1 (Is f.s.fr), .lst u 1 (Is f.s.to), .lst u 1 (Is f.s.id), .lst u 1 (Ls f.s.cs)]])], 2⟩) (fun e => e ≤ f.la a ∧ ∀ y : Nat, y < e → f.as a b y) (fun e => f.la a - e) 0 (by simp) (Wk.rel [(0, 0), (1, 1)] (by simp) (by simp) (by rw [hP]; simp) (by simp) (by simp) (by simp) (by simp [hhOk, back])) ?_
          rintro e ⟨he0, hi5⟩
          refine w_seq ?_
          refine w_sr mo (by rw [hN]; decide) fun K hK => ?_ -- region 18 DRAWN
          simp [at_ix, at_rx, ix_max, rx_max, hl1, hl4, hl5, ha, c1.1, c1.2, show ix f.s.fr a < f.sz.length by omega]
          refine hK _ ?_
          clear hK K
          refine w_cond rfl (fun h => ?_) fun h => ?_
          · simp at h
            have he : e < f.la a := by first | omega | (simp only [SF.la]; omega)
            clear h
            have he3 : e < (rx f.ac a).length := he
            have d3 := hs.val' (j := a) (e := e) (by omega) (by omega) (by omega) (by simp only [SF.la] at he; omega)
            refine w_skip ?_
            refine w_seq ?_
            refine w_block ?_
            refine w_sr mo (by rw [hN]; decide) fun K hK => ?_ -- region 20 DRAWN
            simp [at_ix, at_rx, ix_max, rx_max, hl1, hl4, hl5, c2, ha, hb, d0.1, d3.1, he3, d0.2.1, show ix (rx f.ac a) e < (rx f.ac b).length by omega, show e < (rx f.ac (ix (rx f.s.cs a) b)).length by omega]
            refine hK _ ?_
            clear hK K
            refine w_cond rfl (fun h => ?_) fun h => ?_
            · simp at h
              have hn : ¬ f.as a b e := fun q => h (q e1)
              refine w_sr mo (by rw [hN]; decide) fun K hK => ?_ -- region 21
              simp
              refine hK _ ?_
              clear hK K
              refine w_ret ?_
              rw [sfault_at2 ha hb he hi1 hi3 hi4 hi5 hn]
              refine ⟨.one rfl rfl (.one rfl rfl (.one rfl rfl (.one rfl rfl .nil))), _, [], rfl, by simp, UpL.refl _⟩
            · simp at h
              have hc : f.as a b e := fun _ => h
              refine w_skip ?_
              refine w_run mo (by rw [hN]; decide) fun K hK => ?_ -- region 19
              simp
              refine hK _ ?_
              clear hK K
              rw [wrap_succ (n := f.la a) (by omega) (by omega)]
              refine ⟨e + 1, ⟨by omega, all_succ hi5 hc⟩, by dsimp only; omega, (Wk.rel [(0, 0), (1, 1)] (by simp) (by simp) (by rw [hP]; simp) (by simp) (by simp) (by simp) (by simp [hhOk, back]))⟩
          · simp at h
            have he2 : f.la a ≤ e := by first | omega | (simp only [SF.la]; omega)
            clear h
            have hc : ∀ e : Nat, e < f.la a → f.as a b e := fun y hy => hi5 y (by omega)
            refine w_exit ?_
            simp
            refine w_run mo (by rw [hN]; decide) fun K hK => ?_ -- region 15
            simp
            refine hK _ ?_
            clear hK K
            rw [wrap_succ (n := f.s.fr.length) (by omega) (by omega)]
            refine ⟨b + 1, ⟨by omega, all_succ hi4 hc⟩, by dsimp only; omega, (Wk.rel [(0, 0), (1, 1)] (by simp) (by simp) (by rw [hP]; simp) (by simp) (by simp) (by simp) (by simp [hhOk, back]))⟩
      · simp at h
        have hb2 : f.s.fr.length ≤ b := by omega
        clear h
        refine w_exit ?_
        simp
        refine w_run mo (by rw [hN]; decide) fun K hK => ?_ -- region 12
        simp
        refine hK _ ?_
        clear hK K
        rw [wrap_succ (n := f.s.fr.length) (by omega) (by omega)]
        refine ⟨a + 1, ⟨by omega, all_succ hi3 fun y hy => hi4 y (by omega)⟩, by dsimp only; omega, (Wk.rel [(0, 0), (1, 1)] (by simp) (by simp) (by rw [hP]; simp) (by simp) (by simp) (by simp) (by simp [hhOk, back]))⟩
    · simp at h
      have ha2 : f.s.fr.length ≤ a := by omega
      clear h
      refine w_exit ?_
      simp
      refine w_sr mo (by rw [hN]; decide) fun K hK => ?_ -- region 22
      simp
      refine hK _ ?_
      clear hK K
      refine w_ret ?_
      rw [sfault_none hi1 fun y hy => hi3 y (by omega)]
      refine ⟨.one rfl rfl (.one rfl rfl (.one rfl rfl (.one rfl rfl .nil))), _, [], rfl, by simp, UpL.refl _⟩

theorem c45 (u : Bool) (f : SF) (hs : f.Sh) : Contract Try.prog 95 [.rptr (f.cells u)] (.tup (four f.fault)) := by
  refine contract_intro (rs := four f.fault) Try.func95 rfl rfl rfl rfl (by simp [Try.f95]) fun F hN hP => ?_
  have hC := hs.cat.1
  have hl1 := hC.lt
  have hl2 := hC.li
  have hl3 := hs.ls
  have hl4 := hs.la
  have hl5 := hC.lc
  have hm40 := hC.m40
  have hn8 := hC.n8
  simp only [SF.cells]
  refine w_sr mo (by rw [hN]; decide) fun K hK => ?_ -- region 0
  simp
  refine hK _ ?_
  clear hK K
  refine w_sr mo (by rw [hN]; decide) fun K hK => ?_ -- region 1
  simp
  refine hK _ ?_
  clear hK K
  refine w_seq ?_
  refine w_sr mo (by rw [hN]; decide) fun K hK => ?_ -- region 2
  simp
  refine hK _ ?_
  clear hK K
  refine w_block ?_
  refine w_loop (fun x : Nat => ⟨[(0, .rptr [.val (.int .i64 f.s.n), .lst u 1 (Is f.s.fr), .lst u 1 (Is f.s.to), .lst u 1 (Is f.s.id), .lst u 1 (Ls f.s.cs), .lst u 1 (Is f.sz), .lst u 1 (Ls f.ac)]), (6, .rptr [.val (.int .i64 f.s.n), .lst u 1 (Is f.s.fr), .lst u 1 (Is f.s.to), .lst u 1 (Is f.s.id), .lst u 1 (Ls f.s.cs), .lst u 1 (Is f.sz), .lst u 1 (Ls f.ac)]), (23, .lst u 1 (Is f.s.id)), (24, .val (.int .i64 f.s.id.length)), (25, .val (.int .i64 x))], [], 0⟩) (fun x => x ≤ f.s.id.length ∧ ∀ y : Nat, y < x → ∀ e : Nat, e < f.lu y → f.un y e) (fun x => f.s.id.length - x) 0 (by simp) (Wk.relabel [] (by simp) (by simp) (by rw [hP]; simp) (by simp) (by simp) (by simp) (by simp)) ?_
  rintro x ⟨hx0, hi0⟩
  refine w_sr mo (by rw [hN]; decide) fun K hK => ?_ -- region 3
  simp
  refine hK _ ?_
  clear hK K
  refine w_seq ?_
  refine w_cond rfl (fun h => ?_) fun h => ?_
  · simp at h
    have hx : x < f.s.id.length := by omega
    clear h
    have c1 := hC.id' (j := x) (by omega) (by omega)
    have c2 := hC.ids x hx
    have c3 := hs.len' c1.1 c1.2
    rw [c2.1] at c3
    have c4 : (f.lu x : Int) = ix f.sz x := c3
    have c5 := all_ix hs.sz (j := x) (by omega) (by omega)
    refine w_skip ?_
    refine w_seq ?_
    refine w_block ?_
    refine w_sr mo (by rw [hN]; decide) fun K hK => ?_ -- region 4
    simp [at_ix, at_rx, ix_max, rx_max, hl1, hl4, hl5, hx]
    refine hK _ ?_
    clear hK K
    refine w_sr mo (by rw [hN]; decide) fun K hK => ?_ -- region 5
    simp [at_ix, at_rx, ix_max, rx_max, hl1, hl4, hl5, c1.1, c1.2]
    refine hK _ ?_
    clear hK K
    refine w_block ?_
    refine w_loop (fun e : Nat => ⟨[(0, .rptr [.val (.int .i64 f.s.n), .lst u 1 (Is f.s.fr), .lst u 1 (Is f.s.to), .lst u 1 (Is f.s.id), .lst u 1 (Ls f.s.cs), .lst u 1 (Is f.sz), .lst u 1 (Ls f.ac)]), (6, .rptr [.val (.int .i64 f.s.n), .lst u 1 (Is f.s.fr), .lst u 1 (Is f.s.to), .lst u 1 (Is f.s.id), .lst u 1 (Ls f.s.cs), .lst u 1 (Is f.sz), .lst u 1 (Ls f.ac)]), (23, .lst u 1 (Is f.s.id)), (24, .val (.int .i64 f.s.id.length)), (25, .val (.int .i64 x)), (7, .val (.int .i64 x)), (36, .lst true 1 (Is (rx f.ac (ix f.s.id x)))), (37, .val (.int .i64 (rx f.ac (ix f.s.id x)).length)), (38, .val (.int .i64 e))], [], 0⟩) (fun e => e ≤ f.lu x ∧ ∀ y : Nat, y < e → f.un x y) (fun e => f.lu x - e) 0 (by simp) (Wk.relabel [] (by simp) (by simp) (by rw [hP]; simp) (by simp) (by simp) (by simp) (by simp)) ?_
    rintro e ⟨he0, hi2⟩
    refine w_sr mo (by rw [hN]; decide) fun K hK => ?_ -- region 6
    simp
    refine hK _ ?_
    clear hK K
    refine w_seq ?_
    refine w_cond rfl (fun h => ?_) fun h => ?_
    · simp at h
      have he : e < f.lu x := by first | omega | (simp only [SF.lu]; omega)
      clear h
      have he3 : e < (rx f.ac (ix f.s.id x)).length := he
      refine w_skip ?_
      refine w_seq ?_
      refine w_block ?_
      refine w_sr mo (by rw [hN]; decide) fun K hK => ?_ -- region 7
      simp [at_ix, at_rx, ix_max, rx_max, hl1, hl4, hl5, he3]
      refine hK _ ?_
      clear hK K
      refine w_sr mo (by rw [hN]; decide) fun K hK => ?_ -- region 8
      simp
      refine hK _ ?_
      clear hK K
      refine w_cond rfl (fun h => ?_) fun h => ?_
      · simp at h
        have hn : ¬ f.un x e := h
        refine w_sr mo (by rw [hN]; decide) fun K hK => ?_ -- region 9
        simp
        refine hK _ ?_
        clear hK K
        refine w_ret ?_
        rw [sfault_at1 hx he hi0 hi2 hn]
        refine ⟨.one rfl rfl (.one rfl rfl (.one rfl rfl (.one rfl rfl .nil))), _, [], rfl, by simp, UpL.refl _⟩
      · simp at h
        have hc : f.un x e := h
        refine w_skip ?_
        refine w_run mo (by rw [hN]; decide) fun K hK => ?_ -- region 10
        simp
        refine hK _ ?_
        clear hK K
        rw [wrap_succ (n := f.lu x) (by omega) (by omega)]
        refine ⟨e + 1, ⟨by omega, all_succ hi2 hc⟩, by dsimp only; omega, (Wk.relabel [] (by simp) (by simp) (by rw [hP]; simp) (by simp) (by simp) (by simp) (by simp))⟩
    · simp at h
      have he2 : f.lu x ≤ e := by first | omega | (simp only [SF.lu]; omega)
      clear h
      refine w_exit ?_
      simp
      refine w_run mo (by rw [hN]; decide) fun K hK => ?_ -- region 11
      simp
      refine hK _ ?_
      clear hK K
      rw [wrap_succ (n := f.s.id.length) (by omega) (by omega)]
      refine ⟨x + 1, ⟨by omega, all_succ hi0 fun y hy => hi2 y (by omega)⟩, by dsimp only; omega, (Wk.relabel [] (by simp) (by simp) (by rw [hP]; simp) (by simp) (by simp) (by simp) (by simp))⟩
  · simp at h
    have hx2 : f.s.id.length ≤ x := by omega
    clear h
    have hi1 : ∀ y : Nat, y < f.s.id.length → ∀ e : Nat, e < f.lu y → f.un y e := fun y hy => hi0 y (by omega)
    refine w_exit ?_
    simp
    refine w_seq ?_
    refine w_sr mo (by rw [hN]; decide) fun K hK => ?_ -- region 12
    simp [hl5]
    refine hK _ ?_
    clear hK K
    refine w_block ?_
    refine w_loop (fun a : Nat => ⟨[(0, .rptr [.val (.int .i64 f.s.n), .lst u 1 (Is f.s.fr), .lst u 1 (Is f.s.to), .lst u 1 (Is f.s.id), .lst u 1 (Ls f.s.cs), .lst u 1 (Is f.sz), .lst u 1 (Ls f.ac)]), (6, .rptr [.val (.int .i64 f.s.n), .lst u 1 (Is f.s.fr), .lst u 1 (Is f.s.to), .lst u 1 (Is f.s.id), .lst u 1 (Ls f.s.cs), .lst u 1 (Is f.sz), .lst u 1 (Ls f.ac)]), (53, .lst u 1 (Ls f.s.cs)), (54, .val (.int .i64 f.s.fr.length)), (55, .val (.int .i64 a))], [], 0⟩) (fun a => a ≤ f.s.fr.length ∧ ∀ y : Nat, y < a → ∀ b : Nat, b < f.s.fr.length → ∀ e : Nat, e < f.la y → f.as y b e) (fun a => f.s.fr.length - a) 0 (by simp) (Wk.relabel [] (by simp) (by simp) (by rw [hP]; simp) (by simp) (by simp) (by simp) (by simp)) ?_
    clear hi0 hx2 hx0 x
    rintro a ⟨ha0, hi3⟩
    refine w_sr mo (by rw [hN]; decide) fun K hK => ?_ -- region 13
    simp
    refine hK _ ?_
    clear hK K
    refine w_seq ?_
    refine w_cond rfl (fun h => ?_) fun h => ?_
    · simp at h
      have ha : a < f.s.fr.length := by omega
      clear h
      have c1 := hC.fr' (j := a) (by omega) (by omega)
      have c2 := hC.row' (j := a) (by omega) (by omega)
      have c3 : (f.la a : Int) = ix f.sz (ix f.s.fr a) := hs.len' (j := a) (by omega) (by omega)
      have c5 := all_ix hs.sz (j := ix f.s.fr a) (by omega) (by omega)
      refine w_skip ?_
      refine w_seq ?_
      refine w_block ?_
      refine w_sr mo (by rw [hN]; decide) fun K hK => ?_ -- region 14
      simp [at_ix, at_rx, ix_max, rx_max, hl1, hl4, hl5, ha]
      refine hK _ ?_
      clear hK K
      refine w_sr mo (by rw [hN]; decide) fun K hK => ?_ -- region 15
      simp [c2]
      refine hK _ ?_
      clear hK K
      refine w_block ?_
      refine w_loop (fun b : Nat => ⟨[(0, .rptr [.val (.int .i64 f.s.n), .lst u 1 (Is f.s.fr), .lst u 1 (Is f.s.to), .lst u 1 (Is f.s.id), .lst u 1 (Ls f.s.cs), .lst u 1 (Is f.sz), .lst u 1 (Ls f.ac)]), (6, .rptr [.val (.int .i64 f.s.n), .lst u 1 (Is f.s.fr), .lst u 1 (Is f.s.to), .lst u 1 (Is f.s.id), .lst u 1 (Ls f.s.cs), .lst u 1 (Is f.sz), .lst u 1 (Ls f.ac)]), (53, .lst u 1 (Ls f.s.cs)), (54, .val (.int .i64 f.s.fr.length)), (55, .val (.int .i64 a)), (11, .val (.int .i64 a)), (60, .lst true 1 (Is (rx f.s.cs a))), (61, .val (.int .i64 f.s.fr.length)), (62, .val (.int .i64 b))], [], 0⟩) (fun b => b ≤ f.s.fr.length ∧ ∀ y : Nat, y < b → ∀ e : Nat, e < f.la a → f.as a y e) (fun b => f.s.fr.length - b) 0 (by simp) (Wk.relabel [] (by simp) (by simp) (by rw [hP]; simp) (by simp) (by simp) (by simp) (by simp)) ?_
      rintro b ⟨hb0, hi4⟩
      refine w_sr mo (by rw [hN]; decide) fun K hK => ?_ -- region 16
      simp
      refine hK _ ?_
      clear hK K
      refine w_seq ?_
      refine w_cond rfl (fun h => ?_) fun h => ?_
      · simp at h
        have hb : b < f.s.fr.length := by omega
        clear h
        refine w_skip ?_
        refine w_seq ?_
        refine w_block ?_
        refine w_sr mo (by rw [hN]; decide) fun K hK => ?_ -- region 17
        simp [at_ix, at_rx, ix_max, rx_max, hl1, hl4, hl5, c2, hb]
        refine hK _ ?_
        clear hK K
        refine w_seq ?_
        refine w_sr mo (by rw [hN]; decide) fun K hK => ?_ -- region 18
        simp
        refine hK _ ?_
        clear hK K
        refine w_cond rfl (fun e0 => ?_) fun e0 => ?_
        · simp at e0
          have e1 : ¬ ix f.s.to a = ix f.s.fr b := fun q => by have := ((hC.cell' (f := a) (g := b) (by omega) (by omega) (by omega) (by omega)).2 q).1; omega
          have hc : ∀ e : Nat, e < f.la a → f.as a b e := fun e _ q => absurd q e1
          refine w_exit ?_
          simp
          refine w_run mo (by rw [hN]; decide) fun K hK => ?_ -- region 25
          simp
          refine hK _ ?_
          clear hK K
          rw [wrap_succ (n := f.s.fr.length) (by omega) (by omega)]
          refine ⟨b + 1, ⟨by omega, all_succ hi4 hc⟩, by dsimp only; omega, (Wk.relabel [] (by simp) (by simp) (by rw [hP]; simp) (by simp) (by simp) (by simp) (by simp))⟩
        · simp at e0
          have e1 : ix f.s.to a = ix f.s.fr b := Classical.byContradiction fun q => by have := (hC.cell' (f := a) (g := b) (by omega) (by omega) (by omega) (by omega)).1 q; omega
          have d0 := (hC.cell' (f := a) (g := b) (by omega) (by omega) (by omega) (by omega)).2 e1
          have d1 := hs.len' (j := b) (by omega) (by omega)
          have d2 := hs.len' d0.1 d0.2.1
          rw [d0.2.2.1] at d2
          rw [← e1] at d1
          refine w_skip ?_
          refine w_sr mo (by rw [hN]; decide) fun K hK => ?_ -- region 19
          simp [at_ix, at_rx, ix_max, rx_max, hl1, hl4, hl5, ha]
          refine hK _ ?_
          clear hK K
          refine w_block ?_
          refine w_loop (fun e : Nat => ⟨[(0, .rptr [.val (.int .i64 f.s.n), .lst u 1 (Is f.s.fr), .lst u 1 (Is f.s.to), .lst u 1 (Is f.s.id), .lst u 1 (Ls f.s.cs), .lst u 1 (Is f.sz), .lst u 1 (Ls f.ac)]), (6, .rptr [.val (.int .i64 f.s.n), .lst u 1 (Is f.s.fr), .lst u 1 (Is f.s.to), .lst u 1 (Is f.s.id), .lst u 1 (Ls f.s.cs), .lst u 1 (Is f.sz), .lst u 1 (Ls f.ac)]), (53, .lst u 1 (Ls f.s.cs)), (54, .val (.int .i64 f.s.fr.length)), (55, .val (.int .i64 a)), (11, .val (.int .i64 a)), (60, .lst true 1 (Is (rx f.s.cs a))), (61, .val (.int .i64 f.s.fr.length)), (62, .val (.int .i64 b)), (13, .val (.int .i64 b)), (14, .val (.int .i64 (ix (rx f.s.cs a) b))), (75, .lst true 1 (Is (rx f.ac a))), (76, .val (.int .i64 (rx f.ac a).length)), (77, .val (.int .i64 e))], [], 0⟩) (fun e => e ≤ f.la a ∧ ∀ y : Nat, y < e → f.as a b y) (fun e => f.la a - e) 0 (by simp) (Wk.relabel [] (by simp) (by simp) (by rw [hP]; simp) (by simp) (by simp) (by simp) (by simp)) ?_
          rintro e ⟨he0, hi5⟩
          refine w_sr mo (by rw [hN]; decide) fun K hK => ?_ -- region 20
          simp
          refine hK _ ?_
          clear hK K
          refine w_seq ?_
          refine w_cond rfl (fun h => ?_) fun h => ?_
          · simp at h
            have he : e < f.la a := by first | omega | (simp only [SF.la]; omega)
            clear h
            have he3 : e < (rx f.ac a).length := he
            have d3 := hs.val' (j := a) (e := e) (by omega) (by omega) (by omega) (by simp only [SF.la] at he; omega)
            refine w_skip ?_
            refine w_seq ?_
            refine w_block ?_
            refine w_sr mo (by rw [hN]; decide) fun K hK => ?_ -- region 21
            simp [at_ix, at_rx, ix_max, rx_max, hl1, hl4, hl5, he3]
            refine hK _ ?_
            clear hK K
            refine w_sr mo (by rw [hN]; decide) fun K hK => ?_ -- region 22 DRAWN
            simp [at_ix, at_rx, ix_max, rx_max, hl1, hl4, hl5, hb, d0.1, d3.1, d0.2.1, show ix (rx f.ac a) e < (rx f.ac b).length by omega, show e < (rx f.ac (ix (rx f.s.cs a) b)).length by omega]
            refine hK _ ?_
            clear hK K
            refine w_cond rfl (fun h => ?_) fun h => ?_
            · simp at h
              have hn : ¬ f.as a b e := fun q => h (q e1)
              refine w_sr mo (by rw [hN]; decide) fun K hK => ?_ -- region 23
              simp
              refine hK _ ?_
              clear hK K
              refine w_ret ?_
              rw [sfault_at2 ha hb he hi1 hi3 hi4 hi5 hn]
              refine ⟨.one rfl rfl (.one rfl rfl (.one rfl rfl (.one rfl rfl .nil))), _, [], rfl, by simp, UpL.refl _⟩
            · simp at h
              have hc : f.as a b e := fun _ => h
              refine w_skip ?_
              refine w_run mo (by rw [hN]; decide) fun K hK => ?_ -- region 24
              simp
              refine hK _ ?_
              clear hK K
              rw [wrap_succ (n := f.la a) (by omega) (by omega)]
              refine ⟨e + 1, ⟨by omega, all_succ hi5 hc⟩, by dsimp only; omega, (Wk.relabel [] (by simp) (by simp) (by rw [hP]; simp) (by simp) (by simp) (by simp) (by simp))⟩
          · simp at h
            have he2 : f.la a ≤ e := by first | omega | (simp only [SF.la]; omega)
            clear h
            have hc : ∀ e : Nat, e < f.la a → f.as a b e := fun y hy => hi5 y (by omega)
            refine w_exit ?_
            simp
            refine w_run mo (by rw [hN]; decide) fun K hK => ?_ -- region 25
            simp
            refine hK _ ?_
            clear hK K
            rw [wrap_succ (n := f.s.fr.length) (by omega) (by omega)]
            refine ⟨b + 1, ⟨by omega, all_succ hi4 hc⟩, by dsimp only; omega, (Wk.relabel [] (by simp) (by simp) (by rw [hP]; simp) (by simp) (by simp) (by simp) (by simp))⟩
      · simp at h
        have hb2 : f.s.fr.length ≤ b := by omega
        clear h
        refine w_exit ?_
        simp
        refine w_run mo (by rw [hN]; decide) fun K hK => ?_ -- region 26
        simp
        refine hK _ ?_
        clear hK K
        rw [wrap_succ (n := f.s.fr.length) (by omega) (by omega)]
        refine ⟨a + 1, ⟨by omega, all_succ hi3 fun y hy => hi4 y (by omega)⟩, by dsimp only; omega, (Wk.relabel [] (by simp) (by simp) (by rw [hP]; simp) (by simp) (by simp) (by simp) (by simp))⟩
    · simp at h
      have ha2 : f.s.fr.length ≤ a := by omega
      clear h
      refine w_exit ?_
      simp
      refine w_sr mo (by rw [hN]; decide) fun K hK => ?_ -- region 27
      simp
      refine hK _ ?_
      clear hK K
      refine w_ret ?_
      rw [sfault_none hi1 fun y hy => hi3 y (by omega)]
      refine ⟨.one rfl rfl (.one rfl rfl (.one rfl rfl (.one rfl rfl .nil))), _, [], rfl, by simp, UpL.refl _⟩

end Go.Vc.T


namespace Go.Vc.T
open Go Go.Vc Go.Proofs

def SF.Is (f : SF) : Prop := f.Sh ∧ f.Law
theorem SF.pur {h : HP} {u v : Bool} {c : SF} : PurL h (c.cells u) (c.cells v) := .cons .val (.cons .lst (.cons .lst (.cons .lst (.cons .lst (.cons .lst (.cons .lst .nil))))))

theorem c16 (u : Bool) (f : SF) : Contract Try.prog 81 [.agg (f.cells u)] (.val (.bool (bo f.Is))) := by
  refine contract_intro (rs := [.val (.bool (bo f.Is))]) Try.func81 rfl rfl rfl rfl (by simp [Try.f81]) fun F hN hP => ?_
  refine w_sr mo (by rw [hN]; decide) fun K hK => ?_ -- region 0
  simp [SF.cells]
  refine hK _ ?_
  clear hK K
  refine w_seq ?_
  refine w_sr mo (by rw [hN]; decide) fun K hK => ?_ -- region 1
  simp
  refine callA_intro (c39 u f) (.cons (.aggL SF.pur) .nil) ?_
  simp [unk, unA, unE, flat]
  refine hK _ ?_
  clear hK K
  refine w_cond rfl (fun h => ?_) fun h => ?_
  · refine w_sr mo (by rw [hN]; decide) fun K hK => ?_ -- region 2
    simp
    refine hK _ ?_
    clear hK K
    refine w_ret (ret_val rfl (bo_f fun hs => ?_))
    exact bo_not h hs.1
  · have hs : f.Sh := bo_yes h
    refine w_skip ?_
    refine w_sr mo (by rw [hN]; decide) fun K hK => ?_ -- region 3
    simp
    refine callA_intro (c40 u f hs) (.cons (.aggL SF.pur) .nil) ?_
    simp [unk, unA, unE, unT, flat, four]
    refine hK _ ?_
    clear hK K
    refine w_sr mo (by rw [hN]; decide) fun K hK => ?_ -- region 4
    simp
    refine hK _ ?_
    clear hK K
    refine w_ret (ret_val rfl (beq_bo ?_))
    exact ⟨fun q => ⟨hs, sfault_zero.1 q⟩, fun q => sfault_zero.2 q.2⟩

theorem c21 (u : Bool) (f : SF) : Contract Try.prog 90 [.rptr (f.cells u)] (.val (.bool (bo f.Is))) := by
  refine contract_intro (rs := [.val (.bool (bo f.Is))]) Try.func90 rfl rfl rfl rfl (by simp [Try.f90]) fun F hN hP => ?_
  refine w_sr mo (by rw [hN]; decide) fun K hK => ?_ -- region 0
  simp
  refine hK _ ?_
  clear hK K
  refine w_seq ?_
  refine w_sr mo (by rw [hN]; decide) fun K hK => ?_ -- region 1
  simp
  refine callA_intro (c44 u f) (.cons .rptr .nil) ?_
  simp [unk, unA, unE, flat]
  refine hK _ ?_
  clear hK K
  refine w_cond rfl (fun h => ?_) fun h => ?_
  · refine w_sr mo (by rw [hN]; decide) fun K hK => ?_ -- region 2
    simp
    refine hK _ ?_
    clear hK K
    refine w_ret (ret_val rfl (bo_f fun hs => ?_))
    exact bo_not h hs.1
  · have hs : f.Sh := bo_yes h
    refine w_skip ?_
    refine w_sr mo (by rw [hN]; decide) fun K hK => ?_ -- region 3
    simp
    refine callA_intro (c45 u f hs) (.cons .rptr .nil) ?_
    simp [unk, unA, unE, unT, flat, four]
    refine hK _ ?_
    clear hK K
    refine w_sr mo (by rw [hN]; decide) fun K hK => ?_ -- region 4
    simp
    refine hK _ ?_
    clear hK K
    refine w_ret (ret_val rfl (beq_bo ?_))
    exact ⟨fun q => ⟨hs, sfault_zero.1 q⟩, fun q => sfault_zero.2 q.2⟩

def lrow (x y : Nat) : List Int := (List.range y).map fun j : Nat => if x = j then (x : Int) else -1
def lrows (n x : Nat) : List (List Int) := (List.range x).map fun i => lrow i n
def loose (n : Nat) : Cat := ⟨n, iota n, iota n, iota n, lrows n n⟩
@[simp] theorem lrow_length (x y : Nat) : (lrow x y).length = y := by simp [lrow]
@[simp] theorem lrows_length (x y : Nat) : (lrows x y).length = y := by simp [lrows]
theorem lrow_succ (x y : Nat) : lrow x (y + 1) = lrow x y ++ [if x = y then (x : Int) else -1] := by simp [lrow, List.range_succ]
theorem lrows_succ (n x : Nat) : lrows n (x + 1) = lrows n x ++ [lrow x n] := by simp [lrows, List.range_succ]
theorem Is_snoc (xs : List Int) (x : Int) : Is xs ++ [[.val (.int .i64 x)]] = Is (xs ++ [x]) := by simp [Is]
theorem Ls_snoc (xs : List (List Int)) (x : List Int) : Ls xs ++ [[.lst true 1 (Is x)]] = Ls (xs ++ [x]) := by simp [Ls]
@[simp] theorem Is_iota_succ (x : Nat) : Is (iota x) ++ [[.val (.int .i64 (x : Int))]] = Is (iota (x + 1)) := by rw [Is_snoc, iota_succ]
@[simp] theorem take_iota (x : Nat) : List.take x (Is (iota x)) = Is (iota x) := List.take_of_length_le (by simp)
@[simp] theorem take_lrow (x y : Nat) : List.take y (Is (lrow x y)) = Is (lrow x y) := List.take_of_length_le (by simp)
@[simp] theorem take_lrows (n x : Nat) : List.take x (Ls (lrows n x)) = Ls (lrows n x) := List.take_of_length_le (by simp)
@[simp] theorem Ls_lrows_succ (n x : Nat) : Ls (lrows n x) ++ [[.lst true 1 (Is (lrow x n))]] = Ls (lrows n (x + 1)) := by rw [Ls_snoc, lrows_succ]
theorem Wk.trans {F : Fx} {a b c : St} (h1 : Wk F a b) (h2 : Wk F b c) : Wk F a c := fun x w hr => h2 x w (h1 x w hr)

end Go.Vc.T
