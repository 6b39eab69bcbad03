/- A part of the proof: a verified generator of conditions, and what each function of the program does. -/
import Derived.Test.YtagfkbmpgamhaaaW3

namespace Go.Vc.T
open Go Go.Vc Go.Proofs

def Cat.Is (c : Cat) : Prop := c.Sh ∧ c.Law
theorem beq_bo {a : Int} {p : Prop} (h : a = 0 ↔ p) : Value.bool (a == 0) = Value.bool (bo p) := by
  by_cases hp : p
  · simp [bo, hp, h.2 hp]
  · have : a ≠ 0 := fun q => hp (h.1 q)
    simp [bo, hp, this]
theorem bo_not {p : Prop} (h : (!bo p) = true) : ¬ p := by simpa [bo] using h
theorem bo_yes {p : Prop} (h : (!bo p) = false) : p := by simpa [bo] using h

theorem c55 (u : Bool) (c : Cat) : Contract Try.prog 55 [.agg (c.cells u)] (.val (.bool (bo c.Is))) := by
  refine contract_intro (rs := [.val (.bool (bo c.Is))]) Try.func55 rfl rfl rfl rfl (by simp [Try.f55]) fun F hN hP => ?_
  refine w_sr mo (by rw [hN]; decide) fun K hK => ?_ -- region 0
  simp [Cat.cells]
  refine hK _ ?_
  clear hK K
  refine w_seq ?_
  refine w_sr mo (by rw [hN]; decide) fun K hK => ?_ -- region 1
  simp
  refine callA_intro (c63 u c) (.cons (.aggL Cat.pur) .nil) ?_
  simp [unk, unA, unE, flat]
  refine hK _ ?_
  clear hK K
  refine w_cond rfl (fun h => ?_) fun h => ?_
  · refine w_sr mo (by rw [hN]; decide) fun K hK => ?_ -- region 2
    simp
    refine hK _ ?_
    clear hK K
    refine w_ret (ret_val rfl (bo_f fun hs => ?_))
    exact bo_not h hs.1
  · have hs : c.Sh := bo_yes h
    refine w_skip ?_
    refine w_sr mo (by rw [hN]; decide) fun K hK => ?_ -- region 3
    simp
    refine callA_intro (c64 u c hs) (.cons (.aggL Cat.pur) .nil) ?_
    simp [unk, unA, unE, unT, flat, four]
    refine hK _ ?_
    clear hK K
    refine w_sr mo (by rw [hN]; decide) fun K hK => ?_ -- region 4
    simp
    refine hK _ ?_
    clear hK K
    refine w_ret (ret_val rfl (beq_bo ?_))
    exact ⟨fun q => ⟨hs, fault_zero.1 q⟩, fun q => fault_zero.2 q.2⟩

theorem c60 (u : Bool) (c : Cat) (tl : List AV) : Contract Try.prog 60 [.rptr (c.cells u ++ tl)] (.val (.bool (bo c.Is))) := by
  refine contract_intro (rs := [.val (.bool (bo c.Is))]) Try.func60 rfl rfl rfl rfl (by simp [Try.f60]) fun F hN hP => ?_
  refine w_sr mo (by rw [hN]; decide) fun K hK => ?_ -- region 0
  simp
  refine hK _ ?_
  clear hK K
  refine w_seq ?_
  refine w_sr mo (by rw [hN]; decide) fun K hK => ?_ -- region 1
  simp
  refine callA_intro (c65 u c tl) (.cons .rptr .nil) ?_
  simp [unk, unA, unE, flat]
  refine hK _ ?_
  clear hK K
  refine w_cond rfl (fun h => ?_) fun h => ?_
  · refine w_sr mo (by rw [hN]; decide) fun K hK => ?_ -- region 2
    simp
    refine hK _ ?_
    clear hK K
    refine w_ret (ret_val rfl (bo_f fun hs => ?_))
    exact bo_not h hs.1
  · have hs : c.Sh := bo_yes h
    refine w_skip ?_
    refine w_sr mo (by rw [hN]; decide) fun K hK => ?_ -- region 3
    simp
    refine callA_intro (c66 u c tl hs) (.cons .rptr .nil) ?_
    simp [unk, unA, unE, unT, flat, four]
    refine hK _ ?_
    clear hK K
    refine w_sr mo (by rw [hN]; decide) fun K hK => ?_ -- region 4
    simp
    refine hK _ ?_
    clear hK K
    refine w_ret (ret_val rfl (beq_bo ?_))
    exact ⟨fun q => ⟨hs, fault_zero.1 q⟩, fun q => fault_zero.2 q.2⟩

def SF.actOk (f : SF) (a : Nat) : Prop := ((rx f.ac a).length : Int) = ix f.sz (ix f.s.fr a) ∧ ∀ x ∈ rx f.ac a, inR (ix f.sz (ix f.s.to a)) x = true
structure SF.Sh (f : SF) : Prop where
  cat : f.s.Is
  ls : (f.sz.length : Int) = f.s.n
  la : f.ac.length = f.s.fr.length
  sz : ∀ x ∈ f.sz, inR 17 x = true
  act : ∀ a : Nat, a < f.ac.length → f.actOk a
def SF.P1 (f : SF) : Prop := f.s.Is ∧ (f.sz.length : Int) = f.s.n ∧ f.ac.length = f.s.fr.length
def SF.Q1 (f : SF) : Prop := f.s.Is ∧ (f.sz.length : Int) = f.s.n ∧ (∀ x ∈ f.sz, inR 17 x = true) ∧ f.ac.length = f.s.fr.length
theorem SF.Sh.P1 {f : SF} (h : f.Sh) : f.P1 := ⟨h.cat, h.ls, h.la⟩
theorem SF.Sh.Q1 {f : SF} (h : f.Sh) : f.Q1 := ⟨h.cat, h.ls, h.sz, h.la⟩
theorem ix_mem {xs : List Int} {P : Int → Prop} (h : ∀ j : Nat, j < xs.length → P (ix xs j)) : ∀ x ∈ xs, P x := by
  intro x hx
  obtain ⟨i, hi, rfl⟩ := List.getElem_of_mem hx
  have := h i hi
  rwa [← at_ix xs i hi] at this

theorem c39 (u : Bool) (f : SF) : Contract Try.prog 39 [.agg (f.cells u)] (.val (.bool (bo f.Sh))) := by
  refine contract_intro (rs := [.val (.bool (bo f.Sh))]) Try.func39 rfl rfl rfl rfl (by simp [Try.f39]) fun F hN hP => ?_
  refine w_sr mo (by rw [hN]; decide) fun K hK => ?_ -- region 0
  simp [SF.cells]
  refine hK _ ?_
  clear hK K
  refine w_seq ?_
  refine w_sr mo (by rw [hN]; decide) fun K hK => ?_ -- region 1
  refine join hK (fun b => ⟨[(1, .adr 0 0 0), (27, .val (.bool b))], [(0, .mix 7 [[.val (.int .i64 f.s.n), .lst u 1 (Is f.s.fr), .lst u 1 (Is f.s.to), .lst u 1 (Is f.s.id), .lst u 1 (Ls f.s.cs), .lst u 1 (Is f.sz), .lst u 1 (Ls f.ac)]])], 1⟩) (¬ f.P1) (fun hJ => ?_) fun b hb => ?_
  · simp
    refine callA_intro (c55 u f.s) (.cons (.aggL Cat.pur) .nil) ?_
    simp [unk, unA, unE, flat]
    refine ⟨fun b1 => ⟨fun b2 => ?_, fun b2 => ?_⟩, fun b1 => ?_⟩
    · exact hJ ((f.ac.length : Int) != f.s.fr.length) (by simp [SF.P1, b2]; simp [bo] at b1; grind) _ (Wk.relabel [(0, 0)] (by simp) (by simp) (by rw [hP]; simp) (by simp) (by simp) (by simp) (by simp))
    · exact hJ (true) (yes fun hp => b2 hp.2.1) _ (Wk.relabel [(0, 0)] (by simp) (by simp) (by rw [hP]; simp) (by simp) (by simp) (by simp) (by simp))
    · exact hJ (true) (yes fun hp => by simp [bo, hp.1] at b1) _ (Wk.relabel [(0, 0)] (by simp) (by simp) (by rw [hP]; simp) (by simp) (by simp) (by simp) (by simp))
  clear hK K
  refine w_cond rfl (fun h => ?_) fun h => ?_
  · refine w_sr mo (by rw [hN]; decide) fun K hK => ?_ -- region 2
    simp
    refine hK _ ?_
    clear hK K
    refine w_ret (ret_val rfl (bo_f fun hs => ?_))
    exact hb.1 h hs.P1
  · have p1 : f.P1 := Classical.byContradiction fun hn => by rw [hb.2 hn] at h; cases h
    have hS : f.s.Sh := p1.1.1
    have hl1 := hS.lt
    have hl2 := hS.li
    have hl3 : (f.sz.length : Int) = f.s.n := p1.2.1
    have hl4 : f.ac.length = f.s.fr.length := p1.2.2
    have hn8 := hS.n8
    have hm40 := hS.m40
    refine w_skip ?_
    refine w_seq ?_
    refine w_sr mo (by rw [hN]; decide) fun K hK => ?_ -- region 3
    simp
    refine hK _ ?_
    clear hK K
    refine w_block ?_
    refine w_loop (fun x : Nat => ⟨[(1, .adr 0 0 0), (3, .val (.int .i64 x))], [(0, .mix 7 [[.val (.int .i64 f.s.n), .lst u 1 (Is f.s.fr), .lst u 1 (Is f.s.to), .lst u 1 (Is f.s.id), .lst u 1 (Ls f.s.cs), .lst u 1 (Is f.sz), .lst u 1 (Ls f.ac)]])], 1⟩) (fun x => x ≤ f.sz.length ∧ ∀ y : Nat, y < x → inR 17 (ix f.sz y) = true) (fun x => f.sz.length - x) 0 (by simp) (Wk.relabel [(0, 0)] (by simp) (by simp) (by rw [hP]; simp) (by simp) (by simp) (by simp) (by simp)) ?_
    rintro x ⟨hx, hi0⟩
    refine w_seq ?_
    refine w_sr mo (by rw [hN]; decide) fun K hK => ?_ -- region 4
    simp
    refine hK _ ?_
    clear hK K
    refine w_cond rfl (fun h => ?_) fun h => ?_
    · simp at h
      have hx1 : x < f.sz.length := by omega
      clear h
      refine w_skip ?_
      refine w_seq ?_
      refine w_block ?_
      refine w_sr mo (by rw [hN]; decide) fun K hK => ?_ -- region 6
      simp [at_ix, at_rx, ix_max, rx_max, hx1]
      refine callA_intro (c56 (ix f.sz x) 0 16) (.cons .val (.cons .val (.cons .val .nil))) ?_
      simp [unk, unA, unE, flat]
      refine hK _ ?_
      clear hK K
      refine w_cond rfl (fun h => ?_) fun h => ?_
      · simp at h
        refine w_sr mo (by rw [hN]; decide) fun K hK => ?_ -- region 7
        simp
        refine hK _ ?_
        clear hK K
        refine w_ret (ret_val rfl (bo_f fun hs => ?_))
        have := all_ix hs.sz (j := x) (by omega) (by omega)
        grind
      · simp at h
        have hc : inR 17 (ix f.sz x) = true := by simp [inR]; omega
        refine w_skip ?_
        refine w_run mo (by rw [hN]; decide) fun K hK => ?_ -- region 5
        simp
        refine hK _ ?_
        clear hK K
        rw [wrap_succ (n := f.sz.length) (by omega) (by omega)]
        refine ⟨x + 1, ⟨by omega, all_succ hi0 hc⟩, by dsimp only; omega, (Wk.relabel [(0, 0)] (by simp) (by simp) (by rw [hP]; simp) (by simp) (by simp) (by simp) (by simp))⟩
    · simp at h
      have hx2 : f.sz.length ≤ x := by omega
      clear h
      have hi1 : ∀ y ∈ f.sz, inR 17 y = true := ix_mem fun y hy => hi0 y (by omega)
      refine w_exit ?_
      simp
      refine w_seq ?_
      refine w_sr mo (by rw [hN]; decide) fun K hK => ?_ -- region 8
      simp
      refine hK _ ?_
      clear hK K
      refine w_block ?_
      refine w_loop (fun a : Nat => ⟨[(1, .adr 0 0 0), (4, .val (.int .i64 a))], [(0, .mix 7 [[.val (.int .i64 f.s.n), .lst u 1 (Is f.s.fr), .lst u 1 (Is f.s.to), .lst u 1 (Is f.s.id), .lst u 1 (Ls f.s.cs), .lst u 1 (Is f.sz), .lst u 1 (Ls f.ac)]])], 1⟩) (fun a => a ≤ f.ac.length ∧ ∀ y : Nat, y < a → f.actOk y) (fun a => f.ac.length - a) 0 (by simp) (Wk.relabel [(0, 0)] (by simp) (by simp) (by rw [hP]; simp) (by simp) (by simp) (by simp) (by simp)) ?_
      rintro a ⟨ha0, hi2⟩
      refine w_seq ?_
      refine w_sr mo (by rw [hN]; decide) fun K hK => ?_ -- region 9
      simp
      refine hK _ ?_
      clear hK K
      refine w_cond rfl (fun h => ?_) fun h => ?_
      · simp at h
        have ha : a < f.ac.length := by omega
        clear h
        have a1 := hS.fr' (j := a) (by omega) (by omega)
        have a2 := hS.to' (j := a) (by omega) (by omega)
        refine w_skip ?_
        refine w_seq ?_
        refine w_block ?_
        refine w_sr mo (by rw [hN]; decide) fun K hK => ?_ -- region 11 DRAWN
        refine join hK (fun b => ⟨[(1, .adr 0 0 0), (4, .val (.int .i64 a)), (84, .val (.bool b))], [(0, .mix 7 [[.val (.int .i64 f.s.n), .lst u 1 (Is f.s.fr), .lst u 1 (Is f.s.to), .lst u 1 (Is f.s.id), .lst u 1 (Ls f.s.cs), .lst u 1 (Is f.sz), .lst u 1 (Ls f.ac)]])], 1⟩) (¬ f.actOk a) (fun hJ => ?_) fun b hb => ?_
        · simp [at_ix, at_rx, ix_max, rx_max, ha, hl1, a1.1, a2.1, show (a : Int) < f.s.fr.length by omega, show a < f.s.fr.length by omega, show ix f.s.fr a < f.sz.length by omega, show ix f.s.to a < f.sz.length by omega]
          refine ⟨fun b1 => ?_, fun b1 => ?_⟩
          · refine callA_intro (c57 true (rx f.ac a) (ix f.sz (ix f.s.to a))) (.cons .val (.cons .lst .nil)) ?_
            simp [unk, unA, unE, flat]
            exact hJ (!(rx f.ac a).all (inR (ix f.sz (ix f.s.to a)))) (by simp [SF.actOk, b1]) _ (Wk.relabel [(0, 0)] (by simp) (by simp) (by rw [hP]; simp) (by simp) (by simp) (by simp) (by simp))
          · exact hJ (true) (yes fun hp => b1 hp.1) _ (Wk.relabel [(0, 0)] (by simp) (by simp) (by rw [hP]; simp) (by simp) (by simp) (by simp) (by simp))
        clear hK K
        refine w_cond rfl (fun h => ?_) fun h => ?_
        · refine w_sr mo (by rw [hN]; decide) fun K hK => ?_ -- region 12
          simp
          refine hK _ ?_
          clear hK K
          refine w_ret (ret_val rfl (bo_f fun hs => ?_))
          exact hb.1 h (hs.act a ha)
        · have hc : f.actOk a := Classical.byContradiction fun hn => by rw [hb.2 hn] at h; cases h
          refine w_skip ?_
          refine w_run mo (by rw [hN]; decide) fun K hK => ?_ -- region 10
          simp
          refine hK _ ?_
          clear hK K
          rw [wrap_succ (n := f.ac.length) (by omega) (by omega)]
          refine ⟨a + 1, ⟨by omega, all_succ hi2 hc⟩, by dsimp only; omega, (Wk.relabel [(0, 0)] (by simp) (by simp) (by rw [hP]; simp) (by simp) (by simp) (by simp) (by simp))⟩
      · simp at h
        have ha2 : f.ac.length ≤ a := by omega
        clear h
        refine w_exit ?_
        simp
        refine w_sr mo (by rw [hN]; decide) fun K hK => ?_ -- region 13
        simp
        refine hK _ ?_
        clear hK K
        refine w_ret (ret_val rfl (bo_t ?_))
        exact ⟨p1.1, hl3, hl4, hi1, fun y hy => hi2 y (by omega)⟩

theorem c44 (u : Bool) (f : SF) : Contract Try.prog 44 [.rptr (f.cells u)] (.val (.bool (bo f.Sh))) := by
  refine contract_intro (rs := [.val (.bool (bo f.Sh))]) Try.func44 rfl rfl rfl rfl (by simp [Try.f44]) fun F hN hP => ?_
  simp only [SF.cells]
  refine w_sr mo (by rw [hN]; decide) fun K hK => ?_ -- region 0
  simp
  refine hK _ ?_
  clear hK K
  refine w_sr mo (by rw [hN]; decide) fun K hK => ?_ -- region 1
  simp
  refine hK _ ?_
  clear hK K
  refine w_seq ?_
  refine w_sr mo (by rw [hN]; decide) fun K hK => ?_ -- region 2 DRAWN
  refine join hK (fun b => ⟨[(0, .rptr [.val (.int .i64 f.s.n), .lst u 1 (Is f.s.fr), .lst u 1 (Is f.s.to), .lst u 1 (Is f.s.id), .lst u 1 (Ls f.s.cs), .lst u 1 (Is f.sz), .lst u 1 (Ls f.ac)]), (3, .rptr [.val (.int .i64 f.s.n), .lst u 1 (Is f.s.fr), .lst u 1 (Is f.s.to), .lst u 1 (Is f.s.id), .lst u 1 (Ls f.s.cs), .lst u 1 (Is f.sz), .lst u 1 (Ls f.ac)]), (41, .val (.bool b))], [], 0⟩) (¬ f.Q1) (fun hJ => ?_) fun b hb => ?_
  · simp
    refine callA_intro (c60 u f.s [.lst u 1 (Is f.sz), .lst u 1 (Ls f.ac)]) (.cons .rptr .nil) ?_
    simp [unk, unA, unE, flat]
    refine ⟨fun b1 => ⟨fun b2 => ?_, fun b2 => ?_⟩, fun b1 => ?_⟩
    · refine callA_intro (c22 u f.sz 17 ⟨by omega, by omega⟩) (.cons .lst (.cons .val .nil)) ?_
      simp [unk, unA, unE, flat]
      refine ⟨fun b3 => ?_, fun b3 => ?_⟩
      · refine callA_intro (c61 u f.s [.lst u 1 (Is f.sz), .lst u 1 (Ls f.ac)]) (.cons .rptr .nil) ?_
        simp [unk, unA, unE, flat]
        exact hJ ((f.ac.length : Int) != f.s.fr.length) (by simp [SF.Q1, b2]; simp [bo] at b1; grind) _ (Wk.relabel [] (by simp) (by simp) (by rw [hP]; simp) (by simp) (by simp) (by simp) (by simp))
      · intros
        exact hJ (true) (yes fun hp => by simp [SF.Q1] at hp; grind) _ (Wk.relabel [] (by simp) (by simp) (by rw [hP]; simp) (by simp) (by simp) (by simp) (by simp))
    · exact hJ (true) (yes fun hp => b2 hp.2.1) _ (Wk.relabel [] (by simp) (by simp) (by rw [hP]; simp) (by simp) (by simp) (by simp) (by simp))
    · exact hJ (true) (yes fun hp => by simp [bo, hp.1] at b1) _ (Wk.relabel [] (by simp) (by simp) (by rw [hP]; simp) (by simp) (by simp) (by simp) (by simp))
  clear hK K
  refine w_cond rfl (fun h => ?_) fun h => ?_
  · refine w_sr mo (by rw [hN]; decide) fun K hK => ?_ -- region 3
    simp
    refine hK _ ?_
    clear hK K
    refine w_ret (ret_val rfl (bo_f fun hs => ?_))
    exact hb.1 h hs.Q1
  · have p1 : f.Q1 := Classical.byContradiction fun hn => by rw [hb.2 hn] at h; cases h
    have hS : f.s.Sh := p1.1.1
    have hl1 := hS.lt
    have hl2 := hS.li
    have hl3 : (f.sz.length : Int) = f.s.n := p1.2.1
    have hl4 : f.ac.length = f.s.fr.length := p1.2.2.2
    have hn8 := hS.n8
    have hm40 := hS.m40
    refine w_skip ?_
    refine w_seq ?_
    refine w_sr mo (by rw [hN]; decide) fun K hK => ?_ -- region 4
    simp
    refine hK _ ?_
    clear hK K
    refine w_block ?_
    refine w_loop (fun a : Nat => ⟨[(0, .rptr [.val (.int .i64 f.s.n), .lst u 1 (Is f.s.fr), .lst u 1 (Is f.s.to), .lst u 1 (Is f.s.id), .lst u 1 (Ls f.s.cs), .lst u 1 (Is f.sz), .lst u 1 (Ls f.ac)]), (3, .rptr [.val (.int .i64 f.s.n), .lst u 1 (Is f.s.fr), .lst u 1 (Is f.s.to), .lst u 1 (Is f.s.id), .lst u 1 (Ls f.s.cs), .lst u 1 (Is f.sz), .lst u 1 (Ls f.ac)]), (45, .lst u 1 (Ls f.ac)), (46, .val (.int .i64 f.ac.length)), (47, .val (.int .i64 a))], [], 0⟩) (fun a => a ≤ f.ac.length ∧ ∀ y : Nat, y < a → f.actOk y) (fun a => f.ac.length - a) 0 (by simp) (Wk.relabel [] (by simp) (by simp) (by rw [hP]; simp) (by simp) (by simp) (by simp) (by simp)) ?_
    rintro a ⟨ha0, hi2⟩
    refine w_sr mo (by rw [hN]; decide) fun K hK => ?_ -- region 5
    simp
    refine hK _ ?_
    clear hK K
    refine w_seq ?_
    refine w_cond rfl (fun h => ?_) fun h => ?_
    · simp at h
      have ha : a < f.ac.length := by omega
      clear h
      have a1 := hS.fr' (j := a) (by omega) (by omega)
      have a2 := hS.to' (j := a) (by omega) (by omega)
      have a3 := all_ix p1.2.2.1 (j := ix f.s.to a) (by omega) (by omega)
      refine w_skip ?_
      refine w_seq ?_
      refine w_block ?_
      refine w_sr mo (by rw [hN]; decide) fun K hK => ?_ -- region 6
      simp [at_ix, at_rx, ix_max, rx_max, ha]
      refine hK _ ?_
      clear hK K
      refine w_sr mo (by rw [hN]; decide) fun K hK => ?_ -- region 7 DRAWN
      simp [at_ix, at_rx, ix_max, rx_max, ha, hl1, a1.1, a2.1, show (a : Int) < f.s.fr.length by omega, show a < f.s.fr.length by omega, show ix f.s.fr a < f.sz.length by omega, show ix f.s.to a < f.sz.length by omega]
      refine callA_intro (c62 true (rx f.ac a) (ix f.sz (ix f.s.fr a)) (ix f.sz (ix f.s.to a)) ⟨by omega, by omega⟩) (.cons .lst (.cons .val (.cons .val .nil))) ?_
      simp [unk, unA, unE, flat]
      refine hK _ ?_
      clear hK K
      refine w_cond rfl (fun h => ?_) fun h => ?_
      · have hn : ¬ f.actOk a := by simp [SF.actOk]; simp at h; grind
        refine w_sr mo (by rw [hN]; decide) fun K hK => ?_ -- region 8
        simp
        refine hK _ ?_
        clear hK K
        refine w_ret (ret_val rfl (bo_f fun hs => ?_))
        exact hn (hs.act a ha)
      · have hc : f.actOk a := by simp [SF.actOk]; simp at h; grind
        refine w_skip ?_
        refine w_run mo (by rw [hN]; decide) fun K hK => ?_ -- region 9
        simp
        refine hK _ ?_
        clear hK K
        rw [wrap_succ (n := f.ac.length) (by omega) (by omega)]
        refine ⟨a + 1, ⟨by omega, all_succ hi2 hc⟩, by dsimp only; omega, (Wk.relabel [] (by simp) (by simp) (by rw [hP]; simp) (by simp) (by simp) (by simp) (by simp))⟩
    · simp at h
      have ha2 : f.ac.length ≤ a := by omega
      clear h
      refine w_exit ?_
      simp
      refine w_sr mo (by rw [hN]; decide) fun K hK => ?_ -- region 10
      simp
      refine hK _ ?_
      clear hK K
      refine w_ret (ret_val rfl (bo_t ?_))
      exact ⟨p1.1, hl3, hl4, p1.2.2.1, fun y hy => hi2 y (by omega)⟩

end Go.Vc.T

namespace Go.Vc.T
open Go Go.Vc Go.Proofs

def SF.un (f : SF) (x e : Nat) : Prop := ix (rx f.ac (ix f.s.id x)) e = e
def SF.as (f : SF) (a b e : Nat) : Prop := ix f.s.to a = ix f.s.fr b → ix (rx f.ac (ix (rx f.s.cs a) b)) e = ix (rx f.ac b) (ix (rx f.ac a) e)
def SF.lu (f : SF) (x : Nat) : Nat := (rx f.ac (ix f.s.id x)).length
def SF.la (f : SF) (a : Nat) : Nat := (rx f.ac a).length

open Classical in
noncomputable def SF.f1 (f : SF) (x e : Nat) : Option (Int × Int × Int × Int) := if f.un x e then none else some (1, (x : Int), (e : Int), 0)
open Classical in
noncomputable def SF.f2 (f : SF) (a b e : Nat) : Option (Int × Int × Int × Int) := if f.as a b e then none else some (2, (a : Int), (b : Int), (e : Int))
noncomputable def SF.fault (f : SF) : Option (Int × Int × Int × Int) := match first (fun x => first (fun e => f.f1 x e) (f.lu x)) f.s.id.length with
  | some x => some x
  | none => first (fun a => first (fun b => first (fun e => f.f2 a b e) (f.la a)) f.s.fr.length) f.s.fr.length

def SF.Law (f : SF) : Prop := (∀ x, x < f.s.id.length → ∀ e, e < f.lu x → f.un x e) ∧ ∀ a, a < f.s.fr.length → ∀ b, b < f.s.fr.length → ∀ e, e < f.la a → f.as a b e

section
variable {f : SF}
theorem sfault_at1 {x e : Nat} (hx : x < f.s.id.length) (he : e < f.lu x) (h1 : ∀ y, y < x → ∀ e, e < f.lu y → f.un y e) (h2 : ∀ y, y < e → f.un x y) (h3 : ¬ f.un x e) : f.fault = some (1, (x : Int), (e : Int), 0) := by
  unfold SF.fault
  rw [first_some (i := x) (a := (1, (x : Int), (e : Int), 0)) (fun j hj => first_none fun e he => by simp [SF.f1, h1 j hj e he]) (first_some (i := e) (fun j hj => by simp [SF.f1, h2 j hj]) (by simp [SF.f1, h3]) he) hx]
theorem sf_un0 (h0 : ∀ x, x < f.s.id.length → ∀ e, e < f.lu x → f.un x e) : first (fun x => first (fun e => f.f1 x e) (f.lu x)) f.s.id.length = none :=
  first_none fun j hj => first_none fun e he => by simp [SF.f1, h0 j hj e he]
theorem sfault_at2 {a b e : Nat} (ha : a < f.s.fr.length) (hb : b < f.s.fr.length) (he : e < f.la a) (h0 : ∀ x, x < f.s.id.length → ∀ e, e < f.lu x → f.un x e) (h1 : ∀ y, y < a → ∀ b, b < f.s.fr.length → ∀ e, e < f.la y → f.as y b e)
    (h2 : ∀ y, y < b → ∀ e, e < f.la a → f.as a y e) (h3 : ∀ y, y < e → f.as a b y) (h4 : ¬ f.as a b e) : f.fault = some (2, (a : Int), (b : Int), (e : Int)) := by
  unfold SF.fault
  rw [sf_un0 h0]
  simp only
  refine first_some (i := a) (fun j hj => first_none fun g hg => first_none fun h hh => by simp [SF.f2, h1 j hj g hg h hh]) ?_ ha
  refine first_some (i := b) (fun j hj => first_none fun h hh => by simp [SF.f2, h2 j hj h hh]) ?_ hb
  refine first_some (i := e) (fun j hj => by simp [SF.f2, h3 j hj]) ?_ he
  simp [SF.f2, h4]
theorem sfault_none (h0 : ∀ x, x < f.s.id.length → ∀ e, e < f.lu x → f.un x e) (h1 : ∀ y, y < f.s.fr.length → ∀ b, b < f.s.fr.length → ∀ e, e < f.la y → f.as y b e) : f.fault = none := by
  unfold SF.fault
  rw [sf_un0 h0]
  exact first_none fun a ha => first_none fun g hg => first_none fun h hh => by simp [SF.f2, h1 a ha g hg h hh]

theorem first_key {α : Type} (Q : α → Prop) {p : Nat → Option α} (hp : ∀ i a, p i = some a → Q a) : ∀ n a, first p n = some a → Q a := by
  intro n
  induction n with
  | zero => intro a h; cases h
  | succ n ih =>
    intro a h
    simp only [first] at h
    split at h
    · rename_i x hx; cases h; exact ih _ hx
    · exact hp _ _ h

theorem sfault_zero : (f.fault.getD (0, 0, 0, 0)).1 = 0 ↔ f.Law := by
  refine ⟨fun h => ?_, fun h => by rw [sfault_none h.1 h.2]; rfl⟩
  unfold SF.fault at h
  cases hq : first (fun x => first (fun e => f.f1 x e) (f.lu x)) f.s.id.length with
  | some x =>
    rw [hq] at h
    have := first_key (fun x : Int × Int × Int × Int => x.1 = 1) (fun x a ha => first_key (fun x : Int × Int × Int × Int => x.1 = 1) (fun e a ha => by
      simp only [SF.f1] at ha
      split at ha
      · cases ha
      · cases ha; rfl) _ _ ha) _ _ hq
    simp [this] at h
  | none =>
    rw [hq] at h
    simp only at h
    cases hr : first (fun a => first (fun b => first (fun e => f.f2 a b e) (f.la a)) f.s.fr.length) f.s.fr.length with
    | some x =>
      rw [hr] at h
      have := first_key (fun x : Int × Int × Int × Int => x.1 = 2) (fun x a ha => first_key (fun x : Int × Int × Int × Int => x.1 = 2) (fun e a ha => first_key (fun x : Int × Int × Int × Int => x.1 = 2) (fun e a ha => by
        simp only [SF.f2] at ha
        split at ha
        · cases ha
        · cases ha; rfl) _ _ ha) _ _ ha) _ _ hr
      simp [this] at h
    | none =>
      refine ⟨fun x hx e he => ?_, fun a ha b hb e he => ?_⟩
      · have := first_out (first_out hq x hx) e he
        simpa [SF.f1] using this
      · have := first_out (first_out (first_out hr a ha) b hb) e he
        simpa [SF.f2] using this

theorem SF.Sh.len' (hs : f.Sh) {j : Int} (h0 : 0 ≤ j) (h1 : j < f.s.fr.length) : ((rx f.ac j).length : Int) = ix f.sz (ix f.s.fr j) := by
  have := (hs.act j.toNat (by have := hs.la; omega)).1
  rwa [Int.toNat_of_nonneg h0] at this
theorem SF.Sh.val' (hs : f.Sh) {j e : Int} (h0 : 0 ≤ j) (h1 : j < f.s.fr.length) (h2 : 0 ≤ e) (h3 : e < (rx f.ac j).length) : 0 ≤ ix (rx f.ac j) e ∧ ix (rx f.ac j) e < ix f.sz (ix f.s.to j) := by
  have := (hs.act j.toNat (by have := hs.la; omega)).2
  rw [Int.toNat_of_nonneg h0] at this
  exact all_ix this h2 h3
end

theorem c40 (u : Bool) (f : SF) (hs : f.Sh) : Contract Try.prog 40 [.agg (f.cells u)] (.tup (four f.fault)) := by
  refine contract_intro (rs := four f.fault) Try.func40 rfl rfl rfl rfl (by simp [Try.f40]) fun F hN hP => ?_
  have hC := hs.cat.1
  have hl1 := hC.lt
  have hl2 := hC.li
  have hl3 := hs.ls
  have hl4 := hs.la
  have hl5 := hC.lc
  have hm40 := hC.m40
  have hn8 := hC.n8
  refine w_sr mo (by rw [hN]; decide) fun K hK => ?_ -- region 0
  simp [SF.cells]
  refine hK _ ?_
  clear hK K
  refine w_sr mo (by rw [hN]; decide) fun K hK => ?_ -- region 1
  simp
  refine hK _ ?_
  clear hK K
  refine w_seq ?_
  refine w_sr mo (by rw [hN]; decide) fun K hK => ?_ -- region 2
  simp
  refine hK _ ?_
  clear hK K
  refine w_block ?_
  refine w_loop (fun x : Nat => ⟨[(1, .adr 0 0 0), (6, .adr 1 0 0), (7, .val (.int .i64 x))], [(0, .mix 7 [[.val (.int .i64 f.s.n), .lst u 1 (Is f.s.fr), .lst u 1 (Is f.s.to), .lst u 1 (Is f.s.id), .lst u 1 (Ls f.s.cs), .lst u 1 (Is f.sz), .lst u 1 (Ls f.ac)]]), (1, .mix 5 [[.val (.int .i64 f.s.n), .lst u 1 (Is f.s.fr), .lst u 1 (Is f.s.to), .lst u 1 (Is f.s.id), .lst u 1 (Ls f.s.cs)]])], 2⟩) (fun x => x ≤ f.s.id.length ∧ ∀ y : Nat, y < x → ∀ e : Nat, e < f.lu y → f.un y e) (fun x => f.s.id.length - x) 0 (by simp) (Wk.rel [(0, 0), (1, 1)] (by simp) (by simp) (by rw [hP]; simp) (by simp) (by simp) (by simp) (by simp [hhOk, back])) ?_
  rintro x ⟨hx0, hi0⟩
  refine w_seq ?_
  refine w_sr mo (by rw [hN]; decide) fun K hK => ?_ -- region 3
  simp
  refine hK _ ?_
  clear hK K
  refine w_cond rfl (fun h => ?_) fun h => ?_
  · simp at h
    have hx : x < f.s.id.length := by omega
    clear h
    have c1 := hC.id' (j := x) (by omega) (by omega)
    have c2 := hC.ids x hx
    have c3 := hs.len' c1.1 c1.2
    rw [c2.1] at c3
    have c4 : (f.lu x : Int) = ix f.sz x := c3
    have c5 := all_ix hs.sz (j := x) (by omega) (by omega)
    refine w_skip ?_
    refine w_seq ?_
    refine w_block ?_
    refine w_sr mo (by rw [hN]; decide) fun K hK => ?_ -- region 5
    simp
    refine hK _ ?_
    clear hK K
    refine w_block ?_
    refine w_loop (fun e : Nat => ⟨[(1, .adr 0 0 0), (6, .adr 1 0 0), (7, .val (.int .i64 x)), (8, .val (.int .i64 e))], [(0, .mix 7 [[.val (.int .i64 f.s.n), .lst u 1 (Is f.s.fr), .lst u 1 (Is f.s.to), .lst u 1 (Is f.s.id), .lst u 1 (Ls f.s.cs), .lst u 1 (Is f.sz), .lst u 1 (Ls f.ac)]]), (1, .mix 5 [[.val (.int .i64 f.s.n), .lst u 1 (Is f.s.fr), .lst u 1 (Is f.s.to), .lst u 1 (Is f.s.id), .lst u 1 (Ls f.s.cs)]])], 2⟩) (fun e => e ≤ f.lu x ∧ ∀ y : Nat, y < e → f.un x y) (fun e => f.lu x - e) 0 (by simp) (Wk.rel [(0, 0), (1, 1)] (by simp) (by simp) (by rw [hP]; simp) (by simp) (by simp) (by simp) (by simp [hhOk, back])) ?_
    rintro e ⟨he0, hi2⟩
    refine w_seq ?_
    refine w_sr mo (by rw [hN]; decide) fun K hK => ?_ -- region 6
    simp [at_ix, at_rx, ix_max, rx_max, show x < f.sz.length by omega]
    refine hK _ ?_
    clear hK K
    refine w_cond rfl (fun h => ?_) fun h => ?_
    · simp at h
      have he : e < f.lu x := by first | omega | (simp only [SF.lu]; omega)
      clear h
      have he3 : e < (rx f.ac (ix f.s.id x)).length := he
      refine w_skip ?_
      refine w_seq ?_
      refine w_block ?_
      refine w_sr mo (by rw [hN]; decide) fun K hK => ?_ -- region 8 DRAWN
      simp [at_ix, at_rx, ix_max, rx_max, hl1, hl4, hl5, hx, c1.1, c1.2, he3]
      refine hK _ ?_
      clear hK K
      refine w_cond rfl (fun h => ?_) fun h => ?_
      · simp at h
        have hn : ¬ f.un x e := h
        refine w_sr mo (by rw [hN]; decide) fun K hK => ?_ -- region 9
        simp
        refine hK _ ?_
        clear hK K
        refine w_ret ?_
        rw [sfault_at1 hx he hi0 hi2 hn]
        refine ⟨.one rfl rfl (.one rfl rfl (.one rfl rfl (.one rfl rfl .nil))), _, [], rfl, by simp, UpL.refl _⟩
      · simp at h
        have hc : f.un x e := h
        refine w_skip ?_
        refine w_run mo (by rw [hN]; decide) fun K hK => ?_ -- region 7
        simp
        refine hK _ ?_
        clear hK K
        rw [wrap_succ (n := f.lu x) (by omega) (by omega)]
        refine ⟨e + 1, ⟨by omega, all_succ hi2 hc⟩, by dsimp only; omega, (Wk.rel [(0, 0), (1, 1)] (by simp) (by simp) (by rw [hP]; simp) (by simp) (by simp) (by simp) (by simp [hhOk, back]))⟩
    · simp at h
      have he2 : f.lu x ≤ e := by first | omega | (simp only [SF.lu]; omega)
      clear h
      refine w_exit ?_
      simp
      refine w_run mo (by rw [hN]; decide) fun K hK => ?_ -- region 4
      simp
      refine hK _ ?_
      clear hK K
      rw [wrap_succ (n := f.s.id.length) (by omega) (by omega)]
      refine ⟨x + 1, ⟨by omega, all_succ hi0 fun y hy => hi2 y (by omega)⟩, by dsimp only; omega, (Wk.rel [(0, 0), (1, 1)] (by simp) (by simp) (by rw [hP]; simp) (by simp) (by simp) (by simp) (by simp [hhOk, back]))⟩
  · simp at h
    have hx2 : f.s.id.length ≤ x := by omega
    clear h
    have hi1 : ∀ y : Nat, y < f.s.id.length → ∀ e : Nat, e < f.lu y → f.un y e := fun y hy => hi0 y (by omega)
    refine w_exit ?_
    simp
    refine w_seq ?_
    refine w_sr mo (by rw [hN]; decide) fun K hK => ?_ -- region 10
    simp
    refine hK _ ?_
    clear hK K
    refine w_block ?_
    refine w_loop (fun a : Nat => ⟨[(1, .adr 0 0 0), (6, .adr 1 0 0), (9, .val (.int .i64 a))], [(0, .mix 7 [[.val (.int .i64 f.s.n), .lst u 1 (Is f.s.fr), .lst u 1 (Is f.s.to), .lst u 1 (Is f.s.id), .lst u 1 (Ls f.s.cs), .lst u 1 (Is f.sz), .lst u 1 (Ls f.ac)]]), (1, .mix 5 [[.val (.int .i64 f.s.n), .lst u 1 (Is f.s.fr), .lst u 1 (Is f.s.to), .lst u 1 (Is f.s.id), .lst u 1 (Ls f.s.cs)]])], 2⟩) (fun a => a ≤ f.s.fr.length ∧ ∀ y : Nat, y < a → ∀ b : Nat, b < f.s.fr.length → ∀ e : Nat, e < f.la y → f.as y b e) (fun a => f.s.fr.length - a) 0 (by simp) (Wk.rel [(0, 0), (1, 1)] (by simp) (by simp) (by rw [hP]; simp) (by simp) (by simp) (by simp) (by simp [hhOk, back])) ?_
    clear hi0 hx2 hx0 x
    rintro a ⟨ha0, hi3⟩
    refine w_seq ?_
    refine w_sr mo (by rw [hN]; decide) fun K hK => ?_ -- region 11
    simp
    refine hK _ ?_
    clear hK K
    refine w_cond rfl (fun h => ?_) fun h => ?_
    · simp at h
      have ha : a < f.s.fr.length := by omega
      clear h
      have c1 := hC.fr' (j := a) (by omega) (by omega)
      have c2 := hC.row' (j := a) (by omega) (by omega)
      have c3 : (f.la a : Int) = ix f.sz (ix f.s.fr a) := hs.len' (j := a) (by omega) (by omega)
      have c5 := all_ix hs.sz (j := ix f.s.fr a) (by omega) (by omega)
      refine w_skip ?_
      refine w_seq ?_
      refine w_block ?_
      refine w_sr mo (by rw [hN]; decide) fun K hK => ?_ -- region 13
      simp
      refine hK _ ?_
      clear hK K
      refine w_block ?_
      refine w_loop (fun b : Nat => ⟨[(1, .adr 0 0 0), (6, .adr 1 0 0), (9, .val (.int .i64 a)), (10, .val (.int .i64 b))], [(0, .mix 7 [[.val (.int .i64 f.s.n), .lst u 1 (Is f.s.fr), .lst u 1 (Is f.s.to), .lst u 1 (Is f.s.id), .lst u 1 (Ls f.s.cs), .lst u 1 (Is f.sz), .lst u 1 (Ls f.ac)]]), (1, .mix 5 [[.val (.int .i64 f.s.n), .lst u 1 (Is f.s.fr), .lst u 1 (Is f.s.to), .lst u 1 (Is f.s.id), .lst u 1 (Ls f.s.cs)]])], 2⟩) (fun b => b ≤ f.s.fr.length ∧ ∀ y : Nat, y < b → ∀ e : Nat, e < f.la a → f.as a y e) (fun b => f.s.fr.length - b) 0 (by simp) (Wk.rel [(0, 0), (1, 1)] (by simp) (by simp) (by rw [hP]; simp) (by simp) (by simp) (by simp) (by simp [hhOk, back])) ?_
      rintro b ⟨hb0, hi4⟩
      refine w_seq ?_
      refine w_sr mo (by rw [hN]; decide) fun K hK => ?_ -- region 14
      simp
      refine hK _ ?_
      clear hK K
      refine w_cond rfl (fun h => ?_) fun h => ?_
      · simp at h
        have hb : b < f.s.fr.length := by omega
        clear h
        refine w_skip ?_
        refine w_seq ?_
        refine w_block ?_
        refine w_seq ?_
        refine w_sr mo (by rw [hN]; decide) fun K hK => ?_ -- region 16 DRAWN
        simp [at_ix, at_rx, ix_max, rx_max, hl1, hl4, hl5, ha, hb]
        refine hK _ ?_
        clear hK K
        refine w_cond rfl (fun e1 => ?_) fun e1 => ?_
        · simp at e1
          have hc : ∀ e : Nat, e < f.la a → f.as a b e := fun e _ q => absurd q e1
          refine w_exit ?_
          simp
          refine w_run mo (by rw [hN]; decide) fun K hK => ?_ -- region 15
          simp
          refine hK _ ?_
          clear hK K
          rw [wrap_succ (n := f.s.fr.length) (by omega) (by omega)]
          refine ⟨b + 1, ⟨by omega, all_succ hi4 hc⟩, by dsimp only; omega, (Wk.rel [(0, 0), (1, 1)] (by simp) (by simp) (by rw [hP]; simp) (by simp) (by simp) (by simp) (by simp [hhOk, back]))⟩
        · simp at e1
          have d0 := (hC.cell' (f := a) (g := b) (by omega) (by omega) (by omega) (by omega)).2 e1
          have d1 := hs.len' (j := b) (by omega) (by omega)
          have d2 := hs.len' d0.1 d0.2.1
          rw [d0.2.2.1] at d2
          rw [← e1] at d1
          refine w_skip ?_
          refine w_sr mo (by rw [hN]; decide) fun K hK => ?_ -- region 17
          simp
          refine hK _ ?_
          clear hK K
          refine w_block ?_
          refine w_loop (fun e : Nat => ⟨[(1, .adr 0 0 0), (6, .adr 1 0 0), (9, .val (.int .i64 a)), (10, .val (.int .i64 b)), (11, .val (.int .i64 e))], [(0, .mix 7 [[.val (.int .i64 f.s.n), .lst u 1 (Is f.s.fr), .lst u 1 (Is f.s.to), .lst u 1 (Is f.s.id), .lst u 1 (Ls f.s.cs), .lst u 1 (Is f.sz), .lst u 1 (Ls f.ac)]]), (1, .mix 5 [[.val (.int .i64 f.s.n), .lst u 1 (Is f.s.fr), .lst u 1 (Is f.s.to), .lst u 1 (Is f.s.id), .lst u 1 (Ls f.s.cs)]])], 2⟩) (fun e => e ≤ f.la a ∧ ∀ y : Nat, y < e → f.as a b y) (fun e => f.la a - e) 0 (by simp) (Wk.rel [(0, 0), (1, 1)] (by simp) (by simp) (by rw [hP]; simp) (by simp) (by simp) (by simp) (by simp [hhOk, back])) ?_
          rintro e ⟨he0, hi5⟩
          refine w_seq ?_
          refine w_sr mo (by rw [hN]; decide) fun K hK => ?_ -- region 18 DRAWN
          simp [at_ix, at_rx, ix_max, rx_max, hl1, hl4, hl5, ha, c1.1, c1.2, show ix f.s.fr a < f.sz.length by omega]
          refine hK _ ?_
          clear hK K
          refine w_cond rfl (fun h => ?_) fun h => ?_
          · simp at h
            have he : e < f.la a := by first | omega | (simp only [SF.la]; omega)
            clear h
            have he3 : e < (rx f.ac a).length := he
            have d3 := hs.val' (j := a) (e := e) (by omega) (by omega) (by omega) (by simp only [SF.la] at he; omega)
            refine w_skip ?_
            refine w_seq ?_
            refine w_block ?_
            refine w_sr mo (by rw [hN]; decide) fun K hK => ?_ -- region 20 DRAWN
            simp [at_ix, at_rx, ix_max, rx_max, hl1, hl4, hl5, c2, ha, hb, d0.1, d3.1, he3, d0.2.1, show ix (rx f.ac a) e < (rx f.ac b).length by omega, show e < (rx f.ac (ix (rx f.s.cs a) b)).length by omega]
            refine hK _ ?_
            clear hK K
            refine w_cond rfl (fun h => ?_) fun h => ?_
            · simp at h
              have hn : ¬ f.as a b e := fun q => h (q e1)
              refine w_sr mo (by rw [hN]; decide) fun K hK => ?_ -- region 21
              simp
              refine hK _ ?_
              clear hK K
              refine w_ret ?_
              rw [sfault_at2 ha hb he hi1 hi3 hi4 hi5 hn]
              refine ⟨.one rfl rfl (.one rfl rfl (.one rfl rfl (.one rfl rfl .nil))), _, [], rfl, by simp, UpL.refl _⟩
            · simp at h
              have hc : f.as a b e := fun _ => h
              refine w_skip ?_
              refine w_run mo (by rw [hN]; decide) fun K hK => ?_ -- region 19
              simp
              refine hK _ ?_
              clear hK K
              rw [wrap_succ (n := f.la a) (by omega) (by omega)]
              refine ⟨e + 1, ⟨by omega, all_succ hi5 hc⟩, by dsimp only; omega, (Wk.rel [(0, 0), (1, 1)] (by simp) (by simp) (by rw [hP]; simp) (by simp) (by simp) (by simp) (by simp [hhOk, back]))⟩
          · simp at h
            have he2 : f.la a ≤ e := by first | omega | (simp only [SF.la]; omega)
            clear h
            have hc : ∀ e : Nat, e < f.la a → f.as a b e := fun y hy => hi5 y (by omega)
            refine w_exit ?_
            simp
            refine w_run mo (by rw [hN]; decide) fun K hK => ?_ -- region 15
            simp
            refine hK _ ?_
            clear hK K
            rw [wrap_succ (n := f.s.fr.length) (by omega) (by omega)]
            refine ⟨b + 1, ⟨by omega, all_succ hi4 hc⟩, by dsimp only; omega, (Wk.rel [(0, 0), (1, 1)] (by simp) (by simp) (by rw [hP]; simp) (by simp) (by simp) (by simp) (by simp [hhOk, back]))⟩
      · simp at h
        have hb2 : f.s.fr.length ≤ b := by omega
        clear h
        refine w_exit ?_
        simp
        refine w_run mo (by rw [hN]; decide) fun K hK => ?_ -- region 12
        simp
        refine hK _ ?_
        clear hK K
        rw [wrap_succ (n := f.s.fr.length) (by omega) (by omega)]
        refine ⟨a + 1, ⟨by omega, all_succ hi3 fun y hy => hi4 y (by omega)⟩, by dsimp only; omega, (Wk.rel [(0, 0), (1, 1)] (by simp) (by simp) (by rw [hP]; simp) (by simp) (by simp) (by simp) (by simp [hhOk, back]))⟩
    · simp at h
      have ha2 : f.s.fr.length ≤ a := by omega
      clear h
      refine w_exit ?_
      simp
      refine w_sr mo (by rw [hN]; decide) fun K hK => ?_ -- region 22
      simp
      refine hK _ ?_
      clear hK K
      refine w_ret ?_
      rw [sfault_none hi1 fun y hy => hi3 y (by omega)]
      refine ⟨.one rfl rfl (.one rfl rfl (.one rfl rfl (.one rfl rfl .nil))), _, [], rfl, by simp, UpL.refl _⟩

theorem c45 (u : Bool) (f : SF) (hs : f.Sh) : Contract Try.prog 45 [.rptr (f.cells u)] (.tup (four f.fault)) := by
  refine contract_intro (rs := four f.fault) Try.func45 rfl rfl rfl rfl (by simp [Try.f45]) fun F hN hP => ?_
  have hC := hs.cat.1
  have hl1 := hC.lt
  have hl2 := hC.li
  have hl3 := hs.ls
  have hl4 := hs.la
  have hl5 := hC.lc
  have hm40 := hC.m40
  have hn8 := hC.n8
  simp only [SF.cells]
  refine w_sr mo (by rw [hN]; decide) fun K hK => ?_ -- region 0
  simp
  refine hK _ ?_
  clear hK K
  refine w_sr mo (by rw [hN]; decide) fun K hK => ?_ -- region 1
  simp
  refine hK _ ?_
  clear hK K
  refine w_seq ?_
  refine w_sr mo (by rw [hN]; decide) fun K hK => ?_ -- region 2
  simp
  refine hK _ ?_
  clear hK K
  refine w_block ?_
  refine w_loop (fun x : Nat => ⟨[(0, .rptr [.val (.int .i64 f.s.n), .lst u 1 (Is f.s.fr), .lst u 1 (Is f.s.to), .lst u 1 (Is f.s.id), .lst u 1 (Ls f.s.cs), .lst u 1 (Is f.sz), .lst u 1 (Ls f.ac)]), (6, .rptr [.val (.int .i64 f.s.n), .lst u 1 (Is f.s.fr), .lst u 1 (Is f.s.to), .lst u 1 (Is f.s.id), .lst u 1 (Ls f.s.cs), .lst u 1 (Is f.sz), .lst u 1 (Ls f.ac)]), (23, .lst u 1 (Is f.s.id)), (24, .val (.int .i64 f.s.id.length)), (25, .val (.int .i64 x))], [], 0⟩) (fun x => x ≤ f.s.id.length ∧ ∀ y : Nat, y < x → ∀ e : Nat, e < f.lu y → f.un y e) (fun x => f.s.id.length - x) 0 (by simp) (Wk.relabel [] (by simp) (by simp) (by rw [hP]; simp) (by simp) (by simp) (by simp) (by simp)) ?_
  rintro x ⟨hx0, hi0⟩
  refine w_sr mo (by rw [hN]; decide) fun K hK => ?_ -- region 3
  simp
  refine hK _ ?_
  clear hK K
  refine w_seq ?_
  refine w_cond rfl (fun h => ?_) fun h => ?_
  · simp at h
    have hx : x < f.s.id.length := by omega
    clear h
    have c1 := hC.id' (j := x) (by omega) (by omega)
    have c2 := hC.ids x hx
    have c3 := hs.len' c1.1 c1.2
    rw [c2.1] at c3
    have c4 : (f.lu x : Int) = ix f.sz x := c3
    have c5 := all_ix hs.sz (j := x) (by omega) (by omega)
    refine w_skip ?_
    refine w_seq ?_
    refine w_block ?_
    refine w_sr mo (by rw [hN]; decide) fun K hK => ?_ -- region 4
    simp [at_ix, at_rx, ix_max, rx_max, hl1, hl4, hl5, hx]
    refine hK _ ?_
    clear hK K
    refine w_sr mo (by rw [hN]; decide) fun K hK => ?_ -- region 5
    simp [at_ix, at_rx, ix_max, rx_max, hl1, hl4, hl5, c1.1, c1.2]
    refine hK _ ?_
    clear hK K
    refine w_block ?_
    refine w_loop (fun e : Nat => ⟨[(0, .rptr [.val (.int .i64 f.s.n), .lst u 1 (Is f.s.fr), .lst u 1 (Is f.s.to), .lst u 1 (Is f.s.id), .lst u 1 (Ls f.s.cs), .lst u 1 (Is f.sz), .lst u 1 (Ls f.ac)]), (6, .rptr [.val (.int .i64 f.s.n), .lst u 1 (Is f.s.fr), .lst u 1 (Is f.s.to), .lst u 1 (Is f.s.id), .lst u 1 (Ls f.s.cs), .lst u 1 (Is f.sz), .lst u 1 (Ls f.ac)]), (23, .lst u 1 (Is f.s.id)), (24, .val (.int .i64 f.s.id.length)), (25, .val (.int .i64 x)), (7, .val (.int .i64 x)), (36, .lst true 1 (Is (rx f.ac (ix f.s.id x)))), (37, .val (.int .i64 (rx f.ac (ix f.s.id x)).length)), (38, .val (.int .i64 e))], [], 0⟩) (fun e => e ≤ f.lu x ∧ ∀ y : Nat, y < e → f.un x y) (fun e => f.lu x - e) 0 (by simp) (Wk.relabel [] (by simp) (by simp) (by rw [hP]; simp) (by simp) (by simp) (by simp) (by simp)) ?_
    rintro e ⟨he0, hi2⟩
    refine w_sr mo (by rw [hN]; decide) fun K hK => ?_ -- region 6
    simp
    refine hK _ ?_
    clear hK K
    refine w_seq ?_
    refine w_cond rfl (fun h => ?_) fun h => ?_
    · simp at h
      have he : e < f.lu x := by first | omega | (simp only [SF.lu]; omega)
      clear h
      have he3 : e < (rx f.ac (ix f.s.id x)).length := he
      refine w_skip ?_
      refine w_seq ?_
      refine w_block ?_
      refine w_sr mo (by rw [hN]; decide) fun K hK => ?_ -- region 7
      simp [at_ix, at_rx, ix_max, rx_max, hl1, hl4, hl5, he3]
      refine hK _ ?_
      clear hK K
      refine w_sr mo (by rw [hN]; decide) fun K hK => ?_ -- region 8
      simp
      refine hK _ ?_
      clear hK K
      refine w_cond rfl (fun h => ?_) fun h => ?_
      · simp at h
        have hn : ¬ f.un x e := h
        refine w_sr mo (by rw [hN]; decide) fun K hK => ?_ -- region 9
        simp
        refine hK _ ?_
        clear hK K
        refine w_ret ?_
        rw [sfault_at1 hx he hi0 hi2 hn]
        refine ⟨.one rfl rfl (.one rfl rfl (.one rfl rfl (.one rfl rfl .nil))), _, [], rfl, by simp, UpL.refl _⟩
      · simp at h
        have hc : f.un x e := h
        refine w_skip ?_
        refine w_run mo (by rw [hN]; decide) fun K hK => ?_ -- region 10
        simp
        refine hK _ ?_
        clear hK K
        rw [wrap_succ (n := f.lu x) (by omega) (by omega)]
        refine ⟨e + 1, ⟨by omega, all_succ hi2 hc⟩, by dsimp only; omega, (Wk.relabel [] (by simp) (by simp) (by rw [hP]; simp) (by simp) (by simp) (by simp) (by simp))⟩
    · simp at h
      have he2 : f.lu x ≤ e := by first | omega | (simp only [SF.lu]; omega)
      clear h
      refine w_exit ?_
      simp
      refine w_run mo (by rw [hN]; decide) fun K hK => ?_ -- region 11
      simp
      refine hK _ ?_
      clear hK K
      rw [wrap_succ (n := f.s.id.length) (by omega) (by omega)]
      refine ⟨x + 1, ⟨by omega, all_succ hi0 fun y hy => hi2 y (by omega)⟩, by dsimp only; omega, (Wk.relabel [] (by simp) (by simp) (by rw [hP]; simp) (by simp) (by simp) (by simp) (by simp))⟩
  · simp at h
    have hx2 : f.s.id.length ≤ x := by omega
    clear h
    have hi1 : ∀ y : Nat, y < f.s.id.length → ∀ e : Nat, e < f.lu y → f.un y e := fun y hy => hi0 y (by omega)
    refine w_exit ?_
    simp
    refine w_seq ?_
    refine w_sr mo (by rw [hN]; decide) fun K hK => ?_ -- region 12
    simp [hl5]
    refine hK _ ?_
    clear hK K
    refine w_block ?_
    refine w_loop (fun a : Nat => ⟨[(0, .rptr [.val (.int .i64 f.s.n), .lst u 1 (Is f.s.fr), .lst u 1 (Is f.s.to), .lst u 1 (Is f.s.id), .lst u 1 (Ls f.s.cs), .lst u 1 (Is f.sz), .lst u 1 (Ls f.ac)]), (6, .rptr [.val (.int .i64 f.s.n), .lst u 1 (Is f.s.fr), .lst u 1 (Is f.s.to), .lst u 1 (Is f.s.id), .lst u 1 (Ls f.s.cs), .lst u 1 (Is f.sz), .lst u 1 (Ls f.ac)]), (53, .lst u 1 (Ls f.s.cs)), (54, .val (.int .i64 f.s.fr.length)), (55, .val (.int .i64 a))], [], 0⟩) (fun a => a ≤ f.s.fr.length ∧ ∀ y : Nat, y < a → ∀ b : Nat, b < f.s.fr.length → ∀ e : Nat, e < f.la y → f.as y b e) (fun a => f.s.fr.length - a) 0 (by simp) (Wk.relabel [] (by simp) (by simp) (by rw [hP]; simp) (by simp) (by simp) (by simp) (by simp)) ?_
    clear hi0 hx2 hx0 x
    rintro a ⟨ha0, hi3⟩
    refine w_sr mo (by rw [hN]; decide) fun K hK => ?_ -- region 13
    simp
    refine hK _ ?_
    clear hK K
    refine w_seq ?_
    refine w_cond rfl (fun h => ?_) fun h => ?_
    · simp at h
      have ha : a < f.s.fr.length := by omega
      clear h
      have c1 := hC.fr' (j := a) (by omega) (by omega)
      have c2 := hC.row' (j := a) (by omega) (by omega)
      have c3 : (f.la a : Int) = ix f.sz (ix f.s.fr a) := hs.len' (j := a) (by omega) (by omega)
      have c5 := all_ix hs.sz (j := ix f.s.fr a) (by omega) (by omega)
      refine w_skip ?_
      refine w_seq ?_
      refine w_block ?_
      refine w_sr mo (by rw [hN]; decide) fun K hK => ?_ -- region 14
      simp [at_ix, at_rx, ix_max, rx_max, hl1, hl4, hl5, ha]
      refine hK _ ?_
      clear hK K
      refine w_sr mo (by rw [hN]; decide) fun K hK => ?_ -- region 15
      simp [c2]
      refine hK _ ?_
      clear hK K
      refine w_block ?_
      refine w_loop (fun b : Nat => ⟨[(0, .rptr [.val (.int .i64 f.s.n), .lst u 1 (Is f.s.fr), .lst u 1 (Is f.s.to), .lst u 1 (Is f.s.id), .lst u 1 (Ls f.s.cs), .lst u 1 (Is f.sz), .lst u 1 (Ls f.ac)]), (6, .rptr [.val (.int .i64 f.s.n), .lst u 1 (Is f.s.fr), .lst u 1 (Is f.s.to), .lst u 1 (Is f.s.id), .lst u 1 (Ls f.s.cs), .lst u 1 (Is f.sz), .lst u 1 (Ls f.ac)]), (53, .lst u 1 (Ls f.s.cs)), (54, .val (.int .i64 f.s.fr.length)), (55, .val (.int .i64 a)), (11, .val (.int .i64 a)), (60, .lst true 1 (Is (rx f.s.cs a))), (61, .val (.int .i64 f.s.fr.length)), (62, .val (.int .i64 b))], [], 0⟩) (fun b => b ≤ f.s.fr.length ∧ ∀ y : Nat, y < b → ∀ e : Nat, e < f.la a → f.as a y e) (fun b => f.s.fr.length - b) 0 (by simp) (Wk.relabel [] (by simp) (by simp) (by rw [hP]; simp) (by simp) (by simp) (by simp) (by simp)) ?_
      rintro b ⟨hb0, hi4⟩
      refine w_sr mo (by rw [hN]; decide) fun K hK => ?_ -- region 16
      simp
      refine hK _ ?_
      clear hK K
      refine w_seq ?_
      refine w_cond rfl (fun h => ?_) fun h => ?_
      · simp at h
        have hb : b < f.s.fr.length := by omega
        clear h
        refine w_skip ?_
        refine w_seq ?_
        refine w_block ?_
        refine w_sr mo (by rw [hN]; decide) fun K hK => ?_ -- region 17
        simp [at_ix, at_rx, ix_max, rx_max, hl1, hl4, hl5, c2, hb]
        refine hK _ ?_
        clear hK K
        refine w_seq ?_
        refine w_sr mo (by rw [hN]; decide) fun K hK => ?_ -- region 18
        simp
        refine hK _ ?_
        clear hK K
        refine w_cond rfl (fun e0 => ?_) fun e0 => ?_
        · simp at e0
          have e1 : ¬ ix f.s.to a = ix f.s.fr b := fun q => by have := ((hC.cell' (f := a) (g := b) (by omega) (by omega) (by omega) (by omega)).2 q).1; omega
          have hc : ∀ e : Nat, e < f.la a → f.as a b e := fun e _ q => absurd q e1
          refine w_exit ?_
          simp
          refine w_run mo (by rw [hN]; decide) fun K hK => ?_ -- region 25
          simp
          refine hK _ ?_
          clear hK K
          rw [wrap_succ (n := f.s.fr.length) (by omega) (by omega)]
          refine ⟨b + 1, ⟨by omega, all_succ hi4 hc⟩, by dsimp only; omega, (Wk.relabel [] (by simp) (by simp) (by rw [hP]; simp) (by simp) (by simp) (by simp) (by simp))⟩
        · simp at e0
          have e1 : ix f.s.to a = ix f.s.fr b := Classical.byContradiction fun q => by have := (hC.cell' (f := a) (g := b) (by omega) (by omega) (by omega) (by omega)).1 q; omega
          have d0 := (hC.cell' (f := a) (g := b) (by omega) (by omega) (by omega) (by omega)).2 e1
          have d1 := hs.len' (j := b) (by omega) (by omega)
          have d2 := hs.len' d0.1 d0.2.1
          rw [d0.2.2.1] at d2
          rw [← e1] at d1
          refine w_skip ?_
          refine w_sr mo (by rw [hN]; decide) fun K hK => ?_ -- region 19
          simp [at_ix, at_rx, ix_max, rx_max, hl1, hl4, hl5, ha]
          refine hK _ ?_
          clear hK K
          refine w_block ?_
          refine w_loop (fun e : Nat => ⟨[(0, .rptr [.val (.int .i64 f.s.n), .lst u 1 (Is f.s.fr), .lst u 1 (Is f.s.to), .lst u 1 (Is f.s.id), .lst u 1 (Ls f.s.cs), .lst u 1 (Is f.sz), .lst u 1 (Ls f.ac)]), (6, .rptr [.val (.int .i64 f.s.n), .lst u 1 (Is f.s.fr), .lst u 1 (Is f.s.to), .lst u 1 (Is f.s.id), .lst u 1 (Ls f.s.cs), .lst u 1 (Is f.sz), .lst u 1 (Ls f.ac)]), (53, .lst u 1 (Ls f.s.cs)), (54, .val (.int .i64 f.s.fr.length)), (55, .val (.int .i64 a)), (11, .val (.int .i64 a)), (60, .lst true 1 (Is (rx f.s.cs a))), (61, .val (.int .i64 f.s.fr.length)), (62, .val (.int .i64 b)), (13, .val (.int .i64 b)), (14, .val (.int .i64 (ix (rx f.s.cs a) b))), (75, .lst true 1 (Is (rx f.ac a))), (76, .val (.int .i64 (rx f.ac a).length)), (77, .val (.int .i64 e))], [], 0⟩) (fun e => e ≤ f.la a ∧ ∀ y : Nat, y < e → f.as a b y) (fun e => f.la a - e) 0 (by simp) (Wk.relabel [] (by simp) (by simp) (by rw [hP]; simp) (by simp) (by simp) (by simp) (by simp)) ?_
          rintro e ⟨he0, hi5⟩
          refine w_sr mo (by rw [hN]; decide) fun K hK => ?_ -- region 20
          simp
          refine hK _ ?_
          clear hK K
          refine w_seq ?_
          refine w_cond rfl (fun h => ?_) fun h => ?_
          · simp at h
            have he : e < f.la a := by first | omega | (simp only [SF.la]; omega)
            clear h
            have he3 : e < (rx f.ac a).length := he
            have d3 := hs.val' (j := a) (e := e) (by omega) (by omega) (by omega) (by simp only [SF.la] at he; omega)
            refine w_skip ?_
            refine w_seq ?_
            refine w_block ?_
            refine w_sr mo (by rw [hN]; decide) fun K hK => ?_ -- region 21
            simp [at_ix, at_rx, ix_max, rx_max, hl1, hl4, hl5, he3]
            refine hK _ ?_
            clear hK K
            refine w_sr mo (by rw [hN]; decide) fun K hK => ?_ -- region 22 DRAWN
            simp [at_ix, at_rx, ix_max, rx_max, hl1, hl4, hl5, hb, d0.1, d3.1, d0.2.1, show ix (rx f.ac a) e < (rx f.ac b).length by omega, show e < (rx f.ac (ix (rx f.s.cs a) b)).length by omega]
            refine hK _ ?_
            clear hK K
            refine w_cond rfl (fun h => ?_) fun h => ?_
            · simp at h
              have hn : ¬ f.as a b e := fun q => h (q e1)
              refine w_sr mo (by rw [hN]; decide) fun K hK => ?_ -- region 23
              simp
              refine hK _ ?_
              clear hK K
              refine w_ret ?_
              rw [sfault_at2 ha hb he hi1 hi3 hi4 hi5 hn]
              refine ⟨.one rfl rfl (.one rfl rfl (.one rfl rfl (.one rfl rfl .nil))), _, [], rfl, by simp, UpL.refl _⟩
            · simp at h
              have hc : f.as a b e := fun _ => h
              refine w_skip ?_
              refine w_run mo (by rw [hN]; decide) fun K hK => ?_ -- region 24
              simp
              refine hK _ ?_
              clear hK K
              rw [wrap_succ (n := f.la a) (by omega) (by omega)]
              refine ⟨e + 1, ⟨by omega, all_succ hi5 hc⟩, by dsimp only; omega, (Wk.relabel [] (by simp) (by simp) (by rw [hP]; simp) (by simp) (by simp) (by simp) (by simp))⟩
          · simp at h
            have he2 : f.la a ≤ e := by first | omega | (simp only [SF.la]; omega)
            clear h
            have hc : ∀ e : Nat, e < f.la a → f.as a b e := fun y hy => hi5 y (by omega)
            refine w_exit ?_
            simp
            refine w_run mo (by rw [hN]; decide) fun K hK => ?_ -- region 25
            simp
            refine hK _ ?_
            clear hK K
            rw [wrap_succ (n := f.s.fr.length) (by omega) (by omega)]
            refine ⟨b + 1, ⟨by omega, all_succ hi4 hc⟩, by dsimp only; omega, (Wk.relabel [] (by simp) (by simp) (by rw [hP]; simp) (by simp) (by simp) (by simp) (by simp))⟩
      · simp at h
        have hb2 : f.s.fr.length ≤ b := by omega
        clear h
        refine w_exit ?_
        simp
        refine w_run mo (by rw [hN]; decide) fun K hK => ?_ -- region 26
        simp
        refine hK _ ?_
        clear hK K
        rw [wrap_succ (n := f.s.fr.length) (by omega) (by omega)]
        refine ⟨a + 1, ⟨by omega, all_succ hi3 fun y hy => hi4 y (by omega)⟩, by dsimp only; omega, (Wk.relabel [] (by simp) (by simp) (by rw [hP]; simp) (by simp) (by simp) (by simp) (by simp))⟩
    · simp at h
      have ha2 : f.s.fr.length ≤ a := by omega
      clear h
      refine w_exit ?_
      simp
      refine w_sr mo (by rw [hN]; decide) fun K hK => ?_ -- region 27
      simp
      refine hK _ ?_
      clear hK K
      refine w_ret ?_
      rw [sfault_none hi1 fun y hy => hi3 y (by omega)]
      refine ⟨.one rfl rfl (.one rfl rfl (.one rfl rfl (.one rfl rfl .nil))), _, [], rfl, by simp, UpL.refl _⟩

end Go.Vc.T

namespace Go.Vc.T
open Go Go.Vc Go.Proofs

def SF.Is (f : SF) : Prop := f.Sh ∧ f.Law
theorem SF.pur {h : HP} {u v : Bool} {c : SF} : PurL h (c.cells u) (c.cells v) := .cons .val (.cons .lst (.cons .lst (.cons .lst (.cons .lst (.cons .lst (.cons .lst .nil))))))

theorem c16 (u : Bool) (f : SF) : Contract Try.prog 16 [.agg (f.cells u)] (.val (.bool (bo f.Is))) := by
  refine contract_intro (rs := [.val (.bool (bo f.Is))]) Try.func16 rfl rfl rfl rfl (by simp [Try.f16]) fun F hN hP => ?_
  refine w_sr mo (by rw [hN]; decide) fun K hK => ?_ -- region 0
  simp [SF.cells]
  refine hK _ ?_
  clear hK K
  refine w_seq ?_
  refine w_sr mo (by rw [hN]; decide) fun K hK => ?_ -- region 1
  simp
  refine callA_intro (c39 u f) (.cons (.aggL SF.pur) .nil) ?_
  simp [unk, unA, unE, flat]
  refine hK _ ?_
  clear hK K
  refine w_cond rfl (fun h => ?_) fun h => ?_
  · refine w_sr mo (by rw [hN]; decide) fun K hK => ?_ -- region 2
    simp
    refine hK _ ?_
    clear hK K
    refine w_ret (ret_val rfl (bo_f fun hs => ?_))
    exact bo_not h hs.1
  · have hs : f.Sh := bo_yes h
    refine w_skip ?_
    refine w_sr mo (by rw [hN]; decide) fun K hK => ?_ -- region 3
    simp
    refine callA_intro (c40 u f hs) (.cons (.aggL SF.pur) .nil) ?_
    simp [unk, unA, unE, unT, flat, four]
    refine hK _ ?_
    clear hK K
    refine w_sr mo (by rw [hN]; decide) fun K hK => ?_ -- region 4
    simp
    refine hK _ ?_
    clear hK K
    refine w_ret (ret_val rfl (beq_bo ?_))
    exact ⟨fun q => ⟨hs, sfault_zero.1 q⟩, fun q => sfault_zero.2 q.2⟩

theorem c21 (u : Bool) (f : SF) : Contract Try.prog 21 [.rptr (f.cells u)] (.val (.bool (bo f.Is))) := by
  refine contract_intro (rs := [.val (.bool (bo f.Is))]) Try.func21 rfl rfl rfl rfl (by simp [Try.f21]) fun F hN hP => ?_
  refine w_sr mo (by rw [hN]; decide) fun K hK => ?_ -- region 0
  simp
  refine hK _ ?_
  clear hK K
  refine w_seq ?_
  refine w_sr mo (by rw [hN]; decide) fun K hK => ?_ -- region 1
  simp
  refine callA_intro (c44 u f) (.cons .rptr .nil) ?_
  simp [unk, unA, unE, flat]
  refine hK _ ?_
  clear hK K
  refine w_cond rfl (fun h => ?_) fun h => ?_
  · refine w_sr mo (by rw [hN]; decide) fun K hK => ?_ -- region 2
    simp
    refine hK _ ?_
    clear hK K
    refine w_ret (ret_val rfl (bo_f fun hs => ?_))
    exact bo_not h hs.1
  · have hs : f.Sh := bo_yes h
    refine w_skip ?_
    refine w_sr mo (by rw [hN]; decide) fun K hK => ?_ -- region 3
    simp
    refine callA_intro (c45 u f hs) (.cons .rptr .nil) ?_
    simp [unk, unA, unE, unT, flat, four]
    refine hK _ ?_
    clear hK K
    refine w_sr mo (by rw [hN]; decide) fun K hK => ?_ -- region 4
    simp
    refine hK _ ?_
    clear hK K
    refine w_ret (ret_val rfl (beq_bo ?_))
    exact ⟨fun q => ⟨hs, sfault_zero.1 q⟩, fun q => sfault_zero.2 q.2⟩

def lrow (x y : Nat) : List Int := (List.range y).map fun j : Nat => if x = j then (x : Int) else -1
def lrows (n x : Nat) : List (List Int) := (List.range x).map fun i => lrow i n
def loose (n : Nat) : Cat := ⟨n, iota n, iota n, iota n, lrows n n⟩
@[simp] theorem lrow_length (x y : Nat) : (lrow x y).length = y := by simp [lrow]
@[simp] theorem lrows_length (x y : Nat) : (lrows x y).length = y := by simp [lrows]
theorem lrow_succ (x y : Nat) : lrow x (y + 1) = lrow x y ++ [if x = y then (x : Int) else -1] := by simp [lrow, List.range_succ]
theorem lrows_succ (n x : Nat) : lrows n (x + 1) = lrows n x ++ [lrow x n] := by simp [lrows, List.range_succ]
theorem Is_snoc (xs : List Int) (x : Int) : Is xs ++ [[.val (.int .i64 x)]] = Is (xs ++ [x]) := by simp [Is]
theorem Ls_snoc (xs : List (List Int)) (x : List Int) : Ls xs ++ [[.lst true 1 (Is x)]] = Ls (xs ++ [x]) := by simp [Ls]
@[simp] theorem Is_iota_succ (x : Nat) : Is (iota x) ++ [[.val (.int .i64 (x : Int))]] = Is (iota (x + 1)) := by rw [Is_snoc, iota_succ]
@[simp] theorem take_iota (x : Nat) : List.take x (Is (iota x)) = Is (iota x) := List.take_of_length_le (by simp)
@[simp] theorem take_lrow (x y : Nat) : List.take y (Is (lrow x y)) = Is (lrow x y) := List.take_of_length_le (by simp)
@[simp] theorem take_lrows (n x : Nat) : List.take x (Ls (lrows n x)) = Ls (lrows n x) := List.take_of_length_le (by simp)
@[simp] theorem Ls_lrows_succ (n x : Nat) : Ls (lrows n x) ++ [[.lst true 1 (Is (lrow x n))]] = Ls (lrows n (x + 1)) := by rw [Ls_snoc, lrows_succ]
theorem Wk.trans {F : Fx} {a b c : St} (h1 : Wk F a b) (h2 : Wk F b c) : Wk F a c := fun x w hr => h2 x w (h1 x w hr)

theorem c42 (n : Nat) (hn : n ≤ 1048576) : Contract Try.prog 42 [.val (.int .i64 n)] (.agg ((loose n).cells true)) := by
  refine contract_introC Try.func42 rfl rfl y29 rfl rfl (by simp [Try.f42]) fun F hN hP => ?_
  refine w_sr mo (by rw [hN]; decide) fun K hK => ?_ -- region 0
  simp
  refine hK _ ?_
  clear hK K
  refine w_sr mo (by rw [hN]; decide) fun K hK => ?_ -- region 1
  simp
  refine hK _ ?_
  clear hK K
  refine w_seq ?_
  refine w_sr mo (by rw [hN]; decide) fun K hK => ?_ -- region 2
  simp
  refine hK _ ?_
  clear hK K
  refine w_block ?_
  refine w_loop (fun x : Nat => ⟨[(0, .val (.int .i64 n)), (2, .adr 0 0 0), (3, .adr 1 0 0), (4, .val (.int .i64 x))], [(0, .mix 5 [[.val (.int .i64 0), .val (.slice none 0 0), .val (.slice none 0 0), .val (.slice none 0 0), .val (.slice none 0 0)]]), (1, .mix 5 [[.val (.int .i64 n), .own 2 0 x, .own 3 0 x, .own 4 0 x, .own 5 0 x]]), (2, .row 1 (Is (iota x))), (3, .row 1 (Is (iota x))), (4, .row 1 (Is (iota x))), (5, .row 1 (Ls (lrows n x)))], 6⟩) (fun x => x ≤ n) (fun x => n - x) 0 (by simp) (Wk.nils [(2, 1), (3, 1), (4, 1), (5, 1)] (by simp) (by simp) (by simp [nlA]) (by simp [entN, nlL, nlA, iota, lrows, Ls]) (by simp)) ?_
  intro x hx
  refine w_seq ?_
  refine w_sr mo (by rw [hN]; decide) fun K hK => ?_ -- region 3
  simp
  refine hK _ ?_
  clear hK K
  refine w_cond rfl (fun h => ?_) fun h => ?_
  · simp at h
    have hx1 : x < n := by omega
    clear h
    refine w_skip ?_
    refine w_seq ?_
    refine w_block ?_
    refine w_sr mo (by rw [hN]; decide) fun K hK => ?_ -- region 5
    simp
    refine ⟨by omega, hK _ ?_⟩
    clear hK K
    refine w_sr mo (by rw [hN]; decide) fun K hK => ?_ -- region 6
    simp
    refine ⟨by omega, hK _ ?_⟩
    clear hK K
    refine w_sr mo (by rw [hN]; decide) fun K hK => ?_ -- region 7
    simp
    refine ⟨by omega, hK _ ?_⟩
    clear hK K
    refine w_sr mo (by rw [hN]; decide) fun K hK => ?_ -- region 8
    simp
    refine hK _ ?_
    clear hK K
    refine w_seq ?_
    refine w_sr mo (by rw [hN]; decide) fun K hK => ?_ -- region 9
    simp
    refine hK _ ?_
    clear hK K
    refine w_block ?_
    refine w_loop (fun y : Nat => ⟨[(0, .val (.int .i64 n)), (2, .adr 0 0 0), (3, .adr 1 0 0), (4, .val (.int .i64 x)), (5, .own 6 0 y), (6, .val (.int .i64 y))], [(0, .mix 5 [[.val (.int .i64 0), .val (.slice none 0 0), .val (.slice none 0 0), .val (.slice none 0 0), .val (.slice none 0 0)]]), (1, .mix 5 [[.val (.int .i64 n), .own 2 0 (x + 1), .own 3 0 (x + 1), .own 4 0 (x + 1), .own 5 0 x]]), (2, .row 1 (Is (iota (x + 1)))), (3, .row 1 (Is (iota (x + 1)))), (4, .row 1 (Is (iota (x + 1)))), (5, .row 1 (Ls (lrows n x))), (6, .row 1 (Is (lrow x y)))], 7⟩) (fun y => y ≤ n) (fun y => n - y) 0 (by simp) (Wk.trans (b := ⟨[(0, .val (.int .i64 n)), (2, .adr 0 0 0), (3, .adr 1 0 0), (4, .val (.int .i64 x)), (5, .own 6 0 0), (6, .val (.int .i64 0))], [(0, .mix 5 [[.val (.int .i64 0), .val (.slice none 0 0), .val (.slice none 0 0), .val (.slice none 0 0), .val (.slice none 0 0)]]), (1, .mix 5 [[.val (.int .i64 n), .own 2 0 (x + 1), .own 3 0 (x + 1), .own 4 0 (x + 1), .own 5 0 x]]), (2, .row 1 (Is (iota (x + 1)))), (3, .row 1 (Is (iota (x + 1)))), (4, .row 1 (Is (iota (x + 1)))), (5, .row 1 (Ls (lrows n x))), (6, .mix 1 [])], 7⟩) (Wk.rel [(0, 0), (1, 1), (7, 2), (9, 3), (11, 4), (5, 5), (12, 6)] (by simp) (by simp) (by rw [hP]; simp) (by simp) (by simp) (by simp) (by simp [hhOk, back])) (Wk.nils [] (by simp) (by simp) (by simp [nlA]) (by simp [entN, nlL, nlA, lrow]) (by simp))) ?_
    intro y hy
    refine w_seq ?_
    refine w_sr mo (by rw [hN]; decide) fun K hK => ?_ -- region 10
    simp
    refine hK _ ?_
    clear hK K
    refine w_cond rfl (fun h => ?_) fun h => ?_
    · simp at h
      have hy1 : y < n := by omega
      clear h
      refine w_skip ?_
      refine w_seq ?_
      refine w_block ?_
      refine w_sr mo (by rw [hN]; decide) fun K hK => ?_ -- region 12
      simp
      refine hK _ ?_
      clear hK K
      refine w_cond rfl (fun h => ?_) fun h => ?_
      · simp at h
        have h : x = y := by omega
        refine w_run mo (by rw [hN]; decide) fun K hK => ?_ -- region 13
        simp
        refine ⟨by omega, hK _ ?_⟩
        clear hK K
        refine w_run mo (by rw [hN]; decide) fun K hK => ?_ -- region 11
        simp
        refine hK _ ?_
        clear hK K
        rw [wrap_succ (n := n) (by omega) (by omega)]
        refine ⟨y + 1, by omega, by dsimp only; omega, (Wk.rel [(0, 0), (1, 1), (2, 2), (3, 3), (4, 4), (5, 5), (8, 6)] (by simp) (by simp) (by rw [hP]; simp) (by simp) (by simp) (by simp [lrow_succ, ← Is_snoc, h]) (by simp [hhOk, back, lrow_succ, ← Is_snoc, h]))⟩
      · simp at h
        have h : ¬ x = y := by omega
        refine w_run mo (by rw [hN]; decide) fun K hK => ?_ -- region 14
        simp
        refine ⟨by omega, hK _ ?_⟩
        clear hK K
        refine w_run mo (by rw [hN]; decide) fun K hK => ?_ -- region 11
        simp
        refine hK _ ?_
        clear hK K
        rw [wrap_succ (n := n) (by omega) (by omega)]
        refine ⟨y + 1, by omega, by dsimp only; omega, (Wk.rel [(0, 0), (1, 1), (2, 2), (3, 3), (4, 4), (5, 5), (8, 6)] (by simp) (by simp) (by rw [hP]; simp) (by simp) (by simp) (by simp [lrow_succ, ← Is_snoc, h]) (by simp [hhOk, back, lrow_succ, ← Is_snoc, h]))⟩
    · simp at h
      have hy2 : y = n := by omega
      subst hy2
      refine w_exit ?_
      simp
      refine w_run mo (by rw [hN]; decide) fun K hK => ?_ -- region 15
      simp
      refine ⟨by omega, hK _ ?_⟩
      clear hK K
      refine w_run mo (by rw [hN]; decide) fun K hK => ?_ -- region 4
      simp
      refine hK _ ?_
      clear hK K
      rw [wrap_succ (n := y) (by omega) (by omega)]
      refine ⟨x + 1, by omega, by dsimp only; omega, (Wk.rel [(0, 0), (1, 1), (2, 2), (3, 3), (4, 4), (8, 5)] (by simp) (by simp) (by rw [hP]; simp) (by simp) (by simp) (by simp) (by simp [hhOk, back]))⟩
  · simp at h
    have hx2 : x = n := by omega
    subst hx2
    refine w_exit ?_
    simp
    refine w_sr mo (by rw [hN]; decide) fun K hK => ?_ -- region 16
    simp
    refine hK _ ?_
    clear hK K
    refine w_ret ⟨_, _, _, _, _, rfl, rfl, by simp, by simp, ?_⟩
    exact ⟨.agg rfl .nil, [.val (.int .i64 x), .lst true 1 (Is (iota x)), .lst true 1 (Is (iota x)), .lst true 1 (Is (iota x)), .lst true 1 (Ls (lrows x x))], [2, 3, 4, 5], by simp, by simp, UpL.refl _⟩

end Go.Vc.T

namespace Go.Vc.T
open Go Go.Vc Go.Proofs

theorem c51 (f g : Int) : Contract Try.prog 51 [.val (.int .i64 f), .val (.int .i64 g)] (.val (.int .i64 f)) := by
  refine contract_intro (rs := [.val (.int .i64 f)]) Try.func51 rfl rfl rfl rfl (by simp [Try.f51]) fun F hN hP => ?_
  refine w_sr mo (by rw [hN]; decide) fun K hK => ?_ -- region 0
  simp
  refine hK _ ?_
  clear hK K
  refine w_sr mo (by rw [hN]; decide) fun K hK => ?_ -- region 1
  simp
  refine hK _ ?_
  clear hK K
  refine w_ret (ret_val rfl rfl)

theorem iota_ix {n i : Nat} (h : i < n) : ix (iota n) i = i := by rw [← at_ix _ _ (by simpa using h), iota_get _ _ h]
theorem fill_lrow (x n : Nat) : fill (lrow x n) n 0 = lrow x n := by simp [fill]
theorem fill_lrow_set (x y n : Nat) (z : Int) (h : y < n) : (fill (lrow x y) n 0).set y z = fill (lrow x y ++ [z]) n 0 := by
  have := fill_set (lrow x y) n 0 z (by simpa using h)
  simpa using this

theorem i50 (n : Nat) (hn : n ≤ 1048576) : ICon Try.prog 50 [.adr 4 0 0, .fn 51 []] (fun id => look id [(0, .mix 5 [[.val (.int .i64 0), .val (.slice none 0 0), .val (.slice none 0 0), .val (.slice none 0 0), .val (.slice none 0 0)]]), (1, .row 1 (Is (iota n))), (2, .row 1 (Is (iota n))), (3, .row 1 (Is (iota n))), (4, .mix 5 [[.val (.int .i64 n), .own 1 0 n, .own 2 0 n, .own 3 0 n, .val (.slice none 0 0)]])]) 5 { v := .tup [], set := [(4, .mix 5 [[.val (.int .i64 n), .own 1 0 n, .own 2 0 n, .own 3 0 n, .own 5 0 n]])], new := [(5, .row 1 (Ls (lrows n n)))], cnt := 1 } := by
  refine icon_intro (ts := []) Try.func50 rfl rfl rfl (by simp [Try.f50]) (by simp) ⟨by simp, by simp, by simp, by simp⟩ (fun id h1 h2 => by simp at h2 ⊢; omega) fun F hN hP => ?_
  refine w_sr mo (by rw [hN]; decide) fun K hK => ?_ -- region 0
  simp
  refine callA_intro (c61 false ⟨n, iota n, iota n, iota n, []⟩ []) (.cons (.var rfl (by simp) (.cons .val (.cons (.whole rfl rfl (by simp)) (.cons (.whole rfl rfl (by simp)) (.cons (.whole rfl rfl (by simp)) (.cons .nil .nil)))))) .nil) ?_
  simp [unk, unA, unE, flat]
  refine hK _ ?_
  clear hK K
  refine w_sr mo (by rw [hN]; decide) fun K hK => ?_ -- region 1
  simp
  refine ⟨by omega, hK _ ?_⟩
  clear hK K
  refine w_sr mo (by rw [hN]; decide) fun K hK => ?_ -- region 2
  simp
  refine hK _ ?_
  clear hK K
  refine w_block ?_
  refine w_loop (fun f : Nat => ⟨[(0, .adr 4 0 0), (1, .fn 51 []), (4, .val (.int .i64 n)), (18, .val (.int .i64 n)), (19, .val (.int .i64 f))], [(0, .mix 5 [[.val (.int .i64 0), .val (.slice none 0 0), .val (.slice none 0 0), .val (.slice none 0 0), .val (.slice none 0 0)]]), (1, .row 1 (Is (iota n))), (2, .row 1 (Is (iota n))), (3, .row 1 (Is (iota n))), (4, .mix 5 [[.val (.int .i64 n), .own 1 0 n, .own 2 0 n, .own 3 0 n, .own 5 0 n]]), (5, .row 1 (Part (Ls (lrows n f)) n f [.val (.slice none 0 0)]))], 6⟩) (fun f => f ≤ n) (fun f => n - f) 0 (by simp) (Wk.rel [(0, 0), (1, 1), (2, 2), (3, 3), (4, 4), (6, 5)] (by simp) (by simp) (by rw [hP]; decide) (by simp) (by simp) (by simp [Part, lrows, Ls]) (by simp [hhOk, back, Part, lrows, Ls])) ?_
  intro f hf
  refine w_sr mo (by rw [hN]; decide) fun K hK => ?_ -- region 3
  simp
  refine hK _ ?_
  clear hK K
  refine w_seq ?_
  refine w_cond rfl (fun h => ?_) fun h => ?_
  · simp at h
    have hf1 : f < n := by omega
    clear h
    have hd : (Ls (lrows n f)).length = f := by simp
    have hat := Part.at (z := [.val (.slice none 0 0)]) hf1 hd
    have hlen := Part.length (z := [.val (.slice none 0 0)]) hf hd
    refine w_skip ?_
    refine w_seq ?_
    refine w_block ?_
    refine w_sr mo (by rw [hN]; decide) fun K hK => ?_ -- region 4
    simp
    refine hK _ ?_
    clear hK K
    refine w_sr mo (by rw [hN]; decide) fun K hK => ?_ -- region 5 DRAWN
    simp [hlen, hf1]
    refine ⟨by omega, ?_⟩
    refine stoA_row [] y22 rfl (b := .lst true 1 (Is (List.replicate n 0))) (ds := [6]) rfl (by simp) (by rw [hlen]; exact hf1) (by simp) (by simp) (by simp) (by simp) ?_
    simp [hat]
    refine hK _ ?_
    clear hK K
    refine w_sr mo (by rw [hN]; decide) fun K hK => ?_ -- region 6
    simp [hlen, hf1]
    refine hK _ ?_
    clear hK K
    refine w_block ?_
    refine w_loop (fun g : Nat => ⟨[(0, .adr 4 0 0), (1, .fn 51 []), (4, .val (.int .i64 n)), (18, .val (.int .i64 n)), (19, .val (.int .i64 f)), (5, .val (.int .i64 f)), (37, .val (.int .i64 n)), (38, .val (.int .i64 g))], [(0, .mix 5 [[.val (.int .i64 0), .val (.slice none 0 0), .val (.slice none 0 0), .val (.slice none 0 0), .val (.slice none 0 0)]]), (1, .row 1 (Is (iota n))), (2, .row 1 (Is (iota n))), (3, .row 1 (Is (iota n))), (4, .mix 5 [[.val (.int .i64 n), .own 1 0 n, .own 2 0 n, .own 3 0 n, .own 5 0 n]]), (5, .row 1 ((Part (Ls (lrows n f)) n f [.val (.slice none 0 0)]).set f [.lst true 1 (Is (fill (lrow f g) n 0))]))], 6⟩) (fun g => g ≤ n) (fun g => n - g) 0 (by simp) (Wk.rel [(0, 0), (1, 1), (2, 2), (3, 3), (4, 4), (5, 5)] (by simp) (by simp) (by rw [hP]; decide) (by simp) (by simp) (by simp [fill, lrow]) (by simp [hhOk, back, fill, lrow])) ?_
    intro g hg
    refine w_sr mo (by rw [hN]; decide) fun K hK => ?_ -- region 7
    simp
    refine hK _ ?_
    clear hK K
    refine w_seq ?_
    refine w_cond rfl (fun h => ?_) fun h => ?_
    · simp at h
      have hg1 : g < n := by omega
      clear h
      have hfl := fill_length (lrow f g) n 0 (by simp; omega)
      have hset : ∀ (x : Nat) (z : Int), (fill (lrow x g) n 0).set g z = fill (lrow x g ++ [z]) n 0 := fun x z => fill_lrow_set x g n z hg1
      refine w_skip ?_
      refine w_seq ?_
      refine w_block ?_
      refine w_sr mo (by rw [hN]; decide) fun K hK => ?_ -- region 8
      simp
      refine hK _ ?_
      clear hK K
      refine w_sr mo (by rw [hN]; decide) fun K hK => ?_ -- region 9
      simp [hlen, hf1, hg1, hfl]
      refine hK _ ?_
      clear hK K
      refine w_sr mo (by rw [hN]; decide) fun K hK => ?_ -- region 10 DRAWN
      simp [hf1, hg1, at_ix]
      refine hK _ ?_
      clear hK K
      refine w_cond rfl (fun h => ?_) fun h => ?_
      · simp at h
        rw [iota_ix hf1, iota_ix hg1] at h
        have h : f = g := by omega
        refine w_run mo (by rw [hN]; decide) fun K hK => ?_ -- region 11 DRAWN
        simp [hlen, hf1, hg1, hfl]
        refine callA_intro (c51 f g) (.cons .val (.cons .val .nil)) ?_
        simp [unk, unA, unE, flat, hlen, hf1, hg1, hfl]
        refine hK _ ?_
        clear hK K
        refine w_run mo (by rw [hN]; decide) fun K hK => ?_ -- region 12
        simp
        refine hK _ ?_
        clear hK K
        rw [wrap_succ (n := n) (by omega) (by omega)]
        refine ⟨g + 1, by omega, by dsimp only; omega, (Wk.rel [(0, 0), (1, 1), (2, 2), (3, 3), (4, 4), (5, 5)] (by simp) (by simp) (by rw [hP]; decide) (by simp) (by simp) (by simp [hset, lrow_succ, h]) (by simp [hhOk, back, hset, lrow_succ, h]))⟩
      · simp at h
        rw [iota_ix hf1, iota_ix hg1] at h
        have h : ¬ f = g := by omega
        refine w_skip ?_
        refine w_run mo (by rw [hN]; decide) fun K hK => ?_ -- region 12
        simp
        refine hK _ ?_
        clear hK K
        rw [wrap_succ (n := n) (by omega) (by omega)]
        refine ⟨g + 1, by omega, by dsimp only; omega, (Wk.rel [(0, 0), (1, 1), (2, 2), (3, 3), (4, 4), (5, 5)] (by simp) (by simp) (by rw [hP]; decide) (by simp) (by simp) (by simp [hset, lrow_succ, h]) (by simp [hhOk, back, hset, lrow_succ, h]))⟩
    · simp at h
      have hg2 : g = n := by omega
      subst hg2
      refine w_exit ?_
      simp
      refine w_run mo (by rw [hN]; decide) fun K hK => ?_ -- region 13
      simp
      refine hK _ ?_
      clear hK K
      rw [wrap_succ (n := g) (by omega) (by omega)]
      rw [fill_lrow, Part.next hf1 hd, Ls_lrows_succ]
      refine ⟨f + 1, by omega, by dsimp only; omega, (Wk.rel [(0, 0), (1, 1), (2, 2), (3, 3), (4, 4), (5, 5)] (by simp) (by simp) (by rw [hP]; decide) (by simp) (by simp) (by simp) (by simp [hhOk, back]))⟩
  · simp at h
    have hf2 : f = n := by omega
    subst hf2
    refine w_exit ?_
    simp
    refine ⟨rfl, rfl, ?_⟩
    simp [Part]

theorem c24 (n : Nat) (hn : n ≤ 1048576) : Contract Try.prog 24 [.val (.int .i64 n)] (.agg ((loose n).cells true)) := by
  refine contract_introC Try.func24 rfl rfl y29 rfl rfl (by simp [Try.f24]) fun F hN hP => ?_
  refine w_sr mo (by rw [hN]; decide) fun K hK => ?_ -- region 0
  simp
  refine hK _ ?_
  clear hK K
  refine w_sr mo (by rw [hN]; decide) fun K hK => ?_ -- region 1
  simp
  refine callA_intro (c49 n hn) (.cons .val .nil) ?_
  simp [unk, unA, unE, flat]
  refine callA_intro (c49 n hn) (.cons .val .nil) ?_
  simp [unk, unA, unE, flat]
  refine callA_intro (c49 n hn) (.cons .val .nil) ?_
  simp [unk, unA, unE, flat]
  refine hK _ ?_
  clear hK K
  refine w_srM mo (by rw [hN]; decide) fun K hK => ?_ -- region 2
  simp
  refine callA_in (i50 n hn) ?_
  simp
  refine hK _ ?_
  clear hK K
  refine w_sr mo (by rw [hN]; decide) fun K hK => ?_ -- region 3
  simp
  refine hK _ ?_
  clear hK K
  refine w_ret ⟨_, _, _, _, _, rfl, rfl, by simp, by simp, ?_⟩
  exact ⟨.agg rfl .nil, [.val (.int .i64 n), .lst true 1 (Is (iota n)), .lst true 1 (Is (iota n)), .lst true 1 (Is (iota n)), .lst true 1 (Ls (lrows n n))], [1, 2, 3, 5], by simp, by simp, UpL.refl _⟩

end Go.Vc.T
