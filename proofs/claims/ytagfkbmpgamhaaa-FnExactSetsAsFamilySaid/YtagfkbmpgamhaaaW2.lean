/- A part of the proof: a verified generator of conditions, and what each function of the program does. -/
import Derived.Test.YtagfkbmpgamhaaaW1
import Derived.Test.YtagfkbmpgamhaaaL3

namespace Go.Vc.T
open Go Go.Vc Go.Proofs

def sumB {α : Type} (sz : α → Nat) (xs : List α) : Nat := (xs.map sz).sum
def marks {α : Type} (f : Int → α → α) (sz : α → Nat) : Int → List α → List α
  | _, [] => []
  | k, x :: r => f k x :: marks f sz (k + sz x) r

section
variable {α : Type} (f : Int → α → α) (sz : α → Nat)

@[simp] theorem marks_length (xs : List α) : ∀ k, (marks f sz k xs).length = xs.length := by
  induction xs with
  | nil => intro k; rfl
  | cons x r ih => intro k; simp [marks, ih]

theorem sumB_take (xs : List α) : ∀ (i : Nat) (h : i < xs.length), sumB sz (xs.take (i + 1)) = sumB sz (xs.take i) + sz xs[i] := by
  induction xs with
  | nil => intro i h; simp at h
  | cons x r ih =>
    intro i h
    cases i with
    | zero => simp [sumB]
    | succ i =>
      have := ih i (by simpa using h)
      simp only [sumB, List.take_succ_cons, List.map_cons, List.sum_cons, List.getElem_cons_succ] at this ⊢
      omega

theorem sumB_le (xs : List α) : ∀ (i : Nat), sumB sz (xs.take i) ≤ sumB sz xs := by
  induction xs with
  | nil => intro i; simp [sumB]
  | cons x r ih =>
    intro i
    cases i with
    | zero => simp [sumB]
    | succ i =>
      have := ih i
      simp only [sumB, List.take_succ_cons, List.map_cons, List.sum_cons] at this ⊢
      omega

theorem marks_get (xs : List α) : ∀ (k : Int) (i : Nat) (h : i < xs.length), (marks f sz k xs)[i]'(by simpa using h) = f (k + sumB sz (xs.take i)) xs[i] := by
  induction xs with
  | nil => intro k i h; simp at h
  | cons x r ih =>
    intro k i h
    cases i with
    | zero => simp [marks, sumB]
    | succ i =>
      simp only [marks, List.getElem_cons_succ]
      rw [ih _ i (by simpa using h)]
      simp only [sumB, List.take_succ_cons, List.map_cons, List.sum_cons]
      push_cast
      rw [Int.add_assoc]
end

@[simp] theorem held_run (k : Int) (n : Nat) : held k (run k n) = k + n := by simp [held]

theorem c54 (u : Bool) (xs : List (List Int)) (k : Int) (h1 : xs.length ≤ 1048576) (h1' : ∀ x ∈ xs, x.length ≤ 1048576) (h2 : 0 ≤ k) (h3 : k + sumL xs ≤ 1152921504606846976) :
    Contract Try.prog 54 [.lst u 1 (Ls (runs k xs)), .val (.int .i64 k)] (.val (.int .i64 (k + sumL xs))) := by
  refine contract_intro (rs := [.val (.int .i64 (k + sumL xs))]) Try.func54 rfl rfl rfl rfl (by simp [Try.f54]) fun F hN hP => ?_
  refine w_sr mo (by rw [hN]; decide) fun K hK => ?_ -- region 0
  simp
  refine hK _ ?_
  clear hK K
  refine w_seq ?_
  refine w_sr mo (by rw [hN]; decide) fun K hK => ?_ -- region 1
  simp
  refine hK _ ?_
  clear hK K
  refine w_block ?_
  refine w_loop (fun p : Nat × Int => ⟨[(0, .lst u 1 (Ls (runs k xs))), (1, .val (.int .i64 p.2)), (5, .val (.int .i64 p.1))], [], 0⟩) (fun p => p.1 ≤ xs.length ∧ p.2 = k + sumL (xs.take p.1)) (fun p => xs.length - p.1) (0, k) (by simp [sumL]) (Wk.cut (by simp) (by simp) rfl) ?_
  rintro ⟨i, k0⟩ ⟨hi, hk0⟩
  simp only at hi hk0
  refine w_seq ?_
  refine w_sr mo (by rw [hN]; decide) fun K hK => ?_ -- region 2
  simp
  refine hK _ ?_
  clear hK K
  refine w_cond rfl (fun h => ?_) fun h => ?_
  · simp at h
    refine w_skip ?_
    refine w_seq ?_
    refine w_block ?_
    have hm : (runs k xs)[i]'(by simpa using h) = run k0 xs[i].length := by rw [runs_get _ _ _ h, hk0]
    have hs1 := sumL_take xs i h
    have hs2 := sumL_le xs (i + 1)
    refine w_sr mo (by rw [hN]; decide) fun K hK => ?_ -- region 4
    simp [h, hm]
    refine callA_intro (c53 true (run k0 xs[i].length) k0 (by simpa using h1' _ (List.getElem_mem h)) (by omega) (by omega)) (.cons .lst (.cons .val .nil)) ?_
    simp [unk, unA, unE, flat]
    refine hK _ ?_
    clear hK K
    refine w_sr mo (by rw [hN]; decide) fun K hK => ?_ -- region 5
    simp
    refine hK _ ?_
    clear hK K
    refine w_cond rfl (fun g => ?_) fun g => ?_
    · simp at g
      omega
    · refine w_skip ?_
      refine w_run mo (by rw [hN]; decide) fun K hK => ?_ -- region 3
      simp
      refine hK _ ?_
      clear hK K
      rw [wrap_succ (n := xs.length) (by omega) (by omega)]
      refine ⟨(i + 1, k0 + xs[i].length), ⟨by dsimp only; omega, by dsimp only; omega⟩, by dsimp only; omega, Wk.relabel [] (by simp) (by simp) (by rw [hP]; simp) (by simp) (by simp) (by simp) (by simp)⟩
  · simp at h
    refine w_exit ?_
    simp
    have hi' : i = xs.length := by omega
    rw [hi', List.take_length] at hk0
    refine w_sr mo (by rw [hN]; decide) fun K hK => ?_ -- region 7
    simp
    refine hK _ ?_
    clear hK K
    refine w_ret (ret_val rfl (by rw [hk0]))

def Cat.mark (k : Int) (c : Cat) : Cat := ⟨c.n, run k c.fr.length, run (k + c.fr.length) c.to.length, run (k + c.fr.length + c.to.length) c.id.length, runs (k + c.fr.length + c.to.length + c.id.length) c.cs⟩
def Cat.markE (k : Int) (c : Cat) : Cat := ⟨k, run (k + 1) c.fr.length, run (k + 1 + c.fr.length) c.to.length, run (k + 1 + c.fr.length + c.to.length) c.id.length, runs (k + 1 + c.fr.length + c.to.length + c.id.length) c.cs⟩
def Cat.sizeE (c : Cat) : Nat := c.size + 1
def Fn.mark (k : Int) (f : Fn) : Fn := ⟨f.s.mark k, f.t.mark (k + f.s.size), run (k + f.s.size + f.t.size) f.ob.length, run (k + f.s.size + f.t.size + f.ob.length) f.ar.length⟩
def Fn.size (f : Fn) : Nat := f.s.size + f.t.size + f.ob.length + f.ar.length
def Fn.sizeE (f : Fn) : Nat := f.s.sizeE + f.t.sizeE + f.ob.length + f.ar.length
def Fn.markE (k : Int) (f : Fn) : Fn := ⟨f.s.markE k, f.t.markE (k + 1 + f.s.fr.length + f.s.to.length + f.s.id.length + sumL f.s.cs), run (k + 1 + f.s.fr.length + f.s.to.length + f.s.id.length + sumL f.s.cs + 1 + f.t.fr.length + f.t.to.length + f.t.id.length + sumL f.t.cs) f.ob.length, run (k + 1 + f.s.fr.length + f.s.to.length + f.s.id.length + sumL f.s.cs + 1 + f.t.fr.length + f.t.to.length + f.t.id.length + sumL f.t.cs + f.ob.length) f.ar.length⟩
def Fn.ok (f : Fn) : Prop := f.s.ok ∧ f.t.ok ∧ f.ob.length ≤ 1048576 ∧ f.ar.length ≤ 1048576
def SF.mark (k : Int) (f : SF) : SF := ⟨f.s.mark k, run (k + f.s.size) f.sz.length, runs (k + f.s.size + f.sz.length) f.ac⟩
def SF.size (f : SF) : Nat := f.s.size + f.sz.length + sumL f.ac
def SF.ok (f : SF) : Prop := f.s.ok ∧ f.sz.length ≤ 1048576 ∧ f.ac.length ≤ 1048576 ∧ (∀ xs ∈ f.ac, xs.length ≤ 1048576) ∧ sumL f.ac ≤ 1099511627776
def Fam.size (f : Fam) : Nat := f.b.size + sumB Cat.sizeE f.fb + sumB Fn.sizeE f.ch
def Fam.mark (k : Int) (f : Fam) : Fam := ⟨f.b.mark k, marks Cat.markE Cat.sizeE (k + f.b.size) f.fb, marks Fn.markE Fn.sizeE (k + f.b.size + sumB Cat.sizeE f.fb) f.ch⟩
def Fam.ok (f : Fam) : Prop := f.b.ok ∧ f.fb.length ≤ 1048576 ∧ (∀ c ∈ f.fb, c.ok) ∧ f.ch.length ≤ 1048576 ∧ (∀ c ∈ f.ch, c.ok)

theorem c36 (u : Bool) (c : Cat) (k : Int) (hc : c.ok) (h2 : 0 ≤ k) (h3 : k + c.size ≤ 1152921504606846976) : Contract Try.prog 36 [.agg ((c.mark k).cells u), .val (.int .i64 k)] (.val (.int .i64 (k + c.size))) := by
  obtain ⟨hc1, hc2, hc3, hc4, hc5, hc6⟩ := hc
  have hz : c.size = c.fr.length + c.to.length + c.id.length + sumL c.cs := rfl
  refine contract_intro (rs := [.val (.int .i64 (k + c.size))]) Try.func36 rfl rfl rfl rfl (by simp [Try.f36]) fun F hN hP => ?_
  refine w_sr mo (by rw [hN]; decide) fun K hK => ?_ -- region 0
  simp [Cat.cells, Cat.mark]
  refine hK _ ?_
  clear hK K
  refine w_sr mo (by rw [hN]; decide) fun K hK => ?_ -- region 1
  simp
  refine callA_intro (c53 u (run (k) c.fr.length) (k) (by simpa using hc1) (by omega) (by omega)) (.cons .lst (.cons .val .nil)) ?_
  simp [unk, unA, unE, flat]
  refine hK _ ?_
  clear hK K
  refine w_seq ?_
  refine w_sr mo (by rw [hN]; decide) fun K hK => ?_ -- region 2
  simp
  refine hK _ ?_
  clear hK K
  refine w_cond rfl (fun g => ?_) fun g => ?_
  · simp at g
    omega
  · refine w_skip ?_
    refine w_sr mo (by rw [hN]; decide) fun K hK => ?_ -- region 4
    simp
    refine callA_intro (c53 u (run (k + c.fr.length) c.to.length) (k + c.fr.length) (by simpa using hc2) (by omega) (by omega)) (.cons .lst (.cons .val .nil)) ?_
    simp [unk, unA, unE, flat]
    refine hK _ ?_
    clear hK K
    refine w_seq ?_
    refine w_sr mo (by rw [hN]; decide) fun K hK => ?_ -- region 5
    simp
    refine hK _ ?_
    clear hK K
    refine w_cond rfl (fun g => ?_) fun g => ?_
    · simp at g
      omega
    · refine w_skip ?_
      refine w_sr mo (by rw [hN]; decide) fun K hK => ?_ -- region 7
      simp
      refine callA_intro (c53 u (run (k + c.fr.length + c.to.length) c.id.length) (k + c.fr.length + c.to.length) (by simpa using hc3) (by omega) (by omega)) (.cons .lst (.cons .val .nil)) ?_
      simp [unk, unA, unE, flat]
      refine hK _ ?_
      clear hK K
      refine w_seq ?_
      refine w_sr mo (by rw [hN]; decide) fun K hK => ?_ -- region 8
      simp
      refine hK _ ?_
      clear hK K
      refine w_cond rfl (fun g => ?_) fun g => ?_
      · simp at g
        omega
      · refine w_skip ?_
        refine w_sr mo (by rw [hN]; decide) fun K hK => ?_ -- region 10
        simp
        refine callA_intro (c54 u c.cs (k + c.fr.length + c.to.length + c.id.length) hc4 hc5 (by omega) (by omega)) (.cons .lst (.cons .val .nil)) ?_
        simp [unk, unA, unE, flat]
        refine hK _ ?_
        clear hK K
        refine w_seq ?_
        refine w_sr mo (by rw [hN]; decide) fun K hK => ?_ -- region 11
        simp
        refine hK _ ?_
        clear hK K
        refine w_cond rfl (fun g => ?_) fun g => ?_
        · simp at g
          omega
        · refine w_skip ?_
          refine w_sr mo (by rw [hN]; decide) fun K hK => ?_ -- region 13
          simp
          refine hK _ ?_
          clear hK K
          refine w_ret (ret_val rfl ?_)
          simp [Cat.size, Int.add_assoc]

theorem c37 (u : Bool) (xs : List Cat) (k : Int) (h1 : xs.length ≤ 1048576) (h1' : ∀ x ∈ xs, x.ok) (h2 : 0 ≤ k) (h3 : k + sumB Cat.sizeE xs ≤ 1152921504606846976) :
    Contract Try.prog 37 [.lst u 5 (Cs (marks Cat.markE Cat.sizeE k xs)), .val (.int .i64 k)] (.val (.int .i64 (k + sumB Cat.sizeE xs))) := by
  refine contract_intro (rs := [.val (.int .i64 (k + sumB Cat.sizeE xs))]) Try.func37 rfl rfl rfl rfl (by simp [Try.f37]) fun F hN hP => ?_
  refine w_sr mo (by rw [hN]; decide) fun K hK => ?_ -- region 0
  simp
  refine hK _ ?_
  clear hK K
  refine w_seq ?_
  refine w_sr mo (by rw [hN]; decide) fun K hK => ?_ -- region 1
  simp
  refine hK _ ?_
  clear hK K
  refine w_block ?_
  refine w_loop (fun p : Nat × Int => ⟨[(0, .lst u 5 (Cs (marks Cat.markE Cat.sizeE k xs))), (1, .val (.int .i64 p.2)), (5, .val (.int .i64 p.1))], [], 0⟩) (fun p => p.1 ≤ xs.length ∧ p.2 = k + sumB Cat.sizeE (xs.take p.1)) (fun p => xs.length - p.1) (0, k) (by simp [sumB]) (Wk.cut (by simp) (by simp) rfl) ?_
  rintro ⟨i, k0⟩ ⟨hi, hk0⟩
  simp only at hi hk0
  refine w_seq ?_
  refine w_sr mo (by rw [hN]; decide) fun K hK => ?_ -- region 2
  simp
  refine hK _ ?_
  clear hK K
  refine w_cond rfl (fun h => ?_) fun h => ?_
  · simp at h
    refine w_skip ?_
    refine w_seq ?_
    refine w_block ?_
    refine w_seq ?_
    have hm : (marks Cat.markE Cat.sizeE k xs)[i]'(by simpa using h) = xs[i].markE k0 := by rw [marks_get _ _ _ _ _ h, hk0]
    have hs1 := sumB_take Cat.sizeE xs i h
    have hs2 := sumB_le Cat.sizeE xs (i + 1)
    obtain ⟨hc1, hc2, hc3, hc4, hc5, hc6⟩ := h1' _ (List.getElem_mem h)
    have hz : Cat.sizeE xs[i] = 1 + xs[i].fr.length + xs[i].to.length + xs[i].id.length + sumL xs[i].cs := by simp only [Cat.sizeE, Cat.size]; omega
    refine w_sr mo (by rw [hN]; decide) fun K hK => ?_ -- region 4
    simp [h, hm, Cat.cells, Cat.markE]
    refine hK _ ?_
    clear hK K
    refine w_cond rfl (fun h => by simp at h) fun _ => ?_
    refine w_skip ?_
    refine w_sr mo (by rw [hN]; decide) fun K hK => ?_ -- region 6
    simp
    refine hK _ ?_
    clear hK K
    rw [wrap_id (x := k0 + 1) ⟨by omega, by omega⟩]
    refine w_sr mo (by rw [hN]; decide) fun K hK => ?_ -- region 7
    simp [h, hm, Cat.cells, Cat.markE]
    refine callA_intro (c53 true (run (k0 + 1) xs[i].fr.length) (k0 + 1) (by simpa using hc1) (by omega) (by omega)) (.cons .lst (.cons .val .nil)) ?_
    simp [unk, unA, unE, flat]
    refine hK _ ?_
    clear hK K
    refine w_seq ?_
    refine w_sr mo (by rw [hN]; decide) fun K hK => ?_ -- region 8
    simp
    refine hK _ ?_
    clear hK K
    refine w_cond rfl (fun g => ?_) fun g => ?_
    · simp at g
      omega
    · refine w_skip ?_
      refine w_sr mo (by rw [hN]; decide) fun K hK => ?_ -- region 10
      simp [h, hm, Cat.cells, Cat.markE]
      refine callA_intro (c53 true (run (k0 + 1 + xs[i].fr.length) xs[i].to.length) (k0 + 1 + xs[i].fr.length) (by simpa using hc2) (by omega) (by omega)) (.cons .lst (.cons .val .nil)) ?_
      simp [unk, unA, unE, flat]
      refine hK _ ?_
      clear hK K
      refine w_seq ?_
      refine w_sr mo (by rw [hN]; decide) fun K hK => ?_ -- region 11
      simp
      refine hK _ ?_
      clear hK K
      refine w_cond rfl (fun g => ?_) fun g => ?_
      · simp at g
        omega
      · refine w_skip ?_
        refine w_sr mo (by rw [hN]; decide) fun K hK => ?_ -- region 13
        simp [h, hm, Cat.cells, Cat.markE]
        refine callA_intro (c53 true (run (k0 + 1 + xs[i].fr.length + xs[i].to.length) xs[i].id.length) (k0 + 1 + xs[i].fr.length + xs[i].to.length) (by simpa using hc3) (by omega) (by omega)) (.cons .lst (.cons .val .nil)) ?_
        simp [unk, unA, unE, flat]
        refine hK _ ?_
        clear hK K
        refine w_seq ?_
        refine w_sr mo (by rw [hN]; decide) fun K hK => ?_ -- region 14
        simp
        refine hK _ ?_
        clear hK K
        refine w_cond rfl (fun g => ?_) fun g => ?_
        · simp at g
          omega
        · refine w_skip ?_
          refine w_sr mo (by rw [hN]; decide) fun K hK => ?_ -- region 16
          simp [h, hm, Cat.cells, Cat.markE]
          refine callA_intro (c54 true xs[i].cs (k0 + 1 + xs[i].fr.length + xs[i].to.length + xs[i].id.length) hc4 hc5 (by omega) (by omega)) (.cons .lst (.cons .val .nil)) ?_
          simp [unk, unA, unE, flat]
          refine hK _ ?_
          clear hK K
          refine w_sr mo (by rw [hN]; decide) fun K hK => ?_ -- region 17
          simp
          refine hK _ ?_
          clear hK K
          refine w_cond rfl (fun g => ?_) fun g => ?_
          · simp at g
            omega
          · refine w_skip ?_
            refine w_run mo (by rw [hN]; decide) fun K hK => ?_ -- region 3
            simp
            refine hK _ ?_
            clear hK K
            rw [wrap_succ (n := xs.length) (by omega) (by omega)]
            refine ⟨(i + 1, k0 + Cat.sizeE xs[i]), ⟨by dsimp only; omega, by dsimp only; omega⟩, by dsimp only; omega, Wk.relabel [] (by simp) (by simp) (by rw [hP]; simp) (by simp) (by simp) (by simp; rw [hz]; simp [Int.add_assoc]) (by simp)⟩
  · simp at h
    refine w_exit ?_
    simp
    have hi' : i = xs.length := by omega
    rw [hi', List.take_length] at hk0
    refine w_sr mo (by rw [hN]; decide) fun K hK => ?_ -- region 19
    simp
    refine hK _ ?_
    clear hK K
    refine w_ret (ret_val rfl (by rw [hk0]))

theorem c38 (u : Bool) (xs : List Fn) (k : Int) (h1 : xs.length ≤ 1048576) (h1' : ∀ x ∈ xs, x.ok) (h2 : 0 ≤ k) (h3 : k + sumB Fn.sizeE xs ≤ 1152921504606846976) :
    Contract Try.prog 38 [.lst u 12 (Fs (marks Fn.markE Fn.sizeE k xs)), .val (.int .i64 k)] (.val (.int .i64 (k + sumB Fn.sizeE xs))) := by
  refine contract_intro (rs := [.val (.int .i64 (k + sumB Fn.sizeE xs))]) Try.func38 rfl rfl rfl rfl (by simp [Try.f38]) fun F hN hP => ?_
  refine w_sr mo (by rw [hN]; decide) fun K hK => ?_ -- region 0
  simp
  refine hK _ ?_
  clear hK K
  refine w_seq ?_
  refine w_sr mo (by rw [hN]; decide) fun K hK => ?_ -- region 1
  simp
  refine hK _ ?_
  clear hK K
  refine w_block ?_
  refine w_loop (fun p : Nat × Int => ⟨[(0, .lst u 12 (Fs (marks Fn.markE Fn.sizeE k xs))), (1, .val (.int .i64 p.2)), (5, .val (.int .i64 p.1))], [], 0⟩) (fun p => p.1 ≤ xs.length ∧ p.2 = k + sumB Fn.sizeE (xs.take p.1)) (fun p => xs.length - p.1) (0, k) (by simp [sumB]) (Wk.cut (by simp) (by simp) rfl) ?_
  rintro ⟨i, k0⟩ ⟨hi, hk0⟩
  simp only at hi hk0
  refine w_seq ?_
  refine w_sr mo (by rw [hN]; decide) fun K hK => ?_ -- region 2
  simp
  refine hK _ ?_
  clear hK K
  refine w_cond rfl (fun h => ?_) fun h => ?_
  · simp at h
    refine w_skip ?_
    refine w_seq ?_
    refine w_block ?_
    refine w_seq ?_
    have hm : (marks Fn.markE Fn.sizeE k xs)[i]'(by simpa using h) = xs[i].markE k0 := by rw [marks_get _ _ _ _ _ h, hk0]
    have hq1 := sumB_take Fn.sizeE xs i h
    have hq2 := sumB_le Fn.sizeE xs (i + 1)
    obtain ⟨⟨hs1, hs2, hs3, hs4, hs5, hs6⟩, ⟨ht1, ht2, ht3, ht4, ht5, ht6⟩, ho, ha⟩ := h1' _ (List.getElem_mem h)
    have hz : Fn.sizeE xs[i] = 1 + xs[i].s.fr.length + xs[i].s.to.length + xs[i].s.id.length + sumL xs[i].s.cs + 1 + xs[i].t.fr.length + xs[i].t.to.length + xs[i].t.id.length + sumL xs[i].t.cs + xs[i].ob.length + xs[i].ar.length := by simp only [Fn.sizeE, Cat.sizeE, Cat.size]; omega
    refine w_sr mo (by rw [hN]; decide) fun K hK => ?_ -- region 4
    simp [h, hm, Fn.cells, Fn.markE, Cat.markE]
    refine hK _ ?_
    clear hK K
    refine w_cond rfl (fun h => by simp at h) fun _ => ?_
    refine w_skip ?_
    refine w_sr mo (by rw [hN]; decide) fun K hK => ?_ -- region 6
    simp
    refine hK _ ?_
    clear hK K
    rw [wrap_id (x := k0 + 1) ⟨by omega, by omega⟩]
    refine w_sr mo (by rw [hN]; decide) fun K hK => ?_ -- region 7
    simp [h, hm, Fn.cells, Fn.markE, Cat.markE]
    refine callA_intro (c53 true (run (k0 + 1) xs[i].s.fr.length) (k0 + 1) (by simpa using hs1) (by omega) (by omega)) (.cons .lst (.cons .val .nil)) ?_
    simp [unk, unA, unE, flat]
    refine hK _ ?_
    clear hK K
    refine w_seq ?_
    refine w_sr mo (by rw [hN]; decide) fun K hK => ?_ -- region 8
    simp
    refine hK _ ?_
    clear hK K
    refine w_cond rfl (fun g => ?_) fun g => ?_
    · simp at g
      omega
    · refine w_skip ?_
      refine w_sr mo (by rw [hN]; decide) fun K hK => ?_ -- region 10
      simp [h, hm, Fn.cells, Fn.markE, Cat.markE]
      refine callA_intro (c53 true (run (k0 + 1 + xs[i].s.fr.length) xs[i].s.to.length) (k0 + 1 + xs[i].s.fr.length) (by simpa using hs2) (by omega) (by omega)) (.cons .lst (.cons .val .nil)) ?_
      simp [unk, unA, unE, flat]
      refine hK _ ?_
      clear hK K
      refine w_seq ?_
      refine w_sr mo (by rw [hN]; decide) fun K hK => ?_ -- region 11
      simp
      refine hK _ ?_
      clear hK K
      refine w_cond rfl (fun g => ?_) fun g => ?_
      · simp at g
        omega
      · refine w_skip ?_
        refine w_sr mo (by rw [hN]; decide) fun K hK => ?_ -- region 13
        simp [h, hm, Fn.cells, Fn.markE, Cat.markE]
        refine callA_intro (c53 true (run (k0 + 1 + xs[i].s.fr.length + xs[i].s.to.length) xs[i].s.id.length) (k0 + 1 + xs[i].s.fr.length + xs[i].s.to.length) (by simpa using hs3) (by omega) (by omega)) (.cons .lst (.cons .val .nil)) ?_
        simp [unk, unA, unE, flat]
        refine hK _ ?_
        clear hK K
        refine w_seq ?_
        refine w_sr mo (by rw [hN]; decide) fun K hK => ?_ -- region 14
        simp
        refine hK _ ?_
        clear hK K
        refine w_cond rfl (fun g => ?_) fun g => ?_
        · simp at g
          omega
        · refine w_skip ?_
          refine w_sr mo (by rw [hN]; decide) fun K hK => ?_ -- region 16
          simp [h, hm, Fn.cells, Fn.markE, Cat.markE]
          refine callA_intro (c54 true xs[i].s.cs (k0 + 1 + xs[i].s.fr.length + xs[i].s.to.length + xs[i].s.id.length) hs4 hs5 (by omega) (by omega)) (.cons .lst (.cons .val .nil)) ?_
          simp [unk, unA, unE, flat]
          refine hK _ ?_
          clear hK K
          refine w_seq ?_
          refine w_sr mo (by rw [hN]; decide) fun K hK => ?_ -- region 17
          simp
          refine hK _ ?_
          clear hK K
          refine w_cond rfl (fun g => ?_) fun g => ?_
          · simp at g
            omega
          · refine w_skip ?_
            refine w_seq ?_
            refine w_weak (st' := ⟨[(0, .lst u 12 (Fs (marks Fn.markE Fn.sizeE k xs))), (1, .val (.int .i64 (k0 + 1 + xs[i].s.fr.length + xs[i].s.to.length + xs[i].s.id.length + sumL xs[i].s.cs))), (5, .val (.int .i64 i))], [], 0⟩) (Wk.relabel [] (by simp) (by simp) (by rw [hP]; simp) (by simp) (by simp) (by simp) (by simp)) ?_
            refine w_sr mo (by rw [hN]; decide) fun K hK => ?_ -- region 19
            simp [h, hm, Fn.cells, Fn.markE, Cat.markE]
            refine hK _ ?_
            clear hK K
            refine w_cond rfl (fun h => by simp at h) fun _ => ?_
            refine w_skip ?_
            refine w_sr mo (by rw [hN]; decide) fun K hK => ?_ -- region 21
            simp
            refine hK _ ?_
            clear hK K
            rw [wrap_id (x := k0 + 1 + xs[i].s.fr.length + xs[i].s.to.length + xs[i].s.id.length + sumL xs[i].s.cs + 1) ⟨by omega, by omega⟩]
            refine w_sr mo (by rw [hN]; decide) fun K hK => ?_ -- region 22
            simp [h, hm, Fn.cells, Fn.markE, Cat.markE]
            refine callA_intro (c53 true (run (k0 + 1 + xs[i].s.fr.length + xs[i].s.to.length + xs[i].s.id.length + sumL xs[i].s.cs + 1) xs[i].t.fr.length) (k0 + 1 + xs[i].s.fr.length + xs[i].s.to.length + xs[i].s.id.length + sumL xs[i].s.cs + 1) (by simpa using ht1) (by omega) (by omega)) (.cons .lst (.cons .val .nil)) ?_
            simp [unk, unA, unE, flat]
            refine hK _ ?_
            clear hK K
            refine w_seq ?_
            refine w_sr mo (by rw [hN]; decide) fun K hK => ?_ -- region 23
            simp
            refine hK _ ?_
            clear hK K
            refine w_cond rfl (fun g => ?_) fun g => ?_
            · simp at g
              omega
            · refine w_skip ?_
              refine w_sr mo (by rw [hN]; decide) fun K hK => ?_ -- region 25
              simp [h, hm, Fn.cells, Fn.markE, Cat.markE]
              refine callA_intro (c53 true (run (k0 + 1 + xs[i].s.fr.length + xs[i].s.to.length + xs[i].s.id.length + sumL xs[i].s.cs + 1 + xs[i].t.fr.length) xs[i].t.to.length) (k0 + 1 + xs[i].s.fr.length + xs[i].s.to.length + xs[i].s.id.length + sumL xs[i].s.cs + 1 + xs[i].t.fr.length) (by simpa using ht2) (by omega) (by omega)) (.cons .lst (.cons .val .nil)) ?_
              simp [unk, unA, unE, flat]
              refine hK _ ?_
              clear hK K
              refine w_seq ?_
              refine w_sr mo (by rw [hN]; decide) fun K hK => ?_ -- region 26
              simp
              refine hK _ ?_
              clear hK K
              refine w_cond rfl (fun g => ?_) fun g => ?_
              · simp at g
                omega
              · refine w_skip ?_
                refine w_sr mo (by rw [hN]; decide) fun K hK => ?_ -- region 28
                simp [h, hm, Fn.cells, Fn.markE, Cat.markE]
                refine callA_intro (c53 true (run (k0 + 1 + xs[i].s.fr.length + xs[i].s.to.length + xs[i].s.id.length + sumL xs[i].s.cs + 1 + xs[i].t.fr.length + xs[i].t.to.length) xs[i].t.id.length) (k0 + 1 + xs[i].s.fr.length + xs[i].s.to.length + xs[i].s.id.length + sumL xs[i].s.cs + 1 + xs[i].t.fr.length + xs[i].t.to.length) (by simpa using ht3) (by omega) (by omega)) (.cons .lst (.cons .val .nil)) ?_
                simp [unk, unA, unE, flat]
                refine hK _ ?_
                clear hK K
                refine w_seq ?_
                refine w_sr mo (by rw [hN]; decide) fun K hK => ?_ -- region 29
                simp
                refine hK _ ?_
                clear hK K
                refine w_cond rfl (fun g => ?_) fun g => ?_
                · simp at g
                  omega
                · refine w_skip ?_
                  refine w_sr mo (by rw [hN]; decide) fun K hK => ?_ -- region 31
                  simp [h, hm, Fn.cells, Fn.markE, Cat.markE]
                  refine callA_intro (c54 true xs[i].t.cs (k0 + 1 + xs[i].s.fr.length + xs[i].s.to.length + xs[i].s.id.length + sumL xs[i].s.cs + 1 + xs[i].t.fr.length + xs[i].t.to.length + xs[i].t.id.length) ht4 ht5 (by omega) (by omega)) (.cons .lst (.cons .val .nil)) ?_
                  simp [unk, unA, unE, flat]
                  refine hK _ ?_
                  clear hK K
                  refine w_seq ?_
                  refine w_sr mo (by rw [hN]; decide) fun K hK => ?_ -- region 32
                  simp
                  refine hK _ ?_
                  clear hK K
                  refine w_cond rfl (fun g => ?_) fun g => ?_
                  · simp at g
                    omega
                  · refine w_skip ?_
                    refine w_sr mo (by rw [hN]; decide) fun K hK => ?_ -- region 34
                    simp [h, hm, Fn.cells, Fn.markE, Cat.markE]
                    refine callA_intro (c53 true (run (k0 + 1 + xs[i].s.fr.length + xs[i].s.to.length + xs[i].s.id.length + sumL xs[i].s.cs + 1 + xs[i].t.fr.length + xs[i].t.to.length + xs[i].t.id.length + sumL xs[i].t.cs) xs[i].ob.length) (k0 + 1 + xs[i].s.fr.length + xs[i].s.to.length + xs[i].s.id.length + sumL xs[i].s.cs + 1 + xs[i].t.fr.length + xs[i].t.to.length + xs[i].t.id.length + sumL xs[i].t.cs) (by simpa using ho) (by omega) (by omega)) (.cons .lst (.cons .val .nil)) ?_
                    simp [unk, unA, unE, flat]
                    refine hK _ ?_
                    clear hK K
                    refine w_seq ?_
                    refine w_sr mo (by rw [hN]; decide) fun K hK => ?_ -- region 35
                    simp
                    refine hK _ ?_
                    clear hK K
                    refine w_cond rfl (fun g => ?_) fun g => ?_
                    · simp at g
                      omega
                    · refine w_skip ?_
                      refine w_sr mo (by rw [hN]; decide) fun K hK => ?_ -- region 37
                      simp [h, hm, Fn.cells, Fn.markE, Cat.markE]
                      refine callA_intro (c53 true (run (k0 + 1 + xs[i].s.fr.length + xs[i].s.to.length + xs[i].s.id.length + sumL xs[i].s.cs + 1 + xs[i].t.fr.length + xs[i].t.to.length + xs[i].t.id.length + sumL xs[i].t.cs + xs[i].ob.length) xs[i].ar.length) (k0 + 1 + xs[i].s.fr.length + xs[i].s.to.length + xs[i].s.id.length + sumL xs[i].s.cs + 1 + xs[i].t.fr.length + xs[i].t.to.length + xs[i].t.id.length + sumL xs[i].t.cs + xs[i].ob.length) (by simpa using ha) (by omega) (by omega)) (.cons .lst (.cons .val .nil)) ?_
                      simp [unk, unA, unE, flat]
                      refine hK _ ?_
                      clear hK K
                      refine w_sr mo (by rw [hN]; decide) fun K hK => ?_ -- region 38
                      simp
                      refine hK _ ?_
                      clear hK K
                      refine w_cond rfl (fun g => ?_) fun g => ?_
                      · simp at g
                        omega
                      · refine w_skip ?_
                        refine w_run mo (by rw [hN]; decide) fun K hK => ?_ -- region 3
                        simp
                        refine hK _ ?_
                        clear hK K
                        rw [wrap_succ (n := xs.length) (by omega) (by omega)]
                        refine ⟨(i + 1, k0 + Fn.sizeE xs[i]), ⟨by dsimp only; omega, by dsimp only; omega⟩, by dsimp only; omega, Wk.relabel [] (by simp) (by simp) (by rw [hP]; simp) (by simp) (by simp) (by simp; rw [hz]; simp [Int.add_assoc]) (by simp)⟩
  · simp at h
    refine w_exit ?_
    simp
    have hi' : i = xs.length := by omega
    rw [hi', List.take_length] at hk0
    refine w_sr mo (by rw [hN]; decide) fun K hK => ?_ -- region 40
    simp
    refine hK _ ?_
    clear hK K
    refine w_ret (ret_val rfl (by rw [hk0]))

theorem c12 (u : Bool) (f : Fam) (k : Int) (hf : f.ok) (h2 : 0 ≤ k) (h3 : k + f.size ≤ 1152921504606846976) : Contract Try.prog 12 [.agg ((f.mark k).cells u), .val (.int .i64 k)] (.val (.int .i64 (k + f.size))) := by
  obtain ⟨hf1, hf2, hf3, hf4, hf5⟩ := hf
  have hz : f.size = f.b.size + sumB Cat.sizeE f.fb + sumB Fn.sizeE f.ch := rfl
  refine contract_intro (rs := [.val (.int .i64 (k + f.size))]) Try.func12 rfl rfl rfl rfl (by simp [Try.f12]) fun F hN hP => ?_
  refine w_sr mo (by rw [hN]; decide) fun K hK => ?_ -- region 0
  simp [Fam.cells, Fam.mark, Cat.mark]
  refine hK _ ?_
  clear hK K
  refine w_sr mo (by rw [hN]; decide) fun K hK => ?_ -- region 1
  simp
  refine callA_intro (c36 u f.b k hf1 (by omega) (by omega)) (.cons (.aggL (.cons .val (.cons .lst (.cons .lst (.cons .lst (.cons .lst .nil)))))) (.cons .val .nil)) ?_
  simp [unk, unA, unE, flat]
  refine hK _ ?_
  clear hK K
  refine w_seq ?_
  refine w_sr mo (by rw [hN]; decide) fun K hK => ?_ -- region 2
  simp
  refine hK _ ?_
  clear hK K
  refine w_cond rfl (fun g => ?_) fun g => ?_
  · simp at g
    omega
  · refine w_skip ?_
    refine w_sr mo (by rw [hN]; decide) fun K hK => ?_ -- region 4
    simp
    refine callA_intro (c37 u f.fb (k + f.b.size) hf2 hf3 (by omega) (by omega)) (.cons .lst (.cons .val .nil)) ?_
    simp [unk, unA, unE, flat]
    refine hK _ ?_
    clear hK K
    refine w_seq ?_
    refine w_sr mo (by rw [hN]; decide) fun K hK => ?_ -- region 5
    simp
    refine hK _ ?_
    clear hK K
    refine w_cond rfl (fun g => ?_) fun g => ?_
    · simp at g
      omega
    · refine w_skip ?_
      refine w_sr mo (by rw [hN]; decide) fun K hK => ?_ -- region 7
      simp
      refine callA_intro (c38 u f.ch (k + f.b.size + sumB Cat.sizeE f.fb) hf4 hf5 (by omega) (by omega)) (.cons .lst (.cons .val .nil)) ?_
      simp [unk, unA, unE, flat]
      refine hK _ ?_
      clear hK K
      refine w_seq ?_
      refine w_sr mo (by rw [hN]; decide) fun K hK => ?_ -- region 8
      simp
      refine hK _ ?_
      clear hK K
      refine w_cond rfl (fun g => ?_) fun g => ?_
      · simp at g
        omega
      · refine w_skip ?_
        refine w_sr mo (by rw [hN]; decide) fun K hK => ?_ -- region 10
        simp
        refine hK _ ?_
        clear hK K
        refine w_ret (ret_val rfl ?_)
        simp [hz, Int.add_assoc]

end Go.Vc.T

namespace Go.Vc.T
open Go Go.Vc Go.Proofs

theorem set_takeB {α : Type} {xs ys : List α} {i : Nat} (h1 : i < xs.length) (h2 : i < ys.length) (h : ys.take i = xs.take i) : (ys.set i xs[i]).take (i + 1) = xs.take (i + 1) := by
  rw [List.take_succ_eq_append_getElem h1, List.take_succ_eq_append_getElem (by simpa using h2), List.take_set_of_le (Nat.le_refl _), h]
  simp

theorem drop_set {α : Type} {xs ys : List α} {i : Nat} {y : α} (hd : ys.drop i = xs.drop i) : (ys.set i y).drop (i + 1) = xs.drop (i + 1) := by
  rw [List.drop_set_of_lt (by omega)]
  have := congrArg (List.drop 1) hd
  simpa [List.drop_drop, Nat.add_comm] using this

theorem drop_at {α : Type} {xs ys : List α} {i : Nat} (h : i < xs.length) (h2 : i < ys.length) (hd : ys.drop i = xs.drop i) : ys[i] = xs[i] := by
  have h5 := congrArg (fun l => l[0]?) hd
  simpa [h, h2] using h5

theorem Cs_set (xs : List Cat) (i : Nat) (c : Cat) : Cs (xs.set i c) = (Cs xs).set i (c.cells true) := by simp [Cs, List.map_set]
theorem Fs_set (xs : List Fn) (i : Nat) (c : Fn) : Fs (xs.set i c) = (Fs xs).set i (c.cells true) := by simp [Fs, List.map_set]

theorem m34 (xs : List Cat) (k : Int) (h1 : xs.length ≤ 1048576) (h1' : ∀ x ∈ xs, x.ok) (h2 : 0 ≤ k) (h3 : k + sumB Cat.sizeE xs ≤ 1152921504606846976) :
    MContract Try.prog 34 [.own 0 0 xs.length, .val (.int .i64 k)] [⟨5, Cs xs, Cs (marks Cat.markE Cat.sizeE k xs)⟩] (.val (.int .i64 (k + sumB Cat.sizeE xs))) := by
  refine mcontract_intro (ts := [4]) (rv := .int .i64 (k + sumB Cat.sizeE xs)) Try.func34 rfl rfl ?_ rfl (by simp [Try.f34]) ?_ fun F hN hP => ?_
  · have : (-9223372036854775808 ≤ k + sumB Cat.sizeE xs) ∧ k + sumB Cat.sizeE xs ≤ 9223372036854775807 := by omega
    simp [resV, this]
  · intro j hj; simp at hj; subst hj; simp
  refine w_sr mo (by rw [hN]; decide) fun K hK => ?_ -- region 0
  simp
  refine hK _ ?_
  clear hK K
  refine w_seq ?_
  refine w_sr mo (by rw [hN]; decide) fun K hK => ?_ -- region 1
  simp
  refine hK _ ?_
  clear hK K
  refine w_block ?_
  refine w_loop (fun p : Nat × Int × List Cat => ⟨[(0, .own 0 0 xs.length), (1, .val (.int .i64 p.2.1)), (5, .val (.int .i64 p.1))], [(0, .row 5 (Cs p.2.2))], 1⟩) (fun p => p.1 ≤ xs.length ∧ p.2.1 = k + sumB Cat.sizeE (xs.take p.1) ∧ p.2.2.length = xs.length ∧ p.2.2.take p.1 = (marks Cat.markE Cat.sizeE k xs).take p.1 ∧ p.2.2.drop p.1 = xs.drop p.1) (fun p => xs.length - p.1) (0, k, xs) (by simp [sumB]) (Wk.cut (by simp) (by simp [ments]) rfl) ?_
  rintro ⟨i, k0, ys⟩ ⟨hi, hk0, hy, ht, hd⟩
  simp only at hi hk0 hy ht hd
  refine w_seq ?_
  refine w_sr mo (by rw [hN]; decide) fun K hK => ?_ -- region 2
  simp
  refine hK _ ?_
  clear hK K
  refine w_cond rfl (fun h => ?_) fun h => ?_
  · simp at h
    refine w_skip ?_
    refine w_seq ?_
    refine w_block ?_
    have hiy : i < ys.length := by omega
    have he : ys[i] = xs[i] := drop_at h hiy hd
    have hq1 := sumB_take Cat.sizeE xs i h
    have hq2 := sumB_le Cat.sizeE xs (i + 1)
    obtain ⟨hc1, hc2, hc3, hc4, hc5, hc6⟩ := h1' _ (List.getElem_mem h)
    have hz : Cat.sizeE xs[i] = 1 + xs[i].fr.length + xs[i].to.length + xs[i].id.length + sumL xs[i].cs := by simp only [Cat.sizeE, Cat.size]; omega
    refine w_sr mo (by rw [hN]; decide) fun K hK => ?_ -- region 4
    simp [h, hy, hiy, he, Cat.cells, Cat.markE]
    refine hK _ ?_
    clear hK K
    refine w_sr mo (by rw [hN]; decide) fun K hK => ?_ -- region 5
    simp
    refine hK _ ?_
    clear hK K
    rw [wrap_id (x := k0 + 1) ⟨by omega, by omega⟩]
    refine w_srM mo (by rw [hN]; decide) fun K hK => ?_ -- region 6
    simp [h, hy, hiy]
    refine callA_cell [1] (m32 xs[i].fr (k0 + 1) (by omega) (by omega) (by omega)) rfl rfl (by simp [hiy]) (by simp) (by simp [hiy]) (by simp [hiy]) (by simp) (by simp) ?_
    simp [hiy]
    refine hK _ ?_
    clear hK K
    refine w_srM mo (by rw [hN]; decide) fun K hK => ?_ -- region 7
    simp [h, hy, hiy]
    refine callA_cell [2] (m32 xs[i].to (k0 + 1 + xs[i].fr.length) (by omega) (by omega) (by omega)) rfl rfl (by simp [hiy]) (by simp) (by simp [hiy]) (by simp [hiy]) (by simp) (by simp) ?_
    simp [hiy]
    refine hK _ ?_
    clear hK K
    refine w_srM mo (by rw [hN]; decide) fun K hK => ?_ -- region 8
    simp [h, hy, hiy]
    refine callA_cell [3] (m32 xs[i].id (k0 + 1 + xs[i].fr.length + xs[i].to.length) (by omega) (by omega) (by omega)) rfl rfl (by simp [hiy]) (by simp) (by simp [hiy]) (by simp [hiy]) (by simp) (by simp) ?_
    simp [hiy]
    refine hK _ ?_
    clear hK K
    refine w_runM mo (by rw [hN]; decide) fun K hK => ?_ -- region 9
    simp [h, hy, hiy]
    refine callA_cell [4] (m33 xs[i].cs (k0 + 1 + xs[i].fr.length + xs[i].to.length + xs[i].id.length) (by omega) hc5 (by omega) (by omega)) rfl rfl (by simp [hiy]) (by simp) (by simp [hiy]) (by simp [hiy]) (by simp) (by simp) ?_
    simp [hiy]
    refine hK _ ?_
    clear hK K
    refine w_run mo (by rw [hN]; decide) fun K hK => ?_ -- region 3
    simp
    refine hK _ ?_
    clear hK K
    rw [wrap_succ (n := xs.length) (by omega) (by omega)]
    refine ⟨(i + 1, k0 + Cat.sizeE xs[i], ys.set i (Cat.markE k0 xs[i])), ⟨by dsimp only; omega, by dsimp only; omega, by simp [hy], ?_, drop_set hd⟩, by dsimp only; omega, Wk.relabel [(0, 0)] (by simp) (by simp) (by rw [hP]; simp) (by simp) (by simp) (by simp; rw [hz]; simp [Int.add_assoc]) (by simp [Cs_set, Cat.cells, Cat.markE])⟩
    have hg := marks_get Cat.markE Cat.sizeE xs k i h
    rw [← hk0] at hg
    have := set_takeB (xs := marks Cat.markE Cat.sizeE k xs) (ys := ys) (i := i) (by simpa using h) hiy ht
    rw [hg] at this
    exact this
  · simp at h
    refine w_exit ?_
    simp
    refine w_sr mo (by rw [hN]; decide) fun K hK => ?_ -- region 10
    simp
    refine hK _ ?_
    clear hK K
    have hi' : i = xs.length := by omega
    subst hi'
    rw [List.take_of_length_le (by omega), List.take_of_length_le (by simp)] at ht
    rw [List.take_length] at hk0
    subst ht hk0
    refine w_ret ⟨?_, ?_⟩
    · simp [resOk]
    · intro j hj; simp at hj; subst hj; simp

theorem m35 (xs : List Fn) (k : Int) (h1 : xs.length ≤ 1048576) (h1' : ∀ x ∈ xs, x.ok) (h2 : 0 ≤ k) (h3 : k + sumB Fn.sizeE xs ≤ 1152921504606846976) :
    MContract Try.prog 35 [.own 0 0 xs.length, .val (.int .i64 k)] [⟨12, Fs xs, Fs (marks Fn.markE Fn.sizeE k xs)⟩] (.val (.int .i64 (k + sumB Fn.sizeE xs))) := by
  refine mcontract_intro (ts := [4]) (rv := .int .i64 (k + sumB Fn.sizeE xs)) Try.func35 rfl rfl ?_ rfl (by simp [Try.f35]) ?_ fun F hN hP => ?_
  · have : (-9223372036854775808 ≤ k + sumB Fn.sizeE xs) ∧ k + sumB Fn.sizeE xs ≤ 9223372036854775807 := by omega
    simp [resV, this]
  · intro j hj; simp at hj; subst hj; simp
  refine w_sr mo (by rw [hN]; decide) fun K hK => ?_ -- region 0
  simp
  refine hK _ ?_
  clear hK K
  refine w_seq ?_
  refine w_sr mo (by rw [hN]; decide) fun K hK => ?_ -- region 1
  simp
  refine hK _ ?_
  clear hK K
  refine w_block ?_
  refine w_loop (fun p : Nat × Int × List Fn => ⟨[(0, .own 0 0 xs.length), (1, .val (.int .i64 p.2.1)), (5, .val (.int .i64 p.1))], [(0, .row 12 (Fs p.2.2))], 1⟩) (fun p => p.1 ≤ xs.length ∧ p.2.1 = k + sumB Fn.sizeE (xs.take p.1) ∧ p.2.2.length = xs.length ∧ p.2.2.take p.1 = (marks Fn.markE Fn.sizeE k xs).take p.1 ∧ p.2.2.drop p.1 = xs.drop p.1) (fun p => xs.length - p.1) (0, k, xs) (by simp [sumB]) (Wk.cut (by simp) (by simp [ments]) rfl) ?_
  rintro ⟨i, k0, ys⟩ ⟨hi, hk0, hy, ht, hd⟩
  simp only at hi hk0 hy ht hd
  refine w_seq ?_
  refine w_sr mo (by rw [hN]; decide) fun K hK => ?_ -- region 2
  simp
  refine hK _ ?_
  clear hK K
  refine w_cond rfl (fun h => ?_) fun h => ?_
  · simp at h
    refine w_skip ?_
    refine w_seq ?_
    refine w_block ?_
    have hiy : i < ys.length := by omega
    have he : ys[i] = xs[i] := drop_at h hiy hd
    have hq1 := sumB_take Fn.sizeE xs i h
    have hq2 := sumB_le Fn.sizeE xs (i + 1)
    obtain ⟨⟨hs1, hs2, hs3, hs4, hs5, hs6⟩, ⟨ht1, ht2, ht3, ht4, ht5, ht6⟩, ho, ha⟩ := h1' _ (List.getElem_mem h)
    have hz : Fn.sizeE xs[i] = 1 + xs[i].s.fr.length + xs[i].s.to.length + xs[i].s.id.length + sumL xs[i].s.cs + 1 + xs[i].t.fr.length + xs[i].t.to.length + xs[i].t.id.length + sumL xs[i].t.cs + xs[i].ob.length + xs[i].ar.length := by simp only [Fn.sizeE, Cat.sizeE, Cat.size]; omega
    refine w_sr mo (by rw [hN]; decide) fun K hK => ?_ -- region 4
    simp [h, hy, hiy, he, Fn.cells, Fn.markE, Cat.markE]
    refine hK _ ?_
    clear hK K
    refine w_sr mo (by rw [hN]; decide) fun K hK => ?_ -- region 5
    simp
    refine hK _ ?_
    clear hK K
    rw [wrap_id (x := k0 + 1) ⟨by omega, by omega⟩]
    refine w_srM mo (by rw [hN]; decide) fun K hK => ?_ -- region 6
    simp [h, hy, hiy]
    refine callA_cell [1] (m32 xs[i].s.fr (k0 + 1) (by omega) (by omega) (by omega)) rfl rfl (by simp [hiy]) (by simp) (by simp [hiy]) (by simp [hiy]) (by simp) (by simp) ?_
    simp [hiy]
    refine hK _ ?_
    clear hK K
    refine w_srM mo (by rw [hN]; decide) fun K hK => ?_ -- region 7
    simp [h, hy, hiy]
    refine callA_cell [2] (m32 xs[i].s.to (k0 + 1 + xs[i].s.fr.length) (by omega) (by omega) (by omega)) rfl rfl (by simp [hiy]) (by simp) (by simp [hiy]) (by simp [hiy]) (by simp) (by simp) ?_
    simp [hiy]
    refine hK _ ?_
    clear hK K
    refine w_srM mo (by rw [hN]; decide) fun K hK => ?_ -- region 8
    simp [h, hy, hiy]
    refine callA_cell [3] (m32 xs[i].s.id (k0 + 1 + xs[i].s.fr.length + xs[i].s.to.length) (by omega) (by omega) (by omega)) rfl rfl (by simp [hiy]) (by simp) (by simp [hiy]) (by simp [hiy]) (by simp) (by simp) ?_
    simp [hiy]
    refine hK _ ?_
    clear hK K
    refine w_srM mo (by rw [hN]; decide) fun K hK => ?_ -- region 9
    simp [h, hy, hiy]
    refine callA_cell [4] (m33 xs[i].s.cs (k0 + 1 + xs[i].s.fr.length + xs[i].s.to.length + xs[i].s.id.length) (by omega) hs5 (by omega) (by omega)) rfl rfl (by simp [hiy]) (by simp) (by simp [hiy]) (by simp [hiy]) (by simp) (by simp) ?_
    simp [hiy]
    refine hK _ ?_
    clear hK K
    refine w_weak (st' := ⟨[(0, .own 0 0 xs.length), (1, .val (.int .i64 (k0 + 1 + xs[i].s.fr.length + xs[i].s.to.length + xs[i].s.id.length + sumL xs[i].s.cs))), (5, .val (.int .i64 i))], [(0, .row 12 ((Fs ys).set i [.val (.int .i64 (k0)), .lst true 1 (Is (run (k0 + 1) xs[i].s.fr.length)), .lst true 1 (Is (run (k0 + 1 + xs[i].s.fr.length) xs[i].s.to.length)), .lst true 1 (Is (run (k0 + 1 + xs[i].s.fr.length + xs[i].s.to.length) xs[i].s.id.length)), .lst true 1 (Ls (runs (k0 + 1 + xs[i].s.fr.length + xs[i].s.to.length + xs[i].s.id.length) xs[i].s.cs)), .val (.int .i64 xs[i].t.n), .lst true 1 (Is xs[i].t.fr), .lst true 1 (Is xs[i].t.to), .lst true 1 (Is xs[i].t.id), .lst true 1 (Ls xs[i].t.cs), .lst true 1 (Is xs[i].ob), .lst true 1 (Is xs[i].ar)]))], 1⟩) (Wk.relabel [(0, 0)] (by simp) (by simp) (by rw [hP]; simp) (by simp) (by simp) (by simp) (by simp)) ?_
    refine w_sr mo (by rw [hN]; decide) fun K hK => ?_ -- region 10
    simp [h, hy, hiy, he, Fn.cells, Fn.markE, Cat.markE]
    refine hK _ ?_
    clear hK K
    refine w_sr mo (by rw [hN]; decide) fun K hK => ?_ -- region 11
    simp
    refine hK _ ?_
    clear hK K
    rw [wrap_id (x := k0 + 1 + xs[i].s.fr.length + xs[i].s.to.length + xs[i].s.id.length + sumL xs[i].s.cs + 1) ⟨by omega, by omega⟩]
    refine w_srM mo (by rw [hN]; decide) fun K hK => ?_ -- region 12
    simp [h, hy, hiy]
    refine callA_cell [1] (m32 xs[i].t.fr (k0 + 1 + xs[i].s.fr.length + xs[i].s.to.length + xs[i].s.id.length + sumL xs[i].s.cs + 1) (by omega) (by omega) (by omega)) rfl rfl (by simp [hiy]) (by simp) (by simp [hiy]) (by simp [hiy]) (by simp) (by simp) ?_
    simp [hiy]
    refine hK _ ?_
    clear hK K
    refine w_srM mo (by rw [hN]; decide) fun K hK => ?_ -- region 13
    simp [h, hy, hiy]
    refine callA_cell [2] (m32 xs[i].t.to (k0 + 1 + xs[i].s.fr.length + xs[i].s.to.length + xs[i].s.id.length + sumL xs[i].s.cs + 1 + xs[i].t.fr.length) (by omega) (by omega) (by omega)) rfl rfl (by simp [hiy]) (by simp) (by simp [hiy]) (by simp [hiy]) (by simp) (by simp) ?_
    simp [hiy]
    refine hK _ ?_
    clear hK K
    refine w_srM mo (by rw [hN]; decide) fun K hK => ?_ -- region 14
    simp [h, hy, hiy]
    refine callA_cell [3] (m32 xs[i].t.id (k0 + 1 + xs[i].s.fr.length + xs[i].s.to.length + xs[i].s.id.length + sumL xs[i].s.cs + 1 + xs[i].t.fr.length + xs[i].t.to.length) (by omega) (by omega) (by omega)) rfl rfl (by simp [hiy]) (by simp) (by simp [hiy]) (by simp [hiy]) (by simp) (by simp) ?_
    simp [hiy]
    refine hK _ ?_
    clear hK K
    refine w_srM mo (by rw [hN]; decide) fun K hK => ?_ -- region 15
    simp [h, hy, hiy]
    refine callA_cell [4] (m33 xs[i].t.cs (k0 + 1 + xs[i].s.fr.length + xs[i].s.to.length + xs[i].s.id.length + sumL xs[i].s.cs + 1 + xs[i].t.fr.length + xs[i].t.to.length + xs[i].t.id.length) (by omega) ht5 (by omega) (by omega)) rfl rfl (by simp [hiy]) (by simp) (by simp [hiy]) (by simp [hiy]) (by simp) (by simp) ?_
    simp [hiy]
    refine hK _ ?_
    clear hK K
    refine w_srM mo (by rw [hN]; decide) fun K hK => ?_ -- region 16
    simp [h, hy, hiy]
    refine callA_cell [5] (m32 xs[i].ob (k0 + 1 + xs[i].s.fr.length + xs[i].s.to.length + xs[i].s.id.length + sumL xs[i].s.cs + 1 + xs[i].t.fr.length + xs[i].t.to.length + xs[i].t.id.length + sumL xs[i].t.cs) (by omega) (by omega) (by omega)) rfl rfl (by simp [hiy]) (by simp) (by simp [hiy]) (by simp [hiy]) (by simp) (by simp) ?_
    simp [hiy]
    refine hK _ ?_
    clear hK K
    refine w_runM mo (by rw [hN]; decide) fun K hK => ?_ -- region 17
    simp [h, hy, hiy]
    refine callA_cell [6] (m32 xs[i].ar (k0 + 1 + xs[i].s.fr.length + xs[i].s.to.length + xs[i].s.id.length + sumL xs[i].s.cs + 1 + xs[i].t.fr.length + xs[i].t.to.length + xs[i].t.id.length + sumL xs[i].t.cs + xs[i].ob.length) (by omega) (by omega) (by omega)) rfl rfl (by simp [hiy]) (by simp) (by simp [hiy]) (by simp [hiy]) (by simp) (by simp) ?_
    simp [hiy]
    refine hK _ ?_
    clear hK K
    refine w_run mo (by rw [hN]; decide) fun K hK => ?_ -- region 3
    simp
    refine hK _ ?_
    clear hK K
    rw [wrap_succ (n := xs.length) (by omega) (by omega)]
    refine ⟨(i + 1, k0 + Fn.sizeE xs[i], ys.set i (Fn.markE k0 xs[i])), ⟨by dsimp only; omega, by dsimp only; omega, by simp [hy], ?_, drop_set hd⟩, by dsimp only; omega, Wk.relabel [(0, 0)] (by simp) (by simp) (by rw [hP]; simp) (by simp) (by simp) (by simp; rw [hz]; simp [Int.add_assoc]) (by simp [Fs_set, Fn.cells, Fn.markE, Cat.markE])⟩
    have hg := marks_get Fn.markE Fn.sizeE xs k i h
    rw [← hk0] at hg
    have := set_takeB (xs := marks Fn.markE Fn.sizeE k xs) (ys := ys) (i := i) (by simpa using h) hiy ht
    rw [hg] at this
    exact this
  · simp at h
    refine w_exit ?_
    simp
    refine w_sr mo (by rw [hN]; decide) fun K hK => ?_ -- region 18
    simp
    refine hK _ ?_
    clear hK K
    have hi' : i = xs.length := by omega
    subst hi'
    rw [List.take_of_length_le (by omega), List.take_of_length_le (by simp)] at ht
    rw [List.take_length] at hk0
    subst ht hk0
    refine w_ret ⟨?_, ?_⟩
    · simp [resOk]
    · intro j hj; simp at hj; subst hj; simp

end Go.Vc.T

namespace Go.Vc.T
open Go Go.Vc Go.Proofs

def SF.mu (f : SF) (k : Int) : List Mu :=
  [⟨1, Is f.s.fr, Is (run k f.s.fr.length)⟩, ⟨1, Is f.s.to, Is (run (k + f.s.fr.length) f.s.to.length)⟩, ⟨1, Is f.s.id, Is (run (k + f.s.fr.length + f.s.to.length) f.s.id.length)⟩,
   ⟨1, Ls f.s.cs, Ls (runs (k + f.s.fr.length + f.s.to.length + f.s.id.length) f.s.cs)⟩, ⟨1, Is f.sz, Is (run (k + f.s.size) f.sz.length)⟩, ⟨1, Ls f.ac, Ls (runs (k + f.s.size + f.sz.length) f.ac)⟩]
def Fam.mu (f : Fam) (k : Int) : List Mu :=
  [⟨1, Is f.b.fr, Is (run k f.b.fr.length)⟩, ⟨1, Is f.b.to, Is (run (k + f.b.fr.length) f.b.to.length)⟩, ⟨1, Is f.b.id, Is (run (k + f.b.fr.length + f.b.to.length) f.b.id.length)⟩,
   ⟨1, Ls f.b.cs, Ls (runs (k + f.b.fr.length + f.b.to.length + f.b.id.length) f.b.cs)⟩, ⟨5, Cs f.fb, Cs (marks Cat.markE Cat.sizeE (k + f.b.size) f.fb)⟩, ⟨12, Fs f.ch, Fs (marks Fn.markE Fn.sizeE (k + f.b.size + sumB Cat.sizeE f.fb) f.ch)⟩]

theorem ents_nil {h : List (Nat × Ent)} {j : Nat} : Ents h j [] := .nil
theorem m10 (f : SF) (k : Int) (hf : f.ok) (h2 : 0 ≤ k) (h3 : k + f.size ≤ 576460752303423488) :
    MContract Try.prog 10 [.agg [.val (.int .i64 f.s.n), .own 0 0 f.s.fr.length, .own 1 0 f.s.to.length, .own 2 0 f.s.id.length, .own 3 0 f.s.cs.length, .own 4 0 f.sz.length, .own 5 0 f.ac.length], .val (.int .i64 k)] (f.mu k) (.val (.int .i64 (k + f.size))) := by
  obtain ⟨hf1, hf2, hf3, hf4, hf5⟩ := hf
  have hz : f.size = f.s.size + f.sz.length + sumL f.ac := rfl
  refine mcontract_intro (ts := [4]) (rv := .int .i64 (k + f.size)) Try.func10 rfl rfl ?_ rfl (by simp [Try.f10]) ?_ fun F hN hP => ?_
  · have : (-9223372036854775808 ≤ k + f.size) ∧ k + f.size ≤ 9223372036854775807 := by omega
    simp [resV, this]
  · intro j hj
    simp only [SF.mu, List.length_cons, List.length_nil] at hj
    match j, hj with
    | 0, _ => simp [SF.mu]
    | 1, _ => simp [SF.mu]
    | 2, _ => simp [SF.mu]
    | 3, _ => simp [SF.mu]
    | 4, _ => simp [SF.mu]
    | 5, _ => simp [SF.mu]
  refine w_sr mo (by rw [hN]; decide) fun K hK => ?_ -- region 0
  simp [ments, SF.mu]
  refine hK _ ?_
  clear hK K
  refine w_srM mo (by rw [hN]; decide) fun K hK => ?_ -- region 1
  simp
  refine callA_roots (m := [0, 1, 2, 3]) (m31 f.s k hf1 (by omega) (by omega)) (by decide) (.cons rfl (.cons rfl (.cons rfl (.cons rfl .nil)))) (.cons (.aggL (.cons .val (.cons (.own (j := 0) (by decide)) (.cons (.own (j := 1) (by decide)) (.cons (.own (j := 2) (by decide)) (.cons (.own (j := 3) (by decide)) .nil)))))) (.cons .val .nil)) rfl (by simp) ?_
  simp [rsets, Cat.mu]
  refine hK _ ?_
  clear hK K
  rw [show k + f.s.fr.length + f.s.to.length + f.s.id.length + sumL f.s.cs = k + f.s.size by simp [Cat.size, Int.add_assoc]]
  refine w_srM mo (by rw [hN]; decide) fun K hK => ?_ -- region 2
  simp
  refine callA_root (m32 f.sz (k + f.s.size) hf2 (by omega) (by omega)) rfl (by simp) ?_
  simp
  refine hK _ ?_
  clear hK K
  refine w_srM mo (by rw [hN]; decide) fun K hK => ?_ -- region 3
  simp
  refine callA_root (m33 f.ac (k + f.s.size + f.sz.length) hf3 hf4 (by omega) (by omega)) rfl (by simp) ?_
  simp
  refine hK _ ?_
  clear hK K
  refine w_sr mo (by rw [hN]; decide) fun K hK => ?_ -- region 4
  simp
  refine hK _ ?_
  clear hK K
  refine w_ret (mret ?_ ?_)
  · simp [hz, Int.add_assoc]
  · exact .cons rfl (.cons rfl (.cons rfl (.cons rfl (.cons rfl (.cons rfl (.nil))))))

theorem m11 (f : Fam) (k : Int) (hf : f.ok) (h2 : 0 ≤ k) (h3 : k + f.size ≤ 576460752303423488) :
    MContract Try.prog 11 [.agg [.val (.int .i64 f.b.n), .own 0 0 f.b.fr.length, .own 1 0 f.b.to.length, .own 2 0 f.b.id.length, .own 3 0 f.b.cs.length, .own 4 0 f.fb.length, .own 5 0 f.ch.length], .val (.int .i64 k)] (f.mu k) (.val (.int .i64 (k + f.size))) := by
  obtain ⟨hf1, hf2, hf3, hf4, hf5⟩ := hf
  have hz : f.size = f.b.size + sumB Cat.sizeE f.fb + sumB Fn.sizeE f.ch := rfl
  refine mcontract_intro (ts := [4]) (rv := .int .i64 (k + f.size)) Try.func11 rfl rfl ?_ rfl (by simp [Try.f11]) ?_ fun F hN hP => ?_
  · have : (-9223372036854775808 ≤ k + f.size) ∧ k + f.size ≤ 9223372036854775807 := by omega
    simp [resV, this]
  · intro j hj
    simp only [Fam.mu, List.length_cons, List.length_nil] at hj
    match j, hj with
    | 0, _ => simp [Fam.mu]
    | 1, _ => simp [Fam.mu]
    | 2, _ => simp [Fam.mu]
    | 3, _ => simp [Fam.mu]
    | 4, _ => simp [Fam.mu]
    | 5, _ => simp [Fam.mu]
  refine w_sr mo (by rw [hN]; decide) fun K hK => ?_ -- region 0
  simp [ments, Fam.mu]
  refine hK _ ?_
  clear hK K
  refine w_srM mo (by rw [hN]; decide) fun K hK => ?_ -- region 1
  simp
  refine callA_roots (m := [0, 1, 2, 3]) (m31 f.b k hf1 (by omega) (by omega)) (by decide) (.cons rfl (.cons rfl (.cons rfl (.cons rfl .nil)))) (.cons (.aggL (.cons .val (.cons (.own (j := 0) (by decide)) (.cons (.own (j := 1) (by decide)) (.cons (.own (j := 2) (by decide)) (.cons (.own (j := 3) (by decide)) .nil)))))) (.cons .val .nil)) rfl (by simp) ?_
  simp [rsets, Cat.mu]
  refine hK _ ?_
  clear hK K
  rw [show k + f.b.fr.length + f.b.to.length + f.b.id.length + sumL f.b.cs = k + f.b.size by simp [Cat.size, Int.add_assoc]]
  refine w_srM mo (by rw [hN]; decide) fun K hK => ?_ -- region 2
  simp
  refine callA_root (m34 f.fb (k + f.b.size) hf2 hf3 (by omega) (by omega)) rfl (by simp) ?_
  simp
  refine hK _ ?_
  clear hK K
  refine w_srM mo (by rw [hN]; decide) fun K hK => ?_ -- region 3
  simp
  refine callA_root (m35 f.ch (k + f.b.size + sumB Cat.sizeE f.fb) hf4 hf5 (by omega) (by omega)) rfl (by simp) ?_
  simp
  refine hK _ ?_
  clear hK K
  refine w_sr mo (by rw [hN]; decide) fun K hK => ?_ -- region 4
  simp
  refine hK _ ?_
  clear hK K
  refine w_ret (mret ?_ ?_)
  · simp [hz, Int.add_assoc]
  · exact .cons rfl (.cons rfl (.cons rfl (.cons rfl (.cons rfl (.cons rfl (.nil))))))

theorem c6 (u : Bool) (f : SF) (hf : f.ok) : Contract Try.prog 6 [.agg (f.cells u)] (.agg (f.cells true)) := by
  obtain ⟨hf1, hf2, hf3, hf4, hf5⟩ := hf
  refine contract_introC Try.func6 rfl rfl y37 rfl rfl (by simp [Try.f6]) fun F hN hP => ?_
  refine w_sr mo (by rw [hN]; decide) fun K hK => ?_ -- region 0
  simp [SF.cells]
  refine hK _ ?_
  clear hK K
  refine w_sr mo (by rw [hN]; decide) fun K hK => ?_ -- region 1
  simp
  refine hK _ ?_
  clear hK K
  refine w_sr mo (by rw [hN]; decide) fun K hK => ?_ -- region 2
  simp
  refine callA_intro (c18 f.s u hf1) (.cons (.aggL Cat.pur) .nil) ?_
  simp [unk, unA, unE, unC, flat, Cat.av]
  refine hK _ ?_
  clear hK K
  refine w_sr mo (by rw [hN]; decide) fun K hK => ?_ -- region 3
  simp
  refine callA_intro (c19 u f.sz hf2) (.cons .lst .nil) ?_
  simp [unk, unA, unE, flat]
  refine hK _ ?_
  clear hK K
  refine w_sr mo (by rw [hN]; decide) fun K hK => ?_ -- region 4
  simp
  refine callA_intro (c20 u f.ac hf3 hf4) (.cons .lst .nil) ?_
  simp [unk, unA, unE, flat]
  refine hK _ ?_
  clear hK K
  refine w_sr mo (by rw [hN]; decide) fun K hK => ?_ -- region 5
  simp
  refine hK _ ?_
  clear hK K
  refine w_ret ⟨_, _, _, _, _, rfl, rfl, by simp, by simp, ?_⟩
  exact ⟨.agg rfl .nil, [.val (.int .i64 f.s.n), .lst true 1 (Is f.s.fr), .lst true 1 (Is f.s.to), .lst true 1 (Is f.s.id), .lst true 1 (Ls f.s.cs), .lst true 1 (Is f.sz), .lst true 1 (Ls f.ac)], [4, 5, 6, 7, 8, 9], by simp, by simp, UpL.refl _⟩

theorem nn_le {a b : Int} {f : Int → Int} (hf : ∀ x, a = x → 0 ≤ x → f x ≤ b) (hb : -1 ≤ b) : nn a f ≤ b := by
  unfold nn; split
  · exact hb
  · exact hf a rfl (by omega)
theorem lessS_le (xs : List (List Int)) : ∀ l : Int, l ≤ 1048576 → lessS l xs ≤ 1048576 := by
  induction xs with
  | nil => intro l h; simpa [lessS] using h
  | cons x r ih => intro l h; simp only [lessS]; split <;> first | omega | (exact ih _ (less_le h))
theorem lessSS_le {l : Int} {xs : List (List Int)} (h : l ≤ 1048576) : lessSS l xs ≤ 1048576 := by
  unfold lessSS; split
  · omega
  · exact lessS_le _ _ (by omega)
theorem szCat_le {l : Int} {c : Cat} (h : l ≤ 1048576) : szCat l c ≤ 1048576 :=
  nn_le (fun x hx _ => nn_le (fun y hy _ => nn_le (fun z hz _ => nn_le (fun w hw _ => by rw [← hw]; exact lessSS_le (by rw [← hz]; exact less_le (by rw [← hy]; exact less_le (by rw [← hx]; exact less_le h)))) (by decide)) (by decide)) (by decide)) (by decide)

def szSF (l : Int) (f : SF) : Int := nn (szCat l f.s) fun a => nn (less a f.sz.length) fun b => nn (lessSS b f.ac) fun e => e

theorem c4 (u : Bool) (f : SF) (l : Int) (h1 : 0 ≤ l) (h2 : l ≤ 1048576) : Contract Try.prog 4 [.agg (f.cells u), .val (.int .i64 l)] (.val (.int .i64 (szSF l f))) := by
  refine contract_intro (rs := [.val (.int .i64 (szSF l f))]) Try.func4 rfl rfl rfl rfl (by simp [Try.f4]) fun F hN hP => ?_
  refine w_sr mo (by rw [hN]; decide) fun K hK => ?_ -- region 0
  simp [SF.cells]
  refine hK _ ?_
  clear hK K
  refine w_sr mo (by rw [hN]; decide) fun K hK => ?_ -- region 1
  simp
  refine callA_intro (c13 u f.s l h1 h2) (.cons (.aggL Cat.pur) (.cons .val .nil)) ?_
  simp [unk, unA, unE, flat]
  refine hK _ ?_
  clear hK K
  refine w_seq ?_
  refine w_sr mo (by rw [hN]; decide) fun K hK => ?_ -- region 2
  simp
  refine hK _ ?_
  clear hK K
  refine w_cond rfl (fun g1 => ?_) fun g1 => ?_
  · simp at g1
    refine w_sr mo (by rw [hN]; decide) fun K hK => ?_ -- region 3
    simp
    refine hK _ ?_
    clear hK K
    refine w_ret (ret_val rfl ?_)
    simp only [szSF, nn]
    rw [if_pos g1]
  · simp at g1
    refine w_skip ?_
    refine w_sr mo (by rw [hN]; decide) fun K hK => ?_ -- region 4
    simp
    refine callA_intro (c14 u f.sz (szCat l f.s) g1 (szCat_le h2)) (.cons .lst (.cons .val .nil)) ?_
    simp [unk, unA, unE, flat]
    refine hK _ ?_
    clear hK K
    refine w_seq ?_
    refine w_sr mo (by rw [hN]; decide) fun K hK => ?_ -- region 5
    simp
    refine hK _ ?_
    clear hK K
    refine w_cond rfl (fun g2 => ?_) fun g2 => ?_
    · simp at g2
      refine w_sr mo (by rw [hN]; decide) fun K hK => ?_ -- region 6
      simp
      refine hK _ ?_
      clear hK K
      refine w_ret (ret_val rfl ?_)
      simp only [szSF, nn]
      rw [if_neg (Int.not_lt.2 g1), if_pos g2]
    · simp at g2
      refine w_skip ?_
      refine w_sr mo (by rw [hN]; decide) fun K hK => ?_ -- region 7
      simp
      refine callA_intro (c15 u f.ac (less (szCat l f.s) f.sz.length) g2 (less_le (szCat_le h2))) (.cons .lst (.cons .val .nil)) ?_
      simp [unk, unA, unE, flat]
      refine hK _ ?_
      clear hK K
      refine w_seq ?_
      refine w_sr mo (by rw [hN]; decide) fun K hK => ?_ -- region 8
      simp
      refine hK _ ?_
      clear hK K
      refine w_cond rfl (fun g3 => ?_) fun g3 => ?_
      · simp at g3
        refine w_sr mo (by rw [hN]; decide) fun K hK => ?_ -- region 9
        simp
        refine hK _ ?_
        clear hK K
        refine w_ret (ret_val rfl ?_)
        simp only [szSF, nn]
        rw [if_neg (Int.not_lt.2 g1), if_neg (Int.not_lt.2 g2), if_pos g3]
      · simp at g3
        refine w_skip ?_
        refine w_sr mo (by rw [hN]; decide) fun K hK => ?_ -- region 10
        simp
        refine hK _ ?_
        clear hK K
        refine w_ret (ret_val rfl ?_)
        simp only [szSF, nn]
        rw [if_neg (Int.not_lt.2 g1), if_neg (Int.not_lt.2 g2), if_neg (Int.not_lt.2 g3)]

end Go.Vc.T

namespace Go.Vc.T
open Go Go.Vc Go.Proofs

theorem c56 (x a b : Int) : Contract Try.prog 56 [.val (.int .i64 x), .val (.int .i64 a), .val (.int .i64 b)] (.val (.bool (decide (a ≤ x) && decide (x ≤ b)))) := by
  refine contract_intro (rs := [.val (.bool (decide (a ≤ x) && decide (x ≤ b)))]) Try.func56 rfl rfl rfl rfl (by simp [Try.f56]) fun F hN hP => ?_
  refine w_sr mo (by rw [hN]; decide) fun K hK => ?_ -- region 0
  simp
  refine hK _ ?_
  clear hK K
  refine w_sr mo (by rw [hN]; decide) fun K hK => ?_ -- region 1
  simp
  refine ⟨fun h => hK _ (w_ret (ret_val rfl ?_)), fun h => hK _ (w_ret (ret_val rfl ?_))⟩ <;> clear hK K
  · simp [h]
  · simp; omega

theorem c57 (u : Bool) (xs : List Int) (n : Int) : Contract Try.prog 57 [.val (.int .i64 n), .lst u 1 (Is xs)] (.val (.bool (xs.all (inR n)))) := by
  refine contract_intro (rs := [.val (.bool (xs.all (inR n)))]) Try.func57 rfl rfl rfl rfl (by simp [Try.f57]) fun F hN hP => ?_
  refine w_good 1 fun h0 => ?_
  simp at h0
  obtain ⟨hl0, hb0⟩ := h0.is
  refine w_sr mo (by rw [hN]; decide) fun K hK => ?_ -- region 0
  simp
  refine hK _ ?_
  clear hK K
  refine w_seq ?_
  refine w_sr mo (by rw [hN]; decide) fun K hK => ?_ -- region 1
  simp
  refine hK _ ?_
  clear hK K
  refine w_block ?_
  refine w_loop (fun i : Nat => ⟨[(0, .val (.int .i64 n)), (1, .lst u 1 (Is xs)), (5, .val (.int .i64 i))], [], 0⟩) (fun i => i ≤ xs.length ∧ (xs.take i).all (inR n) = true) (fun i => xs.length - i) 0 (by simp) (Wk.cut (by simp) (by simp) rfl) ?_
  rintro i ⟨hi, ht⟩
  refine w_seq ?_
  refine w_sr mo (by rw [hN]; decide) fun K hK => ?_ -- region 2
  simp
  refine hK _ ?_
  clear hK K
  refine w_cond rfl (fun h => ?_) fun h => ?_
  · simp at h
    refine w_skip ?_
    refine w_seq ?_
    refine w_block ?_
    refine w_sr mo (by rw [hN]; decide) fun K hK => ?_ -- region 4
    simp [h]
    refine ⟨fun h1 => hK _ ?_, fun h1 => hK _ ?_⟩ <;> clear hK K
    · refine w_cond rfl (fun h2 => ?_) fun h2 => ?_
      · simp at h2
        refine w_sr mo (by rw [hN]; decide) fun K hK => ?_ -- region 5
        simp
        refine hK _ ?_
        clear hK K
        refine w_ret (ret_val rfl ?_)
        rw [not_all h]
        simp [inR]; omega
      · simp at h2
        refine w_skip ?_
        refine w_run mo (by rw [hN]; decide) fun K hK => ?_ -- region 3
        simp
        refine hK _ ?_
        clear hK K
        rw [wrap_succ (n := xs.length) (by omega) (by omega)]
        refine ⟨i + 1, ⟨by omega, all_take h ht (by simp [inR]; omega)⟩, by dsimp only; omega, Wk.cut (by simp) (by simp) rfl⟩
    · refine w_cond rfl (fun _ => ?_) fun h => by simp at h
      refine w_sr mo (by rw [hN]; decide) fun K hK => ?_ -- region 5
      simp
      refine hK _ ?_
      clear hK K
      refine w_ret (ret_val rfl ?_)
      rw [not_all h]
      simp [inR]; omega
  · simp at h
    refine w_exit ?_
    simp
    have hi' : i = xs.length := by omega
    subst hi'
    rw [List.take_length] at ht
    refine w_sr mo (by rw [hN]; decide) fun K hK => ?_ -- region 6
    simp
    refine hK _ ?_
    clear hK K
    refine w_ret (ret_val rfl ?_)
    rw [ht]

theorem c58 (u : Bool) (xs : List Int) (hx : xs.length ≤ 1048576) : Contract Try.prog 58 [.lst u 1 (Is xs)] (.lst true 1 (Is xs)) := by
  refine contract_intro (rs := [.lst true 1 (Is xs)]) Try.func58 rfl rfl rfl rfl (by simp [Try.f58]) fun F hN hP => ?_
  refine w_sr mo (by rw [hN]; decide) fun K hK => ?_ -- region 0
  simp
  refine hK _ ?_
  clear hK K
  refine w_sr mo (by rw [hN]; decide) fun K hK => ?_ -- region 1
  simp
  refine ⟨⟨?_, by omega, by omega⟩, hK _ ?_⟩
  · intro e he c hc
    obtain ⟨x, _, rfl⟩ := List.mem_map.1 he
    simp at hc; subst hc; rfl
  clear hK K
  refine w_ret (ret_row rfl rfl (by simp) (by simp))

theorem c47 (u : Bool) (xs : List Int) (hx : xs.length ≤ 1048576) : Contract Try.prog 47 [.lst u 1 (Is xs)] (.lst true 1 (Is xs)) := by
  refine contract_intro (rs := [.lst true 1 (Is xs)]) Try.func47 rfl rfl rfl rfl (by simp [Try.f47]) fun F hN hP => ?_
  refine w_sr mo (by rw [hN]; decide) fun K hK => ?_ -- region 0
  simp
  refine hK _ ?_
  clear hK K
  refine w_sr mo (by rw [hN]; decide) fun K hK => ?_ -- region 1
  simp
  refine ⟨⟨?_, by omega, by omega⟩, hK _ ?_⟩
  · intro e he c hc
    obtain ⟨x, _, rfl⟩ := List.mem_map.1 he
    simp at hc; subst hc; rfl
  clear hK K
  refine w_ret (ret_row rfl rfl (by simp) (by simp))

theorem c59 (u : Bool) (xs : List (List Int)) (hx : xs.length ≤ 1048576) (hx' : ∀ x ∈ xs, x.length ≤ 1048576) : Contract Try.prog 59 [.lst u 1 (Ls xs)] (.lst true 1 (Ls xs)) := by
  refine contract_intro (rs := [.lst true 1 (Ls xs)]) Try.func59 rfl rfl rfl rfl (by simp [Try.f59]) fun F hN hP => ?_
  refine w_sr mo (by rw [hN]; decide) fun K hK => ?_ -- region 0
  simp
  refine hK _ ?_
  clear hK K
  refine w_sr mo (by rw [hN]; decide) fun K hK => ?_ -- region 1
  simp
  refine hK _ ?_
  clear hK K
  refine w_seq ?_
  refine w_sr mo (by rw [hN]; decide) fun K hK => ?_ -- region 2
  simp
  refine hK _ ?_
  clear hK K
  refine w_block ?_
  refine w_loop (fun i : Nat => ⟨[(0, .lst u 1 (Ls xs)), (3, .own 0 0 i), (4, .val (.int .i64 i))], [(0, .row 1 (Ls (xs.take i)))], 1⟩) (fun i => i ≤ xs.length) (fun i => xs.length - i) 0 (by simp) (Wk.nils [] (by simp) (by simp) (by simp [nlA]) (by simp [entN, Ls]) (by simp)) ?_
  intro i hi
  refine w_seq ?_
  refine w_sr mo (by rw [hN]; decide) fun K hK => ?_ -- region 3
  simp
  refine hK _ ?_
  clear hK K
  refine w_cond rfl (fun h => ?_) fun h => ?_
  · simp at h
    refine w_skip ?_
    refine w_seq ?_
    refine w_block ?_
    refine w_run mo (by rw [hN]; decide) fun K hK => ?_ -- region 5
    simp [h]
    refine callA_intro (c58 true xs[i] (hx' _ (List.getElem_mem h))) (.cons .lst .nil) ?_
    simp [unk, unA, unE, flat]
    refine ⟨by omega, hK _ ?_⟩
    clear hK K
    refine w_run mo (by rw [hN]; decide) fun K hK => ?_ -- region 4
    simp
    refine hK _ ?_
    clear hK K
    rw [wrap_succ (n := xs.length) (by omega) (by omega)]
    rw [Nat.min_eq_left hi, List.take_of_length_le (l := Ls (List.take i xs)) (by simp; omega), Ls_take h]
    refine ⟨i + 1, by omega, by dsimp only; omega, Wk.relabel [(3, 0)] (by simp) (by simp) (by rw [hP]; simp) (by simp) (by simp) (by simp) (by simp)⟩
  · simp at h
    refine w_exit ?_
    simp
    refine w_sr mo (by rw [hN]; decide) fun K hK => ?_ -- region 6
    simp
    refine hK _ ?_
    clear hK K
    have hi' : i = xs.length := by omega
    subst hi'
    refine w_ret (ret_row rfl rfl (by simp) (by simp))

theorem c48 (u : Bool) (xs : List (List Int)) (hx : xs.length ≤ 1048576) (hx' : ∀ x ∈ xs, x.length ≤ 1048576) : Contract Try.prog 48 [.lst u 1 (Ls xs)] (.lst true 1 (Ls xs)) := by
  refine contract_intro (rs := [.lst true 1 (Ls xs)]) Try.func48 rfl rfl rfl rfl (by simp [Try.f48]) fun F hN hP => ?_
  refine w_sr mo (by rw [hN]; decide) fun K hK => ?_ -- region 0
  simp
  refine hK _ ?_
  clear hK K
  refine w_sr mo (by rw [hN]; decide) fun K hK => ?_ -- region 1
  simp
  refine ⟨by omega, hK _ ?_⟩
  clear hK K
  refine w_seq ?_
  refine w_sr mo (by rw [hN]; decide) fun K hK => ?_ -- region 2
  simp
  refine hK _ ?_
  clear hK K
  refine w_block ?_
  refine w_loop (fun i : Nat => ⟨[(0, .lst u 1 (Ls xs)), (3, .own 0 0 i), (9, .lst u 1 (Ls xs)), (10, .val (.int .i64 xs.length)), (11, .val (.int .i64 i))], [(0, .row 1 (Ls (xs.take i)))], 1⟩) (fun i => i ≤ xs.length) (fun i => xs.length - i) 0 (by simp) (Wk.cut (by simp) (by simp [Ls]) rfl) ?_
  intro i hi
  refine w_sr mo (by rw [hN]; decide) fun K hK => ?_ -- region 3
  simp
  refine hK _ ?_
  clear hK K
  refine w_seq ?_
  refine w_cond rfl (fun h => ?_) fun h => ?_
  · simp at h
    refine w_skip ?_
    refine w_seq ?_
    refine w_block ?_
    refine w_sr mo (by rw [hN]; decide) fun K hK => ?_ -- region 4
    simp [h]
    refine hK _ ?_
    clear hK K
    refine w_run mo (by rw [hN]; decide) fun K hK => ?_ -- region 5
    simp
    refine callA_intro (c47 true xs[i] (hx' _ (List.getElem_mem h))) (.cons .lst .nil) ?_
    simp [unk, unA, unE, flat]
    refine ⟨by omega, hK _ ?_⟩
    clear hK K
    refine w_run mo (by rw [hN]; decide) fun K hK => ?_ -- region 6
    simp
    refine hK _ ?_
    clear hK K
    rw [wrap_succ (n := xs.length) (by omega) (by omega)]
    rw [Nat.min_eq_left hi, List.take_of_length_le (l := Ls (List.take i xs)) (by simp; omega), Ls_take h]
    refine ⟨i + 1, by omega, by dsimp only; omega, Wk.relabel [(3, 0)] (by simp) (by simp) (by rw [hP]; simp) (by simp) (by simp) (by simp) (by simp)⟩
  · simp at h
    refine w_exit ?_
    simp
    refine w_sr mo (by rw [hN]; decide) fun K hK => ?_ -- region 7
    simp
    refine hK _ ?_
    clear hK K
    have hi' : i = xs.length := by omega
    subst hi'
    refine w_ret (ret_row rfl rfl (by simp) (by simp))

end Go.Vc.T

namespace Go.Vc.T
open Go Go.Vc Go.Proofs

@[simp] theorem pl29 : places Try.prog 29 = some [(0, 1), (1, 1), (2, 1), (3, 1), (4, 1)] := by kernel_rfl
@[simp] theorem pl57 : places Try.prog 57 = some [(0, 5), (5, 5), (10, 1), (11, 1)] := by kernel_rfl
@[simp] theorem pl33 : places Try.prog 33 = some [(0, 5), (5, 1), (6, 1)] := by kernel_rfl
@[simp] theorem pl86 : places Try.prog 86 = some [(0, 1), (1, 1)] := by kernel_rfl
@[simp] theorem y86 : tyi Try.prog 86 = some ⟨true, 2, 16, [.int .i64 0, .int .i64 0]⟩ := by kernel_rfl
@[simp] theorem q86 : eqT Try.prog 86 = 4 := by kernel_rfl

def iota (n : Nat) : List Int := (List.range n).map fun i : Nat => (i : Int)
@[simp] theorem iota_length (n : Nat) : (iota n).length = n := by simp [iota]
theorem iota_succ (n : Nat) : iota (n + 1) = iota n ++ [(n : Int)] := by simp [iota, List.range_succ]
theorem iota_get (n i : Nat) (h : i < n) : (iota n)[i]'(by simpa using h) = i := by simp [iota]
def fill (xs : List Int) (n : Nat) (z : Int) : List Int := xs ++ List.replicate (n - xs.length) z
theorem fill_length (xs : List Int) (n : Nat) (z : Int) (h : xs.length ≤ n) : (fill xs n z).length = n := by simp [fill]; omega
theorem fill_set (xs : List Int) (n : Nat) (z x : Int) (h : xs.length < n) : (fill xs n z).set xs.length x = fill (xs ++ [x]) n z := by
  rw [fill, List.set_append_right _ _ (Nat.le_refl _), Nat.sub_self, show n - xs.length = (n - (xs.length + 1)) + 1 by omega, List.replicate_succ, List.set_cons_zero]
  simp [fill]

theorem c49 (n : Nat) (hn : n ≤ 1048576) : Contract Try.prog 49 [.val (.int .i64 n)] (.lst true 1 (Is (iota n))) := by
  refine contract_intro (rs := [.lst true 1 (Is (iota n))]) Try.func49 rfl rfl rfl rfl (by simp [Try.f49]) fun F hN hP => ?_
  refine w_sr mo (by rw [hN]; decide) fun K hK => ?_ -- region 0
  simp
  refine hK _ ?_
  clear hK K
  refine w_sr mo (by rw [hN]; decide) fun K hK => ?_ -- region 1
  simp
  refine ⟨by omega, hK _ ?_⟩
  clear hK K
  refine w_seq ?_
  refine w_sr mo (by rw [hN]; decide) fun K hK => ?_ -- region 2
  simp
  refine hK _ ?_
  clear hK K
  refine w_block ?_
  refine w_loop (fun i : Nat => ⟨[(3, .own 0 0 n), (8, .val (.int .i64 n)), (9, .val (.int .i64 i))], [(0, .row 1 (Is (fill (iota i) n 0)))], 1⟩) (fun i => i ≤ n) (fun i => n - i) 0 (by simp) (Wk.cut (by simp) (by simp [fill, iota]) rfl) ?_
  intro i hi
  refine w_sr mo (by rw [hN]; decide) fun K hK => ?_ -- region 3
  simp
  refine hK _ ?_
  clear hK K
  refine w_seq ?_
  refine w_cond rfl (fun h => ?_) fun h => ?_
  · simp at h
    refine w_skip ?_
    refine w_seq ?_
    refine w_block ?_
    refine w_sr mo (by rw [hN]; decide) fun K hK => ?_ -- region 4
    simp
    refine hK _ ?_
    clear hK K
    refine w_run mo (by rw [hN]; decide) fun K hK => ?_ -- region 5
    simp [h, fill_length (iota i) n 0 (by simpa using hi)]
    refine hK _ ?_
    clear hK K
    refine w_run mo (by rw [hN]; decide) fun K hK => ?_ -- region 6
    simp
    refine hK _ ?_
    clear hK K
    rw [wrap_succ (n := n) (by omega) (by omega)]
    have hf := fill_set (iota i) n 0 i (by simpa using h)
    rw [iota_length, ← iota_succ] at hf
    rw [hf]
    refine ⟨i + 1, by omega, by dsimp only; omega, Wk.cut (by simp) (by simp) rfl⟩
  · simp at h
    refine w_exit ?_
    simp
    refine w_sr mo (by rw [hN]; decide) fun K hK => ?_ -- region 7
    simp
    refine hK _ ?_
    clear hK K
    have hi' : i = n := by omega
    subst hi'
    refine w_ret (ret_row rfl rfl (by simp [fill]) (by simp [fill]))

theorem c61 (u : Bool) (c : Cat) (tl : List AV) : Contract Try.prog 61 [.rptr (c.cells u ++ tl)] (.val (.int .i64 c.fr.length)) := by
  refine contract_intro (rs := [.val (.int .i64 c.fr.length)]) Try.func61 rfl rfl rfl rfl (by simp [Try.f61]) fun F hN hP => ?_
  refine w_sr mo (by rw [hN]; decide) fun K hK => ?_ -- region 0
  simp [Cat.cells]
  refine hK _ ?_
  clear hK K
  refine w_sr mo (by rw [hN]; decide) fun K hK => ?_ -- region 1
  simp [Cat.cells]
  refine hK _ ?_
  clear hK K
  refine w_ret (ret_val rfl rfl)

theorem c67 (u : Bool) (xs : List Int) (m n : Int) : Contract Try.prog 67 [.lst u 1 (Is xs), .val (.int .i64 m), .val (.int .i64 n)] (.val (.bool (decide ((xs.length : Int) = m) && xs.all (inR n)))) := by
  refine contract_intro (rs := [.val (.bool (decide ((xs.length : Int) = m) && xs.all (inR n)))]) Try.func67 rfl rfl rfl rfl (by simp [Try.f67]) fun F hN hP => ?_
  refine w_sr mo (by rw [hN]; decide) fun K hK => ?_ -- region 0
  simp
  refine hK _ ?_
  clear hK K
  refine w_sr mo (by rw [hN]; decide) fun K hK => ?_ -- region 1
  simp
  refine ⟨fun h => ?_, fun h => hK _ (w_ret (ret_val rfl ?_))⟩
  · refine callA_intro (c57 u xs n) (.cons .val (.cons .lst .nil)) ?_
    simp [unk, unA, unE, flat]
    refine hK _ (w_ret (ret_val rfl ?_))
    simp [h]
  · simp [h]

theorem c62 (u : Bool) (xs : List Int) (m n : Int) (hn : B64 (n - 1)) : Contract Try.prog 62 [.lst u 1 (Is xs), .val (.int .i64 m), .val (.int .i64 n)] (.val (.bool (decide ((xs.length : Int) = m) && xs.all (inR n)))) := by
  refine contract_intro (rs := [.val (.bool (decide ((xs.length : Int) = m) && xs.all (inR n)))]) Try.func62 rfl rfl rfl rfl (by simp [Try.f62]) fun F hN hP => ?_
  refine w_sr mo (by rw [hN]; decide) fun K hK => ?_ -- region 0
  simp
  refine hK _ ?_
  clear hK K
  refine w_sr mo (by rw [hN]; decide) fun K hK => ?_ -- region 1
  simp
  refine ⟨fun h => ?_, fun h => hK _ (w_ret (ret_val rfl ?_))⟩
  · refine callA_intro (c22 u xs n hn) (.cons .lst (.cons .val .nil)) ?_
    simp [unk, unA, unE, flat]
    refine hK _ (w_ret (ret_val rfl ?_))
    simp [h]
  · simp [h]

theorem c41 (u : Bool) (c : Cat) (hc : c.ok) : Contract Try.prog 41 [.agg (c.cells u)] (.agg (c.cells true)) := by
  obtain ⟨hc1, hc2, hc3, hc4, hc5, hc6⟩ := hc
  refine contract_introC Try.func41 rfl rfl y29 rfl rfl (by simp [Try.f41]) fun F hN hP => ?_
  refine w_sr mo (by rw [hN]; decide) fun K hK => ?_ -- region 0
  simp [Cat.cells]
  refine hK _ ?_
  clear hK K
  refine w_sr mo (by rw [hN]; decide) fun K hK => ?_ -- region 1 DRAWN
  simp
  refine callA_intro (c58 u c.fr hc1) (.cons .lst .nil) ?_
  simp [unk, unA, unE, unC, flat]
  refine callA_intro (c58 u c.to hc2) (.cons .lst .nil) ?_
  simp [unk, unA, unE, unC, flat]
  refine callA_intro (c58 u c.id hc3) (.cons .lst .nil) ?_
  simp [unk, unA, unE, unC, flat]
  refine callA_intro (c59 u c.cs hc4 hc5) (.cons .lst .nil) ?_
  simp [unk, unA, unE, unC, flat]
  refine hK _ ?_
  clear hK K
  refine w_ret ⟨_, _, _, _, _, rfl, rfl, by simp, by simp, ?_⟩
  exact ⟨.agg rfl .nil, [.val (.int .i64 c.n), .lst true 1 (Is c.fr), .lst true 1 (Is c.to), .lst true 1 (Is c.id), .lst true 1 (Ls c.cs)], [2, 3, 4, 5], by simp, by simp, UpL.refl _⟩

theorem c23 (u : Bool) (c : Cat) (tl : List AV) (hc : c.ok) : Contract Try.prog 23 [.rptr (c.cells u ++ tl)] (.agg (c.cells true)) := by
  obtain ⟨hc1, hc2, hc3, hc4, hc5, hc6⟩ := hc
  refine contract_introC Try.func23 rfl rfl y29 rfl rfl (by simp [Try.f23]) fun F hN hP => ?_
  refine w_sr mo (by rw [hN]; decide) fun K hK => ?_ -- region 0
  simp [Cat.cells]
  refine hK _ ?_
  clear hK K
  refine w_sr mo (by rw [hN]; decide) fun K hK => ?_ -- region 1 DRAWN
  simp
  refine callA_intro (c47 u c.fr hc1) (.cons .lst .nil) ?_
  simp [unk, unA, unE, unC, flat]
  refine callA_intro (c47 u c.to hc2) (.cons .lst .nil) ?_
  simp [unk, unA, unE, unC, flat]
  refine callA_intro (c47 u c.id hc3) (.cons .lst .nil) ?_
  simp [unk, unA, unE, unC, flat]
  refine callA_intro (c48 u c.cs hc4 hc5) (.cons .lst .nil) ?_
  simp [unk, unA, unE, unC, flat]
  refine hK _ ?_
  clear hK K
  refine w_ret ⟨_, _, _, _, _, rfl, rfl, by simp, by simp, ?_⟩
  exact ⟨.agg rfl .nil, [.val (.int .i64 c.n), .lst true 1 (Is c.fr), .lst true 1 (Is c.to), .lst true 1 (Is c.id), .lst true 1 (Ls c.cs)], [1, 2, 3, 4], by simp, by simp, UpL.refl _⟩

theorem c43 (u v u1 u2 : Bool) (f : Fn) (hf : f.ok) : Contract Try.prog 43 [.agg (f.s.cells u), .agg (f.t.cells v), .lst u1 1 (Is f.ob), .lst u2 1 (Is f.ar)] (.agg (f.cells true)) := by
  obtain ⟨hs, ht, ho, ha⟩ := hf
  refine contract_introC Try.func43 rfl rfl y57 rfl rfl (by simp [Try.f43]) fun F hN hP => ?_
  refine w_sr mo (by rw [hN]; decide) fun K hK => ?_ -- region 0
  simp [Cat.cells]
  refine hK _ ?_
  clear hK K
  refine w_sr mo (by rw [hN]; decide) fun K hK => ?_ -- region 1 DRAWN
  simp
  refine callA_intro (c41 u f.s hs) (.cons (.aggL Cat.pur) .nil) ?_
  simp [unk, unA, unE, unC, flat, Cat.cells]
  refine callA_intro (c41 v f.t ht) (.cons (.aggL Cat.pur) .nil) ?_
  simp [unk, unA, unE, unC, flat, Cat.cells]
  refine callA_intro (c58 u1 f.ob ho) (.cons .lst .nil) ?_
  simp [unk, unA, unE, unC, flat]
  refine callA_intro (c58 u2 f.ar ha) (.cons .lst .nil) ?_
  simp [unk, unA, unE, unC, flat]
  refine hK _ ?_
  clear hK K
  refine w_ret ⟨_, _, _, _, _, rfl, rfl, by simp, by simp, ?_⟩
  exact ⟨.agg rfl .nil, [.val (.int .i64 f.s.n), .lst true 1 (Is f.s.fr), .lst true 1 (Is f.s.to), .lst true 1 (Is f.s.id), .lst true 1 (Ls f.s.cs), .val (.int .i64 f.t.n), .lst true 1 (Is f.t.fr), .lst true 1 (Is f.t.to), .lst true 1 (Is f.t.id), .lst true 1 (Ls f.t.cs), .lst true 1 (Is f.ob), .lst true 1 (Is f.ar)], [4, 5, 6, 7, 9, 10, 11, 12, 13, 14], by simp, by simp, UpL.refl _⟩

theorem c25 (u v u1 u2 : Bool) (f : Fn) (tl tl2 : List AV) (hf : f.ok) : Contract Try.prog 25 [.rptr (f.s.cells u ++ tl), .rptr (f.t.cells v ++ tl2), .lst u1 1 (Is f.ob), .lst u2 1 (Is f.ar)] (.agg (f.cells true)) := by
  obtain ⟨hs, ht, ho, ha⟩ := hf
  refine contract_introC Try.func25 rfl rfl y57 rfl rfl (by simp [Try.f25]) fun F hN hP => ?_
  refine w_sr mo (by rw [hN]; decide) fun K hK => ?_ -- region 0
  simp
  refine hK _ ?_
  clear hK K
  refine w_sr mo (by rw [hN]; decide) fun K hK => ?_ -- region 1
  simp
  refine callA_intro (c23 u f.s tl hs) (.cons .rptr .nil) ?_
  simp [unk, unA, unE, unC, flat, Cat.cells]
  refine callA_intro (c23 v f.t tl2 ht) (.cons .rptr .nil) ?_
  simp [unk, unA, unE, unC, flat, Cat.cells]
  refine callA_intro (c47 u1 f.ob ho) (.cons .lst .nil) ?_
  simp [unk, unA, unE, unC, flat]
  refine callA_intro (c47 u2 f.ar ha) (.cons .lst .nil) ?_
  simp [unk, unA, unE, unC, flat]
  refine hK _ ?_
  clear hK K
  refine w_ret ⟨_, _, _, _, _, rfl, rfl, by simp, by simp, ?_⟩
  exact ⟨.agg rfl .nil, [.val (.int .i64 f.s.n), .lst true 1 (Is f.s.fr), .lst true 1 (Is f.s.to), .lst true 1 (Is f.s.id), .lst true 1 (Ls f.s.cs), .val (.int .i64 f.t.n), .lst true 1 (Is f.t.fr), .lst true 1 (Is f.t.to), .lst true 1 (Is f.t.id), .lst true 1 (Ls f.t.cs), .lst true 1 (Is f.ob), .lst true 1 (Is f.ar)], [2, 3, 4, 5, 7, 8, 9, 10, 11, 12], by simp, by simp, UpL.refl _⟩

end Go.Vc.T
