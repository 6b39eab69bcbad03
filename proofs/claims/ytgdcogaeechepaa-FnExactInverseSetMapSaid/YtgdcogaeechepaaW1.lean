/- A part of the proof: a verified generator of conditions, and what each function of the program does. -/
import Derived.Test.YtgdcogaeechepaaProg
import Derived.Test.YtgdcogaeechepaaL3
set_option maxRecDepth 100000
set_option linter.unusedSimpArgs false
set_option linter.unusedVariables false

set_option linter.unusedSimpArgs false
set_option linter.unusedVariables false

namespace Go.Vc.T
open Go Go.Vc Go.Proofs

@[simp] theorem e22 : elm Try.prog 22 = some 2 := by kernel_rfl
@[simp] theorem y2 : tyi Try.prog 2 = some ⟨false, 1, 8, [.int .i64 0]⟩ := by kernel_rfl
theorem mo : Try.prog.follows .mixedOrders = true := by kernel_rfl
@[simp] theorem q2 : eqT Try.prog 2 = 0 := by kernel_rfl
@[simp] theorem q3 : eqT Try.prog 3 = 0 := by kernel_rfl

theorem set_take {xs ys : List Int} {i : Nat} (h1 : i < xs.length) (h2 : i < ys.length) (h : ys.take i = xs.take i) : (ys.set i xs[i]).take (i + 1) = xs.take (i + 1) := by
  rw [List.take_succ_eq_append_getElem h1, List.take_succ_eq_append_getElem (by simpa using h2), List.take_set_of_le (Nat.le_refl _), h]
  simp

theorem take_eq {xs ys : List Int} {i : Nat} (h1 : i < xs.length) (h2 : i < ys.length) (h : xs.take i = ys.take i) (he : xs[i] = ys[i]) : xs.take (i + 1) = ys.take (i + 1) := by
  rw [List.take_succ_eq_append_getElem h1, List.take_succ_eq_append_getElem h2, h, he]

theorem c29 (ux uy : Bool) (xs ys : List Int) : Contract Try.prog 67 [.lst ux 1 (Is xs), .lst uy 1 (Is ys)] (.val (.bool (decide (xs = ys)))) := by
  refine contract_intro (rs := [.val (.bool (decide (xs = ys)))]) Try.func67 rfl rfl rfl rfl (by simp [Try.f67]) fun F hN hP => ?_
  refine w_good 0 fun h0 => ?_
  simp at h0
  obtain ⟨hl0, hb0⟩ := h0.is
  refine w_sr mo (by rw [hN]; decide) fun K hK => ?_
  simp
  refine hK _ ?_
  clear hK K
  refine w_seq (w_sr mo (by rw [hN]; decide) fun K hK => ?_)
  simp
  refine hK _ (w_cond rfl (fun h => ?_) fun h => ?_) <;> clear hK K
  · simp at h
    refine w_sr mo (by rw [hN]; decide) fun K hK => ?_
    simp
    refine hK _ (w_ret (ret_val rfl ?_))
    clear hK K
    simp
    rintro rfl; exact h rfl
  · simp at h
    refine w_skip ?_
    simp only [thenA]
    refine w_seq (w_sr mo (by rw [hN]; decide) fun K hK => ?_)
    simp
    refine hK _ (w_block ?_)
    clear hK K
    refine w_loop (fun i : Nat => ⟨[(0, .lst ux 1 (Is xs)), (1, .lst uy 1 (Is ys)), (5, .val (.int .i64 i))], [], 0⟩) (fun i => i ≤ xs.length ∧ xs.take i = ys.take i) (fun i => xs.length - i) 0 (by simp) (Wk.cut (by simp) rfl rfl) ?_
    rintro i ⟨hi, hti⟩
    refine w_seq (w_sr mo (by rw [hN]; decide) fun K hK => ?_)
    simp
    refine hK _ (w_cond rfl (fun h => ?_) fun h => ?_) <;> clear hK K
    · simp at h
      refine w_skip ?_
      simp only [thenA]
      refine w_seq (w_block (w_sr mo (by rw [hN]; decide) fun K hK => ?_))
      have h2 : i < ys.length := by omega
      simp [h, h2]
      refine hK _ (w_cond rfl (fun h => ?_) fun h => ?_) <;> clear hK K
      · simp at h
        refine w_sr mo (by rw [hN]; decide) fun K hK => ?_
        simp
        refine hK _ (w_ret (ret_val rfl ?_))
        clear hK K
        simp
        rintro rfl; exact h rfl
      · simp at h
        refine w_skip ?_
        simp
        refine w_run mo (by rw [hN]; decide) fun K hK => ?_
        simp
        refine hK _ ?_
        clear hK K
        refine ⟨i + 1, ⟨by omega, take_eq (by omega) h2 hti h⟩, by dsimp only; omega, Wk.cut ?_ rfl rfl⟩
        rw [wrap_succ (n := xs.length) (by omega) hl0]
        simp
    · simp at h
      refine w_exit ?_
      simp
      refine w_sr mo (by rw [hN]; decide) fun K hK => ?_
      simp
      refine hK _ (w_ret (ret_val rfl ?_))
      clear hK K
      rw [List.take_of_length_le (by omega), List.take_of_length_le (by omega)] at hti
      simp [hti]

theorem c19 (u : Bool) (xs : List Int) (hx : xs.length ≤ 1048576) : Contract Try.prog 60 [.lst u 1 (Is xs)] (.lst true 1 (Is xs)) := by
  refine contract_intro (rs := [.lst true 1 (Is xs)]) Try.func60 rfl rfl rfl rfl (by simp [Try.f60]) fun F hN hP => ?_
  refine w_sr mo (by rw [hN]; decide) fun K hK => ?_
  simp
  refine hK _ ?_
  clear hK K
  refine w_sr mo (by rw [hN]; decide) fun K hK => ?_
  simp
  refine ⟨?_, hK _ ?_⟩ <;> clear hK K
  · omega
  refine w_seq (w_sr mo (by rw [hN]; decide) fun K hK => ?_)
  simp
  refine hK _ (w_block ?_)
  clear hK K
  refine w_loop (fun p : Nat × List Int => ⟨[(0, .lst u 1 (Is xs)), (3, .own 0 0 xs.length), (4, .val (.int .i64 p.1))], [(0, .row 1 (Is p.2))], 1⟩) (fun p => p.1 ≤ xs.length ∧ p.2.length = xs.length ∧ p.2.take p.1 = xs.take p.1) (fun p => xs.length - p.1) (0, List.replicate xs.length 0) (by simp) (Wk.cut (by simp) (by simp) rfl) ?_
  rintro ⟨i, ys⟩ ⟨hi, hy, ht⟩
  simp at hi hy ht
  refine w_seq (w_sr mo (by rw [hN]; decide) fun K hK => ?_)
  simp
  refine hK _ (w_cond rfl (fun h => ?_) fun h => ?_) <;> clear hK K
  · simp at h
    refine w_skip ?_
    simp only [thenA]
    refine w_seq (w_block (w_run mo (by rw [hN]; decide) fun K hK => ?_))
    have h2 : i < ys.length := by omega
    simp [h, hy]
    refine hK _ ?_
    clear hK K
    simp
    refine w_run mo (by rw [hN]; decide) fun K hK => ?_
    simp
    refine hK _ ?_
    clear hK K
    rw [wrap_succ (n := xs.length) (by omega) (by omega)]
    refine ⟨(i + 1, ys.set i xs[i]), ⟨by dsimp only; omega, by simp [hy], ?_⟩, by dsimp only; omega, Wk.cut (by simp) (by simp) rfl⟩
    exact set_take h h2 ht
  · simp at h
    refine w_exit ?_
    simp
    refine w_sr mo (by rw [hN]; decide) fun K hK => ?_
    simp
    refine hK _ (w_ret (ret_row rfl rfl ?_ ?_)) <;> clear hK K
    · simp [hy]
    · rw [List.take_of_length_le (by omega), List.take_of_length_le (by omega)] at ht
      rw [ht]

end Go.Vc.T


namespace Go.Vc.T
open Go Go.Vc Go.Proofs

/-- Numbers one after another. -/
def run (k : Int) : Nat → List Int
  | 0 => []
  | n + 1 => k :: run (k + 1) n

@[simp] theorem run_length (n : Nat) : ∀ k, (run k n).length = n := by
  induction n with
  | zero => intro k; rfl
  | succ n ih => intro k; simp [run, ih]

theorem run_get (n : Nat) : ∀ (k : Int) (i : Nat) (h : i < n), (run k n)[i]'(by simpa using h) = k + i := by
  induction n with
  | zero => intro k i h; omega
  | succ n ih =>
    intro k i h
    cases i with
    | zero => simp [run]
    | succ i => simp only [run, List.getElem_cons_succ]; rw [ih (k + 1) i (by omega)]; push_cast; omega

theorem m32 (xs : List Int) (k : Int) (h1 : xs.length ≤ 1048576) (h2 : 0 ≤ k) (h3 : k ≤ 1152921504606846976) :
    MContract Try.prog 69 [.own 0 0 xs.length, .val (.int .i64 k)] [⟨1, Is xs, Is (run k xs.length)⟩] (.val (.int .i64 (k + xs.length))) := by
  refine mcontract_intro (ts := [4]) (rv := .int .i64 (k + xs.length)) Try.func69 rfl rfl ?_ rfl (by simp [Try.f69]) ?_ fun F hN hP => ?_
  · have : (-9223372036854775808 ≤ k + xs.length) ∧ k + xs.length ≤ 9223372036854775807 := by omega
    simp [resV, this]
  · intro j hj; simp at hj; subst hj; simp
  refine w_sr mo (by rw [hN]; decide) fun K hK => ?_
  simp
  refine hK _ ?_
  clear hK K
  refine w_seq (w_sr mo (by rw [hN]; decide) fun K hK => ?_)
  simp
  refine hK _ (w_block ?_)
  clear hK K
  refine w_loop (fun p : Nat × List Int => ⟨[(0, .own 0 0 xs.length), (1, .val (.int .i64 (k + p.1))), (5, .val (.int .i64 p.1))], [(0, .row 1 (Is p.2))], 1⟩) (fun p => p.1 ≤ xs.length ∧ p.2.length = xs.length ∧ p.2.take p.1 = (run k xs.length).take p.1) (fun p => xs.length - p.1) (0, xs) (by simp) (Wk.cut (by simp) (by simp [ments]) rfl) ?_
  rintro ⟨i, ys⟩ ⟨hi, hy, ht⟩
  simp at hi hy ht
  refine w_seq (w_sr mo (by rw [hN]; decide) fun K hK => ?_)
  simp
  refine hK _ (w_cond rfl (fun h => ?_) fun h => ?_) <;> clear hK K
  · simp at h
    refine w_skip ?_
    simp only [thenA]
    refine w_seq (w_block (w_sr mo (by rw [hN]; decide) fun K hK => ?_))
    simp [h, hy]
    refine hK _ ?_
    clear hK K
    refine w_run mo (by rw [hN]; decide) fun K hK => ?_
    simp
    refine hK _ ?_
    clear hK K
    simp
    refine w_run mo (by rw [hN]; decide) fun K hK => ?_
    simp
    refine hK _ ?_
    clear hK K
    rw [wrap_succ (n := xs.length) (by omega) (by omega), wrap_id ⟨by omega, by omega⟩]
    refine ⟨(i + 1, ys.set i (k + i)), ⟨by dsimp only; omega, by simp [hy], ?_⟩, by dsimp only; omega, Wk.cut (by simp [Int.add_assoc]) (by simp) rfl⟩
    have hr := run_get xs.length k i h
    have := set_take (xs := run k xs.length) (ys := ys) (i := i) (by simpa using h) (by omega) ht
    rw [hr] at this
    exact this
  · simp at h
    refine w_exit ?_
    simp
    refine w_sr mo (by rw [hN]; decide) fun K hK => ?_
    simp
    refine hK _ (w_ret ?_)
    clear hK K
    have hi' : i = xs.length := by omega
    subst hi'
    rw [List.take_of_length_le (by omega), List.take_of_length_le (by simp)] at ht
    subst ht
    refine ⟨?_, ?_⟩
    · simp [resOk]
    · intro j hj; simp at hj; subst hj; simp

def Ls (xss : List (List Int)) : List (List AV) := xss.map fun xs => [.lst true 1 (Is xs)]
@[simp] theorem Ls_length (xss : List (List Int)) : (Ls xss).length = xss.length := by simp [Ls]
@[simp] theorem Ls_at (xss : List (List Int)) (i : Nat) (h : i < xss.length) : (Ls xss)[i]? = some [.lst true 1 (Is xss[i])] := by simp [Ls, h]
@[simp] theorem Ls_at' (xss : List (List Int)) (i : Nat) (h : i < (Ls xss).length) : (Ls xss)[i] = [.lst true 1 (Is (xss[i]'(by simpa using h)))] := by simp [Ls]
@[simp] theorem Ls_set (xss : List (List Int)) (i : Nat) (x : List Int) : (Ls xss).set i [.lst true 1 (Is x)] = Ls (xss.set i x) := by simp [Ls, List.map_set]

@[simp] theorem e23 : elm Try.prog 23 = some 22 := by kernel_rfl
@[simp] theorem y22 : tyi Try.prog 22 = some ⟨false, 1, 24, [.slice none 0 0]⟩ := by kernel_rfl

def sumL (xss : List (List Int)) : Nat := (xss.map List.length).sum

def runs (k : Int) : List (List Int) → List (List Int)
  | [] => []
  | xs :: r => run k xs.length :: runs (k + xs.length) r

@[simp] theorem runs_length (xss : List (List Int)) : ∀ k, (runs k xss).length = xss.length := by
  induction xss with
  | nil => intro k; rfl
  | cons xs r ih => intro k; simp [runs, ih]

theorem sumL_take (xss : List (List Int)) : ∀ (i : Nat) (h : i < xss.length), sumL (xss.take (i + 1)) = sumL (xss.take i) + xss[i].length := by
  induction xss with
  | nil => intro i h; simp at h
  | cons xs r ih =>
    intro i h
    cases i with
    | zero => simp [sumL]
    | succ i =>
      have := ih i (by simpa using h)
      simp only [sumL, List.take_succ_cons, List.map_cons, List.sum_cons, List.getElem_cons_succ] at this ⊢
      omega

theorem sumL_le (xss : List (List Int)) : ∀ (i : Nat), sumL (xss.take i) ≤ sumL xss := by
  induction xss with
  | nil => intro i; simp [sumL]
  | cons xs r ih =>
    intro i
    cases i with
    | zero => simp [sumL]
    | succ i =>
      have := ih i
      simp only [sumL, List.take_succ_cons, List.map_cons, List.sum_cons] at this ⊢
      omega

theorem runs_get (xss : List (List Int)) : ∀ (k : Int) (i : Nat) (h : i < xss.length), (runs k xss)[i]'(by simpa using h) = run (k + sumL (xss.take i)) xss[i].length := by
  induction xss with
  | nil => intro k i h; simp at h
  | cons xs r ih =>
    intro k i h
    cases i with
    | zero => simp [runs, sumL]
    | succ i =>
      simp only [runs, List.getElem_cons_succ]
      rw [ih _ i (by simpa using h)]
      simp only [sumL, List.take_succ_cons, List.map_cons, List.sum_cons]
      push_cast
      rw [Int.add_assoc]

theorem set_takeL {xs ys : List (List Int)} {i : Nat} (h1 : i < xs.length) (h2 : i < ys.length) (h : ys.take i = xs.take i) : (ys.set i xs[i]).take (i + 1) = xs.take (i + 1) := by
  rw [List.take_succ_eq_append_getElem h1, List.take_succ_eq_append_getElem (by simpa using h2), List.take_set_of_le (Nat.le_refl _), h]
  simp

theorem m33 (xss : List (List Int)) (k : Int) (h1 : xss.length ≤ 1048576) (h1' : ∀ xs ∈ xss, xs.length ≤ 1048576) (h2 : 0 ≤ k) (h3 : k + sumL xss ≤ 1152921504606846976) :
    MContract Try.prog 32 [.own 0 0 xss.length, .val (.int .i64 k)] [⟨1, Ls xss, Ls (runs k xss)⟩] (.val (.int .i64 (k + sumL xss))) := by
  refine mcontract_intro (ts := [4]) (rv := .int .i64 (k + sumL xss)) Try.func32 rfl rfl ?_ rfl (by simp [Try.f32]) ?_ fun F hN hP => ?_
  · have : (-9223372036854775808 ≤ k + sumL xss) ∧ k + sumL xss ≤ 9223372036854775807 := by omega
    simp [resV, this]
  · intro j hj; simp at hj; subst hj; simp
  refine w_sr mo (by rw [hN]; decide) fun K hK => ?_
  simp
  refine hK _ ?_
  clear hK K
  refine w_seq (w_sr mo (by rw [hN]; decide) fun K hK => ?_)
  simp
  refine hK _ (w_block ?_)
  clear hK K
  refine w_loop (fun p : Nat × List (List Int) => ⟨[(0, .own 0 0 xss.length), (1, .val (.int .i64 (k + sumL (xss.take p.1)))), (5, .val (.int .i64 p.1))], [(0, .row 1 (Ls p.2))], 1⟩) (fun p => p.1 ≤ xss.length ∧ p.2.length = xss.length ∧ p.2.take p.1 = (runs k xss).take p.1 ∧ p.2.drop p.1 = xss.drop p.1) (fun p => xss.length - p.1) (0, xss) (by simp) (Wk.cut (by simp [sumL]) (by simp [ments]) rfl) ?_
  rintro ⟨i, ys⟩ ⟨hi, hy, ht, hd⟩
  simp at hi hy ht hd
  refine w_seq (w_sr mo (by rw [hN]; decide) fun K hK => ?_)
  simp
  refine hK _ (w_cond rfl (fun h => ?_) fun h => ?_) <;> clear hK K
  · simp at h
    have hiy : i < ys.length := by omega
    have he : ys[i] = xss[i] := by
      have h5 := congrArg (fun l => l[0]?) hd
      simpa [h, hiy] using h5
    refine w_skip ?_
    simp only [thenA]
    refine w_seq (w_block (w_runM mo (by rw [hN]; decide) fun K hK => ?_))
    simp [h, hy]
    have hs1 := sumL_take xss i h
    have hs2 := sumL_le xss (i + 1)
    refine callA_mut (m := [1]) (m32 xss[i] (k + sumL (xss.take i)) (h1' _ (List.getElem_mem h)) (by omega) (by omega)) (MCall.cell (i := i) (r := 0) (k := 0) (szr := 1) (esr := Ls ys) (dels := [1]) rfl rfl (by simp [hiy]) (by simp) (by simp [hiy]) (by simp [hiy, he]) (by simp) (by simp [isAli])) rfl ?_ ?_ ?_
    · intro q hq
      match q, hq with
      | 0, _ =>
        show MArg [1] (.own 1 0 ys[i].length) (.own 0 0 xss[i].length)
        rw [he]; exact .own (j := 0) (by simp)
      | 1, _ => exact .val
    · intro j hj
      have hj0 : j = 0 := by simpa using hj
      subst hj0
      exact ⟨0, by simp, by simp [Occ]⟩
    simp [hiy]
    refine hK _ ?_
    clear hK K
    refine w_run mo (by rw [hN]; decide) fun K hK => ?_
    simp
    refine hK _ ?_
    clear hK K
    rw [wrap_succ (n := xss.length) (by omega) (by omega)]
    refine ⟨(i + 1, ys.set i (run (k + sumL (xss.take i)) xss[i].length)), ⟨by dsimp only; omega, by simp [hy], ?_, ?_⟩, by dsimp only; omega, Wk.relabel [(0, 0)] (by simp) (by simp) (by rw [hP]; simp) (by simp) (by simp) ?_ ?_⟩
    · have := set_takeL (xs := runs k xss) (ys := ys) (i := i) (by simpa using h) hiy ht
      rw [runs_get xss k i h] at this
      exact this
    · dsimp only
      rw [List.drop_set_of_lt (by omega)]
      have := congrArg (List.drop 1) hd
      simpa [List.drop_drop, Nat.add_comm] using this
    · simp [hs1, Int.add_assoc, rl]
    · simp [rlE]
  · simp at h
    refine w_exit ?_
    simp
    refine w_sr mo (by rw [hN]; decide) fun K hK => ?_
    simp
    refine hK _ (w_ret ?_)
    clear hK K
    have hi' : i = xss.length := by omega
    subst hi'
    rw [List.take_of_length_le (by omega), List.take_of_length_le (by simp)] at ht
    subst ht
    refine ⟨?_, ?_⟩
    · simp [resOk]
    · intro j hj; simp at hj; subst hj; simp

end Go.Vc.T


namespace Go.Vc.T
open Go Go.Vc Go.Proofs

theorem c46 (x a b : Int) : Contract Try.prog 87 [.val (.int .i64 x), .val (.int .i64 a), .val (.int .i64 b)] (.val (.bool (decide (a ≤ x) && decide (x ≤ b)))) := by
  refine contract_intro (rs := [.val (.bool (decide (a ≤ x) && decide (x ≤ b)))]) Try.func87 rfl rfl rfl rfl (by simp [Try.f87]) fun F hN hP => ?_
  refine w_sr mo (by rw [hN]; decide) fun K hK => ?_
  simp
  refine hK _ ?_
  clear hK K
  refine w_sr mo (by rw [hN]; decide) fun K hK => ?_
  simp
  refine ⟨fun h => hK _ (w_ret (ret_val rfl ?_)), fun h => hK _ (w_ret (ret_val rfl ?_))⟩ <;> clear hK K
  · simp [h]
  · simp; omega

def inR (n : Int) (x : Int) : Bool := decide (0 ≤ x) && decide (x ≤ n - 1)

theorem all_take {p : Int → Bool} {xs : List Int} {i : Nat} (h : i < xs.length) (h1 : (xs.take i).all p = true) (h2 : p xs[i] = true) : (xs.take (i + 1)).all p = true := by
  rw [List.take_succ_eq_append_getElem h, List.all_append, h1]; simp [h2]

theorem not_all {p : Int → Bool} {xs : List Int} {i : Nat} (h : i < xs.length) (h2 : p xs[i] = false) : xs.all p = false := by
  rw [List.all_eq_false]; exact ⟨xs[i], List.getElem_mem h, by simp [h2]⟩

theorem c22 (u : Bool) (xs : List Int) (n : Int) (hn : B64 (n - 1)) : Contract Try.prog 80 [.lst u 1 (Is xs), .val (.int .i64 n)] (.val (.bool (xs.all (inR n)))) := by
  refine contract_intro (rs := [.val (.bool (xs.all (inR n)))]) Try.func80 rfl rfl rfl rfl (by simp [Try.f80]) fun F hN hP => ?_
  refine w_good 0 fun h0 => ?_
  simp at h0
  obtain ⟨hl0, hb0⟩ := h0.is
  refine w_sr mo (by rw [hN]; decide) fun K hK => ?_
  simp
  refine hK _ ?_
  clear hK K
  refine w_seq ?_
  refine w_sr mo (by rw [hN]; decide) fun K hK => ?_
  simp
  refine hK _ ?_
  clear hK K
  refine w_block ?_
  refine w_loop (fun i : Nat => ⟨[(0, .lst u 1 (Is xs)), (1, .val (.int .i64 n)), (7, .lst u 1 (Is xs)), (8, .val (.int .i64 xs.length)), (9, .val (.int .i64 i))], [], 0⟩) (fun i => i ≤ xs.length ∧ (xs.take i).all (inR n) = true) (fun i => xs.length - i) 0 (by simp) (Wk.cut (by simp) rfl rfl) ?_
  rintro i ⟨hi, ht⟩
  refine w_sr mo (by rw [hN]; decide) fun K hK => ?_
  simp
  refine hK _ ?_
  clear hK K
  refine w_seq ?_
  refine w_cond rfl (fun h => ?_) fun h => ?_
  · simp at h
    refine w_skip ?_
    refine w_seq ?_
    refine w_block ?_
    refine w_sr mo (by rw [hN]; decide) fun K hK => ?_ -- region 3
    simp [h]
    refine hK _ ?_
    clear hK K
    refine w_sr mo (by rw [hN]; decide) fun K hK => ?_ -- region 4
    simp
    refine callA_intro (c46 xs[i] 0 (n - 1)) ?_ ?_
    · rw [wrap_id hn]; exact .cons .val (.cons .val (.cons .val .nil))
    simp [unk, unA, unE, flat]
    refine hK _ ?_
    clear hK K
    refine w_cond rfl (fun h2 => ?_) fun h2 => ?_
    · refine w_sr mo (by rw [hN]; decide) fun K hK => ?_
      simp
      refine hK _ ?_
      clear hK K
      refine w_ret (ret_val rfl ?_)
      simp at h2
      rw [not_all h (by simp [inR]; omega)]
    · refine w_skip ?_
      refine w_run mo (by rw [hN]; decide) fun K hK => ?_
      simp
      refine hK _ ?_
      clear hK K
      rw [wrap_succ (n := xs.length) (by omega) hl0]
      refine ⟨i + 1, ⟨by omega, all_take h ht (by simpa [inR] using h2)⟩, by dsimp only; omega, Wk.relabel [] (by simp) (by simp) (by rw [hP]; simp) (by simp) (by simp) (by simp) (by simp)⟩
  · simp at h
    refine w_exit ?_
    simp
    refine w_sr mo (by rw [hN]; decide) fun K hK => ?_
    simp
    refine hK _ (w_ret (ret_val rfl ?_))
    clear hK K
    rw [List.take_of_length_le (by omega)] at ht
    rw [ht]

/-- What 'held' answers. -/
def held (k : Int) (xs : List Int) : Int := if xs = run k xs.length then k + xs.length else -1

theorem run_take (n : Nat) : ∀ (k : Int) (i : Nat), i ≤ n → (run k n).take i = run k i := by
  induction n with
  | zero => intro k i h; have : i = 0 := by omega
            subst this; rfl
  | succ n ih =>
    intro k i h
    cases i with
    | zero => rfl
    | succ i => simp [run, ih (k + 1) i (by omega)]

theorem c53 (u : Bool) (xs : List Int) (k : Int) (h1 : xs.length ≤ 1048576) (h2 : 0 ≤ k) (h3 : k ≤ 1152921504606846976) : Contract Try.prog 71 [.lst u 1 (Is xs), .val (.int .i64 k)] (.val (.int .i64 (held k xs))) := by
  refine contract_intro (rs := [.val (.int .i64 (held k xs))]) Try.func71 rfl rfl rfl rfl (by simp [Try.f71]) fun F hN hP => ?_
  refine w_sr mo (by rw [hN]; decide) fun K hK => ?_ -- region 0
  simp
  refine hK _ ?_
  clear hK K
  refine w_seq ?_
  refine w_sr mo (by rw [hN]; decide) fun K hK => ?_ -- region 1
  simp
  refine hK _ ?_
  clear hK K
  refine w_block ?_
  refine w_loop (fun p : Nat => ⟨[(0, .lst u 1 (Is xs)), (1, .val (.int .i64 (k + p))), (5, .val (.int .i64 p))], [], 0⟩) (fun p => p ≤ xs.length ∧ xs.take p = run k p) (fun p => xs.length - p) 0 (by simp [run]) (Wk.cut (by simp) (by simp) rfl) ?_
  rintro i ⟨hi, ht⟩
  refine w_seq ?_
  refine w_sr mo (by rw [hN]; decide) fun K hK => ?_ -- region 2
  simp
  refine hK _ ?_
  clear hK K
  refine w_cond rfl (fun h => ?_) fun h => ?_
  · simp at h
    refine w_skip ?_
    refine w_seq ?_
    refine w_block ?_
    refine w_seq ?_
    refine w_sr mo (by rw [hN]; decide) fun K hK => ?_ -- region 4
    simp [h]
    refine hK _ ?_
    clear hK K
    refine w_cond rfl (fun h4 => ?_) fun h4 => ?_
    · simp at h4
      refine w_sr mo (by rw [hN]; decide) fun K hK => ?_ -- region 5
      simp
      refine hK _ ?_
      clear hK K
      refine w_ret (ret_val rfl ?_)
      rw [held, if_neg]
      intro he
      have := congrArg (fun l => l[i]?) he
      simp only [List.getElem?_eq_getElem h] at this
      rw [List.getElem?_eq_getElem (by simpa using h), run_get _ _ _ h] at this
      simp at this
      omega
    · simp at h4
      refine w_skip ?_
      refine w_run mo (by rw [hN]; decide) fun K hK => ?_ -- region 6
      simp
      refine hK _ ?_
      clear hK K
      refine w_run mo (by rw [hN]; decide) fun K hK => ?_ -- region 3
      simp
      refine hK _ ?_
      clear hK K
      rw [wrap_succ (n := xs.length) (by omega) (by omega), wrap_id ⟨by omega, by omega⟩]
      refine ⟨i + 1, ⟨by omega, ?_⟩, by dsimp only; omega, Wk.cut (by simp [Int.add_assoc]) (by simp) rfl⟩
      have e1 : xs.take (i + 1) = (run k xs.length).take (i + 1) := by
        refine take_eq h (by simpa using h) (by rw [ht, run_take _ _ _ hi]) (by rw [run_get _ _ _ h]; exact h4)
      rw [e1, run_take _ _ _ (by omega)]
  · simp at h
    refine w_exit ?_
    simp
    refine w_sr mo (by rw [hN]; decide) fun K hK => ?_ -- region 7
    simp
    refine hK _ ?_
    clear hK K
    have hi' : i = xs.length := by omega
    subst hi'
    refine w_ret (ret_val rfl ?_)
    rw [List.take_of_length_le (by omega)] at ht
    rw [held, if_pos ht]

end Go.Vc.T


namespace Go.Vc.T
open Go Go.Vc Go.Proofs

@[simp] theorem fld29_0 : fld Try.prog 31 0 = some (0, 1, false) := by kernel_rfl
@[simp] theorem fld29_1 : fld Try.prog 31 1 = some (1, 1, false) := by kernel_rfl
@[simp] theorem fld29_2 : fld Try.prog 31 2 = some (2, 1, false) := by kernel_rfl
@[simp] theorem fld29_3 : fld Try.prog 31 3 = some (3, 1, false) := by kernel_rfl
@[simp] theorem fld29_4 : fld Try.prog 31 4 = some (4, 1, false) := by kernel_rfl
@[simp] theorem y23 : tyi Try.prog 23 = some ⟨false, 1, 24, [.slice none 0 0]⟩ := by kernel_rfl

/-- A category's tables. -/
structure Cat where
  n : Int
  fr : List Int
  to : List Int
  id : List Int
  cs : List (List Int)

def Cat.mu (c : Cat) (k : Int) : List Mu :=
  [⟨1, Is c.fr, Is (run k c.fr.length)⟩, ⟨1, Is c.to, Is (run (k + c.fr.length) c.to.length)⟩, ⟨1, Is c.id, Is (run (k + c.fr.length + c.to.length) c.id.length)⟩,
   ⟨1, Ls c.cs, Ls (runs (k + c.fr.length + c.to.length + c.id.length) c.cs)⟩]

def Cat.ok (c : Cat) : Prop := c.fr.length ≤ 1048576 ∧ c.to.length ≤ 1048576 ∧ c.id.length ≤ 1048576 ∧ c.cs.length ≤ 1048576 ∧ (∀ xs ∈ c.cs, xs.length ≤ 1048576) ∧ sumL c.cs ≤ 1099511627776
def Cat.size (c : Cat) : Nat := c.fr.length + c.to.length + c.id.length + sumL c.cs

theorem m31 (c : Cat) (k : Int) (hc : c.ok) (h2 : 0 ≤ k) (h3 : k ≤ 576460752303423488) :
    MContract Try.prog 68 [.agg [.val (.int .i64 c.n), .own 0 0 c.fr.length, .own 1 0 c.to.length, .own 2 0 c.id.length, .own 3 0 c.cs.length], .val (.int .i64 k)] (c.mu k) (.val (.int .i64 (k + c.fr.length + c.to.length + c.id.length + sumL c.cs))) := by
  obtain ⟨hc1, hc2, hc3, hc4, hc5, hc6⟩ := hc
  refine mcontract_intro (ts := [4]) (rv := .int .i64 (k + c.fr.length + c.to.length + c.id.length + sumL c.cs)) Try.func68 rfl rfl ?_ rfl (by simp [Try.f68]) ?_ fun F hN hP => ?_
  · have : (-9223372036854775808 ≤ k + c.fr.length + c.to.length + c.id.length + sumL c.cs) ∧ k + c.fr.length + c.to.length + c.id.length + sumL c.cs ≤ 9223372036854775807 := by omega
    simp [resV, this]
  · intro j hj
    simp only [Cat.mu, List.length_cons, List.length_nil] at hj
    match j, hj with
    | 0, _ => simp [Cat.mu]
    | 1, _ => simp [Cat.mu]
    | 2, _ => simp [Cat.mu]
    | 3, _ => simp [Cat.mu]
  refine w_sr mo (by rw [hN]; decide) fun K hK => ?_ -- region 0
  simp [ments, Cat.mu]
  refine hK _ ?_
  clear hK K
  refine w_srM mo (by rw [hN]; decide) fun K hK => ?_ -- region 1
  simp
  refine callA_root (m32 c.fr k hc1 h2 (by omega)) rfl (by simp) ?_
  simp
  refine hK _ ?_
  clear hK K
  refine w_srM mo (by rw [hN]; decide) fun K hK => ?_ -- region 2
  simp
  refine callA_root (m32 c.to (k + c.fr.length) hc2 (by omega) (by omega)) rfl (by simp) ?_
  simp
  refine hK _ ?_
  clear hK K
  refine w_srM mo (by rw [hN]; decide) fun K hK => ?_ -- region 3
  simp
  refine callA_root (m32 c.id (k + c.fr.length + c.to.length) hc3 (by omega) (by omega)) rfl (by simp) ?_
  simp
  refine hK _ ?_
  clear hK K
  refine w_srM mo (by rw [hN]; decide) fun K hK => ?_ -- region 4
  simp
  refine callA_root (m33 c.cs (k + c.fr.length + c.to.length + c.id.length) hc4 hc5 (by omega) (by omega)) rfl (by simp) ?_
  simp
  refine hK _ ?_
  clear hK K
  refine w_sr mo (by rw [hN]; decide) fun K hK => ?_ -- region 5
  simp
  refine hK _ ?_
  clear hK K
  refine w_ret ⟨?_, ?_⟩
  · simp
  · intro j hj
    simp only [Cat.mu, List.length_cons, List.length_nil] at hj
    match j, hj with
    | 0, _ => simp [Cat.mu]
    | 1, _ => simp [Cat.mu]
    | 2, _ => simp [Cat.mu]
    | 3, _ => simp [Cat.mu]

end Go.Vc.T


namespace Go.Vc.T
open Go Go.Vc Go.Proofs

/-- A list that is being filled. -/
def Part (done : List (List AV)) (n i : Nat) (z : List AV) : List (List AV) := done ++ List.replicate (n - i) z

theorem Part.at {done : List (List AV)} {n i : Nat} {z : List AV} (hi : i < n) (hd : done.length = i) : (Part done n i z)[i]? = some z := by
  rw [Part, List.getElem?_append_right (by omega), hd, Nat.sub_self, List.getElem?_replicate, if_pos (by omega)]

theorem Part.next {done : List (List AV)} {n i : Nat} {x z : List AV} (hi : i < n) (hd : done.length = i) : (Part done n i z).set i x = Part (done ++ [x]) n (i + 1) z := by
  rw [Part, List.set_append_right _ _ (by omega), hd, Nat.sub_self, show n - i = (n - (i + 1)) + 1 by omega, List.replicate_succ, List.set_cons_zero]
  simp [Part]

theorem Part.length {done : List (List AV)} {n i : Nat} {z : List AV} (hi : i ≤ n) (hd : done.length = i) : (Part done n i z).length = n := by simp [Part]; omega

theorem Ls_take {xss : List (List Int)} {i : Nat} (h : i < xss.length) : Ls (xss.take i) ++ [[.lst true 1 (Is xss[i])]] = Ls (xss.take (i + 1)) := by
  rw [List.take_succ_eq_append_getElem h, Ls, Ls, List.map_append]; rfl

theorem c20 (u : Bool) (xss : List (List Int)) (hx : xss.length ≤ 1048576) (hx' : ∀ xs ∈ xss, xs.length ≤ 1048576) : Contract Try.prog 24 [.lst u 1 (Ls xss)] (.lst true 1 (Ls xss)) := by
  refine contract_intro (rs := [.lst true 1 (Ls xss)]) Try.func24 rfl rfl rfl rfl (by simp [Try.f24]) fun F hN hP => ?_
  refine w_sr mo (by rw [hN]; decide) fun K hK => ?_ -- region 0
  simp
  refine hK _ ?_
  clear hK K
  refine w_sr mo (by rw [hN]; decide) fun K hK => ?_ -- region 1
  simp
  refine ⟨by omega, hK _ ?_⟩
  clear hK K
  refine w_seq ?_
  refine w_sr mo (by rw [hN]; decide) fun K hK => ?_ -- region 2
  simp
  refine hK _ ?_
  clear hK K
  refine w_block ?_
  refine w_loop (fun i : Nat => ⟨[(0, .lst u 1 (Ls xss)), (3, .own 0 0 xss.length), (4, .val (.int .i64 i))], [(0, .row 1 (Part (Ls (xss.take i)) xss.length i [.val (.slice none 0 0)]))], 1⟩) (fun i => i ≤ xss.length) (fun i => xss.length - i) 0 (by simp) (Wk.cut (by simp) (by simp [Part, Ls]) rfl) ?_
  intro i hi
  refine w_seq ?_
  refine w_sr mo (by rw [hN]; decide) fun K hK => ?_ -- region 3
  simp
  refine hK _ ?_
  clear hK K
  refine w_cond rfl (fun h => ?_) fun h => ?_
  · simp at h
    have hd : (Ls (xss.take i)).length = i := by simp; omega
    have hat := Part.at (z := [.val (.slice none 0 0)]) h hd
    have hlen := Part.length (z := [.val (.slice none 0 0)]) hi hd
    refine w_skip ?_
    refine w_seq ?_
    refine w_block ?_
    refine w_run mo (by rw [hN]; decide) fun K hK => ?_ -- region 5
    simp [h]
    refine callA_intro (c19 u xss[i] (hx' _ (List.getElem_mem h))) (.cons .lst .nil) ?_
    simp [unk, unA, unE, flat, h]
    refine stoA_row [] y22 rfl (b := .lst true 1 (Is xss[i])) (ds := [1]) rfl (by simp) (by omega) (by simp) (by simp) (by simp) (by simp) ?_
    simp [hat]
    refine hK _ ?_
    clear hK K
    refine w_run mo (by rw [hN]; decide) fun K hK => ?_ -- region 4
    simp
    refine hK _ ?_
    clear hK K
    rw [wrap_succ (n := xss.length) (by omega) (by omega), Part.next h hd, Ls_take h]
    refine ⟨i + 1, by omega, by dsimp only; omega, Wk.relabel [(0, 0)] (by simp) (by simp) (by rw [hP]; simp) (by simp) (by simp) (by simp) (by simp)⟩
  · simp at h
    refine w_exit ?_
    simp
    refine w_sr mo (by rw [hN]; decide) fun K hK => ?_ -- region 6
    simp
    refine hK _ ?_
    clear hK K
    have hi' : i = xss.length := by omega
    subst hi'
    refine w_ret (ret_row rfl rfl ?_ ?_)
    · simp [Part]
    · simp [Part]

end Go.Vc.T


namespace Go.Vc.T
open Go Go.Vc Go.Proofs

@[simp] theorem fld25_0 : fld Try.prog 25 0 = some (0, 1, false) := by kernel_rfl
@[simp] theorem fld25_1 : fld Try.prog 25 1 = some (1, 1, false) := by kernel_rfl
@[simp] theorem fld25_2 : fld Try.prog 25 2 = some (2, 1, false) := by kernel_rfl
@[simp] theorem fld25_3 : fld Try.prog 25 3 = some (3, 1, false) := by kernel_rfl
@[simp] theorem fld25_4 : fld Try.prog 25 4 = some (4, 1, false) := by kernel_rfl
@[simp] theorem y29 : tyi Try.prog 31 = some ⟨true, 5, 104, [.int .i64 0, .slice none 0 0, .slice none 0 0, .slice none 0 0, .slice none 0 0]⟩ := by kernel_rfl

/-- A category by content. -/
def Cat.av (u : Bool) (c : Cat) : AV := .agg [.val (.int .i64 c.n), .lst u 1 (Is c.fr), .lst u 1 (Is c.to), .lst u 1 (Is c.id), .lst u 1 (Ls c.cs)]

theorem c18 (c : Cat) (u : Bool) (hc : c.ok) : Contract Try.prog 59 [c.av u] (c.av true) := by
  obtain ⟨hc1, hc2, hc3, hc4, hc5, hc6⟩ := hc
  refine contract_introC Try.func59 rfl rfl y29 rfl rfl (by simp [Try.f59]) fun F hN hP => ?_
  refine w_sr mo (by rw [hN]; decide) fun K hK => ?_ -- region 0
  simp [Cat.av]
  refine hK _ ?_
  clear hK K
  refine w_sr mo (by rw [hN]; decide) fun K hK => ?_ -- region 1
  simp
  refine hK _ ?_
  clear hK K
  refine w_sr mo (by rw [hN]; decide) fun K hK => ?_ -- region 2
  simp
  refine hK _ ?_
  clear hK K
  refine w_sr mo (by rw [hN]; decide) fun K hK => ?_ -- region 3
  simp
  refine callA_intro (c19 u c.fr hc1) (.cons .lst .nil) ?_
  simp [unk, unA, unE, flat]
  refine hK _ ?_
  clear hK K
  refine w_sr mo (by rw [hN]; decide) fun K hK => ?_ -- region 4
  simp
  refine callA_intro (c19 u c.to hc2) (.cons .lst .nil) ?_
  simp [unk, unA, unE, flat]
  refine hK _ ?_
  clear hK K
  refine w_sr mo (by rw [hN]; decide) fun K hK => ?_ -- region 5
  simp
  refine callA_intro (c19 u c.id hc3) (.cons .lst .nil) ?_
  simp [unk, unA, unE, flat]
  refine hK _ ?_
  clear hK K
  refine w_sr mo (by rw [hN]; decide) fun K hK => ?_ -- region 6
  simp
  refine callA_intro (c20 u c.cs hc4 hc5) (.cons .lst .nil) ?_
  simp [unk, unA, unE, flat]
  refine hK _ ?_
  clear hK K
  refine w_sr mo (by rw [hN]; decide) fun K hK => ?_ -- region 7
  simp
  refine hK _ ?_
  clear hK K
  refine w_ret ⟨_, _, _, _, _, rfl, rfl, by simp, by simp, ?_⟩
  exact ⟨.agg rfl .nil, [.val (.int .i64 c.n), .lst true 1 (Is c.fr), .lst true 1 (Is c.to), .lst true 1 (Is c.id), .lst true 1 (Ls c.cs)], [3, 4, 5, 6], by simp, by simp, UpL.refl _⟩

end Go.Vc.T


namespace Go.Vc.T
open Go Go.Vc Go.Proofs

/-- What is left of a size. -/
def less (left : Int) (n : Nat) : Int := if left - n < 0 then -1 else left - n

theorem c14 (u : Bool) (xs : List Int) (l : Int) (h1 : 0 ≤ l) (h2 : l ≤ 1048576) : Contract Try.prog 49 [.lst u 1 (Is xs), .val (.int .i64 l)] (.val (.int .i64 (less l xs.length))) := by
  refine contract_intro (rs := [.val (.int .i64 (less l xs.length))]) Try.func49 rfl rfl rfl rfl (by simp [Try.f49]) fun F hN hP => ?_
  refine w_good 0 fun h0 => ?_
  simp at h0
  obtain ⟨hl0, hb0⟩ := h0.is
  refine w_sr mo (by rw [hN]; decide) fun K hK => ?_ -- region 0
  simp
  refine hK _ ?_
  clear hK K
  refine w_sr mo (by rw [hN]; decide) fun K hK => ?_ -- region 1
  simp
  rw [wrap_id ⟨by omega, by omega⟩]
  refine hK _ ?_
  clear hK K
  refine w_seq ?_
  refine w_sr mo (by rw [hN]; decide) fun K hK => ?_ -- region 2
  simp
  refine hK _ ?_
  clear hK K
  refine w_cond rfl (fun h => ?_) fun h => ?_
  · simp at h
    refine w_sr mo (by rw [hN]; decide) fun K hK => ?_ -- region 3
    simp
    refine hK _ ?_
    clear hK K
    refine w_ret (ret_val rfl ?_)
    rw [less, if_pos (by omega)]
  · simp at h
    refine w_skip ?_
    refine w_sr mo (by rw [hN]; decide) fun K hK => ?_ -- region 4
    simp
    refine hK _ ?_
    clear hK K
    refine w_ret (ret_val rfl ?_)
    rw [less, if_neg (by omega)]

def lessS (l : Int) : List (List Int) → Int
  | [] => l
  | xs :: r => if less l xs.length < 0 then -1 else lessS (less l xs.length) r

def lessSS (l : Int) (xss : List (List Int)) : Int := if l - xss.length < 0 then -1 else lessS (l - xss.length) xss

theorem good_len {u : Bool} {sz : Nat} {es : List (List AV)} (h : Good (.lst u sz es)) : es.length ≤ 9223372036854775807 := by
  cases h with
  | lst h1 => exact Nat.le_trans h1 (by decide)
  | other h => exact h.elim

theorem c15 (u : Bool) (xss : List (List Int)) (l : Int) (h1 : 0 ≤ l) (h2 : l ≤ 1048576) : Contract Try.prog 18 [.lst u 1 (Ls xss), .val (.int .i64 l)] (.val (.int .i64 (lessSS l xss))) := by
  refine contract_intro (rs := [.val (.int .i64 (lessSS l xss))]) Try.func18 rfl rfl rfl rfl (by simp [Try.f18]) fun F hN hP => ?_
  refine w_good 0 fun h0 => ?_
  simp at h0
  have hl0 := good_len h0
  simp at hl0
  refine w_sr mo (by rw [hN]; decide) fun K hK => ?_ -- region 0
  simp
  refine hK _ ?_
  clear hK K
  refine w_sr mo (by rw [hN]; decide) fun K hK => ?_ -- region 1
  simp
  rw [wrap_id ⟨by omega, by omega⟩]
  refine hK _ ?_
  clear hK K
  refine w_seq ?_
  refine w_sr mo (by rw [hN]; decide) fun K hK => ?_ -- region 2
  simp
  refine hK _ ?_
  clear hK K
  refine w_cond rfl (fun h => ?_) fun h => ?_
  · simp at h
    refine w_sr mo (by rw [hN]; decide) fun K hK => ?_ -- region 3
    simp
    refine hK _ ?_
    clear hK K
    refine w_ret (ret_val rfl ?_)
    rw [lessSS, if_pos (by omega)]
  · simp at h
    refine w_skip ?_
    refine w_seq ?_
    refine w_sr mo (by rw [hN]; decide) fun K hK => ?_ -- region 4
    simp
    refine hK _ ?_
    clear hK K
    refine w_block ?_
    refine w_loop (fun p : Nat × Int => ⟨[(0, .lst u 1 (Ls xss)), (1, .val (.int .i64 p.2)), (5, .val (.int .i64 p.1))], [], 0⟩) (fun p => p.1 ≤ xss.length ∧ 0 ≤ p.2 ∧ p.2 ≤ 1048576 ∧ lessS p.2 (xss.drop p.1) = lessSS l xss) (fun p => xss.length - p.1) (0, l - xss.length) ⟨by simp, by dsimp only; omega, by dsimp only; omega, by rw [lessSS, if_neg (by omega)]; rfl⟩ (Wk.cut (by simp) (by simp) rfl) ?_
    rintro ⟨i, q⟩ ⟨hi, hq1, hq2, hq3⟩
    simp only at hi hq1 hq2 hq3
    refine w_seq ?_
    refine w_sr mo (by rw [hN]; decide) fun K hK => ?_ -- region 5
    simp
    refine hK _ ?_
    clear hK K
    refine w_cond rfl (fun h => ?_) fun h => ?_
    · simp at h
      rw [List.drop_eq_getElem_cons h, lessS] at hq3
      refine w_skip ?_
      refine w_seq ?_
      refine w_block ?_
      refine w_sr mo (by rw [hN]; decide) fun K hK => ?_ -- region 7
      simp [h]
      refine callA_intro (c14 u xss[i] q hq1 hq2) (.cons .lst (.cons .val .nil)) ?_
      simp [unk, unA, unE, flat]
      refine hK _ ?_
      clear hK K
      refine w_sr mo (by rw [hN]; decide) fun K hK => ?_ -- region 8
      simp
      refine hK _ ?_
      clear hK K
      refine w_cond rfl (fun h3 => ?_) fun h3 => ?_
      · simp at h3
        refine w_sr mo (by rw [hN]; decide) fun K hK => ?_ -- region 9
        simp
        refine hK _ ?_
        clear hK K
        refine w_ret (ret_val rfl ?_)
        rw [if_pos h3] at hq3
        rw [hq3]
      · simp at h3
        rw [if_neg (by omega)] at hq3
        refine w_skip ?_
        refine w_run mo (by rw [hN]; decide) fun K hK => ?_ -- region 6
        simp
        refine hK _ ?_
        clear hK K
        rw [wrap_succ (n := xss.length) (by omega) (by omega)]
        have hle : less q xss[i].length ≤ 1048576 := by unfold less; split <;> omega
        refine ⟨(i + 1, less q xss[i].length), ⟨by dsimp only; omega, h3, hle, hq3⟩, by dsimp only; omega, Wk.relabel [] (by simp) (by simp) (by rw [hP]; simp) (by simp) (by simp) (by simp) (by simp)⟩
    · simp at h
      refine w_exit ?_
      simp
      refine w_sr mo (by rw [hN]; decide) fun K hK => ?_ -- region 10
      simp
      refine hK _ ?_
      clear hK K
      rw [List.drop_eq_nil_of_le (by omega), lessS] at hq3
      refine w_ret (ret_val rfl ?_)
      rw [hq3]

end Go.Vc.T


namespace Go.Vc.T
open Go Go.Vc Go.Proofs

def nn (a : Int) (f : Int → Int) : Int := if a < 0 then -1 else f a
def szCat (l : Int) (c : Cat) : Int := nn (less l c.fr.length) fun a => nn (less a c.to.length) fun b => nn (less b c.id.length) fun d => nn (lessSS d c.cs) fun e => e

theorem less_le {l : Int} {n : Nat} (h : l ≤ 1048576) : less l n ≤ 1048576 := by unfold less; split <;> omega

theorem c13 (u : Bool) (c : Cat) (l : Int) (h1 : 0 ≤ l) (h2 : l ≤ 1048576) : Contract Try.prog 48 [c.av u, .val (.int .i64 l)] (.val (.int .i64 (szCat l c))) := by
  refine contract_intro (rs := [.val (.int .i64 (szCat l c))]) Try.func48 rfl rfl rfl rfl (by simp [Try.f48]) fun F hN hP => ?_
  simp only [Cat.av]
  refine w_sr mo (by rw [hN]; decide) fun K hK => ?_ -- region 0
  simp
  refine hK _ ?_
  clear hK K
  refine w_sr mo (by rw [hN]; decide) fun K hK => ?_ -- region 1
  simp
  refine callA_intro (c14 u c.fr l h1 h2) (.cons .lst (.cons .val .nil)) ?_
  simp [unk, unA, unE, flat]
  refine hK _ ?_
  clear hK K
  refine w_seq ?_
  refine w_sr mo (by rw [hN]; decide) fun K hK => ?_ -- region 2
  simp
  refine hK _ ?_
  clear hK K
  refine w_cond rfl (fun g1 => ?_) fun g1 => ?_
  · simp at g1
    refine w_sr mo (by rw [hN]; decide) fun K hK => ?_ -- region 3
    simp
    refine hK _ ?_
    clear hK K
    refine w_ret (ret_val rfl ?_)
    simp only [szCat, nn]
    rw [if_pos g1]
  · simp at g1
    have h3 : 0 ≤ less l c.fr.length := g1
    have hb1 : less l c.fr.length ≤ 1048576 := less_le (by omega)
    refine w_skip ?_
    refine w_sr mo (by rw [hN]; decide) fun K hK => ?_ -- region 4
    simp
    refine callA_intro (c14 u c.to _ h3 hb1) (.cons .lst (.cons .val .nil)) ?_
    simp [unk, unA, unE, flat]
    refine hK _ ?_
    clear hK K
    refine w_seq ?_
    refine w_sr mo (by rw [hN]; decide) fun K hK => ?_ -- region 5
    simp
    refine hK _ ?_
    clear hK K
    refine w_cond rfl (fun g2 => ?_) fun g2 => ?_
    · simp at g2
      refine w_sr mo (by rw [hN]; decide) fun K hK => ?_ -- region 6
      simp
      refine hK _ ?_
      clear hK K
      refine w_ret (ret_val rfl ?_)
      simp only [szCat, nn]
      rw [if_neg (Int.not_lt.2 h3), if_pos g2]
    · simp at g2
      have h4 : 0 ≤ less (less l c.fr.length) c.to.length := g2
      have hb2 : less (less l c.fr.length) c.to.length ≤ 1048576 := less_le (by omega)
      refine w_skip ?_
      refine w_sr mo (by rw [hN]; decide) fun K hK => ?_ -- region 7
      simp
      refine callA_intro (c14 u c.id _ h4 hb2) (.cons .lst (.cons .val .nil)) ?_
      simp [unk, unA, unE, flat]
      refine hK _ ?_
      clear hK K
      refine w_seq ?_
      refine w_sr mo (by rw [hN]; decide) fun K hK => ?_ -- region 8
      simp
      refine hK _ ?_
      clear hK K
      refine w_cond rfl (fun g3 => ?_) fun g3 => ?_
      · simp at g3
        refine w_sr mo (by rw [hN]; decide) fun K hK => ?_ -- region 9
        simp
        refine hK _ ?_
        clear hK K
        refine w_ret (ret_val rfl ?_)
        simp only [szCat, nn]
        rw [if_neg (Int.not_lt.2 h3), if_neg (Int.not_lt.2 h4), if_pos g3]
      · simp at g3
        have h5 : 0 ≤ less (less (less l c.fr.length) c.to.length) c.id.length := g3
        have hb3 : less (less (less l c.fr.length) c.to.length) c.id.length ≤ 1048576 := less_le (by omega)
        refine w_skip ?_
        refine w_sr mo (by rw [hN]; decide) fun K hK => ?_ -- region 10
        simp
        refine callA_intro (c15 u c.cs _ h5 hb3) (.cons .lst (.cons .val .nil)) ?_
        simp [unk, unA, unE, flat]
        refine hK _ ?_
        clear hK K
        refine w_seq ?_
        refine w_sr mo (by rw [hN]; decide) fun K hK => ?_ -- region 11
        simp
        refine hK _ ?_
        clear hK K
        refine w_cond rfl (fun g4 => ?_) fun g4 => ?_
        · simp at g4
          refine w_sr mo (by rw [hN]; decide) fun K hK => ?_ -- region 12
          simp
          refine hK _ ?_
          clear hK K
          refine w_ret (ret_val rfl ?_)
          simp only [szCat, nn]
          rw [if_neg (Int.not_lt.2 h3), if_neg (Int.not_lt.2 h4), if_neg (Int.not_lt.2 h5), if_pos g4]
        · simp at g4
          have h6 : 0 ≤ lessSS (less (less (less l c.fr.length) c.to.length) c.id.length) c.cs := g4
          refine w_skip ?_
          refine w_sr mo (by rw [hN]; decide) fun K hK => ?_ -- region 13
          simp
          refine hK _ ?_
          clear hK K
          refine w_ret (ret_val rfl ?_)
          simp only [szCat, nn]
          rw [if_neg (Int.not_lt.2 h3), if_neg (Int.not_lt.2 h4), if_neg (Int.not_lt.2 h5), if_neg (Int.not_lt.2 h6)]

end Go.Vc.T

set_option linter.unusedSimpArgs false
set_option linter.unusedVariables false

namespace Go.Vc.T
open Go Go.Vc Go.Proofs

@[simp] theorem y37 : tyi Try.prog 33 = some ⟨true, 7, 152, [.int .i64 0, .slice none 0 0, .slice none 0 0, .slice none 0 0, .slice none 0 0, .slice none 0 0, .slice none 0 0]⟩ := by kernel_rfl
@[simp] theorem y25 : tyi Try.prog 25 = some ⟨true, 5, 104, [.int .i64 0, .slice none 0 0, .slice none 0 0, .slice none 0 0, .slice none 0 0]⟩ := by kernel_rfl
@[simp] theorem y27 : tyi Try.prog 27 = some ⟨true, 7, 152, [.int .i64 0, .slice none 0 0, .slice none 0 0, .slice none 0 0, .slice none 0 0, .slice none 0 0, .slice none 0 0]⟩ := by kernel_rfl
@[simp] theorem fld37_0 : fld Try.prog 33 0 = some (0, 5, true) := by kernel_rfl
@[simp] theorem fld37_1 : fld Try.prog 33 1 = some (5, 1, false) := by kernel_rfl
@[simp] theorem fld37_2 : fld Try.prog 33 2 = some (6, 1, false) := by kernel_rfl
@[simp] theorem fld27_0 : fld Try.prog 27 0 = some (0, 5, true) := by kernel_rfl
@[simp] theorem fld27_1 : fld Try.prog 27 1 = some (5, 1, false) := by kernel_rfl
@[simp] theorem fld27_2 : fld Try.prog 27 2 = some (6, 1, false) := by kernel_rfl
def Cat.cells (u : Bool) (c : Cat) : List AV := [.val (.int .i64 c.n), .lst u 1 (Is c.fr), .lst u 1 (Is c.to), .lst u 1 (Is c.id), .lst u 1 (Ls c.cs)]
theorem Cat.pur {h : HP} {u v : Bool} {c : Cat} : PurL h (c.cells u) (c.cells v) := .cons .val (.cons .lst (.cons .lst (.cons .lst (.cons .lst .nil))))

/-- Two functors' worth of tables. -/
structure Fn where
  s : Cat
  t : Cat
  ob : List Int
  ar : List Int
def Fn.cells (u : Bool) (f : Fn) : List AV := [.val (.int .i64 f.s.n), .lst u 1 (Is f.s.fr), .lst u 1 (Is f.s.to), .lst u 1 (Is f.s.id), .lst u 1 (Ls f.s.cs), .val (.int .i64 f.t.n), .lst u 1 (Is f.t.fr), .lst u 1 (Is f.t.to), .lst u 1 (Is f.t.id), .lst u 1 (Ls f.t.cs), .lst u 1 (Is f.ob), .lst u 1 (Is f.ar)]
theorem Fn.pur {h : HP} {u v : Bool} {c : Fn} : PurL h (c.cells u) (c.cells v) := .cons .val (.cons .lst (.cons .lst (.cons .lst (.cons .lst (.cons .val (.cons .lst (.cons .lst (.cons .lst (.cons .lst (.cons .lst (.cons .lst .nil)))))))))))

structure SF where
  s : Cat
  sz : List Int
  ac : List (List Int)
def SF.cells (u : Bool) (f : SF) : List AV := [.val (.int .i64 f.s.n), .lst u 1 (Is f.s.fr), .lst u 1 (Is f.s.to), .lst u 1 (Is f.s.id), .lst u 1 (Ls f.s.cs), .lst u 1 (Is f.sz), .lst u 1 (Ls f.ac)]

def Cs (cs : List Cat) : List (List AV) := cs.map (Cat.cells true)
def Fs (fs : List Fn) : List (List AV) := fs.map (Fn.cells true)
@[simp] theorem Cs_length (xs : List Cat) : (Cs xs).length = xs.length := by simp [Cs]
@[simp] theorem Cs_at (xs : List Cat) (i : Nat) (h : i < xs.length) : (Cs xs)[i]? = some (Cat.cells true xs[i]) := by simp [Cs, h]
@[simp] theorem Cs_at' (xs : List Cat) (i : Nat) (h : i < (Cs xs).length) : (Cs xs)[i] = Cat.cells true (xs[i]'(by simpa using h)) := by simp [Cs]
@[simp] theorem Fs_length (xs : List Fn) : (Fs xs).length = xs.length := by simp [Fs]
@[simp] theorem Fs_at (xs : List Fn) (i : Nat) (h : i < xs.length) : (Fs xs)[i]? = some (Fn.cells true xs[i]) := by simp [Fs, h]
@[simp] theorem Fs_at' (xs : List Fn) (i : Nat) (h : i < (Fs xs).length) : (Fs xs)[i] = Fn.cells true (xs[i]'(by simpa using h)) := by simp [Fs]

structure Fam where
  b : Cat
  fb : List Cat
  ch : List Fn
def Fam.cells (u : Bool) (f : Fam) : List AV := [.val (.int .i64 f.b.n), .lst u 1 (Is f.b.fr), .lst u 1 (Is f.b.to), .lst u 1 (Is f.b.id), .lst u 1 (Ls f.b.cs), .lst u 5 (Cs f.fb), .lst u 12 (Fs f.ch)]

theorem c30 (u v : Bool) (xs : List (List Int)) : Contract Try.prog 30 [.lst u 1 (Ls xs), .lst v 1 (Ls xs)] (.val (.bool true)) := by
  refine contract_intro (rs := [.val (.bool true)]) Try.func30 rfl rfl rfl rfl (by simp [Try.f30]) fun F hN hP => ?_
  refine w_good 0 fun h0 => ?_
  have hl0 : xs.length ≤ 9223372036854775807 := by simpa using good_len h0
  refine w_sr mo (by rw [hN]; decide) fun K hK => ?_ -- region 0
  simp
  refine hK _ ?_
  clear hK K
  refine w_seq ?_
  refine w_sr mo (by rw [hN]; decide) fun K hK => ?_ -- region 1
  simp
  refine hK _ ?_
  clear hK K
  refine w_cond rfl (fun h => by simp at h) fun _ => ?_
  refine w_skip ?_
  refine w_seq ?_
  refine w_sr mo (by rw [hN]; decide) fun K hK => ?_ -- region 3
  simp
  refine hK _ ?_
  clear hK K
  refine w_block ?_
  refine w_loop (fun i : Nat => ⟨[(0, .lst u 1 (Ls xs)), (1, .lst v 1 (Ls xs)), (5, .val (.int .i64 i))], [], 0⟩) (fun i => i ≤ xs.length) (fun i => xs.length - i) 0 (by simp) (Wk.cut (by simp) (by simp) rfl) ?_
  intro i hi
  refine w_seq ?_
  refine w_sr mo (by rw [hN]; decide) fun K hK => ?_ -- region 4
  simp
  refine hK _ ?_
  clear hK K
  refine w_cond rfl (fun h => ?_) fun h => ?_
  · simp at h
    refine w_skip ?_
    refine w_seq ?_
    refine w_block ?_
    refine w_sr mo (by rw [hN]; decide) fun K hK => ?_ -- region 6 DRAWN
    simp [h]
    refine callA_intro (c29 true true xs[i] xs[i]) (.cons .lst (.cons .lst .nil)) ?_
    simp [unk, unA, unE, flat]
    refine hK _ ?_
    clear hK K
    refine w_cond rfl (fun h => by simp at h) fun _ => ?_
    refine w_skip ?_
    refine w_run mo (by rw [hN]; decide) fun K hK => ?_ -- region 5
    simp
    refine hK _ ?_
    clear hK K
    rw [wrap_succ (n := xs.length) (by omega) (by omega)]
    refine ⟨i + 1, by omega, by dsimp only; omega, Wk.relabel [] (by simp) (by simp) (by rw [hP]; simp) (by simp) (by simp) (by simp) (by simp)⟩
  · simp at h
    refine w_exit ?_
    simp
    refine w_sr mo (by rw [hN]; decide) fun K hK => ?_ -- region 8
    simp
    refine hK _ ?_
    clear hK K
    refine w_ret (ret_val rfl rfl)

theorem c26 (u v : Bool) (c : Cat) : Contract Try.prog 66 [.agg (c.cells u), .agg (c.cells v)] (.val (.bool true)) := by
  refine contract_intro (rs := [.val (.bool true)]) Try.func66 rfl rfl rfl rfl (by simp [Try.f66]) fun F hN hP => ?_
  refine w_sr mo (by rw [hN]; decide) fun K hK => ?_ -- region 0
  simp [Cat.cells]
  refine hK _ ?_
  clear hK K
  refine w_seq ?_
  refine w_sr mo (by rw [hN]; decide) fun K hK => ?_ -- region 1
  simp
  refine hK _ ?_
  clear hK K
  refine w_cond rfl (fun h => by simp at h) fun _ => ?_
  refine w_skip ?_
  refine w_seq ?_
  refine w_sr mo (by rw [hN]; decide) fun K hK => ?_ -- region 3
  simp
  refine callA_intro (c29 u v c.fr c.fr) (.cons .lst (.cons .lst .nil)) ?_
  simp [unk, unA, unE, flat]
  refine hK _ ?_
  clear hK K
  refine w_cond rfl (fun h => by simp at h) fun _ => ?_
  refine w_skip ?_
  refine w_seq ?_
  refine w_sr mo (by rw [hN]; decide) fun K hK => ?_ -- region 5
  simp
  refine callA_intro (c29 u v c.to c.to) (.cons .lst (.cons .lst .nil)) ?_
  simp [unk, unA, unE, flat]
  refine hK _ ?_
  clear hK K
  refine w_cond rfl (fun h => by simp at h) fun _ => ?_
  refine w_skip ?_
  refine w_seq ?_
  refine w_sr mo (by rw [hN]; decide) fun K hK => ?_ -- region 7
  simp
  refine callA_intro (c29 u v c.id c.id) (.cons .lst (.cons .lst .nil)) ?_
  simp [unk, unA, unE, flat]
  refine hK _ ?_
  clear hK K
  refine w_cond rfl (fun h => by simp at h) fun _ => ?_
  refine w_skip ?_
  refine w_seq ?_
  refine w_sr mo (by rw [hN]; decide) fun K hK => ?_ -- region 9
  simp
  refine callA_intro (c30 u v c.cs) (.cons .lst (.cons .lst .nil)) ?_
  simp [unk, unA, unE, flat]
  refine hK _ ?_
  clear hK K
  refine w_cond rfl (fun h => by simp at h) fun _ => ?_
  refine w_skip ?_
  refine w_sr mo (by rw [hN]; decide) fun K hK => ?_ -- region 11
  simp
  refine hK _ ?_
  clear hK K
  refine w_ret (ret_val rfl rfl)

theorem c9 (u v : Bool) (f : SF) : Contract Try.prog 29 [.agg (f.cells u), .agg (f.cells v)] (.val (.bool true)) := by
  refine contract_intro (rs := [.val (.bool true)]) Try.func29 rfl rfl rfl rfl (by simp [Try.f29]) fun F hN hP => ?_
  refine w_sr mo (by rw [hN]; decide) fun K hK => ?_ -- region 0
  simp [SF.cells]
  refine hK _ ?_
  clear hK K
  refine w_seq ?_
  refine w_sr mo (by rw [hN]; decide) fun K hK => ?_ -- region 1
  simp
  refine callA_intro (c26 u v f.s) (.cons (.aggL Cat.pur) (.cons (.aggL Cat.pur) .nil)) ?_
  simp [unk, unA, unE, flat]
  refine hK _ ?_
  clear hK K
  refine w_cond rfl (fun h => by simp at h) fun _ => ?_
  refine w_skip ?_
  refine w_seq ?_
  refine w_sr mo (by rw [hN]; decide) fun K hK => ?_ -- region 3
  simp
  refine callA_intro (c29 u v f.sz f.sz) (.cons .lst (.cons .lst .nil)) ?_
  simp [unk, unA, unE, flat]
  refine hK _ ?_
  clear hK K
  refine w_cond rfl (fun h => by simp at h) fun _ => ?_
  refine w_skip ?_
  refine w_seq ?_
  refine w_sr mo (by rw [hN]; decide) fun K hK => ?_ -- region 5
  simp
  refine callA_intro (c30 u v f.ac) (.cons .lst (.cons .lst .nil)) ?_
  simp [unk, unA, unE, flat]
  refine hK _ ?_
  clear hK K
  refine w_cond rfl (fun h => by simp at h) fun _ => ?_
  refine w_skip ?_
  refine w_sr mo (by rw [hN]; decide) fun K hK => ?_ -- region 7
  simp
  refine hK _ ?_
  clear hK K
  refine w_ret (ret_val rfl rfl)

end Go.Vc.T


namespace Go.Vc.T
open Go Go.Vc Go.Proofs

def sumB {α : Type} (sz : α → Nat) (xs : List α) : Nat := (xs.map sz).sum
def marks {α : Type} (f : Int → α → α) (sz : α → Nat) : Int → List α → List α
  | _, [] => []
  | k, x :: r => f k x :: marks f sz (k + sz x) r

section
variable {α : Type} (f : Int → α → α) (sz : α → Nat)

@[simp] theorem marks_length (xs : List α) : ∀ k, (marks f sz k xs).length = xs.length := by
  induction xs with
  | nil => intro k; rfl
  | cons x r ih => intro k; simp [marks, ih]

theorem sumB_take (xs : List α) : ∀ (i : Nat) (h : i < xs.length), sumB sz (xs.take (i + 1)) = sumB sz (xs.take i) + sz xs[i] := by
  induction xs with
  | nil => intro i h; simp at h
  | cons x r ih =>
    intro i h
    cases i with
    | zero => simp [sumB]
    | succ i =>
      have := ih i (by simpa using h)
      simp only [sumB, List.take_succ_cons, List.map_cons, List.sum_cons, List.getElem_cons_succ] at this ⊢
      omega

theorem sumB_le (xs : List α) : ∀ (i : Nat), sumB sz (xs.take i) ≤ sumB sz xs := by
  induction xs with
  | nil => intro i; simp [sumB]
  | cons x r ih =>
    intro i
    cases i with
    | zero => simp [sumB]
    | succ i =>
      have := ih i
      simp only [sumB, List.take_succ_cons, List.map_cons, List.sum_cons] at this ⊢
      omega

theorem marks_get (xs : List α) : ∀ (k : Int) (i : Nat) (h : i < xs.length), (marks f sz k xs)[i]'(by simpa using h) = f (k + sumB sz (xs.take i)) xs[i] := by
  induction xs with
  | nil => intro k i h; simp at h
  | cons x r ih =>
    intro k i h
    cases i with
    | zero => simp [marks, sumB]
    | succ i =>
      simp only [marks, List.getElem_cons_succ]
      rw [ih _ i (by simpa using h)]
      simp only [sumB, List.take_succ_cons, List.map_cons, List.sum_cons]
      push_cast
      rw [Int.add_assoc]
end

@[simp] theorem held_run (k : Int) (n : Nat) : held k (run k n) = k + n := by simp [held]

theorem c54 (u : Bool) (xs : List (List Int)) (k : Int) (h1 : xs.length ≤ 1048576) (h1' : ∀ x ∈ xs, x.length ≤ 1048576) (h2 : 0 ≤ k) (h3 : k + sumL xs ≤ 1152921504606846976) :
    Contract Try.prog 34 [.lst u 1 (Ls (runs k xs)), .val (.int .i64 k)] (.val (.int .i64 (k + sumL xs))) := by
  refine contract_intro (rs := [.val (.int .i64 (k + sumL xs))]) Try.func34 rfl rfl rfl rfl (by simp [Try.f34]) fun F hN hP => ?_
  refine w_sr mo (by rw [hN]; decide) fun K hK => ?_ -- region 0
  simp
  refine hK _ ?_
  clear hK K
  refine w_seq ?_
  refine w_sr mo (by rw [hN]; decide) fun K hK => ?_ -- region 1
  simp
  refine hK _ ?_
  clear hK K
  refine w_block ?_
  refine w_loop (fun p : Nat × Int => ⟨[(0, .lst u 1 (Ls (runs k xs))), (1, .val (.int .i64 p.2)), (5, .val (.int .i64 p.1))], [], 0⟩) (fun p => p.1 ≤ xs.length ∧ p.2 = k + sumL (xs.take p.1)) (fun p => xs.length - p.1) (0, k) (by simp [sumL]) (Wk.cut (by simp) (by simp) rfl) ?_
  rintro ⟨i, k0⟩ ⟨hi, hk0⟩
  simp only at hi hk0
  refine w_seq ?_
  refine w_sr mo (by rw [hN]; decide) fun K hK => ?_ -- region 2
  simp
  refine hK _ ?_
  clear hK K
  refine w_cond rfl (fun h => ?_) fun h => ?_
  · simp at h
    refine w_skip ?_
    refine w_seq ?_
    refine w_block ?_
    have hm : (runs k xs)[i]'(by simpa using h) = run k0 xs[i].length := by rw [runs_get _ _ _ h, hk0]
    have hs1 := sumL_take xs i h
    have hs2 := sumL_le xs (i + 1)
    refine w_sr mo (by rw [hN]; decide) fun K hK => ?_ -- region 4
    simp [h, hm]
    refine callA_intro (c53 true (run k0 xs[i].length) k0 (by simpa using h1' _ (List.getElem_mem h)) (by omega) (by omega)) (.cons .lst (.cons .val .nil)) ?_
    simp [unk, unA, unE, flat]
    refine hK _ ?_
    clear hK K
    refine w_sr mo (by rw [hN]; decide) fun K hK => ?_ -- region 5
    simp
    refine hK _ ?_
    clear hK K
    refine w_cond rfl (fun g => ?_) fun g => ?_
    · simp at g
      omega
    · refine w_skip ?_
      refine w_run mo (by rw [hN]; decide) fun K hK => ?_ -- region 3
      simp
      refine hK _ ?_
      clear hK K
      rw [wrap_succ (n := xs.length) (by omega) (by omega)]
      refine ⟨(i + 1, k0 + xs[i].length), ⟨by dsimp only; omega, by dsimp only; omega⟩, by dsimp only; omega, Wk.relabel [] (by simp) (by simp) (by rw [hP]; simp) (by simp) (by simp) (by simp) (by simp)⟩
  · simp at h
    refine w_exit ?_
    simp
    have hi' : i = xs.length := by omega
    rw [hi', List.take_length] at hk0
    refine w_sr mo (by rw [hN]; decide) fun K hK => ?_ -- region 7
    simp
    refine hK _ ?_
    clear hK K
    refine w_ret (ret_val rfl (by rw [hk0]))

def Cat.mark (k : Int) (c : Cat) : Cat := ⟨c.n, run k c.fr.length, run (k + c.fr.length) c.to.length, run (k + c.fr.length + c.to.length) c.id.length, runs (k + c.fr.length + c.to.length + c.id.length) c.cs⟩
def Cat.markE (k : Int) (c : Cat) : Cat := ⟨k, run (k + 1) c.fr.length, run (k + 1 + c.fr.length) c.to.length, run (k + 1 + c.fr.length + c.to.length) c.id.length, runs (k + 1 + c.fr.length + c.to.length + c.id.length) c.cs⟩
def Cat.sizeE (c : Cat) : Nat := c.size + 1
def Fn.mark (k : Int) (f : Fn) : Fn := ⟨f.s.mark k, f.t.mark (k + f.s.size), run (k + f.s.size + f.t.size) f.ob.length, run (k + f.s.size + f.t.size + f.ob.length) f.ar.length⟩
def Fn.size (f : Fn) : Nat := f.s.size + f.t.size + f.ob.length + f.ar.length
def Fn.sizeE (f : Fn) : Nat := f.s.sizeE + f.t.sizeE + f.ob.length + f.ar.length
def Fn.markE (k : Int) (f : Fn) : Fn := ⟨f.s.markE k, f.t.markE (k + 1 + f.s.fr.length + f.s.to.length + f.s.id.length + sumL f.s.cs), run (k + 1 + f.s.fr.length + f.s.to.length + f.s.id.length + sumL f.s.cs + 1 + f.t.fr.length + f.t.to.length + f.t.id.length + sumL f.t.cs) f.ob.length, run (k + 1 + f.s.fr.length + f.s.to.length + f.s.id.length + sumL f.s.cs + 1 + f.t.fr.length + f.t.to.length + f.t.id.length + sumL f.t.cs + f.ob.length) f.ar.length⟩
def Fn.ok (f : Fn) : Prop := f.s.ok ∧ f.t.ok ∧ f.ob.length ≤ 1048576 ∧ f.ar.length ≤ 1048576
def SF.mark (k : Int) (f : SF) : SF := ⟨f.s.mark k, run (k + f.s.size) f.sz.length, runs (k + f.s.size + f.sz.length) f.ac⟩
def SF.size (f : SF) : Nat := f.s.size + f.sz.length + sumL f.ac
def SF.ok (f : SF) : Prop := f.s.ok ∧ f.sz.length ≤ 1048576 ∧ f.ac.length ≤ 1048576 ∧ (∀ xs ∈ f.ac, xs.length ≤ 1048576) ∧ sumL f.ac ≤ 1099511627776
def Fam.size (f : Fam) : Nat := f.b.size + sumB Cat.sizeE f.fb + sumB Fn.sizeE f.ch
def Fam.mark (k : Int) (f : Fam) : Fam := ⟨f.b.mark k, marks Cat.markE Cat.sizeE (k + f.b.size) f.fb, marks Fn.markE Fn.sizeE (k + f.b.size + sumB Cat.sizeE f.fb) f.ch⟩
def Fam.ok (f : Fam) : Prop := f.b.ok ∧ f.fb.length ≤ 1048576 ∧ (∀ c ∈ f.fb, c.ok) ∧ f.ch.length ≤ 1048576 ∧ (∀ c ∈ f.ch, c.ok)

theorem c36 (u : Bool) (c : Cat) (k : Int) (hc : c.ok) (h2 : 0 ≤ k) (h3 : k + c.size ≤ 1152921504606846976) : Contract Try.prog 70 [.agg ((c.mark k).cells u), .val (.int .i64 k)] (.val (.int .i64 (k + c.size))) := by
  obtain ⟨hc1, hc2, hc3, hc4, hc5, hc6⟩ := hc
  have hz : c.size = c.fr.length + c.to.length + c.id.length + sumL c.cs := rfl
  refine contract_intro (rs := [.val (.int .i64 (k + c.size))]) Try.func70 rfl rfl rfl rfl (by simp [Try.f70]) fun F hN hP => ?_
  refine w_sr mo (by rw [hN]; decide) fun K hK => ?_ -- region 0
  simp [Cat.cells, Cat.mark]
  refine hK _ ?_
  clear hK K
  refine w_sr mo (by rw [hN]; decide) fun K hK => ?_ -- region 1
  simp
  refine callA_intro (c53 u (run (k) c.fr.length) (k) (by simpa using hc1) (by omega) (by omega)) (.cons .lst (.cons .val .nil)) ?_
  simp [unk, unA, unE, flat]
  refine hK _ ?_
  clear hK K
  refine w_seq ?_
  refine w_sr mo (by rw [hN]; decide) fun K hK => ?_ -- region 2
  simp
  refine hK _ ?_
  clear hK K
  refine w_cond rfl (fun g => ?_) fun g => ?_
  · simp at g
    omega
  · refine w_skip ?_
    refine w_sr mo (by rw [hN]; decide) fun K hK => ?_ -- region 4
    simp
    refine callA_intro (c53 u (run (k + c.fr.length) c.to.length) (k + c.fr.length) (by simpa using hc2) (by omega) (by omega)) (.cons .lst (.cons .val .nil)) ?_
    simp [unk, unA, unE, flat]
    refine hK _ ?_
    clear hK K
    refine w_seq ?_
    refine w_sr mo (by rw [hN]; decide) fun K hK => ?_ -- region 5
    simp
    refine hK _ ?_
    clear hK K
    refine w_cond rfl (fun g => ?_) fun g => ?_
    · simp at g
      omega
    · refine w_skip ?_
      refine w_sr mo (by rw [hN]; decide) fun K hK => ?_ -- region 7
      simp
      refine callA_intro (c53 u (run (k + c.fr.length + c.to.length) c.id.length) (k + c.fr.length + c.to.length) (by simpa using hc3) (by omega) (by omega)) (.cons .lst (.cons .val .nil)) ?_
      simp [unk, unA, unE, flat]
      refine hK _ ?_
      clear hK K
      refine w_seq ?_
      refine w_sr mo (by rw [hN]; decide) fun K hK => ?_ -- region 8
      simp
      refine hK _ ?_
      clear hK K
      refine w_cond rfl (fun g => ?_) fun g => ?_
      · simp at g
        omega
      · refine w_skip ?_
        refine w_sr mo (by rw [hN]; decide) fun K hK => ?_ -- region 10
        simp
        refine callA_intro (c54 u c.cs (k + c.fr.length + c.to.length + c.id.length) hc4 hc5 (by omega) (by omega)) (.cons .lst (.cons .val .nil)) ?_
        simp [unk, unA, unE, flat]
        refine hK _ ?_
        clear hK K
        refine w_seq ?_
        refine w_sr mo (by rw [hN]; decide) fun K hK => ?_ -- region 11
        simp
        refine hK _ ?_
        clear hK K
        refine w_cond rfl (fun g => ?_) fun g => ?_
        · simp at g
          omega
        · refine w_skip ?_
          refine w_sr mo (by rw [hN]; decide) fun K hK => ?_ -- region 13
          simp
          refine hK _ ?_
          clear hK K
          refine w_ret (ret_val rfl ?_)
          simp [Cat.size, Int.add_assoc]

end Go.Vc.T


namespace Go.Vc.T
open Go Go.Vc Go.Proofs

theorem set_takeB {α : Type} {xs ys : List α} {i : Nat} (h1 : i < xs.length) (h2 : i < ys.length) (h : ys.take i = xs.take i) : (ys.set i xs[i]).take (i + 1) = xs.take (i + 1) := by
  rw [List.take_succ_eq_append_getElem h1, List.take_succ_eq_append_getElem (by simpa using h2), List.take_set_of_le (Nat.le_refl _), h]
  simp

theorem drop_set {α : Type} {xs ys : List α} {i : Nat} {y : α} (hd : ys.drop i = xs.drop i) : (ys.set i y).drop (i + 1) = xs.drop (i + 1) := by
  rw [List.drop_set_of_lt (by omega)]
  have := congrArg (List.drop 1) hd
  simpa [List.drop_drop, Nat.add_comm] using this

theorem drop_at {α : Type} {xs ys : List α} {i : Nat} (h : i < xs.length) (h2 : i < ys.length) (hd : ys.drop i = xs.drop i) : ys[i] = xs[i] := by
  have h5 := congrArg (fun l => l[0]?) hd
  simpa [h, h2] using h5

theorem Cs_set (xs : List Cat) (i : Nat) (c : Cat) : Cs (xs.set i c) = (Cs xs).set i (c.cells true) := by simp [Cs, List.map_set]
theorem Fs_set (xs : List Fn) (i : Nat) (c : Fn) : Fs (xs.set i c) = (Fs xs).set i (c.cells true) := by simp [Fs, List.map_set]

end Go.Vc.T


namespace Go.Vc.T
open Go Go.Vc Go.Proofs

def SF.mu (f : SF) (k : Int) : List Mu :=
  [⟨1, Is f.s.fr, Is (run k f.s.fr.length)⟩, ⟨1, Is f.s.to, Is (run (k + f.s.fr.length) f.s.to.length)⟩, ⟨1, Is f.s.id, Is (run (k + f.s.fr.length + f.s.to.length) f.s.id.length)⟩,
   ⟨1, Ls f.s.cs, Ls (runs (k + f.s.fr.length + f.s.to.length + f.s.id.length) f.s.cs)⟩, ⟨1, Is f.sz, Is (run (k + f.s.size) f.sz.length)⟩, ⟨1, Ls f.ac, Ls (runs (k + f.s.size + f.sz.length) f.ac)⟩]
def Fam.mu (f : Fam) (k : Int) : List Mu :=
  [⟨1, Is f.b.fr, Is (run k f.b.fr.length)⟩, ⟨1, Is f.b.to, Is (run (k + f.b.fr.length) f.b.to.length)⟩, ⟨1, Is f.b.id, Is (run (k + f.b.fr.length + f.b.to.length) f.b.id.length)⟩,
   ⟨1, Ls f.b.cs, Ls (runs (k + f.b.fr.length + f.b.to.length + f.b.id.length) f.b.cs)⟩, ⟨5, Cs f.fb, Cs (marks Cat.markE Cat.sizeE (k + f.b.size) f.fb)⟩, ⟨12, Fs f.ch, Fs (marks Fn.markE Fn.sizeE (k + f.b.size + sumB Cat.sizeE f.fb) f.ch)⟩]

theorem ents_nil {h : List (Nat × Ent)} {j : Nat} : Ents h j [] := .nil
theorem m10 (f : SF) (k : Int) (hf : f.ok) (h2 : 0 ≤ k) (h3 : k + f.size ≤ 576460752303423488) :
    MContract Try.prog 31 [.agg [.val (.int .i64 f.s.n), .own 0 0 f.s.fr.length, .own 1 0 f.s.to.length, .own 2 0 f.s.id.length, .own 3 0 f.s.cs.length, .own 4 0 f.sz.length, .own 5 0 f.ac.length], .val (.int .i64 k)] (f.mu k) (.val (.int .i64 (k + f.size))) := by
  obtain ⟨hf1, hf2, hf3, hf4, hf5⟩ := hf
  have hz : f.size = f.s.size + f.sz.length + sumL f.ac := rfl
  refine mcontract_intro (ts := [4]) (rv := .int .i64 (k + f.size)) Try.func31 rfl rfl ?_ rfl (by simp [Try.f31]) ?_ fun F hN hP => ?_
  · have : (-9223372036854775808 ≤ k + f.size) ∧ k + f.size ≤ 9223372036854775807 := by omega
    simp [resV, this]
  · intro j hj
    simp only [SF.mu, List.length_cons, List.length_nil] at hj
    match j, hj with
    | 0, _ => simp [SF.mu]
    | 1, _ => simp [SF.mu]
    | 2, _ => simp [SF.mu]
    | 3, _ => simp [SF.mu]
    | 4, _ => simp [SF.mu]
    | 5, _ => simp [SF.mu]
  refine w_sr mo (by rw [hN]; decide) fun K hK => ?_ -- region 0
  simp [ments, SF.mu]
  refine hK _ ?_
  clear hK K
  refine w_srM mo (by rw [hN]; decide) fun K hK => ?_ -- region 1
  simp
  refine callA_roots (m := [0, 1, 2, 3]) (m31 f.s k hf1 (by omega) (by omega)) (by decide) (.cons rfl (.cons rfl (.cons rfl (.cons rfl .nil)))) (.cons (.aggL (.cons .val (.cons (.own (j := 0) (by decide)) (.cons (.own (j := 1) (by decide)) (.cons (.own (j := 2) (by decide)) (.cons (.own (j := 3) (by decide)) .nil)))))) (.cons .val .nil)) rfl (by simp) ?_
  simp [rsets, Cat.mu]
  refine hK _ ?_
  clear hK K
  rw [show k + f.s.fr.length + f.s.to.length + f.s.id.length + sumL f.s.cs = k + f.s.size by simp [Cat.size, Int.add_assoc]]
  refine w_srM mo (by rw [hN]; decide) fun K hK => ?_ -- region 2
  simp
  refine callA_root (m32 f.sz (k + f.s.size) hf2 (by omega) (by omega)) rfl (by simp) ?_
  simp
  refine hK _ ?_
  clear hK K
  refine w_srM mo (by rw [hN]; decide) fun K hK => ?_ -- region 3
  simp
  refine callA_root (m33 f.ac (k + f.s.size + f.sz.length) hf3 hf4 (by omega) (by omega)) rfl (by simp) ?_
  simp
  refine hK _ ?_
  clear hK K
  refine w_sr mo (by rw [hN]; decide) fun K hK => ?_ -- region 4
  simp
  refine hK _ ?_
  clear hK K
  refine w_ret (mret ?_ ?_)
  · simp [hz, Int.add_assoc]
  · exact .cons rfl (.cons rfl (.cons rfl (.cons rfl (.cons rfl (.cons rfl (.nil))))))

theorem c6 (u : Bool) (f : SF) (hf : f.ok) : Contract Try.prog 23 [.agg (f.cells u)] (.agg (f.cells true)) := by
  obtain ⟨hf1, hf2, hf3, hf4, hf5⟩ := hf
  refine contract_introC Try.func23 rfl rfl y37 rfl rfl (by simp [Try.f23]) fun F hN hP => ?_
  refine w_sr mo (by rw [hN]; decide) fun K hK => ?_ -- region 0
  simp [SF.cells]
  refine hK _ ?_
  clear hK K
  refine w_sr mo (by rw [hN]; decide) fun K hK => ?_ -- region 1
  simp
  refine hK _ ?_
  clear hK K
  refine w_sr mo (by rw [hN]; decide) fun K hK => ?_ -- region 2
  simp
  refine callA_intro (c18 f.s u hf1) (.cons (.aggL Cat.pur) .nil) ?_
  simp [unk, unA, unE, unC, flat, Cat.av]
  refine hK _ ?_
  clear hK K
  refine w_sr mo (by rw [hN]; decide) fun K hK => ?_ -- region 3
  simp
  refine callA_intro (c19 u f.sz hf2) (.cons .lst .nil) ?_
  simp [unk, unA, unE, flat]
  refine hK _ ?_
  clear hK K
  refine w_sr mo (by rw [hN]; decide) fun K hK => ?_ -- region 4
  simp
  refine callA_intro (c20 u f.ac hf3 hf4) (.cons .lst .nil) ?_
  simp [unk, unA, unE, flat]
  refine hK _ ?_
  clear hK K
  refine w_sr mo (by rw [hN]; decide) fun K hK => ?_ -- region 5
  simp
  refine hK _ ?_
  clear hK K
  refine w_ret ⟨_, _, _, _, _, rfl, rfl, by simp, by simp, ?_⟩
  exact ⟨.agg rfl .nil, [.val (.int .i64 f.s.n), .lst true 1 (Is f.s.fr), .lst true 1 (Is f.s.to), .lst true 1 (Is f.s.id), .lst true 1 (Ls f.s.cs), .lst true 1 (Is f.sz), .lst true 1 (Ls f.ac)], [4, 5, 6, 7, 8, 9], by simp, by simp, UpL.refl _⟩

theorem nn_le {a b : Int} {f : Int → Int} (hf : ∀ x, a = x → 0 ≤ x → f x ≤ b) (hb : -1 ≤ b) : nn a f ≤ b := by
  unfold nn; split
  · exact hb
  · exact hf a rfl (by omega)
theorem lessS_le (xs : List (List Int)) : ∀ l : Int, l ≤ 1048576 → lessS l xs ≤ 1048576 := by
  induction xs with
  | nil => intro l h; simpa [lessS] using h
  | cons x r ih => intro l h; simp only [lessS]; split <;> first | omega | (exact ih _ (less_le h))
theorem lessSS_le {l : Int} {xs : List (List Int)} (h : l ≤ 1048576) : lessSS l xs ≤ 1048576 := by
  unfold lessSS; split
  · omega
  · exact lessS_le _ _ (by omega)
theorem szCat_le {l : Int} {c : Cat} (h : l ≤ 1048576) : szCat l c ≤ 1048576 :=
  nn_le (fun x hx _ => nn_le (fun y hy _ => nn_le (fun z hz _ => nn_le (fun w hw _ => by rw [← hw]; exact lessSS_le (by rw [← hz]; exact less_le (by rw [← hy]; exact less_le (by rw [← hx]; exact less_le h)))) (by decide)) (by decide)) (by decide)) (by decide)

def szSF (l : Int) (f : SF) : Int := nn (szCat l f.s) fun a => nn (less a f.sz.length) fun b => nn (lessSS b f.ac) fun e => e

theorem c4 (u : Bool) (f : SF) (l : Int) (h1 : 0 ≤ l) (h2 : l ≤ 1048576) : Contract Try.prog 17 [.agg (f.cells u), .val (.int .i64 l)] (.val (.int .i64 (szSF l f))) := by
  refine contract_intro (rs := [.val (.int .i64 (szSF l f))]) Try.func17 rfl rfl rfl rfl (by simp [Try.f17]) fun F hN hP => ?_
  refine w_sr mo (by rw [hN]; decide) fun K hK => ?_ -- region 0
  simp [SF.cells]
  refine hK _ ?_
  clear hK K
  refine w_sr mo (by rw [hN]; decide) fun K hK => ?_ -- region 1
  simp
  refine callA_intro (c13 u f.s l h1 h2) (.cons (.aggL Cat.pur) (.cons .val .nil)) ?_
  simp [unk, unA, unE, flat]
  refine hK _ ?_
  clear hK K
  refine w_seq ?_
  refine w_sr mo (by rw [hN]; decide) fun K hK => ?_ -- region 2
  simp
  refine hK _ ?_
  clear hK K
  refine w_cond rfl (fun g1 => ?_) fun g1 => ?_
  · simp at g1
    refine w_sr mo (by rw [hN]; decide) fun K hK => ?_ -- region 3
    simp
    refine hK _ ?_
    clear hK K
    refine w_ret (ret_val rfl ?_)
    simp only [szSF, nn]
    rw [if_pos g1]
  · simp at g1
    refine w_skip ?_
    refine w_sr mo (by rw [hN]; decide) fun K hK => ?_ -- region 4
    simp
    refine callA_intro (c14 u f.sz (szCat l f.s) g1 (szCat_le h2)) (.cons .lst (.cons .val .nil)) ?_
    simp [unk, unA, unE, flat]
    refine hK _ ?_
    clear hK K
    refine w_seq ?_
    refine w_sr mo (by rw [hN]; decide) fun K hK => ?_ -- region 5
    simp
    refine hK _ ?_
    clear hK K
    refine w_cond rfl (fun g2 => ?_) fun g2 => ?_
    · simp at g2
      refine w_sr mo (by rw [hN]; decide) fun K hK => ?_ -- region 6
      simp
      refine hK _ ?_
      clear hK K
      refine w_ret (ret_val rfl ?_)
      simp only [szSF, nn]
      rw [if_neg (Int.not_lt.2 g1), if_pos g2]
    · simp at g2
      refine w_skip ?_
      refine w_sr mo (by rw [hN]; decide) fun K hK => ?_ -- region 7
      simp
      refine callA_intro (c15 u f.ac (less (szCat l f.s) f.sz.length) g2 (less_le (szCat_le h2))) (.cons .lst (.cons .val .nil)) ?_
      simp [unk, unA, unE, flat]
      refine hK _ ?_
      clear hK K
      refine w_seq ?_
      refine w_sr mo (by rw [hN]; decide) fun K hK => ?_ -- region 8
      simp
      refine hK _ ?_
      clear hK K
      refine w_cond rfl (fun g3 => ?_) fun g3 => ?_
      · simp at g3
        refine w_sr mo (by rw [hN]; decide) fun K hK => ?_ -- region 9
        simp
        refine hK _ ?_
        clear hK K
        refine w_ret (ret_val rfl ?_)
        simp only [szSF, nn]
        rw [if_neg (Int.not_lt.2 g1), if_neg (Int.not_lt.2 g2), if_pos g3]
      · simp at g3
        refine w_skip ?_
        refine w_sr mo (by rw [hN]; decide) fun K hK => ?_ -- region 10
        simp
        refine hK _ ?_
        clear hK K
        refine w_ret (ret_val rfl ?_)
        simp only [szSF, nn]
        rw [if_neg (Int.not_lt.2 g1), if_neg (Int.not_lt.2 g2), if_neg (Int.not_lt.2 g3)]

end Go.Vc.T


namespace Go.Vc.T
open Go Go.Vc Go.Proofs

theorem c56 (x a b : Int) : Contract Try.prog 93 [.val (.int .i64 x), .val (.int .i64 a), .val (.int .i64 b)] (.val (.bool (decide (a ≤ x) && decide (x ≤ b)))) := by
  refine contract_intro (rs := [.val (.bool (decide (a ≤ x) && decide (x ≤ b)))]) Try.func93 rfl rfl rfl rfl (by simp [Try.f93]) fun F hN hP => ?_
  refine w_sr mo (by rw [hN]; decide) fun K hK => ?_ -- region 0
  simp
  refine hK _ ?_
  clear hK K
  refine w_sr mo (by rw [hN]; decide) fun K hK => ?_ -- region 1
  simp
  refine ⟨fun h => hK _ (w_ret (ret_val rfl ?_)), fun h => hK _ (w_ret (ret_val rfl ?_))⟩ <;> clear hK K
  · simp [h]
  · simp; omega

theorem c57 (u : Bool) (xs : List Int) (n : Int) : Contract Try.prog 82 [.val (.int .i64 n), .lst u 1 (Is xs)] (.val (.bool (xs.all (inR n)))) := by
  refine contract_intro (rs := [.val (.bool (xs.all (inR n)))]) Try.func82 rfl rfl rfl rfl (by simp [Try.f82]) fun F hN hP => ?_
  refine w_good 1 fun h0 => ?_
  simp at h0
  obtain ⟨hl0, hb0⟩ := h0.is
  refine w_sr mo (by rw [hN]; decide) fun K hK => ?_ -- region 0
  simp
  refine hK _ ?_
  clear hK K
  refine w_seq ?_
  refine w_sr mo (by rw [hN]; decide) fun K hK => ?_ -- region 1
  simp
  refine hK _ ?_
  clear hK K
  refine w_block ?_
  refine w_loop (fun i : Nat => ⟨[(0, .val (.int .i64 n)), (1, .lst u 1 (Is xs)), (5, .val (.int .i64 i))], [], 0⟩) (fun i => i ≤ xs.length ∧ (xs.take i).all (inR n) = true) (fun i => xs.length - i) 0 (by simp) (Wk.cut (by simp) (by simp) rfl) ?_
  rintro i ⟨hi, ht⟩
  refine w_seq ?_
  refine w_sr mo (by rw [hN]; decide) fun K hK => ?_ -- region 2
  simp
  refine hK _ ?_
  clear hK K
  refine w_cond rfl (fun h => ?_) fun h => ?_
  · simp at h
    refine w_skip ?_
    refine w_seq ?_
    refine w_block ?_
    refine w_sr mo (by rw [hN]; decide) fun K hK => ?_ -- region 4
    simp [h]
    refine ⟨fun h1 => hK _ ?_, fun h1 => hK _ ?_⟩ <;> clear hK K
    · refine w_cond rfl (fun h2 => ?_) fun h2 => ?_
      · simp at h2
        refine w_sr mo (by rw [hN]; decide) fun K hK => ?_ -- region 5
        simp
        refine hK _ ?_
        clear hK K
        refine w_ret (ret_val rfl ?_)
        rw [not_all h]
        simp [inR]; omega
      · simp at h2
        refine w_skip ?_
        refine w_run mo (by rw [hN]; decide) fun K hK => ?_ -- region 3
        simp
        refine hK _ ?_
        clear hK K
        rw [wrap_succ (n := xs.length) (by omega) (by omega)]
        refine ⟨i + 1, ⟨by omega, all_take h ht (by simp [inR]; omega)⟩, by dsimp only; omega, Wk.cut (by simp) (by simp) rfl⟩
    · refine w_cond rfl (fun _ => ?_) fun h => by simp at h
      refine w_sr mo (by rw [hN]; decide) fun K hK => ?_ -- region 5
      simp
      refine hK _ ?_
      clear hK K
      refine w_ret (ret_val rfl ?_)
      rw [not_all h]
      simp [inR]; omega
  · simp at h
    refine w_exit ?_
    simp
    have hi' : i = xs.length := by omega
    subst hi'
    rw [List.take_length] at ht
    refine w_sr mo (by rw [hN]; decide) fun K hK => ?_ -- region 6
    simp
    refine hK _ ?_
    clear hK K
    refine w_ret (ret_val rfl ?_)
    rw [ht]

theorem c58 (u : Bool) (xs : List Int) (hx : xs.length ≤ 1048576) : Contract Try.prog 44 [.lst u 1 (Is xs)] (.lst true 1 (Is xs)) := by
  refine contract_intro (rs := [.lst true 1 (Is xs)]) Try.func44 rfl rfl rfl rfl (by simp [Try.f44]) fun F hN hP => ?_
  refine w_sr mo (by rw [hN]; decide) fun K hK => ?_ -- region 0
  simp
  refine hK _ ?_
  clear hK K
  refine w_sr mo (by rw [hN]; decide) fun K hK => ?_ -- region 1
  simp
  refine ⟨⟨?_, by omega, by omega⟩, hK _ ?_⟩
  · intro e he c hc
    obtain ⟨x, _, rfl⟩ := List.mem_map.1 he
    simp at hc; subst hc; rfl
  clear hK K
  refine w_ret (ret_row rfl rfl (by simp) (by simp))

theorem c47 (u : Bool) (xs : List Int) (hx : xs.length ≤ 1048576) : Contract Try.prog 47 [.lst u 1 (Is xs)] (.lst true 1 (Is xs)) := by
  refine contract_intro (rs := [.lst true 1 (Is xs)]) Try.func47 rfl rfl rfl rfl (by simp [Try.f47]) fun F hN hP => ?_
  refine w_sr mo (by rw [hN]; decide) fun K hK => ?_ -- region 0
  simp
  refine hK _ ?_
  clear hK K
  refine w_sr mo (by rw [hN]; decide) fun K hK => ?_ -- region 1
  simp
  refine ⟨⟨?_, by omega, by omega⟩, hK _ ?_⟩
  · intro e he c hc
    obtain ⟨x, _, rfl⟩ := List.mem_map.1 he
    simp at hc; subst hc; rfl
  clear hK K
  refine w_ret (ret_row rfl rfl (by simp) (by simp))

theorem c59 (u : Bool) (xs : List (List Int)) (hx : xs.length ≤ 1048576) (hx' : ∀ x ∈ xs, x.length ≤ 1048576) : Contract Try.prog 57 [.lst u 1 (Ls xs)] (.lst true 1 (Ls xs)) := by
  refine contract_intro (rs := [.lst true 1 (Ls xs)]) Try.func57 rfl rfl rfl rfl (by simp [Try.f57]) fun F hN hP => ?_
  refine w_sr mo (by rw [hN]; decide) fun K hK => ?_ -- region 0
  simp
  refine hK _ ?_
  clear hK K
  refine w_sr mo (by rw [hN]; decide) fun K hK => ?_ -- region 1
  simp
  refine hK _ ?_
  clear hK K
  refine w_seq ?_
  refine w_sr mo (by rw [hN]; decide) fun K hK => ?_ -- region 2
  simp
  refine hK _ ?_
  clear hK K
  refine w_block ?_
  refine w_loop (fun i : Nat => ⟨[(0, .lst u 1 (Ls xs)), (3, .own 0 0 i), (4, .val (.int .i64 i))], [(0, .row 1 (Ls (xs.take i)))], 1⟩) (fun i => i ≤ xs.length) (fun i => xs.length - i) 0 (by simp) (Wk.nils [] (by simp) (by simp) (by simp [nlA]) (by simp [entN, Ls]) (by simp)) ?_
  intro i hi
  refine w_seq ?_
  refine w_sr mo (by rw [hN]; decide) fun K hK => ?_ -- region 3
  simp
  refine hK _ ?_
  clear hK K
  refine w_cond rfl (fun h => ?_) fun h => ?_
  · simp at h
    refine w_skip ?_
    refine w_seq ?_
    refine w_block ?_
    refine w_run mo (by rw [hN]; decide) fun K hK => ?_ -- region 5
    simp [h]
    refine callA_intro (c58 true xs[i] (hx' _ (List.getElem_mem h))) (.cons .lst .nil) ?_
    simp [unk, unA, unE, flat]
    refine ⟨by omega, hK _ ?_⟩
    clear hK K
    refine w_run mo (by rw [hN]; decide) fun K hK => ?_ -- region 4
    simp
    refine hK _ ?_
    clear hK K
    rw [wrap_succ (n := xs.length) (by omega) (by omega)]
    rw [Nat.min_eq_left hi, List.take_of_length_le (l := Ls (List.take i xs)) (by simp; omega), Ls_take h]
    refine ⟨i + 1, by omega, by dsimp only; omega, Wk.relabel [(3, 0)] (by simp) (by simp) (by rw [hP]; simp) (by simp) (by simp) (by simp) (by simp)⟩
  · simp at h
    refine w_exit ?_
    simp
    refine w_sr mo (by rw [hN]; decide) fun K hK => ?_ -- region 6
    simp
    refine hK _ ?_
    clear hK K
    have hi' : i = xs.length := by omega
    subst hi'
    refine w_ret (ret_row rfl rfl (by simp) (by simp))

theorem c48 (u : Bool) (xs : List (List Int)) (hx : xs.length ≤ 1048576) (hx' : ∀ x ∈ xs, x.length ≤ 1048576) : Contract Try.prog 64 [.lst u 1 (Ls xs)] (.lst true 1 (Ls xs)) := by
  refine contract_intro (rs := [.lst true 1 (Ls xs)]) Try.func64 rfl rfl rfl rfl (by simp [Try.f64]) fun F hN hP => ?_
  refine w_sr mo (by rw [hN]; decide) fun K hK => ?_ -- region 0
  simp
  refine hK _ ?_
  clear hK K
  refine w_sr mo (by rw [hN]; decide) fun K hK => ?_ -- region 1
  simp
  refine ⟨by omega, hK _ ?_⟩
  clear hK K
  refine w_seq ?_
  refine w_sr mo (by rw [hN]; decide) fun K hK => ?_ -- region 2
  simp
  refine hK _ ?_
  clear hK K
  refine w_block ?_
  refine w_loop (fun i : Nat => ⟨[(0, .lst u 1 (Ls xs)), (3, .own 0 0 i), (9, .lst u 1 (Ls xs)), (10, .val (.int .i64 xs.length)), (11, .val (.int .i64 i))], [(0, .row 1 (Ls (xs.take i)))], 1⟩) (fun i => i ≤ xs.length) (fun i => xs.length - i) 0 (by simp) (Wk.cut (by simp) (by simp [Ls]) rfl) ?_
  intro i hi
  refine w_sr mo (by rw [hN]; decide) fun K hK => ?_ -- region 3
  simp
  refine hK _ ?_
  clear hK K
  refine w_seq ?_
  refine w_cond rfl (fun h => ?_) fun h => ?_
  · simp at h
    refine w_skip ?_
    refine w_seq ?_
    refine w_block ?_
    refine w_sr mo (by rw [hN]; decide) fun K hK => ?_ -- region 4
    simp [h]
    refine hK _ ?_
    clear hK K
    refine w_run mo (by rw [hN]; decide) fun K hK => ?_ -- region 5
    simp
    refine callA_intro (c47 true xs[i] (hx' _ (List.getElem_mem h))) (.cons .lst .nil) ?_
    simp [unk, unA, unE, flat]
    refine ⟨by omega, hK _ ?_⟩
    clear hK K
    refine w_run mo (by rw [hN]; decide) fun K hK => ?_ -- region 6
    simp
    refine hK _ ?_
    clear hK K
    rw [wrap_succ (n := xs.length) (by omega) (by omega)]
    rw [Nat.min_eq_left hi, List.take_of_length_le (l := Ls (List.take i xs)) (by simp; omega), Ls_take h]
    refine ⟨i + 1, by omega, by dsimp only; omega, Wk.relabel [(3, 0)] (by simp) (by simp) (by rw [hP]; simp) (by simp) (by simp) (by simp) (by simp)⟩
  · simp at h
    refine w_exit ?_
    simp
    refine w_sr mo (by rw [hN]; decide) fun K hK => ?_ -- region 7
    simp
    refine hK _ ?_
    clear hK K
    have hi' : i = xs.length := by omega
    subst hi'
    refine w_ret (ret_row rfl rfl (by simp) (by simp))

end Go.Vc.T


namespace Go.Vc.T
open Go Go.Vc Go.Proofs

@[simp] theorem pl29 : places Try.prog 31 = some [(0, 1), (1, 1), (2, 1), (3, 1), (4, 1)] := by kernel_rfl
@[simp] theorem pl86 : places Try.prog 106 = some [(0, 1), (1, 1)] := by kernel_rfl
@[simp] theorem y86 : tyi Try.prog 106 = some ⟨true, 2, 16, [.int .i64 0, .int .i64 0]⟩ := by kernel_rfl
@[simp] theorem q86 : eqT Try.prog 106 = 4 := by kernel_rfl

def iota (n : Nat) : List Int := (List.range n).map fun i : Nat => (i : Int)
@[simp] theorem iota_length (n : Nat) : (iota n).length = n := by simp [iota]
theorem iota_succ (n : Nat) : iota (n + 1) = iota n ++ [(n : Int)] := by simp [iota, List.range_succ]
theorem iota_get (n i : Nat) (h : i < n) : (iota n)[i]'(by simpa using h) = i := by simp [iota]
def fill (xs : List Int) (n : Nat) (z : Int) : List Int := xs ++ List.replicate (n - xs.length) z
theorem fill_length (xs : List Int) (n : Nat) (z : Int) (h : xs.length ≤ n) : (fill xs n z).length = n := by simp [fill]; omega
theorem fill_set (xs : List Int) (n : Nat) (z x : Int) (h : xs.length < n) : (fill xs n z).set xs.length x = fill (xs ++ [x]) n z := by
  rw [fill, List.set_append_right _ _ (Nat.le_refl _), Nat.sub_self, show n - xs.length = (n - (xs.length + 1)) + 1 by omega, List.replicate_succ, List.set_cons_zero]
  simp [fill]

theorem c49 (n : Nat) (hn : n ≤ 1048576) : Contract Try.prog 78 [.val (.int .i64 n)] (.lst true 1 (Is (iota n))) := by
  refine contract_intro (rs := [.lst true 1 (Is (iota n))]) Try.func78 rfl rfl rfl rfl (by simp [Try.f78]) fun F hN hP => ?_
  refine w_sr mo (by rw [hN]; decide) fun K hK => ?_ -- region 0
  simp
  refine hK _ ?_
  clear hK K
  refine w_sr mo (by rw [hN]; decide) fun K hK => ?_ -- region 1
  simp
  refine ⟨by omega, hK _ ?_⟩
  clear hK K
  refine w_seq ?_
  refine w_sr mo (by rw [hN]; decide) fun K hK => ?_ -- region 2
  simp
  refine hK _ ?_
  clear hK K
  refine w_block ?_
  refine w_loop (fun i : Nat => ⟨[(3, .own 0 0 n), (8, .val (.int .i64 n)), (9, .val (.int .i64 i))], [(0, .row 1 (Is (fill (iota i) n 0)))], 1⟩) (fun i => i ≤ n) (fun i => n - i) 0 (by simp) (Wk.cut (by simp) (by simp [fill, iota]) rfl) ?_
  intro i hi
  refine w_sr mo (by rw [hN]; decide) fun K hK => ?_ -- region 3
  simp
  refine hK _ ?_
  clear hK K
  refine w_seq ?_
  refine w_cond rfl (fun h => ?_) fun h => ?_
  · simp at h
    refine w_skip ?_
    refine w_seq ?_
    refine w_block ?_
    refine w_sr mo (by rw [hN]; decide) fun K hK => ?_ -- region 4
    simp
    refine hK _ ?_
    clear hK K
    refine w_run mo (by rw [hN]; decide) fun K hK => ?_ -- region 5
    simp [h, fill_length (iota i) n 0 (by simpa using hi)]
    refine hK _ ?_
    clear hK K
    refine w_run mo (by rw [hN]; decide) fun K hK => ?_ -- region 6
    simp
    refine hK _ ?_
    clear hK K
    rw [wrap_succ (n := n) (by omega) (by omega)]
    have hf := fill_set (iota i) n 0 i (by simpa using h)
    rw [iota_length, ← iota_succ] at hf
    rw [hf]
    refine ⟨i + 1, by omega, by dsimp only; omega, Wk.cut (by simp) (by simp) rfl⟩
  · simp at h
    refine w_exit ?_
    simp
    refine w_sr mo (by rw [hN]; decide) fun K hK => ?_ -- region 7
    simp
    refine hK _ ?_
    clear hK K
    have hi' : i = n := by omega
    subst hi'
    refine w_ret (ret_row rfl rfl (by simp [fill]) (by simp [fill]))

theorem c61 (u : Bool) (c : Cat) (tl : List AV) : Contract Try.prog 99 [.rptr (c.cells u ++ tl)] (.val (.int .i64 c.fr.length)) := by
  refine contract_intro (rs := [.val (.int .i64 c.fr.length)]) Try.func99 rfl rfl rfl rfl (by simp [Try.f99]) fun F hN hP => ?_
  refine w_sr mo (by rw [hN]; decide) fun K hK => ?_ -- region 0
  simp [Cat.cells]
  refine hK _ ?_
  clear hK K
  refine w_sr mo (by rw [hN]; decide) fun K hK => ?_ -- region 1
  simp [Cat.cells]
  refine hK _ ?_
  clear hK K
  refine w_ret (ret_val rfl rfl)

theorem c67 (u : Bool) (xs : List Int) (m n : Int) : Contract Try.prog 100 [.lst u 1 (Is xs), .val (.int .i64 m), .val (.int .i64 n)] (.val (.bool (decide ((xs.length : Int) = m) && xs.all (inR n)))) := by
  refine contract_intro (rs := [.val (.bool (decide ((xs.length : Int) = m) && xs.all (inR n)))]) Try.func100 rfl rfl rfl rfl (by simp [Try.f100]) fun F hN hP => ?_
  refine w_sr mo (by rw [hN]; decide) fun K hK => ?_ -- region 0
  simp
  refine hK _ ?_
  clear hK K
  refine w_sr mo (by rw [hN]; decide) fun K hK => ?_ -- region 1
  simp
  refine ⟨fun h => ?_, fun h => hK _ (w_ret (ret_val rfl ?_))⟩
  · refine callA_intro (c57 u xs n) (.cons .val (.cons .lst .nil)) ?_
    simp [unk, unA, unE, flat]
    refine hK _ (w_ret (ret_val rfl ?_))
    simp [h]
  · simp [h]

theorem c62 (u : Bool) (xs : List Int) (m n : Int) (hn : B64 (n - 1)) : Contract Try.prog 91 [.lst u 1 (Is xs), .val (.int .i64 m), .val (.int .i64 n)] (.val (.bool (decide ((xs.length : Int) = m) && xs.all (inR n)))) := by
  refine contract_intro (rs := [.val (.bool (decide ((xs.length : Int) = m) && xs.all (inR n)))]) Try.func91 rfl rfl rfl rfl (by simp [Try.f91]) fun F hN hP => ?_
  refine w_sr mo (by rw [hN]; decide) fun K hK => ?_ -- region 0
  simp
  refine hK _ ?_
  clear hK K
  refine w_sr mo (by rw [hN]; decide) fun K hK => ?_ -- region 1
  simp
  refine ⟨fun h => ?_, fun h => hK _ (w_ret (ret_val rfl ?_))⟩
  · refine callA_intro (c22 u xs n hn) (.cons .lst (.cons .val .nil)) ?_
    simp [unk, unA, unE, flat]
    refine hK _ (w_ret (ret_val rfl ?_))
    simp [h]
  · simp [h]

theorem c41 (u : Bool) (c : Cat) (hc : c.ok) : Contract Try.prog 76 [.agg (c.cells u)] (.agg (c.cells true)) := by
  obtain ⟨hc1, hc2, hc3, hc4, hc5, hc6⟩ := hc
  refine contract_introC Try.func76 rfl rfl y29 rfl rfl (by simp [Try.f76]) fun F hN hP => ?_
  refine w_sr mo (by rw [hN]; decide) fun K hK => ?_ -- region 0
  simp [Cat.cells]
  refine hK _ ?_
  clear hK K
  refine w_sr mo (by rw [hN]; decide) fun K hK => ?_ -- region 1 DRAWN
  simp
  refine callA_intro (c58 u c.fr hc1) (.cons .lst .nil) ?_
  simp [unk, unA, unE, unC, flat]
  refine callA_intro (c58 u c.to hc2) (.cons .lst .nil) ?_
  simp [unk, unA, unE, unC, flat]
  refine callA_intro (c58 u c.id hc3) (.cons .lst .nil) ?_
  simp [unk, unA, unE, unC, flat]
  refine callA_intro (c59 u c.cs hc4 hc5) (.cons .lst .nil) ?_
  simp [unk, unA, unE, unC, flat]
  refine hK _ ?_
  clear hK K
  refine w_ret ⟨_, _, _, _, _, rfl, rfl, by simp, by simp, ?_⟩
  exact ⟨.agg rfl .nil, [.val (.int .i64 c.n), .lst true 1 (Is c.fr), .lst true 1 (Is c.to), .lst true 1 (Is c.id), .lst true 1 (Ls c.cs)], [2, 3, 4, 5], by simp, by simp, UpL.refl _⟩

theorem c23 (u : Bool) (c : Cat) (tl : List AV) (hc : c.ok) : Contract Try.prog 77 [.rptr (c.cells u ++ tl)] (.agg (c.cells true)) := by
  obtain ⟨hc1, hc2, hc3, hc4, hc5, hc6⟩ := hc
  refine contract_introC Try.func77 rfl rfl y29 rfl rfl (by simp [Try.f77]) fun F hN hP => ?_
  refine w_sr mo (by rw [hN]; decide) fun K hK => ?_ -- region 0
  simp [Cat.cells]
  refine hK _ ?_
  clear hK K
  refine w_sr mo (by rw [hN]; decide) fun K hK => ?_ -- region 1 DRAWN
  simp
  refine callA_intro (c47 u c.fr hc1) (.cons .lst .nil) ?_
  simp [unk, unA, unE, unC, flat]
  refine callA_intro (c47 u c.to hc2) (.cons .lst .nil) ?_
  simp [unk, unA, unE, unC, flat]
  refine callA_intro (c47 u c.id hc3) (.cons .lst .nil) ?_
  simp [unk, unA, unE, unC, flat]
  refine callA_intro (c48 u c.cs hc4 hc5) (.cons .lst .nil) ?_
  simp [unk, unA, unE, unC, flat]
  refine hK _ ?_
  clear hK K
  refine w_ret ⟨_, _, _, _, _, rfl, rfl, by simp, by simp, ?_⟩
  exact ⟨.agg rfl .nil, [.val (.int .i64 c.n), .lst true 1 (Is c.fr), .lst true 1 (Is c.to), .lst true 1 (Is c.id), .lst true 1 (Ls c.cs)], [1, 2, 3, 4], by simp, by simp, UpL.refl _⟩

end Go.Vc.T
