/- A part of the proof: a verified generator of conditions, and what each function of the program does. -/
import Derived.Test.YtgdcogaeechepaaW3
set_option maxRecDepth 100000
set_option linter.unusedSimpArgs false
set_option linter.unusedVariables false

set_option maxRecDepth 100000
set_option linter.unusedSimpArgs false
set_option linter.unusedVariables false
namespace Go.Vc.T
open Go Go.Vc Go.Proofs

@[simp] theorem z29 : tyi Try.prog 29 = some ⟨true, 15, 328, [.int .i64 0, .slice none 0 0, .slice none 0 0, .slice none 0 0, .slice none 0 0, .slice none 0 0, .slice none 0 0, .int .i64 0, .slice none 0 0, .slice none 0 0, .slice none 0 0, .slice none 0 0, .slice none 0 0, .slice none 0 0, .slice none 0 0]⟩ := by kernel_rfl
@[simp] theorem z35 : tyi Try.prog 35 = some ⟨true, 15, 328, [.int .i64 0, .slice none 0 0, .slice none 0 0, .slice none 0 0, .slice none 0 0, .slice none 0 0, .slice none 0 0, .int .i64 0, .slice none 0 0, .slice none 0 0, .slice none 0 0, .slice none 0 0, .slice none 0 0, .slice none 0 0, .slice none 0 0]⟩ := by kernel_rfl
@[simp] theorem zf29_0 : fld Try.prog 29 0 = some (0, 7, true) := by kernel_rfl
@[simp] theorem zf29_1 : fld Try.prog 29 1 = some (7, 7, true) := by kernel_rfl
@[simp] theorem zf29_2 : fld Try.prog 29 2 = some (14, 1, false) := by kernel_rfl
@[simp] theorem zf35_0 : fld Try.prog 35 0 = some (0, 7, true) := by kernel_rfl
@[simp] theorem zf35_1 : fld Try.prog 35 1 = some (7, 7, true) := by kernel_rfl
@[simp] theorem zf35_2 : fld Try.prog 35 2 = some (14, 1, false) := by kernel_rfl
@[simp] theorem zp35 : places Try.prog 35 = some [(0, 7), (7, 7), (14, 1)] := by kernel_rfl
@[simp] theorem zp33 : places Try.prog 33 = some [(0, 5), (5, 1), (6, 1)] := by kernel_rfl
@[simp] theorem ze98 : elm Try.prog 98 = some 55 := by kernel_rfl
@[simp] theorem ze77 : elm Try.prog 77 = some 53 := by kernel_rfl
@[simp] theorem z53 : tyi Try.prog 53 = some ⟨false, 1, 8, [.pointer none]⟩ := by kernel_rfl
@[simp] theorem z55 : tyi Try.prog 55 = some ⟨false, 1, 8, [.pointer none]⟩ := by kernel_rfl

theorem less_ok {l : Int} {n : Nat} (h : 0 ≤ less l n) : (n : Int) ≤ l ∧ less l n = l - n := by
  unfold less at h ⊢
  split at h
  · omega
  · rename_i h1; rw [if_neg h1]; omega
theorem nn_ok {a : Int} {f : Int → Int} (h : 0 ≤ nn a f) : 0 ≤ a ∧ 0 ≤ f a ∧ nn a f = f a := by
  unfold nn at h ⊢
  split at h
  · omega
  · rename_i h1; rw [if_neg h1]; exact ⟨by omega, h, rfl⟩
theorem lessS_ok (xs : List (List Int)) : ∀ l : Int, 0 ≤ lessS l xs → (sumL xs : Int) ≤ l ∧ (∀ x ∈ xs, (x.length : Int) ≤ l) ∧ lessS l xs = l - sumL xs := by
  induction xs with
  | nil => intro l h; simp only [lessS] at h ⊢; simp [sumL]; exact h
  | cons x r ih =>
    intro l h
    simp only [lessS] at h ⊢
    split at h
    · omega
    · rename_i h1
      rw [if_neg h1]
      obtain ⟨a1, a2⟩ := less_ok (l := l) (n := x.length) (by omega)
      rw [a2] at h ⊢
      obtain ⟨b1, b2, b3⟩ := ih _ h
      have hs : sumL (x :: r) = x.length + sumL r := by simp [sumL]
      refine ⟨by rw [hs]; push_cast; omega, fun y hy => ?_, by rw [b3, hs]; push_cast; omega⟩
      rcases List.mem_cons.1 hy with rfl | hy
      · exact a1
      · have := b2 y hy; omega
theorem lessSS_ok {l : Int} {xs : List (List Int)} (h : 0 ≤ lessSS l xs) : (xs.length : Int) ≤ l ∧ (sumL xs : Int) ≤ l ∧ (∀ x ∈ xs, (x.length : Int) ≤ l) ∧ lessSS l xs ≤ l := by
  unfold lessSS at h ⊢
  split at h
  · omega
  · rename_i h1
    rw [if_neg h1]
    obtain ⟨b1, b2, b3⟩ := lessS_ok xs _ h
    exact ⟨by omega, by omega, fun x hx => by have := b2 x hx; omega, by omega⟩
theorem szCat_ok {l : Int} {c : Cat} (hl : l ≤ 1048576) (h : 0 ≤ szCat l c) : c.ok := by
  unfold szCat at h
  obtain ⟨a1, a2, _⟩ := nn_ok h
  obtain ⟨b1, b2, _⟩ := nn_ok a2
  obtain ⟨c1, c2, _⟩ := nn_ok b2
  obtain ⟨d1, d2, _⟩ := nn_ok c2
  obtain ⟨e1, e2⟩ := less_ok a1
  obtain ⟨f1, f2⟩ := less_ok b1
  obtain ⟨g1, g2⟩ := less_ok c1
  obtain ⟨h1, h2, h3, _⟩ := lessSS_ok d1
  exact ⟨by omega, by omega, by omega, by omega, fun x hx => by have := h3 x hx; omega, by omega⟩
theorem szSF_ok {f : SF} (h : 0 ≤ szSF 1048576 f) : f.ok := by
  unfold szSF at h
  obtain ⟨a1, a2, _⟩ := nn_ok h
  obtain ⟨b1, b2, _⟩ := nn_ok a2
  obtain ⟨c1, c2, _⟩ := nn_ok b2
  have hc := szCat_le (l := 1048576) (c := f.s) (by omega)
  obtain ⟨e1, e2⟩ := less_ok b1
  obtain ⟨h1, h2, h3, _⟩ := lessSS_ok c1
  exact ⟨szCat_ok (by omega) a1, by omega, by omega, fun x hx => by have := h3 x hx; omega, by omega⟩

theorem szSF_okl {l : Int} {f : SF} (hl : l ≤ 1048576) (h : 0 ≤ szSF l f) : f.ok := by
  unfold szSF at h
  obtain ⟨a1, a2, _⟩ := nn_ok h
  obtain ⟨b1, b2, _⟩ := nn_ok a2
  obtain ⟨c1, c2, _⟩ := nn_ok b2
  have hc := szCat_le (l := l) (c := f.s) hl
  obtain ⟨e1, e2⟩ := less_ok b1
  obtain ⟨h1, h2, h3, _⟩ := lessSS_ok c1
  exact ⟨szCat_ok hl a1, by omega, by omega, fun x hx => by have := h3 x hx; omega, by omega⟩
theorem szSF_le {l : Int} {f : SF} (h : l ≤ 1048576) : szSF l f ≤ 1048576 := nn_le (fun x hx _ => nn_le (fun y hy _ => nn_le (fun z hz _ => by rw [← hz]; exact lessSS_le (by rw [← hy]; exact less_le (by rw [← hx]; exact szCat_le h))) (by decide)) (by decide)) (by decide)
theorem Cat.ok_size {f : Cat} (h : f.ok) : f.size ≤ 1099514773504 := by
  obtain ⟨hfr, hto, hid, hcs1, hcs2, hcs3⟩ := h
  simp only [Cat.size]
  omega
theorem SF.ok_size {f : SF} (h : f.ok) : f.size ≤ 2199027449856 := by
  obtain ⟨hs, hsz, hac1, hac2, hac3⟩ := h
  have s_s := Cat.ok_size hs
  simp only [SF.size]
  omega
theorem heldSF (u : Bool) (f : SF) (k : Int) (hf : f.ok) (h2 : 0 ≤ k) (h3 : k + f.size ≤ 1152921504606846976) : Contract Try.prog 33 [.agg ((f.mark k).cells u), .val (.int .i64 k)] (.val (.int .i64 (k + f.size))) := by
  obtain ⟨hs, hsz, hac1, hac2, hac3⟩ := hf
  have hz : f.size = f.s.size + f.sz.length + sumL f.ac := rfl
  refine contract_intro (rs := [.val (.int .i64 (k + f.size))]) Try.func33 rfl rfl rfl rfl (by simp [Try.f33]) fun F hN hP => ?_
  refine w_sr mo (by rw [hN]; decide) fun K hK => ?_ -- region 0
  simp [SF.cells, Cat.mark, SF.mark]
  refine hK _ ?_
  clear hK K
  refine w_sr mo (by rw [hN]; decide) fun K hK => ?_ -- region 1
  simp
  refine callA_intro (c36 u f.s (k) hs (by omega) (by omega)) (.cons (.aggL (.cons .val (.cons .lst (.cons .lst (.cons .lst (.cons .lst .nil)))))) (.cons .val .nil)) ?_
  simp [unk, unA, unE, flat]
  refine hK _ ?_
  clear hK K
  refine w_seq ?_
  refine w_sr mo (by rw [hN]; decide) fun K hK => ?_ -- region 2
  simp
  refine hK _ ?_
  clear hK K
  refine w_cond rfl (fun g => ?_) fun g => ?_
  · simp at g
    omega
  · refine w_skip ?_
    refine w_sr mo (by rw [hN]; decide) fun K hK => ?_ -- region 4
    simp
    refine callA_intro (c53 u (run (k + f.s.size) f.sz.length) (k + f.s.size) (by simpa using hsz) (by omega) (by omega)) (.cons .lst (.cons .val .nil)) ?_
    simp [unk, unA, unE, flat]
    refine hK _ ?_
    clear hK K
    refine w_seq ?_
    refine w_sr mo (by rw [hN]; decide) fun K hK => ?_ -- region 5
    simp
    refine hK _ ?_
    clear hK K
    refine w_cond rfl (fun g => ?_) fun g => ?_
    · simp at g
      omega
    · refine w_skip ?_
      refine w_sr mo (by rw [hN]; decide) fun K hK => ?_ -- region 7
      simp
      refine callA_intro (c54 u f.ac (k + f.s.size + f.sz.length) hac1 hac2 (by omega) (by omega)) (.cons .lst (.cons .val .nil)) ?_
      simp [unk, unA, unE, flat]
      refine hK _ ?_
      clear hK K
      refine w_seq ?_
      refine w_sr mo (by rw [hN]; decide) fun K hK => ?_ -- region 8
      simp
      refine hK _ ?_
      clear hK K
      refine w_cond rfl (fun g => ?_) fun g => ?_
      · simp at g
        omega
      · refine w_skip ?_
        refine w_sr mo (by rw [hN]; decide) fun K hK => ?_ -- region 10
        simp
        refine hK _ ?_
        clear hK K
        refine w_ret (ret_val rfl ?_)
        simp [hz, Int.add_assoc]

structure SM where
  s : SF
  t : SF
  p : List (List Int)
def SM.cells (u : Bool) (f : SM) : List AV := [.val (.int .i64 f.s.s.n), .lst u 1 (Is f.s.s.fr), .lst u 1 (Is f.s.s.to), .lst u 1 (Is f.s.s.id), .lst u 1 (Ls f.s.s.cs), .lst u 1 (Is f.s.sz), .lst u 1 (Ls f.s.ac), .val (.int .i64 f.t.s.n), .lst u 1 (Is f.t.s.fr), .lst u 1 (Is f.t.s.to), .lst u 1 (Is f.t.s.id), .lst u 1 (Ls f.t.s.cs), .lst u 1 (Is f.t.sz), .lst u 1 (Ls f.t.ac), .lst u 1 (Ls f.p)]
theorem SM.pur {h : HP} {u v : Bool} {c : SM} : PurL h (c.cells u) (c.cells v) := .cons .val (.cons .lst (.cons .lst (.cons .lst (.cons .lst (.cons .lst (.cons .lst (.cons .val (.cons .lst (.cons .lst (.cons .lst (.cons .lst (.cons .lst (.cons .lst (.cons .lst .nil))))))))))))))
def SM.mark (k : Int) (f : SM) : SM := ⟨f.s.mark (k), f.t.mark (k + f.s.size), runs (k + f.s.size + f.t.size) f.p⟩
def SM.size (f : SM) : Nat := f.s.size + f.t.size + sumL f.p
def SM.ok (f : SM) : Prop := f.s.ok ∧ f.t.ok ∧ f.p.length ≤ 1048576 ∧ (∀ xs ∈ f.p, xs.length ≤ 1048576) ∧ sumL f.p ≤ 1099511627776
def SM.mu (f : SM) (k : Int) : List Mu := [⟨1, Is f.s.s.fr, Is (f.mark k).s.s.fr⟩, ⟨1, Is f.s.s.to, Is (f.mark k).s.s.to⟩, ⟨1, Is f.s.s.id, Is (f.mark k).s.s.id⟩, ⟨1, Ls f.s.s.cs, Ls (f.mark k).s.s.cs⟩, ⟨1, Is f.s.sz, Is (f.mark k).s.sz⟩, ⟨1, Ls f.s.ac, Ls (f.mark k).s.ac⟩, ⟨1, Is f.t.s.fr, Is (f.mark k).t.s.fr⟩, ⟨1, Is f.t.s.to, Is (f.mark k).t.s.to⟩, ⟨1, Is f.t.s.id, Is (f.mark k).t.s.id⟩, ⟨1, Ls f.t.s.cs, Ls (f.mark k).t.s.cs⟩, ⟨1, Is f.t.sz, Is (f.mark k).t.sz⟩, ⟨1, Ls f.t.ac, Ls (f.mark k).t.ac⟩, ⟨1, Ls f.p, Ls (f.mark k).p⟩]

theorem SM.ok_size {f : SM} (h : f.ok) : f.size ≤ 5497566527488 := by
  obtain ⟨hs, ht, hp1, hp2, hp3⟩ := h
  have s_s := SF.ok_size hs
  have s_t := SF.ok_size ht
  simp only [SM.size]
  omega
theorem eqSM (u v : Bool) (f : SM) : Contract Try.prog 10 [.agg (f.cells u), .agg (f.cells v)] (.val (.bool true)) := by
  refine contract_intro (rs := [.val (.bool true)]) Try.func10 rfl rfl rfl rfl (by simp [Try.f10]) fun F hN hP => ?_
  refine w_sr mo (by rw [hN]; decide) fun K hK => ?_ -- region 0
  simp [SM.cells]
  refine hK _ ?_
  clear hK K
  refine w_seq ?_
  refine w_sr mo (by rw [hN]; decide) fun K hK => ?_ -- region 1
  simp
  refine callA_intro (c9 u v f.s) (.cons (.aggL SF.pur) (.cons (.aggL SF.pur) .nil)) ?_
  simp [unk, unA, unE, flat]
  refine hK _ ?_
  clear hK K
  refine w_cond rfl (fun h => by simp at h) fun _ => ?_
  refine w_skip ?_
  refine w_seq ?_
  refine w_sr mo (by rw [hN]; decide) fun K hK => ?_ -- region 3
  simp
  refine callA_intro (c9 u v f.t) (.cons (.aggL SF.pur) (.cons (.aggL SF.pur) .nil)) ?_
  simp [unk, unA, unE, flat]
  refine hK _ ?_
  clear hK K
  refine w_cond rfl (fun h => by simp at h) fun _ => ?_
  refine w_skip ?_
  refine w_seq ?_
  refine w_sr mo (by rw [hN]; decide) fun K hK => ?_ -- region 5
  simp
  refine callA_intro (c30 u v f.p) (.cons .lst (.cons .lst .nil)) ?_
  simp [unk, unA, unE, flat]
  refine hK _ ?_
  clear hK K
  refine w_cond rfl (fun h => by simp at h) fun _ => ?_
  refine w_skip ?_
  refine w_sr mo (by rw [hN]; decide) fun K hK => ?_ -- region 7
  simp
  refine hK _ ?_
  clear hK K
  refine w_ret (ret_val rfl rfl)

theorem heldSM (u : Bool) (f : SM) (k : Int) (hf : f.ok) (h2 : 0 ≤ k) (h3 : k + f.size ≤ 1152921504606846976) : Contract Try.prog 12 [.agg ((f.mark k).cells u), .val (.int .i64 k)] (.val (.int .i64 (k + f.size))) := by
  obtain ⟨hs, ht, hp1, hp2, hp3⟩ := hf
  have hz : f.size = f.s.size + f.t.size + sumL f.p := rfl
  refine contract_intro (rs := [.val (.int .i64 (k + f.size))]) Try.func12 rfl rfl rfl rfl (by simp [Try.f12]) fun F hN hP => ?_
  refine w_sr mo (by rw [hN]; decide) fun K hK => ?_ -- region 0
  simp [SM.cells, Cat.mark, SF.mark, SM.mark]
  refine hK _ ?_
  clear hK K
  refine w_sr mo (by rw [hN]; decide) fun K hK => ?_ -- region 1
  simp
  refine callA_intro (heldSF u f.s (k) hs (by omega) (by omega)) (.cons (.aggL (.cons .val (.cons .lst (.cons .lst (.cons .lst (.cons .lst (.cons .lst (.cons .lst .nil)))))))) (.cons .val .nil)) ?_
  simp [unk, unA, unE, flat]
  refine hK _ ?_
  clear hK K
  refine w_seq ?_
  refine w_sr mo (by rw [hN]; decide) fun K hK => ?_ -- region 2
  simp
  refine hK _ ?_
  clear hK K
  refine w_cond rfl (fun g => ?_) fun g => ?_
  · simp at g
    omega
  · refine w_skip ?_
    refine w_sr mo (by rw [hN]; decide) fun K hK => ?_ -- region 4
    simp
    refine callA_intro (heldSF u f.t (k + f.s.size) ht (by omega) (by omega)) (.cons (.aggL (.cons .val (.cons .lst (.cons .lst (.cons .lst (.cons .lst (.cons .lst (.cons .lst .nil)))))))) (.cons .val .nil)) ?_
    simp [unk, unA, unE, flat]
    refine hK _ ?_
    clear hK K
    refine w_seq ?_
    refine w_sr mo (by rw [hN]; decide) fun K hK => ?_ -- region 5
    simp
    refine hK _ ?_
    clear hK K
    refine w_cond rfl (fun g => ?_) fun g => ?_
    · simp at g
      omega
    · refine w_skip ?_
      refine w_sr mo (by rw [hN]; decide) fun K hK => ?_ -- region 7
      simp
      refine callA_intro (c54 u f.p (k + f.s.size + f.t.size) hp1 hp2 (by omega) (by omega)) (.cons .lst (.cons .val .nil)) ?_
      simp [unk, unA, unE, flat]
      refine hK _ ?_
      clear hK K
      refine w_seq ?_
      refine w_sr mo (by rw [hN]; decide) fun K hK => ?_ -- region 8
      simp
      refine hK _ ?_
      clear hK K
      refine w_cond rfl (fun g => ?_) fun g => ?_
      · simp at g
        omega
      · refine w_skip ?_
        refine w_sr mo (by rw [hN]; decide) fun K hK => ?_ -- region 10
        simp
        refine hK _ ?_
        clear hK K
        refine w_ret (ret_val rfl ?_)
        simp [hz, Int.add_assoc]

theorem toSM (u : Bool) (f : SM) (hf : f.ok) : Contract Try.prog 8 [.agg (f.cells u)] (.agg (f.cells true)) := by
  obtain ⟨hs, ht, hp1, hp2, hp3⟩ := hf
  refine contract_introC Try.func8 rfl rfl z35 rfl rfl (by simp [Try.f8]) fun F hN hP => ?_
  refine w_sr mo (by rw [hN]; decide) fun K hK => ?_ -- region 0
  simp [SM.cells]
  refine hK _ ?_
  clear hK K
  refine w_sr mo (by rw [hN]; decide) fun K hK => ?_ -- region 1
  simp
  refine hK _ ?_
  clear hK K
  refine w_sr mo (by rw [hN]; decide) fun K hK => ?_ -- region 2
  simp
  refine callA_intro (c6 u f.s hs) (.cons (.aggL SF.pur) .nil) ?_
  simp [unk, unA, unE, flat, unC, SF.cells]
  refine hK _ ?_
  clear hK K
  refine w_sr mo (by rw [hN]; decide) fun K hK => ?_ -- region 3
  simp
  refine callA_intro (c6 u f.t ht) (.cons (.aggL SF.pur) .nil) ?_
  simp [unk, unA, unE, flat, unC, SF.cells]
  refine hK _ ?_
  clear hK K
  refine w_sr mo (by rw [hN]; decide) fun K hK => ?_ -- region 4
  simp
  refine callA_intro (c20 u f.p hp1 hp2) (.cons .lst .nil) ?_
  simp [unk, unA, unE, flat]
  refine hK _ ?_
  clear hK K
  refine w_sr mo (by rw [hN]; decide) fun K hK => ?_ -- region 5
  simp
  refine hK _ ?_
  clear hK K
  refine w_ret ⟨_, _, _, _, _, rfl, rfl, by simp, by simp, ?_⟩
  exact ⟨.agg rfl .nil, [.val (.int .i64 f.s.s.n), .lst true 1 (Is f.s.s.fr), .lst true 1 (Is f.s.s.to), .lst true 1 (Is f.s.s.id), .lst true 1 (Ls f.s.s.cs), .lst true 1 (Is f.s.sz), .lst true 1 (Ls f.s.ac), .val (.int .i64 f.t.s.n), .lst true 1 (Is f.t.s.fr), .lst true 1 (Is f.t.s.to), .lst true 1 (Is f.t.s.id), .lst true 1 (Ls f.t.s.cs), .lst true 1 (Is f.t.sz), .lst true 1 (Ls f.t.ac), .lst true 1 (Ls f.p)], [4, 5, 6, 7, 8, 9, 11, 12, 13, 14, 15, 16, 17], by simp, by simp, UpL.refl _⟩

def szSM (l : Int) (f : SM) : Int := nn (szSF l f.s) fun a0 => nn (szSF a0 f.t) fun a1 => nn (lessSS a1 f.p) fun a2 => a2
theorem szSM_le {l : Int} {f : SM} (h : l ≤ 1048576) : szSM l f ≤ 1048576 := nn_le (fun x0 h0 _ => nn_le (fun x1 h1 _ => nn_le (fun x2 h2 _ => by rw [← h2]; exact lessSS_le (by rw [← h1]; exact szSF_le (by rw [← h0]; exact szSF_le h))) (by decide)) (by decide)) (by decide)
theorem szSM_ok {l : Int} {f : SM} (hl : l ≤ 1048576) (h : 0 ≤ szSM l f) : f.ok := by
  unfold szSM at h
  obtain ⟨p0, q0, _⟩ := nn_ok h
  have b0 := szSF_le (f := f.s) hl
  obtain ⟨p1, q1, _⟩ := nn_ok q0
  have b1 := szSF_le (f := f.t) b0
  obtain ⟨p2, q2, _⟩ := nn_ok q1
  obtain ⟨e2, e2a, e2b, _⟩ := lessSS_ok p2
  have b2 := lessSS_le (xs := f.p) b1
  exact ⟨szSF_okl hl p0, szSF_okl b0 p1, by omega, fun x hx => by have := e2b x hx; omega, by omega⟩

theorem cszSM (u : Bool) (f : SM) (l : Int) (h1 : 0 ≤ l) (h2 : l ≤ 1048576) : Contract Try.prog 6 [.agg (f.cells u), .val (.int .i64 l)] (.val (.int .i64 (szSM l f))) := by
  refine contract_intro (rs := [.val (.int .i64 (szSM l f))]) Try.func6 rfl rfl rfl rfl (by simp [Try.f6]) fun F hN hP => ?_
  refine w_sr mo (by rw [hN]; decide) fun K hK => ?_ -- region 0
  simp [SM.cells]
  refine hK _ ?_
  clear hK K
  refine w_sr mo (by rw [hN]; decide) fun K hK => ?_ -- region 1
  simp
  refine callA_intro (c4 u f.s (l) h1 (h2)) (.cons (.aggL SF.pur) (.cons .val .nil)) ?_
  simp [unk, unA, unE, flat]
  refine hK _ ?_
  clear hK K
  refine w_seq ?_
  refine w_sr mo (by rw [hN]; decide) fun K hK => ?_ -- region 2
  simp
  refine hK _ ?_
  clear hK K
  refine w_cond rfl (fun g1 => ?_) fun g1 => ?_
  · simp at g1
    refine w_sr mo (by rw [hN]; decide) fun K hK => ?_ -- region 3
    simp
    refine hK _ ?_
    clear hK K
    refine w_ret (ret_val rfl ?_)
    simp only [szSM, nn]
    rw [if_pos g1]
  · simp at g1
    refine w_skip ?_
    refine w_sr mo (by rw [hN]; decide) fun K hK => ?_ -- region 4
    simp
    refine callA_intro (c4 u f.t (szSF (l) f.s) g1 (szSF_le (h2))) (.cons (.aggL SF.pur) (.cons .val .nil)) ?_
    simp [unk, unA, unE, flat]
    refine hK _ ?_
    clear hK K
    refine w_seq ?_
    refine w_sr mo (by rw [hN]; decide) fun K hK => ?_ -- region 5
    simp
    refine hK _ ?_
    clear hK K
    refine w_cond rfl (fun g2 => ?_) fun g2 => ?_
    · simp at g2
      refine w_sr mo (by rw [hN]; decide) fun K hK => ?_ -- region 6
      simp
      refine hK _ ?_
      clear hK K
      refine w_ret (ret_val rfl ?_)
      simp only [szSM, nn]
      rw [if_neg (Int.not_lt.2 g1), if_pos g2]
    · simp at g2
      refine w_skip ?_
      refine w_sr mo (by rw [hN]; decide) fun K hK => ?_ -- region 7
      simp
      refine callA_intro (c15 u f.p (szSF (szSF (l) f.s) f.t) g2 (szSF_le (szSF_le (h2)))) (.cons .lst (.cons .val .nil)) ?_
      simp [unk, unA, unE, flat]
      refine hK _ ?_
      clear hK K
      refine w_seq ?_
      refine w_sr mo (by rw [hN]; decide) fun K hK => ?_ -- region 8
      simp
      refine hK _ ?_
      clear hK K
      refine w_cond rfl (fun g3 => ?_) fun g3 => ?_
      · simp at g3
        refine w_sr mo (by rw [hN]; decide) fun K hK => ?_ -- region 9
        simp
        refine hK _ ?_
        clear hK K
        refine w_ret (ret_val rfl ?_)
        simp only [szSM, nn]
        rw [if_neg (Int.not_lt.2 g1), if_neg (Int.not_lt.2 g2), if_pos g3]
      · simp at g3
        refine w_skip ?_
        refine w_sr mo (by rw [hN]; decide) fun K hK => ?_ -- region 10
        simp
        refine hK _ ?_
        clear hK K
        refine w_ret (ret_val rfl ?_)
        simp only [szSM, nn]
        rw [if_neg (Int.not_lt.2 g1), if_neg (Int.not_lt.2 g2), if_neg (Int.not_lt.2 g3)]

theorem markSM (f : SM) (k : Int) (hf : f.ok) (h2 : 0 ≤ k) (h3 : k + f.size ≤ 576460752303423488) :
    MContract Try.prog 11 [.agg [.val (.int .i64 f.s.s.n), .own 0 0 f.s.s.fr.length, .own 1 0 f.s.s.to.length, .own 2 0 f.s.s.id.length, .own 3 0 f.s.s.cs.length, .own 4 0 f.s.sz.length, .own 5 0 f.s.ac.length, .val (.int .i64 f.t.s.n), .own 6 0 f.t.s.fr.length, .own 7 0 f.t.s.to.length, .own 8 0 f.t.s.id.length, .own 9 0 f.t.s.cs.length, .own 10 0 f.t.sz.length, .own 11 0 f.t.ac.length, .own 12 0 f.p.length], .val (.int .i64 k)] (f.mu k) (.val (.int .i64 (k + f.size))) := by
  obtain ⟨hs, ht, hp1, hp2, hp3⟩ := hf
  have hz : f.size = f.s.size + f.t.size + sumL f.p := rfl
  refine mcontract_intro (ts := [4]) (rv := .int .i64 (k + f.size)) Try.func11 rfl rfl ?_ rfl (by simp [Try.f11]) ?_ fun F hN hP => ?_
  · have : (-9223372036854775808 ≤ k + f.size) ∧ k + f.size ≤ 9223372036854775807 := by omega
    simp [resV, this]
  · intro j hj
    simp only [SM.mu, List.length_cons, List.length_nil] at hj
    match j, hj with
    | 0, _ => simp [SM.mu, SM.mark, SF.mark, Cat.mark]
    | 1, _ => simp [SM.mu, SM.mark, SF.mark, Cat.mark]
    | 2, _ => simp [SM.mu, SM.mark, SF.mark, Cat.mark]
    | 3, _ => simp [SM.mu, SM.mark, SF.mark, Cat.mark]
    | 4, _ => simp [SM.mu, SM.mark, SF.mark, Cat.mark]
    | 5, _ => simp [SM.mu, SM.mark, SF.mark, Cat.mark]
    | 6, _ => simp [SM.mu, SM.mark, SF.mark, Cat.mark]
    | 7, _ => simp [SM.mu, SM.mark, SF.mark, Cat.mark]
    | 8, _ => simp [SM.mu, SM.mark, SF.mark, Cat.mark]
    | 9, _ => simp [SM.mu, SM.mark, SF.mark, Cat.mark]
    | 10, _ => simp [SM.mu, SM.mark, SF.mark, Cat.mark]
    | 11, _ => simp [SM.mu, SM.mark, SF.mark, Cat.mark]
    | 12, _ => simp [SM.mu, SM.mark, SF.mark, Cat.mark]
  refine w_sr mo (by rw [hN]; decide) fun K hK => ?_ -- region 0
  simp [ments, SM.mu]
  refine hK _ ?_
  clear hK K
  refine w_srM mo (by rw [hN]; decide) fun K hK => ?_ -- region 1
  simp
  refine callA_roots (m := [0, 1, 2, 3, 4, 5]) (m10 f.s (k) hs (by omega) (by omega)) (by decide) (.cons rfl (.cons rfl (.cons rfl (.cons rfl (.cons rfl (.cons rfl .nil)))))) (.cons (.aggL (.cons .val (.cons (.own (j := 0) (by decide)) (.cons (.own (j := 1) (by decide)) (.cons (.own (j := 2) (by decide)) (.cons (.own (j := 3) (by decide)) (.cons (.own (j := 4) (by decide)) (.cons (.own (j := 5) (by decide)) .nil)))))))) (.cons .val .nil)) rfl (by simp) ?_
  simp [rsets, SF.mu]
  refine hK _ ?_
  clear hK K
  refine w_srM mo (by rw [hN]; decide) fun K hK => ?_ -- region 2
  simp
  refine callA_roots (m := [6, 7, 8, 9, 10, 11]) (m10 f.t (k + f.s.size) ht (by omega) (by omega)) (by decide) (.cons rfl (.cons rfl (.cons rfl (.cons rfl (.cons rfl (.cons rfl .nil)))))) (.cons (.aggL (.cons .val (.cons (.own (j := 0) (by decide)) (.cons (.own (j := 1) (by decide)) (.cons (.own (j := 2) (by decide)) (.cons (.own (j := 3) (by decide)) (.cons (.own (j := 4) (by decide)) (.cons (.own (j := 5) (by decide)) .nil)))))))) (.cons .val .nil)) rfl (by simp) ?_
  simp [rsets, SF.mu]
  refine hK _ ?_
  clear hK K
  refine w_srM mo (by rw [hN]; decide) fun K hK => ?_ -- region 3
  simp
  refine callA_root (m33 f.p (k + f.s.size + f.t.size) hp1 hp2 (by omega) (by omega)) rfl (by simp) ?_
  simp
  refine hK _ ?_
  clear hK K
  refine w_sr mo (by rw [hN]; decide) fun K hK => ?_ -- region 4
  simp
  refine hK _ ?_
  clear hK K
  refine w_ret (mret ?_ ?_)
  · simp [hz, Int.add_assoc]
  · exact (.cons rfl (.cons rfl (.cons rfl (.cons rfl (.cons rfl (.cons rfl (.cons rfl (.cons rfl (.cons rfl (.cons rfl (.cons rfl (.cons rfl (.cons rfl .nil)))))))))))))

end Go.Vc.T

set_option maxRecDepth 100000
set_option linter.unusedSimpArgs false
set_option linter.unusedVariables false
namespace Go.Vc.T
open Go Go.Vc Go.Proofs

def cmpL : List Int → List Int → Int
  | [], [] => 0
  | [], _ :: _ => -1
  | _ :: _, [] => 1
  | a :: x, b :: y => if a = b then cmpL x y else if a < b then -1 else 1

theorem cmpL_zero : ∀ {x y : List Int}, cmpL x y = 0 ↔ x = y := by
  intro x
  induction x with
  | nil => intro y; cases y <;> simp [cmpL]
  | cons a x ih =>
    intro y
    cases y with
    | nil => simp [cmpL]
    | cons b y =>
      simp only [cmpL]
      by_cases h : a = b
      · rw [if_pos h, ih]; simp [h]
      · rw [if_neg h]
        split <;> simp [h]

theorem cmpL_drop {x y : List Int} {i : Nat} (h1 : i ≤ x.length) (h2 : i ≤ y.length) (h : x.take i = y.take i) : cmpL x y = cmpL (x.drop i) (y.drop i) := by
  induction i generalizing x y with
  | zero => simp
  | succ i ih =>
    cases x with
    | nil => simp at h1
    | cons a x =>
      cases y with
      | nil => simp at h2
      | cons b y =>
        simp only [List.take_succ_cons, List.cons.injEq] at h
        simp only [List.drop_succ_cons, cmpL]
        rw [if_pos h.1]
        exact ih (by simpa using h1) (by simpa using h2) h.2

theorem bo_iff {p q : Prop} (h : p ↔ q) : bo p = bo q := by rw [propext h]
theorem bo_dec {p : Prop} [Decidable p] : bo p = decide p := by by_cases h : p <;> simp [bo, h]

def SF.part (f g : SF) (p : List (List Int)) (x : Nat) : Prop := ((rx p x).length : Int) = ix f.sz x ∧ ∀ y ∈ rx p x, inR (ix g.sz x) y = true
structure SM.Sh (m : SM) : Prop where
  hs : m.s.Is
  ht : m.t.Is
  eq : m.s.s = m.t.s
  lp : m.p.length = m.s.sz.length
  pt : ∀ x : Nat, x < m.p.length → m.s.part m.t m.p x
def SM.nat (m : SM) (a e : Nat) : Prop := ix (rx m.p (ix m.s.s.to a)) (ix (rx m.s.ac a) e) = ix (rx m.t.ac a) (ix (rx m.p (ix m.s.s.fr a)) e)
open Classical in
noncomputable def SM.f1 (m : SM) (a e : Nat) : Option (Int × Int) := if m.nat a e then none else some ((a : Int), (e : Int))
noncomputable def SM.fault (m : SM) : Option (Int × Int) := first (fun a => first (fun e => m.f1 a e) (m.s.la a)) m.s.s.fr.length
def SM.Law (m : SM) : Prop := ∀ a, a < m.s.s.fr.length → ∀ e, e < m.s.la a → m.nat a e
def SM.Is (m : SM) : Prop := m.Sh ∧ m.Law

section
variable {m : SM}
theorem mfault_at {a e : Nat} (ha : a < m.s.s.fr.length) (he : e < m.s.la a) (h1 : ∀ y, y < a → ∀ e, e < m.s.la y → m.nat y e) (h2 : ∀ y, y < e → m.nat a y) (h3 : ¬ m.nat a e) : m.fault = some ((a : Int), (e : Int)) := by
  unfold SM.fault
  exact first_some (i := a) (fun j hj => first_none fun e he => by simp [SM.f1, h1 j hj e he]) (first_some (i := e) (fun j hj => by simp [SM.f1, h2 j hj]) (by simp [SM.f1, h3]) he) ha
theorem mfault_none (h : m.Law) : m.fault = none := first_none fun a ha => first_none fun e he => by simp [SM.f1, h a ha e he]
theorem mfault_neg : (m.fault.getD (-1, 0)).1 < 0 ↔ m.Law := by
  refine ⟨fun h => ?_, fun h => by rw [mfault_none h]; decide⟩
  cases hq : m.fault with
  | some x =>
    have := first_key (fun x : Int × Int => 0 ≤ x.1) (fun a x hx => first_key (fun x : Int × Int => 0 ≤ x.1) (fun e x hx => by
      simp only [SM.f1] at hx
      split at hx
      · cases hx
      · cases hx; exact Int.natCast_nonneg _) _ _ hx) _ _ hq
    rw [hq] at h
    simp only [Option.getD_some] at h
    omega
  | none =>
    intro a ha e he
    have := first_out (first_out hq a ha) e he
    simpa [SM.f1] using this
end
def two (k : Option (Int × Int)) : List AV := [.val (.int .i64 (k.getD (-1, 0)).1), .val (.int .i64 (k.getD (-1, 0)).2)]

def thenL (f g : List Int) : List Int := f.map (ix g)
def thenP (s t : List (List Int)) (n : Nat) : List (List Int) := (List.range n).map fun x : Nat => thenL (rx s x) (rx t x)
@[simp] theorem thenL_length (f g : List Int) : (thenL f g).length = f.length := by simp [thenL]
@[simp] theorem thenP_length (s t : List (List Int)) (n : Nat) : (thenP s t n).length = n := by simp [thenP]
theorem thenP_succ (s t : List (List Int)) (n : Nat) : thenP s t (n + 1) = thenP s t n ++ [thenL (rx s n) (rx t n)] := by simp [thenP, List.range_succ]
theorem thenL_take (f g : List Int) (i : Nat) (h : i < f.length) : thenL (f.take (i + 1)) g = thenL (f.take i) g ++ [ix g (ix f i)] := by
  rw [thenL, thenL, List.take_succ_eq_append_getElem h, List.map_append, at_ix _ _ h]; rfl

@[simp] theorem bo_true {p : Prop} : bo p = true ↔ p := by simp [bo]
@[simp] theorem bo_false {p : Prop} : bo p = false ↔ ¬ p := by simp [bo]
theorem bo_eq {b : Bool} {p : Prop} (h : b = true ↔ p) : Value.bool b = Value.bool (bo p) := by
  cases b
  · have : ¬ p := fun hp => by have := h.2 hp; cases this
    simp [bo, this]
  · simp [bo, h.1 rfl]
theorem Cat.eq_iff {c d : Cat} : c = d ↔ c.n = d.n ∧ c.fr = d.fr ∧ c.to = d.to ∧ c.id = d.id ∧ c.cs = d.cs := by cases c; cases d; simp
theorem SF.eq_iff {c d : SF} : c = d ↔ c.s = d.s ∧ c.sz = d.sz ∧ c.ac = d.ac := by cases c; cases d; simp

theorem n54 (ux uy : Bool) (xs ys : List Int) : Contract Try.prog 54 [.lst ux 1 (Is xs), .lst uy 1 (Is ys)] (.val (.bool (decide (xs = ys)))) := by
  refine contract_intro (rs := [.val (.bool (decide (xs = ys)))]) Try.func54 rfl rfl rfl rfl (by simp [Try.f54]) fun F hN hP => ?_
  refine w_good 0 fun h0 => ?_
  simp at h0
  obtain ⟨hl0, hb0⟩ := h0.is
  refine w_sr mo (by rw [hN]; decide) fun K hK => ?_
  simp
  refine hK _ ?_
  clear hK K
  refine w_seq (w_sr mo (by rw [hN]; decide) fun K hK => ?_)
  simp
  refine hK _ (w_cond rfl (fun h => ?_) fun h => ?_) <;> clear hK K
  · simp at h
    refine w_sr mo (by rw [hN]; decide) fun K hK => ?_
    simp
    refine hK _ (w_ret (ret_val rfl ?_))
    clear hK K
    simp
    rintro rfl; exact h rfl
  · simp at h
    refine w_skip ?_
    simp only [thenA]
    refine w_seq (w_sr mo (by rw [hN]; decide) fun K hK => ?_)
    simp
    refine hK _ (w_block ?_)
    clear hK K
    refine w_loop (fun i : Nat => ⟨[(0, .lst ux 1 (Is xs)), (1, .lst uy 1 (Is ys)), (5, .val (.int .i64 i))], [], 0⟩) (fun i => i ≤ xs.length ∧ xs.take i = ys.take i) (fun i => xs.length - i) 0 (by simp) (Wk.cut (by simp) rfl rfl) ?_
    rintro i ⟨hi, hti⟩
    refine w_seq (w_sr mo (by rw [hN]; decide) fun K hK => ?_)
    simp
    refine hK _ (w_cond rfl (fun h => ?_) fun h => ?_) <;> clear hK K
    · simp at h
      refine w_skip ?_
      simp only [thenA]
      refine w_seq (w_block (w_sr mo (by rw [hN]; decide) fun K hK => ?_))
      have h2 : i < ys.length := by omega
      simp [h, h2]
      refine hK _ (w_cond rfl (fun h => ?_) fun h => ?_) <;> clear hK K
      · simp at h
        refine w_sr mo (by rw [hN]; decide) fun K hK => ?_
        simp
        refine hK _ (w_ret (ret_val rfl ?_))
        clear hK K
        simp
        rintro rfl; exact h rfl
      · simp at h
        refine w_skip ?_
        simp
        refine w_run mo (by rw [hN]; decide) fun K hK => ?_
        simp
        refine hK _ ?_
        clear hK K
        refine ⟨i + 1, ⟨by omega, take_eq (by omega) h2 hti h⟩, by dsimp only; omega, Wk.cut ?_ rfl rfl⟩
        rw [wrap_succ (n := xs.length) (by omega) hl0]
        simp
    · simp at h
      refine w_exit ?_
      simp
      refine w_sr mo (by rw [hN]; decide) fun K hK => ?_
      simp
      refine hK _ (w_ret (ret_val rfl ?_))
      clear hK K
      rw [List.take_of_length_le (by omega), List.take_of_length_le (by omega)] at hti
      simp [hti]


theorem n55 (u v : Bool) (xs ys : List (List Int)) : Contract Try.prog 55 [.lst u 1 (Ls xs), .lst v 1 (Ls ys)] (.val (.bool (decide (xs = ys)))) := by
  refine contract_intro (rs := [.val (.bool (decide (xs = ys)))]) Try.func55 rfl rfl rfl rfl (by simp [Try.f55]) fun F hN hP => ?_
  refine w_good 0 fun h0 => ?_
  have hl0 : xs.length ≤ 9223372036854775807 := by simpa using good_len h0
  refine w_sr mo (by rw [hN]; decide) fun K hK => ?_ -- region 0
  simp
  refine hK _ ?_
  clear hK K
  refine w_seq ?_
  refine w_sr mo (by rw [hN]; decide) fun K hK => ?_ -- region 1
  simp
  refine hK _ ?_
  clear hK K
  refine w_cond rfl (fun h => ?_) fun h => ?_
  · simp at h
    refine w_sr mo (by rw [hN]; decide) fun K hK => ?_ -- region 2
    simp
    refine hK _ ?_
    clear hK K
    refine w_ret (ret_val rfl ?_)
    simp
    rintro rfl
    exact h rfl
  · simp at h
    have hl : xs.length = ys.length := by omega
    clear h
    refine w_skip ?_
    refine w_seq ?_
    refine w_sr mo (by rw [hN]; decide) fun K hK => ?_ -- region 3
    simp
    refine hK _ ?_
    clear hK K
    refine w_block ?_
    refine w_loop (fun i : Nat => ⟨[(0, .lst u 1 (Ls xs)), (1, .lst v 1 (Ls ys)), (5, .val (.int .i64 i))], [], 0⟩) (fun i => i ≤ xs.length ∧ xs.take i = ys.take i) (fun i => xs.length - i) 0 (by simp) (Wk.cut (by simp) (by simp) rfl) ?_
    rintro i ⟨hi, ht⟩
    refine w_seq ?_
    refine w_sr mo (by rw [hN]; decide) fun K hK => ?_ -- region 4
    simp
    refine hK _ ?_
    clear hK K
    refine w_cond rfl (fun h => ?_) fun h => ?_
    · simp at h
      have h2 : i < ys.length := by omega
      refine w_skip ?_
      refine w_seq ?_
      refine w_block ?_
      refine w_sr mo (by rw [hN]; decide) fun K hK => ?_ -- region 6 DRAWN
      simp [h, h2]
      refine callA_intro (n54 true true xs[i] ys[i]) (.cons .lst (.cons .lst .nil)) ?_
      simp [unk, unA, unE, flat]
      refine hK _ ?_
      clear hK K
      refine w_cond rfl (fun h3 => ?_) fun h3 => ?_
      · simp at h3
        refine w_sr mo (by rw [hN]; decide) fun K hK => ?_ -- region 7
        simp
        refine hK _ ?_
        clear hK K
        refine w_ret (ret_val rfl ?_)
        simp
        rintro rfl
        exact h3 rfl
      · simp at h3
        refine w_skip ?_
        refine w_run mo (by rw [hN]; decide) fun K hK => ?_ -- region 5
        simp
        refine hK _ ?_
        clear hK K
        rw [wrap_succ (n := xs.length) (by omega) (by omega)]
        refine ⟨i + 1, ⟨by omega, ?_⟩, by dsimp only; omega, Wk.relabel [] (by simp) (by simp) (by rw [hP]; simp) (by simp) (by simp) (by simp) (by simp)⟩
        rw [List.take_succ_eq_append_getElem h, List.take_succ_eq_append_getElem h2, ht, h3]
    · simp at h
      have hi2 : i = xs.length := by omega
      refine w_exit ?_
      simp
      refine w_sr mo (by rw [hN]; decide) fun K hK => ?_ -- region 8
      simp
      refine hK _ ?_
      clear hK K
      refine w_ret (ret_val rfl ?_)
      rw [hi2, List.take_length, hl, List.take_length] at ht
      simp [ht]

theorem n53 (u v : Bool) (c d : Cat) : Contract Try.prog 53 [.agg (c.cells u), .agg (d.cells v)] (.val (.bool (bo (c = d)))) := by
  refine contract_intro (rs := [.val (.bool (bo (c = d)))]) Try.func53 rfl rfl rfl rfl (by simp [Try.f53]) fun F hN hP => ?_
  refine w_sr mo (by rw [hN]; decide) fun K hK => ?_ -- region 0
  simp [Cat.cells]
  refine hK _ ?_
  clear hK K
  refine w_sr mo (by rw [hN]; decide) fun K hK => ?_ -- region 1
  refine join hK (fun b => ⟨[(4, .val (.bool b))], [], 0⟩) (c = d) (fun hJ => ?_) fun b hb => ?_
  · simp
    refine ⟨fun a0 => ?_, fun a0 => ?_⟩
    · refine callA_intro (n54 u v c.fr d.fr) (.cons .lst (.cons .lst .nil)) ?_
      simp [unk, unA, unE, flat]
      refine ⟨fun a1 => ?_, fun a1 => ?_⟩
      · refine callA_intro (n54 u v c.to d.to) (.cons .lst (.cons .lst .nil)) ?_
        simp [unk, unA, unE, flat]
        refine ⟨fun a2 => ?_, fun a2 => ?_⟩
        · refine callA_intro (n54 u v c.id d.id) (.cons .lst (.cons .lst .nil)) ?_
          simp [unk, unA, unE, flat]
          refine ⟨fun a3 => ?_, fun a3 => ?_⟩
          · refine callA_intro (n55 u v c.cs d.cs) (.cons .lst (.cons .lst .nil)) ?_
            simp [unk, unA, unE, flat]
            exact hJ (decide (c.cs = d.cs)) (by rw [Cat.eq_iff]; simp [a0, a1, a2, a3]) _ (Wk.relabel [] (by simp) (by simp) (by rw [hP]; simp) (by simp) (by simp) (by simp) (by simp))
          · exact hJ (false) (nope fun hp => a3 (by rw [hp])) _ (Wk.relabel [] (by simp) (by simp) (by rw [hP]; simp) (by simp) (by simp) (by simp) (by simp))
        · exact hJ (false) (nope fun hp => a2 (by rw [hp])) _ (Wk.relabel [] (by simp) (by simp) (by rw [hP]; simp) (by simp) (by simp) (by simp) (by simp))
      · exact hJ (false) (nope fun hp => a1 (by rw [hp])) _ (Wk.relabel [] (by simp) (by simp) (by rw [hP]; simp) (by simp) (by simp) (by simp) (by simp))
    · exact hJ (false) (nope fun hp => a0 (by rw [hp])) _ (Wk.relabel [] (by simp) (by simp) (by rw [hP]; simp) (by simp) (by simp) (by simp) (by simp))
  clear hK K
  refine w_ret (ret_val rfl (bo_eq hb))

theorem n20 (u v : Bool) (c d : SF) : Contract Try.prog 20 [.agg (c.cells u), .agg (d.cells v)] (.val (.bool (bo (c = d)))) := by
  refine contract_intro (rs := [.val (.bool (bo (c = d)))]) Try.func20 rfl rfl rfl rfl (by simp [Try.f20]) fun F hN hP => ?_
  refine w_sr mo (by rw [hN]; decide) fun K hK => ?_ -- region 0
  simp [SF.cells]
  refine hK _ ?_
  clear hK K
  refine w_sr mo (by rw [hN]; decide) fun K hK => ?_ -- region 1
  refine join hK (fun b => ⟨[(4, .val (.bool b))], [], 0⟩) (c = d) (fun hJ => ?_) fun b hb => ?_
  · simp
    refine callA_intro (n53 u v c.s d.s) (.cons (.aggL Cat.pur) (.cons (.aggL Cat.pur) .nil)) ?_
    simp [unk, unA, unE, flat]
    refine ⟨fun a0 => ?_, fun a0 => ?_⟩
    · refine callA_intro (n54 u v c.sz d.sz) (.cons .lst (.cons .lst .nil)) ?_
      simp [unk, unA, unE, flat]
      refine ⟨fun a1 => ?_, fun a1 => ?_⟩
      · refine callA_intro (n55 u v c.ac d.ac) (.cons .lst (.cons .lst .nil)) ?_
        simp [unk, unA, unE, flat]
        exact hJ (decide (c.ac = d.ac)) (by rw [SF.eq_iff]; simp [a0, a1]) _ (Wk.relabel [] (by simp) (by simp) (by rw [hP]; simp) (by simp) (by simp) (by simp) (by simp))
      · exact hJ (false) (nope fun hp => a1 (by rw [hp])) _ (Wk.relabel [] (by simp) (by simp) (by rw [hP]; simp) (by simp) (by simp) (by simp) (by simp))
    · exact hJ (false) (nope fun hp => a0 (by rw [hp])) _ (Wk.relabel [] (by simp) (by simp) (by rw [hP]; simp) (by simp) (by simp) (by simp) (by simp))
  clear hK K
  refine w_ret (ret_val rfl (bo_eq hb))

theorem n50 (u v : Bool) (f g : SF) : Contract Try.prog 50 [.agg (f.cells u), .agg (g.cells v)] (.val (.bool (bo (f.Is ∧ g.Is ∧ f.s = g.s)))) := by
  refine contract_intro (rs := [.val (.bool (bo (f.Is ∧ g.Is ∧ f.s = g.s)))]) Try.func50 rfl rfl rfl rfl (by simp [Try.f50]) fun F hN hP => ?_
  refine w_sr mo (by rw [hN]; decide) fun K hK => ?_ -- region 0
  simp [SF.cells]
  refine hK _ ?_
  clear hK K
  refine w_sr mo (by rw [hN]; decide) fun K hK => ?_ -- region 1
  refine join hK (fun b => ⟨[(4, .val (.bool b))], [], 0⟩) (f.Is ∧ g.Is ∧ f.s = g.s) (fun hJ => ?_) fun b hb => ?_
  · simp
    refine callA_intro (c16 u f) (.cons (.aggL SF.pur) .nil) ?_
    simp [unk, unA, unE, flat]
    refine ⟨fun a0 => ?_, fun a0 => ?_⟩
    · refine callA_intro (c16 v g) (.cons (.aggL SF.pur) .nil) ?_
      simp [unk, unA, unE, flat]
      refine ⟨fun a1 => ?_, fun a1 => ?_⟩
      · refine callA_intro (n53 u v f.s g.s) (.cons (.aggL Cat.pur) (.cons (.aggL Cat.pur) .nil)) ?_
        simp [unk, unA, unE, flat]
        exact hJ (bo (f.s = g.s)) (by simp [a0, a1]) _ (Wk.relabel [] (by simp) (by simp) (by rw [hP]; simp) (by simp) (by simp) (by simp) (by simp))
      · exact hJ (false) (nope fun hp => a1 hp.2.1) _ (Wk.relabel [] (by simp) (by simp) (by rw [hP]; simp) (by simp) (by simp) (by simp) (by simp))
    · exact hJ (false) (nope fun hp => a0 hp.1) _ (Wk.relabel [] (by simp) (by simp) (by rw [hP]; simp) (by simp) (by simp) (by simp) (by simp))
  clear hK K
  refine w_ret (ret_val rfl (bo_eq hb))

theorem n51 (u v w : Bool) (f g : SF) (p : List (List Int)) (hl : f.sz.length = g.sz.length) (hm : f.sz.length ≤ 1048576) : Contract Try.prog 51 [.agg (f.cells u), .agg (g.cells v), .lst w 1 (Ls p)] (.val (.bool (bo (p.length = f.sz.length ∧ ∀ x : Nat, x < p.length → f.part g p x)))) := by
  refine contract_intro (rs := [.val (.bool (bo (p.length = f.sz.length ∧ ∀ x : Nat, x < p.length → f.part g p x)))]) Try.func51 rfl rfl rfl rfl (by simp [Try.f51]) fun F hN hP => ?_
  refine w_sr mo (by rw [hN]; decide) fun K hK => ?_ -- region 0
  simp [SF.cells]
  refine hK _ ?_
  clear hK K
  refine w_seq ?_
  refine w_sr mo (by rw [hN]; decide) fun K hK => ?_ -- region 1
  simp
  refine hK _ ?_
  clear hK K
  refine w_cond rfl (fun h => ?_) fun h => ?_
  · simp at h
    refine w_sr mo (by rw [hN]; decide) fun K hK => ?_ -- region 2
    simp
    refine hK _ ?_
    clear hK K
    refine w_ret (ret_val rfl (bo_f fun hp => ?_))
    exact h (by omega)
  · simp at h
    have hl2 : p.length = f.sz.length := by omega
    clear h
    refine w_skip ?_
    refine w_seq ?_
    refine w_sr mo (by rw [hN]; decide) fun K hK => ?_ -- region 3
    simp
    refine hK _ ?_
    clear hK K
    refine w_block ?_
    refine w_loop (fun x : Nat => ⟨[(2, .lst w 1 (Ls p)), (3, .adr 0 0 0), (4, .adr 1 0 0), (7, .val (.int .i64 x))], [(0, .mix 7 [[.val (.int .i64 f.s.n), .lst u 1 (Is f.s.fr), .lst u 1 (Is f.s.to), .lst u 1 (Is f.s.id), .lst u 1 (Ls f.s.cs), .lst u 1 (Is f.sz), .lst u 1 (Ls f.ac)]]), (1, .mix 7 [[.val (.int .i64 g.s.n), .lst v 1 (Is g.s.fr), .lst v 1 (Is g.s.to), .lst v 1 (Is g.s.id), .lst v 1 (Ls g.s.cs), .lst v 1 (Is g.sz), .lst v 1 (Ls g.ac)]])], 2⟩) (fun x => x ≤ p.length ∧ ∀ y : Nat, y < x → f.part g p y) (fun x => p.length - x) 0 (by simp) (Wk.rel [(0, 0), (1, 1)] (by simp) (by simp) (by rw [hP]; simp) (by simp) (by simp) (by simp) (by simp [hhOk, back])) ?_
    rintro x ⟨hx0, hi⟩
    refine w_seq ?_
    refine w_sr mo (by rw [hN]; decide) fun K hK => ?_ -- region 4
    simp
    refine hK _ ?_
    clear hK K
    refine w_cond rfl (fun h => ?_) fun h => ?_
    · simp at h
      have hx : x < p.length := by omega
      clear h
      refine w_skip ?_
      refine w_seq ?_
      refine w_block ?_
      refine w_sr mo (by rw [hN]; decide) fun K hK => ?_ -- region 6 DRAWN
      refine join hK (fun b => ⟨[(2, .lst w 1 (Ls p)), (3, .adr 0 0 0), (4, .adr 1 0 0), (7, .val (.int .i64 x)), (43, .val (.bool b))], [(0, .mix 7 [[.val (.int .i64 f.s.n), .lst u 1 (Is f.s.fr), .lst u 1 (Is f.s.to), .lst u 1 (Is f.s.id), .lst u 1 (Ls f.s.cs), .lst u 1 (Is f.sz), .lst u 1 (Ls f.ac)]]), (1, .mix 7 [[.val (.int .i64 g.s.n), .lst v 1 (Is g.s.fr), .lst v 1 (Is g.s.to), .lst v 1 (Is g.s.id), .lst v 1 (Ls g.s.cs), .lst v 1 (Is g.sz), .lst v 1 (Ls g.ac)]])], 2⟩) (¬ f.part g p x) (fun hJ => ?_) fun b hb => ?_
      · simp [at_ix, at_rx, ix_max, rx_max, hx, show x < f.sz.length by omega, show x < g.sz.length by omega]
        refine ⟨fun a => ?_, fun a => ?_⟩
        · refine callA_intro (c57 true (rx p x) (ix g.sz x)) (.cons .val (.cons .lst .nil)) ?_
          simp [unk, unA, unE, flat]
          exact hJ (!(rx p x).all (inR (ix g.sz x))) (by simp [SF.part, a]) _ (Wk.rel [(0, 0), (1, 1)] (by simp) (by simp) (by rw [hP]; simp) (by simp) (by simp) (by simp) (by simp [hhOk, back]))
        · exact hJ (true) (yes fun hp => a hp.1) _ (Wk.rel [(0, 0), (1, 1)] (by simp) (by simp) (by rw [hP]; simp) (by simp) (by simp) (by simp) (by simp [hhOk, back]))
      clear hK K
      refine w_cond rfl (fun h => ?_) fun h => ?_
      · refine w_sr mo (by rw [hN]; decide) fun K hK => ?_ -- region 7
        simp
        refine hK _ ?_
        clear hK K
        refine w_ret (ret_val rfl (bo_f fun hp => ?_))
        exact hb.1 h (hp.2 x hx)
      · have hc : f.part g p x := Classical.byContradiction fun hn => by rw [hb.2 hn] at h; cases h
        refine w_skip ?_
        refine w_run mo (by rw [hN]; decide) fun K hK => ?_ -- region 5
        simp
        refine hK _ ?_
        clear hK K
        rw [wrap_succ (n := p.length) (by omega) (by omega)]
        refine ⟨x + 1, ⟨by omega, all_succ hi hc⟩, by dsimp only; omega, (Wk.rel [(0, 0), (1, 1)] (by simp) (by simp) (by rw [hP]; simp) (by simp) (by simp) (by simp) (by simp [hhOk, back]))⟩
    · simp at h
      have hx2 : p.length ≤ x := by omega
      clear h
      refine w_exit ?_
      simp
      refine w_sr mo (by rw [hN]; decide) fun K hK => ?_ -- region 8
      simp
      refine hK _ ?_
      clear hK K
      refine w_ret (ret_val rfl (bo_t ?_))
      exact ⟨hl2, fun y hy => hi y (by omega)⟩

theorem SM.Sh.lens {m : SM} (hm : m.Sh) : m.t.sz.length = m.s.sz.length ∧ m.t.ac.length = m.s.ac.length ∧ m.s.ac.length = m.s.s.fr.length ∧ (m.s.sz.length : Int) = m.s.s.n ∧ m.s.s.n ≤ 8 ∧ m.s.s.fr.length ≤ 40 ∧ m.s.s.to.length = m.s.s.fr.length ∧ (m.s.s.id.length : Int) = m.s.s.n := by
  have h1 := hm.hs.1.ls
  have h2 := hm.ht.1.ls
  have h3 := hm.hs.1.la
  have h4 := hm.ht.1.la
  have h5 := hm.hs.1.cat.1
  rw [← hm.eq] at h2 h4
  exact ⟨by omega, by omega, h3, h1, h5.n8, h5.m40, h5.lt, h5.li⟩
theorem SM.Sh.part' {m : SM} (hm : m.Sh) {j : Int} (h0 : 0 ≤ j) (h1 : j < m.p.length) : ((rx m.p j).length : Int) = ix m.s.sz j ∧ ∀ e : Int, 0 ≤ e → e < (rx m.p j).length → 0 ≤ ix (rx m.p j) e ∧ ix (rx m.p j) e < ix m.t.sz j := by
  have := hm.pt j.toNat (by omega)
  simp only [SF.part, Int.toNat_of_nonneg h0] at this
  exact ⟨this.1, fun e e0 e1 => all_ix this.2 e0 e1⟩

theorem n52 (u v w : Bool) (m : SM) (hm : m.Sh) : Contract Try.prog 52 [.agg (m.s.cells u), .agg (m.t.cells v), .lst w 1 (Ls m.p)] (.tup (two m.fault)) := by
  refine contract_intro (rs := two m.fault) Try.func52 rfl rfl rfl rfl (by simp [Try.f52]) fun F hN hP => ?_
  obtain ⟨l1, l2, l3, l4, l5, l6, l7, l8⟩ := hm.lens
  have hS := hm.hs.1
  have hT := hm.ht.1
  have hC := hS.cat.1
  have hp := hm.lp
  refine w_sr mo (by rw [hN]; decide) fun K hK => ?_ -- region 0
  simp [SF.cells]
  refine hK _ ?_
  clear hK K
  refine w_seq ?_
  refine w_sr mo (by rw [hN]; decide) fun K hK => ?_ -- region 1
  simp
  refine hK _ ?_
  clear hK K
  refine w_block ?_
  refine w_loop (fun a : Nat => ⟨[(2, .lst w 1 (Ls m.p)), (3, .adr 0 0 0), (4, .adr 1 0 0), (8, .val (.int .i64 a))], [(0, .mix 7 [[.val (.int .i64 m.s.s.n), .lst u 1 (Is m.s.s.fr), .lst u 1 (Is m.s.s.to), .lst u 1 (Is m.s.s.id), .lst u 1 (Ls m.s.s.cs), .lst u 1 (Is m.s.sz), .lst u 1 (Ls m.s.ac)]]), (1, .mix 7 [[.val (.int .i64 m.t.s.n), .lst v 1 (Is m.t.s.fr), .lst v 1 (Is m.t.s.to), .lst v 1 (Is m.t.s.id), .lst v 1 (Ls m.t.s.cs), .lst v 1 (Is m.t.sz), .lst v 1 (Ls m.t.ac)]])], 2⟩) (fun a => a ≤ m.s.s.fr.length ∧ ∀ y : Nat, y < a → ∀ e : Nat, e < m.s.la y → m.nat y e) (fun a => m.s.s.fr.length - a) 0 (by simp) (Wk.rel [(0, 0), (1, 1)] (by simp) (by simp) (by rw [hP]; simp) (by simp) (by simp) (by simp) (by simp [hhOk, back])) ?_
  rintro a ⟨ha0, hi0⟩
  refine w_seq ?_
  refine w_sr mo (by rw [hN]; decide) fun K hK => ?_ -- region 2
  simp
  refine hK _ ?_
  clear hK K
  refine w_cond rfl (fun h => ?_) fun h => ?_
  · simp at h
    have ha : a < m.s.s.fr.length := by omega
    clear h
    have c1 := hC.fr' (j := a) (by omega) (by omega)
    have c2 := hC.to' (j := a) (by omega) (by omega)
    have c3 := hS.len' (j := a) (by omega) (by omega)
    have c4 : (m.s.la a : Int) = ix m.s.sz (ix m.s.s.fr a) := c3
    have c5 := all_ix hS.sz (j := ix m.s.s.fr a) (by omega) (by omega)
    have p1 := hm.part' (j := ix m.s.s.fr a) (by omega) (by omega)
    have p2 := hm.part' (j := ix m.s.s.to a) (by omega) (by omega)
    have t3 := hT.len' (j := a) (by omega) (by rw [← hm.eq]; omega)
    rw [← hm.eq] at t3
    refine w_skip ?_
    refine w_seq ?_
    refine w_block ?_
    refine w_sr mo (by rw [hN]; decide) fun K hK => ?_ -- region 4 DRAWN
    simp [at_ix, at_rx, ix_max, rx_max, ha, show a < m.s.s.to.length by omega]
    refine hK _ ?_
    clear hK K
    refine w_sr mo (by rw [hN]; decide) fun K hK => ?_ -- region 5
    simp
    refine hK _ ?_
    clear hK K
    refine w_block ?_
    refine w_loop (fun e : Nat => ⟨[(2, .lst w 1 (Ls m.p)), (3, .adr 0 0 0), (4, .adr 1 0 0), (8, .val (.int .i64 a)), (9, .val (.int .i64 (ix m.s.s.fr a))), (10, .val (.int .i64 (ix m.s.s.to a))), (11, .val (.int .i64 e))], [(0, .mix 7 [[.val (.int .i64 m.s.s.n), .lst u 1 (Is m.s.s.fr), .lst u 1 (Is m.s.s.to), .lst u 1 (Is m.s.s.id), .lst u 1 (Ls m.s.s.cs), .lst u 1 (Is m.s.sz), .lst u 1 (Ls m.s.ac)]]), (1, .mix 7 [[.val (.int .i64 m.t.s.n), .lst v 1 (Is m.t.s.fr), .lst v 1 (Is m.t.s.to), .lst v 1 (Is m.t.s.id), .lst v 1 (Ls m.t.s.cs), .lst v 1 (Is m.t.sz), .lst v 1 (Ls m.t.ac)]])], 2⟩) (fun e => e ≤ m.s.la a ∧ ∀ y : Nat, y < e → m.nat a y) (fun e => m.s.la a - e) 0 (by simp) (Wk.rel [(0, 0), (1, 1)] (by simp) (by simp) (by rw [hP]; simp) (by simp) (by simp) (by simp) (by simp [hhOk, back])) ?_
    rintro e ⟨he0, hi1⟩
    refine w_seq ?_
    refine w_sr mo (by rw [hN]; decide) fun K hK => ?_ -- region 6
    simp [at_ix, at_rx, ix_max, rx_max, c1.1, show ix m.s.s.fr a < m.s.sz.length by omega]
    refine hK _ ?_
    clear hK K
    refine w_cond rfl (fun h => ?_) fun h => ?_
    · simp at h
      have he : e < m.s.la a := by first | omega | (simp only [SF.la]; omega)
      clear h
      have he3 : e < (rx m.s.ac a).length := he
      have v1 := hS.val' (j := a) (e := e) (by omega) (by omega) (by omega) (by omega)
      have v2 := p1.2 e (by omega) (by omega)
      refine w_skip ?_
      refine w_seq ?_
      refine w_block ?_
      refine w_sr mo (by rw [hN]; decide) fun K hK => ?_ -- region 8 DRAWN
      simp [at_ix, at_rx, ix_max, rx_max, c1.1, c2.1, v1.1, v2.1, he3, show ix (rx m.s.ac a) e < (rx m.p (ix m.s.s.to a)).length by omega, show ix (rx m.p (ix m.s.s.fr a)) e < (rx m.t.ac a).length by omega, show e < (rx m.p (ix m.s.s.fr a)).length by omega, show e < (rx m.s.ac a).length by omega, show a < m.t.ac.length by omega, show a < m.s.ac.length by omega, show a < m.s.s.to.length by omega, show ix m.s.s.to a < m.p.length by omega, show ix m.s.s.fr a < m.p.length by omega]
      refine hK _ ?_
      clear hK K
      refine w_cond rfl (fun h => ?_) fun h => ?_
      · simp at h
        have hn : ¬ m.nat a e := h
        refine w_sr mo (by rw [hN]; decide) fun K hK => ?_ -- region 9
        simp
        refine hK _ ?_
        clear hK K
        refine w_ret ?_
        rw [mfault_at ha he hi0 hi1 hn]
        refine ⟨.one rfl rfl (.one rfl rfl .nil), _, [], rfl, by simp, UpL.refl _⟩
      · simp at h
        have hc : m.nat a e := h
        refine w_skip ?_
        refine w_run mo (by rw [hN]; decide) fun K hK => ?_ -- region 7
        simp
        refine hK _ ?_
        clear hK K
        rw [wrap_succ (n := m.s.la a) (by omega) (by omega)]
        refine ⟨e + 1, ⟨by omega, all_succ hi1 hc⟩, by dsimp only; omega, (Wk.rel [(0, 0), (1, 1)] (by simp) (by simp) (by rw [hP]; simp) (by simp) (by simp) (by simp) (by simp [hhOk, back]))⟩
    · simp at h
      have he2 : m.s.la a ≤ e := by first | omega | (simp only [SF.la]; omega)
      clear h
      refine w_exit ?_
      simp
      refine w_run mo (by rw [hN]; decide) fun K hK => ?_ -- region 3
      simp
      refine hK _ ?_
      clear hK K
      rw [wrap_succ (n := m.s.s.fr.length) (by omega) (by omega)]
      refine ⟨a + 1, ⟨by omega, all_succ hi0 fun y hy => hi1 y (by omega)⟩, by dsimp only; omega, (Wk.rel [(0, 0), (1, 1)] (by simp) (by simp) (by rw [hP]; simp) (by simp) (by simp) (by simp) (by simp [hhOk, back]))⟩
  · simp at h
    have ha2 : m.s.s.fr.length ≤ a := by omega
    clear h
    refine w_exit ?_
    simp
    refine w_sr mo (by rw [hN]; decide) fun K hK => ?_ -- region 10
    simp
    refine hK _ ?_
    clear hK K
    refine w_ret ?_
    rw [mfault_none fun y hy => hi0 y (by omega)]
    refine ⟨.one rfl rfl (.one rfl rfl .nil), _, [], rfl, by simp, UpL.refl _⟩

theorem n74 (u : Bool) (m : SM) (hm : m.Sh) : Contract Try.prog 74 [.rptr (m.cells u)] (.tup (two m.fault)) := by
  refine contract_intro (rs := two m.fault) Try.func74 rfl rfl rfl rfl (by simp [Try.f74]) fun F hN hP => ?_
  obtain ⟨l1, l2, l3, l4, l5, l6, l7, l8⟩ := hm.lens
  have hS := hm.hs.1
  have hT := hm.ht.1
  have hC := hS.cat.1
  have hp := hm.lp
  simp only [SM.cells]
  refine w_sr mo (by rw [hN]; decide) fun K hK => ?_ -- region 0
  simp
  refine hK _ ?_
  clear hK K
  refine w_sr mo (by rw [hN]; decide) fun K hK => ?_ -- region 1
  simp
  refine hK _ ?_
  clear hK K
  refine w_seq ?_
  refine w_sr mo (by rw [hN]; decide) fun K hK => ?_ -- region 2
  simp
  refine hK _ ?_
  clear hK K
  refine w_block ?_
  refine w_loop (fun a : Nat => ⟨[(0, .rptr [.val (.int .i64 m.s.s.n), .lst u 1 (Is m.s.s.fr), .lst u 1 (Is m.s.s.to), .lst u 1 (Is m.s.s.id), .lst u 1 (Ls m.s.s.cs), .lst u 1 (Is m.s.sz), .lst u 1 (Ls m.s.ac), .val (.int .i64 m.t.s.n), .lst u 1 (Is m.t.s.fr), .lst u 1 (Is m.t.s.to), .lst u 1 (Is m.t.s.id), .lst u 1 (Ls m.t.s.cs), .lst u 1 (Is m.t.sz), .lst u 1 (Ls m.t.ac), .lst u 1 (Ls m.p)]), (4, .rptr [.val (.int .i64 m.s.s.n), .lst u 1 (Is m.s.s.fr), .lst u 1 (Is m.s.s.to), .lst u 1 (Is m.s.s.id), .lst u 1 (Ls m.s.s.cs), .lst u 1 (Is m.s.sz), .lst u 1 (Ls m.s.ac), .val (.int .i64 m.t.s.n), .lst u 1 (Is m.t.s.fr), .lst u 1 (Is m.t.s.to), .lst u 1 (Is m.t.s.id), .lst u 1 (Ls m.t.s.cs), .lst u 1 (Is m.t.sz), .lst u 1 (Ls m.t.ac), .lst u 1 (Ls m.p)]), (15, .lst u 1 (Is m.s.s.fr)), (16, .val (.int .i64 m.s.s.fr.length)), (17, .val (.int .i64 a))], [], 0⟩) (fun a => a ≤ m.s.s.fr.length ∧ ∀ y : Nat, y < a → ∀ e : Nat, e < m.s.la y → m.nat y e) (fun a => m.s.s.fr.length - a) 0 (by simp) (Wk.relabel [] (by simp) (by simp) (by rw [hP]; simp) (by simp) (by simp) (by simp) (by simp)) ?_
  rintro a ⟨ha0, hi0⟩
  refine w_sr mo (by rw [hN]; decide) fun K hK => ?_ -- region 3
  simp
  refine hK _ ?_
  clear hK K
  refine w_seq ?_
  refine w_cond rfl (fun h => ?_) fun h => ?_
  · simp at h
    have ha : a < m.s.s.fr.length := by omega
    clear h
    have c1 := hC.fr' (j := a) (by omega) (by omega)
    have c2 := hC.to' (j := a) (by omega) (by omega)
    have c3 := hS.len' (j := a) (by omega) (by omega)
    have c4 : (m.s.la a : Int) = ix m.s.sz (ix m.s.s.fr a) := c3
    have c5 := all_ix hS.sz (j := ix m.s.s.fr a) (by omega) (by omega)
    have p1 := hm.part' (j := ix m.s.s.fr a) (by omega) (by omega)
    have p2 := hm.part' (j := ix m.s.s.to a) (by omega) (by omega)
    have t3 := hT.len' (j := a) (by omega) (by rw [← hm.eq]; omega)
    rw [← hm.eq] at t3
    refine w_skip ?_
    refine w_seq ?_
    refine w_block ?_
    refine w_sr mo (by rw [hN]; decide) fun K hK => ?_ -- region 4
    simp
    refine hK _ ?_
    clear hK K
    refine w_sr mo (by rw [hN]; decide) fun K hK => ?_ -- region 5
    simp [at_ix, at_rx, ix_max, rx_max, show a < m.s.ac.length by omega]
    refine hK _ ?_
    clear hK K
    refine w_block ?_
    refine w_loop (fun e : Nat => ⟨[(0, .rptr [.val (.int .i64 m.s.s.n), .lst u 1 (Is m.s.s.fr), .lst u 1 (Is m.s.s.to), .lst u 1 (Is m.s.s.id), .lst u 1 (Ls m.s.s.cs), .lst u 1 (Is m.s.sz), .lst u 1 (Ls m.s.ac), .val (.int .i64 m.t.s.n), .lst u 1 (Is m.t.s.fr), .lst u 1 (Is m.t.s.to), .lst u 1 (Is m.t.s.id), .lst u 1 (Ls m.t.s.cs), .lst u 1 (Is m.t.sz), .lst u 1 (Ls m.t.ac), .lst u 1 (Ls m.p)]), (4, .rptr [.val (.int .i64 m.s.s.n), .lst u 1 (Is m.s.s.fr), .lst u 1 (Is m.s.s.to), .lst u 1 (Is m.s.s.id), .lst u 1 (Ls m.s.s.cs), .lst u 1 (Is m.s.sz), .lst u 1 (Ls m.s.ac), .val (.int .i64 m.t.s.n), .lst u 1 (Is m.t.s.fr), .lst u 1 (Is m.t.s.to), .lst u 1 (Is m.t.s.id), .lst u 1 (Ls m.t.s.cs), .lst u 1 (Is m.t.sz), .lst u 1 (Ls m.t.ac), .lst u 1 (Ls m.p)]), (15, .lst u 1 (Is m.s.s.fr)), (16, .val (.int .i64 m.s.s.fr.length)), (17, .val (.int .i64 a)), (5, .val (.int .i64 a)), (27, .lst true 1 (Is (rx m.s.ac a))), (28, .val (.int .i64 (rx m.s.ac a).length)), (29, .val (.int .i64 e))], [], 0⟩) (fun e => e ≤ m.s.la a ∧ ∀ y : Nat, y < e → m.nat a y) (fun e => m.s.la a - e) 0 (by simp) (Wk.relabel [] (by simp) (by simp) (by rw [hP]; simp) (by simp) (by simp) (by simp) (by simp)) ?_
    rintro e ⟨he0, hi1⟩
    refine w_sr mo (by rw [hN]; decide) fun K hK => ?_ -- region 6
    simp
    refine hK _ ?_
    clear hK K
    refine w_seq ?_
    refine w_cond rfl (fun h => ?_) fun h => ?_
    · simp at h
      have he : e < m.s.la a := by first | omega | (simp only [SF.la]; omega)
      clear h
      have he3 : e < (rx m.s.ac a).length := he
      have v1 := hS.val' (j := a) (e := e) (by omega) (by omega) (by omega) (by omega)
      have v2 := p1.2 e (by omega) (by omega)
      refine w_skip ?_
      refine w_seq ?_
      refine w_block ?_
      refine w_sr mo (by rw [hN]; decide) fun K hK => ?_ -- region 7
      simp [at_ix, at_rx, ix_max, rx_max, he3]
      refine hK _ ?_
      clear hK K
      refine w_sr mo (by rw [hN]; decide) fun K hK => ?_ -- region 8 DRAWN
      simp [at_ix, at_rx, ix_max, rx_max, ha, c1.1, c2.1, v1.1, v2.1, show ix (rx m.s.ac a) e < (rx m.p (ix m.s.s.to a)).length by omega, show ix (rx m.p (ix m.s.s.fr a)) e < (rx m.t.ac a).length by omega, show e < (rx m.p (ix m.s.s.fr a)).length by omega, show e < (rx m.s.ac a).length by omega, show a < m.t.ac.length by omega, show a < m.s.ac.length by omega, show a < m.s.s.to.length by omega, show ix m.s.s.to a < m.p.length by omega, show ix m.s.s.fr a < m.p.length by omega]
      refine hK _ ?_
      clear hK K
      refine w_cond rfl (fun h => ?_) fun h => ?_
      · simp at h
        have hn : ¬ m.nat a e := h
        refine w_sr mo (by rw [hN]; decide) fun K hK => ?_ -- region 9
        simp
        refine hK _ ?_
        clear hK K
        refine w_ret ?_
        rw [mfault_at ha he hi0 hi1 hn]
        refine ⟨.one rfl rfl (.one rfl rfl .nil), _, [], rfl, by simp, UpL.refl _⟩
      · simp at h
        have hc : m.nat a e := h
        refine w_skip ?_
        refine w_run mo (by rw [hN]; decide) fun K hK => ?_ -- region 10
        simp
        refine hK _ ?_
        clear hK K
        rw [wrap_succ (n := m.s.la a) (by omega) (by omega)]
        refine ⟨e + 1, ⟨by omega, all_succ hi1 hc⟩, by dsimp only; omega, (Wk.relabel [] (by simp) (by simp) (by rw [hP]; simp) (by simp) (by simp) (by simp) (by simp))⟩
    · simp at h
      have he2 : m.s.la a ≤ e := by first | omega | (simp only [SF.la]; omega)
      clear h
      refine w_exit ?_
      simp
      refine w_run mo (by rw [hN]; decide) fun K hK => ?_ -- region 11
      simp
      refine hK _ ?_
      clear hK K
      rw [wrap_succ (n := m.s.s.fr.length) (by omega) (by omega)]
      refine ⟨a + 1, ⟨by omega, all_succ hi0 fun y hy => hi1 y (by omega)⟩, by dsimp only; omega, (Wk.relabel [] (by simp) (by simp) (by rw [hP]; simp) (by simp) (by simp) (by simp) (by simp))⟩
  · simp at h
    have ha2 : m.s.s.fr.length ≤ a := by omega
    clear h
    refine w_exit ?_
    simp
    refine w_sr mo (by rw [hN]; decide) fun K hK => ?_ -- region 12
    simp
    refine hK _ ?_
    clear hK K
    refine w_ret ?_
    rw [mfault_none fun y hy => hi0 y (by omega)]
    refine ⟨.one rfl rfl (.one rfl rfl .nil), _, [], rfl, by simp, UpL.refl _⟩

end Go.Vc.T
